/- ZB -/
import Derived.Test.YtmfjmgjhfplijaaGreatDoorMZA
import Derived.Test.YtmfjmgjhfplijaaGreatDoorMTv
set_option linter.unusedVariables false
set_option linter.unusedSimpArgs false
set_option maxHeartbeats 8000000
namespace Go.Proofs.YtmfjmgjhfplijaaGreatDoor
open Go.RowKit
def forceI {α : Type} (n : Int) (k : Int → α) : α:=match n with
 | .ofNat m=>match m with
  | 0=>k 0
  | m' + 1=>k (Int.ofNat (m' + 1))
 | .negSucc m=>k (.negSucc m)
theorem forceI_eq {α : Type} (n : Int) (k : Int → α) : forceI n k = k n:=by
 match n with
 | .ofNat 0=>rfl
 | .ofNat (m + 1)=>rfl
 | .negSucc m=>rfl
def bitsL : Nat → Int → List Nat
 | 0,_=>[]
 | f + 1,n=>tz32 n :: forceI (bits .and .u32 n ((n - 1) % 4294967296)) (bitsL f)
theorem bitsL_at : ∀ (f : Nat) (n : Int) (j : Nat),j < f → (bitsL f n)[j]? = some (tz32 (clr n j)):=by
 intro f
 induction f with
 | zero=>intro n j h;omega
 | succ f ih=>
  intro n j h
  rw [bitsL,forceI_eq]
  cases j with
  | zero=>rfl
  | succ j=>rw [List.getElem?_cons_succ,ih _ j (by omega),clr]
def dg (b : UInt8) : Nat:=(dig (b.toNat : Int)).toNat
def bit7 (c : List Nat) (i : Nat) : Bool:=decide (c.getD (6 - i / 4) 0 / 2 ^ (i % 4) % 2 = 1)
def val7 (c : List Nat) : Int:=c.foldl (fun (a : Int) (d : Nat)=>a * 16 + (d : Int)) 0
def chkP (v : Int) (P : List Nat) : Bool:=pop32 v.toNat == P.length && P == bitsL P.length v
def chkW (c : List Nat) (v : Int) (within : Bool) : Bool:=chkP v ((List.range 28).filter fun i=>bit7 c i == within)
def chkOwn (c : List Nat) (v : Int) : Bool:=(List.range 28).all fun i=>decide (bits .and .u32 v (2 ^ i % 4294967296) = 0) == !bit7 c i
def chkC (c : List Nat) : Bool:=forceI (val7 c) fun v=>chkW c v true && forceI (bits .xor .u32 v 268435455) (fun u=>chkW c u false) && chkOwn c v
def chkAll : List UInt8 → Bool
 | a :: b :: c :: d :: e :: f :: g :: r=>chkC [dg a,dg b,dg c,dg d,dg e,dg f,dg g] && chkAll r
 | _=>true
set_option maxRecDepth 100000 in
theorem chk_members : chkAll (bl membersB) = true:=by decide +kernel
def c7 (l : List UInt8) : List Nat:=[dg (l.getD 0 0),dg (l.getD 1 0),dg (l.getD 2 0),dg (l.getD 3 0),dg (l.getD 4 0),dg (l.getD 5 0),dg (l.getD 6 0)]
theorem chkAll_at : ∀ (g : Nat) (l : List UInt8),chkAll l = true → g * 7 + 7 ≤ l.length → chkC (c7 (l.drop (g * 7))) = true:=by
 intro g
 induction g with
 | zero=>
  intro l h hl
  match l,hl with
  | a :: b :: c :: d :: e :: f :: g :: r,_=>
   rw [chkAll,Bool.and_eq_true] at h
   exact h.1
 | succ g ih=>
  intro l h hl
  match l,hl with
  | a :: b :: c :: d :: e :: f :: g' :: r,hl=>
   rw [chkAll,Bool.and_eq_true] at h
   have h1:=ih r h.2 (by simp only [List.length_cons] at hl;omega)
   have e : (g + 1) * 7 = g * 7 + 7:=by omega
   rw [e]
   exact h1
theorem c7_nib (g : Nat) : c7 ((bl membersB).drop (g * 7)) = [nib (g * 7),nib (g * 7 + 1),nib (g * 7 + 2),nib (g * 7 + 3),nib (g * 7 + 4),nib (g * 7 + 5),nib (g * 7 + 6)]:=by
 unfold c7 nib memAt dg
 simp only [List.getD_eq_getElem?_getD,List.getElem?_drop,Nat.add_zero]
theorem nibs_at (g j : Nat) (h : j ≤ 6) : [nib (g * 7),nib (g * 7 + 1),nib (g * 7 + 2),nib (g * 7 + 3),nib (g * 7 + 4),nib (g * 7 + 5),nib (g * 7 + 6)].getD j 0 = nib (g * 7 + j):=by
 match j,h with
 | 0,_=>rfl
 | 1,_=>rfl
 | 2,_=>rfl
 | 3,_=>rfl
 | 4,_=>rfl
 | 5,_=>rfl
 | 6,_=>rfl
theorem val7_grp (g : Nat) (hg : g < 399) : val7 (c7 ((bl membersB).drop (g * 7))) = grp g:=by
 rw [c7_nib]
 unfold grp
 simp only [grpF,val7,List.foldl]
 rw [nib_dig _ (by omega),nib_dig _ (by omega),nib_dig _ (by omega),nib_dig _ (by omega),nib_dig _ (by omega),nib_dig _ (by omega),nib_dig _ (by omega)]
 simp only [Nat.add_zero]
noncomputable def inN (n : Nat) : Bool:=decide (nib (n / 28 * 7 + 6 - n % 28 / 4) / 2 ^ (n % 28 % 4) % 2 = 1)
theorem inN_bit (g i : Nat) (hi : i < 28) : inN (28 * g + i) = bit7 (c7 ((bl membersB).drop (g * 7))) i:=by
 unfold inN bit7
 rw [c7_nib,nibs_at _ _ (by omega),show (28 * g + i) / 28 = g from by omega,show (28 * g + i) % 28 = i from by omega,show g * 7 + 6 - i / 4 = g * 7 + (6 - i / 4) from by omega]
theorem chk_grp (g : Nat) (hg : g < 399) : chkC (c7 ((bl membersB).drop (g * 7))) = true:=
 chkAll_at g _ chk_members (by rw [bl_length,members_size];omega)
theorem grp_pos (within : Bool) (g : Nat) (hg : g < 399) : ∃ P : List Nat,(List.range' (28 * g) 28).filter (fun n=>inN n == within) = P.map (fun i=>28 * g + i) ∧ pop32 (grpW within g).toNat = P.length ∧ P = bitsL P.length (grpW within g):=by
 refine ⟨(List.range 28).filter fun i=>bit7 (c7 ((bl membersB).drop (g * 7))) i == within,?_,?_⟩
 · rw [List.range'_eq_map_range,List.filter_map]
   congr 1
   refine List.filter_congr fun i hi=>?_
   rw [List.mem_range] at hi
   simp only [Function.comp]
   rw [inN_bit g i hi]
 · have h:=chk_grp g hg
   unfold chkC at h
   rw [forceI_eq,forceI_eq,val7_grp g hg,Bool.and_eq_true,Bool.and_eq_true] at h
   have h2 : chkW (c7 ((bl membersB).drop (g * 7))) (grpW within g) within = true:=by
    cases within
    · exact h.1.2
    · exact h.1.1
   unfold chkW chkP at h2
   rw [Bool.and_eq_true,beq_iff_eq,beq_iff_eq] at h2
   exact h2
noncomputable def kthF (within : Bool) : Nat → Nat → Nat → Int
 | 0,_,_=>0
 | f + 1,n,k=>if inN n = within then (if k = 0 then 44032 + (n : Int) else kthF within f (n + 1) (k - 1)) else kthF within f (n + 1) k
noncomputable def kthM (k : Int) (within : Bool) : Int:=if k < 0 then 0 else kthF within 11172 0 k.toNat
theorem kthF_some (within : Bool) : ∀ (m f n k x : Nat),((List.range' n m).filter fun i=>inN i == within)[k]? = some x → kthF within (m + f) n k = 44032 + (x : Int):=by
 intro m
 induction m with
 | zero=>intro f n k x h;simp at h
 | succ m ih=>
  intro f n k x h
  rw [show m + 1 + f = (m + f) + 1 from by omega,kthF]
  rw [List.range'_succ,List.filter_cons] at h
  by_cases hw : inN n = within
  · rw [if_pos hw]
    rw [if_pos (show (inN n == within) = true from by simpa using hw)] at h
    cases k with
    | zero=>rw [if_pos rfl];simp at h;rw [h]
    | succ k=>rw [if_neg (by omega)];exact ih f (n + 1) k x (by simpa using h)
  · rw [if_neg hw]
    rw [if_neg (show ¬ (inN n == within) = true from by simpa using hw)] at h
    exact ih f (n + 1) k x h
theorem kthF_none (within : Bool) : ∀ (m f n k : Nat),((List.range' n m).filter fun i=>inN i == within).length ≤ k → kthF within (m + f) n k = kthF within f (n + m) (k - ((List.range' n m).filter fun i=>inN i == within).length):=by
 intro m
 induction m with
 | zero=>intro f n k h;simp
 | succ m ih=>
  intro f n k h
  rw [show m + 1 + f = (m + f) + 1 from by omega,kthF]
  rw [List.range'_succ,List.filter_cons] at h ⊢
  by_cases hw : inN n = within
  · rw [if_pos hw]
    rw [if_pos (show (inN n == within) = true from by simpa using hw)] at h ⊢
    rw [List.length_cons] at h ⊢
    rw [if_neg (by omega),ih f (n + 1) (k - 1) (by omega),show n + 1 + m = n + (m + 1) from by omega,Nat.sub_sub,Nat.add_comm 1]
  · rw [if_neg hw]
    rw [if_neg (show ¬ (inN n == within) = true from by simpa using hw)] at h ⊢
    rw [ih f (n + 1) k h,show n + 1 + m = n + (m + 1) from by omega]
def optZ (p : Int) : Int × Bool:=if p = 0 then (0,false) else (p,true)
theorem optZ_some (p : Int) (h : p ≠ 0) : optZ p = (p,true):=if_neg h
theorem kth_choose (within : Bool) : ∀ (f g k : Nat),g + f = 399 → chooseF within f g k = optZ (kthF within (28 * f) (28 * g) k):=by
 intro f
 induction f with
 | zero=>intro g k h;rfl
 | succ f ih=>
  intro g k h
  obtain ⟨P,hP,hlen,hbits⟩:=grp_pos within g (by omega)
  rw [show 28 * (f + 1) = 28 + 28 * f from by omega,chooseF]
  by_cases hk : pop32 (grpW within g).toNat ≤ k
  · rw [if_pos hk,kthF_none within 28 (28 * f) (28 * g) k (by rw [hP,List.length_map];omega),hP,List.length_map,← hlen,show 28 * g + 28 = 28 * (g + 1) from by omega]
    exact ih (g + 1) _ (by omega)
  · rw [if_neg hk]
    have h1 : P[k]? = some (tz32 (clr (grpW within g) k)):=by rw [hbits];exact bitsL_at _ _ _ (by omega)
    rw [kthF_some within 28 (28 * f) (28 * g) k (28 * g + tz32 (clr (grpW within g) k)) (by rw [hP,List.getElem?_map,h1];rfl)]
    rw [optZ_some _ (by omega),show (44032 : Int) + (g : Int) * 28 + (tz32 (clr (grpW within g) k) : Nat) = 44032 + ((28 * g + tz32 (clr (grpW within g) k) : Nat) : Int) from by omega]
theorem kthM_eq (k : Int) (within : Bool) : chooseM k within = optZ (kthM k within):=by
 unfold kthM chooseM
 by_cases h : k < 0
 · rw [if_pos h,if_pos h];rfl
 · rw [if_neg h,if_neg h]
   exact kth_choose within 399 0 k.toNat rfl
theorem members_count : sumL ((bl membersB).take 2793) 0 = 2350:=by decide +kernel
theorem popSum_end : popSum 399 = 2350:=by rw [popSum_nibs 399 (by omega),nibs_sum _ (by omega)];exact members_count
theorem choose_lt : ∀ (f g k : Nat),(chooseF true f g k).2 = true → k + popSum g < popSum (g + f):=by
 intro f
 induction f with
 | zero=>intro g k h;exact absurd h (by rw [chooseF];decide)
 | succ f ih=>
  intro g k h
  rw [chooseF] at h
  by_cases hk : pop32 (grpW true g).toNat ≤ k
  · rw [if_pos hk] at h
    have h1:=ih _ _ h
    rw [popSum,show grp g = grpW true g from rfl,show g + 1 + f = g + (f + 1) from by omega] at h1
    omega
  · have h2 : popSum (g + 1) ≤ popSum (g + (f + 1)):=by
     have : ∀ d,popSum (g + 1) ≤ popSum (g + 1 + d):=by
      intro d
      induction d with
      | zero=>exact Nat.le_refl _
      | succ d ihd=>exact Nat.le_trans ihd (by rw [show g + 1 + (d + 1) = (g + 1 + d) + 1 from rfl,popSum];omega)
     have:=this f
     rwa [show g + 1 + f = g + (f + 1) from by omega] at this
    rw [popSum,show grp g = grpW true g from rfl] at h2
    omega
theorem choose_out (k : Int) (h : 2350 ≤ k) : (chooseM k true).2 = false:=by
 unfold chooseM
 rw [if_neg (by omega)]
 cases hc : (chooseF true 399 0 k.toNat).2 with
 | false=>rfl
 | true=>
  have:=choose_lt _ _ _ hc
  rw [show 0 + 399 = 399 from rfl,popSum_end] at this
  omega
theorem rankIn_inN (n : Nat) (h : n < 11172) : rankIn (44032 + (n : Int)) = inN n:=by
 have hg : n / 28 < 399:=by omega
 have h1:=chk_grp (n / 28) hg
 unfold chkC at h1
 rw [forceI_eq,forceI_eq,val7_grp _ hg,Bool.and_eq_true,Bool.and_eq_true] at h1
 have h2:=h1.2
 unfold chkOwn at h2
 rw [List.all_eq_true] at h2
 have h3:=h2 (n % 28) (List.mem_range.2 (by omega))
 rw [beq_iff_eq,← inN_bit _ _ (by omega),show 28 * (n / 28) + n % 28 = n from by omega] at h3
 unfold rankIn ownBit
 rw [show (44032 + (n : Int) - 44032) / 28 = ((n / 28 : Nat) : Int) from by omega,show (44032 + (n : Int) - 44032) % 28 = ((n % 28 : Nat) : Int) from by omega,Int.toNat_natCast,Int.toNat_natCast,h3,Bool.not_not]
theorem digit_any (s : Int) (w : World) (h0 : 0 ≤ s) (h1 : s ≤ 255) :
 Calls Tryz.prog 315 #[.int .u8 s] w fun e w'=>e = .returned (.int .i64 (dig s)) ∧ w = w':=by
 go_enter Tryz.func315,Tryz.ntmps315
 go_wp2
 all_goals go_ret
 all_goals (refine ⟨ret_i ?_,rfl⟩;unfold dig;split <;> omega)
theorem second7_any (s : Int) (w : World) (h0 : -1000 ≤ s) (h1 : s ≤ 1000) :
 Calls Tryz.prog 254 #[.int .i64 s] w fun e w'=>e = .returned (.int .i64 (numberM s)) ∧ w = w':=by
 go_enter Tryz.func254,Tryz.ntmps254
 go_wp2
 all_goals go_ret
 all_goals (refine ⟨ret_i ?_,rfl⟩;unfold numberM;omega)
def spanW (b f l p : Int) : Int:=if b < f ∨ l < b then 0 else p + (b - f)
theorem span7_any (b f l p : Int) (w : World) (hb0 : 0 ≤ b) (hb1 : b ≤ 1000) (hf0 : 0 ≤ f) (hf1 : f ≤ 1000) (hl0 : 0 ≤ l) (hl1 : l ≤ 1000) (hp0 : 0 ≤ p) (hp1 : p ≤ 100000) :
 Calls Tryz.prog 292 #[.int .i64 b,.int .i64 f,.int .i64 l,.int .i32 p] w fun e w'=>e = .returned (.int .i32 (spanW b f l p)) ∧ w = w':=by
 go_enter Tryz.func292,Tryz.ntmps292
 go_wp2
 all_goals go_ret
 all_goals (refine ⟨ret_i ?_,rfl⟩;unfold spanW;split <;> omega)
set_option maxRecDepth 100000 in
theorem in_any (n : Nat) (w : World) (hn : n < 11172) :
 Calls Tryz.prog 288 #[.int .i64 n] w fun e w'=>e = .returned (.bool (inN n)) ∧ w = w':=by
 obtain ⟨i,hi⟩ : ∃ i,i = n / 28 * 7 + 6 - n % 28 / 4:=⟨_,rfl⟩
 have hi' : i < 2793:=by omega
 have hm:=members_at i hi'
 have hd:=nib_dig i hi'
 have hl:=nib_lt i hi'
 have hr : inN n = decide (nib i / 2 ^ (n % 28 % 4) % 2 = 1):=by unfold inN;rw [hi]
 rw [hr]
 obtain ⟨D,hD⟩ : ∃ D,D = nib i:=⟨_,rfl⟩
 rw [← hD] at hd hl ⊢
 have hx:=(memAt i).toNat_lt
 have c1:=fun w=>digit_any ((memAt i).toNat : Int) w (by omega) (by omega)
 rw [hd] at c1
 have hk3 : n % 28 % 4 ≤ 3:=by omega
 obtain ⟨B,hB⟩ : ∃ B,B = n % 28 % 4:=⟨_,rfl⟩
 have hBi : (n : Int) % 28 % 4 = (B : Int):=by omega
 rw [← hB] at hk3 ⊢
 have HB:=Lib.hid hBi
 obtain ⟨r,hr2⟩ : ∃ r,r = decide (D / 2 ^ B % 2 = 1):=⟨_,rfl⟩
 rw [← hr2]
 have HR2:=Lib.hid hr2
 clear hr2
 clear hr hd hD hi' hB hBi
 generalize memAt i = x at *
 have HM:=Lib.hid hm
 have C1:=Lib.hid c1
 have HI:=Lib.hid hi
 clear hm c1 hi
 go_enter Tryz.func288,Tryz.ntmps288
 go_wp2_with (first
  | (with_reducible refine wpList_indexC membersB rfl rfl Tryz.underlying9 (by kernel_rfl) .i64 _ i (by have:=HI.out;omega) x rfl HM.out ?_)
  | (go_at_call 315;refine (C1.out _).mono ?_;rintro e w1 ⟨rfl,rfl⟩))
 go_loop [4,5] (fun d i=>∃ j E : Nat,j ≤ B ∧ i = .int .i64 (j : Int) ∧ d = .int .i64 (E : Int) ∧ E ≤ 15 ∧ Hid (E = D / 2 ^ j)) (fun _ i=>(B - intOf i).toNat)
 case atStart=>exact ⟨0,D,Nat.zero_le _,rfl,rfl,by omega,Lib.hid (by simp)⟩
 case round=>
  obtain ⟨j,E,hj,rfl,rfl,hE0,hE⟩:=hrel
  have hs : Hid (E / 2 = D / 2 ^ (j + 1)):=Lib.hid (by rw [hE.out,Nat.pow_succ,Nat.div_div_eq_div_mul])
  have HBo:=HB.out
  by_cases hlt : j < B
  · go_wp2
    go_round
    case rel=>exact ⟨j + 1,E / 2,by omega,by go_num,by go_num,by omega,hs⟩
    case measure=>simp [intOf];omega
  · have hjB : j = B:=by omega
    subst hjB
    go_wp2
    go_ret
    exact ⟨ret_b (by rw [HR2.out,← hE.out,Bool.eq_iff_iff,beq_iff_eq,decide_eq_true_eq];omega),rfl⟩
set_option maxRecDepth 100000 in
theorem kth_any (k : Int) (within : Bool) (w : World) (hk : k < 100000) (hk0 : -100000 < k) :
 Calls Tryz.prog 255 #[.int .i64 k,.bool within] w fun e w'=>e = .returned (.int .i32 (kthM k within)) ∧ w = w':=by
 by_cases hneg : k < 0
 · have e : kthM k within = 0:=by unfold kthM;rw [if_pos hneg]
   rw [e]
   go_enter Tryz.func255,Tryz.ntmps255
   go_wp2
   go_ret
   exact ⟨rfl,rfl⟩
 · obtain ⟨k,rfl⟩:=Int.eq_ofNat_of_zero_le (show 0 ≤ k from by omega)
   obtain ⟨F,hF⟩ : ∃ F,F = 11172:=⟨_,rfl⟩
   obtain ⟨R,hR⟩ : ∃ R,R = kthF within F 0 k:=⟨_,rfl⟩
   have e : kthM k within = R:=by unfold kthM;rw [if_neg hneg,Int.toNat_natCast,hR,hF]
   rw [e]
   have HF : Hid (0 + F = 11172):=Lib.hid (by omega)
   clear e hF
   have C1:=Lib.hid (fun n w hn=>in_any n w hn)
   have HR:=Lib.hid hR
   clear hR
   go_enter Tryz.func255,Tryz.ntmps255
   go_wp2
   go_loopw [0,5] (fun kv nv wr=>∃ (f n j : Nat),kv = .int .i64 (j : Int) ∧ nv = .int .i64 (n : Int) ∧ Hid (n + f = 11172) ∧ n ≤ 11172 ∧ j ≤ 100000 ∧ Hid (kthF within f n j = R) ∧ wr = w) (fun _ nv _=>(11172 - intOf nv).toNat)
   case atStart=>exact ⟨F,0,k,rfl,rfl,HF,by omega,by omega,Lib.hid HR.out.symm,rfl⟩
   case round=>
    obtain ⟨f,n,j,rfl,rfl,hf,hn,hj,hQ,rfl⟩:=hrel
    by_cases hlt : n < 11172
    · obtain ⟨f,rfl⟩ : ∃ g,f = g + 1:=⟨f - 1,by have:=hf.out;omega⟩
      have hf1 : Hid (n + 1 + f = 11172):=Lib.hid (by have:=hf.out;omega)
      have k1:=fun w=>C1.out n w hlt
      have hq:=hQ.out
      rw [kthF] at hq
      clear hQ
      have hI : (n : Int) < 11172:=by omega
      have hjI : (j : Int) ≤ 100000:=by omega
      clear hlt hn hj hk hk0 hneg
      generalize inN n = b at *
      by_cases hz : j = 0
      · subst hz
        simp only [if_true] at hq
        cases b <;> cases within
        all_goals (simp only [if_true,if_false,reduceCtorEq] at hq)
        all_goals
         have K1:=Lib.hid k1
         have HQ:=Lib.hid hq
         clear k1 hq
         first
          | (go_wp2_with (go_at_call 288;refine (K1.out _).mono ?_;rintro e w1 ⟨rfl,rfl⟩)
             go_ret
             exact ⟨ret_i HQ.out,rfl⟩)
          | (go_wp2_with (go_at_call 288;refine (K1.out _).mono ?_;rintro e w1 ⟨rfl,rfl⟩)
             go_roundw
             case rel=>exact ⟨f,n + 1,0,rfl,by go_num,hf1,by omega,by omega,HQ,by trivial⟩
             case measure=>simp [intOf];omega)
      · have hzz : ¬ (j : Int) = 0:=by omega
        simp only [if_neg hz] at hq
        cases b <;> cases within
        all_goals (simp only [if_true,if_false,reduceCtorEq] at hq)
        all_goals
         have K1:=Lib.hid k1
         have HQ:=Lib.hid hq
         clear k1 hq
         go_wp2_with (go_at_call 288;refine (K1.out _).mono ?_;rintro e w1 ⟨rfl,rfl⟩)
         go_roundw
         case rel=>first
          | exact ⟨f,n + 1,j - 1,by go_num,by go_num,hf1,by omega,by omega,HQ,by trivial⟩
          | exact ⟨f,n + 1,j,rfl,by go_num,hf1,by omega,by omega,HQ,by trivial⟩
         case measure=>simp [intOf];omega
    · have hI : ¬ (n : Int) < 11172:=by omega
      have hf0 : f = 0:=by have:=hf.out;omega
      subst hf0
      clear hlt hn hf hj
      go_wp2
      go_ret
      exact ⟨ret_i (by rw [← hQ.out];rfl),rfl⟩
noncomputable def a1T : ByteArray:=constArg Tryz.f256 3 2
noncomputable def a2T : ByteArray:=constArg Tryz.f256 6 2
noncomputable def a6T : ByteArray:=constArg Tryz.f256 19 2
theorem a1T_len : a1T.size ≤ 1000 ∧ (scanL (bl a1T)).2 = none ∧ (pts (bl a1T)).length = 94:=by refine ⟨?_,?_,?_⟩ <;> decide +kernel
theorem a2T_len : a2T.size ≤ 1000 ∧ (scanL (bl a2T)).2 = none ∧ (pts (bl a2T)).length = 71:=by refine ⟨?_,?_,?_⟩ <;> decide +kernel
theorem a6T_len : a6T.size ≤ 1000 ∧ (scanL (bl a6T)).2 = none ∧ (pts (bl a6T)).length = 68:=by refine ⟨?_,?_,?_⟩ <;> decide +kernel
def rowS (lead b : Int) : Int:=
 if lead = 163 then (if b = 220 then 65510 else if b = 254 then 65507 else 65281 + b - 161)
 else if lead = 164 then 12593 + b - 161
 else if lead = 165 then spanW b 161 170 8560 + spanW b 176 185 8544 + spanW b 193 209 913 + spanW b 210 216 931 + spanW b 225 241 945 + spanW b 242 248 963
 else if lead = 170 then spanW b 161 243 12353
 else if lead = 171 then spanW b 161 246 12449
 else if lead = 172 then spanW b 161 166 1040 + spanW b 167 167 1025 + spanW b 168 193 1046 + spanW b 209 214 1072 + spanW b 215 215 1105 + spanW b 216 241 1078
 else 0
noncomputable def rowW (lead b : Int) : Int:=
 if lead = 161 then (pts (bl a1T)).getD (b - 161).toNat 0
 else if lead = 162 then (if b - 161 < 71 then (pts (bl a2T)).getD (b - 161).toNat 0 else 0)
 else if lead = 166 then (if b - 161 < 68 then (pts (bl a6T)).getD (b - 161).toNat 0 else 0)
 else rowS lead b
theorem spanW_bd (b f l p : Int) (hb0 : 0 ≤ b) (hb1 : b ≤ 1000) (hf0 : 0 ≤ f) (hp0 : 0 ≤ p) (hp1 : p ≤ 100000) : 0 ≤ spanW b f l p ∧ spanW b f l p ≤ 101000:=by unfold spanW;omega
theorem nthD (T : ByteArray) (b : Int) (n : Nat) (hb0 : 161 ≤ b) (hb1 : b - 161 < n) (h : T.size ≤ 1000 ∧ (scanL (bl T)).2 = none ∧ (pts (bl T)).length = n) (S : ByteArray) (hS : S = T) (w : World) :
 Calls Tryz.prog 250 #[.string S,.int .i64 (b - 161)] w fun e w'=>e = .returned (.int .i32 ((pts (bl T)).getD (b - 161).toNat 0)) ∧ Below w.heap.size w w':=by
 obtain ⟨p,hp⟩:=at_some (pts (bl T)) (b - 161).toNat (by omega)
 have e : (pts (bl T)).getD (b - 161).toNat 0 = p:=by rw [List.getD,hp];rfl
 rw [e]
 exact nth_lit S T hS (b - 161).toNat (b - 161) p w (by omega) h.1 h.2.1 hp
set_option maxRecDepth 100000 in
theorem row7_any (lead b : Int) (w : World) (h0 : 161 ≤ lead) (h1 : lead ≤ 254) (h2 : 161 ≤ b) (h3 : b ≤ 254) :
 Calls Tryz.prog 256 #[.int .i64 lead,.int .i64 b] w fun e w'=>e = .returned (.int .i32 (rowW lead b)) ∧ Below w.heap.size w w':=by
 by_cases c1 : lead = 161
 · subst c1
   have he : rowW 161 b = (pts (bl a1T)).getD (b - 161).toNat 0:=by unfold rowW;rw [if_pos rfl]
   rw [he]
   have k1:=nthD a1T b 94 h2 (by omega) a1T_len
   have K1:=Lib.hid k1
   have HE:=Lib.hid he
   clear k1 he
   go_enter Tryz.func256,Tryz.ntmps256
   go_wp2_with (go_at_call 250;refine (K1.out _ (by kernel_rfl) _).mono ?_;rintro e w1 ⟨rfl,hb1⟩)
   go_ret
   exact ⟨rfl,hb1⟩
 by_cases c2 : lead = 162
 · subst c2
   by_cases hl : b - 161 < 71
   · have he : rowW 162 b = (pts (bl a2T)).getD (b - 161).toNat 0:=by unfold rowW;rw [if_neg (by omega),if_pos rfl,if_pos hl]
     rw [he]
     have k1:=nthD a2T b 71 h2 (by omega) a2T_len
     have K1:=Lib.hid k1
     have HE:=Lib.hid he
     clear k1 he
     go_enter Tryz.func256,Tryz.ntmps256
     go_wp2_with (go_at_call 250;refine (K1.out _ (by kernel_rfl) _).mono ?_;rintro e w1 ⟨rfl,hb1⟩)
     go_ret
     exact ⟨rfl,hb1⟩
   · have he : rowW 162 b = 0:=by unfold rowW;rw [if_neg (by omega),if_pos rfl,if_neg hl]
     rw [he]
     have HE:=Lib.hid he
     clear he
     go_enter Tryz.func256,Tryz.ntmps256
     go_wp2
     go_ret
     exact ⟨rfl,Below.refl _ _⟩
 by_cases c6 : lead = 166
 · subst c6
   by_cases hl : b - 161 < 68
   · have he : rowW 166 b = (pts (bl a6T)).getD (b - 161).toNat 0:=by unfold rowW;rw [if_neg (by omega),if_neg (by omega),if_pos rfl,if_pos hl]
     rw [he]
     have k1:=nthD a6T b 68 h2 (by omega) a6T_len
     have K1:=Lib.hid k1
     have HE:=Lib.hid he
     clear k1 he
     go_enter Tryz.func256,Tryz.ntmps256
     go_wp2_with (go_at_call 250;refine (K1.out _ (by kernel_rfl) _).mono ?_;rintro e w1 ⟨rfl,hb1⟩)
     go_ret
     exact ⟨rfl,hb1⟩
   · have he : rowW 166 b = 0:=by unfold rowW;rw [if_neg (by omega),if_neg (by omega),if_pos rfl,if_neg hl]
     rw [he]
     have HE:=Lib.hid he
     clear he
     go_enter Tryz.func256,Tryz.ntmps256
     go_wp2
     go_ret
     exact ⟨rfl,Below.refl _ _⟩
 have he : rowW lead b = rowS lead b:=by unfold rowW;rw [if_neg c1,if_neg c2,if_neg c6]
 rw [he]
 clear he
 have C1:=Lib.hid (fun f l p w a b' c d e g=>span7_any b f l p w (by omega) (by omega) a b' c d e g)
 have bd:=fun f l p a c d=>spanW_bd b f l p (by omega) (by omega) a c d
 by_cases c3 : lead = 163
 · subst c3
   have he : rowS 163 b = if b = 220 then 65510 else if b = 254 then 65507 else 65281 + b - 161:=by unfold rowS;rw [if_pos rfl]
   rw [he]
   clear C1 bd he
   by_cases b1 : b = 220
   · subst b1
     go_enter Tryz.func256,Tryz.ntmps256
     go_wp2
     go_ret
     exact ⟨rfl,Below.refl _ _⟩
   by_cases b2 : b = 254
   · subst b2
     go_enter Tryz.func256,Tryz.ntmps256
     go_wp2
     go_ret
     exact ⟨rfl,Below.refl _ _⟩
   · rw [if_neg b1,if_neg b2]
     go_enter Tryz.func256,Tryz.ntmps256
     go_wp2
     go_ret
     exact ⟨rfl,Below.refl _ _⟩
 by_cases c4 : lead = 164
 · subst c4
   have he : rowS 164 b = 12593 + b - 161:=by unfold rowS;rw [if_neg (by omega),if_pos rfl]
   rw [he]
   clear C1 bd he
   go_enter Tryz.func256,Tryz.ntmps256
   go_wp2
   go_ret
   exact ⟨rfl,Below.refl _ _⟩
 by_cases c5 : lead = 165
 · subst c5
   have he : rowS 165 b = spanW b 161 170 8560 + spanW b 176 185 8544 + spanW b 193 209 913 + spanW b 210 216 931 + spanW b 225 241 945 + spanW b 242 248 963:=by unfold rowS;rw [if_neg (by omega),if_neg (by omega),if_pos rfl]
   rw [he]
   have k1:=fun w=>C1.out 161 170 8560 w (by omega) (by omega) (by omega) (by omega) (by omega) (by omega)
   have k2:=fun w=>C1.out 176 185 8544 w (by omega) (by omega) (by omega) (by omega) (by omega) (by omega)
   have k3:=fun w=>C1.out 193 209 913 w (by omega) (by omega) (by omega) (by omega) (by omega) (by omega)
   have k4:=fun w=>C1.out 210 216 931 w (by omega) (by omega) (by omega) (by omega) (by omega) (by omega)
   have k5:=fun w=>C1.out 225 241 945 w (by omega) (by omega) (by omega) (by omega) (by omega) (by omega)
   have k6:=fun w=>C1.out 242 248 963 w (by omega) (by omega) (by omega) (by omega) (by omega) (by omega)
   have b1:=bd 161 170 8560 (by omega) (by omega) (by omega)
   have b2:=bd 176 185 8544 (by omega) (by omega) (by omega)
   have b3:=bd 193 209 913 (by omega) (by omega) (by omega)
   have b4:=bd 210 216 931 (by omega) (by omega) (by omega)
   have b5:=bd 225 241 945 (by omega) (by omega) (by omega)
   have b6:=bd 242 248 963 (by omega) (by omega) (by omega)
   generalize spanW b 161 170 8560 = q1 at *
   generalize spanW b 176 185 8544 = q2 at *
   generalize spanW b 193 209 913 = q3 at *
   generalize spanW b 210 216 931 = q4 at *
   generalize spanW b 225 241 945 = q5 at *
   generalize spanW b 242 248 963 = q6 at *
   have K1:=Lib.hid k1
   have K2:=Lib.hid k2
   have K3:=Lib.hid k3
   have K4:=Lib.hid k4
   have K5:=Lib.hid k5
   have K6:=Lib.hid k6
   clear k1 k2 k3 k4 k5 k6
   clear C1 bd he
   go_enter Tryz.func256,Tryz.ntmps256
   go_wp2_with (first
    | (go_at_call 292;with_reducible refine (K1.out _).mono ?_;rintro e w1 ⟨rfl,rfl⟩)
    | (go_at_call 292;with_reducible refine (K2.out _).mono ?_;rintro e w1 ⟨rfl,rfl⟩)
    | (go_at_call 292;with_reducible refine (K3.out _).mono ?_;rintro e w1 ⟨rfl,rfl⟩)
    | (go_at_call 292;with_reducible refine (K4.out _).mono ?_;rintro e w1 ⟨rfl,rfl⟩)
    | (go_at_call 292;with_reducible refine (K5.out _).mono ?_;rintro e w1 ⟨rfl,rfl⟩)
    | (go_at_call 292;with_reducible refine (K6.out _).mono ?_;rintro e w1 ⟨rfl,rfl⟩))
   go_ret
   exact ⟨ret_i (by first | rfl | omega),Below.refl _ _⟩
 by_cases c7 : lead = 170
 · subst c7
   have he : rowS 170 b = spanW b 161 243 12353:=by unfold rowS;rw [if_neg (by omega),if_neg (by omega),if_neg (by omega),if_pos rfl]
   rw [he]
   have k1:=fun w=>C1.out 161 243 12353 w (by omega) (by omega) (by omega) (by omega) (by omega) (by omega)
   have K1:=Lib.hid k1
   clear k1
   clear C1 bd he
   go_enter Tryz.func256,Tryz.ntmps256
   go_wp2_with (go_at_call 292;with_reducible refine (K1.out _).mono ?_;rintro e w1 ⟨rfl,rfl⟩)
   go_ret
   exact ⟨rfl,Below.refl _ _⟩
 by_cases c8 : lead = 171
 · subst c8
   have he : rowS 171 b = spanW b 161 246 12449:=by unfold rowS;rw [if_neg (by omega),if_neg (by omega),if_neg (by omega),if_neg (by omega),if_pos rfl]
   rw [he]
   have k1:=fun w=>C1.out 161 246 12449 w (by omega) (by omega) (by omega) (by omega) (by omega) (by omega)
   have K1:=Lib.hid k1
   clear k1
   clear C1 bd he
   go_enter Tryz.func256,Tryz.ntmps256
   go_wp2_with (go_at_call 292;with_reducible refine (K1.out _).mono ?_;rintro e w1 ⟨rfl,rfl⟩)
   go_ret
   exact ⟨rfl,Below.refl _ _⟩
 by_cases c9 : lead = 172
 · subst c9
   have he : rowS 172 b = spanW b 161 166 1040 + spanW b 167 167 1025 + spanW b 168 193 1046 + spanW b 209 214 1072 + spanW b 215 215 1105 + spanW b 216 241 1078:=by
    unfold rowS;rw [if_neg (by omega),if_neg (by omega),if_neg (by omega),if_neg (by omega),if_neg (by omega),if_pos rfl]
   rw [he]
   have k1:=fun w=>C1.out 161 166 1040 w (by omega) (by omega) (by omega) (by omega) (by omega) (by omega)
   have k2:=fun w=>C1.out 167 167 1025 w (by omega) (by omega) (by omega) (by omega) (by omega) (by omega)
   have k3:=fun w=>C1.out 168 193 1046 w (by omega) (by omega) (by omega) (by omega) (by omega) (by omega)
   have k4:=fun w=>C1.out 209 214 1072 w (by omega) (by omega) (by omega) (by omega) (by omega) (by omega)
   have k5:=fun w=>C1.out 215 215 1105 w (by omega) (by omega) (by omega) (by omega) (by omega) (by omega)
   have k6:=fun w=>C1.out 216 241 1078 w (by omega) (by omega) (by omega) (by omega) (by omega) (by omega)
   have b1:=bd 161 166 1040 (by omega) (by omega) (by omega)
   have b2:=bd 167 167 1025 (by omega) (by omega) (by omega)
   have b3:=bd 168 193 1046 (by omega) (by omega) (by omega)
   have b4:=bd 209 214 1072 (by omega) (by omega) (by omega)
   have b5:=bd 215 215 1105 (by omega) (by omega) (by omega)
   have b6:=bd 216 241 1078 (by omega) (by omega) (by omega)
   generalize spanW b 161 166 1040 = q1 at *
   generalize spanW b 167 167 1025 = q2 at *
   generalize spanW b 168 193 1046 = q3 at *
   generalize spanW b 209 214 1072 = q4 at *
   generalize spanW b 215 215 1105 = q5 at *
   generalize spanW b 216 241 1078 = q6 at *
   have K1:=Lib.hid k1
   have K2:=Lib.hid k2
   have K3:=Lib.hid k3
   have K4:=Lib.hid k4
   have K5:=Lib.hid k5
   have K6:=Lib.hid k6
   clear k1 k2 k3 k4 k5 k6
   clear C1 bd he
   go_enter Tryz.func256,Tryz.ntmps256
   go_wp2_with (first
    | (go_at_call 292;with_reducible refine (K1.out _).mono ?_;rintro e w1 ⟨rfl,rfl⟩)
    | (go_at_call 292;with_reducible refine (K2.out _).mono ?_;rintro e w1 ⟨rfl,rfl⟩)
    | (go_at_call 292;with_reducible refine (K3.out _).mono ?_;rintro e w1 ⟨rfl,rfl⟩)
    | (go_at_call 292;with_reducible refine (K4.out _).mono ?_;rintro e w1 ⟨rfl,rfl⟩)
    | (go_at_call 292;with_reducible refine (K5.out _).mono ?_;rintro e w1 ⟨rfl,rfl⟩)
    | (go_at_call 292;with_reducible refine (K6.out _).mono ?_;rintro e w1 ⟨rfl,rfl⟩))
   go_ret
   exact ⟨ret_i (by first | rfl | omega),Below.refl _ _⟩
 · have he : rowS lead b = 0:=by
    unfold rowS
    rw [if_neg c3,if_neg c4,if_neg c5,if_neg c7,if_neg c8,if_neg c9]
   rw [he]
   clear C1 bd he
   go_enter Tryz.func256,Tryz.ntmps256
   go_wp2
   go_ret
   exact ⟨rfl,Below.refl _ _⟩
noncomputable def signW (lead b : Int) : Int:=
 if numberM b < 0 ∨ lead < 129 ∨ 254 < lead then 0
 else if lead < 161 then kthM ((lead - 129) * 178 + numberM b) false
 else if b < 161 then kthM (5696 + (lead - 161) * 84 + numberM b) false
 else if 176 ≤ lead ∧ lead ≤ 200 then kthM ((lead - 176) * 94 + b - 161) true
 else rowW lead b
set_option maxRecDepth 100000 in
theorem sign7_any (lead b : Int) (w : World) (h0 : 0 ≤ lead) (h1 : lead ≤ 255) (h2 : 0 ≤ b) (h3 : b ≤ 255) :
 Calls Tryz.prog 213 #[.int .i64 lead,.int .i64 b] w fun e w'=>e = .returned (.int .i32 (signW lead b)) ∧ Below w.heap.size w w':=by
 have k0:=fun w=>second7_any b w (by omega) (by omega)
 have hm : signW lead b = if numberM b < 0 ∨ lead < 129 ∨ 254 < lead then 0
  else if lead < 161 then kthM ((lead - 129) * 178 + numberM b) false
  else if b < 161 then kthM (5696 + (lead - 161) * 84 + numberM b) false
  else if 176 ≤ lead ∧ lead ≤ 200 then kthM ((lead - 176) * 94 + b - 161) true else rowW lead b:=rfl
 have hb4 : ¬ numberM b < 0 → b ≤ 254:=by unfold numberM;omega
 obtain ⟨n0,n1⟩:=numberM_bd b
 generalize numberM b = t at *
 have K0:=Lib.hid k0
 clear k0
 by_cases c1 : t < 0 ∨ lead < 129 ∨ 254 < lead
 · rw [if_pos c1] at hm
   rw [hm]
   clear hm
   rcases c1 with c | c | c
   · go_enter Tryz.func213,Tryz.ntmps213
     go_wp2_with (go_at_call 254;refine (K0.out _).mono ?_;rintro e w1 ⟨rfl,rfl⟩)
     go_ret
     exact ⟨rfl,Below.refl _ _⟩
   · by_cases ct : t < 0
     all_goals
      go_enter Tryz.func213,Tryz.ntmps213
      go_wp2_with (go_at_call 254;refine (K0.out _).mono ?_;rintro e w1 ⟨rfl,rfl⟩)
      go_ret
      exact ⟨rfl,Below.refl _ _⟩
   · by_cases ct : t < 0
     all_goals
      go_enter Tryz.func213,Tryz.ntmps213
      go_wp2_with (go_at_call 254;refine (K0.out _).mono ?_;rintro e w1 ⟨rfl,rfl⟩)
      go_ret
      exact ⟨rfl,Below.refl _ _⟩
 rw [if_neg c1] at hm
 have t0 : 0 ≤ t:=by omega
 have l0 : 129 ≤ lead:=by omega
 have l1 : lead ≤ 254:=by omega
 have hb:=hb4 (by omega)
 clear c1 hb4 n0
 by_cases c2 : lead < 161
 · rw [if_pos c2] at hm
   rw [hm]
   have k1:=fun w=>kth_any ((lead - 129) * 178 + t) false w (by omega) (by omega)
   generalize kthM ((lead - 129) * 178 + t) false = p at *
   have K1:=Lib.hid k1
   clear k1
   clear hm
   go_enter Tryz.func213,Tryz.ntmps213
   go_wp2_with (first
    | (go_at_call 254;refine (K0.out _).mono ?_;rintro e w1 ⟨rfl,rfl⟩)
    | (go_at_call 255;refine (K1.out _).mono ?_;rintro e w1 ⟨rfl,rfl⟩))
   go_ret
   exact ⟨rfl,Below.refl _ _⟩
 rw [if_neg c2] at hm
 by_cases c3 : b < 161
 · rw [if_pos c3] at hm
   rw [hm]
   have k1:=fun w=>kth_any (5696 + (lead - 161) * 84 + t) false w (by omega) (by omega)
   generalize kthM (5696 + (lead - 161) * 84 + t) false = p at *
   have K1:=Lib.hid k1
   clear k1
   clear hm
   go_enter Tryz.func213,Tryz.ntmps213
   go_wp2_with (first
    | (go_at_call 254;refine (K0.out _).mono ?_;rintro e w1 ⟨rfl,rfl⟩)
    | (go_at_call 255;refine (K1.out _).mono ?_;rintro e w1 ⟨rfl,rfl⟩))
   go_ret
   exact ⟨rfl,Below.refl _ _⟩
 rw [if_neg c3] at hm
 by_cases c4 : 176 ≤ lead ∧ lead ≤ 200
 · rw [if_pos c4] at hm
   rw [hm]
   obtain ⟨c4,c5⟩:=c4
   have k1:=fun w=>kth_any ((lead - 176) * 94 + b - 161) true w (by omega) (by omega)
   generalize kthM ((lead - 176) * 94 + b - 161) true = p at *
   have K1:=Lib.hid k1
   clear k1
   clear hm
   go_enter Tryz.func213,Tryz.ntmps213
   go_wp2_with (first
    | (go_at_call 254;refine (K0.out _).mono ?_;rintro e w1 ⟨rfl,rfl⟩)
    | (go_at_call 255;refine (K1.out _).mono ?_;rintro e w1 ⟨rfl,rfl⟩))
   go_ret
   exact ⟨rfl,Below.refl _ _⟩
 rw [if_neg c4] at hm
 rw [hm]
 have k1:=fun w=>row7_any lead b w (by omega) (by omega) (by omega) (by omega)
 generalize rowW lead b = p at *
 have K1:=Lib.hid k1
 clear k1
 clear hm
 by_cases c5 : lead < 176
 · go_enter Tryz.func213,Tryz.ntmps213
   go_wp2_with (first
    | (go_at_call 254;refine (K0.out _).mono ?_;rintro e w1 ⟨rfl,rfl⟩)
    | (go_at_call 256;refine (K1.out _).mono ?_;rintro e w1 ⟨rfl,hb1⟩))
   go_ret
   exact ⟨rfl,hb1⟩
 · have c6 : 200 < lead:=by omega
   go_enter Tryz.func213,Tryz.ntmps213
   go_wp2_with (first
    | (go_at_call 254;refine (K0.out _).mono ?_;rintro e w1 ⟨rfl,rfl⟩)
    | (go_at_call 256;refine (K1.out _).mono ?_;rintro e w1 ⟨rfl,hb1⟩))
   go_ret
   exact ⟨rfl,hb1⟩
theorem hexAt_drop (l : List UInt8) (k : Nat) : ∀ j,hexAt (l.drop 5) k j = hexAt l (k + 1) j:=by
 intro j
 induction j with
 | zero=>rfl
 | succ j ih=>
  have e : (l.drop 5).getD (k * 5 + j) 0 = l.getD ((k + 1) * 5 + j) 0:=by
   rw [List.getD_eq_getElem?_getD,List.getD_eq_getElem?_getD,List.getElem?_drop,show 5 + (k * 5 + j) = (k + 1) * 5 + j from by omega]
  rw [hexAt,hexAt,ih,e]
theorem hexPtsF_at : ∀ (f k : Nat) (l : List UInt8),k < f → (hexPtsF f l)[k]? = some (hexAt l k 4):=by
 intro f
 induction f with
 | zero=>intro k l h;omega
 | succ f ih=>
  intro k l h
  rw [hexPtsF]
  cases k with
  | zero=>rfl
  | succ k=>rw [List.getElem?_cons_succ,ih k _ (by omega),hexAt_drop]
theorem hexPtsF_len : ∀ (f : Nat) (l : List UInt8),(hexPtsF f l).length = f:=by
 intro f
 induction f with
 | zero=>intro l;rfl
 | succ f ih=>intro l;rw [hexPtsF,List.length_cons,ih]
def optP : Option Int → Int × Bool
 | some p=>(p,true)
 | none=>(0,false)
theorem optP_at (l : List Int) (h : l.all sound = true) (k : Nat) : optP l[k]? = optZ (l.getD k 0):=by
 rw [List.getD_eq_getElem?_getD]
 cases hk : l[k]? with
 | none=>rfl
 | some p=>
  have:=List.all_eq_true.1 h p (List.mem_of_getElem? hk)
  unfold sound at this
  rw [Bool.and_eq_true,decide_eq_true_eq] at this
  exact (optZ_some p this.2).symm
theorem atM_pts (l : List UInt8) (k : Nat) : atM l (k : Int) = optP (hexPts l)[k]?:=by
 unfold atM hexPts
 by_cases h : k < l.length / 5
 · rw [hexPtsF_at _ _ _ h,if_neg (by omega),Int.toNat_natCast]
   simp only [optP]
   rw [decide_eq_false (by omega)]
   rfl
 · rw [List.getElem?_eq_none (by rw [hexPtsF_len];omega),if_pos (.inr (by omega)),decide_eq_true (by exact .inr (by omega))]
   rfl
theorem atM_neg (l : List UInt8) (k : Int) (h : k < 0) : atM l k = (0,false):=by
 unfold atM
 rw [if_pos (.inl h),decide_eq_true (.inl h)]
 rfl
set_option maxRecDepth 100000 in
theorem row_a1 : hexPts (bl (wRow 4)) = pts (bl a1T) ∧ (hexPts (bl (wRow 4))).all sound = true:=by decide +kernel
set_option maxRecDepth 100000 in
theorem row_a2 : hexPts (bl (wRow 6)) = pts (bl a2T) ∧ (hexPts (bl (wRow 6))).all sound = true:=by decide +kernel
set_option maxRecDepth 100000 in
theorem row_a6 : hexPts (bl (wRow 8)) = pts (bl a6T) ∧ (hexPts (bl (wRow 8))).all sound = true:=by decide +kernel
theorem getD_scal (l : List Int) (h : l.all sound = true) (k : Nat) : l.getD k 0 = 0 ∨ Scal (l.getD k 0):=by
 rw [List.getD_eq_getElem?_getD]
 cases hk : l[k]? with
 | none=>exact .inl rfl
 | some p=>
  have:=List.all_eq_true.1 h p (List.mem_of_getElem? hk)
  unfold sound at this
  rw [Bool.and_eq_true] at this
  exact .inr (scal_of this.1)
def spanOk (lead b : Int) : Bool:=decide (spanSign (lead * 256 + b) (wSpans.find? (inSpan (lead * 256 + b))) = optZ (rowS lead b)) && (decide (rowS lead b = 0) || scalar (rowS lead b))
theorem spans_ok : (List.range 12).all (fun (l : Nat)=>decide (l = 0 ∨ l = 1 ∨ l = 5) || (List.range 94).all fun (s : Nat)=>spanOk (161 + (l : Int)) (161 + (s : Int))) = true:=by decide +kernel
theorem other_not (code : Int) (lead b : Int) (hc : code = lead * 256 + b) (hb0 : 161 ≤ b) (hb1 : b ≤ 254) (h1 : lead ≠ 161) (h2 : lead ≠ 162) (h6 : lead ≠ 166) :
 otherM code = spanSign code (wSpans.find? (inSpan code)):=by
 have e1 : code % 256 = b:=by omega
 have e2 : code / 256 = lead:=by omega
 unfold otherM
 rw [e1,e2,if_neg (by omega)]
 have : wRowL lead = ⟨#[]⟩:=by unfold wRowL;rw [if_neg h1,if_neg h2,if_neg h6]
 rw [this,if_neg (by simp [bl])]
theorem other_in (code : Int) (lead b : Int) (S : ByteArray) (hc : code = lead * 256 + b) (hb0 : 161 ≤ b) (hb1 : b ≤ 254) (hS : wRowL lead = S) (hn : 0 < S.size) :
 otherM code = optP (hexPts (bl S))[(b - 161).toNat]?:=by
 have e1 : code % 256 = b:=by omega
 have e2 : code / 256 = lead:=by omega
 unfold otherM
 rw [e1,e2,if_neg (by omega),hS,if_pos,← atM_pts]
 · congr 1;omega
 · intro h
   have:=bl_length S
   rw [h] at this
   simp at this
   omega
theorem spans_end : ∀ s ∈ wSpans,s.1 + s.2.2 ≤ 44274:=by decide
theorem rowW_eq (lead b : Int) (h0 : 161 ≤ lead) (hb0 : 161 ≤ b) (hb1 : b ≤ 254) : otherM (lead * 256 + b) = optZ (rowW lead b) ∧ (rowW lead b = 0 ∨ Scal (rowW lead b)):=by
 obtain ⟨s1,s2,s6⟩:=wRow_size
 by_cases h1 : lead = 161
 · have e:=other_in _ lead b (wRow 4) rfl hb0 hb1 (by unfold wRowL;rw [if_pos h1]) (by omega)
   have hs : (pts (bl a1T)).all sound = true:=by rw [← row_a1.1];exact row_a1.2
   have e2 : rowW lead b = (pts (bl a1T)).getD (b - 161).toNat 0:=by unfold rowW;rw [if_pos h1]
   rw [e,row_a1.1,e2]
   exact ⟨optP_at _ hs _,getD_scal _ hs _⟩
 by_cases h2 : lead = 162
 · have e:=other_in _ lead b (wRow 6) rfl hb0 hb1 (by unfold wRowL;rw [if_neg h1,if_pos h2]) (by omega)
   have hl : (hexPts (bl (wRow 6))).length = 71:=by unfold hexPts;rw [hexPtsF_len,bl_length,s2]
   have e2 : rowW lead b = (pts (bl a2T)).getD (b - 161).toNat 0:=by
    unfold rowW
    rw [if_neg h1,if_pos h2]
    split
    · rfl
    · rw [← row_a2.1,List.getD_eq_getElem?_getD,List.getElem?_eq_none (by omega)];rfl
   have hs : (pts (bl a2T)).all sound = true:=by rw [← row_a2.1];exact row_a2.2
   rw [e,row_a2.1,e2]
   exact ⟨optP_at _ hs _,getD_scal _ hs _⟩
 by_cases h6 : lead = 166
 · have e:=other_in _ lead b (wRow 8) rfl hb0 hb1 (by unfold wRowL;rw [if_neg h1,if_neg h2,if_pos h6]) (by omega)
   have hl : (hexPts (bl (wRow 8))).length = 68:=by unfold hexPts;rw [hexPtsF_len,bl_length,s6]
   have e2 : rowW lead b = (pts (bl a6T)).getD (b - 161).toNat 0:=by
    unfold rowW
    rw [if_neg h1,if_neg h2,if_pos h6]
    split
    · rfl
    · rw [← row_a6.1,List.getD_eq_getElem?_getD,List.getElem?_eq_none (by omega)];rfl
   have hs : (pts (bl a6T)).all sound = true:=by rw [← row_a6.1];exact row_a6.2
   rw [e,row_a6.1,e2]
   exact ⟨optP_at _ hs _,getD_scal _ hs _⟩
 have eS : rowW lead b = rowS lead b:=by unfold rowW;rw [if_neg h1,if_neg h2,if_neg h6]
 rw [eS,other_not _ lead b rfl hb0 hb1 h1 h2 h6]
 by_cases hl : lead ≤ 172
 · have h:=spans_ok
   rw [List.all_eq_true] at h
   have h3:=h (lead - 161).toNat (List.mem_range.2 (by omega))
   rw [decide_eq_false (by omega),Bool.false_or,List.all_eq_true] at h3
   have h4:=h3 (b - 161).toNat (List.mem_range.2 (by omega))
   rw [show (161 : Int) + ((lead - 161).toNat : Nat) = lead from by omega,show (161 : Int) + ((b - 161).toNat : Nat) = b from by omega] at h4
   unfold spanOk at h4
   rw [Bool.and_eq_true,Bool.or_eq_true,decide_eq_true_eq,decide_eq_true_eq] at h4
   exact ⟨h4.1,h4.2.imp id scal_of⟩
 · have e1 : rowS lead b = 0:=by
    unfold rowS
    repeat' (first | rw [if_neg (by omega)])
   have e2 : wSpans.find? (inSpan (lead * 256 + b)) = none:=by
    rw [List.find?_eq_none]
    intro s hs
    have:=spans_end s hs
    unfold inSpan
    simp only [decide_eq_true_eq]
    omega
   rw [e1,e2]
   exact ⟨rfl,.inl rfl⟩
theorem kthF_bd (within : Bool) : ∀ (f n k : Nat),n + f ≤ 11172 → kthF within f n k = 0 ∨ Scal (kthF within f n k):=by
 intro f
 induction f with
 | zero=>intro n k h;exact .inl rfl
 | succ f ih=>
  intro n k h
  rw [kthF]
  split
  · split
    · unfold Scal;right;omega
    · exact ih _ _ (by omega)
  · exact ih _ _ (by omega)
theorem kthM_bd (k : Int) (within : Bool) : kthM k within = 0 ∨ Scal (kthM k within):=by
 unfold kthM
 split
 · exact .inl rfl
 · exact kthF_bd _ _ _ _ (by omega)
theorem signW_eq (lead b : Int) (h0 : 0 ≤ lead) (h1 : lead ≤ 255) (h2 : 0 ≤ b) (h3 : b ≤ 255) : wSignM lead b = optZ (signW lead b) ∧ (signW lead b = 0 ∨ Scal (signW lead b)):=by
 unfold signW wSignM
 by_cases hl : lead < 129 ∨ 254 < lead
 · rw [if_pos hl,if_pos (show numberM b < 0 ∨ lead < 129 ∨ 254 < lead from .inr hl)]
   exact ⟨rfl,.inl rfl⟩
 rw [if_neg hl]
 by_cases hn : numberM b < 0
 · rw [if_pos (show numberM b < 0 ∨ lead < 129 ∨ 254 < lead from .inl hn)]
   by_cases hr : 161 ≤ lead ∧ 161 ≤ b
   · have hb : b = 255:=by unfold numberM at hn;omega
     rw [if_pos hr]
     unfold rowM
     rw [if_pos (by omega)]
     exact ⟨rfl,.inl rfl⟩
   · rw [if_neg hr,if_pos hn]
     exact ⟨rfl,.inl rfl⟩
 rw [if_neg (show ¬ (numberM b < 0 ∨ lead < 129 ∨ 254 < lead) from by omega)]
 by_cases ha : lead < 161
 · rw [if_neg (show ¬ (161 ≤ lead ∧ 161 ≤ b) from by omega),if_neg hn]
   simp only [if_pos ha]
   exact ⟨kthM_eq _ _,kthM_bd _ _⟩
 by_cases hb : b < 161
 · rw [if_neg (show ¬ (161 ≤ lead ∧ 161 ≤ b) from by omega),if_neg hn]
   simp only [if_neg ha,if_pos hb]
   exact ⟨kthM_eq _ _,kthM_bd _ _⟩
 have hb4 : b ≤ 254:=by unfold numberM at hn;omega
 rw [if_pos (show 161 ≤ lead ∧ 161 ≤ b from by omega)]
 simp only [if_neg ha,if_neg hb]
 have hR:=rowW_eq lead b (by omega) (by omega) hb4
 unfold rowM
 rw [if_neg (show ¬ 94 ≤ b - 161 from by omega),show (lead - 161) * 94 + (b - 161) - 1410 = (lead - 176) * 94 + b - 161 from by omega,show (lead - 161 + 161) * 256 + (b - 161 + 161) = lead * 256 + b from by omega]
 by_cases hk : 176 ≤ lead ∧ lead ≤ 200
 · simp only [if_pos hk]
   refine ⟨?_,kthM_bd _ _⟩
   have hc:=kthM_eq ((lead - 176) * 94 + b - 161) true
   by_cases hz : kthM ((lead - 176) * 94 + b - 161) true = 0
   · rw [hc,hz,if_neg (by decide),hR.1]
     have e1 : rowW lead b = 0:=by
      unfold rowW rowS
      repeat' (first | rw [if_neg (by omega)])
     rw [e1]
   · rw [optZ_some _ hz] at hc
     rw [hc,if_pos rfl,optZ_some _ hz]
 · simp only [if_neg hk]
   have hc : (chooseM ((lead - 176) * 94 + b - 161) true).2 = false:=by
    by_cases h : lead < 176
    · unfold chooseM;rw [if_pos (by omega)]
    · exact choose_out _ (by omega)
   rw [hc,if_neg (by decide)]
   exact hR
theorem cell8_any (s : Int) (w : World) (h0 : -1000 ≤ s) (h1 : s ≤ 1000) :
 Calls Tryz.prog 289 #[.int .i64 s] w fun e w'=>e = .returned (.int .i64 (b5cell s)) ∧ w = w':=by
 go_enter Tryz.func289,Tryz.ntmps289
 go_wp2
 all_goals go_ret
 all_goals (refine ⟨ret_i ?_,rfl⟩;unfold b5cell;omega)
noncomputable def b88T : ByteArray:=constAt Tryz.f291 3 0
noncomputable def b1T : ByteArray:=constAt Tryz.f291 5 0
noncomputable def b3T : ByteArray:=constAt Tryz.f291 7 0
noncomputable def b4T : ByteArray:=constAt Tryz.f291 9 0
noncomputable def b5T : ByteArray:=constAt Tryz.f291 11 0
noncomputable def rowT (lead : Int) : ByteArray:=if lead = 136 then b88T else if lead = 161 then b1T else if lead = 163 then b3T else if lead = 164 then b4T else if lead = 165 then b5T else ⟨#[]⟩
theorem bT_ok : [b88T,b1T,b3T,b4T,b5T].all (fun T=>decide (T.size ≤ 1000) && decide ((scanL (bl T)).2 = none)) = true:=by decide +kernel
theorem rowT_ok (lead : Int) : (rowT lead).size ≤ 1000 ∧ (scanL (bl (rowT lead))).2 = none:=by
 have h:=bT_ok
 simp only [List.all_cons,List.all_nil,Bool.and_true,Bool.and_eq_true,decide_eq_true_eq] at h
 obtain ⟨h1,h2,h3,h4,h5⟩:=h
 unfold rowT
 split
 · exact h1
 split
 · exact h2
 split
 · exact h3
 split
 · exact h4
 split
 · exact h5
 · exact ⟨by decide,by decide⟩
set_option maxRecDepth 100000 in
theorem row8_any (lead : Int) (w : World) : Calls Tryz.prog 291 #[.int .i64 lead] w fun e w'=>e = .returned (.string (rowT lead)) ∧ w = w':=by
 by_cases c1 : lead = 136
 · subst c1
   have e : rowT 136 = b88T:=by unfold rowT;rw [if_pos rfl]
   rw [e]
   clear e
   go_enter Tryz.func291,Tryz.ntmps291
   go_wp2
   go_ret
   exact ⟨ret_s (by kernel_rfl),rfl⟩
 by_cases c2 : lead = 161
 · subst c2
   have e : rowT 161 = b1T:=by unfold rowT;rw [if_neg (by omega),if_pos rfl]
   rw [e]
   clear e
   go_enter Tryz.func291,Tryz.ntmps291
   go_wp2
   go_ret
   exact ⟨ret_s (by kernel_rfl),rfl⟩
 by_cases c3 : lead = 163
 · subst c3
   have e : rowT 163 = b3T:=by unfold rowT;rw [if_neg (by omega),if_neg (by omega),if_pos rfl]
   rw [e]
   clear e
   go_enter Tryz.func291,Tryz.ntmps291
   go_wp2
   go_ret
   exact ⟨ret_s (by kernel_rfl),rfl⟩
 by_cases c4 : lead = 164
 · subst c4
   have e : rowT 164 = b4T:=by unfold rowT;rw [if_neg (by omega),if_neg (by omega),if_neg (by omega),if_pos rfl]
   rw [e]
   clear e
   go_enter Tryz.func291,Tryz.ntmps291
   go_wp2
   go_ret
   exact ⟨ret_s (by kernel_rfl),rfl⟩
 by_cases c5 : lead = 165
 · subst c5
   have e : rowT 165 = b5T:=by unfold rowT;rw [if_neg (by omega),if_neg (by omega),if_neg (by omega),if_neg (by omega),if_pos rfl]
   rw [e]
   clear e
   go_enter Tryz.func291,Tryz.ntmps291
   go_wp2
   go_ret
   exact ⟨ret_s (by kernel_rfl),rfl⟩
 · have e : rowT lead = ⟨#[]⟩:=by unfold rowT;rw [if_neg c1,if_neg c2,if_neg c3,if_neg c4,if_neg c5]
   rw [e]
   clear e
   go_enter Tryz.func291,Tryz.ntmps291
   go_wp2
   go_ret
   exact ⟨rfl,rfl⟩
set_option maxRecDepth 100000 in
theorem nth8_any (s : ByteArray) (N : Nat) (w : World) (hs : s.size ≤ 1073741824) (hN : N ≤ 1000) (hv : (scanL (bl s)).2 = none) :
 Calls Tryz.prog 290 #[.string s,.int .i64 N] w fun e w'=>e = .returned (.int .i32 ((pts (bl s)).getD N 0)) ∧ Below w.heap.size w w':=by
 have HL : Hid ((bl s).length = s.size):=bl_length s
 have K1:=Lib.hid (fun i w hi=>refAt_any s i w hs hi)
 obtain ⟨P,hP⟩ : ∃ P,P = pts (bl s):=⟨_,rfl⟩
 rw [← hP]
 obtain ⟨p,hp⟩ : ∃ p,p = P.getD N 0:=⟨_,rfl⟩
 rw [← hp]
 have HPL : Hid (P.length ≤ s.size):=Lib.hid (by rw [hP,← HL.out];exact pts_len _)
 have HP:=Lib.hid hP
 have HV:=Lib.hid hv
 have HPN:=Lib.hid hp
 clear hP hv hp
 go_enter Tryz.func290,Tryz.ntmps290
 go_wp2
 go_loopw [5,6] (fun iv nv wr=>∃ (f k m cnt : Nat),iv = .int .i64 (k : Int) ∧ nv = .int .i64 (m : Int) ∧ m ≤ N ∧ k ≤ s.size ∧ s.size - k ≤ f ∧ Hid ((scanF f ((bl s).drop k) k cnt).2 = none) ∧ Hid (pts ((bl s).drop k) = P.drop m) ∧ Below w.heap.size w wr) (fun iv _ _=>s.size - (intOf iv).toNat)
 case atStart=>exact ⟨s.size,0,0,0,rfl,rfl,Nat.zero_le _,Nat.zero_le _,by omega,Lib.hid (by have:=HV.out;unfold scanL at this;rw [HL.out] at this;rw [List.drop_zero];exact this),Lib.hid (by rw [List.drop_zero,List.drop_zero,HP.out]),Below.refl _ _⟩
 case round=>
  obtain ⟨f,k,m,cnt,rfl,rfl,hm,hk,hf,hQ,hPt,hbel⟩:=hrel
  by_cases hlt : k < s.size
  · have hne : (bl s).drop k ≠ []:=drop_ne (by rw [HL.out];omega)
    obtain ⟨f,rfl⟩ : ∃ g,f = g + 1:=⟨f - 1,by omega⟩
    have hat:=refAt_dec ((bl s).drop k) hne
    have k1:=fun w=>K1.out k w hlt
    rw [hat] at k1
    have hb : badDec ((bl s).drop k) = false:=by
     cases hb : badDec ((bl s).drop k) with
     | false=>rfl
     | true=>
      have:=hQ.out
      rw [scanF_bad f _ k _ hne hb] at this
      cases this
    rw [hb] at k1
    simp only [Bool.false_eq_true,if_false] at k1
    have e1:=hQ.out
    rw [scanF_step f _ k _ hne hb,List.drop_drop] at e1
    have e2:=hPt.out
    have hmP : m < P.length:=by
     rcases Nat.lt_or_ge m P.length with h | h
     · exact h
     · rw [List.drop_of_length_le h,pts_cons _ hne] at e2
       cases e2
    rw [pts_cons _ hne,List.drop_drop,List.drop_eq_getElem_cons hmP] at e2
    have hdp:=dec_pos ((bl s).drop k)
    have hdl:=dec_le _ hne
    rw [List.length_drop,HL.out] at hdl
    rcases hd : dec ((bl s).drop k) with ⟨q,j⟩
    rw [hd] at k1 e1 e2 hdp hdl
    simp only at k1 e1 e2 hdp hdl
    obtain ⟨e3,e4⟩:=List.cons.inj e2
    by_cases hmN : m = N
    · subst hmN
      have hqp : (q : Int) = p:=by
       have:=HPN.out
       rw [List.getD_eq_getElem?_getD,List.getElem?_eq_getElem hmP] at this
       rw [e3,this]
       rfl
      have K1':=Lib.hid k1
      have HQP:=Lib.hid hqp
      have E3:=Lib.hid e3
      have E4:=Lib.hid e4
      have E1:=Lib.hid e1
      clear k1 hqp e3 e4 e1
      clear hat hb hne hQ hd e2
      go_wp2_with (go_at_call 156;refine (K1'.out _).mono ?_;rintro e w1 ⟨rfl,hb1⟩)
      go_ret
      exact ⟨ret_i HQP.out,bt hbel hb1⟩
    · have hz2 : ¬ (m : Int) = N:=by omega
      have K1':=Lib.hid k1
      have E3:=Lib.hid e3
      have E4:=Lib.hid e4
      have E1:=Lib.hid e1
      clear k1 e3 e4 e1
      clear hat hb hne hQ hd e2
      go_wp2_with (go_at_call 156;refine (K1'.out _).mono ?_;rintro e w1 ⟨rfl,hb1⟩)
      go_roundw
      case rel=>exact ⟨f,k + j,m + 1,cnt + 1,by go_num,by go_num,by omega,by omega,by omega,E1,E4,bt hbel hb1⟩
      case measure=>simp [intOf];omega
  · have hp0 : p = 0:=by
     have e2:=hPt.out
     have hl : m ≥ P.length:=by
      rcases Nat.lt_or_ge m P.length with h | h
      · rw [List.drop_of_length_le (by rw [HL.out];omega),pts_nil,List.drop_eq_getElem_cons h] at e2
        cases e2
      · exact h
     rw [HPN.out,List.getD_eq_getElem?_getD,List.getElem?_eq_none (by omega)]
     rfl
    have HP0:=Lib.hid hp0
    clear hp0
    go_wp2
    go_ret
    exact ⟨ret_i HP0.out.symm,hbel⟩
def q63 (p : Int) : Int:=if p = 63 then 0 else p
noncomputable def oneR (lead b : Int) : Int:=if b5cell b < 0 then 0 else q63 ((pts (bl (rowT lead))).getD (b5cell b).toNat 0)
set_option maxRecDepth 100000 in
theorem one8_any (lead b : Int) (w : World) (h0 : 0 ≤ lead) (h1 : lead ≤ 255) (h2 : 0 ≤ b) (h3 : b ≤ 255) :
 Calls Tryz.prog 253 #[.int .i64 lead,.int .i64 b] w fun e w'=>e = .returned (.int .i32 (oneR lead b)) ∧ Below w.heap.size w w':=by
 have k0:=fun w=>cell8_any b w (by omega) (by omega)
 obtain ⟨c0,c1⟩:=b5cell_bd b
 have hm : oneR lead b = if b5cell b < 0 then 0 else q63 ((pts (bl (rowT lead))).getD (b5cell b).toNat 0):=rfl
 obtain ⟨t1,t2⟩:=rowT_ok lead
 have k1:=fun w=>row8_any lead w
 obtain ⟨T,hT⟩ : ∃ T,T = rowT lead:=⟨_,rfl⟩
 rw [← hT] at hm t1 t2 k1
 generalize b5cell b = c at *
 by_cases hc : c < 0
 · rw [if_pos hc] at hm
   rw [hm]
   have K0:=Lib.hid k0
   have K1:=Lib.hid k1
   have HT:=Lib.hid hT
   have H2:=Lib.hid t2
   clear k0 k1 hT t2
   clear hm t1
   go_enter Tryz.func253,Tryz.ntmps253
   go_wp2_with (go_at_call 289;refine (K0.out _).mono ?_;rintro e w1 ⟨rfl,rfl⟩)
   go_ret
   exact ⟨rfl,Below.refl _ _⟩
 · obtain ⟨c,rfl⟩:=Int.eq_ofNat_of_zero_le (show 0 ≤ c from by omega)
   rw [if_neg hc,Int.toNat_natCast] at hm
   rw [hm]
   have k2:=fun w=>nth8_any T c w (by omega) (by omega) t2
   generalize (pts (bl T)).getD c 0 = p at *
   unfold q63
   have K0:=Lib.hid k0
   have K1:=Lib.hid k1
   have HT:=Lib.hid hT
   have H2:=Lib.hid t2
   have K2:=Lib.hid k2
   clear k0 k1 hT t2 k2
   clear hm t1
   by_cases hp : p = 63
   · subst hp
     go_enter Tryz.func253,Tryz.ntmps253
     go_wp2_with (first
      | (go_at_call 289;refine (K0.out _).mono ?_;rintro e w1 ⟨rfl,rfl⟩)
      | (go_at_call 291;refine (K1.out _).mono ?_;rintro e w1 ⟨rfl,rfl⟩)
      | (go_at_call 290;refine (K2.out _).mono ?_;rintro e w1 ⟨rfl,hb1⟩))
     go_ret
     exact ⟨rfl,hb1⟩
   · rw [if_neg hp]
     go_enter Tryz.func253,Tryz.ntmps253
     go_wp2_with (first
      | (go_at_call 289;refine (K0.out _).mono ?_;rintro e w1 ⟨rfl,rfl⟩)
      | (go_at_call 291;refine (K1.out _).mono ?_;rintro e w1 ⟨rfl,rfl⟩)
      | (go_at_call 290;refine (K2.out _).mono ?_;rintro e w1 ⟨rfl,hb1⟩))
     go_ret
     exact ⟨rfl,hb1⟩
def twoR (lead b : Int) : Int × Int:=if lead * 256 + b = 34914 then (202,772) else if lead * 256 + b = 34916 then (202,780) else if lead * 256 + b = 34979 then (234,772) else if lead * 256 + b = 34981 then (234,780) else (0,0)
theorem two8_any (lead b : Int) (w : World) (h0 : 0 ≤ lead) (h1 : lead ≤ 255) (h2 : 0 ≤ b) (h3 : b ≤ 255) :
 Calls Tryz.prog 252 #[.int .i64 lead,.int .i64 b] w fun e w'=>e = .returned (.tuple #[.int .i32 (twoR lead b).1,.int .i32 (twoR lead b).2]) ∧ w = w':=by
 unfold twoR
 by_cases c1 : lead * 256 + b = 34914
 · rw [if_pos c1]
   go_enter Tryz.func252,Tryz.ntmps252
   go_wp2
   go_ret2
   exact ⟨rfl,rfl⟩
 by_cases c2 : lead * 256 + b = 34916
 · rw [if_neg c1,if_pos c2]
   go_enter Tryz.func252,Tryz.ntmps252
   go_wp2
   go_ret2
   exact ⟨rfl,rfl⟩
 by_cases c3 : lead * 256 + b = 34979
 · rw [if_neg c1,if_neg c2,if_pos c3]
   go_enter Tryz.func252,Tryz.ntmps252
   go_wp2
   go_ret2
   exact ⟨rfl,rfl⟩
 by_cases c4 : lead * 256 + b = 34981
 · rw [if_neg c1,if_neg c2,if_neg c3,if_pos c4]
   go_enter Tryz.func252,Tryz.ntmps252
   go_wp2
   go_ret2
   exact ⟨rfl,rfl⟩
 · rw [if_neg c1,if_neg c2,if_neg c3,if_neg c4]
   go_enter Tryz.func252,Tryz.ntmps252
   go_wp2
   go_ret2
   exact ⟨rfl,rfl⟩
noncomputable def signs8R (lead b : Int) : List UInt8:=if (twoR lead b).1 ≠ 0 then encR (twoR lead b).1 ++ encR (twoR lead b).2 else if oneR lead b ≠ 0 then encR (oneR lead b) else []
set_option maxRecDepth 100000 in
theorem signs8_any (lead b : Int) (w : World) (h0 : 0 ≤ lead) (h1 : lead ≤ 255) (h2 : 0 ≤ b) (h3 : b ≤ 255) (hS : oneR lead b = 0 ∨ Scal (oneR lead b)) :
 Calls Tryz.prog 212 #[.int .i64 lead,.int .i64 b] w fun e w'=>e = .returned (.string ⟨(signs8R lead b).toArray⟩) ∧ Below w.heap.size w w':=by
 have k1:=fun w=>two8_any lead b w h0 h1 h2 h3
 have k2:=fun w=>one8_any lead b w h0 h1 h2 h3
 have hm : signs8R lead b = if (twoR lead b).1 ≠ 0 then encR (twoR lead b).1 ++ encR (twoR lead b).2 else if oneR lead b ≠ 0 then encR (oneR lead b) else []:=rfl
 by_cases ht : (twoR lead b).1 ≠ 0
 · have hs : Scal (twoR lead b).1 ∧ Scal (twoR lead b).2 ∧ (twoR lead b).1 ≠ 0:=by
    refine ⟨?_,?_,ht⟩
    all_goals (unfold twoR;repeat' split)
    all_goals (unfold Scal;simp)
   rw [if_pos ht] at hm
   rw [hm]
   obtain ⟨s1,s2,s3⟩:=hs
   have k3:=fun w=>refBytes_any _ s1 w
   have k4:=fun w=>refBytes_any _ s2 w
   obtain ⟨p,q,hpq⟩ : ∃ p q,twoR lead b = (p,q):=⟨_,_,rfl⟩
   rw [hpq] at k1 k3 k4 s3 s1 s2 ⊢
   simp only at k1 k3 k4 s3 s1 s2 ⊢
   have hpB : (p != 0) = true:=by simpa using s3
   have e : (⟨(encR p ++ encR q).toArray⟩ : ByteArray) = ⟨(encR p).toArray⟩ ++ ⟨(encR q).toArray⟩:=by simp [ByteArray.ext_iff]
   rw [e]
   have hPl : (⟨(encR p).toArray⟩ : ByteArray).size ≤ 4:=(encR_len p).2
   have hQl : (⟨(encR q).toArray⟩ : ByteArray).size ≤ 4:=(encR_len q).2
   generalize (⟨(encR p).toArray⟩ : ByteArray) = P at *
   generalize (⟨(encR q).toArray⟩ : ByteArray) = Q at *
   have K1:=Lib.hid k1
   have K2:=Lib.hid k2
   have K3:=Lib.hid k3
   have K4:=Lib.hid k4
   clear k1 k2 k3 k4
   clear hm e ht s1 s2 hS hpq
   go_enter Tryz.func212,Tryz.ntmps212
   go_wp2_with (first
    | (go_at_call 252;refine (K1.out _).mono ?_;rintro e w1 ⟨rfl,rfl⟩)
    | (go_at_call 193;with_reducible refine (K3.out _).mono ?_;rintro e w1 ⟨rfl,hb1⟩)
    | (go_at_call 193;with_reducible refine (K4.out _).mono ?_;rintro e w2 ⟨rfl,hb2⟩))
   go_ret
   exact ⟨rfl,bt hb1 hb2⟩
 · have hz : (twoR lead b).1 = 0:=by simpa using ht
   rw [if_neg ht] at hm
   rw [hz] at k1
   generalize (twoR lead b).2 = z at *
   clear ht hz
   by_cases ho : oneR lead b = 0
   · rw [if_neg (by simpa using ho)] at hm
     rw [hm]
     rw [ho] at k2
     have K1:=Lib.hid k1
     have K2:=Lib.hid k2
     clear k1 k2
     clear hm hS ho
     go_enter Tryz.func212,Tryz.ntmps212
     go_wp2_with (first
      | (go_at_call 252;refine (K1.out _).mono ?_;rintro e w1 ⟨rfl,rfl⟩)
      | (go_at_call 253;refine (K2.out _).mono ?_;rintro e w1 ⟨rfl,hb1⟩))
     go_ret
     exact ⟨rfl,hb1⟩
   · rw [if_pos ho] at hm
     rw [hm]
     have k3:=fun w=>refBytes_any _ (hS.resolve_left ho) w
     generalize oneR lead b = p at *
     have hpB : (p != 0) = true:=by simpa using ho
     have K1:=Lib.hid k1
     have K2:=Lib.hid k2
     have K3:=Lib.hid k3
     clear k1 k2 k3
     clear hm hS
     go_enter Tryz.func212,Tryz.ntmps212
     go_wp2_with (first
      | (go_at_call 252;refine (K1.out _).mono ?_;rintro e w1 ⟨rfl,rfl⟩)
      | (go_at_call 253;refine (K2.out _).mono ?_;rintro e w1 ⟨rfl,hb1⟩)
      | (go_at_call 193;refine (K3.out _).mono ?_;rintro e w2 ⟨rfl,hb2⟩))
     go_ret
     exact ⟨rfl,bt hb1 hb2⟩
def oneP : List (Int × Int × List Int) → Int → Int → Int × Bool
 | [],_,_=>(0,false)
 | s :: l,lead,c=>if s.1 = lead then (if c < s.2.1 then oneP l lead c else match s.2.2[(c - s.2.1).toNat]? with
  | some p=>(p,true)
  | none=>oneP l lead c) else oneP l lead c
theorem oneL_P (lead c : Int) : ∀ l,oneL l lead c = oneP (l.map conv) lead c:=by
 intro l
 induction l with
 | nil=>rfl
 | cons s l ih=>
  rw [oneL,List.map_cons,oneP]
  by_cases h : s.1 = lead
  · rw [if_pos h,if_pos (show (conv s).1 = lead from h)]
    by_cases hc : c < b5cell s.2.1
    · rw [atM_neg _ _ (by omega),if_neg (by decide),if_pos (show c < (conv s).2.1 from hc)];exact ih
    · rw [if_neg (show ¬ c < (conv s).2.1 from hc)]
      obtain ⟨k,hk⟩ : ∃ k : Nat,c - b5cell s.2.1 = k:=⟨(c - b5cell s.2.1).toNat,by omega⟩
      have e1 : (c - (conv s).2.1).toNat = k:=by show (c - b5cell s.2.1).toNat = k;omega
      have e2 : (conv s).2.2 = hexPts (bl s.2.2):=rfl
      rw [e1,hk,atM_pts,e2]
      cases (hexPts (bl s.2.2))[k]? with
      | none=>exact ih
      | some p=>rfl
  · rw [if_neg h,if_neg (show ¬ (conv s).1 = lead from h)];exact ih
def okAt (L : List (Int × Int × List Int)) (R : List Int) (lead : Int) (c : Nat) : Bool:=
 decide (oneP L lead (c : Int) = optZ (q63 (R.getD c 0))) && (decide (q63 (R.getD c 0) = 0) || scalar (q63 (R.getD c 0)))
set_option maxRecDepth 100000 in
theorem ok_rows : [(136 : Int),161,163,164,165].all (fun lead=>(List.range 157).all fun c=>okAt (bSpans.map conv) (pts (bl (rowT lead))) lead c) = true:=by decide +kernel
theorem oneL_none (lead c : Int) : ∀ l : List (Int × Int × ByteArray),(∀ s ∈ l,s.1 ≠ lead) → oneL l lead c = (0,false):=by
 intro l
 induction l with
 | nil=>intro _;rfl
 | cons s l ih=>
  intro h
  rw [oneL,if_neg (h s (List.mem_cons_self ..))]
  exact ih fun t ht=>h t (List.mem_cons_of_mem _ ht)
theorem bSpansOf_lead (S : Nat → ByteArray) : (bSpansOf S).all (fun s=>s.1 == 136 || s.1 == 161 || s.1 == 163 || s.1 == 164 || s.1 == 165) = true:=by rfl
theorem oneM_eq (lead b : Int) : oneM lead b = optZ (oneR lead b) ∧ (oneR lead b = 0 ∨ Scal (oneR lead b)):=by
 unfold oneM oneR
 obtain ⟨c0,c1⟩:=b5cell_bd b
 by_cases hc : b5cell b < 0
 · rw [if_pos hc,if_pos hc];exact ⟨rfl,.inl rfl⟩
 rw [if_neg hc,if_neg hc]
 by_cases hl : lead = 136 ∨ lead = 161 ∨ lead = 163 ∨ lead = 164 ∨ lead = 165
 · have h:=ok_rows
   rw [List.all_eq_true] at h
   have h1:=h lead (by rcases hl with h | h | h | h | h <;> (subst h;decide))
   rw [List.all_eq_true] at h1
   have h2:=h1 (b5cell b).toNat (List.mem_range.2 (by omega))
   unfold okAt at h2
   rw [Bool.and_eq_true,Bool.or_eq_true,decide_eq_true_eq,decide_eq_true_eq,show ((b5cell b).toNat : Int) = b5cell b from by omega] at h2
   rw [oneL_P]
   exact ⟨h2.1,h2.2.imp id scal_of⟩
 · have e : rowT lead = ⟨#[]⟩:=by
    unfold rowT
    rw [if_neg (by omega),if_neg (by omega),if_neg (by omega),if_neg (by omega),if_neg (by omega)]
   rw [e,oneL_none]
   · exact ⟨rfl,.inl rfl⟩
   · intro s hs he
     have h:=List.all_eq_true.1 (bSpansOf_lead bStr) s hs
     simp only [Bool.or_eq_true,beq_iff_eq] at h
     omega
theorem one_sp : oneM 136 98 = (0,false) ∧ oneM 136 100 = (0,false) ∧ oneM 136 163 = (0,false) ∧ oneM 136 165 = (0,false):=by
 refine ⟨?_,?_,?_,?_⟩ <;> decide +kernel
theorem textM_one (p : Int) (h : Scal p) : textM [p] = (encR p,true):=by
 have hs : scalar p = true:=by unfold scalar;exact decide_eq_true h
 simp [textM,hs]
theorem signs8_eq (lead b : Int) (h0 : 0 ≤ lead) (h1 : lead ≤ 255) (h2 : 0 ≤ b) (h3 : b ≤ 255) : signs8R lead b = (bSignsM lead b).1:=by
 obtain ⟨o1,o2,o3,o4⟩:=one_sp
 by_cases hs : lead = 136 ∧ (b = 98 ∨ b = 100 ∨ b = 163 ∨ b = 165)
 · obtain ⟨rfl,hb⟩:=hs
   rcases hb with rfl | rfl | rfl | rfl
   · unfold bSignsM;rw [o1];decide +kernel
   · unfold bSignsM;rw [o2];decide +kernel
   · unfold bSignsM;rw [o3];decide +kernel
   · unfold bSignsM;rw [o4];decide +kernel
 · have e1 : twoR lead b = (0,0):=by
    unfold twoR
    rw [if_neg (by omega),if_neg (by omega),if_neg (by omega),if_neg (by omega)]
   have e2 : twosL bTwos lead b = ([],false):=by
    unfold bTwos
    rw [twosL,if_neg (by intro h;exact hs ⟨h.1,.inl h.2⟩),twosL,if_neg (by intro h;exact hs ⟨h.1,.inr (.inl h.2)⟩),twosL,if_neg (by intro h;exact hs ⟨h.1,.inr (.inr (.inl h.2))⟩),twosL,if_neg (by intro h;exact hs ⟨h.1,.inr (.inr (.inr h.2))⟩),twosL]
   obtain ⟨e3,e4⟩:=oneM_eq lead b
   unfold signs8R bSignsM
   rw [e1,e2,e3]
   unfold optZ
   by_cases hz : oneR lead b = 0
   · rw [if_pos hz,if_neg (by simp),if_neg (by simpa using hz),if_neg (by simp)]
   · rw [if_neg hz,if_neg (by simp),if_pos hz,if_pos rfl,textM_one _ (e4.resolve_left hz)]
theorem hasJ_scal (p : Int) (h : hasJ p) : Scal p:=by unfold hasJ at h;unfold Scal;omega
set_option maxRecDepth 100000 in
theorem signs9_any (c l s : Int) (w : World) (hc : c = 4 ∨ c = 5 ∨ c = 6) (h0 : 0 ≤ l) (h1 : l ≤ 255) (h2 : 0 ≤ s) (h3 : s ≤ 255) :
 Calls Tryz.prog 174 #[.int .i64 c,.int .i64 l,.int .i64 s] w fun e w'=>e = .returned (.string ⟨(signsM c l s).toArray⟩) ∧ Below w.heap.size w w':=by
 rcases hc with rfl | rfl | rfl
 · have k1:=fun w=>sign7_any l s w h0 h1 h2 h3
   obtain ⟨e1,e2⟩:=signW_eq l s h0 h1 h2 h3
   have hm : signsM 4 l s = if (wSignM l s).2 = true then (textM [(wSignM l s).1]).1 else []:=rfl
   rw [e1] at hm
   by_cases hz : signW l s = 0
   · rw [hz] at k1 hm
     rw [hm]
     have K1:=Lib.hid k1
     clear k1
     clear e1 e2 hm hz
     go_enter Tryz.func174,Tryz.ntmps174
     go_wp2_with (go_at_call 213;refine (K1.out _).mono ?_;rintro e w1 ⟨rfl,hb1⟩)
     go_ret
     exact ⟨rfl,hb1⟩
   · have hp:=e2.resolve_left hz
     rw [optZ_some _ hz,if_pos rfl,textM_one _ hp] at hm
     rw [hm]
     have k2:=fun w=>refBytes_any (signW l s) hp w
     have hzB : (signW l s == 0) = false:=by simpa using hz
     clear e1 e2 hm
     generalize signW l s = p at *
     have K1:=Lib.hid k1
     have K2:=Lib.hid k2
     clear k1 k2
     go_enter Tryz.func174,Tryz.ntmps174
     go_wp2_with (first
      | (go_at_call 213;refine (K1.out _).mono ?_;rintro e w1 ⟨rfl,hb1⟩)
      | (go_at_call 193;refine (K2.out _).mono ?_;rintro e w2 ⟨rfl,hb2⟩))
     go_ret
     exact ⟨rfl,bt hb1 hb2⟩
 · have k1:=fun w=>refSign_any (l * 256 + s) w (by omega) (by omega)
   have e2 : signJ (l * 256 + s) ≠ 0 → Scal (signJ (l * 256 + s)):=fun h=>hasJ_scal _ (signJ_has _ (by omega) (by omega) h)
   have hm : signsM 5 l s = if signJB (l * 256 + s) = true then (textM [signJ (l * 256 + s)]).1 else []:=rfl
   unfold signJB at hm
   by_cases hz : signJ (l * 256 + s) = 0
   · rw [hz] at k1 hm
     rw [hm]
     have K1:=Lib.hid k1
     clear k1
     clear e2 hm hz
     go_enter Tryz.func174,Tryz.ntmps174
     go_wp2_with (go_at_call 214;refine (K1.out _).mono ?_;rintro e w1 ⟨rfl,hb1⟩)
     go_ret
     exact ⟨rfl,hb1⟩
   · have hp:=e2 hz
     rw [decide_eq_false hz,Bool.not_false,if_pos rfl,textM_one _ hp] at hm
     rw [hm]
     have k2:=fun w=>refBytes_any (signJ (l * 256 + s)) hp w
     have hzB : (signJ (l * 256 + s) == 0) = false:=by simpa using hz
     clear e2 hm
     generalize signJ (l * 256 + s) = p at *
     have K1:=Lib.hid k1
     have K2:=Lib.hid k2
     clear k1 k2
     go_enter Tryz.func174,Tryz.ntmps174
     go_wp2_with (first
      | (go_at_call 214;refine (K1.out _).mono ?_;rintro e w1 ⟨rfl,hb1⟩)
      | (go_at_call 193;refine (K2.out _).mono ?_;rintro e w2 ⟨rfl,hb2⟩))
     go_ret
     exact ⟨rfl,bt hb1 hb2⟩
 · have k1:=fun w=>signs8_any l s w h0 h1 h2 h3 (oneM_eq l s).2
   have hm : signsM 6 l s = (bSignsM l s).1:=rfl
   rw [hm,← signs8_eq l s h0 h1 h2 h3]
   generalize signs8R l s = R at *
   have K1:=Lib.hid k1
   clear k1
   clear hm
   go_enter Tryz.func174,Tryz.ntmps174
   go_wp2_with (go_at_call 212;refine (K1.out _).mono ?_;rintro e w1 ⟨rfl,hb1⟩)
   go_ret
   exact ⟨rfl,hb1⟩
def codeI : Option Nat → Int
 | none=>0
 | some _=>2
def atI : Option Nat → Int
 | none=>0
 | some q=>(q : Nat)
def dec9R (r : List UInt8 × Option Nat) : Value:=.tuple #[.string ⟨r.1.toArray⟩,.int .i64 (codeI r.2),.int .i64 (atI r.2)]
noncomputable def dec9V (c : Int) (l : List UInt8) : Value:=if 0 ≤ c ∧ c ≤ 9 then dec9R (decT (tokC c) l) else .tuple #[.string ⟨#[]⟩,.int .i64 5,.int .i64 0]
def D9Post (r : Value) (w : World) (e : Ending) (w' : World) : Prop:=e = .returned r ∧ Below w.heap.size w w'
theorem cut_one (s : ByteArray) (k : Nat) (h : k < s.size) : bl (s.extract k (k + 1)) = ((bl s).drop k).take 1:=by
 unfold bl
 rw [Lib.extract_data,show k + 1 - k = 1 from by omega]
set_option maxRecDepth 100000 in
theorem dec9_two (c : Int) (s : ByteArray) (w : World) (hs : s.size ≤ 1048576) (hc : c = 4 ∨ c = 5 ∨ c = 6) :
 Calls Tryz.prog 139 #[.int .i64 c,.string s] w (D9Post (dec9R (decT (tok2 c) (bl s))) w):=by
 have HL : Hid ((bl s).length = s.size):=bl_length s
 obtain ⟨R,hR⟩ : ∃ R,R = decT (tok2 c) (bl s):=⟨_,rfl⟩
 have K1 : Hid (∀ (x y : UInt8) w,Calls Tryz.prog 174 #[.int .i64 c,.int .i64 (x.toNat : Int),.int .i64 (y.toNat : Int)] w fun e w'=>e = .returned (.string ⟨(signsM c x.toNat y.toNat).toArray⟩) ∧ Below w.heap.size w w'):=
  Lib.hid (fun x y w=>by have:=x.toNat_lt;have:=y.toNat_lt;exact signs9_any c _ _ w hc (by omega) (by omega) (by omega) (by omega))
 rw [← hR]
 have hc0 : 4 ≤ c:=by omega
 have hc1 : c ≤ 6:=by omega
 clear hc
 have HR:=Lib.hid hR
 clear hR
 go_enter Tryz.func139,Tryz.ntmps139
 go_wp2
 go_loopw [11,12] (fun tv iv wr=>∃ (f k : Nat) (T : ByteArray),iv = .int .i64 (k : Int) ∧ tv = .string T ∧ k ≤ s.size ∧ T.size ≤ 1024 * k ∧ s.size - k ≤ f ∧ Hid (runT (tok2 c) f ((bl s).drop k) k (bl T) = R) ∧ Below w.heap.size w wr) (fun _ iv _=>s.size - (intOf iv).toNat)
 case atStart=>exact ⟨s.size,0,⟨#[]⟩,rfl,rfl,Nat.zero_le _,by decide,by omega,Lib.hid (by have:=HR.out;unfold decT at this;rw [HL.out] at this;rw [this];rfl),Below.refl _ _⟩
 case round=>
  obtain ⟨f,k,T,rfl,rfl,hk,hT,hf,hQ,hbel⟩:=hrel
  by_cases hlt : k < s.size
  · obtain ⟨f,rfl⟩ : ∃ g,f = g + 1:=⟨f - 1,by omega⟩
    obtain ⟨x,hx⟩:=at_some (bl s) k (by rw [HL.out];exact hlt)
    have X : ∀ h,s[k]'h = x:=atB_of s k x hx
    have hxl:=x.toNat_lt
    have hne : (bl s).drop k ≠ []:=drop_ne (by rw [HL.out];omega)
    have hd:=drop_at (bl s) k (List.getElem?_eq_some_iff.1 hx).1
    rw [(List.getElem?_eq_some_iff.1 hx).2] at hd
    have gd : ∀ (t : List UInt8) (m : Nat),tok2 c ((bl s).drop k) = some (t,m) → runT (tok2 c) f ((bl s).drop (k + m)) (k + m) (bl (T ++ ⟨t.toArray⟩)) = R:=by
     intro t m e
     have:=runT_some (tok:=tok2 c) f _ k (bl T) _ _ hne e
     rw [hQ.out,List.drop_drop] at this
     rw [this];simp [bl]
    have bd : tok2 c ((bl s).drop k) = none → R = ([],some k):=by
     intro e
     have:=runT_none (tok:=tok2 c) f _ k (bl T) hne e
     rw [hQ.out] at this
     exact this
    by_cases hx8 : x < 128
    · have hx8n : x.toNat < 128:=hx8
      have ht : tok2 c ((bl s).drop k) = some ([x],1):=by
       rw [hd]
       unfold tok2
       cases (bl s).drop (k + 1) with
       | nil=>simp [tokD,hx8]
       | cons y r=>simp [tokD,hx8]
      have e1:=gd _ _ ht
      obtain ⟨V,hV⟩ : ∃ V : ByteArray,V = s.extract k (k + 1):=⟨_,rfl⟩
      have hVb : V = ⟨[x].toArray⟩:=by
       rw [hV]
       apply ByteArray.ext
       apply Array.toList_inj.1
       show bl (s.extract k (k + 1)) = [x]
       rw [cut_one s k hlt,hd]
       simp
      have hTV : (T ++ V).size ≤ 1024 * (k + 1):=by
       have e1 : bl (T ++ V) = bl T ++ bl V:=by simp [bl]
       rw [← bl_length,e1,List.length_append,bl_length,hVb];simp [bl];omega
      rw [← hVb] at e1
      have E1:=Lib.hid e1
      have HV:=Lib.hid hV
      have HVB:=Lib.hid hVb
      have HTV:=Lib.hid hTV
      have GD:=Lib.hid gd
      have BD:=Lib.hid bd
      clear e1 hV hVb hTV gd bd
      clear hx hd hne hQ ht
      go_wp2
      rw [← HV.out]
      go_roundw
      case rel=>exact ⟨f,k + 1,T ++ V,by go_num,rfl,by omega,HTV.out,by omega,E1,hbel⟩
      case measure=>simp [intOf];omega
    · have hx8n : ¬ x.toNat < 128:=hx8
      by_cases hk2 : k + 1 < s.size
      · obtain ⟨y,hy⟩:=at_some (bl s) (k + 1) (by rw [HL.out];exact hk2)
        have Y : ∀ h,s[k + 1]'h = y:=atB_of s (k + 1) y hy
        have hyl:=y.toNat_lt
        have hd2:=drop_at (bl s) (k + 1) (List.getElem?_eq_some_iff.1 hy).1
        rw [(List.getElem?_eq_some_iff.1 hy).2] at hd2
        have ht : tok2 c ((bl s).drop k) = if signsM c x.toNat y.toNat = [] then none else some (signsM c x.toNat y.toNat,2):=by
         rw [hd,hd2];unfold tok2;simp [tokD,hx8]
        have hk1 : IntKind.i64.wrap ((k : Int) + 1) = (k : Int) + 1:=wraps_i64 _ (by omega) (by omega)
        have hk1n : ((k : Int) + 1).toNat = k + 1:=by omega
        have hk10 : (0 : Int) ≤ (k : Int) + 1:=by omega
        have k1:=fun w=>K1.out x y w
        have hl:=signs_len c x y
        obtain ⟨V,hV⟩ : ∃ V : ByteArray,V = ⟨(signsM c x.toNat y.toNat).toArray⟩:=⟨_,rfl⟩
        have hVb : bl V = signsM c x.toNat y.toNat:=by rw [hV]
        rw [← hV] at k1
        have hVl : V.size ≤ 1024:=by rw [← bl_length,hVb];exact hl
        have hTV : (T ++ V).size ≤ 1024 * (k + 2):=by
         have e1 : bl (T ++ V) = bl T ++ bl V:=by simp [bl]
         rw [← bl_length,e1,List.length_append,bl_length,bl_length];omega
        by_cases hse : signsM c x.toNat y.toNat = []
        · rw [if_pos hse] at ht
          have e1:=bd ht
          have hsB : V.toList.isEmpty = true:=by rw [ByteArray.toList_eq];show (bl V).isEmpty = true;rw [hVb,hse];rfl
          have K1':=Lib.hid k1
          have E1:=Lib.hid e1
          have HV:=Lib.hid hV
          have HVB:=Lib.hid hVb
          have HTV:=Lib.hid hTV
          have GD:=Lib.hid gd
          have BD:=Lib.hid bd
          clear k1 e1 hV hVb hTV gd bd
          clear hx hd hne hQ ht hl hse hy hd2
          go_wp2_with fail
          refine wp_region_grown (by kernel_rfl) (by kernel_rfl) ?_
          repeat (first | go_big_quiet_step ((go_at_call 174;exact Calls.grown_of (K1'.out _))) | quiet_step ((go_at_call 174;exact Calls.grown_of (K1'.out _))))
          refine wpQuiet_nil ?_
          intro _ hw'
          obtain ⟨xg,rfl⟩:=hw'
          have hbx:=bt hbel xg.bel
          generalize xg.wd = W1 at *
          clear xg
          go_wp2
          all_goals
           refine bodyPost_ret (v:=.tuple #[.string ⟨#[]⟩,.int .i64 2,.int .i64 (k : Int)]) (by simp [results,Tryz.results139,go_sem]) rfl ?_
           exact (show D9Post _ _ _ _ from ⟨by rw [E1.out];rfl,hbx⟩)
        · rw [if_neg hse] at ht
          have e1:=gd _ _ ht
          rw [← hV] at e1
          have hsB : V.toList.isEmpty = false:=by
           rw [ByteArray.toList_eq]
           show (bl V).isEmpty = false
           rw [hVb]
           cases hs : signsM c x.toNat y.toNat with
           | nil=>exact absurd hs hse
           | cons a b=>rfl
          have K1':=Lib.hid k1
          have E1:=Lib.hid e1
          have HV:=Lib.hid hV
          have HVB:=Lib.hid hVb
          have HTV:=Lib.hid hTV
          have GD:=Lib.hid gd
          have BD:=Lib.hid bd
          clear k1 e1 hV hVb hTV gd bd
          clear hx hd hne hQ ht hl hse hy hd2
          go_wp2_with fail
          refine wp_region_grown (by kernel_rfl) (by kernel_rfl) ?_
          repeat (first | go_big_quiet_step ((go_at_call 174;exact Calls.grown_of (K1'.out _))) | quiet_step ((go_at_call 174;exact Calls.grown_of (K1'.out _))))
          refine wpQuiet_nil ?_
          intro _ hw'
          obtain ⟨xg,rfl⟩:=hw'
          have hbx:=bt hbel xg.bel
          generalize xg.wd = W1 at *
          clear xg
          go_wp2
          go_roundw
          case rel=>exact ⟨f,k + 2,T ++ V,by go_num,rfl,by omega,HTV.out,by omega,E1,hbx⟩
          case measure=>simp [intOf];omega
      · have hd2 : (bl s).drop (k + 1) = []:=List.drop_of_length_le (by rw [HL.out];omega)
        have ht : tok2 c ((bl s).drop k) = none:=by
         rw [hd,hd2];unfold tok2;simp [tokD,hx8]
        have e1:=bd ht
        have E1:=Lib.hid e1
        have GD:=Lib.hid gd
        have BD:=Lib.hid bd
        clear e1 gd bd
        clear hx hd hne hQ ht hd2
        go_wp2
        refine bodyPost_ret (v:=.tuple #[.string ⟨#[]⟩,.int .i64 2,.int .i64 (k : Int)]) (by simp [results,Tryz.results139,go_sem]) rfl ?_
        exact (show D9Post _ _ _ _ from ⟨by rw [E1.out];rfl,hbel⟩)
  · have hk2 : k = s.size:=by omega
    subst hk2
    have e1:=hQ.out
    rw [List.drop_of_length_le (by rw [HL.out];exact Nat.le_refl _),runT_nil] at e1
    have E1:=Lib.hid e1
    clear e1
    clear hQ
    go_wp2
    refine bodyPost_ret (v:=.tuple #[.string T,.int .i64 0,.int .i64 0]) (by simp [results,Tryz.results139,go_sem]) rfl ?_
    exact (show D9Post _ _ _ _ from ⟨by rw [← E1.out];rfl,hbel⟩)
set_option maxRecDepth 100000 in
theorem dec9_any (c : Int) (s : ByteArray) (w : World) (hs : s.size ≤ 1048576) :
 Calls Tryz.prog 139 #[.int .i64 c,.string s] w (D9Post (dec9V c (bl s)) w):=by
 by_cases hc : 0 ≤ c ∧ c ≤ 9
 · have hv : dec9V c (bl s) = dec9R (decT (tokC c) (bl s)):=if_pos hc
   rw [hv]
   clear hv
   obtain ⟨hc0,hc9⟩:=hc
   by_cases h3 : c ≤ 3
   · have k1:=fun w=>refDec5_any c s w hc0 h3 hs
     have e1:=dec_good c hc0 h3 (bl s)
     rw [e1] at k1 ⊢
     simp only at k1
     generalize encL ((bl s).map (bySg (kgM (setS c)))) = t at *
     have K1:=Lib.hid k1
     clear k1
     clear e1
     go_enter Tryz.func139,Tryz.ntmps139
     go_wp2_with (go_at_call 172;refine (K1.out _).mono ?_;rintro e w1 ⟨rfl,hb1⟩)
     refine bodyPost_ret (v:=.tuple #[.string ⟨t.toArray⟩,.int .i64 0,.int .i64 0]) (by simp [results,Tryz.results139,go_sem]) rfl ?_
     exact (show D9Post _ _ _ _ from ⟨rfl,hb1⟩)
   by_cases h6 : c ≤ 6
   · rw [tokC_two c (by omega) h6]
     exact dec9_two c s w hs (by omega)
   by_cases h7 : c = 7
   · subst h7
     rw [tokC_u,decT_U]
     have k1:=fun w=>refPoints_any s w (by omega)
     unfold RPts RPtsS at k1
     unfold decU
     cases hsc : (scanL (bl s)).2 with
     | none=>
      rw [hsc] at k1
      simp only at k1 ⊢
      have K1:=Lib.hid k1
      clear k1
      clear hsc
      go_enter Tryz.func139,Tryz.ntmps139
      go_wp2_with (go_at_call 111;refine (K1.out _).mono ?_;rintro e w1 ⟨⟨v,rfl,hown⟩,hb1⟩)
      refine bodyPost_ret (v:=.tuple #[.string s,.int .i64 0,.int .i64 0]) (by simp [results,Tryz.results139,go_sem]) rfl ?_
      exact (show D9Post _ _ _ _ from ⟨rfl,hb1⟩)
     | some q=>
      rw [hsc] at k1
      simp only at k1 ⊢
      have K1:=Lib.hid k1
      clear k1
      clear hsc
      go_enter Tryz.func139,Tryz.ntmps139
      go_wp2_with (go_at_call 111;refine (K1.out _).mono ?_;rintro e w1 ⟨rfl,hb1⟩)
      refine bodyPost_ret (v:=.tuple #[.string ⟨#[]⟩,.int .i64 2,.int .i64 (q : Int)]) (by simp [results,Tryz.results139,go_sem]) rfl ?_
      exact (show D9Post _ _ _ _ from ⟨rfl,hb1⟩)
   · rw [tokC_w c (by omega)]
     have k1:=fun w=>refDec3_any s (decide (c = 9)) w hs
     have hbad:=fun u q=>runT_bad (tok:=tokW (decide (c = 9))) (bl s).length (bl s) 0 [] u q
     have hB : (c == 9) = decide (c = 9):=by by_cases h : c = 9 <;> simp [h]
     rcases hr : decT (tokW (decide (c = 9))) (bl s) with ⟨t,o⟩
     rw [hr] at k1
     generalize decide (c = 9) = b at *
     cases o with
     | none=>
      have k1 : ∀ w,Calls Tryz.prog 173 #[.string s,.bool b] w fun e w'=>e = .returned (.tuple #[.string ⟨t.toArray⟩,.int .i64 (-1)]) ∧ Below w.heap.size w w':=k1
      have K1:=Lib.hid k1
      clear k1
      clear hbad hr
      go_enter Tryz.func139,Tryz.ntmps139
      go_wp2_with (go_at_call 173;refine (K1.out _).mono ?_;rintro e w1 ⟨rfl,hb1⟩)
      refine bodyPost_ret (v:=.tuple #[.string ⟨t.toArray⟩,.int .i64 0,.int .i64 0]) (by simp [results,Tryz.results139,go_sem]) rfl ?_
      exact (show D9Post _ _ _ _ from ⟨rfl,hb1⟩)
     | some q=>
      have ht : t = []:=hbad t q hr
      subst ht
      have k1 : ∀ w,Calls Tryz.prog 173 #[.string s,.bool b] w fun e w'=>e = .returned (.tuple #[.string ⟨#[]⟩,.int .i64 (q : Int)]) ∧ Below w.heap.size w w':=k1
      have hq0 : (0 : Int) ≤ (q : Int):=by omega
      have K1:=Lib.hid k1
      clear k1
      clear hbad hr
      go_enter Tryz.func139,Tryz.ntmps139
      go_wp2_with (go_at_call 173;refine (K1.out _).mono ?_;rintro e w1 ⟨rfl,hb1⟩)
      refine bodyPost_ret (v:=.tuple #[.string ⟨#[]⟩,.int .i64 2,.int .i64 (q : Int)]) (by simp [results,Tryz.results139,go_sem]) rfl ?_
      exact (show D9Post _ _ _ _ from ⟨rfl,hb1⟩)
 · have hv : dec9V c (bl s) = .tuple #[.string ⟨#[]⟩,.int .i64 5,.int .i64 0]:=if_neg hc
   rw [hv]
   clear hv
   by_cases h0 : c < 0
   · clear hc
     go_enter Tryz.func139,Tryz.ntmps139
     go_wp2
     refine bodyPost_ret (v:=.tuple #[.string ⟨#[]⟩,.int .i64 5,.int .i64 0]) (by simp [results,Tryz.results139,go_sem]) rfl ?_
     exact (show D9Post _ _ _ _ from ⟨rfl,Below.refl _ _⟩)
   · have h9 : 9 < c:=by omega
     clear hc
     go_enter Tryz.func139,Tryz.ntmps139
     go_wp2
     refine bodyPost_ret (v:=.tuple #[.string ⟨#[]⟩,.int .i64 5,.int .i64 0]) (by simp [results,Tryz.results139,go_sem]) rfl ?_
     exact (show D9Post _ _ _ _ from ⟨rfl,Below.refl _ _⟩)
theorem small10_any (p : Int) (w : World) : Calls Tryz.prog 248 #[.int .i32 p] w fun e w'=>e = .returned (.bool (letterB p)) ∧ w = w':=by
 go_enter Tryz.func248,Tryz.ntmps248
 go_wp2
 all_goals go_ret
 all_goals (refine ⟨ret_b ?_,rfl⟩;unfold letterB;rw [Bool.eq_iff_iff];simp;omega)
theorem capital10_any (p : Int) (w : World) : Calls Tryz.prog 249 #[.int .i32 p] w fun e w'=>e = .returned (.bool (capitalB p)) ∧ w = w':=by
 go_enter Tryz.func249,Tryz.ntmps249
 go_wp2
 all_goals go_ret
 all_goals (refine ⟨ret_b ?_,rfl⟩;unfold capitalB;rw [Bool.eq_iff_iff];simp;omega)
theorem in_anyZ (z : Int) (n : Nat) (hz : z = (n : Int)) (w : World) (hn : n < 11172) :
 Calls Tryz.prog 288 #[.int .i64 z] w fun e w'=>e = .returned (.bool (inN n)) ∧ w = w':=by
 subst hz;exact in_any n w hn
theorem weight10_any (c p : Int) (w : World) (h0 : 0 ≤ c) (h1 : c ≤ 6) (hp0 : 0 ≤ p) (hp1 : p ≤ 1114111) : Calls Tryz.prog 247 #[.int .i64 c,.int .i32 p] w fun e w'=>e = .returned (.int .i64 (weightM c p)) ∧ w = w':=by
 have k1:=fun w=>small10_any p w
 have k2:=fun w=>capital10_any p w
 have hm : weightM c p = if p < 128 then plainM p else if c = 0 then latinM p else if c = 1 ∨ c = 2 ∨ c = 3 then russianM p else if c = 4 ∨ c = 5 then koreanM p else chineseM p:=rfl
 by_cases hp : p < 128
 · rw [if_pos hp] at hm
   rw [hm]
   clear hm k1 k2
   unfold plainM
   by_cases p7 : p = 127
   · rw [if_neg (by omega),if_pos (by omega)]
     go_enter Tryz.func247,Tryz.ntmps247
     go_wp2
     go_ret
     exact ⟨rfl,rfl⟩
   by_cases p3 : p < 32
   · by_cases p9 : p = 9
     · rw [if_pos (by omega)]
       go_enter Tryz.func247,Tryz.ntmps247
       go_wp2
       go_ret
       exact ⟨rfl,rfl⟩
     by_cases p10 : p = 10
     · rw [if_pos (by omega)]
       go_enter Tryz.func247,Tryz.ntmps247
       go_wp2
       go_ret
       exact ⟨rfl,rfl⟩
     by_cases p13 : p = 13
     · rw [if_pos (by omega)]
       go_enter Tryz.func247,Tryz.ntmps247
       go_wp2
       go_ret
       exact ⟨rfl,rfl⟩
     · rw [if_neg (by omega),if_pos (by omega)]
       have n9 : (p != 9) = true:=by simpa using p9
       have n10 : (p != 10) = true:=by simpa using p10
       have n13 : (p != 13) = true:=by simpa using p13
       go_enter Tryz.func247,Tryz.ntmps247
       go_wp2
       go_ret
       exact ⟨rfl,rfl⟩
   · rw [if_neg (by omega),if_neg (by omega)]
     go_enter Tryz.func247,Tryz.ntmps247
     go_wp2
     go_ret
     exact ⟨rfl,rfl⟩
 · rw [if_neg hp] at hm
   by_cases c0 : c = 0
   · rw [if_pos c0] at hm
     rw [hm]
     subst c0
     clear hm k1 k2
     unfold latinM
     by_cases p1 : p < 160
     · rw [if_pos p1]
       go_enter Tryz.func247,Tryz.ntmps247
       go_wp2
       go_ret
       exact ⟨rfl,rfl⟩
     by_cases p2 : p < 192
     · rw [if_neg p1,if_pos (by omega)]
       go_enter Tryz.func247,Tryz.ntmps247
       go_wp2
       go_ret
       exact ⟨rfl,rfl⟩
     by_cases p3 : p = 215
     · rw [if_neg p1,if_pos (by omega)]
       go_enter Tryz.func247,Tryz.ntmps247
       go_wp2
       go_ret
       exact ⟨rfl,rfl⟩
     by_cases p4 : p = 247
     · rw [if_neg p1,if_pos (by omega)]
       go_enter Tryz.func247,Tryz.ntmps247
       go_wp2
       go_ret
       exact ⟨rfl,rfl⟩
     · rw [if_neg p1,if_neg (by omega)]
       have n3 : (p == 215) = false:=by simpa using p3
       have n4 : (p == 247) = false:=by simpa using p4
       go_enter Tryz.func247,Tryz.ntmps247
       go_wp2
       go_ret
       exact ⟨rfl,rfl⟩
   rw [if_neg c0] at hm
   by_cases c3 : c = 1 ∨ c = 2 ∨ c = 3
   · rw [if_pos c3] at hm
     have hm2 : weightM c p = if letterB p = true then 4 else if capitalB p = true then 2 else -4:=hm
     rw [hm2]
     clear hm hm2
     generalize letterB p = a at *
     generalize capitalB p = b at *
     have K1:=Lib.hid k1
     have K2:=Lib.hid k2
     clear k1 k2
     have d0 : (c == 0) = false:=by simpa using c0
     have d1 : c ≤ 3:=by omega
     clear c3
     cases a <;> cases b
     all_goals (
      go_enter Tryz.func247,Tryz.ntmps247
      go_wp2_with (first
       | (go_at_call 248;refine (K1.out _).mono ?_;rintro e w1 ⟨rfl,rfl⟩)
       | (go_at_call 249;refine (K2.out _).mono ?_;rintro e w1 ⟨rfl,rfl⟩))
      go_ret
      exact ⟨rfl,rfl⟩)
   rw [if_neg c3] at hm
   have d0 : (c == 0) = false:=by simpa using c0
   have d3 : 3 < c:=by omega
   clear k1 k2
   by_cases c5 : c = 4 ∨ c = 5
   · rw [if_pos c5] at hm
     have d5 : c ≤ 5:=by omega
     clear c5 c3
     by_cases hs : 44032 ≤ p ∧ p ≤ 55203
     · have hm2 : weightM c p = if rankIn p = true then 6 else 2:=by rw [hm];unfold koreanM;rw [if_pos hs]
       rw [hm2]
       obtain ⟨n,hn⟩ : ∃ n : Nat,p = 44032 + (n : Int):=⟨(p - 44032).toNat,by omega⟩
       obtain ⟨s0,s1⟩:=hs
       have hn2 : n < 11172:=by omega
       have e1:=rankIn_inN n hn2
       rw [← hn] at e1
       rw [e1]
       have k3:=fun z hz w=>in_anyZ z n hz w hn2
       generalize inN n = a at *
       have K3:=Lib.hid k3
       have HN:=Lib.hid hn
       have HN2:=Lib.hid hn2
       clear k3 hn hn2
       clear hm hm2 e1
       cases a
       all_goals (
        go_enter Tryz.func247,Tryz.ntmps247
        go_wp2_with (go_at_call 288;refine (K3.out _ (by have:=HN.out;omega) _).mono ?_;rintro e w1 ⟨rfl,rfl⟩)
        go_ret
        exact ⟨rfl,rfl⟩)
     · have hm2 : weightM c p = if 12593 ≤ p ∧ p ≤ 12686 then -2 else 1:=by rw [hm];unfold koreanM;rw [if_neg hs]
       rw [hm2]
       clear hm hm2
       rcases (show p < 12593 ∨ (12593 ≤ p ∧ p ≤ 12686) ∨ (12686 < p ∧ p < 44032) ∨ 55203 < p from by omega) with h | ⟨h,h'⟩ | ⟨h,h'⟩ | h
       · rw [if_neg (by omega)]
         clear hs
         go_enter Tryz.func247,Tryz.ntmps247
         go_wp2
         go_ret
         exact ⟨rfl,rfl⟩
       · rw [if_pos ⟨h,h'⟩]
         clear hs
         go_enter Tryz.func247,Tryz.ntmps247
         go_wp2
         go_ret
         exact ⟨rfl,rfl⟩
       · rw [if_neg (by omega)]
         clear hs
         go_enter Tryz.func247,Tryz.ntmps247
         go_wp2
         go_ret
         exact ⟨rfl,rfl⟩
       · rw [if_neg (by omega)]
         clear hs
         go_enter Tryz.func247,Tryz.ntmps247
         go_wp2
         go_ret
         exact ⟨rfl,rfl⟩
   · rw [if_neg c5] at hm
     rw [hm]
     have d5 : 5 < c:=by omega
     clear c5 c3 hm
     go_enter Tryz.func247,Tryz.ntmps247
     go_wp2
     all_goals go_ret
     all_goals (refine ⟨ret_i ?_,rfl⟩;unfold chineseM;(repeat' split) <;> omega)
def prevS (L : List Int) : Nat → Bool
 | 0=>false
 | k + 1=>letterB (L.getD k 0)
set_option maxRecDepth 100000 in
theorem score10_good (c : Int) (b tb : ByteArray) (w : World) (hb : b.size ≤ 1048576) (h0 : 0 ≤ c) (h1 : c ≤ 6) (hd : decT (tokC c) (bl b) = (bl tb,none)) :
 Calls Tryz.prog 209 #[.int .i64 c,.string b] w (ScPost (some (scoreM c (bl tb))) w):=by
 have ht1:=decT_short (short_C c) (bl b)
 rw [hd] at ht1
 simp only at ht1
 rw [bl_length,bl_length] at ht1
 have htl : tb.size ≤ 1073741824:=by omega
 have hv:=valid_C c h0 (bl b) (bl tb) hd
 have k1:=fun w=>dec9_any c b w hb
 have e9 : dec9V c (bl b) = .tuple #[.string tb,.int .i64 0,.int .i64 0]:=by
  unfold dec9V;rw [if_pos ⟨h0,by omega⟩,hd];rfl
 unfold D9Post at k1
 rw [e9] at k1
 have k2:=fun w=>refPoints_any tb w htl
 unfold RPts RPtsS at k2
 rw [hv] at k2
 simp only at k2
 have hPl:=pts_len (bl tb)
 rw [bl_length] at hPl
 obtain ⟨M,hM⟩ : ∃ M,M = scoreM c (bl tb):=⟨_,rfl⟩
 rw [← hM]
 unfold scoreM at hM
 have hPs : ∀ (i : Nat) (p : Int),(pts (bl tb))[i]? = some p → 0 ≤ p ∧ p ≤ 1114111:=fun i p h=>by have:=(isl_C c h0 (by omega) (bl b) (bl tb) hd).pts p (List.mem_of_getElem? h);unfold Scal at this;omega
 obtain ⟨L,hL⟩ : ∃ L,L = pts (bl tb):=⟨_,rfl⟩
 rw [← hL] at k2 hPl hM hPs
 obtain ⟨n,hn⟩ : ∃ n,n = L.length:=⟨_,rfl⟩
 rw [← hn] at hPl
 have hnl : n ≤ 1073741824:=by omega
 have K3:=Lib.hid (fun p w a b=>weight10_any c p w h0 h1 a b)
 have K1:=Lib.hid k1
 have K2:=Lib.hid k2
 have HM:=Lib.hid hM
 have HL:=Lib.hid hL
 have HPS:=Lib.hid hPs
 have HN:=Lib.hid hn
 clear k1 k2 hM hL hPs hn
 clear hd hv e9 ht1 hPl
 go_enter Tryz.func209,Tryz.ntmps209
 go_wp2_with (first
  | (go_at_call 139;refine (K1.out _).mono ?_;rintro e w1 ⟨rfl,hb1⟩)
  | (go_at_call 111;refine (K2.out _).mono ?_;rintro e w2 ⟨⟨v,rfl,hown⟩,hb2⟩))
 have hrow:=hown.row
 rw [← HN.out] at hrow
 obtain ⟨a,cap,rfl,hc⟩:=hrow
 have HC:=Lib.hid hc
 have hbw2:=bt hb1 hb2
 clear hc hown
 go_wp2_with fail
 go_loopw [11,12] (fun mv iv wr=>∃ (i : Nat) (m : Int),iv = .int .i64 (i : Int) ∧ mv = .int .i64 m ∧ i ≤ n ∧ -(11 * (i : Int)) ≤ m ∧ m ≤ 11 * (i : Int) ∧ Hid (scoreF c (prevS L i) (L.drop i) m = M) ∧ Below w2.heap.size w2 wr) (fun _ iv _=>n - (intOf iv).toNat)
 case atStart=>exact ⟨0,0,rfl,rfl,Nat.zero_le _,by omega,by omega,Lib.hid HM.out.symm,Below.refl _ _⟩
 case round=>
  obtain ⟨i,m,rfl,rfl,hi,hm0,hm1,hQ,hbel⟩:=hrel
  have hbw : Below w.heap.size w wr:=hbw2.trans (hbel.mono hbw2.size)
  by_cases hlt : i < n
  · obtain ⟨p,hp⟩:=at_some L i (by rw [← HN.out];exact hlt)
    obtain ⟨g,o,rfl,hcell⟩:=HC.out i (.int .i32 p) (by simp [icells,hp])
    have hcell:=kc hbel hcell
    obtain ⟨p0,p1⟩:=HPS.out i p hp
    have hdr : L.drop i = p :: L.drop (i + 1):=by
     obtain ⟨h1,h2⟩:=List.getElem?_eq_some_iff.1 hp
     rw [List.drop_eq_getElem_cons h1,h2]
    have hq:=hQ.out
    rw [hdr,scoreF_cons] at hq
    have hpv : prevS L (i + 1) = letterB p:=by
     show letterB (L.getD i 0) = letterB p
     rw [List.getD_eq_getElem?_getD,hp];rfl
    rw [← hpv] at hq
    have k3:=fun w=>K3.out p w p0 p1
    obtain ⟨wb0,wb1⟩:=weight_bd c p
    generalize weightM c p = W at *
    have k5:=fun w=>capital10_any p w
    generalize capitalB p = cb at *
    have i1 : IntKind.i64.wrap (m + W) = m + W:=by rw [IntKind.wrap_i64];omega
    have i2 : IntKind.i64.wrap (m + W - 3) = m + W - 3:=by rw [IntKind.wrap_i64];omega
    have K3':=Lib.hid k3
    have K5:=Lib.hid k5
    have HPV:=Lib.hid hpv
    clear k3 k5 hpv
    clear hdr hQ
    cases i with
    | zero=>
     have e1 : prevS L 0 = false:=rfl
     rw [e1] at hq
     simp only [Bool.false_and,Bool.false_eq_true,if_false,Int.sub_zero] at hq
     have HQ:=Lib.hid hq
     have hcell : wr.cell? ⟨g,o,none⟩ = some (.int .i32 p):=by simpa using hcell
     clear hq e1 hp
     go_wp2_with (go_at_call 247;refine (K3'.out _).mono ?_;rintro e w3 ⟨rfl,rfl⟩)
     go_roundw
     case rel=>exact ⟨1,m + W,rfl,rfl,by omega,by omega,by omega,HQ,hbel⟩
     case measure=>simp [intOf];omega
    | succ k=>
     obtain ⟨q,hq'⟩:=at_some L k (by rw [← HN.out];omega)
     obtain ⟨g',o',hgo,hcell'⟩:=HC.out k (.int .i32 q) (by simp [icells,hq'])
     cases hgo
     have hcell':=kc hbel hcell'
     have e1 : prevS L (k + 1) = letterB q:=by
      show letterB (L.getD k 0) = letterB q
      rw [List.getD_eq_getElem?_getD,hq'];rfl
     rw [e1] at hq
     have k4:=fun w=>small10_any q w
     generalize letterB q = sb at *
     have j1 : IntKind.i64.wrap (((k + 1 : Nat) : Int) - 1) = (k : Int):=by rw [IntKind.wrap_i64];omega
     have j2 : (0 : Int) < ((k + 1 : Nat) : Int):=by omega
     have K4:=Lib.hid k4
     clear k4
     clear e1 hp hq'
     cases sb <;> cases cb
     all_goals
      simp only [Bool.false_and,Bool.true_and,Bool.false_eq_true,if_false,if_true,Int.sub_zero] at hq
      have HQ:=Lib.hid hq
      clear hq
      go_wp2_with (first
       | (go_at_call 247;refine (K3'.out _).mono ?_;rintro e w3 ⟨rfl,rfl⟩)
       | (go_at_call 248;refine (K4.out _).mono ?_;rintro e w3 ⟨rfl,rfl⟩)
       | (go_at_call 249;refine (K5.out _).mono ?_;rintro e w3 ⟨rfl,rfl⟩))
      go_roundw
      case rel=>exact ⟨k + 1 + 1,_,by go_num,rfl,by omega,by omega,by omega,HQ,hbel⟩
      case measure=>simp [intOf];omega
  · have hi2 : i = n:=by omega
    subst hi2
    have e1:=hQ.out
    rw [List.drop_of_length_le (by rw [← HN.out];exact Nat.le_refl _)] at e1
    have e2 : m = M:=by rw [← e1];cases prevS L i <;> rfl
    clear e1 hQ
    subst e2
    go_wp2
    refine bodyPost_ret (v:=.tuple #[.int .i64 m,.bool true]) (by simp [results,Tryz.results209,go_sem]) rfl ?_
    exact (show ScPost _ _ _ _ from ⟨rfl,hbw⟩)
theorem score10_any (c : Int) (b : ByteArray) (w : World) (hb : b.size ≤ 1048576) : Calls Tryz.prog 209 #[.int .i64 c,.string b] w (ScPost (scoreR c (bl b)) w):=by
 by_cases hc : 0 ≤ c ∧ c ≤ 6
 · obtain ⟨h0,h1⟩:=hc
   have e : scoreR c (bl b) = match decT (tokC c) (bl b) with | (t,none)=>some (scoreM c t) | (_,some _)=>none:=if_pos ⟨h0,h1⟩
   rcases hd : decT (tokC c) (bl b) with ⟨t,o⟩
   rw [hd] at e
   cases o with
   | none=>
    simp only at e
    rw [e]
    have ht : t = bl ⟨t.toArray⟩:=by simp [bl]
    rw [ht]
    exact score10_good c b ⟨t.toArray⟩ w hb h0 h1 (by rw [← ht];exact hd)
   | some k=>
    simp only at e
    rw [e]
    have k1:=fun w=>dec9_any c b w hb
    have ht : t = []:=runT_bad _ _ _ _ _ _ hd
    have e9 : dec9V c (bl b) = .tuple #[.string ⟨#[]⟩,.int .i64 2,.int .i64 (k : Nat)]:=by
     unfold dec9V;rw [if_pos ⟨h0,by omega⟩,hd,ht];rfl
    unfold D9Post at k1
    rw [e9] at k1
    have K1:=Lib.hid k1
    clear k1
    clear e hd ht e9
    go_enter Tryz.func209,Tryz.ntmps209
    go_wp2_with (go_at_call 139;refine (K1.out _).mono ?_;rintro e w1 ⟨rfl,hb1⟩)
    refine bodyPost_ret (v:=.tuple #[.int .i64 0,.bool false]) (by simp [results,Tryz.results209,go_sem]) rfl ?_
    exact (show ScPost _ _ _ _ from ⟨rfl,hb1⟩)
 · have e : scoreR c (bl b) = none:=by unfold scoreR;rw [if_neg hc]
   rw [e]
   clear e
   by_cases hl : c < 0
   · clear hc
     go_enter Tryz.func209,Tryz.ntmps209
     go_wp2
     refine bodyPost_ret (v:=.tuple #[.int .i64 0,.bool false]) (by simp [results,Tryz.results209,go_sem]) rfl ?_
     exact (show ScPost _ _ _ _ from ⟨rfl,Below.refl _ _⟩)
   · have h6 : 6 < c:=by omega
     clear hc
     go_enter Tryz.func209,Tryz.ntmps209
     go_wp2
     refine bodyPost_ret (v:=.tuple #[.int .i64 0,.bool false]) (by simp [results,Tryz.results209,go_sem]) rfl ?_
     exact (show ScPost _ _ _ _ from ⟨rfl,Below.refl _ _⟩)
set_option maxRecDepth 100000 in
theorem guess10_any (b : ByteArray) (v : Value) (L : List Int) (w : World) (hb : b.size ≤ 1048576) (hrow : Row w v L.length (ccells L)) (hl : L.length ≤ 1073741824) :
 Calls Tryz.prog 170 #[.string b,v] w fun e w'=>e = .returned (.int .i64 (guess10M (fun c=>scoreR c (bl b)) L)) ∧ Below w.heap.size w w':=by
 obtain ⟨S,hS⟩ : ∃ S : Int → Option Int,S = fun c=>scoreR c (bl b):=⟨_,rfl⟩
 rw [← hS]
 have K1 : Hid (∀ c w,Calls Tryz.prog 209 #[.int .i64 c,.string b] w fun e w'=>e = .returned (scoreV (S c)) ∧ Below w.heap.size w w'):=Lib.hid (fun c w=>by rw [hS];exact score10_any c b w hb)
 obtain ⟨M,hM⟩ : ∃ M,M = mostF S L 0:=⟨_,rfl⟩
 obtain ⟨G,hG⟩ : ∃ G,G = guess10M S L:=⟨_,rfl⟩
 rw [← hG]
 have hG2 : G = if M = 0 then -1 else firstF S L M:=by rw [hG,hM];rfl
 obtain ⟨n,hn⟩ : ∃ n,n = L.length:=⟨_,rfl⟩
 rw [← hn] at hrow hl
 obtain ⟨a,cap,rfl,hc⟩:=hrow
 have HM:=Lib.hid hM
 have HG:=Lib.hid hG2
 have HC:=Lib.hid hc
 have HN:=Lib.hid hn
 clear hM hG2 hc hn
 clear hG hS
 go_enter Tryz.func170,Tryz.ntmps170
 go_wp2_with fail
 go_loopw [5,6] (fun mv iv wr=>∃ (i : Nat) (m : Int),iv = .int .i64 (i : Int) ∧ mv = .int .i64 m ∧ i ≤ n ∧ Hid (mostF S (L.drop i) m = M) ∧ Below w.heap.size w wr) (fun _ iv _=>n - (intOf iv).toNat)
 case atStart=>exact ⟨0,0,rfl,rfl,Nat.zero_le _,Lib.hid HM.out.symm,Below.refl _ _⟩
 case round=>
  obtain ⟨i,m,rfl,rfl,hi,hQ,hbel⟩:=hrel
  by_cases hlt : i < n
  · obtain ⟨c,hcc⟩:=at_some L i (by rw [← HN.out];exact hlt)
    obtain ⟨g,o,rfl,hcell⟩:=HC.out i (.int .i64 c) (by simp [ccells,hcc])
    have hcell:=kc hbel hcell
    have hdr : L.drop i = c :: L.drop (i + 1):=by
     obtain ⟨h1,h2⟩:=List.getElem?_eq_some_iff.1 hcc
     rw [List.drop_eq_getElem_cons h1,h2]
    have hq:=hQ.out
    rw [hdr] at hq
    have k1:=fun w=>K1.out c w
    clear hdr hQ hcc
    cases hs : S c with
    | none=>
     rw [most_none hs] at hq
     rw [hs] at k1
     have k1 : ∀ w,Calls Tryz.prog 209 #[.int .i64 c,.string b] w fun e w'=>e = .returned (.tuple #[.int .i64 0,.bool false]) ∧ Below w.heap.size w w':=fun w=>k1 w
     have K1':=Lib.hid k1
     have HQ:=Lib.hid hq
     clear k1 hq
     clear hs
     go_wp2_with (go_at_call 209;refine (K1'.out _).mono ?_;rintro e w1 ⟨rfl,hb1⟩)
     go_roundw
     case rel=>exact ⟨i + 1,m,by go_num,rfl,by omega,HQ,bt hbel hb1⟩
     case measure=>simp [intOf];omega
    | some z=>
     rw [hs] at k1
     have k1 : ∀ w,Calls Tryz.prog 209 #[.int .i64 c,.string b] w fun e w'=>e = .returned (.tuple #[.int .i64 z,.bool true]) ∧ Below w.heap.size w w':=fun w=>k1 w
     by_cases hl' : m < z
     · rw [most_more hs _ _ hl'] at hq
       have K1':=Lib.hid k1
       have HQ:=Lib.hid hq
       clear k1 hq
       clear hs
       go_wp2_with (go_at_call 209;refine (K1'.out _).mono ?_;rintro e w1 ⟨rfl,hb1⟩)
       go_roundw
       case rel=>exact ⟨i + 1,z,by go_num,rfl,by omega,HQ,bt hbel hb1⟩
       case measure=>simp [intOf];omega
     · rw [most_less hs _ _ hl'] at hq
       have K1':=Lib.hid k1
       have HQ:=Lib.hid hq
       clear k1 hq
       clear hs
       go_wp2_with (go_at_call 209;refine (K1'.out _).mono ?_;rintro e w1 ⟨rfl,hb1⟩)
       go_roundw
       case rel=>exact ⟨i + 1,m,by go_num,rfl,by omega,HQ,bt hbel hb1⟩
       case measure=>simp [intOf];omega
  · have e1:=hQ.out
    rw [List.drop_of_length_le (by rw [← HN.out];omega)] at e1
    have e2 : m = M:=e1
    clear e1 hQ
    subst e2
    have hin : i = n:=by omega
    clear hlt
    subst hin
    by_cases hz : m = 0
    · subst hz
      have hg:=HG.out
      rw [if_pos rfl] at hg
      have HG':=Lib.hid hg
      clear hg
      go_wp2
      go_ret
      exact ⟨ret_i HG'.out.symm,hbel⟩
    · have hg:=HG.out
      rw [if_neg hz] at hg
      have HG':=Lib.hid hg
      clear hg
      clear HG HM
      have hzB : (m == 0) = false:=by simpa using hz
      go_wp2_with fail
      go_loopw [9] (fun iv wr=>∃ (j : Nat),iv = .int .i64 (j : Int) ∧ j ≤ i ∧ Hid (firstF S (L.drop j) m = G) ∧ Below w.heap.size w wr) (fun iv _=>i - (intOf iv).toNat)
      case atStart=>exact ⟨0,rfl,Nat.zero_le _,Lib.hid HG'.out.symm,hbel⟩
      case round=>
       obtain ⟨j,rfl,hj,hQ,hbel2⟩:=hrel
       by_cases hlt : j < i
       · obtain ⟨c,hcc⟩:=at_some L j (by rw [← HN.out];exact hlt)
         obtain ⟨g,o,rfl,hcell⟩:=HC.out j (.int .i64 c) (by simp [ccells,hcc])
         have hcell:=kc hbel2 hcell
         have hdr : L.drop j = c :: L.drop (j + 1):=by
          obtain ⟨h1,h2⟩:=List.getElem?_eq_some_iff.1 hcc
          rw [List.drop_eq_getElem_cons h1,h2]
         have hq:=hQ.out
         rw [hdr,firstF] at hq
         have k1:=fun w=>K1.out c w
         clear hdr hQ hcc
         cases hs : S c with
         | none=>
          rw [hs,if_neg (by simp)] at hq
          rw [hs] at k1
          have k1 : ∀ w,Calls Tryz.prog 209 #[.int .i64 c,.string b] w fun e w'=>e = .returned (.tuple #[.int .i64 0,.bool false]) ∧ Below w.heap.size w w':=fun w=>k1 w
          have K1':=Lib.hid k1
          have HQ:=Lib.hid hq
          clear k1 hq
          clear hs
          go_wp2_with (go_at_call 209;refine (K1'.out _).mono ?_;rintro e w1 ⟨rfl,hb1⟩)
          go_roundw
          case rel=>exact ⟨j + 1,by go_num,by omega,HQ,bt hbel2 hb1⟩
          case measure=>simp [intOf];omega
         | some z=>
          rw [hs] at k1
          have k1 : ∀ w,Calls Tryz.prog 209 #[.int .i64 c,.string b] w fun e w'=>e = .returned (.tuple #[.int .i64 z,.bool true]) ∧ Below w.heap.size w w':=fun w=>k1 w
          by_cases hzm : z = m
          · subst hzm
            rw [hs,if_pos rfl] at hq
            have K1':=Lib.hid k1
            have HQ:=Lib.hid hq
            clear k1 hq
            clear hs
            have hcell' : ∀ w1,Below wr.heap.size wr w1 → w1.cell? ⟨g,o + j,none⟩ = some (.int .i64 c):=fun w1 hb=>kc hb hcell
            go_wp2_with (go_at_call 209;refine (K1'.out _).mono ?_;rintro e w1 ⟨rfl,hb1⟩;have hcell2:=hcell' _ hb1)
            go_ret
            exact ⟨ret_i HQ.out,bt hbel2 hb1⟩
          · rw [hs,if_neg (by intro h;exact hzm (Option.some.inj h))] at hq
            have K1':=Lib.hid k1
            have HQ:=Lib.hid hq
            clear k1 hq
            clear hs
            go_wp2_with (go_at_call 209;refine (K1'.out _).mono ?_;rintro e w1 ⟨rfl,hb1⟩)
            go_roundw
            case rel=>exact ⟨j + 1,by go_num,by omega,HQ,bt hbel2 hb1⟩
            case measure=>simp [intOf];omega
       · have e1:=hQ.out
         rw [List.drop_of_length_le (by rw [← HN.out];omega)] at e1
         have E1:=Lib.hid e1
         clear e1
         clear hQ
         go_wp2
         go_ret
         exact ⟨ret_i (by rw [← E1.out];rfl),hbel2⟩
theorem order10_any (w : World) : Calls Tryz.prog 171 #[] w fun e w'=>∃ v,e = .returned v ∧ Row w' v 7 (ccells orderL) ∧ Below w.heap.size w w':=by
 go_enter Tryz.func171,Tryz.ntmps171
 go_wp2
 go_ret
 exact ⟨_,rfl,row_lits w #[.int .i64 4,.int .i64 6,.int .i64 5,.int .i64 1,.int .i64 2,.int .i64 3,.int .i64 0] 3,bal (Below.refl _ _) _⟩
set_option maxRecDepth 100000 in
theorem resolve10_any (b d : ByteArray) (fb : Int) (g : Bool) (w : World) (hb : b.size ≤ 1048576) (hd : d.size ≤ 1048576) :
 Calls Tryz.prog 138 #[.string b,.string d,.int .i64 fb,.bool g] w fun e w'=>e = .returned (.int .i64 (resM (bl b) (bl d) fb g)) ∧ Below w.heap.size w w':=by
 have hm : resM (bl b) (bl d) fb g = if (scanL (bl b)).2.isNone = true then 7 else if 0 ≤ refNamed (bl d) then refNamed (bl d)
  else if g = true then (if 0 ≤ guess10M (fun c=>scoreR c (bl b)) orderL then guess10M (fun c=>scoreR c (bl b)) orderL else fb) else fb:=rfl
 obtain ⟨R,hR⟩ : ∃ R,R = resM (bl b) (bl d) fb g:=⟨_,rfl⟩
 rw [← hR] at hm ⊢
 have k1:=fun w=>refPoints_any b w (by omega)
 unfold RPts RPtsS at k1
 have k2:=fun w=>refNamed_any d w (by omega)
 have k3:=fun w=>order10_any w
 have k4 : ∀ v w,Row w v 7 (ccells orderL) → Calls Tryz.prog 170 #[.string b,v] w fun e w'=>e = .returned (.int .i64 (guess10M (fun c=>scoreR c (bl b)) orderL)) ∧ Below w.heap.size w w':=
  fun v w hr=>guess10_any b v orderL w hb hr (by decide)
 generalize guess10M (fun c=>scoreR c (bl b)) orderL = G at *
 generalize refNamed (bl d) = N at *
 cases hs : (scanL (bl b)).2 with
 | none=>
  rw [hs] at k1 hm
  rw [Option.isNone_none,if_pos rfl] at hm
  subst hm
  simp only at k1
  have K1:=Lib.hid k1
  have K2:=Lib.hid k2
  have K3:=Lib.hid k3
  have K4:=Lib.hid k4
  clear k1 k2 k3 k4
  clear hs hR
  go_enter Tryz.func138,Tryz.ntmps138
  go_wp2_with (go_at_call 111;refine (K1.out _).mono ?_;rintro e w1 ⟨⟨v,rfl,hown⟩,hb1⟩)
  go_ret
  exact ⟨rfl,hb1⟩
 | some q=>
  rw [hs] at k1 hm
  rw [Option.isNone_some,if_neg (by decide)] at hm
  simp only at k1
  have hq0 : ¬ (q : Int) < 0:=by omega
  clear hs hR
  by_cases hN : 0 ≤ N
  · rw [if_pos hN] at hm
    subst hm
    have K1:=Lib.hid k1
    have K2:=Lib.hid k2
    have K3:=Lib.hid k3
    have K4:=Lib.hid k4
    clear k1 k2 k3 k4
    go_enter Tryz.func138,Tryz.ntmps138
    go_wp2_with (first
     | (go_at_call 111;refine (K1.out _).mono ?_;rintro e w1 ⟨rfl,hb1⟩)
     | (go_at_call 169;refine (K2.out _).mono ?_;rintro e w2 ⟨rfl,hb2⟩))
    go_ret
    exact ⟨rfl,bt hb1 hb2⟩
  · rw [if_neg hN] at hm
    cases g with
    | false=>
     rw [if_neg (by decide)] at hm
     subst hm
     have K1:=Lib.hid k1
     have K2:=Lib.hid k2
     have K3:=Lib.hid k3
     have K4:=Lib.hid k4
     clear k1 k2 k3 k4
     go_enter Tryz.func138,Tryz.ntmps138
     go_wp2_with (first
      | (go_at_call 111;refine (K1.out _).mono ?_;rintro e w1 ⟨rfl,hb1⟩)
      | (go_at_call 169;refine (K2.out _).mono ?_;rintro e w2 ⟨rfl,hb2⟩))
     go_ret
     exact ⟨rfl,bt hb1 hb2⟩
    | true=>
     rw [if_pos rfl] at hm
     have K1:=Lib.hid k1
     have K2:=Lib.hid k2
     have K3:=Lib.hid k3
     have K4:=Lib.hid k4
     clear k1 k2 k3 k4
     by_cases hG : 0 ≤ G
     · rw [if_pos hG] at hm
       subst hm
       go_enter Tryz.func138,Tryz.ntmps138
       go_wp2_with (first
        | (go_at_call 111;refine (K1.out _).mono ?_;rintro e w1 ⟨rfl,hb1⟩)
        | (go_at_call 169;refine (K2.out _).mono ?_;rintro e w2 ⟨rfl,hb2⟩)
        | (go_at_call 171;refine (K3.out _).mono ?_;rintro e w3 ⟨v,rfl,hrow,hb3⟩)
        | (go_at_call 170;refine (K4.out _ _ hrow).mono ?_;rintro e w4 ⟨rfl,hb4⟩))
       go_ret
       exact ⟨rfl,bt (bt (bt hb1 hb2) hb3) hb4⟩
     · rw [if_neg hG] at hm
       subst hm
       go_enter Tryz.func138,Tryz.ntmps138
       go_wp2_with (first
        | (go_at_call 111;refine (K1.out _).mono ?_;rintro e w1 ⟨rfl,hb1⟩)
        | (go_at_call 169;refine (K2.out _).mono ?_;rintro e w2 ⟨rfl,hb2⟩)
        | (go_at_call 171;refine (K3.out _).mono ?_;rintro e w3 ⟨v,rfl,hrow,hb3⟩)
        | (go_at_call 170;refine (K4.out _ _ hrow).mono ?_;rintro e w4 ⟨rfl,hb4⟩))
       go_ret
       exact ⟨rfl,bt (bt (bt hb1 hb2) hb3) hb4⟩
end Go.Proofs.YtmfjmgjhfplijaaGreatDoor
