/- Lines of a text, words, values, forms: plain (layers 22 to 27). -/
import Derived.Test.YtohbeinhlhgfiaaGreatDoorMCy
import Derived.Lib.LastIndexByte
import Derived.Test.YtohbeinhlhgfiaaGreatDoorMMore
import Derived.Test.YtohbeinhlhgfiaaGreatDoorHV
import Derived.Test.YtohbeinhlhgfiaaGreatDoorMWi
import Derived.Test.YtohbeinhlhgfiaaGreatDoorMOx
namespace Go.Proofs.YtohbeinhlhgfiaaGreatDoor
open Go.RowKit
set_option linter.unusedVariables false
set_option linter.unusedSimpArgs false
def eolB (c : UInt8) : Bool:=c == 10 || c == 13
def nxE (l : List UInt8) (a : Nat) : Nat:=a + ((l.drop a).takeWhile (fun c=>!eolB c)).length
def nxB (l : List UInt8) (e : Nat) : Nat:=if e < l.length then (if l[e]? = some 13 ∧ l[e + 1]? = some 10 then e + 2 else e + 1) else e
theorem drop_atI (l : List UInt8) (k : Nat) (c : UInt8) (h : l[k]? = some c) : l.drop k = c :: l.drop (k + 1):=by
 obtain ⟨h1,h2⟩:=List.getElem?_eq_some_iff.1 h
 rw [List.drop_eq_getElem_cons h1,h2]
theorem nxE_step (l : List UInt8) (e : Nat) (c : UInt8) (h : l[e]? = some c) (hc : eolB c = false) : nxE l e = nxE l (e + 1):=by
 unfold nxE
 rw [drop_atI l e c h,List.takeWhile_cons,hc]
 simp
 omega
theorem nxE_stop (l : List UInt8) (e : Nat) (c : UInt8) (h : l[e]? = some c) (hc : eolB c = true) : nxE l e = e:=by
 unfold nxE
 rw [drop_atI l e c h,List.takeWhile_cons,hc]
 simp
theorem nxE_end (l : List UInt8) : nxE l l.length = l.length:=by
 unfold nxE
 rw [List.drop_length]
 rfl
theorem nxE_ge (l : List UInt8) (a : Nat) : a ≤ nxE l a:=Nat.le_add_right _ _
theorem nxE_le (l : List UInt8) (a : Nat) (h : a ≤ l.length) : nxE l a ≤ l.length:=by
 unfold nxE
 have h1:=(List.takeWhile_sublist (fun c=>!eolB c) (l:=l.drop a)).length_le
 rw [List.length_drop] at h1
 omega
theorem nxE_at (l : List UInt8) : ∀ (n a : Nat),l.length - a ≤ n → nxE l a < l.length → ∃ c,l[nxE l a]? = some c ∧ eolB c = true
 | 0,a,hn,h=>by have:=nxE_ge l a;omega
 | n + 1,a,hn,h=>by
  by_cases ha : a < l.length
  · have hc : l[a]? = some (l[a]'ha):=List.getElem?_eq_getElem ha
    cases he : eolB (l[a]'ha) with
    | true=>rw [nxE_stop l a _ hc he];exact ⟨_,hc,he⟩
    | false=>
     rw [nxE_step l a _ hc he] at h ⊢
     exact nxE_at l n (a + 1) (by omega) h
  · have:=nxE_ge l a;omega
theorem nxB_ge (l : List UInt8) (e : Nat) : e ≤ nxB l e:=by unfold nxB;split <;> (try split) <;> omega
theorem nxB_gt (l : List UInt8) (e : Nat) (h : e < l.length) : e < nxB l e:=by unfold nxB;rw [if_pos h];split <;> omega
theorem nxB_le (l : List UInt8) (e : Nat) (h : e ≤ l.length) : nxB l e ≤ l.length:=by
 unfold nxB
 split
 · split
   · rename_i h1 h2
     have:=(List.getElem?_eq_some_iff.1 h2.2).1
     omega
   · omega
 · exact h
def lnP (l : List UInt8) : Nat → Nat → List (Nat × Nat × Nat)
 | 0,_=>[]
 | n + 1,a=>if a < l.length then (a,nxE l a,nxB l (nxE l a)) :: lnP l n (nxB l (nxE l a)) else []
def lnF (l : List UInt8) (a : Nat) : List (Nat × Nat × Nat):=lnP l (l.length + 1 - a) a
theorem nx_gt (l : List UInt8) (a : Nat) (h : a < l.length) : a < nxB l (nxE l a):=by
 have h1:=nxE_ge l a
 have h2:=nxE_le l a (by omega)
 by_cases h3 : nxE l a < l.length
 · have:=nxB_gt l _ h3;omega
 · have:=nxB_ge l (nxE l a);omega
theorem lnP_fuel (l : List UInt8) : ∀ (n m a : Nat),l.length + 1 - a ≤ n → l.length + 1 - a ≤ m → lnP l n a = lnP l m a
 | 0,0,a,_,_=>rfl
 | 0,m + 1,a,h1,_=>by rw [lnP,lnP,if_neg (by omega)]
 | n + 1,0,a,_,h2=>by rw [lnP,lnP,if_neg (by omega)]
 | n + 1,m + 1,a,h1,h2=>by
  rw [lnP,lnP]
  split
  · rename_i h
    have:=nx_gt l a h
    rw [lnP_fuel l n m _ (by omega) (by omega)]
  · rfl
theorem lnF_cons (l : List UInt8) (a : Nat) (h : a < l.length) : lnF l a = (a,nxE l a,nxB l (nxE l a)) :: lnF l (nxB l (nxE l a)):=by
 have h1:=nx_gt l a h
 unfold lnF
 obtain ⟨n,hn⟩ : ∃ n,l.length + 1 - a = n + 1:=⟨l.length - a,by omega⟩
 rw [hn,lnP,if_pos h,lnP_fuel l n (l.length + 1 - nxB l (nxE l a)) _ (by omega) (by omega)]
theorem lnF_end (l : List UInt8) (a : Nat) (h : ¬ a < l.length) : lnF l a = []:=by
 unfold lnF
 cases hn : l.length + 1 - a with
 | zero=>rfl
 | succ n=>rw [lnP,if_neg h]
def ld0 (l : List UInt8) : Nat:=(l.takeWhile eolB).length
def leadM (l : List UInt8) : List UInt8 × List UInt8:=((l.drop (ld0 l)).take (nxE l (ld0 l) - ld0 l),(l.drop (nxB l (nxE l (ld0 l)))).take (nxE l (nxB l (nxE l (ld0 l))) - nxB l (nxE l (ld0 l))))
def txt (l : List UInt8) (p : Nat × Nat × Nat) : List UInt8:=(l.drop p.1).take (p.2.1 - p.1)
def leadR (l : List UInt8) : List (Nat × Nat × Nat) → Option (List UInt8 × List UInt8)
 | []=>none
 | p :: r=>if p.1 = p.2.1 then leadR l r else some (txt l p,match r with | []=>[] | q :: _=>txt l q)
theorem ld0_le (l : List UInt8) : ld0 l ≤ l.length:=(List.takeWhile_sublist eolB).length_le
theorem take_while_at (p : UInt8 → Bool) : ∀ (l : List UInt8) (k : Nat),k < (l.takeWhile p).length → ∃ c,l[k]? = some c ∧ p c = true
 | [],k,h=>by simp at h
 | c :: l,k,h=>by
  rw [List.takeWhile_cons] at h
  cases hc : p c with
  | false=>rw [hc] at h;simp at h
  | true=>
   rw [hc] at h
   cases k with
   | zero=>exact ⟨c,rfl,hc⟩
   | succ k=>simp at h;simpa using take_while_at p l k h
theorem take_while_end (p : UInt8 → Bool) : ∀ (l : List UInt8) (c : UInt8),l[(l.takeWhile p).length]? = some c → p c = false
 | [],c,h=>by simp at h
 | d :: l,c,h=>by
  rw [List.takeWhile_cons] at h
  cases hd : p d with
  | false=>rw [hd] at h;simp at h;subst h;exact hd
  | true=>rw [hd] at h;simp at h;exact take_while_end p l c h
theorem leadR_eq (l : List UInt8) : ∀ (n a : Nat),l.length - a ≤ n → a ≤ ld0 l → leadR l (lnF l a) = if ld0 l < l.length then some (leadM l) else none
 | n,a,hn,ha=>by
  have h0:=ld0_le l
  by_cases hal : a < l.length
  · rw [lnF_cons l a hal]
    unfold leadR
    simp only
    by_cases he : a = ld0 l
    · have hnot : ¬ a = nxE l a:=by
       have hc : l[a]? = some (l[a]'hal):=List.getElem?_eq_getElem hal
       have:=take_while_end eolB l (l[a]'hal) (by rw [show (l.takeWhile eolB).length = a from he.symm];exact hc)
       rw [nxE_step l a _ hc this]
       have:=nxE_ge l (a + 1)
       omega
      rw [if_neg hnot,if_pos (by omega)]
      unfold leadM txt
      rw [← he]
      congr 2
      by_cases hb : nxB l (nxE l a) < l.length
      · rw [lnF_cons _ _ hb]
      · rw [lnF_end _ _ hb]
        have : l.drop (nxB l (nxE l a)) = []:=List.drop_eq_nil_of_le (by omega)
        rw [this]
        simp
    · obtain ⟨c,hc,hcc⟩:=take_while_at eolB l a (by show a < ld0 l;omega)
      have hs:=nxE_stop l a c hc hcc
      rw [hs,if_pos rfl]
      have hb : nxB l a ≤ ld0 l:=by
       unfold nxB
       rw [if_pos hal]
       split
       · rename_i h2
         by_cases h3 : a + 1 < ld0 l
         · omega
         · have h4 : a + 1 = ld0 l:=by omega
           have:=take_while_end eolB l 10 (by rw [show (l.takeWhile eolB).length = a + 1 from h4.symm];exact h2.2)
           exact absurd this (by decide)
       · omega
      have hg:=nxB_gt l a hal
      match n,hn with
      | 0,hn=>omega
      | n + 1,hn=>exact leadR_eq l n _ (by omega) hb
  · rw [lnF_end l a hal,if_neg (by omega)]
    rfl
def dgB (c : UInt8) : Bool:=decide (48 ≤ c.toNat) && decide (c.toNat ≤ 57)
def cpB (c : UInt8) : Bool:=dgB c || (decide (65 ≤ c.toNat) && decide (c.toNat ≤ 90))
def dgsL (l : List UInt8) : Bool:=l.all dgB && !l.isEmpty
def cpsL (l : List UInt8) : Bool:=l.all cpB && !l.isEmpty
def likeL : List UInt8 → List UInt8 → Bool
 | [],[]=>true
 | c :: l,f :: g=>(if f = 48 then dgB c else c == f) && likeL l g
 | _,_=>false
theorem likeL_length : ∀ {l g : List UInt8},likeL l g = true → l.length = g.length
 | [],[],_=>rfl
 | c :: l,f :: g,h=>by
  simp only [likeL,Bool.and_eq_true] at h
  simp [likeL_length h.2]
 | [],_ :: _,h=>by simp [likeL] at h
 | _ :: _,[],h=>by simp [likeL] at h
theorem likeL_ne : ∀ {l g : List UInt8},l.length ≠ g.length → likeL l g = false:=fun {l g} h=>by
 cases hc : likeL l g with
 | false=>rfl
 | true=>exact absurd (likeL_length hc) h
theorem likeL_append : ∀ (l1 g1 l2 g2 : List UInt8),l1.length = g1.length → likeL (l1 ++ l2) (g1 ++ g2) = (likeL l1 g1 && likeL l2 g2)
 | [],[],l2,g2,_=>by simp [likeL]
 | c :: l1,f :: g1,l2,g2,h=>by
  simp only [List.cons_append,likeL]
  rw [likeL_append l1 g1 l2 g2 (by simpa using h),Bool.and_assoc]
 | [],_ :: _,_,_,h=>by simp at h
 | _ :: _,[],_,_,h=>by simp at h
def blB (c : UInt8) : Bool:=c == 32 || c == 9
def azB (c : UInt8) : Bool:=decide (65 ≤ c.toNat) && decide (c.toNat ≤ 90)
def wdI (l : List UInt8) : Nat:=(l.takeWhile blB).length
def wdJ (l : List UInt8) : Nat:=wdI l + ((l.drop (wdI l)).takeWhile azB).length
def wdW (l : List UInt8) : List UInt8:=(l.drop (wdI l)).take (wdJ l - wdI l)
def valN (l : List UInt8) : Nat:=l.count 34
def valOk (l : List UInt8) : Bool:=if l.contains 34 then decide (2 ≤ l.length) && (l.head? == some 34) && (l.getLast? == some 34) && !((l.drop 1).take (l.length - 2)).contains 34 else !l.isEmpty
def valR (l : List UInt8) : Bool:=(l.count 34 == 0 && !l.isEmpty) || (l.count 34 == 2 && l.head? == some 34 && l.getLast? == some 34)
def wordsL (l : List UInt8) : Bool:=match l with
 | []=>false
 | c :: r=>cpB c && r.all (fun c=>c == 32 || cpB c)
def lastB (l : List UInt8) : Option Nat:=(List.range l.length).reverse.find? fun k=>l[k]? == some 32
theorem tw_len (p : UInt8 → Bool) : ∀ (l : List UInt8) (k : Nat),(l.take k).all p = true → k ≤ l.length → (∀ c,l[k]? = some c → p c = false) → (l.takeWhile p).length = k
 | [],k,_,hk,_=>by simp at hk;subst hk;rfl
 | c :: l,0,_,_,hn=>by
  rw [List.takeWhile_cons,hn c rfl];rfl
 | c :: l,k + 1,ha,hk,hn=>by
  simp only [List.take_succ_cons,List.all_cons,Bool.and_eq_true] at ha
  rw [List.takeWhile_cons,ha.1]
  simp only [if_true,List.length_cons]
  rw [tw_len p l k ha.2 (by simpa using hk) fun c hc=>hn c (by simpa using hc)]
theorem all_step (p : UInt8 → Bool) (l : List UInt8) (k : Nat) (x : UInt8) (hx : l[k]? = some x) (ha : (l.take k).all p = true) : (p x = true → (l.take (k + 1)).all p = true) ∧ (p x = false → l.all p = false):=by
 refine ⟨fun h=>?_,fun h=>?_⟩
 · rw [List.take_add_one,hx,List.all_append,ha]
   simp [h]
 · have hm:=List.mem_of_getElem? hx
   cases hc : l.all p with
   | false=>rfl
   | true=>rw [List.all_eq_true.1 hc x hm] at h;cases h
theorem all_end (p : UInt8 → Bool) (l : List UInt8) (k : Nat) (hk : l.length ≤ k) (ha : (l.take k).all p = true) : l.all p = true:=by rwa [List.take_of_length_le hk] at ha
theorem likeL_iff : ∀ (l g : List UInt8),l.length = g.length → likeL l g = (List.range l.length).all fun k=>match l[k]?,g[k]? with | some c,some f=>if f = 48 then dgB c else c == f | _,_=>true
 | [],[],_=>rfl
 | c :: l,f :: g,h=>by
  rw [likeL,likeL_iff l g (by simpa using h),List.length_cons,List.range_succ_eq_map,List.all_cons,List.all_map]
  rfl
 | [],_ :: _,h=>by simp at h
 | _ :: _,[],h=>by simp at h
theorem range_step (q : Nat → Bool) (n k : Nat) (hk : k < n) (ha : (List.range k).all q = true) : (q k = true → (List.range (k + 1)).all q = true) ∧ (q k = false → (List.range n).all q = false):=by
 refine ⟨fun h=>?_,fun h=>?_⟩
 · rw [List.range_succ,List.all_append,ha];simp [h]
 · cases hc : (List.range n).all q with
   | false=>rfl
   | true=>rw [List.all_eq_true.1 hc k (List.mem_range.2 hk)] at h;cases h
end Go.Proofs.YtohbeinhlhgfiaaGreatDoor
namespace Go.Proofs.YtohbeinhlhgfiaaGreatDoor
open Go.RowKit
set_option linter.unusedVariables false
set_option linter.unusedSimpArgs false
theorem contains_count (l : List UInt8) (x : UInt8) : l.contains x = !(l.count x == 0):=by
 cases h : l.contains x with
 | false=>
  have : ¬ x ∈ l:=fun hm=>by rw [List.contains_iff_mem.2 hm] at h;cases h
  rw [List.count_eq_zero.2 this];rfl
 | true=>
  have:=List.count_pos_iff.2 (List.contains_iff_mem.1 h)
  have hn : (l.count x == 0) = false:=by rw [beq_eq_false_iff_ne];omega
  rw [hn];rfl
theorem valOk_eq (l : List UInt8) : valOk l = valR l:=by
 unfold valOk valR
 rw [contains_count]
 by_cases h0 : l.count 34 = 0
 · simp [h0]
 · have hb : (l.count 34 == 0) = false:=by rw [beq_eq_false_iff_ne];exact h0
   simp only [hb,Bool.not_false,if_true,Bool.false_and,Bool.false_or]
   match l,h0 with
   | [],h0=>simp at h0
   | [x],h0=>
    have : List.count 34 [x] ≤ 1:=List.count_le_length
    have h2 : (List.count 34 [x] == 2) = false:=by rw [beq_eq_false_iff_ne];omega
    rw [h2];simp
   | x :: y :: r,h0=>
    obtain ⟨m,z,hm⟩ : ∃ m z,y :: r = m ++ [z]:=⟨(y :: r).dropLast,(y :: r).getLast (by simp),(List.dropLast_concat_getLast (by simp)).symm⟩
    rw [hm]
    have e1 : ((x :: (m ++ [z])).drop 1).take ((x :: (m ++ [z])).length - 2) = m:=by simp
    have e2 : (x :: (m ++ [z])).getLast? = some z:=by simp [List.getLast?_cons,List.getLast?_append]
    have e3 : decide (2 ≤ (x :: (m ++ [z])).length) = true:=by simp
    rw [e1,e2,e3,contains_count]
    by_cases hx : x = 34
    · by_cases hz : z = 34
      · subst hx;subst hz
        have e4 : List.count 34 (34 :: (m ++ [34])) = m.count 34 + 2:=by simp [List.count_cons,List.count_append]
        rw [e4]
        by_cases hc : m.count 34 = 0
        · simp [hc]
        · have h5 : (m.count 34 == 0) = false:=by rw [beq_eq_false_iff_ne];exact hc
          have h6 : (m.count 34 + 2 == 2) = false:=by rw [beq_eq_false_iff_ne];omega
          simp [h5,h6]
      · have : (some z == some (34 : UInt8)) = false:=by simpa using hz
        simp [this]
    · have : ((x :: (m ++ [z])).head? == some (34 : UInt8)) = false:=by simpa using hx
      simp only [this,Bool.and_false,Bool.false_and]
def fB (l : List UInt8) (n : Nat) : Option Nat:=(List.range n).reverse.find? fun k=>l[k]? == some 32
theorem fB_zero (l : List UInt8) : fB l 0 = none:=rfl
theorem fB_succ (l : List UInt8) (n : Nat) : fB l (n + 1) = if l[n]? = some 32 then some n else fB l n:=by
 unfold fB
 rw [List.range_succ,List.reverse_append,List.reverse_singleton,List.singleton_append,List.find?_cons]
 by_cases h : l[n]? = some 32
 · rw [if_pos h,h];rfl
 · rw [if_neg h]
   have : (l[n]? == some (32 : UInt8)) = false:=by simpa using h
   rw [this]
theorem fB_lt (l : List UInt8) : ∀ (n k : Nat),fB l n = some k → k < n
 | 0,k,h=>by cases h
 | n + 1,k,h=>by
  rw [fB_succ] at h
  split at h
  · cases h;omega
  · have:=fB_lt l n k h;omega
theorem lastIdx_fB (s : ByteArray) : ∀ n,n ≤ s.size → Lib.lastIdx s 32 n = (match fB (bl s) n with | some k=>(k : Int) | none=>-1)
 | 0,_=>rfl
 | n + 1,h=>by
  have hn : n < s.data.size:=h
  have e : s.data[n]! = s.data[n]:=getElem!_pos s.data n hn
  have g : (bl s)[n]? = some s.data[n]:=by
   show s.data.toList[n]? = _
   rw [Array.getElem?_toList,Array.getElem?_eq_getElem hn]
  rw [Lib.lastIdx,fB_succ,g,e,lastIdx_fB s n (by omega)]
  have hk : ((s.data[n].toNat : Int) = 32) ↔ (some s.data[n] = some (32 : UInt8)):=by
   rw [Option.some.injEq,← UInt8.toNat_inj]
   show _ ↔ s.data[n].toNat = 32
   omega
  by_cases h2 : some s.data[n] = some (32 : UInt8)
  · rw [if_pos h2,if_pos (hk.2 h2)]
  · rw [if_neg h2,if_neg (fun x=>h2 (hk.1 x))]
def remL : List UInt8:=[82,69,77]
def titL : List UInt8:=[84,73,84,76,69]
def perL : List UInt8:=[80,69,82,70,79,82,77,69,82]
def sonL : List UInt8:=[83,79,78,71,87,82,73,84,69,82]
def filL : List UInt8:=[70,73,76,69]
def traL : List UInt8:=[84,82,65,67,75]
def indL : List UInt8:=[73,78,68,69,88]
def preL : List UInt8:=[80,82,69,71,65,80]
def posL : List UInt8:=[80,79,83,84,71,65,80]
def catL : List UInt8:=[67,65,84,65,76,79,71]
def isrL : List UInt8:=[73,83,82,67]
def flaL : List UInt8:=[70,76,65,71,83]
def momL : List UInt8:=[48,48,58,48,48,58,48,48]
def nnL : List UInt8:=[48,48]
def numb (p : List UInt8 → Bool) (l : List UInt8) : Bool:=decide (2 < l.length) && likeL (l.take 2) nnL && (l[2]? == some 32) && p (l.drop 3)
def trackR (l : List UInt8) : Bool:=decide (4 ≤ l.length) && likeL (l.take 3) [48,48,32] && cpsL (l.drop 3)
def indexR (l : List UInt8) : Bool:=likeL l ([48,48,32] ++ momL)
theorem like3 (l : List UInt8) (h : 2 < l.length) : likeL (l.take 3) [48,48,32] = (likeL (l.take 2) nnL && (l[2]? == some 32)):=by
 match l,h with
 | a :: b :: c :: r,_=>simp [likeL,nnL,Bool.and_assoc]
 | [],h=>simp at h
 | [_],h=>simp at h
 | [_,_],h=>simp at h
theorem track_eq (l : List UInt8) : trackR l = numb cpsL l:=by
 unfold trackR numb
 by_cases h : 2 < l.length
 · rw [like3 l h]
   by_cases h4 : 4 ≤ l.length
   · simp [h,h4,Bool.and_assoc]
   · have : l.drop 3 = []:=List.drop_eq_nil_of_le (by omega)
     rw [this]
     simp [cpsL]
 · have h4 : ¬ 4 ≤ l.length:=by omega
   simp [h,h4]
theorem index_eq (l : List UInt8) : indexR l = numb (fun x=>likeL x momL) l:=by
 unfold indexR numb
 by_cases h : 2 < l.length
 · have e : l = l.take 3 ++ l.drop 3:=(List.take_append_drop 3 l).symm
   have hl : (l.take 3).length = 3:=by rw [List.length_take];omega
   rw [show likeL l ([48,48,32] ++ momL) = likeL (l.take 3 ++ l.drop 3) ([48,48,32] ++ momL) by rw [← e],likeL_append _ _ _ _ (by rw [hl];rfl),like3 l h]
   simp [h]
 · rw [likeL_ne (by intro hc;have : ([48,48,32] ++ momL).length = 11:=rfl;omega)]
   simp [h]
def restOk (w rest : List UInt8) : Bool:=
 if w = remL then true
 else if w = titL ∨ w = perL ∨ w = sonL then valOk rest
 else if w = filL then (match lastB rest with | none=>false | some k=>cpsL (rest.drop (k + 1)) && valOk (rest.take k))
 else if w = traL then numb cpsL rest
 else if w = indL then numb (fun x=>likeL x momL) rest
 else if w = preL ∨ w = posL then likeL rest momL
 else if w = catL ∨ w = isrL ∨ w = flaL then wordsL rest
 else false
def cueOk (l : List UInt8) : Bool:=
 if wdI l = l.length then true
 else if wdJ l = l.length then wdW l == remL
 else if l[wdJ l]? ≠ some 32 then false
 else restOk (wdW l) (l.drop (wdJ l + 1))
theorem wdI_le (l : List UInt8) : wdI l ≤ l.length:=(List.takeWhile_sublist blB).length_le
theorem wdJ_ge (l : List UInt8) : wdI l ≤ wdJ l:=Nat.le_add_right _ _
theorem wdJ_le (l : List UInt8) : wdJ l ≤ l.length:=by
 unfold wdJ
 have h1:=(List.takeWhile_sublist azB (l:=l.drop (wdI l))).length_le
 have h2:=wdI_le l
 rw [List.length_drop] at h1
 omega
theorem cueOk_none (l : List UInt8) (h : wdI l = wdJ l) : cueOk l = decide (wdJ l = l.length):=by
 unfold cueOk
 rw [← h]
 by_cases hi : wdI l = l.length
 · simp [hi]
 · rw [if_neg hi,if_neg hi]
   have hlt : wdI l < l.length:=by have:=wdI_le l;omega
   have hn : l[wdI l]? ≠ some 32:=by
    intro hc
    have:=take_while_end blB l 32 hc
    exact absurd this (by decide)
   rw [if_pos hn]
   simp [hi]
theorem cueOk_word (l : List UInt8) (h : wdI l ≠ wdJ l) : cueOk l = if wdJ l = l.length then wdW l == remL else if l[wdJ l]? ≠ some 32 then false else restOk (wdW l) (l.drop (wdJ l + 1)):=by
 unfold cueOk
 have h1:=wdJ_ge l
 have h2:=wdJ_le l
 rw [if_neg (by omega)]
def blankL (l : List UInt8) : Bool:=l.all blB
def scrL : List UInt8:=[91,83,99,114,105,112,116,32,73,110,102,111,93]
def timL : List UInt8:=[48,48,58,48,48,58,48,48,44,48,48,48,32,45,45,62,32,48,48,58,48,48,58,48,48,44,48,48,48]
def kindM (s next : List UInt8) : Int:=
 if s = scrL then 6
 else if dgsL s = true ∧ 29 ≤ next.length ∧ likeL (next.take 29) timL = true then 5
 else if s.head? = some 91 then 7
 else if cueOk s = true ∧ blankL s = false then 4
 else 0
end Go.Proofs.YtohbeinhlhgfiaaGreatDoor
namespace Go.Proofs.YtohbeinhlhgfiaaGreatDoor
open Go.RowKit
set_option linter.unusedVariables false
set_option linter.unusedSimpArgs false
def markM (l : List UInt8) : Int × Int:=if Lib.hasPrefix l [239,187,191] = true then (7,3) else if Lib.hasPrefix l [255,254] = true then (8,2) else if Lib.hasPrefix l [254,255] = true then (9,2) else (0,0)
set_option maxRecDepth 100000 in
set_option maxHeartbeats 4000000 in
theorem mark_any (b : ByteArray) (w : World) : Calls Tryz.prog 74 #[.string b] w fun e w'=>e = .returned (.tuple #[.int .i64 (markM (bl b)).1,.int .i64 (markM (bl b)).2]) ∧ w = w':=by
 have k1 : ∀ w,Calls Tryz.prog 27 #[.string b,.string ⟨#[239,187,191]⟩] w fun e w'=>e = .returned (.bool (Lib.hasPrefix (bl b) [239,187,191])) ∧ w' = w:=fun w=>Tryz.strings_HasPrefix b ⟨#[239,187,191]⟩ w
 have k2 : ∀ w,Calls Tryz.prog 27 #[.string b,.string ⟨#[255,254]⟩] w fun e w'=>e = .returned (.bool (Lib.hasPrefix (bl b) [255,254])) ∧ w' = w:=fun w=>Tryz.strings_HasPrefix b ⟨#[255,254]⟩ w
 have k3 : ∀ w,Calls Tryz.prog 27 #[.string b,.string ⟨#[254,255]⟩] w fun e w'=>e = .returned (.bool (Lib.hasPrefix (bl b) [254,255])) ∧ w' = w:=fun w=>Tryz.strings_HasPrefix b ⟨#[254,255]⟩ w
 unfold markM
 generalize Lib.hasPrefix (bl b) [239,187,191] = a1 at *
 generalize Lib.hasPrefix (bl b) [255,254] = a2 at *
 generalize Lib.hasPrefix (bl b) [254,255] = a3 at *
 have K1:=Lib.hid k1
 have K2:=Lib.hid k2
 have K3:=Lib.hid k3
 clear k1 k2 k3
 cases a1 <;> cases a2 <;> cases a3
 all_goals (
  go_enter Tryz.func74,Tryz.ntmps74
  go_wp2_with (first
   | (go_at_call 27;(with_reducible refine (K1.out _).mono ?_);rintro e w1 ⟨rfl,rfl⟩)
   | (go_at_call 27;(with_reducible refine (K2.out _).mono ?_);rintro e w1 ⟨rfl,rfl⟩)
   | (go_at_call 27;(with_reducible refine (K3.out _).mono ?_);rintro e w1 ⟨rfl,rfl⟩))
  go_ret2
  exact ⟨rfl,rfl⟩)
theorem mark_short (l : List UInt8) (h : l.length < 2) : markM l = (0,0):=by
 match l,h with
 | [],_=>rfl
 | [x],_=>simp [markM,Lib.hasPrefix]
 | x :: y :: r,h=>simp at h;omega
theorem mark_two (x y : UInt8) (r : List UInt8) : markM (x :: y :: r) = if x = 239 ∧ y = 187 ∧ r.head? = some 191 then (7,3) else if x = 255 ∧ y = 254 then (8,2) else if x = 254 ∧ y = 255 then (9,2) else (0,0):=by
 unfold markM Lib.hasPrefix
 cases r with
 | nil=>simp [Bool.and_eq_true,@eq_comm UInt8 239 x,@eq_comm UInt8 255 x,@eq_comm UInt8 254 x,@eq_comm UInt8 187 y,@eq_comm UInt8 255 y,@eq_comm UInt8 254 y]
 | cons z r=>simp [Bool.and_eq_true,@eq_comm UInt8 239 x,@eq_comm UInt8 255 x,@eq_comm UInt8 254 x,@eq_comm UInt8 187 y,@eq_comm UInt8 255 y,@eq_comm UInt8 254 y,@eq_comm UInt8 191 z]
set_option maxRecDepth 100000 in
set_option maxHeartbeats 8000000 in
theorem refMark_any (b : ByteArray) (w : World) : Calls Tryz.prog 32 #[.string b] w fun e w'=>e = .returned (.tuple #[.int .i64 (markM (bl b)).1,.int .i64 (markM (bl b)).2]) ∧ w = w':=by
 have hL:=bl_length b
 by_cases h2 : b.size < 2
 · rw [mark_short (bl b) (by omega)]
   clear hL
   go_enter Tryz.func32,Tryz.ntmps32
   go_wp2
   all_goals (go_ret2;exact ⟨rfl,rfl⟩)
 · obtain ⟨x,y,r,hl⟩ : ∃ x y r,bl b = x :: y :: r:=by
    match hb : bl b with
    | []=>rw [hb] at hL;simp at hL;omega
    | [x]=>rw [hb] at hL;simp at hL;omega
    | x :: y :: r=>exact ⟨x,y,r,rfl⟩
   have X : ∀ h,b[0]'h = x:=atB_of b 0 x (by rw [hl];rfl)
   have Y : ∀ h,b[1]'h = y:=atB_of b 1 y (by rw [hl];rfl)
   have s0 : 0 < b.size:=by omega
   have s1 : 1 < b.size:=by omega
   have hxl:=x.toNat_lt
   have hyl:=y.toNat_lt
   have nx : ∀ n : Nat,n < 256 → (x = UInt8.ofNat n ↔ x.toNat = n):=fun n hn=>by rw [← UInt8.toNat_inj,UInt8.toNat_ofNat'];simp [Nat.mod_eq_of_lt hn]
   have ny : ∀ n : Nat,n < 256 → (y = UInt8.ofNat n ↔ y.toNat = n):=fun n hn=>by rw [← UInt8.toNat_inj,UInt8.toNat_ofNat'];simp [Nat.mod_eq_of_lt hn]
   have ex1 : (x = 239 ↔ x.toNat = 239):=nx 239 (by decide)
   have ex2 : (x = 255 ↔ x.toNat = 255):=nx 255 (by decide)
   have ex3 : (x = 254 ↔ x.toNat = 254):=nx 254 (by decide)
   have ey1 : (y = 187 ↔ y.toNat = 187):=ny 187 (by decide)
   have ey2 : (y = 254 ↔ y.toNat = 254):=ny 254 (by decide)
   have ey3 : (y = 255 ↔ y.toNat = 255):=ny 255 (by decide)
   clear nx ny
   by_cases x1 : x = 239
   · subst x1
     by_cases h3 : b.size < 3
     · have hr : r = []:=by
        cases r with
        | nil=>rfl
        | cons z r=>rw [hl] at hL;simp at hL;omega
       subst hr
       have hm : markM (bl b) = (0,0):=by rw [hl,mark_two];simp
       have HM:=Lib.hid hm
       have HL:=Lib.hid hl
       have EX1:=Lib.hid ex1
       have EX2:=Lib.hid ex2
       have EX3:=Lib.hid ex3
       have EY1:=Lib.hid ey1
       have EY2:=Lib.hid ey2
       have EY3:=Lib.hid ey3
       have HLL:=Lib.hid hL
       clear hm hl ex1 ex2 ex3 ey1 ey2 ey3 hL
       rw [HM.out]
       go_enter Tryz.func32,Tryz.ntmps32
       go_wp2
       all_goals (go_ret2;exact ⟨rfl,rfl⟩)
     · obtain ⟨z,r,rfl⟩ : ∃ z q,r = z :: q:=by
        cases r with
        | nil=>rw [hl] at hL;simp at hL;omega
        | cons z r=>exact ⟨z,r,rfl⟩
       have Z : ∀ h,b[2]'h = z:=atB_of b 2 z (by rw [hl];rfl)
       have s2 : 2 < b.size:=by omega
       have hzl:=z.toNat_lt
       have ez1 : (z = 191 ↔ z.toNat = 191):=by rw [← UInt8.toNat_inj];rfl
       by_cases y1 : y = 187
       · subst y1
         by_cases z1 : z = 191
         · subst z1
           have hm : markM (bl b) = (7,3):=by rw [hl,mark_two];simp
           have HM:=Lib.hid hm
           have HL:=Lib.hid hl
           have EX1:=Lib.hid ex1
           have EX2:=Lib.hid ex2
           have EX3:=Lib.hid ex3
           have EY1:=Lib.hid ey1
           have EY2:=Lib.hid ey2
           have EY3:=Lib.hid ey3
           have EZ1:=Lib.hid ez1
           have HLL:=Lib.hid hL
           clear hm hl ex1 ex2 ex3 ey1 ey2 ey3 ez1 hL
           rw [HM.out]
           go_enter Tryz.func32,Tryz.ntmps32
           go_wp2
           all_goals (go_ret2;exact ⟨rfl,rfl⟩)
         · have hm : markM (bl b) = (0,0):=by rw [hl,mark_two];simp [z1]
           have z2 : ¬ (z.toNat : Int) = 191:=fun h=>z1 (ez1.2 (by omega))
           have HM:=Lib.hid hm
           have HL:=Lib.hid hl
           have EX1:=Lib.hid ex1
           have EX2:=Lib.hid ex2
           have EX3:=Lib.hid ex3
           have EY1:=Lib.hid ey1
           have EY2:=Lib.hid ey2
           have EY3:=Lib.hid ey3
           have EZ1:=Lib.hid ez1
           have Z1:=Lib.hid z1
           have HLL:=Lib.hid hL
           clear hm hl ex1 ex2 ex3 ey1 ey2 ey3 ez1 z1 hL
           rw [HM.out]
           go_enter Tryz.func32,Tryz.ntmps32
           go_wp2
           all_goals (go_ret2;exact ⟨rfl,rfl⟩)
       · have hm : markM (bl b) = (0,0):=by rw [hl,mark_two];simp [y1]
         have y2 : ¬ (y.toNat : Int) = 187:=fun h=>y1 (ey1.2 (by omega))
         have HM:=Lib.hid hm
         have HL:=Lib.hid hl
         have EX1:=Lib.hid ex1
         have EX2:=Lib.hid ex2
         have EX3:=Lib.hid ex3
         have EY1:=Lib.hid ey1
         have EY2:=Lib.hid ey2
         have EY3:=Lib.hid ey3
         have EZ1:=Lib.hid ez1
         have Y1:=Lib.hid y1
         have HLL:=Lib.hid hL
         clear hm hl ex1 ex2 ex3 ey1 ey2 ey3 ez1 y1 hL
         rw [HM.out]
         go_enter Tryz.func32,Tryz.ntmps32
         go_wp2
         all_goals (go_ret2;exact ⟨rfl,rfl⟩)
   · have x2 : ¬ (x.toNat : Int) = 239:=fun h=>x1 (ex1.2 (by omega))
     by_cases xa : x = 255
     · subst xa
       by_cases y1 : y = 254
       · subst y1
         have hm : markM (bl b) = (8,2):=by rw [hl,mark_two];simp
         have HM:=Lib.hid hm
         have HL:=Lib.hid hl
         have EX1:=Lib.hid ex1
         have EX2:=Lib.hid ex2
         have EX3:=Lib.hid ex3
         have EY1:=Lib.hid ey1
         have EY2:=Lib.hid ey2
         have EY3:=Lib.hid ey3
         have X1:=Lib.hid x1
         have HLL:=Lib.hid hL
         clear hm hl ex1 ex2 ex3 ey1 ey2 ey3 x1 hL
         rw [HM.out]
         go_enter Tryz.func32,Tryz.ntmps32
         go_wp2
         all_goals (go_ret2;exact ⟨rfl,rfl⟩)
       · have hm : markM (bl b) = (0,0):=by rw [hl,mark_two];simp [y1]
         have y2 : ¬ (y.toNat : Int) = 254:=fun h=>y1 (ey2.2 (by omega))
         have HM:=Lib.hid hm
         have HL:=Lib.hid hl
         have EX1:=Lib.hid ex1
         have EX2:=Lib.hid ex2
         have EX3:=Lib.hid ex3
         have EY1:=Lib.hid ey1
         have EY2:=Lib.hid ey2
         have EY3:=Lib.hid ey3
         have X1:=Lib.hid x1
         have Y1:=Lib.hid y1
         have HLL:=Lib.hid hL
         clear hm hl ex1 ex2 ex3 ey1 ey2 ey3 x1 y1 hL
         rw [HM.out]
         go_enter Tryz.func32,Tryz.ntmps32
         go_wp2
         all_goals (go_ret2;exact ⟨rfl,rfl⟩)
     · have x3 : ¬ (x.toNat : Int) = 255:=fun h=>xa (ex2.2 (by omega))
       by_cases xb : x = 254
       · subst xb
         by_cases y1 : y = 255
         · subst y1
           have hm : markM (bl b) = (9,2):=by rw [hl,mark_two];simp
           have HM:=Lib.hid hm
           have HL:=Lib.hid hl
           have EX1:=Lib.hid ex1
           have EX2:=Lib.hid ex2
           have EX3:=Lib.hid ex3
           have EY1:=Lib.hid ey1
           have EY2:=Lib.hid ey2
           have EY3:=Lib.hid ey3
           have X1:=Lib.hid x1
           have XA:=Lib.hid xa
           have HLL:=Lib.hid hL
           clear hm hl ex1 ex2 ex3 ey1 ey2 ey3 x1 xa hL
           rw [HM.out]
           go_enter Tryz.func32,Tryz.ntmps32
           go_wp2
           all_goals (go_ret2;exact ⟨rfl,rfl⟩)
         · have hm : markM (bl b) = (0,0):=by rw [hl,mark_two];simp [y1]
           have y2 : ¬ (y.toNat : Int) = 255:=fun h=>y1 (ey3.2 (by omega))
           have HM:=Lib.hid hm
           have HL:=Lib.hid hl
           have EX1:=Lib.hid ex1
           have EX2:=Lib.hid ex2
           have EX3:=Lib.hid ex3
           have EY1:=Lib.hid ey1
           have EY2:=Lib.hid ey2
           have EY3:=Lib.hid ey3
           have X1:=Lib.hid x1
           have XA:=Lib.hid xa
           have Y1:=Lib.hid y1
           have HLL:=Lib.hid hL
           clear hm hl ex1 ex2 ex3 ey1 ey2 ey3 x1 xa y1 hL
           rw [HM.out]
           go_enter Tryz.func32,Tryz.ntmps32
           go_wp2
           all_goals (go_ret2;exact ⟨rfl,rfl⟩)
       · have hm : markM (bl b) = (0,0):=by rw [hl,mark_two];simp [x1,xa,xb]
         have x4 : ¬ (x.toNat : Int) = 254:=fun h=>xb (ex3.2 (by omega))
         have HM:=Lib.hid hm
         have HL:=Lib.hid hl
         have EX1:=Lib.hid ex1
         have EX2:=Lib.hid ex2
         have EX3:=Lib.hid ex3
         have EY1:=Lib.hid ey1
         have EY2:=Lib.hid ey2
         have EY3:=Lib.hid ey3
         have X1:=Lib.hid x1
         have XA:=Lib.hid xa
         have XB:=Lib.hid xb
         have HLL:=Lib.hid hL
         clear hm hl ex1 ex2 ex3 ey1 ey2 ey3 x1 xa xb hL
         rw [HM.out]
         go_enter Tryz.func32,Tryz.ntmps32
         go_wp2
         all_goals (go_ret2;exact ⟨rfl,rfl⟩)
end Go.Proofs.YtohbeinhlhgfiaaGreatDoor
namespace Go.Proofs.YtohbeinhlhgfiaaGreatDoor
open Go Go.Rf Go.RowKit
set_option linter.unusedVariables false
set_option linter.unusedSimpArgs false
theorem hasPre (l p : List UInt8) : Lib.hasPrefix l p = (l.take p.length == p):=by
 rw [Bool.eq_iff_iff]
 simp only [Lib.hasPrefix,List.isPrefixOf_iff_prefix,List.prefix_iff_eq_take,beq_iff_eq]
 exact eq_comm
theorem hasPre_short (l p : List UInt8) (h : l.length < p.length) : Lib.hasPrefix l p = false:=by
 rw [hasPre,beq_eq_false_iff_ne]
 intro e
 have:=congrArg List.length e
 rw [List.length_take] at this
 omega
theorem ex_list (b : ByteArray) (l h : Nat) (hl : l ≤ h) (hb : h ≤ b.size) : (b.extract l h).data.toList = ((bl b).drop l).take (h - l):=by
 rw [extract_bytes b l h hl hb]
def tB0 : Told:={ b:=[(.geq,.sym 2,.sym 3,lB false)],l:=[(0,.sym 2),(1,.sym 3)] }
def tB1 (v : Bool) : Told:={ b:=[(.geq,.sym 2,.sym 3,lB true),(.eql,.sym 4,.sym 1,lB v)],s:=[(.sym 0,none,some (.sym 3),.sym 4)],l:=[(0,.sym 2),(1,.sym 3)] }
theorem rB0 : symEv tB0 10 [.a (.sym 0),.a (.sym 1)] = some (one1 (lB false)):=by kernel_rfl
theorem rB1 (v : Bool) : symEv (tB1 v) 10 [.a (.sym 0),.a (.sym 1)] = some (one1 (lB v)):=by cases v <;> kernel_rfl
theorem begins_any (b s : ByteArray) (w : World) (hG : GW w) : Calls Tryz.prog 10 #[.string b,.string s] w fun e w'=>e = .returned (.bool (Lib.hasPrefix (bl b) (bl s))) ∧ Below w.heap.size w w':=by
 obtain ⟨E,hE⟩ : ∃ E,E = b.extract 0 s.size:=⟨_,rfl⟩
 letI:=sgL [.string b,.string s,.int .i64 b.size,.int .i64 s.size,.string E] ⟨okS_str _,okS_str _,okS_int _ _,okS_int _ _,okS_str _,trivial⟩
 have hL : AllP LenOk [((0 : Nat),At.sym 2),(1,.sym 3)]:=⟨⟨b,rfl,fun _=>rfl⟩,⟨s,rfl,fun _=>rfl⟩,trivial⟩
 by_cases h : s.size ≤ b.size
 · have hv : (E.data.toList == s.data.toList) = Lib.hasPrefix (bl b) (bl s):=by
    rw [hE,ex_list b 0 s.size (Nat.zero_le _) h,hasPre,bl_length]
    rfl
   exact sym_to (T:=tB1 _) (vals:=[.string b,.string s]) hG ⟨⟨bok_geq (a:=b.size) (c:=s.size) (k:=.i64) (fun _=>rfl) (fun _=>rfl) (by simp;omega),bok_eqs (s:=E) (t:=s) (fun _=>rfl) (fun _=>rfl) hv,trivial⟩,trivial,
    ⟨⟨b,0,s.size,fun _=>rfl,rfl,⟨.i64,fun _=>rfl⟩,Nat.zero_le _,h,fun _=>by rw [← hE];rfl⟩,trivial⟩,hL,trivial,trivial,trivial⟩ rfl (rB1 _) (fun _=>rfl)
 · rw [hasPre_short _ _ (by rw [bl_length,bl_length];omega)]
   exact sym_to (T:=tB0) (vals:=[.string b,.string s]) hG ⟨⟨bok_geq (a:=b.size) (c:=s.size) (k:=.i64) (fun _=>rfl) (fun _=>rfl) (by simp;omega),trivial⟩,trivial,trivial,hL,trivial,trivial,trivial⟩ rfl rB0 (fun _=>rfl)
def tagL : List UInt8:=[84,65,71]
def tailB (l : List UInt8) : Bool:=decide (128 ≤ l.length) && Lib.hasPrefix (l.drop (l.length - 128)) tagL
def tS0 : Told:={ b:=[(.lss,.sym 1,lI 128,lB true)],l:=[(0,.sym 1)] }
def tS1 (v : Bool) : Told:={ b:=[(.lss,.sym 1,lI 128,lB false),(.sub,.sym 1,lI 128,.sym 2)],s:=[(.sym 0,some (.sym 2),none,.sym 3),(.sym 0,none,some (.sym 2),.sym 4)],l:=[(0,.sym 1)],c:=[(27,[.a (.sym 3),.a (lS tagL)],one1 (lB v))] }
theorem rS0 : symEv tS0 31 [.a (.sym 0)] = some (.t [.a (.sym 0),.a (lS [])]):=by kernel_rfl
theorem rS1 : symEv (tS1 true) 31 [.a (.sym 0)] = some (.t [.a (.sym 4),.a (.sym 3)]):=by kernel_rfl
theorem rS2 : symEv (tS1 false) 31 [.a (.sym 0)] = some (.t [.a (.sym 0),.a (lS [])]):=by kernel_rfl
def splA (f : ByteArray) : ByteArray:=if tailB (bl f) = true then f.extract 0 (f.size - 128) else f
def splB (f : ByteArray) : ByteArray:=if tailB (bl f) = true then f.extract (f.size - 128) f.size else ⟨#[]⟩
theorem splB_ne (f : ByteArray) : decide ((splB f).data.toList ≠ []) = tailB (bl f):=by
 unfold splB
 cases h : tailB (bl f) with
 | false=>rfl
 | true=>
  rw [if_pos rfl,decide_eq_true_iff]
  intro hc
  unfold tailB at h
  rw [Bool.and_eq_true,decide_eq_true_iff,bl_length] at h
  have:=congrArg List.length hc
  rw [show (f.extract (f.size - 128) f.size).data.toList.length = (f.extract (f.size - 128) f.size).size from rfl,ByteArray.size_extract] at this
  simp at this
  omega
theorem split_any (f : ByteArray) (w : World) (hG : GW w) (hs : f.size ≤ 9223372036854775807) : Calls Tryz.prog 31 #[.string f] w fun e w'=>e = .returned (.tuple #[.string (splA f),.string (splB f)]) ∧ Below w.heap.size w w':=by
 unfold splA splB
 obtain ⟨C,hC⟩ : ∃ C,C = f.extract (f.size - 128) f.size:=⟨_,rfl⟩
 obtain ⟨A,hA⟩ : ∃ A,A = f.extract 0 (f.size - 128):=⟨_,rfl⟩
 letI:=sgL [.string f,.int .i64 f.size,.int .i64 ((f.size : Int) - 128),.string C,.string A] ⟨okS_str _,okS_int _ _,okS_int _ _,okS_str _,okS_str _,trivial⟩
 have hL : AllP LenOk [((0 : Nat),At.sym 1)]:=⟨⟨f,rfl,fun _=>rfl⟩,trivial⟩
 have hlen:=bl_length f
 by_cases h : f.size < 128
 · have ht : tailB (bl f) = false:=by unfold tailB;rw [decide_eq_false (by omega)];rfl
   rw [ht]
   exact (sym_to (vals:=[.string f]) (v:=.tuple #[.string f,.string ⟨#[]⟩]) (T:=tS0) hG ⟨⟨bok_lss (a:=f.size) (c:=128) (k:=.i64) (fun _=>rfl) (fun _=>rfl) (by simp;omega),trivial⟩,trivial,trivial,hL,trivial,trivial,trivial⟩ rfl rS0 (fun _=>rfl))
 · have b1 : BOk (.lss,.sym 1,lI 128,lB false):=bok_lss (a:=f.size) (c:=128) (k:=.i64) (fun _=>rfl) (fun _=>rfl) (by simp;omega)
   have b2 : BOk (.sub,.sym 1,lI 128,.sym 2):=bok_subI (a:=f.size) (c:=128) (k:=.i64) (fun _=>rfl) (fun _=>rfl) (fun _=>rfl) (wi64 _ (by omega) (by omega))
   have e1 : (f.size : Int) - 128 = ((f.size - 128 : Nat) : Int):=by omega
   have s1 : AllP SliOk [((At.sym 0),some (At.sym 2),(none : Option At),At.sym 3),(.sym 0,none,some (.sym 2),.sym 4)]:=
    ⟨⟨f,f.size - 128,f.size,fun _=>rfl,⟨.i64,fun _=>by rw [← e1];rfl⟩,rfl,by omega,Nat.le_refl _,fun _=>by rw [← hC];rfl⟩,⟨f,0,f.size - 128,fun _=>rfl,rfl,⟨.i64,fun _=>by rw [← e1];rfl⟩,Nat.zero_le _,by omega,fun _=>by rw [← hA];rfl⟩,trivial⟩
   have hcl : C.data.toList = (bl f).drop (f.size - 128):=by
    rw [hC,ex_list f _ _ (by omega) (Nat.le_refl _)]
    exact List.take_of_length_le (by rw [List.length_drop,hlen];omega)
   have ht : tailB (bl f) = Lib.hasPrefix C.data.toList tagL:=by
    unfold tailB
    rw [decide_eq_true (by omega),Bool.true_and,hlen,hcl]
   have kp : ∀ w',Calls Tryz.prog 27 #[.string C,.string ⟨⟨tagL⟩⟩] w' fun e w''=>e = .returned (.bool (tailB (bl f))) ∧ Below w'.heap.size w' w'':=fun w'=>by
    rw [ht]
    exact (Tryz.strings_HasPrefix C ⟨⟨tagL⟩⟩ w').mono fun e w'' q=>⟨q.1,by rw [q.2];exact Below.refl _ _⟩
   cases hb : tailB (bl f) with
   | true=>
    rw [hb] at kp
    rw [if_pos rfl,if_pos rfl,← hA,← hC]
    exact (sym_to (vals:=[.string f]) (v:=.tuple #[.string A,.string C]) (T:=tS1 true) hG ⟨⟨b1,b2,trivial⟩,trivial,s1,hL,⟨⟨[.string C,.string ⟨⟨tagL⟩⟩],_,fun _=>rfl,fun _=>rfl,fun w' _=>kp w'⟩,trivial⟩,trivial,trivial⟩ rfl rS1 (fun _=>rfl))
   | false=>
    rw [hb] at kp
    exact (sym_to (vals:=[.string f]) (v:=.tuple #[.string f,.string ⟨#[]⟩]) (T:=tS1 false) hG ⟨⟨b1,b2,trivial⟩,trivial,s1,hL,⟨⟨[.string C,.string ⟨⟨tagL⟩⟩],_,fun _=>rfl,fun _=>rfl,fun w' _=>kp w'⟩,trivial⟩,trivial,trivial⟩ rfl rS2 (fun _=>rfl))
def sxM (l : List UInt8) : List UInt8 × Bool:=
 if (markM l).2 = 0 then (l,true) else if (markM l).1 = 7 then (l.drop 3,true)
 else ((decT (tokW (decide ((markM l).1 = 9))) (l.drop 2)).1,(decT (tokW (decide ((markM l).1 = 9))) (l.drop 2)).2.isNone)
def sxT (c n : Nat) : Told:={ s:=[(.sym 0,some (lI n),none,.sym 1)],c:=[(74,[.a (.sym 0)],.t [.a (lI c),.a (lI n)])] }
def sxW (big : Bool) (k : Nat) : Told:={ s:=[(.sym 0,some (lI 2),none,.sym 1)],c:=[(74,[.a (.sym 0)],.t [.a (lI (match big with | true=>9 | false=>8)),.a (lI 2)]),(75,[.a (.sym 1),.a (lB big)],.t [.a (.sym 2),.g [lI k,.sym 3]])] }
theorem rT0 : symEv (sxT 0 0) 28 [.a (.sym 0)] = some (.t [.a (.sym 1),.a (lB true)]):=by kernel_rfl
theorem rT7 : symEv (sxT 7 3) 28 [.a (.sym 0)] = some (.t [.a (.sym 1),.a (lB true)]):=by kernel_rfl
theorem rW1 (big : Bool) : symEv (sxW big 0) 28 [.a (.sym 0)] = some (.t [.a (.sym 2),.a (lB true)]):=by cases big <;> kernel_rfl
theorem rW0 (big : Bool) : symEv (sxW big 2) 28 [.a (.sym 0)] = some (.t [.a (.sym 2),.a (lB false)]):=by cases big <;> kernel_rfl
theorem mark_cases (l : List UInt8) : (markM l = (0,0)) ∨ (markM l = (7,3) ∧ 3 ≤ l.length) ∨ (markM l = (8,2) ∧ 2 ≤ l.length) ∨ (markM l = (9,2) ∧ 2 ≤ l.length):=by
 unfold markM
 by_cases h1 : Lib.hasPrefix l [239,187,191] = true
 · rw [if_pos h1]
   refine .inr (.inl ⟨rfl,?_⟩)
   rcases Nat.lt_or_ge l.length 3 with h | h
   · rw [hasPre_short _ _ (by simpa using h)] at h1;cases h1
   · exact h
 · rw [if_neg h1]
   by_cases h2 : Lib.hasPrefix l [255,254] = true
   · rw [if_pos h2]
     refine .inr (.inr (.inl ⟨rfl,?_⟩))
     rcases Nat.lt_or_ge l.length 2 with h | h
     · rw [hasPre_short _ _ (by simpa using h)] at h2;cases h2
     · exact h
   · rw [if_neg h2]
     by_cases h3 : Lib.hasPrefix l [254,255] = true
     · rw [if_pos h3]
       refine .inr (.inr (.inr ⟨rfl,?_⟩))
       rcases Nat.lt_or_ge l.length 2 with h | h
       · rw [hasPre_short _ _ (by simpa using h)] at h3;cases h3
       · exact h
     · rw [if_neg h3];exact .inl rfl
theorem ex_drop (b : ByteArray) (n : Nat) (h : n ≤ b.size) : b.extract n b.size = ⟨((bl b).drop n).toArray⟩:=by
 rw [extract_bytes b n b.size h (Nat.le_refl _)]
 congr 2
 exact List.take_of_length_le (by rw [List.length_drop];show (bl b).length - n ≤ _;rw [bl_length];exact Nat.le_refl _)
theorem stext_any (b : ByteArray) (w : World) (hG : GW w) (hs : b.size ≤ 1073741824) : Calls Tryz.prog 28 #[.string b] w fun e w'=>e = .returned (.tuple #[.string ⟨(sxM (bl b)).1.toArray⟩,.bool (sxM (bl b)).2]) ∧ Below w.heap.size w w':=by
 have hlen:=bl_length b
 have km : ∀ w',Calls Tryz.prog 74 #[.string b] w' fun e w''=>e = .returned (.tuple #[.int .i64 (markM (bl b)).1,.int .i64 (markM (bl b)).2]) ∧ Below w'.heap.size w' w'':=fun w'=>(mark_any b w').mono fun e w'' q=>⟨q.1,by rw [← q.2];exact Below.refl _ _⟩
 have wd : ∀ (big : Bool),markM (bl b) = (if big then 9 else 8,2) → 2 ≤ (bl b).length → Calls Tryz.prog 28 #[.string b] w fun e w'=>e = .returned (.tuple #[.string ⟨(decT (tokW big) ((bl b).drop 2)).1.toArray⟩,.bool (decT (tokW big) ((bl b).drop 2)).2.isNone]) ∧ Below w.heap.size w w':=by
  intro big hm h2
  rw [hm] at km
  have e1:=ex_drop b 2 (by omega)
  obtain ⟨S,hS⟩ : ∃ S,S = b.extract 2 b.size:=⟨_,rfl⟩
  have hSs : S.size ≤ 1073741824:=by rw [hS,ByteArray.size_extract];omega
  have hbl : bl S = (bl b).drop 2:=by rw [hS,e1]
  have kd:=fun w'=>wdecode_any S big w' hSs
  rw [hbl] at kd
  cases hf : (decT (tokW big) ((bl b).drop 2)).2 with
  | none=>
   rw [hf] at kd
   letI:=sgL [.string b,.string S,.string ⟨(decT (tokW big) ((bl b).drop 2)).1.toArray⟩,.int .i64 0] ⟨okS_str _,okS_str _,okS_str _,okS_int _ _,trivial⟩
   have:=sym_to (vals:=[.string b]) (v:=.tuple #[.string ⟨(decT (tokW big) ((bl b).drop 2)).1.toArray⟩,.bool true]) hG (T:=sxW big 0) ⟨trivial,trivial,⟨⟨b,2,b.size,fun _=>rfl,⟨.i64,fun _=>rfl⟩,rfl,by omega,Nat.le_refl _,fun _=>by rw [← hS];rfl⟩,trivial⟩,trivial,
    ⟨⟨[.string b],_,fun _=>rfl,fun _=>rfl,fun w' _=>by cases big <;> exact km w'⟩,⟨[.string S,.bool big],_,fun _=>rfl,fun _=>rfl,fun w' _=>kd w'⟩,trivial⟩,trivial,trivial⟩ rfl (rW1 big) (fun _=>rfl)
   exact this
  | some k=>
   rw [hf] at kd
   letI:=sgL [.string b,.string S,.string ⟨(decT (tokW big) ((bl b).drop 2)).1.toArray⟩,.int .i64 k] ⟨okS_str _,okS_str _,okS_str _,okS_int _ _,trivial⟩
   have:=sym_to (vals:=[.string b]) (v:=.tuple #[.string ⟨(decT (tokW big) ((bl b).drop 2)).1.toArray⟩,.bool false]) hG (T:=sxW big 2) ⟨trivial,trivial,⟨⟨b,2,b.size,fun _=>rfl,⟨.i64,fun _=>rfl⟩,rfl,by omega,Nat.le_refl _,fun _=>by rw [← hS];rfl⟩,trivial⟩,trivial,
    ⟨⟨[.string b],_,fun _=>rfl,fun _=>rfl,fun w' _=>by cases big <;> exact km w'⟩,⟨[.string S,.bool big],_,fun _=>rfl,fun _=>rfl,fun w' _=>kd w'⟩,trivial⟩,trivial,trivial⟩ rfl (rW0 big) (fun _=>rfl)
   exact this
 have pl : ∀ (c n : Nat),markM (bl b) = ((c : Int),(n : Int)) → n ≤ b.size → symEv (sxT c n) 28 [.a (.sym 0)] = some (.t [.a (.sym 1),.a (lB true)]) → Calls Tryz.prog 28 #[.string b] w fun e w'=>e = .returned (.tuple #[.string ⟨((bl b).drop n).toArray⟩,.bool true]) ∧ Below w.heap.size w w':=by
  intro c n hm hn hr
  rw [hm] at km
  letI:=sgL [.string b,.string (b.extract n b.size)] ⟨okS_str _,okS_str _,trivial⟩
  have:=sym_to (vals:=[.string b]) (v:=.tuple #[.string (b.extract n b.size),.bool true]) hG (T:=sxT c n) ⟨trivial,trivial,⟨⟨b,n,b.size,fun _=>rfl,⟨.i64,fun _=>rfl⟩,rfl,hn,Nat.le_refl _,fun _=>rfl⟩,trivial⟩,trivial,
   ⟨⟨[.string b],_,fun _=>rfl,fun _=>rfl,fun w' _=>km w'⟩,trivial⟩,trivial,trivial⟩ rfl hr (fun _=>rfl)
  rw [ex_drop b n hn] at this
  exact this
 unfold sxM
 rcases mark_cases (bl b) with h | ⟨h,hl⟩ | ⟨h,hl⟩ | ⟨h,hl⟩
 · have:=pl 0 0 h (Nat.zero_le _) rT0
   rw [h]
   exact this
 · have:=pl 7 3 h (by omega) rT7
   rw [h]
   exact this
 · have:=wd false h hl
   rw [h]
   exact this
 · have:=wd true h hl
   rw [h]
   exact this
end Go.Proofs.YtohbeinhlhgfiaaGreatDoor
namespace Go.Proofs.YtohbeinhlhgfiaaGreatDoor
open Go Go.Rf Go.RowKit
set_option linter.unusedVariables false
set_option linter.unusedSimpArgs false
theorem index_contains (l : List UInt8) (c : UInt8) : decide (0 ≤ Lib.indexByte l c) = l.contains c:=by
 induction l with
 | nil=>rfl
 | cons b l ih=>
  have hge:=Lib.indexByte_ge l c
  rw [Lib.indexByte,List.contains_cons]
  by_cases h : b = c
  · subst h;simp
  · have h1 : (b == c) = false:=by simpa using h
    have h2 : (c == b) = false:=by simpa using fun e=>h e.symm
    rw [h1,h2,Bool.false_or,← ih]
    by_cases hm : Lib.indexByte l c = -1
    · simp [hm]
    · have h3 : (Lib.indexByte l c == -1) = false:=by simpa using hm
      simp only [h3,Bool.false_eq_true,if_false]
      rw [Bool.eq_iff_iff,decide_eq_true_iff,decide_eq_true_iff]
      omega
def quoL : List UInt8:=[34]
/- value; signs: 0 the text, 1 its size, 2 one less, 3 what stands within, 4 the first byte, 5 the last -/
def vB : List BinF:=[(.sub,.sym 1,lI 1,.sym 2)]
def vSl : List SliF:=[(.sym 0,some (lI 1),some (.sym 2),.sym 3)]
def vI : List ByF:=[(.sym 0,lI 0,.sym 4),(.sym 0,.sym 2,.sym 5)]
def u8 (n : Nat) : At:=.lit (.int .u8 n)
def tV0 (v : Bool) : Told:={ b:=[(.neq,.sym 0,lS [],lB v)],l:=[(0,.sym 1)],c:=[(275,[.a (.sym 0),.a (lS quoL)],one1 (lB false))] }
def tV1 : Told:={ b:=[(.lss,.sym 1,lI 2,lB true)],l:=[(0,.sym 1)],c:=[(275,[.a (.sym 0),.a (lS quoL)],one1 (lB true))] }
def tV2 (p q r : Bool) : Told:={ b:=(.lss,.sym 1,lI 2,lB false) :: (.neq,.sym 4,u8 34,lB p) :: (.neq,.sym 5,u8 34,lB q) :: vB,i:=vI,s:=vSl,l:=[(0,.sym 1)],c:=[(275,[.a (.sym 0),.a (lS quoL)],one1 (lB true)),(275,[.a (.sym 3),.a (lS quoL)],one1 (lB r))] }
theorem rV0 (v : Bool) : symEv (tV0 v) 224 [.a (.sym 0)] = some (.t [.a (.sym 0),.a (lI 0),.a (lB v)]):=by cases v <;> kernel_rfl
theorem rV1 : symEv tV1 224 [.a (.sym 0)] = some (.t [.a (lS []),.a (lI 0),.a (lB false)]):=by kernel_rfl
theorem rV2 (p q r : Bool) : symEv (tV2 p q r) 224 [.a (.sym 0)] = some (match p || q || r with | true=>.t [.a (lS []),.a (lI 0),.a (lB false)] | false=>.t [.a (.sym 3),.a (lI 1),.a (lB true)]):=by cases p <;> cases q <;> cases r <;> kernel_rfl
def valT (s : ByteArray) : ByteArray × Nat:=if (bl s).contains 34 then (if valOk (bl s) then (s.extract 1 (s.size - 1),1) else (⟨#[]⟩,0)) else (s,0)
theorem byte_allE {p : UInt8 → Prop} (h : ∀ i : Fin 256,p (UInt8.ofNat i.val)) (c : UInt8) : p c:=by
 have:=h ⟨c.toNat,c.toNat_lt⟩
 rwa [show UInt8.ofNat c.toNat = c from by apply UInt8.toNat_inj.1;rw [UInt8.toNat_ofNat'];have:=c.toNat_lt;omega] at this
theorem value_any (s : ByteArray) (w : World) (hG : GW w) (hs : s.size ≤ 1000000) : Calls Tryz.prog 224 #[.string s] w fun e w'=>e = .returned (.tuple #[.string (valT s).1,.int .i64 (valT s).2,.bool (valOk (bl s))]) ∧ Below w.heap.size w w':=by
 have hlen:=bl_length s
 have kc : ∀ (x : ByteArray) w',Calls Tryz.prog 275 #[.string x,.string ⟨⟨quoL⟩⟩] w' fun e w''=>e = .returned (.bool ((bl x).contains 34)) ∧ Below w'.heap.size w' w'':=fun x w'=>by
  rw [← index_contains]
  exact (Tryz.strings_Contains_one x 34 w').mono fun e w'' q=>⟨q.1,by rw [q.2];exact Below.refl _ _⟩
 have kc0:=kc s
 cases hc : (bl s).contains 34 with
 | false=>
  rw [hc] at kc0
  have e1 : valT s = (s,0):=by unfold valT;rw [hc];rfl
  have e2 : valOk (bl s) = !(bl s).isEmpty:=by unfold valOk;rw [hc];rfl
  rw [e1,e2]
  letI:=sgL [.string s,.int .i64 s.size] ⟨okS_str _,okS_int _ _,trivial⟩
  refine sym_to (vals:=[.string s]) hG (T:=tV0 (!(bl s).isEmpty)) ⟨⟨bok_nes (s:=s) (t:=⟨⟨[]⟩⟩) (fun _=>rfl) (fun _=>rfl) ?_,trivial⟩,trivial,trivial,⟨⟨s,rfl,fun _=>rfl⟩,trivial⟩,⟨⟨[.string s,.string ⟨⟨quoL⟩⟩],_,fun _=>rfl,fun _=>rfl,fun w' _=>kc0 w'⟩,trivial⟩,trivial,trivial⟩ rfl (rV0 _) (fun _=>rfl)
  rw [Bool.not_not]
  show (bl s == []) = (bl s).isEmpty
  cases bl s <;> rfl
 | true=>
  rw [hc] at kc0
  have hL : AllP (letI:=sgL [.string s,.int .i64 s.size] ⟨okS_str _,okS_int _ _,trivial⟩;LenOk) [((0 : Nat),At.sym 1)]:=⟨⟨s,rfl,fun _=>rfl⟩,trivial⟩
  by_cases h2 : s.size < 2
  · have e2 : valOk (bl s) = false:=by unfold valOk;rw [hc,if_pos rfl,decide_eq_false (by omega)];rfl
    have e1 : valT s = (⟨#[]⟩,0):=by unfold valT;rw [hc,if_pos rfl,e2];rfl
    rw [e1,e2]
    letI:=sgL [.string s,.int .i64 s.size] ⟨okS_str _,okS_int _ _,trivial⟩
    exact sym_to (vals:=[.string s]) hG (T:=tV1) ⟨⟨bok_lss (a:=s.size) (c:=2) (k:=.i64) (fun _=>rfl) (fun _=>rfl) (by simp;omega),trivial⟩,trivial,trivial,⟨⟨s,rfl,fun _=>rfl⟩,trivial⟩,⟨⟨[.string s,.string ⟨⟨quoL⟩⟩],_,fun _=>rfl,fun _=>rfl,fun w' _=>kc0 w'⟩,trivial⟩,trivial,trivial⟩ rfl rV1 (fun _=>rfl)
  · obtain ⟨M,hM⟩ : ∃ M,M = s.extract 1 (s.size - 1):=⟨_,rfl⟩
    have hMl : bl M = ((bl s).drop 1).take ((bl s).length - 2):=by
     rw [hlen,hM]
     show (s.extract 1 (s.size - 1)).data.toList = _
     rw [ex_list s 1 (s.size - 1) (by omega) (by omega)]
     congr 1
    have kc1:=kc M
    obtain ⟨p,hp⟩ : ∃ p,p = ((s[0]'(by omega)) != 34):=⟨_,rfl⟩
    obtain ⟨q,hq⟩ : ∃ q,q = ((s[s.size - 1]'(by omega)) != 34):=⟨_,rfl⟩
    obtain ⟨r,hr⟩ : ∃ r,r = (bl M).contains 34:=⟨_,rfl⟩
    rw [← hr] at kc1
    have hd : (bl s).head? = some (s[0]'(by omega)):=by
     rw [List.head?_eq_getElem?,List.getElem?_eq_getElem (by omega)];rfl
    have hg : (bl s).getLast? = some (s[s.size - 1]'(by omega)):=by
     rw [List.getLast?_eq_getElem?,hlen,List.getElem?_eq_getElem (by omega)];rfl
    have e2 : valOk (bl s) = !(p || q || r):=by
     unfold valOk
     rw [hc,if_pos rfl,hd,hg,← hMl,← hr,decide_eq_true (by omega : 2 ≤ (bl s).length),hp,hq]
     simp only [Bool.true_and,Option.some_beq_some,bne,Bool.not_or,Bool.not_not]
    letI:=sgL [.string s,.int .i64 s.size,.int .i64 ((s.size - 1 : Nat) : Int),.string M,.int .u8 ((s[0]'(by omega)).toNat : Int),.int .u8 ((s[s.size - 1]'(by omega)).toNat : Int)] ⟨okS_str _,okS_int _ _,okS_int _ _,okS_str _,okS_int _ _,okS_int _ _,trivial⟩
    have e3 : (s.size : Int) - 1 = ((s.size - 1 : Nat) : Int):=by omega
    have ne8 : ∀ x : UInt8,(((x.toNat : Int)) != ((34 : Nat) : Int)) = (x != 34):=byte_allE (by decide +kernel)
    have:=sym_to (vals:=[.string s]) (v:=match p || q || r with | true=>.tuple #[.string ⟨⟨[]⟩⟩,.int .i64 0,.bool false] | false=>.tuple #[.string M,.int .i64 1,.bool true]) hG (T:=tV2 p q r) ⟨⟨bok_lss (a:=s.size) (c:=2) (k:=.i64) (fun _=>rfl) (fun _=>rfl) (by simp;omega),
     bok_neq (a:=((s[0]'(by omega)).toNat : Int)) (c:=((34 : Nat) : Int)) (k:=.u8) (fun _=>rfl) (fun _=>rfl) (by rw [hp];exact ne8 _),bok_neq (a:=((s[s.size - 1]'(by omega)).toNat : Int)) (c:=((34 : Nat) : Int)) (k:=.u8) (fun _=>rfl) (fun _=>rfl) (by rw [hq];exact ne8 _),
     bok_subI (a:=s.size) (c:=1) (k:=.i64) (fun _=>rfl) (fun _=>rfl) (fun _=>by rw [e3];rfl) (wi64 _ (by omega) (by omega)),trivial⟩,
     ⟨⟨s,0,.i64,fun _=>rfl,fun _=>rfl,by omega,fun _=>rfl⟩,⟨s,s.size - 1,.i64,fun _=>rfl,fun _=>rfl,by omega,fun _=>rfl⟩,trivial⟩,
     ⟨⟨s,1,s.size - 1,fun _=>rfl,⟨.i64,fun _=>rfl⟩,⟨.i64,fun _=>rfl⟩,by omega,by omega,fun _=>by rw [← hM];rfl⟩,trivial⟩,⟨⟨s,rfl,fun _=>rfl⟩,trivial⟩,
     ⟨⟨[.string s,.string ⟨⟨quoL⟩⟩],_,fun _=>rfl,fun _=>rfl,fun w' _=>kc0 w'⟩,⟨[.string M,.string ⟨⟨quoL⟩⟩],_,fun _=>rfl,fun _=>rfl,fun w' _=>kc1 w'⟩,trivial⟩,trivial,trivial⟩ rfl (rV2 p q r) (fun _=>by cases p <;> cases q <;> cases r <;> rfl)
    refine this.mono fun e w' z=>⟨?_,z.2⟩
    rw [z.1]
    have e1 : valT s = if (p || q || r) = true then (⟨#[]⟩,0) else (M,1):=by
     unfold valT
     rw [hc,if_pos rfl,e2,← hM]
     cases p || q || r <;> rfl
    rw [e1,e2]
    cases p || q || r <;> rfl
def markL : List UInt8:=[109,97,114,107]
end Go.Proofs.YtohbeinhlhgfiaaGreatDoor
namespace Go.Proofs.YtohbeinhlhgfiaaGreatDoor
open Go.RowKit
set_option linter.unusedVariables false
set_option linter.unusedSimpArgs false
theorem pdig_any (x : UInt8) (w : World) : Calls Tryz.prog 146 #[.int .u8 (x.toNat : Int)] w fun e w'=>e = .returned (.bool (dgB x)) ∧ w = w':=by
 have h:=x.toNat_lt
 go_enter Tryz.func146,Tryz.ntmps146
 go_wp2
 all_goals go_ret
 all_goals (refine ⟨ret_b ?_,rfl⟩;unfold dgB;rw [Bool.eq_iff_iff];simp;omega)
theorem rdig_any (x : UInt8) (w : World) : Calls Tryz.prog 169 #[.int .u8 (x.toNat : Int)] w fun e w'=>e = .returned (.bool (dgB x)) ∧ w = w':=by
 have h:=x.toNat_lt
 go_enter Tryz.func169,Tryz.ntmps169
 go_wp2
 all_goals go_ret
 all_goals (refine ⟨ret_b ?_,rfl⟩;unfold dgB;rw [Bool.eq_iff_iff];simp;omega)
theorem rcap_any (x : UInt8) (w : World) : Calls Tryz.prog 235 #[.int .u8 (x.toNat : Int)] w fun e w'=>e = .returned (.bool (cpB x)) ∧ w = w':=by
 have h:=x.toNat_lt
 have K1:=Lib.hid (rdig_any x)
 cases hd : dgB x with
 | true=>
  rw [hd] at K1
  have e : cpB x = true:=by unfold cpB;rw [hd];rfl
  rw [e]
  clear hd e
  go_enter Tryz.func235,Tryz.ntmps235
  go_wp2_with (go_at_call 169;refine (K1.out _).mono ?_;rintro e w1 ⟨rfl,rfl⟩)
  all_goals go_ret
  all_goals exact ⟨rfl,rfl⟩
 | false=>
  rw [hd] at K1
  have e : cpB x = (decide (65 ≤ x.toNat) && decide (x.toNat ≤ 90)):=by unfold cpB;rw [hd];rfl
  rw [e]
  clear hd e
  go_enter Tryz.func235,Tryz.ntmps235
  go_wp2_with (go_at_call 169;refine (K1.out _).mono ?_;rintro e w1 ⟨rfl,rfl⟩)
  all_goals go_ret
  all_goals (refine ⟨ret_b ?_,rfl⟩;rw [Bool.eq_iff_iff];simp;omega)
set_option maxHeartbeats 4000000 in
theorem pdigs_any (b : ByteArray) (w : World) (hs : b.size ≤ 1000000) : Calls Tryz.prog 76 #[.string b] w fun e w'=>e = .returned (.bool (dgsL (bl b))) ∧ Below w.heap.size w w':=by
 have HL : Hid ((bl b).length = b.size):=bl_length b
 have K1:=Lib.hid pdig_any
 go_enter Tryz.func76,Tryz.ntmps76
 go_wp2
 go_loopw [6] (fun i wr=>∃ k : Nat,i = .int .i64 (k : Int) ∧ k ≤ b.size ∧ Hid (((bl b).take k).all dgB = true) ∧ wr = w) (fun i _=>b.size - (intOf i).toNat)
 case atStart=>exact ⟨0,rfl,Nat.zero_le _,Lib.hid (by simp),rfl⟩
 case round=>
  obtain ⟨k,rfl,hk,hR,rfl⟩:=hrel
  by_cases hlt : k < b.size
  · obtain ⟨x,hx⟩:=at_some (bl b) k (by rw [HL.out];exact hlt)
    have X : ∀ h,b[k]'h = x:=atB_of b k x hx
    have hxl:=x.toNat_lt
    obtain ⟨h1,h2⟩:=all_step dgB (bl b) k x hx hR.out
    have k2:=fun w=>K1.out x w
    cases hc : dgB x with
    | true=>
     have e:=h1 hc
     have E:=Lib.hid e
     clear e
     clear h1 h2 hx
     rw [hc] at k2
     have K2:=Lib.hid k2
     clear k2
     clear hc
     go_wp2_with (go_at_call 146;refine (K2.out _).mono ?_;rintro e w1 ⟨rfl,rfl⟩)
     go_roundw
     case rel=>exact ⟨k + 1,by first | omega | go_num,by omega,E,trivial⟩
     case measure=>simp [intOf];omega
    | false=>
     have e : dgsL (bl b) = false:=by unfold dgsL;rw [h2 hc];rfl
     have E:=Lib.hid e
     clear e
     clear h1 h2 hx
     rw [hc] at k2
     have K2:=Lib.hid k2
     clear k2
     clear hc
     go_wp2_with (go_at_call 146;refine (K2.out _).mono ?_;rintro e w1 ⟨rfl,rfl⟩)
     go_ret
     exact ⟨ret_b E.out.symm,Below.refl _ _⟩
  · have e : dgsL (bl b) = !(bl b).isEmpty:=by
     unfold dgsL
     rw [all_end dgB (bl b) k (by rw [HL.out];omega) hR.out,Bool.true_and]
    have E:=Lib.hid e
    clear e
    go_wp2
    go_ret
    refine ⟨ret_b ?_,Below.refl _ _⟩
    rw [E.out,ByteArray.toList_eq]
    first | done | rfl
set_option maxHeartbeats 4000000 in
theorem lcaps_any (b : ByteArray) (w : World) (hs : b.size ≤ 1000000) : Calls Tryz.prog 153 #[.string b] w fun e w'=>e = .returned (.bool (cpsL (bl b))) ∧ Below w.heap.size w w':=by
 have HL : Hid ((bl b).length = b.size):=bl_length b
 have K1:=Lib.hid pdig_any
 go_enter Tryz.func153,Tryz.ntmps153
 go_wp2
 go_loopw [6] (fun i wr=>∃ k : Nat,i = .int .i64 (k : Int) ∧ k ≤ b.size ∧ Hid (((bl b).take k).all cpB = true) ∧ wr = w) (fun i _=>b.size - (intOf i).toNat)
 case atStart=>exact ⟨0,rfl,Nat.zero_le _,Lib.hid (by simp),rfl⟩
 case round=>
  obtain ⟨k,rfl,hk,hR,rfl⟩:=hrel
  by_cases hlt : k < b.size
  · obtain ⟨x,hx⟩:=at_some (bl b) k (by rw [HL.out];exact hlt)
    have X : ∀ h,b[k]'h = x:=atB_of b k x hx
    have hxl:=x.toNat_lt
    obtain ⟨h1,h2⟩:=all_step cpB (bl b) k x hx hR.out
    have k2:=fun w=>K1.out x w
    cases hc : cpB x with
    | true=>
     have e:=h1 hc
     have E:=Lib.hid e
     clear e
     clear h1 h2 hx
     cases hd : dgB x with
     | true=>
      rw [hd] at k2
      have K2:=Lib.hid k2
      clear k2
      clear hc hd
      go_wp2_with (go_at_call 146;refine (K2.out _).mono ?_;rintro e w1 ⟨rfl,rfl⟩)
      go_roundw
      case rel=>exact ⟨k + 1,by first | omega | go_num,by omega,E,trivial⟩
      case measure=>simp [intOf];omega
     | false=>
      rw [hd] at k2
      have g : (65 : Int) ≤ (x.toNat : Int) ∧ (x.toNat : Int) ≤ 90:=by unfold cpB at hc;rw [hd] at hc;simp at hc;omega
      obtain ⟨g1,g2⟩:=g
      have K2:=Lib.hid k2
      clear k2
      clear hc hd
      go_wp2_with (go_at_call 146;refine (K2.out _).mono ?_;rintro e w1 ⟨rfl,rfl⟩)
      go_roundw
      case rel=>exact ⟨k + 1,by first | omega | go_num,by omega,E,trivial⟩
      case measure=>simp [intOf];omega
    | false=>
     have e : cpsL (bl b) = false:=by unfold cpsL;rw [h2 hc];rfl
     have E:=Lib.hid e
     clear e
     clear h1 h2 hx
     cases hd : dgB x with
     | true=>unfold cpB at hc;rw [hd] at hc;cases hc
     | false=>
      rw [hd] at k2
      have g : (x.toNat : Int) < 65 ∨ (90 : Int) < (x.toNat : Int):=by unfold cpB at hc;rw [hd] at hc;simp at hc;omega
      have K2:=Lib.hid k2
      clear k2
      clear hc hd
      by_cases g1 : (x.toNat : Int) < 65
      · clear g
        go_wp2_with (go_at_call 146;refine (K2.out _).mono ?_;rintro e w1 ⟨rfl,rfl⟩)
        go_ret
        exact ⟨ret_b E.out.symm,Below.refl _ _⟩
      · have g2 : (90 : Int) < (x.toNat : Int):=by omega
        clear g
        go_wp2_with (go_at_call 146;refine (K2.out _).mono ?_;rintro e w1 ⟨rfl,rfl⟩)
        go_ret
        exact ⟨ret_b E.out.symm,Below.refl _ _⟩
  · have e : cpsL (bl b) = !(bl b).isEmpty:=by
     unfold cpsL
     rw [all_end cpB (bl b) k (by rw [HL.out];omega) hR.out,Bool.true_and]
    have E:=Lib.hid e
    clear e
    go_wp2
    go_ret
    refine ⟨ret_b ?_,Below.refl _ _⟩
    rw [E.out,ByteArray.toList_eq]
    first | done | rfl
set_option maxHeartbeats 4000000 in
theorem rdigs_any (b : ByteArray) (w : World) (hs : b.size ≤ 1000000) : Calls Tryz.prog 85 #[.string b] w fun e w'=>e = .returned (.bool (dgsL (bl b))) ∧ Below w.heap.size w w':=by
 have HL : Hid ((bl b).length = b.size):=bl_length b
 have K1:=Lib.hid rdig_any
 go_enter Tryz.func85,Tryz.ntmps85
 go_wp2
 go_loopw [3] (fun i wr=>∃ k : Nat,i = .int .i64 (k : Int) ∧ k ≤ b.size ∧ Hid (((bl b).take k).all dgB = true) ∧ wr = w) (fun i _=>b.size - (intOf i).toNat)
 case atStart=>exact ⟨0,rfl,Nat.zero_le _,Lib.hid (by simp),rfl⟩
 case round=>
  obtain ⟨k,rfl,hk,hR,rfl⟩:=hrel
  by_cases hlt : k < b.size
  · obtain ⟨x,hx⟩:=at_some (bl b) k (by rw [HL.out];exact hlt)
    have X : ∀ h,b[k]'h = x:=atB_of b k x hx
    have hxl:=x.toNat_lt
    obtain ⟨h1,h2⟩:=all_step dgB (bl b) k x hx hR.out
    have k2:=fun w=>K1.out x w
    cases hc : dgB x with
    | true=>
     have e:=h1 hc
     have E:=Lib.hid e
     clear e
     clear h1 h2 hx
     rw [hc] at k2
     have K2:=Lib.hid k2
     clear k2
     clear hc
     go_wp2_with (go_at_call 169;refine (K2.out _).mono ?_;rintro e w1 ⟨rfl,rfl⟩)
     go_roundw
     case rel=>exact ⟨k + 1,by first | omega | go_num,by omega,E,trivial⟩
     case measure=>simp [intOf];omega
    | false=>
     have e : dgsL (bl b) = false:=by unfold dgsL;rw [h2 hc];rfl
     have E:=Lib.hid e
     clear e
     clear h1 h2 hx
     rw [hc] at k2
     have K2:=Lib.hid k2
     clear k2
     clear hc
     go_wp2_with (go_at_call 169;refine (K2.out _).mono ?_;rintro e w1 ⟨rfl,rfl⟩)
     go_ret
     exact ⟨ret_b E.out.symm,Below.refl _ _⟩
  · have e : dgsL (bl b) = decide ((b.size : Int) > 0):=by
     unfold dgsL
     rw [all_end dgB (bl b) k (by rw [HL.out];omega) hR.out,Bool.true_and]
     rw [Bool.eq_iff_iff,decide_eq_true_iff,Bool.not_eq_true',List.isEmpty_eq_false_iff,← List.length_pos_iff,HL.out]
     omega
    have E:=Lib.hid e
    clear e
    go_wp2
    go_ret
    refine ⟨ret_b ?_,Below.refl _ _⟩
    rw [E.out]
    first | done | simp
set_option maxHeartbeats 4000000 in
theorem rcaps_any (b : ByteArray) (w : World) (hs : b.size ≤ 1000000) : Calls Tryz.prog 175 #[.string b] w fun e w'=>e = .returned (.bool (cpsL (bl b))) ∧ Below w.heap.size w w':=by
 have HL : Hid ((bl b).length = b.size):=bl_length b
 have K1:=Lib.hid rcap_any
 go_enter Tryz.func175,Tryz.ntmps175
 go_wp2
 go_loopw [3] (fun i wr=>∃ k : Nat,i = .int .i64 (k : Int) ∧ k ≤ b.size ∧ Hid (((bl b).take k).all cpB = true) ∧ wr = w) (fun i _=>b.size - (intOf i).toNat)
 case atStart=>exact ⟨0,rfl,Nat.zero_le _,Lib.hid (by simp),rfl⟩
 case round=>
  obtain ⟨k,rfl,hk,hR,rfl⟩:=hrel
  by_cases hlt : k < b.size
  · obtain ⟨x,hx⟩:=at_some (bl b) k (by rw [HL.out];exact hlt)
    have X : ∀ h,b[k]'h = x:=atB_of b k x hx
    have hxl:=x.toNat_lt
    obtain ⟨h1,h2⟩:=all_step cpB (bl b) k x hx hR.out
    have k2:=fun w=>K1.out x w
    cases hc : cpB x with
    | true=>
     have e:=h1 hc
     have E:=Lib.hid e
     clear e
     clear h1 h2 hx
     rw [hc] at k2
     have K2:=Lib.hid k2
     clear k2
     clear hc
     go_wp2_with (go_at_call 235;refine (K2.out _).mono ?_;rintro e w1 ⟨rfl,rfl⟩)
     go_roundw
     case rel=>exact ⟨k + 1,by first | omega | go_num,by omega,E,trivial⟩
     case measure=>simp [intOf];omega
    | false=>
     have e : cpsL (bl b) = false:=by unfold cpsL;rw [h2 hc];rfl
     have E:=Lib.hid e
     clear e
     clear h1 h2 hx
     rw [hc] at k2
     have K2:=Lib.hid k2
     clear k2
     clear hc
     go_wp2_with (go_at_call 235;refine (K2.out _).mono ?_;rintro e w1 ⟨rfl,rfl⟩)
     go_ret
     exact ⟨ret_b E.out.symm,Below.refl _ _⟩
  · have e : cpsL (bl b) = decide ((b.size : Int) > 0):=by
     unfold cpsL
     rw [all_end cpB (bl b) k (by rw [HL.out];omega) hR.out,Bool.true_and]
     rw [Bool.eq_iff_iff,decide_eq_true_iff,Bool.not_eq_true',List.isEmpty_eq_false_iff,← List.length_pos_iff,HL.out]
     omega
    have E:=Lib.hid e
    clear e
    go_wp2
    go_ret
    refine ⟨ret_b ?_,Below.refl _ _⟩
    rw [E.out]
    first | done | simp
end Go.Proofs.YtohbeinhlhgfiaaGreatDoor
namespace Go.Proofs.YtohbeinhlhgfiaaGreatDoor
open Go.RowKit
set_option linter.unusedVariables false
set_option linter.unusedSimpArgs false
theorem wdJ_of (l : List UInt8) (i k : Nat) (hi : wdI l = i) (hk : i ≤ k) (hl : k ≤ l.length) (ha : ((l.drop i).take (k - i)).all azB = true) (hn : ∀ c,l[k]? = some c → azB c = false) : wdJ l = k:=by
 unfold wdJ
 rw [hi,tw_len azB (l.drop i) (k - i) ha (by rw [List.length_drop];omega) fun c hc=>hn c (by rw [List.getElem?_drop] at hc;rwa [show i + (k - i) = k by omega] at hc)]
 omega
theorem az_step (l : List UInt8) (i k : Nat) (x : UInt8) (hik : i ≤ k) (hx : l[k]? = some x) (h : azB x = true) (ha : ((l.drop i).take (k - i)).all azB = true) : ((l.drop i).take (k + 1 - i)).all azB = true:=by
 have:=(all_step azB (l.drop i) (k - i) x (by rw [List.getElem?_drop];rwa [show i + (k - i) = k by omega]) ha).1 h
 rwa [show k - i + 1 = k + 1 - i by omega] at this
set_option maxHeartbeats 8000000 in
theorem word_any (b : ByteArray) (w : World) (hs : b.size ≤ 1000000) : Calls Tryz.prog 147 #[.string b] w fun e w'=>e = .returned (.tuple #[.int .i64 (wdI (bl b)),.int .i64 (wdJ (bl b))]) ∧ Below w.heap.size w w':=by
 have HL : Hid ((bl b).length = b.size):=bl_length b
 go_enter Tryz.func147,Tryz.ntmps147
 go_wp2
 go_loopw [4] (fun i wr=>∃ k : Nat,i = .int .i64 (k : Int) ∧ k ≤ b.size ∧ Hid (((bl b).take k).all blB = true) ∧ wr = w) (fun i _=>b.size - (intOf i).toNat)
 case atStart=>exact ⟨0,rfl,Nat.zero_le _,Lib.hid (by simp),rfl⟩
 case round=>
  obtain ⟨k,rfl,hk,hR,rfl⟩:=hrel
  have fin : ∀ (hn : ∀ c,(bl b)[k]? = some c → blB c = false),Hid (wdI (bl b) = k):=fun hn=>tw_len blB (bl b) k hR.out (by rw [HL.out];exact hk) hn
  by_cases hlt : k < b.size
  · obtain ⟨x,hx⟩:=at_some (bl b) k (by rw [HL.out];exact hlt)
    have X : ∀ h,b[k]'h = x:=atB_of b k x hx
    obtain ⟨h1,h2⟩:=all_step blB (bl b) k x hx hR.out
    cases hc : blB x with
    | true=>
     have e:=h1 hc
     have E:=Lib.hid e
     clear e
     clear h1 h2 hx fin
     have g : x = 32 ∨ x = 9:=by simpa [blB] using hc
     clear hc
     rcases g with rfl | rfl
     · go_wp2
       go_roundw
       case rel=>exact ⟨k + 1,by first | omega | go_num,by omega,E,trivial⟩
       case measure=>simp [intOf];omega
     · go_wp2
       go_roundw
       case rel=>exact ⟨k + 1,by first | omega | go_num,by omega,E,trivial⟩
       case measure=>simp [intOf];omega
    | false=>
     have FI:=fin (fun c hc'=>by rw [hx] at hc';cases hc';exact hc)
     have g1 : ¬ (x.toNat : Int) = 32:=fun h=>by
      have : x = 32:=by apply UInt8.toNat_inj.1;simpa using (by omega : x.toNat = 32)
      subst this;cases hc
     have g2 : ¬ (x.toNat : Int) = 9:=fun h=>by
      have : x = 9:=by apply UInt8.toNat_inj.1;simpa using (by omega : x.toNat = 9)
      subst this;cases hc
     have g3 : ((x.toNat : Int) == 32) = false:=by simpa using g1
     have g4 : ((x.toNat : Int) == 9) = false:=by simpa using g2
     clear h1 h2 hx fin hc hR g1 g2
     go_wp2
     go_loopw [5] (fun i wr2=>∃ m : Nat,i = .int .i64 (m : Int) ∧ k ≤ m ∧ m ≤ b.size ∧ Hid ((((bl b).drop k).take (m - k)).all azB = true) ∧ wr2 = wr) (fun i _=>b.size - (intOf i).toNat)
     case atStart=>exact ⟨k,rfl,Nat.le_refl _,hk,Lib.hid (by simp),rfl⟩
     case round=>
      obtain ⟨m,rfl,hkm,hm,hR,rfl⟩:=hrel
      have fin : ∀ (hn : ∀ c,(bl b)[m]? = some c → azB c = false),wdJ (bl b) = m:=fun hn=>wdJ_of (bl b) k m FI.out hkm (by rw [HL.out];exact hm) hR.out hn
      by_cases hlt : m < b.size
      · obtain ⟨x,hx⟩:=at_some (bl b) m (by rw [HL.out];exact hlt)
        have X : ∀ h,b[m]'h = x:=atB_of b m x hx
        have hxl:=x.toNat_lt
        cases hc : azB x with
        | true=>
         have E:=Lib.hid (az_step (bl b) k m x hkm hx hc hR.out)
         have g : (65 : Int) ≤ (x.toNat : Int) ∧ (x.toNat : Int) ≤ 90:=by unfold azB at hc;simp at hc;omega
         obtain ⟨g1,g2⟩:=g
         clear hx fin hc
         go_wp2
         go_roundw
         case rel=>exact ⟨m + 1,by first | omega | go_num,by omega,by omega,E,trivial⟩
         case measure=>simp [intOf];omega
        | false=>
         have J:=Lib.hid (fin (fun c hc'=>by rw [hx] at hc';cases hc';exact hc))
         have g : (x.toNat : Int) < 65 ∨ (90 : Int) < (x.toNat : Int):=by unfold azB at hc;simp at hc;omega
         clear hx fin hc
         by_cases g1 : (x.toNat : Int) < 65
         · clear g
           go_wp2
           go_ret2
           exact ⟨by rw [FI.out,J.out];first | done | rfl,Below.refl _ _⟩
         · have g2 : (90 : Int) < (x.toNat : Int):=by omega
           clear g
           go_wp2
           go_ret2
           exact ⟨by rw [FI.out,J.out];first | done | rfl,Below.refl _ _⟩
      · have J:=Lib.hid (fin (fun c hc'=>by rw [List.getElem?_eq_none (by rw [HL.out];omega)] at hc';cases hc'))
        have hz : m = b.size:=by omega
        clear fin
        go_wp2
        go_ret2
        exact ⟨by rw [FI.out,J.out];first | done | rfl,Below.refl _ _⟩
  · have FI:=fin (fun c hc'=>by rw [List.getElem?_eq_none (by rw [HL.out];omega)] at hc';cases hc')
    have j0 : wdJ (bl b) = k:=wdJ_of (bl b) k k FI.out (Nat.le_refl _) (by rw [HL.out];exact hk) (by simp) (fun c hc'=>by rw [List.getElem?_eq_none (by rw [HL.out];omega)] at hc';cases hc')
    have J:=Lib.hid j0
    clear j0
    clear fin hR
    go_wp2
    go_loopw [5] (fun i wr2=>i = .int .i64 (k : Int) ∧ wr2 = wr) (fun i _=>b.size - (intOf i).toNat)
    case atStart=>exact ⟨rfl,rfl⟩
    case round=>
     obtain ⟨rfl,rfl⟩:=hrel
     go_wp2
     go_ret2
     exact ⟨by rw [FI.out,J.out];first | done | rfl,Below.refl _ _⟩
def likeB (c f : UInt8) : Bool:=if f = 48 then dgB c else c == f
def likeK (l g : List UInt8) (k : Nat) : Bool:=match l[k]?,g[k]? with | some c,some f=>if f = 48 then dgB c else c == f | _,_=>true
theorem likeL_k (l g : List UInt8) (h : l.length = g.length) : likeL l g = (List.range l.length).all (likeK l g):=likeL_iff l g h
theorem likeK_at (l g : List UInt8) (k : Nat) (c f : UInt8) (hc : l[k]? = some c) (hf : g[k]? = some f) : likeK l g k = likeB c f:=by unfold likeK;rw [hc,hf];rfl
theorem beq_nat (c f : UInt8) : (c == f) = decide ((c.toNat : Int) = (f.toNat : Int)):=by
 rw [Bool.eq_iff_iff,beq_iff_eq,decide_eq_true_iff,Int.ofNat_inj,UInt8.toNat_inj]
set_option maxHeartbeats 8000000 in
theorem llike_any (s form : ByteArray) (w : World) (hs : s.size ≤ 1000000) (hform : form.size ≤ 1000000) : Calls Tryz.prog 77 #[.string s,.string form] w fun e w'=>e = .returned (.bool (likeL (bl s) (bl form))) ∧ Below w.heap.size w w':=by
 have HS : Hid ((bl s).length = s.size):=bl_length s
 have HF : Hid ((bl form).length = form.size):=bl_length form
 have K1:=Lib.hid pdig_any
 by_cases hz : s.size = form.size
 · have HK:=Lib.hid (likeL_k (bl s) (bl form) (by rw [HS.out,HF.out,hz]))
   have hz' : (s.size : Int) = (form.size : Int):=by omega
   go_enter Tryz.func77,Tryz.ntmps77
   go_wp2
   go_loopw [13] (fun i wr=>∃ k : Nat,i = .int .i64 (k : Int) ∧ k ≤ form.size ∧ Hid ((List.range k).all (likeK (bl s) (bl form)) = true) ∧ Below w.heap.size w wr) (fun i _=>form.size - (intOf i).toNat)
   case atStart=>exact ⟨0,rfl,Nat.zero_le _,Lib.hid rfl,Below.refl _ _⟩
   case round=>
    obtain ⟨k,rfl,hk,hR,hbel⟩:=hrel
    by_cases hlt : k < form.size
    · have hls : k < s.size:=by omega
      obtain ⟨x,hx⟩:=at_some (bl s) k (by rw [HS.out];exact hls)
      obtain ⟨y,hy⟩:=at_some (bl form) k (by rw [HF.out];exact hlt)
      have X : ∀ h,s[k]'h = x:=atB_of s k x hx
      have Y : ∀ h,form[k]'h = y:=atB_of form k y hy
      have hxl:=x.toNat_lt
      have hyl:=y.toNat_lt
      have q:=likeK_at (bl s) (bl form) k x y hx hy
      obtain ⟨h1,h2⟩:=range_step (likeK (bl s) (bl form)) (bl s).length k (by rw [HS.out];exact hls) hR.out
      rw [← HK.out] at h2
      rw [q] at h1 h2
      clear hx hy q
      by_cases hf : y = 48
      · subst hf
        have k2:=fun w=>K1.out x w
        have e0 : likeB x 48 = dgB x:=by unfold likeB;rw [if_pos rfl]
        rw [e0] at h1 h2
        cases hc : dgB x with
        | true=>
         rw [hc] at k2
         have e:=h1 hc
         have E:=Lib.hid e
         have K2:=Lib.hid k2
         clear e k2
         clear h1 h2 hc e0
         go_wp2_with (go_at_call 146;refine (K2.out _).mono ?_;rintro e w1 ⟨rfl,rfl⟩)
         go_roundw
         case rel=>exact ⟨k + 1,by first | omega | go_num,by omega,E,by first | exact hbel | exact hbel.drew⟩
         case measure=>simp [intOf];omega
        | false=>
         rw [hc] at k2
         have e:=h2 hc
         have E:=Lib.hid e
         have K2:=Lib.hid k2
         clear e k2
         clear h1 h2 hc e0
         go_wp2_with (go_at_call 146;refine (K2.out _).mono ?_;rintro e w1 ⟨rfl,rfl⟩)
         go_ret
         exact ⟨ret_b E.out.symm,by first | exact hbel | exact hbel.drew⟩
      · have g1 : ((y.toNat : Int) == 48) = false:=by rw [beq_eq_false_iff_ne];intro h;exact hf (by apply UInt8.toNat_inj.1;simpa using (by omega : y.toNat = 48))
        have e0 : likeB x y = decide ((x.toNat : Int) = (y.toNat : Int)):=by unfold likeB;rw [if_neg hf,beq_nat]
        rw [e0] at h1 h2
        clear hf e0
        obtain ⟨p,hp⟩ : ∃ p,p = (x.toNat : Int):=⟨_,rfl⟩
        obtain ⟨r,hr⟩ : ∃ r,r = (y.toNat : Int):=⟨_,rfl⟩
        have X' : ∀ h,((s[k]'h).toNat : Int) = p:=fun h=>by rw [X h,hp]
        have Y' : ∀ h,((form[k]'h).toNat : Int) = r:=fun h=>by rw [Y h,hr]
        rw [← hp,← hr] at h1 h2
        rw [← hr] at g1
        clear X Y
        by_cases hc : p = r
        · have e:=h1 (decide_eq_true hc)
          have E:=Lib.hid e
          clear e
          have g2 : (p == r) = true:=by simpa using hc
          clear h1 h2
          subst hc
          go_wp2
          go_region
          go_wp2
          go_roundw
          case rel=>exact ⟨k + 1,by first | omega | go_num,by omega,E,by first | exact hbel | exact hbel.drew⟩
          case measure=>simp [intOf];omega
        · have e:=h2 (decide_eq_false hc)
          have E:=Lib.hid e
          clear e
          have g2 : (p == r) = false:=by simpa using hc
          clear h1 h2
          go_wp2
          go_region
          go_wp2
          go_ret
          exact ⟨ret_b E.out.symm,by first | exact hbel | exact hbel.drew⟩
    · have e : likeL (bl s) (bl form) = true:=by rw [HK.out,HS.out,hz,show form.size = k by omega];exact hR.out
      have hke : k = form.size:=by omega
      have E:=Lib.hid e
      clear e
      go_wp2
      go_ret
      exact ⟨ret_b E.out.symm,by first | exact hbel | exact hbel.drew⟩
 · have e : likeL (bl s) (bl form) = false:=likeL_ne (by rw [HS.out,HF.out];exact hz)
   have hz' : ¬ (s.size : Int) = (form.size : Int):=by omega
   rw [e]
   go_enter Tryz.func77,Tryz.ntmps77
   go_wp2
   go_ret
   exact ⟨rfl,Below.refl _ _⟩
end Go.Proofs.YtohbeinhlhgfiaaGreatDoor
namespace Go.Proofs.YtohbeinhlhgfiaaGreatDoor
open Go.RowKit
set_option linter.unusedVariables false
set_option linter.unusedSimpArgs false
set_option maxHeartbeats 8000000 in
theorem rlike_any (s form : ByteArray) (w : World) (hs : s.size ≤ 1000000) (hform : form.size ≤ 1000000) : Calls Tryz.prog 170 #[.string s,.string form] w fun e w'=>e = .returned (.bool (likeL (bl s) (bl form))) ∧ Below w.heap.size w w':=by
 have HS : Hid ((bl s).length = s.size):=bl_length s
 have HF : Hid ((bl form).length = form.size):=bl_length form
 have K1:=Lib.hid rdig_any
 by_cases hz : s.size = form.size
 · have HK:=Lib.hid (likeL_k (bl s) (bl form) (by rw [HS.out,HF.out,hz]))
   have hz' : (s.size : Int) = (form.size : Int):=by omega
   go_enter Tryz.func170,Tryz.ntmps170
   go_wp2
   go_loopw [5] (fun i wr=>∃ k : Nat,i = .int .i64 (k : Int) ∧ k ≤ form.size ∧ Hid ((List.range k).all (likeK (bl s) (bl form)) = true) ∧ Below w.heap.size w wr) (fun i _=>form.size - (intOf i).toNat)
   case atStart=>exact ⟨0,rfl,Nat.zero_le _,Lib.hid rfl,Below.refl _ _⟩
   case round=>
    obtain ⟨k,rfl,hk,hR,hbel⟩:=hrel
    by_cases hlt : k < form.size
    · have hls : k < s.size:=by omega
      obtain ⟨x,hx⟩:=at_some (bl s) k (by rw [HS.out];exact hls)
      obtain ⟨y,hy⟩:=at_some (bl form) k (by rw [HF.out];exact hlt)
      have X : ∀ h,s[k]'h = x:=atB_of s k x hx
      have Y : ∀ h,form[k]'h = y:=atB_of form k y hy
      have hxl:=x.toNat_lt
      have hyl:=y.toNat_lt
      have q:=likeK_at (bl s) (bl form) k x y hx hy
      obtain ⟨h1,h2⟩:=range_step (likeK (bl s) (bl form)) (bl s).length k (by rw [HS.out];exact hls) hR.out
      rw [← HK.out] at h2
      rw [q] at h1 h2
      clear hx hy q
      by_cases hf : y = 48
      · subst hf
        have k2:=fun w=>K1.out x w
        have e0 : likeB x 48 = dgB x:=by unfold likeB;rw [if_pos rfl]
        rw [e0] at h1 h2
        cases hc : dgB x with
        | true=>
         rw [hc] at k2
         have e:=h1 hc
         have E:=Lib.hid e
         have K2:=Lib.hid k2
         clear e k2
         clear h1 h2 hc e0
         go_wp2_with (go_at_call 169;refine (K2.out _).mono ?_;rintro e w1 ⟨rfl,rfl⟩)
         go_roundw
         case rel=>exact ⟨k + 1,by first | omega | go_num,by omega,E,by first | exact hbel | exact hbel.drew⟩
         case measure=>simp [intOf];omega
        | false=>
         rw [hc] at k2
         have e:=h2 hc
         have E:=Lib.hid e
         have K2:=Lib.hid k2
         clear e k2
         clear h1 h2 hc e0
         go_wp2_with (go_at_call 169;refine (K2.out _).mono ?_;rintro e w1 ⟨rfl,rfl⟩)
         go_ret
         exact ⟨ret_b E.out.symm,by first | exact hbel | exact hbel.drew⟩
      · have g1 : ((y.toNat : Int) == 48) = false:=by rw [beq_eq_false_iff_ne];intro h;exact hf (by apply UInt8.toNat_inj.1;simpa using (by omega : y.toNat = 48))
        have e0 : likeB x y = decide ((x.toNat : Int) = (y.toNat : Int)):=by unfold likeB;rw [if_neg hf,beq_nat]
        rw [e0] at h1 h2
        clear hf e0
        obtain ⟨p,hp⟩ : ∃ p,p = (x.toNat : Int):=⟨_,rfl⟩
        obtain ⟨r,hr⟩ : ∃ r,r = (y.toNat : Int):=⟨_,rfl⟩
        have X' : ∀ h,((s[k]'h).toNat : Int) = p:=fun h=>by rw [X h,hp]
        have Y' : ∀ h,((form[k]'h).toNat : Int) = r:=fun h=>by rw [Y h,hr]
        rw [← hp,← hr] at h1 h2
        rw [← hr] at g1
        clear X Y
        by_cases hc : p = r
        · have e:=h1 (decide_eq_true hc)
          have E:=Lib.hid e
          clear e
          have g2 : (p == r) = true:=by simpa using hc
          clear h1 h2
          subst hc
          go_wp2
          go_region
          go_wp2
          go_roundw
          case rel=>exact ⟨k + 1,by first | omega | go_num,by omega,E,by first | exact hbel | exact hbel.drew⟩
          case measure=>simp [intOf];omega
        · have e:=h2 (decide_eq_false hc)
          have E:=Lib.hid e
          clear e
          have g2 : (p == r) = false:=by simpa using hc
          clear h1 h2
          go_wp2
          go_region
          go_wp2
          go_ret
          exact ⟨ret_b E.out.symm,by first | exact hbel | exact hbel.drew⟩
    · have e : likeL (bl s) (bl form) = true:=by rw [HK.out,HS.out,hz,show form.size = k by omega];exact hR.out
      have hke : k = form.size:=by omega
      have hks : ¬ k < s.size:=by omega
      have E:=Lib.hid e
      clear e
      go_wp2
      go_ret
      exact ⟨ret_b E.out.symm,by first | exact hbel | exact hbel.drew⟩
 · have e : likeL (bl s) (bl form) = false:=likeL_ne (by rw [HS.out,HF.out];exact hz)
   have hz' : ¬ (s.size : Int) = (form.size : Int):=by omega
   rw [e]
   go_enter Tryz.func170,Tryz.ntmps170
   go_wp2
   go_ret
   exact ⟨rfl,Below.refl _ _⟩
def wB (c : UInt8) : Bool:=c == 32 || cpB c
theorem wordsL_eq : ∀ (l : List UInt8),l ≠ [] → l.head? ≠ some 32 → wordsL l = l.all wB
 | [],h,_=>absurd rfl h
 | c :: r,_,h=>by
  have h1 : (c == 32) = false:=by rw [beq_eq_false_iff_ne];intro e;exact h (by rw [e];rfl)
  rw [List.all_cons,show wB c = cpB c by unfold wB;rw [h1,Bool.false_or]]
  rfl
theorem wordsL_no (l : List UInt8) (h : l = [] ∨ l.head? = some 32) : wordsL l = false:=by
 match l,h with
 | [],_=>rfl
 | c :: r,h=>
  have : c = 32:=by rcases h with h | h <;> simp at h;exact h
  subst this
  rfl
theorem cps_one (x : UInt8) : cpsL [x] = cpB x:=by simp [cpsL]
theorem bl_one (b : ByteArray) (k : Nat) (x : UInt8) (hk : k < b.size) (hx : (bl b)[k]? = some x) : bl (b.extract k (k + 1)) = [x]:=by
 rw [Go.Rf.extract_bytes b k (k + 1) (by omega) hk]
 show ((bl b).drop k).take (k + 1 - k) = [x]
 rw [show k + 1 - k = 1 by omega,drop_atI (bl b) k x hx]
 rfl
set_option maxHeartbeats 8000000 in
theorem clisted_any (b : ByteArray) (w : World) (hs : b.size ≤ 1000000) : Calls Tryz.prog 156 #[.string b] w fun e w'=>e = .returned (.bool (wordsL (bl b))) ∧ Below w.heap.size w w':=by
 have HL : Hid ((bl b).length = b.size):=bl_length b
 have K1:=Lib.hid lcaps_any
 by_cases h0 : b.size = 0
 · have e : wordsL (bl b) = false:=wordsL_no _ (.inl (by apply List.length_eq_zero_iff.1;rw [HL.out];exact h0))
   rw [e]
   have hb : b = ⟨#[]⟩:=by apply ByteArray.ext;apply Array.eq_empty_of_size_eq_zero;exact h0
   subst hb
   clear e h0
   go_enter Tryz.func156,Tryz.ntmps156
   go_wp2
   go_ret
   exact ⟨rfl,Below.refl _ _⟩
 · obtain ⟨c,hc⟩:=at_some (bl b) 0 (by rw [HL.out];omega)
   have X0 : ∀ h,b[0]'h = c:=atB_of b 0 c hc
   have hne : b.toList.isEmpty = false:=by
    rw [ByteArray.toList_eq]
    show (bl b).isEmpty = false
    rw [List.isEmpty_eq_false_iff]
    intro h;rw [h] at hc;cases hc
   have hpos : 0 < b.size:=by omega
   have hcl:=c.toNat_lt
   by_cases h32 : c = 32
   · subst h32
     have e : wordsL (bl b) = false:=wordsL_no _ (.inr (by rw [List.head?_eq_getElem?];exact hc))
     rw [e]
     clear e hc h0
     go_enter Tryz.func156,Tryz.ntmps156
     go_wp2
     go_ret
     exact ⟨rfl,Below.refl _ _⟩
   · have e : wordsL (bl b) = (bl b).all wB:=wordsL_eq _ (by intro h;rw [h] at hc;cases hc) (by rw [List.head?_eq_getElem?,hc];simpa using h32)
     rw [e]
     have g0 : ((c.toNat : Int) == 32) = false:=by rw [beq_eq_false_iff_ne];intro h;exact h32 (by apply UInt8.toNat_inj.1;simpa using (by omega : c.toNat = 32))
     clear e hc h0 h32
     go_enter Tryz.func156,Tryz.ntmps156
     go_wp2
     go_loopw [13] (fun i wr=>∃ k : Nat,i = .int .i64 (k : Int) ∧ k ≤ b.size ∧ Hid (((bl b).take k).all wB = true) ∧ Below w.heap.size w wr) (fun i _=>b.size - (intOf i).toNat)
     case atStart=>exact ⟨0,rfl,Nat.zero_le _,Lib.hid (by simp),Below.refl _ _⟩
     case round=>
      obtain ⟨k,rfl,hk,hR,hbel⟩:=hrel
      by_cases hlt : k < b.size
      · obtain ⟨x,hx⟩:=at_some (bl b) k (by rw [HL.out];exact hlt)
        have X : ∀ h,b[k]'h = x:=atB_of b k x hx
        have hxl:=x.toNat_lt
        obtain ⟨h1,h2⟩:=all_step wB (bl b) k x hx hR.out
        by_cases hq : x = 32
        · subst hq
          have e:=h1 rfl
          have E:=Lib.hid e
          clear e
          clear h1 h2 hx
          go_wp2
          go_roundw
          case rel=>exact ⟨k + 1,by first | omega | go_num,by omega,E,hbel⟩
          case measure=>simp [intOf];omega
        · have g1 : ((x.toNat : Int) == 32) = false:=by rw [beq_eq_false_iff_ne];intro h;exact hq (by apply UInt8.toNat_inj.1;simpa using (by omega : x.toNat = 32))
          have g3 : ¬ (x.toNat : Int) = 32:=by simpa using g1
          have ew : wB x = cpB x:=by unfold wB;rw [show (x == 32) = false by rw [beq_eq_false_iff_ne];exact hq,Bool.false_or]
          have k2 : ∀ w',Calls Tryz.prog 153 #[.string (b.extract k (k + 1))] w' fun e w''=>e = .returned (.bool (cpB x)) ∧ Below w'.heap.size w' w'':=fun w'=>by
           have:=K1.out (b.extract k (k + 1)) w' (by rw [ByteArray.size_extract];omega)
           rwa [bl_one b k x hlt hx,cps_one] at this
          have t1 : ((k : Int) + 1).toNat = k + 1:=by omega
          rw [ew] at h1 h2
          clear hq ew hx
          cases hcp : cpB x with
          | true=>
           rw [hcp] at k2
           have e:=h1 hcp
           have E:=Lib.hid e
           have K2:=Lib.hid k2
           clear e k2
           clear h1 h2 hcp
           go_wp2_with (go_at_call 153;refine (K2.out _).mono ?_;rintro e w1 ⟨rfl,hb1⟩)
           go_roundw
           case rel=>exact ⟨k + 1,by first | omega | go_num,by omega,E,hbel.trans (hb1.mono hbel.size)⟩
           case measure=>simp [intOf];omega
          | false=>
           rw [hcp] at k2
           have e:=h2 hcp
           have E:=Lib.hid e
           have K2:=Lib.hid k2
           clear e k2
           clear h1 h2 hcp
           go_wp2_with (go_at_call 153;refine (K2.out _).mono ?_;rintro e w1 ⟨rfl,hb1⟩)
           go_ret
           exact ⟨ret_b E.out.symm,hbel.trans (hb1.mono hbel.size)⟩
      · have e:=all_end wB (bl b) k (by rw [HL.out];omega) hR.out
        have E:=Lib.hid e
        clear e
        go_wp2
        go_ret
        exact ⟨ret_b E.out.symm,hbel⟩
end Go.Proofs.YtohbeinhlhgfiaaGreatDoor
