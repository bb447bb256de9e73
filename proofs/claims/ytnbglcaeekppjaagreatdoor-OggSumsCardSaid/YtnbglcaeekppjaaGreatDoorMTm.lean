/- Tm -/
import Derived.Deep.RegionHeld3
import Derived.Test.YtnbglcaeekppjaaGreatDoorMUs
import Derived.Test.YtnbglcaeekppjaaGreatDoorMCk
set_option linter.unusedVariables false
set_option linter.unusedSimpArgs false
namespace Go.Proofs.YtnbglcaeekppjaaGreatDoor
open Go.RowKit
def hexPtsF : Nat → List UInt8 → List Int
 | 0,_=>[]
 | f + 1,l=>hexAt l 0 4 :: hexPtsF f (l.drop 5)
def hexPts (l : List UInt8) : List Int:=hexPtsF (l.length / 5) l
def sound (p : Int) : Bool:=scalar p && decide (p ≠ 0)
def conv (s : Int × Int × ByteArray) : Int × Int × List Int:=(s.1,b5cell s.2.1,hexPts (bl s.2.2))
def bySg (KG : List Bool × List Int) (b : UInt8) : Int:=KG.2.getD b.toNat 0
def goodB (KG : List Bool × List Int) (n : Nat) : Bool:=KG.1.getD n false && decide (0 ≤ KG.2.getD n 0 ∧ KG.2.getD n 0 ≤ 1114111 ∧ (KG.2.getD n 0 < 55296 ∨ 57343 < KG.2.getD n 0))
theorem good_all : (List.range 4).all (fun (c : Nat)=>(fun KG=>(List.range 256).all (goodB KG)) (kgM (setS (c : Int)))) = true:=by decide +kernel
theorem good_at (c : Int) (h0 : 0 ≤ c) (h1 : c ≤ 3) (b : UInt8) : goodB (kgM (setS c)) b.toNat = true:=by
 obtain ⟨n,rfl⟩:=Int.eq_ofNat_of_zero_le h0
 have h:=List.all_eq_true.1 good_all n (by simp;omega)
 exact List.all_eq_true.1 h b.toNat (by have:=b.toNat_lt;simp;omega)
theorem tok_good (KG : List Bool × List Int) (hG : ∀ b : UInt8,goodB KG b.toNat = true) (b : UInt8) (l : List UInt8) : tokS (sgS KG) (b :: l) = some (encR (bySg KG b),1) ∧ Scal (bySg KG b):=by
 have h:=hG b
 unfold goodB at h
 rw [Bool.and_eq_true,decide_eq_true_eq] at h
 refine ⟨?_,h.2⟩
 simp only [tokS,sgS,if_pos h.1]
 rfl
theorem run_good (KG : List Bool × List Int) (hG : ∀ b : UInt8,goodB KG b.toNat = true) : ∀ (l : List UInt8) (f n : Nat) (acc : List UInt8),l.length ≤ f → runT (tokS (sgS KG)) f l n acc = (acc ++ encL (l.map (bySg KG)),none):=by
 intro l
 induction l with
 | nil=>intro f n acc _;rw [runT_nil];simp [encL]
 | cons b l ih=>
  intro f n acc hf
  rw [List.length_cons] at hf
  obtain ⟨f,rfl⟩ : ∃ g,f = g + 1:=⟨f - 1,by omega⟩
  rw [runT_some f _ n acc _ _ (by simp) (tok_good KG hG b l).1]
  simp only [List.drop_succ_cons,List.drop_zero]
  rw [ih f _ _ (by omega),List.map_cons,encL_cons,List.append_assoc]
theorem dec_good (c : Int) (h0 : 0 ≤ c) (h1 : c ≤ 3) (l : List UInt8) : decT (tokC c) l = (encL (l.map (bySg (kgM (setS c)))),none):=by
 rw [tokC_lo c h1]
 unfold decT
 rw [run_good _ (good_at c h0 h1) l _ _ _ (Nat.le_refl _)]
 simp
def ncells (l : List Int) : List Value:=l.map fun n=>Value.int .i64 n
def OwnN (w : World) (B : Nat) (v : Value) (l : List Int) : Prop:=w.ownsRow B 3 1 v l.length (ncells l)
theorem OwnN.row {w : World} {B : Nat} {v : Value} {l : List Int} (h : OwnN w B v l) : Row w v l.length (ncells l):=row_owns h
theorem OwnN.bel {w w' : World} {B : Nat} {v : Value} {l : List Int} (h : OwnN w B v l) (hb : Below w.heap.size w w') : OwnN w' B v l:=orow_bel h hb
section
variable {P : Program} {ops : Array Oper} {o : Oper} {a : Act} {K : Act → World → Prop} {Q : Exit → Act → World → Prop} {E : Prop}
theorem step_push1 (hgd : o.guard = none) (s x : Operand) (t e : TypeId) (ho : o.op = .call { callee:=.builtin .append,args:=#[s,x],argTypes:=#[t,t] }) (ht : P.underlying t = some (.slice e))
 (z : Value) (size bytes : Nat) (hi : (P.info? e).map (fun i=>(i.zero,i.size,i.bytes)) = some (some z,size,bytes)) (hzs : z.cells.size = size) (hsz : 0 < size)
 (W : World) (B : Nat) (v : Value) (n : Nat) (cs : List Value) (hs : a.eval s = v) (hown : W.ownsRow B e size v n cs) (news : Array Value) (hnl : news.size = size) (h1 : ∀ u ∈ news.toList,u.oneCell' = true)
 (hx : a.eval x = .slice (some ⟨W.heap.size,0,none⟩) 1 1) (hlen : n < 70368744177664) (hby : (n + 1) * bytes ≤ 140737488355328) (hB : B ≤ W.heap.size)
 (h : ∀ v' w',w'.ownsRow B e size v' (n + 1) (cs ++ news.toList) → Below B W w' → K (a.put o.dst v') w') :
 if Region.wanted o (yielded ops a.tmps) = true then Oper.wp P o a (W.alloc (.cells news e)) K Q else E:=by
 have hw : Region.wanted o (yielded ops a.tmps) = true:=by simp [Region.wanted,hgd]
 rw [if_pos hw]
 obtain ⟨i0,hi,hz0,hz1,hz2⟩:=info_parts hi
 have hnw : ∀ j u,news.toList[j]? = some u → (W.alloc (.cells news e)).cell? ((⟨W.heap.size,0,none⟩ : Addr).add j) = some u:=by
  intro j u hj
  have ea : (⟨W.heap.size,0,none⟩ : Addr).add j = ⟨W.heap.size,j,none⟩:=by
   by_cases h0 : j = 0
   · subst h0;rfl
   · simp [Addr.add,h0]
  rw [ea,World.cell?_alloc_new]
  simpa using hj
 obtain ⟨v',w',hrun,r1,r2,_⟩:=run_append_own (P:=P) (W.alloc (.cells news e)) B t o.type e i0 z size bytes ht hi hz0 hz1 hz2 hzs hsz v n cs (orow_bel hown ((Below.refl _ _).alloc (Nat.le_refl _) _)) ⟨W.heap.size,0,none⟩ 1 1 news.toList (by simp [hnl]) hnw h1 (by unfold maxLen;omega) hby (by simp;omega)
 unfold Oper.wp
 simp [execOp,ho,resolve,invoke,builtin,hs,hx,hrun,Result.andThen]
 exact h v' w' r1 (((Below.refl _ _).alloc hB _).trans (orow_below (orow_bel hown ((Below.refl _ _).alloc (Nat.le_refl _) _)) r2 (by simp;omega)))
end
def unitsL (big : Bool) : List UInt8 → List Int
 | x :: y :: r=>unitI x y big :: unitsL big r
 | _=>[]
theorem unitsL_bd (big : Bool) (l : List UInt8) : ∀ p ∈ unitsL big l,0 ≤ p ∧ p < 65536:=by
 match l with
 | []=>intro p h;simp [unitsL] at h
 | [x]=>intro p h;simp [unitsL] at h
 | x :: y :: r=>
  intro p h
  simp only [unitsL,List.mem_cons] at h
  rcases h with rfl | h
  · exact unitI_bd x y big
  · exact unitsL_bd big r p h
def wsignU : List Int → Int × Nat
 | f :: r=>if f < 55296 ∨ 57344 ≤ f then (f,2) else match r with
  | g :: _=>if 56320 ≤ f then (0,0) else if g < 56320 ∨ 57344 ≤ g then (0,0) else (65536 + (f - 55296) * 1024 + (g - 56320),4)
  | []=>(0,0)
 | []=>(0,0)
theorem wsign_units (big : Bool) (l : List UInt8) : wsign big l = wsignU (unitsL big l):=by
 match l with
 | []=>rfl
 | [x]=>rfl
 | [x,y]=>simp [wsign,unitsL,wsignU]
 | [x,y,z]=>simp [wsign,unitsL,wsignU]
 | x :: y :: z :: u :: r=>simp [wsign,unitsL,wsignU]
def labA : List (List ByteArray):=[
 [⟨#[108,97,116,105,110,49]⟩,⟨#[105,115,111,45,56,56,53,57,45,49]⟩,⟨#[108,97,116,105,110,45,49]⟩],
 [⟨#[107,111,105,56,45,114]⟩,⟨#[107,111,105,56,114]⟩],
 [⟨#[107,111,105,56,45,117]⟩,⟨#[107,111,105,56,117]⟩],
 [⟨#[99,112,56,54,54]⟩,⟨#[105,98,109,56,54,54]⟩],
 [⟨#[99,112,57,52,57]⟩,⟨#[101,117,99,45,107,114]⟩,⟨#[117,104,99]⟩],
 [⟨#[106,111,104,97,98]⟩,⟨#[99,112,49,51,54,49]⟩],
 [⟨#[98,105,103,53,45,104,107,115,99,115]⟩,⟨#[98,105,103,53]⟩],
 [⟨#[117,116,102,45,56]⟩,⟨#[117,116,102,56]⟩],
 [⟨#[117,116,102,45,49,54,108,101]⟩,⟨#[117,116,102,49,54,108,101]⟩],
 [⟨#[117,116,102,45,49,54,98,101]⟩,⟨#[117,116,102,49,54,98,101]⟩]]
def labL (c : Int) : List ByteArray:=if 0 ≤ c then (labA[c.toNat]?).getD [] else []
def scells (l : List ByteArray) : List Value:=l.map Value.string
theorem row_lits (w : World) (cs : Array Value) (t : TypeId) : Row (w.alloc (.cells cs t)) (.slice (some ⟨w.heap.size,0,none⟩) cs.size cs.size) cs.size cs.toList:=by
 refine ⟨_,_,rfl,fun j x hj=>⟨w.heap.size,0,rfl,?_⟩⟩
 rw [Nat.zero_add,World.cell?_alloc_new]
 simpa using hj
def hasLab (l : List UInt8) (c : Nat) : Bool:=(labL (c : Int)).any fun s=>decide (smallL l = bl s)
def refNamed (l : List UInt8) : Int:=match (List.range 10).find? (hasLab l) with
 | some c=>c
 | none=>-1
theorem ref_hit (l : List UInt8) (c : Nat) (hc : c < 10) (hb : ∀ d,d < c → hasLab l d = false) (h : hasLab l c = true) : refNamed l = c:=by
 have : (List.range 10).find? (hasLab l) = some c:=by
  rw [List.find?_eq_some_iff_getElem]
  refine ⟨h,c,by simpa using hc,by simp,fun j hj=>?_⟩
  rw [List.getElem_range,hb j hj];rfl
 unfold refNamed
 rw [this]
theorem ref_miss (l : List UInt8) (hb : ∀ d,d < 10 → hasLab l d = false) : refNamed l = -1:=by
 have : (List.range 10).find? (hasLab l) = none:=by
  rw [List.find?_eq_none]
  intro x hx
  rw [hb x (by simpa using hx)];simp
 unfold refNamed
 rw [this]
theorem row_at {w : World} {v : Value} {n : Nat} {cs : List Value} (h : Row w v n cs) (j : Nat) (x : Value) (hj : cs[j]? = some x) : ∃ g o cap,v = .slice (some ⟨g,o,none⟩) n cap ∧ w.cell? ⟨g,o + j,none⟩ = some x:=by
 obtain ⟨a,cap,rfl,h⟩:=h
 obtain ⟨g,o,rfl,hc⟩:=h j x hj
 exact ⟨g,o,cap,rfl,hc⟩
def IsL (t : List UInt8) : Prop:=∃ ps : List Int,t = encL ps ∧ ∀ p ∈ ps,Scal p
theorem IsL.nil : IsL []:=⟨[],rfl,fun p h=>by cases h⟩
theorem IsL.one (p : Int) (h : Scal p) : IsL (encR p):=⟨[p],by simp [encL],fun q hq=>by simp at hq;rw [hq];exact h⟩
theorem IsL.app {a b : List UInt8} (h : IsL a) (k : IsL b) : IsL (a ++ b):=by
 obtain ⟨p,rfl,hp⟩:=h
 obtain ⟨q,rfl,hq⟩:=k
 exact ⟨p ++ q,(encL_append p q).symm,fun x hx=>(List.mem_append.1 hx).elim (hp x) (hq x)⟩
theorem IsL.scan {t : List UInt8} (h : IsL t) : (scanL t).2 = none:=by
 obtain ⟨p,rfl,hp⟩:=h
 rw [scanL_encL p hp]
theorem IsL.low (b : UInt8) (h : b < 128) : IsL [b]:=by
 have h' : b.toNat < 128:=h
 have e : encR (b.toNat : Int) = [b]:=by
  unfold encR Lib.encodeRune
  rw [Lib.encodeRuneZ_one (by omega) (by omega)]
  simp
 rw [← e]
 exact IsL.one _ (by unfold Scal;omega)
def GoodT (tok : Tok) : Prop:=∀ l t k,tok l = some (t,k) → IsL t
theorem runT_isl {tok : Tok} (G : GoodT tok) : ∀ (f : Nat) (l : List UInt8) (n : Nat) (acc u : List UInt8),IsL acc → runT tok f l n acc = (u,none) → IsL u:=by
 intro f
 induction f with
 | zero=>intro l n acc u h e;simp [runT] at e;rw [← e];exact h
 | succ f ih=>
  intro l n acc u h e
  rw [runT] at e
  split at e
  · simp at e;rw [← e];exact h
  · split at e
    · simp at e
    · next t k ht=>exact ih _ _ _ _ (h.app (G _ _ _ ht)) e
theorem isl_text (l : List Int) : IsL (textM l).1:=by
 unfold textM
 split
 · next h=>exact ⟨l,rfl,fun p hp=>scal_of (List.all_eq_true.1 h p hp)⟩
 · exact IsL.nil
theorem isl_twos : ∀ (l : List (Int × Int × Int)) (a b : Int),IsL (twosL l a b).1:=by
 intro l
 induction l with
 | nil=>intro a b;exact IsL.nil
 | cons s l ih=>
  intro a b
  rw [twosL]
  split
  · exact isl_text _
  · exact ih a b
theorem isl_signs (c l s : Int) : IsL (signsM c l s):=by
 unfold signsM bSignsM
 split
 · split
   · exact isl_text _
   · exact IsL.nil
 · split
   · split
     · exact isl_text _
     · exact IsL.nil
   · split
     · exact isl_text _
     · exact isl_twos _ _ _
theorem good_two (c : Int) : GoodT (tok2 c):=by
 intro l t k h
 unfold tok2 at h
 match l,h with
 | [b],h=>
  simp only [tokD] at h
  split at h
  · next hb=>simp at h;rw [← h.1];exact IsL.low b hb
  · cases h
 | b :: c' :: r,h=>
  simp only [tokD] at h
  split at h
  · next hb=>simp at h;rw [← h.1];exact IsL.low b hb
  · split at h
    · cases h
    · simp at h;rw [← h.1];exact isl_signs _ _ _
theorem wsignU_scal (U : List Int) (hU : ∀ p ∈ U,0 ≤ p ∧ p < 65536) (h : (wsignU U).2 ≠ 0) : Scal (wsignU U).1:=by
 match U,hU,h with
 | [],_,h=>exact absurd rfl h
 | [f],hU,h=>
  have hf:=hU f (by simp)
  simp only [wsignU] at h ⊢
  split
  · unfold Scal;simp only;omega
  · next hh=>rw [if_neg hh] at h;exact absurd rfl h
 | f :: g :: r,hU,h=>
  have hf:=hU f (by simp)
  have hg:=hU g (by simp)
  simp only [wsignU] at h ⊢
  split
  · unfold Scal;simp only;omega
  · next h1=>
    rw [if_neg h1] at h
    split
    · next h2=>rw [if_pos h2] at h;exact absurd rfl h
    · next h2=>
      rw [if_neg h2] at h
      split
      · next h3=>rw [if_pos h3] at h;exact absurd rfl h
      · unfold Scal;simp only;omega
theorem good_W (big : Bool) : GoodT (tokW big):=by
 intro l t k h
 unfold tokW at h
 split at h
 · cases h
 · next hz=>
   simp at h
   rw [← h.1]
   refine IsL.one _ ?_
   rw [wsign_units] at hz ⊢
   exact wsignU_scal _ (unitsL_bd big l) hz
theorem IsL.pts {t : List UInt8} (h : IsL t) : ∀ p ∈ pts t,Scal p:=by
 obtain ⟨q,rfl,hq⟩:=h
 rw [pts_encL' q hq]
 exact hq
theorem isl_C (c : Int) (h0 : 0 ≤ c) (h7 : c ≠ 7) (l t : List UInt8) (hd : decT (tokC c) l = (t,none)) : IsL t:=by
 by_cases h3 : c ≤ 3
 · rw [dec_good c h0 h3] at hd
   have e:=congrArg Prod.fst hd
   simp only at e
   rw [← e]
   refine ⟨_,rfl,fun p hp=>?_⟩
   obtain ⟨b,hb,rfl⟩:=List.mem_map.1 hp
   exact (tok_good _ (good_at c h0 h3) b []).2
 by_cases h6 : c ≤ 6
 · rw [tokC_two c (by omega) h6] at hd
   exact runT_isl (good_two c) _ _ _ _ _ IsL.nil hd
 · rw [tokC_w c (by omega)] at hd
   exact runT_isl (good_W _) _ _ _ _ _ IsL.nil hd
theorem valid_C (c : Int) (h0 : 0 ≤ c) (l t : List UInt8) (hd : decT (tokC c) l = (t,none)) : (scanL t).2 = none:=by
 by_cases h7 : c = 7
 · subst h7
   rw [tokC_u,decT_U] at hd
   unfold decU at hd
   cases hs : (scanL l).2 with
   | none=>rw [hs] at hd;simp at hd;rw [← hd];exact hs
   | some k=>rw [hs] at hd;simp at hd
 · exact (isl_C c h0 h7 l t hd).scan
end Go.Proofs.YtnbglcaeekppjaaGreatDoor
