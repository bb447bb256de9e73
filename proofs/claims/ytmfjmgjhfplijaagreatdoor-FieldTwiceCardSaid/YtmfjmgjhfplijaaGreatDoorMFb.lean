/- Fb -/
import Derived.Test.YtmfjmgjhfplijaaGreatDoorMCy
set_option linter.unusedVariables false
set_option linter.unusedSimpArgs false
set_option maxHeartbeats 40000000
namespace Go.Proofs.YtmfjmgjhfplijaaGreatDoor
open Go.RowKit
theorem failR_n (x : RS) (e a : Int) : (failR x e a).n = x.n:=by unfold failR;split <;> rfl
theorem take_move (x : RS) (k : Int) (h : (takeR x k).1.e = 0) : (takeR x k).1.n = x.n + (takeR x k).2.size ∧ (takeR x k).2.size = k.toNat ∧ (x.n ≤ x.s.size → (takeR x k).1.n ≤ x.s.size):=by
 unfold takeR at h ⊢
 split at h
 · rename_i h1;exact absurd h h1
 · rename_i h1
   rw [if_neg h1]
   split at h
   · exact absurd h (failR_bad _ _ _ (by decide))
   · rename_i h2
     rw [if_neg h2]
     have hz : (x.s.extract x.n (x.n + k.toNat)).size = k.toNat:=by rw [ByteArray.size_extract];omega
     refine ⟨?_,hz,fun h3=>?_⟩
     · show x.n + k.toNat = x.n + (x.s.extract x.n (x.n + k.toNat)).size
       rw [hz]
     · show x.n + k.toNat ≤ _
       omega
theorem sized_move (x : RS) (h : (sizedR x).1.e = 0) : (sizedR x).1.n = x.n + 4 + (sizedR x).2.1.size ∧ (x.n ≤ x.s.size → (sizedR x).1.n ≤ x.s.size):=by
 unfold sizedR numR at h ⊢
 simp only at h ⊢
 have h0:=takeR_e _ _ h
 obtain ⟨a1,a2,a3⟩:=take_move x 4 h0
 obtain ⟨b1,b2,b3⟩:=take_move (takeR x 4).1 _ h
 rw [takeR_s] at b3
 exact ⟨by rw [b1,a1,a2];rfl,fun h5=>b3 (a3 h5)⟩
section
variable {R : List UInt8 → Int}
theorem leaf_move (x : RS) (t : ByteArray) (a : Int) (h : (leafR R x t a).1.e = 0) : (leafR R x t a).1.n = x.n:=by
 unfold leafR
 split
 · cases decT (tokC (R (bl t))) (bl t) with
   | mk u o=>cases o with
    | none=>rfl
    | some k=>exact failR_n _ _ _
 · exact failR_n _ _ _
theorem note_move (x : RS) (h : (noteR R x).1.e = 0) : x.n + 4 ≤ (noteR R x).1.n ∧ (noteL (noteR R x).2).length ≤ 512 * ((noteR R x).1.n - x.n) ∧ (x.n ≤ x.s.size → (noteR R x).1.n ≤ x.s.size):=by
 unfold noteR at h ⊢
 split at h
 · rename_i h1;exact absurd h h1
 · rename_i h1
   rw [if_neg h1]
   simp only at h ⊢
   split at h
   · exact absurd h (failR_bad _ _ _ (by decide))
   · rename_i h2
     rw [if_neg h2]
     have he : (sizedR x).1.e = 0:=by simpa using h1
     obtain ⟨m1,m2⟩:=sized_move x he
     obtain ⟨g1,g2⟩:=leafR_good _ _ _ h
     have hn:=leaf_move _ _ _ h
     obtain ⟨a1,a2⟩:=ahead_all (bl (sizedR x).2.1)
     rw [not_or] at h2
     have hlt : aheadM (bl (sizedR x).2.1) < (sizedR x).2.1.size:=by
      have h3 : (bl (sizedR x).2.1)[aheadM (bl (sizedR x).2.1)]? = some 61:=by simpa using h2.2
      have:=(List.getElem?_eq_some_iff.1 h3).1
      rwa [bl_length] at this
     simp only
     refine ⟨by rw [hn];omega,?_,fun h5=>by rw [hn];exact m2 h5⟩
     rw [hn,m1]
     unfold noteL sizedL
     simp only [List.length_append,bl_length]
     rw [ByteArray.size_extract] at g2 ⊢
     show 4 + (_ + 1 + _) ≤ _
     omega
theorem notes_move : ∀ (k : Nat) (x : RS) (l : List Nt),(notesR R k x l).1.e = 0 → x.n ≤ x.s.size → x.n ≤ (notesR R k x l).1.n ∧ (notesR R k x l).1.n ≤ x.s.size ∧ ((notesR R k x l).2.flatMap noteL).length ≤ (l.flatMap noteL).length + 512 * ((notesR R k x l).1.n - x.n):=by
 intro k
 induction k with
 | zero=>
  intro x l h hx
  exact ⟨Nat.le_refl _,hx,Nat.le_add_right _ _⟩
 | succ k ih=>
  intro x l h hx
  unfold notesR at h ⊢
  split at h
  · rename_i h1;exact absurd h h1
  · rename_i h1
    rw [if_neg h1]
    have b1:=(notesR_good _ _ _ h).1
    obtain ⟨c1,c2,c3⟩:=note_move x b1
    obtain ⟨d1,d2,d3⟩:=ih _ _ h (by rw [noteR_s];exact c3 hx)
    rw [noteR_s] at d2
    refine ⟨by omega,d2,Nat.le_trans d3 ?_⟩
    rw [List.flatMap_append,List.length_append,List.flatMap_cons,List.flatMap_nil,List.append_nil]
    omega
theorem parse_print (fr : Bool) (x : RS) (b : Bk) (hx : x.n ≤ x.s.size) (h : (parseR R fr x).2 = some b) : (printL fr b).length ≤ 512 * x.s.size + 1:=by
 unfold parseR at h
 split at h
 · cases h
 split at h
 · cases h
 rename_i h0 h1
 simp only at h
 split at h
 · cases h
 rename_i h2
 have h2 : (endR fr (notesR R (countR (leafR R (sizedR x).1 (sizedR x).2.1 (sizedR x).2.2).1).2 (countR (leafR R (sizedR x).1 (sizedR x).2.1 (sizedR x).2.2).1).1 []).1).e = 0:=by simpa using h2
 simp only [Option.some.injEq] at h
 have h3:=endR_e _ _ h2
 have c1:=(notesR_good _ _ _ h3).1
 have hv : (takeR (leafR R (sizedR x).1 (sizedR x).2.1 (sizedR x).2.2).1 4).1.e = 0 ∧ (countR (leafR R (sizedR x).1 (sizedR x).2.1 (sizedR x).2.2).1).1.n = (takeR (leafR R (sizedR x).1 (sizedR x).2.1 (sizedR x).2.2).1 4).1.n ∧ (countR (leafR R (sizedR x).1 (sizedR x).2.1 (sizedR x).2.2).1).1.s = x.s:=by
  unfold countR numR at c1 ⊢
  simp only at c1 ⊢
  split at c1
  · exact absurd c1 (failR_bad _ _ _ (by decide))
  · rename_i h9
    rw [if_neg h9]
    exact ⟨c1,rfl,by rw [takeR_s,leafR_s,sizedR_s]⟩
 obtain ⟨v1,v2,v3⟩:=hv
 have v4:=takeR_e _ _ v1
 obtain ⟨g1,g2⟩:=leafR_good _ _ _ v4
 have m1:=leaf_move _ _ _ v4
 obtain ⟨s1,s2⟩:=sized_move x (by simpa using h1)
 obtain ⟨t1,t2,t3⟩:=take_move _ _ v1
 rw [leafR_s,sizedR_s] at t3
 have hc : (countR (leafR R (sizedR x).1 (sizedR x).2.1 (sizedR x).2.2).1).1.n ≤ (countR (leafR R (sizedR x).1 (sizedR x).2.1 (sizedR x).2.2).1).1.s.size:=by
  rw [v2,v3];exact t3 (by rw [m1];exact s2 hx)
 obtain ⟨n1,n2,n3⟩:=notes_move _ _ [] h3 hc
 rw [v3] at n2
 rw [v2,t1,t2,m1,s1] at n1 n3
 subst h
 unfold printL sizedL
 simp only [List.length_append,bl_length]
 have e1 : (if fr = true then [(1 : UInt8)] else []).length ≤ 1:=by cases fr <;> simp
 simp only [List.flatMap_nil,List.length_nil] at n3
 have e2 : ∀ n,(le4 n).length = 4:=fun n=>rfl
 have e3 : (4 : Int).toNat = 4:=rfl
 rw [e3] at n1 n3
 rw [e2,e2]
 omega
end
structure Mt where
 kind : Nat
 body : ByteArray
structure Fl where
 ms : List Mt
 b : Bk
 at_ : Int
 sound : ByteArray
def noBk : Bk:=⟨⟨#[]⟩,0,[]⟩
def noFl : Fl:=⟨[],noBk,0,⟨#[]⟩⟩
def standM (i : Nat) (m : Mt) (noted : Bool) : Bool:=
 if i = 0 then decide (m.kind = 0 ∧ m.body.size = 34) else decide (m.kind ≠ 0 ∧ m.kind ≤ 126 ∧ (m.kind = 4 → noted = false))
def beN (l : List UInt8) : Nat:=l.foldl (fun n b=>n * 256 + b.toNat) 0
def be3 (n : Nat) : List UInt8:=[UInt8.ofNat (n / 65536),UInt8.ofNat (n / 256),UInt8.ofNat n]
theorem beN_snoc (l : List UInt8) (b : UInt8) : beN (l ++ [b]) = beN l * 256 + b.toNat:=by unfold beN;rw [List.foldl_append];rfl
theorem beN_be3 (n : Nat) (h : n < 16777216) : beN (be3 n) = n:=by
 unfold beN be3
 simp only [List.foldl_cons,List.foldl_nil,UInt8.toNat_ofNat']
 omega
theorem be3_beN (l : List UInt8) (h : l.length = 3) : be3 (beN l) = l ∧ beN l < 16777216:=by
 match l,h with
 | [a,b,c],_=>
  have ha:=a.toNat_lt
  have hb:=b.toNat_lt
  have hc:=c.toNat_lt
  unfold beN be3
  simp only [List.foldl_cons,List.foldl_nil]
  refine ⟨?_,by omega⟩
  simp only [List.cons.injEq,and_true]
  refine ⟨?_,?_,?_⟩ <;> (apply UInt8.toNat_inj.1;rw [UInt8.toNat_ofNat'];omega)
theorem be1_beN (l : List UInt8) (h : l.length = 1) : [UInt8.ofNat (beN l)] = l ∧ beN l < 256:=by
 match l,h with
 | [a],_=>
  have ha:=a.toNat_lt
  unfold beN
  simp only [List.foldl_cons,List.foldl_nil]
  refine ⟨?_,by omega⟩
  simp only [List.cons.injEq,and_true]
  apply UInt8.toNat_inj.1;rw [UInt8.toNat_ofNat'];omega
def bigR (x : RS) (k : Nat) : RS × Nat:=((takeR x k).1,beN (bl (takeR x k).2))
def headR (x : RS) : RS × Nat × ByteArray:=((takeR (bigR (bigR x 1).1 3).1 (bigR (bigR x 1).1 3).2).1,(bigR x 1).2,(takeR (bigR (bigR x 1).1 3).1 (bigR (bigR x 1).1 3).2).2)
section
variable (R : List UInt8 → Int)
noncomputable def addF (f : Fl) (x y : RS) (h : Nat) (t : ByteArray) : Fl × Int × Int:=
 if y.e ≠ 0 then (noFl,y.e,y.a) else
 if standM f.ms.length ⟨h % 128,t⟩ (decide (0 ≤ f.at_)) = false then (noFl,1,(x.b : Int) + x.n) else
 if 4096 ≤ f.ms.length then (noFl,4,(x.b : Int) + x.n) else
 if h % 128 = 4 then match (parseR R false ⟨t,0,y.b + y.n - t.size,0,0⟩).2 with
  | none=>(noFl,(parseR R false ⟨t,0,y.b + y.n - t.size,0,0⟩).1.e,(parseR R false ⟨t,0,y.b + y.n - t.size,0,0⟩).1.a)
  | some b=>(⟨f.ms ++ [⟨4,⟨#[]⟩⟩],b,f.ms.length,f.sound⟩,0,0)
 else (⟨f.ms ++ [⟨h % 128,t⟩],f.b,f.at_,f.sound⟩,0,0)
noncomputable def fparL : Nat → RS → Fl → Fl × Int × Int
 | 0,_,_=>(noFl,1,0)
 | k + 1,x,f=>
  if (addF R f x (headR x).1 (headR x).2.1 (headR x).2.2).2.1 ≠ 0 then addF R f x (headR x).1 (headR x).2.1 (headR x).2.2 else
  if 128 ≤ (headR x).2.1 then (⟨(addF R f x (headR x).1 (headR x).2.1 (headR x).2.2).1.ms,(addF R f x (headR x).1 (headR x).2.1 (headR x).2.2).1.b,(addF R f x (headR x).1 (headR x).2.1 (headR x).2.2).1.at_,(takeR (headR x).1 (leftR (headR x).1)).2⟩,0,0)
  else fparL k (headR x).1 (addF R f x (headR x).1 (headR x).2.1 (headR x).2.2).1
def letters : ByteArray:=⟨#[102,76,97,67]⟩
def fl0 : Fl:=⟨[],noBk,-1,⟨#[]⟩⟩
noncomputable def fparM (s : ByteArray) : Fl × Int × Int:=fparL R (s.size + 1) (wantR ⟨s,0,0,0,0⟩ letters).1 fl0
end
def has4 (l : List Mt) : Bool:=l.any fun m=>m.kind == 4
def fchkL (f : Fl) : List Mt → Nat → Bool → Int × Int
 | [],_,noted=>if noted = false ∧ (0 ≤ f.at_ ∨ 0 < f.b.ns.length ∨ f.b.vt.size ≠ 0) then (5,(f.ms.length : Int)) else (0,0)
 | m :: r,i,noted=>
  if 4096 ≤ i then (4,(i : Int)) else if standM i m noted = false then (5,(i : Int)) else if m.kind ≠ 4 then fchkL f r (i + 1) noted else
  if m.body.size ≠ 0 ∨ f.at_ ≠ i then (5,(i : Int)) else if (checkM f.b).1 ≠ 0 then ((checkM f.b).1,(i : Int)) else fchkL f r (i + 1) true
def fcheckM (f : Fl) : Int × Int:=if f.ms.length = 0 then (5,0) else fchkL f f.ms 0 false
def bodyL (b : Bk) (m : Mt) : List UInt8:=if m.kind = 4 then printL false b else bl m.body
def metaL (b : Bk) (last : Bool) (m : Mt) : List UInt8:=[UInt8.ofNat (m.kind + if last = true then 128 else 0)] ++ be3 (bodyL b m).length ++ bodyL b m
def metasL (b : Bk) : List Mt → List UInt8
 | []=>[]
 | m :: r=>metaL b r.isEmpty m ++ metasL b r
def fprintL (f : Fl) : List UInt8:=bl letters ++ metasL f.b f.ms ++ bl f.sound
theorem checkL_fst : ∀ (l : List Nt) (i : Nat),(checkL l i).1 = 0 → checkL l i = (0,0):=by
 intro l
 induction l with
 | nil=>intro i _;rfl
 | cons n l ih=>
  intro i h
  unfold checkL at h ⊢
  split at h
  · simp at h
  · rename_i h1
    rw [if_neg h1]
    split at h
    · simp at h
    · rename_i h2
      rw [if_neg h2]
      split at h
      · simp at h
      · rename_i h3
        rw [if_neg h3]
        exact ih _ h
theorem check_fst {b : Bk} (h : (checkM b).1 = 0) : checkM b = (0,0):=by
 unfold checkM at h ⊢
 split at h
 · simp at h
 · rename_i h1
   rw [if_neg h1]
   exact checkL_fst _ _ h
def stepOK (f : Fl) (m : Mt) (i : Nat) (noted : Bool) : Prop:=i < 4096 ∧ standM i m noted = true ∧ (m.kind = 4 → m.body.size = 0 ∧ f.at_ = i ∧ checkM f.b = (0,0))
def preOK (f : Fl) : List Mt → Nat → Bool → Prop
 | [],_,_=>True
 | m :: r,i,noted=>stepOK f m i noted ∧ preOK f r (i + 1) (noted || m.kind == 4)
def bare (f : Fl) : Prop:=f.at_ < 0 ∧ f.b.ns = [] ∧ f.b.vt.size = 0
theorem fchkL_iff (f : Fl) : ∀ (l : List Mt) (i : Nat) (noted : Bool),fchkL f l i noted = (0,0) ↔ preOK f l i noted ∧ ((noted || has4 l) = false → bare f):=by
 intro l
 induction l with
 | nil=>
  intro i noted
  unfold fchkL preOK bare
  by_cases h : noted = false ∧ (0 ≤ f.at_ ∨ 0 < f.b.ns.length ∨ f.b.vt.size ≠ 0)
  · rw [if_pos h]
    constructor
    · intro h';simp at h'
    · rintro ⟨_,h'⟩
      obtain ⟨h1,h2⟩:=h
      have:=h' (by rw [h1];rfl)
      rcases h2 with h2 | h2 | h2
      · omega
      · rw [this.2.1] at h2;simp at h2
      · exact absurd this.2.2 h2
  · rw [if_neg h]
    refine ⟨fun _=>⟨trivial,fun h'=>?_⟩,fun _=>rfl⟩
    have hn : noted = false:=by simpa [has4] using h'
    have h2 : ¬ (0 ≤ f.at_ ∨ 0 < f.b.ns.length ∨ f.b.vt.size ≠ 0):=fun h3=>h ⟨hn,h3⟩
    refine ⟨by omega,List.eq_nil_of_length_eq_zero (by omega),by omega⟩
 | cons m r ih=>
  intro i noted
  unfold fchkL preOK stepOK
  have hh : has4 (m :: r) = (m.kind == 4 || has4 r):=rfl
  rw [hh,← Bool.or_assoc]
  by_cases h1 : 4096 ≤ i
  · rw [if_pos h1]
    constructor
    · intro h;simp at h
    · rintro ⟨⟨⟨h,_⟩,_⟩,_⟩;omega
  rw [if_neg h1]
  cases h2 : standM i m noted with
  | false=>
   rw [if_pos rfl]
   constructor
   · intro h;simp at h
   · rintro ⟨⟨⟨_,h,_⟩,_⟩,_⟩;cases h
  | true=>
   rw [if_neg (by decide)]
   by_cases h3 : m.kind = 4
   · rw [if_neg (by simpa using h3)]
     have hk : (noted || m.kind == 4) = true:=by simp [h3]
     rw [hk]
     by_cases h4 : m.body.size ≠ 0 ∨ f.at_ ≠ i
     · rw [if_pos h4]
       constructor
       · intro h;simp at h
       · rintro ⟨⟨⟨_,_,h⟩,_⟩,_⟩
         obtain ⟨a,b,_⟩:=h h3
         rcases h4 with h4 | h4
         · exact absurd a h4
         · exact absurd b h4
     rw [if_neg h4,not_or] at *
     by_cases h5 : (checkM f.b).1 = 0
     · rw [if_neg (by simpa using h5)]
       rw [ih]
       constructor
       · rintro ⟨a,b⟩
         exact ⟨⟨⟨by omega,rfl,fun _=>⟨by simpa using h4.1,by simpa using h4.2,check_fst h5⟩⟩,a⟩,b⟩
       · rintro ⟨⟨_,a⟩,b⟩
         exact ⟨a,b⟩
     · rw [if_pos h5]
       constructor
       · intro h
         simp only [Prod.mk.injEq] at h
         exact absurd h.1 h5
       · rintro ⟨⟨⟨_,_,h⟩,_⟩,_⟩
         obtain ⟨_,_,c⟩:=h h3
         rw [c] at h5
         exact absurd rfl h5
   · rw [if_pos h3,ih]
     have hk : (noted || m.kind == 4) = noted:=by simp [h3]
     rw [hk]
     constructor
     · rintro ⟨a,b⟩
       exact ⟨⟨⟨by omega,rfl,fun h=>absurd h h3⟩,a⟩,b⟩
     · rintro ⟨⟨_,a⟩,b⟩
       exact ⟨a,b⟩
theorem fcheck_iff (f : Fl) : fcheckM f = (0,0) ↔ f.ms.length ≠ 0 ∧ preOK f f.ms 0 false ∧ (has4 f.ms = false → bare f):=by
 unfold fcheckM
 by_cases h : f.ms.length = 0
 · rw [if_pos h]
   constructor
   · intro h';simp at h'
   · rintro ⟨h',_⟩;exact absurd h h'
 · rw [if_neg h,fchkL_iff]
   simp only [Bool.false_or]
   exact ⟨fun ⟨a,b⟩=>⟨h,a,b⟩,fun ⟨_,a,b⟩=>⟨a,b⟩⟩
theorem preOK_snoc (f : Fl) (m : Mt) : ∀ (l : List Mt) (i : Nat) (noted : Bool),preOK f (l ++ [m]) i noted ↔ preOK f l i noted ∧ stepOK f m (i + l.length) (noted || has4 l):=by
 intro l
 induction l with
 | nil=>
  intro i noted
  simp [preOK,has4]
 | cons a l ih=>
  intro i noted
  rw [List.cons_append,preOK,preOK,ih]
  have hh : has4 (a :: l) = (a.kind == 4 || has4 l):=rfl
  rw [hh,Bool.or_assoc,List.length_cons,show i + 1 + l.length = i + (l.length + 1) from by omega,and_assoc]
theorem step_kind {f : Fl} {m : Mt} {i : Nat} {noted : Bool} (h : stepOK f m i noted) : m.kind ≤ 126 ∧ (m.kind = 4 → noted = false ∧ i ≠ 0):=by
 obtain ⟨_,h2,_⟩:=h
 unfold standM at h2
 split at h2
 · have h3:=of_decide_eq_true h2
   exact ⟨by omega,fun h=>by omega⟩
 · rename_i h1
   have h3:=of_decide_eq_true h2
   exact ⟨h3.2.1,fun h=>⟨h3.2.2 h,h1⟩⟩
theorem preOK_no4 (f : Fl) : ∀ (l : List Mt) (i : Nat),preOK f l i true → has4 l = false:=by
 intro l
 induction l with
 | nil=>intro i _;rfl
 | cons m l ih=>
  intro i h
  obtain ⟨h1,h2⟩:=h
  have hh : has4 (m :: l) = (m.kind == 4 || has4 l):=rfl
  rw [Bool.true_or] at h2
  rw [hh,ih _ h2,Bool.or_false]
  by_cases h3 : m.kind = 4
  · have:=((step_kind h1).2 h3).1
    cases this
  · simpa using h3
theorem preOK_4 (f : Fl) : ∀ (l : List Mt) (i : Nat) (noted : Bool),preOK f l i noted → has4 l = true → noted = false ∧ checkM f.b = (0,0) ∧ 0 ≤ f.at_:=by
 intro l
 induction l with
 | nil=>intro i noted _ h;cases h
 | cons m l ih=>
  intro i noted h h4
  obtain ⟨h1,h2⟩:=h
  by_cases h3 : m.kind = 4
  · obtain ⟨_,a,b⟩:=h1.2.2 h3
    exact ⟨((step_kind h1).2 h3).1,b,by omega⟩
  · have hh : has4 (m :: l) = (m.kind == 4 || has4 l):=rfl
    have hk : (m.kind == 4) = false:=by simpa using h3
    rw [hh,hk,Bool.false_or] at h4
    rw [hk,Bool.or_false] at h2
    exact ih _ _ h2 h4
theorem preOK_congr (f g : Fl) : ∀ (l : List Mt) (i : Nat) (noted : Bool),(has4 l = true → g.at_ = f.at_ ∧ checkM g.b = checkM f.b) → preOK f l i noted → preOK g l i noted:=by
 intro l
 induction l with
 | nil=>intro i noted _ _;trivial
 | cons m l ih=>
  intro i noted H h
  have hh : has4 (m :: l) = (m.kind == 4 || has4 l):=rfl
  rw [hh] at H
  obtain ⟨⟨a,b,c⟩,h2⟩:=h
  refine ⟨⟨a,b,fun h=>?_⟩,ih _ _ (fun h4=>H (by rw [h4,Bool.or_true])) h2⟩
  obtain ⟨c1,c2,c3⟩:=c h
  obtain ⟨d1,d2⟩:=H (by simp [h])
  exact ⟨c1,by rw [d1];exact c2,by rw [d2];exact c3⟩
theorem has4_snoc (l : List Mt) (m : Mt) : has4 (l ++ [m]) = (has4 l || m.kind == 4):=by
 unfold has4;rw [List.any_append];simp
def rawN (l : List Mt) : Nat:=(l.map fun m=>4 + m.body.size).sum
theorem rawN_snoc (l : List Mt) (m : Mt) : rawN (l ++ [m]) = rawN l + (4 + m.body.size):=by
 unfold rawN;rw [List.map_append,List.sum_append];simp
theorem rawN_cons (l : List Mt) (m : Mt) : rawN (m :: l) = (4 + m.body.size) + rawN l:=by
 unfold rawN;rw [List.map_cons,List.sum_cons]
theorem metaL_len (b : Bk) (last : Bool) (m : Mt) : (metaL b last m).length = 4 + (bodyL b m).length:=by
 unfold metaL
 simp only [List.length_append,List.length_cons,List.length_nil]
 have : (be3 (bodyL b m).length).length = 3:=rfl
 omega
theorem metasL_ge (b : Bk) : ∀ (l : List Mt),l.length ≤ (metasL b l).length:=by
 intro l
 induction l with
 | nil=>exact Nat.zero_le _
 | cons m l ih=>
  rw [metasL,List.length_append,metaL_len,List.length_cons]
  omega
theorem take_ok {x : RS} {k : Nat} (h : (takeR x k).1.e = 0) (hx : x.n ≤ x.s.size) :
 x.e = 0 ∧ (takeR x k).1 = adv x k ∧ x.n + k ≤ x.s.size ∧ (takeR x k).2.size = k ∧ (bl x.s).drop x.n = bl (takeR x k).2 ++ (bl x.s).drop (x.n + k):=by
 have he:=takeR_e _ _ h
 unfold takeR at h ⊢
 rw [if_neg (by simpa using he)] at h ⊢
 split at h
 · exact absurd h (failR_bad _ _ _ (by decide))
 · rename_i h2
   rw [if_neg h2]
   have hk : ((k : Nat) : Int).toNat = k:=by omega
   have hz : (x.s.extract x.n (x.n + k)).size = k:=by rw [ByteArray.size_extract];omega
   refine ⟨he,rfl,by omega,by simp only [hk];exact hz,?_⟩
   simp only [hk]
   have e1 : bl (x.s.extract x.n (x.n + k)) = ((bl x.s).drop x.n).take k:=by
    show (x.s.extract x.n (x.n + k)).data.toList = _
    rw [ByteArray.data_extract,Array.toList_extract,List.extract_eq_take_drop]
    simp
   rw [e1,← List.drop_drop,List.take_append_drop]
theorem head_ok {x : RS} (h : (headR x).1.e = 0) (hx : x.n ≤ x.s.size) :
 x.e = 0 ∧ (headR x).1 = adv x (4 + (headR x).2.2.size) ∧ x.n + 4 + (headR x).2.2.size ≤ x.s.size ∧ (headR x).2.1 < 256 ∧ (headR x).2.2.size < 16777216 ∧
 (bl x.s).drop x.n = [UInt8.ofNat (headR x).2.1] ++ be3 (headR x).2.2.size ++ bl (headR x).2.2 ++ (bl x.s).drop (x.n + 4 + (headR x).2.2.size):=by
 unfold headR at h ⊢
 simp only at h ⊢
 have h3:=takeR_e _ _ h
 have h2 : (takeR (bigR x 1).1 (3 : Nat)).1.e = 0:=h3
 have h1 : (takeR x (1 : Nat)).1.e = 0:=takeR_e _ _ h2
 obtain ⟨a1,a2,a3,a4,a5⟩:=take_ok h1 hx
 have A : (bigR x 1).1 = adv x 1:=a2
 rw [A] at h2 h ⊢
 obtain ⟨b1,b2,b3,b4,b5⟩:=take_ok h2 (by show x.n + 1 ≤ x.s.size;omega)
 have B : (bigR (adv x 1) 3).1 = adv (adv x 1) 3:=b2
 rw [B] at h ⊢
 obtain ⟨c1,c2,c3,c4,c5⟩:=take_ok h (by show x.n + 1 + 3 ≤ x.s.size;exact b3)
 have l1 : (bl (takeR x (1 : Nat)).2).length = 1:=by rw [bl_length];exact a4
 have l3 : (bl (takeR (adv x 1) (3 : Nat)).2).length = 3:=by rw [bl_length];exact b4
 obtain ⟨p1,p2⟩:=be1_beN _ l1
 obtain ⟨q1,q2⟩:=be3_beN _ l3
 rw [c4]
 have e1 : (bigR x 1).2 = beN (bl (takeR x (1 : Nat)).2):=rfl
 have e3 : (bigR (adv x 1) 3).2 = beN (bl (takeR (adv x 1) (3 : Nat)).2):=rfl
 have n1 : (adv x 1).n = x.n + 1:=rfl
 have n2 : (adv (adv x 1) 3).n = x.n + 1 + 3:=rfl
 have s1 : (adv x 1).s = x.s:=rfl
 have s2 : (adv (adv x 1) 3).s = x.s:=rfl
 rw [n1,s1] at b5
 rw [n2,s2] at c5 c3
 refine ⟨a1,by rw [c2,adv_adv,adv_adv];congr 1;omega,by omega,by rw [e1];exact p2,by rw [e3];exact q2,?_⟩
 rw [a5,b5,e1,p1,e3,q1,c5,e3]
 simp only [List.append_assoc]
theorem firstDiff_pre : ∀ (p q : List UInt8) (i : Nat),firstDiff p (p ++ q) i = none:=by
 intro p
 induction p with
 | nil=>intro q i;rfl
 | cons a p ih=>intro q i;rw [List.cons_append,firstDiff,if_pos rfl];exact ih q _
theorem firstDiff_none : ∀ (l m : List UInt8) (i : Nat),firstDiff l m i = none → l.length ≤ m.length → m = l ++ m.drop l.length:=by
 intro l
 induction l with
 | nil=>intro m i _ _;rfl
 | cons a l ih=>
  intro m i h hl
  cases m with
  | nil=>simp at hl
  | cons b m=>
   unfold firstDiff at h
   split at h
   · rename_i hab
     subst hab
     rw [List.length_cons,List.length_cons] at hl
     rw [List.length_cons,List.drop_succ_cons,List.cons_append,← ih m _ h (by omega)]
   · cases h
theorem want_rest {x : RS} {t : ByteArray} {q : List UInt8} (h : Rest x (bl t ++ q)) : wantR x t = (adv x t.size,true) ∧ Rest (adv x t.size) q:=by
 have hs:=h.step
 rw [bl_length] at hs
 refine ⟨?_,hs.1⟩
 obtain ⟨h0,h1,h2⟩:=h
 have hl:=congrArg List.length h2
 simp only [List.length_drop,List.length_append,bl_length] at hl
 unfold wantR
 rw [if_neg (by simpa using h0),h2,firstDiff_pre]
 simp only
 rw [if_neg (by omega)]
 rfl
theorem want_ok {x : RS} {t : ByteArray} (h : (wantR x t).1.e = 0) (hx : x.n ≤ x.s.size) :
 x.e = 0 ∧ (wantR x t).1 = adv x t.size ∧ x.n + t.size ≤ x.s.size ∧ (bl x.s).drop x.n = bl t ++ (bl x.s).drop (x.n + t.size):=by
 unfold wantR at h ⊢
 split at h
 · rename_i h1;exact absurd h h1
 · rename_i h1
   rw [if_neg h1]
   split at h
   · exact absurd h (failR_bad _ _ _ (by decide))
   · rename_i h2
     split at h
     · exact absurd h (failR_bad _ _ _ (by decide))
     · rename_i h3
       rw [if_neg h3]
       refine ⟨by simpa using h1,rfl,by omega,?_⟩
       have:=firstDiff_none _ _ _ h2 (by rw [List.length_drop,bl_length,bl_length];omega)
       rw [bl_length,List.drop_drop] at this
       exact this
theorem parse_none {R : List UInt8 → Int} {fr : Bool} {x : RS} (h : (parseR R fr x).2 = none) : (parseR R fr x).1.e ≠ 0:=by
 unfold parseR at h ⊢
 split at h
 · rename_i h1;rw [if_pos h1];exact h1
 · rename_i h1
   rw [if_neg h1]
   split at h
   · rename_i h2;rw [if_pos h2];exact h2
   · rename_i h2
     rw [if_neg h2]
     simp only at h ⊢
     split at h
     · rename_i h3;exact h3
     · cases h
theorem beN_one (h : Nat) (hh : h < 256) : beN [UInt8.ofNat h] = h:=by
 unfold beN
 simp only [List.foldl_cons,List.foldl_nil,UInt8.toNat_ofNat']
 omega
theorem head_rest {x : RS} {h : Nat} {t q : List UInt8} (hh : h < 256) (ht : t.length < 16777216) (hr : Rest x ([UInt8.ofNat h] ++ be3 t.length ++ t ++ q)) :
 headR x = (adv x (4 + t.length),h,⟨t.toArray⟩) ∧ Rest (adv x (4 + t.length)) q:=by
 rw [List.append_assoc,List.append_assoc] at hr
 have h1 : Rest (adv x 1) (be3 t.length ++ (t ++ q)) ∧ takeR x (1 : Nat) = (adv x 1,⟨[UInt8.ofNat h].toArray⟩):=hr.step
 have h2 : Rest (adv (adv x 1) 3) (t ++ q) ∧ takeR (adv x 1) (3 : Nat) = (adv (adv x 1) 3,⟨(be3 t.length).toArray⟩):=h1.1.step
 have h3:=h2.1.step
 have A : bigR x 1 = (adv x 1,h):=by
  unfold bigR
  rw [h1.2]
  show (adv x 1,beN [UInt8.ofNat h]) = _
  rw [beN_one h hh]
 have B : bigR (adv x 1) 3 = (adv (adv x 1) 3,t.length):=by
  unfold bigR
  rw [h2.2]
  show (adv (adv x 1) 3,beN (be3 t.length)) = _
  rw [beN_be3 _ ht]
 have e : adv (adv (adv x 1) 3) t.length = adv x (4 + t.length):=by rw [adv_adv,adv_adv];congr 1;omega
 rw [e] at h3
 refine ⟨?_,h3.1⟩
 unfold headR
 rw [A]
 simp only
 rw [B]
 simp only
 rw [h3.2]
theorem empty_of {t : ByteArray} (h : t.size = 0) : t = ⟨#[]⟩:=ByteArray.ext (Array.eq_empty_of_size_eq_zero h)
theorem note_in {l : List Nt} {n : Nt} (h : n ∈ l) : (noteL n).length ≤ (l.flatMap noteL).length:=by
 induction l with
 | nil=>cases h
 | cons a l ih=>
  rw [List.flatMap_cons,List.length_append]
  rcases List.mem_cons.1 h with rfl | h
  · omega
  · have:=ih h;omega
theorem print_parts (b : Bk) : b.vt.size ≤ (printL false b).length ∧ ∀ n ∈ b.ns,(noteL n).length ≤ (printL false b).length:=by
 unfold printL sizedL
 simp only [List.length_append,bl_length]
 exact ⟨by omega,fun n hn=>by have:=note_in hn;omega⟩
section
variable {R : List UInt8 → Int} (hR : ∀ l,(scanL l).2 = none → R l = 7)
include hR
theorem add_back (f : Fl) (hpl : (printL false f.b).length < 16777216) (m : Mt) (acc : Fl) (x y : RS) (h : Nat) (hm : h % 128 = m.kind) (hy : y.e = 0) (h1 : stepOK f m acc.ms.length (decide (0 ≤ acc.at_))) :
 addF R acc x y h ⟨(bodyL f.b m).toArray⟩ = (⟨acc.ms ++ [m],if m.kind = 4 then utfBk f.b else acc.b,if m.kind = 4 then f.at_ else acc.at_,acc.sound⟩,0,0):=by
 have hk:=step_kind h1
 obtain ⟨a,b,c⟩:=h1
 unfold addF
 rw [if_neg (by simpa using hy),hm]
 by_cases h4 : m.kind = 4
 · obtain ⟨hn,hi⟩:=hk.2 h4
   have hst : standM acc.ms.length ⟨m.kind,⟨(bodyL f.b m).toArray⟩⟩ (decide (0 ≤ acc.at_)) = true:=by
    unfold standM at b ⊢
    rw [if_neg hi] at b ⊢
    exact b
   rw [hst,if_neg (by decide),if_neg (by omega),if_pos h4]
   have hbody : bodyL f.b m = printL false f.b:=if_pos h4
   rw [hbody]
   obtain ⟨c1,c2,c3⟩:=c h4
   obtain ⟨p1,p2⟩:=print_parts f.b
   rw [parse_back hR false f.b _ c3 (by omega) (fun n hn=>by have:=p2 n hn;omega) ⟨rfl,Nat.zero_le _,by rw [List.drop_zero]⟩]
   simp only
   rw [if_pos h4,if_pos h4,c2]
   have e : m = ⟨4,⟨#[]⟩⟩:=by
    obtain ⟨k,t⟩:=m
    simp only at h4 c1
    rw [h4,empty_of c1]
   rw [← e]
 · have hbody : bodyL f.b m = bl m.body:=if_neg h4
   rw [hbody]
   have e : (⟨(bl m.body).toArray⟩ : ByteArray) = m.body:=rfl
   rw [e]
   have e2 : (⟨m.kind,m.body⟩ : Mt) = m:=rfl
   rw [e2,b,if_neg (by decide),if_neg (by omega),if_neg h4,if_neg h4,if_neg h4]
theorem pars_back (f : Fl) (hpl : (printL false f.b).length < 16777216) : ∀ (l : List Mt) (noted : Bool) (k : Nat) (x : RS) (acc : Fl) (q : List UInt8),l ≠ [] → preOK f l acc.ms.length noted → decide (0 ≤ acc.at_) = noted → l.length ≤ k →
 (∀ m ∈ l,m.body.size < 16777216) → Rest x (metasL f.b l ++ q) →
 fparL R k x acc = (⟨acc.ms ++ l,if has4 l = true then utfBk f.b else acc.b,if has4 l = true then f.at_ else acc.at_,⟨q.toArray⟩⟩,0,0):=by
 intro l
 induction l with
 | nil=>intro noted k x acc q h;exact absurd rfl h
 | cons m r ih=>
  intro noted k x acc q _ hp hd hk hb hr
  obtain ⟨h1,h2⟩:=hp
  obtain ⟨hk1,hk4⟩:=step_kind h1
  cases k with
  | zero=>simp at hk
  | succ k=>
   rw [metasL,List.append_assoc] at hr
   unfold metaL at hr
   have hbl : (bodyL f.b m).length < 16777216:=by
    unfold bodyL
    split
    · exact hpl
    · rw [bl_length];exact hb m (List.mem_cons_self ..)
   have hh : (m.kind + if r.isEmpty = true then 128 else 0) < 256:=by split <;> omega
   obtain ⟨e1,e2⟩:=head_rest hh hbl hr
   have hm : (m.kind + if r.isEmpty = true then 128 else 0) % 128 = m.kind:=by split <;> omega
   rw [← hd] at h1
   have hadd:=add_back hR f hpl m acc x (adv x (4 + (bodyL f.b m).length)) _ hm e2.1 h1
   have h4e : has4 (m :: r) = (m.kind == 4 || has4 r):=rfl
   unfold fparL
   rw [e1]
   simp only
   rw [hadd]
   simp only
   rw [if_neg (by simp)]
   cases r with
   | nil=>
    rw [if_pos (by rw [if_pos (show ([] : List Mt).isEmpty = true from rfl)];omega)]
    have e3 : Rest (adv x (4 + (bodyL f.b m).length)) q:=e2
    have e4 : Rest (adv x (4 + (bodyL f.b m).length)) (q ++ []):=by rw [List.append_nil];exact e3
    rw [e3.left,e4.step.2]
    have h5 : has4 [m] = (m.kind == 4):=by simp [has4]
    rw [h5]
    by_cases h4 : m.kind = 4
    · simp [h4]
    · simp [h4]
   | cons m2 r2=>
    rw [if_neg (by rw [if_neg (show ¬ (m2 :: r2).isEmpty = true by simp)];omega)]
    have hlen : (acc.ms ++ [m]).length = acc.ms.length + 1:=by simp
    rw [ih (noted || m.kind == 4) k _ _ q (by simp) (by simp only;rw [hlen];exact h2) ?_ (by rw [List.length_cons] at hk;omega) (fun n hn=>hb n (List.mem_cons_of_mem _ hn)) e2]
    · simp only [List.append_assoc,List.singleton_append]
      by_cases h4 : m.kind = 4
      · have hx : (noted || m.kind == 4) = true:=by simp [h4]
        rw [hx] at h2
        have hy:=preOK_no4 _ _ _ h2
        have hz : has4 (m :: m2 :: r2) = true:=by rw [h4e];simp [h4]
        rw [hy,hz,if_pos h4,if_pos h4]
        simp
      · have hz : has4 (m :: m2 :: r2) = has4 (m2 :: r2):=by rw [h4e];simp [h4]
        rw [hz,if_neg h4,if_neg h4]
    · simp only
      by_cases h4 : m.kind = 4
      · rw [if_pos h4]
        have:=(h1.2.2 h4).2.1
        simp [h4];omega
      · rw [if_neg h4,hd]
        simp [h4]
def readF (f : Fl) : Fl:=⟨f.ms,if has4 f.ms = true then utfBk f.b else noBk,if has4 f.ms = true then f.at_ else -1,f.sound⟩
theorem fparse_back (f : Fl) (hc : fcheckM f = (0,0)) (hpl : (printL false f.b).length < 16777216) (hb : ∀ m ∈ f.ms,m.body.size < 16777216) :
 fparM R ⟨(fprintL f).toArray⟩ = (readF f,0,0):=by
 obtain ⟨h1,h2,h3⟩:=(fcheck_iff f).1 hc
 have hr : Rest ⟨⟨(fprintL f).toArray⟩,0,0,0,0⟩ (bl letters ++ (metasL f.b f.ms ++ bl f.sound)):=by
  refine ⟨rfl,Nat.zero_le _,?_⟩
  rw [List.drop_zero]
  show fprintL f = _
  unfold fprintL
  rw [List.append_assoc]
 obtain ⟨a,b⟩:=want_rest hr
 have hl : f.ms.length ≤ (⟨(fprintL f).toArray⟩ : ByteArray).size + 1:=by
  show _ ≤ (fprintL f).length + 1
  unfold fprintL
  have:=metasL_ge f.b f.ms
  simp only [List.length_append]
  omega
 unfold fparM
 rw [a]
 simp only
 rw [pars_back hR f hpl f.ms false _ _ fl0 (bl f.sound) (by intro h;rw [h] at h1;exact h1 rfl) h2 (by decide) hl hb b]
 rfl
end
def bdBk (N : Nat) (b : Bk) : Prop:=b.vt.size ≤ 512 * N ∧ b.ns.length ≤ 4096 ∧ ∀ n ∈ b.ns,n.name.size ≤ N ∧ n.text.size ≤ 1024 * N
structure GI (x : RS) (f : Fl) : Prop where
 nx : x.n ≤ x.s.size
 rn : 4 + rawN f.ms ≤ x.n
 pre : preOK f f.ms 0 false
 no4 : has4 f.ms = false → f.at_ = -1 ∧ f.b = noBk ∧ (bl x.s).take x.n = bl letters ++ f.ms.flatMap (metaL noBk false)
 is4 : has4 f.ms = true → 0 ≤ f.at_
 bd : bdBk x.s.size f.b
 pl : (printL false f.b).length ≤ 512 * x.s.size + 8
structure GF (s : ByteArray) (f : Fl) : Prop where
 ck : fcheckM f = (0,0)
 rn : 4 + rawN f.ms + f.sound.size ≤ s.size
 bd : bdBk s.size f.b
 pl : (printL false f.b).length ≤ 512 * s.size + 8
 same : f.at_ < 0 → fprintL f = bl s
 mn : -1 ≤ f.at_
theorem metasL_snoc (b : Bk) (m : Mt) : ∀ (l : List Mt),metasL b (l ++ [m]) = l.flatMap (metaL b false) ++ metaL b true m:=by
 intro l
 induction l with
 | nil=>simp [metasL]
 | cons a l ih=>
  rw [List.cons_append,metasL,ih,List.flatMap_cons,List.append_assoc]
  have : (l ++ [m]).isEmpty = false:=by cases l <;> rfl
  rw [this]
section
variable {R : List UInt8 → Int}
theorem add_good {x : RS} {f : Fl} (G : x.e = 0 → GI x f) (hx : x.n ≤ x.s.size) (h : (addF R f x (headR x).1 (headR x).2.1 (headR x).2.2).2.1 = 0) :
 ∃ (g : Fl) (m : Mt),(addF R f x (headR x).1 (headR x).2.1 (headR x).2.2).1 = g ∧ g.ms = f.ms ++ [m] ∧ GI x f ∧ x.e = 0 ∧ (headR x).1 = adv x (4 + (headR x).2.2.size) ∧ x.n + 4 + (headR x).2.2.size ≤ x.s.size ∧
  m.body.size ≤ (headR x).2.2.size ∧ preOK g g.ms 0 false ∧ (has4 g.ms = true → 0 ≤ g.at_) ∧ bdBk x.s.size g.b ∧ (printL false g.b).length ≤ 512 * x.s.size + 8 ∧
  (has4 g.ms = false → g.at_ = -1 ∧ g.b = noBk ∧ (bl x.s).take (x.n + 4 + (headR x).2.2.size) = bl letters ++ f.ms.flatMap (metaL noBk false) ++ metaL noBk (decide (128 ≤ (headR x).2.1)) m):=by
 unfold addF at h ⊢
 split at h
 · rename_i h1;exact absurd h h1
 rename_i h1
 rw [if_neg h1]
 have h1 : (headR x).1.e = 0:=by simpa using h1
 obtain ⟨a1,a2,a3,a4,a5,a6⟩:=head_ok h1 hx
 have G:=G a1
 split at h
 · simp at h
 rename_i h2
 rw [if_neg h2]
 have h2 : standM f.ms.length ⟨(headR x).2.1 % 128,(headR x).2.2⟩ (decide (0 ≤ f.at_)) = true:=by simpa using h2
 split at h
 · simp at h
 rename_i h3
 rw [if_neg h3]
 have hnd : decide (0 ≤ f.at_) = has4 f.ms:=by
  cases h4 : has4 f.ms with
  | true=>simpa using G.is4 h4
  | false=>
   have:=(G.no4 h4).1
   simp only [decide_eq_false_iff_not]
   omega
 rw [hnd] at h2
 split at h
 · rename_i h4
   rw [if_pos h4]
   have hn4 : has4 f.ms = false:=by
    unfold standM at h2
    split at h2
    · have:=of_decide_eq_true h2
      simp only at this
      omega
    · exact (of_decide_eq_true h2).2.2 h4
   cases hp : (parseR R false ⟨(headR x).2.2,0,(headR x).1.b + (headR x).1.n - (headR x).2.2.size,0,0⟩).2 with
   | none=>
    rw [hp] at h
    exact absurd h (parse_none hp)
   | some b=>
    simp only
    obtain ⟨g1,g2,g3,g4⟩:=parse_good _ _ _ hp
    have g5:=parse_print _ _ _ (Nat.zero_le _) hp
    simp only at g2 g4 g5
    refine ⟨_,⟨4,⟨#[]⟩⟩,rfl,rfl,G,a1,a2,a3,Nat.zero_le _,?_,?_,?_,?_,?_⟩
    · simp only
      rw [preOK_snoc]
      refine ⟨preOK_congr f _ _ _ _ (fun h=>by rw [hn4] at h;cases h) G.pre,by omega,?_,fun _=>⟨rfl,by simp,g1⟩⟩
      rw [Nat.zero_add,Bool.false_or,hn4]
      rw [hn4,h4] at h2
      unfold standM at h2 ⊢
      split at h2
      · have:=of_decide_eq_true h2
        simp at this
      · rename_i h5
        rw [if_neg h5]
        rfl
    · intro _;simp
    · exact ⟨by simp only;omega,g3,fun n hn=>⟨by have:=(g4 n hn).2.2.1;omega,by have:=(g4 n hn).2.2.2;omega⟩⟩
    · simp only;omega
    · intro h5
      simp only at h5
      rw [has4_snoc] at h5
      simp at h5
 · rename_i h4
   rw [if_neg h4]
   refine ⟨_,⟨(headR x).2.1 % 128,(headR x).2.2⟩,rfl,rfl,G,a1,a2,a3,Nat.le_refl _,?_,?_,G.bd,G.pl,?_⟩
   · simp only
     rw [preOK_snoc]
     refine ⟨preOK_congr f _ _ _ _ (fun h=>⟨rfl,rfl⟩) G.pre,by omega,?_,fun h=>absurd h h4⟩
     rw [Nat.zero_add,Bool.false_or]
     exact h2
   · intro h5
     simp only at h5
     rw [has4_snoc] at h5
     exact G.is4 (by simpa [h4] using h5)
   · intro h5
     simp only at h5
     rw [has4_snoc,Bool.or_eq_false_iff] at h5
     obtain ⟨b1,b2,b3⟩:=G.no4 h5.1
     refine ⟨b1,b2,?_⟩
     rw [Nat.add_assoc,List.take_add,b3,a6]
     congr 1
     unfold metaL bodyL
     simp only
     rw [if_neg h4,bl_length]
     have e : ((headR x).2.1 % 128 + if decide (128 ≤ (headR x).2.1) = true then 128 else 0) = (headR x).2.1:=by
      by_cases h6 : 128 ≤ (headR x).2.1
      · rw [if_pos (by simpa using h6)];omega
      · rw [if_neg (by simpa using h6)];omega
     rw [e]
     apply List.take_left'
     have e3 : (be3 (headR x).2.2.size).length = 3:=rfl
     simp only [List.length_append,List.length_cons,List.length_nil,bl_length,e3]
theorem fpars_good : ∀ (k : Nat) (x : RS) (f : Fl),(x.e = 0 → GI x f) → x.n ≤ x.s.size → (fparL R k x f).2.1 = 0 → GF x.s (fparL R k x f).1:=by
 intro k
 induction k with
 | zero=>intro x f _ _ h;simp [fparL] at h
 | succ k ih=>
  intro x f G hx h
  unfold fparL at h ⊢
  by_cases hz : (addF R f x (headR x).1 (headR x).2.1 (headR x).2.2).2.1 = 0
  · obtain ⟨g,m,e1,e2,G0,e0,a2,a3,b1,b2,b3,b4,b5,b6⟩:=add_good G hx hz
    have hm0 : rawN g.ms = rawN f.ms + (4 + m.body.size):=by rw [e2,rawN_snoc]
    have hrn:=G0.rn
    rw [if_neg (by simpa using hz)] at h ⊢
    rw [e1] at h ⊢
    by_cases hl : 128 ≤ (headR x).2.1
    · rw [if_pos hl]
      have hy : ((headR x).1).e = 0:=by rw [a2];exact e0
      have hys : (headR x).1.s = x.s:=by rw [a2];rfl
      have hyn : (headR x).1.n = x.n + 4 + (headR x).2.2.size:=by rw [a2];show x.n + (4 + _) = _;omega
      have hlf : leftR (headR x).1 = ((x.s.size - (headR x).1.n : Nat) : Int):=by
       unfold leftR
       rw [if_neg (by simpa using hy),hys]
       omega
      have hr : Rest (headR x).1 ((bl x.s).drop (headR x).1.n ++ []):=⟨hy,by rw [hys,hyn];exact a3,by rw [hys,List.append_nil]⟩
      have hdl : ((bl x.s).drop (headR x).1.n).length = x.s.size - (headR x).1.n:=by rw [List.length_drop,bl_length]
      have ht:=hr.step.2
      rw [hdl] at ht
      rw [hlf,ht]
      have hsz : (⟨((bl x.s).drop (headR x).1.n).toArray⟩ : ByteArray).size = x.s.size - (headR x).1.n:=hdl
      refine ⟨(fcheck_iff _).2 ⟨by simp only;rw [e2];simp,preOK_congr g _ _ _ _ (fun _=>⟨rfl,rfl⟩) b2,fun h4=>?_⟩,?_,b4,b5,fun h4=>?_,?_⟩
      · obtain ⟨c1,c2,_⟩:=b6 h4
        refine ⟨by simp only;omega,by simp only;rw [c2];rfl,by simp only;rw [c2];rfl⟩
      · simp only
        rw [hsz,hm0,hyn]
        omega
      · simp only at h4
        have hn : has4 g.ms = false:=by
         cases h5 : has4 g.ms with
         | false=>rfl
         | true=>have:=b3 h5;omega
        obtain ⟨c1,c2,c3⟩:=b6 hn
        unfold fprintL
        simp only
        rw [c2,e2,metasL_snoc]
        have hd : decide (128 ≤ (headR x).2.1) = true:=by simpa using hl
        rw [hd,← hyn] at c3
        rw [← List.append_assoc,← c3]
        show _ ++ (bl x.s).drop (headR x).1.n = _
        rw [List.take_append_drop]
      · simp only
        cases h5 : has4 g.ms with
        | false=>have:=(b6 h5).1;omega
        | true=>have:=b3 h5;omega
    · rw [if_neg hl] at h ⊢
      have hys : (headR x).1.s = x.s:=by rw [a2];rfl
      have hyn : (headR x).1.n = x.n + 4 + (headR x).2.2.size:=by rw [a2];show x.n + (4 + _) = _;omega
      have:=ih (headR x).1 g (fun _=>⟨by rw [hys,hyn];exact a3,by rw [hm0,hyn];omega,b2,fun h4=>?_,b3,by rw [hys];exact b4,by rw [hys];exact b5⟩) (by rw [hys,hyn];exact a3) h
      · rw [hys] at this
        exact this
      · obtain ⟨c1,c2,c3⟩:=b6 h4
        refine ⟨c1,c2,?_⟩
        have hd : decide (128 ≤ (headR x).2.1) = false:=by simpa using hl
        rw [hd] at c3
        rw [hys,hyn,c3,e2,List.flatMap_append]
        simp
  · rw [if_pos hz] at h
    exact absurd h hz
theorem fparse_good (s : ByteArray) (h : (fparM R s).2.1 = 0) : GF s (fparM R s).1:=by
 unfold fparM at h ⊢
 have hs : (wantR ⟨s,0,0,0,0⟩ letters).1.s = s:=by
  unfold wantR
  rw [if_neg (by simp)]
  split
  · exact failR_s _ _ _
  · split
    · exact failR_s _ _ _
    · rfl
 have hn : (wantR ⟨s,0,0,0,0⟩ letters).1.n ≤ s.size:=by
  by_cases he : (wantR ⟨s,0,0,0,0⟩ letters).1.e = 0
  · obtain ⟨_,a2,a3,_⟩:=want_ok he (Nat.zero_le _)
    rw [a2]
    exact a3
  · unfold wantR at he ⊢
    rw [if_neg (by simp)] at he ⊢
    split
    · rw [failR_n];exact Nat.zero_le _
    · rename_i h1
      rw [h1] at he
      simp only at he
      split
      · unfold shortR;rw [failR_n];exact Nat.zero_le _
      · rename_i h2
        rw [if_neg h2] at he
        exact absurd rfl he
 have:=fpars_good (s.size + 1) (wantR ⟨s,0,0,0,0⟩ letters).1 fl0 (fun he=>?_) (by rw [hs];exact hn) h
 · rw [hs] at this
   exact this
 · obtain ⟨_,a2,a3,a4⟩:=want_ok he (Nat.zero_le _)
   have hl : letters.size = 4:=rfl
   simp only [hl] at a2 a3 a4
   rw [a2]
   refine ⟨a3,Nat.le_refl _,trivial,fun _=>⟨rfl,rfl,?_⟩,fun h=>(by cases h),⟨Nat.zero_le _,Nat.zero_le _,fun n hn=>by cases hn⟩,?_⟩
   · show (bl s).take (0 + 4) = bl letters ++ []
     rw [List.drop_zero] at a4
     rw [List.append_nil,a4,Nat.zero_add]
     exact List.take_left' rfl
   · show (printL false noBk).length ≤ _
     have : (printL false noBk).length = 8:=by decide
     omega
end
end Go.Proofs.YtmfjmgjhfplijaaGreatDoor
namespace Go.Proofs.YtmfjmgjhfplijaaGreatDoor
open Go.ChangeShapes Go.WideShapes Go.ChangeAt Go.RowKit Go.ChangeMaps
def mtcells (l : List Mt) : List Value:=l.flatMap fun m=>[.int .u8 m.kind,.string m.body]
theorem mtcells_append (l m : List Mt) : mtcells (l ++ m) = mtcells l ++ mtcells m:=by simp [mtcells]
theorem mtcells_at (l : List Mt) (i : Nat) (m : Mt) (h : l[i]? = some m) : (mtcells l)[i * 2]? = some (.int .u8 m.kind) ∧ (mtcells l)[i * 2 + 1]? = some (.string m.body):=by
 induction l generalizing i with
 | nil=>simp at h
 | cons a l ih=>
  cases i with
  | zero=>
   simp at h
   subst h
   exact ⟨rfl,rfl⟩
  | succ i=>
   have:=ih i (by simpa using h)
   have e : mtcells (a :: l) = [.int .u8 a.kind,.string a.body] ++ mtcells l:=rfl
   rw [e]
   refine ⟨?_,?_⟩
   · rw [List.getElem?_append_right (by simp;omega)]
     rw [show (i + 1) * 2 - [Value.int .u8 a.kind,.string a.body].length = i * 2 by simp;omega]
     exact this.1
   · rw [List.getElem?_append_right (by simp;omega)]
     rw [show (i + 1) * 2 + 1 - [Value.int .u8 a.kind,.string a.body].length = i * 2 + 1 by simp;omega]
     exact this.2
theorem mt_at {w : World} {av : Option Addr} {l : List Mt} (hc : ∀ (j : Nat) (x : Value),(mtcells l)[j]? = some x → ∃ g o,av = some ⟨g,o,none⟩ ∧ w.cell? ⟨g,o + j,none⟩ = some x) (k : Nat) (m : Mt) (hk : l[k]? = some m) :
 ∃ g o,av = some ⟨g,o,none⟩ ∧ w.cell? ⟨g,o + k * 2,none⟩ = some (.int .u8 m.kind) ∧ w.cell? ⟨g,o + k * 2 + 1,none⟩ = some (.string m.body):=by
 obtain ⟨h0,h1⟩:=mtcells_at l k m hk
 obtain ⟨g,o,rfl,c0⟩:=hc _ _ h0
 obtain ⟨g',o',e,c1⟩:=hc _ _ h1
 simp only [Option.some.injEq,Addr.mk.injEq,and_true] at e
 obtain ⟨rfl,rfl⟩:=e
 exact ⟨g,o,rfl,c0,c1⟩
def flV (vm vb : Value) (f : Fl) : Value:=.agg #[vm,.string f.b.vt,.int .i64 f.b.vs,vb,.int .i64 f.at_,.string f.sound]
def FlRow (w : World) (vm vb : Value) (f : Fl) : Prop:=Row w vm f.ms.length (mtcells f.ms) ∧ Row w vb f.b.ns.length (ntcells f.b.ns)
end Go.Proofs.YtmfjmgjhfplijaaGreatDoor
namespace Go.Proofs.YtmfjmgjhfplijaaGreatDoor
open Go.RowKit
theorem beF_lt : ∀ (l : List UInt8) (n : Nat),l.foldl (fun n b=>n * 256 + b.toNat) n < (n + 1) * 256 ^ l.length:=by
 intro l
 induction l with
 | nil=>intro n;simp
 | cons a l ih=>
  intro n
  have h1:=ih (n * 256 + a.toNat)
  have h2:=a.toNat_lt
  rw [List.foldl_cons,List.length_cons,Nat.pow_succ,Nat.mul_comm (256 ^ l.length) 256,← Nat.mul_assoc]
  exact Nat.lt_of_lt_of_le h1 (Nat.mul_le_mul_right _ (by omega))
theorem beN_lt (l : List UInt8) : beN l < 256 ^ l.length:=by
 have:=beF_lt l 0
 simpa [beN] using this
theorem beN_step (l : List UInt8) (j : Nat) (c : UInt8) (h : l[j]? = some c) : beN (l.take (j + 1)) = beN (l.take j) * 256 + c.toNat:=by
 obtain ⟨h1,h2⟩:=List.getElem?_eq_some_iff.1 h
 rw [List.take_succ_eq_append_getElem h1,h2,beN_snoc]
theorem inx_big (w : World) (r : Nat) (x : RS) (k : Nat) (h : InX w r x) (hk : okR x) (h1 : k ≤ 3) :
 Calls Tryz.prog 36 #[.pointer (some ⟨r,0,none⟩),.int .i64 k] w fun v w'=>v = .returned (.int .u64 ((bigR x k).2 : Int)) ∧ InX w' r (bigR x k).1 ∧ w.grownBy w' (some r):=by
 have k1 : ∀ w,Calls Tryz.prog 89 #[.int .i64 k] w fun e w'=>e = .returned (.int .i64 k) ∧ w = w':=fun w=>by
  have:=width_any k w
  rw [show widthOf (k : Int) = k from by unfold widthOf;omega] at this
  exact this
 have k2:=fun w h=>inx_take w r x k h hk (by omega) (by omega)
 have hsz : (takeR x k).2.size ≤ 3:=Nat.le_trans (takeR_size x k) h1
 unfold bigR
 generalize takeR x k = y at *
 obtain ⟨y,t⟩:=y
 simp only at k2 hsz ⊢
 have HL : Hid ((bl t).length = t.size):=bl_length t
 have K1:=Lib.hid k1
 have K2:=Lib.hid k2
 clear k1 k2
 go_enter Tryz.func36,Tryz.ntmps36
 go_wp2_with (first
  | (go_at_call 89;refine (K1.out _).mono ?_;rintro x w1 ⟨rfl,rfl⟩)
  | (go_at_call 37;refine (K2.out _ h).mono ?_;rintro x w2 ⟨rfl,hi,hg⟩))
 go_loop [6,7] (fun n i=>∃ j : Nat,i = .int .i64 (j : Int) ∧ n = .int .u64 (beN ((bl t).take j) : Int) ∧ j ≤ t.size) (fun _ i=>t.size - (intOf i).toNat)
 case atStart=>exact ⟨0,rfl,rfl,Nat.zero_le _⟩
 case round=>
  obtain ⟨j,rfl,rfl,hjt⟩:=hrel
  by_cases hlt : j < t.size
  · obtain ⟨c,hc⟩:=at_some (bl t) j (by rw [HL.out];exact hlt)
    have C : ∀ h,t[j]'h = c:=atB_of t j c hc
    have hst:=beN_step (bl t) j c hc
    have hb:=beN_lt ((bl t).take j)
    have hcl:=c.toNat_lt
    have hb2 : beN ((bl t).take j) < 65536:=by
     refine Nat.lt_of_lt_of_le hb ?_
     have : ((bl t).take j).length ≤ 2:=by rw [List.length_take];omega
     exact Nat.le_trans (Nat.pow_le_pow_right (by decide) this) (by decide)
    clear hb hc
    generalize beN ((bl t).take j) = q at *
    have HST:=Lib.hid hst
    clear hst
    have hor : bits .or .u64 ((q : Int) * 256) (c.toNat : Int) = (q : Int) * 256 + c.toNat:=u64_or8 _ _ (by omega) (by omega) (by omega) (by omega) (by omega) (by omega)
    go_wp2_with fail
    exact ⟨⟨j + 1,by go_num,by rw [HST.out];congr 1,by omega⟩,by simp [intOf];omega⟩
  · have hjn : j = t.size:=by omega
    have hall : (bl t).take j = bl t:=List.take_of_length_le (by rw [HL.out];omega)
    rw [hall]
    clear hjn hall
    go_wp2
    go_ret
    exact ⟨rfl,hi,hg⟩
theorem inx_rest (w : World) (r : Nat) (x : RS) (h : InX w r x) (hk : okR x) :
 Calls Tryz.prog 42 #[.pointer (some ⟨r,0,none⟩)] w fun v w'=>v = .returned (.string (takeR x (leftR x)).2) ∧ InX w' r (takeR x (leftR x)).1 ∧ w.grownBy w' (some r):=by
 have k1:=fun w h=>inx_left w r x h hk
 have hlb : 0 ≤ leftR x ∧ leftR x ≤ 1073741824:=by
  obtain ⟨h1,h2,_⟩:=hk
  unfold leftR
  split <;> omega
 have k2:=fun w h=>inx_take w r x (leftR x) h hk (by omega) (by omega)
 generalize leftR x = l at *
 have K1:=Lib.hid k1
 have K2:=Lib.hid k2
 clear k1 k2
 go_enter Tryz.func42,Tryz.ntmps42
 go_wp2_with (first
  | (go_at_call 94;refine (K1.out _ h).mono ?_;rintro e w1 ⟨rfl,hb1⟩)
  | (go_at_call 37;refine (K2.out _ (h.bel hb1)).mono ?_;rintro e w2 ⟨rfl,hi,hg⟩))
 go_ret
 exact ⟨rfl,hi,gr_trans (gr_below hb1) hg⟩
theorem stands_any (i : Nat) (m : Mt) (noted : Bool) (w : World) :
 Calls Tryz.prog 39 #[.int .i64 i,.agg #[.int .u8 m.kind,.string m.body],.bool noted] w fun e w'=>e = .returned (.bool (standM i m noted)) ∧ Below w.heap.size w w':=by
 obtain ⟨k,t⟩:=m
 simp only
 have hbe:=bal (Below.refl w.heap.size w) (.cells #[.int .u8 k,.string t] 102)
 obtain ⟨c0,_⟩:=Live.fresh w #[.int .u8 k,.string t] 102 0 _ rfl
 obtain ⟨c1,_⟩:=Live.fresh w #[.int .u8 k,.string t] 102 1 _ rfl
 have HBE:=Lib.hid hbe
 clear hbe
 by_cases hi : i = 0
 · subst hi
   by_cases h0 : k = 0
   · subst h0
     by_cases h2 : t.size = 34
     · have e : standM 0 ⟨0,t⟩ noted = true:=by unfold standM;simp [h2]
       have d2 : ((t.size : Int) == 34) = true:=by rw [beq_iff_eq];omega
       rw [e]
       clear e h2
       go_enter Tryz.func39,Tryz.ntmps39
       go_wp2
       go_ret
       exact ⟨rfl,HBE.out⟩
     · have e : standM 0 ⟨0,t⟩ noted = false:=by unfold standM;simp [h2]
       have d2 : ((t.size : Int) == 34) = false:=by rw [beq_eq_false_iff_ne];omega
       rw [e]
       clear e h2
       go_enter Tryz.func39,Tryz.ntmps39
       go_wp2
       go_ret
       exact ⟨rfl,HBE.out⟩
   · have e : standM 0 ⟨k,t⟩ noted = false:=by unfold standM;simp [h0]
     have d0 : ((k : Int) == 0) = false:=by rw [beq_eq_false_iff_ne];omega
     rw [e]
     clear e h0
     go_enter Tryz.func39,Tryz.ntmps39
     go_wp2
     go_ret
     exact ⟨rfl,HBE.out⟩
 · have di : ((i : Int) == 0) = false:=by rw [beq_eq_false_iff_ne];omega
   by_cases h0 : k = 0
   · subst h0
     have e : standM i ⟨0,t⟩ noted = false:=by unfold standM;rw [if_neg hi];simp
     rw [e]
     clear e hi
     go_enter Tryz.func39,Tryz.ntmps39
     go_wp2
     go_ret
     exact ⟨rfl,HBE.out⟩
   · have d0 : ((k : Int) == 0) = false:=by rw [beq_eq_false_iff_ne];omega
     by_cases h1 : 126 < k
     · have e : standM i ⟨k,t⟩ noted = false:=by unfold standM;rw [if_neg hi];simp;omega
       have d1 : (k : Int) > 126:=by omega
       rw [e]
       clear e hi h0 h1
       go_enter Tryz.func39,Tryz.ntmps39
       go_wp2
       go_ret
       exact ⟨rfl,HBE.out⟩
     · have d1 : ¬ (k : Int) > 126:=by omega
       by_cases h4 : k = 4
       · have e : standM i ⟨k,t⟩ noted = !noted:=by unfold standM;rw [if_neg hi];cases noted <;> simp [h4]
         have d4 : ((k : Int) != 4) = false:=by rw [bne_eq_false_iff_eq];omega
         rw [e]
         clear e hi h0 h1 h4
         go_enter Tryz.func39,Tryz.ntmps39
         go_wp2
         go_ret
         exact ⟨rfl,HBE.out⟩
       · have e : standM i ⟨k,t⟩ noted = true:=by unfold standM;rw [if_neg hi];simp [h4,h0];omega
         have d4 : ((k : Int) != 4) = true:=by rw [bne_iff_ne];omega
         rw [e]
         clear e hi h0 h1 h4
         go_enter Tryz.func39,Tryz.ntmps39
         go_wp2
         go_ret
         exact ⟨rfl,HBE.out⟩
def smFl (f : Fl) : Prop:=smBk f.b ∧ f.ms.length ≤ 1000000 ∧ (∀ m ∈ f.ms,m.body.size ≤ 1073741824) ∧ f.b.ns.length ≤ 1000000 ∧ f.sound.size ≤ 1073741824
theorem txt_e {t : ByteArray} (h : t.size = 0) : t.toList.isEmpty = true:=by
 rw [ByteArray.toList_eq]
 have : t.data.toList = []:=List.eq_nil_of_length_eq_zero (by simpa using h)
 rw [this];rfl
theorem txt_ne {t : ByteArray} (h : t.size ≠ 0) : t.toList.isEmpty = false:=by
 rw [ByteArray.toList_eq,List.isEmpty_eq_false_iff]
 intro h2
 apply h
 have:=congrArg List.length h2
 simpa using this
set_option maxRecDepth 100000 in
theorem fchk_any (vm vb : Value) (f : Fl) (w : World) (hT : TW w) (hrow : FlRow w vm vb f) (hok : smFl f) :
 Calls Tryz.prog 132 #[flV vm vb f] w fun e w'=>e = .returned (.agg #[.int .i64 (fcheckM f).1,.int .i64 (fcheckM f).2]) ∧ Below w.heap.size w w':=by
 have hck : ∀ w',Below w.heap.size w w' → Calls Tryz.prog 71 #[.agg #[.string f.b.vt,.int .i64 f.b.vs,vb]] w' fun e w''=>e = .returned (.agg #[.int .i64 (checkM f.b).1,.int .i64 (checkM f.b).2]) ∧ Below w'.heap.size w' w'':=fun w' hb=>ccheck_any vb f.b w' (hT.bel hb) (hrow.2.keep hb) hok.1
 obtain ⟨⟨am,cm,rfl,hc⟩,⟨an,cn,rfl,_⟩⟩:=hrow
 obtain ⟨_,o2,o3,o4,_⟩:=hok
 obtain ⟨C,hC⟩ : ∃ C,C = fcheckM f:=⟨_,rfl⟩
 rw [← hC]
 unfold fcheckM at hC
 obtain ⟨CM,hCM⟩ : ∃ CM,CM = checkM f.b:=⟨_,rfl⟩
 rw [← hCM] at hck
 obtain ⟨xe,xa⟩:=CM
 obtain ⟨G,hG⟩ : ∃ G : List Mt → Nat → Bool → Int × Int,G = fchkL f:=⟨_,rfl⟩
 rw [← hG] at hC
 have G0 : ∀ (i : Nat) (nt : Bool),G [] i nt = if nt = false ∧ (0 ≤ f.at_ ∨ 0 < f.b.ns.length ∨ f.b.vt.size ≠ 0) then (5,(f.ms.length : Int)) else (0,0):=by
  intro i nt;rw [hG,fchkL]
 have G1 : ∀ (m : Mt) (r : List Mt) (i : Nat) (nt : Bool),G (m :: r) i nt = if 4096 ≤ i then (4,(i : Int)) else if standM i m nt = false then (5,(i : Int)) else if m.kind ≠ 4 then G r (i + 1) nt else
  if m.body.size ≠ 0 ∨ f.at_ ≠ i then (5,(i : Int)) else if xe ≠ 0 then (xe,(i : Int)) else G r (i + 1) true:=by
  intro m r i nt;rw [hG,fchkL,← hCM]
 clear hG hCM
 unfold flV
 obtain ⟨ms,⟨vt,vs,ns⟩,at_,snd⟩:=f
 simp only at hck hc o2 o3 o4 hC G0 G1 ⊢
 obtain ⟨n,hn⟩ : ∃ n,n = ms.length:=⟨_,rfl⟩
 obtain ⟨nn,hnn⟩ : ∃ nn,nn = ns.length:=⟨_,rfl⟩
 rw [← hn] at o2 hC ⊢
 simp only [← hn,← hnn] at G0
 rw [← hnn] at o4 hck ⊢
 obtain ⟨W,hW⟩ : ∃ W,W = (w.alloc (.cells #[.slice am n cm,.string vt,.int .i64 vs,.slice an nn cn,.int .i64 at_,.string snd] 31)).alloc (.cells #[.int .i64 0,.int .i64 0] 34):=⟨_,rfl⟩
 have hs1 : (w.alloc (.cells #[.slice am n cm,.string vt,.int .i64 vs,.slice an nn cn,.int .i64 at_,.string snd] 31)).heap.size = w.heap.size + 1:=World.size_alloc _ _
 have hbW : Below w.heap.size w W:=by rw [hW];exact bal (bal (Below.refl _ _) _) _
 have lc : ∀ (i : Nat) (u : Value),(#[.slice am n cm,.string vt,.int .i64 vs,.slice an nn cn,.int .i64 at_,.string snd] : Array Value)[i]? = some u → W.cell? ⟨w.heap.size,i,none⟩ = some u:=by
  intro i u hu;rw [hW];exact ((Live.fresh w _ 31 i u hu).alloc _).1
 have c0:=lc 0 _ rfl
 have c1:=lc 1 _ rfl
 have c2:=lc 2 _ rfl
 have c3:=lc 3 _ rfl
 have c4:=lc 4 _ rfl
 have m0 : Live W (w.heap.size + 1) 0 (.int .i64 0):=by rw [hW,← hs1];exact Live.fresh _ _ _ 0 _ rfl
 have m1 : Live W (w.heap.size + 1) 1 (.int .i64 0):=by rw [hW,← hs1];exact Live.fresh _ _ _ 1 _ rfl
 have fin : ∀ (wz : World),Below W.heap.size W wz → ∀ (a c : Int),Below w.heap.size w ((wz.setCell ⟨w.heap.size + 1,0,none⟩ (.int .i64 a)).setCell ⟨w.heap.size + 1,1,none⟩ (.int .i64 c)):=fun wz hb a c=>
  ((hbW.trans (hb.mono hbW.size)).setCell (by simp) _).setCell (by simp) _
 have ks:=fun (i : Nat) (m : Mt) (nt : Bool) (w : World)=>stands_any i m nt w
 have HC:=Lib.hid hc
 have HN:=Lib.hid hn
 have HNN:=Lib.hid hnn
 have O3:=Lib.hid o3
 have HBW:=Lib.hid hbW
 have M0:=Lib.hid m0
 have M1:=Lib.hid m1
 have HCC:=Lib.hid hC
 have FIN:=Lib.hid fin
 have HG0:=Lib.hid G0
 have HG1:=Lib.hid G1
 have KS:=Lib.hid ks
 have HCK:=Lib.hid hck
 have C0:=Lib.hid c0
 have C1:=Lib.hid c1
 have C2:=Lib.hid c2
 have C3:=Lib.hid c3
 have C4:=Lib.hid c4
 clear hc hn hnn o3 hbW m0 m1 hC fin G0 G1 ks hck c0 c1 c2 c3 c4
 have HS1:=Lib.hid hs1
 clear lc hs1 hT
 by_cases hz : n = 0
 · have hzb : ((n : Int) == 0) = true:=by rw [beq_iff_eq];omega
   have hC : Hid (C = (5,0)):=Lib.hid (by rw [HCC.out,if_pos hz])
   clear hz
   have z0 : Live ((w.alloc (.cells #[.slice am n cm,.string vt,.int .i64 vs,.slice an nn cn,.int .i64 at_,.string snd] 31)).alloc (.cells #[.int .i64 5,.int .i64 0] 34)) (w.heap.size + 1) 0 (.int .i64 5):=by rw [← HS1.out];exact Live.fresh _ _ _ 0 _ rfl
   have z1 : Live ((w.alloc (.cells #[.slice am n cm,.string vt,.int .i64 vs,.slice an nn cn,.int .i64 at_,.string snd] 31)).alloc (.cells #[.int .i64 5,.int .i64 0] 34)) (w.heap.size + 1) 1 (.int .i64 0):=by rw [← HS1.out];exact Live.fresh _ _ _ 1 _ rfl
   clear hW
   go_enter Tryz.func132,Tryz.ntmps132
   go_wp2_with fail
   obtain ⟨q0,q0'⟩:=z0
   obtain ⟨q1,q1'⟩:=z1
   refine bodyPost_ret (v:=.agg #[.int .i64 5,.int .i64 0]) (by simp [results,Tryz.results132,go_sem,q0,q1,q0',q1']) rfl ?_
   refine ⟨?_,bal (bal (Below.refl _ _) _) _⟩
   rw [hC.out]
 · have c0:=C0.out
   have hzb : ((n : Int) == 0) = false:=by rw [beq_eq_false_iff_ne];omega
   have hC : Hid (G ms 0 false = C):=Lib.hid (by rw [HCC.out,if_neg hz])
   clear hz
   go_enter Tryz.func132,Tryz.ntmps132
   go_wp2_with fail
   rw [← hW]
   clear hW
   go_wp2_with fail
   go_loopw [3,15] (fun nv iv wr=>∃ (k : Nat) (nt : Bool),iv = .int .i64 (k : Int) ∧ nv = .bool nt ∧ k ≤ n ∧ Hid (G (ms.drop k) k nt = C) ∧ Below W.heap.size W wr) (fun _ iv _=>n - (intOf iv).toNat)
   case atStart=>exact ⟨0,false,rfl,rfl,Nat.zero_le _,Lib.hid (by rw [List.drop_zero];exact hC.out),Below.refl _ _⟩
   case round=>
    obtain ⟨k,nt,rfl,rfl,hk,hA,hbel⟩:=hrel
    clear c0 hzb hC
    by_cases hlt : k < n
    · obtain ⟨x,hx⟩:=at_some ms k (by rw [← HN.out];exact hlt)
      obtain ⟨g,o,rfl,d0,d1⟩:=mt_at HC.out k x hx
      have d0:=kc hbel (kc HBW.out d0)
      have d1:=kc hbel (kc HBW.out d1)
      have b1:=O3.out x (List.mem_of_getElem? hx)
      obtain ⟨hx1,hx2⟩:=List.getElem?_eq_some_iff.1 hx
      have hA2:=hA.out
      rw [List.drop_eq_getElem_cons hx1,hx2,HG1.out] at hA2
      have kt:=fun w=>KS.out k x nt w
      have hba:=bal hbel (.cells #[.int .u8 x.kind,.string x.body] 102)
      obtain ⟨f0,_⟩:=(Live.fresh wr #[.int .u8 x.kind,.string x.body] 102 0 _ rfl)
      obtain ⟨f1,_⟩:=(Live.fresh wr #[.int .u8 x.kind,.string x.body] 102 1 _ rfl)
      obtain ⟨qa,qa'⟩:=M0.out.keep hba
      obtain ⟨qb,qb'⟩:=M1.out.keep hba
      have HBA:=Lib.hid hba
      clear hba
      clear hA hx1 hx2 hx
      by_cases c1z : 4096 ≤ k
      · rw [if_pos c1z] at hA2
        have c1y : (k : Int) ≥ 4096:=by omega
        have HA2:=Lib.hid hA2
        clear hA2
        go_wp2_with fail
        refine bodyPost_ret (v:=.agg #[.int .i64 4,.int .i64 (k : Int)]) (by simp [results,Tryz.results132,go_sem,qa,qb,qa',qb']) rfl ?_
        refine ⟨?_,FIN.out _ HBA.out _ _⟩
        rw [← HA2.out]
      · rw [if_neg c1z] at hA2
        have c1y : ¬ (k : Int) ≥ 4096:=by omega
        cases hst : standM k x nt with
        | false=>
         rw [hst] at kt hA2
         rw [if_pos rfl] at hA2
         have KT:=Lib.hid kt
         have HA2:=Lib.hid hA2
         clear kt hA2
         clear hst
         go_wp2_with (go_at_call 39;refine (KT.out _).mono ?_;rintro e w2 ⟨rfl,hb2⟩;have hb2:=bt HBA.out hb2;obtain ⟨qa,qa'⟩:=M0.out.keep hb2;obtain ⟨qb,qb'⟩:=M1.out.keep hb2)
         refine bodyPost_ret (v:=.agg #[.int .i64 5,.int .i64 (k : Int)]) (by simp [results,Tryz.results132,go_sem,qa,qb,qa',qb']) rfl ?_
         refine ⟨?_,FIN.out _ hb2 _ _⟩
         rw [← HA2.out]
        | true=>
         rw [hst] at kt hA2
         rw [if_neg (by decide)] at hA2
         by_cases h4 : x.kind = 4
         · rw [if_neg (by simpa using h4)] at hA2
           have d4 : ((x.kind : Int) != 4) = false:=by rw [bne_eq_false_iff_eq];omega
           by_cases h5 : x.body.size = 0
           · have he:=txt_e h5
             by_cases h6 : at_ = k
             · rw [if_neg (by rw [not_or];exact ⟨by simpa using h5,by simpa using h6⟩)] at hA2
               have d6 : (at_ != (k : Int)) = false:=by rw [bne_eq_false_iff_eq];exact h6
               have kb:=fun w=>bad_any xe xa w
               by_cases h7 : xe = 0
               · rw [if_neg (by simpa using h7)] at hA2
                 have d7 : (!decide (xe = 0)) = false:=by simpa using h7
                 rw [d7] at kb
                 have KT:=Lib.hid kt
                 have KB:=Lib.hid kb
                 have HA2:=Lib.hid hA2
                 clear kt kb hA2
                 clear hst h4 h5 h6 h7 d7
                 go_wp2_with (first
                  | (go_at_call 39;refine (KT.out _).mono ?_;rintro e w2 ⟨rfl,hb2⟩;have hbx:=bt HBA.out hb2;have f0:=kc hb2 f0;have f1:=kc hb2 f1;have e1:=kc hbx C1.out;have e2:=kc hbx C2.out;have e3:=kc hbx C3.out;have e4:=kc hbx C4.out)
                  | (go_at_call 71;have hh : Below w.heap.size w w2:=HBW.out.trans (hbx.mono HBW.out.size);with_reducible refine (HCK.out _ hh).mono ?_;rintro e w3 ⟨rfl,hb3⟩;have hby:=bal (bt hbx hb3) (.cells #[.int .i64 xe,.int .i64 xa] 34))
                  | (go_at_call 16;refine (KB.out _).mono ?_;rintro e w4 ⟨rfl,hb4⟩;have hbz:=bt hby hb4))
                 go_roundw
                 case rel=>exact ⟨k + 1,true,by go_num,rfl,by omega,HA2,hbz⟩
                 case measure=>simp [intOf];omega
               · rw [if_pos h7] at hA2
                 have d7 : (!decide (xe = 0)) = true:=by simpa using h7
                 rw [d7] at kb
                 have KT:=Lib.hid kt
                 have KB:=Lib.hid kb
                 have HA2:=Lib.hid hA2
                 clear kt kb hA2
                 clear hst h4 h5 h6 h7 d7
                 go_wp2_with (first
                  | (go_at_call 39;refine (KT.out _).mono ?_;rintro e w2 ⟨rfl,hb2⟩;have hbx:=bt HBA.out hb2;have f0:=kc hb2 f0;have f1:=kc hb2 f1;have e1:=kc hbx C1.out;have e2:=kc hbx C2.out;have e3:=kc hbx C3.out;have e4:=kc hbx C4.out)
                  | (go_at_call 71;have hh : Below w.heap.size w w2:=HBW.out.trans (hbx.mono HBW.out.size);with_reducible refine (HCK.out _ hh).mono ?_;rintro e w3 ⟨rfl,hb3⟩;have hby:=bal (bt hbx hb3) (.cells #[.int .i64 xe,.int .i64 xa] 34))
                  | (go_at_call 16;refine (KB.out _).mono ?_;rintro e w4 ⟨rfl,hb4⟩;have hbz:=bt hby hb4;obtain ⟨p0,_⟩:=(Live.fresh w3 #[.int .i64 xe,.int .i64 xa] 34 0 _ rfl).keep hb4;obtain ⟨qa,qa'⟩:=M0.out.keep hbz;obtain ⟨qb,qb'⟩:=M1.out.keep hbz))
                 refine bodyPost_ret (v:=.agg #[.int .i64 xe,.int .i64 (k : Int)]) (by simp [results,Tryz.results132,go_sem,qa,qb,qa',qb']) rfl ?_
                 refine ⟨?_,FIN.out _ hbz _ _⟩
                 rw [← HA2.out]
             · rw [if_pos (.inr h6)] at hA2
               have d6 : (at_ != (k : Int)) = true:=by rw [bne_iff_ne];exact h6
               have KT:=Lib.hid kt
               have HA2:=Lib.hid hA2
               clear kt hA2
               clear hst h4 h5 h6
               go_wp2_with (go_at_call 39;refine (KT.out _).mono ?_;rintro e w2 ⟨rfl,hb2⟩;have hbx:=bt HBA.out hb2;have f0:=kc hb2 f0;have f1:=kc hb2 f1;have e4:=kc hbx C4.out;obtain ⟨qa,qa'⟩:=M0.out.keep hbx;obtain ⟨qb,qb'⟩:=M1.out.keep hbx)
               refine bodyPost_ret (v:=.agg #[.int .i64 5,.int .i64 (k : Int)]) (by simp [results,Tryz.results132,go_sem,qa,qb,qa',qb']) rfl ?_
               refine ⟨?_,FIN.out _ hbx _ _⟩
               rw [← HA2.out]
           · have he:=txt_ne h5
             rw [if_pos (.inl h5)] at hA2
             have KT:=Lib.hid kt
             have HA2:=Lib.hid hA2
             clear kt hA2
             clear hst h4 h5
             go_wp2_with (go_at_call 39;refine (KT.out _).mono ?_;rintro e w2 ⟨rfl,hb2⟩;have hbx:=bt HBA.out hb2;have f0:=kc hb2 f0;have f1:=kc hb2 f1;have e4:=kc hbx C4.out;obtain ⟨qa,qa'⟩:=M0.out.keep hbx;obtain ⟨qb,qb'⟩:=M1.out.keep hbx)
             refine bodyPost_ret (v:=.agg #[.int .i64 5,.int .i64 (k : Int)]) (by simp [results,Tryz.results132,go_sem,qa,qb,qa',qb']) rfl ?_
             refine ⟨?_,FIN.out _ hbx _ _⟩
             rw [← HA2.out]
         · rw [if_pos h4] at hA2
           have d4 : ((x.kind : Int) != 4) = true:=by rw [bne_iff_ne];omega
           have KT:=Lib.hid kt
           have HA2:=Lib.hid hA2
           clear kt hA2
           clear hst h4
           go_wp2_with (go_at_call 39;refine (KT.out _).mono ?_;rintro e w2 ⟨rfl,hb2⟩;have hbx:=bt HBA.out hb2;have f0:=kc hb2 f0;have f1:=kc hb2 f1)
           go_roundw
           case rel=>exact ⟨k + 1,nt,by go_num,rfl,by omega,HA2,hbx⟩
           case measure=>simp [intOf];omega
    · have hkn : k = n:=by omega
      subst hkn
      have ha:=hA.out
      rw [List.drop_of_length_le (by rw [← HN.out];exact Nat.le_refl _),HG0.out] at ha
      obtain ⟨q0,q0'⟩:=M0.out.keep hbel
      obtain ⟨q1,q1'⟩:=M1.out.keep hbel
      have e0:=kc hbel C0.out
      have e1:=kc hbel C1.out
      have e3:=kc hbel C3.out
      have e4:=kc hbel C4.out
      clear hA
      cases nt with
      | true=>
       rw [if_neg (by simp)] at ha
       have HA:=Lib.hid ha
       clear ha
       go_wp2_with fail
       refine bodyPost_ret (v:=.agg #[.int .i64 0,.int .i64 0]) (by simp [results,Tryz.results132,go_sem,q0,q1,q0',q1']) rfl ?_
       refine ⟨?_,FIN.out _ hbel _ _⟩
       rw [← HA.out]
      | false=>
       by_cases h1 : 0 ≤ at_
       · rw [if_pos ⟨rfl,.inl h1⟩] at ha
         have h1' : at_ ≥ 0:=h1
         have HA:=Lib.hid ha
         clear ha
         clear h1
         go_wp2_with fail
         refine bodyPost_ret (v:=.agg #[.int .i64 5,.int .i64 (k : Int)]) (by simp [results,Tryz.results132,go_sem,q0,q1,q0',q1']) rfl ?_
         refine ⟨?_,FIN.out _ hbel _ _⟩
         rw [← HA.out]
       · have h1' : ¬ at_ ≥ 0:=h1
         by_cases h2 : 0 < nn
         · rw [if_pos ⟨rfl,.inr (.inl h2)⟩] at ha
           have h2' : (nn : Int) > 0:=by omega
           have HA:=Lib.hid ha
           clear ha
           clear h1 h2
           go_wp2_with fail
           refine bodyPost_ret (v:=.agg #[.int .i64 5,.int .i64 (k : Int)]) (by simp [results,Tryz.results132,go_sem,q0,q1,q0',q1']) rfl ?_
           refine ⟨?_,FIN.out _ hbel _ _⟩
           rw [← HA.out]
         · have h2' : ¬ (nn : Int) > 0:=by omega
           by_cases h3 : vt.size = 0
           · rw [if_neg (by rintro ⟨_,h | h | h⟩;exact h1 h;exact h2 h;exact h h3)] at ha
             have he:=txt_e h3
             have HA:=Lib.hid ha
             clear ha
             clear h1 h2 h3
             go_wp2_with fail
             refine bodyPost_ret (v:=.agg #[.int .i64 0,.int .i64 0]) (by simp [results,Tryz.results132,go_sem,q0,q1,q0',q1']) rfl ?_
             refine ⟨?_,FIN.out _ hbel _ _⟩
             rw [← HA.out]
           · rw [if_pos ⟨rfl,.inr (.inr h3)⟩] at ha
             have he:=txt_ne h3
             have HA:=Lib.hid ha
             clear ha
             clear h1 h2 h3
             go_wp2_with fail
             refine bodyPost_ret (v:=.agg #[.int .i64 5,.int .i64 (k : Int)]) (by simp [results,Tryz.results132,go_sem,q0,q1,q0',q1']) rfl ?_
             refine ⟨?_,FIN.out _ hbel _ _⟩
             rw [← HA.out]
end Go.Proofs.YtmfjmgjhfplijaaGreatDoor
