/- GA -/
import Derived.Test.YtnbglcaeekppjaaGreatDoorMCy
set_option linter.unusedVariables false
set_option linter.unusedSimpArgs false
set_option maxHeartbeats 4000000
namespace Go.Proofs.YtnbglcaeekppjaaGreatDoor
open Go.RowKit
theorem failR_n (x : RS) (e a : Int) : (failR x e a).n = x.n:=by unfold failR;split <;> rfl
theorem take_move (x : RS) (k : Int) (h : (takeR x k).1.e = 0) : (takeR x k).1.n = x.n + (takeR x k).2.size ∧ (takeR x k).2.size = k.toNat ∧ (x.n ≤ x.s.size → (takeR x k).1.n ≤ x.s.size):=by
 unfold takeR at h ⊢
 split at h
 · rename_i h1;exact absurd h h1
 · rename_i h1
   rw [if_neg h1]
   split at h
   · exact absurd h (failR_bad _ _ _ (by decide))
   · rename_i h2
     rw [if_neg h2]
     have hz : (x.s.extract x.n (x.n + k.toNat)).size = k.toNat:=by rw [ByteArray.size_extract];omega
     refine ⟨?_,hz,fun h3=>?_⟩
     · show x.n + k.toNat = x.n + (x.s.extract x.n (x.n + k.toNat)).size
       rw [hz]
     · show x.n + k.toNat ≤ _
       omega
theorem sized_move (x : RS) (h : (sizedR x).1.e = 0) : (sizedR x).1.n = x.n + 4 + (sizedR x).2.1.size ∧ (x.n ≤ x.s.size → (sizedR x).1.n ≤ x.s.size):=by
 unfold sizedR numR at h ⊢
 simp only at h ⊢
 have h0:=takeR_e _ _ h
 obtain ⟨a1,a2,a3⟩:=take_move x 4 h0
 obtain ⟨b1,b2,b3⟩:=take_move (takeR x 4).1 _ h
 rw [takeR_s] at b3
 exact ⟨by rw [b1,a1,a2];rfl,fun h5=>b3 (a3 h5)⟩
section
variable {R : List UInt8 → Int}
theorem leaf_move (x : RS) (t : ByteArray) (a : Int) (h : (leafR R x t a).1.e = 0) : (leafR R x t a).1.n = x.n:=by
 unfold leafR
 split
 · cases decT (tokC (R (bl t))) (bl t) with
   | mk u o=>cases o with
    | none=>rfl
    | some k=>exact failR_n _ _ _
 · exact failR_n _ _ _
theorem note_move (x : RS) (h : (noteR R x).1.e = 0) : x.n + 4 ≤ (noteR R x).1.n ∧ (noteL (noteR R x).2).length ≤ 64 * ((noteR R x).1.n - x.n) ∧ (x.n ≤ x.s.size → (noteR R x).1.n ≤ x.s.size):=by
 unfold noteR at h ⊢
 split at h
 · rename_i h1;exact absurd h h1
 · rename_i h1
   rw [if_neg h1]
   simp only at h ⊢
   split at h
   · exact absurd h (failR_bad _ _ _ (by decide))
   · rename_i h2
     rw [if_neg h2]
     have he : (sizedR x).1.e = 0:=by simpa using h1
     obtain ⟨m1,m2⟩:=sized_move x he
     obtain ⟨g1,g2⟩:=leafR_good _ _ _ h
     have hn:=leaf_move _ _ _ h
     obtain ⟨a1,a2⟩:=ahead_all (bl (sizedR x).2.1)
     rw [not_or] at h2
     have hlt : aheadM (bl (sizedR x).2.1) < (sizedR x).2.1.size:=by
      have h3 : (bl (sizedR x).2.1)[aheadM (bl (sizedR x).2.1)]? = some 61:=by simpa using h2.2
      have:=(List.getElem?_eq_some_iff.1 h3).1
      rwa [bl_length] at this
     simp only
     refine ⟨by rw [hn];omega,?_,fun h5=>by rw [hn];exact m2 h5⟩
     rw [hn,m1]
     unfold noteL sizedL
     simp only [List.length_append,bl_length]
     rw [ByteArray.size_extract] at g2 ⊢
     show 4 + (_ + 1 + _) ≤ _
     omega
theorem notes_move : ∀ (k : Nat) (x : RS) (l : List Nt),(notesR R k x l).1.e = 0 → x.n ≤ x.s.size → x.n ≤ (notesR R k x l).1.n ∧ (notesR R k x l).1.n ≤ x.s.size ∧ ((notesR R k x l).2.flatMap noteL).length ≤ (l.flatMap noteL).length + 64 * ((notesR R k x l).1.n - x.n):=by
 intro k
 induction k with
 | zero=>
  intro x l h hx
  exact ⟨Nat.le_refl _,hx,Nat.le_add_right _ _⟩
 | succ k ih=>
  intro x l h hx
  unfold notesR at h ⊢
  split at h
  · rename_i h1;exact absurd h h1
  · rename_i h1
    rw [if_neg h1]
    have b1:=(notesR_good _ _ _ h).1
    obtain ⟨c1,c2,c3⟩:=note_move x b1
    obtain ⟨d1,d2,d3⟩:=ih _ _ h (by rw [noteR_s];exact c3 hx)
    rw [noteR_s] at d2
    refine ⟨by omega,d2,Nat.le_trans d3 ?_⟩
    rw [List.flatMap_append,List.length_append,List.flatMap_cons,List.flatMap_nil,List.append_nil]
    omega
theorem parse_print (fr : Bool) (x : RS) (b : Bk) (hx : x.n ≤ x.s.size) (h : (parseR R fr x).2 = some b) : (printL fr b).length ≤ 64 * x.s.size + 1:=by
 unfold parseR at h
 split at h
 · cases h
 split at h
 · cases h
 rename_i h0 h1
 simp only at h
 split at h
 · cases h
 rename_i h2
 have h2 : (endR fr (notesR R (countR (leafR R (sizedR x).1 (sizedR x).2.1 (sizedR x).2.2).1).2 (countR (leafR R (sizedR x).1 (sizedR x).2.1 (sizedR x).2.2).1).1 []).1).e = 0:=by simpa using h2
 simp only [Option.some.injEq] at h
 have h3:=endR_e _ _ h2
 have c1:=(notesR_good _ _ _ h3).1
 have hv : (takeR (leafR R (sizedR x).1 (sizedR x).2.1 (sizedR x).2.2).1 4).1.e = 0 ∧ (countR (leafR R (sizedR x).1 (sizedR x).2.1 (sizedR x).2.2).1).1.n = (takeR (leafR R (sizedR x).1 (sizedR x).2.1 (sizedR x).2.2).1 4).1.n ∧ (countR (leafR R (sizedR x).1 (sizedR x).2.1 (sizedR x).2.2).1).1.s = x.s:=by
  unfold countR numR at c1 ⊢
  simp only at c1 ⊢
  split at c1
  · exact absurd c1 (failR_bad _ _ _ (by decide))
  · rename_i h9
    rw [if_neg h9]
    exact ⟨c1,rfl,by rw [takeR_s,leafR_s,sizedR_s]⟩
 obtain ⟨v1,v2,v3⟩:=hv
 have v4:=takeR_e _ _ v1
 obtain ⟨g1,g2⟩:=leafR_good _ _ _ v4
 have m1:=leaf_move _ _ _ v4
 obtain ⟨s1,s2⟩:=sized_move x (by simpa using h1)
 obtain ⟨t1,t2,t3⟩:=take_move _ _ v1
 rw [leafR_s,sizedR_s] at t3
 have hc : (countR (leafR R (sizedR x).1 (sizedR x).2.1 (sizedR x).2.2).1).1.n ≤ (countR (leafR R (sizedR x).1 (sizedR x).2.1 (sizedR x).2.2).1).1.s.size:=by
  rw [v2,v3];exact t3 (by rw [m1];exact s2 hx)
 obtain ⟨n1,n2,n3⟩:=notes_move _ _ [] h3 hc
 rw [v3] at n2
 rw [v2,t1,t2,m1,s1] at n1 n3
 subst h
 unfold printL sizedL
 simp only [List.length_append,bl_length]
 have e1 : (if fr = true then [(1 : UInt8)] else []).length ≤ 1:=by cases fr <;> simp
 simp only [List.flatMap_nil,List.length_nil] at n3
 have e2 : ∀ n,(le4 n).length = 4:=fun n=>rfl
 have e3 : (4 : Int).toNat = 4:=rfl
 rw [e3] at n1 n3
 rw [e2,e2]
 omega
end
structure Mt where
 kind : Nat
 body : ByteArray
structure Fl where
 ms : List Mt
 b : Bk
 at_ : Int
 sound : ByteArray
def noBk : Bk:=⟨⟨#[]⟩,0,[]⟩
def beN (l : List UInt8) : Nat:=l.foldl (fun n b=>n * 256 + b.toNat) 0
theorem beN_snoc (l : List UInt8) (b : UInt8) : beN (l ++ [b]) = beN l * 256 + b.toNat:=by unfold beN;rw [List.foldl_append];rfl
def bigR (x : RS) (k : Nat) : RS × Nat:=((takeR x k).1,beN (bl (takeR x k).2))
end Go.Proofs.YtnbglcaeekppjaaGreatDoor
namespace Go.Proofs.YtnbglcaeekppjaaGreatDoor
open Go.ChangeShapes Go.WideShapes Go.ChangeAt Go.RowKit Go.ChangeMaps
def mtcells (l : List Mt) : List Value:=l.flatMap fun m=>[.int .u8 m.kind,.string m.body]
theorem mtcells_append (l m : List Mt) : mtcells (l ++ m) = mtcells l ++ mtcells m:=by simp [mtcells]
end Go.Proofs.YtnbglcaeekppjaaGreatDoor
namespace Go.Proofs.YtnbglcaeekppjaaGreatDoor
open Go.RowKit
theorem beF_lt : ∀ (l : List UInt8) (n : Nat),l.foldl (fun n b=>n * 256 + b.toNat) n < (n + 1) * 256 ^ l.length:=by
 intro l
 induction l with
 | nil=>intro n;simp
 | cons a l ih=>
  intro n
  have h1:=ih (n * 256 + a.toNat)
  have h2:=a.toNat_lt
  rw [List.foldl_cons,List.length_cons,Nat.pow_succ,Nat.mul_comm (256 ^ l.length) 256,← Nat.mul_assoc]
  exact Nat.lt_of_lt_of_le h1 (Nat.mul_le_mul_right _ (by omega))
theorem beN_lt (l : List UInt8) : beN l < 256 ^ l.length:=by
 have:=beF_lt l 0
 simpa [beN] using this
theorem beN_step (l : List UInt8) (j : Nat) (c : UInt8) (h : l[j]? = some c) : beN (l.take (j + 1)) = beN (l.take j) * 256 + c.toNat:=by
 obtain ⟨h1,h2⟩:=List.getElem?_eq_some_iff.1 h
 rw [List.take_succ_eq_append_getElem h1,h2,beN_snoc]
theorem inx_big (w : World) (r : Nat) (x : RS) (k : Nat) (h : InX w r x) (hk : okR x) (h1 : k ≤ 3) :
 Calls Tryz.prog 88 #[.pointer (some ⟨r,0,none⟩),.int .i64 k] w fun v w'=>v = .returned (.int .u64 ((bigR x k).2 : Int)) ∧ InX w' r (bigR x k).1 ∧ w.grownBy w' (some r):=by
 have k1 : ∀ w,Calls Tryz.prog 107 #[.int .i64 k] w fun e w'=>e = .returned (.int .i64 k) ∧ w = w':=fun w=>by
  have:=width_any k w
  rw [show widthOf (k : Int) = k from by unfold widthOf;omega] at this
  exact this
 have k2:=fun w h=>inx_take w r x k h hk (by omega) (by omega)
 have hsz : (takeR x k).2.size ≤ 3:=Nat.le_trans (takeR_size x k) h1
 unfold bigR
 generalize takeR x k = y at *
 obtain ⟨y,t⟩:=y
 simp only at k2 hsz ⊢
 have HL : Hid ((bl t).length = t.size):=bl_length t
 have K1:=Lib.hid k1
 have K2:=Lib.hid k2
 clear k1 k2
 go_enter Tryz.func88,Tryz.ntmps88
 go_wp2_with (first
  | (go_at_call 107;refine (K1.out _).mono ?_;rintro x w1 ⟨rfl,rfl⟩)
  | (go_at_call 89;refine (K2.out _ h).mono ?_;rintro x w2 ⟨rfl,hi,hg⟩))
 go_loop [6,7] (fun n i=>∃ j : Nat,i = .int .i64 (j : Int) ∧ n = .int .u64 (beN ((bl t).take j) : Int) ∧ j ≤ t.size) (fun _ i=>t.size - (intOf i).toNat)
 case atStart=>exact ⟨0,rfl,rfl,Nat.zero_le _⟩
 case round=>
  obtain ⟨j,rfl,rfl,hjt⟩:=hrel
  by_cases hlt : j < t.size
  · obtain ⟨c,hc⟩:=at_some (bl t) j (by rw [HL.out];exact hlt)
    have C : ∀ h,t[j]'h = c:=atB_of t j c hc
    have hst:=beN_step (bl t) j c hc
    have hb:=beN_lt ((bl t).take j)
    have hcl:=c.toNat_lt
    have hb2 : beN ((bl t).take j) < 65536:=by
     refine Nat.lt_of_lt_of_le hb ?_
     have : ((bl t).take j).length ≤ 2:=by rw [List.length_take];omega
     exact Nat.le_trans (Nat.pow_le_pow_right (by decide) this) (by decide)
    clear hb hc
    generalize beN ((bl t).take j) = q at *
    have HST:=Lib.hid hst
    clear hst
    have hor : bits .or .u64 ((q : Int) * 256) (c.toNat : Int) = (q : Int) * 256 + c.toNat:=u64_or8 _ _ (by omega) (by omega) (by omega) (by omega) (by omega) (by omega)
    go_wp2_with fail
    exact ⟨⟨j + 1,by go_num,by rw [HST.out];congr 1,by omega⟩,by simp [intOf];omega⟩
  · have hjn : j = t.size:=by omega
    have hall : (bl t).take j = bl t:=List.take_of_length_le (by rw [HL.out];omega)
    rw [hall]
    clear hjn hall
    go_wp2
    go_ret
    exact ⟨rfl,hi,hg⟩
structure PG where
 fl : UInt8
 po : Nat
 se : Nat
 nu : Nat
 la : ByteArray
 bo : ByteArray
def totL (l : List UInt8) : Nat:=(l.map UInt8.toNat).sum
theorem totL_append (a b : List UInt8) : totL (a ++ b) = totL a + totL b:=by simp [totL]
theorem totL_cons (c : UInt8) (l : List UInt8) : totL (c :: l) = c.toNat + totL l:=by simp [totL]
def gcheckM (p : PG) : Int:=if 255 < p.la.size then 4 else if p.bo.size ≠ totL (bl p.la) then 5 else 0
theorem leN_leL : ∀ (k : Nat) (n : Nat),n < 256 ^ k → leN (leL n k) = n:=by
 intro k
 induction k with
 | zero=>intro n h;simp at h;subst h;rfl
 | succ k ih=>
  intro n h
  rw [leL,leN]
  have e1 : ((n : Int) % 256).toNat = n % 256:=by omega
  have e2 : (n : Int) / 256 = ((n / 256 : Nat) : Int):=by omega
  rw [e1,e2,ih (n / 256) (by rw [Nat.pow_succ] at h;omega),UInt8.toNat_ofNat']
  omega
theorem leL_len (n : Int) : ∀ k,(leL n k).length = k:=by
 intro k
 induction k generalizing n with
 | zero=>rfl
 | succ k ih=>rw [leL,List.length_cons,ih]
def gpartsL (p : PG) (four : List UInt8) : List UInt8:=[79,103,103,83] ++ [0] ++ [p.fl] ++ leL p.po 8 ++ leL p.se 4 ++ leL p.nu 4 ++ four ++ [UInt8.ofNat p.la.size] ++ bl p.la ++ bl p.bo
section
variable (crc : List UInt8 → Nat)
def gsumM (p : PG) : Nat:=crc (gpartsL p [0,0,0,0])
def gprintL (p : PG) : List UInt8:=gpartsL p (leL (gsumM crc p) 4)
def smallR (x : RS) (k : Nat) : RS × Nat:=((takeR x k).1,leN (bl (takeR x k).2))
def oggS : ByteArray:=⟨#[79,103,103,83]⟩
def zeroB : ByteArray:=⟨#[0]⟩
def gheadR (x : RS) : RS × PG × Nat × Int:=
 let f:=bigR (wantR (wantR x oggS).1 zeroB).1 1
 let po:=smallR f.1 8
 let se:=smallR po.1 4
 let nu:=smallR se.1 4
 let four:=smallR nu.1 4
 let n:=bigR four.1 1
 let la:=takeR n.1 n.2
 let bo:=takeR la.1 (totL (bl la.2))
 (bo.1,⟨UInt8.ofNat f.2,po.2,se.2,nu.2,la.2,bo.2⟩,four.2,(nu.1.b : Int) + nu.1.n)
def gparR (x : RS) : RS × Option PG:=
 if x.e ≠ 0 ∨ leftR x = 0 then (x,none) else
 if (gheadR x).1.e ≠ 0 then ((gheadR x).1,none) else
 if gsumM crc (gheadR x).2.1 ≠ (gheadR x).2.2.1 then (failR (gheadR x).1 1 (gheadR x).2.2.2,none) else ((gheadR x).1,some (gheadR x).2.1)
def gG (p : PG) : Prop:=p.la.size ≤ 255 ∧ p.bo.size = totL (bl p.la) ∧ p.po < 18446744073709551616 ∧ p.se < 4294967296 ∧ p.nu < 4294967296
theorem gcheck_iff (p : PG) : gcheckM p = 0 ↔ p.la.size ≤ 255 ∧ p.bo.size = totL (bl p.la):=by
 unfold gcheckM
 split
 · exact ⟨fun h=>absurd h (by decide),fun h=>by omega⟩
 · split
   · next h=>exact ⟨fun h=>absurd h (by decide),fun h'=>absurd h'.2 h⟩
   · next h=>exact ⟨fun _=>⟨by omega,by simpa using h⟩,fun _=>rfl⟩
theorem gparts_len (p : PG) (four : List UInt8) (h : four.length = 4) : (gpartsL p four).length = 27 + p.la.size + p.bo.size:=by
 unfold gpartsL
 simp only [List.length_append,List.length_cons,List.length_nil,leL_len,h,bl_length]
theorem gprint_len (p : PG) : (gprintL crc p).length = 27 + p.la.size + p.bo.size:=gparts_len p _ (leL_len _ _)
theorem Rest.small {x : RS} {n k : Nat} {q : List UInt8} (hn : n < 256 ^ k) (h : Rest x (leL n k ++ q)) : Rest (adv x k) q ∧ smallR x k = (adv x k,n):=by
 have h1:=h.step
 rw [leL_len] at h1
 refine ⟨h1.1,?_⟩
 unfold smallR
 rw [h1.2]
 show (adv x k,leN (leL n k)) = _
 rw [leN_leL k n hn]
theorem Rest.want {x : RS} {p q : List UInt8} (h : Rest x (p ++ q)) : Rest (adv x p.length) q ∧ (wantR x ⟨p.toArray⟩).1 = adv x p.length:=by
 obtain ⟨h1,h2⟩:=h.step
 refine ⟨h1,?_⟩
 obtain ⟨g0,g1,g2⟩:=h
 have hl:=congrArg List.length g2
 simp only [List.length_drop,bl_length,List.length_append] at hl
 have hfd : ∀ (a b : List UInt8) (i : Nat),firstDiff a (a ++ b) i = none:=by
  intro a
  induction a with
  | nil=>intro b i;cases b <;> rfl
  | cons c r ih=>intro b i;rw [List.cons_append,firstDiff,if_pos rfl];exact ih b (i + 1)
 have hb : bl (⟨p.toArray⟩ : ByteArray) = p:=by simp [bl]
 unfold wantR
 rw [if_neg (by simpa using g0),g2,hb,hfd]
 simp only
 have hs : (⟨p.toArray⟩ : ByteArray).size = p.length:=by rw [← bl_length,hb]
 rw [if_neg (by rw [hs];omega),hs]
 rfl
theorem Rest.big1 {x : RS} {n : Nat} {q : List UInt8} (hn : n < 256) (h : Rest x ([UInt8.ofNat n] ++ q)) : Rest (adv x 1) q ∧ bigR x 1 = (adv x 1,n):=by
 have h1:=h.step
 refine ⟨h1.1,?_⟩
 unfold bigR
 have h2 : takeR x ((1 : Nat) : Int) = _:=h1.2
 rw [h2]
 show (adv x 1,beN [UInt8.ofNat n]) = _
 have : beN [UInt8.ofNat n] = n:=by
  show 0 * 256 + (UInt8.ofNat n).toNat = n
  rw [UInt8.toNat_ofNat']
  omega
 rw [this]
theorem ghead_back {x : RS} (p : PG) (s : Nat) (hs : s < 4294967296) (hg : gG p) {q : List UInt8} (h : Rest x (gpartsL p (leL s 4) ++ q)) :
 Rest (adv x (27 + p.la.size + p.bo.size)) q ∧ (gheadR x).1 = adv x (27 + p.la.size + p.bo.size) ∧ (gheadR x).2.1 = p ∧ (gheadR x).2.2.1 = s:=by
 obtain ⟨g1,g2,g3,g4,g5⟩:=hg
 unfold gpartsL at h
 simp only [List.append_assoc] at h
 obtain ⟨h1,e1⟩:=h.want
 obtain ⟨h2,e2⟩:=h1.want
 have hf : ([p.fl] : List UInt8) = [UInt8.ofNat p.fl.toNat]:=by rw [UInt8.ofNat_toNat]
 rw [hf] at h2
 obtain ⟨h3,e3⟩:=h2.big1 p.fl.toNat_lt
 obtain ⟨h4,e4⟩:=h3.small (k:=8) (by omega)
 obtain ⟨h5,e5⟩:=h4.small (k:=4) (by omega)
 obtain ⟨h6,e6⟩:=h5.small (k:=4) (by omega)
 obtain ⟨h7,e7⟩:=h6.small (k:=4) (by omega)
 obtain ⟨h8,e8⟩:=h7.big1 (by omega)
 obtain ⟨h9,e9⟩:=h8.step
 obtain ⟨h10,e10⟩:=h9.step
 simp only [bl_length] at e9 e10
 have w1 : (wantR x oggS).1 = _:=e1
 have w2 : (wantR _ zeroB).1 = _:=e2
 have m1 : (⟨(bl p.la).toArray⟩ : ByteArray) = p.la:=mk_list p.la
 have m2 : (⟨(bl p.bo).toArray⟩ : ByteArray) = p.bo:=mk_list p.bo
 rw [m1] at e9
 rw [m2] at e10
 unfold gheadR
 simp only
 rw [w1,w2,e3]
 simp only
 rw [e4]
 simp only
 rw [e5]
 simp only
 rw [e6]
 simp only
 rw [e7]
 simp only
 rw [e8]
 simp only
 rw [e9]
 simp only
 rw [← g2,e10]
 simp only
 simp only [adv_adv,List.length_cons,List.length_nil,bl_length] at h10 ⊢
 have e : 0 + 1 + 1 + 1 + 1 + (0 + 1) + 1 + 8 + 4 + 4 + 4 + 1 + p.la.size + p.bo.size = 27 + p.la.size + p.bo.size:=by omega
 rw [e] at h10 ⊢
 refine ⟨h10,?_,?_,?_⟩ <;> simp
theorem gpar_back (hc : ∀ l,crc l < 4294967296) {x : RS} (p : PG) (hg : gG p) {q : List UInt8} (h : Rest x (gprintL crc p ++ q)) :
 Rest (adv x (gprintL crc p).length) q ∧ gparR crc x = (adv x (gprintL crc p).length,some p):=by
 rw [gprint_len]
 have hl:=h.left
 rw [List.length_append,gprint_len] at hl
 have h0:=h.1
 obtain ⟨a1,a2,a3,a4⟩:=ghead_back p (gsumM crc p) (hc _) hg h
 refine ⟨a1,?_⟩
 unfold gparR
 rw [if_neg (by rintro (h | h) <;> omega),a2,a3,a4,if_neg (by simpa using a1.1),if_neg (by simp)]
theorem takeR_big (x : RS) (k : Nat) (h : (takeR x k).1.e = 0) : x.e = 0 ∧ (takeR x k).1 = adv x k ∧ (takeR x k).2 = x.s.extract x.n (x.n + k) ∧ x.n + k ≤ x.s.size ∨ x.s.size < x.n:=by
 have he:=takeR_e x k h
 unfold takeR at h ⊢
 rw [if_neg (by simpa using he)] at h ⊢
 split
 · next c=>rw [if_pos c] at h;exact absurd h (failR_bad _ _ _ (by decide))
 · next c=>
   by_cases hn : x.s.size < x.n
   · exact .inr hn
   · refine .inl ⟨he,rfl,rfl,by omega⟩
theorem take_adv (x : RS) (k : Nat) (hx : x.n ≤ x.s.size) (h : (takeR x k).1.e = 0) : x.e = 0 ∧ (takeR x k).1 = adv x k ∧ (takeR x k).2.size = k ∧ x.n + k ≤ x.s.size:=by
 rcases takeR_big x k h with ⟨a,b,c,d⟩ | h
 · exact ⟨a,b,by rw [c,ByteArray.size_extract];omega,d⟩
 · omega
theorem want_adv (x : RS) (t : ByteArray) (hx : x.n ≤ x.s.size) (h : (wantR x t).1.e = 0) : x.e = 0 ∧ (wantR x t).1 = adv x t.size ∧ x.n + t.size ≤ x.s.size:=by
 unfold wantR at h ⊢
 split
 · next c=>rw [if_pos c] at h;exact absurd h c
 · next c=>
   rw [if_neg c] at h
   cases hf : firstDiff (bl t) ((bl x.s).drop x.n) 0 with
   | some i=>rw [hf] at h;exact absurd h (failR_bad _ _ _ (by decide))
   | none=>
    rw [hf] at h
    simp only at h ⊢
    split
    · next d=>rw [if_pos d] at h;exact absurd h (failR_bad _ _ _ (by decide))
    · next d=>exact ⟨by simpa using c,rfl,by omega⟩
theorem small_lt (x : RS) (k : Nat) (h : (takeR x k).2.size ≤ k) : (smallR x k).2 < 256 ^ k:=by
 unfold smallR
 have:=leN_lt (bl (takeR x k).2)
 rw [bl_length] at this
 exact Nat.lt_of_lt_of_le this (Nat.pow_le_pow_right (by decide) h)
theorem takeR_sz (x : RS) (k : Nat) : (takeR x k).2.size ≤ k:=by
 unfold takeR
 split
 · exact Nat.zero_le _
 · split
   · exact Nat.zero_le _
   · show (x.s.extract _ _).size ≤ _
     rw [ByteArray.size_extract]
     omega
theorem big1_lt (x : RS) : (bigR x 1).2 < 256:=by
 unfold bigR
 have h:=takeR_sz x 1
 have h2 : (bl (takeR x ((1 : Nat) : Int)).2).length ≤ 1:=by rw [bl_length];exact h
 match hb : bl (takeR x ((1 : Nat) : Int)).2,h2 with
 | [],_=>show beN [] < 256;decide
 | [b],_=>
  show 0 * 256 + b.toNat < 256
  have:=b.toNat_lt
  omega
def nle (x : RS) : Prop:=x.n ≤ x.s.size
theorem nle_fail {x : RS} (h : nle x) (e a : Int) : nle (failR x e a):=by unfold failR;split <;> exact h
theorem nle_take {x : RS} (h : nle x) (k : Int) : nle (takeR x k).1:=by
 unfold takeR
 split
 · exact h
 · split
   · exact nle_fail h _ _
   · unfold nle at h ⊢;simp only;omega
theorem nle_want {x : RS} (h : nle x) (t : ByteArray) : nle (wantR x t).1:=by
 unfold wantR
 split
 · exact h
 · split
   · exact nle_fail h _ _
   · split
     · exact nle_fail h _ _
     · unfold nle at h ⊢;simp only;omega
theorem ghead_move (x : RS) (hx : x.n ≤ x.s.size) (h : (gheadR x).1.e = 0) :
    gG (gheadR x).2.1 ∧ (gheadR x).1 = adv x (27 + (gheadR x).2.1.la.size + (gheadR x).2.1.bo.size) ∧ (gheadR x).1.n ≤ x.s.size := by
  unfold gheadR at h ⊢
  simp only at h ⊢
  have n1 := nle_want (x := x) hx oggS
  generalize hw1 : (wantR x oggS).1 = w1 at *
  have n2 := nle_want n1 zeroB
  generalize hw2 : (wantR w1 zeroB).1 = w2 at *
  have n3 : nle (bigR w2 1).1 := nle_take n2 _
  have l3 := big1_lt w2
  generalize hf : bigR w2 1 = f at *
  have n4 : nle (smallR f.1 8).1 := nle_take n3 _
  have l4 := small_lt f.1 8 (takeR_sz _ _)
  generalize hpo : smallR f.1 8 = po at *
  have n5 : nle (smallR po.1 4).1 := nle_take n4 _
  have l5 := small_lt po.1 4 (takeR_sz _ _)
  generalize hse : smallR po.1 4 = se at *
  have n6 : nle (smallR se.1 4).1 := nle_take n5 _
  have l6 := small_lt se.1 4 (takeR_sz _ _)
  generalize hnu : smallR se.1 4 = nu at *
  have n7 : nle (smallR nu.1 4).1 := nle_take n6 _
  generalize hfo : smallR nu.1 4 = fo at *
  have n8 : nle (bigR fo.1 1).1 := nle_take n7 _
  have l8 := big1_lt fo.1
  generalize hn : bigR fo.1 1 = n at *
  have n9 : nle (takeR n.1 n.2).1 := nle_take n8 _
  generalize hla : takeR n.1 n.2 = la at *
  generalize hbo : takeR la.1 (totL (bl la.2)) = bo at *
  obtain ⟨e9, a10, s10, z10⟩ := take_adv la.1 (totL (bl la.2)) n9 (by rw [hbo]; exact h)
  obtain ⟨e8, a9, s9, z9⟩ := take_adv n.1 n.2 n8 (by rw [hla]; exact e9)
  obtain ⟨e7, a8, _, z8⟩ := take_adv fo.1 1 n7 (by have : (takeR fo.1 ((1 : Nat) : Int)).1 = n.1 := by rw [← hn]; rfl
                                                   rw [this]; exact e8)
  obtain ⟨e6, a7, _, z7⟩ := take_adv nu.1 4 n6 (by have : (takeR nu.1 ((4 : Nat) : Int)).1 = fo.1 := by rw [← hfo]; rfl
                                                   rw [this]; exact e7)
  obtain ⟨e5, a6, _, z6⟩ := take_adv se.1 4 n5 (by have : (takeR se.1 ((4 : Nat) : Int)).1 = nu.1 := by rw [← hnu]; rfl
                                                   rw [this]; exact e6)
  obtain ⟨e4, a5, _, z5⟩ := take_adv po.1 4 n4 (by have : (takeR po.1 ((4 : Nat) : Int)).1 = se.1 := by rw [← hse]; rfl
                                                   rw [this]; exact e5)
  obtain ⟨e3, a4, _, z4⟩ := take_adv f.1 8 n3 (by have : (takeR f.1 ((8 : Nat) : Int)).1 = po.1 := by rw [← hpo]; rfl
                                                  rw [this]; exact e4)
  obtain ⟨e2, a3, _, z3⟩ := take_adv w2 1 n2 (by have : (takeR w2 ((1 : Nat) : Int)).1 = f.1 := by rw [← hf]; rfl
                                                 rw [this]; exact e3)
  obtain ⟨e1, a2, z2⟩ := want_adv w1 zeroB n1 (by rw [hw2]; exact e2)
  obtain ⟨e0, a1, z1⟩ := want_adv x oggS hx (by rw [hw1]; exact e1)
  have b1 : w1 = adv x 4 := by rw [← hw1, a1]; rfl
  have b2 : w2 = adv x 5 := by rw [← hw2, a2, b1]; rfl
  have b3 : f.1 = adv x 6 := by rw [← hf]; show (takeR w2 ((1 : Nat) : Int)).1 = _; rw [a3, b2]; rfl
  have b4 : po.1 = adv x 14 := by rw [← hpo]; show (takeR f.1 ((8 : Nat) : Int)).1 = _; rw [a4, b3]; rfl
  have b5 : se.1 = adv x 18 := by rw [← hse]; show (takeR po.1 ((4 : Nat) : Int)).1 = _; rw [a5, b4]; rfl
  have b6 : nu.1 = adv x 22 := by rw [← hnu]; show (takeR se.1 ((4 : Nat) : Int)).1 = _; rw [a6, b5]; rfl
  have b7 : fo.1 = adv x 26 := by rw [← hfo]; show (takeR nu.1 ((4 : Nat) : Int)).1 = _; rw [a7, b6]; rfl
  have b8 : n.1 = adv x 27 := by rw [← hn]; show (takeR fo.1 ((1 : Nat) : Int)).1 = _; rw [a8, b7]; rfl
  rw [hla] at a9 s9
  rw [hbo] at a10 s10
  have b9 : la.1 = adv x (27 + la.2.size) := by rw [a9, b8, adv_adv, s9]
  have b10 : bo.1 = adv x (27 + la.2.size + bo.2.size) := by rw [a10, b9, adv_adv, s10]
  refine ⟨⟨by simp only; omega, by simp only; exact s10, by simp only; omega, by simp only; omega, by simp only; omega⟩, b10, ?_⟩
  rw [a10]
  show la.1.n + totL (bl la.2) ≤ _
  rw [b9] at z10 ⊢
  exact z10
theorem gpar_good (x y : RS) (p : PG) (hx : x.n ≤ x.s.size) (h : gparR crc x = (y,some p)) : gG p ∧ y = adv x (27 + p.la.size + p.bo.size) ∧ y.n ≤ x.s.size ∧ y.e = 0:=by
 unfold gparR at h
 split at h
 · simp at h
 · split at h
   · simp at h
   · next he=>
     split at h
     · simp at h
     · simp only [Prod.mk.injEq,Option.some.injEq] at h
       obtain ⟨rfl,rfl⟩:=h
       have he : (gheadR x).1.e = 0:=by simpa using he
       obtain ⟨a,b,c⟩:=ghead_move x hx he
       exact ⟨a,b,c,he⟩
end
section
variable (crc : List UInt8 → Nat)
def pagesF : Nat → RS → List PG → List Nat → (List PG × List Nat) × RS
 | 0,x,l,a=>((l,a),x)
 | f + 1,x,l,a=>match gparR crc x with
  | (y,none)=>((l,a),y)
  | (y,some p)=>if l.length = 1048576 then ((l,a),failR y 4 ((x.b : Int) + x.n)) else pagesF f y (l ++ [p]) (a ++ [x.b + x.n])
def pagesM (s : ByteArray) : (List PG × List Nat) × Int × Int:=
 if (pagesF crc (s.size + 1) ⟨s,0,0,0,0⟩ [] []).2.e ≠ 0 then (([],[]),(pagesF crc (s.size + 1) ⟨s,0,0,0,0⟩ [] []).2.e,(pagesF crc (s.size + 1) ⟨s,0,0,0,0⟩ [] []).2.a)
 else ((pagesF crc (s.size + 1) ⟨s,0,0,0,0⟩ [] []).1,0,0)
def placesL : Nat → List PG → List Nat
 | _,[]=>[]
 | n,p :: r=>n :: placesL (n + (gprintL crc p).length) r
theorem pages_back (hc : ∀ l,crc l < 4294967296) : ∀ (l : List PG) (f : Nat) (x : RS) (acc : List PG) (pl : List Nat),(∀ p ∈ l,gG p) → l.length < f → acc.length + l.length ≤ 1048576 → Rest x (l.flatMap (gprintL crc)) →
 pagesF crc f x acc pl = ((acc ++ l,pl ++ placesL crc (x.b + x.n) l),adv x (l.flatMap (gprintL crc)).length)
 | [],f,x,acc,pl,_,hf,_,h=>by
  obtain ⟨f,rfl⟩ : ∃ g,f = g + 1:=⟨f - 1,by simp at hf;omega⟩
  have hl:=h.left
  have hg : gparR crc x = (x,none):=by unfold gparR;rw [if_pos (.inr (by simpa using hl))]
  rw [pagesF,hg]
  simp [placesL,adv]
 | p :: r,f,x,acc,pl,hp,hf,ha,h=>by
  rw [List.length_cons] at hf ha
  obtain ⟨f,rfl⟩ : ∃ g,f = g + 1:=⟨f - 1,by omega⟩
  rw [List.flatMap_cons] at h
  obtain ⟨h1,h2⟩:=gpar_back crc hc p (hp p (by simp)) h
  rw [pagesF,h2]
  simp only
  rw [if_neg (by omega),pages_back hc r f _ _ _ (fun q hq=>hp q (by simp [hq])) (by omega) (by rw [List.length_append,List.length_cons,List.length_nil];omega) h1]
  rw [List.flatMap_cons,List.length_append,adv_adv]
  simp only [placesL,adv,List.append_assoc,List.cons_append,List.nil_append,Nat.add_assoc]
def gsz (p : PG) : Nat:=27 + p.la.size + p.bo.size
theorem pages_good : ∀ (f : Nat) (x : RS) (acc : List PG) (pl : List Nat),x.n ≤ x.s.size → x.b = 0 → (∀ p ∈ acc,gG p) → (acc.map gsz).sum = x.n → pl.length = acc.length → acc.length ≤ 1048576 → (pagesF crc f x acc pl).2.e = 0 →
 (∀ p ∈ (pagesF crc f x acc pl).1.1,gG p) ∧ ((pagesF crc f x acc pl).1.1.map gsz).sum ≤ x.s.size ∧ (pagesF crc f x acc pl).1.2.length = (pagesF crc f x acc pl).1.1.length ∧ (pagesF crc f x acc pl).1.1.length ≤ 1048576:=by
 intro f
 induction f with
 | zero=>intro x acc pl hx hb hg hs hp hn _;rw [pagesF];exact ⟨hg,by simp only;omega,hp,hn⟩
 | succ f ih=>
  intro x acc pl hx hb hg hs hp hn he
  rw [pagesF] at he ⊢
  rcases hgp : gparR crc x with ⟨y,o⟩
  rw [hgp] at he
  cases o with
  | none=>exact ⟨hg,by simp only;omega,hp,hn⟩
  | some p=>
   simp only at he ⊢
   obtain ⟨g1,g2,g3,g4⟩:=gpar_good crc x y p hx hgp
   split
   · exact ⟨hg,by simp only;omega,hp,hn⟩
   · next hne=>
     rw [if_neg hne] at he
     have hys : y.s = x.s:=by rw [g2];rfl
     have hyn : y.n = x.n + gsz p:=by rw [g2];rfl
     have:=ih y (acc ++ [p]) (pl ++ [x.b + x.n]) (by rw [hys];exact g3) (by rw [g2];exact hb) (fun q hq=>by
      rcases List.mem_append.1 hq with h | h
      · exact hg q h
      · simp at h;subst h;exact g1) (by rw [List.map_append,List.sum_append,hs,hyn];simp) (by simp [hp]) (by rw [List.length_append,List.length_cons,List.length_nil];omega) he
     rw [hys] at this
     exact this
end
def cutG : List UInt8 → List UInt8 → List UInt8 → List (List UInt8) × List UInt8
 | [],_,part=>([],part)
 | c :: r,b,part=>if c = 255 then cutG r (b.drop 255) (part ++ b.take 255) else ((part ++ b.take c.toNat) :: (cutG r (b.drop c.toNat) []).1,(cutG r (b.drop c.toNat) []).2)
theorem cutG_append : ∀ (l1 l2 b1 b2 part : List UInt8),totL l1 = b1.length →
 cutG (l1 ++ l2) (b1 ++ b2) part = ((cutG l1 b1 part).1 ++ (cutG l2 b2 (cutG l1 b1 part).2).1,(cutG l2 b2 (cutG l1 b1 part).2).2)
 | [],l2,b1,b2,part,h=>by
  have : b1 = []:=List.eq_nil_of_length_eq_zero (by rw [← h];rfl)
  subst this
  simp [cutG]
 | c :: r,l2,b1,b2,part,h=>by
  rw [totL_cons] at h
  rw [List.cons_append,cutG,cutG]
  by_cases hc : c = 255
  · have hcn : c.toNat = 255:=by rw [hc];rfl
    rw [if_pos hc,if_pos hc,List.drop_append_of_le_length (by omega),List.take_append_of_le_length (by omega),cutG_append r l2 _ b2 _ (by rw [List.length_drop];omega)]
  · rw [if_neg hc,if_neg hc,List.drop_append_of_le_length (by omega),List.take_append_of_le_length (by omega),cutG_append r l2 _ b2 _ (by rw [List.length_drop];omega)]
    simp
def laceL (n : Nat) : List UInt8:=List.replicate (n / 255) 255 ++ [UInt8.ofNat (n % 255)]
theorem lace_tot (n : Nat) : totL (laceL n) = n:=by
 have hr : ∀ k,totL (List.replicate k 255) = 255 * k:=by
  intro k
  induction k with
  | zero=>rfl
  | succ k ih=>rw [List.replicate_succ,totL_cons,ih];show 255 + _ = _;omega
 unfold laceL
 rw [totL_append,hr]
 show 255 * (n / 255) + ((UInt8.ofNat (n % 255)).toNat + 0) = n
 rw [UInt8.toNat_ofNat']
 omega
theorem cut_lace : ∀ (k m : Nat) (b part : List UInt8),m < 255 → b.length = 255 * k + m → cutG (List.replicate k 255 ++ [UInt8.ofNat m]) b part = ([part ++ b],[]):=by
 intro k
 induction k with
 | zero=>
  intro m b part hm hb
  have hn : ¬ UInt8.ofNat m = 255:=by
   intro h
   have:=congrArg UInt8.toNat h
   rw [UInt8.toNat_ofNat'] at this
   have h2 : (255 : UInt8).toNat = 255:=rfl
   omega
  have ht : (UInt8.ofNat m).toNat = m:=by rw [UInt8.toNat_ofNat'];omega
  rw [List.replicate_zero,List.nil_append,cutG,if_neg hn,ht,List.take_of_length_le (by omega)]
  rfl
 | succ k ih=>
  intro m b part hm hb
  rw [List.replicate_succ,List.cons_append,cutG,if_pos rfl,ih m _ _ hm (by rw [List.length_drop];omega),List.append_assoc,List.take_append_drop]
theorem cut_packets : ∀ ps : List (List UInt8),cutG (ps.flatMap fun p=>laceL p.length) ps.flatten [] = (ps,[])
 | []=>rfl
 | p :: r=>by
  rw [List.flatMap_cons,List.flatten_cons,cutG_append _ _ _ _ _ (lace_tot _)]
  have:=cut_lace (p.length / 255) (p.length % 255) p [] (Nat.mod_lt _ (by decide)) (by omega)
  unfold laceL at this ⊢
  rw [this,List.nil_append]
  simp only
  rw [show (r.flatMap fun p=>List.replicate (p.length / 255) 255 ++ [UInt8.ofNat (p.length % 255)]) = r.flatMap fun p=>laceL p.length from rfl,cut_packets r]
  rfl
def contG (p : PG) : Bool:=p.fl.toNat % 2 == 1
def firstG (p : PG) : Bool:=p.fl.toNat / 2 % 2 == 1
def openL (op : Bool) (l : List UInt8) : Bool:=match l.getLast? with
 | none=>op
 | some c=>c == 255
def joinG : List PG → Nat → Bool → List (List UInt8) → List UInt8 → List (List UInt8) × Int × Int
 | [],i,op,ps,_=>if op = true then ([],1,i) else (ps,0,0)
 | p :: r,i,op,ps,part=>if gcheckM p ≠ 0 ∨ contG p ≠ op then ([],1,i) else joinG r (i + 1) (openL op (bl p.la)) (ps ++ (cutG (bl p.la) (bl p.bo) part).1) (cutG (bl p.la) (bl p.bo) part).2
def pageO (se nu : Nat) (la bo : List UInt8) (op : Bool) : PG:=⟨if op = true then 1 else 0,if la.all (· == 255) = true then 18446744073709551615 else 0,se,nu % 4294967296,⟨la.toArray⟩,⟨bo.toArray⟩⟩
def pagesO (se : Nat) : Nat → Nat → List UInt8 → List UInt8 → Bool → List PG
 | 0,_,_,_,_=>[]
 | f + 1,nu,la,bo,op=>if la = [] then [] else pageO se nu (la.take 255) (bo.take (totL (la.take 255))) op :: pagesO se f (nu + 1) (la.drop 255) (bo.drop (totL (la.take 255))) (openL op (la.take 255))
theorem openL_split (op : Bool) (a b : List UInt8) : openL (openL op a) b = openL op (a ++ b):=by
 unfold openL
 rw [List.getLast?_append]
 cases b.getLast? with
 | none=>simp
 | some c=>simp
theorem blL (l : List UInt8) : bl (⟨l.toArray⟩ : ByteArray) = l:=by simp [bl]
theorem szL (l : List UInt8) : (⟨l.toArray⟩ : ByteArray).size = l.length:=by rw [← bl_length,blL]
theorem pageO_good (se nu : Nat) (la bo : List UInt8) (op : Bool) (h1 : la.length ≤ 255) (h2 : bo.length = totL la) (hs : se < 4294967296) : gG (pageO se nu la bo op) ∧ contG (pageO se nu la bo op) = op ∧ firstG (pageO se nu la bo op) = false:=by
 refine ⟨⟨by show (⟨la.toArray⟩ : ByteArray).size ≤ 255;rw [szL];exact h1,?_,?_,hs,Nat.mod_lt _ (by decide)⟩,?_,?_⟩
 · show (⟨bo.toArray⟩ : ByteArray).size = totL (bl ⟨la.toArray⟩)
   rw [szL,blL];exact h2
 · show (if la.all (· == 255) = true then 18446744073709551615 else 0) < _
   split <;> decide
 · cases op <;> simp [contG,pageO]
 · cases op <;> simp [firstG,pageO]
theorem join_pages (se : Nat) (hs : se < 4294967296) : ∀ (f nu : Nat) (la bo : List UInt8) (op : Bool) (j : Nat) (ps : List (List UInt8)) (part : List UInt8) (rest : List PG),la.length ≤ 255 * f → bo.length = totL la →
 joinG (pagesO se f nu la bo op ++ rest) j op ps part = joinG rest (j + (pagesO se f nu la bo op).length) (openL op la) (ps ++ (cutG la bo part).1) (cutG la bo part).2:=by
 intro f
 induction f with
 | zero=>
  intro nu la bo op j ps part rest h1 h2
  have : la = []:=List.eq_nil_of_length_eq_zero (by omega)
  subst this
  simp [pagesO,cutG,openL]
 | succ f ih=>
  intro nu la bo op j ps part rest h1 h2
  rw [pagesO]
  split
  · next h=>subst h;simp [cutG,openL]
  · next h=>
    have ht : totL (la.take 255) ≤ bo.length:=by
     rw [h2]
     conv=>rhs;rw [← List.take_append_drop 255 la,totL_append]
     omega
    have hb : (bo.take (totL (la.take 255))).length = totL (la.take 255):=by rw [List.length_take];omega
    have hd : (bo.drop (totL (la.take 255))).length = totL (la.drop 255):=by
     rw [List.length_drop,h2]
     conv=>lhs;lhs;rw [← List.take_append_drop 255 la,totL_append]
     omega
    obtain ⟨g1,g2,_⟩:=pageO_good se nu (la.take 255) (bo.take (totL (la.take 255))) op (by rw [List.length_take];omega) hb hs
    rw [List.cons_append,joinG,if_neg (by
     rintro (h | h)
     · exact h ((gcheck_iff _).2 ⟨g1.1,g1.2.1⟩)
     · exact h g2)]
    have e1 : bl (pageO se nu (la.take 255) (bo.take (totL (la.take 255))) op).la = la.take 255:=blL _
    have e2 : bl (pageO se nu (la.take 255) (bo.take (totL (la.take 255))) op).bo = bo.take (totL (la.take 255)):=blL _
    rw [e1,e2,ih _ _ _ _ _ _ _ _ (by rw [List.length_drop];omega) hd,openL_split,List.take_append_drop]
    have hc:=cutG_append (la.take 255) (la.drop 255) (bo.take (totL (la.take 255))) (bo.drop (totL (la.take 255))) part hb.symm
    rw [List.take_append_drop,List.take_append_drop] at hc
    rw [hc,List.length_cons,List.append_assoc]
    simp only
    congr 1
    omega
def endsN (l : List UInt8) : Nat:=l.countP (· != 255)
theorem endsN_append (a b : List UInt8) : endsN (a ++ b) = endsN a + endsN b:=List.countP_append ..
def secondF : List PG → Nat → Nat → Option Nat
 | [],_,_=>none
 | p :: r,i,n=>if 2 ≤ n + endsN (bl p.la) then some i else secondF r (i + 1) (n + endsN (bl p.la))
theorem second_pages (se : Nat) : ∀ (f nu : Nat) (la bo : List UInt8) (op : Bool) (i n : Nat) (rest : List PG),la.length ≤ 255 * f → la ≠ [] → openL true la = false → n + endsN la = 2 →
 secondF (pagesO se f nu la bo op ++ rest) i n = some (i + (pagesO se f nu la bo op).length - 1) ∧ 0 < (pagesO se f nu la bo op).length:=by
 intro f
 induction f with
 | zero=>
  intro nu la bo op i n rest h1 h2
  exact absurd (List.eq_nil_of_length_eq_zero (by omega)) h2
 | succ f ih=>
  intro nu la bo op i n rest h1 h2 h3 h4
  rw [pagesO,if_neg h2,List.cons_append,secondF]
  have e1 : bl (pageO se nu (la.take 255) (bo.take (totL (la.take 255))) op).la = la.take 255:=blL _
  rw [e1]
  by_cases hd : la.drop 255 = []
  · have ht : la.take 255 = la:=by
     have:=List.take_append_drop 255 la
     rw [hd,List.append_nil] at this
     exact this
    rw [ht,if_pos (by omega),hd]
    have hp : pagesO se f (nu + 1) [] (bo.drop (totL la)) (openL op la) = []:=by
     cases f with
     | zero=>rfl
     | succ f=>rw [pagesO,if_pos rfl]
    rw [hp]
    simp
  · have he : endsN la = endsN (la.take 255) + endsN (la.drop 255):=by
     conv=>lhs;rw [← List.take_append_drop 255 la,endsN_append]
    have hl : openL true (la.drop 255) = false:=by
     have hs:=openL_split true (la.take 255) (la.drop 255)
     rw [List.take_append_drop,h3] at hs
     unfold openL at hs ⊢
     cases hg : (la.drop 255).getLast? with
     | none=>exact absurd (List.getLast?_eq_none_iff.1 hg) hd
     | some c=>rw [hg] at hs;exact hs
    have h0 : 0 < endsN (la.drop 255):=by
     unfold openL at hl
     cases hg : (la.drop 255).getLast? with
     | none=>exact absurd (List.getLast?_eq_none_iff.1 hg) hd
     | some c=>
      rw [hg] at hl
      have hm:=List.mem_of_getLast? hg
      exact List.countP_pos_iff.2 ⟨c,hm,by simpa [bne] using hl⟩
    rw [if_neg (by omega)]
    obtain ⟨a,b⟩:=ih (nu + 1) (la.drop 255) (bo.drop (totL (la.take 255))) (openL op (la.take 255)) (i + 1) (n + endsN (la.take 255)) rest (by rw [List.length_drop];omega) hd hl (by omega)
    rw [a,List.length_cons]
    exact ⟨by congr 1;omega,by omega⟩
structure OS where
 first : PG
 b : Bk
 setup : ByteArray
 sound : List PG
def vorb (n : UInt8) : List UInt8:=[n,118,111,114,98,105,115]
def preM (s p : List UInt8) : Bool:=decide (s.take p.length = p)
def opensG (p : PG) : Bool:=decide ((joinG [p] 0 false [] []).2.1 = 0) && decide ((joinG [p] 0 false [] []).1.length = 1) && firstG p && preM ((joinG [p] 0 false [] []).1.headD []) (vorb 1)
def strayF (se : Nat) : List PG → Nat → Option Nat
 | [],_=>none
 | p :: r,i=>if p.se ≠ se ∨ p.nu ≠ i % 4294967296 ∨ (0 < i ∧ firstG p = true) then some i else strayF se r (i + 1)
def noOS : OS:=⟨⟨0,0,0,0,⟨#[]⟩,⟨#[]⟩⟩,⟨⟨#[]⟩,0,[]⟩,⟨#[]⟩,[]⟩
def contO : Option PG → Bool
 | some p=>contG p
 | none=>false
def pairM (size : Nat) (r : List PG) (at_ : List Nat) : (List (List UInt8) × Nat) ⊕ Nat:=
 match secondF r 1 0 with
 | none=>.inr size
 | some k=>
  if (joinG (r.take k) 0 false [] []).2.1 ≠ 0 ∧ (joinG (r.take k) 0 false [] []).2.2 < k then .inr (at_.getD (1 + (joinG (r.take k) 0 false [] []).2.2.toNat) 0)
  else if (joinG (r.take k) 0 false [] []).2.1 ≠ 0 ∨ (joinG (r.take k) 0 false [] []).1.length ≠ 2 then .inr (at_.getD k 0)
  else if contO r[k]? = true then .inr (at_.getD (k + 1) 0)
  else .inl ((joinG (r.take k) 0 false [] []).1,k)
section
variable (crc : List UInt8 → Nat) (R : List UInt8 → Int)
noncomputable def notesO (a : List UInt8) : RS × Option Bk:=parseR R true (wantR ⟨⟨a.toArray⟩,0,0,0,0⟩ ⟨(vorb 3).toArray⟩).1
noncomputable def tailM (s : ByteArray) (p0 : PG) (r : List PG) (at_ : List Nat) : OS × Int × Int:=
 match pairM s.size r at_ with
 | .inr a=>(noOS,1,a)
 | .inl (ps,k)=>
  if (notesO R (ps.getD 0 [])).1.e ≠ 0 then (noOS,(notesO R (ps.getD 0 [])).1.e,(at_.getD 1 0 : Nat))
  else if preM (ps.getD 1 []) (vorb 5) = false then (noOS,1,(at_.getD k 0 : Nat))
  else (⟨p0,(notesO R (ps.getD 0 [])).2.getD noBk,⟨(ps.getD 1 []).toArray⟩,r.drop k⟩,0,0)
noncomputable def oparM (s : ByteArray) : OS × Int × Int:=
 if (pagesM crc s).2.1 ≠ 0 then (noOS,(pagesM crc s).2.1,(pagesM crc s).2.2) else
 match (pagesM crc s).1.1 with
 | []=>(noOS,1,0)
 | p0 :: r=>match strayF p0.se (p0 :: r) 0 with
  | some i=>(noOS,1,((pagesM crc s).1.2.getD i 0 : Nat))
  | none=>if opensG p0 = false then (noOS,1,0) else tailM R s p0 r (pagesM crc s).1.2
def soundF (se : Nat) : List PG → Nat → Int × Int
 | [],_=>(0,0)
 | p :: r,i=>if gcheckM p ≠ 0 ∨ p.se ≠ se ∨ firstG p = true ∨ (i = 0 ∧ contG p = true) then (5,3 + (i : Int)) else soundF se r (i + 1)
def ocheckM (s : OS) : Int × Int:=
 if opensG s.first = false ∨ s.first.nu ≠ 0 then (5,0) else if (checkM s.b).1 ≠ 0 then ((checkM s.b).1,1) else if preM (bl s.setup) (vorb 5) = false then (5,2) else soundF s.first.se s.sound 0
def pktsO (s : OS) : List (List UInt8):=[vorb 3 ++ printL true s.b,bl s.setup]
def lacesO (s : OS) : List UInt8:=(pktsO s).flatMap fun p=>laceL p.length
def midO (s : OS) : List PG:=pagesO s.first.se (lacesO s).length 1 (lacesO s) (pktsO s).flatten false
def renumL : Nat → List PG → List PG
 | _,[]=>[]
 | n,p :: r=>{ p with nu:=n % 4294967296 } :: renumL (n + 1) r
def opagesL (s : OS) : List PG:=s.first :: midO s ++ renumL (1 + (midO s).length) s.sound
def oprintL (s : OS) : List UInt8:=(opagesL s).flatMap (gprintL crc)
def gO (s : OS) : Prop:=gG s.first ∧ ∀ p ∈ s.sound,gG p
def backO (s : OS) : OS:=⟨s.first,utfBk s.b,s.setup,renumL (1 + (midO s).length) s.sound⟩
theorem laces_ne (s : OS) : lacesO s ≠ []:=by
 unfold lacesO pktsO laceL
 simp
theorem lace_ends (n : Nat) : endsN (laceL n) = 1:=by
 unfold laceL
 rw [endsN_append]
 have h1 : ∀ k,endsN (List.replicate k 255) = 0:=by
  intro k
  unfold endsN
  rw [List.countP_eq_zero]
  intro a ha
  rw [List.mem_replicate] at ha
  simp [ha.2]
 have h2 : (UInt8.ofNat (n % 255) != 255) = true:=by
  rw [bne_iff_ne]
  intro h
  have:=congrArg UInt8.toNat h
  rw [UInt8.toNat_ofNat'] at this
  have h2 : (255 : UInt8).toNat = 255:=rfl
  omega
 rw [h1]
 unfold endsN
 simp [List.countP_cons,h2]
theorem laces_two (s : OS) : endsN (lacesO s) = 2:=by
 unfold lacesO pktsO
 simp only [List.flatMap_cons,List.flatMap_nil,List.append_nil]
 rw [endsN_append,lace_ends,lace_ends]
theorem lace_last (op : Bool) (l : List UInt8) (n : Nat) : openL op (l ++ laceL n) = false:=by
 unfold laceL
 rw [← List.append_assoc]
 unfold openL
 rw [List.getLast?_append]
 simp only [List.getLast?_singleton,Option.some_or]
 rw [beq_eq_false_iff_ne]
 intro h
 have:=congrArg UInt8.toNat h
 rw [UInt8.toNat_ofNat'] at this
 have h2 : (255 : UInt8).toNat = 255:=rfl
 omega
theorem laces_last (op : Bool) (s : OS) : openL op (lacesO s) = false:=by
 unfold lacesO pktsO
 simp only [List.flatMap_cons,List.flatMap_nil,List.append_nil]
 exact lace_last op _ _
theorem laces_tot (s : OS) : (pktsO s).flatten.length = totL (lacesO s):=by
 unfold lacesO pktsO
 simp only [List.flatMap_cons,List.flatMap_nil,List.append_nil,List.flatten_cons,List.flatten_nil]
 rw [totL_append,lace_tot,lace_tot,List.length_append]
theorem mid_join (s : OS) (hs : s.first.se < 4294967296) : joinG (midO s) 0 false [] [] = (pktsO s,0,0):=by
 have h:=join_pages s.first.se hs (lacesO s).length 1 (lacesO s) (pktsO s).flatten false 0 [] [] [] (by omega) (laces_tot s)
 rw [List.append_nil,laces_last] at h
 have hc:=cut_packets (pktsO s)
 rw [show ((pktsO s).flatMap fun p=>laceL p.length) = lacesO s from rfl] at hc
 rw [hc] at h
 unfold midO
 rw [h]
 simp [joinG]
theorem mid_second (s : OS) (rest : List PG) : secondF (midO s ++ rest) 1 0 = some (midO s).length:=by
 obtain ⟨a,b⟩:=second_pages s.first.se (lacesO s).length 1 (lacesO s) (pktsO s).flatten false 1 0 rest (by omega) (laces_ne s) (laces_last true s) (by rw [laces_two])
 unfold midO
 rw [a]
 congr 1
 omega
theorem pagesO_all (se : Nat) (hs : se < 4294967296) : ∀ (f nu : Nat) (la bo : List UInt8) (op : Bool),bo.length = totL la → ∀ (k : Nat) (p : PG),(pagesO se f nu la bo op)[k]? = some p → gG p ∧ p.se = se ∧ p.nu = (nu + k) % 4294967296 ∧ firstG p = false:=by
 intro f
 induction f with
 | zero=>intro nu la bo op h k p hp;simp [pagesO] at hp
 | succ f ih=>
  intro nu la bo op h2 k p hp
  rw [pagesO] at hp
  split at hp
  · simp at hp
  · have ht : totL (la.take 255) ≤ bo.length:=by
     rw [h2]
     conv=>rhs;rw [← List.take_append_drop 255 la,totL_append]
     omega
    have hb : (bo.take (totL (la.take 255))).length = totL (la.take 255):=by rw [List.length_take];omega
    have hd : (bo.drop (totL (la.take 255))).length = totL (la.drop 255):=by
     rw [List.length_drop,h2]
     conv=>lhs;lhs;rw [← List.take_append_drop 255 la,totL_append]
     omega
    obtain ⟨g1,_,g3⟩:=pageO_good se nu (la.take 255) (bo.take (totL (la.take 255))) op (by rw [List.length_take];omega) hb hs
    cases k with
    | zero=>
     simp at hp
     subst hp
     exact ⟨g1,rfl,rfl,g3⟩
    | succ k=>
     obtain ⟨a,b,c,d⟩:=ih _ _ _ _ hd k p (by simpa using hp)
     exact ⟨a,b,by rw [c];congr 1;omega,d⟩
theorem renum_at : ∀ (l : List PG) (n k : Nat) (p : PG),(renumL n l)[k]? = some p → ∃ q,l[k]? = some q ∧ p = { q with nu:=(n + k) % 4294967296 }
 | [],n,k,p,h=>by simp [renumL] at h
 | q :: r,n,0,p,h=>by
  simp [renumL] at h
  exact ⟨q,rfl,h.symm⟩
 | q :: r,n,k + 1,p,h=>by
  obtain ⟨q',a,b⟩:=renum_at r (n + 1) k p (by simpa [renumL] using h)
  exact ⟨q',by simpa using a,by rw [b];congr 2;omega⟩
theorem renum_len : ∀ (l : List PG) (n : Nat),(renumL n l).length = l.length
 | [],_=>rfl
 | _ :: r,n=>by rw [renumL,List.length_cons,List.length_cons,renum_len r]
theorem renum_renum : ∀ (l : List PG) (n m : Nat),renumL n (renumL m l) = renumL n l
 | [],_,_=>rfl
 | p :: r,n,m=>by simp only [renumL];rw [renum_renum r]
theorem stray_none (se : Nat) : ∀ (l : List PG) (i : Nat),(∀ (k : Nat) (p : PG),l[k]? = some p → p.se = se ∧ p.nu = (i + k) % 4294967296 ∧ (0 < i + k → firstG p = false)) → strayF se l i = none
 | [],_,_=>rfl
 | p :: r,i,h=>by
  obtain ⟨a,b,c⟩:=h 0 p rfl
  rw [strayF,if_neg (by
   rintro (h | h | ⟨h,h'⟩)
   · exact h a
   · exact h b
   · have:=c h;rw [this] at h';cases h'),stray_none se r (i + 1) fun k q hq=>by
   obtain ⟨a,b,c⟩:=h (k + 1) q (by simpa using hq)
   exact ⟨a,by rw [b];congr 1;omega,fun hp=>c (by omega)⟩]
theorem sound_of (se : Nat) : ∀ (l : List PG) (i : Nat),soundF se l i = (0,0) ↔ ∀ (k : Nat) (p : PG),l[k]? = some p → gcheckM p = 0 ∧ p.se = se ∧ firstG p = false ∧ (i + k = 0 → contG p = false)
 | [],i=>by simp [soundF]
 | p :: r,i=>by
  rw [soundF]
  split
  · next h=>
    constructor
    · intro e
      have:=congrArg Prod.fst e
      exact absurd (show (5 : Int) = 0 from this) (by decide)
    · intro e
      obtain ⟨a,b,c,d⟩:=e 0 p rfl
      rcases h with h | h | h | ⟨h,h'⟩
      · exact absurd a h
      · exact absurd b h
      · rw [c] at h;cases h
      · rw [d (by omega)] at h';cases h'
  · next h=>
    rw [sound_of se r (i + 1)]
    constructor
    · intro e k q hq
      cases k with
      | zero=>
       simp at hq
       subst hq
       refine ⟨?_,?_,?_,?_⟩
       · exact Classical.byContradiction fun x=>h (.inl x)
       · exact Classical.byContradiction fun x=>h (.inr (.inl x))
       · exact Bool.eq_false_iff.2 fun x=>h (.inr (.inr (.inl x)))
       · exact fun hz=>Bool.eq_false_iff.2 fun x=>h (.inr (.inr (.inr ⟨by omega,x⟩)))
      | succ k=>
       obtain ⟨a,b,c,d⟩:=e k q (by simpa using hq)
       exact ⟨a,b,c,fun hz=>by omega⟩
    · intro e k q hq
      obtain ⟨a,b,c,d⟩:=e (k + 1) q (by simpa using hq)
      exact ⟨a,b,c,fun hz=>by omega⟩
theorem vorb_len (n : UInt8) : (vorb n).length = 7:=rfl
theorem pre_append (p q : List UInt8) : preM (p ++ q) p = true:=by unfold preM;simp
def okO (s : OS) : Prop:=gO s ∧ ocheckM s = (0,0) ∧ s.b.vt.size ≤ 1073741824 ∧ s.b.ns.length ≤ 1073741824 ∧ (∀ n ∈ s.b.ns,n.name.size ≤ 1073741824 ∧ n.text.size ≤ 1073741824) ∧ (opagesL s).length ≤ 1048576
theorem ocheck_parts {s : OS} (h : ocheckM s = (0,0)) : opensG s.first = true ∧ s.first.nu = 0 ∧ (checkM s.b).1 = 0 ∧ preM (bl s.setup) (vorb 5) = true ∧ soundF s.first.se s.sound 0 = (0,0):=by
 unfold ocheckM at h
 split at h
 · exact absurd (show (5 : Int) = 0 from congrArg Prod.fst h) (by decide)
 · next h1=>
   split at h
   · next h2=>exact absurd (congrArg Prod.fst h) h2
   · next h2=>
     split at h
     · exact absurd (show (5 : Int) = 0 from congrArg Prod.fst h) (by decide)
     · next h3=>
       refine ⟨?_,?_,?_,?_,h⟩
       · cases ho : opensG s.first with
         | true=>rfl
         | false=>exact absurd (.inl ho) h1
       · exact Classical.byContradiction fun x=>h1 (.inr x)
       · exact Classical.byContradiction fun x=>h2 x
       · cases hp : preM (bl s.setup) (vorb 5) with
         | true=>rfl
         | false=>exact absurd hp h3
theorem ocheck_mk {s : OS} (h1 : opensG s.first = true) (h2 : s.first.nu = 0) (h3 : (checkM s.b).1 = 0) (h4 : preM (bl s.setup) (vorb 5) = true) (h5 : soundF s.first.se s.sound 0 = (0, 0)) : ocheckM s = (0, 0) := by
  unfold ocheckM
  rw [if_neg (by rintro (h | h); · rw [h1] at h; cases h
                 · exact h h2), if_neg (by simpa using h3), if_neg (by rw [h4]; decide), h5]
theorem opages_good {s : OS} (h : okO s) : ∀ p ∈ opagesL s,gG p:=by
 obtain ⟨⟨g1,g2⟩,_⟩:=h
 intro p hp
 unfold opagesL at hp
 rw [List.cons_append,List.mem_cons,List.mem_append] at hp
 rcases hp with rfl | hp | hp
 · exact g1
 · obtain ⟨k,hk⟩:=List.getElem?_of_mem hp
   exact (pagesO_all s.first.se g1.2.2.2.1 _ _ _ _ _ (laces_tot s) k p hk).1
 · obtain ⟨k,hk⟩:=List.getElem?_of_mem hp
   obtain ⟨q,hq,rfl⟩:=renum_at _ _ _ _ hk
   obtain ⟨a,b,c,d,e⟩:=g2 q (List.mem_of_getElem? hq)
   exact ⟨a,b,c,d,Nat.mod_lt _ (by decide)⟩
theorem opages_stray {s : OS} (h : okO s) : strayF s.first.se (opagesL s) 0 = none:=by
 obtain ⟨⟨g1,g2⟩,hc,_⟩:=h
 obtain ⟨_,c2,_,_,c5⟩:=ocheck_parts hc
 have hs:=(sound_of s.first.se s.sound 0).1 c5
 apply stray_none
 intro k p hp
 unfold opagesL at hp
 rw [List.cons_append] at hp
 cases k with
 | zero=>
  simp at hp
  subst hp
  exact ⟨rfl,by rw [c2],fun h=>by omega⟩
 | succ k=>
  rw [List.getElem?_cons_succ] at hp
  by_cases hk : k < (midO s).length
  · rw [List.getElem?_append_left hk] at hp
    obtain ⟨_,b,c,d⟩:=pagesO_all s.first.se g1.2.2.2.1 _ _ _ _ _ (laces_tot s) k p hp
    exact ⟨b,by rw [c];congr 1;omega,fun _=>d⟩
  · rw [List.getElem?_append_right (by omega)] at hp
    obtain ⟨q,hq,rfl⟩:=renum_at _ _ _ _ hp
    obtain ⟨_,b,c,_⟩:=hs _ q hq
    exact ⟨b,by show (1 + (midO s).length + (k - (midO s).length)) % _ = _;congr 1;omega,fun _=>c⟩
theorem check_pair {b : Bk} (h : (checkM b).1 = 0) : checkM b = (0,0):=check_zero b h
theorem opar_back (hc : ∀ l,crc l < 4294967296) (hR : ∀ l,(scanL l).2 = none → R l = 7) (s : OS) (hs : okO s) : oparM crc R ⟨(oprintL crc s).toArray⟩ = (backO s,0,0):=by
 have hok:=hs
 obtain ⟨⟨g1,g2⟩,hch,b1,b2,b3,b4⟩:=hs
 obtain ⟨c1,c2,c3,c4,c5⟩:=ocheck_parts hch
 have hpg:=pages_back crc hc (opagesL s) ((⟨(oprintL crc s).toArray⟩ : ByteArray).size + 1) ⟨⟨(oprintL crc s).toArray⟩,0,0,0,0⟩ [] [] (opages_good hok) (by
  rw [szL]
  unfold oprintL
  have : ∀ l : List PG,l.length ≤ (l.flatMap (gprintL crc)).length:=by
   intro l
   induction l with
   | nil=>exact Nat.le_refl _
   | cons p r ih=>rw [List.flatMap_cons,List.length_append,gprint_len,List.length_cons];omega
  have:=this (opagesL s)
  omega) (by simpa using b4) ⟨rfl,Nat.zero_le _,by rw [blL,List.drop_zero];rfl⟩
 have hpm : pagesM crc ⟨(oprintL crc s).toArray⟩ = ((opagesL s,placesL crc 0 (opagesL s)),0,0):=by
  unfold pagesM
  rw [hpg]
  simp [adv]
 unfold oparM
 rw [hpm]
 simp only
 rw [if_neg (by decide)]
 have ho : opagesL s = s.first :: (midO s ++ renumL (1 + (midO s).length) s.sound):=by unfold opagesL;simp
 have hst:=opages_stray hok
 rw [ho] at hst ⊢
 simp only
 rw [hst]
 simp only
 rw [if_neg (by rw [c1];decide)]
 have htk : (midO s ++ renumL (1 + (midO s).length) s.sound).take (midO s).length = midO s:=List.take_left' rfl
 have hdr : (midO s ++ renumL (1 + (midO s).length) s.sound).drop (midO s).length = renumL (1 + (midO s).length) s.sound:=List.drop_left' rfl
 have hj:=mid_join s g1.2.2.2.1
 have hn : contO (midO s ++ renumL (1 + (midO s).length) s.sound)[(midO s).length]? = false:=by
  rw [List.getElem?_append_right (Nat.le_refl _),Nat.sub_self]
  cases hz : (renumL (1 + (midO s).length) s.sound)[0]? with
  | none=>rfl
  | some p=>
   obtain ⟨q,hq,rfl⟩:=renum_at _ _ _ _ hz
   exact ((sound_of s.first.se s.sound 0).1 c5 0 q hq).2.2.2 rfl
 have hpair : ∀ (sz : Nat) (pl : List Nat),pairM sz (midO s ++ renumL (1 + (midO s).length) s.sound) pl = .inl (pktsO s,(midO s).length):=by
  intro sz pl
  unfold pairM
  rw [mid_second]
  simp only
  rw [htk,hj]
  simp only
  rw [if_neg (by simp),if_neg (by simp [pktsO]),hn,if_neg (by decide)]
 unfold tailM
 rw [hpair]
 simp only
 have hk0 : (pktsO s).getD 0 [] = vorb 3 ++ printL true s.b:=rfl
 have hk1 : (pktsO s).getD 1 [] = bl s.setup:=rfl
 rw [hk0,hk1,hdr]
 have hrest : Rest (⟨⟨(vorb 3 ++ printL true s.b).toArray⟩,0,0,0,0⟩ : RS) (vorb 3 ++ printL true s.b):=⟨rfl,Nat.zero_le _,by rw [blL,List.drop_zero]⟩
 obtain ⟨w1,w2⟩:=hrest.want
 have hpb:=parse_back (R:=R) hR true s.b _ (check_zero s.b c3) (by omega) (fun n hn=>by
  have:=b3 n hn
  unfold noteL sizedL
  simp only [List.length_append,bl_length]
  show 4 + (_ + 1 + _) < _
  omega) w1
 have hno : (notesO R (vorb 3 ++ printL true s.b)).1.e = 0 ∧ (notesO R (vorb 3 ++ printL true s.b)).2 = some (utfBk s.b):=by
  unfold notesO
  rw [w2,hpb]
  exact ⟨rfl,rfl⟩
 rw [if_neg (by simpa using hno.1),if_neg (by rw [c4];decide),hno.2]
 unfold backO
 rw [show (⟨(bl s.setup).toArray⟩ : ByteArray) = s.setup from mk_list s.setup]
 rfl
end
theorem cutG_len : ∀ (l b part : List UInt8),(cutG l b part).1.flatten.length + (cutG l b part).2.length ≤ part.length + b.length
 | [],b,part=>by simp [cutG]
 | c :: r,b,part=>by
  rw [cutG]
  split
  · have:=cutG_len r (b.drop 255) (part ++ b.take 255)
    rw [List.length_append,List.length_drop,List.length_take] at this
    omega
  · have:=cutG_len r (b.drop c.toNat) []
    simp only [List.flatten_cons,List.length_append,List.length_drop,List.length_take,List.length_nil] at this ⊢
    omega
theorem joinG_len : ∀ (l : List PG) (j : Nat) (op : Bool) (ps : List (List UInt8)) (part : List UInt8),(joinG l j op ps part).1.flatten.length ≤ ps.flatten.length + part.length + (l.map gsz).sum
 | [],j,op,ps,part=>by
  rw [joinG]
  split
  · simp
  · simp
 | p :: r,j,op,ps,part=>by
  rw [joinG]
  split
  · simp
  · have h1:=joinG_len r (j + 1) (openL op (bl p.la)) (ps ++ (cutG (bl p.la) (bl p.bo) part).1) (cutG (bl p.la) (bl p.bo) part).2
    have h2:=cutG_len (bl p.la) (bl p.bo) part
    have h3:=bl_length p.bo
    rw [List.flatten_append,List.length_append] at h1
    rw [List.map_cons,List.sum_cons]
    unfold gsz at h1 ⊢
    omega
theorem flat_mem {ps : List (List UInt8)} {p : List UInt8} (h : p ∈ ps) : p.length ≤ ps.flatten.length:=by
 induction ps with
 | nil=>cases h
 | cons q r ih=>
  rw [List.flatten_cons,List.length_append]
  rcases List.mem_cons.1 h with rfl | h
  · omega
  · have:=ih h;omega
theorem pagesO_len (se : Nat) : ∀ (f nu : Nat) (la bo : List UInt8) (op : Bool),(pagesO se f nu la bo op).length ≤ f:=by
 intro f
 induction f with
 | zero=>intro nu la bo op;exact Nat.le_refl _
 | succ f ih=>
  intro nu la bo op
  rw [pagesO]
  split
  · exact Nat.zero_le _
  · rw [List.length_cons]
    have:=ih (nu + 1) (la.drop 255) (bo.drop (totL (la.take 255))) (openL op (la.take 255))
    omega
theorem stray_of (se : Nat) : ∀ (l : List PG) (i : Nat),strayF se l i = none → ∀ (k : Nat) (p : PG),l[k]? = some p → p.se = se ∧ p.nu = (i + k) % 4294967296 ∧ (0 < i + k → firstG p = false)
 | [],i,_,k,p,h=>by simp at h
 | q :: r,i,hs,k,p,h=>by
  rw [strayF] at hs
  split at hs
  · cases hs
  · next hn=>
    cases k with
    | zero=>
     simp at h
     subst h
     refine ⟨?_,?_,fun hp=>?_⟩
     · exact Classical.byContradiction fun x=>hn (.inl x)
     · exact Classical.byContradiction fun x=>hn (.inr (.inl x))
     · exact Bool.eq_false_iff.2 fun x=>hn (.inr (.inr ⟨by omega,x⟩))
    | succ k=>
     obtain ⟨a,b,c⟩:=stray_of se r (i + 1) hs k p (by simpa using h)
     exact ⟨a,by rw [b];congr 1;omega,fun hp=>c (by omega)⟩
theorem sum_take : ∀ (l : List PG) (k : Nat),((l.take k).map gsz).sum ≤ (l.map gsz).sum
 | [],k=>by simp
 | p :: r,0=>by simp
 | p :: r,k + 1=>by
  have:=sum_take r k
  simp only [List.take_succ_cons,List.map_cons,List.sum_cons]
  omega
theorem sum_len : ∀ l : List PG,27 * l.length ≤ (l.map gsz).sum
 | []=>Nat.le_refl _
 | p :: r=>by
  have:=sum_len r
  rw [List.length_cons,List.map_cons,List.sum_cons]
  have h : gsz p = 27 + p.la.size + p.bo.size:=rfl
  omega
section
variable {crc : List UInt8 → Nat} {R : List UInt8 → Int}
theorem parse_some (fr : Bool) (x : RS) (h : (parseR R fr x).1.e = 0) : ∃ b,(parseR R fr x).2 = some b:=by
 unfold parseR at h ⊢
 split
 · next c=>rw [if_pos c] at h;exact absurd h c
 · next c=>
   rw [if_neg c] at h
   split
   · next d=>rw [if_pos d] at h;exact absurd h d
   · next d=>
     rw [if_neg d] at h
     simp only at h ⊢
     rw [if_neg (by simpa using h)]
     exact ⟨_,rfl⟩
theorem opar_form (s : ByteArray) (h : (oparM crc R s).2.1 = 0) : ∃ (p0 : PG) (r : List PG) (at_ : List Nat) (ps : List (List UInt8)) (k : Nat) (b : Bk),
 (∀ p ∈ p0 :: r,gG p) ∧ ((p0 :: r).map gsz).sum ≤ s.size ∧ strayF p0.se (p0 :: r) 0 = none ∧ opensG p0 = true ∧ joinG (r.take k) 0 false [] [] = (ps,0,(joinG (r.take k) 0 false [] []).2.2) ∧ ps.length = 2 ∧
 contO r[k]? = false ∧ (notesO R (ps.getD 0 [])).2 = some b ∧ preM (ps.getD 1 []) (vorb 5) = true ∧ oparM crc R s = (⟨p0,b,⟨(ps.getD 1 []).toArray⟩,r.drop k⟩,0,0):=by
 unfold oparM at h ⊢
 split at h
 · next c=>exact absurd h c
 · next c=>
   have hp:=pages_good crc (s.size + 1) ⟨s,0,0,0,0⟩ [] [] (Nat.zero_le _) rfl (fun p hp=>by cases hp) rfl rfl (Nat.zero_le _)
   have hpe : (pagesF crc (s.size + 1) ⟨s,0,0,0,0⟩ [] []).2.e = 0:=by
    unfold pagesM at c
    split at c
    · next d=>exact absurd d c
    · next d=>simpa using d
   obtain ⟨q1,q2,_,_⟩:=hp hpe
   have hpm : (pagesM crc s).1 = (pagesF crc (s.size + 1) ⟨s,0,0,0,0⟩ [] []).1:=by unfold pagesM;rw [if_neg (by simpa using hpe)]
   rw [if_neg c]
   rw [← hpm] at q1 q2
   generalize (pagesM crc s).1 = PP at *
   obtain ⟨l,pl⟩:=PP
   simp only at h q1 q2 ⊢
   cases l with
   | nil=>exact absurd (show (1 : Int) = 0 from h) (by decide)
   | cons p0 r=>
    simp only at h ⊢
    cases hst : strayF p0.se (p0 :: r) 0 with
    | some i=>rw [hst] at h;exact absurd (show (1 : Int) = 0 from h) (by decide)
    | none=>
     rw [hst] at h
     simp only at h ⊢
     cases hop : opensG p0 with
     | false=>rw [hop,if_pos rfl] at h;exact absurd (show (1 : Int) = 0 from h) (by decide)
     | true=>
      rw [hop,if_neg (by decide)] at h
      rw [if_neg (by decide)]
      unfold tailM at h ⊢
      cases hpr : pairM s.size r pl with
      | inr a=>rw [hpr] at h;exact absurd (show (1 : Int) = 0 from h) (by decide)
      | inl y=>
       obtain ⟨ps,k⟩:=y
       rw [hpr] at h
       simp only at h ⊢
       have hpp : joinG (r.take k) 0 false [] [] = (ps,0,(joinG (r.take k) 0 false [] []).2.2) ∧ ps.length = 2 ∧ contO r[k]? = false:=by
        unfold pairM at hpr
        split at hpr
        · cases hpr
        · next k' hk'=>
          split at hpr
          · cases hpr
          · split at hpr
            · cases hpr
            · next n2=>
              split at hpr
              · cases hpr
              · next n3=>
                injection hpr with hpr
                simp only [Prod.mk.injEq] at hpr
                obtain ⟨rfl,rfl⟩:=hpr
                refine ⟨?_,?_,by simpa using n3⟩
                · have : (joinG (List.take k' r) 0 false [] []).2.1 = 0:=Classical.byContradiction fun x=>n2 (.inl x)
                  rw [← this]
                · exact Classical.byContradiction fun x=>n2 (.inr x)
       split at h
       · next d=>exact absurd h d
       · next d=>
         rw [if_neg d]
         split at h
         · exact absurd (show (1 : Int) = 0 from h) (by decide)
         · next e=>
           rw [if_neg e]
           obtain ⟨b,hb⟩:=parse_some true _ (show (notesO R (ps.getD 0 [])).1.e = 0 by simpa using d)
           refine ⟨p0,r,pl,ps,k,b,q1,q2,hst,hop,hpp.1,hpp.2.1,hpp.2.2,hb,by simpa using e,?_⟩
           have hb' : (notesO R (ps.getD 0 [])).2 = some b:=hb
           rw [hb']
           rfl
theorem wantR_s' (x : RS) (t : ByteArray) : (wantR x t).1.s = x.s:=by
 unfold wantR
 split
 · rfl
 · split
   · exact failR_s _ _ _
   · split
     · exact failR_s _ _ _
     · rfl
theorem wantR_n (x : RS) (t : ByteArray) (h : x.n ≤ x.s.size) : (wantR x t).1.n ≤ (wantR x t).1.s.size:=nle_want (x:=x) h t
theorem opar_good (s : ByteArray) (hs : s.size ≤ 65536) (h : (oparM crc R s).2.1 = 0) : okO (oparM crc R s).1 ∧ (oparM crc R s).2.2 = 0 ∧ (oparM crc R s).1.setup.size ≤ s.size ∧ (oparM crc R s).1.sound.length ≤ s.size ∧ (printL true (oparM crc R s).1.b).length ≤ 64 * s.size + 1 ∧ (∀ p ∈ (oparM crc R s).1.sound,p.bo.size ≤ s.size) ∧ (oparM crc R s).1.first.bo.size ≤ s.size ∧ (oparM crc R s).1.b.ns.length ≤ 4096:=by
 obtain ⟨p0,r,at_,ps,k,b,q1,q2,hst,hop,hj,hl2,hco,hb,hpre,he⟩:=opar_form (crc:=crc) (R:=R) s h
 rw [he]
 have hso:=stray_of p0.se (p0 :: r) 0 hst
 have hj1:=joinG_len (r.take k) 0 false [] []
 rw [hj] at hj1
 simp only [List.flatten_nil,List.length_nil,Nat.zero_add] at hj1
 have hs1:=sum_take r k
 rw [List.map_cons,List.sum_cons] at q2
 have hgs : gsz p0 = 27 + p0.la.size + p0.bo.size:=rfl
 have hps : ∀ i,(ps.getD i []).length ≤ s.size:=by
  intro i
  rw [List.getD_eq_getElem?_getD]
  cases hi : ps[i]? with
  | none=>exact Nat.zero_le _
  | some p=>
   have:=flat_mem (List.mem_of_getElem? hi)
   simp only [Option.getD_some]
   omega
 have hx : ((wantR ⟨⟨(ps.getD 0 []).toArray⟩,0,0,0,0⟩ ⟨(vorb 3).toArray⟩).1.s).size ≤ s.size:=by
  rw [wantR_s']
  show (⟨(ps.getD 0 []).toArray⟩ : ByteArray).size ≤ _
  rw [szL]
  exact hps 0
 have hpg:=parse_good (R:=R) true _ b hb
 obtain ⟨g1,g2,g3,g4⟩:=hpg
 have hpp:=parse_print (R:=R) true _ b (wantR_n _ _ (Nat.zero_le _)) hb
 have hrl:=sum_len r
 have hdr : (r.drop k).length ≤ r.length:=by rw [List.length_drop];omega
 have hset : (⟨(ps.getD 1 []).toArray⟩ : ByteArray).size ≤ s.size:=by rw [szL];exact hps 1
 have hbo : ∀ p ∈ r,p.bo.size ≤ (r.map gsz).sum:=by
  have : ∀ (l : List PG),∀ p ∈ l,p.bo.size ≤ (l.map gsz).sum:=by
   intro l
   induction l with
   | nil=>intro p hp;cases hp
   | cons a l ih=>
    intro p hp
    rw [List.map_cons,List.sum_cons]
    have ha : gsz a = 27 + a.la.size + a.bo.size:=rfl
    rcases List.mem_cons.1 hp with rfl | hp
    · omega
    · have:=ih p hp;omega
  exact this r
 refine ⟨⟨⟨q1 p0 (by simp),fun p hp=>q1 p (by simp [List.mem_of_mem_drop hp])⟩,ocheck_mk hop ?_ (by rw [g1]) (by show preM (bl ⟨(ps.getD 1 []).toArray⟩) (vorb 5) = true;rw [blL];exact hpre) ?_,by show b.vt.size ≤ _;omega,by show b.ns.length ≤ _;omega,?_,?_⟩,rfl,hset,by show (r.drop k).length ≤ _;omega,by show (printL true b).length ≤ _;omega,fun p hp=>by have:=hbo p (List.mem_of_mem_drop hp);omega,by show p0.bo.size ≤ _;omega,g3⟩
 · have:=(hso 0 p0 rfl).2.1
   show p0.nu = 0
   rw [this]
 · rw [sound_of]
   intro j p hp
   have hp' : r[k + j]? = some p:=by simpa [List.getElem?_drop] using hp
   have hm:=List.mem_of_getElem? hp'
   have hg:=q1 p (by simp [hm])
   obtain ⟨a1,_,a3⟩:=hso (k + j + 1) p (by simpa using hp')
   refine ⟨(gcheck_iff p).2 ⟨hg.1,hg.2.1⟩,a1,a3 (by omega),fun hz=>?_⟩
   have hj0 : j = 0:=by omega
   subst hj0
   rw [Nat.add_zero] at hp'
   rw [hp'] at hco
   exact hco
 · intro n hn
   have:=g4 n hn
   exact ⟨by have:=this.2.2.1;show n.name.size ≤ _;omega,by have:=this.2.2.2;show n.text.size ≤ _;omega⟩
 · have h1 : (midO ⟨p0,b,⟨(ps.getD 1 []).toArray⟩,r.drop k⟩).length ≤ (lacesO ⟨p0,b,⟨(ps.getD 1 []).toArray⟩,r.drop k⟩).length:=pagesO_len _ _ _ _ _ _
   have h2 : (lacesO ⟨p0,b,⟨(ps.getD 1 []).toArray⟩,r.drop k⟩).length ≤ 2 + (7 + (printL true b).length) / 255 + s.size / 255:=by
    unfold lacesO pktsO laceL
    simp only [List.flatMap_cons,List.flatMap_nil,List.append_nil,List.length_append,List.length_replicate,List.length_cons,List.length_nil,vorb_len,bl_length]
    have : (⟨(ps.getD 1 []).toArray⟩ : ByteArray).size / 255 ≤ s.size / 255:=Nat.div_le_div_right hset
    omega
   have h3 : (7 + (printL true b).length) / 255 ≤ (8 + 64 * s.size) / 255:=Nat.div_le_div_right (by omega)
   have h4 : (opagesL ⟨p0,b,⟨(ps.getD 1 []).toArray⟩,r.drop k⟩).length = (midO ⟨p0,b,⟨(ps.getD 1 []).toArray⟩,r.drop k⟩).length + 1 + (r.drop k).length:=by
    unfold opagesL
    rw [List.length_append,List.length_cons,renum_len]
   rw [h4]
   omega
theorem back_laces (s : OS) : lacesO (backO s) = lacesO s ∧ pktsO (backO s) = pktsO s:=by
 have h : pktsO (backO s) = pktsO s:=by unfold pktsO backO;simp only;rw [print_utf]
 exact ⟨by unfold lacesO;rw [h],h⟩
theorem back_mid (s : OS) : midO (backO s) = midO s:=by
 obtain ⟨h1,h2⟩:=back_laces s
 unfold midO
 rw [h1,h2]
 rfl
theorem back_pages (s : OS) : opagesL (backO s) = opagesL s:=by
 unfold opagesL
 rw [back_mid]
 show s.first :: midO s ++ renumL (1 + (midO s).length) (renumL (1 + (midO s).length) s.sound) = _
 rw [renum_renum]
theorem back_print (crc : List UInt8 → Nat) (s : OS) : oprintL crc (backO s) = oprintL crc s:=by unfold oprintL;rw [back_pages]
theorem back_ok {s : OS} (h : okO s) : okO (backO s):=by
 have hg:=h
 obtain ⟨⟨g1,g2⟩,hc,b1,b2,b3,b4⟩:=h
 obtain ⟨c1,c2,c3,c4,c5⟩:=ocheck_parts hc
 have hs:=(sound_of s.first.se s.sound 0).1 c5
 refine ⟨⟨g1,?_⟩,ocheck_mk c1 c2 (by show (checkM (utfBk s.b)).1 = 0;rw [check_utf];exact c3) c4 ?_,b1,by show (utfBk s.b).ns.length ≤ _;simpa [utfBk] using b2,?_,by rw [back_pages];exact b4⟩
 · intro p hp
   obtain ⟨k,hk⟩:=List.getElem?_of_mem hp
   obtain ⟨q,hq,rfl⟩:=renum_at _ _ _ _ hk
   obtain ⟨a,b,c,d,e⟩:=g2 q (List.mem_of_getElem? hq)
   exact ⟨a,b,c,d,Nat.mod_lt _ (by decide)⟩
 · show soundF s.first.se (renumL (1 + (midO s).length) s.sound) 0 = (0,0)
   rw [sound_of]
   intro k p hp
   obtain ⟨q,hq,rfl⟩:=renum_at _ _ _ _ hp
   exact hs k q hq
 · intro n hn
   simp only [backO,utfBk,List.mem_map] at hn
   obtain ⟨m,hm,rfl⟩:=hn
   exact b3 m hm
end
end Go.Proofs.YtnbglcaeekppjaaGreatDoor
