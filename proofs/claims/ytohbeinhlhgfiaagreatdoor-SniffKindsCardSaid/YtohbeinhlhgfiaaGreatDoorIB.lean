/- A sheet's line, by the program (cue.Pieces): by runs with signs. -/
import Derived.Test.YtohbeinhlhgfiaaGreatDoorIA
import Derived.Test.YtohbeinhlhgfiaaGreatDoorMMore
import Derived.Shelf.Strings.SlTrimAscii
namespace Go.Proofs.YtohbeinhlhgfiaaGreatDoor
open Go Go.Rf Go.RowKit
set_option linter.unusedVariables false
set_option linter.unusedSimpArgs false
/- signs: 0 the line, 1 2 where its word begins and ends, 3 its size, 4 the word, 5 behind the blank, 6 the rest, 7 what is ahead of it, 8 9 where a value ends and it, 10 25 its text and sign, 11 12 behind its sign, 13 14 ahead of its last sign and from there on, 15 a mark, 16 tq 18 the last blank, 19 the rest's size, 20 21 22 digits, blank, what is behind, 24 the byte behind the word -/
def nmP : List (List UInt8):=[remL,titL,perL,sonL,filL,traL,indL,preL,posL,catL,isrL,flaL]
def eqP : List (List UInt8) → Nat → Nat → List BinF
 | [],_,_=>[]
 | l :: r,j,m=>(.eql,.sym 4,lS l,lB (Nat.beq j m)) :: eqP r (j + 1) m
def bP (m : Nat) : List BinF:=(.eql,.sym 1,.sym 3,lB false) :: (.eql,.sym 2,.sym 3,lB false) :: (.neq,.sym 24,u8 32,lB false) :: (.add,.sym 2,lI 1,.sym 5) :: eqP nmP 0 m
def sP : List SliF:=[(.sym 0,some (.sym 1),some (.sym 2),.sym 4),(.sym 0,some (.sym 5),none,.sym 6),(.sym 0,none,some (.sym 5),.sym 7)]
def iP : List ByF:=[(.sym 0,.sym 2,.sym 24)]
def lP : List LenF:=[(0,.sym 3),(6,.sym 19)]
def cP : SymF:=(147,[.a (.sym 0)],.t [.a (.sym 1),.a (.sym 2)])
def mk (cs : List At) (r : At) : RowF:=(46,cs,one1 r)
def tP0 (v : Bool) : Told:={ b:=[(.eql,.sym 1,.sym 3,lB true),(.eql,.sym 0,lS [],lB v)],l:=lP,c:=[cP],w:=[mk [.sym 0] (.sym 0)] }
def tP1 (v : Bool) : Told:={ b:=[(.eql,.sym 1,.sym 3,lB false),(.eql,.sym 2,.sym 3,lB true),(.eql,.sym 4,lS remL,lB v)],s:=[(.sym 0,some (.sym 1),some (.sym 2),.sym 4)],l:=lP,c:=[cP],w:=[mk [.sym 0] (.sym 0)] }
def tP2 : Told:={ b:=[(.eql,.sym 1,.sym 3,lB false),(.eql,.sym 2,.sym 3,lB false),(.neq,.sym 24,u8 32,lB true)],s:=[(.sym 0,some (.sym 1),some (.sym 2),.sym 4)],i:=iP,l:=lP,c:=[cP] }
def tR : Told:={ b:=bP 0,s:=sP,i:=iP,l:=lP,c:=[cP],w:=[mk [.sym 7] (.sym 7)] }
def tVal (m : Nat) (tq : At) (b2 : List BinF) (s2 : List SliF) (c2 : List SymF) (ok v : Bool) : Told:=
 { b:=(.add,.sym 5,.sym 25,.sym 11) :: (.sub,tq,.sym 25,.sym 13) :: (.neq,.sym 14,lS [],lB v) :: (b2 ++ bP m)
   s:=(.sym 0,some (.sym 5),some tq,.sym 9) :: (.sym 0,some (.sym 5),some (.sym 11),.sym 12) :: (.sym 0,some (.sym 13),none,.sym 14) :: (s2 ++ sP)
   i:=iP,l:=lP,c:=(224,[.a (.sym 9)],.t [.a (.sym 10),.a (.sym 25),.a (lB ok)]) :: (c2 ++ [cP]),w:=[mk [.sym 7,.sym 12] (.sym 15),mk [.sym 14] (.sym 14)] }
def tF0 : Told:={ b:=(.lss,.sym 16,lI 0,lB true) :: bP 4,s:=sP,i:=iP,l:=lP,c:=[(152,[.a (.sym 6),.a (lS [32])],one1 (.sym 16)),cP] }
def bF : List BinF:=[(.lss,.sym 16,lI 0,lB false),(.add,.sym 16,lI 1,.sym 18),(.add,.sym 5,.sym 16,.sym 8)]
def sF : List SliF:=[(.sym 6,some (.sym 18),none,.sym 17)]
def cF2 (c : Bool) : List SymF:=[(152,[.a (.sym 6),.a (lS [32])],one1 (.sym 16)),(153,[.a (.sym 17)],one1 (lB c))]
def tF1 : Told:={ b:=bF ++ bP 4,s:=sF ++ sP,i:=iP,l:=lP,c:=cF2 false ++ [cP] }
def tF (ok v : Bool) : Told:=tVal 4 (.sym 8) bF sF (cF2 true) ok v
def tN (m : Nat) (c : SymF) (g p q : Bool) : Told:=
 { b:=(.gtr,.sym 19,lI 2,lB g) :: (.eql,.sym 21,u8 32,lB q) :: bP m,s:=(.sym 6,none,some (lI 2),.sym 20) :: (.sym 6,some (lI 3),none,.sym 22) :: sP,i:=(.sym 6,lI 2,.sym 21) :: iP,l:=lP
   c:=[(77,[.a (.sym 20),.a (lS nnL)],one1 (lB p)),c,cP],w:=[mk [.sym 0] (.sym 0)] }
def cCap (r : Bool) : SymF:=(153,[.a (.sym 22)],one1 (lB r))
def cMom (r : Bool) : SymF:=(77,[.a (.sym 22),.a (lS momL)],one1 (lB r))
def tN0 (m : Nat) : Told:={ b:=(.gtr,.sym 19,lI 2,lB false) :: bP m,s:=sP,i:=iP,l:=lP,c:=[cP],w:=[mk [.sym 0] (.sym 0)] }
def tG (m : Nat) (r : Bool) : Told:={ b:=bP m,s:=sP,i:=iP,l:=lP,c:=[(77,[.a (.sym 6),.a (lS momL)],one1 (lB r)),cP],w:=[mk [.sym 0] (.sym 0)] }
def tL (m : Nat) (r : Bool) : Told:={ b:=bP m,s:=sP,i:=iP,l:=lP,c:=[(156,[.a (.sym 6)],one1 (lB r)),cP],w:=[mk [.sym 0] (.sym 0)] }
def tXX : Told:={ b:=bP 12,s:=sP,i:=iP,l:=lP,c:=[cP] }
noncomputable abbrev runP (T : Told) : Option Bool:=okOf (symEv T 78 [.a (.sym 0)])
theorem p0 (v : Bool) : runP (tP0 v) = some true:=by cases v <;> kernel_rfl
theorem p1 (v : Bool) : runP (tP1 v) = some v:=by cases v <;> kernel_rfl
theorem p2 : runP tP2 = some false:=by kernel_rfl
theorem pR : runP tR = some true:=by kernel_rfl
theorem pV1 (ok v : Bool) : runP (tVal 1 (.sym 3) [] [] [] ok v) = some ok:=by cases ok <;> cases v <;> kernel_rfl
theorem pV2 (ok v : Bool) : runP (tVal 2 (.sym 3) [] [] [] ok v) = some ok:=by cases ok <;> cases v <;> kernel_rfl
theorem pV3 (ok v : Bool) : runP (tVal 3 (.sym 3) [] [] [] ok v) = some ok:=by cases ok <;> cases v <;> kernel_rfl
theorem pF0 : runP tF0 = some false:=by kernel_rfl
theorem pF1 : runP tF1 = some false:=by kernel_rfl
theorem pF (ok v : Bool) : runP (tF ok v) = some ok:=by cases ok <;> cases v <;> kernel_rfl
theorem pN5 (p q r : Bool) : runP (tN 5 (cCap r) true p q) = some (p && q && r):=by cases p <;> cases q <;> cases r <;> kernel_rfl
theorem pN6 (p q r : Bool) : runP (tN 6 (cMom r) true p q) = some (p && q && r):=by cases p <;> cases q <;> cases r <;> kernel_rfl
theorem pN05 : runP (tN0 5) = some false:=by kernel_rfl
theorem pN06 : runP (tN0 6) = some false:=by kernel_rfl
theorem pG7 (r : Bool) : runP (tG 7 r) = some r:=by cases r <;> kernel_rfl
theorem pG8 (r : Bool) : runP (tG 8 r) = some r:=by cases r <;> kernel_rfl
theorem pL9 (r : Bool) : runP (tL 9 r) = some r:=by cases r <;> kernel_rfl
theorem pL10 (r : Bool) : runP (tL 10 r) = some r:=by cases r <;> kernel_rfl
theorem pL11 (r : Bool) : runP (tL 11 r) = some r:=by cases r <;> kernel_rfl
theorem pX : runP tXX = some false:=by kernel_rfl
def sgN (s : ByteArray) (tq : Nat) : Nat:=(valT (s.extract (wdJ (bl s) + 1) tq)).2
def restB (s : ByteArray) : ByteArray:=s.extract (wdJ (bl s) + 1) s.size
def byN (l : List UInt8) (k : Nat) : Nat:=match l[k]? with | some c=>c.toNat | none=>0
def pS (s : ByteArray) (tq : Nat) (k : Int) : List Value:=
 [.string s,.int .i64 (wdI (bl s)),.int .i64 (wdJ (bl s)),.int .i64 s.size,.string (s.extract (wdI (bl s)) (wdJ (bl s))),.int .i64 ((wdJ (bl s) + 1 : Nat) : Int),.string (restB s),.string (s.extract 0 (wdJ (bl s) + 1)),
  .int .i64 (tq : Int),.string (s.extract (wdJ (bl s) + 1) tq),.string (valT (s.extract (wdJ (bl s) + 1) tq)).1,.int .i64 ((wdJ (bl s) + 1 + sgN s tq : Nat) : Int),.string (s.extract (wdJ (bl s) + 1) (wdJ (bl s) + 1 + sgN s tq)),
  .int .i64 ((tq - sgN s tq : Nat) : Int),.string (s.extract (tq - sgN s tq) s.size),.string ⟨([s.extract 0 (wdJ (bl s) + 1),s.extract (wdJ (bl s) + 1) (wdJ (bl s) + 1 + sgN s tq)].map bl).flatten.toArray⟩,
  .int .i64 k,.string ((restB s).extract (k.toNat + 1) (restB s).size),.int .i64 (k + 1),.int .i64 (restB s).size,.string ((restB s).extract 0 2),.int .u8 (byN (bl (restB s)) 2),.string ((restB s).extract 3 (restB s).size),.int .i64 0,.int .u8 (byN (bl s) (wdJ (bl s))),.int .i64 (sgN s tq)]
theorem pS_ok (s : ByteArray) (tq : Nat) (k : Int) : AllP okS (pS s tq k):=
 ⟨okS_str _,okS_int _ _,okS_int _ _,okS_int _ _,okS_str _,okS_int _ _,okS_str _,okS_str _,okS_int _ _,okS_str _,okS_str _,okS_int _ _,okS_str _,okS_int _ _,okS_str _,okS_str _,okS_int _ _,okS_str _,okS_int _ _,okS_int _ _,okS_str _,okS_int _ _,okS_str _,okS_int _ _,okS_int _ _,okS_int _ _,trivial⟩
noncomputable abbrev pI (s : ByteArray) (tq : Nat) (k : Int) : Sym:=sgL (pS s tq k) (pS_ok s tq k)
theorem byN_at (b : ByteArray) (k : Nat) (h : k < b.size) : (byN (bl b) k : Int) = ((b[k]'h).toNat : Int):=by
 unfold byN
 rw [show (bl b)[k]? = some (b[k]'h) by
  show b.data.toList[k]? = _
  rw [Array.getElem?_toList,Array.getElem?_eq_getElem h];rfl]
theorem allP_append {α : Type} {p : α → Prop} : ∀ {a b : List α},AllP p a → AllP p b → AllP p (a ++ b)
 | [],_,_,hb=>hb
 | _ :: _,_,ha,hb=>⟨ha.1,allP_append ha.2 hb⟩
theorem ball_app [Sym] : ∀ {a b : List BinF},BAllOk a → BAllOk b → BAllOk (a ++ b)
 | [],_,_,hb=>hb
 | _ :: _,_,ha,hb=>⟨ha.1,ball_app ha.2 hb⟩
section
variable {s : ByteArray} {tq : Nat} {k : Int} {w : World}
theorem word_list (s : ByteArray) : (s.extract (wdI (bl s)) (wdJ (bl s))).data.toList = wdW (bl s):=by
 rw [ex_list s _ _ (wdJ_ge _) (by rw [← bl_length];exact wdJ_le _)]
 rfl
theorem rest_list (s : ByteArray) (h : wdJ (bl s) < s.size) : bl (restB s) = (bl s).drop (wdJ (bl s) + 1):=by
 unfold restB
 rw [ex_drop s _ (by omega)]
theorem eqP_ok (m : Nat) : letI:=pI s tq k;∀ (l : List (List UInt8)) (j : Nat),(∀ i x,l[i]? = some x → (wdW (bl s) == x) = Nat.beq (j + i) m) → BAllOk (eqP l j m)
 | [],_,_=>trivial
 | x :: l,j,h=>
  letI:=pI s tq k
  ⟨bok_eqs (s:=s.extract (wdI (bl s)) (wdJ (bl s))) (t:=⟨⟨x⟩⟩) (fun _=>rfl) (fun _=>rfl) (by rw [word_list];exact h 0 x rfl),eqP_ok m l (j + 1) fun i y hy=>by rw [h (i + 1) y (by simpa using hy)];congr 1;omega⟩
theorem cP_ok (hs : s.size ≤ 1000000) : letI:=pI s tq k;COk w cP:=
 letI:=pI s tq k
 ⟨[.string s],_,fun _=>rfl,fun _=>rfl,fun w' _=>word_any s w' hs⟩
theorem lP_ok : letI:=pI s tq k;AllP LenOk lP:=
 letI:=pI s tq k
 ⟨⟨s,rfl,fun _=>rfl⟩,⟨restB s,rfl,fun _=>rfl⟩,trivial⟩
theorem s4_ok : letI:=pI s tq k;SliOk (.sym 0,some (.sym 1),some (.sym 2),.sym 4):=
 letI:=pI s tq k
 ⟨s,wdI (bl s),wdJ (bl s),fun _=>rfl,⟨.i64,fun _=>rfl⟩,⟨.i64,fun _=>rfl⟩,wdJ_ge _,by rw [← bl_length];exact wdJ_le _,fun _=>rfl⟩
theorem sP_ok (h : wdJ (bl s) < s.size) : letI:=pI s tq k;AllP SliOk sP:=
 letI:=pI s tq k
 ⟨s4_ok,⟨s,wdJ (bl s) + 1,s.size,fun _=>rfl,⟨.i64,fun _=>rfl⟩,rfl,by omega,Nat.le_refl _,fun _=>rfl⟩,⟨s,0,wdJ (bl s) + 1,fun _=>rfl,rfl,⟨.i64,fun _=>rfl⟩,Nat.zero_le _,by omega,fun _=>rfl⟩,trivial⟩
theorem iP_ok (h : wdJ (bl s) < s.size) : letI:=pI s tq k;AllP ByOk iP:=
 letI:=pI s tq k
 ⟨⟨s,wdJ (bl s),.i64,fun _=>rfl,fun _=>rfl,h,fun _=>by rw [← byN_at s _ h];rfl⟩,trivial⟩
theorem e1_ok (v : Bool) (h : decide (wdI (bl s) = s.size) = v) : letI:=pI s tq k;BOk (.eql,.sym 1,.sym 3,lB v):=
 letI:=pI s tq k
 bok_eql (a:=(wdI (bl s) : Int)) (c:=s.size) (k:=.i64) (fun _=>rfl) (fun _=>rfl) (by rw [← h,Bool.eq_iff_iff];simp;omega)
theorem e2_ok (v : Bool) (h : decide (wdJ (bl s) = s.size) = v) : letI:=pI s tq k;BOk (.eql,.sym 2,.sym 3,lB v):=
 letI:=pI s tq k
 bok_eql (a:=(wdJ (bl s) : Int)) (c:=s.size) (k:=.i64) (fun _=>rfl) (fun _=>rfl) (by rw [← h,Bool.eq_iff_iff];simp;omega)
theorem e3_ok (v : Bool) (hj : wdJ (bl s) < s.size) (h : decide ((bl s)[wdJ (bl s)]? ≠ some 32) = v) : letI:=pI s tq k;BOk (.neq,.sym 24,u8 32,lB v):=by
 letI:=pI s tq k
 refine bok_neq (a:=(byN (bl s) (wdJ (bl s)) : Int)) (c:=((32 : Nat) : Int)) (k:=.u8) (fun _=>rfl) (fun _=>rfl) ?_
 rw [← h]
 obtain ⟨c,hc⟩:=at_some (bl s) (wdJ (bl s)) (by rw [bl_length];exact hj)
 unfold byN
 rw [hc]
 have : ∀ c : UInt8,((c.toNat : Int) != ((32 : Nat) : Int)) = decide (some c ≠ some (32 : UInt8)):=byte_allE (by decide +kernel)
 exact this c
theorem bP_ok (m : Nat) (hs : s.size ≤ 1000000) (h1 : wdI (bl s) ≠ s.size) (h2 : wdJ (bl s) < s.size) (h3 : (bl s)[wdJ (bl s)]? = some 32) (hm : ∀ i x,nmP[i]? = some x → (wdW (bl s) == x) = Nat.beq (0 + i) m) : letI:=pI s tq k;BAllOk (bP m):=
 letI:=pI s tq k
 ⟨e1_ok false (by simpa using h1),e2_ok false (by simp;omega),e3_ok false h2 (by simp [h3]),bok_addI (a:=(wdJ (bl s) : Int)) (c:=1) (k:=.i64) (fun _=>rfl) (fun _=>rfl) (fun _=>rfl) (wi64 _ (by omega) (by omega)),eqP_ok m nmP 0 hm⟩
theorem mk_ok1 {x r : At} {b : ByteArray} (hx : letI:=pI s tq k;∀ ρ,x.den ρ = some (.string b)) (hr : letI:=pI s tq k;∀ ρ,r.den ρ = some (.string b)) (hb : b.size ≤ 1000000) : letI:=pI s tq k;WOk w (mk [x] r):=by
 letI:=pI s tq k
 have e : (⟨([b].map bl).flatten.toArray⟩ : ByteArray) = b:=by simp [bl]
 exact wok_join [b] (fun ρ=>by simp only [dens,hx ρ];rfl) (fun ρ=>by rw [hr ρ,e]) (by simp) (by simp;omega)
end
theorem ok_of {s : ByteArray} {w : World} {T : Told} {b : Bool} (tq : Nat) (k : Int) (hG : GW w) (hT : letI:=pI s tq k;ToldOk w T) (h : runP T = some b) : Calls Tryz.prog 78 #[.string s] w fun e w'=>(∃ x,e = .returned (.tuple #[x,.bool b])) ∧ Below w.heap.size w w':=
 letI:=pI s tq k
 sym_ok (vals:=[.string s]) hG hT rfl h
theorem sg_le (s : ByteArray) (tq : Nat) (h1 : wdJ (bl s) + 1 ≤ tq) (h2 : tq ≤ s.size) : wdJ (bl s) + 1 + sgN s tq ≤ tq ∧ sgN s tq ≤ 1:=by
 have hz : (s.extract (wdJ (bl s) + 1) tq).size = tq - (wdJ (bl s) + 1):=by rw [ByteArray.size_extract];omega
 unfold sgN valT
 split
 · split
   · rename_i hc hok
     unfold valOk at hok
     rw [if_pos hc] at hok
     simp only [Bool.and_eq_true,decide_eq_true_eq] at hok
     have:=hok.1.1.1
     rw [bl_length,hz] at this
     simp only
     omega
   · simp only
     omega
 · simp only
   omega
theorem val_case (s : ByteArray) (w : World) (hG : GW w) (hs : s.size ≤ 1000000) (m tq : Nat) (k : Int) (at_ : At) (b2 : List BinF) (s2 : List SliF) (c2 : List SymF) (hat : letI:=pI s tq k;∀ ρ,at_.den ρ = some (.int .i64 (tq : Int)))
 (h1 : wdI (bl s) ≠ s.size) (h2 : wdJ (bl s) < s.size) (h3 : (bl s)[wdJ (bl s)]? = some 32) (hm : ∀ i x,nmP[i]? = some x → (wdW (bl s) == x) = Nat.beq (0 + i) m) (hto : wdJ (bl s) + 1 ≤ tq) (hto2 : tq ≤ s.size)
 (hb2 : letI:=pI s tq k;BAllOk b2) (hs2 : letI:=pI s tq k;AllP SliOk s2) (hc2 : letI:=pI s tq k;AllP (COk w) c2)
 (hrun : ∀ ok v,runP (tVal m at_ b2 s2 c2 ok v) = some ok) : Calls Tryz.prog 78 #[.string s] w fun e w'=>(∃ x,e = .returned (.tuple #[x,.bool (valOk (bl (s.extract (wdJ (bl s) + 1) tq)))])) ∧ Below w.heap.size w w':=by
 obtain ⟨A,hA⟩ : ∃ A,A = s.extract (wdJ (bl s) + 1) tq:=⟨_,rfl⟩
 have hAz : A.size = tq - (wdJ (bl s) + 1):=by rw [hA,ByteArray.size_extract];omega
 have kv : ∀ w',Below w.heap.size w w' → Calls Tryz.prog 224 #[.string A] w' fun e w''=>e = .returned (.tuple #[.string (valT A).1,.int .i64 (valT A).2,.bool (valOk (bl A))]) ∧ Below w'.heap.size w' w'':=fun w' hb=>value_any A w' (hG.bel hb) (by omega)
 obtain ⟨g1,g2⟩:=sg_le s tq hto hto2
 obtain ⟨v,hv⟩ : ∃ v,((s.extract (tq - sgN s tq) s.size).data.toList == ([] : List UInt8)) = !v:=⟨_,(Bool.not_not _).symm⟩
 letI:=pI s tq k
 rw [← hA]
 refine sym_ok (vals:=[.string s]) hG (T:=tVal m at_ b2 s2 c2 (valOk (bl A)) v) ⟨⟨bok_addI (a:=((wdJ (bl s) + 1 : Nat) : Int)) (c:=(sgN s tq : Int)) (k:=.i64) (fun _=>rfl) (fun _=>rfl) (fun _=>rfl) (wi64 _ (by omega) (by omega)),
  bok_subI (a:=(tq : Int)) (c:=(sgN s tq : Int)) (k:=.i64) hat (fun _=>rfl) (fun _=>by rw [show (tq : Int) - (sgN s tq : Int) = ((tq - sgN s tq : Nat) : Int) by omega];rfl) (wi64 _ (by omega) (by omega)),
  bok_nes (s:=s.extract (tq - sgN s tq) s.size) (t:=⟨⟨[]⟩⟩) (fun _=>rfl) (fun _=>rfl) hv,ball_app hb2 (bP_ok m hs h1 h2 h3 hm)⟩,iP_ok h2,
  ⟨⟨s,wdJ (bl s) + 1,tq,fun _=>rfl,⟨.i64,fun _=>rfl⟩,⟨.i64,hat⟩,hto,hto2,fun _=>rfl⟩,⟨s,wdJ (bl s) + 1,wdJ (bl s) + 1 + sgN s tq,fun _=>rfl,⟨.i64,fun _=>rfl⟩,⟨.i64,fun _=>rfl⟩,by omega,by omega,fun _=>rfl⟩,⟨s,tq - sgN s tq,s.size,fun _=>rfl,⟨.i64,fun _=>rfl⟩,rfl,by omega,Nat.le_refl _,fun _=>rfl⟩,allP_append hs2 (sP_ok h2)⟩,lP_ok,
  ⟨⟨[.string A],_,fun _=>by rw [hA];rfl,fun _=>by rw [hA];rfl,fun w' hb=>by have:=kv w' hb;rw [hA] at this ⊢;exact this⟩,allP_append hc2 ⟨cP_ok hs,trivial⟩⟩,
  ⟨wok_join [s.extract 0 (wdJ (bl s) + 1),s.extract (wdJ (bl s) + 1) (wdJ (bl s) + 1 + sgN s tq)] (fun _=>rfl) (fun _=>rfl) (by simp) (by simp [bl_length,ByteArray.size_extract];omega),mk_ok1 (b:=s.extract (tq - sgN s tq) s.size) (fun _=>rfl) (fun _=>rfl) (by rw [ByteArray.size_extract];omega),trivial⟩,trivial⟩ rfl (hrun _ v)
theorem nm_at {l : List UInt8} {m : Nat} (x : List UInt8) (hx : nmP[m]? = some x) (hl : l = x) : ∀ i y,nmP[i]? = some y → (l == y) = Nat.beq (0 + i) m:=by
 subst hl
 intro i y hy
 have hm : m < 12:=(List.getElem?_eq_some_iff.1 hx).1
 have hi : i < 12:=(List.getElem?_eq_some_iff.1 hy).1
 have key : ∀ i j : Fin 12,(nmP[j.val]? == nmP[i.val]?) = Nat.beq (0 + i.val) j.val:=by decide
 have:=key ⟨i,hi⟩ ⟨m,hm⟩
 simp only [hx,hy] at this
 rw [← this]
 rfl
theorem nm_no {l : List UInt8} (h : ∀ x ∈ nmP,l ≠ x) : ∀ i y,nmP[i]? = some y → (l == y) = Nat.beq (0 + i) 12:=by
 intro i y hy
 have hi : i < 12:=(List.getElem?_eq_some_iff.1 hy).1
 have h1 : (l == y) = false:=by rw [beq_eq_false_iff_ne];exact h y (List.mem_of_getElem? hy)
 have h2 : Nat.beq (0 + i) 12 = false:=by
  cases hb : Nat.beq (0 + i) 12 with
  | false=>rfl
  | true=>have:=Nat.eq_of_beq_eq_true hb;omega
 rw [h1,h2]
def lbI (b : ByteArray) : Int:=Lib.lastIdx b 32 b.size
theorem lbI_some (b : ByteArray) (k : Nat) (h : fB (bl b) b.size = some k) : lbI b = (k : Int):=by unfold lbI;rw [lastIdx_fB b _ (Nat.le_refl _),h]
theorem lbI_none (b : ByteArray) (h : fB (bl b) b.size = none) : lbI b = -1:=by unfold lbI;rw [lastIdx_fB b _ (Nat.le_refl _),h]
theorem last_any (b : ByteArray) (hb : b.size ≤ 1000000) (w' : World) : Calls Tryz.prog 152 #[.string b,.string ⟨⟨[32]⟩⟩] w' fun e w''=>e = .returned (.int .i64 (lbI b)) ∧ Below w'.heap.size w' w'':=
 (Tryz.strings_LastIndex_one b ⟨#[32]⟩ rfl (by omega) w').mono fun e w'' q=>⟨q.1,by rw [q.2];exact Below.refl _ _⟩
set_option maxHeartbeats 4000000 in
theorem pieces_any (s : ByteArray) (w : World) (hG : GW w) (hs : s.size ≤ 1000000) : Calls Tryz.prog 78 #[.string s] w fun e w'=>(∃ x,e = .returned (.tuple #[x,.bool (cueOk (bl s))])) ∧ Below w.heap.size w w':=by
 have hlen:=bl_length s
 have hjle : wdJ (bl s) ≤ s.size:=by rw [← hlen];exact wdJ_le _
 unfold cueOk
 rw [hlen]
 by_cases h1 : wdI (bl s) = s.size
 · rw [if_pos h1]
   obtain ⟨v,hv⟩ : ∃ v,(s.data.toList == ([] : List UInt8)) = v:=⟨_,rfl⟩
   letI:=pI s 0 0
   exact ok_of 0 0 hG (T:=tP0 v) ⟨⟨e1_ok true (by simpa using h1),bok_eqs (s:=s) (t:=⟨⟨[]⟩⟩) (fun _=>rfl) (fun _=>rfl) hv,trivial⟩,trivial,trivial,lP_ok,⟨cP_ok hs,trivial⟩,⟨mk_ok1 (b:=s) (fun _=>rfl) (fun _=>rfl) hs,trivial⟩,trivial⟩ (p0 v)
 · rw [if_neg h1]
   by_cases h2 : wdJ (bl s) = s.size
   · rw [if_pos h2]
     letI:=pI s 0 0
     exact ok_of 0 0 hG (T:=tP1 (wdW (bl s) == remL)) ⟨⟨e1_ok false (by simpa using h1),e2_ok true (by simpa using h2),bok_eqs (s:=s.extract (wdI (bl s)) (wdJ (bl s))) (t:=⟨⟨remL⟩⟩) (fun _=>rfl) (fun _=>rfl) (by rw [word_list]),trivial⟩,trivial,⟨s4_ok,trivial⟩,lP_ok,⟨cP_ok hs,trivial⟩,⟨mk_ok1 (b:=s) (fun _=>rfl) (fun _=>rfl) hs,trivial⟩,trivial⟩ (p1 _)
   · rw [if_neg h2]
     have hj : wdJ (bl s) < s.size:=by omega
     by_cases h3 : (bl s)[wdJ (bl s)]? = some 32
     · rw [if_neg (by simpa using h3),← rest_list s hj]
       have hrz : (restB s).size = s.size - (wdJ (bl s) + 1):=by unfold restB;rw [ByteArray.size_extract];omega
       have hrl:=bl_length (restB s)
       have hex : restB s = s.extract (wdJ (bl s) + 1) s.size:=rfl
       unfold restOk
       by_cases c0 : wdW (bl s) = remL
       · rw [if_pos c0]
         letI:=pI s 0 0
         exact ok_of 0 0 hG (T:=tR) ⟨bP_ok 0 hs h1 hj h3 (nm_at remL rfl c0),iP_ok hj,sP_ok hj,lP_ok,⟨cP_ok hs,trivial⟩,⟨mk_ok1 (b:=s.extract 0 (wdJ (bl s) + 1)) (fun _=>rfl) (fun _=>rfl) (by rw [ByteArray.size_extract];omega),trivial⟩,trivial⟩ pR
       · rw [if_neg c0]
         by_cases c1 : wdW (bl s) = titL ∨ wdW (bl s) = perL ∨ wdW (bl s) = sonL
         · rw [if_pos c1,hex]
           rcases c1 with c | c | c
           · exact val_case s w hG hs 1 s.size 0 (.sym 3) [] [] [] (fun _=>rfl) h1 hj h3 (nm_at titL rfl c) (by omega) (Nat.le_refl _) trivial trivial trivial pV1
           · exact val_case s w hG hs 2 s.size 0 (.sym 3) [] [] [] (fun _=>rfl) h1 hj h3 (nm_at perL rfl c) (by omega) (Nat.le_refl _) trivial trivial trivial pV2
           · exact val_case s w hG hs 3 s.size 0 (.sym 3) [] [] [] (fun _=>rfl) h1 hj h3 (nm_at sonL rfl c) (by omega) (Nat.le_refl _) trivial trivial trivial pV3
         · rw [if_neg c1]
           by_cases c2 : wdW (bl s) = filL
           · rw [if_pos c2]
             have hm:=nm_at filL (m:=4) rfl c2
             have kl:=last_any (restB s) (by omega)
             rw [show lastB (bl (restB s)) = fB (bl (restB s)) (restB s).size from by unfold lastB fB;rw [hrl]]
             cases hf : fB (bl (restB s)) (restB s).size with
             | none=>
              rw [lbI_none _ hf] at kl
              letI:=pI s 0 (-1)
              exact ok_of 0 (-1) hG (T:=tF0) ⟨⟨bok_lss (a:=-1) (c:=0) (k:=.i64) (fun _=>rfl) (fun _=>rfl) (by decide),bP_ok 4 hs h1 hj h3 hm⟩,iP_ok hj,sP_ok hj,lP_ok,⟨⟨[.string (restB s),.string ⟨⟨[32]⟩⟩],_,fun _=>rfl,fun _=>rfl,fun w' _=>kl w'⟩,cP_ok hs,trivial⟩,trivial,trivial⟩ pF0
             | some k=>
              rw [lbI_some _ k hf] at kl
              have hk:=fB_lt _ _ _ hf
              simp only
              have hcl : bl ((restB s).extract (k + 1) (restB s).size) = (bl (restB s)).drop (k + 1):=by
               rw [ex_drop (restB s) (k + 1) (by omega)]
              have kc : ∀ w',Calls Tryz.prog 153 #[.string ((restB s).extract (k + 1) (restB s).size)] w' fun e w''=>e = .returned (.bool (cpsL ((bl (restB s)).drop (k + 1)))) ∧ Below w'.heap.size w' w'':=fun w'=>by
               rw [← hcl]
               exact lcaps_any _ w' (by rw [ByteArray.size_extract];omega)
              have hta : bl (s.extract (wdJ (bl s) + 1) (wdJ (bl s) + 1 + k)) = (bl (restB s)).take k:=by
               show (s.extract (wdJ (bl s) + 1) (wdJ (bl s) + 1 + k)).data.toList = _
               rw [ex_list s _ _ (by omega) (by omega),rest_list s hj]
               congr 1
               omega
              rw [← hta]
              have fb : letI:=pI s (wdJ (bl s) + 1 + k) (k : Int);BAllOk bF:=
               letI:=pI s (wdJ (bl s) + 1 + k) (k : Int)
               ⟨bok_lss (a:=(k : Int)) (c:=0) (k:=.i64) (fun _=>rfl) (fun _=>rfl) (by simp),bok_addI (a:=(k : Int)) (c:=1) (k:=.i64) (fun _=>rfl) (fun _=>rfl) (fun _=>rfl) (wi64 _ (by omega) (by omega)),bok_addI (a:=((wdJ (bl s) + 1 : Nat) : Int)) (c:=(k : Int)) (k:=.i64) (fun _=>rfl) (fun _=>rfl) (fun _=>by rw [show ((wdJ (bl s) + 1 : Nat) : Int) + (k : Int) = ((wdJ (bl s) + 1 + k : Nat) : Int) from by omega];rfl) (wi64 _ (by omega) (by omega)),trivial⟩
              have fs : letI:=pI s (wdJ (bl s) + 1 + k) (k : Int);AllP SliOk sF:=
               letI:=pI s (wdJ (bl s) + 1 + k) (k : Int)
               ⟨⟨restB s,k + 1,(restB s).size,fun _=>rfl,⟨.i64,fun _=>rfl⟩,rfl,by omega,Nat.le_refl _,fun _=>rfl⟩,trivial⟩
              cases hc : cpsL ((bl (restB s)).drop (k + 1)) with
              | false=>
               rw [hc] at kc
               rw [Bool.false_and]
               letI:=pI s (wdJ (bl s) + 1 + k) (k : Int)
               exact ok_of (wdJ (bl s) + 1 + k) (k : Int) hG (T:=tF1) ⟨ball_app fb (bP_ok 4 hs h1 hj h3 hm),iP_ok hj,allP_append fs (sP_ok hj),lP_ok,⟨⟨[.string (restB s),.string ⟨⟨[32]⟩⟩],_,fun _=>rfl,fun _=>rfl,fun w' _=>kl w'⟩,⟨[.string ((restB s).extract (k + 1) (restB s).size)],_,fun _=>rfl,fun _=>rfl,fun w' _=>kc w'⟩,cP_ok hs,trivial⟩,trivial,trivial⟩ pF1
              | true=>
               rw [hc] at kc
               rw [Bool.true_and]
               exact val_case s w hG hs 4 (wdJ (bl s) + 1 + k) (k : Int) (.sym 8) bF sF (cF2 true) (fun _=>rfl) h1 hj h3 hm (by omega) (by omega) fb fs
                (letI:=pI s (wdJ (bl s) + 1 + k) (k : Int);⟨⟨[.string (restB s),.string ⟨⟨[32]⟩⟩],_,fun _=>rfl,fun _=>rfl,fun w' _=>kl w'⟩,⟨[.string ((restB s).extract (k + 1) (restB s).size)],_,fun _=>rfl,fun _=>rfl,fun w' _=>kc w'⟩,trivial⟩) pF
           · rw [if_neg c2]
             have numc : ∀ (m : Nat) (p : List UInt8 → Bool) (c : Bool → SymF),(∀ i x,nmP[i]? = some x → (wdW (bl s) == x) = Nat.beq (0 + i) m) → (∀ a b r,runP (tN m (c r) true a b) = some (a && b && r)) → runP (tN0 m) = some false →
              (letI:=pI s 0 0;2 < (restB s).size → COk w (c (p ((bl (restB s)).drop 3)))) → Calls Tryz.prog 78 #[.string s] w fun e w'=>(∃ x,e = .returned (.tuple #[x,.bool (numb p (bl (restB s)))])) ∧ Below w.heap.size w w':=by
              intro m p c hm hr hr0 hc
              unfold numb
              rw [hrl]
              letI:=pI s 0 0
              by_cases hg : 2 < (restB s).size
              · rw [decide_eq_true hg,Bool.true_and]
                have h20 : bl ((restB s).extract 0 2) = (bl (restB s)).take 2:=by
                 show ((restB s).extract 0 2).data.toList = _
                 rw [ex_list (restB s) 0 2 (by omega) (by omega)];rfl
                have kk : ∀ w',Calls Tryz.prog 77 #[.string ((restB s).extract 0 2),.string ⟨⟨nnL⟩⟩] w' fun e w''=>e = .returned (.bool (likeL ((bl (restB s)).take 2) nnL)) ∧ Below w'.heap.size w' w'':=fun w'=>by
                 rw [← h20]
                 exact llike_any _ ⟨⟨nnL⟩⟩ w' (by rw [ByteArray.size_extract];omega) (by decide)
                have h21 : ∀ c : UInt8,((c.toNat : Int) == ((32 : Nat) : Int)) = (some c == some (32 : UInt8)):=byte_allE (by decide +kernel)
                obtain ⟨x,hx⟩:=at_some (bl (restB s)) 2 (by rw [hrl];exact hg)
                refine ok_of 0 0 hG (T:=tN m (c (p ((bl (restB s)).drop 3))) true (likeL ((bl (restB s)).take 2) nnL) ((bl (restB s))[2]? == some 32)) ⟨⟨bok_gtr (a:=(restB s).size) (c:=2) (k:=.i64) (fun _=>rfl) (fun _=>rfl) (by simp;omega),
                 bok_eql (a:=(byN (bl (restB s)) 2 : Int)) (c:=((32 : Nat) : Int)) (k:=.u8) (fun _=>rfl) (fun _=>rfl) (by unfold byN;rw [hx];exact h21 x),bP_ok m hs h1 hj h3 hm⟩,
                 ⟨⟨restB s,2,.i64,fun _=>rfl,fun _=>rfl,hg,fun _=>by rw [← byN_at (restB s) 2 hg];rfl⟩,iP_ok hj⟩,⟨⟨restB s,0,2,fun _=>rfl,rfl,⟨.i64,fun _=>rfl⟩,by omega,by omega,fun _=>rfl⟩,⟨restB s,3,(restB s).size,fun _=>rfl,⟨.i64,fun _=>rfl⟩,rfl,by omega,Nat.le_refl _,fun _=>rfl⟩,sP_ok hj⟩,lP_ok,
                 ⟨⟨[.string ((restB s).extract 0 2),.string ⟨⟨nnL⟩⟩],_,fun _=>rfl,fun _=>rfl,fun w' _=>kk w'⟩,hc hg,cP_ok hs,trivial⟩,⟨mk_ok1 (b:=s) (fun _=>rfl) (fun _=>rfl) hs,trivial⟩,trivial⟩ (hr _ _ _)
              · rw [decide_eq_false hg,Bool.false_and,Bool.false_and,Bool.false_and]
                exact ok_of 0 0 hG (T:=tN0 m) ⟨⟨bok_gtr (a:=(restB s).size) (c:=2) (k:=.i64) (fun _=>rfl) (fun _=>rfl) (by simp;omega),bP_ok m hs h1 hj h3 hm⟩,iP_ok hj,sP_ok hj,lP_ok,⟨cP_ok hs,trivial⟩,⟨mk_ok1 (b:=s) (fun _=>rfl) (fun _=>rfl) hs,trivial⟩,trivial⟩ hr0
             have h22 : 2 < (restB s).size → bl ((restB s).extract 3 (restB s).size) = (bl (restB s)).drop 3:=fun hg=>by rw [ex_drop (restB s) 3 (by omega)]
             have plc : ∀ (m : Nat) (T : Bool → Told) (r : Bool),runP (T r) = some r → (letI:=pI s 0 0;ToldOk w (T r)) → Calls Tryz.prog 78 #[.string s] w fun e w'=>(∃ x,e = .returned (.tuple #[x,.bool r])) ∧ Below w.heap.size w w':=fun m T r hr ht=>ok_of 0 0 hG ht hr
             have kg : ∀ w',Calls Tryz.prog 77 #[.string (restB s),.string ⟨⟨momL⟩⟩] w' fun e w''=>e = .returned (.bool (likeL (bl (restB s)) momL)) ∧ Below w'.heap.size w' w'':=fun w'=>llike_any (restB s) ⟨⟨momL⟩⟩ w' (by omega) (by decide)
             have kw : ∀ w',Calls Tryz.prog 156 #[.string (restB s)] w' fun e w''=>e = .returned (.bool (wordsL (bl (restB s)))) ∧ Below w'.heap.size w' w'':=fun w'=>clisted_any (restB s) w' (by omega)
             by_cases c3 : wdW (bl s) = traL
             · rw [if_pos c3]
               refine numc 5 cpsL cCap (nm_at traL rfl c3) pN5 pN05 fun hg=>⟨[.string ((restB s).extract 3 (restB s).size)],_,fun _=>rfl,fun _=>rfl,fun w' _=>?_⟩
               rw [← h22 hg]
               exact lcaps_any _ w' (by rw [ByteArray.size_extract];omega)
             · rw [if_neg c3]
               by_cases c4 : wdW (bl s) = indL
               · rw [if_pos c4]
                 refine numc 6 (fun x=>likeL x momL) cMom (nm_at indL rfl c4) pN6 pN06 fun hg=>⟨[.string ((restB s).extract 3 (restB s).size),.string ⟨⟨momL⟩⟩],_,fun _=>rfl,fun _=>rfl,fun w' _=>?_⟩
                 rw [← h22 hg]
                 exact llike_any _ ⟨⟨momL⟩⟩ w' (by rw [ByteArray.size_extract];omega) (by decide)
               · rw [if_neg c4]
                 have gc : ∀ m,(∀ i x,nmP[i]? = some x → (wdW (bl s) == x) = Nat.beq (0 + i) m) → (letI:=pI s 0 0;ToldOk w (tG m (likeL (bl (restB s)) momL))):=fun m hm=>
                  letI:=pI s 0 0
                  ⟨bP_ok m hs h1 hj h3 hm,iP_ok hj,sP_ok hj,lP_ok,⟨⟨[.string (restB s),.string ⟨⟨momL⟩⟩],_,fun _=>rfl,fun _=>rfl,fun w' _=>kg w'⟩,cP_ok hs,trivial⟩,⟨mk_ok1 (b:=s) (fun _=>rfl) (fun _=>rfl) hs,trivial⟩,trivial⟩
                 have lc : ∀ m,(∀ i x,nmP[i]? = some x → (wdW (bl s) == x) = Nat.beq (0 + i) m) → (letI:=pI s 0 0;ToldOk w (tL m (wordsL (bl (restB s))))):=fun m hm=>
                  letI:=pI s 0 0
                  ⟨bP_ok m hs h1 hj h3 hm,iP_ok hj,sP_ok hj,lP_ok,⟨⟨[.string (restB s)],_,fun _=>rfl,fun _=>rfl,fun w' _=>kw w'⟩,cP_ok hs,trivial⟩,⟨mk_ok1 (b:=s) (fun _=>rfl) (fun _=>rfl) hs,trivial⟩,trivial⟩
                 by_cases c5 : wdW (bl s) = preL ∨ wdW (bl s) = posL
                 · rw [if_pos c5]
                   rcases c5 with c | c
                   · exact ok_of 0 0 hG (gc 7 (nm_at preL rfl c)) (pG7 _)
                   · exact ok_of 0 0 hG (gc 8 (nm_at posL rfl c)) (pG8 _)
                 · rw [if_neg c5]
                   by_cases c6 : wdW (bl s) = catL ∨ wdW (bl s) = isrL ∨ wdW (bl s) = flaL
                   · rw [if_pos c6]
                     rcases c6 with c | c | c
                     · exact ok_of 0 0 hG (lc 9 (nm_at catL rfl c)) (pL9 _)
                     · exact ok_of 0 0 hG (lc 10 (nm_at isrL rfl c)) (pL10 _)
                     · exact ok_of 0 0 hG (lc 11 (nm_at flaL rfl c)) (pL11 _)
                   · rw [if_neg c6]
                     have hm:=nm_no (l:=wdW (bl s)) (by
                      intro x hx
                      simp only [nmP,List.mem_cons,List.not_mem_nil,or_false] at hx
                      simp only [not_or] at c1 c5 c6
                      rcases hx with rfl | rfl | rfl | rfl | rfl | rfl | rfl | rfl | rfl | rfl | rfl | rfl
                      · exact c0
                      · exact c1.1
                      · exact c1.2.1
                      · exact c1.2.2
                      · exact c2
                      · exact c3
                      · exact c4
                      · exact c5.1
                      · exact c5.2
                      · exact c6.1
                      · exact c6.2.1
                      · exact c6.2.2)
                     letI:=pI s 0 0
                     exact ok_of 0 0 hG (T:=tXX) ⟨bP_ok 12 hs h1 hj h3 hm,iP_ok hj,sP_ok hj,lP_ok,⟨cP_ok hs,trivial⟩,trivial,trivial⟩ pX
     · rw [if_pos (by simpa using h3)]
       letI:=pI s 0 0
       exact ok_of 0 0 hG (T:=tP2) ⟨⟨e1_ok false (by simpa using h1),e2_ok false (by simp;omega),e3_ok true hj (by simpa using h3),trivial⟩,iP_ok hj,⟨s4_ok,trivial⟩,lP_ok,⟨cP_ok hs,trivial⟩,trivial,trivial⟩ p2
end Go.Proofs.YtohbeinhlhgfiaaGreatDoor
namespace Go.Proofs.YtohbeinhlhgfiaaGreatDoor
open Go.RowKit
set_option linter.unusedVariables false
set_option linter.unusedSimpArgs false
def bkB (c : UInt8) : Bool:=c == 32 || c == 9
theorem u8_ne (x : UInt8) (n : Nat) (hn : n < 256) (h : x ≠ UInt8.ofNat n) : ¬ (x.toNat : Int) = (n : Int):=by
 intro e
 apply h
 apply UInt8.toNat_inj.1
 rw [UInt8.toNat_ofNat']
 omega
set_option maxHeartbeats 8000000 in
theorem rblank_any (b : ByteArray) (w : World) (hs : b.size ≤ 1000000) : Calls Tryz.prog 88 #[.string b] w fun e w'=>e = .returned (.bool ((bl b).all blB)) ∧ Below w.heap.size w w':=by
 have HL : Hid ((bl b).length = b.size):=bl_length b
 go_enter Tryz.func88,Tryz.ntmps88
 go_wp2
 go_loopw [3] (fun i wr=>∃ k : Nat,i = .int .i64 (k : Int) ∧ k ≤ b.size ∧ Hid (((bl b).take k).all blB = true) ∧ wr = w) (fun i _=>b.size - (intOf i).toNat)
 case atStart=>exact ⟨0,rfl,Nat.zero_le _,Lib.hid (by simp),rfl⟩
 case round=>
  obtain ⟨k,rfl,hk,hR,rfl⟩:=hrel
  by_cases hlt : k < b.size
  · obtain ⟨x,hx⟩:=at_some (bl b) k (by rw [HL.out];exact hlt)
    have X : ∀ h,b[k]'h = x:=atB_of b k x hx
    have hxl:=x.toNat_lt
    obtain ⟨h1,h2⟩:=all_step blB (bl b) k x hx hR.out
    cases hc : blB x with
    | true=>
     have e:=h1 hc
     have E:=Lib.hid e
     clear e
     clear h1 h2 hx
     have g : x = 32 ∨ x = 9:=by simpa [blB] using hc
     clear hc
     rcases g with rfl | rfl
     · go_wp2
       go_roundw
       case rel=>exact ⟨k + 1,by first | omega | go_num,by omega,E,trivial⟩
       case measure=>simp [intOf];omega
     · go_wp2
       go_roundw
       case rel=>exact ⟨k + 1,by first | omega | go_num,by omega,E,trivial⟩
       case measure=>simp [intOf];omega
    | false=>
     have e:=h2 hc
     have E:=Lib.hid e
     clear e
     have g1 : ¬ (x.toNat : Int) = 32:=u8_ne x 32 (by decide) (by intro h;subst h;cases hc)
     have g2 : ¬ (x.toNat : Int) = 9:=u8_ne x 9 (by decide) (by intro h;subst h;cases hc)
     have g3 : ((x.toNat : Int) != 32) = true:=by simpa using g1
     have g4 : ((x.toNat : Int) != 9) = true:=by simpa using g2
     clear h1 h2 hx hc g1 g2
     go_wp2
     go_ret
     exact ⟨ret_b E.out.symm,Below.refl _ _⟩
  · have e:=all_end blB (bl b) k (by rw [HL.out];omega) hR.out
    have E:=Lib.hid e
    clear e
    go_wp2
    go_ret
    exact ⟨ret_b E.out.symm,Below.refl _ _⟩
def wdK (l : List UInt8) (k : Nat) : Bool:=match l[k]? with | some c=>(c == 32 && decide (0 < k)) || cpB c | none=>true
theorem wdK_all : ∀ (l : List UInt8),wordsL l = ((List.range l.length).all (wdK l) && !l.isEmpty)
 | []=>rfl
 | c :: r=>by
  rw [List.length_cons,List.range_succ_eq_map,List.all_cons,List.all_map]
  have h1 : wdK (c :: r) 0 = cpB c:=by simp [wdK]
  have h2 : (List.range r.length).all (wdK (c :: r) ∘ Nat.succ) = r.all (fun c=>c == 32 || cpB c):=by
   have : ∀ k,(wdK (c :: r) ∘ Nat.succ) k = (match r[k]? with | some c=>c == 32 || cpB c | none=>true):=fun k=>by
    simp [wdK]
   rw [funext this]
   clear this h1
   induction r with
   | nil=>rfl
   | cons d r ih=>
    rw [List.length_cons,List.range_succ_eq_map,List.all_cons,List.all_map,List.all_cons,← ih]
    rfl
  rw [h1,h2]
  simp [wordsL]
theorem wdK_at (l : List UInt8) (k : Nat) (c : UInt8) (hc : l[k]? = some c) : wdK l k = ((c == 32 && decide (0 < k)) || cpB c):=by unfold wdK;rw [hc]
set_option maxHeartbeats 8000000 in
theorem rwords_any (b : ByteArray) (w : World) (hs : b.size ≤ 1000000) : Calls Tryz.prog 236 #[.string b] w fun e w'=>e = .returned (.bool (wordsL (bl b))) ∧ Below w.heap.size w w':=by
 have HL : Hid ((bl b).length = b.size):=bl_length b
 have HA:=Lib.hid (wdK_all (bl b))
 have K1:=Lib.hid rcap_any
 go_enter Tryz.func236,Tryz.ntmps236
 go_wp2
 go_loopw [3,4] (fun s i wr=>∃ k : Nat,i = .int .i64 (k : Int) ∧ s = .bool (decide (0 < k)) ∧ k ≤ b.size ∧ Hid ((List.range k).all (wdK (bl b)) = true) ∧ wr = w) (fun _ i _=>b.size - (intOf i).toNat)
 case atStart=>exact ⟨0,rfl,rfl,Nat.zero_le _,Lib.hid rfl,rfl⟩
 case round=>
  obtain ⟨k,rfl,rfl,hk,hR,rfl⟩:=hrel
  by_cases hlt : k < b.size
  · obtain ⟨x,hx⟩:=at_some (bl b) k (by rw [HL.out];exact hlt)
    have X : ∀ h,b[k]'h = x:=atB_of b k x hx
    have hxl:=x.toNat_lt
    obtain ⟨h1,h2⟩:=range_step (wdK (bl b)) (bl b).length k (by rw [HL.out];exact hlt) hR.out
    rw [wdK_at _ _ _ hx] at h1 h2
    clear hx
    have k2:=fun w=>K1.out x w
    by_cases hq : x = 32 ∧ 0 < k
    · obtain ⟨hq1,hq2⟩:=hq
      subst hq1
      have e:=h1 (by rw [decide_eq_true hq2];rfl)
      have hk0 : (k : Int) > 0:=by omega
      have ed : decide (0 < k) = true:=decide_eq_true hq2
      have E:=Lib.hid e
      clear e
      clear h1 h2 k2
      go_wp2
      go_roundw
      case rel=>exact ⟨k + 1,by first | omega | go_num,by rw [ed,decide_eq_true (Nat.succ_pos k)],by omega,E,trivial⟩
      case measure=>simp [intOf];omega
    · cases hc : cpB x with
      | true=>
       rw [hc] at k2
       have e:=h1 (by rw [hc,Bool.or_true])
       have g1 : ¬ (x.toNat : Int) = 32:=u8_ne x 32 (by decide) (by intro h;subst h;cases hc)
       have g3 : ((x.toNat : Int) == 32) = false:=by simpa using g1
       have E:=Lib.hid e
       have K2:=Lib.hid k2
       clear e k2
       clear h1 h2 hc hq
       go_wp2_with (go_at_call 235;refine (K2.out _).mono ?_;rintro e w1 ⟨rfl,rfl⟩)
       go_roundw
       case rel=>exact ⟨k + 1,by first | omega | go_num,by rw [decide_eq_true (Nat.succ_pos k)],by omega,E,trivial⟩
       case measure=>simp [intOf];omega
      | false=>
       rw [hc] at k2
       have e : wordsL (bl b) = false:=by
        rw [HA.out,h2 (by
         rw [hc,Bool.or_false,Bool.and_eq_false_iff]
         by_cases h : x = 32
         · exact .inr (decide_eq_false fun h'=>hq ⟨h,h'⟩)
         · exact .inl (by rw [beq_eq_false_iff_ne];exact h))]
        rfl
       have E:=Lib.hid e
       have K2:=Lib.hid k2
       clear e k2
       clear h1 h2 hc
       by_cases h : x = 32
       · subst h
         have hk0 : k = 0:=by have:=hq;simp at this;exact this
         subst hk0
         clear hq
         go_wp2_with (go_at_call 235;refine (K2.out _).mono ?_;rintro e w1 ⟨rfl,rfl⟩)
         go_ret
         exact ⟨ret_b E.out.symm,Below.refl _ _⟩
       · have g1 : ¬ (x.toNat : Int) = 32:=u8_ne x 32 (by decide) h
         have g3 : ((x.toNat : Int) == 32) = false:=by simpa using g1
         clear hq h
         go_wp2_with (go_at_call 235;refine (K2.out _).mono ?_;rintro e w1 ⟨rfl,rfl⟩)
         go_ret
         exact ⟨ret_b E.out.symm,Below.refl _ _⟩
  · have e : wordsL (bl b) = decide (0 < k):=by
     rw [HA.out,HL.out,show b.size = k by omega,hR.out,Bool.true_and,Bool.eq_iff_iff,decide_eq_true_iff,Bool.not_eq_true',List.isEmpty_eq_false_iff,← List.length_pos_iff,HL.out]
     omega
    have E:=Lib.hid e
    clear e
    go_wp2
    go_ret
    exact ⟨ret_b E.out.symm,Below.refl _ _⟩
end Go.Proofs.YtohbeinhlhgfiaaGreatDoor
namespace Go.Proofs.YtohbeinhlhgfiaaGreatDoor
open Go.RowKit
set_option linter.unusedVariables false
set_option linter.unusedSimpArgs false
theorem blank_set (c : UInt8) : List.contains [32,9] c = blB c:=by
 unfold blB
 simp [List.contains,List.elem]
 cases h1 : (c == 32) <;> cases h2 : (c == 9) <;> simp_all
theorem dropWhile_nil (p : UInt8 → Bool) : ∀ l : List UInt8,(l.dropWhile p).isEmpty = l.all p
 | []=>rfl
 | c :: l=>by
  rw [List.dropWhile_cons,List.all_cons]
  cases h : p c with
  | true=>simp only [if_true,Bool.true_and];exact dropWhile_nil p l
  | false=>rfl
theorem dropWhile_all (p : UInt8 → Bool) : ∀ l : List UInt8,(l.dropWhile p).all p = l.all p
 | []=>rfl
 | c :: l=>by
  rw [List.dropWhile_cons,List.all_cons]
  cases h : p c with
  | true=>simp only [if_true,Bool.true_and];exact dropWhile_all p l
  | false=>simp [h]
theorem trim_blank (l : List UInt8) : (Lib.trimS l [32,9]).isEmpty = blankL l:=by
 have hp : (fun c : UInt8=>List.contains [32,9] c) = blB:=funext blank_set
 unfold Lib.trimS Lib.trimLeftS Lib.trimRightS blankL
 simp only [hp]
 rw [dropWhile_nil,List.all_reverse,dropWhile_all,List.all_reverse]
theorem trim_any (s : ByteArray) (w : World) (hs : s.size ≤ 1000000) : Calls Tryz.prog 79 #[.string s,.string ⟨#[32,9]⟩] w fun e w'=>e = .returned (.string ⟨(Lib.trimS s.data.toList [32,9]).toArray⟩) ∧ Below w.heap.size w w':=
 Any.strings_Trim_laid Tryz.lays160 (by kernel_rfl) s ⟨#[32,9]⟩ w (by omega) (by decide) (ascii_of_all (by decide))
def textsM (s next : List UInt8) : Int:=if s = [] then 0 else kindM s next
set_option maxRecDepth 100000 in
set_option maxHeartbeats 16000000 in
theorem texts_any (F N : ByteArray) (w : World) (hG : GW w) (hF : F.size ≤ 1000000) (hN : N.size ≤ 1000000) : Calls Tryz.prog 29 #[.string F,.string N] w fun e w'=>
 e = .returned (.tuple #[.int .i64 (textsM (bl F) (bl N)),.bool (textsM (bl F) (bl N) != 0)]) ∧ Below w.heap.size w w':=by
 have hlen:=bl_length F
 by_cases h0 : F.size = 0
 · have hb : F = ⟨#[]⟩:=by apply ByteArray.ext;apply Array.eq_empty_of_size_eq_zero;exact h0
   subst hb
   clear hlen h0
   go_enter Tryz.func29,Tryz.ntmps29
   go_wp2
   go_ret2
   exact ⟨rfl,Below.refl _ _⟩
 · obtain ⟨c,hc0⟩:=at_some (bl F) 0 (by omega)
   have hnil : bl F ≠ []:=by intro h;rw [h] at hc0;cases hc0
   have hne : F.toList.isEmpty = false:=by
    rw [ByteArray.toList_eq]
    show (bl F).isEmpty = false
    rw [List.isEmpty_eq_false_iff];exact hnil
   have hM : textsM (bl F) (bl N) = kindM (bl F) (bl N):=by unfold textsM;rw [if_neg hnil]
   rw [hM]
   clear hM
   by_cases h1 : bl F = scrL
   · have hb : F = ⟨#[91,83,99,114,105,112,116,32,73,110,102,111,93]⟩:=by
      apply ByteArray.ext
      have : F.data.toList = scrL:=h1
      apply Array.toList_inj.1
      rw [this];rfl
     subst hb
     clear hlen h0 hc0 hnil hne h1
     go_enter Tryz.func29,Tryz.ntmps29
     go_wp2
     go_ret2
     exact ⟨rfl,Below.refl _ _⟩
   · have hs1 : (F.toList == [91,83,99,114,105,112,116,32,73,110,102,111,93]) = false:=by
      rw [ByteArray.toList_eq,beq_eq_false_iff_ne];exact h1
     have X : ∀ h,F[0]'h = c:=atB_of F 0 c hc0
     have hpos : 0 < F.size:=by omega
     have hcl:=c.toNat_lt
     have hhd : (bl F).head? = some c:=by rw [List.head?_eq_getElem?];exact hc0
     obtain ⟨D,hD⟩ : ∃ D,D = N.extract 0 29:=⟨_,rfl⟩
     have kd:=fun w=>pdigs_any F w hF
     have kl : 29 ≤ N.size → ∀ w',Calls Tryz.prog 77 #[.string (N.extract 0 29),.string ⟨⟨timL⟩⟩] w' fun e w''=>e = .returned (.bool (likeL ((bl N).take 29) timL)) ∧ Below w'.heap.size w' w'':=fun h29 w'=>by
      have:=llike_any (N.extract 0 29) ⟨⟨timL⟩⟩ w' (by rw [ByteArray.size_extract];omega) (by decide)
      rwa [show bl (N.extract 0 29) = (bl N).take 29 from by show (N.extract 0 29).data.toList = _;rw [ex_list N 0 29 (by omega) h29];rfl] at this
     have kp:=fun w hG=>pieces_any F w hG hF
     have kt:=fun w=>trim_any F w hF
     have htb : (⟨(Lib.trimS F.data.toList [32,9]).toArray⟩ : ByteArray).toList.isEmpty = blankL (bl F):=by
      rw [ByteArray.toList_eq]
      show (Lib.trimS F.data.toList [32,9]).isEmpty = _
      exact trim_blank _
     obtain ⟨Z,hZ⟩ : ∃ Z : ByteArray,Z = ⟨(Lib.trimS F.data.toList [32,9]).toArray⟩:=⟨_,rfl⟩
     rw [← hZ] at htb kt
     have hbl : (bl N).length = N.size:=bl_length N
     have HG:=Lib.hid hG
     have KP:=Lib.hid kp
     have KT:=Lib.hid kt
     have HH:=Lib.hid hhd
     have H1:=Lib.hid h1
     have HBL:=Lib.hid hbl
     clear hlen h0 hc0 hnil kp kt hZ hD hhd h1 hG hbl
     cases hdd : dgsL (bl F) with
     | true=>
      rw [hdd] at kd
      have KD:=Lib.hid kd
      have HDD:=Lib.hid hdd
      clear kd hdd
      by_cases hg : 29 ≤ N.size
      · have hg' : (29 : Int) ≤ (N.size : Int):=by omega
        have kl2:=kl hg
        clear kl
        cases hk : likeL ((bl N).take 29) timL with
        | true=>
         rw [hk] at kl2
         have KL:=Lib.hid kl2
         have e : kindM (bl F) (bl N) = 5:=by unfold kindM;rw [if_neg H1.out,if_pos ⟨HDD.out,by rw [HBL.out];exact hg,hk⟩]
         rw [e]
         clear e hk kl2 htb
         go_enter Tryz.func29,Tryz.ntmps29
         go_wp2_with (first
          | (go_at_call 76;with_reducible refine (KD.out _).mono ?_;rintro e w1 ⟨rfl,hb1⟩)
          | (go_at_call 77;refine (KL.out _).mono ?_;rintro e w2 ⟨rfl,hb2⟩)
          | (go_at_call 78;with_reducible refine (KP.out _ (HG.out.bel (bt hb1 hb2))).mono ?_;rintro e w3 ⟨⟨x,rfl⟩,hb3⟩)
          | (go_at_call 79;refine (KT.out _).mono ?_;rintro e w4 ⟨rfl,hb4⟩)
          | fail)
         go_ret2
         exact ⟨rfl,bt hb1 hb2⟩
        | false=>
         rw [hk] at kl2
         have KL:=Lib.hid kl2
         have HK:=Lib.hid hk
         clear hk kl2
         by_cases hq : c = 91
         · subst hq
           have e : kindM (bl F) (bl N) = 7:=by unfold kindM;rw [if_neg H1.out,if_neg (fun h=>by rw [HK.out] at h;exact Bool.noConfusion h.2.2),HH.out,if_pos rfl]
           rw [e]
           clear e htb
           go_enter Tryz.func29,Tryz.ntmps29
           go_wp2_with (first
            | (go_at_call 76;with_reducible refine (KD.out _).mono ?_;rintro e w1 ⟨rfl,hb1⟩)
            | (go_at_call 77;refine (KL.out _).mono ?_;rintro e w2 ⟨rfl,hb2⟩)
            | (go_at_call 78;with_reducible refine (KP.out _ (HG.out.bel (bt hb1 hb2))).mono ?_;rintro e w3 ⟨⟨x,rfl⟩,hb3⟩)
            | (go_at_call 79;refine (KT.out _).mono ?_;rintro e w4 ⟨rfl,hb4⟩)
            | fail)
           go_ret2
           exact ⟨rfl,bt hb1 hb2⟩
         · have g3 : ((c.toNat : Int) == 91) = false:=by rw [beq_eq_false_iff_ne];exact u8_ne c 91 (by decide) hq
           have hq' : ¬ some c = some (91 : UInt8):=fun h=>hq (Option.some.inj h)
           cases hc : cueOk (bl F) with
           | true=>
            have KP2:=Lib.hid KP.out
            cases hb : blankL (bl F) with
            | true=>
             have e : kindM (bl F) (bl N) = 0:=by unfold kindM;rw [if_neg H1.out,if_neg (fun h=>by rw [HK.out] at h;exact Bool.noConfusion h.2.2),HH.out,if_neg hq',hc,hb];rfl
             rw [e]
             rw [hb] at htb
             have hp:=KP.out
             rw [hc] at hp
             have KP:=Lib.hid hp
             clear e hp hc hb hq hq' KP2
             go_enter Tryz.func29,Tryz.ntmps29
             go_wp2_with (first
              | (go_at_call 76;with_reducible refine (KD.out _).mono ?_;rintro e w1 ⟨rfl,hb1⟩)
              | (go_at_call 77;refine (KL.out _).mono ?_;rintro e w2 ⟨rfl,hb2⟩)
              | (go_at_call 78;with_reducible refine (KP.out _ (HG.out.bel (bt hb1 hb2))).mono ?_;rintro e w3 ⟨⟨x,rfl⟩,hb3⟩)
              | (go_at_call 79;refine (KT.out _).mono ?_;rintro e w4 ⟨rfl,hb4⟩)
              | fail)
             go_ret2
             exact ⟨rfl,bt (bt (bt hb1 hb2) hb3) hb4⟩
            | false=>
             have e : kindM (bl F) (bl N) = 4:=by unfold kindM;rw [if_neg H1.out,if_neg (fun h=>by rw [HK.out] at h;exact Bool.noConfusion h.2.2),HH.out,if_neg hq',hc,hb];rfl
             rw [e]
             rw [hb] at htb
             have hp:=KP.out
             rw [hc] at hp
             have KP:=Lib.hid hp
             clear e hp hc hb hq hq' KP2
             go_enter Tryz.func29,Tryz.ntmps29
             go_wp2_with (first
              | (go_at_call 76;with_reducible refine (KD.out _).mono ?_;rintro e w1 ⟨rfl,hb1⟩)
              | (go_at_call 77;refine (KL.out _).mono ?_;rintro e w2 ⟨rfl,hb2⟩)
              | (go_at_call 78;with_reducible refine (KP.out _ (HG.out.bel (bt hb1 hb2))).mono ?_;rintro e w3 ⟨⟨x,rfl⟩,hb3⟩)
              | (go_at_call 79;refine (KT.out _).mono ?_;rintro e w4 ⟨rfl,hb4⟩)
              | fail)
             go_ret2
             exact ⟨rfl,bt (bt (bt hb1 hb2) hb3) hb4⟩
           | false=>
            have e : kindM (bl F) (bl N) = 0:=by unfold kindM;rw [if_neg H1.out,if_neg (fun h=>by rw [HK.out] at h;exact Bool.noConfusion h.2.2),HH.out,if_neg hq',hc];rfl
            rw [e]
            have hp:=KP.out
            rw [hc] at hp
            have KP:=Lib.hid hp
            clear e hp hc hq hq' htb
            go_enter Tryz.func29,Tryz.ntmps29
            go_wp2_with (first
             | (go_at_call 76;with_reducible refine (KD.out _).mono ?_;rintro e w1 ⟨rfl,hb1⟩)
             | (go_at_call 77;refine (KL.out _).mono ?_;rintro e w2 ⟨rfl,hb2⟩)
             | (go_at_call 78;with_reducible refine (KP.out _ (HG.out.bel (bt hb1 hb2))).mono ?_;rintro e w3 ⟨⟨x,rfl⟩,hb3⟩)
             | (go_at_call 79;refine (KT.out _).mono ?_;rintro e w4 ⟨rfl,hb4⟩)
             | fail)
            go_ret2
            exact ⟨rfl,bt (bt hb1 hb2) hb3⟩
      · have hg' : ¬ (29 : Int) ≤ (N.size : Int):=by omega
        clear kl
        by_cases hq : c = 91
        · subst hq
          have e : kindM (bl F) (bl N) = 7:=by unfold kindM;rw [if_neg H1.out,if_neg (fun h=>hg (by rw [← HBL.out];exact h.2.1)),HH.out,if_pos rfl]
          rw [e]
          clear e htb
          go_enter Tryz.func29,Tryz.ntmps29
          go_wp2_with (first
           | (go_at_call 76;with_reducible refine (KD.out _).mono ?_;rintro e w1 ⟨rfl,hb1⟩)
           | (go_at_call 77;refine (KL.out _).mono ?_;rintro e w2 ⟨rfl,hb2⟩)
           | (go_at_call 78;with_reducible refine (KP.out _ (HG.out.bel (hb1))).mono ?_;rintro e w3 ⟨⟨x,rfl⟩,hb3⟩)
           | (go_at_call 79;refine (KT.out _).mono ?_;rintro e w4 ⟨rfl,hb4⟩)
           | fail)
          go_ret2
          exact ⟨rfl,hb1⟩
        · have g3 : ((c.toNat : Int) == 91) = false:=by rw [beq_eq_false_iff_ne];exact u8_ne c 91 (by decide) hq
          have hq' : ¬ some c = some (91 : UInt8):=fun h=>hq (Option.some.inj h)
          cases hc : cueOk (bl F) with
          | true=>
           have KP2:=Lib.hid KP.out
           cases hb : blankL (bl F) with
           | true=>
            have e : kindM (bl F) (bl N) = 0:=by unfold kindM;rw [if_neg H1.out,if_neg (fun h=>hg (by rw [← HBL.out];exact h.2.1)),HH.out,if_neg hq',hc,hb];rfl
            rw [e]
            rw [hb] at htb
            have hp:=KP.out
            rw [hc] at hp
            have KP:=Lib.hid hp
            clear e hp hc hb hq hq' KP2
            go_enter Tryz.func29,Tryz.ntmps29
            go_wp2_with (first
             | (go_at_call 76;with_reducible refine (KD.out _).mono ?_;rintro e w1 ⟨rfl,hb1⟩)
             | (go_at_call 77;refine (KL.out _).mono ?_;rintro e w2 ⟨rfl,hb2⟩)
             | (go_at_call 78;with_reducible refine (KP.out _ (HG.out.bel (hb1))).mono ?_;rintro e w3 ⟨⟨x,rfl⟩,hb3⟩)
             | (go_at_call 79;refine (KT.out _).mono ?_;rintro e w4 ⟨rfl,hb4⟩)
             | fail)
            go_ret2
            exact ⟨rfl,bt (bt (hb1) hb3) hb4⟩
           | false=>
            have e : kindM (bl F) (bl N) = 4:=by unfold kindM;rw [if_neg H1.out,if_neg (fun h=>hg (by rw [← HBL.out];exact h.2.1)),HH.out,if_neg hq',hc,hb];rfl
            rw [e]
            rw [hb] at htb
            have hp:=KP.out
            rw [hc] at hp
            have KP:=Lib.hid hp
            clear e hp hc hb hq hq' KP2
            go_enter Tryz.func29,Tryz.ntmps29
            go_wp2_with (first
             | (go_at_call 76;with_reducible refine (KD.out _).mono ?_;rintro e w1 ⟨rfl,hb1⟩)
             | (go_at_call 77;refine (KL.out _).mono ?_;rintro e w2 ⟨rfl,hb2⟩)
             | (go_at_call 78;with_reducible refine (KP.out _ (HG.out.bel (hb1))).mono ?_;rintro e w3 ⟨⟨x,rfl⟩,hb3⟩)
             | (go_at_call 79;refine (KT.out _).mono ?_;rintro e w4 ⟨rfl,hb4⟩)
             | fail)
            go_ret2
            exact ⟨rfl,bt (bt (hb1) hb3) hb4⟩
          | false=>
           have e : kindM (bl F) (bl N) = 0:=by unfold kindM;rw [if_neg H1.out,if_neg (fun h=>hg (by rw [← HBL.out];exact h.2.1)),HH.out,if_neg hq',hc];rfl
           rw [e]
           have hp:=KP.out
           rw [hc] at hp
           have KP:=Lib.hid hp
           clear e hp hc hq hq' htb
           go_enter Tryz.func29,Tryz.ntmps29
           go_wp2_with (first
            | (go_at_call 76;with_reducible refine (KD.out _).mono ?_;rintro e w1 ⟨rfl,hb1⟩)
            | (go_at_call 77;refine (KL.out _).mono ?_;rintro e w2 ⟨rfl,hb2⟩)
            | (go_at_call 78;with_reducible refine (KP.out _ (HG.out.bel (hb1))).mono ?_;rintro e w3 ⟨⟨x,rfl⟩,hb3⟩)
            | (go_at_call 79;refine (KT.out _).mono ?_;rintro e w4 ⟨rfl,hb4⟩)
            | fail)
           go_ret2
           exact ⟨rfl,bt (hb1) hb3⟩
     | false=>
      rw [hdd] at kd
      have KD:=Lib.hid kd
      have HDD:=Lib.hid hdd
      clear kd hdd kl
      by_cases hq : c = 91
      · subst hq
        have e : kindM (bl F) (bl N) = 7:=by unfold kindM;rw [if_neg H1.out,if_neg (fun h=>by rw [HDD.out] at h;exact Bool.noConfusion h.1),HH.out,if_pos rfl]
        rw [e]
        clear e htb
        go_enter Tryz.func29,Tryz.ntmps29
        go_wp2_with (first
         | (go_at_call 76;with_reducible refine (KD.out _).mono ?_;rintro e w1 ⟨rfl,hb1⟩)
         | (go_at_call 77;refine (KL.out _).mono ?_;rintro e w2 ⟨rfl,hb2⟩)
         | (go_at_call 78;with_reducible refine (KP.out _ (HG.out.bel (hb1))).mono ?_;rintro e w3 ⟨⟨x,rfl⟩,hb3⟩)
         | (go_at_call 79;refine (KT.out _).mono ?_;rintro e w4 ⟨rfl,hb4⟩)
         | fail)
        go_ret2
        exact ⟨rfl,hb1⟩
      · have g3 : ((c.toNat : Int) == 91) = false:=by rw [beq_eq_false_iff_ne];exact u8_ne c 91 (by decide) hq
        have hq' : ¬ some c = some (91 : UInt8):=fun h=>hq (Option.some.inj h)
        cases hc : cueOk (bl F) with
        | true=>
         have KP2:=Lib.hid KP.out
         cases hb : blankL (bl F) with
         | true=>
          have e : kindM (bl F) (bl N) = 0:=by unfold kindM;rw [if_neg H1.out,if_neg (fun h=>by rw [HDD.out] at h;exact Bool.noConfusion h.1),HH.out,if_neg hq',hc,hb];rfl
          rw [e]
          rw [hb] at htb
          have hp:=KP.out
          rw [hc] at hp
          have KP:=Lib.hid hp
          clear e hp hc hb hq hq' KP2
          go_enter Tryz.func29,Tryz.ntmps29
          go_wp2_with (first
           | (go_at_call 76;with_reducible refine (KD.out _).mono ?_;rintro e w1 ⟨rfl,hb1⟩)
           | (go_at_call 77;refine (KL.out _).mono ?_;rintro e w2 ⟨rfl,hb2⟩)
           | (go_at_call 78;with_reducible refine (KP.out _ (HG.out.bel (hb1))).mono ?_;rintro e w3 ⟨⟨x,rfl⟩,hb3⟩)
           | (go_at_call 79;refine (KT.out _).mono ?_;rintro e w4 ⟨rfl,hb4⟩)
           | fail)
          go_ret2
          exact ⟨rfl,bt (bt (hb1) hb3) hb4⟩
         | false=>
          have e : kindM (bl F) (bl N) = 4:=by unfold kindM;rw [if_neg H1.out,if_neg (fun h=>by rw [HDD.out] at h;exact Bool.noConfusion h.1),HH.out,if_neg hq',hc,hb];rfl
          rw [e]
          rw [hb] at htb
          have hp:=KP.out
          rw [hc] at hp
          have KP:=Lib.hid hp
          clear e hp hc hb hq hq' KP2
          go_enter Tryz.func29,Tryz.ntmps29
          go_wp2_with (first
           | (go_at_call 76;with_reducible refine (KD.out _).mono ?_;rintro e w1 ⟨rfl,hb1⟩)
           | (go_at_call 77;refine (KL.out _).mono ?_;rintro e w2 ⟨rfl,hb2⟩)
           | (go_at_call 78;with_reducible refine (KP.out _ (HG.out.bel (hb1))).mono ?_;rintro e w3 ⟨⟨x,rfl⟩,hb3⟩)
           | (go_at_call 79;refine (KT.out _).mono ?_;rintro e w4 ⟨rfl,hb4⟩)
           | fail)
          go_ret2
          exact ⟨rfl,bt (bt (hb1) hb3) hb4⟩
        | false=>
         have e : kindM (bl F) (bl N) = 0:=by unfold kindM;rw [if_neg H1.out,if_neg (fun h=>by rw [HDD.out] at h;exact Bool.noConfusion h.1),HH.out,if_neg hq',hc];rfl
         rw [e]
         have hp:=KP.out
         rw [hc] at hp
         have KP:=Lib.hid hp
         clear e hp hc hq hq' htb
         go_enter Tryz.func29,Tryz.ntmps29
         go_wp2_with (first
          | (go_at_call 76;with_reducible refine (KD.out _).mono ?_;rintro e w1 ⟨rfl,hb1⟩)
          | (go_at_call 77;refine (KL.out _).mono ?_;rintro e w2 ⟨rfl,hb2⟩)
          | (go_at_call 78;with_reducible refine (KP.out _ (HG.out.bel (hb1))).mono ?_;rintro e w3 ⟨⟨x,rfl⟩,hb3⟩)
          | (go_at_call 79;refine (KT.out _).mono ?_;rintro e w4 ⟨rfl,hb4⟩)
          | fail)
         go_ret2
         exact ⟨rfl,bt (hb1) hb3⟩
end Go.Proofs.YtohbeinhlhgfiaaGreatDoor
