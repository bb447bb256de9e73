/- Plain: the pieces of what a frame has (layer 14): read and printed. -/
import Derived.Test.YtmfjmgjhfplijaaGreatDoorEa
import Derived.Test.YtmfjmgjhfplijaaGreatDoorMCi
import Derived.Test.YtmfjmgjhfplijaaGreatDoorMSk
import Derived.Test.YtmfjmgjhfplijaaGreatDoorMZA
import Derived.Test.YtmfjmgjhfplijaaGreatDoorMPo
import Derived.Test.YtmfjmgjhfplijaaGreatDoorMOx
import Derived.Test.YtmfjmgjhfplijaaGreatDoorMBj
import Derived.Test.YtmfjmgjhfplijaaGreatDoorMPu
import Derived.Test.YtmfjmgjhfplijaaGreatDoorMCk
import Derived.Test.YtmfjmgjhfplijaaGreatDoorMRx
import Derived.Test.YtmfjmgjhfplijaaGreatDoorMTm
import Derived.Test.YtmfjmgjhfplijaaGreatDoorMCp
namespace Go.Proofs.YtmfjmgjhfplijaaGreatDoor
open Go.RowKit
set_option linter.unusedVariables false
set_option linter.unusedSimpArgs false

/-- a piece. -/
structure PF where
  name : ByteArray
  raw : Bool
  text : ByteArray
  set : Int
/-- a piece's name by its letter. -/
def nameF (c : UInt8) : ByteArray :=
  if c = 108 then ⟨#[108, 97, 110, 103, 117, 97, 103, 101]⟩ else if c = 102 then ⟨#[102, 111, 114, 109, 97, 116]⟩ else if c = 122 then ⟨#[109, 105, 109, 101]⟩
  else if c = 107 then ⟨#[107, 105, 110, 100]⟩ else if c = 100 then ⟨#[100, 101, 115, 99, 114, 105, 112, 116, 105, 111, 110]⟩ else if c = 116 then ⟨#[116, 101, 120, 116]⟩ else ⟨#[100, 97, 116, 97]⟩
/-- is it a text's letter? -/
def isT (c : UInt8) : Bool := c == 100 || c == 116
def layP (n : Nat) (a b c d e : List UInt8) (f : UInt8) (id : List UInt8) : List UInt8 :=
  if id = a then [100, 116] else if id = b ∨ id = c then [108, 100, 116] else if id = d then [100, 114] else if id = e then [f, 107, 100, 114] else if id.length = n ∧ id.head? = some 84 then [116] else []
/-- of which pieces a frame is. -/
def layM (v : Int) (id : List UInt8) : List UInt8 :=
  if v = 2 then layP 3 [84, 88, 88] [67, 79, 77] [85, 76, 84] [87, 88, 88] [80, 73, 67] 102 id
  else if v = 3 ∨ v = 4 then layP 4 [84, 88, 88, 88] [67, 79, 77, 77] [85, 83, 76, 84] [87, 88, 88, 88] [65, 80, 73, 67] 122 id else []
def isLay (y : List UInt8) : Prop := y = [] ∨ y = [116] ∨ y = [100, 116] ∨ y = [108, 100, 116] ∨ y = [100, 114] ∨ y = [102, 107, 100, 114] ∨ y = [122, 107, 100, 114]
theorem layP_is (n : Nat) (a b c d e : List UInt8) (f : UInt8) (id : List UInt8) (hf : f = 102 ∨ f = 122) : isLay (layP n a b c d e f id) := by
  unfold layP isLay
  split
  · simp
  · split
    · simp
    · split
      · simp
      · split
        · rcases hf with rfl | rfl <;> simp
        · split <;> simp
theorem layM_is (v : Int) (id : List UInt8) : isLay (layM v id) := by
  unfold layM
  split
  · exact layP_is _ _ _ _ _ _ _ _ (.inl rfl)
  · split
    · exact layP_is _ _ _ _ _ _ _ _ (.inr rfl)
    · exact .inl rfl
theorem lay_v (v : Int) (id : List UInt8) (h : layM v id ≠ []) : v = 2 ∨ v = 3 ∨ v = 4 := by
  unfold layM at h
  split at h
  · next a => exact .inl a
  · split at h
    · next a => exact .inr a
    · exact absurd rfl h

/-- how far it is to an end, looked for at each so manieth byte. -/
def findE (e : List UInt8) : Nat → List UInt8 → Option Nat
  | 0, _ => none
  | f + 1, l => if l.length < e.length then none else if l.take e.length = e then some 0 else (findE e f (l.drop e.length)).map (· + e.length)
def untilR (x : RS) (e : List UInt8) : RS × ByteArray :=
  if x.e ≠ 0 then (x, ⟨#[]⟩) else match findE e (x.s.size + 1) ((bl x.s).drop x.n) with
  | some p => ({ x with n := x.n + p + e.length }, x.s.extract x.n (x.n + p))
  | none => (shortR x, ⟨#[]⟩)
def endB (enc : Nat) : List UInt8 := if enc = 1 ∨ enc = 2 then [0, 0] else [0]
/-- a text in a charset: its signs, or the fault and its place. -/
noncomputable def dcF (c : Int) (l : List UInt8) : List UInt8 × Int × Int :=
  if 0 ≤ c ∧ c ≤ 9 then match decT (tokC c) l with
    | (u, none) => (u, 0, 0)
    | (_, some k) => ([], 2, (k : Int))
  else ([], 5, 0)
def bigF (l : List UInt8) : Bool := decide (l.take 2 = [254, 255])
def markF (l : List UInt8) : Bool := bigF l || decide (l.take 2 = [255, 254])
/-- .. behind a mark. -/
def mdF (l : List UInt8) : List UInt8 × Int × Int :=
  if l = [] then ([], 0, 0) else if markF l = false then ([], 2, 0) else match decT (tokW (bigF l)) (l.drop 2) with
    | (u, none) => (u, 0, 0)
    | (_, some k) => ([], 2, (k : Int) + 2)
noncomputable def wdF (R : List UInt8 → Int) (enc : Nat) (l : List UInt8) : Int × List UInt8 × Int × Int :=
  if enc = 0 then (R l, dcF (R l) l) else if enc = 1 then (if bigF l = true then 9 else 8, mdF l) else if enc = 2 then (9, dcF 9 l) else (7, dcF 7 l)
noncomputable def wordsR (R : List UInt8 → Int) (enc : Nat) (x : RS) (b : ByteArray) (at_ : Int) : RS × ByteArray × Int :=
  if (wdF R enc (bl b)).2.2.1 = 0 then (x, ⟨(wdF R enc (bl b)).2.1.toArray⟩, (wdF R enc (bl b)).1) else (failR x (wdF R enc (bl b)).2.2.1 (at_ + (wdF R enc (bl b)).2.2.2), ⟨#[]⟩, 0)
/-- the bytes of a letter's piece. -/
def rawR (enc : Nat) (x : RS) (c : UInt8) : RS × ByteArray :=
  if c = 108 ∨ c = 102 then takeR x 3 else if c = 107 then takeR x 1 else if c = 122 then untilR x [0] else if c = 100 then untilR x (endB enc) else takeR x (leftR x)
noncomputable def pieceR (R : List UInt8 → Int) (enc : Nat) (x : RS) (c : UInt8) : RS × PF :=
  if isT c = true then ((wordsR R enc (rawR enc x c).1 (rawR enc x c).2 ((x.b : Int) + x.n)).1, ⟨nameF c, false, (wordsR R enc (rawR enc x c).1 (rawR enc x c).2 ((x.b : Int) + x.n)).2.1, (wordsR R enc (rawR enc x c).1 (rawR enc x c).2 ((x.b : Int) + x.n)).2.2⟩)
  else ((rawR enc x c).1, ⟨nameF c, true, (rawR enc x c).2, 0⟩)
noncomputable def piecesR (R : List UInt8 → Int) (enc : Nat) : List UInt8 → RS → List PF → List PF × Int × Int
  | [], _, acc => (acc, 0, 0)
  | c :: r, x, acc => if (pieceR R enc x c).1.e ≠ 0 then ([], (pieceR R enc x c).1.e, (pieceR R enc x c).1.a) else piecesR R enc r (pieceR R enc x c).1 (acc ++ [(pieceR R enc x c).2])
def mayM (v : Int) (enc : Nat) : Bool := decide (enc ≤ 1 ∨ (v = 4 ∧ enc ≤ 3))
/-- the pieces of what a frame has, of this layout; or the fault. -/
noncomputable def fparF (R : List UInt8 → Int) (v : Int) (y : List UInt8) (body : ByteArray) : List PF × Int × Int :=
  if y = [] then ([⟨nameF 114, true, body, 0⟩], 0, 0) else match bl body with
  | [] => ([], 1, 0)
  | b :: _ => if mayM v b.toNat = false then ([], 1, 0) else piecesR R b.toNat y ⟨body, 1, 0, 0, 0⟩ []

/-- a piece that may be printed. -/
def gP (c : UInt8) (p : PF) : Prop := p.name = nameF c ∧ p.raw = !isT c ∧ ((c = 108 ∨ c = 102) → p.text.size = 3) ∧ (c = 107 → p.text.size = 1) ∧ ((c = 122 ∨ c = 100) → nz (bl p.text) = true) ∧ (isT c = true → (scanL (bl p.text)).2 = none)
def goodL : List UInt8 → List PF → Prop
  | [], [] => True
  | c :: r, p :: q => gP c p ∧ goodL r q
  | _, _ => False
theorem goodL_len : ∀ (y : List UInt8) (l : List PF), goodL y l → l.length = y.length
  | [], [], _ => rfl
  | c :: r, p :: q, h => by rw [List.length_cons, List.length_cons, goodL_len r q h.2]
  | [], _ :: _, h => h.elim
  | _ :: _, [], h => h.elim
theorem goodL_snoc : ∀ (y : List UInt8) (l : List PF) (c : UInt8) (p : PF), goodL y l → gP c p → goodL (y ++ [c]) (l ++ [p])
  | [], [], _, _, _, h => ⟨h, trivial⟩
  | _ :: r, _ :: q, c, p, h, g => ⟨h.1, goodL_snoc r q c p h.2 g⟩
  | [], _ :: _, _, _, h, _ => h.elim
  | _ :: _, [], _, _, h, _ => h.elim
theorem goodL_at : ∀ (y : List UInt8) (l : List PF) (k : Nat) (c : UInt8) (p : PF), goodL y l → y[k]? = some c → l[k]? = some p → gP c p
  | [], [], _, _, _, _, h, _ => by simp at h
  | _ :: r, _ :: q, 0, c, p, h, h1, h2 => by simp at h1 h2; subst h1 h2; exact h.1
  | _ :: r, _ :: q, k + 1, c, p, h, h1, h2 => goodL_at r q k c p h.2 (by simpa using h1) (by simpa using h2)
  | [], _ :: _, _, _, _, h, _, _ => h.elim
  | _ :: _, [], _, _, _, h, _, _ => h.elim

theorem findE_le (e : List UInt8) : ∀ (f : Nat) (l : List UInt8) (p : Nat), findE e f l = some p → p + e.length ≤ l.length := by
  intro f
  induction f with
  | zero => intro l p h; cases h
  | succ f ih =>
    intro l p h
    rw [findE] at h
    split at h
    · cases h
    · split at h
      · simp at h; omega
      · rw [Option.map_eq_some_iff] at h
        obtain ⟨q, hq, rfl⟩ := h
        have := ih _ _ hq
        rw [List.length_drop] at this
        omega
theorem findE_nz : ∀ (f : Nat) (l : List UInt8) (p : Nat), findE [0] f l = some p → nz (l.take p) = true := by
  intro f
  induction f with
  | zero => intro l p h; cases h
  | succ f ih =>
    intro l p h
    rw [findE] at h
    split at h
    · cases h
    · split at h
      · simp at h; subst h; rfl
      · next h1 h2 =>
        rw [Option.map_eq_some_iff] at h
        obtain ⟨q, hq, rfl⟩ := h
        match l, h1, h2, hq with
        | [], h1, _, _ => simp at h1
        | a :: r, _, h2, hq =>
          have := ih _ _ hq
          simp only [List.length_cons, List.length_nil, Nat.zero_add, List.drop_succ_cons, List.drop_zero] at this
          simp only [List.length_cons, List.length_nil, Nat.zero_add, List.take_succ_cons]
          unfold nz at this ⊢
          rw [List.all_cons, this, Bool.and_true, bne_iff_ne]
          rintro rfl
          exact h2 rfl
theorem findE_nz2 : ∀ (f : Nat) (l : List UInt8) (p : Nat), findE [0, 0] f l = some p → nz2 (l.take p) = true := by
  intro f
  induction f with
  | zero => intro l p h; cases h
  | succ f ih =>
    intro l p h
    rw [findE] at h
    split at h
    · cases h
    · split at h
      · simp at h; subst h; rfl
      · next h1 h2 =>
        rw [Option.map_eq_some_iff] at h
        obtain ⟨q, hq, rfl⟩ := h
        match l, h1, h2, hq with
        | [], h1, _, _ => simp at h1
        | [_], h1, _, _ => simp at h1
        | a :: b :: r, _, h2, hq =>
          have := ih _ _ hq
          simp only [List.length_cons, List.length_nil, Nat.zero_add, List.drop_succ_cons, List.drop_zero] at this
          simp only [List.length_cons, List.length_nil, Nat.zero_add, List.take_succ_cons]
          rw [nz2, this, Bool.and_true, Bool.not_eq_true', Bool.and_eq_false_iff, beq_eq_false_iff_ne, beq_eq_false_iff_ne]
          by_cases ha : a = 0
          · subst ha
            refine .inr ?_
            rintro rfl
            exact h2 rfl
          · exact .inl ha
theorem findE_one : ∀ (u q : List UInt8) (f : Nat), nz u = true → u.length < f → findE [0] f (u ++ 0 :: q) = some u.length
  | [], q, f, _, hf => by
    obtain ⟨f, rfl⟩ : ∃ g, f = g + 1 := ⟨f - 1, by simp at hf; omega⟩
    simp [findE]
  | a :: r, q, f, h, hf => by
    rw [List.length_cons] at hf
    obtain ⟨f, rfl⟩ : ∃ g, f = g + 1 := ⟨f - 1, by omega⟩
    unfold nz at h
    rw [List.all_cons, Bool.and_eq_true, bne_iff_ne] at h
    have ih := findE_one r q f h.2 (by omega)
    rw [findE, if_neg (by simp), if_neg (by simp [h.1])]
    simp only [List.length_cons, List.length_nil, Nat.zero_add, List.cons_append, List.drop_succ_cons, List.drop_zero]
    rw [ih]
    rfl
theorem findE_two : ∀ (u q : List UInt8) (f : Nat), nz2 u = true → u.length % 2 = 0 → u.length < f → findE [0, 0] f (u ++ 0 :: 0 :: q) = some u.length
  | [], q, f, _, _, hf => by
    obtain ⟨f, rfl⟩ : ∃ g, f = g + 1 := ⟨f - 1, by simp at hf; omega⟩
    simp [findE]
  | [_], _, _, _, h, _ => by simp at h
  | a :: b :: r, q, f, h, h2, hf => by
    simp only [List.length_cons] at h2 hf
    obtain ⟨f, rfl⟩ : ∃ g, f = g + 1 := ⟨f - 1, by omega⟩
    rw [nz2, Bool.and_eq_true, Bool.not_eq_true'] at h
    have ih := findE_two r q f h.2 (by omega) (by omega)
    rw [findE, if_neg (by simp), if_neg (by
      intro e
      simp at e
      rw [e.1, e.2] at h
      exact absurd h.1 (by decide))]
    simp only [List.length_cons, List.length_nil, Nat.zero_add, List.cons_append, List.drop_succ_cons, List.drop_zero]
    rw [ih]
    rfl

/-- a text in units. -/
def unitsT (t : List UInt8) : List UInt8 := [255, 254] ++ (decT (tokWE false) t).1
theorem we_pts : ∀ (ps : List Int) (f n : Nat) (acc : List UInt8), (∀ p ∈ ps, Scal p) → (encL ps).length ≤ f → runT (tokWE false) f (encL ps) n acc = (acc ++ ps.flatMap (bytesP false), none) := by
  intro ps
  induction ps with
  | nil => intro f n acc _ _; simp [encL, runT_nil]
  | cons p ps ih =>
    intro f n acc hp hf
    rw [encL_cons] at hf ⊢
    have hl := encR_len p
    rw [List.length_append] at hf
    obtain ⟨f, rfl⟩ : ∃ g, f = g + 1 := ⟨f - 1, by omega⟩
    have ht : tokWE false (encR p ++ encL ps) = some (bytesP false p, (encR p).length) := by
      unfold tokWE
      rw [dec_encR p (hp p (by simp))]
      simp only
      rw [Int.toNat_of_nonneg (hp p (by simp)).1]
    rw [runT_some f _ n acc _ _ (encR_ne p _) ht, List.drop_left, ih f _ _ (fun q hq => hp q (by simp [hq])) (by omega)]
    simp
theorem unitsT_of (t : List UInt8) (hv : (scanL t).2 = none) : unitsT t = [255, 254] ++ (pts t).flatMap (bytesP false) := by
  obtain ⟨v1, v2⟩ := valid_enc t hv
  unfold unitsT decT
  conv => lhs; rw [v1]
  rw [we_pts _ _ _ _ v2 (Nat.le_refl _)]
  simp
theorem w_pts : ∀ (ps : List Int) (f n : Nat) (acc : List UInt8), (∀ p ∈ ps, Scal p) → (ps.flatMap (bytesP false)).length ≤ f → runT (tokW false) f (ps.flatMap (bytesP false)) n acc = (acc ++ encL ps, none) := by
  intro ps
  induction ps with
  | nil => intro f n acc _ _; simp [encL, runT_nil]
  | cons p ps ih =>
    intro f n acc hp hf
    rw [List.flatMap_cons] at hf ⊢
    obtain ⟨h1, h2⟩ := wsign_bytes false p (hp p (by simp)) (ps.flatMap (bytesP false))
    have hl : 0 < (bytesP false p).length := List.length_pos_iff.2 h2
    rw [List.length_append] at hf
    obtain ⟨f, rfl⟩ : ∃ g, f = g + 1 := ⟨f - 1, by omega⟩
    have ht : tokW false (bytesP false p ++ ps.flatMap (bytesP false)) = some (encR p, (bytesP false p).length) := by
      unfold tokW
      rw [h1, if_neg (by simp only; omega)]
    rw [runT_some f _ n acc _ _ (by simp [h2]) ht, List.drop_left, ih f _ _ (fun q hq => hp q (by simp [hq])) (by omega), encL_cons]
    simp
theorem nz2_even : ∀ (a b : List UInt8), a.length % 2 = 0 → nz2 (a ++ b) = (nz2 a && nz2 b)
  | [], b, _ => by simp [nz2]
  | [_], _, h => by simp at h
  | x :: y :: r, b, h => by
    simp only [List.length_cons] at h
    have ih := nz2_even r b (by omega)
    simp only [List.cons_append]
    rw [nz2, nz2, ih, Bool.and_assoc]
theorem bytesP_even (p : Int) : (bytesP false p).length % 2 = 0 := by
  unfold bytesP unitsP
  split <;> simp [unitB_len]
theorem unitB_nz (u : Int) (h0 : 0 < u) (h1 : u < 65536) : nz2 (unitB false u) = true := by
  obtain ⟨x, y, e, hu⟩ := unitB_of false u (by omega) h1
  rw [e, nz2]
  cases h : (x == 0 && y == 0) with
  | false => rfl
  | true =>
    rw [Bool.and_eq_true, beq_iff_eq, beq_iff_eq] at h
    rw [h.1, h.2] at hu
    unfold unitI at hu
    simp at hu
    omega
theorem bytesP_nz (p : Int) (hp : Scal p) (h : p ≠ 0) : nz2 (bytesP false p) = true := by
  obtain ⟨h0, h1, h2⟩ := hp
  unfold bytesP unitsP
  split
  · simp only [List.flatMap_cons, List.flatMap_nil, List.append_nil]
    exact unitB_nz p (by omega) (by omega)
  · simp only [List.flatMap_cons, List.flatMap_nil, List.append_nil]
    rw [nz2_even _ _ (by rw [unitB_len]), unitB_nz _ (by omega) (by omega), unitB_nz _ (by omega) (by omega)]
    rfl
theorem units_nz : ∀ ps : List Int, (∀ p ∈ ps, Scal p ∧ p ≠ 0) → nz2 (ps.flatMap (bytesP false)) = true ∧ (ps.flatMap (bytesP false)).length % 2 = 0 := by
  intro ps
  induction ps with
  | nil => intro _; exact ⟨rfl, rfl⟩
  | cons p ps ih =>
    intro h
    obtain ⟨i1, i2⟩ := ih fun q hq => h q (by simp [hq])
    have e := bytesP_even p
    rw [List.flatMap_cons]
    refine ⟨?_, by rw [List.length_append]; omega⟩
    rw [nz2_even _ _ e, i1, bytesP_nz p (h p (by simp)).1 (h p (by simp)).2]
    rfl
def pieceL (e4 : Bool) (c : UInt8) (p : PF) : List UInt8 :=
  (if (isT c && !e4) = true then unitsT (bl p.text) else bl p.text) ++ (if c = 122 then [0] else if c = 100 then endB (if e4 = true then 3 else 1) else [])
def bodyF (e4 : Bool) : List UInt8 → List PF → List UInt8
  | c :: r, p :: q => pieceL e4 c p ++ bodyF e4 r q
  | _, _ => []
def encF (e4 : Bool) : Nat := if e4 = true then 3 else 1
/-- what a frame has of these pieces. -/
def fprF (e4 : Bool) (y : List UInt8) (l : List PF) : List UInt8 :=
  if y = [] then (match l with | p :: _ => bl p.text | [] => []) else UInt8.ofNat (encF e4) :: bodyF e4 y l
def backP (e4 : Bool) (c : UInt8) (p : PF) : PF := { p with set := if isT c = true then (if e4 = true then 7 else 8) else 0 }
def backL (e4 : Bool) : List UInt8 → List PF → List PF
  | c :: r, p :: q => backP e4 c p :: backL e4 r q
  | _, _ => []

theorem Rest.until {x : RS} {u e q : List UInt8} (hf : findE e (x.s.size + 1) (u ++ e ++ q) = some u.length) (h : Rest x (u ++ e ++ q)) :
    Rest (adv x (u.length + e.length)) q ∧ untilR x e = (adv x (u.length + e.length), ⟨u.toArray⟩) := by
  have h1 := h
  rw [← List.length_append]
  obtain ⟨a1, _⟩ := h1.step
  refine ⟨a1, ?_⟩
  have h2 := h
  rw [List.append_assoc] at h2
  obtain ⟨_, b2⟩ := h2.step
  unfold takeR at b2
  rw [if_neg (by simpa using h.1)] at b2
  have hl := congrArg List.length h.2.2
  simp only [List.length_drop, bl_length, List.length_append] at hl
  have hn := h.2.1
  rw [if_neg (by omega)] at b2
  have b3 := congrArg Prod.snd b2
  simp only [Int.toNat_natCast] at b3
  unfold untilR
  rw [if_neg (by simpa using h.1), h.2.2, hf]
  simp only
  rw [b3]
  unfold adv
  simp only [List.length_append, Nat.add_assoc]
theorem Rest.all {x : RS} {q : List UInt8} (h : Rest x q) : Rest (adv x q.length) [] ∧ takeR x (leftR x) = (adv x q.length, ⟨q.toArray⟩) := by
  have h1 := h
  rw [← List.append_nil q] at h1
  rw [h.left]
  exact h1.step
theorem words_u (R : List UInt8 → Int) (x : RS) (t : List UInt8) (a : Int) (hv : (scanL t).2 = none) : wordsR R 3 x ⟨t.toArray⟩ a = (x, ⟨t.toArray⟩, 7) := by
  have e : wdF R 3 t = (7, t, 0, 0) := by
    unfold wdF dcF
    rw [if_neg (by decide), if_neg (by decide), if_neg (by decide), if_pos (by decide), tokC_u, decT_U]
    unfold decU
    rw [hv]
  unfold wordsR
  show (if (wdF R 3 t).2.2.1 = 0 then _ else _) = _
  rw [if_pos (by rw [e])]
  show (x, (⟨(wdF R 3 t).2.1.toArray⟩ : ByteArray), (wdF R 3 t).1) = _
  rw [e]
theorem words_w (R : List UInt8 → Int) (x : RS) (t : List UInt8) (a : Int) (hv : (scanL t).2 = none) : wordsR R 1 x ⟨(unitsT t).toArray⟩ a = (x, ⟨t.toArray⟩, 8) := by
  obtain ⟨v1, v2⟩ := valid_enc t hv
  have e : wdF R 1 (unitsT t) = (8, t, 0, 0) := by
    rw [unitsT_of t hv]
    unfold wdF mdF markF bigF
    have w := w_pts (pts t) ((pts t).flatMap (bytesP false)).length 0 [] v2 (Nat.le_refl _)
    rw [List.nil_append, ← v1] at w
    have w' : decT (tokW false) ((pts t).flatMap (bytesP false)) = (t, none) := w
    rw [if_neg (by decide), if_pos rfl]
    have t2 : ∀ q : List UInt8, ([255, 254] ++ q).take 2 = [255, 254] := fun q => rfl
    have d2 : ∀ q : List UInt8, ([255, 254] ++ q).drop 2 = q := fun q => rfl
    have f2 : decide (([255, 254] : List UInt8) = [254, 255]) = false := by decide
    have g2 : decide (([255, 254] : List UInt8) = [255, 254]) = true := by decide
    rw [t2, d2, f2, g2, w', if_neg (by decide), if_neg (by simp), if_neg (by decide)]
  unfold wordsR
  show (if (wdF R 1 (unitsT t)).2.2.1 = 0 then _ else _) = _
  rw [if_pos (by rw [e])]
  show (x, (⟨(wdF R 1 (unitsT t)).2.1.toArray⟩ : ByteArray), (wdF R 1 (unitsT t)).1) = _
  rw [e]
theorem mk_bl (s : ByteArray) : (⟨(bl s).toArray⟩ : ByteArray) = s := mk_list s
def letF : List UInt8 := [108, 102, 122, 107, 100, 116, 114]
/-- a piece that is printed is read as it was. -/
theorem piece_back (R : List UInt8 → Int) (e4 : Bool) (c : UInt8) (p : PF) (x : RS) (q : List UInt8) (hc : c ∈ letF) (hg : gP c p) (hq : c = 116 ∨ c = 114 → q = []) (h : Rest x (pieceL e4 c p ++ q)) :
    Rest (adv x (pieceL e4 c p).length) q ∧ pieceR R (encF e4) x c = (adv x (pieceL e4 c p).length, backP e4 c p) := by
  obtain ⟨nm, raw, t, set⟩ := p
  obtain ⟨g1, g2, g3, g4, g5, g6⟩ := hg
  simp only at g1 g2 g3 g4 g5 g6
  have hsz : t.size = (bl t).length := (bl_length t).symm
  have hlen := congrArg List.length h.2.2
  simp only [List.length_drop, bl_length, List.length_append] at hlen
  have hxs : (pieceL e4 c ⟨nm, raw, t, set⟩ ++ q).length < x.s.size + 1 := by rw [← h.2.2]; simp only [List.length_drop, bl_length]; omega
  simp only [letF, List.mem_cons, List.not_mem_nil, or_false] at hc
  rcases hc with rfl | rfl | rfl | rfl | rfl | rfl | rfl
  · have hp : pieceL e4 108 ⟨nm, raw, t, set⟩ = bl t := by simp [pieceL, isT]
    rw [hp] at h ⊢
    obtain ⟨h1, h2⟩ := h.step
    rw [← hsz, g3 (.inl rfl)] at h2
    have h2 : takeR x 3 = _ := h2
    refine ⟨h1, ?_⟩
    unfold pieceR rawR
    rw [if_neg (by decide), if_pos (.inl rfl), h2, mk_bl, g1, g2, ← hsz, g3 (.inl rfl)]
    rfl
  · have hp : pieceL e4 102 ⟨nm, raw, t, set⟩ = bl t := by simp [pieceL, isT]
    rw [hp] at h ⊢
    obtain ⟨h1, h2⟩ := h.step
    rw [← hsz, g3 (.inr rfl)] at h2
    have h2 : takeR x 3 = _ := h2
    refine ⟨h1, ?_⟩
    unfold pieceR rawR
    rw [if_neg (by decide), if_pos (.inr rfl), h2, mk_bl, g1, g2, ← hsz, g3 (.inr rfl)]
    rfl
  · have hp : pieceL e4 122 ⟨nm, raw, t, set⟩ = bl t ++ [0] := by simp [pieceL, isT]
    rw [hp] at h hxs ⊢
    have hn := g5 (.inl rfl)
    obtain ⟨h1, h2⟩ := Rest.until (by rw [List.append_assoc]; exact findE_one _ _ _ hn (by simp only [List.length_append] at hxs; omega)) h
    rw [List.length_append]
    refine ⟨h1, ?_⟩
    unfold pieceR rawR
    rw [if_neg (by decide), if_neg (by decide), if_neg (by decide), if_pos rfl, h2, mk_bl, g1, g2]
    rfl
  · have hp : pieceL e4 107 ⟨nm, raw, t, set⟩ = bl t := by simp [pieceL, isT]
    rw [hp] at h ⊢
    obtain ⟨h1, h2⟩ := h.step
    rw [← hsz, g4 rfl] at h2
    have h2 : takeR x 1 = _ := h2
    refine ⟨h1, ?_⟩
    unfold pieceR rawR
    rw [if_neg (by decide), if_neg (by decide), if_pos rfl, h2, mk_bl, g1, g2, ← hsz, g4 rfl]
    rfl
  · have hn := g5 (.inr rfl)
    have hv := g6 rfl
    cases e4 with
    | true =>
      have hp : pieceL true 100 ⟨nm, raw, t, set⟩ = bl t ++ [0] := by simp [pieceL, isT, endB]
      rw [hp] at h hxs ⊢
      obtain ⟨h1, h2⟩ := Rest.until (by rw [List.append_assoc]; exact findE_one _ _ _ hn (by simp only [List.length_append] at hxs; omega)) h
      rw [List.length_append]
      refine ⟨h1, ?_⟩
      have hr : rawR (encF true) x 100 = (adv x ((bl t).length + [(0 : UInt8)].length), ⟨(bl t).toArray⟩) := by
        unfold rawR
        rw [if_neg (by decide), if_neg (by decide), if_neg (by decide), if_pos rfl]
        exact h2
      unfold pieceR
      rw [if_pos (show isT 100 = true from rfl), hr]
      simp only
      rw [show encF true = 3 from rfl, words_u R _ _ _ hv, mk_bl, g1, g2]
      rfl
    | false =>
      have hp : pieceL false 100 ⟨nm, raw, t, set⟩ = unitsT (bl t) ++ [0, 0] := by simp [pieceL, isT, endB]
      rw [hp] at h hxs ⊢
      have hu : nz2 (unitsT (bl t)) = true ∧ (unitsT (bl t)).length % 2 = 0 := by
        rw [unitsT_of _ hv]
        obtain ⟨u1, u2⟩ := units_nz _ (nz_pts _ hv hn)
        refine ⟨?_, by simp only [List.length_append, List.length_cons, List.length_nil]; omega⟩
        rw [nz2_even _ _ rfl, u1]
        rfl
      obtain ⟨h1, h2⟩ := Rest.until (by rw [List.append_assoc]; exact findE_two _ _ _ hu.1 hu.2 (by simp only [List.length_append] at hxs; omega)) h
      rw [List.length_append]
      refine ⟨h1, ?_⟩
      have hr : rawR (encF false) x 100 = (adv x ((unitsT (bl t)).length + [(0 : UInt8), 0].length), ⟨(unitsT (bl t)).toArray⟩) := by
        unfold rawR
        rw [if_neg (by decide), if_neg (by decide), if_neg (by decide), if_pos rfl]
        exact h2
      unfold pieceR
      rw [if_pos (show isT 100 = true from rfl), hr]
      simp only
      rw [show encF false = 1 from rfl, words_w R _ _ _ hv, mk_bl, g1, g2]
      rfl
  · have hv := g6 rfl
    obtain rfl := hq (.inl rfl)
    rw [List.append_nil] at h
    obtain ⟨h1, h2⟩ := h.all
    refine ⟨h1, ?_⟩
    have hr : ∀ enc, rawR enc x 116 = (adv x (pieceL e4 116 ⟨nm, raw, t, set⟩).length, ⟨(pieceL e4 116 ⟨nm, raw, t, set⟩).toArray⟩) := by
      intro enc
      unfold rawR
      rw [if_neg (by decide), if_neg (by decide), if_neg (by decide), if_neg (by decide)]
      exact h2
    unfold pieceR
    rw [if_pos (show isT 116 = true from rfl), hr]
    simp only
    cases e4 with
    | true =>
      have hp : pieceL true 116 ⟨nm, raw, t, set⟩ = bl t := by simp [pieceL, isT]
      rw [hp, show encF true = 3 from rfl, words_u R _ _ _ hv, mk_bl, g1, g2]
      rfl
    | false =>
      have hp : pieceL false 116 ⟨nm, raw, t, set⟩ = unitsT (bl t) := by simp [pieceL, isT]
      rw [hp, show encF false = 1 from rfl, words_w R _ _ _ hv, mk_bl, g1, g2]
      rfl
  · obtain rfl := hq (.inr rfl)
    have hp : pieceL e4 114 ⟨nm, raw, t, set⟩ = bl t := by simp [pieceL, isT]
    rw [hp, List.append_nil] at h
    rw [hp]
    obtain ⟨h1, h2⟩ := h.all
    refine ⟨h1, ?_⟩
    unfold pieceR rawR
    rw [if_neg (by decide), if_neg (by decide), if_neg (by decide), if_neg (by decide), if_neg (by decide), h2, mk_bl, g1, g2]
    rfl
/-- what takes all that is left comes last. -/
def lastB : List UInt8 → Bool
  | [] => true
  | [_] => true
  | c :: r => c != 116 && c != 114 && lastB r
theorem pieces_back (R : List UInt8 → Int) (e4 : Bool) : ∀ (y : List UInt8) (l : List PF) (x : RS) (acc : List PF), (∀ c ∈ y, c ∈ letF) → lastB y = true → goodL y l → Rest x (bodyF e4 y l) →
    piecesR R (encF e4) y x acc = (acc ++ backL e4 y l, 0, 0)
  | [], [], x, acc, _, _, _, _ => by simp [piecesR, backL]
  | c :: r, p :: q, x, acc, hy, hl, hg, h => by
    have hq : c = 116 ∨ c = 114 → bodyF e4 r q = [] := by
      intro hc
      cases r with
      | nil => cases q <;> rfl
      | cons d r =>
        rw [lastB, Bool.and_eq_true, Bool.and_eq_true, bne_iff_ne, bne_iff_ne] at hl
        · rcases hc with hc | hc
          · exact absurd hc hl.1.1
          · exact absurd hc hl.1.2
        · intro hh; cases hh
    obtain ⟨h1, h2⟩ := piece_back R e4 c p x _ (hy c (by simp)) hg.1 hq h
    have hl' : lastB r = true := by
      cases r with
      | nil => rfl
      | cons d r =>
        rw [lastB, Bool.and_eq_true] at hl
        · exact hl.2
        · intro hh; cases hh
    rw [piecesR, h2]
    simp only
    rw [if_neg (by simpa using h1.1), pieces_back R e4 r q _ _ (fun d hd => hy d (by simp [hd])) hl' hg.2 h1, backL]
    simp
  | [], _ :: _, _, _, _, _, h, _ => h.elim
  | _ :: _, [], _, _, _, _, h, _ => h.elim
theorem lay_ok {y : List UInt8} (h : isLay y) : (∀ c ∈ y, c ∈ letF) ∧ lastB y = true := by
  rcases h with rfl | rfl | rfl | rfl | rfl | rfl | rfl <;> decide
/-- .. the pieces, none of them all bytes. -/
def layR (y : List UInt8) : List UInt8 := if y = [] then [114] else y
theorem fparF_back (R : List UInt8 → Int) (v : Int) (y : List UInt8) (l : List PF) (hy : isLay y) (hv : y ≠ [] → v = 2 ∨ v = 3 ∨ v = 4) (hg : goodL (layR y) l) :
    fparF R v y ⟨(fprF (decide (v = 4)) y l).toArray⟩ = (backL (decide (v = 4)) (layR y) l, 0, 0) := by
  obtain ⟨a1, a2⟩ := lay_ok hy
  by_cases h : y = []
  · subst h
    unfold layR at hg ⊢
    rw [if_pos rfl] at hg ⊢
    match l, hg with
    | [p], hg =>
      obtain ⟨nm, raw, t, set⟩ := p
      obtain ⟨g1, g2, _⟩ := hg.1
      simp only at g1 g2
      unfold fparF fprF
      rw [if_pos rfl, if_pos rfl]
      simp only
      rw [mk_bl]
      simp only [backL, backP]
      rw [g1, g2]
      rfl
  · have hr : layR y = y := if_neg h
    rw [hr] at hg ⊢
    unfold fprF
    rw [if_neg h]
    unfold fparF
    rw [if_neg h]
    show (if mayM v (UInt8.ofNat (encF (decide (v = 4)))).toNat = false then _ else _) = _
    have he : (UInt8.ofNat (encF (decide (v = 4)))).toNat = encF (decide (v = 4)) := by cases decide (v = 4) <;> rfl
    rw [he, if_neg (by
      unfold mayM encF
      by_cases h4 : v = 4 <;> simp [h4])]
    have := pieces_back R (decide (v = 4)) y l ⟨⟨(UInt8.ofNat (encF (decide (v = 4))) :: bodyF (decide (v = 4)) y l).toArray⟩, 1, 0, 0, 0⟩ [] a1 a2 hg ⟨rfl, by simp [ByteArray.size], by simp [bl]⟩
    rw [List.nil_append] at this
    exact this
/-- what is read back has the same names and texts, and is printed the same. -/
theorem back_same (e4 : Bool) : ∀ (y : List UInt8) (l : List PF), goodL y l → goodL y (backL e4 y l) ∧ (backL e4 y l).length = l.length ∧
    (∀ (k : Nat) (p : PF), l[k]? = some p → ∃ s : Int, (backL e4 y l)[k]? = some ⟨p.name, p.raw, p.text, s⟩) ∧ bodyF e4 y (backL e4 y l) = bodyF e4 y l
  | [], [], _ => ⟨trivial, rfl, fun k p h => by simp at h, rfl⟩
  | c :: r, p :: q, h => by
    obtain ⟨a, b, d, e⟩ := back_same e4 r q h.2
    refine ⟨⟨h.1, a⟩, by simp [backL, b], fun k x hk => ?_, ?_⟩
    · cases k with
      | zero => simp at hk; subst hk; exact ⟨_, rfl⟩
      | succ k => exact d k x (by simpa using hk)
    · simp only [backL, bodyF]
      rw [e]
      rfl
  | [], _ :: _, h => h.elim
  | _ :: _, [], h => h.elim
theorem fpr_back (e4 : Bool) (y : List UInt8) (l : List PF) (hg : goodL (layR y) l) : fprF e4 y (backL e4 (layR y) l) = fprF e4 y l := by
  unfold fprF
  by_cases h : y = []
  · subst h
    unfold layR at hg ⊢
    rw [if_pos rfl] at hg ⊢
    match l, hg with
    | [p], hg => rfl
  · have hr : layR y = y := if_neg h
    rw [hr] at hg ⊢
    rw [if_neg h, if_neg h, (back_same e4 y l hg).2.2.2]

theorem untilR_s (x : RS) (e : List UInt8) : (untilR x e).1.s = x.s := by
  unfold untilR
  split
  · rfl
  · split
    · rfl
    · exact failR_s _ _ _
theorem untilR_len (x : RS) (e : List UInt8) : (untilR x e).2.size ≤ x.s.size := by
  unfold untilR
  split
  · exact Nat.zero_le _
  · split
    · show (x.s.extract _ _).size ≤ _
      rw [ByteArray.size_extract]; omega
    · exact Nat.zero_le _
theorem rawR_s (enc : Nat) (x : RS) (c : UInt8) : (rawR enc x c).1.s = x.s := by
  unfold rawR
  repeat' split
  all_goals first | exact takeR_s _ _ | exact untilR_s _ _
theorem rawR_len (enc : Nat) (x : RS) (c : UInt8) : (rawR enc x c).2.size ≤ x.s.size := by
  unfold rawR
  repeat' split
  all_goals first | exact takeR_len _ _ | exact untilR_len _ _
theorem takeR_size_of (x : RS) (k : Nat) (h : (takeR x k).1.e = 0) : (takeR x k).2.size = k := by
  unfold takeR at h ⊢
  split
  · next a => rw [if_pos a] at h; exact absurd h a
  · next a =>
    rw [if_neg a] at h
    split
    · next b => rw [if_pos b] at h; exact absurd h (failR_bad _ _ _ (by decide))
    · show (x.s.extract _ _).size = _
      rw [ByteArray.size_extract]; omega
theorem bl_extract (s : ByteArray) (a b : Nat) : bl (s.extract a b) = ((bl s).drop a).take (b - a) := by
  show (s.extract a b).data.toList = _
  rw [ByteArray.data_extract, Array.toList_extract, List.extract_eq_take_drop]
theorem untilR_nz (x : RS) : nz (bl (untilR x [0]).2) = true := by
  unfold untilR
  split
  · rfl
  · split
    · next p hp =>
      simp only
      rw [bl_extract, Nat.add_sub_cancel_left]
      exact findE_nz _ _ _ hp
    · rfl
theorem untilR_nz2 (x : RS) : nz2 (bl (untilR x [0, 0]).2) = true := by
  unfold untilR
  split
  · rfl
  · split
    · next p hp =>
      simp only
      rw [bl_extract, Nat.add_sub_cancel_left]
      exact findE_nz2 _ _ _ hp
    · rfl
theorem dcF_good (c : Int) (l : List UInt8) (h : (dcF c l).2.1 = 0) : 0 ≤ c ∧ c ≤ 9 ∧ decT (tokC c) l = ((dcF c l).1, none) := by
  unfold dcF at h ⊢
  split
  · next a =>
    rw [if_pos a] at h
    rcases hd : decT (tokC c) l with ⟨u, o⟩
    rw [hd] at h
    cases o with
    | none => exact ⟨a.1, a.2, rfl⟩
    | some k => exact absurd (show (2 : Int) = 0 from h) (by decide)
  · next a => rw [if_neg a] at h; exact absurd h (by decide)
theorem nz2_drop (l : List UInt8) (h : nz2 l = true) : nz2 (l.drop 2) = true := by
  match l, h with
  | [], _ => rfl
  | [_], _ => rfl
  | a :: b :: r, h => rw [nz2, Bool.and_eq_true] at h; exact h.2
/-- what words make of bytes. -/
theorem wdF_good (R : List UInt8 → Int) (enc : Nat) (l : List UInt8) (h : (wdF R enc l).2.2.1 = 0) :
    (scanL (wdF R enc l).2.1).2 = none ∧ (wdF R enc l).2.1.length ≤ 512 * l.length ∧ ((if enc = 1 ∨ enc = 2 then nz2 l else nz l) = true → nz (wdF R enc l).2.1 = true) := by
  have hC : ∀ c : Int, (dcF c l).2.1 = 0 → (scanL (dcF c l).1).2 = none ∧ (dcF c l).1.length ≤ 512 * l.length := by
    intro c h
    obtain ⟨a, b, d⟩ := dcF_good c l h
    refine ⟨valid_C c a _ _ d, ?_⟩
    have := decT_short (short_C c) l
    rw [d] at this
    exact this
  unfold wdF at h ⊢
  by_cases h0 : enc = 0
  · subst h0
    rw [if_pos rfl] at h ⊢
    obtain ⟨a, b⟩ := hC _ h
    refine ⟨a, b, fun hn => ?_⟩
    obtain ⟨d1, d2, d3⟩ := dcF_good _ l h
    exact nz_any _ d1 _ _ (by simpa using hn) d3
  rw [if_neg h0] at h ⊢
  by_cases h1 : enc = 1
  · subst h1
    rw [if_pos rfl] at h ⊢
    simp only at h ⊢
    unfold mdF at h ⊢
    split
    · exact ⟨rfl, Nat.zero_le _, fun _ => rfl⟩
    next a =>
    rw [if_neg a] at h
    split
    · next b => rw [if_pos b] at h; exact absurd h (by decide)
    next b =>
    rw [if_neg b] at h
    rcases hd : decT (tokW (bigF l)) (l.drop 2) with ⟨u, o⟩
    rw [hd] at h
    cases o with
    | some k => exact absurd (show (2 : Int) = 0 from h) (by decide)
    | none =>
      have hc : ∃ c : Int, 8 ≤ c ∧ tokC c = tokW (bigF l) := by
        cases bigF l with
        | true => exact ⟨9, by decide, tokC_w 9 (by decide)⟩
        | false => exact ⟨8, by decide, tokC_w 8 (by decide)⟩
      obtain ⟨c, c8, hc⟩ := hc
      rw [← hc] at hd
      refine ⟨valid_C c (by omega) _ _ hd, ?_, fun hn => ?_⟩
      · have := decT_short (short_C c) (l.drop 2)
        rw [hd, List.length_drop] at this
        simp only at this ⊢
        omega
      · rw [hc] at hd
        exact nz_W _ _ _ (nz2_drop l (by simpa using hn)) hd
  rw [if_neg h1] at h ⊢
  by_cases h2 : enc = 2
  · subst h2
    rw [if_pos rfl] at h ⊢
    obtain ⟨a, b⟩ := hC _ h
    refine ⟨a, b, fun hn => ?_⟩
    obtain ⟨_, _, d3⟩ := dcF_good _ l h
    rw [tokC_w 9 (by decide)] at d3
    exact nz_W _ _ _ (by simpa using hn) d3
  rw [if_neg h2] at h ⊢
  obtain ⟨a, b⟩ := hC _ h
  refine ⟨a, b, fun hn => ?_⟩
  obtain ⟨_, _, d3⟩ := dcF_good _ l h
  exact nz_any 7 (by decide) _ _ (by simpa [h1, h2] using hn) d3
theorem words_s (R : List UInt8 → Int) (enc : Nat) (x : RS) (b : ByteArray) (a : Int) : (wordsR R enc x b a).1.s = x.s := by
  unfold wordsR
  split
  · rfl
  · exact failR_s _ _ _
theorem words_good (R : List UInt8 → Int) (enc : Nat) (x : RS) (b : ByteArray) (a : Int) (h : (wordsR R enc x b a).1.e = 0) :
    x.e = 0 ∧ (scanL (bl (wordsR R enc x b a).2.1)).2 = none ∧ (wordsR R enc x b a).2.1.size ≤ 512 * b.size ∧ ((if enc = 1 ∨ enc = 2 then nz2 (bl b) else nz (bl b)) = true → nz (bl (wordsR R enc x b a).2.1) = true) := by
  unfold wordsR at h ⊢
  split
  · next c =>
    rw [if_pos c] at h
    obtain ⟨h1, h2, h3⟩ := wdF_good R enc (bl b) c
    rw [bl_length] at h2
    exact ⟨h, h1, h2, h3⟩
  · next c => rw [if_neg c] at h; exact absurd h (failR_bad _ _ _ c)
/-- what is read may be printed. -/
theorem piece_good (R : List UInt8 → Int) (enc : Nat) (x : RS) (c : UInt8) (hc : c ∈ letF) (h : (pieceR R enc x c).1.e = 0) :
    gP c (pieceR R enc x c).2 ∧ (pieceR R enc x c).2.text.size ≤ 512 * x.s.size ∧ (pieceR R enc x c).1.s = x.s := by
  have hl := rawR_len enc x c
  have hs := rawR_s enc x c
  unfold pieceR at h ⊢
  by_cases hT : isT c = true
  · rw [if_pos hT] at h ⊢
    simp only at h ⊢
    obtain ⟨w1, w2, w3, w4⟩ := words_good R enc _ _ _ h
    refine ⟨⟨rfl, by simp [hT], ?_, ?_, ?_, fun _ => w2⟩, by omega, by rw [words_s, hs]⟩
    · rintro (rfl | rfl) <;> cases hT
    · rintro rfl; cases hT
    · rintro (rfl | rfl)
      · cases hT
      · simp only
        refine w4 ?_
        have hr : rawR enc x 100 = untilR x (endB enc) := by
          unfold rawR
          rw [if_neg (by decide), if_neg (by decide), if_neg (by decide), if_pos rfl]
        rw [hr]
        unfold endB
        split
        · exact untilR_nz2 x
        · exact untilR_nz x
  · rw [if_neg hT] at h ⊢
    simp only at h ⊢
    refine ⟨⟨rfl, by simp [hT], ?_, ?_, ?_, fun h => absurd h hT⟩, by omega, hs⟩
    · intro hc
      have hr : rawR enc x c = takeR x 3 := by unfold rawR; rw [if_pos hc]
      simp only
      rw [hr] at h ⊢
      exact takeR_size_of x 3 h
    · rintro rfl
      have hr : rawR enc x 107 = takeR x 1 := by unfold rawR; rw [if_neg (by decide), if_pos rfl]
      simp only
      rw [hr] at h ⊢
      exact takeR_size_of x 1 h
    · rintro (rfl | rfl)
      · have hr : rawR enc x 122 = untilR x [0] := by unfold rawR; rw [if_neg (by decide), if_neg (by decide), if_pos rfl]
        simp only
        rw [hr]
        exact untilR_nz x
      · exact absurd rfl hT
theorem pieces_good (R : List UInt8 → Int) (enc N : Nat) : ∀ (r y : List UInt8) (x : RS) (acc : List PF), (∀ c ∈ r, c ∈ letF) → x.s.size ≤ N → goodL y acc → (∀ p ∈ acc, p.text.size ≤ 512 * N) → (piecesR R enc r x acc).2.1 = 0 →
    goodL (y ++ r) (piecesR R enc r x acc).1 ∧ (∀ p ∈ (piecesR R enc r x acc).1, p.text.size ≤ 512 * N) ∧ (piecesR R enc r x acc).2.2 = 0 := by
  intro r
  induction r with
  | nil => intro y x acc _ _ hg ha _; rw [List.append_nil]; exact ⟨hg, ha, rfl⟩
  | cons c r ih =>
    intro y x acc hr hx hg ha h
    rw [piecesR] at h ⊢
    split
    · next e => rw [if_pos e] at h; exact absurd h e
    · next e =>
      rw [if_neg e] at h
      obtain ⟨g1, g2, g3⟩ := piece_good R enc x c (hr c (by simp)) (by simpa using e)
      have := ih (y ++ [c]) (pieceR R enc x c).1 (acc ++ [(pieceR R enc x c).2]) (fun d hd => hr d (by simp [hd])) (by rw [g3]; exact hx) (goodL_snoc y acc c _ hg g1) (fun p hp => by
        rcases List.mem_append.1 hp with hp | hp
        · exact ha p hp
        · simp at hp; subst hp; omega) h
      rw [List.append_assoc] at this
      exact this
theorem fparF_good (R : List UInt8 → Int) (v : Int) (y : List UInt8) (body : ByteArray) (hy : isLay y) (h : (fparF R v y body).2.1 = 0) :
    goodL (layR y) (fparF R v y body).1 ∧ (∀ p ∈ (fparF R v y body).1, p.text.size ≤ 512 * body.size) ∧ (fparF R v y body).2.2 = 0 := by
  obtain ⟨a1, a2⟩ := lay_ok hy
  unfold fparF at h ⊢
  split
  · next e =>
    subst e
    refine ⟨⟨⟨rfl, rfl, ?_, ?_, ?_, ?_⟩, trivial⟩, fun p hp => by simp at hp; subst hp; simp only; omega, rfl⟩
    all_goals (first | (intro h; exact absurd h (by decide)))
  · next e =>
    rw [if_neg e] at h
    have hr : layR y = y := if_neg e
    rw [hr]
    cases hb : bl body with
    | nil => rw [hb] at h; exact absurd (show (1 : Int) = 0 from h) (by decide)
    | cons b t =>
      rw [hb] at h
      simp only at h ⊢
      split
      · next m => rw [if_pos m] at h; exact absurd h (by decide)
      · next m =>
        rw [if_neg m] at h
        exact pieces_good R b.toNat body.size y [] ⟨body, 1, 0, 0, 0⟩ [] a1 (Nat.le_refl _) trivial (fun p hp => by cases hp) h
theorem fparF_bad (R : List UInt8 → Int) (v : Int) (y : List UInt8) (body : ByteArray) (h : (fparF R v y body).2.1 ≠ 0) : (fparF R v y body).1 = [] := by
  have hp : ∀ (enc : Nat) (r : List UInt8) (x : RS) (acc : List PF), (piecesR R enc r x acc).2.1 ≠ 0 → (piecesR R enc r x acc).1 = [] := by
    intro enc r
    induction r with
    | nil => intro x acc h; exact absurd rfl h
    | cons c r ih =>
      intro x acc h
      rw [piecesR] at h ⊢
      split
      · rfl
      · next e => rw [if_neg e] at h; exact ih _ _ h
  unfold fparF at h ⊢
  split
  · next e => rw [if_pos e] at h; exact absurd rfl h
  · next e =>
    rw [if_neg e] at h
    cases hb : bl body with
    | nil => rfl
    | cons b t =>
      rw [hb] at h
      simp only at h ⊢
      split
      · rfl
      · next m => rw [if_neg m] at h; exact hp _ _ _ _ h
end Go.Proofs.YtmfjmgjhfplijaaGreatDoor

