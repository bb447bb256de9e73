/- Bj -/
import Derived.Test.YtohbeinhlhgfiaaGreatDoorMBi
set_option linter.unusedVariables false
set_option linter.unusedSimpArgs false
set_option maxHeartbeats 4000000
namespace Go.Proofs.YtohbeinhlhgfiaaGreatDoor
open Go.RowKit
theorem bTwos_len : bTwos.length = 4:=rfl
theorem bTwoArr_at (i : Nat) (s : Int × Int × Int) (h : bTwos[i]? = some s) : bTwoArr.extract (i * 3) (i * 3 + 3) = #[.int .i64 s.1,.int .i32 s.2.1,.int .i32 s.2.2]:=by
 have hi : i < 4:=(List.getElem?_eq_some_iff.1 h).1
 match i,hi,h with
 | 0,_,h=>cases h;rfl
 | 1,_,h=>cases h;rfl
 | 2,_,h=>cases h;rfl
 | 3,_,h=>cases h;rfl
theorem bTwos_bd : ∀ s ∈ bTwos,0 ≤ s.1 ∧ s.1 ≤ 255 ∧ 0 ≤ s.2.1 ∧ s.2.1 ≤ 1000 ∧ 0 ≤ s.2.2 ∧ s.2.2 ≤ 1000:=by decide
def twosL : List (Int × Int × Int) → Int → Int → List UInt8 × Bool
 | [],_,_=>([],false)
 | s :: l,lead,second=>if lead = 136 ∧ second = s.1 then textM [s.2.1,s.2.2] else twosL l lead second
noncomputable def bSignsM (lead second : Int) : List UInt8 × Bool:=if (oneM lead second).2 = true then textM [(oneM lead second).1] else twosL bTwos lead second
theorem row_one (w : World) (p : Int) (t : TypeId) : Row (w.alloc (.cells #[.int .i32 p] t)) (.slice (some ⟨w.heap.size,0,none⟩) 1 1) 1 (icells [p]):=by
 refine ⟨_,_,rfl,fun j x hj=>⟨w.heap.size,0,rfl,?_⟩⟩
 match j,hj with
 | 0,hj=>simp [icells] at hj;subst hj;rw [World.cell?_alloc_new];rfl
theorem row_two (w : World) (x : Value) (p q : Int) (t : TypeId) : Row (w.alloc (.cells #[x,.int .i32 p,.int .i32 q] t)) (.slice (some ⟨w.heap.size,1,none⟩) 2 2) 2 (icells [p,q]):=by
 refine ⟨_,_,rfl,fun j y hj=>⟨w.heap.size,1,rfl,?_⟩⟩
 match j,hj with
 | 0,hj=>simp [icells] at hj;subst hj;rw [World.cell?_alloc_new];rfl
 | 1,hj=>simp [icells] at hj;subst hj;rw [World.cell?_alloc_new];rfl
set_option maxRecDepth 100000 in
theorem bsigns_any (lead second : Int) (w : World) (h0 : 0 ≤ lead) (h1 : lead ≤ 255) (h2 : 0 ≤ second) (h3 : second ≤ 255) :
 Calls Tryz.prog 264 #[.int .u8 lead,.int .u8 second] w fun e w'=>e = .returned (.tuple #[.string ⟨(bSignsM lead second).1.toArray⟩,.bool (bSignsM lead second).2]) ∧ Below w.heap.size w w':=by
 have c1:=fun w=>one_any lead second w h0 h1 h2 h3
 have hm : bSignsM lead second = if (oneM lead second).2 = true then textM [(oneM lead second).1] else twosL bTwos lead second:=rfl
 generalize oneM lead second = p at *
 generalize bSignsM lead second = R at *
 obtain ⟨p1,p2⟩:=p
 simp only at c1 hm
 have C1:=Lib.hid c1
 by_cases hp : p2 = true
 · subst hp
   rw [if_pos rfl] at hm
   have HM:=Lib.hid hm
   clear c1 hm
   go_enter Tryz.func264,Tryz.ntmps264
   go_wp2_with (first
    | (go_at_call 311;with_reducible refine (C1.out _).mono ?_;rintro e w1 ⟨rfl,hb1⟩)
    | (go_at_call 198;refine (text_any _ [p1] _ (row_one _ _ _) (by simp)).mono ?_;rintro e w2 ⟨rfl,hb2⟩))
   go_ret2
   refine ⟨by rw [HM.out];rfl,?_⟩
   exact bt (bal hb1 _) hb2
 · have hp' : p2 = false:=by simpa using hp
   subst hp'
   rw [if_neg (by decide)] at hm
   have HM:=Lib.hid hm
   clear c1 hm hp
   go_enter Tryz.func264,Tryz.ntmps264
   go_wp2_with (first
    | (go_at_call 311;with_reducible refine (C1.out _).mono ?_;rintro e w1 ⟨rfl,hb1⟩)
    | (go_at_call 312;refine (btwos_any _).mono ?_;rintro e W ⟨rfl,hb⟩))
   have hbW:=bt hb1 hb
   obtain ⟨A,hA⟩ : ∃ A,A = bTwoArr:=⟨_,rfl⟩
   rw [← hA]
   have HA:=Lib.hid hA
   clear hA
   go_loopw [25] (fun t wr=>∃ i : Nat,t = .int .i64 (i : Int) ∧ i ≤ 4 ∧ Hid (R = twosL (bTwos.drop i) lead second) ∧ Below W.heap.size W wr) (fun t _=>(4 - intOf t).toNat)
   case atStart=>exact ⟨0,rfl,by omega,HM,Below.refl _ _⟩
   case round=>
    obtain ⟨i,rfl,hi,hR,hbel⟩:=hrel
    have hbw:=hbW.trans (hbel.mono hbW.size)
    by_cases hlt : i < 4
    · obtain ⟨s,hs⟩:=at_some bTwos i (by rw [bTwos_len];exact hlt)
      have hbd:=bTwos_bd s (List.mem_of_getElem? hs)
      have hx:=bTwoArr_at i s hs
      rw [← HA.out] at hx
      have hr:=hR.out
      rw [drop_at bTwos i (List.getElem?_eq_some_iff.1 hs).1,(List.getElem?_eq_some_iff.1 hs).2] at hr
      obtain ⟨a,b,q⟩:=s
      simp only at hbd hx
      rw [twosL] at hr
      simp only at hr
      obtain ⟨a0,a1,b0,b1,q0,q1⟩:=hbd
      have HX:=Lib.hid hx
      have HR:=Lib.hid hr
      clear hx hr hs
      by_cases ha : lead = 136 ∧ second = a
      · obtain ⟨rfl,rfl⟩:=ha
        have hr:=HR.out
        rw [if_pos ⟨rfl,rfl⟩] at hr
        have HR2:=Lib.hid hr
        clear hr HR
        go_wp2_with (first
         | (refine wpList_indexA rfl 332 _ _ rfl 4 331 Tryz.underlying332 _ Tryz.underlying331 rfl 3 (by kernel_rfl) A rfl .i64 i rfl (by omega) _ HX.out ?_)
         | (go_at_call 198;refine (text_any _ [b,q] _ (row_two _ _ _ _ _) (by simp)).mono ?_;rintro e w2 ⟨rfl,hb2⟩))
        go_ret2
        refine ⟨by rw [HR2.out];rfl,?_⟩
        exact bt (bal hbw _) hb2
      · have hr:=HR.out
        rw [if_neg ha] at hr
        have HR2:=Lib.hid hr
        clear hr HR
        by_cases hl : lead = 136
        · subst hl
          have ha' : (second == a) = false:=by simpa using ha
          clear ha
          go_wp2_with (refine wpList_indexA rfl 332 _ _ rfl 4 331 Tryz.underlying332 _ Tryz.underlying331 rfl 3 (by kernel_rfl) A rfl .i64 i rfl (by omega) _ HX.out ?_)
          go_roundw
          case rel=>exact ⟨i + 1,by go_num,by omega,HR2,hbel.alloc hbel.size _⟩
          case measure=>simp [intOf];omega
        · have hl' : (lead == 136) = false:=by simpa using hl
          clear ha hl
          go_wp2_with (refine wpList_indexA rfl 332 _ _ rfl 4 331 Tryz.underlying332 _ Tryz.underlying331 rfl 3 (by kernel_rfl) A rfl .i64 i rfl (by omega) _ HX.out ?_)
          go_roundw
          case rel=>exact ⟨i + 1,by go_num,by omega,HR2,hbel.alloc hbel.size _⟩
          case measure=>simp [intOf];omega
    · have hi11 : i = 4:=by omega
      subst hi11
      have hr:=hR.out
      rw [List.drop_of_length_le (by rw [bTwos_len];exact Nat.le_refl _),twosL] at hr
      have HR2:=Lib.hid hr
      clear hr hR
      go_wp2_with fail
      go_ret2
      exact ⟨by rw [HR2.out];rfl,hbw⟩
def hexD (n : Nat) : UInt8:=[48,49,50,51,52,53,54,55,56,57,65,66,67,68,69,70].getD n 0
def hex5 (n : Nat) : List UInt8:=[hexD (n / 4096),hexD (n / 256 % 16),hexD (n / 16 % 16),hexD (n % 16),32]
def findM (l : List UInt8) (p : Int) : Int:=if p < 0 ∨ 65535 < p then -1 else if Lib.index l (hex5 p.toNat) < 0 then -1 else Lib.index l (hex5 p.toNat) / 5
theorem i32_and15 (x : Int) (h₀ : 0 ≤ x) (h₁ : x < 2147483648) : bits .and .i32 x 15 = x % 16:=bits_mask .i32 31 (by decide) wraps_i32 4 (by decide) x h₀ h₁
theorem hexD_at (k : Nat) (hk : k < 16) : ∀ h,(⟨#[48,49,50,51,52,53,54,55,56,57,65,66,67,68,69,70]⟩ : ByteArray)[k]'h = hexD k:=by
 intro h
 have : ∀ j : Fin 16,∀ h,(⟨#[48,49,50,51,52,53,54,55,56,57,65,66,67,68,69,70]⟩ : ByteArray)[j.val]'h = hexD j.val:=by decide
 exact this ⟨k,hk⟩ h
theorem index_len (s sub : List UInt8) : Lib.index s sub ≤ s.length:=by
 induction s with
 | nil=>simp only [Lib.index];split <;> simp
 | cons b l ih=>
  simp only [Lib.index]
  split
  · simp;omega
  · split
    · simp;omega
    · simp only [List.length_cons];omega
set_option maxRecDepth 100000 in
theorem find_any (s : ByteArray) (p : Int) (w : World) (hT : TW w) (hs : s.size ≤ 100000) (h0 : -2147483648 ≤ p) (h1 : p ≤ 2147483647) :
 Calls Tryz.prog 315 #[.string s,.int .i32 p] w fun e w'=>e = .returned (.int .i64 (findM (bl s) p)) ∧ Below w.heap.size w w':=by
 by_cases hp : p < 0 ∨ 65535 < p
 · have hm : findM (bl s) p = -1:=by unfold findM;rw [if_pos hp]
   rw [hm]
   clear hm
   rcases hp with hp | hp
   · go_enter Tryz.func315,Tryz.ntmps315
     go_wp2_with fail
     go_ret
     exact ⟨rfl,Below.refl _ _⟩
   · go_enter Tryz.func315,Tryz.ntmps315
     go_wp2_with fail
     go_ret
     exact ⟨rfl,Below.refl _ _⟩
 · obtain ⟨n,rfl⟩:=Int.eq_ofNat_of_zero_le (show 0 ≤ p from by omega)
   have hn : n < 65536:=by omega
   have hM : findM (bl s) n = if Lib.index (bl s) (hex5 n) < 0 then -1 else Lib.index (bl s) (hex5 n) / 5:=by
    unfold findM;rw [if_neg hp,Int.toNat_natCast]
   have hle:=index_len (bl s) (hex5 n)
   rw [bl_length] at hle
   generalize findM (bl s) n = R at *
   have HM0:=Lib.hid hM
   have HLE:=Lib.hid hle
   clear hM hle
   have e1 : bits .and .i32 ((n : Int) / 256) 15 = (n : Int) / 256 % 16:=i32_and15 _ (by omega) (by omega)
   have e2 : bits .and .i32 ((n : Int) / 16) 15 = (n : Int) / 16 % 16:=i32_and15 _ (by omega) (by omega)
   have e3 : bits .and .i32 (n : Int) 15 = (n : Int) % 16:=i32_and15 _ (by omega) (by omega)
   have x0:=hexD_at (n / 4096) (by omega)
   have x1:=hexD_at (n / 256 % 16) (by omega)
   have x2:=hexD_at (n / 16 % 16) (by omega)
   have x3:=hexD_at (n % 16) (by omega)
   have t0 : ((n : Int) / 4096).toNat = n / 4096:=by omega
   have t1 : ((n : Int) / 256 % 16).toNat = n / 256 % 16:=by omega
   have t2 : ((n : Int) / 16 % 16).toNat = n / 16 % 16:=by omega
   have t3 : ((n : Int) % 16).toNat = n % 16:=by omega
   have y0 : (0 : Int) ≤ (n : Int) / 4096 ∧ (n : Int) / 4096 < 16:=by omega
   have y1 : (0 : Int) ≤ (n : Int) / 256 % 16 ∧ (n : Int) / 256 % 16 < 16:=by omega
   have y2 : (0 : Int) ≤ (n : Int) / 16 % 16 ∧ (n : Int) / 16 % 16 < 16:=by omega
   have y3 : (0 : Int) ≤ (n : Int) % 16 ∧ (n : Int) % 16 < 16:=by omega
   go_enter Tryz.func315,Tryz.ntmps315
   go_wp2_with fail
   go_region
   have hO : Own (w.alloc (.cells #[.int .u8 ((hexD (n / 4096)).toNat : Int),.int .u8 ((hexD (n / 256 % 16)).toNat : Int),.int .u8 ((hexD (n / 16 % 16)).toNat : Int),.int .u8 ((hexD (n % 16)).toNat : Int),.int .u8 32] 5))
    w.heap.size (.slice (some ⟨w.heap.size,0,none⟩) 5 5) (hex5 n):=
    ⟨rfl,.inr ⟨w.heap.size,5,_,rfl,Nat.le_refl _,heap_alloc_new _ _,Nat.le_refl _,by decide,rfl,rfl⟩⟩
   have hcv:=conv_Own hO.drew
   have hTW:=(hT.alloc (.cells #[.int .u8 ((hexD (n / 4096)).toNat : Int),.int .u8 ((hexD (n / 256 % 16)).toNat : Int),.int .u8 ((hexD (n / 16 % 16)).toNat : Int),.int .u8 ((hexD (n % 16)).toNat : Int),.int .u8 32] 5))
   have hbel : Below w.heap.size w (w.alloc (.cells #[.int .u8 ((hexD (n / 4096)).toNat : Int),.int .u8 ((hexD (n / 256 % 16)).toNat : Int),.int .u8 ((hexD (n / 16 % 16)).toNat : Int),.int .u8 ((hexD (n % 16)).toNat : Int),.int .u8 32] 5)):=(Below.refl _ _).alloc (Nat.le_refl _) _
   clear hO x0 x1 x2 x3 t0 t1 t2 t3 y0 y1 y2 y3 e1 e2 e3 hT
   generalize w.alloc (.cells #[.int .u8 ((hexD (n / 4096)).toNat : Int),.int .u8 ((hexD (n / 256 % 16)).toNat : Int),.int .u8 ((hexD (n / 16 % 16)).toNat : Int),.int .u8 ((hexD (n % 16)).toNat : Int),.int .u8 32] 5) = W at *
   obtain ⟨m,hm⟩:=hTW.ml
   have c1:=fun w hm=>Tryz.strings_Index s ⟨(hex5 n).toArray⟩ m w (by omega) hm
   have hM:=HM0.out
   have hle:=HLE.out
   have c1' : ∀ w,w.cell? ⟨3,0,none⟩ = some (.int .i64 m) → Calls Tryz.prog 323 #[.string s,.string ⟨(hex5 n).toArray⟩] w fun e w'=>e = .returned (.int .i64 (Lib.index (bl s) (hex5 n))) ∧ w' = w:=c1
   clear c1 hp HM0 HLE
   generalize Lib.index (bl s) (hex5 n) = i at *
   have C1:=Lib.hid c1'
   have HM:=Lib.hid hM
   have HW:=Lib.hid hTW
   clear c1' hM hTW
   by_cases hi : i < 0
   · have hM:=HM.out
     rw [if_pos hi] at hM
     have HR:=Lib.hid hM
     clear hM HM
     go_wp2_with (go_at_call 323;refine (C1.out W.drew hm).mono ?_;rintro e w1 ⟨rfl,rfl⟩)
     go_ret
     exact ⟨by rw [HR.out];rfl,hbel.drew⟩
   · have hM:=HM.out
     rw [if_neg hi] at hM
     have HR:=Lib.hid hM
     clear hM HM
     obtain ⟨j,rfl⟩:=Int.eq_ofNat_of_zero_le (show 0 ≤ i from by omega)
     go_wp2_with (go_at_call 323;refine (C1.out W.drew hm).mono ?_;rintro e w1 ⟨rfl,rfl⟩)
     go_ret
     exact ⟨by rw [HR.out];rfl,hbel.drew⟩
theorem bStr_fit : ∀ i : Fin 11,(bStr i.val).size / 5 ≤ [135,122,120,104,94,91,89,157,157,157,157].getD i.val 0:=by decide +kernel
theorem bSpansOf_fit (S : Nat → ByteArray) (k : ∀ i,i < 11 → (S i).size / 5 ≤ [135,122,120,104,94,91,89,157,157,157,157].getD i 0) (s : Int × Int × ByteArray) (h : s ∈ bSpansOf S) :
 0 ≤ b5cell s.2.1 ∧ b5cell s.2.1 + (s.2.2.size / 5 : Nat) ≤ 157:=by
 simp only [bSpansOf,List.mem_cons,List.not_mem_nil,or_false] at h
 rcases h with h | h | h | h | h | h | h | h | h | h | h
 · subst h;have:=k 0 (by omega);simp [b5cell] at this ⊢;omega
 · subst h;have:=k 1 (by omega);simp [b5cell] at this ⊢;omega
 · subst h;have:=k 2 (by omega);simp [b5cell] at this ⊢;omega
 · subst h;have:=k 3 (by omega);simp [b5cell] at this ⊢;omega
 · subst h;have:=k 4 (by omega);simp [b5cell] at this ⊢;omega
 · subst h;have:=k 5 (by omega);simp [b5cell] at this ⊢;omega
 · subst h;have:=k 6 (by omega);simp [b5cell] at this ⊢;omega
 · subst h;have:=k 7 (by omega);simp [b5cell] at this ⊢;omega
 · subst h;have:=k 8 (by omega);simp [b5cell] at this ⊢;omega
 · subst h;have:=k 9 (by omega);simp [b5cell] at this ⊢;omega
 · subst h;have:=k 10 (by omega);simp [b5cell] at this ⊢;omega
theorem bSpans_fit (s : Int × Int × ByteArray) (h : s ∈ bSpans) : 0 ≤ b5cell s.2.1 ∧ b5cell s.2.1 + (s.2.2.size / 5 : Nat) ≤ 157:=
 bSpansOf_fit bStr (fun i hi=>bStr_fit ⟨i,hi⟩) s h
theorem findM_bd (s : ByteArray) (p : Int) : -1 ≤ findM (bl s) p ∧ findM (bl s) p ≤ (s.size / 5 : Nat):=by
 have h:=index_len (bl s) (hex5 p.toNat)
 rw [bl_length] at h
 unfold findM
 repeat' split
 all_goals omega
def bfindL : List (Int × Int × ByteArray) → Int → List UInt8 × Int
 | [],_=>([],0)
 | s :: l,a=>if 0 ≤ findM (bl s.2.2) a then (bigL (s.1 * 256 + bsecond (b5cell s.2.1 + findM (bl s.2.2) a)) 2,1) else bfindL l a
def btwoL : List (Int × Int × Int) → Int → Option Int → Option Int
 | [],_,_=>none
 | t :: l,a,b=>if a = t.2.1 ∧ b = some t.2.2 then some t.1 else btwoL l a b
noncomputable def bBytesM : List Int → List UInt8 × Int
 | []=>([],0)
 | a :: r=>match btwoL bTwos a r.head? with
  | some c=>(bigL (136 * 256 + c) 2,2)
  | none=>bfindL bSpans a
set_option maxRecDepth 100000 in
theorem bbytes_any (v : Value) (l : List Int) (w : World) (hT : TW w) (hrow : Row w v l.length (icells l)) (hl : l.length ≤ 1073741824) (hbd : ∀ x ∈ l,-2147483648 ≤ x ∧ x ≤ 2147483647) :
 Calls Tryz.prog 265 #[v] w fun e w'=>e = .returned (.tuple #[.string ⟨(bBytesM l).1.toArray⟩,.int .i64 (bBytesM l).2]) ∧ Below w.heap.size w w':=by
 obtain ⟨av,cap,rfl,hc⟩:=hrow
 cases l with
 | nil=>
  go_enter Tryz.func265,Tryz.ntmps265
  go_wp2_with fail
  go_ret2
  exact ⟨rfl,Below.refl _ _⟩
 | cons a r=>
  obtain ⟨g,o,rfl,ha⟩:=hc 0 (.int .i32 a) rfl
  rw [Nat.add_zero] at ha
  obtain ⟨a0,a1⟩:=hbd a (by simp)
  have hm : bBytesM (a :: r) = match btwoL bTwos a r.head? with | some c=>(bigL (136 * 256 + c) 2,2) | none=>bfindL bSpans a:=rfl
  generalize bBytesM (a :: r) = R at *
  have hr2 : (r = [] ∧ (a :: r).length = 1) ∨ ∃ b,r.head? = some b ∧ 2 ≤ (a :: r).length ∧ w.cell? ⟨g,o + 1,none⟩ = some (.int .i32 b):=by
   cases r with
   | nil=>exact .inl ⟨rfl,rfl⟩
   | cons b r=>
    refine .inr ⟨b,rfl,by simp,?_⟩
    obtain ⟨g',o',e,h⟩:=hc 1 (.int .i32 b) rfl
    simp only [Option.some.injEq,Addr.mk.injEq] at e
    obtain ⟨rfl,rfl,_⟩:=e
    exact h
  generalize (a :: r).length = n at *
  have HM:=Lib.hid hm
  have HR2:=Lib.hid hr2
  have HT:=Lib.hid hT
  clear hm hr2 hc hbd hT
  obtain ⟨hn1⟩ : Nonempty (1 ≤ n):=by rcases HR2.out with ⟨_,h⟩ | ⟨_,_,h,_⟩ <;> exact ⟨by omega⟩
  have hne : ((n : Int) == 0) = false:=by simp;omega
  go_enter Tryz.func265,Tryz.ntmps265
  go_wp2_with (go_at_call 312;refine (btwos_any _).mono ?_;rintro e W ⟨rfl,hb⟩)
  obtain ⟨A,hA⟩ : ∃ A,A = bTwoArr:=⟨_,rfl⟩
  rw [← hA]
  have HA:=Lib.hid hA
  clear hA
  go_loopw [13] (fun t wr=>∃ i : Nat,t = .int .i64 (i : Int) ∧ i ≤ 4 ∧ Hid (btwoL bTwos a r.head? = btwoL (bTwos.drop i) a r.head?) ∧ Below W.heap.size W wr) (fun t _=>(4 - intOf t).toNat)
  case atStart=>exact ⟨0,rfl,by omega,rfl,Below.refl _ _⟩
  case round=>
   obtain ⟨i,rfl,hi,hR,hbel⟩:=hrel
   have hbw:=hb.trans (hbel.mono hb.size)
   have ha':=kc hbw ha
   have haX : ∀ X,(wr.alloc X).cell? ⟨g,o,none⟩ = some (.int .i32 a):=fun X=>kc ((Below.refl _ _).alloc (Nat.le_refl _) X) ha'
   by_cases hlt : i < 4
   · obtain ⟨s,hs⟩:=at_some bTwos i (by rw [bTwos_len];exact hlt)
     have hbd:=bTwos_bd s (List.mem_of_getElem? hs)
     have hx:=bTwoArr_at i s hs
     rw [← HA.out] at hx
     have hr:=hR.out
     rw [drop_at bTwos i (List.getElem?_eq_some_iff.1 hs).1,(List.getElem?_eq_some_iff.1 hs).2] at hr
     obtain ⟨c,x,y⟩:=s
     simp only at hbd hx
     rw [show btwoL ((c,x,y) :: bTwos.drop (i + 1)) a r.head? = if a = x ∧ r.head? = some y then some c else btwoL (bTwos.drop (i + 1)) a r.head? from rfl] at hr
     obtain ⟨c0,c1,x0,x1,y0,y1⟩:=hbd
     have HX:=Lib.hid hx
     have HR:=Lib.hid hr
     clear hx hr hs hR
     rcases HR2.out with ⟨hr0,hn0⟩ | ⟨b,hb2,hn2,hcb⟩
     · have hr:=HR.out
       rw [if_neg (by rw [hr0];simp)] at hr
       have HN:=Lib.hid hr
       have hdec : decide ((1 : Int) < (n : Int)) = false:=by rw [decide_eq_false_iff_not];omega
       clear hr HR hr0 hn0
       go_wp2_with (refine wpList_indexA rfl 332 _ _ rfl 4 331 Tryz.underlying332 _ Tryz.underlying331 rfl 3 (by kernel_rfl) A rfl .i64 i rfl (by omega) _ HX.out ?_)
       go_quiet (fail)
       go_wp2_with fail
       go_roundw
       case rel=>exact ⟨i + 1,by go_num,by omega,HN,bdnB (hbel.alloc hbel.size _) _⟩
       case measure=>simp [intOf];omega
     · have hcb':=kc hbw hcb
       have hcbX : ∀ X,(wr.alloc X).cell? ⟨g,o + 1,none⟩ = some (.int .i32 b):=fun X=>kc ((Below.refl _ _).alloc (Nat.le_refl _) X) hcb'
       have h1n : (1 : Int) < n:=by omega
       have p0 : 0 < n:=by omega
       have p1 : 1 < n:=by omega
       have p0' : (0 : Int) < n:=by omega
       have HB:=Lib.hid hb2
       clear hb2 hcb
       by_cases hax : a = x
       · subst hax
         by_cases hby : b = y
         · subst hby
           have hr:=HR.out
           rw [if_pos ⟨rfl,HB.out⟩] at hr
           have hm:=HM.out
           rw [hr] at hm
           have HF:=Lib.hid hm
           have c1:=fun w=>bcode_any 136 c w (by omega) (by omega) (by omega) (by omega)
           have C1:=Lib.hid c1
           clear hr hm c1 HR HM
           go_wp2_with (refine wpList_indexA rfl 332 _ _ rfl 4 331 Tryz.underlying332 _ Tryz.underlying331 rfl 3 (by kernel_rfl) A rfl .i64 i rfl (by omega) _ HX.out ?_)
           go_quiet (fail)
           go_wp2_with (go_at_call 313;refine (C1.out _).mono ?_;rintro e w1 ⟨rfl,hb1⟩)
           go_ret2
           refine ⟨by rw [HF.out];rfl,?_⟩
           exact bt (bdnB (hbw.alloc (by have:=hbw.size;omega) _) _) hb1
         · have hr:=HR.out
           rw [if_neg (by rw [HB.out];simp [hby])] at hr
           have HN:=Lib.hid hr
           have hby' : (b == y) = false:=by simpa using hby
           clear hr HR hby
           go_wp2_with (refine wpList_indexA rfl 332 _ _ rfl 4 331 Tryz.underlying332 _ Tryz.underlying331 rfl 3 (by kernel_rfl) A rfl .i64 i rfl (by omega) _ HX.out ?_)
           go_quiet (fail)
           go_wp2_with fail
           go_roundw
           case rel=>exact ⟨i + 1,by go_num,by omega,HN,bdnB (hbel.alloc hbel.size _) _⟩
           case measure=>simp [intOf];omega
       · have hr:=HR.out
         rw [if_neg (by simp [hax])] at hr
         have HN:=Lib.hid hr
         have hax' : (a == x) = false:=by simpa using hax
         clear hr HR hax
         go_wp2_with (refine wpList_indexA rfl 332 _ _ rfl 4 331 Tryz.underlying332 _ Tryz.underlying331 rfl 3 (by kernel_rfl) A rfl .i64 i rfl (by omega) _ HX.out ?_)
         go_quiet (fail)
         go_wp2_with fail
         go_roundw
         case rel=>exact ⟨i + 1,by go_num,by omega,HN,bdnB (hbel.alloc hbel.size _) _⟩
         case measure=>simp [intOf];omega
   · have hi4 : i = 4:=by omega
     subst hi4
     have hr:=hR.out
     rw [List.drop_of_length_le (by rw [bTwos_len];exact Nat.le_refl _),btwoL] at hr
     have hm:=HM.out
     rw [hr] at hm
     have HF : Hid (R = bfindL bSpans a):=hm
     clear hr hR hm HM HR2 HA
     go_wp2_with (go_at_call 314;refine (bspans_any _).mono ?_;rintro e V ⟨rfl,hbV⟩)
     have hbV':=hbw.trans (hbV.mono hbw.size)
     have haV:=kc hbV ha'
     clear ha' haX
     obtain ⟨A2,hA2⟩ : ∃ A2,A2 = bSpanArr bStr:=⟨_,rfl⟩
     rw [← hA2]
     have HA2:=Lib.hid hA2
     clear hA2
     go_loopw [42] (fun t wq=>∃ i : Nat,t = .int .i64 (i : Int) ∧ i ≤ 11 ∧ Hid (R = bfindL (bSpans.drop i) a) ∧ Below V.heap.size V wq) (fun t _=>(11 - intOf t).toNat)
     case atStart=>exact ⟨0,rfl,by omega,HF,Below.refl _ _⟩
     case round=>
      obtain ⟨i,rfl,hi,hR,hbel⟩:=hrel
      have hbq:=hbV'.trans (hbel.mono hbV'.size)
      have haq:=kc hbel haV
      have haX : ∀ X,(wr.alloc X).cell? ⟨g,o,none⟩ = some (.int .i32 a):=fun X=>kc ((Below.refl _ _).alloc (Nat.le_refl _) X) haq
      have p0 : 0 < n:=by omega
      have p0' : (0 : Int) < n:=by omega
      by_cases hlt : i < 11
      · obtain ⟨s,hs⟩:=at_some bSpans i (by rw [bSpans_len];exact hlt)
        obtain ⟨hbd,hH⟩:=bSpans_ok s (List.mem_of_getElem? hs)
        obtain ⟨hf0,hf1⟩:=bSpans_fit s (List.mem_of_getElem? hs)
        have hx:=bSpanArr_at bStr i s hs
        rw [← HA2.out] at hx
        have hr:=hR.out
        rw [drop_at bSpans i (List.getElem?_eq_some_iff.1 hs).1,(List.getElem?_eq_some_iff.1 hs).2] at hr
        obtain ⟨c,d,q⟩:=s
        simp only at hbd hH hx hf0 hf1
        rw [show bfindL ((c,d,q) :: bSpans.drop (i + 1)) a = if 0 ≤ findM (bl q) a then (bigL (c * 256 + bsecond (b5cell d + findM (bl q) a)) 2,1) else bfindL (bSpans.drop (i + 1)) a from rfl] at hr
        obtain ⟨c0,c1,d0,d1,q1⟩:=hbd
        obtain ⟨k0,k1⟩:=findM_bd q a
        have x1:=fun w hT=>find_any q a w hT (by omega) a0 a1
        have x2:=fun w=>b5cell_any d w (by omega) (by omega)
        generalize findM (bl q) a = k at *
        generalize b5cell d = e at *
        have hk157 : e + k ≤ 157:=by omega
        have x3:=fun w (hk : 0 ≤ k)=>bsecond_any (e + k) w (by omega) (by omega)
        have hs2 : 0 ≤ k → 0 ≤ bsecond (e + k) ∧ bsecond (e + k) ≤ 255:=by intro h;unfold bsecond;split <;> omega
        generalize bsecond (e + k) = z at *
        have X1:=Lib.hid x1
        have X2:=Lib.hid x2
        have X3:=Lib.hid x3
        have HX:=Lib.hid hx
        have HR:=Lib.hid hr
        clear x1 x2 x3 hx hr hs hH hR
        have hgX : ∀ X (x : Grown (wr.alloc X)),x.wd.cell? ⟨g,o,none⟩ = some (.int .i32 a):=fun X x=>x.cell (haX X)
        have hTX : ∀ X (x : Grown (wr.alloc X)),TW x.wd:=fun X x=>((HT.out.below hbq HT.out.sz).alloc X).bel x.bel
        have hgn:=fun c t (x : Grown (wr.alloc (.cells c t))) i=>x.cell_new i
        go_wp2_with (refine wpList_indexA rfl 337 _ _ rfl 11 336 Tryz.underlying337 _ Tryz.underlying336 rfl 3 (by kernel_rfl) A2 rfl .i64 i rfl (by omega) _ HX.out ?_)
        refine wp_region_grown (by kernel_rfl) (by kernel_rfl) ?_
        repeat (first | go_big_quiet_step ((go_at_call 315;exact Calls.grown_of (X1.out _ (hTX _ _)))) | quiet_step ((go_at_call 315;exact Calls.grown_of (X1.out _ (hTX _ _)))))
        refine wpQuiet_nil ?_
        intro _ hw'
        obtain ⟨xg,rfl⟩:=hw'
        have hbx:=xg.bel
        have v0 : xg.wd.cell? ⟨wr.heap.size,0,none⟩ = some (.int .i64 c):=hgn _ _ xg 0
        have v1 : xg.wd.cell? ⟨wr.heap.size,1,none⟩ = some (.int .i64 d):=hgn _ _ xg 1
        have hb1 : Below w.heap.size w xg.wd:=bt (bal hbq _) hbx
        have hb2 : Below V.heap.size V xg.wd:=bt (bal hbel _) hbx
        clear hgn hgX hTX haX hbx
        generalize xg.wd = V1 at *
        clear xg
        have g0:=fun x : Grown V1=>x.cell v0
        have g1:=fun x : Grown V1=>x.cell v1
        by_cases hk : 0 ≤ k
        · have hr:=HR.out
          rw [if_pos hk] at hr
          obtain ⟨z0,z1⟩:=hs2 hk
          have x4:=fun w=>bcode_any c z w (by omega) (by omega) (by omega) (by omega)
          have HR2:=Lib.hid hr
          have X4:=Lib.hid x4
          clear hr x4
          clear HR hs2
          have hw1 : IntKind.i64.wrap (e + k) = e + k:=by rw [wraps_i64];omega;omega
          go_wp2_with fail
          refine wp_region_grown (by kernel_rfl) (by kernel_rfl) ?_
          repeat (first | go_big_quiet_step ((first | (go_at_call 317;with_reducible exact Calls.grown_of_same (X2.out _)) | (go_at_call 316;with_reducible exact Calls.grown_of_same (X3.out _ hk)) | (go_at_call 313;with_reducible exact Calls.grown_of (X4.out _)))) | quiet_step ((first | (go_at_call 317;with_reducible exact Calls.grown_of_same (X2.out _)) | (go_at_call 316;with_reducible exact Calls.grown_of_same (X3.out _ hk)) | (go_at_call 313;with_reducible exact Calls.grown_of (X4.out _)))))
          refine wpQuiet_nil ?_
          intro _ hw'
          obtain ⟨xg,rfl⟩:=hw'
          have hbx:=xg.bel
          go_wp2_with fail
          go_ret2
          exact ⟨by rw [HR2.out];rfl,bt hb1 hbx⟩
        · have hr:=HR.out
          rw [if_neg hk] at hr
          have HR2:=Lib.hid hr
          clear hr
          clear HR hs2
          go_wp2_with fail
          go_roundw
          case rel=>exact ⟨i + 1,by go_num,by omega,HR2,hb2⟩
          case measure=>simp [intOf];omega
      · have hi11 : i = 11:=by omega
        subst hi11
        have hr:=hR.out
        rw [List.drop_of_length_le (by rw [bSpans_len];exact Nat.le_refl _),bfindL] at hr
        have HR2:=Lib.hid hr
        clear hr hR
        go_wp2_with fail
        go_ret2
        exact ⟨by rw [HR2.out];rfl,hbq⟩
end Go.Proofs.YtohbeinhlhgfiaaGreatDoor
