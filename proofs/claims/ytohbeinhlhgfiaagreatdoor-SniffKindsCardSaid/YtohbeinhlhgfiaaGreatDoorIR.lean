/- Walks: a value, by the reference (ref23.value). -/
import Derived.Test.YtohbeinhlhgfiaaGreatDoorIB
import Derived.Test.YtohbeinhlhgfiaaGreatDoorIC
import Derived.Test.YtohbeinhlhgfiaaGreatDoorIK
import Derived.Test.YtohbeinhlhgfiaaGreatDoorMRgZ
namespace Go.Proofs.YtohbeinhlhgfiaaGreatDoor
open Go.RowKit
set_option linter.unusedVariables false
set_option linter.unusedSimpArgs false
def qR (l : List UInt8) : Int:=if valR l = true then (if l.count 34 = 0 then 0 else 1) else -1
theorem count_step (l : List UInt8) (k : Nat) (x : UInt8) (hx : l[k]? = some x) : (l.take (k + 1)).count 34 = (l.take k).count 34 + (if x = 34 then 1 else 0):=by
 rw [List.take_add_one,hx,List.count_append]
 congr 1
 by_cases h : x = 34
 · subst h;rfl
 · rw [if_neg h]
   simp [List.count_cons,h]
theorem qR_none (l : List UInt8) (h0 : l.count 34 ≠ 0) (h2 : l.count 34 ≠ 2) : qR l = -1:=by
 unfold qR valR
 have a : (l.count 34 == 0) = false:=by rw [beq_eq_false_iff_ne];exact h0
 have b : (l.count 34 == 2) = false:=by rw [beq_eq_false_iff_ne];exact h2
 rw [a,b];rfl
theorem qR_zero (l : List UInt8) (h0 : l.count 34 = 0) : qR l = if l = [] then -1 else 0:=by
 unfold qR valR
 rw [h0]
 cases l <;> simp
theorem qR_two (l : List UInt8) (h0 : l.count 34 = 2) : qR l = if l.head? = some 34 ∧ l.getLast? = some 34 then 1 else -1:=by
 unfold qR valR
 rw [h0]
 by_cases h : l.head? = some 34
 · by_cases h2 : l.getLast? = some 34
   · simp [h,h2]
   · have : (l.getLast? == some (34 : UInt8)) = false:=by simpa using h2
     simp [h,h2,this]
 · have : (l.head? == some (34 : UInt8)) = false:=by simpa using h
   simp [h,this]
set_option maxRecDepth 100000 in
set_option maxHeartbeats 8000000 in
theorem rvalue_any (b : ByteArray) (w : World) (hs : b.size ≤ 1000000) : Calls Tryz.prog 234 #[.string b] w fun e w'=>e = .returned (.int .i64 (qR (bl b))) ∧ Below w.heap.size w w':=by
 have HL : Hid ((bl b).length = b.size):=bl_length b
 obtain ⟨V,hV⟩ : ∃ V,V = qR (bl b):=⟨_,rfl⟩
 rw [← hV]
 have HV:=Lib.hid hV
 clear hV
 go_enter Tryz.func234,Tryz.ntmps234
 go_wp2
 go_loopw [3,4] (fun s i wr=>∃ k n : Nat,i = .int .i64 (k : Int) ∧ s = .int .i64 (n : Int) ∧ k ≤ b.size ∧ n ≤ k ∧ Hid (((bl b).take k).count 34 = n) ∧ wr = w) (fun _ i _=>b.size - (intOf i).toNat)
 case atStart=>exact ⟨0,0,rfl,rfl,Nat.zero_le _,Nat.zero_le _,Lib.hid rfl,rfl⟩
 case round=>
  obtain ⟨k,n,rfl,rfl,hk,hn,hR,rfl⟩:=hrel
  by_cases hlt : k < b.size
  · obtain ⟨x,hx⟩:=at_some (bl b) k (by rw [HL.out];exact hlt)
    have X : ∀ h,b[k]'h = x:=atB_of b k x hx
    have hxl:=x.toNat_lt
    have h1:=count_step (bl b) k x hx
    rw [hR.out] at h1
    clear hx
    by_cases hq : x = 34
    · subst hq
      rw [if_pos rfl] at h1
      have E:=Lib.hid h1
      clear h1
      go_wp2
      go_roundw
      case rel=>exact ⟨k + 1,n + 1,by first | omega | go_num,by first | omega | go_num,by omega,by omega,E,trivial⟩
      case measure=>simp [intOf];omega
    · rw [if_neg hq] at h1
      have g1 : ¬ (x.toNat : Int) = 34:=u8_ne x 34 (by decide) hq
      have g3 : ((x.toNat : Int) == 34) = false:=by simpa using g1
      have E:=Lib.hid h1
      clear h1
      clear hq
      go_wp2
      go_roundw
      case rel=>exact ⟨k + 1,n,by first | omega | go_num,by first | omega | go_num,by omega,by omega,E,trivial⟩
      case measure=>simp [intOf];omega
  · have hc : (bl b).count 34 = n:=by
     have:=hR.out
     rwa [List.take_of_length_le (by rw [HL.out];omega)] at this
    by_cases h0 : n = 0
    · subst h0
      have hv:=HV.out
      rw [qR_zero _ hc] at hv
      by_cases he : b.size = 0
      · have hb : bl b = []:=List.eq_nil_of_length_eq_zero (by rw [HL.out];exact he)
        rw [if_pos hb] at hv
        have hb2 : (b.toList == ([] : List UInt8)) = true:=by rw [ByteArray.toList_eq];exact beq_iff_eq.2 hb
        have hb3 : b.toList.isEmpty = true:=by rw [ByteArray.toList_eq];exact List.isEmpty_iff.2 hb
        have E:=Lib.hid hv
        clear hv
        clear hb hc hR
        go_wp2
        go_ret
        exact ⟨by rw [E.out];rfl,Below.refl _ _⟩
      · have hb : bl b ≠ []:=fun h=>he (by rw [← HL.out,h];rfl)
        rw [if_neg hb] at hv
        have hb2 : (b.toList == ([] : List UInt8)) = false:=by rw [ByteArray.toList_eq];exact beq_eq_false_iff_ne.2 hb
        have hb3 : b.toList.isEmpty = false:=by rw [ByteArray.toList_eq];exact List.isEmpty_eq_false_iff.2 hb
        have E:=Lib.hid hv
        clear hv
        clear hb hc hR
        go_wp2
        go_ret
        exact ⟨by rw [E.out];rfl,Below.refl _ _⟩
    · by_cases h2 : n = 2
      · subst h2
        have hv:=HV.out
        rw [qR_two _ hc] at hv
        obtain ⟨x,hx⟩:=at_some (bl b) 0 (by rw [HL.out];omega)
        obtain ⟨y,hy⟩:=at_some (bl b) (b.size - 1) (by rw [HL.out];omega)
        have X : ∀ h,b[0]'h = x:=atB_of b 0 x hx
        have Y : ∀ h,b[b.size - 1]'h = y:=atB_of b (b.size - 1) y hy
        have hxl:=x.toNat_lt
        have hyl:=y.toNat_lt
        rw [List.head?_eq_getElem?,hx,List.getLast?_eq_getElem?,HL.out,hy] at hv
        have hsz : (0 : Int) < b.size:=by omega
        have hm : ((b.size : Int) - 1).toNat = b.size - 1:=by omega
        have hi1 : ((b.size : Int) - 1) < b.size:=by omega
        have hi2 : (0 : Int) ≤ ((b.size : Int) - 1):=by omega
        clear hx hy hc hR h0
        by_cases q1 : x = 34
        · subst q1
          by_cases q2 : y = 34
          · subst q2
            rw [if_pos ⟨rfl,rfl⟩] at hv
            have E:=Lib.hid hv
            clear hv
            go_wp2
            go_ret
            exact ⟨by rw [E.out];rfl,Below.refl _ _⟩
          · rw [if_neg (fun h=>q2 (Option.some.inj h.2))] at hv
            have g1 : ¬ (y.toNat : Int) = 34:=u8_ne y 34 (by decide) q2
            have g3 : ((y.toNat : Int) == 34) = false:=by simpa using g1
            have E:=Lib.hid hv
            clear hv
            clear q2
            go_wp2
            go_ret
            exact ⟨by rw [E.out];rfl,Below.refl _ _⟩
        · rw [if_neg (fun h=>q1 (Option.some.inj h.1))] at hv
          have g1 : ¬ (x.toNat : Int) = 34:=u8_ne x 34 (by decide) q1
          have g3 : ((x.toNat : Int) == 34) = false:=by simpa using g1
          have E:=Lib.hid hv
          clear hv
          clear q1
          go_wp2
          go_ret
          exact ⟨by rw [E.out];rfl,Below.refl _ _⟩
      · have hv:=HV.out
        rw [qR_none _ (by rw [hc];exact h0) (by rw [hc];exact h2)] at hv
        have g0 : ((n : Int) == 0) = false:=by rw [beq_eq_false_iff_ne];omega
        have g2 : ((n : Int) == 2) = false:=by rw [beq_eq_false_iff_ne];omega
        have E:=Lib.hid hv
        clear hv
        clear hc hR h0 h2
        go_wp2
        go_ret
        exact ⟨by rw [E.out];rfl,Below.refl _ _⟩
end Go.Proofs.YtohbeinhlhgfiaaGreatDoor
namespace Go.Proofs.YtohbeinhlhgfiaaGreatDoor
open Go Go.Rf Go.RowKit
set_option linter.unusedVariables false
set_option linter.unusedSimpArgs false
theorem infoPc : (Tryz.prog.info? 254).map (fun i=>(i.zero,i.size,i.bytes)) = some (some (.agg #[.bool false,.string ⟨#[]⟩,.string ⟨#[]⟩]),3,40):=by kernel_rfl
set_option maxRecDepth 100000 in
theorem rput_any (v : Value) (n : Nat) (cs : List Value) (B : Nat) (t : ByteArray) (w : World) (hown : w.ownsRow B 254 3 v n cs) (hn : n < 1000000) (hB : B ≤ w.heap.size) :
 Calls Tryz.prog 172 #[v,.string t] w fun e w'=>(∃ v',e = .returned v' ∧ w'.ownsRow B 254 3 v' (n + 1) (cs ++ [.bool true,.string ⟨#[109,97,114,107]⟩,.string t])) ∧ Below B w w':=by
 obtain ⟨a1,c1,rfl⟩:=orow_form hown
 have hn1 : n < 70368744177664:=by omega
 have hn2 : (n + 1) * 40 ≤ 140737488355328:=by omega
 go_enter Tryz.func172,Tryz.ntmps172
 go_wp2_with (first
  | (at_builtin;go_loud (refine wpList_push1 rfl _ _ 136 254 rfl Tryz.underlying136 (.agg #[.bool false,.string ⟨#[]⟩,.string ⟨#[]⟩]) 3 40 infoPc rfl (by decide) w B (.slice a1 n c1) n cs rfl hown #[.bool true,.string ⟨#[109,97,114,107]⟩,.string t] rfl (by simp [Value.oneCell']) rfl hn1 hn2 hB ?_);go_loud (intro v' w6 hown6 hb6 hk6))
  | fail)
 go_ret
 exact ⟨⟨_,rfl,hown6⟩,hb6⟩
set_option maxRecDepth 100000 in
theorem rwrite_any (v : Value) (n : Nat) (cs : List Value) (B : Nat) (m t : ByteArray) (w : World) (hown : w.ownsRow B 254 3 v n cs) (hn : n < 1000000) (hB : B ≤ w.heap.size) :
 Calls Tryz.prog 173 #[v,.string m,.string t] w fun e w'=>(∃ v',e = .returned v' ∧ w'.ownsRow B 254 3 v' (n + 1) (cs ++ [.bool false,.string m,.string t])) ∧ Below B w w':=by
 obtain ⟨a1,c1,rfl⟩:=orow_form hown
 have hn1 : n < 70368744177664:=by omega
 have hn2 : (n + 1) * 40 ≤ 140737488355328:=by omega
 go_enter Tryz.func173,Tryz.ntmps173
 go_wp2_with (first
  | (at_builtin;go_loud (refine wpList_push1 rfl _ _ 136 254 rfl Tryz.underlying136 (.agg #[.bool false,.string ⟨#[]⟩,.string ⟨#[]⟩]) 3 40 infoPc rfl (by decide) w B (.slice a1 n c1) n cs rfl hown #[.bool false,.string m,.string t] rfl (by simp [Value.oneCell']) rfl hn1 hn2 hB ?_);go_loud (intro v' w6 hown6 hb6 hk6))
  | fail)
 go_ret
 exact ⟨⟨_,rfl,hown6⟩,hb6⟩
theorem rput_nil (t : ByteArray) (w : World) : Calls Tryz.prog 172 #[.slice none 0 0,.string t] w fun e w'=>(∃ v',e = .returned v' ∧ w'.ownsRow w.heap.size 254 3 v' 1 [.bool true,.string ⟨#[109,97,114,107]⟩,.string t]) ∧ Below w.heap.size w w':=
 rput_any _ 0 [] w.heap.size t w (World.ownsRow_nil _ _ _ _) (by decide) (Nat.le_refl _)
theorem rmark_nil (t : ByteArray) (w : World) : Calls Tryz.prog 171 #[.slice none 0 0,.string t] w fun e w'=>(∃ x,e = .returned x) ∧ Below w.heap.size w w':=by
 have K1:=Lib.hid (rput_nil t)
 by_cases h : t.toList = []
 · have h1 : t.toList.isEmpty = true:=List.isEmpty_iff.2 h
   clear h
   go_enter Tryz.func171,Tryz.ntmps171
   go_wp2_with fail
   go_ret
   exact ⟨⟨_,rfl⟩,Below.refl _ _⟩
 · have h1 : t.toList.isEmpty = false:=List.isEmpty_eq_false_iff.2 h
   clear h
   go_enter Tryz.func171,Tryz.ntmps171
   go_wp2_with (go_at_call 172;go_loud (with_reducible refine (K1.out _).mono ?_);go_loud (rintro e w1 ⟨⟨v,rfl,hown⟩,hb1⟩))
   go_ret
   exact ⟨⟨_,rfl⟩,hb1⟩
/- named; signs: 0 the line, 1 2 where a value begins and ends, 3 its name, 4 it, 5 its signs, 6 7 ahead, 8 9 itself, 10 behind -/
def sNm : List SliF:=[(.sym 0,some (.sym 1),some (.sym 2),.sym 4),(.sym 0,none,some (.sym 6),.sym 7),(.sym 0,some (.sym 6),some (.sym 8),.sym 9),(.sym 0,some (.sym 8),none,.sym 10)]
def cNm : List SymF:=[(234,[.a (.sym 4)],one1 (.sym 5))]
def tNm0 : Told:={ b:=[(.lss,.sym 5,lI 0,lB true)],s:=[(.sym 0,some (.sym 1),some (.sym 2),.sym 4)],c:=cNm }
def tNm (v : Bool) : Told:={ b:=[(.lss,.sym 5,lI 0,lB false),(.add,.sym 1,.sym 5,.sym 6),(.sub,.sym 2,.sym 5,.sym 8),(.eql,.sym 10,lS [],lB v)],s:=sNm,c:=cNm }
theorem rNm0 : okOf (symEv tNm0 174 [.a (.sym 0),.a (.sym 1),.a (.sym 2),.a (.sym 3)]) = some false:=by kernel_rfl
theorem rNm (v : Bool) : okOf (symEv (tNm v) 174 [.a (.sym 0),.a (.sym 1),.a (.sym 2),.a (.sym 3)]) = some true:=by cases v <;> kernel_rfl
theorem rnamed_any (s nm : ByteArray) (f g : Nat) (w : World) (hG : GW w) (hs : s.size ≤ 1000000) (hfg : f ≤ g) (hg : g ≤ s.size) : Calls Tryz.prog 174 #[.string s,.int .i64 (f : Int),.int .i64 (g : Int),.string nm] w fun e w'=>(∃ x,e = .returned (.tuple #[x,.bool (valR (bl (s.extract f g)))])) ∧ Below w.heap.size w w':=by
 obtain ⟨V,hV⟩ : ∃ V,V = s.extract f g:=⟨_,rfl⟩
 have hVz : V.size = g - f:=by rw [hV,ByteArray.size_extract];omega
 have kv:=fun w=>rvalue_any V w (by omega)
 rw [← hV]
 cases hr : valR (bl V) with
 | false=>
  have hq : qR (bl V) = -1:=by unfold qR;rw [hr];rfl
  rw [hq] at kv
  letI:=sgL [.string s,.int .i64 f,.int .i64 g,.string nm,.string V,.int .i64 (-1)] ⟨okS_str _,okS_int _ _,okS_int _ _,okS_str _,okS_str _,okS_int _ _,trivial⟩
  exact sym_ok (vals:=[.string s,.int .i64 f,.int .i64 g,.string nm]) hG (T:=tNm0) ⟨⟨bok_lss (a:=-1) (c:=0) (k:=.i64) (fun _=>rfl) (fun _=>rfl) (by decide),trivial⟩,trivial,
   ⟨⟨s,f,g,fun _=>rfl,⟨.i64,fun _=>rfl⟩,⟨.i64,fun _=>rfl⟩,hfg,hg,fun _=>by rw [← hV];rfl⟩,trivial⟩,trivial,⟨⟨[.string V],_,fun _=>rfl,fun _=>rfl,fun w' _=>kv w'⟩,trivial⟩,trivial,trivial⟩ rfl rNm0
 | true=>
  obtain ⟨q,hq,hq1⟩ : ∃ q : Nat,qR (bl V) = (q : Int) ∧ f + q ≤ g - q ∧ q ≤ g:=by
   unfold qR
   rw [hr,if_pos rfl]
   by_cases h0 : (bl V).count 34 = 0
   · exact ⟨0,by rw [if_pos h0];rfl,by omega,by omega⟩
   · refine ⟨1,by rw [if_neg h0];rfl,?_⟩
     have h2 : (bl V).count 34 = 2:=by
      unfold valR at hr
      have : ((bl V).count 34 == 0) = false:=by rw [beq_eq_false_iff_ne];exact h0
      rw [this] at hr
      rw [Bool.false_and,Bool.false_or,Bool.and_eq_true,Bool.and_eq_true,beq_iff_eq] at hr
      exact hr.1.1
     have h3 : (bl V).count 34 ≤ (bl V).length:=List.count_le_length
     rw [bl_length] at h3
     omega
  obtain ⟨hq1,hq2⟩:=hq1
  rw [hq] at kv
  obtain ⟨v,hv⟩ : ∃ v,((s.extract (g - q) s.size).data.toList == ([] : List UInt8)) = v:=⟨_,rfl⟩
  letI:=sgL [.string s,.int .i64 f,.int .i64 g,.string nm,.string V,.int .i64 (q : Int),.int .i64 ((f + q : Nat) : Int),.string (s.extract 0 (f + q)),.int .i64 ((g - q : Nat) : Int),.string (s.extract (f + q) (g - q)),.string (s.extract (g - q) s.size)]
   ⟨okS_str _,okS_int _ _,okS_int _ _,okS_str _,okS_str _,okS_int _ _,okS_int _ _,okS_str _,okS_int _ _,okS_str _,okS_str _,trivial⟩
  exact sym_ok (vals:=[.string s,.int .i64 f,.int .i64 g,.string nm]) hG (T:=tNm v) ⟨⟨bok_lss (a:=(q : Int)) (c:=0) (k:=.i64) (fun _=>rfl) (fun _=>rfl) (by simp),bok_addI (a:=(f : Int)) (c:=(q : Int)) (k:=.i64) (fun _=>rfl) (fun _=>rfl) (fun _=>rfl) (wi64 _ (by omega) (by omega)),
   bok_subI (a:=(g : Int)) (c:=(q : Int)) (k:=.i64) (fun _=>rfl) (fun _=>rfl) (fun _=>by rw [show (g : Int) - (q : Int) = ((g - q : Nat) : Int) by omega];rfl) (wi64 _ (by omega) (by omega)),bok_eqs (s:=s.extract (g - q) s.size) (t:=⟨⟨[]⟩⟩) (fun _=>rfl) (fun _=>rfl) hv,trivial⟩,trivial,
   ⟨⟨s,f,g,fun _=>rfl,⟨.i64,fun _=>rfl⟩,⟨.i64,fun _=>rfl⟩,hfg,hg,fun _=>by rw [← hV];rfl⟩,⟨s,0,f + q,fun _=>rfl,rfl,⟨.i64,fun _=>rfl⟩,by omega,by omega,fun _=>rfl⟩,⟨s,f + q,g - q,fun _=>rfl,⟨.i64,fun _=>rfl⟩,⟨.i64,fun _=>rfl⟩,hq1,by omega,fun _=>rfl⟩,⟨s,g - q,s.size,fun _=>rfl,⟨.i64,fun _=>rfl⟩,rfl,by omega,Nat.le_refl _,fun _=>rfl⟩,trivial⟩,
   trivial,⟨⟨[.string V],_,fun _=>rfl,fun _=>rfl,fun w' _=>kv w'⟩,trivial⟩,trivial,trivial⟩ rfl (rNm v)
/- plain; signs: 0 the word, 1 the rest, 2 its size, 3 4 its first three bytes, and what is behind -/
def nmQ : List (List UInt8):=[traL,indL,preL,posL,catL,isrL,flaL]
def eqQ : List (List UInt8) → Nat → Nat → List BinF
 | [],_,_=>[]
 | l :: r,j,m=>(.eql,.sym 0,lS l,lB (Nat.beq j m)) :: eqQ r (j + 1) m
def tQ (m : Nat) (b : List BinF) (s : List SliF) (c : List SymF) : Told:={ b:=b ++ eqQ nmQ 0 m,s:=s,l:=[(1,.sym 2)],c:=c }
def inxL : List UInt8:=[48,48,32] ++ momL
def bQ (g : Bool) : List BinF:=[(.geq,.sym 2,lI 4,lB g)]
def sQ : List SliF:=[(.sym 1,none,some (lI 3),.sym 3),(.sym 1,some (lI 3),none,.sym 4)]
def cQ (p r : Bool) : List SymF:=[(170,[.a (.sym 3),.a (lS [48,48,32])],one1 (lB p)),(175,[.a (.sym 4)],one1 (lB r))]
def lkQ (f : List UInt8) (r : Bool) : List SymF:=[(170,[.a (.sym 1),.a (lS f)],one1 (lB r))]
def wkQ (r : Bool) : List SymF:=[(236,[.a (.sym 1)],one1 (lB r))]
noncomputable abbrev runQ (T : Told) : Option V2:=symEv T 176 [.a (.sym 0),.a (.sym 1)]
theorem q0 (p r : Bool) : runQ (tQ 0 (bQ true) sQ (cQ p r)) = some (one1 (lB (p && r))):=by cases p <;> cases r <;> kernel_rfl
theorem q9 : runQ (tQ 0 (bQ false) [] []) = some (one1 (lB false)):=by kernel_rfl
theorem q1 (r : Bool) : runQ (tQ 1 [] [] (lkQ inxL r)) = some (one1 (lB r)):=by cases r <;> kernel_rfl
theorem q2 (r : Bool) : runQ (tQ 2 [] [] (lkQ momL r)) = some (one1 (lB r)):=by cases r <;> kernel_rfl
theorem q3 (r : Bool) : runQ (tQ 3 [] [] (lkQ momL r)) = some (one1 (lB r)):=by cases r <;> kernel_rfl
theorem q4 (r : Bool) : runQ (tQ 4 [] [] (wkQ r)) = some (one1 (lB r)):=by cases r <;> kernel_rfl
theorem q5 (r : Bool) : runQ (tQ 5 [] [] (wkQ r)) = some (one1 (lB r)):=by cases r <;> kernel_rfl
theorem q6 (r : Bool) : runQ (tQ 6 [] [] (wkQ r)) = some (one1 (lB r)):=by cases r <;> kernel_rfl
theorem q7 : runQ (tQ 7 [] [] []) = some (one1 (lB false)):=by kernel_rfl
def plainR (w rest : List UInt8) : Bool:=if w = traL then trackR rest else if w = indL then indexR rest else if w = preL ∨ w = posL then likeL rest momL else if w = catL ∨ w = isrL ∨ w = flaL then wordsL rest else false
noncomputable abbrev qI (W S : ByteArray) : Sym:=sgL [.string W,.string S,.int .i64 S.size,.string (S.extract 0 3),.string (S.extract 3 S.size)] ⟨okS_str _,okS_str _,okS_int _ _,okS_str _,okS_str _,trivial⟩
theorem eqQ_ok (W S : ByteArray) (m : Nat) : letI:=qI W S;∀ (l : List (List UInt8)) (j : Nat),(∀ i x,l[i]? = some x → (bl W == x) = Nat.beq (j + i) m) → BAllOk (eqQ l j m)
 | [],_,_=>trivial
 | x :: l,j,h=>
  letI:=qI W S
  ⟨bok_eqs (s:=W) (t:=⟨⟨x⟩⟩) (fun _=>rfl) (fun _=>rfl) (h 0 x rfl),eqQ_ok W S m l (j + 1) fun i y hy=>by rw [h (i + 1) y (by simpa using hy)];congr 1;omega⟩
theorem nmq_at {l : List UInt8} {m : Nat} (x : List UInt8) (hx : nmQ[m]? = some x) (hl : l = x) : ∀ i y,nmQ[i]? = some y → (l == y) = Nat.beq (0 + i) m:=by
 subst hl
 intro i y hy
 have hm : m < 7:=(List.getElem?_eq_some_iff.1 hx).1
 have hi : i < 7:=(List.getElem?_eq_some_iff.1 hy).1
 have key : ∀ i j : Fin 7,(nmQ[j.val]? == nmQ[i.val]?) = Nat.beq (0 + i.val) j.val:=by decide
 have:=key ⟨i,hi⟩ ⟨m,hm⟩
 simp only [hx,hy] at this
 rw [← this]
 rfl
theorem nmq_no {l : List UInt8} (h : ∀ x ∈ nmQ,l ≠ x) : ∀ i y,nmQ[i]? = some y → (l == y) = Nat.beq (0 + i) 7:=by
 intro i y hy
 have hi : i < 7:=(List.getElem?_eq_some_iff.1 hy).1
 have h1 : (l == y) = false:=by rw [beq_eq_false_iff_ne];exact h y (List.mem_of_getElem? hy)
 have h2 : Nat.beq (0 + i) 7 = false:=by
  cases hb : Nat.beq (0 + i) 7 with
  | false=>rfl
  | true=>have:=Nat.eq_of_beq_eq_true hb;omega
 rw [h1,h2]
theorem rplain_any (W S : ByteArray) (w : World) (hG : GW w) (hs : S.size ≤ 1000000) : Calls Tryz.prog 176 #[.string W,.string S] w fun e w'=>e = .returned (.bool (plainR (bl W) (bl S))) ∧ Below w.heap.size w w':=by
 have hL : letI:=qI W S;AllP LenOk [((1 : Nat),At.sym 2)]:=letI:=qI W S;⟨⟨S,rfl,fun _=>rfl⟩,trivial⟩
 have go : ∀ (m : Nat) (x : List UInt8) (b : List BinF) (s : List SliF) (c : List SymF) (r : Bool),nmQ[m]? = some x → bl W = x → (letI:=qI W S;BAllOk b) → (letI:=qI W S;AllP SliOk s) → (letI:=qI W S;AllP (COk w) c) → runQ (tQ m b s c) = some (one1 (lB r)) →
  Calls Tryz.prog 176 #[.string W,.string S] w fun e w'=>e = .returned (.bool r) ∧ Below w.heap.size w w':=fun m x b s c r hx hl hb hsl hc hr=>
  letI:=qI W S
  sym_to (vals:=[.string W,.string S]) hG (T:=tQ m b s c) ⟨ball_app hb (eqQ_ok W S m nmQ 0 (nmq_at x hx hl)),trivial,hsl,hL,hc,trivial,trivial⟩ rfl hr (fun _=>rfl)
 have lk : ∀ (f : List UInt8),f.length ≤ 1000 → (letI:=qI W S;AllP (COk w) (lkQ f (likeL (bl S) f))):=fun f hf=>
  letI:=qI W S
  ⟨⟨[.string S,.string ⟨⟨f⟩⟩],_,fun _=>rfl,fun _=>rfl,fun w' _=>rlike_any S ⟨⟨f⟩⟩ w' hs (by show f.length ≤ _;omega)⟩,trivial⟩
 have wk : (letI:=qI W S;AllP (COk w) (wkQ (wordsL (bl S)))):=
  letI:=qI W S
  ⟨⟨[.string S],_,fun _=>rfl,fun _=>rfl,fun w' _=>rwords_any S w' hs⟩,trivial⟩
 unfold plainR
 by_cases h0 : bl W = traL
 · rw [if_pos h0]
   by_cases hg : 4 ≤ S.size
   · have e1 : bl (S.extract 0 3) = (bl S).take 3:=by show (S.extract 0 3).data.toList = _;rw [ex_list S 0 3 (by omega) (by omega)];rfl
     have e2 : bl (S.extract 3 S.size) = (bl S).drop 3:=by rw [ex_drop S 3 (by omega)]
     have e : trackR (bl S) = (likeL (bl (S.extract 0 3)) [48,48,32] && cpsL (bl (S.extract 3 S.size))):=by unfold trackR;rw [e1,e2,bl_length,decide_eq_true hg,Bool.true_and]
     rw [e]
     letI:=qI W S
     exact go 0 traL (bQ true) sQ (cQ (likeL (bl (S.extract 0 3)) [48,48,32]) (cpsL (bl (S.extract 3 S.size)))) _ rfl h0 ⟨bok_geq (a:=S.size) (c:=4) (k:=.i64) (fun _=>rfl) (fun _=>rfl) (by simp;omega),trivial⟩
      ⟨⟨S,0,3,fun _=>rfl,rfl,⟨.i64,fun _=>rfl⟩,by omega,by omega,fun _=>rfl⟩,⟨S,3,S.size,fun _=>rfl,⟨.i64,fun _=>rfl⟩,rfl,by omega,Nat.le_refl _,fun _=>rfl⟩,trivial⟩
      ⟨⟨[.string (S.extract 0 3),.string ⟨⟨[48,48,32]⟩⟩],_,fun _=>rfl,fun _=>rfl,fun w' _=>rlike_any (S.extract 0 3) ⟨⟨[48,48,32]⟩⟩ w' (by rw [ByteArray.size_extract];omega) (by decide)⟩,⟨[.string (S.extract 3 S.size)],_,fun _=>rfl,fun _=>rfl,fun w' _=>rcaps_any (S.extract 3 S.size) w' (by rw [ByteArray.size_extract];omega)⟩,trivial⟩ (q0 _ _)
   · have e : trackR (bl S) = false:=by unfold trackR;rw [bl_length,decide_eq_false hg];rfl
     rw [e]
     letI:=qI W S
     exact go 0 traL (bQ false) [] [] _ rfl h0 ⟨bok_geq (a:=S.size) (c:=4) (k:=.i64) (fun _=>rfl) (fun _=>rfl) (by simp;omega),trivial⟩ trivial trivial q9
 · rw [if_neg h0]
   by_cases h1 : bl W = indL
   · rw [if_pos h1]
     exact go 1 indL [] [] (lkQ inxL (likeL (bl S) inxL)) _ rfl h1 trivial trivial (lk inxL (by decide)) (q1 _)
   · rw [if_neg h1]
     by_cases h2 : bl W = preL
     · rw [if_pos (Or.inl h2)];exact go 2 preL [] [] (lkQ momL (likeL (bl S) momL)) _ rfl h2 trivial trivial (lk momL (by decide)) (q2 _)
     · by_cases h3 : bl W = posL
       · rw [if_pos (Or.inr h3)];exact go 3 posL [] [] (lkQ momL (likeL (bl S) momL)) _ rfl h3 trivial trivial (lk momL (by decide)) (q3 _)
       · rw [if_neg (fun h=>h.elim h2 h3)]
         by_cases h4 : bl W = catL
         · rw [if_pos (Or.inl h4)];exact go 4 catL [] [] (wkQ (wordsL (bl S))) _ rfl h4 trivial trivial wk (q4 _)
         · by_cases h5 : bl W = isrL
           · rw [if_pos (Or.inr (Or.inl h5))];exact go 5 isrL [] [] (wkQ (wordsL (bl S))) _ rfl h5 trivial trivial wk (q5 _)
           · by_cases h6 : bl W = flaL
             · rw [if_pos (Or.inr (Or.inr h6))];exact go 6 flaL [] [] (wkQ (wordsL (bl S))) _ rfl h6 trivial trivial wk (q6 _)
             · rw [if_neg (by rintro (h | h | h) <;> contradiction)]
               letI:=qI W S
               refine sym_to (vals:=[.string W,.string S]) hG (T:=tQ 7 [] [] []) ⟨eqQ_ok W S 7 nmQ 0 (nmq_no ?_),trivial,trivial,hL,trivial,trivial,trivial⟩ rfl q7 (fun _=>rfl)
               intro x hx
               simp only [nmQ,List.mem_cons,List.not_mem_nil,or_false] at hx
               rcases hx with rfl | rfl | rfl | rfl | rfl | rfl | rfl <;> assumption
end Go.Proofs.YtohbeinhlhgfiaaGreatDoor
namespace Go.Proofs.YtohbeinhlhgfiaaGreatDoor
open Go Go.Rf Go.RowKit
set_option linter.unusedVariables false
set_option linter.unusedSimpArgs false
theorem tw_drop (p : UInt8 → Bool) (l : List UInt8) (i k : Nat) (hik : i ≤ k) (ha : ((l.drop i).take (k - i)).all p = true) (hk : k ≤ l.length) (hn : ∀ c,l[k]? = some c → p c = false) : i + ((l.drop i).takeWhile p).length = k:=by
 have:=tw_len p (l.drop i) (k - i) ha (by rw [List.length_drop];omega) (fun c hc=>hn c (by rw [List.getElem?_drop] at hc;rwa [show i + (k - i) = k by omega] at hc))
 omega
theorem all_dstep (p : UInt8 → Bool) (l : List UInt8) (i k : Nat) (x : UInt8) (hik : i ≤ k) (hx : l[k]? = some x) (ha : ((l.drop i).take (k - i)).all p = true) (h : p x = true) : ((l.drop i).take (k + 1 - i)).all p = true:=by
 have hx2 : (l.drop i)[k - i]? = some x:=by rw [List.getElem?_drop,show i + (k - i) = k by omega];exact hx
 have:=(all_step p (l.drop i) (k - i) x hx2 ha).1 h
 rwa [show k - i + 1 = k + 1 - i by omega] at this
theorem rest_plain (w r : List UInt8) (h0 : w ≠ remL) (h1 : w ≠ titL) (h2 : w ≠ perL) (h3 : w ≠ sonL) (h4 : w ≠ filL) : restOk w r = plainR w r:=by
 unfold restOk plainR
 rw [if_neg h0,if_neg (by rintro (h | h | h) <;> contradiction),if_neg h4,track_eq,index_eq]
theorem wd_ext (s : ByteArray) (J : Nat) (hJ : wdJ (bl s) = J) : (s.extract (wdI (bl s)) J).toList = wdW (bl s):=by
 rw [ByteArray.toList_eq,← hJ];exact word_list s
theorem eqs_of {x : ByteArray} {l m : List UInt8} (h : x.toList = l) (v : Bool) (hv : decide (l = m) = v) : (x.toList == m) = v:=by
 rw [h,← hv]
 by_cases e : l = m
 · subst e;simp
 · simp [e]
set_option maxRecDepth 100000 in
set_option maxHeartbeats 16000000 in
theorem rpieces_any (s : ByteArray) (w : World) (hG : GW w) (hs : s.size ≤ 1000000) : Calls Tryz.prog 87 #[.string s] w fun e w'=>(∃ x,e = .returned (.tuple #[x,.bool (cueOk (bl s))])) ∧ Below w.heap.size w w':=by
 have HL : Hid ((bl s).length = s.size):=bl_length s
 obtain ⟨V,hV⟩ : ∃ V,V = cueOk (bl s):=⟨_,rfl⟩
 rw [← hV]
 have HV:=Lib.hid hV
 have HG:=Lib.hid hG
 have KM:=Lib.hid (rmark_nil s)
 have KP:=Lib.hid (fun t w=>rput_nil t w)
 clear hV hG
 go_enter Tryz.func87,Tryz.ntmps87
 go_wp2
 go_loopw [4] (fun i wr=>∃ k : Nat,i = .int .i64 (k : Int) ∧ k ≤ s.size ∧ Hid (((bl s).take k).all blB = true) ∧ wr = w) (fun i _=>s.size - (intOf i).toNat)
 case atStart=>exact ⟨0,rfl,Nat.zero_le _,Lib.hid (by simp),rfl⟩
 case round=>
  obtain ⟨k,rfl,hk,hR,rfl⟩:=hrel
  have hor : (k < s.size ∧ ∃ x,(bl s)[k]? = some x ∧ blB x = true) ∨ (k = s.size ∨ (k < s.size ∧ ∃ x,(bl s)[k]? = some x ∧ blB x = false)):=by
   by_cases hlt : k < s.size
   · obtain ⟨x,hx⟩:=at_some (bl s) k (by rw [HL.out];exact hlt)
     cases hc : blB x with
     | true=>exact .inl ⟨hlt,x,hx,hc⟩
     | false=>exact .inr (.inr ⟨hlt,x,hx,hc⟩)
   · exact .inr (.inl (by omega))
  rcases hor with ⟨hlt,x,hx,hc⟩ | hor
  · have X : ∀ h,s[k]'h = x:=atB_of s k x hx
    obtain ⟨h1,h2⟩:=all_step blB (bl s) k x hx hR.out
    have e:=h1 hc
    have E:=Lib.hid e
    clear e
    clear h1 h2 hx
    have g : x = 32 ∨ x = 9:=by simpa [blB] using hc
    clear hc
    rcases g with rfl | rfl
    all_goals
     go_wp2
     go_roundw
     case rel=>exact ⟨k + 1,by first | omega | go_num,by omega,E,trivial⟩
     case measure=>simp [intOf];omega
  · have hI : wdI (bl s) = k:=by
     refine tw_len blB (bl s) k hR.out (by rw [HL.out];exact hk) (fun c hc=>?_)
     rcases hor with h | ⟨_,x,hx,hb⟩
     · have:=(List.getElem?_eq_some_iff.1 hc).1;rw [HL.out] at this;omega
     · rw [hx] at hc;cases hc;exact hb
    have HI:=Lib.hid hI
    clear hI hR
    rcases hor with hk2 | ⟨hlt,x,hx,hb⟩
    · subst hk2
      have hJ : wdJ (bl s) = s.size:=by have h1:=wdJ_ge (bl s);have h2:=wdJ_le (bl s);rw [HI.out] at h1;rw [HL.out] at h2;omega
      have hv : V = true:=by rw [HV.out,cueOk_none _ (by rw [HI.out,hJ]),hJ,HL.out];exact decide_eq_true rfl
      have hE : (s.extract s.size s.size).toList.isEmpty = true:=by
       rw [ByteArray.toList_eq,List.isEmpty_iff]
       apply List.eq_nil_of_length_eq_zero
       show (s.extract s.size s.size).size = 0
       rw [ByteArray.size_extract];omega
      subst hv
      clear hk HI hJ
      go_wp2_with fail
      go_loopw [5] (fun j wx=>j = .int .i64 (s.size : Int) ∧ wx = wr) (fun _ _=>0)
      case atStart=>exact ⟨rfl,rfl⟩
      case round=>
       obtain ⟨rfl,rfl⟩:=hrel
       go_wp2_with (go_at_call 171;go_loud (with_reducible refine (KM.out _).mono ?_);go_loud (rintro e w1 ⟨⟨v,rfl⟩,hb1⟩))
       go_ret2
       exact ⟨⟨_,rfl⟩,hb1⟩
    · have X : ∀ h,s[k]'h = x:=atB_of s k x hx
      have hxl:=x.toNat_lt
      have g1 : ((x.toNat : Int) == 32) = false:=by rw [beq_eq_false_iff_ne];exact u8_ne x 32 (by decide) (by intro h;subst h;cases hb)
      have g2 : ((x.toNat : Int) == 9) = false:=by rw [beq_eq_false_iff_ne];exact u8_ne x 9 (by decide) (by intro h;subst h;cases hb)
      clear hx hb
      go_wp2_with fail
      go_loopw [5] (fun j wx=>∃ m : Nat,j = .int .i64 (m : Int) ∧ k ≤ m ∧ m ≤ s.size ∧ Hid ((((bl s).drop k).take (m - k)).all azB = true) ∧ wx = wr) (fun j _=>s.size - (intOf j).toNat)
      case atStart=>exact ⟨k,rfl,Nat.le_refl _,hk,Lib.hid (by simp),rfl⟩
      case round=>
       obtain ⟨m,rfl,hkm,hms,hR,rfl⟩:=hrel
       have hor : (m < s.size ∧ ∃ y,(bl s)[m]? = some y ∧ azB y = true) ∨ (m = s.size ∨ (m < s.size ∧ ∃ y,(bl s)[m]? = some y ∧ azB y = false)):=by
        by_cases hlt : m < s.size
        · obtain ⟨y,hy⟩:=at_some (bl s) m (by rw [HL.out];exact hlt)
          cases hc : azB y with
          | true=>exact .inl ⟨hlt,y,hy,hc⟩
          | false=>exact .inr (.inr ⟨hlt,y,hy,hc⟩)
        · exact .inr (.inl (by omega))
       rcases hor with ⟨hlm,y,hy,hc⟩ | hor
       · have X : ∀ h,s[m]'h = y:=atB_of s m y hy
         have hyl:=y.toNat_lt
         have e:=all_dstep azB (bl s) k m y hkm hy hR.out hc
         have E:=Lib.hid e
         clear e
         have g : (65 : Int) ≤ (y.toNat : Int) ∧ (y.toNat : Int) ≤ 90:=by simp [azB] at hc;omega
         obtain ⟨g1,g2⟩:=g
         clear hy hc hR
         go_wp2_with fail
         go_roundw
         case rel=>exact ⟨m + 1,by first | omega | go_num,by omega,by omega,E,trivial⟩
         case measure=>simp [intOf];omega
       · have hJ : wdJ (bl s) = m:=by
          unfold wdJ
          rw [HI.out]
          refine tw_drop azB (bl s) k m hkm hR.out (by rw [HL.out];exact hms) (fun c hc=>?_)
          rcases hor with h | ⟨_,y,hy,hb⟩
          · have:=(List.getElem?_eq_some_iff.1 hc).1;rw [HL.out] at this;omega
          · rw [hy] at hc;cases hc;exact hb
         have hw : (s.extract k m).toList = wdW (bl s):=by have:=wd_ext s m hJ;rwa [HI.out] at this
         have hz : (s.extract k m).toList.isEmpty = decide (k = m):=by
          rw [ByteArray.toList_eq,Bool.eq_iff_iff,List.isEmpty_iff,decide_eq_true_iff,← List.length_eq_zero_iff]
          show (s.extract k m).size = 0 ↔ _
          rw [ByteArray.size_extract];omega
         have HJ:=Lib.hid hJ
         have HW:=Lib.hid hw
         have HZ:=Lib.hid hz
         have i0 : (0 : Int) ≤ (k : Int):=by omega
         have i1 : (k : Int) ≤ (m : Int):=by omega
         have i2 : (m : Int) ≤ (s.size : Int):=by omega
         clear hJ hw hz hR
         rcases hor with hm2 | ⟨hlm,y,hy,hb⟩
         · by_cases hkm2 : k = m
           · omega
           · have hE:=HZ.out
             rw [decide_eq_false hkm2] at hE
             have hv : V = (wdW (bl s) == remL):=by rw [HV.out,cueOk_word _ (by rw [HI.out,HJ.out];exact hkm2),HJ.out,HL.out,if_pos hm2]
             obtain ⟨q,hq⟩ : ∃ q,((s.extract k m).toList == [82,69,77]) = q:=⟨_,rfl⟩
             have hvq : V = q:=by rw [hv,← hq,HW.out];rfl
             subst hvq
             subst hm2
             have KP1:=Lib.hid (fun w=>KP.out s w)
             clear hv HJ HW HZ HI
             go_wp2_with (go_at_call 172;go_loud (with_reducible refine (KP1.out _).mono ?_);go_loud (rintro e w1 ⟨⟨v,rfl,hown⟩,hb1⟩))
             go_ret2
             exact ⟨⟨_,by first | rfl | rw [hq]⟩,hb1⟩
         · have Y : ∀ h,s[m]'h = y:=atB_of s m y hy
           have hyl:=y.toNat_lt
           have hm3 : ¬ ((m : Int) == (s.size : Int)) = true:=by simp;omega
           have hm4 : ((m : Int) == (s.size : Int)) = false:=by simpa using hm3
           have gy : (y.toNat : Int) < 65 ∨ (65 : Int) ≤ (y.toNat : Int) ∧ (90 : Int) < (y.toNat : Int):=by simp [azB] at hb;omega
           by_cases hkm2 : k = m
           · have hE:=HZ.out
             rw [decide_eq_true hkm2] at hE
             have hv : V = false:=by rw [HV.out,cueOk_none _ (by rw [HI.out,HJ.out];exact hkm2),HJ.out,HL.out];exact decide_eq_false (by omega)
             subst hv
             clear hb hy HJ HW HZ HI hm3 hkm2
             rcases gy with g | ⟨g,g'⟩
             all_goals
              go_wp2_with (go_at_call 171;go_loud (with_reducible refine (KM.out _).mono ?_);go_loud (rintro e w1 ⟨⟨v,rfl⟩,hb1⟩))
              go_ret2
              exact ⟨⟨_,rfl⟩,hb1⟩
           · have hE:=HZ.out
             rw [decide_eq_false hkm2] at hE
             have hv:=cueOk_word (bl s) (by rw [HI.out,HJ.out];exact hkm2)
             rw [HJ.out,HL.out,if_neg (by omega),hy,← HV.out] at hv
             by_cases h32 : y = 32
             · subst h32
               rw [if_neg (by simp)] at hv
               have HV2:=Lib.hid hv
               have hrest : bl (s.extract (m + 1) s.size) = (bl s).drop (m + 1):=by rw [ex_drop s (m + 1) (by omega)]
               have HRS:=Lib.hid hrest
               have j0 : (0 : Int) ≤ (m : Int) + 1:=by omega
               have j1 : (m : Int) + 1 ≤ (s.size : Int):=by omega
               have j2 : ((m : Int) + 1).toNat = m + 1:=by omega
               have j3 : IntKind.i64.wrap ((m : Int) + 1) = (m : Int) + 1:=wi64 _ (by omega) (by omega)
               have kn : ∀ (nm : ByteArray) w',Below wr.heap.size wr w' → Calls Tryz.prog 174 #[.string s,.int .i64 ((m : Int) + 1),.int .i64 (s.size : Int),.string nm] w' fun e w''=>(∃ x,e = .returned (.tuple #[x,.bool (valR ((bl s).drop (m + 1)))])) ∧ Below w'.heap.size w' w'':=fun nm w' hbw=>by
                have:=rnamed_any s nm (m + 1) s.size w' (HG.out.bel hbw) hs (by omega) (Nat.le_refl _)
                rw [hrest] at this
                exact this
               have KN:=Lib.hid kn
               clear hv hb hy HZ hm3 gy hkm2 kn hrest
               by_cases h0 : wdW (bl s) = remL
               · have r0 : ((s.extract k m).toList == [82,69,77]) = true:=by rw [HW.out,h0];rfl
                 have hv : V = true:=by rw [HV2.out,h0];rfl
                 subst hv
                 clear h0 KN HW HI HJ HRS HV2
                 go_wp2_with fail
                 go_region_with (first
                  | (go_at_call 172;go_loud (refine (KP.out _ _).mono ?_);go_loud (rintro e w1 ⟨⟨v,rfl,hown⟩,hb1⟩))
                  | (go_at_call 173;go_loud (refine (rwrite_any _ _ _ _ _ _ _ hown (by decide) hb1.size).mono ?_);go_loud (rintro e w2 ⟨⟨v2,rfl,_⟩,hb2⟩)))
                 all_goals
                  go_wp2_with fail
                  go_ret2
                  exact ⟨⟨_,rfl⟩,bt (Below.refl _ _).drew (hb1.trans (hb2.mono (Nat.le_refl _)))⟩
               · have r0 : ((s.extract k m).toList == [82,69,77]) = false:=eqs_of HW.out _ (decide_eq_false h0)
                 by_cases h1 : wdW (bl s) = titL ∨ wdW (bl s) = perL ∨ wdW (bl s) = sonL
                 · have hv : V = valR ((bl s).drop (m + 1)):=by rw [HV2.out];unfold restOk;rw [if_neg h0,if_pos h1,valOk_eq]
                   have hf : ((s.extract k m).toList == [84,73,84,76,69]) = true ∨ (((s.extract k m).toList == [84,73,84,76,69]) = false ∧ ((s.extract k m).toList == [80,69,82,70,79,82,77,69,82]) = true) ∨ (((s.extract k m).toList == [84,73,84,76,69]) = false ∧ ((s.extract k m).toList == [80,69,82,70,79,82,77,69,82]) = false ∧ ((s.extract k m).toList == [83,79,78,71,87,82,73,84,69,82]) = true):=by
                    rw [HW.out]
                    rcases h1 with h | h | h
                    · rw [h];exact .inl rfl
                    · rw [h];exact .inr (.inl ⟨rfl,rfl⟩)
                    · rw [h];exact .inr (.inr ⟨rfl,rfl,rfl⟩)
                   rw [← hv] at KN
                   clear h1
                   rcases hf with q | ⟨q,q'⟩ | ⟨q,q',q''⟩
                   all_goals
                    clear hv HW HI HJ HRS HV2 h0 HV
                    go_wp2_with (go_at_call 174;go_loud (refine (KN.out _ _ (Below.refl _ _)).mono ?_);go_loud (rintro e w1 ⟨⟨x,rfl⟩,hb1⟩))
                    go_ret2
                    exact ⟨⟨_,rfl⟩,hb1⟩
                 · have r1 : ((s.extract k m).toList == [84,73,84,76,69]) = false:=eqs_of HW.out _ (decide_eq_false fun h=>h1 (.inl h))
                   have r2 : ((s.extract k m).toList == [80,69,82,70,79,82,77,69,82]) = false:=eqs_of HW.out _ (decide_eq_false fun h=>h1 (.inr (.inl h)))
                   have r3 : ((s.extract k m).toList == [83,79,78,71,87,82,73,84,69,82]) = false:=eqs_of HW.out _ (decide_eq_false fun h=>h1 (.inr (.inr h)))
                   by_cases h4 : wdW (bl s) = filL
                   · have r4 : ((s.extract k m).toList == [70,73,76,69]) = true:=by rw [HW.out,h4];rfl
                     have hv : V = (match lastB ((bl s).drop (m + 1)) with | none=>false | some k=>cpsL (((bl s).drop (m + 1)).drop (k + 1)) && valR (((bl s).drop (m + 1)).take k)):=by
                      rw [HV2.out];unfold restOk;rw [if_neg h0,if_neg h1,if_pos h4]
                      cases lastB ((bl s).drop (m + 1)) <;> simp [valOk_eq]
                     obtain ⟨r,hr⟩ : ∃ r,r = (bl s).drop (m + 1):=⟨_,rfl⟩
                     have hrl : r.length = s.size - (m + 1):=by rw [hr,List.length_drop,HL.out]
                     rw [← hr] at hv
                     have HVV:=Lib.hid hv
                     have HRR:=Lib.hid hr
                     have HRL:=Lib.hid hrl
                     clear hv hr hrl KN HW HI HJ HRS HV2 h0 h1 h4 HV
                     go_wp2_with fail
                     go_loopw [7] (fun q wx=>∃ n : Nat,q = .int .i64 ((m + n : Nat) : Int) ∧ m + 1 + n ≤ s.size ∧ Hid (lastB r = fB r n) ∧ wx = wr) (fun q _=>(intOf q).toNat)
                     case atStart=>exact ⟨s.size - (m + 1),by first | omega | go_num,by omega,Lib.hid (show fB r r.length = _ by rw [HRL.out]),rfl⟩
                     case round=>
                      obtain ⟨n,rfl,hn,hF,rfl⟩:=hrel
                      by_cases hz : n = 0
                      · subst hz
                        have hv : V = false:=by rw [HVV.out,hF.out,fB_zero]
                        subst hv
                        have z1 : ¬ (((m + 0 : Nat) : Int) > (m : Int)):=by omega
                        clear HVV hF
                        go_wp2_with fail
                        go_ret2
                        exact ⟨⟨_,rfl⟩,Below.refl _ _⟩
                      · obtain ⟨n,rfl⟩ : ∃ n',n = n' + 1:=⟨n - 1,by omega⟩
                        have hF2:=hF.out
                        rw [fB_succ] at hF2
                        obtain ⟨c,hc⟩:=at_some (bl s) (m + (n + 1)) (by rw [HL.out];omega)
                        have C : ∀ h,s[m + (n + 1)]'h = c:=atB_of s _ c hc
                        have hcl:=c.toNat_lt
                        have hrc : r[n]? = some c:=by rw [HRR.out,List.getElem?_drop,show m + 1 + n = m + (n + 1) by omega];exact hc
                        rw [hrc] at hF2
                        have y0 : (0 : Int) ≤ ((m + (n + 1) : Nat) : Int):=by omega
                        have y1 : ((m + (n + 1) : Nat) : Int) > (m : Int):=by omega
                        have y2 : ((m + (n + 1) : Nat) : Int) < (s.size : Int):=by omega
                        by_cases h32 : c = 32
                        · subst h32
                          rw [if_pos rfl] at hF2
                          have y3 : (0 : Int) ≤ ((m + (n + 1) : Nat) : Int) + 1:=by omega
                          have y4 : ((m + (n + 1) : Nat) : Int) + 1 ≤ (s.size : Int):=by omega
                          have y5 : (((m + (n + 1) : Nat) : Int) + 1).toNat = m + (n + 1) + 1:=by omega
                          have hv:=HVV.out
                          rw [hF2] at hv
                          simp only at hv
                          have kc : ∀ w',Calls Tryz.prog 175 #[.string (s.extract (m + (n + 1) + 1) s.size)] w' fun e w''=>e = .returned (.bool (cpsL (r.drop (n + 1)))) ∧ Below w'.heap.size w' w'':=fun w'=>by
                           have:=rcaps_any (s.extract (m + (n + 1) + 1) s.size) w' (by rw [ByteArray.size_extract];omega)
                           rwa [show bl (s.extract (m + (n + 1) + 1) s.size) = r.drop (n + 1) from by rw [ex_drop s _ (by omega),HRR.out,List.drop_drop,show m + 1 + (n + 1) = m + (n + 1) + 1 by omega]] at this
                          have kn : ∀ w',Below wr.heap.size wr w' → Calls Tryz.prog 174 #[.string s,.int .i64 ((m : Int) + 1),.int .i64 ((m + (n + 1) : Nat) : Int),.string ⟨#[102,105,108,101]⟩] w' fun e w''=>(∃ x,e = .returned (.tuple #[x,.bool (valR (r.take n))])) ∧ Below w'.heap.size w' w'':=fun w' hbw=>by
                           have:=rnamed_any s ⟨#[102,105,108,101]⟩ (m + 1) (m + (n + 1)) w' (HG.out.bel hbw) hs (by omega) (by omega)
                           rw [show bl (s.extract (m + 1) (m + (n + 1))) = r.take n from by
                            show (s.extract (m + 1) (m + (n + 1))).data.toList = _
                            rw [ex_list s _ _ (by omega) (by omega),HRR.out];congr 1;omega] at this
                           exact this
                          have KC:=Lib.hid kc
                          cases hcp : cpsL (r.drop (n + 1)) with
                          | true=>
                           rw [hcp] at hv kc
                           rw [Bool.true_and] at hv
                           rw [← hv] at kn
                           have KC:=Lib.hid kc
                           have KN:=Lib.hid kn
                           clear kc kn hv hcp hF2 hF HVV hc hrc
                           go_wp2_with (first
                            | (go_at_call 175;go_loud (refine (KC.out _).mono ?_);go_loud (rintro e w1 ⟨rfl,hb1⟩))
                            | (go_at_call 174;go_loud (refine (KN.out _ hb1).mono ?_);go_loud (rintro e w2 ⟨⟨x,rfl⟩,hb2⟩)))
                           go_ret2
                           exact ⟨⟨_,rfl⟩,bt hb1 hb2⟩
                          | false=>
                           rw [hcp] at hv kc
                           rw [Bool.false_and] at hv
                           subst hv
                           have KC:=Lib.hid kc
                           clear kc kn hcp hF2 hF HVV hc hrc
                           go_wp2_with (first
                            | (go_at_call 175;go_loud (refine (KC.out _).mono ?_);go_loud (rintro e w1 ⟨rfl,hb1⟩))
                            | fail)
                           go_ret2
                           exact ⟨⟨_,rfl⟩,hb1⟩
                        · rw [if_neg (fun h=>h32 (Option.some.inj h))] at hF2
                          have g5 : ((c.toNat : Int) == 32) = false:=by rw [beq_eq_false_iff_ne];exact u8_ne c 32 (by decide) h32
                          have HF2:=Lib.hid hF2
                          clear hF2 hF hc hrc h32
                          go_wp2_with fail
                          go_roundw
                          case rel=>exact ⟨n,by first | omega | go_num,by omega,HF2,trivial⟩
                          case measure=>simp [intOf];omega
                   · have r4 : ((s.extract k m).toList == [70,73,76,69]) = false:=eqs_of HW.out _ (decide_eq_false h4)
                     have hv : V = plainR (wdW (bl s)) ((bl s).drop (m + 1)):=by rw [HV2.out,rest_plain _ _ h0 (fun h=>h1 (.inl h)) (fun h=>h1 (.inr (.inl h))) (fun h=>h1 (.inr (.inr h))) h4]
                     have kq : ∀ w',Below wr.heap.size wr w' → Calls Tryz.prog 176 #[.string (s.extract k m),.string (s.extract (m + 1) s.size)] w' fun e w''=>e = .returned (.bool V) ∧ Below w'.heap.size w' w'':=fun w' hbw=>by
                      have:=rplain_any (s.extract k m) (s.extract (m + 1) s.size) w' (HG.out.bel hbw) (by rw [ByteArray.size_extract];omega)
                      rw [HRS.out,show bl (s.extract k m) = wdW (bl s) from by rw [← HW.out,ByteArray.toList_eq],← hv] at this
                      exact this
                     have KQ:=Lib.hid kq
                     clear hv kq KN HW HI HJ HRS HV2 h0 h1 h4 HV
                     go_wp2_with fail
                     go_region_with (first
                      | (go_at_call 172;go_loud (refine (KP.out _ _).mono ?_);go_loud (rintro e w1 ⟨⟨v,rfl,hown⟩,hb1⟩))
                      | (go_at_call 176;go_loud (refine (KQ.out _ (by first | exact (Below.refl _ _).drew | exact bt (Below.refl _ _).drew hb1)).mono ?_);go_loud (rintro e w2 ⟨rfl,hb2⟩)))
                     all_goals
                      go_wp2_with fail
                      go_ret2
                      first
                       | exact ⟨⟨_,rfl⟩,bt (bt (Below.refl _ _).drew hb1) hb2⟩
                       | exact ⟨⟨_,rfl⟩,bt (bt (Below.refl _ _).drew hb2) hb1⟩
             · rw [if_pos (fun h=>h32 (Option.some.inj h))] at hv
               have g3 : ((y.toNat : Int) == 32) = false:=by rw [beq_eq_false_iff_ne];exact u8_ne y 32 (by decide) h32
               have g4 : ((y.toNat : Int) != 32) = true:=by rw [bne,g3];rfl
               subst hv
               clear hb hy HJ HW HZ HI hm3 hkm2 h32
               rcases gy with g | ⟨g,g'⟩
               all_goals
                go_wp2_with fail
                go_ret2
                exact ⟨⟨_,rfl⟩,Below.refl _ _⟩
end Go.Proofs.YtohbeinhlhgfiaaGreatDoor
namespace Go.Proofs.YtohbeinhlhgfiaaGreatDoor
open Go.RowKit
set_option linter.unusedVariables false
set_option linter.unusedSimpArgs false
def linesR (t : List UInt8) : Int:=match leadR t (lnF t 0) with | some p=>kindM p.1 p.2 | none=>0
theorem lead_ne (t : List UInt8) (h : ld0 t < t.length) : (leadM t).1 ≠ []:=by
 intro hc
 have hl:=congrArg List.length hc
 have hx : t[ld0 t]? = some (t[ld0 t]'h):=List.getElem?_eq_getElem h
 have h1:=take_while_end eolB t (t[ld0 t]'h) hx
 have h2:=nxE_step t (ld0 t) _ hx h1
 have h3:=nxE_ge t (ld0 t + 1)
 have e : (leadM t).1 = (t.drop (ld0 t)).take (nxE t (ld0 t) - ld0 t):=rfl
 rw [e,List.length_take,List.length_drop,List.length_nil] at hl
 omega
theorem lead_nil (t : List UInt8) (h : ¬ ld0 t < t.length) : (leadM t).1 = []:=by
 have e : (leadM t).1 = (t.drop (ld0 t)).take (nxE t (ld0 t) - ld0 t):=rfl
 rw [e,List.drop_of_length_le (by omega),List.take_nil]
theorem linesR_eq (t : List UInt8) : linesR t = textsM (leadM t).1 (leadM t).2:=by
 unfold linesR
 rw [leadR_eq t t.length 0 (by omega) (Nat.zero_le _)]
 unfold textsM
 by_cases h : ld0 t < t.length
 · rw [if_pos h,if_neg (lead_ne t h)]
 · rw [if_neg h,if_pos (lead_nil t h)]
theorem runT_badJ {tok : Tok} : ∀ (f : Nat) (l : List UInt8) (n : Nat) (acc u : List UInt8) (k : Nat),runT tok f l n acc = (u,some k) → u = []:=by
 intro f
 induction f with
 | zero=>intro l n acc u k h;simp [runT] at h
 | succ f ih=>
  intro l n acc u k h
  rw [runT] at h
  split at h
  · simp at h
  · split at h
    · simp at h;first | exact h.1 | exact h.1.symm
    · exact ih _ _ _ _ _ h
theorem runT_none0 {tok : Tok} : ∀ (f : Nat) (l : List UInt8) (n : Nat) (acc : List UInt8),(runT tok f l n acc).2.isNone = false → (runT tok f l n acc).1 = []:=by
 intro f l n acc h
 cases hr : runT tok f l n acc with
 | mk u q=>
  rw [hr] at h
  cases q with
  | none=>cases h
  | some q=>exact runT_badJ f l n acc u q hr
theorem sx_bad (l : List UInt8) (h : (sxM l).2 = false) : (sxM l).1 = []:=by
 unfold sxM at h ⊢
 split
 · rename_i h1;rw [if_pos h1] at h;cases h
 · rename_i h1
   rw [if_neg h1] at h
   split
   · rename_i h2;rw [if_pos h2] at h;cases h
   · rename_i h2
     rw [if_neg h2] at h
     exact runT_none0 _ _ _ _ h
def kindR (l : List UInt8) : Int:=if Lib.hasPrefix l id3L = true then 1 else if Lib.hasPrefix l oggL = true then 2 else if Lib.hasPrefix l flcL = true then 3
 else if linesR (sxM l).1 ≠ 0 then linesR (sxM l).1 else if tailB l = true then 1 else 0
theorem lines_none : linesR [] = 0:=rfl
theorem kindR_eq (l : List UInt8) : kindS l = (kindR l,kindR l != 0):=by
 have hl : linesK l = linesR (sxM l).1:=(linesR_eq _).symm
 unfold kindS kindR
 rw [hl]
 cases h1 : Lib.hasPrefix l id3L with
 | true=>rfl
 | false=>
  cases h2 : Lib.hasPrefix l oggL with
  | true=>rfl
  | false=>
   cases h3 : Lib.hasPrefix l flcL with
   | true=>rfl
   | false=>
    simp only [Bool.false_eq_true,if_false]
    by_cases hz : linesR (sxM l).1 = 0
    · rw [if_neg (fun h=>h.2 hz),if_neg (fun h=>h hz)]
      cases tailB l <;> rfl
    · have ho : (sxM l).2 = true:=by
       cases ho : (sxM l).2 with
       | true=>rfl
       | false=>rw [sx_bad l ho] at hz;exact absurd lines_none hz
      rw [if_pos ⟨ho,hz⟩,if_pos hz]
      have : (linesR (sxM l).1 != 0) = true:=by simpa using hz
      rw [this]
end Go.Proofs.YtohbeinhlhgfiaaGreatDoor
namespace Go.Proofs.YtohbeinhlhgfiaaGreatDoor
open Go Go.Rf Go.RowKit
set_option linter.unusedVariables false
set_option linter.unusedSimpArgs false
def tTm (v : Bool) : Told:={ s:=[(.sym 0,none,some (lI 29),.sym 0)],l:=[(0,lI 29)],c:=[(170,[.a (.sym 0),.a (lS timL)],one1 (lB v))] }
theorem rTm (v : Bool) : symEv (tTm v) 86 [.a (.sym 0)] = some (one1 (lB v)):=by cases v <;> kernel_rfl
theorem rtimes_any (N : ByteArray) (w : World) (hG : GW w) (h : 29 ≤ N.size) : Calls Tryz.prog 86 #[.string (N.extract 0 29)] w fun e w'=>e = .returned (.bool (likeL ((bl N).take 29) timL)) ∧ Below w.heap.size w w':=by
 have hD : bl (N.extract 0 29) = (bl N).take 29:=by show (N.extract 0 29).data.toList = _;rw [ex_list N 0 29 (by omega) h];rfl
 have hz : (N.extract 0 29).size = 29:=by rw [ByteArray.size_extract];omega
 rw [← hD]
 generalize N.extract 0 29 = D at *
 have he : D.extract 0 29 = D:=by rw [← hz];exact ByteArray.extract_zero_size
 letI:=sgL [.string D] ⟨okS_str _,trivial⟩
 exact sym_to (vals:=[.string D]) hG (T:=tTm (likeL (bl D) timL)) ⟨trivial,trivial,⟨⟨D,0,29,fun _=>rfl,rfl,⟨.i64,fun _=>rfl⟩,by omega,by omega,fun _=>by rw [he];rfl⟩,trivial⟩,⟨⟨D,rfl,fun _=>by rw [hz];rfl⟩,trivial⟩,
  ⟨⟨[.string D,.string ⟨⟨timL⟩⟩],_,fun _=>rfl,fun _=>rfl,fun w' _=>rlike_any D ⟨⟨timL⟩⟩ w' (by omega) (by decide)⟩,trivial⟩,trivial,trivial⟩ rfl (rTm _) (fun _=>rfl)
set_option maxRecDepth 100000 in
set_option maxHeartbeats 16000000 in
theorem rkind_walk (F N : ByteArray) (c : UInt8) (w : World) (S D g L q P B : Bool) (hS : (F.toList == [91,83,99,114,105,112,116,32,73,110,102,111,93]) = S) (X : ∀ h,F[0]'h = c) (hpos : 0 < F.size)
 (hg : decide (29 ≤ N.size) = g) (hq : ((c.toNat : Int) == 91) = q)
 (KD : Hid (∀ w',Calls Tryz.prog 85 #[.string F] w' fun e w''=>e = .returned (.bool D) ∧ Below w'.heap.size w' w''))
 (KL : Hid (29 ≤ N.size → ∀ w',Below w.heap.size w w' → Calls Tryz.prog 86 #[.string (N.extract 0 29)] w' fun e w''=>e = .returned (.bool L) ∧ Below w'.heap.size w' w''))
 (KP : Hid (∀ w',Below w.heap.size w w' → Calls Tryz.prog 87 #[.string F] w' fun e w''=>(∃ x,e = .returned (.tuple #[x,.bool P])) ∧ Below w'.heap.size w' w''))
 (KB : Hid (∀ w',Calls Tryz.prog 88 #[.string F] w' fun e w''=>e = .returned (.bool B) ∧ Below w'.heap.size w' w'')) :
 Calls Tryz.prog 35 #[.string F,.string N] w fun e w'=>e = .returned (.int .i64 (if S = true then 6 else if (D && g && L) = true then 5 else if q = true then 7 else if (P && !B) = true then 4 else 0)) ∧ Below w.heap.size w w':=by
 have hcl:=c.toNat_lt
 cases S with
 | true=>
  clear KD KL KP KB X hg hq
  go_enter Tryz.func35,Tryz.ntmps35
  go_wp2
  go_ret
  exact ⟨rfl,Below.refl _ _⟩
 | false=>
  have hx : D = false ∨ (D = true ∧ g = false) ∨ (D = true ∧ g = true ∧ L = false) ∨ (D = true ∧ g = true ∧ L = true):=by cases D <;> cases g <;> cases L <;> simp
  have hy : q = true ∨ (q = false ∧ P = false) ∨ (q = false ∧ P = true ∧ B = true) ∨ (q = false ∧ P = true ∧ B = false):=by cases q <;> cases P <;> cases B <;> simp
  have hgT : g = true → 29 ≤ N.size ∧ (29 : Int) ≤ N.size:=fun h=>by rw [h,decide_eq_true_iff] at hg;omega
  have hgF : g = false → ¬ (29 : Int) ≤ N.size:=fun h=>by rw [h,decide_eq_false_iff_not] at hg;omega
  clear hg
  rcases hx with rfl | ⟨rfl,rfl⟩ | ⟨rfl,rfl,rfl⟩ | ⟨rfl,rfl,rfl⟩
  all_goals rcases hy with rfl | ⟨rfl,rfl⟩ | ⟨rfl,rfl,rfl⟩ | ⟨rfl,rfl,rfl⟩
  all_goals
   try obtain ⟨hn,hi⟩:=hgT rfl
   try have hj:=hgF rfl
   clear hgT hgF
   try have HN:=Lib.hid hn
   try clear hn
   go_enter Tryz.func35,Tryz.ntmps35
   go_wp2_with (first
    | (go_at_call 85;go_loud (with_reducible refine (KD.out _).mono ?_);go_loud (rintro e w1 ⟨rfl,hb1⟩))
    | (go_at_call 86;go_loud (with_reducible refine (KL.out HN.out _ hb1).mono ?_);go_loud (rintro e w2 ⟨rfl,hb2⟩);go_loud (replace hb1:=bt hb1 hb2))
    | (go_at_call 87;go_loud (with_reducible refine (KP.out _ hb1).mono ?_);go_loud (rintro e w3 ⟨⟨x,rfl⟩,hb3⟩);go_loud (replace hb1:=bt hb1 hb3))
    | (go_at_call 88;go_loud (with_reducible refine (KB.out _).mono ?_);go_loud (rintro e w4 ⟨rfl,hb4⟩);go_loud (replace hb1:=bt hb1 hb4))
    | fail)
   go_ret
   exact ⟨rfl,hb1⟩
theorem rkind_any (F N : ByteArray) (w : World) (hG : GW w) (hF : F.size ≤ 1000000) (hN : N.size ≤ 1000000) (hne : bl F ≠ []) : Calls Tryz.prog 35 #[.string F,.string N] w fun e w'=>e = .returned (.int .i64 (kindM (bl F) (bl N))) ∧ Below w.heap.size w w':=by
 have hlen:=bl_length F
 have hlN:=bl_length N
 have hpos : 0 < F.size:=by rw [← hlen];exact List.length_pos_iff.2 hne
 obtain ⟨c,hc0⟩:=at_some (bl F) 0 (by omega)
 have X : ∀ h,F[0]'h = c:=atB_of F 0 c hc0
 have e : kindM (bl F) (bl N) = (if (F.toList == [91,83,99,114,105,112,116,32,73,110,102,111,93]) = true then 6 else if (dgsL (bl F) && decide (29 ≤ N.size) && likeL ((bl N).take 29) timL) = true then 5 else if ((c.toNat : Int) == 91) = true then 7 else if (cueOk (bl F) && !blankL (bl F)) = true then 4 else 0):=by
  have hq : ((c.toNat : Int) == 91) = true ↔ (bl F).head? = some 91:=by
   rw [List.head?_eq_getElem?,hc0,Option.some.injEq,beq_iff_eq,← UInt8.toNat_inj]
   show _ ↔ c.toNat = 91
   omega
  have hs : (F.toList == [91,83,99,114,105,112,116,32,73,110,102,111,93]) = true ↔ bl F = scrL:=by
   rw [ByteArray.toList_eq,beq_iff_eq]
   exact Iff.rfl
  unfold kindM
  simp only [hq,hs,Bool.and_eq_true,decide_eq_true_iff,hlN,Bool.not_eq_true',and_assoc]
 rw [e]
 exact rkind_walk F N c w _ _ _ _ _ _ _ rfl X hpos rfl rfl (Lib.hid fun w'=>rdigs_any F w' hF) (Lib.hid fun h w' hb=>rtimes_any N w' (hG.bel hb) h) (Lib.hid fun w' hb=>rpieces_any F w' (hG.bel hb) hF) (Lib.hid fun w'=>rblank_any F w' hF)
end Go.Proofs.YtohbeinhlhgfiaaGreatDoor
namespace Go.Proofs.YtohbeinhlhgfiaaGreatDoor
open Go Go.Rf Go.RowKit
set_option linter.unusedVariables false
set_option linter.unusedSimpArgs false
theorem lnP_mem (l : List UInt8) : ∀ (n a : Nat) (p : Nat × Nat × Nat),p ∈ lnP l n a → p.1 ≤ p.2.1 ∧ p.2.1 ≤ l.length
 | 0,a,p,h=>by cases h
 | n + 1,a,p,h=>by
  rw [lnP] at h
  split at h
  · rename_i ha
    rcases List.mem_cons.1 h with rfl | h
    · exact ⟨nxE_ge l a,nxE_le l a (by omega)⟩
    · exact lnP_mem l n _ p h
  · cases h
theorem txt_ext (T : ByteArray) (p : Nat × Nat × Nat) (h1 : p.1 ≤ p.2.1) (h2 : p.2.1 ≤ T.size) : bl (T.extract p.1 p.2.1) = txt (bl T) p:=by
 show (T.extract p.1 p.2.1).data.toList = _
 rw [ex_list T p.1 p.2.1 h1 h2];rfl
theorem mark_or (l : List UInt8) : (markM l = (0,0) ∧ (sxM l).1 = l) ∨ (markM l = (7,3) ∧ 3 ≤ l.length ∧ (sxM l).1 = l.drop 3) ∨ (markM l = (8,2) ∧ 2 ≤ l.length ∧ (sxM l).1 = (decT (tokW false) (l.drop 2)).1) ∨ (markM l = (9,2) ∧ 2 ≤ l.length ∧ (sxM l).1 = (decT (tokW true) (l.drop 2)).1):=by
 have hl : ∀ p : List UInt8,Lib.hasPrefix l p = true → p.length ≤ l.length:=fun p h=>by
  rcases Nat.lt_or_ge l.length p.length with h2 | h2
  · rw [hasPre_short l p h2] at h;cases h
  · exact h2
 unfold sxM
 unfold markM
 cases h1 : Lib.hasPrefix l [239,187,191] with
 | true=>exact .inr (.inl ⟨rfl,hl _ h1,rfl⟩)
 | false=>
  cases h2 : Lib.hasPrefix l [255,254] with
  | true=>exact .inr (.inr (.inl ⟨rfl,hl _ h2,rfl⟩))
  | false=>
   cases h3 : Lib.hasPrefix l [254,255] with
   | true=>exact .inr (.inr (.inr ⟨rfl,hl _ h3,rfl⟩))
   | false=>exact .inl ⟨rfl,rfl⟩
def linesF (t : List UInt8) (L : List (Nat × Nat × Nat)) : Int:=match leadR t L with | some p=>kindM p.1 p.2 | none=>0
def nxt (t : List UInt8) : List (Nat × Nat × Nat) → List UInt8
 | []=>[]
 | q :: _=>txt t q
theorem linesF_step (t : List UInt8) (L : List (Nat × Nat × Nat)) (k : Nat) (p : Nat × Nat × Nat) (h : L[k]? = some p) : linesF t (L.drop k) = if p.1 = p.2.1 then linesF t (L.drop (k + 1)) else kindM (txt t p) (nxt t (L.drop (k + 1))):=by
 obtain ⟨h1,h2⟩:=List.getElem?_eq_some_iff.1 h
 rw [List.drop_eq_getElem_cons h1,h2]
 unfold linesF
 rw [leadR.eq_def]
 simp only
 by_cases hp : p.1 = p.2.1
 · rw [if_pos hp,if_pos hp]
 · rw [if_neg hp,if_neg hp]
   cases L.drop (k + 1) <;> rfl
theorem linesF_end (t : List UInt8) (L : List (Nat × Nat × Nat)) (k : Nat) (h : L.length ≤ k) : linesF t (L.drop k) = 0:=by
 rw [List.drop_of_length_le h];rfl
set_option maxRecDepth 100000 in
set_option maxHeartbeats 16000000 in
theorem rkindf_any (b : ByteArray) (w : World) (hG : GW w) (hs : b.size ≤ 1000) : Calls Tryz.prog 8 #[.string b] w fun e w'=>e = .returned (.int .i64 (kindR (bl b))) ∧ Below w.heap.size w w':=by
 have hbl:=bl_length b
 have hL : ∀ l : List UInt8,l.length ≤ 1000 → (sxM l).1.length ≤ 1000000:=fun l h=>by
  have hw : ∀ big,Short (tokW big):=fun big=>by
   cases big with
   | false=>exact short_C 8
   | true=>exact short_C 9
  rcases mark_or l with ⟨_,h1⟩ | ⟨_,_,h1⟩ | ⟨_,_,h1⟩ | ⟨_,_,h1⟩
  · rw [h1];omega
  · rw [h1,List.length_drop];omega
  · rw [h1];have:=decT_short (hw false) (l.drop 2);rw [List.length_drop] at this;omega
  · rw [h1];have:=decT_short (hw true) (l.drop 2);rw [List.length_drop] at this;omega
 have hTs:=hL (bl b) (by omega)
 clear hL
 obtain ⟨V,hV⟩ : ∃ V,V = kindR (bl b):=⟨_,rfl⟩
 rw [← hV]
 have k1 : ∀ w',Below w.heap.size w w' → Calls Tryz.prog 10 #[.string b,.string ⟨#[73,68,51]⟩] w' fun e w''=>e = .returned (.bool (Lib.hasPrefix (bl b) id3L)) ∧ Below w'.heap.size w' w'':=fun w' hb=>begins_any b ⟨#[73,68,51]⟩ w' (hG.bel hb)
 have k2 : ∀ w',Below w.heap.size w w' → Calls Tryz.prog 10 #[.string b,.string ⟨#[79,103,103,83]⟩] w' fun e w''=>e = .returned (.bool (Lib.hasPrefix (bl b) oggL)) ∧ Below w'.heap.size w' w'':=fun w' hb=>begins_any b ⟨#[79,103,103,83]⟩ w' (hG.bel hb)
 have k3 : ∀ w',Below w.heap.size w w' → Calls Tryz.prog 10 #[.string b,.string ⟨#[102,76,97,67]⟩] w' fun e w''=>e = .returned (.bool (Lib.hasPrefix (bl b) flcL)) ∧ Below w'.heap.size w' w'':=fun w' hb=>begins_any b ⟨#[102,76,97,67]⟩ w' (hG.bel hb)
 have HG:=Lib.hid hG
 unfold kindR at hV
 have hb0:=Below.refl w.heap.size w
 cases h1 : Lib.hasPrefix (bl b) id3L with
 | true=>
  rw [h1] at k1 hV
  rw [if_pos rfl] at hV
  subst hV
  have K1:=Lib.hid k1
  clear k1 k2 k3 h1 hTs hbl hG
  go_enter Tryz.func8,Tryz.ntmps8
  go_wp2_with (go_at_call 10;go_loud (with_reducible refine (K1.out _ hb0).mono ?_);go_loud (rintro e w1 ⟨rfl,hb1⟩))
  go_ret
  exact ⟨rfl,hb1⟩
 | false=>
  rw [h1] at k1 hV
  rw [if_neg (by decide)] at hV
  have K1:=Lib.hid k1
  clear k1 h1
  cases h2 : Lib.hasPrefix (bl b) oggL with
  | true=>
   rw [h2] at k2 hV
   rw [if_pos rfl] at hV
   subst hV
   have K2:=Lib.hid k2
   clear k2 k3 h2 hTs hbl hG
   go_enter Tryz.func8,Tryz.ntmps8
   go_wp2_with (go_at_call 10;go_loud (first | with_reducible refine (K1.out _ hb0).mono ?_ | with_reducible refine (K2.out _ hb0).mono ?_);go_loud (rintro e w1 ⟨rfl,hb1⟩);go_loud (replace hb0:=bt hb0 hb1))
   go_ret
   exact ⟨rfl,hb0⟩
  | false=>
   rw [h2] at k2 hV
   rw [if_neg (by decide)] at hV
   have K2:=Lib.hid k2
   clear k2 h2
   cases h3 : Lib.hasPrefix (bl b) flcL with
   | true=>
    rw [h3] at k3 hV
    rw [if_pos rfl] at hV
    subst hV
    have K3:=Lib.hid k3
    clear k3 h3 hTs hbl hG
    go_enter Tryz.func8,Tryz.ntmps8
    go_wp2_with (go_at_call 10;go_loud (first | with_reducible refine (K1.out _ hb0).mono ?_ | with_reducible refine (K2.out _ hb0).mono ?_ | with_reducible refine (K3.out _ hb0).mono ?_);go_loud (rintro e w1 ⟨rfl,hb1⟩);go_loud (replace hb0:=bt hb0 hb1))
    go_ret
    exact ⟨rfl,hb0⟩
   | false=>
    rw [h3] at k3 hV
    rw [if_neg (by decide)] at hV
    have K3:=Lib.hid k3
    clear k3 h3
    obtain ⟨TV,hTV⟩ : ∃ TV : Int,TV = if tailB (bl b) = true then 1 else 0:=⟨_,rfl⟩
    rw [← hTV] at hV
    have ht : (¬ (b.size : Int) ≥ 128 ∧ TV = 0) ∨ ((b.size : Int) ≥ 128 ∧ (0 : Int) ≤ (b.size : Int) - 128 ∧ ((b.size : Int) - 128).toNat = b.size - 128 ∧ TV = 0 ∧ ∀ w',Below w.heap.size w w' → Calls Tryz.prog 10 #[.string (b.extract (b.size - 128) b.size),.string ⟨#[84,65,71]⟩] w' fun e w''=>e = .returned (.bool false) ∧ Below w'.heap.size w' w'') ∨
     ((b.size : Int) ≥ 128 ∧ (0 : Int) ≤ (b.size : Int) - 128 ∧ ((b.size : Int) - 128).toNat = b.size - 128 ∧ TV = 1 ∧ ∀ w',Below w.heap.size w w' → Calls Tryz.prog 10 #[.string (b.extract (b.size - 128) b.size),.string ⟨#[84,65,71]⟩] w' fun e w''=>e = .returned (.bool true) ∧ Below w'.heap.size w' w''):=by
     have hk : 128 ≤ b.size → ∀ w',Below w.heap.size w w' → Calls Tryz.prog 10 #[.string (b.extract (b.size - 128) b.size),.string ⟨#[84,65,71]⟩] w' fun e w''=>e = .returned (.bool (Lib.hasPrefix ((bl b).drop (b.size - 128)) tagL)) ∧ Below w'.heap.size w' w'':=fun h w' hb=>by
      have:=begins_any (b.extract (b.size - 128) b.size) ⟨#[84,65,71]⟩ w' (HG.out.bel hb)
      rwa [show bl (b.extract (b.size - 128) b.size) = (bl b).drop (b.size - 128) from by rw [ex_drop b _ (by omega)]] at this
     rw [hTV]
     unfold tailB
     rw [hbl]
     by_cases h : 128 ≤ b.size
     · have hk2:=hk h
       rw [decide_eq_true h]
       cases hq : Lib.hasPrefix ((bl b).drop (b.size - 128)) tagL
       · rw [hq] at hk2
         exact .inr (.inl ⟨by omega,by omega,by omega,rfl,hk2⟩)
       · rw [hq] at hk2
         exact .inr (.inr ⟨by omega,by omega,by omega,rfl,hk2⟩)
     · rw [decide_eq_false h]
       exact .inl ⟨by omega,rfl⟩
    have HT:=Lib.hid ht
    have kM:=fun w=>refMark_any b w
    have hm : (∃ (c : Int) (n : Nat) (T : ByteArray),markM (bl b) = (c,(n : Int)) ∧ ¬ c > 7 ∧ n ≤ b.size ∧ b.extract n b.size = T ∧ bl T = (sxM (bl b)).1) ∨
     (∃ (c : Int) (big : Bool) (T : ByteArray),markM (bl b) = (c,2) ∧ c > 7 ∧ 2 ≤ b.size ∧ (c == 9) = big ∧ (∀ w',Calls Tryz.prog 33 #[.string (b.extract 2 b.size),.bool big] w' fun e w''=>∃ x,e = .returned (.tuple #[.string T,x]) ∧ Below w'.heap.size w' w'') ∧ bl T = (sxM (bl b)).1):=by
     have kD : ∀ (big : Bool) w',Calls Tryz.prog 33 #[.string (b.extract 2 b.size),.bool big] w' fun e w''=>∃ x,e = .returned (.tuple #[.string ⟨(decT (tokW big) (bl (b.extract 2 b.size))).1.toArray⟩,x]) ∧ Below w'.heap.size w' w'':=fun big w'=>(refDec3_any (b.extract 2 b.size) big w' (by rw [ByteArray.size_extract];omega)).mono fun e w'' q=>⟨_,q⟩
     rcases mark_or (bl b) with ⟨hm,hx⟩ | ⟨hm,hm2,hx⟩ | ⟨hm,hm2,hx⟩ | ⟨hm,hm2,hx⟩
     · exact .inl ⟨0,0,_,hm,by decide,Nat.zero_le _,rfl,by rw [hx,ex_drop b 0 (by omega)];rfl⟩
     · exact .inl ⟨7,3,_,hm,by decide,by omega,rfl,by rw [hx,ex_drop b 3 (by omega)]⟩
     · exact .inr ⟨8,false,_,hm,by decide,by omega,rfl,kD false,by rw [hx,ex_drop b 2 (by omega)]⟩
     · exact .inr ⟨9,true,_,hm,by decide,by omega,rfl,kD true,by rw [hx,ex_drop b 2 (by omega)]⟩
    have HV:=Lib.hid hV
    clear ht hTV hV hbl hG
    rcases hm with ⟨c,n,T,hm,hc,hn,hT0,hT⟩ | ⟨c,big,T,hm,hc,hn,h9,kd,hT⟩
    all_goals
     rw [hm] at kM
     simp only at kM
     have KM:=Lib.hid kM
     try have HT0:=Lib.hid hT0
     try clear hT0
     try have KD:=Lib.hid kd
     try clear kd
     have hi:=Int.ofNat_le.2 hn
     try have hi2 : (2 : Int) ≤ (b.size : Int):=by omega
     have hTz : T.size ≤ 1000000:=by rw [← bl_length,hT];exact hTs
     have hv2 : V = if linesR (bl T) ≠ 0 then linesR (bl T) else TV:=by rw [hT];exact HV.out
     obtain ⟨L,hL⟩ : ∃ L,L = lnF (bl T) 0:=⟨_,rfl⟩
     have kl:=fun w=>rlines_any T w hTz
     have hLn:=lnF_len0 T
     have hLm : ∀ (k : Nat) (p : Nat × Nat × Nat),L[k]? = some p → p.1 ≤ p.2.1 ∧ p.2.1 ≤ T.size:=fun k p hp=>by
      have:=lnP_mem (bl T) _ _ p (by rw [hL] at hp;exact List.mem_of_getElem? hp)
      rwa [bl_length] at this
     have hLR : linesR (bl T) = linesF (bl T) L:=by rw [hL];rfl
     rw [← hL] at hLn
     simp only [← hL] at kl
     have KL:=Lib.hid kl
     have HLM:=Lib.hid hLm
     have HLR:=Lib.hid hLR
     have HV2:=Lib.hid hv2
     clear hm hT hTs HV hv2 hL kl hLm hLR kM
     go_enter Tryz.func8,Tryz.ntmps8
     go_wp2_with (first
      | (go_at_call 10;go_loud (first | with_reducible refine (K1.out _ hb0).mono ?_ | with_reducible refine (K2.out _ hb0).mono ?_ | with_reducible refine (K3.out _ hb0).mono ?_);go_loud (rintro e w1 ⟨rfl,hb1⟩);go_loud (replace hb0:=bt hb0 hb1))
      | (go_at_call 32;go_loud (with_reducible refine (KM.out _).mono ?_);go_loud (rintro e w1 ⟨rfl,rfl⟩))
      | (go_at_call 33;go_loud (with_reducible refine (KD.out _).mono ?_);go_loud (rintro e w1 ⟨x,rfl,hb1⟩);go_loud (replace hb0:=bt hb0 hb1))
      | fail)
     try rw [HT0.out]
     try clear HT0
     go_wp2_with (first
      | (go_at_call 34;go_loud (with_reducible refine (KL.out _).mono ?_);go_loud (rintro e w1 ⟨v,rfl,hown,hb1⟩);go_loud (obtain ⟨a1,c1,rfl⟩:=orow_form hown))
      | fail)
     have HR:=Lib.hid (row_owns hown)
     have HB1:=Lib.hid (bt hb0 hb1)
     clear hown hb1 hb0
     go_loopw [7] (fun iv wr=>∃ k : Nat,iv = .int .i64 (k : Int) ∧ k ≤ L.length ∧ Hid (linesF (bl T) L = linesF (bl T) (L.drop k)) ∧ Hid (Below w1.heap.size w1 wr)) (fun iv _=>L.length - (intOf iv).toNat)
     case atStart=>exact ⟨0,rfl,Nat.zero_le _,Lib.hid rfl,Lib.hid (Below.refl _ _)⟩
     case round=>
      obtain ⟨k,rfl,hk,HD,HB⟩:=hrel
      have HBB:=Lib.hid (bt HB1.out HB.out)
      by_cases hlt : k < L.length
      · obtain ⟨p,hp⟩:=at_some L k hlt
        have hst:=linesF_step (bl T) L k p hp
        have hrow:=HR.out.keep HB.out
        obtain ⟨g,o,c',e,_⟩:=row_at hrow _ _ (lcells_at T L k p hp 0 _ rfl)
        simp only [Value.slice.injEq] at e
        obtain ⟨rfl,_,rfl⟩:=e
        obtain ⟨q0,q1,q2⟩:=row_line hrow k p hp
        obtain ⟨hp1,hp2⟩:=HLM.out k p hp
        have htx:=txt_ext T p hp1 hp2
        have hez : (T.extract p.1 p.2.1).size = p.2.1 - p.1:=by rw [ByteArray.size_extract];omega
        generalize T.extract p.1 p.2.1 = F at *
        have hFz : F.size ≤ 1000000:=by omega
        by_cases he : p.1 = p.2.1
        · rw [if_pos he] at hst
          have HD2:=Lib.hid (HD.out.trans hst)
          have hF0 : F.toList = []:=by rw [ByteArray.toList_eq];exact List.eq_nil_of_length_eq_zero (by show F.size = 0;omega)
          have hE : F.toList.isEmpty = true:=by rw [hF0];rfl
          clear hst htx hez he hF0 hrow hp q1 q2 HT
          go_wp2_with fail
          go_roundw
          case rel=>exact ⟨k + 1,by first | omega | go_num,by omega,HD2,HB⟩
          case measure=>simp [intOf];omega
        · rw [if_neg he] at hst
          have hFne : bl F ≠ []:=fun h=>by have:=bl_length F;rw [h,List.length_nil] at this;omega
          have hE : F.toList.isEmpty = false:=by rw [ByteArray.toList_eq];exact List.isEmpty_eq_false_iff.2 hFne
          clear hez q1 q2
          by_cases hn2 : k + 1 < L.length
          · obtain ⟨q,hq⟩:=at_some L (k + 1) hn2
            obtain ⟨s0,s1,s2⟩:=row_line hrow (k + 1) q hq
            obtain ⟨hq1,hq2⟩:=HLM.out (k + 1) q hq
            have hnx : nxt (bl T) (L.drop (k + 1)) = bl (T.extract q.1 q.2.1):=by
             obtain ⟨d1,d2⟩:=List.getElem?_eq_some_iff.1 hq
             rw [List.drop_eq_getElem_cons d1,d2,txt_ext T q hq1 hq2];rfl
            have hNz : (T.extract q.1 q.2.1).size ≤ 1000000:=by rw [ByteArray.size_extract];omega
            generalize T.extract q.1 q.2.1 = N at *
            have hk1 : ((k : Int) + 1) < (L.length : Int):=by omega
            have hk2 : ((k : Int) + 1).toNat = k + 1:=by omega
            have hk3 : (0 : Int) ≤ (k : Int) + 1:=by omega
            clear s1 s2 hq hq1 hq2
            have kk : ∀ w',Below w.heap.size w w' → Calls Tryz.prog 35 #[.string F,.string N] w' fun e w''=>e = .returned (.int .i64 (kindM (txt (bl T) p) (bl N))) ∧ Below w'.heap.size w' w'':=fun w' hbw=>by
             have:=rkind_any F N w' (HG.out.bel hbw) hFz hNz hFne
             rw [htx] at this
             exact this
            rw [hnx] at hst
            obtain ⟨Z,hZ⟩ : ∃ Z,Z = kindM (txt (bl T) p) (bl N):=⟨_,rfl⟩
            rw [← hZ] at kk hst
            have hD3:=HD.out.trans hst
            have KK:=Lib.hid kk
            by_cases hz : Z = 0
            · subst hz
              have hvt : V = TV:=by have:=HV2.out;rw [HLR.out,hD3,if_neg (fun h=>h rfl)] at this;exact this
              have HVT:=Lib.hid hvt
              clear hvt hD3 kk hst hZ hFne htx hnx hrow hp he HD HV2
              rcases HT.out with ⟨z,rfl⟩ | ⟨z,z1,z2,rfl,k4⟩ | ⟨z,z1,z2,rfl,k4⟩
              all_goals
               try have K4:=Lib.hid k4
               try clear k4
               clear HT
               go_wp2_with (first
                | (go_at_call 35;go_loud (with_reducible refine (KK.out _ HBB.out).mono ?_);go_loud (rintro e w2 ⟨rfl,hb2⟩);go_loud (have hb6:=bt HBB.out hb2))
                | (go_at_call 10;go_loud (with_reducible refine (K4.out _ hb6).mono ?_);go_loud (rintro e w5 ⟨rfl,hb5⟩))
                | fail)
               go_ret
               first
                | exact ⟨by rw [HVT.out];rfl,bt hb6 hb5⟩
                | exact ⟨by rw [HVT.out];rfl,hb6⟩
            · have hvz : V = Z:=by have:=HV2.out;rw [HLR.out,hD3,if_pos hz] at this;exact this
              have HVZ:=Lib.hid hvz
              have hz2 : (Z != 0) = true:=by simpa using hz
              clear hvz hD3 kk hst hZ hFne htx hnx hrow hp he HD HV2 hz HT
              go_wp2_with (first
               | (go_at_call 35;go_loud (with_reducible refine (KK.out _ HBB.out).mono ?_);go_loud (rintro e w2 ⟨rfl,hb2⟩);go_loud (have hb6:=bt HBB.out hb2))
               | fail)
              go_ret
              exact ⟨by rw [HVZ.out];rfl,hb6⟩
          · have hnx : nxt (bl T) (L.drop (k + 1)) = bl ⟨#[]⟩:=by rw [List.drop_of_length_le (by omega)];rfl
            have hk1 : ¬ ((k : Int) + 1) < (L.length : Int):=by omega
            have hNz : (⟨#[]⟩ : ByteArray).size ≤ 1000000:=by decide
            have kk : ∀ w',Below w.heap.size w w' → Calls Tryz.prog 35 #[.string F,.string ⟨#[]⟩] w' fun e w''=>e = .returned (.int .i64 (kindM (txt (bl T) p) (bl ⟨#[]⟩))) ∧ Below w'.heap.size w' w'':=fun w' hbw=>by
             have:=rkind_any F ⟨#[]⟩ w' (HG.out.bel hbw) hFz hNz hFne
             rw [htx] at this
             exact this
            rw [hnx] at hst
            obtain ⟨Z,hZ⟩ : ∃ Z,Z = kindM (txt (bl T) p) (bl ⟨#[]⟩):=⟨_,rfl⟩
            rw [← hZ] at kk hst
            have hD3:=HD.out.trans hst
            have KK:=Lib.hid kk
            by_cases hz : Z = 0
            · subst hz
              have hvt : V = TV:=by have:=HV2.out;rw [HLR.out,hD3,if_neg (fun h=>h rfl)] at this;exact this
              have HVT:=Lib.hid hvt
              clear hvt hD3 kk hst hZ hFne htx hnx hrow hp he HD HV2
              rcases HT.out with ⟨z,rfl⟩ | ⟨z,z1,z2,rfl,k4⟩ | ⟨z,z1,z2,rfl,k4⟩
              all_goals
               try have K4:=Lib.hid k4
               try clear k4
               clear HT
               go_wp2_with (first
                | (go_at_call 35;go_loud (with_reducible refine (KK.out _ HBB.out).mono ?_);go_loud (rintro e w2 ⟨rfl,hb2⟩);go_loud (have hb6:=bt HBB.out hb2))
                | (go_at_call 10;go_loud (with_reducible refine (K4.out _ hb6).mono ?_);go_loud (rintro e w5 ⟨rfl,hb5⟩))
                | fail)
               go_ret
               first
                | exact ⟨by rw [HVT.out];rfl,bt hb6 hb5⟩
                | exact ⟨by rw [HVT.out];rfl,hb6⟩
            · have hvz : V = Z:=by have:=HV2.out;rw [HLR.out,hD3,if_pos hz] at this;exact this
              have HVZ:=Lib.hid hvz
              have hz2 : (Z != 0) = true:=by simpa using hz
              clear hvz hD3 kk hst hZ hFne htx hnx hrow hp he HD HV2 hz HT
              go_wp2_with (first
               | (go_at_call 35;go_loud (with_reducible refine (KK.out _ HBB.out).mono ?_);go_loud (rintro e w2 ⟨rfl,hb2⟩);go_loud (have hb6:=bt HBB.out hb2))
               | fail)
              go_ret
              exact ⟨by rw [HVZ.out];rfl,hb6⟩
      · have hd:=HD.out.trans (linesF_end (bl T) L k (by omega))
        have hvt : V = TV:=by have:=HV2.out;rw [HLR.out,hd,if_neg (fun h=>h rfl)] at this;exact this
        have HVT:=Lib.hid hvt
        have hb6:=HBB.out
        clear hvt hd HD HV2
        rcases HT.out with ⟨z,rfl⟩ | ⟨z,z1,z2,rfl,k4⟩ | ⟨z,z1,z2,rfl,k4⟩
        all_goals
         try have K4:=Lib.hid k4
         try clear k4
         clear HT
         go_wp2_with (first
          | (go_at_call 10;go_loud (with_reducible refine (K4.out _ hb6).mono ?_);go_loud (rintro e w5 ⟨rfl,hb5⟩))
          | fail)
         go_ret
         first
          | exact ⟨by rw [HVT.out];rfl,bt hb6 hb5⟩
          | exact ⟨by rw [HVT.out];rfl,hb6⟩
end Go.Proofs.YtohbeinhlhgfiaaGreatDoor
