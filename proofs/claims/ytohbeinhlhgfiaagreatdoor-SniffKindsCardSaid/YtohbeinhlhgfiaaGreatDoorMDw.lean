/- Dw -/
import Derived.Test.YtohbeinhlhgfiaaGreatDoorMSk
set_option linter.unusedVariables false
set_option linter.unusedSimpArgs false
set_option maxHeartbeats 4000000
namespace Go.Proofs.YtohbeinhlhgfiaaGreatDoor
open Go.RowKit
set_option maxRecDepth 100000 in
theorem ko_bd : ∀ p ∈ pairsM koS,0 ≤ p.1 ∧ 0 ≤ p.2 ∧ p.2 ≤ 1114111:=by decide +kernel
theorem la_bd : ∀ p ∈ pairsM laS,0 ≤ p.1 ∧ 0 ≤ p.2 ∧ p.2 ≤ 1114111:=by decide +kernel
theorem ko_dec : decT (tokS (sgS (kgM koS))) (bl ⟨#[193,194]⟩) = ([208,176,208,177],none):=by decide +kernel
theorem la_enc : encV (lsK (pairsM laS)) (bl ⟨#[208,132]⟩) = .tuple #[.string ⟨#[]⟩,.agg #[.int .i64 6,.int .i64 0]]:=by
 have e1 : (scanL (bl ⟨#[208,132]⟩)).2 = none:=by decide +kernel
 have e2 : decT (tokE (lsK (pairsM laS))) (bl ⟨#[208,132]⟩) = ([],some 0):=by decide +kernel
 rw [encV,e1,e2];rfl
theorem of_ko (w : World) (hT : TW w) : Calls Tryz.prog 243 #[.int .i64 1] w fun e w'=>∃ a cp,e = .returned (.tuple #[.agg #[.slice a 2 cp,.int .i64 1],.bool true]) ∧ Tab w' w.heap.size (.slice a 2 cp) koS ∧ Below w.heap.size w w':=by
 have h:=of_any 1 w hT (by omega) (by omega)
 exact h.mono fun e w' ⟨a,cp,h1,h2,h3⟩=>⟨a,cp,by simpa [setN] using h1,by simpa [setS,setN] using h2,h3⟩
theorem of_la (w : World) (hT : TW w) : Calls Tryz.prog 243 #[.int .i64 0] w fun e w'=>∃ a cp,e = .returned (.tuple #[.agg #[.slice a 1 cp,.int .i64 0],.bool true]) ∧ Tab w' w.heap.size (.slice a 1 cp) laS ∧ Below w.heap.size w w':=by
 have h:=of_any 0 w hT (by omega) (by omega)
 exact h.mono fun e w' ⟨a,cp,h1,h2,h3⟩=>⟨a,cp,by simpa [setN] using h1,by simpa [setS,setN] using h2,h3⟩
theorem dec_ko (v : Value) (B : Nat) (w : World) (hT : TW w) (hX : Tab w B v koS) : Calls Tryz.prog 244 #[.agg #[v,.int .i64 1],.string ⟨#[193,194]⟩] w fun e w'=>
 e = .returned (.tuple #[.string ⟨#[208,176,208,177]⟩,.agg #[.int .i64 0,.int .i64 0]]) ∧ Below w.heap.size w w':=by
 have h:=sdecode_any v koS B 1 ⟨#[193,194]⟩ w hT hX koS_good (by simp [koS]) (by decide) ko_bd
 rw [ko_dec] at h
 exact h
theorem enc_la (v : Value) (B : Nat) (w : World) (hT : TW w) (hX : Tab w B v laS) : Calls Tryz.prog 258 #[.agg #[v,.int .i64 0],.string ⟨#[208,132]⟩] w fun e w'=>
 e = .returned (.tuple #[.string ⟨#[]⟩,.agg #[.int .i64 6,.int .i64 0]]) ∧ Below w.heap.size w w':=by
 have h:=sencode_any v laS B 0 ⟨#[208,132]⟩ w hT hX laS_good (by simp [laS]) (by decide) la_bd
 rw [la_enc] at h
 exact h
theorem awake05_any (w : World) (hT : TW w) : Calls Tryz.prog 205 #[] w fun e w'=>e = .returned (.bool true) ∧ Below w.heap.size w w':=by
 have k1:=fun w hT=>of_ko w hT
 have k2:=fun w hT=>of_la w hT
 have k3:=fun v B w hT hX=>dec_ko v B w hT hX
 have k4:=fun v B w hT hX=>enc_la v B w hT hX
 have k5:=fun w hT=>awake02_any w hT
 have k6:=fun w hT=>awake04_any w hT
 have kB : ∀ w,Calls Tryz.prog 24 #[.agg #[.int .i64 0,.int .i64 0]] w fun e w'=>e = .returned (.bool false) ∧ Below w.heap.size w w':=fun w=>bad_any 0 0 w
 have kE:=eqFault 6 0 6 0
 have kG:=fun op x y w=>guardFault op x y #[.int .i64 6,.int .i64 0] #[.int .i64 6,.int .i64 0] w
 have K1:=Lib.hid k1
 have K2:=Lib.hid k2
 have K3:=Lib.hid k3
 have K4:=Lib.hid k4
 have K5:=Lib.hid k5
 have K6:=Lib.hid k6
 have KB:=Lib.hid kB
 clear k1 k2 k3 k4 k5 k6 kB
 go_enter Tryz.func205,Tryz.ntmps205
 go_wp2_with fail
 refine (K1.out _ hT).mono ?_
 rintro e w1 ⟨a1,c1,rfl,ht1,hb1⟩
 have hc1:=bal hb1 (.cells #[.slice a1 2 c1,.int .i64 1] 267)
 have hq1 : Below w1.heap.size w1 (w1.alloc (.cells #[.slice a1 2 c1,.int .i64 1] 267)):=bal (Below.refl _ _) _
 have ht1':=ht1.bel hq1
 have hT1:=hT.bel hc1
 go_wp2_with fail
 refine (K3.out _ _ _ hT1 ht1').mono ?_
 rintro e w2 ⟨rfl,hb2⟩
 have hc2:=bal (bt hc1 hb2) (.cells #[.int .i64 0,.int .i64 0] 64)
 have hT2:=hT.bel hc2
 have f0 : (w2.alloc (.cells #[.int .i64 0,.int .i64 0] 64)).cell? ⟨w2.heap.size,0,none⟩ = some (.int .i64 0):=by go_simp
 have f1 : (w2.alloc (.cells #[.int .i64 0,.int .i64 0] 64)).cell? ⟨w2.heap.size,1,none⟩ = some (.int .i64 0):=by go_simp
 have F0:=Lib.hid f0
 have F1:=Lib.hid f1
 clear f0 f1
 go_wp2_with fail
 refine (K2.out _ hT2).mono ?_
 rintro e w3 ⟨a3,c3,rfl,ht3,hb3⟩
 have hq3 : Below w3.heap.size w3 (w3.alloc (.cells #[.slice a3 1 c3,.int .i64 0] 267)):=bal (Below.refl _ _) _
 have hc3:=bt (bt hc2 hb3) hq3
 have ht3':=ht3.bel hq3
 have hT3:=hT.bel hc3
 have f0:=kc hq3 (kc hb3 F0.out)
 have f1:=kc hq3 (kc hb3 F1.out)
 have G0:=Lib.hid f0
 have G1:=Lib.hid f1
 clear f0 f1
 go_wp2_with fail
 refine (K4.out _ _ _ hT3 ht3').mono ?_
 rintro e w4 ⟨rfl,hb4⟩
 have hq4 : Below w4.heap.size w4 (w4.alloc (.cells #[.int .i64 6,.int .i64 0] 64)):=bal (Below.refl _ _) _
 have hc4:=bt (bt hc3 hb4) hq4
 have hT4:=hT.bel hc4
 have f0:=kc hq4 (kc hb4 G0.out)
 have f1:=kc hq4 (kc hb4 G1.out)
 have g0 : (w4.alloc (.cells #[.int .i64 6,.int .i64 0] 64)).cell? ⟨w4.heap.size,0,none⟩ = some (.int .i64 6):=by go_simp
 have g1 : (w4.alloc (.cells #[.int .i64 6,.int .i64 0] 64)).cell? ⟨w4.heap.size,1,none⟩ = some (.int .i64 0):=by go_simp
 have HC4:=Lib.hid hc4
 have HT4:=Lib.hid hT4
 clear hc4 hT4
 clear hc1 hc2 hc3 hT1 hT2 hT3 ht1 ht1' ht3 ht3' hb1 hb2 hb3 hb4 hq1 hq3 hq4
 go_wp2_with (first
  | (go_at_call 130;refine (K5.out _ HT4.out).mono ?_;rintro e w5 ⟨rfl,hb5⟩;have f02:=kc hb5 f0;have f12:=kc hb5 f1;have g02:=kc hb5 g0;have g12:=kc hb5 g1)
  | (go_at_call 259;refine (K6.out _ (HT4.out.bel hb5)).mono ?_;rintro e w6 ⟨rfl,hb6⟩;have f03:=kc hb6 f02;have f13:=kc hb6 f12;have g03:=kc hb6 g02;have g13:=kc hb6 g12)
  | (go_at_call 24;refine (KB.out _).mono ?_;rintro e w7 ⟨rfl,hb7⟩;have g04:=kc hb7 g03;have g14:=kc hb7 g13))
 go_ret
 exact ⟨rfl,bt (bt (bt HC4.out hb5) hb6) hb7⟩
def letterB (p : Int) : Bool:=decide ((1072 ≤ p ∧ p ≤ 1119) ∨ p = 1169)
def capitalB (p : Int) : Bool:=decide ((1024 ≤ p ∧ p ≤ 1071) ∨ p = 1168)
theorem letter_any (p : Int) (w : World) : Calls Tryz.prog 203 #[.int .i32 p] w fun e w'=>e = .returned (.bool (letterB p)) ∧ w = w':=by
 go_enter Tryz.func203,Tryz.ntmps203
 go_wp2
 all_goals go_ret
 all_goals (refine ⟨ret_b ?_,rfl⟩;unfold letterB;rw [Bool.eq_iff_iff];simp;omega)
theorem capital_any (p : Int) (w : World) : Calls Tryz.prog 202 #[.int .i32 p] w fun e w'=>e = .returned (.bool (capitalB p)) ∧ w = w':=by
 go_enter Tryz.func202,Tryz.ntmps202
 go_wp2
 all_goals go_ret
 all_goals (refine ⟨ret_b ?_,rfl⟩;unfold capitalB;rw [Bool.eq_iff_iff];simp;omega)
def plainM (p : Int) : Int:=if p = 9 ∨ p = 10 ∨ p = 13 then 0 else if p < 32 ∨ p = 127 then -6 else 0
def latinM (p : Int) : Int:=if p < 160 then -8 else if p ≤ 191 ∨ p = 215 ∨ p = 247 then -1 else 1
def russianM (p : Int) : Int:=if letterB p = true then 4 else if capitalB p = true then 2 else -4
def chineseM (p : Int) : Int:=if 19968 ≤ p ∧ p ≤ 40959 then 5 else 1
noncomputable def koreanM (p : Int) : Int:=if 44032 ≤ p ∧ p ≤ 55203 then (if rankIn p = true then 6 else 2) else if 12593 ≤ p ∧ p ≤ 12686 then -2 else 1
theorem dplain_any (p : Int) (w : World) : Calls Tryz.prog 251 #[.int .i32 p] w fun e w'=>e = .returned (.int .i64 (plainM p)) ∧ w = w':=by
 go_enter Tryz.func251,Tryz.ntmps251
 go_wp2
 all_goals go_ret
 all_goals (refine ⟨ret_i ?_,rfl⟩;unfold plainM;(try simp only [Bool.or_eq_true,Bool.or_eq_false_iff,Bool.not_eq_true,Bool.not_eq_false,beq_iff_eq,beq_eq_false_iff_ne,decide_eq_true_eq,decide_eq_false_iff_not] at *);(repeat' split) <;> omega)
theorem dlatin_any (p : Int) (w : World) : Calls Tryz.prog 252 #[.int .i32 p] w fun e w'=>e = .returned (.int .i64 (latinM p)) ∧ w = w':=by
 go_enter Tryz.func252,Tryz.ntmps252
 go_wp2
 all_goals go_ret
 all_goals (refine ⟨ret_i ?_,rfl⟩;unfold latinM;(try simp only [Bool.or_eq_true,Bool.or_eq_false_iff,Bool.not_eq_true,Bool.not_eq_false,beq_iff_eq,beq_eq_false_iff_ne,decide_eq_true_eq,decide_eq_false_iff_not] at *);(repeat' split) <;> omega)
theorem chinese_any (p : Int) (w : World) : Calls Tryz.prog 255 #[.int .i32 p] w fun e w'=>e = .returned (.int .i64 (chineseM p)) ∧ w = w':=by
 go_enter Tryz.func255,Tryz.ntmps255
 go_wp2
 all_goals go_ret
 all_goals (refine ⟨ret_i ?_,rfl⟩;unfold chineseM;(repeat' split) <;> omega)
theorem drussian_any (p : Int) (w : World) : Calls Tryz.prog 253 #[.int .i32 p] w fun e w'=>e = .returned (.int .i64 (russianM p)) ∧ w = w':=by
 have k1:=fun w=>letter_any p w
 have k2:=fun w=>capital_any p w
 have hm : russianM p = if letterB p = true then 4 else if capitalB p = true then 2 else -4:=rfl
 rw [hm]
 clear hm
 generalize letterB p = a at *
 generalize capitalB p = b at *
 have K1:=Lib.hid k1
 have K2:=Lib.hid k2
 clear k1 k2
 cases a <;> cases b
 all_goals (
  go_enter Tryz.func253,Tryz.ntmps253
  go_wp2_with (first
   | (go_at_call 203;refine (K1.out _).mono ?_;rintro e w1 ⟨rfl,rfl⟩)
   | (go_at_call 202;refine (K2.out _).mono ?_;rintro e w1 ⟨rfl,rfl⟩))
  go_ret
  exact ⟨rfl,rfl⟩)
theorem korean_any (p : Int) (w : World) (hp0 : 0 ≤ p) (hp1 : p ≤ 1114111) : Calls Tryz.prog 254 #[.int .i32 p] w fun e w'=>e = .returned (.int .i64 (koreanM p)) ∧ Below w.heap.size w w':=by
 by_cases h : 44032 ≤ p ∧ p ≤ 55203
 · have k1:=fun w=>rank_any p w h.1 h.2
   have hm : koreanM p = if rankIn p = true then 6 else 2:=by unfold koreanM;rw [if_pos h]
   rw [hm]
   clear hm
   generalize rankIn p = a at *
   generalize rankM p = r at *
   have K1:=Lib.hid k1
   clear k1
   clear h
   cases a
   all_goals (
    go_enter Tryz.func254,Tryz.ntmps254
    go_wp2_with (go_at_call 292;refine (K1.out _).mono ?_;rintro e w1 ⟨rfl,hb1⟩)
    go_ret
    exact ⟨rfl,hb1⟩)
 · have k1:=fun w=>rank_out p w (by omega) (by omega) (by omega)
   have hm : koreanM p = if 12593 ≤ p ∧ p ≤ 12686 then -2 else 1:=by unfold koreanM;rw [if_neg h]
   rw [hm]
   have K1:=Lib.hid k1
   clear k1
   clear h hm
   rcases (show p < 12593 ∨ (12593 ≤ p ∧ p ≤ 12686) ∨ (12593 ≤ p ∧ 12686 < p) from by omega) with h | ⟨h,h'⟩ | ⟨h,h'⟩
   · rw [if_neg (by omega)]
     go_enter Tryz.func254,Tryz.ntmps254
     go_wp2_with (go_at_call 292;refine (K1.out _).mono ?_;rintro e w1 ⟨rfl,hb1⟩)
     go_ret
     exact ⟨rfl,hb1⟩
   · rw [if_pos ⟨h,h'⟩]
     go_enter Tryz.func254,Tryz.ntmps254
     go_wp2_with (go_at_call 292;refine (K1.out _).mono ?_;rintro e w1 ⟨rfl,hb1⟩)
     go_ret
     exact ⟨rfl,hb1⟩
   · rw [if_neg (by omega)]
     go_enter Tryz.func254,Tryz.ntmps254
     go_wp2_with (go_at_call 292;refine (K1.out _).mono ?_;rintro e w1 ⟨rfl,hb1⟩)
     go_ret
     exact ⟨rfl,hb1⟩
noncomputable def weightM (c p : Int) : Int:=if p < 128 then plainM p else if c = 0 then latinM p else if c = 1 ∨ c = 2 ∨ c = 3 then russianM p else if c = 4 ∨ c = 5 then koreanM p else chineseM p
theorem weight_bd (c p : Int) : -8 ≤ weightM c p ∧ weightM c p ≤ 6:=by
 unfold weightM plainM latinM russianM koreanM chineseM
 repeat' split
 all_goals omega
theorem weight_any (c p : Int) (w : World) (h0 : 0 ≤ c) (h1 : c ≤ 6) (hp0 : 0 ≤ p) (hp1 : p ≤ 1114111) : Calls Tryz.prog 201 #[.int .i64 c,.int .i32 p] w fun e w'=>e = .returned (.int .i64 (weightM c p)) ∧ Below w.heap.size w w':=by
 have k1:=fun w=>dplain_any p w
 have k2:=fun w=>dlatin_any p w
 have k3:=fun w=>drussian_any p w
 have k4:=fun w=>korean_any p w hp0 hp1
 have k5:=fun w=>chinese_any p w
 have hm : weightM c p = if p < 128 then plainM p else if c = 0 then latinM p else if c = 1 ∨ c = 2 ∨ c = 3 then russianM p else if c = 4 ∨ c = 5 then koreanM p else chineseM p:=rfl
 rw [hm]
 clear hm
 generalize plainM p = a1 at *
 generalize latinM p = a2 at *
 generalize russianM p = a3 at *
 generalize koreanM p = a4 at *
 generalize chineseM p = a5 at *
 have K1:=Lib.hid k1
 have K2:=Lib.hid k2
 have K3:=Lib.hid k3
 have K4:=Lib.hid k4
 have K5:=Lib.hid k5
 clear k1 k2 k3 k4 k5
 by_cases hp : p < 128
 · rw [if_pos hp]
   go_enter Tryz.func201,Tryz.ntmps201
   go_wp2_with (go_at_call 251;refine (K1.out _).mono ?_;rintro e w1 ⟨rfl,rfl⟩)
   go_ret
   exact ⟨rfl,Below.refl _ _⟩
 · rw [if_neg hp]
   rcases (show c = 0 ∨ c = 1 ∨ c = 2 ∨ c = 3 ∨ c = 4 ∨ c = 5 ∨ c = 6 from by omega) with rfl | rfl | rfl | rfl | rfl | rfl | rfl
   all_goals (
    go_enter Tryz.func201,Tryz.ntmps201
    go_wp2_with (first
     | (go_at_call 252;refine (K2.out _).mono ?_;rintro e w1 ⟨rfl,rfl⟩)
     | (go_at_call 253;refine (K3.out _).mono ?_;rintro e w1 ⟨rfl,rfl⟩)
     | (go_at_call 254;refine (K4.out _).mono ?_;rintro e w1 ⟨rfl,hb1⟩)
     | (go_at_call 255;refine (K5.out _).mono ?_;rintro e w1 ⟨rfl,rfl⟩))
    go_ret
    exact ⟨rfl,by first | exact hb1 | exact Below.refl _ _⟩)
end Go.Proofs.YtohbeinhlhgfiaaGreatDoor
