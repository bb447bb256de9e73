/- Tv -/
import Derived.Test.YtohbeinhlhgfiaaGreatDoorShelf3
import Derived.Test.YtohbeinhlhgfiaaGreatDoorMDt
set_option linter.unusedVariables false
set_option linter.unusedSimpArgs false
set_option maxHeartbeats 4000000
namespace Go.Proofs.YtohbeinhlhgfiaaGreatDoor
open Go.RowKit
theorem sc_ko : scoreR 1 [193,194] = some 8:=by decide +kernel
theorem sc_1 : scoreR 1 [176,161] = some (-8):=by decide +kernel
theorem sc_2 : scoreR 2 [176,161] = some (-8):=by decide +kernel
theorem sc_3 : scoreR 3 [176,161] = some 0:=by decide +kernel
theorem sc_0 : scoreR 0 [176,161] = some (-2):=by decide +kernel
theorem sc_6 : scoreR 6 [176,161] = none:=by decide +kernel
theorem sc_5 : scoreR 5 [176,161] = some 2:=by decide +kernel
theorem sc_4 : scoreR 4 [176,161] = some 6:=by decide +kernel
theorem guess_ga : guessR [176,161] orderL = (6,4,true):=by
 have h4:=sc_4
 have h6:=sc_6
 have h5:=sc_5
 have h1:=sc_1
 have h2:=sc_2
 have h3:=sc_3
 have h0:=sc_0
 unfold guessR orderL
 obtain ⟨S,hS⟩ : ∃ S : Int → Option Int,S = fun c=>scoreR c [176,161]:=⟨_,rfl⟩
 rw [← hS]
 have e4 : S 4 = some 6:=by rw [hS];exact h4
 have e6 : S 6 = none:=by rw [hS];exact h6
 have e5 : S 5 = some 2:=by rw [hS];exact h5
 have e1 : S 1 = some (-8):=by rw [hS];exact h1
 have e2 : S 2 = some (-8):=by rw [hS];exact h2
 have e3 : S 3 = some 0:=by rw [hS];exact h3
 have e0 : S 0 = some (-2):=by rw [hS];exact h0
 rw [guessF_more e4 _ _ _ _ (by decide),guessF_none e6,guessF_less e5 _ _ _ _ (by decide),guessF_less e1 _ _ _ _ (by decide),guessF_less e2 _ _ _ _ (by decide),guessF_less e3 _ _ _ _ (by decide),guessF_less e0 _ _ _ _ (by decide)]
 rfl
theorem awake10_any (w : World) (hT : TW w) : Calls Tryz.prog 67 #[] w fun e w'=>e = .returned (.bool true) ∧ Below w.heap.size w w':=by
 have k1 : ∀ w,TW w → Calls Tryz.prog 131 #[.int .i64 1,.string ⟨#[193,194]⟩] w fun e w'=>e = .returned (.tuple #[.int .i64 8,.bool true]) ∧ Below w.heap.size w w':=fun w hT=>by
  have h:=score_any 1 ⟨#[193,194]⟩ w hT (by decide)
  rw [show bl ⟨#[193,194]⟩ = [193,194] from rfl,sc_ko] at h
  exact h
 have k2 : ∀ v w,TW w → Row w v 7 (ccells orderL) → Calls Tryz.prog 132 #[.string ⟨#[176,161]⟩,v] w fun e w'=>e = .returned (.tuple #[.int .i64 4,.bool true]) ∧ Below w.heap.size w w':=fun v w hT hr=>by
  have h:=guess_any ⟨#[176,161]⟩ v orderL w hT (by decide) hr (by decide)
  rw [show bl ⟨#[176,161]⟩ = [176,161] from rfl,guess_ga] at h
  exact h
 have k3:=fun w=>order_any w
 have k4:=fun w hT=>awake09_any w hT
 have K1:=Lib.hid k1
 have K2:=Lib.hid k2
 have K3:=Lib.hid k3
 have K4:=Lib.hid k4
 clear k1 k2 k3 k4
 go_enter Tryz.func67,Tryz.ntmps67
 go_wp2_with (first
  | (go_at_call 131;refine (K1.out _ hT).mono ?_;rintro e w1 ⟨rfl,hb1⟩)
  | (go_at_call 133;refine (K3.out _).mono ?_;rintro e w2 ⟨v,rfl,hr,hb2⟩)
  | (go_at_call 132;refine (K2.out _ _ (hT.bel (bt hb1 hb2)) hr).mono ?_;rintro e w3 ⟨rfl,hb3⟩)
  | (go_at_call 134;refine (K4.out _ (hT.bel (bt (bt hb1 hb2) hb3))).mono ?_;rintro e w4 ⟨rfl,hb4⟩))
 go_ret
 exact ⟨rfl,bt (bt (bt hb1 hb2) hb3) hb4⟩
end Go.Proofs.YtohbeinhlhgfiaaGreatDoor
