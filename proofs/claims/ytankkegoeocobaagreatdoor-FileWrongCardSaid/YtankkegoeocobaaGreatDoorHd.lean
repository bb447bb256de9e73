/- FileWrong, whatever the kind, the bytes and the sound. -/
import Derived.Test.YtankkegoeocobaaGreatDoorHb
import Derived.Test.YtankkegoeocobaaGreatDoorHc
import Derived.Test.YtankkegoeocobaaGreatDoorRH
namespace Go.Proofs.YtankkegoeocobaaGreatDoor
open Go Go.Rf Go.RowKit
set_option linter.unusedVariables false
set_option linter.unusedSimpArgs false

theorem slF_ok (kd : Int) (b s : ByteArray) : letI := sgF kd b s; ∀ i r, slF i = some r → ∃ x : ByteArray, Sym.v i = .string x ∧ ∀ ρ, r.den ρ = some (.int .i64 x.size) := by
  intro i r h
  match i, h with
  | 1, h => cases h; exact ⟨b, rfl, fun _ => rfl⟩
  | 2, h => cases h; exact ⟨s, rfl, fun _ => rfl⟩
theorem cF_ok (kd : Int) (b s : ByteArray) (hp : Bool) (h : Lib.hasPrefix s.data.toList [73, 68, 51] = hp) (W : World) (O : Oracle) : letI := sgF kd b s; SOk Tryz.prog W W.heap.size { O with sym := cF hp } := by
  intro f args r hr ρ vals hd
  have hq : cF hp f args = some r := hr
  clear hr
  unfold cF at hq
  split at hq
  · rename_i hf
    obtain rfl := Nat.eq_of_beq_eq_true hf
    split at hq
    · rename_i ha
      cases hq
      rw [sameL1_eq ha] at hd
      have hd : some [Value.string s, .string ⟨#[73, 68, 51]⟩] = some vals := hd
      cases hd
      refine ⟨.bool hp, rfl, fun w _ _ => ?_⟩
      exact (Tryz.strings_HasPrefix s ⟨#[73, 68, 51]⟩ w).mono fun e w' ⟨h1, h2⟩ => ⟨by rw [h1]; show Ending.returned (.bool (Lib.hasPrefix s.data.toList [73, 68, 51])) = _; rw [h], by rw [h2]; exact Below.refl _ _⟩
    · cases hq
  · split at hq
    · rename_i hf
      obtain rfl := Nat.eq_of_beq_eq_true hf
      split at hq
      · rename_i ha
        cases hq
        rw [sameL1_eq ha] at hd
        have hd : some [Value.string s] = some vals := hd
        cases hd
        refine ⟨.bool hp, rfl, fun w _ _ => ?_⟩
        exact (begins15_any s w).mono fun e w' ⟨h1, h2⟩ => ⟨by rw [h1, h], by rw [h2]; exact Below.refl _ _⟩
      · cases hq
    · cases hq
theorem runF_ok (kd : Int) (b s : ByteArray) (bs : List BinF) (hp : Bool) (h : runF bs hp = some (.bool true)) (hb : letI := sgF kd b s; BAllOk bs) (w : World) (hG : GW w) (hs : letI := sgF kd b s; SOk Tryz.prog w w.heap.size { O9 with sym := cF hp }) :
    Calls Tryz.prog 3 #[.int .i64 kd, .string b, .string s] w fun e w' => e = .returned (.bool true) ∧ Below w.heap.size w w' := by
  letI := sgF kd b s
  haveI : XOk Tryz.prog { xt with fact := factB bs, slen := slF } := xok_with (slF_ok kd b s) (factB_ok hb)
  unfold runF at h
  cases hr : evCall Tryz.prog { xt with fact := factB bs, slen := slF } gk { O9 with sym := cF hp } 60 3 [.a (.sym 0), .a (.sym 1), .a (.sym 2)] { heap := [], next := 0 } with
  | none => rw [hr] at h; cases h
  | some p =>
    rw [hr] at h
    exact sym_run (O := { O9 with sym := cF hp }) (vals := [.int .i64 kd, .string b, .string s]) mixed hG.gok (fun f vs v hk => ol_ok hG f vs v hk) hs hr rfl (fun ρ => V2.den_val h)
end Go.Proofs.YtankkegoeocobaaGreatDoor
namespace Go.Proofs.YtankkegoeocobaaGreatDoor.fileWrong
open Go Go.Rf Go.RowKit
set_option linter.unusedVariables false
theorem walk (kd : Int) (b s : ByteArray) (w0 : (Lit.int .i64 kd).wf = true) (w1 : b.size ≤ maxLen) (w2 : s.size ≤ maxLen) (w : World) (hG : GW w) :
    Calls Tryz.prog 3 #[.int .i64 kd, .string b, .string s] w fun e w' => e = .returned (.bool true) ∧ Below w.heap.size w w' := by
  letI := sgF kd b s
  have g1 : ∀ v, decide ((b.size : Int) > 300) = v → BOk (.gtr, .sym 3, li 300, lb v) := fun v h => bok_gtr (a := (b.size : Int)) (c := 300) (k := .i64) (fun _ => rfl) (fun _ => rfl) h
  have g2 : ∀ v, decide ((s.size : Int) > 300) = v → BOk (.gtr, .sym 4, li 300, lb v) := fun v h => bok_gtr (a := (s.size : Int)) (c := 300) (k := .i64) (fun _ => rfl) (fun _ => rfl) h
  have k1 : ∀ v, decide (kd < 0) = v → BOk (.lss, .sym 0, li 0, lb v) := fun v h => bok_lss (a := kd) (c := 0) (k := .i64) (fun _ => rfl) (fun _ => rfl) h
  have k2 : ∀ v, decide (kd > 7) = v → BOk (.gtr, .sym 0, li 7, lb v) := fun v h => bok_gtr (a := kd) (c := 7) (k := .i64) (fun _ => rfl) (fun _ => rfl) h
  have ke : (kd < 0 ∨ 7 < kd) → ∀ n : Nat, n ≤ 7 → BOk (.eql, .sym 0, li n, lb false) := fun h n hn => bok_eql (a := kd) (c := n) (k := .i64) (fun _ => rfl) (fun _ => rfl) (by rw [beq_eq_false_iff_ne]; omega)
  have hS : SOk Tryz.prog w w.heap.size { O9 with sym := cF (Lib.hasPrefix s.data.toList [73, 68, 51]) } := cF_ok kd b s _ rfl w O9
  have hE : (kd < 0 ∨ 7 < kd) → BAllOk eqs := fun h => ⟨ke h 0 (by omega), ke h 1 (by omega), ke h 2 (by omega), ke h 3 (by omega), ke h 4 (by omega), ke h 5 (by omega), ke h 6 (by omega), ke h 7 (by omega), trivial⟩
  have run := fun bs h1 hb => runF_ok kd b s bs (Lib.hasPrefix s.data.toList [73, 68, 51]) h1 hb w hG hS
  by_cases c1 : b.size ≤ 300
  · by_cases c2 : s.size ≤ 300
    · have t1 := g1 false (by rw [decide_eq_false_iff_not]; omega)
      have t2 := g2 false (by rw [decide_eq_false_iff_not]; omega)
      by_cases c3 : kd < 0
      · refine run ((.gtr, .sym 3, li 300, lb false) :: (.gtr, .sym 4, li 300, lb false) :: (.lss, .sym 0, li 0, lb true) :: eqs) ?_ ⟨t1, t2, k1 true (by simpa using c3), hE (.inl c3)⟩
        exact run_low _
      · have t3 := k1 false (by rw [decide_eq_false_iff_not]; omega)
        by_cases c4 : 7 < kd
        · refine run ((.gtr, .sym 3, li 300, lb false) :: (.gtr, .sym 4, li 300, lb false) :: (.lss, .sym 0, li 0, lb false) :: (.gtr, .sym 0, li 7, lb true) :: eqs) ?_ ⟨t1, t2, t3, k2 true (by simpa using c4), hE (.inr c4)⟩
          exact run_high _
        · have t4 := k2 false (by rw [decide_eq_false_iff_not]; omega)
          cases hp : Lib.hasPrefix s.data.toList [73, 68, 51] with
          | true =>
            rw [hp] at run
            exact run _ run_tag ⟨t1, t2, t3, t4, trivial⟩
          | false =>
            rw [hp] at run
            exact run _ run_none ⟨t1, t2, t3, t4, bok_eqs (s := s) (t := s) (fun _ => rfl) (fun _ => rfl) (by simp), trivial⟩
    · exact run [(.gtr, .sym 3, li 300, lb false), (.gtr, .sym 4, li 300, lb true)] (run_dark2 _) ⟨g1 false (by rw [decide_eq_false_iff_not]; omega), g2 true (by rw [decide_eq_true_iff]; omega), trivial⟩
  · exact run [(.gtr, .sym 3, li 300, lb true)] (run_dark1 _) ⟨g1 true (by rw [decide_eq_true_iff]; omega), trivial⟩
end Go.Proofs.YtankkegoeocobaaGreatDoor.fileWrong
