/- ReportFaults, whatever the code and the place. -/
import Derived.Test.YtankkegoeocobaaGreatDoorHo
import Derived.Test.YtankkegoeocobaaGreatDoorHp
import Derived.Lib.AppendIntMem
namespace Go.Proofs.YtankkegoeocobaaGreatDoor.reportFaults
open Go Go.Rf Go.RowKit Go.Shelf Go.Lib Go.ChangeShapes Go.WideShapes Go.ChangeAt
set_option linter.unusedVariables false
set_option linter.unusedSimpArgs false
abbrev PT (w : World) : Prop := TabIs Tryz.prog w "internal/strconv.uint64pow10" .u64 pow10Tab
theorem pt_bel {w w' : World} (h : PT w) (hb : Below w.heap.size w w') : PT w' := by
  unfold PT TabIs World.var? at h ⊢
  rw [show Tryz.prog.globalNamed "internal/strconv.uint64pow10" = some 5 by kernel_rfl] at h ⊢
  simp only [Option.bind_some] at h ⊢
  cases hh : w.heap[5]? with
  | none => rw [hh] at h; cases h
  | some o =>
    have hlt := (Array.getElem?_eq_some_iff.1 hh).1
    rw [hb.block _ hlt]
    exact h
theorem pow_eq : (Rows.laid_internal_strconv_uint64pow10 : DataW Unit) = tabData .u64 pow10Tab := by kernel_rfl
theorem pt_of {W : World} (r : VarReads Tryz.prog W "internal/strconv.uint64pow10" Rows.laid_internal_strconv_uint64pow10) : PT W := by
  rw [pow_eq] at r
  obtain ⟨g, t, cs, fuel, p, hg, hty, hvar, hd⟩ := r
  obtain rfl := Option.some.inj ((show Tryz.prog.globalNamed "internal/strconv.uint64pow10" = some 5 by kernel_rfl).symm.trans hg)
  obtain rfl := Option.some.inj ((show (Tryz.prog.globals[5]?).map (·.type) = some 377 by kernel_rfl).symm.trans hty)
  have hcs := cells_of_tab Tryz.underlying377 Tryz.underlying27 (by kernel_rfl) (by kernel_rfl) hd
  unfold PT TabIs
  rw [hvar, ← hcs]
theorem len_le : ∀ k u : Nat, u < 10 ^ (k + 1) → nDigits u ≤ k + 1
  | 0, u, h => by rw [nDigits_small (by simpa using h)]; exact Nat.le_refl _
  | k + 1, u, h => by
    by_cases h10 : u < 10
    · rw [nDigits_small h10]; omega
    · rw [nDigits_big h10]
      have := len_le k (u / 10) (by rw [Nat.pow_succ] at h; omega)
      omega
theorem digits_size (n : Nat) (hn : n ≤ 9223372036854775807) : (⟨(decDigits n).toArray⟩ : ByteArray).size ≤ 1000 := by
  have h1 : (⟨(decDigits n).toArray⟩ : ByteArray).size = (decDigits n).length := by simp [ByteArray.size]
  have h2 := len_le 19 n (by have : (10 : Nat) ^ 20 = 100000000000000000000 := by decide
                             omega)
  rw [h1, decDigits_length]
  omega
def wdZ (co : Int) : List UInt8 := if 0 ≤ co ∧ co ≤ 8 then wdOf co.toNat else wdO
theorem isSt_eq {l : List UInt8} {v : Option Value} (h : isSt l v = true) : v = some (.string ⟨⟨l⟩⟩) := by
  unfold isSt at h
  split at h
  · rename_i b
    rw [eqB_eq, beq_iff_eq] at h
    rw [str_of h]
  · cases h
theorem isTR_eq {v : Option Value} (h : isTR v = true) : v = some (.bool true) := by
  unfold isTR at h
  split at h
  · rw [h]
  · cases h
theorem nos [Sym] {w : World} : SOk Tryz.prog w w.heap.size { O9 with sym := fun _ _ => none } := fun f args r hk => by cases hk
theorem nol [Sym] : LOk (fun _ => none) := fun i r h => by cases h
theorem word_any (co : Int) (w : World) (hG : GW w) : Calls Tryz.prog 59 #[.int .i64 co] w fun e w' => e = .returned (.string ⟨⟨wdZ co⟩⟩) ∧ Below w.heap.size w w' := by
  letI := sgR 0 co ⟨#[]⟩ ⟨#[]⟩
  by_cases h0 : co < 0
  · rw [show wdZ co = wdO from if_neg (by omega)]
    exact sym_law (vals := [.int .i64 co]) (factB_ok (P := Tryz.prog) (l := [_]) ⟨bok_lss (a := co) (c := 0) (k := .i64) (fun _ => rfl) (fun _ => rfl) (decide_eq_true h0), trivial⟩) nol hG nos rfl runWd_lo
  · by_cases h8 : 8 < co
    · rw [show wdZ co = wdO from if_neg (by omega)]
      exact sym_law (vals := [.int .i64 co]) (factB_ok (P := Tryz.prog) (l := [_, _]) ⟨bok_lss (a := co) (c := 0) (k := .i64) (fun _ => rfl) (fun _ => rfl) (decide_eq_false h0), bok_gtr (a := co) (c := 8) (k := .i64) (fun _ => rfl) (fun _ => rfl) (decide_eq_true h8), trivial⟩) nol hG nos rfl runWd_hi
    · obtain ⟨n, rfl⟩ : ∃ n : Nat, co = .ofNat n := ⟨co.toNat, (Int.toNat_of_nonneg (by omega)).symm⟩
      have hn : n < 9 := by have : (Int.ofNat n) = (n : Int) := rfl; omega
      rw [show wdZ (.ofNat n) = wdOf n from if_pos ⟨by omega, by have : (Int.ofNat n) = (n : Int) := rfl; omega⟩]
      exact sym_law (vals := [.int .i64 (.ofNat n)]) (factB_ok (P := Tryz.prog) (l := []) trivial) nol hG nos rfl (isSt_eq (all_at runWd_in hn))
theorem wd_size (co : Int) : (⟨⟨wdZ co⟩⟩ : ByteArray).size ≤ 1000 := by
  show (wdZ co).length ≤ 1000
  unfold wdZ
  split
  · unfold wdOf
    split
    · rename_i l hl
      have : ∀ l ∈ wdL, l.length ≤ 1000 := by decide
      exact this l (List.mem_of_getElem? hl)
    · decide
  · decide
theorem itoa_any (n : Nat) (hn : n ≤ 9223372036854775807) (w : World) (hP : PT w) : Calls Tryz.prog 61 #[.int .i64 (n : Int)] w fun e w' => e = .returned (.string ⟨(decDigits n).toArray⟩) ∧ Below w.heap.size w w' :=
  (Tryz.strconv_Itoa n (by omega) (by omega) w hP).mono fun e w' ⟨h1, k, os, h2⟩ => ⟨by rw [h1, show itoa (n : Int) = decDigits n from if_neg (by omega)], by rw [h2]; exact below_grow _ w (Nat.le_refl _) k os⟩
theorem walk (co at_ : Int) (w0 : (Lit.int .i64 co).wf = true) (w1 : (Lit.int .i64 at_).wf = true) (w : World) (hT : GW w ∧ PT w) :
    Calls Tryz.prog 5 #[.int .i64 co, .int .i64 at_] w fun e w' => e = .returned (.bool true) ∧ Below w.heap.size w w' := by
  obtain ⟨hG, hP⟩ := hT
  by_cases ha : at_ < 0
  · letI := sgR at_ co ⟨#[]⟩ ⟨#[]⟩
    exact sym_law (vals := [.int .i64 co, .int .i64 at_]) (factB_ok (P := Tryz.prog) (l := [_]) ⟨bok_lss (a := at_) (c := 0) (k := .i64) (fun _ => rfl) (fun _ => rfl) (decide_eq_true ha), trivial⟩) nol hG nos rfl runR_dark
  · obtain ⟨n, rfl⟩ : ∃ n : Nat, at_ = (n : Int) := ⟨at_.toNat, (Int.toNat_of_nonneg (by omega)).symm⟩
    have hn : n ≤ 9223372036854775807 := by
      simp only [Lit.wf, Bool.and_eq_true, decide_eq_true_eq] at w1
      have h2 : (n : Int) ≤ 9223372036854775807 := w1.2
      omega
    obtain ⟨D, hD⟩ : ∃ D : ByteArray, D = ⟨(decDigits n).toArray⟩ := ⟨_, rfl⟩
    have hDs : D.size ≤ 1000 := by rw [hD]; exact digits_size n hn
    obtain ⟨S, hS⟩ : ∃ S : ByteArray, S = ⟨⟨wdZ co⟩⟩ ++ ⟨#[32, 97, 116, 32]⟩ ++ D := ⟨_, rfl⟩
    letI := sgR (n : Int) co S D
    have b0 : BOk (.lss, .sym 0, jI 0, jB false) := bok_lss (a := (n : Int)) (c := 0) (k := .i64) (fun _ => rfl) (fun _ => rfl) (decide_eq_false ha)
    by_cases hz : co = 0
    · subst hz
      exact sym_law (vals := [.int .i64 0, .int .i64 (n : Int)]) (factB_ok (P := Tryz.prog) (l := [_]) ⟨b0, trivial⟩) nol hG nos rfl runR_zero
    · have kF : ∀ w', Below w.heap.size w w' → Calls Tryz.prog 22 #[.agg #[.int .i64 co, .int .i64 (n : Int)]] w' fun e w'' => e = .returned (.string S) ∧ Below w'.heap.size w' w'' := by
        intro w' hb
        rw [hS]
        exact fault_bad co n ⟨⟨wdZ co⟩⟩ D w' hz (wd_size co) hDs (fun w2 hb2 => word_any co w2 ((hG.bel hb).bel hb2)) (fun w2 hb2 => by rw [hD]; exact itoa_any n hn w2 (pt_bel (pt_bel hP hb) hb2))
      have kD : ∀ w', Calls Tryz.prog 24 #[.int .i64 (n : Int)] w' fun e w'' => e = .returned (.string D) ∧ Below w'.heap.size w' w'' := fun w' => by rw [hD]; exact rdigits_any n w' hn
      have hSk : ∀ c : At, (∀ ρ : Rho, c.den ρ = some (.int .i64 co)) → SOk Tryz.prog w w.heap.size { O9 with sym := cR c } := by
        intro c hc f args r hr ρ vals hd
        have hq : cR c f args = some r := hr
        clear hr
        unfold cR at hq
        split at hq
        · rename_i hf
          obtain rfl := Nat.eq_of_beq_eq_true hf
          split at hq
          · rename_i hs
            cases hq
            rw [sameL1_eq hs] at hd
            have hd : some [Value.agg #[.int .i64 co, .int .i64 (n : Int)]] = some vals := by
              rw [← hd]; simp only [dens1, V1.den, dens, hc]; rfl
            cases hd
            exact ⟨.string S, rfl, fun w' hb _ => kF w' hb⟩
          · cases hq
        · split at hq
          · rename_i hf
            obtain rfl := Nat.eq_of_beq_eq_true hf
            split at hq
            · rename_i hs
              cases hq
              rw [sameL1_eq hs] at hd
              have hd : some [Value.int .i64 (n : Int)] = some vals := hd
              cases hd
              exact ⟨.string D, rfl, fun w' _ _ => kD w'⟩
            · cases hq
          · cases hq
      have b2 : BOk (.eql, .sym 1, .sym 1, jB true) := bok_eqs (s := S) (t := S) (fun _ => rfl) (fun _ => rfl) (by simp)
      have b1 : BOk (.add, jS (wdZ co ++ [32, 97, 116, 32]), .sym 2, .sym 1) := by
        have e : (⟨⟨wdZ co ++ [32, 97, 116, 32]⟩⟩ : ByteArray) ++ D = S := by
          rw [hS]
          apply bl_eq'
          simp [ByteArray.data_append]
        refine bok_add (s := ⟨⟨wdZ co ++ [32, 97, 116, 32]⟩⟩) (t := D) (fun _ => rfl) (fun _ => rfl) (fun _ => by rw [e]; rfl) ?_
        have h1 := wd_size co
        have h2 : (⟨⟨wdZ co ++ [32, 97, 116, 32]⟩⟩ : ByteArray).size = (⟨⟨wdZ co⟩⟩ : ByteArray).size + 4 := by
          show (wdZ co ++ [32, 97, 116, 32]).length = (wdZ co).length + 4
          simp
        omega
      by_cases h8 : 0 ≤ co ∧ co ≤ 8
      · obtain ⟨m, rfl⟩ : ∃ m : Nat, co = ((m + 1 : Nat) : Int) := ⟨co.toNat - 1, by omega⟩
        have hm : m < 8 := by omega
        have ew : wdZ ((m + 1 : Nat) : Int) = wdOf (m + 1) := if_pos h8
        rw [ew] at b1
        refine sym_law (vals := [.int .i64 ((m + 1 : Nat) : Int), .int .i64 (n : Int)]) (factB_ok (P := Tryz.prog) (l := bsR (wdOf (m + 1))) ⟨b0, b1, b2, trivial⟩) nol hG (hSk (jI (m + 1)) (fun _ => rfl)) rfl (isTR_eq (all_at runR_in hm))
      · have ew : wdZ co = wdO := if_neg h8
        rw [ew] at b1
        have ne : ∀ k : Nat, k ≤ 8 → BOk (.eql, .sym 3, jI k, jB false) := fun k hk => bok_eql (a := co) (c := k) (k := .i64) (fun _ => rfl) (fun _ => rfl) (by rw [beq_eq_false_iff_ne]; omega)
        have nn : BOk (.neq, .sym 3, jI 0, jB true) := bok_neq (a := co) (c := 0) (k := .i64) (fun _ => rfl) (fun _ => rfl) (by simpa using hz)
        exact sym_law (vals := [.int .i64 co, .int .i64 (n : Int)]) (factB_ok (P := Tryz.prog) (l := coR ++ bsR wdO) ⟨nn, ne 0 (by omega), ne 1 (by omega), ne 2 (by omega), ne 3 (by omega), ne 4 (by omega), ne 5 (by omega), ne 6 (by omega), ne 7 (by omega), ne 8 (by omega), b0, b1, b2, trivial⟩) nol hG (hSk (.sym 3) (fun _ => rfl)) rfl runR_out
end Go.Proofs.YtankkegoeocobaaGreatDoor.reportFaults
