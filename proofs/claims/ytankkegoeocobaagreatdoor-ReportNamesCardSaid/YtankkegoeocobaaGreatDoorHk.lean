/- ReportNames, whatever the kind and the name. -/
import Derived.Test.YtankkegoeocobaaGreatDoorHj
namespace Go.Proofs.YtankkegoeocobaaGreatDoor.reportNames
open Go Go.Rf Go.RowKit Go.Shelf Go.Lib Go.ChangeShapes Go.WideShapes Go.ChangeAt
set_option linter.unusedVariables false
set_option linter.unusedSimpArgs false
theorem kinds_eq : (Rows.laid_diacritic_report_kinds : DataW Unit) = .agg (nmK.map fun l => .lit (.string l)) := rfl
theorem gkk_ok {W : World} (hG : GW W) (r : VarReads Tryz.prog W "diacritic/report.kinds" Rows.laid_diacritic_report_kinds) : GOk W W.heap.size gkk := by
  rw [kinds_eq] at r
  obtain ⟨g, t, cs, fuel, p, hg, hty, hvar, hd⟩ := r
  obtain rfl := Option.some.inj ((show Tryz.prog.globalNamed "diacritic/report.kinds" = some 0 by kernel_rfl).symm.trans hg)
  obtain rfl := Option.some.inj ((show (Tryz.prog.globals[0]?).map (·.type) = some 103 by kernel_rfl).symm.trans hty)
  have key : ∀ i v, atK i = some v → W.cell? ⟨0, i, none⟩ = some v := by
    intro i v h
    unfold atK at h
    split at h
    · rename_i l hl
      cases h
      have hi : i < 8 := (List.getElem?_eq_some_iff.1 hl).1
      obtain ⟨fuel', d, q, hdi, he⟩ := array_elem Tryz.underlying103 hd i hi
      rw [List.getElem?_map, hl] at hdi
      cases hdi
      rw [show Tryz.prog.cellsOf 9 = 1 by kernel_rfl] at he
      obtain ⟨s, c0, x0, _⟩ := DataW.trod_string Tryz.underlying9 he
      simp only [Prod.mk.injEq, DataW.lit.injEq, Lit.string.injEq] at x0
      have f0 := congrArg (·[0]?) c0
      simp only [List.getElem?_take, List.getElem?_drop] at f0
      simp at f0
      rw [World.var?_cell hg hvar i, f0, str_of x0.1.symm]
    · cases h
  intro a v h
  obtain ⟨b, off, sp⟩ := a
  unfold gkk at h
  split at h
  · rename_i u hu
    cases h
    exact hG.gok _ v hu
  · cases sp with
    | some x => cases h
    | none =>
      have h : (match Nat.beq b 0 with | true => atK off | false => none) = some v := h
      split at h
      · rename_i hb
        obtain rfl := Nat.eq_of_beq_eq_true hb
        have := key off v h
        exact ⟨cell_in this, this⟩
      · cases h
theorem slK_ok (k : Int) (s : ByteArray) : letI := sgK k s; LOk slK := by
  intro i r h
  match i, h with
  | 0, h => cases h; exact ⟨s, rfl, fun _ => rfl⟩
theorem eqsF_ok (k : Int) (s : ByteArray) (m : Nat) : letI := sgK k s; ∀ (l : List (List UInt8)) (j : Nat), (∀ i x, l[i]? = some x → (x == s.data.toList) = Nat.beq (j + i) m) → BAllOk (eqsF l j m)
  | [], _, _ => trivial
  | x :: l, j, h => by
    letI := sgK k s
    exact ⟨bok_eqs (s := ⟨⟨x⟩⟩) (t := s) (fun _ => rfl) (fun _ => rfl) (h 0 x rfl), eqsF_ok k s m l (j + 1) fun i y hy => by rw [h (i + 1) y (by simpa using hy)]; congr 1; omega⟩
theorem idx_ok (t : List UInt8) : ∃ m, m < 9 ∧ ∀ i x, nmK[i]? = some x → (x == t) = Nat.beq (0 + i) m := by
  by_cases h : ∃ j : Nat, nmK[j]? = some t
  · obtain ⟨j, hj⟩ := h
    have hj8 : j < 8 := (List.getElem?_eq_some_iff.1 hj).1
    refine ⟨j, by omega, fun i x hx => ?_⟩
    have hi8 : i < 8 := (List.getElem?_eq_some_iff.1 hx).1
    have key : ∀ i j : Fin 8, (nmK[i]? == nmK[j]?) = Nat.beq i.val j.val := by decide
    have := key ⟨i, hi8⟩ ⟨j, hj8⟩
    simp only [Fin.getElem?_fin, hx, hj] at this
    rw [Nat.zero_add, ← this]
    rfl
  · refine ⟨8, by omega, fun i x hx => ?_⟩
    have hi8 : i < 8 := (List.getElem?_eq_some_iff.1 hx).1
    have h1 : (x == t) = false := by
      rw [beq_eq_false_iff_ne]
      rintro rfl
      exact h ⟨i, hx⟩
    have h2 : Nat.beq (0 + i) 8 = false := by
      rw [Nat.zero_add]
      cases hb : Nat.beq i 8 with
      | false => rfl
      | true => have := Nat.eq_of_beq_eq_true hb; omega
    rw [h1, h2]
theorem isT_eq {v : Option Value} (h : isT v = true) : v = some (.bool true) := by
  unfold isT at h
  split at h
  · rw [h]
  · cases h
theorem wrap_ok {k : Int} (w0 : (Lit.int .i64 k).wf = true) : IntKind.i64.wrap k = k := by
  simp only [Lit.wf, Bool.and_eq_true, decide_eq_true_eq] at w0
  have h1 : -9223372036854775808 ≤ k := w0.1
  have h2 : k ≤ 9223372036854775807 := w0.2
  exact wi64 k h1 h2
theorem walk (k : Int) (s : ByteArray) (w0 : (Lit.int .i64 k).wf = true) (w1 : s.size ≤ maxLen) (w : World) (hT : GW w ∧ GOk w w.heap.size gkk) :
    Calls Tryz.prog 6 #[.int .i64 k, .string s] w fun e w' => e = .returned (.bool true) ∧ Below w.heap.size w w' := by
  letI := sgK k s
  obtain ⟨hG, hK⟩ := hT
  have hC : FOk Tryz.prog (factC 3 23 (.sym 2)) := factC_ok (z := k) Tryz.underlying3 Tryz.underlying23 (fun _ => rfl) (wrap_ok w0)
  have hS : SOk Tryz.prog w w.heap.size { O9 with sym := fun _ _ => none } := fun f args r hk => by cases hk
  have run : ∀ bs ka, BAllOk bs → (∀ ρ : Rho, At.den ρ ka = some (.int .i64 k)) → runK bs ka = some (.bool true) → Calls Tryz.prog 6 #[.int .i64 k, .string s] w fun e w' => e = .returned (.bool true) ∧ Below w.heap.size w w' :=
    fun bs ka hb hk h => sym_lawG (vals := [.int .i64 k, .string s]) (factOr_ok (factB_ok (P := Tryz.prog) hb) hC) (slK_ok k s) hG hK hS (by
      simp only [dens1, V1.den, hk]; rfl) h
  have g1 : ∀ v, decide ((s.size : Int) > 100) = v → BOk (.gtr, .sym 1, .lit (.int .i64 100), .lit (.bool v)) := fun v h => bok_gtr (a := (s.size : Int)) (c := 100) (k := .i64) (fun _ => rfl) (fun _ => rfl) h
  have c1 : ∀ v, decide (k < 0) = v → BOk (.lss, .sym 2, .lit (.int .i64 0), .lit (.bool v)) := fun v h => bok_lss (a := k) (c := 0) (k := .i64) (fun _ => rfl) (fun _ => rfl) h
  have c2 : ∀ v, decide (k > 7) = v → BOk (.gtr, .sym 2, .lit (.int .i64 7), .lit (.bool v)) := fun v h => bok_gtr (a := k) (c := 7) (k := .i64) (fun _ => rfl) (fun _ => rfl) h
  have c3 : ∀ v, decide (k ≥ 8) = v → BOk (.geq, .sym 2, .lit (.int .i64 8), .lit (.bool v)) := fun v h => bok_geq (a := k) (c := 8) (k := .i64) (fun _ => rfl) (fun _ => rfl) h
  by_cases hs : s.size ≤ 100
  · have b1 := g1 false (by rw [decide_eq_false_iff_not]; omega)
    obtain ⟨m, hm, hx⟩ := idx_ok s.data.toList
    have hE := eqsF_ok k s m nmK 0 hx
    by_cases h0 : k < 0
    · refine run _ _ ?_ (fun _ => rfl) (isT_eq (all_at runK_lo hm))
      exact ⟨b1, c1 true (by rw [decide_eq_true_iff]; exact h0), hE⟩
    · have b2 := c1 false (by rw [decide_eq_false_iff_not]; exact h0)
      by_cases h7 : 7 < k
      · refine run _ _ ?_ (fun _ => rfl) (isT_eq (all_at runK_hi hm))
        exact ⟨b1, b2, c2 true (by rw [decide_eq_true_iff]; exact h7), c3 true (by rw [decide_eq_true_iff]; omega), hE⟩
      · obtain ⟨n, rfl⟩ : ∃ n : Nat, k = .ofNat n := ⟨k.toNat, (Int.toNat_of_nonneg (by omega)).symm⟩
        have hn : n < 8 := by have : (Int.ofNat n) = (n : Int) := rfl; omega
        refine run _ _ ?_ (fun _ => rfl) (isT_eq (all_at (all_at runK_in hm) hn))
        exact ⟨b1, hE⟩
  · refine run _ _ ?_ (fun _ => rfl) (runK_dark 0)
    exact ⟨g1 true (by rw [decide_eq_true_iff]; omega), trivial⟩
end Go.Proofs.YtankkegoeocobaaGreatDoor.reportNames
