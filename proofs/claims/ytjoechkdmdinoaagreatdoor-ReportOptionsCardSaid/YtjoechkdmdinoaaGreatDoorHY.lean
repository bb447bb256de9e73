/- A number's digits: strconv.Itoa. -/
import Derived.Test.YtjoechkdmdinoaaGreatDoorHX
import Derived.Test.YtjoechkdmdinoaaGreatDoorHV
import Derived.Test.YtjoechkdmdinoaaGreatDoorRows
import Derived.Lib.AppendIntMem
import Derived.Test.YtjoechkdmdinoaaGreatDoorMFr
namespace Go.Proofs.YtjoechkdmdinoaaGreatDoor
open Go Go.Rf Go.RowKit Go.Shelf Go.Lib Go.ChangeShapes Go.WideShapes Go.ChangeAt
set_option linter.unusedVariables false
set_option linter.unusedSimpArgs false
abbrev PT (w : World) : Prop := TabIs Tryz.prog w "internal/strconv.uint64pow10" .u64 pow10Tab
theorem pt_bel {w w' : World} (h : PT w) (hb : Below w.heap.size w w') : PT w' := by
  unfold PT TabIs World.var? at h ⊢
  rw [show Tryz.prog.globalNamed "internal/strconv.uint64pow10" = some 3 by kernel_rfl] at h ⊢
  simp only [Option.bind_some] at h ⊢
  cases hh : w.heap[3]? with
  | none => rw [hh] at h; cases h
  | some o =>
    have hlt := (Array.getElem?_eq_some_iff.1 hh).1
    rw [hb.block _ hlt]
    exact h
theorem pow_eq : (Rows.laid_internal_strconv_uint64pow10 : DataW Unit) = tabData .u64 pow10Tab := by kernel_rfl
theorem pt_of {W : World} (r : VarReads Tryz.prog W "internal/strconv.uint64pow10" Rows.laid_internal_strconv_uint64pow10) : PT W := by
  rw [pow_eq] at r
  obtain ⟨g, t, cs, fuel, p, hg, hty, hvar, hd⟩ := r
  obtain rfl := Option.some.inj ((show Tryz.prog.globalNamed "internal/strconv.uint64pow10" = some 3 by kernel_rfl).symm.trans hg)
  obtain rfl := Option.some.inj ((show (Tryz.prog.globals[3]?).map (·.type) = some 363 by kernel_rfl).symm.trans hty)
  have hcs := cells_of_tab Tryz.underlying363 Tryz.underlying92 (by kernel_rfl) (by kernel_rfl) hd
  unfold PT TabIs
  rw [hvar, ← hcs]
theorem len_le : ∀ k u : Nat, u < 10 ^ (k + 1) → nDigits u ≤ k + 1
  | 0, u, h => by rw [nDigits_small (by simpa using h)]; exact Nat.le_refl _
  | k + 1, u, h => by
    by_cases h10 : u < 10
    · rw [nDigits_small h10]; omega
    · rw [nDigits_big h10]
      have := len_le k (u / 10) (by rw [Nat.pow_succ] at h; omega)
      omega
theorem digits_size (n : Nat) (hn : n ≤ 9223372036854775807) : (⟨(decDigits n).toArray⟩ : ByteArray).size ≤ 1000 := by
  have h1 : (⟨(decDigits n).toArray⟩ : ByteArray).size = (decDigits n).length := by simp [ByteArray.size]
  have h2 := len_le 19 n (by have : (10 : Nat) ^ 20 = 100000000000000000000 := by decide
                             omega)
  rw [h1, decDigits_length]
  omega
theorem itoa_any (n : Nat) (hn : n ≤ 9223372036854775807) (w : World) (hP : PT w) : Calls Tryz.prog 62 #[.int .i64 (n : Int)] w fun e w' => e = .returned (.string ⟨(decDigits n).toArray⟩) ∧ Below w.heap.size w w' :=
  (Tryz.strconv_Itoa n (by omega) (by omega) w hP).mono fun e w' ⟨h1, k, os, h2⟩ => ⟨by rw [h1, show itoa (n : Int) = decDigits n from if_neg (by omega)], by rw [h2]; exact below_grow _ w (Nat.le_refl _) k os⟩
end Go.Proofs.YtjoechkdmdinoaaGreatDoor
namespace Go.Proofs.YtjoechkdmdinoaaGreatDoor
open Go.ChangeShapes Go.WideShapes Go.ChangeAt Go.RowKit
set_option linter.unusedVariables false
set_option linter.unusedSimpArgs false
set_option maxRecDepth 100000 in
/-- options among a law's arguments. -/
theorem open_opts2 {H : Type} {enc : TypeId × Value → H} {w : World} {r : Reach} {b0 : Nat} {v : Value} {d : DataW H} {ps : List MemPlace}
    (hval : Value.okWide Tryz.prog w r b0 47 v) (hd : DataW.Trod enc Tryz.prog w 0 (fun _ => true) true 47 v d ps) :
    ∃ (kd fb bu : Int) (g : Bool), v = .agg #[.int .i64 kd, .int .i64 fb, .bool g, .int .i64 bu] ∧ (Lit.int .i64 kd).wf = true ∧ (Lit.int .i64 fb).wf = true ∧ (Lit.int .i64 bu).wf = true := by
  obtain ⟨cs, rfl, hsz⟩ := okWide_struct Tryz.underlying47 hval
  rw [show Tryz.prog.cellsOf 47 = 4 by kernel_rfl] at hsz
  obtain ⟨fuel, hf⟩ := hd
  obtain ⟨xs, n, _, _, hlen, hx, hf⟩ := DataW.trod_struct Tryz.underlying47 hf
  have h0 := hf 0 _ rfl
  have h1 := hf 1 _ rfl
  have h2 := hf 2 _ rfl
  have h3 := hf 3 _ rfl
  simp only [List.getElem_toArray, List.getElem_cons_zero, List.getElem_cons_succ] at h0 h1 h2 h3
  rw [show Tryz.prog.cellsOf 23 = 1 by kernel_rfl] at h0
  rw [show Tryz.prog.cellsOf 45 = 1 by kernel_rfl] at h1
  rw [show Tryz.prog.cellsOf 4 = 1 by kernel_rfl] at h2
  rw [show Tryz.prog.cellsOf 3 = 1 by kernel_rfl] at h3
  obtain ⟨l⟩ := cs
  match l, hsz with
  | [a, b, c, e], _ =>
    match xs, hx with
    | [y, z, u, t], _ =>
      simp [Value.cells] at h0 h1 h2 h3
      obtain ⟨k0, e0, _, f0⟩ := DataW.trod_int Tryz.underlying23 h0
      obtain ⟨k1, e1, _, f1⟩ := DataW.trod_int Tryz.underlying45 h1
      obtain ⟨k2, e2, _⟩ := DataW.trod_bool Tryz.underlying4 h2
      obtain ⟨k3, e3, _, f3⟩ := DataW.trod_int Tryz.underlying3 h3
      simp at e0 e1 e2 e3
      exact ⟨k0, k1, k3, k2, by rw [e0, e1, e2, e3], f0, f1, f3⟩
set_option maxRecDepth 100000 in
/-- a leaf among a law's arguments. -/
theorem open_leaf {H : Type} {enc : TypeId × Value → H} {w : World} {r : Reach} {b0 : Nat} {v : Value} {d : DataW H} {ps : List MemPlace}
    (hval : Value.okWide Tryz.prog w r b0 37 v) (hd : DataW.Trod enc Tryz.prog w 0 (fun _ => true) true 37 v d ps) :
    ∃ (nm tx : ByteArray) (g : Bool), v = .agg #[.string nm, .bool g, .string tx] := by
  obtain ⟨cs, rfl, hsz⟩ := okWide_struct Tryz.underlying37 hval
  rw [show Tryz.prog.cellsOf 37 = 3 by kernel_rfl] at hsz
  obtain ⟨fuel, hf⟩ := hd
  obtain ⟨xs, n, _, _, hlen, hx, hf⟩ := DataW.trod_struct Tryz.underlying37 hf
  have h0 := hf 0 _ rfl
  have h1 := hf 1 _ rfl
  have h2 := hf 2 _ rfl
  simp only [List.getElem_toArray, List.getElem_cons_zero, List.getElem_cons_succ] at h0 h1 h2
  rw [show Tryz.prog.cellsOf 9 = 1 by kernel_rfl] at h0 h2
  rw [show Tryz.prog.cellsOf 4 = 1 by kernel_rfl] at h1
  obtain ⟨l⟩ := cs
  match l, hsz with
  | [a, b, c], _ =>
    match xs, hx with
    | [y, z, u], _ =>
      simp [Value.cells] at h0 h1 h2
      obtain ⟨k0, e0, _⟩ := DataW.trod_string Tryz.underlying9 h0
      obtain ⟨k1, e1, _⟩ := DataW.trod_bool Tryz.underlying4 h1
      obtain ⟨k2, e2, _⟩ := DataW.trod_string Tryz.underlying9 h2
      simp at e0 e1 e2
      exact ⟨k0, k2, k1, by rw [e0, e1, e2]⟩
end Go.Proofs.YtjoechkdmdinoaaGreatDoor
