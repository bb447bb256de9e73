/- The kinds' names, as they lie. -/
import Derived.Test.YtjoechkdmdinoaaGreatDoorHV
import Derived.Test.YtjoechkdmdinoaaGreatDoorRows
import Derived.Test.YtjoechkdmdinoaaGreatDoorHY
import Derived.ChangeMaps5
import Derived.Test.YtjoechkdmdinoaaGreatDoorKReportOptions
import Derived.Test.YtjoechkdmdinoaaGreatDoorKy
import Derived.Test.YtjoechkdmdinoaaGreatDoorKt
namespace Go.Proofs.YtjoechkdmdinoaaGreatDoor
open Go Go.Rf Go.RowKit Go.Shelf Go.Lib Go.ChangeShapes Go.WideShapes Go.ChangeAt
set_option linter.unusedVariables false
set_option linter.unusedSimpArgs false
def nmK : List (List UInt8) := [[97, 117, 116, 111], [105, 100, 51], [111, 103, 103], [102, 108, 97, 99], [99, 117, 101], [115, 114, 116], [115, 115, 97], [108, 114, 99]]
def atK (off : Nat) : Option Value := match nmK[off]? with | some l => some (.string ⟨⟨l⟩⟩) | none => none
noncomputable def gkk (a : Addr) : Option Value := match gk a with
  | some v => some v
  | none => match a with
    | ⟨b, off, none⟩ => (match Nat.beq b 1 with | true => atK off | false => none)
    | _ => none
theorem kinds_eq : (Rows.laid_diacritic_report_kinds : DataW Unit) = .agg (nmK.map fun l => .lit (.string l)) := rfl
theorem gkk_ok {W : World} (hG : GW W) (r : VarReads Tryz.prog W "diacritic/report.kinds" Rows.laid_diacritic_report_kinds) : GOk W W.heap.size gkk := by
  rw [kinds_eq] at r
  obtain ⟨g, t, cs, fuel, p, hg, hty, hvar, hd⟩ := r
  obtain rfl := Option.some.inj ((show Tryz.prog.globalNamed "diacritic/report.kinds" = some 1 by kernel_rfl).symm.trans hg)
  obtain rfl := Option.some.inj ((show (Tryz.prog.globals[1]?).map (·.type) = some 142 by kernel_rfl).symm.trans hty)
  have key : ∀ i v, atK i = some v → W.cell? ⟨1, i, none⟩ = some v := by
    intro i v h
    unfold atK at h
    split at h
    · rename_i l hl
      cases h
      have hi : i < 8 := (List.getElem?_eq_some_iff.1 hl).1
      obtain ⟨fuel', d, q, hdi, he⟩ := array_elem Tryz.underlying142 hd i hi
      rw [List.getElem?_map, hl] at hdi
      cases hdi
      rw [show Tryz.prog.cellsOf 9 = 1 by kernel_rfl] at he
      obtain ⟨s, c0, x0, _⟩ := DataW.trod_string Tryz.underlying9 he
      simp only [Prod.mk.injEq, DataW.lit.injEq, Lit.string.injEq] at x0
      have f0 := congrArg (·[0]?) c0
      simp only [List.getElem?_take, List.getElem?_drop] at f0
      simp at f0
      rw [World.var?_cell hg hvar i, f0, str_of x0.1.symm]
    · cases h
  intro a v h
  obtain ⟨b, off, sp⟩ := a
  unfold gkk at h
  split at h
  · rename_i u hu
    cases h
    exact hG.gok _ v hu
  · cases sp with
    | some x => cases h
    | none =>
      have h : (match Nat.beq b 1 with | true => atK off | false => none) = some v := h
      split at h
      · rename_i hb
        obtain rfl := Nat.eq_of_beq_eq_true hb
        have := key off v h
        exact ⟨cell_in this, this⟩
      · cases h
end Go.Proofs.YtjoechkdmdinoaaGreatDoor
namespace Go.Proofs.YtjoechkdmdinoaaGreatDoor.reportOptions
open Go Go.Rf Go.RowKit Go.Shelf Go.Lib
set_option linter.unusedVariables false
set_option linter.unusedSimpArgs false
def isS (l : List UInt8) : Option V2 → Bool
  | some (.o (.a (.lit (.string b)))) => eqB b.data.toList l
  | _ => false
theorem isS_eq {l : List UInt8} {v : Option V2} (h : isS l v = true) : v = some (one1 (lS l)) := by
  unfold isS at h
  split at h
  · rename_i b
    rw [eqB_eq, beq_iff_eq] at h
    rw [str_of h]
  · cases h
def noneL : List UInt8 := [110, 111, 110, 101]
def nmOf (l : List (List UInt8)) (k : Nat) : List UInt8 := match l[k]? with | some l => l | none => noneL
def nmZ (l : List (List UInt8)) (k : Int) : List UInt8 := if 0 ≤ k ∧ k < l.length then nmOf l k.toNat else noneL
/-- the charsets' names. -/
def nmC : List (List UInt8) := [[108, 97, 116, 105, 110, 49], [107, 111, 105, 56, 45, 114], [107, 111, 105, 56, 45, 117], [99, 112, 56, 54, 54], [99, 112, 57, 52, 57], [106, 111, 104, 97, 98], [98, 105, 103, 53, 45, 104, 107, 115, 99, 115], [117, 116, 102, 45, 56], [117, 116, 102, 45, 49, 54, 108, 101], [117, 116, 102, 45, 49, 54, 98, 101]]
def tHi (n m : Nat) : Told := { b := [(.lss, .sym 0, lI 0, lB false), (.geq, .sym 0, lI 0, lB true), (.geq, .sym 0, lI m, lB true), (.gtr, .sym 0, lI n, lB true), (.leq, .sym 0, lI n, lB false)], v := [(23, 3, .sym 0, .sym 0)] }
def tLo (n : Nat) : Told := { b := [(.lss, .sym 0, lI 0, lB true), (.geq, .sym 0, lI 0, lB false), (.leq, .sym 0, lI n, lB true)], v := [(23, 3, .sym 0, .sym 0)] }
def eqN : Nat → List BinF
  | 0 => []
  | n + 1 => (.eql, .sym 0, lI n, lB false) :: eqN n
theorem pk_in : ((List.range 8).all fun k => isS (nmOf nmK k) (symEvG gkk {} 60 [.a (lI k)])) = true := by kernel_rfl
theorem pk_lo : isS noneL (symEvG gkk (tLo 7) 60 [.a (.sym 0)]) = true := by kernel_rfl
theorem pk_hi : isS noneL (symEvG gkk (tHi 7 8) 60 [.a (.sym 0)]) = true := by kernel_rfl
theorem rk_in : ((List.range 8).all fun k => isS (nmOf nmK k) (symEv {} 28 [.a (lI k)])) = true := by kernel_rfl
theorem rk_lo : isS noneL (symEv (tLo 7) 28 [.a (.sym 0)]) = true := by kernel_rfl
theorem rk_hi : isS noneL (symEv (tHi 7 8) 28 [.a (.sym 0)]) = true := by kernel_rfl
theorem pc_in : ((List.range 10).all fun k => isS (nmOf nmC k) (symEv {} 61 [.a (lI k)])) = true := by kernel_rfl
theorem pc_lo : isS noneL (symEv (tLo 9) 61 [.a (.sym 0)]) = true := by kernel_rfl
theorem pc_hi : isS noneL (symEv (tHi 9 10) 61 [.a (.sym 0)]) = true := by kernel_rfl
theorem rc_in : ((List.range 10).all fun k => isS (nmOf nmC k) (symEv {} 29 [.a (lI k)])) = true := by kernel_rfl
theorem rc_out : isS noneL (symEv { b := eqN 10 } 29 [.a (.sym 0)]) = true := by kernel_rfl
section
variable {k : Int} {w : World}
theorem tLo_ok (n : Nat) (h : k < 0) (hw : IntKind.i64.wrap k = k) : letI := sgL [.int .i64 k] ⟨okS_int _ _, trivial⟩; ToldOk w (tLo n) :=
  letI := sgL [.int .i64 k] ⟨okS_int _ _, trivial⟩
  ⟨⟨bok_lss (a := k) (c := 0) (k := .i64) (fun _ => rfl) (fun _ => rfl) (by simpa using h), bok_geq (a := k) (c := 0) (k := .i64) (fun _ => rfl) (fun _ => rfl) (by simpa using h), bok_leq (a := k) (c := n) (k := .i64) (fun _ => rfl) (fun _ => rfl) (by simp; omega), trivial⟩, trivial, trivial, trivial, trivial, trivial,
    ⟨cv_int (z := k) Tryz.underlying23 Tryz.underlying3 (fun _ => rfl) hw, trivial⟩⟩
theorem tHi_ok (n m : Nat) (h : (n : Int) < k) (hm : (m : Int) ≤ k) (hw : IntKind.i64.wrap k = k) : letI := sgL [.int .i64 k] ⟨okS_int _ _, trivial⟩; ToldOk w (tHi n m) :=
  letI := sgL [.int .i64 k] ⟨okS_int _ _, trivial⟩
  ⟨⟨bok_lss (a := k) (c := 0) (k := .i64) (fun _ => rfl) (fun _ => rfl) (by simp; omega), bok_geq (a := k) (c := 0) (k := .i64) (fun _ => rfl) (fun _ => rfl) (by simp; omega), bok_geq (a := k) (c := m) (k := .i64) (fun _ => rfl) (fun _ => rfl) (by simp; omega), bok_gtr (a := k) (c := n) (k := .i64) (fun _ => rfl) (fun _ => rfl) (by simp; omega), bok_leq (a := k) (c := n) (k := .i64) (fun _ => rfl) (fun _ => rfl) (by simp; omega), trivial⟩, trivial, trivial, trivial, trivial, trivial,
    ⟨cv_int (z := k) Tryz.underlying23 Tryz.underlying3 (fun _ => rfl) hw, trivial⟩⟩
theorem empty_ok [Sym] : ToldOk w {} := ⟨trivial, trivial, trivial, trivial, trivial, trivial, trivial⟩
theorem eqN_ok : letI := sgL [.int .i64 k] ⟨okS_int _ _, trivial⟩; ∀ n : Nat, (∀ m : Nat, m < n → k ≠ m) → BAllOk (eqN n)
  | 0, _ => trivial
  | n + 1, h =>
    letI := sgL [.int .i64 k] ⟨okS_int _ _, trivial⟩
    ⟨bok_eql (a := k) (c := n) (k := .i64) (fun _ => rfl) (fun _ => rfl) (by rw [beq_eq_false_iff_ne]; exact h n (by omega)), eqN_ok n fun m hm => h m (by omega)⟩
/-- a name by a number: inside, and outside. -/
theorem name_by {G : Addr → Option Value} {f : FuncId} {l : List (List UInt8)} {T1 T2 : Told} (hG : GW w) (hGk : GOk w w.heap.size G)
    (hi : ((List.range l.length).all fun k => isS (nmOf l k) (symEvG G {} f [.a (lI k)])) = true) (lo : isS noneL (symEvG G T1 f [.a (.sym 0)]) = true) (hh : isS noneL (symEvG G T2 f [.a (.sym 0)]) = true)
    (t1 : k < 0 → letI := sgL [.int .i64 k] ⟨okS_int _ _, trivial⟩; ToldOk w T1) (t2 : ¬ k < 0 → ¬ k < l.length → letI := sgL [.int .i64 k] ⟨okS_int _ _, trivial⟩; ToldOk w T2) :
    Calls Tryz.prog f #[.int .i64 k] w fun e w' => e = .returned (.string ⟨⟨nmZ l k⟩⟩) ∧ Below w.heap.size w w' := by
  letI := sgL [.int .i64 k] ⟨okS_int _ _, trivial⟩
  by_cases h0 : k < 0
  · rw [show nmZ l k = noneL from if_neg (by omega)]
    exact sym_toG (vals := [.int .i64 k]) hG hGk (t1 h0) rfl (isS_eq lo) (fun _ => rfl)
  · by_cases h1 : k < l.length
    · obtain ⟨n, rfl⟩ : ∃ n : Nat, k = .ofNat n := ⟨k.toNat, (Int.toNat_of_nonneg (by omega)).symm⟩
      have hn : n < l.length := by have : (Int.ofNat n) = (n : Int) := rfl; omega
      rw [show nmZ l (.ofNat n) = nmOf l n from if_pos ⟨by omega, h1⟩]
      exact sym_toG (vals := [.int .i64 (.ofNat n)]) hG hGk empty_ok rfl (isS_eq (all_at hi hn)) (fun _ => rfl)
    · rw [show nmZ l k = noneL from if_neg (by omega)]
      exact sym_toG (vals := [.int .i64 k]) hG hGk (t2 h0 h1) rfl (isS_eq hh) (fun _ => rfl)
end
theorem nm_size {l : List (List UInt8)} (h : ∀ x ∈ l, x.length ≤ 100) (k : Int) : (nmZ l k).length ≤ 100 := by
  unfold nmZ
  split
  · unfold nmOf
    split
    · rename_i x hx
      exact h x (List.mem_of_getElem? hx)
    · decide
  · decide
def onL (g : Bool) : List UInt8 := match g with | true => [111, 110] | false => [111, 102, 102]
/- signs: 0 kind, 1 fallback, 2 budget, 3 the kind's name, 4 the charset's, 5 the budget's digits, 6 the line, 7 to 12 its beginnings -/
def t0 : Told := { b := [(.lss, .sym 2, lI 0, lB true)] }
def kdL : List UInt8 := [107, 105, 110, 100, 32]
def fbL : List UInt8 := [32, 102, 97, 108, 108, 98, 97, 99, 107, 32]
def dtL : List UInt8 := [32, 100, 101, 116, 101, 99, 116, 32]
def buL : List UInt8 := [32, 98, 117, 100, 103, 101, 116, 32]
def t1 (g : Bool) : Told :=
  { b := [(.lss, .sym 2, lI 0, lB false), (.add, lS kdL, .sym 3, .sym 7), (.add, .sym 7, lS fbL, .sym 8), (.add, .sym 8, .sym 4, .sym 9), (.add, .sym 9, lS dtL, .sym 10), (.add, .sym 10, lS (onL g), .sym 11), (.add, .sym 11, lS buL, .sym 12), (.add, .sym 12, .sym 5, .sym 6), (.eql, .sym 6, .sym 6, lB true)]
    v := [(23, 3, .sym 0, .sym 0), (45, 3, .sym 1, .sym 1)]
    c := [(60, [.a (.sym 0)], one1 (.sym 3)), (28, [.a (.sym 0)], one1 (.sym 3)), (61, [.a (.sym 1)], one1 (.sym 4)), (29, [.a (.sym 1)], one1 (.sym 4)), (62, [.a (.sym 2)], one1 (.sym 5)), (30, [.a (.sym 2)], one1 (.sym 5))]
    w := [(55, [lS kdL, .sym 3, lS fbL, .sym 4, lS dtL, lS (onL g), lS buL, .sym 5], one1 (.sym 6))] }
theorem run0t : symEv t0 8 [.g [.sym 0, .sym 1, lB true, .sym 2]] = some (one1 (lB true)) := by kernel_rfl
theorem run0f : symEv t0 8 [.g [.sym 0, .sym 1, lB false, .sym 2]] = some (one1 (lB true)) := by kernel_rfl
theorem run1t : symEv (t1 true) 8 [.g [.sym 0, .sym 1, lB true, .sym 2]] = some (one1 (lB true)) := by kernel_rfl
theorem run1f : symEv (t1 false) 8 [.g [.sym 0, .sym 1, lB false, .sym 2]] = some (one1 (lB true)) := by kernel_rfl
theorem wf_wrap {k : Int} (w0 : (Lit.int .i64 k).wf = true) : IntKind.i64.wrap k = k := by
  simp only [Lit.wf, Bool.and_eq_true, decide_eq_true_eq] at w0
  have h1 : -9223372036854775808 ≤ k := w0.1
  have h2 : k ≤ 9223372036854775807 := w0.2
  exact wi64 k h1 h2
theorem walk (kd fb bu : Int) (g : Bool) (w0 : (Lit.int .i64 kd).wf = true) (w1 : (Lit.int .i64 fb).wf = true) (w2 : (Lit.int .i64 bu).wf = true) (w : World) (hT : GW w ∧ GOk w w.heap.size gkk ∧ PT w) :
    Calls Tryz.prog 8 #[.agg #[.int .i64 kd, .int .i64 fb, .bool g, .int .i64 bu]] w fun e w' => e = .returned (.bool true) ∧ Below w.heap.size w w' := by
  obtain ⟨hG, hK, hP⟩ := hT
  have hw0 := wf_wrap w0
  have hw1 := wf_wrap w1
  by_cases hb : bu < 0
  · letI := sgL [.int .i64 kd, .int .i64 fb, .int .i64 bu] ⟨okS_int _ _, okS_int _ _, okS_int _ _, trivial⟩
    have hT0 : ToldOk w t0 := ⟨⟨bok_lss (a := bu) (c := 0) (k := .i64) (fun _ => rfl) (fun _ => rfl) (by simpa using hb), trivial⟩, trivial, trivial, trivial, trivial, trivial, trivial⟩
    cases g with
    | true => exact sym_to (vals := [.agg #[.int .i64 kd, .int .i64 fb, .bool true, .int .i64 bu]]) hG hT0 rfl run0t (fun _ => rfl)
    | false => exact sym_to (vals := [.agg #[.int .i64 kd, .int .i64 fb, .bool false, .int .i64 bu]]) hG hT0 rfl run0f (fun _ => rfl)
  · obtain ⟨n, rfl⟩ : ∃ n : Nat, bu = (n : Int) := ⟨bu.toNat, (Int.toNat_of_nonneg (by omega)).symm⟩
    have hn : n ≤ 9223372036854775807 := by
      simp only [Lit.wf, Bool.and_eq_true, decide_eq_true_eq] at w2
      have h2 : (n : Int) ≤ 9223372036854775807 := w2.2
      omega
    have k1 : ∀ w', Below w.heap.size w w' → Calls Tryz.prog 60 #[.int .i64 kd] w' fun e w'' => e = .returned (.string ⟨⟨nmZ nmK kd⟩⟩) ∧ Below w'.heap.size w' w'' := fun w' hb =>
      name_by (hG.bel hb) (GOk.later hK hb hb.size) pk_in pk_lo pk_hi (fun h => tLo_ok 7 h hw0) (fun h1 h2 => tHi_ok 7 8 (by have : nmK.length = 8 := rfl; omega) (by have : nmK.length = 8 := rfl; omega) hw0)
    have k2 : ∀ w', Below w.heap.size w w' → Calls Tryz.prog 28 #[.int .i64 kd] w' fun e w'' => e = .returned (.string ⟨⟨nmZ nmK kd⟩⟩) ∧ Below w'.heap.size w' w'' := fun w' hb =>
      name_by (hG.bel hb) (hG.bel hb).gok rk_in rk_lo rk_hi (fun h => tLo_ok 7 h hw0) (fun h1 h2 => tHi_ok 7 8 (by have : nmK.length = 8 := rfl; omega) (by have : nmK.length = 8 := rfl; omega) hw0)
    have k3 : ∀ w', Below w.heap.size w w' → Calls Tryz.prog 61 #[.int .i64 fb] w' fun e w'' => e = .returned (.string ⟨⟨nmZ nmC fb⟩⟩) ∧ Below w'.heap.size w' w'' := fun w' hb =>
      name_by (hG.bel hb) (hG.bel hb).gok pc_in pc_lo pc_hi (fun h => tLo_ok 9 h hw1) (fun h1 h2 => tHi_ok 9 10 (by have : nmC.length = 10 := rfl; omega) (by have : nmC.length = 10 := rfl; omega) hw1)
    have k4 : ∀ w', Below w.heap.size w w' → Calls Tryz.prog 29 #[.int .i64 fb] w' fun e w'' => e = .returned (.string ⟨⟨nmZ nmC fb⟩⟩) ∧ Below w'.heap.size w' w'' := fun w' hb =>
      name_by (hG.bel hb) (hG.bel hb).gok rc_in rc_out rc_out (fun h => letI := sgL [.int .i64 fb] ⟨okS_int _ _, trivial⟩; ⟨eqN_ok 10 fun m hm => by omega, trivial, trivial, trivial, trivial, trivial, trivial⟩)
        (fun h1 h2 => letI := sgL [.int .i64 fb] ⟨okS_int _ _, trivial⟩; ⟨eqN_ok 10 fun m hm => by have : nmC.length = 10 := rfl; omega, trivial, trivial, trivial, trivial, trivial, trivial⟩)
    obtain ⟨D, hD⟩ : ∃ D : ByteArray, D = ⟨(decDigits n).toArray⟩ := ⟨_, rfl⟩
    have hDs : D.size ≤ 1000 := by rw [hD]; exact digits_size n hn
    have k5 : ∀ w', Below w.heap.size w w' → Calls Tryz.prog 62 #[.int .i64 (n : Int)] w' fun e w'' => e = .returned (.string D) ∧ Below w'.heap.size w' w'' := fun w' hb => by rw [hD]; exact itoa_any n hn w' (pt_bel hP hb)
    have k6 : ∀ w', Calls Tryz.prog 30 #[.int .i64 (n : Int)] w' fun e w'' => e = .returned (.string D) ∧ Below w'.heap.size w' w'' := fun w' => by rw [hD]; exact rdigits_any n w' hn
    have hKs := nm_size (l := nmK) (by decide) kd
    have hCs := nm_size (l := nmC) (by decide) fb
    obtain ⟨K, hKe⟩ : ∃ K : ByteArray, K = ⟨⟨nmZ nmK kd⟩⟩ := ⟨_, rfl⟩
    obtain ⟨C, hCe⟩ : ∃ C : ByteArray, C = ⟨⟨nmZ nmC fb⟩⟩ := ⟨_, rfl⟩
    have hKz : K.size ≤ 100 := by rw [hKe]; exact hKs
    have hCz : C.size ≤ 100 := by rw [hCe]; exact hCs
    rw [← hKe] at k1 k2
    rw [← hCe] at k3 k4
    clear hKs hCs hKe hCe
    have gz : (⟨⟨onL g⟩⟩ : ByteArray).size ≤ 3 := by cases g <;> decide
    obtain ⟨G, hGe⟩ : ∃ G : ByteArray, G = ⟨⟨onL g⟩⟩ := ⟨_, rfl⟩
    obtain ⟨S7, h7⟩ : ∃ S : ByteArray, S = ⟨⟨kdL⟩⟩ ++ K := ⟨_, rfl⟩
    obtain ⟨S8, h8⟩ : ∃ S : ByteArray, S = S7 ++ ⟨⟨fbL⟩⟩ := ⟨_, rfl⟩
    obtain ⟨S9, h9⟩ : ∃ S : ByteArray, S = S8 ++ C := ⟨_, rfl⟩
    obtain ⟨S10, h10⟩ : ∃ S : ByteArray, S = S9 ++ ⟨⟨dtL⟩⟩ := ⟨_, rfl⟩
    obtain ⟨S11, h11⟩ : ∃ S : ByteArray, S = S10 ++ ⟨⟨onL g⟩⟩ := ⟨_, rfl⟩
    obtain ⟨S12, h12⟩ : ∃ S : ByteArray, S = S11 ++ ⟨⟨buL⟩⟩ := ⟨_, rfl⟩
    obtain ⟨S6, h6⟩ : ∃ S : ByteArray, S = S12 ++ D := ⟨_, rfl⟩
    have z : ∀ a b : ByteArray, (a ++ b).size = a.size + b.size := fun a b => ByteArray.size_append
    have zk : (⟨⟨kdL⟩⟩ : ByteArray).size = 5 := rfl
    have zf : (⟨⟨fbL⟩⟩ : ByteArray).size = 10 := rfl
    have zd : (⟨⟨dtL⟩⟩ : ByteArray).size = 8 := rfl
    have zb : (⟨⟨buL⟩⟩ : ByteArray).size = 8 := rfl
    have z7 : S7.size = 5 + K.size := by rw [h7, z, zk]
    have z8 : S8.size = S7.size + 10 := by rw [h8, z, zf]
    have z9 : S9.size = S8.size + C.size := by rw [h9, z]
    have z10 : S10.size = S9.size + 8 := by rw [h10, z, zd]
    have z11 : S11.size = S10.size + (⟨⟨onL g⟩⟩ : ByteArray).size := by rw [h11, z]
    have z12 : S12.size = S11.size + 8 := by rw [h12, z, zb]
    have hflat : ([⟨⟨kdL⟩⟩, K, ⟨⟨fbL⟩⟩, C, ⟨⟨dtL⟩⟩, ⟨⟨onL g⟩⟩, ⟨⟨buL⟩⟩, D].map bl).flatten = bl S6 := by
      rw [h6, h12, h11, h10, h9, h8, h7]
      simp [bl, ByteArray.data_append]
    have hS6 : (⟨([⟨⟨kdL⟩⟩, K, ⟨⟨fbL⟩⟩, C, ⟨⟨dtL⟩⟩, ⟨⟨onL g⟩⟩, ⟨⟨buL⟩⟩, D].map bl).flatten.toArray⟩ : ByteArray) = S6 := by rw [hflat]
    letI := sgL [.int .i64 kd, .int .i64 fb, .int .i64 (n : Int), .string K, .string C, .string D, .string S6, .string S7, .string S8, .string S9, .string S10, .string S11, .string S12] ⟨okS_int _ _, okS_int _ _, okS_int _ _, okS_str _, okS_str _, okS_str _, okS_str _, okS_str _, okS_str _, okS_str _, okS_str _, okS_str _, okS_str _, trivial⟩
    have hTT : ToldOk w (t1 g) := ⟨⟨bok_lss (a := (n : Int)) (c := 0) (k := .i64) (fun _ => rfl) (fun _ => rfl) (by simp),
        bok_add (s := ⟨⟨kdL⟩⟩) (t := K) (fun _ => rfl) (fun _ => rfl) (fun _ => by rw [← h7]; rfl) (by omega),
        bok_add (s := S7) (t := ⟨⟨fbL⟩⟩) (fun _ => rfl) (fun _ => rfl) (fun _ => by rw [← h8]; rfl) (by omega),
        bok_add (s := S8) (t := C) (fun _ => rfl) (fun _ => rfl) (fun _ => by rw [← h9]; rfl) (by omega),
        bok_add (s := S9) (t := ⟨⟨dtL⟩⟩) (fun _ => rfl) (fun _ => rfl) (fun _ => by rw [← h10]; rfl) (by omega),
        bok_add (s := S10) (t := ⟨⟨onL g⟩⟩) (fun _ => rfl) (fun _ => rfl) (fun _ => by rw [← h11]; rfl) (by omega),
        bok_add (s := S11) (t := ⟨⟨buL⟩⟩) (fun _ => rfl) (fun _ => rfl) (fun _ => by rw [← h12]; rfl) (by omega),
        bok_add (s := S12) (t := D) (fun _ => rfl) (fun _ => rfl) (fun _ => by rw [← h6]; rfl) (by omega),
        bok_eqs (s := S6) (t := S6) (fun _ => rfl) (fun _ => rfl) (by simp), trivial⟩, trivial, trivial, trivial,
      ⟨⟨[.int .i64 kd], _, fun _ => rfl, fun _ => rfl, k1⟩, ⟨[.int .i64 kd], _, fun _ => rfl, fun _ => rfl, k2⟩, ⟨[.int .i64 fb], _, fun _ => rfl, fun _ => rfl, k3⟩, ⟨[.int .i64 fb], _, fun _ => rfl, fun _ => rfl, k4⟩, ⟨[.int .i64 (n : Int)], _, fun _ => rfl, fun _ => rfl, k5⟩, ⟨[.int .i64 (n : Int)], _, fun _ => rfl, fun _ => rfl, fun w' _ => k6 w'⟩, trivial⟩,
      ⟨wok_join [⟨⟨kdL⟩⟩, K, ⟨⟨fbL⟩⟩, C, ⟨⟨dtL⟩⟩, ⟨⟨onL g⟩⟩, ⟨⟨buL⟩⟩, D] (fun _ => rfl) (fun _ => by rw [hS6]; rfl) (by simp) (by rw [hflat, bl_length, h6, z]; omega), trivial⟩,
      ⟨cv_int (z := kd) Tryz.underlying23 Tryz.underlying3 (fun _ => rfl) hw0, cv_int (z := fb) Tryz.underlying45 Tryz.underlying3 (fun _ => rfl) hw1, trivial⟩⟩
    cases g with
    | true => exact sym_to (vals := [.agg #[.int .i64 kd, .int .i64 fb, .bool true, .int .i64 (n : Int)]]) hG hTT rfl run1t (fun _ => rfl)
    | false => exact sym_to (vals := [.agg #[.int .i64 kd, .int .i64 fb, .bool false, .int .i64 (n : Int)]]) hG hTT rfl run1f (fun _ => rfl)
end Go.Proofs.YtjoechkdmdinoaaGreatDoor.reportOptions
namespace Go.Proofs.YtjoechkdmdinoaaGreatDoor.reportOptions
open Go.ChangeShapes Go.WideShapes Go.ChangeAt Go.RowKit Go.Lib Go.ChangeMaps
set_option linter.unusedVariables false
set_option linter.unusedSimpArgs false
abbrev laidL : List (String × DataW Unit) := [("diacritic/sniff.starts", Rows.laid_diacritic_sniff_starts), ("unicode/utf8.first", Rows.laid_unicode_utf8_first), ("unicode/utf8.acceptRanges", Rows.laid_unicode_utf8_acceptRanges), ("math/bits.deBruijn32tab", Rows.laid_math_bits_deBruijn32tab), ("internal/strconv.uint64pow10", Rows.laid_internal_strconv_uint64pow10), ("math/bits.deBruijn64tab", Rows.laid_math_bits_deBruijn64tab), ("diacritic/report.kinds", Rows.laid_diacritic_report_kinds)]
theorem laidL_met (os : Os) (args : Array Value) : laidMetH Tryz.prog laidL ((World.laidAll Tryz.prog os laidL).forCall (fun _ _ => 0) ⟨#[], args, []⟩).memory := by
  rw [MakeChecks.laidMetH_plain _ _ _ (by kernel_rfl)]
  exact laidMet_laidAll _ (by kernel_rfl) (by kernel_rfl)
theorem laidL_shaped (os : Os) (args : Array Value) : ((World.laidAll Tryz.prog os laidL).forCall (fun _ _ => 0) ⟨#[], args, []⟩).Shaped Tryz.prog := World.shaped_of_ZipB (by kernel_rfl) (by kernel_rfl)
set_option maxRecDepth 100000 in
theorem lifted (os : Os) (started : os.Started) (H : Type) (enc : TypeId × Value → H) :
    ReturnsInHanded {} Tryz.checked os 8 .any (fun w args => (Rows.reportOptionsSpec.pre enc Tryz.prog Tryz.f8 Rows.reportOptionsRow.domain false w args ∧ laidMetH Tryz.prog laidL w) ∧ sizedMet enc Tryz.prog Tryz.f8 (OpenSpec.ofChange Rows.reportOptionsSpec) false w args) (Rows.reportOptionsSpec.post enc Tryz.prog Tryz.f8 false true false false) := by
  refine handed_laid_shaped (C := Tryz.checked) (X := fun w => laidMetH Tryz.prog laidL w) (fun _ _ hh h => h.of_heap hh) own started (by kernel_rfl) Tryz.func8
    (ChangeSpec.witness_shaped (enc := enc) (C := Tryz.checked) (os := os) (X := fun w _ => laidMetH Tryz.prog laidL w) false (World.laidAll Tryz.prog os laidL) #[.agg #[.int .i64 0, .int .i64 0, .bool false, .int .i64 0]] 8 (World.laidAll_os _ _ _) (laidL_shaped os _) (by kernel_rfl) (by kernel_rfl) (by kernel_rfl) (laidL_met os _)) ?_
  intro W base args ds gs before hval0 hW hL hsh
  rw [MakeChecks.laidMetH_plain _ _ _ (by kernel_rfl)] at hL
  have hT := gw_of (Lib.laidMet.reads hL (n := "math/bits.deBruijn32tab") (.tail _ (.tail _ (.tail _ (.head _))))) (Lib.laidMet.reads hL (n := "unicode/utf8.acceptRanges") (.tail _ (.tail _ (.head _)))) (Lib.laidMet.reads hL (n := "unicode/utf8.first") (.tail _ (.head _))) (Lib.laidMet.reads hL (n := "diacritic/sniff.starts") (.head _)) hsh
  have hT := And.intro hT (And.intro (gkk_ok hT (Lib.laidMet.reads hL (n := "diacritic/report.kinds") (.tail _ (.tail _ (.tail _ (.tail _ (.tail _ (.tail _ (.head _))))))))) (pt_of (Lib.laidMet.reads hL (n := "internal/strconv.uint64pow10") (.tail _ (.tail _ (.tail _ (.tail _ (.head _))))))))
  have hval : ∀ (j : Nat) t v, Tryz.f8.params[j]? = some t → args[j]? = some v → Value.okWide Tryz.prog W .any base t v := hval0
  have hW' := hW
  obtain ⟨p, q, hA0, hV, rfl, hfz, hnd⟩ := hW
  have hA : DataW.TrodAll enc Tryz.prog W 0 (fun _ => true) true Tryz.f8.params.toList args.toList ds p := hA0
  rw [Tryz.params8] at hA hval
  obtain ⟨v0, vs0, d0, ds0, p0, q0, hargs, rfl, rfl, h0, r0⟩ := trodAll_cons hA
  obtain ⟨rfl, rfl, rfl⟩ := trodAll_nil r0
  obtain rfl : args = #[v0] := by cases args; simp_all
  obtain ⟨rfl, rfl⟩ := trodVars_none hV
  have h0k := h0
  obtain ⟨a0, b0, c0, g0, rfl, w0a, w0b, w0c⟩ := open_opts2 (hval 0 47 v0 rfl rfl) h0
  clear hA0 hval0
  simp only [List.append_nil] at hW'
  refine (walk a0 b0 c0 g0 w0a w0b w0c W hT).mono fun e W' ⟨he, hg⟩ => ?_
  subst he
  have T0 := Below.trod (W' := W') (by kernel_rfl) (by kernel_rfl) (of_decide_eq_true (by kernel_rfl)) h0k hg (fun x hx => by simpa using hW'.lt x (by simp [hx]))
  exact ⟨_, rfl, post_below (pa := _) (pv := []) hW' (trodAll_cons_mk (shut_bool Tryz.underlying4 _) trodAll_mk0) (trodAll_cons_mk T0 trodAll_mk0) rfl hg⟩

theorem over : Rows.reportOptionsRow.holds Tryz.pinned (OpenSpec.ofChange Rows.reportOptionsSpec) :=
  OpenClaim.holds_of_wide 8 Tryz.f8 rfl rfl rfl rfl rfl rfl rfl ⟨rfl, rfl, rfl, rfl, rfl⟩ rfl rfl rfl rfl rfl k_named Tryz.func8 k_joined (of_decide_eq_true (by kernel_rfl)) k_wrap
    (fun os started H enc _ => lifted os started H enc)

/-- THE STATEMENT: the tied card -/
theorem proved : Rows.ReportOptionsCardSaid :=
  Claim7.holds_tied_plain_at .later [] [.data, .pinned, .data, .data, .data, .data, .data] true Rows.reportOptionsCard.stood.harness Rows.reportOptionsCard.stood.looks over (fun _ h => by cases h) k_wf (fun _ h => by cases h) reportOptions_row_tie rfl ⟨rfl, rfl⟩ k_main rfl
    (fun f fn hf hfn => by
      obtain rfl : f = 8 := Option.some.inj (k_named.symm.trans hf) |>.symm
      obtain rfl : fn = Tryz.f8 := (Option.some.inj (Tryz.func8.symm.trans hfn)).symm
      exact ⟨k_looks, fun j t ht => by
        rw [Tryz.params8] at ht
        have hm : t ∈ [47] := by simpa using Array.mem_of_getElem? ht
        exact (show Tryz.prog.wantsStandIn t = false by simpa using List.all_eq_true.1 k_stand t hm)⟩)
    k_goes
#print axioms proved
end Go.Proofs.YtjoechkdmdinoaaGreatDoor.reportOptions
