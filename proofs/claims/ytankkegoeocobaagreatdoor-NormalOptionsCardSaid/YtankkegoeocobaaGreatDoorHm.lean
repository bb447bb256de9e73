/- NormalOptions, whatever the bytes, the options and the code. -/
import Derived.Test.YtankkegoeocobaaGreatDoorHl
import Derived.ChangeMaps5
import Derived.Carry
namespace Go.Proofs.YtankkegoeocobaaGreatDoor
open Go Go.Rf Go.RowKit Go.ChangeShapes Go.WideShapes Go.ChangeAt Go.Lib Go.ChangeMaps
set_option linter.unusedVariables false
set_option linter.unusedSimpArgs false
set_option maxRecDepth 100000 in
/-- options among a law's arguments. -/
theorem open_opts {H : Type} {enc : TypeId × Value → H} {w : World} {r : Reach} {b0 : Nat} {v : Value} {d : DataW H} {ps : List MemPlace}
    (hval : Value.okWide Tryz.prog w r b0 54 v) (hd : DataW.Trod enc Tryz.prog w 0 (fun _ => true) true 54 v d ps) :
    ∃ (kd fb bu : Int) (g : Bool), v = .agg #[.int .i64 kd, .int .i64 fb, .bool g, .int .i64 bu] := by
  obtain ⟨cs, rfl, hsz⟩ := okWide_struct Tryz.underlying54 hval
  rw [show Tryz.prog.cellsOf 54 = 4 by kernel_rfl] at hsz
  obtain ⟨fuel, hf⟩ := hd
  obtain ⟨xs, n, _, _, hlen, hx, hf⟩ := DataW.trod_struct Tryz.underlying54 hf
  have h0 := hf 0 _ rfl
  have h1 := hf 1 _ rfl
  have h2 := hf 2 _ rfl
  have h3 := hf 3 _ rfl
  simp only [List.getElem_toArray, List.getElem_cons_zero, List.getElem_cons_succ] at h0 h1 h2 h3
  rw [show Tryz.prog.cellsOf 23 = 1 by kernel_rfl] at h0
  rw [show Tryz.prog.cellsOf 33 = 1 by kernel_rfl] at h1
  rw [show Tryz.prog.cellsOf 4 = 1 by kernel_rfl] at h2
  rw [show Tryz.prog.cellsOf 3 = 1 by kernel_rfl] at h3
  obtain ⟨l⟩ := cs
  match l, hsz with
  | [a, b, c, e], _ =>
    match xs, hx with
    | [y, z, u, t], _ =>
      simp [Value.cells] at h0 h1 h2 h3
      obtain ⟨k0, e0, _⟩ := DataW.trod_int Tryz.underlying23 h0
      obtain ⟨k1, e1, _⟩ := DataW.trod_int Tryz.underlying33 h1
      obtain ⟨k2, e2, _⟩ := DataW.trod_bool Tryz.underlying4 h2
      obtain ⟨k3, e3, _⟩ := DataW.trod_int Tryz.underlying3 h3
      simp at e0 e1 e2 e3
      exact ⟨k0, k1, k3, k2, by rw [e0, e1, e2, e3]⟩
theorem ball_append [Sym] : ∀ {a b : List BinF}, BAllOk a → BAllOk b → BAllOk (a ++ b)
  | [], _, _, h => h
  | _ :: _, _, h, k => ⟨h.1, ball_append h.2 k⟩
namespace normalOptions
theorem isTO_eq {v : Option Value} (h : isTO v = true) : v = some (.bool true) := by
  unfold isTO at h
  split at h
  · rw [h]
  · cases h
theorem slO_ok (b : ByteArray) (kd fb bu co : Int) : letI := sgO b kd fb bu co; LOk slO := by
  intro i r h
  match i, h with
  | 0, h => cases h; exact ⟨b, rfl, fun _ => rfl⟩
theorem opt_ok (b : ByteArray) (kd fb bu co : Int) : letI := sgO b kd fb bu co; ∃ o, o ∈ optL ∧ BAllOk o := by
  letI := sgO b kd fb bu co
  have G : ∀ (i : Nat) (z : Int), Sym.v i = .int .i64 z → ∀ (n : Nat) v, decide (z ≥ (n : Int)) = v → BOk (.geq, .sym i, nI n, tB v) := fun i z hz n v h => bok_geq (a := z) (c := n) (k := .i64) (fun _ => by rw [At.den, hz]) (fun _ => rfl) h
  have L : ∀ (i : Nat) (z : Int), Sym.v i = .int .i64 z → ∀ (n : Nat) v, decide (z ≤ (n : Int)) = v → BOk (.leq, .sym i, nI n, tB v) := fun i z hz n v h => bok_leq (a := z) (c := n) (k := .i64) (fun _ => by rw [At.den, hz]) (fun _ => rfl) h
  have E : ∀ v, (kd == 0) = v → BOk (.eql, .sym 2, nI 0, tB v) := fun v h => bok_eql (a := kd) (c := 0) (k := .i64) (fun _ => rfl) (fun _ => rfl) h
  have yes : ∀ {p : Prop} [Decidable p], p → decide p = true := fun h => decide_eq_true h
  have no : ∀ {p : Prop} [Decidable p], ¬ p → decide p = false := fun h => decide_eq_false h
  have ne0 : kd ≠ 0 → (kd == 0) = false := fun h => by rw [beq_eq_false_iff_ne]; exact h
  have rest : ∀ (K : List BinF), BAllOk K → (K ++ fbN ∈ optL) → (K ++ fbB ∈ optL) → (K ++ fbG ++ buN ∈ optL) → (K ++ fbG ++ buB ∈ optL) → (K ++ fbG ++ buG ∈ optL) → ∃ o, o ∈ optL ∧ BAllOk o := by
    intro K hK m1 m2 m3 m4 m5
    by_cases f0 : fb ≥ 0
    · have t1 := G 3 fb rfl 0 true (yes (by omega))
      by_cases f6 : fb ≤ 6
      · have hF : BAllOk (K ++ fbG) := ball_append hK ⟨t1, L 3 fb rfl 6 true (yes (by omega)), trivial⟩
        by_cases u0 : bu ≥ 0
        · have s1 := G 4 bu rfl 0 true (yes (by omega))
          by_cases u1 : bu ≤ 268435456
          · exact ⟨_, m5, ball_append hF ⟨s1, L 4 bu rfl 268435456 true (yes (by omega)), trivial⟩⟩
          · exact ⟨_, m4, ball_append hF ⟨s1, L 4 bu rfl 268435456 false (no (by omega)), trivial⟩⟩
        · exact ⟨_, m3, ball_append hF ⟨G 4 bu rfl 0 false (no (by omega)), trivial⟩⟩
      · exact ⟨_, m2, ball_append hK ⟨t1, L 3 fb rfl 6 false (no (by omega)), trivial⟩⟩
    · exact ⟨_, m1, ball_append hK ⟨G 3 fb rfl 0 false (no (by omega)), trivial⟩⟩
  by_cases k0 : kd ≥ 0
  · have t1 := G 2 kd rfl 0 true (yes (by omega))
    by_cases k7 : kd ≤ 7
    · have t2 := L 2 kd rfl 7 true (yes (by omega))
      by_cases kz : kd = 0
      · exact rest kd0 ⟨t1, t2, E true (by rw [kz]; rfl), trivial⟩ (by simp [optL]) (by simp [optL]) (by simp [optL]) (by simp [optL]) (by simp [optL])
      · exact rest kd1 ⟨t1, t2, E false (ne0 kz), G 2 kd rfl 1 true (yes (by omega)), trivial⟩ (by simp [optL]) (by simp [optL]) (by simp [optL]) (by simp [optL]) (by simp [optL])
    · exact ⟨kdB, by simp [optL], t1, L 2 kd rfl 7 false (no (by omega)), E false (ne0 (by omega)), G 2 kd rfl 1 true (yes (by omega)), trivial⟩
  · exact ⟨kdN, by simp [optL], G 2 kd rfl 0 false (no (by omega)), E false (ne0 (by omega)), G 2 kd rfl 1 false (no (by omega)), trivial⟩
theorem walk (b : ByteArray) (kd fb : Int) (g : Bool) (bu co : Int) (w0 : b.size ≤ maxLen) (w1 : True) (w2 : (Lit.int .i64 co).wf = true) (w : World) (hG : GW w) :
    Calls Tryz.prog 4 #[.string b, .agg #[.int .i64 kd, .int .i64 fb, .bool g, .int .i64 bu], .int .i64 co] w fun e w' => e = .returned (.bool true) ∧ Below w.heap.size w w' := by
  letI := sgO b kd fb bu co
  have hS : SOk Tryz.prog w w.heap.size { O9 with sym := fun _ _ => none } := fun f args r hk => by cases hk
  have run : ∀ bs ka, BAllOk bs → (∀ ρ : Rho, At.den ρ ka = some (.int .i64 co)) → runO g bs ka = some (.bool true) → Calls Tryz.prog 4 #[.string b, .agg #[.int .i64 kd, .int .i64 fb, .bool g, .int .i64 bu], .int .i64 co] w fun e w' => e = .returned (.bool true) ∧ Below w.heap.size w w' :=
    fun bs ka hb hk h => sym_law (vals := [.string b, .agg #[.int .i64 kd, .int .i64 fb, .bool g, .int .i64 bu], .int .i64 co]) (factB_ok (P := Tryz.prog) hb) (slO_ok b kd fb bu co) hG hS (by
      simp only [dens1, V1.den, hk]; rfl) h
  have g1 : ∀ v, decide ((b.size : Int) > 300) = v → BOk (.gtr, .sym 1, nI 300, tB v) := fun v h => bok_gtr (a := (b.size : Int)) (c := 300) (k := .i64) (fun _ => rfl) (fun _ => rfl) h
  by_cases hs : b.size ≤ 300
  · have b1 := g1 false (decide_eq_false (by omega))
    obtain ⟨o, ho, hO⟩ := opt_ok b kd fb bu co
    have ne0 : co ≠ 0 → (co == 0) = false := fun h => by rw [beq_eq_false_iff_ne]; exact h
    have nn0 : co ≠ 0 → (co != 0) = true := fun h => by simpa using h
    by_cases h0 : co < 0
    · refine run _ _ ?_ (fun _ => rfl) (isTO_eq (List.all_eq_true.1 (runO_lo g) o ho))
      exact ⟨b1, ball_append ⟨bok_neq (a := co) (c := 0) (k := .i64) (fun _ => rfl) (fun _ => rfl) (nn0 (by omega)), bok_gtr (a := co) (c := 0) (k := .i64) (fun _ => rfl) (fun _ => rfl) (decide_eq_false (by omega)), bok_geq (a := co) (c := 0) (k := .i64) (fun _ => rfl) (fun _ => rfl) (decide_eq_false (by omega)), bok_eql (a := co) (c := 0) (k := .i64) (fun _ => rfl) (fun _ => rfl) (ne0 (by omega)), trivial⟩ hO⟩
    · by_cases h9 : co < 9
      · obtain ⟨n, rfl⟩ : ∃ n : Nat, co = .ofNat n := ⟨co.toNat, (Int.toNat_of_nonneg (by omega)).symm⟩
        have hn : n < 9 := by have : (Int.ofNat n) = (n : Int) := rfl; omega
        refine run _ _ ?_ (fun _ => rfl) (isTO_eq (all_at (List.all_eq_true.1 (runO_in g) o ho) hn))
        exact ⟨b1, hO⟩
      · refine run _ _ ?_ (fun _ => rfl) (isTO_eq (List.all_eq_true.1 (runO_hi g) o ho))
        exact ⟨b1, ball_append ⟨bok_neq (a := co) (c := 0) (k := .i64) (fun _ => rfl) (fun _ => rfl) (nn0 (by omega)), bok_gtr (a := co) (c := 0) (k := .i64) (fun _ => rfl) (fun _ => rfl) (decide_eq_true (by omega)), bok_lss (a := co) (c := 9) (k := .i64) (fun _ => rfl) (fun _ => rfl) (decide_eq_false (by omega)), bok_geq (a := co) (c := 0) (k := .i64) (fun _ => rfl) (fun _ => rfl) (decide_eq_true (by omega)), bok_eql (a := co) (c := 0) (k := .i64) (fun _ => rfl) (fun _ => rfl) (ne0 (by omega)), trivial⟩ hO⟩
  · refine run _ _ ?_ (fun _ => rfl) (runO_dark g)
    exact ⟨g1 true (decide_eq_true (by omega)), trivial⟩
end normalOptions
end Go.Proofs.YtankkegoeocobaaGreatDoor
