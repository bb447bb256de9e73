/- Plain: the printed text of a block that was read is at most so long as what was read allows. -/
import Derived.Test.YtogknbpmgflpgaaGreatDoorCp
namespace Go.Proofs.YtogknbpmgflpgaaGreatDoor
open Go.RowKit
set_option linter.unusedVariables false
set_option linter.unusedSimpArgs false
theorem failR_n (x : RS) (e a : Int) : (failR x e a).n = x.n := by unfold failR; split <;> rfl
theorem take_move (x : RS) (k : Int) (h : (takeR x k).1.e = 0) : (takeR x k).1.n = x.n + (takeR x k).2.size ∧ (takeR x k).2.size = k.toNat ∧ (x.n ≤ x.s.size → (takeR x k).1.n ≤ x.s.size) := by
  unfold takeR at h ⊢
  split at h
  · rename_i h1; exact absurd h h1
  · rename_i h1
    rw [if_neg h1]
    split at h
    · exact absurd h (failR_bad _ _ _ (by decide))
    · rename_i h2
      rw [if_neg h2]
      have hz : (x.s.extract x.n (x.n + k.toNat)).size = k.toNat := by rw [ByteArray.size_extract]; omega
      refine ⟨?_, hz, fun h3 => ?_⟩
      · show x.n + k.toNat = x.n + (x.s.extract x.n (x.n + k.toNat)).size
        rw [hz]
      · show x.n + k.toNat ≤ _
        omega
theorem sized_move (x : RS) (h : (sizedR x).1.e = 0) : (sizedR x).1.n = x.n + 4 + (sizedR x).2.1.size ∧ (x.n ≤ x.s.size → (sizedR x).1.n ≤ x.s.size) := by
  unfold sizedR numR at h ⊢
  simp only at h ⊢
  have h0 := takeR_e _ _ h
  obtain ⟨a1, a2, a3⟩ := take_move x 4 h0
  obtain ⟨b1, b2, b3⟩ := take_move (takeR x 4).1 _ h
  rw [takeR_s] at b3
  exact ⟨by rw [b1, a1, a2]; rfl, fun h5 => b3 (a3 h5)⟩
section
variable {R : List UInt8 → Int}
theorem leaf_move (x : RS) (t : ByteArray) (a : Int) (h : (leafR R x t a).1.e = 0) : (leafR R x t a).1.n = x.n := by
  unfold leafR
  split
  · cases decT (tokC (R (bl t))) (bl t) with
    | mk u o => cases o with
      | none => rfl
      | some k => exact failR_n _ _ _
  · exact failR_n _ _ _
theorem note_move (x : RS) (h : (noteR R x).1.e = 0) : x.n + 4 ≤ (noteR R x).1.n ∧ (noteL (noteR R x).2).length ≤ 512 * ((noteR R x).1.n - x.n) ∧ (x.n ≤ x.s.size → (noteR R x).1.n ≤ x.s.size) := by
  unfold noteR at h ⊢
  split at h
  · rename_i h1; exact absurd h h1
  · rename_i h1
    rw [if_neg h1]
    simp only at h ⊢
    split at h
    · exact absurd h (failR_bad _ _ _ (by decide))
    · rename_i h2
      rw [if_neg h2]
      have he : (sizedR x).1.e = 0 := by simpa using h1
      obtain ⟨m1, m2⟩ := sized_move x he
      obtain ⟨g1, g2⟩ := leafR_good _ _ _ h
      have hn := leaf_move _ _ _ h
      obtain ⟨a1, a2⟩ := ahead_all (bl (sizedR x).2.1)
      rw [not_or] at h2
      have hlt : aheadM (bl (sizedR x).2.1) < (sizedR x).2.1.size := by
        have h3 : (bl (sizedR x).2.1)[aheadM (bl (sizedR x).2.1)]? = some 61 := by simpa using h2.2
        have := (List.getElem?_eq_some_iff.1 h3).1
        rwa [bl_length] at this
      simp only
      refine ⟨by rw [hn]; omega, ?_, fun h5 => by rw [hn]; exact m2 h5⟩
      rw [hn, m1]
      unfold noteL sizedL
      simp only [List.length_append, bl_length]
      rw [ByteArray.size_extract] at g2 ⊢
      show 4 + (_ + 1 + _) ≤ _
      omega
theorem notes_move : ∀ (k : Nat) (x : RS) (l : List Nt), (notesR R k x l).1.e = 0 → x.n ≤ x.s.size → x.n ≤ (notesR R k x l).1.n ∧ (notesR R k x l).1.n ≤ x.s.size ∧ ((notesR R k x l).2.flatMap noteL).length ≤ (l.flatMap noteL).length + 512 * ((notesR R k x l).1.n - x.n) := by
  intro k
  induction k with
  | zero =>
    intro x l h hx
    exact ⟨Nat.le_refl _, hx, Nat.le_add_right _ _⟩
  | succ k ih =>
    intro x l h hx
    unfold notesR at h ⊢
    split at h
    · rename_i h1; exact absurd h h1
    · rename_i h1
      rw [if_neg h1]
      have b1 := (notesR_good _ _ _ h).1
      obtain ⟨c1, c2, c3⟩ := note_move x b1
      obtain ⟨d1, d2, d3⟩ := ih _ _ h (by rw [noteR_s]; exact c3 hx)
      rw [noteR_s] at d2
      refine ⟨by omega, d2, Nat.le_trans d3 ?_⟩
      rw [List.flatMap_append, List.length_append, List.flatMap_cons, List.flatMap_nil, List.append_nil]
      omega
/-- what is printed of what was read. -/
theorem parse_print (fr : Bool) (x : RS) (b : Bk) (hx : x.n ≤ x.s.size) (h : (parseR R fr x).2 = some b) : (printL fr b).length ≤ 512 * x.s.size + 1 := by
  unfold parseR at h
  split at h
  · cases h
  split at h
  · cases h
  rename_i h0 h1
  simp only at h
  split at h
  · cases h
  rename_i h2
  have h2 : (endR fr (notesR R (countR (leafR R (sizedR x).1 (sizedR x).2.1 (sizedR x).2.2).1).2 (countR (leafR R (sizedR x).1 (sizedR x).2.1 (sizedR x).2.2).1).1 []).1).e = 0 := by simpa using h2
  simp only [Option.some.injEq] at h
  have h3 := endR_e _ _ h2
  have c1 := (notesR_good _ _ _ h3).1
  have hv : (takeR (leafR R (sizedR x).1 (sizedR x).2.1 (sizedR x).2.2).1 4).1.e = 0 ∧ (countR (leafR R (sizedR x).1 (sizedR x).2.1 (sizedR x).2.2).1).1.n = (takeR (leafR R (sizedR x).1 (sizedR x).2.1 (sizedR x).2.2).1 4).1.n ∧ (countR (leafR R (sizedR x).1 (sizedR x).2.1 (sizedR x).2.2).1).1.s = x.s := by
    unfold countR numR at c1 ⊢
    simp only at c1 ⊢
    split at c1
    · exact absurd c1 (failR_bad _ _ _ (by decide))
    · rename_i h9
      rw [if_neg h9]
      exact ⟨c1, rfl, by rw [takeR_s, leafR_s, sizedR_s]⟩
  obtain ⟨v1, v2, v3⟩ := hv
  have v4 := takeR_e _ _ v1
  obtain ⟨g1, g2⟩ := leafR_good _ _ _ v4
  have m1 := leaf_move _ _ _ v4
  obtain ⟨s1, s2⟩ := sized_move x (by simpa using h1)
  obtain ⟨t1, t2, t3⟩ := take_move _ _ v1
  rw [leafR_s, sizedR_s] at t3
  have hc : (countR (leafR R (sizedR x).1 (sizedR x).2.1 (sizedR x).2.2).1).1.n ≤ (countR (leafR R (sizedR x).1 (sizedR x).2.1 (sizedR x).2.2).1).1.s.size := by
    rw [v2, v3]; exact t3 (by rw [m1]; exact s2 hx)
  obtain ⟨n1, n2, n3⟩ := notes_move _ _ [] h3 hc
  rw [v3] at n2
  rw [v2, t1, t2, m1, s1] at n1 n3
  subst h
  unfold printL sizedL
  simp only [List.length_append, bl_length]
  have e1 : (if fr = true then [(1 : UInt8)] else []).length ≤ 1 := by cases fr <;> simp
  simp only [List.flatMap_nil, List.length_nil] at n3
  have e2 : ∀ n, (le4 n).length = 4 := fun n => rfl
  have e3 : (4 : Int).toNat = 4 := rfl
  rw [e3] at n1 n3
  rw [e2, e2]
  omega
end
end Go.Proofs.YtogknbpmgflpgaaGreatDoor
