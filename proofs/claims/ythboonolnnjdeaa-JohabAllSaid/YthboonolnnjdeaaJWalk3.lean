import Derived.Test.YthboonolnnjdeaaJWalk2
namespace Go.Proofs.Ythboonolnnjdeaa
open Go.RowKit
theorem vals_get {k : IntKind} (l : List Int) (c : Nat) (h : c < (l.map (Value.int k)).length) : (l.map (Value.int k))[c] = .int k (l.getD c 0) := by
  simp at h
  simp [h]
def medL : List Int := [-2, -2, -1, 0, 1, 2, 3, 4, -2, -2, 5, 6, 7, 8, 9, 10, -2, -2, 11, 12, 13, 14, 15, 16, -2, -2, 17, 18, 19, 20, -2, -2]
def rmed (c : Nat) : Int := medL.getD c 0
set_option maxHeartbeats 400000 in
theorem refMedial_any (c : Int) (w : World) (h0 : 0 ≤ c) (h1 : c < 32) :
    Calls Try.prog 18 #[.int .i64 c] w fun e w' => e = .returned (.int .i64 (rmed c.toNat)) ∧ Below w.heap.size w w' := by
  obtain ⟨c, rfl⟩ := Int.eq_ofNat_of_zero_le h0
  have hc : c < 32 := by omega
  go_enter Try.func18, Try.ntmps18
  go_wp2
  go_ret
  exact ⟨congrArg Ending.returned (vals_get medL c hc), (Below.refl _ _).alloc (Nat.le_refl _) _⟩

def aloneR : List Int := [0, 1, 103, 2, 105, 106, 3, 4, 5, 109, 110, 111, 112, 113, 114, 115, 6, 7, 8, 118, 9, 10, 11, 12, 13, 14, 15, 16, 17, 18]
/-- the consonant of a part, as the reference finds it. -/
def ralone (p : Int) : Int := if aloneR.idxOf p < 30 then 12593 + (aloneR.idxOf p : Int) else 0
theorem idx_hit (l : List Int) (p : Int) (k : Nat) (h : k ≤ l.idxOf p) (hk : k < l.length) (e : l.getD k 0 = p) : l.idxOf p = k := by
  have : l[k] = p := by simpa [hk] using e
  by_cases hlt : k < l.idxOf p
  · exact absurd this (by simpa using List.not_of_lt_findIdx (p := (· == p)) hlt)
  · omega
theorem idx_miss (l : List Int) (p : Int) (k : Nat) (h : k ≤ l.idxOf p) (hk : k < l.length) (e : ¬ l.getD k 0 = p) : k + 1 ≤ l.idxOf p := by
  have e' : ¬ l[k] = p := by simpa [hk] using e
  by_cases hlt : l.idxOf p = k
  · have hl : l.idxOf p < l.length := by omega
    have := List.getElem_idxOf hl
    exact absurd (by simpa [hlt] using this) e'
  · omega

theorem cell_ints (k : IntKind) (l : List Int) (t : TypeId) (w : World) (i : Nat) (h : i < l.length) :
    (w.alloc (.cells (l.map (Value.int k)).toArray t)).cell? ⟨w.heap.size, i, none⟩ = some (.int k (l.getD i 0)) := by
  rw [World.cell?_alloc_new]
  simp [h]
set_option maxHeartbeats 1000000 in
theorem refAlone_any (p : Int) (w : World) :
    Calls Try.prog 20 #[.int .i64 p] w fun e w' => e = .returned (.int .i32 (ralone p)) ∧ Below w.heap.size w w' := by
  go_enter Try.func20, Try.ntmps20
  go_wp2
  obtain ⟨W, hW⟩ : ∃ W, W = w.alloc (.cells (aloneR.map (Value.int .i64)).toArray 3) := ⟨_, rfl⟩
  have hb : Below w.heap.size w W := by rw [hW]; exact (Below.refl _ _).alloc (Nat.le_refl _) _
  have hc : ∀ k : Nat, k < 30 → W.cell? ⟨w.heap.size, k, none⟩ = some (.int .i64 (aloneR.getD k 0)) := by
    intro k hk; rw [hW]; exact cell_ints .i64 aloneR _ w k hk
  simp only [aloneR, List.map_cons, List.map_nil] at hW
  rw [← hW]
  clear hW
  go_loop [4] (fun i => ∃ k : Nat, k ≤ 30 ∧ i = .int .i64 k ∧ k ≤ aloneR.idxOf p) (fun i => 30 - (intOf i).toNat)
  case atStart => exact ⟨0, Nat.zero_le _, rfl, Nat.zero_le _⟩
  case round =>
    obtain ⟨k, hk, rfl, hi⟩ := hrel
    by_cases hlt : k < 30
    · have hck := hc k hlt
      have hm := idx_miss aloneR p k hi hlt
      have hh := idx_hit aloneR p k hi hlt
      obtain ⟨x, hx⟩ : ∃ x, x = aloneR.getD k 0 := ⟨_, rfl⟩
      rw [← hx] at hck hm hh
      clear hx hc
      by_cases hxp : x = p
      · have hend : ralone p = 12593 + k := by unfold ralone; rw [hh hxp, if_pos hlt]
        have HE : Hid _ := hend
        clear hend hm hh
        subst hxp
        go_wp2
        go_ret
        exact ⟨ret_i HE.out.symm, hb⟩
      · have hm' := hm hxp
        clear hm hh
        have hd : (x == p) = false := by simpa using hxp
        go_wp2
        go_round
        case rel => exact ⟨k + 1, by omega, by go_num, hm'⟩
        case measure => simp [intOf]; omega
    · have hend : ralone p = 0 := by unfold ralone; rw [if_neg (by omega)]
      have HE : Hid _ := hend
      clear hc hend
      go_wp2
      go_ret
      exact ⟨ret_i HE.out.symm, hb⟩
end Go.Proofs.Ythboonolnnjdeaa
