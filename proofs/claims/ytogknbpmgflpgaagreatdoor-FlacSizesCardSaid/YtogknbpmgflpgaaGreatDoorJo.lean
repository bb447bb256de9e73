/- Walks over the leaves of package johab. -/
import Derived.WalkKit
import Derived.WalkSpells
import Derived.WalkLawsBesides
import Derived.Lib.Bytealg
import Derived.Deep.Light
import Derived.Test.YtogknbpmgflpgaaGreatDoorProg
import Derived.Test.YtogknbpmgflpgaaGreatDoorBa
namespace Go.Proofs.YtogknbpmgflpgaaGreatDoor
open Go.RowKit

set_option maxHeartbeats 400000 in
theorem initialOf_any (c : Int) (w : World) (h0 : 0 ≤ c) (h1 : c ≤ 31) :
    Calls Tryz.prog 173 #[.int .i64 c] w fun e w' => e = .returned (.tuple #[.int .i64 (ini c), .bool (iniB c)]) ∧ w = w' := by
  go_enter Tryz.func173, Tryz.ntmps173
  go_wp2
  all_goals go_ret2
  all_goals (refine ⟨ret_ib ?_ ?_, rfl⟩ <;> simp only [ini, iniB, beq_iff_eq, beq_eq_false_iff_ne, ne_eq] at * <;> (try simp) <;> omega)

set_option maxHeartbeats 400000 in
theorem medialOf_any (c : Int) (w : World) (h0 : 0 ≤ c) (h1 : c ≤ 31) :
    Calls Tryz.prog 174 #[.int .i64 c] w fun e w' => e = .returned (.tuple #[.int .i64 (med c), .bool (medB c)]) ∧ w = w' := by
  go_enter Tryz.func174, Tryz.ntmps174
  go_wp2
  all_goals go_ret2
  all_goals (refine ⟨ret_ib ?_ ?_, rfl⟩ <;> simp only [med, medB, beq_iff_eq, beq_eq_false_iff_ne, ne_eq] at * <;> (try simp) <;> omega)

set_option maxHeartbeats 400000 in
theorem finalOf_any (c : Int) (w : World) (h0 : 0 ≤ c) (h1 : c ≤ 31) :
    Calls Tryz.prog 175 #[.int .i64 c] w fun e w' => e = .returned (.tuple #[.int .i64 (fin c), .bool (finB c)]) ∧ w = w' := by
  go_enter Tryz.func175, Tryz.ntmps175
  go_wp2
  all_goals go_ret2
  all_goals (refine ⟨ret_ib ?_ ?_, rfl⟩ <;> simp only [fin, finB] <;> (try simp) <;> omega)

set_option maxHeartbeats 400000 in
theorem medialCode_any (c : Int) (w : World) (h0 : -1 ≤ c) (h1 : c ≤ 31) :
    Calls Tryz.prog 216 #[.int .i64 c] w fun e w' => e = .returned (.int .i64 (medCode c)) ∧ w = w' := by
  go_enter Tryz.func216, Tryz.ntmps216
  go_wp2
  all_goals go_ret
  all_goals (refine ⟨ret_i ?_, rfl⟩; simp only [medCode, beq_iff_eq, beq_eq_false_iff_ne, ne_eq] at *; omega)

set_option maxHeartbeats 400000 in
theorem finalCode_any (c : Int) (w : World) (h0 : -1 ≤ c) (h1 : c ≤ 31) :
    Calls Tryz.prog 217 #[.int .i64 c] w fun e w' => e = .returned (.int .i64 (finCode c)) ∧ w = w' := by
  go_enter Tryz.func217, Tryz.ntmps217
  go_wp2
  all_goals go_ret
  all_goals (refine ⟨ret_i ?_, rfl⟩; simp only [finCode]; omega)

/-- johab.code -/
theorem code_any (i m f : Int) (w : World) (h0 : -1 ≤ i) (h1 : i ≤ 18) (h2 : -1 ≤ m) (h3 : m ≤ 20) (h4 : 0 ≤ f) (h5 : f ≤ 27) :
    Calls Tryz.prog 178 #[.int .i64 i, .int .i64 m, .int .i64 f] w fun e w' => e = .returned (.int .i64 (32768 + (i + 2) * 1024 + medCode m * 32 + finCode f)) ∧ w = w' := by
  obtain ⟨a0, a1⟩ := medCode_bd m h2 h3
  obtain ⟨b0, b1⟩ := finCode_bd f h4 h5
  go_enter Tryz.func178, Tryz.ntmps178
  go_wp2_with (first | (go_at_call 216; refine (medialCode_any _ _ (by omega) (by omega)).mono ?_; rintro e w' ⟨rfl, rfl⟩) | (go_at_call 217; refine (finalCode_any _ _ (by omega) (by omega)).mono ?_; rintro e w' ⟨rfl, rfl⟩))
  go_ret
  refine ⟨ret_i ?_, rfl⟩
  rw [i64_join 15 32768 ((i + 2) * 1024) (by omega) (by omega) (by omega) (by omega) (by omega) (by omega), i64_join 10 (32768 + (i + 2) * 1024) (medCode m * 32) (by omega) (by omega) (by omega) (by omega) (by omega) (by omega), i64_join 5 _ (finCode f) (by omega) (by omega) (by omega) (by omega) (by omega) (by omega)]

set_option maxHeartbeats 400000 in
theorem syllable_any (i m f : Int) (w : World) :
    Calls Tryz.prog 176 #[.int .i64 i, .int .i64 m, .int .i64 f] w fun e w' => e = .returned (.tuple #[.int .i32 (syl i m f), .bool (sylB i m f)]) ∧ w = w' := by
  go_enter Tryz.func176, Tryz.ntmps176
  go_wp2
  all_goals go_ret2
  all_goals (refine ⟨ret_ib ?_ ?_, rfl⟩ <;> simp only [syl, sylB] <;> (try simp) <;> omega)
end Go.Proofs.YtogknbpmgflpgaaGreatDoor
/- Walks: strings.IndexByte; johab.consonant, Sign; the reference's Medial, Final, Alone, Sign. -/
namespace Go.Proofs.YtogknbpmgflpgaaGreatDoor
open Go.RowKit

set_option maxHeartbeats 400000 in
set_option maxRecDepth 100000 in
theorem slIndexByte_any (s : ByteArray) (c : Int) (w : World) :
    Calls Tryz.prog 239 #[.string s, .int .u8 c] w fun e w' => e = .returned (.int .i64 (Lib.indexByte s.data.toList c.toNat.toUInt8)) ∧ w = w' := by
  go_enter Tryz.func239, Tryz.ntmps239
  go_wp2
  rw [run_callFunc_extern (f := 247) Tryz.func247 (by kernel_rfl) (by kernel_rfl) (by kernel_rfl) (e := Extern.BytealgIndexByte.indexByte) (by kernel_rfl), Lib.run_indexByteString]
  simp only [Result.andThen]
  rw [Oper.upon_value]
  go_wp2
  go_ret
  exact ⟨rfl, rfl⟩

set_option maxHeartbeats 400000 in
theorem indexByte_any (s : ByteArray) (c : Int) (w : World) :
    Calls Tryz.prog 215 #[.string s, .int .u8 c] w fun e w' => e = .returned (.int .i64 (Lib.indexByte s.data.toList c.toNat.toUInt8)) ∧ w = w' := by
  go_enter Tryz.func215, Tryz.ntmps215
  go_wp2_with (go_at_call 239; refine (slIndexByte_any _ _ _).mono ?_; rintro e w' ⟨rfl, rfl⟩)
  go_ret
  exact ⟨rfl, rfl⟩

theorem indexByte_bd (l : List UInt8) (c : UInt8) : -1 ≤ Lib.indexByte l c ∧ Lib.indexByte l c < l.length := by
  induction l with
  | nil => simp [Lib.indexByte]
  | cons b l ih =>
    simp only [Lib.indexByte, List.length_cons]
    split
    · omega
    · split <;> omega
theorem aloneAt_bd (p : Int) : -1 ≤ aloneAt p ∧ aloneAt p ≤ 29 := by
  have h := indexByte_bd aloneL p.toNat.toUInt8
  rw [show aloneL.length = 30 from rfl] at h
  unfold aloneAt; omega

theorem aloneIndex_any (p k : Int) (hk : Hid (k = aloneAt p)) (w : World) :
    Calls Tryz.prog 215 #[.string ⟨#[65, 66, 100, 67, 102, 103, 68, 69, 70, 106, 107, 108, 109, 110, 111, 112, 71, 72, 73, 115, 74, 75, 76, 77, 78, 79, 80, 81, 82, 83]⟩, .int .u8 p] w
      fun e w' => e = .returned (.int .i64 k) ∧ w = w' := by
  rw [hk.out]
  exact indexByte_any _ _ _

set_option maxHeartbeats 1000000 in
theorem consonant_any (p : Int) (w : World) :
    Calls Tryz.prog 177 #[.int .u8 p] w fun e w' => e = .returned (.tuple #[.int .i32 (cons p), .bool (consB p)]) ∧ w = w' := by
  have hb := aloneAt_bd p
  obtain ⟨k, hk⟩ : ∃ k, k = aloneAt p := ⟨_, rfl⟩
  obtain ⟨h0, h1⟩ := hb
  rw [← hk] at h0 h1
  have HK : Hid _ := hk
  have e1 : cons p = if k < 0 then 0 else 12593 + k := by rw [hk]; rfl
  have e2 : consB p = !decide (k < 0) := by rw [hk]; rfl
  rw [e1, e2]
  clear hk e1 e2
  go_enter Tryz.func177, Tryz.ntmps177
  go_wp2_with (go_at_call 215; refine (aloneIndex_any _ _ HK _).mono ?_; rintro e w' ⟨rfl, rfl⟩)
  all_goals go_ret2
  all_goals (refine ⟨ret_ib ?_ ?_, rfl⟩ <;> (try simp) <;> omega)
end Go.Proofs.YtogknbpmgflpgaaGreatDoor
namespace Go.Proofs.YtogknbpmgflpgaaGreatDoor
open Go.RowKit
theorem vals_get {k : IntKind} (l : List Int) (c : Nat) (h : c < (l.map (Value.int k)).length) : (l.map (Value.int k))[c] = .int k (l.getD c 0) := by
  simp at h
  simp [h]
def medL : List Int := [-2, -2, -1, 0, 1, 2, 3, 4, -2, -2, 5, 6, 7, 8, 9, 10, -2, -2, 11, 12, 13, 14, 15, 16, -2, -2, 17, 18, 19, 20, -2, -2]
def rmed (c : Nat) : Int := medL.getD c 0
set_option maxHeartbeats 400000 in
theorem refMedial_any (c : Int) (w : World) (h0 : 0 ≤ c) (h1 : c < 32) :
    Calls Tryz.prog 207 #[.int .i64 c] w fun e w' => e = .returned (.int .i64 (rmed c.toNat)) ∧ Below w.heap.size w w' := by
  obtain ⟨c, rfl⟩ := Int.eq_ofNat_of_zero_le h0
  have hc : c < 32 := by omega
  go_enter Tryz.func207, Tryz.ntmps207
  go_wp2
  go_ret
  exact ⟨congrArg Ending.returned (vals_get medL c hc), (Below.refl _ _).alloc (Nat.le_refl _) _⟩

def aloneR : List Int := [0, 1, 103, 2, 105, 106, 3, 4, 5, 109, 110, 111, 112, 113, 114, 115, 6, 7, 8, 118, 9, 10, 11, 12, 13, 14, 15, 16, 17, 18]
/-- the consonant of a part, as the reference finds it. -/
def ralone (p : Int) : Int := if aloneR.idxOf p < 30 then 12593 + (aloneR.idxOf p : Int) else 0
theorem idx_hit (l : List Int) (p : Int) (k : Nat) (h : k ≤ l.idxOf p) (hk : k < l.length) (e : l.getD k 0 = p) : l.idxOf p = k := by
  have : l[k] = p := by simpa [hk] using e
  by_cases hlt : k < l.idxOf p
  · exact absurd this (by simpa using List.not_of_lt_findIdx (p := (· == p)) hlt)
  · omega
theorem idx_miss (l : List Int) (p : Int) (k : Nat) (h : k ≤ l.idxOf p) (hk : k < l.length) (e : ¬ l.getD k 0 = p) : k + 1 ≤ l.idxOf p := by
  have e' : ¬ l[k] = p := by simpa [hk] using e
  by_cases hlt : l.idxOf p = k
  · have hl : l.idxOf p < l.length := by omega
    have := List.getElem_idxOf hl
    exact absurd (by simpa [hlt] using this) e'
  · omega

theorem cell_ints (k : IntKind) (l : List Int) (t : TypeId) (w : World) (i : Nat) (h : i < l.length) :
    (w.alloc (.cells (l.map (Value.int k)).toArray t)).cell? ⟨w.heap.size, i, none⟩ = some (.int k (l.getD i 0)) := by
  rw [World.cell?_alloc_new]
  simp [h]
set_option maxHeartbeats 1000000 in
theorem refAlone_any (p : Int) (w : World) :
    Calls Tryz.prog 209 #[.int .i64 p] w fun e w' => e = .returned (.int .i32 (ralone p)) ∧ Below w.heap.size w w' := by
  go_enter Tryz.func209, Tryz.ntmps209
  go_wp2
  obtain ⟨W, hW⟩ : ∃ W, W = w.alloc (.cells (aloneR.map (Value.int .i64)).toArray 3) := ⟨_, rfl⟩
  have hb : Below w.heap.size w W := by rw [hW]; exact (Below.refl _ _).alloc (Nat.le_refl _) _
  have hc : ∀ k : Nat, k < 30 → W.cell? ⟨w.heap.size, k, none⟩ = some (.int .i64 (aloneR.getD k 0)) := by
    intro k hk; rw [hW]; exact cell_ints .i64 aloneR _ w k hk
  simp only [aloneR, List.map_cons, List.map_nil] at hW
  rw [← hW]
  clear hW
  go_loop [4] (fun i => ∃ k : Nat, k ≤ 30 ∧ i = .int .i64 k ∧ k ≤ aloneR.idxOf p) (fun i => 30 - (intOf i).toNat)
  case atStart => exact ⟨0, Nat.zero_le _, rfl, Nat.zero_le _⟩
  case round =>
    obtain ⟨k, hk, rfl, hi⟩ := hrel
    by_cases hlt : k < 30
    · have hck := hc k hlt
      have hm := idx_miss aloneR p k hi hlt
      have hh := idx_hit aloneR p k hi hlt
      obtain ⟨x, hx⟩ : ∃ x, x = aloneR.getD k 0 := ⟨_, rfl⟩
      rw [← hx] at hck hm hh
      clear hx hc
      by_cases hxp : x = p
      · have hend : ralone p = 12593 + k := by unfold ralone; rw [hh hxp, if_pos hlt]
        have HE : Hid _ := hend
        clear hend hm hh
        subst hxp
        go_wp2
        go_ret
        exact ⟨ret_i HE.out.symm, hb⟩
      · have hm' := hm hxp
        clear hm hh
        have hd : (x == p) = false := by simpa using hxp
        go_wp2
        go_round
        case rel => exact ⟨k + 1, by omega, by go_num, hm'⟩
        case measure => simp [intOf]; omega
    · have hend : ralone p = 0 := by unfold ralone; rw [if_neg (by omega)]
      have HE : Hid _ := hend
      clear hc hend
      go_wp2
      go_ret
      exact ⟨ret_i HE.out.symm, hb⟩
end Go.Proofs.YtogknbpmgflpgaaGreatDoor
namespace Go.Proofs.YtogknbpmgflpgaaGreatDoor
open Go.RowKit
def rfin (c : Int) : Int := if c = 0 ∨ c = 18 ∨ c > 29 then -2 else if c < 18 then c - 1 else c - 2
set_option maxHeartbeats 400000 in
theorem refFinal_any (c : Int) (w : World) (h0 : 0 ≤ c) (h1 : c < 32) :
    Calls Tryz.prog 208 #[.int .i64 c] w fun e w' => e = .returned (.int .i64 (rfin c)) ∧ w = w' := by
  go_enter Tryz.func208, Tryz.ntmps208
  go_wp2
  all_goals go_ret
  all_goals (refine ⟨ret_i ?_, rfl⟩; simp only [rfin, beq_iff_eq, beq_eq_false_iff_ne, ne_eq] at *; omega)

def sgn (n i m f : Int) (bi bm bf : Bool) : Int :=
  if n < 32768 ∨ bi = false ∨ bm = false ∨ bf = false then 0
  else if i ≠ -1 ∧ m ≠ -1 then syl i m f
  else if i = -1 ∧ m ≠ -1 ∧ f = 0 then 12623 + m
  else if i ≠ -1 ∧ m = -1 ∧ f = 0 then cons (65 + i)
  else if i = -1 ∧ m = -1 ∧ f ≠ 0 then cons (97 + f)
  else 0
def sgnB (n i m f : Int) (bi bm bf : Bool) : Bool :=
  if n < 32768 ∨ bi = false ∨ bm = false ∨ bf = false then false
  else if i ≠ -1 ∧ m ≠ -1 then sylB i m f
  else if i = -1 ∧ m ≠ -1 ∧ f = 0 then true
  else if i ≠ -1 ∧ m = -1 ∧ f = 0 then consB (65 + i)
  else if i = -1 ∧ m = -1 ∧ f ≠ 0 then consB (97 + f)
  else false
theorem cons_zero (p : Int) : consB p = !decide (cons p = 0) := by
  unfold consB cons
  split <;> simp <;> omega
theorem sgnB_eq (n i m f : Int) (bi bm bf : Bool) (hi : -1 ≤ i) (hi' : i ≤ 18) (hm : -1 ≤ m) (hm' : m ≤ 20) (hf : 0 ≤ f) (hf' : f ≤ 27) : sgnB n i m f bi bm bf = !decide (sgn n i m f bi bm bf = 0) := by
  unfold sgnB sgn
  split
  · rfl
  split
  · unfold sylB syl
    split
    · rename_i h
      rw [decide_eq_true h]; simp; omega
    · rename_i h
      rw [decide_eq_false h]; simp
  split
  · simp; omega
  split
  · exact cons_zero _
  split
  · exact cons_zero _
  rfl
theorem sgn_eq (n : Int) : signJ n = sgn n (ini (n / 1024 % 32)) (med (n / 32 % 32)) (fin (n % 32)) (iniB (n / 1024 % 32)) (medB (n / 32 % 32)) (finB (n % 32)) := rfl

set_option maxHeartbeats 4000000 in
theorem sign_any (l t : Int) (w : World) (h0 : 0 ≤ l) (h1 : l ≤ 255) (h2 : 0 ≤ t) (h3 : t ≤ 255) :
    Calls Tryz.prog 140 #[.int .u8 l, .int .u8 t] w fun e w' => e = .returned (.tuple #[.int .i32 (signJ (l * 256 + t)), .bool (signJB (l * 256 + t))]) ∧ w = w' := by
  have e1 : bits .or .i64 (l * 256) t = l * 256 + t := i64_or8 _ _ (by omega) (by omega) (by omega) (by omega) (by omega)
  obtain ⟨n, hn⟩ : ∃ n, n = l * 256 + t := ⟨_, rfl⟩
  have hn0 : 0 ≤ n := by omega
  have hn1 : n < 65536 := by omega
  have e2 : bits .and .i64 (n / 1024) 31 = n / 1024 % 32 := i64_and31 _ (by omega) (by omega)
  have e3 : bits .and .i64 (n / 32) 31 = n / 32 % 32 := i64_and31 _ (by omega) (by omega)
  have e4 : bits .and .i64 n 31 = n % 32 := i64_and31 _ (by omega) (by omega)
  obtain ⟨hi, hi'⟩ := ini_bd (n / 1024 % 32)
  obtain ⟨hm, hm'⟩ := med_bd (n / 32 % 32)
  obtain ⟨hf, hf'⟩ := fin_bd (n % 32)
  have c1 := fun w => initialOf_any (n / 1024 % 32) w (by omega) (by omega)
  have c2 := fun w => medialOf_any (n / 32 % 32) w (by omega) (by omega)
  have c3 := fun w => finalOf_any (n % 32) w (by omega) (by omega)
  have hs := sgn_eq n
  have hsB : signJB n = sgnB n (ini (n / 1024 % 32)) (med (n / 32 % 32)) (fin (n % 32)) (iniB (n / 1024 % 32)) (medB (n / 32 % 32)) (finB (n % 32)) := by
    rw [sgnB_eq _ _ _ _ _ _ _ hi hi' hm hm' hf hf', ← hs]; rfl
  rw [← hn] at e1 ⊢
  clear hn
  rw [hs, hsB]
  clear hs hsB
  generalize ini (n / 1024 % 32) = i at *
  generalize med (n / 32 % 32) = m at *
  generalize fin (n % 32) = f at *
  generalize iniB (n / 1024 % 32) = bi at *
  generalize medB (n / 32 % 32) = bm at *
  generalize finB (n % 32) = bf at *
  have C1 := Lib.hid c1
  have C2 := Lib.hid c2
  have C3 := Lib.hid c3
  clear c1 c2 c3
  have d1 : sgn n i m f bi bm bf = (if n < 32768 ∨ bi = false ∨ bm = false ∨ bf = false then 0 else if i ≠ -1 ∧ m ≠ -1 then syl i m f
    else if i = -1 ∧ m ≠ -1 ∧ f = 0 then 12623 + m else if i ≠ -1 ∧ m = -1 ∧ f = 0 then cons (65 + i) else if i = -1 ∧ m = -1 ∧ f ≠ 0 then cons (97 + f) else 0) := rfl
  have d2 : sgnB n i m f bi bm bf = (if n < 32768 ∨ bi = false ∨ bm = false ∨ bf = false then false else if i ≠ -1 ∧ m ≠ -1 then sylB i m f
    else if i = -1 ∧ m ≠ -1 ∧ f = 0 then true else if i ≠ -1 ∧ m = -1 ∧ f = 0 then consB (65 + i) else if i = -1 ∧ m = -1 ∧ f ≠ 0 then consB (97 + f) else false) := rfl
  have D1 := Lib.hid d1
  have D2 := Lib.hid d2
  clear d1 d2
  go_enter Tryz.func140, Tryz.ntmps140
  go_wp2_with (first
    | (go_at_call 173; refine (C1.out _).mono ?_; rintro e w' ⟨rfl, rfl⟩)
    | (go_at_call 174; refine (C2.out _).mono ?_; rintro e w' ⟨rfl, rfl⟩)
    | (go_at_call 175; refine (C3.out _).mono ?_; rintro e w' ⟨rfl, rfl⟩)
    | (go_at_call 176; refine (syllable_any _ _ _ _).mono ?_; rintro e w' ⟨rfl, rfl⟩)
    | (go_at_call 177; refine (consonant_any _ _).mono ?_; rintro e w' ⟨rfl, rfl⟩))
  all_goals go_ret2
  all_goals (refine ⟨ret_ib ?_ ?_, rfl⟩ <;> first | rw [D1.out] | rw [D2.out])
  all_goals (clear C1 C2 C3 D1 D2; go_light)
  all_goals (clear e1 e2 e3 e4 h0 h1 h2 h3)
  all_goals (first | (have hnn : n < 32768 := by omega) | (have hnn : ¬ n < 32768 := by omega))
  all_goals (cases bi <;> cases bm <;> cases bf)
  all_goals (simp at *)
  all_goals (try (first | rfl | omega | done))
  all_goals (repeat' split)
  all_goals (try (first | rfl | omega | (exfalso; omega)))
  all_goals (try (simp_all; done))
  all_goals (try (exfalso; simp_all; omega))
end Go.Proofs.YtogknbpmgflpgaaGreatDoor
namespace Go.Proofs.YtogknbpmgflpgaaGreatDoor
open Go.RowKit
set_option linter.unusedVariables false
set_option linter.unusedSimpArgs false
/-- the medial as the reference gives it. -/
def rm (c : Int) : Int := if medB c then med c else -2
theorem rmed_eq : ∀ c : Fin 32, rmed c.val = rm (c.val : Int) := by decide
theorem rmed_rm (c : Int) (h0 : 0 ≤ c) (h1 : c < 32) : rmed c.toNat = rm c := by
  have := rmed_eq ⟨c.toNat, by omega⟩
  simp only at this
  rw [this, show ((c.toNat : Nat) : Int) = c from by omega]
theorem rfin_eq (c : Int) (h0 : 0 ≤ c) (h1 : c < 32) : rfin c = if finB c then fin c else -2 := by
  unfold rfin finB fin
  split
  · rw [if_neg (by simp; omega)]
  · split <;> rw [if_pos (by simp; omega)] <;> split <;> omega
theorem ralone_ini : ∀ i : Fin 19, ralone (i.val : Int) = cons (65 + (i.val : Int)) := by decide +kernel
theorem ralone_fin : ∀ i : Fin 28, i.val = 0 ∨ ralone (100 + (i.val : Int)) = cons (97 + (i.val : Int)) := by decide +kernel
theorem ralone_i (i : Int) (h0 : 0 ≤ i) (h1 : i ≤ 18) : ralone i = cons (65 + i) := by
  have := ralone_ini ⟨i.toNat, by omega⟩
  simp only at this
  rwa [show ((i.toNat : Nat) : Int) = i from by omega] at this
theorem ralone_f (i : Int) (h0 : 1 ≤ i) (h1 : i ≤ 27) : ralone (100 + i) = cons (97 + i) := by
  rcases ralone_fin ⟨i.toNat, by omega⟩ with h | h
  · simp only at h; omega
  · simp only at h
    rwa [show ((i.toNat : Nat) : Int) = i from by omega] at h
/-- the reference's sign, of its parts. -/
def rsgn (n i m f : Int) : Int :=
  if n < 32768 then 0 else if i < -1 ∨ i > 18 ∨ m = -2 ∨ f = -2 then 0
  else if i ≥ 0 ∧ m ≥ 0 then 44032 + (i * 21 + m) * 28 + f
  else if i < 0 ∧ m ≥ 0 ∧ f = 0 then 12623 + m
  else if i ≥ 0 ∧ m < 0 ∧ f = 0 then ralone i
  else if i < 0 ∧ m < 0 ∧ f > 0 then ralone (100 + f)
  else 0
theorem rsgn_eq (n : Int) (h0 : 0 ≤ n) (h1 : n < 65536) : rsgn n (n / 1024 % 32 - 2) (rm (n / 32 % 32)) (rfin (n % 32)) = signJ n := by
  rw [rfin_eq _ (by omega) (by omega), sgn_eq]
  have ha0 : 0 ≤ n / 1024 % 32 := by omega
  have ha1 : n / 1024 % 32 ≤ 31 := by omega
  have hc1 := fin_bd (n % 32)
  have hb1 := med_bd (n / 32 % 32)
  unfold rsgn sgn rm
  generalize n / 1024 % 32 = a at *
  generalize med (n / 32 % 32) = m at *
  generalize fin (n % 32) = f at *
  generalize medB (n / 32 % 32) = bm at *
  generalize finB (n % 32) = bf at *
  by_cases hn : n < 32768
  · rw [if_pos hn, if_pos (Or.inl hn)]
  rw [if_neg hn]
  cases bm
  · rw [if_pos (by simp), if_pos (by simp)]
  cases bf
  · rw [if_pos (by simp), if_pos (by simp)]
  simp only [if_true]
  by_cases hi : 1 ≤ a ∧ a ≤ 20
  · have e1 : iniB a = true := by unfold iniB; simpa using hi
    have e2 : ini a = a - 2 := by unfold ini; rw [if_pos hi]
    rw [e1, e2]
    simp only [Bool.true_eq_false, or_false]
    rw [if_neg (show ¬ n < 32768 from hn)]
    unfold syl
    repeat' split
    all_goals first
      | rfl
      | (exfalso; omega)
      | exact ralone_i _ (by omega) (by omega)
      | exact ralone_f _ (by omega) (by omega)
      | omega
  · have e1 : iniB a = false := by unfold iniB; simpa using hi
    rw [e1, if_pos (by omega), if_pos (by simp)]

set_option maxHeartbeats 2000000 in
theorem refSign_any (n : Int) (w : World) (h0 : 0 ≤ n) (h1 : n < 65536) :
    Calls Tryz.prog 166 #[.int .i64 n] w fun e w' => e = .returned (.int .i32 (signJ n)) ∧ Below w.heap.size w w' := by
  rw [← rsgn_eq n h0 h1]
  have c1 := fun w => refMedial_any (n / 32 % 32) w (by omega) (by omega)
  rw [rmed_rm _ (by omega) (by omega)] at c1
  have c2 := fun w => refFinal_any (n % 32) w (by omega) (by omega)
  have hm : -2 ≤ rm (n / 32 % 32) ∧ rm (n / 32 % 32) ≤ 20 := by have := med_bd (n / 32 % 32); unfold rm; split <;> omega
  have hf : -2 ≤ rfin (n % 32) ∧ rfin (n % 32) ≤ 27 := by unfold rfin; repeat' split <;> omega
  generalize rm (n / 32 % 32) = m at *
  generalize rfin (n % 32) = f at *
  obtain ⟨hm0, hm1⟩ := hm
  obtain ⟨hf0, hf1⟩ := hf
  have C1 := Lib.hid c1
  have C2 := Lib.hid c2
  clear c1 c2
  go_enter Tryz.func166, Tryz.ntmps166
  go_wp2_with (first
    | (go_at_call 207; refine (C1.out _).mono ?_; rintro e w1 ⟨rfl, hb1⟩)
    | (go_at_call 208; refine (C2.out _).mono ?_; rintro e w' ⟨rfl, rfl⟩)
    | (go_at_call 209; refine (refAlone_any _ _).mono ?_; rintro e w2 ⟨rfl, hb2⟩))
  all_goals go_ret
  all_goals (refine ⟨ret_i ?_, ?_⟩)
  all_goals (try (first | exact hb1 | exact hb1.trans (hb2.mono (by have := hb1.size; omega)) | exact Below.refl _ _))
  all_goals (clear C1 C2; go_light; unfold rsgn; (try simp only [beq_iff_eq, beq_eq_false_iff_ne, ne_eq] at *); repeat' split)
  all_goals first
    | rfl
    | (exfalso; omega)
    | omega
end Go.Proofs.YtogknbpmgflpgaaGreatDoor
/- Walks: octet.width, octet.Big. -/
namespace Go.Proofs.YtogknbpmgflpgaaGreatDoor
open Go.RowKit
set_option linter.unusedVariables false
set_option linter.unusedSimpArgs false

theorem infoU8 : (Tryz.prog.info? 5).map (fun i => (i.zero, i.size, i.bytes)) = some (some (.int .u8 0), 1, 1) := by kernel_rfl

/-- a size in bytes, brought to 0 to 8. -/
def widthOf (s : Int) : Nat := (min (max s 0) 8).toNat
theorem widthOf_le (s : Int) : widthOf s ≤ 8 := by unfold widthOf; omega
set_option maxHeartbeats 400000 in
theorem width_any (s : Int) (w : World) :
    Calls Tryz.prog 61 #[.int .i64 s] w fun e w' => e = .returned (.int .i64 (widthOf s)) ∧ w = w' := by
  go_enter Tryz.func61, Tryz.ntmps61
  go_wp2
  all_goals go_ret
  all_goals (refine ⟨ret_i ?_, rfl⟩; unfold widthOf; (try split at *) <;> omega)

/-- a number in so many bytes, the highest first. -/
def bigL (n : Int) : Nat → List UInt8
  | 0 => []
  | k + 1 => bigL (n / 256) k ++ [UInt8.ofNat (n % 256).toNat]
theorem bigL_length (n : Int) (k : Nat) : (bigL n k).length = k := by
  induction k generalizing n with
  | zero => rfl
  | succ k ih => simp [bigL, ih]

theorem set_rep (k : Nat) (b : UInt8) (s : List UInt8) : (List.replicate (k + 1) (0 : UInt8) ++ s).set k b = List.replicate k 0 ++ b :: s := by
  rw [List.replicate_succ', List.append_assoc, List.set_append_right _ _ (by simp)]
  simp

theorem byte_wrap (q : Int) (h : 0 ≤ q) : ((UInt8.ofNat (q % 256).toNat).toNat : Int) = q % 256 := by
  rw [UInt8.toNat_ofNat']
  omega

set_option maxHeartbeats 1000000 in
theorem big_any (n size : Int) (w : World) (h0 : 0 ≤ n) (h1 : n < 18446744073709551616) :
    Calls Tryz.prog 52 #[.int .u64 n, .int .i64 size] w fun e w' => e = .returned (.string ⟨(bigL n (widthOf size)).toArray⟩) ∧ Below w.heap.size w w' := by
  obtain ⟨i0, hi, hz0, hz1, hz2⟩ := info_parts infoU8
  have hw8 := widthOf_le size
  have c1 := fun w => width_any size w
  generalize widthOf size = m at *
  have C1 := Lib.hid c1
  clear c1
  obtain ⟨B, hB⟩ : ∃ B, B = w.heap.size := ⟨_, rfl⟩
  go_enter Tryz.func52, Tryz.ntmps52
  go_wp2_with (first
    | (go_at_call 61; refine (C1.out _).mono ?_; rintro e w' ⟨rfl, rfl⟩)
    | (refine wpList_make_full _ rfl _ _ 123 rfl w.heap.size 5 i0 (.int .u8 0) 1 Tryz.underlying123 hi hz0 hz1 .i64 .i64 (m : Int) (m : Int) m rfl rfl rfl rfl (by rw [hz2]; omega) (by unfold maxLen; omega) (Nat.le_refl _) ?_; intro W hown hgrow))
  rw [show (madeCells (Value.int IntKind.u8 0).cells (m * 1)).toList = bcells (List.replicate m 0) from by rw [show (Value.int IntKind.u8 0).cells = #[Value.int IntKind.u8 0] from rfl, toList_madeCells_one]; simp [bcells]] at hown
  have hbel : Below w.heap.size w W := (Below.refl _ _).grown hgrow (Nat.le_refl _) (by intro k hk; cases hk)
  clear hgrow
  rw [← hB] at hown hbel ⊢
  have HBs := Lib.hid hB
  clear hB
  go_loopw [0, 6] (fun q i wr => ∃ (k : Nat) (x : Int) (s : List UInt8), k ≤ m ∧ s.length = m - k ∧ 0 ≤ x ∧ x ≤ n ∧ q = .int .u64 x ∧ i = .int .i64 ((k : Int) - 1) ∧ bigL n m = bigL x k ++ s ∧
      wr.ownsRow B 5 1 (.slice (some ⟨B, 0, none⟩) m m) m (bcells (List.replicate k 0 ++ s)) ∧ Below B w wr) (fun _ i _ => (intOf i + 1).toNat)
  case atStart => exact ⟨m, n, [], Nat.le_refl _, by simp, h0, Int.le_refl _, rfl, rfl, by simp, by simpa using hown, hbel⟩
  case round =>
    obtain ⟨k, x, s, hk, hsl, hx0, hx1, rfl, rfl, hbig, hown, hbel⟩ := hrel
    cases k with
    | zero =>
      have hcv := conv_own (P := Tryz.prog) 123 9 Tryz.underlying123 Tryz.underlying5 Tryz.underlying9 hown
      have HB := Lib.hid hbig
      clear hbig
      go_wp2
      go_ret
      exact ⟨ret_s (by rw [HB.out]; rfl), by rw [← HBs.out]; exact hbel⟩
    | succ j =>
      have ej : (((j + 1 : Nat) : Int) - 1) = (j : Int) := by omega
      rw [ej]
      have hc : wr.cell? ⟨B, j, none⟩ = some (.int .u8 0) := by
        rw [hown.cellAt j (by omega)]; simp [bcells, List.getElem?_append]
      have hf := hown.frozenAt j
      have hst := hown.stored j (.int .u8 ((UInt8.ofNat (x % 256).toNat).toNat : Int))
      rw [bcells_set, set_rep, byte_wrap x hx0] at hst
      have HS := Lib.hid hst
      have HB := Lib.hid hbig
      have HL := Lib.hid hsl
      clear hbig hst ej hown hsl
      go_wp2
      go_roundw
      case rel => exact ⟨j, x / 256, UInt8.ofNat (x % 256).toNat :: s, by omega, by have := HL.out; simp; omega, by omega, by omega, rfl, rfl, by rw [HB.out, bigL]; simp, HS.out.1, hbel.setCell (Nat.le_refl _) _⟩
      case measure => simp [intOf]
end Go.Proofs.YtogknbpmgflpgaaGreatDoor
namespace Go.Proofs.YtogknbpmgflpgaaGreatDoor
open Go.RowKit
set_option linter.unusedVariables false
set_option linter.unusedSimpArgs false

/-- the letter at a place of the parts that stand alone. -/
def letter (k : Int) : Int := ((aloneL.getD k.toNat 0).toNat : Int)
/-- the code of a sign, as package johab makes it; -1: none. -/
def codeJ (p : Int) : Int :=
  if 44032 ≤ p ∧ p < 55204 then 32768 + ((p - 44032) / 28 / 21 + 2) * 1024 + medCode ((p - 44032) / 28 % 21) * 32 + finCode ((p - 44032) % 28)
  else if 12623 ≤ p ∧ p < 12644 then 32768 + (-1 + 2) * 1024 + medCode (p - 12623) * 32 + finCode 0
  else if 12593 ≤ p ∧ p < 12623 then
    if letter (p - 12593) < 97 then 32768 + (letter (p - 12593) - 65 + 2) * 1024 + medCode (-1) * 32 + finCode 0
    else 32768 + (-1 + 2) * 1024 + medCode (-1) * 32 + finCode (letter (p - 12593) - 97)
  else -1
theorem letter_fin : ∀ k : Fin 30, (65 ≤ letter k.val ∧ letter k.val ≤ 83) ∨ (97 ≤ letter k.val ∧ letter k.val ≤ 115) := by decide +kernel
theorem letter_bd (k : Int) (h0 : 0 ≤ k) (h1 : k < 30) : (65 ≤ letter k ∧ letter k ≤ 83) ∨ (97 ≤ letter k ∧ letter k ≤ 115) := by
  have := letter_fin ⟨k.toNat, by omega⟩
  simp only at this
  rwa [show ((k.toNat : Nat) : Int) = k from by omega] at this

theorem widthOf2 : widthOf 2 = 2 := by decide
theorem bytes_none (p : Int) (w : World) (h0 : -2147483648 ≤ p) (h1 : p ≤ 2147483647) (h : codeJ p < 0) :
    Calls Tryz.prog 141 #[.int .i32 p] w fun e w' =>
      e = .returned (.tuple #[.string ⟨#[]⟩, .bool false]) ∧ Below w.heap.size w w' := by
  have hp : ¬ (44032 ≤ p ∧ p < 55204) ∧ ¬ (12593 ≤ p ∧ p < 12644) := by
    constructor
    · intro a
      have m := medCode_bd ((p - 44032) / 28 % 21) (by omega) (by omega)
      have f := finCode_bd ((p - 44032) % 28) (by omega) (by omega)
      unfold codeJ at h
      rw [if_pos a] at h
      omega
    · intro a
      unfold codeJ at h
      rw [if_neg (by omega)] at h
      by_cases b : 12623 ≤ p
      · have m := medCode_bd (p - 12623) (by omega) (by omega)
        have f := finCode_bd 0 (by omega) (by omega)
        rw [if_pos (by omega)] at h; omega
      · rw [if_neg (by omega), if_pos (by omega)] at h
        have m := medCode_bd (-1) (by omega) (by omega)
        have f := finCode_bd 0 (by omega) (by omega)
        have l := letter_bd (p - 12593) (by omega) (by omega)
        split at h
        · omega
        · have f' := finCode_bd (letter (p - 12593) - 97) (by omega) (by omega)
          omega
  clear h
  obtain ⟨a1, a2⟩ := hp
  have b1 : 44032 ≤ p → 55204 ≤ p := by omega
  by_cases c1 : 44032 ≤ p
  all_goals by_cases c2 : 12593 ≤ p
  any_goals (exfalso; omega)
  all_goals (first | (have c3 : 55204 ≤ p := by omega) | (have c4 : 12644 ≤ p := by omega) | skip)
  all_goals (clear a1 a2 b1)
  all_goals (
    go_enter Tryz.func141, Tryz.ntmps141
    go_wp2_with fail
    go_ret2
    exact ⟨rfl, Below.refl _ _⟩)

set_option maxHeartbeats 1000000 in
theorem bytes_syl (p : Int) (w : World) (h0 : 44032 ≤ p) (h1 : p < 55204) :
    Calls Tryz.prog 141 #[.int .i32 p] w fun e w' =>
      e = .returned (.tuple #[.string ⟨(bigL (codeJ p) 2).toArray⟩, .bool true]) ∧ Below w.heap.size w w' := by
  have m := medCode_bd ((p - 44032) / 28 % 21) (by omega) (by omega)
  have f := finCode_bd ((p - 44032) % 28) (by omega) (by omega)
  have e : codeJ p = 32768 + ((p - 44032) / 28 / 21 + 2) * 1024 + medCode ((p - 44032) / 28 % 21) * 32 + finCode ((p - 44032) % 28) := by
    unfold codeJ; rw [if_pos ⟨h0, h1⟩]
  rw [e]
  clear e
  go_enter Tryz.func141, Tryz.ntmps141
  go_wp2_with (first
    | (go_at_call 178; refine (code_any _ _ _ _ (by omega) (by omega) (by omega) (by omega) (by omega) (by omega)).mono ?_; rintro e w' ⟨rfl, rfl⟩)
    | (go_at_call 52; refine (big_any _ _ _ (by omega) (by omega)).mono ?_; rintro e w1 ⟨rfl, hb⟩))
  rw [widthOf2]
  go_ret2
  exact ⟨rfl, hb⟩

set_option maxHeartbeats 1000000 in
theorem bytes_vow (p : Int) (w : World) (h0 : 12623 ≤ p) (h1 : p < 12644) :
    Calls Tryz.prog 141 #[.int .i32 p] w fun e w' =>
      e = .returned (.tuple #[.string ⟨(bigL (codeJ p) 2).toArray⟩, .bool true]) ∧ Below w.heap.size w w' := by
  have m := medCode_bd (p - 12623) (by omega) (by omega)
  have f := finCode_bd 0 (by omega) (by omega)
  have e : codeJ p = 32768 + (-1 + 2) * 1024 + medCode (p - 12623) * 32 + finCode 0 := by
    unfold codeJ; rw [if_neg (by omega), if_pos ⟨h0, h1⟩]
  rw [e]
  clear e
  go_enter Tryz.func141, Tryz.ntmps141
  go_wp2_with (first
    | (go_at_call 178; refine (code_any _ _ _ _ (by omega) (by omega) (by omega) (by omega) (by omega) (by omega)).mono ?_; rintro e w' ⟨rfl, rfl⟩)
    | (go_at_call 52; refine (big_any _ _ _ (by omega) (by omega)).mono ?_; rintro e w1 ⟨rfl, hb⟩))
  rw [widthOf2]
  go_ret2
  exact ⟨rfl, hb⟩

set_option maxHeartbeats 1000000 in
theorem bytes_con (k : Nat) (w : World) (h1 : k < 30) :
    Calls Tryz.prog 141 #[.int .i32 (12593 + k)] w fun e w' =>
      e = .returned (.tuple #[.string ⟨(bigL (codeJ (12593 + k)) 2).toArray⟩, .bool true]) ∧ Below w.heap.size w w' := by
  have hx : ∀ (h : k < (⟨#[65, 66, 100, 67, 102, 103, 68, 69, 70, 106, 107, 108, 109, 110, 111, 112, 71, 72, 73, 115, 74, 75, 76, 77, 78, 79, 80, 81, 82, 83]⟩ : ByteArray).size),
      (((⟨#[65, 66, 100, 67, 102, 103, 68, 69, 70, 106, 107, 108, 109, 110, 111, 112, 71, 72, 73, 115, 74, 75, 76, 77, 78, 79, 80, 81, 82, 83]⟩ : ByteArray)[k]'h).toNat : Int) = letter k := by
    intro h
    unfold letter
    rw [Int.toNat_natCast]
    have : aloneL[k]'h1 = aloneL.getD k 0 := by rw [List.getD_eq_getElem?_getD, List.getElem?_eq_getElem (h := h1)]; rfl
    rw [← this]
    rfl
  have m := medCode_bd (-1) (by omega) (by omega)
  have f := finCode_bd 0 (by omega) (by omega)
  have e : codeJ (12593 + k) = if letter k < 97 then 32768 + (letter k - 65 + 2) * 1024 + medCode (-1) * 32 + finCode 0
    else 32768 + (-1 + 2) * 1024 + medCode (-1) * 32 + finCode (letter k - 97) := by
    unfold codeJ; rw [if_neg (by omega), if_neg (by omega), if_pos (by omega), show (12593 + (k : Int) - 12593) = k from by omega]
  have l := letter_bd k (by omega) (by omega)
  rw [e]
  clear e
  generalize letter k = x at *
  rcases l with ⟨l0, l1⟩ | ⟨l0, l1⟩
  · rw [if_pos (by omega)]
    go_enter Tryz.func141, Tryz.ntmps141
    go_wp2_with (first
      | (go_at_call 178; refine (code_any _ _ _ _ (by omega) (by omega) (by omega) (by omega) (by omega) (by omega)).mono ?_; rintro e w' ⟨rfl, rfl⟩)
      | (go_at_call 52; refine (big_any _ _ _ (by omega) (by omega)).mono ?_; rintro e w1 ⟨rfl, hb⟩))
    rw [widthOf2]
    go_ret2
    exact ⟨rfl, hb⟩
  · rw [if_neg (by omega)]
    have f := finCode_bd (x - 97) (by omega) (by omega)
    go_enter Tryz.func141, Tryz.ntmps141
    go_wp2_with (first
      | (go_at_call 178; refine (code_any _ _ _ _ (by omega) (by omega) (by omega) (by omega) (by omega) (by omega)).mono ?_; rintro e w' ⟨rfl, rfl⟩)
      | (go_at_call 52; refine (big_any _ _ _ (by omega) (by omega)).mono ?_; rintro e w1 ⟨rfl, hb⟩))
    rw [widthOf2]
    go_ret2
    exact ⟨rfl, hb⟩
end Go.Proofs.YtogknbpmgflpgaaGreatDoor
/- Plain laws: the sign of two bytes and the bytes of a sign are each other's inverse. -/
namespace Go.Proofs.YtogknbpmgflpgaaGreatDoor
set_option linter.unusedVariables false
set_option linter.unusedSimpArgs false

theorem medCode_med (b : Int) (h : medB b = true) : medCode (med b) = b := by
  unfold medB at h; simp at h; unfold medCode med; repeat' split
  all_goals omega
theorem finCode_fin (c : Int) (h : finB c = true) : finCode (fin c) = c := by
  unfold finB at h; simp at h; unfold finCode fin; repeat' split
  all_goals omega
theorem med_medCode (m : Int) (h0 : -1 ≤ m) (h1 : m ≤ 20) : med (medCode m) = m ∧ medB (medCode m) = true := by
  unfold medB; simp only [decide_eq_true_eq]; unfold medCode med; repeat' split
  all_goals omega
theorem fin_finCode (f : Int) (h0 : 0 ≤ f) (h1 : f ≤ 27) : fin (finCode f) = f ∧ finB (finCode f) = true := by
  unfold finB; simp only [decide_eq_true_eq]; unfold finCode fin; repeat' split
  all_goals omega
theorem ini_of (a : Int) (h : iniB a = true) : ini a = a - 2 ∧ 1 ≤ a ∧ a ≤ 20 := by
  unfold iniB at h; simp at h; unfold ini; omega
theorem iniB_of (a : Int) (h0 : 1 ≤ a) (h1 : a ≤ 20) : iniB a = true := by unfold iniB; simp; omega

theorem cons_i : ∀ i : Fin 19, 12593 ≤ cons (65 + (i.val : Int)) ∧ cons (65 + (i.val : Int)) < 12623 ∧ letter (cons (65 + (i.val : Int)) - 12593) = 65 + (i.val : Int) := by decide +kernel
theorem cons_f : ∀ i : Fin 28, cons (97 + (i.val : Int)) = 0 ∨ 12593 ≤ cons (97 + (i.val : Int)) ∧ cons (97 + (i.val : Int)) < 12623 ∧ letter (cons (97 + (i.val : Int)) - 12593) = 97 + (i.val : Int) := by decide +kernel
theorem cons_i' (i : Int) (h0 : 0 ≤ i) (h1 : i ≤ 18) : 12593 ≤ cons (65 + i) ∧ cons (65 + i) < 12623 ∧ letter (cons (65 + i) - 12593) = 65 + i := by
  have := cons_i ⟨i.toNat, by omega⟩
  simp only at this
  rwa [show ((i.toNat : Nat) : Int) = i from by omega] at this
theorem cons_f' (i : Int) (h0 : 0 ≤ i) (h1 : i ≤ 27) : cons (97 + i) = 0 ∨ 12593 ≤ cons (97 + i) ∧ cons (97 + i) < 12623 ∧ letter (cons (97 + i) - 12593) = 97 + i := by
  have := cons_f ⟨i.toNat, by omega⟩
  simp only at this
  rwa [show ((i.toNat : Nat) : Int) = i from by omega] at this

/-- the bytes lead back from the sign. -/
theorem code_sign (n : Int) (h0 : 0 ≤ n) (h1 : n < 65536) (h : signJ n ≠ 0) : codeJ (signJ n) = n := by
  rw [sgn_eq] at h ⊢
  have hb0 := med_bd (n / 32 % 32)
  have hc0 := fin_bd (n % 32)
  unfold sgn at h ⊢
  by_cases c1 : n < 32768 ∨ iniB (n / 1024 % 32) = false ∨ medB (n / 32 % 32) = false ∨ finB (n % 32) = false
  · rw [if_pos c1] at h; exact absurd rfl h
  rw [if_neg c1] at h ⊢
  have d0 : ¬ n < 32768 := fun x => c1 (Or.inl x)
  have d1 : iniB (n / 1024 % 32) = true := by cases e : iniB (n / 1024 % 32) <;> simp [e] at c1 ⊢
  have d2 : medB (n / 32 % 32) = true := by cases e : medB (n / 32 % 32) <;> simp [e] at c1 ⊢
  have d3 : finB (n % 32) = true := by cases e : finB (n % 32) <;> simp [e] at c1 ⊢
  obtain ⟨ei, ha1, ha2⟩ := ini_of _ d1
  have em := medCode_med _ d2
  have ef := finCode_fin _ d3
  rw [ei] at h ⊢
  generalize med (n / 32 % 32) = m at *
  generalize fin (n % 32) = f at *
  by_cases c2 : n / 1024 % 32 - 2 ≠ -1 ∧ m ≠ -1
  · rw [if_pos c2] at h ⊢
    have es : syl (n / 1024 % 32 - 2) m f = 44032 + ((n / 1024 % 32 - 2) * 21 + m) * 28 + f := by unfold syl; rw [if_pos (by omega)]
    rw [es]
    unfold codeJ
    rw [if_pos (by omega)]
    rw [show (44032 + ((n / 1024 % 32 - 2) * 21 + m) * 28 + f - 44032) / 28 / 21 = n / 1024 % 32 - 2 from by omega,
      show (44032 + ((n / 1024 % 32 - 2) * 21 + m) * 28 + f - 44032) / 28 % 21 = m from by omega,
      show (44032 + ((n / 1024 % 32 - 2) * 21 + m) * 28 + f - 44032) % 28 = f from by omega, em, ef]
    omega
  rw [if_neg c2] at h ⊢
  by_cases c3 : n / 1024 % 32 - 2 = -1 ∧ m ≠ -1 ∧ f = 0
  · rw [if_pos c3]
    unfold codeJ
    rw [if_neg (by omega), if_pos (by omega), show 12623 + m - 12623 = m from by omega, em]
    rw [c3.2.2] at ef
    rw [ef]
    omega
  rw [if_neg c3] at h ⊢
  by_cases c4 : n / 1024 % 32 - 2 ≠ -1 ∧ m = -1 ∧ f = 0
  · rw [if_pos c4] at h ⊢
    obtain ⟨k0, k1, k2⟩ := cons_i' (n / 1024 % 32 - 2) (by omega) (by omega)
    unfold codeJ
    rw [if_neg (by omega), if_neg (by omega), if_pos (by omega), k2, if_pos (by omega)]
    rw [c4.2.2] at ef
    rw [c4.2.1] at em
    rw [em, ef]
    omega
  rw [if_neg c4] at h ⊢
  by_cases c5 : n / 1024 % 32 - 2 = -1 ∧ m = -1 ∧ f ≠ 0
  · rw [if_pos c5] at h ⊢
    rcases cons_f' f (by omega) (by omega) with k | ⟨k0, k1, k2⟩
    · exact absurd k h
    unfold codeJ
    rw [if_neg (by omega), if_neg (by omega), if_pos (by omega), k2, if_neg (by omega)]
    rw [c5.2.1] at em
    rw [em, show 97 + f - 97 = f from by omega, ef]
    omega
  rw [if_neg c5] at h
  exact absurd rfl h

theorem sign_code_low : ∀ k : Fin 51, signJ (codeJ (12593 + (k.val : Int))) = 12593 + (k.val : Int) := by decide +kernel
/-- the signs that have bytes. -/
def hasJ (p : Int) : Prop := (12593 ≤ p ∧ p < 12644) ∨ (44032 ≤ p ∧ p < 55204)
theorem codeJ_neg (p : Int) (h : ¬ hasJ p) : codeJ p = -1 := by
  unfold hasJ at h
  unfold codeJ
  rw [if_neg (by omega), if_neg (by omega), if_neg (by omega)]
theorem sign_code (p : Int) (h : hasJ p) : signJ (codeJ p) = p := by
  rcases h with ⟨h0, h1⟩ | ⟨h0, h1⟩
  · have := sign_code_low ⟨(p - 12593).toNat, by omega⟩
    simp only at this
    rwa [show 12593 + (((p - 12593).toNat : Nat) : Int) = p from by omega] at this
  · have e : codeJ p = 32768 + ((p - 44032) / 28 / 21 + 2) * 1024 + medCode ((p - 44032) / 28 % 21) * 32 + finCode ((p - 44032) % 28) := by
      unfold codeJ; rw [if_pos ⟨h0, h1⟩]
    have hm := medCode_bd ((p - 44032) / 28 % 21) (by omega) (by omega)
    have hf := finCode_bd ((p - 44032) % 28) (by omega) (by omega)
    obtain ⟨m1, m2⟩ := med_medCode ((p - 44032) / 28 % 21) (by omega) (by omega)
    obtain ⟨f1, f2⟩ := fin_finCode ((p - 44032) % 28) (by omega) (by omega)
    rw [e, sgn_eq]
    have hi0 : 0 ≤ (p - 44032) / 28 / 21 := by omega
    have hi1 : (p - 44032) / 28 / 21 ≤ 18 := by omega
    have ep : p = 44032 + ((p - 44032) / 28 / 21 * 21 + (p - 44032) / 28 % 21) * 28 + (p - 44032) % 28 := by omega
    have hm0 : 0 ≤ (p - 44032) / 28 % 21 ∧ (p - 44032) / 28 % 21 ≤ 20 := by omega
    have hf0 : 0 ≤ (p - 44032) % 28 ∧ (p - 44032) % 28 ≤ 27 := by omega
    clear e h0 h1
    generalize (p - 44032) / 28 / 21 = i at *
    generalize (p - 44032) / 28 % 21 = m at *
    generalize (p - 44032) % 28 = f at *
    generalize medCode m = M at *
    generalize finCode f = F at *
    rw [show (32768 + (i + 2) * 1024 + M * 32 + F) / 1024 % 32 = i + 2 from by omega, show (32768 + (i + 2) * 1024 + M * 32 + F) / 32 % 32 = M from by omega,
      show (32768 + (i + 2) * 1024 + M * 32 + F) % 32 = F from by omega, m1, m2, f1, f2, iniB_of _ (by omega) (by omega), show ini (i + 2) = i from by unfold ini; omega]
    unfold sgn
    rw [if_neg (by simp; omega), if_pos (by omega)]
    unfold syl
    rw [if_pos (by omega)]
    exact ep.symm
theorem codeJ_range (p : Int) (h : hasJ p) : 32768 ≤ codeJ p ∧ codeJ p < 65536 := by
  rcases h with ⟨h0, h1⟩ | ⟨h0, h1⟩
  · unfold codeJ
    rw [if_neg (by omega)]
    have m := medCode_bd (-1) (by omega) (by omega)
    have f := finCode_bd 0 (by omega) (by omega)
    split
    · have m := medCode_bd (p - 12623) (by omega) (by omega); omega
    · rw [if_pos (by omega)]
      have l := letter_bd (p - 12593) (by omega) (by omega)
      split
      · omega
      · have f' := finCode_bd (letter (p - 12593) - 97) (by omega) (by omega); omega
  · unfold codeJ
    rw [if_pos ⟨h0, h1⟩]
    have hm := medCode_bd ((p - 44032) / 28 % 21) (by omega) (by omega)
    have hf := finCode_bd ((p - 44032) % 28) (by omega) (by omega)
    omega
theorem signJ_has (n : Int) (h0 : 0 ≤ n) (h1 : n < 65536) (h : signJ n ≠ 0) : hasJ (signJ n) := by
  by_cases hh : hasJ (signJ n)
  · exact hh
  · have := codeJ_neg _ hh
    rw [code_sign n h0 h1 h] at this
    omega
end Go.Proofs.YtogknbpmgflpgaaGreatDoor
/- Walks: the reference's Code; Awake. -/
namespace Go.Proofs.YtogknbpmgflpgaaGreatDoor
open Go.RowKit
set_option linter.unusedVariables false
set_option linter.unusedSimpArgs false

theorem bigL2 (L T : UInt8) : bigL ((L.toNat : Int) * 256 + (T.toNat : Int)) 2 = [L, T] := by
  have h1 := L.toNat_lt
  have h2 := T.toNat_lt
  simp only [bigL, List.nil_append, List.cons_append]
  rw [show (((L.toNat : Int) * 256 + (T.toNat : Int)) / 256 % 256).toNat = L.toNat from by omega, show (((L.toNat : Int) * 256 + (T.toNat : Int)) % 256).toNat = T.toNat from by omega]
  simp
theorem bytes_has (p : Int) (L T : UInt8) (w : World) (h : hasJ p) (hc : codeJ p = (L.toNat : Int) * 256 + (T.toNat : Int)) :
    Calls Tryz.prog 141 #[.int .i32 p] w fun e w' => e = .returned (.tuple #[.string ⟨#[L, T]⟩, .bool true]) ∧ Below w.heap.size w w' := by
  have hb := bigL2 L T
  rw [← hc] at hb
  have hs : (⟨#[L, T]⟩ : ByteArray) = ⟨(bigL (codeJ p) 2).toArray⟩ := by rw [hb]
  rw [hs]
  rcases h with ⟨h0, h1⟩ | ⟨h0, h1⟩
  · by_cases h2 : p < 12623
    · obtain ⟨k, rfl⟩ : ∃ k : Nat, p = 12593 + k := ⟨(p - 12593).toNat, by omega⟩
      exact bytes_con k w (by omega)
    · exact bytes_vow p w (by omega) h1
  · exact bytes_syl p w h0 h1
theorem bytes_hasnt (p : Int) (w : World) (h0 : -2147483648 ≤ p) (h1 : p ≤ 2147483647) (h : ¬ hasJ p) :
    Calls Tryz.prog 141 #[.int .i32 p] w fun e w' => e = .returned (.tuple #[.string ⟨#[]⟩, .bool false]) ∧ Below w.heap.size w w' :=
  bytes_none p w h0 h1 (by rw [codeJ_neg p h]; omega)

/-- the loop ahead of the code that is looked for. -/
def CodeLow (p k : Int) : Prop := k ≤ codeJ p
theorem low_step (p k : Int) (h : hasJ p) (h0 : 0 ≤ k) (hl : CodeLow p k) (hk : ¬ signJ k = p) : CodeLow p (k + 1) := by
  unfold CodeLow at *
  by_cases e : k = codeJ p
  · exact absurd (by rw [e]; exact sign_code p h) hk
  · omega
theorem low_hit (p k : Int) (h : hasJ p) (h0 : 0 ≤ k) (h1 : k < 65536) (hk : signJ k = p) : codeJ p = k := by
  rw [← hk]
  refine code_sign k h0 h1 ?_
  rw [hk]
  unfold hasJ at h; omega
set_option maxHeartbeats 1000000 in
theorem awake06_any (w : World) : Calls Tryz.prog 104 #[] w fun e w' => e = .returned (.bool true) ∧ Below w.heap.size w w' := by
  have c1 : signJ (136 * 256 + 97) = 44032 := by decide +kernel
  have c2 : codeJ 12595 = ((132 : UInt8).toNat : Int) * 256 + ((68 : UInt8).toNat : Int) := by decide +kernel
  have k1 := fun w => sign_any 136 97 w (by omega) (by omega) (by omega) (by omega)
  have k2 := fun w => bytes_has 12595 132 68 w (by unfold hasJ; omega) c2
  unfold signJB at k1
  rw [c1] at k1
  clear c1 c2
  have K1 := Lib.hid k1
  have K2 := Lib.hid k2
  clear k1 k2
  go_enter Tryz.func104, Tryz.ntmps104
  go_wp2_with (first
    | (go_at_call 140; refine (K1.out _).mono ?_; rintro e w1 ⟨rfl, rfl⟩)
    | (go_at_call 141; refine (K2.out _).mono ?_; rintro e w1 ⟨rfl, hb⟩))
  go_ret
  exact ⟨rfl, hb⟩
end Go.Proofs.YtogknbpmgflpgaaGreatDoor
