/- Walk: what is wrong, as a line (report.Fault). -/
import Derived.Deep.RegionLaw
import Derived.Deep.RegionHeld3
import Derived.Test.YtankkegoeocobaaGreatDoorHn
import Derived.Test.YtankkegoeocobaaGreatDoorMMore
namespace Go.Proofs.YtankkegoeocobaaGreatDoor
open Go.RowKit
set_option linter.unusedVariables false
set_option linter.unusedSimpArgs false
set_option maxRecDepth 100000 in
set_option maxHeartbeats 4000000 in
theorem fault_bad (co at_ : Int) (W1 D : ByteArray) (w : World) (hco : co ≠ 0) (hW : W1.size ≤ 1000) (hD : D.size ≤ 1000)
    (kw : ∀ w', Below w.heap.size w w' → Calls Tryz.prog 59 #[.int .i64 co] w' fun e w'' => e = .returned (.string W1) ∧ Below w'.heap.size w' w'')
    (ki : ∀ w', Below w.heap.size w w' → Calls Tryz.prog 61 #[.int .i64 at_] w' fun e w'' => e = .returned (.string D) ∧ Below w'.heap.size w' w'') :
    Calls Tryz.prog 22 #[.agg #[.int .i64 co, .int .i64 at_]] w fun e w' => e = .returned (.string (W1 ++ ⟨#[32, 97, 116, 32]⟩ ++ D)) ∧ Below w.heap.size w w' := by
  have kb : ∀ w, Calls Tryz.prog 16 #[.agg #[.int .i64 co, .int .i64 at_]] w fun e w' => e = .returned (.bool true) ∧ Below w.heap.size w w' := fun w => (bad_any co at_ w).mono fun e w' ⟨h1, h2⟩ => ⟨by rw [h1]; simp [hco], h2⟩
  obtain ⟨W, hWW⟩ : ∃ W, W = w.alloc (.cells #[.int .i64 co, .int .i64 at_] 50) := ⟨_, rfl⟩
  have hbW : Below w.heap.size w W := by rw [hWW]; exact bal (Below.refl _ _) _
  obtain ⟨p0, p1⟩ : W.cell? ⟨w.heap.size, 0, none⟩ = some (.int .i64 co) ∧ W.cell? ⟨w.heap.size, 1, none⟩ = some (.int .i64 at_) := by
    rw [hWW]; exact ⟨World.cell?_alloc_new _ _ _ _ , World.cell?_alloc_new _ _ _ _⟩
  have KW := Lib.hid kw
  have KI := Lib.hid ki
  have KB := Lib.hid kb
  have HBW := Lib.hid hbW
  clear kw ki kb hbW
  go_enter Tryz.func22, Tryz.ntmps22
  go_wp2_with fail
  rw [← hWW]
  go_wp2_with (go_at_call 16; go_loud (with_reducible refine (KB.out _).mono ?_); go_loud (rintro e w1 ⟨rfl, hb1⟩); have q0 := kc hb1 p0; have q1 := kc hb1 p1)
  have kj : ∀ w' : World, Calls Tryz.prog 60 #[.slice (some ⟨w'.heap.size, 0, none⟩) 3 3] (w'.alloc (.cells #[.string W1, .string ⟨#[32, 97, 116, 32]⟩, .string D] 9)) fun e w'' => e = .returned (.string (W1 ++ ⟨#[32, 97, 116, 32]⟩ ++ D)) ∧ Below (w'.alloc (.cells #[.string W1, .string ⟨#[32, 97, 116, 32]⟩, .string D] 9)).heap.size (w'.alloc (.cells #[.string W1, .string ⟨#[32, 97, 116, 32]⟩, .string D] 9)) w'' := by
    intro w'
    have hl : ([W1, (⟨#[32, 97, 116, 32]⟩ : ByteArray), D].map bl).flatten.length ≤ 140737488355328 := by
      simp [bl]
      have h1 : W1.data.size = W1.size := rfl
      have h2 : D.data.size = D.size := rfl
      omega
    have h := ojoin_any w'.heap.size _ [W1, ⟨#[32, 97, 116, 32]⟩, D] _ (World.ownsRow_lit (size := 1) (base := w'.heap.size) (e := 9) w' #[.string W1, .string ⟨#[32, 97, 116, 32]⟩, .string D] 3 (Nat.le_refl _) (by unfold maxLen; omega) rfl) (by simp) (by simp) hl
    refine h.mono fun e w'' ⟨h1, h2⟩ => ⟨?_, h2⟩
    rw [h1]
    congr 2
    apply bl_eq'
    simp [bl, ByteArray.data_append]
  have hb1w := bt HBW.out hb1
  have KSA : Hid (∀ wz, Below w1.heap.size w1 wz → wz.cell? ⟨w.heap.size, 0, none⟩ = some (.int .i64 co) ∧ wz.cell? ⟨w.heap.size, 1, none⟩ = some (.int .i64 at_)) := Lib.hid fun wz hb => ⟨kc hb q0, kc hb q1⟩
  have KW1 := Lib.hid fun w' (hb : Below w1.heap.size w1 w') => (KW.out w' (bt hb1w hb)).mono fun e w'' q => (⟨q.1, bt hb q.2⟩ : _ ∧ Below w1.heap.size w1 w'')
  have KI1 := Lib.hid fun w' (hb : Below w1.heap.size w1 w') => (KI.out w' (bt hb1w hb)).mono fun e w'' q => (⟨q.1, bt hb q.2⟩ : _ ∧ Below w1.heap.size w1 w'')
  have KJ1 := Lib.hid fun w' (hb : Below w1.heap.size w1 w') => (kj w').mono fun e w'' q => (⟨q.1, bt (bal hb _) q.2⟩ : _ ∧ Below w1.heap.size w1 w'')
  have hbk := Below.refl w1.heap.size w1
  have HB1W := Lib.hid hb1w
  clear kj hb1w hb1 hWW p0 p1 q0 q1 KW KI KB
  go_region_held3 (fun w' => w'.cell? ⟨w.heap.size, 0, none⟩ = some (.int .i64 co) ∧ w'.cell? ⟨w.heap.size, 1, none⟩ = some (.int .i64 at_))
    (first | (with_reducible refine KSA.out _ ?_; (first | exact hbk | exact hbk.drew | exact bal hbk _)) | go_keep)
    (first
      | (go_at_call 59; refine (KW1.out _ ?_).mono ?_; (first | exact hbk | exact bdn hbk _ | exact hbk.drew); clear hbk; rintro e w10 ⟨rfl, hbk⟩)
      | (go_at_call 61; refine (KI1.out _ ?_).mono ?_; (first | exact hbk | exact bdn hbk _ | exact hbk.drew); clear hbk; rintro e w11 ⟨rfl, hbk⟩)
      | (go_at_call 60; refine (KJ1.out _ ?_).mono ?_; (first | exact hbk | exact bdn hbk _ | exact hbk.drew); clear hbk; rintro e w12 ⟨rfl, hbk⟩))
  go_wp2_with fail
  go_ret
  exact ⟨rfl, bt HB1W.out hbk⟩
end Go.Proofs.YtankkegoeocobaaGreatDoor
