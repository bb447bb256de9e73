/- The law's Light (layer 21). -/
import Derived.Test.YtgidlcdgpiapkaaGreatDoorFe
namespace Go.Proofs.YtgidlcdgpiapkaaGreatDoor
open Go.RowKit
set_option linter.unusedVariables false
set_option linter.unusedSimpArgs false

def lightT (m : Mt) : Bool := decide (m.body.size ≤ 500)
def flightM (f : Fl) : Bool := f.ms.all lightT && decide (f.ms.length ≤ 30) && decide (f.sound.size ≤ 500) && lightM f.b
set_option maxRecDepth 100000 in
set_option maxHeartbeats 4000000 in
theorem flight_any (vm vb : Value) (f : Fl) (w : World) (hrow : FlRow w vm vb f) (hok : okFl f) :
    Calls Tryz.prog 16 #[flV vm vb f] w fun e w' => e = .returned (.bool (flightM f)) ∧ Below w.heap.size w w' := by
  have kl : ∀ w', Below w.heap.size w w' → Calls Tryz.prog 58 #[.agg #[.string f.b.vt, .int .i64 f.b.vs, vb]] w' fun e w'' => e = .returned (.bool (lightM f.b)) ∧ Below w'.heap.size w' w'' := fun w' hb => light_any vb f.b w' (hrow.2.keep hb) hok.1
  obtain ⟨⟨am, cm, rfl, hc⟩, ⟨an, cn, rfl, _⟩⟩ := hrow
  obtain ⟨_, o2, o3, o4, _, _⟩ := hok
  obtain ⟨R, hR⟩ : ∃ R, R = flightM f := ⟨_, rfl⟩
  rw [← hR]
  unfold flightM at hR
  generalize lightM f.b = lm at *
  unfold flV
  obtain ⟨ms, ⟨vt, vs, ns⟩, at_, snd⟩ := f
  simp only at kl hc o2 o3 o4 hR ⊢
  obtain ⟨n, hn⟩ : ∃ n, n = ms.length := ⟨_, rfl⟩
  obtain ⟨nn, hnn⟩ : ∃ nn, nn = ns.length := ⟨_, rfl⟩
  rw [← hn] at o2 hR ⊢
  rw [← hnn] at kl ⊢
  unfold maxLen at o2 o3 o4
  have HC := Lib.hid hc
  have HN := Lib.hid hn
  have HNN := Lib.hid hnn
  have O3 := Lib.hid o3
  have HR := Lib.hid hR
  have KL := Lib.hid kl
  clear hc hn hnn o3 hR kl
  go_enter Tryz.func16, Tryz.ntmps16
  go_wp2_with fail
  obtain ⟨W, hW⟩ : ∃ W, W = w.alloc (.cells #[.slice am n cm, .string vt, .int .i64 vs, .slice an nn cn, .int .i64 at_, .string snd] 31) := ⟨_, rfl⟩
  rw [← hW]
  have hbW : Below w.heap.size w W := by rw [hW]; exact bal (Below.refl _ _) _
  have lc : ∀ (i : Nat) (u : Value), (#[.slice am n cm, .string vt, .int .i64 vs, .slice an nn cn, .int .i64 at_, .string snd] : Array Value)[i]? = some u → W.cell? ⟨w.heap.size, i, none⟩ = some u := by
    intro i u hu; rw [hW]; exact (Live.fresh w _ 31 i u hu).1
  have C0 := Lib.hid (lc 0 _ rfl)
  have C1 := Lib.hid (lc 1 _ rfl)
  have C2 := Lib.hid (lc 2 _ rfl)
  have C3 := Lib.hid (lc 3 _ rfl)
  have C5 := Lib.hid (lc 5 _ rfl)
  clear hW lc
  have HBW := Lib.hid hbW
  clear hbW
  go_loopw [8] (fun iv wr => ∃ k : Nat, iv = .int .i64 (k : Int) ∧ k ≤ n ∧ Hid ((ms.take k).all lightT = true) ∧ Below W.heap.size W wr) (fun iv _ => n - (intOf iv).toNat)
  case atStart => exact ⟨0, rfl, Nat.zero_le _, Lib.hid (by simp), Below.refl _ _⟩
  case round =>
    obtain ⟨k, rfl, hk, hA, hbel⟩ := hrel
    have c0 := kc hbel C0.out
    have c1 := kc hbel C1.out
    have c2 := kc hbel C2.out
    have c3 := kc hbel C3.out
    have c5 := kc hbel C5.out
    by_cases hlt : k < n
    · obtain ⟨x, hx⟩ := at_some ms k (by rw [← HN.out]; exact hlt)
      obtain ⟨g, o, rfl, d0, d1⟩ := mt_at HC.out k x hx
      have d0 := kc hbel (kc HBW.out d0)
      have d1 := kc hbel (kc HBW.out d1)
      obtain ⟨_, b1⟩ := O3.out x (List.mem_of_getElem? hx)
      obtain ⟨s1, s2⟩ := all_step lightT ms k x hx hA.out
      have hl : lightT x = decide (x.body.size ≤ 500) := rfl
      rw [hl] at s1 s2
      have hbz := bal hbel (.cells #[.int .u8 x.kind, .string x.body] 106)
      have S1 := Lib.hid s1
      have S2 := Lib.hid s2
      have HBZ := Lib.hid hbz
      clear s1 s2 hbz
      clear hl
      by_cases q1 : x.body.size ≤ 500
      · have s1 := S1.out (by simp [q1])
        have q1' : ¬ (x.body.size : Int) > 500 := by omega
        have S1' := Lib.hid s1
        clear s1
        clear q1
        go_wp2_with fail
        go_roundw
        case rel => exact ⟨k + 1, by go_num, by omega, S1', HBZ.out⟩
        case measure => simp [intOf]; omega
      · have s2 := S2.out (by simp [q1])
        have q1' : (x.body.size : Int) > 500 := by omega
        have S2' := Lib.hid s2
        clear s2
        clear q1
        go_wp2_with fail
        go_ret
        exact ⟨ret_b (by rw [HR.out, S2'.out]; rfl), HBW.out.trans (HBZ.out.mono HBW.out.size)⟩
    · have hkn : k = n := by omega
      subst hkn
      have ha := hA.out
      rw [List.take_of_length_le (by rw [← HN.out]; exact Nat.le_refl _)] at ha
      have hr := HR.out
      rw [ha, Bool.true_and] at hr
      have hbz := HBW.out.trans (hbel.mono HBW.out.size)
      have HR2 := Lib.hid hr
      have HBZ := Lib.hid hbz
      clear hr hbz
      clear ha hA
      by_cases q1 : k ≤ 30
      · have q1' : decide ((k : Int) ≤ 30) = true := by simp; omega
        by_cases q2 : snd.size ≤ 500
        · have q2' : decide ((snd.size : Int) ≤ 500) = true := by simp; omega
          have hr := HR2.out
          rw [decide_eq_true q1, decide_eq_true q2, Bool.true_and, Bool.true_and] at hr
          have HR3 := Lib.hid hr
          clear hr
          clear q1 q2
          go_wp2_with (go_at_call 58; refine (KL.out _ HBZ.out).mono ?_; rintro e w3 ⟨rfl, hb3⟩)
          go_ret
          exact ⟨ret_b (by rw [HR3.out]; try simp), HBZ.out.trans (hb3.mono HBZ.out.size)⟩
        · have q2' : decide ((snd.size : Int) ≤ 500) = false := by simp; omega
          have hr := HR2.out
          rw [decide_eq_true q1, decide_eq_false q2, Bool.true_and, Bool.false_and] at hr
          have HR3 := Lib.hid hr
          clear hr
          clear q1 q2
          go_wp2_with fail
          go_ret
          exact ⟨ret_b (by rw [HR3.out]; try simp), HBZ.out⟩
      · have q1' : decide ((k : Int) ≤ 30) = false := by simp; omega
        have hr := HR2.out
        rw [decide_eq_false q1, Bool.false_and, Bool.false_and] at hr
        have HR3 := Lib.hid hr
        clear hr
        clear q1
        go_wp2_with fail
        go_ret
        exact ⟨ret_b (by rw [HR3.out]; try simp), HBZ.out⟩
theorem light_smB {b : Bk} (h : lightM b = true) : smBk b ∧ b.ns.length ≤ 30 ∧ b.vt.size ≤ 150 ∧ ∀ n ∈ b.ns, n.name.size ≤ 50 ∧ n.text.size ≤ 150 := by
  unfold lightM at h
  simp only [Bool.and_eq_true, decide_eq_true_eq] at h
  obtain ⟨⟨h1, h2⟩, h3⟩ := h
  have h4 : ∀ n ∈ b.ns, n.name.size ≤ 50 ∧ n.text.size ≤ 150 := by
    intro n hn
    have := List.all_eq_true.1 h1 n hn
    unfold lightN at this
    simpa using this
  exact ⟨⟨by omega, by omega, fun n hn => by have := h4 n hn; omega⟩, h2, h3, h4⟩
theorem lnote_small (n : Nt) (h1 : n.name.size ≤ 50) (h2 : n.text.size ≤ 150) : (noteL n).length ≤ 205 := by
  unfold noteL sizedL
  simp only [List.length_append, bl_length]
  show 4 + (_ + 1 + _) ≤ _
  omega
theorem lprint_small (b : Bk) (h1 : b.ns.length ≤ 30) (h2 : b.vt.size ≤ 150) (h3 : ∀ n ∈ b.ns, n.name.size ≤ 50 ∧ n.text.size ≤ 150) : (printL false b).length ≤ 100000 := by
  have hl : ∀ l : List Nt, (∀ n ∈ l, n.name.size ≤ 50 ∧ n.text.size ≤ 150) → (l.flatMap noteL).length ≤ 205 * l.length := by
    intro l
    induction l with
    | nil => intro _; exact Nat.zero_le _
    | cons n l ih =>
      intro h
      have := lnote_small n (h n (List.mem_cons_self ..)).1 (h n (List.mem_cons_self ..)).2
      have := ih (fun m hm => h m (List.mem_cons_of_mem _ hm))
      rw [List.flatMap_cons, List.length_append, List.length_cons]
      omega
  have := hl b.ns h3
  unfold printL sizedL
  simp only [List.length_append, bl_length]
  have h4 : (le4 b.vt.size).length = 4 := rfl
  have h5 : (le4 b.ns.length).length = 4 := rfl
  rw [h4, h5]
  generalize (b.ns.flatMap noteL).length = q at *
  show _ + 0 ≤ _
  omega
theorem metasL_le (b : Bk) (N : Nat) : ∀ (l : List Mt), (∀ m ∈ l, (bodyL b m).length ≤ N) → (metasL b l).length ≤ l.length * (4 + N) := by
  intro l
  induction l with
  | nil => intro _; exact Nat.zero_le _
  | cons m l ih =>
    intro h
    have h1 := ih fun x hx => h x (List.mem_cons_of_mem _ hx)
    have h2 := h m (List.mem_cons_self ..)
    rw [metasL, List.length_append, metaL_len, List.length_cons, Nat.succ_mul]
    omega
theorem light_smF {f : Fl} (h : flightM f = true) : smFl f ∧ f.ms.length ≤ 30 ∧ (∀ m ∈ f.ms, m.body.size ≤ 500) ∧ f.sound.size ≤ 500 ∧ (printL false f.b).length ≤ 100000 ∧ (∀ m ∈ f.ms, (bodyL f.b m).length ≤ 100000) ∧ (fprintL f).length ≤ 4000000 ∧ f.b.ns.length ≤ 30 := by
  unfold flightM at h
  simp only [Bool.and_eq_true, decide_eq_true_eq] at h
  obtain ⟨⟨⟨h1, h2⟩, h3⟩, h4⟩ := h
  obtain ⟨b1, b2, b3, b4⟩ := light_smB h4
  have h5 : ∀ m ∈ f.ms, m.body.size ≤ 500 := by
    intro m hm
    have := List.all_eq_true.1 h1 m hm
    unfold lightT at this
    simpa using this
  have h6 := lprint_small f.b b2 b3 b4
  have h7 : ∀ m ∈ f.ms, (bodyL f.b m).length ≤ 100000 := by
    intro m hm
    unfold bodyL
    split
    · exact h6
    · rw [bl_length]; have := h5 m hm; omega
  have h8 := metasL_le f.b 100000 f.ms h7
  refine ⟨⟨b1, by omega, fun m hm => by have := h5 m hm; omega, by omega, by omega⟩, h2, h5, h3, h6, h7, ?_, b2⟩
  unfold fprintL
  simp only [List.length_append, bl_length]
  have h9 : letters.size = 4 := rfl
  rw [h9]
  have : f.ms.length * (4 + 100000) ≤ 30 * (4 + 100000) := Nat.mul_le_mul_right _ h2
  omega
end Go.Proofs.YtgidlcdgpiapkaaGreatDoor
