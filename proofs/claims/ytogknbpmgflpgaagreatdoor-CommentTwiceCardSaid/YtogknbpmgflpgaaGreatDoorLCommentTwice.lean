/- CommentTwice holds: what is read and printed is read with the same names and texts, and printed as it was. No condition. -/
import Derived.Test.YtogknbpmgflpgaaGreatDoorFr
import Derived.Test.YtogknbpmgflpgaaGreatDoorTie
import Derived.Test.YtogknbpmgflpgaaGreatDoorCards
import Derived.Test.YtogknbpmgflpgaaGreatDoorKz
import Derived.Test.YtogknbpmgflpgaaGreatDoorKCommentTwice
import Derived.Test.YtogknbpmgflpgaaGreatDoorAy
import Derived.Test.YtogknbpmgflpgaaGreatDoorOf
import Derived.Test.YtogknbpmgflpgaaGreatDoorTwp
namespace Go.Proofs.YtogknbpmgflpgaaGreatDoor.commentTwice
open Go.ChangeShapes Go.WideShapes Go.ChangeAt Go.RowKit Go.ChangeMaps
set_option linter.unusedVariables false
set_option linter.unusedSimpArgs false

/-- the block that Parse gives, whatever it reads. -/
def outB (p : Option Bk) : Bk := p.getD ⟨⟨#[]⟩, 0, []⟩
noncomputable def PX (s : ByteArray) (fr : Bool) (fb : Int) (g : Bool) : Option Bk := (parseR (RM fb g) fr ⟨s, 0, 0, 0, 0⟩).2
/-- a row whose block is no older than B. -/
def RowO (w : World) (B : Nat) (v : Value) (n : Nat) (cs : List Value) : Prop :=
  ∃ a cap, v = .slice a n cap ∧ ∀ (j : Nat) (x : Value), cs[j]? = some x → ∃ g o, a = some ⟨g, o, none⟩ ∧ B ≤ g ∧ w.cell? ⟨g, o + j, none⟩ = some x
theorem RowO.row {w : World} {B : Nat} {v : Value} {n : Nat} {cs : List Value} (h : RowO w B v n cs) : Row w v n cs := by
  obtain ⟨a, cap, hv, h⟩ := h
  refine ⟨a, cap, hv, fun j x hj => ?_⟩
  obtain ⟨g, o, ha, _, hc⟩ := h j x hj
  exact ⟨g, o, ha, hc⟩
theorem row_ownsB {w : World} {B : Nat} {e : TypeId} {s : Nat} {v : Value} {n : Nat} {cs : List Value} (h : w.ownsRow B e s v n cs) : RowO w B v n cs := by
  have h' := h
  rcases h.2 with ⟨rfl, rfl⟩ | ⟨g, cap, cur, rfl, hg, hh, hnc, hcm, hcs, htk⟩
  · have : cs = [] := List.eq_nil_of_length_eq_zero (by have := h.1; simpa using this)
    subst this
    exact ⟨none, 0, rfl, fun j x h => by simp at h⟩
  · refine ⟨some ⟨g, 0, none⟩, cap, rfl, fun j x hj => ⟨g, 0, rfl, hg, ?_⟩⟩
    have hl : j < n * s := by have := (List.getElem?_eq_some_iff.1 hj).1; have := h.1; omega
    rw [Nat.zero_add, h'.cellAt j hl]
    exact hj
theorem RowO.set3 {w : World} {B G : Nat} {v : Value} {n : Nat} {cs : List Value} (h : RowO w B v n cs) (hG : G < B) (v0 v1 v2 : Value) : Row (((w.setCell ⟨G, 0, none⟩ v0).setCell ⟨G, 1, none⟩ v1).setCell ⟨G, 2, none⟩ v2) v n cs := by
  obtain ⟨a, cap, hv, h⟩ := h
  refine ⟨a, cap, hv, fun j x hj => ?_⟩
  obtain ⟨g, o, ha, hB, hc⟩ := h j x hj
  have hne : G ≠ g := by omega
  refine ⟨g, o, ha, ?_⟩
  rw [World.cell?_setCell_far _ _ _ _ hne, World.cell?_setCell_far _ _ _ _ hne, World.cell?_setCell_far _ _ _ _ hne]
  exact hc
theorem set3_cells {w : World} {G : Nat} {u0 u1 u2 : Value} (h0 : w.cell? ⟨G, 0, none⟩ = some u0) (h1 : w.cell? ⟨G, 1, none⟩ = some u1) (h2 : w.cell? ⟨G, 2, none⟩ = some u2) (v0 v1 v2 : Value) :
    (((w.setCell ⟨G, 0, none⟩ v0).setCell ⟨G, 1, none⟩ v1).setCell ⟨G, 2, none⟩ v2).cell? ⟨G, 0, none⟩ = some v0 ∧ (((w.setCell ⟨G, 0, none⟩ v0).setCell ⟨G, 1, none⟩ v1).setCell ⟨G, 2, none⟩ v2).cell? ⟨G, 1, none⟩ = some v1 ∧ (((w.setCell ⟨G, 0, none⟩ v0).setCell ⟨G, 1, none⟩ v1).setCell ⟨G, 2, none⟩ v2).cell? ⟨G, 2, none⟩ = some v2 := by
  have q0 := World.cell?_setCell_same' w ⟨G, 0, none⟩ v0 (by rw [h0]; rfl)
  have q1 := World.cell?_setCell_same' (w.setCell ⟨G, 0, none⟩ v0) ⟨G, 1, none⟩ v1 (by simp [World.cell?_setCell_other, h1])
  have q2 := World.cell?_setCell_same' ((w.setCell ⟨G, 0, none⟩ v0).setCell ⟨G, 1, none⟩ v1) ⟨G, 2, none⟩ v2 (by simp [World.cell?_setCell_other, h2])
  refine ⟨?_, ?_, q2⟩
  · simp [World.cell?_setCell_other, q0]
  · simp [World.cell?_setCell_other, q1]
/-- Parse keeps what is older than its reader, and whatever is not the reader. -/
def HeldPost (p : Option Bk) (WO w1 : World) (r : Nat) (e : Ending) (w' : World) : Prop :=
  Below WO.heap.size WO w' ∧ w1.grownBy w' (some r) ∧ ∃ a cap, e = .returned (.tuple #[.agg #[.string (outB p).vt, .int .i64 (outB p).vs, .slice a (outB p).ns.length cap], .bool p.isSome]) ∧ RowO w' w1.heap.size (.slice a (outB p).ns.length cap) (outB p).ns.length (ntcells (outB p).ns)
theorem cparse_held (s : ByteArray) (fr : Bool) (fb : Int) (g : Bool) (WO : World) (hT : TW WO) (hs : s.size ≤ 1048576) (w1 : World) (r : Nat) (hr : WO.heap.size ≤ r) (hi : InX w1 r ⟨s, 0, 0, 0, 0⟩) (hb : Below WO.heap.size WO w1) :
    Calls Tryz.prog 9 #[.pointer (some ⟨r, 0, none⟩), .bool fr, .agg #[.int .i64 0, .int .i64 fb, .bool g, .int .i64 0]] w1 (HeldPost (PX s fr fb g) WO w1 r) := by
  refine (cparse_any w1 r ⟨s, 0, 0, 0, 0⟩ fr 0 fb 0 g (hT.bel hb) (Nat.le_trans hT.sz hr) hi ⟨Nat.zero_le _, by show s.size ≤ _; omega, Nat.zero_le _⟩ hs).mono ?_
  rintro e w' ⟨h1, h2, h3⟩
  refine ⟨grown_bel hb h2 hr, h2, ?_⟩
  unfold PX
  cases hp : (parseR (RM fb g) fr ⟨s, 0, 0, 0, 0⟩).2 with
  | none =>
    rw [hp] at h3
    exact ⟨none, 0, h3, none, 0, rfl, fun j x h => by simp [outB, ntcells] at h⟩
  | some b =>
    rw [hp] at h3
    obtain ⟨v, h4, h5⟩ := h3
    have h6 := row_ownsB h5
    obtain ⟨a, cap, rfl, hc⟩ := h6
    exact ⟨a, cap, h4, a, cap, rfl, hc⟩
theorem early_gr {w1 w2 : World} {r : Nat} {Z : Array Value} {T : TypeId} {x : RS} (hi : InX w1 r x) (hg : (w1.alloc (.cells Z T)).grownBy w2 (some r)) (i : Nat) (u : Value) (hu : Z[i]? = some u) : Live w2 w1.heap.size i u :=
  live_gr (Live.fresh w1 Z T i u hu) hg (by intro h; have := hi.lt; simp only [Option.some.injEq] at h; omega)
theorem early_gr2 {w0 w1 w2 : World} {r : Nat} {Z : Array Value} {T : TypeId} (hb : Below (w0.alloc (.cells Z T)).drew.heap.size (w0.alloc (.cells Z T)).drew w1) (hr : (w0.alloc (.cells Z T)).drew.heap.size ≤ r) (hg : w1.grownBy w2 (some r)) (i : Nat) (u : Value) (hu : Z[i]? = some u) : Live w2 w0.heap.size i u :=
  live_gr (((Live.fresh w0 Z T i u hu).drew).keep hb) hg (by intro h; have : (w0.alloc (.cells Z T)).heap.size = w0.heap.size + 1 := World.size_alloc _ _; have hr' : (w0.alloc (.cells Z T)).heap.size ≤ r := hr; simp only [Option.some.injEq] at h; omega)

theorem print_ok (b : Bk) (fr : Bool) (S : ByteArray) (hS : S = ⟨(printL fr b).toArray⟩) (hc : checkM b = (0, 0)) (hok : smBk b) (hpl : (printL fr b).length ≤ 140737488355328) (hnl : b.ns.length ≤ 1000000) (v : Value) (w : World) (hT : TW w) (hrow : Row w v b.ns.length (ntcells b.ns)) :
    Calls Tryz.prog 11 #[.agg #[.string b.vt, .int .i64 b.vs, v], .bool fr] w fun e w' => e = .returned (.tuple #[.string S, .agg #[.int .i64 0, .int .i64 0]]) ∧ Below w.heap.size w w' := by
  have h := cprint_any v b fr w hT hrow hok hpl hnl
  unfold PrintPost at h
  rw [hc, if_pos rfl, ← hS] at h
  exact h
theorem print_small (s : ByteArray) (fr : Bool) (fb : Int) (g : Bool) (b : Bk) (hs : s.size ≤ 300) (h : PX s fr fb g = some b) : (printL fr b).length ≤ 1048576 := by
  have := parse_print (R := RM fb g) fr ⟨s, 0, 0, 0, 0⟩ b (Nat.zero_le _) h
  simp only at this
  omega
theorem note_small (n : Nt) (h1 : n.name.size ≤ 1073741824) (h2 : n.text.size ≤ 1073741824) : (noteL n).length ≤ 2147483653 := by
  unfold noteL sizedL
  simp only [List.length_append, bl_length]
  show 4 + (_ + 1 + _) ≤ _
  omega
theorem px_back (b : Bk) (fr : Bool) (fb : Int) (g : Bool) (S : ByteArray) (hS : S = ⟨(printL fr b).toArray⟩) (hc : checkM b = (0, 0)) (hok : smBk b) : PX S fr fb g = some (utfBk b) := by
  have hpb := parse_back (R := RM fb g) (RM_utf fb g) fr b ⟨⟨(printL fr b).toArray⟩, 0, 0, 0, 0⟩ hc (by have := hok.1; omega) (fun n hn => by have := note_small n (hok.2.2 n hn).1 (hok.2.2 n hn).2; omega) ⟨rfl, Nat.zero_le _, by rw [List.drop_zero]⟩
  unfold PX
  rw [hS, hpb]
theorem like_utf (b : Bk) : likeBk b (utfBk b) := by
  refine ⟨rfl, by simp [utfBk], fun k x y hx hy => ?_⟩
  simp only [utfBk, List.getElem?_map, hx, Option.map_some, Option.some.injEq] at hy
  subst hy
  exact ⟨rfl, rfl⟩
theorem sm_utf {b : Bk} (h : smBk b) : smBk (utfBk b) := by
  obtain ⟨h1, h2, h3⟩ := h
  refine ⟨h1, by simpa [utfBk] using h2, fun n hn => ?_⟩
  simp only [utfBk, List.mem_map] at hn
  obtain ⟨m, hm, rfl⟩ := hn
  exact h3 m hm
theorem early_lt {w0 : World} {Z : Array Value} {T : TypeId} {n : Nat} (h : (w0.alloc (.cells Z T)).drew.heap.size ≤ n) : w0.heap.size < n := by
  have h1 : (w0.alloc (.cells Z T)).heap.size ≤ n := h
  rw [World.size_alloc] at h1
  omega

set_option maxRecDepth 100000 in
set_option maxHeartbeats 8000000 in
theorem walk_short (s : ByteArray) (fr : Bool) (fb : Int) (g : Bool) (w0 : s.size ≤ 300) (w2 : (Lit.int .i64 fb).wf = true) (w : World) (hT : TW w) :
    Calls Tryz.prog 3 #[.string s, .bool fr, .int .i64 fb, .bool g] w fun e w' => e = .returned (.bool true) ∧ Below w.heap.size w w' := by
  have KA := Lib.hid awake19in_any
  have hgt : ¬ (s.size : Int) > 300 := by omega
  obtain ⟨WO, hWO⟩ : ∃ WO, WO = w.alloc (.cells #[.int .i64 0, .int .i64 fb, .bool g, .int .i64 0] 26) := ⟨_, rfl⟩
  have hbo : Below w.heap.size w WO := by rw [hWO]; exact bal (Below.refl _ _) _
  have lo : ∀ (i : Nat) (u : Value), (#[.int .i64 0, .int .i64 fb, .bool g, .int .i64 0] : Array Value)[i]? = some u → WO.cell? ⟨w.heap.size, i, none⟩ = some u := by
    intro i u hu; rw [hWO]; exact (Live.fresh w _ 26 i u hu).1
  have o0 := lo 0 _ rfl
  have o1 := lo 1 _ rfl
  have o2 := lo 2 _ rfl
  have o3 := lo 3 _ rfl
  have hTO := hT.bel hbo
  have kr := fun w => readX_any s w
  have kp := fun w1 r h1 h2 h3 => cparse_held s fr fb g WO hTO (by omega) w1 r h1 h2 h3
  obtain ⟨p, hp⟩ : ∃ p, p = PX s fr fb g := ⟨_, rfl⟩
  rw [← hp] at kp
  unfold HeldPost at kp
  obtain ⟨vt, hvt⟩ : ∃ vt, vt = (outB p).vt := ⟨_, rfl⟩
  obtain ⟨vs, hvs⟩ : ∃ vs, vs = (outB p).vs := ⟨_, rfl⟩
  obtain ⟨ns, hns⟩ : ∃ ns, ns = (outB p).ns := ⟨_, rfl⟩
  obtain ⟨ok, hok⟩ : ∃ ok, ok = p.isSome := ⟨_, rfl⟩
  rw [← hvt, ← hvs, ← hns, ← hok] at kp
  have HP : Hid (p = PX s fr fb g ∧ vt = (outB p).vt ∧ vs = (outB p).vs ∧ ns = (outB p).ns ∧ ok = p.isSome) := Lib.hid ⟨hp, hvt, hvs, hns, hok⟩
  have n0 := World.new_ne _ _ o0
  have n1 := World.new_ne _ _ o1
  have n2 := World.new_ne _ _ o2
  have n3 := World.new_ne _ _ o3
  clear lo hp hvt hvs hns hok
  have KR := Lib.hid kr
  have KP := Lib.hid kp
  have HTO := Lib.hid hTO
  have HBO := Lib.hid hbo
  clear kr kp hTO hbo
  go_enter Tryz.func3, Tryz.ntmps3
  go_wp2_with fail
  rw [← hWO]
  clear hWO
  go_cut [10, 11] (fun s10 s11 wx => ∃ (gb : Nat) (a : Option Addr) (cap : Nat), s10 = .pointer (some ⟨gb, 0, none⟩) ∧ s11 = .bool ok ∧ Below WO.heap.size WO wx ∧ wx.cell? ⟨gb, 0, none⟩ = some (.string vt) ∧ wx.cell? ⟨gb, 1, none⟩ = some (.int .i64 vs) ∧ wx.cell? ⟨gb, 2, none⟩ = some (.slice a ns.length cap) ∧ Row wx (.slice a ns.length cap) ns.length (ntcells ns))
  case first =>
    go_region_held3 (fun w' => w'.cell? ⟨w.heap.size, 0, none⟩ = some (.int .i64 0) ∧ w'.cell? ⟨w.heap.size, 1, none⟩ = some (.int .i64 fb) ∧ w'.cell? ⟨w.heap.size, 2, none⟩ = some (.bool g) ∧ w'.cell? ⟨w.heap.size, 3, none⟩ = some (.int .i64 0))
      (first | exact ⟨kc (((hb2.setCell hG _).setCell hG _).setCell hG _) o0, kc (((hb2.setCell hG _).setCell hG _).setCell hG _) o1, kc (((hb2.setCell hG _).setCell hG _).setCell hG _) o2, kc (((hb2.setCell hG _).setCell hG _).setCell hG _) o3⟩ | exact ⟨kc ((((bal hb2 _).setCell hG _).setCell hG _).setCell hG _) o0, kc ((((bal hb2 _).setCell hG _).setCell hG _).setCell hG _) o1, kc ((((bal hb2 _).setCell hG _).setCell hG _).setCell hG _) o2, kc ((((bal hb2 _).setCell hG _).setCell hG _).setCell hG _) o3⟩ | exact ⟨kc hb2 o0, kc hb2 o1, kc hb2 o2, kc hb2 o3⟩ | exact ⟨kc (bal hb2 _) o0, kc (bal hb2 _) o1, kc (bal hb2 _) o2, kc (bal hb2 _) o3⟩ | exact ⟨kc hbz1 o0, kc hbz1 o1, kc hbz1 o2, kc hbz1 o3⟩ | exact ⟨kc (bal hbz1 _) o0, kc (bal hbz1 _) o1, kc (bal hbz1 _) o2, kc (bal hbz1 _) o3⟩ | go_keep)
      (first
        | (go_at_call 10; refine (KR.out _).mono ?_; rintro e w1 ⟨r, rfl, hr, hi1, hb1⟩; have hbz1 : Below WO.heap.size WO w1 := (by first | exact bt (Below.refl _ _).drew hb1 | exact bt (bal (Below.refl _ _).drew _) hb1))
        | (go_at_call 9; refine (KP.out _ _ ?_ ?_ ?_).mono ?_; (first | exact hr | (simp at hr; omega)); (first | exact hi1 | exact hi1.bel (bal (Below.refl _ _) _)); (first | exact hbz1 | exact bal hbz1 _); rintro e w2 ⟨hb2, hg2, a, cap, rfl, hrow⟩; (first
           | (have z0 := early_gr hi1 hg2 0 _ rfl; have z1 := early_gr hi1 hg2 1 _ rfl; have z2 := early_gr hi1 hg2 2 _ rfl; obtain ⟨z0, y0⟩ := z0; obtain ⟨z1, y1⟩ := z1; obtain ⟨z2, y2⟩ := z2; have hG : WO.heap.size ≤ w1.heap.size := hbz1.size)
           | (have z0 := early_gr2 hb1 hr hg2 0 _ rfl; have z1 := early_gr2 hb1 hr hg2 1 _ rfl; have z2 := early_gr2 hb1 hr hg2 2 _ rfl; obtain ⟨z0, y0⟩ := z0; obtain ⟨z1, y1⟩ := z1; obtain ⟨z2, y2⟩ := z2; have hG : WO.heap.size ≤ WO.heap.size := Nat.le_refl _)
           | (have hG : WO.heap.size ≤ w2.heap.size := hb2.size))))
    all_goals
      first
        | (have c0 := (Live.fresh w2 #[.string vt, .int .i64 vs, .slice a ns.length cap] 31 0 _ rfl).1
           have c1 := (Live.fresh w2 #[.string vt, .int .i64 vs, .slice a ns.length cap] 31 1 _ rfl).1
           have c2 := (Live.fresh w2 #[.string vt, .int .i64 vs, .slice a ns.length cap] 31 2 _ rfl).1
           go_wp2_with fail
           go_meet
           exact ⟨_, a, cap, rfl, rfl, bal hb2 _, c0, c1, c2, hrow.row.keep (bal (Below.refl _ _) _)⟩)
        | (obtain ⟨c0, c1, c2⟩ := set3_cells z0 z1 z2 (.string vt) (.int .i64 vs) (.slice a ns.length cap)
           go_wp2_with fail
           go_meet
           exact ⟨_, a, cap, rfl, rfl, ((hb2.setCell hG _).setCell hG _).setCell hG _, c0, c1, c2, hrow.set3 (by first | (rw [World.size_alloc]; omega) | exact early_lt hb1.size) _ _ _⟩)
  case rest =>
    obtain ⟨gb, a, cap, rfl, rfl, hbx, c0, c1, c2, hrow⟩ := hcut
    cases ok with
    | false =>
      obtain ⟨HP1, HP2, HP3, HP4, HP5⟩ := HP.out
      have hpn : p = none := by cases p with
        | none => rfl
        | some b => simp at HP5
      subst hpn
      simp only [outB, Option.getD] at HP2 HP3 HP4
      subst HP2 HP3 HP4
      clear HP1 HP5
      have hTx := HTO.out.bel hbx
      have HTX := Lib.hid hTx
      clear hTx
      go_wp2_with (go_at_call 8; refine (KA.out _ HTX.out).mono ?_; rintro e w5 ⟨rfl, hb5⟩; have d0 := kc hb5 c0; have d1 := kc hb5 c1; have d2 := kc hb5 c2)
      go_ret
      exact ⟨rfl, bt (bt HBO.out hbx) hb5⟩
    | true =>
      obtain ⟨HP1, HP2, HP3, HP4, HP5⟩ := HP.out
      obtain ⟨b, rfl⟩ : ∃ b, p = some b := by cases p with
        | none => simp at HP5
        | some b => exact ⟨b, rfl⟩
      simp only [outB, Option.getD] at HP2 HP3 HP4
      obtain ⟨g1, g2, g3, g4⟩ := parse_good (R := RM fb g) fr ⟨s, 0, 0, 0, 0⟩ b HP1.symm
      simp only at g2 g4
      have hsm : smBk b := ⟨by omega, by omega, fun n hn => ⟨by have := (g4 n hn).2.2.1; omega, by have := (g4 n hn).2.2.2; omega⟩⟩
      have hpl := print_small s fr fb g b w0 HP1.symm
      obtain ⟨S, hS⟩ : ∃ S : ByteArray, S = ⟨(printL fr b).toArray⟩ := ⟨_, rfl⟩
      have kp1 := print_ok b fr S hS g1 hsm (by omega) (by omega)
      rw [← HP2, ← HP3, ← HP4] at kp1
      have HG : Hid (b.vt = vt ∧ b.vs = vs ∧ b.ns = ns ∧ checkM b = (0, 0) ∧ smBk b ∧ (printL fr b).length ≤ 1048576 ∧ b.ns.length ≤ 4096 ∧ S = ⟨(printL fr b).toArray⟩) := Lib.hid ⟨HP2.symm, HP3.symm, HP4.symm, g1, hsm, hpl, g3, hS⟩
      have hTx := HTO.out.bel hbx
      clear HP1 HP2 HP3 HP4 HP5 g1 g2 g3 g4 hsm hpl hS HP
      have HTX := Lib.hid hTx
      have KP1 := Lib.hid kp1
      have HROW := Lib.hid hrow
      clear hTx kp1 hrow
      go_wp2_with (go_at_call 11; refine (KP1.out _ _ HTX.out HROW.out).mono ?_; rintro e w3 ⟨rfl, hb3⟩)
      obtain ⟨W2, hW2⟩ : ∃ W2, W2 = w3.alloc (.cells #[.int .i64 0, .int .i64 0] 38) := ⟨_, rfl⟩
      have hb32 : Below w3.heap.size w3 W2 := by rw [hW2]; exact bal (Below.refl _ _) _
      have hbc2 := bt hb3 hb32
      have f0 : W2.cell? ⟨w3.heap.size, 0, none⟩ = some (.int .i64 0) := by rw [hW2]; exact (Live.fresh w3 _ 38 0 _ rfl).1
      have f1 : W2.cell? ⟨w3.heap.size, 1, none⟩ = some (.int .i64 0) := by rw [hW2]; exact (Live.fresh w3 _ 38 1 _ rfl).1
      rw [← hW2]
      clear hW2
      replace o0 := kc (bt hbx hbc2) o0
      replace o1 := kc (bt hbx hbc2) o1
      replace o2 := kc (bt hbx hbc2) o2
      replace o3 := kc (bt hbx hbc2) o3
      replace c0 := kc hbc2 c0
      replace c1 := kc hbc2 c1
      replace c2 := kc hbc2 c2
      have hrow2 := HROW.out.keep hbc2
      have hTW2 := HTX.out.bel hbc2
      have hbW := bt (bt HBO.out hbx) hbc2
      obtain ⟨q1, q2, q3, q4, q5, q6, q7, q8⟩ := HG.out
      have kr2 := fun w => readX_any S w
      have kp2 := fun w1 r h1 h2 h3 => cparse_held S fr fb g W2 hTW2 (by rw [q8]; show (printL fr b).length ≤ _; omega) w1 r h1 h2 h3
      rw [px_back b fr fb g S q8 q4 q5] at kp2
      unfold HeldPost at kp2
      simp only [outB, Option.getD, Option.isSome, utfBk, q1, q3] at kp2
      obtain ⟨ns2, hns2⟩ : ∃ ns2, ns2 = ns.map utfNt := ⟨_, rfl⟩
      rw [← hns2] at kp2
      have HN : Hid (ns2 = ns.map utfNt) := Lib.hid hns2
      have n0 := World.new_ne _ _ o0
      have n1 := World.new_ne _ _ o1
      have n2 := World.new_ne _ _ o2
      have n3 := World.new_ne _ _ o3
      clear q1 q2 q3 q4 q5 q6 q7 q8 hns2 hbx hb3 hb32 hbc2 HTX HTO HBO HROW KP1 KP KR
      have KR := Lib.hid kr2
      have KP := Lib.hid kp2
      have HROW := Lib.hid hrow2
      have HTW := Lib.hid hTW2
      have HBW := Lib.hid hbW
      clear kr2 kp2 hrow2 hTW2 hbW
      go_cut [14, 15] (fun s14 s15 wx => ∃ (gc : Nat) (a2 : Option Addr) (cap2 : Nat), s14 = .pointer (some ⟨gc, 0, none⟩) ∧ s15 = .bool true ∧ Below W2.heap.size W2 wx ∧ wx.cell? ⟨gc, 0, none⟩ = some (.string vt) ∧ wx.cell? ⟨gc, 1, none⟩ = some (.int .i64 7) ∧ wx.cell? ⟨gc, 2, none⟩ = some (.slice a2 ns2.length cap2) ∧ Row wx (.slice a2 ns2.length cap2) ns2.length (ntcells ns2))
      case first =>
        go_region_held3 (fun w' => w'.cell? ⟨w.heap.size, 0, none⟩ = some (.int .i64 0) ∧ w'.cell? ⟨w.heap.size, 1, none⟩ = some (.int .i64 fb) ∧ w'.cell? ⟨w.heap.size, 2, none⟩ = some (.bool g) ∧ w'.cell? ⟨w.heap.size, 3, none⟩ = some (.int .i64 0))
          (first | exact ⟨kc (((hb2.setCell hG _).setCell hG _).setCell hG _) o0, kc (((hb2.setCell hG _).setCell hG _).setCell hG _) o1, kc (((hb2.setCell hG _).setCell hG _).setCell hG _) o2, kc (((hb2.setCell hG _).setCell hG _).setCell hG _) o3⟩ | exact ⟨kc ((((bal hb2 _).setCell hG _).setCell hG _).setCell hG _) o0, kc ((((bal hb2 _).setCell hG _).setCell hG _).setCell hG _) o1, kc ((((bal hb2 _).setCell hG _).setCell hG _).setCell hG _) o2, kc ((((bal hb2 _).setCell hG _).setCell hG _).setCell hG _) o3⟩ | exact ⟨kc hb2 o0, kc hb2 o1, kc hb2 o2, kc hb2 o3⟩ | exact ⟨kc (bal hb2 _) o0, kc (bal hb2 _) o1, kc (bal hb2 _) o2, kc (bal hb2 _) o3⟩ | exact ⟨kc hbz1 o0, kc hbz1 o1, kc hbz1 o2, kc hbz1 o3⟩ | exact ⟨kc (bal hbz1 _) o0, kc (bal hbz1 _) o1, kc (bal hbz1 _) o2, kc (bal hbz1 _) o3⟩ | go_keep)
          (first
            | (go_at_call 10; refine (KR.out _).mono ?_; rintro e w7 ⟨r, rfl, hr, hi1, hb1⟩; have hbz1 : Below W2.heap.size W2 w7 := (by first | exact bt (Below.refl _ _).drew hb1 | exact bt (bal (Below.refl _ _).drew _) hb1))
            | (go_at_call 9; refine (KP.out _ _ ?_ ?_ ?_).mono ?_; (first | exact hr | (simp at hr; omega)); (first | exact hi1 | exact hi1.bel (bal (Below.refl _ _) _)); (first | exact hbz1 | exact bal hbz1 _); rintro e w8 ⟨hb2, hg2, a2, cap2, rfl, hrow⟩; (first
               | (have z0 := early_gr hi1 hg2 0 _ rfl; have z1 := early_gr hi1 hg2 1 _ rfl; have z2 := early_gr hi1 hg2 2 _ rfl; obtain ⟨z0, y0⟩ := z0; obtain ⟨z1, y1⟩ := z1; obtain ⟨z2, y2⟩ := z2; have hG : W2.heap.size ≤ w7.heap.size := hbz1.size)
               | (have z0 := early_gr2 hb1 hr hg2 0 _ rfl; have z1 := early_gr2 hb1 hr hg2 1 _ rfl; have z2 := early_gr2 hb1 hr hg2 2 _ rfl; obtain ⟨z0, y0⟩ := z0; obtain ⟨z1, y1⟩ := z1; obtain ⟨z2, y2⟩ := z2; have hG : W2.heap.size ≤ W2.heap.size := Nat.le_refl _)
               | (have hG : W2.heap.size ≤ w8.heap.size := hb2.size))))
        all_goals
          first
            | (have c0 := (Live.fresh w8 #[.string vt, .int .i64 7, .slice a2 ns2.length cap2] 31 0 _ rfl).1
               have c1 := (Live.fresh w8 #[.string vt, .int .i64 7, .slice a2 ns2.length cap2] 31 1 _ rfl).1
               have c2 := (Live.fresh w8 #[.string vt, .int .i64 7, .slice a2 ns2.length cap2] 31 2 _ rfl).1
               go_wp2_with fail
               go_meet
               exact ⟨_, a2, cap2, rfl, rfl, bal hb2 _, c0, c1, c2, hrow.row.keep (bal (Below.refl _ _) _)⟩)
            | (obtain ⟨c0, c1, c2⟩ := set3_cells z0 z1 z2 (.string vt) (.int .i64 7) (.slice a2 ns2.length cap2)
               go_wp2_with fail
               go_meet
               exact ⟨_, a2, cap2, rfl, rfl, ((hb2.setCell hG _).setCell hG _).setCell hG _, c0, c1, c2, hrow.set3 (by first | (rw [World.size_alloc]; omega) | exact early_lt hb1.size) _ _ _⟩)
      case rest =>
        obtain ⟨gc, a2, cap2, rfl, rfl, hbx8, d0, d1, d2, hrow8⟩ := hcut
        obtain ⟨q1, q2, q3, q4, q5, q6, q7, q8⟩ := HG.out
        have kp3 := print_ok (utfBk b) fr S (by rw [print_utf]; exact q8) (by rw [check_utf]; exact q4) (sm_utf q5) (by rw [print_utf]; omega) (by simp [utfBk]; omega)
        have u3 : (utfBk b).ns = ns2 := by rw [HN.out, ← q3]; rfl
        have u1 : (utfBk b).vt = vt := q1
        have u2 : (utfBk b).vs = 7 := rfl
        rw [u1, u2, u3] at kp3
        have hTx := HTW.out.bel hbx8
        clear q1 q2 q3 q4 q5 q6 q7 q8
        have HTX := Lib.hid hTx
        have KP3 := Lib.hid kp3
        have HROW8 := Lib.hid hrow8
        clear hTx kp3 hrow8
        go_wp2_with (go_at_call 11; refine (KP3.out _ _ HTX.out HROW8.out).mono ?_; rintro e w9 ⟨rfl, hb9⟩)
        obtain ⟨W4, hW4⟩ : ∃ W4, W4 = w9.alloc (.cells #[.int .i64 0, .int .i64 0] 38) := ⟨_, rfl⟩
        have hb94 : Below w9.heap.size w9 W4 := by rw [hW4]; exact bal (Below.refl _ _) _
        have hbc4 := bt hb9 hb94
        have k0 : W4.cell? ⟨w9.heap.size, 0, none⟩ = some (.int .i64 0) := by rw [hW4]; exact (Live.fresh w9 _ 38 0 _ rfl).1
        have k1 : W4.cell? ⟨w9.heap.size, 1, none⟩ = some (.int .i64 0) := by rw [hW4]; exact (Live.fresh w9 _ 38 1 _ rfl).1
        rw [← hW4]
        clear hW4
        have hb24 := bt hbx8 hbc4
        replace c0 := kc hb24 c0
        replace c1 := kc hb24 c1
        replace c2 := kc hb24 c2
        replace d0 := kc hbc4 d0
        replace d1 := kc hbc4 d1
        replace d2 := kc hbc4 d2
        replace f0 := kc hb24 f0
        replace f1 := kc hb24 f1
        have hrA := HROW.out.keep hb24
        have hrB := HROW8.out.keep hbc4
        have hTW4 := HTX.out.bel hbc4
        have hbW4 := bt HBW.out hb24
        obtain ⟨q1, q2, q3, q4, q5, q6, q7, q8⟩ := HG.out
        have ka : ∀ w', Below W4.heap.size W4 w' → Calls Tryz.prog 8 #[] w' fun e w'' => e = .returned (.bool true) ∧ Below W4.heap.size W4 w'' := fun w' hb => (KA.out w' (hTW4.bel hb)).mono fun e w'' h => ⟨h.1, bt hb h.2⟩
        have kb : ∀ w', Below W4.heap.size W4 w' → Calls Tryz.prog 12 #[.agg #[.int .i64 0, .int .i64 0]] w' fun e w'' => e = .returned (.bool false) ∧ Below W4.heap.size W4 w'' := fun w' hb => (bad_any 0 0 w').mono fun e w'' h => ⟨h.1, bt hb h.2⟩
        have ko1 : ∀ w', Below W4.heap.size W4 w' → Calls Tryz.prog 14 #[.agg #[.string vt, .int .i64 vs, .slice a ns.length cap]] w' fun e w'' => ∃ v', e = .returned (.agg #[.string ⟨#[]⟩, .string vt, .int .i64 vs, v']) ∧ Row w'' v' ns.length (ntcells ns) ∧ Below w'.heap.size w' w'' ∧ Below W4.heap.size W4 w'' := by
          intro w' hb
          have h := lof_any (.slice a ns.length cap) b w' (by rw [q3]; exact hrA.keep hb) q5 (by omega)
          rw [q1, q2, q3] at h
          exact h.mono fun e w'' ⟨v', h1, h2, h3⟩ => ⟨v', h1, row_owns h2, h3, bt hb h3⟩
        have ko2 : ∀ w', Below W4.heap.size W4 w' → Calls Tryz.prog 14 #[.agg #[.string vt, .int .i64 7, .slice a2 ns2.length cap2]] w' fun e w'' => ∃ v', e = .returned (.agg #[.string ⟨#[]⟩, .string vt, .int .i64 7, v']) ∧ Row w'' v' ns2.length (ntcells ns2) ∧ Below w'.heap.size w' w'' ∧ Below W4.heap.size W4 w'' := by
          intro w' hb
          have h := lof_any (.slice a2 ns2.length cap2) (utfBk b) w' (by rw [u3]; exact hrB.keep hb) (sm_utf q5) (by simp [utfBk]; omega)
          rw [u1, u2, u3] at h
          exact h.mono fun e w'' ⟨v', h1, h2, h3⟩ => ⟨v', h1, row_owns h2, h3, bt hb h3⟩
        have ks : ∀ w' va vb, Row w' va ns.length (ntcells ns) → Row w' vb ns2.length (ntcells ns2) → Below W4.heap.size W4 w' → Calls Tryz.prog 13 #[.agg #[.string ⟨#[]⟩, .string vt, .int .i64 vs, va], .agg #[.string ⟨#[]⟩, .string vt, .int .i64 7, vb], .bool false] w' fun e w'' => e = .returned (.bool true) ∧ Below W4.heap.size W4 w'' := by
          intro w' va vb h1 h2 hb
          have h := lsame_any va vb b (utfBk b) w' (by rw [q3]; exact h1) (by rw [u3]; exact h2) (like_utf b) (by omega)
          rw [u1, u2, q1, q2] at h
          exact h.mono fun e w'' h => ⟨h.1, bt hb h.2⟩
        have HE : (S.toList == S.toList) = true := by simp
        have hbk := Below.refl W4.heap.size W4
        clear q1 q2 q3 q4 q5 q6 q7 q8 u1 u2 u3 hbx8 hb9 hb94 hbc4 hb24 o0 o1 o2 o3 n0 n1 n2 n3 HTX HTW HBW HROW HROW8 KP3 KP KR KA HG HN
        have KA := Lib.hid ka
        have KB := Lib.hid kb
        have KO1 := Lib.hid ko1
        have KO2 := Lib.hid ko2
        have KS := Lib.hid ks
        have HRA := Lib.hid hrA
        have HRB := Lib.hid hrB
        have HTW := Lib.hid hTW4
        have HBW := Lib.hid hbW4
        clear ka kb ko1 ko2 ks hrA hrB hTW4 hbW4
        go_region_held3 (fun w' => w'.cell? ⟨w3.heap.size, 0, none⟩ = some (.int .i64 0) ∧ w'.cell? ⟨w3.heap.size, 1, none⟩ = some (.int .i64 0) ∧ w'.cell? ⟨w9.heap.size, 0, none⟩ = some (.int .i64 0) ∧ w'.cell? ⟨w9.heap.size, 1, none⟩ = some (.int .i64 0) ∧ w'.cell? ⟨gb, 0, none⟩ = some (.string vt) ∧ w'.cell? ⟨gb, 1, none⟩ = some (.int .i64 vs) ∧ w'.cell? ⟨gb, 2, none⟩ = some (.slice a ns.length cap) ∧ w'.cell? ⟨gc, 0, none⟩ = some (.string vt) ∧ w'.cell? ⟨gc, 1, none⟩ = some (.int .i64 7) ∧ w'.cell? ⟨gc, 2, none⟩ = some (.slice a2 ns2.length cap2))
          (first | exact ⟨kc hbk f0, kc hbk f1, kc hbk k0, kc hbk k1, kc hbk c0, kc hbk c1, kc hbk c2, kc hbk d0, kc hbk d1, kc hbk d2⟩ | go_keep)
          (first
            | (go_at_call 8; refine (KA.out _ ?_).mono ?_; (first | exact hbk | exact bdn hbk _ | exact hbk.drew); clear hbk; rintro e w10 ⟨rfl, hbk⟩)
            | (go_at_call 12; refine (KB.out _ ?_).mono ?_; (first | exact hbk | exact bdn hbk _ | exact hbk.drew); clear hbk; rintro e w11 ⟨rfl, hbk⟩)
            | (go_at_call_of 14 (Value.agg #[.string vt, .int .i64 vs, .slice a ns.length cap]); refine (KO1.out _ ?_).mono ?_; (first | exact hbk | exact bdn hbk _ | exact hbk.drew); clear hbk; rintro e w12 ⟨va, rfl, hva, hsa, hbk⟩)
            | (go_at_call_of 14 (Value.agg #[.string vt, .int .i64 7, .slice a2 ns2.length cap2]); refine (KO2.out _ ?_).mono ?_; (first | exact hbk | exact bdn hbk _ | exact hbk.drew); clear hbk; rintro e w13 ⟨vb, rfl, hvb, hsb, hbk⟩)
            | (go_at_call 13; refine (KS.out _ _ _ ?_ ?_ ?_).mono ?_; (first | exact hva.keep hsb | exact (hva.keep (Below.refl _ _).drew).keep hsb | exact (hva.keep hsb).keep (Below.refl _ _).drew | exact ((hva.keep (Below.refl _ _).drew).keep hsb).keep (Below.refl _ _).drew); (first | exact hvb | exact hvb.keep (Below.refl _ _).drew); (first | exact hbk | exact bdn hbk _ | exact hbk.drew); clear hbk; rintro e w14 ⟨rfl, hbk⟩))
        go_wp2_with fail
        go_ret
        exact ⟨rfl, bt HBW.out hbk⟩
set_option maxRecDepth 100000 in
set_option maxHeartbeats 8000000 in
theorem walk (s : ByteArray) (fr : Bool) (fb : Int) (g : Bool) (w0 : s.size ≤ maxLen) (w2 : (Lit.int .i64 fb).wf = true) (w : World) (hT : TW w) :
    Calls Tryz.prog 3 #[.string s, .bool fr, .int .i64 fb, .bool g] w fun e w' => e = .returned (.bool true) ∧ Below w.heap.size w w' := by
  by_cases hs : 300 < s.size
  · have KA := Lib.hid awake19in_any
    unfold maxLen at w0
    have hgt : (s.size : Int) > 300 := by omega
    clear hs w2
    go_enter Tryz.func3, Tryz.ntmps3
    go_wp2_with (go_at_call 8; refine (KA.out _ hT).mono ?_; rintro e w1 ⟨rfl, hb1⟩)
    go_ret
    exact ⟨rfl, hb1⟩
  · exact walk_short s fr fb g (by omega) w2 w hT
set_option maxRecDepth 100000 in
theorem lifted (os : Os) (started : os.Started) (H : Type) (enc : TypeId × Value → H) :
    ReturnsInHanded {} Tryz.checked os 3 .any (fun w args => (Rows.commentTwiceSpec.pre enc Tryz.prog Tryz.f3 Rows.commentTwiceRow.domain false w args ∧ laidMetH Tryz.prog laid3 w) ∧ sizedMet enc Tryz.prog Tryz.f3 (OpenSpec.ofChange Rows.commentTwiceSpec) false w args) (Rows.commentTwiceSpec.post enc Tryz.prog Tryz.f3 false true false false) := by
  refine handed_laid_shaped (C := Tryz.checked) (X := fun w => laidMetH Tryz.prog laid3 w) (fun _ _ hh h => h.of_heap hh) own started (by kernel_rfl) Tryz.func3
    (ChangeSpec.witness_shaped (enc := enc) (C := Tryz.checked) (os := os) (X := fun w _ => laidMetH Tryz.prog laid3 w) false (World.laidAll Tryz.prog os laid3) #[.string ByteArray.empty, .bool false, .int .i64 0, .bool false] 8 (World.laidAll_os _ _ _) (laid_shaped os _) (by kernel_rfl) (by kernel_rfl) (by kernel_rfl) (laid_met os _)) ?_
  intro W base args ds gs before hval0 hW hL hsh
  have hT := tw_of_laid hL hsh
  have hval : ∀ (j : Nat) t v, Tryz.f3.params[j]? = some t → args[j]? = some v → Value.okWide Tryz.prog W .any base t v := hval0
  have hW' := hW
  obtain ⟨p, q, hA0, hV, rfl, hfz, hnd⟩ := hW
  have hA : DataW.TrodAll enc Tryz.prog W 0 (fun _ => true) true Tryz.f3.params.toList args.toList ds p := hA0
  rw [Tryz.params3] at hA hval
  obtain ⟨v0, vs0, d0, ds0, p0, q0, hargs, rfl, rfl, h0, r0⟩ := trodAll_cons hA
  obtain ⟨v1, vs1, d1, ds1, p1, q1, rfl, rfl, rfl, h1, r1⟩ := trodAll_cons r0
  obtain ⟨v2, vs2, d2, ds2, p2, q2, rfl, rfl, rfl, h2, r2⟩ := trodAll_cons r1
  obtain ⟨v3, vs3, d3, ds3, p3, q3, rfl, rfl, rfl, h3, r3⟩ := trodAll_cons r2
  obtain ⟨rfl, rfl, rfl⟩ := trodAll_nil r3
  obtain rfl : args = #[v0, v1, v2, v3] := by cases args; simp_all
  obtain ⟨rfl, rfl⟩ := trodVars_none hV
  obtain ⟨a0, rfl, rfl, rfl, w0⟩ := open_string Tryz.underlying9 (hval 0 9 v0 rfl rfl) h0
  obtain ⟨a1, rfl, rfl, rfl⟩ := open_bool Tryz.underlying4 (hval 1 4 v1 rfl rfl) h1
  obtain ⟨a2, rfl, rfl, rfl, w2⟩ := open_int Tryz.underlying3 (hval 2 3 v2 rfl rfl) h2
  obtain ⟨a3, rfl, rfl, rfl⟩ := open_bool Tryz.underlying4 (hval 3 4 v3 rfl rfl) h3
  clear hA0 hval0
  simp only [List.append_nil] at hW'
  refine (walk a0 a1 a2 a3 w0 w2 W hT).mono fun e W' ⟨he, hg⟩ => ?_
  subst he
  exact ⟨_, rfl, post_below (pa := []) (pv := []) hW' (trodAll_cons_mk (shut_bool Tryz.underlying4 _) trodAll_mk0) (trodAll_cons_mk (shut_string Tryz.underlying9 w0) (trodAll_cons_mk (shut_bool Tryz.underlying4 a1) (trodAll_cons_mk (shut_int Tryz.underlying3 w2) (trodAll_cons_mk (shut_bool Tryz.underlying4 a3) trodAll_mk0)))) rfl hg⟩

theorem over : Rows.commentTwiceRow.holds Tryz.pinned (OpenSpec.ofChange Rows.commentTwiceSpec) :=
  OpenClaim.holds_of_wide 3 Tryz.f3 rfl rfl rfl rfl rfl rfl rfl ⟨rfl, rfl, rfl, rfl, rfl⟩ rfl rfl rfl rfl rfl k_named Tryz.func3 k_joined (of_decide_eq_true (by kernel_rfl)) k_wrap
    (fun os started H enc _ => lifted os started H enc)

/-- THE STATEMENT: the tied card -/
theorem proved : Rows.CommentTwiceCardSaid :=
  Claim7.holds_tied_plain_at .later [] [.data, .data, .pinned] true Rows.commentTwiceCard.stood.harness Rows.commentTwiceCard.stood.looks over (fun _ h => by cases h) k_wf (fun _ h => by cases h) commentTwice_row_tie rfl ⟨rfl, rfl⟩ k_main rfl
    (fun f fn hf hfn => by
      obtain rfl : f = 3 := Option.some.inj (k_named.symm.trans hf) |>.symm
      obtain rfl : fn = Tryz.f3 := (Option.some.inj (Tryz.func3.symm.trans hfn)).symm
      exact ⟨k_looks, fun j t ht => by
        rw [Tryz.params3] at ht
        have hm : t ∈ [9, 4, 3, 4] := by simpa using Array.mem_of_getElem? ht
        exact (show Tryz.prog.wantsStandIn t = false by simpa using List.all_eq_true.1 k_stand t hm)⟩)
    k_goes
#print axioms proved
end Go.Proofs.YtogknbpmgflpgaaGreatDoor.commentTwice
