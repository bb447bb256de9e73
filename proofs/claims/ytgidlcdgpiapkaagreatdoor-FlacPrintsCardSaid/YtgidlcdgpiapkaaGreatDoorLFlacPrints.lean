/- FlacPrints holds: any file's bytes, or what is wrong with it, are the document's; what is printed is read as it was, whatever the options. No condition. -/
import Derived.Test.YtgidlcdgpiapkaaGreatDoorTie
import Derived.Test.YtgidlcdgpiapkaaGreatDoorCards
import Derived.Test.YtgidlcdgpiapkaaGreatDoorFr
import Derived.Test.YtgidlcdgpiapkaaGreatDoorKz
import Derived.Test.YtgidlcdgpiapkaaGreatDoorKFlacPrints
import Derived.Test.YtgidlcdgpiapkaaGreatDoorFp
namespace Go.Proofs.YtgidlcdgpiapkaaGreatDoor.flacPrints
open Go.ChangeShapes Go.WideShapes Go.ChangeAt Go.RowKit Go.ChangeMaps
set_option linter.unusedVariables false
set_option linter.unusedSimpArgs false

theorem neqFault (a b c d : Int) (w : World) : (binOp .neq 34 (.agg #[.int .i64 a, .int .i64 b]) (.agg #[.int .i64 c, .int .i64 d])).run Tryz.prog w = .ok (.bool (!(a == c && b == d))) w := by
  rw [run_neq_struct, eqFault0]; rfl
theorem cap_owns {w : World} {B : Nat} {e : TypeId} {s : Nat} {v : Value} {n : Nat} {cs : List Value} (h : w.ownsRow B e s v n cs) : capOk v := by
  rcases h.2 with ⟨rfl, _⟩ | ⟨g, cap, cur, rfl, _, _, hc, _⟩
  · exact Nat.le_refl _
  · exact hc
theorem row_set {w : World} {B : Nat} {e : TypeId} {s : Nat} {v : Value} {n : Nat} {cs : List Value} (h : w.ownsRow B e s v n cs) {p : Addr} (hp : p.block < B) (u : Value) : Row (w.setCell p u) v n cs := by
  have h' := row_owns h
  rcases h.2 with ⟨rfl, rfl⟩ | ⟨g, cap, cur, rfl, hg, _⟩
  · have : cs = [] := List.eq_nil_of_length_eq_zero (by have := h.1; simpa using this)
    subst this
    exact Row.nil _
  · obtain ⟨a, c, e1, h2⟩ := h'
    simp only [Value.slice.injEq, true_and] at e1
    obtain ⟨rfl, rfl⟩ := e1
    refine ⟨_, _, rfl, fun j x hj => ?_⟩
    obtain ⟨g', o, e2, hc⟩ := h2 j x hj
    simp only [Option.some.injEq, Addr.mk.injEq, and_true] at e2
    obtain ⟨rfl, rfl⟩ := e2
    exact ⟨g, 0, rfl, by rw [World.cell?_setCell_far _ _ _ _ (by simp; omega)]; exact hc⟩
theorem like_utfb (b : Bk) : likeBk (utfBk b) b := by
  refine ⟨rfl, by simp [utfBk], fun k x y hx hy => ?_⟩
  simp only [utfBk, List.getElem?_map, hy, Option.map_some, Option.some.injEq] at hx
  subst hx
  exact ⟨rfl, rfl⟩
theorem like_readb {f : Fl} (hc : fcheckM f = (0, 0)) : likeBk (readF f).b f.b := by
  obtain ⟨_, _, h3⟩ := (fcheck_iff f).1 hc
  unfold readF
  simp only
  cases h4 : has4 f.ms with
  | true => rw [if_pos rfl]; exact like_utfb _
  | false =>
    obtain ⟨_, h5, h6⟩ := h3 h4
    rw [if_neg (by decide)]
    refine ⟨(empty_of h6).symm, by rw [h5]; rfl, fun k x y hx hy => by rw [h5] at hy; simp at hy⟩
theorem _root_.Go.Proofs.YtgidlcdgpiapkaaGreatDoor.RfRow.keep4 {w w' : World} {vm vb : Value} {f : Fl} (h : RfRow w vm vb f) (hb : Below w.heap.size w w') : RfRow w' vm vb f := ⟨h.1.keep hb, h.2.keep hb⟩
theorem rawN_le (l : List Mt) (h : ∀ m ∈ l, m.body.size ≤ 500) : rawN l ≤ 504 * l.length := by
  induction l with
  | nil => exact Nat.le_refl _
  | cons a l ih =>
    have h1 := ih fun m hm => h m (List.mem_cons_of_mem _ hm)
    have h2 := h a (List.mem_cons_self ..)
    rw [rawN_cons, List.length_cons]
    omega
theorem light_len {f : Fl} (hlt : flightM f = true) (hc : fcheckM f = (0, 0)) : (fprintL f).length ≤ 1048576 := by
  obtain ⟨s1, s2, s3, s4, s5, s6, s7, s8⟩ := light_smF hlt
  have h1 := metasL_len f f.ms 0 false ((fcheck_iff f).1 hc).2.1
  have h2 := rawN_le f.ms s3
  rw [if_neg (by decide)] at h1
  unfold fprintL
  simp only [List.length_append, bl_length]
  have h3 : letters.size = 4 := rfl
  rw [h3]
  omega
theorem sm_readF {f : Fl} (h : smFl f) : smFl (readF f) := by
  obtain ⟨⟨a1, a2, a3⟩, b, c, d, e⟩ := h
  unfold readF
  refine ⟨?_, b, c, ?_, e⟩
  · simp only
    split
    · refine ⟨a1, by simpa [utfBk] using a2, fun n hn => ?_⟩
      simp only [utfBk, List.mem_map] at hn
      obtain ⟨m, hm, rfl⟩ := hn
      exact a3 m hm
    · exact ⟨Nat.zero_le _, Nat.zero_le _, fun n hn => by cases hn⟩
  · simp only
    split
    · simpa [utfBk] using d
    · exact Nat.zero_le _
set_option maxRecDepth 100000 in
set_option maxHeartbeats 8000000 in
theorem walk_dark (vm vb : Value) (f : Fl) (fb : Int) (g : Bool) (w0 : okFl f) (w : World) (R0 : FlRow w vm vb f) (hT : TW w) (hlt : flightM f = false) :
    Calls Tryz.prog 4 #[flV vm vb f, .int .i64 fb, .bool g] w fun e w' => e = .returned (.bool true) ∧ Below w.heap.size w w' := by
  have KA := Lib.hid awake21in_any
  have k1 : ∀ w', Below w.heap.size w w' → Calls Tryz.prog 16 #[flV vm vb f] w' fun e w'' => e = .returned (.bool false) ∧ Below w'.heap.size w' w'' := fun w' hb => by
    have := flight_any vm vb f w' ⟨R0.1.keep hb, R0.2.keep hb⟩ w0
    rw [hlt] at this
    exact this
  obtain ⟨⟨am, cm, rfl, _⟩, ⟨an, cn, rfl, _⟩⟩ := R0
  unfold flV at k1 ⊢
  obtain ⟨ms, ⟨vt, vs, ns⟩, at_, snd⟩ := f
  simp only at k1 ⊢
  generalize ms.length = n at *
  generalize ns.length = nn at *
  obtain ⟨W, hW⟩ : ∃ W, W = w.alloc (.cells #[.slice am n cm, .string vt, .int .i64 vs, .slice an nn cn, .int .i64 at_, .string snd] 31) := ⟨_, rfl⟩
  have hbW : Below w.heap.size w W := by rw [hW]; exact bal (Below.refl _ _) _
  have lc : ∀ (i : Nat) (u : Value), (#[.slice am n cm, .string vt, .int .i64 vs, .slice an nn cn, .int .i64 at_, .string snd] : Array Value)[i]? = some u → W.cell? ⟨w.heap.size, i, none⟩ = some u := by
    intro i u hu; rw [hW]; exact (Live.fresh w _ 31 i u hu).1
  have c0 := lc 0 _ rfl
  have c1 := lc 1 _ rfl
  have c2 := lc 2 _ rfl
  have c3 := lc 3 _ rfl
  have c4 := lc 4 _ rfl
  have c5 := lc 5 _ rfl
  have hTW := hT.bel hbW
  clear lc w0
  have K1 := Lib.hid k1
  have HBW := Lib.hid hbW
  have HTW := Lib.hid hTW
  clear k1 hbW hTW
  clear hlt
  go_enter Tryz.func4, Tryz.ntmps4
  go_wp2_with fail
  rw [← hW]
  clear hW
  go_wp2_with (first
    | (go_at_call 16; go_loud (refine (K1.out _ HBW.out).mono ?_); go_loud (rintro e w2 ⟨rfl, hb2⟩))
    | (go_at_call 10; go_loud (refine (KA.out _ (HTW.out.bel hb2)).mono ?_); go_loud (rintro e w3 ⟨rfl, hb3⟩)))
  go_ret
  exact ⟨rfl, HBW.out.trans ((bt hb2 hb3).mono HBW.out.size)⟩
set_option maxRecDepth 100000 in
set_option maxHeartbeats 8000000 in
theorem walk_bad (vm vb : Value) (f : Fl) (fb : Int) (g : Bool) (w0 : okFl f) (w : World) (R0 : FlRow w vm vb f) (hT : TW w) (hlt : flightM f = true) (hc : (fcheckM f).1 ≠ 0) :
    Calls Tryz.prog 4 #[flV vm vb f, .int .i64 fb, .bool g] w fun e w' => e = .returned (.bool true) ∧ Below w.heap.size w w' := by
  have KA := Lib.hid awake21in_any
  have k1 : ∀ w', Below w.heap.size w w' → Calls Tryz.prog 16 #[flV vm vb f] w' fun e w'' => e = .returned (.bool true) ∧ Below w'.heap.size w' w'' := fun w' hb => by
    have := flight_any vm vb f w' ⟨R0.1.keep hb, R0.2.keep hb⟩ w0
    rw [hlt] at this
    exact this
  obtain ⟨s1, s2, s3, s4, s5, s6, s7, s8⟩ := light_smF hlt
  have b4 : f.b.vt.size ≤ 150 ∧ ∀ n ∈ f.b.ns, n.name.size ≤ 50 ∧ n.text.size ≤ 150 := by
    have h := hlt
    unfold flightM at h
    simp only [Bool.and_eq_true] at h
    obtain ⟨_, _, b3, b4⟩ := light_smB h.2
    exact ⟨b3, b4⟩
  have hk256 : ∀ m ∈ f.ms, m.kind < 256 := fun m hm => (w0.2.2.1 m hm).1
  have kof : ∀ w', Below w.heap.size w w' → Calls Tryz.prog 15 #[flV vm vb f] w' fun e w'' => ∃ vm' vb', e = .returned (rfV vm' vb' f) ∧ RfRow w'' vm' vb' f ∧ capOk vm' ∧ Below w'.heap.size w' w'' := fun w' hb => (fof_any vm vb f w' ⟨R0.1.keep hb, R0.2.keep hb⟩ s1 hk256).mono fun e w'' ⟨a, b, h1, h2, h3, h4⟩ => ⟨a, b, h1, ⟨row_owns h2, row_owns h3⟩, cap_owns h2, h4⟩
  have krc : ∀ w' vm' vb', RfRow w' vm' vb' f → capOk vm' → Calls Tryz.prog 18 #[rfV vm' vb' f] w' fun e w'' => e = .returned (.tuple #[.int .i64 (fcheckM f).1, .int .i64 (fcheckM f).2]) ∧ Below w'.heap.size w' w'' := fun w' vm' vb' h1 h2 => rcheck21_any vm' vb' f w' h1 h2 s1 hk256
  have kck : ∀ w', Below w.heap.size w w' → Calls Tryz.prog 19 #[flV vm vb f] w' fun e w'' => e = .returned (.agg #[.int .i64 (fcheckM f).1, .int .i64 (fcheckM f).2]) ∧ Below w'.heap.size w' w'' := fun w' hb => fchk_any vm vb f w' (hT.bel hb) ⟨R0.1.keep hb, R0.2.keep hb⟩ s1
  have kpr : ∀ w', Below w.heap.size w w' → Calls Tryz.prog 17 #[flV vm vb f] w' (FPrintPost f w') := fun w' hb => fprint_any vm vb f w' (hT.bel hb) ⟨R0.1.keep hb, R0.2.keep hb⟩ s1 (by omega) (fun m hm => by have := s3 m hm; omega) (by omega)
  unfold FPrintPost at kpr
  rw [if_neg hc] at kpr
  clear s1 s2 s3 s4 s5 s6 s7 s8 hlt b4 hk256
  generalize fcheckM f = C at *
  obtain ⟨ce, ca⟩ := C
  simp only at hc kpr krc kck
  obtain ⟨⟨am, cm, rfl, hcm⟩, ⟨an, cn, rfl, hcn⟩⟩ := R0
  unfold flV at k1 kof kpr kck ⊢
  unfold rfV at kof krc
  obtain ⟨W, hW⟩ : ∃ W, W = w.alloc (.cells #[.slice am f.ms.length cm, .string f.b.vt, .int .i64 f.b.vs, .slice an f.b.ns.length cn, .int .i64 f.at_, .string f.sound] 31) := ⟨_, rfl⟩
  have hbW : Below w.heap.size w W := by rw [hW]; exact bal (Below.refl _ _) _
  have lc : ∀ (i : Nat) (u : Value), (#[.slice am f.ms.length cm, .string f.b.vt, .int .i64 f.b.vs, .slice an f.b.ns.length cn, .int .i64 f.at_, .string f.sound] : Array Value)[i]? = some u → W.cell? ⟨w.heap.size, i, none⟩ = some u := by
    intro i u hu; rw [hW]; exact (Live.fresh w _ 31 i u hu).1
  have c0 := lc 0 _ rfl
  have c1 := lc 1 _ rfl
  have c2 := lc 2 _ rfl
  have c3 := lc 3 _ rfl
  have c4 := lc 4 _ rfl
  have c5 := lc 5 _ rfl
  have hTW := hT.bel hbW
  have kN : ∀ w, (binOp .neq 34 (.agg #[.int .i64 ce, .int .i64 ca]) (.agg #[.int .i64 ce, .int .i64 ca])).run Tryz.prog w = .ok (.bool false) w := fun w => by have := neqFault ce ca ce ca w; simpa using this
  have kG := fun x y w => guardFault .neq x y #[.int .i64 ce, .int .i64 ca] #[.int .i64 ce, .int .i64 ca] w
  have hcb : (ce != 0) = true := by simpa using hc
  have KF := Lib.hid fault_any
  clear lc w0
  have K1 := Lib.hid k1
  have KOF := Lib.hid kof
  have KPR := Lib.hid kpr
  have KRC := Lib.hid krc
  have KCK := Lib.hid kck
  have HBW := Lib.hid hbW
  have HTW := Lib.hid hTW
  clear k1 kof kpr krc kck hbW hTW
  go_enter Tryz.func4, Tryz.ntmps4
  go_wp2_with fail
  rw [← hW]
  clear hW
  go_wp2_with (first
    | (go_at_call 16; go_loud (refine (K1.out _ HBW.out).mono ?_); go_loud (rintro e w2 ⟨rfl, hb2⟩); go_loud (have d0 := kc hb2 c0); go_loud (have d1 := kc hb2 c1); go_loud (have d2 := kc hb2 c2); go_loud (have d3 := kc hb2 c3); go_loud (have d4 := kc hb2 c4); go_loud (have d5 := kc hb2 c5); go_loud (have hW2 := HBW.out.trans (hb2.mono HBW.out.size)))
    | (go_at_call 15; go_loud (with_reducible refine (KOF.out _ hW2).mono ?_); go_loud (rintro e w3 ⟨vm2, vb2, rfl, hrm, hcap, hb3⟩); go_loud (obtain ⟨⟨am2, cm2, rfl, hc2⟩, ⟨an2, cn2, rfl, hn2⟩⟩ := hrm); go_loud (have hrm3 : RfRow w3 (.slice am2 f.ms.length cm2) (.slice an2 f.b.ns.length cn2) f := ⟨⟨_, _, rfl, hc2⟩, ⟨_, _, rfl, hn2⟩⟩); go_loud (have hb3a := bal hb3 (.cells #[.slice am2 f.ms.length cm2, .string ⟨#[]⟩, .string f.b.vt, .int .i64 f.b.vs, .slice an2 f.b.ns.length cn2, .int .i64 f.at_, .string f.sound] 47)); go_loud (have hm3 := bal (Below.refl w3.heap.size w3) (.cells #[.slice am2 f.ms.length cm2, .string ⟨#[]⟩, .string f.b.vt, .int .i64 f.b.vs, .slice an2 f.b.ns.length cn2, .int .i64 f.at_, .string f.sound] 47)); go_loud (have d0 := kc hb3a d0); go_loud (have d1 := kc hb3a d1); go_loud (have d2 := kc hb3a d2); go_loud (have d3 := kc hb3a d3); go_loud (have d4 := kc hb3a d4); go_loud (have d5 := kc hb3a d5); go_loud (have hW3 := bt hW2 hb3a))
    | (go_at_call 17; go_loud (with_reducible refine (KPR.out _ hW3).mono ?_); go_loud (rintro e w4 ⟨rfl, hb4⟩); go_loud (have hb4a := bal hb4 (.cells #[.int .i64 ce, .int .i64 ca] 34)); go_loud (have hm4 := bt hm3 hb4a); go_loud (have hW4 := bt hW3 hb4a); go_loud (have d0 := kc hb4a d0); go_loud (have d1 := kc hb4a d1); go_loud (have d2 := kc hb4a d2); go_loud (have d3 := kc hb4a d3); go_loud (have d4 := kc hb4a d4); go_loud (have d5 := kc hb4a d5); go_loud (have e0 := kc hb4a (Live.fresh w3 #[.slice am2 f.ms.length cm2, .string ⟨#[]⟩, .string f.b.vt, .int .i64 f.b.vs, .slice an2 f.b.ns.length cn2, .int .i64 f.at_, .string f.sound] 47 0 _ rfl).1); go_loud (have e1 := kc hb4a (Live.fresh w3 #[.slice am2 f.ms.length cm2, .string ⟨#[]⟩, .string f.b.vt, .int .i64 f.b.vs, .slice an2 f.b.ns.length cn2, .int .i64 f.at_, .string f.sound] 47 1 _ rfl).1); go_loud (have e2 := kc hb4a (Live.fresh w3 #[.slice am2 f.ms.length cm2, .string ⟨#[]⟩, .string f.b.vt, .int .i64 f.b.vs, .slice an2 f.b.ns.length cn2, .int .i64 f.at_, .string f.sound] 47 2 _ rfl).1); go_loud (have e3 := kc hb4a (Live.fresh w3 #[.slice am2 f.ms.length cm2, .string ⟨#[]⟩, .string f.b.vt, .int .i64 f.b.vs, .slice an2 f.b.ns.length cn2, .int .i64 f.at_, .string f.sound] 47 3 _ rfl).1); go_loud (have e4 := kc hb4a (Live.fresh w3 #[.slice am2 f.ms.length cm2, .string ⟨#[]⟩, .string f.b.vt, .int .i64 f.b.vs, .slice an2 f.b.ns.length cn2, .int .i64 f.at_, .string f.sound] 47 4 _ rfl).1); go_loud (have e5 := kc hb4a (Live.fresh w3 #[.slice am2 f.ms.length cm2, .string ⟨#[]⟩, .string f.b.vt, .int .i64 f.b.vs, .slice an2 f.b.ns.length cn2, .int .i64 f.at_, .string f.sound] 47 5 _ rfl).1); go_loud (have e6 := kc hb4a (Live.fresh w3 #[.slice am2 f.ms.length cm2, .string ⟨#[]⟩, .string f.b.vt, .int .i64 f.b.vs, .slice an2 f.b.ns.length cn2, .int .i64 f.at_, .string f.sound] 47 6 _ rfl).1))
    | (go_at_call 18; go_loud (with_reducible refine (KRC.out _ _ _ (hrm3.keep4 hm4) hcap).mono ?_); go_loud (rintro e w5 ⟨rfl, hb5⟩); go_loud (have hm5 := bt hm4 hb5); go_loud (have hW5 := bt hW4 hb5); go_loud (have d0 := kc hb5 d0); go_loud (have d1 := kc hb5 d1); go_loud (have d2 := kc hb5 d2); go_loud (have d3 := kc hb5 d3); go_loud (have d4 := kc hb5 d4); go_loud (have d5 := kc hb5 d5); go_loud (have q0 := kc hb5 (Live.fresh w4 #[.int .i64 ce, .int .i64 ca] 34 0 _ rfl).1); go_loud (have q1 := kc hb5 (Live.fresh w4 #[.int .i64 ce, .int .i64 ca] 34 1 _ rfl).1)))
  have g0 := fun x : Grown w5 => x.cell d0
  have g1 := fun x : Grown w5 => x.cell d1
  have g2 := fun x : Grown w5 => x.cell d2
  have g3 := fun x : Grown w5 => x.cell d3
  have g4 := fun x : Grown w5 => x.cell d4
  have g5 := fun x : Grown w5 => x.cell d5
  have g6 := fun x : Grown w5 => x.cell q0
  have g7 := fun x : Grown w5 => x.cell q1
  have kck2 : ∀ x : Grown w5, Calls Tryz.prog 19 #[.agg #[.slice am f.ms.length cm, .string f.b.vt, .int .i64 f.b.vs, .slice an f.b.ns.length cn, .int .i64 f.at_, .string f.sound]] x.wd fun e w'' => e = .returned (.agg #[.int .i64 ce, .int .i64 ca]) ∧ Below x.wd.heap.size x.wd w'' := fun x => KCK.out _ (bt hW5 x.bel)
  have KCK2 := Lib.hid kck2
  clear kck2
  refine wp_region_grown (by kernel_rfl) (by kernel_rfl) ?_
  repeat (first | go_big_quiet_step ((first | (go_at_call 13; with_reducible exact Calls.grown_of (KF.out _ _ _)) | (go_at_call 19; exact Calls.grown_of (KCK2.out _)))) | quiet_step ((first | (go_at_call 13; with_reducible exact Calls.grown_of (KF.out _ _ _)) | (go_at_call 19; exact Calls.grown_of (KCK2.out _)))))
  refine wpQuiet_nil ?_
  intro _ hw'
  obtain ⟨xg, rfl⟩ := hw'
  have hbg := xg.bel
  have hW6 := bt hW5 hbg
  clear g0 g1 g2 g3 g4 g5 g6 g7 kN kG hbg KCK2
  generalize xg.wd = W6 at *
  clear xg
  go_wp2_with (go_at_call 10; go_loud (refine (KA.out _ (hT.bel hW6)).mono ?_); go_loud (rintro e w7 ⟨rfl, hb7⟩))
  go_ret
  exact ⟨rfl, bt hW6 hb7⟩
set_option maxRecDepth 100000 in
set_option maxHeartbeats 16000000 in
theorem walk_good (vm vb : Value) (f : Fl) (fb : Int) (g : Bool) (w0 : okFl f) (w : World) (R0 : FlRow w vm vb f) (hT : TW w) (hlt : flightM f = true) (hc : (fcheckM f).1 = 0) :
    Calls Tryz.prog 4 #[flV vm vb f, .int .i64 fb, .bool g] w fun e w' => e = .returned (.bool true) ∧ Below w.heap.size w w' := by
  have KA := Lib.hid awake21in_any
  have k1 : ∀ w', Below w.heap.size w w' → Calls Tryz.prog 16 #[flV vm vb f] w' fun e w'' => e = .returned (.bool true) ∧ Below w'.heap.size w' w'' := fun w' hb => by
    have := flight_any vm vb f w' ⟨R0.1.keep hb, R0.2.keep hb⟩ w0
    rw [hlt] at this
    exact this
  obtain ⟨s1, s2, s3, s4, s5, s6, s7, s8⟩ := light_smF hlt
  have b4 : f.b.vt.size ≤ 150 ∧ ∀ n ∈ f.b.ns, n.name.size ≤ 50 ∧ n.text.size ≤ 150 := by
    have h := hlt
    unfold flightM at h
    simp only [Bool.and_eq_true] at h
    obtain ⟨_, _, b3, b4⟩ := light_smB h.2
    exact ⟨b3, b4⟩
  have hk256 : ∀ m ∈ f.ms, m.kind < 256 := fun m hm => (w0.2.2.1 m hm).1
  have kof : ∀ w', Below w.heap.size w w' → Calls Tryz.prog 15 #[flV vm vb f] w' fun e w'' => ∃ vm' vb', e = .returned (rfV vm' vb' f) ∧ RfRow w'' vm' vb' f ∧ capOk vm' ∧ Below w'.heap.size w' w'' := fun w' hb => (fof_any vm vb f w' ⟨R0.1.keep hb, R0.2.keep hb⟩ s1 hk256).mono fun e w'' ⟨a, b, h1, h2, h3, h4⟩ => ⟨a, b, h1, ⟨row_owns h2, row_owns h3⟩, cap_owns h2, h4⟩
  have krc : ∀ w' vm' vb', RfRow w' vm' vb' f → capOk vm' → Calls Tryz.prog 18 #[rfV vm' vb' f] w' fun e w'' => e = .returned (.tuple #[.int .i64 (fcheckM f).1, .int .i64 (fcheckM f).2]) ∧ Below w'.heap.size w' w'' := fun w' vm' vb' h1 h2 => rcheck21_any vm' vb' f w' h1 h2 s1 hk256
  have kck : ∀ w', Below w.heap.size w w' → Calls Tryz.prog 19 #[flV vm vb f] w' fun e w'' => e = .returned (.agg #[.int .i64 (fcheckM f).1, .int .i64 (fcheckM f).2]) ∧ Below w'.heap.size w' w'' := fun w' hb => fchk_any vm vb f w' (hT.bel hb) ⟨R0.1.keep hb, R0.2.keep hb⟩ s1
  have kpr : ∀ w', Below w.heap.size w w' → Calls Tryz.prog 17 #[flV vm vb f] w' (FPrintPost f w') := fun w' hb => fprint_any vm vb f w' (hT.bel hb) ⟨R0.1.keep hb, R0.2.keep hb⟩ s1 (by omega) (fun m hm => by have := s3 m hm; omega) (by omega)
  unfold FPrintPost at kpr
  have hcz := fcheck_fst hc
  rw [if_pos hc] at kpr
  rw [hcz] at kpr krc kck
  obtain ⟨S, hS⟩ : ∃ S : ByteArray, S = ⟨(fprintL f).toArray⟩ := ⟨_, rfl⟩
  have hSz : S.size ≤ 1048576 := by rw [hS]; exact light_len hlt hcz
  obtain ⟨h, hh⟩ : ∃ h, h = readF f := ⟨_, rfl⟩
  have kp : ∀ w', TW w' → Calls Tryz.prog 11 #[.string S, .agg #[.int .i64 0, .int .i64 fb, .bool g, .int .i64 0]] w' (FParsePost (h, 0, 0) w') := fun w' hT' => by
    have := fparse_any S 0 fb 0 g w' hT' hSz
    rw [hS, fparse_back (RM_utf fb g) f hcz (by omega) (fun m hm => by have := s3 m hm; omega), ← hS, ← hh] at this
    exact this
  unfold FParsePost at kp
  rw [← hS] at kpr
  have hkd := preOK_kind f f.ms 0 false ((fcheck_iff f).1 hcz).2.1
  have krp : ∀ w' vm' vb' (A : Int), RfRow w' vm' vb' f → Calls Tryz.prog 20 #[.agg #[vm', .string ⟨#[]⟩, .string f.b.vt, .int .i64 f.b.vs, vb', .int .i64 A, .string f.sound]] w' fun e w'' => e = .returned (.string S) ∧ Below w'.heap.size w' w'' := fun w' vm' vb' A hr => by
    have := rprint21_any vm' vb' ⟨f.ms, f.b, A, f.sound⟩ w' hr s1.1 (by simp only; omega) (fun m hm => by have := hkd m hm; omega) (fun m hm => by have := s6 m hm; simp only; omega) (by simp only; omega) (fun n hn => by have := b4.2 n hn; omega) (by have := b4.1; simp only; omega) (by simp only; omega)
    rw [hS]
    exact this
  have hm1 : smFl h := by rw [hh]; exact sm_readF s1
  have hhm : h.ms = f.ms := by rw [hh]; rfl
  have hhs : h.sound = f.sound := by rw [hh]; rfl
  have hha : max f.at_ (-1) = h.at_ := by rw [hh, read_max f hcz]
  have hhl : likeBk h.b f.b := by rw [hh]; exact like_readb hcz
  have kof2 : ∀ w' vm vb, FlRow w' vm vb h → Calls Tryz.prog 15 #[flV vm vb h] w' fun e w'' => ∃ vm' vb', e = .returned (rfV vm' vb' h) ∧ RfRow w'' vm' vb' h ∧ Below w'.heap.size w' w'' := fun w' vm vb hr =>
    (fof_any vm vb h w' hr hm1 (by rw [hhm]; exact hk256)).mono fun e w'' ⟨a, b, h1, h2, h3, h4⟩ => ⟨a, b, h1, ⟨row_owns h2, row_owns h3⟩, h4⟩
  have kse : ∀ w' va na vb nb, RfRow w' va na h → RfRow w' vb nb f → Calls Tryz.prog 14 #[rfV va na h, .agg #[vb, .string ⟨#[]⟩, .string f.b.vt, .int .i64 f.b.vs, nb, .int .i64 h.at_, .string f.sound], .bool false] w' fun e w'' => e = .returned (.bool true) ∧ Below w'.heap.size w' w'' := fun w' va na vb nb h1 h2 =>
    fsame_any va na vb nb h ⟨f.ms, f.b, h.at_, f.sound⟩ w' h1 h2 hhm rfl hhs hhl hm1.2.2.2.1 hm1.2.1
  obtain ⟨⟨am, cm, rfl, hcm⟩, ⟨an, cn, rfl, hcn⟩⟩ := R0
  unfold flV at k1 kof kpr kck kof2 kp ⊢
  unfold rfV at kof krc kof2 kse
  obtain ⟨W, hW⟩ : ∃ W, W = w.alloc (.cells #[.slice am f.ms.length cm, .string f.b.vt, .int .i64 f.b.vs, .slice an f.b.ns.length cn, .int .i64 f.at_, .string f.sound] 31) := ⟨_, rfl⟩
  have hbW : Below w.heap.size w W := by rw [hW]; exact bal (Below.refl _ _) _
  have lc : ∀ (i : Nat) (u : Value), (#[.slice am f.ms.length cm, .string f.b.vt, .int .i64 f.b.vs, .slice an f.b.ns.length cn, .int .i64 f.at_, .string f.sound] : Array Value)[i]? = some u → W.cell? ⟨w.heap.size, i, none⟩ = some u := by
    intro i u hu; rw [hW]; exact (Live.fresh w _ 31 i u hu).1
  have c0 := lc 0 _ rfl
  have c1 := lc 1 _ rfl
  have c2 := lc 2 _ rfl
  have c3 := lc 3 _ rfl
  have c4 := lc 4 _ rfl
  have c5 := lc 5 _ rfl
  have hTW := hT.bel hbW
  have kN : ∀ w, (binOp .neq 34 (.agg #[.int .i64 0, .int .i64 0]) (.agg #[.int .i64 0, .int .i64 0])).run Tryz.prog w = .ok (.bool false) w := fun w => by have := neqFault 0 0 0 0 w; simpa using this
  have kG := fun x y w => guardFault .neq x y #[.int .i64 0, .int .i64 0] #[.int .i64 0, .int .i64 0] w
  have KF := Lib.hid fault_any
  have HSS : (S.toList == S.toList) = true := by simp
  clear lc w0 s1 s2 s3 s4 s5 s6 s7 s8 hlt b4 hk256 hc hcz hS hSz hm1 hhm hhs hhl hkd hh hcm hcn
  have K1 := Lib.hid k1
  have KOF := Lib.hid kof
  have KPR := Lib.hid kpr
  have KRC := Lib.hid krc
  have KCK := Lib.hid kck
  have HBW := Lib.hid hbW
  have HTW := Lib.hid hTW
  have KP := Lib.hid kp
  have KRP := Lib.hid krp
  have KOF2 := Lib.hid kof2
  have KSE := Lib.hid kse
  have HHA := Lib.hid hha
  clear k1 kof kpr krc kck hbW hTW kp krp kof2 kse hha
  go_enter Tryz.func4, Tryz.ntmps4
  go_wp2_with fail
  rw [← hW]
  clear hW
  go_wp2_with (first
    | (go_at_call 16; go_loud (refine (K1.out _ HBW.out).mono ?_); go_loud (rintro e w2 ⟨rfl, hb2⟩); go_loud (have d0 := kc hb2 c0); go_loud (have d1 := kc hb2 c1); go_loud (have d2 := kc hb2 c2); go_loud (have d3 := kc hb2 c3); go_loud (have d4 := kc hb2 c4); go_loud (have d5 := kc hb2 c5); go_loud (have hW2 := HBW.out.trans (hb2.mono HBW.out.size)))
    | (go_at_call 15; go_loud (with_reducible refine (KOF.out _ hW2).mono ?_); go_loud (rintro e w3 ⟨vm2, vb2, rfl, hrm, hcap, hb3⟩); go_loud (obtain ⟨⟨am2, cm2, rfl, hc2⟩, ⟨an2, cn2, rfl, hn2⟩⟩ := hrm); go_loud (have hrm3 : RfRow w3 (.slice am2 f.ms.length cm2) (.slice an2 f.b.ns.length cn2) f := ⟨⟨_, _, rfl, hc2⟩, ⟨_, _, rfl, hn2⟩⟩); go_loud (have hb3a := bal hb3 (.cells #[.slice am2 f.ms.length cm2, .string ⟨#[]⟩, .string f.b.vt, .int .i64 f.b.vs, .slice an2 f.b.ns.length cn2, .int .i64 f.at_, .string f.sound] 47)); go_loud (have hm3 := bal (Below.refl w3.heap.size w3) (.cells #[.slice am2 f.ms.length cm2, .string ⟨#[]⟩, .string f.b.vt, .int .i64 f.b.vs, .slice an2 f.b.ns.length cn2, .int .i64 f.at_, .string f.sound] 47)); go_loud (have d0 := kc hb3a d0); go_loud (have d1 := kc hb3a d1); go_loud (have d2 := kc hb3a d2); go_loud (have d3 := kc hb3a d3); go_loud (have d4 := kc hb3a d4); go_loud (have d5 := kc hb3a d5); go_loud (have hW3 := bt hW2 hb3a))
    | (go_at_call 17; go_loud (with_reducible refine (KPR.out _ hW3).mono ?_); go_loud (rintro e w4 ⟨rfl, hb4⟩); go_loud (have hb4a := bal hb4 (.cells #[.int .i64 0, .int .i64 0] 34)); go_loud (have hm4 := bt hm3 hb4a); go_loud (have hW4 := bt hW3 hb4a); go_loud (have d0 := kc hb4a d0); go_loud (have d1 := kc hb4a d1); go_loud (have d2 := kc hb4a d2); go_loud (have d3 := kc hb4a d3); go_loud (have d4 := kc hb4a d4); go_loud (have d5 := kc hb4a d5); go_loud (have f5 := kf hb4a (Live.fresh w3 #[.slice am2 f.ms.length cm2, .string ⟨#[]⟩, .string f.b.vt, .int .i64 f.b.vs, .slice an2 f.b.ns.length cn2, .int .i64 f.at_, .string f.sound] 47 5 _ rfl).1 (Live.fresh w3 #[.slice am2 f.ms.length cm2, .string ⟨#[]⟩, .string f.b.vt, .int .i64 f.b.vs, .slice an2 f.b.ns.length cn2, .int .i64 f.at_, .string f.sound] 47 5 _ rfl).2); go_loud (have e0 := kc hb4a (Live.fresh w3 #[.slice am2 f.ms.length cm2, .string ⟨#[]⟩, .string f.b.vt, .int .i64 f.b.vs, .slice an2 f.b.ns.length cn2, .int .i64 f.at_, .string f.sound] 47 0 _ rfl).1); go_loud (have e1 := kc hb4a (Live.fresh w3 #[.slice am2 f.ms.length cm2, .string ⟨#[]⟩, .string f.b.vt, .int .i64 f.b.vs, .slice an2 f.b.ns.length cn2, .int .i64 f.at_, .string f.sound] 47 1 _ rfl).1); go_loud (have e2 := kc hb4a (Live.fresh w3 #[.slice am2 f.ms.length cm2, .string ⟨#[]⟩, .string f.b.vt, .int .i64 f.b.vs, .slice an2 f.b.ns.length cn2, .int .i64 f.at_, .string f.sound] 47 2 _ rfl).1); go_loud (have e3 := kc hb4a (Live.fresh w3 #[.slice am2 f.ms.length cm2, .string ⟨#[]⟩, .string f.b.vt, .int .i64 f.b.vs, .slice an2 f.b.ns.length cn2, .int .i64 f.at_, .string f.sound] 47 3 _ rfl).1); go_loud (have e4 := kc hb4a (Live.fresh w3 #[.slice am2 f.ms.length cm2, .string ⟨#[]⟩, .string f.b.vt, .int .i64 f.b.vs, .slice an2 f.b.ns.length cn2, .int .i64 f.at_, .string f.sound] 47 4 _ rfl).1); go_loud (have e5 := kc hb4a (Live.fresh w3 #[.slice am2 f.ms.length cm2, .string ⟨#[]⟩, .string f.b.vt, .int .i64 f.b.vs, .slice an2 f.b.ns.length cn2, .int .i64 f.at_, .string f.sound] 47 5 _ rfl).1); go_loud (have e6 := kc hb4a (Live.fresh w3 #[.slice am2 f.ms.length cm2, .string ⟨#[]⟩, .string f.b.vt, .int .i64 f.b.vs, .slice an2 f.b.ns.length cn2, .int .i64 f.at_, .string f.sound] 47 6 _ rfl).1))
    | (go_at_call 18; go_loud (with_reducible refine (KRC.out _ _ _ (hrm3.keep4 hm4) hcap).mono ?_); go_loud (rintro e w5 ⟨rfl, hb5⟩); go_loud (have hm5 := bt hm4 hb5); go_loud (have hW5 := bt hW4 hb5); go_loud (have d0 := kc hb5 d0); go_loud (have d1 := kc hb5 d1); go_loud (have d2 := kc hb5 d2); go_loud (have d3 := kc hb5 d3); go_loud (have d4 := kc hb5 d4); go_loud (have d5 := kc hb5 d5); go_loud (have q0 := kc hb5 (Live.fresh w4 #[.int .i64 0, .int .i64 0] 34 0 _ rfl).1); go_loud (have q1 := kc hb5 (Live.fresh w4 #[.int .i64 0, .int .i64 0] 34 1 _ rfl).1)))
  have f5 := kf hb5 e5 f5
  have e0 := kc hb5 e0
  have e1 := kc hb5 e1
  have e2 := kc hb5 e2
  have e3 := kc hb5 e3
  have e4 := kc hb5 e4
  have e5 := kc hb5 e5
  have e6 := kc hb5 e6
  have g0 := fun x : Grown w5 => x.cell d0
  have g1 := fun x : Grown w5 => x.cell d1
  have g2 := fun x : Grown w5 => x.cell d2
  have g3 := fun x : Grown w5 => x.cell d3
  have g4 := fun x : Grown w5 => x.cell d4
  have g5 := fun x : Grown w5 => x.cell d5
  have g6 := fun x : Grown w5 => x.cell q0
  have g7 := fun x : Grown w5 => x.cell q1
  have kck2 : ∀ x : Grown w5, Calls Tryz.prog 19 #[.agg #[.slice am f.ms.length cm, .string f.b.vt, .int .i64 f.b.vs, .slice an f.b.ns.length cn, .int .i64 f.at_, .string f.sound]] x.wd fun e w'' => e = .returned (.agg #[.int .i64 0, .int .i64 0]) ∧ Below x.wd.heap.size x.wd w'' := fun x => KCK.out _ (bt hW5 x.bel)
  have KCK2 := Lib.hid kck2
  clear kck2
  refine wp_region_grown (by kernel_rfl) (by kernel_rfl) ?_
  repeat (first | go_big_quiet_step ((first | (go_at_call 13; with_reducible exact Calls.grown_of (KF.out _ _ _)) | (go_at_call 19; exact Calls.grown_of (KCK2.out _)))) | quiet_step ((first | (go_at_call 13; with_reducible exact Calls.grown_of (KF.out _ _ _)) | (go_at_call 19; exact Calls.grown_of (KCK2.out _)))))
  refine wpQuiet_nil ?_
  intro _ hw'
  obtain ⟨xg, rfl⟩ := hw'
  have hbg := xg.bel
  have hW6 := bt hW5 hbg
  have f5 := kf hbg e5 f5
  have e0 := kc hbg e0
  have e1 := kc hbg e1
  have e2 := kc hbg e2
  have e3 := kc hbg e3
  have e4 := kc hbg e4
  have e5 := kc hbg e5
  have e6 := kc hbg e6
  have hm6 := bt hm5 hbg
  clear g0 g1 g2 g3 g4 g5 g6 g7 kN kG hbg KCK2
  generalize xg.wd = W6 at *
  clear xg d0 d1 d2 d3 d4 d5 q0 q1
  have hT6 := hT.bel hW6
  go_wp2_with (go_at_call 11; go_loud (with_reducible refine (KP.out _ hT6).mono ?_); go_loud (rintro e w8 ⟨hb8, vm3, vb3, rfl, o1, o2⟩); go_loud (obtain ⟨am3, cm3, rfl⟩ := orow_form o1); go_loud (obtain ⟨an3, cn3, rfl⟩ := orow_form o2); go_loud (have hb9 := bal (bal hb8 (.cells #[.slice am3 h.ms.length cm3, .string h.b.vt, .int .i64 h.b.vs, .slice an3 h.b.ns.length cn3, .int .i64 h.at_, .string h.sound] 31)) (.cells #[.int .i64 0, .int .i64 0] 34)); go_loud (have hlt6 := cell_lt e0); go_loud (have f5 := kf hb9 e5 f5); go_loud (have e0 := kc hb9 e0); go_loud (have e1 := kc hb9 e1); go_loud (have e2 := kc hb9 e2); go_loud (have e3 := kc hb9 e3); go_loud (have e4 := kc hb9 e4); go_loud (have e5 := kc hb9 e5); go_loud (have e6 := kc hb9 e6))
  rw [HHA.out]
  have h37 : w3.heap.size < w8.heap.size := Nat.lt_of_lt_of_le hlt6 hb8.size
  have hn1 : ¬ w3.heap.size = w8.heap.size := by omega
  have hn2 : ¬ w3.heap.size = w8.heap.size + 1 := by omega
  have u0 := orow_bel o1 (bal (bal (Below.refl w8.heap.size w8) (.cells #[.slice am3 h.ms.length cm3, .string h.b.vt, .int .i64 h.b.vs, .slice an3 h.b.ns.length cn3, .int .i64 h.at_, .string h.sound] 31)) (.cells #[.int .i64 0, .int .i64 0] 34))
  have u1 := orow_bel o2 (bal (bal (Below.refl w8.heap.size w8) (.cells #[.slice am3 h.ms.length cm3, .string h.b.vt, .int .i64 h.b.vs, .slice an3 h.b.ns.length cn3, .int .i64 h.at_, .string h.sound] 31)) (.cells #[.int .i64 0, .int .i64 0] 34))
  have hrg : FlRow (((w8.alloc (.cells #[.slice am3 h.ms.length cm3, .string h.b.vt, .int .i64 h.b.vs, .slice an3 h.b.ns.length cn3, .int .i64 h.at_, .string h.sound] 31)).alloc (.cells #[.int .i64 0, .int .i64 0] 34)).setCell ⟨w3.heap.size, 5, none⟩ (.int .i64 h.at_)) (.slice am3 h.ms.length cm3) (.slice an3 h.b.ns.length cn3) h := ⟨row_set u0 hlt6 _, row_set u1 hlt6 _⟩
  have hm10 : Below w3.heap.size w3 (((w8.alloc (.cells #[.slice am3 h.ms.length cm3, .string h.b.vt, .int .i64 h.b.vs, .slice an3 h.b.ns.length cn3, .int .i64 h.at_, .string h.sound] 31)).alloc (.cells #[.int .i64 0, .int .i64 0] 34)).setCell ⟨w3.heap.size, 5, none⟩ (.int .i64 h.at_)) := (bt hm6 hb9).setCell (Nat.le_refl _) _
  have hb10 : Below w.heap.size w (((w8.alloc (.cells #[.slice am3 h.ms.length cm3, .string h.b.vt, .int .i64 h.b.vs, .slice an3 h.b.ns.length cn3, .int .i64 h.at_, .string h.sound] 31)).alloc (.cells #[.int .i64 0, .int .i64 0] 34)).setCell ⟨w3.heap.size, 5, none⟩ (.int .i64 h.at_)) := (bt hW6 hb9).setCell (by have := hW2.size; have := hb3.size; simp; omega) _
  have m0 : (((w8.alloc (.cells #[.slice am3 h.ms.length cm3, .string h.b.vt, .int .i64 h.b.vs, .slice an3 h.b.ns.length cn3, .int .i64 h.at_, .string h.sound] 31)).alloc (.cells #[.int .i64 0, .int .i64 0] 34)).setCell ⟨w3.heap.size, 5, none⟩ (.int .i64 h.at_)).cell? ⟨w3.heap.size, 0, none⟩ = some (.slice am2 f.ms.length cm2) := by rw [World.cell?_setCell_other _ _ _ _ (by simp)]; exact e0
  have m1 : (((w8.alloc (.cells #[.slice am3 h.ms.length cm3, .string h.b.vt, .int .i64 h.b.vs, .slice an3 h.b.ns.length cn3, .int .i64 h.at_, .string h.sound] 31)).alloc (.cells #[.int .i64 0, .int .i64 0] 34)).setCell ⟨w3.heap.size, 5, none⟩ (.int .i64 h.at_)).cell? ⟨w3.heap.size, 1, none⟩ = some (.string ⟨#[]⟩) := by rw [World.cell?_setCell_other _ _ _ _ (by simp)]; exact e1
  have m2 : (((w8.alloc (.cells #[.slice am3 h.ms.length cm3, .string h.b.vt, .int .i64 h.b.vs, .slice an3 h.b.ns.length cn3, .int .i64 h.at_, .string h.sound] 31)).alloc (.cells #[.int .i64 0, .int .i64 0] 34)).setCell ⟨w3.heap.size, 5, none⟩ (.int .i64 h.at_)).cell? ⟨w3.heap.size, 2, none⟩ = some (.string f.b.vt) := by rw [World.cell?_setCell_other _ _ _ _ (by simp)]; exact e2
  have m3 : (((w8.alloc (.cells #[.slice am3 h.ms.length cm3, .string h.b.vt, .int .i64 h.b.vs, .slice an3 h.b.ns.length cn3, .int .i64 h.at_, .string h.sound] 31)).alloc (.cells #[.int .i64 0, .int .i64 0] 34)).setCell ⟨w3.heap.size, 5, none⟩ (.int .i64 h.at_)).cell? ⟨w3.heap.size, 3, none⟩ = some (.int .i64 f.b.vs) := by rw [World.cell?_setCell_other _ _ _ _ (by simp)]; exact e3
  have m4 : (((w8.alloc (.cells #[.slice am3 h.ms.length cm3, .string h.b.vt, .int .i64 h.b.vs, .slice an3 h.b.ns.length cn3, .int .i64 h.at_, .string h.sound] 31)).alloc (.cells #[.int .i64 0, .int .i64 0] 34)).setCell ⟨w3.heap.size, 5, none⟩ (.int .i64 h.at_)).cell? ⟨w3.heap.size, 4, none⟩ = some (.slice an2 f.b.ns.length cn2) := by rw [World.cell?_setCell_other _ _ _ _ (by simp)]; exact e4
  have m5 : (((w8.alloc (.cells #[.slice am3 h.ms.length cm3, .string h.b.vt, .int .i64 h.b.vs, .slice an3 h.b.ns.length cn3, .int .i64 h.at_, .string h.sound] 31)).alloc (.cells #[.int .i64 0, .int .i64 0] 34)).setCell ⟨w3.heap.size, 5, none⟩ (.int .i64 h.at_)).cell? ⟨w3.heap.size, 5, none⟩ = some (.int .i64 h.at_) := World.cell?_setCell_same _ _ _ e5
  have m6 : (((w8.alloc (.cells #[.slice am3 h.ms.length cm3, .string h.b.vt, .int .i64 h.b.vs, .slice an3 h.b.ns.length cn3, .int .i64 h.at_, .string h.sound] 31)).alloc (.cells #[.int .i64 0, .int .i64 0] 34)).setCell ⟨w3.heap.size, 5, none⟩ (.int .i64 h.at_)).cell? ⟨w3.heap.size, 6, none⟩ = some (.string f.sound) := by rw [World.cell?_setCell_other _ _ _ _ (by simp)]; exact e6
  have x0 : (((w8.alloc (.cells #[.slice am3 h.ms.length cm3, .string h.b.vt, .int .i64 h.b.vs, .slice an3 h.b.ns.length cn3, .int .i64 h.at_, .string h.sound] 31)).alloc (.cells #[.int .i64 0, .int .i64 0] 34)).setCell ⟨w3.heap.size, 5, none⟩ (.int .i64 h.at_)).cell? ⟨w8.heap.size + 1, 0, none⟩ = some (.int .i64 0) := by rw [World.cell?_setCell_far _ _ _ _ (by simp; omega), ← World.size_alloc w8 (.cells #[.slice am3 h.ms.length cm3, .string h.b.vt, .int .i64 h.b.vs, .slice an3 h.b.ns.length cn3, .int .i64 h.at_, .string h.sound] 31)]; exact (Live.fresh _ _ _ 0 _ rfl).1
  have x1 : (((w8.alloc (.cells #[.slice am3 h.ms.length cm3, .string h.b.vt, .int .i64 h.b.vs, .slice an3 h.b.ns.length cn3, .int .i64 h.at_, .string h.sound] 31)).alloc (.cells #[.int .i64 0, .int .i64 0] 34)).setCell ⟨w3.heap.size, 5, none⟩ (.int .i64 h.at_)).cell? ⟨w8.heap.size + 1, 1, none⟩ = some (.int .i64 0) := by rw [World.cell?_setCell_far _ _ _ _ (by simp; omega), ← World.size_alloc w8 (.cells #[.slice am3 h.ms.length cm3, .string h.b.vt, .int .i64 h.b.vs, .slice an3 h.b.ns.length cn3, .int .i64 h.at_, .string h.sound] 31)]; exact (Live.fresh _ _ _ 1 _ rfl).1
  have y0 : (((w8.alloc (.cells #[.slice am3 h.ms.length cm3, .string h.b.vt, .int .i64 h.b.vs, .slice an3 h.b.ns.length cn3, .int .i64 h.at_, .string h.sound] 31)).alloc (.cells #[.int .i64 0, .int .i64 0] 34)).setCell ⟨w3.heap.size, 5, none⟩ (.int .i64 h.at_)).cell? ⟨w8.heap.size, 0, none⟩ = some (.slice am3 h.ms.length cm3) := by rw [World.cell?_setCell_far _ _ _ _ (by simp; omega)]; exact ((Live.fresh w8 _ _ 0 _ rfl).alloc _).1
  have y1 : (((w8.alloc (.cells #[.slice am3 h.ms.length cm3, .string h.b.vt, .int .i64 h.b.vs, .slice an3 h.b.ns.length cn3, .int .i64 h.at_, .string h.sound] 31)).alloc (.cells #[.int .i64 0, .int .i64 0] 34)).setCell ⟨w3.heap.size, 5, none⟩ (.int .i64 h.at_)).cell? ⟨w8.heap.size, 1, none⟩ = some (.string h.b.vt) := by rw [World.cell?_setCell_far _ _ _ _ (by simp; omega)]; exact ((Live.fresh w8 _ _ 1 _ rfl).alloc _).1
  have y2 : (((w8.alloc (.cells #[.slice am3 h.ms.length cm3, .string h.b.vt, .int .i64 h.b.vs, .slice an3 h.b.ns.length cn3, .int .i64 h.at_, .string h.sound] 31)).alloc (.cells #[.int .i64 0, .int .i64 0] 34)).setCell ⟨w3.heap.size, 5, none⟩ (.int .i64 h.at_)).cell? ⟨w8.heap.size, 2, none⟩ = some (.int .i64 h.b.vs) := by rw [World.cell?_setCell_far _ _ _ _ (by simp; omega)]; exact ((Live.fresh w8 _ _ 2 _ rfl).alloc _).1
  have y3 : (((w8.alloc (.cells #[.slice am3 h.ms.length cm3, .string h.b.vt, .int .i64 h.b.vs, .slice an3 h.b.ns.length cn3, .int .i64 h.at_, .string h.sound] 31)).alloc (.cells #[.int .i64 0, .int .i64 0] 34)).setCell ⟨w3.heap.size, 5, none⟩ (.int .i64 h.at_)).cell? ⟨w8.heap.size, 3, none⟩ = some (.slice an3 h.b.ns.length cn3) := by rw [World.cell?_setCell_far _ _ _ _ (by simp; omega)]; exact ((Live.fresh w8 _ _ 3 _ rfl).alloc _).1
  have y4 : (((w8.alloc (.cells #[.slice am3 h.ms.length cm3, .string h.b.vt, .int .i64 h.b.vs, .slice an3 h.b.ns.length cn3, .int .i64 h.at_, .string h.sound] 31)).alloc (.cells #[.int .i64 0, .int .i64 0] 34)).setCell ⟨w3.heap.size, 5, none⟩ (.int .i64 h.at_)).cell? ⟨w8.heap.size, 4, none⟩ = some (.int .i64 h.at_) := by rw [World.cell?_setCell_far _ _ _ _ (by simp; omega)]; exact ((Live.fresh w8 _ _ 4 _ rfl).alloc _).1
  have y5 : (((w8.alloc (.cells #[.slice am3 h.ms.length cm3, .string h.b.vt, .int .i64 h.b.vs, .slice an3 h.b.ns.length cn3, .int .i64 h.at_, .string h.sound] 31)).alloc (.cells #[.int .i64 0, .int .i64 0] 34)).setCell ⟨w3.heap.size, 5, none⟩ (.int .i64 h.at_)).cell? ⟨w8.heap.size, 5, none⟩ = some (.string h.sound) := by rw [World.cell?_setCell_far _ _ _ _ (by simp; omega)]; exact ((Live.fresh w8 _ _ 5 _ rfl).alloc _).1
  obtain ⟨W10, h10⟩ : ∃ W10, W10 = ((w8.alloc (.cells #[.slice am3 h.ms.length cm3, .string h.b.vt, .int .i64 h.b.vs, .slice an3 h.b.ns.length cn3, .int .i64 h.at_, .string h.sound] 31)).alloc (.cells #[.int .i64 0, .int .i64 0] 34)).setCell ⟨w3.heap.size, 5, none⟩ (.int .i64 h.at_) := ⟨_, rfl⟩
  rw [← h10] at hrg hm10 hb10 m0 m1 m2 m3 m4 m5 m6 x0 x1 y0 y1 y2 y3 y4 y5 ⊢
  clear h10
  have hrm10 := hrm3.keep4 hm10
  have hT10 := hT.bel hb10
  have ka : ∀ w', Below W10.heap.size W10 w' → Calls Tryz.prog 10 #[] w' fun e w'' => e = .returned (.bool true) ∧ Below W10.heap.size W10 w'' := fun w' hb => (KA.out w' (hT10.bel hb)).mono fun e w'' q => ⟨q.1, bt hb q.2⟩
  have kb : ∀ w', Below W10.heap.size W10 w' → Calls Tryz.prog 21 #[.agg #[.int .i64 0, .int .i64 0]] w' fun e w'' => e = .returned (.bool false) ∧ Below W10.heap.size W10 w'' := fun w' hb => (bad_any 0 0 w').mono fun e w'' q => ⟨q.1, bt hb q.2⟩
  have kpp : ∀ w', Below W10.heap.size W10 w' → Calls Tryz.prog 20 #[.agg #[.slice am2 f.ms.length cm2, .string ⟨#[]⟩, .string f.b.vt, .int .i64 f.b.vs, .slice an2 f.b.ns.length cn2, .int .i64 h.at_, .string f.sound]] w' fun e w'' => e = .returned (.string S) ∧ Below W10.heap.size W10 w'' := fun w' hb => (KRP.out w' _ _ _ (hrm10.keep4 hb)).mono fun e w'' q => ⟨q.1, bt hb q.2⟩
  have ko : ∀ w', Below W10.heap.size W10 w' → Calls Tryz.prog 15 #[.agg #[.slice am3 h.ms.length cm3, .string h.b.vt, .int .i64 h.b.vs, .slice an3 h.b.ns.length cn3, .int .i64 h.at_, .string h.sound]] w' fun e w'' => ∃ va na, e = .returned (.agg #[va, .string ⟨#[]⟩, .string h.b.vt, .int .i64 h.b.vs, na, .int .i64 h.at_, .string h.sound]) ∧ RfRow w'' va na h ∧ Below w'.heap.size w' w'' ∧ Below W10.heap.size W10 w'' := fun w' hb => (KOF2.out w' _ _ ⟨hrg.1.keep hb, hrg.2.keep hb⟩).mono fun e w'' ⟨va, na, q1, q2, q3⟩ => ⟨va, na, q1, q2, q3, bt hb q3⟩
  have ks : ∀ w' va na, RfRow w' va na h → Below W10.heap.size W10 w' → Calls Tryz.prog 14 #[.agg #[va, .string ⟨#[]⟩, .string h.b.vt, .int .i64 h.b.vs, na, .int .i64 h.at_, .string h.sound], .agg #[.slice am2 f.ms.length cm2, .string ⟨#[]⟩, .string f.b.vt, .int .i64 f.b.vs, .slice an2 f.b.ns.length cn2, .int .i64 h.at_, .string f.sound], .bool false] w' fun e w'' => e = .returned (.bool true) ∧ Below W10.heap.size W10 w'' := fun w' va na q1 hb => (KSE.out w' va na _ _ q1 (hrm10.keep4 hb)).mono fun e w'' q => ⟨q.1, bt hb q.2⟩
  have KSA : Hid (∀ wz, Below W10.heap.size W10 wz → wz.cell? ⟨w3.heap.size, 0, none⟩ = some (.slice am2 f.ms.length cm2) ∧ wz.cell? ⟨w3.heap.size, 1, none⟩ = some (.string ⟨#[]⟩) ∧ wz.cell? ⟨w3.heap.size, 2, none⟩ = some (.string f.b.vt) ∧ wz.cell? ⟨w3.heap.size, 3, none⟩ = some (.int .i64 f.b.vs) ∧ wz.cell? ⟨w3.heap.size, 4, none⟩ = some (.slice an2 f.b.ns.length cn2) ∧ wz.cell? ⟨w3.heap.size, 5, none⟩ = some (.int .i64 h.at_) ∧ wz.cell? ⟨w3.heap.size, 6, none⟩ = some (.string f.sound) ∧ wz.cell? ⟨w8.heap.size + 1, 0, none⟩ = some (.int .i64 0) ∧ wz.cell? ⟨w8.heap.size + 1, 1, none⟩ = some (.int .i64 0) ∧ wz.cell? ⟨w8.heap.size, 0, none⟩ = some (.slice am3 h.ms.length cm3) ∧ wz.cell? ⟨w8.heap.size, 1, none⟩ = some (.string h.b.vt) ∧ wz.cell? ⟨w8.heap.size, 2, none⟩ = some (.int .i64 h.b.vs) ∧ wz.cell? ⟨w8.heap.size, 3, none⟩ = some (.slice an3 h.b.ns.length cn3) ∧ wz.cell? ⟨w8.heap.size, 4, none⟩ = some (.int .i64 h.at_) ∧ wz.cell? ⟨w8.heap.size, 5, none⟩ = some (.string h.sound)) := Lib.hid fun wz hb => ⟨kc hb m0, kc hb m1, kc hb m2, kc hb m3, kc hb m4, kc hb m5, kc hb m6, kc hb x0, kc hb x1, kc hb y0, kc hb y1, kc hb y2, kc hb y3, kc hb y4, kc hb y5⟩
  have hbk := Below.refl W10.heap.size W10
  clear hrg hm10 u0 u1 o1 o2 hb8 hb9 hm6 hW6 hrm3 hlt6 h37 KA KP KRP KOF2 KSE f5 e0 e1 e2 e3 e4 e5 e6 c0 c1 c2 c3 c4 c5 hT6
  have KA2 := Lib.hid ka
  have KB := Lib.hid kb
  have KPP := Lib.hid kpp
  have KO := Lib.hid ko
  have KS := Lib.hid ks
  have HRM10 := Lib.hid hrm10
  have HT10 := Lib.hid hT10
  have HB10 := Lib.hid hb10
  clear ka kb kpp ko ks hrm10 hT10 hb10
  go_region_held3 (fun w' => w'.cell? ⟨w3.heap.size, 0, none⟩ = some (.slice am2 f.ms.length cm2) ∧ w'.cell? ⟨w3.heap.size, 1, none⟩ = some (.string ⟨#[]⟩) ∧ w'.cell? ⟨w3.heap.size, 2, none⟩ = some (.string f.b.vt) ∧ w'.cell? ⟨w3.heap.size, 3, none⟩ = some (.int .i64 f.b.vs) ∧ w'.cell? ⟨w3.heap.size, 4, none⟩ = some (.slice an2 f.b.ns.length cn2) ∧ w'.cell? ⟨w3.heap.size, 5, none⟩ = some (.int .i64 h.at_) ∧ w'.cell? ⟨w3.heap.size, 6, none⟩ = some (.string f.sound) ∧ w'.cell? ⟨w8.heap.size + 1, 0, none⟩ = some (.int .i64 0) ∧ w'.cell? ⟨w8.heap.size + 1, 1, none⟩ = some (.int .i64 0) ∧ w'.cell? ⟨w8.heap.size, 0, none⟩ = some (.slice am3 h.ms.length cm3) ∧ w'.cell? ⟨w8.heap.size, 1, none⟩ = some (.string h.b.vt) ∧ w'.cell? ⟨w8.heap.size, 2, none⟩ = some (.int .i64 h.b.vs) ∧ w'.cell? ⟨w8.heap.size, 3, none⟩ = some (.slice an3 h.b.ns.length cn3) ∧ w'.cell? ⟨w8.heap.size, 4, none⟩ = some (.int .i64 h.at_) ∧ w'.cell? ⟨w8.heap.size, 5, none⟩ = some (.string h.sound))
    (first | (with_reducible refine KSA.out _ ?_; exact hbk) | go_keep)
    (first
      | (go_at_call 10; go_loud (refine (KA2.out _ ?_).mono ?_); go_loud ((first | exact hbk | exact bdn hbk _ | exact hbk.drew)); go_loud (clear hbk); go_loud (rintro e w10 ⟨rfl, hbk⟩))
      | (go_at_call 21; go_loud (refine (KB.out _ ?_).mono ?_); go_loud ((first | exact hbk | exact bdn hbk _ | exact hbk.drew)); go_loud (clear hbk); go_loud (rintro e w11 ⟨rfl, hbk⟩))
      | (go_at_call 20; go_loud (refine (KPP.out _ ?_).mono ?_); go_loud ((first | exact hbk | exact bdn hbk _ | exact hbk.drew)); go_loud (clear hbk); go_loud (rintro e w13 ⟨rfl, hbk⟩))
      | (go_at_call 15; go_loud (refine (KO.out _ ?_).mono ?_); go_loud ((first | exact hbk | exact bdn hbk _ | exact hbk.drew)); go_loud (clear hbk); go_loud (rintro e w12 ⟨va, na, rfl, hva, hsa, hbk⟩))
      | (go_at_call 14; go_loud (refine (KS.out _ _ _ ?_ ?_).mono ?_); go_loud ((first | exact hva | exact hva.keep4 (Below.refl _ _).drew)); go_loud ((first | exact hbk | exact bdn hbk _ | exact hbk.drew)); go_loud (clear hbk); go_loud (rintro e w14 ⟨rfl, hbk⟩)))
  go_wp2_with fail
  go_ret
  exact ⟨rfl, bt HB10.out hbk⟩
theorem walk (vm vb : Value) (f : Fl) (fb : Int) (g : Bool) (w0 : okFl f) (w1 : (Lit.int .i64 fb).wf = true) (w : World) (R0 : FlRow w vm vb f) (hT : TW w) :
    Calls Tryz.prog 4 #[flV vm vb f, .int .i64 fb, .bool g] w fun e w' => e = .returned (.bool true) ∧ Below w.heap.size w w' := by
  cases hlt : flightM f with
  | false => exact walk_dark vm vb f fb g w0 w R0 hT hlt
  | true =>
    by_cases hc : (fcheckM f).1 = 0
    · exact walk_good vm vb f fb g w0 w R0 hT hlt hc
    · exact walk_bad vm vb f fb g w0 w R0 hT hlt hc
set_option maxRecDepth 100000 in
theorem lifted (os : Os) (started : os.Started) (H : Type) (enc : TypeId × Value → H) :
    ReturnsInHanded {} Tryz.checked os 4 .any (fun w args => (Rows.flacPrintsSpec.pre enc Tryz.prog Tryz.f4 Rows.flacPrintsRow.domain false w args ∧ laidMetH Tryz.prog laid3 w) ∧ sizedMet enc Tryz.prog Tryz.f4 (OpenSpec.ofChange Rows.flacPrintsSpec) false w args) (Rows.flacPrintsSpec.post enc Tryz.prog Tryz.f4 false true false false) := by
  refine handed_laid_shaped (C := Tryz.checked) (X := fun w => laidMetH Tryz.prog laid3 w) (fun _ _ hh h => h.of_heap hh) own started (by kernel_rfl) Tryz.func4
    (ChangeSpec.witness_shaped (enc := enc) (C := Tryz.checked) (os := os) (X := fun w _ => laidMetH Tryz.prog laid3 w) false (World.laidAll Tryz.prog os laid3) #[.agg #[.slice none 0 0, .string ByteArray.empty, .int .i64 0, .slice none 0 0, .int .i64 0, .string ByteArray.empty], .int .i64 0, .bool false] 8 (World.laidAll_os _ _ _) (laid_shaped os _) (by kernel_rfl) (by kernel_rfl) (by kernel_rfl) (laid_met os _)) ?_
  intro W base args ds gs before hval0 hW hL hsh
  have hT := tw_of_laid hL hsh
  have hval : ∀ (j : Nat) t v, Tryz.f4.params[j]? = some t → args[j]? = some v → Value.okWide Tryz.prog W .any base t v := hval0
  have hW' := hW
  obtain ⟨p, q, hA0, hV, rfl, hfz, hnd⟩ := hW
  have hA : DataW.TrodAll enc Tryz.prog W 0 (fun _ => true) true Tryz.f4.params.toList args.toList ds p := hA0
  rw [Tryz.params4] at hA hval
  obtain ⟨v0, vs0, d0, ds0, p0, q0, hargs, rfl, rfl, h0, r0⟩ := trodAll_cons hA
  obtain ⟨v1, vs1, d1, ds1, p1, q1, rfl, rfl, rfl, h1, r1⟩ := trodAll_cons r0
  obtain ⟨v2, vs2, d2, ds2, p2, q2, rfl, rfl, rfl, h2, r2⟩ := trodAll_cons r1
  obtain ⟨rfl, rfl, rfl⟩ := trodAll_nil r2
  obtain rfl : args = #[v0, v1, v2] := by cases args; simp_all
  obtain ⟨rfl, rfl⟩ := trodVars_none hV
  have h0k := h0
  obtain ⟨a0, m0, b0, rfl, R0, w0⟩ := open_file (hval 0 31 v0 rfl rfl) h0
  obtain ⟨a1, rfl, rfl, rfl, w1⟩ := open_int Tryz.underlying3 (hval 1 3 v1 rfl rfl) h1
  obtain ⟨a2, rfl, rfl, rfl⟩ := open_bool Tryz.underlying4 (hval 2 4 v2 rfl rfl) h2
  clear hA0 hval0
  simp only [List.append_nil] at hW'
  refine (walk m0 b0 a0 a1 a2 w0 w1 W R0 hT).mono fun e W' ⟨he, hg⟩ => ?_
  subst he
  have T0 := Below.trod (W' := W') (by kernel_rfl) (by kernel_rfl) (of_decide_eq_true (by kernel_rfl)) h0k hg (fun x hx => by simpa using hW'.lt x (by simp [hx]))
  exact ⟨_, rfl, post_below (pa := _) (pv := []) hW' (trodAll_cons_mk (shut_bool Tryz.underlying4 _) trodAll_mk0) (trodAll_cons_mk T0 (trodAll_cons_mk (shut_int Tryz.underlying3 w1) (trodAll_cons_mk (shut_bool Tryz.underlying4 a2) trodAll_mk0))) rfl hg⟩

theorem over : Rows.flacPrintsRow.holds Tryz.pinned (OpenSpec.ofChange Rows.flacPrintsSpec) :=
  OpenClaim.holds_of_wide 4 Tryz.f4 rfl rfl rfl rfl rfl rfl rfl ⟨rfl, rfl, rfl, rfl, rfl⟩ rfl rfl rfl rfl rfl k_named Tryz.func4 k_joined (of_decide_eq_true (by kernel_rfl)) k_wrap
    (fun os started H enc _ => lifted os started H enc)

/-- THE STATEMENT: the tied card -/
theorem proved : Rows.FlacPrintsCardSaid :=
  Claim7.holds_tied_plain_at .later [] [.data, .data, .pinned] true Rows.flacPrintsCard.stood.harness Rows.flacPrintsCard.stood.looks over (fun _ h => by cases h) k_wf (fun _ h => by cases h) flacPrints_row_tie rfl ⟨rfl, rfl⟩ k_main rfl
    (fun f fn hf hfn => by
      obtain rfl : f = 4 := Option.some.inj (k_named.symm.trans hf) |>.symm
      obtain rfl : fn = Tryz.f4 := (Option.some.inj (Tryz.func4.symm.trans hfn)).symm
      exact ⟨k_looks, fun j t ht => by
        rw [Tryz.params4] at ht
        have hm : t ∈ [31, 3, 4] := by simpa using Array.mem_of_getElem? ht
        exact (show Tryz.prog.wantsStandIn t = false by simpa using List.all_eq_true.1 k_stand t hm)⟩)
    k_goes
#print axioms proved
end Go.Proofs.YtgidlcdgpiapkaaGreatDoor.flacPrints
