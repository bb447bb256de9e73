/- FlacTwice holds: what is read and printed is read as it was, its sound too, and printed as it was. No condition. -/
import Derived.Test.YtgidlcdgpiapkaaGreatDoorFr
import Derived.Test.YtgidlcdgpiapkaaGreatDoorTie
import Derived.Test.YtgidlcdgpiapkaaGreatDoorCards
import Derived.Test.YtgidlcdgpiapkaaGreatDoorKz
import Derived.Test.YtgidlcdgpiapkaaGreatDoorKFlacTwice
import Derived.Test.YtgidlcdgpiapkaaGreatDoorFe
namespace Go.Proofs.YtgidlcdgpiapkaaGreatDoor.flacTwice
open Go.ChangeShapes Go.WideShapes Go.ChangeAt Go.RowKit Go.ChangeMaps
set_option linter.unusedVariables false
set_option linter.unusedSimpArgs false

theorem add_bad {R : List UInt8 → Int} {f : Fl} {x y : RS} {h : Nat} {t : ByteArray} (hb : (addF R f x y h t).2.1 ≠ 0) : (addF R f x y h t).1 = noFl := by
  unfold addF at hb ⊢
  split
  · rfl
  · rename_i h1
    rw [if_neg h1] at hb
    split
    · rfl
    · rename_i h2
      rw [if_neg h2] at hb
      split
      · rfl
      · rename_i h3
        rw [if_neg h3] at hb
        split
        · rename_i h4
          rw [if_pos h4] at hb
          split
          · rfl
          · rename_i b hb2
            rw [hb2] at hb
            exact absurd rfl hb
        · rename_i h4
          rw [if_neg h4] at hb
          exact absurd rfl hb
theorem fpar_bad {R : List UInt8 → Int} : ∀ (k : Nat) (x : RS) (f : Fl), (fparL R k x f).2.1 ≠ 0 → (fparL R k x f).1 = noFl := by
  intro k
  induction k with
  | zero => intro x f _; rfl
  | succ k ih =>
    intro x f h
    unfold fparL at h ⊢
    by_cases h1 : (addF R f x (headR x).1 (headR x).2.1 (headR x).2.2).2.1 ≠ 0
    · rw [if_pos h1]
      exact add_bad h1
    · rw [if_neg h1] at h ⊢
      by_cases h2 : 128 ≤ (headR x).2.1
      · rw [if_pos h2] at h
        exact absurd rfl h
      · rw [if_neg h2] at h ⊢
        exact ih _ _ h
theorem rawN_mem {l : List Mt} {m : Mt} (h : m ∈ l) : m.body.size ≤ rawN l := by
  induction l with
  | nil => cases h
  | cons a l ih =>
    rw [rawN_cons]
    rcases List.mem_cons.1 h with rfl | h
    · omega
    · have := ih h; omega
theorem rawN_len (l : List Mt) : l.length ≤ rawN l := by
  induction l with
  | nil => exact Nat.zero_le _
  | cons a l ih => rw [rawN_cons, List.length_cons]; omega
theorem GF_sm {s : ByteArray} {f : Fl} (G : GF s f) (hs : s.size ≤ 2000) : smFl f ∧ (printL false f.b).length < 16777216 ∧ (∀ m ∈ f.ms, m.body.size < 16777216) ∧ (fprintL f).length ≤ 1048576 ∧ (∀ m ∈ f.ms, m.kind < 256) ∧ f.ms.length ≤ 2000 := by
  have h1 := G.rn
  have h2 := rawN_len f.ms
  have h3 : ∀ m ∈ f.ms, m.body.size ≤ 2000 := fun m hm => by have := rawN_mem hm; omega
  obtain ⟨b1, b2, b3⟩ := G.bd
  have h4 := G.pl
  obtain ⟨_, g2, _⟩ := (fcheck_iff f).1 G.ck
  have h5 := metasL_len f f.ms 0 false g2
  have h6 := preOK_kind f f.ms 0 false g2
  refine ⟨⟨⟨by omega, by omega, fun n hn => by have := b3 n hn; omega⟩, by omega, fun m hm => by have := h3 m hm; omega, by omega, by omega⟩, by omega, fun m hm => by have := h3 m hm; omega, ?_, fun m hm => by have := h6 m hm; omega, by omega⟩
  unfold fprintL
  simp only [List.length_append, bl_length]
  have h7 : letters.size = 4 := rfl
  rw [if_neg (by decide)] at h5
  rw [h7]
  omega
theorem like_utf' (b : Bk) : likeBk b (utfBk b) := by
  refine ⟨rfl, by simp [utfBk], fun k x y hx hy => ?_⟩
  simp only [utfBk, List.getElem?_map, hx, Option.map_some, Option.some.injEq] at hy
  subst hy
  exact ⟨rfl, rfl⟩
theorem like_read {f : Fl} (hc : fcheckM f = (0, 0)) : likeBk f.b (readF f).b := by
  obtain ⟨_, _, h3⟩ := (fcheck_iff f).1 hc
  unfold readF
  simp only
  cases h4 : has4 f.ms with
  | true => rw [if_pos rfl]; exact like_utf' _
  | false =>
    obtain ⟨_, h5, h6⟩ := h3 h4
    rw [if_neg (by decide)]
    refine ⟨empty_of h6, by rw [h5]; rfl, fun k x y hx hy => by rw [h5] at hx; simp at hx⟩
theorem sm_read {f : Fl} (h : smFl f) : smFl (readF f) := by
  obtain ⟨⟨a1, a2, a3⟩, b, c, d, e⟩ := h
  unfold readF
  refine ⟨?_, b, c, ?_, e⟩
  · simp only
    split
    · refine ⟨a1, by simpa [utfBk] using a2, fun n hn => ?_⟩
      simp only [utfBk, List.mem_map] at hn
      obtain ⟨m, hm, rfl⟩ := hn
      exact a3 m hm
    · exact ⟨Nat.zero_le _, Nat.zero_le _, fun n hn => by cases hn⟩
  · simp only
    split
    · simpa [utfBk] using d
    · exact Nat.zero_le _
theorem pl_read {f : Fl} (h : (printL false f.b).length < 16777216) : (printL false (readF f).b).length < 16777216 := by
  unfold readF
  simp only
  split
  · rw [print_utf]; exact h
  · have : (printL false noBk).length = 8 := by decide
    omega
theorem _root_.Go.Proofs.YtgidlcdgpiapkaaGreatDoor.FlRow.keep' {w w' : World} {vm vb : Value} {f : Fl} (h : FlRow w vm vb f) (hb : Below w.heap.size w w') : FlRow w' vm vb f := ⟨h.1.keep hb, h.2.keep hb⟩
theorem _root_.Go.Proofs.YtgidlcdgpiapkaaGreatDoor.RfRow.keep' {w w' : World} {vm vb : Value} {f : Fl} (h : RfRow w vm vb f) (hb : Below w.heap.size w w') : RfRow w' vm vb f := ⟨h.1.keep hb, h.2.keep hb⟩
set_option maxRecDepth 100000 in
set_option maxHeartbeats 8000000 in
theorem walk_long (s : ByteArray) (fb : Int) (g : Bool) (hs : 2000 < s.size) (w : World) (hT : TW w) :
    Calls Tryz.prog 5 #[.string s, .int .i64 fb, .bool g] w fun e w' => e = .returned (.bool true) ∧ Below w.heap.size w w' := by
  have KA := Lib.hid awake21in_any
  have hgt : (s.size : Int) > 2000 := by omega
  clear hs
  go_enter Tryz.func5, Tryz.ntmps5
  go_wp2_with (go_at_call 10; refine (KA.out _ hT).mono ?_; rintro e w1 ⟨rfl, hb1⟩)
  go_ret
  exact ⟨rfl, hb1⟩
set_option maxRecDepth 100000 in
set_option maxHeartbeats 8000000 in
theorem walk_bad (s : ByteArray) (fb : Int) (g : Bool) (hs : s.size ≤ 2000) (w : World) (hT : TW w) (hb : (fparM (RM fb g) s).2.1 ≠ 0) :
    Calls Tryz.prog 5 #[.string s, .int .i64 fb, .bool g] w fun e w' => e = .returned (.bool true) ∧ Below w.heap.size w w' := by
  have KA := Lib.hid awake21in_any
  have hgt : ¬ (s.size : Int) > 2000 := by omega
  have hno : (fparM (RM fb g) s).1 = noFl := fpar_bad _ _ _ hb
  have kp : ∀ w', TW w' → Calls Tryz.prog 11 #[.string s, .agg #[.int .i64 0, .int .i64 fb, .bool g, .int .i64 0]] w' fun e w'' => Below w'.heap.size w' w'' ∧ ∃ (am : Option Addr) (cm : Nat) (an : Option Addr) (cn : Nat), e = .returned (.tuple #[.agg #[.slice am 0 cm, .string ⟨#[]⟩, .int .i64 0, .slice an 0 cn, .int .i64 0, .string ⟨#[]⟩], .agg #[.int .i64 (fparM (RM fb g) s).2.1, .int .i64 (fparM (RM fb g) s).2.2]]) := by
    intro w' hT'
    refine (fparse_any s 0 fb 0 g w' hT' (by omega)).mono ?_
    rintro e w'' ⟨h1, vm, vb, h2, h3, h4⟩
    rw [hno] at h2 h3 h4
    obtain ⟨am, cm, rfl⟩ := orow_form h3
    obtain ⟨an, cn, rfl⟩ := orow_form h4
    exact ⟨h1, am, cm, an, cn, h2⟩
  have k2 := fun w => bad_any (fparM (RM fb g) s).2.1 (fparM (RM fb g) s).2.2 w
  have hd : (!decide ((fparM (RM fb g) s).2.1 = 0)) = true := by simpa using hb
  rw [hd] at k2
  generalize (fparM (RM fb g) s).2 = C at *
  obtain ⟨ce, ca⟩ := C
  simp only at kp k2
  clear hno hb hd hs
  obtain ⟨WO, hWO⟩ : ∃ WO, WO = w.alloc (.cells #[.int .i64 0, .int .i64 fb, .bool g, .int .i64 0] 39) := ⟨_, rfl⟩
  have hbo : Below w.heap.size w WO := by rw [hWO]; exact bal (Below.refl _ _) _
  have lo : ∀ (i : Nat) (u : Value), (#[.int .i64 0, .int .i64 fb, .bool g, .int .i64 0] : Array Value)[i]? = some u → WO.cell? ⟨w.heap.size, i, none⟩ = some u := by
    intro i u hu; rw [hWO]; exact (Live.fresh w _ 39 i u hu).1
  have o0 := lo 0 _ rfl
  have o1 := lo 1 _ rfl
  have o2 := lo 2 _ rfl
  have o3 := lo 3 _ rfl
  have hTO := hT.bel hbo
  clear lo
  have KP := Lib.hid kp
  have K2 := Lib.hid k2
  have HBO := Lib.hid hbo
  have HTO := Lib.hid hTO
  clear kp k2 hbo hTO
  go_enter Tryz.func5, Tryz.ntmps5
  go_wp2_with fail
  rw [← hWO]
  clear hWO
  go_wp2_with (first
    | (go_at_call 11; go_loud (with_reducible refine (KP.out _ HTO.out).mono ?_); go_loud (rintro e w1 ⟨hb1, am, cm, an, cn, rfl⟩); go_loud (have hba := bal (bal hb1 (.cells #[.slice am 0 cm, .string ⟨#[]⟩, .int .i64 0, .slice an 0 cn, .int .i64 0, .string ⟨#[]⟩] 31)) (.cells #[.int .i64 ce, .int .i64 ca] 34)))
    | (go_at_call 21; go_loud (with_reducible refine (K2.out _).mono ?_); go_loud (rintro e w2 ⟨rfl, hb2⟩); go_loud (have hbb := bt hba hb2))
    | (go_at_call 10; go_loud (with_reducible refine (KA.out _ (HTO.out.bel hbb)).mono ?_); go_loud (rintro e w3 ⟨rfl, hb3⟩); go_loud (have hbc := bt hbb hb3); go_loud (have hbx := bt hb2 hb3); go_loud (obtain ⟨l0, _⟩ := ((Live.fresh w1 #[.slice am 0 cm, .string ⟨#[]⟩, .int .i64 0, .slice an 0 cn, .int .i64 0, .string ⟨#[]⟩] 31 0 _ rfl).alloc (.cells #[.int .i64 ce, .int .i64 ca] 34)).keep hbx); go_loud (obtain ⟨l4, _⟩ := ((Live.fresh w1 #[.slice am 0 cm, .string ⟨#[]⟩, .int .i64 0, .slice an 0 cn, .int .i64 0, .string ⟨#[]⟩] 31 4 _ rfl).alloc (.cells #[.int .i64 ce, .int .i64 ca] 34)).keep hbx); go_loud (obtain ⟨l5, _⟩ := ((Live.fresh w1 #[.slice am 0 cm, .string ⟨#[]⟩, .int .i64 0, .slice an 0 cn, .int .i64 0, .string ⟨#[]⟩] 31 5 _ rfl).alloc (.cells #[.int .i64 ce, .int .i64 ca] 34)).keep hbx)))
  go_ret
  exact ⟨ret_b (by simp), bt HBO.out hbc⟩
set_option maxRecDepth 100000 in
set_option maxHeartbeats 16000000 in
theorem walk_good (s : ByteArray) (fb : Int) (g : Bool) (hs : s.size ≤ 2000) (w : World) (hT : TW w) (hb : (fparM (RM fb g) s).2.1 = 0) :
    Calls Tryz.prog 5 #[.string s, .int .i64 fb, .bool g] w fun e w' => e = .returned (.bool true) ∧ Below w.heap.size w w' := by
  have KA := Lib.hid awake21in_any
  have hgt : ¬ (s.size : Int) > 2000 := by omega
  have G := fparse_good s hb
  obtain ⟨m1, m2, m3, m4, m5, m6⟩ := GF_sm G hs
  have kp : ∀ w', TW w' → Calls Tryz.prog 11 #[.string s, .agg #[.int .i64 0, .int .i64 fb, .bool g, .int .i64 0]] w' (FParsePost (fparM (RM fb g) s) w') := fun w' hT' => fparse_any s 0 fb 0 g w' hT' (by omega)
  obtain ⟨ca, hca⟩ : ∃ ca, ca = (fparM (RM fb g) s).2.2 := ⟨_, rfl⟩
  unfold FParsePost at kp
  rw [hb, ← hca] at kp
  generalize (fparM (RM fb g) s).1 = f at *
  clear hb hca
  obtain ⟨S, hS⟩ : ∃ S : ByteArray, S = ⟨(fprintL f).toArray⟩ := ⟨_, rfl⟩
  have hSz : S.size ≤ 1048576 := by rw [hS]; exact m4
  have hck := G.ck
  have kp2 : ∀ w', TW w' → Calls Tryz.prog 11 #[.string S, .agg #[.int .i64 0, .int .i64 fb, .bool g, .int .i64 0]] w' (FParsePost (readF f, 0, 0) w') := fun w' hT' => by
    have := fparse_any S 0 fb 0 g w' hT' hSz
    rw [hS, fparse_back (RM_utf fb g) f hck m2 m3, ← hS] at this
    exact this
  unfold FParsePost at kp2
  have kpr : ∀ w' vm vb, TW w' → FlRow w' vm vb f → Calls Tryz.prog 17 #[flV vm vb f] w' fun e w'' => e = .returned (.tuple #[.string S, .agg #[.int .i64 0, .int .i64 0]]) ∧ Below w'.heap.size w' w'' := fun w' vm vb hT' hr => by
    have := fprint_any vm vb f w' hT' hr m1 m2 m3 (by omega)
    unfold FPrintPost at this
    rw [hck, if_pos rfl, ← hS] at this
    exact this
  have kof : ∀ w' vm vb, FlRow w' vm vb f → Calls Tryz.prog 15 #[flV vm vb f] w' fun e w'' => ∃ vm' vb', e = .returned (rfV vm' vb' f) ∧ RfRow w'' vm' vb' f ∧ Below w'.heap.size w' w'' := fun w' vm vb hr =>
    (fof_any vm vb f w' hr m1 m5).mono fun e w'' ⟨a, b, h1, h2, h3, h4⟩ => ⟨a, b, h1, ⟨row_owns h2, row_owns h3⟩, h4⟩
  obtain ⟨h, hh⟩ : ∃ h, h = readF f := ⟨_, rfl⟩
  have hm1 : smFl h := by rw [hh]; exact sm_read m1
  have hm2 : (printL false h.b).length < 16777216 := by rw [hh]; exact pl_read m2
  have hhm : h.ms = f.ms := by rw [hh]; rfl
  have hhs : h.sound = f.sound := by rw [hh]; rfl
  have hha : f.at_ = h.at_ := by rw [hh, read_max f hck]; have := G.mn; omega
  have hhl : likeBk f.b h.b := by rw [hh]; exact like_read hck
  have hhp : fprintL h = fprintL f := by rw [hh]; exact fprint_read f
  have hhc : fcheckM h = (0, 0) := by rw [hh]; exact fcheck_read f hck
  rw [← hh] at kp2
  simp only at kp2
  have kpr2 : ∀ w' vm vb, TW w' → FlRow w' vm vb h → Calls Tryz.prog 17 #[flV vm vb h] w' fun e w'' => e = .returned (.tuple #[.string S, .agg #[.int .i64 0, .int .i64 0]]) ∧ Below w'.heap.size w' w'' := fun w' vm vb hT' hr => by
    have := fprint_any vm vb h w' hT' hr hm1 hm2 (by rw [hhm]; exact m3) (by rw [hhp]; omega)
    unfold FPrintPost at this
    rw [hhc, if_pos rfl, hhp, ← hS] at this
    exact this
  have kof2 : ∀ w' vm vb, FlRow w' vm vb h → Calls Tryz.prog 15 #[flV vm vb h] w' fun e w'' => ∃ vm' vb', e = .returned (rfV vm' vb' h) ∧ RfRow w'' vm' vb' h ∧ Below w'.heap.size w' w'' := fun w' vm vb hr =>
    (fof_any vm vb h w' hr hm1 (by rw [hhm]; exact m5)).mono fun e w'' ⟨a, b, h1, h2, h3, h4⟩ => ⟨a, b, h1, ⟨row_owns h2, row_owns h3⟩, h4⟩
  have kse : ∀ w' va na vb nb, RfRow w' va na f → RfRow w' vb nb h → Calls Tryz.prog 14 #[rfV va na f, rfV vb nb h, .bool false] w' fun e w'' => e = .returned (.bool true) ∧ Below w'.heap.size w' w'' := fun w' va na vb nb h1 h2 =>
    fsame_any va na vb nb f h w' h1 h2 hhm.symm hha hhs.symm hhl m1.2.2.2.1 m1.2.1
  have hend : (decide (f.at_ ≥ 0) || (S.toList == s.toList)) = true := by
    by_cases hat : f.at_ ≥ 0
    · simp [hat]
    · have hp := G.same (by omega)
      have hSs : S = s := by rw [hS, hp]
      rw [hSs]; simp
  have HSS : (S.toList == S.toList) = true := by simp
  unfold flV at kp kp2 kpr kof kpr2 kof2
  unfold rfV at kof kof2 kse
  clear G m1 m2 m3 m4 m5 m6 hS hSz hck hm1 hm2 hhm hhs hha hhl hhp hhc hh hs
  obtain ⟨WO, hWO⟩ : ∃ WO, WO = w.alloc (.cells #[.int .i64 0, .int .i64 fb, .bool g, .int .i64 0] 39) := ⟨_, rfl⟩
  have hbo : Below w.heap.size w WO := by rw [hWO]; exact bal (Below.refl _ _) _
  have lo : ∀ (i : Nat) (u : Value), (#[.int .i64 0, .int .i64 fb, .bool g, .int .i64 0] : Array Value)[i]? = some u → WO.cell? ⟨w.heap.size, i, none⟩ = some u := by
    intro i u hu; rw [hWO]; exact (Live.fresh w _ 39 i u hu).1
  have o0 := lo 0 _ rfl
  have o1 := lo 1 _ rfl
  have o2 := lo 2 _ rfl
  have o3 := lo 3 _ rfl
  have hTO := hT.bel hbo
  have k2 : ∀ w, Calls Tryz.prog 21 #[.agg #[.int .i64 0, .int .i64 ca]] w fun e w' => e = .returned (.bool false) ∧ Below w.heap.size w w' := fun w => bad_any 0 ca w
  clear lo
  have KP := Lib.hid kp
  have KP2 := Lib.hid kp2
  have KPR := Lib.hid kpr
  have KOF := Lib.hid kof
  have KPR2 := Lib.hid kpr2
  have KOF2 := Lib.hid kof2
  have KSE := Lib.hid kse
  have K2 := Lib.hid k2
  have HBO := Lib.hid hbo
  have HTO := Lib.hid hTO
  have HEND := Lib.hid hend
  clear kp kp2 kpr kof kpr2 kof2 kse k2 hbo hTO hend
  have O0 := Lib.hid o0
  have O1 := Lib.hid o1
  have O2 := Lib.hid o2
  have O3 := Lib.hid o3
  go_enter Tryz.func5, Tryz.ntmps5
  go_wp2_with fail
  rw [← hWO]
  clear hWO
  go_wp2_with (first
    | (go_at_call 11; go_loud (with_reducible refine (KP.out _ HTO.out).mono ?_); go_loud (rintro e w1 ⟨hb1, vm, vb, rfl, q1, q2⟩); go_loud (obtain ⟨am, cm, rfl⟩ := orow_form q1); go_loud (obtain ⟨an, cn, rfl⟩ := orow_form q2); go_loud (have hba := bal (bal hb1 (.cells #[.slice am f.ms.length cm, .string f.b.vt, .int .i64 f.b.vs, .slice an f.b.ns.length cn, .int .i64 f.at_, .string f.sound] 31)) (.cells #[.int .i64 0, .int .i64 ca] 34)); go_loud (have hr1 : FlRow w1 (.slice am f.ms.length cm) (.slice an f.b.ns.length cn) f := ⟨row_owns q1, row_owns q2⟩); go_loud (have hbl := bal (bal (Below.refl w1.heap.size w1) (.cells #[.slice am f.ms.length cm, .string f.b.vt, .int .i64 f.b.vs, .slice an f.b.ns.length cn, .int .i64 f.at_, .string f.sound] 31)) (.cells #[.int .i64 0, .int .i64 ca] 34)))
    | (go_at_call 21; go_loud (with_reducible refine (K2.out _).mono ?_); go_loud (rintro e w2 ⟨rfl, hb2⟩); go_loud (have hbb := bt hba hb2); go_loud (have hbm := bt hbl hb2); go_loud (have z0 := ((Live.fresh w1 #[.slice am f.ms.length cm, .string f.b.vt, .int .i64 f.b.vs, .slice an f.b.ns.length cn, .int .i64 f.at_, .string f.sound] 31 0 _ rfl).alloc (.cells #[.int .i64 0, .int .i64 ca] 34)).keep hb2); go_loud (obtain ⟨c0, _⟩ := z0); go_loud (have z1 := ((Live.fresh w1 #[.slice am f.ms.length cm, .string f.b.vt, .int .i64 f.b.vs, .slice an f.b.ns.length cn, .int .i64 f.at_, .string f.sound] 31 1 _ rfl).alloc (.cells #[.int .i64 0, .int .i64 ca] 34)).keep hb2); go_loud (obtain ⟨c1, _⟩ := z1); go_loud (have z2 := ((Live.fresh w1 #[.slice am f.ms.length cm, .string f.b.vt, .int .i64 f.b.vs, .slice an f.b.ns.length cn, .int .i64 f.at_, .string f.sound] 31 2 _ rfl).alloc (.cells #[.int .i64 0, .int .i64 ca] 34)).keep hb2); go_loud (obtain ⟨c2, _⟩ := z2); go_loud (have z3 := ((Live.fresh w1 #[.slice am f.ms.length cm, .string f.b.vt, .int .i64 f.b.vs, .slice an f.b.ns.length cn, .int .i64 f.at_, .string f.sound] 31 3 _ rfl).alloc (.cells #[.int .i64 0, .int .i64 ca] 34)).keep hb2); go_loud (obtain ⟨c3, _⟩ := z3); go_loud (have z4 := ((Live.fresh w1 #[.slice am f.ms.length cm, .string f.b.vt, .int .i64 f.b.vs, .slice an f.b.ns.length cn, .int .i64 f.at_, .string f.sound] 31 4 _ rfl).alloc (.cells #[.int .i64 0, .int .i64 ca] 34)).keep hb2); go_loud (obtain ⟨c4, _⟩ := z4); go_loud (have z5 := ((Live.fresh w1 #[.slice am f.ms.length cm, .string f.b.vt, .int .i64 f.b.vs, .slice an f.b.ns.length cn, .int .i64 f.at_, .string f.sound] 31 5 _ rfl).alloc (.cells #[.int .i64 0, .int .i64 ca] 34)).keep hb2); go_loud (obtain ⟨c5, _⟩ := z5))
    | (go_at_call 17; go_loud (with_reducible refine (KPR.out _ _ _ (HTO.out.bel hbb) (hr1.keep' hbm)).mono ?_); go_loud (rintro e w3 ⟨rfl, hb3⟩); go_loud (have hbc := bal (bt hbb hb3) (.cells #[.int .i64 0, .int .i64 0] 34)); go_loud (have o0 := kc hbc O0.out); go_loud (have o1 := kc hbc O1.out); go_loud (have o2 := kc hbc O2.out); go_loud (have o3 := kc hbc O3.out))
    | (go_at_call 11; go_loud (with_reducible refine (KP2.out _ (HTO.out.bel hbc)).mono ?_); go_loud (rintro e w4 ⟨hb4, vm2, vb2, rfl, q3, q4⟩); go_loud (obtain ⟨am2, cm2, rfl⟩ := orow_form q3); go_loud (obtain ⟨an2, cn2, rfl⟩ := orow_form q4); go_loud (have hbd := bal (bal (bt hbc hb4) (.cells #[.slice am2 h.ms.length cm2, .string h.b.vt, .int .i64 h.b.vs, .slice an2 h.b.ns.length cn2, .int .i64 h.at_, .string h.sound] 31)) (.cells #[.int .i64 0, .int .i64 0] 34)); go_loud (have hr2 : FlRow w4 (.slice am2 h.ms.length cm2) (.slice an2 h.b.ns.length cn2) h := ⟨row_owns q3, row_owns q4⟩); go_loud (have hbn := bal (bal (Below.refl w4.heap.size w4) (.cells #[.slice am2 h.ms.length cm2, .string h.b.vt, .int .i64 h.b.vs, .slice an2 h.b.ns.length cn2, .int .i64 h.at_, .string h.sound] 31)) (.cells #[.int .i64 0, .int .i64 0] 34)))
    | (go_at_call 17; go_loud (with_reducible refine (KPR2.out _ _ _ (HTO.out.bel hbd) (hr2.keep' hbn)).mono ?_); go_loud (rintro e w5 ⟨rfl, hb5⟩)))
  obtain ⟨W4, hW4⟩ : ∃ W4, W4 = w5.alloc (.cells #[.int .i64 0, .int .i64 0] 34) := ⟨_, rfl⟩
  have hW : Below w5.heap.size w5 W4 := by rw [hW4]; exact bal (Below.refl _ _) _
  have h5W := bt hb5 hW
  have h4W := bt hbn h5W
  have h3W := bt hb4 h4W
  have h2W := bt (bal hb3 (.cells #[.int .i64 0, .int .i64 0] 34)) h3W
  have f0 := (Live.fresh w3 #[.int .i64 0, .int .i64 0] 34 0 _ rfl).keep h3W
  have f1 := (Live.fresh w3 #[.int .i64 0, .int .i64 0] 34 1 _ rfl).keep h3W
  have g0 := (Live.fresh (w4.alloc (.cells #[.slice am2 h.ms.length cm2, .string h.b.vt, .int .i64 h.b.vs, .slice an2 h.b.ns.length cn2, .int .i64 h.at_, .string h.sound] 31)) #[.int .i64 0, .int .i64 0] 34 0 _ rfl).keep h5W
  have g1 := (Live.fresh (w4.alloc (.cells #[.slice am2 h.ms.length cm2, .string h.b.vt, .int .i64 h.b.vs, .slice an2 h.b.ns.length cn2, .int .i64 h.at_, .string h.sound] 31)) #[.int .i64 0, .int .i64 0] 34 1 _ rfl).keep h5W
  rw [World.size_alloc] at g0 g1
  have k0 : Live W4 w5.heap.size 0 (.int .i64 0) := by rw [hW4]; exact Live.fresh w5 _ _ 0 _ rfl
  have k1 : Live W4 w5.heap.size 1 (.int .i64 0) := by rw [hW4]; exact Live.fresh w5 _ _ 1 _ rfl
  replace f0 := f0.1
  replace f1 := f1.1
  replace g0 := g0.1
  replace g1 := g1.1
  replace k0 := k0.1
  replace k1 := k1.1
  replace c0 := kc h2W c0
  replace c1 := kc h2W c1
  replace c2 := kc h2W c2
  replace c3 := kc h2W c3
  replace c4 := kc h2W c4
  replace c5 := kc h2W c5
  have d0 := (((Live.fresh w4 #[.slice am2 h.ms.length cm2, .string h.b.vt, .int .i64 h.b.vs, .slice an2 h.b.ns.length cn2, .int .i64 h.at_, .string h.sound] 31 0 _ rfl).alloc (.cells #[.int .i64 0, .int .i64 0] 34)).keep h5W).1
  have d1 := (((Live.fresh w4 #[.slice am2 h.ms.length cm2, .string h.b.vt, .int .i64 h.b.vs, .slice an2 h.b.ns.length cn2, .int .i64 h.at_, .string h.sound] 31 1 _ rfl).alloc (.cells #[.int .i64 0, .int .i64 0] 34)).keep h5W).1
  have d2 := (((Live.fresh w4 #[.slice am2 h.ms.length cm2, .string h.b.vt, .int .i64 h.b.vs, .slice an2 h.b.ns.length cn2, .int .i64 h.at_, .string h.sound] 31 2 _ rfl).alloc (.cells #[.int .i64 0, .int .i64 0] 34)).keep h5W).1
  have d3 := (((Live.fresh w4 #[.slice am2 h.ms.length cm2, .string h.b.vt, .int .i64 h.b.vs, .slice an2 h.b.ns.length cn2, .int .i64 h.at_, .string h.sound] 31 3 _ rfl).alloc (.cells #[.int .i64 0, .int .i64 0] 34)).keep h5W).1
  have d4 := (((Live.fresh w4 #[.slice am2 h.ms.length cm2, .string h.b.vt, .int .i64 h.b.vs, .slice an2 h.b.ns.length cn2, .int .i64 h.at_, .string h.sound] 31 4 _ rfl).alloc (.cells #[.int .i64 0, .int .i64 0] 34)).keep h5W).1
  have d5 := (((Live.fresh w4 #[.slice am2 h.ms.length cm2, .string h.b.vt, .int .i64 h.b.vs, .slice an2 h.b.ns.length cn2, .int .i64 h.at_, .string h.sound] 31 5 _ rfl).alloc (.cells #[.int .i64 0, .int .i64 0] 34)).keep h5W).1
  have hbW := bt hbd h5W
  have hTW := HTO.out.bel hbW
  have hrA := hr1.keep' (bt hbm h2W)
  have hrB := hr2.keep' h4W
  rw [← hW4]
  clear hW4
  have ka : ∀ w', Below W4.heap.size W4 w' → Calls Tryz.prog 10 #[] w' fun e w'' => e = .returned (.bool true) ∧ Below W4.heap.size W4 w'' := fun w' hb => (KA.out w' (hTW.bel hb)).mono fun e w'' q => ⟨q.1, bt hb q.2⟩
  have kb : ∀ w', Below W4.heap.size W4 w' → Calls Tryz.prog 21 #[.agg #[.int .i64 0, .int .i64 0]] w' fun e w'' => e = .returned (.bool false) ∧ Below W4.heap.size W4 w'' := fun w' hb => (bad_any 0 0 w').mono fun e w'' q => ⟨q.1, bt hb q.2⟩
  have ko1 : ∀ w', Below W4.heap.size W4 w' → Calls Tryz.prog 15 #[.agg #[.slice am f.ms.length cm, .string f.b.vt, .int .i64 f.b.vs, .slice an f.b.ns.length cn, .int .i64 f.at_, .string f.sound]] w' fun e w'' => ∃ va na, e = .returned (.agg #[va, .string ⟨#[]⟩, .string f.b.vt, .int .i64 f.b.vs, na, .int .i64 f.at_, .string f.sound]) ∧ RfRow w'' va na f ∧ Below w'.heap.size w' w'' ∧ Below W4.heap.size W4 w'' := fun w' hb => (KOF.out w' _ _ (hrA.keep' hb)).mono fun e w'' ⟨va, na, q1, q2, q3⟩ => ⟨va, na, q1, q2, q3, bt hb q3⟩
  have ko2 : ∀ w', Below W4.heap.size W4 w' → Calls Tryz.prog 15 #[.agg #[.slice am2 h.ms.length cm2, .string h.b.vt, .int .i64 h.b.vs, .slice an2 h.b.ns.length cn2, .int .i64 h.at_, .string h.sound]] w' fun e w'' => ∃ vb nb, e = .returned (.agg #[vb, .string ⟨#[]⟩, .string h.b.vt, .int .i64 h.b.vs, nb, .int .i64 h.at_, .string h.sound]) ∧ RfRow w'' vb nb h ∧ Below w'.heap.size w' w'' ∧ Below W4.heap.size W4 w'' := fun w' hb => (KOF2.out w' _ _ (hrB.keep' hb)).mono fun e w'' ⟨va, na, q1, q2, q3⟩ => ⟨va, na, q1, q2, q3, bt hb q3⟩
  have ks : ∀ w' va na vb nb, RfRow w' va na f → RfRow w' vb nb h → Below W4.heap.size W4 w' → Calls Tryz.prog 14 #[.agg #[va, .string ⟨#[]⟩, .string f.b.vt, .int .i64 f.b.vs, na, .int .i64 f.at_, .string f.sound], .agg #[vb, .string ⟨#[]⟩, .string h.b.vt, .int .i64 h.b.vs, nb, .int .i64 h.at_, .string h.sound], .bool false] w' fun e w'' => e = .returned (.bool true) ∧ Below W4.heap.size W4 w'' := fun w' va na vb nb q1 q2 hb => (KSE.out w' va na vb nb q1 q2).mono fun e w'' q => ⟨q.1, bt hb q.2⟩
  have KSA : Hid (∀ wz, Below W4.heap.size W4 wz → wz.cell? ⟨w3.heap.size, 0, none⟩ = some (.int .i64 0) ∧ wz.cell? ⟨w3.heap.size, 1, none⟩ = some (.int .i64 0) ∧ wz.cell? ⟨w4.heap.size + 1, 0, none⟩ = some (.int .i64 0) ∧ wz.cell? ⟨w4.heap.size + 1, 1, none⟩ = some (.int .i64 0) ∧ wz.cell? ⟨w5.heap.size, 0, none⟩ = some (.int .i64 0) ∧ wz.cell? ⟨w5.heap.size, 1, none⟩ = some (.int .i64 0) ∧ wz.cell? ⟨w1.heap.size, 0, none⟩ = some (.slice am f.ms.length cm) ∧ wz.cell? ⟨w1.heap.size, 1, none⟩ = some (.string f.b.vt) ∧ wz.cell? ⟨w1.heap.size, 2, none⟩ = some (.int .i64 f.b.vs) ∧ wz.cell? ⟨w1.heap.size, 3, none⟩ = some (.slice an f.b.ns.length cn) ∧ wz.cell? ⟨w1.heap.size, 4, none⟩ = some (.int .i64 f.at_) ∧ wz.cell? ⟨w1.heap.size, 5, none⟩ = some (.string f.sound) ∧ wz.cell? ⟨w4.heap.size, 0, none⟩ = some (.slice am2 h.ms.length cm2) ∧ wz.cell? ⟨w4.heap.size, 1, none⟩ = some (.string h.b.vt) ∧ wz.cell? ⟨w4.heap.size, 2, none⟩ = some (.int .i64 h.b.vs) ∧ wz.cell? ⟨w4.heap.size, 3, none⟩ = some (.slice an2 h.b.ns.length cn2) ∧ wz.cell? ⟨w4.heap.size, 4, none⟩ = some (.int .i64 h.at_) ∧ wz.cell? ⟨w4.heap.size, 5, none⟩ = some (.string h.sound)) := Lib.hid fun wz hb => ⟨kc hb f0, kc hb f1, kc hb g0, kc hb g1, kc hb k0, kc hb k1, kc hb c0, kc hb c1, kc hb c2, kc hb c3, kc hb c4, kc hb c5, kc hb d0, kc hb d1, kc hb d2, kc hb d3, kc hb d4, kc hb d5⟩
  have hbk := Below.refl W4.heap.size W4
  have hend := HEND.out
  clear h5W h4W h3W h2W hW hr1 hr2 hb1 hb2 hb3 hb4 hb5 hba hbb hbc hbd hbl hbm hbn o0 o1 o2 o3 q1 q2 q3 q4 KP KP2 KPR KPR2 KOF KOF2 KSE K2 KA HTO HEND O0 O1 O2 O3
  have KA2 := Lib.hid ka
  have KB := Lib.hid kb
  have KO1 := Lib.hid ko1
  have KO2 := Lib.hid ko2
  have KS := Lib.hid ks
  have HRA := Lib.hid hrA
  have HRB := Lib.hid hrB
  have HTW := Lib.hid hTW
  have HBW := Lib.hid hbW
  clear ka kb ko1 ko2 ks hrA hrB hTW hbW
  by_cases hat : f.at_ ≥ 0
  · clear hend
    generalize f.at_ = A at *
    obtain ⟨m, rfl⟩ : ∃ m : Nat, A = (m : Int) := ⟨A.toNat, by omega⟩
    clear hat
    refine wp_region_held_drew (S := fun w' => w'.cell? ⟨w3.heap.size, 0, none⟩ = some (.int .i64 0) ∧ w'.cell? ⟨w3.heap.size, 1, none⟩ = some (.int .i64 0) ∧ w'.cell? ⟨w4.heap.size + 1, 0, none⟩ = some (.int .i64 0) ∧ w'.cell? ⟨w4.heap.size + 1, 1, none⟩ = some (.int .i64 0) ∧ w'.cell? ⟨w5.heap.size, 0, none⟩ = some (.int .i64 0) ∧ w'.cell? ⟨w5.heap.size, 1, none⟩ = some (.int .i64 0) ∧ w'.cell? ⟨w1.heap.size, 0, none⟩ = some (.slice am f.ms.length cm) ∧ w'.cell? ⟨w1.heap.size, 1, none⟩ = some (.string f.b.vt) ∧ w'.cell? ⟨w1.heap.size, 2, none⟩ = some (.int .i64 f.b.vs) ∧ w'.cell? ⟨w1.heap.size, 3, none⟩ = some (.slice an f.b.ns.length cn) ∧ w'.cell? ⟨w1.heap.size, 4, none⟩ = some (.int .i64 (m : Int)) ∧ w'.cell? ⟨w1.heap.size, 5, none⟩ = some (.string f.sound) ∧ w'.cell? ⟨w4.heap.size, 0, none⟩ = some (.slice am2 h.ms.length cm2) ∧ w'.cell? ⟨w4.heap.size, 1, none⟩ = some (.string h.b.vt) ∧ w'.cell? ⟨w4.heap.size, 2, none⟩ = some (.int .i64 h.b.vs) ∧ w'.cell? ⟨w4.heap.size, 3, none⟩ = some (.slice an2 h.b.ns.length cn2) ∧ w'.cell? ⟨w4.heap.size, 4, none⟩ = some (.int .i64 h.at_) ∧ w'.cell? ⟨w4.heap.size, 5, none⟩ = some (.string h.sound)) (by kernel_rfl) (KSA.out _ hbk.drew) (fun hHeld => ?_)
    refine wpAnyH_ready (rs := [0]) (by kernel_rfl) (by simp) ?_
    refine AllReadyH.cons rfl (fun K hK => ?_) AllReadyH.nil
    go_simp
    go_loud (go_at_call 10; refine (KA2.out _ ?_).mono ?_; (first | exact hbk | exact bdn hbk _ | exact hbk.drew); clear hbk; rintro e w10 ⟨rfl, hbk⟩)
    refine hK.out _ _ (KSA.out _ hbk) (fun hHeld => ?_)
    clear hK K
    (try simp only [Act.put, List.getElem_toArray, List.getElem_cons_zero, List.getElem_cons_succ, List.setIfInBounds_toArray, List.set_cons_zero, List.set_cons_succ])
    refine wpAnyH_take (i := 1) (v := ?_) rfl (by kernel_rfl) (by kernel_rfl) (by kernel_rfl) (fun _ _ _ h => h) (Or.inl ⟨by rfl, ?_⟩) (by assumption) ?_
    rotate_left 1
    · (intro w hSw; (try dsimp only at hSw); go_simp; (try with_reducible rfl))
    (try simp only [Act.put, List.getElem_toArray, List.getElem_cons_zero, List.getElem_cons_succ, List.setIfInBounds_toArray, List.set_cons_zero, List.set_cons_succ])
    refine wpAnyH_take (i := 2) (v := ?_) rfl (by kernel_rfl) (by kernel_rfl) (by kernel_rfl) (fun _ _ _ h => h) (Or.inl ⟨by rfl, ?_⟩) (by assumption) ?_
    rotate_left 1
    · (intro w hSw; (try dsimp only at hSw); go_simp; (try with_reducible rfl))
    (try simp only [Act.put, List.getElem_toArray, List.getElem_cons_zero, List.getElem_cons_succ, List.setIfInBounds_toArray, List.set_cons_zero, List.set_cons_succ])
    refine wpAnyH_ready (rs := [3]) (by kernel_rfl) (by simp) ?_
    refine AllReadyH.cons rfl (fun K hK => ?_) AllReadyH.nil
    go_simp
    go_loud (go_at_call 21; refine (KB.out _ ?_).mono ?_; (first | exact hbk | exact bdn hbk _ | exact hbk.drew); clear hbk; rintro e w11 ⟨rfl, hbk⟩)
    refine hK.out _ _ (KSA.out _ hbk) (fun hHeld => ?_)
    clear hK K
    (try simp only [Act.put, List.getElem_toArray, List.getElem_cons_zero, List.getElem_cons_succ, List.setIfInBounds_toArray, List.set_cons_zero, List.set_cons_succ])
    refine wpAnyH_take (i := 4) (v := ?_) rfl (by kernel_rfl) (by kernel_rfl) (by kernel_rfl) (fun _ _ _ h => h) (Or.inl ⟨by rfl, ?_⟩) (by assumption) ?_
    rotate_left 1
    · (intro w hSw; (try dsimp only at hSw); go_simp; (try with_reducible rfl))
    (try simp only [Act.put, List.getElem_toArray, List.getElem_cons_zero, List.getElem_cons_succ, List.setIfInBounds_toArray, List.set_cons_zero, List.set_cons_succ])
    refine wpAnyH_take (i := 5) (v := ?_) rfl (by kernel_rfl) (by kernel_rfl) (by kernel_rfl) (fun _ _ _ h => h) (Or.inl ⟨by rfl, ?_⟩) (by assumption) ?_
    rotate_left 1
    · (intro w hSw; (try dsimp only at hSw); go_simp; (try with_reducible rfl))
    (try simp only [Act.put, List.getElem_toArray, List.getElem_cons_zero, List.getElem_cons_succ, List.setIfInBounds_toArray, List.set_cons_zero, List.set_cons_succ])
    refine wpAnyH_take (i := 6) (v := ?_) rfl (by kernel_rfl) (by kernel_rfl) (by kernel_rfl) (fun _ _ _ h => h) (Or.inl ⟨by rfl, ?_⟩) (by assumption) ?_
    rotate_left 1
    · (intro w hSw; (try dsimp only at hSw); go_simp; (try with_reducible rfl))
    (try simp only [Act.put, List.getElem_toArray, List.getElem_cons_zero, List.getElem_cons_succ, List.setIfInBounds_toArray, List.set_cons_zero, List.set_cons_succ])
    refine wpAnyH_take (i := 7) (v := ?_) rfl (by kernel_rfl) (by kernel_rfl) (by kernel_rfl) (fun _ _ _ h => h) (Or.inl ⟨by rfl, ?_⟩) (by assumption) ?_
    rotate_left 1
    · (intro w hSw; (try dsimp only at hSw); go_simp; (try with_reducible rfl))
    (try simp only [Act.put, List.getElem_toArray, List.getElem_cons_zero, List.getElem_cons_succ, List.setIfInBounds_toArray, List.set_cons_zero, List.set_cons_succ])
    refine wpAnyH_ready (rs := [8]) (by kernel_rfl) (by simp) ?_
    refine AllReadyH.cons rfl (fun K hK => ?_) AllReadyH.nil
    go_simp
    go_loud (go_at_call 21; refine (KB.out _ ?_).mono ?_; (first | exact hbk | exact bdn hbk _ | exact hbk.drew); clear hbk; rintro e w11 ⟨rfl, hbk⟩)
    refine hK.out _ _ (KSA.out _ hbk) (fun hHeld => ?_)
    clear hK K
    (try simp only [Act.put, List.getElem_toArray, List.getElem_cons_zero, List.getElem_cons_succ, List.setIfInBounds_toArray, List.set_cons_zero, List.set_cons_succ])
    refine wpAnyH_take (i := 9) (v := ?_) rfl (by kernel_rfl) (by kernel_rfl) (by kernel_rfl) (fun _ _ _ h => h) (Or.inl ⟨by rfl, ?_⟩) (by assumption) ?_
    rotate_left 1
    · (intro w hSw; (try dsimp only at hSw); go_simp; (try with_reducible rfl))
    (try simp only [Act.put, List.getElem_toArray, List.getElem_cons_zero, List.getElem_cons_succ, List.setIfInBounds_toArray, List.set_cons_zero, List.set_cons_succ])
    refine wpAnyH_take (i := 10) (v := ?_) rfl (by kernel_rfl) (by kernel_rfl) (by kernel_rfl) (fun _ _ _ h => h) (Or.inl ⟨by rfl, ?_⟩) (by assumption) ?_
    rotate_left 1
    · (intro w hSw; (try dsimp only at hSw); go_simp; (try with_reducible rfl))
    (try simp only [Act.put, List.getElem_toArray, List.getElem_cons_zero, List.getElem_cons_succ, List.setIfInBounds_toArray, List.set_cons_zero, List.set_cons_succ])
    refine wpAnyH_take (i := 11) (v := ?_) rfl (by kernel_rfl) (by kernel_rfl) (by kernel_rfl) (fun _ _ _ h => h) (Or.inl ⟨by rfl, ?_⟩) (by assumption) ?_
    rotate_left 1
    · (intro w hSw; (try dsimp only at hSw); go_simp; (try with_reducible rfl))
    (try simp only [Act.put, List.getElem_toArray, List.getElem_cons_zero, List.getElem_cons_succ, List.setIfInBounds_toArray, List.set_cons_zero, List.set_cons_succ])
    refine wpAnyH_take (i := 12) (v := ?_) rfl (by kernel_rfl) (by kernel_rfl) (by kernel_rfl) (fun _ _ _ h => h) (Or.inl ⟨by rfl, ?_⟩) (by assumption) ?_
    rotate_left 1
    · (intro w hSw; (try dsimp only at hSw); go_simp; (try with_reducible rfl))
    (try simp only [Act.put, List.getElem_toArray, List.getElem_cons_zero, List.getElem_cons_succ, List.setIfInBounds_toArray, List.set_cons_zero, List.set_cons_succ])
    refine wpAnyH_ready (rs := [13]) (by kernel_rfl) (by simp) ?_
    refine AllReadyH.cons rfl (fun K hK => ?_) AllReadyH.nil
    go_simp
    go_loud (go_at_call 21; refine (KB.out _ ?_).mono ?_; (first | exact hbk | exact bdn hbk _ | exact hbk.drew); clear hbk; rintro e w11 ⟨rfl, hbk⟩)
    refine hK.out _ _ (KSA.out _ hbk) (fun hHeld => ?_)
    clear hK K
    (try simp only [Act.put, List.getElem_toArray, List.getElem_cons_zero, List.getElem_cons_succ, List.setIfInBounds_toArray, List.set_cons_zero, List.set_cons_succ])
    refine wpAnyH_take (i := 14) (v := ?_) rfl (by kernel_rfl) (by kernel_rfl) (by kernel_rfl) (fun _ _ _ h => h) (Or.inl ⟨by rfl, ?_⟩) (by assumption) ?_
    rotate_left 1
    · (intro w hSw; (try dsimp only at hSw); go_simp; (try with_reducible rfl))
    (try simp only [Act.put, List.getElem_toArray, List.getElem_cons_zero, List.getElem_cons_succ, List.setIfInBounds_toArray, List.set_cons_zero, List.set_cons_succ])
    refine wpAnyH_take (i := 15) (v := ?_) rfl (by kernel_rfl) (by kernel_rfl) (by kernel_rfl) (fun _ _ _ h => h) (Or.inl ⟨by rfl, ?_⟩) (by assumption) ?_
    rotate_left 1
    · (intro w hSw; (try dsimp only at hSw); go_simp; (try with_reducible rfl))
    (try simp only [Act.put, List.getElem_toArray, List.getElem_cons_zero, List.getElem_cons_succ, List.setIfInBounds_toArray, List.set_cons_zero, List.set_cons_succ])
    refine wpAnyH_take (i := 16) (v := ?_) rfl (by kernel_rfl) (by kernel_rfl) (by kernel_rfl) (fun _ _ _ h => h) (Or.inl ⟨by rfl, ?_⟩) (by assumption) ?_
    rotate_left 1
    · (intro w hSw; (try dsimp only at hSw); go_simp; (try with_reducible rfl))
    (try simp only [Act.put, List.getElem_toArray, List.getElem_cons_zero, List.getElem_cons_succ, List.setIfInBounds_toArray, List.set_cons_zero, List.set_cons_succ])
    refine wpAnyH_take (i := 17) (v := ?_) rfl (by kernel_rfl) (by kernel_rfl) (by kernel_rfl) (fun _ _ _ h => h) (Or.inl ⟨by rfl, ?_⟩) (by assumption) ?_
    rotate_left 1
    · (intro w hSw; (try dsimp only at hSw); go_simp; (try with_reducible rfl))
    (try simp only [Act.put, List.getElem_toArray, List.getElem_cons_zero, List.getElem_cons_succ, List.setIfInBounds_toArray, List.set_cons_zero, List.set_cons_succ])
    refine wpAnyH_take (i := 18) (v := ?_) rfl (by kernel_rfl) (by kernel_rfl) (by kernel_rfl) (fun _ _ _ h => h) (Or.inl ⟨by rfl, ?_⟩) (by assumption) ?_
    rotate_left 1
    · (intro w hSw; (try dsimp only at hSw); go_simp; (try with_reducible rfl))
    (try simp only [Act.put, List.getElem_toArray, List.getElem_cons_zero, List.getElem_cons_succ, List.setIfInBounds_toArray, List.set_cons_zero, List.set_cons_succ])
    refine wpAnyH_take (i := 19) (v := ?_) rfl (by kernel_rfl) (by kernel_rfl) (by kernel_rfl) (fun _ _ _ h => h) (Or.inl ⟨by rfl, ?_⟩) (by assumption) ?_
    rotate_left 1
    · (intro w hSw; (try dsimp only at hSw); go_simp; (try with_reducible rfl))
    (try simp only [Act.put, List.getElem_toArray, List.getElem_cons_zero, List.getElem_cons_succ, List.setIfInBounds_toArray, List.set_cons_zero, List.set_cons_succ])
    refine wpAnyH_take (i := 20) (v := ?_) rfl (by kernel_rfl) (by kernel_rfl) (by kernel_rfl) (fun _ _ _ h => h) (Or.inl ⟨by rfl, ?_⟩) (by assumption) ?_
    rotate_left 1
    · (intro w hSw; (try dsimp only at hSw); go_simp; (try with_reducible rfl))
    (try simp only [Act.put, List.getElem_toArray, List.getElem_cons_zero, List.getElem_cons_succ, List.setIfInBounds_toArray, List.set_cons_zero, List.set_cons_succ])
    refine wpAnyH_take (i := 21) (v := ?_) rfl (by kernel_rfl) (by kernel_rfl) (by kernel_rfl) (fun _ _ _ h => h) (Or.inl ⟨by rfl, ?_⟩) (by assumption) ?_
    rotate_left 1
    · (intro w hSw; (try dsimp only at hSw); go_simp; (try with_reducible rfl))
    (try simp only [Act.put, List.getElem_toArray, List.getElem_cons_zero, List.getElem_cons_succ, List.setIfInBounds_toArray, List.set_cons_zero, List.set_cons_succ])
    refine wpAnyH_take (i := 22) (v := ?_) rfl (by kernel_rfl) (by kernel_rfl) (by kernel_rfl) (fun _ _ _ h => h) (Or.inl ⟨by rfl, ?_⟩) (by assumption) ?_
    rotate_left 1
    · (intro w hSw; (try dsimp only at hSw); go_simp; (try with_reducible rfl))
    (try simp only [Act.put, List.getElem_toArray, List.getElem_cons_zero, List.getElem_cons_succ, List.setIfInBounds_toArray, List.set_cons_zero, List.set_cons_succ])
    refine wpAnyH_take (i := 24) (v := ?_) rfl (by kernel_rfl) (by kernel_rfl) (by kernel_rfl) (fun _ _ _ h => h) (Or.inl ⟨by rfl, ?_⟩) (by assumption) ?_
    rotate_left 1
    · (intro w hSw; (try dsimp only at hSw); go_simp; (try with_reducible rfl))
    (try simp only [Act.put, List.getElem_toArray, List.getElem_cons_zero, List.getElem_cons_succ, List.setIfInBounds_toArray, List.set_cons_zero, List.set_cons_succ])
    refine wpAnyH_ready (rs := [23]) (by kernel_rfl) (by simp) ?_
    refine AllReadyH.cons rfl (fun K hK => ?_) AllReadyH.nil
    go_simp
    go_loud (go_at_call_of 15 (Value.agg #[.slice am f.ms.length cm, .string f.b.vt, .int .i64 f.b.vs, .slice an f.b.ns.length cn, .int .i64 (m : Int), .string f.sound]); refine (KO1.out _ ?_).mono ?_; (first | exact hbk | exact bdn hbk _ | exact hbk.drew); clear hbk; rintro e w12 ⟨va, na, rfl, hva, hsa, hbk⟩)
    refine hK.out _ _ (KSA.out _ hbk) (fun hHeld => ?_)
    clear hK K
    (try simp only [Act.put, List.getElem_toArray, List.getElem_cons_zero, List.getElem_cons_succ, List.setIfInBounds_toArray, List.set_cons_zero, List.set_cons_succ])
    refine wpAnyH_ready (rs := [25]) (by kernel_rfl) (by simp) ?_
    refine AllReadyH.cons rfl (fun K hK => ?_) AllReadyH.nil
    go_simp
    go_loud (go_at_call_of 15 (Value.agg #[.slice am2 h.ms.length cm2, .string h.b.vt, .int .i64 h.b.vs, .slice an2 h.b.ns.length cn2, .int .i64 h.at_, .string h.sound]); refine (KO2.out _ ?_).mono ?_; (first | exact hbk | exact bdn hbk _ | exact hbk.drew); clear hbk; rintro e w13 ⟨vb, nb, rfl, hvb, hsb, hbk⟩)
    refine hK.out _ _ (KSA.out _ hbk) (fun hHeld => ?_)
    clear hK K
    (try simp only [Act.put, List.getElem_toArray, List.getElem_cons_zero, List.getElem_cons_succ, List.setIfInBounds_toArray, List.set_cons_zero, List.set_cons_succ])
    refine wpAnyH_ready (rs := [26]) (by kernel_rfl) (by simp) ?_
    refine AllReadyH.cons rfl (fun K hK => ?_) AllReadyH.nil
    go_simp
    go_loud (go_at_call 14; refine (KS.out _ _ _ _ _ ?_ ?_ ?_).mono ?_; (first | exact hva.keep' hsb | exact (hva.keep' (Below.refl _ _).drew).keep' hsb | exact (hva.keep' hsb).keep' (Below.refl _ _).drew | exact ((hva.keep' (Below.refl _ _).drew).keep' hsb).keep' (Below.refl _ _).drew); (first | exact hvb | exact hvb.keep' (Below.refl _ _).drew); (first | exact hbk | exact bdn hbk _ | exact hbk.drew); clear hbk; rintro e w14 ⟨rfl, hbk⟩)
    refine hK.out _ _ (KSA.out _ hbk) (fun hHeld => ?_)
    clear hK K
    (try simp only [Act.put, List.getElem_toArray, List.getElem_cons_zero, List.getElem_cons_succ, List.setIfInBounds_toArray, List.set_cons_zero, List.set_cons_succ])
    refine wpAnyH_take (i := 27) (v := ?_) rfl (by kernel_rfl) (by kernel_rfl) (by kernel_rfl) (fun _ _ _ h => h) (Or.inl ⟨by rfl, ?_⟩) (by assumption) ?_
    rotate_left 1
    · (intro w hSw; (try dsimp only at hSw); go_simp; (try with_reducible rfl))
    (try simp only [Act.put, List.getElem_toArray, List.getElem_cons_zero, List.getElem_cons_succ, List.setIfInBounds_toArray, List.set_cons_zero, List.set_cons_succ])
    refine wpAnyH_take (i := 28) (v := ?_) rfl (by kernel_rfl) (by kernel_rfl) (by kernel_rfl) (fun _ _ _ h => h) (Or.inl ⟨by rfl, ?_⟩) (by assumption) ?_
    rotate_left 1
    · (intro w hSw; (try dsimp only at hSw); go_simp; (try with_reducible rfl))
    (try simp only [Act.put, List.getElem_toArray, List.getElem_cons_zero, List.getElem_cons_succ, List.setIfInBounds_toArray, List.set_cons_zero, List.set_cons_succ])
    refine wpAnyH_take (i := 29) (v := ?_) rfl (by kernel_rfl) (by kernel_rfl) (by kernel_rfl) (fun _ _ _ h => h) (Or.inl ⟨by rfl, ?_⟩) (by assumption) ?_
    rotate_left 1
    · (intro w hSw; (try dsimp only at hSw); go_simp; (try with_reducible rfl))
    (try simp only [Act.put, List.getElem_toArray, List.getElem_cons_zero, List.getElem_cons_succ, List.setIfInBounds_toArray, List.set_cons_zero, List.set_cons_succ])
    refine wpAnyH_take (i := 30) (v := ?_) rfl (by kernel_rfl) (by kernel_rfl) (by kernel_rfl) (fun _ _ _ h => h) (Or.inl ⟨by rfl, ?_⟩) (by assumption) ?_
    rotate_left 1
    · (intro w hSw; (try dsimp only at hSw); go_simp; (try with_reducible rfl))
    (try simp only [Act.put, List.getElem_toArray, List.getElem_cons_zero, List.getElem_cons_succ, List.setIfInBounds_toArray, List.set_cons_zero, List.set_cons_succ])
    refine wpAnyH_take (i := 31) (v := ?_) rfl (by kernel_rfl) (by kernel_rfl) (by kernel_rfl) (fun _ _ _ h => h) (Or.inl ⟨by rfl, ?_⟩) (by assumption) ?_
    rotate_left 1
    · (intro w hSw; (try dsimp only at hSw); go_simp; (try with_reducible rfl))
    (try simp only [Act.put, List.getElem_toArray, List.getElem_cons_zero, List.getElem_cons_succ, List.setIfInBounds_toArray, List.set_cons_zero, List.set_cons_succ])
    refine wpAnyH_take (i := 32) (v := ?_) rfl (by kernel_rfl) (by kernel_rfl) (by kernel_rfl) (fun _ _ _ h => h) (Or.inl ⟨by rfl, ?_⟩) (by assumption) ?_
    rotate_left 1
    · (intro w hSw; (try dsimp only at hSw); go_simp; (try with_reducible rfl))
    (try simp only [Act.put, List.getElem_toArray, List.getElem_cons_zero, List.getElem_cons_succ, List.setIfInBounds_toArray, List.set_cons_zero, List.set_cons_succ])
    refine wpAnyH_take (i := 33) (v := undef) rfl (by kernel_rfl) (by kernel_rfl) (by kernel_rfl) (fun _ _ _ h => h) (Or.inr ⟨by rfl, rfl⟩) (by assumption) ?_
    (try simp only [Act.put, List.getElem_toArray, List.getElem_cons_zero, List.getElem_cons_succ, List.setIfInBounds_toArray, List.set_cons_zero, List.set_cons_succ])
    refine wpAnyH_take (i := 34) (v := undef) rfl (by kernel_rfl) (by kernel_rfl) (by kernel_rfl) (fun _ _ _ h => h) (Or.inr ⟨by rfl, rfl⟩) (by assumption) ?_
    (try simp only [Act.put, List.getElem_toArray, List.getElem_cons_zero, List.getElem_cons_succ, List.setIfInBounds_toArray, List.set_cons_zero, List.set_cons_succ])
    refine wpAnyH_take (i := 35) (v := undef) rfl (by kernel_rfl) (by kernel_rfl) (by kernel_rfl) (fun _ _ _ h => h) (Or.inr ⟨by rfl, rfl⟩) (by assumption) ?_
    (try simp only [Act.put, List.getElem_toArray, List.getElem_cons_zero, List.getElem_cons_succ, List.setIfInBounds_toArray, List.set_cons_zero, List.set_cons_succ])
    refine wpAnyH_take (i := 36) (v := ?_) rfl (by kernel_rfl) (by kernel_rfl) (by kernel_rfl) (fun _ _ _ h => h) (Or.inl ⟨by rfl, ?_⟩) (by assumption) ?_
    rotate_left 1
    · (intro w hSw; (try dsimp only at hSw); go_simp; (try with_reducible rfl))
    (try simp only [Act.put, List.getElem_toArray, List.getElem_cons_zero, List.getElem_cons_succ, List.setIfInBounds_toArray, List.set_cons_zero, List.set_cons_succ])
    refine wpAnyH_take (i := 37) (v := ?_) rfl (by kernel_rfl) (by kernel_rfl) (by kernel_rfl) (fun _ _ _ h => h) (Or.inl ⟨by rfl, ?_⟩) (by assumption) ?_
    rotate_left 1
    · (intro w hSw; (try dsimp only at hSw); go_simp; (try with_reducible rfl))
    (try simp only [Act.put, List.getElem_toArray, List.getElem_cons_zero, List.getElem_cons_succ, List.setIfInBounds_toArray, List.set_cons_zero, List.set_cons_succ])
    refine wpAnyH_take (i := 38) (v := ?_) rfl (by kernel_rfl) (by kernel_rfl) (by kernel_rfl) (fun _ _ _ h => h) (Or.inl ⟨by rfl, ?_⟩) (by assumption) ?_
    rotate_left 1
    · (intro w hSw; (try dsimp only at hSw); go_simp; (try with_reducible rfl))
    (try simp only [Act.put, List.getElem_toArray, List.getElem_cons_zero, List.getElem_cons_succ, List.setIfInBounds_toArray, List.set_cons_zero, List.set_cons_succ])
    refine wpAnyH_done (by kernel_rfl) ?_ _
    go_wp2_with fail
    go_ret
    exact ⟨rfl, bt HBO.out (bt HBW.out hbk)⟩
  · rw [decide_eq_false hat, Bool.false_or] at hend
    have hat2 : decide (f.at_ ≥ 0) = false := decide_eq_false hat
    go_region_held3 (fun w' => w'.cell? ⟨w3.heap.size, 0, none⟩ = some (.int .i64 0) ∧ w'.cell? ⟨w3.heap.size, 1, none⟩ = some (.int .i64 0) ∧ w'.cell? ⟨w4.heap.size + 1, 0, none⟩ = some (.int .i64 0) ∧ w'.cell? ⟨w4.heap.size + 1, 1, none⟩ = some (.int .i64 0) ∧ w'.cell? ⟨w5.heap.size, 0, none⟩ = some (.int .i64 0) ∧ w'.cell? ⟨w5.heap.size, 1, none⟩ = some (.int .i64 0) ∧ w'.cell? ⟨w1.heap.size, 0, none⟩ = some (.slice am f.ms.length cm) ∧ w'.cell? ⟨w1.heap.size, 1, none⟩ = some (.string f.b.vt) ∧ w'.cell? ⟨w1.heap.size, 2, none⟩ = some (.int .i64 f.b.vs) ∧ w'.cell? ⟨w1.heap.size, 3, none⟩ = some (.slice an f.b.ns.length cn) ∧ w'.cell? ⟨w1.heap.size, 4, none⟩ = some (.int .i64 f.at_) ∧ w'.cell? ⟨w1.heap.size, 5, none⟩ = some (.string f.sound) ∧ w'.cell? ⟨w4.heap.size, 0, none⟩ = some (.slice am2 h.ms.length cm2) ∧ w'.cell? ⟨w4.heap.size, 1, none⟩ = some (.string h.b.vt) ∧ w'.cell? ⟨w4.heap.size, 2, none⟩ = some (.int .i64 h.b.vs) ∧ w'.cell? ⟨w4.heap.size, 3, none⟩ = some (.slice an2 h.b.ns.length cn2) ∧ w'.cell? ⟨w4.heap.size, 4, none⟩ = some (.int .i64 h.at_) ∧ w'.cell? ⟨w4.heap.size, 5, none⟩ = some (.string h.sound))
      (first | (with_reducible refine KSA.out _ ?_; exact hbk) | go_keep)
      (first
        | (go_at_call 10; refine (KA2.out _ ?_).mono ?_; (first | exact hbk | exact bdn hbk _ | exact hbk.drew); clear hbk; rintro e w10 ⟨rfl, hbk⟩)
        | (go_at_call 21; refine (KB.out _ ?_).mono ?_; (first | exact hbk | exact bdn hbk _ | exact hbk.drew); clear hbk; rintro e w11 ⟨rfl, hbk⟩)
        | (go_at_call_of 15 (Value.agg #[.slice am f.ms.length cm, .string f.b.vt, .int .i64 f.b.vs, .slice an f.b.ns.length cn, .int .i64 f.at_, .string f.sound]); refine (KO1.out _ ?_).mono ?_; (first | exact hbk | exact bdn hbk _ | exact hbk.drew); clear hbk; rintro e w12 ⟨va, na, rfl, hva, hsa, hbk⟩)
        | (go_at_call_of 15 (Value.agg #[.slice am2 h.ms.length cm2, .string h.b.vt, .int .i64 h.b.vs, .slice an2 h.b.ns.length cn2, .int .i64 h.at_, .string h.sound]); refine (KO2.out _ ?_).mono ?_; (first | exact hbk | exact bdn hbk _ | exact hbk.drew); clear hbk; rintro e w13 ⟨vb, nb, rfl, hvb, hsb, hbk⟩)
        | (go_at_call 14; refine (KS.out _ _ _ _ _ ?_ ?_ ?_).mono ?_; (first | exact hva.keep' hsb | exact (hva.keep' (Below.refl _ _).drew).keep' hsb | exact (hva.keep' hsb).keep' (Below.refl _ _).drew | exact ((hva.keep' (Below.refl _ _).drew).keep' hsb).keep' (Below.refl _ _).drew); (first | exact hvb | exact hvb.keep' (Below.refl _ _).drew); (first | exact hbk | exact bdn hbk _ | exact hbk.drew); clear hbk; rintro e w14 ⟨rfl, hbk⟩))
    go_wp2_with fail
    go_ret
    exact ⟨rfl, bt HBO.out (bt HBW.out hbk)⟩
theorem walk (s : ByteArray) (fb : Int) (g : Bool) (w0 : s.size ≤ maxLen) (w1 : (Lit.int .i64 fb).wf = true) (w : World) (hT : TW w) :
    Calls Tryz.prog 5 #[.string s, .int .i64 fb, .bool g] w fun e w' => e = .returned (.bool true) ∧ Below w.heap.size w w' := by
  by_cases hs : 2000 < s.size
  · exact walk_long s fb g hs w hT
  · by_cases hb : (fparM (RM fb g) s).2.1 = 0
    · exact walk_good s fb g (by omega) w hT hb
    · exact walk_bad s fb g (by omega) w hT hb
set_option maxRecDepth 100000 in
theorem lifted (os : Os) (started : os.Started) (H : Type) (enc : TypeId × Value → H) :
    ReturnsInHanded {} Tryz.checked os 5 .any (fun w args => (Rows.flacTwiceSpec.pre enc Tryz.prog Tryz.f5 Rows.flacTwiceRow.domain false w args ∧ laidMetH Tryz.prog laid3 w) ∧ sizedMet enc Tryz.prog Tryz.f5 (OpenSpec.ofChange Rows.flacTwiceSpec) false w args) (Rows.flacTwiceSpec.post enc Tryz.prog Tryz.f5 false true false false) := by
  refine handed_laid_shaped (C := Tryz.checked) (X := fun w => laidMetH Tryz.prog laid3 w) (fun _ _ hh h => h.of_heap hh) own started (by kernel_rfl) Tryz.func5
    (ChangeSpec.witness_shaped (enc := enc) (C := Tryz.checked) (os := os) (X := fun w _ => laidMetH Tryz.prog laid3 w) false (World.laidAll Tryz.prog os laid3) #[.string ByteArray.empty, .int .i64 0, .bool false] 8 (World.laidAll_os _ _ _) (laid_shaped os _) (by kernel_rfl) (by kernel_rfl) (by kernel_rfl) (laid_met os _)) ?_
  intro W base args ds gs before hval0 hW hL hsh
  have hT := tw_of_laid hL hsh
  have hval : ∀ (j : Nat) t v, Tryz.f5.params[j]? = some t → args[j]? = some v → Value.okWide Tryz.prog W .any base t v := hval0
  have hW' := hW
  obtain ⟨p, q, hA0, hV, rfl, hfz, hnd⟩ := hW
  have hA : DataW.TrodAll enc Tryz.prog W 0 (fun _ => true) true Tryz.f5.params.toList args.toList ds p := hA0
  rw [Tryz.params5] at hA hval
  obtain ⟨v0, vs0, d0, ds0, p0, q0, hargs, rfl, rfl, h0, r0⟩ := trodAll_cons hA
  obtain ⟨v1, vs1, d1, ds1, p1, q1, rfl, rfl, rfl, h1, r1⟩ := trodAll_cons r0
  obtain ⟨v2, vs2, d2, ds2, p2, q2, rfl, rfl, rfl, h2, r2⟩ := trodAll_cons r1
  obtain ⟨rfl, rfl, rfl⟩ := trodAll_nil r2
  obtain rfl : args = #[v0, v1, v2] := by cases args; simp_all
  obtain ⟨rfl, rfl⟩ := trodVars_none hV
  obtain ⟨a0, rfl, rfl, rfl, w0⟩ := open_string Tryz.underlying9 (hval 0 9 v0 rfl rfl) h0
  obtain ⟨a1, rfl, rfl, rfl, w1⟩ := open_int Tryz.underlying3 (hval 1 3 v1 rfl rfl) h1
  obtain ⟨a2, rfl, rfl, rfl⟩ := open_bool Tryz.underlying4 (hval 2 4 v2 rfl rfl) h2
  clear hA0 hval0
  simp only [List.append_nil] at hW'
  refine (walk a0 a1 a2 w0 w1 W hT).mono fun e W' ⟨he, hg⟩ => ?_
  subst he
  exact ⟨_, rfl, post_below (pa := []) (pv := []) hW' (trodAll_cons_mk (shut_bool Tryz.underlying4 _) trodAll_mk0) (trodAll_cons_mk (shut_string Tryz.underlying9 w0) (trodAll_cons_mk (shut_int Tryz.underlying3 w1) (trodAll_cons_mk (shut_bool Tryz.underlying4 a2) trodAll_mk0))) rfl hg⟩

theorem over : Rows.flacTwiceRow.holds Tryz.pinned (OpenSpec.ofChange Rows.flacTwiceSpec) :=
  OpenClaim.holds_of_wide 5 Tryz.f5 rfl rfl rfl rfl rfl rfl rfl ⟨rfl, rfl, rfl, rfl, rfl⟩ rfl rfl rfl rfl rfl k_named Tryz.func5 k_joined (of_decide_eq_true (by kernel_rfl)) k_wrap
    (fun os started H enc _ => lifted os started H enc)

/-- THE STATEMENT: the tied card -/
theorem proved : Rows.FlacTwiceCardSaid :=
  Claim7.holds_tied_plain_at .later [] [.data, .data, .pinned] true Rows.flacTwiceCard.stood.harness Rows.flacTwiceCard.stood.looks over (fun _ h => by cases h) k_wf (fun _ h => by cases h) flacTwice_row_tie rfl ⟨rfl, rfl⟩ k_main rfl
    (fun f fn hf hfn => by
      obtain rfl : f = 5 := Option.some.inj (k_named.symm.trans hf) |>.symm
      obtain rfl : fn = Tryz.f5 := (Option.some.inj (Tryz.func5.symm.trans hfn)).symm
      exact ⟨k_looks, fun j t ht => by
        rw [Tryz.params5] at ht
        have hm : t ∈ [9, 3, 4] := by simpa using Array.mem_of_getElem? ht
        exact (show Tryz.prog.wantsStandIn t = false by simpa using List.all_eq_true.1 k_stand t hm)⟩)
    k_goes
#print axioms proved
end Go.Proofs.YtgidlcdgpiapkaaGreatDoor.flacTwice
