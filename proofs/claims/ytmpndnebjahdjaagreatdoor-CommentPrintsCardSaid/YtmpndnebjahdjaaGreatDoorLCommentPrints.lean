/- CommentPrints holds: any block's bytes, or what is wrong with it, are the document's; what is printed is read as it was, whatever the options, all in UTF8. No condition. -/
import Derived.Test.YtmpndnebjahdjaaGreatDoorFr
import Derived.Test.YtmpndnebjahdjaaGreatDoorTie
import Derived.Test.YtmpndnebjahdjaaGreatDoorCards
import Derived.Test.YtmpndnebjahdjaaGreatDoorKz
import Derived.Test.YtmpndnebjahdjaaGreatDoorKCommentPrints
import Derived.Test.YtmpndnebjahdjaaGreatDoorAy
import Derived.Test.YtmpndnebjahdjaaGreatDoorRz
namespace Go.Proofs.YtmpndnebjahdjaaGreatDoor.commentPrints
open Go.ChangeShapes Go.WideShapes Go.ChangeAt Go.RowKit Go.ChangeMaps
set_option linter.unusedVariables false
set_option linter.unusedSimpArgs false

theorem light_sm {b : Bk} (h : lightM b = true) : smBk b ∧ b.ns.length ≤ 30 ∧ b.vt.size ≤ 150 ∧ ∀ n ∈ b.ns, n.name.size ≤ 50 ∧ n.text.size ≤ 150 := by
  unfold lightM at h
  simp only [Bool.and_eq_true, decide_eq_true_eq] at h
  obtain ⟨⟨h1, h2⟩, h3⟩ := h
  have h4 : ∀ n ∈ b.ns, n.name.size ≤ 50 ∧ n.text.size ≤ 150 := by
    intro n hn
    have := List.all_eq_true.1 h1 n hn
    unfold lightN at this
    simpa using this
  exact ⟨⟨by omega, by omega, fun n hn => by have := h4 n hn; omega⟩, h2, h3, h4⟩
theorem note_small (n : Nt) (h1 : n.name.size ≤ 50) (h2 : n.text.size ≤ 150) : (noteL n).length ≤ 205 := by
  unfold noteL sizedL
  simp only [List.length_append, bl_length]
  show 4 + (_ + 1 + _) ≤ _
  omega
theorem print_small (fr : Bool) (b : Bk) (h1 : b.ns.length ≤ 30) (h2 : b.vt.size ≤ 150) (h3 : ∀ n ∈ b.ns, n.name.size ≤ 50 ∧ n.text.size ≤ 150) : (printL fr b).length ≤ 100000 := by
  have hl : ∀ l : List Nt, (∀ n ∈ l, n.name.size ≤ 50 ∧ n.text.size ≤ 150) → (l.flatMap noteL).length ≤ 205 * l.length := by
    intro l
    induction l with
    | nil => intro _; exact Nat.zero_le _
    | cons n l ih =>
      intro h
      have := note_small n (h n (List.mem_cons_self ..)).1 (h n (List.mem_cons_self ..)).2
      have := ih (fun m hm => h m (List.mem_cons_of_mem _ hm))
      rw [List.flatMap_cons, List.length_append, List.length_cons]
      omega
  have := hl b.ns h3
  unfold printL sizedL
  simp only [List.length_append, bl_length]
  have h4 : (le4 b.vt.size).length = 4 := rfl
  have h5 : (le4 b.ns.length).length = 4 := rfl
  rw [h4, h5]
  generalize (b.ns.flatMap noteL).length = q at *
  cases fr
  · show _ + 0 ≤ _; omega
  · show _ + 1 ≤ _; omega
theorem fault_any (c a : Int) (w : World) : Calls Tryz.prog 14 #[.int .i64 c, .int .i64 a] w fun e w' => e = .returned (.agg #[.int .i64 c, .int .i64 a]) ∧ Below w.heap.size w w' := by
  go_enter Tryz.func14, Tryz.ntmps14
  go_wp2
  have l0 := Live.fresh w #[.int .i64 0, .int .i64 0] 25 0 _ rfl
  have l1 := Live.fresh w #[.int .i64 0, .int .i64 0] 25 1 _ rfl
  obtain ⟨a1, a2⟩ := l0
  obtain ⟨a3, a4⟩ := l1
  refine bodyPost_ret (v := .agg #[.int .i64 c, .int .i64 a]) (by simp [results, Tryz.results14, go_sem, a1, a2, a3, a4]) rfl ?_
  exact ⟨rfl, bal (Below.refl w.heap.size w) _⟩
theorem like_utf (b : Bk) : likeBk (utfBk b) b := by
  refine ⟨rfl, by simp [utfBk], fun k x y hx hy => ?_⟩
  simp only [utfBk, List.getElem?_map, hy, Option.map_some, Option.some.injEq] at hx
  subst hx
  exact ⟨rfl, rfl⟩
set_option maxRecDepth 100000 in
set_option maxHeartbeats 8000000 in
theorem walk_dark (v : Value) (b : Bk) (fr : Bool) (fb : Int) (g : Bool) (w0 : okBk b) (w2 : (Lit.int .i64 fb).wf = true) (w : World) (R0 : Row w v b.ns.length (ntcells b.ns)) (hT : TW w) (hlt : lightM b = false) :
    Calls Tryz.prog 4 #[.agg #[.string b.vt, .int .i64 b.vs, v], .bool fr, .int .i64 fb, .bool g] w fun e w' => e = .returned (.bool true) ∧ Below w.heap.size w w' := by
  have KA := Lib.hid awake19in_any
  have hrow := R0
  have k1 : ∀ w', Below w.heap.size w w' → Calls Tryz.prog 17 #[.agg #[.string b.vt, .int .i64 b.vs, v]] w' fun e w'' => e = .returned (.bool (lightM b)) ∧ Below w'.heap.size w' w'' := fun w' hb => light_any v b w' (R0.keep hb) w0
  obtain ⟨av, cap, rfl, hc⟩ := R0
  rw [hlt] at k1
  obtain ⟨vt, vs, ns⟩ := b
  simp only at k1 ⊢
  generalize ns.length = n at *
  obtain ⟨W, hW⟩ : ∃ W, W = w.alloc (.cells #[.string vt, .int .i64 vs, .slice av n cap] 37) := ⟨_, rfl⟩
  have hbW : Below w.heap.size w W := by rw [hW]; exact bal (Below.refl _ _) _
  have lc : ∀ (i : Nat) (u : Value), (#[.string vt, .int .i64 vs, .slice av n cap] : Array Value)[i]? = some u → W.cell? ⟨w.heap.size, i, none⟩ = some u := by
    intro i u hu; rw [hW]; exact (Live.fresh w _ 37 i u hu).1
  have c0 := lc 0 _ rfl
  have c1 := lc 1 _ rfl
  have c2 := lc 2 _ rfl
  have hTW := hT.bel hbW
  clear lc w0 hrow
  have K1 := Lib.hid k1
  have HBW := Lib.hid hbW
  have HTW := Lib.hid hTW
  have HC := Lib.hid hc
  clear k1 hbW hTW hc
  clear hlt
  go_enter Tryz.func4, Tryz.ntmps4
  go_wp2_with fail
  rw [← hW]
  clear hW
  go_wp2_with (first
    | (go_at_call 17; refine (K1.out _ HBW.out).mono ?_; rintro e w2 ⟨rfl, hb2⟩)
    | (go_at_call 18; refine (KA.out _ (HTW.out.bel hb2)).mono ?_; rintro e w3 ⟨rfl, hb3⟩))
  go_ret
  exact ⟨rfl, HBW.out.trans ((bt hb2 hb3).mono HBW.out.size)⟩
set_option maxRecDepth 100000 in
set_option maxHeartbeats 8000000 in
theorem walk_good (v : Value) (b : Bk) (fr : Bool) (fb : Int) (g : Bool) (w0 : okBk b) (w2 : (Lit.int .i64 fb).wf = true) (w : World) (R0 : Row w v b.ns.length (ntcells b.ns)) (hT : TW w) (hlt : lightM b = true) (hce : (checkM b).1 = 0) :
    Calls Tryz.prog 4 #[.agg #[.string b.vt, .int .i64 b.vs, v], .bool fr, .int .i64 fb, .bool g] w fun e w' => e = .returned (.bool true) ∧ Below w.heap.size w w' := by
  have KA := Lib.hid awake19in_any
  have hrow := R0
  have k1 : ∀ w', Below w.heap.size w w' → Calls Tryz.prog 17 #[.agg #[.string b.vt, .int .i64 b.vs, v]] w' fun e w'' => e = .returned (.bool (lightM b)) ∧ Below w'.heap.size w' w'' := fun w' hb => light_any v b w' (R0.keep hb) w0
  obtain ⟨av, cap, rfl, hc⟩ := R0
  rw [hlt] at k1
  obtain ⟨s1, s2, s3, s4⟩ := light_sm hlt
  have hsp := print_small fr b s2 s3 s4
  have kof : ∀ w', Below w.heap.size w w' → Calls Tryz.prog 19 #[.agg #[.string b.vt, .int .i64 b.vs, .slice av b.ns.length cap]] w' fun e w'' => ∃ v', e = .returned (.agg #[.string ⟨#[]⟩, .string b.vt, .int .i64 b.vs, v']) ∧ w''.ownsRow w'.heap.size 40 3 v' b.ns.length (ntcells b.ns) ∧ Below w'.heap.size w' w'' := fun w' hb => lof_any _ b w' (hrow.keep hb) s1 (by omega)
  have kpr : ∀ w', Below w.heap.size w w' → Calls Tryz.prog 20 #[.agg #[.string b.vt, .int .i64 b.vs, .slice av b.ns.length cap], .bool fr] w' (PrintPost fr b w') := fun w' hb => cprint_any _ b fr w' (hT.bel hb) (hrow.keep hb) s1 (by omega) (by omega)
  have krc : ∀ w' v', Row w' v' b.ns.length (ntcells b.ns) → Calls Tryz.prog 21 #[.agg #[.string ⟨#[]⟩, .string b.vt, .int .i64 b.vs, v']] w' fun e w'' => e = .returned (.tuple #[.int .i64 (checkM b).1, .int .i64 (checkM b).2]) ∧ Below w'.heap.size w' w'' := fun w' v' hr => rcheck_any v' b w' hr s1
  have kck : ∀ w', Below w.heap.size w w' → Calls Tryz.prog 22 #[.agg #[.string b.vt, .int .i64 b.vs, .slice av b.ns.length cap]] w' fun e w'' => e = .returned (.agg #[.int .i64 (checkM b).1, .int .i64 (checkM b).2]) ∧ Below w'.heap.size w' w'' := fun w' hb => ccheck_any _ b w' (hT.bel hb) (hrow.keep hb) s1
  unfold PrintPost at kpr
  rw [if_pos hce] at kpr
  have hcz := check_zero b hce
  have hpb := parse_back (R := RM fb g) (RM_utf fb g) fr b ⟨⟨(printL fr b).toArray⟩, 0, 0, 0, 0⟩ hcz (by omega) (fun n hn => by have := note_small n (s4 n hn).1 (s4 n hn).2; omega) ⟨rfl, Nat.zero_le _, by rw [List.drop_zero]⟩
  have krp : ∀ w' v', Row w' v' b.ns.length (ntcells b.ns) → Calls Tryz.prog 26 #[.agg #[.string ⟨#[]⟩, .string b.vt, .int .i64 b.vs, v'], .bool fr] w' fun e w'' => e = .returned (.string ⟨(printL fr b).toArray⟩) ∧ Below w'.heap.size w' w'' := fun w' v' hr => rprint_any v' b fr w' hr s1 (by omega) (fun n hn => by have := s4 n hn; omega) (by omega)
  have hSs : (⟨(printL fr b).toArray⟩ : ByteArray).size ≤ 1048576 := by show (printL fr b).length ≤ _; omega
  have kp : ∀ wB, TW wB → ∀ w1 r, wB.heap.size ≤ r → InX w1 r ⟨⟨(printL fr b).toArray⟩, 0, 0, 0, 0⟩ → Below wB.heap.size wB w1 → Calls Tryz.prog 23 #[.pointer (some ⟨r, 0, none⟩), .bool fr, .agg #[.int .i64 0, .int .i64 fb, .bool g, .int .i64 0]] w1 fun e w' =>
      Below wB.heap.size wB w' ∧ ∃ v, e = .returned (.tuple #[.agg #[.string b.vt, .int .i64 7, v], .bool true]) ∧ Row w' v b.ns.length (ntcells (b.ns.map utfNt)) := by
    intro wB hTB w1 r h1 h2 h3
    refine (cparse_new _ fr fb g wB hTB hSs w1 r h1 h2 h3).mono ?_
    rintro e w' ⟨q1, q2⟩
    rw [hpb] at q2
    obtain ⟨v, q3, q4⟩ := q2
    refine ⟨q1, v, q3, ?_⟩
    have q5 : Row w' v (b.ns.map utfNt).length (ntcells (b.ns.map utfNt)) := q4
    rw [List.length_map] at q5
    exact q5
  have kr := fun w => readX_any ⟨(printL fr b).toArray⟩ w
  have kof2 : ∀ w' v', Row w' v' b.ns.length (ntcells (b.ns.map utfNt)) → Calls Tryz.prog 19 #[.agg #[.string b.vt, .int .i64 7, v']] w' fun e w'' => ∃ v2, e = .returned (.agg #[.string ⟨#[]⟩, .string b.vt, .int .i64 7, v2]) ∧ Row w'' v2 b.ns.length (ntcells (b.ns.map utfNt)) ∧ Below w'.heap.size w' w'' := by
    intro w' v' hr
    have h := lof_any v' (utfBk b) w' (by show Row w' v' (b.ns.map utfNt).length _; rw [List.length_map]; exact hr) ⟨s1.1, by show (b.ns.map utfNt).length ≤ _; rw [List.length_map]; exact s1.2.1, fun n hn => by
      obtain ⟨m, hm, rfl⟩ := List.mem_map.1 hn
      exact s1.2.2 m hm⟩ (by show (b.ns.map utfNt).length ≤ _; rw [List.length_map]; omega)
    refine h.mono ?_
    rintro e w'' ⟨v2, q1, q2, q3⟩
    have q5 : Row w'' v2 (b.ns.map utfNt).length (ntcells (b.ns.map utfNt)) := row_owns q2
    rw [List.length_map] at q5
    exact ⟨v2, q1, q5, q3⟩
  have ksa : ∀ w' va vb, Row w' va b.ns.length (ntcells (b.ns.map utfNt)) → Row w' vb b.ns.length (ntcells b.ns) → Calls Tryz.prog 25 #[.agg #[.string ⟨#[]⟩, .string b.vt, .int .i64 7, va], .agg #[.string ⟨#[]⟩, .string b.vt, .int .i64 b.vs, vb], .bool false] w' fun e w'' => e = .returned (.bool true) ∧ Below w'.heap.size w' w'' := by
    intro w' va vb h1 h2
    exact lsame_any va vb (utfBk b) b w' (by show Row w' va (b.ns.map utfNt).length _; rw [List.length_map]; exact h1) h2 (like_utf b) (by show (b.ns.map utfNt).length ≤ _; rw [List.length_map]; omega)
  have hset : ∀ (k : Nat) (x : Nt), (b.ns.map utfNt)[k]? = some x → x.set = 7 := by
    intro k x hx
    rw [List.getElem?_map] at hx
    cases hy : b.ns[k]? with
    | none => rw [hy] at hx; cases hx
    | some y => rw [hy] at hx; simp only [Option.map_some, Option.some.injEq] at hx; subst hx; rfl
  have hml : (b.ns.map utfNt).length = b.ns.length := List.length_map ..
  rw [hcz] at kpr krc kck
  obtain ⟨vt, vs, ns⟩ := b
  simp only at k1 kof kpr krc kck krp kp kr kof2 ksa hset hml ⊢
  generalize (⟨(printL fr ⟨vt, vs, ns⟩).toArray⟩ : ByteArray) = S at *
  generalize ns.map utfNt = NS at *
  obtain ⟨n, hn⟩ : ∃ n, n = ns.length := ⟨_, rfl⟩
  rw [← hn] at k1 kof kpr krc kck krp kp kof2 ksa hml ⊢
  obtain ⟨W, hW⟩ : ∃ W, W = w.alloc (.cells #[.string vt, .int .i64 vs, .slice av n cap] 37) := ⟨_, rfl⟩
  have hbW : Below w.heap.size w W := by rw [hW]; exact bal (Below.refl _ _) _
  have lc : ∀ (i : Nat) (u : Value), (#[.string vt, .int .i64 vs, .slice av n cap] : Array Value)[i]? = some u → W.cell? ⟨w.heap.size, i, none⟩ = some u := by
    intro i u hu; rw [hW]; exact (Live.fresh w _ 37 i u hu).1
  have c0 := lc 0 _ rfl
  have c1 := lc 1 _ rfl
  have c2 := lc 2 _ rfl
  have hTW := hT.bel hbW
  have kN : ∀ w, (binOp .neq 25 (.agg #[.int .i64 0, .int .i64 0]) (.agg #[.int .i64 0, .int .i64 0])).run Tryz.prog w = .ok (.bool false) w := fun w => by have := neqFault 0 0 0 0 w; simpa using this
  have kG := fun x y w => guardFault .neq x y #[.int .i64 0, .int .i64 0] #[.int .i64 0, .int .i64 0] w
  have KF := Lib.hid fault_any
  have hSS : (S.toList == S.toList) = true := by simp
  have hn30 : n ≤ 30 := by rw [hn]; exact s2
  clear lc w0 hrow hlt s1 s2 s3 s4 hsp hcz hpb hSs hce
  have K1 := Lib.hid k1
  have KOF := Lib.hid kof
  have KPR := Lib.hid kpr
  have KRC := Lib.hid krc
  have KCK := Lib.hid kck
  have KRP := Lib.hid krp
  have KP := Lib.hid kp
  have KR := Lib.hid kr
  have KOF2 := Lib.hid kof2
  have KSA := Lib.hid ksa
  have HSET := Lib.hid hset
  have HML := Lib.hid hml
  have HBW := Lib.hid hbW
  have HTW := Lib.hid hTW
  have HC := Lib.hid hc
  have HN := Lib.hid hn
  clear k1 kof kpr krc kck krp kp kr kof2 ksa hset hml hbW hTW hc hn
  go_enter Tryz.func4, Tryz.ntmps4
  go_wp2_with fail
  rw [← hW]
  clear hW
  go_wp2_with (first
    | (go_at_call 17; refine (K1.out _ HBW.out).mono ?_; rintro e w2 ⟨rfl, hb2⟩; have d0 := kc hb2 c0; have d1 := kc hb2 c1; have d2 := kc hb2 c2; have hW2 := HBW.out.trans (hb2.mono HBW.out.size))
    | (go_at_call 19; refine (KOF.out _ hW2).mono ?_; rintro e w3 ⟨vm, rfl, hom, hb3⟩; obtain ⟨am, cm, rfl⟩ := orow_form hom; have hb3a := bal hb3 (.cells #[.string ⟨#[]⟩, .string vt, .int .i64 vs, .slice am n cm] 43); have hrm := (row_owns hom).keep (bal (Below.refl w3.heap.size w3) (.cells #[.string ⟨#[]⟩, .string vt, .int .i64 vs, .slice am n cm] 43)); have d0 := kc hb3a d0; have d1 := kc hb3a d1; have d2 := kc hb3a d2; have hW3 := bt hW2 hb3a)
    | (go_at_call 20; refine (KPR.out _ hW3).mono ?_; rintro e w4 ⟨rfl, hb4⟩; have hb4a := bal hb4 (.cells #[.int .i64 0, .int .i64 0] 25); have hrm := hrm.keep hb4a; have hW4 := bt hW3 hb4a; have d0 := kc hb4a d0; have d1 := kc hb4a d1; have d2 := kc hb4a d2; have e0 := kc hb4a (Live.fresh w3 #[.string ⟨#[]⟩, .string vt, .int .i64 vs, .slice am n cm] 43 0 _ rfl).1; have e1 := kc hb4a (Live.fresh w3 #[.string ⟨#[]⟩, .string vt, .int .i64 vs, .slice am n cm] 43 1 _ rfl).1; have e2 := kc hb4a (Live.fresh w3 #[.string ⟨#[]⟩, .string vt, .int .i64 vs, .slice am n cm] 43 2 _ rfl).1; have e3 := kc hb4a (Live.fresh w3 #[.string ⟨#[]⟩, .string vt, .int .i64 vs, .slice am n cm] 43 3 _ rfl).1)
    | (go_at_call 21; refine (KRC.out _ _ hrm).mono ?_; rintro e w5 ⟨rfl, hb5⟩; have hW5 := bt hW4 hb5; have d0 := kc hb5 d0; have d1 := kc hb5 d1; have d2 := kc hb5 d2; have q0 := kc hb5 (Live.fresh w4 #[.int .i64 0, .int .i64 0] 25 0 _ rfl).1; have q1 := kc hb5 (Live.fresh w4 #[.int .i64 0, .int .i64 0] 25 1 _ rfl).1))
  have hrm5 := hrm.keep hb5
  have e0 := kc hb5 e0
  have e1 := kc hb5 e1
  have e2 := kc hb5 e2
  have e3 := kc hb5 e3
  have g0 := fun x : Grown w5 => x.cell d0
  have g1 := fun x : Grown w5 => x.cell d1
  have g2 := fun x : Grown w5 => x.cell d2
  have g3 := fun x : Grown w5 => x.cell q0
  have g4 := fun x : Grown w5 => x.cell q1
  have kck2 : ∀ x : Grown w5, Calls Tryz.prog 22 #[.agg #[.string vt, .int .i64 vs, .slice av n cap]] x.wd fun e w'' => e = .returned (.agg #[.int .i64 0, .int .i64 0]) ∧ Below x.wd.heap.size x.wd w'' := fun x => KCK.out _ (bt hW5 x.bel)
  have KCK2 := Lib.hid kck2
  have HRM5 := Lib.hid hrm5
  clear kck2 hrm5
  refine wp_region_grown (by kernel_rfl) (by kernel_rfl) ?_
  repeat (first | go_big_quiet_step ((first | (go_at_call 14; with_reducible exact Calls.grown_of (KF.out _ _ _)) | (go_at_call 22; exact Calls.grown_of (KCK2.out _)))) | quiet_step ((first | (go_at_call 14; with_reducible exact Calls.grown_of (KF.out _ _ _)) | (go_at_call 22; exact Calls.grown_of (KCK2.out _)))))
  refine wpQuiet_nil ?_
  intro _ hw'
  obtain ⟨xg, rfl⟩ := hw'
  have hbg := xg.bel
  have hW6 := bt hW5 hbg
  have e0 := kc hbg e0
  have e1 := kc hbg e1
  have e2 := kc hbg e2
  have e3 := kc hbg e3
  have hrm6 := HRM5.out.keep hbg
  clear g0 g1 g2 g3 g4 kN kG hbg KCK2
  generalize xg.wd = W6 at *
  clear xg d0 d1 d2 q0 q1
  have hT6 := hT.bel hW6
  have HRM6 := Lib.hid hrm6
  clear hrm6
  go_wp2_with (first
    | (go_at_call 24; refine (KR.out _).mono ?_; rintro e w7 ⟨r, rfl, hr, hi7, hb7⟩)
    | (go_at_call 23; refine (KP.out _ hT6 _ _ hr hi7 hb7).mono ?_; rintro e w8 ⟨hb8, v8, rfl, hrow8⟩; have hr80 := hrow8; obtain ⟨a8, c8, rfl, hc8⟩ := hrow8))
  have hb9 := bal hb8 (.cells #[.string vt, .int .i64 7, .slice a8 n c8] 37)
  have hbq := bal (Below.refl w8.heap.size w8) (.cells #[.string vt, .int .i64 7, .slice a8 n c8] 37)
  have f0 := (Live.fresh w8 #[.string vt, .int .i64 7, .slice a8 n c8] 37 0 _ rfl).1
  have f1 := (Live.fresh w8 #[.string vt, .int .i64 7, .slice a8 n c8] 37 1 _ rfl).1
  have f2 := (Live.fresh w8 #[.string vt, .int .i64 7, .slice a8 n c8] 37 2 _ rfl).1
  have e0 := kc hb9 e0
  have e1 := kc hb9 e1
  have e2 := kc hb9 e2
  have e3 := kc hb9 e3
  have hr8 := hr80.keep hbq
  have hrm9 := HRM6.out.keep hb9
  have hc9 : ∀ (j : Nat) (x : Value), (ntcells NS)[j]? = some x → ∃ g o, a8 = some ⟨g, o, none⟩ ∧ (w8.alloc (.cells #[.string vt, .int .i64 7, .slice a8 n c8] 37)).cell? ⟨g, o + j, none⟩ = some x := fun j x hj => by
    obtain ⟨g, o, q1, q2⟩ := hc8 j x hj
    exact ⟨g, o, q1, kc hbq q2⟩
  have hW9 := bt hW6 hb9
  obtain ⟨W9, h9⟩ : ∃ W9, W9 = w8.alloc (.cells #[.string vt, .int .i64 7, .slice a8 n c8] 37) := ⟨_, rfl⟩
  rw [← h9] at f0 f1 f2 e0 e1 e2 e3 hr8 hrm9 hc9 hW9 ⊢
  clear h9 hb9 hbq hc8 hr80
  have HR8 := Lib.hid hr8
  have HRM9 := Lib.hid hrm9
  have HC9 := Lib.hid hc9
  have HW9 := Lib.hid hW9
  clear hr8 hrm9 hc9 hW9
  go_region_held3 (fun w' => w'.cell? ⟨w8.heap.size, 0, none⟩ = some (.string vt) ∧ w'.cell? ⟨w8.heap.size, 1, none⟩ = some (.int .i64 7) ∧ w'.cell? ⟨w8.heap.size, 2, none⟩ = some (.slice a8 n c8) ∧ w'.cell? ⟨w3.heap.size, 0, none⟩ = some (.string ⟨#[]⟩) ∧ w'.cell? ⟨w3.heap.size, 1, none⟩ = some (.string vt) ∧ w'.cell? ⟨w3.heap.size, 2, none⟩ = some (.int .i64 vs) ∧ w'.cell? ⟨w3.heap.size, 3, none⟩ = some (.slice am n cm))
    (first | exact ⟨kc hb11 f0, kc hb11 f1, kc hb11 f2, kc hb11 e0, kc hb11 e1, kc hb11 e2, kc hb11 e3⟩ | exact ⟨kc hb10 f0, kc hb10 f1, kc hb10 f2, kc hb10 e0, kc hb10 e1, kc hb10 e2, kc hb10 e3⟩ | go_keep)
    (first
      | (go_at_call 19; refine (KOF2.out _ _ (HR8.out.keep (Below.refl _ _).drew)).mono ?_; rintro e w10 ⟨v10, rfl, hr10, hb10'⟩; have hb10 := bt (Below.refl W9.heap.size W9).drew hb10')
      | (go_at_call 25; refine (KSA.out _ _ _ hr10 (HRM9.out.keep hb10)).mono ?_; rintro e w11 ⟨rfl, hb11'⟩; have hb11 := bt hb10 hb11'))
  have f0 := kc hb11 f0
  have f1 := kc hb11 f1
  have f2 := kc hb11 f2
  have e0 := kc hb11 e0
  have e1 := kc hb11 e1
  have e2 := kc hb11 e2
  have e3 := kc hb11 e3
  have hW11 := bt HW9.out hb11
  have hrm11 := HRM9.out.keep hb11
  have HRM11 := Lib.hid hrm11
  have HW11 := Lib.hid hW11
  clear hrm11 hW11
  go_wp2_with fail
  go_loopw [81] (fun iv wr => ∃ k : Nat, iv = .int .i64 (k : Int) ∧ k ≤ n ∧ Below w11.heap.size w11 wr) (fun iv _ => n - (intOf iv).toNat)
  case atStart => exact ⟨0, rfl, Nat.zero_le _, Below.refl _ _⟩
  case round =>
    obtain ⟨k, rfl, hk, hbel⟩ := hrel
    have hW12 := bt HW11.out hbel
    by_cases hlk : k < n
    · obtain ⟨x, hx⟩ := at_some NS k (by rw [HML.out]; exact hlk)
      obtain ⟨g', o, rfl, d0, d1, d2⟩ := nt_at HC9.out k x hx
      have d0 := kc hbel (kc hb11 d0)
      have d1 := kc hbel (kc hb11 d1)
      have d2 := kc hbel (kc hb11 d2)
      have h7 := HSET.out k x hx
      rw [h7] at d2
      have hba := bal hbel (.cells #[.string x.name, .string x.text, .int .i64 7] 58)
      have HBA := Lib.hid hba
      have HW12 := Lib.hid hW12
      clear hba hW12
      clear hx h7
      go_wp2_with fail
      exact ⟨⟨k + 1, by go_num, by omega, HBA.out⟩, by simp [intOf]; omega⟩
    · have m1 : ¬ (k : Int) < (n : Int) := by omega
      have e0 := kc hbel e0
      have e1 := kc hbel e1
      have e2 := kc hbel e2
      have e3 := kc hbel e3
      have hrm12 := HRM11.out.keep hbel
      have hT12 := hT.bel hW12
      have HRM12 := Lib.hid hrm12
      have HT12 := Lib.hid hT12
      have HW12 := Lib.hid hW12
      clear hrm12 hT12 hW12
      clear f0 f1 f2
      go_wp2_with (first
        | (go_at_call 18; refine (KA.out _ HT12.out).mono ?_; rintro e w13 ⟨rfl, hb13⟩; have e0 := kc hb13 e0; have e1 := kc hb13 e1; have e2 := kc hb13 e2; have e3 := kc hb13 e3)
        | (go_at_call 26; refine (KRP.out _ _ (HRM12.out.keep hb13)).mono ?_; rintro e w14 ⟨rfl, hb14⟩))
      go_ret
      exact ⟨rfl, bt (bt HW12.out hb13) hb14⟩
set_option maxRecDepth 100000 in
set_option maxHeartbeats 8000000 in
theorem walk_bad (v : Value) (b : Bk) (fr : Bool) (fb : Int) (g : Bool) (w0 : okBk b) (w2 : (Lit.int .i64 fb).wf = true) (w : World) (R0 : Row w v b.ns.length (ntcells b.ns)) (hT : TW w) (hlt : lightM b = true) (hce : ¬ (checkM b).1 = 0) :
    Calls Tryz.prog 4 #[.agg #[.string b.vt, .int .i64 b.vs, v], .bool fr, .int .i64 fb, .bool g] w fun e w' => e = .returned (.bool true) ∧ Below w.heap.size w w' := by
  have KA := Lib.hid awake19in_any
  have hrow := R0
  have k1 : ∀ w', Below w.heap.size w w' → Calls Tryz.prog 17 #[.agg #[.string b.vt, .int .i64 b.vs, v]] w' fun e w'' => e = .returned (.bool (lightM b)) ∧ Below w'.heap.size w' w'' := fun w' hb => light_any v b w' (R0.keep hb) w0
  obtain ⟨av, cap, rfl, hc⟩ := R0
  rw [hlt] at k1
  obtain ⟨s1, s2, s3, s4⟩ := light_sm hlt
  have hsp := print_small fr b s2 s3 s4
  have kof : ∀ w', Below w.heap.size w w' → Calls Tryz.prog 19 #[.agg #[.string b.vt, .int .i64 b.vs, .slice av b.ns.length cap]] w' fun e w'' => ∃ v', e = .returned (.agg #[.string ⟨#[]⟩, .string b.vt, .int .i64 b.vs, v']) ∧ w''.ownsRow w'.heap.size 40 3 v' b.ns.length (ntcells b.ns) ∧ Below w'.heap.size w' w'' := fun w' hb => lof_any _ b w' (hrow.keep hb) s1 (by omega)
  have kpr : ∀ w', Below w.heap.size w w' → Calls Tryz.prog 20 #[.agg #[.string b.vt, .int .i64 b.vs, .slice av b.ns.length cap], .bool fr] w' (PrintPost fr b w') := fun w' hb => cprint_any _ b fr w' (hT.bel hb) (hrow.keep hb) s1 (by omega) (by omega)
  have krc : ∀ w' v', Row w' v' b.ns.length (ntcells b.ns) → Calls Tryz.prog 21 #[.agg #[.string ⟨#[]⟩, .string b.vt, .int .i64 b.vs, v']] w' fun e w'' => e = .returned (.tuple #[.int .i64 (checkM b).1, .int .i64 (checkM b).2]) ∧ Below w'.heap.size w' w'' := fun w' v' hr => rcheck_any v' b w' hr s1
  have kck : ∀ w', Below w.heap.size w w' → Calls Tryz.prog 22 #[.agg #[.string b.vt, .int .i64 b.vs, .slice av b.ns.length cap]] w' fun e w'' => e = .returned (.agg #[.int .i64 (checkM b).1, .int .i64 (checkM b).2]) ∧ Below w'.heap.size w' w'' := fun w' hb => ccheck_any _ b w' (hT.bel hb) (hrow.keep hb) s1
  unfold PrintPost at kpr
  rw [if_neg hce] at kpr
  obtain ⟨vt, vs, ns⟩ := b
  simp only at k1 kof kpr krc kck ⊢
  generalize checkM ⟨vt, vs, ns⟩ = C at *
  obtain ⟨ce, ca⟩ := C
  simp only at hce kpr krc kck
  obtain ⟨n, hn⟩ : ∃ n, n = ns.length := ⟨_, rfl⟩
  rw [← hn] at k1 kof kpr krc kck ⊢
  obtain ⟨W, hW⟩ : ∃ W, W = w.alloc (.cells #[.string vt, .int .i64 vs, .slice av n cap] 37) := ⟨_, rfl⟩
  have hbW : Below w.heap.size w W := by rw [hW]; exact bal (Below.refl _ _) _
  have lc : ∀ (i : Nat) (u : Value), (#[.string vt, .int .i64 vs, .slice av n cap] : Array Value)[i]? = some u → W.cell? ⟨w.heap.size, i, none⟩ = some u := by
    intro i u hu; rw [hW]; exact (Live.fresh w _ 37 i u hu).1
  have c0 := lc 0 _ rfl
  have c1 := lc 1 _ rfl
  have c2 := lc 2 _ rfl
  have hTW := hT.bel hbW
  have kN : ∀ w, (binOp .neq 25 (.agg #[.int .i64 ce, .int .i64 ca]) (.agg #[.int .i64 ce, .int .i64 ca])).run Tryz.prog w = .ok (.bool false) w := fun w => by have := neqFault ce ca ce ca w; simpa using this
  have kG := fun x y w => guardFault .neq x y #[.int .i64 ce, .int .i64 ca] #[.int .i64 ce, .int .i64 ca] w
  have hcb : (ce != 0) = true := by simpa using hce
  have KF := Lib.hid fault_any
  clear lc w0 hrow hlt s1 s2 s3 s4 hsp
  have K1 := Lib.hid k1
  have KOF := Lib.hid kof
  have KPR := Lib.hid kpr
  have KRC := Lib.hid krc
  have KCK := Lib.hid kck
  have HBW := Lib.hid hbW
  have HTW := Lib.hid hTW
  have HC := Lib.hid hc
  have HN := Lib.hid hn
  clear k1 kof kpr krc kck hbW hTW hc hn
  go_enter Tryz.func4, Tryz.ntmps4
  go_wp2_with fail
  rw [← hW]
  clear hW
  go_wp2_with (first
    | (go_at_call 17; refine (K1.out _ HBW.out).mono ?_; rintro e w2 ⟨rfl, hb2⟩; have d0 := kc hb2 c0; have d1 := kc hb2 c1; have d2 := kc hb2 c2; have hW2 := HBW.out.trans (hb2.mono HBW.out.size))
    | (go_at_call 19; refine (KOF.out _ hW2).mono ?_; rintro e w3 ⟨vm, rfl, hom, hb3⟩; obtain ⟨am, cm, rfl⟩ := orow_form hom; have hb3a := bal hb3 (.cells #[.string ⟨#[]⟩, .string vt, .int .i64 vs, .slice am n cm] 43); have hrm := (row_owns hom).keep (bal (Below.refl w3.heap.size w3) (.cells #[.string ⟨#[]⟩, .string vt, .int .i64 vs, .slice am n cm] 43)); have d0 := kc hb3a d0; have d1 := kc hb3a d1; have d2 := kc hb3a d2; have hW3 := bt hW2 hb3a)
    | (go_at_call 20; refine (KPR.out _ hW3).mono ?_; rintro e w4 ⟨rfl, hb4⟩; have hb4a := bal hb4 (.cells #[.int .i64 ce, .int .i64 ca] 25); have hrm := hrm.keep hb4a; have hW4 := bt hW3 hb4a; have d0 := kc hb4a d0; have d1 := kc hb4a d1; have d2 := kc hb4a d2; have e0 := kc hb4a (Live.fresh w3 #[.string ⟨#[]⟩, .string vt, .int .i64 vs, .slice am n cm] 43 0 _ rfl).1; have e1 := kc hb4a (Live.fresh w3 #[.string ⟨#[]⟩, .string vt, .int .i64 vs, .slice am n cm] 43 1 _ rfl).1; have e2 := kc hb4a (Live.fresh w3 #[.string ⟨#[]⟩, .string vt, .int .i64 vs, .slice am n cm] 43 2 _ rfl).1; have e3 := kc hb4a (Live.fresh w3 #[.string ⟨#[]⟩, .string vt, .int .i64 vs, .slice am n cm] 43 3 _ rfl).1)
    | (go_at_call 21; refine (KRC.out _ _ hrm).mono ?_; rintro e w5 ⟨rfl, hb5⟩; have hW5 := bt hW4 hb5; have d0 := kc hb5 d0; have d1 := kc hb5 d1; have d2 := kc hb5 d2; have q0 := kc hb5 (Live.fresh w4 #[.int .i64 ce, .int .i64 ca] 25 0 _ rfl).1; have q1 := kc hb5 (Live.fresh w4 #[.int .i64 ce, .int .i64 ca] 25 1 _ rfl).1))
  have g0 := fun x : Grown w5 => x.cell d0
  have g1 := fun x : Grown w5 => x.cell d1
  have g2 := fun x : Grown w5 => x.cell d2
  have g3 := fun x : Grown w5 => x.cell q0
  have g4 := fun x : Grown w5 => x.cell q1
  have kck2 : ∀ x : Grown w5, Calls Tryz.prog 22 #[.agg #[.string vt, .int .i64 vs, .slice av n cap]] x.wd fun e w'' => e = .returned (.agg #[.int .i64 ce, .int .i64 ca]) ∧ Below x.wd.heap.size x.wd w'' := fun x => KCK.out _ (bt hW5 x.bel)
  have KCK2 := Lib.hid kck2
  clear kck2
  refine wp_region_grown (by kernel_rfl) (by kernel_rfl) ?_
  repeat (first | go_big_quiet_step ((first | (go_at_call 14; with_reducible exact Calls.grown_of (KF.out _ _ _)) | (go_at_call 22; exact Calls.grown_of (KCK2.out _)))) | quiet_step ((first | (go_at_call 14; with_reducible exact Calls.grown_of (KF.out _ _ _)) | (go_at_call 22; exact Calls.grown_of (KCK2.out _)))))
  refine wpQuiet_nil ?_
  intro _ hw'
  obtain ⟨xg, rfl⟩ := hw'
  have hW6 := bt hW5 xg.bel
  clear g0 g1 g2 g3 g4 kN kG
  generalize xg.wd = W6 at *
  clear xg KCK2
  go_wp2_with (go_at_call 18; refine (KA.out _ (hT.bel hW6)).mono ?_; rintro e w7 ⟨rfl, hb7⟩)
  go_ret
  exact ⟨rfl, bt hW6 hb7⟩
theorem walk (v : Value) (b : Bk) (fr : Bool) (fb : Int) (g : Bool) (w0 : okBk b) (w2 : (Lit.int .i64 fb).wf = true) (w : World) (R0 : Row w v b.ns.length (ntcells b.ns)) (hT : TW w) :
    Calls Tryz.prog 4 #[.agg #[.string b.vt, .int .i64 b.vs, v], .bool fr, .int .i64 fb, .bool g] w fun e w' => e = .returned (.bool true) ∧ Below w.heap.size w w' := by
  cases hlt : lightM b with
  | false => exact walk_dark v b fr fb g w0 w2 w R0 hT hlt
  | true =>
    by_cases hce : (checkM b).1 = 0
    · exact walk_good v b fr fb g w0 w2 w R0 hT hlt hce
    · exact walk_bad v b fr fb g w0 w2 w R0 hT hlt hce

set_option maxRecDepth 100000 in
theorem lifted (os : Os) (started : os.Started) (H : Type) (enc : TypeId × Value → H) :
    ReturnsInHanded {} Tryz.checked os 4 .any (fun w args => (Rows.commentPrintsSpec.pre enc Tryz.prog Tryz.f4 Rows.commentPrintsRow.domain false w args ∧ laidMetH Tryz.prog laid3 w) ∧ sizedMet enc Tryz.prog Tryz.f4 (OpenSpec.ofChange Rows.commentPrintsSpec) false w args) (Rows.commentPrintsSpec.post enc Tryz.prog Tryz.f4 false true false false) := by
  refine handed_laid_shaped (C := Tryz.checked) (X := fun w => laidMetH Tryz.prog laid3 w) (fun _ _ hh h => h.of_heap hh) own started (by kernel_rfl) Tryz.func4
    (ChangeSpec.witness_shaped (enc := enc) (C := Tryz.checked) (os := os) (X := fun w _ => laidMetH Tryz.prog laid3 w) false (World.laidAll Tryz.prog os laid3) #[.agg #[.string ByteArray.empty, .int .i64 0, .slice none 0 0], .bool false, .int .i64 0, .bool false] 8 (World.laidAll_os _ _ _) (laid_shaped os _) (by kernel_rfl) (by kernel_rfl) (by kernel_rfl) (laid_met os _)) ?_
  intro W base args ds gs before hval0 hW hL hsh
  have hT := tw_of_laid hL hsh
  have hval : ∀ (j : Nat) t v, Tryz.f4.params[j]? = some t → args[j]? = some v → Value.okWide Tryz.prog W .any base t v := hval0
  have hW' := hW
  obtain ⟨p, q, hA0, hV, rfl, hfz, hnd⟩ := hW
  have hA : DataW.TrodAll enc Tryz.prog W 0 (fun _ => true) true Tryz.f4.params.toList args.toList ds p := hA0
  rw [Tryz.params4] at hA hval
  obtain ⟨v0, vs0, d0, ds0, p0, q0, hargs, rfl, rfl, h0, r0⟩ := trodAll_cons hA
  obtain ⟨v1, vs1, d1, ds1, p1, q1, rfl, rfl, rfl, h1, r1⟩ := trodAll_cons r0
  obtain ⟨v2, vs2, d2, ds2, p2, q2, rfl, rfl, rfl, h2, r2⟩ := trodAll_cons r1
  obtain ⟨v3, vs3, d3, ds3, p3, q3, rfl, rfl, rfl, h3, r3⟩ := trodAll_cons r2
  obtain ⟨rfl, rfl, rfl⟩ := trodAll_nil r3
  obtain rfl : args = #[v0, v1, v2, v3] := by cases args; simp_all
  obtain ⟨rfl, rfl⟩ := trodVars_none hV
  have h0k := h0
  obtain ⟨a0, ⟨s0, rfl, R0⟩, w0⟩ := open_block (hval 0 37 v0 rfl rfl) h0
  obtain ⟨a1, rfl, rfl, rfl⟩ := open_bool Tryz.underlying4 (hval 1 4 v1 rfl rfl) h1
  obtain ⟨a2, rfl, rfl, rfl, w2⟩ := open_int Tryz.underlying3 (hval 2 3 v2 rfl rfl) h2
  obtain ⟨a3, rfl, rfl, rfl⟩ := open_bool Tryz.underlying4 (hval 3 4 v3 rfl rfl) h3
  clear hA0 hval0
  simp only [List.append_nil] at hW'
  refine (walk s0 a0 a1 a2 a3 w0 w2 W R0 hT).mono fun e W' ⟨he, hg⟩ => ?_
  subst he
  have T0 := Below.trod (W' := W') (by kernel_rfl) (by kernel_rfl) (of_decide_eq_true (by kernel_rfl)) h0k hg (fun x hx => by simpa using hW'.lt x (by simp [hx]))
  exact ⟨_, rfl, post_below (pa := _) (pv := []) hW' (trodAll_cons_mk (shut_bool Tryz.underlying4 _) trodAll_mk0) (trodAll_cons_mk T0 (trodAll_cons_mk (shut_bool Tryz.underlying4 a1) (trodAll_cons_mk (shut_int Tryz.underlying3 w2) (trodAll_cons_mk (shut_bool Tryz.underlying4 a3) trodAll_mk0)))) rfl hg⟩

theorem over : Rows.commentPrintsRow.holds Tryz.pinned (OpenSpec.ofChange Rows.commentPrintsSpec) :=
  OpenClaim.holds_of_wide 4 Tryz.f4 rfl rfl rfl rfl rfl rfl rfl ⟨rfl, rfl, rfl, rfl, rfl⟩ rfl rfl rfl rfl rfl k_named Tryz.func4 k_joined (of_decide_eq_true (by kernel_rfl)) k_wrap
    (fun os started H enc _ => lifted os started H enc)

/-- THE STATEMENT: the tied card -/
theorem proved : Rows.CommentPrintsCardSaid :=
  Claim7.holds_tied_plain_at .later [] [.data, .data, .pinned] true Rows.commentPrintsCard.stood.harness Rows.commentPrintsCard.stood.looks over (fun _ h => by cases h) k_wf (fun _ h => by cases h) commentPrints_row_tie rfl ⟨rfl, rfl⟩ k_main rfl
    (fun f fn hf hfn => by
      obtain rfl : f = 4 := Option.some.inj (k_named.symm.trans hf) |>.symm
      obtain rfl : fn = Tryz.f4 := (Option.some.inj (Tryz.func4.symm.trans hfn)).symm
      exact ⟨k_looks, fun j t ht => by
        rw [Tryz.params4] at ht
        have hm : t ∈ [37, 4, 3, 4] := by simpa using Array.mem_of_getElem? ht
        exact (show Tryz.prog.wantsStandIn t = false by simpa using List.all_eq_true.1 k_stand t hm)⟩)
    k_goes
#print axioms proved
end Go.Proofs.YtmpndnebjahdjaaGreatDoor.commentPrints
