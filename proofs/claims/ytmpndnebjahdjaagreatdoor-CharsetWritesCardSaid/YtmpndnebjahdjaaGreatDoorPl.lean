/- Walks: charset.Encode of one byte a sign, of two, of Big5, of UTF-8; plain texts. -/
import Derived.Test.YtmpndnebjahdjaaGreatDoorE5
import Derived.Test.YtmpndnebjahdjaaGreatDoorCk
namespace Go.Proofs.YtmpndnebjahdjaaGreatDoor
open Go.RowKit
set_option linter.unusedVariables false
set_option linter.unusedSimpArgs false

theorem faultE_agg (o : Option Nat) : ∃ a b : Int, faultE o = .agg #[.int .i64 a, .int .i64 b] := by cases o <;> exact ⟨_, _, rfl⟩
/-- what encoders answer has this form. -/
theorem enc_form (s : Nat × Option Nat) (t : List UInt8 × Option Nat) : ∃ (u : List UInt8) (a b : Int), (match s.2 with
    | some k => (.tuple #[.string ⟨#[]⟩, faultV (some k)] : Value)
    | none => .tuple #[.string ⟨t.1.toArray⟩, faultE t.2]) = .tuple #[.string ⟨u.toArray⟩, .agg #[.int .i64 a, .int .i64 b]] := by
  rcases s with ⟨n, _ | k⟩
  · obtain ⟨a, b, h⟩ := faultE_agg t.2
    exact ⟨t.1, a, b, by simp only; rw [h]⟩
  · exact ⟨[], 2, k, rfl⟩
theorem encV_form (ls : Int → Option Int) (l : List UInt8) : ∃ (u : List UInt8) (a b : Int), encV ls l = .tuple #[.string ⟨u.toArray⟩, .agg #[.int .i64 a, .int .i64 b]] := enc_form (scanL l) (decT (tokE ls) l)
theorem encB_form (B : Int → List UInt8) (l : List UInt8) : ∃ (u : List UInt8) (a b : Int), encB B l = .tuple #[.string ⟨u.toArray⟩, .agg #[.int .i64 a, .int .i64 b]] := enc_form (scanL l) (decT (tokB B) l)
theorem enc5_form (l : List UInt8) : ∃ (u : List UInt8) (a b : Int), enc5 l = .tuple #[.string ⟨u.toArray⟩, .agg #[.int .i64 a, .int .i64 b]] := enc_form (scanL l) (decT tok5 l)
theorem encodeTwo_any (c : Int) (B : Int → List UInt8) (hBl : ∀ p, (B p).length ≤ 1024) (b : ByteArray) (hB : TellsB c B (bl b)) (w : World) (hT : TW w) (hb : b.size ≤ 1073741824) :
    Calls Tryz.prog 44 #[.int .i64 c, .string b] w (EncPost (encB B (bl b)) w) := by
  rcases hsc : scanL (bl b) with ⟨n, _ | k⟩
  · exact encodeTwo_good c B hBl b hB w hT hb n hsc
  · exact encodeTwo_bad c B b w hT hb n k hsc
theorem encode5_any (b : ByteArray) (w : World) (hT : TW w) (hb : b.size ≤ 1048576) : Calls Tryz.prog 45 #[.string b] w (EncPost (enc5 (bl b)) w) := by
  rcases hsc : scanL (bl b) with ⟨n, _ | k⟩
  · exact encode5_good b w hT hb n hsc
  · exact encode5_bad b w hT (by omega) n k hsc

set_option maxRecDepth 100000 in
set_option maxHeartbeats 8000000 in
theorem cencode_lo (c : Int) (b : ByteArray) (w : World) (hT : TW w) (hb : b.size ≤ 1073741824) (h0 : 0 ≤ c) (h1 : c ≤ 3) :
    Calls Tryz.prog 12 #[.int .i64 c, .string b] w (EncPost (encV (lsK (pairsM (setS c))) (bl b)) w) := by
  have k1 := fun w hT => of_any c w hT h0 h1
  have k2 := fun v B w hT hX => sencode_any v (setS c) B c b w hT hX (setS_good c) (set_len c) hb (set_bd c)
  obtain ⟨t, f0, f1, hf⟩ := encV_form (lsK (pairsM (setS c))) (bl b)
  rw [hf] at k2 ⊢
  clear hf
  have hb0 := bal (Below.refl w.heap.size w) (.cells #[.int .i64 0, .int .i64 0] 25)
  have l0 := Live.fresh w #[.int .i64 0, .int .i64 0] 25 0 _ rfl
  have l1 := Live.fresh w #[.int .i64 0, .int .i64 0] 25 1 _ rfl
  have K1 := Lib.hid k1
  have K2 := Lib.hid k2
  have HT := Lib.hid hT
  have HB0 := Lib.hid hb0
  have L0 := Lib.hid l0
  have L1 := Lib.hid l1
  clear k1 k2 hT hb0 l0 l1
  rcases (show c = 0 ∨ c = 1 ∨ c = 2 ∨ c = 3 from by omega) with rfl | rfl | rfl | rfl
  all_goals (
    go_enter Tryz.func12, Tryz.ntmps12
    go_wp2_with fail
    refine (K1.out _ (HT.out.bel HB0.out)).mono ?_
    rintro e w1 ⟨a1, c1, rfl, ht1, hb1⟩
    have n0 := (L0.out.keep hb1)
    have n1 := (L1.out.keep hb1)
    have hbw := bt HB0.out hb1
    have N0 := Lib.hid n0
    have N1 := Lib.hid n1
    have HBW := Lib.hid hbw
    have HT1 := Lib.hid ht1
    have HB1 := Lib.hid hb1
    clear n0 n1 hbw ht1 hb1
    go_wp2_with fail
    refine (K2.out _ _ _ ((HT.out.bel HBW.out).alloc _) (HT1.out.bel (bal (Below.refl _ _) _))).mono ?_
    rintro e w2 ⟨rfl, hb2⟩
    have hb12 := bt (bal (Below.refl w1.heap.size w1) _) hb2
    obtain ⟨a1, a2⟩ := N0.out.keep hb12
    obtain ⟨a3, a4⟩ := N1.out.keep hb12
    have hb02 := bt HBW.out hb12
    clear hb2 hb12
    have HB02 := Lib.hid hb02
    clear hb02
    go_wp2_with fail
    refine bodyPost_ret (v := .tuple #[.string ⟨t.toArray⟩, .agg #[.int .i64 f0, .int .i64 f1]]) (by simp [results, Tryz.results12, go_sem, a1, a2, a3, a4]) rfl ?_
    exact (show EncPost _ _ _ _ from ⟨rfl, (HB02.out.setCell (Nat.le_refl _) _).setCell (Nat.le_refl _) _⟩))
set_option maxRecDepth 100000 in
set_option maxHeartbeats 8000000 in
theorem cencode_two (c : Int) (B : Int → List UInt8) (hBl : ∀ p, (B p).length ≤ 1024) (b : ByteArray) (hB : TellsB c B (bl b)) (w : World) (hT : TW w) (hb : b.size ≤ 1073741824) (h0 : 4 ≤ c) (h1 : c ≤ 5) :
    Calls Tryz.prog 12 #[.int .i64 c, .string b] w (EncPost (encB B (bl b)) w) := by
  have k1 := fun w hT => encodeTwo_any c B hBl b hB w hT hb
  obtain ⟨t, f0, f1, hf⟩ := encB_form B (bl b)
  rw [hf] at k1 ⊢
  clear hf hB
  have hb0 := bal (Below.refl w.heap.size w) (.cells #[.int .i64 0, .int .i64 0] 25)
  have l0 := Live.fresh w #[.int .i64 0, .int .i64 0] 25 0 _ rfl
  have l1 := Live.fresh w #[.int .i64 0, .int .i64 0] 25 1 _ rfl
  have K1 := Lib.hid k1
  have HT := Lib.hid hT
  have HB0 := Lib.hid hb0
  have L0 := Lib.hid l0
  have L1 := Lib.hid l1
  clear k1 hT hb0 l0 l1
  clear hBl
  rcases (show c = 4 ∨ c = 5 from by omega) with rfl | rfl
  all_goals (
    go_enter Tryz.func12, Tryz.ntmps12
    go_wp2_with fail
    refine (K1.out _ (HT.out.bel HB0.out)).mono ?_
    rintro e w2 ⟨rfl, hb2⟩
    obtain ⟨a1, a2⟩ := L0.out.keep hb2
    obtain ⟨a3, a4⟩ := L1.out.keep hb2
    have hb02 := bt HB0.out hb2
    clear hb2
    have HB02 := Lib.hid hb02
    clear hb02
    go_wp2_with fail
    refine bodyPost_ret (v := .tuple #[.string ⟨t.toArray⟩, .agg #[.int .i64 f0, .int .i64 f1]]) (by simp [results, Tryz.results12, go_sem, a1, a2, a3, a4]) rfl ?_
    exact (show EncPost _ _ _ _ from ⟨rfl, (HB02.out.setCell (Nat.le_refl _) _).setCell (Nat.le_refl _) _⟩))
set_option maxRecDepth 100000 in
set_option maxHeartbeats 8000000 in
theorem cencode_big (b : ByteArray) (w : World) (hT : TW w) (hb : b.size ≤ 1048576) :
    Calls Tryz.prog 12 #[.int .i64 6, .string b] w (EncPost (enc5 (bl b)) w) := by
  have k1 := fun w hT => encode5_any b w hT hb
  obtain ⟨t, f0, f1, hf⟩ := enc5_form (bl b)
  rw [hf] at k1 ⊢
  clear hf
  have hb0 := bal (Below.refl w.heap.size w) (.cells #[.int .i64 0, .int .i64 0] 25)
  have l0 := Live.fresh w #[.int .i64 0, .int .i64 0] 25 0 _ rfl
  have l1 := Live.fresh w #[.int .i64 0, .int .i64 0] 25 1 _ rfl
  have K1 := Lib.hid k1
  have HT := Lib.hid hT
  have HB0 := Lib.hid hb0
  have L0 := Lib.hid l0
  have L1 := Lib.hid l1
  clear k1 hT hb0 l0 l1
  go_enter Tryz.func12, Tryz.ntmps12
  go_wp2_with fail
  refine (K1.out _ (HT.out.bel HB0.out)).mono ?_
  rintro e w2 ⟨rfl, hb2⟩
  obtain ⟨a1, a2⟩ := L0.out.keep hb2
  obtain ⟨a3, a4⟩ := L1.out.keep hb2
  have hb02 := bt HB0.out hb2
  clear hb2
  have HB02 := Lib.hid hb02
  clear hb02
  go_wp2_with fail
  refine bodyPost_ret (v := .tuple #[.string ⟨t.toArray⟩, .agg #[.int .i64 f0, .int .i64 f1]]) (by simp [results, Tryz.results12, go_sem, a1, a2, a3, a4]) rfl ?_
  exact (show EncPost _ _ _ _ from ⟨rfl, (HB02.out.setCell (Nat.le_refl _) _).setCell (Nat.le_refl _) _⟩)
/-- what Encode answers of UTF-8. -/
def encU (l : List UInt8) : Value := .tuple #[.string ⟨(decU l).1.toArray⟩, faultV (decU l).2]
set_option maxRecDepth 100000 in
set_option maxHeartbeats 8000000 in
theorem cencode_u (b : ByteArray) (w : World) (hT : TW w) (hb : b.size ≤ 1073741824) :
    Calls Tryz.prog 12 #[.int .i64 7, .string b] w (EncPost (encU (bl b)) w) := by
  have k1 := fun w hT => check_any b w hT (by omega)
  have k2 := fun a b w => bad_any a b w
  have hb0 := bal (Below.refl w.heap.size w) (.cells #[.int .i64 0, .int .i64 0] 25)
  have l0 := Live.fresh w #[.int .i64 0, .int .i64 0] 25 0 _ rfl
  have l1 := Live.fresh w #[.int .i64 0, .int .i64 0] 25 1 _ rfl
  unfold encU decU
  have hbb : (⟨(bl b).toArray⟩ : ByteArray) = b := mk_list b
  generalize (scanL (bl b)).2 = o at *
  have K1 := Lib.hid k1
  have K2 := Lib.hid k2
  have HB0 := Lib.hid hb0
  have L0 := Lib.hid l0
  have L1 := Lib.hid l1
  have HT := Lib.hid hT
  have HBB := Lib.hid hbb
  clear k1 k2 hb0 l0 l1 hT hbb
  cases o with
  | some k =>
    simp only [faultV] at K1 ⊢
    go_enter Tryz.func12, Tryz.ntmps12
    go_wp2_with fail
    refine (K1.out _ (HT.out.bel HB0.out)).mono ?_
    rintro e w1 ⟨rfl, hb1⟩
    go_wp2_with (go_at_call 16; refine (K2.out _ _ _).mono ?_; rintro e w2 ⟨rfl, hb2⟩)
    have q0 := (Live.fresh w1 #[.int .i64 2, .int .i64 k] 25 0 _ rfl).keep hb2
    have q1 := (Live.fresh w1 #[.int .i64 2, .int .i64 k] 25 1 _ rfl).keep hb2
    have p0 := ((L0.out.keep hb1).alloc (.cells #[.int .i64 2, .int .i64 k] 25)).keep hb2
    have p1 := ((L1.out.keep hb1).alloc (.cells #[.int .i64 2, .int .i64 k] 25)).keep hb2
    have hbw : Below w.heap.size w w2 := HB0.out.trans ((bt (bal (bt (Below.refl _ _) hb1) _) hb2).mono HB0.out.size)
    clear hb1 hb2
    have g0 := fun x : Grown w2 => x.cell q0.1
    have g1 := fun x : Grown w2 => x.cell q1.1
    refine wp_region_grown_tail 2 (by kernel_rfl) (by kernel_rfl) ?_
    simp only [List.take_succ_cons, List.take_zero, List.drop_succ_cons, List.drop_zero]
    repeat (first | go_big_quiet_step (fail) | quiet_step (fail))
    refine wpQuiet_nil ?_
    intro _ hw'
    obtain ⟨xg, rfl⟩ := hw'
    obtain ⟨a1, a2⟩ := p0.keep xg.bel
    obtain ⟨a3, a4⟩ := p1.keep xg.bel
    have hbx := hbw.trans (xg.bel.mono hbw.size)
    clear g0 g1
    generalize xg.wd = W at *
    go_wp2_with fail
    refine bodyPost_ret (v := .tuple #[.string ⟨#[]⟩, .agg #[.int .i64 2, .int .i64 k]]) (by simp [results, Tryz.results12, go_sem, a1, a2, a3, a4]) rfl ?_
    exact (show EncPost _ _ _ _ from ⟨rfl, (hbx.setCell (Nat.le_refl _) _).setCell (Nat.le_refl _) _⟩)
  | none =>
    simp only [faultV] at K1 ⊢
    rw [HBB.out]
    go_enter Tryz.func12, Tryz.ntmps12
    go_wp2_with fail
    refine (K1.out _ (HT.out.bel HB0.out)).mono ?_
    rintro e w1 ⟨rfl, hb1⟩
    go_wp2_with (go_at_call 16; refine (K2.out _ _ _).mono ?_; rintro e w2 ⟨rfl, hb2⟩; obtain ⟨a1, a2⟩ := ((L0.out.keep hb1).alloc (.cells #[.int .i64 0, .int .i64 0] 25)).keep hb2; obtain ⟨a3, a4⟩ := ((L1.out.keep hb1).alloc (.cells #[.int .i64 0, .int .i64 0] 25)).keep hb2)
    have hbw : Below w.heap.size w w2 := HB0.out.trans ((bt (bal (bt (Below.refl _ _) hb1) _) hb2).mono HB0.out.size)
    refine bodyPost_ret (v := .tuple #[.string b, .agg #[.int .i64 0, .int .i64 0]]) (by simp [results, Tryz.results12, go_sem, a1, a2, a3, a4]) rfl ?_
    exact (show EncPost _ _ _ _ from ⟨rfl, (hbw.setCell (Nat.le_refl _) _).setCell (Nat.le_refl _) _⟩)

/-! plain texts -/
def Plain (l : List UInt8) : Prop := ∀ x ∈ l, x.toNat < 128
theorem dec_plain (x : UInt8) (r : List UInt8) (h : x.toNat < 128) : dec (x :: r) = (x.toNat, 1) := by
  unfold dec Lib.decodeN
  simp [h]
theorem run_plain {tok : Tok} (ht : ∀ (x : UInt8) (r : List UInt8), x.toNat < 128 → tok (x :: r) = some ([x], 1)) : ∀ (l : List UInt8), Plain l → ∀ (f n : Nat) (acc : List UInt8), l.length ≤ f → runT tok f l n acc = (acc ++ l, none) := by
  intro l
  induction l with
  | nil => intro _ f n acc _; rw [runT_nil]; simp
  | cons x l ih =>
    intro hp f n acc hf
    rw [List.length_cons] at hf
    obtain ⟨f, rfl⟩ : ∃ g, f = g + 1 := ⟨f - 1, by omega⟩
    rw [runT_some f _ n acc _ _ (by simp) (ht x l (hp x (List.mem_cons_self ..)))]
    simp only [List.drop_succ_cons, List.drop_zero]
    rw [ih (fun y hy => hp y (List.mem_cons_of_mem _ hy)) f _ _ (by omega), List.append_assoc]
    rfl
theorem decT_plain {tok : Tok} (ht : ∀ (x : UInt8) (r : List UInt8), x.toNat < 128 → tok (x :: r) = some ([x], 1)) (l : List UInt8) (hp : Plain l) : decT tok l = (l, none) := by
  unfold decT
  rw [run_plain ht l hp _ _ _ (Nat.le_refl _)]
  simp
theorem scan_plain : ∀ (l : List UInt8), Plain l → ∀ (f at_ n : Nat), l.length ≤ f → scanF f l at_ n = (n + l.length, none) := by
  intro l
  induction l with
  | nil => intro _ f at_ n _; rw [scanF_nil]; rfl
  | cons x l ih =>
    intro hp f at_ n hf
    rw [List.length_cons] at hf
    obtain ⟨f, rfl⟩ : ∃ g, f = g + 1 := ⟨f - 1, by omega⟩
    have hx := hp x (List.mem_cons_self ..)
    have hb : badDec (x :: l) = false := by
      unfold badDec
      rw [dec_plain x l hx]
      simp only [Bool.and_eq_false_iff, decide_eq_false_iff_not]
      left; omega
    rw [scanF_step f _ at_ n (by simp) hb, dec_plain x l hx]
    simp only [List.drop_succ_cons, List.drop_zero]
    rw [ih (fun y hy => hp y (List.mem_cons_of_mem _ hy)) f _ _ (by omega)]
    simp only [List.length_cons, Prod.mk.injEq, and_true]; omega
theorem scanL_plain (l : List UInt8) (hp : Plain l) : scanL l = (l.length, none) := by
  unfold scanL
  rw [scan_plain l hp _ _ _ (Nat.le_refl _)]
  simp
theorem single_plain : (List.range 4).all (fun (c : Nat) => (fun KG => (List.range 128).all fun n => KG.1.getD n false && decide (KG.2.getD n 0 = (n : Int))) (kgM (setS (c : Int)))) = true := by decide +kernel
theorem least_plain : (List.range 4).all (fun (c : Nat) => (fun L => (List.range 128).all fun (n : Nat) => decide (lsK L (n : Int) = some (n : Int))) (pairsM (setS (c : Int)))) = true := by decide +kernel
theorem tokC_plain (c : Int) (h0 : 0 ≤ c) (h1 : c ≤ 7) (x : UInt8) (r : List UInt8) (h : x.toNat < 128) : tokC c (x :: r) = some ([x], 1) := by
  have hx8 : x < 128 := by rw [UInt8.lt_iff_toNat_lt]; exact h
  by_cases h3 : c ≤ 3
  · rw [tokC_lo c h3]
    obtain ⟨n, rfl⟩ := Int.eq_ofNat_of_zero_le h0
    have hp := List.all_eq_true.1 single_plain n (by simp; omega)
    have hq := List.all_eq_true.1 hp x.toNat (by simpa using h)
    rw [Bool.and_eq_true, decide_eq_true_eq] at hq
    simp only [tokS, sgS, if_pos hq.1, hq.2]
    have e : encR (x.toNat : Int) = [x] := by
      unfold encR Lib.encodeRune
      rw [Lib.encodeRuneZ_one (by omega) (by omega)]
      simp
    rw [e]; rfl
  · by_cases h6 : c ≤ 6
    · rw [tokC_two c (by omega) h6]
      unfold tok2
      cases r with
      | nil => simp [tokD, hx8]
      | cons y r => simp [tokD, hx8]
    · obtain rfl : c = 7 := by omega
      rw [tokC_u]
      have hb : badDec (x :: r) = false := by
        unfold badDec
        rw [dec_plain x r h]
        simp only [Bool.and_eq_false_iff, decide_eq_false_iff_not]
        left; omega
      unfold tokU
      rw [if_neg (by simp [hb]), dec_plain x r h]
      rfl
theorem cdecode_plain (c : Int) (b : ByteArray) (w : World) (hT : TW w) (hb : b.size ≤ 1048576) (h0 : 0 ≤ c) (h1 : c ≤ 7) (hp : Plain (bl b)) :
    Calls Tryz.prog 15 #[.int .i64 c, .string b] w fun e w' => e = .returned (.tuple #[.string b, .agg #[.int .i64 0, .int .i64 0]]) ∧ Below w.heap.size w w' := by
  have h := cdecode_any c b w hT (by omega)
  rw [decV_in c _ (by omega), decT_plain (tokC_plain c h0 h1) _ hp] at h
  simp only [faultV] at h
  rw [show (⟨(bl b).toArray⟩ : ByteArray) = b from mk_list b] at h
  exact h
theorem ofNat_toNat (x : UInt8) : UInt8.ofNat x.toNat = x := by simp
theorem tells_plain (c : Int) (l : List UInt8) (hp : Plain l) : TellsB c (fun _ => []) l := by
  intro k p w hk hd hp128
  exfalso
  rw [List.drop_eq_getElem_cons hk, dec_plain _ _ (hp _ (List.getElem_mem hk))] at hd
  have := hp _ (List.getElem_mem hk)
  simp only at hd
  omega
theorem cencode_plain (c : Int) (b : ByteArray) (w : World) (hT : TW w) (hb : b.size ≤ 1048576) (h0 : 0 ≤ c) (h1 : c ≤ 7) (hp : Plain (bl b)) :
    Calls Tryz.prog 12 #[.int .i64 c, .string b] w fun e w' => e = .returned (.tuple #[.string b, .agg #[.int .i64 0, .int .i64 0]]) ∧ Below w.heap.size w w' := by
  have hs := scanL_plain (bl b) hp
  have hbb : (⟨(bl b).toArray⟩ : ByteArray) = b := mk_list b
  by_cases h3 : c ≤ 3
  · have h := cencode_lo c b w hT (by omega) h0 h3
    have e : encV (lsK (pairsM (setS c))) (bl b) = .tuple #[.string b, .agg #[.int .i64 0, .int .i64 0]] := by
      unfold encV
      rw [hs, decT_plain _ _ hp]
      · simp only [faultE]
      · intro x r hx
        unfold tokE
        rw [dec_plain x r hx]
        obtain ⟨n, rfl⟩ := Int.eq_ofNat_of_zero_le h0
        have hq := List.all_eq_true.1 (List.all_eq_true.1 least_plain n (by simp; omega)) x.toNat (by simpa using hx)
        rw [decide_eq_true_eq] at hq
        simp only [hq, Option.map_some, Int.toNat_natCast, ofNat_toNat]
    rw [e] at h
    exact h
  · by_cases h5 : c ≤ 5
    · have h := cencode_two c (fun _ => []) (by simp) b (tells_plain c _ hp) w hT (by omega) (by omega) h5
      have e : encB (fun _ => []) (bl b) = .tuple #[.string b, .agg #[.int .i64 0, .int .i64 0]] := by
        unfold encB
        rw [hs, decT_plain _ _ hp]
        · simp only [faultE]
        · intro x r hx
          unfold tokB
          rw [dec_plain x r hx, if_pos hx, ofNat_toNat]
      rw [e] at h
      exact h
    · by_cases h6 : c = 6
      · subst h6
        have h := cencode_big b w hT hb
        have e : enc5 (bl b) = .tuple #[.string b, .agg #[.int .i64 0, .int .i64 0]] := by
          unfold enc5
          rw [hs, decT_plain _ _ hp]
          · simp only [faultE]
          · intro x r hx
            unfold tok5
            rw [dec_plain x r hx, if_pos hx, ofNat_toNat]
        rw [e] at h
        exact h
      · obtain rfl : c = 7 := by omega
        have h := cencode_u b w hT (by omega)
        have e : encU (bl b) = .tuple #[.string b, .agg #[.int .i64 0, .int .i64 0]] := by
          unfold encU decU
          rw [hs]
          simp only [faultV]
        rw [e] at h
        exact h
end Go.Proofs.YtmpndnebjahdjaaGreatDoor
