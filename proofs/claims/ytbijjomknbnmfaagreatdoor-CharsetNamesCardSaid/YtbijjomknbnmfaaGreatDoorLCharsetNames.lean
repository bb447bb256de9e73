/- CharsetNames holds: which charsets there are, their names, and the charset of any label, are the document's. No condition. -/
import Derived.Test.YtbijjomknbnmfaaGreatDoorFr
import Derived.Test.YtbijjomknbnmfaaGreatDoorTie
import Derived.Test.YtbijjomknbnmfaaGreatDoorCards
import Derived.Test.YtbijjomknbnmfaaGreatDoorKz
import Derived.Test.YtbijjomknbnmfaaGreatDoorKCharsetNames
import Derived.Test.YtbijjomknbnmfaaGreatDoorCk
import Derived.Test.YtbijjomknbnmfaaGreatDoorNa
namespace Go.Proofs.YtbijjomknbnmfaaGreatDoor.charsetNames
open Go.ChangeShapes Go.WideShapes Go.ChangeAt Go.RowKit Go.ChangeMaps
set_option linter.unusedVariables false
set_option linter.unusedSimpArgs false

/-- what stands at a label's place. -/
def upB (b : UInt8) : UInt8 := if 97 ≤ b.toNat ∧ b.toNat ≤ 122 then UInt8.ofNat (b.toNat - 32) else b
theorem lab_named : ∀ c : Fin 10, ∀ s ∈ labL (c.val : Nat), namedM (bl s) = some c.val ∧ namedM ((bl s).map upB) = some c.val := by decide +kernel
theorem lab_first : ∀ c : Fin 10, (labL (c.val : Nat))[0]? = some (nameM (c.val : Nat)) := by decide +kernel
theorem lab_find : ∀ c : Fin 10, ∀ s ∈ labL (c.val : Nat), (namesF.findIdx? fun x => decide (x = s)).map (· / 3) = some c.val := by decide +kernel
theorem lab_all : ∀ s ∈ namesF, s = ⟨#[]⟩ ∨ (List.range 10).any (fun (c : Nat) => (labL (c : Int)).any fun x => decide (x = s)) = true := by decide +kernel
theorem lab_ne : ∀ c : Fin 10, ∀ s ∈ labL (c.val : Nat), bl s ≠ [] := by decide +kernel
theorem lab_short : ∀ c : Fin 10, ∀ s ∈ labL (c.val : Nat), (bl s).length ≤ 20 := by decide +kernel
theorem ba_ext {a b : ByteArray} (h : bl a = bl b) : a = b := ByteArray.ext (Array.toList_inj.1 h)
theorem ref_named (l : List UInt8) : refNamed l = match namedM l with
    | some c => (c : Int)
    | none => -1 := by
  by_cases hex : ∃ c, c < 10 ∧ hasLab l c = true
  · -- the first such charset
    obtain ⟨c, hc, h⟩ := hex
    unfold hasLab at h
    rw [List.any_eq_true] at h
    obtain ⟨x, hx, he⟩ := h
    have he' : smallL l = bl x := by simpa using he
    have hxt : (⟨(smallL l).toArray⟩ : ByteArray) = x := by rw [he']
    have hne : l ≠ [] := by
      rintro rfl
      exact lab_ne ⟨c, hc⟩ x hx he'.symm
    have hn : namedM l = some c := by
      unfold namedM
      rw [if_neg hne, hxt]
      exact lab_find ⟨c, hc⟩ x hx
    have hr : refNamed l = c := by
      refine ref_hit l c hc (fun d hd => ?_) (by unfold hasLab; rw [List.any_eq_true]; exact ⟨x, hx, he⟩)
      cases hq : hasLab l d with
      | false => rfl
      | true =>
        exfalso
        unfold hasLab at hq
        rw [List.any_eq_true] at hq
        obtain ⟨y, hy, hey⟩ := hq
        have hey' : smallL l = bl y := by simpa using hey
        have hxy : x = y := ba_ext (he'.symm.trans hey')
        subst hxy
        have h1 := lab_find ⟨c, hc⟩ x hx
        have h2 := lab_find ⟨d, by omega⟩ x hy
        rw [h1] at h2
        simp only [Option.some.injEq] at h2
        omega
    rw [hn, hr]
  · have hno : ∀ d, d < 10 → hasLab l d = false := fun d hd => by
      cases h : hasLab l d with
      | false => rfl
      | true => exact absurd ⟨d, hd, h⟩ hex
    have hn : namedM l = none := by
      unfold namedM
      split
      · rfl
      · rename_i hne
        rw [Option.map_eq_none_iff, List.findIdx?_eq_none_iff]
        intro s hs
        simp only [decide_eq_false_iff_not]
        intro he
        rcases lab_all s hs with h | h
        · rw [h] at he
          have h5 := congrArg (fun z : ByteArray => (bl z).length) he
          simp only [smallL, List.length_map] at h5
          exact hne (List.eq_nil_of_length_eq_zero (by simpa [bl] using h5.symm))
        · rw [List.any_eq_true] at h
          obtain ⟨c, hc, h⟩ := h
          rw [List.any_eq_true] at h
          obtain ⟨x, hx, h⟩ := h
          have hxs : x = s := by simpa using h
          subst hxs
          have := hno c (by simpa using hc)
          unfold hasLab at this
          rw [List.any_eq_false] at this
          exact this x hx (by rw [he]; simp)
    rw [hn, ref_miss l hno]
set_option maxHeartbeats 4000000 in
theorem walk_long (c : Int) (s : ByteArray) (h : 100 < s.size) (w : World) (hT : TW w) :
    Calls Tryz.prog 4 #[.int .i64 c, .string s] w fun e w' => e = .returned (.bool true) ∧ Below w.heap.size w w' := by
  have KA := Lib.hid awake09in_any
  go_enter Tryz.func4, Tryz.ntmps4
  go_wp2_with (go_at_call 15; refine (KA.out _ hT).mono ?_; rintro e w1 ⟨rfl, hb1⟩)
  go_ret
  exact ⟨rfl, hb1⟩
set_option maxRecDepth 100000 in
set_option maxHeartbeats 8000000 in
theorem walk_out (c : Int) (s : ByteArray) (h : s.size ≤ 100) (hc : ¬ (0 ≤ c ∧ c ≤ 9)) (w : World) (hT : TW w) :
    Calls Tryz.prog 4 #[.int .i64 c, .string s] w fun e w' => e = .returned (.bool true) ∧ Below w.heap.size w w' := by
  have KA := Lib.hid awake09in_any
  have k1 := fun w => labels_out c w hc
  have k2 := fun w => right_any c w
  have k3 := fun w => legacy_any c w
  have k4 := fun w => name_any c w
  have k5 := fun w => named_any s w (by omega)
  have k6 := fun w => refNamed_any s w (by omega)
  rw [show decide (0 ≤ c ∧ c ≤ 9) = false by simpa using hc] at k2
  rw [show decide (0 ≤ c ∧ c ≤ 6) = false by simp; omega] at k3
  rw [show nameM c = ⟨#[110, 111, 110, 101]⟩ from if_neg hc] at k4
  rw [ref_named] at k6
  have K1 := Lib.hid k1
  have K2 := Lib.hid k2
  have K3 := Lib.hid k3
  have K4 := Lib.hid k4
  have K5 := Lib.hid k5
  have K6 := Lib.hid k6
  clear k1 k2 k3 k4 k5 k6
  rcases (show c < 0 ∨ 9 < c from by omega) with h0 | h0
  all_goals (
    clear hc
    go_enter Tryz.func4, Tryz.ntmps4
    go_wp2_with (first
      | (go_at_call 18; refine (K1.out _).mono ?_; rintro e w1 ⟨v, rfl, hrow, hb1⟩; obtain ⟨a, cap, rfl, _⟩ := hrow)
      | (go_at_call 19; refine (K2.out _).mono ?_; rintro e w2 ⟨rfl, hb2⟩)
      | (go_at_call 20; refine (K3.out _).mono ?_; rintro e w3 ⟨rfl, hb3⟩)
      | (go_at_call 21; refine (K4.out _).mono ?_; rintro e w4 ⟨rfl, hb4⟩))
    have hb04 := bt (bt (bt hb1 hb2) hb3) hb4
    go_loop [58] (fun iv => iv = .int .i64 (0 : Int)) (fun iv => 0 - (intOf iv).toNat)
    case atStart => rfl
    case round =>
      obtain rfl := hrel
      cases hn : namedM (bl s) with
      | some k =>
        have k5 : ∀ w, Calls Tryz.prog 22 #[.string s] w fun e w' => e = .returned (.tuple #[.int .i64 k, .bool true]) ∧ Below w.heap.size w w' := by
          intro w; have := K5.out w; rw [hn] at this; exact this
        have k6 : ∀ w, Calls Tryz.prog 23 #[.string s] w fun e w' => e = .returned (.int .i64 k) ∧ Below w.heap.size w w' := by
          intro w; have := K6.out w; rw [hn] at this; exact this
        have K5' := Lib.hid k5
        have K6' := Lib.hid k6
        clear k5 k6
        clear hn
        go_wp2_with (first
          | (go_at_call 22; refine (K5'.out _).mono ?_; rintro e w5 ⟨rfl, hb5⟩)
          | (go_at_call 23; refine (K6'.out _).mono ?_; rintro e w6 ⟨rfl, hb6⟩)
          | (go_at_call 15; refine (KA.out _ (hT.bel (bt (bt hb04 hb5) hb6))).mono ?_; rintro e w7 ⟨rfl, hb7⟩))
        go_ret
        exact ⟨rfl, bt (bt (bt hb04 hb5) hb6) hb7⟩
      | none =>
        have k5 : ∀ w, Calls Tryz.prog 22 #[.string s] w fun e w' => e = .returned (.tuple #[.int .i64 0, .bool false]) ∧ Below w.heap.size w w' := by
          intro w; have := K5.out w; rw [hn] at this; exact this
        have k6 : ∀ w, Calls Tryz.prog 23 #[.string s] w fun e w' => e = .returned (.int .i64 (-1)) ∧ Below w.heap.size w w' := by
          intro w; have := K6.out w; rw [hn] at this; exact this
        have K5' := Lib.hid k5
        have K6' := Lib.hid k6
        clear k5 k6
        clear hn
        go_wp2_with (first
          | (go_at_call 22; refine (K5'.out _).mono ?_; rintro e w5 ⟨rfl, hb5⟩)
          | (go_at_call 23; refine (K6'.out _).mono ?_; rintro e w6 ⟨rfl, hb6⟩)
          | (go_at_call 15; refine (KA.out _ (hT.bel (bt (bt hb04 hb5) hb6))).mono ?_; rintro e w7 ⟨rfl, hb7⟩))
        go_ret
        exact ⟨rfl, bt (bt (bt hb04 hb5) hb6) hb7⟩)
set_option maxRecDepth 100000 in
set_option maxHeartbeats 8000000 in
theorem walk_in (c : Nat) (s : ByteArray) (h : s.size ≤ 100) (hc : c < 10) (w : World) (hT : TW w) :
    Calls Tryz.prog 4 #[.int .i64 (c : Int), .string s] w fun e w' => e = .returned (.bool true) ∧ Below w.heap.size w w' := by
  have KA := Lib.hid awake09in_any
  have k1 := fun w => labels_in c w hc
  have k2 := fun w => right_any c w
  have k3 := fun w => legacy_any c w
  have k4 := fun w => name_any c w
  have k5 := fun w => named_any s w (by omega)
  have k6 := fun w => refNamed_any s w (by omega)
  rw [show decide (0 ≤ (c : Int) ∧ (c : Int) ≤ 9) = true by simp; omega] at k2
  obtain ⟨hl1, hl3⟩ := labL_len ⟨c, hc⟩
  have hfst := lab_first ⟨c, hc⟩
  have hnm := lab_named ⟨c, hc⟩
  simp only at hl1 hl3 hfst hnm
  rw [ref_named] at k6
  obtain ⟨n, hn⟩ : ∃ n, n = (labL (c : Int)).length := ⟨_, rfl⟩
  unfold LabPost at k1
  rw [← hn] at k1 hl1 hl3
  obtain ⟨N, hN⟩ : ∃ N, N = nameM (c : Int) := ⟨_, rfl⟩
  rw [← hN] at k4 hfst
  have hlen : (0 : Int) < n := by omega
  have hc0 : (0 : Int) ≤ c := by omega
  have kname : ∀ t : ByteArray, (bl t).length ≤ 1000 → namedM (bl t) = some c → ∀ w, Calls Tryz.prog 22 #[.string t] w fun e w' => e = .returned (.tuple #[.int .i64 c, .bool true]) ∧ Below w.heap.size w w' := by
    intro t ht h w
    have := named_any t w (by rw [bl_length] at ht; omega)
    rw [h] at this
    exact this
  have K1 := Lib.hid k1
  have K2 := Lib.hid k2
  have K4 := Lib.hid k4
  have K5 := Lib.hid k5
  have K6 := Lib.hid k6
  have HFST := Lib.hid hfst
  have HNM := Lib.hid hnm
  have HN := Lib.hid hn
  have HNN := Lib.hid hN
  have KNAME := Lib.hid kname
  clear k1 k2 k4 k5 k6 hfst hnm hn hN kname
  have hdn : decide (0 < n) = true := decide_eq_true hl1
  have hleg : ∀ w, Calls Tryz.prog 20 #[.int .i64 (c : Int)] w fun e w' => e = .returned (.bool (decide ((c : Int) ≤ 6))) ∧ Below w.heap.size w w' := by
    intro w
    have := k3 w
    rw [show decide (0 ≤ (c : Int) ∧ (c : Int) ≤ 6) = decide ((c : Int) ≤ 6) by simp] at this
    exact this
  have K3 := Lib.hid hleg
  clear hleg
  clear k3
  rcases (show (c : Int) ≤ 6 ∨ ¬ (c : Int) ≤ 6 from Decidable.em _) with h6 | h6
  all_goals (
    go_enter Tryz.func4, Tryz.ntmps4
    go_wp2_with (first
      | (go_at_call 18; refine (K1.out _).mono ?_; rintro e w1 ⟨v, rfl, hrow, hb1⟩; obtain ⟨g, o, cap, rfl, hcell⟩ := row_at hrow 0 (.string N) (by unfold scells; rw [List.getElem?_map, HFST.out]; rfl); rw [Nat.add_zero] at hcell)
      | (go_at_call 19; refine (K2.out _).mono ?_; rintro e w2 ⟨rfl, hb2⟩)
      | (go_at_call 20; refine (K3.out _).mono ?_; rintro e w3 ⟨rfl, hb3⟩)
      | (go_at_call 21; refine (K4.out _).mono ?_; rintro e w4 ⟨rfl, hb4⟩))
    have hb14 := bt (bt hb2 hb3) hb4
    have hb04 := bt hb1 hb14
    have hrow4 := hrow.keep hb14
    have HROW := Lib.hid hrow4
    have HB04 := Lib.hid hb04
    clear hrow4 hb04
    clear hrow hcell hb1 hb2 hb3 hb4 hb14
    go_loopw [58] (fun jv wr => ∃ j : Nat, jv = .int .i64 (j : Int) ∧ j ≤ n ∧ Below w4.heap.size w4 wr) (fun jv _ => n - (intOf jv).toNat)
    case atStart => exact ⟨0, rfl, Nat.zero_le _, Below.refl _ _⟩
    case round =>
      obtain ⟨j, rfl, hj, hbel⟩ := hrel
      by_cases hjn : j < n
      · obtain ⟨x, hx⟩ := at_some (labL (c : Int)) j (by rw [← HN.out]; exact hjn)
        obtain ⟨gb, ob, cb, he, hcell⟩ := row_at (HROW.out.keep hbel) j (.string x) (by unfold scells; rw [List.getElem?_map, hx]; rfl)
        simp only [Value.slice.injEq] at he
        obtain ⟨he1, _, rfl⟩ := he
        cases he1
        obtain ⟨nx1, nx2⟩ := HNM.out x (List.mem_of_getElem? hx)
        have hxs := lab_short ⟨c, hc⟩ x (List.mem_of_getElem? hx)
        have HXL : Hid ((bl x).length = x.size) := bl_length x
        have hxs' : x.size ≤ 20 := by rw [← HXL.out]; exact hxs
        have kx := KNAME.out x (by omega) nx1
        have ku := KNAME.out ⟨((bl x).map upB).toArray⟩ (by simp [bl] at hxs ⊢; omega) nx2
        have hbw := HB04.out.trans (hbel.mono HB04.out.size)
        have KX := Lib.hid kx
        have KU := Lib.hid ku
        have HBW := Lib.hid hbw
        clear kx ku hbw
        clear nx1 nx2 hx hxs
        go_wp2
        rename World => W6
        go_loopw [64, 10] (fun kv bv wr => ∃ k : Nat, kv = .int .i64 (k : Int) ∧ k ≤ x.size ∧ Own wr W6.heap.size bv (((bl x).take k).map upB) ∧ Below W6.heap.size W6 wr) (fun kv _ _ => x.size - (intOf kv).toNat)
        case atStart => exact ⟨0, rfl, Nat.zero_le _, by simpa using Own.nil W6 W6.heap.size, Below.refl _ _⟩
        case round =>
          obtain ⟨k, rfl, hk, hown, hbel2⟩ := hrel
          have hW6 := hbel2.size
          by_cases hkn : k < x.size
          · obtain ⟨d, hd⟩ := at_some (bl x) k (by rw [HXL.out]; exact hkn)
            have D : ∀ h, x[k]'h = d := atB_of x k d hd
            have hdl := d.toNat_lt
            have htk : ((bl x).take (k + 1)).map upB = ((bl x).take k).map upB ++ [upB d] := by rw [List.take_add_one, hd]; simp
            have hln : (((bl x).take k).map upB).length ≤ 20 := by rw [List.length_map, List.length_take]; omega
            generalize ((bl x).take k).map upB = acc at *
            have hbd : ((upB d).toNat : Int) = if 97 ≤ d.toNat ∧ d.toNat ≤ 122 then (d.toNat : Int) - 32 else d.toNat := by
              unfold upB
              split
              · rw [UInt8.toNat_ofNat']; omega
              · rfl
            generalize upB d = u at *
            have HTK := Lib.hid htk
            clear htk
            clear hd
            by_cases h1 : 97 ≤ d.toNat
            · by_cases h2 : d.toNat ≤ 122
              · rw [if_pos ⟨h1, h2⟩] at hbd
                have w2 : IntKind.u8.wrap ((d.toNat : Int) - 97) = (d.toNat : Int) - 97 := wraps_u8 _ (by omega) (by omega)
                have w3 : IntKind.u8.wrap ((d.toNat : Int) - 97 + 65) = (d.toNat : Int) - 32 := by rw [wraps_u8 _ (by omega) (by omega)]; omega
                rw [← hbd] at w3
                have HBD := Lib.hid hbd
                clear hbd
                go_wp2_with (at_builtin; go_loud (refine wpList_push rfl _ _ rfl wr W6.heap.size u10 acc u rfl hown rfl (by omega) hW6 ?_; intro v' w7 hown7 hb7))
                exact ⟨⟨k + 1, by first | omega | go_num, by omega, by rw [HTK.out]; exact hown7, hbel2.trans hb7⟩, by simp [intOf]; omega⟩
              · skip
                rw [if_neg (by omega)] at hbd
                obtain rfl : u = d := UInt8.toNat_inj.1 (by omega)
                clear hbd
                go_wp2_with (at_builtin; go_loud (refine wpList_push rfl _ _ rfl wr W6.heap.size u10 acc u rfl hown rfl (by omega) hW6 ?_; intro v' w7 hown7 hb7))
                exact ⟨⟨k + 1, by first | omega | go_num, by omega, by rw [HTK.out]; exact hown7, hbel2.trans hb7⟩, by simp [intOf]; omega⟩
            · skip
              rw [if_neg (by omega)] at hbd
              obtain rfl : u = d := UInt8.toNat_inj.1 (by omega)
              clear hbd
              go_wp2_with (at_builtin; go_loud (refine wpList_push rfl _ _ rfl wr W6.heap.size u10 acc u rfl hown rfl (by omega) hW6 ?_; intro v' w7 hown7 hb7))
              exact ⟨⟨k + 1, by first | omega | go_num, by omega, by rw [HTK.out]; exact hown7, hbel2.trans hb7⟩, by simp [intOf]; omega⟩
          · have hkx : k = x.size := by omega
            subst hkx
            rw [List.take_of_length_le (by rw [HXL.out]; exact Nat.le_refl _)] at hown
            have hbw7 := HBW.out.trans (hbel2.mono HBW.out.size)
            have hb67 := hbel.trans (hbel2.mono hbel.size)
            go_wp2_with (first
              | (go_at_call 22; (with_reducible refine (KX.out _).mono ?_); rintro e w8 ⟨rfl, hb8⟩; have hcv := conv_Own (hown.bel hb8))
              | (go_at_call 22; (with_reducible refine (KU.out _).mono ?_); rintro e w9 ⟨rfl, hb9⟩))
            exact ⟨⟨j + 1, by first | omega | go_num, by omega, (hb67.trans (hb8.mono hb67.size)).trans (hb9.mono (Nat.le_trans hb67.size hb8.size))⟩, by simp [intOf]; omega⟩
      · have hjn2 : j = n := by omega
        subst hjn2
        have hbw := HB04.out.trans (hbel.mono HB04.out.size)
        cases hn : namedM (bl s) with
        | some k =>
          have k5 : ∀ w, Calls Tryz.prog 22 #[.string s] w fun e w' => e = .returned (.tuple #[.int .i64 k, .bool true]) ∧ Below w.heap.size w w' := by
            intro w; have := K5.out w; rw [hn] at this; exact this
          have k6 : ∀ w, Calls Tryz.prog 23 #[.string s] w fun e w' => e = .returned (.int .i64 k) ∧ Below w.heap.size w w' := by
            intro w; have := K6.out w; rw [hn] at this; exact this
          have K5' := Lib.hid k5
          have K6' := Lib.hid k6
          clear k5 k6
          clear hn
          go_wp2_with (first
            | (go_at_call 22; refine (K5'.out _).mono ?_; rintro e w5 ⟨rfl, hb5⟩)
            | (go_at_call 23; refine (K6'.out _).mono ?_; rintro e w6 ⟨rfl, hb6⟩)
            | (go_at_call 15; refine (KA.out _ (hT.bel (bt (bt hbw hb5) hb6))).mono ?_; rintro e w7 ⟨rfl, hb7⟩))
          go_ret
          exact ⟨rfl, bt (bt (bt hbw hb5) hb6) hb7⟩
        | none =>
          have k5 : ∀ w, Calls Tryz.prog 22 #[.string s] w fun e w' => e = .returned (.tuple #[.int .i64 0, .bool false]) ∧ Below w.heap.size w w' := by
            intro w; have := K5.out w; rw [hn] at this; exact this
          have k6 : ∀ w, Calls Tryz.prog 23 #[.string s] w fun e w' => e = .returned (.int .i64 (-1)) ∧ Below w.heap.size w w' := by
            intro w; have := K6.out w; rw [hn] at this; exact this
          have K5' := Lib.hid k5
          have K6' := Lib.hid k6
          clear k5 k6
          clear hn
          go_wp2_with (first
            | (go_at_call 22; refine (K5'.out _).mono ?_; rintro e w5 ⟨rfl, hb5⟩)
            | (go_at_call 23; refine (K6'.out _).mono ?_; rintro e w6 ⟨rfl, hb6⟩)
            | (go_at_call 15; refine (KA.out _ (hT.bel (bt (bt hbw hb5) hb6))).mono ?_; rintro e w7 ⟨rfl, hb7⟩))
          go_ret
          exact ⟨rfl, bt (bt (bt hbw hb5) hb6) hb7⟩)
theorem walk (a0 : Int) (a1 : ByteArray) (w0 : (Lit.int .i64 a0).wf = true) (w1 : a1.size ≤ maxLen) (w : World) (hT : TW w) :
    Calls Tryz.prog 4 #[.int .i64 a0, .string a1] w fun e w' => e = .returned (.bool true) ∧ Below w.heap.size w w' := by
  by_cases h : 100 < a1.size
  · exact walk_long a0 a1 h w hT
  · by_cases hc : 0 ≤ a0 ∧ a0 ≤ 9
    · obtain ⟨k, rfl⟩ := Int.eq_ofNat_of_zero_le hc.1
      exact walk_in k a1 (by omega) (by omega) w hT
    · exact walk_out a0 a1 (by omega) hc w hT

set_option maxRecDepth 100000 in
theorem lifted (os : Os) (started : os.Started) (H : Type) (enc : TypeId × Value → H) :
    ReturnsInHanded {} Tryz.checked os 4 .any (fun w args => (Rows.charsetNamesSpec.pre enc Tryz.prog Tryz.f4 Rows.charsetNamesRow.domain false w args ∧ laidMetH Tryz.prog laid3 w) ∧ sizedMet enc Tryz.prog Tryz.f4 (OpenSpec.ofChange Rows.charsetNamesSpec) false w args) (Rows.charsetNamesSpec.post enc Tryz.prog Tryz.f4 false true false false) := by
  refine handed_laid_shaped (C := Tryz.checked) (X := fun w => laidMetH Tryz.prog laid3 w) (fun _ _ hh h => h.of_heap hh) own started (by kernel_rfl) Tryz.func4
    (ChangeSpec.witness_shaped (enc := enc) (C := Tryz.checked) (os := os) (X := fun w _ => laidMetH Tryz.prog laid3 w) false (World.laidAll Tryz.prog os laid3) #[.int .i64 0, .string ByteArray.empty] 8 (World.laidAll_os _ _ _) (laid_shaped os _) (by kernel_rfl) (by kernel_rfl) (by kernel_rfl) (laid_met os _)) ?_
  intro W base args ds gs before hval0 hW hL hsh
  have hT := tw_of_laid hL hsh
  have hval : ∀ (j : Nat) t v, Tryz.f4.params[j]? = some t → args[j]? = some v → Value.okWide Tryz.prog W .any base t v := hval0
  have hW' := hW
  obtain ⟨p, q, hA0, hV, rfl, hfz, hnd⟩ := hW
  have hA : DataW.TrodAll enc Tryz.prog W 0 (fun _ => true) true Tryz.f4.params.toList args.toList ds p := hA0
  rw [Tryz.params4] at hA hval
  obtain ⟨v0, vs0, d0, ds0, p0, q0, hargs, rfl, rfl, h0, r0⟩ := trodAll_cons hA
  obtain ⟨v1, vs1, d1, ds1, p1, q1, rfl, rfl, rfl, h1, r1⟩ := trodAll_cons r0
  obtain ⟨rfl, rfl, rfl⟩ := trodAll_nil r1
  obtain rfl : args = #[v0, v1] := by cases args; simp_all
  obtain ⟨rfl, rfl⟩ := trodVars_none hV
  obtain ⟨a0, rfl, rfl, rfl, w0⟩ := open_int Tryz.underlying3 (hval 0 3 v0 rfl rfl) h0
  obtain ⟨a1, rfl, rfl, rfl, w1⟩ := open_string Tryz.underlying9 (hval 1 9 v1 rfl rfl) h1
  clear hA0 hval0
  simp only [List.append_nil] at hW'
  refine (walk a0 a1 w0 w1 W hT).mono fun e W' ⟨he, hg⟩ => ?_
  subst he
  exact ⟨_, rfl, post_below (pa := []) (pv := []) hW' (trodAll_cons_mk (shut_bool Tryz.underlying4 _) trodAll_mk0) (trodAll_cons_mk (shut_int Tryz.underlying3 w0) (trodAll_cons_mk (shut_string Tryz.underlying9 w1) trodAll_mk0)) rfl hg⟩

theorem over : Rows.charsetNamesRow.holds Tryz.pinned (OpenSpec.ofChange Rows.charsetNamesSpec) :=
  OpenClaim.holds_of_wide 4 Tryz.f4 rfl rfl rfl rfl rfl rfl rfl ⟨rfl, rfl, rfl, rfl, rfl⟩ rfl rfl rfl rfl rfl k_named Tryz.func4 k_joined (of_decide_eq_true (by kernel_rfl)) k_wrap
    (fun os started H enc _ => lifted os started H enc)

/-- THE STATEMENT: the tied card -/
theorem proved : Rows.CharsetNamesCardSaid :=
  Claim7.holds_tied_plain_at .later [] [.data, .data, .pinned] true Rows.charsetNamesCard.stood.harness Rows.charsetNamesCard.stood.looks over (fun _ h => by cases h) k_wf (fun _ h => by cases h) charsetNames_row_tie rfl ⟨rfl, rfl⟩ k_main rfl
    (fun f fn hf hfn => by
      obtain rfl : f = 4 := Option.some.inj (k_named.symm.trans hf) |>.symm
      obtain rfl : fn = Tryz.f4 := (Option.some.inj (Tryz.func4.symm.trans hfn)).symm
      exact ⟨k_looks, fun j t ht => by
        rw [Tryz.params4] at ht
        have hm : t ∈ [3, 9] := by simpa using Array.mem_of_getElem? ht
        exact (show Tryz.prog.wantsStandIn t = false by simpa using List.all_eq_true.1 k_stand t hm)⟩)
    k_goes
#print axioms proved
end Go.Proofs.YtbijjomknbnmfaaGreatDoor.charsetNames
