/- What is decoded is encoded as it was: charset.Encode behind charset.Decode. -/
import Derived.Test.YtmpndnebjahdjaaGreatDoorTa
import Derived.Test.YtmpndnebjahdjaaGreatDoorTe
import Derived.Test.YtmpndnebjahdjaaGreatDoorTg
namespace Go.Proofs.YtmpndnebjahdjaaGreatDoor
open Go.RowKit
set_option linter.unusedVariables false
set_option linter.unusedSimpArgs false

theorem tells_w (l : List UInt8) : TellsB 4 wBytesM l := by
  intro k p w hk hd hp hT
  have hr := dec_rune (l.drop k)
  rw [hd] at hr
  refine ⟨fun _ => ?_, fun h => absurd rfl h⟩
  refine (wbytes_any (p : Int) w hT (by omega) (by omega)).mono fun e w' ⟨h1, h2⟩ => ⟨⟨_, h1⟩, h2⟩
theorem tells_j (l : List UInt8) : TellsB 5 jBytesM l := by
  intro k p w hk hd hp hT
  have hr := dec_rune (l.drop k)
  rw [hd] at hr
  refine ⟨fun h => absurd h (by decide), fun _ => ?_⟩
  by_cases hj : hasJ (p : Int)
  · obtain ⟨c0, c1⟩ := codeJ_range _ hj
    obtain ⟨n, hn⟩ : ∃ n : Nat, codeJ (p : Int) = (n : Int) := ⟨(codeJ (p : Int)).toNat, by omega⟩
    have hL : ((UInt8.ofNat (n / 256)).toNat : Int) = (n / 256 : Nat) := by rw [UInt8.toNat_ofNat']; omega
    have hR : ((UInt8.ofNat (n % 256)).toNat : Int) = (n % 256 : Nat) := by rw [UInt8.toNat_ofNat']; omega
    have hc : codeJ (p : Int) = ((UInt8.ofNat (n / 256)).toNat : Int) * 256 + ((UInt8.ofNat (n % 256)).toNat : Int) := by rw [hL, hR, hn]; omega
    have hB : jBytesM (p : Int) = [UInt8.ofNat (n / 256), UInt8.ofNat (n % 256)] := by
      unfold jBytesM
      have hj2 := hj
      unfold hasJ at hj2
      rw [if_pos hj2, hc, bigL2]
    rw [hB]
    exact (bytes_has (p : Int) _ _ w hj hc).mono fun e w' ⟨h1, h2⟩ => ⟨⟨_, h1⟩, h2⟩
  · have hB : jBytesM (p : Int) = [] := by
      unfold jBytesM
      have hj2 := hj
      unfold hasJ at hj2
      rw [if_neg hj2]
    rw [hB]
    exact (bytes_hasnt (p : Int) w (by omega) (by omega) hj).mono fun e w' ⟨h1, h2⟩ => ⟨⟨_, h1⟩, h2⟩
theorem wBytesM_len (p : Int) : (wBytesM p).length ≤ 1024 := by
  unfold wBytesM
  split
  · rw [bigL_length]; decide
  · cases otherCodeM p with
    | some c => simp only; rw [bigL_length]; decide
    | none => decide
theorem jBytesM_len (p : Int) : (jBytesM p).length ≤ 1024 := by
  unfold jBytesM
  split
  · rw [bigL_length]; decide
  · decide
/-- Encode of what Decode told. -/
theorem back_any (c : Int) (b T : ByteArray) (w : World) (hT : TW w) (h0 : 0 ≤ c) (h9 : c ≤ 9) (hs : T.size ≤ 1048576) (hd : decT (tokC c) (bl b) = (bl T, none)) :
    Calls Tryz.prog 12 #[.int .i64 c, .string T] w fun e w' => e = .returned (.tuple #[.string b, .agg #[.int .i64 0, .int .i64 0]]) ∧ Below w.heap.size w w' := by
  have hv := valid_C c h0 (bl b) (bl T) hd
  have hbb : (⟨(bl b).toArray⟩ : ByteArray) = b := mk_list b
  by_cases h3 : c ≤ 3
  · have h := cencode_lo c T w hT (by omega) h0 h3
    unfold encV at h
    rw [hv, back_lo c h0 h3 _ _ hd] at h
    simp only [faultE] at h
    rw [hbb] at h
    exact h
  by_cases h4 : c = 4
  · subst h4
    have h := cencode_two 4 wBytesM wBytesM_len T (tells_w _) w hT (by omega) (by omega) (by omega)
    unfold encB at h
    rw [hv, back_wansung _ _ hd] at h
    simp only [faultE] at h
    rw [hbb] at h
    exact h
  by_cases h5 : c = 5
  · subst h5
    have h := cencode_two 5 jBytesM jBytesM_len T (tells_j _) w hT (by omega) (by omega) (by omega)
    unfold encB at h
    rw [hv, back_johab _ _ hd] at h
    simp only [faultE] at h
    rw [hbb] at h
    exact h
  by_cases h6 : c = 6
  · subst h6
    have h := cencode_big T w hT hs
    unfold enc5 at h
    rw [hv, back_big _ _ hd] at h
    simp only [faultE] at h
    rw [hbb] at h
    exact h
  by_cases h7 : c = 7
  · subst h7
    have h := cencode_u T w hT (by omega)
    rw [tokC_u, decT_U] at hd
    have e1 : bl T = bl b := by
      unfold decU at hd
      cases hq : (scanL (bl b)).2 with
      | none => rw [hq] at hd; exact (Prod.mk.inj hd).1.symm
      | some k => rw [hq] at hd; exact absurd (Prod.mk.inj hd).2 (by simp)
    unfold encU decU at h
    rw [hv] at h
    simp only [faultV] at h
    rw [e1, hbb] at h
    exact h
  · have h := cencode_wide c T w hT (by omega) (by omega) h9
    rw [tokC_w c (by omega)] at hd
    unfold encW at h
    rw [hv, back_wide _ _ _ hd] at h
    simp only [faultV] at h
    rw [hbb] at h
    exact h
theorem lawFault_any (c a : Int) (w : World) : Calls Tryz.prog 14 #[.int .i64 c, .int .i64 a] w fun e w' => e = .returned (.agg #[.int .i64 c, .int .i64 a]) ∧ Below w.heap.size w w' := by
  go_enter Tryz.func14, Tryz.ntmps14
  go_wp2
  have l0 := Live.fresh w #[.int .i64 0, .int .i64 0] 25 0 _ rfl
  have l1 := Live.fresh w #[.int .i64 0, .int .i64 0] 25 1 _ rfl
  obtain ⟨a1, a2⟩ := l0
  obtain ⟨a3, a4⟩ := l1
  refine bodyPost_ret (v := .agg #[.int .i64 c, .int .i64 a]) (by simp [results, Tryz.results14, go_sem, a1, a2, a3, a4]) rfl ?_
  exact ⟨rfl, bal (Below.refl w.heap.size w) _⟩
end Go.Proofs.YtmpndnebjahdjaaGreatDoor
