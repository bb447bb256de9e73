/- Ck -/
import Derived.Test.YtohbeinhlhgfiaaGreatDoorMCi
import Derived.Test.YtohbeinhlhgfiaaGreatDoorMDw
import Derived.Test.YtohbeinhlhgfiaaGreatDoorMCh
set_option linter.unusedVariables false
set_option linter.unusedSimpArgs false
set_option maxHeartbeats 8000000
namespace Go.Proofs.YtohbeinhlhgfiaaGreatDoor
open Go.RowKit
noncomputable def tokC (c : Int) : Tok:=if c ≤ 3 then tokS (sgS (kgM (setS c))) else if c ≤ 6 then tok2 c else if c = 7 then tokU else tokW (decide (c = 9))
theorem tokC_lo (c : Int) (h : c ≤ 3) : tokC c = tokS (sgS (kgM (setS c))):=if_pos h
theorem tokC_two (c : Int) (h : 4 ≤ c) (h1 : c ≤ 6) : tokC c = tok2 c:=by unfold tokC;rw [if_neg (by omega),if_pos h1]
theorem tokC_u : tokC 7 = tokU:=by unfold tokC;rw [if_neg (by omega),if_neg (by omega),if_pos rfl]
theorem tokC_w (c : Int) (h : 8 ≤ c) : tokC c = tokW (decide (c = 9)):=by unfold tokC;rw [if_neg (by omega),if_neg (by omega),if_neg (by omega)]
noncomputable def decV (c : Int) (l : List UInt8) : Value:=if 0 ≤ c ∧ c ≤ 9 then .tuple #[.string ⟨(decT (tokC c) l).1.toArray⟩,faultV (decT (tokC c) l).2] else .tuple #[.string ⟨#[]⟩,.agg #[.int .i64 5,.int .i64 0]]
def CDecPost (r : Value) (w : World) (e : Ending) (w' : World) : Prop:=e = .returned r ∧ Below w.heap.size w w'
theorem decV_in (c : Int) (l : List UInt8) (h : 0 ≤ c ∧ c ≤ 9) : decV c l = .tuple #[.string ⟨(decT (tokC c) l).1.toArray⟩,faultV (decT (tokC c) l).2]:=if_pos h
theorem ua_bd : ∀ p ∈ pairsM ukS,0 ≤ p.1 ∧ 0 ≤ p.2 ∧ p.2 ≤ 1114111:=by decide +kernel
theorem al_bd : ∀ p ∈ pairsM alS,0 ≤ p.1 ∧ 0 ≤ p.2 ∧ p.2 ≤ 1114111:=by decide +kernel
theorem set_bd (c : Int) : ∀ p ∈ pairsM (setS c),0 ≤ p.1 ∧ 0 ≤ p.2 ∧ p.2 ≤ 1114111:=by
 unfold setS
 split
 · exact la_bd
 · split
   · exact ko_bd
   · split
     · exact ua_bd
     · exact al_bd
theorem set_len (c : Int) : (setS c).length ≤ 1000:=by
 unfold setS
 split
 · decide
 · split
   · decide +kernel
   · split
     · decide +kernel
     · decide +kernel
set_option maxRecDepth 100000 in
theorem cdecode_lo (c : Int) (b : ByteArray) (w : World) (hT : TW w) (hb : b.size ≤ 1073741824) (h0 : 0 ≤ c) (h1 : c ≤ 3) :
 Calls Tryz.prog 192 #[.int .i64 c,.string b] w (CDecPost (decV c (bl b)) w):=by
 rw [decV_in c _ (by omega),tokC_lo c h1]
 have k1:=fun w hT=>of_any c w hT h0 h1
 have k2:=fun v B w hT hX=>sdecode_any v (setS c) B c b w hT hX (setS_good c) (set_len c) hb (set_bd c)
 obtain ⟨f0,f1,hf⟩:=faultV_agg (decT (tokS (sgS (kgM (setS c)))) (bl b)).2
 rw [hf]
 unfold DecPost at k2
 rw [hf] at k2
 generalize (decT (tokS (sgS (kgM (setS c)))) (bl b)).1 = t at *
 clear hf
 have hb0:=bal (Below.refl w.heap.size w) (.cells #[.int .i64 0,.int .i64 0] 64)
 have l0:=Live.fresh w #[.int .i64 0,.int .i64 0] 64 0 _ rfl
 have l1:=Live.fresh w #[.int .i64 0,.int .i64 0] 64 1 _ rfl
 have K1:=Lib.hid k1
 have K2:=Lib.hid k2
 have HT:=Lib.hid hT
 have HB0:=Lib.hid hb0
 have L0:=Lib.hid l0
 have L1:=Lib.hid l1
 clear k1 k2 hT hb0 l0 l1
 rcases (show c = 0 ∨ c = 1 ∨ c = 2 ∨ c = 3 from by omega) with rfl | rfl | rfl | rfl
 all_goals (
  go_enter Tryz.func192,Tryz.ntmps192
  go_wp2_with fail
  refine (K1.out _ (HT.out.bel HB0.out)).mono ?_
  rintro e w1 ⟨a1,c1,rfl,ht1,hb1⟩
  have n0:=(L0.out.keep hb1)
  have n1:=(L1.out.keep hb1)
  have hbw:=bt HB0.out hb1
  have N0:=Lib.hid n0
  have N1:=Lib.hid n1
  have HBW:=Lib.hid hbw
  have HT1:=Lib.hid ht1
  have HB1:=Lib.hid hb1
  clear n0 n1 hbw ht1 hb1
  go_wp2_with fail
  refine (K2.out _ _ _ ((HT.out.bel HBW.out).alloc _) (HT1.out.bel (bal (Below.refl _ _) _))).mono ?_
  rintro e w2 ⟨rfl,hb2⟩
  have hb12:=bt (bal (Below.refl w1.heap.size w1) _) hb2
  obtain ⟨a1,a2⟩:=N0.out.keep hb12
  obtain ⟨a3,a4⟩:=N1.out.keep hb12
  have hb02:=bt HBW.out hb12
  clear hb2 hb12
  have HB02:=Lib.hid hb02
  clear hb02
  go_wp2_with fail
  refine bodyPost_ret (v:=.tuple #[.string ⟨t.toArray⟩,.agg #[.int .i64 f0,.int .i64 f1]]) (by simp [results,Tryz.results192,go_sem,a1,a2,a3,a4]) rfl ?_
  exact (show CDecPost _ _ _ _ from ⟨rfl,(HB02.out.setCell (Nat.le_refl _) _).setCell (Nat.le_refl _) _⟩))
set_option maxRecDepth 100000 in
theorem cdecode_two (c : Int) (b : ByteArray) (w : World) (hT : TW w) (hb : b.size ≤ 1073741824) (h0 : 4 ≤ c) (h1 : c ≤ 6) :
 Calls Tryz.prog 192 #[.int .i64 c,.string b] w (CDecPost (decV c (bl b)) w):=by
 rw [decV_in c _ (by omega),tokC_two c h0 h1]
 have k1:=fun w hT=>decodeTwo_any c b w hT hb
 obtain ⟨f0,f1,hf⟩:=faultV_agg (decT (tok2 c) (bl b)).2
 rw [hf]
 unfold DecPost at k1
 rw [hf] at k1
 generalize (decT (tok2 c) (bl b)).1 = t at *
 clear hf
 have hb0:=bal (Below.refl w.heap.size w) (.cells #[.int .i64 0,.int .i64 0] 64)
 have l0:=Live.fresh w #[.int .i64 0,.int .i64 0] 64 0 _ rfl
 have l1:=Live.fresh w #[.int .i64 0,.int .i64 0] 64 1 _ rfl
 have K1:=Lib.hid k1
 have HT:=Lib.hid hT
 have HB0:=Lib.hid hb0
 have L0:=Lib.hid l0
 have L1:=Lib.hid l1
 clear k1 hT hb0 l0 l1
 rcases (show c = 4 ∨ c = 5 ∨ c = 6 from by omega) with rfl | rfl | rfl
 all_goals (
  go_enter Tryz.func192,Tryz.ntmps192
  go_wp2_with fail
  refine (K1.out _ (HT.out.bel HB0.out)).mono ?_
  rintro e w2 ⟨rfl,hb2⟩
  obtain ⟨a1,a2⟩:=L0.out.keep hb2
  obtain ⟨a3,a4⟩:=L1.out.keep hb2
  have hb02:=bt HB0.out hb2
  clear hb2
  have HB02:=Lib.hid hb02
  clear hb02
  go_wp2_with fail
  refine bodyPost_ret (v:=.tuple #[.string ⟨t.toArray⟩,.agg #[.int .i64 f0,.int .i64 f1]]) (by simp [results,Tryz.results192,go_sem,a1,a2,a3,a4]) rfl ?_
  exact (show CDecPost _ _ _ _ from ⟨rfl,(HB02.out.setCell (Nat.le_refl _) _).setCell (Nat.le_refl _) _⟩))
set_option maxRecDepth 100000 in
theorem cdecode_wide (c : Int) (b : ByteArray) (w : World) (hb : b.size ≤ 1073741824) (h0 : 8 ≤ c) (h1 : c ≤ 9) :
 Calls Tryz.prog 192 #[.int .i64 c,.string b] w (CDecPost (decV c (bl b)) w):=by
 rw [decV_in c _ (by omega),tokC_w c h0]
 have k1:=fun w=>wdecode_any b (decide (c = 9)) w hb
 obtain ⟨f0,f1,hf⟩:=faultV_agg (decT (tokW (decide (c = 9))) (bl b)).2
 rw [hf]
 rw [hf] at k1
 generalize (decT (tokW (decide (c = 9))) (bl b)).1 = t at *
 clear hf
 have hb0:=bal (Below.refl w.heap.size w) (.cells #[.int .i64 0,.int .i64 0] 64)
 have l0:=Live.fresh w #[.int .i64 0,.int .i64 0] 64 0 _ rfl
 have l1:=Live.fresh w #[.int .i64 0,.int .i64 0] 64 1 _ rfl
 rcases (show c = 8 ∨ c = 9 from by omega) with rfl | rfl
 · simp only [show decide ((8 : Int) = 9) = false from rfl] at k1
   have K1:=Lib.hid k1
   have HB0:=Lib.hid hb0
   have L0:=Lib.hid l0
   have L1:=Lib.hid l1
   clear k1 hb0 l0 l1
   go_enter Tryz.func192,Tryz.ntmps192
   go_wp2_with fail
   refine (K1.out _).mono ?_
   rintro e w2 ⟨rfl,hb2⟩
   obtain ⟨a1,a2⟩:=L0.out.keep hb2
   obtain ⟨a3,a4⟩:=L1.out.keep hb2
   have hb02:=bt HB0.out hb2
   clear hb2
   have HB02:=Lib.hid hb02
   clear hb02
   go_wp2_with fail
   refine bodyPost_ret (v:=.tuple #[.string ⟨t.toArray⟩,.agg #[.int .i64 f0,.int .i64 f1]]) (by simp [results,Tryz.results192,go_sem,a1,a2,a3,a4]) rfl ?_
   exact (show CDecPost _ _ _ _ from ⟨rfl,(HB02.out.setCell (Nat.le_refl _) _).setCell (Nat.le_refl _) _⟩)
 · simp only [show decide ((9 : Int) = 9) = true from rfl] at k1
   have K1:=Lib.hid k1
   have HB0:=Lib.hid hb0
   have L0:=Lib.hid l0
   have L1:=Lib.hid l1
   clear k1 hb0 l0 l1
   go_enter Tryz.func192,Tryz.ntmps192
   go_wp2_with fail
   refine (K1.out _).mono ?_
   rintro e w2 ⟨rfl,hb2⟩
   obtain ⟨a1,a2⟩:=L0.out.keep hb2
   obtain ⟨a3,a4⟩:=L1.out.keep hb2
   have hb02:=bt HB0.out hb2
   clear hb2
   have HB02:=Lib.hid hb02
   clear hb02
   go_wp2_with fail
   refine bodyPost_ret (v:=.tuple #[.string ⟨t.toArray⟩,.agg #[.int .i64 f0,.int .i64 f1]]) (by simp [results,Tryz.results192,go_sem,a1,a2,a3,a4]) rfl ?_
   exact (show CDecPost _ _ _ _ from ⟨rfl,(HB02.out.setCell (Nat.le_refl _) _).setCell (Nat.le_refl _) _⟩)
set_option maxRecDepth 100000 in
theorem cdecode_none (c : Int) (b : ByteArray) (w : World) (h : ¬ (0 ≤ c ∧ c ≤ 9)) :
 Calls Tryz.prog 192 #[.int .i64 c,.string b] w (CDecPost (decV c (bl b)) w):=by
 rw [show decV c (bl b) = .tuple #[.string ⟨#[]⟩,.agg #[.int .i64 5,.int .i64 0]] from if_neg h]
 have hb0:=bal (Below.refl w.heap.size w) (.cells #[.int .i64 0,.int .i64 0] 64)
 have e0 : (c == 0) = false:=by simp;omega
 have e1 : (c == 1) = false:=by simp;omega
 have e2 : (c == 2) = false:=by simp;omega
 have e3 : (c == 3) = false:=by simp;omega
 have e4 : (c == 4) = false:=by simp;omega
 have e5 : (c == 5) = false:=by simp;omega
 have e6 : (c == 6) = false:=by simp;omega
 have e7 : (c == 7) = false:=by simp;omega
 have e8 : (c == 8) = false:=by simp;omega
 have e9 : (c == 9) = false:=by simp;omega
 have HB0:=Lib.hid hb0
 clear hb0
 clear h
 go_enter Tryz.func192,Tryz.ntmps192
 go_wp2_with fail
 refine bodyPost_ret (v:=.tuple #[.string ⟨#[]⟩,.agg #[.int .i64 5,.int .i64 0]]) (by simp [results,Tryz.results192,go_sem]) rfl ?_
 exact (show CDecPost _ _ _ _ from ⟨rfl,bal (Below.refl _ _) _⟩)
set_option maxRecDepth 100000 in
theorem cdecode_u (b : ByteArray) (w : World) (hT : TW w) (hb : b.size ≤ 1073741824) :
 Calls Tryz.prog 192 #[.int .i64 7,.string b] w (CDecPost (decV 7 (bl b)) w):=by
 rw [decV_in 7 _ (by omega),tokC_u,decT_U]
 have k1:=fun w hT=>check_any b w hT (by omega)
 have k2:=fun a b w=>bad_any a b w
 have hb0:=bal (Below.refl w.heap.size w) (.cells #[.int .i64 0,.int .i64 0] 64)
 have l0:=Live.fresh w #[.int .i64 0,.int .i64 0] 64 0 _ rfl
 have l1:=Live.fresh w #[.int .i64 0,.int .i64 0] 64 1 _ rfl
 unfold decU
 have hbb : (⟨(bl b).toArray⟩ : ByteArray) = b:=mk_list b
 generalize (scanL (bl b)).2 = o at *
 have K1:=Lib.hid k1
 have K2:=Lib.hid k2
 have HB0:=Lib.hid hb0
 have L0:=Lib.hid l0
 have L1:=Lib.hid l1
 have HT:=Lib.hid hT
 have HBB:=Lib.hid hbb
 clear k1 k2 hb0 l0 l1 hT hbb
 cases o with
 | some k=>
  simp only [faultV] at K1 ⊢
  go_enter Tryz.func192,Tryz.ntmps192
  go_wp2_with fail
  refine (K1.out _ (HT.out.bel HB0.out)).mono ?_
  rintro e w1 ⟨rfl,hb1⟩
  go_wp2_with (go_at_call 24;refine (K2.out _ _ _).mono ?_;rintro e w2 ⟨rfl,hb2⟩)
  have q0:=(Live.fresh w1 #[.int .i64 2,.int .i64 k] 64 0 _ rfl).keep hb2
  have q1:=(Live.fresh w1 #[.int .i64 2,.int .i64 k] 64 1 _ rfl).keep hb2
  have p0:=((L0.out.keep hb1).alloc (.cells #[.int .i64 2,.int .i64 k] 64)).keep hb2
  have p1:=((L1.out.keep hb1).alloc (.cells #[.int .i64 2,.int .i64 k] 64)).keep hb2
  have hbw : Below w.heap.size w w2:=HB0.out.trans ((bt (bal (bt (Below.refl _ _) hb1) _) hb2).mono HB0.out.size)
  clear hb1 hb2
  have g0:=fun x : Grown w2=>x.cell q0.1
  have g1:=fun x : Grown w2=>x.cell q1.1
  refine wp_region_grown_tail 2 (by kernel_rfl) (by kernel_rfl) ?_
  simp only [List.take_succ_cons,List.take_zero,List.drop_succ_cons,List.drop_zero]
  repeat (first | go_big_quiet_step (fail) | quiet_step (fail))
  refine wpQuiet_nil ?_
  intro _ hw'
  obtain ⟨xg,rfl⟩:=hw'
  obtain ⟨a1,a2⟩:=p0.keep xg.bel
  obtain ⟨a3,a4⟩:=p1.keep xg.bel
  have hbx:=hbw.trans (xg.bel.mono hbw.size)
  clear g0 g1
  generalize xg.wd = W at *
  go_wp2_with fail
  refine bodyPost_ret (v:=.tuple #[.string ⟨#[]⟩,.agg #[.int .i64 2,.int .i64 k]]) (by simp [results,Tryz.results192,go_sem,a1,a2,a3,a4]) rfl ?_
  exact (show CDecPost _ _ _ _ from ⟨rfl,(hbx.setCell (Nat.le_refl _) _).setCell (Nat.le_refl _) _⟩)
 | none=>
  simp only [faultV] at K1 ⊢
  rw [HBB.out]
  go_enter Tryz.func192,Tryz.ntmps192
  go_wp2_with fail
  refine (K1.out _ (HT.out.bel HB0.out)).mono ?_
  rintro e w1 ⟨rfl,hb1⟩
  go_wp2_with (go_at_call 24;refine (K2.out _ _ _).mono ?_;rintro e w2 ⟨rfl,hb2⟩;obtain ⟨a1,a2⟩:=((L0.out.keep hb1).alloc (.cells #[.int .i64 0,.int .i64 0] 64)).keep hb2;obtain ⟨a3,a4⟩:=((L1.out.keep hb1).alloc (.cells #[.int .i64 0,.int .i64 0] 64)).keep hb2)
  have hbw : Below w.heap.size w w2:=HB0.out.trans ((bt (bal (bt (Below.refl _ _) hb1) _) hb2).mono HB0.out.size)
  refine bodyPost_ret (v:=.tuple #[.string b,.agg #[.int .i64 0,.int .i64 0]]) (by simp [results,Tryz.results192,go_sem,a1,a2,a3,a4]) rfl ?_
  exact (show CDecPost _ _ _ _ from ⟨rfl,(hbw.setCell (Nat.le_refl _) _).setCell (Nat.le_refl _) _⟩)
theorem cdecode_any (c : Int) (b : ByteArray) (w : World) (hT : TW w) (hb : b.size ≤ 1073741824) :
 Calls Tryz.prog 192 #[.int .i64 c,.string b] w (CDecPost (decV c (bl b)) w):=by
 by_cases h : 0 ≤ c ∧ c ≤ 9
 · by_cases h3 : c ≤ 3
   · exact cdecode_lo c b w hT hb h.1 h3
   · by_cases h6 : c ≤ 6
     · exact cdecode_two c b w hT hb (by omega) h6
     · by_cases h7 : c = 7
       · subst h7;exact cdecode_u b w hT hb
       · exact cdecode_wide c b w hb (by omega) h.2
 · exact cdecode_none c b w h
end Go.Proofs.YtohbeinhlhgfiaaGreatDoor
namespace Go.Proofs.YtohbeinhlhgfiaaGreatDoor
def Short (tok : Tok) : Prop:=∀ l t k,tok l = some (t,k) → t.length ≤ 64 * k ∧ k ≤ l.length
theorem runT_short {tok : Tok} (S : Short tok) : ∀ (f : Nat) (l : List UInt8) (n : Nat) (acc : List UInt8),(runT tok f l n acc).1.length ≤ acc.length + 64 * l.length:=by
 intro f
 induction f with
 | zero=>intro l n acc;simp [runT]
 | succ f ih=>
  intro l n acc
  by_cases hl : l = []
  · subst hl;simp [runT]
  · cases ht : tok l with
    | none=>rw [runT_none f l n acc hl ht];simp
    | some p=>
     obtain ⟨t,k⟩:=p
     have h1:=S l t k ht
     rw [runT_some f l n acc t k hl ht]
     have:=ih (l.drop k) (n + k) (acc ++ t)
     rw [List.length_drop,List.length_append] at this
     omega
theorem decT_short {tok : Tok} (S : Short tok) (l : List UInt8) : (decT tok l).1.length ≤ 64 * l.length:=by
 have:=runT_short S l.length l 0 []
 simpa [decT] using this
theorem short_C (c : Int) : Short (tokC c):=by
 intro l t k h
 unfold tokC at h
 split at h
 · unfold tokS at h
   cases l with
   | nil=>cases h
   | cons b r=>
    simp only [Option.map_eq_some_iff,Prod.mk.injEq] at h
    obtain ⟨u,hu,rfl,rfl⟩:=h
    unfold sgS at hu
    split at hu
    · simp only [Option.some.injEq] at hu
      rw [← hu]
      have:=(encR_len ((kgM (setS c)).2.getD b.toNat 0)).2
      simp only [List.length_cons];omega
    · cases hu
 · split at h
   · unfold tok2 at h
     match l,h with
     | [b],h=>
      simp only [tokD] at h
      split at h
      · simp only [Option.some.injEq,Prod.mk.injEq] at h
        obtain ⟨rfl,rfl⟩:=h
        simp
      · cases h
     | b :: y :: r,h=>
      simp only [tokD] at h
      split at h
      · simp only [Option.some.injEq,Prod.mk.injEq] at h
        obtain ⟨rfl,rfl⟩:=h
        simp
      · split at h
        · cases h
        · simp only [Option.some.injEq,Prod.mk.injEq] at h
          obtain ⟨rfl,rfl⟩:=h
          have:=signs_len c b y
          simp only [List.length_cons];omega
   · split at h
     · have:=near_U.pos l t k h
       unfold tokU at h
       split at h
       · cases h
       · simp only [Option.some.injEq,Prod.mk.injEq] at h
         obtain ⟨rfl,rfl⟩:=h
         have:=dec_pos l
         rw [List.length_take];omega
     · unfold tokW at h
       split at h
       · cases h
       · rename_i hz
         simp only [Option.some.injEq,Prod.mk.injEq] at h
         obtain ⟨rfl,rfl⟩:=h
         have h1:=wsign_bd (decide (c = 9)) l
         have h2:=(encR_len (wsign (decide (c = 9)) l).1).2
         omega
end Go.Proofs.YtohbeinhlhgfiaaGreatDoor
namespace Go.Proofs.YtohbeinhlhgfiaaGreatDoor
open Go.RowKit
theorem signs_ga : signsM 4 176 161 = [234,176,128]:=by
 have h1 : signsM 4 176 161 = if (wSignM 176 161).2 = true then (textM [(wSignM 176 161).1]).1 else []:=rfl
 rw [h1,wsign_0]
 decide +kernel
theorem dec9_ok : decT (tok2 4) [97,176,161] = ([97,234,176,128],none):=by
 have e1 : tok2 4 [97,176,161] = some ([97],1):=rfl
 have e2 : tok2 4 [176,161] = some ([234,176,128],2):=by
  show (if (176 : UInt8) < 128 then some ([176],1) else if signsM 4 176 161 = [] then none else some (signsM 4 176 161,2)) = _
  rw [signs_ga];rfl
 unfold decT
 rw [show ([97,176,161] : List UInt8).length = 2 + 1 from rfl,runT_some (tok:=tok2 4) 2 _ 0 [] _ _ (by simp) e1]
 rw [show ([97,176,161] : List UInt8).drop 1 = [176,161] from rfl,runT_some (tok:=tok2 4) 1 _ _ _ _ _ (by simp) e2]
 rfl
theorem dec9_bad : decT (tok2 4) [97,176] = ([],some 1):=by
 have e1 : tok2 4 [97,176] = some ([97],1):=rfl
 have e2 : tok2 4 [176] = none:=rfl
 unfold decT
 rw [show ([97,176] : List UInt8).length = 1 + 1 from rfl,runT_some (tok:=tok2 4) 1 _ 0 [] _ _ (by simp) e1]
 rw [show ([97,176] : List UInt8).drop 1 = [176] from rfl,runT_none (tok:=tok2 4) 0 _ _ _ (by simp) e2]
theorem named_u : namedM (bl ⟨#[85,84,70,56]⟩) = some 7:=by decide +kernel
theorem awake09_any (w : World) (hT : TW w) : Calls Tryz.prog 134 #[] w fun e w'=>e = .returned (.bool true) ∧ Below w.heap.size w w':=by
 have k1 : ∀ w,TW w → Calls Tryz.prog 192 #[.int .i64 4,.string ⟨#[97,176,161]⟩] w fun e w'=>e = .returned (.tuple #[.string ⟨#[97,234,176,128]⟩,.agg #[.int .i64 0,.int .i64 0]]) ∧ Below w.heap.size w w':=fun w hT=>by
  have h:=cdecode_any 4 ⟨#[97,176,161]⟩ w hT (by decide)
  rw [decV_in 4 _ (by omega),tokC_two 4 (by omega) (by omega),show bl ⟨#[97,176,161]⟩ = [97,176,161] from rfl,dec9_ok] at h
  exact h
 have k2 : ∀ w,TW w → Calls Tryz.prog 192 #[.int .i64 4,.string ⟨#[97,176]⟩] w fun e w'=>e = .returned (.tuple #[.string ⟨#[]⟩,.agg #[.int .i64 2,.int .i64 1]]) ∧ Below w.heap.size w w':=fun w hT=>by
  have h:=cdecode_any 4 ⟨#[97,176]⟩ w hT (by decide)
  rw [decV_in 4 _ (by omega),tokC_two 4 (by omega) (by omega),show bl ⟨#[97,176]⟩ = [97,176] from rfl,dec9_bad] at h
  exact h
 have k3 : ∀ w,Calls Tryz.prog 204 #[.string ⟨#[85,84,70,56]⟩] w fun e w'=>e = .returned (.tuple #[.int .i64 7,.bool true]) ∧ Below w.heap.size w w':=fun w=>by
  have h:=named_any ⟨#[85,84,70,56]⟩ w (by decide)
  rw [named_u] at h
  exact h
 have k4:=fun w hT=>awake02_any w hT
 have k5:=fun w hT=>awake05_any w hT
 have k6:=fun w=>awake06_any w
 have k7:=fun w hT=>awake07_any w hT
 have k8:=fun w hT=>awake08_any w hT
 have kB : ∀ w,Calls Tryz.prog 24 #[.agg #[.int .i64 0,.int .i64 0]] w fun e w'=>e = .returned (.bool false) ∧ Below w.heap.size w w':=fun w=>bad_any 0 0 w
 have kE:=eqFault 2 1 2 1
 have kG:=fun op x y w=>guardFault op x y #[.int .i64 2,.int .i64 1] #[.int .i64 2,.int .i64 1] w
 have K1:=Lib.hid k1
 have K2:=Lib.hid k2
 have K3:=Lib.hid k3
 have K4:=Lib.hid k4
 have K5:=Lib.hid k5
 have K6:=Lib.hid k6
 have K7:=Lib.hid k7
 have K8:=Lib.hid k8
 have KB:=Lib.hid kB
 clear k1 k2 k3 k4 k5 k6 k7 k8 kB
 go_enter Tryz.func134,Tryz.ntmps134
 go_wp2_with fail
 refine (K1.out _ hT).mono ?_
 rintro e w1 ⟨rfl,hb1⟩
 have hc1:=bal hb1 (.cells #[.int .i64 0,.int .i64 0] 64)
 have f0 : (w1.alloc (.cells #[.int .i64 0,.int .i64 0] 64)).cell? ⟨w1.heap.size,0,none⟩ = some (.int .i64 0):=by go_simp
 have f1 : (w1.alloc (.cells #[.int .i64 0,.int .i64 0] 64)).cell? ⟨w1.heap.size,1,none⟩ = some (.int .i64 0):=by go_simp
 have F0:=Lib.hid f0
 have F1:=Lib.hid f1
 clear f0 f1
 go_wp2_with fail
 refine (K2.out _ (hT.bel hc1)).mono ?_
 rintro e w2 ⟨rfl,hb2⟩
 have hq2:=bal (Below.refl w2.heap.size w2) (.cells #[.int .i64 2,.int .i64 1] 64)
 have hc2:=bt (bt hc1 hb2) hq2
 have f0:=kc hq2 (kc hb2 F0.out)
 have f1:=kc hq2 (kc hb2 F1.out)
 have g0 : (w2.alloc (.cells #[.int .i64 2,.int .i64 1] 64)).cell? ⟨w2.heap.size,0,none⟩ = some (.int .i64 2):=by go_simp
 have g1 : (w2.alloc (.cells #[.int .i64 2,.int .i64 1] 64)).cell? ⟨w2.heap.size,1,none⟩ = some (.int .i64 1):=by go_simp
 have HC2:=Lib.hid hc2
 clear hc2
 clear hc1 hb1 hb2 hq2
 go_wp2_with (first
  | (go_at_call 204;refine (K3.out _).mono ?_;rintro e w3 ⟨rfl,hb3⟩;have hc3:=bt HC2.out hb3;have f0:=kc hb3 f0;have f1:=kc hb3 f1;have g0:=kc hb3 g0;have g1:=kc hb3 g1)
  | (go_at_call 130;refine (K4.out _ (hT.bel hc3)).mono ?_;rintro e w4 ⟨rfl,hb4⟩;have hc3:=bt hc3 hb4;have f0:=kc hb4 f0;have f1:=kc hb4 f1;have g0:=kc hb4 g0;have g1:=kc hb4 g1)
  | (go_at_call 205;refine (K5.out _ (hT.bel hc3)).mono ?_;rintro e w4 ⟨rfl,hb4⟩;have hc3:=bt hc3 hb4;have f0:=kc hb4 f0;have f1:=kc hb4 f1;have g0:=kc hb4 g0;have g1:=kc hb4 g1)
  | (go_at_call 206;refine (K6.out _).mono ?_;rintro e w4 ⟨rfl,hb4⟩;have hc3:=bt hc3 hb4;have f0:=kc hb4 f0;have f1:=kc hb4 f1;have g0:=kc hb4 g0;have g1:=kc hb4 g1)
  | (go_at_call 207;refine (K7.out _ (hT.bel hc3)).mono ?_;rintro e w4 ⟨rfl,hb4⟩;have hc3:=bt hc3 hb4;have f0:=kc hb4 f0;have f1:=kc hb4 f1;have g0:=kc hb4 g0;have g1:=kc hb4 g1)
  | (go_at_call 208;refine (K8.out _ (hT.bel hc3)).mono ?_;rintro e w4 ⟨rfl,hb4⟩;have hc3:=bt hc3 hb4;have f0:=kc hb4 f0;have f1:=kc hb4 f1;have g0:=kc hb4 g0;have g1:=kc hb4 g1)
  | (go_at_call 24;refine (KB.out _).mono ?_;rintro e w4 ⟨rfl,hb4⟩;have hc3:=bt hc3 hb4;have g0:=kc hb4 g0;have g1:=kc hb4 g1))
 go_ret
 exact ⟨rfl,hc3⟩
end Go.Proofs.YtohbeinhlhgfiaaGreatDoor
