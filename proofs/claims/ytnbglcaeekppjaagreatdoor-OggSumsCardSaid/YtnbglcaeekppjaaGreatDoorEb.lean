/- Qh, Qj, Qk, Ql, Qm -/
import Derived.Test.YtnbglcaeekppjaaGreatDoorEa
import Derived.Test.YtnbglcaeekppjaaGreatDoorMGC
import Derived.Test.YtnbglcaeekppjaaGreatDoorMGA
import Derived.Test.YtnbglcaeekppjaaGreatDoorMFe
import Derived.Deep.RegionHeld3
import Derived.Test.YtnbglcaeekppjaaGreatDoorMAy
import Derived.Test.YtnbglcaeekppjaaGreatDoorMGB
import Derived.Test.YtnbglcaeekppjaaGreatDoorMCy
namespace Go.Proofs.YtnbglcaeekppjaaGreatDoor
open Go.RowKit
set_option linter.unusedVariables false
set_option linter.unusedSimpArgs false

def optI : Option Nat → Int
  | none=>-1
  | some k=>k
theorem endsN_step (l : List UInt8) (k : Nat) (b : UInt8) (h : l[k]? = some b) : endsN (l.take (k + 1)) = endsN (l.take k) + if b = 255 then 0 else 1:=by
  rw [List.take_add_one,h,endsN_append]
  unfold endsN
  by_cases hb : b = 255
  · subst hb;simp
  · simp [hb]
theorem endsN_le (l : List UInt8) : endsN l ≤ l.length:=List.countP_le_length
set_option maxHeartbeats 2000000 in
theorem gsecond_any (v : Value) (l : List PG) (w : World) (hrow : Row w v l.length (gcells l)) (hn : l.length ≤ 2000000) (hsm : ∀ p ∈ l,p.la.size ≤ 1073741824) :
    Calls Tryz.prog 76 #[v] w fun e w'=>e = .returned (.int .i64 (optI (secondF (l.drop 1) 1 0))) ∧ w = w':=by
  obtain ⟨av,cap,rfl,hc⟩:=hrow
  obtain ⟨R,hR⟩ : ∃ R,R = secondF (l.drop 1) 1 0:=⟨_,rfl⟩
  rw [← hR]
  obtain ⟨n,hn'⟩ : ∃ n,n = l.length:=⟨_,rfl⟩
  rw [← hn'] at hn ⊢
  have HC:=Lib.hid hc
  have HR:=Lib.hid hR
  have HN:=Lib.hid hn'
  have HSM:=Lib.hid hsm
  clear hc hR hn' hsm
  go_enter Tryz.func76,Tryz.ntmps76
  go_wp2_with fail
  go_loop [3,4] (fun nv iv=>∃ (i c : Nat),iv = .int .i64 (i : Int) ∧ nv = .int .i64 (c : Int) ∧ 1 ≤ i ∧ i ≤ n + 1 ∧ c ≤ 1 ∧ Hid (secondF (l.drop i) i c = R)) (fun _ iv=>n + 1 - (intOf iv).toNat)
  case atStart=>exact ⟨1,0,rfl,rfl,Nat.le_refl _,by omega,by omega,Lib.hid HR.out.symm⟩
  case round=>
    obtain ⟨i,c,rfl,rfl,h1,hi,hc1,HP⟩:=hrel
    by_cases hlt : i < n
    · obtain ⟨p,hp⟩:=at_some l i (by rw [← HN.out];exact hlt)
      obtain ⟨g,o,rfl,d0,d1,d2,d3,d4,d5⟩:=g_at HC.out i p hp
      have s1:=HSM.out p (List.mem_of_getElem? hp)
      have hP:=HP.out
      obtain ⟨hp1,hp2⟩:=List.getElem?_eq_some_iff.1 hp
      rw [List.drop_eq_getElem_cons hp1,hp2,secondF] at hP
      have hLL:=bl_length p.la
      have hle:=endsN_le (bl p.la)
      generalize p.la = s at *
      have m0 : (0 : Int) ≤ (i : Int):=by omega
      have m1 : (i : Int) < (n : Int):=by omega
      have hw1 : IntKind.i64.wrap ((i : Int) + 1) = (i : Int) + 1:=wi64 _ (by omega) (by omega)
      have HP2:=Lib.hid hP
      have HLL:=Lib.hid hLL
      have HLE:=Lib.hid hle
      clear hP hLL hle
      clear hp hp1 hp2 HP d0 d1 d2 d3 d5
      go_wp2_with fail
      go_loop [3,20] (fun nv kv=>∃ (k : Nat),nv = .int .i64 ((c + endsN ((bl s).take k) : Nat) : Int) ∧ kv = .int .i64 (k : Int) ∧ k ≤ s.size) (fun _ kv=>s.size - (intOf kv).toNat)
      case atStart=>exact ⟨0,by simp [endsN],rfl,Nat.zero_le _⟩
      case round=>
        obtain ⟨k,rfl,rfl,hk⟩:=hrel
        by_cases hl2 : k < s.size
        · obtain ⟨b,hb⟩:=at_some (bl s) k (by rw [HLL.out];exact hl2)
          have X : ∀ h,s[k]'h = b:=atB_of s k b hb
          have hst:=endsN_step (bl s) k b hb
          have hle2:=endsN_le ((bl s).take k)
          rw [List.length_take] at hle2
          generalize endsN ((bl s).take k) = t at *
          have HST:=Lib.hid hst
          have j0 : (0 : Int) ≤ (k : Int):=by omega
          have j1 : (k : Int) < (s.size : Int):=by omega
          have ht : t ≤ 1073741824:=by omega
          have hwr : IntKind.i64.wrap (((c + t : Nat) : Int) + 1) = ((c + t : Nat) : Int) + 1:=wi64 _ (by omega) (by omega)
          clear hst hb hle2
          by_cases h255 : b = 255
          · subst h255
            go_wp2_with fail
            exact ⟨⟨k + 1,by rw [HST.out];simp,by go_num,by omega⟩,by simp [intOf];omega⟩
          · have hne : ¬ (b.toNat : Int) = 255:=fun h=>h255 (UInt8.toNat_inj.1 (by show b.toNat = 255;omega))
            have HNE:=Lib.hid h255
            clear h255
            go_wp2_with fail
            exact ⟨⟨k + 1,by rw [HST.out,if_neg HNE.out];go_num,by go_num,by omega⟩,by simp [intOf];omega⟩
        · have hx : (bl s).take k = bl s:=List.take_of_length_le (by rw [HLL.out];omega)
          rw [hx]
          have hP:=HP2.out
          have j1 : ¬ (k : Int) < (s.size : Int):=by omega
          have hle3:=HLE.out
          rw [HLL.out] at hle3
          generalize endsN (bl s) = t at *
          clear hx
          by_cases h2 : 2 ≤ c + t
          · rw [if_pos h2] at hP
            have HX:=Lib.hid hP
            have q1 : ((c + t : Nat) : Int) ≥ 2:=by omega
            clear hP
            go_wp2_with fail
            go_ret
            exact ⟨by rw [← HX.out];rfl,rfl⟩
          · rw [if_neg h2] at hP
            have HX:=Lib.hid hP
            have q1 : ¬ ((c + t : Nat) : Int) ≥ 2:=by omega
            clear hP
            go_wp2_with fail
            exact ⟨⟨i + 1,c + t,by go_num,rfl,by omega,by omega,by omega,HX⟩,by simp [intOf];omega⟩
    · have hP:=HP.out
      rw [List.drop_of_length_le (by rw [← HN.out];omega)] at hP
      have HX : Hid (none = R):=Lib.hid hP
      have m1 : ¬ (i : Int) < (n : Int):=by omega
      clear hP
      go_wp2_with fail
      go_ret
      exact ⟨by rw [← HX.out];rfl,rfl⟩
theorem gmalf_any (a : Int) (w : World) : Calls Tryz.prog 41 #[.int .i64 a] w fun e w'=>e = .returned (.agg #[.int .i64 1,.int .i64 a]) ∧ Below w.heap.size w w':=by
  go_enter Tryz.func41,Tryz.ntmps41
  go_wp2_with fail
  refine bodyPost_ret (v:=.agg #[.int .i64 1,.int .i64 a]) (by simp [results,Tryz.results41,go_sem]) rfl ?_
  exact ⟨rfl,by simpa using bal (Below.refl _ _) (.cells #[.int .i64 1,.int .i64 a] 54)⟩
set_option maxRecDepth 100000 in
set_option maxHeartbeats 4000000 in
theorem gstray_any (v : Value) (l : List PG) (se0 : Nat) (w : World) (hrow : Row w v l.length (gcells l)) (hn : l.length ≤ 2000000) (h0 : ∀ p,l[0]? = some p → p.se = se0) :
    Calls Tryz.prog 40 #[v] w fun e w'=>e = .returned (.int .i64 (optI (strayF se0 l 0))) ∧ Below w.heap.size w w':=by
  obtain ⟨av,cap,rfl,hc⟩:=hrow
  obtain ⟨R,hR⟩ : ∃ R,R = strayF se0 l 0:=⟨_,rfl⟩
  rw [← hR]
  obtain ⟨n,hn'⟩ : ∃ n,n = l.length:=⟨_,rfl⟩
  rw [← hn'] at hn ⊢
  have HC:=Lib.hid hc
  have HR:=Lib.hid hR
  have HN:=Lib.hid hn'
  have H0:=Lib.hid h0
  clear hc hR hn' h0
  go_enter Tryz.func40,Tryz.ntmps40
  go_wp2_with fail
  go_loopw [7] (fun iv wr=>∃ (i : Nat),iv = .int .i64 (i : Int) ∧ i ≤ n ∧ Hid (strayF se0 (l.drop i) i = R) ∧ Hid (Below w.heap.size w wr)) (fun iv _=>n - (intOf iv).toNat)
  case atStart=>exact ⟨0,rfl,Nat.zero_le _,Lib.hid (by rw [List.drop_zero];exact HR.out.symm),Lib.hid (Below.refl _ _)⟩
  case round=>
    obtain ⟨i,rfl,hi,HP,HB⟩:=hrel
    by_cases hlt : i < n
    · obtain ⟨p,hp⟩:=at_some l i (by rw [← HN.out];exact hlt)
      obtain ⟨p0,hp0⟩:=at_some l 0 (by rw [← HN.out];omega)
      have hse0:=H0.out p0 hp0
      obtain ⟨g,o,rfl,d0,d1,d2,d3,d4,d5⟩:=g_at HC.out i p hp
      obtain ⟨g',o',he,_,_,e2,_⟩:=g_at HC.out 0 p0 hp0
      simp only [Option.some.injEq,Addr.mk.injEq,and_true] at he
      obtain ⟨rfl,rfl⟩:=he
      rw [hse0] at e2
      have d0:=kc HB.out d0
      have d1:=kc HB.out d1
      have d2:=kc HB.out d2
      have d3:=kc HB.out d3
      have d4:=kc HB.out d4
      have d5:=kc HB.out d5
      have e2:=kc HB.out e2
      have hP:=HP.out
      obtain ⟨hp1,hp2⟩:=List.getElem?_eq_some_iff.1 hp
      rw [List.drop_eq_getElem_cons hp1,hp2,strayF] at hP
      have k1:=fun w=>gfirst_any p w
      unfold hV at k1
      obtain ⟨fG,hfG⟩ : ∃ fG,fG = firstG p:=⟨_,rfl⟩
      rw [← hfG] at hP k1
      have m0 : (0 : Int) ≤ (i : Int):=by omega
      have m1 : (i : Int) < (n : Int):=by omega
      have hu : IntKind.u32.wrap (i : Int) = (i : Int):=by rw [IntKind.wrap_u32];omega
      have hmod : i % 4294967296 = i:=Nat.mod_eq_of_lt (by omega)
      rw [hmod] at hP
      obtain ⟨W,hW⟩ : ∃ W,W = wr.alloc (.cells #[.int .u8 p.fl.toNat,.int .u64 p.po,.int .u32 p.se,.int .u32 p.nu,.string p.la,.string p.bo] 27):=⟨_,rfl⟩
      have hbW : Below wr.heap.size wr W:=by rw [hW];exact bal (Below.refl _ _) _
      obtain ⟨p0,p1,p2,p3,p4,p5⟩:=gvL (show W.heap[wr.heap.size]? = some (.cells #[.int .u8 p.fl.toNat,.int .u64 p.po,.int .u32 p.se,.int .u32 p.nu,.string p.la,.string p.bo] 27 (0,0)) by rw [hW];exact heap_alloc_new _ _)
      have e2':=kc hbW e2
      have hbz:=bt HB.out hbW
      have K1:=Lib.hid k1
      have HBW:=Lib.hid hbW
      have HBZ:=Lib.hid hbz
      clear k1 hbW hbz
      clear hp hp1 hp2 HP hmod hse0 hp0 hfG
      have y0:=fun y : Grown W=>y.cell p0
      have y1:=fun y : Grown W=>y.cell p1
      have y2:=fun y : Grown W=>y.cell p2
      have y3:=fun y : Grown W=>y.cell p3
      have ye:=fun y : Grown W=>y.cell e2'
      clear p0 p1 p2 p3 p4 p5 e2'
      by_cases h1 : p.se = se0
      · by_cases h2 : p.nu = i
        · cases hb3 : (decide (0 < i) && fG) with
          | true=>
            obtain ⟨h3,rfl⟩ : 0 < i ∧ fG = true:=by simpa using hb3
            rw [if_pos (.inr (.inr ⟨h3,rfl⟩))] at hP
            have HX:=Lib.hid hP
            have b1 : ((p.se : Int) == (se0 : Int)) = true:=by rw [beq_iff_eq];omega
            have b1n : ((p.se : Int) != (se0 : Int)) = false:=by simp only [bne,b1,Bool.not_true]
            have b2 : ((p.nu : Int) == (i : Int)) = true:=by rw [beq_iff_eq];omega
            have b2n : ((p.nu : Int) != (i : Int)) = false:=by simp only [bne,b2,Bool.not_true]
            have b3 : decide (0 < i) = true:=decide_eq_true h3
            clear hP h1 h2 h3 hb3
            go_wp2_with fail
            rw [← hW]
            refine wp_region_grown (by kernel_rfl) (by kernel_rfl) ?_
            repeat (first | go_big_quiet_step ((go_at_call 36;exact Calls.grown_of (K1.out _))) | quiet_step ((go_at_call 36;exact Calls.grown_of (K1.out _))))
            refine wpQuiet_nil ?_
            intro _ hw'
            obtain ⟨xg,rfl⟩:=hw'
            have hbg:=bt HBZ.out xg.bel
            go_wp2_with fail
            go_ret
            exact ⟨by rw [← HX.out];rfl,hbg⟩
          | false=>
            rw [if_neg (by
              rintro (h | h | ⟨h,h'⟩)
              · exact h h1
              · exact h h2
              · rw [h'] at hb3;simp at hb3;omega)] at hP
            have HX:=Lib.hid hP
            have b1 : ((p.se : Int) == (se0 : Int)) = true:=by rw [beq_iff_eq];omega
            have b1n : ((p.se : Int) != (se0 : Int)) = false:=by simp only [bne,b1,Bool.not_true]
            have b2 : ((p.nu : Int) == (i : Int)) = true:=by rw [beq_iff_eq];omega
            have b2n : ((p.nu : Int) != (i : Int)) = false:=by simp only [bne,b2,Bool.not_true]
            by_cases h3 : 0 < i
            · obtain rfl : fG = false:=by simpa [h3] using hb3
              have b3 : decide (0 < i) = true:=decide_eq_true h3
              clear hP h1 h2 h3 hb3
              go_wp2_with fail
              rw [← hW]
              refine wp_region_grown (by kernel_rfl) (by kernel_rfl) ?_
              repeat (first | go_big_quiet_step ((go_at_call 36;exact Calls.grown_of (K1.out _))) | quiet_step ((go_at_call 36;exact Calls.grown_of (K1.out _))))
              refine wpQuiet_nil ?_
              intro _ hw'
              obtain ⟨xg,rfl⟩:=hw'
              have hbg:=bt HBZ.out xg.bel
              have HBG:=Lib.hid hbg
              go_wp2_with fail
              exact ⟨⟨i + 1,by go_num,by omega,HX,HBG⟩,by simp [intOf];omega⟩
            · have b3 : decide (0 < i) = false:=decide_eq_false h3
              clear hP h1 h2 h3 hb3
              go_wp2_with fail
              rw [← hW]
              refine wp_region_grown (by kernel_rfl) (by kernel_rfl) ?_
              repeat (first | go_big_quiet_step ((go_at_call 36;exact Calls.grown_of (K1.out _))) | quiet_step ((go_at_call 36;exact Calls.grown_of (K1.out _))))
              refine wpQuiet_nil ?_
              intro _ hw'
              obtain ⟨xg,rfl⟩:=hw'
              have hbg:=bt HBZ.out xg.bel
              have HBG:=Lib.hid hbg
              go_wp2_with fail
              exact ⟨⟨i + 1,by go_num,by omega,HX,HBG⟩,by simp [intOf];omega⟩
        · rw [if_pos (.inr (.inl h2))] at hP
          have HX:=Lib.hid hP
          have b1 : ((p.se : Int) == (se0 : Int)) = true:=by rw [beq_iff_eq];omega
          have b1n : ((p.se : Int) != (se0 : Int)) = false:=by simp only [bne,b1,Bool.not_true]
          have b2 : ((p.nu : Int) == (i : Int)) = false:=by rw [beq_eq_false_iff_ne];omega
          have b2n : ((p.nu : Int) != (i : Int)) = true:=by simp only [bne,b2,Bool.not_false]
          clear hP h1 h2
          go_wp2_with fail
          rw [← hW]
          refine wp_region_grown (by kernel_rfl) (by kernel_rfl) ?_
          repeat (first | go_big_quiet_step ((go_at_call 36;exact Calls.grown_of (K1.out _))) | quiet_step ((go_at_call 36;exact Calls.grown_of (K1.out _))))
          refine wpQuiet_nil ?_
          intro _ hw'
          obtain ⟨xg,rfl⟩:=hw'
          have hbg:=bt HBZ.out xg.bel
          go_wp2_with fail
          go_ret
          exact ⟨by rw [← HX.out];rfl,hbg⟩
      · rw [if_pos (.inl h1)] at hP
        have HX:=Lib.hid hP
        have b1 : ((p.se : Int) == (se0 : Int)) = false:=by rw [beq_eq_false_iff_ne];omega
        have b1n : ((p.se : Int) != (se0 : Int)) = true:=by simp only [bne,b1,Bool.not_false]
        clear hP h1
        go_wp2_with fail
        rw [← hW]
        refine wp_region_grown (by kernel_rfl) (by kernel_rfl) ?_
        repeat (first | go_big_quiet_step ((go_at_call 36;exact Calls.grown_of (K1.out _))) | quiet_step ((go_at_call 36;exact Calls.grown_of (K1.out _))))
        refine wpQuiet_nil ?_
        intro _ hw'
        obtain ⟨xg,rfl⟩:=hw'
        have hbg:=bt HBZ.out xg.bel
        go_wp2_with fail
        go_ret
        exact ⟨by rw [← HX.out];rfl,hbg⟩
    · have hP:=HP.out
      rw [List.drop_of_length_le (by rw [← HN.out];omega)] at hP
      have HX : Hid (none = R):=Lib.hid hP
      have m1 : ¬ (i : Int) < (n : Int):=by omega
      clear hP
      go_wp2_with fail
      go_ret
      exact ⟨by rw [← HX.out];rfl,HB.out⟩
end Go.Proofs.YtnbglcaeekppjaaGreatDoor

namespace Go.Proofs.YtnbglcaeekppjaaGreatDoor
open Go.RowKit
set_option linter.unusedVariables false
set_option linter.unusedSimpArgs false

theorem gcells_one (p : PG) : gcells [p] = (#[.int .u8 p.fl.toNat,.int .u64 p.po,.int .u32 p.se,.int .u32 p.nu,.string p.la,.string p.bo] : Array Value).toList:=rfl
theorem hasPrefix_pre : ∀ (p s : List UInt8),Lib.hasPrefix s p = preM s p:=by
  intro p s
  unfold preM
  show p.isPrefixOf s = _
  rw [Bool.eq_iff_iff,decide_eq_true_iff,List.isPrefixOf_iff_prefix,List.prefix_iff_eq_take]
  exact eq_comm
theorem prefix_any (s : ByteArray) (n : UInt8) (w : World) : Calls Tryz.prog 35 #[.string s,.string ⟨#[n,118,111,114,98,105,115]⟩] w fun e w'=>e = .returned (.bool (preM (bl s) (vorb n))) ∧ w' = w:=by
  have:=Tryz.strings_HasPrefix s ⟨#[n,118,111,114,98,105,115]⟩ w
  rw [show (⟨#[n,118,111,114,98,105,115]⟩ : ByteArray).data.toList = vorb n from rfl,hasPrefix_pre] at this
  exact this
set_option maxRecDepth 100000 in
set_option maxHeartbeats 4000000 in
theorem opens_any (p : PG) (w : World) (hl : p.la.size ≤ 1073741824) (hb : p.bo.size ≤ 1073741824) :
    Calls Tryz.prog 33 #[gV p] w fun e w'=>e = .returned (.bool (opensG p)) ∧ Below w.heap.size w w':=by
  have kj : ∀ w' : World,Calls Tryz.prog 68 #[.slice (some ⟨w'.heap.size,0,none⟩) 1 1] (w'.alloc (.cells #[.int .u8 p.fl.toNat,.int .u64 p.po,.int .u32 p.se,.int .u32 p.nu,.string p.la,.string p.bo] 27)) (JoinPost (joinG [p] 0 false [] []) (w'.alloc (.cells #[.int .u8 p.fl.toNat,.int .u64 p.po,.int .u32 p.se,.int .u32 p.nu,.string p.la,.string p.bo] 27))):=by
    intro w'
    exact gjoin_any _ [p] _ (by rw [gcells_one];exact row_lit w' _ _ 1) (by simp) (fun q hq=>by simp at hq;subst hq;exact ⟨hl,hb⟩)
  have k2:=fun w=>gfirst_any p w
  unfold opensG
  unfold gV
  unfold hV at k2
  generalize firstG p = fG at *
  generalize joinG [p] 0 false [] [] = J at *
  obtain ⟨ps,c,a⟩:=J
  simp only
  have kb:=fun w=>bad_any c a w
  have kx : ∀ (s : ByteArray) (w : World),Calls Tryz.prog 35 #[.string s,.string ⟨#[1,118,111,114,98,105,115]⟩] w fun e w'=>e = .returned (.bool (preM (bl s) (vorb 1))) ∧ w = w':=fun s w=>(prefix_any s 1 w).mono fun e w' h=>⟨h.1,h.2.symm⟩
  unfold JoinPost at kj
  simp only at kj
  obtain ⟨W,hW⟩ : ∃ W,W = w.alloc (.cells #[.int .u8 p.fl.toNat,.int .u64 p.po,.int .u32 p.se,.int .u32 p.nu,.string p.la,.string p.bo] 27):=⟨_,rfl⟩
  have hbW : Below w.heap.size w W:=by rw [hW];exact bal (Below.refl _ _) _
  have B0 : W.heap[w.heap.size]? = some (.cells #[.int .u8 p.fl.toNat,.int .u64 p.po,.int .u32 p.se,.int .u32 p.nu,.string p.la,.string p.bo] 27 (0,0)):=by rw [hW];exact heap_alloc_new _ _
  obtain ⟨p0,p1,p2,p3,p4,p5⟩:=gvL B0
  have hWs : W.heap.size = w.heap.size + 1:=by rw [hW,World.size_alloc]
  have kj:=kj W
  rw [hWs] at kj
  have hb0:=bal (Below.refl W.heap.size W) (.cells #[.int .u8 p.fl.toNat,.int .u64 p.po,.int .u32 p.se,.int .u32 p.nu,.string p.la,.string p.bo] 27)
  by_cases hc : c = 0
  · subst hc
    rw [show (!decide ((0 : Int) = 0)) = false from rfl] at kb
    by_cases hl1 : ps.length = 1
    · obtain ⟨q,rfl⟩ : ∃ q,ps = [q]:=List.length_eq_one_iff.1 hl1
      simp only [List.headD_cons,List.length_cons,List.length_nil,List.map_cons,List.map_nil] at kj ⊢
      cases fG with
      | true=>
        have hR : (decide True && decide True && true && preM q (vorb 1)) = preM (bl (toB q)) (vorb 1):=by rw [bl_toB];rfl
        rw [hR]
        have kx1:=fun w=>kx (toB q) w
        generalize preM (bl (toB q)) (vorb 1) = RR at *
        have KJ:=Lib.hid kj
        have K2:=Lib.hid k2
        have KB:=Lib.hid kb
        have KX:=Lib.hid kx1
        have HBW:=Lib.hid hbW
        have HB0:=Lib.hid B0
        clear kj k2 kb kx1 hbW B0
        clear hl1 kx hR hWs
        go_enter Tryz.func33,Tryz.ntmps33
        go_wp2_with fail
        rw [← hW]
        clear hW
        go_wp2_with (first
          | (go_at_call 68;go_loud (refine KJ.out.mono ?_);go_loud (rintro e1 w1 ⟨hb1,v,rfl,ho⟩);go_loud (have hb2:=bal (bt hb0 hb1) (.cells #[.int .i64 0,.int .i64 a] 54));go_loud (obtain ⟨f0,_⟩:=Live.fresh w1 #[.int .i64 0,.int .i64 a] 54 0 _ rfl);go_loud (obtain ⟨f1,_⟩:=Live.fresh w1 #[.int .i64 0,.int .i64 a] 54 1 _ rfl);go_loud (have hx1:=bal (Below.refl w1.heap.size w1) (.cells #[.int .i64 0,.int .i64 a] 54));go_loud (obtain ⟨av,cv,hvv,hcv⟩:=row_owns ho);go_loud (obtain ⟨gv,ov,rfl,hcell⟩:=hcv 0 (.string (toB q)) rfl);go_loud (subst hvv);go_loud (rw [Nat.add_zero] at hcell);go_loud (have hcell:=kc hx1 hcell))
          | (go_at_call 18;go_loud (refine (KB.out _).mono ?_);go_loud (rintro e3 w3 ⟨rfl,hb3⟩);go_loud (have hb4:=bt hb2 hb3);go_loud (obtain ⟨p0,p1,p2,p3,p4,p5⟩:=gvL (blkP HB0.out hb4));go_loud (have hcell:=kc hb3 hcell))
          | (go_at_call 36;go_loud (with_reducible refine (K2.out _).mono ?_);go_loud (rintro e5 w5 ⟨rfl,hb5⟩);go_loud (have hb6:=bt hb4 hb5);go_loud (have hcell:=kc hb5 hcell))
          | (go_at_call 35;go_loud (with_reducible refine (KX.out _).mono ?_);go_loud (rintro e7 w7 ⟨rfl,rfl⟩))
          | fail)
        go_ret
        exact ⟨rfl,bt HBW.out hb6⟩
      | false=>
        have hR : (decide True && decide True && false && preM q (vorb 1)) = false:=by simp
        rw [hR]
        have KJ:=Lib.hid kj
        have K2:=Lib.hid k2
        have KB:=Lib.hid kb
        have HBW:=Lib.hid hbW
        have HB0:=Lib.hid B0
        clear kj k2 kb hbW B0
        clear hl1 kx hR hWs
        go_enter Tryz.func33,Tryz.ntmps33
        go_wp2_with fail
        rw [← hW]
        clear hW
        go_wp2_with (first
          | (go_at_call 68;go_loud (refine KJ.out.mono ?_);go_loud (rintro e1 w1 ⟨hb1,v,rfl,ho⟩);go_loud (have hb2:=bal (bt hb0 hb1) (.cells #[.int .i64 0,.int .i64 a] 54));go_loud (obtain ⟨f0,_⟩:=Live.fresh w1 #[.int .i64 0,.int .i64 a] 54 0 _ rfl);go_loud (obtain ⟨f1,_⟩:=Live.fresh w1 #[.int .i64 0,.int .i64 a] 54 1 _ rfl);go_loud (have hx1:=bal (Below.refl w1.heap.size w1) (.cells #[.int .i64 0,.int .i64 a] 54));go_loud (obtain ⟨av,cv,hvv,hcv⟩:=row_owns ho);go_loud (obtain ⟨gv,ov,rfl,hcell⟩:=hcv 0 (.string (toB q)) rfl);go_loud (subst hvv);go_loud (rw [Nat.add_zero] at hcell);go_loud (have hcell:=kc hx1 hcell))
          | (go_at_call 18;go_loud (refine (KB.out _).mono ?_);go_loud (rintro e3 w3 ⟨rfl,hb3⟩);go_loud (have hb4:=bt hb2 hb3);go_loud (obtain ⟨p0,p1,p2,p3,p4,p5⟩:=gvL (blkP HB0.out hb4));go_loud (have hcell:=kc hb3 hcell))
          | (go_at_call 36;go_loud (with_reducible refine (K2.out _).mono ?_);go_loud (rintro e5 w5 ⟨rfl,hb5⟩);go_loud (have hb6:=bt hb4 hb5);go_loud (have hcell:=kc hb5 hcell))
          | fail)
        go_ret
        exact ⟨rfl,bt HBW.out hb6⟩
    · have hR : (decide ((0 : Int) = 0) && decide (ps.length = 1) && fG && preM (ps.headD []) (vorb 1)) = false:=by simp [hl1]
      rw [hR]
      generalize scells (ps.map toB) = cs at *
      generalize ps.length = m at *
      have hm1 : ((m : Int) == 1) = false:=by rw [beq_eq_false_iff_ne];omega
      have hm2 : (m == 1) = false:=by rw [beq_eq_false_iff_ne];omega
      have hm3 : ¬ (m : Int) = 1:=by omega
      have KJ:=Lib.hid kj
      have K2:=Lib.hid k2
      have KB:=Lib.hid kb
      have HBW:=Lib.hid hbW
      have HB0:=Lib.hid B0
      clear kj k2 kb hbW B0
      clear hl1 kx hR hWs
      go_enter Tryz.func33,Tryz.ntmps33
      go_wp2_with fail
      rw [← hW]
      clear hW
      go_wp2_with (first
        | (go_at_call 68;go_loud (refine KJ.out.mono ?_);go_loud (rintro e1 w1 ⟨hb1,v,rfl,ho⟩);go_loud (have hb2:=bal (bt hb0 hb1) (.cells #[.int .i64 0,.int .i64 a] 54));go_loud (obtain ⟨f0,_⟩:=Live.fresh w1 #[.int .i64 0,.int .i64 a] 54 0 _ rfl);go_loud (obtain ⟨f1,_⟩:=Live.fresh w1 #[.int .i64 0,.int .i64 a] 54 1 _ rfl);go_loud (have hx1:=bal (Below.refl w1.heap.size w1) (.cells #[.int .i64 0,.int .i64 a] 54));go_loud (obtain ⟨av,cv,rfl⟩:=orow_form ho))
        | (go_at_call 18;go_loud (refine (KB.out _).mono ?_);go_loud (rintro e3 w3 ⟨rfl,hb3⟩);go_loud (have hb4:=bt hb2 hb3))
        | fail)
      go_ret
      exact ⟨rfl,bt HBW.out hb4⟩
  · have hR : (decide (c = 0) && decide (ps.length = 1) && fG && preM (ps.headD []) (vorb 1)) = false:=by simp [hc]
    rw [hR]
    rw [show (!decide (c = 0)) = true by simpa using hc] at kb
    generalize scells (ps.map toB) = cs at *
    generalize ps.length = m at *
    have KJ:=Lib.hid kj
    have K2:=Lib.hid k2
    have KB:=Lib.hid kb
    have HBW:=Lib.hid hbW
    have HB0:=Lib.hid B0
    clear kj k2 kb hbW B0
    clear hc kx hR hWs
    go_enter Tryz.func33,Tryz.ntmps33
    go_wp2_with fail
    rw [← hW]
    clear hW
    go_wp2_with (first
      | (go_at_call 68;go_loud (refine KJ.out.mono ?_);go_loud (rintro e1 w1 ⟨hb1,v,rfl,ho⟩);go_loud (have hb2:=bal (bt hb0 hb1) (.cells #[.int .i64 c,.int .i64 a] 54));go_loud (obtain ⟨f0,_⟩:=Live.fresh w1 #[.int .i64 c,.int .i64 a] 54 0 _ rfl);go_loud (obtain ⟨f1,_⟩:=Live.fresh w1 #[.int .i64 c,.int .i64 a] 54 1 _ rfl);go_loud (have hx1:=bal (Below.refl w1.heap.size w1) (.cells #[.int .i64 c,.int .i64 a] 54));go_loud (obtain ⟨av,cv,rfl⟩:=orow_form ho))
      | (go_at_call 18;go_loud (refine (KB.out _).mono ?_);go_loud (rintro e3 w3 ⟨rfl,hb3⟩);go_loud (have hb4:=bt hb2 hb3))
      | fail)
    go_ret
    exact ⟨rfl,bt HBW.out hb4⟩
end Go.Proofs.YtnbglcaeekppjaaGreatDoor

namespace Go.Proofs.YtnbglcaeekppjaaGreatDoor
open Go.RowKit
set_option linter.unusedVariables false
set_option linter.unusedSimpArgs false

theorem gcells_drop : ∀ (l : List PG) (i : Nat),gcells (l.drop i) = (gcells l).drop (i * 6)
  | l,0=>by simp
  | [],i + 1=>by simp [gcells]
  | p :: r,i + 1=>by
    have h:=gcells_drop r i
    unfold gcells at h ⊢
    rw [List.drop_succ_cons,h,List.flatMap_cons,show (i + 1) * 6 = (g1cells p).length + i * 6 by show _ = 6 + _;omega,← List.drop_drop,List.drop_left]
theorem gcells_take : ∀ (l : List PG) (i : Nat),gcells (l.take i) = (gcells l).take (i * 6)
  | l,0=>by simp [gcells]
  | [],i + 1=>by simp [gcells]
  | p :: r,i + 1=>by
    have h:=gcells_take r i
    unfold gcells at h ⊢
    rw [List.take_succ_cons,List.flatMap_cons,h,List.flatMap_cons,show (i + 1) * 6 = (g1cells p).length + i * 6 by show _ = 6 + _;omega,List.take_length_add_append]
/-- some pages out of a row. -/
theorem row_sub {w : World} {g o c : Nat} {l : List PG} (hc : ∀ (j : Nat) (x : Value),(gcells l)[j]? = some x → w.cell? ⟨g,o + j,none⟩ = some x) (i m : Nat) :
    Row w (.slice (some ⟨g,o + i * 6,none⟩) m c) m (gcells ((l.drop i).take m)):=by
  refine ⟨_,_,rfl,fun j x hj=>⟨g,o + i * 6,rfl,?_⟩⟩
  rw [gcells_take,gcells_drop,List.getElem?_take] at hj
  split at hj
  · rw [List.getElem?_drop] at hj
    rw [Nat.add_assoc]
    exact hc _ _ hj
  · cases hj
theorem second_bd : ∀ (r : List PG) (i c k : Nat),secondF r i c = some k → i ≤ k ∧ k < i + r.length
  | [],i,c,k,h=>by simp [secondF] at h
  | p :: r,i,c,k,h=>by
    rw [secondF] at h
    split at h
    · simp only [Option.some.injEq] at h
      rw [List.length_cons]
      omega
    · have:=second_bd r _ _ k h
      rw [List.length_cons]
      omega
theorem join_code : ∀ (l : List PG) (i : Nat) (op : Bool) (ps : List (List UInt8)) (part : List UInt8),((joinG l i op ps part).2.1 = 0 ∧ (joinG l i op ps part).2.2 = 0) ∨ ((joinG l i op ps part).2.1 = 1 ∧ ∃ j : Nat,(joinG l i op ps part).2.2 = (j : Int) ∧ j ≤ i + l.length)
  | [],i,op,ps,part=>by
    rw [joinG]
    cases op with
    | true=>exact .inr ⟨rfl,i,rfl,Nat.le_refl _⟩
    | false=>exact .inl ⟨rfl,rfl⟩
  | p :: r,i,op,ps,part=>by
    rw [joinG]
    split
    · exact .inr ⟨rfl,i,rfl,by omega⟩
    · rcases join_code r (i + 1) (openL op (bl p.la)) (ps ++ (cutG (bl p.la) (bl p.bo) part).1) (cutG (bl p.la) (bl p.bo) part).2 with h | ⟨h,j,hj,hl⟩
      · exact .inl h
      · exact .inr ⟨h,j,hj,by rw [List.length_cons];omega⟩
theorem plV_at (l : List Nat) (i : Nat) (h : i < l.length) : (ncells (plV l))[i]? = some (.int .i64 ((l.getD i 0 : Nat) : Int)):=by
  unfold ncells plV
  rw [List.getElem?_map,List.getElem?_map,List.getElem?_eq_getElem h]
  simp [List.getD,h]
/-- what pair answers. -/
def PairPost (R : (List (List UInt8) × Nat) ⊕ Nat) (w : World) (e : Ending) (w' : World) : Prop:=Below w.heap.size w w' ∧ match R with
  | .inr a=>e = .returned (.tuple #[.slice none 0 0,.int .i64 0,.agg #[.int .i64 1,.int .i64 (a : Int)]])
  | .inl q=>∃ v,e = .returned (.tuple #[v,.int .i64 (q.2 : Int),.agg #[.int .i64 0,.int .i64 0]]) ∧ w'.ownsRow w.heap.size 9 1 v q.1.length (scells (q.1.map toB))
theorem orow_parts {w : World} {B : Nat} {e : TypeId} {s n : Nat} {v : Value} {cs : List Value} (h : w.ownsRow B e s v n cs) (hn : n ≠ 0) :
    ∃ g cap,v = .slice (some ⟨g,0,none⟩) n cap ∧ B ≤ g ∧ n ≤ cap ∧ cap ≤ maxLen ∧ ∀ (j : Nat) (x : Value),cs[j]? = some x → w.cell? ⟨g,0 + j,none⟩ = some x:=by
  have h':=h
  rcases h.2 with ⟨_,h0⟩ | ⟨g,cap,cur,rfl,hg,hh,hnc,hcm,hcs,htk⟩
  · exact absurd h0 hn
  · refine ⟨g,cap,rfl,hg,hnc,hcm,fun j x hj=>?_⟩
    have hl : j < n * s:=by have:=(List.getElem?_eq_some_iff.1 hj).1;have:=h.1;omega
    rw [Nat.zero_add,h'.cellAt j hl]
    exact hj
set_option maxRecDepth 100000 in
set_option maxHeartbeats 8000000 in
theorem pair_any (s : ByteArray) (B : Nat) (v u : Value) (p0 : PG) (r : List PG) (at_ : List Nat) (w : World) (hown : w.ownsRow B 27 6 v (r.length + 1) (gcells (p0 :: r))) (hat : Row w u at_.length (ncells (plV at_))) (hlen : at_.length = r.length + 1) (hn : r.length ≤ 1900000) (hss : s.size ≤ 1073741824) (hsm : ∀ p ∈ p0 :: r,p.la.size ≤ 1073741824 ∧ p.bo.size ≤ 1073741824) :
    Calls Tryz.prog 42 #[.string s,v,u] w (PairPost (pairM s.size r at_) w):=by
  have hrow:=row_owns hown
  obtain ⟨g,cap,rfl,_,hcap,hcm,hc0⟩:=orow_parts hown (by omega)
  obtain ⟨au,cu,rfl,hcu⟩:=hat
  obtain ⟨R,hR⟩ : ∃ R,R = pairM s.size r at_:=⟨_,rfl⟩
  rw [← hR]
  unfold pairM at hR
  have ksec : ∀ w',Below w.heap.size w w' → Calls Tryz.prog 76 #[.slice (some ⟨g,0,none⟩) (r.length + 1) cap] w' fun e w''=>e = .returned (.int .i64 (optI (secondF r 1 0))) ∧ w' = w'':=fun w' hb=>gsecond_any _ (p0 :: r) w' (hrow.keep hb) (by rw [List.length_cons];omega) (fun p hp=>(hsm p hp).1)
  obtain ⟨n,hn'⟩ : ∃ n,n = r.length + 1:=⟨_,rfl⟩
  rw [← hn'] at hcap ksec ⊢
  rw [hlen,← hn'] 
  have kmal:=fun a w=>gmalf_any a w
  obtain ⟨W,hW⟩ : ∃ W,W = w.alloc (.cells #[.int .i64 0,.int .i64 0] 54):=⟨_,rfl⟩
  have hbW : Below w.heap.size w W:=by rw [hW];exact bal (Below.refl _ _) _
  have F : W.heap[w.heap.size]? = some (.cells #[.int .i64 0,.int .i64 0] 54 (0,0)):=by rw [hW];exact heap_alloc_new _ _
  have KF : Hid (∀ wz,Below W.heap.size W wz → wz.cell? ⟨w.heap.size,0,none⟩ = some (.int .i64 0) ∧ wz.frozen? ⟨w.heap.size,0,none⟩ = false ∧ wz.cell? ⟨w.heap.size,1,none⟩ = some (.int .i64 0) ∧ wz.frozen? ⟨w.heap.size,1,none⟩ = false):=Lib.hid fun wz hb=>by
    have hF:=blkP F hb
    exact ⟨(live_of hF 0 _ rfl).1,(live_of hF 0 _ rfl).2,(live_of hF 1 _ rfl).1,(live_of hF 1 _ rfl).2⟩
  have KEND : Hid (∀ wz x y,Below W.heap.size W wz → Below w.heap.size w ((wz.setCell ⟨w.heap.size,0,none⟩ x).setCell ⟨w.heap.size,1,none⟩ y)):=Lib.hid fun wz x y hb=>((hbW.trans (hb.mono hbW.size)).setCell (by simp) _).setCell (by simp) _
  have KWS : Hid (W.heap.size = w.heap.size + 1):=Lib.hid (by rw [hW,World.size_alloc])
  clear F hown
  cases hs2 : secondF r 1 0 with
  | none=>
    rw [hs2] at hR ksec
    unfold optI at ksec
    simp only at hR ksec
    have HR:=Lib.hid hR
    have KSEC:=Lib.hid ksec
    have KMAL:=Lib.hid kmal
    have HBW:=Lib.hid hbW
    have HCU:=Lib.hid hcu
    have HROW:=Lib.hid hrow
    have HSM:=Lib.hid hsm
    have HC0:=Lib.hid hc0
    have HN:=Lib.hid hn'
    have HLEN:=Lib.hid hlen
    clear hR ksec kmal hbW hcu hrow hsm hc0 hn' hlen
    clear hs2 hcap hcm
    go_enter Tryz.func42,Tryz.ntmps42
    go_wp2_with fail
    rw [← hW]
    clear hW
    go_wp2_with (first
      | (go_at_call 76;go_loud (with_reducible refine (KSEC.out _ HBW.out).mono ?_);go_loud (rintro e1 w1 ⟨rfl,rfl⟩))
      | (go_at_call 41;go_loud (with_reducible refine (KMAL.out _ _).mono ?_);go_loud (rintro e2 w2 ⟨rfl,hb2⟩);go_loud (obtain ⟨q0,q0',q1,q1'⟩:=KF.out _ hb2))
      | fail)
    refine bodyPost_ret (v:=.tuple #[.slice none 0 0,.int .i64 0,.agg #[.int .i64 1,.int .i64 s.size]]) (by simp [results,Tryz.results42,go_sem,q0,q1,q0',q1']) rfl ?_
    rw [HR.out]
    exact ⟨KEND.out _ _ _ hb2,rfl⟩
  | some k=>
    rw [hs2] at hR ksec
    unfold optI at ksec
    simp only at hR ksec
    obtain ⟨k1,k2⟩:=second_bd _ _ _ _ hs2
    have kj : ∀ (c : Nat) (w' : World),Below w.heap.size w w' → Calls Tryz.prog 68 #[.slice (some ⟨g,6,none⟩) k c] w' (JoinPost (joinG (r.take k) 0 false [] []) w'):=by
      intro c w' hb
      have hlk : (r.take k).length = k:=by rw [List.length_take];omega
      have hr:=row_sub (w:=w') (c:=c) (fun j x hj=>kc hb (hc0 j x hj)) 1 k
      have:=gjoin_any (.slice (some ⟨g,6,none⟩) k c) (r.take k) w' (by rw [hlk];exact hr) (by omega) (fun p hp=>hsm p (List.mem_cons_of_mem _ (List.mem_of_mem_take hp)))
      exact this
    have hjc:=join_code (r.take k) 0 false [] []
    have hlk : (r.take k).length = k:=by rw [List.length_take];omega
    rw [hlk] at hjc
    generalize joinG (r.take k) 0 false [] [] = J at *
    obtain ⟨ps,c,a⟩:=J
    simp only at hR hjc
    unfold JoinPost at kj
    simp only at kj
    have kb:=fun w=>bad_any c a w
    have hw1 : IntKind.i64.wrap ((k : Int) + 1) = (k : Int) + 1:=wi64 _ (by omega) (by omega)
    have l1 : (1 : Int) ≤ (k : Int) + 1:=by omega
    have l2 : (k : Int) + 1 ≤ (n : Int):=by omega
    have l3 : (k : Int) + 1 ≤ (cap : Int):=by omega
    have l4 : ¬ (k : Int) < 0:=by omega
    rcases hjc with ⟨rfl,rfl⟩ | ⟨rfl,j,rfl,hj⟩
    · rw [show (!decide ((0 : Int) = 0)) = false from rfl] at kb
      rw [if_neg (by simp)] at hR
      by_cases hp2 : ps.length = 2
      · rw [if_neg (by simp [hp2])] at hR
        rw [hp2] at kj
        by_cases hct : contO r[k]? = true
        · rw [if_pos hct] at hR
          obtain ⟨q,hq⟩ : ∃ q,r[k]? = some q:=by
            cases hrk : r[k]? with
            | none=>rw [hrk] at hct;cases hct
            | some q=>exact ⟨q,rfl⟩
          have hkr:=(List.getElem?_eq_some_iff.1 hq).1
          rw [hq] at hct
          have hct : contG q = true:=hct
          obtain ⟨g',o',he,z0,z1,z2,z3,_,_⟩:=g_at (l:=p0 :: r) (av:=some ⟨g,0,none⟩) (w:=w) (fun jj x hx=>⟨g,0,rfl,hc0 jj x hx⟩) (k + 1) q (by simpa using hq)
          simp only [Option.some.injEq,Addr.mk.injEq,and_true] at he
          obtain ⟨rfl,rfl⟩:=he
          have kh:=fun w=>gcont_any q w
          rw [hct] at kh
          unfold hV at kh
          have KZ : Hid (∀ wz,Below W.heap.size W wz → wz.cell? ⟨g,0 + (k + 1) * 6,none⟩ = some (.int .u8 q.fl.toNat) ∧ wz.cell? ⟨g,0 + (k + 1) * 6 + 1,none⟩ = some (.int .u64 q.po) ∧ wz.cell? ⟨g,0 + (k + 1) * 6 + 2,none⟩ = some (.int .u32 q.se) ∧ wz.cell? ⟨g,0 + (k + 1) * 6 + 3,none⟩ = some (.int .u32 q.nu)):=Lib.hid fun wz hb=>⟨kc hb (kc hbW z0),kc hb (kc hbW z1),kc hb (kc hbW z2),kc hb (kc hbW z3)⟩
          have l5 : (k : Int) + 1 < (n : Int):=by omega
          have KH:=Lib.hid kh
          clear kh z0 z1 z2 z3 hct hq
          have hx:=plV_at at_ (k + 1) (by omega)
          obtain ⟨ga,oa,hae,ca⟩:=hcu _ _ hx
          subst hae
          have KAT : Hid (∀ wz,Below W.heap.size W wz → wz.cell? ⟨ga,oa + (k + 1),none⟩ = some (.int .i64 ((at_.getD (k + 1) 0 : Nat) : Int))):=Lib.hid fun wz hb=>kc hb (kc hbW ca)
          clear hx ca
          obtain ⟨A,hA⟩ : ∃ A : Int,A = ((at_.getD (k + 1) 0 : Nat) : Int):=⟨_,rfl⟩
          rw [← hA] at KAT
          have HA:=Lib.hid hA
          have HR:=Lib.hid hR
          clear hA hR
          have KSEC:=Lib.hid ksec
          have KMAL:=Lib.hid kmal
          have HBW:=Lib.hid hbW
          have HCU:=Lib.hid hcu
          have HROW:=Lib.hid hrow
          have HSM:=Lib.hid hsm
          have HC0:=Lib.hid hc0
          have HN:=Lib.hid hn'
          have HLEN:=Lib.hid hlen
          have KJ:=Lib.hid kj
          have KB:=Lib.hid kb
          clear ksec kmal hbW hcu hrow hsm hc0 hn' hlen kj kb
          clear hs2 hcm hlk
          go_enter Tryz.func42,Tryz.ntmps42
          go_wp2_with fail
          rw [← hW]
          clear hW
          go_wp2_with (first
            | (go_at_call 76;go_loud (with_reducible refine (KSEC.out _ HBW.out).mono ?_);go_loud (rintro e1 w1 ⟨rfl,rfl⟩))
            | (go_at_call 68;go_loud (with_reducible refine (KJ.out _ _ HBW.out).mono ?_);go_loud (rintro e1 w1 ⟨hb1,v,rfl,ho⟩);go_loud (obtain ⟨av,cv,rfl⟩:=orow_form ho);go_loud (have hbA:=bal hb1 (.cells #[.int .i64 0,.int .i64 0] 54));go_loud (have KFA : Hid (∀ wz,Below (w1.alloc (.cells #[.int .i64 0,.int .i64 0] 54)).heap.size (w1.alloc (.cells #[.int .i64 0,.int .i64 0] 54)) wz → wz.cell? ⟨w1.heap.size,0,none⟩ = some (.int .i64 0) ∧ wz.cell? ⟨w1.heap.size,1,none⟩ = some (.int .i64 0)):=Lib.hid fun wz hb=>⟨((Live.fresh w1 #[.int .i64 0,.int .i64 0] 54 0 _ rfl).keep hb).1,((Live.fresh w1 #[.int .i64 0,.int .i64 0] 54 1 _ rfl).keep hb).1⟩);go_loud (have hbk:=Below.refl (w1.alloc (.cells #[.int .i64 0,.int .i64 0] 54)).heap.size (w1.alloc (.cells #[.int .i64 0,.int .i64 0] 54)));go_loud (clear hb1))
            | (go_at_call 18;go_loud (refine (KB.out _).mono ?_);go_loud (rintro e2 w2 ⟨rfl,hb2⟩);go_loud (replace hbk:=bt hbk hb2);go_loud (clear hb2);go_loud (obtain ⟨f0,f1⟩:=KFA.out _ hbk);go_loud (obtain ⟨z0,z1,z2,z3⟩:=KZ.out _ (bt hbA hbk));go_loud (try rw [Nat.zero_add] at z0);go_loud (try rw [Nat.zero_add] at z1);go_loud (try rw [Nat.zero_add] at z2);go_loud (try rw [Nat.zero_add] at z3))
            | (go_at_call 36;go_loud (with_reducible refine (KH.out _).mono ?_);go_loud (rintro e2 w2 ⟨rfl,hb2⟩);go_loud (replace hbk:=bt hbk hb2);go_loud (clear hb2);go_loud (have ca:=KAT.out _ (bt hbA hbk)))
            | (go_at_call 41;go_loud (with_reducible refine (KMAL.out _ _).mono ?_);go_loud (rintro e2 w2 ⟨rfl,hb2⟩);go_loud (replace hbk:=bt hbk hb2);go_loud (clear hb2);go_loud (obtain ⟨q0,q0',q1,q1'⟩:=KF.out _ (bt hbA hbk)))
            | fail)
          refine bodyPost_ret (v:=.tuple #[.slice none 0 0,.int .i64 0,.agg #[.int .i64 1,.int .i64 A]]) (by simp [results,Tryz.results42,go_sem,q0,q1,q0',q1']) rfl ?_
          rw [HR.out]
          refine ⟨KEND.out _ _ _ (bt hbA hbk),?_⟩
          show Ending.returned _ = Ending.returned _
          rw [HA.out]
        · rw [if_neg hct] at hR
          have HR:=Lib.hid hR
          clear hR
          by_cases hkr : k < r.length
          · obtain ⟨q,hq⟩:=at_some r k hkr
            rw [hq] at hct
            have hct : contG q = false:=by cases hh : contG q with
              | true=>exact absurd hh hct
              | false=>rfl
            obtain ⟨g',o',he,z0,z1,z2,z3,_,_⟩:=g_at (l:=p0 :: r) (av:=some ⟨g,0,none⟩) (w:=w) (fun jj x hx=>⟨g,0,rfl,hc0 jj x hx⟩) (k + 1) q (by simpa using hq)
            simp only [Option.some.injEq,Addr.mk.injEq,and_true] at he
            obtain ⟨rfl,rfl⟩:=he
            have kh:=fun w=>gcont_any q w
            rw [hct] at kh
            unfold hV at kh
            have KZ : Hid (∀ wz,Below W.heap.size W wz → wz.cell? ⟨g,0 + (k + 1) * 6,none⟩ = some (.int .u8 q.fl.toNat) ∧ wz.cell? ⟨g,0 + (k + 1) * 6 + 1,none⟩ = some (.int .u64 q.po) ∧ wz.cell? ⟨g,0 + (k + 1) * 6 + 2,none⟩ = some (.int .u32 q.se) ∧ wz.cell? ⟨g,0 + (k + 1) * 6 + 3,none⟩ = some (.int .u32 q.nu)):=Lib.hid fun wz hb=>⟨kc hb (kc hbW z0),kc hb (kc hbW z1),kc hb (kc hbW z2),kc hb (kc hbW z3)⟩
            have l5 : (k : Int) + 1 < (n : Int):=by omega
            have KH:=Lib.hid kh
            clear kh z0 z1 z2 z3 hct hq
            have KSEC:=Lib.hid ksec
            have KMAL:=Lib.hid kmal
            have HBW:=Lib.hid hbW
            have HCU:=Lib.hid hcu
            have HROW:=Lib.hid hrow
            have HSM:=Lib.hid hsm
            have HC0:=Lib.hid hc0
            have HN:=Lib.hid hn'
            have HLEN:=Lib.hid hlen
            have KJ:=Lib.hid kj
            have KB:=Lib.hid kb
            clear ksec kmal hbW hcu hrow hsm hc0 hn' hlen kj kb
            clear hs2 hcm hlk
            go_enter Tryz.func42,Tryz.ntmps42
            go_wp2_with fail
            rw [← hW]
            clear hW
            go_wp2_with (first
              | (go_at_call 76;go_loud (with_reducible refine (KSEC.out _ HBW.out).mono ?_);go_loud (rintro e1 w1 ⟨rfl,rfl⟩))
              | (go_at_call 68;go_loud (with_reducible refine (KJ.out _ _ HBW.out).mono ?_);go_loud (rintro e1 w1 ⟨hb1,v,rfl,ho⟩);go_loud (obtain ⟨av,cv,rfl⟩:=orow_form ho);go_loud (have hbA:=bal hb1 (.cells #[.int .i64 0,.int .i64 0] 54));go_loud (have KFA : Hid (∀ wz,Below (w1.alloc (.cells #[.int .i64 0,.int .i64 0] 54)).heap.size (w1.alloc (.cells #[.int .i64 0,.int .i64 0] 54)) wz → wz.cell? ⟨w1.heap.size,0,none⟩ = some (.int .i64 0) ∧ wz.cell? ⟨w1.heap.size,1,none⟩ = some (.int .i64 0)):=Lib.hid fun wz hb=>⟨((Live.fresh w1 #[.int .i64 0,.int .i64 0] 54 0 _ rfl).keep hb).1,((Live.fresh w1 #[.int .i64 0,.int .i64 0] 54 1 _ rfl).keep hb).1⟩);go_loud (have hbk:=Below.refl (w1.alloc (.cells #[.int .i64 0,.int .i64 0] 54)).heap.size (w1.alloc (.cells #[.int .i64 0,.int .i64 0] 54)));go_loud (clear hb1))
              | (go_at_call 18;go_loud (refine (KB.out _).mono ?_);go_loud (rintro e2 w2 ⟨rfl,hb2⟩);go_loud (replace hbk:=bt hbk hb2);go_loud (clear hb2);go_loud (obtain ⟨f0,f1⟩:=KFA.out _ hbk);go_loud (obtain ⟨z0,z1,z2,z3⟩:=KZ.out _ (bt hbA hbk));go_loud (try rw [Nat.zero_add] at z0);go_loud (try rw [Nat.zero_add] at z1);go_loud (try rw [Nat.zero_add] at z2);go_loud (try rw [Nat.zero_add] at z3))
              | (go_at_call 36;go_loud (with_reducible refine (KH.out _).mono ?_);go_loud (rintro e2 w2 ⟨rfl,hb2⟩);go_loud (replace hbk:=bt hbk hb2);go_loud (clear hb2);go_loud (obtain ⟨q0,q0',q1,q1'⟩:=KF.out _ (bt hbA hbk)))
              | fail)
            refine bodyPost_ret (v:=.tuple #[.slice av 2 cv,.int .i64 (k : Int),.agg #[.int .i64 0,.int .i64 0]]) (by simp [results,Tryz.results42,go_sem,q0,q1,q0',q1']) rfl ?_
            rw [HR.out]
            refine ⟨KEND.out _ _ _ (bt hbA hbk),_,rfl,?_⟩
            show World.ownsRow _ _ _ _ _ ps.length _
            rw [hp2]
            exact orow_mono (orow_other (orow_bel (orow_bel ho (bal (Below.refl _ _) _)) hbk) fun q hq=>by
              have:=(orow_blk (orow_bel (orow_bel ho (bal (Below.refl _ _) _)) hbk) q hq).1
              have:=KWS.out
              rw [Below.heap_setCell _ _ _ q (by simp;omega),Below.heap_setCell _ _ _ q (by simp;omega)]) HBW.out.size
          · have l5 : ¬ (k : Int) + 1 < (n : Int):=by omega
            have KSEC:=Lib.hid ksec
            have KMAL:=Lib.hid kmal
            have HBW:=Lib.hid hbW
            have HCU:=Lib.hid hcu
            have HROW:=Lib.hid hrow
            have HSM:=Lib.hid hsm
            have HC0:=Lib.hid hc0
            have HN:=Lib.hid hn'
            have HLEN:=Lib.hid hlen
            have KJ:=Lib.hid kj
            have KB:=Lib.hid kb
            clear ksec kmal hbW hcu hrow hsm hc0 hn' hlen kj kb
            clear hs2 hcm hlk
            go_enter Tryz.func42,Tryz.ntmps42
            go_wp2_with fail
            rw [← hW]
            clear hW
            go_wp2_with (first
              | (go_at_call 76;go_loud (with_reducible refine (KSEC.out _ HBW.out).mono ?_);go_loud (rintro e1 w1 ⟨rfl,rfl⟩))
              | (go_at_call 68;go_loud (with_reducible refine (KJ.out _ _ HBW.out).mono ?_);go_loud (rintro e1 w1 ⟨hb1,v,rfl,ho⟩);go_loud (obtain ⟨av,cv,rfl⟩:=orow_form ho);go_loud (have hbA:=bal hb1 (.cells #[.int .i64 0,.int .i64 0] 54));go_loud (have KFA : Hid (∀ wz,Below (w1.alloc (.cells #[.int .i64 0,.int .i64 0] 54)).heap.size (w1.alloc (.cells #[.int .i64 0,.int .i64 0] 54)) wz → wz.cell? ⟨w1.heap.size,0,none⟩ = some (.int .i64 0) ∧ wz.cell? ⟨w1.heap.size,1,none⟩ = some (.int .i64 0)):=Lib.hid fun wz hb=>⟨((Live.fresh w1 #[.int .i64 0,.int .i64 0] 54 0 _ rfl).keep hb).1,((Live.fresh w1 #[.int .i64 0,.int .i64 0] 54 1 _ rfl).keep hb).1⟩);go_loud (have hbk:=Below.refl (w1.alloc (.cells #[.int .i64 0,.int .i64 0] 54)).heap.size (w1.alloc (.cells #[.int .i64 0,.int .i64 0] 54)));go_loud (clear hb1))
              | (go_at_call 18;go_loud (refine (KB.out _).mono ?_);go_loud (rintro e2 w2 ⟨rfl,hb2⟩);go_loud (replace hbk:=bt hbk hb2);go_loud (clear hb2);go_loud (obtain ⟨f0,f1⟩:=KFA.out _ hbk);go_loud (obtain ⟨q0,q0',q1,q1'⟩:=KF.out _ (bt hbA hbk)))
              | fail)
            refine bodyPost_ret (v:=.tuple #[.slice av 2 cv,.int .i64 (k : Int),.agg #[.int .i64 0,.int .i64 0]]) (by simp [results,Tryz.results42,go_sem,q0,q1,q0',q1']) rfl ?_
            rw [HR.out]
            refine ⟨KEND.out _ _ _ (bt hbA hbk),_,rfl,?_⟩
            show World.ownsRow _ _ _ _ _ ps.length _
            rw [hp2]
            exact orow_mono (orow_other (orow_bel (orow_bel ho (bal (Below.refl _ _) _)) hbk) fun q hq=>by
              have:=(orow_blk (orow_bel (orow_bel ho (bal (Below.refl _ _) _)) hbk) q hq).1
              have:=KWS.out
              rw [Below.heap_setCell _ _ _ q (by simp;omega),Below.heap_setCell _ _ _ q (by simp;omega)]) HBW.out.size
      · rw [if_pos (.inr hp2)] at hR
        generalize scells (ps.map toB) = cs at *
        generalize ps.length = m at *
        have m1 : ((m : Int) == 2) = false:=by rw [beq_eq_false_iff_ne];omega
        have m2 : (m == 2) = false:=by rw [beq_eq_false_iff_ne];omega
        have m3 : ¬ (m : Int) = 2:=by omega
        clear hp2
        have hx:=plV_at at_ (k) (by omega)
        obtain ⟨ga,oa,hae,ca⟩:=hcu _ _ hx
        subst hae
        have KAT : Hid (∀ wz,Below W.heap.size W wz → wz.cell? ⟨ga,oa + (k),none⟩ = some (.int .i64 ((at_.getD (k) 0 : Nat) : Int))):=Lib.hid fun wz hb=>kc hb (kc hbW ca)
        clear hx ca
        obtain ⟨A,hA⟩ : ∃ A : Int,A = ((at_.getD (k) 0 : Nat) : Int):=⟨_,rfl⟩
        rw [← hA] at KAT
        have HA:=Lib.hid hA
        have HR:=Lib.hid hR
        clear hA hR
        have KSEC:=Lib.hid ksec
        have KMAL:=Lib.hid kmal
        have HBW:=Lib.hid hbW
        have HCU:=Lib.hid hcu
        have HROW:=Lib.hid hrow
        have HSM:=Lib.hid hsm
        have HC0:=Lib.hid hc0
        have HN:=Lib.hid hn'
        have HLEN:=Lib.hid hlen
        have KJ:=Lib.hid kj
        have KB:=Lib.hid kb
        clear ksec kmal hbW hcu hrow hsm hc0 hn' hlen kj kb
        clear hs2 hcm hlk
        go_enter Tryz.func42,Tryz.ntmps42
        go_wp2_with fail
        rw [← hW]
        clear hW
        go_wp2_with (first
          | (go_at_call 76;go_loud (with_reducible refine (KSEC.out _ HBW.out).mono ?_);go_loud (rintro e1 w1 ⟨rfl,rfl⟩))
          | (go_at_call 68;go_loud (with_reducible refine (KJ.out _ _ HBW.out).mono ?_);go_loud (rintro e1 w1 ⟨hb1,v,rfl,ho⟩);go_loud (obtain ⟨av,cv,rfl⟩:=orow_form ho);go_loud (have hbA:=bal hb1 (.cells #[.int .i64 0,.int .i64 0] 54));go_loud (have KFA : Hid (∀ wz,Below (w1.alloc (.cells #[.int .i64 0,.int .i64 0] 54)).heap.size (w1.alloc (.cells #[.int .i64 0,.int .i64 0] 54)) wz → wz.cell? ⟨w1.heap.size,0,none⟩ = some (.int .i64 0) ∧ wz.cell? ⟨w1.heap.size,1,none⟩ = some (.int .i64 0)):=Lib.hid fun wz hb=>⟨((Live.fresh w1 #[.int .i64 0,.int .i64 0] 54 0 _ rfl).keep hb).1,((Live.fresh w1 #[.int .i64 0,.int .i64 0] 54 1 _ rfl).keep hb).1⟩);go_loud (have hbk:=Below.refl (w1.alloc (.cells #[.int .i64 0,.int .i64 0] 54)).heap.size (w1.alloc (.cells #[.int .i64 0,.int .i64 0] 54)));go_loud (clear hb1))
          | (go_at_call 18;go_loud (refine (KB.out _).mono ?_);go_loud (rintro e2 w2 ⟨rfl,hb2⟩);go_loud (replace hbk:=bt hbk hb2);go_loud (clear hb2);go_loud (obtain ⟨f0,f1⟩:=KFA.out _ hbk);go_loud (have ca:=KAT.out _ (bt hbA hbk)))
          | (go_at_call 41;go_loud (with_reducible refine (KMAL.out _ _).mono ?_);go_loud (rintro e2 w2 ⟨rfl,hb2⟩);go_loud (replace hbk:=bt hbk hb2);go_loud (clear hb2);go_loud (obtain ⟨q0,q0',q1,q1'⟩:=KF.out _ (bt hbA hbk)))
          | fail)
        refine bodyPost_ret (v:=.tuple #[.slice none 0 0,.int .i64 0,.agg #[.int .i64 1,.int .i64 A]]) (by simp [results,Tryz.results42,go_sem,q0,q1,q0',q1']) rfl ?_
        rw [HR.out]
        refine ⟨KEND.out _ _ _ (bt hbA hbk),?_⟩
        show Ending.returned _ = Ending.returned _
        rw [HA.out]
    · rw [show (!decide ((1 : Int) = 0)) = true from rfl] at kb
      generalize scells (ps.map toB) = cs at *
      generalize ps.length = m at *
      by_cases hjk : j < k
      · rw [if_pos ⟨by decide,by omega⟩,show ((j : Int)).toNat = j from rfl] at hR
        have l5 : (j : Int) < (k : Int):=by omega
        have hwj : IntKind.i64.wrap (1 + (j : Int)) = ((1 + j : Nat) : Int):=by rw [wi64 _ (by omega) (by omega)];omega
        have l6 : ((1 + j : Nat) : Int) < (n : Int):=by omega
        have hx:=plV_at at_ (1 + j) (by omega)
        obtain ⟨ga,oa,hae,ca⟩:=hcu _ _ hx
        subst hae
        have KAT : Hid (∀ wz,Below W.heap.size W wz → wz.cell? ⟨ga,oa + (1 + j),none⟩ = some (.int .i64 ((at_.getD (1 + j) 0 : Nat) : Int))):=Lib.hid fun wz hb=>kc hb (kc hbW ca)
        clear hx ca
        obtain ⟨A,hA⟩ : ∃ A : Int,A = ((at_.getD (1 + j) 0 : Nat) : Int):=⟨_,rfl⟩
        rw [← hA] at KAT
        have HA:=Lib.hid hA
        have HR:=Lib.hid hR
        clear hA hR
        have KSEC:=Lib.hid ksec
        have KMAL:=Lib.hid kmal
        have HBW:=Lib.hid hbW
        have HCU:=Lib.hid hcu
        have HROW:=Lib.hid hrow
        have HSM:=Lib.hid hsm
        have HC0:=Lib.hid hc0
        have HN:=Lib.hid hn'
        have HLEN:=Lib.hid hlen
        have KJ:=Lib.hid kj
        have KB:=Lib.hid kb
        clear ksec kmal hbW hcu hrow hsm hc0 hn' hlen kj kb
        clear hs2 hcm hlk
        go_enter Tryz.func42,Tryz.ntmps42
        go_wp2_with fail
        rw [← hW]
        clear hW
        go_wp2_with (first
          | (go_at_call 76;go_loud (with_reducible refine (KSEC.out _ HBW.out).mono ?_);go_loud (rintro e1 w1 ⟨rfl,rfl⟩))
          | (go_at_call 68;go_loud (with_reducible refine (KJ.out _ _ HBW.out).mono ?_);go_loud (rintro e1 w1 ⟨hb1,v,rfl,ho⟩);go_loud (obtain ⟨av,cv,rfl⟩:=orow_form ho);go_loud (have hbA:=bal hb1 (.cells #[.int .i64 1,.int .i64 (j : Int)] 54));go_loud (have KFA : Hid (∀ wz,Below (w1.alloc (.cells #[.int .i64 1,.int .i64 (j : Int)] 54)).heap.size (w1.alloc (.cells #[.int .i64 1,.int .i64 (j : Int)] 54)) wz → wz.cell? ⟨w1.heap.size,0,none⟩ = some (.int .i64 1) ∧ wz.cell? ⟨w1.heap.size,1,none⟩ = some (.int .i64 (j : Int))):=Lib.hid fun wz hb=>⟨((Live.fresh w1 #[.int .i64 1,.int .i64 (j : Int)] 54 0 _ rfl).keep hb).1,((Live.fresh w1 #[.int .i64 1,.int .i64 (j : Int)] 54 1 _ rfl).keep hb).1⟩);go_loud (have hbk:=Below.refl (w1.alloc (.cells #[.int .i64 1,.int .i64 (j : Int)] 54)).heap.size (w1.alloc (.cells #[.int .i64 1,.int .i64 (j : Int)] 54)));go_loud (clear hb1))
          | (go_at_call 18;go_loud (refine (KB.out _).mono ?_);go_loud (rintro e2 w2 ⟨rfl,hb2⟩);go_loud (replace hbk:=bt hbk hb2);go_loud (clear hb2);go_loud (obtain ⟨f0,f1⟩:=KFA.out _ hbk);go_loud (have ca:=KAT.out _ (bt hbA hbk)))
          | (go_at_call 41;go_loud (with_reducible refine (KMAL.out _ _).mono ?_);go_loud (rintro e2 w2 ⟨rfl,hb2⟩);go_loud (replace hbk:=bt hbk hb2);go_loud (clear hb2);go_loud (obtain ⟨q0,q0',q1,q1'⟩:=KF.out _ (bt hbA hbk)))
          | fail)
        refine bodyPost_ret (v:=.tuple #[.slice none 0 0,.int .i64 0,.agg #[.int .i64 1,.int .i64 A]]) (by simp [results,Tryz.results42,go_sem,q0,q1,q0',q1']) rfl ?_
        rw [HR.out]
        refine ⟨KEND.out _ _ _ (bt hbA hbk),?_⟩
        show Ending.returned _ = Ending.returned _
        rw [HA.out]
      · rw [if_neg (by rintro ⟨_,h⟩;omega),if_pos (.inl (by decide))] at hR
        have l5 : ¬ (j : Int) < (k : Int):=by omega
        clear hjk
        have hx:=plV_at at_ (k) (by omega)
        obtain ⟨ga,oa,hae,ca⟩:=hcu _ _ hx
        subst hae
        have KAT : Hid (∀ wz,Below W.heap.size W wz → wz.cell? ⟨ga,oa + (k),none⟩ = some (.int .i64 ((at_.getD (k) 0 : Nat) : Int))):=Lib.hid fun wz hb=>kc hb (kc hbW ca)
        clear hx ca
        obtain ⟨A,hA⟩ : ∃ A : Int,A = ((at_.getD (k) 0 : Nat) : Int):=⟨_,rfl⟩
        rw [← hA] at KAT
        have HA:=Lib.hid hA
        have HR:=Lib.hid hR
        clear hA hR
        have KSEC:=Lib.hid ksec
        have KMAL:=Lib.hid kmal
        have HBW:=Lib.hid hbW
        have HCU:=Lib.hid hcu
        have HROW:=Lib.hid hrow
        have HSM:=Lib.hid hsm
        have HC0:=Lib.hid hc0
        have HN:=Lib.hid hn'
        have HLEN:=Lib.hid hlen
        have KJ:=Lib.hid kj
        have KB:=Lib.hid kb
        clear ksec kmal hbW hcu hrow hsm hc0 hn' hlen kj kb
        clear hs2 hcm hlk
        go_enter Tryz.func42,Tryz.ntmps42
        go_wp2_with fail
        rw [← hW]
        clear hW
        go_wp2_with (first
          | (go_at_call 76;go_loud (with_reducible refine (KSEC.out _ HBW.out).mono ?_);go_loud (rintro e1 w1 ⟨rfl,rfl⟩))
          | (go_at_call 68;go_loud (with_reducible refine (KJ.out _ _ HBW.out).mono ?_);go_loud (rintro e1 w1 ⟨hb1,v,rfl,ho⟩);go_loud (obtain ⟨av,cv,rfl⟩:=orow_form ho);go_loud (have hbA:=bal hb1 (.cells #[.int .i64 1,.int .i64 (j : Int)] 54));go_loud (have KFA : Hid (∀ wz,Below (w1.alloc (.cells #[.int .i64 1,.int .i64 (j : Int)] 54)).heap.size (w1.alloc (.cells #[.int .i64 1,.int .i64 (j : Int)] 54)) wz → wz.cell? ⟨w1.heap.size,0,none⟩ = some (.int .i64 1) ∧ wz.cell? ⟨w1.heap.size,1,none⟩ = some (.int .i64 (j : Int))):=Lib.hid fun wz hb=>⟨((Live.fresh w1 #[.int .i64 1,.int .i64 (j : Int)] 54 0 _ rfl).keep hb).1,((Live.fresh w1 #[.int .i64 1,.int .i64 (j : Int)] 54 1 _ rfl).keep hb).1⟩);go_loud (have hbk:=Below.refl (w1.alloc (.cells #[.int .i64 1,.int .i64 (j : Int)] 54)).heap.size (w1.alloc (.cells #[.int .i64 1,.int .i64 (j : Int)] 54)));go_loud (clear hb1))
          | (go_at_call 18;go_loud (refine (KB.out _).mono ?_);go_loud (rintro e2 w2 ⟨rfl,hb2⟩);go_loud (replace hbk:=bt hbk hb2);go_loud (clear hb2);go_loud (obtain ⟨f0,f1⟩:=KFA.out _ hbk);go_loud (have ca:=KAT.out _ (bt hbA hbk)))
          | (go_at_call 41;go_loud (with_reducible refine (KMAL.out _ _).mono ?_);go_loud (rintro e2 w2 ⟨rfl,hb2⟩);go_loud (replace hbk:=bt hbk hb2);go_loud (clear hb2);go_loud (obtain ⟨q0,q0',q1,q1'⟩:=KF.out _ (bt hbA hbk)))
          | fail)
        refine bodyPost_ret (v:=.tuple #[.slice none 0 0,.int .i64 0,.agg #[.int .i64 1,.int .i64 A]]) (by simp [results,Tryz.results42,go_sem,q0,q1,q0',q1']) rfl ?_
        rw [HR.out]
        refine ⟨KEND.out _ _ _ (bt hbA hbk),?_⟩
        show Ending.returned _ = Ending.returned _
        rw [HA.out]
end Go.Proofs.YtnbglcaeekppjaaGreatDoor

namespace Go.Proofs.YtnbglcaeekppjaaGreatDoor
open Go.RowKit
set_option linter.unusedVariables false
set_option linter.unusedSimpArgs false

theorem pageZero : (Value.agg #[.int .u8 0,.int .u64 0,.int .u32 0,.int .u32 0,.string ⟨#[]⟩,.string ⟨#[]⟩]).cells.size = 6:=rfl
theorem gcells_cell (l : List PG) : ∀ u ∈ gcells l,u.oneCell' = true:=by
  intro u hu
  unfold gcells at hu
  obtain ⟨p,_,hm⟩:=List.mem_flatMap.1 hu
  unfold g1cells at hm
  simp only [List.mem_cons,List.not_mem_nil,or_false] at hm
  rcases hm with rfl | rfl | rfl | rfl | rfl | rfl <;> rfl
theorem addr_add (g o j : Nat) : (⟨g,o,none⟩ : Addr).add j = ⟨g,o + j,none⟩:=by
  by_cases h0 : j = 0
  · subst h0;rfl
  · simp [Addr.add,h0]
set_option maxRecDepth 100000 in
set_option maxHeartbeats 1000000 in
theorem gclone_any (g o n cap : Nat) (l : List PG) (w : World) (hl : l.length = n) (hc : ∀ (j : Nat) (x : Value),(gcells l)[j]? = some x → w.cell? ⟨g,o + j,none⟩ = some x) (hn : n ≤ 2000000) :
    Calls Tryz.prog 47 #[.slice (some ⟨g,o,none⟩) n cap] w fun e w'=>∃ v',e = .returned v' ∧ w'.ownsRow w.heap.size 27 6 v' n (gcells l) ∧ Below w.heap.size w w':=by
  obtain ⟨i0,hi,hz0,hz1,hz2⟩:=info_parts infoPage
  have hlen:=gcells_length l
  rw [hl] at hlen
  have h1:=gcells_cell l
  have hlit : (w.alloc (.cells #[] 27)).ownsRow w.heap.size 27 6 (.slice (some ⟨w.heap.size,0,none⟩) 0 0) 0 []:=
    World.ownsRow_lit (base:=w.heap.size) (e:=27) (size:=6) w #[] 0 (Nat.le_refl _) (by unfold maxLen;omega) rfl
  have hbA : Below w.heap.size w (w.alloc (.cells #[] 27)):=bal (Below.refl _ _) _
  have hc' : ∀ j u,(gcells l)[j]? = some u → (w.alloc (.cells #[] 27)).cell? ((⟨g,o,none⟩ : Addr).add j) = some u:=fun j u hj=>by
    rw [addr_add]
    exact kc hbA (hc j u hj)
  generalize gcells l = cs at *
  have HC:=Lib.hid hc'
  have HLIT:=Lib.hid hlit
  have H1:=Lib.hid h1
  have HL:=Lib.hid hlen
  clear hc' hlit h1 hlen
  clear hc hl
  go_enter Tryz.func47,Tryz.ntmps47
  have hnil:=fun w=>Lib.run_eql_slice_nil (P:=Tryz.prog) w 34 27 (some ⟨g,o,none⟩) n cap 0 0 Tryz.underlying34
  go_wp2_with (at_builtin;go_loud (refine wpList_append_own _ rfl _ _ 34 rfl w.heap.size 27 i0 (.agg #[.int .u8 0,.int .u64 0,.int .u32 0,.int .u32 0,.string ⟨#[]⟩,.string ⟨#[]⟩]) 6 56 Tryz.underlying34 hi hz0 hz1 hz2 pageZero (by decide) (.slice (some ⟨w.heap.size,0,none⟩) 0 0) 0 [] rfl HLIT.out ⟨g,o,none⟩ n cap cs rfl HL.out HC.out H1.out (by unfold maxLen;omega) (by omega) hbA.size ?_;intro v' w1 h2 h3 _))
  have hb : Below w.heap.size w w1:=hbA.grown h3 hbA.size (by intro k hk;simp [Value.ownBlock] at hk;omega)
  rw [Nat.zero_add,List.nil_append] at h2
  go_wp2_with fail
  go_ret
  exact ⟨v',rfl,h2,hb⟩
end Go.Proofs.YtnbglcaeekppjaaGreatDoor

namespace Go.Proofs.YtnbglcaeekppjaaGreatDoor
open Go.RowKit
set_option linter.unusedVariables false
set_option linter.unusedSimpArgs false

abbrev noSC : Array Value:=#[.int .u8 0,.int .u64 0,.int .u32 0,.int .u32 0,.string ⟨#[]⟩,.string ⟨#[]⟩,.string ⟨#[]⟩,.int .i64 0,.slice none 0 0,.string ⟨#[]⟩,.slice none 0 0]
/-- what stands while a stream is read: the options, what is handed back, the fault that is asked, the pages and their places. -/
structure OP (w : World) (kd fb bu : Int) (g : Bool) (F : Nat) (v1 v2 : Value) (l : List PG) (pl : List Nat) (c a : Int) (wr : World) : Prop where
  gg : Below w.heap.size w wr
  op : wr.heap[w.heap.size]? = some (.cells #[.int .i64 kd,.int .i64 fb,.bool g,.int .i64 bu] 67 (0,0))
  rs : wr.heap[w.heap.size + 1]? = some (.cells noSC 36 (0,0))
  rt : wr.heap[w.heap.size + 1 + 1]? = some (.cells #[.int .i64 0,.int .i64 0] 54 (0,0))
  f1 : wr.heap[F]? = some (.cells #[.int .i64 c,.int .i64 a] 54 (0,0))
  hF : w.heap.size + 3 ≤ F
  r1 : wr.ownsRow (w.heap.size + 3) 27 6 v1 l.length (gcells l)
  r2 : wr.ownsRow (w.heap.size + 3) 3 1 v2 l.length (ncells (plV pl))
section
variable {w wr : World} {kd fb bu : Int} {g : Bool} {F : Nat} {v1 v2 : Value} {l : List PG} {pl : List Nat} {c a : Int}
theorem OP.bel (h : OP w kd fb bu g F v1 v2 l pl c a wr) {w' : World} (hb : Below wr.heap.size wr w') : OP w kd fb bu g F v1 v2 l pl c a w':=by
  obtain ⟨h1,h2,h3,h4,h5,h6,h7,h8⟩:=h
  exact ⟨bt h1 hb,blkP h2 hb,blkP h3 hb,blkP h4 hb,blkP h5 hb,h6,orow_bel h7 hb,orow_bel h8 hb⟩
theorem OP.opt (h : OP w kd fb bu g F v1 v2 l pl c a wr) : wr.cell? ⟨w.heap.size,0,none⟩ = some (.int .i64 kd) ∧ wr.cell? ⟨w.heap.size,1,none⟩ = some (.int .i64 fb) ∧ wr.cell? ⟨w.heap.size,2,none⟩ = some (.bool g) ∧ wr.cell? ⟨w.heap.size,3,none⟩ = some (.int .i64 bu):=
  ⟨(live_of h.op 0 _ rfl).1,(live_of h.op 1 _ rfl).1,(live_of h.op 2 _ rfl).1,(live_of h.op 3 _ rfl).1⟩
theorem OP.fl (h : OP w kd fb bu g F v1 v2 l pl c a wr) : wr.cell? ⟨F,0,none⟩ = some (.int .i64 c) ∧ wr.frozen? ⟨F,0,none⟩ = false ∧ wr.cell? ⟨F,1,none⟩ = some (.int .i64 a) ∧ wr.frozen? ⟨F,1,none⟩ = false:=
  ⟨(live_of h.f1 0 _ rfl).1,(live_of h.f1 0 _ rfl).2,(live_of h.f1 1 _ rfl).1,(live_of h.f1 1 _ rfl).2⟩
theorem OP.res (h : OP w kd fb bu g F v1 v2 l pl c a wr) (i : Nat) (v : Value) (hi : noSC[i]? = some v) : wr.cell? ⟨w.heap.size + 1,i,none⟩ = some v ∧ wr.frozen? ⟨w.heap.size + 1,i,none⟩ = false:=live_of h.rs i v hi
theorem OP.ret (h : OP w kd fb bu g F v1 v2 l pl c a wr) : wr.cell? ⟨w.heap.size + 1 + 1,0,none⟩ = some (.int .i64 0) ∧ wr.frozen? ⟨w.heap.size + 1 + 1,0,none⟩ = false ∧ wr.cell? ⟨w.heap.size + 1 + 1,1,none⟩ = some (.int .i64 0) ∧ wr.frozen? ⟨w.heap.size + 1 + 1,1,none⟩ = false:=
  ⟨(live_of h.rt 0 _ rfl).1,(live_of h.rt 0 _ rfl).2,(live_of h.rt 1 _ rfl).1,(live_of h.rt 1 _ rfl).2⟩
/-- the fault that is asked is stored anew. -/
theorem OP.fault (h : OP w kd fb bu g F v1 v2 l pl c a wr) (c' a' : Int) : OP w kd fb bu g F v1 v2 l pl c' a' ((wr.setCell ⟨F,0,none⟩ (.int .i64 c')).setCell ⟨F,1,none⟩ (.int .i64 a')):=by
  obtain ⟨h1,h2,h3,h4,h5,h6,h7,h8⟩:=h
  have s1:=Go.Lib.heap_setCell_same (i:=0) h5 (.int .i64 c')
  have s2:=Go.Lib.heap_setCell_same (i:=1) s1 (.int .i64 a')
  have hj : ∀ j,j ≠ F → ((wr.setCell ⟨F,0,none⟩ (.int .i64 c')).setCell ⟨F,1,none⟩ (.int .i64 a')).heap[j]? = wr.heap[j]?:=by
    intro j hj
    rw [Below.heap_setCell _ _ _ j (by simpa using hj),Below.heap_setCell _ _ _ j (by simpa using hj)]
  refine ⟨(h1.setCell (by simp;omega) _).setCell (by simp;omega) _,?_,?_,?_,?_,h6,?_,?_⟩
  · rw [hj _ (by omega)];exact h2
  · rw [hj _ (by omega)];exact h3
  · rw [hj _ (by omega)];exact h4
  · rw [s2];simp
  · exact orow_other h7 fun q hq=>hj q (fun e=>orow_tag h7 h5 (by decide) (by rw [hq,e]))
  · exact orow_other h8 fun q hq=>hj q (fun e=>orow_tag h8 h5 (by decide) (by rw [hq,e]))
end
/-- another row stands while the fault is stored. -/
theorem row_fault {wr : World} {F : Nat} {c a c' a' : Int} {B : Nat} {e : TypeId} {s n : Nat} {v : Value} {cs : List Value} (h5 : wr.heap[F]? = some (.cells #[.int .i64 c,.int .i64 a] 54 (0,0))) (h : wr.ownsRow B e s v n cs) (hne : e ≠ 54) : ((wr.setCell ⟨F,0,none⟩ (.int .i64 c')).setCell ⟨F,1,none⟩ (.int .i64 a')).ownsRow B e s v n cs:=
  orow_other h fun q hq=>by
    have : q ≠ F:=fun e=>orow_tag h h5 hne (by rw [hq,e])
    rw [Below.heap_setCell _ _ _ q (by simpa using this),Below.heap_setCell _ _ _ q (by simpa using this)]
/-- a stream as a value. -/
def osV (vn vs : Value) (s : OS) : Value:=.agg #[.int .u8 s.first.fl.toNat,.int .u64 s.first.po,.int .u32 s.first.se,.int .u32 s.first.nu,.string s.first.la,.string s.first.bo,.string s.b.vt,.int .i64 s.b.vs,vn,.string s.setup,vs]
/-- what Parse answers. -/
def OParsePost (R : OS × Int × Int) (w : World) (e : Ending) (w' : World) : Prop:=Below w.heap.size w w' ∧ ∃ vn vs,e = .returned (.tuple #[osV vn vs R.1,.agg #[.int .i64 R.2.1,.int .i64 R.2.2]]) ∧
  w'.ownsRow w.heap.size 108 3 vn R.1.b.ns.length (ntcells R.1.b.ns) ∧ w'.ownsRow w.heap.size 27 6 vs R.1.sound.length (gcells R.1.sound)
abbrev st13 (wr : World) (b : Nat) (x0 x1 x2 x3 x4 x5 x6 x7 x8 x9 x10 c a : Value) : World:=
  ((((((((((((wr.setCell ⟨b + 1,0,none⟩ x0).setCell ⟨b + 1,1,none⟩ x1).setCell ⟨b + 1,2,none⟩ x2).setCell ⟨b + 1,3,none⟩ x3).setCell ⟨b + 1,4,none⟩ x4).setCell ⟨b + 1,5,none⟩ x5).setCell ⟨b + 1,6,none⟩ x6).setCell ⟨b + 1,7,none⟩ x7).setCell ⟨b + 1,8,none⟩ x8).setCell ⟨b + 1,9,none⟩ x9).setCell ⟨b + 1,10,none⟩ x10).setCell ⟨b + 1 + 1,0,none⟩ c).setCell ⟨b + 1 + 1,1,none⟩ a
theorem st13_bel {w wr : World} (h : Below w.heap.size w wr) (x0 x1 x2 x3 x4 x5 x6 x7 x8 x9 x10 c a : Value) : Below w.heap.size w (st13 wr w.heap.size x0 x1 x2 x3 x4 x5 x6 x7 x8 x9 x10 c a):=by
  unfold st13
  iterate 13 refine Below.setCell ?_ (by simp <;> omega) _
  exact h
theorem st13_row {w wr : World} {e : TypeId} {s n : Nat} {v : Value} {cs : List Value} (h : wr.ownsRow (w.heap.size + 3) e s v n cs) (x0 x1 x2 x3 x4 x5 x6 x7 x8 x9 x10 c a : Value) : (st13 wr w.heap.size x0 x1 x2 x3 x4 x5 x6 x7 x8 x9 x10 c a).ownsRow w.heap.size e s v n cs:=by
  refine orow_mono (orow_other h fun q hq=>?_) (by omega)
  have:=(orow_blk h q hq).1
  unfold st13
  iterate 13 rw [Below.heap_setCell _ _ _ q (by simp;omega)]
theorem opost_none {w wr : World} (h : Below w.heap.size w wr) (c a : Int) :
    OParsePost (noOS,c,a) w (.returned (.tuple #[.agg noSC,.agg #[.int .i64 c,.int .i64 a]])) (st13 wr w.heap.size (.int .u8 0) (.int .u64 0) (.int .u32 0) (.int .u32 0) (.string ⟨#[]⟩) (.string ⟨#[]⟩) (.string ⟨#[]⟩) (.int .i64 0) (.slice none 0 0) (.string ⟨#[]⟩) (.slice none 0 0) (.int .i64 c) (.int .i64 a)):=
  ⟨st13_bel h _ _ _ _ _ _ _ _ _ _ _ _ _,.slice none 0 0,.slice none 0 0,rfl,World.ownsRow_nil _ _ _ _,World.ownsRow_nil _ _ _ _⟩
/-- the three blocks that Parse makes first. -/
theorem op_start (w : World) (kd fb bu : Int) (g : Bool) : ∃ W,W = ((w.alloc (.cells #[.int .i64 kd,.int .i64 fb,.bool g,.int .i64 bu] 67)).alloc (.cells noSC 36)).alloc (.cells #[.int .i64 0,.int .i64 0] 54) ∧ W.heap.size = w.heap.size + 3 ∧ Below w.heap.size w W ∧
    W.heap[w.heap.size]? = some (.cells #[.int .i64 kd,.int .i64 fb,.bool g,.int .i64 bu] 67 (0,0)) ∧ W.heap[w.heap.size + 1]? = some (.cells noSC 36 (0,0)) ∧ W.heap[w.heap.size + 1 + 1]? = some (.cells #[.int .i64 0,.int .i64 0] 54 (0,0)):=by
  have hs1 : (w.alloc (.cells #[.int .i64 kd,.int .i64 fb,.bool g,.int .i64 bu] 67)).heap.size = w.heap.size + 1:=World.size_alloc _ _
  have hs2 : ((w.alloc (.cells #[.int .i64 kd,.int .i64 fb,.bool g,.int .i64 bu] 67)).alloc (.cells noSC 36)).heap.size = w.heap.size + 2:=by rw [World.size_alloc,hs1]
  refine ⟨_,rfl,by rw [World.size_alloc,hs2],bal (bal (bal (Below.refl _ _) _) _) _,?_,?_,?_⟩
  · exact (heap_alloc_old _ _ (by rw [hs2];omega)).trans ((heap_alloc_old _ _ (by rw [hs1];omega)).trans (heap_alloc_new _ _))
  · rw [← hs1];exact (heap_alloc_old _ _ (by rw [hs2,hs1];omega)).trans (heap_alloc_new _ _)
  · rw [show w.heap.size + 1 + 1 = w.heap.size + 2 from rfl,← hs2];exact heap_alloc_new _ _
/-- behind page.Pages. -/
theorem op_mk {w W w1 : World} {kd fb bu : Int} {g : Bool} {R : (List PG × List Nat) × Int × Int} {v1 v2 : Value} (hWs : W.heap.size = w.heap.size + 3) (hbW : Below w.heap.size w W)
    (h0 : W.heap[w.heap.size]? = some (.cells #[.int .i64 kd,.int .i64 fb,.bool g,.int .i64 bu] 67 (0,0))) (h1 : W.heap[w.heap.size + 1]? = some (.cells noSC 36 (0,0))) (h2 : W.heap[w.heap.size + 1 + 1]? = some (.cells #[.int .i64 0,.int .i64 0] 54 (0,0)))
    (hb : Below W.heap.size W w1) (r1 : w1.ownsRow W.heap.size 27 6 v1 R.1.1.length (gcells R.1.1)) (r2 : w1.ownsRow W.heap.size 3 1 v2 R.1.1.length (ncells (plV R.1.2))) :
    OP w kd fb bu g w1.heap.size v1 v2 R.1.1 R.1.2 R.2.1 R.2.2 (w1.alloc (.cells #[.int .i64 R.2.1,.int .i64 R.2.2] 54)):=by
  have hb2:=bal hb (.cells #[.int .i64 R.2.1,.int .i64 R.2.2] 54)
  have hb3:=bal (Below.refl w1.heap.size w1) (.cells #[.int .i64 R.2.1,.int .i64 R.2.2] 54)
  have:=hb.size
  rw [hWs] at r1 r2
  exact ⟨bt hbW hb2,blkP h0 hb2,blkP h1 hb2,blkP h2 hb2,heap_alloc_new _ _,by omega,orow_bel r1 hb3,orow_bel r2 hb3⟩
end Go.Proofs.YtnbglcaeekppjaaGreatDoor

