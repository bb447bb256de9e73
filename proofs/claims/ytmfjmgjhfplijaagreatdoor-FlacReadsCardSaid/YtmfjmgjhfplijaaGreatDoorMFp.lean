/- Fp -/
import Derived.Test.YtmfjmgjhfplijaaGreatDoorMFe
set_option linter.unusedVariables false
set_option linter.unusedSimpArgs false
set_option maxHeartbeats 2000000
namespace Go.Proofs.YtmfjmgjhfplijaaGreatDoor
open Go.RowKit
theorem fault_any (c a : Int) (w : World) : Calls Tryz.prog 11 #[.int .i64 c,.int .i64 a] w fun e w'=>e = .returned (.agg #[.int .i64 c,.int .i64 a]) ∧ Below w.heap.size w w':=by
 go_enter Tryz.func11,Tryz.ntmps11
 go_wp2
 have l0:=Live.fresh w #[.int .i64 0,.int .i64 0] 34 0 _ rfl
 have l1:=Live.fresh w #[.int .i64 0,.int .i64 0] 34 1 _ rfl
 obtain ⟨a1,a2⟩:=l0
 obtain ⟨a3,a4⟩:=l1
 refine bodyPost_ret (v:=.agg #[.int .i64 c,.int .i64 a]) (by simp [results,Tryz.results11,go_sem,a1,a2,a3,a4]) rfl ?_
 exact ⟨rfl,bal (Below.refl w.heap.size w) _⟩
theorem has4_take (l : List Mt) (k : Nat) (x : Mt) (h : l[k]? = some x) : has4 (l.take (k + 1)) = (has4 (l.take k) || x.kind == 4):=by
 obtain ⟨h1,h2⟩:=List.getElem?_eq_some_iff.1 h
 rw [List.take_succ_eq_append_getElem h1,h2,has4_snoc]
set_option maxRecDepth 100000 in
theorem rmay_any (v : Value) (l : List Mt) (m : Mt) (w : World) (hrow : Row w v l.length (rmcells l)) (hl : l.length ≤ 1000000) (hk : m.kind < 256) :
 Calls Tryz.prog 46 #[v,.agg #[.int .i64 m.kind,.string m.body]] w fun e w'=>e = .returned (.bool (standM l.length m (has4 l))) ∧ Below w.heap.size w w':=by
 obtain ⟨av,cap,rfl,hc⟩:=hrow
 obtain ⟨kd,t⟩:=m
 obtain ⟨n,hn⟩ : ∃ n,n = l.length:=⟨_,rfl⟩
 rw [← hn] at hl ⊢
 have hbe:=bal (Below.refl w.heap.size w) (.cells #[.int .i64 kd,.string t] 116)
 obtain ⟨c0,_⟩:=Live.fresh w #[.int .i64 kd,.string t] 116 0 _ rfl
 obtain ⟨c1,_⟩:=Live.fresh w #[.int .i64 kd,.string t] 116 1 _ rfl
 simp only at hk ⊢
 obtain ⟨R,hR⟩ : ∃ R,R = standM n ⟨kd,t⟩ (has4 l):=⟨_,rfl⟩
 rw [← hR]
 have HBE:=Lib.hid hbe
 have HC:=Lib.hid hc
 have HN:=Lib.hid hn
 have HR:=Lib.hid hR
 clear hbe hc hn hR
 by_cases h0 : n = 0
 · have dn : ((n : Int) == 0) = true:=by rw [beq_iff_eq];omega
   by_cases hk0 : kd = 0
   · have dk : ((kd : Int) == 0) = true:=by rw [beq_iff_eq];omega
     by_cases h2 : t.size = 34
     · have d2 : ((t.size : Int) == 34) = true:=by rw [beq_iff_eq];omega
       have hr : R = true:=by rw [HR.out];unfold standM;simp [h0,hk0,h2]
       rw [hr]
       clear h0 hk0 h2 hr
       go_enter Tryz.func46,Tryz.ntmps46
       go_wp2_with fail
       go_ret
       exact ⟨rfl,HBE.out⟩
     · have d2 : ((t.size : Int) == 34) = false:=by rw [beq_eq_false_iff_ne];omega
       have hr : R = false:=by rw [HR.out];unfold standM;simp [h0,hk0,h2]
       rw [hr]
       clear h0 hk0 h2 hr
       go_enter Tryz.func46,Tryz.ntmps46
       go_wp2_with fail
       go_ret
       exact ⟨rfl,HBE.out⟩
   · have dk : ((kd : Int) == 0) = false:=by rw [beq_eq_false_iff_ne];omega
     have hr : R = false:=by rw [HR.out];unfold standM;simp [h0,hk0]
     rw [hr]
     clear h0 hk0 hr
     go_enter Tryz.func46,Tryz.ntmps46
     go_wp2_with fail
     go_ret
     exact ⟨rfl,HBE.out⟩
 · have dn : ((n : Int) == 0) = false:=by rw [beq_eq_false_iff_ne];omega
   by_cases h4 : kd = 4
   · have d4 : ((kd : Int) == 4) = true:=by rw [beq_iff_eq];omega
     have hr : Hid (R = !(has4 l)):=Lib.hid (by rw [HR.out];unfold standM;rw [if_neg h0];cases has4 l <;> simp [h4])
     have d5 : (kd : Int) > 0:=by omega
     have d6 : decide ((kd : Int) < 127) = true:=by simp;omega
     clear h0 h4
     obtain ⟨W,hW⟩ : ∃ W,W = w.alloc (.cells #[.int .i64 kd,.string t] 116):=⟨_,rfl⟩
     have hbe:=HBE.out
     rw [← hW] at c0 c1 hbe
     have C0:=Lib.hid c0
     have HBW:=Lib.hid hbe
     clear hbe
     go_enter Tryz.func46,Tryz.ntmps46
     go_wp2_with fail
     rw [← hW]
     clear hW HBE
     go_wp2_with fail
     go_loopw [5] (fun i wr=>∃ k : Nat,i = .int .i64 (k : Int) ∧ k ≤ n ∧ Hid (has4 (l.take k) = false) ∧ Below W.heap.size W wr) (fun i _=>n - (intOf i).toNat)
     case atStart=>exact ⟨0,rfl,Nat.zero_le _,Lib.hid (by simp [has4]),Below.refl _ _⟩
     case round=>
      obtain ⟨k,rfl,hkn,hA,hbel⟩:=hrel
      clear c0 c1
      have c0:=kc hbel C0.out
      by_cases hlt : k < n
      · obtain ⟨x,hx⟩:=at_some l k (by rw [← HN.out];exact hlt)
        obtain ⟨g,o,rfl,d0,d1⟩:=rm_at HC.out k x hx
        have d0:=kc hbel (kc HBW.out d0)
        have hs:=has4_take l k x hx
        rw [hA.out,Bool.false_or] at hs
        by_cases h4 : x.kind = 4
        · have d4 : ((x.kind : Int) == 4) = true:=by rw [beq_iff_eq];omega
          have hr2 : Hid (R = false):=Lib.hid (by
           rw [hr.out]
           have h5 : has4 l = true:=by
            unfold has4
            rw [List.any_eq_true]
            exact ⟨x,List.mem_of_getElem? hx,by simp [h4]⟩
           rw [h5];rfl)
          clear h4 hs hx hA hr d1
          go_wp2_with fail
          go_ret
          exact ⟨ret_b hr2.out.symm,bt HBW.out hbel⟩
        · have d4 : ((x.kind : Int) == 4) = false:=by rw [beq_eq_false_iff_ne];omega
          have hs2 : Hid (has4 (l.take (k + 1)) = false):=Lib.hid (by rw [hs];simp [h4])
          clear h4 hs hx hA d1
          go_wp2_with fail
          exact ⟨⟨k + 1,by go_num,by omega,hs2,hbel⟩,by simp [intOf];omega⟩
      · have hr2 : Hid (R = true):=Lib.hid (by
         have:=hA.out
         rw [List.take_of_length_le (by rw [← HN.out];omega)] at this
         rw [hr.out,this];rfl)
        clear hA hr
        go_wp2_with fail
        go_ret
        exact ⟨ret_b hr2.out.symm,bt HBW.out hbel⟩
   · have d4 : ((kd : Int) == 4) = false:=by rw [beq_eq_false_iff_ne];omega
     by_cases h5 : 0 < kd
     · have d5 : (kd : Int) > 0:=by omega
       by_cases h6 : kd < 127
       · have d6 : decide ((kd : Int) < 127) = true:=by simp;omega
         have hr : R = true:=by rw [HR.out];unfold standM;rw [if_neg h0];simp;omega
         rw [hr]
         clear h0 h4 h6 hr
         go_enter Tryz.func46,Tryz.ntmps46
         go_wp2_with fail
         go_ret
         exact ⟨ret_b (by simp [d5,d6]),HBE.out⟩
       · have d6 : decide ((kd : Int) < 127) = false:=by simp;omega
         have hr : R = false:=by rw [HR.out];unfold standM;rw [if_neg h0];simp;omega
         rw [hr]
         clear h0 h4 h6 hr
         go_enter Tryz.func46,Tryz.ntmps46
         go_wp2_with fail
         go_ret
         exact ⟨ret_b (by simp [d5,d6]),HBE.out⟩
     · have d5 : ¬ (kd : Int) > 0:=by omega
       have hr : R = false:=by rw [HR.out];unfold standM;rw [if_neg h0];simp;omega
       rw [hr]
       clear h0 h4 hr
       go_enter Tryz.func46,Tryz.ntmps46
       go_wp2_with fail
       go_ret
       exact ⟨ret_b (by simp [d5]),HBE.out⟩
end Go.Proofs.YtmfjmgjhfplijaaGreatDoor
