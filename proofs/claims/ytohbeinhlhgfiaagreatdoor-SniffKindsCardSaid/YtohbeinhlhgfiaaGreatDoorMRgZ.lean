/- RgZ -/
import Derived.Test.YtohbeinhlhgfiaaGreatDoorMReZ
set_option linter.unusedVariables false
set_option linter.unusedSimpArgs false
set_option maxHeartbeats 8000000
namespace Go.Proofs.YtohbeinhlhgfiaaGreatDoor
open Go.RowKit
theorem unitsL_drop (big : Bool) : ∀ (i : Nat) (l : List UInt8),(unitsL big l).drop i = unitsL big (l.drop (2 * i)):=by
 intro i
 induction i with
 | zero=>intro l;rfl
 | succ i ih=>
  intro l
  match l with
  | []=>simp [unitsL]
  | [x]=>rw [show 2 * (i + 1) = 2 * i + 1 + 1 from by omega];simp [unitsL]
  | x :: y :: r=>rw [show 2 * (i + 1) = 2 * i + 1 + 1 from by omega];simp [unitsL,ih r]
theorem unitsL_len (big : Bool) (l : List UInt8) : (unitsL big l).length = l.length / 2:=by
 match l with
 | []=>rfl
 | [x]=>simp [unitsL]
 | x :: y :: r=>simp [unitsL,unitsL_len big r];omega
def placeI : Option Nat → Int
 | none=>-1
 | some k=>(k : Nat)
set_option maxRecDepth 100000 in
theorem refDec3_any (s : ByteArray) (big : Bool) (w : World) (hs : s.size ≤ 1048576) : Calls Tryz.prog 33 #[.string s,.bool big] w fun e w'=>
 e = .returned (.tuple #[.string ⟨(decT (tokW big) (bl s)).1.toArray⟩,.int .i64 (placeI (decT (tokW big) (bl s)).2)]) ∧ Below w.heap.size w w':=by
 have HL : Hid ((bl s).length = s.size):=bl_length s
 obtain ⟨R,hR⟩ : ∃ R,R = decT (tokW big) (bl s):=⟨_,rfl⟩
 obtain ⟨U,hU⟩ : ∃ U,U = unitsL big (bl s):=⟨_,rfl⟩
 have hUl : Hid (U.length = s.size / 2):=Lib.hid (by rw [hU,unitsL_len,bl_length])
 have hUb : Hid (∀ (i : Nat) (p : Int),U[i]? = some p → 0 ≤ p ∧ p < 65536):=Lib.hid (fun i p h=>unitsL_bd big (bl s) p (by rw [← hU];exact List.mem_of_getElem? h))
 obtain ⟨n,hn⟩ : ∃ n,n = U.length:=⟨_,rfl⟩
 have hW : Hid (∀ i,wsign big ((bl s).drop (2 * i)) = wsignU (U.drop i)):=Lib.hid (fun i=>by rw [wsign_units,hU,unitsL_drop])
 have K1 : Hid (∀ w,Calls Tryz.prog 83 #[.string s,.bool big] w fun e w'=>∃ v,e = .returned v ∧ OwnN w' w.heap.size v U ∧ Below w.heap.size w w'):=Lib.hid (fun w=>by rw [hU];exact refUnits_any s big w (by omega))
 have K2 : Hid (∀ (p : Int) w,Scal p → Calls Tryz.prog 84 #[.int .i32 p] w fun e w'=>e = .returned (.string ⟨(encR p).toArray⟩) ∧ Below w.heap.size w w'):=Lib.hid (fun p w h=>refBytes_any p h w)
 rw [← hR]
 have hn2 : n = s.size / 2:=by rw [hn];exact hUl.out
 have HR:=Lib.hid hR
 have HU:=Lib.hid hU
 have HN:=Lib.hid hn
 clear hR hU hn
 have HN2:=Lib.hid hn2
 have hn3 : 2 * n ≤ s.size:=by omega
 have hn4 : s.size ≤ 2 * n + 1:=by omega
 clear hn2
 go_enter Tryz.func33,Tryz.ntmps33
 go_wp2_with (go_at_call 83;refine (K1.out _).mono ?_;rintro e w1 ⟨v,rfl,hown,hb1⟩)
 have hrow:=hown.row
 rw [← HN.out] at hrow
 obtain ⟨a,cap,rfl,hc⟩:=hrow
 have HC:=Lib.hid hc
 clear hc hown
 go_wp2_with fail
 go_loopw [7,8] (fun tv iv wr=>∃ (f i : Nat) (T : ByteArray),iv = .int .i64 (i : Int) ∧ tv = .string T ∧ i ≤ n ∧ T.size ≤ 4 * i ∧ s.size - 2 * i ≤ f ∧ Hid (runT (tokW big) f ((bl s).drop (2 * i)) (2 * i) (bl T) = R) ∧ Below w1.heap.size w1 wr) (fun _ iv _=>n - (intOf iv).toNat)
 case atStart=>exact ⟨s.size,0,⟨#[]⟩,rfl,rfl,Nat.zero_le _,by decide,by omega,Lib.hid (by have:=HR.out;unfold decT at this;rw [HL.out] at this;rw [this];rfl),Below.refl _ _⟩
 case round=>
  obtain ⟨f,i,T,rfl,rfl,hi,hT,hf,hQ,hbel⟩:=hrel
  have hbw : Below w.heap.size w wr:=hb1.trans (hbel.mono hb1.size)
  by_cases hlt : i < n
  · obtain ⟨p,hp⟩:=at_some U i (by rw [← HN.out];exact hlt)
    obtain ⟨g,o,rfl,hcell⟩:=HC.out i (.int .i64 p) (by simp [ncells,hp])
    have hcell:=kc hbel hcell
    obtain ⟨p0,p1⟩:=hUb.out i p hp
    obtain ⟨f,rfl⟩ : ∃ g,f = g + 1:=⟨f - 1,by omega⟩
    have hne : (bl s).drop (2 * i) ≠ []:=drop_ne (by rw [HL.out];omega)
    have hw:=hW.out i
    have hdr : U.drop i = p :: U.drop (i + 1):=by
     obtain ⟨h1,h2⟩:=List.getElem?_eq_some_iff.1 hp
     rw [List.drop_eq_getElem_cons h1,h2]
    rw [hdr] at hw
    have htk : tokW big ((bl s).drop (2 * i)) = if (wsign big ((bl s).drop (2 * i))).2 = 0 then none else some (encR (wsign big ((bl s).drop (2 * i))).1,(wsign big ((bl s).drop (2 * i))).2):=rfl
    rw [hw] at htk
    have c0 : IntKind.i32.wrap p = p:=by rw [wraps_i32] <;> omega
    have gd : ∀ (q : Int) (m : Nat),wsignU (p :: U.drop (i + 1)) = (q,m + 1) → runT (tokW big) f ((bl s).drop (2 * i + (m + 1))) (2 * i + (m + 1)) (bl (T ++ ⟨(encR q).toArray⟩)) = R:=by
     intro q m e
     rw [e] at htk
     have:=runT_some (tok:=tokW big) f _ (2 * i) (bl T) _ _ hne htk
     rw [hQ.out,List.drop_drop] at this
     rw [this];simp [bl]
    have bd : wsignU (p :: U.drop (i + 1)) = (0,0) → R = ([],some (2 * i)):=by
     intro e
     rw [e] at htk
     have:=runT_none (tok:=tokW big) f _ (2 * i) (bl T) hne htk
     rw [hQ.out] at this
     exact this
    have GD:=Lib.hid gd
    have BD:=Lib.hid bd
    clear gd bd
    clear htk hw hdr hne hQ
    by_cases hlow : p < 55296 ∨ 57344 ≤ p
    · have e1:=GD.out p 1 (by rw [wsignU.eq_def];simp only;rw [if_pos hlow])
      have k2:=fun w=>K2.out p w (by unfold Scal;omega)
      have hl:=encR_len p
      obtain ⟨V,hV⟩ : ∃ V : ByteArray,V = ⟨(encR p).toArray⟩:=⟨_,rfl⟩
      have hVl : V.size ≤ 4:=by rw [hV];exact hl.2
      rw [← hV] at e1 k2
      have hTV : (T ++ V).size ≤ 4 * (i + 1):=by
       have e1 : bl (T ++ V) = bl T ++ bl V:=by simp [bl]
       rw [← bl_length,e1,List.length_append,bl_length,bl_length];omega
      have K2':=Lib.hid k2
      have E1:=Lib.hid e1
      have HV:=Lib.hid hV
      have HTV:=Lib.hid hTV
      clear k2 e1 hV hTV
      clear hp hl
      rcases hlow with h | h
      all_goals
       go_wp2_with (go_at_call 84;refine (K2'.out _).mono ?_;rintro e w2 ⟨rfl,hb2⟩)
       go_roundw
       case rel=>exact ⟨f,i + 1,T ++ V,by go_num,rfl,by omega,HTV.out,by omega,E1,bt hbel hb2⟩
       case measure=>simp [intOf];omega
    · have hs0 : 55296 ≤ p:=by omega
      have hs1 : p < 57344:=by omega
      clear hlow
      rcases Int.lt_or_le 56319 p with hb | hb
      · have e1 : Hid (R = ([],some (2 * i))):=Lib.hid (BD.out (by
         rw [wsignU.eq_def];simp only;rw [if_neg (by omega)]
         cases U.drop (i + 1) with
         | nil=>rfl
         | cons q r=>simp only;rw [if_pos (by omega)]))
        clear hp
        go_wp2_with fail
        refine bodyPost_ret (v:=.tuple #[.string ⟨#[]⟩,.int .i64 (2 * (i : Int))]) (by simp [results,Tryz.results33,go_sem]) rfl ⟨?_,hbw⟩
        rw [e1.out];rfl
      · rcases Nat.lt_or_ge (i + 1) n with h2 | h2
        · obtain ⟨q,hq⟩:=at_some U (i + 1) (by rw [← HN.out];exact h2)
          obtain ⟨g',o',hgo,hcell2⟩:=HC.out (i + 1) (.int .i64 q) (by simp [ncells,hq])
          simp only [Option.some.injEq,Addr.mk.injEq,and_true] at hgo
          obtain ⟨rfl,rfl⟩:=hgo
          have hcell2:=kc hbel hcell2
          obtain ⟨q0,q1⟩:=hUb.out (i + 1) q hq
          have hdr2 : Hid (U.drop (i + 1) = q :: U.drop (i + 2)):=Lib.hid (by
           obtain ⟨h1,h2⟩:=List.getElem?_eq_some_iff.1 hq
           rw [List.drop_eq_getElem_cons h1,h2])
          clear hp hq
          by_cases hqb : q < 56320 ∨ 57344 ≤ q
          · have e1 : Hid (R = ([],some (2 * i))):=Lib.hid (BD.out (by
             rw [hdr2.out,wsignU.eq_def];simp only;rw [if_neg (by omega),if_neg (by omega),if_pos hqb]))
            rcases hqb with h | h
            all_goals
             go_wp2_with fail
             refine bodyPost_ret (v:=.tuple #[.string ⟨#[]⟩,.int .i64 (2 * (i : Int))]) (by simp [results,Tryz.results33,go_sem]) rfl ⟨?_,hbw⟩
             rw [e1.out];rfl
          · have e1:=GD.out (65536 + (p - 55296) * 1024 + (q - 56320)) 3 (by
             rw [hdr2.out,wsignU.eq_def];simp only;rw [if_neg (by omega),if_neg (by omega),if_neg hqb])
            obtain ⟨r,hr⟩ : ∃ r,r = 65536 + (p - 55296) * 1024 + (q - 56320):=⟨_,rfl⟩
            rw [← hr] at e1
            have k2:=fun w=>K2.out r w (by unfold Scal;omega)
            have hl:=encR_len r
            have hq0 : 56320 ≤ q:=by omega
            have hq1 : q < 57344:=by omega
            obtain ⟨V,hV⟩ : ∃ V : ByteArray,V = ⟨(encR r).toArray⟩:=⟨_,rfl⟩
            have hVl : V.size ≤ 4:=by rw [hV];exact hl.2
            rw [← hV] at e1 k2
            have hTV : (T ++ V).size ≤ 4 * (i + 2):=by
             have e1 : bl (T ++ V) = bl T ++ bl V:=by simp [bl]
             rw [← bl_length,e1,List.length_append,bl_length,bl_length];omega
            rw [hr] at k2
            have K2':=Lib.hid k2
            have E1:=Lib.hid e1
            have HV:=Lib.hid hV
            have HTV:=Lib.hid hTV
            have HRR:=Lib.hid hr
            clear k2 e1 hV hTV hr
            clear hl hqb
            have c1 : IntKind.i32.wrap q = q:=by rw [wraps_i32] <;> omega
            have c3 : 65536 + (p - 55296) * 1024 + (q - 56320) = 65536 + (p - 55296) * 1024 + q - 56320:=by omega
            rw [c3] at K2'
            clear c3
            go_wp2_with (go_at_call 84;refine (K2'.out _).mono ?_;rintro e w2 ⟨rfl,hb2⟩)
            go_roundw
            case rel=>exact ⟨f,i + 2,T ++ V,by go_num,rfl,by omega,HTV.out,by omega,E1,bt hbel hb2⟩
            case measure=>simp [intOf];omega
        · have e1 : Hid (R = ([],some (2 * i))):=Lib.hid (BD.out (by
           rw [List.drop_eq_nil_of_le (by rw [← HN.out];exact h2),wsignU.eq_def];simp only;rw [if_neg (by omega)]))
          clear hp
          go_wp2_with fail
          refine bodyPost_ret (v:=.tuple #[.string ⟨#[]⟩,.int .i64 (2 * (i : Int))]) (by simp [results,Tryz.results33,go_sem]) rfl ⟨?_,hbw⟩
          rw [e1.out];rfl
  · have hin : i = n:=by omega
    subst hin
    by_cases hod : s.size = 2 * i
    · have e1 : runT (tokW big) f ((bl s).drop (2 * i)) (2 * i) (bl T) = (bl T,none):=by
       rw [List.drop_of_length_le (by rw [HL.out];omega)];exact runT_nil f _ _
      rw [hQ.out] at e1
      have E1:=Lib.hid e1
      clear e1 hQ
      have m1 : ((s.size : Int).tmod 2) = 0:=by rw [Int.tmod_eq_emod_of_nonneg (by omega)];omega
      go_wp2_with fail
      refine bodyPost_ret (v:=.tuple #[.string T,.int .i64 (-1)]) (by simp [results,Tryz.results33,go_sem]) rfl ⟨?_,hbw⟩
      rw [E1.out];rfl
    · obtain ⟨f,rfl⟩ : ∃ g,f = g + 1:=⟨f - 1,by omega⟩
      have hne : (bl s).drop (2 * i) ≠ []:=drop_ne (by rw [HL.out];omega)
      have hw:=hW.out i
      rw [show U.drop i = [] from List.drop_eq_nil_of_le (by rw [← HN.out];exact Nat.le_refl _)] at hw
      have e1:=runT_none (tok:=tokW big) f _ (2 * i) (bl T) hne (by unfold tokW;rw [hw];rfl)
      rw [hQ.out] at e1
      have E1:=Lib.hid e1
      clear e1 hQ hw hne
      have hsz : s.size = 2 * i + 1:=by omega
      have m1 : ((s.size : Int).tmod 2) = 1:=by rw [Int.tmod_eq_emod_of_nonneg (by omega)];omega
      have HSZ:=Lib.hid hsz
      go_wp2_with fail
      refine bodyPost_ret (v:=.tuple #[.string ⟨#[]⟩,.int .i64 (2 * (i : Int))]) (by simp [results,Tryz.results33,go_sem]) rfl ⟨?_,hbw⟩
      rw [E1.out]
      rfl
end Go.Proofs.YtohbeinhlhgfiaaGreatDoor
