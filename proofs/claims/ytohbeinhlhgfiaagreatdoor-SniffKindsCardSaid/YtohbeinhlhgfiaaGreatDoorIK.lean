/- Walks: the line that begins at a place, a text's lines (line.next, line.Lines). -/
import Derived.Test.YtohbeinhlhgfiaaGreatDoorIA
import Derived.Test.YtohbeinhlhgfiaaGreatDoorMFy
import Derived.Test.YtohbeinhlhgfiaaGreatDoorMMore
namespace Go.Proofs.YtohbeinhlhgfiaaGreatDoor
open Go.RowKit
set_option linter.unusedVariables false
set_option linter.unusedSimpArgs false
theorem u8_neK (x : UInt8) (n : Nat) (hn : n < 256) (h : x ≠ UInt8.ofNat n) : ¬ (x.toNat : Int) = (n : Int):=by
 intro e
 apply h
 apply UInt8.toNat_inj.1
 rw [UInt8.toNat_ofNat']
 omega
set_option maxRecDepth 100000 in
set_option maxHeartbeats 8000000 in
theorem next_any (b : ByteArray) (a : Nat) (w : World) (hs : b.size ≤ 1000000) (ha : a ≤ b.size) : Calls Tryz.prog 266 #[.string b,.int .i64 (a : Int)] w fun e w'=>
 e = .returned (.agg #[.string (b.extract a (nxE (bl b) a)),.string (b.extract (nxE (bl b) a) (nxB (bl b) (nxE (bl b) a))),.int .i64 (a : Int)]) ∧ Below w.heap.size w w':=by
 have HL : Hid ((bl b).length = b.size):=bl_length b
 obtain ⟨E,hE⟩ : ∃ E,E = nxE (bl b) a:=⟨_,rfl⟩
 obtain ⟨B,hB⟩ : ∃ B,B = nxB (bl b) E:=⟨_,rfl⟩
 rw [← hE,← hB]
 have e1 : a ≤ E:=by rw [hE];exact nxE_ge _ _
 have e2 : E ≤ b.size:=by rw [hE,← HL.out];exact nxE_le _ _ (by rw [HL.out];exact ha)
 obtain ⟨W,hW⟩ : ∃ W,W = w.alloc (.cells #[.string ⟨#[]⟩,.string ⟨#[]⟩,.int .i64 0] 240):=⟨_,rfl⟩
 have hbW : Below w.heap.size w W:=by rw [hW];exact bal (Below.refl _ _) _
 have m0 : Live (w.alloc (.cells #[.string ⟨#[]⟩,.string ⟨#[]⟩,.int .i64 0] 240)) w.heap.size 0 (.string ⟨#[]⟩):=Live.fresh w #[.string ⟨#[]⟩,.string ⟨#[]⟩,.int .i64 0] 240 0 _ rfl
 have m1 : Live (w.alloc (.cells #[.string ⟨#[]⟩,.string ⟨#[]⟩,.int .i64 0] 240)) w.heap.size 1 (.string ⟨#[]⟩):=Live.fresh w #[.string ⟨#[]⟩,.string ⟨#[]⟩,.int .i64 0] 240 1 _ rfl
 have m2 : Live (w.alloc (.cells #[.string ⟨#[]⟩,.string ⟨#[]⟩,.int .i64 0] 240)) w.heap.size 2 (.int .i64 0):=Live.fresh w #[.string ⟨#[]⟩,.string ⟨#[]⟩,.int .i64 0] 240 2 _ rfl
 rw [← hW] at m0 m1 m2
 have HE:=Lib.hid hE
 have HB:=Lib.hid hB
 have HBW:=Lib.hid hbW
 have M0:=Lib.hid m0
 have M1:=Lib.hid m1
 have M2:=Lib.hid m2
 clear hE hB hbW m0 m1 m2
 go_enter Tryz.func266,Tryz.ntmps266
 go_wp2_with fail
 rw [← hW]
 clear hW
 go_loopw [5] (fun i wr=>∃ k : Nat,i = .int .i64 (k : Int) ∧ a ≤ k ∧ k ≤ E ∧ Hid (nxE (bl b) k = E) ∧ wr = W) (fun i _=>b.size - (intOf i).toNat)
 case atStart=>exact ⟨a,rfl,Nat.le_refl _,e1,Lib.hid HE.out.symm,rfl⟩
 case round=>
  obtain ⟨k,rfl,hak,hkE,hR,rfl⟩:=hrel
  by_cases hlt : k < b.size
  · obtain ⟨x,hx⟩:=at_some (bl b) k (by rw [HL.out];exact hlt)
    have X : ∀ h,b[k]'h = x:=atB_of b k x hx
    have hxl:=x.toNat_lt
    have HX:=Lib.hid hx
    clear hx
    cases hc : eolB x with
    | false=>
     have hn:=nxE_step (bl b) k x HX.out hc
     rw [hR.out] at hn
     have hk1 : k + 1 ≤ E:=by rw [hn];exact nxE_ge _ _
     have g1 : ¬ (x.toNat : Int) = 10:=u8_neK x 10 (by decide) (by intro h;subst h;cases hc)
     have g2 : ¬ (x.toNat : Int) = 13:=u8_neK x 13 (by decide) (by intro h;subst h;cases hc)
     have g3 : ((x.toNat : Int) != 10) = true:=by simpa using g1
     have g4 : ((x.toNat : Int) != 13) = true:=by simpa using g2
     have E2:=Lib.hid hn.symm
     clear hn hc g1 g2
     go_wp2
     go_roundw
     case rel=>exact ⟨k + 1,by first | omega | go_num,by omega,hk1,E2,trivial⟩
     case measure=>simp [intOf];omega
    | true=>
     have hEk : E = k:=by rw [← hR.out,nxE_stop (bl b) k x HX.out hc]
     subst hEk
     have g : x = 10 ∨ x = 13:=by simpa [eolB] using hc
     clear hc
     rcases g with rfl | rfl
     · have hBk : B = E + 1:=by
        rw [HB.out];unfold nxB
        rw [if_pos (by rw [HL.out];exact hlt),if_neg (by rw [HX.out];intro h;cases h.1)]
       subst hBk
       have i1 : ((E : Int) + 1).toNat = E + 1:=by omega
       go_wp2
       obtain ⟨q0,q0'⟩:=M0.out
       obtain ⟨q1,q1'⟩:=M1.out
       obtain ⟨q2,q2'⟩:=M2.out
       go_region
       go_wp2_with fail
       refine bodyPost_ret (v:=.agg #[.string (b.extract a E),.string (b.extract E (E + 1)),.int .i64 (a : Int)]) (by simp [results,Tryz.results266,go_sem,q0,q1,q2,q0',q1',q2']) rfl ?_
       exact ⟨rfl,(((HBW.out.setCell (by simp) _).setCell (by simp) _).setCell (by simp) _).drew⟩
     · have i1 : ((E : Int) + 1).toNat = E + 1:=by omega
       have i2 : ((E : Int) + 1 + 1).toNat = E + 2:=by omega
       by_cases h2 : E + 1 < b.size
       · obtain ⟨y,hy⟩:=at_some (bl b) (E + 1) (by rw [HL.out];exact h2)
         have Y : ∀ h,b[E + 1]'h = y:=atB_of b (E + 1) y hy
         have hyl:=y.toNat_lt
         have h2' : (E : Int) + 1 < (b.size : Int):=by omega
         by_cases hy10 : y = 10
         · subst hy10
           have hBk : B = E + 2:=by
            rw [HB.out];unfold nxB
            rw [if_pos (by rw [HL.out];exact hlt),if_pos ⟨HX.out,hy⟩]
           subst hBk
           clear hy
           go_wp2
           obtain ⟨q0,q0'⟩:=M0.out
           obtain ⟨q1,q1'⟩:=M1.out
           obtain ⟨q2,q2'⟩:=M2.out
           go_region
           go_wp2_with fail
           refine bodyPost_ret (v:=.agg #[.string (b.extract a E),.string (b.extract E (E + 2)),.int .i64 (a : Int)]) (by simp [results,Tryz.results266,go_sem,q0,q1,q2,q0',q1',q2']) rfl ?_
           exact ⟨rfl,(((HBW.out.setCell (by simp) _).setCell (by simp) _).setCell (by simp) _).drew⟩
         · have hBk : B = E + 1:=by
            rw [HB.out];unfold nxB
            rw [if_pos (by rw [HL.out];exact hlt),if_neg (by rw [hy];intro h;exact hy10 (Option.some.inj h.2))]
           subst hBk
           have g3 : ((y.toNat : Int) == 10) = false:=by rw [beq_eq_false_iff_ne];exact u8_neK y 10 (by decide) hy10
           clear hy hy10
           go_wp2
           obtain ⟨q0,q0'⟩:=M0.out
           obtain ⟨q1,q1'⟩:=M1.out
           obtain ⟨q2,q2'⟩:=M2.out
           go_region
           go_wp2_with fail
           refine bodyPost_ret (v:=.agg #[.string (b.extract a E),.string (b.extract E (E + 1)),.int .i64 (a : Int)]) (by simp [results,Tryz.results266,go_sem,q0,q1,q2,q0',q1',q2']) rfl ?_
           exact ⟨rfl,(((HBW.out.setCell (by simp) _).setCell (by simp) _).setCell (by simp) _).drew⟩
       · have hBk : B = E + 1:=by
          rw [HB.out];unfold nxB
          rw [if_pos (by rw [HL.out];exact hlt),if_neg (by rw [List.getElem?_eq_none (by rw [HL.out];omega : (bl b).length ≤ E + 1)];intro h;cases h.2)]
         subst hBk
         have h2' : ¬ (E : Int) + 1 < (b.size : Int):=by omega
         go_wp2
         obtain ⟨q0,q0'⟩:=M0.out
         obtain ⟨q1,q1'⟩:=M1.out
         obtain ⟨q2,q2'⟩:=M2.out
         go_region
         go_wp2_with fail
         refine bodyPost_ret (v:=.agg #[.string (b.extract a E),.string (b.extract E (E + 1)),.int .i64 (a : Int)]) (by simp [results,Tryz.results266,go_sem,q0,q1,q2,q0',q1',q2']) rfl ?_
         exact ⟨rfl,(((HBW.out.setCell (by simp) _).setCell (by simp) _).setCell (by simp) _).drew⟩
  · have hEk : E = k:=by omega
    subst hEk
    have hBk : B = E:=by rw [HB.out];unfold nxB;rw [if_neg (by rw [HL.out];exact hlt)]
    subst hBk
    have hem : b.extract B B = ByteArray.empty:=by simp
    have HEM:=Lib.hid hem
    clear hem
    go_wp2
    obtain ⟨q0,q0'⟩:=M0.out
    obtain ⟨q1,q1'⟩:=M1.out
    obtain ⟨q2,q2'⟩:=M2.out
    go_region
    go_wp2_with fail
    refine bodyPost_ret (v:=.agg #[.string (b.extract a B),.string ByteArray.empty,.int .i64 (a : Int)]) (by simp [results,Tryz.results266,go_sem,q0,q1,q2,q0',q1',q2']) rfl ?_
    exact ⟨by rw [HEM.out],(((HBW.out.setCell (by simp) _).setCell (by simp) _).setCell (by simp) _).drew⟩
end Go.Proofs.YtohbeinhlhgfiaaGreatDoor
namespace Go.Proofs.YtohbeinhlhgfiaaGreatDoor
open Go.RowKit
set_option linter.unusedVariables false
set_option linter.unusedSimpArgs false
def l1cells (b : ByteArray) (p : Nat × Nat × Nat) : List Value:=[.string (b.extract p.1 p.2.1),.string (b.extract p.2.1 p.2.2),.int .i64 (p.1 : Int)]
def lcells (b : ByteArray) (L : List (Nat × Nat × Nat)) : List Value:=L.flatMap (l1cells b)
theorem lcells_snoc (b : ByteArray) (L : List (Nat × Nat × Nat)) (p : Nat × Nat × Nat) : lcells b (L ++ [p]) = lcells b L ++ (#[.string (b.extract p.1 p.2.1),.string (b.extract p.2.1 p.2.2),.int .i64 (p.1 : Int)] : Array Value).toList:=by simp [lcells,l1cells]
theorem infoLine : (Tryz.prog.info? 240).map (fun i=>(i.zero,i.size,i.bytes)) = some (some (.agg #[.string ⟨#[]⟩,.string ⟨#[]⟩,.int .i64 0]),3,40):=by kernel_rfl
theorem ex_size (b : ByteArray) (i j : Nat) (h : j ≤ b.size) : (b.extract i j).size = j - i:=by rw [ByteArray.size_extract];omega
set_option maxRecDepth 100000 in
set_option maxHeartbeats 8000000 in
theorem lines_any (b : ByteArray) (w : World) (hs : b.size ≤ 1000000) : Calls Tryz.prog 216 #[.string b] w fun e w'=>
 ∃ v,e = .returned v ∧ w'.ownsRow w.heap.size 240 3 v (lnF (bl b) 0).length (lcells b (lnF (bl b) 0)) ∧ Below w.heap.size w w':=by
 have HL : Hid ((bl b).length = b.size):=bl_length b
 have K1:=Lib.hid (fun a w ha=>next_any b a w hs ha)
 go_enter Tryz.func216,Tryz.ntmps216
 go_wp2
 go_loopw [3,4] (fun v iv wr=>∃ (a : Nat) (A : List (Nat × Nat × Nat)),iv = .int .i64 (a : Int) ∧ a ≤ b.size ∧ Hid (lnF (bl b) 0 = A ++ lnF (bl b) a) ∧ Hid (wr.ownsRow w.heap.size 240 3 v A.length (lcells b A)) ∧ Hid (Below w.heap.size w wr) ∧ A.length ≤ a) (fun _ iv _=>b.size - (intOf iv).toNat)
 case atStart=>exact ⟨0,[],rfl,Nat.zero_le _,Lib.hid rfl,Lib.hid (World.ownsRow_nil _ _ _ _),Lib.hid (Below.refl _ _),Nat.le_refl _⟩
 case round=>
  obtain ⟨a,A,rfl,hab,HA,HO,HB,hAl⟩:=hrel
  by_cases hlt : a < b.size
  · have k1:=fun w=>K1.out a w hab
    obtain ⟨E,hE⟩ : ∃ E,E = nxE (bl b) a:=⟨_,rfl⟩
    obtain ⟨D,hD⟩ : ∃ D,D = nxB (bl b) E:=⟨_,rfl⟩
    have hcons:=lnF_cons (bl b) a (by rw [HL.out];exact hlt)
    have e1 : a ≤ E:=by rw [hE];exact nxE_ge _ _
    have e2 : E ≤ b.size:=by rw [hE,← HL.out];exact nxE_le _ _ (by rw [HL.out];exact hab)
    have e3 : E ≤ D:=by rw [hD];exact nxB_ge _ _
    have e4 : D ≤ b.size:=by rw [hD,← HL.out];exact nxB_le _ _ (by rw [HL.out];exact e2)
    have e5 : a < D:=by rw [hD,hE];exact nx_gt _ _ (by rw [HL.out];exact hlt)
    rw [← hE,← hD] at hcons
    rw [← hE] at k1
    rw [← hD] at k1
    obtain ⟨S,hS⟩ : ∃ S,S = b.extract a E:=⟨_,rfl⟩
    obtain ⟨R,hR⟩ : ∃ R,R = b.extract E D:=⟨_,rfl⟩
    have hSs : (S.size : Int) = ((E - a : Nat) : Int):=by rw [hS,ex_size _ _ _ e2]
    have hRs : (R.size : Int) = ((D - E : Nat) : Int):=by rw [hR,ex_size _ _ _ e4]
    have hsum : (S.size : Int) + (R.size : Int) = ((D - a : Nat) : Int):=by rw [hSs,hRs];omega
    have hsum2 : (a : Int) + ((D - a : Nat) : Int) = (D : Int):=by omega
    rw [← hS,← hR] at k1
    have HA2 : Hid (lnF (bl b) 0 = (A ++ [(a,E,D)]) ++ lnF (bl b) D):=Lib.hid (by rw [HA.out,hcons,List.append_assoc];rfl)
    have hsn:=lcells_snoc b A (a,E,D)
    simp only [← hS,← hR] at hsn
    obtain ⟨a1,c1,rfl⟩:=orow_form HO.out
    have hrl : w.heap.size ≤ wr.heap.size:=HB.out.size
    have hn1 : A.length < 70368744177664:=by omega
    have hn2 : (A.length + 1) * 40 ≤ 140737488355328:=by omega
    have K2:=Lib.hid k1
    have HSN:=Lib.hid hsn
    clear k1 hsn
    clear hE hD hcons hS hR hSs hRs HA
    go_wp2_with (first
     | (go_at_call 266;go_loud (with_reducible refine (K2.out _).mono ?_);go_loud (rintro e w1 ⟨rfl,hb1⟩);go_loud (obtain ⟨p0,p0'⟩:=Live.fresh w1 #[.string S,.string R,.int .i64 (a : Int)] 240 0 _ rfl);go_loud (obtain ⟨p1,p1'⟩:=Live.fresh w1 #[.string S,.string R,.int .i64 (a : Int)] 240 1 _ rfl);go_loud (obtain ⟨p2,p2'⟩:=Live.fresh w1 #[.string S,.string R,.int .i64 (a : Int)] 240 2 _ rfl))
     | (at_builtin;go_loud (refine wpList_push1 rfl _ _ 238 240 rfl Tryz.underlying238 (.agg #[.string ⟨#[]⟩,.string ⟨#[]⟩,.int .i64 0]) 3 40 infoLine rfl (by decide) (w1.alloc (.cells #[.string S,.string R,.int .i64 (a : Int)] 240)) w.heap.size (.slice a1 A.length c1) A.length (lcells b A) rfl (orow_bel HO.out (bal hb1 _)) #[.string S,.string R,.int .i64 (a : Int)] rfl (by simp [Value.oneCell']) (by show Value.slice (some ⟨w1.heap.size + 1,0,none⟩) 1 1 = _;rw [World.size_alloc]) hn1 hn2 (by rw [World.size_alloc];have:=hb1.size;omega) ?_);go_loud (intro v' w6 hown6 hb6 hk6);go_loud (have F6:=(hk6 w1.heap.size (by rw [World.size_alloc];omega) (fun hq=>by have h1:=(orow_blk HO.out _ hq.symm).2;have h2:=hb1.size;omega)).trans (heap_alloc_new w1 (.cells #[.string S,.string R,.int .i64 (a : Int)] 240)));go_loud (obtain ⟨r0,r0'⟩:=live_of F6 0 _ rfl);go_loud (obtain ⟨r1,r1'⟩:=live_of F6 1 _ rfl))
     | fail)
    have hb1':=hb1.size
    have hBB : Below w.heap.size w w6:=(HB.out.trans ((bal hb1 _).mono HB.out.size)).trans hb6
    have hO6 : w6.ownsRow w.heap.size 240 3 v' (A ++ [(a,E,D)]).length (lcells b (A ++ [(a,E,D)])):=by rw [HSN.out,List.length_append,List.length_cons,List.length_nil];exact hown6
    refine ⟨⟨D,A ++ [(a,E,D)],rfl,e4,HA2,Lib.hid hO6,Lib.hid hBB,by rw [List.length_append,List.length_cons,List.length_nil];omega⟩,?_⟩
    simp only [intOf]
    omega
  · have hae : a = b.size:=by omega
    have hL0 : lnF (bl b) 0 = A:=by rw [HA.out,lnF_end (bl b) a (by rw [HL.out];omega),List.append_nil]
    have HZ:=Lib.hid hL0
    clear hL0 HA
    go_wp2
    go_ret
    exact ⟨_,rfl,by rw [HZ.out];exact HO.out,HB.out⟩
end Go.Proofs.YtohbeinhlhgfiaaGreatDoor
namespace Go.Proofs.YtohbeinhlhgfiaaGreatDoor
open Go.RowKit
set_option linter.unusedVariables false
set_option linter.unusedSimpArgs false
section
variable {P : Program} {ops : Array Oper} {o : Oper} {a : Act} {K : Act → World → Prop} {Q : Exit → Act → World → Prop} {E : Prop}
theorem step_pushY (hgd : o.guard = none) (s x : Operand) (t e : TypeId) (ho : o.op = .call { callee:=.builtin .append,args:=#[s,x],argTypes:=#[t,t] }) (ht : P.underlying t = some (.slice e))
 (z : Value) (size bytes : Nat) (hi : (P.info? e).map (fun i=>(i.zero,i.size,i.bytes)) = some (some z,size,bytes)) (hzs : z.cells.size = size) (hsz : 0 < size) (m : Nat)
 (X : World) (b B : Nat) (v : Value) (n : Nat) (cs : List Value) (hs : a.eval s = v) (hown : X.ownsRow B e size v n cs) (news : Array Value) (hnl : news.size = m * size) (h1 : ∀ u ∈ news.toList,u.oneCell' = true)
 (hnw : ∀ (j : Nat) u,news[j]? = some u → X.cell? ⟨b,j,none⟩ = some u)
 (hx : a.eval x = .slice (some ⟨b,0,none⟩) m m) (hm : m ≤ 1000) (hlen : n < 70368744177664) (hby : (n + m) * bytes ≤ 140737488355328) (hB : B ≤ X.heap.size)
 (h : ∀ v' w',w'.ownsRow B e size v' (n + m) (cs ++ news.toList) → Below B X w' → K (a.put o.dst v') w') :
 if Region.wanted o (yielded ops a.tmps) = true then Oper.wp P o a X K Q else E:=by
 have hw : Region.wanted o (yielded ops a.tmps) = true:=by simp [Region.wanted,hgd]
 rw [if_pos hw]
 obtain ⟨i0,hi,hz0,hz1,hz2⟩:=info_parts hi
 have hnw' : ∀ j u,news.toList[j]? = some u → X.cell? ((⟨b,0,none⟩ : Addr).add j) = some u:=by
  intro j u hj
  have ea : (⟨b,0,none⟩ : Addr).add j = ⟨b,j,none⟩:=by
   by_cases h0 : j = 0
   · subst h0;rfl
   · simp [Addr.add,h0]
  rw [ea]
  exact hnw j u (by simpa using hj)
 obtain ⟨v',w',hrun,r1,r2,_⟩:=run_append_own (P:=P) X B t o.type e i0 z size bytes ht hi hz0 hz1 hz2 hzs hsz v n cs hown ⟨b,0,none⟩ m m news.toList (by simp [hnl]) hnw' h1 (by unfold maxLen;omega) hby hB
 unfold Oper.wp
 simp [execOp,ho,resolve,invoke,builtin,hs,hx,hrun,Result.andThen]
 exact h v' w' r1 (orow_below hown r2 hB)
end
theorem infoLine22 : (Tryz.prog.info? 94).map (fun i=>(i.zero,i.size,i.bytes)) = some (some (.agg #[.string ⟨#[]⟩,.string ⟨#[]⟩,.int .i64 0]),3,40):=by kernel_rfl
set_option maxRecDepth 100000 in
set_option maxHeartbeats 8000000 in
theorem rlines_any (b : ByteArray) (w : World) (hs : b.size ≤ 1000000) : Calls Tryz.prog 34 #[.string b] w fun e w'=>
 ∃ v,e = .returned v ∧ w'.ownsRow w.heap.size 94 3 v (lnF (bl b) 0).length (lcells b (lnF (bl b) 0)) ∧ Below w.heap.size w w':=by
 have HL : Hid ((bl b).length = b.size):=bl_length b
 go_enter Tryz.func34,Tryz.ntmps34
 go_wp2
 go_loopw [3,4,5] (fun v av iv wr=>∃ (p i : Nat) (A : List (Nat × Nat × Nat)),av = .int .i64 (p : Int) ∧ iv = .int .i64 (i : Int) ∧ p ≤ i ∧ i ≤ b.size ∧ Hid (nxE (bl b) p = nxE (bl b) i) ∧ Hid (lnF (bl b) 0 = A ++ lnF (bl b) p) ∧ Hid (wr.ownsRow w.heap.size 94 3 v A.length (lcells b A)) ∧ Hid (Below w.heap.size w wr) ∧ A.length ≤ p) (fun _ _ iv _=>b.size - (intOf iv).toNat)
 case atStart=>exact ⟨0,0,[],rfl,rfl,Nat.le_refl _,Nat.zero_le _,Lib.hid rfl,Lib.hid rfl,Lib.hid (World.ownsRow_nil _ _ _ _),Lib.hid (Below.refl _ _),Nat.le_refl _⟩
 case round=>
  obtain ⟨p,i,A,rfl,rfl,hpi,hib,HE0,HA,HO,HB,hAl⟩:=hrel
  by_cases hlt : i < b.size
  · obtain ⟨x,hx⟩:=at_some (bl b) i (by rw [HL.out];exact hlt)
    have X : ∀ h,b[i]'h = x:=atB_of b i x hx
    have hxl:=x.toNat_lt
    have HX:=Lib.hid hx
    clear hx
    cases hc : eolB x with
    | false=>
     have hn:=nxE_step (bl b) i x HX.out hc
     rw [← HE0.out] at hn
     have g1 : ¬ (x.toNat : Int) = 10:=u8_neK x 10 (by decide) (by intro h;subst h;cases hc)
     have g2 : ¬ (x.toNat : Int) = 13:=u8_neK x 13 (by decide) (by intro h;subst h;cases hc)
     have g3 : ((x.toNat : Int) != 10) = true:=by simpa using g1
     have g4 : ((x.toNat : Int) != 13) = true:=by simpa using g2
     have E2:=Lib.hid hn
     clear hn hc g1 g2
     go_wp2
     go_roundw
     case rel=>exact ⟨p,i + 1,A,rfl,by first | omega | go_num,by omega,by omega,E2,HA,HO,HB,hAl⟩
     case measure=>simp [intOf];omega
    | true=>
     have hE : nxE (bl b) p = i:=by rw [HE0.out,nxE_stop (bl b) i x HX.out hc]
     have g : x = 10 ∨ x = 13:=by simpa [eolB] using hc
     clear hc
     have i1 : ((i : Int) + 1).toNat = i + 1:=by omega
     have i2 : ((i : Int) + 2).toNat = i + 2:=by omega
     rcases g with rfl | rfl
     · have hD : nxB (bl b) i = i + 1:=by
        unfold nxB
        rw [if_pos (by rw [HL.out];exact hlt),if_neg (by rw [HX.out];intro h;cases h.1)]
       have hcons:=lnF_cons (bl b) p (by rw [HL.out];omega)
       rw [hE,hD] at hcons
       have HA2 : Hid (lnF (bl b) 0 = (A ++ [(p,i,i + 1)]) ++ lnF (bl b) (i + 1)):=Lib.hid (by rw [HA.out,hcons,List.append_assoc];rfl)
       have hsn:=lcells_snoc b A (p,i,i + 1)
       obtain ⟨a1,c1,rfl⟩:=orow_form HO.out
       have hrl : w.heap.size ≤ wr.heap.size:=HB.out.size
       have hn1 : A.length < 70368744177664:=by omega
       have hn2 : (A.length + 1) * 40 ≤ 140737488355328:=by omega
       have hZ:=(bal (Below.refl wr.heap.size wr) (.cells #[.string (b.extract p i),.string (b.extract i (i + 1)),.int .i64 (p : Int)] 94)).drew
       have HOZ:=Lib.hid (orow_bel HO.out hZ)
       have hZs:=hZ.size
       have HZ:=Lib.hid hZ
       have HSN:=Lib.hid hsn
       clear hZ hsn hcons hE hD HA HE0
       go_wp2_with fail
       have q6 : IntKind.i64.wrap ((i : Int) + 1) = (i : Int) + 1:=wi64 _ (by omega) (by omega)
       have HZS:=Lib.hid hZs
       have HN1:=Lib.hid hn1
       have HN2:=Lib.hid hn2
       clear hZs hn1 hn2
       have q4 : (i : Int) ≤ (i : Int) + 1:=by omega
       have q5 : (i : Int) + 1 ≤ (b.size : Int):=by omega
       have q7 : ((i : Int) + 1).toNat = i + 1:=by omega
       have q8 : (0 : Int) ≤ (i : Int) + 1:=by omega
       clear i1 i2
       go_region_held3 (fun _=>True) (first | trivial | go_keep)
        (first
          | (refine step_pushY rfl _ _ 91 94 rfl Tryz.underlying91 (.agg #[.string ⟨#[]⟩,.string ⟨#[]⟩,.int .i64 0]) 3 40 infoLine22 rfl (by decide) 1 _ wr.heap.size w.heap.size (.slice a1 A.length c1) A.length (lcells b A) rfl HOZ.out #[.string (b.extract p i),.string (b.extract i (i + 1)),.int .i64 (p : Int)] rfl (by simp [Value.oneCell']) (by intro j u hj;exact (World.cell?_alloc_new _ _ _ _).trans hj) rfl (by decide) HN1.out HN2.out (Nat.le_trans hrl HZS.out) ?_;intro v' w4 hown4 hb4))
       all_goals
        go_wp2_with fail
        refine ⟨⟨i + 1,i + 1,A ++ [(p,i,i + 1)],by go_num,by go_num,Nat.le_refl _,by omega,Lib.hid rfl,HA2,Lib.hid ?_,Lib.hid (HB.out.trans ((HZ.out.mono hrl).trans hb4)),by rw [List.length_append,List.length_cons,List.length_nil];omega⟩,by simp [intOf];omega⟩
        rw [HSN.out,List.length_append,List.length_cons,List.length_nil]
        exact hown4
     · by_cases h2 : i + 1 < b.size
       · obtain ⟨y,hy⟩:=at_some (bl b) (i + 1) (by rw [HL.out];exact h2)
         have Y : ∀ h,b[i + 1]'h = y:=atB_of b (i + 1) y hy
         have hyl:=y.toNat_lt
         have h2' : (i : Int) + 1 < (b.size : Int):=by omega
         by_cases hy10 : y = 10
         · subst hy10
           have hD : nxB (bl b) i = i + 2:=by
            unfold nxB
            rw [if_pos (by rw [HL.out];exact hlt),if_pos ⟨HX.out,hy⟩]
           clear hy
           have hcons:=lnF_cons (bl b) p (by rw [HL.out];omega)
           rw [hE,hD] at hcons
           have HA2 : Hid (lnF (bl b) 0 = (A ++ [(p,i,i + 2)]) ++ lnF (bl b) (i + 2)):=Lib.hid (by rw [HA.out,hcons,List.append_assoc];rfl)
           have hsn:=lcells_snoc b A (p,i,i + 2)
           obtain ⟨a1,c1,rfl⟩:=orow_form HO.out
           have hrl : w.heap.size ≤ wr.heap.size:=HB.out.size
           have hn1 : A.length < 70368744177664:=by omega
           have hn2 : (A.length + 1) * 40 ≤ 140737488355328:=by omega
           have hZ:=(bal (Below.refl wr.heap.size wr) (.cells #[.string (b.extract p i),.string (b.extract i (i + 2)),.int .i64 (p : Int)] 94)).drew
           have HOZ:=Lib.hid (orow_bel HO.out hZ)
           have hZs:=hZ.size
           have HZ:=Lib.hid hZ
           have HSN:=Lib.hid hsn
           clear hZ hsn hcons hE hD HA HE0
           go_wp2_with fail
           have q6 : IntKind.i64.wrap ((i : Int) + 2) = (i : Int) + 2:=wi64 _ (by omega) (by omega)
           have HZS:=Lib.hid hZs
           have HN1:=Lib.hid hn1
           have HN2:=Lib.hid hn2
           clear hZs hn1 hn2
           have q4 : (i : Int) ≤ (i : Int) + 2:=by omega
           have q5 : (i : Int) + 2 ≤ (b.size : Int):=by omega
           have q7 : ((i : Int) + 2).toNat = i + 2:=by omega
           have q8 : (0 : Int) ≤ (i : Int) + 2:=by omega
           clear i1 i2
           go_region_held3 (fun _=>True) (first | trivial | go_keep)
            (first
              | (refine step_pushY rfl _ _ 91 94 rfl Tryz.underlying91 (.agg #[.string ⟨#[]⟩,.string ⟨#[]⟩,.int .i64 0]) 3 40 infoLine22 rfl (by decide) 1 _ wr.heap.size w.heap.size (.slice a1 A.length c1) A.length (lcells b A) rfl HOZ.out #[.string (b.extract p i),.string (b.extract i (i + 2)),.int .i64 (p : Int)] rfl (by simp [Value.oneCell']) (by intro j u hj;exact (World.cell?_alloc_new _ _ _ _).trans hj) rfl (by decide) HN1.out HN2.out (Nat.le_trans hrl HZS.out) ?_;intro v' w4 hown4 hb4))
           all_goals
            go_wp2_with fail
            refine ⟨⟨i + 2,i + 2,A ++ [(p,i,i + 2)],by go_num,by go_num,Nat.le_refl _,by omega,Lib.hid rfl,HA2,Lib.hid ?_,Lib.hid (HB.out.trans ((HZ.out.mono hrl).trans hb4)),by rw [List.length_append,List.length_cons,List.length_nil];omega⟩,by simp [intOf];omega⟩
            rw [HSN.out,List.length_append,List.length_cons,List.length_nil]
            exact hown4
         · have hD : nxB (bl b) i = i + 1:=by
            unfold nxB
            rw [if_pos (by rw [HL.out];exact hlt),if_neg (by rw [hy];intro h;exact hy10 (Option.some.inj h.2))]
           have g3 : ((y.toNat : Int) == 10) = false:=by rw [beq_eq_false_iff_ne];exact u8_neK y 10 (by decide) hy10
           clear hy hy10
           have hcons:=lnF_cons (bl b) p (by rw [HL.out];omega)
           rw [hE,hD] at hcons
           have HA2 : Hid (lnF (bl b) 0 = (A ++ [(p,i,i + 1)]) ++ lnF (bl b) (i + 1)):=Lib.hid (by rw [HA.out,hcons,List.append_assoc];rfl)
           have hsn:=lcells_snoc b A (p,i,i + 1)
           obtain ⟨a1,c1,rfl⟩:=orow_form HO.out
           have hrl : w.heap.size ≤ wr.heap.size:=HB.out.size
           have hn1 : A.length < 70368744177664:=by omega
           have hn2 : (A.length + 1) * 40 ≤ 140737488355328:=by omega
           have hZ:=(bal (Below.refl wr.heap.size wr) (.cells #[.string (b.extract p i),.string (b.extract i (i + 1)),.int .i64 (p : Int)] 94)).drew
           have HOZ:=Lib.hid (orow_bel HO.out hZ)
           have hZs:=hZ.size
           have HZ:=Lib.hid hZ
           have HSN:=Lib.hid hsn
           clear hZ hsn hcons hE hD HA HE0
           go_wp2_with fail
           have q6 : IntKind.i64.wrap ((i : Int) + 1) = (i : Int) + 1:=wi64 _ (by omega) (by omega)
           have HZS:=Lib.hid hZs
           have HN1:=Lib.hid hn1
           have HN2:=Lib.hid hn2
           clear hZs hn1 hn2
           have q4 : (i : Int) ≤ (i : Int) + 1:=by omega
           have q5 : (i : Int) + 1 ≤ (b.size : Int):=by omega
           have q7 : ((i : Int) + 1).toNat = i + 1:=by omega
           have q8 : (0 : Int) ≤ (i : Int) + 1:=by omega
           clear i1 i2
           go_region_held3 (fun _=>True) (first | trivial | go_keep)
            (first
              | (refine step_pushY rfl _ _ 91 94 rfl Tryz.underlying91 (.agg #[.string ⟨#[]⟩,.string ⟨#[]⟩,.int .i64 0]) 3 40 infoLine22 rfl (by decide) 1 _ wr.heap.size w.heap.size (.slice a1 A.length c1) A.length (lcells b A) rfl HOZ.out #[.string (b.extract p i),.string (b.extract i (i + 1)),.int .i64 (p : Int)] rfl (by simp [Value.oneCell']) (by intro j u hj;exact (World.cell?_alloc_new _ _ _ _).trans hj) rfl (by decide) HN1.out HN2.out (Nat.le_trans hrl HZS.out) ?_;intro v' w4 hown4 hb4))
           all_goals
            go_wp2_with fail
            refine ⟨⟨i + 1,i + 1,A ++ [(p,i,i + 1)],by go_num,by go_num,Nat.le_refl _,by omega,Lib.hid rfl,HA2,Lib.hid ?_,Lib.hid (HB.out.trans ((HZ.out.mono hrl).trans hb4)),by rw [List.length_append,List.length_cons,List.length_nil];omega⟩,by simp [intOf];omega⟩
            rw [HSN.out,List.length_append,List.length_cons,List.length_nil]
            exact hown4
       · have hD : nxB (bl b) i = i + 1:=by
          unfold nxB
          rw [if_pos (by rw [HL.out];exact hlt),if_neg (by rw [List.getElem?_eq_none (by rw [HL.out];omega : (bl b).length ≤ i + 1)];intro h;cases h.2)]
         have h2' : ¬ (i : Int) + 1 < (b.size : Int):=by omega
         have hcons:=lnF_cons (bl b) p (by rw [HL.out];omega)
         rw [hE,hD] at hcons
         have HA2 : Hid (lnF (bl b) 0 = (A ++ [(p,i,i + 1)]) ++ lnF (bl b) (i + 1)):=Lib.hid (by rw [HA.out,hcons,List.append_assoc];rfl)
         have hsn:=lcells_snoc b A (p,i,i + 1)
         obtain ⟨a1,c1,rfl⟩:=orow_form HO.out
         have hrl : w.heap.size ≤ wr.heap.size:=HB.out.size
         have hn1 : A.length < 70368744177664:=by omega
         have hn2 : (A.length + 1) * 40 ≤ 140737488355328:=by omega
         have hZ:=(bal (Below.refl wr.heap.size wr) (.cells #[.string (b.extract p i),.string (b.extract i (i + 1)),.int .i64 (p : Int)] 94)).drew
         have HOZ:=Lib.hid (orow_bel HO.out hZ)
         have hZs:=hZ.size
         have HZ:=Lib.hid hZ
         have HSN:=Lib.hid hsn
         clear hZ hsn hcons hE hD HA HE0
         go_wp2_with fail
         have q6 : IntKind.i64.wrap ((i : Int) + 1) = (i : Int) + 1:=wi64 _ (by omega) (by omega)
         have HZS:=Lib.hid hZs
         have HN1:=Lib.hid hn1
         have HN2:=Lib.hid hn2
         clear hZs hn1 hn2
         have q4 : (i : Int) ≤ (i : Int) + 1:=by omega
         have q5 : (i : Int) + 1 ≤ (b.size : Int):=by omega
         have q7 : ((i : Int) + 1).toNat = i + 1:=by omega
         have q8 : (0 : Int) ≤ (i : Int) + 1:=by omega
         clear i1 i2
         go_region_held3 (fun _=>True) (first | trivial | go_keep)
          (first
            | (refine step_pushY rfl _ _ 91 94 rfl Tryz.underlying91 (.agg #[.string ⟨#[]⟩,.string ⟨#[]⟩,.int .i64 0]) 3 40 infoLine22 rfl (by decide) 1 _ wr.heap.size w.heap.size (.slice a1 A.length c1) A.length (lcells b A) rfl HOZ.out #[.string (b.extract p i),.string (b.extract i (i + 1)),.int .i64 (p : Int)] rfl (by simp [Value.oneCell']) (by intro j u hj;exact (World.cell?_alloc_new _ _ _ _).trans hj) rfl (by decide) HN1.out HN2.out (Nat.le_trans hrl HZS.out) ?_;intro v' w4 hown4 hb4))
         all_goals
          go_wp2_with fail
          refine ⟨⟨i + 1,i + 1,A ++ [(p,i,i + 1)],by go_num,by go_num,Nat.le_refl _,by omega,Lib.hid rfl,HA2,Lib.hid ?_,Lib.hid (HB.out.trans ((HZ.out.mono hrl).trans hb4)),by rw [List.length_append,List.length_cons,List.length_nil];omega⟩,by simp [intOf];omega⟩
          rw [HSN.out,List.length_append,List.length_cons,List.length_nil]
          exact hown4
  · have hie : i = b.size:=by omega
    subst hie
    by_cases hp : p < b.size
    · have hE : nxE (bl b) p = b.size:=by rw [HE0.out,← HL.out,nxE_end]
      have hD : nxB (bl b) b.size = b.size:=by unfold nxB;rw [if_neg (by rw [HL.out];omega)]
      have hcons:=lnF_cons (bl b) p (by rw [HL.out];exact hp)
      rw [hE,hD,lnF_end (bl b) b.size (by rw [HL.out];omega)] at hcons
      have hsn:=lcells_snoc b A (p,b.size,b.size)
      simp only [show b.extract b.size b.size = ByteArray.empty from by simp] at hsn
      have hA2 : lnF (bl b) 0 = A ++ [(p,b.size,b.size)]:=by rw [HA.out,hcons]
      obtain ⟨a1,c1,rfl⟩:=orow_form HO.out
      have hrl : w.heap.size ≤ wr.heap.size:=HB.out.size
      have hn1 : A.length < 70368744177664:=by omega
      have hn2 : (A.length + 1) * 40 ≤ 140737488355328:=by omega
      have HSN:=Lib.hid hsn
      have HA2:=Lib.hid hA2
      clear hsn hA2
      clear hE hD hcons HA HE0
      go_wp2_with (first
       | (at_builtin;go_loud (refine wpList_push1 rfl _ _ 91 94 rfl Tryz.underlying91 (.agg #[.string ⟨#[]⟩,.string ⟨#[]⟩,.int .i64 0]) 3 40 infoLine22 rfl (by decide) wr w.heap.size (.slice a1 A.length c1) A.length (lcells b A) rfl HO.out #[.string (b.extract p b.size),.string ByteArray.empty,.int .i64 (p : Int)] rfl (by simp [Value.oneCell']) rfl hn1 hn2 hrl ?_);go_loud (intro v' w6 hown6 hb6 hk6))
       | fail)
      go_ret
      exact ⟨_,rfl,by rw [HA2.out,HSN.out,List.length_append,List.length_cons,List.length_nil];exact hown6,HB.out.trans hb6⟩
    · have hL0 : lnF (bl b) 0 = A:=by rw [HA.out,lnF_end (bl b) p (by rw [HL.out];omega),List.append_nil]
      have HZ:=Lib.hid hL0
      clear hL0 HA
      go_wp2
      go_ret
      exact ⟨_,rfl,by rw [HZ.out];exact HO.out,HB.out⟩
end Go.Proofs.YtohbeinhlhgfiaaGreatDoor
namespace Go.Proofs.YtohbeinhlhgfiaaGreatDoor
open Go.RowKit
set_option linter.unusedVariables false
set_option linter.unusedSimpArgs false
def cueP : List UInt8:=[82,69,77,32,67,72,65,82,83,69,84,32]
def ssaP : List UInt8:=[67,104,97,114,115,101,116,58,32]
def lrcP : List UInt8:=[91,99,115,58]
def lineP (b : ByteArray) (pre : List UInt8) (p : Nat × Nat × Nat) : Option ByteArray:=if Lib.hasPrefix (b.extract p.1 p.2.1).data.toList pre = true then some ⟨(Lib.trimPrefix (b.extract p.1 p.2.1).data.toList pre).toArray⟩ else none
def declF (f : Nat × Nat × Nat → Option ByteArray) : List (Nat × Nat × Nat) → ByteArray
 | []=>⟨#[]⟩
 | p :: r=>match f p with | some s=>s | none=>declF f r
theorem declF_step (f : Nat × Nat × Nat → Option ByteArray) (L : List (Nat × Nat × Nat)) (k : Nat) (p : Nat × Nat × Nat) (h : L[k]? = some p) : (∀ s,f p = some s → declF f (L.drop k) = s) ∧ (f p = none → declF f (L.drop k) = declF f (L.drop (k + 1))):=by
 obtain ⟨h1,h2⟩:=List.getElem?_eq_some_iff.1 h
 rw [List.drop_eq_getElem_cons h1,h2]
 refine ⟨fun s hs=>by rw [declF,hs],fun hn=>by rw [declF,hn]⟩
theorem declF_end (f : Nat × Nat × Nat → Option ByteArray) (L : List (Nat × Nat × Nat)) (k : Nat) (h : L.length ≤ k) : declF f (L.drop k) = ⟨#[]⟩:=by
 rw [List.drop_eq_nil_of_le h];rfl
theorem lnF_len (l : List UInt8) : ∀ (n a : Nat),l.length - a ≤ n → (lnF l a).length ≤ n
 | n,a,h=>by
  by_cases ha : a < l.length
  · rw [lnF_cons l a ha,List.length_cons]
    have hg:=nx_gt l a ha
    match n,h with
    | 0,h=>omega
    | n + 1,h=>have:=lnF_len l n (nxB l (nxE l a)) (by omega);omega
  · rw [lnF_end l a ha];exact Nat.zero_le _
theorem lnF_len0 (b : ByteArray) : (lnF (bl b) 0).length ≤ b.size:=lnF_len (bl b) b.size 0 (by rw [bl_length];omega)
theorem lcells_at (b : ByteArray) : ∀ (L : List (Nat × Nat × Nat)) (k : Nat) (p : Nat × Nat × Nat),L[k]? = some p → ∀ (j : Nat) (v : Value),(l1cells b p)[j]? = some v → (lcells b L)[k * 3 + j]? = some v
 | [],k,p,h,_,_,_=>by simp at h
 | q :: L,0,p,h,j,v,hv=>by
  simp at h
  subst h
  have hj : j < (l1cells b q).length:=(List.getElem?_eq_some_iff.1 hv).1
  rw [Nat.zero_mul,Nat.zero_add]
  unfold lcells
  rw [List.flatMap_cons,List.getElem?_append_left hj]
  exact hv
 | q :: L,k + 1,p,h,j,v,hv=>by
  have:=lcells_at b L k p (by simpa using h) j v hv
  unfold lcells
  rw [List.flatMap_cons,List.getElem?_append_right (by simp [l1cells];omega)]
  rw [show (k + 1) * 3 + j - (l1cells b q).length = k * 3 + j by simp [l1cells];omega]
  exact this
theorem row_line {w : World} {b : ByteArray} {L : List (Nat × Nat × Nat)} {g o cap n : Nat} (h : Row w (.slice (some ⟨g,o,none⟩) n cap) n (lcells b L)) (k : Nat) (p : Nat × Nat × Nat) (hk : L[k]? = some p) :
 w.cell? ⟨g,o + k * 3,none⟩ = some (.string (b.extract p.1 p.2.1)) ∧ w.cell? ⟨g,o + k * 3 + 1,none⟩ = some (.string (b.extract p.2.1 p.2.2)) ∧ w.cell? ⟨g,o + k * 3 + 2,none⟩ = some (.int .i64 (p.1 : Int)):=by
 have hx : ∀ (j : Nat) (v : Value),(l1cells b p)[j]? = some v → w.cell? ⟨g,o + (k * 3 + j),none⟩ = some v:=fun j v hj=>by
  obtain ⟨g',o',c',e,hc⟩:=row_at h _ _ (lcells_at b L k p hk j v hj)
  simp only [Value.slice.injEq,Option.some.injEq,Addr.mk.injEq] at e
  obtain ⟨⟨rfl,rfl,_⟩,_,_⟩:=e
  exact hc
 exact ⟨by simpa using hx 0 _ rfl,by have:=hx 1 _ rfl;rwa [← Nat.add_assoc] at this,by have:=hx 2 _ rfl;rwa [← Nat.add_assoc] at this⟩
theorem cut_any (s : ByteArray) (pre : List UInt8) (w : World) : Calls Tryz.prog 220 #[.string s,.string ⟨pre.toArray⟩] w fun e w'=>e = .returned (.tuple #[.string ⟨(Lib.trimPrefix s.data.toList pre).toArray⟩,.bool (Lib.hasPrefix s.data.toList pre)]) ∧ w' = w:=by
 have:=Tryz.strings_CutPrefix s ⟨pre.toArray⟩ w
 simpa using this
set_option maxRecDepth 100000 in
set_option maxHeartbeats 8000000 in
theorem sdecl_any (b : ByteArray) (w : World) (hs : b.size ≤ 1000000) : Calls Tryz.prog 142 #[.string b] w fun e w'=>e = .returned (.string (declF (lineP b ssaP) (lnF (bl b) 0))) ∧ Below w.heap.size w w':=by
 obtain ⟨L,hL⟩ : ∃ L,L = lnF (bl b) 0:=⟨_,rfl⟩
 have k1:=lines_any b w hs
 have hLn:=lnF_len0 b
 rw [← hL] at k1 hLn ⊢
 clear hL
 have K1:=Lib.hid k1
 have K2:=Lib.hid (fun (p : Nat × Nat × Nat) w=>cut_any (b.extract p.1 p.2.1) ssaP w)
 clear k1
 go_enter Tryz.func142,Tryz.ntmps142
 go_wp2_with (go_at_call 216;go_loud (with_reducible refine (K1.out).mono ?_);go_loud (rintro e w1 ⟨v,rfl,hown,hb1⟩);go_loud (obtain ⟨a1,c1,rfl⟩:=orow_form hown))
 have HR:=Lib.hid (row_owns hown)
 have HB1:=Lib.hid hb1
 clear hown hb1
 go_loopw [10] (fun iv wr=>∃ k : Nat,iv = .int .i64 (k : Int) ∧ k ≤ L.length ∧ Hid (declF (lineP b ssaP) L = declF (lineP b ssaP) (L.drop k)) ∧ Hid (Below w1.heap.size w1 wr)) (fun iv _=>L.length - (intOf iv).toNat)
 case atStart=>exact ⟨0,rfl,Nat.zero_le _,Lib.hid rfl,Lib.hid (Below.refl _ _)⟩
 case round=>
  obtain ⟨k,rfl,hk,HD,HB⟩:=hrel
  by_cases hlt : k < L.length
  · obtain ⟨p,hp⟩:=at_some L k hlt
    obtain ⟨h1,h2⟩:=declF_step (lineP b ssaP) L k p hp
    have hrow:=HR.out.keep HB.out
    obtain ⟨g,o,c',e,_⟩:=row_at hrow _ _ (lcells_at b L k p hp 0 _ rfl)
    simp only [Value.slice.injEq] at e
    obtain ⟨rfl,_,rfl⟩:=e
    obtain ⟨q0,q1,q2⟩:=row_line hrow k p hp
    have k2:=K2.out p
    unfold lineP at h1 h2
    have HBB:=Lib.hid (HB1.out.trans (HB.out.mono HB1.out.size))
    obtain ⟨S,hS⟩ : ∃ S,S = b.extract p.1 p.2.1:=⟨_,rfl⟩
    obtain ⟨U,hU⟩ : ∃ U,U = b.extract p.2.1 p.2.2:=⟨_,rfl⟩
    obtain ⟨R,hR⟩ : ∃ R : ByteArray,R = ⟨(Lib.trimPrefix (b.extract p.1 p.2.1).data.toList ssaP).toArray⟩:=⟨_,rfl⟩
    rw [← hS] at q0
    rw [← hU] at q1
    rw [← hR] at h1 k2
    rw [← hS] at h1 h2 k2
    cases hc : Lib.hasPrefix S.data.toList ssaP with
    | true=>
     rw [hc] at h1 k2
     have hd:=h1 R rfl
     have HD2:=Lib.hid (HD.out.trans hd)
     have K3:=Lib.hid k2
     clear h1 h2 k2 hd hrow hp hS hU hR hc
     go_wp2_with (go_at_call 220;go_loud (refine (K3.out _).mono ?_);go_loud (rintro e w2 ⟨rfl,rfl⟩))
     go_ret
     exact ⟨by rw [HD2.out];rfl,bal HBB.out _⟩
    | false=>
     rw [hc] at h2 k2
     have hd:=h2 rfl
     have HD2:=Lib.hid (HD.out.trans hd)
     have K3:=Lib.hid k2
     clear h1 h2 k2 hd hrow hp hS hU hR hc
     go_wp2_with (go_at_call 220;go_loud (refine (K3.out _).mono ?_);go_loud (rintro e w2 ⟨rfl,rfl⟩))
     go_roundw
     case rel=>exact ⟨k + 1,by first | omega | go_num,by omega,HD2,Lib.hid (bal HB.out _)⟩
     case measure=>simp [intOf];omega
  · have hd:=declF_end (lineP b ssaP) L k (by omega)
    have HD2:=Lib.hid (HD.out.trans hd)
    have HBB:=Lib.hid (HB1.out.trans (HB.out.mono HB1.out.size))
    clear hd
    go_wp2
    go_ret
    exact ⟨by rw [HD2.out];rfl,HBB.out⟩
end Go.Proofs.YtohbeinhlhgfiaaGreatDoor
