/- Oc -/
import Derived.Deep.Slices
import Derived.Test.YtnbglcaeekppjaaGreatDoorMFr
import Derived.Test.YtnbglcaeekppjaaGreatDoorMOx
import Derived.Test.YtnbglcaeekppjaaGreatDoorMTv
set_option linter.unusedVariables false
set_option linter.unusedSimpArgs false
set_option maxHeartbeats 4000000
namespace Go.Proofs.YtnbglcaeekppjaaGreatDoor
open Go.ChangeShapes Go.WideShapes Go.ChangeAt Go.RowKit Go.ChangeMaps
def ntcells (l : List Nt) : List Value:=l.flatMap fun n=>[.string n.name,.string n.text,.int .i64 n.set]
theorem ntcells_length (l : List Nt) : (ntcells l).length = l.length * 3:=by
 induction l with
 | nil=>rfl
 | cons n l ih=>show ([_,_,_] ++ ntcells l).length = _;simp [ih];omega
theorem ntcells_append (l m : List Nt) : ntcells (l ++ m) = ntcells l ++ ntcells m:=by simp [ntcells]
theorem ntcells_at (l : List Nt) (i : Nat) (n : Nt) (h : l[i]? = some n) : (ntcells l)[i * 3]? = some (.string n.name) ∧ (ntcells l)[i * 3 + 1]? = some (.string n.text) ∧ (ntcells l)[i * 3 + 2]? = some (.int .i64 n.set):=by
 induction l generalizing i with
 | nil=>simp at h
 | cons m l ih=>
  cases i with
  | zero=>
   simp at h
   subst h
   exact ⟨rfl,rfl,rfl⟩
  | succ i=>
   have:=ih i (by simpa using h)
   have e : ntcells (m :: l) = [.string m.name,.string m.text,.int .i64 m.set] ++ ntcells l:=rfl
   rw [e]
   refine ⟨?_,?_,?_⟩
   · rw [List.getElem?_append_right (by simp;omega)]
     rw [show (i + 1) * 3 - [Value.string m.name,.string m.text,.int .i64 m.set].length = i * 3 by simp;omega]
     exact this.1
   · rw [List.getElem?_append_right (by simp;omega)]
     rw [show (i + 1) * 3 + 1 - [Value.string m.name,.string m.text,.int .i64 m.set].length = i * 3 + 1 by simp;omega]
     exact this.2.1
   · rw [List.getElem?_append_right (by simp;omega)]
     rw [show (i + 1) * 3 + 2 - [Value.string m.name,.string m.text,.int .i64 m.set].length = i * 3 + 2 by simp;omega]
     exact this.2.2
theorem cells_s : Tryz.prog.cellsOf 9 = 1:=by kernel_rfl
theorem cells_c : Tryz.prog.cellsOf 28 = 1:=by kernel_rfl
theorem cells_leaf : Tryz.prog.cellsOf 30 = 2:=by kernel_rfl
theorem cells_note : Tryz.prog.cellsOf 108 = 3:=by kernel_rfl
theorem cells_notes : Tryz.prog.cellsOf 31 = 1:=by kernel_rfl
theorem cells_block : Tryz.prog.cellsOf 33 = 3:=by kernel_rfl
section
variable {H : Type} {enc : TypeId × Value → H} {w : World} {base : Nat} {sp : Nat → Bool} {held : Bool}
set_option maxRecDepth 100000 in
theorem trod_leaf {fuel : Nat} {cs : List Value} {x : DataW H × List MemPlace} (h : DataW.trod enc Tryz.prog w base sp held fuel 30 cs = some x) :
 ∃ (t : ByteArray) (s : Int),cs = [.string t,.int .i64 s] ∧ t.size ≤ maxLen:=by
 obtain ⟨xs,n,_,_,hlen,hx,hf⟩:=DataW.trod_struct Tryz.underlying30 h
 rw [cells_leaf] at hlen
 have h0:=hf 0 _ rfl
 have h1:=hf 1 _ rfl
 simp only [List.getElem_toArray,List.getElem_cons_zero,List.getElem_cons_succ] at h0 h1
 rw [cells_s] at h0
 rw [cells_c] at h1
 match cs,hlen with
 | [a,b],_=>
  match xs,hx with
  | [y,z],_=>
   obtain ⟨s,e0,_,hs⟩:=DataW.trod_string Tryz.underlying9 h0
   obtain ⟨c,e1,_,_⟩:=DataW.trod_int Tryz.underlying28 h1
   simp at e0 e1
   exact ⟨s,c,by rw [e0,e1],hs⟩
set_option maxRecDepth 100000 in
theorem trod_note {fuel : Nat} {cs : List Value} {x : DataW H × List MemPlace} (h : DataW.trod enc Tryz.prog w base sp held fuel 108 cs = some x) :
 ∃ n : Nt,cs = [.string n.name,.string n.text,.int .i64 n.set] ∧ n.name.size ≤ maxLen ∧ n.text.size ≤ maxLen:=by
 obtain ⟨xs,n,_,_,hlen,hx,hf⟩:=DataW.trod_struct Tryz.underlying108 h
 rw [cells_note] at hlen
 have h0:=hf 0 _ rfl
 have h1:=hf 1 _ rfl
 simp only [List.getElem_toArray,List.getElem_cons_zero,List.getElem_cons_succ] at h0 h1
 rw [cells_s] at h0
 rw [cells_leaf] at h1
 match cs,hlen with
 | [a,b,c],_=>
  match xs,hx with
  | [y,z],_=>
   obtain ⟨s,e0,_,hs⟩:=DataW.trod_string Tryz.underlying9 h0
   obtain ⟨t,c',e1,ht⟩:=trod_leaf h1
   simp at e0 e1
   exact ⟨⟨s,t,c'⟩,by rw [e0,e1.1,e1.2],hs,ht⟩
def okBk (b : Bk) : Prop:=b.vt.size ≤ maxLen ∧ b.ns.length ≤ maxLen ∧ ∀ n ∈ b.ns,n.name.size ≤ maxLen ∧ n.text.size ≤ maxLen
set_option maxRecDepth 100000 in
theorem trod_notes {fuel : Nat} {v : Value} {x : DataW H × List MemPlace} (h : DataW.trod enc Tryz.prog w base (fun _=>true) held fuel 31 [v] = some x) :
 ∃ l : List Nt,Row w v l.length (ntcells l) ∧ l.length ≤ maxLen ∧ ∀ n ∈ l,n.name.size ≤ maxLen ∧ n.text.size ≤ maxLen:=by
 rcases Go.Deep.open_slice Tryz.underlying31 h with ⟨hc,_⟩ | ⟨a,len,cap,m,n,D,Pl,hcs,hb,hl,hm,hmm,_,hi⟩
 · simp at hc
   subst hc
   exact ⟨[],Row.nil _,Nat.zero_le _,fun n h=>by cases h⟩
 · simp at hcs
   subst hcs
   rw [cells_note] at hi
   simp only [if_true] at hmm
   have hex : ∀ i,i < len → ∃ n : Nt,(∀ j,j < 3 → w.cell? (a.add (i * 3 + j)) = [Value.string n.name,.string n.text,.int .i64 n.set][j]?) ∧ n.name.size ≤ maxLen ∧ n.text.size ≤ maxLen:=by
    intro i hil
    obtain ⟨cs',h1,h2⟩:=hi i (by omega)
    obtain ⟨nt,rfl,h3,h4⟩:=trod_note h2
    obtain ⟨_,_,h5⟩:=World.cells?_some h1
    refine ⟨nt,fun j hj=>?_,h3,h4⟩
    rw [← Go.Deep.add_add]
    exact h5 j hj
   obtain ⟨f,hf⟩ : ∃ f : Nat → Nt,∀ i,i < len → (∀ j,j < 3 → w.cell? (a.add (i * 3 + j)) = [Value.string (f i).name,.string (f i).text,.int .i64 (f i).set][j]?) ∧ (f i).name.size ≤ maxLen ∧ (f i).text.size ≤ maxLen:=by
    refine ⟨fun i=>if h : i < len then (hex i h).choose else ⟨⟨#[]⟩,⟨#[]⟩,0⟩,fun i h=>?_⟩
    simp only [dif_pos h]
    exact (hex i h).choose_spec
   refine ⟨(List.range len).map f,?_,by rw [List.length_map,List.length_range];exact Nat.le_trans hl hm,fun n hn=>?_⟩
   · rw [List.length_map,List.length_range]
     refine ⟨some a,cap,rfl,fun j x hj=>?_⟩
     have hjl : j < len * 3:=by
      have:=(List.getElem?_eq_some_iff.1 hj).1
      rw [ntcells_length,List.length_map,List.length_range] at this
      exact this
     have hdiv : j = j / 3 * 3 + j % 3:=by omega
     have hq : j / 3 < len:=by omega
     have h1:=(hf (j / 3) hq).1 (j % 3) (Nat.mod_lt _ (by decide))
     obtain ⟨g1,g2,g3⟩:=ntcells_at ((List.range len).map f) (j / 3) (f (j / 3)) (by rw [List.getElem?_map,List.getElem?_range hq];rfl)
     have hx : w.cell? (a.add j) = some x:=by
      rw [← hj]
      rw [← hdiv] at h1
      rw [h1]
      rcases (show j % 3 = 0 ∨ j % 3 = 1 ∨ j % 3 = 2 by omega) with h | h | h
      · rw [h];rw [show j / 3 * 3 = j by omega] at g1;rw [g1];rfl
      · rw [h];rw [show j / 3 * 3 + 1 = j by omega] at g2;rw [g2];rfl
      · rw [h];rw [show j / 3 * 3 + 2 = j by omega] at g3;rw [g3];rfl
     have h0:=(hf 0 (by omega)).1 0 (by decide)
     obtain ⟨b,off,p⟩:=a
     have hp : p = none:=by simpa [Addr.add] using World.cell?_spot h0
     subst hp
     refine ⟨b,off,rfl,?_⟩
     rw [← Go.WideShapes.add_plain]
     exact hx
   · obtain ⟨i,hi',rfl⟩:=List.mem_map.1 hn
     exact (hf i (by simpa using hi')).2
end
end Go.Proofs.YtnbglcaeekppjaaGreatDoor
namespace Go.Proofs.YtnbglcaeekppjaaGreatDoor
open Go.RowKit
theorem nt_at {w : World} {av : Option Addr} {l : List Nt} (hc : ∀ (j : Nat) (x : Value),(ntcells l)[j]? = some x → ∃ g o,av = some ⟨g,o,none⟩ ∧ w.cell? ⟨g,o + j,none⟩ = some x) (k : Nat) (n : Nt) (hk : l[k]? = some n) :
 ∃ g o,av = some ⟨g,o,none⟩ ∧ w.cell? ⟨g,o + k * 3,none⟩ = some (.string n.name) ∧ w.cell? ⟨g,o + k * 3 + 1,none⟩ = some (.string n.text) ∧ w.cell? ⟨g,o + k * 3 + 2,none⟩ = some (.int .i64 n.set):=by
 obtain ⟨h0,h1,h2⟩:=ntcells_at l k n hk
 obtain ⟨g,o,rfl,c0⟩:=hc _ _ h0
 obtain ⟨g',o',e,c1⟩:=hc _ _ h1
 simp only [Option.some.injEq,Addr.mk.injEq,and_true] at e
 obtain ⟨rfl,rfl⟩:=e
 obtain ⟨g',o',e,c2⟩:=hc _ _ h2
 simp only [Option.some.injEq,Addr.mk.injEq,and_true] at e
 obtain ⟨rfl,rfl⟩:=e
 exact ⟨g,o,rfl,c0,c1,c2⟩
def lightN (n : Nt) : Bool:=decide (n.name.size ≤ 50) && decide (n.text.size ≤ 150)
def lightM (b : Bk) : Bool:=b.ns.all lightN && decide (b.ns.length ≤ 30) && decide (b.vt.size ≤ 150)
theorem all_step {α : Type} (p : α → Bool) (l : List α) (k : Nat) (x : α) (h : l[k]? = some x) (ha : (l.take k).all p = true) :
 (p x = true → (l.take (k + 1)).all p = true) ∧ (p x = false → l.all p = false):=by
 obtain ⟨h1,h2⟩:=List.getElem?_eq_some_iff.1 h
 constructor
 · intro hx
   rw [List.take_succ_eq_append_getElem h1,List.all_append,ha,h2]
   simp [hx]
 · intro hx
   rw [List.all_eq_false]
   exact ⟨x,List.mem_of_getElem? h,by simp [hx]⟩
theorem light_any (v : Value) (b : Bk) (w : World) (hrow : Row w v b.ns.length (ntcells b.ns)) (hok : okBk b) :
 Calls Tryz.prog 22 #[.agg #[.string b.vt,.int .i64 b.vs,v]] w fun e w'=>e = .returned (.bool (lightM b)) ∧ Below w.heap.size w w':=by
 obtain ⟨vt,vs,ns⟩:=b
 obtain ⟨av,cap,rfl,hc⟩:=hrow
 obtain ⟨o1,o2,o3⟩:=hok
 simp only at o1 o2 o3 hc ⊢
 have hm : lightM ⟨vt,vs,ns⟩ = (ns.all lightN && decide (ns.length ≤ 30) && decide (vt.size ≤ 150)):=rfl
 rw [hm]
 obtain ⟨n,hn⟩ : ∃ n,n = ns.length:=⟨_,rfl⟩
 rw [← hn] at o2 ⊢
 unfold maxLen at o1 o2 o3
 have HC:=Lib.hid hc
 have HN:=Lib.hid hn
 have O3:=Lib.hid o3
 clear hc hn o3
 clear hm
 go_enter Tryz.func22,Tryz.ntmps22
 go_wp2_with fail
 obtain ⟨W,hW⟩ : ∃ W,W = w.alloc (.cells #[.string vt,.int .i64 vs,.slice av n cap] 33):=⟨_,rfl⟩
 rw [← hW]
 have hbW : Below w.heap.size w W:=by rw [hW];exact bal (Below.refl _ _) _
 have l0 : Live W w.heap.size 0 (.string vt):=by rw [hW];exact Live.fresh _ _ _ 0 _ rfl
 have l2 : Live W w.heap.size 2 (.slice av n cap):=by rw [hW];exact Live.fresh _ _ _ 2 _ rfl
 clear hW
 have HBW:=Lib.hid hbW
 have L0:=Lib.hid l0
 have L2:=Lib.hid l2
 clear hbW l0 l2
 go_loopw [8] (fun iv wr=>∃ k : Nat,iv = .int .i64 (k : Int) ∧ k ≤ n ∧ Hid ((ns.take k).all lightN = true) ∧ Below W.heap.size W wr) (fun iv _=>n - (intOf iv).toNat)
 case atStart=>exact ⟨0,rfl,Nat.zero_le _,Lib.hid (by simp),Below.refl _ _⟩
 case round=>
  obtain ⟨k,rfl,hk,hA,hbel⟩:=hrel
  have c0:=kc hbel L0.out.1
  have c2:=kc hbel L2.out.1
  by_cases hlt : k < n
  · obtain ⟨x,hx⟩:=at_some ns k (by rw [← HN.out];exact hlt)
    obtain ⟨g,o,rfl,d0,d1,d2⟩:=nt_at HC.out k x hx
    have d0:=kc hbel (kc HBW.out d0)
    have d1:=kc hbel (kc HBW.out d1)
    have d2:=kc hbel (kc HBW.out d2)
    obtain ⟨b1,b2⟩:=O3.out x (List.mem_of_getElem? hx)
    obtain ⟨s1,s2⟩:=all_step lightN ns k x hx hA.out
    have hl : lightN x = (decide (x.name.size ≤ 50) && decide (x.text.size ≤ 150)):=rfl
    rw [hl] at s1 s2
    have hbz:=bal hbel (.cells #[.string x.name,.string x.text,.int .i64 x.set] 108)
    have S1:=Lib.hid s1
    have S2:=Lib.hid s2
    have HBZ:=Lib.hid hbz
    clear s1 s2 hbz
    clear hl
    by_cases q1 : x.name.size ≤ 50
    · by_cases q2 : x.text.size ≤ 150
      · have s1:=S1.out (by simp [q1,q2])
        have S1':=Lib.hid s1
        clear s1
        go_wp2_with fail
        go_roundw
        case rel=>exact ⟨k + 1,by go_num,by omega,S1',HBZ.out⟩
        case measure=>simp [intOf];omega
      · have s2:=S2.out (by simp [q2])
        have S2':=Lib.hid s2
        clear s2
        go_wp2_with fail
        go_ret
        exact ⟨ret_b (by rw [S2'.out];rfl),HBW.out.trans (HBZ.out.mono HBW.out.size)⟩
    · have s2:=S2.out (by simp [q1])
      have S2':=Lib.hid s2
      clear s2
      go_wp2_with fail
      go_ret
      exact ⟨ret_b (by rw [S2'.out];rfl),HBW.out.trans (HBZ.out.mono HBW.out.size)⟩
  · have hkn : k = n:=by omega
    subst hkn
    have ha:=hA.out
    rw [List.take_of_length_le (by rw [← HN.out];exact Nat.le_refl _)] at ha
    have hfin : (ns.all lightN && decide (k ≤ 30) && decide (vt.size ≤ 150)) = (decide (k ≤ 30) && decide (vt.size ≤ 150)):=by rw [ha,Bool.true_and]
    have HFIN:=Lib.hid hfin
    clear hfin
    have hbz:=HBW.out.trans (hbel.mono HBW.out.size)
    have HBZ:=Lib.hid hbz
    clear hbz
    clear ha hA
    by_cases q1 : k ≤ 30
    · by_cases q2 : vt.size ≤ 150
      · go_wp2_with fail
        go_ret
        exact ⟨ret_b (by first | (rw [HFIN.out];simp [q1,q2] <;> omega) | rfl),HBZ.out⟩
      · go_wp2_with fail
        go_ret
        exact ⟨ret_b (by first | (rw [HFIN.out];simp [q1,q2] <;> omega) | rfl),HBZ.out⟩
    · go_wp2_with fail
      go_ret
      exact ⟨ret_b (by first | (rw [HFIN.out];simp [q1] <;> omega) | rfl),HBZ.out⟩
end Go.Proofs.YtnbglcaeekppjaaGreatDoor
