/- Ch -/
import Derived.Lib.ConvBytes
import Derived.Test.YtohbeinhlhgfiaaGreatDoorMBi
set_option linter.unusedVariables false
set_option linter.unusedSimpArgs false
set_option maxHeartbeats 4000000
namespace Go.Proofs.YtohbeinhlhgfiaaGreatDoor
open Go.RowKit
theorem legacy_any (c : Int) (w : World) : Calls Tryz.prog 200 #[.int .i64 c] w fun e w'=>e = .returned (.bool (decide (0 ≤ c ∧ c ≤ 6))) ∧ Below w.heap.size w w':=by
 by_cases h : 0 ≤ c
 · by_cases h2 : c ≤ 6
   · rw [show decide (0 ≤ c ∧ c ≤ 6) = true by simp [h,h2]]
     go_enter Tryz.func200,Tryz.ntmps200
     go_wp2
     go_ret
     exact ⟨rfl,Below.refl _ _⟩
   · rw [show decide (0 ≤ c ∧ c ≤ 6) = false by simp [h,h2]]
     go_enter Tryz.func200,Tryz.ntmps200
     go_wp2
     go_ret
     exact ⟨rfl,Below.refl _ _⟩
 · rw [show decide (0 ≤ c ∧ c ≤ 6) = false by simp [h]]
   go_enter Tryz.func200,Tryz.ntmps200
   go_wp2
   go_ret
   exact ⟨rfl,Below.refl _ _⟩
def namesL : List (List ByteArray):=[[⟨#[108,97,116,105,110,49]⟩,⟨#[105,115,111,45,56,56,53,57,45,49]⟩,⟨#[108,97,116,105,110,45,49]⟩],[⟨#[107,111,105,56,45,114]⟩,⟨#[107,111,105,56,114]⟩,⟨#[]⟩],[⟨#[107,111,105,56,45,117]⟩,⟨#[107,111,105,56,117]⟩,⟨#[]⟩],[⟨#[99,112,56,54,54]⟩,⟨#[105,98,109,56,54,54]⟩,⟨#[]⟩],[⟨#[99,112,57,52,57]⟩,⟨#[101,117,99,45,107,114]⟩,⟨#[117,104,99]⟩],[⟨#[106,111,104,97,98]⟩,⟨#[99,112,49,51,54,49]⟩,⟨#[]⟩],[⟨#[98,105,103,53,45,104,107,115,99,115]⟩,⟨#[98,105,103,53]⟩,⟨#[]⟩],[⟨#[117,116,102,45,56]⟩,⟨#[117,116,102,56]⟩,⟨#[]⟩],[⟨#[117,116,102,45,49,54,108,101]⟩,⟨#[117,116,102,49,54,108,101]⟩,⟨#[]⟩],[⟨#[117,116,102,45,49,54,98,101]⟩,⟨#[117,116,102,49,54,98,101]⟩,⟨#[]⟩]]
def namesArr : Array Value:=#[.string ⟨#[108,97,116,105,110,49]⟩,.string ⟨#[105,115,111,45,56,56,53,57,45,49]⟩,.string ⟨#[108,97,116,105,110,45,49]⟩,.string ⟨#[107,111,105,56,45,114]⟩,.string ⟨#[107,111,105,56,114]⟩,.string ⟨#[]⟩,.string ⟨#[107,111,105,56,45,117]⟩,.string ⟨#[107,111,105,56,117]⟩,.string ⟨#[]⟩,.string ⟨#[99,112,56,54,54]⟩,.string ⟨#[105,98,109,56,54,54]⟩,.string ⟨#[]⟩,.string ⟨#[99,112,57,52,57]⟩,.string ⟨#[101,117,99,45,107,114]⟩,.string ⟨#[117,104,99]⟩,.string ⟨#[106,111,104,97,98]⟩,.string ⟨#[99,112,49,51,54,49]⟩,.string ⟨#[]⟩,.string ⟨#[98,105,103,53,45,104,107,115,99,115]⟩,.string ⟨#[98,105,103,53]⟩,.string ⟨#[]⟩,.string ⟨#[117,116,102,45,56]⟩,.string ⟨#[117,116,102,56]⟩,.string ⟨#[]⟩,.string ⟨#[117,116,102,45,49,54,108,101]⟩,.string ⟨#[117,116,102,49,54,108,101]⟩,.string ⟨#[]⟩,.string ⟨#[117,116,102,45,49,54,98,101]⟩,.string ⟨#[117,116,102,49,54,98,101]⟩,.string ⟨#[]⟩]
theorem namesArr_eq : namesArr = ((namesL.flatMap id).map Value.string).toArray:=by kernel_rfl
theorem infoNames : (Tryz.prog.info? 276).map (·.size) = some 30:=by kernel_rfl
set_option maxRecDepth 100000 in
theorem names_any (w : World) : Calls Tryz.prog 257 #[] w fun e w'=>e = .returned (.agg namesArr) ∧ Below w.heap.size w w':=by
 obtain ⟨arr,harr⟩ : ∃ arr,arr = namesArr:=⟨_,rfl⟩
 rw [← harr]
 have hsz : arr.size = 30:=by rw [harr];rfl
 have hone : arr.all (·.oneCell') = true:=by rw [harr];as_aux_lemma=>kernel_rfl
 have hinf : (Tryz.prog.info? 276).map (·.size) = some arr.size:=by rw [hsz];exact infoNames
 have HR:=Lib.hid harr
 have HO:=Lib.hid hone
 have HI:=Lib.hid hinf
 have HZ:=Lib.hid hsz
 clear harr hone hinf hsz
 go_enter Tryz.func257,Tryz.ntmps257
 apply wp_seq_k;intro K0 hK0
 have HK0:=Lib.hid hK0
 clear hK0
 go_wp2_with fail
 refine HK0.out _ _ ?_
 clear HK0
 apply wp_seq_k;intro K1 hK1
 have HK1:=Lib.hid hK1
 clear hK1 K0
 apply wp_region_lit
 refine wpB rfl _ _ rfl _ rfl #[.string ⟨#[108,97,116,105,110,49]⟩,.string ⟨#[105,115,111,45,56,56,53,57,45,49]⟩,.string ⟨#[108,97,116,105,110,45,49]⟩] (by as_aux_lemma=>kernel_rfl) ?_
 refine wpB rfl _ _ rfl _ rfl #[.string ⟨#[107,111,105,56,45,114]⟩,.string ⟨#[107,111,105,56,114]⟩,.string ⟨#[]⟩] (by as_aux_lemma=>kernel_rfl) ?_
 refine wpB rfl _ _ rfl _ rfl #[.string ⟨#[107,111,105,56,45,117]⟩,.string ⟨#[107,111,105,56,117]⟩,.string ⟨#[]⟩] (by as_aux_lemma=>kernel_rfl) ?_
 refine wpB rfl _ _ rfl _ rfl #[.string ⟨#[99,112,56,54,54]⟩,.string ⟨#[105,98,109,56,54,54]⟩,.string ⟨#[]⟩] (by as_aux_lemma=>kernel_rfl) ?_
 refine wpB rfl _ _ rfl _ rfl #[.string ⟨#[99,112,57,52,57]⟩,.string ⟨#[101,117,99,45,107,114]⟩,.string ⟨#[117,104,99]⟩] (by as_aux_lemma=>kernel_rfl) ?_
 refine wpB rfl _ _ rfl _ rfl #[.string ⟨#[106,111,104,97,98]⟩,.string ⟨#[99,112,49,51,54,49]⟩,.string ⟨#[]⟩] (by as_aux_lemma=>kernel_rfl) ?_
 refine wpB rfl _ _ rfl _ rfl #[.string ⟨#[98,105,103,53,45,104,107,115,99,115]⟩,.string ⟨#[98,105,103,53]⟩,.string ⟨#[]⟩] (by as_aux_lemma=>kernel_rfl) ?_
 refine wpB rfl _ _ rfl _ rfl #[.string ⟨#[117,116,102,45,56]⟩,.string ⟨#[117,116,102,56]⟩,.string ⟨#[]⟩] (by as_aux_lemma=>kernel_rfl) ?_
 refine wpB rfl _ _ rfl _ rfl #[.string ⟨#[117,116,102,45,49,54,108,101]⟩,.string ⟨#[117,116,102,49,54,108,101]⟩,.string ⟨#[]⟩] (by as_aux_lemma=>kernel_rfl) ?_
 refine wpB rfl _ _ rfl _ rfl #[.string ⟨#[117,116,102,45,49,54,98,101]⟩,.string ⟨#[117,116,102,49,54,98,101]⟩,.string ⟨#[]⟩] (by as_aux_lemma=>kernel_rfl) ?_
 refine wpB rfl _ _ rfl _ rfl arr (by rw [HR.out];as_aux_lemma=>kernel_rfl) ?_
 refine Go.wpList_store_row rfl 276 _ _ rfl w.heap.size arr (by as_aux_lemma=>kernel_rfl) (by as_aux_lemma=>kernel_rfl) 276 _ (heap_alloc_new _ _) HI.out (by rw [HZ.out];as_aux_lemma=>kernel_rfl) HO.out ?_
 apply wpList_nil
 refine HK1.out _ _ ?_
 clear HK1 K1
 apply wp_ret
 refine bodyPost_ret (results_cell_row rfl _ _ w.heap.size 276 arr (0,0) _ (by as_aux_lemma=>kernel_rfl) (setRow_heap _ _ _ _ _ _ (heap_alloc_new _ _)) Tryz.underlying276 rfl HI.out) rfl ⟨?_,?_⟩
 · rfl
 · exact below_setRow ((Below.refl _ _).alloc (Nat.le_refl _) _) _ (Nat.le_refl _) _
def sm (b : UInt8) : UInt8:=if 65 ≤ b.toNat ∧ b.toNat ≤ 90 then UInt8.ofNat (b.toNat + 32) else b
def smallL (l : List UInt8) : List UInt8:=l.map sm
theorem sm_next (l : List UInt8) (j : Nat) (h : j < l.length) : smallL (l.take (j + 1)) ++ l.drop (j + 1) = smallL (l.take j) ++ sm l[j] :: l.drop (j + 1):=by
 rw [List.take_add_one,List.getElem?_eq_getElem h]
 unfold smallL
 rw [List.map_append,List.append_assoc];rfl
theorem sm_step (l : List UInt8) (j : Nat) (h : j < l.length) : (smallL (l.take j) ++ l.drop j).set j (sm l[j]) = smallL (l.take (j + 1)) ++ l.drop (j + 1):=by
 have h1 : (smallL (l.take j)).length = j:=by simp [smallL];omega
 rw [sm_next l j h,List.drop_eq_getElem_cons h,List.set_append_right _ _ (by omega),h1,Nat.sub_self,List.set_cons_zero]
theorem sm_keep (l : List UInt8) (j : Nat) (h : j < l.length) (hs : sm l[j] = l[j]) : smallL (l.take j) ++ l.drop j = smallL (l.take (j + 1)) ++ l.drop (j + 1):=by
 rw [sm_next l j h,hs,List.drop_eq_getElem_cons h]
theorem sm_at (l : List UInt8) (j : Nat) (h : j < l.length) : (smallL (l.take j) ++ l.drop j)[j]? = some l[j]:=by
 have h1 : (smallL (l.take j)).length = j:=by simp [smallL];omega
 rw [List.getElem?_append_right (by omega),h1,Nat.sub_self,List.drop_eq_getElem_cons h];rfl
theorem conv_bytes (s : ByteArray) (w : World) : ∃ W cap N X,(convert 9 141 (.string s)).run Tryz.prog w = .ok (.slice (some ⟨w.heap.size,0,none⟩) s.size cap) W ∧
 W.heap[w.heap.size]? = some (.cells (bcells (bl s) ++ X).toArray 5 (N,N + 1)) ∧ s.size ≤ N ∧ Below w.heap.size w W:=by
 have h:=Go.Lib.run_convert_string_bytes (P:=Tryz.prog) w 9 141 5 s Tryz.underlying9 Tryz.underlying141 Tryz.underlying5
 refine ⟨_,_,(Go.Lib.bytesCells w 5 s).size,List.replicate (grownCap w s.size 0 5 - s.size) (.int .u8 0),h,(Go.Lib.bytesWorld_at_new w 5 s).trans ?_,?_,?_⟩
 · have : Go.Lib.bytesCells w 5 s = (bcells (bl s) ++ List.replicate (grownCap w s.size 0 5 - s.size) (Value.int .u8 0)).toArray:=by
    apply Array.toList_inj.1
    simp [Go.Lib.bytesCells,bcells,bl]
   rw [this]
 · simp [Go.Lib.bytesCells]
 · exact ⟨rfl,rfl,rfl,by rw [Go.Lib.bytesWorld_size];omega,fun i hi=>Go.Lib.bytesWorld_at_old w 5 s i hi⟩
set_option maxRecDepth 100000 in
theorem small_any (s : ByteArray) (w : World) (hs : s.size ≤ 1073741824) : Calls Tryz.prog 256 #[.string s] w fun e w'=>e = .returned (.string ⟨(smallL (bl s)).toArray⟩) ∧ Below w.heap.size w w':=by
 have HBL : Hid ((bl s).length = s.size):=bl_length s
 obtain ⟨W,cap,N,X,hcv,hW,hN,hbW⟩:=conv_bytes s w
 have HW:=Lib.hid hW
 have HBW:=Lib.hid hbW
 clear hW hbW
 go_enter Tryz.func256,Tryz.ntmps256
 go_wp2_with fail
 go_loopw [10] (fun jv wr=>∃ j : Nat,jv = .int .i64 (j : Int) ∧ j ≤ s.size ∧ Hid (wr.heap[w.heap.size]? = some (.cells (bcells (smallL ((bl s).take j) ++ (bl s).drop j) ++ X).toArray 5 (N,N + 1))) ∧ Below w.heap.size w wr) (fun jv _=>s.size - (intOf jv).toNat)
 case atStart=>exact ⟨0,rfl,Nat.zero_le _,by have:=HW.out;simpa [smallL] using Lib.hid this,HBW.out⟩
 case round=>
  obtain ⟨j,rfl,hj,hrow,hbel⟩:=hrel
  by_cases hlt : j < s.size
  · obtain ⟨x,hx⟩:=at_some (bl s) j (by rw [HBL.out];exact hlt)
    obtain ⟨hjl,hxe⟩:=List.getElem?_eq_some_iff.1 hx
    have hc : wr.cell? ⟨w.heap.size,j,none⟩ = some (.int .u8 (x.toNat : Int)):=by
     have h0:=sm_at (bl s) j hjl
     rw [hxe] at h0
     have h1:=(List.getElem?_eq_some_iff.1 h0).1
     have h2 : (bcells (smallL ((bl s).take j) ++ (bl s).drop j) ++ X)[j]? = some (.int .u8 (x.toNat : Int)):=by
      rw [List.getElem?_append_left (by rw [bcells_length];exact h1),bcells,List.getElem?_map,h0];rfl
     unfold World.cell?
     rw [hrow.out]
     simpa using h2
    have hf : wr.frozen? ⟨w.heap.size,j,none⟩ = false:=by simp [World.frozen?,hrow.out];omega
    have hlw : w.heap.size < wr.heap.size:=cell_lt hc
    have hxl:=x.toNat_lt
    have hst:=sm_step (bl s) j hjl
    have hkp:=sm_keep (bl s) j hjl
    rw [hxe] at hst hkp
    by_cases hu : 65 ≤ x.toNat ∧ x.toNat ≤ 90
    · have hsx : (sm x).toNat = x.toNat + 32:=by rw [sm,if_pos hu,UInt8.toNat_ofNat'];omega
      have w1 : IntKind.u8.wrap ((x.toNat : Int) + 97) = (x.toNat : Int) + 97:=wraps_u8 _ (by omega) (by omega)
      have w2 : IntKind.u8.wrap ((x.toNat : Int) + 97 - 65) = (x.toNat : Int) + 32:=by rw [wraps_u8 _ (by omega) (by omega)];omega
      have hrow2:=Go.Lib.heap_setCell_same (i:=j) hrow.out (.int .u8 ((sm x).toNat : Int))
      rw [List.setIfInBounds_toArray,List.set_append_left _ _ (by rw [bcells_length];simp [smallL];omega),bcells_set,hst,hsx] at hrow2
      have hb2:=hbel.setCell (p:=⟨w.heap.size,j,none⟩) (Nat.le_refl _) (.int .u8 ((x.toNat : Int) + 32))
      obtain ⟨hu1,hu2⟩:=hu
      have HROW2:=Lib.hid hrow2
      clear hrow2
      clear hst hkp hx hjl hxe hsx hrow
      go_wp2_with fail
      exact ⟨⟨j + 1,by go_num,by omega,Lib.hid (by have:=HROW2.out;push_cast at this;exact this),hb2⟩,by simp [intOf];omega⟩
    · have hsx : sm x = x:=by rw [sm,if_neg hu]
      have hkp:=hkp hsx
      have hrow2:=hrow.out
      rw [hkp] at hrow2
      have HROW2:=Lib.hid hrow2
      clear hrow2
      clear hst hkp hx hjl hxe hsx hrow
      by_cases hu1 : 65 ≤ x.toNat
      · have hu2 : ¬ x.toNat ≤ 90:=fun h=>hu ⟨hu1,h⟩
        go_wp2_with fail
        exact ⟨⟨j + 1,by go_num,by omega,HROW2,hbel⟩,by simp [intOf];omega⟩
      · go_wp2_with fail
        exact ⟨⟨j + 1,by go_num,by omega,HROW2,hbel⟩,by simp [intOf];omega⟩
  · have hjs : j = s.size:=by omega
    subst hjs
    have hrow2:=hrow.out
    rw [List.take_of_length_le (by rw [HBL.out];exact Nat.le_refl _),List.drop_of_length_le (by rw [HBL.out];exact Nat.le_refl _),List.append_nil] at hrow2
    have hsl : (smallL (bl s)).length = s.size:=by simp only [smallL,List.length_map,HBL.out]
    have hcb:=run_convert_bytes_back (P:=Tryz.prog) wr 141 9 5 ⟨w.heap.size,0,none⟩ cap (smallL (bl s)) Tryz.underlying141 Tryz.underlying5 Tryz.underlying9 (by
     intro q hq
     have h2 : (bcells (smallL (bl s)) ++ X)[q]? = some (.int .u8 ((smallL (bl s))[q].toNat : Int)):=by
      rw [List.getElem?_append_left (by rw [bcells_length];exact hq),bcells,List.getElem?_map,List.getElem?_eq_getElem hq];rfl
     have ha : (⟨w.heap.size,0,none⟩ : Addr).add q = ⟨w.heap.size,q,none⟩:=by unfold Addr.add;split <;> simp_all
     rw [ha]
     unfold World.cell?
     rw [hrow2]
     simpa using h2)
    rw [hsl] at hcb
    clear hrow2 hrow
    go_wp2_with fail
    go_ret
    exact ⟨rfl,hbel⟩
def namesF : List ByteArray:=namesL.flatMap id
theorem namesF_len : namesF.length = 30:=by kernel_rfl
def namedM (l : List UInt8) : Option Nat:=if l = [] then none else (namesF.findIdx? fun s=>decide (s = ⟨(smallL l).toArray⟩)).map (· / 3)
def namedV : Option Nat → Value
 | some c=>.tuple #[.int .i64 c,.bool true]
 | none=>.tuple #[.int .i64 0,.bool false]
def NamedPost (r : Option Nat) (w : World) (e : Ending) (w' : World) : Prop:=e = .returned (namedV r) ∧ Below w.heap.size w w'
theorem info3 : (Tryz.prog.info? 275).map (·.size) = some 3:=by kernel_rfl
theorem isAgg_string (w : World) : (isAgg 9).run Tryz.prog w = .ok false w:=by
 unfold isAgg
 rw [Sem.run_bind,run_underlying Tryz.underlying9 w]
 rfl
theorem idx3 (s0 s1 s2 : ByteArray) (w : World) :
 (Instr.index 275 (.agg #[.string s0,.string s1,.string s2]) (.int .i64 0)).run Tryz.prog w = .ok (.string s0) w ∧
 (Instr.index 275 (.agg #[.string s0,.string s1,.string s2]) (.int .i64 1)).run Tryz.prog w = .ok (.string s1) w ∧
 (Instr.index 275 (.agg #[.string s0,.string s1,.string s2]) (.int .i64 2)).run Tryz.prog w = .ok (.string s2) w:=by
 have hi : (Tryz.prog.info? 9).map (·.size) = some 1:=by kernel_rfl
 cases hq : Tryz.prog.info? 9 with
 | none=>simp [hq] at hi
 | some ii=>
  have hs : ii.size = 1:=by simpa [hq] using hi
  refine ⟨?_,?_,?_⟩
  all_goals simp [Instr.index,run_underlying Tryz.underlying275,asIntOf,part,isAgg_string,sizeOf,typeInfo,hq,hs,Sem.run_bind]
theorem names_sub (j : Nat) (h : j < 10) : ∃ s0 s1 s2,namesArr.extract (j * 3) (j * 3 + 3) = #[.string s0,.string s1,.string s2] ∧ namesF[j * 3]? = some s0 ∧ namesF[j * 3 + 1]? = some s1 ∧ namesF[j * 3 + 2]? = some s2:=by
 have hl:=namesF_len
 refine ⟨namesF[j * 3],namesF[j * 3 + 1],namesF[j * 3 + 2],?_,List.getElem?_eq_getElem _,List.getElem?_eq_getElem _,List.getElem?_eq_getElem _⟩
 rw [namesArr_eq]
 change (namesF.map Value.string).toArray.extract _ _ = _
 rw [List.extract_toArray]
 apply congrArg List.toArray
 rw [List.extract_eq_take_drop]
 apply List.ext_getElem?
 intro i
 rw [Nat.add_sub_cancel_left,List.getElem?_take]
 match i with
 | 0=>simp [List.getElem?_drop]
 | 1=>simp [List.getElem?_drop]
 | 2=>simp [List.getElem?_drop]
 | n + 3=>rw [if_neg (by omega)];simp
theorem named_hit (l : List UInt8) (t : ByteArray) (ht : t = ⟨(smallL l).toArray⟩) (hl : l ≠ []) (j k : Nat) (hk : k < 3) (h : namesF[j * 3 + k]? = some t) (hb : ∀ i,i < j * 3 + k → namesF[i]? ≠ some t) : namedM l = some j:=by
 have hlt:=(List.getElem?_eq_some_iff.1 h)
 have : namesF.findIdx? (fun s=>decide (s = ⟨(smallL l).toArray⟩)) = some (j * 3 + k):=by
  rw [List.findIdx?_eq_some_iff_getElem]
  refine ⟨hlt.1,by rw [← ht];simpa using hlt.2,fun i hi=>?_⟩
  rw [← ht]
  simp only [decide_eq_true_eq]
  intro e
  exact hb i hi (List.getElem?_eq_some_iff.2 ⟨Nat.lt_trans hi hlt.1,e⟩)
 rw [namedM,if_neg hl,this]
 simp;omega
theorem named_miss (l : List UInt8) (t : ByteArray) (ht : t = ⟨(smallL l).toArray⟩) (hb : ∀ i,i < 30 → namesF[i]? ≠ some t) : namedM l = none:=by
 have : namesF.findIdx? (fun s=>decide (s = ⟨(smallL l).toArray⟩)) = none:=by
  rw [List.findIdx?_eq_none_iff]
  intro x hx
  rw [← ht]
  simp only [decide_eq_false_iff_not]
  rintro rfl
  obtain ⟨i,hi,e⟩:=List.getElem_of_mem hx
  exact hb i (by rw [← namesF_len];exact hi) (List.getElem?_eq_some_iff.2 ⟨hi,e⟩)
 rw [namedM,this]
 split <;> rfl
set_option maxRecDepth 100000 in
theorem named_any (s : ByteArray) (w : World) (hs : s.size ≤ 1073741824) : Calls Tryz.prog 204 #[.string s] w (NamedPost (namedM (bl s)) w):=by
 have k1:=fun w=>small_any s w hs
 have k2:=fun w=>names_any w
 obtain ⟨t,ht⟩ : ∃ t : ByteArray,t = ⟨(smallL (bl s)).toArray⟩:=⟨_,rfl⟩
 rw [← ht] at k1
 obtain ⟨arr,harr⟩ : ∃ arr,arr = namesArr:=⟨_,rfl⟩
 rw [← harr] at k2
 have K1:=Lib.hid k1
 have K2:=Lib.hid k2
 have HT:=Lib.hid ht
 have HARR:=Lib.hid harr
 clear k1 k2 ht harr
 have hse : s.toList.isEmpty = (bl s).isEmpty:=by rw [ByteArray.toList_eq]
 by_cases he : bl s = []
 · have hR : namedM (bl s) = none:=by rw [namedM,if_pos he]
   rw [hR]
   have hse2 : s.toList.isEmpty = true:=by rw [hse,he];first | done | rfl
   clear hse
   go_enter Tryz.func204,Tryz.ntmps204
   go_wp2_with fail
   refine bodyPost_ret (v:=.tuple #[.int .i64 0,.bool false]) (by simp [results,Tryz.results204,go_sem]) rfl ?_
   exact (show NamedPost _ _ _ _ from ⟨rfl,Below.refl _ _⟩)
 · have hse2 : s.toList.isEmpty = false:=by rw [hse];cases h : bl s with | nil=>exact absurd h he | cons _ _=>rfl
   clear hse
   have HIT:=fun j k hk h hb=>named_hit (bl s) t HT.out he j k hk h hb
   have MISS:=fun hb=>named_miss (bl s) t HT.out hb
   generalize namedM (bl s) = R at *
   have HHIT:=Lib.hid HIT
   have HMISS:=Lib.hid MISS
   clear HIT MISS
   clear he
   go_enter Tryz.func204,Tryz.ntmps204
   go_wp2_with (first
    | (go_at_call 256;refine (K1.out _).mono ?_;rintro e w1 ⟨rfl,hb1⟩)
    | (go_at_call 257;refine (K2.out _).mono ?_;rintro e w2 ⟨rfl,hb2⟩))
   have hb02:=bt hb1 hb2
   go_loopw [13] (fun jv wr=>∃ j : Nat,jv = .int .i64 (j : Int) ∧ j ≤ 10 ∧ Hid (∀ i,i < j * 3 → namesF[i]? ≠ some t) ∧ Below w.heap.size w wr) (fun jv _=>10 - (intOf jv).toNat)
   case atStart=>exact ⟨0,rfl,by omega,Lib.hid (fun i hi=>by omega),hb02⟩
   case round=>
    obtain ⟨j,rfl,hj,hno,hbel⟩:=hrel
    by_cases hlt : j < 10
    · obtain ⟨s0,s1,s2,hsub,e0,e1,e2⟩:=names_sub j hlt
      rw [← HARR.out] at hsub
      have HSUB:=Lib.hid hsub
      have E0:=Lib.hid e0
      have E1:=Lib.hid e1
      have E2:=Lib.hid e2
      clear hsub e0 e1 e2
      have hltI : (j : Int) < 10:=by omega
      go_wp2_with (go_loud (refine wpList_indexA rfl 276 _ _ rfl 10 275 Tryz.underlying276 _ Tryz.underlying275 rfl 3 info3 arr rfl .i64 j rfl hlt _ HSUB.out ?_))
      rename World=>W6
      have i0:=fun w=>(idx3 s0 s1 s2 w).1
      have i1:=fun w=>(idx3 s0 s1 s2 w).2.1
      have i2:=fun w=>(idx3 s0 s1 s2 w).2.2
      have hbel6 : Below w.heap.size w (W6.alloc (.cells #[.string s0,.string s1,.string s2] 275)):=hbel.alloc hbel.size _
      clear hbel
      go_loopw [18] (fun kv wr=>∃ k : Nat,kv = .int .i64 (k : Int) ∧ k ≤ 3 ∧ Hid (∀ i,i < j * 3 + k → namesF[i]? ≠ some t) ∧ Below w.heap.size w wr) (fun kv _=>3 - (intOf kv).toNat)
      case atStart=>exact ⟨0,rfl,by omega,hno,hbel6⟩
      case round=>
       obtain ⟨k,rfl,hk,hno2,hbel2⟩:=hrel
       rcases (show k = 0 ∨ k = 1 ∨ k = 2 ∨ k = 3 from by omega) with rfl | rfl | rfl | rfl
       · by_cases heq : s0 = t
         · subst heq
           have hit:=HHIT.out j 0 (by omega) E0.out hno2.out
           have HIT:=Lib.hid hit
           clear hit
           go_wp2_with fail
           refine bodyPost_ret (v:=.tuple #[.int .i64 j,.bool true]) (by simp [results,Tryz.results204,go_sem]) rfl ?_
           exact (show NamedPost _ _ _ _ from ⟨by rw [HIT.out];rfl,hbel2⟩)
         · have hno3 : ∀ i,i < j * 3 + 1 → namesF[i]? ≠ some t:=fun i hi=>by
            rcases Nat.lt_or_ge i (j * 3 + 0) with h | h
            · exact hno2.out i h
            · rw [show i = j * 3 + 0 from by omega]
              intro e
              rw [show namesF[j * 3 + 0]? = _ from E0.out] at e
              exact heq (Option.some.inj e)
           have hnb : (s0.toList == t.toList) = false:=by
            simp only [beq_eq_false_iff_ne,ne_eq,ByteArray.toList_eq]
            exact fun e=>heq (ByteArray.ext (Array.toList_inj.1 e))
           have HNO3:=Lib.hid hno3
           clear hno3
           go_wp2_with fail
           exact ⟨⟨1,rfl,by omega,HNO3,hbel2⟩,by simp [intOf]⟩
       · by_cases heq : s1 = t
         · subst heq
           have hit:=HHIT.out j 1 (by omega) E1.out hno2.out
           have HIT:=Lib.hid hit
           clear hit
           go_wp2_with fail
           refine bodyPost_ret (v:=.tuple #[.int .i64 j,.bool true]) (by simp [results,Tryz.results204,go_sem]) rfl ?_
           exact (show NamedPost _ _ _ _ from ⟨by rw [HIT.out];rfl,hbel2⟩)
         · have hno3 : ∀ i,i < j * 3 + 2 → namesF[i]? ≠ some t:=fun i hi=>by
            rcases Nat.lt_or_ge i (j * 3 + 1) with h | h
            · exact hno2.out i h
            · rw [show i = j * 3 + 1 from by omega]
              intro e
              rw [show namesF[j * 3 + 1]? = _ from E1.out] at e
              exact heq (Option.some.inj e)
           have hnb : (s1.toList == t.toList) = false:=by
            simp only [beq_eq_false_iff_ne,ne_eq,ByteArray.toList_eq]
            exact fun e=>heq (ByteArray.ext (Array.toList_inj.1 e))
           have HNO3:=Lib.hid hno3
           clear hno3
           go_wp2_with fail
           exact ⟨⟨2,rfl,by omega,HNO3,hbel2⟩,by simp [intOf]⟩
       · by_cases heq : s2 = t
         · subst heq
           have hit:=HHIT.out j 2 (by omega) E2.out hno2.out
           have HIT:=Lib.hid hit
           clear hit
           go_wp2_with fail
           refine bodyPost_ret (v:=.tuple #[.int .i64 j,.bool true]) (by simp [results,Tryz.results204,go_sem]) rfl ?_
           exact (show NamedPost _ _ _ _ from ⟨by rw [HIT.out];rfl,hbel2⟩)
         · have hno3 : ∀ i,i < j * 3 + 3 → namesF[i]? ≠ some t:=fun i hi=>by
            rcases Nat.lt_or_ge i (j * 3 + 2) with h | h
            · exact hno2.out i h
            · rw [show i = j * 3 + 2 from by omega]
              intro e
              rw [show namesF[j * 3 + 2]? = _ from E2.out] at e
              exact heq (Option.some.inj e)
           have hnb : (s2.toList == t.toList) = false:=by
            simp only [beq_eq_false_iff_ne,ne_eq,ByteArray.toList_eq]
            exact fun e=>heq (ByteArray.ext (Array.toList_inj.1 e))
           have HNO3:=Lib.hid hno3
           clear hno3
           go_wp2_with fail
           exact ⟨⟨3,rfl,by omega,HNO3,hbel2⟩,by simp [intOf]⟩
       · have hno4 : ∀ i,i < (j + 1) * 3 → namesF[i]? ≠ some t:=fun i hi=>hno2.out i (by omega)
         have HNO4:=Lib.hid hno4
         clear hno4
         go_wp2_with fail
         exact ⟨⟨j + 1,by go_num,by omega,HNO4,hbel2⟩,by simp [intOf];omega⟩
    · have hj10 : j = 10:=by omega
      subst hj10
      have miss:=HMISS.out hno.out
      have MISS:=Lib.hid miss
      clear miss
      go_wp2_with fail
      refine bodyPost_ret (v:=.tuple #[.int .i64 0,.bool false]) (by simp [results,Tryz.results204,go_sem]) rfl ?_
      exact (show NamedPost _ _ _ _ from ⟨by rw [MISS.out];rfl,hbel⟩)
end Go.Proofs.YtohbeinhlhgfiaaGreatDoor
