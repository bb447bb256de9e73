/- A4 -/
import Derived.Deep.QuietTactic
import Derived.Lib.ConvBytes
import Derived.Lib.BufferMore
import Derived.Test.YtagjkmkmphamoaaGreatDoorPPo
import Derived.Test.YtagjkmkmphamoaaGreatDoorPBi
import Derived.Test.YtagjkmkmphamoaaGreatDoorPWo
import Derived.Test.YtagjkmkmphamoaaGreatDoorPA3
import Derived.Test.YtagjkmkmphamoaaGreatDoorPBa
set_option linter.all false
set_option maxHeartbeats 8000000
namespace Go.Proofs.YtagjkmkmphamoaaGreatDoor
open Go.RowKit
theorem kb8(c:Int)(w:World):Calls Tryz.prog 128 #[.int .i64 c] w fun e w'=>e=.returned (.bool (decide (0≤c∧c≤6)))∧Below w.heap.size w w':=by
 by_cases h:0≤c
 · by_cases h2:c≤6
   · rw[show decide (0≤c∧c≤6)=true by simp[h,h2]]
     go_enter Tryz.func128,Tryz.ntmps128
     go_wp2
     go_ret
     exact⟨rfl,Below.refl _ _⟩
   · rw[show decide (0≤c∧c≤6)=false by simp[h,h2]]
     go_enter Tryz.func128,Tryz.ntmps128
     go_wp2
     go_ret
     exact⟨rfl,Below.refl _ _⟩
 · rw[show decide (0≤c∧c≤6)=false by simp[h]]
   go_enter Tryz.func128,Tryz.ntmps128
   go_wp2
   go_ret
   exact⟨rfl,Below.refl _ _⟩
def namesL:List (List ByteArray):=[[⟨#[108,97,116,105,110,49]⟩,⟨#[105,115,111,45,56,56,53,57,45,49]⟩,⟨#[108,97,116,105,110,45,49]⟩],[⟨#[107,111,105,56,45,114]⟩,⟨#[107,111,105,56,114]⟩,⟨#[]⟩],[⟨#[107,111,105,56,45,117]⟩,⟨#[107,111,105,56,117]⟩,⟨#[]⟩],[⟨#[99,112,56,54,54]⟩,⟨#[105,98,109,56,54,54]⟩,⟨#[]⟩],[⟨#[99,112,57,52,57]⟩,⟨#[101,117,99,45,107,114]⟩,⟨#[117,104,99]⟩],[⟨#[106,111,104,97,98]⟩,⟨#[99,112,49,51,54,49]⟩,⟨#[]⟩],[⟨#[98,105,103,53,45,104,107,115,99,115]⟩,⟨#[98,105,103,53]⟩,⟨#[]⟩],[⟨#[117,116,102,45,56]⟩,⟨#[117,116,102,56]⟩,⟨#[]⟩],[⟨#[117,116,102,45,49,54,108,101]⟩,⟨#[117,116,102,49,54,108,101]⟩,⟨#[]⟩],[⟨#[117,116,102,45,49,54,98,101]⟩,⟨#[117,116,102,49,54,98,101]⟩,⟨#[]⟩]]
def namesArr:Array Value:=#[.string ⟨#[108,97,116,105,110,49]⟩,.string ⟨#[105,115,111,45,56,56,53,57,45,49]⟩,.string ⟨#[108,97,116,105,110,45,49]⟩,.string ⟨#[107,111,105,56,45,114]⟩,.string ⟨#[107,111,105,56,114]⟩,.string ⟨#[]⟩,.string ⟨#[107,111,105,56,45,117]⟩,.string ⟨#[107,111,105,56,117]⟩,.string ⟨#[]⟩,.string ⟨#[99,112,56,54,54]⟩,.string ⟨#[105,98,109,56,54,54]⟩,.string ⟨#[]⟩,.string ⟨#[99,112,57,52,57]⟩,.string ⟨#[101,117,99,45,107,114]⟩,.string ⟨#[117,104,99]⟩,.string ⟨#[106,111,104,97,98]⟩,.string ⟨#[99,112,49,51,54,49]⟩,.string ⟨#[]⟩,.string ⟨#[98,105,103,53,45,104,107,115,99,115]⟩,.string ⟨#[98,105,103,53]⟩,.string ⟨#[]⟩,.string ⟨#[117,116,102,45,56]⟩,.string ⟨#[117,116,102,56]⟩,.string ⟨#[]⟩,.string ⟨#[117,116,102,45,49,54,108,101]⟩,.string ⟨#[117,116,102,49,54,108,101]⟩,.string ⟨#[]⟩,.string ⟨#[117,116,102,45,49,54,98,101]⟩,.string ⟨#[117,116,102,49,54,98,101]⟩,.string ⟨#[]⟩]
theorem qs2:namesArr=((namesL.flatMap id).map Value.string).toArray:=by kernel_rfl
theorem xd3:(Tryz.prog.info? 196).map (·.size)=some 30:=by kernel_rfl
set_option maxRecDepth 100000 in
theorem vz8(w:World):Calls Tryz.prog 143 #[] w fun e w'=>e=.returned (.agg namesArr)∧Below w.heap.size w w':=by
 obtain⟨arr,harr⟩:∃arr,arr=namesArr:=⟨_,rfl⟩;rw[←harr];have hsz:arr.size=30:=by rw[harr];rfl
 have hone:arr.all (·.oneCell')=true:=by rw[harr];as_aux_lemma=>kernel_rfl
 have hinf:(Tryz.prog.info? 196).map (·.size)=some arr.size:=by rw[hsz];exact xd3
 have HR:=Lib.hid harr;have HO:=Lib.hid hone;have HI:=Lib.hid hinf;have HZ:=Lib.hid hsz;clear harr hone hinf hsz
 go_enter Tryz.func143,Tryz.ntmps143
 apply wp_seq_k;intro K0 hK0;have HK0:=Lib.hid hK0;clear hK0
 go_wp2_with fail
 refine HK0.out _ _ ?_;clear HK0;apply wp_seq_k;intro K1 hK1;have HK1:=Lib.hid hK1;clear hK1 K0;apply wp_region_lit;refine wpB rfl _ _ rfl _ rfl #[.string ⟨#[108,97,116,105,110,49]⟩,.string ⟨#[105,115,111,45,56,56,53,57,45,49]⟩,.string ⟨#[108,97,116,105,110,45,49]⟩] (by as_aux_lemma=>kernel_rfl) ?_;refine wpB rfl _ _ rfl _ rfl #[.string ⟨#[107,111,105,56,45,114]⟩,.string ⟨#[107,111,105,56,114]⟩,.string ⟨#[]⟩] (by as_aux_lemma=>kernel_rfl) ?_;refine wpB rfl _ _ rfl _ rfl #[.string ⟨#[107,111,105,56,45,117]⟩,.string ⟨#[107,111,105,56,117]⟩,.string ⟨#[]⟩] (by as_aux_lemma=>kernel_rfl) ?_;refine wpB rfl _ _ rfl _ rfl #[.string ⟨#[99,112,56,54,54]⟩,.string ⟨#[105,98,109,56,54,54]⟩,.string ⟨#[]⟩] (by as_aux_lemma=>kernel_rfl) ?_;refine wpB rfl _ _ rfl _ rfl #[.string ⟨#[99,112,57,52,57]⟩,.string ⟨#[101,117,99,45,107,114]⟩,.string ⟨#[117,104,99]⟩] (by as_aux_lemma=>kernel_rfl) ?_;refine wpB rfl _ _ rfl _ rfl #[.string ⟨#[106,111,104,97,98]⟩,.string ⟨#[99,112,49,51,54,49]⟩,.string ⟨#[]⟩] (by as_aux_lemma=>kernel_rfl) ?_;refine wpB rfl _ _ rfl _ rfl #[.string ⟨#[98,105,103,53,45,104,107,115,99,115]⟩,.string ⟨#[98,105,103,53]⟩,.string ⟨#[]⟩] (by as_aux_lemma=>kernel_rfl) ?_;refine wpB rfl _ _ rfl _ rfl #[.string ⟨#[117,116,102,45,56]⟩,.string ⟨#[117,116,102,56]⟩,.string ⟨#[]⟩] (by as_aux_lemma=>kernel_rfl) ?_;refine wpB rfl _ _ rfl _ rfl #[.string ⟨#[117,116,102,45,49,54,108,101]⟩,.string ⟨#[117,116,102,49,54,108,101]⟩,.string ⟨#[]⟩] (by as_aux_lemma=>kernel_rfl) ?_;refine wpB rfl _ _ rfl _ rfl #[.string ⟨#[117,116,102,45,49,54,98,101]⟩,.string ⟨#[117,116,102,49,54,98,101]⟩,.string ⟨#[]⟩] (by as_aux_lemma=>kernel_rfl) ?_;refine wpB rfl _ _ rfl _ rfl arr (by rw[HR.out];as_aux_lemma=>kernel_rfl) ?_;refine Go.wpList_store_row rfl 196 _ _ rfl w.heap.size arr (by as_aux_lemma=>kernel_rfl) (by as_aux_lemma=>kernel_rfl) 196 _ (heap_alloc_new _ _) HI.out (by rw[HZ.out];as_aux_lemma=>kernel_rfl) HO.out ?_;apply wpList_nil;refine HK1.out _ _ ?_;clear HK1 K1;apply wp_ret;refine bodyPost_ret (results_cell_row rfl _ _ w.heap.size 196 arr (0,0) _ (by as_aux_lemma=>kernel_rfl) (setRow_heap _ _ _ _ _ _ (heap_alloc_new _ _)) Tryz.underlying196 rfl HI.out) rfl ⟨?_,?_⟩
 · rfl
 · exact kf2 ((Below.refl _ _).alloc (Nat.le_refl _) _) _ (Nat.le_refl _) _
def sm(b:UInt8):UInt8:=if 65≤b.toNat∧b.toNat≤90 then UInt8.ofNat (b.toNat+32)else b
def smallL(l:List UInt8):List UInt8:=l.map sm
theorem vr3(l:List UInt8)(j:Nat)(h:j<l.length):smallL (l.take (j+1))++l.drop (j+1)=smallL (l.take j)++sm l[j]::l.drop (j+1):=by
 rw[List.take_add_one,List.getElem?_eq_getElem h];unfold smallL;rw[List.map_append,List.append_assoc];rfl
theorem sm_step(l:List UInt8)(j:Nat)(h:j<l.length):(smallL (l.take j)++l.drop j).set j (sm l[j])=smallL (l.take (j+1))++l.drop (j+1):=by
 have h1:(smallL (l.take j)).length=j:=by simp[smallL];omega
 rw[vr3 l j h,List.drop_eq_getElem_cons h,List.set_append_right _ _ (by omega),h1,Nat.sub_self,List.set_cons_zero]
theorem sm_keep(l:List UInt8)(j:Nat)(h:j<l.length)(hs:sm l[j]=l[j]):smallL (l.take j)++l.drop j=smallL (l.take (j+1))++l.drop (j+1):=by
 rw[vr3 l j h,hs,List.drop_eq_getElem_cons h]
theorem sm_at(l:List UInt8)(j:Nat)(h:j<l.length):(smallL (l.take j)++l.drop j)[j]?=some l[j]:=by
 have h1:(smallL (l.take j)).length=j:=by simp[smallL];omega
 rw[List.getElem?_append_right (by omega),h1,Nat.sub_self,List.drop_eq_getElem_cons h];rfl
theorem vm3(s:ByteArray)(w:World):∃W cap N X,(convert 9 140 (.string s)).run Tryz.prog w=.ok (.slice (some ⟨w.heap.size,0,none⟩) s.size cap) W ∧
 W.heap[w.heap.size]?=some (.cells (bcells (bl s)++X).toArray 5 (N,N+1))∧s.size≤N∧Below w.heap.size w W:=by
 have h:=Go.Lib.run_convert_string_bytes (P:=Tryz.prog) w 9 140 5 s Tryz.underlying9 Tryz.underlying140 Tryz.underlying5;refine⟨_,_,(Go.Lib.bytesCells w 5 s).size,List.replicate (grownCap w s.size 0 5-s.size) (.int .u8 0),h,(Go.Lib.bytesWorld_at_new w 5 s).trans ?_,?_,?_⟩
 · have:Go.Lib.bytesCells w 5 s=(bcells (bl s)++List.replicate (grownCap w s.size 0 5-s.size) (Value.int .u8 0)).toArray:=by
    apply Array.toList_inj.1;simp[Go.Lib.bytesCells,bcells,bl]
   rw[this]
 · simp[Go.Lib.bytesCells]
 · exact⟨rfl,rfl,rfl,by rw[Go.Lib.bytesWorld_size];omega,fun i hi=>Go.Lib.bytesWorld_at_old w 5 s i hi⟩
set_option maxRecDepth 100000 in
theorem vr2(s:ByteArray)(w:World)(hs:s.size≤1073741824):Calls Tryz.prog 142 #[.string s] w fun e w'=>e=.returned (.string ⟨(smallL (bl s)).toArray⟩)∧Below w.heap.size w w':=by
 have HBL:Hid ((bl s).length=s.size):=jb1 s;obtain⟨W,cap,N,X,hcv,hW,hN,hbW⟩:=vm3 s w;have HW:=Lib.hid hW;have HBW:=Lib.hid hbW;clear hW hbW
 go_enter Tryz.func142,Tryz.ntmps142
 go_wp2_with fail
 go_loopw [10] (fun jv wr=>∃j:Nat,jv=.int .i64 (j:Int)∧j≤s.size∧Hid (wr.heap[w.heap.size]?=some (.cells (bcells (smallL ((bl s).take j)++(bl s).drop j)++X).toArray 5 (N,N+1)))∧Below w.heap.size w wr) (fun jv _=>s.size-(intOf jv).toNat)
 case atStart=>exact⟨0,rfl,Nat.zero_le _,by have:=HW.out;simpa[smallL]using Lib.hid this,HBW.out⟩
 case round=>
  obtain⟨j,rfl,hj,hrow,hbel⟩:=hrel;by_cases hlt:j<s.size
  · obtain⟨x,hx⟩:=jb6 (bl s) j (by rw[HBL.out];exact hlt)
    obtain⟨hjl,hxe⟩:=List.getElem?_eq_some_iff.1 hx;have hc:wr.cell? ⟨w.heap.size,j,none⟩=some (.int .u8 (x.toNat:Int)):=by
     have h0:=sm_at (bl s) j hjl;rw[hxe]at h0;have h1:=(List.getElem?_eq_some_iff.1 h0).1;have h2:(bcells (smallL ((bl s).take j)++(bl s).drop j)++X)[j]?=some (.int .u8 (x.toNat:Int)):=by
      rw[List.getElem?_append_left (by rw[jj4];exact h1),bcells,List.getElem?_map,h0];rfl
     unfold World.cell?;rw[hrow.out];simpa using h2
    have hf:wr.frozen? ⟨w.heap.size,j,none⟩=false:=by simp[World.frozen?,hrow.out];omega
    have hlw:w.heap.size<wr.heap.size:=jd2 hc;have hxl:=x.toNat_lt;have hst:=sm_step (bl s) j hjl;have hkp:=sm_keep (bl s) j hjl;rw[hxe]at hst hkp;by_cases hu:65≤x.toNat∧x.toNat≤90
    · have hsx:(sm x).toNat=x.toNat+32:=by rw[sm,if_pos hu,UInt8.toNat_ofNat'];omega
      have w1:IntKind.u8.wrap ((x.toNat:Int)+97)=(x.toNat:Int)+97:=wraps_u8 _ (by omega) (by omega);have w2:IntKind.u8.wrap ((x.toNat:Int)+97-65)=(x.toNat:Int)+32:=by rw[wraps_u8 _ (by omega) (by omega)];omega
      have hrow2:=Go.Lib.heap_setCell_same (i:=j) hrow.out (.int .u8 ((sm x).toNat:Int));rw[List.setIfInBounds_toArray,List.set_append_left _ _ (by rw[jj4];simp[smallL];omega),jv3,hst,hsx]at hrow2;have hb2:=hbel.setCell (p:=⟨w.heap.size,j,none⟩) (Nat.le_refl _) (.int .u8 ((x.toNat:Int)+32));obtain⟨hu1,hu2⟩:=hu;have HROW2:=Lib.hid hrow2;clear hrow2;clear hst hkp hx hjl hxe hsx hrow
      go_wp2_with fail
      exact⟨⟨j+1,by go_num,by omega,Lib.hid (by have:=HROW2.out;push_cast at this;exact this),hb2⟩,by simp[intOf];omega⟩
    · have hsx:sm x=x:=by rw[sm,if_neg hu]
      have hkp:=hkp hsx;have hrow2:=hrow.out;rw[hkp]at hrow2;have HROW2:=Lib.hid hrow2;clear hrow2;clear hst hkp hx hjl hxe hsx hrow;by_cases hu1:65≤x.toNat
      · have hu2:¬x.toNat≤90:=fun h=>hu ⟨hu1,h⟩
        go_wp2_with fail
        exact⟨⟨j+1,by go_num,by omega,HROW2,hbel⟩,by simp[intOf];omega⟩
      · go_wp2_with fail
        exact⟨⟨j+1,by go_num,by omega,HROW2,hbel⟩,by simp[intOf];omega⟩
  · have hjs:j=s.size:=by omega
    subst hjs;have hrow2:=hrow.out;rw[List.take_of_length_le (by rw[HBL.out];exact Nat.le_refl _),List.drop_of_length_le (by rw[HBL.out];exact Nat.le_refl _),List.append_nil]at hrow2;have hsl:(smallL (bl s)).length=s.size:=by simp only[smallL,List.length_map,HBL.out]
    have hcb:=run_convert_bytes_back (P:=Tryz.prog) wr 140 9 5 ⟨w.heap.size,0,none⟩ cap (smallL (bl s)) Tryz.underlying140 Tryz.underlying5 Tryz.underlying9 (by
     intro q hq;have h2:(bcells (smallL (bl s))++X)[q]?=some (.int .u8 ((smallL (bl s))[q].toNat:Int)):=by
      rw[List.getElem?_append_left (by rw[jj4];exact hq),bcells,List.getElem?_map,List.getElem?_eq_getElem hq];rfl
     have ha:(⟨w.heap.size,0,none⟩:Addr).add q=⟨w.heap.size,q,none⟩:=by unfold Addr.add;split<;>simp_all
     rw[ha];unfold World.cell?;rw[hrow2];simpa using h2)
    rw[hsl]at hcb;clear hrow2 hrow
    go_wp2_with fail
    go_ret
    exact⟨rfl,hbel⟩
def namesF:List ByteArray:=namesL.flatMap id
theorem kv0:namesF.length=30:=by kernel_rfl
def namedM(l:List UInt8):Option Nat:=if l = []then none else(namesF.findIdx? fun s=>decide (s=⟨(smallL l).toArray⟩)).map (· / 3)
def namedV:Option Nat→Value
 | some c=>.tuple #[.int .i64 c,.bool true]
 | none=>.tuple #[.int .i64 0,.bool false]
def NamedPost(r:Option Nat)(w:World)(e:Ending)(w':World):Prop:=e=.returned (namedV r)∧Below w.heap.size w w'
theorem info3:(Tryz.prog.info? 195).map (·.size)=some 3:=by kernel_rfl
theorem qk1(w:World):(isAgg 9).run Tryz.prog w=.ok false w:=by
 unfold isAgg;rw[Sem.run_bind,run_underlying Tryz.underlying9 w]
 rfl
theorem idx3(s0 s1 s2:ByteArray)(w:World):
 (Instr.index 195 (.agg #[.string s0,.string s1,.string s2]) (.int .i64 0)).run Tryz.prog w=.ok (.string s0) w ∧
 (Instr.index 195 (.agg #[.string s0,.string s1,.string s2]) (.int .i64 1)).run Tryz.prog w=.ok (.string s1) w ∧
 (Instr.index 195 (.agg #[.string s0,.string s1,.string s2]) (.int .i64 2)).run Tryz.prog w=.ok (.string s2) w:=by
 have hi:(Tryz.prog.info? 9).map (·.size)=some 1:=by kernel_rfl
 cases hq:Tryz.prog.info? 9 with
 | none=>simp[hq]at hi
 | some ii=>
  have hs:ii.size=1:=by simpa[hq]using hi
  refine⟨?_,?_,?_⟩
  all_goals simp[Instr.index,run_underlying Tryz.underlying195,asIntOf,part,qk1,sizeOf,typeInfo,hq,hs,Sem.run_bind]
theorem vz7(j:Nat)(h:j<10):∃s0 s1 s2,namesArr.extract (j*3) (j*3+3)=#[.string s0,.string s1,.string s2]∧namesF[j*3]?=some s0∧namesF[j*3+1]?=some s1∧namesF[j*3+2]?=some s2:=by
 have hl:=kv0;refine⟨namesF[j*3],namesF[j*3+1],namesF[j*3+2],?_,List.getElem?_eq_getElem _,List.getElem?_eq_getElem _,List.getElem?_eq_getElem _⟩;rw[qs2];change (namesF.map Value.string).toArray.extract _ _=_;rw[List.extract_toArray];apply congrArg List.toArray;rw[List.extract_eq_take_drop];apply List.ext_getElem?;intro i;rw[Nat.add_sub_cancel_left,List.getElem?_take]
 match i with
 | 0=>simp[List.getElem?_drop]
 | 1=>simp[List.getElem?_drop]
 | 2=>simp[List.getElem?_drop]
 | n+3=>rw[if_neg (by omega)];simp
theorem vz9(l:List UInt8)(t:ByteArray)(ht:t=⟨(smallL l).toArray⟩)(hl:l ≠ [])(j k:Nat)(hk:k<3)(h:namesF[j*3+k]?=some t)(hb:∀i,i<j*3+k→namesF[i]?≠some t):namedM l=some j:=by
 have hlt:=(List.getElem?_eq_some_iff.1 h);have:namesF.findIdx? (fun s=>decide (s=⟨(smallL l).toArray⟩))=some (j*3+k):=by
  rw[List.findIdx?_eq_some_iff_getElem];refine⟨hlt.1,by rw[←ht];simpa using hlt.2,fun i hi=>?_⟩;rw[←ht];simp only[decide_eq_true_eq];intro e;exact hb i hi (List.getElem?_eq_some_iff.2 ⟨Nat.lt_trans hi hlt.1,e⟩)
 rw[namedM,if_neg hl,this];simp;omega
theorem vh5(l:List UInt8)(t:ByteArray)(ht:t=⟨(smallL l).toArray⟩)(hb:∀i,i<30→namesF[i]?≠some t):namedM l=none:=by
 have:namesF.findIdx? (fun s=>decide (s=⟨(smallL l).toArray⟩))=none:=by
  rw[List.findIdx?_eq_none_iff];intro x hx;rw[←ht];simp only[decide_eq_false_iff_not];rintro rfl;obtain⟨i,hi,e⟩:=List.getElem_of_mem hx;exact hb i (by rw[←kv0];exact hi) (List.getElem?_eq_some_iff.2 ⟨hi,e⟩)
 rw[namedM,this];split<;>rfl
set_option maxRecDepth 100000 in
theorem qj1(s:ByteArray)(w:World)(hs:s.size≤1073741824):Calls Tryz.prog 122 #[.string s] w (NamedPost (namedM (bl s)) w):=by
 have k1:=fun w=>vr2 s w hs
 have k2:=fun w=>vz8 w
 obtain⟨t,ht⟩:∃t:ByteArray,t=⟨(smallL (bl s)).toArray⟩:=⟨_,rfl⟩;rw[←ht]at k1;obtain⟨arr,harr⟩:∃arr,arr=namesArr:=⟨_,rfl⟩;rw[←harr]at k2;have K1:=Lib.hid k1;have K2:=Lib.hid k2;have HT:=Lib.hid ht;have HARR:=Lib.hid harr;clear k1 k2 ht harr;have hse:s.toList.isEmpty=(bl s).isEmpty:=by rw[ByteArray.toList_eq]
 by_cases he:bl s = []
 · have hR:namedM (bl s)=none:=by rw[namedM,if_pos he]
   rw[hR];have hse2:s.toList.isEmpty=true:=by rw[hse,he];first|done|rfl
   clear hse
   go_enter Tryz.func122,Tryz.ntmps122
   go_wp2_with fail
   refine bodyPost_ret (v:=.tuple #[.int .i64 0,.bool false]) (by simp[results,Tryz.results122,go_sem]) rfl ?_;exact(show NamedPost _ _ _ _ from⟨rfl,Below.refl _ _⟩)
 · have hse2:s.toList.isEmpty=false:=by rw[hse];cases h:bl s with|nil=>exact absurd h he|cons _ _=>rfl
   clear hse;have HIT:=fun j k hk h hb=>vz9 (bl s) t HT.out he j k hk h hb
   have MISS:=fun hb=>vh5 (bl s) t HT.out hb
   generalize namedM (bl s)=R at *;have HHIT:=Lib.hid HIT;have HMISS:=Lib.hid MISS;clear HIT MISS;clear he
   go_enter Tryz.func122,Tryz.ntmps122
   go_wp2_with (first
    | (go_at_call 142;refine(K1.out _).mono ?_;rintro e w1 ⟨rfl,hb1⟩)
    | (go_at_call 143;refine(K2.out _).mono ?_;rintro e w2 ⟨rfl,hb2⟩))
   have hb02:=bt hb1 hb2
   go_loopw [13] (fun jv wr=>∃j:Nat,jv=.int .i64 (j:Int)∧j≤10∧Hid (∀i,i<j*3→namesF[i]?≠some t)∧Below w.heap.size w wr) (fun jv _=>10-(intOf jv).toNat)
   case atStart=>exact⟨0,rfl,by omega,Lib.hid (fun i hi=>by omega),hb02⟩
   case round=>
    obtain⟨j,rfl,hj,hno,hbel⟩:=hrel;by_cases hlt:j<10
    · obtain⟨s0,s1,s2,hsub,e0,e1,e2⟩:=vz7 j hlt
      rw[←HARR.out]at hsub;have HSUB:=Lib.hid hsub;have E0:=Lib.hid e0;have E1:=Lib.hid e1;have E2:=Lib.hid e2;clear hsub e0 e1 e2;have hltI:(j:Int)<10:=by omega
      go_wp2_with (refine jc6 rfl 196 _ _ rfl 10 195 Tryz.underlying196 _ Tryz.underlying195 rfl 3 info3 arr rfl .i64 j rfl hlt _ HSUB.out ?_)
      rename World=>W6
      have i0:=fun w=>(idx3 s0 s1 s2 w).1
      have i1:=fun w=>(idx3 s0 s1 s2 w).2.1
      have i2:=fun w=>(idx3 s0 s1 s2 w).2.2
      have hbel6:Below w.heap.size w (W6.alloc (.cells #[.string s0,.string s1,.string s2] 195)):=hbel.alloc hbel.size _;clear hbel
      go_loopw [18] (fun kv wr=>∃k:Nat,kv=.int .i64 (k:Int)∧k≤3∧Hid (∀i,i<j*3+k→namesF[i]?≠some t)∧Below w.heap.size w wr) (fun kv _=>3-(intOf kv).toNat)
      case atStart=>exact⟨0,rfl,by omega,hno,hbel6⟩
      case round=>
       obtain⟨k,rfl,hk,hno2,hbel2⟩:=hrel;rcases(show k=0∨k=1∨k=2∨k=3 from by omega)with rfl|rfl|rfl|rfl
       · by_cases heq:s0=t
         · subst heq
           have hit:=HHIT.out j 0 (by omega) E0.out hno2.out;have HIT:=Lib.hid hit;clear hit
           go_wp2_with fail
           refine bodyPost_ret (v:=.tuple #[.int .i64 j,.bool true]) (by simp[results,Tryz.results122,go_sem]) rfl ?_;exact(show NamedPost _ _ _ _ from⟨by rw[HIT.out];rfl,hbel2⟩)
         · have hno3:∀i,i<j*3+1→namesF[i]?≠some t:=fun i hi=>by
            rcases Nat.lt_or_ge i (j*3+0)with h|h
            · exact hno2.out i h
            · rw[show i=j*3+0 from by omega]
              intro e;rw[show namesF[j*3+0]?=_ from E0.out]at e;exact heq (Option.some.inj e)
           have hnb:(s0.toList==t.toList)=false:=by
            simp only[beq_eq_false_iff_ne,ne_eq,ByteArray.toList_eq];exact fun e=>heq (ByteArray.ext (Array.toList_inj.1 e))
           have HNO3:=Lib.hid hno3;clear hno3
           go_wp2_with fail
           exact⟨⟨1,rfl,by omega,HNO3,hbel2⟩,by simp[intOf]⟩
       · by_cases heq:s1=t
         · subst heq
           have hit:=HHIT.out j 1 (by omega) E1.out hno2.out;have HIT:=Lib.hid hit;clear hit
           go_wp2_with fail
           refine bodyPost_ret (v:=.tuple #[.int .i64 j,.bool true]) (by simp[results,Tryz.results122,go_sem]) rfl ?_;exact(show NamedPost _ _ _ _ from⟨by rw[HIT.out];rfl,hbel2⟩)
         · have hno3:∀i,i<j*3+2→namesF[i]?≠some t:=fun i hi=>by
            rcases Nat.lt_or_ge i (j*3+1)with h|h
            · exact hno2.out i h
            · rw[show i=j*3+1 from by omega]
              intro e;rw[show namesF[j*3+1]?=_ from E1.out]at e;exact heq (Option.some.inj e)
           have hnb:(s1.toList==t.toList)=false:=by
            simp only[beq_eq_false_iff_ne,ne_eq,ByteArray.toList_eq];exact fun e=>heq (ByteArray.ext (Array.toList_inj.1 e))
           have HNO3:=Lib.hid hno3;clear hno3
           go_wp2_with fail
           exact⟨⟨2,rfl,by omega,HNO3,hbel2⟩,by simp[intOf]⟩
       · by_cases heq:s2=t
         · subst heq
           have hit:=HHIT.out j 2 (by omega) E2.out hno2.out;have HIT:=Lib.hid hit;clear hit
           go_wp2_with fail
           refine bodyPost_ret (v:=.tuple #[.int .i64 j,.bool true]) (by simp[results,Tryz.results122,go_sem]) rfl ?_;exact(show NamedPost _ _ _ _ from⟨by rw[HIT.out];rfl,hbel2⟩)
         · have hno3:∀i,i<j*3+3→namesF[i]?≠some t:=fun i hi=>by
            rcases Nat.lt_or_ge i (j*3+2)with h|h
            · exact hno2.out i h
            · rw[show i=j*3+2 from by omega]
              intro e;rw[show namesF[j*3+2]?=_ from E2.out]at e;exact heq (Option.some.inj e)
           have hnb:(s2.toList==t.toList)=false:=by
            simp only[beq_eq_false_iff_ne,ne_eq,ByteArray.toList_eq];exact fun e=>heq (ByteArray.ext (Array.toList_inj.1 e))
           have HNO3:=Lib.hid hno3;clear hno3
           go_wp2_with fail
           exact⟨⟨3,rfl,by omega,HNO3,hbel2⟩,by simp[intOf]⟩
       · have hno4:∀i,i<(j+1)*3→namesF[i]?≠some t:=fun i hi=>hno2.out i (by omega)
         have HNO4:=Lib.hid hno4;clear hno4
         go_wp2_with fail
         exact⟨⟨j+1,by go_num,by omega,HNO4,hbel2⟩,by simp[intOf];omega⟩
    · have hj10:j=10:=by omega
      subst hj10;have miss:=HMISS.out hno.out;have MISS:=Lib.hid miss;clear miss
      go_wp2_with fail
      refine bodyPost_ret (v:=.tuple #[.int .i64 0,.bool false]) (by simp[results,Tryz.results122,go_sem]) rfl ?_;exact(show NamedPost _ _ _ _ from⟨by rw[MISS.out];rfl,hbel⟩)
noncomputable def tokC(c:Int):Tok:=if c≤3 then tokS (sgS (kgM (setS c)))else if c≤6 then tok2 c else if c=7 then tokU else tokW (decide (c=9))
theorem tokC_lo(c:Int)(h:c≤3):tokC c=tokS (sgS (kgM (setS c))):=if_pos h
theorem kx8(c:Int)(h:4≤c)(h1:c≤6):tokC c=tok2 c:=by unfold tokC;rw[if_neg (by omega),if_pos h1]
theorem tokC_u:tokC 7=tokU:=by unfold tokC;rw[if_neg (by omega),if_neg (by omega),if_pos rfl]
theorem tokC_w(c:Int)(h:8≤c):tokC c=tokW (decide (c=9)):=by unfold tokC;rw[if_neg (by omega),if_neg (by omega),if_neg (by omega)]
noncomputable def decV(c:Int)(l:List UInt8):Value:=if 0≤c∧c≤9 then .tuple #[.string ⟨(decT (tokC c) l).1.toArray⟩,faultV (decT (tokC c) l).2]else .tuple #[.string ⟨#[]⟩,.agg #[.int .i64 5,.int .i64 0]]
def CDecPost(r:Value)(w:World)(e:Ending)(w':World):Prop:=e=.returned r∧Below w.heap.size w w'
theorem js6(c:Int)(l:List UInt8)(h:0≤c∧c≤9):decV c l=.tuple #[.string ⟨(decT (tokC c) l).1.toArray⟩,faultV (decT (tokC c) l).2]:=if_pos h
theorem ua_bd:∀p∈pairsM ukS,0≤p.1∧0≤p.2∧p.2≤1114111:=by decide +kernel
theorem al_bd:∀p∈pairsM alS,0≤p.1∧0≤p.2∧p.2≤1114111:=by decide +kernel
theorem set_bd(c:Int):∀p∈pairsM (setS c),0≤p.1∧0≤p.2∧p.2≤1114111:=by
 unfold setS;split
 · exact la_bd
 · split
   · exact ko_bd
   · split
     · exact ua_bd
     · exact al_bd
theorem set_len(c:Int):(setS c).length≤1000:=by
 unfold setS;split
 · decide
 · split
   · decide +kernel
   · split
     · decide +kernel
     · decide +kernel
set_option maxRecDepth 100000 in
theorem vn4(c:Int)(b:ByteArray)(w:World)(hT:TW w)(hb:b.size≤1073741824)(h0:0≤c)(h1:c≤3):
 Calls Tryz.prog 104 #[.int .i64 c,.string b] w (CDecPost (decV c (bl b)) w):=by
 rw[js6 c _ (by omega),tokC_lo c h1];have k1:=fun w hT=>vx6 c w hT h0 h1
 have k2:=fun v B w hT hX=>kj8 v (setS c) B c b w hT hX (vr8 c) (set_len c) hb (set_bd c)
 obtain⟨f0,f1,hf⟩:=jp2 (decT (tokS (sgS (kgM (setS c)))) (bl b)).2;rw[hf];unfold DecPost at k2;rw[hf]at k2;generalize (decT (tokS (sgS (kgM (setS c)))) (bl b)).1=t at *;clear hf;have hb0:=bal (Below.refl w.heap.size w) (.cells #[.int .i64 0,.int .i64 0] 54);have l0:=Live.fresh w #[.int .i64 0,.int .i64 0] 54 0 _ rfl;have l1:=Live.fresh w #[.int .i64 0,.int .i64 0] 54 1 _ rfl;have K1:=Lib.hid k1;have K2:=Lib.hid k2;have HT:=Lib.hid hT;have HB0:=Lib.hid hb0;have L0:=Lib.hid l0;have L1:=Lib.hid l1;clear k1 k2 hT hb0 l0 l1;rcases(show c=0∨c=1∨c=2∨c=3 from by omega)with rfl|rfl|rfl|rfl
 all_goals (
  go_enter Tryz.func104,Tryz.ntmps104
  go_wp2_with fail
  refine(K1.out _ (HT.out.bel HB0.out)).mono ?_;rintro e w1 ⟨a1,c1,rfl,ht1,hb1⟩;have n0:=(L0.out.keep hb1);have n1:=(L1.out.keep hb1);have hbw:=bt HB0.out hb1;have N0:=Lib.hid n0;have N1:=Lib.hid n1;have HBW:=Lib.hid hbw;have HT1:=Lib.hid ht1;have HB1:=Lib.hid hb1;clear n0 n1 hbw ht1 hb1
  go_wp2_with fail
  refine(K2.out _ _ _ ((HT.out.bel HBW.out).alloc _) (HT1.out.bel (bal (Below.refl _ _) _))).mono ?_;rintro e w2 ⟨rfl,hb2⟩;have hb12:=bt (bal (Below.refl w1.heap.size w1) _) hb2;obtain⟨a1,a2⟩:=N0.out.keep hb12;obtain⟨a3,a4⟩:=N1.out.keep hb12;have hb02:=bt HBW.out hb12;clear hb2 hb12;have HB02:=Lib.hid hb02;clear hb02
  go_wp2_with fail
  refine bodyPost_ret (v:=.tuple #[.string ⟨t.toArray⟩,.agg #[.int .i64 f0,.int .i64 f1]]) (by simp[results,Tryz.results104,go_sem,a1,a2,a3,a4]) rfl ?_;exact(show CDecPost _ _ _ _ from⟨rfl,(HB02.out.setCell (Nat.le_refl _) _).setCell (Nat.le_refl _) _⟩))
set_option maxRecDepth 100000 in
theorem qv6(c:Int)(b:ByteArray)(w:World)(hT:TW w)(hb:b.size≤1073741824)(h0:4≤c)(h1:c≤6):
 Calls Tryz.prog 104 #[.int .i64 c,.string b] w (CDecPost (decV c (bl b)) w):=by
 rw[js6 c _ (by omega),kx8 c h0 h1];have k1:=fun w hT=>qd0 c b w hT hb
 obtain⟨f0,f1,hf⟩:=jp2 (decT (tok2 c) (bl b)).2;rw[hf];unfold DecPost at k1;rw[hf]at k1;generalize (decT (tok2 c) (bl b)).1=t at *;clear hf;have hb0:=bal (Below.refl w.heap.size w) (.cells #[.int .i64 0,.int .i64 0] 54);have l0:=Live.fresh w #[.int .i64 0,.int .i64 0] 54 0 _ rfl;have l1:=Live.fresh w #[.int .i64 0,.int .i64 0] 54 1 _ rfl;have K1:=Lib.hid k1;have HT:=Lib.hid hT;have HB0:=Lib.hid hb0;have L0:=Lib.hid l0;have L1:=Lib.hid l1;clear k1 hT hb0 l0 l1;rcases(show c=4∨c=5∨c=6 from by omega)with rfl|rfl|rfl
 all_goals (
  go_enter Tryz.func104,Tryz.ntmps104
  go_wp2_with fail
  refine(K1.out _ (HT.out.bel HB0.out)).mono ?_;rintro e w2 ⟨rfl,hb2⟩;obtain⟨a1,a2⟩:=L0.out.keep hb2;obtain⟨a3,a4⟩:=L1.out.keep hb2;have hb02:=bt HB0.out hb2;clear hb2;have HB02:=Lib.hid hb02;clear hb02
  go_wp2_with fail
  refine bodyPost_ret (v:=.tuple #[.string ⟨t.toArray⟩,.agg #[.int .i64 f0,.int .i64 f1]]) (by simp[results,Tryz.results104,go_sem,a1,a2,a3,a4]) rfl ?_;exact(show CDecPost _ _ _ _ from⟨rfl,(HB02.out.setCell (Nat.le_refl _) _).setCell (Nat.le_refl _) _⟩))
set_option maxRecDepth 100000 in
theorem qn6(c:Int)(b:ByteArray)(w:World)(hb:b.size≤1073741824)(h0:8≤c)(h1:c≤9):
 Calls Tryz.prog 104 #[.int .i64 c,.string b] w (CDecPost (decV c (bl b)) w):=by
 rw[js6 c _ (by omega),tokC_w c h0];have k1:=fun w=>qp7 b (decide (c=9)) w hb
 obtain⟨f0,f1,hf⟩:=jp2 (decT (tokW (decide (c=9))) (bl b)).2;rw[hf];rw[hf]at k1;generalize (decT (tokW (decide (c=9))) (bl b)).1=t at *;clear hf;have hb0:=bal (Below.refl w.heap.size w) (.cells #[.int .i64 0,.int .i64 0] 54);have l0:=Live.fresh w #[.int .i64 0,.int .i64 0] 54 0 _ rfl;have l1:=Live.fresh w #[.int .i64 0,.int .i64 0] 54 1 _ rfl;rcases(show c=8∨c=9 from by omega)with rfl|rfl
 · simp only[show decide ((8:Int)=9)=false from rfl]at k1
   have K1:=Lib.hid k1;have HB0:=Lib.hid hb0;have L0:=Lib.hid l0;have L1:=Lib.hid l1;clear k1 hb0 l0 l1
   go_enter Tryz.func104,Tryz.ntmps104
   go_wp2_with fail
   refine(K1.out _).mono ?_;rintro e w2 ⟨rfl,hb2⟩;obtain⟨a1,a2⟩:=L0.out.keep hb2;obtain⟨a3,a4⟩:=L1.out.keep hb2;have hb02:=bt HB0.out hb2;clear hb2;have HB02:=Lib.hid hb02;clear hb02
   go_wp2_with fail
   refine bodyPost_ret (v:=.tuple #[.string ⟨t.toArray⟩,.agg #[.int .i64 f0,.int .i64 f1]]) (by simp[results,Tryz.results104,go_sem,a1,a2,a3,a4]) rfl ?_;exact(show CDecPost _ _ _ _ from⟨rfl,(HB02.out.setCell (Nat.le_refl _) _).setCell (Nat.le_refl _) _⟩)
 · simp only[show decide ((9:Int)=9)=true from rfl]at k1
   have K1:=Lib.hid k1;have HB0:=Lib.hid hb0;have L0:=Lib.hid l0;have L1:=Lib.hid l1;clear k1 hb0 l0 l1
   go_enter Tryz.func104,Tryz.ntmps104
   go_wp2_with fail
   refine(K1.out _).mono ?_;rintro e w2 ⟨rfl,hb2⟩;obtain⟨a1,a2⟩:=L0.out.keep hb2;obtain⟨a3,a4⟩:=L1.out.keep hb2;have hb02:=bt HB0.out hb2;clear hb2;have HB02:=Lib.hid hb02;clear hb02
   go_wp2_with fail
   refine bodyPost_ret (v:=.tuple #[.string ⟨t.toArray⟩,.agg #[.int .i64 f0,.int .i64 f1]]) (by simp[results,Tryz.results104,go_sem,a1,a2,a3,a4]) rfl ?_;exact(show CDecPost _ _ _ _ from⟨rfl,(HB02.out.setCell (Nat.le_refl _) _).setCell (Nat.le_refl _) _⟩)
set_option maxRecDepth 100000 in
theorem qn7(c:Int)(b:ByteArray)(w:World)(h:¬(0≤c∧c≤9)):
 Calls Tryz.prog 104 #[.int .i64 c,.string b] w (CDecPost (decV c (bl b)) w):=by
 rw[show decV c (bl b)=.tuple #[.string ⟨#[]⟩,.agg #[.int .i64 5,.int .i64 0]] from if_neg h];have hb0:=bal (Below.refl w.heap.size w) (.cells #[.int .i64 0,.int .i64 0] 54);have e0:(c==0)=false:=by simp;omega
 have e1:(c==1)=false:=by simp;omega
 have e2:(c==2)=false:=by simp;omega
 have e3:(c==3)=false:=by simp;omega
 have e4:(c==4)=false:=by simp;omega
 have e5:(c==5)=false:=by simp;omega
 have e6:(c==6)=false:=by simp;omega
 have e7:(c==7)=false:=by simp;omega
 have e8:(c==8)=false:=by simp;omega
 have e9:(c==9)=false:=by simp;omega
 have HB0:=Lib.hid hb0;clear hb0;clear h
 go_enter Tryz.func104,Tryz.ntmps104
 go_wp2_with fail
 refine bodyPost_ret (v:=.tuple #[.string ⟨#[]⟩,.agg #[.int .i64 5,.int .i64 0]]) (by simp[results,Tryz.results104,go_sem]) rfl ?_;exact(show CDecPost _ _ _ _ from⟨rfl,bal (Below.refl _ _) _⟩)
set_option maxRecDepth 100000 in
theorem xh3(b:ByteArray)(w:World)(hT:TW w)(hb:b.size≤1073741824):
 Calls Tryz.prog 104 #[.int .i64 7,.string b] w (CDecPost (decV 7 (bl b)) w):=by
 rw[js6 7 _ (by omega),tokC_u,decT_U];have k1:=fun w hT=>qn5 b w hT (by omega)
 have k2:=fun a b w=>jb8 a b w
 have hb0:=bal (Below.refl w.heap.size w) (.cells #[.int .i64 0,.int .i64 0] 54);have l0:=Live.fresh w #[.int .i64 0,.int .i64 0] 54 0 _ rfl;have l1:=Live.fresh w #[.int .i64 0,.int .i64 0] 54 1 _ rfl;unfold decU;have hbb:(⟨(bl b).toArray⟩:ByteArray)=b:=js2 b;generalize (scanL (bl b)).2=o at *;have K1:=Lib.hid k1;have K2:=Lib.hid k2;have HB0:=Lib.hid hb0;have L0:=Lib.hid l0;have L1:=Lib.hid l1;have HT:=Lib.hid hT;have HBB:=Lib.hid hbb;clear k1 k2 hb0 l0 l1 hT hbb;cases o with
 | some k=>
  simp only[faultV]at K1 ⊢
  go_enter Tryz.func104,Tryz.ntmps104
  go_wp2_with fail
  refine(K1.out _ (HT.out.bel HB0.out)).mono ?_;rintro e w1 ⟨rfl,hb1⟩
  go_wp2_with (go_at_call 16;refine(K2.out _ _ _).mono ?_;rintro e w2 ⟨rfl,hb2⟩)
  have q0:=(Live.fresh w1 #[.int .i64 2,.int .i64 k] 54 0 _ rfl).keep hb2;have q1:=(Live.fresh w1 #[.int .i64 2,.int .i64 k] 54 1 _ rfl).keep hb2;have p0:=((L0.out.keep hb1).alloc (.cells #[.int .i64 2,.int .i64 k] 54)).keep hb2;have p1:=((L1.out.keep hb1).alloc (.cells #[.int .i64 2,.int .i64 k] 54)).keep hb2;have hbw:Below w.heap.size w w2:=HB0.out.trans ((bt (bal (bt (Below.refl _ _) hb1) _) hb2).mono HB0.out.size);clear hb1 hb2;have g0:=fun x:Grown w2=>x.cell q0.1
  have g1:=fun x:Grown w2=>x.cell q1.1
  refine wp_region_grown_tail 2 (by kernel_rfl) (by kernel_rfl) ?_;simp only[List.take_succ_cons,List.take_zero,List.drop_succ_cons,List.drop_zero]
  repeat (first|go_big_quiet_step (fail)|quiet_step (fail))
  refine wpQuiet_nil ?_;intro _ hw';obtain⟨xg,rfl⟩:=hw';obtain⟨a1,a2⟩:=p0.keep xg.bel;obtain⟨a3,a4⟩:=p1.keep xg.bel;have hbx:=hbw.trans (xg.bel.mono hbw.size);clear g0 g1;generalize xg.wd=W at *
  go_wp2_with fail
  refine bodyPost_ret (v:=.tuple #[.string ⟨#[]⟩,.agg #[.int .i64 2,.int .i64 k]]) (by simp[results,Tryz.results104,go_sem,a1,a2,a3,a4]) rfl ?_;exact(show CDecPost _ _ _ _ from⟨rfl,(hbx.setCell (Nat.le_refl _) _).setCell (Nat.le_refl _) _⟩)
 | none=>
  simp only[faultV]at K1 ⊢;rw[HBB.out]
  go_enter Tryz.func104,Tryz.ntmps104
  go_wp2_with fail
  refine(K1.out _ (HT.out.bel HB0.out)).mono ?_;rintro e w1 ⟨rfl,hb1⟩
  go_wp2_with (go_at_call 16;refine(K2.out _ _ _).mono ?_;rintro e w2 ⟨rfl,hb2⟩;obtain⟨a1,a2⟩:=((L0.out.keep hb1).alloc (.cells #[.int .i64 0,.int .i64 0] 54)).keep hb2;obtain⟨a3,a4⟩:=((L1.out.keep hb1).alloc (.cells #[.int .i64 0,.int .i64 0] 54)).keep hb2)
  have hbw:Below w.heap.size w w2:=HB0.out.trans ((bt (bal (bt (Below.refl _ _) hb1) _) hb2).mono HB0.out.size);refine bodyPost_ret (v:=.tuple #[.string b,.agg #[.int .i64 0,.int .i64 0]]) (by simp[results,Tryz.results104,go_sem,a1,a2,a3,a4]) rfl ?_;exact(show CDecPost _ _ _ _ from⟨rfl,(hbw.setCell (Nat.le_refl _) _).setCell (Nat.le_refl _) _⟩)
theorem jk5(c:Int)(b:ByteArray)(w:World)(hT:TW w)(hb:b.size≤1073741824):
 Calls Tryz.prog 104 #[.int .i64 c,.string b] w (CDecPost (decV c (bl b)) w):=by
 by_cases h:0≤c∧c≤9
 · by_cases h3:c≤3
   · exact vn4 c b w hT hb h.1 h3
   · by_cases h6:c≤6
     · exact qv6 c b w hT hb (by omega) h6
     · by_cases h7:c=7
       · subst h7;exact xh3 b w hT hb
       · exact qn6 c b w hb (by omega) h.2
 · exact qn7 c b w h
end Go.Proofs.YtagjkmkmphamoaaGreatDoor
namespace Go.Proofs.YtagjkmkmphamoaaGreatDoor
def Short(tok:Tok):Prop:=∀l t k,tok l=some (t,k)→t.length≤64*k∧k≤l.length
theorem vf6{tok:Tok}(S:Short tok):∀(f:Nat) (l:List UInt8) (n:Nat) (acc:List UInt8),(runT tok f l n acc).1.length≤acc.length+64*l.length:=by
 intro f
 induction f with
 | zero=>intro l n acc;simp[runT]
 | succ f ih=>
  intro l n acc;by_cases hl:l = []
  · subst hl;simp[runT]
  · cases ht:tok l with
    | none=>rw[jh1 f l n acc hl ht];simp
    | some p=>
     obtain⟨t,k⟩:=p;have h1:=S l t k ht;rw[jf3 f l n acc t k hl ht];have:=ih (l.drop k) (n+k) (acc++t);rw[List.length_drop,List.length_append]at this;omega
theorem vk6{tok:Tok}(S:Short tok)(l:List UInt8):(decT tok l).1.length≤64*l.length:=by
 have:=vf6 S l.length l 0 [];simpa[decT]using this
theorem vr6(c:Int):Short (tokC c):=by
 intro l t k h;unfold tokC at h;split at h
 · unfold tokS at h
   cases l with
   | nil=>cases h
   | cons b r=>
    simp only[Option.map_eq_some_iff,Prod.mk.injEq]at h;obtain⟨u,hu,rfl,rfl⟩:=h;unfold sgS at hu;split at hu
    · simp only[Option.some.injEq]at hu
      rw[←hu];have:=(jj2 ((kgM (setS c)).2.getD b.toNat 0)).2;simp only[List.length_cons];omega
    · cases hu
 · split at h
   · unfold tok2 at h
     match l,h with
     | [b],h=>
      simp only[tokD]at h;split at h
      · simp only[Option.some.injEq,Prod.mk.injEq]at h
        obtain⟨rfl,rfl⟩:=h;simp
      · cases h
     | b::y::r,h=>
      simp only[tokD]at h;split at h
      · simp only[Option.some.injEq,Prod.mk.injEq]at h
        obtain⟨rfl,rfl⟩:=h;simp
      · split at h
        · cases h
        · simp only[Option.some.injEq,Prod.mk.injEq]at h
          obtain⟨rfl,rfl⟩:=h;have:=qf7 c b y;simp only[List.length_cons];omega
   · split at h
     · have:=near_U.pos l t k h
       unfold tokU at h;split at h
       · cases h
       · simp only[Option.some.injEq,Prod.mk.injEq]at h
         obtain⟨rfl,rfl⟩:=h;have:=jg2 l;rw[List.length_take];omega
     · unfold tokW at h
       split at h
       · cases h
       · rename_i hz
         simp only[Option.some.injEq,Prod.mk.injEq]at h;obtain⟨rfl,rfl⟩:=h;have h1:=qx1 (decide (c=9)) l;have h2:=(jj2 (wsign (decide (c=9)) l).1).2;omega
end Go.Proofs.YtagjkmkmphamoaaGreatDoor
namespace Go.Proofs.YtagjkmkmphamoaaGreatDoor
open Go.RowKit
theorem signs_ga:signsM 4 176 161 = [234,176,128]:=by
 have h1:signsM 4 176 161=if(wSignM 176 161).2=true then(textM [(wSignM 176 161).1]).1 else []:=rfl
 rw[h1,wsign_0]
 decide +kernel
theorem dec9_ok:decT (tok2 4) [97,176,161]=([97,234,176,128],none):=by
 have e1:tok2 4 [97,176,161]=some ([97],1):=rfl;have e2:tok2 4 [176,161]=some ([234,176,128],2):=by
  show(if(176:UInt8)<128 then some ([176],1)else if signsM 4 176 161 = []then none else some (signsM 4 176 161,2))=_;rw[signs_ga];rfl
 unfold decT;rw[show([97,176,161]:List UInt8).length=2+1 from rfl,jf3 (tok:=tok2 4) 2 _ 0 [] _ _ (by simp) e1];rw[show([97,176,161]:List UInt8).drop 1 = [176,161] from rfl,jf3 (tok:=tok2 4) 1 _ _ _ _ _ (by simp) e2]
 rfl
theorem dec9_bad:decT (tok2 4) [97,176]=([],some 1):=by
 have e1:tok2 4 [97,176]=some ([97],1):=rfl;have e2:tok2 4 [176]=none:=rfl;unfold decT;rw[show([97,176]:List UInt8).length=1+1 from rfl,jf3 (tok:=tok2 4) 1 _ 0 [] _ _ (by simp) e1];rw[show([97,176]:List UInt8).drop 1 = [176] from rfl,jh1 (tok:=tok2 4) 0 _ _ _ (by simp) e2]
theorem named_u:namedM (bl ⟨#[85,84,70,56]⟩)=some 7:=by decide +kernel
theorem qw5(w:World)(hT:TW w):Calls Tryz.prog 112 #[] w fun e w'=>e=.returned (.bool true)∧Below w.heap.size w w':=by
 have k1:∀w,TW w→Calls Tryz.prog 104 #[.int .i64 4,.string ⟨#[97,176,161]⟩] w fun e w'=>e=.returned (.tuple #[.string ⟨#[97,234,176,128]⟩,.agg #[.int .i64 0,.int .i64 0]])∧Below w.heap.size w w':=fun w hT=>by
  have h:=jk5 4 ⟨#[97,176,161]⟩ w hT (by decide);rw[js6 4 _ (by omega),kx8 4 (by omega) (by omega),show bl ⟨#[97,176,161]⟩ = [97,176,161] from rfl,dec9_ok]at h;exact h
 have k2:∀w,TW w→Calls Tryz.prog 104 #[.int .i64 4,.string ⟨#[97,176]⟩] w fun e w'=>e=.returned (.tuple #[.string ⟨#[]⟩,.agg #[.int .i64 2,.int .i64 1]])∧Below w.heap.size w w':=fun w hT=>by
  have h:=jk5 4 ⟨#[97,176]⟩ w hT (by decide);rw[js6 4 _ (by omega),kx8 4 (by omega) (by omega),show bl ⟨#[97,176]⟩ = [97,176] from rfl,dec9_bad]at h;exact h
 have k3:∀w,Calls Tryz.prog 122 #[.string ⟨#[85,84,70,56]⟩] w fun e w'=>e=.returned (.tuple #[.int .i64 7,.bool true])∧Below w.heap.size w w':=fun w=>by
  have h:=qj1 ⟨#[85,84,70,56]⟩ w (by decide);rw[named_u]at h;exact h
 have k4:=fun w hT=>kp9 w hT
 have k5:=fun w hT=>qw9 w hT
 have k6:=fun w=>qw8 w
 have k7:=fun w hT=>qw7 w hT
 have k8:=fun w hT=>qw6 w hT
 have kB:∀w,Calls Tryz.prog 16 #[.agg #[.int .i64 0,.int .i64 0]] w fun e w'=>e=.returned (.bool false)∧Below w.heap.size w w':=fun w=>jb8 0 0 w
 have kE:=qc9 2 1 2 1;have kG:=fun op x y w=>jj6 op x y #[.int .i64 2,.int .i64 1] #[.int .i64 2,.int .i64 1] w
 have K1:=Lib.hid k1;have K2:=Lib.hid k2;have K3:=Lib.hid k3;have K4:=Lib.hid k4;have K5:=Lib.hid k5;have K6:=Lib.hid k6;have K7:=Lib.hid k7;have K8:=Lib.hid k8;have KB:=Lib.hid kB;clear k1 k2 k3 k4 k5 k6 k7 k8 kB
 go_enter Tryz.func112,Tryz.ntmps112
 go_wp2_with fail
 refine(K1.out _ hT).mono ?_;rintro e w1 ⟨rfl,hb1⟩;have hc1:=bal hb1 (.cells #[.int .i64 0,.int .i64 0] 54);have f0:(w1.alloc (.cells #[.int .i64 0,.int .i64 0] 54)).cell? ⟨w1.heap.size,0,none⟩=some (.int .i64 0):=by go_simp
 have f1:(w1.alloc (.cells #[.int .i64 0,.int .i64 0] 54)).cell? ⟨w1.heap.size,1,none⟩=some (.int .i64 0):=by go_simp
 have F0:=Lib.hid f0;have F1:=Lib.hid f1;clear f0 f1
 go_wp2_with fail
 refine(K2.out _ (hT.bel hc1)).mono ?_;rintro e w2 ⟨rfl,hb2⟩;have hq2:=bal (Below.refl w2.heap.size w2) (.cells #[.int .i64 2,.int .i64 1] 54);have hc2:=bt (bt hc1 hb2) hq2;have f0:=kc hq2 (kc hb2 F0.out);have f1:=kc hq2 (kc hb2 F1.out);have g0:(w2.alloc (.cells #[.int .i64 2,.int .i64 1] 54)).cell? ⟨w2.heap.size,0,none⟩=some (.int .i64 2):=by go_simp
 have g1:(w2.alloc (.cells #[.int .i64 2,.int .i64 1] 54)).cell? ⟨w2.heap.size,1,none⟩=some (.int .i64 1):=by go_simp
 have HC2:=Lib.hid hc2;clear hc2;clear hc1 hb1 hb2 hq2
 go_wp2_with (first
  | (go_at_call 122;refine(K3.out _).mono ?_;rintro e w3 ⟨rfl,hb3⟩;have hc3:=bt HC2.out hb3;have f0:=kc hb3 f0;have f1:=kc hb3 f1;have g0:=kc hb3 g0;have g1:=kc hb3 g1)
  | (go_at_call 132;refine(K4.out _ (hT.bel hc3)).mono ?_;rintro e w4 ⟨rfl,hb4⟩;have hc3:=bt hc3 hb4;have f0:=kc hb4 f0;have f1:=kc hb4 f1;have g0:=kc hb4 g0;have g1:=kc hb4 g1)
  | (go_at_call 133;refine(K5.out _ (hT.bel hc3)).mono ?_;rintro e w4 ⟨rfl,hb4⟩;have hc3:=bt hc3 hb4;have f0:=kc hb4 f0;have f1:=kc hb4 f1;have g0:=kc hb4 g0;have g1:=kc hb4 g1)
  | (go_at_call 134;refine(K6.out _).mono ?_;rintro e w4 ⟨rfl,hb4⟩;have hc3:=bt hc3 hb4;have f0:=kc hb4 f0;have f1:=kc hb4 f1;have g0:=kc hb4 g0;have g1:=kc hb4 g1)
  | (go_at_call 135;refine(K7.out _ (hT.bel hc3)).mono ?_;rintro e w4 ⟨rfl,hb4⟩;have hc3:=bt hc3 hb4;have f0:=kc hb4 f0;have f1:=kc hb4 f1;have g0:=kc hb4 g0;have g1:=kc hb4 g1)
  | (go_at_call 136;refine(K8.out _ (hT.bel hc3)).mono ?_;rintro e w4 ⟨rfl,hb4⟩;have hc3:=bt hc3 hb4;have f0:=kc hb4 f0;have f1:=kc hb4 f1;have g0:=kc hb4 g0;have g1:=kc hb4 g1)
  | (go_at_call 16;refine(KB.out _).mono ?_;rintro e w4 ⟨rfl,hb4⟩;have hc3:=bt hc3 hb4;have g0:=kc hb4 g0;have g1:=kc hb4 g1))
 go_ret
 exact⟨rfl,hc3⟩
end Go.Proofs.YtagjkmkmphamoaaGreatDoor
