/- PF -/
import Derived.Lib.ConvBytes
import Derived.Test.YtndlekaahjccdaaGreatDoorPE
import Derived.Deep.RegionHeld3
set_option linter.all false
set_option maxRecDepth 100000
set_option maxHeartbeats 40000000
set_option maxHeartbeats 4000000
namespace Go.Proofs.YtndlekaahjccdaaGreatDoor
open Go.RowKit Go.Proofs.Tryz
theorem y2N(c:Int)(w:World):Calls prog 14 #[.int .i64 c] w fun e w'=>e=.returned (.bool (decide (0<=c/\c<=6)))/\Below w.heap.size w w':=by
 by_cases h:0<=c
 . by_cases h2:c<=6
   . rw[show decide (0<=c/\c<=6)=true by simp[h,h2]]
     go_enter func14,ntmps14
     go_wp2
     go_ret
     exact⟨rfl,z8⟩
   . rw[show decide (0<=c/\c<=6)=false by simp[h,h2]]
     go_enter func14,ntmps14
     go_wp2
     go_ret
     exact⟨rfl,z8⟩
 . rw[show decide (0<=c/\c<=6)=false by simp[h]]
   go_enter func14,ntmps14
   go_wp2
   go_ret
   exact⟨rfl,z8⟩
def namesL:List (List ByteArray):=[[⟨#[108,97,116,105,110,49]⟩,⟨#[105,115,111,45,56,56,53,57,45,49]⟩,⟨#[108,97,116,105,110,45,49]⟩],[⟨#[107,111,105,56,45,114]⟩,⟨#[107,111,105,56,114]⟩,⟨#[]⟩],[⟨#[107,111,105,56,45,117]⟩,⟨#[107,111,105,56,117]⟩,⟨#[]⟩],[⟨#[99,112,56,54,54]⟩,⟨#[105,98,109,56,54,54]⟩,⟨#[]⟩],[⟨#[99,112,57,52,57]⟩,⟨#[101,117,99,45,107,114]⟩,⟨#[117,104,99]⟩],[⟨#[106,111,104,97,98]⟩,⟨#[99,112,49,51,54,49]⟩,⟨#[]⟩],[⟨#[98,105,103,53,45,104,107,115,99,115]⟩,⟨#[98,105,103,53]⟩,⟨#[]⟩],[⟨#[117,116,102,45,56]⟩,⟨#[117,116,102,56]⟩,⟨#[]⟩],[⟨#[117,116,102,45,49,54,108,101]⟩,⟨#[117,116,102,49,54,108,101]⟩,⟨#[]⟩],[⟨#[117,116,102,45,49,54,98,101]⟩,⟨#[117,116,102,49,54,98,101]⟩,⟨#[]⟩]]
def namesArr:Array Value:=#[.string ⟨#[108,97,116,105,110,49]⟩,.string ⟨#[105,115,111,45,56,56,53,57,45,49]⟩,.string ⟨#[108,97,116,105,110,45,49]⟩,.string ⟨#[107,111,105,56,45,114]⟩,.string ⟨#[107,111,105,56,114]⟩,.string ⟨#[]⟩,.string ⟨#[107,111,105,56,45,117]⟩,.string ⟨#[107,111,105,56,117]⟩,.string ⟨#[]⟩,.string ⟨#[99,112,56,54,54]⟩,.string ⟨#[105,98,109,56,54,54]⟩,.string ⟨#[]⟩,.string ⟨#[99,112,57,52,57]⟩,.string ⟨#[101,117,99,45,107,114]⟩,.string ⟨#[117,104,99]⟩,.string ⟨#[106,111,104,97,98]⟩,.string ⟨#[99,112,49,51,54,49]⟩,.string ⟨#[]⟩,.string ⟨#[98,105,103,53,45,104,107,115,99,115]⟩,.string ⟨#[98,105,103,53]⟩,.string ⟨#[]⟩,.string ⟨#[117,116,102,45,56]⟩,.string ⟨#[117,116,102,56]⟩,.string ⟨#[]⟩,.string ⟨#[117,116,102,45,49,54,108,101]⟩,.string ⟨#[117,116,102,49,54,108,101]⟩,.string ⟨#[]⟩,.string ⟨#[117,116,102,45,49,54,98,101]⟩,.string ⟨#[117,116,102,49,54,98,101]⟩,.string ⟨#[]⟩]
theorem yA1:namesArr=((namesL.flatMap id).map Value.string).toArray:=by kernel_rfl
theorem yFV:(Tryz.prog.info? 285).map (·.size)=some 30:=by kernel_rfl
theorem yF7(w:World):Calls prog 270 #[] w fun e w'=>e=.returned (.agg namesArr)/\Below w.heap.size w w':=by
 obtain⟨arr,H5⟩:∃arr,arr=namesArr:=⟨_,rfl⟩;rw[<-H5];have H8:arr.size=30:=by rw[H5];rfl
 have H6:arr.all (·.oneCell')=true:=by rw[H5];as_aux_lemma=>kernel_rfl
 have H7:(Tryz.prog.info? 285).map (·.size)=some arr.size:=by rw[H8];exact yFV
 have HR:=z7 H5;have HO:=z7 H6;have HI:=z7 H7;have HZ:=z7 H8;clear H5 H6 H7 H8
 go_enter func270,ntmps270
 apply wp_seq_k;intro K0 Ha;have Hc:=z7 Ha;clear Ha
 go_wp2_with fail
 refine Hc.out _ _ ?_;clear Hc;apply wp_seq_k;intro K1 H9;have Hb:=z7 H9;clear H9 K0;apply wp_region_lit;refine wpB rfl _ _ rfl _ rfl #[.string ⟨#[108,97,116,105,110,49]⟩,.string ⟨#[105,115,111,45,56,56,53,57,45,49]⟩,.string ⟨#[108,97,116,105,110,45,49]⟩] (by as_aux_lemma=>kernel_rfl) ?_;refine wpB rfl _ _ rfl _ rfl #[.string ⟨#[107,111,105,56,45,114]⟩,.string ⟨#[107,111,105,56,114]⟩,.string ⟨#[]⟩] (by as_aux_lemma=>kernel_rfl) ?_;refine wpB rfl _ _ rfl _ rfl #[.string ⟨#[107,111,105,56,45,117]⟩,.string ⟨#[107,111,105,56,117]⟩,.string ⟨#[]⟩] (by as_aux_lemma=>kernel_rfl) ?_;refine wpB rfl _ _ rfl _ rfl #[.string ⟨#[99,112,56,54,54]⟩,.string ⟨#[105,98,109,56,54,54]⟩,.string ⟨#[]⟩] (by as_aux_lemma=>kernel_rfl) ?_;refine wpB rfl _ _ rfl _ rfl #[.string ⟨#[99,112,57,52,57]⟩,.string ⟨#[101,117,99,45,107,114]⟩,.string ⟨#[117,104,99]⟩] (by as_aux_lemma=>kernel_rfl) ?_;refine wpB rfl _ _ rfl _ rfl #[.string ⟨#[106,111,104,97,98]⟩,.string ⟨#[99,112,49,51,54,49]⟩,.string ⟨#[]⟩] (by as_aux_lemma=>kernel_rfl) ?_;refine wpB rfl _ _ rfl _ rfl #[.string ⟨#[98,105,103,53,45,104,107,115,99,115]⟩,.string ⟨#[98,105,103,53]⟩,.string ⟨#[]⟩] (by as_aux_lemma=>kernel_rfl) ?_;refine wpB rfl _ _ rfl _ rfl #[.string ⟨#[117,116,102,45,56]⟩,.string ⟨#[117,116,102,56]⟩,.string ⟨#[]⟩] (by as_aux_lemma=>kernel_rfl) ?_;refine wpB rfl _ _ rfl _ rfl #[.string ⟨#[117,116,102,45,49,54,108,101]⟩,.string ⟨#[117,116,102,49,54,108,101]⟩,.string ⟨#[]⟩] (by as_aux_lemma=>kernel_rfl) ?_;refine wpB rfl _ _ rfl _ rfl #[.string ⟨#[117,116,102,45,49,54,98,101]⟩,.string ⟨#[117,116,102,49,54,98,101]⟩,.string ⟨#[]⟩] (by as_aux_lemma=>kernel_rfl) ?_;refine wpB rfl _ _ rfl _ rfl arr (by rw[HR.out];as_aux_lemma=>kernel_rfl) ?_;refine Go.wpList_store_row rfl 285 _ _ rfl w.heap.size arr (by as_aux_lemma=>kernel_rfl) (by as_aux_lemma=>kernel_rfl) 285 _ (heap_alloc_new _ _) HI.out (by rw[HZ.out];as_aux_lemma=>kernel_rfl) HO.out ?_;apply wpList_nil;refine Hb.out _ _ ?_;clear Hb K1;apply wp_ret;refine bodyPost_ret (results_cell_row rfl _ _ w.heap.size 285 arr (0,0) _ (by as_aux_lemma=>kernel_rfl) (setRow_heap _ _ _ _ _ _ (heap_alloc_new _ _)) underlying285 rfl HI.out) rfl ⟨?_,?_⟩
 . rfl
 . exact below_setRow ((z8).alloc (zA) _) _ (zA) _
def sm(b:UInt8):UInt8:=if 65<=b.toNat/\b.toNat<=90 then UInt8.ofNat (b.toNat+32)else b
def smallL(l:List UInt8):List UInt8:=l.map sm
theorem yE3(l:List UInt8)(j:Nat)(h:j<l.length):smallL (l.take (j+1))++l.drop (j+1)=smallL (l.take j)++sm l[j]::l.drop (j+1):=by
 rw[List.take_add_one,List.getElem?_eq_getElem h];unfold smallL;rw[List.map_append,List.append_assoc];rfl
theorem yJ3(l:List UInt8)(j:Nat)(h:j<l.length):(smallL (l.take j)++l.drop j).set j (sm l[j])=smallL (l.take (j+1))++l.drop (j+1):=by
 have h1:(smallL (l.take j)).length=j:=by simp[smallL];omega
 rw[yE3 l j h,List.drop_eq_getElem_cons h,List.set_append_right _ _ (by omega),h1,Nat.sub_self,List.set_cons_zero]
theorem yJ4(l:List UInt8)(j:Nat)(h:j<l.length)(hs:sm l[j]=l[j]):smallL (l.take j)++l.drop j=smallL (l.take (j+1))++l.drop (j+1):=by
 rw[yE3 l j h,hs,List.drop_eq_getElem_cons h]
theorem sm_at(l:List UInt8)(j:Nat)(h:j<l.length):(smallL (l.take j)++l.drop j)[j]?=some l[j]:=by
 have h1:(smallL (l.take j)).length=j:=by simp[smallL];omega
 rw[List.getElem?_append_right (by omega),h1,Nat.sub_self,List.drop_eq_getElem_cons h];rfl
theorem yDA(s:ByteArray)(w:World):∃W cap N X,(convert 9 94 (.string s)).run prog w=.ok (.slice (some ⟨w.heap.size,0,none⟩) s.size cap) W /\
 W.heap[w.heap.size]?=some (.cells (bcells (bl s)++X).toArray 5 (N,N+1))/\s.size<=N/\Below w.heap.size w W:=by
 have h:=Go.Lib.run_convert_string_bytes (P:=prog) w 9 94 5 s underlying9 underlying94 underlying5;refine⟨_,_,(Go.Lib.bytesCells w 5 s).size,List.replicate (grownCap w s.size 0 5-s.size) (.int .u8 0),h,(Go.Lib.bytesWorld_at_new w 5 s).trans ?_,?_,?_⟩
 . have:Go.Lib.bytesCells w 5 s=(bcells (bl s)++List.replicate (grownCap w s.size 0 5-s.size) (Value.int .u8 0)).toArray:=by
    apply Array.toList_inj.1;simp[Go.Lib.bytesCells,bcells,bl]
   rw[this]
 . simp[Go.Lib.bytesCells]
 . exact⟨rfl,rfl,rfl,by rw[Go.Lib.bytesWorld_size];omega,fun i hi=>Go.Lib.bytesWorld_at_old w 5 s i hi⟩
theorem yE2(s:ByteArray)(w:World)(hs:s.size<=1073741824):Calls prog 269 #[.string s] w fun e w'=>e=.returned (.string ⟨(smallL (bl s)).toArray⟩)/\Below w.heap.size w w':=by
 have He:Hid ((bl s).length=s.size):=zJ s;obtain⟨W,cap,N,X,Hq,hW,hN,Hg⟩:=yDA s w;have HW:=z7 hW;have Hn:=z7 Hg;clear hW Hg
 go_enter func269,ntmps269
 go_wp2_with fail
 go_loopw [10] (fun jv wr=>∃j:Nat,jv=.int .i64 (j:Int)/\j<=s.size/\Hid (wr.heap[w.heap.size]?=some (.cells (bcells (smallL ((bl s).take j)++(bl s).drop j)++X).toArray 5 (N,N+1)))/\Below w.heap.size w wr) (fun jv _=>s.size-(intOf jv).toNat)
 case atStart=>exact⟨0,rfl,zD,by have:=HW.out;simpa[smallL]using z7 this,Hn.out⟩
 case round=>
  obtain⟨j,rfl,hj,H6,H8⟩:=hrel;by_cases Hj:j<s.size
  . obtain⟨x,hx⟩:=zM (bl s) j (by rw[He.out];exact Hj)
    obtain⟨Hb,Hc⟩:=List.getElem?_eq_some_iff.1 hx;have hc:wr.cell? ⟨w.heap.size,j,none⟩=some (.int .u8 (x.toNat:Int)):=by
     have h0:=sm_at (bl s) j Hb;rw[Hc]at h0;have h1:=(List.getElem?_eq_some_iff.1 h0).1;have h2:(bcells (smallL ((bl s).take j)++(bl s).drop j)++X)[j]?=some (.int .u8 (x.toNat:Int)):=by
      rw[List.getElem?_append_left (by rw[y0i];exact h1),bcells,List.getElem?_map,h0];rfl
     unfold World.cell?;rw[H6.out];simpa using h2
    have hf:wr.frozen? ⟨w.heap.size,j,none⟩=false:=by simp[World.frozen?,H6.out];omega
    have Hp:w.heap.size<wr.heap.size:=zp hc;have Ho:=x.toNat_lt;have Hd:=yJ3 (bl s) j Hb;have H9:=yJ4 (bl s) j Hb;rw[Hc]at Hd H9;by_cases hu:65<=x.toNat/\x.toNat<=90
    . have Ha:(sm x).toNat=x.toNat+32:=by rw[sm,if_pos hu,UInt8.toNat_ofNat'];omega
      have w1:IntKind.u8.wrap ((x.toNat:Int)+97)=(x.toNat:Int)+97:=wraps_u8 _ (by omega) (by omega);have w2:IntKind.u8.wrap ((x.toNat:Int)+97-65)=(x.toNat:Int)+32:=by rw[wraps_u8 _ (by omega) (by omega)];omega
      have H5:=Go.Lib.heap_setCell_same (i:=j) H6.out (.int .u8 ((sm x).toNat:Int));rw[List.setIfInBounds_toArray,List.set_append_left _ _ (by rw[y0i];simp[smallL];omega),y6f,Hd,Ha]at H5;have Hm:=H8.setCell (p:=⟨w.heap.size,j,none⟩) (zA) (.int .u8 ((x.toNat:Int)+32));obtain⟨Hf,Hh⟩:=hu;have H7:=z7 H5;clear H5;clear Hd H9 hx Hb Hc Ha H6
      go_wp2_with fail
      exact⟨⟨j+1,by go_num,by omega,z7 (by have:=H7.out;push_cast at this;exact this),Hm⟩,by simp[intOf];omega⟩
    . have Ha:sm x=x:=by rw[sm,if_neg hu]
      have H9:=H9 Ha;have H5:=H6.out;rw[H9]at H5;have H7:=z7 H5;clear H5;clear Hd H9 hx Hb Hc Ha H6;by_cases Hf:65<=x.toNat
      . have Hh:¬x.toNat<=90:=fun h=>hu ⟨Hf,h⟩
        go_wp2_with fail
        exact⟨⟨j+1,by go_num,by omega,H7,H8⟩,by simp[intOf];omega⟩
      . go_wp2_with fail
        exact⟨⟨j+1,by go_num,by omega,H7,H8⟩,by simp[intOf];omega⟩
  . have Hk:j=s.size:=by omega
    subst Hk;have H5:=H6.out;rw[List.take_of_length_le (by rw[He.out];exact zA),List.drop_of_length_le (by rw[He.out];exact zA),List.append_nil]at H5;have Hi:(smallL (bl s)).length=s.size:=by simp only[smallL,List.length_map,He.out]
    have Hl:=run_convert_bytes_back (P:=prog) wr 94 9 5 ⟨w.heap.size,0,none⟩ cap (smallL (bl s)) underlying94 underlying5 underlying9 (by
     intro q hq;have h2:(bcells (smallL (bl s))++X)[q]?=some (.int .u8 ((smallL (bl s))[q].toNat:Int)):=by
      rw[List.getElem?_append_left (by rw[y0i];exact hq),bcells,List.getElem?_map,List.getElem?_eq_getElem hq];rfl
     have ha:(⟨w.heap.size,0,none⟩:Addr).add q=⟨w.heap.size,q,none⟩:=by unfold Addr.add;split<;>simp_all
     rw[ha];unfold World.cell?;rw[H5];simpa using h2)
    rw[Hi]at Hl;clear H5 H6
    go_wp2_with fail
    go_ret
    exact⟨rfl,H8⟩
def namesF:List ByteArray:=namesL.flatMap id
theorem y6S:namesF.length=30:=by kernel_rfl
def namedM(l:List UInt8):Option Nat:=if l = []then none else(namesF.findIdx? fun s=>decide (s=⟨(smallL l).toArray⟩)).map (· / 3)
def namedV:Option Nat->Value
 | some c=>.tuple #[.int .i64 c,.bool true]
 | none=>.tuple #[.int .i64 0,.bool false]
def y1O(r:Option Nat)(w:World)(e:Ending)(w':World):Prop:=e=.returned (namedV r)/\Below w.heap.size w w'
theorem info3:(Tryz.prog.info? 284).map (·.size)=some 3:=by kernel_rfl
theorem y8m(w:World):(isAgg 9).run prog w=.ok false w:=by
 unfold isAgg;rw[Sem.run_bind,run_underlying underlying9 w];rfl
theorem idx3(s0 s1 s2:ByteArray)(w:World):
 (Instr.index 284 (.agg #[.string s0,.string s1,.string s2]) (.int .i64 0)).run prog w=.ok (.string s0) w /\
 (Instr.index 284 (.agg #[.string s0,.string s1,.string s2]) (.int .i64 1)).run prog w=.ok (.string s1) w /\
 (Instr.index 284 (.agg #[.string s0,.string s1,.string s2]) (.int .i64 2)).run prog w=.ok (.string s2) w:=by
 have hi:(Tryz.prog.info? 9).map (·.size)=some 1:=by kernel_rfl
 cases hq:Tryz.prog.info? 9 with
 | none=>simp[hq]at hi
 | some ii=>
  have hs:ii.size=1:=by simpa[hq]using hi
  refine⟨?_,?_,?_⟩
  all_goals simp[Instr.index,run_underlying underlying284,asIntOf,part,y8m,sizeOf,typeInfo,hq,hs,Sem.run_bind]
theorem yF6(j:Nat)(h:j<10):∃s0 s1 s2,namesArr.extract (j*3) (j*3+3)=#[.string s0,.string s1,.string s2]/\namesF[j*3]?=some s0/\namesF[j*3+1]?=some s1/\namesF[j*3+2]?=some s2:=by
 have hl:=y6S;refine⟨namesF[j*3],namesF[j*3+1],namesF[j*3+2],?_,List.getElem?_eq_getElem _,List.getElem?_eq_getElem _,List.getElem?_eq_getElem _⟩;rw[yA1];change (namesF.map Value.string).toArray.extract _ _=_;rw[List.extract_toArray];apply congrArg List.toArray;rw[List.extract_eq_take_drop];apply List.ext_getElem?;intro i;rw[Nat.add_sub_cancel_left,List.getElem?_take]
 match i with
 | 0=>simp[List.getElem?_drop]
 | 1=>simp[List.getElem?_drop]
 | 2=>simp[List.getElem?_drop]
 | n+3=>rw[if_neg (by omega)];simp
theorem yF8(l:List UInt8)(t:ByteArray)(ht:t=⟨(smallL l).toArray⟩)(hl:l ≠ [])(j k:Nat)(hk:k<3)(h:namesF[j*3+k]?=some t)(hb:∀i,i<j*3+k->namesF[i]?≠some t):namedM l=some j:=by
 have H5:=(List.getElem?_eq_some_iff.1 h);have:namesF.findIdx? (fun s=>decide (s=⟨(smallL l).toArray⟩))=some (j*3+k):=by
  rw[List.findIdx?_eq_some_iff_getElem];refine⟨H5.1,by rw[<-ht];simpa using H5.2,fun i hi=>?_⟩;rw[<-ht];simp only[decide_eq_true_eq];intro e;exact hb i hi (List.getElem?_eq_some_iff.2 ⟨Nat.lt_trans hi H5.1,e⟩)
 rw[namedM,if_neg hl,this];simp;omega
theorem yCj(l:List UInt8)(t:ByteArray)(ht:t=⟨(smallL l).toArray⟩)(hb:∀i,i<30->namesF[i]?≠some t):namedM l=none:=by
 have:namesF.findIdx? (fun s=>decide (s=⟨(smallL l).toArray⟩))=none:=by
  rw[List.findIdx?_eq_none_iff];intro x hx;rw[<-ht];simp only[decide_eq_false_iff_not];rintro rfl;obtain⟨i,hi,e⟩:=List.getElem_of_mem hx;exact hb i (by rw[<-y6S];exact hi) (List.getElem?_eq_some_iff.2 ⟨hi,e⟩)
 rw[namedM,this];split<;>rfl
theorem yF9(s:ByteArray)(w:World)(hs:s.size<=1073741824):Calls prog 182 #[.string s] w (y1O (namedM (bl s)) w):=by
 have k1:=fun w=>yE2 s w hs
 have k2:=fun w=>yF7 w
 obtain⟨t,ht⟩:∃t:ByteArray,t=⟨(smallL (bl s)).toArray⟩:=⟨_,rfl⟩;rw[<-ht]at k1;obtain⟨arr,Hd⟩:∃arr,arr=namesArr:=⟨_,rfl⟩;rw[<-Hd]at k2;have K1:=z7 k1;have K2:=z7 k2;have HT:=z7 ht;have Ho:=z7 Hd;clear k1 k2 ht Hd;have Hi:s.toList.isEmpty=(bl s).isEmpty:=by rw[ByteArray.toList_eq]
 by_cases he:bl s = []
 . have hR:namedM (bl s)=none:=by rw[namedM,if_pos he]
   rw[hR];have Hj:s.toList.isEmpty=true:=by rw[Hi,he];first|done|rfl
   clear Hi
   go_enter func182,ntmps182
   go_wp2_with fail
   refine bodyPost_ret (v:=.tuple #[.int .i64 0,.bool false]) (by simp[results,results182,go_sem]) rfl ?_;exact(show y1O _ _ _ _ from⟨rfl,z8⟩)
 . have Hj:s.toList.isEmpty=false:=by rw[Hi];cases h:bl s with|nil=>exact absurd h he|cons _ _=>rfl
   clear Hi;have Hb:=fun j k hk h hb=>yF8 (bl s) t HT.out he j k hk h hb
   have MISS:=fun hb=>yCj (bl s) t HT.out hb
   generalize namedM (bl s)=R at *;have He:=z7 Hb;have Hh:=z7 MISS;clear Hb MISS;clear he
   go_enter func182,ntmps182
   go_wp2_with (first
    | (go_at_call 269;refine(K1.out _).mono ?_;rintro e w1 ⟨rfl,Hu⟩)
    | (go_at_call 270;refine(K2.out _).mono ?_;rintro e w2 ⟨rfl,Ht⟩))
   have Hl:=bt Hu Ht
   go_loopw [13] (fun jv wr=>∃j:Nat,jv=.int .i64 (j:Int)/\j<=10/\Hid (∀i,i<j*3->namesF[i]?≠some t)/\Below w.heap.size w wr) (fun jv _=>10-(intOf jv).toNat)
   case atStart=>exact⟨0,rfl,by omega,z7 (fun i hi=>by omega),Hl⟩
   case round=>
    obtain⟨j,rfl,hj,Hp,Ha⟩:=hrel;by_cases Hr:j<10
    . obtain⟨s0,s1,s2,Hc,e0,e1,e2⟩:=yF6 j Hr
      rw[<-Ho.out]at Hc;have Hm:=z7 Hc;have E0:=z7 e0;have E1:=z7 e1;have E2:=z7 e2;clear Hc e0 e1 e2;have Hs:(j:Int)<10:=by omega
      go_wp2_with (refine zc rfl 285 _ _ rfl 10 284 underlying285 _ underlying284 rfl 3 info3 arr rfl .i64 j rfl Hr _ Hm.out ?_)
      rename World=>W6
      have i0:=fun w=>(idx3 s0 s1 s2 w).1
      have i1:=fun w=>(idx3 s0 s1 s2 w).2.1
      have i2:=fun w=>(idx3 s0 s1 s2 w).2.2
      have Hg:Below w.heap.size w (W6.alloc (.cells #[.string s0,.string s1,.string s2] 284)):=Ha.alloc Ha.size _;clear Ha
      go_loopw [18] (fun kv wr=>∃k:Nat,kv=.int .i64 (k:Int)/\k<=3/\Hid (∀i,i<j*3+k->namesF[i]?≠some t)/\Below w.heap.size w wr) (fun kv _=>3-(intOf kv).toNat)
      case atStart=>exact⟨0,rfl,by omega,Hp,Hg⟩
      case round=>
       obtain⟨k,rfl,hk,H7,H5⟩:=hrel;rcases(show k=0\/k=1\/k=2\/k=3 from by omega)with rfl|rfl|rfl|rfl
       . by_cases H8:s0=t
         . subst H8
           have hit:=He.out j 0 (by omega) E0.out H7.out;have Hb:=z7 hit;clear hit
           go_wp2_with fail
           refine bodyPost_ret (v:=.tuple #[.int .i64 j,.bool true]) (by simp[results,results182,go_sem]) rfl ?_;exact(show y1O _ _ _ _ from⟨by rw[Hb.out];rfl,H5⟩)
         . have H6:∀i,i<j*3+1->namesF[i]?≠some t:=fun i hi=>by
            rcases Nat.lt_or_ge i (j*3+0)with h|h
            . exact H7.out i h
            . rw[show i=j*3+0 from by omega]
              intro e;rw[show namesF[j*3+0]?=_ from E0.out]at e;exact H8 (zF e)
           have Hq:(s0.toList==t.toList)=false:=by
            simp only[beq_eq_false_iff_ne,ne_eq,ByteArray.toList_eq];exact fun e=>H8 (ByteArray.ext (Array.toList_inj.1 e))
           have H9:=z7 H6;clear H6
           go_wp2_with fail
           exact⟨⟨1,rfl,by omega,H9,H5⟩,by simp[intOf]⟩
       . by_cases H8:s1=t
         . subst H8
           have hit:=He.out j 1 (by omega) E1.out H7.out;have Hb:=z7 hit;clear hit
           go_wp2_with fail
           refine bodyPost_ret (v:=.tuple #[.int .i64 j,.bool true]) (by simp[results,results182,go_sem]) rfl ?_;exact(show y1O _ _ _ _ from⟨by rw[Hb.out];rfl,H5⟩)
         . have H6:∀i,i<j*3+2->namesF[i]?≠some t:=fun i hi=>by
            rcases Nat.lt_or_ge i (j*3+1)with h|h
            . exact H7.out i h
            . rw[show i=j*3+1 from by omega]
              intro e;rw[show namesF[j*3+1]?=_ from E1.out]at e;exact H8 (zF e)
           have Hq:(s1.toList==t.toList)=false:=by
            simp only[beq_eq_false_iff_ne,ne_eq,ByteArray.toList_eq];exact fun e=>H8 (ByteArray.ext (Array.toList_inj.1 e))
           have H9:=z7 H6;clear H6
           go_wp2_with fail
           exact⟨⟨2,rfl,by omega,H9,H5⟩,by simp[intOf]⟩
       . by_cases H8:s2=t
         . subst H8
           have hit:=He.out j 2 (by omega) E2.out H7.out;have Hb:=z7 hit;clear hit
           go_wp2_with fail
           refine bodyPost_ret (v:=.tuple #[.int .i64 j,.bool true]) (by simp[results,results182,go_sem]) rfl ?_;exact(show y1O _ _ _ _ from⟨by rw[Hb.out];rfl,H5⟩)
         . have H6:∀i,i<j*3+3->namesF[i]?≠some t:=fun i hi=>by
            rcases Nat.lt_or_ge i (j*3+2)with h|h
            . exact H7.out i h
            . rw[show i=j*3+2 from by omega]
              intro e;rw[show namesF[j*3+2]?=_ from E2.out]at e;exact H8 (zF e)
           have Hq:(s2.toList==t.toList)=false:=by
            simp only[beq_eq_false_iff_ne,ne_eq,ByteArray.toList_eq];exact fun e=>H8 (ByteArray.ext (Array.toList_inj.1 e))
           have H9:=z7 H6;clear H6
           go_wp2_with fail
           exact⟨⟨3,rfl,by omega,H9,H5⟩,by simp[intOf]⟩
       . have Hf:∀i,i<(j+1)*3->namesF[i]?≠some t:=fun i hi=>H7.out i (by omega)
         have Hn:=z7 Hf;clear Hf
         go_wp2_with fail
         exact⟨⟨j+1,by go_num,by omega,Hn,H5⟩,by simp[intOf];omega⟩
    . have Hk:j=10:=by omega
      subst Hk;have miss:=Hh.out Hp.out;have MISS:=z7 miss;clear miss
      go_wp2_with fail
      refine bodyPost_ret (v:=.tuple #[.int .i64 0,.bool false]) (by simp[results,results182,go_sem]) rfl ?_;exact(show y1O _ _ _ _ from⟨by rw[MISS.out];rfl,Ha⟩)
end Go.Proofs.YtndlekaahjccdaaGreatDoor
set_option maxHeartbeats 8000000
namespace Go.Proofs.YtndlekaahjccdaaGreatDoor
section
open Go.RowKit Go.Proofs.Tryz
noncomputable def tokC(c:Int):Tok:=if c<=3 then tokS (sgS (kgM (setS c)))else if c<=6 then tok2 c else if c=7 then tokU else tokW (decide (c=9))
theorem yIx(c:Int)(h:c<=3):tokC c=tokS (sgS (kgM (setS c))):=if_pos h
theorem y6s(c:Int)(h:4<=c)(h1:c<=6):tokC c=tok2 c:=by unfold tokC;rw[if_neg (by omega),if_pos h1]
theorem yIV:tokC 7=tokU:=by unfold tokC;rw[if_neg (by omega),if_neg (by omega),if_pos rfl]
theorem yIU(c:Int)(h:8<=c):tokC c=tokW (decide (c=9)):=by unfold tokC;rw[if_neg (by omega),if_neg (by omega),if_neg (by omega)]
noncomputable def decV(c:Int)(l:List UInt8):Value:=if 0<=c/\c<=9 then .tuple #[.string ⟨(decT (tokC c) l).1.toArray⟩,faultV (decT (tokC c) l).2]else .tuple #[.string ⟨#[]⟩,.agg #[.int .i64 5,.int .i64 0]]
def CDecPost(r:Value)(w:World)(e:Ending)(w':World):Prop:=e=.returned r/\Below w.heap.size w w'
theorem y1A(c:Int)(l:List UInt8)(h:0<=c/\c<=9):decV c l=.tuple #[.string ⟨(decT (tokC c) l).1.toArray⟩,faultV (decT (tokC c) l).2]:=if_pos h
theorem ua_bd:∀p∈pairsM ukS,0<=p.1/\0<=p.2/\p.2<=1114111:=by decide +kernel
theorem al_bd:∀p∈pairsM alS,0<=p.1/\0<=p.2/\p.2<=1114111:=by decide +kernel
theorem set_bd(c:Int):∀p∈pairsM (setS c),0<=p.1/\0<=p.2/\p.2<=1114111:=by
 unfold setS;split
 . exact la_bd
 . split
   . exact ko_bd
   . split
     . exact ua_bd
     . exact al_bd
theorem yJA(c:Int):(setS c).length<=1000:=by
 unfold setS;split
 . decide
 . split
   . decide +kernel
   . split
     . decide +kernel
     . decide +kernel
theorem yDG(c:Int)(b:ByteArray)(w:World)(hT:TW w)(hb:b.size<=1073741824)(h0:0<=c)(h1:c<=3):
 Calls prog 108 #[.int .i64 c,.string b] w (CDecPost (decV c (bl b)) w):=by
 rw[y1A c _ (by omega),yIx c h1];have k1:=fun w hT=>yEu c w hT h0 h1
 have k2:=fun v B w hT hX=>y51 v (setS c) B c b w hT hX (yE9 c) (yJA c) hb (set_bd c)
 obtain⟨f0,f1,hf⟩:=y1J (decT (tokS (sgS (kgM (setS c)))) (bl b)).2;rw[hf];unfold DecPost at k2;rw[hf]at k2;generalize (decT (tokS (sgS (kgM (setS c)))) (bl b)).1=t at *;clear hf;have Hc:=bal (Below.refl w.heap.size w) (.cells #[.int .i64 0,.int .i64 0] 40);have l0:=Live.fresh w #[.int .i64 0,.int .i64 0] 40 0 _ rfl;have l1:=Live.fresh w #[.int .i64 0,.int .i64 0] 40 1 _ rfl;have K1:=z7 k1;have K2:=z7 k2;have HT:=z7 hT;have He:=z7 Hc;have L0:=z7 l0;have L1:=z7 l1;clear k1 k2 hT Hc l0 l1;rcases(show c=0\/c=1\/c=2\/c=3 from by omega)with rfl|rfl|rfl|rfl
 all_goals (
  go_enter func108,ntmps108
  go_wp2_with fail
  refine(K1.out _ (HT.out.bel He.out)).mono ?_;rintro e w1 ⟨a1,c1,rfl,H9,H6⟩;have n0:=(L0.out.keep H6);have n1:=(L1.out.keep H6);have Ha:=bt He.out H6;have N0:=z7 n0;have N1:=z7 n1;have Hd:=z7 Ha;have Hf:=z7 H9;have Hg:=z7 H6;clear n0 n1 Ha H9 H6
  go_wp2_with fail
  refine(K2.out _ _ _ ((HT.out.bel Hd.out).alloc _) (Hf.out.bel (bal (z8) _))).mono ?_;rintro e w2 ⟨rfl,Hb⟩;have H5:=bt (bal (Below.refl w1.heap.size w1) _) Hb;obtain⟨a1,a2⟩:=N0.out.keep H5;obtain⟨a3,a4⟩:=N1.out.keep H5;have H7:=bt Hd.out H5;clear Hb H5;have H8:=z7 H7;clear H7
  go_wp2_with fail
  refine bodyPost_ret (v:=.tuple #[.string ⟨t.toArray⟩,.agg #[.int .i64 f0,.int .i64 f1]]) (by simp[results,results108,go_sem,a1,a2,a3,a4]) rfl ?_;exact(show CDecPost _ _ _ _ from⟨rfl,(H8.out.setCell (zA) _).setCell (zA) _⟩))
theorem yAb(c:Int)(b:ByteArray)(w:World)(hT:TW w)(hb:b.size<=1073741824)(h0:4<=c)(h1:c<=6):
 Calls prog 108 #[.int .i64 c,.string b] w (CDecPost (decV c (bl b)) w):=by
 rw[y1A c _ (by omega),y6s c h0 h1];have k1:=fun w hT=>y7u c b w hT hb
 obtain⟨f0,f1,hf⟩:=y1J (decT (tok2 c) (bl b)).2;rw[hf];unfold DecPost at k1;rw[hf]at k1;generalize (decT (tok2 c) (bl b)).1=t at *;clear hf;have H8:=bal (Below.refl w.heap.size w) (.cells #[.int .i64 0,.int .i64 0] 40);have l0:=Live.fresh w #[.int .i64 0,.int .i64 0] 40 0 _ rfl;have l1:=Live.fresh w #[.int .i64 0,.int .i64 0] 40 1 _ rfl;have K1:=z7 k1;have HT:=z7 hT;have H9:=z7 H8;have L0:=z7 l0;have L1:=z7 l1;clear k1 hT H8 l0 l1;rcases(show c=4\/c=5\/c=6 from by omega)with rfl|rfl|rfl
 all_goals (
  go_enter func108,ntmps108
  go_wp2_with fail
  refine(K1.out _ (HT.out.bel H9.out)).mono ?_;rintro e w2 ⟨rfl,H6⟩;obtain⟨a1,a2⟩:=L0.out.keep H6;obtain⟨a3,a4⟩:=L1.out.keep H6;have H5:=bt H9.out H6;clear H6;have H7:=z7 H5;clear H5
  go_wp2_with fail
  refine bodyPost_ret (v:=.tuple #[.string ⟨t.toArray⟩,.agg #[.int .i64 f0,.int .i64 f1]]) (by simp[results,results108,go_sem,a1,a2,a3,a4]) rfl ?_;exact(show CDecPost _ _ _ _ from⟨rfl,(H7.out.setCell (zA) _).setCell (zA) _⟩))
theorem y48(c:Int)(b:ByteArray)(w:World)(hb:b.size<=1073741824)(h0:8<=c)(h1:c<=9):
 Calls prog 108 #[.int .i64 c,.string b] w (CDecPost (decV c (bl b)) w):=by
 rw[y1A c _ (by omega),yIU c h0];have k1:=fun w=>y9S b (decide (c=9)) w hb
 obtain⟨f0,f1,hf⟩:=y1J (decT (tokW (decide (c=9))) (bl b)).2;rw[hf];rw[hf]at k1;generalize (decT (tokW (decide (c=9))) (bl b)).1=t at *;clear hf;have H8:=bal (Below.refl w.heap.size w) (.cells #[.int .i64 0,.int .i64 0] 40);have l0:=Live.fresh w #[.int .i64 0,.int .i64 0] 40 0 _ rfl;have l1:=Live.fresh w #[.int .i64 0,.int .i64 0] 40 1 _ rfl;rcases(show c=8\/c=9 from by omega)with rfl|rfl
 . simp only[show decide ((8:Int)=9)=false from rfl]at k1
   have K1:=z7 k1;have H9:=z7 H8;have L0:=z7 l0;have L1:=z7 l1;clear k1 H8 l0 l1
   go_enter func108,ntmps108
   go_wp2_with fail
   refine(K1.out _).mono ?_;rintro e w2 ⟨rfl,H6⟩;obtain⟨a1,a2⟩:=L0.out.keep H6;obtain⟨a3,a4⟩:=L1.out.keep H6;have H5:=bt H9.out H6;clear H6;have H7:=z7 H5;clear H5
   go_wp2_with fail
   refine bodyPost_ret (v:=.tuple #[.string ⟨t.toArray⟩,.agg #[.int .i64 f0,.int .i64 f1]]) (by simp[results,results108,go_sem,a1,a2,a3,a4]) rfl ?_;exact(show CDecPost _ _ _ _ from⟨rfl,(H7.out.setCell (zA) _).setCell (zA) _⟩)
 . simp only[show decide ((9:Int)=9)=true from rfl]at k1
   have K1:=z7 k1;have H9:=z7 H8;have L0:=z7 l0;have L1:=z7 l1;clear k1 H8 l0 l1
   go_enter func108,ntmps108
   go_wp2_with fail
   refine(K1.out _).mono ?_;rintro e w2 ⟨rfl,H6⟩;obtain⟨a1,a2⟩:=L0.out.keep H6;obtain⟨a3,a4⟩:=L1.out.keep H6;have H5:=bt H9.out H6;clear H6;have H7:=z7 H5;clear H5
   go_wp2_with fail
   refine bodyPost_ret (v:=.tuple #[.string ⟨t.toArray⟩,.agg #[.int .i64 f0,.int .i64 f1]]) (by simp[results,results108,go_sem,a1,a2,a3,a4]) rfl ?_;exact(show CDecPost _ _ _ _ from⟨rfl,(H7.out.setCell (zA) _).setCell (zA) _⟩)
theorem y9B(c:Int)(b:ByteArray)(w:World)(h:¬(0<=c/\c<=9)):
 Calls prog 108 #[.int .i64 c,.string b] w (CDecPost (decV c (bl b)) w):=by
 rw[show decV c (bl b)=.tuple #[.string ⟨#[]⟩,.agg #[.int .i64 5,.int .i64 0]] from if_neg h];have H5:=bal (Below.refl w.heap.size w) (.cells #[.int .i64 0,.int .i64 0] 40);have e0:(c==0)=false:=by simp;omega
 have e1:(c==1)=false:=by simp;omega
 have e2:(c==2)=false:=by simp;omega
 have e3:(c==3)=false:=by simp;omega
 have e4:(c==4)=false:=by simp;omega
 have e5:(c==5)=false:=by simp;omega
 have e6:(c==6)=false:=by simp;omega
 have e7:(c==7)=false:=by simp;omega
 have e8:(c==8)=false:=by simp;omega
 have e9:(c==9)=false:=by simp;omega
 have H6:=z7 H5;clear H5;clear h
 go_enter func108,ntmps108
 go_wp2_with fail
 refine bodyPost_ret (v:=.tuple #[.string ⟨#[]⟩,.agg #[.int .i64 5,.int .i64 0]]) (by simp[results,results108,go_sem]) rfl ?_;exact(show CDecPost _ _ _ _ from⟨rfl,bal (z8) _⟩)
theorem y9A(b:ByteArray)(w:World)(hT:TW w)(hb:b.size<=1073741824):
 Calls prog 108 #[.int .i64 7,.string b] w (CDecPost (decV 7 (bl b)) w):=by
 rw[y1A 7 _ (by omega),yIV,yIj];have k1:=fun w hT=>y98 b w hT (by omega)
 have k2:=fun a b w=>y0a a b w
 have Ha:=bal (Below.refl w.heap.size w) (.cells #[.int .i64 0,.int .i64 0] 40);have l0:=Live.fresh w #[.int .i64 0,.int .i64 0] 40 0 _ rfl;have l1:=Live.fresh w #[.int .i64 0,.int .i64 0] 40 1 _ rfl;unfold decU;have H9:(⟨(bl b).toArray⟩:ByteArray)=b:=y1Z b;generalize (scanL (bl b)).2=o at *;have K1:=z7 k1;have K2:=z7 k2;have H7:=z7 Ha;have L0:=z7 l0;have L1:=z7 l1;have HT:=z7 hT;have Hd:=z7 H9;clear k1 k2 Ha l0 l1 hT H9;cases o with
 | some k=>
  simp only[faultV]at K1 ⊢
  go_enter func108,ntmps108
  go_wp2_with fail
  refine(K1.out _ (HT.out.bel H7.out)).mono ?_;rintro e w1 ⟨rfl,H6⟩
  go_wp2_with (go_at_call 11;refine(K2.out _ _ _).mono ?_;rintro e w2 ⟨rfl,H5⟩)
  have q0:=(Live.fresh w1 #[.int .i64 2,.int .i64 k] 40 0 _ rfl).keep H5;have q1:=(Live.fresh w1 #[.int .i64 2,.int .i64 k] 40 1 _ rfl).keep H5;have p0:=((L0.out.keep H6).alloc (.cells #[.int .i64 2,.int .i64 k] 40)).keep H5;have p1:=((L1.out.keep H6).alloc (.cells #[.int .i64 2,.int .i64 k] 40)).keep H5;have H8:Below w.heap.size w w2:=H7.out.trans ((bt (bal (bt (z8) H6) _) H5).mono H7.out.size);clear H6 H5;have g0:=fun x:Grown w2=>x.cell q0.1
  have g1:=fun x:Grown w2=>x.cell q1.1
  refine y02 2 (by kernel_rfl) (by kernel_rfl) ?_;simp only[List.take_succ_cons,List.take_zero,List.drop_succ_cons,List.drop_zero]
  repeat (first|go_big_quiet_step (fail)|quiet_step (fail))
  refine wpQuiet_nil ?_;intro _ Hb;obtain⟨xg,rfl⟩:=Hb;obtain⟨a1,a2⟩:=p0.keep xg.bel;obtain⟨a3,a4⟩:=p1.keep xg.bel;have Hc:=H8.trans (xg.bel.mono H8.size);clear g0 g1;generalize xg.wd=W at *
  go_wp2_with fail
  refine bodyPost_ret (v:=.tuple #[.string ⟨#[]⟩,.agg #[.int .i64 2,.int .i64 k]]) (by simp[results,results108,go_sem,a1,a2,a3,a4]) rfl ?_;exact(show CDecPost _ _ _ _ from⟨rfl,(Hc.setCell (zA) _).setCell (zA) _⟩)
 | none=>
  simp only[faultV]at K1 ⊢;rw[Hd.out]
  go_enter func108,ntmps108
  go_wp2_with fail
  refine(K1.out _ (HT.out.bel H7.out)).mono ?_;rintro e w1 ⟨rfl,H6⟩
  go_wp2_with (go_at_call 11;refine(K2.out _ _ _).mono ?_;rintro e w2 ⟨rfl,H5⟩;obtain⟨a1,a2⟩:=((L0.out.keep H6).alloc (.cells #[.int .i64 0,.int .i64 0] 40)).keep H5;obtain⟨a3,a4⟩:=((L1.out.keep H6).alloc (.cells #[.int .i64 0,.int .i64 0] 40)).keep H5)
  have H8:Below w.heap.size w w2:=H7.out.trans ((bt (bal (bt (z8) H6) _) H5).mono H7.out.size);refine bodyPost_ret (v:=.tuple #[.string b,.agg #[.int .i64 0,.int .i64 0]]) (by simp[results,results108,go_sem,a1,a2,a3,a4]) rfl ?_;exact(show CDecPost _ _ _ _ from⟨rfl,(H8.setCell (zA) _).setCell (zA) _⟩)
theorem y0y(c:Int)(b:ByteArray)(w:World)(hT:TW w)(hb:b.size<=1073741824):
 Calls prog 108 #[.int .i64 c,.string b] w (CDecPost (decV c (bl b)) w):=by
 by_cases h:0<=c/\c<=9
 . by_cases h3:c<=3
   . exact yDG c b w hT hb h.1 h3
   . by_cases h6:c<=6
     . exact yAb c b w hT hb (by omega) h6
     . by_cases h7:c=7
       . subst h7;exact y9A b w hT hb
       . exact y48 c b w hb (by omega) h.2
 . exact y9B c b w h
end
section
open Go.Proofs.Tryz
def yK6(tok:Tok):Prop:=∀l t k,tok l=some (t,k)->t.length<=64*k/\k<=l.length
theorem yCP{tok:Tok}(S:yK6 tok):∀(f:Nat) (l:List UInt8) (n:Nat) (acc:List UInt8),(runT tok f l n acc).1.length<=acc.length+64*l.length:=by
 intro f
 induction f with
 | zero=>intro l n acc;simp[runT]
 | succ f ih=>
  intro l n acc;by_cases hl:l = []
  . subst hl;simp[runT]
  . cases ht:tok l with
    | none=>rw[y0o f l n acc hl ht];simp
    | some p=>
     obtain⟨t,k⟩:=p;have h1:=S l t k ht;rw[y05 f l n acc t k hl ht];have:=ih (l.drop k) (n+k) (acc++t);rw[List.length_drop,zH]at this;omega
theorem yD3{tok:Tok}(S:yK6 tok)(l:List UInt8):(decT tok l).1.length<=64*l.length:=by
 have:=yCP S l.length l 0 [];simpa[decT]using this
theorem yJ7(c:Int):yK6 (tokC c):=by
 intro l t k h;unfold tokC at h;split at h
 . unfold tokS at h
   cases l with
   | nil=>cases h
   | cons b r=>
    simp only[Option.map_eq_some_iff,Prod.mk.injEq]at h;obtain⟨u,hu,rfl,rfl⟩:=h;unfold sgS at hu;split at hu
    . simp only[Option.some.injEq]at hu
      rw[<-hu];have:=(y1e ((kgM (setS c)).2.getD b.toNat 0)).2;simp only[List.length_cons];omega
    . cases hu
 . split at h
   . unfold tok2 at h
     match l,h with
     | [b],h=>
      simp only[tokD]at h;split at h
      . simp only[Option.some.injEq,Prod.mk.injEq]at h
        obtain⟨rfl,rfl⟩:=h;simp
      . cases h
     | b::y::r,h=>
      simp only[tokD]at h;split at h
      . simp only[Option.some.injEq,Prod.mk.injEq]at h
        obtain⟨rfl,rfl⟩:=h;simp
      . split at h
        . cases h
        . simp only[Option.some.injEq,Prod.mk.injEq]at h
          obtain⟨rfl,rfl⟩:=h;have:=y8E c b y;simp only[List.length_cons];omega
   . split at h
     . have:=near_U.pos l t k h
       unfold tokU at h;split at h
       . cases h
       . simp only[Option.some.injEq,Prod.mk.injEq]at h
         obtain⟨rfl,rfl⟩:=h;have:=y0A l;rw[List.length_take];omega
     . unfold tokW at h
       split at h
       . cases h
       . rename_i hz
         simp only[Option.some.injEq,Prod.mk.injEq]at h;obtain⟨rfl,rfl⟩:=h;have h1:=yAo (decide (c=9)) l;have h2:=(y1e (wsign (decide (c=9)) l).1).2;omega
end
open Go.RowKit Go.Proofs.Tryz
theorem yH3:signsM 4 176 161 = [234,176,128]:=by
 have h1:signsM 4 176 161=if(wSignM 176 161).2=true then(textM [(wSignM 176 161).1]).1 else []:=rfl
 rw[h1,yIr]
 decide +kernel
theorem yJy:decT (tok2 4) [97,176,161]=([97,234,176,128],none):=by
 have e1:tok2 4 [97,176,161]=some ([97],1):=rfl;have e2:tok2 4 [176,161]=some ([234,176,128],2):=by
  show(if(176:UInt8)<128 then some ([176],1)else if signsM 4 176 161 = []then none else some (signsM 4 176 161,2))=_;rw[yH3];rfl
 unfold decT;rw[show([97,176,161]:List UInt8).length=2+1 from rfl,y05 (tok:=tok2 4) 2 _ 0 [] _ _ (by simp) e1];rw[show([97,176,161]:List UInt8).drop 1 = [176,161] from rfl,y05 (tok:=tok2 4) 1 _ _ _ _ _ (by simp) e2];rfl
theorem yIJ:decT (tok2 4) [97,176]=([],some 1):=by
 have e1:tok2 4 [97,176]=some ([97],1):=rfl;have e2:tok2 4 [176]=none:=rfl;unfold decT;rw[show([97,176]:List UInt8).length=1+1 from rfl,y05 (tok:=tok2 4) 1 _ 0 [] _ _ (by simp) e1];rw[show([97,176]:List UInt8).drop 1 = [176] from rfl,y0o (tok:=tok2 4) 0 _ _ _ (by simp) e2]
theorem yJc:namedM (bl ⟨#[85,84,70,56]⟩)=some 7:=by decide +kernel
theorem y5k(w:World)(hT:TW w):Calls prog 132 #[] w fun e w'=>e=.returned (.bool true)/\Below w.heap.size w w':=by
 have k1:∀w,TW w->Calls prog 108 #[.int .i64 4,.string ⟨#[97,176,161]⟩] w fun e w'=>e=.returned (.tuple #[.string ⟨#[97,234,176,128]⟩,.agg #[.int .i64 0,.int .i64 0]])/\Below w.heap.size w w':=fun w hT=>by
  have h:=y0y 4 ⟨#[97,176,161]⟩ w hT (by decide);rw[y1A 4 _ (by omega),y6s 4 (by omega) (by omega),show bl ⟨#[97,176,161]⟩ = [97,176,161] from rfl,yJy]at h;exact h
 have k2:∀w,TW w->Calls prog 108 #[.int .i64 4,.string ⟨#[97,176]⟩] w fun e w'=>e=.returned (.tuple #[.string ⟨#[]⟩,.agg #[.int .i64 2,.int .i64 1]])/\Below w.heap.size w w':=fun w hT=>by
  have h:=y0y 4 ⟨#[97,176]⟩ w hT (by decide);rw[y1A 4 _ (by omega),y6s 4 (by omega) (by omega),show bl ⟨#[97,176]⟩ = [97,176] from rfl,yIJ]at h;exact h
 have k3:∀w,Calls prog 182 #[.string ⟨#[85,84,70,56]⟩] w fun e w'=>e=.returned (.tuple #[.int .i64 7,.bool true])/\Below w.heap.size w w':=fun w=>by
  have h:=yF9 ⟨#[85,84,70,56]⟩ w (by decide);rw[yJc]at h;exact h
 have k4:=fun w hT=>y2x w hT
 have k5:=fun w hT=>y5o w hT
 have k6:=fun w=>y5n w
 have k7:=fun w hT=>y5m w hT
 have k8:=fun w hT=>y5l w hT
 have kB:∀w,Calls prog 11 #[.agg #[.int .i64 0,.int .i64 0]] w fun e w'=>e=.returned (.bool false)/\Below w.heap.size w w':=fun w=>y0a 0 0 w
 have kE:=yAT 2 1 2 1;have kG:=fun op x y w=>y3h op x y #[.int .i64 2,.int .i64 1] #[.int .i64 2,.int .i64 1] w
 have K1:=z7 k1;have K2:=z7 k2;have K3:=z7 k3;have K4:=z7 k4;have K5:=z7 k5;have K6:=z7 k6;have K7:=z7 k7;have K8:=z7 k8;have KB:=z7 kB;clear k1 k2 k3 k4 k5 k6 k7 k8 kB
 go_enter func132,ntmps132
 go_wp2_with fail
 refine(K1.out _ hT).mono ?_;rintro e w1 ⟨rfl,Hc⟩;have Ha:=bal Hc (.cells #[.int .i64 0,.int .i64 0] 40);have f0:(w1.alloc (.cells #[.int .i64 0,.int .i64 0] 40)).cell? ⟨w1.heap.size,0,none⟩=some (.int .i64 0):=by go_simp
 have f1:(w1.alloc (.cells #[.int .i64 0,.int .i64 0] 40)).cell? ⟨w1.heap.size,1,none⟩=some (.int .i64 0):=by go_simp
 have F0:=z7 f0;have F1:=z7 f1;clear f0 f1
 go_wp2_with fail
 refine(K2.out _ (hT.bel Ha)).mono ?_;rintro e w2 ⟨rfl,H9⟩;have H8:=bal (Below.refl w2.heap.size w2) (.cells #[.int .i64 2,.int .i64 1] 40);have Hb:=bt (bt Ha H9) H8;have f0:=kc H8 (kc H9 F0.out);have f1:=kc H8 (kc H9 F1.out);have g0:(w2.alloc (.cells #[.int .i64 2,.int .i64 1] 40)).cell? ⟨w2.heap.size,0,none⟩=some (.int .i64 2):=by go_simp
 have g1:(w2.alloc (.cells #[.int .i64 2,.int .i64 1] 40)).cell? ⟨w2.heap.size,1,none⟩=some (.int .i64 1):=by go_simp
 have Hd:=z7 Hb;clear Hb;clear Ha Hc H9 H8
 go_wp2_with (first
  | (go_at_call 182;refine(K3.out _).mono ?_;rintro e w3 ⟨rfl,H7⟩;have H6:=bt Hd.out H7;have f0:=kc H7 f0;have f1:=kc H7 f1;have g0:=kc H7 g0;have g1:=kc H7 g1)
  | (go_at_call 128;refine(K4.out _ (hT.bel H6)).mono ?_;rintro e w4 ⟨rfl,H5⟩;have H6:=bt H6 H5;have f0:=kc H5 f0;have f1:=kc H5 f1;have g0:=kc H5 g0;have g1:=kc H5 g1)
  | (go_at_call 211;refine(K5.out _ (hT.bel H6)).mono ?_;rintro e w4 ⟨rfl,H5⟩;have H6:=bt H6 H5;have f0:=kc H5 f0;have f1:=kc H5 f1;have g0:=kc H5 g0;have g1:=kc H5 g1)
  | (go_at_call 212;refine(K6.out _).mono ?_;rintro e w4 ⟨rfl,H5⟩;have H6:=bt H6 H5;have f0:=kc H5 f0;have f1:=kc H5 f1;have g0:=kc H5 g0;have g1:=kc H5 g1)
  | (go_at_call 213;refine(K7.out _ (hT.bel H6)).mono ?_;rintro e w4 ⟨rfl,H5⟩;have H6:=bt H6 H5;have f0:=kc H5 f0;have f1:=kc H5 f1;have g0:=kc H5 g0;have g1:=kc H5 g1)
  | (go_at_call 214;refine(K8.out _ (hT.bel H6)).mono ?_;rintro e w4 ⟨rfl,H5⟩;have H6:=bt H6 H5;have f0:=kc H5 f0;have f1:=kc H5 f1;have g0:=kc H5 g0;have g1:=kc H5 g1)
  | (go_at_call 11;refine(KB.out _).mono ?_;rintro e w4 ⟨rfl,H5⟩;have H6:=bt H6 H5;have g0:=kc H5 g0;have g1:=kc H5 g1))
 go_ret
 exact⟨rfl,H6⟩
def yFZ:Nat->List UInt8->List Int
 | 0,_=>[]
 | f+1,l=>hexAt l 0 4::yFZ f (l.drop 5)
def hexPts(l:List UInt8):List Int:=yFZ (l.length/5) l
def conv(s:Int×Int×ByteArray):Int×Int×List Int:=(s.1,b5cell s.2.1,hexPts (bl s.2.2))
def ncells(l:List Int):List Value:=l.map fun n=>Value.int .i64 n
def OwnN(w:World)(B:Nat)(v:Value)(l:List Int):Prop:=w.ownsRow B 3 1 v l.length (ncells l)
section
variable {P:Program} {ops:Array Oper} {o:Oper} {a:Act} {K:Act->World->Prop} {Q:Exit->Act->World->Prop} {E:Prop}
end
def scells(l:List ByteArray):List Value:=l.map Value.string
theorem yHB(w:World)(cs:Array Value)(t:TypeId):Row (w.alloc (.cells cs t)) (.slice (some ⟨w.heap.size,0,none⟩) cs.size cs.size) cs.size cs.toList:=by
 refine⟨_,_,rfl,fun j x hj=>⟨w.heap.size,0,rfl,?_⟩⟩;rw[Nat.zero_add,World.cell?_alloc_new];simpa using hj
theorem y0X{w:World}{v:Value}{n:Nat}{cs:List Value}(h:Row w v n cs)(j:Nat)(x:Value)(hj:cs[j]?=some x):∃g o cap,v=.slice (some ⟨g,o,none⟩) n cap/\w.cell? ⟨g,o+j,none⟩=some x:=by
 obtain⟨a,cap,rfl,h⟩:=h;obtain⟨g,o,rfl,hc⟩:=h j x hj;exact⟨g,o,cap,rfl,hc⟩
def IsL(t:List UInt8):Prop:=∃ps:List Int,t=encL ps/\∀p∈ps,Scal p
