/- Wb -/
import Derived.Test.YtagjkmkmphamoaaGreatDoorPWa
import Derived.Test.YtagjkmkmphamoaaGreatDoorPWi
import Derived.Test.YtagjkmkmphamoaaGreatDoorPJo
set_option linter.all false
set_option maxHeartbeats 2000000
namespace Go.Proofs.YtagjkmkmphamoaaGreatDoor
open Go.RowKit
noncomputable def wRow(k:Nat):ByteArray:=constAt Tryz.f221 k 1
noncomputable def wRowL(lead:Int):ByteArray:=if lead=161 then wRow 4 else if lead=162 then wRow 6 else if lead=166 then wRow 8 else⟨#[]⟩
theorem vp9:(wRow 4).size=470∧(wRow 6).size=355∧(wRow 8).size=340:=by
 refine⟨?_,?_,?_⟩<;>kernel_rfl
theorem qr1{a b:ByteArray}{x:Int}(h:a=b):Ending.returned (.tuple #[.string a,.int .i64 x])=.returned (.tuple #[.string b,.int .i64 x]):=by rw[h]
set_option maxRecDepth 100000 in
theorem vh9(lead:Int)(w:World)(h0:0≤lead)(h1:lead≤255):
 Calls Tryz.prog 221 #[.int .i64 lead] w fun e w'=>e=.returned (.tuple #[.string (wRowL lead),.int .i64 (lead*256+161)])∧w=w':=by
 have e1:bits .or .i64 (lead*256) 161=lead*256+161:=jw3 _ _ (by omega) (by omega) (by omega) (by omega) (by omega);by_cases a:lead=161
 · subst a
   go_enter Tryz.func221,Tryz.ntmps221
   go_wp2
   go_ret2
   exact⟨qr1 (by kernel_rfl),rfl⟩
 by_cases b:lead=162
 · subst b
   go_enter Tryz.func221,Tryz.ntmps221
   go_wp2
   go_ret2
   exact⟨qr1 (by kernel_rfl),rfl⟩
 by_cases c:lead=166
 · subst c
   go_enter Tryz.func221,Tryz.ntmps221
   go_wp2
   go_ret2
   exact⟨qr1 (by kernel_rfl),rfl⟩
 have hr:wRowL lead=⟨#[]⟩:=by unfold wRowL;rw[if_neg a,if_neg b,if_neg c]
 rw[hr];clear hr;have a':(lead==161)=false:=by simpa using a
 have b':(lead==162)=false:=by simpa using b
 have c':(lead==166)=false:=by simpa using c
 clear a b c
 go_enter Tryz.func221,Tryz.ntmps221
 go_wp2
 go_ret2
 exact⟨rfl,rfl⟩
def hexv(c:UInt8):Int:=Lib.indexByte [48,49,50,51,52,53,54,55,56,57,65,66,67,68,69,70] c
theorem kd8(c:UInt8)(w:World):
 Calls Tryz.prog 215 #[.string ⟨#[48,49,50,51,52,53,54,55,56,57,65,66,67,68,69,70]⟩,.int .u8 (c.toNat:Int)] w fun e w'=>e=.returned (.int .i64 (hexv c))∧w=w':=by
 refine(Tryz.strings_IndexByte _ _ w).mono fun e w' h=>?_
 refine⟨?_,h.2.symm⟩;rw[h.1];unfold hexv;simp
def hexAt(l:List UInt8)(k:Nat):Nat→Int
 | 0=>0
 | j+1=>hexAt l k j*16+hexv (l.getD (k*5+j) 0)
def HexList(l:List UInt8):Prop:=∀k j,k*5+j<l.length→j<4→0≤hexv (l.getD (k*5+j) 0)∧hexv (l.getD (k*5+j) 0)≤15
theorem kh2(l:List UInt8)(k j:Nat)(h:HexList l)(hk:k*5+j≤l.length)(hj:j≤4):0≤hexAt l k j∧hexAt l k j<16^j:=by
 induction j with
 | zero=>simp[hexAt]
 | succ j ih=>
  have h1:=ih (by omega) (by omega);have h2:=h k j (by omega) (by omega);have h3:(16:Int)^(j+1)=16^j*16:=by rw[Int.pow_succ]
  rw[hexAt,h3];generalize (16:Int)^j=q at *;omega
theorem qt0(x y:Int)(hx₀:0≤x)(hx:x%16=0)(hx₁:x<2147483648)(hy₀:0≤y)(hy:y<16):bits .or .i32 x y=x+y:=
 bits_join .i32 31 (by decide) wraps_i32 4 x y hx₀ hx hx₁ hy₀ hy (by omega)
set_option maxRecDepth 100000 in
theorem wat_any(s:ByteArray)(k:Int)(w:World)(hs:s.size≤1000000)(hH:HexList (bl s))(hk0 : -100000≤k)(hk1:k≤1000000):
 Calls Tryz.prog 235 #[.string s,.int .i64 k] w fun e w'=>
  e=.returned (.tuple #[.int .i32 (if k<0∨((bl s).length/5:Nat)≤k then 0 else hexAt (bl s) k.toNat 4),.bool (!decide (k<0∨((bl s).length/5:Nat)≤k))])∧w=w':=by
 have hL:=jb1 s;rw[hL];by_cases hb:k<0∨((s.size/5:Nat):Int)≤k
 · rw[if_pos hb,decide_eq_true hb]
   rcases hb with h|h
   · clear hL hH
     go_enter Tryz.func235,Tryz.ntmps235
     go_wp2
     go_ret2
     exact⟨rfl,rfl⟩
   · have hq:(s.size:Int)/5≤k:=by omega
     have h0:0≤k:=by omega
     clear hL hH h
     go_enter Tryz.func235,Tryz.ntmps235
     go_wp2
     go_ret2
     exact⟨rfl,rfl⟩
 · rw[if_neg hb,decide_eq_false hb]
   obtain⟨k,rfl⟩:=Int.eq_ofNat_of_zero_le (show 0≤k from by omega);have hq:(k:Int)<(s.size:Int)/5:=by omega
   rw[Int.toNat_natCast];have HH:=Lib.hid hH;have HL:=Lib.hid hL;clear hH hb hk0 hL
   go_enter Tryz.func235,Tryz.ntmps235
   go_wp2
   go_loop [6,7] (fun p i=>∃j:Nat,j≤4∧i=.int .i64 ((k:Int)*5+j)∧p=.int .i32 (hexAt (bl s) k j)) (fun _ i=>(k*5+4-intOf i).toNat)
   case atStart=>exact⟨0,by omega,by simp,rfl⟩
   case round=>
    obtain⟨j,hj,rfl,rfl⟩:=hrel;by_cases hlt:j<4
    · have hlen:k*5+j<s.size:=by omega
      obtain⟨h0,h1⟩:=kh2 (bl s) k j HH.out (by rw[HL.out];omega) hj;have h2:(16:Int)^j≤4096:=by
       match j,hlt with
       | 0,_=>decide
       | 1,_=>decide
       | 2,_=>decide
       | 3,_=>decide
      have h3:hexAt (bl s) k j<4096:=by omega
      obtain⟨d0,d1⟩:=HH.out k j (by rw[HL.out];omega) hlt;have hs1:hexAt (bl s) k (j+1)=hexAt (bl s) k j*16+hexv ((bl s).getD (k*5+j) 0):=rfl;have hx:AtB s (k*5+j) ((bl s).getD (k*5+j) 0):=by
       apply jc7;have hlen':k*5+j<(bl s).length:=by rw[HL.out];exact hlen
       rw[List.getD_eq_getElem?_getD,List.getElem?_eq_getElem hlen'];rfl
      generalize (bl s).getD (k*5+j) 0=c at *;have c1:=fun w=>kd8 c w
      have X:∀h,s[k*5+j]'h=c:=hx;generalize hexAt (bl s) k j=p at *;generalize hexv c=d at *;have e1:bits .or .i32 (p*16) d=p*16+d:=qt0 _ _ (by omega) (by omega) (by omega) (by omega) (by omega);have C1:=Lib.hid c1;have HS:=Lib.hid hs1;have HX:=Lib.hid hx;clear c1 hs1 h1 h2 hx
      go_wp2_with (go_at_call 215;with_reducible refine(C1.out _).mono ?_;rintro e w' ⟨rfl,rfl⟩)
      go_round
      case rel=>exact⟨j+1,by omega,by go_num,by rw[HS.out]⟩
      case measure=>simp[intOf];omega
    · have hj4:j=4:=by omega
      subst hj4
      go_wp2
      go_ret2
      exact⟨rfl,rfl⟩
def wSpans:List (Int×Int×Int):=
 [(41889,65281,59),(41948,65510,1),(41949,65341,33),(41982,65507,1),(42145,12593,94),(42401,8560,10),(42416,8544,10),(42433,913,17),(42450,931,7),(42465,945,17),
  (42482,963,7),(43681,12353,83),(43937,12449,86),(44193,1040,6),(44199,1025,1),(44200,1046,26),(44241,1072,6),(44247,1105,1),(44248,1078,26)]
def spanCells(l:List (Int×Int×Int)):List Value:=l.flatMap fun s=>[.int .i64 s.1,.int .i32 s.2.1,.int .i64 s.2.2]
theorem qf5(l:List (Int×Int×Int))(i:Nat)(s:Int×Int×Int)(h:l[i]?=some s):
 (spanCells l)[i*3]?=some (.int .i64 s.1)∧(spanCells l)[i*3+1]?=some (.int .i32 s.2.1)∧(spanCells l)[i*3+2]?=some (.int .i64 s.2.2):=by
 induction l generalizing i with
 | nil=>simp at h
 | cons a l ih=>
  cases i with
  | zero=>simp at h;subst h;exact⟨rfl,rfl,rfl⟩
  | succ i=>
   have:=ih i (by simpa using h);have e:spanCells (a::l)=.int .i64 a.1::.int .i32 a.2.1::.int .i64 a.2.2::spanCells l:=rfl;rw[e,show(i+1)*3=i*3+1+1+1 from by omega];simpa using this
set_option maxRecDepth 100000 in
theorem vd0(w:World):
 Calls Tryz.prog 223 #[] w fun e w'=>e=.returned (.slice (some ⟨w.heap.size,0,none⟩) 19 19)∧Below w.heap.size w w' ∧
  ∀i s,wSpans[i]?=some s→w'.cell? ⟨w.heap.size,i*3,none⟩=some (.int .i64 s.1)∧w'.cell? ⟨w.heap.size,i*3+1,none⟩=some (.int .i32 s.2.1)∧w'.cell? ⟨w.heap.size,i*3+2,none⟩=some (.int .i64 s.2.2):=by
 go_enter Tryz.func223,Tryz.ntmps223
 go_wp2
 go_ret
 refine⟨rfl,(Below.refl _ _).alloc (Nat.le_refl _) _,?_⟩;intro i s hs;obtain⟨e1,e2,e3⟩:=qf5 wSpans i s hs;change (w.alloc (.cells (spanCells wSpans).toArray 275)).cell? _=_∧(w.alloc (.cells (spanCells wSpans).toArray 275)).cell? _=_∧(w.alloc (.cells (spanCells wSpans).toArray 275)).cell? _=_;rw[World.cell?_alloc_new,World.cell?_alloc_new,World.cell?_alloc_new,List.getElem?_toArray,List.getElem?_toArray,List.getElem?_toArray];exact⟨e1,e2,e3⟩
def inSpan(code:Int)(s:Int×Int×Int):Bool:=decide (s.1≤code∧code<s.1+s.2.2)
def atM(l:List UInt8)(k:Int):Int×Bool:=(if k<0∨(l.length/5:Nat)≤k then 0 else hexAt l k.toNat 4,!decide (k<0∨(l.length/5:Nat)≤k))
def spanSign(code:Int):Option (Int×Int×Int)→Int×Bool
 | some s=>(s.2.1+(code-s.1),true)
 | none=>(0,false)
noncomputable def otherM(code:Int):Int×Bool:=if code%256<161∨254<code%256 then(0,false)
 else if bl (wRowL (code/256)) ≠ []then atM (bl (wRowL (code/256))) (code-(code/256*256+161))
 else spanSign code (wSpans.find? (inSpan code))
theorem vp8:∀s∈wSpans,0≤s.1∧s.1<65536∧0≤s.2.1∧s.2.1<65536∧0≤s.2.2∧s.2.2≤100:=by decide
theorem jm7:wSpans.length=19:=rfl
def hexListB(l:List UInt8):Bool:=(List.range (l.length/5+1)).all fun k=>(List.range 4).all fun j=>decide (l.length≤k*5+j) || (decide (0≤hexv (l.getD (k*5+j) 0))&&decide (hexv (l.getD (k*5+j) 0)≤15))
theorem kc3(l:List UInt8)(h:hexListB l=true):HexList l:=by
 intro k j hk hj;unfold hexListB at h;rw[List.all_eq_true]at h;have h1:=h k (by rw[List.mem_range];omega);rw[List.all_eq_true]at h1;have h2:=h1 j (by rw[List.mem_range];exact hj);simp only[Bool.or_eq_true,decide_eq_true_eq,Bool.and_eq_true]at h2;rcases h2 with h2|h2
 · omega
 · exact h2
theorem wRow_hex:hexListB (bl (wRow 4))=true∧hexListB (bl (wRow 6))=true∧hexListB (bl (wRow 8))=true:=by
 refine⟨?_,?_,?_⟩<;>decide +kernel
theorem vq0(lead:Int):HexList (bl (wRowL lead))∧(wRowL lead).size≤470:=by
 obtain⟨a,b,c⟩:=wRow_hex;obtain⟨a',b',c'⟩:=vp9;unfold wRowL;split
 · exact⟨kc3 _ a,by omega⟩
 split
 · exact⟨kc3 _ b,by omega⟩
 split
 · exact⟨kc3 _ c,by omega⟩
 · exact⟨fun k j h _=>by simp[bl]at h,by decide⟩
set_option maxRecDepth 100000 in
theorem vw4(code:Int)(w:World)(h0:0≤code)(h1:code<65536):
 Calls Tryz.prog 219 #[.int .i64 code] w fun e w'=>e=.returned (.tuple #[.int .i32 (otherM code).1,.bool (otherM code).2])∧Below w.heap.size w w':=by
 have e1:bits .and .i64 code 255=code%256:=vj6 _ (by omega) (by omega);have hm:otherM code=if code%256<161∨254<code%256 then(0,false)
  else if bl (wRowL (code/256)) ≠ []then atM (bl (wRowL (code/256))) (code-(code/256*256+161))else spanSign code (wSpans.find? (inSpan code)):=rfl
 by_cases hr:code%256<161∨254<code%256
 · rw[if_pos hr]at hm
   rw[hm];rcases hr with h|h
   all_goals (
    clear hm
    go_enter Tryz.func219,Tryz.ntmps219
    go_wp2_with fail
    go_ret2
    exact⟨rfl,Below.refl _ _⟩)
 · rw[if_neg hr]at hm
   obtain⟨r0,r1⟩:161≤code%256∧code%256≤254:=by omega
   clear hr;have c1:=fun w=>vh9 (code/256) w (by omega) (by omega)
   obtain⟨hH,hS⟩:=vq0 (code/256);by_cases he:bl (wRowL (code/256)) = []
   · rw[if_neg (by simp[he])]at hm
     have hE:wRowL (code/256)=⟨#[]⟩:=by rw[←js2 (wRowL (code/256))];unfold bl at he;rw[he]
     rw[hE]at c1;clear he hH hS hE;have C1:=Lib.hid c1;have HM:=Lib.hid hm;clear c1 hm
     go_enter Tryz.func219,Tryz.ntmps219
     go_wp2_with fail
     with_reducible refine(C1.out _).mono ?_
     rintro e w' ⟨rfl,rfl⟩
     go_wp2_with fail
     refine(vd0 w).mono ?_;rintro e W ⟨rfl,hb,hcells⟩;have HC:=Lib.hid hcells;clear hcells
     go_wp2_with fail
     go_loopw [33] (fun t wr=>∃i:Nat,t=.int .i64 (i:Int)∧i≤19∧Hid (wSpans.find? (inSpan code)=(wSpans.drop i).find? (inSpan code))∧Below W.heap.size W wr) (fun t _=>(19-intOf t).toNat)
     case atStart=>exact⟨0,rfl,by omega,rfl,Below.refl _ _⟩
     case round=>
      obtain⟨i,rfl,hi,hf,hbel⟩:=hrel;have hbw:=hb.trans (hbel.mono hb.size);by_cases hlt:i<19
      · have hget:wSpans[i]?=some (wSpans[i]'(by rw[jm7];exact hlt)):=List.getElem?_eq_getElem _
        have hdrop:wSpans.drop i=wSpans[i]'(by rw[jm7];exact hlt)::wSpans.drop (i+1):=List.drop_eq_getElem_cons _;have hbd:=vp8 _ (List.getElem_mem (by rw[jm7];exact hlt));generalize wSpans[i]'(by rw[jm7];exact hlt)=s at *;obtain⟨y1,y2,y3⟩:=HC.out i s hget;obtain⟨a,b,c⟩:=s;simp only at y1 y2 y3 hbd;obtain⟨b1,b2,b3,b4,b5,b6⟩:=hbd;have z1:=kc hbel y1;have z2:=kc hbel y2;have z3:=kc hbel y3;have hff:=hf.out;rw[hdrop,List.find?_cons]at hff;have hin:inSpan code (a,b,c)=decide (a≤code∧code<a+c):=rfl;by_cases ha:a≤code∧code<a+c
        · rw[hin,decide_eq_true ha]at hff
          simp only at hff;have hres:=HM.out;rw[hff]at hres;have HR:=Lib.hid hres;obtain⟨ha1,ha2⟩:=ha;clear hget hdrop hff hres hin y1 y2 y3
          go_wp2_with fail
          go_ret2
          exact⟨by rw[HR.out];rfl,hbw.alloc (by have:=hbw.size;omega) _⟩
        · rw[hin,decide_eq_false ha]at hff
          simp only at hff;have HF:=Lib.hid hff;clear hget hdrop hff hin y1 y2 y3;rcases(show code<a∨(a≤code∧a+c≤code) from by omega)with ha'|⟨ha',ha''⟩
          all_goals (
           clear ha
           go_wp2_with fail
           go_roundw
           case rel=>exact⟨i+1,by go_num,by omega,HF.out,hbel.alloc hbel.size _⟩
           case measure=>simp[intOf];omega)
      · have hi19:i=19:=by omega
        subst hi19;have hff:=hf.out;rw[List.drop_of_length_le (by rw[jm7];exact Nat.le_refl _),List.find?_nil]at hff;have hres:=HM.out;rw[hff]at hres;have HR:=Lib.hid hres;clear hff hres
        go_wp2_with fail
        go_ret2
        exact⟨by rw[HR.out];rfl,hbw⟩
   · rw[if_pos he]at hm
     have c2:=fun w=>wat_any (wRowL (code/256)) (code-(code/256*256+161)) w (by omega) hH (by omega) (by omega)
     have hA:atM (bl (wRowL (code/256))) (code-(code/256*256+161))=(if(code-(code/256*256+161))<0∨((bl (wRowL (code/256))).length/5:Nat)≤(code-(code/256*256+161))then 0 else hexAt (bl (wRowL (code/256))) (code-(code/256*256+161)).toNat 4,!decide ((code-(code/256*256+161))<0∨((bl (wRowL (code/256))).length/5:Nat)≤(code-(code/256*256+161)))):=rfl;have c3:∀w,Calls Tryz.prog 235 #[.string (wRowL (code/256)),.int .i64 (code-(code/256*256+161))] w fun e w'=>e=.returned (.tuple #[.int .i32 (otherM code).1,.bool (otherM code).2])∧w=w':=by
      intro w;rw[hm,hA];exact c2 w
     have hL:(wRowL (code/256)).toList.isEmpty=false:=by
      rw[Lib.toList_data];cases hq:(wRowL (code/256)).data.toList with
      | nil=>exact absurd hq he
      | cons a l=>rfl
     generalize otherM code=r at *;generalize wRowL (code/256)=L at *;have C1:=Lib.hid c1;have C3:=Lib.hid c3;clear c1 c2 c3 hA hm he hH hS
     go_enter Tryz.func219,Tryz.ntmps219
     go_wp2_with fail
     with_reducible refine(C1.out _).mono ?_
     rintro e w' ⟨rfl,rfl⟩
     go_wp2_with fail
     with_reducible refine(C3.out _).mono ?_
     rintro e w' ⟨rfl,rfl⟩
     go_wp2_with fail
     go_ret2
     exact⟨rfl,Below.refl _ _⟩
noncomputable def rowM(f s:Int):Int×Bool:=if 94≤s then(0,false)else if(chooseM (f*94+s-1410) true).2 then(chooseM (f*94+s-1410) true).1 |> (·,true)
 else otherM ((f+161)*256+(s+161))
noncomputable def wSignM(lead s:Int):Int×Bool:=
 if lead<129∨254<lead then(0,false)
 else if 161≤lead∧161≤s then rowM (lead-161) (s-161)
 else if numberM s<0 then(0,false)
 else if lead<161 then chooseM ((lead-129)*178+numberM s) false
 else chooseM (5696+(lead-161)*84+numberM s) false
set_option maxRecDepth 100000 in
theorem row_any(f s:Int)(w:World)(hT:TW w)(h0:0≤f)(h1:f≤93)(h2:0≤s)(h3:s≤94):
 Calls Tryz.prog 193 #[.int .i64 f,.int .i64 s] w fun e w'=>e=.returned (.tuple #[.int .i32 (rowM f s).1,.bool (rowM f s).2])∧Below w.heap.size w w':=by
 have hm:rowM f s=if 94≤s then(0,false)else if(chooseM (f*94+s-1410) true).2 then((chooseM (f*94+s-1410) true).1,true)else otherM ((f+161)*256+(s+161)):=rfl
 by_cases hs:94≤s
 · rw[if_pos hs]at hm
   rw[hm];clear hm
   go_enter Tryz.func193,Tryz.ntmps193
   go_wp2_with fail
   go_ret2
   exact⟨rfl,Below.refl _ _⟩
 · rw[if_neg hs]at hm
   have c1:=vv6 (f*94+s-1410) w hT (by omega);have e1:bits .or .i64 ((f+161)*256) (s+161)=(f+161)*256+(s+161):=jw3 _ _ (by omega) (by omega) (by omega) (by omega) (by omega);have c2:=fun w=>vw4 ((f+161)*256+(s+161)) w (by omega) (by omega)
   rcases hc:chooseM (f*94+s-1410) true with⟨p,ok⟩
   rw[hc]at hm c1;simp only at hm c1;generalize otherM ((f+161)*256+(s+161))=o at *;have C1:=Lib.hid c1;have C2:=Lib.hid c2;clear c1 c2 hc;cases ok
   · simp only[Bool.false_eq_true,if_false]at hm
     rw[hm];clear hm
     go_enter Tryz.func193,Tryz.ntmps193
     go_wp2_with fail
     with_reducible refine C1.out.mono ?_
     rintro e w1 ⟨rfl,hb1⟩
     go_wp2_with fail
     with_reducible refine(C2.out _).mono ?_
     rintro e w2 ⟨rfl,hb2⟩
     go_wp2_with fail
     go_ret2
     exact⟨rfl,bt hb1 hb2⟩
   · simp only[if_true]at hm
     rw[hm];clear hm
     go_enter Tryz.func193,Tryz.ntmps193
     go_wp2_with fail
     with_reducible refine C1.out.mono ?_
     rintro e w1 ⟨rfl,hb1⟩
     go_wp2_with fail
     go_ret2
     exact⟨rfl,hb1⟩
theorem vh3(s:Int) : -1≤numberM s∧numberM s≤177:=by unfold numberM;omega
set_option maxRecDepth 100000 in
theorem kr2(l s:Int)(w:World)(hT:TW w)(h0:0≤l)(h1:l≤255)(h2:0≤s)(h3:s≤255):
 Calls Tryz.prog 165 #[.int .u8 l,.int .u8 s] w fun e w'=>e=.returned (.tuple #[.int .i32 (wSignM l s).1,.bool (wSignM l s).2])∧Below w.heap.size w w':=by
 have hm:wSignM l s=if l<129∨254<l then(0,false)else if 161≤l∧161≤s then rowM (l-161) (s-161)else if numberM s<0 then(0,false)
  else if l<161 then chooseM ((l-129)*178+numberM s) false else chooseM (5696+(l-161)*84+numberM s) false:=rfl
 have c0:=fun w=>vh2 s w h2 h3
 obtain⟨n0,n1⟩:=vh3 s;have c1:=fun w hT (a:161≤l) (b:l≤254) (c:161≤s)=>row_any (l-161) (s-161) w hT (by omega) (by omega) (by omega) (by omega)
 have c2:=fun w hT (a:l<161)=>qm5 ((l-129)*178+numberM s) w hT (by omega)
 have c3:=fun w hT=>qm5 (5696+(l-161)*84+numberM s) w hT (by omega)
 generalize rowM (l-161) (s-161)=r1 at *;generalize chooseM ((l-129)*178+numberM s) false=r2 at *;generalize chooseM (5696+(l-161)*84+numberM s) false=r3 at *;generalize numberM s=n at *;generalize wSignM l s=R at *;have C0:=Lib.hid c0;have C1:=Lib.hid c1;have C2:=Lib.hid c2;have C3:=Lib.hid c3;have HM:=Lib.hid hm;have HT:=Lib.hid hT;clear c0 c1 c2 c3 hm hT;rcases(show l<129∨254<l∨(129≤l∧l≤254) from by omega)with a|a|⟨a,b⟩
 · go_enter Tryz.func165,Tryz.ntmps165
   go_wp2_with (go_at_call 192;with_reducible refine(C0.out _).mono ?_;rintro e w1 ⟨rfl,rfl⟩)
   go_ret2
   exact⟨by rw[HM.out,if_pos (Or.inl a)];rfl,Below.refl _ _⟩
 · have a':129≤l:=by omega
   go_enter Tryz.func165,Tryz.ntmps165
   go_wp2_with (go_at_call 192;with_reducible refine(C0.out _).mono ?_;rintro e w1 ⟨rfl,rfl⟩)
   go_ret2
   exact⟨by rw[HM.out,if_pos (Or.inr a)];rfl,Below.refl _ _⟩
 · by_cases hr:161≤l∧161≤s
   · obtain⟨c,d⟩:=hr
     have HR:Hid (R=r1):=by show R=r1;rw[HM.out,if_neg (by omega),if_pos ⟨c,d⟩]
     go_enter Tryz.func165,Tryz.ntmps165
     go_wp2_with (first
      | (go_at_call 192;with_reducible refine(C0.out _).mono ?_;rintro e w1 ⟨rfl,rfl⟩)
      | (go_at_call 193;with_reducible refine(C1.out _ HT.out c b d).mono ?_;rintro e w1 ⟨rfl,hb1⟩))
     go_ret2
     exact⟨by rw[HR.out];rfl,hb1⟩
   · by_cases hn:n<0
     · have HR:Hid (R=(0,false)):=by show R=_;rw[HM.out,if_neg (by omega),if_neg hr,if_pos hn]
       rcases(show l<161∨(161≤l∧s<161) from by omega)with c|⟨c,d⟩
       all_goals (
        clear hr
        go_enter Tryz.func165,Tryz.ntmps165
        go_wp2_with (go_at_call 192;with_reducible refine(C0.out _).mono ?_;rintro e w1 ⟨rfl,rfl⟩)
        go_ret2
        exact⟨by rw[HR.out];rfl,Below.refl _ _⟩)
     · by_cases c:l<161
       · have HR:Hid (R=r2):=by show R=_;rw[HM.out,if_neg (by omega),if_neg hr,if_neg hn,if_pos c]
         clear hr
         go_enter Tryz.func165,Tryz.ntmps165
         go_wp2_with (first
          | (go_at_call 192;with_reducible refine(C0.out _).mono ?_;rintro e w1 ⟨rfl,rfl⟩)
          | (go_at_call 194;with_reducible refine(C2.out _ HT.out c).mono ?_;rintro e w1 ⟨rfl,hb1⟩))
         go_ret2
         exact⟨by rw[HR.out];rfl,hb1⟩
       · have HR:Hid (R=r3):=by show R=_;rw[HM.out,if_neg (by omega),if_neg hr,if_neg hn,if_neg c]
         have d:s<161:=by omega
         clear hr
         go_enter Tryz.func165,Tryz.ntmps165
         go_wp2_with (first
          | (go_at_call 192;with_reducible refine(C0.out _).mono ?_;rintro e w1 ⟨rfl,rfl⟩)
          | (go_at_call 194;with_reducible refine(C3.out _ HT.out).mono ?_;rintro e w1 ⟨rfl,hb1⟩))
         go_ret2
         exact⟨by rw[HR.out];rfl,hb1⟩
theorem vg2:∀i:Fin 256,∀j:Fin 9,i.val<2^j.val→pop8 i.val≤j.val:=by decide +kernel
theorem kz8(i j:Nat)(hj:j≤8)(h:i<2^j):pop8 i≤j:=by
 have h8:(2:Nat)^j≤2^8:=Nat.pow_le_pow_right (by decide) hj;exact vg2 ⟨i,by omega⟩ ⟨j,by omega⟩ h
theorem kk9:pop8 0=0:=by decide
theorem qz5(n e:Nat)(he:e≤28)(h:n<2^e):pop32 n≤e:=by
 unfold pop32;have q2:=jk2 (n/65536%256);have q3:=jk2 (n/256%256);have q4:=jk2 (n%256);by_cases c1:e≤8
 · have h8:(2:Nat)^e≤2^8:=Nat.pow_le_pow_right (by decide) c1
   have:=kz8 (n%256) e c1 (by omega);rw[show n/16777216=0 from by omega,show n/65536%256=0 from by omega,show n/256%256=0 from by omega,kk9];omega
 by_cases c2:e≤16
 · have h8:(2:Nat)^e≤2^16:=Nat.pow_le_pow_right (by decide) c2
   have hp:(2:Nat)^e=2^(e-8)*2^8:=by rw[←Nat.pow_add];congr 1;omega
   have:=kz8 (n/256%256) (e-8) (by omega) (by rw[hp]at h;omega);rw[show n/16777216=0 from by omega,show n/65536%256=0 from by omega,kk9];omega
 by_cases c3:e≤24
 · have h8:(2:Nat)^e≤2^24:=Nat.pow_le_pow_right (by decide) c3
   have hp:(2:Nat)^e=2^(e-16)*2^16:=by rw[←Nat.pow_add];congr 1;omega
   have:=kz8 (n/65536%256) (e-16) (by omega) (by rw[hp]at h;omega);rw[show n/16777216=0 from by omega,kk9];omega
 · have hp:(2:Nat)^e=2^(e-24)*2^24:=by rw[←Nat.pow_add];congr 1;omega
   have:=kz8 (n/16777216) (e-24) (by omega) (by rw[hp]at h;omega);omega
theorem qr4(g:Nat)(hg:g≤399):popSum g≤28*g:=by
 induction g with
 | zero=>simp[popSum]
 | succ g ih=>
  have h1:=ih (by omega);obtain⟨a,b⟩:=kv6 g (by omega);have:=qz5 (grp g).toNat 28 (by omega) (by omega);rw[popSum];omega
theorem vq3(i:Nat)(hi:i≤32)(x:Int)(h₀:0≤x)(h₁:x<4294967296):bits .and .u32 x (2^i-1)=x%2^i:=bits_mask .u32 32 (by decide) kh6 i hi x h₀ h₁
theorem vh8(n p:Int)(h0:0≤n)(h1:n<4294967296)(hp:44032≤p):0≤lowBits n p∧pop32 (lowBits n p).toNat≤((p-44032)%28).toNat:=by
 obtain⟨e,he⟩:∃e,e=((p-44032)%28).toNat:=⟨_,rfl⟩;have he27:e≤27:=by omega
 have hpw:(1:Int)≤2^e∧(2:Int)^e≤134217728:=by
  have a:(2:Nat)^e≤2^27:=Nat.pow_le_pow_right (by decide) he27;have b:0<(2:Nat)^e:=Nat.two_pow_pos e;have c:((2:Int)^e)=((2^e:Nat):Int):=by simp
  omega
 have hl:lowBits n p=n%2^e:=by
  unfold lowBits;rw[←he,show((2:Int)^e-1)%4294967296=2^e-1 from by omega];exact vq3 e (by omega) n h0 h1
 have hpos:(0:Int)<2^e:=by omega
 have h2:=Int.emod_nonneg n (show(2:Int)^e≠0 from by omega);have h3:=Int.emod_lt_of_pos n hpos;rw[hl];refine⟨h2,?_⟩;rw[←he];refine qz5 _ e (by omega) ?_;have c:((2:Int)^e)=((2^e:Nat):Int):=by simp
 omega
theorem rankM_bd(p:Int)(h0:44032≤p)(h1:p≤55203):0≤rankM p∧rankM p≤11199:=by
 have hg:((p-44032)/28).toNat<399:=by omega
 obtain⟨a,b⟩:=kv6 _ hg;obtain⟨c,d⟩:=vh8 (grp ((p-44032)/28).toNat) p a (by omega) h0;have e:=qr4 ((p-44032)/28).toNat (by omega);unfold rankM rankOwn;split<;>omega
noncomputable def wCode(p:Int):Int:=if rankIn p then(161+(rankM p+1410)/94)*256+(161+(rankM p+1410)%94)
 else if rankM p<5696 then(129+rankM p/178)*256+secondM (rankM p%178)
 else(161+(rankM p-5696)/84)*256+secondM ((rankM p-5696)%84)
theorem kr7(n:Int)(h0:0≤n)(h1:n≤177):65≤secondM n∧secondM n≤254:=by unfold secondM;omega
set_option maxRecDepth 100000 in
theorem vd3(p:Int)(w:World)(hp0:44032≤p)(hp1:p≤55203):
 Calls Tryz.prog 166 #[.int .i32 p] w fun e w'=>e=.returned (.tuple #[.string ⟨(bigL (wCode p) 2).toArray⟩,.bool true])∧Below w.heap.size w w':=by
 have c1:=fun w=>qz3 p w hp0 hp1
 obtain⟨r0,r1⟩:=rankM_bd p hp0 hp1;have hm:wCode p=if rankIn p then(161+(rankM p+1410)/94)*256+(161+(rankM p+1410)%94)else if rankM p<5696 then(129+rankM p/178)*256+secondM (rankM p%178)
  else(161+(rankM p-5696)/84)*256+secondM ((rankM p-5696)%84):=rfl
 have hw2:widthOf 2=2:=by decide
 rw[hm];clear hm;generalize rankIn p=i at *;generalize rankM p=k at *;have C1:=Lib.hid c1;have HW:=Lib.hid hw2;clear c1 hw2;cases i
 · simp only[Bool.false_eq_true,if_false]
   by_cases hk:k<5696
   · rw[if_pos hk]
     have c2:=fun w=>kr6 (k%178) w (by omega) (by omega)
     obtain⟨s0,s1⟩:=kr7 (k%178) (by omega) (by omega);generalize secondM (k%178)=s at *;have e1:bits .or .i64 ((129+k/178)*256) s=(129+k/178)*256+s:=jw3 _ _ (by omega) (by omega) (by omega) (by omega) (by omega);have C2:=Lib.hid c2;clear c2
     go_enter Tryz.func166,Tryz.ntmps166
     go_wp2_with (first
      | (go_at_call 180;with_reducible refine(C1.out _).mono ?_;rintro e w1 ⟨rfl,hb1⟩)
      | (go_at_call 195;with_reducible refine(C2.out _).mono ?_;rintro e w1 ⟨rfl,rfl⟩)
      | (go_at_call 91;with_reducible refine(jh8 _ _ _ (by omega) (by omega)).mono ?_;rintro e w2 ⟨rfl,hb2⟩))
     rw[HW.out]
     go_ret2
     exact⟨rfl,bt hb1 hb2⟩
   · rw[if_neg hk]
     have c2:=fun w=>kr6 ((k-5696)%84) w (by omega) (by omega)
     obtain⟨s0,s1⟩:=kr7 ((k-5696)%84) (by omega) (by omega);generalize secondM ((k-5696)%84)=s at *;have e1:bits .or .i64 ((161+(k-5696)/84)*256) s=(161+(k-5696)/84)*256+s:=jw3 _ _ (by omega) (by omega) (by omega) (by omega) (by omega);have C2:=Lib.hid c2;clear c2
     go_enter Tryz.func166,Tryz.ntmps166
     go_wp2_with (first
      | (go_at_call 180;with_reducible refine(C1.out _).mono ?_;rintro e w1 ⟨rfl,hb1⟩)
      | (go_at_call 195;with_reducible refine(C2.out _).mono ?_;rintro e w1 ⟨rfl,rfl⟩)
      | (go_at_call 91;with_reducible refine(jh8 _ _ _ (by omega) (by omega)).mono ?_;rintro e w2 ⟨rfl,hb2⟩))
     rw[HW.out]
     go_ret2
     exact⟨rfl,bt hb1 hb2⟩
 · simp only[if_true]
   have e1:bits .or .i64 ((161+(k+1410)/94)*256) (161+(k+1410)%94)=(161+(k+1410)/94)*256+(161+(k+1410)%94):=jw3 _ _ (by omega) (by omega) (by omega) (by omega) (by omega)
   go_enter Tryz.func166,Tryz.ntmps166
   go_wp2_with (first
    | (go_at_call 180;with_reducible refine(C1.out _).mono ?_;rintro e w1 ⟨rfl,hb1⟩)
    | (go_at_call 91;with_reducible refine(jh8 _ _ _ (by omega) (by omega)).mono ?_;rintro e w2 ⟨rfl,hb2⟩))
   rw[HW.out]
   go_ret2
   exact⟨rfl,bt hb1 hb2⟩
def pop4(d:Nat):Nat:=d%2+d/2%2+d/4%2+d/8%2
theorem pop8_two:∀a:Fin 16,∀b:Fin 16,pop8 (a.val*16+b.val)=pop4 a.val+pop4 b.val:=by decide +kernel
theorem kz7(a b:Nat)(ha:a<16)(hb:b<16):pop8 (a*16+b)=pop4 a+pop4 b:=pop8_two ⟨a,ha⟩ ⟨b,hb⟩
theorem pop8_one:∀a:Fin 16,pop8 a.val=pop4 a.val:=by decide +kernel
theorem vv5(a b c d e f g:Nat)(h0:a<16)(h1:b<16)(h2:c<16)(h3:d<16)(h4:e<16)(h5:f<16)(h6:g<16):
 pop32 ((((((a*16+b)*16+c)*16+d)*16+e)*16+f)*16+g)=pop4 a+pop4 b+pop4 c+pop4 d+pop4 e+pop4 f+pop4 g:=by
 generalize hn:(((((a*16+b)*16+c)*16+d)*16+e)*16+f)*16+g=n;unfold pop32;rw[show n/16777216=a from by omega,show n/65536%256=b*16+c from by omega,show n/256%256=d*16+e from by omega,show n%256=f*16+g from by omega];rw[kz7 _ _ h1 h2,kz7 _ _ h3 h4,kz7 _ _ h5 h6,show pop8 a=pop4 a from pop8_one ⟨a,h0⟩];omega
noncomputable def nib(i:Nat):Nat:=(dig (memAt i).toNat).toNat
theorem km3(i:Nat)(h:i<2793):nib i<16:=by have:=vc6 i h;unfold nib;omega
theorem jw2(i:Nat)(h:i<2793):dig (memAt i).toNat=(nib i:Int):=by have:=vc6 i h;unfold nib;omega
theorem pop_grp(g:Nat)(hg:g<399):pop32 (grp g).toNat=pop4 (nib (g*7))+pop4 (nib (g*7+1))+pop4 (nib (g*7+2))+pop4 (nib (g*7+3))+pop4 (nib (g*7+4))+pop4 (nib (g*7+5))+pop4 (nib (g*7+6)):=by
 rw[←vv5 _ _ _ _ _ _ _ (km3 _ (by omega)) (km3 _ (by omega)) (km3 _ (by omega)) (km3 _ (by omega)) (km3 _ (by omega)) (km3 _ (by omega)) (km3 _ (by omega))]
 congr 1
 unfold grp;simp only[grpF];rw[jw2 _ (by omega),jw2 _ (by omega),jw2 _ (by omega),jw2 _ (by omega),jw2 _ (by omega),jw2 _ (by omega),jw2 _ (by omega)];simp only[Nat.add_zero];omega
noncomputable def nibs:Nat→Nat
 | 0=>0
 | i+1=>nibs i+pop4 (nib i)
theorem qr3(g:Nat)(hg:g≤399):popSum g=nibs (g*7):=by
 induction g with
 | zero=>rfl
 | succ g ih=>
  rw[popSum,ih (by omega),pop_grp g (by omega)];rw[show(g+1)*7=g*7+6+1 from by omega];simp only[nibs];omega
def sumL:List UInt8→Nat→Nat
 | [],a=>a
 | b::l,a=>sumL l (a+pop4 (dig (b.toNat:Int)).toNat)
theorem qx6(l:List UInt8)(a:Nat):sumL l a=a+sumL l 0:=by
 induction l generalizing a with
 | nil=>rfl
 | cons b l ih=>rw[sumL,sumL,ih,ih (0+_)];omega
theorem sumL_app(l:List UInt8)(b:UInt8):sumL (l ++ [b]) 0=sumL l 0+pop4 (dig (b.toNat:Int)).toNat:=by
 induction l with
 | nil=>simp[sumL]
 | cons c l ih=>rw[List.cons_append,sumL,sumL,qx6,ih,qx6 l (0+_)];omega
theorem nibs_sum(n:Nat)(h:n≤2793):nibs n=sumL ((bl membersB).take n) 0:=by
 induction n with
 | zero=>rfl
 | succ n ih=>
  rw[nibs,ih (by omega),List.take_add_one,kb7 n (by omega),Option.toList,sumL_app];rfl
theorem sum_all:sumL ((bl membersB).take 2786) 0=2342:=by decide +kernel
theorem vg1:popSum 398=2342:=by rw[qr3 398 (by omega),nibs_sum _ (by omega)];exact sum_all
theorem last_pop:pop32 (lowBits (grp 398) 55203).toNat=8:=by decide +kernel
theorem xc2:rankIn 55203=false:=by decide +kernel
theorem xc1:rankM 55203=8821:=by
 have e:rankOwn 55203=(popSum 398+pop32 (lowBits (grp 398) 55203).toNat:Nat):=by
  have h:((55203-44032:Int)/28).toNat=398:=by decide +kernel
  unfold rankOwn;rw[h]
 unfold rankM;rw[xc2,e,vg1,last_pop];decide +kernel
theorem vd2:bigL (wCode 55203) 2 = [198,82]:=by
 have e:wCode 55203=(161+(8821-5696)/84)*256+secondM ((8821-5696)%84):=by
  unfold wCode;rw[xc2,xc1,if_neg (by decide),if_neg (by omega)]
 rw[e];decide +kernel
theorem wsign_1:wSignM 176 162=(44033,true):=by decide +kernel
theorem wsign_0:wSignM 176 161=(44032,true):=by decide +kernel
theorem qw7(w:World)(hT:TW w):Calls Tryz.prog 135 #[] w fun e w'=>e=.returned (.bool true)∧Below w.heap.size w w':=by
 have k1:=kr2 176 162 w hT (by omega) (by omega) (by omega) (by omega);have k2:=fun w=>vd3 55203 w (by omega) (by omega)
 rw[wsign_1]at k1;rw[vd2]at k2;have K1:=Lib.hid k1;have K2:=Lib.hid k2;clear k1 k2
 go_enter Tryz.func135,Tryz.ntmps135
 go_wp2_with (first
  | (go_at_call 165;refine K1.out.mono ?_;rintro e w1 ⟨rfl,hb1⟩)
  | (go_at_call 166;refine(K2.out _).mono ?_;rintro e w2 ⟨rfl,hb2⟩))
 go_ret
 exact⟨rfl,bt hb1 hb2⟩
end Go.Proofs.YtagjkmkmphamoaaGreatDoor
