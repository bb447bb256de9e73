/- A7 -/
import Derived.Deep.Slices
import Derived.Carry
import Derived.Test.YtagjkmkmphamoaaGreatDoorPF0
import Derived.Test.YtagjkmkmphamoaaGreatDoorPA5
import Derived.Test.YtagjkmkmphamoaaGreatDoorPOx
import Derived.Test.YtagjkmkmphamoaaGreatDoorPUs
import Derived.Test.YtagjkmkmphamoaaGreatDoorPA6
import Derived.Deep.RegionHeld3
import Derived.Deep.DrawnRows
set_option linter.all false
set_option maxHeartbeats 4000000
namespace Go.Proofs.YtagjkmkmphamoaaGreatDoor
open Go.ChangeShapes Go.WideShapes Go.ChangeAt Go.RowKit Go.ChangeMaps
def ntcells(l:List Nt):List Value:=l.flatMap fun n=>[.string n.name,.string n.text,.int .i64 n.set]
theorem kq6(l:List Nt):(ntcells l).length=l.length*3:=by
 induction l with
 | nil=>rfl
 | cons n l ih=>show([_,_,_]++ntcells l).length=_;simp[ih];omega
theorem jv8(l m:List Nt):ntcells (l++m)=ntcells l++ntcells m:=by simp[ntcells]
theorem kt9(l:List Nt)(i:Nat)(n:Nt)(h:l[i]?=some n):(ntcells l)[i*3]?=some (.string n.name)∧(ntcells l)[i*3+1]?=some (.string n.text)∧(ntcells l)[i*3+2]?=some (.int .i64 n.set):=by
 induction l generalizing i with
 | nil=>simp at h
 | cons m l ih=>
  cases i with
  | zero=>
   simp at h;subst h;exact⟨rfl,rfl,rfl⟩
  | succ i=>
   have:=ih i (by simpa using h);have e:ntcells (m::l) = [.string m.name,.string m.text,.int .i64 m.set]++ntcells l:=rfl;rw[e];refine⟨?_,?_,?_⟩
   · rw[List.getElem?_append_right (by simp;omega)]
     rw[show(i+1)*3 - [Value.string m.name,.string m.text,.int .i64 m.set].length=i*3 by simp;omega];exact this.1
   · rw[List.getElem?_append_right (by simp;omega)]
     rw[show(i+1)*3+1 - [Value.string m.name,.string m.text,.int .i64 m.set].length=i*3+1 by simp;omega];exact this.2.1
   · rw[List.getElem?_append_right (by simp;omega)]
     rw[show(i+1)*3+2 - [Value.string m.name,.string m.text,.int .i64 m.set].length=i*3+2 by simp;omega];exact this.2.2
theorem qd4:Tryz.prog.cellsOf 9=1:=by kernel_rfl
theorem cells_c:Tryz.prog.cellsOf 28=1:=by kernel_rfl
theorem kc9:Tryz.prog.cellsOf 30=2:=by kernel_rfl
theorem kw6:Tryz.prog.cellsOf 102=3:=by kernel_rfl
theorem qv4:Tryz.prog.cellsOf 31=1:=by kernel_rfl
theorem qv5:Tryz.prog.cellsOf 33=3:=by kernel_rfl
section
variable {H:Type} {enc:TypeId×Value→H} {w:World} {base:Nat} {sp:Nat→Bool} {held:Bool}
set_option maxRecDepth 100000 in
theorem qf1{fuel:Nat}{cs:List Value}{x:DataW H×List MemPlace}(h:DataW.trod enc Tryz.prog w base sp held fuel 30 cs=some x):
 ∃(t:ByteArray) (s:Int),cs = [.string t,.int .i64 s]∧t.size≤maxLen:=by
 obtain⟨xs,n,_,_,hlen,hx,hf⟩:=DataW.trod_struct Tryz.underlying30 h;rw[kc9]at hlen;have h0:=hf 0 _ rfl;have h1:=hf 1 _ rfl;simp only[List.getElem_toArray,List.getElem_cons_zero,List.getElem_cons_succ]at h0 h1;rw[qd4]at h0;rw[cells_c]at h1
 match cs,hlen with
 | [a,b],_=>
  match xs,hx with
  | [y,z],_=>
   obtain⟨s,e0,_,hs⟩:=DataW.trod_string Tryz.underlying9 h0;obtain⟨c,e1,_,_⟩:=DataW.trod_int Tryz.underlying28 h1;simp at e0 e1;exact⟨s,c,by rw[e0,e1],hs⟩
set_option maxRecDepth 100000 in
theorem vq7{fuel:Nat}{cs:List Value}{x:DataW H×List MemPlace}(h:DataW.trod enc Tryz.prog w base sp held fuel 102 cs=some x):
 ∃n:Nt,cs = [.string n.name,.string n.text,.int .i64 n.set]∧n.name.size≤maxLen∧n.text.size≤maxLen:=by
 obtain⟨xs,n,_,_,hlen,hx,hf⟩:=DataW.trod_struct Tryz.underlying102 h;rw[kw6]at hlen;have h0:=hf 0 _ rfl;have h1:=hf 1 _ rfl;simp only[List.getElem_toArray,List.getElem_cons_zero,List.getElem_cons_succ]at h0 h1;rw[qd4]at h0;rw[kc9]at h1
 match cs,hlen with
 | [a,b,c],_=>
  match xs,hx with
  | [y,z],_=>
   obtain⟨s,e0,_,hs⟩:=DataW.trod_string Tryz.underlying9 h0;obtain⟨t,c',e1,ht⟩:=qf1 h1;simp at e0 e1;exact⟨⟨s,t,c'⟩,by rw[e0,e1.1,e1.2],hs,ht⟩
def okBk(b:Bk):Prop:=b.vt.size≤maxLen∧b.ns.length≤maxLen∧∀n∈b.ns,n.name.size≤maxLen∧n.text.size≤maxLen
set_option maxRecDepth 100000 in
theorem vd8{fuel:Nat}{v:Value}{x:DataW H×List MemPlace}(h:DataW.trod enc Tryz.prog w base (fun _=>true) held fuel 31 [v]=some x):
 ∃l:List Nt,Row w v l.length (ntcells l)∧l.length≤maxLen∧∀n∈l,n.name.size≤maxLen∧n.text.size≤maxLen:=by
 rcases Go.Deep.open_slice Tryz.underlying31 h with⟨hc,_⟩|⟨a,len,cap,m,n,D,Pl,hcs,hb,hl,hm,hmm,_,hi⟩
 · simp at hc
   subst hc;exact⟨[],Row.nil _,Nat.zero_le _,fun n h=>by cases h⟩
 · simp at hcs
   subst hcs;rw[kw6]at hi;simp only[if_true]at hmm;have hex:∀i,i<len→∃n:Nt,(∀j,j<3→w.cell? (a.add (i*3+j)) = [Value.string n.name,.string n.text,.int .i64 n.set][j]?)∧n.name.size≤maxLen∧n.text.size≤maxLen:=by
    intro i hil;obtain⟨cs',h1,h2⟩:=hi i (by omega);obtain⟨nt,rfl,h3,h4⟩:=vq7 h2;obtain⟨_,_,h5⟩:=World.cells?_some h1;refine⟨nt,fun j hj=>?_,h3,h4⟩;rw[←Go.Deep.add_add];exact h5 j hj
   obtain⟨f,hf⟩:∃f:Nat→Nt,∀i,i<len→(∀j,j<3→w.cell? (a.add (i*3+j)) = [Value.string (f i).name,.string (f i).text,.int .i64 (f i).set][j]?)∧(f i).name.size≤maxLen∧(f i).text.size≤maxLen:=by
    refine⟨fun i=>if h:i<len then(hex i h).choose else⟨⟨#[]⟩,⟨#[]⟩,0⟩,fun i h=>?_⟩;simp only[dif_pos h];exact(hex i h).choose_spec
   refine⟨(List.range len).map f,?_,by rw[List.length_map,List.length_range];exact Nat.le_trans hl hm,fun n hn=>?_⟩
   · rw[List.length_map,List.length_range]
     refine⟨some a,cap,rfl,fun j x hj=>?_⟩;have hjl:j<len*3:=by
      have:=(List.getElem?_eq_some_iff.1 hj).1;rw[kq6,List.length_map,List.length_range]at this;exact this
     have hdiv:j=j/3*3+j%3:=by omega
     have hq:j/3<len:=by omega
     have h1:=(hf (j/3) hq).1 (j%3) (Nat.mod_lt _ (by decide));obtain⟨g1,g2,g3⟩:=kt9 ((List.range len).map f) (j/3) (f (j/3)) (by rw[List.getElem?_map,List.getElem?_range hq];rfl);have hx:w.cell? (a.add j)=some x:=by
      rw[←hj];rw[←hdiv]at h1;rw[h1];rcases(show j%3=0∨j%3=1∨j%3=2 by omega)with h|h|h
      · rw[h];rw[show j/3*3=j by omega]at g1;rw[g1];rfl
      · rw[h];rw[show j/3*3+1=j by omega]at g2;rw[g2];rfl
      · rw[h];rw[show j/3*3+2=j by omega]at g3;rw[g3];rfl
     have h0:=(hf 0 (by omega)).1 0 (by decide);obtain⟨b,off,p⟩:=a;have hp:p=none:=by simpa[Addr.add]using World.cell?_spot h0
     subst hp;refine⟨b,off,rfl,?_⟩;rw[←Go.WideShapes.add_plain];exact hx
   · obtain⟨i,hi',rfl⟩:=List.mem_map.1 hn
     exact(hf i (by simpa using hi')).2
end
end Go.Proofs.YtagjkmkmphamoaaGreatDoor
namespace Go.Proofs.YtagjkmkmphamoaaGreatDoor
open Go.RowKit
theorem qb2{w:World}{av:Option Addr}{l:List Nt}(hc:∀(j:Nat) (x:Value),(ntcells l)[j]?=some x→∃g o,av=some ⟨g,o,none⟩∧w.cell? ⟨g,o+j,none⟩=some x)(k:Nat)(n:Nt)(hk:l[k]?=some n):
 ∃g o,av=some ⟨g,o,none⟩∧w.cell? ⟨g,o+k*3,none⟩=some (.string n.name)∧w.cell? ⟨g,o+k*3+1,none⟩=some (.string n.text)∧w.cell? ⟨g,o+k*3+2,none⟩=some (.int .i64 n.set):=by
 obtain⟨h0,h1,h2⟩:=kt9 l k n hk;obtain⟨g,o,rfl,c0⟩:=hc _ _ h0;obtain⟨g',o',e,c1⟩:=hc _ _ h1;simp only[Option.some.injEq,Addr.mk.injEq,and_true]at e;obtain⟨rfl,rfl⟩:=e;obtain⟨g',o',e,c2⟩:=hc _ _ h2;simp only[Option.some.injEq,Addr.mk.injEq,and_true]at e;obtain⟨rfl,rfl⟩:=e;exact⟨g,o,rfl,c0,c1,c2⟩
def lightN(n:Nt):Bool:=decide (n.name.size≤50)&&decide (n.text.size≤150)
def lightM(b:Bk):Bool:=b.ns.all lightN&&decide (b.ns.length≤30)&&decide (b.vt.size≤150)
theorem vc9{α:Type}(p:α→Bool)(l:List α)(k:Nat)(x:α)(h:l[k]?=some x)(ha:(l.take k).all p=true):
 (p x=true→(l.take (k+1)).all p=true)∧(p x=false→l.all p=false):=by
 obtain⟨h1,h2⟩:=List.getElem?_eq_some_iff.1 h
 constructor
 · intro hx
   rw[List.take_succ_eq_append_getElem h1,List.all_append,ha,h2];simp[hx]
 · intro hx
   rw[List.all_eq_false];exact⟨x,List.mem_of_getElem? h,by simp[hx]⟩
theorem xb7(v:Value)(b:Bk)(w:World)(hrow:Row w v b.ns.length (ntcells b.ns))(hok:okBk b):
 Calls Tryz.prog 18 #[.agg #[.string b.vt,.int .i64 b.vs,v]] w fun e w'=>e=.returned (.bool (lightM b))∧Below w.heap.size w w':=by
 obtain⟨vt,vs,ns⟩:=b;obtain⟨av,cap,rfl,hc⟩:=hrow;obtain⟨o1,o2,o3⟩:=hok;simp only at o1 o2 o3 hc ⊢;have hm:lightM ⟨vt,vs,ns⟩=(ns.all lightN&&decide (ns.length≤30)&&decide (vt.size≤150)):=rfl;rw[hm];obtain⟨n,hn⟩:∃n,n=ns.length:=⟨_,rfl⟩;rw[←hn]at o2 ⊢;unfold maxLen at o1 o2 o3;have HC:=Lib.hid hc;have HN:=Lib.hid hn;have O3:=Lib.hid o3;clear hc hn o3;clear hm
 go_enter Tryz.func18,Tryz.ntmps18
 go_wp2_with fail
 obtain⟨W,hW⟩:∃W,W=w.alloc (.cells #[.string vt,.int .i64 vs,.slice av n cap] 33):=⟨_,rfl⟩;rw[←hW];have hbW:Below w.heap.size w W:=by rw[hW];exact bal (Below.refl _ _) _
 have l0:Live W w.heap.size 0 (.string vt):=by rw[hW];exact Live.fresh _ _ _ 0 _ rfl
 have l2:Live W w.heap.size 2 (.slice av n cap):=by rw[hW];exact Live.fresh _ _ _ 2 _ rfl
 clear hW;have HBW:=Lib.hid hbW;have L0:=Lib.hid l0;have L2:=Lib.hid l2;clear hbW l0 l2
 go_loopw [8] (fun iv wr=>∃k:Nat,iv=.int .i64 (k:Int)∧k≤n∧Hid ((ns.take k).all lightN=true)∧Below W.heap.size W wr) (fun iv _=>n-(intOf iv).toNat)
 case atStart=>exact⟨0,rfl,Nat.zero_le _,Lib.hid (by simp),Below.refl _ _⟩
 case round=>
  obtain⟨k,rfl,hk,hA,hbel⟩:=hrel;have c0:=kc hbel L0.out.1;have c2:=kc hbel L2.out.1;by_cases hlt:k<n
  · obtain⟨x,hx⟩:=jb6 ns k (by rw[←HN.out];exact hlt)
    obtain⟨g,o,rfl,d0,d1,d2⟩:=qb2 HC.out k x hx;have d0:=kc hbel (kc HBW.out d0);have d1:=kc hbel (kc HBW.out d1);have d2:=kc hbel (kc HBW.out d2);obtain⟨b1,b2⟩:=O3.out x (List.mem_of_getElem? hx);obtain⟨s1,s2⟩:=vc9 lightN ns k x hx hA.out;have hl:lightN x=(decide (x.name.size≤50)&&decide (x.text.size≤150)):=rfl;rw[hl]at s1 s2;have hbz:=bal hbel (.cells #[.string x.name,.string x.text,.int .i64 x.set] 102);have S1:=Lib.hid s1;have S2:=Lib.hid s2;have HBZ:=Lib.hid hbz;clear s1 s2 hbz;clear hl;by_cases q1:x.name.size≤50
    · by_cases q2:x.text.size≤150
      · have s1:=S1.out (by simp[q1,q2])
        have S1':=Lib.hid s1;clear s1
        go_wp2_with fail
        go_roundw
        case rel=>exact⟨k+1,by go_num,by omega,S1',HBZ.out⟩
        case measure=>simp[intOf];omega
      · have s2:=S2.out (by simp[q2])
        have S2':=Lib.hid s2;clear s2
        go_wp2_with fail
        go_ret
        exact⟨jg0 (by rw[S2'.out];rfl),HBW.out.trans (HBZ.out.mono HBW.out.size)⟩
    · have s2:=S2.out (by simp[q1])
      have S2':=Lib.hid s2;clear s2
      go_wp2_with fail
      go_ret
      exact⟨jg0 (by rw[S2'.out];rfl),HBW.out.trans (HBZ.out.mono HBW.out.size)⟩
  · have hkn:k=n:=by omega
    subst hkn;have ha:=hA.out;rw[List.take_of_length_le (by rw[←HN.out];exact Nat.le_refl _)]at ha;have hfin:(ns.all lightN&&decide (k≤30)&&decide (vt.size≤150))=(decide (k≤30)&&decide (vt.size≤150)):=by rw[ha,Bool.true_and]
    have HFIN:=Lib.hid hfin;clear hfin;have hbz:=HBW.out.trans (hbel.mono HBW.out.size);have HBZ:=Lib.hid hbz;clear hbz;clear ha hA;by_cases q1:k≤30
    · by_cases q2:vt.size≤150
      · go_wp2_with fail
        go_ret
        exact⟨jg0 (by first|(rw[HFIN.out];simp[q1,q2]<;>omega)|rfl),HBZ.out⟩
      · go_wp2_with fail
        go_ret
        exact⟨jg0 (by first|(rw[HFIN.out];simp[q1,q2]<;>omega)|rfl),HBZ.out⟩
    · go_wp2_with fail
      go_ret
      exact⟨jg0 (by first|(rw[HFIN.out];simp[q1]<;>omega)|rfl),HBZ.out⟩
theorem xc0(l:List UInt8)(k:Nat)(x:UInt8)(h:l[k]?=some x):leN (l.drop k)=x.toNat+256*leN (l.drop (k+1)):=by
 obtain⟨h1,h2⟩:=List.getElem?_eq_some_iff.1 h;rw[List.drop_eq_getElem_cons h1,h2]
 rfl
theorem jm8(x:RS)(k:Nat):(takeR x k).2.size≤k:=by
 unfold takeR;split
 · exact Nat.zero_le _
 · split
   · exact Nat.zero_le _
   · show(x.s.extract _ _).size≤_
     rw[ByteArray.size_extract];omega
theorem jd3(n:Int)(h₀:0≤n)(h₁:n<2^64):IntKind.u64.wrap n=n:=by rw[IntKind.wrap_u64];omega
theorem vq1(x y:Int)(hx₀:0≤x)(hx:x%256=0)(hx₁:x<9223372036854775808)(hy₀:0≤y)(hy:y<256)(hy₁:y<9223372036854775808):bits .or .u64 x y=x+y:=
 bits_join .u64 64 (by decide) jd3 8 x y hx₀ hx (by omega) hy₀ hy (by omega)
theorem km9(w:World)(r:Nat)(x:RS)(h:InX w r x)(hk:okR x):
 Calls Tryz.prog 81 #[.pointer (some ⟨r,0,none⟩),.int .i64 4] w fun v w'=>v=.returned (.int .u64 ((numR x).2:Int))∧InX w' r (numR x).1∧w.grownBy w' (some r):=by
 have k1:∀w,Calls Tryz.prog 105 #[.int .i64 4] w fun e w'=>e=.returned (.int .i64 4)∧w=w':=fun w=>jr6 4 w
 have k2:=fun w h=>jq3 w r x 4 h hk (by decide) (by decide)
 have hsz:(takeR x 4).2.size≤4:=jm8 x 4;unfold numR;generalize takeR x 4=y at *;obtain⟨y,t⟩:=y;simp only at k2 hsz ⊢;have HL:Hid ((bl t).length=t.size):=jb1 t;have K1:=Lib.hid k1;have K2:=Lib.hid k2;clear k1 k2
 go_enter Tryz.func81,Tryz.ntmps81
 go_wp2_with (first
  | (go_at_call 105;refine(K1.out _).mono ?_;rintro x w1 ⟨rfl,rfl⟩)
  | (go_at_call 102;refine(K2.out _ h).mono ?_;rintro x w2 ⟨rfl,hi,hg⟩))
 go_loop [6,7] (fun n i=>∃k:Nat,i=.int .i64 ((k:Int)-1)∧n=.int .u64 (leN ((bl t).drop k):Int)∧k≤t.size) (fun _ i=>(intOf i+1).toNat)
 case atStart=>exact⟨t.size,rfl,by rw[List.drop_of_length_le (by rw[HL.out];exact Nat.le_refl _)];rfl,Nat.le_refl _⟩
 case round=>
  obtain⟨k,rfl,rfl,hkt⟩:=hrel;cases k with
  | zero=>
   have e0:((0:Nat):Int)-1 = -1:=by omega
   rw[List.drop_zero]
   go_wp2
   go_ret
   exact⟨rfl,hi,hg⟩
  | succ j=>
   obtain⟨c,hc⟩:=jb6 (bl t) j (by rw[HL.out];omega);have C:∀h,t[j]'h=c:=jc7 t j c hc;have hst:=xc0 (bl t) j c hc;have hb:=vb2 ((bl t).drop (j+1));have hcl:=c.toNat_lt;have hb2:leN ((bl t).drop (j+1))<16777216:=by
    refine Nat.lt_of_lt_of_le hb ?_;have:((bl t).drop (j+1)).length≤3:=by rw[List.length_drop,HL.out];omega
    exact Nat.le_trans (Nat.pow_le_pow_right (by decide) this) (by decide)
   clear hb hc;generalize leN ((bl t).drop (j+1))=q at *;have ej:(((j+1:Nat):Int)-1)=(j:Int):=by omega
   rw[ej];have HST:=Lib.hid hst;clear hst;have hor:bits .or .u64 ((q:Int)*256) (c.toNat:Int)=(q:Int)*256+c.toNat:=vq1 _ _ (by omega) (by omega) (by omega) (by omega) (by omega) (by omega)
   go_wp2_with fail
   exact⟨⟨j,rfl,by rw[HST.out];congr 1;omega,by omega⟩,by simp[intOf]⟩
noncomputable def RM(fb:Int)(g:Bool):List UInt8→Int:=fun l=>resM l [] fb g
theorem xj5(fb:Int)(g:Bool)(l:List UInt8)(h:(scanL l).2=none):RM fb g l=7:=by
 unfold RM resM;rw[h]
 rfl
theorem qs1(x:RS):(numR x).2<4294967296:=by
 unfold numR;refine Nat.lt_of_lt_of_le (vb2 _) ?_;have:(bl (takeR x 4).2).length≤4:=by rw[jb1];exact jm8 x 4
 exact Nat.le_trans (Nat.pow_le_pow_right (by decide) this) (by decide)
theorem jv0(w:World)(r:Nat)(x:RS)(kd fb bu:Int)(g:Bool)(h:InX w r x)(hk:okR x):
 Calls Tryz.prog 79 #[.agg #[.pointer (some ⟨r,0,none⟩),.int .i64 kd,.int .i64 fb,.bool g,.int .i64 bu]] w
  fun v w'=>v=.returned (.tuple #[.string (sizedR x).2.1,.int .i64 (sizedR x).2.2])∧InX w' r (sizedR x).1∧w.grownBy w' (some r):=by
 have k1:=fun w h=>km9 w r x h hk
 have hk1:=kb6 hk;have k2:=fun w h=>kn0 w r (numR x).1 h hk1
 have hn:=qs1 x;have k3:=fun w h=>jq3 w r (numR x).1 ((numR x).2:Int) h hk1 (by omega) (by omega)
 unfold sizedR;generalize numR x=y at *;obtain⟨y,n⟩:=y;simp only at k1 k2 k3 hn ⊢;generalize takeR y n=z at *;obtain⟨z,t⟩:=z;simp only at k3 ⊢;have hrl:=h.lt;have l0:=Live.fresh w #[.pointer (some ⟨r,0,none⟩),.int .i64 kd,.int .i64 fb,.bool g,.int .i64 bu] 128 0 _ rfl;have hbA:=bal (Below.refl w.heap.size w) (.cells #[.pointer (some ⟨r,0,none⟩),.int .i64 kd,.int .i64 fb,.bool g,.int .i64 bu] 128);have hwn:IntKind.i64.wrap (n:Int)=n:=wi64 _ (by omega) (by omega);have hA:=h.bel hbA;have K1:=Lib.hid k1;have K2:=Lib.hid k2;have K3:=Lib.hid k3;have HBA:=Lib.hid hbA;have L0:=Lib.hid l0;have HA:=Lib.hid hA;clear k1 k2 k3 hbA l0 hA;clear hk hk1
 go_enter Tryz.func79,Tryz.ntmps79
 go_wp2_with (first
  | (go_at_call 81;refine(K1.out _ HA.out).mono ?_;rintro e w1 ⟨rfl,hi1,hg1⟩;have c0:=hg1.cell L0.out.1 (by simp;omega))
  | (go_at_call 71;refine(K2.out _ hi1).mono ?_;rintro e w2 ⟨rfl,hb2⟩;have c0':=kc hb2 c0)
  | (go_at_call 102;refine(K3.out _ (hi1.bel hb2)).mono ?_;rintro e w3 ⟨rfl,hi3,hg3⟩))
 go_ret2
 exact⟨rfl,hi3,jb3 (jb3 (jb3 (jc1 HBA.out) hg1) (jc1 hb2)) hg3⟩
theorem runT_leS{tok:Tok}(S:Short tok):∀(f:Nat) (l:List UInt8) (n:Nat) (acc u:List UInt8) (q:Nat),runT tok f l n acc=(u,some q)→q≤n+l.length:=by
 intro f
 induction f with
 | zero=>intro l n acc u q h;simp[runT]at h
 | succ f ih=>
  intro l n acc u q h;by_cases hl:l = []
  · subst hl;simp[runT]at h
  · cases ht:tok l with
    | none=>
     rw[jh1 f l n acc hl ht]at h;simp only[Prod.mk.injEq,Option.some.injEq]at h;omega
    | some p=>
     obtain⟨t,k⟩:=p;have:=(S l t k ht).2;rw[jf3 f l n acc t k hl ht]at h;have:=ih _ _ _ _ _ h;rw[List.length_drop]at this;omega
theorem xb9(R:List UInt8→Int)(x:RS)(b:ByteArray)(at_:Int):∃(u:ByteArray) (e a:Int),decV (R (bl b)) (bl b)=.tuple #[.string u,.agg #[.int .i64 e,.int .i64 a]]∧0≤a∧a≤b.size ∧
 ((e=0∧leafR R x b at_=(x,u,R (bl b)))∨(e≠0∧leafR R x b at_=(failR x e (at_+a),⟨#[]⟩,0))):=by
 unfold decV leafR;by_cases h:0≤R (bl b)∧R (bl b)≤9
 · rw[if_pos h,if_pos h]
   rcases hd:decT (tokC (R (bl b))) (bl b)with⟨u,o⟩
   cases o with
   | none=>exact⟨⟨u.toArray⟩,0,0,rfl,by omega,by omega,.inl ⟨rfl,rfl⟩⟩
   | some k=>
    have:=runT_leS (vr6 (R (bl b))) _ _ _ _ _ _ hd;rw[jb1]at this;exact⟨⟨u.toArray⟩,2,k,rfl,by omega,by omega,.inr ⟨by decide,rfl⟩⟩
 · rw[if_neg h,if_neg h]
   exact⟨⟨#[]⟩,5,0,rfl,by omega,by omega,.inr ⟨by decide,by rw[Int.add_zero]⟩⟩
set_option maxRecDepth 100000 in
theorem kp4(w:World)(r:Nat)(x:RS)(kd fb bu:Int)(g:Bool)(b:ByteArray)(at_:Int)(hT:TW w)(hr:4≤r)(h:InX w r x)(hb:b.size≤1048576)(ha0:0≤at_)(ha1:at_≤1152921504606846976):
 Calls Tryz.prog 80 #[.agg #[.pointer (some ⟨r,0,none⟩),.int .i64 kd,.int .i64 fb,.bool g,.int .i64 bu],.string b,.int .i64 at_] w
  fun v w'=>v=.returned (.agg #[.string (leafR (RM fb g) x b at_).2.1,.int .i64 (leafR (RM fb g) x b at_).2.2])∧InX w' r (leafR (RM fb g) x b at_).1∧w.grownBy w' (some r):=by
 have k1:∀w,TW w→Calls Tryz.prog 103 #[.string b,.string ⟨#[]⟩,.agg #[.int .i64 kd,.int .i64 fb,.bool g,.int .i64 bu]] w fun e w'=>e=.returned (.int .i64 (RM fb g (bl b)))∧Below w.heap.size w w':=fun w hT=>qr2 b ⟨#[]⟩ kd fb bu g w hT hb (by decide)
 have k2:=fun w hT=>jk5 (RM fb g (bl b)) b w hT (by omega)
 obtain⟨u,e,a,hd,a0,a1,hl⟩:=xb9 (RM fb g) x b at_;rw[hd]at k2;unfold CDecPost at k2;generalize RM fb g (bl b)=c at *;have k3:=fun w=>jb8 e a w
 have k4:=fun w h=>jj1 w r x e (at_+a) h
 have hw:IntKind.i64.wrap (at_+a)=at_+a:=wi64 _ (by omega) (by omega);have hrl:=h.lt;obtain⟨W,hW⟩:∃W,W=(w.alloc (.cells #[.pointer (some ⟨r,0,none⟩),.int .i64 kd,.int .i64 fb,.bool g,.int .i64 bu] 128)).alloc (.cells #[.string ⟨#[]⟩,.int .i64 0] 30):=⟨_,rfl⟩;have hs1:(w.alloc (.cells #[.pointer (some ⟨r,0,none⟩),.int .i64 kd,.int .i64 fb,.bool g,.int .i64 bu] 128)).heap.size=w.heap.size+1:=World.size_alloc _ _;have lc:∀(i:Nat) (v:Value),(#[.pointer (some ⟨r,0,none⟩),.int .i64 kd,.int .i64 fb,.bool g,.int .i64 bu]:Array Value)[i]?=some v→W.cell? ⟨w.heap.size,i,none⟩=some v:=by
  intro i v hv;rw[hW];exact((Live.fresh w _ 128 i v hv).alloc _).1
 have l0:=lc 0 _ rfl;have l1:=lc 1 _ rfl;have l2:=lc 2 _ rfl;have l3:=lc 3 _ rfl;have l4:=lc 4 _ rfl;have m0:Live W (w.heap.size+1) 0 (.string ⟨#[]⟩):=by rw[hW,←hs1];exact Live.fresh _ _ _ 0 _ rfl
 have m1:Live W (w.heap.size+1) 1 (.int .i64 0):=by rw[hW,←hs1];exact Live.fresh _ _ _ 1 _ rfl
 have hbW:Below w.heap.size w W:=by rw[hW];exact bal (bal (Below.refl _ _) _) _
 have hTW:=hT.bel hbW;have hIW:=h.bel hbW;have K1:=Lib.hid k1;have K2:=Lib.hid k2;have K3:=Lib.hid k3;have K4:=Lib.hid k4;have HBW:=Lib.hid hbW;have HTW:=Lib.hid hTW;have HIW:=Lib.hid hIW;have M0:=Lib.hid m0;have M1:=Lib.hid m1;clear k1 k2 k3 k4 hbW hTW hIW m0 m1;clear lc hs1 hT hd h;rcases hl with⟨rfl,hl⟩|⟨he,hl⟩
 · rw[hl]
   go_enter Tryz.func80,Tryz.ntmps80
   go_wp2_with fail
   rw[←hW];clear hW
   go_wp2_with (first
    | (go_at_call 103;refine(K1.out _ HTW.out).mono ?_;rintro e w1 ⟨rfl,hb1⟩)
    | (go_at_call 104;refine(K2.out _ (HTW.out.bel hb1)).mono ?_;rintro e w2 ⟨rfl,hb2⟩;have hb12:=bal (bt hb1 hb2) (.cells #[.int .i64 0,.int .i64 a] 54))
    | (go_at_call 16;refine(K3.out _).mono ?_;rintro e w3 ⟨rfl,hb3⟩;have hb13:=bt hb12 hb3;obtain⟨q0,q0'⟩:=M0.out.keep hb13;obtain⟨q1,q1'⟩:=M1.out.keep hb13))
   refine bodyPost_ret (v:=.agg #[.string u,.int .i64 c]) (by simp[results,Tryz.results80,go_sem,q0,q1,q0',q1']) rfl ?_;have hbf:=HBW.out.trans (hb13.mono HBW.out.size);refine⟨rfl,(HIW.out.bel hb13).gr (jb3 (jc0 _ _ _ _) (jc0 _ _ _ _)) (by simp;omega),jc1 ((hbf.setCell (by simp) _).setCell (by simp) _)⟩
 · rw[hl]
   have hd3:(!decide (e=0))=true:=by simpa using he
   rw[hd3]at K3
   go_enter Tryz.func80,Tryz.ntmps80
   go_wp2_with fail
   rw[←hW];clear hW
   go_wp2_with (first
    | (go_at_call 103;refine(K1.out _ HTW.out).mono ?_;rintro e w1 ⟨rfl,hb1⟩)
    | (go_at_call 104;refine(K2.out _ (HTW.out.bel hb1)).mono ?_;rintro e' w2 ⟨rfl,hb2⟩;have hb12:=bal (bt hb1 hb2) (.cells #[.int .i64 e,.int .i64 a] 54))
    | (go_at_call 16;refine(K3.out _).mono ?_;rintro e' w3 ⟨rfl,hb3⟩;have hb13:=bt hb12 hb3;obtain⟨f0,f0'⟩:=(Live.fresh w2 #[.int .i64 e,.int .i64 a] 54 0 _ rfl).keep hb3;obtain⟨f1,f1'⟩:=(Live.fresh w2 #[.int .i64 e,.int .i64 a] 54 1 _ rfl).keep hb3;have r0:=kc hb13 l0)
    | (go_at_call 73;refine(K4.out _ (HIW.out.bel hb13)).mono ?_;rintro e' w4 ⟨rfl,hi4,hg4⟩;obtain⟨q0,q0'⟩:=jm5 (M0.out.keep hb13) hg4 (by simp;omega);obtain⟨q1,q1'⟩:=jm5 (M1.out.keep hb13) hg4 (by simp;omega)))
   refine bodyPost_ret (v:=.agg #[.string ⟨#[]⟩,.int .i64 0]) (by simp[results,Tryz.results80,go_sem,q0,q1,q0',q1']) rfl ?_;have hbf:=HBW.out.trans (hb13.mono HBW.out.size);have hg:=jb3 (jc1 hbf) hg4;have hz:=hg4.size;have hz2:=hb13.size;refine⟨rfl,hi4.gr (jb3 (jc0 _ _ _ _) (jc0 _ _ _ _)) (by simp;omega),?_⟩;have h2:∀(w5:World) (o:Nat) (v:Value),w.grownBy w5 (some r)→w.grownBy (w5.setCell ⟨w.heap.size+1,o,none⟩ v) (some r):=fun w5 o v h=>
    ⟨(jc0 w5 _ o v).os.trans h.os,(jc0 w5 _ o v).tape.trans h.tape,(jc0 w5 _ o v).output.trans h.output,Nat.le_trans h.size (jc0 w5 (w.heap.size+1) o v).size,fun j hj hr=>((jc0 w5 (w.heap.size+1) o v).block j (Nat.lt_of_lt_of_le hj h.size) (by simp;omega)).trans (h.block j hj hr)⟩
   exact h2 _ _ _ (h2 _ _ _ hg)
set_option maxRecDepth 100000 in
theorem xg7(w:World)(r:Nat)(x:RS)(kd fb bu:Int)(g:Bool)(hT:TW w)(hr:4≤r)(h:InX w r x)(hk:okR x)(hs:x.s.size≤1048576):
 Calls Tryz.prog 82 #[.agg #[.pointer (some ⟨r,0,none⟩),.int .i64 kd,.int .i64 fb,.bool g,.int .i64 bu]] w
  fun v w'=>v=.returned (.agg #[.string (noteR (RM fb g) x).2.name,.string (noteR (RM fb g) x).2.text,.int .i64 (noteR (RM fb g) x).2.set])∧InX w' r (noteR (RM fb g) x).1∧w.grownBy w' (some r):=by
 have k1:=fun w h=>jv0 w r x kd fb bu g h hk
 have hky:=jn9 hk;have hts:=jz5 x;have hat:0≤(sizedR x).2.2∧(sizedR x).2.2≤2199023255552:=by
  have h1:=kb6 hk;unfold okR at h1;show 0≤((numR x).1.b:Int)+(numR x).1.n∧((numR x).1.b:Int)+(numR x).1.n≤2199023255552;omega
 have hN:noteR (RM fb g) x=if(sizedR x).1.e≠0 then((sizedR x).1,⟨⟨#[]⟩,⟨#[]⟩,0⟩)else
  (if aheadM (bl (sizedR x).2.1)=0∨(bl (sizedR x).2.1)[aheadM (bl (sizedR x).2.1)]?≠some 61 then(failR (sizedR x).1 1 ((sizedR x).2.2+aheadM (bl (sizedR x).2.1)),⟨⟨#[]⟩,⟨#[]⟩,0⟩)else
  ((leafR (RM fb g) (sizedR x).1 ((sizedR x).2.1.extract (aheadM (bl (sizedR x).2.1)+1) (sizedR x).2.1.size) ((sizedR x).2.2+aheadM (bl (sizedR x).2.1)+1)).1,
   ⟨(sizedR x).2.1.extract 0 (aheadM (bl (sizedR x).2.1)),(leafR (RM fb g) (sizedR x).1 ((sizedR x).2.1.extract (aheadM (bl (sizedR x).2.1)+1) (sizedR x).2.1.size) ((sizedR x).2.2+aheadM (bl (sizedR x).2.1)+1)).2.1,
    (leafR (RM fb g) (sizedR x).1 ((sizedR x).2.1.extract (aheadM (bl (sizedR x).2.1)+1) (sizedR x).2.1.size) ((sizedR x).2.2+aheadM (bl (sizedR x).2.1)+1)).2.2⟩)):=rfl
 rw[hN];clear hN;generalize sizedR x=z at *;obtain⟨y,t,at_⟩:=z;simp only at k1 hky hts hat ⊢;have han:=(qp3 (bl t)).2;have k3:=fun w=>kw7 t w (by omega)
 rw[jb1]at han;generalize hne:aheadM (bl t)=n at *;have k2:=fun w h=>jc5 w r y h
 have k2b:=fun w=>jb8 y.e y.a w
 have k4:=fun w h=>jj1 w r y 1 (at_+n) h
 have hw1:IntKind.i64.wrap (at_+(n:Int))=at_+n:=wi64 _ (by omega) (by omega);have hw2:IntKind.i64.wrap (at_+(n:Int)+1)=at_+n+1:=wi64 _ (by omega) (by omega);have hw3:IntKind.i64.wrap ((n:Int)+1)=(n:Int)+1:=wi64 _ (by omega) (by omega);have hrl:=h.lt;obtain⟨W,hW⟩:∃W,W=(w.alloc (.cells #[.pointer (some ⟨r,0,none⟩),.int .i64 kd,.int .i64 fb,.bool g,.int .i64 bu] 128)).alloc (.cells #[.string ⟨#[]⟩,.string ⟨#[]⟩,.int .i64 0] 102):=⟨_,rfl⟩;have hs1:(w.alloc (.cells #[.pointer (some ⟨r,0,none⟩),.int .i64 kd,.int .i64 fb,.bool g,.int .i64 bu] 128)).heap.size=w.heap.size+1:=World.size_alloc _ _;have hbW:Below w.heap.size w W:=by rw[hW];exact bal (bal (Below.refl _ _) _) _
 have hWs:W.heap.size=w.heap.size+2:=by rw[hW,World.size_alloc,World.size_alloc]
 have lc:∀(i:Nat) (v:Value),(#[.pointer (some ⟨r,0,none⟩),.int .i64 kd,.int .i64 fb,.bool g,.int .i64 bu]:Array Value)[i]?=some v→Live W w.heap.size i v:=by
  intro i v hv;rw[hW];exact((Live.fresh w _ 128 i v hv).alloc _)
 have SC:∀w',W.grownBy w' (some r)→Live w' w.heap.size 0 (.pointer (some ⟨r,0,none⟩))∧Live w' w.heap.size 1 (.int .i64 kd)∧Live w' w.heap.size 2 (.int .i64 fb)∧Live w' w.heap.size 3 (.bool g)∧Live w' w.heap.size 4 (.int .i64 bu):=fun w' hg=>
  ⟨jm5 (lc 0 _ rfl) hg (by simp;omega),jm5 (lc 1 _ rfl) hg (by simp;omega),jm5 (lc 2 _ rfl) hg (by simp;omega),jm5 (lc 3 _ rfl) hg (by simp;omega),jm5 (lc 4 _ rfl) hg (by simp;omega)⟩
 have NC:∀w',W.grownBy w' (some r)→Live w' (w.heap.size+1) 0 (.string ⟨#[]⟩)∧Live w' (w.heap.size+1) 1 (.string ⟨#[]⟩)∧Live w' (w.heap.size+1) 2 (.int .i64 0):=by
  intro w' hg;have m:∀(i:Nat) (v:Value),(#[.string ⟨#[]⟩,.string ⟨#[]⟩,.int .i64 0]:Array Value)[i]?=some v→Live W (w.heap.size+1) i v:=by
   intro i v hv;rw[hW,←hs1];exact Live.fresh _ _ 102 i v hv
  exact⟨jm5 (m 0 _ rfl) hg (by simp;omega),jm5 (m 1 _ rfl) hg (by simp;omega),jm5 (m 2 _ rfl) hg (by simp;omega)⟩
 have hIW:=h.bel hbW;have hTW:=hT.bel hbW;have hgW:w.grownBy W (some r):=jc1 hbW;have hS0:=SC W (gr_refl _ _);have K1:=Lib.hid k1;have K2:=Lib.hid k2;have K2B:=Lib.hid k2b;have K3:=Lib.hid k3;have K4:=Lib.hid k4;have HGW:=Lib.hid hgW;have HTW:=Lib.hid hTW;have HIW:=Lib.hid hIW;have HSC:=Lib.hid SC;have HNC:=Lib.hid NC;have HWS:=Lib.hid hWs;have HNE:=Lib.hid hne;clear k1 k2 k2b k3 k4 hgW hTW hIW SC NC hWs hne;clear lc hs1 hT h hbW hk;obtain⟨⟨s0,_⟩,⟨s1,_⟩,⟨s2,_⟩,⟨s3,_⟩,⟨s4,_⟩⟩:=hS0;by_cases he:y.e=0
 · rw[if_neg (by simpa using he)]
   have hd:(!decide (y.e=0))=false:=by simpa using he
   rw[hd]at K2B;clear he hd;have X61:∀h,(⟨#[61]⟩:ByteArray)[0]'h=61:=fun h=>rfl
   by_cases hn0:n=0
   · rw[if_pos (.inl hn0)]
     have b0:((n:Int)==0)=true:=by simp[hn0]
     clear X61 hn0
     go_enter Tryz.func82,Tryz.ntmps82
     go_wp2_with fail
     rw[←hW];clear hW
     go_wp2_with (first
      | (go_at_call 79;refine(K1.out _ HIW.out).mono ?_;rintro e w1 ⟨rfl,hi1,hg1⟩;obtain⟨⟨p0,_⟩,⟨p1,_⟩,⟨p2,_⟩,⟨p3,_⟩,⟨p4,_⟩⟩:=HSC.out _ hg1)
      | (go_at_call 43;refine(K2.out _ hi1).mono ?_;rintro e w2 ⟨rfl,hb2⟩;have hg2:=jb3 hg1 (jc1 hb2))
      | (go_at_call 16;refine(K2B.out _).mono ?_;rintro e w3 ⟨rfl,hb3⟩;have hg3:=jb3 hg2 (jc1 hb3))
      | (go_at_call 99;refine(K3.out _).mono ?_;rintro e w4 ⟨rfl,hb4⟩;have hg4:=jb3 hg3 (jc1 hb4);obtain⟨⟨p0,_⟩,⟨p1,_⟩,⟨p2,_⟩,⟨p3,_⟩,⟨p4,_⟩⟩:=HSC.out _ hg4;have hi4:=((hi1.bel hb2).bel hb3).bel hb4))
     go_quiet (fail)
     go_wp2_with (go_at_call 73;refine(K4.out _ (hi4.bel (bdn (Below.refl _ _) _))).mono ?_;rintro e w5 ⟨rfl,hi5,hg5⟩;have hg6:=jb3 (jx6 hg4 _) hg5;obtain⟨⟨q0,q0'⟩,⟨q1,q1'⟩,⟨q2,q2'⟩⟩:=HNC.out _ hg6)
     refine bodyPost_ret (v:=.agg #[.string ⟨#[]⟩,.string ⟨#[]⟩,.int .i64 0]) (by simp[results,Tryz.results82,go_sem,q0,q1,q2,q0',q1',q2']) rfl ?_;exact⟨rfl,hi5.gr (jb3 (jb3 (jc0 _ _ _ _) (jc0 _ _ _ _)) (jc0 _ _ _ _)) (by simp;omega),jb9 (jb9 (jb9 (jb3 HGW.out hg6) (by simp) _) (by simp) _) (by simp) _⟩
   by_cases hns:n=t.size
   · rw[if_pos (.inr (by rw[List.getElem?_eq_none (by rw[jb1];omega)];simp))]
     have b0:((n:Int)==0)=false:=by simpa using hn0
     have b1:((n:Int)==(t.size:Int))=true:=by simp[hns]
     clear X61 hns
     go_enter Tryz.func82,Tryz.ntmps82
     go_wp2_with fail
     rw[←hW];clear hW
     go_wp2_with (first
      | (go_at_call 79;refine(K1.out _ HIW.out).mono ?_;rintro e w1 ⟨rfl,hi1,hg1⟩;obtain⟨⟨p0,_⟩,⟨p1,_⟩,⟨p2,_⟩,⟨p3,_⟩,⟨p4,_⟩⟩:=HSC.out _ hg1)
      | (go_at_call 43;refine(K2.out _ hi1).mono ?_;rintro e w2 ⟨rfl,hb2⟩;have hg2:=jb3 hg1 (jc1 hb2))
      | (go_at_call 16;refine(K2B.out _).mono ?_;rintro e w3 ⟨rfl,hb3⟩;have hg3:=jb3 hg2 (jc1 hb3))
      | (go_at_call 99;refine(K3.out _).mono ?_;rintro e w4 ⟨rfl,hb4⟩;have hg4:=jb3 hg3 (jc1 hb4);obtain⟨⟨p0,_⟩,⟨p1,_⟩,⟨p2,_⟩,⟨p3,_⟩,⟨p4,_⟩⟩:=HSC.out _ hg4;have hi4:=((hi1.bel hb2).bel hb3).bel hb4))
     go_quiet (fail)
     go_wp2_with (go_at_call 73;refine(K4.out _ (hi4.bel (bdn (Below.refl _ _) _))).mono ?_;rintro e w5 ⟨rfl,hi5,hg5⟩;have hg6:=jb3 (jx6 hg4 _) hg5;obtain⟨⟨q0,q0'⟩,⟨q1,q1'⟩,⟨q2,q2'⟩⟩:=HNC.out _ hg6)
     refine bodyPost_ret (v:=.agg #[.string ⟨#[]⟩,.string ⟨#[]⟩,.int .i64 0]) (by simp[results,Tryz.results82,go_sem,q0,q1,q2,q0',q1',q2']) rfl ?_;exact⟨rfl,hi5.gr (jb3 (jb3 (jc0 _ _ _ _) (jc0 _ _ _ _)) (jc0 _ _ _ _)) (by simp;omega),jb9 (jb9 (jb9 (jb3 HGW.out hg6) (by simp) _) (by simp) _) (by simp) _⟩
   obtain⟨c,hc⟩:=jb6 (bl t) n (by rw[jb1];omega);have X:∀h,t[n]'h=c:=jc7 t n c hc;have b0:((n:Int)==0)=false:=by simpa using hn0
   have b1:((n:Int)==(t.size:Int))=false:=by simp;omega
   have hlt:n<t.size:=by omega
   by_cases hc61:c=61
   · rw[if_neg (by rw[not_or];exact⟨hn0,by rw[hc,hc61];simp⟩)]
     subst hc61;have k5:∀w',W.grownBy w' (some r)→InX w' r y→TW w'→Calls Tryz.prog 80 #[.agg #[.pointer (some ⟨r,0,none⟩),.int .i64 kd,.int .i64 fb,.bool g,.int .i64 bu],.string (t.extract (n+1) t.size),.int .i64 (at_+n+1)] w' fun v w''=>
      v=.returned (.agg #[.string (leafR (RM fb g) y (t.extract (n+1) t.size) (at_+n+1)).2.1,.int .i64 (leafR (RM fb g) y (t.extract (n+1) t.size) (at_+n+1)).2.2])∧InX w'' r (leafR (RM fb g) y (t.extract (n+1) t.size) (at_+n+1)).1∧W.grownBy w'' (some r):=by
      intro w' hg hi hT';refine(kp4 w' r y kd fb bu g (t.extract (n+1) t.size) (at_+n+1) hT' hr hi (by rw[ByteArray.size_extract];omega) (by omega) (by omega)).mono ?_;rintro e w'' ⟨h1,h2,h3⟩;exact⟨h1,h2,jb3 hg h3⟩
     generalize leafR (RM fb g) y (t.extract (n+1) t.size) (at_+n+1)=Z at *;obtain⟨z,u,cc⟩:=Z;simp only at k5 ⊢;have i0:(0:Int)≤(n:Int):=by omega
     have i1:(n:Int)≤(t.size:Int):=by omega
     have i2:(0:Int)≤(n:Int)+1:=by omega
     have i3:(n:Int)+1≤(t.size:Int):=by omega
     have i4:((n:Int)+1).toNat=n+1:=by omega
     have K5:=Lib.hid k5;clear k5;clear hc
     go_enter Tryz.func82,Tryz.ntmps82
     go_wp2_with fail
     rw[←hW];clear hW
     go_wp2_with (first
      | (go_at_call 79;refine(K1.out _ HIW.out).mono ?_;rintro e w1 ⟨rfl,hi1,hg1⟩;obtain⟨⟨p0,_⟩,⟨p1,_⟩,⟨p2,_⟩,⟨p3,_⟩,⟨p4,_⟩⟩:=HSC.out _ hg1)
      | (go_at_call 43;refine(K2.out _ hi1).mono ?_;rintro e w2 ⟨rfl,hb2⟩;have hg2:=jb3 hg1 (jc1 hb2))
      | (go_at_call 16;refine(K2B.out _).mono ?_;rintro e w3 ⟨rfl,hb3⟩;have hg3:=jb3 hg2 (jc1 hb3))
      | (go_at_call 99;refine(K3.out _).mono ?_;rintro e w4 ⟨rfl,hb4⟩;have hg4:=jb3 hg3 (jc1 hb4);obtain⟨⟨p0,_⟩,⟨p1,_⟩,⟨p2,_⟩,⟨p3,_⟩,⟨p4,_⟩⟩:=HSC.out _ hg4;have hi4:=((hi1.bel hb2).bel hb3).bel hb4))
     go_quiet (fail)
     go_wp2
     go_region_held3 (fun w'=>w'.cell? ⟨w.heap.size,0,none⟩=some (.pointer (some ⟨r,0,none⟩))∧w'.cell? ⟨w.heap.size,1,none⟩=some (.int .i64 kd)∧w'.cell? ⟨w.heap.size,2,none⟩=some (.int .i64 fb)∧w'.cell? ⟨w.heap.size,3,none⟩=some (.bool g)∧w'.cell? ⟨w.heap.size,4,none⟩=some (.int .i64 bu))
      (first|go_keep|(obtain⟨⟨z0,_⟩,⟨z1,_⟩,⟨z2,_⟩,⟨z3,_⟩,⟨z4,_⟩⟩:=HSC.out _ hg5;exact⟨z0,z1,z2,z3,z4⟩))
      ((go_at_call 80;refine(K5.out _ ?_ ?_ ?_).mono ?_;(first|exact jx6 hg4 _|exact jb3 (jx6 hg4 _) (jc1 (Below.refl _ _).drew));(first|exact hi4.bel (bdn (Below.refl _ _) _)|exact(hi4.bel (bdn (Below.refl _ _) _)).bel (Below.refl _ _).drew);(first|exact(HTW.out.grown hg4 (by intro k hk;cases hk;exact hr)).drewN _|exact((HTW.out.grown hg4 (by intro k hk;cases hk;exact hr)).drewN _).drew);rintro e w5 ⟨rfl,hi5,hg5⟩;obtain⟨⟨q0,q0'⟩,⟨q1,q1'⟩,⟨q2,q2'⟩⟩:=HNC.out _ hg5))
     go_wp2_with fail
     refine bodyPost_ret (v:=.agg #[.string (t.extract 0 n),.string u,.int .i64 cc]) (by simp[results,Tryz.results82,go_sem,q0,q1,q2,q0',q1',q2']) rfl ?_;exact⟨rfl,hi5.gr (jb3 (jb3 (jc0 _ _ _ _) (jc0 _ _ _ _)) (jc0 _ _ _ _)) (by simp;omega),jb9 (jb9 (jb9 (jb3 HGW.out hg5) (by simp) _) (by simp) _) (by simp) _⟩
   · rw[if_pos (.inr (by rw[hc];simpa using hc61))]
     have hcz:¬(c.toNat:Int)=61:=fun h=>hc61 (UInt8.toNat_inj.1 (by show c.toNat=61;omega))
     have b2:((c.toNat:Int) != 61)=true:=by simpa using hcz
     clear hc
     go_enter Tryz.func82,Tryz.ntmps82
     go_wp2_with fail
     rw[←hW];clear hW
     go_wp2_with (first
      | (go_at_call 79;refine(K1.out _ HIW.out).mono ?_;rintro e w1 ⟨rfl,hi1,hg1⟩;obtain⟨⟨p0,_⟩,⟨p1,_⟩,⟨p2,_⟩,⟨p3,_⟩,⟨p4,_⟩⟩:=HSC.out _ hg1)
      | (go_at_call 43;refine(K2.out _ hi1).mono ?_;rintro e w2 ⟨rfl,hb2⟩;have hg2:=jb3 hg1 (jc1 hb2))
      | (go_at_call 16;refine(K2B.out _).mono ?_;rintro e w3 ⟨rfl,hb3⟩;have hg3:=jb3 hg2 (jc1 hb3))
      | (go_at_call 99;refine(K3.out _).mono ?_;rintro e w4 ⟨rfl,hb4⟩;have hg4:=jb3 hg3 (jc1 hb4);obtain⟨⟨p0,_⟩,⟨p1,_⟩,⟨p2,_⟩,⟨p3,_⟩,⟨p4,_⟩⟩:=HSC.out _ hg4;have hi4:=((hi1.bel hb2).bel hb3).bel hb4))
     go_quiet (fail)
     go_wp2_with (go_at_call 73;refine(K4.out _ (hi4.bel (bdn (Below.refl _ _) _))).mono ?_;rintro e w5 ⟨rfl,hi5,hg5⟩;have hg6:=jb3 (jx6 hg4 _) hg5;obtain⟨⟨q0,q0'⟩,⟨q1,q1'⟩,⟨q2,q2'⟩⟩:=HNC.out _ hg6)
     refine bodyPost_ret (v:=.agg #[.string ⟨#[]⟩,.string ⟨#[]⟩,.int .i64 0]) (by simp[results,Tryz.results82,go_sem,q0,q1,q2,q0',q1',q2']) rfl ?_;exact⟨rfl,hi5.gr (jb3 (jb3 (jc0 _ _ _ _) (jc0 _ _ _ _)) (jc0 _ _ _ _)) (by simp;omega),jb9 (jb9 (jb9 (jb3 HGW.out hg6) (by simp) _) (by simp) _) (by simp) _⟩
 · rw[if_pos he]
   have hd:(!decide (y.e=0))=true:=by simpa using he
   rw[hd]at K2B
   go_enter Tryz.func82,Tryz.ntmps82
   go_wp2_with fail
   rw[←hW];clear hW
   go_wp2_with (first
    | (go_at_call 79;refine(K1.out _ HIW.out).mono ?_;rintro e w1 ⟨rfl,hi1,hg1⟩;obtain⟨⟨p0,_⟩,⟨p1,_⟩,⟨p2,_⟩,⟨p3,_⟩,⟨p4,_⟩⟩:=HSC.out _ hg1)
    | (go_at_call 43;refine(K2.out _ hi1).mono ?_;rintro e w2 ⟨rfl,hb2⟩;have hg2:=jb3 hg1 (jc1 hb2))
    | (go_at_call 16;refine(K2B.out _).mono ?_;rintro e w3 ⟨rfl,hb3⟩;have hg3:=jb3 hg2 (jc1 hb3);obtain⟨⟨q0,q0'⟩,⟨q1,q1'⟩,⟨q2,q2'⟩⟩:=HNC.out _ hg3;have hi3:=(hi1.bel hb2).bel hb3))
   refine bodyPost_ret (v:=.agg #[.string ⟨#[]⟩,.string ⟨#[]⟩,.int .i64 0]) (by simp[results,Tryz.results82,go_sem,q0,q1,q2,q0',q1',q2']) rfl ?_;exact⟨rfl,hi3.gr (jb3 (jb3 (jc0 _ _ _ _) (jc0 _ _ _ _)) (jc0 _ _ _ _)) (by simp;omega),jb9 (jb9 (jb9 (jb3 HGW.out hg3) (by simp) _) (by simp) _) (by simp) _⟩
end Go.Proofs.YtagjkmkmphamoaaGreatDoor
