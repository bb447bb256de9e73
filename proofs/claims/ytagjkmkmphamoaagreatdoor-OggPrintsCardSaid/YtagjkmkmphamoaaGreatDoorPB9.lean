/- B9 -/
import Derived.Deep.RegionHeld3
import Derived.Test.YtagjkmkmphamoaaGreatDoorPQv
import Derived.Test.YtagjkmkmphamoaaGreatDoorPB5
import Derived.Test.YtagjkmkmphamoaaGreatDoorPA7
import Derived.Test.YtagjkmkmphamoaaGreatDoorPB0
set_option linter.all false
set_option maxHeartbeats 16000000
namespace Go.Proofs.YtagjkmkmphamoaaGreatDoor
open Go.RowKit
theorem vf9(l:List PG)(i:Nat)(p:PG)(h:l[i]?=some p)(j:Nat)(v:Value)(hj:((rgC p).toList)[j]?=some v):(rgcells l)[i*6+j]?=some v:=by
 have hj6:j<6:=(List.getElem?_eq_some_iff.1 hj).1
 induction l generalizing i with
 | nil=>simp at h
 | cons q r ih=>
  have hl:((rgC q).toList).length=6:=rfl;unfold rgcells;rw[List.flatMap_cons];cases i with
  | zero=>
   simp only[List.getElem?_cons_zero,Option.some.injEq]at h;subst h;rw[Nat.zero_mul,Nat.zero_add,List.getElem?_append_left (by rw[hl];exact hj6)];exact hj
  | succ i=>
   rw[List.getElem?_append_right (by rw[hl];omega),hl,show(i+1)*6+j-6=i*6+j by omega];exact ih i (by simpa using h)
theorem qq9{w:World}{av:Option Addr}{l:List PG}(hc:∀(j:Nat) (x:Value),(rgcells l)[j]?=some x→∃g o,av=some ⟨g,o,none⟩∧w.cell? ⟨g,o+j,none⟩=some x)(k:Nat)(p:PG)(hk:l[k]?=some p):
 ∃g o,av=some ⟨g,o,none⟩∧w.cell? ⟨g,o+k*6,none⟩=some (.int .i64 p.fl.toNat)∧w.cell? ⟨g,o+k*6+1,none⟩=some (.int .u64 p.po)∧w.cell? ⟨g,o+k*6+2,none⟩=some (.int .u64 p.se)∧w.cell? ⟨g,o+k*6+3,none⟩=some (.int .u64 p.nu)∧w.cell? ⟨g,o+k*6+4,none⟩=some (.string p.la)∧w.cell? ⟨g,o+k*6+5,none⟩=some (.string p.bo):=by
 have hx:∀(j:Nat) (v:Value),((rgC p).toList)[j]?=some v→∃g o,av=some ⟨g,o,none⟩∧w.cell? ⟨g,o+(k*6+j),none⟩=some v:=fun j v hj=>hc _ _ (vf9 l k p hk j v hj)
 obtain⟨g,o,rfl,c0⟩:=hx 0 _ rfl;have hy:∀(j:Nat) (v:Value),((rgC p).toList)[j]?=some v→w.cell? ⟨g,o+k*6+j,none⟩=some v:=by
  intro j v hj;obtain⟨g',o',e,c⟩:=hx j v hj;simp only[Option.some.injEq,Addr.mk.injEq,and_true]at e;obtain⟨rfl,rfl⟩:=e;rw[Nat.add_assoc];exact c
 exact⟨g,o,rfl,hy 0 _ rfl,hy 1 _ rfl,hy 2 _ rfl,hy 3 _ rfl,hy 4 _ rfl,hy 5 _ rfl⟩
theorem eqRG0(a b c d:Int)(x y:ByteArray)(w:World):(Op.equalIn 10000 40 (.agg #[.int .i64 a,.int .u64 b,.int .u64 c,.int .u64 d,.string x,.string y]) (.agg #[.int .i64 a,.int .u64 b,.int .u64 c,.int .u64 d,.string x,.string y])).run Tryz.prog w=.ok true w:=by
 have hS:Tryz.prog.underlying 40=some (.struct (Tryz.prog.fieldsOf 40)):=by kernel_rfl
 have hp:Tryz.prog.stoodInHeld 40=false:=by kernel_rfl
 rw[show(10000:Nat)=9999+1 from rfl,run_equalIn_agg w 9999 40 _ _ hS hp];simp only[Program.fieldsOf,Tryz.underlying40];simp[go_sem,Op.eqFields]
theorem neqRG(a b c d:Int)(x y:ByteArray)(w:World):(binOp .neq 40 (.agg #[.int .i64 a,.int .u64 b,.int .u64 c,.int .u64 d,.string x,.string y]) (.agg #[.int .i64 a,.int .u64 b,.int .u64 c,.int .u64 d,.string x,.string y])).run Tryz.prog w=.ok (.bool false) w:=by
 rw[run_neq_struct,eqRG0];rfl
theorem qt2(op:BinOp)(x y:Operand)(xs ys:Array Value)(w:World):(eqGuard op 40 x y (.agg xs) (.agg ys)).run Tryz.prog w=.ok () w:=run_eqGuard_agg w op 40 x y xs ys (by kernel_rfl)
def RoRow(w:World)(vn vs:Value)(s:OS):Prop:=Row w vn s.b.ns.length (ntcells s.b.ns)∧Row w vs s.sound.length (rgcells s.sound)
theorem RoRow.keep{w w':World}{vn vs:Value}{s:OS}(h:RoRow w vn vs s)(hb:Below w.heap.size w w'):RoRow w' vn vs s:=⟨h.1.keep hb,h.2.keep hb⟩
set_option maxRecDepth 100000 in
theorem vw5(na va nb vb:Value)(a b:OS)(w:World)(hra:RoRow w na va a)(hrb:RoRow w nb vb b)(hl:likeOS a b)(hnl:a.b.ns.length≤1000000)(hsl:a.sound.length≤1900000):
 Calls Tryz.prog 17 #[.agg (roC na va a),.agg (roC nb vb b),.bool false] w fun e w'=>e=.returned (.bool true)∧Below w.heap.size w w':=by
 obtain⟨l1,l2,l3,l4,l5⟩:=hl;have ks:∀w',Below w.heap.size w w'→Calls Tryz.prog 46 #[.agg #[.string ⟨#[]⟩,.string a.b.vt,.int .i64 a.b.vs,na],.agg #[.string ⟨#[]⟩,.string b.b.vt,.int .i64 b.b.vs,nb],.bool false] w' fun e w''=>e=.returned (.bool true)∧Below w'.heap.size w' w'':=fun w' hb=>xb2 na nb a.b b.b w' (hra.1.keep hb) (hrb.1.keep hb) l3 hnl
 obtain⟨aa,ca,hva,hca⟩:=hra.2;obtain⟨ab,cb,hvb,hcb⟩:=hrb.2;obtain⟨n,hn⟩:∃n,n=a.sound.length:=⟨_,rfl⟩;rw[←l4,←hn]at hvb;rw[←hn]at hva hsl;subst hva hvb;obtain⟨⟨fl,po,se,nu,la,bo⟩,⟨vt,vs,ns⟩,st,sa⟩:=a;obtain⟨fb,⟨vt',vs',ns'⟩,st',sb⟩:=b;unfold roC;simp only at l1 l2 l4 l5 ks hca hcb hn ⊢;subst l1 l2;generalize (fl.toNat:Int)=f at *;have e1:=fun w=>neqRG f po se nu la bo w
 have g1:=fun x y w=>qt2 .neq x y #[.int .i64 f,.int .u64 po,.int .u64 se,.int .u64 nu,.string la,.string bo] #[.int .i64 f,.int .u64 po,.int .u64 se,.int .u64 nu,.string la,.string bo] w
 have hSt:(st.toList==st.toList)=true:=by simp
 obtain⟨W,hW⟩:∃W,W=(w.alloc (.cells #[.int .i64 f,.int .u64 po,.int .u64 se,.int .u64 nu,.string la,.string bo,.string ⟨#[]⟩,.string vt,.int .i64 vs,na,.string st,.slice aa n ca] 48)).alloc (.cells #[.int .i64 f,.int .u64 po,.int .u64 se,.int .u64 nu,.string la,.string bo,.string ⟨#[]⟩,.string vt',.int .i64 vs',nb,.string st,.slice ab n cb] 48):=⟨_,rfl⟩;have hs1:(w.alloc (.cells #[.int .i64 f,.int .u64 po,.int .u64 se,.int .u64 nu,.string la,.string bo,.string ⟨#[]⟩,.string vt,.int .i64 vs,na,.string st,.slice aa n ca] 48)).heap.size=w.heap.size+1:=World.size_alloc _ _;have hbW:Below w.heap.size w W:=by rw[hW];exact bal (bal (Below.refl _ _) _) _
 have la_:∀(i:Nat) (u:Value),(#[.int .i64 f,.int .u64 po,.int .u64 se,.int .u64 nu,.string la,.string bo,.string ⟨#[]⟩,.string vt,.int .i64 vs,na,.string st,.slice aa n ca]:Array Value)[i]?=some u→W.cell? ⟨w.heap.size,i,none⟩=some u:=by
  intro i u hu;rw[hW];exact((Live.fresh w _ 48 i u hu).alloc _).1
 have lb_:∀(i:Nat) (u:Value),(#[.int .i64 f,.int .u64 po,.int .u64 se,.int .u64 nu,.string la,.string bo,.string ⟨#[]⟩,.string vt',.int .i64 vs',nb,.string st,.slice ab n cb]:Array Value)[i]?=some u→W.cell? ⟨w.heap.size+1,i,none⟩=some u:=by
  intro i u hu;rw[hW,←hs1];exact(Live.fresh _ _ 48 i u hu).1
 have a0:=la_ 0 _ rfl;have b0:=lb_ 0 _ rfl;have a1:=la_ 1 _ rfl;have b1:=lb_ 1 _ rfl;have a2:=la_ 2 _ rfl;have b2:=lb_ 2 _ rfl;have a3:=la_ 3 _ rfl;have b3:=lb_ 3 _ rfl;have a4:=la_ 4 _ rfl;have b4:=lb_ 4 _ rfl;have a5:=la_ 5 _ rfl;have b5:=lb_ 5 _ rfl;have a6:=la_ 6 _ rfl;have b6:=lb_ 6 _ rfl;have a7:=la_ 7 _ rfl;have b7:=lb_ 7 _ rfl;have a8:=la_ 8 _ rfl;have b8:=lb_ 8 _ rfl;have a9:=la_ 9 _ rfl;have b9:=lb_ 9 _ rfl;have a10:=la_ 10 _ rfl;have b10:=lb_ 10 _ rfl;have a11:=la_ 11 _ rfl;have b11:=lb_ 11 _ rfl;have A11:=Lib.hid a11;have B11:=Lib.hid b11;have HCA:=Lib.hid hca;have HCB:=Lib.hid hcb;have HN:=Lib.hid hn;have HBW:=Lib.hid hbW;have KS:=Lib.hid ks;have L4:=Lib.hid l4;have L5:=Lib.hid l5;clear hca hcb hn hbW ks l4 l5;clear hs1 la_ lb_ hra hrb l3 hnl
 go_enter Tryz.func17,Tryz.ntmps17
 go_wp2_with fail
 rw[←hW];clear hW
 go_wp2_with (go_at_call 46;(with_reducible refine(KS.out _ HBW.out).mono ?_);rintro e w2 ⟨rfl,hb2⟩;have a11:=kc hb2 a11;have b11:=kc hb2 b11)
 have HB2:=Lib.hid hb2;clear hb2 e1 g1 hSt
 go_loopw [43] (fun iv wr=>∃k:Nat,iv=.int .i64 (k:Int)∧k≤n∧Hid (Below W.heap.size W wr)) (fun iv _=>n-(intOf iv).toNat)
 case atStart=>exact⟨0,rfl,Nat.zero_le _,HB2⟩
 case round=>
  clear HB2 a0 b0 a1 b1 a2 b2 a3 b3 a4 b4 a5 b5 a6 b6 a7 b7 a8 b8 a9 b9 a10 b10 a11 b11;obtain⟨k,rfl,hk,HBE⟩:=hrel;have c3:=kc HBE.out A11.out;have d3:=kc HBE.out B11.out;by_cases hlt:k<n
  · obtain⟨x,hx⟩:=jb6 sa k (by rw[←HN.out];exact hlt)
    obtain⟨y,hy⟩:=jb6 sb k (by rw[←L4.out,←HN.out];exact hlt);have hxy:=L5.out k x y hx hy;obtain⟨ga,oa,rfl,u0,u1,u2,u3,u4,u5⟩:=qq9 HCA.out k x hx;obtain⟨gb,ob,rfl,v0,v1,v2,v3,v4,v5⟩:=qq9 HCB.out k y hy;obtain⟨xf,xp,xs,xn,xl,xo⟩:=x;obtain⟨yf,yp,ys,yn,yl,yo⟩:=y;simp only[PG.mk.injEq,true_and]at hxy;obtain⟨rfl,rfl,rfl,rfl,rfl⟩:=hxy;simp only at u0 u1 u2 u3 u4 u5 v0 v1 v2 v3 v4 v5;generalize (xf.toNat:Int)=q at *;replace u0:=kc HBE.out (kc HBW.out u0);replace v0:=kc HBE.out (kc HBW.out v0);replace u1:=kc HBE.out (kc HBW.out u1);replace v1:=kc HBE.out (kc HBW.out v1);replace u2:=kc HBE.out (kc HBW.out u2);replace v2:=kc HBE.out (kc HBW.out v2);replace u3:=kc HBE.out (kc HBW.out u3);replace v3:=kc HBE.out (kc HBW.out v3);replace u4:=kc HBE.out (kc HBW.out u4);replace v4:=kc HBE.out (kc HBW.out v4);replace u5:=kc HBE.out (kc HBW.out u5);replace v5:=kc HBE.out (kc HBW.out v5);have m0:(0:Int)≤(k:Int):=by omega
    have m1:(k:Int)<(n:Int):=by omega
    have hw1:IntKind.i64.wrap ((k:Int)+1)=(k:Int)+1:=wi64 _ (by omega) (by omega);have e1:=fun w=>neqRG q xp xs 0 xl xo w
    have g1:=fun p_ q_ w=>qt2 .neq p_ q_ #[.int .i64 q,.int .u64 xp,.int .u64 xs,.int .u64 0,.string xl,.string xo] #[.int .i64 q,.int .u64 xp,.int .u64 xs,.int .u64 0,.string xl,.string xo] w
    have n0:=World.new_ne _ _ u0;have n1:=World.new_ne _ _ v0;have n2:=World.new_ne _ _ c3;have n3:=World.new_ne _ _ d3;have hbel:=HBE.out;have HX:=Lib.hid hbel;clear hx hy hbel
    go_upto_region 6 with fail
    go_region_held3 (fun w'=>w'.cell? ⟨w.heap.size,11,none⟩=some (.slice (some ⟨ga,oa,none⟩) n ca)∧w'.cell? ⟨w.heap.size+1,11,none⟩=some (.slice (some ⟨gb,ob,none⟩) n cb)∧w'.cell? ⟨ga,oa+k*6,none⟩=some (.int .i64 q)∧w'.cell? ⟨ga,oa+k*6+1,none⟩=some (.int .u64 xp)∧w'.cell? ⟨ga,oa+k*6+2,none⟩=some (.int .u64 xs)∧w'.cell? ⟨ga,oa+k*6+3,none⟩=some (.int .u64 xn)∧w'.cell? ⟨ga,oa+k*6+4,none⟩=some (.string xl)∧w'.cell? ⟨ga,oa+k*6+5,none⟩=some (.string xo)∧w'.cell? ⟨gb,ob+k*6,none⟩=some (.int .i64 q)∧w'.cell? ⟨gb,ob+k*6+1,none⟩=some (.int .u64 xp)∧w'.cell? ⟨gb,ob+k*6+2,none⟩=some (.int .u64 xs)∧w'.cell? ⟨gb,ob+k*6+3,none⟩=some (.int .u64 yn)∧w'.cell? ⟨gb,ob+k*6+4,none⟩=some (.string xl)∧w'.cell? ⟨gb,ob+k*6+5,none⟩=some (.string xo)) (go_keep) (fail)
    all_goals
     go_wp2_with fail
     exact⟨⟨k+1,by go_num,by omega,Lib.hid (by
      have hz:=HX.out.size
      first
       | exact(bal (bal HX.out _) _).drew
       | exact(((bal (bal HX.out _) _).drew.setCell (by simp;omega) _).setCell (by simp;omega) _))⟩,by simp[intOf];omega⟩
  · have hbz:=HBW.out.trans (HBE.out.mono HBW.out.size)
    have m1:¬(k:Int)<(n:Int):=by omega
    have HBZ:=Lib.hid hbz;clear hbz
    go_wp2_with fail
    go_ret
    exact⟨rfl,HBZ.out⟩
end Go.Proofs.YtagjkmkmphamoaaGreatDoor
namespace Go.Proofs.YtagjkmkmphamoaaGreatDoor
open Go.ChangeShapes Go.WideShapes Go.ChangeAt Go.RowKit Go.ChangeMaps
theorem cells_y8:Tryz.prog.cellsOf 5=1:=by kernel_rfl
theorem xh2:Tryz.prog.cellsOf 23=1:=by kernel_rfl
theorem xh1:Tryz.prog.cellsOf 22=1:=by kernel_rfl
theorem vn1:Tryz.prog.cellsOf 25=4:=by kernel_rfl
theorem kc8:Tryz.prog.cellsOf 27=6:=by kernel_rfl
theorem qv3:Tryz.prog.cellsOf 34=1:=by kernel_rfl
theorem vn0:Tryz.prog.cellsOf 36=11:=by kernel_rfl
def okPG(p:PG):Prop:=okG p∧p.la.size≤maxLen∧p.bo.size≤maxLen
abbrev pgC(p:PG):List Value:=[.int .u8 p.fl.toNat,.int .u64 p.po,.int .u32 p.se,.int .u32 p.nu,.string p.la,.string p.bo]
def okOS(s:OS):Prop:=okPG s.first∧okBk s.b∧s.setup.size≤maxLen∧s.sound.length≤maxLen∧∀p∈s.sound,okPG p
section
variable {H:Type} {enc:TypeId×Value→H} {w:World} {base:Nat} {sp:Nat→Bool} {held:Bool}
theorem u8_of(c:Int)(h:(decide (IntKind.u8.min≤c)&&decide (c≤IntKind.u8.max))=true):∃u:UInt8,(c:Int)=u.toNat:=by
 rw[Bool.and_eq_true,decide_eq_true_eq,decide_eq_true_eq]at h;have m0:IntKind.u8.min=0:=rfl;have m1:IntKind.u8.max=255:=rfl;rw[m0,m1]at h;refine⟨UInt8.ofNat c.toNat,?_⟩;rw[UInt8.toNat_ofNat'];omega
theorem u32_of(c:Int)(h:(decide (IntKind.u32.min≤c)&&decide (c≤IntKind.u32.max))=true):∃u:Nat,(c:Int)=u∧u<4294967296:=by
 rw[Bool.and_eq_true,decide_eq_true_eq,decide_eq_true_eq]at h;have m0:IntKind.u32.min=0:=rfl;have m1:IntKind.u32.max=4294967295:=rfl;rw[m0,m1]at h;exact⟨c.toNat,by omega,by omega⟩
theorem u64_of(c:Int)(h:(decide (IntKind.u64.min≤c)&&decide (c≤IntKind.u64.max))=true):∃u:Nat,(c:Int)=u∧u<18446744073709551616:=by
 rw[Bool.and_eq_true,decide_eq_true_eq,decide_eq_true_eq]at h;have m0:IntKind.u64.min=0:=rfl;have m1:IntKind.u64.max=18446744073709551615:=rfl;rw[m0,m1]at h;exact⟨c.toNat,by omega,by omega⟩
set_option maxRecDepth 100000 in
theorem qf0{fuel:Nat}{cs:List Value}{x:DataW H×List MemPlace}(h:DataW.trod enc Tryz.prog w base sp held fuel 27 cs=some x):
 ∃p:PG,cs=pgC p∧okPG p:=by
 obtain⟨xs,n,_,_,hlen,hx,hf⟩:=DataW.trod_struct Tryz.underlying27 h;rw[kc8]at hlen;have h0:=hf 0 _ rfl;have h1:=hf 1 _ rfl;have h2:=hf 2 _ rfl;simp only[List.getElem_toArray,List.getElem_cons_zero,List.getElem_cons_succ]at h0 h1 h2;rw[vn1]at h0;rw[qd4]at h1 h2
 match cs,hlen with
 | [a,b,c,d,e,f],_=>
  match xs,hx with
  | [x0,x1,x2],_=>
   simp at h0 h1 h2;obtain⟨ys,n1,_,_,hlen1,hx1,hf1⟩:=DataW.trod_struct Tryz.underlying25 h0;have k0:=hf1 0 _ rfl;have k1:=hf1 1 _ rfl;have k2:=hf1 2 _ rfl;have k3:=hf1 3 _ rfl;simp only[List.getElem_toArray,List.getElem_cons_zero,List.getElem_cons_succ]at k0 k1 k2 k3;rw[cells_y8]at k0;rw[xh1]at k1;rw[xh2]at k2 k3
   match ys,hx1 with
   | [y0,y1,y2,y3],_=>
    simp at k0 k1 k2 k3;obtain⟨c0,e0,_,w0⟩:=DataW.trod_int Tryz.underlying5 k0;obtain⟨c1,e1,_,w1⟩:=DataW.trod_int Tryz.underlying22 k1;obtain⟨c2,e2,_,w2⟩:=DataW.trod_int Tryz.underlying23 k2;obtain⟨c3,e3,_,w3⟩:=DataW.trod_int Tryz.underlying23 k3;obtain⟨la,e4,_,hla⟩:=DataW.trod_string Tryz.underlying9 h1;obtain⟨bo,e5,_,hbo⟩:=DataW.trod_string Tryz.underlying9 h2;simp at e0 e1 e2 e3 e4 e5;obtain⟨u0,rfl⟩:=u8_of c0 w0;obtain⟨u1,rfl,l1⟩:=u64_of c1 w1;obtain⟨u2,rfl,l2⟩:=u32_of c2 w2;obtain⟨u3,rfl,l3⟩:=u32_of c3 w3;exact⟨⟨u0,u1,u2,u3,la,bo⟩,by rw[e0,e1,e2,e3,e4,e5],⟨l1,l2,l3⟩,hla,hbo⟩
theorem vk2(l:List PG):(gcells l).length=l.length*6:=by
 induction l with
 | nil=>rfl
 | cons a l ih=>show([_,_,_,_,_,_]++gcells l).length=_;simp[ih];omega
theorem xf4(l:List PG)(i:Nat)(p:PG)(h:l[i]?=some p)(r:Nat)(hr:r<6):(gcells l)[i*6+r]?=(pgC p)[r]?:=by
 induction l generalizing i with
 | nil=>simp at h
 | cons a l ih=>
  have e:gcells (a::l)=pgC a++gcells l:=rfl;rw[e];cases i with
  | zero=>
   simp at h;subst h;rw[List.getElem?_append_left (by simp;omega)];simp
  | succ i=>
   rw[List.getElem?_append_right (by simp;omega),show(i+1)*6+r-(pgC a).length=i*6+r by simp;omega];exact ih i (by simpa using h)
set_option maxRecDepth 100000 in
theorem vd7{fuel:Nat}{v:Value}{x:DataW H×List MemPlace}(h:DataW.trod enc Tryz.prog w base (fun _=>true) held fuel 34 [v]=some x):
 ∃l:List PG,Row w v l.length (gcells l)∧l.length≤maxLen∧∀p∈l,okPG p:=by
 rcases Go.Deep.open_slice Tryz.underlying34 h with⟨hc,_⟩|⟨a,len,cap,m,n,D,Pl,hcs,hb,hl,hm,hmm,_,hi⟩
 · simp at hc
   subst hc;exact⟨[],Row.nil _,Nat.zero_le _,fun n h=>by cases h⟩
 · simp at hcs
   subst hcs;rw[kc8]at hi;simp only[if_true]at hmm;have hex:∀i,i<len→∃p:PG,(∀j,j<6→w.cell? (a.add (i*6+j))=(pgC p)[j]?)∧okPG p:=by
    intro i hil;obtain⟨cs',h1,h2⟩:=hi i (by omega);obtain⟨nt,rfl,h3⟩:=qf0 h2;obtain⟨_,_,h5⟩:=World.cells?_some h1;refine⟨nt,fun j hj=>?_,h3⟩;rw[←Go.Deep.add_add];exact h5 j hj
   obtain⟨f,hf⟩:∃f:Nat→PG,∀i,i<len→(∀j,j<6→w.cell? (a.add (i*6+j))=(pgC (f i))[j]?)∧okPG (f i):=by
    refine⟨fun i=>if h:i<len then(hex i h).choose else⟨0,0,0,0,⟨#[]⟩,⟨#[]⟩⟩,fun i h=>?_⟩;simp only[dif_pos h];exact(hex i h).choose_spec
   refine⟨(List.range len).map f,?_,by rw[List.length_map,List.length_range];exact Nat.le_trans hl hm,fun n hn=>?_⟩
   · rw[List.length_map,List.length_range]
     refine⟨some a,cap,rfl,fun j x hj=>?_⟩;have hjl:j<len*6:=by
      have:=(List.getElem?_eq_some_iff.1 hj).1;rw[vk2,List.length_map,List.length_range]at this;exact this
     have hdiv:j=j/6*6+j%6:=by omega
     have hq:j/6<len:=by omega
     have h1:=(hf (j/6) hq).1 (j%6) (Nat.mod_lt _ (by decide));have g1:=xf4 ((List.range len).map f) (j/6) (f (j/6)) (by rw[List.getElem?_map,List.getElem?_range hq];rfl) (j%6) (Nat.mod_lt _ (by decide));rw[←hdiv]at g1 h1;have hx:w.cell? (a.add j)=some x:=by rw[h1,←g1];exact hj
     have h0:=(hf 0 (by omega)).1 0 (by decide);obtain⟨b,off,p⟩:=a;have hp:p=none:=by simpa[Addr.add]using World.cell?_spot h0
     subst hp;refine⟨b,off,rfl,?_⟩;rw[←Go.WideShapes.add_plain];exact hx
   · obtain⟨i,hi',rfl⟩:=List.mem_map.1 hn
     exact(hf i (by simpa using hi')).2
set_option maxRecDepth 100000 in
theorem qr8{r:Reach}{b0:Nat}{v:Value}{d:DataW H}{ps:List MemPlace}
 (hval:Value.okWide Tryz.prog w r b0 36 v) (hd:DataW.Trod enc Tryz.prog w 0 (fun _=>true) true 36 v d ps):
 ∃(s:OS) (vn vs:Value),v=osV vn vs s∧OsRow w vn vs s∧okOS s:=by
 obtain⟨cs,rfl,hsz⟩:=okWide_struct Tryz.underlying36 hval;rw[vn0]at hsz;obtain⟨fuel,hf⟩:=hd;obtain⟨xs,n,_,_,hlen,hx,hf⟩:=DataW.trod_struct Tryz.underlying36 hf;have h0:=hf 0 _ rfl;have h1:=hf 1 _ rfl;have h2:=hf 2 _ rfl;have h3:=hf 3 _ rfl;simp only[List.getElem_toArray,List.getElem_cons_zero,List.getElem_cons_succ]at h0 h1 h2 h3;rw[kc8]at h0;rw[qv5]at h1;rw[qd4]at h2;rw[qv3]at h3;obtain⟨l⟩:=cs
 match l,hsz with
 | [a,b,c,d',e,f',g',i',j',k',l'],_=>
  match xs,hx with
  | [x0,x1,x2,x3],_=>
   simp[Value.cells]at h0 h1 h2 h3;obtain⟨p,e0,hp⟩:=qf0 h0;obtain⟨ys,n1,_,_,hlen1,hx1,hf1⟩:=DataW.trod_struct Tryz.underlying33 h1;have k0:=hf1 0 _ rfl;have k1:=hf1 1 _ rfl;simp only[List.getElem_toArray,List.getElem_cons_zero,List.getElem_cons_succ]at k0 k1;rw[kc9]at k0;rw[qv4]at k1
   match ys,hx1 with
   | [y0,y1],_=>
    simp at k0 k1;obtain⟨t,s,e1,ht⟩:=qf1 k0;obtain⟨NS,q1,q2,q3⟩:=vd8 k1;obtain⟨S,e2,_,hS⟩:=DataW.trod_string Tryz.underlying9 h2;obtain⟨L,g1,g2,g3⟩:=vd7 h3;simp at e0 e1 e2;obtain⟨a0,a1,a2,a3,a4,a5⟩:=e0;exact⟨⟨p,⟨t,s,NS⟩,S,L⟩,j',l',by unfold osV;rw[a0,a1,a2,a3,a4,a5,e1.1,e1.2,e2],⟨q1,g1⟩,hp,⟨ht,q2,q3⟩,hS,g2,g3⟩
end
end Go.Proofs.YtagjkmkmphamoaaGreatDoor
namespace Go.Proofs.YtagjkmkmphamoaaGreatDoor
open Go.RowKit
def lightP(p:PG):Bool:=decide (p.la.size≤300)&&decide (p.bo.size≤500)
def lightO(s:OS):Bool:=s.sound.all lightP&&decide (s.sound.length≤10)&&decide (s.setup.size≤70000)&&decide (s.first.la.size≤300)&&decide (s.first.bo.size≤500)&&lightM s.b
set_option maxRecDepth 100000 in
theorem kb5(vn vs:Value)(s:OS)(w:World)(hrow:OsRow w vn vs s)(hok:okOS s):
 Calls Tryz.prog 4 #[.agg #[.int .u8 s.first.fl.toNat,.int .u64 s.first.po,.int .u32 s.first.se,.int .u32 s.first.nu,.string s.first.la,.string s.first.bo,.string s.b.vt,.int .i64 s.b.vs,vn,.string s.setup,vs]] w fun e w'=>e=.returned (.bool (lightO s))∧Below w.heap.size w w':=by
 have kl:∀w',Below w.heap.size w w'→Calls Tryz.prog 18 #[.agg #[.string s.b.vt,.int .i64 s.b.vs,vn]] w' fun e w''=>e=.returned (.bool (lightM s.b))∧Below w'.heap.size w' w'':=fun w' hb=>xb7 vn s.b w' (hrow.1.keep hb) hok.2.1
 obtain⟨⟨an,cn,rfl,_⟩,⟨as_,cs_,rfl,hc⟩⟩:=hrow;obtain⟨o1,_,o3,o4,o5⟩:=hok;obtain⟨R,hR⟩:∃R,R=lightO s:=⟨_,rfl⟩;rw[←hR];unfold lightO at hR;generalize lightM s.b=lm at *;obtain⟨n,hn⟩:∃n,n=s.sound.length:=⟨_,rfl⟩;obtain⟨nn,hnn⟩:∃nn,nn=s.b.ns.length:=⟨_,rfl⟩;rw[←hn]at o4 hR ⊢;rw[←hnn]at kl ⊢;have o6:=o1.2.1;have o7:=o1.2.2;clear o1;unfold maxLen at o3 o4 o6 o7;have HC:=Lib.hid hc;have HN:=Lib.hid hn;have HNN:=Lib.hid hnn;have O5:=Lib.hid o5;have HR:=Lib.hid hR;have KL:=Lib.hid kl;clear hc hn hnn o5 hR kl
 go_enter Tryz.func4,Tryz.ntmps4
 go_wp2_with fail
 obtain⟨W,hW⟩:∃W,W=w.alloc (.cells #[.int .u8 s.first.fl.toNat,.int .u64 s.first.po,.int .u32 s.first.se,.int .u32 s.first.nu,.string s.first.la,.string s.first.bo,.string s.b.vt,.int .i64 s.b.vs,.slice an nn cn,.string s.setup,.slice as_ n cs_] 36):=⟨_,rfl⟩;rw[←hW];have hbW:Below w.heap.size w W:=by rw[hW];exact bal (Below.refl _ _) _
 have lc:∀(i:Nat) (u:Value),(#[.int .u8 s.first.fl.toNat,.int .u64 s.first.po,.int .u32 s.first.se,.int .u32 s.first.nu,.string s.first.la,.string s.first.bo,.string s.b.vt,.int .i64 s.b.vs,.slice an nn cn,.string s.setup,.slice as_ n cs_]:Array Value)[i]?=some u→W.cell? ⟨w.heap.size,i,none⟩=some u:=by
  intro i u hu;rw[hW];exact(Live.fresh w _ 36 i u hu).1
 have C4:=Lib.hid (lc 4 _ rfl);have C5:=Lib.hid (lc 5 _ rfl);have C6:=Lib.hid (lc 6 _ rfl);have C7:=Lib.hid (lc 7 _ rfl);have C8:=Lib.hid (lc 8 _ rfl);have C9:=Lib.hid (lc 9 _ rfl);have C10:=Lib.hid (lc 10 _ rfl);clear hW lc;have HBW:=Lib.hid hbW;clear hbW
 go_loopw [8] (fun iv wr=>∃k:Nat,iv=.int .i64 (k:Int)∧k≤n∧Hid ((s.sound.take k).all lightP=true)∧Below W.heap.size W wr) (fun iv _=>n-(intOf iv).toNat)
 case atStart=>exact⟨0,rfl,Nat.zero_le _,Lib.hid (by simp),Below.refl _ _⟩
 case round=>
  obtain⟨k,rfl,hk,hA,hbel⟩:=hrel;have c4:=kc hbel C4.out;have c5:=kc hbel C5.out;have c6:=kc hbel C6.out;have c7:=kc hbel C7.out;have c8:=kc hbel C8.out;have c9:=kc hbel C9.out;have c10:=kc hbel C10.out;by_cases hlt:k<n
  · obtain⟨x,hx⟩:=jb6 s.sound k (by rw[←HN.out];exact hlt)
    obtain⟨g,o,rfl,d0,d1,d2,d3,d4,d5⟩:=g_at HC.out k x hx;have d0:=kc hbel (kc HBW.out d0);have d1:=kc hbel (kc HBW.out d1);have d2:=kc hbel (kc HBW.out d2);have d3:=kc hbel (kc HBW.out d3);have d4:=kc hbel (kc HBW.out d4);have d5:=kc hbel (kc HBW.out d5);have b1:=(O5.out x (List.mem_of_getElem? hx)).2;obtain⟨b1,b2⟩:=b1;unfold maxLen at b1 b2;obtain⟨s1,s2⟩:=vc9 lightP s.sound k x hx hA.out;have hl:lightP x=(decide (x.la.size≤300)&&decide (x.bo.size≤500)):=rfl;rw[hl]at s1 s2;have hbz:=bal hbel (.cells #[.int .u8 x.fl.toNat,.int .u64 x.po,.int .u32 x.se,.int .u32 x.nu,.string x.la,.string x.bo] 27);have S1:=Lib.hid s1;have S2:=Lib.hid s2;have HBZ:=Lib.hid hbz;clear s1 s2 hbz;clear hl;by_cases q1:x.la.size≤300
    · by_cases q2:x.bo.size≤500
      · have s1:=S1.out (by simp[q1,q2])
        have q1':decide ((x.la.size:Int) > 300)=false:=by simp;omega
        have q2':decide ((x.bo.size:Int) > 500)=false:=by simp;omega
        have S1':=Lib.hid s1;clear s1;clear q1 q2
        go_wp2_with fail
        go_roundw
        case rel=>exact⟨k+1,by go_num,by omega,S1',HBZ.out⟩
        case measure=>simp[intOf];omega
      · have s2:=S2.out (by simp[q2])
        have q1':decide ((x.la.size:Int) > 300)=false:=by simp;omega
        have q2':decide ((x.bo.size:Int) > 500)=true:=by simp;omega
        have S2':=Lib.hid s2;clear s2;clear q1 q2
        go_wp2_with fail
        go_ret
        exact⟨jg0 (by rw[HR.out,S2'.out];rfl),HBW.out.trans (HBZ.out.mono HBW.out.size)⟩
    · have s2:=S2.out (by simp[q1])
      have q1':decide ((x.la.size:Int) > 300)=true:=by simp;omega
      have S2':=Lib.hid s2;clear s2;clear q1
      go_wp2_with fail
      go_ret
      exact⟨jg0 (by rw[HR.out,S2'.out];rfl),HBW.out.trans (HBZ.out.mono HBW.out.size)⟩
  · have hkn:k=n:=by omega
    subst hkn;have ha:=hA.out;rw[List.take_of_length_le (by rw[←HN.out];exact Nat.le_refl _)]at ha;have hr:=HR.out;rw[ha,Bool.true_and]at hr;have hbz:=HBW.out.trans (hbel.mono HBW.out.size);have HR2:=Lib.hid hr;have HBZ:=Lib.hid hbz;clear hr hbz;clear ha hA;by_cases q0:k≤10
    · have p0:decide ((k:Int)≤10)=true:=by simp;omega
      by_cases q1:s.setup.size≤70000
      · have p1:decide ((s.setup.size:Int)≤70000)=true:=by simp;omega
        by_cases q2:s.first.la.size≤300
        · have p2:decide ((s.first.la.size:Int)≤300)=true:=by simp;omega
          by_cases q3:s.first.bo.size≤500
          · have p3:decide ((s.first.bo.size:Int)≤500)=true:=by simp;omega
            have hr:=HR2.out;rw[decide_eq_true q0,decide_eq_true q1,decide_eq_true q2,decide_eq_true q3,Bool.true_and,Bool.true_and,Bool.true_and,Bool.true_and]at hr;have HR3:=Lib.hid hr;clear hr q0 q1 q2 q3
            go_wp2_with (go_at_call 18;refine(KL.out _ HBZ.out).mono ?_;rintro e w3 ⟨rfl,hb3⟩)
            go_ret
            exact⟨jg0 (by rw[HR3.out];try simp),HBZ.out.trans (hb3.mono HBZ.out.size)⟩
          · have p3:decide ((s.first.bo.size:Int)≤500)=false:=by simp;omega
            have hr:R=false:=by rw[HR2.out,decide_eq_false q3];simp
            have HR3:=Lib.hid hr;clear hr q0 q1 q2 q3
            go_wp2_with fail
            go_ret
            exact⟨jg0 (by rw[HR3.out];try simp),HBZ.out⟩
        · have p2:decide ((s.first.la.size:Int)≤300)=false:=by simp;omega
          have hr:R=false:=by rw[HR2.out,decide_eq_false q2];simp
          have HR3:=Lib.hid hr;clear hr q0 q1 q2
          go_wp2_with fail
          go_ret
          exact⟨jg0 (by rw[HR3.out];try simp),HBZ.out⟩
      · have p1:decide ((s.setup.size:Int)≤70000)=false:=by simp;omega
        have hr:R=false:=by rw[HR2.out,decide_eq_false q1];simp
        have HR3:=Lib.hid hr;clear hr q0 q1
        go_wp2_with fail
        go_ret
        exact⟨jg0 (by rw[HR3.out];try simp),HBZ.out⟩
    · have p0:decide ((k:Int)≤10)=false:=by simp;omega
      have hr:R=false:=by rw[HR2.out,decide_eq_false q0];simp
      have HR3:=Lib.hid hr;clear hr q0
      go_wp2_with fail
      go_ret
      exact⟨jg0 (by rw[HR3.out];try simp),HBZ.out⟩
theorem vc2(crc:List UInt8→Nat):∀l:List PG,(l.flatMap (gprintL crc)).length=(l.map gsz).sum
 | []=>rfl
 | p::r=>by
  rw[List.flatMap_cons,List.length_append,jg7,vc2 crc r,List.map_cons,List.sum_cons]
  rfl
theorem qg5:∀(l:List PG) (n:Nat),((renumL n l).map gsz).sum=(l.map gsz).sum
 | [],n=>rfl
 | p::r,n=>by
  rw[renumL,List.map_cons,List.sum_cons,qg5 r,List.map_cons,List.sum_cons]
  rfl
theorem vg6(se:Nat):∀(f nu:Nat) (la bo:List UInt8) (op:Bool),((pagesO se f nu la bo op).map gsz).sum≤28*la.length+bo.length:=by
 intro f
 induction f with
 | zero=>intro nu la bo op;rw[pagesO];exact Nat.zero_le _
 | succ f ih=>
  intro nu la bo op;rw[pagesO];split
  · exact Nat.zero_le _
  · next h=>
    have h1:=ih (nu+1) (la.drop 255) (bo.drop (totL (la.take 255))) (openL op (la.take 255));have h2:0<la.length:=List.length_pos_iff.2 h;have h3:gsz (pageO se nu (la.take 255) (bo.take (totL (la.take 255))) op)=27+(la.take 255).length+(bo.take (totL (la.take 255))).length:=by
     unfold gsz pageO;simp only;rw[szL,szL]
    rw[List.map_cons,List.sum_cons,h3];simp only[List.length_take,List.length_drop]at h1 ⊢;omega
structure OSm (S:OS):Prop where
 ok:okO S
 sm:smOS S
 big:bigO S
 g1:okG S.first
 g2:∀p∈S.sound,okG p
 nl:S.b.ns.length≤1000000
 sl:S.sound.length≤1900000
theorem osm_back{S:OS}(h:OSm S):OSm (backO S):=by
 have hk:=back_ok h.ok;have hp:(printL true (utfBk S.b)).length≤8000000:=by rw[qg8];exact h.big.1
 obtain⟨⟨a1,a2⟩,a3,a4,a5,a6,a7⟩:=hk;have hs:∀p∈(backO S).sound,p.la.size≤1073741824∧p.bo.size≤1073741824:=by
  intro p hp;obtain⟨k,hk⟩:=List.getElem?_of_mem hp;obtain⟨q,hq,rfl⟩:=jm0 _ _ _ _ hk;exact h.sm.2.2.2.2 q (List.mem_of_getElem? hq)
 have hl:(backO S).b.ns.length=S.b.ns.length:=by show(utfBk S.b).ns.length=_;simp[utfBk]
 have hsl:(backO S).sound.length=S.sound.length:=jh2 _ _;have hnl:=h.nl;have hsl2:=h.sl;exact⟨⟨⟨a1,a2⟩,a3,a4,a5,a6,a7⟩,⟨⟨by omega,by omega,fun n hn=>⟨by have:=(a6 n hn).1;omega,by have:=(a6 n hn).2;omega⟩⟩,h.sm.2.1,h.sm.2.2.1,by omega,hs⟩,⟨hp,h.big.2.1,by omega⟩,a1.2.2,fun p hp=>(a2 p hp).2.2,by omega,by omega⟩
theorem qm1(s:ByteArray)(w:World)(hs:s.size≤1073741824):Calls Tryz.prog 53 #[.string s] w fun e w'=>e=.returned (.int .i64 (totL (bl s)))∧w=w':=by
 have HL:Hid ((bl s).length=s.size):=jb1 s
 go_enter Tryz.func53,Tryz.ntmps53
 go_wp2_with fail
 go_loop [3,4] (fun nv iv=>∃k:Nat,nv=.int .i64 ((totL ((bl s).take k):Nat):Int)∧iv=.int .i64 (k:Int)∧k≤s.size) (fun _ iv=>s.size-(intOf iv).toNat)
 case atStart=>exact⟨0,by simp[totL],rfl,Nat.zero_le _⟩
 case round=>
  obtain⟨k,rfl,rfl,hk⟩:=hrel;by_cases hlt:k<s.size
  · obtain⟨b,hb⟩:=jb6 (bl s) k (by rw[HL.out];exact hlt)
    have X:∀h,s[k]'h=b:=jc7 s k b hb;have hst:=jr7 (bl s) k b hb;have hle:=jf1 ((bl s).take k);rw[List.length_take]at hle;have hbl:=b.toNat_lt;generalize totL ((bl s).take k)=t at *;have HST:=Lib.hid hst;have j0:(0:Int)≤(k:Int):=by omega
    have j1:(k:Int)<(s.size:Int):=by omega
    have ht:t≤300000000000:=by omega
    have hwr:IntKind.i64.wrap ((t:Int)+b.toNat)=(t:Int)+b.toNat:=wi64 _ (by omega) (by omega);clear hst hb hle
    go_wp2_with fail
    go_round
    case rel=>exact⟨k+1,by rw[HST.out,Int.natCast_add],by go_num,by omega⟩
    case measure=>simp[intOf];omega
  · have hx:totL ((bl s).take k)=totL (bl s):=by rw[List.take_of_length_le (by rw[HL.out];omega)]
    rw[hx];have HX:=Lib.hid hx
    go_wp2_with fail
    go_ret
    exact⟨rfl,rfl⟩
theorem js3{b:Bk}(h:lightM b=true):smBk b∧b.ns.length≤30∧b.vt.size≤150∧∀n∈b.ns,n.name.size≤50∧n.text.size≤150:=by
 unfold lightM at h;simp only[Bool.and_eq_true,decide_eq_true_eq]at h;obtain⟨⟨h1,h2⟩,h3⟩:=h;have h4:∀n∈b.ns,n.name.size≤50∧n.text.size≤150:=by
  intro n hn;have:=List.all_eq_true.1 h1 n hn;unfold lightN at this;simpa using this
 exact⟨⟨by omega,by omega,fun n hn=>by have:=h4 n hn;omega⟩,h2,h3,h4⟩
theorem xb3(n:Nt)(h1:n.name.size≤50)(h2:n.text.size≤150):(noteL n).length≤205:=by
 unfold noteL sizedL;simp only[List.length_append,jb1];show 4+(_+1+_)≤_;omega
theorem vh7(b:Bk)(h1:b.ns.length≤30)(h2:b.vt.size≤150)(h3:∀n∈b.ns,n.name.size≤50∧n.text.size≤150):(printL false b).length≤100000:=by
 have hl:∀l:List Nt,(∀n∈l,n.name.size≤50∧n.text.size≤150)→(l.flatMap noteL).length≤205*l.length:=by
  intro l
  induction l with
  | nil=>intro _;exact Nat.zero_le _
  | cons n l ih=>
   intro h;have:=xb3 n (h n (List.mem_cons_self ..)).1 (h n (List.mem_cons_self ..)).2;have:=ih (fun m hm=>h m (List.mem_cons_of_mem _ hm));rw[List.flatMap_cons,List.length_append,List.length_cons];omega
 have:=hl b.ns h3;unfold printL sizedL;simp only[List.length_append,jb1];have h4:(le4 b.vt.size).length=4:=rfl;have h5:(le4 b.ns.length).length=4:=rfl;rw[h4,h5];generalize (b.ns.flatMap noteL).length=q at *;show _+0≤_;omega
theorem qs0{s:OS}(h:(ocheckM s).1=0):ocheckM s=(0,0):=by
 unfold ocheckM at h ⊢;split at h
 · exact absurd h (by decide)
 · next h1=>
   rw[if_neg h1];split at h
   · next h2=>exact absurd h h2
   · next h2=>
     rw[if_neg h2];split at h
     · exact absurd h (by decide)
     · next h3=>
       rw[if_neg h3];have:∀(l:List PG) (i:Nat),(soundF s.first.se l i).1=0→soundF s.first.se l i=(0,0):=by
        intro l
        induction l with
        | nil=>intro i _;rfl
        | cons p r ih=>
         intro i h;rw[soundF]at h ⊢;split at h
         · exact absurd (show(5:Int)=0 from h) (by decide)
         · next h4=>rw[if_neg h4];exact ih _ h
       exact this _ _ h
theorem qh4{p:PG}(h:opensG p=true):gcheckM p=0:=by
 unfold opensG at h;simp only[Bool.and_eq_true,decide_eq_true_eq]at h;have h1:=h.1.1.1;rw[joinG]at h1;split at h1
 · exact absurd h1 (by decide)
 · next h2=>exact Classical.byContradiction fun x=>h2 (.inl x)
theorem sum_le(N:Nat):∀l:List PG,(∀p∈l,gsz p≤N)→(l.map gsz).sum≤N*l.length
 | [],_=>Nat.zero_le _
 | p::r,h=>by
  have h1:=sum_le N r fun q hq=>h q (by simp[hq])
  have h2:=h p (by simp);rw[List.map_cons,List.sum_cons,List.length_cons,Nat.mul_succ];omega
theorem xb6{s:OS}(hl:lightO s=true)(hk:okOS s)(hc:ocheckM s=(0,0)):OSm s∧(oprintL crcN s).length≤1048576:=by
 unfold lightO at hl;simp only[Bool.and_eq_true,decide_eq_true_eq]at hl;obtain⟨⟨⟨⟨⟨l1,l2⟩,l3⟩,l4⟩,l5⟩,l6⟩:=hl;obtain⟨b1,b2,b3,b4⟩:=js3 l6;have hp:=vh7 s.b b2 b3 b4;have hpt:(printL true s.b).length≤100001:=by
  unfold printL at hp ⊢;rw[List.length_append]at hp ⊢;rw[if_neg (by decide)]at hp;rw[if_pos rfl];simp only[List.length_cons,List.length_nil]at hp ⊢;omega
 obtain⟨c1,c2,c3,c4,c5⟩:=jh4 hc;have hg1:=(jj7 _).1 (qh4 c1);have hso:=(js8 s.first.se s.sound 0).1 c5;have hS:∀p∈s.sound,p.la.size≤300∧p.bo.size≤500:=by
  intro p hp;have:=List.all_eq_true.1 l1 p hp;unfold lightP at this;simpa using this
 have hG:gO s:=by
  refine⟨⟨hg1.1,hg1.2,hk.1.1.1,hk.1.1.2.1,hk.1.1.2.2⟩,fun p hp=>?_⟩;obtain⟨k,hkp⟩:=List.getElem?_of_mem hp;have h1:=(jj7 _).1 (hso k p hkp).1;have h2:=(hk.2.2.2.2 p hp).1;exact⟨h1.1,h1.2,h2⟩
 have h3:(lacesO s).length≤2+(7+(printL true s.b).length)/255+s.setup.size/255:=by
  unfold lacesO pktsO laceL;simp only[List.flatMap_cons,List.flatMap_nil,List.append_nil,List.length_append,List.length_replicate,List.length_cons,List.length_nil,kf5,jb1];omega
 have h4:(pktsO s).flatten.length=7+(printL true s.b).length+s.setup.size:=by
  unfold pktsO;simp only[List.flatten_cons,List.flatten_nil,List.append_nil,List.length_append,kf5,jb1]
 have h2:((midO s).map gsz).sum≤28*(lacesO s).length+(pktsO s).flatten.length:=vg6 _ _ _ _ _ _;have h5:(s.sound.map gsz).sum≤827*s.sound.length:=sum_le 827 _ fun p hp=>by have:=hS p hp;unfold gsz;omega
 have h6:gsz s.first≤827:=by unfold gsz;omega
 have h7:(midO s).length≤(lacesO s).length:=vg7 _ _ _ _ _ _;have h8:(opagesL s).length=(midO s).length+1+s.sound.length:=by
  unfold opagesL;rw[List.length_append,List.length_cons,jh2]
 refine⟨⟨⟨hG,hc,by omega,by omega,fun n hn=>by have:=b4 n hn;omega,by omega⟩,⟨b1,⟨by omega,by omega⟩,by omega,by omega,fun p hp=>by have:=hS p hp;omega⟩,⟨by omega,by omega,by omega⟩,hk.1.1,fun p hp=>(hk.2.2.2.2 p hp).1,by omega,by omega⟩,?_⟩;unfold oprintL;rw[vc2];unfold opagesL;rw[List.map_append,List.sum_append,List.map_cons,List.sum_cons,qg5];omega
theorem qj4{s:OS}(hl:lightO s=true):smOS s:=by
 unfold lightO at hl;simp only[Bool.and_eq_true,decide_eq_true_eq]at hl;obtain⟨⟨⟨⟨⟨l1,l2⟩,l3⟩,l4⟩,l5⟩,l6⟩:=hl;obtain⟨b1,b2,b3,b4⟩:=js3 l6;refine⟨b1,⟨by omega,by omega⟩,by omega,by omega,fun p hp=>?_⟩;have:=List.all_eq_true.1 l1 p hp;unfold lightP at this;simp only[Bool.and_eq_true,decide_eq_true_eq]at this;omega
theorem vx5{s:OS}(h:okO s)(k:Nat)(p:PG)(hp:(opagesL s)[k]?=some p):gG p∧p.se=s.first.se∧p.nu=k:=by
 have hk:=(List.getElem?_eq_some_iff.1 hp).1;have hl:=h.2.2.2.2.2;obtain⟨a,b,_⟩:=qx7 _ _ 0 (kd6 h) k p hp;exact⟨jk3 h p (List.mem_of_getElem? hp),a,by rw[b,Nat.zero_add];exact Nat.mod_eq_of_lt (by omega)⟩
def stK(n:Nat):Nat:=if n/2147483648%2=1 then(n*2%4294967296) ^^^ 79764919 else n*2%4294967296
def rbK(n b:Nat):Nat:=if(n/2147483648+b)%2=1 then(n*2%4294967296) ^^^ 79764919 else n*2%4294967296
def rK(n c:Nat):Nat→Nat
 | 0=>n
 | k+1=>rbK (rK n c k) (c/2^(7-k))
theorem dbl_xor(a b:Nat):(a ^^^ b)*2%4294967296=(a*2%4294967296) ^^^ (b*2%4294967296):=by
 have h1:(a ^^^ b)*2=(a*2) ^^^ (b*2):=by
  have:=Nat.shiftLeft_xor_distrib (a:=a) (b:=b) (i:=1);simpa[Nat.shiftLeft_eq]using this
 have h2:=Nat.xor_mod_two_pow (a:=a*2) (b:=b*2) (n:=32);rw[h1];exact h2
theorem top_xor(a b:Nat):(a ^^^ b)/2147483648%2=(a/2147483648%2) ^^^ (b/2147483648%2):=by
 have h1:=Nat.xor_div_two_pow (a:=a) (b:=b) (n:=31);have h2:=Nat.xor_mod_two_pow (a:=a/2147483648) (b:=b/2147483648) (n:=1);rw[show(2147483648:Nat)=2^31 from rfl]at h2 ⊢;rw[h1];exact h2
theorem vr1(a b:Nat):stK (a ^^^ b)=stK a ^^^ stK b:=by
 unfold stK;rw[dbl_xor,top_xor];generalize a*2%4294967296=x;generalize b*2%4294967296=y;rcases Nat.mod_two_eq_zero_or_one (a/2147483648)with h|h<;>rcases Nat.mod_two_eq_zero_or_one (b/2147483648)with h'|h'<;>rw[h,h']
 · rfl
 · show x ^^^ y ^^^ 79764919=x ^^^ (y ^^^ 79764919)
   rw[Nat.xor_assoc]
 · show x ^^^ y ^^^ 79764919=x ^^^ 79764919 ^^^ y
   rw[Nat.xor_assoc,Nat.xor_assoc,Nat.xor_comm y]
 · show x ^^^ y=x ^^^ 79764919 ^^^ (y ^^^ 79764919)
   rw[Nat.xor_assoc,Nat.xor_comm y,←Nat.xor_assoc 79764919,Nat.xor_self,Nat.zero_xor]
theorem rbK_st(n b:Nat):rbK n b=stK n ^^^ (if b%2=1 then 79764919 else 0):=by
 unfold rbK stK;generalize n*2%4294967296=x;rcases Nat.mod_two_eq_zero_or_one (n/2147483648)with h|h<;>rcases Nat.mod_two_eq_zero_or_one b with h'|h'<;>rw[h,h']
 · rw[if_neg (by omega),if_neg (by decide),if_neg (by decide),Nat.xor_zero]
 · rw[if_pos (by omega),if_neg (by decide),if_pos rfl]
 · rw[if_pos (by omega),if_pos rfl,if_neg (by decide),Nat.xor_zero]
 · rw[if_neg (by omega),if_pos rfl,if_pos rfl,Nat.xor_assoc,Nat.xor_self,Nat.xor_zero]
def stP:Nat→Nat→Nat
 | 0,n=>n
 | k+1,n=>stK (stP k n)
theorem qp9(a b:Nat):∀k,stP k (a ^^^ b)=stP k a ^^^ stP k b
 | 0=>rfl
 | k+1=>by rw[stP,qp9 a b k,vr1];rfl
theorem stP_add(a b:Nat)(n:Nat):stP (a+b) n=stP a (stP b n):=by
 induction a with
 | zero=>rw[Nat.zero_add];rfl
 | succ a ih=>rw[Nat.add_right_comm,stP,ih];rfl
theorem rK_lin(n c:Nat):∀k,rK n c k=stP k n ^^^ rK 0 c k
 | 0=>by rw[rK,rK,stP,Nat.xor_zero]
 | k+1=>by rw[rK,rK_lin n c k,rbK_st,vr1,Nat.xor_assoc,←rbK_st];rfl
theorem rK_byte:∀c,c<256→rK 0 c 8=stP 8 (c*16777216):=by decide +kernel
theorem low_add(x h l:Nat)(hx:x=h*268435456+l)(hl:l<268435456):x=(h*268435456) ^^^ l:=by
 have h1:h*268435456=h <<< 28:=by rw[Nat.shiftLeft_eq]
 rw[hx,h1,Nat.shiftLeft_add_eq_or_of_lt (by omega)];apply Nat.eq_of_testBit_eq;intro i;rw[Nat.testBit_or,Nat.testBit_xor,Nat.testBit_shiftLeft];by_cases hi:i<28
 · simp[show ¬28≤i by omega]
 · rw[Nat.testBit_lt_two_pow (x:=l) (i:=i) (Nat.lt_of_lt_of_le (show l<2^28 by omega) (Nat.pow_le_pow_right (by decide) (by omega)))]
   simp
theorem vr0:∀(k l:Nat),k≤4→l<268435456→stP k l=l*2^k
 | 0,l,_,_=>by rw[stP];omega
 | k+1,l,hk,hl=>by
  rw[stP,vr0 k l (by omega) hl];have h1:(2:Nat)^k≤8:=by
   have:(2:Nat)^k≤2^3:=Nat.pow_le_pow_right (by decide) (by omega);omega
  have h2:l*2^k≤l*8:=Nat.mul_le_mul_left _ h1;unfold stK;rw[if_neg (by omega),Nat.pow_succ,←Nat.mul_assoc];omega
theorem hv_nat:∀k,k<16→hv k=(stP 4 (k*268435456):Nat):=by decide +kernel
theorem xor32(a b:Nat)(ha:a<4294967296)(hb:b<4294967296):bits .xor .u32 (a:Int) (b:Int)=((a ^^^ b:Nat):Int):=by
 have h1:(BitVec.ofInt 32 (a:Int)).toNat=a:=by simp;omega
 have h2:(BitVec.ofInt 32 (b:Int)).toNat=b:=by simp;omega
 have h3:a ^^^ b<2^32:=Nat.xor_lt_two_pow (by omega) (by omega);unfold bits;simp only;rw[BitVec.toNat_xor];show IntKind.u32.wrap (((BitVec.ofInt 32 (a:Int)).toNat ^^^ (BitVec.ofInt 32 (b:Int)).toNat:Nat):Int)=_;rw[h1,h2,IntKind.wrap_u32];omega
theorem stK_lt(n:Nat):stK n<4294967296:=by
 unfold stK;split
 · exact Nat.xor_lt_two_pow (n:=32) (by omega) (by omega)
 · omega
theorem stP_lt(k n:Nat):stP (k+1) n<4294967296:=stK_lt _
theorem vz4(x:Nat)(hx:x<4294967296):nibI (x:Int)=(stP 4 x:Nat):=by
 obtain⟨h,l,e,hh,hl⟩:∃h l,x=h*268435456+l∧h<16∧l<268435456:=⟨x/268435456,x%268435456,by omega,by omega,by omega⟩;have e1:=low_add x h l e hl;have e2:((x:Int)/268435456).toNat=h:=by omega
 have e3:(x:Int)*16%4294967296=((l*16:Nat):Int):=by omega
 unfold nibI;rw[e2,e3,hv_nat h hh,xor32 _ _ (by omega) (stP_lt 3 _)]
 congr 1
 rw[e1,qp9,vr0 4 l (by omega) hl,Nat.xor_comm]
theorem crc_nat(n:Nat)(c:UInt8)(hn:n<4294967296):crcI (n:Int) c=(rK n c.toNat 8:Nat):=by
 have hc:=c.toNat_lt;have h1:((c.toNat:Int)*16777216)=((c.toNat*16777216:Nat):Int):=by omega
 have h2:n ^^^ (c.toNat*16777216)<4294967296:=Nat.xor_lt_two_pow (n:=32) (by omega) (by omega);unfold crcI;rw[h1,xor32 _ _ hn (by omega),vz4 _ h2,vz4 _ (stP_lt 3 _),←stP_add,rK_lin n c.toNat 8,rK_byte _ (by omega),qp9]
end Go.Proofs.YtagjkmkmphamoaaGreatDoor
