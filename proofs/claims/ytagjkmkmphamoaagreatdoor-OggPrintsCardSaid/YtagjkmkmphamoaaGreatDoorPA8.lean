/- A8 -/
import Derived.Shelf.Strings.OnBuilder
import Derived.Deep.RegionHeld3
import Derived.Deep.DrawnRows
import Derived.Test.YtagjkmkmphamoaaGreatDoorPOx
import Derived.Test.YtagjkmkmphamoaaGreatDoorPPp
import Derived.Test.YtagjkmkmphamoaaGreatDoorPA5
import Derived.Test.YtagjkmkmphamoaaGreatDoorPA7
set_option linter.all false
set_option maxHeartbeats 8000000
namespace Go.Proofs.YtagjkmkmphamoaaGreatDoor
open Go.RowKit
def leL(n:Int):Nat→List UInt8
 | 0=>[]
 | k+1=>UInt8.ofNat (n%256).toNat::leL (n/256) k
theorem leL_4(n:Nat):leL n 4=le4 n:=by
 unfold leL leL leL leL leL le4;have h:∀m k:Nat,(k:Int)=m→UInt8.ofNat ((k:Int)%256).toNat=UInt8.ofNat m:=by
  intro m k h;apply UInt8.toNat_inj.1;rw[UInt8.toNat_ofNat',UInt8.toNat_ofNat'];omega
 have e1:(n:Int)/256=((n/256:Nat):Int):=by omega
 have e2:(n:Int)/256/256=((n/65536:Nat):Int):=by omega
 have e3:(n:Int)/256/256/256=((n/16777216:Nat):Int):=by omega
 rw[e3,e2,e1,h n n rfl,h _ _ rfl,h _ _ rfl,h _ _ rfl]
theorem set_pre(p:List UInt8)(j:Nat)(b:UInt8):(p++List.replicate (j+1) (0:UInt8)).set p.length b=(p ++ [b])++List.replicate j 0:=by
 rw[List.set_append_right _ _ (Nat.le_refl _),List.replicate_succ];simp
theorem jn6(n size:Int)(w:World)(h0:0≤n)(h1:n<18446744073709551616):
 Calls Tryz.prog 92 #[.int .u64 n,.int .i64 size] w fun e w'=>e=.returned (.string ⟨(leL n (widthOf size)).toArray⟩)∧Below w.heap.size w w':=by
 obtain⟨i0,hi,hz0,hz1,hz2⟩:=info_parts xd1;have hw8:=kr3 size;have c1:=fun w=>jr6 size w
 generalize widthOf size=m at *;have C1:=Lib.hid c1;clear c1;obtain⟨B,hB⟩:∃B,B=w.heap.size:=⟨_,rfl⟩
 go_enter Tryz.func92,Tryz.ntmps92
 go_wp2_with (first
  | (go_at_call 105;refine(C1.out _).mono ?_;rintro e w' ⟨rfl,rfl⟩)
  | (refine wpList_make_full _ rfl _ _ 140 rfl w.heap.size 5 i0 (.int .u8 0) 1 Tryz.underlying140 hi hz0 hz1 .i64 .i64 (m:Int) (m:Int) m rfl rfl rfl rfl (by rw[hz2];omega) (by unfold maxLen;omega) (Nat.le_refl _) ?_;intro W hown hgrow))
 rw[show(madeCells (Value.int IntKind.u8 0).cells (m*1)).toList=bcells (List.replicate m 0) from by rw[show(Value.int IntKind.u8 0).cells=#[Value.int IntKind.u8 0] from rfl,toList_madeCells_one];simp[bcells]]at hown;have hbel:Below w.heap.size w W:=(Below.refl _ _).grown hgrow (Nat.le_refl _) (by intro k hk;cases hk);clear hgrow;rw[←hB]at hown hbel ⊢;have HBs:=Lib.hid hB;clear hB
 go_loopw [0,12] (fun q i wr=>∃(k:Nat) (x:Int) (p:List UInt8),k≤m∧p.length=k∧0≤x∧x≤n∧q=.int .u64 x∧i=.int .i64 (k:Int)∧leL n m=p++leL x (m-k) ∧
  wr.ownsRow B 5 1 (.slice (some ⟨B,0,none⟩) m m) m (bcells (p++List.replicate (m-k) 0))∧Below B w wr) (fun _ i _=>m-(intOf i).toNat)
 case atStart=>exact⟨0,n,[],Nat.zero_le _,rfl,h0,Int.le_refl _,rfl,rfl,by simp,by simpa using hown,hbel⟩
 case round=>
  obtain⟨k,x,p,hk,hpl,hx0,hx1,rfl,rfl,hbig,hown,hbel⟩:=hrel;by_cases hlt:k<m
  · obtain⟨j,hj⟩:∃j,m-k=j+1:=⟨m-k-1,by omega⟩
    rw[hj]at hown hbig;have hc:wr.cell? ⟨B,k,none⟩=some (.int .u8 0):=by
     rw[hown.cellAt k (by omega)];simp[bcells,List.getElem?_append,hpl]
    have hf:=hown.frozenAt k;have hst:=hown.stored k (.int .u8 ((UInt8.ofNat (x%256).toNat).toNat:Int));have hsp:=set_pre p j (UInt8.ofNat (x%256).toNat);rw[hpl]at hsp;rw[jv3,hsp,jp5 x hx0]at hst;have hj2:m-(k+1)=j:=by omega
    have HS:=Lib.hid hst;have HB:=Lib.hid hbig;have HL:=Lib.hid hpl;have HJ:=Lib.hid hj2;clear hbig hst hown hpl hsp hj hj2
    go_wp2
    go_roundw
    case rel=>exact⟨k+1,x/256,p ++ [UInt8.ofNat (x%256).toNat],by omega,by have:=HL.out;simp;omega,by omega,by omega,rfl,by go_num,by rw[HJ.out,HB.out,leL];simp,by rw[HJ.out];exact HS.out.1,hbel.setCell (Nat.le_refl _) _⟩
    case measure=>simp[intOf];omega
  · have hkm:m-k=0:=by omega
    rw[hkm,List.replicate_zero,List.append_nil]at hown;rw[hkm,leL,List.append_nil]at hbig;have hcv:=jf7 (P:=Tryz.prog) 140 9 Tryz.underlying140 Tryz.underlying5 Tryz.underlying9 hown;have HB:=Lib.hid hbig;clear hbig hkm hpl
    go_wp2
    go_ret
    exact⟨kz4 (by rw[HB.out]),by rw[←HBs.out];exact hbel⟩
theorem kf3:widthOf 4=4:=by decide
theorem kp3(n:Nat)(w:World)(h:n<4611686018427387904):Calls Tryz.prog 58 #[.int .i64 n] w fun e w'=>e=.returned (.string ⟨(le4 n).toArray⟩)∧Below w.heap.size w w':=by
 have k1:=fun w=>jn6 (n:Int) 4 w (by omega) (by omega)
 rw[kf3,leL_4]at k1;have hw:IntKind.u64.wrap (n:Int)=n:=by rw[IntKind.wrap_u64];omega
 have K1:=Lib.hid k1;clear k1
 go_enter Tryz.func58,Tryz.ntmps58
 go_wp2_with (go_at_call 92;refine(K1.out _).mono ?_;rintro e w1 ⟨rfl,hb1⟩)
 go_ret
 exact⟨rfl,hb1⟩
theorem jv1(w:World)(r:Nat)(x:RS)(fr:Bool)(kd fb bu:Int)(g:Bool)(hT:TW w)(hr:4≤r)(h:InX w r x)(hk:okR x)(hs:x.s.size≤1048576):
 Calls Tryz.prog 42 #[.pointer (some ⟨r,0,none⟩),.bool fr,.agg #[.int .i64 kd,.int .i64 fb,.bool g,.int .i64 bu]] w (ParsePost (parseR (RM fb g) fr x) w r):=by
 by_cases hx:x.e=0
 · by_cases hy:(sizedR x).1.e=0
   · by_cases hb:4096<(numR (leafR (RM fb g) (sizedR x).1 (sizedR x).2.1 (sizedR x).2.2).1).2
     · exact vm1 w r x fr kd fb bu g hT hr h hk hs hx hy hb
     · exact qv0 w r x fr kd fb bu g hT hr h hk hs hx hy hb
   · exact qn2 w r x fr kd fb bu g h hk hx hy
 · exact vm2 w r x fr kd fb bu g h hx
def smBk(b:Bk):Prop:=b.vt.size≤1073741824∧b.ns.length≤1073741824∧∀n∈b.ns,n.name.size≤1073741824∧n.text.size≤1073741824
set_option maxRecDepth 100000 in
theorem jp4(v:Value)(b:Bk)(w:World)(hT:TW w)(hrow:Row w v b.ns.length (ntcells b.ns))(hok:smBk b):
 Calls Tryz.prog 30 #[.agg #[.string b.vt,.int .i64 b.vs,v]] w fun e w'=>e=.returned (.agg #[.int .i64 (checkM b).1,.int .i64 (checkM b).2])∧Below w.heap.size w w':=by
 obtain⟨vt,vs,ns⟩:=b;obtain⟨av,cap,rfl,hc⟩:=hrow;obtain⟨o1,o2,o3⟩:=hok;simp only at o1 o2 o3 hc ⊢;have hm:checkM ⟨vt,vs,ns⟩=if(scanL (bl vt)).2.isSome then(2,0)else checkL ns 0:=rfl
 rw[hm];clear hm;obtain⟨n,hn⟩:∃n,n=ns.length:=⟨_,rfl⟩;rw[←hn]at o2 ⊢;obtain⟨W,hW⟩:∃W,W=(w.alloc (.cells #[.string vt,.int .i64 vs,.slice av n cap] 33)).alloc (.cells #[.int .i64 0,.int .i64 0] 54):=⟨_,rfl⟩;have hs1:(w.alloc (.cells #[.string vt,.int .i64 vs,.slice av n cap] 33)).heap.size=w.heap.size+1:=World.size_alloc _ _;have hbW:Below w.heap.size w W:=by rw[hW];exact bal (bal (Below.refl _ _) _) _
 have l0:Live W w.heap.size 0 (.string vt):=by rw[hW];exact(Live.fresh _ _ _ 0 _ rfl).alloc _
 have l2:Live W w.heap.size 2 (.slice av n cap):=by rw[hW];exact(Live.fresh _ _ _ 2 _ rfl).alloc _
 have m0:Live W (w.heap.size+1) 0 (.int .i64 0):=by rw[hW,←hs1];exact Live.fresh _ _ _ 0 _ rfl
 have m1:Live W (w.heap.size+1) 1 (.int .i64 0):=by rw[hW,←hs1];exact Live.fresh _ _ _ 1 _ rfl
 have hTW:=hT.bel hbW;have kv:=fun w hT=>kh8 vt w hT (by omega)
 have c0:=l0.1;obtain⟨C,hC⟩:∃C,C=checkL ns 0:=⟨_,rfl⟩;rw[←hC];have fin:∀(wz:World),Below W.heap.size W wz→∀(a c:Int),Below w.heap.size w ((wz.setCell ⟨w.heap.size+1,0,none⟩ (.int .i64 a)).setCell ⟨w.heap.size+1,1,none⟩ (.int .i64 c)):=fun wz hb a c=>
  ((hbW.trans (hb.mono hbW.size)).setCell (by simp) _).setCell (by simp) _
 have HC:=Lib.hid hc;have HN:=Lib.hid hn;have O3:=Lib.hid o3;have HBW:=Lib.hid hbW;have L0:=Lib.hid l0;have L2:=Lib.hid l2;have M0:=Lib.hid m0;have M1:=Lib.hid m1;have HTW:=Lib.hid hTW;have HCC:=Lib.hid hC;have FIN:=Lib.hid fin;clear hc hn o3 hbW l0 l2 m0 m1 hTW hC fin;cases hv:(scanL (bl vt)).2 with
 | some k=>
  rw[hv]at kv;rw[Option.isSome_some,if_pos rfl];have KV:=Lib.hid kv;clear kv;clear hv hs1
  go_enter Tryz.func30,Tryz.ntmps30
  go_wp2_with fail
  rw[←hW];clear hW
  go_wp2_with (go_at_call 64;refine(KV.out _ HTW.out).mono ?_;rintro e w1 ⟨rfl,hb1⟩;obtain⟨q0,q0'⟩:=M0.out.keep hb1;obtain⟨q1,q1'⟩:=M1.out.keep hb1)
  refine bodyPost_ret (v:=.agg #[.int .i64 2,.int .i64 0]) (by simp[results,Tryz.results30,go_sem,q0,q1,q0',q1']) rfl ?_;exact⟨rfl,FIN.out _ hb1 _ _⟩
 | none=>
  rw[hv]at kv;rw[Option.isSome_none,if_neg (by decide)];have KV:=Lib.hid kv;clear kv;clear hv hs1
  go_enter Tryz.func30,Tryz.ntmps30
  go_wp2_with fail
  rw[←hW];clear hW
  go_wp2_with (go_at_call 64;refine(KV.out _ HTW.out).mono ?_;rintro e w1 ⟨rfl,hb1⟩;have c2:=kc hb1 L2.out.1)
  go_loopw [14] (fun iv wr=>∃k:Nat,iv=.int .i64 (k:Int)∧k≤n∧Hid (checkL (ns.drop k) k=C)∧Below W.heap.size W wr) (fun iv _=>n-(intOf iv).toNat)
  case atStart=>exact⟨0,rfl,Nat.zero_le _,Lib.hid (by rw[List.drop_zero];exact HCC.out.symm),hb1⟩
  case round=>
   obtain⟨k,rfl,hk,hA,hbel⟩:=hrel;obtain⟨q0,q0'⟩:=M0.out.keep hbel;obtain⟨q1,q1'⟩:=M1.out.keep hbel;clear hb1 c2;by_cases hlt:k<n
   · obtain⟨x,hx⟩:=jb6 ns k (by rw[←HN.out];exact hlt)
     obtain⟨g,o,rfl,d0,d1,d2⟩:=qb2 HC.out k x hx;have d0:=kc hbel (kc HBW.out d0);have d1:=kc hbel (kc HBW.out d1);have d2:=kc hbel (kc HBW.out d2);obtain⟨b1,b2⟩:=O3.out x (List.mem_of_getElem? hx);obtain⟨hx1,hx2⟩:=List.getElem?_eq_some_iff.1 hx;have hA2:=hA.out;rw[List.drop_eq_getElem_cons hx1,hx2,checkL]at hA2;have kn:=fun w=>vm6 x.name w (by omega)
     have kt:=fun w hT=>kh8 x.text w hT (by omega)
     have hba:=bal hbel (.cells #[.string x.name,.string x.text,.int .i64 x.set] 102);have f0:=(Live.fresh wr #[.string x.name,.string x.text,.int .i64 x.set] 102 0 _ rfl);have f1:=(Live.fresh wr #[.string x.name,.string x.text,.int .i64 x.set] 102 1 _ rfl);have wk:IntKind.i64.wrap ((k:Int)+1)=(k:Int)+1:=wi64 _ (by omega) (by omega);obtain⟨qa,qa'⟩:=M0.out.keep hba;obtain⟨qb,qb'⟩:=M1.out.keep hba;have HBA:=Lib.hid hba;have F0:=Lib.hid f0;have F1:=Lib.hid f1;clear hba f0 f1;clear hA hx1 hx2 hx;by_cases c1:4096≤k
     · rw[if_pos c1]at hA2
       have c1z:(k:Int) ≥ 4096:=by omega
       have HA2:=Lib.hid hA2;clear hA2
       go_wp2_with fail
       refine bodyPost_ret (v:=.agg #[.int .i64 4,.int .i64 ((k:Int)+1)]) (by simp[results,Tryz.results30,go_sem,qa,qb,qa',qb']) rfl ?_;refine⟨?_,FIN.out _ HBA.out _ _⟩;rw[←HA2.out]
     · rw[if_neg c1]at hA2
       have c1z:¬(k:Int) ≥ 4096:=by omega
       cases hnm:namedNM (bl x.name)with
       | false=>
        rw[hnm]at kn hA2;rw[if_pos rfl]at hA2;have KN:=Lib.hid kn;have HA2:=Lib.hid hA2;clear kn hA2;clear hnm kt
        go_wp2_with (go_at_call 65;refine(KN.out _).mono ?_;rintro e w2 ⟨rfl,hb2⟩;have hb2:=bt HBA.out hb2;obtain⟨qa,qa'⟩:=M0.out.keep hb2;obtain⟨qb,qb'⟩:=M1.out.keep hb2)
        refine bodyPost_ret (v:=.agg #[.int .i64 5,.int .i64 ((k:Int)+1)]) (by simp[results,Tryz.results30,go_sem,qa,qb,qa',qb']) rfl ?_;refine⟨?_,FIN.out _ hb2 _ _⟩;rw[←HA2.out]
       | true=>
        rw[hnm]at kn hA2;rw[if_neg (by decide)]at hA2;cases hvx:(scanL (bl x.text)).2 with
        | some q=>
         rw[hvx]at kt hA2;rw[Option.isSome_some,if_pos rfl]at hA2;have KN:=Lib.hid kn;have KT:=Lib.hid kt;have HA2:=Lib.hid hA2;clear kn kt hA2;clear hnm hvx
         go_wp2_with (first
          | (go_at_call 65;refine(KN.out _).mono ?_;rintro e w2 ⟨rfl,hb2⟩;have hbx:=bt HBA.out hb2;obtain⟨g1,_⟩:=F1.out.keep hb2)
          | (go_at_call 64;refine(KT.out _ (HTW.out.bel hbx)).mono ?_;rintro e w3 ⟨rfl,hb3⟩;have hby:=bt hbx hb3;obtain⟨qa,qa'⟩:=M0.out.keep hby;obtain⟨qb,qb'⟩:=M1.out.keep hby))
         refine bodyPost_ret (v:=.agg #[.int .i64 2,.int .i64 ((k:Int)+1)]) (by simp[results,Tryz.results30,go_sem,qa,qb,qa',qb']) rfl ?_;refine⟨?_,FIN.out _ hby _ _⟩;rw[←HA2.out]
        | none=>
         rw[hvx]at kt hA2;rw[Option.isSome_none,if_neg (by decide)]at hA2;have KN:=Lib.hid kn;have KT:=Lib.hid kt;have HA2:=Lib.hid hA2;clear kn kt hA2;clear hnm hvx
         go_wp2_with (first
          | (go_at_call 65;refine(KN.out _).mono ?_;rintro e w2 ⟨rfl,hb2⟩;have hbx:=bt HBA.out hb2;obtain⟨g1,_⟩:=F1.out.keep hb2)
          | (go_at_call 64;refine(KT.out _ (HTW.out.bel hbx)).mono ?_;rintro e w3 ⟨rfl,hb3⟩;have hby:=bt hbx hb3))
         go_roundw
         case rel=>exact⟨k+1,by go_num,by omega,HA2,hby⟩
         case measure=>simp[intOf];omega
   · have hkn:k=n:=by omega
     subst hkn;have ha:=hA.out;rw[List.drop_of_length_le (by rw[←HN.out];exact Nat.le_refl _)]at ha;have hr:C=(0,0):=by rw[←ha];rfl
     have HR:=Lib.hid hr;clear hr;clear ha hA
     go_wp2_with fail
     refine bodyPost_ret (v:=.agg #[.int .i64 0,.int .i64 0]) (by simp[results,Tryz.results30,go_sem,q0,q1,q0',q1']) rfl ?_;refine⟨?_,FIN.out _ hbel _ _⟩;rw[HR.out]
theorem jm6:(Tryz.prog.info? 9).map (fun i=>(i.zero,i.size,i.bytes))=some (some (.string ⟨#[]⟩),1,16):=by kernel_rfl
theorem qj7(xs:List (List UInt8)):Lib.join xs []=xs.flatten:=by
 cases xs with
 | nil=>rfl
 | cons x r=>rw[Lib.join_cons,Lib.joinTail,List.flatten_cons];simp
theorem jd4(l m:List ByteArray):scells (l++m)=scells l++scells m:=by simp[scells]
set_option maxRecDepth 100000 in
theorem jh3(B:Nat)(v:Value)(xs:List ByteArray)(w:World)(hown:w.ownsRow B 9 1 v xs.length (scells xs))(hne:xs ≠ [])(hn:xs.length≤1073741824)(hlen:(xs.map bl).flatten.length≤140737488355328):
 Calls Tryz.prog 26 #[v] w fun e w'=>e=.returned (.string ⟨(xs.map bl).flatten.toArray⟩)∧Below w.heap.size w w':=by
 have hr:=jc2 hown;have hcap:∃g cap,v=.slice (some ⟨g,0,none⟩) xs.length cap∧xs.length≤cap∧g<w.heap.size:=by
  rcases hown.2 with⟨_,h⟩|⟨g,cap,cur,rfl,_,hh,hnc,_⟩
  · exact absurd (List.eq_nil_of_length_eq_zero h) hne
  · exact⟨g,cap,rfl,hnc,(Array.getElem?_eq_some_iff.1 hh).1⟩
 obtain⟨g,cap,rfl,hc,hg⟩:=hcap;have hcells:∀(j:Nat) x,xs[j]?=some x→w.cell? ⟨g,0+j,none⟩=some (.string x):=by
  intro j x hx;obtain⟨a,c,e,h⟩:=hr;simp only[Value.slice.injEq]at e;obtain⟨rfl,_,_⟩:=e;obtain⟨g',o',e',hcell⟩:=h j (.string x) (by simp[scells,hx]);simp only[Option.some.injEq,Addr.mk.injEq,and_true]at e';obtain⟨rfl,rfl⟩:=e';exact hcell
 have k1:=Tryz.strings_Join g 0 cap xs ⟨#[]⟩ w hcells hg (by omega) hc (by show(Lib.join (xs.map bl) []).length≤_;rw[qj7];exact hlen);have k1:Calls Tryz.prog 57 #[.slice (some ⟨g,0,none⟩) xs.length cap,.string ⟨#[]⟩] w fun e w'=>e=.returned (.string ⟨(xs.map bl).flatten.toArray⟩)∧Below w.heap.size w w':=by
  have e:Lib.join (xs.map fun x=>x.data.toList) (⟨#[]⟩:ByteArray).data.toList=(xs.map bl).flatten:=qj7 _;rw[e]at k1;exact k1
 generalize (xs.map bl).flatten=r at *;have K1:=Lib.hid k1;clear k1;clear hcells hr hown
 go_enter Tryz.func26,Tryz.ntmps26
 go_wp2_with (go_at_call 57;refine(K1.out).mono ?_;rintro e w1 ⟨rfl,hb1⟩)
 go_ret
 exact⟨rfl,hb1⟩
section
variable {P:Program} {ops:Array Oper} {o:Oper} {a:Act} {K:Act→World→Prop} {Q:Exit→Act→World→Prop} {E:Prop}
theorem vd9(hgd:o.guard=none)(s x:Operand)(t e:TypeId)(ho:o.op=.call { callee:=.builtin .append,args:=#[s,x],argTypes:=#[t,t] })(ht:P.underlying t=some (.slice e))
 (z:Value) (size bytes:Nat) (hi:(P.info? e).map (fun i=>(i.zero,i.size,i.bytes))=some (some z,size,bytes)) (hzs:z.cells.size=size) (hsz:0<size) (m:Nat)
 (W:World) (B:Nat) (v:Value) (n:Nat) (cs:List Value) (hs:a.eval s=v) (hown:W.ownsRow B e size v n cs) (news:Array Value) (hnl:news.size=m*size) (h1:∀u∈news.toList,u.oneCell'=true)
 (hx:a.eval x=.slice (some ⟨W.heap.size,0,none⟩) m m) (hm:m≤1000) (hlen:n<70368744177664) (hby:(n+m)*bytes≤140737488355328) (hB:B≤W.heap.size)
 (h:∀v' w',w'.ownsRow B e size v' (n+m) (cs++news.toList)→Below B W w'→(∀k,k<W.heap.size→some k≠v.ownBlock→w'.heap[k]?=W.heap[k]?)→K (a.put o.dst v') w'):
 if Region.wanted o (yielded ops a.tmps)=true then Oper.wp P o a (W.alloc (.cells news e)) K Q else E:=by
 have hw:Region.wanted o (yielded ops a.tmps)=true:=by simp[Region.wanted,hgd]
 rw[if_pos hw];obtain⟨i0,hi,hz0,hz1,hz2⟩:=info_parts hi;have hnw:∀j u,news.toList[j]?=some u→(W.alloc (.cells news e)).cell? ((⟨W.heap.size,0,none⟩:Addr).add j)=some u:=by
  intro j u hj;have ea:(⟨W.heap.size,0,none⟩:Addr).add j=⟨W.heap.size,j,none⟩:=by
   by_cases h0:j=0
   · subst h0;rfl
   · simp[Addr.add,h0]
  rw[ea,World.cell?_alloc_new];simpa using hj
 obtain⟨v',w',hrun,r1,r2,_⟩:=run_append_own (P:=P) (W.alloc (.cells news e)) B t o.type e i0 z size bytes ht hi hz0 hz1 hz2 hzs hsz v n cs (jb2 hown ((Below.refl _ _).alloc (Nat.le_refl _) _)) ⟨W.heap.size,0,none⟩ m m news.toList (by simp[hnl]) hnw h1 (by unfold maxLen;omega) hby (by simp;omega);unfold Oper.wp;simp[execOp,ho,resolve,invoke,builtin,hs,hx,hrun,Result.andThen];refine h v' w' r1 (((Below.refl _ _).alloc hB _).trans (jn8 (jb2 hown ((Below.refl _ _).alloc (Nat.le_refl _) _)) r2 (by simp;omega))) fun k hk hne=>?_
 rw[r2.block k (by simp;omega) hne];exact((Below.refl _ _).alloc (Nat.le_refl _) _).block k hk
end
def numS(n:Nat):ByteArray:=⟨(le4 n).toArray⟩
def noteP(n:Nt):List ByteArray:=[numS (n.name.size+1+n.text.size),n.name,⟨#[61]⟩,n.text]
def partsP(vt:ByteArray)(ns:List Nt)(k:Nat):List ByteArray:=[numS vt.size,vt,numS ns.length]++(ns.take k).flatMap noteP
theorem vg3(vt:ByteArray)(ns:List Nt)(k:Nat)(hk:k≤ns.length):(partsP vt ns k).length=3+4*k:=by
 have:∀l:List Nt,(l.flatMap noteP).length=4*l.length:=by
  intro l
  induction l with
  | nil=>rfl
  | cons n l ih=>rw[List.flatMap_cons,List.length_append,ih];simp[noteP];omega
 unfold partsP;rw[List.length_append,this,List.length_take];simp;omega
theorem qr6(vt:ByteArray)(ns:List Nt)(k:Nat)(n:Nt)(h:ns[k]?=some n):partsP vt ns (k+1)=partsP vt ns k++noteP n:=by
 obtain⟨h1,h2⟩:=List.getElem?_eq_some_iff.1 h;unfold partsP;rw[List.take_succ_eq_append_getElem h1,List.flatMap_append,h2];simp
theorem qr5(fr:Bool)(b:Bk):((partsP b.vt b.ns b.ns.length++if fr=true then [frameB]else []).map bl).flatten=printL fr b:=by
 have hn:∀n:Nt,((noteP n).map bl).flatten=noteL n:=by
  intro n;unfold noteP noteL sizedL numS;simp[bl]
  congr 1
  omega
 have hl:∀l:List Nt,((l.flatMap noteP).map bl).flatten=l.flatMap noteL:=by
  intro l
  induction l with
  | nil=>rfl
  | cons n l ih=>rw[List.flatMap_cons,List.map_append,List.flatten_append,ih,hn,List.flatMap_cons]
 unfold partsP printL sizedL;rw[List.take_length,List.map_append,List.map_append,List.flatten_append,List.flatten_append,hl];cases fr<;>simp[numS,bl,frameB]
def PrintPost(fr:Bool)(b:Bk)(w:World)(e:Ending)(w':World):Prop:=e=.returned (.tuple #[.string (if(checkM b).1=0 then⟨(printL fr b).toArray⟩else⟨#[]⟩),.agg #[.int .i64 (checkM b).1,.int .i64 (checkM b).2]])∧Below w.heap.size w w'
theorem jv2(b:Bk)(h:(checkM b).1=0):checkM b=(0,0):=by
 have hl:∀(l:List Nt) (i:Nat),(checkL l i).1=0→checkL l i=(0,0):=by
  intro l
  induction l with
  | nil=>intro i _;rfl
  | cons n l ih=>
   intro i h;unfold checkL at h ⊢;split at h
   · simp at h
   · rename_i h1
     rw[if_neg h1];split at h
     · simp at h
     · rename_i h2
       rw[if_neg h2];split at h
       · simp at h
       · rename_i h3
         rw[if_neg h3];exact ih _ h
 unfold checkM at h ⊢;split at h
 · simp at h
 · rename_i h1
   rw[if_neg h1];exact hl _ _ h
set_option maxRecDepth 100000 in
theorem vk8(v:Value)(b:Bk)(fr:Bool)(w:World)(hT:TW w)(hrow:Row w v b.ns.length (ntcells b.ns))(hok:smBk b)(hb:(checkM b).1≠0):
 Calls Tryz.prog 27 #[.agg #[.string b.vt,.int .i64 b.vs,v],.bool fr] w (PrintPost fr b w):=by
 have k1:∀w',Below w.heap.size w w'→Calls Tryz.prog 30 #[.agg #[.string b.vt,.int .i64 b.vs,v]] w' fun e w''=>e=.returned (.agg #[.int .i64 (checkM b).1,.int .i64 (checkM b).2])∧Below w'.heap.size w' w'':=
  fun w' hb=>jp4 v b w' (hT.bel hb) (hrow.keep hb) hok
 unfold PrintPost;rw[if_neg hb];obtain⟨av,cap,rfl,_⟩:=hrow;generalize checkM b=C at *;obtain⟨ce,ca⟩:=C;simp only at k1 hb ⊢;obtain⟨vt,vs,ns⟩:=b;simp only at k1 ⊢;generalize ns.length=n at *;have k2:=fun w=>jb8 ce ca w
 have hd:(!decide (ce=0))=true:=by simpa using hb
 rw[hd]at k2;obtain⟨W,hW⟩:∃W,W=(w.alloc (.cells #[.string vt,.int .i64 vs,.slice av n cap] 33)).alloc (.cells #[.int .i64 0,.int .i64 0] 54):=⟨_,rfl⟩;have hs1:(w.alloc (.cells #[.string vt,.int .i64 vs,.slice av n cap] 33)).heap.size=w.heap.size+1:=World.size_alloc _ _;have hbW:Below w.heap.size w W:=by rw[hW];exact bal (bal (Below.refl _ _) _) _
 have l0:Live W w.heap.size 0 (.string vt):=by rw[hW];exact(Live.fresh _ _ _ 0 _ rfl).alloc _
 have l1:Live W w.heap.size 1 (.int .i64 vs):=by rw[hW];exact(Live.fresh _ _ _ 1 _ rfl).alloc _
 have l2:Live W w.heap.size 2 (.slice av n cap):=by rw[hW];exact(Live.fresh _ _ _ 2 _ rfl).alloc _
 have m0:Live W (w.heap.size+1) 0 (.int .i64 0):=by rw[hW,←hs1];exact Live.fresh _ _ _ 0 _ rfl
 have m1:Live W (w.heap.size+1) 1 (.int .i64 0):=by rw[hW,←hs1];exact Live.fresh _ _ _ 1 _ rfl
 have c0:=l0.1;have c1:=l1.1;have c2:=l2.1;have K1:=Lib.hid k1;have K2:=Lib.hid k2;have HBW:=Lib.hid hbW;have M0:=Lib.hid m0;have M1:=Lib.hid m1;clear k1 k2 hbW m0 m1;clear hd hs1 hok hb l0 l1 l2 hT
 go_enter Tryz.func27,Tryz.ntmps27
 go_wp2_with fail
 rw[←hW];clear hW
 go_wp2_with (first
  | (go_at_call 30;refine(K1.out _ HBW.out).mono ?_;rintro e w1 ⟨rfl,hb1⟩;have hb1a:=bal hb1 (.cells #[.int .i64 ce,.int .i64 ca] 54))
  | (go_at_call 16;refine(K2.out _).mono ?_;rintro e w2 ⟨rfl,hb2⟩;have hb12:=bt hb1a hb2;obtain⟨q0,q0'⟩:=M0.out.keep hb12;obtain⟨q1,q1'⟩:=M1.out.keep hb12;obtain⟨f0,_⟩:=(Live.fresh w1 #[.int .i64 ce,.int .i64 ca] 54 0 _ rfl).keep hb2;obtain⟨f1,_⟩:=(Live.fresh w1 #[.int .i64 ce,.int .i64 ca] 54 1 _ rfl).keep hb2))
 go_region
 all_goals
  go_wp2_with fail
  refine bodyPost_ret (v:=.tuple #[.string ⟨#[]⟩,.agg #[.int .i64 ce,.int .i64 ca]]) (by simp[results,Tryz.results27,go_sem,q0,q1,q0',q1']) rfl ?_;exact⟨rfl,((bdn (HBW.out.trans (hb12.mono HBW.out.size)) 1).setCell (by simp) _).setCell (by simp) _⟩
set_option maxRecDepth 100000 in
theorem kp1(v:Value)(b:Bk)(fr:Bool)(w:World)(hT:TW w)(hrow:Row w v b.ns.length (ntcells b.ns))(hok:smBk b)(hb:(checkM b).1=0)(hpl:(printL fr b).length≤140737488355328)(hnl:b.ns.length≤1000000):
 Calls Tryz.prog 27 #[.agg #[.string b.vt,.int .i64 b.vs,v],.bool fr] w (PrintPost fr b w):=by
 have k1:∀w',Below w.heap.size w w'→Calls Tryz.prog 30 #[.agg #[.string b.vt,.int .i64 b.vs,v]] w' fun e w''=>e=.returned (.agg #[.int .i64 0,.int .i64 0])∧Below w'.heap.size w' w'':=fun w' hbb=>by
  have:=jp4 v b w' (hT.bel hbb) (hrow.keep hbb) hok;rw[jv2 b hb]at this;exact this
 unfold PrintPost;rw[if_pos hb,jv2 b hb];have hpp:=qr5 fr b;obtain⟨av,cap,rfl,hc⟩:=hrow;obtain⟨vt,vs,ns⟩:=b;obtain⟨o1,o2,o3⟩:=hok;simp only at k1 o1 o2 o3 hc hnl hpp ⊢;obtain⟨PL,hPL⟩:∃PL,PL=printL fr ⟨vt,vs,ns⟩:=⟨_,rfl⟩;rw[←hPL]at hpl hpp ⊢;obtain⟨n,hn⟩:∃n,n=ns.length:=⟨_,rfl⟩;rw[←hn]at o2 hnl k1 hpp ⊢;have k2:=fun w=>jb8 0 0 w
 have k3:=fun(k:Nat) (w:World) (h:k<4611686018427387904)=>kp3 k w h
 obtain⟨W,hW⟩:∃W,W=(w.alloc (.cells #[.string vt,.int .i64 vs,.slice av n cap] 33)).alloc (.cells #[.int .i64 0,.int .i64 0] 54):=⟨_,rfl⟩;have hs1:(w.alloc (.cells #[.string vt,.int .i64 vs,.slice av n cap] 33)).heap.size=w.heap.size+1:=World.size_alloc _ _;have hbW:Below w.heap.size w W:=by rw[hW];exact bal (bal (Below.refl _ _) _) _
 have l0:Live W w.heap.size 0 (.string vt):=by rw[hW];exact(Live.fresh _ _ _ 0 _ rfl).alloc _
 have l1:Live W w.heap.size 1 (.int .i64 vs):=by rw[hW];exact(Live.fresh _ _ _ 1 _ rfl).alloc _
 have l2:Live W w.heap.size 2 (.slice av n cap):=by rw[hW];exact(Live.fresh _ _ _ 2 _ rfl).alloc _
 have m0:Live W (w.heap.size+1) 0 (.int .i64 0):=by rw[hW,←hs1];exact Live.fresh _ _ _ 0 _ rfl
 have m1:Live W (w.heap.size+1) 1 (.int .i64 0):=by rw[hW,←hs1];exact Live.fresh _ _ _ 1 _ rfl
 have c0:=l0.1;have c1:=l1.1;have c2:=l2.1;have hvs:vt.size<4611686018427387904:=by omega
 have hns:n<4611686018427387904:=by omega
 have K1:=Lib.hid k1;have K2:=Lib.hid k2;have K3:=Lib.hid k3;have HBW:=Lib.hid hbW;have M0:=Lib.hid m0;have M1:=Lib.hid m1;have HPP:=Lib.hid hpp;have HPL:=Lib.hid hPL;have HC:=Lib.hid hc;have HN:=Lib.hid hn;have O3:=Lib.hid o3;have HPLN:=Lib.hid hpl;clear k1 k2 k3 hbW m0 m1 hpp hPL hc hn o3 hpl;clear hs1 hb l0 l1 l2 hT
 go_enter Tryz.func27,Tryz.ntmps27
 go_wp2_with fail
 rw[←hW];clear hW
 go_wp2_with (first
  | (go_at_call 30;refine(K1.out _ HBW.out).mono ?_;rintro e w1 ⟨rfl,hb1⟩;have hb1a:=bal hb1 (.cells #[.int .i64 0,.int .i64 0] 54))
  | (go_at_call 16;refine(K2.out _).mono ?_;rintro e w2 ⟨rfl,hb2⟩;have hb12:=bt hb1a hb2;have d0:=kc hb12 c0;have d2:=kc hb12 c2))
 go_region_held3 (fun w'=>w'.cell? ⟨w.heap.size,0,none⟩=some (.string vt)∧w'.cell? ⟨w.heap.size,2,none⟩=some (.slice av n cap))
  (first|exact⟨kc (bal hb14 _) c0,kc (bal hb14 _) c2⟩|exact⟨kc hb14 c0,kc hb14 c2⟩|exact⟨kc hb13 c0,kc hb13 c2⟩|go_keep)
  (first
    | (go_at_call 58;with_reducible refine(K3.out vt.size _ hvs).mono ?_;rintro e w3 ⟨rfl,hb3⟩;have hb13:=bt hb12 (bt (Below.refl w2.heap.size w2).drew hb3))
    | (go_at_call 58;with_reducible refine(K3.out n _ hns).mono ?_;rintro e w4 ⟨rfl,hb4⟩;have hb14:=bt hb13 hb4))
 have hb15:=bal hb14 (.cells #[.string (numS vt.size),.string vt,.string (numS n)] 9);have d2:=kc hb15 c2;have hz4:W.heap.size≤w4.heap.size:=hb14.size;have hown0:(w4.alloc (.cells #[.string (numS vt.size),.string vt,.string (numS n)] 9)).ownsRow w4.heap.size 9 1 (.slice (some ⟨w4.heap.size,0,none⟩) 3 3) 3 (scells [numS vt.size,vt,numS n]):=
  World.ownsRow_lit (size:=1) (base:=w4.heap.size) w4 #[.string (numS vt.size),.string vt,.string (numS n)] 3 (Nat.le_refl _) (by unfold maxLen;omega) rfl
 go_wp2_with fail
 go_loopw [7,31] (fun pv iv wr=>∃k:Nat,iv=.int .i64 (k:Int)∧k≤n∧wr.ownsRow w4.heap.size 9 1 pv (3+4*k) (scells (partsP vt ns k))∧Below w4.heap.size w4 wr) (fun _ iv _=>n-(intOf iv).toNat)
 case atStart=>exact⟨0,rfl,Nat.zero_le _,by unfold partsP;rw[List.take_zero,List.flatMap_nil,List.append_nil,←HN.out];exact hown0,bal (Below.refl _ _) _⟩
 case round=>
  obtain⟨k,rfl,hk,hown,hbel⟩:=hrel;clear hown0 hb15 d2 d0;have hbr:Below W.heap.size W wr:=bt hb14 hbel;by_cases hlt:k<n
  · obtain⟨x,hx⟩:=jb6 ns k (by rw[←HN.out];exact hlt)
    obtain⟨g,o,rfl,d0,d1,d2⟩:=qb2 HC.out k x hx;have d0:=kc hbr (kc HBW.out d0);have d1:=kc hbr (kc HBW.out d1);have d2:=kc hbr (kc HBW.out d2);obtain⟨b1,b2⟩:=O3.out x (List.mem_of_getElem? hx);have hst:=qr6 vt ns k x hx;have f0:=Live.fresh wr #[.string x.name,.string x.text,.int .i64 x.set] 102 0 _ rfl;have f1:=Live.fresh wr #[.string x.name,.string x.text,.int .i64 x.set] 102 1 _ rfl;have k4:∀w,Calls Tryz.prog 58 #[.int .i64 ((x.name.size:Int)+1+x.text.size)] w fun e w'=>e=.returned (.string (numS (x.name.size+1+x.text.size)))∧Below w.heap.size w w':=by
     intro w;have:=kp3 (x.name.size+1+x.text.size) w (by omega);rw[show(((x.name.size+1+x.text.size:Nat)):Int)=(x.name.size:Int)+1+x.text.size by omega]at this;exact this
    have hown1:=jb2 hown ((Below.refl wr.heap.size wr).alloc (Nat.le_refl _) (.cells #[.string x.name,.string x.text,.int .i64 x.set] 102));have w1:IntKind.i64.wrap ((x.name.size:Int)+1)=(x.name.size:Int)+1:=wi64 _ (by omega) (by omega);have w2':IntKind.i64.wrap ((x.name.size:Int)+1+(x.text.size:Int))=(x.name.size:Int)+1+x.text.size:=wi64 _ (by omega) (by omega);have hne:some wr.heap.size≠u7.ownBlock:=fun e=>by have:=(jb7 hown _ e.symm).2;omega
    have hz3:3+4*k<70368744177664:=by omega
    have hz5:(3+4*k+4)*16≤140737488355328:=by omega
    have hlr:=hbel.size;have g0:=f0.1;have g1:=f1.1;have K4:=Lib.hid k4;have HST:=Lib.hid hst;have F0:=Lib.hid f0;have F1:=Lib.hid f1;have HO1:=Lib.hid hown1;have HZ3:=Lib.hid hz3;have HZ5:=Lib.hid hz5;have HNE:=Lib.hid hne;clear k4 hst f0 f1 hown1 hz3 hz5 hne;clear hx
    go_wp2_with fail
    go_region_held3 (fun w'=>w'.cell? ⟨wr.heap.size,0,none⟩=some (.string x.name)∧w'.cell? ⟨wr.heap.size,1,none⟩=some (.string x.text))
     (first|exact⟨(qb5 (F0.out.keep hb5) hk6).1,(qb5 (F1.out.keep hb5) hk6).1⟩|exact⟨((F0.out.keep hb5).alloc _).1,((F1.out.keep hb5).alloc _).1⟩|exact⟨(F0.out.keep hb5).1,(F1.out.keep hb5).1⟩|go_keep)
     (first
       | (go_at_call 58;refine(K4.out _).mono ?_;rintro e w5 ⟨rfl,hb5'⟩;have hb5:=bt (Below.refl _ _).drew hb5';have hown5:=jb2 HO1.out hb5;have hz6:=hb5.size)
       | (refine vd9 rfl _ _ 77 9 rfl Tryz.underlying77 (.string ⟨#[]⟩) 1 16 jm6 rfl (by decide) 4 w5 w4.heap.size u7 (3+4*k) (scells (partsP vt ns k)) rfl hown5 #[.string (numS (x.name.size+1+x.text.size)),.string x.name,.string ⟨#[61]⟩,.string x.text] rfl (by simp[Value.oneCell']) rfl (by decide) HZ3.out HZ5.out (by simp at hz6;omega) ?_;intro pv2 w6 hown6 hb6 hk6';have hk6:=hk6' wr.heap.size (by simp at hz6;omega) HNE.out))
    go_wp2_with fail
    have e1:3+4*(k+1)=3+4*k+4:=by omega
    have hown7:w6.ownsRow w4.heap.size 9 1 pv2 (3+4*(k+1)) (scells (partsP vt ns (k+1))):=by
     rw[e1,HST.out,jd4];exact hown6
    go_roundw
    case rel=>exact⟨k+1,by go_num,by omega,hown7,(bt (bal hbel _) hb5).trans hb6⟩
    case measure=>simp[intOf];omega
  · have hkn:k=n:=by omega
    have hlen:=vg3 vt ns n (by rw[←HN.out];exact Nat.le_refl _);have hpp:=HPP.out;have hplen:=HPLN.out;rw[hkn]at hown;obtain⟨q0,q0'⟩:=M0.out.keep hbr;obtain⟨q1,q1'⟩:=M1.out.keep hbr;have hz3:3+4*n<70368744177664:=by omega
    have hz5:(3+4*n+1)*16≤140737488355328:=by omega
    have hlr:=hbel.size;cases fr with
    | false=>
     rw[if_neg (by decide),List.append_nil]at hpp;have kj:∀w',Below wr.heap.size wr w'→Calls Tryz.prog 26 #[u7] w' fun e w''=>e=.returned (.string ⟨PL.toArray⟩)∧Below w'.heap.size w' w'':=by
      intro w' hb';have:=jh3 w4.heap.size u7 (partsP vt ns n) w' (by rw[hlen];exact jb2 hown hb') (by intro h;rw[h]at hlen;simp at hlen;omega) (by omega) (by rw[hpp];exact hplen);rw[hpp]at this;exact this
     have KJ:=Lib.hid kj;have HBR:=Lib.hid hbr;clear kj hbr;clear hpp hplen hlen hkn
     go_wp2_with (go_at_call 26;refine(KJ.out _ (Below.refl _ _)).mono ?_;rintro e w8 ⟨rfl,hb8⟩;have hb9:=bt HBR.out hb8;obtain⟨q0,q0'⟩:=M0.out.keep hb9;obtain⟨q1,q1'⟩:=M1.out.keep hb9)
     refine bodyPost_ret (v:=.tuple #[.string ⟨PL.toArray⟩,.agg #[.int .i64 0,.int .i64 0]]) (by simp[results,Tryz.results27,go_sem,q0,q1,q0',q1']) rfl ?_;exact⟨rfl,((HBW.out.trans (hb9.mono HBW.out.size)).setCell (by simp) _).setCell (by simp) _⟩
    | true=>
     rw[if_pos rfl]at hpp;have kj:∀v' w',w'.ownsRow w4.heap.size 9 1 v' (3+4*n+1) (scells (partsP vt ns n) ++ [.string ⟨#[1]⟩])→Calls Tryz.prog 26 #[v'] w' fun e w''=>e=.returned (.string ⟨PL.toArray⟩)∧Below w'.heap.size w' w'':=by
      intro v' w' ho;have hl2:(partsP vt ns n ++ [frameB]).length=3+4*n+1:=by rw[List.length_append,hlen];rfl
      have:=jh3 w4.heap.size v' (partsP vt ns n ++ [frameB]) w' (by rw[hl2,jd4];exact ho) (by intro h;rw[h]at hl2;simp at hl2) (by omega) (by rw[hpp];exact hplen);rw[hpp]at this;exact this
     have KJ:=Lib.hid kj;have HBR:=Lib.hid hbr;have HZ3:=Lib.hid hz3;have HZ5:=Lib.hid hz5;clear kj hbr hz3 hz5;clear hpp hplen hlen hkn
     go_wp2_with (first
      | (at_builtin;(refine jc4 rfl _ _ 77 9 rfl Tryz.underlying77 (.string ⟨#[]⟩) 1 16 jm6 rfl (by decide) wr w4.heap.size u7 (3+4*n) (scells (partsP vt ns n)) rfl hown #[.string ⟨#[1]⟩] rfl (by simp[Value.oneCell']) rfl HZ3.out HZ5.out hbel.size ?_;intro v' w7 hown7 hb7 hk7))
      | (go_at_call 26;refine(KJ.out _ _ hown7).mono ?_;rintro e w8 ⟨rfl,hb8⟩;have hb9:=(HBR.out.trans (hb7.mono hz4)).trans (hb8.mono (Nat.le_trans hz4 (Nat.le_trans hbel.size hb7.size)));obtain⟨q0,q0'⟩:=M0.out.keep hb9;obtain⟨q1,q1'⟩:=M1.out.keep hb9))
     refine bodyPost_ret (v:=.tuple #[.string ⟨PL.toArray⟩,.agg #[.int .i64 0,.int .i64 0]]) (by simp[results,Tryz.results27,go_sem,q0,q1,q0',q1']) rfl ?_;exact⟨rfl,((HBW.out.trans (hb9.mono HBW.out.size)).setCell (by simp) _).setCell (by simp) _⟩
theorem vk9(v:Value)(b:Bk)(fr:Bool)(w:World)(hT:TW w)(hrow:Row w v b.ns.length (ntcells b.ns))(hok:smBk b)(hpl:(printL fr b).length≤140737488355328)(hnl:b.ns.length≤1000000):
 Calls Tryz.prog 27 #[.agg #[.string b.vt,.int .i64 b.vs,v],.bool fr] w (PrintPost fr b w):=by
 by_cases hb:(checkM b).1=0
 · exact kp1 v b fr w hT hrow hok hb hpl hnl
 · exact vk8 v b fr w hT hrow hok hb
structure Mt where
 kind:Nat
 body:ByteArray
structure Fl where
 ms:List Mt
 b:Bk
 at_:Int
 sound:ByteArray
def noBk:Bk:=⟨⟨#[]⟩,0,[]⟩
def beN(l:List UInt8):Nat:=l.foldl (fun n b=>n*256+b.toNat) 0
theorem beN_snoc(l:List UInt8)(b:UInt8):beN (l ++ [b])=beN l*256+b.toNat:=by unfold beN;rw[List.foldl_append];rfl
def bigR(x:RS)(k:Nat):RS×Nat:=((takeR x k).1,beN (bl (takeR x k).2))
end Go.Proofs.YtagjkmkmphamoaaGreatDoor
namespace Go.Proofs.YtagjkmkmphamoaaGreatDoor
open Go.ChangeShapes Go.WideShapes Go.ChangeAt Go.RowKit Go.ChangeMaps
def mtcells(l:List Mt):List Value:=l.flatMap fun m=>[.int .u8 m.kind,.string m.body]
theorem kq7(l m:List Mt):mtcells (l++m)=mtcells l++mtcells m:=by simp[mtcells]
end Go.Proofs.YtagjkmkmphamoaaGreatDoor
namespace Go.Proofs.YtagjkmkmphamoaaGreatDoor
open Go.RowKit
theorem beF_lt:∀(l:List UInt8) (n:Nat),l.foldl (fun n b=>n*256+b.toNat) n<(n+1)*256^l.length:=by
 intro l
 induction l with
 | nil=>intro n;simp
 | cons a l ih=>
  intro n;have h1:=ih (n*256+a.toNat);have h2:=a.toNat_lt;rw[List.foldl_cons,List.length_cons,Nat.pow_succ,Nat.mul_comm (256^l.length) 256,←Nat.mul_assoc];exact Nat.lt_of_lt_of_le h1 (Nat.mul_le_mul_right _ (by omega))
theorem beN_lt(l:List UInt8):beN l<256^l.length:=by
 have:=beF_lt l 0;simpa[beN]using this
theorem beN_step(l:List UInt8)(j:Nat)(c:UInt8)(h:l[j]?=some c):beN (l.take (j+1))=beN (l.take j)*256+c.toNat:=by
 obtain⟨h1,h2⟩:=List.getElem?_eq_some_iff.1 h;rw[List.take_succ_eq_append_getElem h1,h2,beN_snoc]
theorem xc9(w:World)(r:Nat)(x:RS)(k:Nat)(h:InX w r x)(hk:okR x)(h1:k≤3):
 Calls Tryz.prog 101 #[.pointer (some ⟨r,0,none⟩),.int .i64 k] w fun v w'=>v=.returned (.int .u64 ((bigR x k).2:Int))∧InX w' r (bigR x k).1∧w.grownBy w' (some r):=by
 have k1:∀w,Calls Tryz.prog 105 #[.int .i64 k] w fun e w'=>e=.returned (.int .i64 k)∧w=w':=fun w=>by
  have:=jr6 k w;rw[show widthOf (k:Int)=k from by unfold widthOf;omega]at this;exact this
 have k2:=fun w h=>jq3 w r x k h hk (by omega) (by omega)
 have hsz:(takeR x k).2.size≤3:=Nat.le_trans (jm8 x k) h1;unfold bigR;generalize takeR x k=y at *;obtain⟨y,t⟩:=y;simp only at k2 hsz ⊢;have HL:Hid ((bl t).length=t.size):=jb1 t;have K1:=Lib.hid k1;have K2:=Lib.hid k2;clear k1 k2
 go_enter Tryz.func101,Tryz.ntmps101
 go_wp2_with (first
  | (go_at_call 105;refine(K1.out _).mono ?_;rintro x w1 ⟨rfl,rfl⟩)
  | (go_at_call 102;refine(K2.out _ h).mono ?_;rintro x w2 ⟨rfl,hi,hg⟩))
 go_loop [6,7] (fun n i=>∃j:Nat,i=.int .i64 (j:Int)∧n=.int .u64 (beN ((bl t).take j):Int)∧j≤t.size) (fun _ i=>t.size-(intOf i).toNat)
 case atStart=>exact⟨0,rfl,rfl,Nat.zero_le _⟩
 case round=>
  obtain⟨j,rfl,rfl,hjt⟩:=hrel;by_cases hlt:j<t.size
  · obtain⟨c,hc⟩:=jb6 (bl t) j (by rw[HL.out];exact hlt)
    have C:∀h,t[j]'h=c:=jc7 t j c hc;have hst:=beN_step (bl t) j c hc;have hb:=beN_lt ((bl t).take j);have hcl:=c.toNat_lt;have hb2:beN ((bl t).take j)<65536:=by
     refine Nat.lt_of_lt_of_le hb ?_;have:((bl t).take j).length≤2:=by rw[List.length_take];omega
     exact Nat.le_trans (Nat.pow_le_pow_right (by decide) this) (by decide)
    clear hb hc;generalize beN ((bl t).take j)=q at *;have HST:=Lib.hid hst;clear hst;have hor:bits .or .u64 ((q:Int)*256) (c.toNat:Int)=(q:Int)*256+c.toNat:=vq1 _ _ (by omega) (by omega) (by omega) (by omega) (by omega) (by omega)
    go_wp2_with fail
    exact⟨⟨j+1,by go_num,by rw[HST.out];congr 1,by omega⟩,by simp[intOf];omega⟩
  · have hjn:j=t.size:=by omega
    have hall:(bl t).take j=bl t:=List.take_of_length_le (by rw[HL.out];omega);rw[hall];clear hjn hall
    go_wp2
    go_ret
    exact⟨rfl,hi,hg⟩
end Go.Proofs.YtagjkmkmphamoaaGreatDoor
