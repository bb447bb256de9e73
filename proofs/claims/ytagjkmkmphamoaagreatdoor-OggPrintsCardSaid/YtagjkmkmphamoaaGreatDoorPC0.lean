/- C0 -/
import Derived.Test.YtagjkmkmphamoaaGreatDoorPB5
import Derived.Test.YtagjkmkmphamoaaGreatDoorPB9
import Derived.Test.YtagjkmkmphamoaaGreatDoorPB1
import Derived.Deep.RegionHeld3
import Derived.Test.YtagjkmkmphamoaaGreatDoorPB3
set_option linter.all false
set_option maxHeartbeats 8000000
namespace Go.Proofs.YtagjkmkmphamoaaGreatDoor
open Go.RowKit
theorem vt0(w:World):Calls Tryz.prog 100 #[.int .i64 4] w fun e w'=>e=.returned (.int .i64 4)∧w=w':=by
 go_enter Tryz.func100,Tryz.ntmps100
 go_wp2
 go_ret
 exact⟨rfl,rfl⟩
theorem kr8(n:Nat)(w:World)(hn:n<4294967296):Calls Tryz.prog 70 #[.int .u64 (n:Int),.int .i64 4] w fun e w'=>e=.returned (.string (numS n))∧Below w.heap.size w w':=by
 have K1:=Lib.hid vt0;have hcv:∀(x:Int) (W:World),0≤x→(convert 140 9 (.slice (some ⟨W.heap.size,0,none⟩) 1 1)).run Tryz.prog (W.alloc (.cells #[.int .u8 (x%256)] 5))=.ok (.string ⟨#[UInt8.ofNat (x%256).toNat]⟩) (W.alloc (.cells #[.int .u8 (x%256)] 5)):=by
  intro x W hx;have h:=jf7 (l:=[UInt8.ofNat (x%256).toNat]) 140 9 Tryz.underlying140 Tryz.underlying5 Tryz.underlying9 (World.ownsRow_lit (size:=1) (base:=W.heap.size) W #[.int .u8 ((UInt8.ofNat (x%256).toNat).toNat:Int)] 1 (Nat.le_refl _) (by unfold maxLen;omega) rfl);rw[jp5 x hx]at h;exact h
 have hE:numS n=⟨(leL n 4).toArray⟩:=by unfold numS;rw[leL_4]
 rw[hE];clear hE;have HCV:=Lib.hid hcv;clear hcv
 go_enter Tryz.func70,Tryz.ntmps70
 go_wp2
 go_loopw [0,5,6] (fun q s i wr=>∃(k:Nat) (x:Int) (T:ByteArray),k≤4∧T.size=k∧0≤x∧x≤n∧q=.int .u64 x∧s=.string T∧i=.int .i64 (k:Int)∧Hid (leL n 4=bl T++leL x (4-k))∧Below w.heap.size w wr) (fun _ _ i _=>4-(intOf i).toNat)
 case atStart=>exact⟨0,n,⟨#[]⟩,Nat.zero_le _,rfl,by omega,Int.le_refl _,rfl,rfl,rfl,Lib.hid (by simp),Below.refl _ _⟩
 case round=>
  obtain⟨k,x,T,hk,hpl,hx0,hx1,rfl,rfl,rfl,hbig,hbel⟩:=hrel;by_cases hlt:k<4
  · obtain⟨j,hj⟩:∃j,4-k=j+1:=⟨4-k-1,by omega⟩
    have hb2:=hbig.out;rw[hj,show leL x (j+1)=UInt8.ofNat (x%256).toNat::leL (x/256) j from rfl]at hb2;have hj2:4-(k+1)=j:=by omega
    have hcv:=fun W=>HCV.out x W hx0
    have hw8:IntKind.u8.wrap (x%256)=x%256:=wraps_u8 _ (by omega) (by omega);have hbx:=bal hbel (.cells #[.int .u8 (x%256)] 5);have hTs:T.size≤4:=by omega
    have HB2:=Lib.hid hb2;have HJ2:=Lib.hid hj2;have HPL:=Lib.hid hpl;have HBX:=Lib.hid hbx;clear hb2 hj2 hpl hbx;clear hbig hj;generalize UInt8.ofNat (x%256).toNat=bb at *
    go_wp2_with (go_at_call 100;refine(K1.out _).mono ?_;rintro e w1 ⟨rfl,rfl⟩)
    exact⟨⟨k+1,x/256,T++⟨#[bb]⟩,by omega,by rw[ByteArray.size_append,HPL.out];rfl,by omega,by omega,rfl,rfl,by go_num,Lib.hid (by rw[HB2.out,HJ2.out];show _=(T++⟨#[bb]⟩).data.toList++_;rw[ByteArray.data_append,Array.toList_append];simp),HBX.out⟩,by simp[intOf];omega⟩
  · have hk4:k=4:=by omega
    have hb2:=hbig.out;rw[show 4-k=0 by omega,show leL x 0 = [] from rfl,List.append_nil]at hb2;have HB2:=Lib.hid hb2;clear hb2;clear hbig hk4
    go_wp2_with (go_at_call 100;refine(K1.out _).mono ?_;rintro e w1 ⟨rfl,rfl⟩)
    go_ret
    exact⟨kz4 (by rw[HB2.out]),hbel⟩
theorem jd6(a b:ByteArray):bl (a++b)=bl a++bl b:=by
 show(a++b).data.toList=_;rw[ByteArray.data_append,Array.toList_append]
def sizedB(s:ByteArray):ByteArray:=numS s.size++s
theorem kr9(s:ByteArray)(w:World)(hn:s.size<4294967296):Calls Tryz.prog 69 #[.string s] w fun e w'=>e=.returned (.string (sizedB s))∧Below w.heap.size w w':=by
 have k1:=fun w=>kr8 s.size w hn
 have hw:IntKind.u64.wrap (s.size:Int)=s.size:=jd3 _ (by omega) (by omega);have h4:(numS s.size).size=4:=rfl;have h5:sizedB s=numS s.size++s:=rfl;rw[h5];generalize numS s.size=ns at *;have K1:=Lib.hid k1;clear k1;clear h5
 go_enter Tryz.func69,Tryz.ntmps69
 go_wp2_with (go_at_call 70;refine(K1.out _).mono ?_;rintro e w1 ⟨rfl,hb1⟩)
 go_ret
 exact⟨rfl,hb1⟩
set_option maxRecDepth 100000 in
theorem jn3(v:Value)(b:Bk)(w:World)(hrow:Row w v b.ns.length (ntcells b.ns))(hok:smBk b):
 Calls Tryz.prog 22 #[.agg #[.string ⟨#[]⟩,.string b.vt,.int .i64 b.vs,v]] w fun e w'=>e=.returned (.tuple #[.int .i64 (checkM b).1,.int .i64 (checkM b).2])∧Below w.heap.size w w':=by
 obtain⟨vt,vs,ns⟩:=b;obtain⟨av,cap,rfl,hc⟩:=hrow;obtain⟨o1,o2,o3⟩:=hok;simp only at o1 o2 o3 hc ⊢;have hm:checkM ⟨vt,vs,ns⟩=if(scanL (bl vt)).2.isSome then(2,0)else checkL ns 0:=rfl
 rw[hm];clear hm;obtain⟨n,hn⟩:∃n,n=ns.length:=⟨_,rfl⟩;rw[←hn]at o2 ⊢;obtain⟨W,hW⟩:∃W,W=w.alloc (.cells #[.string ⟨#[]⟩,.string vt,.int .i64 vs,.slice av n cap] 45):=⟨_,rfl⟩;have hbW:Below w.heap.size w W:=by rw[hW];exact bal (Below.refl _ _) _
 have l1:Live W w.heap.size 1 (.string vt):=by rw[hW];exact Live.fresh _ _ _ 1 _ rfl
 have l3:Live W w.heap.size 3 (.slice av n cap):=by rw[hW];exact Live.fresh _ _ _ 3 _ rfl
 have c1:=l1.1;have kv:=fun w=>jx1 vt w (by omega)
 unfold RPts RPtsS at kv;have KP:Hid (∀(s:ByteArray) (w:World),s.size≤1073741824→Calls Tryz.prog 51 #[.string s] w (RPts (bl s) w)):=fun s w h=>jx1 s w h
 obtain⟨C,hC⟩:∃C,C=checkL ns 0:=⟨_,rfl⟩;rw[←hC];have HC:=Lib.hid hc;have HN:=Lib.hid hn;have O3:=Lib.hid o3;have HBW:=Lib.hid hbW;have L3:=Lib.hid l3;have HCC:=Lib.hid hC;clear hc hn o3 hbW l3 hC;cases hv:(scanL (bl vt)).2 with
 | some k=>
  rw[hv]at kv;rw[Option.isSome_some,if_pos rfl];simp only at kv;have KV:=Lib.hid kv;clear kv;clear hv
  go_enter Tryz.func22,Tryz.ntmps22
  go_wp2_with fail
  rw[←hW];clear hW;have hk0:(k:Int) ≥ 0:=by omega
  go_wp2_with (go_at_call 51;refine(KV.out _).mono ?_;rintro e w1 ⟨rfl,hb1⟩)
  go_ret2
  exact⟨rfl,HBW.out.trans (hb1.mono HBW.out.size)⟩
 | none=>
  rw[hv]at kv;rw[Option.isSome_none,if_neg (by decide)];simp only at kv;have KV:=Lib.hid kv;clear kv;clear hv
  go_enter Tryz.func22,Tryz.ntmps22
  go_wp2_with fail
  rw[←hW];clear hW
  go_wp2_with (go_at_call 51;refine(KV.out _).mono ?_;rintro e w1 ⟨⟨v1,rfl,hown1⟩,hb1⟩)
  go_loopw [6] (fun iv wr=>∃k:Nat,iv=.int .i64 (k:Int)∧k≤n∧Hid (checkL (ns.drop k) k=C)∧Below W.heap.size W wr) (fun iv _=>n-(intOf iv).toNat)
  case atStart=>exact⟨0,rfl,Nat.zero_le _,Lib.hid (by rw[List.drop_zero];exact HCC.out.symm),hb1⟩
  case round=>
   obtain⟨k,rfl,hk,hA,hbel⟩:=hrel;clear hb1 hown1;have c3:=kc hbel L3.out.1;by_cases hlt:k<n
   · obtain⟨x,hx⟩:=jb6 ns k (by rw[←HN.out];exact hlt)
     obtain⟨g,o,rfl,d0,d1,d2⟩:=qb2 HC.out k x hx;have d0:=kc hbel (kc HBW.out d0);have d1:=kc hbel (kc HBW.out d1);obtain⟨b1,b2⟩:=O3.out x (List.mem_of_getElem? hx);obtain⟨hx1,hx2⟩:=List.getElem?_eq_some_iff.1 hx;have hA2:=hA.out;rw[List.drop_eq_getElem_cons hx1,hx2,checkL]at hA2;have kn:=fun w=>vf8 x.name w (by omega)
     have kt:=fun w=>KP.out x.text w b2
     unfold RPts RPtsS at kt;have wk:IntKind.i64.wrap ((k:Int)+1)=(k:Int)+1:=wi64 _ (by omega) (by omega);have m0:(0:Int)≤(k:Int):=by omega
     have m1:(k:Int)<(n:Int):=by omega
     have hbf:=HBW.out.trans (hbel.mono HBW.out.size);have HBF:=Lib.hid hbf;clear hbf;clear hA hx1 hx2 hx d2;by_cases c1:4096≤k
     · rw[if_pos c1]at hA2
       have c1z:(k:Int) ≥ 4096:=by omega
       have HA2:=Lib.hid hA2;clear hA2
       go_wp2_with fail
       go_ret2
       refine⟨?_,HBF.out⟩;exact(by rw[←HA2.out];rfl)
     · rw[if_neg c1]at hA2
       have c1z:¬(k:Int) ≥ 4096:=by omega
       cases hnm:namedNM (bl x.name)with
       | false=>
        rw[hnm]at kn hA2;rw[if_pos rfl]at hA2;have KN:=Lib.hid kn;have HA2:=Lib.hid hA2;clear kn hA2;clear hnm kt
        go_wp2_with (go_at_call 52;refine(KN.out _).mono ?_;rintro e w2 ⟨rfl,hb2⟩)
        go_ret2
        refine⟨?_,bt HBF.out hb2⟩;exact(by rw[←HA2.out];rfl)
       | true=>
        rw[hnm]at kn hA2;rw[if_neg (by decide)]at hA2;cases hvx:(scanL (bl x.text)).2 with
        | some q=>
         rw[hvx]at kt hA2;rw[Option.isSome_some,if_pos rfl]at hA2;simp only at kt;have hq0:(q:Int) ≥ 0:=by omega
         have KN:=Lib.hid kn;have KT:=Lib.hid kt;have HA2:=Lib.hid hA2;clear kn kt hA2;clear hnm hvx
         go_wp2_with (first
          | (go_at_call 52;refine(KN.out _).mono ?_;rintro e w2 ⟨rfl,hb2⟩;have c3':=kc hb2 c3;have d1':=kc hb2 d1)
          | (go_at_call 51;refine(KT.out _).mono ?_;rintro e w3 ⟨rfl,hb3⟩))
         go_ret2
         refine⟨?_,bt (bt HBF.out hb2) hb3⟩;exact(by rw[←HA2.out];rfl)
        | none=>
         rw[hvx]at kt hA2;rw[Option.isSome_none,if_neg (by decide)]at hA2;simp only at kt;have KN:=Lib.hid kn;have KT:=Lib.hid kt;have HA2:=Lib.hid hA2;clear kn kt hA2;clear hnm hvx
         go_wp2_with (first
          | (go_at_call 52;refine(KN.out _).mono ?_;rintro e w2 ⟨rfl,hb2⟩;have c3':=kc hb2 c3;have d1':=kc hb2 d1)
          | (go_at_call 51;refine(KT.out _).mono ?_;rintro e w3 ⟨⟨v3,rfl,hown3⟩,hb3⟩))
         go_roundw
         case rel=>exact⟨k+1,by go_num,by omega,HA2,bt (bt hbel hb2) hb3⟩
         case measure=>simp[intOf];omega
   · have hkn:k=n:=by omega
     have ha:=hA.out;rw[List.drop_of_length_le (by rw[←HN.out];omega)]at ha;have hr:C=(0,0):=by rw[←ha];rfl
     have hbf:=HBW.out.trans (hbel.mono HBW.out.size);have HR:=Lib.hid hr;have HBF:=Lib.hid hbf;clear hr hbf;clear ha hA hkn
     go_wp2_with fail
     go_ret2
     refine⟨?_,HBF.out⟩;exact(by rw[HR.out];rfl)
theorem qf6(s:ByteArray):bl (sizedB s)=sizedL (bl s):=by
 unfold sizedB sizedL;rw[jd6,jb1]
 rfl
def noteS(n:Nt):ByteArray:=sizedB (n.name++⟨#[61]⟩++n.text)
theorem noteS_bl(n:Nt):bl (noteS n)=noteL n:=by
 unfold noteS noteL;rw[qf6,jd6,jd6]
def printS(vt:ByteArray)(ns:List Nt):Nat→ByteArray
 | 0=>sizedB vt++numS ns.length
 | k+1=>printS vt ns k++(match ns[k]? with|some n=>noteS n|none=>⟨#[]⟩)
theorem vv3(vt:ByteArray)(ns:List Nt):∀k,k≤ns.length→bl (printS vt ns k)=sizedL (bl vt)++le4 ns.length++(ns.take k).flatMap noteL:=by
 intro k
 induction k with
 | zero=>intro _;unfold printS;rw[jd6,qf6];simp[numS,bl]
 | succ k ih=>
  intro h;have hk:ns[k]?=some ns[k]:=List.getElem?_eq_getElem (by omega);unfold printS;rw[jd6,ih (by omega),hk];simp only;rw[noteS_bl,List.take_succ_eq_append_getElem (by omega:k<ns.length),List.flatMap_append];simp
set_option maxRecDepth 100000 in
theorem vf7(v:Value)(b:Bk)(fr:Bool)(w:World)(hrow:Row w v b.ns.length (ntcells b.ns))(hok:smBk b)(hnl:b.ns.length≤1000)(hsm:∀n∈b.ns,n.name.size≤1000∧n.text.size≤1000)(hvt:b.vt.size≤1000):
 Calls Tryz.prog 35 #[.agg #[.string ⟨#[]⟩,.string b.vt,.int .i64 b.vs,v],.bool fr] w fun e w'=>e=.returned (.string ⟨(printL fr b).toArray⟩)∧Below w.heap.size w w':=by
 obtain⟨vt,vs,ns⟩:=b;obtain⟨av,cap,rfl,hc⟩:=hrow;simp only at hc hnl hsm hvt ⊢;have hpl:(⟨(printL fr ⟨vt,vs,ns⟩).toArray⟩:ByteArray)=printS vt ns ns.length++(if fr=true then⟨#[1]⟩else⟨#[]⟩):=by
  apply ByteArray.ext;apply Array.toList_inj.1;show printL fr ⟨vt,vs,ns⟩=bl _;rw[jd6,vv3 vt ns _ (Nat.le_refl _),List.take_length];unfold printL;cases fr<;>rfl
 rw[hpl];clear hpl hok;obtain⟨n,hn⟩:∃n,n=ns.length:=⟨_,rfl⟩;rw[←hn]at hnl ⊢;obtain⟨W,hW⟩:∃W,W=w.alloc (.cells #[.string ⟨#[]⟩,.string vt,.int .i64 vs,.slice av n cap] 45):=⟨_,rfl⟩;have hbW:Below w.heap.size w W:=by rw[hW];exact bal (Below.refl _ _) _
 have l1:Live W w.heap.size 1 (.string vt):=by rw[hW];exact Live.fresh _ _ _ 1 _ rfl
 have l3:Live W w.heap.size 3 (.slice av n cap):=by rw[hW];exact Live.fresh _ _ _ 3 _ rfl
 have c1:=l1.1;have c3:=l3.1;have k1:=fun w=>kr9 vt w (by omega)
 have k2:=fun w=>kr8 n w (by omega)
 have hwn:IntKind.u64.wrap (n:Int)=n:=jd3 _ (by omega) (by omega);have hps:∀k,k≤n→(printS vt ns k).size≤10000+3000*k:=by
  intro k
  induction k with
  | zero=>intro _;show(sizedB vt++numS ns.length).size≤_;unfold sizedB;rw[ByteArray.size_append,ByteArray.size_append];show 4+vt.size+4≤_;omega
  | succ k ih=>
   intro h;have hk:ns[k]?=some ns[k]:=List.getElem?_eq_getElem (by omega);have hm:=hsm ns[k] (List.getElem_mem _);unfold printS;rw[hk,ByteArray.size_append];simp only;have:=ih (by omega);unfold noteS sizedB;rw[ByteArray.size_append,ByteArray.size_append,ByteArray.size_append];show _+(4+(_+1+_))≤_;omega
 have g1:=fun x:Grown W=>x.cell c1
 have g3:=fun x:Grown W=>x.cell c3
 have h0:printS vt ns 0=sizedB vt++numS n:=by rw[hn];rfl
 have hz1:(sizedB vt).size≤1004:=by unfold sizedB;rw[ByteArray.size_append];show 4+vt.size≤_;omega
 have hz2:(numS n).size=4:=rfl;generalize sizedB vt=SV at *;generalize numS n=SN at *;have HC:=Lib.hid hc;have HN:=Lib.hid hn;have HBW:=Lib.hid hbW;have L3:=Lib.hid l3;have K1:=Lib.hid k1;have K2:=Lib.hid k2;have HPS:=Lib.hid hps;have H0:=Lib.hid h0;have HSM:=Lib.hid hsm;clear hc hn hbW l3 k1 k2 hps h0 hsm
 go_enter Tryz.func35,Tryz.ntmps35
 go_wp2_with fail
 rw[←hW];clear hW;refine wp_region_grown (by kernel_rfl) (by kernel_rfl) ?_
 repeat (first|go_big_quiet_step ((first|(go_at_call 69;with_reducible exact Calls.grown_of (K1.out _))|(go_at_call 70;with_reducible exact Calls.grown_of (K2.out _))))|quiet_step ((first|(go_at_call 69;with_reducible exact Calls.grown_of (K1.out _))|(go_at_call 70;with_reducible exact Calls.grown_of (K2.out _)))))
 refine wpQuiet_nil ?_;intro _ hw';obtain⟨xg,rfl⟩:=hw';have hbx:=xg.bel;clear g1 g3;generalize xg.wd=W3 at *;clear xg
 go_wp2_with fail
 go_loopw [5,6] (fun sv iv wr=>∃k:Nat,iv=.int .i64 (k:Int)∧k≤n∧sv=.string (printS vt ns k)∧Below W.heap.size W wr) (fun _ iv _=>n-(intOf iv).toNat)
 case atStart=>exact⟨0,rfl,Nat.zero_le _,by rw[H0.out],hbx⟩
 case round=>
  obtain⟨k,rfl,hk,rfl,hbel⟩:=hrel;clear hbx;have c3':=kc hbel L3.out.1;have hTs:=HPS.out k hk;by_cases hlt:k<n
  · obtain⟨x,hx⟩:=jb6 ns k (by rw[←HN.out];exact hlt)
    obtain⟨g,o,rfl,d0,d1,d2⟩:=qb2 HC.out k x hx;have d0:=kc hbel (kc HBW.out d0);have d1:=kc hbel (kc HBW.out d1);obtain⟨b1,b2⟩:=HSM.out x (List.mem_of_getElem? hx);have hst:printS vt ns (k+1)=printS vt ns k++noteS x:=by rw[printS,hx]
    have k3:∀w,Calls Tryz.prog 69 #[.string (x.name++⟨#[61]⟩++x.text)] w fun e w'=>e=.returned (.string (noteS x))∧Below w.heap.size w w':=fun w=>kr9 _ w (by rw[ByteArray.size_append,ByteArray.size_append];show x.name.size+1+x.text.size<_;omega)
    have hNs:(noteS x).size≤3000:=by
     unfold noteS sizedB;rw[ByteArray.size_append,ByteArray.size_append,ByteArray.size_append];show 4+(_+1+_)≤_;omega
    have g0:=fun y:Grown wr=>y.cell d0
    have g1:=fun y:Grown wr=>y.cell d1
    have g3:=fun y:Grown wr=>y.cell c3'
    have m0:(0:Int)≤(k:Int):=by omega
    have m1:(k:Int)<(n:Int):=by omega
    generalize printS vt ns k=T at *;generalize noteS x=NS at *;have K3:=Lib.hid k3;have HST:=Lib.hid hst;clear k3 hst;clear hx d2
    go_wp2_with fail
    refine wp_region_grown (by kernel_rfl) (by kernel_rfl) ?_
    repeat (first|go_big_quiet_step ((go_at_call 69;exact Calls.grown_of (K3.out _)))|quiet_step ((go_at_call 69;exact Calls.grown_of (K3.out _))))
    refine wpQuiet_nil ?_;intro _ hw';obtain⟨xg,rfl⟩:=hw';have hby:=bt hbel xg.bel;clear g0 g1 g3;generalize xg.wd=W4 at *;clear xg
    go_wp2_with fail
    go_roundw
    case rel=>exact⟨k+1,by go_num,by omega,by rw[HST.out],hby⟩
    case measure=>simp[intOf];omega
  · have hkn:k=n:=by omega
    have hbf:=HBW.out.trans (hbel.mono HBW.out.size);have m1:¬(k:Int)<(n:Int):=by omega
    have hT2:printS vt ns k=printS vt ns n:=by rw[hkn]
    have HBF:=Lib.hid hbf;have HT2:=Lib.hid hT2;clear hbf hT2;clear hkn;cases fr with
    | false=>
     go_wp2_with fail
     go_ret
     refine⟨kz4 ?_,HBF.out⟩;rw[HT2.out];apply ByteArray.ext;apply Array.toList_inj.1;show _=(printS vt ns n++⟨#[]⟩).data.toList;rw[ByteArray.data_append,Array.toList_append];simp
    | true=>
     go_wp2_with fail
     go_ret
     refine⟨kz4 ?_,HBF.out⟩;rw[HT2.out]
theorem xor64(a b:Nat)(ha:a<4294967296)(hb:b<4294967296):bits .xor .u64 (a:Int) (b:Int)=((a ^^^ b:Nat):Int):=by
 have h1:(BitVec.ofInt 64 (a:Int)).toNat=a:=by simp;omega
 have h2:(BitVec.ofInt 64 (b:Int)).toNat=b:=by simp;omega
 have h3:a ^^^ b<2^32:=Nat.xor_lt_two_pow (by omega) (by omega);unfold bits;simp only;rw[BitVec.toNat_xor];show IntKind.u64.wrap (((BitVec.ofInt 64 (a:Int)).toNat ^^^ (BitVec.ofInt 64 (b:Int)).toNat:Nat):Int)=_;rw[h1,h2,IntKind.wrap_u64];omega
theorem rbK_lt(n b:Nat):rbK n b<4294967296:=by
 unfold rbK;split
 · exact Nat.xor_lt_two_pow (n:=32) (by omega) (by omega)
 · omega
theorem rK_lt(n c:Nat)(hn:n<4294967296):∀k,rK n c k<4294967296
 | 0=>hn
 | k+1=>rbK_lt _ _
theorem vs9(n:Nat)(c:UInt8)(w:World)(hn:n<4294967296):Calls Tryz.prog 106 #[.int .u64 (n:Int),.int .u8 c.toNat] w fun e w'=>e=.returned (.int .u64 (rK n c.toNat 8:Nat))∧w=w':=by
 have hc:=c.toNat_lt;generalize c.toNat=b at *;have hwb:IntKind.u64.wrap (b:Int)=b:=jd3 _ (by omega) (by omega)
 go_enter Tryz.func106,Tryz.ntmps106
 go_wp2_with fail
 go_loop [0,5] (fun sv iv=>∃k:Nat,sv=.int .u64 ((rK n b k:Nat):Int)∧iv=.int .i64 (7-(k:Int))∧k≤8) (fun _ iv=>(intOf iv+1).toNat)
 case atStart=>exact⟨0,rfl,rfl,Nat.zero_le _⟩
 case round=>
  obtain⟨k,rfl,rfl,hk⟩:=hrel;by_cases hlt:k<8
  · have hx:=rK_lt n b hn k
    have hst:rK n b (k+1)=rbK (rK n b k) (b/2^(7-k)):=rfl;generalize rK n b k=x at *;have hge:(7:Int)-k ≥ 0:=by omega
    go_wp2_with fail
    go_loop [6,7] (fun bv jv=>∃j:Nat,bv=.int .u64 ((b/2^j:Nat):Int)∧jv=.int .i64 (j:Int)∧j≤7-k) (fun _ jv=>7-k-(intOf jv).toNat)
    case atStart=>exact⟨0,by simp,rfl,Nat.zero_le _⟩
    case round=>
     obtain⟨j,rfl,rfl,hj⟩:=hrel;by_cases hl2:j<7-k
     · have hy:b/2^(j+1)=b/2^j/2:=by rw[Nat.pow_succ,Nat.div_div_eq_div_mul]
       have HY:=Lib.hid hy;have hj1:(j:Int)<7-(k:Int):=by omega
       have hyl:b/2^j≤b:=Nat.div_le_self _ _;generalize b/2^j=y at *;have hwy:IntKind.u64.wrap ((y:Int)/2)=(y:Int)/2:=jd3 _ (by omega) (by omega);clear hy
       go_wp2_with fail
       go_round
       case rel=>exact⟨j+1,by rw[HY.out];congr 1,by go_num,by omega⟩
       case measure=>simp[intOf];omega
     · have hje:j=7-k:=by omega
       have hj1:¬(j:Int)<7-(k:Int):=by omega
       rw[←hje]at hst;have hy:b/2^j≤b:=Nat.div_le_self _ _;generalize b/2^j=y at *;have hw1:IntKind.u64.wrap ((x:Int)/2147483648+(y:Int))=(x:Int)/2147483648+(y:Int):=jd3 _ (by omega) (by omega);have hw2:IntKind.u64.wrap ((x:Int)*2)=(x:Int)*2:=jd3 _ (by omega) (by omega);have hxo:bits .xor .u64 ((x:Int)*2%4294967296) 79764919=(((x*2%4294967296) ^^^ 79764919:Nat):Int):=by
        rw[show(x:Int)*2%4294967296=((x*2%4294967296:Nat):Int) by omega];exact xor64 _ 79764919 (by omega) (by decide)
       have hwi:IntKind.i64.wrap (7-(k:Int)-1)=7-(k:Int)-1:=wi64 _ (by omega) (by omega);by_cases hb:(x/2147483648+y)%2=1
       · have hs:rK n b (k+1)=(x*2%4294967296) ^^^ 79764919:=by rw[hst];unfold rbK;rw[if_pos hb]
         have hd:((x:Int)/2147483648+(y:Int))%2=1:=by omega
         have HS:=Lib.hid hs;clear hst hs hb
         go_wp2_with fail
         go_round
         case rel=>exact⟨k+1,by rw[HS.out],by congr 1;omega,by omega⟩
         case measure=>simp[intOf];omega
       · have hs:rK n b (k+1)=x*2%4294967296:=by rw[hst];unfold rbK;rw[if_neg hb]
         have hd:((x:Int)/2147483648+(y:Int))%2=0:=by omega
         have HS:=Lib.hid hs;clear hst hs hb
         go_wp2_with fail
         go_round
         case rel=>exact⟨k+1,by rw[HS.out];congr 1,by congr 1;omega,by omega⟩
         case measure=>simp[intOf];omega
  · have hk8:k=8:=by omega
    subst hk8
    go_wp2_with fail
    go_ret
    exact⟨rfl,rfl⟩
theorem xg5(s:Int)(l:List UInt8)(c:UInt8):crcF s (l ++ [c])=crcI (crcF s l) c:=by rw[jw9];rfl
theorem vt2(s:ByteArray)(w:World)(hs:s.size≤1073741824):Calls Tryz.prog 84 #[.int .u64 0,.string s] w fun e w'=>e=.returned (.int .u64 (crcN (bl s):Nat))∧w=w':=by
 have HL:Hid ((bl s).length=s.size):=jb1 s
 go_enter Tryz.func84,Tryz.ntmps84
 go_wp2_with fail
 go_loop [0,5] (fun sv iv=>∃k:Nat,sv=.int .u64 (crcF 0 ((bl s).take k))∧iv=.int .i64 (k:Int)∧k≤s.size) (fun _ iv=>s.size-(intOf iv).toNat)
 case atStart=>exact⟨0,rfl,rfl,Nat.zero_le _⟩
 case round=>
  obtain⟨k,rfl,rfl,hk⟩:=hrel;by_cases hlt:k<s.size
  · obtain⟨b,hb⟩:=jb6 (bl s) k (by rw[HL.out];exact hlt)
    have X:∀h,s[k]'h=b:=jc7 s k b hb;obtain⟨h1,h2⟩:=List.getElem?_eq_some_iff.1 hb;have hst:crcF 0 ((bl s).take (k+1))=crcI (crcF 0 ((bl s).take k)) b:=by rw[List.take_succ_eq_append_getElem h1,h2,xg5]
    obtain⟨x,hx,hx2⟩:∃x:Nat,crcF 0 ((bl s).take k)=(x:Int)∧x<4294967296:=by
     obtain⟨q1,q2⟩:=jw8 ((bl s).take k) 0 (by omega);exact⟨(crcF 0 ((bl s).take k)).toNat,by omega,by omega⟩
    rw[hx]at hst ⊢;rw[crc_nat x b hx2]at hst;have k1:=fun w=>vs9 x b w hx2
    have HST:=Lib.hid hst;have K1:=Lib.hid k1;have j0:(0:Int)≤(k:Int):=by omega
    have j1:(k:Int)<(s.size:Int):=by omega
    clear hst hb h1 h2 hx k1
    go_wp2_with (go_at_call 106;(with_reducible refine(K1.out _).mono ?_);rintro e w1 ⟨rfl,rfl⟩)
    go_round
    case rel=>exact⟨k+1,by rw[HST.out],by go_num,by omega⟩
    case measure=>simp[intOf];omega
  · have hx:crcF 0 ((bl s).take k)=(crcN (bl s):Nat):=by
     rw[List.take_of_length_le (by rw[HL.out];omega)];have:=(jw8 (bl s) 0 (by omega)).1;unfold crcN;omega
    rw[hx]
    go_wp2_with fail
    go_ret
    exact⟨rfl,rfl⟩
theorem bl_eq{a b:ByteArray}(h:bl a=bl b):a=b:=by rw[←qf2 a,←qf2 b,h]
def beO(n:Int):Nat→List UInt8
 | 0=>[]
 | k+1=>beO (n/256) k ++ [UInt8.ofNat (n%256).toNat]
theorem beO_1(n:Nat):beO n 1 = [UInt8.ofNat n]:=by
 unfold beO beO;rw[List.nil_append];simp only[List.cons.injEq,and_true];apply UInt8.toNat_inj.1;rw[UInt8.toNat_ofNat',UInt8.toNat_ofNat'];omega
theorem ks0(k:Nat)(w:World)(hk:k≤8):Calls Tryz.prog 100 #[.int .i64 k] w fun e w'=>e=.returned (.int .i64 k)∧w=w':=by
 have h1:¬(k:Int)<0:=by omega
 have h2:¬(k:Int) > 8:=by omega
 go_enter Tryz.func100,Tryz.ntmps100
 go_wp2
 go_ret
 exact⟨rfl,rfl⟩
theorem qg7(n k:Nat)(w:World)(hn:n<4294967296)(hk:k≤8):Calls Tryz.prog 107 #[.int .u64 (n:Int),.int .i64 k] w fun e w'=>e=.returned (.string ⟨(beO n k).toArray⟩)∧Below w.heap.size w w':=by
 have k1:=fun w=>ks0 k w hk
 have hcv:∀(x:Int) (W:World),0≤x→(convert 140 9 (.slice (some ⟨W.heap.size,0,none⟩) 1 1)).run Tryz.prog (W.alloc (.cells #[.int .u8 (x%256)] 5))=.ok (.string ⟨#[UInt8.ofNat (x%256).toNat]⟩) (W.alloc (.cells #[.int .u8 (x%256)] 5)):=by
  intro x W hx;have h:=jf7 (l:=[UInt8.ofNat (x%256).toNat]) 140 9 Tryz.underlying140 Tryz.underlying5 Tryz.underlying9 (World.ownsRow_lit (size:=1) (base:=W.heap.size) W #[.int .u8 ((UInt8.ofNat (x%256).toNat).toNat:Int)] 1 (Nat.le_refl _) (by unfold maxLen;omega) rfl);rw[jp5 x hx]at h;exact h
 obtain⟨E,hE⟩:∃E,E=beO n k:=⟨_,rfl⟩;rw[←hE];have HCV:=Lib.hid hcv;have K1:=Lib.hid k1;have HE:=Lib.hid hE;clear hcv k1 hE
 go_enter Tryz.func107,Tryz.ntmps107
 go_wp2
 go_loopw [0,5,6] (fun q s i wr=>∃(j:Nat) (x:Int) (T:ByteArray),j≤k∧T.size=j∧0≤x∧x≤n∧q=.int .u64 x∧s=.string T∧i=.int .i64 (j:Int)∧Hid (beO x (k-j)++bl T=E)∧Below w.heap.size w wr) (fun _ _ i _=>k-(intOf i).toNat)
 case atStart=>exact⟨0,n,⟨#[]⟩,Nat.zero_le _,rfl,by omega,Int.le_refl _,rfl,rfl,rfl,Lib.hid (by rw[HE.out];simp),Below.refl _ _⟩
 case round=>
  obtain⟨j,x,T,hj,hpl,hx0,hx1,rfl,rfl,rfl,hbig,hbel⟩:=hrel;by_cases hlt:j<k
  · obtain⟨i,hi⟩:∃i,k-j=i+1:=⟨k-j-1,by omega⟩
    have hb2:=hbig.out;rw[hi,show beO x (i+1)=beO (x/256) i ++ [UInt8.ofNat (x%256).toNat] from rfl]at hb2;have hi2:k-(j+1)=i:=by omega
    have hcv:=fun W=>HCV.out x W hx0
    have hw8:IntKind.u8.wrap (x%256)=x%256:=wraps_u8 _ (by omega) (by omega);have hbx:=bal hbel (.cells #[.int .u8 (x%256)] 5);have hTs:T.size≤8:=by omega
    have HB2:=Lib.hid hb2;have HI2:=Lib.hid hi2;have HPL:=Lib.hid hpl;have HBX:=Lib.hid hbx;clear hb2 hi2 hpl hbx;clear hbig hi;generalize UInt8.ofNat (x%256).toNat=bb at *
    go_wp2_with (go_at_call 100;refine(K1.out _).mono ?_;rintro e w1 ⟨rfl,rfl⟩)
    exact⟨⟨j+1,x/256,⟨#[bb]⟩++T,by omega,by have:=HPL.out;rw[ByteArray.size_append];show 1+T.size=_;omega,by omega,by omega,rfl,rfl,by go_num,Lib.hid (by rw[←HB2.out,HI2.out,List.append_assoc];show _++(⟨#[bb]⟩++T).data.toList=_;rw[ByteArray.data_append,Array.toList_append]),HBX.out⟩,by simp[intOf];omega⟩
  · have hk4:j=k:=by omega
    have hb2:=hbig.out;rw[show k-j=0 by omega,show beO x 0 = [] from rfl,List.nil_append]at hb2;have HB2:=Lib.hid hb2;clear hb2;clear hbig hk4
    go_wp2_with (go_at_call 100;refine(K1.out _).mono ?_;rintro e w1 ⟨rfl,rfl⟩)
    go_ret
    exact⟨kz4 (by rw[←HB2.out]),hbel⟩
theorem jq0(n m:Nat)(w:World)(hn:n<18446744073709551616)(hm:m≤8):Calls Tryz.prog 70 #[.int .u64 (n:Int),.int .i64 m] w fun e w'=>e=.returned (.string (toB (leL n m)))∧Below w.heap.size w w':=by
 have k1:=fun w=>ks0 m w hm
 have K1:=Lib.hid k1;clear k1;have hcv:∀(x:Int) (W:World),0≤x→(convert 140 9 (.slice (some ⟨W.heap.size,0,none⟩) 1 1)).run Tryz.prog (W.alloc (.cells #[.int .u8 (x%256)] 5))=.ok (.string ⟨#[UInt8.ofNat (x%256).toNat]⟩) (W.alloc (.cells #[.int .u8 (x%256)] 5)):=by
  intro x W hx;have h:=jf7 (l:=[UInt8.ofNat (x%256).toNat]) 140 9 Tryz.underlying140 Tryz.underlying5 Tryz.underlying9 (World.ownsRow_lit (size:=1) (base:=W.heap.size) W #[.int .u8 ((UInt8.ofNat (x%256).toNat).toNat:Int)] 1 (Nat.le_refl _) (by unfold maxLen;omega) rfl);rw[jp5 x hx]at h;exact h
 obtain⟨E,hE⟩:∃E,E=leL n m:=⟨_,rfl⟩;rw[←hE];have HE:=Lib.hid hE;clear hE;have HCV:=Lib.hid hcv;clear hcv
 go_enter Tryz.func70,Tryz.ntmps70
 go_wp2
 go_loopw [0,5,6] (fun q s i wr=>∃(k:Nat) (x:Int) (T:ByteArray),k≤m∧T.size=k∧0≤x∧x≤n∧q=.int .u64 x∧s=.string T∧i=.int .i64 (k:Int)∧Hid (E=bl T++leL x (m-k))∧Below w.heap.size w wr) (fun _ _ i _=>m-(intOf i).toNat)
 case atStart=>exact⟨0,n,⟨#[]⟩,Nat.zero_le _,rfl,by omega,Int.le_refl _,rfl,rfl,rfl,Lib.hid (by rw[HE.out];simp),Below.refl _ _⟩
 case round=>
  obtain⟨k,x,T,hk,hpl,hx0,hx1,rfl,rfl,rfl,hbig,hbel⟩:=hrel;by_cases hlt:k<m
  · obtain⟨j,hj⟩:∃j,m-k=j+1:=⟨m-k-1,by omega⟩
    have hb2:=hbig.out;rw[hj,show leL x (j+1)=UInt8.ofNat (x%256).toNat::leL (x/256) j from rfl]at hb2;have hj2:m-(k+1)=j:=by omega
    have hcv:=fun W=>HCV.out x W hx0
    have hw8:IntKind.u8.wrap (x%256)=x%256:=wraps_u8 _ (by omega) (by omega);have hbx:=bal hbel (.cells #[.int .u8 (x%256)] 5);have hTs:T.size≤8:=by omega
    have HB2:=Lib.hid hb2;have HJ2:=Lib.hid hj2;have HPL:=Lib.hid hpl;have HBX:=Lib.hid hbx;clear hb2 hj2 hpl hbx;clear hbig hj;generalize UInt8.ofNat (x%256).toNat=bb at *
    go_wp2_with (go_at_call 100;refine(K1.out _).mono ?_;rintro e w1 ⟨rfl,rfl⟩)
    exact⟨⟨k+1,x/256,T++⟨#[bb]⟩,by omega,by rw[ByteArray.size_append,HPL.out];rfl,by omega,by omega,rfl,rfl,by go_num,Lib.hid (by rw[HB2.out,HJ2.out];show _=(T++⟨#[bb]⟩).data.toList++_;rw[ByteArray.data_append,Array.toList_append];simp),HBX.out⟩,by simp[intOf];omega⟩
  · have hk4:k=m:=by omega
    have hb2:=hbig.out;rw[show m-k=0 by omega,show leL x 0 = [] from rfl,List.append_nil]at hb2;have HB2:=Lib.hid hb2;clear hb2;clear hbig hk4
    go_wp2_with (go_at_call 100;refine(K1.out _).mono ?_;rintro e w1 ⟨rfl,rfl⟩)
    go_ret
    exact⟨kz4 (by rw[HB2.out];exact qf2 T),hbel⟩
theorem kg8(n:Int):∀k,(leL n k).length=k:=by
 intro k
 induction k generalizing n with
 | zero=>rfl
 | succ k ih=>rw[leL,List.length_cons,ih]
theorem qd9(a b:List UInt8):toB a++toB b=toB (a++b):=by
 apply bl_eq;rw[jd6,jf5,jf5,jf5]
set_option maxRecDepth 100000 in
theorem qg1(p:PG)(four:ByteArray)(w:World)(hg:okG p)(hl:p.la.size≤500000000∧p.bo.size≤500000000)(h4:four.size=4):
 Calls Tryz.prog 85 #[.agg #[.int .i64 p.fl.toNat,.int .u64 p.po,.int .u64 p.se,.int .u64 p.nu,.string p.la,.string p.bo],.string four] w fun e w'=>e=.returned (.string (toB (gpartsL p (bl four))))∧Below w.heap.size w w':=by
 obtain⟨g1,g2,g3⟩:=hg;have hfl:=p.fl.toNat_lt;have kb1:∀w,Calls Tryz.prog 107 #[.int .u64 (p.fl.toNat:Int),.int .i64 1] w fun e w'=>e=.returned (.string ⟨(beO p.fl.toNat 1).toArray⟩)∧Below w.heap.size w w':=fun w=>qg7 p.fl.toNat 1 w (by omega) (by omega)
 have kb2:∀w,Calls Tryz.prog 107 #[.int .u64 (p.la.size:Int),.int .i64 1] w fun e w'=>e=.returned (.string ⟨(beO p.la.size 1).toArray⟩)∧Below w.heap.size w w':=fun w=>qg7 p.la.size 1 w (by omega) (by omega)
 have ks1:∀w,Calls Tryz.prog 70 #[.int .u64 (p.po:Int),.int .i64 8] w fun e w'=>e=.returned (.string (toB (leL p.po 8)))∧Below w.heap.size w w':=fun w=>jq0 p.po 8 w g1 (by omega)
 have ks2:∀w,Calls Tryz.prog 70 #[.int .u64 (p.se:Int),.int .i64 4] w fun e w'=>e=.returned (.string (toB (leL p.se 4)))∧Below w.heap.size w w':=fun w=>jq0 p.se 4 w (by omega) (by omega)
 have ks3:∀w,Calls Tryz.prog 70 #[.int .u64 (p.nu:Int),.int .i64 4] w fun e w'=>e=.returned (.string (toB (leL p.nu 4)))∧Below w.heap.size w w':=fun w=>jq0 p.nu 4 w (by omega) (by omega)
 have hR:(⟨#[79,103,103,83,0]⟩:ByteArray)++⟨(beO p.fl.toNat 1).toArray⟩++toB (leL p.po 8)++toB (leL p.se 4)++toB (leL p.nu 4)++four++⟨(beO p.la.size 1).toArray⟩++p.la++p.bo=toB (gpartsL p (bl four)):=by
  apply bl_eq;rw[jf5];unfold gpartsL;simp only[jd6,jf5];rw[beO_1,beO_1];have e1:(UInt8.ofNat p.fl.toNat)=p.fl:=UInt8.ofNat_toNat;rw[e1];simp[bl]
 obtain⟨R,hR'⟩:∃R,R=toB (gpartsL p (bl four)):=⟨_,rfl⟩;rw[←hR']at hR ⊢;have z1:(⟨(beO p.fl.toNat 1).toArray⟩:ByteArray).size=1:=by rw[beO_1];rfl
 have z2:(⟨(beO p.la.size 1).toArray⟩:ByteArray).size=1:=by rw[beO_1];rfl
 have z3:(toB (leL p.po 8)).size=8:=by rw[szB,kg8]
 have z4:(toB (leL p.se 4)).size=4:=by rw[szB,kg8]
 have z5:(toB (leL p.nu 4)).size=4:=by rw[szB,kg8]
 have w1:IntKind.u64.wrap (p.fl.toNat:Int)=p.fl.toNat:=jd3 _ (by omega) (by omega);have w2:IntKind.u64.wrap (p.la.size:Int)=p.la.size:=jd3 _ (by omega) (by omega);obtain⟨l1,l2⟩:=hl;generalize (⟨(beO p.fl.toNat 1).toArray⟩:ByteArray)=b1 at *;generalize (⟨(beO p.la.size 1).toArray⟩:ByteArray)=b2 at *;generalize toB (leL p.po 8)=s1 at *;generalize toB (leL p.se 4)=s2 at *;generalize toB (leL p.nu 4)=s3 at *;obtain⟨fl,po,se,nu,la,bo⟩:=p;simp only at *;generalize fl.toNat=fn at *;have v1:¬(27+la.size > 9223372036854775807):=by omega
 have v2:¬(27+la.size+bo.size > 9223372036854775807):=by omega
 have v3:(9223372036854775780<la.size)=False:=by simp;omega
 have v4:(9223372036854775780<la.size+bo.size)=False:=by simp;omega
 have v5:la.size≤9223372036854775780:=by omega
 have v6:la.size+bo.size≤9223372036854775780:=by omega
 obtain⟨W,hW⟩:∃W,W=w.alloc (.cells #[.int .i64 fn,.int .u64 po,.int .u64 se,.int .u64 nu,.string la,.string bo] 40):=⟨_,rfl⟩;have hbW:Below w.heap.size w W:=by rw[hW];exact bal (Below.refl _ _) _
 obtain⟨p0,p1,p2,p3,p4,p5⟩:=gvL (show W.heap[w.heap.size]?=some (.cells #[.int .i64 fn,.int .u64 po,.int .u64 se,.int .u64 nu,.string la,.string bo] 40 (0,0)) by rw[hW];exact heap_alloc_new _ _);have KSA:Hid (∀wz,Below W.heap.size W wz→wz.cell? ⟨w.heap.size,0,none⟩=some (.int .i64 fn)∧wz.cell? ⟨w.heap.size,1,none⟩=some (.int .u64 po)∧wz.cell? ⟨w.heap.size,2,none⟩=some (.int .u64 se)∧wz.cell? ⟨w.heap.size,3,none⟩=some (.int .u64 nu)∧wz.cell? ⟨w.heap.size,4,none⟩=some (.string la)∧wz.cell? ⟨w.heap.size,5,none⟩=some (.string bo)):=Lib.hid fun wz hb=>⟨kc hb p0,kc hb p1,kc hb p2,kc hb p3,kc hb p4,kc hb p5⟩
 have hbk:=Below.refl W.heap.size W;have KB1:=Lib.hid fun w' (hb:Below W.heap.size W w')=>(kb1 w').mono fun e w'' q=>(⟨q.1,bt hb q.2⟩:_∧Below W.heap.size W w'')
 have KB2:=Lib.hid fun w' (hb:Below W.heap.size W w')=>(kb2 w').mono fun e w'' q=>(⟨q.1,bt hb q.2⟩:_∧Below W.heap.size W w'')
 have KS1:=Lib.hid fun w' (hb:Below W.heap.size W w')=>(ks1 w').mono fun e w'' q=>(⟨q.1,bt hb q.2⟩:_∧Below W.heap.size W w'')
 have KS2:=Lib.hid fun w' (hb:Below W.heap.size W w')=>(ks2 w').mono fun e w'' q=>(⟨q.1,bt hb q.2⟩:_∧Below W.heap.size W w'')
 have KS3:=Lib.hid fun w' (hb:Below W.heap.size W w')=>(ks3 w').mono fun e w'' q=>(⟨q.1,bt hb q.2⟩:_∧Below W.heap.size W w'')
 have HR:=Lib.hid hR;have HBW:=Lib.hid hbW;clear hR hbW;clear p0 p1 p2 p3 p4 p5 hR' g1 g2 g3 hfl kb1 kb2 ks1 ks2 ks3
 go_enter Tryz.func85,Tryz.ntmps85
 go_wp2_with fail
 rw[←hW];clear hW
 go_region_held3 (fun w'=>w'.cell? ⟨w.heap.size,0,none⟩=some (.int .i64 fn)∧w'.cell? ⟨w.heap.size,1,none⟩=some (.int .u64 po)∧w'.cell? ⟨w.heap.size,2,none⟩=some (.int .u64 se)∧w'.cell? ⟨w.heap.size,3,none⟩=some (.int .u64 nu)∧w'.cell? ⟨w.heap.size,4,none⟩=some (.string la)∧w'.cell? ⟨w.heap.size,5,none⟩=some (.string bo))
  (first|(with_reducible refine KSA.out _ ?_;(first|exact hbk|exact hbk.drew))|go_keep)
  (first
    | (go_at_call_of 107 (Value.int .u64 (fn:Int));refine(KB1.out _ ?_).mono ?_;(first|exact hbk|exact bdn hbk _|exact hbk.drew);clear hbk;rintro e w10 ⟨rfl,hbk⟩)
    | (go_at_call_of 107 (Value.int .u64 (la.size:Int));refine(KB2.out _ ?_).mono ?_;(first|exact hbk|exact bdn hbk _|exact hbk.drew);clear hbk;rintro e w10 ⟨rfl,hbk⟩)
    | (go_at_call_of 70 (Value.int .u64 (po:Int));refine(KS1.out _ ?_).mono ?_;(first|exact hbk|exact bdn hbk _|exact hbk.drew);clear hbk;rintro e w10 ⟨rfl,hbk⟩)
    | (go_at_call_of 70 (Value.int .u64 (se:Int));refine(KS2.out _ ?_).mono ?_;(first|exact hbk|exact bdn hbk _|exact hbk.drew);clear hbk;rintro e w10 ⟨rfl,hbk⟩)
    | (go_at_call_of 70 (Value.int .u64 (nu:Int));refine(KS3.out _ ?_).mono ?_;(first|exact hbk|exact bdn hbk _|exact hbk.drew);clear hbk;rintro e w10 ⟨rfl,hbk⟩))
 go_wp2_with fail
 go_ret
 exact⟨kz4 HR.out,bt HBW.out hbk⟩
end Go.Proofs.YtagjkmkmphamoaaGreatDoor
