/- B2 -/
import Derived.Test.YtagjkmkmphamoaaGreatDoorPB1
import Derived.Test.YtagjkmkmphamoaaGreatDoorPA9
import Derived.Test.YtagjkmkmphamoaaGreatDoorPA5
set_option linter.all false
set_option maxHeartbeats 4000000
namespace Go.Proofs.YtagjkmkmphamoaaGreatDoor
open Go.RowKit
structure TS (w:World) (r B:Nat) (x:RS) (cs:Array Value) (wr:World):Prop where
 gg:w.grownBy wr (some r)
 rz:wr.heap[w.heap.size]?=some (.cells #[.int .u8 0,.int .u64 0,.int .u32 0,.int .u32 0,.string ⟨#[]⟩,.string ⟨#[]⟩] 27 (0,0))
 pb:wr.heap[B]?=some (.cells cs 27 (0,0))
 rd:InX wr r x
 hr:r<w.heap.size
 hB:w.heap.size<B
section
variable {w wr:World} {r B:Nat} {x:RS} {cs:Array Value}
theorem TS.gr(h:TS w r B x cs wr){w':World}{y:RS}(hg:wr.grownBy w' (some r))(hi:InX w' r y):TS w r B y cs w':=by
 obtain⟨a,b,c,d,e,f⟩:=h;exact⟨jb3 a hg,(hg.block _ (Array.getElem?_eq_some_iff.1 b).1 (by simp;omega)).trans b,(hg.block _ (Array.getElem?_eq_some_iff.1 c).1 (by simp;omega)).trans c,hi,e,f⟩
theorem TS.bel(h:TS w r B x cs wr){w':World}(hb:Below wr.heap.size wr w'):TS w r B x cs w':=h.gr (jc1 hb) (h.rd.bel hb)
theorem TS.set(h:TS w r B x cs wr)(i:Nat)(v:Value):TS w r B x (cs.setIfInBounds i v) (wr.setCell ⟨B,i,none⟩ v):=by
 obtain⟨a,b,c,d,e,f⟩:=h;exact⟨jb9 a (by simp;omega) _,(Below.heap_setCell _ _ _ _ (by simp;omega)).trans b,Go.Lib.heap_setCell_same (i:=i) c v,InC.blk d (Below.heap_setCell _ _ _ _ (by simp;omega)),e,f⟩
end
def pg0:PG:=⟨0,0,0,0,⟨#[]⟩,⟨#[]⟩⟩
def GParsePost(p:RS×Option PG)(w:World)(r:Nat)(e:Ending)(w':World):Prop:=e=.returned (.tuple #[gV (p.2.getD pg0),.bool p.2.isSome])∧InX w' r p.1∧w.grownBy w' (some r)
theorem gV0:gV pg0=.agg #[.int .u8 0,.int .u64 0,.int .u32 0,.int .u32 0,.string ⟨#[]⟩,.string ⟨#[]⟩]:=rfl
set_option maxRecDepth 100000 in
theorem xf1(w:World)(r:Nat)(x:RS)(h:InX w r x)(hk:okR x)(hx:x.e≠0∨leftR x=0):
 Calls Tryz.prog 72 #[.pointer (some ⟨r,0,none⟩)] w (GParsePost (gparR crcN x) w r):=by
 have hp:gparR crcN x=(x,none):=by unfold gparR;rw[if_pos hx]
 rw[hp];clear hp;have k1:=fun w h=>jc5 w r x h
 have k2:=fun w=>jb8 x.e x.a w
 have k3:=fun w h=>kh0 w r x h hk
 obtain⟨W,hW⟩:∃W,W=w.alloc (.cells #[.int .u8 0,.int .u64 0,.int .u32 0,.int .u32 0,.string ⟨#[]⟩,.string ⟨#[]⟩] 27):=⟨_,rfl⟩;have Z:W.heap[w.heap.size]?=some (.cells #[.int .u8 0,.int .u64 0,.int .u32 0,.int .u32 0,.string ⟨#[]⟩,.string ⟨#[]⟩] 27 (0,0)):=by rw[hW];exact heap_alloc_new _ _
 have hbW:Below w.heap.size w W:=by rw[hW];exact bal (Below.refl _ _) _
 have hi:=h.bel hbW;have hrl:=h.lt;have hbk:=Below.refl W.heap.size W;have KZ:Hid (∀wz,Below W.heap.size W wz→wz.heap[w.heap.size]?=some (.cells #[.int .u8 0,.int .u64 0,.int .u32 0,.int .u32 0,.string ⟨#[]⟩,.string ⟨#[]⟩] 27 (0,0))):=Lib.hid fun wz hb=>(hb.block _ (Array.getElem?_eq_some_iff.1 Z).1).trans Z
 by_cases he:x.e=0
 · have hl:leftR x=0:=hx.resolve_left (fun h=>h he)
   have hd:(!decide (x.e=0))=false:=by simpa using he
   rw[hd]at k2;rw[hl]at k3;have K1:=Lib.hid k1;have K2:=Lib.hid k2;have K3:=Lib.hid k3;have HBW:=Lib.hid hbW;have HI:=Lib.hid hi;clear k1 k2 k3 hbW hi;clear hx he hl hd hk h Z
   go_enter Tryz.func72,Tryz.ntmps72
   go_upto_region 1 with fail
   rw[←hW];clear hW
   go_wp2_with (first
    | (go_at_call 43;(with_reducible refine(K1.out _ HI.out).mono ?_);rintro e1 w1 ⟨rfl,hb1⟩;replace hbk:=bt hbk hb1)
    | (go_at_call 16;refine(K2.out _).mono ?_;rintro e2 w2 ⟨rfl,hb2⟩;replace hbk:=bt hbk hb2)
    | (go_at_call 83;(with_reducible refine(K3.out _ (HI.out.bel hbk)).mono ?_);rintro e3 w3 ⟨rfl,hb3⟩;replace hbk:=bt hbk hb3;obtain⟨z0,z0'⟩:=jb0 (KZ.out _ hbk) 0 _ rfl;obtain⟨z1,z1'⟩:=jb0 (KZ.out _ hbk) 1 _ rfl;obtain⟨z2,z2'⟩:=jb0 (KZ.out _ hbk) 2 _ rfl;obtain⟨z3,z3'⟩:=jb0 (KZ.out _ hbk) 3 _ rfl;obtain⟨z4,z4'⟩:=jb0 (KZ.out _ hbk) 4 _ rfl;obtain⟨z5,z5'⟩:=jb0 (KZ.out _ hbk) 5 _ rfl))
   refine bodyPost_ret (v:=.tuple #[.agg #[.int .u8 0,.int .u64 0,.int .u32 0,.int .u32 0,.string ⟨#[]⟩,.string ⟨#[]⟩],.bool false]) (by simp[results,Tryz.results72,go_sem,z0,z1,z2,z3,z4,z5,z0',z1',z2',z3',z4',z5']) rfl ?_;have hbz:=HBW.out.trans (hbk.mono HBW.out.size);exact⟨rfl,(HI.out.bel hbk).gr (jb3 (jb3 (jb3 (jb3 (jb3 (jc0 _ _ _ _) (jc0 _ _ _ _)) (jc0 _ _ _ _)) (jc0 _ _ _ _)) (jc0 _ _ _ _)) (jc0 _ _ _ _)) (by simp;omega),jb9 (jb9 (jb9 (jb9 (jb9 (jb9 (jc1 hbz) (Nat.le_refl _) _) (Nat.le_refl _) _) (Nat.le_refl _) _) (Nat.le_refl _) _) (Nat.le_refl _) _) (Nat.le_refl _) _⟩
 · have hd:(!decide (x.e=0))=true:=by simpa using he
   rw[hd]at k2;have K1:=Lib.hid k1;have K2:=Lib.hid k2;have K3:=Lib.hid k3;have HBW:=Lib.hid hbW;have HI:=Lib.hid hi;clear k1 k2 k3 hbW hi;clear hx he hd hk h Z
   go_enter Tryz.func72,Tryz.ntmps72
   go_upto_region 1 with fail
   rw[←hW];clear hW
   go_wp2_with (first
    | (go_at_call 43;(with_reducible refine(K1.out _ HI.out).mono ?_);rintro e1 w1 ⟨rfl,hb1⟩;replace hbk:=bt hbk hb1)
    | (go_at_call 16;refine(K2.out _).mono ?_;rintro e2 w2 ⟨rfl,hb2⟩;replace hbk:=bt hbk hb2;obtain⟨z0,z0'⟩:=jb0 (KZ.out _ hbk) 0 _ rfl;obtain⟨z1,z1'⟩:=jb0 (KZ.out _ hbk) 1 _ rfl;obtain⟨z2,z2'⟩:=jb0 (KZ.out _ hbk) 2 _ rfl;obtain⟨z3,z3'⟩:=jb0 (KZ.out _ hbk) 3 _ rfl;obtain⟨z4,z4'⟩:=jb0 (KZ.out _ hbk) 4 _ rfl;obtain⟨z5,z5'⟩:=jb0 (KZ.out _ hbk) 5 _ rfl))
   refine bodyPost_ret (v:=.tuple #[.agg #[.int .u8 0,.int .u64 0,.int .u32 0,.int .u32 0,.string ⟨#[]⟩,.string ⟨#[]⟩],.bool false]) (by simp[results,Tryz.results72,go_sem,z0,z1,z2,z3,z4,z5,z0',z1',z2',z3',z4',z5']) rfl ?_;have hbz:=HBW.out.trans (hbk.mono HBW.out.size);exact⟨rfl,(HI.out.bel hbk).gr (jb3 (jb3 (jb3 (jb3 (jb3 (jc0 _ _ _ _) (jc0 _ _ _ _)) (jc0 _ _ _ _)) (jc0 _ _ _ _)) (jc0 _ _ _ _)) (jc0 _ _ _ _)) (by simp;omega),jb9 (jb9 (jb9 (jb9 (jb9 (jb9 (jc1 hbz) (Nat.le_refl _) _) (Nat.le_refl _) _) (Nat.le_refl _) _) (Nat.le_refl _) _) (Nat.le_refl _) _) (Nat.le_refl _) _⟩
set_option maxRecDepth 100000 in
theorem xf2(w:World)(r:Nat)(x:RS)(h:InX w r x)(hk:okR x)(he:x.e=0)(hl:leftR x≠0):
 Calls Tryz.prog 72 #[.pointer (some ⟨r,0,none⟩)] w (GParsePost (gparR crcN x) w r):=by
 have hgp:gparR crcN x=if(gheadR x).1.e≠0 then((gheadR x).1,none)else if gsumM crcN (gheadR x).2.1≠(gheadR x).2.2.1 then(failR (gheadR x).1 1 (gheadR x).2.2.2,none)else((gheadR x).1,some (gheadR x).2.1):=by
  unfold gparR;rw[if_neg (by rintro(h|h);exact h he;exact hl h)]
 rw[hgp];clear hgp;have kf0:=fun w h=>jc5 w r x h
 have kb0:=fun w=>jb8 x.e x.a w
 rw[show(!decide (x.e=0))=false by simpa using he]at kb0;have kl0:=fun w h=>kh0 w r x h hk
 have hl2:(leftR x==0)=false:=by simpa using hl
 generalize leftR x=LF at *;unfold gheadR;simp only;have c1:((1:Nat):Int)=1:=rfl;have c4:((4:Nat):Int)=4:=rfl;have c8:((8:Nat):Int)=8:=rfl;have kw1:=fun w h=>jt6 w r x oggS h hk (by decide)
 have ok1:=jt1 hk oggS;generalize wantR x oggS=A1 at *;obtain⟨x1,b1⟩:=A1;simp only at kw1 ok1 ⊢;have kw2:=fun w h=>jt6 w r x1 zeroB h ok1 (by decide)
 have ok2:=jt1 ok1 zeroB;generalize wantR x1 zeroB=A2 at *;obtain⟨x2,b2⟩:=A2;simp only at kw2 ok2 ⊢;have kf:=fun w h=>xc9 w r x2 1 h ok2 (by decide)
 have ok3:okR (bigR x2 1).1:=jj0 ok2 _;have lf:=qd6 x2;generalize bigR x2 1=A3 at *;obtain⟨x3,f⟩:=A3;simp only[c1]at kf ok3 lf ⊢;have kpo:=fun w h=>jt7 w r x3 8 h ok3 (by decide)
 have ok4:okR (smallR x3 8).1:=jj0 ok3 _;have lpo:=jp9 x3 8 (jk9 _ _);generalize smallR x3 8=A4 at *;obtain⟨x4,po⟩:=A4;simp only[c8]at kpo ok4 lpo ⊢;have kse:=fun w h=>jt7 w r x4 4 h ok4 (by decide)
 have ok5:okR (smallR x4 4).1:=jj0 ok4 _;have lse:=jp9 x4 4 (jk9 _ _);generalize smallR x4 4=A5 at *;obtain⟨x5,se⟩:=A5;simp only[c4]at kse ok5 lse ⊢;have knu:=fun w h=>jt7 w r x5 4 h ok5 (by decide)
 have ok6:okR (smallR x5 4).1:=jj0 ok5 _;have lnu:=jp9 x5 4 (jk9 _ _);generalize smallR x5 4=A6 at *;obtain⟨x6,nu⟩:=A6;simp only[c4]at knu ok6 lnu ⊢;have kat:=fun w h=>kn0 w r x6 h ok6
 have kfo:=fun w h=>jt7 w r x6 4 h ok6 (by decide)
 have ok7:okR (smallR x6 4).1:=jj0 ok6 _;have lfo:=jp9 x6 4 (jk9 _ _);generalize (x6.b:Int)+x6.n=AT at *;generalize smallR x6 4=A7 at *;obtain⟨x7,fo⟩:=A7;simp only[c4]at kfo ok7 lfo ⊢;have kn:=fun w h=>xc9 w r x7 1 h ok7 (by decide)
 have ok8:okR (bigR x7 1).1:=jj0 ok7 _;have ln:=qd6 x7;generalize bigR x7 1=A8 at *;obtain⟨x8,n⟩:=A8;simp only[c1]at kn ok8 ln ⊢;have kla:=fun w h=>jq3 w r x8 n h ok8 (by omega) (by omega)
 have ok9:=jj0 ok8 n;have lla:(takeR x8 n).2.size≤1073741824:=Nat.le_trans (kj3 x8 n) ok8.2.1;have lla2:=jm8 x8 n;generalize takeR x8 n=A9 at *;obtain⟨x9,la⟩:=A9;simp only at kla ok9 lla lla2 ⊢;have ktot:=fun w=>kv5 la w lla
 have ltot:=jf1 (bl la);rw[jb1]at ltot;have kbo:=fun w h=>jq3 w r x9 (totL (bl la)) h ok9 (by omega) (by omega)
 have lbo:(takeR x9 (totL (bl la))).2.size≤1073741824:=Nat.le_trans (kj3 x9 _) ok9.2.1;generalize takeR x9 (totL (bl la))=A10 at *;generalize totL (bl la)=TL at *;obtain⟨x10,bo⟩:=A10;simp only at kbo lbo ⊢;have kft:=fun w h=>jc5 w r x10 h
 have kbt:=fun w=>jb8 x10.e x10.a w
 have hfl:(UInt8.ofNat f).toNat=f:=by rw[UInt8.toNat_ofNat'];omega
 have ksum:=fun w=>vb9 ⟨UInt8.ofNat f,po,se,nu,la,bo⟩ w ⟨lla,lbo,by simp only;omega,by simp only;omega,by simp only;omega⟩
 have lsum:gsumM crcN ⟨UInt8.ofNat f,po,se,nu,la,bo⟩<4294967296:=kc7 _;have kfail:=fun w h=>jj1 w r x10 1 AT h
 unfold gV at ksum;simp only at ksum;rw[hfl]at ksum;have hpv:gV ⟨UInt8.ofNat f,po,se,nu,la,bo⟩=.agg #[.int .u8 f,.int .u64 po,.int .u32 se,.int .u32 nu,.string la,.string bo]:=by unfold gV;simp only;rw[hfl]
 generalize hPG:(⟨UInt8.ofNat f,po,se,nu,la,bo⟩:PG)=PGV at *;generalize gsumM crcN PGV=SM at *;have wf:IntKind.u8.wrap (f:Int)=f:=by rw[IntKind.wrap_u8];omega
 have wse:IntKind.u32.wrap (se:Int)=se:=by rw[IntKind.wrap_u32];omega
 have wnu:IntKind.u32.wrap (nu:Int)=nu:=by rw[IntKind.wrap_u32];omega
 have wn:IntKind.i64.wrap (n:Int)=n:=wi64 _ (by omega) (by omega);have wsm:IntKind.u64.wrap (SM:Int)=SM:=by rw[IntKind.wrap_u64];omega
 obtain⟨R,hR⟩:∃R,R=(if x10.e≠0 then(x10,none)else if SM≠fo then(failR x10 1 AT,none)else(x10,some PGV)):=⟨_,rfl⟩;rw[←hR];have hr1:x10.e≠0→R=(x10,none):=fun h=>by rw[hR,if_pos h]
 have hr2:x10.e=0→SM≠fo→R=(failR x10 1 AT,none):=fun h k=>by rw[hR,if_neg (fun c=>c h),if_pos k]
 have hr3:x10.e=0→SM=fo→R=(x10,some PGV):=fun h k=>by rw[hR,if_neg (fun c=>c h),if_neg (fun c=>c k)]
 clear hR;obtain⟨W,hW⟩:∃W,W=w.alloc (.cells #[.int .u8 0,.int .u64 0,.int .u32 0,.int .u32 0,.string ⟨#[]⟩,.string ⟨#[]⟩] 27):=⟨_,rfl⟩;have Z:W.heap[w.heap.size]?=some (.cells #[.int .u8 0,.int .u64 0,.int .u32 0,.int .u32 0,.string ⟨#[]⟩,.string ⟨#[]⟩] 27 (0,0)):=by rw[hW];exact heap_alloc_new _ _
 have hbW:Below w.heap.size w W:=by rw[hW];exact bal (Below.refl _ _) _
 have hWs:W.heap.size=w.heap.size+1:=by rw[hW,World.size_alloc]
 have hi:=h.bel hbW;have hrl:=h.lt;have c1':oggS=⟨#[79,103,103,83]⟩:=rfl;have c2':zeroB=⟨#[0]⟩:=rfl;rw[c1']at kw1;rw[c2']at kw2;have KF0:=Lib.hid kf0;have KB0:=Lib.hid kb0;have KL0:=Lib.hid kl0;have KW1:=Lib.hid kw1;have KW2:=Lib.hid kw2;have KF:=Lib.hid kf;have KPO:=Lib.hid kpo;have KSE:=Lib.hid kse;have KNU:=Lib.hid knu;have KAT:=Lib.hid kat;have KFO:=Lib.hid kfo;have KN:=Lib.hid kn;have KLA:=Lib.hid kla;have KTOT:=Lib.hid ktot;have KBO:=Lib.hid kbo;have KFT:=Lib.hid kft;have KBT:=Lib.hid kbt;have KSUM:=Lib.hid ksum;have KFAIL:=Lib.hid kfail;have HBW:=Lib.hid hbW;have HI:=Lib.hid hi;have HPV:=Lib.hid hpv;have Z0:=Lib.hid Z;have HWS:=Lib.hid hWs;have HR1:=Lib.hid hr1;have HR2:=Lib.hid hr2;have HR3:=Lib.hid hr3;clear kf0 kb0 kl0 kw1 kw2 kf kpo kse knu kat kfo kn kla ktot kbo kft kbt ksum kfail hbW hi hpv Z hWs hr1 hr2 hr3;clear ok1 ok2 ok3 ok4 ok5 ok6 ok7 ok8 ok9 lf lpo lse lnu lfo ln lla lla2 lbo ltot lsum c1 c4 c8 c1' c2' hfl hPG hk he hl h
 go_enter Tryz.func72,Tryz.ntmps72
 go_upto_region 1 with fail
 rw[←hW];clear hW
 go_upto_region 5 with(first
  | (go_at_call 43;(with_reducible refine(KF0.out _ HI.out).mono ?_);rintro e1 w1 ⟨rfl,hb1⟩)
  | (go_at_call 16;refine(KB0.out _).mono ?_;rintro e2 w2 ⟨rfl,hb2⟩;have hb12:=bt hb1 hb2)
  | (go_at_call 83;(with_reducible refine(KL0.out _ (HI.out.bel hb12)).mono ?_);rintro e3 w3 ⟨rfl,hb3⟩;have hb13:=bt hb12 hb3;have hi3:=HI.out.bel hb13)
  | (go_at_call 41;(first|with_reducible refine(KW1.out _ hi3).mono ?_|with_reducible refine(KW2.out _ hi3).mono ?_);rintro e4 w4 ⟨rfl,hi3,hg4⟩;(first|(have hg13:=jb3 (jc1 (row:=some r) hb13) hg4;clear hb13)|(replace hg13:=jb3 hg13 hg4))))
 have T:TS w r w4.heap.size x2 #[.int .u8 0,.int .u64 0,.int .u32 0,.int .u32 0,.string ⟨#[]⟩,.string ⟨#[]⟩] (w4.alloc (.cells #[.int .u8 0,.int .u64 0,.int .u32 0,.int .u32 0,.string ⟨#[]⟩,.string ⟨#[]⟩] 27)):=by
  have hz4:=hg13.size;rw[HWS.out]at hz4;have hzb:w4.heap[w.heap.size]?=some (.cells #[.int .u8 0,.int .u64 0,.int .u32 0,.int .u32 0,.string ⟨#[]⟩,.string ⟨#[]⟩] 27 (0,0)):=(hg13.block w.heap.size (by rw[HWS.out];omega) (by simp;omega)).trans Z0.out;exact⟨kn6 (jb3 (jc1 HBW.out) hg13) _,(heap_alloc_old _ _ (by omega)).trans hzb,heap_alloc_new _ _,hi3.bel (bal (Below.refl _ _) _),hrl,by omega⟩
 clear hi3 hg13
 go_upto_region 14 with(first
  | (go_at_call 101;first
      | ((with_reducible refine(KF.out _ T.rd).mono ?_);rintro e5 w5 ⟨rfl,hi5,hg5⟩;replace T:=T.gr hg5 hi5;obtain⟨p0,p0'⟩:=jb0 T.pb 0 _ rfl;replace T:=T.set 0 (.int .u8 f))
      | ((with_reducible refine(KN.out _ T.rd).mono ?_);rintro e5 w5 ⟨rfl,hi5,hg5⟩;replace T:=T.gr hg5 hi5))
  | (go_at_call 81;first
      | ((with_reducible refine(KPO.out _ T.rd).mono ?_);rintro e6 w6 ⟨rfl,hi6,hg6⟩;replace T:=T.gr hg6 hi6;obtain⟨p1,p1'⟩:=jb0 T.pb 1 _ rfl;replace T:=T.set 1 (.int .u64 po))
      | ((with_reducible refine(KSE.out _ T.rd).mono ?_);rintro e6 w6 ⟨rfl,hi6,hg6⟩;replace T:=T.gr hg6 hi6;obtain⟨p2,p2'⟩:=jb0 T.pb 2 _ rfl;replace T:=T.set 2 (.int .u32 se))
      | ((with_reducible refine(KNU.out _ T.rd).mono ?_);rintro e6 w6 ⟨rfl,hi6,hg6⟩;replace T:=T.gr hg6 hi6;obtain⟨p3,p3'⟩:=jb0 T.pb 3 _ rfl;replace T:=T.set 3 (.int .u32 nu))
      | ((with_reducible refine(KFO.out _ T.rd).mono ?_);rintro e6 w6 ⟨rfl,hi6,hg6⟩;replace T:=T.gr hg6 hi6))
  | (go_at_call 71;(with_reducible refine(KAT.out _ T.rd).mono ?_);rintro e7 w7 ⟨rfl,hb7⟩;replace T:=T.bel hb7)
  | (go_at_call 102;first
      | ((with_reducible refine(KLA.out _ T.rd).mono ?_);rintro e8 w8 ⟨rfl,hi8,hg8⟩;replace T:=T.gr hg8 hi8;obtain⟨p4,p4'⟩:=jb0 T.pb 4 _ rfl;replace T:=T.set 4 (.string la);have q4:=(jb0 T.pb 4 _ rfl).1)
      | ((with_reducible refine(KBO.out _ T.rd).mono ?_);rintro e8 w8 ⟨rfl,hi8,hg8⟩;replace T:=T.gr hg8 hi8;obtain⟨p5,p5'⟩:=jb0 T.pb 5 _ rfl;replace T:=T.set 5 (.string bo)))
  | (go_at_call 67;(with_reducible refine(KTOT.out _).mono ?_);rintro e9 w9 ⟨rfl,rfl⟩)
  | fail)
 by_cases hxe:x10.e=0
 · have kb:=KBT.out
   rw[show(!decide (x10.e=0))=false by simpa using hxe]at kb;have KB:=Lib.hid kb;have HXE:=Lib.hid hxe;clear kb hxe;clear KBT
   go_upto_region 16 with(first
    | (go_at_call 43;(with_reducible refine(KFT.out _ T.rd).mono ?_);rintro e10 w10 ⟨rfl,hb10⟩;replace T:=T.bel hb10)
    | (go_at_call 16;refine(KB.out _).mono ?_;rintro e11 w11 ⟨rfl,hb11⟩;replace T:=T.bel hb11)
    | fail)
   have q0:=(jb0 T.pb 0 _ rfl).1;have q1:=(jb0 T.pb 1 _ rfl).1;have q2:=(jb0 T.pb 2 _ rfl).1;have q3:=(jb0 T.pb 3 _ rfl).1;have q4:=(jb0 T.pb 4 _ rfl).1;have q5:=(jb0 T.pb 5 _ rfl).1;by_cases hsf:SM=fo
   · have hR:=HR3.out HXE.out hsf
     subst hsf;have HR:=Lib.hid hR;clear hR
     go_wp2_with (first
      | (go_at_call 55;(with_reducible refine(KSUM.out _).mono ?_);rintro e12 w12 ⟨rfl,hb12⟩;replace T:=T.bel hb12;(have q0:=(jb0 T.pb 0 _ rfl).1;have q1:=(jb0 T.pb 1 _ rfl).1;have q2:=(jb0 T.pb 2 _ rfl).1;have q3:=(jb0 T.pb 3 _ rfl).1;have q4:=(jb0 T.pb 4 _ rfl).1;have q5:=(jb0 T.pb 5 _ rfl).1);(obtain⟨z0,z0'⟩:=jb0 T.rz 0 _ rfl;obtain⟨z1,z1'⟩:=jb0 T.rz 1 _ rfl;obtain⟨z2,z2'⟩:=jb0 T.rz 2 _ rfl;obtain⟨z3,z3'⟩:=jb0 T.rz 3 _ rfl;obtain⟨z4,z4'⟩:=jb0 T.rz 4 _ rfl;obtain⟨z5,z5'⟩:=jb0 T.rz 5 _ rfl))
      | fail)
     refine bodyPost_ret (v:=.tuple #[.agg #[.int .u8 f,.int .u64 po,.int .u32 se,.int .u32 nu,.string la,.string bo],.bool true]) (by simp[results,Tryz.results72,go_sem,z0,z1,z2,z3,z4,z5,z0',z1',z2',z3',z4',z5']) rfl ?_;rw[HR.out];exact⟨by show _=Ending.returned (.tuple #[gV PGV,.bool true]);rw[HPV.out],T.rd.gr (jb3 (jb3 (jb3 (jb3 (jb3 (jc0 _ _ _ _) (jc0 _ _ _ _)) (jc0 _ _ _ _)) (jc0 _ _ _ _)) (jc0 _ _ _ _)) (jc0 _ _ _ _)) (by have:=T.hr;simp only[ne_eq,Option.some.injEq];omega),jb9 (jb9 (jb9 (jb9 (jb9 (jb9 T.gg (Nat.le_refl _) _) (Nat.le_refl _) _) (Nat.le_refl _) _) (Nat.le_refl _) _) (Nat.le_refl _) _) (Nat.le_refl _) _⟩
   · have hR:=HR2.out HXE.out hsf
     have hne1:((SM:Int)==(fo:Int))=false:=by simp only[beq_eq_false_iff_ne,ne_eq];omega
     have hne2:¬(SM:Int)=(fo:Int):=by omega
     have HR:=Lib.hid hR;clear hR
     go_wp2_with (first
      | (go_at_call 55;(with_reducible refine(KSUM.out _).mono ?_);rintro e12 w12 ⟨rfl,hb12⟩;replace T:=T.bel hb12)
      | (go_at_call 73;(with_reducible refine(KFAIL.out _ T.rd).mono ?_);rintro e13 w13 ⟨rfl,hi13,hg13⟩;replace T:=T.gr hg13 hi13;(obtain⟨z0,z0'⟩:=jb0 T.rz 0 _ rfl;obtain⟨z1,z1'⟩:=jb0 T.rz 1 _ rfl;obtain⟨z2,z2'⟩:=jb0 T.rz 2 _ rfl;obtain⟨z3,z3'⟩:=jb0 T.rz 3 _ rfl;obtain⟨z4,z4'⟩:=jb0 T.rz 4 _ rfl;obtain⟨z5,z5'⟩:=jb0 T.rz 5 _ rfl))
      | fail)
     refine bodyPost_ret (v:=.tuple #[.agg #[.int .u8 0,.int .u64 0,.int .u32 0,.int .u32 0,.string ⟨#[]⟩,.string ⟨#[]⟩],.bool false]) (by simp[results,Tryz.results72,go_sem,z0,z1,z2,z3,z4,z5,z0',z1',z2',z3',z4',z5']) rfl ?_;rw[HR.out];exact⟨rfl,T.rd.gr (jb3 (jb3 (jb3 (jb3 (jb3 (jc0 _ _ _ _) (jc0 _ _ _ _)) (jc0 _ _ _ _)) (jc0 _ _ _ _)) (jc0 _ _ _ _)) (jc0 _ _ _ _)) (by have:=T.hr;simp only[ne_eq,Option.some.injEq];omega),jb9 (jb9 (jb9 (jb9 (jb9 (jb9 T.gg (Nat.le_refl _) _) (Nat.le_refl _) _) (Nat.le_refl _) _) (Nat.le_refl _) _) (Nat.le_refl _) _) (Nat.le_refl _) _⟩
 · have hR:=HR1.out hxe
   have kb:=KBT.out;rw[show(!decide (x10.e=0))=true by simpa using hxe]at kb;have KB:=Lib.hid kb;have HXE:=Lib.hid hxe;have HR:=Lib.hid hR;clear kb hxe hR;clear KBT
   go_wp2_with (first
    | (go_at_call 43;(with_reducible refine(KFT.out _ T.rd).mono ?_);rintro e10 w10 ⟨rfl,hb10⟩;replace T:=T.bel hb10)
    | (go_at_call 16;refine(KB.out _).mono ?_;rintro e11 w11 ⟨rfl,hb11⟩;replace T:=T.bel hb11;(obtain⟨z0,z0'⟩:=jb0 T.rz 0 _ rfl;obtain⟨z1,z1'⟩:=jb0 T.rz 1 _ rfl;obtain⟨z2,z2'⟩:=jb0 T.rz 2 _ rfl;obtain⟨z3,z3'⟩:=jb0 T.rz 3 _ rfl;obtain⟨z4,z4'⟩:=jb0 T.rz 4 _ rfl;obtain⟨z5,z5'⟩:=jb0 T.rz 5 _ rfl))
    | fail)
   refine bodyPost_ret (v:=.tuple #[.agg #[.int .u8 0,.int .u64 0,.int .u32 0,.int .u32 0,.string ⟨#[]⟩,.string ⟨#[]⟩],.bool false]) (by simp[results,Tryz.results72,go_sem,z0,z1,z2,z3,z4,z5,z0',z1',z2',z3',z4',z5']) rfl ?_;rw[HR.out];exact⟨rfl,T.rd.gr (jb3 (jb3 (jb3 (jb3 (jb3 (jc0 _ _ _ _) (jc0 _ _ _ _)) (jc0 _ _ _ _)) (jc0 _ _ _ _)) (jc0 _ _ _ _)) (jc0 _ _ _ _)) (by have:=T.hr;simp only[ne_eq,Option.some.injEq];omega),jb9 (jb9 (jb9 (jb9 (jb9 (jb9 T.gg (Nat.le_refl _) _) (Nat.le_refl _) _) (Nat.le_refl _) _) (Nat.le_refl _) _) (Nat.le_refl _) _) (Nat.le_refl _) _⟩
theorem vc0(w:World)(r:Nat)(x:RS)(h:InX w r x)(hk:okR x):Calls Tryz.prog 72 #[.pointer (some ⟨r,0,none⟩)] w (GParsePost (gparR crcN x) w r):=by
 by_cases hx:x.e≠0∨leftR x=0
 · exact xf1 w r x h hk hx
 · exact xf2 w r x h hk (Classical.not_not.1 fun c=>hx (Or.inl c)) fun c=>hx (Or.inr c)
theorem jf6:(Tryz.prog.info? 27).map (fun i=>(i.zero,i.size,i.bytes))=some (some (.agg #[.int .u8 0,.int .u64 0,.int .u32 0,.int .u32 0,.string ⟨#[]⟩,.string ⟨#[]⟩]),6,56):=by kernel_rfl
theorem infoIntP:(Tryz.prog.info? 3).map (fun i=>(i.zero,i.size,i.bytes))=some (some (.int .i64 0),1,8):=by kernel_rfl
theorem qh2{w:World}{B C:Nat}{e1 e2:TypeId}{s1 s2:Nat}{v1 v2:Value}{n1 n2:Nat}{c1 c2:List Value}(h1:w.ownsRow B e1 s1 v1 n1 c1)(h2:w.ownsRow C e2 s2 v2 n2 c2)(hne:e1≠e2):∀k,some k=v2.ownBlock→some k≠v1.ownBlock:=by
 intro k hk hk1;rcases h1.2 with⟨rfl,_⟩|⟨g,cap,cur,rfl,_,hh,_⟩
 · simp[Value.ownBlock]at hk1
 · rcases h2.2 with⟨rfl,_⟩|⟨g2,cap2,cur2,rfl,_,hh2,_⟩
   · simp[Value.ownBlock]at hk
   · simp[Value.ownBlock]at hk hk1
     subst hk;subst hk1;rw[hh]at hh2;simp at hh2;exact hne hh2.2
theorem blkP{w w':World}{j:Nat}{o:Obj}(h:w.heap[j]?=some o)(hb:Below w.heap.size w w'):w'.heap[j]?=some o:=(hb.block j (Array.getElem?_eq_some_iff.1 h).1).trans h
theorem blkQ{w w':World}{j r:Nat}{o:Obj}(h:w.heap[j]?=some o)(hg:w.grownBy w' (some r))(hn:j≠r):w'.heap[j]?=some o:=(hg.block j (Array.getElem?_eq_some_iff.1 h).1 (by simpa using hn)).trans h
theorem kg0(w:World)(B o:Nat)(v:Value)(j:Nat)(hj:j≠B):(w.setCell ⟨B,o,none⟩ v).heap[j]?=w.heap[j]?:=Below.heap_setCell _ _ _ j (by simpa using hj)
def g1cells(p:PG):List Value:=[.int .u8 p.fl.toNat,.int .u64 p.po,.int .u32 p.se,.int .u32 p.nu,.string p.la,.string p.bo]
def gcells(l:List PG):List Value:=l.flatMap g1cells
theorem jg8(l:List PG)(p:PG):gcells (l ++ [p])=gcells l++(#[.int .u8 p.fl.toNat,.int .u64 p.po,.int .u32 p.se,.int .u32 p.nu,.string p.la,.string p.bo]:Array Value).toList:=by simp[gcells,g1cells]
def plV(l:List Nat):List Int:=l.map fun(n:Nat)=>(n:Int)
theorem plV_snoc(l:List Nat)(n:Nat):ncells (plV (l ++ [n]))=ncells (plV l)++(#[.int .i64 (n:Int)]:Array Value).toList:=by simp[ncells,plV]
theorem gvL{w:World}{b:Nat}{a0 a1 a2 a3 a4 a5:Value}{t:TypeId}(h:w.heap[b]?=some (.cells #[a0,a1,a2,a3,a4,a5] t (0,0))):w.cell? ⟨b,0,none⟩=some a0∧w.cell? ⟨b,1,none⟩=some a1∧w.cell? ⟨b,2,none⟩=some a2∧w.cell? ⟨b,3,none⟩=some a3∧w.cell? ⟨b,4,none⟩=some a4∧w.cell? ⟨b,5,none⟩=some a5:=
 ⟨(jb0 h 0 _ rfl).1,(jb0 h 1 _ rfl).1,(jb0 h 2 _ rfl).1,(jb0 h 3 _ rfl).1,(jb0 h 4 _ rfl).1,(jb0 h 5 _ rfl).1⟩
structure GS (w:World) (r:Nat) (x:RS) (v1 v2:Value) (l:List PG) (pl:List Nat) (wr:World):Prop where
 gg:Below w.heap.size w wr
 ft:wr.heap[w.heap.size]?=some (.cells #[.int .i64 0,.int .i64 0] 54 (0,0))
 rd:InX wr r x
 hr:w.heap.size<r
 r1:wr.ownsRow (r+1) 27 6 v1 l.length (gcells l)
 r2:wr.ownsRow (r+1) 3 1 v2 l.length (ncells (plV pl))
section
variable {w wr:World} {r:Nat} {x:RS} {v1 v2:Value} {l:List PG} {pl:List Nat}
theorem GS.bel(h:GS w r x v1 v2 l pl wr){w':World}(hb:Below wr.heap.size wr w'):GS w r x v1 v2 l pl w':=by
 obtain⟨a,b,c,d,e,f⟩:=h;exact⟨bt a hb,blkP b hb,c.bel hb,d,jb2 e hb,jb2 f hb⟩
theorem GS.gr(h:GS w r x v1 v2 l pl wr){w':World}{y:RS}(hg:wr.grownBy w' (some r))(hi:InX w' r y):GS w r y v1 v2 l pl w':=by
 obtain⟨a,b,c,d,e,f⟩:=h;exact⟨jd5 a hg (by omega),blkQ b hg (by omega),hi,d,jb5 e fun q hq=>hg.block q (jb7 e q hq).2 (by have:=(jb7 e q hq).1;simp;omega),jb5 f fun q hq=>hg.block q (jb7 f q hq).2 (by have:=(jb7 f q hq).1;simp;omega)⟩
theorem GS.lt(h:GS w r x v1 v2 l pl wr):r+1≤wr.heap.size:=h.rd.lt
theorem GS.push1(h:GS w r x v1 v2 l pl wr){w':World}{v':Value}{p:PG}(ho:w'.ownsRow (r+1) 27 6 v' (l.length+1) (gcells l++(#[.int .u8 p.fl.toNat,.int .u64 p.po,.int .u32 p.se,.int .u32 p.nu,.string p.la,.string p.bo]:Array Value).toList))(hb:Below (r+1) wr w')(hk:∀k,k<wr.heap.size→some k≠v1.ownBlock→w'.heap[k]?=wr.heap[k]?):
 Below w.heap.size w w'∧w'.heap[w.heap.size]?=some (.cells #[.int .i64 0,.int .i64 0] 54 (0,0))∧InX w' r x∧w'.ownsRow (r+1) 27 6 v' (l.length+1) (gcells (l ++ [p]))∧w'.ownsRow (r+1) 3 1 v2 l.length (ncells (plV pl)):=by
 obtain⟨a,b,c,d,e,f⟩:=h;refine⟨a.trans (hb.mono (by omega)),(hb.block _ (by omega)).trans b,InC.blk c (hb.block _ (by omega)),by rw[jg8];exact ho,?_⟩;exact jb5 f fun q hq=>hk q (jb7 f q hq).2 (qh2 e f (by decide) q hq.symm)
end
def PagesPost(R:(List PG×List Nat)×Int×Int)(w:World)(e:Ending)(w':World):Prop:=
 Below w.heap.size w w'∧∃v1 v2,e=.returned (.tuple #[v1,v2,.agg #[.int .i64 R.2.1,.int .i64 R.2.2]])∧w'.ownsRow w.heap.size 27 6 v1 R.1.1.length (gcells R.1.1)∧w'.ownsRow w.heap.size 3 1 v2 R.1.1.length (ncells (plV R.1.2))
def measP(s:ByteArray)(r:Nat)(wr:World):Nat:=match wr.cell? ⟨r,1,none⟩with
 | some (.int _ n)=>s.size+1-n.toNat
 | _=>0
theorem qz9{s:ByteArray}{r:Nat}{wr:World}{x:RS}(h:InX wr r x):measP s r wr=s.size+1-x.n:=by
 have:=(InC.cells h).2.1.1;unfold measP;rw[this];simp
theorem qh1{R:(List PG×List Nat)×Int×Int}{D:(List PG×List Nat)×RS}(hR:R=if D.2.e≠0 then(([],[]),D.2.e,D.2.a)else(D.1,0,0))(h:D.2.e≠0):R=(([],[]),D.2.e,D.2.a):=by rw[hR,if_pos h]
theorem pages_ok{R:(List PG×List Nat)×Int×Int}{D:(List PG×List Nat)×RS}(hR:R=if D.2.e≠0 then(([],[]),D.2.e,D.2.a)else(D.1,0,0))(h:D.2.e=0):R=(D.1,0,0):=by rw[hR,if_neg (fun c=>c h)]
set_option maxRecDepth 100000 in
theorem jf9(s:ByteArray)(w:World)(hs:s.size≤1073741824):Calls Tryz.prog 36 #[.string s] w (PagesPost (pagesM crcN s) w):=by
 have kr:=fun w=>jn2 s w
 obtain⟨R,hR⟩:∃R,R=pagesM crcN s:=⟨_,rfl⟩;rw[←hR];unfold pagesM at hR;obtain⟨D,hD⟩:∃D,D=pagesF crcN (s.size+1) ⟨s,0,0,0,0⟩ [] []:=⟨_,rfl⟩;rw[←hD]at hR;obtain⟨W,hW⟩:∃W,W=w.alloc (.cells #[.int .i64 0,.int .i64 0] 54):=⟨_,rfl⟩;have F:W.heap[w.heap.size]?=some (.cells #[.int .i64 0,.int .i64 0] 54 (0,0)):=by rw[hW];exact heap_alloc_new _ _
 have hbW:Below w.heap.size w W:=by rw[hW];exact bal (Below.refl _ _) _
 have hWs:W.heap.size=w.heap.size+1:=by rw[hW,World.size_alloc]
 have KR:=Lib.hid kr;have HR:=Lib.hid hR;have F0:=Lib.hid F;have HBW:=Lib.hid hbW;have HWS:=Lib.hid hWs;have HD:=Lib.hid hD;clear kr hR F hbW hWs hD
 go_enter Tryz.func36,Tryz.ntmps36
 go_wp2_with fail
 rw[←hW];clear hW
 go_wp2_with (go_at_call 40;(with_reducible refine(KR.out _).mono ?_);rintro e1 w1 ⟨r,rfl,hr,hi1,hb1⟩)
 have G0:GS w r ⟨s,0,0,0,0⟩ (.slice none 0 0) (.slice none 0 0) [] [] w1:=⟨bt HBW.out hb1,blkP F0.out hb1,hi1,by have:=HWS.out;omega,World.ownsRow_nil _ _ _ _,World.ownsRow_nil _ _ _ _⟩;have HG0:=Lib.hid G0;clear G0 hi1 hb1 hr
 go_loopw [5,6] (fun lv pv wr=>∃(f:Nat) (x:RS) (l:List PG) (pl:List Nat),Hid (GS w r x lv pv l pl wr)∧Hid (okR x∧x.b=0∧x.s=s)∧Hid (pagesF crcN f x l pl=D)∧s.size+1≤f+x.n∧l.length≤1048576) (fun _ _ wr=>measP s r wr)
 case atStart=>exact⟨s.size+1,⟨s,0,0,0,0⟩,[],[],HG0,Lib.hid ⟨⟨Nat.zero_le _,hs,Nat.zero_le _⟩,rfl,rfl⟩,Lib.hid HD.out.symm,Nat.le_refl _,Nat.zero_le _⟩
 case round=>
  obtain⟨f,x,l,pl,HG,HO,HP,hf,hl⟩:=hrel;have hxn:x.n≤s.size:=by have:=HO.out.1.1;rw[HO.out.2.2]at this;exact this
  obtain⟨f,rfl⟩:∃g,f=g+1:=⟨f-1,by omega⟩;have hP:=HP.out;rw[pagesF]at hP;have kat:=fun w h=>kn0 w r x h HO.out.1
  have kp:=fun w h=>vc0 w r x h HO.out.1
  have hgood:=fun y p h=>qk8 crcN x y p HO.out.1.1 h
  have hm0:=qz9 (s:=s) HG.out.rd;have HM0:=Lib.hid hm0;obtain⟨Z,hZ⟩:∃Z,Z=gparR crcN x:=⟨_,rfl⟩;rw[←hZ]at kp hP;rw[←hZ]at hgood;clear hZ hm0 HP HD HG0;obtain⟨y,o⟩:=Z;unfold GParsePost at kp;have kf:=fun w h=>jc5 w r y h
  have kb:=fun w=>jb8 y.e y.a w
  cases o with
  | none=>
   simp only[Option.getD,Option.isSome]at kp hP;rw[gV0]at kp;have HP2:Hid (D=((l,pl),y)):=Lib.hid hP.symm;clear hP hgood;by_cases he:y.e=0
   · rw[show(!decide (y.e=0))=false by simpa using he]at kb
     have hRR:=pages_ok HR.out (by rw[HP2.out];exact he);rw[HP2.out]at hRR;have KAT:=Lib.hid kat;have KP:=Lib.hid kp;have KF:=Lib.hid kf;have KB:=Lib.hid kb;have HRR:=Lib.hid hRR;have HE:=Lib.hid he;clear kat kp kf kb hRR he;clear HR HP2
     go_wp2_with (first
      | (go_at_call 71;(with_reducible refine(KAT.out _ HG.out.rd).mono ?_);rintro e2 w2 ⟨rfl,hb2⟩;have G2:=HG.out.bel hb2)
      | (go_at_call 72;(with_reducible refine(KP.out _ G2.rd).mono ?_);rintro e3 w3 ⟨rfl,hi3,hg3⟩;have G3:=(G2.gr hg3 hi3).bel (bal (Below.refl _ _) (.cells #[.int .u8 0,.int .u64 0,.int .u32 0,.int .u32 0,.string ⟨#[]⟩,.string ⟨#[]⟩] 27)))
      | (go_at_call 43;(with_reducible refine(KF.out _ G3.rd).mono ?_);rintro e4 w4 ⟨rfl,hb4⟩;have G4:=(G3.bel hb4).bel (bal (Below.refl _ _) (.cells #[.int .i64 y.e,.int .i64 y.a] 54)))
      | (go_at_call 16;refine(KB.out _).mono ?_;rintro e5 w5 ⟨rfl,hb5⟩;have G5:=G4.bel hb5;obtain⟨q0,q0'⟩:=jb0 G5.ft 0 _ rfl;obtain⟨q1,q1'⟩:=jb0 G5.ft 1 _ rfl)
      | fail)
     refine bodyPost_ret (v:=.tuple #[u5,u6,.agg #[.int .i64 0,.int .i64 0]]) (by simp[results,Tryz.results36,go_sem,q0,q1,q0',q1']) rfl ?_;rw[HRR.out];have hrr:=G5.hr;refine⟨(G5.gg.setCell (by simp) _).setCell (by simp) _,_,_,rfl,?_,?_⟩
     · exact jc3 (jb5 G5.r1 fun k hk=>(kg0 _ _ _ _ k (by have:=(jb7 G5.r1 k hk).1;omega)).trans (kg0 _ _ _ _ k (by have:=(jb7 G5.r1 k hk).1;omega))) (by omega)
     · exact jc3 (jb5 G5.r2 fun k hk=>(kg0 _ _ _ _ k (by have:=(jb7 G5.r2 k hk).1;omega)).trans (kg0 _ _ _ _ k (by have:=(jb7 G5.r2 k hk).1;omega))) (by omega)
   · rw[show(!decide (y.e=0))=true by simpa using he]at kb
     have hRR:=qh1 HR.out (by rw[HP2.out];exact he);rw[HP2.out]at hRR;have KAT:=Lib.hid kat;have KP:=Lib.hid kp;have KF:=Lib.hid kf;have KB:=Lib.hid kb;have HRR:=Lib.hid hRR;have HE:=Lib.hid he;clear kat kp kf kb hRR he;clear HR HP2
     go_wp2_with (first
      | (go_at_call 71;(with_reducible refine(KAT.out _ HG.out.rd).mono ?_);rintro e2 w2 ⟨rfl,hb2⟩;have G2:=HG.out.bel hb2)
      | (go_at_call 72;(with_reducible refine(KP.out _ G2.rd).mono ?_);rintro e3 w3 ⟨rfl,hi3,hg3⟩;have G3:=(G2.gr hg3 hi3).bel (bal (Below.refl _ _) (.cells #[.int .u8 0,.int .u64 0,.int .u32 0,.int .u32 0,.string ⟨#[]⟩,.string ⟨#[]⟩] 27)))
      | (go_at_call 43;(with_reducible refine(KF.out _ G3.rd).mono ?_);rintro e4 w4 ⟨rfl,hb4⟩;have G4:=(G3.bel hb4).bel (bal (Below.refl _ _) (.cells #[.int .i64 y.e,.int .i64 y.a] 54)))
      | (go_at_call 16;refine(KB.out _).mono ?_;rintro e5 w5 ⟨rfl,hb5⟩;have G5:=G4.bel hb5;obtain⟨q0,q0'⟩:=jb0 G5.ft 0 _ rfl;obtain⟨q1,q1'⟩:=jb0 G5.ft 1 _ rfl;obtain⟨f0,_⟩:=(Live.fresh w4 #[.int .i64 y.e,.int .i64 y.a] 54 0 _ rfl).keep hb5;obtain⟨f1,_⟩:=(Live.fresh w4 #[.int .i64 y.e,.int .i64 y.a] 54 1 _ rfl).keep hb5)
      | fail)
     go_region
     all_goals
      go_wp2_with fail
      refine bodyPost_ret (v:=.tuple #[.slice none 0 0,.slice none 0 0,.agg #[.int .i64 y.e,.int .i64 y.a]]) (by simp[results,Tryz.results36,go_sem,q0,q1,q0',q1']) rfl ?_;rw[HRR.out];exact⟨((bdn G5.gg _).setCell (by simp) _).setCell (by simp) _,_,_,rfl,World.ownsRow_nil _ _ _ _,World.ownsRow_nil _ _ _ _⟩
  | some p=>
   simp only[Option.getD,Option.isSome]at kp hP;obtain⟨hg1,hg2,hg3,hg4⟩:=hgood y p rfl;unfold gV at kp;clear hgood;by_cases hbig:l.length=1048576
   · rw[if_pos hbig]at hP
     have hfe:(failR y 4 ((x.b:Int)+x.n)).e=4∧(failR y 4 ((x.b:Int)+x.n)).a=(x.b:Int)+x.n:=by unfold failR;rw[if_pos ⟨hg4,by decide⟩];exact⟨rfl,rfl⟩
     have hRR:=qh1 HR.out (by rw[←hP];show(failR y 4 ((x.b:Int)+x.n)).e≠0;rw[hfe.1];decide);rw[←hP]at hRR;simp only at hRR;have kf:=fun w h=>jc5 w r (failR y 4 ((x.b:Int)+x.n)) h
     have kfl:=fun w h=>jj1 w r y 4 ((x.b:Int)+x.n) h
     have kb:=fun w=>jb8 (failR y 4 ((x.b:Int)+x.n)).e (failR y 4 ((x.b:Int)+x.n)).a w
     rw[show(!decide ((failR y 4 ((x.b:Int)+x.n)).e=0))=true by rw[hfe.1];decide]at kb;generalize failR y 4 ((x.b:Int)+x.n)=Y at *;have hlI:(l.length:Int)=1048576:=by omega
     have KAT:=Lib.hid kat;have KP:=Lib.hid kp;have KF:=Lib.hid kf;have KB:=Lib.hid kb;have KFL:=Lib.hid kfl;have HRR:=Lib.hid hRR;have HFE:=Lib.hid hfe;have HG2:=Lib.hid hg2;clear kat kp kf kb kfl hRR hfe hg2;clear HR hP hg1 hg3 hg4 hbig
     go_wp2_with (first
      | (go_at_call 71;(with_reducible refine(KAT.out _ HG.out.rd).mono ?_);rintro e2 w2 ⟨rfl,hb2⟩;have G2:=HG.out.bel hb2)
      | (go_at_call 72;(with_reducible refine(KP.out _ G2.rd).mono ?_);rintro e3 w3 ⟨rfl,hi3,hg3⟩;have G3:=(G2.gr hg3 hi3).bel (bal (Below.refl _ _) (.cells #[.int .u8 p.fl.toNat,.int .u64 p.po,.int .u32 p.se,.int .u32 p.nu,.string p.la,.string p.bo] 27));obtain⟨a1,c1,rfl⟩:=jb4 G3.r1)
      | (go_at_call 73;(with_reducible refine(KFL.out _ G3.rd).mono ?_);rintro e6 w6 ⟨rfl,hi6,hg6⟩;have G6:=G3.gr hg6 hi6)
      | (go_at_call 43;(with_reducible refine(KF.out _ G6.rd).mono ?_);rintro e4 w4 ⟨rfl,hb4⟩;have G4:=(G6.bel hb4).bel (bal (Below.refl _ _) (.cells #[.int .i64 Y.e,.int .i64 Y.a] 54)))
      | (go_at_call 16;refine(KB.out _).mono ?_;rintro e5 w5 ⟨rfl,hb5⟩;have G5:=G4.bel hb5;obtain⟨q0,q0'⟩:=jb0 G5.ft 0 _ rfl;obtain⟨q1,q1'⟩:=jb0 G5.ft 1 _ rfl;obtain⟨f0,_⟩:=(Live.fresh w4 #[.int .i64 Y.e,.int .i64 Y.a] 54 0 _ rfl).keep hb5;obtain⟨f1,_⟩:=(Live.fresh w4 #[.int .i64 Y.e,.int .i64 Y.a] 54 1 _ rfl).keep hb5)
      | fail)
     go_region
     all_goals
      go_wp2_with fail
      refine bodyPost_ret (v:=.tuple #[.slice none 0 0,.slice none 0 0,.agg #[.int .i64 Y.e,.int .i64 Y.a]]) (by simp[results,Tryz.results36,go_sem,q0,q1,q0',q1']) rfl ?_;rw[HRR.out];exact⟨((bdn G5.gg _).setCell (by simp) _).setCell (by simp) _,_,_,rfl,World.ownsRow_nil _ _ _ _,World.ownsRow_nil _ _ _ _⟩
   · rw[if_neg hbig]at hP
     have hlI:¬(l.length:Int)=1048576:=by omega
     have hlI2:((l.length:Int)==1048576)=false:=by rw[beq_eq_false_iff_ne];exact hlI
     have hoy:okR y∧y.b=0∧y.s=s:=by
      obtain⟨⟨h1,h2,h3⟩,h4,h5⟩:=HO.out;rw[hg2];refine⟨⟨?_,h2,h3⟩,h4,h5⟩;rw[hg2]at hg3;exact hg3
     have hyn:y.n=x.n+(27+p.la.size+p.bo.size):=by rw[hg2];rfl
     have hwat:(x.b:Int)+x.n=((x.b+x.n:Nat):Int):=by omega
     have hl':l.length<70368744177664:=by omega
     have hby6:(l.length+1)*56≤140737488355328:=by omega
     have hby1:(l.length+1)*8≤140737488355328:=by omega
     rw[hwat]at kat;generalize x.b+x.n=AT at *;have KAT:=Lib.hid kat;have KP:=Lib.hid kp;have KF:=Lib.hid kf;have KB:=Lib.hid kb;have HG2:=Lib.hid hg2;have HOY:=Lib.hid hoy;have HYN:=Lib.hid hyn;have HP3:=Lib.hid hP;clear kat kp kf kb hg2 hoy hyn hP;clear hg1 hg3 hg4 hwat
     go_wp2_with (first
      | (go_at_call 71;(with_reducible refine(KAT.out _ HG.out.rd).mono ?_);rintro e2 w2 ⟨rfl,hb2⟩;have G2:=HG.out.bel hb2)
      | (go_at_call 72;(with_reducible refine(KP.out _ G2.rd).mono ?_);rintro e3 w3 ⟨rfl,hi3,hg3⟩;have G3:=(G2.gr hg3 hi3).bel (bal (Below.refl _ _) (.cells #[.int .u8 p.fl.toNat,.int .u64 p.po,.int .u32 p.se,.int .u32 p.nu,.string p.la,.string p.bo] 27));obtain⟨a1,c1,rfl⟩:=jb4 G3.r1;obtain⟨p0,p1,p2,p3,p4,p5⟩:=gvL (heap_alloc_new w3 (.cells #[.int .u8 p.fl.toNat,.int .u64 p.po,.int .u32 p.se,.int .u32 p.nu,.string p.la,.string p.bo] 27)))
      | (at_builtin;first
          | ((refine jc4 rfl _ _ 34 27 rfl Tryz.underlying34 (.agg #[.int .u8 0,.int .u64 0,.int .u32 0,.int .u32 0,.string ⟨#[]⟩,.string ⟨#[]⟩]) 6 56 jf6 rfl (by decide) (w3.alloc (.cells #[.int .u8 p.fl.toNat,.int .u64 p.po,.int .u32 p.se,.int .u32 p.nu,.string p.la,.string p.bo] 27)) (r+1) (.slice a1 l.length c1) l.length (gcells l) rfl G3.r1 #[.int .u8 p.fl.toNat,.int .u64 p.po,.int .u32 p.se,.int .u32 p.nu,.string p.la,.string p.bo] rfl (by simp[Value.oneCell']) (by show Value.slice (some ⟨w3.heap.size+1,0,none⟩) 1 1=_;rw[World.size_alloc]) hl' hby6 G3.lt ?_);intro v' w6 hown6 hb6 hk6;obtain⟨gg6,ft6,rd6,r16,r26⟩:=G3.push1 hown6 hb6 hk6;have hrl6:r+1≤w6.heap.size:=rd6.lt)
          | (refine jc4 rfl _ _ 86 3 rfl Tryz.underlying86 (.int .i64 0) 1 8 infoIntP rfl (by decide) w6 (r+1) u6 l.length (ncells (plV pl)) rfl r26 #[.int .i64 (AT:Int)] rfl (by simp[Value.oneCell']) rfl hl' hby1 hrl6 ?_;intro v2' w7 hown7 hb7 hk7))
      | fail)
     have G7:GS w r y v' v2' (l ++ [p]) (pl ++ [AT]) w7:=⟨gg6.trans (hb7.mono (by have:=HG.out.hr;omega)),(hb7.block _ (by have:=HG.out.hr;omega)).trans ft6,InC.blk rd6 (hb7.block _ (by omega)),HG.out.hr,by rw[List.length_append,List.length_cons,List.length_nil];exact jb5 r16 fun q hq=>hk7 q (jb7 r16 q hq).2 (qh2 r26 r16 (by decide) q hq.symm),by rw[plV_snoc,List.length_append,List.length_cons,List.length_nil];exact hown7⟩;have hm1:=qz9 (s:=s) G7.rd
     go_roundw
     case rel=>exact⟨f,y,l ++ [p],pl ++ [AT],Lib.hid G7,HOY,HP3,by have:=HYN.out;omega,by rw[List.length_append,List.length_cons,List.length_nil];omega⟩
     case measure=>rw[hm1,HM0.out];have:=HYN.out;omega
set_option maxRecDepth 100000 in
theorem xj3(c:UInt8):(bits BinOp.and IntKind.u8 (c.toNat:Int) 1==1)=(c.toNat%2==1):=by
 have h:∀n:Fin 256,(bits BinOp.and IntKind.u8 ((n.val:Nat):Int) 1==1)=(n.val%2==1):=by decide
 exact h ⟨c.toNat,c.toNat_lt⟩
set_option maxRecDepth 100000 in
theorem xj2(c:UInt8):(bits BinOp.and IntKind.u8 (c.toNat:Int) 2==2)=(c.toNat/2%2==1):=by
 have h:∀n:Fin 256,(bits BinOp.and IntKind.u8 ((n.val:Nat):Int) 2==2)=(n.val/2%2==1):=by decide
 exact h ⟨c.toNat,c.toNat_lt⟩
def hV(p:PG):Value:=.agg #[.int .u8 p.fl.toNat,.int .u64 p.po,.int .u32 p.se,.int .u32 p.nu]
theorem jx9(p:PG)(w:World):Calls Tryz.prog 32 #[hV p,.int .u8 1] w fun e w'=>e=.returned (.bool (contG p))∧Below w.heap.size w w':=by
 unfold contG hV;rw[←xj3]
 go_enter Tryz.func32,Tryz.ntmps32
 go_wp2_with fail
 go_ret
 exact⟨rfl,bal (Below.refl _ _) _⟩
theorem kc4(p:PG)(w:World):Calls Tryz.prog 32 #[hV p,.int .u8 2] w fun e w'=>e=.returned (.bool (firstG p))∧Below w.heap.size w w':=by
 unfold firstG hV;rw[←xj2]
 go_enter Tryz.func32,Tryz.ntmps32
 go_wp2_with fail
 go_ret
 exact⟨rfl,bal (Below.refl _ _) _⟩
theorem xf3(s:ByteArray)(w:World)(hs:s.size≤1073741824):Calls Tryz.prog 61 #[.string s] w fun e w'=>e=.returned (.bool (!(bl s).all (· == 255)))∧w=w':=by
 have HL:Hid ((bl s).length=s.size):=jb1 s;obtain⟨R,hR⟩:∃R,R = !(bl s).all (· == 255):=⟨_,rfl⟩;rw[←hR];have HR:=Lib.hid hR;clear hR
 go_enter Tryz.func61,Tryz.ntmps61
 go_wp2_with fail
 go_loop [6] (fun iv=>∃k:Nat,iv=.int .i64 (k:Int)∧k≤s.size∧Hid ((!((bl s).drop k).all (· == 255))=R)) (fun iv=>s.size-(intOf iv).toNat)
 case atStart=>exact⟨0,rfl,Nat.zero_le _,Lib.hid (by rw[List.drop_zero];exact HR.out.symm)⟩
 case round=>
  obtain⟨k,rfl,hk,HK⟩:=hrel;by_cases hlt:k<s.size
  · obtain⟨b,hb⟩:=jb6 (bl s) k (by rw[HL.out];exact hlt)
    have X:∀h,s[k]'h=b:=jc7 s k b hb;have hK:=HK.out;obtain⟨hc1,hc2⟩:=List.getElem?_eq_some_iff.1 hb;rw[List.drop_eq_getElem_cons hc1,hc2,List.all_cons]at hK;have HK2:=Lib.hid hK;have j0:(0:Int)≤(k:Int):=by omega
    have j1:(k:Int)<(s.size:Int):=by omega
    clear hb hc1 hc2 hK HK;by_cases h255:b=255
    · subst h255
      have HK3:Hid ((!((bl s).drop (k+1)).all (· == 255))=R):=Lib.hid (by rw[←HK2.out];simp)
      go_wp2_with fail
      go_round
      case rel=>exact⟨k+1,by go_num,by omega,HK3⟩
      case measure=>simp[intOf];omega
    · have HK3:Hid (true=R):=Lib.hid (by rw[←HK2.out];simp[h255])
      have hne:¬(b.toNat:Int)=255:=fun h=>h255 (UInt8.toNat_inj.1 (by show b.toNat=255;omega))
      clear HK2 h255
      go_wp2_with fail
      go_ret
      exact⟨by rw[←HK3.out];rfl,rfl⟩
  · have hx:false=R:=by rw[←HK.out,List.drop_of_length_le (by rw[HL.out];omega)];rfl
    have HX:=Lib.hid hx;have m1:¬(k:Int)<(s.size:Int):=by omega
    clear hx
    go_wp2_with fail
    go_ret
    exact⟨by rw[←HX.out];rfl,rfl⟩
theorem qm0(p:PG)(w:World)(hl:p.la.size≤1073741824):Calls Tryz.prog 62 #[gV p] w fun e w'=>e=.returned (.bool (openL false (bl p.la)))∧Below w.heap.size w w':=by
 have hL:=jb1 p.la;unfold gV;generalize p.la=s at *;unfold openL;cases hg:(bl s).getLast? with
 | none=>
  rw[List.getLast?_eq_none_iff]at hg;have h0:s.size=0:=by rw[←hL,hg];rfl
  simp only;clear hg hL
  go_enter Tryz.func62,Tryz.ntmps62
  go_wp2_with fail
  go_ret
  exact⟨rfl,bal (Below.refl _ _) _⟩
 | some c=>
  simp only;rw[List.getLast?_eq_getElem?]at hg;obtain⟨hc1,hc2⟩:=List.getElem?_eq_some_iff.1 hg;obtain⟨n,hn⟩:∃n,s.size=n+1:=⟨s.size-1,by omega⟩;have X:∀h,s[n]'h=c:=jc7 s n c (by rw[hL,hn]at hg;exact hg);have m1:¬((n:Int)+1<0):=by omega
  have m2:(0:Int)<(n:Int)+1:=by omega
  have m3:(n:Int)<(s.size:Int):=by omega
  have hw:IntKind.i64.wrap ((n:Int)+1-1)=(n:Int):=by rw[wi64 _ (by omega) (by omega)];omega
  have hsn:(s.size:Int)=(n:Int)+1:=by omega
  have hcc:((c.toNat:Int)==255)=(c==255):=by
   rw[Bool.eq_iff_iff];simp only[beq_iff_eq];exact⟨fun h=>UInt8.toNat_inj.1 (by show c.toNat=255;omega),fun h=>by rw[h];rfl⟩
  rw[←hcc];clear hg hc1 hc2 hL hcc
  go_enter Tryz.func62,Tryz.ntmps62
  go_wp2_with fail
  go_ret
  exact⟨rfl,bal (Below.refl _ _) _⟩
end Go.Proofs.YtagjkmkmphamoaaGreatDoor
