/- B8 -/
import Derived.Test.YtagjkmkmphamoaaGreatDoorPQs
set_option linter.all false
set_option maxHeartbeats 16000000
namespace Go.Proofs.YtagjkmkmphamoaaGreatDoor
open Go.RowKit
def OPrintPost(t:ByteArray)(f:Int×Int)(w:World)(e:Ending)(w':World):Prop:=e=.returned (.tuple #[.string t,.agg #[.int .i64 f.1,.int .i64 f.2]])∧Below w.heap.size w w'
def partsG(l:List PG):List ByteArray:=l.map fun p=>toB (gprintL crcN p)
theorem km1(l:List PG):((partsG l).map bl).flatten=l.flatMap (gprintL crcN):=by
 unfold partsG;rw[List.map_map,List.flatMap_def]
 congr 1<;>(apply List.map_congr_left;intro a _;exact jf5 _)
theorem xf6{p:PG}(h:gG p):p.bo.size≤65025:=by
 obtain⟨h1,h2,_⟩:=h;have h3:=jf1 (bl p.la);rw[jb1]at h3;omega
theorem jp0:∀l:List PG,(∀p∈l,gG p)→(l.flatMap (gprintL crcN)).length≤l.length*65307
 | [],_=>Nat.zero_le _
 | p::r,h=>by
  have h1:=jp0 r (fun q hq=>h q (by simp[hq]));have h2:=xf6 (h p (by simp));have h3:=(h p (by simp)).1;rw[List.flatMap_cons,List.length_append,jg7,List.length_cons,Nat.add_mul];omega
set_option maxRecDepth 100000 in
theorem vg8(vn vs:Value)(s:OS)(w:World)(hT:TW w)(hrow:OsRow w vn vs s)(hok:smOS s)(hb:(ocheckM s).1≠0):
 Calls Tryz.prog 8 #[.agg #[.int .u8 s.first.fl.toNat,.int .u64 s.first.po,.int .u32 s.first.se,.int .u32 s.first.nu,.string s.first.la,.string s.first.bo,.string s.b.vt,.int .i64 s.b.vs,vn,.string s.setup,vs]] w (OPrintPost ⟨#[]⟩ (ocheckM s) w):=by
 obtain⟨W,hW,C⟩:=jj3 w (osC vn vs s);have kpg:∀w',Below w.heap.size w w'→Calls Tryz.prog 9 #[osV vn vs s] w' (OPagesPost [] (ocheckM s) w'):=fun w' hb'=>kt8 vn vs s w' (hT.bel hb') (hrow.keep hb') hok hb
 unfold osV OPagesPost at kpg;have kb:=fun w=>jb8 (ocheckM s).1 (ocheckM s).2 w
 rw[show(!decide ((ocheckM s).1=0))=true by simpa using hb]at kb;generalize ocheckM s=CC at *;obtain⟨cc,ca⟩:=CC;simp only[List.length_nil]at kpg kb ⊢;clear hrow hok hb hT;have KPG:=Lib.hid kpg;have KB:=Lib.hid kb;clear kpg kb;obtain⟨x0,x1,x2,x3,x4,x5,x6,x7,x8,x9,x10⟩:_∧_∧_∧_∧_∧_∧_∧_∧_∧_∧_:=⟨C.cell 0 _ rfl,C.cell 1 _ rfl,C.cell 2 _ rfl,C.cell 3 _ rfl,C.cell 4 _ rfl,C.cell 5 _ rfl,C.cell 6 _ rfl,C.cell 7 _ rfl,C.cell 8 _ rfl,C.cell 9 _ rfl,C.cell 10 _ rfl⟩;obtain⟨q0,q0',q1,q1'⟩:=C.ret
 go_enter Tryz.func8,Tryz.ntmps8
 go_wp2_with fail
 rw[←hW];clear hW
 go_wp2_with (first
  | (go_at_call 9;(with_reducible refine(KPG.out _ C.gg).mono ?_);rintro e1 w1 ⟨hb1,v1,rfl,ho1⟩;obtain⟨a1,c1,rfl⟩:=jb4 ho1;replace C:=(C.bel hb1).bel (bal (Below.refl _ _) (.cells #[.int .i64 cc,.int .i64 ca] 54));replace ho1:=jb2 ho1 (bal (Below.refl w1.heap.size w1) (.cells #[.int .i64 cc,.int .i64 ca] 54));obtain⟨j0,j0'⟩:=Live.fresh w1 #[.int .i64 cc,.int .i64 ca] 54 0 _ rfl;obtain⟨j1,j1'⟩:=Live.fresh w1 #[.int .i64 cc,.int .i64 ca] 54 1 _ rfl;clear q0 q0' q1 q1' x0 x1 x2 x3 x4 x5 x6 x7 x8 x9 x10 hb1)
  | (go_at_call 16;(with_reducible refine(KB.out _).mono ?_);rintro e2 w2 ⟨rfl,hb2⟩;replace C:=C.bel hb2;replace j0:=kc hb2 j0;replace j1:=kc hb2 j1;clear j0' j1';clear hb2;obtain⟨x0,x1,x2,x3,x4,x5,x6,x7,x8,x9,x10⟩:_∧_∧_∧_∧_∧_∧_∧_∧_∧_∧_:=⟨C.cell 0 _ rfl,C.cell 1 _ rfl,C.cell 2 _ rfl,C.cell 3 _ rfl,C.cell 4 _ rfl,C.cell 5 _ rfl,C.cell 6 _ rfl,C.cell 7 _ rfl,C.cell 8 _ rfl,C.cell 9 _ rfl,C.cell 10 _ rfl⟩;obtain⟨q0,q0',q1,q1'⟩:=C.ret)
  | fail)
 go_region
 all_goals
  go_wp2_with fail
  refine bodyPost_ret (v:=.tuple #[.string ⟨#[]⟩,.agg #[.int .i64 cc,.int .i64 ca]]) (by simp[results,Tryz.results8,go_sem,q0,q0',q1,q1']) rfl ?_;refine⟨rfl,?_⟩
  first
   | exact(C.gg.setCell (by simp) _).setCell (by simp) _
   | exact(((C.gg.setCell (by simp) _).setCell (by simp) _)).drew
   | exact(C.gg.drew.setCell (by simp) _).setCell (by simp) _
set_option maxRecDepth 100000 in
theorem km2(vn vs:Value)(s:OS)(w:World)(hT:TW w)(hrow:OsRow w vn vs s)(hok:smOS s)(ho:okO s)(hbig:bigO s):
 Calls Tryz.prog 8 #[.agg #[.int .u8 s.first.fl.toNat,.int .u64 s.first.po,.int .u32 s.first.se,.int .u32 s.first.nu,.string s.first.la,.string s.first.bo,.string s.b.vt,.int .i64 s.b.vs,vn,.string s.setup,vs]] w (OPrintPost (toB (oprintL crcN s)) (0,0) w):=by
 obtain⟨W,hW,C⟩:=jj3 w (osC vn vs s);have kpg:∀w',Below w.heap.size w w'→Calls Tryz.prog 9 #[osV vn vs s] w' (OPagesPost (opagesL s) (0,0) w'):=fun w' hb'=>js1 vn vs s w' (hT.bel hb') (hrow.keep hb') hok ho hbig
 unfold osV OPagesPost at kpg;simp only at kpg;have hgood:=jk3 ho;have hlen:=ho.2.2.2.2.2;have hne:opagesL s ≠ []:=by unfold opagesL;simp
 unfold oprintL;generalize opagesL s=l at *;have kb:=fun w=>jb8 0 0 w
 rw[show(!decide ((0:Int)=0))=false from rfl]at kb;have hfl:=jp0 l hgood;obtain⟨n,hn'⟩:∃n,n=l.length:=⟨_,rfl⟩;have hnpos:0<n:=by have:=List.length_pos_iff.2 hne;omega
 rw[←hn']at hlen hfl kpg;have hpl:(partsG l).length=n:=by unfold partsG;rw[List.length_map,hn']
 have kj:∀(C:Nat) (u:Value) (w:World),w.ownsRow C 9 1 u n (scells (partsG l))→Calls Tryz.prog 26 #[u] w fun e w'=>e=.returned (.string (toB (l.flatMap (gprintL crcN))))∧Below w.heap.size w w':=by
  intro C u w h;have:=jh3 C u (partsG l) w (by rw[hpl];exact h) (by intro e;rw[e]at hpl;simp at hpl;omega) (by rw[hpl];omega) (by rw[km1];omega);rw[km1]at this;exact this
 have kg:∀(p:PG),gG p→∀w,Calls Tryz.prog 25 #[gV p] w fun e w'=>e=.returned (.tuple #[.string (toB (gprintL crcN p)),.agg #[.int .i64 0,.int .i64 0]])∧Below w.heap.size w w':=fun p hp w=>kv7 p w hp (by have:=xf6 hp;omega)
 obtain⟨i0,hi,hz0,hz1,hz2⟩:=info_parts jm6;generalize toB (l.flatMap (gprintL crcN))=OUT at *;clear hrow hok hT ho hbig hfl hne;have KPG:=Lib.hid kpg;have KB:=Lib.hid kb;have HGOOD:=Lib.hid hgood;have HN:=Lib.hid hn';have KJ:=Lib.hid kj;have KG:=Lib.hid kg;have HPL:=Lib.hid hpl;clear kpg kb hgood hn' kj kg hpl;obtain⟨x0,x1,x2,x3,x4,x5,x6,x7,x8,x9,x10⟩:_∧_∧_∧_∧_∧_∧_∧_∧_∧_∧_:=⟨C.cell 0 _ rfl,C.cell 1 _ rfl,C.cell 2 _ rfl,C.cell 3 _ rfl,C.cell 4 _ rfl,C.cell 5 _ rfl,C.cell 6 _ rfl,C.cell 7 _ rfl,C.cell 8 _ rfl,C.cell 9 _ rfl,C.cell 10 _ rfl⟩;obtain⟨q0,q0',q1,q1'⟩:=C.ret
 go_enter Tryz.func8,Tryz.ntmps8
 go_wp2_with fail
 rw[←hW];clear hW
 go_upto_region 4 with(first
  | (go_at_call 9;(with_reducible refine(KPG.out _ C.gg).mono ?_);rintro e1 w1 ⟨hb1,v1,rfl,ho1⟩;obtain⟨a1,c1,rfl⟩:=jb4 ho1;replace C:=(C.bel hb1).bel (bal (Below.refl _ _) (.cells #[.int .i64 0,.int .i64 0] 54));replace ho1:=jb2 ho1 (bal (Below.refl w1.heap.size w1) (.cells #[.int .i64 0,.int .i64 0] 54));obtain⟨j0,j0'⟩:=Live.fresh w1 #[.int .i64 0,.int .i64 0] 54 0 _ rfl;obtain⟨j1,j1'⟩:=Live.fresh w1 #[.int .i64 0,.int .i64 0] 54 1 _ rfl;clear q0 q0' q1 q1' x0 x1 x2 x3 x4 x5 x6 x7 x8 x9 x10 hb1)
  | (go_at_call 16;(with_reducible refine(KB.out _).mono ?_);rintro e2 w2 ⟨rfl,hb2⟩;replace C:=C.bel hb2;replace ho1:=jb2 ho1 hb2;clear j0 j0' j1 j1';clear hb2;obtain⟨x0,x1,x2,x3,x4,x5,x6,x7,x8,x9,x10⟩:_∧_∧_∧_∧_∧_∧_∧_∧_∧_∧_:=⟨C.cell 0 _ rfl,C.cell 1 _ rfl,C.cell 2 _ rfl,C.cell 3 _ rfl,C.cell 4 _ rfl,C.cell 5 _ rfl,C.cell 6 _ rfl,C.cell 7 _ rfl,C.cell 8 _ rfl,C.cell 9 _ rfl,C.cell 10 _ rfl⟩;obtain⟨q0,q0',q1,q1'⟩:=C.ret)
  | fail)
 have hrow1:=row_g (jc2 ho1);have HC2:=Lib.hid C;have HR1:=Lib.hid hrow1;clear C ho1 hrow1 q0 q0' q1 q1' x0 x1 x2 x3 x4 x5 x6 x7 x8 x9 x10
 go_wp2_with (refine wpList_make_own _ rfl _ _ 77 rfl w2.heap.size 9 i0 (.string ⟨#[]⟩) 1 Tryz.underlying77 hi hz0 hz1 .i64 .i64 (n:Int) n rfl rfl rfl (by rw[hz2];omega) (by unfold maxLen;omega) (Nat.le_refl _) ?_;intro W4 hown4 hgrow4)
 have hb4:Below w2.heap.size w2 W4:=(Below.refl _ _).grown hgrow4 (Nat.le_refl _) (fun k hk=>by cases hk);have HO4:=Lib.hid hown4;have HB4:=Lib.hid hb4;clear hown4 hgrow4 hb4 hi hz0 hz1 hz2
 go_loopw [6,24] (fun pv kv wr=>∃k:Nat,kv=.int .i64 (k:Int)∧k≤n∧Hid (wr.ownsRow w2.heap.size 9 1 pv k (scells ((partsG l).take k)))∧Hid (Below w2.heap.size w2 wr)) (fun _ kv _=>n-(intOf kv).toNat)
 case atStart=>exact⟨0,rfl,Nat.zero_le _,HO4,HB4⟩
 case round=>
  clear HO4 HB4;obtain⟨k,rfl,hk,HO,HBE⟩:=hrel;by_cases hlt:k<n
  · obtain⟨p,hp⟩:=jb6 l k (by rw[←HN.out];exact hlt)
    obtain⟨gg,og,rfl,d0,d1,d2,d3,d4,d5⟩:=g_at HR1.out k p hp;replace d0:=kc HBE.out d0;replace d1:=kc HBE.out d1;replace d2:=kc HBE.out d2;replace d3:=kc HBE.out d3;replace d4:=kc HBE.out d4;replace d5:=kc HBE.out d5;have kg:=KG.out p (HGOOD.out p (List.mem_of_getElem? hp));unfold gV at kg;have hlx:(partsG l)[k]?=some (toB (gprintL crcN p)):=by unfold partsG;rw[List.getElem?_map,hp];rfl
    have hstep:scells ((partsG l).take (k+1))=scells ((partsG l).take k)++(#[.string (toB (gprintL crcN p))]:Array Value).toList:=by
     rw[List.take_add_one,hlx,jd4]
     rfl
    generalize toB (gprintL crcN p)=PT at *;obtain⟨fl,po,se,nu,la,bo⟩:=p;simp only at d0 d1 d2 d3 d4 d5 kg;generalize (fl.toNat:Int)=f at *;have HST:=Lib.hid hstep;have KG1:=Lib.hid kg;have m0:(0:Int)≤(k:Int):=by omega
    have m1:(k:Int)<(n:Int):=by omega
    have z1:k<70368744177664:=by omega
    have z2:(k+1)*16≤140737488355328:=by omega
    clear hstep hlx hp kg
    go_wp2_with (first
     | (go_at_call 25;(with_reducible refine(KG1.out _).mono ?_);rintro e5 w5 ⟨rfl,hb5⟩;have hb6:=bal (bt (bal (Below.refl wr.heap.size wr) (.cells #[.int .u8 f,.int .u64 po,.int .u32 se,.int .u32 nu,.string la,.string bo] 27)) hb5) (.cells #[.int .i64 0,.int .i64 0] 54))
     | (go_at_call 16;(with_reducible refine(KB.out _).mono ?_);rintro e6 w6 ⟨rfl,hb7⟩;have hb8:=bt hb6 hb7;have ho8:=jb2 HO.out hb8;have hbe8:=bt HBE.out hb8)
     | (at_builtin;refine jc4 rfl _ _ 77 9 rfl Tryz.underlying77 (.string ⟨#[]⟩) 1 16 jm6 rfl (by decide) w6 w2.heap.size u6 k (scells ((partsG l).take k)) rfl ho8 #[.string PT] rfl (by simp[Value.oneCell']) rfl z1 z2 hbe8.size ?_;intro v9 w9 hown9 hb9 hk9;rw[←HST.out]at hown9)
     | fail)
    have HO9:=Lib.hid hown9;have HB9:=Lib.hid (hbe8.trans hb9)
    go_roundw
    case rel=>exact⟨k+1,by go_num,by omega,HO9,HB9⟩
    case measure=>simp[intOf];omega
  · have hkn:k=n:=by omega
    have ho:=HO.out;rw[hkn,List.take_of_length_le (by rw[HPL.out];exact Nat.le_refl _)]at ho;have m1:¬(k:Int)<(n:Int):=by omega
    have C:=HC2.out.bel HBE.out;have HO9:=Lib.hid ho;clear hkn ho
    go_wp2_with (first
     | (go_at_call 26;(with_reducible refine(KJ.out _ _ _ HO9.out).mono ?_);rintro e7 w7 ⟨rfl,hb7⟩;replace C:=C.bel hb7;obtain⟨q0,q0',q1,q1'⟩:=C.ret)
     | fail)
    refine bodyPost_ret (v:=.tuple #[.string OUT,.agg #[.int .i64 0,.int .i64 0]]) (by simp[results,Tryz.results8,go_sem,q0,q0',q1,q1']) rfl ?_;exact⟨rfl,(C.gg.setCell (by simp) _).setCell (by simp) _⟩
abbrev rgC(p:PG):Array Value:=#[.int .i64 p.fl.toNat,.int .u64 p.po,.int .u64 p.se,.int .u64 p.nu,.string p.la,.string p.bo]
def rgcells(l:List PG):List Value:=l.flatMap fun p=>(rgC p).toList
theorem jr9(l:List PG)(p:PG):rgcells (l ++ [p])=rgcells l++(#[.int .i64 p.fl.toNat,.int .u64 p.po,.int .u64 p.se,.int .u64 p.nu,.string p.la,.string p.bo]:Array Value).toList:=by simp[rgcells]
def okG(p:PG):Prop:=p.po<18446744073709551616∧p.se<4294967296∧p.nu<4294967296
set_option maxRecDepth 100000 in
theorem qt5(p:PG)(w:World)(hp:okG p):Calls Tryz.prog 13 #[gV p] w fun e w'=>e=.returned (.agg #[.int .i64 p.fl.toNat,.int .u64 p.po,.int .u64 p.se,.int .u64 p.nu,.string p.la,.string p.bo])∧Below w.heap.size w w':=by
 obtain⟨h1,h2,h3⟩:=hp;unfold gV;have hf:=p.fl.toNat_lt;obtain⟨fl,po,se,nu,la,bo⟩:=p;simp only at h1 h2 h3 hf ⊢;generalize fl.toNat=f at *;have w1:IntKind.i64.wrap (f:Int)=(f:Int):=wi64 _ (by omega) (by omega);have w2:IntKind.u64.wrap (se:Int)=(se:Int):=by rw[IntKind.wrap_u64];omega
 have w3:IntKind.u64.wrap (nu:Int)=(nu:Int):=by rw[IntKind.wrap_u64];omega
 clear h1 hf
 go_enter Tryz.func13,Tryz.ntmps13
 go_wp2_with fail
 refine bodyPost_ret (v:=.agg #[.int .i64 f,.int .u64 po,.int .u64 se,.int .u64 nu,.string la,.string bo]) (by simp[results,Tryz.results13,go_sem]) rfl ?_;exact⟨rfl,by first|exact bal (bal (Below.refl _ _) _) _|simpa using bal (bal (Below.refl _ _) _) _⟩
end Go.Proofs.YtagjkmkmphamoaaGreatDoor
