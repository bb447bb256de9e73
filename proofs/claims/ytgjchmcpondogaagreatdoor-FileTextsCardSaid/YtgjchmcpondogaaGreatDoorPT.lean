/- PT -/
import Derived.Test.YtgjchmcpondogaaGreatDoorPS
set_option linter.all false
set_option maxRecDepth 100000
set_option maxHeartbeats 40000000
namespace Go.Proofs.YtgjchmcpondogaaGreatDoor
open Go Go.Rf Go.RowKit Go.Proofs.Tryz
def txM(k:Nat)(b:ByteArray):List Pc ⊕ Nat:=if k=4 then cueM b else if k=5 then srtM b else if k=6 then ssaM b else lrcM b
theorem yF9(b:ByteArray)(w:World)(hG:GW w)(hs:b.size≤1000000):Calls prog 98 #[.int .i64 4,.string b] w (ParsP (cueM b) w):=by
 obtain⟨R,hR⟩:∃R,R=cueM b:=⟨_,rfl⟩;rw[←hR];obtain⟨W,hW⟩:∃W,W=w.alloc (.cells #[.int .i64 0,.int .i64 0] 37):=⟨_,rfl⟩;have H8:Below w.heap.size w W:=by rw[hW];exact bal z8 _
 have H9:W.heap.size=w.heap.size+1:=by rw[hW,Y4]
 have lf:∀(j:Nat) (v:Value),(#[Value.int .i64 0,.int .i64 0]:Array Value)[j]?=some v→Live (w.alloc (.cells #[.int .i64 0,.int .i64 0] 37)) w.heap.size j v:=fun j v h=>Live.fresh w _ 37 j v h
 rw[←hW]at lf;have m0:=lf 0 _ rfl;have m1:=lf 1 _ rfl;have kw:Calls prog 176 #[.string b] W (ParsP R W):=by rw[hR];exact yCb b W (hG.bel H8) hs
 have KW:=z7 kw;have H6:=z7 H8;have M0:=z7 m0;have M1:=z7 m1;have Ha:=z7 H9;clear kw H8 m0 m1 H9;clear hR lf
 go_enter func98,ntmps98
 go_wp2_with fail
 rw[←hW];clear hW
 go_wp2_with (go_at_call 176;refine(KW.out).mono ?_;rintro e w1 ⟨H5,h⟩;obtain⟨q0,q0'⟩:=M0.out.keep H5;obtain⟨q1,q1'⟩:=M1.out.keep H5;rcases h with⟨a,h3,rfl⟩|⟨l,v,h3,rfl,H7⟩)
 · skip
   refine bodyPost_ret (v:=.tuple #[.slice none 0 0,.agg #[.int .i64 1,.int .i64 a]]) (by simp[results,Tryz.results98,go_sem,q0,q1,q0',q1']) rfl ?_;exact⟨zf (H6.out.trans (H5.mono H6.out.size)) _ zA,.inl ⟨a,h3,rfl⟩⟩
 · skip
   refine bodyPost_ret (v:=.tuple #[v,.agg #[.int .i64 0,.int .i64 0]]) (by simp[results,Tryz.results98,go_sem,q0,q1,q0',q1']) rfl ?_;exact⟨zf (H6.out.trans (H5.mono H6.out.size)) _ zA,.inr ⟨l,v,h3,rfl,y0p (by rw[←Ha.out];exact H7)⟩⟩
theorem yF8(b:ByteArray)(w:World)(hG:GW w)(hs:b.size≤1000000):Calls prog 98 #[.int .i64 5,.string b] w (ParsP (srtM b) w):=by
 obtain⟨R,hR⟩:∃R,R=srtM b:=⟨_,rfl⟩;rw[←hR];obtain⟨W,hW⟩:∃W,W=w.alloc (.cells #[.int .i64 0,.int .i64 0] 37):=⟨_,rfl⟩;have H8:Below w.heap.size w W:=by rw[hW];exact bal z8 _
 have H9:W.heap.size=w.heap.size+1:=by rw[hW,Y4]
 have lf:∀(j:Nat) (v:Value),(#[Value.int .i64 0,.int .i64 0]:Array Value)[j]?=some v→Live (w.alloc (.cells #[.int .i64 0,.int .i64 0] 37)) w.heap.size j v:=fun j v h=>Live.fresh w _ 37 j v h
 rw[←hW]at lf;have m0:=lf 0 _ rfl;have m1:=lf 1 _ rfl;have kw:Calls prog 177 #[.string b] W (ParsP R W):=by rw[hR];exact yBl b W (hG.bel H8) hs
 have KW:=z7 kw;have H6:=z7 H8;have M0:=z7 m0;have M1:=z7 m1;have Ha:=z7 H9;clear kw H8 m0 m1 H9;clear hR lf
 go_enter func98,ntmps98
 go_wp2_with fail
 rw[←hW];clear hW
 go_wp2_with (go_at_call 177;refine(KW.out).mono ?_;rintro e w1 ⟨H5,h⟩;obtain⟨q0,q0'⟩:=M0.out.keep H5;obtain⟨q1,q1'⟩:=M1.out.keep H5;rcases h with⟨a,h3,rfl⟩|⟨l,v,h3,rfl,H7⟩)
 · skip
   refine bodyPost_ret (v:=.tuple #[.slice none 0 0,.agg #[.int .i64 1,.int .i64 a]]) (by simp[results,Tryz.results98,go_sem,q0,q1,q0',q1']) rfl ?_;exact⟨zf (H6.out.trans (H5.mono H6.out.size)) _ zA,.inl ⟨a,h3,rfl⟩⟩
 · skip
   refine bodyPost_ret (v:=.tuple #[v,.agg #[.int .i64 0,.int .i64 0]]) (by simp[results,Tryz.results98,go_sem,q0,q1,q0',q1']) rfl ?_;exact⟨zf (H6.out.trans (H5.mono H6.out.size)) _ zA,.inr ⟨l,v,h3,rfl,y0p (by rw[←Ha.out];exact H7)⟩⟩
theorem yF7(b:ByteArray)(w:World)(hG:GW w)(hs:b.size≤1000000):Calls prog 98 #[.int .i64 6,.string b] w (ParsP (ssaM b) w):=by
 obtain⟨R,hR⟩:∃R,R=ssaM b:=⟨_,rfl⟩;rw[←hR];obtain⟨W,hW⟩:∃W,W=w.alloc (.cells #[.int .i64 0,.int .i64 0] 37):=⟨_,rfl⟩;have H8:Below w.heap.size w W:=by rw[hW];exact bal z8 _
 have H9:W.heap.size=w.heap.size+1:=by rw[hW,Y4]
 have lf:∀(j:Nat) (v:Value),(#[Value.int .i64 0,.int .i64 0]:Array Value)[j]?=some v→Live (w.alloc (.cells #[.int .i64 0,.int .i64 0] 37)) w.heap.size j v:=fun j v h=>Live.fresh w _ 37 j v h
 rw[←hW]at lf;have m0:=lf 0 _ rfl;have m1:=lf 1 _ rfl;have kw:Calls prog 178 #[.string b] W (ParsP R W):=by rw[hR];exact yCr b W (hG.bel H8) hs
 have KW:=z7 kw;have H6:=z7 H8;have M0:=z7 m0;have M1:=z7 m1;have Ha:=z7 H9;clear kw H8 m0 m1 H9;clear hR lf
 go_enter func98,ntmps98
 go_wp2_with fail
 rw[←hW];clear hW
 go_wp2_with (go_at_call 178;refine(KW.out).mono ?_;rintro e w1 ⟨H5,h⟩;obtain⟨q0,q0'⟩:=M0.out.keep H5;obtain⟨q1,q1'⟩:=M1.out.keep H5;rcases h with⟨a,h3,rfl⟩|⟨l,v,h3,rfl,H7⟩)
 · skip
   refine bodyPost_ret (v:=.tuple #[.slice none 0 0,.agg #[.int .i64 1,.int .i64 a]]) (by simp[results,Tryz.results98,go_sem,q0,q1,q0',q1']) rfl ?_;exact⟨zf (H6.out.trans (H5.mono H6.out.size)) _ zA,.inl ⟨a,h3,rfl⟩⟩
 · skip
   refine bodyPost_ret (v:=.tuple #[v,.agg #[.int .i64 0,.int .i64 0]]) (by simp[results,Tryz.results98,go_sem,q0,q1,q0',q1']) rfl ?_;exact⟨zf (H6.out.trans (H5.mono H6.out.size)) _ zA,.inr ⟨l,v,h3,rfl,y0p (by rw[←Ha.out];exact H7)⟩⟩
theorem yF6(b:ByteArray)(w:World)(hG:GW w)(hs:b.size≤1000000):Calls prog 98 #[.int .i64 7,.string b] w (ParsP (lrcM b) w):=by
 obtain⟨R,hR⟩:∃R,R=lrcM b:=⟨_,rfl⟩;rw[←hR];obtain⟨W,hW⟩:∃W,W=w.alloc (.cells #[.int .i64 0,.int .i64 0] 37):=⟨_,rfl⟩;have H8:Below w.heap.size w W:=by rw[hW];exact bal z8 _
 have H9:W.heap.size=w.heap.size+1:=by rw[hW,Y4]
 have lf:∀(j:Nat) (v:Value),(#[Value.int .i64 0,.int .i64 0]:Array Value)[j]?=some v→Live (w.alloc (.cells #[.int .i64 0,.int .i64 0] 37)) w.heap.size j v:=fun j v h=>Live.fresh w _ 37 j v h
 rw[←hW]at lf;have m0:=lf 0 _ rfl;have m1:=lf 1 _ rfl;have kw:Calls prog 179 #[.string b] W (ParsP R W):=by rw[hR];exact yCE b W (hG.bel H8) hs
 have KW:=z7 kw;have H6:=z7 H8;have M0:=z7 m0;have M1:=z7 m1;have Ha:=z7 H9;clear kw H8 m0 m1 H9;clear hR lf
 go_enter func98,ntmps98
 go_wp2_with fail
 rw[←hW];clear hW
 go_wp2_with (go_at_call 179;refine(KW.out).mono ?_;rintro e w1 ⟨H5,h⟩;obtain⟨q0,q0'⟩:=M0.out.keep H5;obtain⟨q1,q1'⟩:=M1.out.keep H5;rcases h with⟨a,h3,rfl⟩|⟨l,v,h3,rfl,H7⟩)
 · skip
   refine bodyPost_ret (v:=.tuple #[.slice none 0 0,.agg #[.int .i64 1,.int .i64 a]]) (by simp[results,Tryz.results98,go_sem,q0,q1,q0',q1']) rfl ?_;exact⟨zf (H6.out.trans (H5.mono H6.out.size)) _ zA,.inl ⟨a,h3,rfl⟩⟩
 · skip
   refine bodyPost_ret (v:=.tuple #[v,.agg #[.int .i64 0,.int .i64 0]]) (by simp[results,Tryz.results98,go_sem,q0,q1,q0',q1']) rfl ?_;exact⟨zf (H6.out.trans (H5.mono H6.out.size)) _ zA,.inr ⟨l,v,h3,rfl,y0p (by rw[←Ha.out];exact H7)⟩⟩
theorem y5P(k:Nat)(h1:4≤k)(h2:k<8)(b:ByteArray)(w:World)(hG:GW w)(hs:b.size≤1000000):Calls prog 98 #[.int .i64 k,.string b] w (ParsP (txM k b) w):=by
 rcases(by omega:k=4∨k=5∨k=6∨k=7)with rfl|rfl|rfl|rfl
 · exact yF9 b w hG hs
 · exact yF8 b w hG hs
 · exact yF7 b w hG hs
 · exact yF6 b w hG hs
theorem y34:∀(l:List Pc) (k:Nat) (p:Pc),l[k]?=some p→∀j v,(pcV p)[j]?=some v→(pcC l)[k*3+j]?=some v
 | [],k,p,h,j,v,hj=>by simp at h
 | q::l,0,p,h,j,v,hj=>by
  cases h;rw[show pcC (q::l)=pcV q++pcC l from rfl,Nat.zero_mul,Nat.zero_add,List.getElem?_append_left (List.getElem?_eq_some_iff.1 hj).1,hj]
 | q::l,k+1,p,h,j,v,hj=>by
  have ih:=y34 l k p (by simpa using h) j v hj;rw[show pcC (q::l)=pcV q++pcC l from rfl,List.getElem?_append_right (by simp[pcV];omega)];rw[←ih];congr 1;simp[pcV];omega
theorem y4u{w:World}{l:List Pc}{n cap g o:Nat}(h:Row w (.slice (some ⟨g,o,none⟩) n cap) n (pcC l))(k:Nat)(p:Pc)(hk:l[k]?=some p):
 w.cell? ⟨g,o+k*3,none⟩=some (.bool p.m)∧w.cell? ⟨g,o+k*3+1,none⟩=some (.string p.n)∧w.cell? ⟨g,o+k*3+2,none⟩=some (.string p.t):=by
 have hx:∀(j:Nat) (v:Value),(pcV p)[j]?=some v→w.cell? ⟨g,o+(k*3+j),none⟩=some v:=fun j v hj=>by
  obtain⟨g',o',c',e,hc⟩:=y0D h _ _ (y34 l k p hk j v hj);simp only[Value.slice.injEq,Option.some.injEq,Addr.mk.injEq]at e;obtain⟨⟨rfl,rfl,_⟩,_,_⟩:=e;exact hc
 exact⟨by simpa using hx 0 _ rfl,by have:=hx 1 _ rfl;rwa [←Nat.add_assoc]at this,by have:=hx 2 _ rfl;rwa [←Nat.add_assoc]at this⟩
theorem yAt(g cap:Nat)(xs:List ByteArray)(w:World)(H5:∀(j:Nat) x,xs[j]?=some x→w.cell? ⟨g,j,none⟩=some (.string x))(hg:g<w.heap.size)(hc:xs.length≤cap)(hn:xs.length≤1073741824)(H6:(xs.map bl).flatten.length≤140737488355328):
 Calls prog 90 #[.slice (some ⟨g,0,none⟩) xs.length cap] w fun e w'=>e=.returned (.string ⟨(xs.map bl).flatten.toArray⟩)∧Below w.heap.size w w':=by
 have k1:=Tryz.strings_Join g 0 cap xs ⟨#[]⟩ w (fun j x h=>by rw[Nat.zero_add];exact H5 j x h) hg (by omega) hc (by show(Lib.join (xs.map bl) []).length≤_;rw[y1F];exact H6);have k1:Calls prog 165 #[.slice (some ⟨g,0,none⟩) xs.length cap,.string ⟨#[]⟩] w fun e w'=>e=.returned (.string ⟨(xs.map bl).flatten.toArray⟩)∧Below w.heap.size w w':=by
  have e:Lib.join (xs.map fun x=>x.data.toList) (⟨#[]⟩:ByteArray).data.toList=(xs.map bl).flatten:=y1F _;rw[e]at k1;exact k1
 generalize (xs.map bl).flatten=r at *;have K1:=z7 k1;clear k1;clear H5
 go_enter func90,ntmps90
 go_wp2_with (go_at_call 165;refine(K1.out).mono ?_;rintro e w1 ⟨rfl,H7⟩)
 go_ret
 exact⟨rfl,H7⟩
theorem yCz(l:List Pc):((l.map Pc.t).map bl).flatten=whL l:=by
 unfold whL;rw[List.map_map,List.flatMap]
 rfl
def wcells(l:List Pc)(k:Nat):List Value:=scells ((l.take k).map Pc.t)++List.replicate (l.length-k) (.string ⟨#[]⟩)
theorem yBb(l:List Pc)(k:Nat)(p:Pc)(hp:l[k]?=some p):(wcells l k).set k (.string p.t)=wcells l (k+1):=by
 have hk:=(List.getElem?_eq_some_iff.1 hp).1;obtain⟨j,hj⟩:∃j,l.length-k=j+1:=⟨l.length-k-1,by omega⟩;unfold wcells;rw[hj,show l.length-(k+1)=j by omega,List.take_add_one,hp,List.set_append_right _ _ (by simp[scells];omega),List.replicate_succ];have:k-(scells ((l.take k).map Pc.t)).length=0:=by simp[scells];omega
 rw[this];simp[scells]
theorem y98(l:List Pc)(k:Nat)(h:k<l.length):(wcells l k)[k]?=some (.string ⟨#[]⟩):=by
 have hs:(scells ((l.take k).map Pc.t)).length=k:=by simp[scells];omega
 unfold wcells;rw[List.getElem?_append_right (by omega),hs,Nat.sub_self,List.getElem?_replicate,if_pos (by omega)]
theorem yCy(v:Value)(l:List Pc)(w:World)(H5:Row w v l.length (pcC l))(hn:l.length≤1073741824)(H9:(whL l).length≤140737488355328):
 Calls prog 96 #[v] w fun e w'=>e=.returned (.string ⟨(whL l).toArray⟩)∧Below w.heap.size w w':=by
 obtain⟨i0,hi,Hj,Hi,Hh⟩:=info_parts infoStr;obtain⟨a,cap,rfl,H7⟩:=H5;have H5:Row w (.slice a l.length cap) l.length (pcC l):=⟨a,cap,rfl,H7⟩;clear H7;obtain⟨m,hm⟩:∃m,m=l.length:=⟨_,rfl⟩;have kj:∀(w1:World) (g:Nat),w1.ownsRow g 9 1 (.slice (some ⟨g,0,none⟩) m m) m (wcells l m)→Calls prog 90 #[.slice (some ⟨g,0,none⟩) m m] w1 fun e w'=>e=.returned (.string ⟨(whL l).toArray⟩)∧Below w1.heap.size w1 w':=by
  intro w1 g h;have k:=yAt g m (l.map Pc.t) w1 (fun j x hj=>by
   have Hl:=(List.getElem?_eq_some_iff.1 hj).1;rw[List.length_map]at Hl;rw[h.cellAt j (by omega)];have:wcells l m=scells (l.map Pc.t):=by unfold wcells;rw[hm,List.take_length,Nat.sub_self];simp
   rw[this];simp only[scells,List.getElem?_map,hj,Option.map_some]) (by
    rcases h.2 with⟨h',_⟩|⟨g',cap',cur,h',hb,hg,_⟩
    · simp at h'
    · simp only[Value.slice.injEq,Option.some.injEq,Addr.mk.injEq,and_true,true_and]at h'
      obtain⟨rfl,rfl⟩:=h';exact(Array.getElem?_eq_some_iff.1 hg).1) (by rw[List.length_map,hm];exact zA) (by rw[List.length_map];exact hn) (by rw[yCz];exact H9)
  rw[yCz,List.length_map,←hm]at k;exact k
 have Hf:(madeCells (Value.string ⟨#[]⟩).cells (m*1)).toList=wcells l 0:=by
  rw[show(Value.string ⟨#[]⟩).cells=#[Value.string ⟨#[]⟩] from rfl,toList_madeCells_one];simp[wcells,scells,hm]
 rw[←hm]at hn H5 ⊢;generalize (whL l)=R at *;have HM:=z7 hm;have Hd:=z7 H5;have KJ:=z7 kj;clear kj H5 hm H9
 go_enter func96,ntmps96
 go_wp2_with (refine wpList_make_full _ rfl _ _ 131 rfl w.heap.size 9 i0 (.string ⟨#[]⟩) 1 underlying131 hi Hj Hi .i64 .i64 (m:Int) (m:Int) m rfl rfl rfl rfl (by rw[Hh];omega) (by unfold maxLen;omega) zA ?_;intro W H6 H8)
 rw[Hf]at H6;have Ha:Below w.heap.size w W:=(z8).grown H8 zA (by intro k hk;cases hk);have Hn:w.heap.size<W.heap.size:=by
  rcases H6.2 with⟨h',_⟩|⟨g',cap',cur,h',hb,hg,_⟩
  · simp at h'
  · simp only[Value.slice.injEq,Option.some.injEq,Addr.mk.injEq,and_true,true_and]at h'
    obtain⟨rfl,rfl⟩:=h';exact(Array.getElem?_eq_some_iff.1 hg).1
 clear H8 Hf
 go_loopw [11] (fun iv wr=>∃k:Nat,iv=.int .i64 (k:Int)∧k≤m∧Hid (wr.ownsRow w.heap.size 9 1 (.slice (some ⟨w.heap.size,0,none⟩) m m) m (wcells l k))∧Hid (Below w.heap.size w wr)) (fun iv _=>m-(intOf iv).toNat)
 case atStart=>exact⟨0,rfl,zD,z7 H6,z7 Ha⟩
 case round=>
  obtain⟨k,rfl,hk,HO,HB⟩:=hrel;clear H6 Ha;by_cases Hg:k<m
  · obtain⟨p,hp⟩:=zM l k (by rw[←HM.out];exact Hg)
    have hr:=Hd.out.keep HB.out;obtain⟨g,o,c',e,_⟩:=y0D hr _ _ (y34 l k p hp 0 _ rfl);simp only[Value.slice.injEq]at e;obtain⟨rfl,_,rfl⟩:=e;obtain⟨q0,q1,q2⟩:=y4u hr k p hp;have Hb:=zK HO.out (bal (Below.refl wr.heap.size wr) (.cells #[.bool p.m,.string p.n,.string p.t] 74));have He:=HB.out.trans ((Below.refl w.heap.size wr).alloc HB.out.size (.cells #[.bool p.m,.string p.n,.string p.t] 74));have hc:∃x,(wr.alloc (.cells #[.bool p.m,.string p.n,.string p.t] 74)).cell? ⟨w.heap.size,k,none⟩=some (.string x):=by
     refine⟨⟨#[]⟩,?_⟩;rw[Hb.cellAt k (by omega)];exact y98 l k (by rw[←HM.out];exact Hg)
    obtain⟨x,hc⟩:=hc;have hf:=Hb.frozenAt k;have Hc:=Hb.stored k (.string p.t);rw[yBb l k p hp]at Hc;have HS:=z7 Hc;have He:=z7 He;clear Hc hr hp Hb
    go_wp2
    go_roundw
    case rel=>exact⟨k+1,by first|omega|go_num,by omega,z7 HS.out.1,z7 (He.out.setCell zA _)⟩
    case measure=>simp[intOf];omega
  · have Hk:k=m:=by omega
    subst Hk;have K:=z7 (KJ.out wr w.heap.size HO.out)
    go_wp2_with (go_at_call 90;refine(K.out).mono ?_;rintro e w1 ⟨rfl,Hm⟩)
    go_ret
    exact⟨rfl,HB.out.trans (Hm.mono HB.out.size)⟩
theorem infoPc:(Tryz.prog.info? 73).map (fun i=>(i.zero,i.size,i.bytes))=some (some Y3,3,40):=by kernel_rfl
theorem yGT(v:Value)(n:Nat)(cs:List Value)(B:Nat)(t:ByteArray)(w:World)(H6:w.ownsRow B 73 3 v n cs)(hn:n<1000000)(hB:B≤w.heap.size):
 Calls prog 78 #[v,.string t] w fun e w'=>(∃v',e=.returned v'∧w'.ownsRow B 73 3 v' (n+1) (cs ++ [.bool true,.string ⟨#[109,97,114,107]⟩,.string t]))∧Below B w w':=by
 obtain⟨a1,c1,rfl⟩:=zL H6;have H8:n<70368744177664:=by omega
 have H7:(n+1)*40≤140737488355328:=by omega
 go_enter func78,ntmps78
 go_wp2_with (first
  | (at_builtin;refine zP rfl _ _ 46 73 rfl underlying46 Y3 3 40 infoPc rfl (by decide) w B (.slice a1 n c1) n cs rfl H6 #[.bool true,.string ⟨#[109,97,114,107]⟩,.string t] rfl (by simp[Value.oneCell']) rfl H8 H7 hB ?_;intro v' w6 H5 H9 Ha)
  | fail)
 go_ret
 exact⟨⟨_,rfl,H5⟩,H9⟩
theorem yBr(v:Value)(n:Nat)(cs:List Value)(B:Nat)(m t:ByteArray)(w:World)(H6:w.ownsRow B 73 3 v n cs)(hn:n<1000000)(hB:B≤w.heap.size):
 Calls prog 80 #[v,.string m,.string t] w fun e w'=>(∃v',e=.returned v'∧w'.ownsRow B 73 3 v' (n+1) (cs ++ [.bool false,.string m,.string t]))∧Below B w w':=by
 obtain⟨a1,c1,rfl⟩:=zL H6;have H8:n<70368744177664:=by omega
 have H7:(n+1)*40≤140737488355328:=by omega
 go_enter func80,ntmps80
 go_wp2_with (first
  | (at_builtin;refine zP rfl _ _ 46 73 rfl underlying46 Y3 3 40 infoPc rfl (by decide) w B (.slice a1 n c1) n cs rfl H6 #[.bool false,.string m,.string t] rfl (by simp[Value.oneCell']) rfl H8 H7 hB ?_;intro v' w6 H5 H9 Ha)
  | fail)
 go_ret
 exact⟨⟨_,rfl,H5⟩,H9⟩
def mkL(t:ByteArray):List Pc:=if 0<t.size then [mkP t]else []
theorem zY(v:Value)(A:List Pc)(B:Nat)(t:ByteArray)(w:World)(H5:w.ownsRow B 73 3 v A.length (pcC A))(hn:A.length<1000000)(hB:B≤w.heap.size):
 Calls prog 78 #[v,.string t] w fun e w'=>(∃v',e=.returned v'∧w'.ownsRow B 73 3 v' (A ++ [mkP t]).length (pcC (A ++ [mkP t])))∧Below B w w':=by
 have:=yGT v A.length (pcC A) B t w H5 hn hB;rw[zl,zH];exact this
theorem y06(v:Value)(A:List Pc)(B:Nat)(n t:ByteArray)(w:World)(H5:w.ownsRow B 73 3 v A.length (pcC A))(hn:A.length<1000000)(hB:B≤w.heap.size):
 Calls prog 80 #[v,.string n,.string t] w fun e w'=>(∃v',e=.returned v'∧w'.ownsRow B 73 3 v' (A ++ [txP n t]).length (pcC (A ++ [txP n t])))∧Below B w w':=by
 have:=yBr v A.length (pcC A) B n t w H5 hn hB;rw[zl,zH];exact this
theorem yDo(v:Value)(A:List Pc)(B:Nat)(t:ByteArray)(w:World)(H5:w.ownsRow B 73 3 v A.length (pcC A))(hn:A.length<1000000)(hB:B≤w.heap.size):
 Calls prog 76 #[v,.string t] w fun e w'=>(∃v',e=.returned v'∧w'.ownsRow B 73 3 v' (A++mkL t).length (pcC (A++mkL t)))∧Below B w w':=by
 have K1:=z7 (zY v A B t w H5 hn hB);have hz:t.toList.length=t.size:=by rw[ByteArray.toList_eq];rfl
 by_cases h:t.toList = []
 · have h1:t.toList.isEmpty=true:=List.isEmpty_iff.2 h
   have e:mkL t = []:=by unfold mkL;rw[if_neg];rw[h]at hz;simp at hz;omega
   rw[e,List.append_nil];have HO:=z7 H5;clear h H5 e hz
   go_enter func76,ntmps76
   go_wp2_with fail
   go_ret
   exact⟨⟨_,rfl,HO.out⟩,z8⟩
 · have h1:t.toList.isEmpty=false:=List.isEmpty_eq_false_iff.2 h
   have e:mkL t = [mkP t]:=by unfold mkL;rw[if_pos];rcases Nat.eq_zero_or_pos t.size with h0|h0;exact absurd (List.eq_nil_of_length_eq_zero (by omega)) h;exact h0
   rw[e];clear h e hz H5
   go_enter func76,ntmps76
   go_wp2_with (go_at_call 78;(with_reducible refine(K1.out).mono ?_);rintro e w1 ⟨⟨v,rfl,H5⟩,H6⟩)
   go_ret
   exact⟨⟨_,rfl,H5⟩,H6⟩
def sNm:List SliF:=[(.sym 0,some (.sym 1),some (.sym 2),.sym 4),(.sym 0,none,some (.sym 6),.sym 7),(.sym 0,some (.sym 6),some (.sym 8),.sym 9),(.sym 0,some (.sym 8),none,.sym 10)]
def cNm:List SymF:=[(249,[.a (.sym 4)],one1 (.sym 5))]
def tNm0:Told:={ b:=[(.lss,.sym 5,lI 0,lB true)],s:=[(.sym 0,some (.sym 1),some (.sym 2),.sym 4)],c:=cNm }
def tNm(v:Bool):Told:={ b:=[(.lss,.sym 5,lI 0,lB false),(.add,.sym 1,.sym 5,.sym 6),(.sub,.sym 2,.sym 5,.sym 8),(.eql,.sym 10,lS [],lB v)],s:=sNm,c:=cNm }
abbrev tSn(n x:At):List At:=[lB false,n,x]
noncomputable abbrev yIW(T:Told):Option (Nat×List At×Bool):=yAR T 153 [.a (.sym 0),.a (.sym 1),.a (.sym 2),.a (.sym 3)]
theorem rNm0:yIW tNm0=some (0,[],false):=by kernel_rfl
theorem rNmT:yIW (tNm true)=some (2,mA (.sym 7)++(tSn (.sym 3) (.sym 9) ++ []),true):=by kernel_rfl
theorem rNmF:yIW (tNm false)=some (3,mA (.sym 7)++(tSn (.sym 3) (.sym 9)++(mA (.sym 10) ++ [])),true):=by kernel_rfl
theorem yDF{I:Sym}{ρ:Rho}{n x:At}{m t:ByteArray}{r:List At}{us:List Value}(hn:n.den ρ=some (.string m))(h:x.den ρ=some (.string t))(hr:dens ρ r=some us):dens ρ (tSn n x++r)=some (pcV (txP m t)++us):=zc.2 ⟨_,_,rfl,zc.2 ⟨_,_,hn,zc.2 ⟨_,_,h,hr,rfl⟩,rfl⟩,rfl⟩
theorem b_of{a b:ByteArray}(h:bl a=bl b):a=b:=by
 rw[←y1x a,←y1x b];show(⟨(bl a).toArray⟩:ByteArray)=⟨(bl b).toArray⟩;rw[h]
theorem valT_q(V:ByteArray)(h:valR (bl V)=true):∃q:Nat,qR (bl V)=(q:Int)∧(valT V).2=q∧(valT V).1=V.extract q (V.size-q)∧2*q≤V.size:=by
 have ho:y0y (bl V)=true:=by rw[y6c];exact h
 obtain⟨h1,h2⟩:=y7q V ho;refine⟨(valT V).2,?_,rfl,b_of h2,by omega⟩;unfold qR;rw[h,if_pos rfl];unfold valT;by_cases h0:(bl V).count 34=0
 · have hc:(bl V).contains 34=false:=by rw[y0T];simp[h0]
   rw[if_pos h0,if_neg (by rw[hc];decide)];rfl
 · have hc:(bl V).contains 34=true:=by rw[y0T,beq_eq_false_iff_ne.2 h0];rfl
   rw[if_neg h0,if_pos hc,if_pos ho];rfl
theorem y67(s nm:ByteArray)(f g:Nat)(w:World)(hG:GW w)(hs:s.size≤1000000)(H6:f≤g)(hg:g≤s.size):Calls prog 153 #[.string s,.int .i64 (f:Int),.int .i64 (g:Int),.string nm] w fun e w'=>(∃x,e=.returned (.tuple #[x,.bool (valR (bl (s.extract f g)))])∧(valR (bl (s.extract f g))=true→y1o w' x (valP s nm f g).length (pcC (valP s nm f g))))∧Below w.heap.size w w':=by
 obtain⟨V,hV⟩:∃V,V=s.extract f g:=⟨_,rfl⟩;have Hd:V.size=g-f:=by rw[hV,zG];omega
 have kv:=fun w=>yBt V w (by omega)
 have H7:valP s nm f g=mkP (s.extract 0 (f+(valT V).2))::txP nm (valT V).1::(if g-(valT V).2<s.size then [mkP (s.extract (g-(valT V).2) s.size)]else []):=by unfold valP;rw[←hV]
 rw[←hV,H7];cases hr:valR (bl V)with
 | false=>
  have hq:qR (bl V) = -1:=by unfold qR;rw[hr];rfl
  rw[hq]at kv
  letI:=sgL [.string s,.int .i64 f,.int .i64 g,.string nm,.string V,.int .i64 (-1)] ⟨zQ _,zR _ _,zR _ _,zQ _,zQ _,zR _ _,trivial⟩
  have k:=y6l (n:=0) (r:=[]) (b:=false) (us:=[]) (f:=153) (args:=[.a (.sym 0),.a (.sym 1),.a (.sym 2),.a (.sym 3)]) (vals:=[.string s,.int .i64 f,.int .i64 g,.string nm]) hG (T:=tNm0) ⟨⟨y3d (a:=-1) (c:=0) (k:=.i64) (fun _=>rfl) (fun _=>rfl) (by decide),trivial⟩,trivial,
   ⟨⟨s,f,g,fun _=>rfl,⟨.i64,fun _=>rfl⟩,⟨.i64,fun _=>rfl⟩,H6,hg,fun _=>by rw[←hV];rfl⟩,trivial⟩,trivial,⟨⟨[.string V],_,fun _=>rfl,fun _=>rfl,fun w' _=>kv w'⟩,trivial⟩,trivial,trivial⟩ rfl rNm0 (fun _=>rfl)
  exact k.mono fun e w' ⟨⟨x,h1,h2⟩,hb⟩=>⟨⟨x,h1,fun h=>by cases h⟩,hb⟩
 | true=>
  obtain⟨q,hq,H8,H9,Hc⟩:=valT_q V hr;rw[H8,H9];have Ha:f+q≤g-q:=by omega
  have Hb:q≤g:=by omega
  have ht:V.extract q (V.size-q)=s.extract (f+q) (g-q):=by rw[hV]at *;apply b_of;rw[yHV _ _ _ _ _ (by omega)];congr 2;omega
  rw[ht];rw[hq]at kv;obtain⟨v,hv⟩:∃v,((s.extract (g-q) s.size).data.toList==([]:List UInt8))=v:=⟨_,rfl⟩;have H5:v=decide (¬(g-q<s.size)):=by
   have hz:(s.extract (g-q) s.size).data.toList.length=s.size-(g-q):=by show(s.extract (g-q) s.size).size=_;rw[zG];omega
   rw[←hv,Bool.eq_iff_iff,beq_iff_eq,decide_eq_true_iff,←List.length_eq_zero_iff,hz];omega
  letI:=sgL [.string s,.int .i64 f,.int .i64 g,.string nm,.string V,.int .i64 (q:Int),.int .i64 ((f+q:Nat):Int),.string (s.extract 0 (f+q)),.int .i64 ((g-q:Nat):Int),.string (s.extract (f+q) (g-q)),.string (s.extract (g-q) s.size)]
   ⟨zQ _,zR _ _,zR _ _,zQ _,zQ _,zR _ _,zR _ _,zQ _,zR _ _,zQ _,zQ _,trivial⟩
  have hT:y1n w (tNm v):=⟨⟨y3d (a:=(q:Int)) (c:=0) (k:=.i64) (fun _=>rfl) (fun _=>rfl) (by simp),y3G (a:=(f:Int)) (c:=(q:Int)) (k:=.i64) (fun _=>rfl) (fun _=>rfl) (fun _=>rfl) (wi64 _ (by omega) (by omega)),
   y3F (a:=(g:Int)) (c:=(q:Int)) (k:=.i64) (fun _=>rfl) (fun _=>rfl) (fun _=>by rw[show(g:Int)-(q:Int)=((g-q:Nat):Int) by omega];rfl) (wi64 _ (by omega) (by omega)),y2s (s:=s.extract (g-q) s.size) (t:=⟨⟨[]⟩⟩) (fun _=>rfl) (fun _=>rfl) hv,trivial⟩,trivial,
   ⟨⟨s,f,g,fun _=>rfl,⟨.i64,fun _=>rfl⟩,⟨.i64,fun _=>rfl⟩,H6,hg,fun _=>by rw[←hV];rfl⟩,⟨s,0,f+q,fun _=>rfl,rfl,⟨.i64,fun _=>rfl⟩,by omega,by omega,fun _=>rfl⟩,⟨s,f+q,g-q,fun _=>rfl,⟨.i64,fun _=>rfl⟩,⟨.i64,fun _=>rfl⟩,Ha,by omega,fun _=>rfl⟩,⟨s,g-q,s.size,fun _=>rfl,⟨.i64,fun _=>rfl⟩,rfl,by omega,zA,fun _=>rfl⟩,trivial⟩,
   trivial,⟨⟨[.string V],_,fun _=>rfl,fun _=>rfl,fun w' _=>kv w'⟩,trivial⟩,trivial,trivial⟩
  cases v with
  | true=>
   have hn:¬(g-q<s.size):=by simpa using H5
   rw[if_neg hn];have k:=y6l (n:=2) (r:=mA (.sym 7)++(tSn (.sym 3) (.sym 9) ++ [])) (b:=true) (us:=pcV (mkP (s.extract 0 (f+q)))++(pcV (txP nm (s.extract (f+q) (g-q))) ++ [])) (f:=153) (args:=[.a (.sym 0),.a (.sym 1),.a (.sym 2),.a (.sym 3)]) (vals:=[.string s,.int .i64 f,.int .i64 g,.string nm]) hG hT rfl rNmT (fun ρ=>y5D rfl (yDF rfl rfl rfl));exact k.mono fun e w' ⟨⟨x,h1,h2⟩,hb⟩=>⟨⟨x,h1,fun _=>h2⟩,hb⟩
  | false=>
   have hn:g-q<s.size:=by simpa using H5
   rw[if_pos hn];have k:=y6l (n:=3) (r:=mA (.sym 7)++(tSn (.sym 3) (.sym 9)++(mA (.sym 10) ++ []))) (b:=true) (us:=pcV (mkP (s.extract 0 (f+q)))++(pcV (txP nm (s.extract (f+q) (g-q)))++(pcV (mkP (s.extract (g-q) s.size)) ++ []))) (f:=153) (args:=[.a (.sym 0),.a (.sym 1),.a (.sym 2),.a (.sym 3)]) (vals:=[.string s,.int .i64 f,.int .i64 g,.string nm]) hG hT rfl rNmF (fun ρ=>y5D rfl (yDF rfl rfl (y5D rfl rfl)));exact k.mono fun e w' ⟨⟨x,h1,h2⟩,hb⟩=>⟨⟨x,h1,fun _=>h2⟩,hb⟩
def nmQ:List (List UInt8):=[traL,indL,preL,posL,catL,isrL,flaL]
def eqQ:List (List UInt8)→Nat→Nat→List BinF
 | [],_,_=>[]
 | l::r,j,m=>(.eql,.sym 0,lS l,lB (Nat.beq j m))::eqQ r (j+1) m
def tQ(m:Nat)(b:List BinF)(s:List SliF)(c:List SymF):Told:={ b:=b++eqQ nmQ 0 m,s:=s,l:=[(1,.sym 2)],c:=c }
def inxL:List UInt8:=[48,48,32]++momL
def bQ(g:Bool):List BinF:=[(.geq,.sym 2,lI 4,lB g)]
def sQ:List SliF:=[(.sym 1,none,some (lI 3),.sym 3),(.sym 1,some (lI 3),none,.sym 4)]
def cQ(p r:Bool):List SymF:=[(157,[.a (.sym 3),.a (lS [48,48,32])],one1 (lB p)),(154,[.a (.sym 4)],one1 (lB r))]
def lkQ(f:List UInt8)(r:Bool):List SymF:=[(157,[.a (.sym 1),.a (lS f)],one1 (lB r))]
def wkQ(r:Bool):List SymF:=[(251,[.a (.sym 1)],one1 (lB r))]
noncomputable abbrev runQ(T:Told):Option V2:=symEv T 155 [.a (.sym 0),.a (.sym 1)]
theorem q0(p r:Bool):runQ (tQ 0 (bQ true) sQ (cQ p r))=some (one1 (lB (p&&r))):=by cases p<;>cases r<;>kernel_rfl
theorem q9:runQ (tQ 0 (bQ false) [] [])=some (one1 (lB false)):=by kernel_rfl
theorem q1(r:Bool):runQ (tQ 1 [] [] (lkQ inxL r))=some (one1 (lB r)):=by cases r<;>kernel_rfl
theorem q2(r:Bool):runQ (tQ 2 [] [] (lkQ momL r))=some (one1 (lB r)):=by cases r<;>kernel_rfl
theorem q3(r:Bool):runQ (tQ 3 [] [] (lkQ momL r))=some (one1 (lB r)):=by cases r<;>kernel_rfl
theorem q4(r:Bool):runQ (tQ 4 [] [] (wkQ r))=some (one1 (lB r)):=by cases r<;>kernel_rfl
theorem q5(r:Bool):runQ (tQ 5 [] [] (wkQ r))=some (one1 (lB r)):=by cases r<;>kernel_rfl
theorem q6(r:Bool):runQ (tQ 6 [] [] (wkQ r))=some (one1 (lB r)):=by cases r<;>kernel_rfl
theorem q7:runQ (tQ 7 [] [] [])=some (one1 (lB false)):=by kernel_rfl
def y8D(w rest:List UInt8):Bool:=if w=traL then y4g rest else if w=indL then yEv rest else if w=preL∨w=posL then zU rest momL else if w=catL∨w=isrL∨w=flaL then y0A rest else false
noncomputable abbrev qI(W S:ByteArray):Sym:=sgL [.string W,.string S,.int .i64 S.size,.string (S.extract 0 3),.string (S.extract 3 S.size)] ⟨zQ _,zQ _,zR _ _,zQ _,zQ _,trivial⟩
theorem yFS(W S:ByteArray)(m:Nat):letI:=qI W S;∀(l:List (List UInt8)) (j:Nat),(∀i x,l[i]?=some x→(bl W==x)=Nat.beq (j+i) m)→y1N (eqQ l j m)
 | [],_,_=>trivial
 | x::l,j,h=>
  letI:=qI W S
  ⟨y2s (s:=W) (t:=⟨⟨x⟩⟩) (fun _=>rfl) (fun _=>rfl) (h 0 x rfl),yFS W S m l (j+1) fun i y hy=>by rw[h (i+1) y (by simpa using hy)];congr 1;omega⟩
theorem nmq_at{l:List UInt8}{m:Nat}(x:List UInt8)(hx:nmQ[m]?=some x)(hl:l=x):∀i y,nmQ[i]?=some y→(l==y)=Nat.beq (0+i) m:=by
 subst hl;intro i y hy;have hm:m<7:=(List.getElem?_eq_some_iff.1 hx).1;have hi:i<7:=(List.getElem?_eq_some_iff.1 hy).1;have key:∀i j:Fin 7,(nmQ[j.val]?==nmQ[i.val]?)=Nat.beq (0+i.val) j.val:=by decide
 have:=key ⟨i,hi⟩ ⟨m,hm⟩;simp only[hx,hy]at this;rw[←this]
 rfl
theorem nmq_no{l:List UInt8}(h:∀x∈nmQ,l≠x):∀i y,nmQ[i]?=some y→(l==y)=Nat.beq (0+i) 7:=by
 intro i y hy;have hi:i<7:=(List.getElem?_eq_some_iff.1 hy).1;have h1:(l==y)=false:=by rw[Y2];exact h y (List.mem_of_getElem? hy)
 have h2:Nat.beq (0+i) 7=false:=by
  cases hb:Nat.beq (0+i) 7 with
  | false=>rfl
  | true=>have:=Nat.eq_of_beq_eq_true hb;omega
 rw[h1,h2]
theorem yBx(W S:ByteArray)(w:World)(hG:GW w)(hs:S.size≤1000000):Calls prog 155 #[.string W,.string S] w fun e w'=>e=.returned (.bool (y8D (bl W) (bl S)))∧Below w.heap.size w w':=by
 have hL:letI:=qI W S;AllP LenOk [((1:Nat),At.sym 2)]:=letI:=qI W S;⟨⟨S,rfl,fun _=>rfl⟩,trivial⟩;have go:∀(m:Nat) (x:List UInt8) (b:List BinF) (s:List SliF) (c:List SymF) (r:Bool),nmQ[m]?=some x→bl W=x→(letI:=qI W S;y1N b)→(letI:=qI W S;AllP y43 s)→(letI:=qI W S;AllP (COk w) c)→runQ (tQ m b s c)=some (one1 (lB r)) →
  Calls prog 155 #[.string W,.string S] w fun e w'=>e=.returned (.bool r)∧Below w.heap.size w w':=fun m x b s c r hx hl hb H5 hc hr=>
  letI:=qI W S
  y00 (vals:=[.string W,.string S]) hG (T:=tQ m b s c) ⟨y4Y hb (yFS W S m nmQ 0 (nmq_at x hx hl)),trivial,H5,hL,hc,trivial,trivial⟩ rfl hr (fun _=>rfl)
 have lk:∀(f:List UInt8),f.length≤1000→(letI:=qI W S;AllP (COk w) (lkQ f (zU (bl S) f))):=fun f hf=>
  letI:=qI W S
  ⟨⟨[.string S,.string ⟨⟨f⟩⟩],_,fun _=>rfl,fun _=>rfl,fun w' _=>y1t S ⟨⟨f⟩⟩ w' hs (by show f.length≤_;omega)⟩,trivial⟩
 have wk:(letI:=qI W S;AllP (COk w) (wkQ (y0A (bl S)))):=
  letI:=qI W S
  ⟨⟨[.string S],_,fun _=>rfl,fun _=>rfl,fun w' _=>yBs S w' hs⟩,trivial⟩
 unfold y8D;by_cases h0:bl W=traL
 · rw[if_pos h0]
   by_cases hg:4≤S.size
   · have e1:bl (S.extract 0 3)=(bl S).take 3:=by show(S.extract 0 3).data.toList=_;rw[y2m S 0 3 (by omega) (by omega)];rfl
     have e2:bl (S.extract 3 S.size)=(bl S).drop 3:=by rw[y3X S 3 (by omega)]
     have e:y4g (bl S)=(zU (bl (S.extract 0 3)) [48,48,32]&&cpsL (bl (S.extract 3 S.size))):=by unfold y4g;rw[e1,e2,zJ,decide_eq_true hg,Bool.true_and]
     rw[e]
     letI:=qI W S
     exact go 0 traL (bQ true) sQ (cQ (zU (bl (S.extract 0 3)) [48,48,32]) (cpsL (bl (S.extract 3 S.size)))) _ rfl h0 ⟨y0X (a:=S.size) (c:=4) (k:=.i64) (fun _=>rfl) (fun _=>rfl) (by simp;omega),trivial⟩
      ⟨⟨S,0,3,fun _=>rfl,rfl,⟨.i64,fun _=>rfl⟩,by omega,by omega,fun _=>rfl⟩,⟨S,3,S.size,fun _=>rfl,⟨.i64,fun _=>rfl⟩,rfl,by omega,zA,fun _=>rfl⟩,trivial⟩
      ⟨⟨[.string (S.extract 0 3),.string ⟨⟨[48,48,32]⟩⟩],_,fun _=>rfl,fun _=>rfl,fun w' _=>y1t (S.extract 0 3) ⟨⟨[48,48,32]⟩⟩ w' (by rw[zG];omega) (by decide)⟩,⟨[.string (S.extract 3 S.size)],_,fun _=>rfl,fun _=>rfl,fun w' _=>y89 (S.extract 3 S.size) w' (by rw[zG];omega)⟩,trivial⟩ (q0 _ _)
   · have e:y4g (bl S)=false:=by unfold y4g;rw[zJ,decide_eq_false hg];rfl
     rw[e]
     letI:=qI W S
     exact go 0 traL (bQ false) [] [] _ rfl h0 ⟨y0X (a:=S.size) (c:=4) (k:=.i64) (fun _=>rfl) (fun _=>rfl) (by simp;omega),trivial⟩ trivial trivial q9
 · rw[if_neg h0]
   by_cases h1:bl W=indL
   · rw[if_pos h1]
     exact go 1 indL [] [] (lkQ inxL (zU (bl S) inxL)) _ rfl h1 trivial trivial (lk inxL (by decide)) (q1 _)
   · rw[if_neg h1]
     by_cases h2:bl W=preL
     · rw[if_pos (Or.inl h2)];exact go 2 preL [] [] (lkQ momL (zU (bl S) momL)) _ rfl h2 trivial trivial (lk momL (by decide)) (q2 _)
     · by_cases h3:bl W=posL
       · rw[if_pos (Or.inr h3)];exact go 3 posL [] [] (lkQ momL (zU (bl S) momL)) _ rfl h3 trivial trivial (lk momL (by decide)) (q3 _)
       · rw[if_neg (fun h=>h.elim h2 h3)]
         by_cases h4:bl W=catL
         · rw[if_pos (Or.inl h4)];exact go 4 catL [] [] (wkQ (y0A (bl S))) _ rfl h4 trivial trivial wk (q4 _)
         · by_cases h5:bl W=isrL
           · rw[if_pos (Or.inr (Or.inl h5))];exact go 5 isrL [] [] (wkQ (y0A (bl S))) _ rfl h5 trivial trivial wk (q5 _)
           · by_cases h6:bl W=flaL
             · rw[if_pos (Or.inr (Or.inr h6))];exact go 6 flaL [] [] (wkQ (y0A (bl S))) _ rfl h6 trivial trivial wk (q6 _)
             · rw[if_neg (by rintro(h|h|h)<;>contradiction)]
               letI:=qI W S
               refine y00 (vals:=[.string W,.string S]) hG (T:=tQ 7 [] [] []) ⟨yFS W S 7 nmQ 0 (nmq_no ?_),trivial,trivial,hL,trivial,trivial,trivial⟩ rfl q7 (fun _=>rfl);intro x hx;simp only[nmQ,List.mem_cons,List.not_mem_nil,or_false]at hx;rcases hx with rfl|rfl|rfl|rfl|rfl|rfl|rfl<;>assumption
end Go.Proofs.YtgjchmcpondogaaGreatDoor
