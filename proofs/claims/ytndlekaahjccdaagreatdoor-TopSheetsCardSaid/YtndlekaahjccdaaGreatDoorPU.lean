/- PU -/
import Derived.Test.YtndlekaahjccdaaGreatDoorPT
set_option linter.all false
set_option maxRecDepth 100000
set_option maxHeartbeats 40000000
namespace Go.Proofs.YtndlekaahjccdaaGreatDoor
section
open Go Go.Rf Go.RowKit Go.Proofs.Tryz
def txM(k:Nat)(b:ByteArray):List Pc ⊕ Nat:=if k=4 then cueM b else if k=5 then srtM b else if k=6 then ssaM b else lrcM b
theorem yFk(b:ByteArray)(w:World)(hG:GW w)(hs:b.size<=1000000):Calls prog 109 #[.int .i64 4,.string b] w (ParsP (cueM b) w):=by
 obtain⟨R,hR⟩:∃R,R=cueM b:=⟨_,rfl⟩;rw[<-hR];obtain⟨W,hW⟩:∃W,W=w.alloc (.cells #[.int .i64 0,.int .i64 0] 40):=⟨_,rfl⟩;have H8:Below w.heap.size w W:=by rw[hW];exact bal z8 _
 have H9:W.heap.size=w.heap.size+1:=by rw[hW,Y4]
 have lf:=Live.fresh w #[.int .i64 0,.int .i64 0] 40
 rw[<-hW]at lf;have m0:=lf 0 _ rfl;have m1:=lf 1 _ rfl;have kw:Calls prog 156 #[.string b] W (ParsP R W):=by rw[hR];exact yD6 b W (hG.bel H8) hs
 have KW:=z7 kw;have H6:=z7 H8;have M0:=z7 m0;have M1:=z7 m1;have Ha:=z7 H9;clear kw H8 m0 m1 H9;clear hR lf
 go_enter func109,ntmps109
 go_wp2_with fail
 rw[<-hW];clear hW
 go_wp2_with (go_at_call 156;refine(KW.out).mono ?_;rintro e w1 ⟨H5,h⟩;obtain⟨q0,q0'⟩:=M0.out.keep H5;obtain⟨q1,q1'⟩:=M1.out.keep H5;rcases h with⟨a,h3,rfl⟩|⟨l,v,h3,rfl,H7⟩)
 . skip
   refine bodyPost_ret (v:=.tuple #[.slice none 0 0,.agg #[.int .i64 1,.int .i64 a]]) (by simp[results,results109,go_sem,q0,q1,q0',q1']) rfl ?_;exact⟨zh (H6.out.trans (H5.mono H6.out.size)) _ zA,.inl ⟨a,h3,rfl⟩⟩
 . skip
   refine bodyPost_ret (v:=.tuple #[v,.agg #[.int .i64 0,.int .i64 0]]) (by simp[results,results109,go_sem,q0,q1,q0',q1']) rfl ?_;exact⟨zh (H6.out.trans (H5.mono H6.out.size)) _ zA,.inr ⟨l,v,h3,rfl,y0r (by rw[<-Ha.out];exact H7)⟩⟩
theorem yFj(b:ByteArray)(w:World)(hG:GW w)(hs:b.size<=1000000):Calls prog 109 #[.int .i64 5,.string b] w (ParsP (srtM b) w):=by
 obtain⟨R,hR⟩:∃R,R=srtM b:=⟨_,rfl⟩;rw[<-hR];obtain⟨W,hW⟩:∃W,W=w.alloc (.cells #[.int .i64 0,.int .i64 0] 40):=⟨_,rfl⟩;have H8:Below w.heap.size w W:=by rw[hW];exact bal z8 _
 have H9:W.heap.size=w.heap.size+1:=by rw[hW,Y4]
 have lf:=Live.fresh w #[.int .i64 0,.int .i64 0] 40
 rw[<-hW]at lf;have m0:=lf 0 _ rfl;have m1:=lf 1 _ rfl;have kw:Calls prog 158 #[.string b] W (ParsP R W):=by rw[hR];exact yCH b W (hG.bel H8) hs
 have KW:=z7 kw;have H6:=z7 H8;have M0:=z7 m0;have M1:=z7 m1;have Ha:=z7 H9;clear kw H8 m0 m1 H9;clear hR lf
 go_enter func109,ntmps109
 go_wp2_with fail
 rw[<-hW];clear hW
 go_wp2_with (go_at_call 158;refine(KW.out).mono ?_;rintro e w1 ⟨H5,h⟩;obtain⟨q0,q0'⟩:=M0.out.keep H5;obtain⟨q1,q1'⟩:=M1.out.keep H5;rcases h with⟨a,h3,rfl⟩|⟨l,v,h3,rfl,H7⟩)
 . skip
   refine bodyPost_ret (v:=.tuple #[.slice none 0 0,.agg #[.int .i64 1,.int .i64 a]]) (by simp[results,results109,go_sem,q0,q1,q0',q1']) rfl ?_;exact⟨zh (H6.out.trans (H5.mono H6.out.size)) _ zA,.inl ⟨a,h3,rfl⟩⟩
 . skip
   refine bodyPost_ret (v:=.tuple #[v,.agg #[.int .i64 0,.int .i64 0]]) (by simp[results,results109,go_sem,q0,q1,q0',q1']) rfl ?_;exact⟨zh (H6.out.trans (H5.mono H6.out.size)) _ zA,.inr ⟨l,v,h3,rfl,y0r (by rw[<-Ha.out];exact H7)⟩⟩
theorem yFi(b:ByteArray)(w:World)(hG:GW w)(hs:b.size<=1000000):Calls prog 109 #[.int .i64 6,.string b] w (ParsP (ssaM b) w):=by
 obtain⟨R,hR⟩:∃R,R=ssaM b:=⟨_,rfl⟩;rw[<-hR];obtain⟨W,hW⟩:∃W,W=w.alloc (.cells #[.int .i64 0,.int .i64 0] 40):=⟨_,rfl⟩;have H8:Below w.heap.size w W:=by rw[hW];exact bal z8 _
 have H9:W.heap.size=w.heap.size+1:=by rw[hW,Y4]
 have lf:=Live.fresh w #[.int .i64 0,.int .i64 0] 40
 rw[<-hW]at lf;have m0:=lf 0 _ rfl;have m1:=lf 1 _ rfl;have kw:Calls prog 159 #[.string b] W (ParsP R W):=by rw[hR];exact yDL b W (hG.bel H8) hs
 have KW:=z7 kw;have H6:=z7 H8;have M0:=z7 m0;have M1:=z7 m1;have Ha:=z7 H9;clear kw H8 m0 m1 H9;clear hR lf
 go_enter func109,ntmps109
 go_wp2_with fail
 rw[<-hW];clear hW
 go_wp2_with (go_at_call 159;refine(KW.out).mono ?_;rintro e w1 ⟨H5,h⟩;obtain⟨q0,q0'⟩:=M0.out.keep H5;obtain⟨q1,q1'⟩:=M1.out.keep H5;rcases h with⟨a,h3,rfl⟩|⟨l,v,h3,rfl,H7⟩)
 . skip
   refine bodyPost_ret (v:=.tuple #[.slice none 0 0,.agg #[.int .i64 1,.int .i64 a]]) (by simp[results,results109,go_sem,q0,q1,q0',q1']) rfl ?_;exact⟨zh (H6.out.trans (H5.mono H6.out.size)) _ zA,.inl ⟨a,h3,rfl⟩⟩
 . skip
   refine bodyPost_ret (v:=.tuple #[v,.agg #[.int .i64 0,.int .i64 0]]) (by simp[results,results109,go_sem,q0,q1,q0',q1']) rfl ?_;exact⟨zh (H6.out.trans (H5.mono H6.out.size)) _ zA,.inr ⟨l,v,h3,rfl,y0r (by rw[<-Ha.out];exact H7)⟩⟩
theorem yFh(b:ByteArray)(w:World)(hG:GW w)(hs:b.size<=1000000):Calls prog 109 #[.int .i64 7,.string b] w (ParsP (lrcM b) w):=by
 obtain⟨R,hR⟩:∃R,R=lrcM b:=⟨_,rfl⟩;rw[<-hR];obtain⟨W,hW⟩:∃W,W=w.alloc (.cells #[.int .i64 0,.int .i64 0] 40):=⟨_,rfl⟩;have H8:Below w.heap.size w W:=by rw[hW];exact bal z8 _
 have H9:W.heap.size=w.heap.size+1:=by rw[hW,Y4]
 have lf:=Live.fresh w #[.int .i64 0,.int .i64 0] 40
 rw[<-hW]at lf;have m0:=lf 0 _ rfl;have m1:=lf 1 _ rfl;have kw:Calls prog 161 #[.string b] W (ParsP R W):=by rw[hR];exact yCk b W (hG.bel H8) hs
 have KW:=z7 kw;have H6:=z7 H8;have M0:=z7 m0;have M1:=z7 m1;have Ha:=z7 H9;clear kw H8 m0 m1 H9;clear hR lf
 go_enter func109,ntmps109
 go_wp2_with fail
 rw[<-hW];clear hW
 go_wp2_with (go_at_call 161;refine(KW.out).mono ?_;rintro e w1 ⟨H5,h⟩;obtain⟨q0,q0'⟩:=M0.out.keep H5;obtain⟨q1,q1'⟩:=M1.out.keep H5;rcases h with⟨a,h3,rfl⟩|⟨l,v,h3,rfl,H7⟩)
 . skip
   refine bodyPost_ret (v:=.tuple #[.slice none 0 0,.agg #[.int .i64 1,.int .i64 a]]) (by simp[results,results109,go_sem,q0,q1,q0',q1']) rfl ?_;exact⟨zh (H6.out.trans (H5.mono H6.out.size)) _ zA,.inl ⟨a,h3,rfl⟩⟩
 . skip
   refine bodyPost_ret (v:=.tuple #[v,.agg #[.int .i64 0,.int .i64 0]]) (by simp[results,results109,go_sem,q0,q1,q0',q1']) rfl ?_;exact⟨zh (H6.out.trans (H5.mono H6.out.size)) _ zA,.inr ⟨l,v,h3,rfl,y0r (by rw[<-Ha.out];exact H7)⟩⟩
theorem y2p(k:Nat)(h1:4<=k)(h2:k<8)(b:ByteArray)(w:World)(hG:GW w)(hs:b.size<=1000000):Calls prog 109 #[.int .i64 k,.string b] w (ParsP (txM k b) w):=by
 rcases(by omega:k=4\/k=5\/k=6\/k=7)with rfl|rfl|rfl|rfl
 . exact yFk b w hG hs
 . exact yFj b w hG hs
 . exact yFi b w hG hs
 . exact yFh b w hG hs
theorem y8Y:∀(l:List Pc) (k:Nat) (p:Pc),l[k]?=some p->∀j v,(pcV p)[j]?=some v->(pcC l)[k*3+j]?=some v
 | [],k,p,h,j,v,hj=>by simp at h
 | q::l,0,p,h,j,v,hj=>by
  cases h;rw[show pcC (q::l)=pcV q++pcC l from rfl,Nat.zero_mul,Nat.zero_add,List.getElem?_append_left (List.getElem?_eq_some_iff.1 hj).1,hj]
 | q::l,k+1,p,h,j,v,hj=>by
  have ih:=y8Y l k p (by simpa using h) j v hj;rw[show pcC (q::l)=pcV q++pcC l from rfl,List.getElem?_append_right (by simp[pcV];omega)];rw[<-ih];congr 1;simp[pcV];omega
theorem yEK{w:World}{l:List Pc}{n cap g o:Nat}(h:Row w (.slice (some ⟨g,o,none⟩) n cap) n (pcC l))(k:Nat)(p:Pc)(hk:l[k]?=some p):
 w.cell? ⟨g,o+k*3,none⟩=some (.bool p.m)/\w.cell? ⟨g,o+k*3+1,none⟩=some (.string p.n)/\w.cell? ⟨g,o+k*3+2,none⟩=some (.string p.t):=by
 have hx:∀(j:Nat) (v:Value),(pcV p)[j]?=some v->w.cell? ⟨g,o+(k*3+j),none⟩=some v:=fun j v hj=>by
  obtain⟨g',o',c',e,hc⟩:=y0X h _ _ (y8Y l k p hk j v hj);simp only[Value.slice.injEq,Option.some.injEq,Addr.mk.injEq]at e;obtain⟨⟨rfl,rfl,_⟩,_,_⟩:=e;exact hc
 exact⟨by simpa using hx 0 _ rfl,by have:=hx 1 _ rfl;rwa [<-Nat.add_assoc]at this,by have:=hx 2 _ rfl;rwa [<-Nat.add_assoc]at this⟩
theorem yBN(g cap:Nat)(xs:List ByteArray)(w:World)(H5:∀(j:Nat) x,xs[j]?=some x->w.cell? ⟨g,j,none⟩=some (.string x))(hg:g<w.heap.size)(hc:xs.length<=cap)(hn:xs.length<=1073741824)(H6:(xs.map bl).flatten.length<=140737488355328):
 Calls prog 111 #[.slice (some ⟨g,0,none⟩) xs.length cap] w fun e w'=>e=.returned (.string ⟨(xs.map bl).flatten.toArray⟩)/\Below w.heap.size w w':=by
 have k1:=Tryz.strings_Join g 0 cap xs ⟨#[]⟩ w (fun j x h=>by rw[Nat.zero_add];exact H5 j x h) hg (by omega) hc (by show(Lib.join (xs.map bl) []).length<=_;rw[y1H];exact H6);have k1:Calls prog 189 #[.slice (some ⟨g,0,none⟩) xs.length cap,.string ⟨#[]⟩] w fun e w'=>e=.returned (.string ⟨(xs.map bl).flatten.toArray⟩)/\Below w.heap.size w w':=by
  have e:Lib.join (xs.map fun x=>x.data.toList) (⟨#[]⟩:ByteArray).data.toList=(xs.map bl).flatten:=y1H _;rw[e]at k1;exact k1
 generalize (xs.map bl).flatten=r at *;have K1:=z7 k1;clear k1;clear H5
 go_enter func111,ntmps111
 go_wp2_with (go_at_call 189;refine(K1.out).mono ?_;rintro e w1 ⟨rfl,H7⟩)
 go_ret
 exact⟨rfl,H7⟩
theorem yDT(l:List Pc):((l.map Pc.t).map bl).flatten=whL l:=by
 unfold whL;rw[List.map_map,List.flatMap];rfl
def wcells(l:List Pc)(k:Nat):List Value:=scells ((l.take k).map Pc.t)++List.replicate (l.length-k) (.string ⟨#[]⟩)
theorem yC6(l:List Pc)(k:Nat)(p:Pc)(hp:l[k]?=some p):(wcells l k).set k (.string p.t)=wcells l (k+1):=by
 have hk:=(List.getElem?_eq_some_iff.1 hp).1;obtain⟨j,hj⟩:∃j,l.length-k=j+1:=⟨l.length-k-1,by omega⟩;unfold wcells;rw[hj,show l.length-(k+1)=j by omega,List.take_add_one,hp,List.set_append_right _ _ (by simp[scells];omega),List.replicate_succ];have:k-(scells ((l.take k).map Pc.t)).length=0:=by simp[scells];omega
 rw[this];simp[scells]
theorem y9T(l:List Pc)(k:Nat)(h:k<l.length):(wcells l k)[k]?=some (.string ⟨#[]⟩):=by
 have hs:(scells ((l.take k).map Pc.t)).length=k:=by simp[scells];omega
 unfold wcells;rw[List.getElem?_append_right (by omega),hs,Nat.sub_self,List.getElem?_replicate,if_pos (by omega)]
theorem yDS(v:Value)(l:List Pc)(w:World)(H5:Row w v l.length (pcC l))(hn:l.length<=1073741824)(H9:(whL l).length<=140737488355328):
 Calls prog 116 #[v] w fun e w'=>e=.returned (.string ⟨(whL l).toArray⟩)/\Below w.heap.size w w':=by
 obtain⟨i0,hi,Hj,Hi,Hh⟩:=info_parts infoStr;obtain⟨a,cap,rfl,H7⟩:=H5;have H5:Row w (.slice a l.length cap) l.length (pcC l):=⟨a,cap,rfl,H7⟩;clear H7;obtain⟨m,hm⟩:∃m,m=l.length:=⟨_,rfl⟩;have kj:∀(w1:World) (g:Nat),w1.ownsRow g 9 1 (.slice (some ⟨g,0,none⟩) m m) m (wcells l m)->Calls prog 111 #[.slice (some ⟨g,0,none⟩) m m] w1 fun e w'=>e=.returned (.string ⟨(whL l).toArray⟩)/\Below w1.heap.size w1 w':=by
  intro w1 g h;have k:=yBN g m (l.map Pc.t) w1 (fun j x hj=>by
   have Hl:=(List.getElem?_eq_some_iff.1 hj).1;rw[List.length_map]at Hl;rw[h.cellAt j (by omega)];have:wcells l m=scells (l.map Pc.t):=by unfold wcells;rw[hm,List.take_length,Nat.sub_self];simp
   rw[this];simp only[scells,List.getElem?_map,hj,Option.map_some]) (by
    rcases h.2 with⟨h',_⟩|⟨g',cap',cur,h',hb,hg,_⟩
    . simp at h'
    . simp only[Value.slice.injEq,Option.some.injEq,Addr.mk.injEq,and_true,true_and]at h'
      obtain⟨rfl,rfl⟩:=h';exact(Array.getElem?_eq_some_iff.1 hg).1) (by rw[List.length_map,hm];exact zA) (by rw[List.length_map];exact hn) (by rw[yDT];exact H9)
  rw[yDT,List.length_map,<-hm]at k;exact k
 have Hf:(madeCells (Value.string ⟨#[]⟩).cells (m*1)).toList=wcells l 0:=by
  rw[show(Value.string ⟨#[]⟩).cells=#[Value.string ⟨#[]⟩] from rfl,toList_madeCells_one];simp[wcells,scells,hm]
 rw[<-hm]at hn H5 ⊢;generalize (whL l)=R at *;have HM:=z7 hm;have Hd:=z7 H5;have KJ:=z7 kj;clear kj H5 hm H9
 go_enter func116,ntmps116
 go_wp2_with (refine wpList_make_full _ rfl _ _ 49 rfl w.heap.size 9 i0 (.string ⟨#[]⟩) 1 underlying49 hi Hj Hi .i64 .i64 (m:Int) (m:Int) m rfl rfl rfl rfl (by rw[Hh];omega) (by unfold maxLen;omega) zA ?_;intro W H6 H8)
 rw[Hf]at H6;have Ha:Below w.heap.size w W:=(z8).grown H8 zA (by intro k hk;cases hk);have Hn:w.heap.size<W.heap.size:=by
  rcases H6.2 with⟨h',_⟩|⟨g',cap',cur,h',hb,hg,_⟩
  . simp at h'
  . simp only[Value.slice.injEq,Option.some.injEq,Addr.mk.injEq,and_true,true_and]at h'
    obtain⟨rfl,rfl⟩:=h';exact(Array.getElem?_eq_some_iff.1 hg).1
 clear H8 Hf
 go_loopw [11] (fun iv wr=>∃k:Nat,iv=.int .i64 (k:Int)/\k<=m/\Hid (wr.ownsRow w.heap.size 9 1 (.slice (some ⟨w.heap.size,0,none⟩) m m) m (wcells l k))/\Hid (Below w.heap.size w wr)) (fun iv _=>m-(intOf iv).toNat)
 case atStart=>exact⟨0,rfl,zD,z7 H6,z7 Ha⟩
 case round=>
  obtain⟨k,rfl,hk,HO,HB⟩:=hrel;clear H6 Ha;by_cases Hg:k<m
  . obtain⟨p,hp⟩:=zM l k (by rw[<-HM.out];exact Hg)
    have hr:=Hd.out.keep HB.out;obtain⟨g,o,c',e,_⟩:=y0X hr _ _ (y8Y l k p hp 0 _ rfl);simp only[Value.slice.injEq]at e;obtain⟨rfl,_,rfl⟩:=e;obtain⟨q0,q1,q2⟩:=yEK hr k p hp;have Hb:=zK HO.out (bal (Below.refl wr.heap.size wr) (.cells #[.bool p.m,.string p.n,.string p.t] 173));have He:=HB.out.trans ((Below.refl w.heap.size wr).alloc HB.out.size (.cells #[.bool p.m,.string p.n,.string p.t] 173));have hc:∃x,(wr.alloc (.cells #[.bool p.m,.string p.n,.string p.t] 173)).cell? ⟨w.heap.size,k,none⟩=some (.string x):=by
     refine⟨⟨#[]⟩,?_⟩;rw[Hb.cellAt k (by omega)];exact y9T l k (by rw[<-HM.out];exact Hg)
    obtain⟨x,hc⟩:=hc;have hf:=Hb.frozenAt k;have Hc:=Hb.stored k (.string p.t);rw[yC6 l k p hp]at Hc;have HS:=z7 Hc;have He:=z7 He;clear Hc hr hp Hb;go_wp2;go_roundw
    case rel=>exact⟨k+1,by first|omega|go_num,by omega,z7 HS.out.1,z7 (He.out.setCell zA _)⟩
    case measure=>simp[intOf];omega
  . have Hk:k=m:=by omega
    subst Hk;have K:=z7 (KJ.out wr w.heap.size HO.out)
    go_wp2_with (go_at_call 111;refine(K.out).mono ?_;rintro e w1 ⟨rfl,Hm⟩)
    go_ret
    exact⟨rfl,HB.out.trans (Hm.mono HB.out.size)⟩
theorem yJv(v u:Value)(l m:List Pc)(w:World)(hl:Row w v l.length (pcC l))(hm:Row w u m.length (pcC m))(H5:l.length≠m.length)(h1:l.length<=1073741824)(h2:m.length<=1073741824):
 Calls prog 118 #[v,u] w fun e w'=>e=.returned (.bool false)/\Below w.heap.size w w':=by
 obtain⟨a,cap,rfl,-⟩:=hl;obtain⟨a',cap',rfl,-⟩:=hm
 go_enter func118,ntmps118
 go_wp2
 go_ret
 exact⟨rfl,z8⟩
theorem yIC(v u:Value)(l:List Pc)(w:World)(hl:Row w v l.length (pcC l))(hm:Row w u l.length (pcC l))(h1:l.length<=1073741824):
 Calls prog 118 #[v,u] w fun e w'=>e=.returned (.bool true)/\Below w.heap.size w w':=by
 have HL:=z7 hl;have HM:=z7 hm;obtain⟨a,cap,rfl,-⟩:=hl;obtain⟨a',cap',rfl,-⟩:=hm
 go_enter func118,ntmps118
 go_wp2_with fail
 go_loopw [13] (fun iv wr=>∃k:Nat,iv=.int .i64 (k:Int)/\k<=l.length/\Hid (Below w.heap.size w wr)) (fun iv _=>l.length-(intOf iv).toNat)
 case atStart=>exact⟨0,rfl,zD,z7 z8⟩
 case round=>
  obtain⟨k,rfl,hk,HB⟩:=hrel;by_cases H5:k<l.length
  . obtain⟨p,hp⟩:=zM l k H5
    have hr:=HL.out.keep HB.out;have hs:=HM.out.keep HB.out;obtain⟨g,o,c',e,-⟩:=y0X hr _ _ (y8Y l k p hp 0 _ rfl);simp only[Value.slice.injEq]at e;obtain⟨rfl,_,rfl⟩:=e;obtain⟨g',o',c',e,-⟩:=y0X hs _ _ (y8Y l k p hp 0 _ rfl);simp only[Value.slice.injEq]at e;obtain⟨rfl,_,rfl⟩:=e;obtain⟨q0,q1,q2⟩:=yEK hr k p hp;obtain⟨r0,r1,r2⟩:=yEK hs k p hp;clear hr hs hp
    go_wp2_with fail
    go_region
    go_wp2
    go_roundw
    case rel=>exact⟨k+1,by first|omega|go_num,by omega,z7 HB.out.drew⟩
    case measure=>simp[intOf];omega
  . go_wp2
    go_ret
    exact⟨rfl,HB.out⟩
abbrev treeA(k:Int)(v:Value)(z:Int):Array Value:=#[.int .i64 k,.int .i64 0,.int .u8 0,.int .u8 0,.slice none 0 0,.string ⟨#[]⟩,.int .u8 0,.int .u64 0,.int .u32 0,.int .u32 0,.string ⟨#[]⟩,.string ⟨#[]⟩,.string ⟨#[]⟩,.int .i64 0,.slice none 0 0,.string ⟨#[]⟩,.slice none 0 0,.slice none 0 0,.string ⟨#[]⟩,.int .i64 0,.slice none 0 0,.int .i64 0,.string ⟨#[]⟩,v,.int .i64 z]
theorem blkQ{w w':World}{j:Nat}{o:Obj}(h:w.heap[j]?=some o)(hb:Below w.heap.size w w'):w'.heap[j]?=some o:=(hb.block j (Array.getElem?_eq_some_iff.1 h).1).trans h
structure TS (w:World) (cs:Array Value) (v:Value) (l:List Pc) (wr:World):Prop where
 gg:Below w.heap.size w wr
 bx:wr.heap[w.heap.size]?=some (.cells cs 90 (0,0))
 rt:wr.heap[w.heap.size+1]?=some (.cells #[.int .i64 0,.int .i64 0] 40 (0,0))
 row:Row wr v l.length (pcC l)
 gw:GW wr
theorem TS.bel{w wr:World}{cs:Array Value}{v:Value}{l:List Pc}(h:TS w cs v l wr){w':World}(hb:Below wr.heap.size wr w'):TS w cs v l w':=⟨bt h.gg hb,blkQ h.bx hb,blkQ h.rt hb,h.row.keep hb,h.gw.bel hb⟩
theorem TS.cell{w wr:World}{cs:Array Value}{v:Value}{l:List Pc}(h:TS w cs v l wr)(i:Nat)(u:Value)(hi:cs[i]?=some u):wr.cell? ⟨w.heap.size,i,none⟩=some u:=(zL h.bx i u hi).1
theorem TS.ret{w wr:World}{cs:Array Value}{v:Value}{l:List Pc}(h:TS w cs v l wr):wr.cell? ⟨w.heap.size+1,0,none⟩=some (.int .i64 0)/\wr.frozen? ⟨w.heap.size+1,0,none⟩=false/\wr.cell? ⟨w.heap.size+1,1,none⟩=some (.int .i64 0)/\wr.frozen? ⟨w.heap.size+1,1,none⟩=false:=
 ⟨(zL h.rt 0 _ rfl).1,(zL h.rt 0 _ rfl).2,(zL h.rt 1 _ rfl).1,(zL h.rt 1 _ rfl).2⟩
theorem yAs(w:World)(cs:Array Value)(v:Value)(l:List Pc)(hr:Row w v l.length (pcC l))(hG:GW w):∃W,W=(w.alloc (.cells cs 90)).alloc (.cells #[.int .i64 0,.int .i64 0] 40)/\TS w cs v l W:=by
 have H5:(w.alloc (.cells cs 90)).heap.size=w.heap.size+1:=Y4 _ _;have hb:Below w.heap.size w ((w.alloc (.cells cs 90)).alloc (.cells #[.int .i64 0,.int .i64 0] 40)):=bal (bal z8 _) _;refine⟨_,rfl,hb,?_,?_,hr.keep hb,hG.bel hb⟩
 . exact(heap_alloc_old _ _ (by rw[H5];omega)).trans (heap_alloc_new _ _)
 . rw[<-H5];exact heap_alloc_new _ _
def bomB:ByteArray:=⟨#[239,187,191]⟩
def ptR(t:ByteArray)(same:Bool):Value:=
 if(scanL (bl t)).2.isNone=false then .tuple #[.string ⟨#[]⟩,.agg #[.int .i64 2,.int .i64 0]]
 else if same=false then .tuple #[.string ⟨#[]⟩,.agg #[.int .i64 5,.int .i64 0]]
 else .tuple #[.string (if Lib.hasPrefix (bl t) [239,187,191]=true then bomB++t else t),.agg #[.int .i64 0,.int .i64 0]]
theorem y8C{w wr:World}(h:Below w.heap.size w wr)(x y:Value):Below w.heap.size w ((wr.setCell ⟨w.heap.size+1,0,none⟩ x).setCell ⟨w.heap.size+1,1,none⟩ y):=(h.setCell (p:=⟨w.heap.size+1,0,none⟩) (Nat.le_succ _) x).setCell (p:=⟨w.heap.size+1,1,none⟩) (Nat.le_succ _) y
theorem yET(k:Nat)(Hf:4<=k)(He:k<8)(v:Value)(z:Int)(l l0:List Pc)(w:World)(hG:GW w)(Ha:Row w v l.length (pcC l))(t:ByteArray)(ht:bl t=whL l)(hs:t.size<=999990)(hl:l.length<=10000000)(Hd:l0.length<=10000000)(hx:txM k t=.inl l0)(hc:l=l0\/l.length≠l0.length):
 Calls prog 61 #[.agg (treeA k v z)] w fun e w'=>e=.returned (ptR t (decide (l.length=l0.length)))/\Below w.heap.size w w':=by
 obtain⟨W,hW,C⟩:=yAs w (treeA k v z) v l Ha hG;have kw:Calls prog 116 #[v] W fun e w'=>e=.returned (.string t)/\Below W.heap.size W w':=by
  have:=yDS v l W C.row (by omega) (by rw[<-ht,zJ];omega);rw[<-ht]at this;exact this
 have kv:∀wr,TS w (treeA k v z) v l wr->Calls prog 117 #[.string t] wr fun e w'=>e=.returned (.bool (scanL (bl t)).2.isNone)/\Below wr.heap.size wr w':=fun wr h=>y88 t wr h.gw.tw (by omega)
 have kp:∀wr,TS w (treeA k v z) v l wr->Calls prog 109 #[.int .i64 k,.string t] wr fun e w'=>Below wr.heap.size wr w'/\∃u,e=.returned (.tuple #[u,.agg #[.int .i64 0,.int .i64 0]])/\Row w' u l0.length (pcC l0):=fun wr h=>by
  refine(y2p k Hf He t wr h.gw (by omega)).mono fun e w' hp=>?_
  unfold ParsP at hp;rw[hx]at hp;obtain⟨hb,⟨a,h1,_⟩|⟨l',u,h1,h2,h3⟩⟩:=hp
  . cases h1
  . cases h1
    exact⟨hb,u,h2,y01 h3⟩
 have kb:=fun w=>y0a 0 0 w
 rw[show(!decide ((0:Int)=0))=false from rfl]at kb;have ke:∀wr u,Row wr v l.length (pcC l)->Row wr u l0.length (pcC l0)->Calls prog 118 #[u,v] wr fun e w'=>e=.returned (.bool (decide (l.length=l0.length)))/\Below wr.heap.size wr w':=fun wr u h1 h2=>by
  rcases hc with rfl|hc
  . rw[decide_eq_true rfl];exact yIC u v l wr h2 h1 (by omega)
  . rw[decide_eq_false hc];exact yJv u v l0 l wr h2 h1 (Ne.symm hc) (by omega) (by omega)
 have kh:∀w,Calls prog 82 #[.string t,.string ⟨#[239,187,191]⟩] w fun e w'=>e=.returned (.bool (Lib.hasPrefix (bl t) [239,187,191]))/\w'=w:=fun w=>Tryz.strings_HasPrefix t ⟨#[239,187,191]⟩ w
 have kj:∀X:World,Calls prog 111 #[.slice (some ⟨X.heap.size,0,none⟩) 2 2] (X.alloc (.cells #[.string ⟨#[239,187,191]⟩,.string t] 9)) fun e w'=>e=.returned (.string (bomB++t))/\Below X.heap.size X w':=fun X=>by
  have:=yBN X.heap.size 2 [⟨#[239,187,191]⟩,t] (X.alloc (.cells #[.string ⟨#[239,187,191]⟩,.string t] 9)) (fun j x hj=>by
   match j,hj with
   | 0,hj=>cases hj;exact World.cell?_alloc_new ..
   | 1,hj=>cases hj;exact World.cell?_alloc_new ..) (by rw[Y4];omega) zA (by simp) (by simp[zJ];omega)
  have e:(⟨(([⟨#[239,187,191]⟩,t].map bl).flatten).toArray⟩:ByteArray)=bomB++t:=by
   apply ByteArray.ext;simp[bomB,bl]
  rw[e]at this;exact this.mono fun e w' h=>⟨h.1,bt (bal z8 _) h.2⟩
 unfold ptR;generalize (scanL (bl t)).2.isNone=gv at *;generalize decide (l.length=l0.length)=ge at *;generalize Lib.hasPrefix (bl t) [239,187,191]=gh at *;have KW:=z7 kw;have KV:=z7 kv;have KP:=z7 kp;have KB:=z7 kb;have KE:=z7 ke;have KH:=z7 kh;have KJ:=z7 kj;clear kw kv kp kb ke kh kj hx hc ht Ha hG hl Hd hs;have q0:=C.cell 23 v rfl;cases gv with
 | false=>
  go_enter func61,ntmps61
  go_wp2_with fail
  rw[<-hW];clear hW
  go_wp2_with (first
   | (go_at_call 116;refine(KW.out).mono ?_;rintro e1 w1 ⟨rfl,H7⟩;have C1:=C.bel H7)
   | (go_at_call 117;refine(KV.out _ C1).mono ?_;rintro e2 w2 ⟨rfl,H6⟩;have C2:=C1.bel H6;obtain⟨r0,r1,r2,r3⟩:=C2.ret))
  refine bodyPost_ret (v:=.tuple #[.string ⟨#[]⟩,.agg #[.int .i64 2,.int .i64 0]]) (by simp[results,results61,go_sem,r0,r1,r2,r3]) rfl ?_;exact⟨rfl,y8C C2.gg _ _⟩
 | true=>
  cases ge with
  | false=>
   go_enter func61,ntmps61
   go_wp2_with fail
   rw[<-hW];clear hW
   go_wp2_with (first
    | (go_at_call 116;refine(KW.out).mono ?_;rintro e1 w1 ⟨rfl,H7⟩;have C1:=C.bel H7;have q1:=C1.cell 0 _ rfl)
    | (go_at_call 117;refine(KV.out _ C1).mono ?_;rintro e2 w2 ⟨rfl,H6⟩;have C2:=C1.bel H6;have q2:=C2.cell 0 _ rfl)
    | (go_at_call 109;refine(KP.out _ C2).mono ?_;rintro e3 w3 ⟨Hc,u,rfl,hu⟩;have C3:=(C2.bel Hc).bel (bal z8 (.cells #[.int .i64 0,.int .i64 0] 40));have H9:=hu.keep (bal z8 (.cells #[.int .i64 0,.int .i64 0] 40));have m0:=Live.fresh w3 #[.int .i64 0,.int .i64 0] 40 0 _ rfl;have m1:=Live.fresh w3 #[.int .i64 0,.int .i64 0] 40 1 _ rfl;obtain⟨m0,m0'⟩:=m0;obtain⟨m1,m1'⟩:=m1)
    | (go_at_call 11;refine(KB.out _).mono ?_;rintro e4 w4 ⟨rfl,H5⟩;have C4:=C3.bel H5;have q4:=C4.cell 23 _ rfl;have H8:=H9.keep H5)
    | (go_at_call 118;refine(KE.out _ _ C4.row H8).mono ?_;rintro e5 w5 ⟨rfl,Hb⟩;have C5:=C4.bel Hb;obtain⟨r0,r1,r2,r3⟩:=C5.ret))
   refine bodyPost_ret (v:=.tuple #[.string ⟨#[]⟩,.agg #[.int .i64 5,.int .i64 0]]) (by simp[results,results61,go_sem,r0,r1,r2,r3]) rfl ?_;exact⟨rfl,y8C C5.gg _ _⟩
  | true=>
   cases gh with
   | false=>
    go_enter func61,ntmps61
    go_wp2_with fail
    rw[<-hW];clear hW
    go_wp2_with (first
     | (go_at_call 116;refine(KW.out).mono ?_;rintro e1 w1 ⟨rfl,H7⟩;have C1:=C.bel H7;have q1:=C1.cell 0 _ rfl)
     | (go_at_call 117;refine(KV.out _ C1).mono ?_;rintro e2 w2 ⟨rfl,H6⟩;have C2:=C1.bel H6;have q2:=C2.cell 0 _ rfl)
     | (go_at_call 109;refine(KP.out _ C2).mono ?_;rintro e3 w3 ⟨Hc,u,rfl,hu⟩;have C3:=(C2.bel Hc).bel (bal z8 (.cells #[.int .i64 0,.int .i64 0] 40));have H9:=hu.keep (bal z8 (.cells #[.int .i64 0,.int .i64 0] 40));have m0:=Live.fresh w3 #[.int .i64 0,.int .i64 0] 40 0 _ rfl;have m1:=Live.fresh w3 #[.int .i64 0,.int .i64 0] 40 1 _ rfl;obtain⟨m0,m0'⟩:=m0;obtain⟨m1,m1'⟩:=m1)
     | (go_at_call 11;refine(KB.out _).mono ?_;rintro e4 w4 ⟨rfl,H5⟩;have C4:=C3.bel H5;have q4:=C4.cell 23 _ rfl;have H8:=H9.keep H5)
     | (go_at_call 118;refine(KE.out _ _ C4.row H8).mono ?_;rintro e5 w5 ⟨rfl,Hb⟩;have C5:=C4.bel Hb;obtain⟨r0,r1,r2,r3⟩:=C5.ret)
     | (go_at_call 82;refine(KH.out _).mono ?_;rintro e6 w6 ⟨rfl,rfl⟩))
    refine bodyPost_ret (v:=.tuple #[.string t,.agg #[.int .i64 0,.int .i64 0]]) (by simp[results,results61,go_sem,r0,r1,r2,r3]) rfl ?_;exact⟨rfl,y8C C5.gg _ _⟩
   | true=>
    go_enter func61,ntmps61
    go_wp2_with fail
    rw[<-hW];clear hW
    go_wp2_with (first
     | (go_at_call 116;refine(KW.out).mono ?_;rintro e1 w1 ⟨rfl,H7⟩;have C1:=C.bel H7;have q1:=C1.cell 0 _ rfl)
     | (go_at_call 117;refine(KV.out _ C1).mono ?_;rintro e2 w2 ⟨rfl,H6⟩;have C2:=C1.bel H6;have q2:=C2.cell 0 _ rfl)
     | (go_at_call 109;refine(KP.out _ C2).mono ?_;rintro e3 w3 ⟨Hc,u,rfl,hu⟩;have C3:=(C2.bel Hc).bel (bal z8 (.cells #[.int .i64 0,.int .i64 0] 40));have H9:=hu.keep (bal z8 (.cells #[.int .i64 0,.int .i64 0] 40));have m0:=Live.fresh w3 #[.int .i64 0,.int .i64 0] 40 0 _ rfl;have m1:=Live.fresh w3 #[.int .i64 0,.int .i64 0] 40 1 _ rfl;obtain⟨m0,m0'⟩:=m0;obtain⟨m1,m1'⟩:=m1)
     | (go_at_call 11;refine(KB.out _).mono ?_;rintro e4 w4 ⟨rfl,H5⟩;have C4:=C3.bel H5;have q4:=C4.cell 23 _ rfl;have H8:=H9.keep H5)
     | (go_at_call 118;refine(KE.out _ _ C4.row H8).mono ?_;rintro e5 w5 ⟨rfl,Hb⟩;have C5:=C4.bel Hb;obtain⟨r0,r1,r2,r3⟩:=C5.ret)
     | (go_at_call 82;refine(KH.out _).mono ?_;rintro e6 w6 ⟨rfl,rfl⟩)
     | (go_at_call 111;refine(KJ.out _).mono ?_;rintro e7 w7 ⟨rfl,Hg⟩;have C7:=C5.bel Hg;obtain⟨s0,s1,s2,s3⟩:=C7.ret))
    refine bodyPost_ret (v:=.tuple #[.string (bomB++t),.agg #[.int .i64 0,.int .i64 0]]) (by simp[results,results61,go_sem,s0,s1,s2,s3]) rfl ?_;exact⟨rfl,y8C C7.gg _ _⟩
theorem infoTr(k:Int)(v:Value)(z:Int):(Tryz.prog.info? 90).map (·.size)=some (treeA k v z).size:=by show _=some 25;kernel_rfl
theorem yHI(t:ByteArray)(b:Bool):∃s f,ptR t b=.tuple #[.string s,.agg #[.int .i64 f,.int .i64 0]]:=by
 unfold ptR;split
 . exact⟨_,_,rfl⟩
 . split<;>exact⟨_,_,rfl⟩
theorem yCD(k:Nat)(H8:4<=k)(H7:k<8)(v:Value)(z:Int)(l l0:List Pc)(w:World)(hG:GW w)(H5:Row w v l.length (pcC l))(t:ByteArray)(ht:bl t=whL l)(hs:t.size<=999990)(hl:l.length<=10000000)(H6:l0.length<=10000000)(hx:txM k t=.inl l0)(hc:l=l0\/l.length≠l0.length):
 Calls prog 40 #[.agg (treeA k v z)] w fun e w'=>e=.returned (ptR t (decide (l.length=l0.length)))/\Below w.heap.size w w':=by
 obtain⟨W,hW,C⟩:=yAs w (treeA k v z) v l H5 hG;have kp:=yET k H8 H7 v z l l0 W C.gw C.row t ht hs hl H6 hx hc;obtain⟨s,f,hf⟩:=yHI t (decide (l.length=l0.length));rw[hf]at kp ⊢;obtain⟨K,hK⟩:∃K:Int,K=(k:Int):=⟨_,rfl⟩;rw[<-hK]at kp hW C ⊢;have c0:=C.cell 0 (.int .i64 K) rfl;have KP:=z7 kp;have KW:=z7 hW;have KC:=z7 C;clear kp hf hx hc ht H5 hG hl H6 hs hW C;rcases(by omega:K=4\/K=5\/K=6\/K=7)with rfl|rfl|rfl|rfl
 all_goals (
  clear H8 H7 hK
  go_enter func40,ntmps40
  go_upto_region 1 with fail
  rw[<-KW.out]
  go_wp2_with (first
   | (refine wpList_load_row rfl 90 _ rfl w.heap.size rfl 90 _ (0,0) _ KC.out.bx underlying90 rfl (infoTr _ v z) ?_)
   | (go_at_call 61;refine(KP.out).mono ?_;rintro e1 w1 ⟨rfl,H9⟩;have C1:=KC.out.bel H9;obtain⟨r0,r1,r2,r3⟩:=C1.ret))
  refine bodyPost_ret (v:=.tuple #[.string s,.agg #[.int .i64 f,.int .i64 0]]) (by simp[results,results40,go_sem,r0,r1,r2,r3]) rfl ?_;exact⟨rfl,y8C C1.gg _ _⟩)
end
open Go.RowKit Go.Proofs.Tryz
section
variable {P:Program} {ops:Array Oper} {o:Oper} {a:Act} {K:Act->World->Prop} {Q:Exit->Act->World->Prop} {E:Prop}
theorem y2H(Hg:o.guard=none)(s x:Operand)(t e:TypeId)(ho:o.op=.call { callee:=.builtin .append,args:=#[s,x],argTypes:=#[t,t] })(ht:P.underlying t=some (.slice e))
 (z:Value) (size bytes:Nat) (hi:(P.info? e).map (fun i=>(i.zero,i.size,i.bytes))=some (some z,size,bytes)) (H8:z.cells.size=size) (Hc:0<size) (m:Nat)
 (X:World) (b B:Nat) (v:Value) (n:Nat) (cs:List Value) (hs:a.eval s=v) (H5:X.ownsRow B e size v n cs) (news:Array Value) (He:news.size=m*size) (h1:∀u∈news.toList,u.oneCell'=true)
 (Hd:∀(j:Nat) u,news[j]?=some u->X.cell? ⟨b,j,none⟩=some u)
 (hx:a.eval x=.slice (some ⟨b,0,none⟩) m m) (hm:m<=1000) (Hf:n<70368744177664) (Hh:(n+m)*bytes<=140737488355328) (hB:B<=X.heap.size)
 (h:∀v' w',w'.ownsRow B e size v' (n+m) (cs++news.toList)->Below B X w'->K (a.put o.dst v') w'):
 if Region.wanted o (yielded ops a.tmps)=true then Oper.wp P o a X K Q else E:=by
 have hw:Region.wanted o (yielded ops a.tmps)=true:=by simp[Region.wanted,Hg]
 rw[if_pos hw];obtain⟨i0,hi,Hb,Ha,H9⟩:=info_parts hi;have H7:∀j u,news.toList[j]?=some u->X.cell? ((⟨b,0,none⟩:Addr).add j)=some u:=by
  intro j u hj;have ea:(⟨b,0,none⟩:Addr).add j=⟨b,j,none⟩:=by
   by_cases h0:j=0
   . subst h0;rfl
   . simp[Addr.add,h0]
  rw[ea];exact Hd j u (by simpa using hj)
 obtain⟨v',w',H6,r1,r2,_⟩:=run_append_own (P:=P) X B t o.type e i0 z size bytes ht hi Hb Ha H9 H8 Hc v n cs H5 ⟨b,0,none⟩ m m news.toList (by simp[He]) H7 h1 (by unfold maxLen;omega) Hh hB;unfold Oper.wp;simp[execOp,ho,resolve,invoke,builtin,hs,hx,H6,Result.andThen];exact h v' w' r1 (y2L H5 r2 hB)
end
theorem infoLine22:(Tryz.prog.info? 58).map (fun i=>(i.zero,i.size,i.bytes))=some (some (.agg #[.string ⟨#[]⟩,.string ⟨#[]⟩,.int .i64 0]),3,40):=by kernel_rfl
theorem y2K(b:ByteArray)(w:World)(hs:b.size<=1000000):Calls prog 23 #[.string b] w fun e w'=>
 ∃v,e=.returned v/\w'.ownsRow w.heap.size 58 3 v (lnF (bl b) 0).length (lcells b (lnF (bl b) 0))/\Below w.heap.size w w':=by
 have HL:Hid ((bl b).length=b.size):=zJ b
 go_enter func23,ntmps23
 go_wp2
 go_loopw [3,4,5] (fun v av iv wr=>∃(p i:Nat) (A:List (Nat×Nat×Nat)),av=.int .i64 (p:Int)/\iv=.int .i64 (i:Int)/\p<=i/\i<=b.size/\Hid (nxE (bl b) p=nxE (bl b) i)/\Hid (lnF (bl b) 0=A++lnF (bl b) p)/\Hid (wr.ownsRow w.heap.size 58 3 v A.length (lcells b A))/\Hid (Below w.heap.size w wr)/\A.length<=p) (fun _ _ iv _=>b.size-(intOf iv).toNat)
 case atStart=>exact⟨0,0,[],rfl,rfl,zA,zD,z7 rfl,z7 rfl,z7 (World.ownsRow_nil _ _ _ _),z7 z8,zA⟩
 case round=>
  obtain⟨p,i,A,rfl,rfl,Hv,Hy,Hf,HA,HO,HB,Hr⟩:=hrel;by_cases Hm:i<b.size
  . obtain⟨x,hx⟩:=zM (bl b) i (by rw[HL.out];exact Hm)
    have X:∀h,b[i]'h=x:=zS b i x hx;have Hu:=x.toNat_lt;have HX:=z7 hx;clear hx;cases hc:eolB x with
    | false=>
     have hn:=yBP (bl b) i x HX.out hc;rw[<-Hf.out]at hn;have g1:¬(x.toNat:Int)=10:=y2c x 10 (by decide) (by intro h;subst h;cases hc);have g2:¬(x.toNat:Int)=13:=y2c x 13 (by decide) (by intro h;subst h;cases hc);have g3:((x.toNat:Int) != 10)=true:=by simpa using g1
     have g4:((x.toNat:Int) != 13)=true:=by simpa using g2
     have E2:=z7 hn;clear hn hc g1 g2;go_wp2;go_roundw
     case rel=>exact⟨p,i+1,A,rfl,by first|omega|go_num,by omega,by omega,E2,HA,HO,HB,Hr⟩
     case measure=>simp[intOf];omega
    | true=>
     have hE:nxE (bl b) p=i:=by rw[Hf.out,yBO (bl b) i x HX.out hc]
     have g:x=10\/x=13:=by simpa[eolB]using hc
     clear hc;have i1:((i:Int)+1).toNat=i+1:=by omega
     have i2:((i:Int)+2).toNat=i+2:=by omega
     rcases g with rfl|rfl
     . have hD:nxB (bl b) i=i+1:=by
        unfold nxB;rw[if_pos (by rw[HL.out];exact Hm),if_neg (by rw[HX.out];intro h;cases h.1)]
       have H5:=zq (bl b) p (by rw[HL.out];omega);rw[hE,hD]at H5;have He:Hid (lnF (bl b) 0=(A ++ [(p,i,i+1)])++lnF (bl b) (i+1)):=z7 (by rw[HA.out,H5,List.append_assoc];rfl);have H7:=y0O b A (p,i,i+1);obtain⟨a1,c1,rfl⟩:=zN HO.out;have H8:w.heap.size<=wr.heap.size:=HB.out.size;have Ha:A.length<70368744177664:=by omega
       have H9:(A.length+1)*40<=140737488355328:=by omega
       have hZ:=(bal (Below.refl wr.heap.size wr) (.cells #[.string (b.extract p i),.string (b.extract i (i+1)),.int .i64 (p:Int)] 58)).drew;have Hi:=z7 (zK HO.out hZ);have Hb:=hZ.size;have HZ:=z7 hZ;have Hd:=z7 H7;clear hZ H7 H5 hE hD HA Hf
       go_wp2_with fail
       have q6:IntKind.i64.wrap ((i:Int)+1)=(i:Int)+1:=wi64 _ (by omega) (by omega);have Hh:=z7 Hb;have Hk:=z7 Ha;have Hj:=z7 H9;clear Hb Ha H9;have q4:(i:Int)<=(i:Int)+1:=by omega
       have q5:(i:Int)+1<=(b.size:Int):=by omega
       have q7:((i:Int)+1).toNat=i+1:=by omega
       have q8:(0:Int)<=(i:Int)+1:=by omega
       clear i1 i2
       go_region_held3 (fun _=>True) (first|trivial|go_keep)
        (first
          | (refine y2H rfl _ _ 53 58 rfl underlying53 (.agg #[.string ⟨#[]⟩,.string ⟨#[]⟩,.int .i64 0]) 3 40 infoLine22 rfl (by decide) 1 _ wr.heap.size w.heap.size (.slice a1 A.length c1) A.length (lcells b A) rfl Hi.out #[.string (b.extract p i),.string (b.extract i (i+1)),.int .i64 (p:Int)] rfl (by simp[Value.oneCell']) (by intro j u hj;exact(World.cell?_alloc_new _ _ _ _).trans hj) rfl (by decide) Hk.out Hj.out (zE H8 Hh.out) ?_;intro v' w4 H6 Hg))
       all_goals
        go_wp2_with fail
        refine⟨⟨i+1,i+1,A ++ [(p,i,i+1)],by go_num,by go_num,zA,by omega,z7 rfl,He,z7 ?_,z7 (HB.out.trans ((HZ.out.mono H8).trans Hg)),by rw[zH,List.length_cons,List.length_nil];omega⟩,by simp[intOf];omega⟩;rw[Hd.out,zH,List.length_cons,List.length_nil];exact H6
     . by_cases h2:i+1<b.size
       . obtain⟨y,hy⟩:=zM (bl b) (i+1) (by rw[HL.out];exact h2)
         have Y:∀h,b[i+1]'h=y:=zS b (i+1) y hy;have Ht:=y.toNat_lt;have Hs:(i:Int)+1<(b.size:Int):=by omega
         by_cases Hc:y=10
         . subst Hc
           have hD:nxB (bl b) i=i+2:=by
            unfold nxB;rw[if_pos (by rw[HL.out];exact Hm),if_pos ⟨HX.out,hy⟩]
           clear hy;have H5:=zq (bl b) p (by rw[HL.out];omega);rw[hE,hD]at H5;have He:Hid (lnF (bl b) 0=(A ++ [(p,i,i+2)])++lnF (bl b) (i+2)):=z7 (by rw[HA.out,H5,List.append_assoc];rfl);have H7:=y0O b A (p,i,i+2);obtain⟨a1,c1,rfl⟩:=zN HO.out;have H8:w.heap.size<=wr.heap.size:=HB.out.size;have Ha:A.length<70368744177664:=by omega
           have H9:(A.length+1)*40<=140737488355328:=by omega
           have hZ:=(bal (Below.refl wr.heap.size wr) (.cells #[.string (b.extract p i),.string (b.extract i (i+2)),.int .i64 (p:Int)] 58)).drew;have Hi:=z7 (zK HO.out hZ);have Hb:=hZ.size;have HZ:=z7 hZ;have Hd:=z7 H7;clear hZ H7 H5 hE hD HA Hf
           go_wp2_with fail
           have q6:IntKind.i64.wrap ((i:Int)+2)=(i:Int)+2:=wi64 _ (by omega) (by omega);have Hh:=z7 Hb;have Hk:=z7 Ha;have Hj:=z7 H9;clear Hb Ha H9;have q4:(i:Int)<=(i:Int)+2:=by omega
           have q5:(i:Int)+2<=(b.size:Int):=by omega
           have q7:((i:Int)+2).toNat=i+2:=by omega
           have q8:(0:Int)<=(i:Int)+2:=by omega
           clear i1 i2
           go_region_held3 (fun _=>True) (first|trivial|go_keep)
            (first
              | (refine y2H rfl _ _ 53 58 rfl underlying53 (.agg #[.string ⟨#[]⟩,.string ⟨#[]⟩,.int .i64 0]) 3 40 infoLine22 rfl (by decide) 1 _ wr.heap.size w.heap.size (.slice a1 A.length c1) A.length (lcells b A) rfl Hi.out #[.string (b.extract p i),.string (b.extract i (i+2)),.int .i64 (p:Int)] rfl (by simp[Value.oneCell']) (by intro j u hj;exact(World.cell?_alloc_new _ _ _ _).trans hj) rfl (by decide) Hk.out Hj.out (zE H8 Hh.out) ?_;intro v' w4 H6 Hg))
           all_goals
            go_wp2_with fail
            refine⟨⟨i+2,i+2,A ++ [(p,i,i+2)],by go_num,by go_num,zA,by omega,z7 rfl,He,z7 ?_,z7 (HB.out.trans ((HZ.out.mono H8).trans Hg)),by rw[zH,List.length_cons,List.length_nil];omega⟩,by simp[intOf];omega⟩;rw[Hd.out,zH,List.length_cons,List.length_nil];exact H6
         . have hD:nxB (bl b) i=i+1:=by
            unfold nxB;rw[if_pos (by rw[HL.out];exact Hm),if_neg (by rw[hy];intro h;exact Hc (zF h.2))]
           have g3:((y.toNat:Int)==10)=false:=by rw[Y2];exact y2c y 10 (by decide) Hc
           clear hy Hc;have H5:=zq (bl b) p (by rw[HL.out];omega);rw[hE,hD]at H5;have He:Hid (lnF (bl b) 0=(A ++ [(p,i,i+1)])++lnF (bl b) (i+1)):=z7 (by rw[HA.out,H5,List.append_assoc];rfl);have H7:=y0O b A (p,i,i+1);obtain⟨a1,c1,rfl⟩:=zN HO.out;have H8:w.heap.size<=wr.heap.size:=HB.out.size;have Ha:A.length<70368744177664:=by omega
           have H9:(A.length+1)*40<=140737488355328:=by omega
           have hZ:=(bal (Below.refl wr.heap.size wr) (.cells #[.string (b.extract p i),.string (b.extract i (i+1)),.int .i64 (p:Int)] 58)).drew;have Hi:=z7 (zK HO.out hZ);have Hb:=hZ.size;have HZ:=z7 hZ;have Hd:=z7 H7;clear hZ H7 H5 hE hD HA Hf
           go_wp2_with fail
           have q6:IntKind.i64.wrap ((i:Int)+1)=(i:Int)+1:=wi64 _ (by omega) (by omega);have Hh:=z7 Hb;have Hk:=z7 Ha;have Hj:=z7 H9;clear Hb Ha H9;have q4:(i:Int)<=(i:Int)+1:=by omega
           have q5:(i:Int)+1<=(b.size:Int):=by omega
           have q7:((i:Int)+1).toNat=i+1:=by omega
           have q8:(0:Int)<=(i:Int)+1:=by omega
           clear i1 i2
           go_region_held3 (fun _=>True) (first|trivial|go_keep)
            (first
              | (refine y2H rfl _ _ 53 58 rfl underlying53 (.agg #[.string ⟨#[]⟩,.string ⟨#[]⟩,.int .i64 0]) 3 40 infoLine22 rfl (by decide) 1 _ wr.heap.size w.heap.size (.slice a1 A.length c1) A.length (lcells b A) rfl Hi.out #[.string (b.extract p i),.string (b.extract i (i+1)),.int .i64 (p:Int)] rfl (by simp[Value.oneCell']) (by intro j u hj;exact(World.cell?_alloc_new _ _ _ _).trans hj) rfl (by decide) Hk.out Hj.out (zE H8 Hh.out) ?_;intro v' w4 H6 Hg))
           all_goals
            go_wp2_with fail
            refine⟨⟨i+1,i+1,A ++ [(p,i,i+1)],by go_num,by go_num,zA,by omega,z7 rfl,He,z7 ?_,z7 (HB.out.trans ((HZ.out.mono H8).trans Hg)),by rw[zH,List.length_cons,List.length_nil];omega⟩,by simp[intOf];omega⟩;rw[Hd.out,zH,List.length_cons,List.length_nil];exact H6
       . have hD:nxB (bl b) i=i+1:=by
          unfold nxB;rw[if_pos (by rw[HL.out];exact Hm),if_neg (by rw[List.getElem?_eq_none (by rw[HL.out];omega:(bl b).length<=i+1)];intro h;cases h.2)]
         have Hs:¬(i:Int)+1<(b.size:Int):=by omega
         have H5:=zq (bl b) p (by rw[HL.out];omega);rw[hE,hD]at H5;have He:Hid (lnF (bl b) 0=(A ++ [(p,i,i+1)])++lnF (bl b) (i+1)):=z7 (by rw[HA.out,H5,List.append_assoc];rfl);have H7:=y0O b A (p,i,i+1);obtain⟨a1,c1,rfl⟩:=zN HO.out;have H8:w.heap.size<=wr.heap.size:=HB.out.size;have Ha:A.length<70368744177664:=by omega
         have H9:(A.length+1)*40<=140737488355328:=by omega
         have hZ:=(bal (Below.refl wr.heap.size wr) (.cells #[.string (b.extract p i),.string (b.extract i (i+1)),.int .i64 (p:Int)] 58)).drew;have Hi:=z7 (zK HO.out hZ);have Hb:=hZ.size;have HZ:=z7 hZ;have Hd:=z7 H7;clear hZ H7 H5 hE hD HA Hf
         go_wp2_with fail
         have q6:IntKind.i64.wrap ((i:Int)+1)=(i:Int)+1:=wi64 _ (by omega) (by omega);have Hh:=z7 Hb;have Hk:=z7 Ha;have Hj:=z7 H9;clear Hb Ha H9;have q4:(i:Int)<=(i:Int)+1:=by omega
         have q5:(i:Int)+1<=(b.size:Int):=by omega
         have q7:((i:Int)+1).toNat=i+1:=by omega
         have q8:(0:Int)<=(i:Int)+1:=by omega
         clear i1 i2
         go_region_held3 (fun _=>True) (first|trivial|go_keep)
          (first
            | (refine y2H rfl _ _ 53 58 rfl underlying53 (.agg #[.string ⟨#[]⟩,.string ⟨#[]⟩,.int .i64 0]) 3 40 infoLine22 rfl (by decide) 1 _ wr.heap.size w.heap.size (.slice a1 A.length c1) A.length (lcells b A) rfl Hi.out #[.string (b.extract p i),.string (b.extract i (i+1)),.int .i64 (p:Int)] rfl (by simp[Value.oneCell']) (by intro j u hj;exact(World.cell?_alloc_new _ _ _ _).trans hj) rfl (by decide) Hk.out Hj.out (zE H8 Hh.out) ?_;intro v' w4 H6 Hg))
         all_goals
          go_wp2_with fail
          refine⟨⟨i+1,i+1,A ++ [(p,i,i+1)],by go_num,by go_num,zA,by omega,z7 rfl,He,z7 ?_,z7 (HB.out.trans ((HZ.out.mono H8).trans Hg)),by rw[zH,List.length_cons,List.length_nil];omega⟩,by simp[intOf];omega⟩;rw[Hd.out,zH,List.length_cons,List.length_nil];exact H6
  . have Hp:i=b.size:=by omega
    subst Hp;by_cases hp:p<b.size
    . have hE:nxE (bl b) p=b.size:=by rw[Hf.out,<-HL.out,yJa]
      have hD:nxB (bl b) b.size=b.size:=by unfold nxB;rw[if_neg (by rw[HL.out];omega)]
      have H5:=zq (bl b) p (by rw[HL.out];exact hp);rw[hE,hD,y0u (bl b) b.size (by rw[HL.out];omega)]at H5;have H7:=y0O b A (p,b.size,b.size);simp only[show b.extract b.size b.size=ByteArray.empty from by simp]at H7;have Ho:lnF (bl b) 0=A ++ [(p,b.size,b.size)]:=by rw[HA.out,H5]
      obtain⟨a1,c1,rfl⟩:=zN HO.out;have H8:w.heap.size<=wr.heap.size:=HB.out.size;have Ha:A.length<70368744177664:=by omega
      have H9:(A.length+1)*40<=140737488355328:=by omega
      have Hd:=z7 H7;have He:=z7 Ho;clear H7 Ho;clear hE hD H5 HA Hf
      go_wp2_with (first
       | (at_builtin;refine zR rfl _ _ 53 58 rfl underlying53 (.agg #[.string ⟨#[]⟩,.string ⟨#[]⟩,.int .i64 0]) 3 40 infoLine22 rfl (by decide) wr w.heap.size (.slice a1 A.length c1) A.length (lcells b A) rfl HO.out #[.string (b.extract p b.size),.string ByteArray.empty,.int .i64 (p:Int)] rfl (by simp[Value.oneCell']) rfl Ha H9 H8 ?_;intro v' w6 Hl Hq Hw)
       | fail)
      go_ret
      exact⟨_,rfl,by rw[He.out,Hd.out,zH,List.length_cons,List.length_nil];exact Hl,HB.out.trans Hq⟩
    . have Hn:lnF (bl b) 0=A:=by rw[HA.out,y0u (bl b) p (by rw[HL.out];omega),List.append_nil]
      have HZ:=z7 Hn;clear Hn HA;go_wp2;go_ret
      exact⟨_,rfl,by rw[HZ.out];exact HO.out,HB.out⟩
