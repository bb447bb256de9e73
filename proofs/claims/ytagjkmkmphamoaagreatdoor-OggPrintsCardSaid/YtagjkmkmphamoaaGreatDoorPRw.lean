/- Rw -/
import Derived.Test.YtagjkmkmphamoaaGreatDoorPRv
set_option linter.all false
set_option maxHeartbeats 2000000
namespace Go.Proofs.YtagjkmkmphamoaaGreatDoor
open Go.RowKit
def idxF:List Int→Int→Nat→Int
 | [],_,_=>-1
 | a::l,p,k=>if p=a then k else idxF l p (k+1)
theorem idxF_bd(l:List Int)(p:Int)(k:Nat) : -1≤idxF l p k∧idxF l p k<k+l.length∧(0≤idxF l p k→(k:Int)≤idxF l p k):=by
 induction l generalizing k with
 | nil=>simp[idxF];omega
 | cons a l ih=>
  have:=ih (k+1);simp only[idxF,List.length_cons];split<;>omega
theorem kz2(v:Value)(l:List Int)(p:Int)(w:World)(hrow:Row w v l.length (icells l))(hl:l.length≤1073741824):
 Calls Tryz.prog 233 #[v,.int .i32 p] w fun e w'=>e=.returned (.int .i64 (idxF l p 0))∧w=w':=by
 obtain⟨av,cap,rfl,hc⟩:=hrow;obtain⟨R,hR⟩:∃R,R=idxF l p 0:=⟨_,rfl⟩;rw[←hR];obtain⟨n,hn⟩:∃n,n=l.length:=⟨_,rfl⟩;rw[←hn]at hl ⊢;have HR:=Lib.hid hR;have HN:=Lib.hid hn;have HC:=Lib.hid hc;clear hR hn hc
 go_enter Tryz.func233,Tryz.ntmps233
 go_wp2_with fail
 go_loop [8] (fun i=>∃k:Nat,k≤n∧i=.int .i64 (k:Int)∧Hid (R=idxF (l.drop k) p k)) (fun i=>n-(intOf i).toNat)
 case atStart=>exact⟨0,Nat.zero_le _,rfl,HR.out⟩
 case round=>
  obtain⟨k,hk,rfl,hRk⟩:=hrel;by_cases hlt:k<n
  · obtain⟨a,ha⟩:=jb6 l k (by rw[←HN.out];exact hlt)
    obtain⟨g,o,rfl,hcell⟩:=HC.out k _ (jx3 l k a ha);have e1:=hRk.out;rw[jd1 l k (List.getElem?_eq_some_iff.1 ha).1,(List.getElem?_eq_some_iff.1 ha).2,idxF]at e1;by_cases hpa:p=a
    · subst hpa
      rw[if_pos rfl]at e1;have E1:=Lib.hid e1;clear e1;clear hRk ha
      go_wp2_with fail
      go_ret
      exact⟨by rw[E1.out];rfl,rfl⟩
    · rw[if_neg hpa]at e1
      have hb:(p==a)=false:=by simpa using hpa
      have E1:=Lib.hid e1;clear e1;clear hRk ha hpa
      go_wp2_with fail
      go_round
      case rel=>exact⟨k+1,by omega,by go_num,E1.out⟩
      case measure=>simp[intOf];omega
  · have hkn:k=n:=by omega
    subst hkn;have e1:R = -1:=by rw[hRk.out,List.drop_of_length_le (by rw[HN.out];exact Nat.le_refl _)];rfl
    have E1:=Lib.hid e1;clear e1
    go_wp2_with fail
    go_ret
    exact⟨by rw[E1.out];rfl,rfl⟩
theorem wi64(n:Int)(h0 : -9223372036854775808≤n)(h1:n≤9223372036854775807):IntKind.i64.wrap n=n:=by rw[IntKind.wrap_i64];omega
theorem wi32(n:Int)(h0 : -2147483648≤n)(h1:n≤2147483647):IntKind.i32.wrap n=n:=by simp[IntKind.wrap,IntKind.bits,IntKind.signed];omega
def RP.code(r:RP)(p:Int):Int×Bool:=match r.sg with
 | some l=>(r.fr+idxF l p 0,decide (0≤idxF l p 0))
 | none=>(r.fr+(p-r.tq),decide (r.tq≤p∧p-r.tq<r.ct))
theorem vm5(a b t p:Int)(w:World)(hG:RP.Good ⟨a,b,t,none⟩)(hp0:0≤p)(hp1:p≤1114111):
 Calls Tryz.prog 212 #[.agg #[.int .i64 a,.int .i64 b,.int .i32 t,.slice none 0 0],.int .i32 p] w fun e w'=>e=.returned (.tuple #[.int .i64 (a+(p-t)),.bool (decide (t≤p∧p-t<b))])∧Below w.heap.size w w':=by
 obtain⟨g0,g1,g2,g3,g4,_⟩:=hG;simp only at g0 g1 g2 g3 g4;have hw1:IntKind.i32.wrap (p-t)=p-t:=wi32 _ (by omega) (by omega);have hw2:IntKind.i64.wrap (a+(p-t))=a+(p-t):=wi64 _ (by omega) (by omega);have hw3:IntKind.i64.wrap (p-t)=p-t:=wi64 _ (by omega) (by omega);have hgn:=fun c t (x:Grown (w.alloc (.cells c t))) i=>x.cell_new i
 by_cases h1:t≤p
 · have hd1:decide (t≤p)=true:=by simpa using h1
   have hd2:decide (p-t<b)=decide (t≤p∧p-t<b):=by rw[Bool.eq_iff_iff];simp;omega
   generalize decide (t≤p∧p-t<b)=q at *
   go_enter Tryz.func212,Tryz.ntmps212
   go_wp2_with fail
   refine wp_region_grown (by kernel_rfl) (by kernel_rfl) ?_
   repeat (first|go_big_quiet_step ((fail))|quiet_step ((fail)))
   refine wpQuiet_nil ?_;intro _ hw';obtain⟨xg,rfl⟩:=hw';have hbx:=xg.bel
   go_wp2_with fail
   go_ret2
   exact⟨rfl,bt (bal (Below.refl _ _) _) hbx⟩
 · have hd1:decide (t≤p)=false:=by simpa using h1
   have hd2:decide (t≤p∧p-t<b)=false:=by simp;omega
   rw[hd2];clear hd2
   go_enter Tryz.func212,Tryz.ntmps212
   go_wp2_with fail
   refine wp_region_grown (by kernel_rfl) (by kernel_rfl) ?_
   repeat (first|go_big_quiet_step ((fail))|quiet_step ((fail)))
   refine wpQuiet_nil ?_;intro _ hw';obtain⟨xg,rfl⟩:=hw';have hbx:=xg.bel
   go_wp2_with fail
   go_ret2
   exact⟨rfl,bt (bal (Below.refl _ _) _) hbx⟩
theorem vm4(a b t p:Int)(g o n cp:Nat)(l:List Int)(i:Int)(w:World)(hG:0≤a∧a+b≤1048576∧(n:Int)=b)(hn:n=l.length)(hi:idxF l p 0=i)(hrow:Row w (.slice (some ⟨g,o,none⟩) n cp) n (icells l)):
 Calls Tryz.prog 212 #[.agg #[.int .i64 a,.int .i64 b,.int .i32 t,.slice (some ⟨g,o,none⟩) n cp],.int .i32 p] w fun e w'=>e=.returned (.tuple #[.int .i64 (a+i),.bool (decide (0≤i))])∧Below w.heap.size w w':=by
 obtain⟨i0,i1,i2⟩:=idxF_bd l p 0;rw[hi,←hn]at i1;rw[hi]at i0 i2;obtain⟨g0,g2,g3⟩:=hG;have k1:∀X,Calls Tryz.prog 233 #[.slice (some ⟨g,o,none⟩) n cp,.int .i32 p] (w.alloc X) fun e w'=>e=.returned (.int .i64 i)∧w.alloc X=w':=fun X=>by
  have:=kz2 (.slice (some ⟨g,o,none⟩) n cp) l p (w.alloc X) (by rw[←hn];exact hrow.keep ((Below.refl _ _).alloc (Nat.le_refl _) X)) (by omega)
  rwa [hi]at this
 have hw1:IntKind.i64.wrap (a+i)=a+i:=wi64 _ (by omega) (by omega);have K1:=Lib.hid k1;clear k1;clear hrow hn hi
 go_enter Tryz.func212,Tryz.ntmps212
 go_wp2_with (go_at_call 233;refine(K1.out _).mono ?_;rintro e w1 ⟨rfl,rfl⟩)
 go_ret2
 refine⟨kk7 ?_ ?_,bal (Below.refl _ _) _⟩
 · first|with_reducible rfl|exact hw1
 · first|with_reducible rfl|simp
theorem xg6(r:RR)(p:Int)(w:World)(hok:r.Ok w)(hG:r.pl.Good)(hp0:0≤p)(hp1:p≤1114111):
 Calls Tryz.prog 212 #[.agg r.enc.toArray,.int .i32 p] w fun e w'=>e=.returned (.tuple #[.int .i64 (r.pl.code p).1,.bool (r.pl.code p).2])∧Below w.heap.size w w':=by
 obtain⟨a,b,t,ad,ln,cp,sg⟩:=r;cases sg with
 | none=>
  have hok':Value.slice ad ln cp=.slice none 0 0:=hok;simp only[Value.slice.injEq]at hok';obtain⟨rfl,rfl,rfl⟩:=hok';exact vm5 a b t p w hG hp0 hp1
 | some l=>
  obtain⟨g,o,cap,cur,he,hlc,hcm,hblk,hcells⟩:=hok;simp only[RR.sv,Value.slice.injEq]at he;obtain⟨rfl,rfl,rfl⟩:=he;obtain⟨g0,g1,g2,g3,g4,g5⟩:=hG;exact vm4 a b t p g o l.length cp l _ w ⟨g0,g2,g5 l rfl⟩ rfl rfl ⟨_,_,rfl,fun j x hj=>⟨g,o,rfl,by rw[cell_of_row _ _ _ _ _ _ hblk];exact hcells j x hj⟩⟩
def revM:List RP→Int→Int×Bool
 | [],_=>(0,false)
 | r::X,p=>if(r.code p).2=true then((r.code p).1,true)else revM X p
theorem qr0(v:Value)(X:List RR)(p:Int)(B:Nat)(w:World)(hX:OwnR w B v X)(hG:∀r∈X,r.pl.Good)(hO:∀r∈X,r.Ok w)(hl:X.length≤1000)(hp0:0≤p)(hp1:p≤1114111):
 Calls Tryz.prog 184 #[.agg #[v],.int .i32 p] w fun e w'=>e=.returned (.tuple #[.int .i64 (revM (X.map RR.pl) p).1,.bool (revM (X.map RR.pl) p).2])∧Below w.heap.size w w':=by
 obtain⟨R,hR⟩:∃R,R=revM (X.map RR.pl) p:=⟨_,rfl⟩;rw[←hR];obtain⟨av,cv,rfl⟩:=jb4 hX;obtain⟨n,hn⟩:∃n,n=X.length:=⟨_,rfl⟩;rw[←hn]at hl ⊢;have HR:=Lib.hid hR;have HX:=Lib.hid hX;have HG:=Lib.hid hG;have HN:=Lib.hid hn;have HO:=Lib.hid hO;clear hR hX hG hn hO
 go_enter Tryz.func184,Tryz.ntmps184
 go_wp2_with fail
 obtain⟨W,hW⟩:∃W,W=w.alloc (.cells #[.slice av n cv] 175):=⟨_,rfl⟩;rw[←hW];have hbW:Below w.heap.size w W:=by rw[hW];exact bal (Below.refl _ _) _
 clear hW;have HBW:=Lib.hid hbW;clear hbW
 go_loopw [13] (fun i wr=>∃(k:Nat),k≤n∧i=.int .i64 (k:Int)∧Hid (R=revM ((X.drop k).map RR.pl) p)∧Below W.heap.size W wr) (fun i _=>n-(intOf i).toNat)
 case atStart=>exact⟨0,Nat.zero_le _,rfl,HR.out,Below.refl _ _⟩
 case round=>
  obtain⟨k,hk,rfl,hRk,hbel⟩:=hrel;have hbo:Below w.heap.size w wr:=HBW.out.trans (hbel.mono HBW.out.size);by_cases hlt:k<n
  · obtain⟨r,hr⟩:=jb6 X k (by rw[←HN.out];exact hlt)
    obtain⟨g,cap,he,c0,c1,c2,c3⟩:=jq1 (jb2 HX.out hbo) k r hr;simp only[Value.slice.injEq]at he;obtain⟨rfl,_,rfl⟩:=he;have hGr:=HG.out r (List.mem_of_getElem? hr);have hOr:=(HO.out r (List.mem_of_getElem? hr)).keep hbo;have k1:=fun X=>xg6 r p (wr.alloc X) (hOr.keep ((Below.refl _ _).alloc (Nat.le_refl _) X)) hGr hp0 hp1
    have hd:=jd1 X k (List.getElem?_eq_some_iff.1 hr).1;rw[(List.getElem?_eq_some_iff.1 hr).2]at hd;have e1:=hRk.out;rw[hd,List.map_cons,revM]at e1;generalize hcd:r.pl.code p=q at *;obtain⟨q1,q2⟩:=q;simp only at e1 k1;obtain⟨rf,rc,rt,ra,rl,rp,rs⟩:=r;simp only[RR.sv,RR.enc]at *;clear hr hd hRk hGr hOr hcd;by_cases hq:q2=true
    · subst hq
      rw[if_pos rfl]at e1;have E1:=Lib.hid e1;have K1:=Lib.hid k1;clear e1 k1
      go_wp2_with (go_at_call 212;refine(K1.out _).mono ?_;rintro e w1 ⟨rfl,hb1⟩)
      go_ret2
      exact⟨by rw[E1.out];rfl,bt (bal hbo _) hb1⟩
    · rw[if_neg hq]at e1
      have hq':q2=false:=by simpa using hq
      subst hq';have E1:=Lib.hid e1;have K1:=Lib.hid k1;clear e1 k1;clear hq
      go_wp2_with (go_at_call 212;refine(K1.out _).mono ?_;rintro e w1 ⟨rfl,hb1⟩)
      go_roundw
      case rel=>exact⟨k+1,by omega,by go_num,E1.out,bt (bal hbel _) hb1⟩
      case measure=>simp[intOf];omega
  · have hkn:k=n:=by omega
    subst hkn;have e1:R=(0,false):=by rw[hRk.out,List.drop_of_length_le (by rw[HN.out];exact Nat.le_refl _)];rfl
    have E1:=Lib.hid e1;clear e1
    go_wp2_with fail
    go_ret2
    exact⟨by rw[E1.out];rfl,hbo⟩
theorem rowZero:(Value.agg #[.int .i64 0,.int .i64 0,.int .i32 0,.slice none 0 0]).cells.size=4:=rfl
set_option maxRecDepth 100000 in
theorem xg9(v:Value)(X:List RR)(B:Nat)(w:World)(hX:OwnR w B v X)(hne:X ≠ [])(hl:X.length≤1000):
 Calls Tryz.prog 207 #[v] w fun e w'=>∃v',e=.returned v'∧OwnR w' w.heap.size v' X∧Below w.heap.size w w':=by
 obtain⟨i0,hi,hz0,hz1,hz2⟩:=info_parts kn1;obtain⟨g,cap,rfl,_⟩:=jc9 hX (by intro e;exact hne (List.eq_nil_of_length_eq_zero e));have hc:=hX.cells (g:=g) rfl;have hlen:=jg1 X;have h1:∀u∈rcells X,u.oneCell'=true:=by
  intro u hu;obtain⟨r,hr,hm⟩:=List.mem_flatMap.1 hu;exact r.one u hm
 have hO:∀w':World,w'.ownsRow w.heap.size 235 4 (.slice (some ⟨w.heap.size,0,none⟩) 0 0) 0 []→True:=fun _ _=>trivial
 have hlit:(w.alloc (.cells #[] 235)).ownsRow w.heap.size 235 4 (.slice (some ⟨w.heap.size,0,none⟩) 0 0) 0 []:=
  World.ownsRow_lit (base:=w.heap.size) (e:=235) (size:=4) w #[] 0 (Nat.le_refl _) (by unfold maxLen;omega) rfl
 have hbA:Below w.heap.size w (w.alloc (.cells #[] 235)):=bal (Below.refl _ _) _;have hc':∀j u,(rcells X)[j]?=some u→(w.alloc (.cells #[] 235)).cell? ((⟨g,0,none⟩:Addr).add j)=some u:=fun j u hj=>by
  have:=hc j u hj;have ea:(⟨g,0,none⟩:Addr).add j=⟨g,j,none⟩:=by
   by_cases h0:j=0
   · subst h0;rfl
   · simp[Addr.add,h0]
  rw[ea]at this ⊢;exact kc hbA this
 obtain⟨n,hn⟩:∃n,n=X.length:=⟨_,rfl⟩;unfold OwnR;rw[←hn]at hl hlen ⊢;generalize rcells X=cs at *;have HC:=Lib.hid hc';have HLIT:=Lib.hid hlit;have H1:=Lib.hid h1;have HL:=Lib.hid hlen;have HN:=Lib.hid hn;clear hc' hlit h1 hlen hn;clear hX hc hO
 go_enter Tryz.func207,Tryz.ntmps207
 have hnil:=fun w=>Lib.run_eql_slice_nil (P:=Tryz.prog) w 173 235 (some ⟨g,0,none⟩) n cap 0 0 Tryz.underlying173
 go_wp2_with (at_builtin;(refine wpList_append_own _ rfl _ _ 173 rfl w.heap.size 235 i0 (.agg #[.int .i64 0,.int .i64 0,.int .i32 0,.slice none 0 0]) 4 48 Tryz.underlying173 hi hz0 hz1 hz2 rowZero (by decide) (.slice (some ⟨w.heap.size,0,none⟩) 0 0) 0 [] rfl HLIT.out ⟨g,0,none⟩ n cap cs rfl HL.out HC.out H1.out (by unfold maxLen;omega) (by omega) hbA.size ?_;intro v' w1 h2 h3 _))
 have hb:Below w.heap.size w w1:=hbA.grown h3 hbA.size (by intro k hk;simp[Value.ownBlock]at hk;omega);rw[Nat.zero_add,List.nil_append]at h2
 go_wp2_with fail
 go_ret
 exact⟨v',rfl,h2,hb⟩
def RP.part(r:RP)(a e:Int):RP:=match r.sg with
 | none=>⟨a,e-a,r.tq+(a-r.fr),none⟩
 | some l=>⟨a,e-a,0,some ((l.drop (a-r.fr).toNat).take (e-a).toNat)⟩
def PartPost(r:RP)(w:World)(e:Ending)(w':World):Prop:=∃q:RR,e=.returned (.agg q.enc.toArray)∧q.pl=r∧q.Ok w'∧Below w.heap.size w w'
theorem vw0(a b t x y:Int)(w:World)(hG:RP.Good ⟨a,b,t,none⟩)(h0:a≤x)(h1:x<y)(h2:y≤a+b):
 Calls Tryz.prog 208 #[.agg #[.int .i64 a,.int .i64 b,.int .i32 t,.slice none 0 0],.int .i64 x,.int .i64 y] w (PartPost ⟨x,y-x,t+(x-a),none⟩ w):=by
 obtain⟨g0,g1,g2,g3,g4,_⟩:=hG;simp only at g0 g1 g2 g3 g4;have k1:=fun w=>kk3 ⟨a,b,t,none,0,0,none⟩ x w rfl h0 (by show x<a+b;omega) g0 (by show a+b≤1073741824;omega) g3 (by show t+b≤1073741824;omega) (by intro l hl;cases hl)
 simp only[RR.enc,RR.sv,RR.sign]at k1;have hw1:IntKind.i64.wrap (y-x)=y-x:=wi64 _ (by omega) (by omega);have hfin:∀e w',(∃q:RR,e=.returned (.agg q.enc.toArray)∧q.pl=⟨x,y-x,t+(x-a),none⟩∧q.Ok w'∧Below w.heap.size w w')→PartPost ⟨x,y-x,t+(x-a),none⟩ w e w':=fun _ _ h=>h
 obtain⟨W,hW⟩:∃W,W=((w.alloc (.cells #[.int .i64 a,.int .i64 b,.int .i32 t,.slice none 0 0] 235)).alloc (.cells #[.int .i64 0,.int .i64 0,.int .i32 0,.slice none 0 0] 235)).alloc (.cells #[.int .i64 x,.int .i64 (y-x),.int .i32 0,.slice none 0 0] 235):=⟨_,rfl⟩;have s1:(w.alloc (.cells #[.int .i64 a,.int .i64 b,.int .i32 t,.slice none 0 0] 235)).heap.size=w.heap.size+1:=World.size_alloc _ _;have s2:((w.alloc (.cells #[.int .i64 a,.int .i64 b,.int .i32 t,.slice none 0 0] 235)).alloc (.cells #[.int .i64 0,.int .i64 0,.int .i32 0,.slice none 0 0] 235)).heap.size=w.heap.size+2:=by rw[World.size_alloc,s1]
 have m0:Live W (w.heap.size+1) 0 (.int .i64 0):=by rw[hW,←s1];exact(Live.fresh _ _ _ 0 _ rfl).alloc _
 have m1:Live W (w.heap.size+1) 1 (.int .i64 0):=by rw[hW,←s1];exact(Live.fresh _ _ _ 1 _ rfl).alloc _
 have m2:Live W (w.heap.size+1) 2 (.int .i32 0):=by rw[hW,←s1];exact(Live.fresh _ _ _ 2 _ rfl).alloc _
 have m3:Live W (w.heap.size+1) 3 (.slice none 0 0):=by rw[hW,←s1];exact(Live.fresh _ _ _ 3 _ rfl).alloc _
 have n0:Live W (w.heap.size+2) 0 (.int .i64 x):=by rw[hW,←s2];exact Live.fresh _ _ _ 0 _ rfl
 have n1:Live W (w.heap.size+2) 1 (.int .i64 (y-x)):=by rw[hW,←s2];exact Live.fresh _ _ _ 1 _ rfl
 have n2:Live W (w.heap.size+2) 2 (.int .i32 0):=by rw[hW,←s2];exact Live.fresh _ _ _ 2 _ rfl
 have n3:Live W (w.heap.size+2) 3 (.slice none 0 0):=by rw[hW,←s2];exact Live.fresh _ _ _ 3 _ rfl
 have hbW:Below w.heap.size w W:=by rw[hW];exact bal (bal (bal (Below.refl _ _) _) _) _
 have HW:=Lib.hid hW;have HF:=Lib.hid hfin;have K1:=Lib.hid k1;have M0:=Lib.hid m0;have M1:=Lib.hid m1;have M2:=Lib.hid m2;have M3:=Lib.hid m3;have N0:=Lib.hid n0;have N1:=Lib.hid n1;have N2:=Lib.hid n2;have N3:=Lib.hid n3;have HBW:=Lib.hid hbW;clear hW hfin k1 m0 m1 m2 m3 n0 n1 n2 n3 hbW;clear s1 s2
 go_enter Tryz.func208,Tryz.ntmps208
 go_wp2_with fail
 rw[←HW.out];refine(K1.out _).mono ?_;rintro e w1 ⟨rfl,hb1⟩;obtain⟨a0,b0⟩:=M0.out.keep hb1;obtain⟨a1,b1⟩:=M1.out.keep hb1;obtain⟨a2,b2⟩:=M2.out.keep hb1;obtain⟨a3,b3⟩:=M3.out.keep hb1;obtain⟨c0,d0⟩:=N0.out.keep hb1;obtain⟨c1,d1⟩:=N1.out.keep hb1;obtain⟨c2,d2⟩:=N2.out.keep hb1;obtain⟨c3,d3⟩:=N3.out.keep hb1;have hbo:=HBW.out.trans (hb1.mono HBW.out.size)
 go_wp2_with fail
 refine bodyPost_ret (v:=.agg #[.int .i64 x,.int .i64 (y-x),.int .i32 (t+(x-a)),.slice none 0 0]) (by simp[results,Tryz.results208,go_sem,a0,a1,a2,a3,b0,b1,b2,b3,c0,c1,c2,c3,d0,d1,d2,d3]) rfl ?_;exact HF.out _ _ ⟨⟨x,y-x,t+(x-a),none,0,0,none⟩,rfl,rfl,rfl,by repeat (first|exact hbo|refine Below.setCell ?_ (show w.heap.size≤_ from by simp only;omega) _)⟩
theorem vv9(a b t x y:Int)(g o n cp:Nat)(l:List Int)(cur:Array Value)(w:World)(hG:RP.Good ⟨a,b,t,some l⟩)(hn:n=l.length)(hnc:n≤cp)(hcm:cp≤maxLen)(hblk:w.heap[g]?=some (.cells cur 21 (0,0)))(hcs:∀(j:Nat) (x:Value),(icells l)[j]?=some x→cur[o+j]?=some x)(h0:a≤x)(h1:x<y)(h2:y≤a+b):
 Calls Tryz.prog 208 #[.agg #[.int .i64 a,.int .i64 b,.int .i32 t,.slice (some ⟨g,o,none⟩) n cp],.int .i64 x,.int .i64 y] w (PartPost ⟨x,y-x,0,some ((l.drop (x-a).toNat).take (y-x).toNat)⟩ w):=by
 obtain⟨g0,g1,g2,g3,g4,g5⟩:=hG;simp only at g0 g1 g2 g3 g4;have g6:=g5 l rfl;simp only at g6;rw[←hn]at g6;have hw1:IntKind.i64.wrap (y-x)=y-x:=wi64 _ (by omega) (by omega);have hfin:∀e w',(∃q:RR,e=.returned (.agg q.enc.toArray)∧q.pl=⟨x,y-x,0,some ((l.drop (x-a).toNat).take (y-x).toNat)⟩∧q.Ok w'∧Below w.heap.size w w')→PartPost ⟨x,y-x,0,some ((l.drop (x-a).toNat).take (y-x).toNat)⟩ w e w':=fun _ _ h=>h
 obtain⟨W,hW⟩:∃W,W=((w.alloc (.cells #[.int .i64 a,.int .i64 b,.int .i32 t,.slice (some ⟨g,o,none⟩) n cp] 235)).alloc (.cells #[.int .i64 0,.int .i64 0,.int .i32 0,.slice none 0 0] 235)).alloc (.cells #[.int .i64 x,.int .i64 (y-x),.int .i32 0,.slice none 0 0] 235):=⟨_,rfl⟩;have s1:(w.alloc (.cells #[.int .i64 a,.int .i64 b,.int .i32 t,.slice (some ⟨g,o,none⟩) n cp] 235)).heap.size=w.heap.size+1:=World.size_alloc _ _;have s2:((w.alloc (.cells #[.int .i64 a,.int .i64 b,.int .i32 t,.slice (some ⟨g,o,none⟩) n cp] 235)).alloc (.cells #[.int .i64 0,.int .i64 0,.int .i32 0,.slice none 0 0] 235)).heap.size=w.heap.size+2:=by rw[World.size_alloc,s1]
 have hbW:Below w.heap.size w W:=by rw[hW];exact bal (bal (bal (Below.refl _ _) _) _) _
 obtain⟨k,hk⟩:∃k:Nat,x-a=(k:Int):=⟨(x-a).toNat,by omega⟩;obtain⟨m,hm⟩:∃m:Nat,y-x=(m:Int):=⟨(y-x).toNat,by omega⟩;have hkm:k+m≤n:=by omega
 obtain rfl:x=a+k:=by omega
 obtain rfl:y=a+k+m:=by omega
 have e1:a+(k:Int)-a=k:=by omega
 have e2:a+(k:Int)+m-a=((k+m:Nat):Int):=by omega
 have e3:a+(k:Int)+m-(a+k)=m:=by omega
 have e4:((k+m:Nat):Int)-(k:Int)=m:=by omega
 have hw2:IntKind.i64.wrap (a+(k:Int)-a)=k:=by rw[e1];exact wi64 _ (by omega) (by omega)
 rw[e3]at hw1;unfold maxLen at hcm;have HF:=Lib.hid hfin;have HBW:=Lib.hid hbW;have HN:=Lib.hid hn;have HBLK:=Lib.hid hblk;have HCS:=Lib.hid hcs;have G6:=Lib.hid g6;clear hfin hbW hn hblk hcs g6;clear hW g5 hk hm;clear s1 s2
 go_enter Tryz.func208,Tryz.ntmps208
 go_wp2_with fail
 refine bodyPost_ret (v:=.agg #[.int .i64 (a+k),.int .i64 m,.int .i32 0,.slice (some ⟨g,o+k,none⟩) m (cp-k)]) (by simp[results,Tryz.results208,go_sem]) rfl ?_;refine HF.out _ _ ⟨⟨a+k,a+k+m-(a+k),0,some ⟨g,o+k,none⟩,m,cp-k,some ((l.drop (a+k-a).toNat).take (a+k+m-(a+k)).toNat)⟩,by simp only[RR.enc,RR.sv];rw[e3],rfl,?_,bal (bal (bal (Below.refl _ _) _) _) _⟩;have hlm:((l.drop (a+k-a).toNat).take (a+k+m-(a+k)).toNat).length=m:=by
  rw[e1,e3,Int.toNat_natCast,Int.toNat_natCast,List.length_take,List.length_drop,←HN.out];omega
 refine⟨g,o+k,cp-k,cur,by rw[hlm];rfl,by rw[hlm];omega,by unfold maxLen;omega,?_,fun j x hj=>?_⟩
 · have hlt:=(Array.getElem?_eq_some_iff.1 HBLK.out).1
   exact((bal (bal (bal (Below.refl _ _) _) _) _:Below w.heap.size w _).block g hlt).trans HBLK.out
 · rw[Nat.add_assoc]
   refine HCS.out (k+j) x ?_;rw[e1,e3,Int.toNat_natCast,Int.toNat_natCast]at hj;unfold icells at *;rw[List.getElem?_map]at *;rw[List.getElem?_take,List.getElem?_drop]at hj;split at hj
   · exact hj
   · cases hj
theorem part_any(r:RR)(x y:Int)(w:World)(hok:r.Ok w)(hG:r.pl.Good)(h0:r.fr≤x)(h1:x<y)(h2:y≤r.fin):
 Calls Tryz.prog 208 #[.agg r.enc.toArray,.int .i64 x,.int .i64 y] w (PartPost (r.pl.part x y) w):=by
 obtain⟨a,b,t,ad,ln,cp,sg⟩:=r;cases sg with
 | none=>
  have hok':Value.slice ad ln cp=.slice none 0 0:=hok;simp only[Value.slice.injEq]at hok';obtain⟨rfl,rfl,rfl⟩:=hok';exact vw0 a b t x y w hG h0 h1 h2
 | some l=>
  obtain⟨g,o,cap,cur,he,hlc,hcm,hblk,hcells⟩:=hok;simp only[RR.sv,Value.slice.injEq]at he;obtain⟨rfl,rfl,rfl⟩:=he;exact vv9 a b t x y g o l.length cp l cur w hG rfl hlc hcm hblk hcells h0 h1 h2
end Go.Proofs.YtagjkmkmphamoaaGreatDoor
