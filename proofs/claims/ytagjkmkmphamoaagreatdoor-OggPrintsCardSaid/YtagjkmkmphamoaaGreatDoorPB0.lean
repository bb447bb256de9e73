/- B0 -/
import Derived.Test.YtagjkmkmphamoaaGreatDoorPA9
import Derived.Test.YtagjkmkmphamoaaGreatDoorPA8
import Derived.Test.YtagjkmkmphamoaaGreatDoorPA6
set_option linter.all false
set_option maxHeartbeats 8000000
namespace Go.Proofs.YtagjkmkmphamoaaGreatDoor
open Go.RowKit
theorem qd2:∀(l b part:List UInt8),(cutG l b part).1.flatten.length+(cutG l b part).2.length≤part.length+b.length
 | [],b,part=>by simp[cutG]
 | c::r,b,part=>by
  rw[cutG];split
  · have:=qd2 r (b.drop 255) (part++b.take 255)
    rw[List.length_append,List.length_drop,List.length_take]at this;omega
  · have:=qd2 r (b.drop c.toNat) []
    simp only[List.flatten_cons,List.length_append,List.length_drop,List.length_take,List.length_nil]at this ⊢;omega
theorem qj9:∀(l:List PG) (j:Nat) (op:Bool) (ps:List (List UInt8)) (part:List UInt8),(joinG l j op ps part).1.flatten.length≤ps.flatten.length+part.length+(l.map gsz).sum
 | [],j,op,ps,part=>by
  rw[joinG];split
  · simp
  · simp
 | p::r,j,op,ps,part=>by
  rw[joinG];split
  · simp
  · have h1:=qj9 r (j+1) (openL op (bl p.la)) (ps++(cutG (bl p.la) (bl p.bo) part).1) (cutG (bl p.la) (bl p.bo) part).2
    have h2:=qd2 (bl p.la) (bl p.bo) part;have h3:=jb1 p.bo;rw[List.flatten_append,List.length_append]at h1;rw[List.map_cons,List.sum_cons];unfold gsz at h1 ⊢;omega
theorem qc6{ps:List (List UInt8)}{p:List UInt8}(h:p∈ps):p.length≤ps.flatten.length:=by
 induction ps with
 | nil=>cases h
 | cons q r ih=>
  rw[List.flatten_cons,List.length_append];rcases List.mem_cons.1 h with rfl|h
  · omega
  · have:=ih h;omega
theorem vg7(se:Nat):∀(f nu:Nat) (la bo:List UInt8) (op:Bool),(pagesO se f nu la bo op).length≤f:=by
 intro f
 induction f with
 | zero=>intro nu la bo op;exact Nat.le_refl _
 | succ f ih=>
  intro nu la bo op;rw[pagesO];split
  · exact Nat.zero_le _
  · rw[List.length_cons]
    have:=ih (nu+1) (la.drop 255) (bo.drop (totL (la.take 255))) (openL op (la.take 255));omega
theorem qx7(se:Nat):∀(l:List PG) (i:Nat),strayF se l i=none→∀(k:Nat) (p:PG),l[k]?=some p→p.se=se∧p.nu=(i+k)%4294967296∧(0<i+k→firstG p=false)
 | [],i,_,k,p,h=>by simp at h
 | q::r,i,hs,k,p,h=>by
  rw[strayF]at hs;split at hs
  · cases hs
  · next hn=>
    cases k with
    | zero=>
     simp at h;subst h;refine⟨?_,?_,fun hp=>?_⟩
     · exact Classical.byContradiction fun x=>hn (.inl x)
     · exact Classical.byContradiction fun x=>hn (.inr (.inl x))
     · exact Bool.eq_false_iff.2 fun x=>hn (.inr (.inr ⟨by omega,x⟩))
    | succ k=>
     obtain⟨a,b,c⟩:=qx7 se r (i+1) hs k p (by simpa using h);exact⟨a,by rw[b];congr 1;omega,fun hp=>c (by omega)⟩
theorem qx5:∀(l:List PG) (k:Nat),((l.take k).map gsz).sum≤(l.map gsz).sum
 | [],k=>by simp
 | p::r,0=>by simp
 | p::r,k+1=>by
  have:=qx5 r k;simp only[List.take_succ_cons,List.map_cons,List.sum_cons];omega
section
variable {crc:List UInt8→Nat} {R:List UInt8→Int}
theorem kt0(fr:Bool)(x:RS)(h:(parseR R fr x).1.e=0):∃b,(parseR R fr x).2=some b:=by
 unfold parseR at h ⊢;split
 · next c=>rw[if_pos c]at h;exact absurd h c
 · next c=>
   rw[if_neg c]at h;split
   · next d=>rw[if_pos d]at h;exact absurd h d
   · next d=>
     rw[if_neg d]at h;simp only at h ⊢;rw[if_neg (by simpa using h)];exact⟨_,rfl⟩
theorem kx6(x:RS)(t:ByteArray):(wantR x t).1.s=x.s:=by
 unfold wantR;split
 · rfl
 · split
   · exact kc6 _ _ _
   · split
     · exact kc6 _ _ _
     · rfl
theorem vn8(s:OS):lacesO (backO s)=lacesO s∧pktsO (backO s)=pktsO s:=by
 have h:pktsO (backO s)=pktsO s:=by unfold pktsO backO;simp only;rw[qg8]
 exact⟨by unfold lacesO;rw[h],h⟩
theorem back_mid(s:OS):midO (backO s)=midO s:=by
 obtain⟨h1,h2⟩:=vn8 s;unfold midO;rw[h1,h2]
 rfl
theorem vn7(s:OS):opagesL (backO s)=opagesL s:=by
 unfold opagesL;rw[back_mid];show s.first::midO s++renumL (1+(midO s).length) (renumL (1+(midO s).length) s.sound)=_
 rw[kk8]
theorem back_ok{s:OS}(h:okO s):okO (backO s):=by
 have hg:=h;obtain⟨⟨g1,g2⟩,hc,b1,b2,b3,b4⟩:=h;obtain⟨c1,c2,c3,c4,c5⟩:=jh4 hc;have hs:=(js8 s.first.se s.sound 0).1 c5;refine⟨⟨g1,?_⟩,vx7 c1 c2 (by show(checkM (utfBk s.b)).1=0;rw[xh0];exact c3) c4 ?_,b1,by show(utfBk s.b).ns.length≤_;simpa[utfBk]using b2,?_,by rw[vn7];exact b4⟩
 · intro p hp
   obtain⟨k,hk⟩:=List.getElem?_of_mem hp;obtain⟨q,hq,rfl⟩:=jm0 _ _ _ _ hk;obtain⟨a,b,c,d,e⟩:=g2 q (List.mem_of_getElem? hq);exact⟨a,b,c,d,Nat.mod_lt _ (by decide)⟩
 · show soundF s.first.se (renumL (1+(midO s).length) s.sound) 0=(0,0)
   rw[js8];intro k p hp;obtain⟨q,hq,rfl⟩:=jm0 _ _ _ _ hp;exact hs k q hq
 · intro n hn
   simp only[backO,utfBk,List.mem_map]at hn;obtain⟨m,hm,rfl⟩:=hn;exact b3 m hm
end
def safL(n:Int):Nat→List UInt8
 | 0=>[]
 | k+1=>safL (n/128) k ++ [UInt8.ofNat (n%128).toNat]
theorem vn5(q:Int)(h:0≤q):((UInt8.ofNat (q%128).toNat).toNat:Int)=q%128:=by
 rw[UInt8.toNat_ofNat'];omega
theorem vd5(x:Int)(h₀:0≤x)(h₁:x<18446744073709551616):bits .and .u64 x 127=x%128:=bits_mask .u64 64 (by decide) jd3 7 (by decide) x h₀ h₁
theorem vw6(n:Int)(w:World)(h0:0≤n)(h1:n≤268435455):
 Calls Tryz.prog 108 #[.int .u64 n] w fun e w'=>e=.returned (.tuple #[.string ⟨(safL n 4).toArray⟩,.bool true])∧Below w.heap.size w w':=by
 obtain⟨i0,hi,hz0,hz1,hz2⟩:=info_parts xd1;obtain⟨m,hm⟩:∃m:Nat,m=4:=⟨_,rfl⟩;obtain⟨B,hB⟩:∃B,B=w.heap.size:=⟨_,rfl⟩;have hgt:¬n > 268435455:=by omega
 go_enter Tryz.func108,Tryz.ntmps108
 go_wp2_with (first
  | (refine wpList_make_full _ rfl _ _ 140 rfl w.heap.size 5 i0 (.int .u8 0) 1 Tryz.underlying140 hi hz0 hz1 .i64 .i64 (4:Int) (4:Int) 4 rfl rfl rfl rfl (by rw[hz2];omega) (by unfold maxLen;omega) (Nat.le_refl _) ?_;intro W hown hgrow))
 rw[show(madeCells (Value.int IntKind.u8 0).cells (4*1)).toList=bcells (List.replicate 4 0) from by rw[show(Value.int IntKind.u8 0).cells=#[Value.int IntKind.u8 0] from rfl,toList_madeCells_one];simp[bcells]]at hown;have hbel:Below w.heap.size w W:=(Below.refl _ _).grown hgrow (Nat.le_refl _) (by intro k hk;cases hk);clear hgrow;rw[←hB]at hown hbel ⊢;have HBs:=Lib.hid hB;clear hB
 go_loopw [0,5] (fun q i wr=>∃(k:Nat) (x:Int) (s:List UInt8),k≤4∧s.length=4-k∧0≤x∧x≤n∧q=.int .u64 x∧i=.int .i64 ((k:Int)-1)∧safL n 4=safL x k++s ∧
  wr.ownsRow B 5 1 (.slice (some ⟨B,0,none⟩) 4 4) 4 (bcells (List.replicate k 0++s))∧Below B w wr) (fun _ i _=>(intOf i+1).toNat)
 case atStart=>exact⟨4,n,[],Nat.le_refl _,by simp,h0,Int.le_refl _,rfl,rfl,by simp,by simpa using hown,hbel⟩
 case round=>
  obtain⟨k,x,s,hk,hsl,hx0,hx1,rfl,rfl,hbig,hown,hbel⟩:=hrel;cases k with
  | zero=>
   have hcv:=jf7 (P:=Tryz.prog) 140 9 Tryz.underlying140 Tryz.underlying5 Tryz.underlying9 hown;have HB:=Lib.hid hbig;clear hbig
   go_wp2
   go_ret2
   exact⟨by rw[HB.out];rfl,by rw[←HBs.out];exact hbel⟩
  | succ j=>
   have ej:(((j+1:Nat):Int)-1)=(j:Int):=by omega
   rw[ej];have hc:wr.cell? ⟨B,j,none⟩=some (.int .u8 0):=by
    rw[hown.cellAt j (by omega)];simp[bcells,List.getElem?_append]
   have hf:=hown.frozenAt j;have hst:=hown.stored j (.int .u8 ((UInt8.ofNat (x%128).toNat).toNat:Int));rw[jv3,vr7,vn5 x hx0]at hst;have ha:=vd5 x hx0 (by omega);have HS:=Lib.hid hst;have HB:=Lib.hid hbig;have HL:=Lib.hid hsl;have hj4:(j:Int)<4:=by omega
   clear hbig hst ej hown hsl
   go_wp2
   go_roundw
   case rel=>exact⟨j,x/128,UInt8.ofNat (x%128).toNat::s,by omega,by have:=HL.out;simp;omega,by omega,by omega,rfl,rfl,by rw[HB.out,safL];simp,HS.out.1,hbel.setCell (Nat.le_refl _) _⟩
   case measure=>simp[intOf]
theorem kq0(w:World):Calls Tryz.prog 87 #[] w fun e w'=>e=.returned (.bool true)∧Below w.heap.size w w':=by
 have k1:∀w,Calls Tryz.prog 108 #[.int .u64 129] w fun e w'=>e=.returned (.tuple #[.string ⟨#[0,0,1,1]⟩,.bool true])∧Below w.heap.size w w':=fun w=>vw6 129 w (by decide) (by decide)
 have k2:∀w,Calls Tryz.prog 75 #[.string ⟨#[97,98]⟩,.int .i64 10] w fun x w'=>∃r,x=.returned (.pointer (some ⟨r,0,none⟩))∧w.heap.size≤r∧InX w' r ⟨⟨#[97,98]⟩,0,10,0,0⟩∧Below w.heap.size w w':=fun w=>qk3 ⟨#[97,98]⟩ 10 w
 have k3:∀w r,InX w r ⟨⟨#[97,98]⟩,0,10,0,0⟩→Calls Tryz.prog 102 #[.pointer (some ⟨r,0,none⟩),.int .i64 3] w fun v w'=>v=.returned (.string ⟨#[]⟩)∧InX w' r ⟨⟨#[97,98]⟩,0,10,1,12⟩∧w.grownBy w' (some r):=by
  intro w r h;have:=jq3 w r _ 3 h ⟨by decide,by decide,by decide⟩ (by decide) (by decide);have e:takeR ⟨⟨#[97,98]⟩,0,10,0,0⟩ 3=(⟨⟨#[97,98]⟩,0,10,1,12⟩,⟨#[]⟩):=rfl;rw[e]at this;exact this
 have k4:∀w,Calls Tryz.prog 91 #[.int .u64 258,.int .i64 2] w fun e w'=>e=.returned (.string ⟨#[1,2]⟩)∧Below w.heap.size w w':=fun w=>jh8 258 2 w (by decide) (by decide)
 have k5:∀w r,InX w r ⟨⟨#[97,98]⟩,0,10,1,12⟩→Calls Tryz.prog 43 #[.pointer (some ⟨r,0,none⟩)] w fun v w'=>v=.returned (.agg #[.int .i64 1,.int .i64 12])∧Below w.heap.size w w':=fun w r h=>jc5 w r _ h
 have he:=qc9 1 12 1 12;have hg:=fun x y w=>jj6 .eql x y #[.int .i64 1,.int .i64 12] #[.int .i64 1,.int .i64 12] w
 have K1:=Lib.hid k1;have K2:=Lib.hid k2;have K3:=Lib.hid k3;have K4:=Lib.hid k4;have K5:=Lib.hid k5;clear k1 k2 k3 k4 k5
 go_enter Tryz.func87,Tryz.ntmps87
 go_wp2_with (first
  | (go_at_call 108;refine(K1.out _).mono ?_;rintro e w1 ⟨rfl,hb1⟩)
  | (go_at_call 75;refine(K2.out _).mono ?_;rintro e w2 ⟨r,rfl,hr,hi2,hb2⟩)
  | (go_at_call 102;refine(K3.out _ _ hi2).mono ?_;rintro e w3 ⟨rfl,hi3,hg3⟩)
  | (go_at_call 91;refine(K4.out _).mono ?_;rintro e w4 ⟨rfl,hb4⟩)
  | (go_at_call 43;refine(K5.out _ _ (hi3.bel hb4)).mono ?_;rintro e w5 ⟨rfl,hb5⟩))
 go_ret
 refine⟨rfl,bt (bt ?_ hb4) hb5⟩;have h2:=bt hb1 hb2;exact h2.grown hg3 h2.size (fun k hk=>by cases hk;have:=hb1.size;omega)
def awS:ByteArray:=⟨#[1,0,0,0,118,1,0,0,0,3,0,0,0,65,61,98]⟩
def awB(c:Int):Bk:=⟨⟨#[118]⟩,c,[⟨⟨#[65]⟩,⟨#[98]⟩,c⟩]⟩
theorem vc8(c:Int):checkM (awB c)=(0,0):=by
 have h:checkM (awB c)=checkM (awB 0):=rfl;rw[h]
 decide +kernel
theorem qd8(c:Int):printL false (awB c)=bl awS:=by
 have h:printL false (awB c)=printL false (awB 0):=rfl;rw[h]
 decide +kernel
theorem aw_parse:(parseR (RM 0 false) false ⟨awS,0,0,0,0⟩).2=some (awB 7):=by
 have h:=kt1 (R:=RM 0 false) (xj5 0 false) false (awB 0) ⟨awS,0,0,0,0⟩ (vc8 0) (by decide) (by intro n hn;simp[awB]at hn;subst hn;decide) ⟨rfl,Nat.zero_le _,by rw[qd8];rfl⟩;rw[h]
 rfl
theorem jd5{w w1 w':World}{r:Nat}(hb:Below w.heap.size w w1)(hg:w1.grownBy w' (some r))(hr:w.heap.size≤r):Below w.heap.size w w':=hb.grown hg hb.size (fun k hk=>by cases hk;exact hr)
theorem vm0(s:ByteArray)(fr:Bool)(fb:Int)(g:Bool)(w:World)(hT:TW w)(hs:s.size≤1048576)(w1:World)(r:Nat)(hr:w.heap.size≤r)(hi:InX w1 r ⟨s,0,0,0,0⟩)(hb:Below w.heap.size w w1):
 Calls Tryz.prog 42 #[.pointer (some ⟨r,0,none⟩),.bool fr,.agg #[.int .i64 0,.int .i64 fb,.bool g,.int .i64 0]] w1 fun e w'=>Below w.heap.size w w'∧match(parseR (RM fb g) fr ⟨s,0,0,0,0⟩).2 with
  | none=>e=.returned noneV
  | some b=>∃v,e=.returned (.tuple #[.agg #[.string b.vt,.int .i64 b.vs,v],.bool true])∧Row w' v b.ns.length (ntcells b.ns):=by
 refine(jv1 w1 r ⟨s,0,0,0,0⟩ fr 0 fb 0 g (hT.bel hb) (Nat.le_trans (show 4≤4 by decide) (Nat.le_trans hT.sz hr)) hi ⟨Nat.zero_le _,by show s.size≤_;omega,Nat.zero_le _⟩ hs).mono ?_;rintro e w' ⟨h1,h2,h3⟩;refine⟨jd5 hb h2 hr,?_⟩;cases hp:(parseR (RM fb g) fr ⟨s,0,0,0,0⟩).2 with
 | none=>rw[hp]at h3;exact h3
 | some b=>
  rw[hp]at h3;obtain⟨v,h4,h5⟩:=h3;exact⟨v,h4,jc2 h5⟩
theorem jn2(s:ByteArray)(w:World):Calls Tryz.prog 40 #[.string s] w fun x w'=>∃r,x=.returned (.pointer (some ⟨r,0,none⟩))∧w.heap.size≤r∧InX w' r ⟨s,0,0,0,0⟩∧Below w.heap.size w w':=read_any s w
set_option maxRecDepth 100000 in
theorem qw1(w:World)(hT:TW w):Calls Tryz.prog 49 #[] w fun e w'=>e=.returned (.bool true)∧Below w.heap.size w w':=by
 have k1:=fun w=>jn2 awS w
 have k2:∀w1 r,w.heap.size≤r→InX w1 r ⟨awS,0,0,0,0⟩→Below w.heap.size w w1→Calls Tryz.prog 42 #[.pointer (some ⟨r,0,none⟩),.bool false,.agg #[.int .i64 0,.int .i64 0,.bool false,.int .i64 0]] w1 fun e w'=>
  Below w.heap.size w w'∧∃v,e=.returned (.tuple #[.agg #[.string ⟨#[118]⟩,.int .i64 7,v],.bool true])∧Row w' v 1 (ntcells (awB 7).ns):=by
  intro w1 r hr hi hb;refine(vm0 awS false 0 false w hT (by decide) w1 r hr hi hb).mono ?_;rintro e w' ⟨h1,h2⟩;rw[aw_parse]at h2;exact⟨h1,h2⟩
 have k3:∀w' v,TW w'→Row w' v 1 (ntcells (awB 7).ns)→Calls Tryz.prog 27 #[.agg #[.string ⟨#[118]⟩,.int .i64 7,v],.bool false] w' fun e w''=>e=.returned (.tuple #[.string awS,.agg #[.int .i64 0,.int .i64 0]])∧Below w'.heap.size w' w'':=by
  intro w' v hT' hrow;have h:=vk9 v (awB 7) false w' hT' hrow ⟨by decide,by decide,by intro n hn;simp[awB]at hn;subst hn;decide⟩ (by rw[qd8];decide) (by decide);unfold PrintPost at h;rw[vc8,qd8]at h;exact h
 have k4:=fun w=>kq0 w
 have k5:=fun w hT=>qw4 w hT
 have k6:=fun w=>jb8 0 0 w
 have hB:=Below.refl w.heap.size w;have HS:(⟨#[1,0,0,0,118,1,0,0,0,3,0,0,0,65,61,98]⟩:ByteArray)=awS:=rfl;have HE:(awS.toList==awS.toList)=true:=by simp
 have K1:=Lib.hid k1;have K2:=Lib.hid k2;have K3:=Lib.hid k3;have K4:=Lib.hid k4;have K5:=Lib.hid k5;have K6:=Lib.hid k6;have HT:=Lib.hid hT;clear k1 k2 k3 k4 k5 k6 hT
 go_enter Tryz.func49,Tryz.ntmps49
 rw[HS];generalize awS=S at *;clear HS
 go_wp2_with (first
  | (go_at_call 40;refine(K1.out _).mono ?_;rintro e w1 ⟨r,rfl,hr,hi1,hb1⟩)
  | (go_at_call 42;refine(K2.out _ _ hr hi1 hb1).mono ?_;rintro e w2 ⟨hb2,v,rfl,hrow⟩;have hrow0:=hrow;obtain⟨av,cap,rfl,hc⟩:=hrow;obtain⟨g,o,rfl,n0,n1,n2⟩:=qb2 hc 0 _ rfl;have hb2a:=bal hb2 (.cells #[.string ⟨#[118]⟩,.int .i64 7,.slice (some ⟨g,o,none⟩) 1 cap] 33);have hbx:=bal (Below.refl w2.heap.size w2) (.cells #[.string ⟨#[118]⟩,.int .i64 7,.slice (some ⟨g,o,none⟩) 1 cap] 33))
  | (go_at_call 27;refine(K3.out _ _ (HT.out.bel hb2a) (hrow0.keep hbx)).mono ?_;rintro e w3 ⟨rfl,hb3⟩;have hb3a:=bal hb3 (.cells #[.int .i64 0,.int .i64 0] 54))
  | (go_at_call 87;refine(K4.out _).mono ?_;rintro e w4 ⟨rfl,hb4⟩;have hb4a:=bt hb3a hb4)
  | (go_at_call 88;refine(K5.out _ (HT.out.bel (bt hb2a hb4a))).mono ?_;rintro e w5 ⟨rfl,hb5⟩;have hb5a:=bt hb4a hb5;have f0:=kc hb5a (Live.fresh w2 #[.string ⟨#[118]⟩,.int .i64 7,.slice (some ⟨g,o,none⟩) 1 cap] 33 0 _ rfl).1;have f2:=kc hb5a (Live.fresh w2 #[.string ⟨#[118]⟩,.int .i64 7,.slice (some ⟨g,o,none⟩) 1 cap] 33 2 _ rfl).1;have e0:w5.cell? ⟨g,o,none⟩=some (.string ⟨#[65]⟩):=kc hb5a (kc hbx n0);have e1:w5.cell? ⟨g,o+1,none⟩=some (.string ⟨#[98]⟩):=kc hb5a (kc hbx (by rw[Nat.zero_mul,Nat.add_zero]at n1;exact n1));have q0:=kc (bt hb4 hb5) (Live.fresh w3 #[.int .i64 0,.int .i64 0] 54 0 _ rfl).1;have q1:=kc (bt hb4 hb5) (Live.fresh w3 #[.int .i64 0,.int .i64 0] 54 1 _ rfl).1)
  | (go_at_call 16;refine(K6.out _).mono ?_;rintro e w6 ⟨rfl,hb6⟩))
 go_ret
 exact⟨jg0 (by simp),bt (bt hb2a hb5a) hb6⟩
def allM(ns:List Nt)(name:ByteArray):List ByteArray:=(ns.filter fun n=>likeM (bl n.name) (bl name)).map (·.text)
theorem all_cons(n:Nt)(ns:List Nt)(name:ByteArray):allM (n::ns) name=(if likeM (bl n.name) (bl name)=true then [n.text]else [])++allM ns name:=by
 unfold allM;rw[List.filter_cons];split<;>simp
theorem qd5(op:BinOp)(x y:Int):0≤bits op .u32 x y∧bits op .u32 x y<4294967296:=by
 unfold bits;rw[IntKind.wrap_u32];omega
def stI(x:Int):Int:=if(bits .and .u32 x 2147483648 != 0)=true then bits .xor .u32 (x*2%4294967296) 79764919 else x*2%4294967296
def stN:Nat→Int→Int
 | 0,x=>x
 | j+1,x=>stI (stN j x)
def hv(k:Nat):Int:=stN 4 ((k:Int)*268435456)
def hvA(k:Nat):Array Value:=#[.int .u32 (if 0<k then hv 0 else 0),.int .u32 (if 1<k then hv 1 else 0),.int .u32 (if 2<k then hv 2 else 0),.int .u32 (if 3<k then hv 3 else 0),.int .u32 (if 4<k then hv 4 else 0),.int .u32 (if 5<k then hv 5 else 0),.int .u32 (if 6<k then hv 6 else 0),.int .u32 (if 7<k then hv 7 else 0),.int .u32 (if 8<k then hv 8 else 0),.int .u32 (if 9<k then hv 9 else 0),.int .u32 (if 10<k then hv 10 else 0),.int .u32 (if 11<k then hv 11 else 0),.int .u32 (if 12<k then hv 12 else 0),.int .u32 (if 13<k then hv 13 else 0),.int .u32 (if 14<k then hv 14 else 0),.int .u32 (if 15<k then hv 15 else 0)]
theorem hvA_set:∀k,k<16→(hvA k).setIfInBounds k (.int .u32 (hv k))=hvA (k+1):=by
 intro k hk
 match k,hk with
 | 0,_=>rfl
 | 1,_=>rfl
 | 2,_=>rfl
 | 3,_=>rfl
 | 4,_=>rfl
 | 5,_=>rfl
 | 6,_=>rfl
 | 7,_=>rfl
 | 8,_=>rfl
 | 9,_=>rfl
 | 10,_=>rfl
 | 11,_=>rfl
 | 12,_=>rfl
 | 13,_=>rfl
 | 14,_=>rfl
 | 15,_=>rfl
 | n+16,h=>exact absurd h (by omega)
theorem hvA_at:∀k,k<16→(hvA k)[k]?=some (.int .u32 0):=by
 intro k hk
 match k,hk with
 | 0,_=>rfl
 | 1,_=>rfl
 | 2,_=>rfl
 | 3,_=>rfl
 | 4,_=>rfl
 | 5,_=>rfl
 | 6,_=>rfl
 | 7,_=>rfl
 | 8,_=>rfl
 | 9,_=>rfl
 | 10,_=>rfl
 | 11,_=>rfl
 | 12,_=>rfl
 | 13,_=>rfl
 | 14,_=>rfl
 | 15,_=>rfl
 | n+16,h=>exact absurd h (by omega)
set_option maxRecDepth 100000 in
theorem vj7(w:World):Calls Tryz.prog 137 #[] w fun e w'=>e=.returned (.agg (hvA 16))∧Below w.heap.size w w':=by
 obtain⟨H,hH⟩:∃H,H=w.heap.size:=⟨_,rfl⟩;have hs1:(w.alloc (.cells #[.int .u32 0,.int .u32 0,.int .u32 0,.int .u32 0,.int .u32 0,.int .u32 0,.int .u32 0,.int .u32 0,.int .u32 0,.int .u32 0,.int .u32 0,.int .u32 0,.int .u32 0,.int .u32 0,.int .u32 0,.int .u32 0] 186)).heap.size=w.heap.size+1:=World.size_alloc _ _;obtain⟨W,hW⟩:∃W,W=(w.alloc (.cells #[.int .u32 0,.int .u32 0,.int .u32 0,.int .u32 0,.int .u32 0,.int .u32 0,.int .u32 0,.int .u32 0,.int .u32 0,.int .u32 0,.int .u32 0,.int .u32 0,.int .u32 0,.int .u32 0,.int .u32 0,.int .u32 0] 186)).alloc (.cells #[.int .u32 0,.int .u32 0,.int .u32 0,.int .u32 0,.int .u32 0,.int .u32 0,.int .u32 0,.int .u32 0,.int .u32 0,.int .u32 0,.int .u32 0,.int .u32 0,.int .u32 0,.int .u32 0,.int .u32 0,.int .u32 0] 186):=⟨_,rfl⟩;have A:W.heap[w.heap.size]?=some (.cells #[.int .u32 0,.int .u32 0,.int .u32 0,.int .u32 0,.int .u32 0,.int .u32 0,.int .u32 0,.int .u32 0,.int .u32 0,.int .u32 0,.int .u32 0,.int .u32 0,.int .u32 0,.int .u32 0,.int .u32 0,.int .u32 0] 186 (0,0)):=by
  rw[hW];exact(heap_alloc_old _ _ (by rw[hs1];omega)).trans (heap_alloc_new _ _)
 have B:W.heap[w.heap.size+1]?=some (.cells (hvA 0) 186 (0,0)):=by
  rw[hW,←hs1];exact heap_alloc_new _ _
 have hbW:Below w.heap.size w W:=by rw[hW];exact bal (bal (Below.refl _ _) _) _
 have A0:=Lib.hid A;have B0:=Lib.hid B;have HBW:=Lib.hid hbW;clear A B hbW;clear hs1
 go_enter Tryz.func137,Tryz.ntmps137
 go_wp2_with fail
 rw[←hW];clear hW
 go_loopw [4] (fun iv wr=>∃k:Nat,iv=.int .i64 (k:Int)∧k≤16∧Hid (wr.heap[w.heap.size]?=some (.cells #[.int .u32 0,.int .u32 0,.int .u32 0,.int .u32 0,.int .u32 0,.int .u32 0,.int .u32 0,.int .u32 0,.int .u32 0,.int .u32 0,.int .u32 0,.int .u32 0,.int .u32 0,.int .u32 0,.int .u32 0,.int .u32 0] 186 (0,0)))∧Hid (wr.heap[w.heap.size+1]?=some (.cells (hvA k) 186 (0,0)))∧Below w.heap.size w wr) (fun iv _=>16-(intOf iv).toNat)
 case atStart=>exact⟨0,rfl,Nat.zero_le _,A0,B0,HBW.out⟩
 case round=>
  obtain⟨k,rfl,hk,HA,HB,hbel⟩:=hrel;by_cases hlt:k<16
  · go_wp2_with fail
    go_loop [3,10] (fun s j=>∃i:Nat,s=.int .u32 (stN i ((k:Int)*268435456))∧j=.int .i64 (i:Int)∧i≤4) (fun _ j=>4-(intOf j).toNat)
    case atStart=>exact⟨0,rfl,rfl,Nat.zero_le _⟩
    case round=>
     obtain⟨i,rfl,rfl,hi⟩:=hrel;by_cases hl2:i<4
     · have hS:stN (i+1) ((k:Int)*268435456)=stI (stN i ((k:Int)*268435456)):=rfl
       generalize stN i ((k:Int)*268435456)=x at *;unfold stI at hS;cases hb:(bits .and .u32 x 2147483648 != 0)with
       | true=>
        rw[hb,if_pos rfl]at hS;have HS:=Lib.hid hS;clear hS
        go_wp2_with fail
        go_round
        case rel=>exact⟨i+1,by rw[HS.out],by go_num,by omega⟩
        case measure=>simp[intOf];omega
       | false=>
        rw[hb,if_neg (by decide)]at hS;have HS:=Lib.hid hS;clear hS
        go_wp2_with fail
        go_round
        case rel=>exact⟨i+1,by rw[HS.out],by go_num,by omega⟩
        case measure=>simp[intOf];omega
     · have hi4:i=4:=by omega
       have hx:stN i ((k:Int)*268435456)=hv k:=by rw[hi4];rfl
       rw[hx];have hv0:(hvA k)[k]?=some (.int .u32 0):=hvA_at k hlt;obtain⟨c0,f0⟩:=jb0 HB.out k _ hv0;clear hx;have m0:(0:Int)≤(k:Int):=by omega
       have m1:(k:Int)<16:=by omega
       have m2:¬(i:Int)<4:=by omega
       clear hi4
       go_wp2_with fail
       exact⟨⟨k+1,by go_num,by omega,Lib.hid ((Below.heap_setCell _ _ _ w.heap.size (by simp)).trans HA.out),Lib.hid (by rw[Go.Lib.heap_setCell_same (i:=k) HB.out,hvA_set k hlt]),hbel.setCell (by simp) _⟩,by simp[intOf];omega⟩
  · have hk16:k=16:=by omega
    have HB2:=HB.out;rw[hk16]at HB2;obtain⟨c0,f0⟩:=jb0 HB2 0 (.int .u32 (hv 0)) rfl;obtain⟨d0,e0⟩:=jb0 HA.out 0 _ rfl;obtain⟨c1,f1⟩:=jb0 HB2 1 (.int .u32 (hv 1)) rfl;obtain⟨d1,e1⟩:=jb0 HA.out 1 _ rfl;obtain⟨c2,f2⟩:=jb0 HB2 2 (.int .u32 (hv 2)) rfl;obtain⟨d2,e2⟩:=jb0 HA.out 2 _ rfl;obtain⟨c3,f3⟩:=jb0 HB2 3 (.int .u32 (hv 3)) rfl;obtain⟨d3,e3⟩:=jb0 HA.out 3 _ rfl;obtain⟨c4,f4⟩:=jb0 HB2 4 (.int .u32 (hv 4)) rfl;obtain⟨d4,e4⟩:=jb0 HA.out 4 _ rfl;obtain⟨c5,f5⟩:=jb0 HB2 5 (.int .u32 (hv 5)) rfl;obtain⟨d5,e5⟩:=jb0 HA.out 5 _ rfl;obtain⟨c6,f6⟩:=jb0 HB2 6 (.int .u32 (hv 6)) rfl;obtain⟨d6,e6⟩:=jb0 HA.out 6 _ rfl;obtain⟨c7,f7⟩:=jb0 HB2 7 (.int .u32 (hv 7)) rfl;obtain⟨d7,e7⟩:=jb0 HA.out 7 _ rfl;obtain⟨c8,f8⟩:=jb0 HB2 8 (.int .u32 (hv 8)) rfl;obtain⟨d8,e8⟩:=jb0 HA.out 8 _ rfl;obtain⟨c9,f9⟩:=jb0 HB2 9 (.int .u32 (hv 9)) rfl;obtain⟨d9,e9⟩:=jb0 HA.out 9 _ rfl;obtain⟨c10,f10⟩:=jb0 HB2 10 (.int .u32 (hv 10)) rfl;obtain⟨d10,e10⟩:=jb0 HA.out 10 _ rfl;obtain⟨c11,f11⟩:=jb0 HB2 11 (.int .u32 (hv 11)) rfl;obtain⟨d11,e11⟩:=jb0 HA.out 11 _ rfl;obtain⟨c12,f12⟩:=jb0 HB2 12 (.int .u32 (hv 12)) rfl;obtain⟨d12,e12⟩:=jb0 HA.out 12 _ rfl;obtain⟨c13,f13⟩:=jb0 HB2 13 (.int .u32 (hv 13)) rfl;obtain⟨d13,e13⟩:=jb0 HA.out 13 _ rfl;obtain⟨c14,f14⟩:=jb0 HB2 14 (.int .u32 (hv 14)) rfl;obtain⟨d14,e14⟩:=jb0 HA.out 14 _ rfl;obtain⟨c15,f15⟩:=jb0 HB2 15 (.int .u32 (hv 15)) rfl;obtain⟨d15,e15⟩:=jb0 HA.out 15 _ rfl;have m1:¬(k:Int)<16:=by omega
    clear hk16 HB HB2
    go_wp2_with fail
    refine bodyPost_ret (v:=.agg (hvA 16)) (by simp[results,Tryz.results137,go_sem,d0,e0,d1,e1,d2,e2,d3,e3,d4,e4,d5,e5,d6,e6,d7,e7,d8,e8,d9,e9,d10,e10,d11,e11,d12,e12,d13,e13,d14,e14,d15,e15,hvA]) rfl ?_;exact⟨rfl,((((((((((((((((hbel.setCell (Nat.le_refl _) _).setCell (Nat.le_refl _) _).setCell (Nat.le_refl _) _).setCell (Nat.le_refl _) _).setCell (Nat.le_refl _) _).setCell (Nat.le_refl _) _).setCell (Nat.le_refl _) _).setCell (Nat.le_refl _) _).setCell (Nat.le_refl _) _).setCell (Nat.le_refl _) _).setCell (Nat.le_refl _) _).setCell (Nat.le_refl _) _).setCell (Nat.le_refl _) _).setCell (Nat.le_refl _) _).setCell (Nat.le_refl _) _).setCell (Nat.le_refl _) _)⟩
def nibI(s:Int):Int:=bits .xor .u32 (s*16%4294967296) (hv (s/268435456).toNat)
def crcI(s:Int)(c:UInt8):Int:=nibI (nibI (bits .xor .u32 s ((c.toNat:Int)*16777216)))
theorem nibI_bd(s:Int):0≤nibI s∧nibI s<4294967296:=qd5 _ _ _
theorem crcI_bd(s:Int)(c:UInt8):0≤crcI s c∧crcI s c<4294967296:=nibI_bd _
def crcF(s:Int)(l:List UInt8):Int:=l.foldl crcI s
theorem jw8:∀(l:List UInt8) (s:Int),0≤s∧s<4294967296→0≤crcF s l∧crcF s l<4294967296
 | [],s,h=>h
 | c::r,s,h=>jw8 r (crcI s c) (crcI_bd s c)
theorem jw9(s:Int)(a b:List UInt8):crcF s (a++b)=crcF (crcF s a) b:=List.foldl_append ..
theorem hvA_val(k:Nat)(hk:k<16):(hvA 16)[k]?=some (.int .u32 (hv k)):=by
 match k,hk with
 | 0,_=>rfl
 | 1,_=>rfl
 | 2,_=>rfl
 | 3,_=>rfl
 | 4,_=>rfl
 | 5,_=>rfl
 | 6,_=>rfl
 | 7,_=>rfl
 | 8,_=>rfl
 | 9,_=>rfl
 | 10,_=>rfl
 | 11,_=>rfl
 | 12,_=>rfl
 | 13,_=>rfl
 | 14,_=>rfl
 | 15,_=>rfl
 | n+16,h=>exact absurd h (by omega)
theorem kj9(l:List ByteArray)(k:Nat)(t:ByteArray)(h:l[k]?=some t):(scells l)[k]?=some (.string t):=by unfold scells;rw[List.getElem?_map,h];rfl
set_option maxRecDepth 100000 in
theorem sadd_any(s0:Int)(xs:List ByteArray)(rv:Value)(w:World)(h0:0≤s0∧s0<4294967296)(hrow:Row w rv xs.length (scells xs))(hs:∀t∈xs,t.size≤1073741824)(hn:xs.length≤1073741824):
 Calls Tryz.prog 116 #[.int .u32 s0,rv] w fun e w'=>e=.returned (.int .u32 (crcF s0 (xs.map bl).flatten))∧Below w.heap.size w w':=by
 obtain⟨av,cap,rfl,hc⟩:=hrow;have k1:=fun w=>vj7 w
 obtain⟨n,hn'⟩:∃n,n=xs.length:=⟨_,rfl⟩;rw[←hn']at hn ⊢;obtain⟨RES,hRES⟩:∃RES,RES=crcF s0 (xs.map bl).flatten:=⟨_,rfl⟩;rw[←hRES];have HSS:=Lib.hid hs;have e16:hvA 16=#[.int .u32 (hv 0),.int .u32 (hv 1),.int .u32 (hv 2),.int .u32 (hv 3),.int .u32 (hv 4),.int .u32 (hv 5),.int .u32 (hv 6),.int .u32 (hv 7),.int .u32 (hv 8),.int .u32 (hv 9),.int .u32 (hv 10),.int .u32 (hv 11),.int .u32 (hv 12),.int .u32 (hv 13),.int .u32 (hv 14),.int .u32 (hv 15)]:=rfl;rw[e16]at k1;have K1:=Lib.hid k1;have HC:=Lib.hid hc;have HN:=Lib.hid hn';have HR:=Lib.hid hRES;clear k1 hc hn' hRES;clear hs e16
 go_enter Tryz.func116,Tryz.ntmps116
 go_wp2_with (go_at_call 137;(with_reducible refine(K1.out _).mono ?_);rintro e w1 ⟨rfl,hb1⟩)
 have hbA:=bal hb1 (.cells #[.int .u32 (hv 0),.int .u32 (hv 1),.int .u32 (hv 2),.int .u32 (hv 3),.int .u32 (hv 4),.int .u32 (hv 5),.int .u32 (hv 6),.int .u32 (hv 7),.int .u32 (hv 8),.int .u32 (hv 9),.int .u32 (hv 10),.int .u32 (hv 11),.int .u32 (hv 12),.int .u32 (hv 13),.int .u32 (hv 14),.int .u32 (hv 15)] 186);have A1:(w1.alloc (.cells #[.int .u32 (hv 0),.int .u32 (hv 1),.int .u32 (hv 2),.int .u32 (hv 3),.int .u32 (hv 4),.int .u32 (hv 5),.int .u32 (hv 6),.int .u32 (hv 7),.int .u32 (hv 8),.int .u32 (hv 9),.int .u32 (hv 10),.int .u32 (hv 11),.int .u32 (hv 12),.int .u32 (hv 13),.int .u32 (hv 14),.int .u32 (hv 15)] 186)).heap[w1.heap.size]?=some (.cells (hvA 16) 186 (0,0)):=heap_alloc_new w1 (.cells #[.int .u32 (hv 0),.int .u32 (hv 1),.int .u32 (hv 2),.int .u32 (hv 3),.int .u32 (hv 4),.int .u32 (hv 5),.int .u32 (hv 6),.int .u32 (hv 7),.int .u32 (hv 8),.int .u32 (hv 9),.int .u32 (hv 10),.int .u32 (hv 11),.int .u32 (hv 12),.int .u32 (hv 13),.int .u32 (hv 14),.int .u32 (hv 15)] 186);generalize w1.alloc (.cells #[.int .u32 (hv 0),.int .u32 (hv 1),.int .u32 (hv 2),.int .u32 (hv 3),.int .u32 (hv 4),.int .u32 (hv 5),.int .u32 (hv 6),.int .u32 (hv 7),.int .u32 (hv 8),.int .u32 (hv 9),.int .u32 (hv 10),.int .u32 (hv 11),.int .u32 (hv 12),.int .u32 (hv 13),.int .u32 (hv 14),.int .u32 (hv 15)] 186)=W1 at *;have HTAB:Hid (∀q:Nat,q<16→W1.cell? ⟨w1.heap.size,q,none⟩=some (.int .u32 (hv q))):=Lib.hid fun q hq=>(jb0 A1 q _ (hvA_val q hq)).1
 have HBA:=Lib.hid hbA;clear hbA;clear A1 hb1
 go_loop [0,12] (fun sv iv=>∃k:Nat,sv=.int .u32 (crcF s0 ((xs.take k).map bl).flatten)∧iv=.int .i64 (k:Int)∧k≤n) (fun _ iv=>n-(intOf iv).toNat)
 case atStart=>exact⟨0,rfl,rfl,Nat.zero_le _⟩
 case round=>
  obtain⟨k,rfl,rfl,hk⟩:=hrel;have hbd:=jw8 ((xs.take k).map bl).flatten s0 h0;by_cases hlt:k<n
  · obtain⟨t,ht⟩:=jb6 xs k (by rw[←HN.out];exact hlt)
    obtain⟨g,o,rfl,d0⟩:=HC.out k _ (kj9 xs k t ht);replace d0:=kc HBA.out d0;have hts:=HSS.out t (List.mem_of_getElem? ht);have hstep:crcF s0 ((xs.take (k+1)).map bl).flatten=crcF (crcF s0 ((xs.take k).map bl).flatten) (bl t):=by
     rw[List.take_add_one,ht];simp[jw9]
    have HST:=Lib.hid hstep;have HTL:Hid ((bl t).length=t.size):=jb1 t;generalize crcF s0 ((xs.take k).map bl).flatten=s1 at *;have m0:(0:Int)≤(k:Int):=by omega
    have m1:(k:Int)<(n:Int):=by omega
    clear hstep ht
    go_wp2_with fail
    go_loop [0,18] (fun sv jv=>∃j:Nat,sv=.int .u32 (crcF s1 ((bl t).take j))∧jv=.int .i64 (j:Int)∧j≤t.size) (fun _ jv=>t.size-(intOf jv).toNat)
    case atStart=>exact⟨0,rfl,rfl,Nat.zero_le _⟩
    case round=>
     obtain⟨j,rfl,rfl,hj⟩:=hrel;by_cases hl2:j<t.size
     · obtain⟨b,hb⟩:=jb6 (bl t) j (by rw[HTL.out];exact hl2)
       have X:∀h,t[j]'h=b:=jc7 t j b hb;have hs2:crcF s1 ((bl t).take (j+1))=crcI (crcF s1 ((bl t).take j)) b:=by
        rw[List.take_add_one,hb];simp[jw9,crcF]
       have hxb:=jw8 ((bl t).take j) s1 hbd;have HS2:=Lib.hid hs2;generalize crcF s1 ((bl t).take j)=x at *;have hbl:=b.toNat_lt;have j0:(0:Int)≤(j:Int):=by omega
       have j1:(j:Int)<(t.size:Int):=by omega
       have b1:=qd5 .xor x ((b.toNat:Int)*16777216);obtain⟨y1,hy1⟩:∃y,bits .xor .u32 x ((b.toNat:Int)*16777216)=y:=⟨_,rfl⟩;rw[hy1]at b1;obtain⟨q1,hq1⟩:∃q:Nat,y1/268435456=(q:Int):=⟨(y1/268435456).toNat,by omega⟩;have l1:q1<16:=by omega
       have e1:=HTAB.out q1 l1;have b2:=qd5 .xor (y1*16%4294967296) (hv q1);obtain⟨y2,hy2⟩:∃y,bits .xor .u32 (y1*16%4294967296) (hv q1)=y:=⟨_,rfl⟩;rw[hy2]at b2;obtain⟨q2,hq2⟩:∃q:Nat,y2/268435456=(q:Int):=⟨(y2/268435456).toNat,by omega⟩;have l2:q2<16:=by omega
       have e2:=HTAB.out q2 l2;have n1:nibI y1=y2:=by unfold nibI;rw[hq1,Int.toNat_natCast,hy2]
       have n2:nibI y2=bits .xor .u32 (y2*16%4294967296) (hv q2):=by unfold nibI;rw[hq2,Int.toNat_natCast]
       have HC3:Hid (crcI x b=bits .xor .u32 (y2*16%4294967296) (hv q2)):=by unfold crcI;rw[hy1,n1,n2];exact Lib.hid rfl
       have i1:(0:Int)≤(q1:Int):=by omega
       have i2:(q1:Int)<16:=by omega
       have i3:(0:Int)≤(q2:Int):=by omega
       have i4:(q2:Int)<16:=by omega
       clear hs2 hb n1 n2 b1 b2 hxb l1 l2
       go_wp2_with fail
       go_round
       case rel=>exact⟨j+1,by rw[HS2.out,HC3.out],by go_num,by omega⟩
       case measure=>simp[intOf];omega
     · have hj2:j=t.size:=by omega
       have hx:crcF s1 ((bl t).take j)=crcF s1 (bl t):=by rw[List.take_of_length_le (by rw[HTL.out];omega)]
       rw[hx];have m2:¬(j:Int)<(t.size:Int):=by omega
       clear hx hj2
       go_wp2_with fail
       exact⟨⟨k+1,by rw[HST.out],by go_num,by omega⟩,by simp[intOf];omega⟩
  · have hx:crcF s0 ((xs.take k).map bl).flatten=RES:=by rw[List.take_of_length_le (by have:=HN.out;omega)];exact HR.out.symm
    rw[hx];have m1:¬(k:Int)<(n:Int):=by omega
    clear hx
    go_wp2_with fail
    go_ret
    exact⟨rfl,HBA.out⟩
theorem qq0(xs:List ByteArray)(rv:Value)(w:World)(hrow:Row w rv xs.length (scells xs))(hs:∀t∈xs,t.size≤1073741824)(hn:xs.length≤1073741824):
 Calls Tryz.prog 93 #[rv] w fun e w'=>e=.returned (.int .u32 (crcF 0 (xs.map bl).flatten))∧Below w.heap.size w w':=by
 have k1:=sadd_any 0 xs rv w (by omega) hrow hs hn;generalize crcF 0 (xs.map bl).flatten=RES at *;have K1:=Lib.hid k1;clear k1;clear hrow hs hn
 go_enter Tryz.func93,Tryz.ntmps93
 go_wp2_with (go_at_call 116;(with_reducible refine K1.out.mono ?_);rintro e w1 ⟨rfl,hb1⟩)
 go_ret
 exact⟨rfl,hb1⟩
theorem vf5(s:Int)(w:World)(h:0≤s∧s<4294967296):Calls Tryz.prog 56 #[.int .u32 s] w fun e w'=>e=.returned (.string ⟨(leL s 4).toArray⟩)∧Below w.heap.size w w':=by
 have k1:=fun w=>jn6 s 4 w h.1 (by omega)
 rw[kf3]at k1;have hw:IntKind.u64.wrap s=s:=by rw[IntKind.wrap_u64];omega
 have K1:=Lib.hid k1;clear k1
 go_enter Tryz.func56,Tryz.ntmps56
 go_wp2_with (go_at_call 92;(with_reducible refine(K1.out _).mono ?_);rintro e w1 ⟨rfl,hb1⟩)
 go_ret
 exact⟨rfl,hb1⟩
theorem big_1(h:Nat):bigL (h:Int) (widthOf 1) = [UInt8.ofNat h]:=by
 have e:widthOf 1=1:=by decide
 rw[e];unfold bigL bigL;simp only[List.nil_append,List.cons.injEq,and_true];apply UInt8.toNat_inj.1;rw[UInt8.toNat_ofNat',UInt8.toNat_ofNat'];omega
end Go.Proofs.YtagjkmkmphamoaaGreatDoor
