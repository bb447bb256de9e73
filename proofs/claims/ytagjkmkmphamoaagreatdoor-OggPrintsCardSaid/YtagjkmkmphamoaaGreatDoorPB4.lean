/- B4 -/
import Derived.Test.YtagjkmkmphamoaaGreatDoorPB3
set_option linter.all false
set_option maxHeartbeats 4000000
namespace Go.Proofs.YtagjkmkmphamoaaGreatDoor
open Go.RowKit
def optI:Option Nat→Int
 | none=>-1
 | some k=>k
theorem vk3(l:List UInt8)(k:Nat)(b:UInt8)(h:l[k]?=some b):endsN (l.take (k+1))=endsN (l.take k)+if b=255 then 0 else 1:=by
 rw[List.take_add_one,h,jm2];unfold endsN;by_cases hb:b=255
 · subst hb;simp
 · simp[hb]
theorem vc4(l:List UInt8):endsN l≤l.length:=List.countP_le_length
theorem qt3(v:Value)(l:List PG)(w:World)(hrow:Row w v l.length (gcells l))(hn:l.length≤2000000)(hsm:∀p∈l,p.la.size≤1073741824):
 Calls Tryz.prog 74 #[v] w fun e w'=>e=.returned (.int .i64 (optI (secondF (l.drop 1) 1 0)))∧w=w':=by
 obtain⟨av,cap,rfl,hc⟩:=hrow;obtain⟨R,hR⟩:∃R,R=secondF (l.drop 1) 1 0:=⟨_,rfl⟩;rw[←hR];obtain⟨n,hn'⟩:∃n,n=l.length:=⟨_,rfl⟩;rw[←hn']at hn ⊢;have HC:=Lib.hid hc;have HR:=Lib.hid hR;have HN:=Lib.hid hn';have HSM:=Lib.hid hsm;clear hc hR hn' hsm
 go_enter Tryz.func74,Tryz.ntmps74
 go_wp2_with fail
 go_loop [3,4] (fun nv iv=>∃(i c:Nat),iv=.int .i64 (i:Int)∧nv=.int .i64 (c:Int)∧1≤i∧i≤n+1∧c≤1∧Hid (secondF (l.drop i) i c=R)) (fun _ iv=>n+1-(intOf iv).toNat)
 case atStart=>exact⟨1,0,rfl,rfl,Nat.le_refl _,by omega,by omega,Lib.hid HR.out.symm⟩
 case round=>
  obtain⟨i,c,rfl,rfl,h1,hi,hc1,HP⟩:=hrel;by_cases hlt:i<n
  · obtain⟨p,hp⟩:=jb6 l i (by rw[←HN.out];exact hlt)
    obtain⟨g,o,rfl,d0,d1,d2,d3,d4,d5⟩:=g_at HC.out i p hp;have s1:=HSM.out p (List.mem_of_getElem? hp);have hP:=HP.out;obtain⟨hp1,hp2⟩:=List.getElem?_eq_some_iff.1 hp;rw[List.drop_eq_getElem_cons hp1,hp2,secondF]at hP;have hLL:=jb1 p.la;have hle:=vc4 (bl p.la);generalize p.la=s at *;have m0:(0:Int)≤(i:Int):=by omega
    have m1:(i:Int)<(n:Int):=by omega
    have hw1:IntKind.i64.wrap ((i:Int)+1)=(i:Int)+1:=wi64 _ (by omega) (by omega);have HP2:=Lib.hid hP;have HLL:=Lib.hid hLL;have HLE:=Lib.hid hle;clear hP hLL hle;clear hp hp1 hp2 HP d0 d1 d2 d3 d5
    go_wp2_with fail
    go_loop [3,20] (fun nv kv=>∃(k:Nat),nv=.int .i64 ((c+endsN ((bl s).take k):Nat):Int)∧kv=.int .i64 (k:Int)∧k≤s.size) (fun _ kv=>s.size-(intOf kv).toNat)
    case atStart=>exact⟨0,by simp[endsN],rfl,Nat.zero_le _⟩
    case round=>
     obtain⟨k,rfl,rfl,hk⟩:=hrel;by_cases hl2:k<s.size
     · obtain⟨b,hb⟩:=jb6 (bl s) k (by rw[HLL.out];exact hl2)
       have X:∀h,s[k]'h=b:=jc7 s k b hb;have hst:=vk3 (bl s) k b hb;have hle2:=vc4 ((bl s).take k);rw[List.length_take]at hle2;generalize endsN ((bl s).take k)=t at *;have HST:=Lib.hid hst;have j0:(0:Int)≤(k:Int):=by omega
       have j1:(k:Int)<(s.size:Int):=by omega
       have ht:t≤1073741824:=by omega
       have hwr:IntKind.i64.wrap (((c+t:Nat):Int)+1)=((c+t:Nat):Int)+1:=wi64 _ (by omega) (by omega);clear hst hb hle2;by_cases h255:b=255
       · subst h255
         go_wp2_with fail
         exact⟨⟨k+1,by rw[HST.out];simp,by go_num,by omega⟩,by simp[intOf];omega⟩
       · have hne:¬(b.toNat:Int)=255:=fun h=>h255 (UInt8.toNat_inj.1 (by show b.toNat=255;omega))
         have HNE:=Lib.hid h255;clear h255
         go_wp2_with fail
         exact⟨⟨k+1,by rw[HST.out,if_neg HNE.out];go_num,by go_num,by omega⟩,by simp[intOf];omega⟩
     · have hx:(bl s).take k=bl s:=List.take_of_length_le (by rw[HLL.out];omega)
       rw[hx];have hP:=HP2.out;have j1:¬(k:Int)<(s.size:Int):=by omega
       have hle3:=HLE.out;rw[HLL.out]at hle3;generalize endsN (bl s)=t at *;clear hx;by_cases h2:2≤c+t
       · rw[if_pos h2]at hP
         have HX:=Lib.hid hP;have q1:((c+t:Nat):Int) ≥ 2:=by omega
         clear hP
         go_wp2_with fail
         go_ret
         exact⟨by rw[←HX.out];rfl,rfl⟩
       · rw[if_neg h2]at hP
         have HX:=Lib.hid hP;have q1:¬((c+t:Nat):Int) ≥ 2:=by omega
         clear hP
         go_wp2_with fail
         exact⟨⟨i+1,c+t,by go_num,rfl,by omega,by omega,by omega,HX⟩,by simp[intOf];omega⟩
  · have hP:=HP.out
    rw[List.drop_of_length_le (by rw[←HN.out];omega)]at hP;have HX:Hid (none=R):=Lib.hid hP;have m1:¬(i:Int)<(n:Int):=by omega
    clear hP
    go_wp2_with fail
    go_ret
    exact⟨by rw[←HX.out];rfl,rfl⟩
theorem jh5(a:Int)(w:World):Calls Tryz.prog 38 #[.int .i64 a] w fun e w'=>e=.returned (.agg #[.int .i64 1,.int .i64 a])∧Below w.heap.size w w':=by
 go_enter Tryz.func38,Tryz.ntmps38
 go_wp2_with fail
 refine bodyPost_ret (v:=.agg #[.int .i64 1,.int .i64 a]) (by simp[results,Tryz.results38,go_sem]) rfl ?_;exact⟨rfl,by simpa using bal (Below.refl _ _) (.cells #[.int .i64 1,.int .i64 a] 54)⟩
set_option maxRecDepth 100000 in
theorem jg6(v:Value)(l:List PG)(se0:Nat)(w:World)(hrow:Row w v l.length (gcells l))(hn:l.length≤2000000)(h0:∀p,l[0]?=some p→p.se=se0):
 Calls Tryz.prog 37 #[v] w fun e w'=>e=.returned (.int .i64 (optI (strayF se0 l 0)))∧Below w.heap.size w w':=by
 obtain⟨av,cap,rfl,hc⟩:=hrow;obtain⟨R,hR⟩:∃R,R=strayF se0 l 0:=⟨_,rfl⟩;rw[←hR];obtain⟨n,hn'⟩:∃n,n=l.length:=⟨_,rfl⟩;rw[←hn']at hn ⊢;have HC:=Lib.hid hc;have HR:=Lib.hid hR;have HN:=Lib.hid hn';have H0:=Lib.hid h0;clear hc hR hn' h0
 go_enter Tryz.func37,Tryz.ntmps37
 go_wp2_with fail
 go_loopw [7] (fun iv wr=>∃(i:Nat),iv=.int .i64 (i:Int)∧i≤n∧Hid (strayF se0 (l.drop i) i=R)∧Hid (Below w.heap.size w wr)) (fun iv _=>n-(intOf iv).toNat)
 case atStart=>exact⟨0,rfl,Nat.zero_le _,Lib.hid (by rw[List.drop_zero];exact HR.out.symm),Lib.hid (Below.refl _ _)⟩
 case round=>
  obtain⟨i,rfl,hi,HP,HB⟩:=hrel;by_cases hlt:i<n
  · obtain⟨p,hp⟩:=jb6 l i (by rw[←HN.out];exact hlt)
    obtain⟨p0,hp0⟩:=jb6 l 0 (by rw[←HN.out];omega);have hse0:=H0.out p0 hp0;obtain⟨g,o,rfl,d0,d1,d2,d3,d4,d5⟩:=g_at HC.out i p hp;obtain⟨g',o',he,_,_,e2,_⟩:=g_at HC.out 0 p0 hp0;simp only[Option.some.injEq,Addr.mk.injEq,and_true]at he;obtain⟨rfl,rfl⟩:=he;rw[hse0]at e2;have d0:=kc HB.out d0;have d1:=kc HB.out d1;have d2:=kc HB.out d2;have d3:=kc HB.out d3;have d4:=kc HB.out d4;have d5:=kc HB.out d5;have e2:=kc HB.out e2;have hP:=HP.out;obtain⟨hp1,hp2⟩:=List.getElem?_eq_some_iff.1 hp;rw[List.drop_eq_getElem_cons hp1,hp2,strayF]at hP;have k1:=fun w=>kc4 p w
    unfold hV at k1;obtain⟨fG,hfG⟩:∃fG,fG=firstG p:=⟨_,rfl⟩;rw[←hfG]at hP k1;have m0:(0:Int)≤(i:Int):=by omega
    have m1:(i:Int)<(n:Int):=by omega
    have hu:IntKind.u32.wrap (i:Int)=(i:Int):=by rw[IntKind.wrap_u32];omega
    have hmod:i%4294967296=i:=Nat.mod_eq_of_lt (by omega);rw[hmod]at hP;obtain⟨W,hW⟩:∃W,W=wr.alloc (.cells #[.int .u8 p.fl.toNat,.int .u64 p.po,.int .u32 p.se,.int .u32 p.nu,.string p.la,.string p.bo] 27):=⟨_,rfl⟩;have hbW:Below wr.heap.size wr W:=by rw[hW];exact bal (Below.refl _ _) _
    obtain⟨p0,p1,p2,p3,p4,p5⟩:=gvL (show W.heap[wr.heap.size]?=some (.cells #[.int .u8 p.fl.toNat,.int .u64 p.po,.int .u32 p.se,.int .u32 p.nu,.string p.la,.string p.bo] 27 (0,0)) by rw[hW];exact heap_alloc_new _ _);have e2':=kc hbW e2;have hbz:=bt HB.out hbW;have K1:=Lib.hid k1;have HBW:=Lib.hid hbW;have HBZ:=Lib.hid hbz;clear k1 hbW hbz;clear hp hp1 hp2 HP hmod hse0 hp0 hfG;have y0:=fun y:Grown W=>y.cell p0
    have y1:=fun y:Grown W=>y.cell p1
    have y2:=fun y:Grown W=>y.cell p2
    have y3:=fun y:Grown W=>y.cell p3
    have ye:=fun y:Grown W=>y.cell e2'
    clear p0 p1 p2 p3 p4 p5 e2';by_cases h1:p.se=se0
    · by_cases h2:p.nu=i
      · cases hb3:(decide (0<i)&&fG)with
        | true=>
         obtain⟨h3,rfl⟩:0<i∧fG=true:=by simpa using hb3
         rw[if_pos (.inr (.inr ⟨h3,rfl⟩))]at hP;have HX:=Lib.hid hP;have b1:((p.se:Int)==(se0:Int))=true:=by rw[beq_iff_eq];omega
         have b1n:((p.se:Int) != (se0:Int))=false:=by simp only[bne,b1,Bool.not_true]
         have b2:((p.nu:Int)==(i:Int))=true:=by rw[beq_iff_eq];omega
         have b2n:((p.nu:Int) != (i:Int))=false:=by simp only[bne,b2,Bool.not_true]
         have b3:decide (0<i)=true:=decide_eq_true h3;clear hP h1 h2 h3 hb3
         go_wp2_with fail
         rw[←hW];refine wp_region_grown (by kernel_rfl) (by kernel_rfl) ?_
         repeat (first|go_big_quiet_step ((go_at_call 32;exact Calls.grown_of (K1.out _)))|quiet_step ((go_at_call 32;exact Calls.grown_of (K1.out _))))
         refine wpQuiet_nil ?_;intro _ hw';obtain⟨xg,rfl⟩:=hw';have hbg:=bt HBZ.out xg.bel
         go_wp2_with fail
         go_ret
         exact⟨by rw[←HX.out];rfl,hbg⟩
        | false=>
         rw[if_neg (by
          rintro(h|h|⟨h,h'⟩)
          · exact h h1
          · exact h h2
          · rw[h']at hb3;simp at hb3;omega)]at hP
         have HX:=Lib.hid hP;have b1:((p.se:Int)==(se0:Int))=true:=by rw[beq_iff_eq];omega
         have b1n:((p.se:Int) != (se0:Int))=false:=by simp only[bne,b1,Bool.not_true]
         have b2:((p.nu:Int)==(i:Int))=true:=by rw[beq_iff_eq];omega
         have b2n:((p.nu:Int) != (i:Int))=false:=by simp only[bne,b2,Bool.not_true]
         by_cases h3:0<i
         · obtain rfl:fG=false:=by simpa[h3]using hb3
           have b3:decide (0<i)=true:=decide_eq_true h3;clear hP h1 h2 h3 hb3
           go_wp2_with fail
           rw[←hW];refine wp_region_grown (by kernel_rfl) (by kernel_rfl) ?_
           repeat (first|go_big_quiet_step ((go_at_call 32;exact Calls.grown_of (K1.out _)))|quiet_step ((go_at_call 32;exact Calls.grown_of (K1.out _))))
           refine wpQuiet_nil ?_;intro _ hw';obtain⟨xg,rfl⟩:=hw';have hbg:=bt HBZ.out xg.bel;have HBG:=Lib.hid hbg
           go_wp2_with fail
           exact⟨⟨i+1,by go_num,by omega,HX,HBG⟩,by simp[intOf];omega⟩
         · have b3:decide (0<i)=false:=decide_eq_false h3
           clear hP h1 h2 h3 hb3
           go_wp2_with fail
           rw[←hW];refine wp_region_grown (by kernel_rfl) (by kernel_rfl) ?_
           repeat (first|go_big_quiet_step ((go_at_call 32;exact Calls.grown_of (K1.out _)))|quiet_step ((go_at_call 32;exact Calls.grown_of (K1.out _))))
           refine wpQuiet_nil ?_;intro _ hw';obtain⟨xg,rfl⟩:=hw';have hbg:=bt HBZ.out xg.bel;have HBG:=Lib.hid hbg
           go_wp2_with fail
           exact⟨⟨i+1,by go_num,by omega,HX,HBG⟩,by simp[intOf];omega⟩
      · rw[if_pos (.inr (.inl h2))]at hP
        have HX:=Lib.hid hP;have b1:((p.se:Int)==(se0:Int))=true:=by rw[beq_iff_eq];omega
        have b1n:((p.se:Int) != (se0:Int))=false:=by simp only[bne,b1,Bool.not_true]
        have b2:((p.nu:Int)==(i:Int))=false:=by rw[beq_eq_false_iff_ne];omega
        have b2n:((p.nu:Int) != (i:Int))=true:=by simp only[bne,b2,Bool.not_false]
        clear hP h1 h2
        go_wp2_with fail
        rw[←hW];refine wp_region_grown (by kernel_rfl) (by kernel_rfl) ?_
        repeat (first|go_big_quiet_step ((go_at_call 32;exact Calls.grown_of (K1.out _)))|quiet_step ((go_at_call 32;exact Calls.grown_of (K1.out _))))
        refine wpQuiet_nil ?_;intro _ hw';obtain⟨xg,rfl⟩:=hw';have hbg:=bt HBZ.out xg.bel
        go_wp2_with fail
        go_ret
        exact⟨by rw[←HX.out];rfl,hbg⟩
    · rw[if_pos (.inl h1)]at hP
      have HX:=Lib.hid hP;have b1:((p.se:Int)==(se0:Int))=false:=by rw[beq_eq_false_iff_ne];omega
      have b1n:((p.se:Int) != (se0:Int))=true:=by simp only[bne,b1,Bool.not_false]
      clear hP h1
      go_wp2_with fail
      rw[←hW];refine wp_region_grown (by kernel_rfl) (by kernel_rfl) ?_
      repeat (first|go_big_quiet_step ((go_at_call 32;exact Calls.grown_of (K1.out _)))|quiet_step ((go_at_call 32;exact Calls.grown_of (K1.out _))))
      refine wpQuiet_nil ?_;intro _ hw';obtain⟨xg,rfl⟩:=hw';have hbg:=bt HBZ.out xg.bel
      go_wp2_with fail
      go_ret
      exact⟨by rw[←HX.out];rfl,hbg⟩
  · have hP:=HP.out
    rw[List.drop_of_length_le (by rw[←HN.out];omega)]at hP;have HX:Hid (none=R):=Lib.hid hP;have m1:¬(i:Int)<(n:Int):=by omega
    clear hP
    go_wp2_with fail
    go_ret
    exact⟨by rw[←HX.out];rfl,HB.out⟩
theorem vk1(p:PG):gcells [p]=(#[.int .u8 p.fl.toNat,.int .u64 p.po,.int .u32 p.se,.int .u32 p.nu,.string p.la,.string p.bo]:Array Value).toList:=rfl
theorem qc5:∀(p s:List UInt8),Lib.hasPrefix s p=preM s p:=by
 intro p s;unfold preM;show p.isPrefixOf s=_;rw[Bool.eq_iff_iff,decide_eq_true_iff,List.isPrefixOf_iff_prefix,List.prefix_iff_eq_take];exact eq_comm
theorem jn4(s:ByteArray)(n:UInt8)(w:World):Calls Tryz.prog 31 #[.string s,.string ⟨#[n,118,111,114,98,105,115]⟩] w fun e w'=>e=.returned (.bool (preM (bl s) (vorb n)))∧w'=w:=by
 have:=Tryz.strings_HasPrefix s ⟨#[n,118,111,114,98,105,115]⟩ w;rw[show(⟨#[n,118,111,114,98,105,115]⟩:ByteArray).data.toList=vorb n from rfl,qc5]at this;exact this
set_option maxRecDepth 100000 in
theorem jf4(p:PG)(w:World)(hl:p.la.size≤1073741824)(hb:p.bo.size≤1073741824):
 Calls Tryz.prog 29 #[gV p] w fun e w'=>e=.returned (.bool (opensG p))∧Below w.heap.size w w':=by
 have kj:∀w':World,Calls Tryz.prog 63 #[.slice (some ⟨w'.heap.size,0,none⟩) 1 1] (w'.alloc (.cells #[.int .u8 p.fl.toNat,.int .u64 p.po,.int .u32 p.se,.int .u32 p.nu,.string p.la,.string p.bo] 27)) (JoinPost (joinG [p] 0 false [] []) (w'.alloc (.cells #[.int .u8 p.fl.toNat,.int .u64 p.po,.int .u32 p.se,.int .u32 p.nu,.string p.la,.string p.bo] 27))):=by
  intro w';exact kn7 _ [p] _ (by rw[vk1];exact kk4 w' _ _ 1) (by simp) (fun q hq=>by simp at hq;subst hq;exact⟨hl,hb⟩)
 have k2:=fun w=>kc4 p w
 unfold opensG;unfold gV;unfold hV at k2;generalize firstG p=fG at *;generalize joinG [p] 0 false [] []=J at *;obtain⟨ps,c,a⟩:=J;simp only;have kb:=fun w=>jb8 c a w
 have kx:∀(s:ByteArray) (w:World),Calls Tryz.prog 31 #[.string s,.string ⟨#[1,118,111,114,98,105,115]⟩] w fun e w'=>e=.returned (.bool (preM (bl s) (vorb 1)))∧w=w':=fun s w=>(jn4 s 1 w).mono fun e w' h=>⟨h.1,h.2.symm⟩
 unfold JoinPost at kj;simp only at kj;obtain⟨W,hW⟩:∃W,W=w.alloc (.cells #[.int .u8 p.fl.toNat,.int .u64 p.po,.int .u32 p.se,.int .u32 p.nu,.string p.la,.string p.bo] 27):=⟨_,rfl⟩;have hbW:Below w.heap.size w W:=by rw[hW];exact bal (Below.refl _ _) _
 have B0:W.heap[w.heap.size]?=some (.cells #[.int .u8 p.fl.toNat,.int .u64 p.po,.int .u32 p.se,.int .u32 p.nu,.string p.la,.string p.bo] 27 (0,0)):=by rw[hW];exact heap_alloc_new _ _
 obtain⟨p0,p1,p2,p3,p4,p5⟩:=gvL B0;have hWs:W.heap.size=w.heap.size+1:=by rw[hW,World.size_alloc]
 have kj:=kj W;rw[hWs]at kj;have hb0:=bal (Below.refl W.heap.size W) (.cells #[.int .u8 p.fl.toNat,.int .u64 p.po,.int .u32 p.se,.int .u32 p.nu,.string p.la,.string p.bo] 27);by_cases hc:c=0
 · subst hc
   rw[show(!decide ((0:Int)=0))=false from rfl]at kb;by_cases hl1:ps.length=1
   · obtain⟨q,rfl⟩:∃q,ps = [q]:=List.length_eq_one_iff.1 hl1
     simp only[List.headD_cons,List.length_cons,List.length_nil,List.map_cons,List.map_nil]at kj ⊢;cases fG with
     | true=>
      have hR:(decide True&&decide True&&true&&preM q (vorb 1))=preM (bl (toB q)) (vorb 1):=by rw[jf5];rfl
      rw[hR];have kx1:=fun w=>kx (toB q) w
      generalize preM (bl (toB q)) (vorb 1)=RR at *;have KJ:=Lib.hid kj;have K2:=Lib.hid k2;have KB:=Lib.hid kb;have KX:=Lib.hid kx1;have HBW:=Lib.hid hbW;have HB0:=Lib.hid B0;clear kj k2 kb kx1 hbW B0;clear hl1 kx hR hWs
      go_enter Tryz.func29,Tryz.ntmps29
      go_wp2_with fail
      rw[←hW];clear hW
      go_wp2_with (first
       | (go_at_call 63;refine KJ.out.mono ?_;rintro e1 w1 ⟨hb1,v,rfl,ho⟩;have hb2:=bal (bt hb0 hb1) (.cells #[.int .i64 0,.int .i64 a] 54);obtain⟨f0,_⟩:=Live.fresh w1 #[.int .i64 0,.int .i64 a] 54 0 _ rfl;obtain⟨f1,_⟩:=Live.fresh w1 #[.int .i64 0,.int .i64 a] 54 1 _ rfl;have hx1:=bal (Below.refl w1.heap.size w1) (.cells #[.int .i64 0,.int .i64 a] 54);obtain⟨av,cv,hvv,hcv⟩:=jc2 ho;obtain⟨gv,ov,rfl,hcell⟩:=hcv 0 (.string (toB q)) rfl;subst hvv;rw[Nat.add_zero]at hcell;have hcell:=kc hx1 hcell)
       | (go_at_call 16;refine(KB.out _).mono ?_;rintro e3 w3 ⟨rfl,hb3⟩;have hb4:=bt hb2 hb3;obtain⟨p0,p1,p2,p3,p4,p5⟩:=gvL (blkP HB0.out hb4);have hcell:=kc hb3 hcell)
       | (go_at_call 32;(with_reducible refine(K2.out _).mono ?_);rintro e5 w5 ⟨rfl,hb5⟩;have hb6:=bt hb4 hb5;have hcell:=kc hb5 hcell)
       | (go_at_call 31;(with_reducible refine(KX.out _).mono ?_);rintro e7 w7 ⟨rfl,rfl⟩)
       | fail)
      go_ret
      exact⟨rfl,bt HBW.out hb6⟩
     | false=>
      have hR:(decide True&&decide True&&false&&preM q (vorb 1))=false:=by simp
      rw[hR];have KJ:=Lib.hid kj;have K2:=Lib.hid k2;have KB:=Lib.hid kb;have HBW:=Lib.hid hbW;have HB0:=Lib.hid B0;clear kj k2 kb hbW B0;clear hl1 kx hR hWs
      go_enter Tryz.func29,Tryz.ntmps29
      go_wp2_with fail
      rw[←hW];clear hW
      go_wp2_with (first
       | (go_at_call 63;refine KJ.out.mono ?_;rintro e1 w1 ⟨hb1,v,rfl,ho⟩;have hb2:=bal (bt hb0 hb1) (.cells #[.int .i64 0,.int .i64 a] 54);obtain⟨f0,_⟩:=Live.fresh w1 #[.int .i64 0,.int .i64 a] 54 0 _ rfl;obtain⟨f1,_⟩:=Live.fresh w1 #[.int .i64 0,.int .i64 a] 54 1 _ rfl;have hx1:=bal (Below.refl w1.heap.size w1) (.cells #[.int .i64 0,.int .i64 a] 54);obtain⟨av,cv,hvv,hcv⟩:=jc2 ho;obtain⟨gv,ov,rfl,hcell⟩:=hcv 0 (.string (toB q)) rfl;subst hvv;rw[Nat.add_zero]at hcell;have hcell:=kc hx1 hcell)
       | (go_at_call 16;refine(KB.out _).mono ?_;rintro e3 w3 ⟨rfl,hb3⟩;have hb4:=bt hb2 hb3;obtain⟨p0,p1,p2,p3,p4,p5⟩:=gvL (blkP HB0.out hb4);have hcell:=kc hb3 hcell)
       | (go_at_call 32;(with_reducible refine(K2.out _).mono ?_);rintro e5 w5 ⟨rfl,hb5⟩;have hb6:=bt hb4 hb5;have hcell:=kc hb5 hcell)
       | fail)
      go_ret
      exact⟨rfl,bt HBW.out hb6⟩
   · have hR:(decide ((0:Int)=0)&&decide (ps.length=1)&&fG&&preM (ps.headD []) (vorb 1))=false:=by simp[hl1]
     rw[hR];generalize scells (ps.map toB)=cs at *;generalize ps.length=m at *;have hm1:((m:Int)==1)=false:=by rw[beq_eq_false_iff_ne];omega
     have hm2:(m==1)=false:=by rw[beq_eq_false_iff_ne];omega
     have hm3:¬(m:Int)=1:=by omega
     have KJ:=Lib.hid kj;have K2:=Lib.hid k2;have KB:=Lib.hid kb;have HBW:=Lib.hid hbW;have HB0:=Lib.hid B0;clear kj k2 kb hbW B0;clear hl1 kx hR hWs
     go_enter Tryz.func29,Tryz.ntmps29
     go_wp2_with fail
     rw[←hW];clear hW
     go_wp2_with (first
      | (go_at_call 63;refine KJ.out.mono ?_;rintro e1 w1 ⟨hb1,v,rfl,ho⟩;have hb2:=bal (bt hb0 hb1) (.cells #[.int .i64 0,.int .i64 a] 54);obtain⟨f0,_⟩:=Live.fresh w1 #[.int .i64 0,.int .i64 a] 54 0 _ rfl;obtain⟨f1,_⟩:=Live.fresh w1 #[.int .i64 0,.int .i64 a] 54 1 _ rfl;have hx1:=bal (Below.refl w1.heap.size w1) (.cells #[.int .i64 0,.int .i64 a] 54);obtain⟨av,cv,rfl⟩:=jb4 ho)
      | (go_at_call 16;refine(KB.out _).mono ?_;rintro e3 w3 ⟨rfl,hb3⟩;have hb4:=bt hb2 hb3)
      | fail)
     go_ret
     exact⟨rfl,bt HBW.out hb4⟩
 · have hR:(decide (c=0)&&decide (ps.length=1)&&fG&&preM (ps.headD []) (vorb 1))=false:=by simp[hc]
   rw[hR];rw[show(!decide (c=0))=true by simpa using hc]at kb;generalize scells (ps.map toB)=cs at *;generalize ps.length=m at *;have KJ:=Lib.hid kj;have K2:=Lib.hid k2;have KB:=Lib.hid kb;have HBW:=Lib.hid hbW;have HB0:=Lib.hid B0;clear kj k2 kb hbW B0;clear hc kx hR hWs
   go_enter Tryz.func29,Tryz.ntmps29
   go_wp2_with fail
   rw[←hW];clear hW
   go_wp2_with (first
    | (go_at_call 63;refine KJ.out.mono ?_;rintro e1 w1 ⟨hb1,v,rfl,ho⟩;have hb2:=bal (bt hb0 hb1) (.cells #[.int .i64 c,.int .i64 a] 54);obtain⟨f0,_⟩:=Live.fresh w1 #[.int .i64 c,.int .i64 a] 54 0 _ rfl;obtain⟨f1,_⟩:=Live.fresh w1 #[.int .i64 c,.int .i64 a] 54 1 _ rfl;have hx1:=bal (Below.refl w1.heap.size w1) (.cells #[.int .i64 c,.int .i64 a] 54);obtain⟨av,cv,rfl⟩:=jb4 ho)
    | (go_at_call 16;refine(KB.out _).mono ?_;rintro e3 w3 ⟨rfl,hb3⟩;have hb4:=bt hb2 hb3)
    | fail)
   go_ret
   exact⟨rfl,bt HBW.out hb4⟩
end Go.Proofs.YtagjkmkmphamoaaGreatDoor
