/- Yl -/
import Derived.Test.YtagjkmkmphamoaaGreatDoorPYk
import Derived.Deep.CutRange
set_option linter.all false
set_option maxHeartbeats 8000000
namespace Go.Proofs.YtagjkmkmphamoaaGreatDoor
open Go.RowKit
def RGPost(l:List PG)(w:World)(e:Ending)(w':World):Prop:=Below w.heap.size w w'∧∃v,e=.returned v∧w'.ownsRow w.heap.size 40 6 v l.length (rgcells l)
theorem vg9(l:List UInt8)(a:Nat)(c:UInt8)(h:l[a]?=some c):openL false (l.take (a+1))=(c==255):=by
 obtain⟨h1,h2⟩:=List.getElem?_eq_some_iff.1 h;rw[List.take_succ_eq_append_getElem h1,h2,←jg5]
 rfl
theorem vh0(l:List UInt8)(a:Nat):openL (openL false (l.take a)) ((l.drop a).take 255)=openL false (l.take (a+255)):=by
 rw[jg5,List.take_add]
theorem qs8(xs:List ByteArray)(k:Nat)(t:ByteArray)(h:xs[k]?=some t):lacesB (xs.take (k+1))=lacesB (xs.take k)++laceL t.size:=by
 obtain⟨h1,h2⟩:=List.getElem?_eq_some_iff.1 h;rw[List.take_succ_eq_append_getElem h1,h2];unfold lacesB;rw[List.flatMap_append];simp
theorem xf8(xs:List ByteArray)(k:Nat)(t:ByteArray)(h:xs[k]?=some t):((xs.take (k+1)).map bl).flatten=((xs.take k).map bl).flatten++bl t:=by
 obtain⟨h1,h2⟩:=List.getElem?_eq_some_iff.1 h;rw[List.take_succ_eq_append_getElem h1,h2];simp
theorem all_snoc(l:List UInt8)(a i:Nat)(c:UInt8)(hai:a≤i)(hc:l[i]?=some c):((l.drop a).take (i+1-a)).all (· == 255)=(((l.drop a).take (i-a)).all (· == 255)&&(c==255)):=by
 have h:(l.drop a)[i-a]?=some c:=by rw[List.getElem?_drop,show a+(i-a)=i by omega];exact hc
 obtain⟨h1,h2⟩:=List.getElem?_eq_some_iff.1 h;rw[show i+1-a=(i-a)+1 by omega,List.take_succ_eq_append_getElem h1,h2,List.all_append];simp
set_option maxRecDepth 100000 in
theorem qg3(se:Nat)(xs:List ByteArray)(v:Value)(w:World)(hrow:Row w v xs.length (scells xs))(hn:xs.length≤100)(hs:∀t∈xs,t.size≤8388608)(hse:se<4294967296):
 Calls Tryz.prog 34 #[.agg #[.int .i64 0,.int .u64 0,.int .u64 se,.int .u64 1,.string ⟨#[]⟩,.string ⟨#[]⟩],v] w (RGPost (pagesO se (lacesB xs).length 1 (lacesB xs) (xs.map bl).flatten false) w):=by
 obtain⟨R,hR⟩:∃R,R=pagesO se (lacesB xs).length 1 (lacesB xs) (xs.map bl).flatten false:=⟨_,rfl⟩;rw[←hR];obtain⟨av,cap,rfl,hc⟩:=hrow;obtain⟨n,hn'⟩:∃n,n=xs.length:=⟨_,rfl⟩;have hlen1:=jt5 8388608 xs hs;have hlen2:=kh4 8388608 xs hs;have htot:=kc2 xs;rw[←hn']at hn hlen1 hlen2 ⊢;have hl1:∀k,(lacesB (xs.take k)).length≤4000000:=fun k=>by
  have:=jt5 8388608 (xs.take k) (fun t ht=>hs t (List.mem_of_mem_take ht));rw[List.length_take]at this;have h2:min k xs.length≤n:=by omega
  have h3:min k xs.length*(8388608/255+1)≤n*(8388608/255+1):=Nat.mul_le_mul_right _ h2;omega
 have hl2:∀k,(((xs.take k).map bl).flatten).length≤1000000000:=fun k=>by
  have:=kh4 8388608 (xs.take k) (fun t ht=>hs t (List.mem_of_mem_take ht));rw[List.length_take]at this;have h3:min k xs.length*8388608≤n*8388608:=Nat.mul_le_mul_right _ (by omega);omega
 obtain⟨W,hW⟩:∃W,W=w.alloc (.cells #[.int .i64 0,.int .u64 0,.int .u64 se,.int .u64 1,.string ⟨#[]⟩,.string ⟨#[]⟩] 40):=⟨_,rfl⟩;have hbW:Below w.heap.size w W:=by rw[hW];exact bal (Below.refl _ _) _
 have HB:W.heap[w.heap.size]?=some (.cells #[.int .i64 0,.int .u64 0,.int .u64 se,.int .u64 1,.string ⟨#[]⟩,.string ⟨#[]⟩] 40 (0,0)):=by rw[hW];exact heap_alloc_new _ _
 have kl:=fun(t:ByteArray) (h:t.size≤8388608) w=>vt3 t.size w (by omega)
 have HC:=Lib.hid hc;have HR:=Lib.hid hR;have HN:=Lib.hid hn';have HSS:=Lib.hid hs;have KL:=Lib.hid kl;have HBW:=Lib.hid hbW;have HHB:=Lib.hid HB;have HL1:=Lib.hid hlen1;have HL2:=Lib.hid hlen2;have HTOT:=Lib.hid htot;have HLA:=Lib.hid hl1;have HLB:=Lib.hid hl2;clear hc hR hn' hs kl hbW HB hlen1 hlen2 htot hl1 hl2
 go_enter Tryz.func34,Tryz.ntmps34
 go_wp2_with fail
 rw[←hW];clear hW
 go_loopw [5,6,7] (fun lv bv kv wr=>∃k:Nat,lv=.string (toB (lacesB (xs.take k)))∧bv=.string (toB ((xs.take k).map bl).flatten)∧kv=.int .i64 (k:Int)∧k≤n∧Hid (Below W.heap.size W wr)) (fun _ _ kv _=>n-(intOf kv).toNat)
 case atStart=>exact⟨0,rfl,rfl,rfl,Nat.zero_le _,Lib.hid (Below.refl _ _)⟩
 case round=>
  obtain⟨k,rfl,rfl,rfl,hk,HBE⟩:=hrel;by_cases hlt:k<n
  · as_aux_lemma=>
     obtain⟨t,ht⟩:=jb6 xs k (by rw[←HN.out];exact hlt);obtain⟨gx,ox,rfl,d0⟩:=HC.out k _ (kj9 xs k t ht);replace d0:=kc HBE.out (kc HBW.out d0);have hts:=HSS.out t (List.mem_of_getElem? ht);have kl:=fun w=>KL.out t hts w
     have e1:toB (lacesB (xs.take k))++toB (laceL t.size)=toB (lacesB (xs.take (k+1))):=by rw[qs8 xs k t ht,qd9]
     have e2:toB ((xs.take k).map bl).flatten++t=toB ((xs.take (k+1)).map bl).flatten:=by
      rw[xf8 xs k t ht,←qd9,qf2]
     have s1:(toB (lacesB (xs.take k))).size≤4000000:=by rw[szB];exact HLA.out k
     have s2:(toB ((xs.take k).map bl).flatten).size≤1000000000:=by rw[szB];exact HLB.out k
     have s3:(toB (laceL t.size)).size≤33000:=by rw[szB,qj6];omega
     generalize toB (lacesB (xs.take k))=A at *;generalize toB ((xs.take k).map bl).flatten=B at *;generalize toB (laceL t.size)=C at *;have v1:¬(A.size+C.size > 9223372036854775807):=by omega
     have v2:A.size+C.size≤9223372036854775807:=by omega
     have v3:¬(B.size+t.size > 9223372036854775807):=by omega
     have v4:B.size+t.size≤9223372036854775807:=by omega
     have m0:(0:Int)≤(k:Int):=by omega
     have m1:(k:Int)<(n:Int):=by omega
     have KL1:=Lib.hid kl;have E1:=Lib.hid e1;have E2:=Lib.hid e2;clear kl e1 e2;clear ht
     go_wp2_with (first
      | (go_at_call 68;(with_reducible refine(KL1.out _).mono ?_);rintro e5 w5 ⟨rfl,hb5⟩;have hbe5:=bt HBE.out hb5;have d0:=kc hb5 d0)
      | fail)
     exact⟨⟨k+1,by rw[E1.out],by rw[E2.out],by go_num,by omega,Lib.hid hbe5⟩,by simp[intOf];omega⟩
  · have hkn:k=n:=by omega
    have m1:¬(k:Int)<(n:Int):=by omega
    have hx:xs.take k=xs:=List.take_of_length_le (by rw[←HN.out];omega);rw[hx];obtain⟨L,hL⟩:∃L,L=toB (lacesB xs):=⟨_,rfl⟩;obtain⟨T0,hT0⟩:∃T0,T0=toB (xs.map bl).flatten:=⟨_,rfl⟩;have hbL:bl L=lacesB xs:=by rw[hL,jf5]
    have hbT:bl T0=(xs.map bl).flatten:=by rw[hT0,jf5]
    have hLz:L.size≤4000000:=by have:=HLA.out k;rw[hx]at this;rw[hL,szB];exact this
    have hTz:T0.size≤1000000000:=by have:=HLB.out k;rw[hx]at this;rw[hT0,szB];exact this
    have hzT:T0.size=totL (bl L):=by rw[←jb1,hbT,hbL,HTOT.out]
    have hR2:=HR.out;rw[←hbL,←hbT,jb1]at hR2;rw[←hL,←hT0];have HZT:=Lib.hid hzT;have HR2:=Lib.hid hR2;clear hL hT0 hbL hbT hzT hR2 hx hkn hk
    go_wp2_with fail
    go_loopw [6,8,9] (fun bv pv kv wx=>∃(f a:Nat) (T:ByteArray) (D:List PG),bv=.string T∧kv=.int .i64 (a:Int)∧Hid (wx.ownsRow W.heap.size 40 6 pv D.length (rgcells D))∧Hid (Below W.heap.size W wx)∧Hid (D++pagesO se f (1+D.length) ((bl L).drop a) (bl T) (openL false ((bl L).take a))=R)∧L.size-a≤f∧Hid (T.size=totL ((bl L).drop a))∧D.length≤a∧a≤L.size+255∧T.size≤1000000000) (fun _ _ kv _=>L.size+255-(intOf kv).toNat)
    case atStart=>exact⟨L.size,0,T0,[],rfl,rfl,Lib.hid (World.ownsRow_nil _ _ _ _),HBE,Lib.hid (by rw[List.nil_append];exact HR2.out.symm),by omega,HZT,Nat.zero_le _,by omega,hTz⟩
    case round=>
     clear HR2 HZT HBE;obtain⟨f,a,T,D,rfl,rfl,HO,HBE,HP,hf,HZ,hDa,haL,hTT⟩:=hrel;obtain⟨aa,cc,rfl⟩:=jb4 HO.out;by_cases h0:a<L.size
     · obtain⟨f,rfl⟩:∃f',f=f'+1:=⟨f-1,by omega⟩
       have hne:(bl L).drop a ≠ []:=by
        intro e;have:=congrArg List.length e;rw[List.length_drop,jb1,List.length_nil]at this;omega
       have hP:=HP.out;rw[pagesO,if_neg hne]at hP;obtain⟨e,he⟩:∃e,e=min (a+255) L.size:=⟨_,rfl⟩;have hS1:bl (L.extract a e)=((bl L).drop a).take 255:=by
        rw[jr1];by_cases h:a+255≤L.size
        · rw[show e-a=255 by omega]
        · rw[List.take_of_length_le (by rw[List.length_drop,jb1];omega),List.take_of_length_le (by rw[List.length_drop,jb1];omega)]
       have hsz:=jc8 (((bl L).drop a).take 255) (((bl L).drop a).drop 255);rw[List.take_append_drop,←HZ.out,List.drop_drop]at hsz;obtain⟨sz,hsz0⟩:∃sz,sz=totL (((bl L).drop a).take 255):=⟨_,rfl⟩;have hT1:bl (T.extract 0 sz)=(bl T).take sz:=by rw[jr1,List.drop_zero,Nat.sub_zero]
       have hT2:bl (T.extract sz T.size)=(bl T).drop sz:=by rw[jr1,List.take_of_length_le (by rw[List.length_drop,jb1];omega)]
       have hZ2:(T.extract sz T.size).size=totL ((bl L).drop (a+255)):=by rw[←jb1,hT2,List.length_drop,jb1];omega
       have hZ3:(T.extract sz T.size).size≤1000000000:=by rw[ByteArray.size_extract];omega
       have hs1:(L.extract a e).size=e-a:=by rw[ByteArray.size_extract];omega
       have hP1:(D ++ [pageO se (1+D.length) (((bl L).drop a).take 255) ((bl T).take sz) (openL false ((bl L).take a))])++pagesO se f (1+(D.length+1)) ((bl L).drop (a+255)) (bl (T.extract sz T.size)) (openL false ((bl L).take (a+255)))=R:=by
        rw[hT2,←vh0,←List.drop_drop,List.append_assoc,hsz0];rw[←Nat.add_assoc];exact hP
       have hx:(⟨(((bl L).drop a).take 255).toArray⟩:ByteArray)=L.extract a e:=by rw[←hS1]
       have hy:(⟨((bl T).take sz).toArray⟩:ByteArray)=T.extract 0 sz:=by rw[←hT1]
       have hnm:(1+D.length)%4294967296=1+D.length:=Nat.mod_eq_of_lt (by omega);unfold pageO at hP1;rw[hx,hy,hnm]at hP1;have klg:∀w,Calls Tryz.prog 53 #[.string (L.extract a e)] w fun e w'=>e=.returned (.int .i64 (sz:Int))∧w=w':=fun w=>by
        have:=qm1 (L.extract a e) w (by omega);rw[hS1,←hsz0]at this;exact this
       have hall:(((bl L).drop a).take 255)=((bl L).drop a).take (e-a):=by rw[←hS1,jr1]
       obtain⟨AL,hAL⟩:∃AL,AL=(((bl L).drop a).take (e-a)).all (· == 255):=⟨_,rfl⟩;rw[hall,←hAL]at hP1;obtain⟨op,hop⟩:∃op,op=openL false ((bl L).take a):=⟨_,rfl⟩;rw[←hop]at hP1;have m1:(0:Int)≤(a:Int):=by omega
       have m2:(a:Int)<(L.size:Int):=by omega
       have m3:(a:Int)≤(e:Int):=by omega
       have m4:(e:Int)≤(L.size:Int):=by omega
       have m5:(0:Int)≤(e:Int):=by omega
       have m6:(0:Int)≤(sz:Int):=by omega
       have m7:(sz:Int)≤(T.size:Int):=by omega
       have hwa:IntKind.i64.wrap ((a:Int)+255)=(a:Int)+255:=wi64 _ (by omega) (by omega);have hD1:IntKind.u64.wrap (D.length:Int)=(D.length:Int):=jd3 _ (by omega) (by omega);have hD2:IntKind.u64.wrap (1+(D.length:Int))=1+(D.length:Int):=jd3 _ (by omega) (by omega);have hD3:(1+(D.length:Int))%4294967296=1+(D.length:Int):=by omega
       have hb0:=kc HBE.out (jb0 HHB.out 0 _ rfl).1;have hb1:=kc HBE.out (jb0 HHB.out 1 _ rfl).1;have hb2:=kc HBE.out (jb0 HHB.out 2 _ rfl).1;have hb3:=kc HBE.out (jb0 HHB.out 3 _ rfl).1;have HP1:=Lib.hid hP1;have HAL:=Lib.hid hAL;have HOP:=Lib.hid hop;have HZ2:=Lib.hid hZ2;have HS1:=Lib.hid hs1;have HZ3:=Lib.hid hZ3;have KLG:=Lib.hid klg;clear hP1 hAL hop hZ2 hs1 klg hne hP hS1 hsz hsz0 hT1 hT2 hx hy hnm hall HP HZ hZ3;have hbA:=bal (Below.refl wr.heap.size wr) (.cells #[.int .i64 0,.int .u64 0,.int .u64 0,.int .u64 0,.string ⟨#[]⟩,.string ⟨#[]⟩] 40);have ha0:=kc hbA hb0;have ha1:=kc hbA hb1;have ha2:=kc hbA hb2;have ha3:=kc hbA hb3;obtain⟨F,hF⟩:∃F:UInt8,F=if op=true then 1 else 0:=⟨_,rfl⟩
       obtain⟨Q,hQ⟩:∃Q:Nat,Q=if AL=true then 18446744073709551615 else 0:=⟨_,rfl⟩
       have hP2:=HP1.out;rw[←hF,←hQ]at hP2;have HP2:=Lib.hid hP2;have HF:=Lib.hid hF;have HQ:=Lib.hid hQ;clear hF hQ hP2 HP1
       go_upto_if 46 with fail
       go_cut [10] from 35 to 114 (fun s10 wx=>s10=.int .i64 (e:Int)∧wr=wx)
       case first=>as_aux_lemma=>
        by_cases he1:a+255≤L.size
        · have h1:¬((a:Int)+255 > (L.size:Int)):=by omega
          have h2:(a:Int)+255=(e:Int):=by omega
          clear he1 he
          go_wp2_with fail
          go_meet
          case rel=>exact⟨rfl,rfl⟩
        · have h1:((a:Int)+255 > (L.size:Int)):=by omega
          have h2:(L.size:Int)=(e:Int):=by omega
          clear he1 he
          go_wp2_with fail
          go_meet
          case rel=>exact⟨rfl,rfl⟩
       case rest=>
        obtain⟨hs10,hwc⟩:=hcut;subst hs10;subst hwc;clear he
        go_wp2_with fail
        go_region
        have hXb:=bal (Below.refl wr.heap.size wr) (.cells #[.int .i64 0,.int .u64 0,.int .u64 se,.int .u64 (1+(D.length:Int)),.string (L.extract a e),.string ⟨#[]⟩] 40);have hXh:=heap_alloc_new wr (.cells #[.int .i64 0,.int .u64 0,.int .u64 se,.int .u64 (1+(D.length:Int)),.string (L.extract a e),.string ⟨#[]⟩] 40);have HXB:=Lib.hid hXb.drew;have HXH:Hid ((wr.alloc (.cells #[.int .i64 0,.int .u64 0,.int .u64 se,.int .u64 (1+(D.length:Int)),.string (L.extract a e),.string ⟨#[]⟩] 40)).drew.heap[wr.heap.size]?=_):=Lib.hid hXh;clear hXb hXh ha0 ha1 ha2 ha3 hb0 hb1 hb2 hb3 hbA;generalize (wr.alloc (.cells #[.int .i64 0,.int .u64 0,.int .u64 se,.int .u64 (1+(D.length:Int)),.string (L.extract a e),.string ⟨#[]⟩] 40)).drew=X at *;have hcx:=HXH.out;obtain⟨c0,c0'⟩:=jb0 hcx 0 _ rfl;clear hcx
        go_upto_region 18 with fail
        go_cut [83] from 35 to 114 (fun s83 wx=>s83=.bool op∧X=wx)
        case first=>as_aux_lemma=>
         by_cases hz:a=0
         · have z1:decide ((a:Int) > 0)=false:=decide_eq_false (by omega)
           have z2:¬(a:Int) > 0:=by omega
           have z3:op=false:=by rw[HOP.out,hz];rfl
           clear hz
           go_wp2_with fail
           go_meet
           case rel=>exact⟨by rw[z3],rfl⟩
         · obtain⟨c,hc⟩:=jb6 (bl L) (a-1) (by rw[jb1];omega)
           have X1:∀h,L[a-1]'h=c:=jc7 L (a-1) c hc;have z3:op=(c==255):=by rw[HOP.out,←vg9 (bl L) (a-1) c hc,show a-1+1=a by omega]
           have hcn:((c.toNat:Int)==255)=(c==255):=by
            rw[Bool.eq_iff_iff,beq_iff_eq,beq_iff_eq];exact⟨fun h=>UInt8.toNat_inj.1 (by show c.toNat=255;omega),fun h=>by rw[h];rfl⟩
           have z1:decide ((a:Int) > 0)=true:=decide_eq_true (by omega);have z2:(a:Int) > 0:=by omega
           have z4:(0:Int)≤(a:Int)-1:=by omega
           have z5:(a:Int)-1<(L.size:Int):=by omega
           have z6:((a:Int)-1).toNat=a-1:=by omega
           rw[←z3]at hcn;clear hz hc z3
           go_wp2_with fail
           go_meet
           case rel=>exact⟨rfl,rfl⟩
        case rest=>
         obtain⟨hs83,hwc⟩:=hcut;subst hs83;subst hwc
         go_upto_if 83 with fail
         go_cut [] from 35 to 114 (fun wx=>Below wr.heap.size wr wx∧wx.heap[wr.heap.size]?=some (.cells #[.int .i64 (F.toNat:Int),.int .u64 0,.int .u64 se,.int .u64 (1+(D.length:Int)),.string (L.extract a e),.string ⟨#[]⟩] 40 (0,0)))
         case first=>as_aux_lemma=>
          have hbX:=HXB.out;have hhX:=HXH.out;cases op with
          | false=>
           have hF0:(F.toNat:Int)=0:=by rw[HF.out];rfl
           clear hhX
           go_wp2_with fail
           go_meet
           case rel=>exact⟨hbX,by rw[hF0];exact HXH.out⟩
          | true=>
           have hF0:(F.toNat:Int)=1:=by rw[HF.out];rfl
           go_wp2_with fail
           go_meet
           case rel=>exact⟨hbX.setCell (Nat.le_refl _) _,by rw[hF0];exact Go.Lib.heap_setCell_same (i:=0) HXH.out (.int .i64 1)⟩
         case rest=>
          obtain⟨hbc,hhc⟩:=hcut;have HXB2:=Lib.hid hbc;have HXH2:=Lib.hid hhc;clear hbc hhc HXB HXH c0 c0';generalize wc=X2 at *
          go_wp2_with fail
          go_loop [12,13] (fun fv iv=>∃i:Nat,fv=.bool (!((((bl L).drop a).take (i-a)).all (· == 255)))∧iv=.int .i64 (i:Int)∧a≤i∧i≤e) (fun _ iv=>e-(intOf iv).toNat)
          case atStart=>exact⟨a,by simp,rfl,Nat.le_refl _,by omega⟩
          case round=>
           obtain⟨i,rfl,rfl,hai,hie⟩:=hrel;by_cases hl3:i<e
           · as_aux_lemma=>
              obtain⟨c,hc⟩:=jb6 (bl L) i (by rw[jb1];omega);have X1:∀h,L[i]'h=c:=jc7 L i c hc;have hst:=all_snoc (bl L) a i c hai hc;generalize (((bl L).drop a).take (i-a)).all (· == 255)=q at *;have HST:=Lib.hid hst;have j0:(0:Int)≤(i:Int):=by omega
              have j1:(i:Int)<(L.size:Int):=by omega
              have j2:(i:Int)<(e:Int):=by omega
              have hcn:((c.toNat:Int)==255)=(c==255):=by
               rw[Bool.eq_iff_iff,beq_iff_eq,beq_iff_eq];exact⟨fun h=>UInt8.toNat_inj.1 (by show c.toNat=255;omega),fun h=>by rw[h];rfl⟩
              have hcn2:((c.toNat:Int) != 255) = !(c==255):=by rw[←hcn];rfl
              clear hst hc;cases q with
              | false=>
               go_wp2_with fail
               go_round
               case rel=>exact⟨i+1,by rw[HST.out];rfl,by go_num,by omega,by omega⟩
               case measure=>simp[intOf];omega
              | true=>
               generalize (c==255)=cb at *;cases cb with
               | false=>
                go_wp2_with fail
                go_round
                case rel=>exact⟨i+1,by rw[HST.out];rfl,by go_num,by omega,by omega⟩
                case measure=>simp[intOf];omega
               | true=>
                go_wp2_with fail
                go_round
                case rel=>exact⟨i+1,by rw[HST.out];rfl,by go_num,by omega,by omega⟩
                case measure=>simp[intOf];omega
           · have hie2:i=e:=by omega
             have j2:¬(i:Int)<(e:Int):=by omega
             rw[hie2,←HAL.out];clear hl3 hai hie
             go_upto_if 99 with fail
             go_cut [] from 35 to 114 (fun wx=>Below wr.heap.size wr wx∧wx.heap[wr.heap.size]?=some (.cells #[.int .i64 (F.toNat:Int),.int .u64 (Q:Int),.int .u64 se,.int .u64 (1+(D.length:Int)),.string (L.extract a e),.string ⟨#[]⟩] 40 (0,0)))
             case first=>as_aux_lemma=>
              have hq:=HQ.out;have hbX:=HXB2.out;cases AL with
              | false=>
               have hQ0:(Q:Int)=0:=by rw[hq];rfl
               clear hq
               go_wp2_with fail
               go_meet
               case rel=>exact⟨hbX,by rw[hQ0];exact HXH2.out⟩
              | true=>
               have hQ0:(Q:Int)=18446744073709551615:=by rw[hq];rfl
               have hcx:=HXH2.out;obtain⟨c1,c1'⟩:=jb0 hcx 1 _ rfl;clear hq hcx
               go_wp2_with fail
               go_meet
               case rel=>exact⟨hbX.setCell (Nat.le_refl _) _,by rw[hQ0];exact Go.Lib.heap_setCell_same (i:=1) HXH2.out (.int .u64 18446744073709551615)⟩
             case rest=>
              obtain⟨hbc,hhc⟩:=hcut;obtain⟨c0,c0'⟩:=jb0 hhc 0 _ rfl;obtain⟨c1,c1'⟩:=jb0 hhc 1 _ rfl;obtain⟨c2,c2'⟩:=jb0 hhc 2 _ rfl;obtain⟨c3,c3'⟩:=jb0 hhc 3 _ rfl;obtain⟨c4,c4'⟩:=jb0 hhc 4 _ rfl;obtain⟨c5,c5'⟩:=jb0 hhc 5 _ rfl;have hby:Below wr.heap.size wr (wc.setCell ⟨wr.heap.size,5,none⟩ (.string (T.extract 0 sz))):=hbc.setCell (Nat.le_refl _) _;have hoY:=jb2 HO.out hby;have hbY:=bt HBE.out hby;have HOY:=Lib.hid hoY;have HBY:=Lib.hid hbY;have HZY:=Lib.hid hbY.size;have y1:D.length<70368744177664:=by omega
              have y2:(D.length+1)*64≤140737488355328:=by omega
              clear hhc hbc hby hoY hbY HXB2 HXH2;generalize wc=X at *
              go_wp2_with (first
               | (go_at_call 53;(with_reducible refine(KLG.out _).mono ?_);rintro e7 w7 ⟨rfl,rfl⟩)
               | (at_builtin;(refine jc4 rfl _ _ 46 40 rfl Tryz.underlying46 (.agg #[.int .i64 0,.int .u64 0,.int .u64 0,.int .u64 0,.string ⟨#[]⟩,.string ⟨#[]⟩]) 6 64 vb6 rfl (by decide) (X.setCell ⟨wr.heap.size,5,none⟩ (.string (T.extract 0 sz))) W.heap.size (.slice aa D.length cc) D.length (rgcells D) rfl HOY.out #[.int .i64 (F.toNat:Int),.int .u64 (Q:Int),.int .u64 se,.int .u64 (1+(D.length:Int)),.string (L.extract a e),.string (T.extract 0 sz)] rfl (by simp[Value.oneCell']) (by show Value.slice (some ⟨X.heap.size,0,none⟩) 1 1=_;rw[World.size_setCell]) y1 y2 HZY.out ?_);intro v8 w8 hown8 hb8 hk8;have HO8:=Lib.hid hown8;have HB8:=Lib.hid hb8;clear hown8 hb8 hk8)
               | fail)
              go_roundw
              case rel=>
               exact⟨f,a+255,T.extract sz T.size,D ++ [⟨F,Q,se,1+D.length,L.extract a e,T.extract 0 sz⟩],rfl,by first|omega|go_num,Lib.hid (by rw[jr9,List.length_append];exact HO8.out),Lib.hid (HBY.out.trans HB8.out),Lib.hid (by rw[List.length_append];exact HP2.out),by omega,HZ2,by rw[List.length_append];simp;omega,by omega,HZ3.out⟩
              case measure=>simp[intOf];omega
     · have hnil:(bl L).drop a = []:=List.drop_of_length_le (by rw[jb1];omega)
       have hP:=HP.out;rw[hnil,kt4,List.append_nil]at hP;have HPP:=Lib.hid hP;have q2:¬(a:Int)<(L.size:Int):=by omega
       have ho:=HO.out;have HO4:=Lib.hid ho;clear hP hnil h0 HP HO ho
       go_wp2_with fail
       go_ret
       rw[←HPP.out];exact⟨HBW.out.trans (HBE.out.mono HBW.out.size),_,rfl,jc3 HO4.out HBW.out.size⟩
end Go.Proofs.YtagjkmkmphamoaaGreatDoor
