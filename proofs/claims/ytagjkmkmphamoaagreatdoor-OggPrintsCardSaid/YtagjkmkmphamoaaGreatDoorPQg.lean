/- Qg -/
import Derived.Test.YtagjkmkmphamoaaGreatDoorPB3
set_option linter.all false
set_option maxHeartbeats 8000000
namespace Go.Proofs.YtagjkmkmphamoaaGreatDoor
open Go.RowKit
def lacesB(xs:List ByteArray):List UInt8:=xs.flatMap fun p=>laceL p.size
def PPost(l:List PG)(w:World)(e:Ending)(w':World):Prop:=Below w.heap.size w w'∧∃v,e=.returned v∧w'.ownsRow w.heap.size 27 6 v l.length (gcells l)
def laceB(xs:List ByteArray):List ByteArray:=xs.map fun p=>toB (laceL p.size)
theorem kv3(xs:List ByteArray):((laceB xs).map bl).flatten=lacesB xs:=by
 unfold laceB lacesB;rw[List.map_map,List.flatMap_def]
 congr 1<;>(apply List.map_congr_left;intro a _;exact jf5 _)
theorem qj6(n:Nat):(laceL n).length=n/255+1:=by unfold laceL;simp
theorem jt5(N:Nat):∀xs:List ByteArray,(∀t∈xs,t.size≤N)→(lacesB xs).length≤xs.length*(N/255+1)
 | [],_=>Nat.zero_le _
 | x::r,h=>by
  have h1:=jt5 N r (fun t ht=>h t (by simp[ht]));have h2:=h x (by simp);have h3:x.size/255≤N/255:=Nat.div_le_div_right h2;unfold lacesB at h1 ⊢;rw[List.flatMap_cons,List.length_append,qj6,List.length_cons,Nat.add_mul];omega
theorem kh4(N:Nat):∀xs:List ByteArray,(∀t∈xs,t.size≤N)→((xs.map bl).flatten).length≤xs.length*N
 | [],_=>Nat.zero_le _
 | x::r,h=>by
  have h1:=kh4 N r (fun t ht=>h t (by simp[ht]));have h2:=h x (by simp);rw[List.map_cons,List.flatten_cons,List.length_append,jb1,List.length_cons,Nat.add_mul];omega
theorem kc2:∀xs:List ByteArray,((xs.map bl).flatten).length=totL (lacesB xs)
 | []=>rfl
 | x::r=>by
  have h:=kc2 r;unfold lacesB at h ⊢;rw[List.map_cons,List.flatten_cons,List.length_append,List.flatMap_cons,jc8,kg9,jb1,h]
theorem openL_ne{op:Bool}{l:List UInt8}(h:l ≠ []):openL op l=openL false l:=by
 unfold openL;cases hg:l.getLast? with
 | none=>exact absurd (List.getLast?_eq_none_iff.1 hg) h
 | some c=>rfl
theorem kt4(se f nu:Nat)(bo:List UInt8)(op:Bool):pagesO se f nu [] bo op = []:=by cases f<;>simp[pagesO]
set_option maxRecDepth 100000 in
theorem ks6(se nu0:Nat)(xs:List ByteArray)(B:Nat)(v:Value)(w:World)(hown:w.ownsRow B 9 1 v xs.length (scells xs))(hne:xs ≠ [])(hn:xs.length≤100)(hs:∀t∈xs,t.size≤8388608)(hse:se<4294967296)(hnu:nu0≤1000):
 Calls Tryz.prog 28 #[.agg #[.int .u8 0,.int .u64 0,.int .u32 se,.int .u32 nu0],v] w (PPost (pagesO se (lacesB xs).length nu0 (lacesB xs) (xs.map bl).flatten false) w):=by
 obtain⟨R,hR⟩:∃R,R=pagesO se (lacesB xs).length nu0 (lacesB xs) (xs.map bl).flatten false:=⟨_,rfl⟩;rw[←hR];obtain⟨av,cap,rfl⟩:=jb4 hown;obtain⟨av',cap',hvv,hc⟩:=jc2 hown;simp only[Value.slice.injEq]at hvv;obtain⟨rfl,_,rfl⟩:=hvv;obtain⟨n,hn'⟩:∃n,n=xs.length:=⟨_,rfl⟩;have n1:1≤n:=by
  have:=List.length_pos_iff.2 hne;omega
 have hlen1:=jt5 8388608 xs hs;have hlen2:=kh4 8388608 xs hs;have htot:=kc2 xs;rw[←hn']at hown hn hlen1 hlen2 ⊢;have kl:=fun(t:ByteArray) (h:t.size≤8388608) w=>qm2 t.size w (by omega)
 have kj1:∀(C:Nat) (u:Value) (w:World),w.ownsRow C 9 1 u n (scells (laceB xs))→Calls Tryz.prog 26 #[u] w fun e w'=>e=.returned (.string (toB (lacesB xs)))∧Below w.heap.size w w':=by
  intro C u w h;have:=jh3 C u (laceB xs) w (by unfold laceB at h ⊢;rw[List.length_map,←hn'];exact h) (by unfold laceB;simpa using hne) (by unfold laceB;rw[List.length_map];omega) (by rw[kv3];omega);rw[kv3]at this;exact this
 have kj2:∀w',Below w.heap.size w w'→Calls Tryz.prog 26 #[.slice av n cap] w' fun e w''=>e=.returned (.string (toB (xs.map bl).flatten))∧Below w'.heap.size w' w'':=by
  intro w' hb;exact jh3 B _ xs w' (by rw[←hn'];exact jb2 hown hb) hne (by omega) (by omega)
 obtain⟨i0,hi,hz0,hz1,hz2⟩:=info_parts jm6;obtain⟨W,hW⟩:∃W,W=w.alloc (.cells #[.int .u8 0,.int .u64 0,.int .u32 se,.int .u32 nu0] 25):=⟨_,rfl⟩;have hbW:Below w.heap.size w W:=by rw[hW];exact bal (Below.refl _ _) _
 have HB:W.heap[w.heap.size]?=some (.cells #[.int .u8 0,.int .u64 0,.int .u32 se,.int .u32 nu0] 25 (0,0)):=by rw[hW];exact heap_alloc_new _ _
 have hcc:((laceB xs).take n)=laceB xs:=List.take_of_length_le (by unfold laceB;rw[List.length_map];omega);have HC:=Lib.hid hc;have HR:=Lib.hid hR;have HN:=Lib.hid hn';have HSS:=Lib.hid hs;have KL:=Lib.hid kl;have KJ1:=Lib.hid kj1;have KJ2:=Lib.hid kj2;have HBW:=Lib.hid hbW;have HHB:=Lib.hid HB;have HCC:=Lib.hid hcc;have HL1:=Lib.hid hlen1;have HL2:=Lib.hid hlen2;have HTOT:=Lib.hid htot;have HOWN:=Lib.hid hown;clear hc hR hn' hs kl kj1 kj2 hbW HB hcc hlen1 hlen2 htot hown;clear hne
 go_enter Tryz.func28,Tryz.ntmps28
 go_upto_region 1 with fail
 rw[←hW];clear hW
 go_wp2_with (refine wpList_make_own _ rfl _ _ 77 rfl W.heap.size 9 i0 (.string ⟨#[]⟩) 1 Tryz.underlying77 hi hz0 hz1 .i64 .i64 (n:Int) n rfl rfl rfl (by rw[hz2];omega) (by unfold maxLen;omega) (Nat.le_refl _) ?_;intro W2 hown2 hgrow2)
 have hb2:Below W.heap.size W W2:=(Below.refl _ _).grown hgrow2 (Nat.le_refl _) (fun k hk=>by cases hk);have HO2:=Lib.hid hown2;have HB2:=Lib.hid hb2;clear hown2 hgrow2 hi hz0 hz1 hz2
 go_loopw [5,20] (fun pv kv wr=>∃k:Nat,kv=.int .i64 (k:Int)∧k≤n∧Hid (wr.ownsRow W.heap.size 9 1 pv k (scells ((laceB xs).take k)))∧Hid (Below W.heap.size W wr)) (fun _ kv _=>n-(intOf kv).toNat)
 case atStart=>exact⟨0,rfl,Nat.zero_le _,HO2,HB2⟩
 case round=>
  clear HO2;obtain⟨k,rfl,hk,HO,HBE⟩:=hrel;by_cases hlt:k<n
  · obtain⟨t,ht⟩:=jb6 xs k (by rw[←HN.out];exact hlt)
    obtain⟨gx,ox,rfl,d0⟩:=HC.out k _ (kj9 xs k t ht);replace d0:=kc HBE.out (kc HBW.out d0);have hts:=HSS.out t (List.mem_of_getElem? ht);have hlx:(laceB xs)[k]?=some (toB (laceL t.size)):=by unfold laceB;rw[List.getElem?_map,ht];rfl
    have hstep:scells ((laceB xs).take (k+1))=scells ((laceB xs).take k)++(#[.string (toB (laceL t.size))]:Array Value).toList:=by
     rw[List.take_add_one,hlx,jd4]
     rfl
    have HST:=Lib.hid hstep;have kl:=fun w=>KL.out t hts w
    have KL1:=Lib.hid kl;have m0:(0:Int)≤(k:Int):=by omega
    have m1:(k:Int)<(n:Int):=by omega
    have z1:k<70368744177664:=by omega
    have z2:(k+1)*16≤140737488355328:=by omega
    clear hstep hlx ht kl
    go_wp2_with (first
     | (go_at_call 59;(with_reducible refine(KL1.out _).mono ?_);rintro e5 w5 ⟨rfl,hb5⟩;have ho5:=jb2 HO.out hb5;have hz5:=Nat.le_trans HBE.out.size hb5.size;have hbe5:=bt HBE.out hb5)
     | (at_builtin;refine jc4 rfl _ _ 77 9 rfl Tryz.underlying77 (.string ⟨#[]⟩) 1 16 jm6 rfl (by decide) w5 W.heap.size u5 k (scells ((laceB xs).take k)) rfl ho5 #[.string (toB (laceL t.size))] rfl (by simp[Value.oneCell']) rfl z1 z2 hz5 ?_;intro v6 w6 hown6 hb6 hk6;rw[←HST.out]at hown6)
     | fail)
    have HO6:=Lib.hid hown6;have HB6:=Lib.hid (hbe5.trans hb6)
    go_roundw
    case rel=>exact⟨k+1,by go_num,by omega,HO6,HB6⟩
    case measure=>simp[intOf];omega
  · have hkn:k=n:=by omega
    have ho:=HO.out;rw[hkn,HCC.out]at ho;have m1:¬(k:Int)<(n:Int):=by omega
    have hbz:=HBE.out;obtain⟨S0,hS0⟩:∃S0,S0=toB (lacesB xs):=⟨_,rfl⟩;obtain⟨T0,hT0⟩:∃T0,T0=toB (xs.map bl).flatten:=⟨_,rfl⟩;have hbS:bl S0=lacesB xs:=by rw[hS0,jf5]
    have hbT:bl T0=(xs.map bl).flatten:=by rw[hT0,jf5]
    have hzS:S0.size=(lacesB xs).length:=by rw[←hbS,jb1]
    have hzT:T0.size=totL (bl S0):=by rw[←jb1,hbT,hbS,HTOT.out]
    have hR2:=HR.out;rw[←hbS,←hbT]at hR2;rw[jb1]at hR2;have hmax:S0.size≤4000000:=by have:=HL1.out;rw[hzS];omega
    have kj1:=fun C u w h=>KJ1.out C u w h
    rw[←hS0]at kj1;have kj2:=fun w' h=>KJ2.out w' h
    rw[←hT0]at kj2;have KJA:=Lib.hid kj1;have KJB:=Lib.hid kj2;have HZT:=Lib.hid hzT;have HR2:=Lib.hid hR2;have HO3:=Lib.hid ho;have HBZ3:=Lib.hid hbz;clear kj1 kj2 hzT hR2 ho hbz;clear hS0 hT0 hbS hbT hzS hkn hk
    go_wp2_with (first
     | (go_at_call 26;(with_reducible refine(KJA.out _ _ _ HO3.out).mono ?_);rintro e7 w7 ⟨rfl,hb7⟩)
     | (go_at_call 26;(with_reducible refine(KJB.out _ (bt HBW.out (bt HBZ3.out hb7))).mono ?_);rintro e8 w8 ⟨rfl,hb8⟩)
     | fail)
    have hb9:=bt (bt HBZ3.out hb7) hb8;have HB9:=Lib.hid hb9;clear hb7 hb8 hb9 HO3 HBZ3 HO HBE
    go_loopw [8,9,10,11] (fun Sv Tv lv ov wr=>∃(f:Nat) (S T:ByteArray) (op:Bool) (D:List PG),Sv=.string S∧Tv=.string T∧ov=.bool op∧Hid (wr.ownsRow W.heap.size 27 6 lv D.length (gcells D))∧Hid (Below W.heap.size W wr)∧Hid (D++pagesO se f (nu0+D.length) (bl S) (bl T) op=R)∧S.size≤f∧Hid (T.size=totL (bl S))∧D.length+S.size≤4000000) (fun Sv _ _ _ _=>match Sv with | .string S=>S.size|_=>0)
    case atStart=>exact⟨S0.size,S0,T0,false,[],rfl,rfl,rfl,Lib.hid (World.ownsRow_nil _ _ _ _),HB9,Lib.hid (by rw[List.nil_append];exact HR2.out.symm),Nat.le_refl _,HZT,by rw[List.length_nil];omega⟩
    case round=>
     clear HB9 HR2 HZT;obtain⟨f,S,T,op,D,rfl,rfl,rfl,HO,HBE,HP,hf,HZ,hD⟩:=hrel;by_cases h0:S.size=0
     · have hnil:bl S = []:=List.eq_nil_of_length_eq_zero (by rw[jb1];exact h0)
       have hP:=HP.out;rw[hnil,kt4,List.append_nil]at hP;have HPP:=Lib.hid hP;have q1:¬0<S.size:=by omega
       have q2:¬(0:Int)<(S.size:Int):=by omega
       have ho:=HO.out;have HO4:=Lib.hid ho;clear hP hnil h0 HP HO ho
       go_wp2_with fail
       go_ret
       rw[←HPP.out];exact⟨HBW.out.trans (HBE.out.mono HBW.out.size),_,rfl,jc3 HO4.out HBW.out.size⟩
     · obtain⟨f,rfl⟩:∃f',f=f'+1:=⟨f-1,by omega⟩
       have hne:bl S ≠ []:=fun e=>h0 (by rw[←jb1,e];rfl)
       have hP:=HP.out;rw[pagesO,if_neg hne]at hP;obtain⟨m,hm⟩:∃m,m=min S.size 255:=⟨_,rfl⟩;have hS1:bl (S.extract 0 m)=(bl S).take 255:=by
        rw[jr1,List.drop_zero,Nat.sub_zero];by_cases h:S.size≤255
        · rw[List.take_of_length_le (by rw[jb1];omega),List.take_of_length_le (by rw[jb1];omega)]
        · rw[show m=255 by omega]
       have hS2:bl (S.extract m S.size)=(bl S).drop 255:=by
        rw[jr1,List.take_of_length_le (by rw[List.length_drop,jb1];omega)];by_cases h:S.size≤255
        · rw[List.drop_of_length_le (by rw[jb1];omega),List.drop_of_length_le (by rw[jb1];omega)]
        · rw[show m=255 by omega]
       have hsz:=jc8 ((bl S).take 255) ((bl S).drop 255);rw[List.take_append_drop,←HZ.out]at hsz;obtain⟨sz,hsz0⟩:∃sz,sz=totL ((bl S).take 255):=⟨_,rfl⟩;have hT1:bl (T.extract 0 sz)=(bl T).take sz:=by rw[jr1,List.drop_zero,Nat.sub_zero]
       have hT2:bl (T.extract sz T.size)=(bl T).drop sz:=by rw[jr1,List.take_of_length_le (by rw[List.length_drop,jb1];omega)]
       have hZ2:(T.extract sz T.size).size=totL (bl (S.extract m S.size)):=by rw[←jb1,hT2,hS2,List.length_drop,jb1];omega
       have hs2:(S.extract m S.size).size=S.size-m:=by rw[←jb1,hS2,List.length_drop,jb1];omega
       have hs1:(S.extract 0 m).size=m:=by rw[←jb1,hS1,List.length_take,jb1];omega
       have kc1:∀w,Calls Tryz.prog 60 #[.string (S.extract 0 m)] w fun e w'=>e=.returned (.int .i64 sz)∧w=w':=fun w=>by
        have:=vk0 (S.extract 0 m) w (by omega);rw[hS1,←hsz0]at this;exact this
       have ke1:=fun w=>xf3 (S.extract 0 m) w (by omega)
       rw[hS1]at ke1;have m1:(0:Int)≤(m:Int):=by omega
       have m2:(m:Int)≤(S.size:Int):=by omega
       have m3:(0:Int)≤(sz:Int):=by omega
       have m4:(sz:Int)≤(T.size:Int):=by omega
       have m5:(0:Int)<(S.size:Int):=by omega
       have m6:0<S.size:=by omega
       have hb0:=kc HBE.out (jb0 HHB.out 0 _ rfl).1;have hb1:=kc HBE.out (jb0 HHB.out 1 _ rfl).1;have hb2:=kc HBE.out (jb0 HHB.out 2 _ rfl).1;have hb3:=kc HBE.out (jb0 HHB.out 3 _ rfl).1;have hmin:min (S.size:Int) 255=(m:Int):=by omega
       have hmn:(m:Int).toNat=m:=rfl;have hnuw:IntKind.u32.wrap ((nu0:Int)+(D.length:Int))=((nu0+D.length:Nat):Int):=by rw[IntKind.wrap_u32];omega
       have hDw:IntKind.u32.wrap (D.length:Int)=(D.length:Int):=by rw[IntKind.wrap_u32];omega
       have hnm:(nu0+D.length)%4294967296=nu0+D.length:=Nat.mod_eq_of_lt (by omega);have ho1:openL false (bl (S.extract 0 m))=openL op ((bl S).take 255):=by
        rw[hS1];exact(openL_ne (by
         intro e;have:=congrArg List.length e;rw[List.length_take,jb1]at this;rw[List.length_nil]at this;omega)).symm
       have hP1:(D ++ [pageO se (nu0+D.length) ((bl S).take 255) ((bl T).take sz) op])++pagesO se f (nu0+(D.length+1)) (bl (S.extract m S.size)) (bl (T.extract sz T.size)) (openL false (bl (S.extract 0 m)))=R:=by
        rw[ho1,hS2,hT2,List.append_assoc,←Nat.add_assoc];rw[←hsz0]at hP;exact hP
       have hx:(⟨((bl S).take 255).toArray⟩:ByteArray)=S.extract 0 m:=by rw[←hS1]
       have hy:(⟨((bl T).take sz).toArray⟩:ByteArray)=T.extract 0 sz:=by rw[←hT1]
       unfold pageO at hP1;rw[hx,hy,hnm]at hP1;obtain⟨nu,hnu2⟩:∃nu,nu=nu0+D.length:=⟨_,rfl⟩;rw[←hnu2]at hP1;have hcast:((nu:Nat):Int)=(nu0:Int)+(D.length:Int):=by omega
       have HCA:=Lib.hid hcast;rw[show((bl S).take 255)=bl (S.extract 0 m) from hS1.symm]at hP1 ke1;have kop:∀(fl:UInt8) (po:Nat) (w:World),Calls Tryz.prog 62 #[.agg #[.int .u8 fl.toNat,.int .u64 po,.int .u32 se,.int .u32 ((nu0:Int)+(D.length:Int)),.string (S.extract 0 m),.string (T.extract 0 sz)]] w fun e w'=>e=.returned (.bool (openL false (bl (S.extract 0 m))))∧Below w.heap.size w w':=fun fl po w=>by
        have:=qm0 ⟨fl,po,se,nu,S.extract 0 m,T.extract 0 sz⟩ w (by show(S.extract 0 m).size≤_;rw[hs1];omega);unfold gV at this;simp only at this;rw[hcast]at this;exact this
       have hDz:D.length+1+(S.extract m S.size).size≤4000000:=by rw[hs2];omega
       have hfz:(S.extract m S.size).size≤f:=by rw[hs2];omega
       have hmz:(S.extract m S.size).size<S.size:=by rw[hs2];omega
       have z1:D.length<70368744177664:=by omega
       have z2:(D.length+1)*56≤140737488355328:=by omega
       generalize openL false (bl (S.extract 0 m))=op1 at *;have hmin:min (S.size:Int) 255=(m:Int):=by omega
       have hnuw:IntKind.u32.wrap ((nu0:Int)+(D.length:Int))=(nu0:Int)+(D.length:Int):=by rw[IntKind.wrap_u32];omega
       have hban:bits BinOp.andNot IntKind.u8 0 1=0:=by decide
       have hDw:IntKind.u32.wrap (D.length:Int)=(D.length:Int):=by rw[IntKind.wrap_u32];omega
       have n1:¬w.heap.size=wr.heap.size:=by have:=jd2 hb0;omega
       have n2:¬wr.heap.size=w.heap.size:=fun e=>n1 e.symm
       have hba:=bal (Below.refl wr.heap.size wr) (.cells #[.int .u8 0,.int .u64 0,.int .u32 0,.int .u32 0,.string ⟨#[]⟩,.string ⟨#[]⟩] 27);have hc0:=kc hba hb0;have hc1:=kc hba hb1;have hc2:=kc hba hb2;have hc3:=kc hba hb3;have HP1:=Lib.hid hP1;have HFZ:=Lib.hid hfz;have HMZ:=Lib.hid hmz;have HDZ:=Lib.hid hDz;have KC1:=Lib.hid kc1;have KE1:=Lib.hid ke1;have HZ2:=Lib.hid hZ2;have KOP:=Lib.hid kop;clear kc1 ke1 hZ2 kop;clear hcast hnu2 hne h0 hba hS1 hS2 hT1 hT2 hs2 hs1 hsz0 hP hsz hm hx hy hnm ho1 hP1 hfz hmz hDz HP HZ;obtain⟨av2,cv2,hu10⟩:=jb4 HO.out;subst hu10;obtain⟨WP,hWP⟩:∃WP,WP=((wr.alloc (.cells #[.int .u8 0,.int .u64 0,.int .u32 se,.int .u32 nu0,.string (S.extract 0 m),.string (T.extract 0 sz)] 27)).drew).drew:=⟨_,rfl⟩;have hbP:Below wr.heap.size wr WP:=by rw[hWP];exact(bal (Below.refl _ _) _).drew.drew
       have BP:WP.heap[wr.heap.size]?=some (.cells #[.int .u8 0,.int .u64 0,.int .u32 se,.int .u32 nu0,.string (S.extract 0 m),.string (T.extract 0 sz)] 27 (0,0)):=by rw[hWP];exact heap_alloc_new _ _
       obtain⟨v0,v0'⟩:=jb0 BP 0 _ rfl;obtain⟨v1,v1'⟩:=jb0 BP 1 _ rfl;obtain⟨v2,v2'⟩:=jb0 BP 2 _ rfl;obtain⟨v3,v3'⟩:=jb0 BP 3 _ rfl;obtain⟨v4,v4'⟩:=jb0 BP 4 _ rfl;obtain⟨v5,v5'⟩:=jb0 BP 5 _ rfl;have HBP:=Lib.hid BP;have HbP:=Lib.hid hbP;clear BP hbP;have w0:=kc HbP.out hb0;have w3:=kc HbP.out hb3;cases op with
       | true=>
        cases hal:(bl (S.extract 0 m)).all (· == 255)with
        | true=>
         have ke2:=KE1.out;rw[hal]at ke2;have hp2:=HP1.out;rw[hal]at hp2;simp only[if_true,Bool.not_true,Bool.not_false,Bool.false_eq_true,if_false]at ke2 hp2;clear KE1 HP1 hal;have KE1:=Lib.hid ke2;have HP1:=Lib.hid hp2;clear ke2 hp2;obtain⟨WS,hWS⟩:∃WS,WS=(((WP.setCell ⟨wr.heap.size,3,none⟩ (.int .u32 ((nu0:Int)+(D.length:Int)))).setCell ⟨wr.heap.size,0,none⟩ (.int .u8 1)).setCell ⟨wr.heap.size,1,none⟩ (.int .u64 18446744073709551615)):=⟨_,rfl⟩;have BS:WS.heap[wr.heap.size]?=some (.cells #[.int .u8 1,.int .u64 18446744073709551615,.int .u32 se,.int .u32 ((nu0:Int)+(D.length:Int)),.string (S.extract 0 m),.string (T.extract 0 sz)] 27 (0,0)):=by
          have s1:=Go.Lib.heap_setCell_same (i:=3) HBP.out (.int .u32 ((nu0:Int)+(D.length:Int)));have s2:=Go.Lib.heap_setCell_same (i:=0) s1 (.int .u8 1);have s3:=Go.Lib.heap_setCell_same (i:=1) s2 (.int .u64 18446744073709551615);rw[hWS,s3];simp
         have hbS:Below wr.heap.size wr WS:=by
          rw[hWS]
          iterate 3 refine Below.setCell ?_ (by simp) _
          exact HbP.out
         have HWS:=Lib.hid hWS;have HBS:=Lib.hid BS;have HbS:=Lib.hid hbS;clear hWS BS hbS;have kop:∀(w:World),Calls Tryz.prog 62 #[.agg #[.int .u8 1,.int .u64 18446744073709551615,.int .u32 se,.int .u32 ((nu0:Int)+(D.length:Int)),.string (S.extract 0 m),.string (T.extract 0 sz)]] w fun e w'=>e=.returned (.bool op1)∧Below w.heap.size w w':=KOP.out 1 18446744073709551615
         have KOP1:=Lib.hid kop;clear kop KOP
         go_upto_region 13 with fail
         go_region
         go_upto_region 16 with(go_at_call 60;(with_reducible refine(KC1.out _).mono ?_);rintro e2 w2 ⟨rfl,rfl⟩)
         go_region
         rw[←hWP];clear hWP
         go_wp2_with (first
          | (go_at_call 61;(with_reducible refine(KE1.out _).mono ?_);rintro e4 w4 ⟨rfl,rfl⟩)
          | (go_at_call 62;rw[←HWS.out];(with_reducible refine(KOP1.out _).mono ?_);rintro e5 w5 ⟨rfl,hb5⟩;have B5:=blkP HBS.out hb5;obtain⟨y0,y1,y2,y3,y4,y5⟩:=gvL B5;have hbx:=bt HbS.out hb5;have ho5:=jb2 HO.out hbx;have hbw:=bt HBE.out hbx)
          | (at_builtin;refine jc4 rfl _ _ 34 27 rfl Tryz.underlying34 (.agg #[.int .u8 0,.int .u64 0,.int .u32 0,.int .u32 0,.string ⟨#[]⟩,.string ⟨#[]⟩]) 6 56 jf6 rfl (by decide) w5 W.heap.size (.slice av2 D.length cv2) D.length (gcells D) rfl ho5 #[.int .u8 1,.int .u64 18446744073709551615,.int .u32 se,.int .u32 ((nu0:Int)+(D.length:Int)),.string (S.extract 0 m),.string (T.extract 0 sz)] rfl (by simp[Value.oneCell']) rfl z1 z2 hbw.size ?_;intro v6 w6 hown6 hb6 hk6)
          | fail)
         have HO6:Hid (w6.ownsRow W.heap.size 27 6 v6 (D ++ [(⟨1,18446744073709551615,se,nu,S.extract 0 m,T.extract 0 sz⟩:PG)]).length (gcells (D ++ [(⟨1,18446744073709551615,se,nu,S.extract 0 m,T.extract 0 sz⟩:PG)]))):=Lib.hid (by rw[jg8,List.length_append];simp only;rw[HCA.out];exact hown6);exact⟨⟨f,_,_,op1,_,rfl,rfl,rfl,HO6,Lib.hid (hbw.trans hb6),Lib.hid (by rw[List.length_append];exact HP1.out),HFZ.out,HZ2,by rw[List.length_append];exact HDZ.out⟩,HMZ.out⟩
        | false=>
         have ke2:=KE1.out;rw[hal]at ke2;have hp2:=HP1.out;rw[hal]at hp2;simp only[if_true,Bool.not_true,Bool.not_false,Bool.false_eq_true,if_false]at ke2 hp2;clear KE1 HP1 hal;have KE1:=Lib.hid ke2;have HP1:=Lib.hid hp2;clear ke2 hp2;obtain⟨WS,hWS⟩:∃WS,WS=((WP.setCell ⟨wr.heap.size,3,none⟩ (.int .u32 ((nu0:Int)+(D.length:Int)))).setCell ⟨wr.heap.size,0,none⟩ (.int .u8 1)):=⟨_,rfl⟩;have BS:WS.heap[wr.heap.size]?=some (.cells #[.int .u8 1,.int .u64 0,.int .u32 se,.int .u32 ((nu0:Int)+(D.length:Int)),.string (S.extract 0 m),.string (T.extract 0 sz)] 27 (0,0)):=by
          have s1:=Go.Lib.heap_setCell_same (i:=3) HBP.out (.int .u32 ((nu0:Int)+(D.length:Int)));have s2:=Go.Lib.heap_setCell_same (i:=0) s1 (.int .u8 1);rw[hWS,s2];simp
         have hbS:Below wr.heap.size wr WS:=by
          rw[hWS]
          iterate 2 refine Below.setCell ?_ (by simp) _
          exact HbP.out
         have HWS:=Lib.hid hWS;have HBS:=Lib.hid BS;have HbS:=Lib.hid hbS;clear hWS BS hbS;have kop:∀(w:World),Calls Tryz.prog 62 #[.agg #[.int .u8 1,.int .u64 0,.int .u32 se,.int .u32 ((nu0:Int)+(D.length:Int)),.string (S.extract 0 m),.string (T.extract 0 sz)]] w fun e w'=>e=.returned (.bool op1)∧Below w.heap.size w w':=KOP.out 1 0
         have KOP1:=Lib.hid kop;clear kop KOP
         go_upto_region 13 with fail
         go_region
         go_upto_region 16 with(go_at_call 60;(with_reducible refine(KC1.out _).mono ?_);rintro e2 w2 ⟨rfl,rfl⟩)
         go_region
         rw[←hWP];clear hWP
         go_wp2_with (first
          | (go_at_call 61;(with_reducible refine(KE1.out _).mono ?_);rintro e4 w4 ⟨rfl,rfl⟩)
          | (go_at_call 62;rw[←HWS.out];(with_reducible refine(KOP1.out _).mono ?_);rintro e5 w5 ⟨rfl,hb5⟩;have B5:=blkP HBS.out hb5;obtain⟨y0,y1,y2,y3,y4,y5⟩:=gvL B5;have hbx:=bt HbS.out hb5;have ho5:=jb2 HO.out hbx;have hbw:=bt HBE.out hbx)
          | (at_builtin;refine jc4 rfl _ _ 34 27 rfl Tryz.underlying34 (.agg #[.int .u8 0,.int .u64 0,.int .u32 0,.int .u32 0,.string ⟨#[]⟩,.string ⟨#[]⟩]) 6 56 jf6 rfl (by decide) w5 W.heap.size (.slice av2 D.length cv2) D.length (gcells D) rfl ho5 #[.int .u8 1,.int .u64 0,.int .u32 se,.int .u32 ((nu0:Int)+(D.length:Int)),.string (S.extract 0 m),.string (T.extract 0 sz)] rfl (by simp[Value.oneCell']) rfl z1 z2 hbw.size ?_;intro v6 w6 hown6 hb6 hk6)
          | fail)
         have HO6:Hid (w6.ownsRow W.heap.size 27 6 v6 (D ++ [(⟨1,0,se,nu,S.extract 0 m,T.extract 0 sz⟩:PG)]).length (gcells (D ++ [(⟨1,0,se,nu,S.extract 0 m,T.extract 0 sz⟩:PG)]))):=Lib.hid (by rw[jg8,List.length_append];simp only;rw[HCA.out];exact hown6);exact⟨⟨f,_,_,op1,_,rfl,rfl,rfl,HO6,Lib.hid (hbw.trans hb6),Lib.hid (by rw[List.length_append];exact HP1.out),HFZ.out,HZ2,by rw[List.length_append];exact HDZ.out⟩,HMZ.out⟩
       | false=>
        cases hal:(bl (S.extract 0 m)).all (· == 255)with
        | true=>
         have ke2:=KE1.out;rw[hal]at ke2;have hp2:=HP1.out;rw[hal]at hp2;simp only[if_true,Bool.not_true,Bool.not_false,Bool.false_eq_true,if_false]at ke2 hp2;clear KE1 HP1 hal;have KE1:=Lib.hid ke2;have HP1:=Lib.hid hp2;clear ke2 hp2;obtain⟨WS,hWS⟩:∃WS,WS=(((WP.setCell ⟨wr.heap.size,3,none⟩ (.int .u32 ((nu0:Int)+(D.length:Int)))).setCell ⟨wr.heap.size,0,none⟩ (.int .u8 0)).setCell ⟨wr.heap.size,1,none⟩ (.int .u64 18446744073709551615)):=⟨_,rfl⟩;have BS:WS.heap[wr.heap.size]?=some (.cells #[.int .u8 0,.int .u64 18446744073709551615,.int .u32 se,.int .u32 ((nu0:Int)+(D.length:Int)),.string (S.extract 0 m),.string (T.extract 0 sz)] 27 (0,0)):=by
          have s1:=Go.Lib.heap_setCell_same (i:=3) HBP.out (.int .u32 ((nu0:Int)+(D.length:Int)));have s2:=Go.Lib.heap_setCell_same (i:=0) s1 (.int .u8 0);have s3:=Go.Lib.heap_setCell_same (i:=1) s2 (.int .u64 18446744073709551615);rw[hWS,s3];simp
         have hbS:Below wr.heap.size wr WS:=by
          rw[hWS]
          iterate 3 refine Below.setCell ?_ (by simp) _
          exact HbP.out
         have HWS:=Lib.hid hWS;have HBS:=Lib.hid BS;have HbS:=Lib.hid hbS;clear hWS BS hbS;have kop:∀(w:World),Calls Tryz.prog 62 #[.agg #[.int .u8 0,.int .u64 18446744073709551615,.int .u32 se,.int .u32 ((nu0:Int)+(D.length:Int)),.string (S.extract 0 m),.string (T.extract 0 sz)]] w fun e w'=>e=.returned (.bool op1)∧Below w.heap.size w w':=KOP.out 0 18446744073709551615
         have KOP1:=Lib.hid kop;clear kop KOP
         go_upto_region 13 with fail
         go_region
         go_upto_region 16 with(go_at_call 60;(with_reducible refine(KC1.out _).mono ?_);rintro e2 w2 ⟨rfl,rfl⟩)
         go_region
         rw[←hWP];clear hWP
         go_wp2_with (first
          | (go_at_call 61;(with_reducible refine(KE1.out _).mono ?_);rintro e4 w4 ⟨rfl,rfl⟩)
          | (go_at_call 62;rw[←HWS.out];(with_reducible refine(KOP1.out _).mono ?_);rintro e5 w5 ⟨rfl,hb5⟩;have B5:=blkP HBS.out hb5;obtain⟨y0,y1,y2,y3,y4,y5⟩:=gvL B5;have hbx:=bt HbS.out hb5;have ho5:=jb2 HO.out hbx;have hbw:=bt HBE.out hbx)
          | (at_builtin;refine jc4 rfl _ _ 34 27 rfl Tryz.underlying34 (.agg #[.int .u8 0,.int .u64 0,.int .u32 0,.int .u32 0,.string ⟨#[]⟩,.string ⟨#[]⟩]) 6 56 jf6 rfl (by decide) w5 W.heap.size (.slice av2 D.length cv2) D.length (gcells D) rfl ho5 #[.int .u8 0,.int .u64 18446744073709551615,.int .u32 se,.int .u32 ((nu0:Int)+(D.length:Int)),.string (S.extract 0 m),.string (T.extract 0 sz)] rfl (by simp[Value.oneCell']) rfl z1 z2 hbw.size ?_;intro v6 w6 hown6 hb6 hk6)
          | fail)
         have HO6:Hid (w6.ownsRow W.heap.size 27 6 v6 (D ++ [(⟨0,18446744073709551615,se,nu,S.extract 0 m,T.extract 0 sz⟩:PG)]).length (gcells (D ++ [(⟨0,18446744073709551615,se,nu,S.extract 0 m,T.extract 0 sz⟩:PG)]))):=Lib.hid (by rw[jg8,List.length_append];simp only;rw[HCA.out];exact hown6);exact⟨⟨f,_,_,op1,_,rfl,rfl,rfl,HO6,Lib.hid (hbw.trans hb6),Lib.hid (by rw[List.length_append];exact HP1.out),HFZ.out,HZ2,by rw[List.length_append];exact HDZ.out⟩,HMZ.out⟩
        | false=>
         have ke2:=KE1.out;rw[hal]at ke2;have hp2:=HP1.out;rw[hal]at hp2;simp only[if_true,Bool.not_true,Bool.not_false,Bool.false_eq_true,if_false]at ke2 hp2;clear KE1 HP1 hal;have KE1:=Lib.hid ke2;have HP1:=Lib.hid hp2;clear ke2 hp2;obtain⟨WS,hWS⟩:∃WS,WS=((WP.setCell ⟨wr.heap.size,3,none⟩ (.int .u32 ((nu0:Int)+(D.length:Int)))).setCell ⟨wr.heap.size,0,none⟩ (.int .u8 0)):=⟨_,rfl⟩;have BS:WS.heap[wr.heap.size]?=some (.cells #[.int .u8 0,.int .u64 0,.int .u32 se,.int .u32 ((nu0:Int)+(D.length:Int)),.string (S.extract 0 m),.string (T.extract 0 sz)] 27 (0,0)):=by
          have s1:=Go.Lib.heap_setCell_same (i:=3) HBP.out (.int .u32 ((nu0:Int)+(D.length:Int)));have s2:=Go.Lib.heap_setCell_same (i:=0) s1 (.int .u8 0);rw[hWS,s2];simp
         have hbS:Below wr.heap.size wr WS:=by
          rw[hWS]
          iterate 2 refine Below.setCell ?_ (by simp) _
          exact HbP.out
         have HWS:=Lib.hid hWS;have HBS:=Lib.hid BS;have HbS:=Lib.hid hbS;clear hWS BS hbS;have kop:∀(w:World),Calls Tryz.prog 62 #[.agg #[.int .u8 0,.int .u64 0,.int .u32 se,.int .u32 ((nu0:Int)+(D.length:Int)),.string (S.extract 0 m),.string (T.extract 0 sz)]] w fun e w'=>e=.returned (.bool op1)∧Below w.heap.size w w':=KOP.out 0 0
         have KOP1:=Lib.hid kop;clear kop KOP
         go_upto_region 13 with fail
         go_region
         go_upto_region 16 with(go_at_call 60;(with_reducible refine(KC1.out _).mono ?_);rintro e2 w2 ⟨rfl,rfl⟩)
         go_region
         rw[←hWP];clear hWP
         go_wp2_with (first
          | (go_at_call 61;(with_reducible refine(KE1.out _).mono ?_);rintro e4 w4 ⟨rfl,rfl⟩)
          | (go_at_call 62;rw[←HWS.out];(with_reducible refine(KOP1.out _).mono ?_);rintro e5 w5 ⟨rfl,hb5⟩;have B5:=blkP HBS.out hb5;obtain⟨y0,y1,y2,y3,y4,y5⟩:=gvL B5;have hbx:=bt HbS.out hb5;have ho5:=jb2 HO.out hbx;have hbw:=bt HBE.out hbx)
          | (at_builtin;refine jc4 rfl _ _ 34 27 rfl Tryz.underlying34 (.agg #[.int .u8 0,.int .u64 0,.int .u32 0,.int .u32 0,.string ⟨#[]⟩,.string ⟨#[]⟩]) 6 56 jf6 rfl (by decide) w5 W.heap.size (.slice av2 D.length cv2) D.length (gcells D) rfl ho5 #[.int .u8 0,.int .u64 0,.int .u32 se,.int .u32 ((nu0:Int)+(D.length:Int)),.string (S.extract 0 m),.string (T.extract 0 sz)] rfl (by simp[Value.oneCell']) rfl z1 z2 hbw.size ?_;intro v6 w6 hown6 hb6 hk6)
          | fail)
         have HO6:Hid (w6.ownsRow W.heap.size 27 6 v6 (D ++ [(⟨0,0,se,nu,S.extract 0 m,T.extract 0 sz⟩:PG)]).length (gcells (D ++ [(⟨0,0,se,nu,S.extract 0 m,T.extract 0 sz⟩:PG)]))):=Lib.hid (by rw[jg8,List.length_append];simp only;rw[HCA.out];exact hown6);exact⟨⟨f,_,_,op1,_,rfl,rfl,rfl,HO6,Lib.hid (hbw.trans hb6),Lib.hid (by rw[List.length_append];exact HP1.out),HFZ.out,HZ2,by rw[List.length_append];exact HDZ.out⟩,HMZ.out⟩
end Go.Proofs.YtagjkmkmphamoaaGreatDoor
