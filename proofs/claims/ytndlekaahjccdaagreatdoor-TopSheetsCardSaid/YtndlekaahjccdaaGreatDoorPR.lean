/- PR -/
import Derived.Test.YtndlekaahjccdaaGreatDoorPQ
set_option linter.all false
set_option maxRecDepth 100000
set_option maxHeartbeats 40000000
namespace Go.Proofs.YtndlekaahjccdaaGreatDoor
open Go Go.Rf Go.RowKit Go.Proofs.Tryz
def azS(c:UInt8):Bool:=decide (97<=c.toNat)&&decide (c.toNat<=122)
theorem ix_end(l:List UInt8)(h:l ≠ []):decide (Lib.indexByte l 93=(l.length:Int)-1)=((l.takeWhile fun c=>!(c==93)).length+1==l.length):=by
 have h0:=List.length_pos_iff.2 h;rw[ixB,Bool.eq_iff_iff,decide_eq_true_iff,beq_iff_eq];by_cases hc:l.contains 93
 . rw[if_pos hc];omega
 . rw[if_neg hc]
   have ha:l.all (fun c=>!(c==93))=true:=by
    rw[List.all_eq_true];intro x hx;have:x≠93:=by rintro rfl;exact hc (List.contains_iff_mem.2 hx)
    simpa using this
   rw[y4s _ _ ha];omega
theorem zw(w:World)(cs:Array Value)(e n:Nat):y1q (w.alloc (.cells cs e)) (.slice (some ⟨w.heap.size,0,none⟩) n n) n cs.toList:=by
 refine .inr ⟨_,_,_,rfl,zA,by rw[Y4];exact Nat.lt_succ_self _,fun i u hu=>?_⟩;have h:=heap_alloc_new w (.cells cs e);rw[Array.getElem?_toList]at hu;unfold World.cell?;simp only[h,Nat.zero_add];exact hu
theorem yFH(s:ByteArray)(w:World)(hG:GW w)(hs:s.size<=1000000):LP 318 s w (noteOk (bl s)) (notP s):=by
 unfold LP;have HL:Hid ((bl s).length=s.size):=zJ s;have KP:=z7 (fun w=>(Tryz.strings_HasPrefix s ⟨#[91]⟩ w));have hp:Lib.hasPrefix (s.data.toList) (⟨#[91]⟩:ByteArray).data.toList=((bl s).head?==some 91):=pre1 (bl s) 91;rw[hp]at KP;obtain⟨V,hV⟩:∃V,V=noteOk (bl s):=⟨_,rfl⟩;rw[<-hV];unfold noteOk at hV;cases hh:((bl s).head?==some (91:UInt8))with
 | false=>
  rw[hh]at KP hV;have hv:V=false:=by rw[hV];simp
  subst hv;clear hV hp hh
  go_enter func318,ntmps318
  go_wp2_with (go_at_call 82;refine(KP.out _).mono ?_;rintro e w1 ⟨rfl,rfl⟩)
  go_ret2
  first|exact⟨⟨_,rfl,fun e=>by cases e⟩,z8⟩|exact⟨⟨_,rfl⟩,z8⟩
 | true=>
  rw[hh]at KP hV;have Hd:bl s ≠ []:=by intro e;rw[e]at hh;cases hh
  have Hn:0<s.size:=by rw[<-HL.out];exact List.length_pos_iff.2 Hd
  have Hb:=ix_end (bl s) Hd;rw[HL.out]at Hb;have ki:∀w,Calls prog 370 #[.string s,.string ⟨#[93]⟩] w fun e w'=>e=.returned (.int .i64 (Lib.indexByte (bl s) 93))/\w'=w:=fun w=>Tryz.strings_Index_one s 93 w
  obtain⟨X,hX⟩:∃X,X=Lib.indexByte (bl s) 93:=⟨_,rfl⟩;rw[<-hX]at ki Hb;have KI:=z7 ki;have i1:IntKind.i64.wrap ((s.size:Int)-1)=(s.size:Int)-1:=wi64 _ (by omega) (by omega);rw[HL.out]at hV;rw[<-Hb,Bool.true_and]at hV;by_cases H8:X=(s.size:Int)-1
  . have Hm:(X != (s.size:Int)-1)=false:=by simp[H8]
    rw[decide_eq_true H8,Bool.true_and]at hV;have HV:=z7 hV;have HX:=z7 hX;have Hq:=z7 H8;have HH:=z7 hh;clear hV hp Hb hX ki Hd hh H8
    go_enter func318,ntmps318
    go_wp2_with (first
     | (go_at_call 82;refine(KP.out _).mono ?_;rintro e w1 ⟨rfl,rfl⟩)
     | (go_at_call 370;refine(KI.out _).mono ?_;rintro e w1 ⟨rfl,rfl⟩))
    have H5:(bl s)[s.size-1]?=some 93:=(Lib.indexByte_some (o:=s.size-1) (by rw[<-HX.out,Hq.out];omega)).1;have Hs:2<=s.size:=by
     rcases Nat.lt_or_ge s.size 2 with h|h
     . exfalso
       have e:s.size-1=0:=by omega
       rw[e,<-List.head?_eq_getElem?]at H5;have:=HH.out;rw[H5]at this;cases this
     . exact h
    have Hl:=z7 H5;clear H5 Hn
    go_loopw [4] (fun i wr=>∃n:Nat,i=.int .i64 (n:Int)/\1<=n/\n<=s.size-1/\Hid ((((bl s).drop 1).take (n-1)).all azS=true)/\wr=w1) (fun i _=>s.size-(intOf i).toNat)
    case atStart=>exact⟨1,rfl,zA,by omega,z7 (by simp),rfl⟩
    case round=>
     obtain⟨n,rfl,Hv,Hu,hA,rfl⟩:=hrel;obtain⟨c,hc⟩:=zM (bl s) n (by rw[HL.out];omega);have C:∀h,s[n]'h=c:=zS s n c hc;have Hw:=c.toNat_lt;have Ht:(n:Int)<(s.size:Int):=by omega
     have i0:(0:Int)<=(n:Int):=by omega
     cases H6:azS c with
     | true=>
      have Hj:n+1<=s.size-1:=by
       rcases Nat.lt_or_ge n (s.size-1)with h|h
       . omega
       . exfalso
         have e:n=s.size-1:=by omega
         rw[e,Hl.out]at hc;cases hc;exact absurd H6 (by decide)
      have Hk:((bl s).drop 1)[n-1]?=some c:=by rw[List.getElem?_drop,show 1+(n-1)=n by omega];exact hc
      have Hg:=(zr azS ((bl s).drop 1) (n-1) c Hk hA.out).1 H6;rw[show n-1+1=n+1-1 by omega]at Hg;have Hr:=z7 Hg;obtain⟨g1,g2⟩:(97:Int)<=(c.toNat:Int)/\(c.toNat:Int)<=122:=by simp[azS]at H6;omega
      clear hc Hk Hg H6
      go_wp2_with fail
      go_roundw
      case rel=>exact⟨n+1,by first|omega|go_num,by omega,Hj,Hr,trivial⟩
      case measure=>simp[intOf];omega
     | false=>
      have hE:noE (bl s)=n:=by
       unfold noE;have:=y1k azS ((bl s).drop 1) (n-1) hA.out (by rw[List.length_drop,HL.out];omega) (fun d hd=>by rw[List.getElem?_drop,show 1+(n-1)=n by omega,hc]at hd;cases hd;exact H6);show 1+(((bl s).drop 1).takeWhile azS).length=n;omega
      have hv:=HV.out;rw[hE,hc]at hv;have g:(c.toNat:Int)<97\/(97:Int)<=(c.toNat:Int)/\(122:Int)<(c.toNat:Int):=by simp[azS]at H6;omega
      by_cases h1:n=1
      . subst h1
        have Ha:V=false:=by rw[hv];rfl
        subst Ha;clear hv hc H6 hE;rcases g with g|⟨g,g'⟩
        all_goals
         go_wp2_with fail
         go_ret2
         first|exact⟨⟨_,rfl,fun e=>by cases e⟩,z8⟩|exact⟨⟨_,rfl⟩,z8⟩
      . have Hy:((n:Int)==1)=false:=by rw[Y2];omega
        by_cases Hf:c=58
        . have Ha:V=true:=by rw[hv,decide_eq_true (by omega:1<n),Hf];rfl
          subst Hf;subst Ha;have hP:notP s = [mkP (s.extract 0 (n+1)),txP (s.extract 1 n) (s.extract (n+1) (s.size-1)),mkP ⟨#[93]⟩]:=by unfold notP;rw[hE]
          have HP:=z7 hP;have Hj:n+1<=s.size-1:=by
           rcases Nat.lt_or_ge n (s.size-1)with h|h
           . omega
           . exfalso
             have e:n=s.size-1:=by omega
             rw[e,Hl.out]at hc;cases hc
          clear hv hc H6 hE hP g;have i2:(n:Int)+1<=(s.size:Int)-1:=by omega
          have i3:((n:Int)+1).toNat=n+1:=by omega
          have i4:((s.size:Int)-1).toNat=s.size-1:=by omega
          have i5:(0:Int)<=(n:Int)+1:=by omega
          have i6:(n:Int)+1<=(s.size:Int):=by omega
          have i7:(1:Int)<=(n:Int):=by omega
          have i8:(n:Int)<=(s.size:Int):=by omega
          have i9:(s.size:Int)-1<=(s.size:Int):=by omega
          have i10:IntKind.i64.wrap ((n:Int)+1)=(n:Int)+1:=wi64 _ (by omega) (by omega);have kt:=fun w' h=>y0t (s.extract 1 n) (s.extract (n+1) (s.size-1)) w' (hG.bel (w':=w') h)
          have KT:=z7 kt;clear kt
          go_wp2_with fail
          have Hh:(s.extract 0 (n+1)).size<=1000000:=by rw[zG];omega
          have KA:=z7 (fun b w' (h:b<w'.heap.size/\w'.cell? ⟨b,0,none⟩=some (.string (s.extract 0 (n+1))))=>zi b 0 1 (s.extract 0 (n+1)) w' h.1 zA h.2 Hh);have KC:=z7 (fun b w' (h:b<w'.heap.size/\w'.cell? ⟨b,0,none⟩=some (.string ⟨#[93]⟩))=>zi b 0 1 ⟨#[93]⟩ w' h.1 zA h.2 (by decide));clear Hh
          go_region_with (first
           | (go_at_call 242;first
            | (refine(KA.out _ _ ?_).mono ?_;(first|(exact⟨by first|(simp;done)|(simp;omega),by simp⟩)|(exact⟨by show wr.heap.size<(wr.alloc _).heap.size;simp,by show(wr.alloc _).cell? _=_;simp⟩));rintro e wa ⟨rfl,He⟩;(have H7:Below wr.heap.size wr wa:=Below.trans (by repeat (first|exact Below.refl wr.heap.size wr|refine Below.drew ?_|refine Below.alloc ?_ (by simp) _)) (He.mono (by first|(simp;done)|(show wr.heap.size<=(wr.alloc _).heap.size;simp)|(show wr.heap.size<=((wr.alloc _).alloc _).heap.size;rw[Y4,Y4];omega)))))
            | (refine(KC.out _ _ ?_).mono ?_;(first|(exact⟨by first|(simp;done)|(simp;omega),by simp⟩)|(exact⟨by have:=Hc.size;simp at *;omega,(Hc.cell (by simp)).trans (by simp)⟩)|(exact⟨by have:=Hc.size;have:=He.size;simp at *;omega,(Hc.cell (by have:=He.size;simp at *;omega)).trans ((He.cell (by first|(simp;done)|(simp;omega))).trans (by simp))⟩));rintro e wc ⟨rfl,Ho⟩;(have Hi:Below wr.heap.size wr wc:=Below.trans (by first|exact H9|exact H9.alloc H9.size _) (Ho.mono (by first|exact H9.size|(have:=H9.size;simp;omega))))))
           | (go_at_call 243;(refine(KT.out _ ?_).mono ?_;(first|exact H7|exact H7.alloc H7.size _);rintro e wb ⟨rfl,Hc⟩;(have H9:Below wr.heap.size wr wb:=Below.trans (by first|exact H7|exact H7.alloc H7.size _) (Hc.mono (by first|exact H7.size|(have:=H7.size;simp;omega)))))))
          all_goals
           go_wp2_with fail
           go_ret2
           exact⟨⟨_,rfl,by rw[HP.out];exact zw wc #[.bool true,.string mkN,.string (s.extract 0 (n+1)),.bool false,.string (s.extract 1 n),.string (s.extract (n+1) (s.size-1)),.bool true,.string mkN,.string ⟨#[93]⟩] _ 3⟩,Hi.alloc Hi.size _⟩
        . have Hp:((c.toNat:Int) != 58)=true:=by
           have:¬(c.toNat:Int)=58:=y2c c 58 (by decide) Hf;simpa using this
          have Ha:V=false:=by rw[hv];simp[Hf]
          subst Ha;clear hv hc H6 hE;rcases g with g|⟨g,g'⟩
          all_goals
           go_wp2_with fail
           go_ret2
           first|exact⟨⟨_,rfl,fun e=>by cases e⟩,z8⟩|exact⟨⟨_,rfl⟩,z8⟩
  . have Hm:(X != (s.size:Int)-1)=true:=by simpa using H8
    rw[decide_eq_false H8]at hV;have hv:V=false:=by rw[hV];simp
    subst hv;clear hV hp hh Hb hX ki Hd H8
    go_enter func318,ntmps318
    go_wp2_with (first
     | (go_at_call 82;refine(KP.out _).mono ?_;rintro e w1 ⟨rfl,rfl⟩)
     | (go_at_call 370;refine(KI.out _).mono ?_;rintro e w1 ⟨rfl,rfl⟩))
    go_ret2
    first|exact⟨⟨_,rfl,fun e=>by cases e⟩,z8⟩|exact⟨⟨_,rfl⟩,z8⟩
