/- Ox -/
import Derived.Test.YtagjkmkmphamoaaGreatDoorPA5
set_option linter.all false
set_option maxHeartbeats 4000000
namespace Go.Proofs.YtagjkmkmphamoaaGreatDoor
open Go.RowKit
def InC(w:World)(r:Nat)(s:ByteArray)(n b e a:Int):Prop:=w.heap[r]?=some (.cells #[.string s,.int .i64 n,.int .i64 b,.int .i64 e,.int .i64 a] 125 (0,0))
theorem InC.lt{w:World}{r:Nat}{s:ByteArray}{n b e a:Int}(h:InC w r s n b e a):r<w.heap.size:=(Array.getElem?_eq_some_iff.1 h).1
theorem InC.blk{w w':World}{r:Nat}{s:ByteArray}{n b e a:Int}(h:InC w r s n b e a)(he:w'.heap[r]?=w.heap[r]?):InC w' r s n b e a:=he.trans h
theorem InC.bel{w w':World}{r:Nat}{s:ByteArray}{n b e a:Int}(h:InC w r s n b e a)(hb:Below w.heap.size w w'):InC w' r s n b e a:=h.blk (hb.block r h.lt)
theorem InC.gr{w w':World}{r:Nat}{row:Option Nat}{s:ByteArray}{n b e a:Int}(h:InC w r s n b e a)(hg:w.grownBy w' row)(hne:some r≠row):InC w' r s n b e a:=h.blk (hg.block r h.lt hne)
theorem InC.cells{w:World}{r:Nat}{s:ByteArray}{n b e a:Int}(h:InC w r s n b e a):
 Live w r 0 (.string s)∧Live w r 1 (.int .i64 n)∧Live w r 2 (.int .i64 b)∧Live w r 3 (.int .i64 e)∧Live w r 4 (.int .i64 a):=by
 unfold InC at h;refine⟨⟨?_,?_⟩,⟨?_,?_⟩,⟨?_,?_⟩,⟨?_,?_⟩,⟨?_,?_⟩⟩
 all_goals simp[World.cell?,World.frozen?,h]
theorem jc1{w w':World}{row:Option Nat}(h:Below w.heap.size w w'):w.grownBy w' row:=⟨h.os,h.tape,h.output,h.size,fun k hk _=>h.block k hk⟩
theorem jb3{w a b:World}{row:Option Nat}(h:w.grownBy a row)(k:a.grownBy b row):w.grownBy b row:=⟨k.os.trans h.os,k.tape.trans h.tape,k.output.trans h.output,Nat.le_trans h.size k.size,fun j hj hr=>(k.block j (Nat.lt_of_lt_of_le hj h.size) hr).trans (h.block j hj hr)⟩
theorem jc0(w:World)(r o:Nat)(v:Value):w.grownBy (w.setCell ⟨r,o,none⟩ v) (some r):=by
 refine⟨?_,?_,?_,by rw[World.size_setCell];exact Nat.le_refl _,fun k hk hr=>Below.heap_setCell _ _ _ k (fun e=>hr (by rw[e]))⟩
 all_goals (unfold World.setCell;repeat' split)<;>rfl
theorem InC.step{w:World}{r:Nat}{s:ByteArray}{n b e a:Int}(h:InC w r s n b e a)(q:Nat)(m:Int):InC ((w.drewN q).setCell ⟨r,1,none⟩ (.int .i64 m)) r s m b e a:=by
 have h0:=heap_setCell_same (w.drewN q) r 1 _ _ (.int .i64 m) (show(w.drewN q).heap[r]?=_ from h);unfold InC;rw[h0];simp
theorem qk3(s:ByteArray)(b:Int)(w:World):Calls Tryz.prog 75 #[.string s,.int .i64 b] w fun x w'=>∃r,x=.returned (.pointer (some ⟨r,0,none⟩))∧w.heap.size≤r∧InC w' r s 0 (max b 0) 0 0∧Below w.heap.size w w':=by
 go_enter Tryz.func75,Tryz.ntmps75
 go_wp2
 go_ret
 exact⟨_,rfl,Nat.le_refl _,by unfold InC;exact heap_alloc_new _ _,bal (Below.refl _ _) _⟩
theorem read_any(s:ByteArray)(w:World):Calls Tryz.prog 40 #[.string s] w fun x w'=>∃r,x=.returned (.pointer (some ⟨r,0,none⟩))∧w.heap.size≤r∧InC w' r s 0 0 0 0∧Below w.heap.size w w':=by
 have K:=Lib.hid qk3
 go_enter Tryz.func40,Tryz.ntmps40
 go_wp2_with (go_at_call 75;refine(K.out s 0 w).mono ?_;rintro x w1 ⟨r,rfl,hr,hi,hb⟩)
 go_ret
 exact⟨r,rfl,hr,hi,hb⟩
theorem jq4(w:World)(r:Nat)(s:ByteArray)(n b e a:Int)(h:InC w r s n b e a):
 Calls Tryz.prog 76 #[.pointer (some ⟨r,0,none⟩)] w fun x w'=>x=.returned (.bool (decide (e=0)))∧Below w.heap.size w w':=by
 have k1:=fun w=>jb8 e a w
 obtain⟨⟨c0,_⟩,⟨c1,_⟩,⟨c2,_⟩,⟨c3,_⟩,⟨c4,_⟩⟩:=h.cells;have K1:=Lib.hid k1;clear k1;clear h
 go_enter Tryz.func76,Tryz.ntmps76
 go_wp2_with (go_at_call 16;refine(K1.out _).mono ?_;rintro x w1 ⟨rfl,hb1⟩)
 go_ret
 exact⟨jg0 (by simp),hb1⟩
theorem in_left(w:World)(r:Nat)(s:ByteArray)(n:Nat)(b a:Int)(h:InC w r s n b 0 a)(hn:n≤s.size)(hs:s.size≤1073741824):
 Calls Tryz.prog 83 #[.pointer (some ⟨r,0,none⟩)] w fun x w'=>x=.returned (.int .i64 ((s.size:Int)-n))∧Below w.heap.size w w':=by
 have k1:=fun w h=>jq4 w r s n b 0 a h
 have hw:IntKind.i64.wrap ((s.size:Int)-n)=(s.size:Int)-n:=wi64 _ (by omega) (by omega);have K1:=Lib.hid k1;clear k1
 go_enter Tryz.func83,Tryz.ntmps83
 go_wp2_with (go_at_call 76;refine(K1.out _ h).mono ?_;rintro x w1 ⟨rfl,hb1⟩;obtain⟨⟨c0,_⟩,⟨c1,_⟩,_⟩:=(h.bel hb1).cells)
 go_quiet (fail)
 go_wp2
 go_ret
 exact⟨rfl,bdn hb1 _⟩
theorem qc3(w:World)(r:Nat)(s:ByteArray)(n:Int)(b:Nat)(e a:Int)(k:Nat)(h:InC w r s n b e a)(hk:k+b≤1152921504606846976):
 Calls Tryz.prog 77 #[.pointer (some ⟨r,0,none⟩),.int .i64 k] w fun x w'=>x=.returned (.int .i64 ((b:Int)+k))∧Below w.heap.size w w':=by
 obtain⟨_,_,⟨c2,_⟩,_⟩:=h.cells;have hw:IntKind.i64.wrap (9223372036854775807-(b:Int))=9223372036854775807-(b:Int):=wi64 _ (by omega) (by omega);have hw2:IntKind.i64.wrap ((b:Int)+k)=(b:Int)+k:=wi64 _ (by omega) (by omega);have hlt:¬(9223372036854775807-(b:Int))<k:=by omega
 clear h
 go_enter Tryz.func77,Tryz.ntmps77
 go_wp2
 go_ret
 exact⟨rfl,Below.refl _ _⟩
theorem in_at(w:World)(r:Nat)(s:ByteArray)(n b:Nat)(e a:Int)(h:InC w r s n b e a)(hk:n+b≤1152921504606846976):
 Calls Tryz.prog 71 #[.pointer (some ⟨r,0,none⟩)] w fun x w'=>x=.returned (.int .i64 ((b:Int)+n))∧Below w.heap.size w w':=by
 have k1:=fun w h=>qc3 w r s n b e a n h hk
 obtain⟨_,⟨c1,_⟩,_⟩:=h.cells;have K1:=Lib.hid k1;clear k1
 go_enter Tryz.func71,Tryz.ntmps71
 go_wp2_with (go_at_call 77;refine(K1.out _ h).mono ?_;rintro x w1 ⟨rfl,hb1⟩)
 go_ret
 exact⟨rfl,hb1⟩
theorem in_take(w:World)(r:Nat)(s:ByteArray)(n:Nat)(b a:Int)(k:Nat)(h:InC w r s n b 0 a)(hs:s.size≤1073741824)(hk:n+k≤s.size):
 Calls Tryz.prog 102 #[.pointer (some ⟨r,0,none⟩),.int .i64 k] w fun x w'=>x=.returned (.string (s.extract n (n+k)))∧InC w' r s ((n+k:Nat):Int) b 0 a∧w.grownBy w' (some r):=by
 have k1:=fun w h=>jq4 w r s n b 0 a h
 have hw:IntKind.i64.wrap ((s.size:Int)-n)=(s.size:Int)-n:=wi64 _ (by omega) (by omega);have hw2:IntKind.i64.wrap ((n:Int)+k)=(n:Int)+k:=wi64 _ (by omega) (by omega);have hnt:((n:Int)+k).toNat=n+k:=by omega
 have hd:decide ((k:Int)<0)=false:=by simp
 have hd2:decide ((k:Int) > (s.size:Int)-n)=false:=by simp;omega
 have hd3:decide ((s.size:Int)-n<(k:Int))=false:=by simp;omega
 have K1:=Lib.hid k1;clear k1
 go_enter Tryz.func102,Tryz.ntmps102
 go_wp2_with (go_at_call 76;refine(K1.out _ h).mono ?_;rintro x w1 ⟨rfl,hb1⟩;obtain⟨⟨c0,_⟩,⟨c1,f1⟩,_⟩:=(h.bel hb1).cells)
 go_quiet (fail)
 go_wp2
 go_quiet (fail)
 go_wp2
 go_ret
 have hi:=h.bel hb1;refine⟨rfl,?_,?_⟩
 · rw[Int.natCast_add]
   exact hi.step _ _
 · exact jb3 (jc1 (bdn hb1 _)) (jc0 _ r 1 _)
theorem kq2(l:List UInt8)(k:Nat)(x:UInt8)(h:l[k]?=some x)(ha:(l.take k).all letter8=true):
 (letter8 x=true→(l.take (k+1)).all letter8=true)∧(letter8 x=false→aheadM l=k):=by
 obtain⟨h1,h2⟩:=List.getElem?_eq_some_iff.1 h
 constructor
 · intro hx
   rw[List.take_succ_eq_append_getElem h1,List.all_append,ha,h2];simp[hx]
 · intro hx
   have e:l=l.take k++x::l.drop (k+1):=by
    rw[←h2,←List.drop_eq_getElem_cons h1,List.take_append_drop]
   unfold aheadM;rw[e,List.takeWhile_append_of_pos (by simpa[List.all_eq_true]using ha),List.takeWhile_cons,hx];simp;omega
theorem kx3(l:List UInt8)(h:l.all letter8=true):aheadM l=l.length:=by
 unfold aheadM
 induction l with
 | nil=>rfl
 | cons a l ih=>
  rw[List.all_cons,Bool.and_eq_true]at h;rw[List.takeWhile_cons,h.1,if_pos rfl,List.length_cons,List.length_cons,ih h.2]
theorem km4(l:List UInt8):namedNM l=(!decide (l = [])&&decide (aheadM l=l.length)):=by
 unfold namedNM
 congr 1
 · cases l<;>simp
 · rw[Bool.eq_iff_iff,decide_eq_true_iff]
   constructor
   · exact kx3 l
   · intro h
     have:=qp3 l;rw[h,List.take_length]at this;exact this.1
theorem qs5(x:UInt8):letter8 x=true↔32≤x.toNat∧x.toNat≤125∧x.toNat≠61:=by unfold letter8;simp
theorem kw7(b:ByteArray)(w:World)(hs:b.size≤1152921504606846976):Calls Tryz.prog 99 #[.string b] w fun e w'=>e=.returned (.int .i64 (aheadM (bl b)))∧Below w.heap.size w w':=by
 have HL:Hid ((bl b).length=b.size):=jb1 b;have X61:∀h,(⟨#[61]⟩:ByteArray)[0]'h=61:=fun h=>rfl
 go_enter Tryz.func99,Tryz.ntmps99
 go_wp2
 go_loopw [6] (fun i wr=>∃k:Nat,i=.int .i64 (k:Int)∧k≤b.size∧Hid (((bl b).take k).all letter8=true)∧Below w.heap.size w wr) (fun i _=>b.size-(intOf i).toNat)
 case atStart=>exact⟨0,rfl,Nat.zero_le _,Lib.hid (by simp),Below.refl _ _⟩
 case round=>
  obtain⟨k,rfl,hk,hR,hbel⟩:=hrel;by_cases hlt:k<b.size
  · obtain⟨x,hx⟩:=jb6 (bl b) k (by rw[HL.out];exact hlt)
    have X:∀h,b[k]'h=x:=jc7 b k x hx;have hxl:=x.toNat_lt;obtain⟨h1,h2⟩:=kq2 (bl b) k x hx hR.out;have h3:=qs5 x;have H1:=Lib.hid h1;have H2:=Lib.hid h2;have H3:=Lib.hid h3;clear h1 h2 h3;clear hx;by_cases c1:x.toNat<32
    · have e:=H2.out (by cases h:letter8 x;rfl;have:=H3.out.1 h;omega)
      have b1:decide ((x.toNat:Int)<32)=true:=by simp;omega
      have E:=Lib.hid e;clear e
      go_wp2
      go_quiet (fail)
      go_wp2
      go_ret
      exact⟨jr2 (by rw[E.out]),bdn hbel _⟩
    · have b1:decide ((x.toNat:Int)<32)=false:=by simp;omega
      by_cases c2:125<x.toNat
      · have e:=H2.out (by cases h:letter8 x;rfl;have:=H3.out.1 h;omega)
        have b2:decide ((x.toNat:Int) > 125)=true:=by simp;omega
        have b2':decide (125<(x.toNat:Int))=true:=b2;have E:=Lib.hid e;clear e
        go_wp2
        go_quiet (fail)
        go_wp2
        go_ret
        exact⟨jr2 (by rw[E.out]),bdn hbel _⟩
      · have b2:decide ((x.toNat:Int) > 125)=false:=by simp;omega
        have b2':decide (125<(x.toNat:Int))=false:=b2;by_cases c3:x.toNat=61
        · have e:=H2.out (by cases h:letter8 x;rfl;have:=H3.out.1 h;omega)
          have c3z:(x.toNat:Int)=61:=by omega
          have b3:((x.toNat:Int)==61)=true:=by simpa using c3z
          have E:=Lib.hid e;clear e;clear c3
          go_wp2
          go_quiet (fail)
          go_wp2
          go_ret
          exact⟨jr2 (by rw[E.out]),bdn hbel _⟩
        · have e:=H1.out (H3.out.2 ⟨by omega,by omega,c3⟩)
          have c3z:¬(x.toNat:Int)=61:=by omega
          have b3:((x.toNat:Int)==61)=false:=by simpa using c3z
          have E:=Lib.hid e;clear e
          go_wp2
          go_quiet (fail)
          go_wp2
          exact⟨⟨k+1,by go_num,by omega,E,bdn hbel _⟩,by simp[intOf];omega⟩
  · have e:=kx3 (bl b) (by have:=hR.out;rwa [List.take_of_length_le (by rw[HL.out];omega)]at this)
    rw[HL.out]at e;have E:=Lib.hid e;clear e
    go_wp2
    go_ret
    exact⟨jr2 (by rw[E.out]),hbel⟩
theorem vm6(b:ByteArray)(w:World)(hs:b.size≤1152921504606846976):Calls Tryz.prog 65 #[.string b] w fun e w'=>e=.returned (.bool (namedNM (bl b)))∧Below w.heap.size w w':=by
 have k1:=fun w=>kw7 b w hs
 have e1:=km4 (bl b);rw[jb1]at e1;by_cases h0:bl b = []
 · have hb:b=⟨#[]⟩:=ByteArray.ext (Array.toList_inj.1 h0)
   subst hb
   go_enter Tryz.func65,Tryz.ntmps65
   go_wp2
   go_ret
   exact⟨rfl,Below.refl _ _⟩
 · have hne:b.toList.isEmpty=false:=by
    rw[ByteArray.toList_eq];cases h:b.data.toList with
    | nil=>exact absurd h h0
    | cons _ _=>rfl
   rw[decide_eq_false h0,Bool.not_false,Bool.true_and]at e1;rw[e1];generalize aheadM (bl b)=n at *;have K1:=Lib.hid k1;clear k1;clear h0 e1
   go_enter Tryz.func65,Tryz.ntmps65
   go_wp2_with (go_at_call 99;refine(K1.out _).mono ?_;rintro e w1 ⟨rfl,hb1⟩)
   go_ret
   exact⟨jg0 (by rw[Bool.eq_iff_iff];simp;omega),hb1⟩
theorem qq8(x:UInt8)(w:World):Calls Tryz.prog 90 #[.int .u8 (x.toNat:Int)] w fun e w'=>e=.returned (.bool (letter8 x))∧w=w':=by
 have h:=x.toNat_lt
 go_enter Tryz.func90,Tryz.ntmps90
 go_wp2
 all_goals go_ret
 all_goals (refine⟨jg0 ?_,rfl⟩;unfold letter8;rw[Bool.eq_iff_iff];simp;omega)
theorem vf8(b:ByteArray)(w:World)(hs:b.size≤1152921504606846976):Calls Tryz.prog 52 #[.string b] w fun e w'=>e=.returned (.bool (namedNM (bl b)))∧Below w.heap.size w w':=by
 have HL:Hid ((bl b).length=b.size):=jb1 b;have K1:=Lib.hid qq8
 go_enter Tryz.func52,Tryz.ntmps52
 go_wp2
 go_loopw [3] (fun i wr=>∃k:Nat,i=.int .i64 (k:Int)∧k≤b.size∧Hid (((bl b).take k).all letter8=true)∧Below w.heap.size w wr) (fun i _=>b.size-(intOf i).toNat)
 case atStart=>exact⟨0,rfl,Nat.zero_le _,Lib.hid (by simp),Below.refl _ _⟩
 case round=>
  obtain⟨k,rfl,hk,hR,hbel⟩:=hrel;by_cases hlt:k<b.size
  · obtain⟨x,hx⟩:=jb6 (bl b) k (by rw[HL.out];exact hlt)
    have X:∀h,b[k]'h=x:=jc7 b k x hx;have hxl:=x.toNat_lt;obtain⟨h1,h2⟩:=kq2 (bl b) k x hx hR.out;have hno:letter8 x=false→namedNM (bl b)=false:=by
     intro h;rw[km4,h2 h,HL.out];rw[decide_eq_false (show ¬k=b.size by omega),Bool.and_false]
    have k2:=fun w=>K1.out x w
    have H1:=Lib.hid h1;have HNO:=Lib.hid hno;clear h1 hno;clear hx h2;cases hc:letter8 x with
    | true=>
     rw[hc]at k2;have e:=H1.out hc;have E:=Lib.hid e;have K2:=Lib.hid k2;clear e k2;clear hc
     go_wp2_with (go_at_call 90;refine(K2.out _).mono ?_;rintro e w1 ⟨rfl,rfl⟩)
     go_roundw
     case rel=>exact⟨k+1,by first|omega|go_num,by omega,E,hbel⟩
     case measure=>simp[intOf];omega
    | false=>
     rw[hc]at k2;have e:=HNO.out hc;have E:=Lib.hid e;have K2:=Lib.hid k2;clear e k2;clear hc
     go_wp2_with (go_at_call 90;refine(K2.out _).mono ?_;rintro e w1 ⟨rfl,rfl⟩)
     go_ret
     exact⟨jg0 E.out.symm,hbel⟩
  · have e:namedNM (bl b)=decide ((b.size:Int) > 0):=by
     have ha:(bl b).all letter8=true:=by have:=hR.out;rwa [List.take_of_length_le (by rw[HL.out];omega)]at this
     unfold namedNM;rw[ha,Bool.and_true,Bool.eq_iff_iff,decide_eq_true_iff,Bool.not_eq_true',List.isEmpty_eq_false_iff,←List.length_pos_iff,HL.out];omega
    have E:=Lib.hid e;clear e
    go_wp2
    go_ret
    exact⟨jg0 (by rw[E.out];simp),hbel⟩
def likeM(a b:List UInt8):Bool:=decide (smallL a=smallL b)
def InX(w:World)(r:Nat)(x:RS):Prop:=InC w r x.s x.n x.b x.e x.a
theorem InX.lt{w:World}{r:Nat}{x:RS}(h:InX w r x):r<w.heap.size:=InC.lt h
theorem InX.bel{w w':World}{r:Nat}{x:RS}(h:InX w r x)(hb:Below w.heap.size w w'):InX w' r x:=InC.bel h hb
theorem InX.gr{w w':World}{r:Nat}{row:Option Nat}{x:RS}(h:InX w r x)(hg:w.grownBy w' row)(hne:some r≠row):InX w' r x:=InC.gr h hg hne
theorem InC.faulted{w:World}{r:Nat}{s:ByteArray}{n b e a:Int}(h:InC w r s n b e a)(e' a':Int):
 InC ((w.setCell ⟨r,3,none⟩ (.int .i64 e')).setCell ⟨r,4,none⟩ (.int .i64 a')) r s n b e' a':=by
 have h0:=Go.Lib.heap_setCell_same (i:=3) (show w.heap[r]?=_ from h) (.int .i64 e');have h1:=Go.Lib.heap_setCell_same (i:=4) h0 (.int .i64 a');unfold InC;rw[h1];simp
theorem qb5{w w':World}{b o:Nat}{v:Value}(h:Live w b o v)(he:w'.heap[b]?=w.heap[b]?):Live w' b o v:=by
 unfold Live World.cell? World.frozen? at *;rw[he];exact h
theorem jm5{w w':World}{b o:Nat}{v:Value}{row:Option Nat}(h:Live w b o v)(hg:w.grownBy w' row)(hne:some b≠row):Live w' b o v:=qb5 h (hg.block b h.lt hne)
theorem jb9{w w5:World}{row:Option Nat}(h:w.grownBy w5 row){p:Addr}(hp:w.heap.size≤p.block)(v:Value):w.grownBy (w5.setCell p v) row:=by
 obtain⟨b,o,q⟩:=p;refine⟨?_,?_,?_,Nat.le_trans h.size (by rw[World.size_setCell];exact Nat.le_refl _),fun j hj hr=>(Below.heap_setCell _ _ _ j (by simp only at hp ⊢;omega)).trans (h.block j hj hr)⟩
 · exact Eq.trans (by unfold World.setCell;repeat' split
                      all_goals rfl) h.os
 · exact Eq.trans (by unfold World.setCell;repeat' split
                      all_goals rfl) h.tape
 · exact Eq.trans (by unfold World.setCell;repeat' split
                      all_goals rfl) h.output
theorem kn6{w w5:World}{row:Option Nat}(h:w.grownBy w5 row)(o:Obj):w.grownBy (w5.alloc o) row:=
 jb3 h (jc1 (bal (Below.refl _ _) o))
theorem jx6{w w5:World}{row:Option Nat}(h:w.grownBy w5 row)(n:Nat):w.grownBy (w5.drewN n) row:=
 jb3 h (jc1 (bdn (Below.refl _ _) n))
theorem gr_refl(w:World)(row:Option Nat):w.grownBy w row:=⟨rfl,rfl,rfl,Nat.le_refl _,fun _ _ _=>rfl⟩
theorem jc5(w:World)(r:Nat)(x:RS)(h:InX w r x):Calls Tryz.prog 43 #[.pointer (some ⟨r,0,none⟩)] w fun v w'=>v=.returned (.agg #[.int .i64 x.e,.int .i64 x.a])∧Below w.heap.size w w':=by
 obtain⟨⟨c0,_⟩,⟨c1,_⟩,⟨c2,_⟩,⟨c3,_⟩,⟨c4,_⟩⟩:=InC.cells h;have hbA:=bal (Below.refl w.heap.size w) (.cells #[.int .i64 0,.int .i64 0] 54);have d3:=kc hbA c3;have d4:=kc hbA c4;have e0:=Live.fresh w #[.int .i64 0,.int .i64 0] 54 0 _ rfl;have e1:=Live.fresh w #[.int .i64 0,.int .i64 0] 54 1 _ rfl;obtain⟨e0,f0⟩:=e0;obtain⟨e1,f1⟩:=e1;have HBA:=Lib.hid hbA;clear hbA;clear h
 go_enter Tryz.func43,Tryz.ntmps43
 go_wp2
 refine bodyPost_ret (v:=.agg #[.int .i64 x.e,.int .i64 x.a]) (by simp[results,Tryz.results43,go_sem]) rfl ?_;exact⟨rfl,bal (Below.refl _ _) _⟩
theorem jj1(w:World)(r:Nat)(x:RS)(c p:Int)(h:InX w r x):
 Calls Tryz.prog 73 #[.pointer (some ⟨r,0,none⟩),.int .i64 c,.int .i64 p] w fun v w'=>v=.returned (.tuple #[])∧InX w' r (failR x c p)∧w.grownBy w' (some r):=by
 obtain⟨s,n,b,e,a⟩:=x;have h:InC w r s n b e a:=h;have k1:=fun w h=>jq4 w r s n b e a h
 by_cases he:e=0
 · subst he
   by_cases hc:c=0
   · subst hc
     have ef:failR ⟨s,n,b,0,a⟩ 0 p=⟨s,n,b,0,a⟩:=by unfold failR;simp
     rw[ef];have K1:=Lib.hid k1;clear k1
     go_enter Tryz.func73,Tryz.ntmps73
     go_wp2_with (go_at_call 76;refine(K1.out _ h).mono ?_;rintro x w1 ⟨rfl,hb1⟩)
     go_end0
     exact⟨rfl,h.bel hb1,jc1 hb1⟩
   · have ef:failR ⟨s,n,b,0,a⟩ c p=⟨s,n,b,c,p⟩:=by unfold failR;simp[hc]
     have hcb:(c != 0)=true:=by simpa using hc
     rw[ef];have K1:=Lib.hid k1;clear k1
     go_enter Tryz.func73,Tryz.ntmps73
     go_wp2_with (go_at_call 76;refine(K1.out _ h).mono ?_;rintro x w1 ⟨rfl,hb1⟩;obtain⟨⟨c0,f0⟩,⟨c1,f1⟩,⟨c2,f2⟩,⟨c3,f3⟩,⟨c4,f4⟩⟩:=(h.bel hb1).cells)
     go_end0
     exact⟨rfl,(h.bel hb1).faulted _ _,jb3 (jb3 (jc1 hb1) (jc0 _ r 3 _)) (jc0 _ r 4 _)⟩
 · have ef:failR ⟨s,n,b,e,a⟩ c p=⟨s,n,b,e,a⟩:=by unfold failR;simp[he]
   have hd:decide (e=0)=false:=by simpa using he
   rw[ef];rw[hd]at k1;have K1:=Lib.hid k1;clear k1
   go_enter Tryz.func73,Tryz.ntmps73
   go_wp2_with (go_at_call 76;refine(K1.out _ h).mono ?_;rintro x w1 ⟨rfl,hb1⟩)
   go_end0
   exact⟨rfl,h.bel hb1,jc1 hb1⟩
theorem qk2(w:World)(r:Nat)(x:RS)(h:InX w r x)(hk:okR x):
 Calls Tryz.prog 78 #[.pointer (some ⟨r,0,none⟩)] w fun v w'=>v=.returned (.tuple #[])∧InX w' r (shortR x)∧w.grownBy w' (some r):=by
 obtain⟨s,n,b,e,a⟩:=x;obtain⟨h1,h2,h3⟩:=hk;simp only at h1 h2 h3;have h:InC w r s n b e a:=h;have k1:=fun w h=>qc3 w r s n b e a s.size h (by omega)
 have k2:=fun w h=>jj1 w r ⟨s,n,b,e,a⟩ 1 ((b:Int)+s.size) h
 have es:failR ⟨s,n,b,e,a⟩ 1 ((b:Int)+s.size)=shortR ⟨s,n,b,e,a⟩:=rfl;rw[es]at k2;obtain⟨⟨c0,_⟩,⟨c1,_⟩,⟨c2,_⟩,⟨c3,_⟩,⟨c4,_⟩⟩:=h.cells;have K1:=Lib.hid k1;have K2:=Lib.hid k2;clear k1 k2;generalize shortR ⟨s,n,b,e,a⟩=z at *
 go_enter Tryz.func78,Tryz.ntmps78
 go_wp2_with (first
  | (go_at_call 77;refine(K1.out _ h).mono ?_;rintro x w1 ⟨rfl,hb1⟩)
  | (go_at_call 73;refine(K2.out _ (h.bel hb1)).mono ?_;rintro x w2 ⟨rfl,hi,hg⟩))
 go_end0
 exact⟨rfl,hi,jb3 (jc1 hb1) hg⟩
theorem kh0(w:World)(r:Nat)(x:RS)(h:InX w r x)(hk:okR x):
 Calls Tryz.prog 83 #[.pointer (some ⟨r,0,none⟩)] w fun v w'=>v=.returned (.int .i64 (leftR x))∧Below w.heap.size w w':=by
 by_cases he:x.e=0
 · obtain⟨s,n,b,e,a⟩:=x
   simp only at he;subst he;have:=in_left w r s n b a h hk.1 hk.2.1;unfold leftR;rw[if_neg (by simp)];exact this
 · have ef:leftR x=0:=by unfold leftR;rw[if_pos he]
   have k1:=fun w h=>jq4 w r x.s x.n x.b x.e x.a h
   have hd:decide (x.e=0)=false:=by simpa using he
   rw[ef];rw[hd]at k1;have K1:=Lib.hid k1;clear k1;clear ef
   go_enter Tryz.func83,Tryz.ntmps83
   go_wp2_with (go_at_call 76;refine(K1.out _ h).mono ?_;rintro x w1 ⟨rfl,hb1⟩)
   go_ret
   exact⟨rfl,hb1⟩
theorem kn0(w:World)(r:Nat)(x:RS)(h:InX w r x)(hk:okR x):
 Calls Tryz.prog 71 #[.pointer (some ⟨r,0,none⟩)] w fun v w'=>v=.returned (.int .i64 ((x.b:Int)+x.n))∧Below w.heap.size w w':=
 in_at w r x.s x.n x.b x.e x.a h (by have:=hk.1;have:=hk.2.1;have:=hk.2.2;omega)
theorem jq3(w:World)(r:Nat)(x:RS)(k:Int)(h:InX w r x)(hk:okR x)(k0 : -1152921504606846976≤k)(k1:k≤1152921504606846976):
 Calls Tryz.prog 102 #[.pointer (some ⟨r,0,none⟩),.int .i64 k] w fun v w'=>v=.returned (.string (takeR x k).2)∧InX w' r (takeR x k).1∧w.grownBy w' (some r):=by
 by_cases he:x.e=0
 · by_cases hb:k<0∨(x.s.size:Int)-x.n<k
   · have ef:takeR x k=(shortR x,⟨#[]⟩):=by unfold takeR;rw[if_neg (by simpa using he),if_pos hb]
     rw[ef];have kr:=fun w h=>jq4 w r x.s x.n x.b x.e x.a h
     have hd:decide (x.e=0)=true:=by simpa using he
     rw[hd]at kr;have ks:=fun w h=>qk2 w r x h hk
     have hw:IntKind.i64.wrap ((x.s.size:Int)-x.n)=(x.s.size:Int)-x.n:=wi64 _ (by have:=hk.1;have:=hk.2.1;omega) (by have:=hk.1;have:=hk.2.1;omega);clear ef;generalize shortR x=z at *;obtain⟨s,n,b,e,a⟩:=x;simp only at he hw kr hb;subst he;have h:InC w r s n b 0 a:=h;have KR:=Lib.hid kr;have KS:=Lib.hid ks;clear kr ks;by_cases hn:k<0
     · clear hb
       go_enter Tryz.func102,Tryz.ntmps102
       go_wp2_with (go_at_call 76;refine(KR.out _ h).mono ?_;rintro x w1 ⟨rfl,hb1⟩;obtain⟨⟨c0,_⟩,⟨c1,f1⟩,_⟩:=(h.bel hb1).cells)
       go_quiet (fail)
       go_wp2_with (first
        | (go_at_call 78;refine(KS.out _ (h.bel (bdn hb1 _))).mono ?_;rintro x w2 ⟨rfl,hi,hg⟩))
       go_ret
       exact⟨rfl,hi,jb3 (jc1 (bdn hb1 _)) hg⟩
     · have hd2:decide (k > (s.size:Int)-n)=true:=by simp;omega
       have hlt:(s.size:Int)-n<k:=by omega
       clear hb
       go_enter Tryz.func102,Tryz.ntmps102
       go_wp2_with (go_at_call 76;refine(KR.out _ h).mono ?_;rintro x w1 ⟨rfl,hb1⟩;obtain⟨⟨c0,_⟩,⟨c1,f1⟩,_⟩:=(h.bel hb1).cells)
       go_quiet (fail)
       go_wp2_with (first
        | (go_at_call 78;refine(KS.out _ (h.bel (bdn hb1 _))).mono ?_;rintro x w2 ⟨rfl,hi,hg⟩))
       go_ret
       exact⟨rfl,hi,jb3 (jc1 (bdn hb1 _)) hg⟩
   · obtain⟨m,rfl⟩:∃m:Nat,k=(m:Int):=⟨k.toNat,by omega⟩
     have ef:takeR x m=({ x with n:=x.n+m },x.s.extract x.n (x.n+m)):=by unfold takeR;rw[if_neg (by simpa using he),if_neg hb];rfl
     rw[ef];obtain⟨s,n,b,e,a⟩:=x;simp only at he hb;subst he;exact in_take w r s n b a m h hk.2.1 (by have:=hk.1;simp only at this;omega)
 · have ef:takeR x k=(x,⟨#[]⟩):=by unfold takeR;rw[if_pos he]
   have kr:=fun w h=>jq4 w r x.s x.n x.b x.e x.a h
   have hd:decide (x.e=0)=false:=by simpa using he
   rw[ef];rw[hd]at kr;have KR:=Lib.hid kr;clear kr;clear ef hk
   go_enter Tryz.func102,Tryz.ntmps102
   go_wp2_with (go_at_call 76;refine(KR.out _ h).mono ?_;rintro x w1 ⟨rfl,hb1⟩)
   go_ret
   exact⟨rfl,h.bel hb1,jc1 hb1⟩
theorem fd_step(l m:List UInt8)(k:Nat)(a b:UInt8)(ha:l[k]?=some a)(hb:m[k]?=some b):firstDiff (l.drop k) (m.drop k) k=if a=b then firstDiff (l.drop (k+1)) (m.drop (k+1)) (k+1)else some k:=by
 obtain⟨h1,h2⟩:=List.getElem?_eq_some_iff.1 ha;obtain⟨h3,h4⟩:=List.getElem?_eq_some_iff.1 hb;rw[List.drop_eq_getElem_cons h1,List.drop_eq_getElem_cons h3,h2,h4,firstDiff]
theorem fd_end(l m:List UInt8)(k:Nat)(h:l.length≤k∨m.length≤k):firstDiff (l.drop k) (m.drop k) k=none:=by
 rcases h with h|h
 · rw[List.drop_of_length_le h];rfl
 · rw[List.drop_of_length_le h];cases l.drop k<;>rfl
theorem InC.next{w:World}{r:Nat}{s:ByteArray}{n b e a:Int}(h:InC w r s n b e a)(m:Int):InC (w.setCell ⟨r,1,none⟩ (.int .i64 m)) r s m b e a:=by
 have h0:=heap_setCell_same w r 1 _ _ (.int .i64 m) h;unfold InC;rw[h0];simp
set_option maxRecDepth 100000 in
theorem jt6(w:World)(r:Nat)(x:RS)(t:ByteArray)(h:InX w r x)(hk:okR x)(ht:t.size≤1073741824):
 Calls Tryz.prog 41 #[.pointer (some ⟨r,0,none⟩),.string t] w fun v w'=>v=.returned (.bool (wantR x t).2)∧InX w' r (wantR x t).1∧w.grownBy w' (some r):=by
 have kr:=fun w h=>jq4 w r x.s x.n x.b x.e x.a h
 by_cases he:x.e=0
 · have ks:=fun w h=>qk2 w r x h hk
   have kf:=fun w h (k:Nat)=>jj1 w r x 1 ((x.b:Int)+x.n+k) h
   obtain⟨h1,h2,h3⟩:=hk;have kp:∀(k:Nat),k≤1073741824→∀w,InX w r x→Calls Tryz.prog 77 #[.pointer (some ⟨r,0,none⟩),.int .i64 ((x.n:Int)+k)] w fun v w'=>v=.returned (.int .i64 ((x.b:Int)+x.n+k))∧Below w.heap.size w w':=by
    intro k hk w hw;have:=qc3 w r x.s x.n x.b x.e x.a (x.n+k) hw (by omega);rw[Int.natCast_add,←Int.add_assoc]at this;exact this
   have hd:decide (x.e=0)=true:=by simpa using he
   rw[hd]at kr;have hw0:wantR x t=match firstDiff (bl t) ((bl x.s).drop x.n) 0 with
    | some i=>(failR x 1 ((x.b:Int)+x.n+i),false)
    | none=>if(x.s.size:Int)-x.n<t.size then(shortR x,false)else({ x with n:=x.n+t.size },true):=by
    unfold wantR;rw[if_neg (by simpa using he)];rfl
   obtain⟨R,hR⟩:∃R,R=firstDiff (bl t) ((bl x.s).drop x.n) 0:=⟨_,rfl⟩;rw[←hR]at hw0;have HX:Hid (x.e=0):=he;obtain⟨u,hu⟩:∃u:ByteArray,u=x.s.extract x.n x.s.size:=⟨_,rfl⟩;have hul:u.size=x.s.size-x.n:=by rw[hu,ByteArray.size_extract];omega
   have hub:(bl x.s).drop x.n=bl u:=by rw[hu];exact(jh6 x.s x.n).symm
   rw[hub]at hR;obtain⟨⟨c0,_⟩,⟨c1,_⟩,_⟩:=InC.cells h;have HT:Hid ((bl t).length=t.size):=jb1 t;have HU:Hid ((bl u).length=u.size):=jb1 u;have n0:(0:Int)≤(x.n:Int):=by omega
   have n1:(x.n:Int)≤(x.s.size:Int):=by omega
   have KR:=Lib.hid kr;have KS:=Lib.hid ks;have KF:=Lib.hid kf;have KP:=Lib.hid kp;have HW0:=Lib.hid hw0;have HR:=Lib.hid hR;have HUB:=Lib.hid hub;have HUE:=Lib.hid hu;clear kr ks kf kp hw0 hR hub hu;clear he hd
   go_enter Tryz.func41,Tryz.ntmps41
   go_wp2_with (go_at_call 76;refine(KR.out _ h).mono ?_;rintro e w1 ⟨rfl,hb1⟩;have d0:=kc hb1 c0;have d1:=kc hb1 c1)
   go_quiet (fail)
   go_wp2
   rw[←HUE.out];have hb2:=bdn hb1 nq;have hi1:=h.bel hb2;have HB2:=Lib.hid hb2;have HI1:=Lib.hid hi1;clear hb2 hi1
   go_loopw [6] (fun i wr=>∃k:Nat,i=.int .i64 (k:Int)∧k≤t.size∧k≤u.size∧Hid (firstDiff ((bl t).drop k) ((bl u).drop k) k=R)∧Below (w1.drewN nq).heap.size (w1.drewN nq) wr) (fun i _=>t.size-(intOf i).toNat)
   case atStart=>exact⟨0,rfl,Nat.zero_le _,Nat.zero_le _,Lib.hid (by rw[List.drop_zero,List.drop_zero];exact HR.out.symm),Below.refl _ _⟩
   case round=>
    obtain⟨k,rfl,hkt,hku,hF,hbel⟩:=hrel;have hbx:=HB2.out.trans (hbel.mono HB2.out.size);have hix:=HI1.out.bel hbel;by_cases a1:k<t.size
    · by_cases a2:k<u.size
      · obtain⟨p,hp⟩:=jb6 (bl t) k (by rw[HT.out];exact a1)
        obtain⟨q,hq⟩:=jb6 (bl u) k (by rw[HU.out];exact a2);have X:∀h,t[k]'h=p:=jc7 t k p hp;have Y:∀h,u[k]'h=q:=jc7 u k q hq;have hf:=fd_step (bl t) (bl u) k p q hp hq;rw[hF.out]at hf;have hpl:=p.toNat_lt;have hql:=q.toNat_lt;have m0:(0:Int)≤(k:Int):=by omega
        have m1:(k:Int)<(t.size:Int):=by omega
        have m2:(k:Int)<(u.size:Int):=by omega
        clear hp hq;by_cases hpq:p=q
        · subst hpq
          rw[if_pos rfl]at hf;have HF:=Lib.hid hf;have HBX:=Lib.hid hbx;have HIX:=Lib.hid hix;clear hf hbx hix
          go_wp2
          go_quiet (fail)
          go_wp2
          exact⟨⟨k+1,by go_num,by omega,by omega,Lib.hid HF.out.symm,bdn hbel _⟩,by simp[intOf];omega⟩
        · rw[if_neg hpq]at hf
          have hw0:=HW0.out;rw[hf]at hw0;simp only at hw0;have HWW:=Lib.hid hw0;have b0:((p.toNat:Int) != (q.toNat:Int))=true:=by
           rw[bne_iff_ne];intro h;exact hpq (UInt8.toNat_inj.1 (by omega))
          have wn:IntKind.i64.wrap ((x.n:Int)+(k:Int))=(x.n:Int)+k:=wi64 _ (by omega) (by omega);obtain⟨⟨e0,_⟩,⟨e1,_⟩,_⟩:=InC.cells hix;have HBX:=Lib.hid hbx;have HIX:=Lib.hid hix;clear hbx hix;clear hf hw0 hF
          go_wp2
          go_quiet (fail)
          go_wp2_with (first
           | (go_at_call 77;refine(KP.out k (by omega) _ (HIX.out.bel (bdn (Below.refl _ _) _))).mono ?_;rintro e w3 ⟨rfl,hb3⟩)
           | (go_at_call 73;refine(KF.out _ ((HIX.out.bel (bdn (Below.refl _ _) _)).bel hb3) k).mono ?_;rintro e w4 ⟨rfl,hi4,hg4⟩))
          go_ret
          rw[HWW.out];exact⟨rfl,hi4,jb3 (jc1 (bt (bdn HBX.out _) hb3)) hg4⟩
      · have hend:R=none:=by rw[←hF.out];exact fd_end _ _ _ (.inr (by rw[HU.out];omega))
        have hw0:=HW0.out;rw[hend]at hw0;simp only at hw0;rw[if_pos (by omega)]at hw0;have HWW:=Lib.hid hw0;have m1:¬(k:Int)<(u.size:Int):=by omega
        have m2:(t.size:Int) > (u.size:Int):=by omega
        have HBX:=Lib.hid hbx;have HIX:=Lib.hid hix;clear hbx hix;clear hw0 hend hF
        go_wp2_with (go_at_call 78;refine(KS.out _ HIX.out).mono ?_;rintro e w4 ⟨rfl,hi4,hg4⟩)
        go_ret
        rw[HWW.out];exact⟨rfl,hi4,jb3 (jc1 HBX.out) hg4⟩
    · have hkt':k=t.size:=by omega
      have hend:R=none:=by rw[←hF.out];exact fd_end _ _ _ (.inl (by rw[HT.out];omega))
      have hw0:=HW0.out;rw[hend]at hw0;simp only at hw0;rw[if_neg (by omega)]at hw0;have HWW:=Lib.hid hw0;have m2:¬(t.size:Int) > (u.size:Int):=by omega
      have wn:IntKind.i64.wrap ((x.n:Int)+(t.size:Int))=(x.n:Int)+t.size:=wi64 _ (by omega) (by omega);obtain⟨⟨e0,_⟩,⟨e1,f1⟩,_⟩:=InC.cells hix;have HBX:=Lib.hid hbx;have HIX:=Lib.hid hix;clear hbx hix;clear hw0 hend hF hkt'
      go_wp2
      go_ret
      rw[HWW.out];refine⟨rfl,?_,jb3 (jc1 HBX.out) (jc0 _ r 1 _)⟩;show InC _ _ _ ((x.n+t.size:Nat):Int) _ _ _;rw[Int.natCast_add];exact InC.next HIX.out _
 · have ew:wantR x t=(x,false):=by unfold wantR;rw[if_pos he]
   have hd:decide (x.e=0)=false:=by simpa using he
   rw[ew];rw[hd]at kr;have KR:=Lib.hid kr;clear kr;clear ew hk
   go_enter Tryz.func41,Tryz.ntmps41
   go_wp2_with (go_at_call 76;refine(KR.out _ h).mono ?_;rintro x w1 ⟨rfl,hb1⟩)
   go_ret
   exact⟨rfl,h.bel hb1,jc1 hb1⟩
end Go.Proofs.YtagjkmkmphamoaaGreatDoor
