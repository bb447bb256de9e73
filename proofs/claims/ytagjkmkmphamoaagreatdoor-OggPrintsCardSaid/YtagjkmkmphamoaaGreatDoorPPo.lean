/- Po -/
import Derived.WalkSpells
import Derived.WalkLawsBesides
import Derived.Deep.Light
import Derived.StillTail
import Derived.BigQuiet
import Derived.Test.YtagjkmkmphamoaaGreatDoorPShelf
import Derived.Test.YtagjkmkmphamoaaGreatDoorPWo
set_option linter.all false
set_option maxHeartbeats 2000000
namespace Go.Proofs.YtagjkmkmphamoaaGreatDoor
open Go.RowKit
theorem infoByte:(Tryz.prog.info? 5).map (fun i=>(i.zero,i.size,i.bytes))=some (some (.int .u8 0),1,1):=by kernel_rfl
def Own(w:World)(B:Nat)(v:Value)(l:List UInt8):Prop:=w.ownsRow B 5 1 v l.length (bcells l)
theorem Own.nil(w:World)(B:Nat):Own w B (.slice none 0 0) []:=World.ownsRow_nil _ _ _ _
theorem Own.blk{w:World}{B:Nat}{v:Value}{l:List UInt8}(h:Own w B v l):∀k,v.ownBlock=some k→B≤k∧k<w.heap.size:=by
 intro k hk;rcases h.2 with⟨rfl,_⟩|⟨g,cap,cur,rfl,hg,hh,_⟩
 · simp[Value.ownBlock]at hk
 · simp only[Value.ownBlock,Option.some.injEq]at hk
   subst hk;exact⟨hg,(Array.getElem?_eq_some_iff.1 hh).1⟩
theorem Own.bel{w w':World}{B:Nat}{v:Value}{l:List UInt8}(h:Own w B v l)(hb:Below w.heap.size w w'):Own w' B v l:=by
 refine⟨h.1,?_⟩;rcases h.2 with h'|⟨g,cap,cur,hv,hg,hh,r⟩
 · exact .inl h'
 · exact .inr ⟨g,cap,cur,hv,hg,(hb.block g (Array.getElem?_eq_some_iff.1 hh).1).trans hh,r⟩
theorem Own.alloc{w:World}{B:Nat}{v:Value}{l:List UInt8}(h:Own w B v l)(o:Obj):Own (w.alloc o) B v l:=h.bel ((Below.refl _ _).alloc (Nat.le_refl _) o)
theorem Own.drew{w:World}{B:Nat}{v:Value}{l:List UInt8}(h:Own w B v l):Own w.drew B v l:=h
theorem Own.drewN{w:World}{B:Nat}{v:Value}{l:List UInt8}(h:Own w B v l)(n:Nat):Own (w.drewN n) B v l:=h.bel (bdn (Below.refl _ _) n)
theorem Own.below{w w':World}{B:Nat}{v:Value}{l:List UInt8}(h:Own w B v l)(hg:w.grownBy w' v.ownBlock)(hB:B≤w.heap.size):Below B w w':=
 (Below.refl _ _).grown hg hB fun k hk=>(h.blk k hk).1
theorem jq6{w:World}{B:Nat}{v:Value}{l:List UInt8}(h:Own w B v l):(convert 140 9 v).run Tryz.prog w=.ok (.string ⟨l.toArray⟩) w:=
 jf7 140 9 Tryz.underlying140 Tryz.underlying5 Tryz.underlying9 h
section
variable {ops:Array Oper} {rest:List Oper} {o:Oper} {a:Act} {Q:Exit→Act→World→Prop}
theorem qp6(hgd:o.guard=none)(s x:Operand)(ho:o.op=.call { callee:=.builtin .append,args:=#[s,x],argTypes:=#[140,140] })
 (W:World) (B:Nat) (v:Value) (l:List UInt8) (b:UInt8) (hs:a.eval s=v) (hown:Own W B v l) (hx:a.eval x=.slice (some ⟨W.heap.size,0,none⟩) 1 1)
 (hlen:l.length<70368744177664) (hB:B≤W.heap.size) (h:∀v' w',Own w' B v' (l ++ [b])→Below B W w'→wpList Tryz.prog ops Q rest (a.put o.dst v') w'):
 wpList Tryz.prog ops Q (o::rest) a (W.alloc (.cells #[.int .u8 (b.toNat:Int)] 5)):=by
 obtain⟨i0,hi,hz0,hz1,hz2⟩:=info_parts infoByte;refine wpList_append_own _ hgd s x 140 ho B 5 i0 (.int .u8 0) 1 1 Tryz.underlying140 hi hz0 hz1 hz2 rfl (by decide) v l.length (bcells l) hs (hown.alloc _) ⟨W.heap.size,0,none⟩ 1 1 [.int .u8 (b.toNat:Int)] hx rfl ?_ ?_ ?_ ?_ ?_ ?_
 · intro j u hj
   match j,hj with
   | 0,hj=>simp at hj;subst hj;simp[Addr.add]
 · intro u hu;simp at hu;subst hu;rfl
 · unfold maxLen;omega
 · omega
 · simp;omega
 · intro v' w1 h1 h2 _
   refine h v' w1 ?_ ?_
   · unfold Own;rw[jj5,List.length_append];exact h1
   · exact((Below.refl _ _).alloc hB _).trans ((hown.alloc _).below h2 (by simp;omega))
theorem kd2(hgd:o.guard=none)(s x:Operand)(ho:o.op=.call { callee:=.builtin .append,args:=#[s,x],argTypes:=#[140,9] })
 (W:World) (B:Nat) (v:Value) (l:List UInt8) (t:ByteArray) (hs:a.eval s=v) (hown:Own W B v l) (hx:a.eval x=.string t)
 (hlen:l.length+t.size<70368744177664) (hB:B≤W.heap.size) (h:∀v' w',Own w' B v' (l++bl t)→Below B W w'→wpList Tryz.prog ops Q rest (a.put o.dst v') w'):
 wpList Tryz.prog ops Q (o::rest) a W:=by
 obtain⟨i0,hi,hz0,hz1,hz2⟩:=info_parts infoByte;refine Lib.wpList_append_own_string W hgd s x 140 9 ho B 5 i0 Tryz.underlying140 Tryz.underlying9 hi hz0 hz1 hz2 v l.length (bcells l) hs hown t hx ?_ ?_ hB ?_
 · unfold maxLen;omega
 · omega
 · intro v' w1 h1 h2 _
   refine h v' w1 ?_ (hown.below h2 hB);unfold Own;rw[jj5,List.length_append,jb1];exact h1
end
def encR(r:Int):List UInt8:=Lib.encodeRune r
theorem jj2(r:Int):1≤(encR r).length∧(encR r).length≤4:=by
 have:=Lib.runeCells_le r;rw[Lib.runeCells_length]at this;exact this
theorem jh0(B:Nat)(v:Value)(l:List UInt8)(r:Int)(w:World)(h0 : -2147483648≤r)(h1:r≤2147483647)(hown:Own w B v l)(hlen:l.length<70368744177664)(hB:B≤w.heap.size):
 Calls Tryz.prog 150 #[v,.int .i32 r] w fun e w'=>∃v',e=.returned v'∧Own w' B v' (l++encR r)∧Below B w w':=by
 refine(Tryz.utf8_AppendRune_plain B v l.length (bcells l) r h0 h1 w hown (by omega) hB).mono fun e w' ⟨v',he,ho,o,hg⟩=>⟨v',he,?_,?_⟩
 · unfold Own
   rw[jj5,List.length_append];have e1:bcells (encR r)=Lib.runeCells r:=Lib.byteCells_encodeRune r;have e2:(encR r).length=(Lib.runeCells r).length:=(Lib.runeCells_length r).symm;rw[e1,e2];exact ho
 · exact((Below.refl _ _).alloc hB _).trans ((hown.alloc _).below hg (by simp;omega))
def scalar(p:Int):Bool:=decide (0≤p∧p≤1114111∧(p<55296∨57343<p))
theorem jz7(p:Int)(w:World):
 Calls Tryz.prog 181 #[.int .i32 p] w fun e w'=>e=.returned (.bool (scalar p))∧w=w':=by
 go_enter Tryz.func181,Tryz.ntmps181
 go_wp2
 all_goals go_ret
 all_goals (refine⟨jg0 ?_,rfl⟩;unfold scalar;rw[Bool.eq_iff_iff];simp;omega)
theorem qn1(s:ByteArray)(h:s.size≠0):Lib.decodeGo s=dec (bl s):=by
 unfold Lib.decodeGo;rw[if_neg h];have:=kw4 (bl s) 0
 rwa [List.drop_zero,js2]at this
theorem qt8(s:ByteArray)(a:Nat)(h:a<s.size):Lib.decodeGo (s.extract a s.size)=dec ((bl s).drop a):=by
 have hl:(s.extract a s.size).size≠0:=by
  rw[Lib.size_eq,jh6];simp;omega
 rw[qn1 _ hl];unfold bl;rw[jh6]
theorem js5(s:ByteArray)(a:Nat)(r k:Nat)(w:World)(hT:TW w)(h:a<s.size)(hd:Hid (dec ((bl s).drop a)=(r,k))):
 Calls Tryz.prog 178 #[.string (s.extract a s.size)] w fun e w'=>e=.returned (.tuple #[.int .i32 r,.int .i64 k])∧Below w.heap.size w w':=by
 have:=Tryz.utf8_DecodeRuneInString (s.extract a s.size) w hT.u8;rw[qt8 s a h,hd.out]at this;exact this
def faultV:Option Nat→Value
 | none=>.agg #[.int .i64 0,.int .i64 0]
 | some k=>.agg #[.int .i64 2,.int .i64 k]
theorem kz1(s:ByteArray)(w:World)(hT:TW w)(hs:s.size≤9223372036854775807):
 Calls Tryz.prog 152 #[.string s] w fun e w'=>e=.returned (.tuple #[.int .i64 (scanL (bl s)).1,faultV (scanL (bl s)).2])∧Below w.heap.size w w':=by
 obtain⟨R,hR⟩:∃R,R=scanL (bl s):=⟨_,rfl⟩;have HR:=Lib.hid hR;rw[←hR];clear hR
 go_enter Tryz.func152,Tryz.ntmps152
 go_wp2
 obtain⟨W,hW⟩:∃W,W=w.alloc (.cells #[.int .i64 0,.int .i64 0] 54):=⟨_,rfl⟩;have hTW:TW W:=by rw[hW];exact hT.alloc _
 have l0:Live W w.heap.size 0 (.int .i64 0):=by rw[hW];exact Live.fresh w _ _ 0 _ rfl
 have l1:Live W w.heap.size 1 (.int .i64 0):=by rw[hW];exact Live.fresh w _ _ 1 _ rfl
 have hb0:Below w.heap.size w W:=by rw[hW];exact(Below.refl _ _).alloc (Nat.le_refl _) _
 rw[←hW];clear hW;have HT:=Lib.hid hTW;have HL:Hid ((bl s).length=s.size):=jb1 s;clear hTW hT
 go_loopw [4,5] (fun n at_ wr=>∃(f k m:Nat),at_=.int .i64 (k:Int)∧n=.int .i64 (m:Int)∧k≤s.size∧m≤k∧s.size-k≤f∧Hid (scanF f ((bl s).drop k) k m=R)∧Below W.heap.size W wr) (fun _ at_ _=>s.size-(intOf at_).toNat)
 case atStart=>exact⟨s.size,0,0,rfl,rfl,Nat.zero_le _,Nat.le_refl _,by omega,by have:=HR.out;unfold scanL at this;rw[HL.out]at this;rw[List.drop_zero];exact this.symm,Below.refl _ _⟩
 case round=>
  obtain⟨f,k,m,rfl,rfl,hk,hm,hf,hR,hbel⟩:=hrel;have hbw:=hb0.trans (hbel.mono (hb0.size));by_cases hlt:k<s.size
  · obtain⟨f,rfl⟩:∃g,f=g+1:=⟨f-1,by omega⟩
    have hne:(bl s).drop k ≠ []:=by
     intro e;have:=congrArg List.length e;rw[List.length_drop,HL.out]at this;simp at this;omega
    have hpos:=jg2 ((bl s).drop k);have hle:=jz3 _ hne;rw[List.length_drop,HL.out]at hle;rcases hd:dec ((bl s).drop k)with⟨r,j⟩
    rw[hd]at hpos hle;have HD:=Lib.hid hd;have hrb:=jz2 ((bl s).drop k);rw[hd]at hrb;simp only at hpos hle hrb;have hbd:badDec ((bl s).drop k)=(decide (r=65533)&&decide (j≤1)):=by unfold badDec;rw[hd]
    by_cases hbad:r=65533∧j≤1
    · have e1:=kk1 f _ k m hne (by rw[hbd];simp[hbad.1,hbad.2])
      rw[hR.out]at e1;obtain⟨hr,hj⟩:=hbad;subst hr;have E1:=Lib.hid e1;have y0:=l0.keep hbel;have y1:=l1.keep hbel;clear hd hbd e1 l0 l1 hne
      go_wp2_with (go_at_call 178;refine(js5 s k _ _ _ (HT.out.bel hbel) hlt HD).mono ?_;rintro e w1 ⟨rfl,hb1⟩;obtain⟨a1,a2⟩:=y0.keep hb1;obtain⟨a3,a4⟩:=y1.keep hb1)
      refine bodyPost_ret (v:=.tuple #[.int .i64 0,.agg #[.int .i64 2,.int .i64 k]]) (by simp[results,Tryz.results152,go_sem,a1,a2,a3,a4]) rfl ⟨?_,?_⟩
      · rw[E1.out];rfl
      · exact((bt hbw hb1).setCell (Nat.le_refl _) _).setCell (Nat.le_refl _) _
    · have e1:=js9 f _ k m hne (by rw[hbd];simp;omega)
      rw[hR.out,hd,List.drop_drop]at e1;simp only at e1;have hT1:k+j=j+k:=Nat.add_comm _ _;have E1:=Lib.hid e1;have hr0:(r:Int)<1114112:=by omega
      have hbb:(r:Int)=65533→1<(j:Int):=by omega
      clear hd hbd e1 l0 l1 hne hT1;rcases(show(¬(r:Int)=65533)∨((r:Int)=65533∧1<(j:Int)) from by omega)with c|⟨c,c'⟩
      · have cB:((r:Int)==65533)=false:=by simpa using c
        clear hbb hbad c
        go_wp2_with (go_at_call 178;refine(js5 s k _ _ _ (HT.out.bel hbel) hlt HD).mono ?_;rintro e w1 ⟨rfl,hb1⟩)
        go_roundw
        case rel=>exact⟨f,k+j,m+1,by go_num,by go_num,by omega,by omega,by omega,E1.out.symm,bt hbel hb1⟩
        case measure=>simp[intOf];omega
      · have cr:r=65533:=by omega
        subst cr;clear hbb hbad c
        go_wp2_with (go_at_call 178;refine(js5 s k _ _ _ (HT.out.bel hbel) hlt HD).mono ?_;rintro e w1 ⟨rfl,hb1⟩)
        go_roundw
        case rel=>exact⟨f,k+j,m+1,by go_num,by go_num,by omega,by omega,by omega,E1.out.symm,bt hbel hb1⟩
        case measure=>simp[intOf];omega
  · have hkk:k=s.size:=by omega
    subst hkk;have e1:scanF f ((bl s).drop s.size) s.size m=(m,none):=by
     rw[List.drop_of_length_le (by rw[HL.out];exact Nat.le_refl _)];exact kk0 f _ m
    rw[hR.out]at e1;have E1:=Lib.hid e1;obtain⟨a1,a2⟩:=l0.keep hbel;obtain⟨a3,a4⟩:=l1.keep hbel;clear e1 l0 l1
    go_wp2
    refine bodyPost_ret (v:=.tuple #[.int .i64 m,.agg #[.int .i64 0,.int .i64 0]]) (by simp[results,Tryz.results152,go_sem,a1,a2,a3,a4]) rfl ⟨?_,?_⟩
    · rw[E1.out];rfl
    · exact(hbw.setCell (Nat.le_refl _) _).setCell (Nat.le_refl _) _
theorem jp2(o:Option Nat):∃a b:Int,faultV o=.agg #[.int .i64 a,.int .i64 b]:=by cases o<;>exact⟨_,_,rfl⟩
theorem jb8(a b:Int)(w:World):
 Calls Tryz.prog 16 #[.agg #[.int .i64 a,.int .i64 b]] w fun e w'=>e=.returned (.bool (!decide (a=0)))∧Below w.heap.size w w':=by
 go_enter Tryz.func16,Tryz.ntmps16
 go_wp2
 all_goals go_ret
 all_goals (refine⟨jg0 ?_,bal (Below.refl _ _) _⟩)
 all_goals (rw[Bool.eq_iff_iff];simp)
theorem qn5(s:ByteArray)(w:World)(hT:TW w)(hs:s.size≤9223372036854775807):
 Calls Tryz.prog 126 #[.string s] w fun e w'=>e=.returned (faultV (scanL (bl s)).2)∧Below w.heap.size w w':=by
 have k1:=fun w hT=>kz1 s w hT hs
 obtain⟨a,b,hab⟩:=jp2 (scanL (bl s)).2;rw[hab]at k1 ⊢;generalize (scanL (bl s)).1=n at *;clear hab;have K1:=Lib.hid k1;have HT:=Lib.hid hT;clear k1 hT;have l0:=Live.fresh w #[.int .i64 0,.int .i64 0] 54 0 _ rfl;have l1:=Live.fresh w #[.int .i64 0,.int .i64 0] 54 1 _ rfl
 go_enter Tryz.func126,Tryz.ntmps126
 go_wp2_with (go_at_call 152;refine(K1.out _ (HT.out.alloc _)).mono ?_;rintro e w1 ⟨rfl,hb1⟩;obtain⟨a1,a2⟩:=l0.keep hb1;obtain⟨a3,a4⟩:=l1.keep hb1;have hsz:=(Live.keep l0 hb1).lt)
 refine bodyPost_ret (v:=.agg #[.int .i64 a,.int .i64 b]) (by simp[results,Tryz.results126,go_sem,a1,a2,a3,a4,hsz]) rfl ⟨rfl,?_⟩;exact(((bt ((Below.refl _ _).alloc (Nat.le_refl _) _) hb1).setCell (Nat.le_refl _) _).setCell (Nat.le_refl _) _).alloc (by simp;omega) _
end Go.Proofs.YtagjkmkmphamoaaGreatDoor
namespace Go.Proofs.YtagjkmkmphamoaaGreatDoor
open Go.RowKit Go.Maps
def MemoG(k:TypeId)(F:Value→Value)(w:World)(blk:Nat):Prop:=∃S,MapS Tryz.prog k w blk S∧∀u v,S u v→v=F u
theorem MemoG.made(k:TypeId)(F:Value→Value)(w:World):MemoG k F (w.alloc (.map #[] 0)) w.heap.size:=⟨_,MapS.made w _ _,fun _ _ h=>h.elim⟩
theorem MemoG.lt{k:TypeId}{F:Value→Value}{w:World}{b:Nat}(h:MemoG k F w b):b<w.heap.size:=h.elim fun _ h=>h.1.lt
theorem MemoG.blk{k:TypeId}{F:Value→Value}{w w':World}{b:Nat}(h:MemoG k F w b)(he:w'.heap[b]?=w.heap[b]?):MemoG k F w' b:=h.elim fun S h=>⟨S,h.1.blk he,h.2⟩
theorem MemoG.bel{k:TypeId}{F:Value→Value}{w w':World}{b:Nat}(h:MemoG k F w b)(hb:Below w.heap.size w w'):MemoG k F w' b:=h.blk (hb.block b h.lt)
section
variable {ops:Array Oper} {rest:List Oper} {o:Oper} {a:Act} {Q:Exit→Act→World→Prop}
theorem jr5(w:World)(hg:o.guard=none)(t:TypeId)(m x:Operand)(hop:o.op=Op.lookup t m x true)(k e:TypeId)(K:Keyed Tryz.prog k)(ht:Tryz.prog.underlying t=some (.map k e))
 (z:Value) (hz:(zeroValue e).run Tryz.prog w=.ok z w) (F:Value→Value) (blk:Nat) (hm:a.eval m=.map (some blk)) (hS:MemoG k F w blk) (key:Value) (kl:Lit) (hx:a.eval x=key) (hkey:keyOf Tryz.prog k key=some kl) (v:Value) (hv:Hid (F key=v))
 (h0:wpList Tryz.prog ops Q rest (a.put o.dst (.tuple #[z,.bool false])) w)
 (h1:wpList Tryz.prog ops Q rest (a.put o.dst (.tuple #[v,.bool true])) w):wpList Tryz.prog ops Q (o::rest) a w:=by
 obtain⟨S,hM,hS⟩:=hS;refine jk7 w hg m x _ hop k e K ht z hz blk S hm hM _ kl hx hkey (fun _=>h0) ?_;intro u hu;rw[hS _ _ hu,hv.out];exact h1
theorem jp7(w:World)(hg:o.guard=none)(t:TypeId)(m x v:Operand)(hop:o.op=Op.mapUpdate t m x v)(k e:TypeId)(K:Keyed Tryz.prog k)(ht:Tryz.prog.underlying t=some (.map k e))
 (F:Value→Value) (blk:Nat) (hm:a.eval m=.map (some blk)) (hS:MemoG k F w blk) (key val:Value) (kl:Lit) (hx:a.eval x=key) (hkey:keyOf Tryz.prog k key=some kl) (hv:a.eval v=val) (hF:Hid (F key=val))
 (h:∀w',MemoG k F w' blk→w.grownBy w' (some blk)→wpList Tryz.prog ops Q rest (a.put o.dst undef) w'):wpList Tryz.prog ops Q (o::rest) a w:=by
 obtain⟨S,hM,hS⟩:=hS;refine jp6 w hg m x v _ hop k e K ht blk S hm hM _ _ kl hx hv hkey ?_;intro w' hM' hg';refine h w' ⟨_,hM',?_⟩ hg';rintro u y (⟨rfl,rfl⟩|⟨_,hs⟩)
 · exact hF.out.symm
 · exact hS _ _ hs
end
theorem MemoG.grown{k:TypeId}{F:Value→Value}{w w':World}{b:Nat}{row:Option Nat}(h:MemoG k F w b)(hg:w.grownBy w' row)(hne:some b≠row):MemoG k F w' b:=h.blk (hg.block b h.lt hne)
end Go.Proofs.YtagjkmkmphamoaaGreatDoor
namespace Go.Proofs.YtagjkmkmphamoaaGreatDoor
open Go.RowKit
theorem keyed2:Maps.Keyed Tryz.prog 211:=Maps.Keyed.of_law (deep_law (m:=10) (by decide) (by kernel_rfl) (by kernel_rfl) (by kernel_rfl))
theorem pos_succ(m:Nat)(h:0<m):∃n,m=n+1:=⟨m-1,by omega⟩
theorem lits1(d:Nat)(b:UInt8):Tryz.prog.keyLits (d+1) 5 [.int .u8 (b.toNat:Int)]=some [.int .u8 (b.toNat:Int)]:=by
 have hb:=b.toNat_lt;have h0:IntKind.u8.min=0:=rfl;have h1:IntKind.u8.max=255:=rfl;unfold Program.keyLits;rw[Tryz.underlying5];simp only[Lit.wf,h0,h1];rw[if_pos];refine⟨trivial,?_⟩;simp;omega
theorem key2(a b:UInt8):∃kl,keyOf Tryz.prog 211 (.agg #[.int .u8 (a.toNat:Int),.int .u8 (b.toNat:Int)])=some kl:=by
 have hk:Tryz.prog.keyType 211=true:=by kernel_rfl
 have hc2:Tryz.prog.cellsOf 211=2:=by kernel_rfl
 have hc1:Tryz.prog.cellsOf 5=1:=by kernel_rfl
 have hpos:0<Tryz.prog.types.size:=by decide +kernel
 obtain⟨n,hn⟩:=pos_succ _ hpos;have hf:Value.formed Tryz.prog 211 (.agg #[.int .u8 (a.toNat:Int),.int .u8 (b.toNat:Int)])=true:=by
  unfold Value.formed;rw[Tryz.underlying211,hc2];rfl
 have hL:Tryz.prog.keyLits (n+1+1) 211 [.int .u8 (a.toNat:Int),.int .u8 (b.toNat:Int)]=some [.int .u8 (a.toNat:Int),.int .u8 (b.toNat:Int)]:=by
  unfold Program.keyLits;rw[Tryz.underlying211];simp only[hc2,hc1];simp[List.range,List.range.loop,lits1]
 unfold keyOf;rw[Tryz.underlying211];simp only[hk,Bool.true_and,hf,if_true,hn];exact⟨_,by show Option.map _ (Tryz.prog.keyLits (n+1+1) 211 [.int .u8 (a.toNat:Int),.int .u8 (b.toNat:Int)])=_;rw[hL];rfl⟩
structure Grown (w:World) where
 wd:World
 bel:Below w.heap.size w wd
instance (w:World):Nonempty (Grown w):=⟨⟨w,Below.refl _ _⟩⟩
theorem Grown.cell{w:World}(x:Grown w){b o:Nat}{v:Value}(h:w.cell? ⟨b,o,none⟩=some v):x.wd.cell? ⟨b,o,none⟩=some v:=kc x.bel h
theorem Grown.cell_new{w:World}{c:Array Value}{t:TypeId}(x:Grown (w.alloc (.cells c t)))(i:Nat):x.wd.cell? ⟨w.heap.size,i,none⟩=c[i]?:=by
 rw[x.bel.cell (p:=⟨w.heap.size,i,none⟩) (by simp),World.cell?_alloc_new]
section
variable {P:Program} {ops:Array Oper} {md:Region.Mode} {C:World→Prop}
def wpAnyLQ(P:Program)(md:Region.Mode)(ops:Array Oper)(C:World→Prop)(n:Nat)(L:Array Bool→Act→Prop):Nat→Array Bool→Act→Prop
 | 0,listed,a=>L listed a
 | f+1,listed,a=>
  Region.ready md ops listed ≠ []∧∀i∈Region.ready md ops listed,i<n∧qOp P ops C i (wpAnyLQ P md ops C n L f (listed.setIfInBounds i true)) a
theorem jv7{n g:Nat}{L:Array Bool→Act→Prop}{Q':Exit→Act→World→Prop}(hL:∀listed a w,C w→L listed a→wpAny P md ops Q' g listed a w):
 ∀(f:Nat) (listed:Array Bool) (a:Act) (w:World),C w→wpAnyLQ P md ops C n L f listed a→wpAny P md ops Q' (f+g) listed a w
 | 0,listed,a,w,hw,h=>by rw[Nat.zero_add];exact hL _ _ _ hw h
 | f+1,listed,a,w,hw,h=>by
  rw[show f+1+g=(f+g)+1 by omega];exact⟨fun h0=>absurd h0 h.1,fun i hi=>wpOp_of_qOp hw (fun a' w' hw' h'=>jv7 hL f _ a' w' hw' h') (h.2 i hi).2⟩
theorem kx5{n i:Nat}{oi:Oper}{v:Value}{L:Array Bool→Act→Prop}(hi:ops[i]?=some oi)(hsel:∀(j:Nat) (o:Oper) cs b,ops[j]?=some o→o.op≠.select cs b)
 (hs:Region.sinkB md ops n=true) (hc:Region.chainB md ops n=true) (hn:n<ops.size) (hin:i<n)
 (hdone:∀listed a,L listed a→∀j∈Region.ready md ops listed,n≤j):
 ∀(f:Nat) (listed:Array Bool) (a:Act),HeadInv md ops n listed →
  (∀j oj,ops[j]?=some oj→j≠i→listed.getD j true=false→(∀e∈oj.after,Region.binds md e=true→e.on≠i)→oi.apart ops oj=true) →
  i∈Region.ready md ops listed→YieldsIn P ops C oi v a →
  wpAnyLQ P md ops C n L f (listed.setIfInBounds i true) (a.put oi.dst v)→wpAnyLQ P md ops C n L (f+1) listed a:=by
 intro f
 induction f with
 | zero=>
  intro listed a inv _ hr hy H;have hun:=(mem_ready.1 hr).1;refine⟨fun h=>(by rw[h]at hr;cases hr),fun j hj=>?_⟩;have hjn:j<n:=by
   rcases Nat.lt_or_ge j n with h|h
   · exact h
   · exact absurd hj (tail_waits hs hc hn inv _ i rfl hin hun j h)
  refine⟨hjn,?_⟩;by_cases hji:j=i
  · subst hji;exact hy.qOp hi H
  · have:=hdone _ _ H j (ready_mono hj hji)
    omega
 | succ f ih=>
  intro listed a inv hfree hr hy H;have hun:=(mem_ready.1 hr).1;refine⟨fun h=>(by rw[h]at hr;cases hr),fun j hj=>?_⟩;have hjn:j<n:=by
   rcases Nat.lt_or_ge j n with h|h
   · exact h
   · exact absurd hj (tail_waits hs hc hn inv _ i rfl hin hun j h)
  refine⟨hjn,?_⟩;by_cases hji:j=i
  · subst hji;exact hy.qOp hi H
  · have h1:=(H.2 j (ready_mono hj hji)).2
    obtain⟨hjun,oj,hoj,hall⟩:=mem_ready.1 hj;have hnot:∀e∈oj.after,Region.binds md e=true→e.on≠i:=fun e he hb heq=>by
     have h1:=hall e he hb;rw[heq,getD_both hun]at h1;cases h1
    have h2:=qOp_put hoj (hfree j oj hoj hji hjun hnot) (fun cs b=>hsel i oi cs b hi) (fun cs b=>hsel j oj cs b hoj) hy h1;have hfree':∀k ok,ops[k]?=some ok→k≠i→(listed.setIfInBounds j true).getD k true=false →
     (∀e∈ok.after,Region.binds md e=true→e.on≠i)→oi.apart ops ok=true:=fun k ok hk hki hun hno=>by
     refine hfree k ok hk hki ?_ hno;by_cases hjk:j=k
     · subst hjk;exact hjun
     · rw[getD_set_ne true hjk]at hun;exact hun
    refine qOp_mono (fun a' h3=>ih (listed.setIfInBounds j true) a' (inv.set hj hjn) hfree' (ready_mono hr (Ne.symm hji)) h3.1 ?_) h2;rw[Array.setIfInBounds_comm _ _ hji];exact h3.2
theorem kh7{n g:Nat}{Lq:Act→Prop}(hsel:Region.noSelect ops=true)(hs:Region.sinkB md ops n=true)(hc:Region.chainB md ops n=true)(hn:n<ops.size):
 ∀(l:List Oper) (k:Nat) (listed:Array Bool) (a:Act),(∀j,j<l.length→l[j]?=ops[k+j]?)→k+l.length=n→HeadInv md ops n listed →
 Region.lexHead md ops g l.length k listed=true→wpQuiet P ops C Lq l a →
 wpAnyLQ P md ops C n (fun listed' a'=>Region.seqB md ops g n listed'=true∧Lq a') l.length listed a
 | [],k,listed,a,_,hk,_,hB,h=>by
  have:k=n:=by simpa using hk
  subst this;exact⟨by simpa[Region.lexHead]using hB,h⟩
 | o::l,k,listed,a,hl,hk,inv,hB,h=>by
  have h0:ops[k]?=some o:=by simpa using(hl 0 (by simp)).symm
  simp only[List.length_cons,Region.lexHead,Bool.and_eq_true]at hB;obtain⟨⟨hr,hf⟩,hB'⟩:=hB;have hkn:k<n:=by simp only[List.length_cons]at hk;omega
  have hr':k∈Region.ready md ops listed:=by simpa using hr
  have hst:qOp P ops C k (wpQuiet P ops C Lq l) a:=by unfold qOp;simp only[h0];exact h
  obtain⟨v,hy,hK⟩:=yieldsIn_of_qOp h0 hst;exact kx5 h0 (Region.noSelect_spec hsel) hs hc hn hkn (fun listed' a' hL=>seqB_ready hL.1) l.length listed a inv (Region.free_spec h0 hf) hr' hy
   (kh7 hsel hs hc hn l (k+1) _ _ (fun j hj=>by have:=hl (j+1) (by simp;omega);simpa[Nat.add_assoc,Nat.add_comm 1 j]using this) (by simp only[List.length_cons]at hk;omega) (inv.set hr' hkn) hB' hK)
theorem jv5{id:Nat}{Q:Exit→Act→World→Prop}{a:Act}{w:World}{l:List Oper}(n:Nat)(hm:P.follows .mixedOrders=true)(hB:Region.lexTailB .any l.toArray n=true)(hC:C { w with drawn:=w.drawn+1 })
 (h:wpQuiet P l.toArray C (fun a'=>∀w',C w'→wpList P l.toArray Q (l.drop n) a' w') (l.take n) a):(Code.region id l.toArray true).wp P Q a w:=by
 simp only[Region.lexTailB,Bool.and_eq_true,decide_eq_true_eq]at hB;obtain⟨⟨⟨⟨hsel,hn⟩,hs⟩,hc⟩,hlex⟩:=hB;have hn':n<l.length:=by simpa using hn
 have htl:(l.take n).length=n:=by simp;omega
 have hdl:(l.drop n).length=l.toArray.size-n:=by simp
 have inv0:HeadInv .any l.toArray n (Array.replicate l.toArray.size false):=
  ⟨by simp,fun j oj _ hl=>(by rw[getD_replicate_false]at hl;cases hl),fun t _ ht=>getD_in (by simpa using ht) (getD_replicate_false _ _)⟩
 have H:=kh7 (C:=C) (md:=.any) (g:=l.toArray.size-n) hsel hs hc hn (l.take n) 0 _ a (fun j hj=>by
  have hj':j<n:=by rw[htl]at hj;exact hj
  simp[hj']) (by simpa using htl) inv0 (by rw[htl];exact hlex) h
 refine wp_region_any hm ?_;have:=jv7 (Q':=Q) (g:=l.toArray.size-n) (fun listed a' w' hw' hL=>by
  have:=wpAny_of_seq (md:=.any) (Q':=Q) (l.drop n) n listed a' w' (fun j=>by simp[List.getElem?_drop]) (by rw[hdl];exact hL.1) (hL.2 w' hw')
  rwa [hdl]at this) _ _ _ _ hC H
 rw[htl,show n+(l.toArray.size-n)=l.toArray.size by omega]at this;exact this
theorem wp_region_grown{id:Nat}{Q:Exit→Act→World→Prop}{a:Act}{w:World}{l:List Oper}(hm:P.follows .mixedOrders=true)(hB:Region.lexB .any l.toArray=true)
 (h:wpQuiet P l.toArray (fun w'=>∃x:Grown w,w'=x.wd) (fun a'=>∀w',(∃x:Grown w,w'=x.wd)→Q .normal a' w') l a):(Code.region id l.toArray true).wp P Q a w:=
 wp_region_quiet (C:=fun w'=>∃x:Grown w,w'=x.wd) hm hB ⟨⟨_,(Below.refl _ _).drew⟩,rfl⟩ (by simpa using h)
theorem wp_region_grown_tail{id:Nat}{Q:Exit→Act→World→Prop}{a:Act}{w:World}{l:List Oper}(n:Nat)(hm:P.follows .mixedOrders=true)(hB:Region.lexTailB .any l.toArray n=true)
 (h:wpQuiet P l.toArray (fun w'=>∃x:Grown w,w'=x.wd) (fun a'=>∀w',(∃x:Grown w,w'=x.wd)→wpList P l.toArray Q (l.drop n) a' w') (l.take n) a):(Code.region id l.toArray true).wp P Q a w:=
 jv5 (C:=fun w'=>∃x:Grown w,w'=x.wd) n hm hB ⟨⟨_,(Below.refl _ _).drew⟩,rfl⟩ h
theorem Calls.grown_of{f:FuncId}{args:Array Value}{w:World}{x:Grown w}{v:Value}
 (h:Calls P f args x.wd fun e w'=>e=.returned v∧Below x.wd.heap.size x.wd w'):Calls P f args x.wd fun e w''=>e=.returned v∧∃y:Grown w,w''=y.wd:=
 h.mono fun _ w'' ⟨he,hb⟩=>⟨he,⟨w'',x.bel.trans (hb.mono x.bel.size)⟩,rfl⟩
theorem Calls.grown_of_same{f:FuncId}{args:Array Value}{w:World}{x:Grown w}{v:Value}
 (h:Calls P f args x.wd fun e w'=>e=.returned v∧x.wd=w'):Calls P f args x.wd fun e w''=>e=.returned v∧∃y:Grown w,w''=y.wd:=
 h.mono fun _ w'' ⟨he,hb⟩=>⟨he,x,hb.symm⟩
end
end Go.Proofs.YtagjkmkmphamoaaGreatDoor
