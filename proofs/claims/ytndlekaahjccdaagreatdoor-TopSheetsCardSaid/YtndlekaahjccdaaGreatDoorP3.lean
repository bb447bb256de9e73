/- P3 -/
import Derived.WalkSpells
import Derived.WalkLawsBesides
import Derived.Deep.Light
import Derived.StillTail
import Derived.Test.YtndlekaahjccdaaGreatDoorP2
set_option linter.all false
set_option maxRecDepth 100000
set_option maxHeartbeats 40000000
set_option maxHeartbeats 2000000
namespace Go.Proofs.YtndlekaahjccdaaGreatDoor
section
open Go.RowKit Go.Proofs.Tryz
theorem infoByte:(Tryz.prog.info? 5).map (fun i=>(i.zero,i.size,i.bytes))=some (some (.int .u8 0),1,1):=by kernel_rfl
def Own(w:World)(B:Nat)(v:Value)(l:List UInt8):Prop:=w.ownsRow B 5 1 v l.length (bcells l)
theorem Own.nil(w:World)(B:Nat):Own w B (.slice none 0 0) []:=World.ownsRow_nil _ _ _ _
theorem Own.blk{w:World}{B:Nat}{v:Value}{l:List UInt8}(h:Own w B v l):∀k,v.ownBlock=some k->B<=k/\k<w.heap.size:=by
 intro k hk;rcases h.2 with⟨rfl,_⟩|⟨g,cap,cur,rfl,hg,hh,_⟩
 . simp[Value.ownBlock]at hk
 . simp only[Value.ownBlock,Option.some.injEq]at hk
   subst hk;exact⟨hg,(Array.getElem?_eq_some_iff.1 hh).1⟩
theorem Own.bel{w w':World}{B:Nat}{v:Value}{l:List UInt8}(h:Own w B v l)(hb:Below w.heap.size w w'):Own w' B v l:=by
 refine⟨h.1,?_⟩;rcases h.2 with h'|⟨g,cap,cur,hv,hg,hh,r⟩
 . exact .inl h'
 . exact .inr ⟨g,cap,cur,hv,hg,(hb.block g (Array.getElem?_eq_some_iff.1 hh).1).trans hh,r⟩
theorem Own.alloc{w:World}{B:Nat}{v:Value}{l:List UInt8}(h:Own w B v l)(o:Obj):Own (w.alloc o) B v l:=h.bel ((z8).alloc (zA) o)
theorem Own.drew{w:World}{B:Nat}{v:Value}{l:List UInt8}(h:Own w B v l):Own w.drew B v l:=h
theorem Own.below{w w':World}{B:Nat}{v:Value}{l:List UInt8}(h:Own w B v l)(hg:w.grownBy w' v.ownBlock)(hB:B<=w.heap.size):Below B w w':=
 (z8).grown hg hB fun k hk=>(h.blk k hk).1
theorem y16{w:World}{B:Nat}{v:Value}{l:List UInt8}(h:Own w B v l):(convert 94 9 v).run prog w=.ok (.string ⟨l.toArray⟩) w:=
 y2T 94 9 underlying94 underlying5 underlying9 h
section
variable {ops:Array Oper} {rest:List Oper} {o:Oper} {a:Act} {Q:Exit->Act->World->Prop}
theorem y9R(Ha:o.guard=none)(s x:Operand)(ho:o.op=.call { callee:=.builtin .append,args:=#[s,x],argTypes:=#[94,94] })
 (W:World) (B:Nat) (v:Value) (l:List UInt8) (b:UInt8) (hs:a.eval s=v) (H5:Own W B v l) (hx:a.eval x=.slice (some ⟨W.heap.size,0,none⟩) 1 1)
 (H9:l.length<70368744177664) (hB:B<=W.heap.size) (h:∀v' w',Own w' B v' (l ++ [b])->Below B W w'->wpList prog ops Q rest (a.put o.dst v') w'):
 wpList prog ops Q (o::rest) a (W.alloc (.cells #[.int .u8 (b.toNat:Int)] 5)):=by
 obtain⟨i0,hi,H8,H7,H6⟩:=info_parts infoByte;refine wpList_append_own _ Ha s x 94 ho B 5 i0 (.int .u8 0) 1 1 underlying94 hi H8 H7 H6 rfl (by decide) v l.length (bcells l) hs (H5.alloc _) ⟨W.heap.size,0,none⟩ 1 1 [.int .u8 (b.toNat:Int)] hx rfl ?_ ?_ ?_ ?_ ?_ ?_
 . intro j u hj
   match j,hj with
   | 0,hj=>simp at hj;subst hj;simp[Addr.add]
 . intro u hu;simp at hu;subst hu;rfl
 . unfold maxLen;omega
 . omega
 . simp;omega
 . intro v' w1 h1 h2 _
   refine h v' w1 ?_ ?_
   . unfold Own;rw[y0j,zH];exact h1
   . exact((z8).alloc hB _).trans ((H5.alloc _).below h2 (by simp;omega))
theorem y3u(Ha:o.guard=none)(s x:Operand)(ho:o.op=.call { callee:=.builtin .append,args:=#[s,x],argTypes:=#[94,9] })
 (W:World) (B:Nat) (v:Value) (l:List UInt8) (t:ByteArray) (hs:a.eval s=v) (H5:Own W B v l) (hx:a.eval x=.string t)
 (H9:l.length+t.size<70368744177664) (hB:B<=W.heap.size) (h:∀v' w',Own w' B v' (l++bl t)->Below B W w'->wpList prog ops Q rest (a.put o.dst v') w'):
 wpList prog ops Q (o::rest) a W:=by
 obtain⟨i0,hi,H8,H7,H6⟩:=info_parts infoByte;refine Lib.wpList_append_own_string W Ha s x 94 9 ho B 5 i0 underlying94 underlying9 hi H8 H7 H6 v l.length (bcells l) hs H5 t hx ?_ ?_ hB ?_
 . unfold maxLen;omega
 . omega
 . intro v' w1 h1 h2 _
   refine h v' w1 ?_ (H5.below h2 hB);unfold Own;rw[y0j,zH,zJ];exact h1
end
def encR(r:Int):List UInt8:=Lib.encodeRune r
theorem y1e(r:Int):1<=(encR r).length/\(encR r).length<=4:=by
 have:=Lib.runeCells_le r;rw[Lib.runeCells_length]at this;exact this
theorem y0V(B:Nat)(v:Value)(l:List UInt8)(r:Int)(w:World)(h0 : -2147483648<=r)(h1:r<=2147483647)(H5:Own w B v l)(H6:l.length<70368744177664)(hB:B<=w.heap.size):
 Calls prog 205 #[v,.int .i32 r] w fun e w'=>∃v',e=.returned v'/\Own w' B v' (l++encR r)/\Below B w w':=by
 refine(Tryz.utf8_AppendRune_plain B v l.length (bcells l) r h0 h1 w H5 (by omega) hB).mono fun e w' ⟨v',he,ho,o,hg⟩=>⟨v',he,?_,?_⟩
 . unfold Own
   rw[y0j,zH];have e1:bcells (encR r)=Lib.runeCells r:=Lib.byteCells_encodeRune r;have e2:(encR r).length=(Lib.runeCells r).length:=(Lib.runeCells_length r).symm;rw[e1,e2];exact ho
 . exact((z8).alloc hB _).trans ((H5.alloc _).below hg (by simp;omega))
def scalar(p:Int):Bool:=decide (0<=p/\p<=1114111/\(p<55296\/57343<p))
theorem y3V(p:Int)(w:World):
 Calls prog 290 #[.int .i32 p] w fun e w'=>e=.returned (.bool (scalar p))/\w=w':=by
 go_enter func290,ntmps290
 go_wp2
 all_goals go_ret
 all_goals (refine⟨y03 ?_,rfl⟩;unfold scalar;rw[Bool.eq_iff_iff];simp;omega)
theorem y92(s:ByteArray)(h:s.size≠0):Lib.decodeGo s=dec (bl s):=by
 unfold Lib.decodeGo;rw[if_neg h];have:=y6Y (bl s) 0
 rwa [List.drop_zero,y1Z]at this
theorem yAU(s:ByteArray)(a:Nat)(h:a<s.size):Lib.decodeGo (s.extract a s.size)=dec ((bl s).drop a):=by
 have hl:(s.extract a s.size).size≠0:=by
  rw[Lib.size_eq,y0E];simp;omega
 rw[y92 _ hl];unfold bl;rw[y0E]
theorem y2B(s:ByteArray)(a:Nat)(r k:Nat)(w:World)(hT:TW w)(h:a<s.size)(hd:Hid (dec ((bl s).drop a)=(r,k))):
 Calls prog 322 #[.string (s.extract a s.size)] w fun e w'=>e=.returned (.tuple #[.int .i32 r,.int .i64 k])/\Below w.heap.size w w':=by
 have:=Tryz.utf8_DecodeRuneInString (s.extract a s.size) w hT.u8;rw[yAU s a h,hd.out]at this;exact this
def faultV:Option Nat->Value
 | none=>.agg #[.int .i64 0,.int .i64 0]
 | some k=>.agg #[.int .i64 2,.int .i64 k]
theorem y7A(s:ByteArray)(w:World)(hT:TW w)(hs:s.size<=9223372036854775807):
 Calls prog 279 #[.string s] w fun e w'=>e=.returned (.tuple #[.int .i64 (scanL (bl s)).1,faultV (scanL (bl s)).2])/\Below w.heap.size w w':=by
 obtain⟨R,hR⟩:∃R,R=scanL (bl s):=⟨_,rfl⟩;have HR:=z7 hR;rw[<-hR];clear hR
 go_enter func279,ntmps279
 go_wp2
 obtain⟨W,hW⟩:∃W,W=w.alloc (.cells #[.int .i64 0,.int .i64 0] 40):=⟨_,rfl⟩;have Hh:TW W:=by rw[hW];exact hT.alloc _
 have l0:Live W w.heap.size 0 (.int .i64 0):=by rw[hW];exact Live.fresh w _ _ 0 _ rfl
 have l1:Live W w.heap.size 1 (.int .i64 0):=by rw[hW];exact Live.fresh w _ _ 1 _ rfl
 have Hg:Below w.heap.size w W:=by rw[hW];exact(z8).alloc (zA) _
 rw[<-hW];clear hW;have HT:=z7 Hh;have HL:Hid ((bl s).length=s.size):=zJ s;clear Hh hT
 go_loopw [4,5] (fun n at_ wr=>∃(f k m:Nat),at_=.int .i64 (k:Int)/\n=.int .i64 (m:Int)/\k<=s.size/\m<=k/\s.size-k<=f/\Hid (scanF f ((bl s).drop k) k m=R)/\Below W.heap.size W wr) (fun _ at_ _=>s.size-(intOf at_).toNat)
 case atStart=>exact⟨s.size,0,0,rfl,rfl,zD,zA,by omega,by have:=HR.out;unfold scanL at this;rw[HL.out]at this;rw[List.drop_zero];exact this.symm,z8⟩
 case round=>
  obtain⟨f,k,m,rfl,rfl,hk,hm,hf,hR,H5⟩:=hrel;have He:=Hg.trans (H5.mono (Hg.size));by_cases Hb:k<s.size
  . obtain⟨f,rfl⟩:∃g,f=g+1:=⟨f-1,by omega⟩
    have H9:(bl s).drop k ≠ []:=by
     intro e;have:=congrArg List.length e;rw[List.length_drop,HL.out]at this;simp at this;omega
    have H8:=y0A ((bl s).drop k);have Hc:=y3N _ H9;rw[List.length_drop,HL.out]at Hc;rcases hd:dec ((bl s).drop k)with⟨r,j⟩
    rw[hd]at H8 Hc;have HD:=z7 hd;have Hd:=y3M ((bl s).drop k);rw[hd]at Hd;simp only at H8 Hc Hd;have Ha:y00 ((bl s).drop k)=(decide (r=65533)&&decide (j<=1)):=by unfold y00;rw[hd]
    by_cases H6:r=65533/\j<=1
    . have e1:=y1u f _ k m H9 (by rw[Ha];simp[H6.1,H6.2])
      rw[hR.out]at e1;obtain⟨hr,hj⟩:=H6;subst hr;have E1:=z7 e1;have y0:=l0.keep H5;have y1:=l1.keep H5;clear hd Ha e1 l0 l1 H9
      go_wp2_with (go_at_call 322;refine(y2B s k _ _ _ (HT.out.bel H5) Hb HD).mono ?_;rintro e w1 ⟨rfl,H7⟩;obtain⟨a1,a2⟩:=y0.keep H7;obtain⟨a3,a4⟩:=y1.keep H7)
      refine bodyPost_ret (v:=.tuple #[.int .i64 0,.agg #[.int .i64 2,.int .i64 k]]) (by simp[results,results279,go_sem,a1,a2,a3,a4]) rfl ⟨?_,?_⟩
      . rw[E1.out];rfl
      . exact((bt He H7).setCell (zA) _).setCell (zA) _
    . have e1:=y2J f _ k m H9 (by rw[Ha];simp;omega)
      rw[hR.out,hd,List.drop_drop]at e1;simp only at e1;have Hj:k+j=j+k:=Nat.add_comm _ _;have E1:=z7 e1;have Hk:(r:Int)<1114112:=by omega
      have Hf:(r:Int)=65533->1<(j:Int):=by omega
      clear hd Ha e1 l0 l1 H9 Hj;rcases(show(¬(r:Int)=65533)\/((r:Int)=65533/\1<(j:Int)) from by omega)with c|⟨c,c'⟩
      . have cB:((r:Int)==65533)=false:=by simpa using c
        clear Hf H6 c
        go_wp2_with (go_at_call 322;refine(y2B s k _ _ _ (HT.out.bel H5) Hb HD).mono ?_;rintro e w1 ⟨rfl,H7⟩)
        go_roundw
        case rel=>exact⟨f,k+j,m+1,by go_num,by go_num,by omega,by omega,by omega,E1.out.symm,bt H5 H7⟩
        case measure=>simp[intOf];omega
      . have cr:r=65533:=by omega
        subst cr;clear Hf H6 c
        go_wp2_with (go_at_call 322;refine(y2B s k _ _ _ (HT.out.bel H5) Hb HD).mono ?_;rintro e w1 ⟨rfl,H7⟩)
        go_roundw
        case rel=>exact⟨f,k+j,m+1,by go_num,by go_num,by omega,by omega,by omega,E1.out.symm,bt H5 H7⟩
        case measure=>simp[intOf];omega
  . have Hi:k=s.size:=by omega
    subst Hi;have e1:scanF f ((bl s).drop s.size) s.size m=(m,none):=by
     rw[List.drop_of_length_le (by rw[HL.out];exact zA)];exact y8H f _ m
    rw[hR.out]at e1;have E1:=z7 e1;obtain⟨a1,a2⟩:=l0.keep H5;obtain⟨a3,a4⟩:=l1.keep H5;clear e1 l0 l1;go_wp2
    refine bodyPost_ret (v:=.tuple #[.int .i64 m,.agg #[.int .i64 0,.int .i64 0]]) (by simp[results,results279,go_sem,a1,a2,a3,a4]) rfl ⟨?_,?_⟩
    . rw[E1.out];rfl
    . exact(He.setCell (zA) _).setCell (zA) _
theorem y1J(o:Option Nat):∃a b:Int,faultV o=.agg #[.int .i64 a,.int .i64 b]:=by cases o<;>exact⟨_,_,rfl⟩
theorem y0a(a b:Int)(w:World):
 Calls prog 11 #[.agg #[.int .i64 a,.int .i64 b]] w fun e w'=>e=.returned (.bool (!decide (a=0)))/\Below w.heap.size w w':=by
 go_enter func11,ntmps11
 go_wp2
 all_goals go_ret
 all_goals (refine⟨y03 ?_,bal (z8) _⟩)
 all_goals (rw[Bool.eq_iff_iff];simp)
theorem y98(s:ByteArray)(w:World)(hT:TW w)(hs:s.size<=9223372036854775807):
 Calls prog 188 #[.string s] w fun e w'=>e=.returned (faultV (scanL (bl s)).2)/\Below w.heap.size w w':=by
 have k1:=fun w hT=>y7A s w hT hs
 obtain⟨a,b,H6⟩:=y1J (scanL (bl s)).2;rw[H6]at k1 ⊢;generalize (scanL (bl s)).1=n at *;clear H6;have K1:=z7 k1;have HT:=z7 hT;clear k1 hT;have l0:=Live.fresh w #[.int .i64 0,.int .i64 0] 40 0 _ rfl;have l1:=Live.fresh w #[.int .i64 0,.int .i64 0] 40 1 _ rfl
 go_enter func188,ntmps188
 go_wp2_with (go_at_call 279;refine(K1.out _ (HT.out.alloc _)).mono ?_;rintro e w1 ⟨rfl,H5⟩;obtain⟨a1,a2⟩:=l0.keep H5;obtain⟨a3,a4⟩:=l1.keep H5;have H7:=(Live.keep l0 H5).lt)
 refine bodyPost_ret (v:=.agg #[.int .i64 a,.int .i64 b]) (by simp[results,results188,go_sem,a1,a2,a3,a4,H7]) rfl ⟨rfl,?_⟩;exact(((bt ((z8).alloc (zA) _) H5).setCell (zA) _).setCell (zA) _).alloc (by simp;omega) _
end
section
open Go.RowKit Go.Maps Go.Proofs.Tryz
def MemoG(k:TypeId)(F:Value->Value)(w:World)(blk:Nat):Prop:=∃S,MapS prog k w blk S/\∀u v,S u v->v=F u
theorem MemoG.made(k:TypeId)(F:Value->Value)(w:World):MemoG k F (w.alloc (.map #[] 0)) w.heap.size:=⟨_,MapS.made w _ _,fun _ _ h=>h.elim⟩
theorem MemoG.lt{k:TypeId}{F:Value->Value}{w:World}{b:Nat}(h:MemoG k F w b):b<w.heap.size:=h.elim fun _ h=>h.1.lt
theorem MemoG.blk{k:TypeId}{F:Value->Value}{w w':World}{b:Nat}(h:MemoG k F w b)(he:w'.heap[b]?=w.heap[b]?):MemoG k F w' b:=h.elim fun S h=>⟨S,h.1.blk he,h.2⟩
theorem MemoG.bel{k:TypeId}{F:Value->Value}{w w':World}{b:Nat}(h:MemoG k F w b)(hb:Below w.heap.size w w'):MemoG k F w' b:=h.blk (hb.block b h.lt)
section
variable {ops:Array Oper} {rest:List Oper} {o:Oper} {a:Act} {Q:Exit->Act->World->Prop}
theorem y1t(w:World)(hg:o.guard=none)(t:TypeId)(m x:Operand)(H6:o.op=Op.lookup t m x true)(k e:TypeId)(K:Keyed prog k)(ht:Tryz.prog.underlying t=some (.map k e))
 (z:Value) (hz:(zeroValue e).run prog w=.ok z w) (F:Value->Value) (blk:Nat) (hm:a.eval m=.map (some blk)) (hS:MemoG k F w blk) (key:Value) (kl:Lit) (hx:a.eval x=key) (H5:keyOf prog k key=some kl) (v:Value) (hv:Hid (F key=v))
 (h0:wpList prog ops Q rest (a.put o.dst (.tuple #[z,.bool false])) w)
 (h1:wpList prog ops Q rest (a.put o.dst (.tuple #[v,.bool true])) w):wpList prog ops Q (o::rest) a w:=by
 obtain⟨S,hM,hS⟩:=hS;refine y11 w hg m x _ H6 k e K ht z hz blk S hm hM _ kl hx H5 (fun _=>h0) ?_;intro u hu;rw[hS _ _ hu,hv.out];exact h1
theorem y1R(w:World)(hg:o.guard=none)(t:TypeId)(m x v:Operand)(H6:o.op=Op.mapUpdate t m x v)(k e:TypeId)(K:Keyed prog k)(ht:Tryz.prog.underlying t=some (.map k e))
 (F:Value->Value) (blk:Nat) (hm:a.eval m=.map (some blk)) (hS:MemoG k F w blk) (key val:Value) (kl:Lit) (hx:a.eval x=key) (H5:keyOf prog k key=some kl) (hv:a.eval v=val) (hF:Hid (F key=val))
 (h:∀w',MemoG k F w' blk->w.grownBy w' (some blk)->wpList prog ops Q rest (a.put o.dst undef) w'):wpList prog ops Q (o::rest) a w:=by
 obtain⟨S,hM,hS⟩:=hS;refine y1Q w hg m x v _ H6 k e K ht blk S hm hM _ _ kl hx hv H5 ?_;intro w' H8 H7;refine h w' ⟨_,H8,?_⟩ H7;rintro u y (⟨rfl,rfl⟩|⟨_,hs⟩)
 . exact hF.out.symm
 . exact hS _ _ hs
end
end
section
open Go.RowKit Go.Proofs.Tryz
theorem yId:Maps.Keyed prog 298:=Maps.Keyed.of_law (deep_law (m:=10) (by decide) (by kernel_rfl) (by kernel_rfl) (by kernel_rfl))
theorem yHL(m:Nat)(h:0<m):∃n,m=n+1:=⟨m-1,by omega⟩
theorem lits1(d:Nat)(b:UInt8):Tryz.prog.keyLits (d+1) 5 [.int .u8 (b.toNat:Int)]=some [.int .u8 (b.toNat:Int)]:=by
 have hb:=b.toNat_lt;have h0:IntKind.u8.min=0:=rfl;have h1:IntKind.u8.max=255:=rfl;unfold Program.keyLits;rw[underlying5];simp only[Lit.wf,h0,h1];rw[if_pos];refine⟨trivial,?_⟩;simp;omega
theorem key2(a b:UInt8):∃kl,keyOf prog 298 (.agg #[.int .u8 (a.toNat:Int),.int .u8 (b.toNat:Int)])=some kl:=by
 have hk:Tryz.prog.keyType 298=true:=by kernel_rfl
 have H6:Tryz.prog.cellsOf 298=2:=by kernel_rfl
 have H7:Tryz.prog.cellsOf 5=1:=by kernel_rfl
 have H5:0<Tryz.prog.types.size:=by decide +kernel
 obtain⟨n,hn⟩:=yHL _ H5;have hf:Value.formed prog 298 (.agg #[.int .u8 (a.toNat:Int),.int .u8 (b.toNat:Int)])=true:=by
  unfold Value.formed;rw[underlying298,H6];rfl
 have hL:Tryz.prog.keyLits (n+1+1) 298 [.int .u8 (a.toNat:Int),.int .u8 (b.toNat:Int)]=some [.int .u8 (a.toNat:Int),.int .u8 (b.toNat:Int)]:=by
  unfold Program.keyLits;rw[underlying298];simp only[H6,H7];simp[List.range,List.range.loop,lits1]
 unfold keyOf;rw[underlying298];simp only[hk,Bool.true_and,hf,if_true,hn];exact⟨_,by show Option.map _ (Tryz.prog.keyLits (n+1+1) 298 [.int .u8 (a.toNat:Int),.int .u8 (b.toNat:Int)])=_;rw[hL];rfl⟩
structure Grown (w:World) where
 wd:World
 bel:Below w.heap.size w wd
instance (w:World):Nonempty (Grown w):=⟨⟨w,z8⟩⟩
theorem Grown.cell{w:World}(x:Grown w){b o:Nat}{v:Value}(h:w.cell? ⟨b,o,none⟩=some v):x.wd.cell? ⟨b,o,none⟩=some v:=kc x.bel h
theorem Grown.cell_new{w:World}{c:Array Value}{t:TypeId}(x:Grown (w.alloc (.cells c t)))(i:Nat):x.wd.cell? ⟨w.heap.size,i,none⟩=c[i]?:=by
 rw[x.bel.cell (p:=⟨w.heap.size,i,none⟩) (by simp),World.cell?_alloc_new]
section
variable {P:Program} {ops:Array Oper} {md:Region.Mode} {C:World->Prop}
def wpAnyLQ(P:Program)(md:Region.Mode)(ops:Array Oper)(C:World->Prop)(n:Nat)(L:Array Bool->Act->Prop):Nat->Array Bool->Act->Prop
 | 0,listed,a=>L listed a
 | f+1,listed,a=>
  Region.ready md ops listed ≠ []/\∀i∈Region.ready md ops listed,i<n/\qOp P ops C i (wpAnyLQ P md ops C n L f (listed.setIfInBounds i true)) a
theorem y2b{n g:Nat}{L:Array Bool->Act->Prop}{Q':Exit->Act->World->Prop}(hL:∀listed a w,C w->L listed a->wpAny P md ops Q' g listed a w):
 ∀(f:Nat) (listed:Array Bool) (a:Act) (w:World),C w->wpAnyLQ P md ops C n L f listed a->wpAny P md ops Q' (f+g) listed a w
 | 0,listed,a,w,hw,h=>by rw[Nat.zero_add];exact hL _ _ _ hw h
 | f+1,listed,a,w,hw,h=>by
  rw[show f+1+g=(f+g)+1 by omega];exact⟨fun h0=>absurd h0 h.1,fun i hi=>wpOp_of_qOp hw (fun a' w' H5 h'=>y2b hL f _ a' w' H5 h') (h.2 i hi).2⟩
theorem y6l{n i:Nat}{oi:Oper}{v:Value}{L:Array Bool->Act->Prop}(hi:ops[i]?=some oi)(H9:∀(j:Nat) (o:Oper) cs b,ops[j]?=some o->o.op≠.select cs b)
 (hs:Region.sinkB md ops n=true) (hc:Region.chainB md ops n=true) (hn:n<ops.size) (Hh:i<n)
 (Hb:∀listed a,L listed a->∀j∈Region.ready md ops listed,n<=j):
 ∀(f:Nat) (listed:Array Bool) (a:Act),HeadInv md ops n listed ->
  (∀j oj,ops[j]?=some oj->j≠i->listed.getD j true=false->(∀e∈oj.after,Region.binds md e=true->e.on≠i)->oi.apart ops oj=true) ->
  i∈Region.ready md ops listed->YieldsIn P ops C oi v a ->
  wpAnyLQ P md ops C n L f (listed.setIfInBounds i true) (a.put oi.dst v)->wpAnyLQ P md ops C n L (f+1) listed a:=by
 intro f
 induction f with
 | zero=>
  intro listed a inv _ hr hy H;have H7:=(mem_ready.1 hr).1;refine⟨fun h=>(by rw[h]at hr;cases hr),fun j hj=>?_⟩;have Hc:j<n:=by
   rcases Nat.lt_or_ge j n with h|h
   . exact h
   . exact absurd hj (tail_waits hs hc hn inv _ i rfl Hh H7 j h)
  refine⟨Hc,?_⟩;by_cases H5:j=i
  . subst H5;exact hy.qOp hi H
  . have:=Hb _ _ H j (ready_mono hj H5)
    omega
 | succ f ih=>
  intro listed a inv H6 hr hy H;have H7:=(mem_ready.1 hr).1;refine⟨fun h=>(by rw[h]at hr;cases hr),fun j hj=>?_⟩;have Hc:j<n:=by
   rcases Nat.lt_or_ge j n with h|h
   . exact h
   . exact absurd hj (tail_waits hs hc hn inv _ i rfl Hh H7 j h)
  refine⟨Hc,?_⟩;by_cases H5:j=i
  . subst H5;exact hy.qOp hi H
  . have h1:=(H.2 j (ready_mono hj H5)).2
    obtain⟨Ha,oj,Hd,Hf⟩:=mem_ready.1 hj;have He:∀e∈oj.after,Region.binds md e=true->e.on≠i:=fun e he hb Hk=>by
     have h1:=Hf e he hb;rw[Hk,getD_both H7]at h1;cases h1
    have h2:=qOp_put Hd (H6 j oj Hd H5 Ha He) (fun cs b=>H9 i oi cs b hi) (fun cs b=>H9 j oj cs b Hd) hy h1;have H8:∀k ok,ops[k]?=some ok->k≠i->(listed.setIfInBounds j true).getD k true=false ->
     (∀e∈ok.after,Region.binds md e=true->e.on≠i)->oi.apart ops ok=true:=fun k ok hk Hj H7 Hi=>by
     refine H6 k ok hk Hj ?_ Hi;by_cases Hg:j=k
     . subst Hg;exact Ha
     . rw[getD_set_ne true Hg]at H7;exact H7
    refine qOp_mono (fun a' h3=>ih (listed.setIfInBounds j true) a' (inv.set hj Hc) H8 (ready_mono hr (Ne.symm H5)) h3.1 ?_) h2;rw[Array.setIfInBounds_comm _ _ H5];exact h3.2
theorem y4m{n g:Nat}{Lq:Act->Prop}(H5:Region.noSelect ops=true)(hs:Region.sinkB md ops n=true)(hc:Region.chainB md ops n=true)(hn:n<ops.size):
 ∀(l:List Oper) (k:Nat) (listed:Array Bool) (a:Act),(∀j,j<l.length->l[j]?=ops[k+j]?)->k+l.length=n->HeadInv md ops n listed ->
 Region.lexHead md ops g l.length k listed=true->wpQuiet P ops C Lq l a ->
 wpAnyLQ P md ops C n (fun listed' a'=>Region.seqB md ops g n listed'=true/\Lq a') l.length listed a
 | [],k,listed,a,_,hk,_,hB,h=>by
  have:k=n:=by simpa using hk
  subst this;exact⟨by simpa[Region.lexHead]using hB,h⟩
 | o::l,k,listed,a,hl,hk,inv,hB,h=>by
  have h0:ops[k]?=some o:=by simpa using(hl 0 (by simp)).symm
  simp only[List.length_cons,Region.lexHead,Bool.and_eq_true]at hB;obtain⟨⟨hr,hf⟩,H9⟩:=hB;have H7:k<n:=by simp only[List.length_cons]at hk;omega
  have H6:k∈Region.ready md ops listed:=by simpa using hr
  have H8:qOp P ops C k (wpQuiet P ops C Lq l) a:=by unfold qOp;simp only[h0];exact h
  obtain⟨v,hy,hK⟩:=yieldsIn_of_qOp h0 H8;exact y6l h0 (Region.noSelect_spec H5) hs hc hn H7 (fun listed' a' hL=>seqB_ready hL.1) l.length listed a inv (Region.free_spec h0 hf) H6 hy
   (y4m H5 hs hc hn l (k+1) _ _ (fun j hj=>by have:=hl (j+1) (by simp;omega);simpa[Nat.add_assoc,Nat.add_comm 1 j]using this) (by simp only[List.length_cons]at hk;omega) (inv.set H6 H7) H9 hK)
theorem y2Y{id:Nat}{Q:Exit->Act->World->Prop}{a:Act}{w:World}{l:List Oper}(n:Nat)(hm:P.follows .mixedOrders=true)(hB:Region.lexTailB .any l.toArray n=true)(hC:C { w with drawn:=w.drawn+1 })
 (h:wpQuiet P l.toArray C (fun a'=>∀w',C w'->wpList P l.toArray Q (l.drop n) a' w') (l.take n) a):(Code.region id l.toArray true).wp P Q a w:=by
 simp only[Region.lexTailB,Bool.and_eq_true,decide_eq_true_eq]at hB;obtain⟨⟨⟨⟨H6,hn⟩,hs⟩,hc⟩,H7⟩:=hB;have Hb:n<l.length:=by simpa using hn
 have H5:(l.take n).length=n:=by simp;omega
 have H8:(l.drop n).length=l.toArray.size-n:=by simp
 have inv0:HeadInv .any l.toArray n (Array.replicate l.toArray.size false):=
  ⟨by simp,fun j oj _ hl=>(by rw[getD_replicate_false]at hl;cases hl),fun t _ ht=>getD_in (by simpa using ht) (getD_replicate_false _ _)⟩
 have H:=y4m (C:=C) (md:=.any) (g:=l.toArray.size-n) H6 hs hc hn (l.take n) 0 _ a (fun j hj=>by
  have Ha:j<n:=by rw[H5]at hj;exact hj
  simp[Ha]) (by simpa using H5) inv0 (by rw[H5];exact H7) h
 refine wp_region_any hm ?_;have:=y2b (Q':=Q) (g:=l.toArray.size-n) (fun listed a' w' H9 hL=>by
  have:=wpAny_of_seq (md:=.any) (Q':=Q) (l.drop n) n listed a' w' (fun j=>by simp[List.getElem?_drop]) (by rw[H8];exact hL.1) (hL.2 w' H9)
  rwa [H8]at this) _ _ _ _ hC H
 rw[H5,show n+(l.toArray.size-n)=l.toArray.size by omega]at this;exact this
theorem zj{id:Nat}{Q:Exit->Act->World->Prop}{a:Act}{w:World}{l:List Oper}(hm:P.follows .mixedOrders=true)(hB:Region.lexB .any l.toArray=true)
 (h:wpQuiet P l.toArray (fun w'=>∃x:Grown w,w'=x.wd) (fun a'=>∀w',(∃x:Grown w,w'=x.wd)->Q .normal a' w') l a):(Code.region id l.toArray true).wp P Q a w:=
 wp_region_quiet (C:=fun w'=>∃x:Grown w,w'=x.wd) hm hB ⟨⟨_,(z8).drew⟩,rfl⟩ (by simpa using h)
theorem y02{id:Nat}{Q:Exit->Act->World->Prop}{a:Act}{w:World}{l:List Oper}(n:Nat)(hm:P.follows .mixedOrders=true)(hB:Region.lexTailB .any l.toArray n=true)
 (h:wpQuiet P l.toArray (fun w'=>∃x:Grown w,w'=x.wd) (fun a'=>∀w',(∃x:Grown w,w'=x.wd)->wpList P l.toArray Q (l.drop n) a' w') (l.take n) a):(Code.region id l.toArray true).wp P Q a w:=
 y2Y (C:=fun w'=>∃x:Grown w,w'=x.wd) n hm hB ⟨⟨_,(z8).drew⟩,rfl⟩ h
theorem Calls.grown_of{f:FuncId}{args:Array Value}{w:World}{x:Grown w}{v:Value}
 (h:Calls P f args x.wd fun e w'=>e=.returned v/\Below x.wd.heap.size x.wd w'):Calls P f args x.wd fun e w''=>e=.returned v/\∃y:Grown w,w''=y.wd:=
 h.mono fun _ w'' ⟨he,hb⟩=>⟨he,⟨w'',x.bel.trans (hb.mono x.bel.size)⟩,rfl⟩
theorem Calls.grown_of_same{f:FuncId}{args:Array Value}{w:World}{x:Grown w}{v:Value}
 (h:Calls P f args x.wd fun e w'=>e=.returned v/\x.wd=w'):Calls P f args x.wd fun e w''=>e=.returned v/\∃y:Grown w,w''=y.wd:=
 h.mono fun _ w'' ⟨he,hb⟩=>⟨he,x,hb.symm⟩
end
end
end Go.Proofs.YtndlekaahjccdaaGreatDoor
set_option maxHeartbeats 2000000
namespace Go.Proofs.YtndlekaahjccdaaGreatDoor
open Go.RowKit Go.Proofs.Tryz
theorem yFX(x y:Int)(hx₀:0<=x)(hx:x%256=0)(hx₁:x<2147483648)(hy₀:0<=y)(hy:y<256):bits .or .i32 x y=x+y:=
 bits_join .i32 31 (by decide) wraps_i32 8 x y hx₀ hx hx₁ hy₀ hy (by omega)
def unitI(x y:UInt8)(big:Bool):Int:=if big then(x.toNat:Int)*256+y.toNat else(y.toNat:Int)*256+x.toNat
theorem y4I(x y:UInt8)(big:Bool):0<=unitI x y big/\unitI x y big<65536:=by
 have:=x.toNat_lt;have:=y.toNat_lt;unfold unitI;split<;>omega
def AtB(s:ByteArray)(k:Nat)(x:UInt8):Prop:=∀(h:k<s.size),s[k]'h=x
theorem zS(s:ByteArray)(k:Nat)(x:UInt8)(h:(bl s)[k]?=some x):AtB s k x:=by
 intro hk;have e:(bl s)[k]?=some (s[k]'hk):=by
  have H5:k<(bl s).length:=by rw[zJ];exact hk
  rw[List.getElem?_eq_getElem H5];rfl
 rw[h]at e;exact(zF e).symm
theorem yAr(s:ByteArray)(k:Nat)(x y:UInt8)(big:Bool)(w:World)(hs:s.size<=1073741824)(hk:k+1<s.size)(hx:AtB s k x)(hy:AtB s (k+1) y):
 Calls prog 288 #[.string s,.int .i64 k,.bool big] w fun e w'=>e=.returned (.int .i32 (unitI x y big))/\Below w.heap.size w w':=by
 have H6:=x.toNat_lt;have H5:=y.toNat_lt;have H7:k<s.size:=by omega
 have X:∀h,s[k]'h=x:=hx;have Y:∀h,s[k+1]'h=y:=hy;have e1:bits .or .i32 ((x.toNat:Int)*256) y.toNat=(x.toNat:Int)*256+y.toNat:=yFX _ _ (by omega) (by omega) (by omega) (by omega) (by omega);have e2:bits .or .i32 ((y.toNat:Int)*256) x.toNat=(y.toNat:Int)*256+x.toNat:=yFX _ _ (by omega) (by omega) (by omega) (by omega) (by omega);have e3:IntKind.i64.wrap ((k:Int)+1)=(k:Int)+1:=by rw[y04];omega;omega
 have e4:(0:Int)<=(k:Int)+1:=by omega
 have e5:((k:Int)+1).toNat=k+1:=by omega
 have e6:IntKind.i32.wrap ((x.toNat:Int)*256)=(x.toNat:Int)*256:=by rw[wraps_i32];omega;omega
 have e7:IntKind.i32.wrap ((y.toNat:Int)*256)=(y.toNat:Int)*256:=by rw[wraps_i32];omega;omega
 cases big
 . go_enter func288,ntmps288
   go_wp2
   go_quiet (fail)
   go_wp2
   go_ret
   exact⟨y3A (by unfold unitI;simp),bdn (z8) _⟩
 . go_enter func288,ntmps288
   go_wp2
   go_quiet (fail)
   go_wp2
   go_ret
   exact⟨y3A (by unfold unitI;simp),bdn (z8) _⟩
def wsign(big:Bool):List UInt8->Int×Nat
 | x::y::r=>if unitI x y big<55296\/57344<=unitI x y big then(unitI x y big,2)else match r with
  | z::u::_=>if 56320<=unitI x y big then(0,0)else if unitI z u big<56320\/57344<=unitI z u big then(0,0)
   else(65536+(unitI x y big-55296)*1024+(unitI z u big-56320),4)
  | _=>(0,0)
 | _=>(0,0)
theorem yBr{l:List UInt8}{k:Nat}(h:k+1<l.length):∃x y,l[k]?=some x/\l[k+1]?=some y/\l.drop k=x::y::l.drop (k+2):=by
 refine⟨l[k],l[k+1],List.getElem?_eq_getElem (by omega),List.getElem?_eq_getElem h,?_⟩;rw[List.drop_eq_getElem_cons (by omega),List.drop_eq_getElem_cons (by omega)]
theorem yDP(s:ByteArray)(k:Nat)(big:Bool)(w:World)(hs:s.size<=1073741824)(hk:k<=s.size):
 Calls prog 204 #[.string s,.int .i64 k,.bool big] w fun e w'=>
  e=.returned (.tuple #[.int .i32 (wsign big ((bl s).drop k)).1,.int .i64 (wsign big ((bl s).drop k)).2])/\Below w.heap.size w w':=by
 have hL:=zJ s;by_cases h2:k+1<s.size
 . obtain⟨x,y,hx,hy,hd⟩:=yBr (l:=bl s) (k:=k) (by omega)
   have c1:=fun w=>yAr s k x y big w hs h2 (zS s k x hx) (zS s (k+1) y hy)
   have b1:=y4I x y big;rw[hd];by_cases H5:unitI x y big<55296\/57344<=unitI x y big
   . have er:wsign big (x::y::(bl s).drop (k+2))=(unitI x y big,2):=by rw[wsign.eq_def];simp only;rw[if_pos H5]
     rw[er];generalize unitI x y big=u at *;have C1:=z7 c1;clear c1 hx hy hd er hL;obtain⟨b0,b1⟩:=b1;rcases H5 with h|h
     all_goals (
      go_enter func204,ntmps204
      go_wp2_with (go_at_call 288;refine(C1.out _).mono ?_;rintro e w1 ⟨rfl,H7⟩)
      go_ret2
      exact⟨rfl,H7⟩)
   . by_cases h4:k+3<s.size
     . obtain⟨z,u,hz,hu,H9⟩:=yBr (l:=bl s) (k:=k+2) (by omega)
       have c2:=fun w=>yAr s (k+2) z u big w hs h4 (zS s (k+2) z hz) (zS s (k+2+1) u hu)
       rw[show((k+2:Nat):Int)=(k:Int)+2 from by omega]at c2;have b2:=y4I z u big;rw[H9];have er:wsign big (x::y::z::u::(bl s).drop (k+2+2))=if 56320<=unitI x y big then(0,0)else if unitI z u big<56320\/57344<=unitI z u big then(0,0)
        else(65536+(unitI x y big-55296)*1024+(unitI z u big-56320),4):=by rw[wsign.eq_def];simp only;rw[if_neg H5]
       rw[er];generalize unitI x y big=f at *;generalize unitI z u big=g at *;have C1:=z7 c1;have C2:=z7 c2;clear c1 c2 hx hy hz hu hd H9 er hL;obtain⟨a0,a1⟩:55296<=f/\f<57344:=by omega
       clear H5 b1;obtain⟨b0,b1⟩:=b2;rcases(show 56320<=f\/(f<56320/\g<56320)\/(f<56320/\56320<=g/\57344<=g)\/(f<56320/\56320<=g/\g<57344) from by omega)with c|⟨c,d⟩|⟨c,d,d'⟩|⟨c,d,d'⟩
       . rw[if_pos c]
         go_enter func204,ntmps204
         go_wp2_with (go_at_call 288;refine(C1.out _).mono ?_;rintro e w1 ⟨rfl,H7⟩)
         go_ret2
         exact⟨rfl,H7⟩
       . rw[if_neg (by omega),if_pos (by omega)]
         go_enter func204,ntmps204
         go_wp2_with fail
         refine(C1.out _).mono ?_;rintro e w1 ⟨rfl,H7⟩
         go_wp2_with fail
         refine(C2.out _).mono ?_;rintro e w2 ⟨rfl,H8⟩
         go_wp2_with fail
         go_ret2
         exact⟨rfl,bt H7 H8⟩
       . rw[if_neg (by omega),if_pos (by omega)]
         go_enter func204,ntmps204
         go_wp2_with fail
         refine(C1.out _).mono ?_;rintro e w1 ⟨rfl,H7⟩
         go_wp2_with fail
         refine(C2.out _).mono ?_;rintro e w2 ⟨rfl,H8⟩
         go_wp2_with fail
         go_ret2
         exact⟨rfl,bt H7 H8⟩
       . rw[if_neg (by omega),if_neg (by omega)]
         go_enter func204,ntmps204
         go_wp2_with fail
         refine(C1.out _).mono ?_;rintro e w1 ⟨rfl,H7⟩
         go_wp2_with fail
         refine(C2.out _).mono ?_;rintro e w2 ⟨rfl,H8⟩
         go_wp2_with fail
         go_ret2
         exact⟨rfl,bt H7 H8⟩
     . have H6:((bl s).drop (k+2)).length<2:=by rw[List.length_drop];omega
       have er:wsign big (x::y::(bl s).drop (k+2))=(0,0):=by
        rw[wsign.eq_def];simp only;rw[if_neg H5]
        match(bl s).drop (k+2),H6 with
        | [],_=>rfl
        | [z],_=>rfl
        | z::u::r,h=>simp at h;omega
       rw[er];generalize unitI x y big=f at *;have C1:=z7 c1;clear c1 hx hy hd er hL H6;obtain⟨a0,a1⟩:55296<=f/\f<57344:=by omega
       clear H5 b1;by_cases c:56320<=f
       all_goals (
        go_enter func204,ntmps204
        go_wp2_with (go_at_call 288;refine(C1.out _).mono ?_;rintro e w1 ⟨rfl,H7⟩)
        go_ret2
        exact⟨rfl,H7⟩)
 . have H6:((bl s).drop k).length<2:=by rw[List.length_drop];omega
   have er:wsign big ((bl s).drop k)=(0,0):=by
    match(bl s).drop k,H6 with
    | [],_=>rfl
    | [z],_=>rfl
    | z::u::r,h=>simp at h;omega
   rw[er];clear er H6 hL
   go_enter func204,ntmps204
   go_wp2_with fail
   go_ret2
   exact⟨rfl,z8⟩
def tokW(big:Bool):Tok:=fun l=>if(wsign big l).2=0 then none else some (encR (wsign big l).1,(wsign big l).2)
theorem yAo(big:Bool)(l:List UInt8):0<=(wsign big l).1/\(wsign big l).1<1114112/\(wsign big l).2<=l.length/\(wsign big l).2<=4:=by
 match l with
 | []=>simp[wsign]
 | [x]=>simp[wsign]
 | x::y::r=>
  have b1:=y4I x y big;rw[wsign.eq_def];simp only;split
  . simp;omega
  . match r with
    | []=>simp
    | [z]=>simp
    | z::u::q=>
     have b2:=y4I z u big;simp only;split
     . simp
     . split
       . simp
       . simp;omega
theorem y05{tok:Tok}(f:Nat)(l:List UInt8)(k:Nat)(acc:List UInt8)(t:List UInt8)(j:Nat)(H5:l ≠ [])(h:tok l=some (t,j)):
 runT tok (f+1) l k acc=runT tok f (l.drop j) (k+j) (acc++t):=by
 rw[runT,if_neg H5,h]
theorem y0o{tok:Tok}(f:Nat)(l:List UInt8)(k:Nat)(acc:List UInt8)(H5:l ≠ [])(h:tok l=none):runT tok (f+1) l k acc=([],some k):=by
 rw[runT,if_neg H5,h]
theorem y39{tok:Tok}(f:Nat)(k:Nat)(acc:List UInt8):runT tok f [] k acc=(acc,none):=by cases f<;>simp[runT]
theorem y27{l:List UInt8}{k:Nat}(h:k<l.length):l.drop k ≠ []:=by
 intro e;have:=congrArg List.length e;rw[List.length_drop]at this;simp at this;omega
theorem y9S(s:ByteArray)(big:Bool)(w:World)(hs:s.size<=1073741824):
 Calls prog 127 #[.string s,.bool big] w fun e w'=>
  e=.returned (.tuple #[.string ⟨(decT (tokW big) (bl s)).1.toArray⟩,faultV (decT (tokW big) (bl s)).2])/\Below w.heap.size w w':=by
 have hL:=zJ s;obtain⟨R,hR⟩:∃R,R=decT (tokW big) (bl s):=⟨_,rfl⟩;have HR:=z7 hR;rw[<-hR];clear hR;have l0:=Live.fresh w #[.int .i64 0,.int .i64 0] 40 0 _ rfl;have l1:=Live.fresh w #[.int .i64 0,.int .i64 0] 40 1 _ rfl;have Hc:Below w.heap.size w (w.alloc (.cells #[.int .i64 0,.int .i64 0] 40)):=(z8).alloc (zA) _;have Hf:=Hc.size
 go_enter func127,ntmps127
 go_wp2
 generalize hW:w.alloc (.cells #[.int .i64 0,.int .i64 0] 40)=W at *;clear hW
 go_loopw [6,7] (fun v at_ wr=>∃(f k:Nat) (acc:List UInt8),at_=.int .i64 (k:Int)/\Own wr W.heap.size v acc/\k<=s.size/\acc.length<=4*k/\s.size-k<=f/\Hid (runT (tokW big) f ((bl s).drop k) k acc=R)/\Below W.heap.size W wr) (fun _ at_ _=>s.size-(intOf at_).toNat)
 case atStart=>exact⟨s.size,0,[],rfl,Own.nil _ _,zD,by simp,by omega,by have:=HR.out;unfold decT at this;rw[hL]at this;rw[List.drop_zero];exact this.symm,z8⟩
 case round=>
  obtain⟨f,k,acc,rfl,H8,hk,ha,hf,hR,H5⟩:=hrel;have Hb:=Hc.trans (H5.mono Hf);by_cases Hg:k<s.size
  . obtain⟨f,rfl⟩:∃g,f=g+1:=⟨f-1,by omega⟩
    have H9:(bl s).drop k ≠ []:=y27 (by omega);have c1:=fun w=>yDP s k big w hs hk
    have Ha:=yAo big ((bl s).drop k);rw[List.length_drop,hL]at Ha;have ht:tokW big ((bl s).drop k)=if(wsign big ((bl s).drop k)).2=0 then none else some (encR (wsign big ((bl s).drop k)).1,(wsign big ((bl s).drop k)).2):=rfl
    rcases hp:wsign big ((bl s).drop k)with⟨p,j⟩
    rw[hp]at c1 Ha ht;simp only at c1 Ha ht;obtain⟨p0,p1,j0,j1⟩:=Ha;have C1:=z7 c1;by_cases hj:j=0
    . rw[if_pos hj]at ht
      have e1:=y0o (tok:=tokW big) f _ k acc H9 ht;rw[hR.out]at e1;have E1:=z7 e1;subst hj;have y0:=l0.keep H5;have y1:=l1.keep H5;clear c1 hp ht H9 e1 l0 l1 hL
      go_wp2_with (go_at_call 204;refine(C1.out _).mono ?_;rintro e w1 ⟨rfl,H6⟩;obtain⟨a1,a2⟩:=y0.keep H6;obtain⟨a3,a4⟩:=y1.keep H6)
      refine bodyPost_ret (v:=.tuple #[.string ⟨#[]⟩,.agg #[.int .i64 2,.int .i64 k]]) (by simp[results,results127,go_sem,a1,a2,a3,a4]) rfl ⟨?_,?_⟩
      . rw[E1.out];rfl
      . exact((bt Hb H6).setCell (zA) _).setCell (zA) _
    . rw[if_neg hj]at ht
      have e1:=y05 (tok:=tokW big) f _ k acc _ _ H9 ht;rw[hR.out,List.drop_drop]at e1;have E1:=z7 e1;have Hj:=y1e p;have Hh:((j:Int)==0)=false:=by simp;omega
      have Hi:1<=j:=by omega
      clear c1 hp ht H9 e1 l0 l1 hL hj
      go_wp2_with (first
       | (go_at_call 204;refine(C1.out _).mono ?_;rintro e w1 ⟨rfl,H6⟩)
       | (go_at_call 205;refine(y0V W.heap.size _ acc p _ (by omega) (by omega) (H8.bel H6) (by omega) (by have:=H5.size;have:=H6.size;omega)).mono ?_;rintro e w2 ⟨v',rfl,H7,He⟩))
      go_roundw
      case rel=>exact⟨f,k+j,acc++encR p,by go_num,H7,by omega,by rw[zH];omega,by omega,E1.out.symm,(H5.trans (H6.mono H5.size)).trans He⟩
      case measure=>simp[intOf];omega
  . have Hd:k=s.size:=by omega
    subst Hd;have e1:runT (tokW big) f ((bl s).drop s.size) s.size acc=(acc,none):=by
     rw[List.drop_of_length_le (by omega)];exact y39 f _ acc
    rw[hR.out]at e1;have E1:=z7 e1;obtain⟨a1,a2⟩:=l0.keep H5;obtain⟨a3,a4⟩:=l1.keep H5;have Hk:=y16 H8;clear e1 l0 l1 hL;go_wp2
    refine bodyPost_ret (v:=.tuple #[.string ⟨acc.toArray⟩,.agg #[.int .i64 0,.int .i64 0]]) (by simp[results,results127,go_sem,a1,a2,a3,a4]) rfl ⟨?_,?_⟩
    . rw[E1.out];rfl
    . exact(Hb.setCell (zA) _).setCell (zA) _
