/- PM -/
import Derived.Test.YtndlekaahjccdaaGreatDoorPL
import Derived.Test.YtndlekaahjccdaaGreatDoorPG
set_option linter.all false
set_option maxRecDepth 100000
set_option maxHeartbeats 40000000
namespace Go.Proofs.YtndlekaahjccdaaGreatDoor
section
open Go Go.Rf Go.RowKit Go.Proofs.Tryz
theorem Y2 {α:Type _} [BEq α] [LawfulBEq α] {a b:α}:(a==b)=false↔a≠b:=beq_eq_false_iff_ne
abbrev Y3:Go.Value:=.agg #[.bool false,.string ⟨#[]⟩,.string ⟨#[]⟩]
theorem Y4 (w:Go.World) (o:Go.Obj):(w.alloc o).heap.size=w.heap.size+1:=Go.World.size_alloc w o
abbrev FactF:=Op->List V2->Option V2
def factOr(F G:FactF):FactF:=fun o a=>match F o a with|some r=>some r|none=>G o a
variable [Sym]
def FOk(P:Program)(F:FactF):Prop:=∀(o:Op) (args:List V2) (r:V2),F o args=some r->∃v,(∀ρ,r.den ρ=some v)/\∀(o':Oper) (ev:Operand->V2) (val:Operand->Value),o'.op=o->o.operands.toList.map ev=args->(∀x∈o.operands,∃ρ,(ev x).den ρ=some (val x))->∀w:World,(execOp val o').run P w=.ok (.value v) w
theorem y1K{P:Program}{F G:FactF}(hF:FOk P F)(hG:FOk P G):FOk P (factOr F G):=by
 intro o args r h;unfold factOr at h;split at h
 . rename_i q hq;cases h;exact hF _ _ _ hq
 . exact hG _ _ _ h
end
section
open Go Go.Rf Go.RowKit Go.Shelf Go.Lib Go.ChangeShapes Go.WideShapes Go.ChangeAt Go.Proofs.Tryz
instance (priority:=low) sym0:Sym:=⟨fun _=>.int .i64 0,fun _=>rfl,fun _=>rfl,fun _ _ h=>by cases h⟩
def isU8(v:Value)(z:Int):Bool:=match v with | .int .u8 n=>n==z|_=>false
theorem yAF{v:Value}{z:Int}(h:isU8 v z=true):v=.int .u8 z:=by
 unfold isU8 at h;split at h
 . rw[eq_of_beq h]
 . cases h
theorem y4e{r:R16 (R16 Value)}{n off:Nat}{v:Value}(h:gat r n off=some v):off<n/\v=R16.get (lo off) nov (R16.get (hi off) nrow r):=by
 unfold gat at h;split at h
 . rename_i hb
   cases h;exact⟨by simpa using hb,rfl⟩
 . cases h
theorem yGd{p:Nat->Bool}{n:Nat}(h:(List.range n).all p=true){i:Nat}(hi:i<n):p i=true:=List.all_eq_true.1 h i (List.mem_range.2 hi)
theorem g2_all:((List.range 256).all fun o=>isU8 (R16.get (lo o) nov (R16.get (hi o) nrow g2)) (firstT o:Int))=true:=by kernel_rfl
theorem g3_all:((List.range 32).all fun o=>isU8 (R16.get (lo o) nov (R16.get (hi o) nrow g3)) (match o%2 with|0=>(accLo (o/2):Int)|_=>(accHi (o/2):Int)))=true:=by kernel_rfl
theorem g6_all:((List.range 32).all fun o=>isU8 (R16.get (lo o) nov (R16.get (hi o) nrow g6)) ((Go.Lib.deBruijn32tab.getD o 0:Nat):Int))=true:=by kernel_rfl
structure GW (w:World):Prop where
 gok:GOk w w.heap.size gk
 tw:TW w
theorem yGL{w:World}{a:Addr}{v:Value}(h:w.cell? a=some v):a.block<w.heap.size:=by
 unfold World.cell? at h;cases hb:w.heap[a.block]? with
 | none=>rw[hb]at h;cases h
 | some b=>exact(Array.getElem?_eq_some_iff.1 hb).1
theorem GW.bel{w w':World}(h:GW w)(hb:Below w.heap.size w w'):GW w':=⟨h.gok.later hb hb.size,h.tw.bel hb⟩
theorem yDt:(Rows.laid_diacritic_sniff_starts:DataW Unit)=.agg [.agg [.lit (.string [73,68,51]),.lit (.int .i64 1)],.agg [.lit (.string [79,103,103,83]),.lit (.int .i64 2)],.agg [.lit (.string [102,76,97,67]),.lit (.int .i64 3)]]:=rfl
theorem str_of{b:ByteArray}{l:List UInt8}(h:b.data.toList=l):b=⟨⟨l⟩⟩:=by
 cases b;cases h;rfl
theorem y78{w:World}{fuel:Nat}{cs:List Value}{ds:List (DataW Unit)}{p:List MemPlace}(h:DataW.trod (fun _=>()) prog w 0 (fun _=>true) false fuel 127 cs=some (.agg ds,p))(i:Nat)(hi:i<3)(l:List UInt8)(z:Int)
 (hd:ds[i]?=some (.agg [.lit (.string l),.lit (.int .i64 z)])):cs[2*i]?=some (.string ⟨⟨l⟩⟩)/\cs[2*i+1]?=some (.int .i64 z):=by
 obtain⟨fuel',d,q,H5,he⟩:=array_elem underlying127 h i hi;rw[hd]at H5;cases H5;rw[show Tryz.prog.cellsOf 126=2 by kernel_rfl]at he;obtain⟨y0,y1,n,hx,_,h0,h1⟩:=Go.ChangeShapes.trod_struct2 underlying126 he;obtain⟨s,c0,x0,_⟩:=DataW.trod_string underlying9 h0;obtain⟨m,c1,x1,_⟩:=DataW.trod_int underlying22 h1;subst x0;subst x1;simp only[Prod.mk.injEq,DataW.agg.injEq,List.cons.injEq,DataW.lit.injEq,Lit.string.injEq,Lit.int.injEq,and_true,true_and]at hx;obtain⟨⟨e0,e1⟩,_⟩:=hx;rw[show Tryz.prog.cellsOf 9=1 by kernel_rfl]at c0;rw[show Tryz.prog.cellsOf 22=1 by kernel_rfl]at c1;have f0:=congrArg (·[0]?) c0;have f1:=congrArg (·[0]?) c1;simp only[List.getElem?_take,List.getElem?_drop]at f0 f1;simp at f0 f1;constructor
 . rw[Nat.mul_comm,f0,str_of e0.symm]
 . rw[Nat.mul_comm,f1,e1]
theorem gok_of{W:World} (r1:VarReads prog W "math/bits.deBruijn32tab" Rows.laid_math_bits_deBruijn32tab) (r2:VarReads prog W "unicode/utf8.acceptRanges" Rows.laid_unicode_utf8_acceptRanges) (r3:VarReads prog W "unicode/utf8.first" Rows.laid_unicode_utf8_first)
 (r4:VarReads prog W "diacritic/sniff.starts" Rows.laid_diacritic_sniff_starts):GOk W W.heap.size gk:=by
 rw[y9F]at r1;rw[y9N]at r2;rw[yBk]at r3;rw[yDt]at r4;have hU:Go.Lib.Utf8Tabs 1 2 W:=utf8Tabs_of_readsT tT tX r3 r2;have H8:∀i,i<32->W.cell? ⟨4,i,none⟩=some (.int .u8 (Go.Lib.deBruijn32tab.getD i 0:Nat)):=by
  intro i hi;obtain⟨g,t,cs,fuel,p,hg,H6,H5,hd⟩:=r1;obtain rfl:=zF ((show Tryz.prog.globalNamed "math/bits.deBruijn32tab" = some 4 by kernel_rfl).symm.trans hg);obtain rfl:=zF ((show(Tryz.prog.globals[4]?).map (·.type)=some 408 by kernel_rfl).symm.trans H6);have H9:=cells_of_tab underlying408 underlying5 (by kernel_rfl) (by kernel_rfl) hd;have hl:Go.Lib.deBruijn32tab.length=32:=by kernel_rfl
  rw[World.var?_cell hg H5 i,<-Array.getElem?_toList,H9];simp[List.getD,hl,hi]
 have H7:∀i,i<6->∀v,R16.get (lo i) nov (R16.get (hi i) nrow g1)=v->W.cell? ⟨0,i,none⟩=some v:=by
  intro i hi v hv;obtain⟨g,t,cs,fuel,p,hg,H6,H5,hd⟩:=r4;obtain rfl:=zF ((show Tryz.prog.globalNamed "diacritic/sniff.starts" = some 0 by kernel_rfl).symm.trans hg);obtain rfl:=zF ((show(Tryz.prog.globals[0]?).map (·.type)=some 127 by kernel_rfl).symm.trans H6);have q0:=y78 hd 0 (by decide) _ _ rfl;have q1:=y78 hd 1 (by decide) _ _ rfl;have q2:=y78 hd 2 (by decide) _ _ rfl;rw[World.var?_cell hg H5 i,<-Array.getElem?_toList,<-hv]
  match i,hi with
  | 0,_=>exact q0.1
  | 1,_=>exact q0.2
  | 2,_=>exact q1.1
  | 3,_=>exact q1.2
  | 4,_=>exact q2.1
  | 5,_=>exact q2.2
 have key:∀a v,gk a=some v->W.cell? a=some v:=by
  intro a v h;obtain⟨b,off,sp⟩:=a;cases sp with
  | some x=>cases h
  | none=>
   have h:gks b off=some v:=h;unfold gks at h;split at h
   . rename_i hb
     obtain rfl:=Nat.eq_of_beq_eq_true hb;obtain⟨ho,rfl⟩:=y4e h;rw[hU.1 off ho,yAF (yGd g2_all ho)]
   . split at h
     . rename_i hb
       obtain rfl:=Nat.eq_of_beq_eq_true hb;obtain⟨ho,rfl⟩:=y4e h;rw[yAF (yGd g3_all ho)];have hq:=hU.2 (off/2) (by omega);rcases Nat.mod_two_eq_zero_or_one off with e|e
       . rw[e]
         have e2:2*(off/2)=off:=by omega
         rw[e2]at hq;exact hq.1
       . rw[e]
         have e2:2*(off/2)+1=off:=by omega
         rw[e2]at hq;exact hq.2
     . split at h
       . rename_i hb
         obtain rfl:=Nat.eq_of_beq_eq_true hb;obtain⟨ho,rfl⟩:=y4e h;rw[H8 off ho,yAF (yGd g6_all ho)]
       . split at h
         . rename_i hb
           obtain rfl:=Nat.eq_of_beq_eq_true hb;obtain⟨ho,rfl⟩:=y4e h;exact H7 off ho _ rfl
         . cases h
 exact fun a v h=>⟨yGL (key a v h),key a v h⟩
theorem gw_of{W:World} (r1:VarReads prog W "math/bits.deBruijn32tab" Rows.laid_math_bits_deBruijn32tab) (r2:VarReads prog W "unicode/utf8.acceptRanges" Rows.laid_unicode_utf8_acceptRanges) (r3:VarReads prog W "unicode/utf8.first" Rows.laid_unicode_utf8_first)
 (r4:VarReads prog W "diacritic/sniff.starts" Rows.laid_diacritic_sniff_starts) (H8:W.ShapedOpen prog):GW W:=by
 refine⟨gok_of r1 r2 r3 r4,?_⟩;rw[y9F]at r1;rw[y9N]at r2;rw[yBk]at r3;have hU:Go.Lib.Utf8Tabs 1 2 W:=utf8Tabs_of_readsT tT tX r3 r2;have H6:∀i,i<32->W.cell? ⟨4,i,none⟩=some (.int .u8 (Go.Lib.deBruijn32tab.getD i 0:Nat)):=by
  intro i hi;obtain⟨g,t,cs,fuel,p,hg,H7,H5,hd⟩:=r1;obtain rfl:=zF ((show Tryz.prog.globalNamed "math/bits.deBruijn32tab" = some 4 by kernel_rfl).symm.trans hg);obtain rfl:=zF ((show(Tryz.prog.globals[4]?).map (·.type)=some 408 by kernel_rfl).symm.trans H7);have Ha:=cells_of_tab underlying408 underlying5 (by kernel_rfl) (by kernel_rfl) hd;have hl:Go.Lib.deBruijn32tab.length=32:=by kernel_rfl
  rw[World.var?_cell hg H5 i,<-Array.getElem?_toList,Ha];simp[List.getD,hl,hi]
 have H9:∃m,W.cell? ⟨3,0,none⟩=some (.int .i64 m):=
  cell_of_shapedOpen_int (zero:=#[.int .i64 0]) (t:=3) H8 (by decide +kernel) (by kernel_rfl) rfl (by kernel_rfl) (by kernel_rfl) underlying3
 refine⟨hU,H6,H9,?_⟩;have:=yGL (H6 0 (by omega));simp only at this;omega
def SQ(e:Entry):Prop:=∀w:World,TW w->Calls prog e.1 e.2.1.toArray w fun x w'=>x=.returned e.2.2/\Below w.heap.size w w'
theorem y3T{s sub:ByteArray}{z:Int}(hs:s.size<4294967281)(h:Go.Lib.index s.data.toList sub.data.toList=z):SQ (370,[.string s,.string sub],.int .i64 z):=fun w hT=>
 let ⟨m,hm⟩:=hT.ml
 (Tryz.strings_Index s sub m w hs hm).mono fun x w' ⟨h1,h2⟩=>⟨by rw[h1,h],by rw[h2];exact z8⟩
theorem yAc{c:Int}{b:ByteArray}{v:Value}(hb:b.size<=1073741824)(h:decV c (bl b)=v):SQ (108,[.int .i64 c,.string b],v):=fun w hT=>
 (y0y c b w hT hb).mono fun x w' ⟨h1,h2⟩=>⟨by rw[h1,h],h2⟩
theorem sq02:SQ (128,[],.bool true):=fun w hT=>y2x w hT
theorem sq04:SQ (298,[],.bool true):=fun w hT=>y5p w hT
theorem sq05:SQ (211,[],.bool true):=fun w hT=>y5o w hT
theorem sq06:SQ (212,[],.bool true):=fun w hT=>y5n w
theorem sq07:SQ (213,[],.bool true):=fun w hT=>y5m w hT
theorem sq08:SQ (214,[],.bool true):=fun w hT=>y5l w hT
theorem sq09:SQ (132,[],.bool true):=fun w hT=>y5k w hT
theorem sq10:SQ (65,[],.bool true):=fun w hT=>yAl w hT
end
section
open Go Go.Rf Go.RowKit Go.Proofs.Tryz
theorem k0_ok:KAll SQ k0:=⟨⟨⟨⟨⟨⟨⟨⟨trivial,⟨⟨⟨⟨⟨⟨⟨⟨⟨sq02,trivial⟩,trivial⟩,trivial⟩,trivial⟩,trivial⟩,trivial⟩,trivial⟩,trivial⟩,trivial⟩⟩,trivial⟩,trivial⟩,trivial⟩,trivial⟩,⟨⟨⟨⟨⟨trivial,⟨⟨⟨⟨⟨⟨⟨⟨⟨sq09,trivial⟩,trivial⟩,trivial⟩,trivial⟩,trivial⟩,trivial⟩,trivial⟩,trivial⟩,trivial⟩⟩,trivial⟩,trivial⟩,⟨⟨trivial,⟨trivial,⟨⟨⟨⟨⟨⟨⟨⟨⟨sq06,trivial⟩,trivial⟩,trivial⟩,trivial⟩,trivial⟩,trivial⟩,trivial⟩,trivial⟩,trivial⟩⟩⟩,trivial⟩⟩,⟨⟨trivial,⟨trivial,⟨⟨⟨⟨⟨⟨⟨trivial,⟨⟨trivial,⟨yAc (by decide) (by kernel_rfl),trivial⟩⟩,⟨⟨yAc (by decide) (by kernel_rfl),trivial⟩,trivial⟩⟩⟩,trivial⟩,trivial⟩,⟨⟨⟨trivial,⟨⟨trivial,⟨yAc (by decide) (by kernel_rfl),trivial⟩⟩,trivial⟩⟩,⟨trivial,⟨trivial,⟨trivial,⟨yAc (by decide) (by kernel_rfl),trivial⟩⟩⟩⟩⟩,⟨⟨⟨⟨trivial,⟨yAc (by decide) (by kernel_rfl),trivial⟩⟩,trivial⟩,trivial⟩,⟨⟨⟨⟨yAc (by decide) (by kernel_rfl),trivial⟩,trivial⟩,trivial⟩,⟨⟨⟨yAc (by decide) (by kernel_rfl),trivial⟩,trivial⟩,trivial⟩⟩⟩⟩⟩,trivial⟩,trivial⟩,trivial⟩⟩⟩,trivial⟩⟩⟩,⟨⟨⟨trivial,⟨trivial,⟨trivial,⟨⟨trivial,⟨⟨⟨⟨⟨⟨⟨⟨y3T (by decide) (by kernel_rfl),trivial⟩,trivial⟩,trivial⟩,⟨trivial,⟨⟨y3T (by decide) (by kernel_rfl),trivial⟩,trivial⟩⟩⟩,⟨⟨⟨⟨y3T (by decide) (by kernel_rfl),trivial⟩,trivial⟩,trivial⟩,⟨⟨⟨y3T (by decide) (by kernel_rfl),trivial⟩,trivial⟩,⟨trivial,⟨y3T (by decide) (by kernel_rfl),trivial⟩⟩⟩⟩⟩,⟨⟨⟨trivial,⟨⟨y3T (by decide) (by kernel_rfl),y3T (by decide) (by kernel_rfl),trivial⟩,trivial⟩⟩,trivial⟩,⟨⟨trivial,⟨trivial,⟨y3T (by decide) (by kernel_rfl),trivial⟩⟩⟩,⟨⟨trivial,⟨y3T (by decide) (by kernel_rfl),trivial⟩⟩,trivial⟩⟩⟩⟩,⟨trivial,⟨⟨⟨⟨⟨y3T (by decide) (by kernel_rfl),trivial⟩,⟨y3T (by decide) (by kernel_rfl),y3T (by decide) (by kernel_rfl),trivial⟩⟩,trivial⟩,⟨⟨trivial,⟨y3T (by decide) (by kernel_rfl),trivial⟩⟩,trivial⟩⟩,trivial⟩⟩⟩,trivial⟩⟩,trivial⟩⟩⟩⟩,⟨⟨trivial,⟨⟨⟨trivial,⟨⟨⟨⟨⟨⟨⟨⟨sq04,trivial⟩,trivial⟩,trivial⟩,trivial⟩,trivial⟩,trivial⟩,trivial⟩,trivial⟩⟩,trivial⟩,trivial⟩⟩,trivial⟩⟩,⟨⟨trivial,⟨⟨trivial,⟨trivial,⟨⟨⟨⟨⟨⟨⟨⟨⟨sq08,trivial⟩,trivial⟩,trivial⟩,trivial⟩,trivial⟩,trivial⟩,trivial⟩,trivial⟩,trivial⟩⟩⟩,trivial⟩⟩,trivial⟩⟩⟩,⟨⟨⟨⟨⟨⟨trivial,⟨⟨⟨⟨⟨⟨⟨⟨⟨⟨sq10,trivial⟩,trivial⟩,trivial⟩,trivial⟩,trivial⟩,trivial⟩,trivial⟩,trivial⟩,trivial⟩,trivial⟩⟩,trivial⟩,trivial⟩,trivial⟩,⟨⟨trivial,⟨⟨trivial,⟨trivial,⟨⟨⟨⟨⟨⟨⟨⟨⟨sq07,trivial⟩,trivial⟩,trivial⟩,trivial⟩,trivial⟩,trivial⟩,trivial⟩,trivial⟩,trivial⟩⟩⟩,trivial⟩⟩,trivial⟩⟩,⟨⟨⟨trivial,⟨⟨trivial,⟨trivial,⟨⟨⟨⟨⟨⟨⟨⟨⟨sq05,trivial⟩,trivial⟩,trivial⟩,trivial⟩,trivial⟩,trivial⟩,trivial⟩,trivial⟩,trivial⟩⟩⟩,trivial⟩⟩,trivial⟩,trivial⟩⟩⟩
theorem o0_ok{W:World}(h:GW W):OOk prog W W.heap.size O0:=fun f vs v hk w hb hs=>by
 simp only[O0,Oracle.add]at hk;split at hk
 . rename_i u hu
   cases hk;exact y8h k0_ok hu w (h.tw.bel hb)
 . cases hk
noncomputable abbrev O9:Oracle:=O7
theorem y9e{W:World}{O:Oracle}(h:O.sym=fun _ _=>none:=by rfl)(h':O.row=fun _ _=>none:=by rfl):SOk prog W W.heap.size O:=⟨fun f args r hk=>(by rw[h]at hk;cases hk),fun f args r hk=>(by rw[h']at hk;cases hk)⟩
theorem ol_ok{W:World}(h:GW W):OOk prog W W.heap.size O7:=(yAA mixed k7_ok h.gok (yAA mixed k6_ok h.gok (yAA mixed k5_ok h.gok (yAA mixed k4_ok h.gok (yAA mixed k3_ok h.gok (yAA mixed k2_ok h.gok (yAA mixed k1_ok h.gok (o0_ok h) y9e) y9e) y9e) y9e) y9e) y9e) y9e)
abbrev SliF:=At×Option At×Option At×At
def yJC:Option At->Option At->Bool
 | none,none=>true
 | some a,some b=>sameA a b
 | _,_=>false
theorem yB6:∀ {a b:Option At},yJC a b=true->a=b
 | none,none,_=>rfl
 | some a,some b,h=>by rw[y0d (show sameA a b=true from h)]
 | none,some _,h=>by cases h
 | some _,none,h=>by cases h
def yCm:List SliF->At->Option At->Option At->Option At
 | [],_,_,_=>none
 | (x,l,h,r)::q,u,i,j=>match sameA x u&&yJC l i&&yJC h j with
  | true=>some r
  | false=>yCm q u i j
def yCq:Option At->Option V2
 | some r=>some (.o (.a r))
 | none=>none
def factS(t0:TypeId)(q:List SliF):FactF
 | .slice t _ lo hi mx,args=>match Nat.beq t t0 with
  | true=>(match lo,hi,mx,args with
   | some _,none,none,[.o (.a x),.o (.a l)]=>yCq (yCm q x (some l) none)
   | none,some _,none,[.o (.a x),.o (.a h)]=>yCq (yCm q x none (some h))
   | some _,some _,none,[.o (.a x),.o (.a l),.o (.a h)]=>yCq (yCm q x (some l) (some h))
   | _,_,_,_=>none)
  | false=>none
 | _,_=>none
abbrev ByF:=At×At×At
def yHl:List ByF->At->At->Option At
 | [],_,_=>none
 | (x,i,r)::q,u,j=>match sameA x u&&sameA i j with
  | true=>some r
  | false=>yHl q u j
def factJ(t0:TypeId)(q:List ByF):FactF
 | .index t _ _,[.o (.a x),.o (.a i)]=>match Nat.beq t t0 with
  | true=>yCq (yHl q x i)
  | false=>none
 | _,_=>none
abbrev CvF:=Nat×Nat×At×At
def yHk:List CvF->Nat->Nat->At->Option At
 | [],_,_,_=>none
 | (t,u,x,r)::q,a,b,y=>match Nat.beq t a&&Nat.beq u b&&sameA x y with
  | true=>some r
  | false=>yHk q a b y
def factV(q:List CvF):FactF
 | .convert a b _,[.o (.a y)]=>yCq (yHk q a b y)
 | _,_=>none
abbrev SymF:=Nat×List V1×V2
def yCn:List SymF->FuncId->List V1->Option V2
 | [],_,_=>none
 | (g,ys,r)::q,f,xs=>match Nat.beq g f with
  | true=>(match y3x ys xs with|true=>some r|false=>yCn q f xs)
  | false=>yCn q f xs
abbrev RowF:=Nat×List At×V2
def lookW:List RowF->FuncId->List At->Option V2
 | [],_,_=>none
 | (g,ys,r)::q,f,xs=>match Nat.beq g f with
  | true=>(match y7B ys xs with|true=>some r|false=>lookW q f xs)
  | false=>lookW q f xs
def AllP{α:Type}(p:α->Prop):List α->Prop
 | []=>True
 | e::l=>p e/\AllP p l
variable [Sym]
def yIR(d:Nat):Option At->Nat->Prop
 | none,n=>n=d
 | some a,n=>∃k:IntKind,∀ρ,a.den ρ=some (.int k (n:Int))
def y5u(e:SliF):Prop:=∃(b:ByteArray) (l h:Nat),(∀ρ,e.1.den ρ=some (.string b))/\yIR 0 e.2.1 l/\yIR b.size e.2.2.1 h/\l<=h/\h<=b.size/\∀ρ,e.2.2.2.den ρ=some (.string (b.extract l h))
theorem y4Y:∀ {q:List SliF}{u:At}{i j:Option At}{r:At},AllP y5u q->yCm q u i j=some r->y5u (u,i,j,r)
 | [],_,_,_,_,_,h=>by cases h
 | (x,l,hh,r)::q,u,i,j,r',ha,h=>by
  simp only[yCm]at h;split at h
  . rename_i hb
    simp only[Bool.and_eq_true]at hb;cases h;have h1:=y0d hb.1.1;have h2:=yB6 hb.1.2;have h3:=yB6 hb.2;subst h1;subst h2;subst h3;exact ha.1
  . exact y4Y ha.2 h
theorem y1G{o:Option At}{r:V2}(h:yCq o=some r):∃a,o=some a/\r=.o (.a a):=by
 cases o with
 | none=>cases h
 | some a=>cases h;exact⟨a,rfl,rfl⟩
theorem yBm{t0:TypeId}{q:List SliF}(ht:Tryz.prog.underlying t0=some .string)(hl:AllP y5u q):FOk prog (factS t0 q):=by
 intro o args r h;unfold factS at h;split at h
 . rename_i t xo lo hi mx
   split at h
   . rename_i hb
     obtain rfl:=Nat.eq_of_beq_eq_true hb;have hu:∀w:World,(underlying t).run prog w=.ok .string w:=fun w=>by simp[underlying,ht]
     split at h
     . rename_i lo x l
       obtain⟨a,ha,rfl⟩:=y1G h;obtain⟨b,l',h',d1,⟨k,d2⟩,d3,H6,H7,d4⟩:=y4Y hl ha;simp only[yIR]at d3;subst d3;refine⟨_,d4,fun o' ev val ho H5 hv w=>?_⟩;simp only[Op.operands,Option.toArray_some,Option.toArray_none,Array.append_empty,Array.toList_append,List.map_append,List.map_cons,List.map_nil,List.cons_append,List.nil_append,List.cons.injEq,and_true]at H5;obtain⟨e1,e2⟩:=H5;obtain⟨ρ1,v1⟩:=hv xo (by simp[Op.operands]);obtain⟨ρ2,v2⟩:=hv lo (by simp[Op.operands]);rw[e1]at v1;rw[e2]at v2;have w1:val xo=.string b:=zF (v1.symm.trans (d1 ρ1));have w2:val lo=.int k (l':Int):=zF (v2.symm.trans (d2 ρ2));obtain⟨dst,op',ty,pos,after,guard⟩:=o';simp only at ho;subst ho;simp[execOp,Instr.sliceAt,Instr.slice,hu,w1,w2,Instr.sliceBounds,Instr.sliceBound,asIntOf,H6,H7]
     . rename_i hi x l
       obtain⟨a,ha,rfl⟩:=y1G h;obtain⟨b,l',h',d1,d3,⟨k,d2⟩,H6,H7,d4⟩:=y4Y hl ha;simp only[yIR]at d3;subst d3;refine⟨_,d4,fun o' ev val ho H5 hv w=>?_⟩;simp only[Op.operands,Option.toArray_some,Option.toArray_none,Array.append_empty,Array.toList_append,List.map_append,List.map_cons,List.map_nil,List.cons_append,List.nil_append,List.cons.injEq,and_true]at H5;obtain⟨e1,e2⟩:=H5;obtain⟨ρ1,v1⟩:=hv xo (by simp[Op.operands]);obtain⟨ρ2,v2⟩:=hv hi (by simp[Op.operands]);rw[e1]at v1;rw[e2]at v2;have w1:val xo=.string b:=zF (v1.symm.trans (d1 ρ1));have w2:val hi=.int k (h':Int):=zF (v2.symm.trans (d2 ρ2));obtain⟨dst,op',ty,pos,after,guard⟩:=o';simp only at ho;subst ho;simp[execOp,Instr.sliceAt,Instr.slice,hu,w1,w2,Instr.sliceBounds,Instr.sliceBound,asIntOf,H6,H7]
     . rename_i lo hi x l y
       obtain⟨a,ha,rfl⟩:=y1G h;obtain⟨b,l',h',d1,⟨k,d2⟩,⟨k2,d3⟩,H6,H7,d4⟩:=y4Y hl ha;refine⟨_,d4,fun o' ev val ho H5 hv w=>?_⟩;simp only[Op.operands,Option.toArray_some,Option.toArray_none,Array.append_empty,Array.toList_append,List.map_append,List.map_cons,List.map_nil,List.cons_append,List.nil_append,List.cons.injEq,and_true]at H5;obtain⟨e1,e2,e3⟩:=H5;obtain⟨ρ1,v1⟩:=hv xo (by simp[Op.operands]);obtain⟨ρ2,v2⟩:=hv lo (by simp[Op.operands]);obtain⟨ρ3,v3⟩:=hv hi (by simp[Op.operands]);rw[e1]at v1;rw[e2]at v2;rw[e3]at v3;have w1:val xo=.string b:=zF (v1.symm.trans (d1 ρ1));have w2:val lo=.int k (l':Int):=zF (v2.symm.trans (d2 ρ2));have w3:val hi=.int k2 (h':Int):=zF (v3.symm.trans (d3 ρ3));obtain⟨dst,op',ty,pos,after,guard⟩:=o';simp only at ho;subst ho;simp[execOp,Instr.sliceAt,Instr.slice,hu,w1,w2,w3,Instr.sliceBounds,Instr.sliceBound,asIntOf,H6,H7]
     . cases h
   . cases h
 . cases h
def ByOk(e:ByF):Prop:=∃(b:ByteArray) (i:Nat) (k:IntKind),(∀ρ,e.1.den ρ=some (.string b))/\(∀ρ,e.2.1.den ρ=some (.int k (i:Int)))/\∃h:i<b.size,∀ρ,e.2.2.den ρ=some (.int .u8 ((b[i]'h).toNat:Int))
theorem yBY:∀ {q:List ByF}{u j r:At},AllP ByOk q->yHl q u j=some r->ByOk (u,j,r)
 | [],_,_,_,_,h=>by cases h
 | (x,i,r)::q,u,j,r',ha,h=>by
  simp only[yHl]at h;split at h
  . rename_i hb
    simp only[Bool.and_eq_true]at hb;cases h;have h1:=y0d hb.1;have h2:=y0d hb.2;subst h1;subst h2;exact ha.1
  . exact yBY ha.2 h
theorem yBn{t0:TypeId}{q:List ByF}(ht:Tryz.prog.underlying t0=some .string)(hl:AllP ByOk q):FOk prog (factJ t0 q):=by
 intro o args r h;unfold factJ at h;split at h
 . rename_i t xo io x i
   split at h
   . rename_i hb
     obtain rfl:=Nat.eq_of_beq_eq_true hb;obtain⟨a,ha,rfl⟩:=y1G h;obtain⟨b,n,k,d1,d3,H6,d2⟩:=yBY hl ha;simp only at d1 d3 d2 H6;refine⟨_,d2,fun o' ev val ho H5 hv w=>?_⟩;simp only[Op.operands,List.map_cons,List.map_nil,List.cons.injEq,and_true]at H5;obtain⟨e1,e2⟩:=H5;obtain⟨ρ1,v1⟩:=hv xo (by simp[Op.operands]);obtain⟨ρ2,v2⟩:=hv io (by simp[Op.operands]);rw[e1]at v1;rw[e2]at v2;have w1:val xo=.string b:=zF (v1.symm.trans (d1 ρ1));have w2:val io=.int k (n:Int):=zF (v2.symm.trans (d3 ρ2));obtain⟨dst,op',ty,pos,after,guard⟩:=o';simp only at ho;subst ho;have hu:(underlying t).run prog w=.ok .string w:=by simp[underlying,ht]
     simp[execOp,Instr.index,hu,w1,w2,asIntOf,H6]
   . cases h
 . cases h
def CvOk(e:CvF):Prop:=∃v z:Value,(∀ρ,e.2.2.1.den ρ=some v)/\(∀ρ,e.2.2.2.den ρ=some z)/\∀w:World,(convert e.1 e.2.1 v).run prog w=.ok z w
theorem yBX:∀ {q:List CvF}{a b:Nat}{y r:At},AllP CvOk q->yHk q a b y=some r->CvOk (a,b,y,r)
 | [],_,_,_,_,_,h=>by cases h
 | (t,u,x,r)::q,a,b,y,r',ha,h=>by
  simp only[yHk]at h;split at h
  . rename_i hb
    simp only[Bool.and_eq_true]at hb;cases h;have h1:=Nat.eq_of_beq_eq_true hb.1.1;have h2:=Nat.eq_of_beq_eq_true hb.1.2;have h3:=y0d hb.2;subst h1;subst h2;subst h3;exact ha.1
  . exact yBX ha.2 h
theorem yBl{q:List CvF}(hl:AllP CvOk q):FOk prog (factV q):=by
 intro o args r h;unfold factV at h;split at h
 . rename_i a b xo y
   obtain⟨x,hx,rfl⟩:=y1G h;obtain⟨v,z,hd,hr,hc⟩:=yBX hl hx;simp only at hd hr hc;refine⟨_,hr,fun o' ev val ho H5 hv w=>?_⟩;simp only[Op.operands,List.map_cons,List.map_nil,List.cons.injEq,and_true]at H5;obtain⟨ρ1,v1⟩:=hv xo (by simp[Op.operands]);rw[H5]at v1;have w1:val xo=v:=zF (v1.symm.trans (hd ρ1));obtain⟨dst,op',ty,pos,after,guard⟩:=o';simp only at ho;subst ho;simp[execOp,w1,hc]
 . cases h
def COk(W:World)(e:SymF):Prop:=∃vals v,(∀ρ,dens1 ρ e.2.1=some vals)/\(∀ρ,e.2.2.den ρ=some v)/\∀w,Below W.heap.size W w->Calls prog e.1 vals.toArray w fun en w'=>en=.returned v/\Below w.heap.size w w'
theorem y7Y{W:World}:∀ {q:List SymF}{f:FuncId}{xs:List V1}{r:V2},AllP (COk W) q->yCn q f xs=some r->COk W (f,xs,r)
 | [],_,_,_,_,h=>by cases h
 | (g,ys,r)::q,f,xs,r',ha,h=>by
  simp only[yCn]at h;split at h
  . rename_i hg
    split at h
    . rename_i hs
      cases h;have h1:=Nat.eq_of_beq_eq_true hg;have h2:=y38 hs;subst h1;subst h2;exact ha.1
    . exact y7Y ha.2 h
  . exact y7Y ha.2 h
def WOk(W:World)(e:RowF):Prop:=∃us v,(∀ρ,dens ρ e.2.1=some us)/\(∀ρ,e.2.2.den ρ=some v)/\∀w,Below W.heap.size W w->∀b o cap,b<w.heap.size->us.length<=cap->(∀(i:Nat) u,us[i]?=some u->w.cell? ⟨b,o+i,none⟩=some u) ->
 Calls prog e.1 #[.slice (some ⟨b,o,none⟩) us.length cap] w fun en w'=>en=.returned v/\Below w.heap.size w w'
theorem y7W{W:World}:∀ {q:List RowF}{f:FuncId}{xs:List At}{r:V2},AllP (WOk W) q->lookW q f xs=some r->WOk W (f,xs,r)
 | [],_,_,_,_,h=>by cases h
 | (g,ys,r)::q,f,xs,r',ha,h=>by
  simp only[lookW]at h;split at h
  . rename_i hg
    split at h
    . rename_i hs
      cases h;have h1:=Nat.eq_of_beq_eq_true hg;have h2:=y37 hs;subst h1;subst h2;exact ha.1
    . exact y7W ha.2 h
  . exact y7W ha.2 h
noncomputable abbrev OS(C:List SymF)(R:List RowF):Oracle:={ O9 with sym:=yCn C,row:=lookW R }
theorem os_ok{W:World}{C:List SymF}{R:List RowF}(hC:AllP (COk W) C)(hR:AllP (WOk W) R):SOk prog W W.heap.size (OS C R) where
 sym:=fun f args r hk ρ vals hd=>by
  obtain⟨us,v,h1,h2,h3⟩:=y7Y hC (show yCn C f args=some r from hk);have:=h1 ρ;rw[hd]at this;cases this;exact⟨v,h2 ρ,fun w hb _=>h3 w hb⟩
 row:=fun f cs r hk ρ us hd=>by
  obtain⟨us',v,h1,h2,h3⟩:=y7W hR (show lookW R f cs=some r from hk);have:=h1 ρ;rw[hd]at this;cases this;exact⟨v,h2 ρ,fun w hb _=>h3 w hb⟩
abbrev LenF:=Nat×At
def yA7:List LenF->Nat->Option At
 | [],_=>none
 | (i,r)::q,j=>match Nat.beq i j with|true=>some r|false=>yA7 q j
def LenOk(e:LenF):Prop:=∃b:ByteArray,Sym.v e.1=.string b/\∀ρ,e.2.den ρ=some (.int .i64 b.size)
theorem y7X:∀ {q:List LenF}{i:Nat}{r:At},AllP LenOk q->yA7 q i=some r->∃b:ByteArray,Sym.v i=.string b/\∀ρ,r.den ρ=some (.int .i64 b.size)
 | [],_,_,_,h=>by cases h
 | (j,r)::q,i,r',ha,h=>by
  simp only[yA7]at h;split at h
  . rename_i hb
    cases h;have h1:=Nat.eq_of_beq_eq_true hb;subst h1;exact ha.1
  . exact y7X ha.2 h
structure Told where
 b:List BinF:=[]
 i:List ByF:=[]
 s:List SliF:=[]
 v:List CvF:=[]
 l:List LenF:=[]
 c:List SymF:=[]
 w:List RowF:=[]
structure y1p (W:World) (T:Told):Prop where
 b:y1P T.b
 i:AllP ByOk T.i
 s:AllP y5u T.s
 l:AllP LenOk T.l
 c:AllP (COk W) T.c
 w:AllP (WOk W) T.w
 v:AllP CvOk T.v:=by trivial
abbrev yI9(T:Told):FactF:=factOr (yJr T.b) (factOr (factJ 9 T.i) (factOr (factS 9 T.s) (factV T.v)))
noncomputable def yDo(G:Addr->Option Value)(T:Told)(f:FuncId)(args:List V1):Option V2:=
 match y46 prog { xt with fact:=yI9 T,slen:=yA7 T.l } G (OS T.c T.w) 60 f args { heap:=[],next:=0 } with
 | some p=>some p.1
 | none=>none
noncomputable abbrev symEv:=yDo gk
theorem yGu{G:Addr->Option Value}{T:Told}{f:FuncId}{args:List V1}{vals:List Value}{r:V2}{w:World}(hG:GW w)(H5:GOk w w.heap.size G)(hT:y1p w T)(ha:dens1 (fun _=>none) args=some vals)(h:yDo G T f args=some r):
 Calls prog f vals.toArray w fun e w'=>(∃ρ val,e=.returned val/\r.den ρ=some val)/\Below w.heap.size w w':=by
 haveI:XOk prog { xt with fact:=yI9 T,slen:=yA7 T.l }:=
  yAn (fun i r h=>y7X hT.l h) (y1K (fun o a r h=>yBo hT.b o a r h) (y1K (yBn underlying9 hT.i) (y1K (yBm underlying9 hT.s) (yBl hT.v))))
 unfold yDo at h;split at h
 . rename_i p hp
   cases h;obtain⟨r,s'⟩:=p;refine Calls.mono (y1M (O:=OS T.c T.w) mixed 60 w w.heap.size H5 (fun f vs v hk=>ol_ok hG f vs v hk) (os_ok hT.c hT.w) f _ _ _ _ hp _ w vals (Go.Rf.start w) ha) fun e w' he=>?_
   obtain⟨val,ρ',rfl,hv,hs⟩:=he;exact⟨⟨ρ',val,rfl,hv⟩,hs.conc.below⟩
 . cases h
theorem yIy{T:Told}{f:FuncId}{args:List V1}{vals:List Value}{r:V2}{w:World}(hG:GW w)(hT:y1p w T)(ha:dens1 (fun _=>none) args=some vals)(h:symEv T f args=some r):
 Calls prog f vals.toArray w fun e w'=>(∃ρ val,e=.returned val/\r.den ρ=some val)/\Below w.heap.size w w':=yGu hG hG.gok hT ha h
theorem y0W{T:Told}{f:FuncId}{args:List V1}{vals:List Value}{r:V2}{v:Value}{w:World}(hG:GW w)(hT:y1p w T)(ha:dens1 (fun _=>none) args=some vals)(h:symEv T f args=some r)(hr:∀ρ,r.den ρ=some v):
 Calls prog f vals.toArray w fun e w'=>e=.returned v/\Below w.heap.size w w':=
 (yIy hG hT ha h).mono fun e w' ⟨⟨ρ,val,h1,h2⟩,hb⟩=>⟨by rw[h1,zF (h2.symm.trans (hr ρ))],hb⟩
theorem y3P{x y r:At}{a c:Int}{k:IntKind}(hx:∀ρ,x.den ρ=some (.int k a))(hy:∀ρ,y.den ρ=some (.int k c))(hr:∀ρ,r.den ρ=some (.int k (a+c)))(h:k.wrap (a+c)=a+c):BOk (.add,x,y,r):=
 ⟨_,_,_,hx,hy,hr,fun _ P w=>by simp[binOp,Op.intArith,h],(fun _ h=>by cases h),(fun h=>by cases h)⟩
theorem y4k{x y r:At}{a c:Int}{k:IntKind}(hx:∀ρ,x.den ρ=some (.int k a))(hy:∀ρ,y.den ρ=some (.int k c))(hr:∀ρ,r.den ρ=some (.int k (a-c)))(h:k.wrap (a-c)=a-c):BOk (.sub,x,y,r):=
 ⟨_,_,_,hx,hy,hr,fun _ P w=>by simp[binOp,Op.intArith,h],(fun _ h=>by cases h),(fun h=>by cases h)⟩
theorem yGX{x y:At}{v:Bool}{s t:ByteArray}(hx:∀ρ,x.den ρ=some (.string s))(hy:∀ρ,y.den ρ=some (.string t))(h:(s.data.toList==t.data.toList) = !v):BOk (.neq,x,y,.lit (.bool v)):=
 ⟨_,_,_,hx,hy,fun _=>rfl,fun _ P w=>by simp[binOp,Op.stringOp,Go.ByteArray.toList_eq,bne,h],(fun _ h=>nomatch h),(fun h=>nomatch h)⟩
def okS(v:Value):Prop:=v.cells=#[v]/\v.oneCell'=true/\∀b,v≠.bool b
theorem zV(k:IntKind)(n:Int):okS (.int k n):=⟨rfl,rfl,fun b h=>by cases h⟩
theorem zU(s:ByteArray):okS (.string s):=⟨rfl,rfl,fun b h=>by cases h⟩
def sgV(vs:List Value)(i:Nat):Value:=match vs[i]? with|some v=>v|none=>.int .i64 0
theorem yE8{vs:List Value}(h:AllP okS vs):∀i,okS (sgV vs i):=by
 induction vs with
 | nil=>intro i;exact zV _ _
 | cons v vs ih=>
  intro i;cases i with
  | zero=>exact h.1
  | succ i=>exact ih h.2 i
noncomputable abbrev sgL(vs:List Value)(h:AllP okS vs):Sym:=⟨sgV vs,fun i=>(yE8 h i).1,fun i=>(yE8 h i).2.1,fun i=>(yE8 h i).2.2⟩
abbrev lI(n:Nat):At:=.lit (.int .i64 n)
abbrev lB(b:Bool):At:=.lit (.bool b)
abbrev lS(l:List UInt8):At:=.lit (.string ⟨⟨l⟩⟩)
abbrev one1(a:At):V2:=.o (.a a)
theorem yAp{W:World}{cs:List At}{r:At}(xs:List ByteArray)(H8:∀ρ,dens ρ cs=some (xs.map .string))(hr:∀ρ,r.den ρ=some (.string ⟨(xs.map bl).flatten.toArray⟩))(hn:xs.length<=1000)(H7:(xs.map bl).flatten.length<=140737488355328):WOk W (111,cs,.o (.a r)):=by
 refine⟨_,_,H8,fun ρ=>hr ρ,fun w hb b o cap H9 H6 hx=>?_⟩;have H5:∀(j:Nat) x,xs[j]?=some x->w.cell? ⟨b,o+j,none⟩=some (.string x):=fun j x hj=>hx j _ (by rw[List.getElem?_map,hj];rfl)
 rw[List.length_map]at H6 ⊢;have k1:=Tryz.strings_Join b o cap xs ⟨#[]⟩ w H5 H9 (by omega) H6 (by show(Lib.join (xs.map bl) []).length<=_;rw[y1H];exact H7);have k1:Calls prog 189 #[.slice (some ⟨b,o,none⟩) xs.length cap,.string ⟨#[]⟩] w fun e w'=>e=.returned (.string ⟨(xs.map bl).flatten.toArray⟩)/\Below w.heap.size w w':=by
  have e:Lib.join (xs.map fun x=>x.data.toList) (⟨#[]⟩:ByteArray).data.toList=(xs.map bl).flatten:=y1H _;rw[e]at k1;exact k1
 generalize (xs.map bl).flatten=q at *;have K1:=z7 k1;clear k1;clear H5 hx H8 hr
 go_enter func111,ntmps111
 go_wp2_with (go_at_call 189;refine(K1.out).mono ?_;rintro e w1 ⟨rfl,Ha⟩)
 go_ret
 exact⟨rfl,Ha⟩
end
section
open Go.RowKit Go.Proofs.Tryz
def eolB(c:UInt8):Bool:=c==10 || c==13
def nxE(l:List UInt8)(a:Nat):Nat:=a+((l.drop a).takeWhile (fun c=>!eolB c)).length
def nxB(l:List UInt8)(e:Nat):Nat:=if e<l.length then(if l[e]?=some 13/\l[e+1]?=some 10 then e+2 else e+1)else e
theorem y0h(l:List UInt8)(k:Nat)(c:UInt8)(h:l[k]?=some c):l.drop k=c::l.drop (k+1):=by
 obtain⟨h1,h2⟩:=List.getElem?_eq_some_iff.1 h;rw[List.drop_eq_getElem_cons h1,h2]
theorem yBP(l:List UInt8)(e:Nat)(c:UInt8)(h:l[e]?=some c)(hc:eolB c=false):nxE l e=nxE l (e+1):=by
 unfold nxE;rw[y0h l e c h,List.takeWhile_cons,hc];simp;omega
theorem yBO(l:List UInt8)(e:Nat)(c:UInt8)(h:l[e]?=some c)(hc:eolB c=true):nxE l e=e:=by
 unfold nxE;rw[y0h l e c h,List.takeWhile_cons,hc];simp
theorem yJa(l:List UInt8):nxE l l.length=l.length:=by
 unfold nxE;rw[List.drop_length];rfl
theorem y20(l:List UInt8)(a:Nat):a<=nxE l a:=Nat.le_add_right _ _
theorem y2g(l:List UInt8)(a:Nat)(h:a<=l.length):nxE l a<=l.length:=by
 unfold nxE;have h1:=(List.takeWhile_sublist (fun c=>!eolB c) (l:=l.drop a)).length_le;rw[List.length_drop]at h1;omega
theorem y3C(l:List UInt8)(e:Nat):e<=nxB l e:=by unfold nxB;split<;>(try split)<;>omega
theorem nxB_gt(l:List UInt8)(e:Nat)(h:e<l.length):e<nxB l e:=by unfold nxB;rw[if_pos h];split<;>omega
theorem y41(l:List UInt8)(e:Nat)(h:e<=l.length):nxB l e<=l.length:=by
 unfold nxB;split
 . split
   . rename_i h1 h2
     have:=(List.getElem?_eq_some_iff.1 h2.2).1;omega
   . omega
 . exact h
def lnP(l:List UInt8):Nat->Nat->List (Nat×Nat×Nat)
 | 0,_=>[]
 | n+1,a=>if a<l.length then(a,nxE l a,nxB l (nxE l a))::lnP l n (nxB l (nxE l a))else []
def lnF(l:List UInt8)(a:Nat):List (Nat×Nat×Nat):=lnP l (l.length+1-a) a
theorem y5J(l:List UInt8)(a:Nat)(h:a<l.length):a<nxB l (nxE l a):=by
 have h1:=y20 l a;have h2:=y2g l a (by omega);by_cases h3:nxE l a<l.length
 . have:=nxB_gt l _ h3;omega
 . have:=y3C l (nxE l a);omega
theorem yBa(l:List UInt8):∀(n m a:Nat),l.length+1-a<=n->l.length+1-a<=m->lnP l n a=lnP l m a
 | 0,0,a,_,_=>rfl
 | 0,m+1,a,h1,_=>by rw[lnP,lnP,if_neg (by omega)]
 | n+1,0,a,_,h2=>by rw[lnP,lnP,if_neg (by omega)]
 | n+1,m+1,a,h1,h2=>by
  rw[lnP,lnP];split
  . rename_i h
    have:=y5J l a h;rw[yBa l n m _ (by omega) (by omega)]
  . rfl
theorem zq(l:List UInt8)(a:Nat)(h:a<l.length):lnF l a=(a,nxE l a,nxB l (nxE l a))::lnF l (nxB l (nxE l a)):=by
 have h1:=y5J l a h;unfold lnF;obtain⟨n,hn⟩:∃n,l.length+1-a=n+1:=⟨l.length-a,by omega⟩;rw[hn,lnP,if_pos h,yBa l n (l.length+1-nxB l (nxE l a)) _ (by omega) (by omega)]
theorem y0u(l:List UInt8)(a:Nat)(h:¬a<l.length):lnF l a = []:=by
 unfold lnF;cases hn:l.length+1-a with
 | zero=>rfl
 | succ n=>rw[lnP,if_neg h]
theorem y32(p:UInt8->Bool):∀(l:List UInt8) (k:Nat),k<(l.takeWhile p).length->∃c,l[k]?=some c/\p c=true
 | [],k,h=>by simp at h
 | c::l,k,h=>by
  rw[List.takeWhile_cons]at h;cases hc:p c with
  | false=>rw[hc]at h;simp at h
  | true=>
   rw[hc]at h;cases k with
   | zero=>exact⟨c,rfl,hc⟩
   | succ k=>simp at h;simpa using y32 p l k h
theorem y0T(p:UInt8->Bool):∀(l:List UInt8) (c:UInt8),l[(l.takeWhile p).length]?=some c->p c=false
 | [],c,h=>by simp at h
 | d::l,c,h=>by
  rw[List.takeWhile_cons]at h;cases hd:p d with
  | false=>rw[hd]at h;simp at h;subst h;exact hd
  | true=>rw[hd]at h;simp at h;exact y0T p l c h
def dgB(c:UInt8):Bool:=decide (48<=c.toNat)&&decide (c.toNat<=57)
def cpB(c:UInt8):Bool:=dgB c || (decide (65<=c.toNat)&&decide (c.toNat<=90))
def dgsL(l:List UInt8):Bool:=l.all dgB && !l.isEmpty
def cpsL(l:List UInt8):Bool:=l.all cpB && !l.isEmpty
def zW:List UInt8->List UInt8->Bool
 | [],[]=>true
 | c::l,f::g=>(if f=48 then dgB c else c==f)&&zW l g
 | _,_=>false
theorem y0Y:∀ {l g:List UInt8},zW l g=true->l.length=g.length
 | [],[],_=>rfl
 | c::l,f::g,h=>by
  simp only[zW,Bool.and_eq_true]at h;simp[y0Y h.2]
 | [],_::_,h=>by simp[zW]at h
 | _::_,[],h=>by simp[zW]at h
theorem y7a:∀ {l g:List UInt8},l.length≠g.length->zW l g=false:=fun {l g} h=>by
 cases hc:zW l g with
 | false=>rfl
 | true=>exact absurd (y0Y hc) h
theorem y44:∀(l1 g1 l2 g2:List UInt8),l1.length=g1.length->zW (l1++l2) (g1++g2)=(zW l1 g1&&zW l2 g2)
 | [],[],l2,g2,_=>by simp[zW]
 | c::l1,f::g1,l2,g2,h=>by
  simp only[List.cons_append,zW];rw[y44 l1 g1 l2 g2 (by simpa using h),Bool.and_assoc]
 | [],_::_,_,_,h=>by simp at h
 | _::_,[],_,_,h=>by simp at h
def blB(c:UInt8):Bool:=c==32 || c==9
def azB(c:UInt8):Bool:=decide (65<=c.toNat)&&decide (c.toNat<=90)
def wdI(l:List UInt8):Nat:=(l.takeWhile blB).length
def wdJ(l:List UInt8):Nat:=wdI l+((l.drop (wdI l)).takeWhile azB).length
def wdW(l:List UInt8):List UInt8:=(l.drop (wdI l)).take (wdJ l-wdI l)
def y0z(l:List UInt8):Bool:=if l.contains 34 then decide (2<=l.length)&&(l.head?==some 34)&&(l.getLast?==some 34) && !((l.drop 1).take (l.length-2)).contains 34 else !l.isEmpty
def valR(l:List UInt8):Bool:=(l.count 34==0 && !l.isEmpty) || (l.count 34==2&&l.head?==some 34&&l.getLast?==some 34)
def y0F(l:List UInt8):Bool:=match l with
 | []=>false
 | c::r=>cpB c&&r.all (fun c=>c==32 || cpB c)
def y62(l:List UInt8):Option Nat:=(List.range l.length).reverse.find? fun k=>l[k]?==some 32
theorem y1k(p:UInt8->Bool):∀(l:List UInt8) (k:Nat),(l.take k).all p=true->k<=l.length->(∀c,l[k]?=some c->p c=false)->(l.takeWhile p).length=k
 | [],k,_,hk,_=>by simp at hk;subst hk;rfl
 | c::l,0,_,_,hn=>by
  rw[List.takeWhile_cons,hn c rfl];rfl
 | c::l,k+1,ha,hk,hn=>by
  simp only[List.take_succ_cons,List.all_cons,Bool.and_eq_true]at ha;rw[List.takeWhile_cons,ha.1];simp only[if_true,List.length_cons];rw[y1k p l k ha.2 (by simpa using hk) fun c hc=>hn c (by simpa using hc)]
theorem zr(p:UInt8->Bool)(l:List UInt8)(k:Nat)(x:UInt8)(hx:l[k]?=some x)(ha:(l.take k).all p=true):(p x=true->(l.take (k+1)).all p=true)/\(p x=false->l.all p=false):=by
 refine⟨fun h=>?_,fun h=>?_⟩
 . rw[List.take_add_one,hx,List.all_append,ha]
   simp[h]
 . have hm:=List.mem_of_getElem? hx
   cases hc:l.all p with
   | false=>rfl
   | true=>rw[List.all_eq_true.1 hc x hm]at h;cases h
theorem y5s(p:UInt8->Bool)(l:List UInt8)(k:Nat)(hk:l.length<=k)(ha:(l.take k).all p=true):l.all p=true:=by rwa [List.take_of_length_le hk]at ha
theorem y8j:∀(l g:List UInt8),l.length=g.length->zW l g=(List.range l.length).all fun k=>match l[k]?,g[k]? with|some c,some f=>if f=48 then dgB c else c==f|_,_=>true
 | [],[],_=>rfl
 | c::l,f::g,h=>by
  rw[zW,y8j l g (by simpa using h),List.length_cons,List.range_succ_eq_map,List.all_cons,List.all_map];rfl
 | [],_::_,h=>by simp at h
 | _::_,[],h=>by simp at h
theorem y3W(q:Nat->Bool)(n k:Nat)(hk:k<n)(ha:(List.range k).all q=true):(q k=true->(List.range (k+1)).all q=true)/\(q k=false->(List.range n).all q=false):=by
 refine⟨fun h=>?_,fun h=>?_⟩
 . rw[List.range_succ,List.all_append,ha];simp[h]
 . cases hc:(List.range n).all q with
   | false=>rfl
   | true=>rw[List.all_eq_true.1 hc k (List.mem_range.2 hk)]at h;cases h
theorem y0U(l:List UInt8)(x:UInt8):l.contains x = !(l.count x==0):=by
 cases h:l.contains x with
 | false=>
  have:¬x∈l:=fun hm=>by rw[List.contains_iff_mem.2 hm]at h;cases h
  rw[List.count_eq_zero.2 this];rfl
 | true=>
  have:=List.count_pos_iff.2 (List.contains_iff_mem.1 h);have hn:(l.count x==0)=false:=by rw[Y2];omega
  rw[hn];rfl
theorem y6p(l:List UInt8):y0z l=valR l:=by
 unfold y0z valR;rw[y0U];by_cases h0:l.count 34=0
 . simp[h0]
 . have hb:(l.count 34==0)=false:=by rw[Y2];exact h0
   simp only[hb,Bool.not_false,if_true,Bool.false_and,Bool.false_or]
   match l,h0 with
   | [],h0=>simp at h0
   | [x],h0=>
    have:List.count 34 [x]<=1:=List.count_le_length;have h2:(List.count 34 [x]==2)=false:=by rw[Y2];omega
    rw[h2];simp
   | x::y::r,h0=>
    obtain⟨m,z,hm⟩:∃m z,y::r=m ++ [z]:=⟨(y::r).dropLast,(y::r).getLast (by simp),(List.dropLast_concat_getLast (by simp)).symm⟩;rw[hm];have e1:((x::(m ++ [z])).drop 1).take ((x::(m ++ [z])).length-2)=m:=by simp
    have e2:(x::(m ++ [z])).getLast?=some z:=by simp[List.getLast?_cons,List.getLast?_append]
    have e3:decide (2<=(x::(m ++ [z])).length)=true:=by simp
    rw[e1,e2,e3,y0U];by_cases hx:x=34
    . by_cases hz:z=34
      . subst hx;subst hz
        have e4:List.count 34 (34::(m ++ [34]))=m.count 34+2:=by simp[List.count_cons,List.count_append]
        rw[e4];by_cases hc:m.count 34=0
        . simp[hc]
        . have h5:(m.count 34==0)=false:=by rw[Y2];exact hc
          have h6:(m.count 34+2==2)=false:=by rw[Y2];omega
          simp[h5,h6]
      . have:(some z==some (34:UInt8))=false:=by simpa using hz
        simp[this]
    . have:((x::(m ++ [z])).head?==some (34:UInt8))=false:=by simpa using hx
      simp only[this,Bool.and_false,Bool.false_and]
def fB(l:List UInt8)(n:Nat):Option Nat:=(List.range n).reverse.find? fun k=>l[k]?==some 32
theorem yJs(l:List UInt8):fB l 0=none:=rfl
theorem yAO(l:List UInt8)(n:Nat):fB l (n+1)=if l[n]?=some 32 then some n else fB l n:=by
 unfold fB;rw[List.range_succ,List.reverse_append,List.reverse_singleton,List.singleton_append,List.find?_cons];by_cases h:l[n]?=some 32
 . rw[if_pos h,h];rfl
 . rw[if_neg h]
   have:(l[n]?==some (32:UInt8))=false:=by simpa using h
   rw[this]
theorem yJt(l:List UInt8):∀(n k:Nat),fB l n=some k->k<n
 | 0,k,h=>by cases h
 | n+1,k,h=>by
  rw[yAO]at h;split at h
  . cases h;omega
  . have:=yJt l n k h;omega
theorem y3d(s:ByteArray):∀n,n<=s.size->Lib.lastIdx s 32 n=(match fB (bl s) n with|some k=>(k:Int)|none=>-1)
 | 0,_=>rfl
 | n+1,h=>by
  have hn:n<s.data.size:=h;have e:s.data[n]! = s.data[n]:=getElem!_pos s.data n hn;have g:(bl s)[n]?=some s.data[n]:=by
   show s.data.toList[n]?=_;rw[Array.getElem?_toList,Array.getElem?_eq_getElem hn]
  rw[Lib.lastIdx,yAO,g,e,y3d s n (by omega)];have hk:((s.data[n].toNat:Int)=32)↔(some s.data[n]=some (32:UInt8)):=by
   rw[Option.some.injEq,<-UInt8.toNat_inj];show _↔s.data[n].toNat=32;omega
  by_cases h2:some s.data[n]=some (32:UInt8)
  . rw[if_pos h2,if_pos (hk.2 h2)]
  . rw[if_neg h2,if_neg (fun x=>h2 (hk.1 x))]
def remL:List UInt8:=[82,69,77]
def titL:List UInt8:=[84,73,84,76,69]
def perL:List UInt8:=[80,69,82,70,79,82,77,69,82]
def sonL:List UInt8:=[83,79,78,71,87,82,73,84,69,82]
def filL:List UInt8:=[70,73,76,69]
def traL:List UInt8:=[84,82,65,67,75]
def indL:List UInt8:=[73,78,68,69,88]
def preL:List UInt8:=[80,82,69,71,65,80]
def posL:List UInt8:=[80,79,83,84,71,65,80]
def catL:List UInt8:=[67,65,84,65,76,79,71]
def isrL:List UInt8:=[73,83,82,67]
def flaL:List UInt8:=[70,76,65,71,83]
def momL:List UInt8:=[48,48,58,48,48,58,48,48]
def nnL:List UInt8:=[48,48]
def numb(p:List UInt8->Bool)(l:List UInt8):Bool:=decide (2<l.length)&&zW (l.take 2) nnL&&(l[2]?==some 32)&&p (l.drop 3)
def y4t(l:List UInt8):Bool:=decide (4<=l.length)&&zW (l.take 3) [48,48,32]&&cpsL (l.drop 3)
def yFW(l:List UInt8):Bool:=zW l ([48,48,32]++momL)
theorem like3(l:List UInt8)(h:2<l.length):zW (l.take 3) [48,48,32]=(zW (l.take 2) nnL&&(l[2]?==some 32)):=by
 match l,h with
 | a::b::c::r,_=>simp[zW,nnL,Bool.and_assoc]
 | [],h=>simp at h
 | [_],h=>simp at h
 | [_,_],h=>simp at h
theorem yGs(l:List UInt8):y4t l=numb cpsL l:=by
 unfold y4t numb;by_cases h:2<l.length
 . rw[like3 l h]
   by_cases h4:4<=l.length
   . simp[h,h4,Bool.and_assoc]
   . have:l.drop 3 = []:=List.drop_eq_nil_of_le (by omega)
     rw[this];simp[cpsL]
 . have h4:¬4<=l.length:=by omega
   simp[h,h4]
theorem yHz(l:List UInt8):yFW l=numb (fun x=>zW x momL) l:=by
 unfold yFW numb;by_cases h:2<l.length
 . have e:l=l.take 3++l.drop 3:=(List.take_append_drop 3 l).symm
   have hl:(l.take 3).length=3:=by rw[List.length_take];omega
   rw[show zW l ([48,48,32]++momL)=zW (l.take 3++l.drop 3) ([48,48,32]++momL) by rw[<-e],y44 _ _ _ _ (by rw[hl];rfl),like3 l h];simp[h]
 . rw[y7a (by intro hc;have:([48,48,32]++momL).length=11:=rfl;omega)]
   simp[h]
def y3y(w rest:List UInt8):Bool:=
 if w=remL then true
 else if w=titL\/w=perL\/w=sonL then y0z rest
 else if w=filL then(match y62 rest with|none=>false|some k=>cpsL (rest.drop (k+1))&&y0z (rest.take k))
 else if w=traL then numb cpsL rest
 else if w=indL then numb (fun x=>zW x momL) rest
 else if w=preL\/w=posL then zW rest momL
 else if w=catL\/w=isrL\/w=flaL then y0F rest
 else false
def y3O(l:List UInt8):Bool:=
 if wdI l=l.length then true
 else if wdJ l=l.length then wdW l==remL
 else if l[wdJ l]?≠some 32 then false
 else y3y (wdW l) (l.drop (wdJ l+1))
theorem yDV(l:List UInt8):wdI l<=l.length:=(List.takeWhile_sublist blB).length_le
theorem yAq(l:List UInt8):wdI l<=wdJ l:=Nat.le_add_right _ _
theorem y4p(l:List UInt8):wdJ l<=l.length:=by
 unfold wdJ;have h1:=(List.takeWhile_sublist azB (l:=l.drop (wdI l))).length_le;have h2:=yDV l;rw[List.length_drop]at h1;omega
theorem y6a(l:List UInt8)(h:wdI l=wdJ l):y3O l=decide (wdJ l=l.length):=by
 unfold y3O;rw[<-h];by_cases hi:wdI l=l.length
 . simp[hi]
 . rw[if_neg hi,if_neg hi]
   have H5:wdI l<l.length:=by have:=yDV l;omega
   have hn:l[wdI l]?≠some 32:=by
    intro hc;have:=y0T blB l 32 hc;exact absurd this (by decide)
   rw[if_pos hn];simp[hi]
theorem y6Z(l:List UInt8)(h:wdI l≠wdJ l):y3O l=if wdJ l=l.length then wdW l==remL else if l[wdJ l]?≠some 32 then false else y3y (wdW l) (l.drop (wdJ l+1)):=by
 unfold y3O;have h1:=yAq l;have h2:=y4p l;rw[if_neg (by omega)]
def timL:List UInt8:=[48,48,58,48,48,58,48,48,44,48,48,48,32,45,45,62,32,48,48,58,48,48,58,48,48,44,48,48,48]
def y3c(l:List UInt8):Int×Int:=if Lib.hasPrefix l [239,187,191]=true then(7,3)else if Lib.hasPrefix l [255,254]=true then(8,2)else if Lib.hasPrefix l [254,255]=true then(9,2)else(0,0)
theorem yBV(b:ByteArray)(w:World):Calls prog 105 #[.string b] w fun e w'=>e=.returned (.tuple #[.int .i64 (y3c (bl b)).1,.int .i64 (y3c (bl b)).2])/\w=w':=by
 have k1:∀w,Calls prog 82 #[.string b,.string ⟨#[239,187,191]⟩] w fun e w'=>e=.returned (.bool (Lib.hasPrefix (bl b) [239,187,191]))/\w'=w:=fun w=>Tryz.strings_HasPrefix b ⟨#[239,187,191]⟩ w
 have k2:∀w,Calls prog 82 #[.string b,.string ⟨#[255,254]⟩] w fun e w'=>e=.returned (.bool (Lib.hasPrefix (bl b) [255,254]))/\w'=w:=fun w=>Tryz.strings_HasPrefix b ⟨#[255,254]⟩ w
 have k3:∀w,Calls prog 82 #[.string b,.string ⟨#[254,255]⟩] w fun e w'=>e=.returned (.bool (Lib.hasPrefix (bl b) [254,255]))/\w'=w:=fun w=>Tryz.strings_HasPrefix b ⟨#[254,255]⟩ w
 unfold y3c;generalize Lib.hasPrefix (bl b) [239,187,191]=a1 at *;generalize Lib.hasPrefix (bl b) [255,254]=a2 at *;generalize Lib.hasPrefix (bl b) [254,255]=a3 at *;have K1:=z7 k1;have K2:=z7 k2;have K3:=z7 k3;clear k1 k2 k3;cases a1<;>cases a2<;>cases a3
 all_goals (
  go_enter func105,ntmps105
  go_wp2_with (first
   | (go_at_call 82;(with_reducible refine(K1.out _).mono ?_);rintro e w1 ⟨rfl,rfl⟩)
   | (go_at_call 82;(with_reducible refine(K2.out _).mono ?_);rintro e w1 ⟨rfl,rfl⟩)
   | (go_at_call 82;(with_reducible refine(K3.out _).mono ?_);rintro e w1 ⟨rfl,rfl⟩))
  go_ret2
  exact⟨rfl,rfl⟩)
theorem y7V(x y:UInt8)(r:List UInt8):y3c (x::y::r)=if x=239/\y=187/\r.head?=some 191 then(7,3)else if x=255/\y=254 then(8,2)else if x=254/\y=255 then(9,2)else(0,0):=by
 unfold y3c Lib.hasPrefix;cases r with
 | nil=>simp[Bool.and_eq_true,@eq_comm UInt8 239 x,@eq_comm UInt8 255 x,@eq_comm UInt8 254 x,@eq_comm UInt8 187 y,@eq_comm UInt8 255 y,@eq_comm UInt8 254 y]
 | cons z r=>simp[Bool.and_eq_true,@eq_comm UInt8 239 x,@eq_comm UInt8 255 x,@eq_comm UInt8 254 x,@eq_comm UInt8 187 y,@eq_comm UInt8 255 y,@eq_comm UInt8 254 y,@eq_comm UInt8 191 z]
end
open Go Go.Rf Go.RowKit Go.Proofs.Tryz
theorem y3j(b:ByteArray)(l h:Nat)(hl:l<=h)(hb:h<=b.size):(b.extract l h).data.toList=((bl b).drop l).take (h-l):=by
 rw[extract_bytes b l h hl hb]
theorem y3k(b:ByteArray)(n:Nat)(h:n<=b.size):b.extract n b.size=⟨((bl b).drop n).toArray⟩:=by
 rw[extract_bytes b n b.size h zA]
 congr 2
 exact List.take_of_length_le (by rw[List.length_drop];show(bl b).length-n<=_;rw[zJ];exact zA)
