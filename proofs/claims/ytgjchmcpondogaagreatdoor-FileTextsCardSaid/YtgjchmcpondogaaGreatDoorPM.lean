/- PM -/
import Derived.Test.YtgjchmcpondogaaGreatDoorPL
set_option linter.all false
set_option maxRecDepth 100000
set_option maxHeartbeats 40000000
namespace Go.Proofs.YtgjchmcpondogaaGreatDoor
open Go Go.Rf Go.RowKit Go.Proofs.Tryz
abbrev SliF:=At×Option At×Option At×At
def yIS:Option At→Option At→Bool
 | none,none=>true
 | some a,some b=>sameA a b
 | _,_=>false
theorem yAc:∀ {a b:Option At},yIS a b=true→a=b
 | none,none,_=>rfl
 | some a,some b,h=>by rw[y0b (show sameA a b=true from h)]
 | none,some _,h=>by cases h
 | some _,none,h=>by cases h
def yCG:List SliF→At→Option At→Option At→Option At
 | [],_,_,_=>none
 | (x,l,h,r)::q,u,i,j=>match sameA x u&&yIS l i&&yIS h j with
  | true=>some r
  | false=>yCG q u i j
def yCK:Option At→Option V2
 | some r=>some (.o (.a r))
 | none=>none
def factS(t0:TypeId)(q:List SliF):FactF
 | .slice t _ lo hi mx,args=>match Nat.beq t t0 with
  | true=>(match lo,hi,mx,args with
   | some _,none,none,[.o (.a x),.o (.a l)]=>yCK (yCG q x (some l) none)
   | none,some _,none,[.o (.a x),.o (.a h)]=>yCK (yCG q x none (some h))
   | some _,some _,none,[.o (.a x),.o (.a l),.o (.a h)]=>yCK (yCG q x (some l) (some h))
   | _,_,_,_=>none)
  | false=>none
 | _,_=>none
abbrev ByF:=At×At×At
def yH8:List ByF→At→At→Option At
 | [],_,_=>none
 | (x,i,r)::q,u,j=>match sameA x u&&sameA i j with
  | true=>some r
  | false=>yH8 q u j
def factJ(t0:TypeId)(q:List ByF):FactF
 | .index t _ _,[.o (.a x),.o (.a i)]=>match Nat.beq t t0 with
  | true=>yCK (yH8 q x i)
  | false=>none
 | _,_=>none
abbrev CvF:=Nat×Nat×At×At
def yH7:List CvF→Nat→Nat→At→Option At
 | [],_,_,_=>none
 | (t,u,x,r)::q,a,b,y=>match Nat.beq t a&&Nat.beq u b&&sameA x y with
  | true=>some r
  | false=>yH7 q a b y
def factV(q:List CvF):FactF
 | .convert a b _,[.o (.a y)]=>yCK (yH7 q a b y)
 | _,_=>none
abbrev SymF:=Nat×List V1×V2
def yCH:List SymF→FuncId→List V1→Option V2
 | [],_,_=>none
 | (g,ys,r)::q,f,xs=>match Nat.beq g f with
  | true=>(match y3k ys xs with|true=>some r|false=>yCH q f xs)
  | false=>yCH q f xs
abbrev RowF:=Nat×List At×V2
def lookW:List RowF→FuncId→List At→Option V2
 | [],_,_=>none
 | (g,ys,r)::q,f,xs=>match Nat.beq g f with
  | true=>(match y6x ys xs with|true=>some r|false=>lookW q f xs)
  | false=>lookW q f xs
def AllP{α:Type}(p:α→Prop):List α→Prop
 | []=>True
 | e::l=>p e∧AllP p l
variable [Sym]
def yHj(d:Nat):Option At→Nat→Prop
 | none,n=>n=d
 | some a,n=>∃k:IntKind,∀ρ,a.den ρ=some (.int k (n:Int))
def y43(e:SliF):Prop:=∃(b:ByteArray) (l h:Nat),(∀ρ,e.1.den ρ=some (.string b))∧yHj 0 e.2.1 l∧yHj b.size e.2.2.1 h∧l≤h∧h≤b.size∧∀ρ,e.2.2.2.den ρ=some (.string (b.extract l h))
theorem y4L:∀ {q:List SliF}{u:At}{i j:Option At}{r:At},AllP y43 q→yCG q u i j=some r→y43 (u,i,j,r)
 | [],_,_,_,_,_,h=>by cases h
 | (x,l,hh,r)::q,u,i,j,r',ha,h=>by
  simp only[yCG]at h;split at h
  · rename_i hb
    simp only[Bool.and_eq_true]at hb;cases h;have h1:=y0b hb.1.1;have h2:=yAc hb.1.2;have h3:=yAc hb.2;subst h1;subst h2;subst h3;exact ha.1
  · exact y4L ha.2 h
theorem y1E{o:Option At}{r:V2}(h:yCK o=some r):∃a,o=some a∧r=.o (.a a):=by
 cases o with
 | none=>cases h
 | some a=>cases h;exact⟨a,rfl,rfl⟩
theorem yBJ{t0:TypeId}{q:List SliF}(ht:Tryz.prog.underlying t0=some .string)(hl:AllP y43 q):FOk prog (factS t0 q):=by
 intro o args r h;unfold factS at h;split at h
 · rename_i t xo lo hi mx
   split at h
   · rename_i hb
     obtain rfl:=Nat.eq_of_beq_eq_true hb;have hu:∀w:World,(underlying t).run prog w=.ok .string w:=fun w=>by simp[underlying,ht]
     split at h
     · rename_i lo x l
       obtain⟨a,ha,rfl⟩:=y1E h;obtain⟨b,l',h',d1,⟨k,d2⟩,d3,H6,H7,d4⟩:=y4L hl ha;simp only[yHj]at d3;subst d3;refine⟨_,d4,fun o' ev val ho H5 hv w=>?_⟩;simp only[Op.operands,Option.toArray_some,Option.toArray_none,Array.append_empty,Array.toList_append,List.map_append,List.map_cons,List.map_nil,List.cons_append,List.nil_append,List.cons.injEq,and_true]at H5;obtain⟨e1,e2⟩:=H5;obtain⟨ρ1,v1⟩:=hv xo (by simp[Op.operands]);obtain⟨ρ2,v2⟩:=hv lo (by simp[Op.operands]);rw[e1]at v1;rw[e2]at v2;have w1:val xo=.string b:=zF (v1.symm.trans (d1 ρ1));have w2:val lo=.int k (l':Int):=zF (v2.symm.trans (d2 ρ2));obtain⟨dst,op',ty,pos,after,guard⟩:=o';simp only at ho;subst ho;simp[execOp,Instr.sliceAt,Instr.slice,hu,w1,w2,Instr.sliceBounds,Instr.sliceBound,asIntOf,H6,H7]
     · rename_i hi x l
       obtain⟨a,ha,rfl⟩:=y1E h;obtain⟨b,l',h',d1,d3,⟨k,d2⟩,H6,H7,d4⟩:=y4L hl ha;simp only[yHj]at d3;subst d3;refine⟨_,d4,fun o' ev val ho H5 hv w=>?_⟩;simp only[Op.operands,Option.toArray_some,Option.toArray_none,Array.append_empty,Array.toList_append,List.map_append,List.map_cons,List.map_nil,List.cons_append,List.nil_append,List.cons.injEq,and_true]at H5;obtain⟨e1,e2⟩:=H5;obtain⟨ρ1,v1⟩:=hv xo (by simp[Op.operands]);obtain⟨ρ2,v2⟩:=hv hi (by simp[Op.operands]);rw[e1]at v1;rw[e2]at v2;have w1:val xo=.string b:=zF (v1.symm.trans (d1 ρ1));have w2:val hi=.int k (h':Int):=zF (v2.symm.trans (d2 ρ2));obtain⟨dst,op',ty,pos,after,guard⟩:=o';simp only at ho;subst ho;simp[execOp,Instr.sliceAt,Instr.slice,hu,w1,w2,Instr.sliceBounds,Instr.sliceBound,asIntOf,H6,H7]
     · rename_i lo hi x l y
       obtain⟨a,ha,rfl⟩:=y1E h;obtain⟨b,l',h',d1,⟨k,d2⟩,⟨k2,d3⟩,H6,H7,d4⟩:=y4L hl ha;refine⟨_,d4,fun o' ev val ho H5 hv w=>?_⟩;simp only[Op.operands,Option.toArray_some,Option.toArray_none,Array.append_empty,Array.toList_append,List.map_append,List.map_cons,List.map_nil,List.cons_append,List.nil_append,List.cons.injEq,and_true]at H5;obtain⟨e1,e2,e3⟩:=H5;obtain⟨ρ1,v1⟩:=hv xo (by simp[Op.operands]);obtain⟨ρ2,v2⟩:=hv lo (by simp[Op.operands]);obtain⟨ρ3,v3⟩:=hv hi (by simp[Op.operands]);rw[e1]at v1;rw[e2]at v2;rw[e3]at v3;have w1:val xo=.string b:=zF (v1.symm.trans (d1 ρ1));have w2:val lo=.int k (l':Int):=zF (v2.symm.trans (d2 ρ2));have w3:val hi=.int k2 (h':Int):=zF (v3.symm.trans (d3 ρ3));obtain⟨dst,op',ty,pos,after,guard⟩:=o';simp only at ho;subst ho;simp[execOp,Instr.sliceAt,Instr.slice,hu,w1,w2,w3,Instr.sliceBounds,Instr.sliceBound,asIntOf,H6,H7]
     · cases h
   · cases h
 · cases h
def ByOk(e:ByF):Prop:=∃(b:ByteArray) (i:Nat) (k:IntKind),(∀ρ,e.1.den ρ=some (.string b))∧(∀ρ,e.2.1.den ρ=some (.int k (i:Int)))∧∃h:i<b.size,∀ρ,e.2.2.den ρ=some (.int .u8 ((b[i]'h).toNat:Int))
theorem yB3:∀ {q:List ByF}{u j r:At},AllP ByOk q→yH8 q u j=some r→ByOk (u,j,r)
 | [],_,_,_,_,h=>by cases h
 | (x,i,r)::q,u,j,r',ha,h=>by
  simp only[yH8]at h;split at h
  · rename_i hb
    simp only[Bool.and_eq_true]at hb;cases h;have h1:=y0b hb.1;have h2:=y0b hb.2;subst h1;subst h2;exact ha.1
  · exact yB3 ha.2 h
theorem yBK{t0:TypeId}{q:List ByF}(ht:Tryz.prog.underlying t0=some .string)(hl:AllP ByOk q):FOk prog (factJ t0 q):=by
 intro o args r h;unfold factJ at h;split at h
 · rename_i t xo io x i
   split at h
   · rename_i hb
     obtain rfl:=Nat.eq_of_beq_eq_true hb;obtain⟨a,ha,rfl⟩:=y1E h;obtain⟨b,n,k,d1,d3,H6,d2⟩:=yB3 hl ha;simp only at d1 d3 d2 H6;refine⟨_,d2,fun o' ev val ho H5 hv w=>?_⟩;simp only[Op.operands,List.map_cons,List.map_nil,List.cons.injEq,and_true]at H5;obtain⟨e1,e2⟩:=H5;obtain⟨ρ1,v1⟩:=hv xo (by simp[Op.operands]);obtain⟨ρ2,v2⟩:=hv io (by simp[Op.operands]);rw[e1]at v1;rw[e2]at v2;have w1:val xo=.string b:=zF (v1.symm.trans (d1 ρ1));have w2:val io=.int k (n:Int):=zF (v2.symm.trans (d3 ρ2));obtain⟨dst,op',ty,pos,after,guard⟩:=o';simp only at ho;subst ho;have hu:(underlying t).run prog w=.ok .string w:=by simp[underlying,ht]
     simp[execOp,Instr.index,hu,w1,w2,asIntOf,H6]
   · cases h
 · cases h
def CvOk(e:CvF):Prop:=∃v z:Value,(∀ρ,e.2.2.1.den ρ=some v)∧(∀ρ,e.2.2.2.den ρ=some z)∧∀w:World,(convert e.1 e.2.1 v).run prog w=.ok z w
theorem yB2:∀ {q:List CvF}{a b:Nat}{y r:At},AllP CvOk q→yH7 q a b y=some r→CvOk (a,b,y,r)
 | [],_,_,_,_,_,h=>by cases h
 | (t,u,x,r)::q,a,b,y,r',ha,h=>by
  simp only[yH7]at h;split at h
  · rename_i hb
    simp only[Bool.and_eq_true]at hb;cases h;have h1:=Nat.eq_of_beq_eq_true hb.1.1;have h2:=Nat.eq_of_beq_eq_true hb.1.2;have h3:=y0b hb.2;subst h1;subst h2;subst h3;exact ha.1
  · exact yB2 ha.2 h
theorem yBI{q:List CvF}(hl:AllP CvOk q):FOk prog (factV q):=by
 intro o args r h;unfold factV at h;split at h
 · rename_i a b xo y
   obtain⟨x,hx,rfl⟩:=y1E h;obtain⟨v,z,hd,hr,hc⟩:=yB2 hl hx;simp only at hd hr hc;refine⟨_,hr,fun o' ev val ho H5 hv w=>?_⟩;simp only[Op.operands,List.map_cons,List.map_nil,List.cons.injEq,and_true]at H5;obtain⟨ρ1,v1⟩:=hv xo (by simp[Op.operands]);rw[H5]at v1;have w1:val xo=v:=zF (v1.symm.trans (hd ρ1));obtain⟨dst,op',ty,pos,after,guard⟩:=o';simp only at ho;subst ho;simp[execOp,w1,hc]
 · cases h
def COk(W:World)(e:SymF):Prop:=∃vals v,(∀ρ,dens1 ρ e.2.1=some vals)∧(∀ρ,e.2.2.den ρ=some v)∧∀w,Below W.heap.size W w→Calls prog e.1 vals.toArray w fun en w'=>en=.returned v∧Below w.heap.size w w'
theorem y7H{W:World}:∀ {q:List SymF}{f:FuncId}{xs:List V1}{r:V2},AllP (COk W) q→yCH q f xs=some r→COk W (f,xs,r)
 | [],_,_,_,_,h=>by cases h
 | (g,ys,r)::q,f,xs,r',ha,h=>by
  simp only[yCH]at h;split at h
  · rename_i hg
    split at h
    · rename_i hs
      cases h;have h1:=Nat.eq_of_beq_eq_true hg;have h2:=y32 hs;subst h1;subst h2;exact ha.1
    · exact y7H ha.2 h
  · exact y7H ha.2 h
def WOk(W:World)(e:RowF):Prop:=∃us v,(∀ρ,dens ρ e.2.1=some us)∧(∀ρ,e.2.2.den ρ=some v)∧∀w,Below W.heap.size W w→∀b o cap,b<w.heap.size→us.length≤cap→(∀(i:Nat) u,us[i]?=some u→w.cell? ⟨b,o+i,none⟩=some u) →
 Calls prog e.1 #[.slice (some ⟨b,o,none⟩) us.length cap] w fun en w'=>en=.returned v∧Below w.heap.size w w'
theorem y7F{W:World}:∀ {q:List RowF}{f:FuncId}{xs:List At}{r:V2},AllP (WOk W) q→lookW q f xs=some r→WOk W (f,xs,r)
 | [],_,_,_,_,h=>by cases h
 | (g,ys,r)::q,f,xs,r',ha,h=>by
  simp only[lookW]at h;split at h
  · rename_i hg
    split at h
    · rename_i hs
      cases h;have h1:=Nat.eq_of_beq_eq_true hg;have h2:=y31 hs;subst h1;subst h2;exact ha.1
    · exact y7F ha.2 h
  · exact y7F ha.2 h
noncomputable abbrev OS(C:List SymF)(R:List RowF):Oracle:={ O9 with sym:=yCH C,row:=lookW R }
theorem os_ok{W:World}{C:List SymF}{R:List RowF}(hC:AllP (COk W) C)(hR:AllP (WOk W) R):SOk prog W W.heap.size (OS C R) where
 sym:=fun f args r hk ρ vals hd=>by
  obtain⟨us,v,h1,h2,h3⟩:=y7H hC (show yCH C f args=some r from hk);have:=h1 ρ;rw[hd]at this;cases this;exact⟨v,h2 ρ,fun w hb _=>h3 w hb⟩
 row:=fun f cs r hk ρ us hd=>by
  obtain⟨us',v,h1,h2,h3⟩:=y7F hR (show lookW R f cs=some r from hk);have:=h1 ρ;rw[hd]at this;cases this;exact⟨v,h2 ρ,fun w hb _=>h3 w hb⟩
abbrev LenF:=Nat×At
def y9i:List LenF→Nat→Option At
 | [],_=>none
 | (i,r)::q,j=>match Nat.beq i j with|true=>some r|false=>y9i q j
def LenOk(e:LenF):Prop:=∃b:ByteArray,Sym.v e.1=.string b∧∀ρ,e.2.den ρ=some (.int .i64 b.size)
theorem y7G:∀ {q:List LenF}{i:Nat}{r:At},AllP LenOk q→y9i q i=some r→∃b:ByteArray,Sym.v i=.string b∧∀ρ,r.den ρ=some (.int .i64 b.size)
 | [],_,_,_,h=>by cases h
 | (j,r)::q,i,r',ha,h=>by
  simp only[y9i]at h;split at h
  · rename_i hb
    cases h;have h1:=Nat.eq_of_beq_eq_true hb;subst h1;exact ha.1
  · exact y7G ha.2 h
structure Told where
 b:List BinF:=[]
 i:List ByF:=[]
 s:List SliF:=[]
 v:List CvF:=[]
 l:List LenF:=[]
 c:List SymF:=[]
 w:List RowF:=[]
structure y1n (W:World) (T:Told):Prop where
 b:y1N T.b
 i:AllP ByOk T.i
 s:AllP y43 T.s
 l:AllP LenOk T.l
 c:AllP (COk W) T.c
 w:AllP (WOk W) T.w
 v:AllP CvOk T.v:=by trivial
abbrev yHT(T:Told):FactF:=factOr (yJ5 T.b) (factOr (factJ 9 T.i) (factOr (factS 9 T.s) (factV T.v)))
noncomputable def yDK(G:Addr→Option Value)(T:Told)(f:FuncId)(args:List V1):Option V2:=
 match y3t prog { xt with fact:=yHT T,slen:=y9i T.l } G (OS T.c T.w) 60 f args { heap:=[],next:=0 } with
 | some p=>some p.1
 | none=>none
noncomputable abbrev symEv:=yDK gk
theorem yGF{G:Addr→Option Value}{T:Told}{f:FuncId}{args:List V1}{vals:List Value}{r:V2}{w:World}(hG:GW w)(H5:GOk w w.heap.size G)(hT:y1n w T)(ha:dens1 (fun _=>none) args=some vals)(h:yDK G T f args=some r):
 Calls prog f vals.toArray w fun e w'=>(∃ρ val,e=.returned val∧r.den ρ=some val)∧Below w.heap.size w w':=by
 haveI:XOk prog { xt with fact:=yHT T,slen:=y9i T.l }:=
  yAJ (fun i r h=>y7G hT.l h) (y1J (fun o a r h=>yBL hT.b o a r h) (y1J (yBK underlying9 hT.i) (y1J (yBJ underlying9 hT.s) (yBI hT.v))))
 unfold yDK at h;split at h
 · rename_i p hp
   cases h;obtain⟨r,s'⟩:=p;refine Calls.mono (y1L (O:=OS T.c T.w) mixed 60 w w.heap.size H5 (fun f vs v hk=>ol_ok hG f vs v hk) (os_ok hT.c hT.w) f _ _ _ _ hp _ w vals (Go.Rf.start w) ha) fun e w' he=>?_
   obtain⟨val,ρ',rfl,hv,hs⟩:=he;exact⟨⟨ρ',val,rfl,hv⟩,hs.conc.below⟩
 · cases h
theorem yIF{T:Told}{f:FuncId}{args:List V1}{vals:List Value}{r:V2}{w:World}(hG:GW w)(hT:y1n w T)(ha:dens1 (fun _=>none) args=some vals)(h:symEv T f args=some r):
 Calls prog f vals.toArray w fun e w'=>(∃ρ val,e=.returned val∧r.den ρ=some val)∧Below w.heap.size w w':=yGF hG hG.gok hT ha h
theorem y00{T:Told}{f:FuncId}{args:List V1}{vals:List Value}{r:V2}{v:Value}{w:World}(hG:GW w)(hT:y1n w T)(ha:dens1 (fun _=>none) args=some vals)(h:symEv T f args=some r)(hr:∀ρ,r.den ρ=some v):
 Calls prog f vals.toArray w fun e w'=>e=.returned v∧Below w.heap.size w w':=
 (yIF hG hT ha h).mono fun e w' ⟨⟨ρ,val,h1,h2⟩,hb⟩=>⟨by rw[h1,zF (h2.symm.trans (hr ρ))],hb⟩
theorem y3G{x y r:At}{a c:Int}{k:IntKind}(hx:∀ρ,x.den ρ=some (.int k a))(hy:∀ρ,y.den ρ=some (.int k c))(hr:∀ρ,r.den ρ=some (.int k (a+c)))(h:k.wrap (a+c)=a+c):BOk (.add,x,y,r):=
 ⟨_,_,_,hx,hy,hr,fun _ P w=>by simp[binOp,Op.intArith,h],(fun _ h=>by cases h),(fun h=>by cases h)⟩
theorem y3F{x y r:At}{a c:Int}{k:IntKind}(hx:∀ρ,x.den ρ=some (.int k a))(hy:∀ρ,y.den ρ=some (.int k c))(hr:∀ρ,r.den ρ=some (.int k (a-c)))(h:k.wrap (a-c)=a-c):BOk (.sub,x,y,r):=
 ⟨_,_,_,hx,hy,hr,fun _ P w=>by simp[binOp,Op.intArith,h],(fun _ h=>by cases h),(fun h=>by cases h)⟩
theorem yFs{x y:At}{v:Bool}{s t:ByteArray}(hx:∀ρ,x.den ρ=some (.string s))(hy:∀ρ,y.den ρ=some (.string t))(h:(s.data.toList==t.data.toList) = !v):BOk (.neq,x,y,.lit (.bool v)):=
 ⟨_,_,_,hx,hy,fun _=>rfl,fun _ P w=>by simp[binOp,Op.stringOp,Go.ByteArray.toList_eq,bne,h],(fun _ h=>nomatch h),(fun h=>nomatch h)⟩
def okS(v:Value):Prop:=v.cells=#[v]∧v.oneCell'=true∧∀b,v≠.bool b
theorem zR(k:IntKind)(n:Int):okS (.int k n):=⟨rfl,rfl,fun b h=>by cases h⟩
theorem zQ(s:ByteArray):okS (.string s):=⟨rfl,rfl,fun b h=>by cases h⟩
def sgV(vs:List Value)(i:Nat):Value:=match vs[i]? with|some v=>v|none=>.int .i64 0
theorem yDd{vs:List Value}(h:AllP okS vs):∀i,okS (sgV vs i):=by
 induction vs with
 | nil=>intro i;exact zR _ _
 | cons v vs ih=>
  intro i;cases i with
  | zero=>exact h.1
  | succ i=>exact ih h.2 i
noncomputable abbrev sgL(vs:List Value)(h:AllP okS vs):Sym:=⟨sgV vs,fun i=>(yDd h i).1,fun i=>(yDd h i).2.1,fun i=>(yDd h i).2.2⟩
abbrev lI(n:Nat):At:=.lit (.int .i64 n)
abbrev lB(b:Bool):At:=.lit (.bool b)
abbrev lS(l:List UInt8):At:=.lit (.string ⟨⟨l⟩⟩)
abbrev one1(a:At):V2:=.o (.a a)
theorem yAL{W:World}{cs:List At}{r:At}(xs:List ByteArray)(H8:∀ρ,dens ρ cs=some (xs.map .string))(hr:∀ρ,r.den ρ=some (.string ⟨(xs.map bl).flatten.toArray⟩))(hn:xs.length≤1000)(H7:(xs.map bl).flatten.length≤140737488355328):WOk W (90,cs,.o (.a r)):=by
 refine⟨_,_,H8,fun ρ=>hr ρ,fun w hb b o cap H9 H6 hx=>?_⟩;have H5:∀(j:Nat) x,xs[j]?=some x→w.cell? ⟨b,o+j,none⟩=some (.string x):=fun j x hj=>hx j _ (by rw[List.getElem?_map,hj];rfl)
 rw[List.length_map]at H6 ⊢;have k1:=Tryz.strings_Join b o cap xs ⟨#[]⟩ w H5 H9 (by omega) H6 (by show(Lib.join (xs.map bl) []).length≤_;rw[y1F];exact H7);have k1:Calls prog 165 #[.slice (some ⟨b,o,none⟩) xs.length cap,.string ⟨#[]⟩] w fun e w'=>e=.returned (.string ⟨(xs.map bl).flatten.toArray⟩)∧Below w.heap.size w w':=by
  have e:Lib.join (xs.map fun x=>x.data.toList) (⟨#[]⟩:ByteArray).data.toList=(xs.map bl).flatten:=y1F _;rw[e]at k1;exact k1
 generalize (xs.map bl).flatten=q at *;have K1:=z7 k1;clear k1;clear H5 hx H8 hr
 go_enter func90,ntmps90
 go_wp2_with (go_at_call 165;refine(K1.out).mono ?_;rintro e w1 ⟨rfl,Ha⟩)
 go_ret
 exact⟨rfl,Ha⟩
end Go.Proofs.YtgjchmcpondogaaGreatDoor
namespace Go.Proofs.YtgjchmcpondogaaGreatDoor
open Go.RowKit Go.Proofs.Tryz
def y8L(l:List UInt8):Int×Int:=if Lib.hasPrefix l [239,187,191]=true then(7,3)else if Lib.hasPrefix l [255,254]=true then(8,2)else if Lib.hasPrefix l [254,255]=true then(9,2)else(0,0)
theorem yH5(b:ByteArray)(w:World):Calls prog 124 #[.string b] w fun e w'=>e=.returned (.tuple #[.int .i64 (y8L (bl b)).1,.int .i64 (y8L (bl b)).2])∧w=w':=by
 have k1:∀w,Calls prog 87 #[.string b,.string ⟨#[239,187,191]⟩] w fun e w'=>e=.returned (.bool (Lib.hasPrefix (bl b) [239,187,191]))∧w'=w:=fun w=>Tryz.strings_HasPrefix b ⟨#[239,187,191]⟩ w
 have k2:∀w,Calls prog 87 #[.string b,.string ⟨#[255,254]⟩] w fun e w'=>e=.returned (.bool (Lib.hasPrefix (bl b) [255,254]))∧w'=w:=fun w=>Tryz.strings_HasPrefix b ⟨#[255,254]⟩ w
 have k3:∀w,Calls prog 87 #[.string b,.string ⟨#[254,255]⟩] w fun e w'=>e=.returned (.bool (Lib.hasPrefix (bl b) [254,255]))∧w'=w:=fun w=>Tryz.strings_HasPrefix b ⟨#[254,255]⟩ w
 unfold y8L;generalize Lib.hasPrefix (bl b) [239,187,191]=a1 at *;generalize Lib.hasPrefix (bl b) [255,254]=a2 at *;generalize Lib.hasPrefix (bl b) [254,255]=a3 at *;have K1:=z7 k1;have K2:=z7 k2;have K3:=z7 k3;clear k1 k2 k3;cases a1<;>cases a2<;>cases a3
 all_goals (
  go_enter func124,ntmps124
  go_wp2_with (first
   | (go_at_call 87;(with_reducible refine(K1.out _).mono ?_);rintro e w1 ⟨rfl,rfl⟩)
   | (go_at_call 87;(with_reducible refine(K2.out _).mono ?_);rintro e w1 ⟨rfl,rfl⟩)
   | (go_at_call 87;(with_reducible refine(K3.out _).mono ?_);rintro e w1 ⟨rfl,rfl⟩))
  go_ret2
  exact⟨rfl,rfl⟩)
end Go.Proofs.YtgjchmcpondogaaGreatDoor
namespace Go.Proofs.YtgjchmcpondogaaGreatDoor
open Go Go.Rf Go.RowKit Go.Proofs.Tryz
theorem yHv(l p:List UInt8):Lib.hasPrefix l p=(l.take p.length==p):=by
 rw[Bool.eq_iff_iff];simp only[Lib.hasPrefix,List.isPrefixOf_iff_prefix,List.prefix_iff_eq_take,beq_iff_eq];exact eq_comm
theorem y8W(l p:List UInt8)(h:l.length<p.length):Lib.hasPrefix l p=false:=by
 rw[yHv,Y2];intro e;have:=congrArg List.length e;rw[List.length_take]at this;omega
theorem y2m(b:ByteArray)(l h:Nat)(hl:l≤h)(hb:h≤b.size):(b.extract l h).data.toList=((bl b).drop l).take (h-l):=by
 rw[extract_bytes b l h hl hb]
def tB0:Told:={ b:=[(.geq,.sym 2,.sym 3,lB false)],l:=[(0,.sym 2),(1,.sym 3)] }
def tB1(v:Bool):Told:={ b:=[(.geq,.sym 2,.sym 3,lB true),(.eql,.sym 4,.sym 1,lB v)],s:=[(.sym 0,none,some (.sym 3),.sym 4)],l:=[(0,.sym 2),(1,.sym 3)] }
theorem rB0:symEv tB0 51 [.a (.sym 0),.a (.sym 1)]=some (one1 (lB false)):=by kernel_rfl
theorem rB1(v:Bool):symEv (tB1 v) 51 [.a (.sym 0),.a (.sym 1)]=some (one1 (lB v)):=by cases v<;>kernel_rfl
theorem yCo(b s:ByteArray)(w:World)(hG:GW w):Calls prog 51 #[.string b,.string s] w fun e w'=>e=.returned (.bool (Lib.hasPrefix (bl b) (bl s)))∧Below w.heap.size w w':=by
 obtain⟨E,hE⟩:∃E,E=b.extract 0 s.size:=⟨_,rfl⟩
 letI:=sgL [.string b,.string s,.int .i64 b.size,.int .i64 s.size,.string E] ⟨zQ _,zQ _,zR _ _,zR _ _,zQ _,trivial⟩
 have hL:AllP LenOk [((0:Nat),At.sym 2),(1,.sym 3)]:=⟨⟨b,rfl,fun _=>rfl⟩,⟨s,rfl,fun _=>rfl⟩,trivial⟩;by_cases h:s.size≤b.size
 · have hv:(E.data.toList==s.data.toList)=Lib.hasPrefix (bl b) (bl s):=by
    rw[hE,y2m b 0 s.size zD h,yHv,zJ]
    rfl
   exact y00 (T:=tB1 _) (vals:=[.string b,.string s]) hG ⟨⟨y0X (a:=b.size) (c:=s.size) (k:=.i64) (fun _=>rfl) (fun _=>rfl) (by simp;omega),y2s (s:=E) (t:=s) (fun _=>rfl) (fun _=>rfl) hv,trivial⟩,trivial,
    ⟨⟨b,0,s.size,fun _=>rfl,rfl,⟨.i64,fun _=>rfl⟩,zD,h,fun _=>by rw[←hE];rfl⟩,trivial⟩,hL,trivial,trivial,trivial⟩ rfl (rB1 _) (fun _=>rfl)
 · rw[y8W _ _ (by rw[zJ,zJ];omega)]
   exact y00 (T:=tB0) (vals:=[.string b,.string s]) hG ⟨⟨y0X (a:=b.size) (c:=s.size) (k:=.i64) (fun _=>rfl) (fun _=>rfl) (by simp;omega),trivial⟩,trivial,trivial,hL,trivial,trivial,trivial⟩ rfl rB0 (fun _=>rfl)
theorem y3X(b:ByteArray)(n:Nat)(h:n≤b.size):b.extract n b.size=⟨((bl b).drop n).toArray⟩:=by
 rw[extract_bytes b n b.size h zA]
 congr 2
 exact List.take_of_length_le (by rw[List.length_drop];show(bl b).length-n≤_;rw[zJ];exact zA)
end Go.Proofs.YtgjchmcpondogaaGreatDoor
namespace Go.Proofs.YtgjchmcpondogaaGreatDoor
open Go.RowKit Go.Proofs.Tryz
theorem y1t(s form:ByteArray)(w:World)(hs:s.size≤1000000)(H7:form.size≤1000000):Calls prog 157 #[.string s,.string form] w fun e w'=>e=.returned (.bool (zU (bl s) (bl form)))∧Below w.heap.size w w':=by
 have HS:Hid ((bl s).length=s.size):=zJ s;have HF:Hid ((bl form).length=form.size):=zJ form;have K1:=z7 y73;by_cases hz:s.size=form.size
 · have HK:=z7 (yEj (bl s) (bl form) (by rw[HS.out,HF.out,hz]))
   have H8:(s.size:Int)=(form.size:Int):=by omega
   go_enter func157,ntmps157
   go_wp2
   go_loopw [5] (fun i wr=>∃k:Nat,i=.int .i64 (k:Int)∧k≤form.size∧Hid ((List.range k).all (y9j (bl s) (bl form))=true)∧Below w.heap.size w wr) (fun i _=>form.size-(intOf i).toNat)
   case atStart=>exact⟨0,rfl,zD,z7 rfl,z8⟩
   case round=>
    obtain⟨k,rfl,hk,hR,H5⟩:=hrel;by_cases H9:k<form.size
    · have H6:k<s.size:=by omega
      obtain⟨x,hx⟩:=zM (bl s) k (by rw[HS.out];exact H6);obtain⟨y,hy⟩:=zM (bl form) k (by rw[HF.out];exact H9);have X:∀h,s[k]'h=x:=zT s k x hx;have Y:∀h,form[k]'h=y:=zT form k y hy;have Hb:=x.toNat_lt;have Ha:=y.toNat_lt;have q:=yB6 (bl s) (bl form) k x y hx hy;obtain⟨h1,h2⟩:=y3L (y9j (bl s) (bl form)) (bl s).length k (by rw[HS.out];exact H6) hR.out;rw[←HK.out]at h2;rw[q]at h1 h2;clear hx hy q;by_cases hf:y=48
      · subst hf
        have k2:=fun w=>K1.out x w
        have e0:y7K x 48=dgB x:=by unfold y7K;rw[if_pos rfl]
        rw[e0]at h1 h2;cases hc:dgB x with
        | true=>
         rw[hc]at k2;have e:=h1 hc;have E:=z7 e;have K2:=z7 k2;clear e k2;clear h1 h2 hc e0
         go_wp2_with (go_at_call 156;refine(K2.out _).mono ?_;rintro e w1 ⟨rfl,rfl⟩)
         go_roundw
         case rel=>exact⟨k+1,by first|omega|go_num,by omega,E,by first|exact H5|exact H5.drew⟩
         case measure=>simp[intOf];omega
        | false=>
         rw[hc]at k2;have e:=h2 hc;have E:=z7 e;have K2:=z7 k2;clear e k2;clear h1 h2 hc e0
         go_wp2_with (go_at_call 156;refine(K2.out _).mono ?_;rintro e w1 ⟨rfl,rfl⟩)
         go_ret
         exact⟨y0E E.out.symm,by first|exact H5|exact H5.drew⟩
      · have g1:((y.toNat:Int)==48)=false:=by rw[Y2];intro h;exact hf (by apply UInt8.toNat_inj.1;simpa using(by omega:y.toNat=48))
        have e0:y7K x y=decide ((x.toNat:Int)=(y.toNat:Int)):=by unfold y7K;rw[if_neg hf,yFt]
        rw[e0]at h1 h2;clear hf e0;obtain⟨p,hp⟩:∃p,p=(x.toNat:Int):=⟨_,rfl⟩;obtain⟨r,hr⟩:∃r,r=(y.toNat:Int):=⟨_,rfl⟩;have X':∀h,((s[k]'h).toNat:Int)=p:=fun h=>by rw[X h,hp]
        have Y':∀h,((form[k]'h).toNat:Int)=r:=fun h=>by rw[Y h,hr]
        rw[←hp,←hr]at h1 h2;rw[←hr]at g1;clear X Y;by_cases hc:p=r
        · have e:=h1 (decide_eq_true hc)
          have E:=z7 e;clear e;have g2:(p==r)=true:=by simpa using hc
          clear h1 h2;subst hc
          go_wp2
          go_region
          go_wp2
          go_roundw
          case rel=>exact⟨k+1,by first|omega|go_num,by omega,E,by first|exact H5|exact H5.drew⟩
          case measure=>simp[intOf];omega
        · have e:=h2 (decide_eq_false hc)
          have E:=z7 e;clear e;have g2:(p==r)=false:=by simpa using hc
          clear h1 h2
          go_wp2
          go_region
          go_wp2
          go_ret
          exact⟨y0E E.out.symm,by first|exact H5|exact H5.drew⟩
    · have e:zU (bl s) (bl form)=true:=by rw[HK.out,HS.out,hz,show form.size=k by omega];exact hR.out
      have Hd:k=form.size:=by omega
      have Hc:¬k<s.size:=by omega
      have E:=z7 e;clear e
      go_wp2
      go_ret
      exact⟨y0E E.out.symm,by first|exact H5|exact H5.drew⟩
 · have e:zU (bl s) (bl form)=false:=y7J (by rw[HS.out,HF.out];exact hz)
   have H8:¬(s.size:Int)=(form.size:Int):=by omega
   rw[e]
   go_enter func157,ntmps157
   go_wp2
   go_ret
   exact⟨rfl,z8⟩
def wB(c:UInt8):Bool:=c==32 || cpB c
theorem yCw:∀(l:List UInt8),l ≠ []→l.head?≠some 32→y0A l=l.all wB
 | [],h,_=>absurd rfl h
 | c::r,_,h=>by
  have h1:(c==32)=false:=by rw[Y2];intro e;exact h (by rw[e];rfl)
  rw[List.all_cons,show wB c=cpB c by unfold wB;rw[h1,Bool.false_or]]
  rfl
theorem y7l(l:List UInt8)(h:l = []∨l.head?=some 32):y0A l=false:=by
 match l,h with
 | [],_=>rfl
 | c::r,h=>
  have:c=32:=by rcases h with h|h<;>simp at h;exact h
  subst this
  rfl
theorem yJD(x:UInt8):cpsL [x]=cpB x:=by simp[cpsL]
theorem bl_one(b:ByteArray)(k:Nat)(x:UInt8)(hk:k<b.size)(hx:(bl b)[k]?=some x):bl (b.extract k (k+1)) = [x]:=by
 rw[Go.Rf.extract_bytes b k (k+1) (by omega) hk];show((bl b).drop k).take (k+1-k) = [x];rw[show k+1-k=1 by omega,y0f (bl b) k x hx]
 rfl
theorem yA7(b:ByteArray)(w:World)(hs:b.size≤1000000):Calls prog 285 #[.string b] w fun e w'=>e=.returned (.bool (y0A (bl b)))∧Below w.heap.size w w':=by
 have HL:Hid ((bl b).length=b.size):=zJ b;have K1:=z7 y5H;by_cases h0:b.size=0
 · have e:y0A (bl b)=false:=y7l _ (.inl (by apply List.length_eq_zero_iff.1;rw[HL.out];exact h0))
   rw[e];have hb:b=⟨#[]⟩:=by apply ByteArray.ext;apply Array.eq_empty_of_size_eq_zero;exact h0
   subst hb;clear e h0
   go_enter func285,ntmps285
   go_wp2
   go_ret
   exact⟨rfl,z8⟩
 · obtain⟨c,hc⟩:=zM (bl b) 0 (by rw[HL.out];omega)
   have X0:∀h,b[0]'h=c:=zT b 0 c hc;have Hc:b.toList.isEmpty=false:=by
    rw[ByteArray.toList_eq];show(bl b).isEmpty=false;rw[List.isEmpty_eq_false_iff];intro h;rw[h]at hc;cases hc
   have Ha:0<b.size:=by omega
   have Hd:=c.toNat_lt;by_cases H7:c=32
   · subst H7
     have e:y0A (bl b)=false:=y7l _ (.inr (by rw[List.head?_eq_getElem?];exact hc));rw[e];clear e hc h0
     go_enter func285,ntmps285
     go_wp2
     go_ret
     exact⟨rfl,z8⟩
   · have e:y0A (bl b)=(bl b).all wB:=yCw _ (by intro h;rw[h]at hc;cases hc) (by rw[List.head?_eq_getElem?,hc];simpa using H7)
     rw[e];have g0:((c.toNat:Int)==32)=false:=by rw[Y2];intro h;exact H7 (by apply UInt8.toNat_inj.1;simpa using(by omega:c.toNat=32))
     clear e hc h0 H7
     go_enter func285,ntmps285
     go_wp2
     go_loopw [13] (fun i wr=>∃k:Nat,i=.int .i64 (k:Int)∧k≤b.size∧Hid (((bl b).take k).all wB=true)∧Below w.heap.size w wr) (fun i _=>b.size-(intOf i).toNat)
     case atStart=>exact⟨0,rfl,zD,z7 (by simp),z8⟩
     case round=>
      obtain⟨k,rfl,hk,hR,H5⟩:=hrel;by_cases H9:k<b.size
      · obtain⟨x,hx⟩:=zM (bl b) k (by rw[HL.out];exact H9)
        have X:∀h,b[k]'h=x:=zT b k x hx;have Hb:=x.toNat_lt;obtain⟨h1,h2⟩:=zq wB (bl b) k x hx hR.out;by_cases hq:x=32
        · subst hq
          have e:=h1 rfl;have E:=z7 e;clear e;clear h1 h2 hx
          go_wp2
          go_roundw
          case rel=>exact⟨k+1,by first|omega|go_num,by omega,E,H5⟩
          case measure=>simp[intOf];omega
        · have g1:((x.toNat:Int)==32)=false:=by rw[Y2];intro h;exact hq (by apply UInt8.toNat_inj.1;simpa using(by omega:x.toNat=32))
          have g3:¬(x.toNat:Int)=32:=by simpa using g1
          have ew:wB x=cpB x:=by unfold wB;rw[show(x==32)=false by rw[Y2];exact hq,Bool.false_or]
          have k2:∀w',Calls prog 282 #[.string (b.extract k (k+1))] w' fun e w''=>e=.returned (.bool (cpB x))∧Below w'.heap.size w' w'':=fun w'=>by
           have:=K1.out (b.extract k (k+1)) w' (by rw[zG];omega)
           rwa [bl_one b k x H9 hx,yJD]at this
          have t1:((k:Int)+1).toNat=k+1:=by omega
          rw[ew]at h1 h2;clear hq ew hx;cases H6:cpB x with
          | true=>
           rw[H6]at k2;have e:=h1 H6;have E:=z7 e;have K2:=z7 k2;clear e k2;clear h1 h2 H6
           go_wp2_with (go_at_call 282;refine(K2.out _).mono ?_;rintro e w1 ⟨rfl,H8⟩)
           go_roundw
           case rel=>exact⟨k+1,by first|omega|go_num,by omega,E,H5.trans (H8.mono H5.size)⟩
           case measure=>simp[intOf];omega
          | false=>
           rw[H6]at k2;have e:=h2 H6;have E:=z7 e;have K2:=z7 k2;clear e k2;clear h1 h2 H6
           go_wp2_with (go_at_call 282;refine(K2.out _).mono ?_;rintro e w1 ⟨rfl,H8⟩)
           go_ret
           exact⟨y0E E.out.symm,H5.trans (H8.mono H5.size)⟩
      · have e:=y5i wB (bl b) k (by rw[HL.out];omega) hR.out
        have E:=z7 e;clear e
        go_wp2
        go_ret
        exact⟨y0E E.out.symm,H5⟩
theorem y0a(x:UInt8)(n:Nat)(hn:n<256)(h:x≠UInt8.ofNat n):¬(x.toNat:Int)=(n:Int):=by
 intro e;apply h;apply UInt8.toNat_inj.1;rw[UInt8.toNat_ofNat'];omega
def wdK(l:List UInt8)(k:Nat):Bool:=match l[k]? with|some c=>(c==32&&decide (0<k)) || cpB c|none=>true
theorem yI9:∀(l:List UInt8),y0A l=((List.range l.length).all (wdK l) && !l.isEmpty)
 | []=>rfl
 | c::r=>by
  rw[List.length_cons,List.range_succ_eq_map,List.all_cons,List.all_map];have h1:wdK (c::r) 0=cpB c:=by simp[wdK]
  have h2:(List.range r.length).all (wdK (c::r) ∘ Nat.succ)=r.all (fun c=>c==32 || cpB c):=by
   have:∀k,(wdK (c::r) ∘ Nat.succ) k=(match r[k]? with|some c=>c==32 || cpB c|none=>true):=fun k=>by
    simp[wdK]
   rw[funext this];clear this h1
   induction r with
   | nil=>rfl
   | cons d r ih=>
    rw[List.length_cons,List.range_succ_eq_map,List.all_cons,List.all_map,List.all_cons,←ih]
    rfl
  rw[h1,h2];simp[y0A]
theorem wdK_at(l:List UInt8)(k:Nat)(c:UInt8)(hc:l[k]?=some c):wdK l k=((c==32&&decide (0<k)) || cpB c):=by unfold wdK;rw[hc]
theorem yBs(b:ByteArray)(w:World)(hs:b.size≤1000000):Calls prog 251 #[.string b] w fun e w'=>e=.returned (.bool (y0A (bl b)))∧Below w.heap.size w w':=by
 have HL:Hid ((bl b).length=b.size):=zJ b;have HA:=z7 (yI9 (bl b));have K1:=z7 y74
 go_enter func251,ntmps251
 go_wp2
 go_loopw [3,4] (fun s i wr=>∃k:Nat,i=.int .i64 (k:Int)∧s=.bool (decide (0<k))∧k≤b.size∧Hid ((List.range k).all (wdK (bl b))=true)∧wr=w) (fun _ i _=>b.size-(intOf i).toNat)
 case atStart=>exact⟨0,rfl,rfl,zD,z7 rfl,rfl⟩
 case round=>
  obtain⟨k,rfl,rfl,hk,hR,rfl⟩:=hrel;by_cases H6:k<b.size
  · obtain⟨x,hx⟩:=zM (bl b) k (by rw[HL.out];exact H6)
    have X:∀h,b[k]'h=x:=zT b k x hx;have H9:=x.toNat_lt;obtain⟨h1,h2⟩:=y3L (wdK (bl b)) (bl b).length k (by rw[HL.out];exact H6) hR.out;rw[wdK_at _ _ _ hx]at h1 h2;clear hx;have k2:=fun w=>K1.out x w
    by_cases hq:x=32∧0<k
    · obtain⟨H8,H5⟩:=hq
      subst H8;have e:=h1 (by rw[decide_eq_true H5];rfl);have H7:(k:Int) > 0:=by omega
      have ed:decide (0<k)=true:=decide_eq_true H5;have E:=z7 e;clear e;clear h1 h2 k2
      go_wp2
      go_roundw
      case rel=>exact⟨k+1,by first|omega|go_num,by rw[ed,decide_eq_true (Nat.succ_pos k)],by omega,E,trivial⟩
      case measure=>simp[intOf];omega
    · cases hc:cpB x with
      | true=>
       rw[hc]at k2;have e:=h1 (by rw[hc,Bool.or_true]);have g1:¬(x.toNat:Int)=32:=y0a x 32 (by decide) (by intro h;subst h;cases hc);have g3:((x.toNat:Int)==32)=false:=by simpa using g1
       have E:=z7 e;have K2:=z7 k2;clear e k2;clear h1 h2 hc hq
       go_wp2_with (go_at_call 250;refine(K2.out _).mono ?_;rintro e w1 ⟨rfl,rfl⟩)
       go_roundw
       case rel=>exact⟨k+1,by first|omega|go_num,by rw[decide_eq_true (Nat.succ_pos k)],by omega,E,trivial⟩
       case measure=>simp[intOf];omega
      | false=>
       rw[hc]at k2;have e:y0A (bl b)=false:=by
        rw[HA.out,h2 (by
         rw[hc,Bool.or_false,Bool.and_eq_false_iff];by_cases h:x=32
         · exact .inr (decide_eq_false fun h'=>hq ⟨h,h'⟩)
         · exact .inl (by rw[Y2];exact h))]
        rfl
       have E:=z7 e;have K2:=z7 k2;clear e k2;clear h1 h2 hc;by_cases h:x=32
       · subst h
         have H7:k=0:=by have:=hq;simp at this;exact this
         subst H7;clear hq
         go_wp2_with (go_at_call 250;refine(K2.out _).mono ?_;rintro e w1 ⟨rfl,rfl⟩)
         go_ret
         exact⟨y0E E.out.symm,z8⟩
       · have g1:¬(x.toNat:Int)=32:=y0a x 32 (by decide) h
         have g3:((x.toNat:Int)==32)=false:=by simpa using g1
         clear hq h
         go_wp2_with (go_at_call 250;refine(K2.out _).mono ?_;rintro e w1 ⟨rfl,rfl⟩)
         go_ret
         exact⟨y0E E.out.symm,z8⟩
  · have e:y0A (bl b)=decide (0<k):=by
     rw[HA.out,HL.out,show b.size=k by omega,hR.out,Bool.true_and,Bool.eq_iff_iff,decide_eq_true_iff,Bool.not_eq_true',List.isEmpty_eq_false_iff,←List.length_pos_iff,HL.out];omega
    have E:=z7 e;clear e
    go_wp2
    go_ret
    exact⟨y0E E.out.symm,z8⟩
def qR(l:List UInt8):Int:=if valR l=true then(if l.count 34=0 then 0 else 1)else -1
theorem yCc(l:List UInt8)(k:Nat)(x:UInt8)(hx:l[k]?=some x):(l.take (k+1)).count 34=(l.take k).count 34+(if x=34 then 1 else 0):=by
 rw[List.take_add_one,hx,List.count_append]
 congr 1
 by_cases h:x=34
 · subst h;rfl
 · rw[if_neg h]
   simp[List.count_cons,h]
theorem yIb(l:List UInt8)(h0:l.count 34≠0)(h2:l.count 34≠2):qR l = -1:=by
 unfold qR valR;have a:(l.count 34==0)=false:=by rw[Y2];exact h0
 have b:(l.count 34==2)=false:=by rw[Y2];exact h2
 rw[a,b];rfl
theorem yIa(l:List UInt8)(h0:l.count 34=0):qR l=if l = []then -1 else 0:=by
 unfold qR valR;rw[h0];cases l<;>simp
theorem qR_two(l:List UInt8)(h0:l.count 34=2):qR l=if l.head?=some 34∧l.getLast?=some 34 then 1 else -1:=by
 unfold qR valR;rw[h0];by_cases h:l.head?=some 34
 · by_cases h2:l.getLast?=some 34
   · simp[h,h2]
   · have:(l.getLast?==some (34:UInt8))=false:=by simpa using h2
     simp[h,h2,this]
 · have:(l.head?==some (34:UInt8))=false:=by simpa using h
   simp[h,this]
theorem yBt(b:ByteArray)(w:World)(hs:b.size≤1000000):Calls prog 249 #[.string b] w fun e w'=>e=.returned (.int .i64 (qR (bl b)))∧Below w.heap.size w w':=by
 have HL:Hid ((bl b).length=b.size):=zJ b;obtain⟨V,hV⟩:∃V,V=qR (bl b):=⟨_,rfl⟩;rw[←hV];have HV:=z7 hV;clear hV
 go_enter func249,ntmps249
 go_wp2
 go_loopw [3,4] (fun s i wr=>∃k n:Nat,i=.int .i64 (k:Int)∧s=.int .i64 (n:Int)∧k≤b.size∧n≤k∧Hid (((bl b).take k).count 34=n)∧wr=w) (fun _ i _=>b.size-(intOf i).toNat)
 case atStart=>exact⟨0,0,rfl,rfl,zD,zD,z7 rfl,rfl⟩
 case round=>
  obtain⟨k,n,rfl,rfl,hk,hn,hR,rfl⟩:=hrel;by_cases H6:k<b.size
  · obtain⟨x,hx⟩:=zM (bl b) k (by rw[HL.out];exact H6)
    have X:∀h,b[k]'h=x:=zT b k x hx;have H5:=x.toNat_lt;have h1:=yCc (bl b) k x hx;rw[hR.out]at h1;clear hx;by_cases hq:x=34
    · subst hq
      rw[if_pos rfl]at h1;have E:=z7 h1;clear h1
      go_wp2
      go_roundw
      case rel=>exact⟨k+1,n+1,by first|omega|go_num,by first|omega|go_num,by omega,by omega,E,trivial⟩
      case measure=>simp[intOf];omega
    · rw[if_neg hq]at h1
      have g1:¬(x.toNat:Int)=34:=y0a x 34 (by decide) hq;have g3:((x.toNat:Int)==34)=false:=by simpa using g1
      have E:=z7 h1;clear h1;clear hq
      go_wp2
      go_roundw
      case rel=>exact⟨k+1,n,by first|omega|go_num,by first|omega|go_num,by omega,by omega,E,trivial⟩
      case measure=>simp[intOf];omega
  · have hc:(bl b).count 34=n:=by
     have:=hR.out
     rwa [List.take_of_length_le (by rw[HL.out];omega)]at this
    by_cases h0:n=0
    · subst h0
      have hv:=HV.out;rw[yIa _ hc]at hv;by_cases he:b.size=0
      · have hb:bl b = []:=List.eq_nil_of_length_eq_zero (by rw[HL.out];exact he)
        rw[if_pos hb]at hv;have H8:(b.toList==([]:List UInt8))=true:=by rw[ByteArray.toList_eq];exact beq_iff_eq.2 hb
        have H7:b.toList.isEmpty=true:=by rw[ByteArray.toList_eq];exact List.isEmpty_iff.2 hb
        have E:=z7 hv;clear hv;clear hb hc hR
        go_wp2
        go_ret
        exact⟨by rw[E.out];rfl,z8⟩
      · have hb:bl b ≠ []:=fun h=>he (by rw[←HL.out,h];rfl)
        rw[if_neg hb]at hv;have H8:(b.toList==([]:List UInt8))=false:=by rw[ByteArray.toList_eq];exact beq_eq_false_iff_ne.2 hb
        have H7:b.toList.isEmpty=false:=by rw[ByteArray.toList_eq];exact List.isEmpty_eq_false_iff.2 hb
        have E:=z7 hv;clear hv;clear hb hc hR
        go_wp2
        go_ret
        exact⟨by rw[E.out];rfl,z8⟩
    · by_cases h2:n=2
      · subst h2
        have hv:=HV.out;rw[qR_two _ hc]at hv;obtain⟨x,hx⟩:=zM (bl b) 0 (by rw[HL.out];omega);obtain⟨y,hy⟩:=zM (bl b) (b.size-1) (by rw[HL.out];omega);have X:∀h,b[0]'h=x:=zT b 0 x hx;have Y:∀h,b[b.size-1]'h=y:=zT b (b.size-1) y hy;have H5:=x.toNat_lt;have H9:=y.toNat_lt;rw[List.head?_eq_getElem?,hx,List.getLast?_eq_getElem?,HL.out,hy]at hv;have Ha:(0:Int)<b.size:=by omega
        have hm:((b.size:Int)-1).toNat=b.size-1:=by omega
        have Hc:((b.size:Int)-1)<b.size:=by omega
        have Hb:(0:Int)≤((b.size:Int)-1):=by omega
        clear hx hy hc hR h0;by_cases q1:x=34
        · subst q1
          by_cases q2:y=34
          · subst q2
            rw[if_pos ⟨rfl,rfl⟩]at hv;have E:=z7 hv;clear hv
            go_wp2
            go_ret
            exact⟨by rw[E.out];rfl,z8⟩
          · rw[if_neg (fun h=>q2 (zF h.2))]at hv
            have g1:¬(y.toNat:Int)=34:=y0a y 34 (by decide) q2;have g3:((y.toNat:Int)==34)=false:=by simpa using g1
            have E:=z7 hv;clear hv;clear q2
            go_wp2
            go_ret
            exact⟨by rw[E.out];rfl,z8⟩
        · rw[if_neg (fun h=>q1 (zF h.1))]at hv
          have g1:¬(x.toNat:Int)=34:=y0a x 34 (by decide) q1;have g3:((x.toNat:Int)==34)=false:=by simpa using g1
          have E:=z7 hv;clear hv;clear q1
          go_wp2
          go_ret
          exact⟨by rw[E.out];rfl,z8⟩
      · have hv:=HV.out
        rw[yIb _ (by rw[hc];exact h0) (by rw[hc];exact h2)]at hv;have g0:((n:Int)==0)=false:=by rw[Y2];omega
        have g2:((n:Int)==2)=false:=by rw[Y2];omega
        have E:=z7 hv;clear hv;clear hc hR h0 h2
        go_wp2
        go_ret
        exact⟨by rw[E.out];rfl,z8⟩
end Go.Proofs.YtgjchmcpondogaaGreatDoor
namespace Go.Proofs.YtgjchmcpondogaaGreatDoor
open Go Go.Rf Go.RowKit Go.Proofs.Tryz
theorem y5s(l:List UInt8)(c:UInt8):decide (0≤Lib.indexByte l c)=l.contains c:=by
 induction l with
 | nil=>rfl
 | cons b l ih=>
  have H5:=Lib.indexByte_ge l c;rw[Lib.indexByte,List.contains_cons];by_cases h:b=c
  · subst h;simp
  · have h1:(b==c)=false:=by simpa using h
    have h2:(c==b)=false:=by simpa using fun e=>h e.symm
    rw[h1,h2,Bool.false_or,←ih];by_cases hm:Lib.indexByte l c = -1
    · simp[hm]
    · have h3:(Lib.indexByte l c == -1)=false:=by simpa using hm
      simp only[h3,Bool.false_eq_true,if_false];rw[Bool.eq_iff_iff,decide_eq_true_iff,decide_eq_true_iff];omega
def quoL:List UInt8:=[34]
def vB:List BinF:=[(.sub,.sym 1,lI 1,.sym 2)]
def vSl:List SliF:=[(.sym 0,some (lI 1),some (.sym 2),.sym 3)]
def vI:List ByF:=[(.sym 0,lI 0,.sym 4),(.sym 0,.sym 2,.sym 5)]
def u8(n:Nat):At:=.lit (.int .u8 n)
def tV0(v:Bool):Told:={ b:=[(.neq,.sym 0,lS [],lB v)],l:=[(0,.sym 1)],c:=[(408,[.a (.sym 0),.a (lS quoL)],one1 (lB false))] }
def tV1:Told:={ b:=[(.lss,.sym 1,lI 2,lB true)],l:=[(0,.sym 1)],c:=[(408,[.a (.sym 0),.a (lS quoL)],one1 (lB true))] }
def tV2(p q r:Bool):Told:={ b:=(.lss,.sym 1,lI 2,lB false)::(.neq,.sym 4,u8 34,lB p)::(.neq,.sym 5,u8 34,lB q)::vB,i:=vI,s:=vSl,l:=[(0,.sym 1)],c:=[(408,[.a (.sym 0),.a (lS quoL)],one1 (lB true)),(408,[.a (.sym 3),.a (lS quoL)],one1 (lB r))] }
theorem rV0(v:Bool):symEv (tV0 v) 360 [.a (.sym 0)]=some (.t [.a (.sym 0),.a (lI 0),.a (lB v)]):=by cases v<;>kernel_rfl
theorem rV1:symEv tV1 360 [.a (.sym 0)]=some (.t [.a (lS []),.a (lI 0),.a (lB false)]):=by kernel_rfl
theorem rV2(p q r:Bool):symEv (tV2 p q r) 360 [.a (.sym 0)]=some (match p || q || r with|true=>.t [.a (lS []),.a (lI 0),.a (lB false)]|false=>.t [.a (.sym 3),.a (lI 1),.a (lB true)]):=by cases p<;>cases q<;>cases r<;>kernel_rfl
def valT(s:ByteArray):ByteArray×Nat:=if(bl s).contains 34 then(if y0y (bl s)then(s.extract 1 (s.size-1),1)else(⟨#[]⟩,0))else(s,0)
theorem y04{p:UInt8→Prop}(h:∀i:Fin 256,p (UInt8.ofNat i.val))(c:UInt8):p c:=by
 have:=h ⟨c.toNat,c.toNat_lt⟩
 rwa [show UInt8.ofNat c.toNat=c from by apply UInt8.toNat_inj.1;rw[UInt8.toNat_ofNat'];have:=c.toNat_lt;omega]at this
theorem yD5(s:ByteArray)(w:World)(hG:GW w)(hs:s.size≤1000000):Calls prog 360 #[.string s] w fun e w'=>e=.returned (.tuple #[.string (valT s).1,.int .i64 (valT s).2,.bool (y0y (bl s))])∧Below w.heap.size w w':=by
 have H5:=zJ s;have kc:∀(x:ByteArray) w',Calls prog 408 #[.string x,.string ⟨⟨quoL⟩⟩] w' fun e w''=>e=.returned (.bool ((bl x).contains 34))∧Below w'.heap.size w' w'':=fun x w'=>by
  rw[←y5s];exact(Tryz.strings_Contains_one x 34 w').mono fun e w'' q=>⟨q.1,by rw[q.2];exact z8⟩
 have kc0:=kc s;cases hc:(bl s).contains 34 with
 | false=>
  rw[hc]at kc0;have e1:valT s=(s,0):=by unfold valT;rw[hc];rfl
  have e2:y0y (bl s) = !(bl s).isEmpty:=by unfold y0y;rw[hc];rfl
  rw[e1,e2]
  letI:=sgL [.string s,.int .i64 s.size] ⟨zQ _,zR _ _,trivial⟩
  refine y00 (vals:=[.string s]) hG (T:=tV0 (!(bl s).isEmpty)) ⟨⟨yFs (s:=s) (t:=⟨⟨[]⟩⟩) (fun _=>rfl) (fun _=>rfl) ?_,trivial⟩,trivial,trivial,⟨⟨s,rfl,fun _=>rfl⟩,trivial⟩,⟨⟨[.string s,.string ⟨⟨quoL⟩⟩],_,fun _=>rfl,fun _=>rfl,fun w' _=>kc0 w'⟩,trivial⟩,trivial,trivial⟩ rfl (rV0 _) (fun _=>rfl);rw[Bool.not_not];show(bl s == [])=(bl s).isEmpty;cases bl s<;>rfl
 | true=>
  rw[hc]at kc0;have hL:AllP (letI:=sgL [.string s,.int .i64 s.size] ⟨zQ _,zR _ _,trivial⟩;LenOk) [((0:Nat),At.sym 1)]:=⟨⟨s,rfl,fun _=>rfl⟩,trivial⟩;by_cases h2:s.size<2
  · have e2:y0y (bl s)=false:=by unfold y0y;rw[hc,if_pos rfl,decide_eq_false (by omega)];rfl
    have e1:valT s=(⟨#[]⟩,0):=by unfold valT;rw[hc,if_pos rfl,e2];rfl
    rw[e1,e2]
    letI:=sgL [.string s,.int .i64 s.size] ⟨zQ _,zR _ _,trivial⟩
    exact y00 (vals:=[.string s]) hG (T:=tV1) ⟨⟨y3d (a:=s.size) (c:=2) (k:=.i64) (fun _=>rfl) (fun _=>rfl) (by simp;omega),trivial⟩,trivial,trivial,⟨⟨s,rfl,fun _=>rfl⟩,trivial⟩,⟨⟨[.string s,.string ⟨⟨quoL⟩⟩],_,fun _=>rfl,fun _=>rfl,fun w' _=>kc0 w'⟩,trivial⟩,trivial,trivial⟩ rfl rV1 (fun _=>rfl)
  · obtain⟨M,hM⟩:∃M,M=s.extract 1 (s.size-1):=⟨_,rfl⟩
    have H6:bl M=((bl s).drop 1).take ((bl s).length-2):=by
     rw[H5,hM];show(s.extract 1 (s.size-1)).data.toList=_;rw[y2m s 1 (s.size-1) (by omega) (by omega)]
     congr 1
    have kc1:=kc M;obtain⟨p,hp⟩:∃p,p=((s[0]'(by omega)) != 34):=⟨_,rfl⟩;obtain⟨q,hq⟩:∃q,q=((s[s.size-1]'(by omega)) != 34):=⟨_,rfl⟩;obtain⟨r,hr⟩:∃r,r=(bl M).contains 34:=⟨_,rfl⟩;rw[←hr]at kc1;have hd:(bl s).head?=some (s[0]'(by omega)):=by
     rw[List.head?_eq_getElem?,List.getElem?_eq_getElem (by omega)];rfl
    have hg:(bl s).getLast?=some (s[s.size-1]'(by omega)):=by
     rw[List.getLast?_eq_getElem?,H5,List.getElem?_eq_getElem (by omega)];rfl
    have e2:y0y (bl s) = !(p || q || r):=by
     unfold y0y;rw[hc,if_pos rfl,hd,hg,←H6,←hr,decide_eq_true (by omega:2≤(bl s).length),hp,hq];simp only[Bool.true_and,Option.some_beq_some,bne,Bool.not_or,Bool.not_not]
    letI:=sgL [.string s,.int .i64 s.size,.int .i64 ((s.size-1:Nat):Int),.string M,.int .u8 ((s[0]'(by omega)).toNat:Int),.int .u8 ((s[s.size-1]'(by omega)).toNat:Int)] ⟨zQ _,zR _ _,zR _ _,zQ _,zR _ _,zR _ _,trivial⟩
    have e3:(s.size:Int)-1=((s.size-1:Nat):Int):=by omega
    have ne8:∀x:UInt8,(((x.toNat:Int)) != ((34:Nat):Int))=(x != 34):=y04 (by decide +kernel);have:=y00 (vals:=[.string s]) (v:=match p || q || r with|true=>.tuple #[.string ⟨⟨[]⟩⟩,.int .i64 0,.bool false]|false=>.tuple #[.string M,.int .i64 1,.bool true]) hG (T:=tV2 p q r) ⟨⟨y3d (a:=s.size) (c:=2) (k:=.i64) (fun _=>rfl) (fun _=>rfl) (by simp;omega),
     yAE (a:=((s[0]'(by omega)).toNat:Int)) (c:=((34:Nat):Int)) (k:=.u8) (fun _=>rfl) (fun _=>rfl) (by rw[hp];exact ne8 _),yAE (a:=((s[s.size-1]'(by omega)).toNat:Int)) (c:=((34:Nat):Int)) (k:=.u8) (fun _=>rfl) (fun _=>rfl) (by rw[hq];exact ne8 _),
     y3F (a:=s.size) (c:=1) (k:=.i64) (fun _=>rfl) (fun _=>rfl) (fun _=>by rw[e3];rfl) (wi64 _ (by omega) (by omega)),trivial⟩,
     ⟨⟨s,0,.i64,fun _=>rfl,fun _=>rfl,by omega,fun _=>rfl⟩,⟨s,s.size-1,.i64,fun _=>rfl,fun _=>rfl,by omega,fun _=>rfl⟩,trivial⟩,
     ⟨⟨s,1,s.size-1,fun _=>rfl,⟨.i64,fun _=>rfl⟩,⟨.i64,fun _=>rfl⟩,by omega,by omega,fun _=>by rw[←hM];rfl⟩,trivial⟩,⟨⟨s,rfl,fun _=>rfl⟩,trivial⟩,
     ⟨⟨[.string s,.string ⟨⟨quoL⟩⟩],_,fun _=>rfl,fun _=>rfl,fun w' _=>kc0 w'⟩,⟨[.string M,.string ⟨⟨quoL⟩⟩],_,fun _=>rfl,fun _=>rfl,fun w' _=>kc1 w'⟩,trivial⟩,trivial,trivial⟩ rfl (rV2 p q r) (fun _=>by cases p<;>cases q<;>cases r<;>rfl)
    refine this.mono fun e w' z=>⟨?_,z.2⟩
    rw[z.1];have e1:valT s=if(p || q || r)=true then(⟨#[]⟩,0)else(M,1):=by
     unfold valT;rw[hc,if_pos rfl,e2,←hM];cases p || q || r<;>rfl
    rw[e1,e2];cases p || q || r<;>rfl
end Go.Proofs.YtgjchmcpondogaaGreatDoor
