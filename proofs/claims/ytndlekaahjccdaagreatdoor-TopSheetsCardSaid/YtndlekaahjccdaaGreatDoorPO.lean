/- PO -/
import Derived.Laws.AppendOwnNone
import Derived.Test.YtndlekaahjccdaaGreatDoorPN
set_option linter.all false
set_option maxRecDepth 100000
set_option maxHeartbeats 40000000
namespace Go.Proofs.YtndlekaahjccdaaGreatDoor
section
open Go Go.Rf Go.RowKit Go.Proofs.Tryz
noncomputable def yAv[Sym](T:Told)(f:FuncId)(args:List V1):Option (Nat×List At×Bool):=
 match y46 prog { xt with fact:=yI9 T,slen:=yA7 T.l } gk (OS T.c T.w) 60 f args { heap:=[],next:=0 } with
 | some (.t [x,.a (.lit (.bool b))],s)=>(match yJL s.heap x with
  | some (n,r)=>some (n,r,b)
  | none=>none)
 | _=>none
theorem y6z[Sym]{T:Told}{f:FuncId}{args:List V1}{vals:List Value}{n:Nat}{r:List At}{b:Bool}{us:List Value}{w:World}(hG:GW w)(hT:y1p w T)(ha:dens1 (fun _=>none) args=some vals)(h:yAv T f args=some (n,r,b))(hd:∀ρ,dens ρ r=some us):
 Calls prog f vals.toArray w fun e w'=>(∃v,e=.returned (.tuple #[v,.bool b])/\y1q w' v n us)/\Below w.heap.size w w':=by
 haveI:XOk prog { xt with fact:=yI9 T,slen:=yA7 T.l }:=
  yAn (fun i r h=>y7X hT.l h) (y1K (fun o a r h=>yBo hT.b o a r h) (y1K (yBn underlying9 hT.i) (y1K (yBm underlying9 hT.s) (yBl hT.v))))
 unfold yAv at h;split at h
 . rename_i x c s hp
   split at h
   . rename_i n' r' hr
     cases h;refine Calls.mono (y1M (O:=OS T.c T.w) mixed 60 w w.heap.size hG.gok (fun f vs v hk=>ol_ok hG f vs v hk) (os_ok hT.c hT.w) f _ _ _ _ hp _ w vals (Go.Rf.start w) ha) fun e w' he=>?_
     obtain⟨val,ρ',rfl,hv,hs⟩:=he;simp only[V2.den,Option.map_eq_some_iff]at hv;obtain⟨vs,h3,rfl⟩:=hv;obtain⟨u,us1,h0,h4,rfl⟩:=zg.1 h3;obtain⟨u2,us2,h5,h6,rfl⟩:=zg.1 h4;simp only[dens1,Option.some.injEq]at h6;subst h6;cases h5;exact⟨⟨u,rfl,yHD hs.conc h0 hr (hd ρ')⟩,hs.conc.below⟩
   . cases h
 . cases h
structure But (B:Nat) (S:Nat->Prop) (w w':World):Prop where
 os:w'.os=w.os
 tape:w'.tape=w.tape
 output:w'.output=w.output
 size:w.heap.size<=w'.heap.size
 block:∀k,k<B->¬S k->w'.heap[k]?=w.heap[k]?
theorem But.of{B:Nat}{S:Nat->Prop}{w w':World}(h:Below B w w'):But B S w w':=⟨h.os,h.tape,h.output,h.size,fun k hk _=>h.block k hk⟩
theorem But.trans{B:Nat}{S:Nat->Prop}{a b c:World}(h:But B S a b)(k:But B S b c):But B S a c:=
 ⟨k.os.trans h.os,k.tape.trans h.tape,k.output.trans h.output,zE h.size k.size,fun i hi hs=>(k.block i hi hs).trans (h.block i hi hs)⟩
theorem But.mono{B B':Nat}{S:Nat->Prop}{w w':World}(h:But B S w w')(hB:B'<=B):But B' S w w':=⟨h.os,h.tape,h.output,h.size,fun k hk hs=>h.block k (Nat.lt_of_lt_of_le hk hB) hs⟩
theorem But.below{B B':Nat}{S:Nat->Prop}{w w':World}(h:But B S w w')(hB:B'<=B)(hS:∀k,S k->B'<=k):Below B' w w':=⟨h.os,h.tape,h.output,h.size,fun k hk=>h.block k (Nat.lt_of_lt_of_le hk hB) fun hs=>by have:=hS k hs;omega⟩
theorem zZ{w:World}{B e k n:Nat}{v:Value}{cs:List Value}(h:w.ownsRow B e k v n cs):y1q w v n cs:=by
 obtain⟨h1,h2⟩:=h;rcases h2 with⟨rfl,rfl⟩|⟨g,cap,cur,rfl,h3,h4,h5,h6,h7,h8⟩
 . exact .inl ⟨rfl,rfl,List.eq_nil_of_length_eq_zero (by omega)⟩
 . refine .inr ⟨g,0,cap,rfl,h5,(Array.getElem?_eq_some_iff.1 h4).1,fun i u hu=>?_⟩
   have hi:=(List.getElem?_eq_some_iff.1 hu).1;rw[<-h8,List.getElem?_take_of_lt (by omega),Array.getElem?_toList]at hu;simp[World.cell?,h4,hu]
section
variable {P:Program} {ops:Array Oper} {rest:List Oper} {o:Oper} {a:Act} {Q:Exit->Act->World->Prop}
theorem y0C(H7:o.guard=none)(s x:Operand)(t e:TypeId)(ho:o.op=.call { callee:=.builtin .append,args:=#[s,x],argTypes:=#[t,t] })(ht:P.underlying t=some (.slice e))
 (z:Value) (size bytes:Nat) (hi:(P.info? e).map (fun i=>(i.zero,i.size,i.bytes))=some (some z,size,bytes)) (H8:z.cells.size=size) (Hc:0<size)
 (W:World) (B:Nat) (v:Value) (n:Nat) (cs:List Value) (hs:a.eval s=v) (H5:W.ownsRow B e size v n cs) (v2:Value) (m:Nat) (us:List Value) (hx:a.eval x=v2) (H6:y1q W v2 m us)
 (hl:us.length=m*size) (h1:∀u∈us,u.oneCell'=true) (He:n+m<70368744177664) (Hf:(n+m)*bytes<=140737488355328) (hB:B<=W.heap.size)
 (h:∀v' w',w'.ownsRow B e size v' (n+m) (cs++us)->Below B W w'->(∀k,k<W.heap.size->some k≠v.ownBlock->w'.heap[k]?=W.heap[k]?)->wpList P ops Q rest (a.put o.dst v') w'):wpList P ops Q (o::rest) a W:=by
 obtain⟨i0,hi,Hb,Ha,H9⟩:=info_parts hi;rcases H6 with⟨rfl,rfl,rfl⟩|⟨b,of,cap,rfl,h2,h3,h4⟩
 . refine wpList_append_own_none H7 s x t ho B e i0 size ht hi v n cs hs H5 hx ?_
   exact h v W (by simpa using H5) z8 (fun _ _ _=>rfl)
 . refine wpList_append_own W H7 s x t ho B e i0 z size bytes ht hi Hb Ha H9 H8 Hc v n cs hs H5 ⟨b,of,none⟩ m cap us hx hl ?_ h1 ?_ Hf hB ?_
   . intro j u hj
     rw[show Addr.add ⟨b,of,none⟩ j=⟨b,of+j,none⟩ by cases j<;>simp[Addr.add]];exact h4 j u hj
   . unfold maxLen;omega
   . intro v' w' Hd hg _
     exact h v' w' Hd (y2L H5 hg hB) (fun k hk hn=>hg.block k hk hn)
end
theorem infoLP:(Tryz.prog.info? 173).map (fun i=>(i.zero,i.size,i.bytes))=some (some Y3,3,40):=by kernel_rfl
theorem y5D:∀(l:List Pc),∀u∈pcC l,u.oneCell'=true
 | [],u,h=>by cases h
 | p::l,u,h=>by
  rw[show pcC (p::l)=pcV p++pcC l from rfl]at h;rcases List.mem_append.1 h with h|h
  . simp only[pcV,List.mem_cons,List.not_mem_nil,or_false]at h
    rcases h with rfl|rfl|rfl<;>rfl
  . exact y5D l u h
theorem zi(b o cap:Nat)(t:ByteArray)(w:World)(hb:b<w.heap.size)(hc:1<=cap)(hx:w.cell? ⟨b,o,none⟩=some (.string t))(ht:t.size<=1000000):Calls prog 242 #[.slice (some ⟨b,o,none⟩) 1 cap] w fun e w'=>
 e=.returned (.agg #[.bool true,.string ⟨#[109,97,114,107]⟩,.string t])/\Below w.heap.size w w':=by
 have k3:∀w',b<w'.heap.size->w'.cell? ⟨b,o,none⟩=some (.string t)->Calls prog 111 #[.slice (some ⟨b,o,none⟩) 1 cap] w' fun e w''=>e=.returned (.string t)/\Below w'.heap.size w' w'':=by
  intro w hb hx;have k1:=Tryz.strings_Join b o cap [t] ⟨#[]⟩ w (fun j x hj=>by match j,hj with|0,hj=>cases hj;exact hx) hb (by simp) hc (by show(Lib.join ([t].map bl) []).length<=_;rw[y1H];simp;omega);have k2:Calls prog 189 #[.slice (some ⟨b,o,none⟩) 1 cap,.string ⟨#[]⟩] w fun e w'=>e=.returned (.string t)/\Below w.heap.size w w':=by
   have e:Lib.join ([t].map fun x=>x.data.toList) (⟨#[]⟩:ByteArray).data.toList=bl t:=by
    rw[show Lib.join ([t].map fun x=>x.data.toList) (⟨#[]⟩:ByteArray).data.toList=([t].map bl).flatten from y1H _];simp
   rw[e]at k1;exact k1
  have K2:=z7 k2;clear k1 k2 hx hb hc
  go_enter func111,ntmps111
  go_wp2_with (go_at_call 189;refine(K2.out).mono ?_;rintro e w1 ⟨rfl,H5⟩)
  go_ret
  exact⟨rfl,H5⟩
 obtain⟨W,hW⟩:∃W,W=w.alloc (.cells #[.bool false,.string ⟨#[]⟩,.string ⟨#[]⟩] 173):=⟨_,rfl⟩;have H6:Below w.heap.size w W:=by rw[hW];exact bal z8 _
 have k4:=k3 W (Nat.lt_of_lt_of_le hb H6.size) ((H6.cell hb).trans hx);have lf:=Live.fresh w #[.bool false,.string ⟨#[]⟩,.string ⟨#[]⟩] 173
 rw[<-hW]at lf;have m0:=lf 0 _ rfl;have m1:=lf 1 _ rfl;have m2:=lf 2 _ rfl;have K4:=z7 k4;have H7:=z7 H6;have M0:=z7 m0;have M1:=z7 m1;have M2:=z7 m2;clear k4 H6 m0 m1 m2;clear k3 lf hx hb hc
 go_enter func242,ntmps242
 go_wp2_with fail
 rw[<-hW];clear hW
 go_wp2_with (go_at_call 111;refine(K4.out).mono ?_;rintro e w1 ⟨rfl,H5⟩;obtain⟨q0,q0'⟩:=M0.out.keep H5;obtain⟨q1,q1'⟩:=M1.out.keep H5;obtain⟨q2,q2'⟩:=M2.out.keep H5)
 refine bodyPost_ret (v:=.agg #[.bool true,.string ⟨#[109,97,114,107]⟩,.string t]) (by simp[results,results242,go_sem,q0,q1,q2,q0',q1',q2']) rfl ?_;have H8:=H7.out.trans (H5.mono H7.out.size);exact⟨rfl,((H8.setCell (by simp) _).setCell (by simp) _).setCell (by simp) _⟩
end
open Go.RowKit Go.Proofs.Tryz
theorem y7O(x:UInt8)(w:World):Calls prog 248 #[.int .u8 (x.toNat:Int)] w fun e w'=>e=.returned (.bool (dgB x))/\w=w':=by
 have h:=x.toNat_lt
 go_enter func248,ntmps248
 go_wp2
 all_goals go_ret
 all_goals (refine⟨y03 ?_,rfl⟩;unfold dgB;rw[Bool.eq_iff_iff];simp;omega)
theorem y7I(x:UInt8)(w:World):Calls prog 49 #[.int .u8 (x.toNat:Int)] w fun e w'=>e=.returned (.bool (dgB x))/\w=w':=by
 have h:=x.toNat_lt
 go_enter func49,ntmps49
 go_wp2
 all_goals go_ret
 all_goals (refine⟨y03 ?_,rfl⟩;unfold dgB;rw[Bool.eq_iff_iff];simp;omega)
theorem y7J(x:UInt8)(w:World):Calls prog 79 #[.int .u8 (x.toNat:Int)] w fun e w'=>e=.returned (.bool (cpB x))/\w=w':=by
 have h:=x.toNat_lt;have K1:=z7 (y7I x);cases hd:dgB x with
 | true=>
  rw[hd]at K1;have e:cpB x=true:=by unfold cpB;rw[hd];rfl
  rw[e];clear hd e
  go_enter func79,ntmps79
  go_wp2_with (go_at_call 49;refine(K1.out _).mono ?_;rintro e w1 ⟨rfl,rfl⟩)
  all_goals go_ret
  all_goals exact⟨rfl,rfl⟩
 | false=>
  rw[hd]at K1;have e:cpB x=(decide (65<=x.toNat)&&decide (x.toNat<=90)):=by unfold cpB;rw[hd];rfl
  rw[e];clear hd e
  go_enter func79,ntmps79
  go_wp2_with (go_at_call 49;refine(K1.out _).mono ?_;rintro e w1 ⟨rfl,rfl⟩)
  all_goals go_ret
  all_goals (refine⟨y03 ?_,rfl⟩;rw[Bool.eq_iff_iff];simp;omega)
theorem yEY(b:ByteArray)(w:World)(hs:b.size<=1000000):Calls prog 163 #[.string b] w fun e w'=>e=.returned (.bool (dgsL (bl b)))/\Below w.heap.size w w':=by
 have HL:Hid ((bl b).length=b.size):=zJ b;have K1:=z7 y7O
 go_enter func163,ntmps163
 go_wp2
 go_loopw [6] (fun i wr=>∃k:Nat,i=.int .i64 (k:Int)/\k<=b.size/\Hid (((bl b).take k).all dgB=true)/\wr=w) (fun i _=>b.size-(intOf i).toNat)
 case atStart=>exact⟨0,rfl,zD,z7 (by simp),rfl⟩
 case round=>
  obtain⟨k,rfl,hk,hR,rfl⟩:=hrel;by_cases H5:k<b.size
  . obtain⟨x,hx⟩:=zM (bl b) k (by rw[HL.out];exact H5)
    have X:∀h,b[k]'h=x:=zS b k x hx;have H6:=x.toNat_lt;obtain⟨h1,h2⟩:=zr dgB (bl b) k x hx hR.out;have k2:=fun w=>K1.out x w
    cases hc:dgB x with
    | true=>
     have e:=h1 hc;have E:=z7 e;clear e;clear h1 h2 hx;rw[hc]at k2;have K2:=z7 k2;clear k2;clear hc
     go_wp2_with (go_at_call 248;refine(K2.out _).mono ?_;rintro e w1 ⟨rfl,rfl⟩)
     go_roundw
     case rel=>exact⟨k+1,by first|omega|go_num,by omega,E,trivial⟩
     case measure=>simp[intOf];omega
    | false=>
     have e:dgsL (bl b)=false:=by unfold dgsL;rw[h2 hc];rfl
     have E:=z7 e;clear e;clear h1 h2 hx;rw[hc]at k2;have K2:=z7 k2;clear k2;clear hc
     go_wp2_with (go_at_call 248;refine(K2.out _).mono ?_;rintro e w1 ⟨rfl,rfl⟩)
     go_ret
     exact⟨y03 E.out.symm,z8⟩
  . have e:dgsL (bl b) = !(bl b).isEmpty:=by
     unfold dgsL;rw[y5s dgB (bl b) k (by rw[HL.out];omega) hR.out,Bool.true_and]
    have E:=z7 e;clear e;go_wp2;go_ret
    refine⟨y03 ?_,z8⟩;rw[E.out,ByteArray.toList_eq]
    first|done|rfl
theorem y5S(b:ByteArray)(w:World)(hs:b.size<=1000000):Calls prog 253 #[.string b] w fun e w'=>e=.returned (.bool (cpsL (bl b)))/\Below w.heap.size w w':=by
 have HL:Hid ((bl b).length=b.size):=zJ b;have K1:=z7 y7O
 go_enter func253,ntmps253
 go_wp2
 go_loopw [6] (fun i wr=>∃k:Nat,i=.int .i64 (k:Int)/\k<=b.size/\Hid (((bl b).take k).all cpB=true)/\wr=w) (fun i _=>b.size-(intOf i).toNat)
 case atStart=>exact⟨0,rfl,zD,z7 (by simp),rfl⟩
 case round=>
  obtain⟨k,rfl,hk,hR,rfl⟩:=hrel;by_cases H5:k<b.size
  . obtain⟨x,hx⟩:=zM (bl b) k (by rw[HL.out];exact H5)
    have X:∀h,b[k]'h=x:=zS b k x hx;have H6:=x.toNat_lt;obtain⟨h1,h2⟩:=zr cpB (bl b) k x hx hR.out;have k2:=fun w=>K1.out x w
    cases hc:cpB x with
    | true=>
     have e:=h1 hc;have E:=z7 e;clear e;clear h1 h2 hx;cases hd:dgB x with
     | true=>
      rw[hd]at k2;have K2:=z7 k2;clear k2;clear hc hd
      go_wp2_with (go_at_call 248;refine(K2.out _).mono ?_;rintro e w1 ⟨rfl,rfl⟩)
      go_roundw
      case rel=>exact⟨k+1,by first|omega|go_num,by omega,E,trivial⟩
      case measure=>simp[intOf];omega
     | false=>
      rw[hd]at k2;have g:(65:Int)<=(x.toNat:Int)/\(x.toNat:Int)<=90:=by unfold cpB at hc;rw[hd]at hc;simp at hc;omega
      obtain⟨g1,g2⟩:=g;have K2:=z7 k2;clear k2;clear hc hd
      go_wp2_with (go_at_call 248;refine(K2.out _).mono ?_;rintro e w1 ⟨rfl,rfl⟩)
      go_roundw
      case rel=>exact⟨k+1,by first|omega|go_num,by omega,E,trivial⟩
      case measure=>simp[intOf];omega
    | false=>
     have e:cpsL (bl b)=false:=by unfold cpsL;rw[h2 hc];rfl
     have E:=z7 e;clear e;clear h1 h2 hx;cases hd:dgB x with
     | true=>unfold cpB at hc;rw[hd]at hc;cases hc
     | false=>
      rw[hd]at k2;have g:(x.toNat:Int)<65\/(90:Int)<(x.toNat:Int):=by unfold cpB at hc;rw[hd]at hc;simp at hc;omega
      have K2:=z7 k2;clear k2;clear hc hd;by_cases g1:(x.toNat:Int)<65
      . clear g
        go_wp2_with (go_at_call 248;refine(K2.out _).mono ?_;rintro e w1 ⟨rfl,rfl⟩)
        go_ret
        exact⟨y03 E.out.symm,z8⟩
      . have g2:(90:Int)<(x.toNat:Int):=by omega
        clear g
        go_wp2_with (go_at_call 248;refine(K2.out _).mono ?_;rintro e w1 ⟨rfl,rfl⟩)
        go_ret
        exact⟨y03 E.out.symm,z8⟩
  . have e:cpsL (bl b) = !(bl b).isEmpty:=by
     unfold cpsL;rw[y5s cpB (bl b) k (by rw[HL.out];omega) hR.out,Bool.true_and]
    have E:=z7 e;clear e;go_wp2;go_ret
    refine⟨y03 ?_,z8⟩;rw[E.out,ByteArray.toList_eq]
    first|done|rfl
theorem yEQ(b:ByteArray)(w:World)(hs:b.size<=1000000):Calls prog 26 #[.string b] w fun e w'=>e=.returned (.bool (dgsL (bl b)))/\Below w.heap.size w w':=by
 have HL:Hid ((bl b).length=b.size):=zJ b;have K1:=z7 y7I
 go_enter func26,ntmps26
 go_wp2
 go_loopw [3] (fun i wr=>∃k:Nat,i=.int .i64 (k:Int)/\k<=b.size/\Hid (((bl b).take k).all dgB=true)/\wr=w) (fun i _=>b.size-(intOf i).toNat)
 case atStart=>exact⟨0,rfl,zD,z7 (by simp),rfl⟩
 case round=>
  obtain⟨k,rfl,hk,hR,rfl⟩:=hrel;by_cases H5:k<b.size
  . obtain⟨x,hx⟩:=zM (bl b) k (by rw[HL.out];exact H5)
    have X:∀h,b[k]'h=x:=zS b k x hx;have H6:=x.toNat_lt;obtain⟨h1,h2⟩:=zr dgB (bl b) k x hx hR.out;have k2:=fun w=>K1.out x w
    cases hc:dgB x with
    | true=>
     have e:=h1 hc;have E:=z7 e;clear e;clear h1 h2 hx;rw[hc]at k2;have K2:=z7 k2;clear k2;clear hc
     go_wp2_with (go_at_call 49;refine(K2.out _).mono ?_;rintro e w1 ⟨rfl,rfl⟩)
     go_roundw
     case rel=>exact⟨k+1,by first|omega|go_num,by omega,E,trivial⟩
     case measure=>simp[intOf];omega
    | false=>
     have e:dgsL (bl b)=false:=by unfold dgsL;rw[h2 hc];rfl
     have E:=z7 e;clear e;clear h1 h2 hx;rw[hc]at k2;have K2:=z7 k2;clear k2;clear hc
     go_wp2_with (go_at_call 49;refine(K2.out _).mono ?_;rintro e w1 ⟨rfl,rfl⟩)
     go_ret
     exact⟨y03 E.out.symm,z8⟩
  . have e:dgsL (bl b)=decide ((b.size:Int) > 0):=by
     unfold dgsL;rw[y5s dgB (bl b) k (by rw[HL.out];omega) hR.out,Bool.true_and];rw[Bool.eq_iff_iff,decide_eq_true_iff,Bool.not_eq_true',List.isEmpty_eq_false_iff,<-List.length_pos_iff,HL.out];omega
    have E:=z7 e;clear e;go_wp2;go_ret
    refine⟨y03 ?_,z8⟩;rw[E.out]
    first|done|simp
theorem y8T(b:ByteArray)(w:World)(hs:b.size<=1000000):Calls prog 47 #[.string b] w fun e w'=>e=.returned (.bool (cpsL (bl b)))/\Below w.heap.size w w':=by
 have HL:Hid ((bl b).length=b.size):=zJ b;have K1:=z7 y7J
 go_enter func47,ntmps47
 go_wp2
 go_loopw [3] (fun i wr=>∃k:Nat,i=.int .i64 (k:Int)/\k<=b.size/\Hid (((bl b).take k).all cpB=true)/\wr=w) (fun i _=>b.size-(intOf i).toNat)
 case atStart=>exact⟨0,rfl,zD,z7 (by simp),rfl⟩
 case round=>
  obtain⟨k,rfl,hk,hR,rfl⟩:=hrel;by_cases H5:k<b.size
  . obtain⟨x,hx⟩:=zM (bl b) k (by rw[HL.out];exact H5)
    have X:∀h,b[k]'h=x:=zS b k x hx;have H6:=x.toNat_lt;obtain⟨h1,h2⟩:=zr cpB (bl b) k x hx hR.out;have k2:=fun w=>K1.out x w
    cases hc:cpB x with
    | true=>
     have e:=h1 hc;have E:=z7 e;clear e;clear h1 h2 hx;rw[hc]at k2;have K2:=z7 k2;clear k2;clear hc
     go_wp2_with (go_at_call 79;refine(K2.out _).mono ?_;rintro e w1 ⟨rfl,rfl⟩)
     go_roundw
     case rel=>exact⟨k+1,by first|omega|go_num,by omega,E,trivial⟩
     case measure=>simp[intOf];omega
    | false=>
     have e:cpsL (bl b)=false:=by unfold cpsL;rw[h2 hc];rfl
     have E:=z7 e;clear e;clear h1 h2 hx;rw[hc]at k2;have K2:=z7 k2;clear k2;clear hc
     go_wp2_with (go_at_call 79;refine(K2.out _).mono ?_;rintro e w1 ⟨rfl,rfl⟩)
     go_ret
     exact⟨y03 E.out.symm,z8⟩
  . have e:cpsL (bl b)=decide ((b.size:Int) > 0):=by
     unfold cpsL;rw[y5s cpB (bl b) k (by rw[HL.out];omega) hR.out,Bool.true_and];rw[Bool.eq_iff_iff,decide_eq_true_iff,Bool.not_eq_true',List.isEmpty_eq_false_iff,<-List.length_pos_iff,HL.out];omega
    have E:=z7 e;clear e;go_wp2;go_ret
    refine⟨y03 ?_,z8⟩;rw[E.out]
    first|done|simp
theorem yIS(l:List UInt8)(i k:Nat)(hi:wdI l=i)(hk:i<=k)(hl:k<=l.length)(ha:((l.drop i).take (k-i)).all azB=true)(hn:∀c,l[k]?=some c->azB c=false):wdJ l=k:=by
 unfold wdJ;rw[hi,y1k azB (l.drop i) (k-i) ha (by rw[List.length_drop];omega) fun c hc=>hn c (by rw[List.getElem?_drop]at hc;rwa [show i+(k-i)=k by omega]at hc)];omega
theorem yK4(l:List UInt8)(i k:Nat)(x:UInt8)(H5:i<=k)(hx:l[k]?=some x)(h:azB x=true)(ha:((l.drop i).take (k-i)).all azB=true):((l.drop i).take (k+1-i)).all azB=true:=by
 have:=(zr azB (l.drop i) (k-i) x (by rw[List.getElem?_drop];rwa [show i+(k-i)=k by omega]) ha).1 h
 rwa [show k-i+1=k+1-i by omega]at this
theorem yGh(b:ByteArray)(w:World)(hs:b.size<=1000000):Calls prog 249 #[.string b] w fun e w'=>e=.returned (.tuple #[.int .i64 (wdI (bl b)),.int .i64 (wdJ (bl b))])/\Below w.heap.size w w':=by
 have HL:Hid ((bl b).length=b.size):=zJ b
 go_enter func249,ntmps249
 go_wp2
 go_loopw [4] (fun i wr=>∃k:Nat,i=.int .i64 (k:Int)/\k<=b.size/\Hid (((bl b).take k).all blB=true)/\wr=w) (fun i _=>b.size-(intOf i).toNat)
 case atStart=>exact⟨0,rfl,zD,z7 (by simp),rfl⟩
 case round=>
  obtain⟨k,rfl,hk,hR,rfl⟩:=hrel;have fin:∀(hn:∀c,(bl b)[k]?=some c->blB c=false),Hid (wdI (bl b)=k):=fun hn=>y1k blB (bl b) k hR.out (by rw[HL.out];exact hk) hn
  by_cases H6:k<b.size
  . obtain⟨x,hx⟩:=zM (bl b) k (by rw[HL.out];exact H6)
    have X:∀h,b[k]'h=x:=zS b k x hx;obtain⟨h1,h2⟩:=zr blB (bl b) k x hx hR.out;cases hc:blB x with
    | true=>
     have e:=h1 hc;have E:=z7 e;clear e;clear h1 h2 hx fin;have g:x=32\/x=9:=by simpa[blB]using hc
     clear hc;rcases g with rfl|rfl
     . go_wp2
       go_roundw
       case rel=>exact⟨k+1,by first|omega|go_num,by omega,E,trivial⟩
       case measure=>simp[intOf];omega
     . go_wp2
       go_roundw
       case rel=>exact⟨k+1,by first|omega|go_num,by omega,E,trivial⟩
       case measure=>simp[intOf];omega
    | false=>
     have FI:=fin (fun c H5=>by rw[hx]at H5;cases H5;exact hc);have g1:¬(x.toNat:Int)=32:=fun h=>by
      have:x=32:=by apply UInt8.toNat_inj.1;simpa using(by omega:x.toNat=32)
      subst this;cases hc
     have g2:¬(x.toNat:Int)=9:=fun h=>by
      have:x=9:=by apply UInt8.toNat_inj.1;simpa using(by omega:x.toNat=9)
      subst this;cases hc
     have g3:((x.toNat:Int)==32)=false:=by simpa using g1
     have g4:((x.toNat:Int)==9)=false:=by simpa using g2
     clear h1 h2 hx fin hc hR g1 g2;go_wp2
     go_loopw [5] (fun i wr2=>∃m:Nat,i=.int .i64 (m:Int)/\k<=m/\m<=b.size/\Hid ((((bl b).drop k).take (m-k)).all azB=true)/\wr2=wr) (fun i _=>b.size-(intOf i).toNat)
     case atStart=>exact⟨k,rfl,zA,hk,z7 (by simp),rfl⟩
     case round=>
      obtain⟨m,rfl,H7,hm,hR,rfl⟩:=hrel;have fin:∀(hn:∀c,(bl b)[m]?=some c->azB c=false),wdJ (bl b)=m:=fun hn=>yIS (bl b) k m FI.out H7 (by rw[HL.out];exact hm) hR.out hn
      by_cases H6:m<b.size
      . obtain⟨x,hx⟩:=zM (bl b) m (by rw[HL.out];exact H6)
        have X:∀h,b[m]'h=x:=zS b m x hx;have H8:=x.toNat_lt;cases hc:azB x with
        | true=>
         have E:=z7 (yK4 (bl b) k m x H7 hx hc hR.out);have g:(65:Int)<=(x.toNat:Int)/\(x.toNat:Int)<=90:=by unfold azB at hc;simp at hc;omega
         obtain⟨g1,g2⟩:=g;clear hx fin hc;go_wp2;go_roundw
         case rel=>exact⟨m+1,by first|omega|go_num,by omega,by omega,E,trivial⟩
         case measure=>simp[intOf];omega
        | false=>
         have J:=z7 (fin (fun c H5=>by rw[hx]at H5;cases H5;exact hc));have g:(x.toNat:Int)<65\/(90:Int)<(x.toNat:Int):=by unfold azB at hc;simp at hc;omega
         clear hx fin hc;by_cases g1:(x.toNat:Int)<65
         . clear g
           go_wp2
           go_ret2
           exact⟨by rw[FI.out,J.out];first|done|rfl,z8⟩
         . have g2:(90:Int)<(x.toNat:Int):=by omega
           clear g;go_wp2;go_ret2
           exact⟨by rw[FI.out,J.out];first|done|rfl,z8⟩
      . have J:=z7 (fin (fun c H5=>by rw[List.getElem?_eq_none (by rw[HL.out];omega)]at H5;cases H5))
        have hz:m=b.size:=by omega
        clear fin;go_wp2;go_ret2
        exact⟨by rw[FI.out,J.out];first|done|rfl,z8⟩
  . have FI:=fin (fun c H5=>by rw[List.getElem?_eq_none (by rw[HL.out];omega)]at H5;cases H5)
    have j0:wdJ (bl b)=k:=yIS (bl b) k k FI.out zA (by rw[HL.out];exact hk) (by simp) (fun c H5=>by rw[List.getElem?_eq_none (by rw[HL.out];omega)]at H5;cases H5);have J:=z7 j0;clear j0;clear fin hR;go_wp2
    go_loopw [5] (fun i wr2=>i=.int .i64 (k:Int)/\wr2=wr) (fun i _=>b.size-(intOf i).toNat)
    case atStart=>exact⟨rfl,rfl⟩
    case round=>
     obtain⟨rfl,rfl⟩:=hrel;go_wp2;go_ret2
     exact⟨by rw[FI.out,J.out];first|done|rfl,z8⟩
def y7b(c f:UInt8):Bool:=if f=48 then dgB c else c==f
def yA8(l g:List UInt8)(k:Nat):Bool:=match l[k]?,g[k]? with|some c,some f=>if f=48 then dgB c else c==f|_,_=>true
theorem yFK(l g:List UInt8)(h:l.length=g.length):zW l g=(List.range l.length).all (yA8 l g):=y8j l g h
theorem yBb(l g:List UInt8)(k:Nat)(c f:UInt8)(hc:l[k]?=some c)(hf:g[k]?=some f):yA8 l g k=y7b c f:=by unfold yA8;rw[hc,hf];rfl
theorem yGY(c f:UInt8):(c==f)=decide ((c.toNat:Int)=(f.toNat:Int)):=by
 rw[Bool.eq_iff_iff,beq_iff_eq,decide_eq_true_iff,Int.ofNat_inj,UInt8.toNat_inj]
theorem y0v(s form:ByteArray)(w:World)(hs:s.size<=1000000)(H7:form.size<=1000000):Calls prog 164 #[.string s,.string form] w fun e w'=>e=.returned (.bool (zW (bl s) (bl form)))/\Below w.heap.size w w':=by
 have HS:Hid ((bl s).length=s.size):=zJ s;have HF:Hid ((bl form).length=form.size):=zJ form;have K1:=z7 y7O;by_cases hz:s.size=form.size
 . have HK:=z7 (yFK (bl s) (bl form) (by rw[HS.out,HF.out,hz]))
   have H8:(s.size:Int)=(form.size:Int):=by omega
   go_enter func164,ntmps164
   go_wp2
   go_loopw [13] (fun i wr=>∃k:Nat,i=.int .i64 (k:Int)/\k<=form.size/\Hid ((List.range k).all (yA8 (bl s) (bl form))=true)/\Below w.heap.size w wr) (fun i _=>form.size-(intOf i).toNat)
   case atStart=>exact⟨0,rfl,zD,z7 rfl,z8⟩
   case round=>
    obtain⟨k,rfl,hk,hR,H5⟩:=hrel;by_cases H9:k<form.size
    . have H6:k<s.size:=by omega
      obtain⟨x,hx⟩:=zM (bl s) k (by rw[HS.out];exact H6);obtain⟨y,hy⟩:=zM (bl form) k (by rw[HF.out];exact H9);have X:∀h,s[k]'h=x:=zS s k x hx;have Y:∀h,form[k]'h=y:=zS form k y hy;have Hb:=x.toNat_lt;have Ha:=y.toNat_lt;have q:=yBb (bl s) (bl form) k x y hx hy;obtain⟨h1,h2⟩:=y3W (yA8 (bl s) (bl form)) (bl s).length k (by rw[HS.out];exact H6) hR.out;rw[<-HK.out]at h2;rw[q]at h1 h2;clear hx hy q;by_cases hf:y=48
      . subst hf
        have k2:=fun w=>K1.out x w
        have e0:y7b x 48=dgB x:=by unfold y7b;rw[if_pos rfl]
        rw[e0]at h1 h2;cases hc:dgB x with
        | true=>
         rw[hc]at k2;have e:=h1 hc;have E:=z7 e;have K2:=z7 k2;clear e k2;clear h1 h2 hc e0
         go_wp2_with (go_at_call 248;refine(K2.out _).mono ?_;rintro e w1 ⟨rfl,rfl⟩)
         go_roundw
         case rel=>exact⟨k+1,by first|omega|go_num,by omega,E,by first|exact H5|exact H5.drew⟩
         case measure=>simp[intOf];omega
        | false=>
         rw[hc]at k2;have e:=h2 hc;have E:=z7 e;have K2:=z7 k2;clear e k2;clear h1 h2 hc e0
         go_wp2_with (go_at_call 248;refine(K2.out _).mono ?_;rintro e w1 ⟨rfl,rfl⟩)
         go_ret
         exact⟨y03 E.out.symm,by first|exact H5|exact H5.drew⟩
      . have g1:((y.toNat:Int)==48)=false:=by rw[Y2];intro h;exact hf (by apply UInt8.toNat_inj.1;simpa using(by omega:y.toNat=48))
        have e0:y7b x y=decide ((x.toNat:Int)=(y.toNat:Int)):=by unfold y7b;rw[if_neg hf,yGY]
        rw[e0]at h1 h2;clear hf e0;obtain⟨p,hp⟩:∃p,p=(x.toNat:Int):=⟨_,rfl⟩;obtain⟨r,hr⟩:∃r,r=(y.toNat:Int):=⟨_,rfl⟩;have X':∀h,((s[k]'h).toNat:Int)=p:=fun h=>by rw[X h,hp]
        have Y':∀h,((form[k]'h).toNat:Int)=r:=fun h=>by rw[Y h,hr]
        rw[<-hp,<-hr]at h1 h2;rw[<-hr]at g1;clear X Y;by_cases hc:p=r
        . have e:=h1 (decide_eq_true hc)
          have E:=z7 e;clear e;have g2:(p==r)=true:=by simpa using hc
          clear h1 h2;subst hc;go_wp2
          go_region
          go_wp2
          go_roundw
          case rel=>exact⟨k+1,by first|omega|go_num,by omega,E,by first|exact H5|exact H5.drew⟩
          case measure=>simp[intOf];omega
        . have e:=h2 (decide_eq_false hc)
          have E:=z7 e;clear e;have g2:(p==r)=false:=by simpa using hc
          clear h1 h2;go_wp2
          go_region
          go_wp2
          go_ret
          exact⟨y03 E.out.symm,by first|exact H5|exact H5.drew⟩
    . have e:zW (bl s) (bl form)=true:=by rw[HK.out,HS.out,hz,show form.size=k by omega];exact hR.out
      have Hc:k=form.size:=by omega
      have E:=z7 e;clear e;go_wp2;go_ret
      exact⟨y03 E.out.symm,by first|exact H5|exact H5.drew⟩
 . have e:zW (bl s) (bl form)=false:=y7a (by rw[HS.out,HF.out];exact hz)
   have H8:¬(s.size:Int)=(form.size:Int):=by omega
   rw[e]
   go_enter func164,ntmps164
   go_wp2
   go_ret
   exact⟨rfl,z8⟩
theorem y1w(s form:ByteArray)(w:World)(hs:s.size<=1000000)(H7:form.size<=1000000):Calls prog 50 #[.string s,.string form] w fun e w'=>e=.returned (.bool (zW (bl s) (bl form)))/\Below w.heap.size w w':=by
 have HS:Hid ((bl s).length=s.size):=zJ s;have HF:Hid ((bl form).length=form.size):=zJ form;have K1:=z7 y7I;by_cases hz:s.size=form.size
 . have HK:=z7 (yFK (bl s) (bl form) (by rw[HS.out,HF.out,hz]))
   have H8:(s.size:Int)=(form.size:Int):=by omega
   go_enter func50,ntmps50
   go_wp2
   go_loopw [5] (fun i wr=>∃k:Nat,i=.int .i64 (k:Int)/\k<=form.size/\Hid ((List.range k).all (yA8 (bl s) (bl form))=true)/\Below w.heap.size w wr) (fun i _=>form.size-(intOf i).toNat)
   case atStart=>exact⟨0,rfl,zD,z7 rfl,z8⟩
   case round=>
    obtain⟨k,rfl,hk,hR,H5⟩:=hrel;by_cases H9:k<form.size
    . have H6:k<s.size:=by omega
      obtain⟨x,hx⟩:=zM (bl s) k (by rw[HS.out];exact H6);obtain⟨y,hy⟩:=zM (bl form) k (by rw[HF.out];exact H9);have X:∀h,s[k]'h=x:=zS s k x hx;have Y:∀h,form[k]'h=y:=zS form k y hy;have Hb:=x.toNat_lt;have Ha:=y.toNat_lt;have q:=yBb (bl s) (bl form) k x y hx hy;obtain⟨h1,h2⟩:=y3W (yA8 (bl s) (bl form)) (bl s).length k (by rw[HS.out];exact H6) hR.out;rw[<-HK.out]at h2;rw[q]at h1 h2;clear hx hy q;by_cases hf:y=48
      . subst hf
        have k2:=fun w=>K1.out x w
        have e0:y7b x 48=dgB x:=by unfold y7b;rw[if_pos rfl]
        rw[e0]at h1 h2;cases hc:dgB x with
        | true=>
         rw[hc]at k2;have e:=h1 hc;have E:=z7 e;have K2:=z7 k2;clear e k2;clear h1 h2 hc e0
         go_wp2_with (go_at_call 49;refine(K2.out _).mono ?_;rintro e w1 ⟨rfl,rfl⟩)
         go_roundw
         case rel=>exact⟨k+1,by first|omega|go_num,by omega,E,by first|exact H5|exact H5.drew⟩
         case measure=>simp[intOf];omega
        | false=>
         rw[hc]at k2;have e:=h2 hc;have E:=z7 e;have K2:=z7 k2;clear e k2;clear h1 h2 hc e0
         go_wp2_with (go_at_call 49;refine(K2.out _).mono ?_;rintro e w1 ⟨rfl,rfl⟩)
         go_ret
         exact⟨y03 E.out.symm,by first|exact H5|exact H5.drew⟩
      . have g1:((y.toNat:Int)==48)=false:=by rw[Y2];intro h;exact hf (by apply UInt8.toNat_inj.1;simpa using(by omega:y.toNat=48))
        have e0:y7b x y=decide ((x.toNat:Int)=(y.toNat:Int)):=by unfold y7b;rw[if_neg hf,yGY]
        rw[e0]at h1 h2;clear hf e0;obtain⟨p,hp⟩:∃p,p=(x.toNat:Int):=⟨_,rfl⟩;obtain⟨r,hr⟩:∃r,r=(y.toNat:Int):=⟨_,rfl⟩;have X':∀h,((s[k]'h).toNat:Int)=p:=fun h=>by rw[X h,hp]
        have Y':∀h,((form[k]'h).toNat:Int)=r:=fun h=>by rw[Y h,hr]
        rw[<-hp,<-hr]at h1 h2;rw[<-hr]at g1;clear X Y;by_cases hc:p=r
        . have e:=h1 (decide_eq_true hc)
          have E:=z7 e;clear e;have g2:(p==r)=true:=by simpa using hc
          clear h1 h2;subst hc;go_wp2
          go_region
          go_wp2
          go_roundw
          case rel=>exact⟨k+1,by first|omega|go_num,by omega,E,by first|exact H5|exact H5.drew⟩
          case measure=>simp[intOf];omega
        . have e:=h2 (decide_eq_false hc)
          have E:=z7 e;clear e;have g2:(p==r)=false:=by simpa using hc
          clear h1 h2;go_wp2
          go_region
          go_wp2
          go_ret
          exact⟨y03 E.out.symm,by first|exact H5|exact H5.drew⟩
    . have e:zW (bl s) (bl form)=true:=by rw[HK.out,HS.out,hz,show form.size=k by omega];exact hR.out
      have Hd:k=form.size:=by omega
      have Hc:¬k<s.size:=by omega
      have E:=z7 e;clear e;go_wp2;go_ret
      exact⟨y03 E.out.symm,by first|exact H5|exact H5.drew⟩
 . have e:zW (bl s) (bl form)=false:=y7a (by rw[HS.out,HF.out];exact hz)
   have H8:¬(s.size:Int)=(form.size:Int):=by omega
   rw[e]
   go_enter func50,ntmps50
   go_wp2
   go_ret
   exact⟨rfl,z8⟩
def wB(c:UInt8):Bool:=c==32 || cpB c
theorem yDQ:∀(l:List UInt8),l ≠ []->l.head?≠some 32->y0F l=l.all wB
 | [],h,_=>absurd rfl h
 | c::r,_,h=>by
  have h1:(c==32)=false:=by rw[Y2];intro e;exact h (by rw[e];rfl)
  rw[List.all_cons,show wB c=cpB c by unfold wB;rw[h1,Bool.false_or]];rfl
theorem y83(l:List UInt8)(h:l = []\/l.head?=some 32):y0F l=false:=by
 match l,h with
 | [],_=>rfl
 | c::r,h=>
  have:c=32:=by rcases h with h|h<;>simp at h;exact h
  subst this;rfl
theorem yK0(x:UInt8):cpsL [x]=cpB x:=by simp[cpsL]
theorem bl_one(b:ByteArray)(k:Nat)(x:UInt8)(hk:k<b.size)(hx:(bl b)[k]?=some x):bl (b.extract k (k+1)) = [x]:=by
 rw[Go.Rf.extract_bytes b k (k+1) (by omega) hk];show((bl b).drop k).take (k+1-k) = [x];rw[show k+1-k=1 by omega,y0h (bl b) k x hx];rfl
theorem yAZ(b:ByteArray)(w:World)(hs:b.size<=1000000):Calls prog 256 #[.string b] w fun e w'=>e=.returned (.bool (y0F (bl b)))/\Below w.heap.size w w':=by
 have HL:Hid ((bl b).length=b.size):=zJ b;have K1:=z7 y5S;by_cases h0:b.size=0
 . have e:y0F (bl b)=false:=y83 _ (.inl (by apply List.length_eq_zero_iff.1;rw[HL.out];exact h0))
   rw[e];have hb:b=⟨#[]⟩:=by apply ByteArray.ext;apply Array.eq_empty_of_size_eq_zero;exact h0
   subst hb;clear e h0
   go_enter func256,ntmps256
   go_wp2
   go_ret
   exact⟨rfl,z8⟩
 . obtain⟨c,hc⟩:=zM (bl b) 0 (by rw[HL.out];omega)
   have X0:∀h,b[0]'h=c:=zS b 0 c hc;have Hc:b.toList.isEmpty=false:=by
    rw[ByteArray.toList_eq];show(bl b).isEmpty=false;rw[List.isEmpty_eq_false_iff];intro h;rw[h]at hc;cases hc
   have Ha:0<b.size:=by omega
   have Hd:=c.toNat_lt;by_cases H7:c=32
   . subst H7
     have e:y0F (bl b)=false:=y83 _ (.inr (by rw[List.head?_eq_getElem?];exact hc));rw[e];clear e hc h0
     go_enter func256,ntmps256
     go_wp2
     go_ret
     exact⟨rfl,z8⟩
   . have e:y0F (bl b)=(bl b).all wB:=yDQ _ (by intro h;rw[h]at hc;cases hc) (by rw[List.head?_eq_getElem?,hc];simpa using H7)
     rw[e];have g0:((c.toNat:Int)==32)=false:=by rw[Y2];intro h;exact H7 (by apply UInt8.toNat_inj.1;simpa using(by omega:c.toNat=32))
     clear e hc h0 H7
     go_enter func256,ntmps256
     go_wp2
     go_loopw [13] (fun i wr=>∃k:Nat,i=.int .i64 (k:Int)/\k<=b.size/\Hid (((bl b).take k).all wB=true)/\Below w.heap.size w wr) (fun i _=>b.size-(intOf i).toNat)
     case atStart=>exact⟨0,rfl,zD,z7 (by simp),z8⟩
     case round=>
      obtain⟨k,rfl,hk,hR,H5⟩:=hrel;by_cases H9:k<b.size
      . obtain⟨x,hx⟩:=zM (bl b) k (by rw[HL.out];exact H9)
        have X:∀h,b[k]'h=x:=zS b k x hx;have Hb:=x.toNat_lt;obtain⟨h1,h2⟩:=zr wB (bl b) k x hx hR.out;by_cases hq:x=32
        . subst hq
          have e:=h1 rfl;have E:=z7 e;clear e;clear h1 h2 hx;go_wp2;go_roundw
          case rel=>exact⟨k+1,by first|omega|go_num,by omega,E,H5⟩
          case measure=>simp[intOf];omega
        . have g1:((x.toNat:Int)==32)=false:=by rw[Y2];intro h;exact hq (by apply UInt8.toNat_inj.1;simpa using(by omega:x.toNat=32))
          have g3:¬(x.toNat:Int)=32:=by simpa using g1
          have ew:wB x=cpB x:=by unfold wB;rw[show(x==32)=false by rw[Y2];exact hq,Bool.false_or]
          have k2:∀w',Calls prog 253 #[.string (b.extract k (k+1))] w' fun e w''=>e=.returned (.bool (cpB x))/\Below w'.heap.size w' w'':=fun w'=>by
           have:=K1.out (b.extract k (k+1)) w' (by rw[zG];omega)
           rwa [bl_one b k x H9 hx,yK0]at this
          have t1:((k:Int)+1).toNat=k+1:=by omega
          rw[ew]at h1 h2;clear hq ew hx;cases H6:cpB x with
          | true=>
           rw[H6]at k2;have e:=h1 H6;have E:=z7 e;have K2:=z7 k2;clear e k2;clear h1 h2 H6
           go_wp2_with (go_at_call 253;refine(K2.out _).mono ?_;rintro e w1 ⟨rfl,H8⟩)
           go_roundw
           case rel=>exact⟨k+1,by first|omega|go_num,by omega,E,H5.trans (H8.mono H5.size)⟩
           case measure=>simp[intOf];omega
          | false=>
           rw[H6]at k2;have e:=h2 H6;have E:=z7 e;have K2:=z7 k2;clear e k2;clear h1 h2 H6
           go_wp2_with (go_at_call 253;refine(K2.out _).mono ?_;rintro e w1 ⟨rfl,H8⟩)
           go_ret
           exact⟨y03 E.out.symm,H5.trans (H8.mono H5.size)⟩
      . have e:=y5s wB (bl b) k (by rw[HL.out];omega) hR.out
        have E:=z7 e;clear e;go_wp2;go_ret
        exact⟨y03 E.out.symm,H5⟩
