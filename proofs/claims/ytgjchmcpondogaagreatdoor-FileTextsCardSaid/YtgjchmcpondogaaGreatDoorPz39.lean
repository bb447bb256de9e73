/- Pz39 -/
import Derived.Deep.RegionWith
import Derived.Deep.DeepCutAuto
import Derived.Test.YtgjchmcpondogaaGreatDoorPz38
import Derived.Test.YtgjchmcpondogaaGreatDoorPZ
set_option linter.all false
set_option maxRecDepth 100000
set_option maxHeartbeats 40000000
namespace Go.Proofs.YtgjchmcpondogaaGreatDoor
open Go Go.Rf Go.RowKit
theorem y75(k:Nat)(hk1:4≤k)(hk2:k<8)(b:ByteArray)(w:World)(hG:GW w)(hs:b.size≤1000):Calls Tryz.prog 15 #[.int .i64 (k:Int),.string b] w (RefR (txM k b) w):=by
 obtain⟨R,hR⟩:∃R,R=txM k b:=⟨_,rfl⟩;rw[←hR];unfold txM at hR;rcases(by omega:k=4∨k=5∨k=6∨k=7)with rfl|rfl|rfl|rfl
 · have K:=y9V b w hG hs
   rw[show cueM b=R from hR.symm]at K;have K:=Lib.hid K;clear hR hG
   go_enter Tryz.func15,Tryz.ntmps15
   go_wp2_with (go_at_call 34;(with_reducible refine(K.out).mono ?_);rintro e w1 ⟨hb1,(⟨a,ha,rfl⟩|⟨l,v,hl,rfl,hown⟩)⟩)
   · go_ret2
     exact⟨hb1,.inl ⟨a,ha,rfl⟩⟩
   · go_ret2
     exact⟨hb1,.inr ⟨l,v,hl,rfl,hown⟩⟩
 · have K:=y9N b w hG hs
   rw[show srtM b=R from hR.symm]at K;have K:=Lib.hid K;clear hR hG
   go_enter Tryz.func15,Tryz.ntmps15
   go_wp2_with (go_at_call 35;(with_reducible refine(K.out).mono ?_);rintro e w1 ⟨hb1,(⟨a,ha,rfl⟩|⟨l,v,hl,rfl,hown⟩)⟩)
   · go_ret2
     exact⟨hb1,.inl ⟨a,ha,rfl⟩⟩
   · go_ret2
     exact⟨hb1,.inr ⟨l,v,hl,rfl,hown⟩⟩
 · have K:=y83 b w hG hs
   rw[show ssaM b=R from hR.symm]at K;have K:=Lib.hid K;clear hR hG
   go_enter Tryz.func15,Tryz.ntmps15
   go_wp2_with (go_at_call 36;(with_reducible refine(K.out).mono ?_);rintro e w1 ⟨hb1,(⟨a,ha,rfl⟩|⟨l,v,hl,rfl,hown⟩)⟩)
   · go_ret2
     exact⟨hb1,.inl ⟨a,ha,rfl⟩⟩
   · go_ret2
     exact⟨hb1,.inr ⟨l,v,hl,rfl,hown⟩⟩
 · have K:=y9R b w hG hs
   rw[show lrcM b=R from hR.symm]at K;have K:=Lib.hid K;clear hR hG
   go_enter Tryz.func15,Tryz.ntmps15
   go_wp2_with (go_at_call 37;(with_reducible refine(K.out).mono ?_);rintro e w1 ⟨hb1,(⟨a,ha,rfl⟩|⟨l,v,hl,rfl,hown⟩)⟩)
   · go_ret2
     exact⟨hb1,.inl ⟨a,ha,rfl⟩⟩
   · go_ret2
     exact⟨hb1,.inr ⟨l,v,hl,rfl,hown⟩⟩
abbrev rtA(k:Int)(v:Value):Array Value:=#[.int .i64 k,.int .i64 0,.int .i64 0,.int .i64 0,.slice none 0 0,.slice none 0 0,.string ⟨#[]⟩,.int .i64 0,.int .u64 0,.int .u64 0,.int .u64 0,.string ⟨#[]⟩,.string ⟨#[]⟩,.string ⟨#[]⟩,.string ⟨#[]⟩,.int .i64 0,.slice none 0 0,.string ⟨#[]⟩,.slice none 0 0,.slice none 0 0,.string ⟨#[]⟩,.string ⟨#[]⟩,.int .i64 0,.slice none 0 0,.int .i64 0,.string ⟨#[]⟩,v,.int .i64 0]
theorem yGZ(w:World):Calls Tryz.prog 52 #[.int .i32 65279] w fun e w'=>e=.returned (.string ⟨#[239,187,191]⟩)∧Below w.heap.size w w':=by
 have:=y87 65279 (by unfold Scal;omega) w
 rwa [show(⟨(encR 65279).toArray⟩:ByteArray)=⟨#[239,187,191]⟩ from by decide +kernel]at this
theorem yI8(l:List Pc)(i:Nat)(p:Pc)(h:l[i]?=some p):whL (l.take (i+1))=whL (l.take i)++bl p.t:=by
 rw[List.take_add_one,h,y2b];simp[whL]
theorem yBw(k:Nat)(hk1:4≤k)(hk2:k<8)(v:Value)(l:List Pc)(w:World)(hG:GW w)(hrow:Row w v l.length (pcC l))(t:ByteArray)(ht:bl t=whL l)(hs:t.size≤999990)(hl:l.length≤10000000):
 Calls Tryz.prog 18 #[.agg (rtA k v)] w fun e w'=>e=.returned (.string (prB t))∧Below w.heap.size w w':=by
 obtain⟨W,hW⟩:∃W,W=w.alloc (.cells (rtA k v) 94):=⟨_,rfl⟩;have hbW:Below w.heap.size w W:=by rw[hW];exact bal (Below.refl _ _) _
 have lf:∀(j:Nat) (u:Value),(rtA k v)[j]?=some u→Live (w.alloc (.cells (rtA k v) 94)) w.heap.size j u:=fun j u h=>Live.fresh w _ 94 j u h
 rw[←hW]at lf;have m0:=(lf 0 _ rfl).1;have m26:=(lf 26 _ rfl).1;obtain⟨va,vc,rfl,_⟩:=id hrow;have HROW:=Lib.hid (hrow.keep hbW);have HG:=Lib.hid (hG.bel hbW);obtain⟨p,hp⟩:∃p,p=Lib.hasPrefix (bl t) [239,187,191]:=⟨_,rfl⟩;have hpr:prB t=if p=true then⟨#[239,187,191]⟩++t else t:=by rw[hp];rfl
 have kb:∀w',Below W.heap.size W w'→Calls Tryz.prog 51 #[.string t,.string ⟨#[239,187,191]⟩] w' fun e w''=>e=.returned (.bool p)∧Below w'.heap.size w' w'':=fun w' h=>by
  have:=yCo t ⟨#[239,187,191]⟩ w' (HG.out.bel h);rw[hp];exact this
 have KB:=Lib.hid kb;have HT:=Lib.hid ht;have HPR:=Lib.hid hpr;have HBW:=Lib.hid hbW;have HW:=Lib.hid hW;have KM:=Lib.hid yGZ;obtain⟨K,hK⟩:∃K:Int,K=(k:Int):=⟨_,rfl⟩;rw[←hK]at m0 HW ⊢;clear lf hrow hG hp kb hpr ht hbW hW;rcases(by omega:K=4∨K=5∨K=6∨K=7)with rfl|rfl|rfl|rfl
 all_goals
  clear hK hk1 hk2
  go_enter Tryz.func18,Tryz.ntmps18
  go_upto_region 1 with fail
  rw[←HW.out]
  go_wp2_with fail
  go_loopw [6,7] (fun sv iv wr=>∃(i:Nat) (s:ByteArray),iv=.int .i64 (i:Int)∧sv=.string s∧i≤l.length∧Hid (bl s=whL (l.take i))∧wr=W) (fun _ iv _=>l.length-(intOf iv).toNat)
  case atStart=>exact⟨0,⟨#[]⟩,rfl,rfl,Nat.zero_le _,Lib.hid rfl,rfl⟩
  case round=>
   obtain⟨i,s,rfl,rfl,hi,HS,rfl⟩:=hrel;by_cases hlt:i<l.length
   · obtain⟨q,hq⟩:=zM l i hlt
     obtain⟨g,o,c',e,_⟩:=y0D HROW.out _ _ (y34 l i q hq 0 _ rfl);simp only[Value.slice.injEq]at e;obtain⟨rfl,_,rfl⟩:=e;obtain⟨q0,q1,q2⟩:=y4u HROW.out i q hq;have e0:(0:Int)≤(i:Int):=by omega
     have e1:(i:Int)<(l.length:Int):=by omega
     have HS2:Hid (bl (s++q.t)=whL (l.take (i+1))):=Lib.hid (by rw[yI8 l i q hq,←HS.out];simp[bl]);have hsz:s.size+q.t.size≤999990:=by
      have h1:(whL (l.take (i+1))).length≤(whL l).length:=by
       conv=>rhs;rw[←List.take_append_drop (i+1) l,y2b]
       rw[List.length_append];omega
      rw[←HT.out,zJ,←HS2.out,zJ,ByteArray.size_append]at h1;omega
     have v1:¬9223372036854775807<s.size+q.t.size:=by omega
     clear hq
     go_wp2_with fail
     go_roundw
     case rel=>exact⟨i+1,s++q.t,by first|omega|go_num,rfl,by omega,HS2,by first|exact rfl|trivial⟩
     case measure=>simp[intOf];omega
   · have hst:s=t:=b_of (by rw[HS.out,List.take_of_length_le (by omega),←HT.out])
     have hs3:s.size≤999990:=by rw[hst];exact hs
     have v1:¬9223372036854775807<3+s.size:=by omega
     have v2:¬9223372036854775807<(⟨#[239,187,191]⟩:ByteArray).size+s.size:=by show ¬_<3+s.size;omega
     subst hst;cases p with
     | true=>
      go_wp2_with (first
       | (go_at_call 51;refine(KB.out _ hb1).mono ?_;rintro e w2 ⟨rfl,hb2⟩;have hb2':=bt hb1 hb2)
       | (go_at_call 52;refine(KM.out w2).mono ?_;rintro e w3 ⟨rfl,hb3⟩;have hb3':=bt hb2' hb3)
       | (go_at_call 52;refine(KM.out _).mono ?_;rintro e w1 ⟨rfl,hb1⟩))
      go_ret
      exact⟨by rw[HPR.out];rfl,HBW.out.trans (hb3'.mono HBW.out.size)⟩
     | false=>
      go_wp2_with (first
       | (go_at_call 51;refine(KB.out _ hb1).mono ?_;rintro e w2 ⟨rfl,hb2⟩;have hb2':=bt hb1 hb2)
       | (go_at_call 52;refine(KM.out _).mono ?_;rintro e w1 ⟨rfl,hb1⟩))
      go_ret
      exact⟨by rw[HPR.out];rfl,HBW.out.trans (hb2'.mono HBW.out.size)⟩
end Go.Proofs.YtgjchmcpondogaaGreatDoor
