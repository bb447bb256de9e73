/- Ci -/
import Derived.Test.YtohbeinhlhgfiaaGreatDoorMSk
set_option linter.unusedVariables false
set_option linter.unusedSimpArgs false
set_option maxHeartbeats 8000000
namespace Go.Proofs.YtohbeinhlhgfiaaGreatDoor
open Go.RowKit
noncomputable def signsM (c l s : Int) : List UInt8:=
 if c = 4 then (if (wSignM l s).2 = true then (textM [(wSignM l s).1]).1 else [])
 else if c = 5 then (if signJB (l * 256 + s) = true then (textM [signJ (l * 256 + s)]).1 else [])
 else (bSignsM l s).1
def SignsPost (r : List UInt8) (w : World) (e : Ending) (w' : World) : Prop:=e = .returned (.string ⟨r.toArray⟩) ∧ Below w.heap.size w w'
theorem csigns_any (c l s : Int) (w : World) (hT : TW w) (h0 : 0 ≤ l) (h1 : l ≤ 255) (h2 : 0 ≤ s) (h3 : s ≤ 255) :
 Calls Tryz.prog 291 #[.int .i64 c,.int .u8 l,.int .u8 s] w (SignsPost (signsM c l s) w):=by
 have k1:=fun w hT=>wsignK_any l s w hT h0 h1 h2 h3
 have k2:=fun w=>sign_any l s w h0 h1 h2 h3
 have k3:=fun w=>bsigns_any l s w h0 h1 h2 h3
 have k4:=fun w p t=>text_any _ [p] _ (row_one w p t) (by simp)
 by_cases c4 : c = 4
 · subst c4
   have hm : signsM 4 l s = if (wSignM l s).2 = true then (textM [(wSignM l s).1]).1 else []:=rfl
   rcases hp : wSignM l s with ⟨p,b⟩
   rw [hp] at k1 hm
   simp only at k1 hm
   rw [hm]
   obtain ⟨t,ht⟩ : ∃ t,t = textM [p]:=⟨_,rfl⟩
   have k4:=fun w t=>k4 w p t
   rw [← ht] at k4 ⊢
   clear hm hp ht
   have K1:=Lib.hid k1
   have K4:=Lib.hid k4
   clear k1 k4
   clear k2 k3
   cases b
   · go_enter Tryz.func291,Tryz.ntmps291
     go_wp2_with (go_at_call 262;refine (K1.out _ hT).mono ?_;rintro e w1 ⟨rfl,hb1⟩)
     refine bodyPost_ret (v:=.string ⟨#[]⟩) (by simp [results,Tryz.results291,go_sem]) rfl ?_
     exact (show SignsPost _ _ _ _ from ⟨rfl,hb1⟩)
   · go_enter Tryz.func291,Tryz.ntmps291
     go_wp2_with (first
      | (go_at_call 262;refine (K1.out _ hT).mono ?_;rintro e w1 ⟨rfl,hb1⟩)
      | (go_at_call 198;refine (K4.out _ _).mono ?_;rintro e w2 ⟨rfl,hb2⟩))
     refine bodyPost_ret (v:=.string ⟨t.1.toArray⟩) (by simp [results,Tryz.results291,go_sem]) rfl ?_
     exact (show SignsPost _ _ _ _ from ⟨rfl,bt (bal hb1 _) hb2⟩)
 · by_cases c5 : c = 5
   · subst c5
     have hm : signsM 5 l s = if signJB (l * 256 + s) = true then (textM [signJ (l * 256 + s)]).1 else []:=rfl
     rw [hm]
     generalize signJB (l * 256 + s) = b at *
     generalize signJ (l * 256 + s) = p at *
     obtain ⟨t,ht⟩ : ∃ t,t = textM [p]:=⟨_,rfl⟩
     have k4:=fun w t=>k4 w p t
     rw [← ht] at k4 ⊢
     clear hm ht
     have K2:=Lib.hid k2
     have K4:=Lib.hid k4
     clear k2 k4
     clear k1 k3
     cases b
     · go_enter Tryz.func291,Tryz.ntmps291
       go_wp2_with (go_at_call 260;refine (K2.out _).mono ?_;rintro e w1 ⟨rfl,rfl⟩)
       refine bodyPost_ret (v:=.string ⟨#[]⟩) (by simp [results,Tryz.results291,go_sem]) rfl ?_
       exact (show SignsPost _ _ _ _ from ⟨rfl,Below.refl _ _⟩)
     · go_enter Tryz.func291,Tryz.ntmps291
       go_wp2_with (first
        | (go_at_call 260;refine (K2.out _).mono ?_;rintro e w1 ⟨rfl,rfl⟩)
        | (go_at_call 198;refine (K4.out _ _).mono ?_;rintro e w2 ⟨rfl,hb2⟩))
       refine bodyPost_ret (v:=.string ⟨t.1.toArray⟩) (by simp [results,Tryz.results291,go_sem]) rfl ?_
       exact (show SignsPost _ _ _ _ from ⟨rfl,bt (bal (Below.refl _ _) _) hb2⟩)
   · have hm : signsM c l s = (bSignsM l s).1:=by unfold signsM;rw [if_neg c4,if_neg c5]
     rw [hm]
     generalize bSignsM l s = R at *
     have d4 : (c == 4) = false:=by simpa using c4
     have d5 : (c == 5) = false:=by simpa using c5
     have K3:=Lib.hid k3
     clear k3
     clear k1 k2 k4 hm
     go_enter Tryz.func291,Tryz.ntmps291
     go_wp2_with (go_at_call 264;refine (K3.out _).mono ?_;rintro e w1 ⟨rfl,hb1⟩)
     refine bodyPost_ret (v:=.string ⟨R.1.toArray⟩) (by simp [results,Tryz.results291,go_sem]) rfl ?_
     exact (show SignsPost _ _ _ _ from ⟨rfl,hb1⟩)
end Go.Proofs.YtohbeinhlhgfiaaGreatDoor
namespace Go.Proofs.YtohbeinhlhgfiaaGreatDoor
open Go.RowKit Go.Maps
def twoV (a b : UInt8) : Value:=.agg #[.int .u8 (a.toNat : Int),.int .u8 (b.toNat : Int)]
noncomputable def toldV (c : Int) (a b : UInt8) : Value:=.agg #[.string ⟨(signsM c a.toNat b.toNat).toArray⟩]
theorem twoV_inj {a b x y : UInt8} (h : twoV a b = twoV x y) : a = x ∧ b = y:=by
 simp only [twoV,Value.agg.injEq,Array.mk.injEq,List.cons.injEq,Value.int.injEq,true_and,and_true] at h
 exact ⟨UInt8.toNat_inj.1 (by omega),UInt8.toNat_inj.1 (by omega)⟩
def Memo (c : Int) (w : World) (blk : Nat) : Prop:=∃ S,MapS Tryz.prog 311 w blk S ∧ ∀ u v,S u v → ∀ a b : UInt8,u = twoV a b → v = toldV c a b
theorem Memo.made (c : Int) (w : World) : Memo c (w.alloc (.map #[] 0)) w.heap.size:=⟨_,MapS.made w _ _,fun _ _ h=>h.elim⟩
theorem Memo.lt {c : Int} {w : World} {b : Nat} (h : Memo c w b) : b < w.heap.size:=h.elim fun _ h=>h.1.lt
theorem Memo.blk {c : Int} {w w' : World} {b : Nat} (h : Memo c w b) (he : w'.heap[b]? = w.heap[b]?) : Memo c w' b:=h.elim fun S h=>⟨S,h.1.blk he,h.2⟩
theorem Memo.bel {c : Int} {w w' : World} {b : Nat} (h : Memo c w b) (hb : Below w.heap.size w w') : Memo c w' b:=h.blk (hb.block b h.lt)
theorem zeroTold (w : World) : (zeroValue 313).run Tryz.prog w = .ok (.agg #[.string ⟨#[]⟩]) w:=by
 have hz : (Tryz.prog.info? 313).map (·.zero) = some (some (.agg #[.string ⟨#[]⟩])):=by kernel_rfl
 cases hq : Tryz.prog.info? 313 with
 | none=>simp [hq] at hz
 | some ii=>
  have : ii.zero = some (.agg #[.string ⟨#[]⟩]):=by simpa [hq] using hz
  simp [zeroValue,typeInfo,hq,this]
section
variable {ops : Array Oper} {rest : List Oper} {o : Oper} {a : Act} {Q : Exit → Act → World → Prop}
theorem wpList_memoLook (w : World) (hg : o.guard = none) (m x : Operand) (hop : o.op = Op.lookup 310 m x true) (c : Int) (blk : Nat) (p q : UInt8) (hm : a.eval m = .map (some blk))
 (hS : Memo c w blk) (hx : a.eval x = twoV p q) (t : ByteArray) (ht : Hid (t = ⟨(signsM c p.toNat q.toNat).toArray⟩))
 (h0 : wpList Tryz.prog ops Q rest (a.put o.dst (.tuple #[.agg #[.string ⟨#[]⟩],.bool false])) w)
 (h1 : wpList Tryz.prog ops Q rest (a.put o.dst (.tuple #[.agg #[.string t],.bool true])) w) : wpList Tryz.prog ops Q (o :: rest) a w:=by
 obtain ⟨S,hM,hS⟩:=hS
 obtain ⟨kl,hk⟩:=key2 p q
 refine wpList_lookS w hg m x _ hop 311 313 keyed2 Tryz.underlying310 _ (zeroTold w) blk S hm hM _ kl hx hk (fun _=>h0) ?_
 intro v hv
 rw [hS _ _ hv p q rfl,toldV,← ht.out]
 exact h1
theorem wpList_memoStore (w : World) (hg : o.guard = none) (m x v : Operand) (hop : o.op = Op.mapUpdate 310 m x v) (c : Int) (blk : Nat) (p q : UInt8) (hm : a.eval m = .map (some blk))
 (hS : Memo c w blk) (hx : a.eval x = twoV p q) (hv : a.eval v = toldV c p q)
 (h : ∀ w',Memo c w' blk → w.grownBy w' (some blk) → wpList Tryz.prog ops Q rest (a.put o.dst undef) w') : wpList Tryz.prog ops Q (o :: rest) a w:=by
 obtain ⟨S,hM,hS⟩:=hS
 obtain ⟨kl,hk⟩:=key2 p q
 refine wpList_storeS w hg m x v _ hop 311 313 keyed2 Tryz.underlying310 blk S hm hM _ _ kl hx hv hk ?_
 intro w' hM' hg'
 refine h w' ⟨_,hM',?_⟩ hg'
 rintro u z (⟨rfl,rfl⟩ | ⟨_,hs⟩) x y e
 · obtain ⟨rfl,rfl⟩:=twoV_inj e
   rfl
 · exact hS _ _ hs x y e
end
end Go.Proofs.YtohbeinhlhgfiaaGreatDoor
namespace Go.Proofs.YtohbeinhlhgfiaaGreatDoor
open Go.RowKit
noncomputable def tok2 (c : Int) : Tok:=tokD fun x y=>signsM c x.toNat y.toNat
theorem Live.blk {w w' : World} {b o : Nat} {v : Value} (h : Live w b o v) (he : w'.heap[b]? = w.heap[b]?) : Live w' b o v:=by
 unfold Live World.cell? World.frozen? at *;rw [he];exact h
theorem flat_len : ∀ l : List Int,(l.flatMap encR).length ≤ 4 * l.length
 | []=>by simp
 | p :: l=>by
  have h1:=(encR_len p).2
  have h2:=flat_len l
  rw [List.flatMap_cons,List.length_append,List.length_cons]
  omega
theorem textM_len (l : List Int) : (textM l).1.length ≤ 4 * l.length:=by
 unfold textM
 split
 · exact flat_len l
 · simp
theorem twosL_len : ∀ (l : List (Int × Int × Int)) (a b : Int),(twosL l a b).1.length ≤ 8:=by
 intro l
 induction l with
 | nil=>intro a b;simp [twosL]
 | cons s l ih=>
  intro a b
  unfold twosL
  split
  · have:=textM_len [s.2.1,s.2.2];simp only [List.length_cons,List.length_nil] at this;omega
  · exact ih a b
theorem signs_len (c : Int) (x y : UInt8) : (signsM c x.toNat y.toNat).length ≤ 8:=by
 have h1:=fun p=>textM_len [p]
 simp only [List.length_cons,List.length_nil] at h1
 unfold signsM
 split
 · split
   · have:=h1 (wSignM x.toNat y.toNat).1;omega
   · simp
 · split
   · split
     · have:=h1 (signJ (x.toNat * 256 + y.toNat));omega
     · simp
   · unfold bSignsM
     split
     · have:=h1 (oneM x.toNat y.toNat).1;omega
     · have:=twosL_len bTwos x.toNat y.toNat;omega
set_option maxRecDepth 100000 in
theorem decodeTwo_any (c : Int) (b : ByteArray) (w : World) (hT : TW w) (hb : b.size ≤ 1073741824) :
 Calls Tryz.prog 245 #[.int .i64 c,.string b] w (DecPost (decT (tok2 c) (bl b)) w):=by
 have HBL : Hid ((bl b).length = b.size):=bl_length b
 obtain ⟨R,hR⟩ : ∃ R,R = decT (tok2 c) (bl b):=⟨_,rfl⟩
 rw [← hR]
 obtain ⟨W,hW⟩ : ∃ W,W = w.alloc (.cells #[.int .i64 0,.int .i64 0] 64):=⟨_,rfl⟩
 have s1 : W.heap.size = w.heap.size + 1:=by rw [hW];exact World.size_alloc _ _
 have m0 : Live (W.alloc (.map #[] 0)) w.heap.size 0 (.int .i64 0):=by rw [hW];exact (Live.fresh _ _ _ 0 _ rfl).alloc _
 have m1 : Live (W.alloc (.map #[] 0)) w.heap.size 1 (.int .i64 0):=by rw [hW];exact (Live.fresh _ _ _ 1 _ rfl).alloc _
 have hM0 : Memo c (W.alloc (.map #[] 0)) (w.heap.size + 1):=by rw [← s1];exact Memo.made c W
 have hb0 : Below w.heap.size w (W.alloc (.map #[] 0)):=by rw [hW];exact bal (bal (Below.refl _ _) _) _
 have hs0 : (W.alloc (.map #[] 0)).heap.size = w.heap.size + 2:=by rw [World.size_alloc,s1]
 have HR:=Lib.hid hR
 have HT:=Lib.hid hT
 have M0:=Lib.hid m0
 have M1:=Lib.hid m1
 have HM0:=Lib.hid hM0
 have HB0:=Lib.hid hb0
 have HS0:=Lib.hid hs0
 clear hR hT m0 m1 hM0 hb0 hs0
 go_enter Tryz.func245,Tryz.ntmps245
 go_wp2_with (refine wpList_mapNew rfl _ rfl _ ?_)
 rw [← hW]
 generalize W.alloc (.map #[] 0) = W0 at *
 go_loopw [7,8] (fun v at_ wr=>∃ (f k : Nat) (acc : List UInt8),at_ = .int .i64 (k : Int) ∧ Hid (Own wr (w.heap.size + 2) v acc) ∧ k ≤ b.size ∧ acc.length ≤ 1024 * k ∧ b.size - k ≤ f ∧ Hid (runT (tok2 c) f ((bl b).drop k) k acc = R) ∧
  Hid (Memo c wr (w.heap.size + 1)) ∧ Hid (Live wr w.heap.size 0 (.int .i64 0)) ∧ Hid (Live wr w.heap.size 1 (.int .i64 0)) ∧ Hid (w.heap.size + 2 ≤ wr.heap.size) ∧ Hid (Below w.heap.size w wr)) (fun _ at_ _=>b.size - (intOf at_).toNat)
 case atStart=>exact ⟨b.size,0,[],rfl,Lib.hid (Own.nil _ _),Nat.zero_le _,by simp,by omega,Lib.hid (by have:=HR.out;unfold decT at this;rw [HBL.out] at this;rw [List.drop_zero];exact this.symm),HM0,M0,M1,Lib.hid (Nat.le_of_eq HS0.out.symm),HB0⟩
 case round=>
  obtain ⟨f,k,acc,rfl,hown,hk,ha,hf,hRT,hMe,hn0,hn1,hsz,hbel⟩:=hrel
  by_cases hlt : k < b.size
  · obtain ⟨f,rfl⟩ : ∃ g,f = g + 1:=⟨f - 1,by omega⟩
    have hne : (bl b).drop k ≠ []:=drop_ne (by rw [HBL.out];exact hlt)
    obtain ⟨x,hx⟩:=at_some (bl b) k (by rw [HBL.out];exact hlt)
    have X : ∀ h,b[k]'h = x:=atB_of b k x hx
    have hxl:=x.toNat_lt
    have hd:=drop_at (bl b) k (List.getElem?_eq_some_iff.1 hx).1
    rw [(List.getElem?_eq_some_iff.1 hx).2] at hd
    by_cases hx8 : x.toNat < 128
    · have hx8' : x < 128:=by rw [UInt8.lt_iff_toNat_lt];exact hx8
      have ht : tok2 c ((bl b).drop k) = some ([x],1):=by
       rw [hd];unfold tok2
       cases (bl b).drop (k + 1) with
       | nil=>simp [tokD,hx8']
       | cons y l=>simp [tokD,hx8']
      have e1:=runT_some (tok:=tok2 c) f _ k acc _ _ hne ht
      rw [hRT.out,List.drop_drop] at e1
      have E1:=Lib.hid e1
      clear e1
      clear ht hne hx hd
      go_wp2_with (at_builtin;go_loud (refine wpList_push rfl _ _ rfl wr (w.heap.size + 2) u7 acc x rfl hown.out rfl (by omega) hsz.out ?_;intro v' w4 hown4 hb4))
      have r1:=Lib.hid hown4
      have r2:=Lib.hid (hMe.out.blk (hb4.block _ (by omega)))
      have hbb : Below (w.heap.size + 1) wr w4:=hb4.mono (by omega)
      have q0 : w4.heap[w.heap.size]? = wr.heap[w.heap.size]?:=hb4.block _ (by omega)
      have r3 : Live w4 w.heap.size 0 (.int .i64 0):=by
       have:=hn0.out;unfold Live World.cell? World.frozen? at *;rw [q0];exact this
      have r4 : Live w4 w.heap.size 1 (.int .i64 0):=by
       have:=hn1.out;unfold Live World.cell? World.frozen? at *;rw [q0];exact this
      have r5:=Nat.le_trans hsz.out hb4.size
      have r6:=hbel.out.trans (hb4.mono (by omega))
      exact ⟨⟨f,k + 1,acc ++ [x],by go_num,r1,by omega,by rw [List.length_append];simp;omega,by omega,Lib.hid E1.out.symm,r2,Lib.hid r3,Lib.hid r4,Lib.hid r5,Lib.hid r6⟩,by simp [intOf];omega⟩
    · have hx8' : ¬ x < 128:=by rw [UInt8.lt_iff_toNat_lt];exact hx8
      by_cases hk2 : k + 1 < b.size
      · obtain ⟨y,hy⟩:=at_some (bl b) (k + 1) (by rw [HBL.out];exact hk2)
        have Y : ∀ h,b[k + 1]'h = y:=atB_of b (k + 1) y hy
        have hyl:=y.toNat_lt
        have hd2:=drop_at (bl b) (k + 1) (List.getElem?_eq_some_iff.1 hy).1
        rw [(List.getElem?_eq_some_iff.1 hy).2] at hd2
        have ht : tok2 c ((bl b).drop k) = if signsM c x.toNat y.toNat = [] then none else some (signsM c x.toNat y.toNat,2):=by
         rw [hd,hd2];unfold tok2;simp [tokD,hx8']
        have kS:=fun w hT=>csigns_any c x.toNat y.toNat w hT (by omega) (by omega) (by omega) (by omega)
        have hsub : IntKind.i64.wrap ((b.size : Int) - (k : Int)) = (b.size : Int) - (k : Int):=wraps_i64 _ (by omega) (by omega)
        have hs2 : ¬ ((b.size : Int) - (k : Int) < 2):=by omega
        have hk1 : IntKind.i64.wrap ((k : Int) + 1) = (k : Int) + 1:=wraps_i64 _ (by omega) (by omega)
        have hk1n : ((k : Int) + 1).toNat = k + 1:=by omega
        have hk10 : (0 : Int) ≤ (k : Int) + 1:=by omega
        have HTK:=Lib.hid ht
        have KS:=Lib.hid kS
        clear ht kS
        clear hx hd hy hd2 hne
        go_wp2_with fail
        obtain ⟨tb,htb⟩ : ∃ tb : ByteArray,tb = ⟨(signsM c x.toNat y.toNat).toArray⟩:=⟨_,rfl⟩
        have hbt : bl tb = signsM c x.toNat y.toNat:=by rw [htb]
        have hfv : toldV c x y = .agg #[.string tb]:=by rw [htb];rfl
        have hKS : ∀ w,TW w → Calls Tryz.prog 291 #[.int .i64 c,.int .u8 (x.toNat : Int),.int .u8 (y.toNat : Int)] w (fun e w'=>e = .returned (.string tb) ∧ Below w.heap.size w w'):=by rw [htb];exact KS.out
        have htl : tb.size ≤ 1024:=by have:=signs_len c x y;rw [← bl_length,hbt];exact Nat.le_trans this (by decide)
        obtain ⟨W1,hW1⟩ : ∃ W1,W1 = (wr.alloc (.cells #[.int .u8 (x.toNat : Int),.int .u8 (y.toNat : Int)] 311)).drew:=⟨_,rfl⟩
        have hb1 : Below wr.heap.size wr W1:=by rw [hW1];exact (bal (Below.refl _ _) _).drew
        have q0 : Live W1 wr.heap.size 0 (.int .u8 (x.toNat : Int)):=by rw [hW1];exact (Live.fresh _ _ _ 0 _ rfl).drew
        have q1 : Live W1 wr.heap.size 1 (.int .u8 (y.toNat : Int)):=by rw [hW1];exact (Live.fresh _ _ _ 1 _ rfl).drew
        have hM1:=hMe.out.bel hb1
        have o1:=hown.out.bel hb1
        have a0:=hn0.out.keep hb1
        have a3:=hn1.out.keep hb1
        have z1:=a0.lt
        have z2:=q0.lt
        have hbw:=hbel.out.trans (hb1.mono hbel.out.size)
        have hz1:=Nat.le_trans hsz.out hb1.size
        have hT1:=HT.out.bel hbw
        have HTB:=Lib.hid htb
        have HBT:=Lib.hid hbt
        have HM1:=Lib.hid hM1
        have O1:=Lib.hid o1
        have HBW:=Lib.hid hbw
        have HT1:=Lib.hid hT1
        have HB1:=Lib.hid hb1
        have HZ1:=Lib.hid hz1
        have HFV:=Lib.hid hfv
        have HKS:=Lib.hid hKS
        have A0:=Lib.hid a0
        have A3:=Lib.hid a3
        have Q0:=Lib.hid q0
        have Q1:=Lib.hid q1
        clear htb hbt hM1 o1 hbw hT1 hb1 hz1 hfv hKS a0 a3 q0 q1
        clear KS
        go_region
        rw [← hW1]
        clear hW1
        obtain ⟨a1,a2⟩:=A0.out
        obtain ⟨a3,a4⟩:=A3.out
        obtain ⟨p0,_⟩:=Q0.out
        obtain ⟨p1,_⟩:=Q1.out
        by_cases hsn : bl tb = []
        · have hse : tb.toList.isEmpty = true:=by rw [ByteArray.toList_eq];simpa using hsn
          have ht2 : tok2 c ((bl b).drop k) = none:=by rw [HTK.out,if_pos (by rw [← HBT.out];exact hsn)]
          have e1:=runT_none (tok:=tok2 c) f _ k acc (drop_ne (by rw [HBL.out];exact hlt)) ht2
          rw [hRT.out] at e1
          have E1:=Lib.hid e1
          have HSN:=Lib.hid hsn
          clear e1 hsn
          clear ht2
          go_wp2_with (at_lookup;go_loud (refine wpList_memoLook W1 rfl _ _ rfl c (w.heap.size + 1) x y rfl HM1.out rfl tb HTB ?_ ?_))
          · refine (HKS.out _ (HT1.out.alloc _)).mono ?_
            rintro e w3 ⟨rfl,hb3⟩
            have hb13:=bt (bal (Below.refl W1.heap.size W1) (.cells #[.string ⟨#[]⟩] 313)) hb3
            obtain ⟨c0,c0'⟩:=(Live.fresh W1 #[.string ⟨#[]⟩] 313 0 _ rfl).keep hb3
            obtain ⟨d0,_⟩:=Q0.out.keep hb13
            obtain ⟨d1,_⟩:=Q1.out.keep hb13
            have z3:=cell_lt c0
            have hz1:=HZ1.out
            have hM4 : Memo c (w3.setCell ⟨W1.heap.size,0,none⟩ (.string tb)) (w.heap.size + 1):=(HM1.out.bel hb13).blk (Below.heap_setCell _ _ _ _ (by simp only;omega))
            have hX : ∀ w5,(w3.setCell ⟨W1.heap.size,0,none⟩ (.string tb)).grownBy w5 (some (w.heap.size + 1)) →
             (∀ j,j < W1.heap.size → j ≠ w.heap.size + 1 → w5.heap[j]? = W1.heap[j]?) ∧ w5.cell? ⟨W1.heap.size,0,none⟩ = some (.string tb) ∧ Below w.heap.size w w5 ∧ W1.heap.size < w5.heap.size:=by
             intro w5 hg
             have hne : ∀ j,j < W1.heap.size → (w3.setCell ⟨W1.heap.size,0,none⟩ (.string tb)).heap[j]? = W1.heap[j]?:=fun j hj=>(Below.heap_setCell _ _ _ _ (Nat.ne_of_lt hj)).trans (hb13.block j hj)
             have hsz3 : (w3.setCell ⟨W1.heap.size,0,none⟩ (.string tb)).heap.size = w3.heap.size:=World.size_setCell _ _ _
             refine ⟨fun j hj h1=>(hg.block j (by omega) (fun e=>h1 (Option.some.inj e))).trans (hne j hj),?_,?_,?_⟩
             · exact hg.cell (World.cell?_setCell_same _ _ _ c0) (fun e=>absurd (Option.some.inj e) (by simp only;omega))
             · exact ((HBW.out.trans (hb13.mono HBW.out.size)).setCell (p:=⟨W1.heap.size,0,none⟩) (Nat.le_of_lt z1) _).grown hg (by omega) (by intro q hq;cases hq;omega)
             · have:=hg.size;omega
            have HM4:=Lib.hid hM4
            have HX:=Lib.hid hX
            have HB13:=Lib.hid hb13
            have HZ1':=Lib.hid hz1
            clear hM4 hX hb13 hz1
            clear hb3
            go_wp2_with (at_mapUpdate;go_loud (refine wpList_memoStore _ rfl _ _ _ rfl c (w.heap.size + 1) x y rfl HM4.out rfl HFV.out.symm ?_;intro w5 hM5 hg5;obtain ⟨hk5,s5,hbw5,z5⟩:=HX.out w5 hg5;have hl0 : Live w5 w.heap.size 0 (.int .i64 0):=(A0.out.blk (hk5 _ z1 (by omega)));have hl1 : Live w5 w.heap.size 1 (.int .i64 0):=(A3.out.blk (hk5 _ z1 (by omega)));obtain ⟨l1,l2⟩:=hl0;obtain ⟨l3,l4⟩:=hl1))
            refine bodyPost_ret (v:=.tuple #[.string ⟨#[]⟩,.agg #[.int .i64 2,.int .i64 k]]) (by simp [results,Tryz.results245,go_sem,l1,l2,l3,l4]) rfl ?_
            refine (show DecPost _ _ _ _ from ⟨?_,?_⟩)
            · rw [E1.out];rfl
            · exact (hbw5.setCell (Nat.le_refl _) _).setCell (Nat.le_refl _) _
          · skip
            refine bodyPost_ret (v:=.tuple #[.string ⟨#[]⟩,.agg #[.int .i64 2,.int .i64 k]]) (by simp [results,Tryz.results245,go_sem,a1,a2,a3,a4,z1]) rfl ?_
            refine (show DecPost _ _ _ _ from ⟨?_,?_⟩)
            · rw [E1.out];rfl
            · exact ((HBW.out.setCell (Nat.le_refl _) _).setCell (Nat.le_refl _) _).alloc (by simp;omega) _
        · have hse : tb.toList.isEmpty = false:=by rw [ByteArray.toList_eq];simpa using hsn
          have ht2 : tok2 c ((bl b).drop k) = some (bl tb,2):=by rw [HTK.out,if_neg (by rw [← HBT.out];exact hsn),HBT.out]
          have e1:=runT_some (tok:=tok2 c) f _ k acc _ _ (drop_ne (by rw [HBL.out];exact hlt)) ht2
          rw [hRT.out,List.drop_drop] at e1
          have E1:=Lib.hid e1
          have HSN:=Lib.hid hsn
          clear e1 hsn
          clear ht2
          have hfin : ∀ (W5 w6 : World) (v' : Value),Memo c W5 (w.heap.size + 1) → Live W5 w.heap.size 0 (.int .i64 0) → Live W5 w.heap.size 1 (.int .i64 0) → Below w.heap.size w W5 → w.heap.size + 2 ≤ W5.heap.size → Own w6 (w.heap.size + 2) v' (acc ++ bl tb) → Below (w.heap.size + 2) W5 w6 →
           Memo c w6 (w.heap.size + 1) ∧ Live w6 w.heap.size 0 (.int .i64 0) ∧ Live w6 w.heap.size 1 (.int .i64 0) ∧ w.heap.size + 2 ≤ w6.heap.size ∧ Below w.heap.size w w6:=by
           intro W5 w6 v' h1 h2 h3 h4 h5 h6 h7
           have q0 : w6.heap[w.heap.size]? = W5.heap[w.heap.size]?:=h7.block _ (by omega)
           exact ⟨h1.blk (h7.block _ (by omega)),h2.blk q0,h3.blk q0,Nat.le_trans h5 h7.size,h4.trans (h7.mono (by omega))⟩
          have HFIN:=Lib.hid hfin
          clear hfin
          go_wp2_with (first
           | (at_lookup;go_loud (refine wpList_memoLook W1 rfl _ _ rfl c (w.heap.size + 1) x y rfl HM1.out rfl tb HTB ?_ ?_))
           | (at_builtin;go_loud (refine wpList_pushS rfl _ _ rfl (W1.alloc (.cells #[.string tb] 313)) (w.heap.size + 2) u7 acc tb rfl (O1.out.alloc _) rfl (by omega) (Nat.le_trans HZ1.out (by simp)) ?_;intro v' w6 hown6 hb6)))
          · refine (HKS.out _ (HT1.out.alloc _)).mono ?_
            rintro e w3 ⟨rfl,hb3⟩
            have hb13:=bt (bal (Below.refl W1.heap.size W1) (.cells #[.string ⟨#[]⟩] 313)) hb3
            obtain ⟨c0,c0'⟩:=(Live.fresh W1 #[.string ⟨#[]⟩] 313 0 _ rfl).keep hb3
            obtain ⟨d0,_⟩:=Q0.out.keep hb13
            obtain ⟨d1,_⟩:=Q1.out.keep hb13
            have z3:=cell_lt c0
            have hz1:=HZ1.out
            have hM4 : Memo c (w3.setCell ⟨W1.heap.size,0,none⟩ (.string tb)) (w.heap.size + 1):=(HM1.out.bel hb13).blk (Below.heap_setCell _ _ _ _ (by simp only;omega))
            have hX : ∀ w5,(w3.setCell ⟨W1.heap.size,0,none⟩ (.string tb)).grownBy w5 (some (w.heap.size + 1)) →
             (∀ j,j < W1.heap.size → j ≠ w.heap.size + 1 → w5.heap[j]? = W1.heap[j]?) ∧ w5.cell? ⟨W1.heap.size,0,none⟩ = some (.string tb) ∧ Below w.heap.size w w5 ∧ W1.heap.size < w5.heap.size:=by
             intro w5 hg
             have hne : ∀ j,j < W1.heap.size → (w3.setCell ⟨W1.heap.size,0,none⟩ (.string tb)).heap[j]? = W1.heap[j]?:=fun j hj=>(Below.heap_setCell _ _ _ _ (Nat.ne_of_lt hj)).trans (hb13.block j hj)
             have hsz3 : (w3.setCell ⟨W1.heap.size,0,none⟩ (.string tb)).heap.size = w3.heap.size:=World.size_setCell _ _ _
             refine ⟨fun j hj h1=>(hg.block j (by omega) (fun e=>h1 (Option.some.inj e))).trans (hne j hj),?_,?_,?_⟩
             · exact hg.cell (World.cell?_setCell_same _ _ _ c0) (fun e=>absurd (Option.some.inj e) (by simp only;omega))
             · exact ((HBW.out.trans (hb13.mono HBW.out.size)).setCell (p:=⟨W1.heap.size,0,none⟩) (Nat.le_of_lt z1) _).grown hg (by omega) (by intro q hq;cases hq;omega)
             · have:=hg.size;omega
            have HM4:=Lib.hid hM4
            have HX:=Lib.hid hX
            have HB13:=Lib.hid hb13
            have HZ1':=Lib.hid hz1
            clear hM4 hX hb13 hz1
            clear hb3
            go_wp2_with (first
             | (at_mapUpdate;go_loud (refine wpList_memoStore _ rfl _ _ _ rfl c (w.heap.size + 1) x y rfl HM4.out rfl HFV.out.symm ?_;intro w5 hM5 hg5;obtain ⟨hk5,s5,hbw5,z5⟩:=HX.out w5 hg5;have hl0 : Live w5 w.heap.size 0 (.int .i64 0):=(A0.out.blk (hk5 _ z1 (by omega)));have hl1 : Live w5 w.heap.size 1 (.int .i64 0):=(A3.out.blk (hk5 _ z1 (by omega)));obtain ⟨l1,l2⟩:=hl0;obtain ⟨l3,l4⟩:=hl1))
             | (at_builtin;go_loud (refine wpList_pushS rfl _ _ rfl w5 (w.heap.size + 2) u7 acc tb rfl (orow_other O1.out fun q hq=>by obtain ⟨y1,y2⟩:=O1.out.blk q hq;exact hk5 q y2 (by omega)) rfl (by omega) (by omega) ?_;intro v' w6 hown6 hb6)))
            obtain ⟨r1,r2,r3,r4,r5⟩:=HFIN.out w5 w6 v' hM5 ⟨l1,l2⟩ ⟨l3,l4⟩ hbw5 (by omega) hown6 hb6
            exact ⟨⟨f,k + 2,acc ++ bl tb,by go_num,Lib.hid hown6,by omega,by rw [List.length_append,bl_length];omega,by omega,Lib.hid E1.out.symm,Lib.hid r1,Lib.hid r2,Lib.hid r3,Lib.hid r4,Lib.hid r5⟩,by simp [intOf];omega⟩
          · have hA:=bal (Below.refl W1.heap.size W1) (.cells #[.string tb] 313)
            obtain ⟨r1,r2,r3,r4,r5⟩:=HFIN.out _ w6 v' (HM1.out.bel hA) (A0.out.keep hA) (A3.out.keep hA) (HBW.out.trans (hA.mono HBW.out.size)) (Nat.le_trans HZ1.out hA.size) hown6 hb6
            exact ⟨⟨f,k + 2,acc ++ bl tb,by go_num,Lib.hid hown6,by omega,by rw [List.length_append,bl_length];omega,by omega,Lib.hid E1.out.symm,Lib.hid r1,Lib.hid r2,Lib.hid r3,Lib.hid r4,Lib.hid r5⟩,by simp [intOf];omega⟩
      · have hkk : k + 1 = b.size:=by omega
        have ht : tok2 c ((bl b).drop k) = none:=by
         rw [hd,List.drop_of_length_le (by rw [HBL.out];omega)];unfold tok2;simp [tokD,hx8']
        have e1:=runT_none (tok:=tok2 c) f _ k acc hne ht
        rw [hRT.out] at e1
        obtain ⟨a1,a2⟩:=hn0.out
        obtain ⟨a3,a4⟩:=hn1.out
        have hsub : IntKind.i64.wrap ((b.size : Int) - (k : Int)) = 1:=by rw [wraps_i64 _ (by omega) (by omega)];omega
        have E1:=Lib.hid e1
        clear e1
        clear ht hne hx hd
        go_wp2_with fail
        refine bodyPost_ret (v:=.tuple #[.string ⟨#[]⟩,.agg #[.int .i64 2,.int .i64 k]]) (by simp [results,Tryz.results245,go_sem,a1,a2,a3,a4]) rfl ?_
        refine (show DecPost _ _ _ _ from ⟨?_,?_⟩)
        · rw [E1.out];rfl
        · exact (hbel.out.setCell (Nat.le_refl _) _).setCell (Nat.le_refl _) _
  · have hkk : k = b.size:=by omega
    subst hkk
    have e1 : runT (tok2 c) f ((bl b).drop b.size) b.size acc = (acc,none):=by
     rw [List.drop_of_length_le (by rw [HBL.out];exact Nat.le_refl _)];exact runT_nil f _ acc
    rw [hRT.out] at e1
    have E1:=Lib.hid e1
    obtain ⟨a1,a2⟩:=hn0.out
    obtain ⟨a3,a4⟩:=hn1.out
    have hcv:=conv_Own hown.out
    clear e1
    go_wp2_with fail
    refine bodyPost_ret (v:=.tuple #[.string ⟨acc.toArray⟩,.agg #[.int .i64 0,.int .i64 0]]) (by simp [results,Tryz.results245,go_sem,a1,a2,a3,a4]) rfl ?_
    refine (show DecPost _ _ _ _ from ⟨?_,?_⟩)
    · rw [E1.out];rfl
    · exact (hbel.out.setCell (Nat.le_refl _) _).setCell (Nat.le_refl _) _
end Go.Proofs.YtohbeinhlhgfiaaGreatDoor
