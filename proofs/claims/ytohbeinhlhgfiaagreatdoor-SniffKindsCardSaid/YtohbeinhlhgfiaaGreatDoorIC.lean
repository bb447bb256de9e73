/- Walk: where a rune stands in the two ends of a line (strings.IndexRune). -/
import Derived.Test.YtohbeinhlhgfiaaGreatDoorIA
import Derived.Test.YtohbeinhlhgfiaaGreatDoorMMore
import Derived.Shelf.Strings.SlTrimAscii
import Derived.Test.YtohbeinhlhgfiaaGreatDoorIB
namespace Go.Proofs.YtohbeinhlhgfiaaGreatDoor
open Go.RowKit
set_option linter.unusedVariables false
set_option linter.unusedSimpArgs false
def endI (c : Nat) : Int:=if c = 13 then 0 else if c = 10 then 1 else -1
theorem end_byte (c : Nat) (hc : c < 128) : Lib.indexByte [13,10] ((c : Int).toNat.toUInt8) = endI c:=by
 have : ∀ c : Fin 128,Lib.indexByte [13,10] (((c.val : Nat) : Int).toNat.toUInt8) = endI c.val:=by decide +kernel
 exact this ⟨c,hc⟩
set_option maxRecDepth 100000 in
set_option maxHeartbeats 8000000 in
theorem irune_ascii (c : Nat) (hc : c < 128) (w : World) : Calls Tryz.prog 164 #[.string ⟨#[13,10]⟩,.int .i32 (c : Int)] w fun e w'=>e = .returned (.int .i64 (endI c)) ∧ Below w.heap.size w w':=by
 have k:=Tryz.strings_IndexByte ⟨#[13,10]⟩ (c : Int)
 have e : Lib.indexByte (⟨#[13,10]⟩ : ByteArray).data.toList ((c : Int).toNat.toUInt8) = endI c:=end_byte c hc
 rw [e] at k
 have K:=Lib.hid k
 clear k e
 have g0 : (0 : Int) ≤ (c : Int):=by omega
 have g1 : (c : Int) < 128:=by omega
 have g2 : IntKind.u8.wrap (c : Int) = (c : Int):=by
  have : ∀ c : Fin 128,IntKind.u8.wrap ((c.val : Nat) : Int) = (c.val : Int):=by decide +kernel
  exact this ⟨c,hc⟩
 go_enter Tryz.func164,Tryz.ntmps164
 go_wp2_with (go_at_call 230;refine (K.out _).mono ?_;rintro e w1 ⟨rfl,rfl⟩)
 go_ret
 exact ⟨rfl,Below.refl _ _⟩
theorem vrune_any (c : Nat) (hv : c < 55296 ∨ (57343 < c ∧ c ≤ 1114111)) (w : World) : Calls Tryz.prog 231 #[.int .i32 (c : Int)] w fun e w'=>e = .returned (.bool true) ∧ w' = w:=by
 have g0 : (0 : Int) ≤ (c : Int):=by omega
 by_cases h : c < 55296
 · have g1 : (c : Int) < 55296:=by omega
   clear hv
   go_enter Tryz.func231,Tryz.ntmps231
   go_wp2
   go_ret
   exact ⟨rfl,rfl⟩
 · have g1 : ¬ (c : Int) < 55296:=by omega
   have g2 : (57343 : Int) < (c : Int):=by omega
   have g3 : (c : Int) ≤ 1114111:=by omega
   clear hv
   go_enter Tryz.func231,Tryz.ntmps231
   go_wp2
   go_ret
   exact ⟨rfl,rfl⟩
theorem enc_form (c : Nat) (hc : 128 ≤ c) (hv : c < 55296 ∨ (57343 < c ∧ c ≤ 1114111)) : (∃ b0 b1,Utf8.encode (c : Int) = ⟨#[b0,b1]⟩ ∧ 128 ≤ b1.toNat) ∨ (∃ b0 b1 b2,Utf8.encode (c : Int) = ⟨#[b0,b1,b2]⟩) ∨ (∃ b0 b1 b2 b3,Utf8.encode (c : Int) = ⟨#[b0,b1,b2,b3]⟩):=by
 have hval : Utf8.valid (c : Int) = true:=by
  unfold Utf8.valid
  simp
  omega
 unfold Utf8.encode
 simp only [hval,if_true,Int.toNat_natCast]
 rw [if_neg (by omega)]
 by_cases h1 : c < 2048
 · rw [if_pos h1]
   refine .inl ⟨_,_,rfl,?_⟩
   rw [UInt8.toNat_ofNat']
   omega
 · rw [if_neg h1]
   by_cases h2 : c < 65536
   · rw [if_pos h2];exact .inr (.inl ⟨_,_,_,rfl⟩)
   · rw [if_neg h2];exact .inr (.inr ⟨_,_,_,_,rfl⟩)
set_option maxRecDepth 100000 in
set_option maxHeartbeats 8000000 in
theorem irune_wide (c : Nat) (hc : 128 ≤ c) (hv : c < 55296 ∨ (57343 < c ∧ c ≤ 1114111)) (hb : c ≠ 65533) (w : World) : Calls Tryz.prog 164 #[.string ⟨#[13,10]⟩,.int .i32 (c : Int)] w fun e w'=>e = .returned (.int .i64 (endI c)) ∧ Below w.heap.size w w':=by
 have k:=vrune_any c hv
 have K:=Lib.hid k
 have e : endI c = -1:=by unfold endI;rw [if_neg (by omega),if_neg (by omega)]
 rw [e]
 clear k e
 have g0 : (0 : Int) ≤ (c : Int):=by omega
 have g1 : ¬ (c : Int) < 128:=by omega
 have g2 : ((c : Int) == 65533) = false:=by rw [beq_eq_false_iff_ne];omega
 rcases enc_form c hc hv with ⟨b0,b1,E,h1⟩ | ⟨b0,b1,b2,E⟩ | ⟨b0,b1,b2,b3,E⟩
 · have g3 : ((10 : Int) != (b1.toNat : Int)) = true:=by simp;omega
   obtain ⟨S,hS⟩ : ∃ S,S = Utf8.encode (c : Int):=⟨_,rfl⟩
   have hSz : S.size = 2:=by rw [hS,E];rfl
   have Y0 : ∀ h,S[1]'h = b1:=by rw [hS,E];exact fun _=>rfl
   obtain ⟨T,hT⟩ : ∃ T : ByteArray,T = ⟨#[13,10]⟩:=⟨_,rfl⟩
   have hTz : T.size = 2:=by rw [hT];rfl
   have X0 : ∀ h,T[1]'h = 10:=by rw [hT];exact fun _=>rfl
   have KI : Hid (∀ (Z : ByteArray) (w : World),Z.data.toList = [] → Calls Tryz.prog 230 #[.string Z,.int .u8 (b1.toNat : Int)] w fun e w'=>e = .returned (.int .i64 (-1)) ∧ w' = w):=Lib.hid fun Z w hz=>by
    have ki:=Tryz.strings_IndexByte Z (b1.toNat : Int) w
    rw [hz] at ki
    exact ki
   have ES:=hS.symm
   rw [← hT]
   clear hS hT E
   go_enter Tryz.func164,Tryz.ntmps164
   go_wp2_with (go_at_call 231;refine (K.out _).mono ?_;rintro e w1 ⟨rfl,rfl⟩)
   go_step3
   go_wp2
   go_loopw [9] (fun i wr=>i = .int .i64 1 ∧ wr = w1) (fun _ _=>0)
   case atStart=>exact ⟨rfl,rfl⟩
   case round=>
    obtain ⟨rfl,rfl⟩:=hrel
    go_wp2
    go_step3
    go_wp2
    go_region
    go_wp2
    clear hc hv hb g0 g1 g2 g3 ES h1
    go_region_with (go_at_call 230;refine (KI.out _ _ (by first | rfl | simp)).mono ?_;rintro e w2 ⟨rfl,rfl⟩)
    all_goals
     go_wp2
     rw [Exit.noGoto_ret]
     repeat (show Exit.noGoto _ Exit.ret _ _;rw [Exit.noGoto_ret])
     go_ret
     exact ⟨rfl,((Below.refl _ _).drew).drew⟩
 · go_enter Tryz.func164,Tryz.ntmps164
   go_wp2_with (go_at_call 231;refine (K.out _).mono ?_;rintro e w1 ⟨rfl,rfl⟩)
   go_step3
   go_wp2
   go_loopw [9] (fun i wr=>i = .int .i64 2 ∧ wr = w1) (fun _ _=>0)
   case atStart=>exact ⟨rfl,rfl⟩
   case round=>
    obtain ⟨rfl,rfl⟩:=hrel
    go_wp2
    rw [Exit.noGoto_ret]
    go_ret
    exact ⟨rfl,Below.refl _ _⟩
 · go_enter Tryz.func164,Tryz.ntmps164
   go_wp2_with (go_at_call 231;refine (K.out _).mono ?_;rintro e w1 ⟨rfl,rfl⟩)
   go_step3
   go_wp2
   go_loopw [9] (fun i wr=>i = .int .i64 3 ∧ wr = w1) (fun _ _=>0)
   case atStart=>exact ⟨rfl,rfl⟩
   case round=>
    obtain ⟨rfl,rfl⟩:=hrel
    go_wp2
    rw [Exit.noGoto_ret]
    go_ret
    exact ⟨rfl,Below.refl _ _⟩
end Go.Proofs.YtohbeinhlhgfiaaGreatDoor
namespace Go.Proofs.YtohbeinhlhgfiaaGreatDoor
open Go.RowKit
set_option linter.unusedVariables false
set_option linter.unusedSimpArgs false
set_option maxRecDepth 100000 in
set_option maxHeartbeats 8000000 in
theorem irune_bad (w : World) : Calls Tryz.prog 164 #[.string ⟨#[13,10]⟩,.int .i32 65533] w fun e w'=>e = .returned (.int .i64 (endI 65533)) ∧ Below w.heap.size w w':=by
 rw [show endI 65533 = -1 from rfl]
 obtain ⟨T,hT⟩ : ∃ T : ByteArray,T = ⟨#[13,10]⟩:=⟨_,rfl⟩
 have hTz : T.size = 2:=by rw [hT];rfl
 have d0 : Hid (dec ((bl T).drop 0) = (13,1)):=Lib.hid (by rw [hT];rfl)
 have d1 : Hid (dec ((bl T).drop 1) = (10,1)):=Lib.hid (by rw [hT];rfl)
 rw [← hT]
 clear hT
 go_enter Tryz.func164,Tryz.ntmps164
 go_wp2_with fail
 have hI0:=ItS.made w T
 have hB0 : Below w.heap.size w (w.iter T 0):=(Below.refl _ _).alloc (Nat.le_refl _) _
 generalize w.iter T 0 = W0 at *
 go_loopw [6] (fun v wr=>∃ k : Nat,ItS wr w.heap.size T k ∧ k ≤ 2 ∧ Below w.heap.size w wr) (fun _ wr=>2 - wr.iterPos w.heap.size)
 case atStart=>exact ⟨0,hI0,Nat.zero_le _,hB0⟩
 case round=>
  obtain ⟨k,hI,hk,hbel⟩:=hrel
  have hpos:=hI.pos
  have HP:=Lib.hid hpos
  clear hpos
  clear hI0 hB0
  have hgo : ∀ k2 (w3 : World),ItS w3 w.heap.size T k2 → wr.grownBy w3 (some w.heap.size) → Below w.heap.size w w3:=fun k2 w3 h3 hg3=>hbel.grown hg3 hbel.size (by intro q hq;cases hq;exact Nat.le_refl _)
  match k,hk with
  | 0,_=>
   go_wp2_with (at_next;refine wpList_nextD rfl _ rfl wr w.heap.size T 0 rfl hI (by omega) 13 1 d0 ?_;intro w3 hI3 ho3 hg3)
   have hp4:=hI3.pos
   have hb3:=hgo _ _ hI3 hg3
   have HP4:=Lib.hid hp4
   clear hp4
   go_roundw
   case rel=>exact ⟨1,hI3,by omega,hb3⟩
   case measure=>rw [HP.out,HP4.out];omega
  | 1,_=>
   go_wp2_with (at_next;refine wpList_nextD rfl _ rfl wr w.heap.size T 1 rfl hI (by omega) 10 1 d1 ?_;intro w3 hI3 ho3 hg3)
   have hp4:=hI3.pos
   have hb3:=hgo _ _ hI3 hg3
   have HP4:=Lib.hid hp4
   clear hp4
   go_roundw
   case rel=>exact ⟨2,hI3,by omega,hb3⟩
   case measure=>rw [HP.out,HP4.out];omega
  | 2,_=>
   go_wp2_with (at_next;refine wpList_nextE rfl _ rfl wr w.heap.size T 2 rfl hI (by omega) ?_)
   go_ret
   exact ⟨rfl,hbel⟩
end Go.Proofs.YtohbeinhlhgfiaaGreatDoor
namespace Go.Proofs.YtohbeinhlhgfiaaGreatDoor
open Go.RowKit
set_option linter.unusedVariables false
set_option linter.unusedSimpArgs false
theorem dec_parts (x : UInt8) (r : List UInt8) (h : ¬ x.toNat < 128) : 128 ≤ (dec (x :: r)).1 ∧ ((dec (x :: r)).1 < 55296 ∨ (57343 < (dec (x :: r)).1 ∧ (dec (x :: r)).1 ≤ 1114111)) ∧
 ((dec (x :: r)).2 = 1 ∨ ((dec (x :: r)).2 = 2 ∧ 128 ≤ ((x :: r).getD 1 0).toNat) ∨ ((dec (x :: r)).2 = 3 ∧ 128 ≤ ((x :: r).getD 1 0).toNat ∧ 128 ≤ ((x :: r).getD 2 0).toNat) ∨ ((dec (x :: r)).2 = 4 ∧ 128 ≤ ((x :: r).getD 1 0).toNat ∧ 128 ≤ ((x :: r).getD 2 0).toNat ∧ 128 ≤ ((x :: r).getD 3 0).toNat)):=by
 have e0 : ((x :: r).getD 0 0).toNat = x.toNat:=rfl
 unfold dec
 rw [e0]
 generalize ((x :: r).getD 1 0).toNat = y
 generalize ((x :: r).getD 2 0).toNat = z
 generalize ((x :: r).getD 3 0).toNat = t
 generalize x.toNat = p at *
 unfold Lib.decodeN
 repeat' split
 all_goals simp
 all_goals omega
theorem dec_bytes (x : UInt8) (r : List UInt8) (h : ¬ x.toNat < 128) (i : Nat) (hi : i < (dec (x :: r)).2) (b : UInt8) (hb : (x :: r)[i]? = some b) : 128 ≤ b.toNat:=by
 have hg : (x :: r).getD i 0 = b:=by rw [List.getD_eq_getElem?_getD,hb];rfl
 obtain ⟨_,_,hp⟩:=dec_parts x r h
 match i with
 | 0=>simp at hb;subst hb;omega
 | 1=>rw [← hg];omega
 | 2=>rw [← hg];omega
 | 3=>rw [← hg];omega
 | n + 4=>omega
end Go.Proofs.YtohbeinhlhgfiaaGreatDoor
namespace Go.Proofs.YtohbeinhlhgfiaaGreatDoor
open Go.RowKit
set_option linter.unusedVariables false
set_option linter.unusedSimpArgs false
theorem eol_set (c : UInt8) : List.contains [13,10] c = eolB c:=by
 unfold eolB
 simp [List.contains,List.elem]
 cases h1 : (c == 13) <;> cases h2 : (c == 10) <;> simp_all
theorem any_at : ∀ (l : List UInt8) (k : Nat) (x : UInt8),l[k]? = some x → eolB x = true → (l.take k).all (fun c=>!eolB c) = true → Lib.indexAny l [13,10] = (k : Int)
 | [],k,x,h,_,_=>by simp at h
 | c :: l,0,x,h,he,_=>by
  simp at h
  subst h
  rw [Lib.indexAny,eol_set,he]
  rfl
 | c :: l,k + 1,x,h,he,ha=>by
  rw [List.take_succ_cons,List.all_cons,Bool.and_eq_true] at ha
  have ih:=any_at l k x (by simpa using h) he ha.2
  rw [Lib.indexAny,eol_set,ih]
  have h1 : eolB c = false:=by simpa using ha.1
  have h2 : ((k : Int) == -1) = false:=by rw [beq_eq_false_iff_ne];omega
  rw [h1,h2]
  simp
theorem any_none : ∀ (l : List UInt8),l.all (fun c=>!eolB c) = true → Lib.indexAny l [13,10] = -1
 | [],_=>rfl
 | c :: l,ha=>by
  rw [List.all_cons,Bool.and_eq_true] at ha
  rw [Lib.indexAny,eol_set,any_none l ha.2]
  have h1 : eolB c = false:=by simpa using ha.1
  rw [h1]
  rfl
theorem use_any (n : Nat) (hn : n ≤ 8) (w : World) : Calls Tryz.prog 165 #[.int .i64 (n : Int)] w fun e w'=>e = .returned (.bool false) ∧ w' = w:=by
 have h : ¬ (n : Int) > 8:=by omega
 go_enter Tryz.func165,Tryz.ntmps165
 go_wp2
 go_ret
 exact ⟨rfl,rfl⟩
theorem irune_any (c : Nat) (hv : c < 55296 ∨ (57343 < c ∧ c ≤ 1114111)) (w : World) : Calls Tryz.prog 164 #[.string ⟨#[13,10]⟩,.int .i32 (c : Int)] w fun e w'=>e = .returned (.int .i64 (endI c)) ∧ Below w.heap.size w w':=by
 by_cases h1 : c < 128
 · exact irune_ascii c h1 w
 · by_cases h2 : c = 65533
   · subst h2;exact irune_bad w
   · exact irune_wide c (by omega) hv h2 w
theorem sign_case (l : List UInt8) (k : Nat) (x : UInt8) (hx : l[k]? = some x) (ha : (l.take k).all (fun c=>!eolB c) = true) :
 ((dec (l.drop k)).1 < 55296 ∨ (57343 < (dec (l.drop k)).1 ∧ (dec (l.drop k)).1 ≤ 1114111)) ∧
 ((eolB x = true ∧ (0 : Int) ≤ endI (dec (l.drop k)).1) ∨ (endI (dec (l.drop k)).1 = -1 ∧ (l.take (k + (dec (l.drop k)).2)).all (fun c=>!eolB c) = true)):=by
 rw [drop_atI l k x hx]
 by_cases h : x.toNat < 128
 · have hd : dec (x :: l.drop (k + 1)) = (x.toNat,1):=by
    have e0 : ((x :: l.drop (k + 1)).getD 0 0).toNat = x.toNat:=rfl
    unfold dec
    rw [e0,Lib.decodeN,if_pos h]
   rw [hd]
   refine ⟨.inl (by simp only;omega),?_⟩
   cases he : eolB x with
   | true=>
    refine .inl ⟨rfl,?_⟩
    have g : x = 10 ∨ x = 13:=by simpa [eolB] using he
    rcases g with rfl | rfl <;> decide
   | false=>
    refine .inr ⟨?_,?_⟩
    · unfold endI
      rw [if_neg (fun e=>by have : x = 13:=by apply UInt8.toNat_inj.1;simpa using e
                            subst this;cases he),if_neg (fun e=>by
                            have : x = 10:=by apply UInt8.toNat_inj.1;simpa using e
                            subst this;cases he)]
    · rw [List.take_add_one,hx,List.all_append,ha]
      simp [he]
 · obtain ⟨p1,p2,p3⟩:=dec_parts x (l.drop (k + 1)) h
   refine ⟨p2,.inr ⟨?_,?_⟩⟩
   · unfold endI
     rw [if_neg (by omega),if_neg (by omega)]
   · have hb:=dec_bytes x (l.drop (k + 1)) h
     rw [List.take_add,List.all_append,ha,Bool.true_and,drop_atI l k x hx,List.all_eq_true]
     intro c hc
     obtain ⟨i,hi,e⟩:=List.mem_take_iff_getElem.1 hc
     have:=hb i (by omega) c (by rw [List.getElem?_eq_getElem (by omega),e])
     unfold eolB
     have n1 : (c == 10) = false:=by rw [beq_eq_false_iff_ne];intro e;subst e;simp at this
     have n2 : (c == 13) = false:=by rw [beq_eq_false_iff_ne];intro e;subst e;simp at this
     rw [n1,n2];rfl
set_option maxRecDepth 100000 in
set_option maxHeartbeats 8000000 in
theorem iany_short (s : ByteArray) (w : World) (hs : s.size ≤ 8) : Calls Tryz.prog 81 #[.string s,.string ⟨#[13,10]⟩] w fun e w'=>e = .returned (.int .i64 (Lib.indexAny (bl s) [13,10])) ∧ Below w.heap.size w w':=by
 have HL : Hid ((bl s).length = s.size):=bl_length s
 have KU:=Lib.hid (use_any s.size hs)
 have KR:=Lib.hid irune_any
 obtain ⟨T,hT⟩ : ∃ T : ByteArray,T = ⟨#[13,10]⟩:=⟨_,rfl⟩
 have hTz : (T.size : Int) = 2:=by rw [hT];rfl
 have hTe : T.toList.isEmpty = false:=by rw [hT,ByteArray.toList_eq];rfl
 rw [← hT] at KR
 rw [← hT]
 clear hT
 go_enter Tryz.func81,Tryz.ntmps81
 go_wp2_with (go_at_call 165;refine (KU.out _).mono ?_;rintro e w1 ⟨rfl,rfl⟩)
 have hI0:=ItS.made w1 s
 have hB0 : Below w1.heap.size w1 (w1.iter s 0):=(Below.refl _ _).alloc (Nat.le_refl _) _
 generalize w1.iter s 0 = W0 at *
 go_loopw [9] (fun v wr=>∃ k : Nat,ItS wr w1.heap.size s k ∧ k ≤ s.size ∧ Below w1.heap.size w1 wr ∧ Hid (((bl s).take k).all (fun c=>!eolB c) = true)) (fun _ wr=>s.size - wr.iterPos w1.heap.size)
 case atStart=>exact ⟨0,hI0,Nat.zero_le _,hB0,Lib.hid (by simp)⟩
 case round=>
  obtain ⟨k,hI,hk,hbel,HA⟩:=hrel
  have hpos:=hI.pos
  have HP:=Lib.hid hpos
  clear hpos
  clear hI0 hB0
  by_cases hlt : k < s.size
  · obtain ⟨x,hx⟩:=at_some (bl s) k (by rw [HL.out];exact hlt)
    obtain ⟨hv,hcase⟩:=sign_case (bl s) k x hx HA.out
    have hdp:=dec_pos ((bl s).drop k)
    have hdl:=dec_le ((bl s).drop k) (by rw [drop_atI _ k x hx];exact List.cons_ne_nil _ _)
    rw [List.length_drop,HL.out] at hdl
    rcases hd : dec ((bl s).drop k) with ⟨c,j⟩
    rw [hd] at hv hcase hdp hdl
    simp only at hv hcase hdp hdl
    have kr:=fun w=>KR.out c hv w
    have hgo : ∀ k2 (w3 : World),ItS w3 w1.heap.size s k2 → wr.grownBy w3 (some w1.heap.size) → Below w1.heap.size w1 w3:=fun k2 w3 h3 hg3=>hbel.grown hg3 hbel.size (by intro q hq;cases hq;exact Nat.le_refl _)
    rcases hcase with ⟨he,hi⟩ | ⟨hi,ha⟩
    · have hres:=any_at (bl s) k x hx he HA.out
      obtain ⟨z,hz⟩ : ∃ z,z = endI c:=⟨_,rfl⟩
      rw [← hz] at hi kr
      have g1 : z ≥ 0:=hi
      have HD:=Lib.hid hd
      have K2:=Lib.hid kr
      have HRES:=Lib.hid hres
      clear hd kr hres
      clear hz hv hdp hdl hx he hi
      go_wp2_with (first
       | (at_next;refine wpList_nextD rfl _ rfl wr w1.heap.size s k rfl hI hlt c j HD ?_;intro w3 hI3 ho3 hg3)
       | (go_at_call 164;refine (K2.out _).mono ?_;rintro e w4 ⟨rfl,hb4⟩))
      go_ret
      exact ⟨by rw [HRES.out];first | done | rfl,bt (hgo _ _ hI3 hg3) hb4⟩
    · rw [hi] at kr
      have HA2:=Lib.hid ha
      have HD:=Lib.hid hd
      have K2:=Lib.hid kr
      clear hd kr
      clear hi ha hx hv
      go_wp2_with (first
       | (at_next;refine wpList_nextD rfl _ rfl wr w1.heap.size s k rfl hI hlt c j HD ?_;intro w3 hI3 ho3 hg3)
       | (go_at_call 164;refine (K2.out _).mono ?_;rintro e w4 ⟨rfl,hb4⟩))
      have hI4:=hI3.bel hb4
      have hp4:=hI4.pos
      have hb3:=bt (hgo _ _ hI3 hg3) hb4
      have HP4:=Lib.hid hp4
      clear hp4
      go_roundw
      case rel=>exact ⟨k + j,hI4,by omega,hb3,HA2⟩
      case measure=>rw [HP.out,HP4.out];omega
  · have hres:=any_none (bl s) (by have:=HA.out;rwa [List.take_of_length_le (by rw [HL.out];omega)] at this)
    have HRES:=Lib.hid hres
    clear hres
    go_wp2_with (at_next;refine wpList_nextE rfl _ rfl wr w1.heap.size s k rfl hI (by omega) ?_)
    go_ret
    exact ⟨by rw [HRES.out];first | done | rfl,hbel⟩
end Go.Proofs.YtohbeinhlhgfiaaGreatDoor
namespace Go.Proofs.YtohbeinhlhgfiaaGreatDoor
open Go.RowKit
set_option linter.unusedVariables false
set_option linter.unusedSimpArgs false
theorem iany_any (s : ByteArray) (w : World) (hs : s.size ≤ 1000000) : Calls Tryz.prog 81 #[.string s,.string ⟨#[13,10]⟩] w fun e w'=>e = .returned (.int .i64 (Lib.indexAny (bl s) [13,10])) ∧ Below w.heap.size w w':=by
 by_cases h : s.size ≤ 8
 · exact iany_short s w h
 · refine (Tryz.strings_IndexAny_long (zero_of_info (n:=256) (by kernel_rfl)).1 s ⟨#[13,10]⟩ w (by decide) (by omega) (by omega) (by decide) (ascii_of_all (by decide))).mono fun e w' q=>⟨q.1,?_⟩
   rw [q.2]
   exact bal (bal (Below.refl _ _) _) _
theorem ltrim_any (s : ByteArray) (w : World) : Calls Tryz.prog 80 #[.string s,.string ⟨#[13,10]⟩] w fun e w'=>e = .returned (.string ⟨((bl s).drop (ld0 (bl s))).toArray⟩) ∧ Below w.heap.size w w':=by
 have h:=Any.strings_TrimLeft_laid Tryz.lays161 (by kernel_rfl) s ⟨#[13,10]⟩ w (by decide) (ascii_of_all (by decide))
 have e : Lib.trimLeftS (bl s) [13,10] = (bl s).drop (ld0 (bl s)):=by
  unfold Lib.trimLeftS ld0
  rw [show (fun c : UInt8=>List.contains [13,10] c) = eolB from funext eol_set]
  generalize bl s = l
  induction l with
  | nil=>rfl
  | cons c l ih=>
   rw [List.dropWhile_cons,List.takeWhile_cons]
   cases eolB c with
   | true=>simpa using ih
   | false=>rfl
 rw [← e]
 exact h
theorem take_tw (p : UInt8 → Bool) : ∀ l : List UInt8,l.take (l.takeWhile p).length = l.takeWhile p
 | []=>rfl
 | c :: l=>by
  rw [List.takeWhile_cons]
  cases p c with
  | true=>simp only [if_true,List.length_cons,List.take_succ_cons,take_tw p l]
  | false=>rfl
theorem any_nxE (l : List UInt8) (a : Nat) (h : a ≤ l.length) : Lib.indexAny (l.drop a) [13,10] = if nxE l a < l.length then ((nxE l a - a : Nat) : Int) else -1:=by
 have hg:=nxE_ge l a
 have hall : ((l.drop a).take (nxE l a - a)).all (fun c=>!eolB c) = true:=by
  have e : (l.drop a).take (nxE l a - a) = (l.drop a).takeWhile (fun c=>!eolB c):=by
   unfold nxE
   rw [Nat.add_sub_cancel_left]
   exact take_tw _ (l.drop a)
  rw [e]
  exact List.all_takeWhile
 by_cases hl : nxE l a < l.length
 · rw [if_pos hl]
   obtain ⟨c,hc,hcc⟩:=nxE_at l _ a (Nat.le_refl _) hl
   exact any_at (l.drop a) (nxE l a - a) c (by rw [List.getElem?_drop,show a + (nxE l a - a) = nxE l a by omega];exact hc) hcc hall
 · rw [if_neg hl]
   have hle:=nxE_le l a h
   refine any_none _ ?_
   rwa [List.take_of_length_le (by rw [List.length_drop];omega)] at hall
end Go.Proofs.YtohbeinhlhgfiaaGreatDoor
namespace Go.Proofs.YtohbeinhlhgfiaaGreatDoor
open Go.RowKit
set_option linter.unusedVariables false
set_option linter.unusedSimpArgs false
def baL (l : List UInt8) : ByteArray:=⟨l.toArray⟩
theorem bl_baL (l : List UInt8) : bl (baL l) = l:=by simp [bl,baL]
set_option maxRecDepth 100000 in
set_option maxHeartbeats 8000000 in
theorem lead_any (b : ByteArray) (w : World) (hs : b.size ≤ 1000000) : Calls Tryz.prog 30 #[.string b] w fun e w'=>
 e = .returned (.tuple #[.string (baL (leadM (bl b)).1),.string (baL (leadM (bl b)).2)]) ∧ Below w.heap.size w w':=by
 obtain ⟨l,hl⟩ : ∃ l,l = bl b:=⟨_,rfl⟩
 have hlen : l.length = b.size:=by rw [hl];exact bl_length b
 obtain ⟨d,hd⟩ : ∃ d,d = ld0 l:=⟨_,rfl⟩
 have hdl : d ≤ l.length:=by rw [hd];exact ld0_le l
 obtain ⟨E,hE⟩ : ∃ E,E = nxE l d:=⟨_,rfl⟩
 have hdE : d ≤ E:=by rw [hE];exact nxE_ge l d
 have hEl : E ≤ l.length:=by rw [hE];exact nxE_le l d hdl
 obtain ⟨t,ht⟩ : ∃ t,t = baL (l.drop d):=⟨_,rfl⟩
 have htl : bl t = l.drop d:=by rw [ht];exact bl_baL _
 have hts : t.size = l.length - d:=by rw [← bl_length,htl,List.length_drop]
 have k1 : ∀ w,Calls Tryz.prog 80 #[.string b,.string ⟨#[13,10]⟩] w fun e w'=>e = .returned (.string t) ∧ Below w.heap.size w w':=fun w=>by
  have:=ltrim_any b w
  rw [← hl,← hd] at this
  rw [ht];exact this
 have k2 : ∀ w,Calls Tryz.prog 81 #[.string t,.string ⟨#[13,10]⟩] w fun e w'=>e = .returned (.int .i64 (if E < l.length then ((E - d : Nat) : Int) else -1)) ∧ Below w.heap.size w w':=fun w=>by
  have:=iany_any t w (by omega)
  rw [htl,any_nxE l d hdl,← hE] at this
  exact this
 unfold leadM
 rw [← hl,← hd,← hE]
 have K1:=Lib.hid k1
 clear k1
 by_cases hlt : E < l.length
 · rw [if_pos hlt] at k2
   obtain ⟨k,hk⟩ : ∃ k,k = E - d:=⟨_,rfl⟩
   rw [← hk] at k2
   obtain ⟨x,hx⟩:=at_some l E hlt
   have hxe : eolB x = true:=by
    obtain ⟨c,hc,hcc⟩:=nxE_at l _ d (Nat.le_refl _) (by rw [← hE];exact hlt)
    rw [← hE,hx] at hc
    cases hc
    exact hcc
   have hkt : k < t.size:=by omega
   have X : ∀ h,t[k]'h = x:=atB_of t k x (by rw [htl,List.getElem?_drop,show d + k = E by omega];exact hx)
   have f1 : t.extract 0 k = baL ((l.drop d).take (E - d)):=by
    rw [Go.Rf.extract_bytes t 0 k (Nat.zero_le _) (by omega),← hk]
    show (⟨(((bl t).drop 0).take (k - 0)).toArray⟩ : ByteArray) = _
    rw [List.drop_zero,Nat.sub_zero,htl]
    rfl
   have f2 : t.extract (k + 1) t.size = baL (l.drop (E + 1)):=by
    rw [Go.Rf.extract_bytes t (k + 1) t.size (by omega) (Nat.le_refl _)]
    show (⟨(((bl t).drop (k + 1)).take (t.size - (k + 1))).toArray⟩ : ByteArray) = _
    rw [htl,List.drop_drop,show d + (k + 1) = E + 1 by omega,List.take_of_length_le (by rw [List.length_drop];omega)]
    rfl
   obtain ⟨B,hB⟩ : ∃ B,B = nxB l E:=⟨_,rfl⟩
   have hBl : B ≤ l.length:=by rw [hB];exact nxB_le l E hEl
   obtain ⟨r,hr⟩ : ∃ r,r = baL (l.drop B):=⟨_,rfl⟩
   have hrl : bl r = l.drop B:=by rw [hr];exact bl_baL _
   have hrs : r.size = l.length - B:=by rw [← bl_length,hrl,List.length_drop]
   obtain ⟨G,hG⟩ : ∃ G,G = nxE l B:=⟨_,rfl⟩
   have hBG : B ≤ G:=by rw [hG];exact nxE_ge l B
   have hGl : G ≤ l.length:=by rw [hG];exact nxE_le l B hBl
   have k4 : ∀ w,Calls Tryz.prog 81 #[.string r,.string ⟨#[13,10]⟩] w fun e w'=>e = .returned (.int .i64 (if G < l.length then ((G - B : Nat) : Int) else -1)) ∧ Below w.heap.size w w':=fun w=>by
    have:=iany_any r w (by omega)
    rw [hrl,any_nxE l B hBl,← hG] at this
    exact this
   rw [← hB,← hG,← f1]
   have q1 : (0 : Int) ≤ (k : Int):=by omega
   have q2 : (k : Int) ≤ (t.size : Int):=by omega
   have q3 : (k : Int) + 1 ≤ (t.size : Int):=by omega
   have q4 : ((k : Int) + 1).toNat = k + 1:=by omega
   have q5 : IntKind.i64.wrap ((k : Int) + 1) = (k : Int) + 1:=wi64 _ (by omega) (by omega)
   have q6 : ¬ (k : Int) < 0:=by omega
   have g : x = 10 ∨ x = 13:=by simpa [eolB] using hxe
   obtain ⟨n,hn⟩ : ∃ n,n = G - B:=⟨_,rfl⟩
   rw [← hn] at k4
   have f3 : n ≤ r.size → r.extract 0 n = baL ((l.drop B).take (G - B)):=fun h=>by
    rw [Go.Rf.extract_bytes r 0 n (Nat.zero_le _) h,← hn]
    show (⟨(((bl r).drop 0).take (n - 0)).toArray⟩ : ByteArray) = _
    rw [List.drop_zero,Nat.sub_zero,hrl]
    rfl
   have f4 : ¬ G < l.length → baL ((l.drop B).take (G - B)) = r:=fun h=>by
    rw [List.take_of_length_le (by rw [List.length_drop];omega),hr]
   rcases g with rfl | rfl
   · have hB1 : B = E + 1:=by
      rw [hB];unfold nxB
      rw [if_pos hlt,if_neg (by rw [hx];intro h;cases h.1)]
     rw [← hB1,← hr] at f2
     by_cases hc : G < l.length
     · rw [if_pos hc] at k4
       have K2:=Lib.hid k2
       have K4:=Lib.hid k4
       have F2:=f2
       have p1 : ¬ (n : Int) < 0:=by omega
       have p2 : (n : Int) ≤ (r.size : Int):=by omega
       have p3 : (n : Int) ≥ 0:=by omega
       rw [← f3 (by omega)]
       clear k2 k4  hc hts htl ht hd hE hdE hEl hl hlen hdl hlt hk hx hxe hB hBl hr hrl hrs hG hBG hGl f1 f3 f4 hn
       go_enter Tryz.func30,Tryz.ntmps30
       go_wp2_with (first
        | (go_at_call 80;with_reducible refine (K1.out _).mono ?_;rintro e w1 ⟨rfl,hb1⟩)
        | (go_at_call 81;first | (with_reducible refine (K2.out _).mono ?_;rintro e w2 ⟨rfl,hb2⟩) | (with_reducible refine (K4.out _).mono ?_;rintro e w4 ⟨rfl,hb4⟩))
        | fail)
       go_region
       all_goals
        go_wp2_with (first
         | (go_at_call 80;with_reducible refine (K1.out _).mono ?_;rintro e w1 ⟨rfl,hb1⟩)
         | (go_at_call 81;first | (with_reducible refine (K2.out _).mono ?_;rintro e w2 ⟨rfl,hb2⟩) | (with_reducible refine (K4.out _).mono ?_;rintro e w4 ⟨rfl,hb4⟩))
         | fail)
        go_ret2
        exact ⟨rfl,bt (bt hb1 hb2).drew hb4⟩
     · rw [if_neg hc] at k4
       have K2:=Lib.hid k2
       have K4:=Lib.hid k4
       have F2:=f2
       rw [f4 hc]
       clear k2 k4  hc hts htl ht hd hE hdE hEl hl hlen hdl hlt hk hx hxe hB hBl hr hrl hrs hG hBG hGl f1 f3 f4 hn
       go_enter Tryz.func30,Tryz.ntmps30
       go_wp2_with (first
        | (go_at_call 80;with_reducible refine (K1.out _).mono ?_;rintro e w1 ⟨rfl,hb1⟩)
        | (go_at_call 81;first | (with_reducible refine (K2.out _).mono ?_;rintro e w2 ⟨rfl,hb2⟩) | (with_reducible refine (K4.out _).mono ?_;rintro e w4 ⟨rfl,hb4⟩))
        | fail)
       go_region
       all_goals
        go_wp2_with (first
         | (go_at_call 80;with_reducible refine (K1.out _).mono ?_;rintro e w1 ⟨rfl,hb1⟩)
         | (go_at_call 81;first | (with_reducible refine (K2.out _).mono ?_;rintro e w2 ⟨rfl,hb2⟩) | (with_reducible refine (K4.out _).mono ?_;rintro e w4 ⟨rfl,hb4⟩))
         | fail)
        go_ret2
        exact ⟨rfl,bt (bt hb1 hb2).drew hb4⟩
   · have k3 : ∀ w,Calls Tryz.prog 82 #[.string (t.extract (k + 1) t.size),.string ⟨#[10]⟩] w fun e w'=>e = .returned (.string r) ∧ w' = w:=fun w=>by
      have:=Tryz.strings_TrimPrefix (t.extract (k + 1) t.size) ⟨#[10]⟩ w
      have e : (Lib.trimPrefix (t.extract (k + 1) t.size).data.toList [10]).toArray = (l.drop B).toArray:=by
       congr 1
       rw [f2]
       show Lib.trimPrefix (bl (baL (l.drop (E + 1)))) [10] = _
       rw [bl_baL,hB]
       unfold nxB
       rw [if_pos hlt]
       by_cases h10 : l[E + 1]? = some 10
       · rw [if_pos ⟨hx,h10⟩,drop_atI l (E + 1) 10 h10]
         rfl
       · rw [if_neg (fun h=>h10 h.2)]
         unfold Lib.trimPrefix
         rw [if_neg]
         intro hp
         cases hq : l.drop (E + 1) with
         | nil=>rw [hq] at hp;cases hp
         | cons c r2=>
          rw [hq] at hp
          have : c = 10:=by
           simp [Lib.hasPrefix,List.isPrefixOf] at hp
           exact hp.symm
          subst this
          apply h10
          have:=congrArg (fun m=>m[0]?) hq
          simpa using this
      rw [show (⟨#[10]⟩ : ByteArray).data.toList = [10] from rfl,e] at this
      rw [hr]
      exact this
     by_cases hc : G < l.length
     · rw [if_pos hc] at k4
       have K2:=Lib.hid k2
       have K4:=Lib.hid k4
       have K3:=Lib.hid k3
       have p1 : ¬ (n : Int) < 0:=by omega
       have p2 : (n : Int) ≤ (r.size : Int):=by omega
       have p3 : (n : Int) ≥ 0:=by omega
       rw [← f3 (by omega)]
       clear k2 k4 k3 hc hts htl ht hd hE hdE hEl hl hlen hdl hlt hk hx hxe hB hBl hr hrl hrs hG hBG hGl f1 f2 f3 f4 hn
       go_enter Tryz.func30,Tryz.ntmps30
       go_wp2_with (first
        | (go_at_call 80;with_reducible refine (K1.out _).mono ?_;rintro e w1 ⟨rfl,hb1⟩)
        | (go_at_call 81;first | (with_reducible refine (K2.out _).mono ?_;rintro e w2 ⟨rfl,hb2⟩) | (with_reducible refine (K4.out _).mono ?_;rintro e w4 ⟨rfl,hb4⟩))
        | (go_at_call 82;refine (K3.out _).mono ?_;rintro e w3 ⟨rfl,rfl⟩)
        | fail)
       go_region
       all_goals
        go_wp2_with (first
         | (go_at_call 80;with_reducible refine (K1.out _).mono ?_;rintro e w1 ⟨rfl,hb1⟩)
         | (go_at_call 81;first | (with_reducible refine (K2.out _).mono ?_;rintro e w2 ⟨rfl,hb2⟩) | (with_reducible refine (K4.out _).mono ?_;rintro e w4 ⟨rfl,hb4⟩))
         | (go_at_call 82;refine (K3.out _).mono ?_;rintro e w3 ⟨rfl,rfl⟩)
         | fail)
        go_ret2
        exact ⟨rfl,bt (bt hb1 hb2).drew hb4⟩
     · rw [if_neg hc] at k4
       have K2:=Lib.hid k2
       have K4:=Lib.hid k4
       have K3:=Lib.hid k3
       rw [f4 hc]
       clear k2 k4 k3 hc hts htl ht hd hE hdE hEl hl hlen hdl hlt hk hx hxe hB hBl hr hrl hrs hG hBG hGl f1 f2 f3 f4 hn
       go_enter Tryz.func30,Tryz.ntmps30
       go_wp2_with (first
        | (go_at_call 80;with_reducible refine (K1.out _).mono ?_;rintro e w1 ⟨rfl,hb1⟩)
        | (go_at_call 81;first | (with_reducible refine (K2.out _).mono ?_;rintro e w2 ⟨rfl,hb2⟩) | (with_reducible refine (K4.out _).mono ?_;rintro e w4 ⟨rfl,hb4⟩))
        | (go_at_call 82;refine (K3.out _).mono ?_;rintro e w3 ⟨rfl,rfl⟩)
        | fail)
       go_region
       all_goals
        go_wp2_with (first
         | (go_at_call 80;with_reducible refine (K1.out _).mono ?_;rintro e w1 ⟨rfl,hb1⟩)
         | (go_at_call 81;first | (with_reducible refine (K2.out _).mono ?_;rintro e w2 ⟨rfl,hb2⟩) | (with_reducible refine (K4.out _).mono ?_;rintro e w4 ⟨rfl,hb4⟩))
         | (go_at_call 82;refine (K3.out _).mono ?_;rintro e w3 ⟨rfl,rfl⟩)
         | fail)
        go_ret2
        exact ⟨rfl,bt (bt hb1 hb2).drew hb4⟩
 · rw [if_neg hlt] at k2
   have hEe : E = l.length:=by omega
   have e1 : baL ((l.drop d).take (E - d)) = t:=by rw [ht,List.take_of_length_le (by rw [List.length_drop];omega)]
   have e2 : nxB l E = E:=by unfold nxB;rw [if_neg hlt]
   have e3 : baL ((l.drop (nxB l E)).take (nxE l (nxB l E) - nxB l E)) = ⟨#[]⟩:=by
    rw [e2,hEe,List.drop_length,List.take_nil];rfl
   rw [e1,e3]
   have K2:=Lib.hid k2
   clear k2 e1 e2 e3 hts htl ht hd hE hdE hEl hl hlen hdl hEe hlt
   go_enter Tryz.func30,Tryz.ntmps30
   go_wp2_with (first
    | (go_at_call 80;with_reducible refine (K1.out _).mono ?_;rintro e w1 ⟨rfl,hb1⟩)
    | (go_at_call 81;with_reducible refine (K2.out _).mono ?_;rintro e w2 ⟨rfl,hb2⟩))
   go_ret2
   exact ⟨rfl,bt hb1 hb2⟩
end Go.Proofs.YtohbeinhlhgfiaaGreatDoor
namespace Go.Proofs.YtohbeinhlhgfiaaGreatDoor
open Go Go.Rf Go.RowKit
set_option linter.unusedVariables false
set_option linter.unusedSimpArgs false
def id3L : List UInt8:=[73,68,51]
def oggL : List UInt8:=[79,103,103,83]
def flcL : List UInt8:=[102,76,97,67]
/- signs: 0 the file, 1 its text, 2 3 its first lines, 4 what they tell, 5 6 ahead of a tail, and it -/
def kP (L : List UInt8) (p : Bool) : SymF:=(27,[.a (.sym 0),.a (lS L)],one1 (lB p))
def cK : List SymF:=[kP id3L false,kP oggL false,kP flcL false]
def cT (ok : Bool) : SymF:=(28,[.a (.sym 0)],.t [.a (.sym 1),.a (lB ok)])
def cS : SymF:=(31,[.a (.sym 0)],.t [.a (.sym 5),.a (.sym 6)])
def cL : SymF:=(30,[.a (.sym 1)],.t [.a (.sym 2),.a (.sym 3)])
def cX (kk : Bool) : SymF:=(29,[.a (.sym 2),.a (.sym 3)],.t [.a (.sym 4),.a (lB kk)])
def tK1 : Told:={ c:=[kP id3L true] }
def tK2 : Told:={ c:=[kP id3L false,kP oggL true] }
def tK3 : Told:={ c:=[kP id3L false,kP oggL false,kP flcL true] }
def tK4 (v : Bool) : Told:={ b:=[(.neq,.sym 6,lS [],lB v)],c:=cT false :: cS :: cK }
def tK5 : Told:={ c:=cT true :: cL :: cX true :: cK }
def tK6 (v : Bool) : Told:={ b:=[(.neq,.sym 6,lS [],lB v)],c:=cT true :: cL :: cX false :: cS :: cK }
noncomputable abbrev runK (T : Told) : Option V2:=symEv T 7 [.a (.sym 0)]
theorem rK1 : runK tK1 = some (.t [.a (lI 1),.a (lB true)]):=by kernel_rfl
theorem rK2 : runK tK2 = some (.t [.a (lI 2),.a (lB true)]):=by kernel_rfl
theorem rK3 : runK tK3 = some (.t [.a (lI 3),.a (lB true)]):=by kernel_rfl
theorem rK4 (v : Bool) : runK (tK4 v) = some (.t [.a (lI (match v with | true=>1 | false=>0)),.a (lB v)]):=by cases v <;> kernel_rfl
theorem rK5 : runK tK5 = some (.t [.a (.sym 4),.a (lB true)]):=by kernel_rfl
theorem rK6 (v : Bool) : runK (tK6 v) = some (.t [.a (lI (match v with | true=>1 | false=>0)),.a (lB v)]):=by cases v <;> kernel_rfl
def linesK (l : List UInt8) : Int:=textsM (leadM (sxM l).1).1 (leadM (sxM l).1).2
def kindS (l : List UInt8) : Int × Bool:=if Lib.hasPrefix l id3L = true then (1,true) else if Lib.hasPrefix l oggL = true then (2,true) else if Lib.hasPrefix l flcL = true then (3,true)
 else if (sxM l).2 = true ∧ linesK l ≠ 0 then (linesK l,true) else (match tailB l with | true=>1 | false=>0,tailB l)
theorem lead_len (l : List UInt8) : (leadM l).1.length ≤ l.length ∧ (leadM l).2.length ≤ l.length:=by
 unfold leadM
 constructor <;> (simp only [List.length_take,List.length_drop];omega)
set_option maxHeartbeats 2000000 in
theorem kind_any (b : ByteArray) (w : World) (hG : GW w) (hs : b.size ≤ 1000000) (ht : (sxM (bl b)).1.length ≤ 1000000) : Calls Tryz.prog 7 #[.string b] w fun e w'=>e = .returned (.tuple #[.int .i64 (kindS (bl b)).1,.bool (kindS (bl b)).2]) ∧ Below w.heap.size w w':=by
 obtain ⟨t,hT⟩ : ∃ t,t = baL (sxM (bl b)).1:=⟨_,rfl⟩
 have htl : bl t = (sxM (bl b)).1:=by rw [hT];exact bl_baL _
 have hts : t.size ≤ 1000000:=by rw [← bl_length,htl];exact ht
 obtain ⟨f,hF⟩ : ∃ f,f = baL (leadM (bl t)).1:=⟨_,rfl⟩
 obtain ⟨n,hN⟩ : ∃ n,n = baL (leadM (bl t)).2:=⟨_,rfl⟩
 have hfl : bl f = (leadM (bl t)).1:=by rw [hF];exact bl_baL _
 have hnl : bl n = (leadM (bl t)).2:=by rw [hN];exact bl_baL _
 have hll:=lead_len (bl t)
 have hfs : f.size ≤ 1000000:=by rw [← bl_length,hfl];have:=bl_length t;omega
 have hns : n.size ≤ 1000000:=by rw [← bl_length,hnl];have:=bl_length t;omega
 obtain ⟨K,hK⟩ : ∃ K,K = linesK (bl b):=⟨_,rfl⟩
 have hKt : textsM (bl f) (bl n) = K:=by rw [hK,hfl,hnl,htl];rfl
 obtain ⟨A,hA⟩ : ∃ A,A = splA b:=⟨_,rfl⟩
 obtain ⟨B,hB⟩ : ∃ B,B = splB b:=⟨_,rfl⟩
 letI:=sgL [.string b,.string t,.string f,.string n,.int .i64 K,.string A,.string B] ⟨okS_str _,okS_str _,okS_str _,okS_str _,okS_int _ _,okS_str _,okS_str _,trivial⟩
 have go : ∀ (L : List UInt8) (p : Bool),Lib.hasPrefix (bl b) L = p → COk w (kP L p):=fun L p h=>
  ⟨[.string b,.string ⟨⟨L⟩⟩],.bool p,fun _=>rfl,fun _=>rfl,fun w' _=>(Tryz.strings_HasPrefix b ⟨⟨L⟩⟩ w').mono fun e w'' q=>⟨by rw [q.1];exact congrArg (fun p=>Ending.returned (.bool p)) h,by rw [q.2];exact Below.refl _ _⟩⟩
 have ct : ∀ ok,(sxM (bl b)).2 = ok → COk w (cT ok):=fun ok h=>⟨[.string b],.tuple #[.string t,.bool ok],fun _=>rfl,fun _=>rfl,fun w' hb=>(stext_any b w' (hG.bel hb) (by omega)).mono fun e w'' q=>⟨by rw [q.1,hT,← h];rfl,q.2⟩⟩
 have cs : COk w cS:=⟨[.string b],.tuple #[.string A,.string B],fun _=>rfl,fun _=>rfl,fun w' hb=>(split_any b w' (hG.bel hb) (by omega)).mono fun e w'' q=>⟨by rw [q.1,hA,hB],q.2⟩⟩
 have cl : COk w cL:=⟨[.string t],.tuple #[.string f,.string n],fun _=>rfl,fun _=>rfl,fun w' _=>(lead_any t w' hts).mono fun e w'' q=>⟨by rw [q.1,hF,hN],q.2⟩⟩
 have cx : ∀ kk,(K != 0) = kk → COk w (cX kk):=fun kk h=>⟨[.string f,.string n],.tuple #[.int .i64 K,.bool kk],fun _=>rfl,fun _=>rfl,fun w' hb=>(texts_any f n w' (hG.bel hb) hfs hns).mono fun e w'' q=>⟨by rw [q.1,hKt,h],q.2⟩⟩
 have bn : BAllOk [((.neq,.sym 6,lS [],lB (tailB (bl b))) : BinF)]:=⟨bok_nes (s:=B) (t:=⟨⟨[]⟩⟩) (fun _=>rfl) (fun _=>rfl) (by
  have:=splB_ne b
  rw [← hB] at this
  rw [← this]
  cases h : B.data.toList <;> simp),trivial⟩
 unfold kindS
 rw [← hK]
 cases h1 : Lib.hasPrefix (bl b) id3L with
 | true=>exact sym_to (vals:=[.string b]) (v:=.tuple #[.int .i64 1,.bool true]) (T:=tK1) hG ⟨trivial,trivial,trivial,trivial,⟨go _ _ h1,trivial⟩,trivial,trivial⟩ rfl rK1 (fun _=>rfl)
 | false=>
  rw [if_neg (by decide)]
  cases h2 : Lib.hasPrefix (bl b) oggL with
  | true=>exact sym_to (vals:=[.string b]) (v:=.tuple #[.int .i64 2,.bool true]) (T:=tK2) hG ⟨trivial,trivial,trivial,trivial,⟨go _ _ h1,go _ _ h2,trivial⟩,trivial,trivial⟩ rfl rK2 (fun _=>rfl)
  | false=>
   rw [if_neg (by decide)]
   cases h3 : Lib.hasPrefix (bl b) flcL with
   | true=>exact sym_to (vals:=[.string b]) (v:=.tuple #[.int .i64 3,.bool true]) (T:=tK3) hG ⟨trivial,trivial,trivial,trivial,⟨go _ _ h1,go _ _ h2,go _ _ h3,trivial⟩,trivial,trivial⟩ rfl rK3 (fun _=>rfl)
   | false=>
    rw [if_neg (by decide)]
    have ck : AllP (COk w) cK:=⟨go _ _ h1,go _ _ h2,go _ _ h3,trivial⟩
    cases ho : (sxM (bl b)).2 with
    | false=>
     rw [if_neg (by simp)]
     exact sym_to (vals:=[.string b]) (v:=.tuple #[.int .i64 (match tailB (bl b) with | true=>1 | false=>0),.bool (tailB (bl b))]) (T:=tK4 (tailB (bl b))) hG ⟨bn,trivial,trivial,trivial,⟨ct _ ho,cs,ck⟩,trivial,trivial⟩ rfl (rK4 _) (fun _=>by cases tailB (bl b) <;> rfl)
    | true=>
     by_cases hk : K = 0
     · rw [if_neg (fun h=>h.2 hk)]
       exact sym_to (vals:=[.string b]) (v:=.tuple #[.int .i64 (match tailB (bl b) with | true=>1 | false=>0),.bool (tailB (bl b))]) (T:=tK6 (tailB (bl b))) hG ⟨bn,trivial,trivial,trivial,⟨ct _ ho,cl,cx false (by simpa using hk),cs,ck⟩,trivial,trivial⟩ rfl (rK6 _) (fun _=>by cases tailB (bl b) <;> rfl)
     · rw [if_pos ⟨rfl,hk⟩]
       exact sym_to (vals:=[.string b]) (v:=.tuple #[.int .i64 K,.bool true]) (T:=tK5) hG ⟨trivial,trivial,trivial,trivial,⟨ct _ ho,cl,cx true (by simpa using hk),ck⟩,trivial,trivial⟩ rfl rK5 (fun _=>rfl)
end Go.Proofs.YtohbeinhlhgfiaaGreatDoor
