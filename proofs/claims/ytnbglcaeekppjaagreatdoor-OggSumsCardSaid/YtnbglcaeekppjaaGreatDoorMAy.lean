/- Ay -/
import Derived.Test.YtnbglcaeekppjaaGreatDoorMCy
set_option linter.unusedVariables false
set_option linter.unusedSimpArgs false
set_option maxHeartbeats 8000000
namespace Go.Proofs.YtnbglcaeekppjaaGreatDoor
open Go.RowKit
def safL (n : Int) : Nat → List UInt8
 | 0=>[]
 | k + 1=>safL (n / 128) k ++ [UInt8.ofNat (n % 128).toNat]
theorem byte_wrap7 (q : Int) (h : 0 ≤ q) : ((UInt8.ofNat (q % 128).toNat).toNat : Int) = q % 128:=by
 rw [UInt8.toNat_ofNat']
 omega
theorem u64_and127 (x : Int) (h₀ : 0 ≤ x) (h₁ : x < 18446744073709551616) : bits .and .u64 x 127 = x % 128:=bits_mask .u64 64 (by decide) wrapsu64 7 (by decide) x h₀ h₁
theorem osafe_any (n : Int) (w : World) (h0 : 0 ≤ n) (h1 : n ≤ 268435455) :
 Calls Tryz.prog 110 #[.int .u64 n] w fun e w'=>e = .returned (.tuple #[.string ⟨(safL n 4).toArray⟩,.bool true]) ∧ Below w.heap.size w w':=by
 obtain ⟨i0,hi,hz0,hz1,hz2⟩:=info_parts infoU8
 obtain ⟨m,hm⟩ : ∃ m : Nat,m = 4:=⟨_,rfl⟩
 obtain ⟨B,hB⟩ : ∃ B,B = w.heap.size:=⟨_,rfl⟩
 have hgt : ¬ n > 268435455:=by omega
 go_enter Tryz.func110,Tryz.ntmps110
 go_wp2_with (first
  | (refine wpList_make_full _ rfl _ _ 141 rfl w.heap.size 5 i0 (.int .u8 0) 1 Tryz.underlying141 hi hz0 hz1 .i64 .i64 (4 : Int) (4 : Int) 4 rfl rfl rfl rfl (by rw [hz2];omega) (by unfold maxLen;omega) (Nat.le_refl _) ?_;intro W hown hgrow))
 rw [show (madeCells (Value.int IntKind.u8 0).cells (4 * 1)).toList = bcells (List.replicate 4 0) from by rw [show (Value.int IntKind.u8 0).cells = #[Value.int IntKind.u8 0] from rfl,toList_madeCells_one];simp [bcells]] at hown
 have hbel : Below w.heap.size w W:=(Below.refl _ _).grown hgrow (Nat.le_refl _) (by intro k hk;cases hk)
 clear hgrow
 rw [← hB] at hown hbel ⊢
 have HBs:=Lib.hid hB
 clear hB
 go_loopw [0,5] (fun q i wr=>∃ (k : Nat) (x : Int) (s : List UInt8),k ≤ 4 ∧ s.length = 4 - k ∧ 0 ≤ x ∧ x ≤ n ∧ q = .int .u64 x ∧ i = .int .i64 ((k : Int) - 1) ∧ safL n 4 = safL x k ++ s ∧
  wr.ownsRow B 5 1 (.slice (some ⟨B,0,none⟩) 4 4) 4 (bcells (List.replicate k 0 ++ s)) ∧ Below B w wr) (fun _ i _=>(intOf i + 1).toNat)
 case atStart=>exact ⟨4,n,[],Nat.le_refl _,by simp,h0,Int.le_refl _,rfl,rfl,by simp,by simpa using hown,hbel⟩
 case round=>
  obtain ⟨k,x,s,hk,hsl,hx0,hx1,rfl,rfl,hbig,hown,hbel⟩:=hrel
  cases k with
  | zero=>
   have hcv:=conv_own (P:=Tryz.prog) 141 9 Tryz.underlying141 Tryz.underlying5 Tryz.underlying9 hown
   have HB:=Lib.hid hbig
   clear hbig
   go_wp2
   go_ret2
   exact ⟨by rw [HB.out];rfl,by rw [← HBs.out];exact hbel⟩
  | succ j=>
   have ej : (((j + 1 : Nat) : Int) - 1) = (j : Int):=by omega
   rw [ej]
   have hc : wr.cell? ⟨B,j,none⟩ = some (.int .u8 0):=by
    rw [hown.cellAt j (by omega)];simp [bcells,List.getElem?_append]
   have hf:=hown.frozenAt j
   have hst:=hown.stored j (.int .u8 ((UInt8.ofNat (x % 128).toNat).toNat : Int))
   rw [bcells_set,set_rep,byte_wrap7 x hx0] at hst
   have ha:=u64_and127 x hx0 (by omega)
   have HS:=Lib.hid hst
   have HB:=Lib.hid hbig
   have HL:=Lib.hid hsl
   have hj4 : (j : Int) < 4:=by omega
   clear hbig hst ej hown hsl
   go_wp2
   go_roundw
   case rel=>exact ⟨j,x / 128,UInt8.ofNat (x % 128).toNat :: s,by omega,by have:=HL.out;simp;omega,by omega,by omega,rfl,rfl,by rw [HB.out,safL];simp,HS.out.1,hbel.setCell (Nat.le_refl _) _⟩
   case measure=>simp [intOf]
theorem awake01_any (w : World) : Calls Tryz.prog 91 #[] w fun e w'=>e = .returned (.bool true) ∧ Below w.heap.size w w':=by
 have k1 : ∀ w,Calls Tryz.prog 110 #[.int .u64 129] w fun e w'=>e = .returned (.tuple #[.string ⟨#[0,0,1,1]⟩,.bool true]) ∧ Below w.heap.size w w':=fun w=>osafe_any 129 w (by decide) (by decide)
 have k2 : ∀ w,Calls Tryz.prog 77 #[.string ⟨#[97,98]⟩,.int .i64 10] w fun x w'=>∃ r,x = .returned (.pointer (some ⟨r,0,none⟩)) ∧ w.heap.size ≤ r ∧ InX w' r ⟨⟨#[97,98]⟩,0,10,0,0⟩ ∧ Below w.heap.size w w':=fun w=>inner_any ⟨#[97,98]⟩ 10 w
 have k3 : ∀ w r,InX w r ⟨⟨#[97,98]⟩,0,10,0,0⟩ → Calls Tryz.prog 89 #[.pointer (some ⟨r,0,none⟩),.int .i64 3] w fun v w'=>v = .returned (.string ⟨#[]⟩) ∧ InX w' r ⟨⟨#[97,98]⟩,0,10,1,12⟩ ∧ w.grownBy w' (some r):=by
  intro w r h
  have:=inx_take w r _ 3 h ⟨by decide,by decide,by decide⟩ (by decide) (by decide)
  have e : takeR ⟨⟨#[97,98]⟩,0,10,0,0⟩ 3 = (⟨⟨#[97,98]⟩,0,10,1,12⟩,⟨#[]⟩):=rfl
  rw [e] at this
  exact this
 have k4 : ∀ w,Calls Tryz.prog 95 #[.int .u64 258,.int .i64 2] w fun e w'=>e = .returned (.string ⟨#[1,2]⟩) ∧ Below w.heap.size w w':=fun w=>big_any 258 2 w (by decide) (by decide)
 have k5 : ∀ w r,InX w r ⟨⟨#[97,98]⟩,0,10,1,12⟩ → Calls Tryz.prog 46 #[.pointer (some ⟨r,0,none⟩)] w fun v w'=>v = .returned (.agg #[.int .i64 1,.int .i64 12]) ∧ Below w.heap.size w w':=fun w r h=>inx_fault w r _ h
 have he:=eqFault 1 12 1 12
 have hg:=fun x y w=>guardFault .eql x y #[.int .i64 1,.int .i64 12] #[.int .i64 1,.int .i64 12] w
 have K1:=Lib.hid k1
 have K2:=Lib.hid k2
 have K3:=Lib.hid k3
 have K4:=Lib.hid k4
 have K5:=Lib.hid k5
 clear k1 k2 k3 k4 k5
 go_enter Tryz.func91,Tryz.ntmps91
 go_wp2_with (first
  | (go_at_call 110;refine (K1.out _).mono ?_;rintro e w1 ⟨rfl,hb1⟩)
  | (go_at_call 77;refine (K2.out _).mono ?_;rintro e w2 ⟨r,rfl,hr,hi2,hb2⟩)
  | (go_at_call 89;refine (K3.out _ _ hi2).mono ?_;rintro e w3 ⟨rfl,hi3,hg3⟩)
  | (go_at_call 95;refine (K4.out _).mono ?_;rintro e w4 ⟨rfl,hb4⟩)
  | (go_at_call 46;refine (K5.out _ _ (hi3.bel hb4)).mono ?_;rintro e w5 ⟨rfl,hb5⟩))
 go_ret
 refine ⟨rfl,bt (bt ?_ hb4) hb5⟩
 have h2:=bt hb1 hb2
 exact h2.grown hg3 h2.size (fun k hk=>by cases hk;have:=hb1.size;omega)
def awS : ByteArray:=⟨#[1,0,0,0,118,1,0,0,0,3,0,0,0,65,61,98]⟩
def awB (c : Int) : Bk:=⟨⟨#[118]⟩,c,[⟨⟨#[65]⟩,⟨#[98]⟩,c⟩]⟩
theorem aw_check (c : Int) : checkM (awB c) = (0,0):=by
 have h : checkM (awB c) = checkM (awB 0):=rfl
 rw [h]
 decide +kernel
theorem aw_print (c : Int) : printL false (awB c) = bl awS:=by
 have h : printL false (awB c) = printL false (awB 0):=rfl
 rw [h]
 decide +kernel
theorem aw_parse : (parseR (RM 0 false) false ⟨awS,0,0,0,0⟩).2 = some (awB 7):=by
 have h:=parse_back (R:=RM 0 false) (RM_utf 0 false) false (awB 0) ⟨awS,0,0,0,0⟩ (aw_check 0) (by decide) (by intro n hn;simp [awB] at hn;subst hn;decide) ⟨rfl,Nat.zero_le _,by rw [aw_print];rfl⟩
 rw [h]
 rfl
theorem grown_bel {w w1 w' : World} {r : Nat} (hb : Below w.heap.size w w1) (hg : w1.grownBy w' (some r)) (hr : w.heap.size ≤ r) : Below w.heap.size w w':=hb.grown hg hb.size (fun k hk=>by cases hk;exact hr)
theorem cparse_new (s : ByteArray) (fr : Bool) (fb : Int) (g : Bool) (w : World) (hT : TW w) (hs : s.size ≤ 1048576) (w1 : World) (r : Nat) (hr : w.heap.size ≤ r) (hi : InX w1 r ⟨s,0,0,0,0⟩) (hb : Below w.heap.size w w1) :
 Calls Tryz.prog 45 #[.pointer (some ⟨r,0,none⟩),.bool fr,.agg #[.int .i64 0,.int .i64 fb,.bool g,.int .i64 0]] w1 fun e w'=>Below w.heap.size w w' ∧ match (parseR (RM fb g) fr ⟨s,0,0,0,0⟩).2 with
  | none=>e = .returned noneV
  | some b=>∃ v,e = .returned (.tuple #[.agg #[.string b.vt,.int .i64 b.vs,v],.bool true]) ∧ Row w' v b.ns.length (ntcells b.ns):=by
 refine (cparse_any w1 r ⟨s,0,0,0,0⟩ fr 0 fb 0 g (hT.bel hb) (Nat.le_trans hT.sz hr) hi ⟨Nat.zero_le _,by show s.size ≤ _;omega,Nat.zero_le _⟩ hs).mono ?_
 rintro e w' ⟨h1,h2,h3⟩
 refine ⟨grown_bel hb h2 hr,?_⟩
 cases hp : (parseR (RM fb g) fr ⟨s,0,0,0,0⟩).2 with
 | none=>rw [hp] at h3;exact h3
 | some b=>
  rw [hp] at h3
  obtain ⟨v,h4,h5⟩:=h3
  exact ⟨v,h4,row_owns h5⟩
theorem readX_any (s : ByteArray) (w : World) : Calls Tryz.prog 43 #[.string s] w fun x w'=>∃ r,x = .returned (.pointer (some ⟨r,0,none⟩)) ∧ w.heap.size ≤ r ∧ InX w' r ⟨s,0,0,0,0⟩ ∧ Below w.heap.size w w':=read_any s w
set_option maxRecDepth 100000 in
theorem awake19_any (w : World) (hT : TW w) : Calls Tryz.prog 55 #[] w fun e w'=>e = .returned (.bool true) ∧ Below w.heap.size w w':=by
 have k1:=fun w=>readX_any awS w
 have k2 : ∀ w1 r,w.heap.size ≤ r → InX w1 r ⟨awS,0,0,0,0⟩ → Below w.heap.size w w1 → Calls Tryz.prog 45 #[.pointer (some ⟨r,0,none⟩),.bool false,.agg #[.int .i64 0,.int .i64 0,.bool false,.int .i64 0]] w1 fun e w'=>
  Below w.heap.size w w' ∧ ∃ v,e = .returned (.tuple #[.agg #[.string ⟨#[118]⟩,.int .i64 7,v],.bool true]) ∧ Row w' v 1 (ntcells (awB 7).ns):=by
  intro w1 r hr hi hb
  refine (cparse_new awS false 0 false w hT (by decide) w1 r hr hi hb).mono ?_
  rintro e w' ⟨h1,h2⟩
  rw [aw_parse] at h2
  exact ⟨h1,h2⟩
 have k3 : ∀ w' v,TW w' → Row w' v 1 (ntcells (awB 7).ns) → Calls Tryz.prog 31 #[.agg #[.string ⟨#[118]⟩,.int .i64 7,v],.bool false] w' fun e w''=>e = .returned (.tuple #[.string awS,.agg #[.int .i64 0,.int .i64 0]]) ∧ Below w'.heap.size w' w'':=by
  intro w' v hT' hrow
  have h:=cprint_any v (awB 7) false w' hT' hrow ⟨by decide,by decide,by intro n hn;simp [awB] at hn;subst hn;decide⟩ (by rw [aw_print];decide) (by decide)
  unfold PrintPost at h
  rw [aw_check,aw_print] at h
  exact h
 have k4:=fun w=>awake01_any w
 have k5:=fun w hT=>awake10_any w hT
 have k6:=fun w=>bad_any 0 0 w
 have hB:=Below.refl w.heap.size w
 have HS : (⟨#[1,0,0,0,118,1,0,0,0,3,0,0,0,65,61,98]⟩ : ByteArray) = awS:=rfl
 have HE : (awS.toList == awS.toList) = true:=by simp
 have K1:=Lib.hid k1
 have K2:=Lib.hid k2
 have K3:=Lib.hid k3
 have K4:=Lib.hid k4
 have K5:=Lib.hid k5
 have K6:=Lib.hid k6
 have HT:=Lib.hid hT
 clear k1 k2 k3 k4 k5 k6 hT
 go_enter Tryz.func55,Tryz.ntmps55
 rw [HS]
 generalize awS = S at *
 clear HS
 go_wp2_with (first
  | (go_at_call 43;refine (K1.out _).mono ?_;rintro e w1 ⟨r,rfl,hr,hi1,hb1⟩)
  | (go_at_call 45;refine (K2.out _ _ hr hi1 hb1).mono ?_;rintro e w2 ⟨hb2,v,rfl,hrow⟩;have hrow0:=hrow;obtain ⟨av,cap,rfl,hc⟩:=hrow;obtain ⟨g,o,rfl,n0,n1,n2⟩:=nt_at hc 0 _ rfl;have hb2a:=bal hb2 (.cells #[.string ⟨#[118]⟩,.int .i64 7,.slice (some ⟨g,o,none⟩) 1 cap] 33);have hbx:=bal (Below.refl w2.heap.size w2) (.cells #[.string ⟨#[118]⟩,.int .i64 7,.slice (some ⟨g,o,none⟩) 1 cap] 33))
  | (go_at_call 31;refine (K3.out _ _ (HT.out.bel hb2a) (hrow0.keep hbx)).mono ?_;rintro e w3 ⟨rfl,hb3⟩;have hb3a:=bal hb3 (.cells #[.int .i64 0,.int .i64 0] 54))
  | (go_at_call 91;refine (K4.out _).mono ?_;rintro e w4 ⟨rfl,hb4⟩;have hb4a:=bt hb3a hb4)
  | (go_at_call 92;refine (K5.out _ (HT.out.bel (bt hb2a hb4a))).mono ?_;rintro e w5 ⟨rfl,hb5⟩;have hb5a:=bt hb4a hb5;have f0:=kc hb5a (Live.fresh w2 #[.string ⟨#[118]⟩,.int .i64 7,.slice (some ⟨g,o,none⟩) 1 cap] 33 0 _ rfl).1;have f2:=kc hb5a (Live.fresh w2 #[.string ⟨#[118]⟩,.int .i64 7,.slice (some ⟨g,o,none⟩) 1 cap] 33 2 _ rfl).1;have e0 : w5.cell? ⟨g,o,none⟩ = some (.string ⟨#[65]⟩):=kc hb5a (kc hbx n0);have e1 : w5.cell? ⟨g,o + 1,none⟩ = some (.string ⟨#[98]⟩):=kc hb5a (kc hbx (by rw [Nat.zero_mul,Nat.add_zero] at n1;exact n1));have q0:=kc (bt hb4 hb5) (Live.fresh w3 #[.int .i64 0,.int .i64 0] 54 0 _ rfl).1;have q1:=kc (bt hb4 hb5) (Live.fresh w3 #[.int .i64 0,.int .i64 0] 54 1 _ rfl).1)
  | (go_at_call 18;refine (K6.out _).mono ?_;rintro e w6 ⟨rfl,hb6⟩))
 go_ret
 exact ⟨ret_b (by simp),bt (bt hb2a hb5a) hb6⟩
def allM (ns : List Nt) (name : ByteArray) : List ByteArray:=(ns.filter fun n=>likeM (bl n.name) (bl name)).map (·.text)
theorem all_cons (n : Nt) (ns : List Nt) (name : ByteArray) : allM (n :: ns) name = (if likeM (bl n.name) (bl name) = true then [n.text] else []) ++ allM ns name:=by
 unfold allM
 rw [List.filter_cons]
 split <;> simp
end Go.Proofs.YtnbglcaeekppjaaGreatDoor
