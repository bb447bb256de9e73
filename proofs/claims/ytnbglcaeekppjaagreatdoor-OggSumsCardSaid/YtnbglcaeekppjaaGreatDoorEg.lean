/- Qv, Qw, Qx, Qy, Qz, Ya, Yb, Yc -/
import Derived.Deep.RegionHeld3
import Derived.Test.YtnbglcaeekppjaaGreatDoorEd
import Derived.Test.YtnbglcaeekppjaaGreatDoorEc
import Derived.Test.YtnbglcaeekppjaaGreatDoorEb
import Derived.Test.YtnbglcaeekppjaaGreatDoorEa
import Derived.Test.YtnbglcaeekppjaaGreatDoorMGC
import Derived.Test.YtnbglcaeekppjaaGreatDoorMGA
import Derived.Test.YtnbglcaeekppjaaGreatDoorMFe
import Derived.Test.YtnbglcaeekppjaaGreatDoorMAy
import Derived.Test.YtnbglcaeekppjaaGreatDoorMGB
import Derived.Test.YtnbglcaeekppjaaGreatDoorMCy
import Derived.Test.YtnbglcaeekppjaaGreatDoorMOc
namespace Go.Proofs.YtnbglcaeekppjaaGreatDoor
open Go.RowKit
set_option linter.unusedVariables false
set_option linter.unusedSimpArgs false

abbrev roZ : Array Value:=#[.int .i64 0,.int .u64 0,.int .u64 0,.int .u64 0,.string ⟨#[]⟩,.string ⟨#[]⟩,.string ⟨#[]⟩,.string ⟨#[]⟩,.int .i64 0,.slice none 0 0,.string ⟨#[]⟩,.slice none 0 0]
/-- the stream's box and the stream that is handed back. -/
structure QS (w : World) (cs : Array Value) (wr : World) : Prop where
  gg : Below w.heap.size w wr
  bx : wr.heap[w.heap.size]? = some (.cells cs 36 (0,0))
  rt : wr.heap[w.heap.size + 1]? = some (.cells roZ 48 (0,0))
theorem QS.bel {w wr : World} {cs : Array Value} (h : QS w cs wr) {w' : World} (hb : Below wr.heap.size wr w') : QS w cs w':=⟨bt h.gg hb,blkP h.bx hb,blkP h.rt hb⟩
theorem QS.cell {w wr : World} {cs : Array Value} (h : QS w cs wr) (i : Nat) (v : Value) (hi : cs[i]? = some v) : wr.cell? ⟨w.heap.size,i,none⟩ = some v:=(live_of h.bx i v hi).1
theorem QS.ret {w wr : World} {cs : Array Value} (h : QS w cs wr) (i : Nat) (v : Value) (hi : roZ[i]? = some v) : wr.cell? ⟨w.heap.size + 1,i,none⟩ = some v ∧ wr.frozen? ⟨w.heap.size + 1,i,none⟩ = false:=live_of h.rt i v hi
end Go.Proofs.YtnbglcaeekppjaaGreatDoor

namespace Go.Proofs.YtnbglcaeekppjaaGreatDoor
open Go.RowKit
set_option linter.unusedVariables false
set_option linter.unusedSimpArgs false

/-- the rows of a stream as the document has it. -/
def RoRow (w : World) (vn vs : Value) (s : OS) : Prop:=Row w vn s.b.ns.length (ntcells s.b.ns) ∧ Row w vs s.sound.length (rgcells s.sound)
theorem RoRow.keep {w w' : World} {vn vs : Value} {s : OS} (h : RoRow w vn vs s) (hb : Below w.heap.size w w') : RoRow w' vn vs s:=⟨h.1.keep hb,h.2.keep hb⟩
end Go.Proofs.YtnbglcaeekppjaaGreatDoor

namespace Go.Proofs.YtnbglcaeekppjaaGreatDoor
open Go.RowKit
set_option linter.unusedVariables false
set_option linter.unusedSimpArgs false

theorem crc_one : crcF 0 [1] = 79764919:=by decide +kernel
set_option maxRecDepth 100000 in
set_option maxHeartbeats 4000000 in
theorem awake16_any (w : World) : Calls Tryz.prog 90 #[] w fun e w'=>e = .returned (.bool true) ∧ Below w.heap.size w w':=by
  have k1:=fun w=>awake01_any w
  have k2 : ∀ w,Calls Tryz.prog 97 #[.slice none 0 0] w fun e w'=>e = .returned (.int .u32 0) ∧ Below w.heap.size w w':=fun w=>sof_any [] (.slice none 0 0) w (Row.nil w) (fun t ht=>by cases ht) (by decide)
  have k3 : ∀ X : World,Calls Tryz.prog 97 #[.slice (some ⟨X.heap.size,0,none⟩) 1 1] (X.alloc (.cells #[.string ⟨#[1]⟩] 9)) fun e w'=>e = .returned (.int .u32 79764919) ∧ Below X.heap.size X w':=fun X=>by
    have:=sof_any [⟨#[1]⟩] (.slice (some ⟨X.heap.size,0,none⟩) 1 1) (X.alloc (.cells #[.string ⟨#[1]⟩] 9)) (row_lit X _ _ 1) (fun t ht=>by simp at ht;subst ht;decide) (by show 1 ≤ _;decide)
    rw [show crcF 0 (([(⟨#[1]⟩ : ByteArray)].map bl).flatten) = 79764919 from crc_one] at this
    exact this.mono fun e w' h=>⟨h.1,bt (bal (Below.refl _ _) _) h.2⟩
  have K1:=Lib.hid k1
  have K2:=Lib.hid k2
  have K3:=Lib.hid k3
  clear k1 k2 k3
  go_enter Tryz.func90,Tryz.ntmps90
  go_wp2_with (first
    | (go_at_call 91;go_loud (refine (K1.out _).mono ?_);go_loud (rintro e w1 ⟨rfl,hb1⟩))
    | (go_at_call 97;(with_reducible refine (K2.out _).mono ?_);go_loud (rintro e w2 ⟨rfl,hb2⟩))
    | (go_at_call 97;go_loud (with_reducible refine (K3.out _).mono ?_);go_loud (rintro e w3 ⟨rfl,hb3⟩))
    | fail)
  go_ret
  exact ⟨rfl,bt (bt hb1 hb2) hb3⟩
theorem eqPG0 (a b c d : Int) (x y : ByteArray) (w : World) : (Op.equalIn 10000 27 (.agg #[.int .u8 a,.int .u64 b,.int .u32 c,.int .u32 d,.string x,.string y]) (.agg #[.int .u8 a,.int .u64 b,.int .u32 c,.int .u32 d,.string x,.string y])).run Tryz.prog w = .ok true w:=by
  have hS : Tryz.prog.underlying 27 = some (.struct (Tryz.prog.fieldsOf 27)):=by kernel_rfl
  have hp : Tryz.prog.stoodInHeld 27 = false:=by kernel_rfl
  have hS2 : Tryz.prog.underlying 25 = some (.struct (Tryz.prog.fieldsOf 25)):=by kernel_rfl
  have hp2 : Tryz.prog.stoodInHeld 25 = false:=by kernel_rfl
  rw [show (10000 : Nat) = 9999 + 1 from rfl,run_equalIn_agg w 9999 27 _ _ hS hp]
  simp only [Program.fieldsOf,Tryz.underlying27]
  simp [go_sem,Op.eqFields]
theorem eqPG (a b c d : Int) (x y : ByteArray) (w : World) : (binOp .eql 27 (.agg #[.int .u8 a,.int .u64 b,.int .u32 c,.int .u32 d,.string x,.string y]) (.agg #[.int .u8 a,.int .u64 b,.int .u32 c,.int .u32 d,.string x,.string y])).run Tryz.prog w = .ok (.bool true) w:=by
  rw [run_eql_struct,eqPG0];rfl
theorem guardPG (op : BinOp) (x y : Operand) (xs ys : Array Value) (w : World) : (eqGuard op 27 x y (.agg xs) (.agg ys)).run Tryz.prog w = .ok () w:=run_eqGuard_agg w op 27 x y xs ys (by kernel_rfl)
theorem gG0 : gG pg0:=⟨by decide,by decide,by decide,by decide,by decide⟩
set_option maxRecDepth 100000 in
set_option maxHeartbeats 4000000 in
theorem awake17_any (w : World) : Calls Tryz.prog 53 #[] w fun e w'=>e = .returned (.bool true) ∧ Below w.heap.size w w':=by
  have kp : ∀ w,Calls Tryz.prog 29 #[.agg #[.int .u8 0,.int .u64 0,.int .u32 0,.int .u32 0,.string ⟨#[]⟩,.string ⟨#[]⟩]] w fun e w'=>e = .returned (.tuple #[.string (toB (gprintL crcN pg0)),.agg #[.int .i64 0,.int .i64 0]]) ∧ Below w.heap.size w w':=fun w=>gprint_any pg0 w gG0 (by decide)
  have hl : (gprintL crcN pg0).length = 27:=gprint_len crcN pg0
  have hsz : (toB (gprintL crcN pg0)).size = 27:=by rw [szB,hl]
  have hrest : Rest (⟨toB (gprintL crcN pg0),0,0,0,0⟩ : RS) (gprintL crcN pg0 ++ []):=⟨rfl,Nat.zero_le _,by rw [bl_toB,List.drop_zero,List.append_nil]⟩
  have hback:=(gpar_back crcN crcN_lt pg0 gG0 hrest).2
  have kg : ∀ w r,InX w r ⟨toB (gprintL crcN pg0),0,0,0,0⟩ → Calls Tryz.prog 51 #[.pointer (some ⟨r,0,none⟩)] w fun e w'=>e = .returned (.tuple #[.agg #[.int .u8 0,.int .u64 0,.int .u32 0,.int .u32 0,.string ⟨#[]⟩,.string ⟨#[]⟩],.bool true]) ∧ w.grownBy w' (some r):=fun w r h=>by
    have:=gpar_any w r ⟨toB (gprintL crcN pg0),0,0,0,0⟩ h ⟨Nat.zero_le _,by show (toB (gprintL crcN pg0)).size ≤ _;rw [hsz];decide,Nat.zero_le _⟩
    rw [hback] at this
    exact this.mono fun e w' q=>⟨q.1,q.2.2⟩
  generalize toB (gprintL crcN pg0) = S at *
  have kr:=fun w=>readX_any S w
  have ka:=fun w=>awake16_any w
  have kb : ∀ w,Calls Tryz.prog 18 #[.agg #[.int .i64 0,.int .i64 0]] w fun e w'=>e = .returned (.bool false) ∧ Below w.heap.size w w':=fun w=>bad_any 0 0 w
  have ko : ∀ w,Calls Tryz.prog 67 #[.agg #[.int .u8 0,.int .u64 0,.int .u32 0,.int .u32 0,.string ⟨#[3,255]⟩,.string ⟨#[]⟩]] w fun e w'=>e = .returned (.bool true) ∧ Below w.heap.size w w':=fun w=>gopen_any ⟨0,0,0,0,⟨#[3,255]⟩,⟨#[]⟩⟩ w (by decide)
  have hs27 : (S.size : Int) = 27:=by omega
  have e1:=fun w=>eqPG 0 0 0 0 ⟨#[]⟩ ⟨#[]⟩ w
  have g1:=fun x y w=>guardPG .eql x y #[.int .u8 0,.int .u64 0,.int .u32 0,.int .u32 0,.string ⟨#[]⟩,.string ⟨#[]⟩] #[.int .u8 0,.int .u64 0,.int .u32 0,.int .u32 0,.string ⟨#[]⟩,.string ⟨#[]⟩] w
  have hB:=Below.refl w.heap.size w
  have KP:=Lib.hid kp
  have KG:=Lib.hid kg
  have KR:=Lib.hid kr
  have KA:=Lib.hid ka
  have KB:=Lib.hid kb
  have KO:=Lib.hid ko
  clear kp kg kr ka kb ko
  clear hl hsz hrest hback
  go_enter Tryz.func53,Tryz.ntmps53
  go_wp2_with (first
    | (go_at_call 29;go_loud (refine (KP.out _).mono ?_);go_loud (rintro e w1 ⟨rfl,hb1⟩);go_loud (have hbk:=bal hb1 (.cells #[.int .i64 0,.int .i64 0] 54));go_loud (have KF:=Lib.hid (Live.fresh w1 #[.int .i64 0,.int .i64 0] 54 0 _ rfl));go_loud (have KF1:=Lib.hid (Live.fresh w1 #[.int .i64 0,.int .i64 0] 54 1 _ rfl)))
    | (go_at_call 43;go_loud (refine (KR.out _).mono ?_);go_loud (rintro e w2 ⟨r,rfl,hr,hi,hb2⟩))
    | (go_at_call 51;go_loud (refine (KG.out _ _ hi).mono ?_);go_loud (rintro e w3 ⟨rfl,hg3⟩);go_loud (have hb3:=grown_bel hb2 hg3 hr);go_loud (have hb4:=bal hb3 (.cells #[.int .u8 0,.int .u64 0,.int .u32 0,.int .u32 0,.string ⟨#[]⟩,.string ⟨#[]⟩] 27)))
    | (go_at_call 90;go_loud (refine (KA.out _).mono ?_);go_loud (rintro e w5 ⟨rfl,hb5⟩);go_loud (have hb6:=bt hb4 hb5);go_loud (obtain ⟨f0,_⟩:=KF.out.keep hb6);go_loud (obtain ⟨f1,_⟩:=KF1.out.keep hb6))
    | (go_at_call 18;go_loud (refine (KB.out _).mono ?_);go_loud (rintro e w7 ⟨rfl,hb7⟩);go_loud (have hbp:=bt hb5 hb7);go_loud (obtain ⟨p0,p1,p2,p3,p4,p5⟩:=gvL (blkP (heap_alloc_new w3 (.cells #[.int .u8 0,.int .u64 0,.int .u32 0,.int .u32 0,.string ⟨#[]⟩,.string ⟨#[]⟩] 27)) hbp)))
    | (go_at_call 67;go_loud (refine (KO.out _).mono ?_);go_loud (rintro e w8 ⟨rfl,hb8⟩))
    | fail)
  go_ret
  exact ⟨rfl,bt hbk (bt (bt hb6 hb7) hb8)⟩
def p18 : PG:=⟨0,0,0,0,⟨#[2,1]⟩,⟨#[97,98,99]⟩⟩
theorem ex18a : pagesO 0 (lacesB [⟨#[97,98]⟩,⟨#[99]⟩]).length 0 (lacesB [⟨#[97,98]⟩,⟨#[99]⟩]) (([⟨#[97,98]⟩,⟨#[99]⟩] : List ByteArray).map bl).flatten false = [p18]:=by
  have h1 : lacesB [⟨#[97,98]⟩,⟨#[99]⟩] = [2,1]:=by decide
  rw [h1]
  rfl
theorem ex18b : joinG [p18] 0 false [] [] = ([[97,98],[99]],0,0):=by decide
theorem ex18c : laceL 255 = [255,0]:=by decide
set_option maxRecDepth 100000 in
set_option maxHeartbeats 4000000 in
theorem awake18_any (w : World) : Calls Tryz.prog 54 #[] w fun e w'=>e = .returned (.bool true) ∧ Below w.heap.size w w':=by
  have kp : ∀ (X : World),Calls Tryz.prog 32 #[.agg #[.int .u8 0,.int .u64 0,.int .u32 0,.int .u32 0],.slice (some ⟨X.heap.size,0,none⟩) 2 2] (X.alloc (.cells #[.string ⟨#[97,98]⟩,.string ⟨#[99]⟩] 9)) (PPost [p18] (X.alloc (.cells #[.string ⟨#[97,98]⟩,.string ⟨#[99]⟩] 9))):=fun X=>by
    have h1:=own_lit (n:=2) (s:=1) (heap_alloc_new X (.cells #[.string ⟨#[97,98]⟩,.string ⟨#[99]⟩] 9)) rfl (by decide)
    have:=ppages_any 0 0 [⟨#[97,98]⟩,⟨#[99]⟩] X.heap.size _ _ h1 (by simp) (by show 2 ≤ _;decide) (fun t ht=>by
      simp only [List.mem_cons,List.not_mem_nil,or_false] at ht
      rcases ht with rfl | rfl <;> decide) (by decide) (by decide)
    rw [ex18a] at this
    exact this
  unfold PPost at kp
  have kj : ∀ (v : Value) (w : World),Row w v 1 (gcells [p18]) → Calls Tryz.prog 68 #[v] w (JoinPost ([[97,98],[99]],0,0) w):=fun v w h=>by
    have:=gjoin_any v [p18] w h (by decide) (fun p hp=>by simp at hp;subst hp;exact ⟨by decide,by decide⟩)
    rw [ex18b] at this
    exact this
  unfold JoinPost at kj
  simp only [List.length_cons,List.length_nil,Nat.zero_add,Nat.reduceAdd] at kp kj
  have ka:=fun w=>awake17_any w
  have kb : ∀ w,Calls Tryz.prog 18 #[.agg #[.int .i64 0,.int .i64 0]] w fun e w'=>e = .returned (.bool false) ∧ Below w.heap.size w w':=fun w=>bad_any 0 0 w
  have kl : ∀ w,Calls Tryz.prog 64 #[.int .i64 255] w fun e w'=>e = .returned (.string ⟨#[255,0]⟩) ∧ Below w.heap.size w w':=fun w=>by
    have:=glace_any 255 w (by decide)
    rw [ex18c] at this
    exact this
  have HS1 : ((⟨#[255,0]⟩ : ByteArray).toList == (⟨#[255,0]⟩ : ByteArray).toList) = true:=by simp
  have KP:=Lib.hid kp
  have KJ:=Lib.hid kj
  have KA:=Lib.hid ka
  have KB:=Lib.hid kb
  have KL:=Lib.hid kl
  clear kp kj ka kb kl
  go_enter Tryz.func54,Tryz.ntmps54
  go_wp2_with (first
    | (go_at_call 32;go_loud (refine (KP.out _).mono ?_);go_loud (rintro e w1 ⟨hb1,v1,rfl,ho1⟩);go_loud (obtain ⟨g1,c1,rfl,_⟩:=orow_some ho1 (by decide));go_loud (have hbk:=bt (bal (Below.refl w.heap.size w) _) hb1))
    | (go_at_call 68;go_loud (refine (KJ.out _ _ (row_owns ho1)).mono ?_);go_loud (rintro e w2 ⟨hb2,v2,rfl,ho2⟩);go_loud (obtain ⟨g2,c2,rfl,_⟩:=orow_some ho2 (by decide));go_loud (have hb3:=bal hb2 (.cells #[.int .i64 0,.int .i64 0] 54));go_loud (have hx2:=bal (Below.refl w2.heap.size w2) (.cells #[.int .i64 0,.int .i64 0] 54));go_loud (have KF:=Lib.hid (Live.fresh w2 #[.int .i64 0,.int .i64 0] 54 0 _ rfl));go_loud (have KF1:=Lib.hid (Live.fresh w2 #[.int .i64 0,.int .i64 0] 54 1 _ rfl)))
    | (go_at_call 53;go_loud (refine (KA.out _).mono ?_);go_loud (rintro e w5 ⟨rfl,hb5⟩))
    | (go_at_call 64;go_loud (refine (KL.out _).mono ?_);go_loud (rintro e w6 ⟨rfl,hb6⟩);go_loud (have hb7:=bt hb5 hb6);go_loud (obtain ⟨f0,_⟩:=KF.out.keep hb7);go_loud (obtain ⟨f1,_⟩:=KF1.out.keep hb7);go_loud (obtain ⟨gg,eg,z0,z1,z2,z3,z4,z5⟩:=row_first (orow_bel ho1 (bt hb3 hb7)) (by decide));go_loud (simp only [Option.some.injEq,Addr.mk.injEq,and_true] at eg);go_loud (subst eg);go_loud (obtain ⟨g3,eg,y0,y1⟩:=row_two' (orow_bel ho2 (bt hx2 hb7)) (by decide));go_loud (simp only [Option.some.injEq,Addr.mk.injEq,and_true] at eg);go_loud (subst eg);go_loud (rw [show p18.la = ⟨#[2,1]⟩ from rfl] at z4);go_loud (rw [show toB [99] = ⟨#[99]⟩ from rfl] at y1))
    | (go_at_call 18;go_loud (refine (KB.out _).mono ?_);go_loud (rintro e w8 ⟨rfl,hb8⟩))
    | fail)
  go_ret
  exact ⟨rfl,bt hbk (bt (bt hb3 hb7) hb8)⟩
end Go.Proofs.YtnbglcaeekppjaaGreatDoor

namespace Go.Proofs.YtnbglcaeekppjaaGreatDoor
open Go.RowKit
set_option linter.unusedVariables false
set_option linter.unusedSimpArgs false

def f20 : PG:=⟨2,0,0,0,⟨#[7]⟩,⟨#[1,118,111,114,98,105,115]⟩⟩
def exS : OS:=⟨f20,⟨⟨#[]⟩,0,[]⟩,⟨#[5,118,111,114,98,105,115]⟩,[]⟩
def m20 : PG:=⟨0,0,0,1,⟨#[16,7]⟩,⟨#[3,118,111,114,98,105,115,0,0,0,0,0,0,0,0,1,5,118,111,114,98,105,115]⟩⟩
theorem ex20a : ocheckM exS = (0,0):=by decide +kernel
theorem ex20b : midO exS = [m20]:=by kernel_rfl
theorem ex20c : opagesL exS = [f20,m20]:=by
  unfold opagesL
  rw [ex20b]
  rfl
theorem ex20d : okO exS:=⟨⟨⟨by decide,by decide,by decide,by decide,by decide⟩,(fun p hp=>by cases hp)⟩,ex20a,by decide,by decide,(fun n hn=>by cases hn),by rw [ex20c];decide⟩
theorem ex20e : smOS exS:=⟨⟨by decide,by decide,(fun n hn=>by cases hn)⟩,⟨by decide,by decide⟩,by decide,by decide,(fun p hp=>by cases hp)⟩
theorem ex20f : bigO exS:=⟨by decide,by decide,by decide⟩
theorem row_at1 {w : World} {B g cap : Nat} (h : w.ownsRow B 27 6 (.slice (some ⟨g,0,none⟩) 2 cap) 2 (gcells [f20,m20])) : w.cell? ⟨g,10,none⟩ = some (.string ⟨#[16,7]⟩):=by
  obtain ⟨g',c',hv,_,_,_,hc⟩:=orow_parts h (by decide)
  simp only [Value.slice.injEq,Option.some.injEq,Addr.mk.injEq,and_true] at hv
  obtain ⟨rfl,_⟩:=hv
  have:=hc 10 _ rfl
  rw [Nat.zero_add] at this
  exact this
set_option maxRecDepth 100000 in
set_option maxHeartbeats 8000000 in
theorem awake20_any (w : World) (hT : TW w) : Calls Tryz.prog 23 #[] w fun e w'=>e = .returned (.bool true) ∧ Below w.heap.size w w':=by
  have kpg : ∀ w',TW w' → Calls Tryz.prog 11 #[.agg #[.int .u8 2,.int .u64 0,.int .u32 0,.int .u32 0,.string ⟨#[7]⟩,.string ⟨#[1,118,111,114,98,105,115]⟩,.string ⟨#[]⟩,.int .i64 0,.slice none 0 0,.string ⟨#[5,118,111,114,98,105,115]⟩,.slice none 0 0]] w' (OPagesPost [f20,m20] (0,0) w'):=fun w' hT'=>by
    have:=opagesW_good (.slice none 0 0) (.slice none 0 0) exS w' hT' ⟨Row.nil _,Row.nil _⟩ ex20e ex20d ex20f
    rw [ex20c] at this
    exact this
  unfold OPagesPost at kpg
  have kpr : ∀ w',TW w' → Calls Tryz.prog 10 #[.agg #[.int .u8 2,.int .u64 0,.int .u32 0,.int .u32 0,.string ⟨#[7]⟩,.string ⟨#[1,118,111,114,98,105,115]⟩,.string ⟨#[]⟩,.int .i64 0,.slice none 0 0,.string ⟨#[5,118,111,114,98,105,115]⟩,.slice none 0 0]] w' fun e w''=>e = .returned (.tuple #[.string (toB (oprintL crcN exS)),.agg #[.int .i64 0,.int .i64 0]]) ∧ Below w'.heap.size w' w'':=fun w' hT'=>oprint_good (.slice none 0 0) (.slice none 0 0) exS w' hT' ⟨Row.nil _,Row.nil _⟩ ex20e ex20d ex20f
  have hsz : (toB (oprintL crcN exS)).size ≤ 1048576:=by
    have h:=flat_pages (opagesL exS) (opages_good ex20d)
    rw [ex20c] at h
    rw [szB]
    unfold oprintL
    rw [ex20c]
    simp only [List.length_cons,List.length_nil] at h
    omega
  have kpa : ∀ w',TW w' → Calls Tryz.prog 16 #[.string (toB (oprintL crcN exS)),.agg #[.int .i64 0,.int .i64 0,.bool false,.int .i64 0]] w' fun e w''=>Below w'.heap.size w' w'' ∧ ∃ (an : Option Addr) (cn : Nat) (as_ : Option Addr) (cs_ : Nat),e = .returned (.tuple #[.agg #[.int .u8 2,.int .u64 0,.int .u32 0,.int .u32 0,.string ⟨#[7]⟩,.string ⟨#[1,118,111,114,98,105,115]⟩,.string ⟨#[]⟩,.int .i64 7,.slice an 0 cn,.string ⟨#[5,118,111,114,98,105,115]⟩,.slice as_ 0 cs_],.agg #[.int .i64 0,.int .i64 0]]):=fun w' hT'=>by
    have:=oparse_any (toB (oprintL crcN exS)) 0 0 0 false w' hT' hsz
    rw [show toB (oprintL crcN exS) = ⟨(oprintL crcN exS).toArray⟩ from rfl,opar_back crcN (RM 0 false) crcN_lt (RM_utf 0 false) exS ex20d] at this
    refine this.mono ?_
    rintro e w'' ⟨hb,vn,vs,he,h1,h2⟩
    obtain ⟨an,cn,rfl⟩:=orow_form h1
    obtain ⟨as_,cs_,rfl⟩:=orow_form h2
    exact ⟨hb,an,cn,as_,cs_,he⟩
  generalize toB (oprintL crcN exS) = PS at *
  have k17:=fun w=>awake17_any w
  have k18:=fun w=>awake18_any w
  have k19:=fun w hT=>awake19_any w hT
  have kb : ∀ w,Calls Tryz.prog 18 #[.agg #[.int .i64 0,.int .i64 0]] w fun e w'=>e = .returned (.bool false) ∧ Below w.heap.size w w':=fun w=>bad_any 0 0 w
  have e1:=fun w=>eqPG 2 0 0 0 ⟨#[7]⟩ ⟨#[1,118,111,114,98,105,115]⟩ w
  have g1:=fun x y w=>guardPG .eql x y #[.int .u8 2,.int .u64 0,.int .u32 0,.int .u32 0,.string ⟨#[7]⟩,.string ⟨#[1,118,111,114,98,105,115]⟩] #[.int .u8 2,.int .u64 0,.int .u32 0,.int .u32 0,.string ⟨#[7]⟩,.string ⟨#[1,118,111,114,98,105,115]⟩] w
  have hb0:=bal (Below.refl w.heap.size w) (.cells #[.int .u8 2,.int .u64 0,.int .u32 0,.int .u32 0,.string ⟨#[7]⟩,.string ⟨#[1,118,111,114,98,105,115]⟩,.string ⟨#[]⟩,.int .i64 0,.slice none 0 0,.string ⟨#[5,118,111,114,98,105,115]⟩,.slice none 0 0] 36)
  have KS:=Lib.hid (heap_alloc_new w (.cells #[.int .u8 2,.int .u64 0,.int .u32 0,.int .u32 0,.string ⟨#[7]⟩,.string ⟨#[1,118,111,114,98,105,115]⟩,.string ⟨#[]⟩,.int .i64 0,.slice none 0 0,.string ⟨#[5,118,111,114,98,105,115]⟩,.slice none 0 0] 36))
  simp only [List.length_cons,List.length_nil,Nat.zero_add,Nat.reduceAdd] at kpg
  have KPG:=Lib.hid kpg
  have KPR:=Lib.hid kpr
  have KPA:=Lib.hid kpa
  have K17:=Lib.hid k17
  have K18:=Lib.hid k18
  have K19:=Lib.hid k19
  have KB:=Lib.hid kb
  have HT:=Lib.hid hT
  have HB0:=Lib.hid hb0
  clear kpg kpr kpa k17 k18 k19 kb hT hb0
  clear hsz
  go_enter Tryz.func23,Tryz.ntmps23
  go_wp2_with (first
    | (go_at_call 11;go_loud (refine (KPG.out _ (HT.out.bel HB0.out)).mono ?_);go_loud (rintro e w1 ⟨hb1,v1,rfl,ho1⟩);go_loud (obtain ⟨g1,c1,rfl,_⟩:=orow_some ho1 (by decide));go_loud (have hx1:=bal hb1 (.cells #[.int .i64 0,.int .i64 0] 54));go_loud (have hw1:=bal (Below.refl w1.heap.size w1) (.cells #[.int .i64 0,.int .i64 0] 54));go_loud (have F10:=Lib.hid (Live.fresh w1 #[.int .i64 0,.int .i64 0] 54 0 _ rfl));go_loud (have F11:=Lib.hid (Live.fresh w1 #[.int .i64 0,.int .i64 0] 54 1 _ rfl));go_loud (obtain ⟨s0,_⟩:=live_of (blkP KS.out hx1) 0 _ rfl);go_loud (obtain ⟨s1,_⟩:=live_of (blkP KS.out hx1) 1 _ rfl);go_loud (obtain ⟨s2,_⟩:=live_of (blkP KS.out hx1) 2 _ rfl);go_loud (obtain ⟨s3,_⟩:=live_of (blkP KS.out hx1) 3 _ rfl);go_loud (obtain ⟨s4,_⟩:=live_of (blkP KS.out hx1) 4 _ rfl);go_loud (obtain ⟨s5,_⟩:=live_of (blkP KS.out hx1) 5 _ rfl);go_loud (obtain ⟨s6,_⟩:=live_of (blkP KS.out hx1) 6 _ rfl);go_loud (obtain ⟨s7,_⟩:=live_of (blkP KS.out hx1) 7 _ rfl);go_loud (obtain ⟨s8,_⟩:=live_of (blkP KS.out hx1) 8 _ rfl);go_loud (obtain ⟨s9,_⟩:=live_of (blkP KS.out hx1) 9 _ rfl);go_loud (obtain ⟨s10,_⟩:=live_of (blkP KS.out hx1) 10 _ rfl))
    | (go_at_call 10;go_loud (refine (KPR.out _ (HT.out.bel (bt HB0.out hx1))).mono ?_);go_loud (rintro e w2 ⟨rfl,hb2⟩);go_loud (have hx2:=bal hb2 (.cells #[.int .i64 0,.int .i64 0] 54));go_loud (have F20:=Lib.hid (Live.fresh w2 #[.int .i64 0,.int .i64 0] 54 0 _ rfl));go_loud (have F21:=Lib.hid (Live.fresh w2 #[.int .i64 0,.int .i64 0] 54 1 _ rfl)))
    | (go_at_call 16;go_loud (refine (KPA.out _ (HT.out.bel (bt (bt HB0.out hx1) hx2))).mono ?_);go_loud (rintro e w3 ⟨hb3,an,cn,as_,cs_,rfl⟩);go_loud (have hx3:=bal (bal hb3 (.cells #[.int .u8 2,.int .u64 0,.int .u32 0,.int .u32 0,.string ⟨#[7]⟩,.string ⟨#[1,118,111,114,98,105,115]⟩,.string ⟨#[]⟩,.int .i64 7,.slice an 0 cn,.string ⟨#[5,118,111,114,98,105,115]⟩,.slice as_ 0 cs_] 36)) (.cells #[.int .i64 0,.int .i64 0] 54));go_loud (have KT:=Lib.hid (blkP (heap_alloc_new w3 (.cells #[.int .u8 2,.int .u64 0,.int .u32 0,.int .u32 0,.string ⟨#[7]⟩,.string ⟨#[1,118,111,114,98,105,115]⟩,.string ⟨#[]⟩,.int .i64 7,.slice an 0 cn,.string ⟨#[5,118,111,114,98,105,115]⟩,.slice as_ 0 cs_] 36)) (bal (Below.refl _ _) (.cells #[.int .i64 0,.int .i64 0] 54))));go_loud (have F3:=heap_alloc_new (w3.alloc (.cells #[.int .u8 2,.int .u64 0,.int .u32 0,.int .u32 0,.string ⟨#[7]⟩,.string ⟨#[1,118,111,114,98,105,115]⟩,.string ⟨#[]⟩,.int .i64 7,.slice an 0 cn,.string ⟨#[5,118,111,114,98,105,115]⟩,.slice as_ 0 cs_] 36)) (.cells #[.int .i64 0,.int .i64 0] 54));go_loud (rw [World.size_alloc] at F3);go_loud (have HF3:=Lib.hid F3);go_loud (clear F3);go_loud (have hall:=bt (bt (bt HB0.out hx1) hx2) hx3))
    | (go_at_call 53;go_loud (refine (K17.out _).mono ?_);go_loud (rintro e w5 ⟨rfl,hb5⟩))
    | (go_at_call 54;go_loud (refine (K18.out _).mono ?_);go_loud (rintro e w6 ⟨rfl,hb6⟩);go_loud (have hb56:=bt hb5 hb6))
    | (go_at_call 55;go_loud (refine (K19.out _ (HT.out.bel (bt hall hb56))).mono ?_);go_loud (rintro e w7 ⟨rfl,hb7⟩);go_loud (have hbz:=bt hb56 hb7);go_loud (have hbz2:=bt hx3 hbz);go_loud (have hbz1:=bt hx2 hbz2);go_loud (obtain ⟨f10,_⟩:=F10.out.keep hbz1);go_loud (obtain ⟨f11,_⟩:=F11.out.keep hbz1);go_loud (obtain ⟨f20_,_⟩:=F20.out.keep hbz2);go_loud (obtain ⟨f21_,_⟩:=F21.out.keep hbz2);go_loud (obtain ⟨f30,_⟩:=live_of (blkP HF3.out hbz) 0 _ rfl);go_loud (obtain ⟨f31,_⟩:=live_of (blkP HF3.out hbz) 1 _ rfl);go_loud (have z4:=(row_at1 (orow_bel ho1 (bt hw1 hbz1)))))
    | (go_at_call 18;go_loud (refine (KB.out _).mono ?_);go_loud (rintro e w8 ⟨rfl,hb8⟩);go_loud (replace hbz:=bt hbz hb8);go_loud (replace hbz2:=bt hx3 hbz);go_loud (replace hbz1:=bt hx2 hbz2);go_loud (clear f20_ f21_ f30 f31 hb8);go_loud (obtain ⟨f20_,_⟩:=F20.out.keep hbz2);go_loud (obtain ⟨f21_,_⟩:=F21.out.keep hbz2);go_loud (obtain ⟨f30,_⟩:=live_of (blkP HF3.out hbz) 0 _ rfl);go_loud (obtain ⟨f31,_⟩:=live_of (blkP HF3.out hbz) 1 _ rfl);go_loud (obtain ⟨t0,_⟩:=live_of (blkP KT.out hbz) 0 _ rfl);go_loud (obtain ⟨t1,_⟩:=live_of (blkP KT.out hbz) 1 _ rfl);go_loud (obtain ⟨t2,_⟩:=live_of (blkP KT.out hbz) 2 _ rfl);go_loud (obtain ⟨t3,_⟩:=live_of (blkP KT.out hbz) 3 _ rfl);go_loud (obtain ⟨t4,_⟩:=live_of (blkP KT.out hbz) 4 _ rfl);go_loud (obtain ⟨t5,_⟩:=live_of (blkP KT.out hbz) 5 _ rfl);go_loud (obtain ⟨t9,_⟩:=live_of (blkP KT.out hbz) 9 _ rfl);go_loud (obtain ⟨s0,_⟩:=live_of (blkP KS.out (bt hx1 hbz1)) 0 _ rfl);go_loud (obtain ⟨s1,_⟩:=live_of (blkP KS.out (bt hx1 hbz1)) 1 _ rfl);go_loud (obtain ⟨s2,_⟩:=live_of (blkP KS.out (bt hx1 hbz1)) 2 _ rfl);go_loud (obtain ⟨s3,_⟩:=live_of (blkP KS.out (bt hx1 hbz1)) 3 _ rfl);go_loud (obtain ⟨s4,_⟩:=live_of (blkP KS.out (bt hx1 hbz1)) 4 _ rfl);go_loud (obtain ⟨s5,_⟩:=live_of (blkP KS.out (bt hx1 hbz1)) 5 _ rfl);go_loud (obtain ⟨s9,_⟩:=live_of (blkP KS.out (bt hx1 hbz1)) 9 _ rfl))
    | fail)
  go_ret
  exact ⟨rfl,bt hall hbz⟩
end Go.Proofs.YtnbglcaeekppjaaGreatDoor

namespace Go.Proofs.YtnbglcaeekppjaaGreatDoor
open Go.RowKit
set_option linter.unusedVariables false
set_option linter.unusedSimpArgs false

theorem flat_gsz (crc : List UInt8 → Nat) : ∀ l : List PG,(l.flatMap (gprintL crc)).length = (l.map gsz).sum
  | []=>rfl
  | p :: r=>by
    rw [List.flatMap_cons,List.length_append,gprint_len,flat_gsz crc r,List.map_cons,List.sum_cons]
    rfl
theorem renum_sum : ∀ (l : List PG) (n : Nat),((renumL n l).map gsz).sum = (l.map gsz).sum
  | [],n=>rfl
  | p :: r,n=>by
    rw [renumL,List.map_cons,List.sum_cons,renum_sum r,List.map_cons,List.sum_cons]
    rfl
theorem pagesO_sum (se : Nat) : ∀ (f nu : Nat) (la bo : List UInt8) (op : Bool),((pagesO se f nu la bo op).map gsz).sum ≤ 28 * la.length + bo.length:=by
  intro f
  induction f with
  | zero=>intro nu la bo op;rw [pagesO];exact Nat.zero_le _
  | succ f ih=>
    intro nu la bo op
    rw [pagesO]
    split
    · exact Nat.zero_le _
    · next h=>
      have h1:=ih (nu + 1) (la.drop 255) (bo.drop (totL (la.take 255))) (openL op (la.take 255))
      have h2 : 0 < la.length:=List.length_pos_iff.2 h
      have h3 : gsz (pageO se nu (la.take 255) (bo.take (totL (la.take 255))) op) = 27 + (la.take 255).length + (bo.take (totL (la.take 255))).length:=by
        unfold gsz pageO
        simp only
        rw [szL,szL]
      rw [List.map_cons,List.sum_cons,h3]
      simp only [List.length_take,List.length_drop] at h1 ⊢
      omega
structure OSm (S : OS) : Prop where
  ok : okO S
  sm : smOS S
  big : bigO S
  g1 : okG S.first
  g2 : ∀ p ∈ S.sound,okG p
  nl : S.b.ns.length ≤ 1000000
  sl : S.sound.length ≤ 1900000
end Go.Proofs.YtnbglcaeekppjaaGreatDoor

namespace Go.Proofs.YtnbglcaeekppjaaGreatDoor
open Go.ChangeShapes Go.WideShapes Go.ChangeAt Go.RowKit Go.ChangeMaps
set_option linter.unusedVariables false
set_option linter.unusedSimpArgs false

theorem cells_y8 : Tryz.prog.cellsOf 5 = 1:=by kernel_rfl
theorem cells_y32 : Tryz.prog.cellsOf 23 = 1:=by kernel_rfl
theorem cells_y64 : Tryz.prog.cellsOf 22 = 1:=by kernel_rfl
theorem cells_head : Tryz.prog.cellsOf 25 = 4:=by kernel_rfl
theorem cells_page : Tryz.prog.cellsOf 27 = 6:=by kernel_rfl
theorem cells_pages : Tryz.prog.cellsOf 34 = 1:=by kernel_rfl
theorem cells_strm : Tryz.prog.cellsOf 36 = 11:=by kernel_rfl
/-- a page as its cells; its numbers fit. -/
def okPG (p : PG) : Prop:=okG p ∧ p.la.size ≤ maxLen ∧ p.bo.size ≤ maxLen
abbrev pgC (p : PG) : List Value:=[.int .u8 p.fl.toNat,.int .u64 p.po,.int .u32 p.se,.int .u32 p.nu,.string p.la,.string p.bo]
def okOS (s : OS) : Prop:=okPG s.first ∧ okBk s.b ∧ s.setup.size ≤ maxLen ∧ s.sound.length ≤ maxLen ∧ ∀ p ∈ s.sound,okPG p
section
variable {H : Type} {enc : TypeId × Value → H} {w : World} {base : Nat} {sp : Nat → Bool} {held : Bool}
theorem u8_of (c : Int) (h : (decide (IntKind.u8.min ≤ c) && decide (c ≤ IntKind.u8.max)) = true) : ∃ u : UInt8,(c : Int) = u.toNat:=by
  rw [Bool.and_eq_true,decide_eq_true_eq,decide_eq_true_eq] at h
  have m0 : IntKind.u8.min = 0:=rfl
  have m1 : IntKind.u8.max = 255:=rfl
  rw [m0,m1] at h
  refine ⟨UInt8.ofNat c.toNat,?_⟩
  rw [UInt8.toNat_ofNat']
  omega
theorem u32_of (c : Int) (h : (decide (IntKind.u32.min ≤ c) && decide (c ≤ IntKind.u32.max)) = true) : ∃ u : Nat,(c : Int) = u ∧ u < 4294967296:=by
  rw [Bool.and_eq_true,decide_eq_true_eq,decide_eq_true_eq] at h
  have m0 : IntKind.u32.min = 0:=rfl
  have m1 : IntKind.u32.max = 4294967295:=rfl
  rw [m0,m1] at h
  exact ⟨c.toNat,by omega,by omega⟩
theorem u64_of (c : Int) (h : (decide (IntKind.u64.min ≤ c) && decide (c ≤ IntKind.u64.max)) = true) : ∃ u : Nat,(c : Int) = u ∧ u < 18446744073709551616:=by
  rw [Bool.and_eq_true,decide_eq_true_eq,decide_eq_true_eq] at h
  have m0 : IntKind.u64.min = 0:=rfl
  have m1 : IntKind.u64.max = 18446744073709551615:=rfl
  rw [m0,m1] at h
  exact ⟨c.toNat,by omega,by omega⟩
set_option maxRecDepth 100000 in
theorem trod_page {fuel : Nat} {cs : List Value} {x : DataW H × List MemPlace} (h : DataW.trod enc Tryz.prog w base sp held fuel 27 cs = some x) :
    ∃ p : PG,cs = pgC p ∧ okPG p:=by
  obtain ⟨xs,n,_,_,hlen,hx,hf⟩:=DataW.trod_struct Tryz.underlying27 h
  rw [cells_page] at hlen
  have h0:=hf 0 _ rfl
  have h1:=hf 1 _ rfl
  have h2:=hf 2 _ rfl
  simp only [List.getElem_toArray,List.getElem_cons_zero,List.getElem_cons_succ] at h0 h1 h2
  rw [cells_head] at h0
  rw [cells_s] at h1 h2
  match cs,hlen with
  | [a,b,c,d,e,f],_=>
    match xs,hx with
    | [x0,x1,x2],_=>
      simp at h0 h1 h2
      obtain ⟨ys,n1,_,_,hlen1,hx1,hf1⟩:=DataW.trod_struct Tryz.underlying25 h0
      have k0:=hf1 0 _ rfl
      have k1:=hf1 1 _ rfl
      have k2:=hf1 2 _ rfl
      have k3:=hf1 3 _ rfl
      simp only [List.getElem_toArray,List.getElem_cons_zero,List.getElem_cons_succ] at k0 k1 k2 k3
      rw [cells_y8] at k0
      rw [cells_y64] at k1
      rw [cells_y32] at k2 k3
      match ys,hx1 with
      | [y0,y1,y2,y3],_=>
        simp at k0 k1 k2 k3
        obtain ⟨c0,e0,_,w0⟩:=DataW.trod_int Tryz.underlying5 k0
        obtain ⟨c1,e1,_,w1⟩:=DataW.trod_int Tryz.underlying22 k1
        obtain ⟨c2,e2,_,w2⟩:=DataW.trod_int Tryz.underlying23 k2
        obtain ⟨c3,e3,_,w3⟩:=DataW.trod_int Tryz.underlying23 k3
        obtain ⟨la,e4,_,hla⟩:=DataW.trod_string Tryz.underlying9 h1
        obtain ⟨bo,e5,_,hbo⟩:=DataW.trod_string Tryz.underlying9 h2
        simp at e0 e1 e2 e3 e4 e5
        obtain ⟨u0,rfl⟩:=u8_of c0 w0
        obtain ⟨u1,rfl,l1⟩:=u64_of c1 w1
        obtain ⟨u2,rfl,l2⟩:=u32_of c2 w2
        obtain ⟨u3,rfl,l3⟩:=u32_of c3 w3
        exact ⟨⟨u0,u1,u2,u3,la,bo⟩,by rw [e0,e1,e2,e3,e4,e5],⟨l1,l2,l3⟩,hla,hbo⟩
theorem gcells_len (l : List PG) : (gcells l).length = l.length * 6:=by
  induction l with
  | nil=>rfl
  | cons a l ih=>show ([_,_,_,_,_,_] ++ gcells l).length = _;simp [ih];omega
theorem gcells_of (l : List PG) (i : Nat) (p : PG) (h : l[i]? = some p) (r : Nat) (hr : r < 6) : (gcells l)[i * 6 + r]? = (pgC p)[r]?:=by
  induction l generalizing i with
  | nil=>simp at h
  | cons a l ih=>
    have e : gcells (a :: l) = pgC a ++ gcells l:=rfl
    rw [e]
    cases i with
    | zero=>
      simp at h
      subst h
      rw [List.getElem?_append_left (by simp;omega)]
      simp
    | succ i=>
      rw [List.getElem?_append_right (by simp;omega),show (i + 1) * 6 + r - (pgC a).length = i * 6 + r by simp;omega]
      exact ih i (by simpa using h)
set_option maxRecDepth 100000 in
theorem trod_pages {fuel : Nat} {v : Value} {x : DataW H × List MemPlace} (h : DataW.trod enc Tryz.prog w base (fun _=>true) held fuel 34 [v] = some x) :
    ∃ l : List PG,Row w v l.length (gcells l) ∧ l.length ≤ maxLen ∧ ∀ p ∈ l,okPG p:=by
  rcases Go.Deep.open_slice Tryz.underlying34 h with ⟨hc,_⟩ | ⟨a,len,cap,m,n,D,Pl,hcs,hb,hl,hm,hmm,_,hi⟩
  · simp at hc
    subst hc
    exact ⟨[],Row.nil _,Nat.zero_le _,fun n h=>by cases h⟩
  · simp at hcs
    subst hcs
    rw [cells_page] at hi
    simp only [if_true] at hmm
    have hex : ∀ i,i < len → ∃ p : PG,(∀ j,j < 6 → w.cell? (a.add (i * 6 + j)) = (pgC p)[j]?) ∧ okPG p:=by
      intro i hil
      obtain ⟨cs',h1,h2⟩:=hi i (by omega)
      obtain ⟨nt,rfl,h3⟩:=trod_page h2
      obtain ⟨_,_,h5⟩:=World.cells?_some h1
      refine ⟨nt,fun j hj=>?_,h3⟩
      rw [← Go.Deep.add_add]
      exact h5 j hj
    obtain ⟨f,hf⟩ : ∃ f : Nat → PG,∀ i,i < len → (∀ j,j < 6 → w.cell? (a.add (i * 6 + j)) = (pgC (f i))[j]?) ∧ okPG (f i):=by
      refine ⟨fun i=>if h : i < len then (hex i h).choose else ⟨0,0,0,0,⟨#[]⟩,⟨#[]⟩⟩,fun i h=>?_⟩
      simp only [dif_pos h]
      exact (hex i h).choose_spec
    refine ⟨(List.range len).map f,?_,by rw [List.length_map,List.length_range];exact Nat.le_trans hl hm,fun n hn=>?_⟩
    · rw [List.length_map,List.length_range]
      refine ⟨some a,cap,rfl,fun j x hj=>?_⟩
      have hjl : j < len * 6:=by
        have:=(List.getElem?_eq_some_iff.1 hj).1
        rw [gcells_len,List.length_map,List.length_range] at this
        exact this
      have hdiv : j = j / 6 * 6 + j % 6:=by omega
      have hq : j / 6 < len:=by omega
      have h1:=(hf (j / 6) hq).1 (j % 6) (Nat.mod_lt _ (by decide))
      have g1:=gcells_of ((List.range len).map f) (j / 6) (f (j / 6)) (by rw [List.getElem?_map,List.getElem?_range hq];rfl) (j % 6) (Nat.mod_lt _ (by decide))
      rw [← hdiv] at g1 h1
      have hx : w.cell? (a.add j) = some x:=by rw [h1,← g1];exact hj
      have h0:=(hf 0 (by omega)).1 0 (by decide)
      obtain ⟨b,off,p⟩:=a
      have hp : p = none:=by simpa [Addr.add] using World.cell?_spot h0
      subst hp
      refine ⟨b,off,rfl,?_⟩
      rw [← Go.WideShapes.add_plain]
      exact hx
    · obtain ⟨i,hi',rfl⟩:=List.mem_map.1 hn
      exact (hf i (by simpa using hi')).2
set_option maxRecDepth 100000 in
theorem open_stream {r : Reach} {b0 : Nat} {v : Value} {d : DataW H} {ps : List MemPlace}
    (hval : Value.okWide Tryz.prog w r b0 36 v) (hd : DataW.Trod enc Tryz.prog w 0 (fun _=>true) true 36 v d ps) :
    ∃ (s : OS) (vn vs : Value),v = osV vn vs s ∧ OsRow w vn vs s ∧ okOS s:=by
  obtain ⟨cs,rfl,hsz⟩:=okWide_struct Tryz.underlying36 hval
  rw [cells_strm] at hsz
  obtain ⟨fuel,hf⟩:=hd
  obtain ⟨xs,n,_,_,hlen,hx,hf⟩:=DataW.trod_struct Tryz.underlying36 hf
  have h0:=hf 0 _ rfl
  have h1:=hf 1 _ rfl
  have h2:=hf 2 _ rfl
  have h3:=hf 3 _ rfl
  simp only [List.getElem_toArray,List.getElem_cons_zero,List.getElem_cons_succ] at h0 h1 h2 h3
  rw [cells_page] at h0
  rw [cells_block] at h1
  rw [cells_s] at h2
  rw [cells_pages] at h3
  obtain ⟨l⟩:=cs
  match l,hsz with
  | [a,b,c,d',e,f',g',i',j',k',l'],_=>
    match xs,hx with
    | [x0,x1,x2,x3],_=>
      simp [Value.cells] at h0 h1 h2 h3
      obtain ⟨p,e0,hp⟩:=trod_page h0
      obtain ⟨ys,n1,_,_,hlen1,hx1,hf1⟩:=DataW.trod_struct Tryz.underlying33 h1
      have k0:=hf1 0 _ rfl
      have k1:=hf1 1 _ rfl
      simp only [List.getElem_toArray,List.getElem_cons_zero,List.getElem_cons_succ] at k0 k1
      rw [cells_leaf] at k0
      rw [cells_notes] at k1
      match ys,hx1 with
      | [y0,y1],_=>
        simp at k0 k1
        obtain ⟨t,s,e1,ht⟩:=trod_leaf k0
        obtain ⟨NS,q1,q2,q3⟩:=trod_notes k1
        obtain ⟨S,e2,_,hS⟩:=DataW.trod_string Tryz.underlying9 h2
        obtain ⟨L,g1,g2,g3⟩:=trod_pages h3
        simp at e0 e1 e2
        obtain ⟨a0,a1,a2,a3,a4,a5⟩:=e0
        exact ⟨⟨p,⟨t,s,NS⟩,S,L⟩,j',l',by unfold osV;rw [a0,a1,a2,a3,a4,a5,e1.1,e1.2,e2],⟨q1,g1⟩,hp,⟨ht,q2,q3⟩,hS,g2,g3⟩
end
end Go.Proofs.YtnbglcaeekppjaaGreatDoor

namespace Go.Proofs.YtnbglcaeekppjaaGreatDoor
open Go.RowKit
set_option linter.unusedVariables false
set_option linter.unusedSimpArgs false

def lightP (p : PG) : Bool:=decide (p.la.size ≤ 300) && decide (p.bo.size ≤ 500)
def lightO (s : OS) : Bool:=s.sound.all lightP && decide (s.sound.length ≤ 10) && decide (s.setup.size ≤ 70000) && decide (s.first.la.size ≤ 300) && decide (s.first.bo.size ≤ 500) && lightM s.b
set_option maxRecDepth 100000 in
set_option maxHeartbeats 8000000 in
theorem olight_any (vn vs : Value) (s : OS) (w : World) (hrow : OsRow w vn vs s) (hok : okOS s) :
    Calls Tryz.prog 6 #[.agg #[.int .u8 s.first.fl.toNat,.int .u64 s.first.po,.int .u32 s.first.se,.int .u32 s.first.nu,.string s.first.la,.string s.first.bo,.string s.b.vt,.int .i64 s.b.vs,vn,.string s.setup,vs]] w fun e w'=>e = .returned (.bool (lightO s)) ∧ Below w.heap.size w w':=by
  have kl : ∀ w',Below w.heap.size w w' → Calls Tryz.prog 22 #[.agg #[.string s.b.vt,.int .i64 s.b.vs,vn]] w' fun e w''=>e = .returned (.bool (lightM s.b)) ∧ Below w'.heap.size w' w'':=fun w' hb=>light_any vn s.b w' (hrow.1.keep hb) hok.2.1
  obtain ⟨⟨an,cn,rfl,_⟩,⟨as_,cs_,rfl,hc⟩⟩:=hrow
  obtain ⟨o1,_,o3,o4,o5⟩:=hok
  obtain ⟨R,hR⟩ : ∃ R,R = lightO s:=⟨_,rfl⟩
  rw [← hR]
  unfold lightO at hR
  generalize lightM s.b = lm at *
  obtain ⟨n,hn⟩ : ∃ n,n = s.sound.length:=⟨_,rfl⟩
  obtain ⟨nn,hnn⟩ : ∃ nn,nn = s.b.ns.length:=⟨_,rfl⟩
  rw [← hn] at o4 hR ⊢
  rw [← hnn] at kl ⊢
  have o6:=o1.2.1
  have o7:=o1.2.2
  clear o1
  unfold maxLen at o3 o4 o6 o7
  have HC:=Lib.hid hc
  have HN:=Lib.hid hn
  have HNN:=Lib.hid hnn
  have O5:=Lib.hid o5
  have HR:=Lib.hid hR
  have KL:=Lib.hid kl
  clear hc hn hnn o5 hR kl
  go_enter Tryz.func6,Tryz.ntmps6
  go_wp2_with fail
  obtain ⟨W,hW⟩ : ∃ W,W = w.alloc (.cells #[.int .u8 s.first.fl.toNat,.int .u64 s.first.po,.int .u32 s.first.se,.int .u32 s.first.nu,.string s.first.la,.string s.first.bo,.string s.b.vt,.int .i64 s.b.vs,.slice an nn cn,.string s.setup,.slice as_ n cs_] 36):=⟨_,rfl⟩
  rw [← hW]
  have hbW : Below w.heap.size w W:=by rw [hW];exact bal (Below.refl _ _) _
  have lc : ∀ (i : Nat) (u : Value),(#[.int .u8 s.first.fl.toNat,.int .u64 s.first.po,.int .u32 s.first.se,.int .u32 s.first.nu,.string s.first.la,.string s.first.bo,.string s.b.vt,.int .i64 s.b.vs,.slice an nn cn,.string s.setup,.slice as_ n cs_] : Array Value)[i]? = some u → W.cell? ⟨w.heap.size,i,none⟩ = some u:=by
    intro i u hu;rw [hW];exact (Live.fresh w _ 36 i u hu).1
  have C4:=Lib.hid (lc 4 _ rfl)
  have C5:=Lib.hid (lc 5 _ rfl)
  have C6:=Lib.hid (lc 6 _ rfl)
  have C7:=Lib.hid (lc 7 _ rfl)
  have C8:=Lib.hid (lc 8 _ rfl)
  have C9:=Lib.hid (lc 9 _ rfl)
  have C10:=Lib.hid (lc 10 _ rfl)
  clear hW lc
  have HBW:=Lib.hid hbW
  clear hbW
  go_loopw [8] (fun iv wr=>∃ k : Nat,iv = .int .i64 (k : Int) ∧ k ≤ n ∧ Hid ((s.sound.take k).all lightP = true) ∧ Below W.heap.size W wr) (fun iv _=>n - (intOf iv).toNat)
  case atStart=>exact ⟨0,rfl,Nat.zero_le _,Lib.hid (by simp),Below.refl _ _⟩
  case round=>
    obtain ⟨k,rfl,hk,hA,hbel⟩:=hrel
    have c4:=kc hbel C4.out
    have c5:=kc hbel C5.out
    have c6:=kc hbel C6.out
    have c7:=kc hbel C7.out
    have c8:=kc hbel C8.out
    have c9:=kc hbel C9.out
    have c10:=kc hbel C10.out
    by_cases hlt : k < n
    · obtain ⟨x,hx⟩:=at_some s.sound k (by rw [← HN.out];exact hlt)
      obtain ⟨g,o,rfl,d0,d1,d2,d3,d4,d5⟩:=g_at HC.out k x hx
      have d0:=kc hbel (kc HBW.out d0)
      have d1:=kc hbel (kc HBW.out d1)
      have d2:=kc hbel (kc HBW.out d2)
      have d3:=kc hbel (kc HBW.out d3)
      have d4:=kc hbel (kc HBW.out d4)
      have d5:=kc hbel (kc HBW.out d5)
      have b1:=(O5.out x (List.mem_of_getElem? hx)).2
      obtain ⟨b1,b2⟩:=b1
      unfold maxLen at b1 b2
      obtain ⟨s1,s2⟩:=all_step lightP s.sound k x hx hA.out
      have hl : lightP x = (decide (x.la.size ≤ 300) && decide (x.bo.size ≤ 500)):=rfl
      rw [hl] at s1 s2
      have hbz:=bal hbel (.cells #[.int .u8 x.fl.toNat,.int .u64 x.po,.int .u32 x.se,.int .u32 x.nu,.string x.la,.string x.bo] 27)
      have S1:=Lib.hid s1
      have S2:=Lib.hid s2
      have HBZ:=Lib.hid hbz
      clear s1 s2 hbz
      clear hl
      by_cases q1 : x.la.size ≤ 300
      · by_cases q2 : x.bo.size ≤ 500
        · have s1:=S1.out (by simp [q1,q2])
          have q1' : decide ((x.la.size : Int) > 300) = false:=by simp;omega
          have q2' : decide ((x.bo.size : Int) > 500) = false:=by simp;omega
          have S1':=Lib.hid s1
          clear s1
          clear q1 q2
          go_wp2_with fail
          go_roundw
          case rel=>exact ⟨k + 1,by go_num,by omega,S1',HBZ.out⟩
          case measure=>simp [intOf];omega
        · have s2:=S2.out (by simp [q2])
          have q1' : decide ((x.la.size : Int) > 300) = false:=by simp;omega
          have q2' : decide ((x.bo.size : Int) > 500) = true:=by simp;omega
          have S2':=Lib.hid s2
          clear s2
          clear q1 q2
          go_wp2_with fail
          go_ret
          exact ⟨ret_b (by rw [HR.out,S2'.out];rfl),HBW.out.trans (HBZ.out.mono HBW.out.size)⟩
      · have s2:=S2.out (by simp [q1])
        have q1' : decide ((x.la.size : Int) > 300) = true:=by simp;omega
        have S2':=Lib.hid s2
        clear s2
        clear q1
        go_wp2_with fail
        go_ret
        exact ⟨ret_b (by rw [HR.out,S2'.out];rfl),HBW.out.trans (HBZ.out.mono HBW.out.size)⟩
    · have hkn : k = n:=by omega
      subst hkn
      have ha:=hA.out
      rw [List.take_of_length_le (by rw [← HN.out];exact Nat.le_refl _)] at ha
      have hr:=HR.out
      rw [ha,Bool.true_and] at hr
      have hbz:=HBW.out.trans (hbel.mono HBW.out.size)
      have HR2:=Lib.hid hr
      have HBZ:=Lib.hid hbz
      clear hr hbz
      clear ha hA
      by_cases q0 : k ≤ 10
      · have p0 : decide ((k : Int) ≤ 10) = true:=by simp;omega
        by_cases q1 : s.setup.size ≤ 70000
        · have p1 : decide ((s.setup.size : Int) ≤ 70000) = true:=by simp;omega
          by_cases q2 : s.first.la.size ≤ 300
          · have p2 : decide ((s.first.la.size : Int) ≤ 300) = true:=by simp;omega
            by_cases q3 : s.first.bo.size ≤ 500
            · have p3 : decide ((s.first.bo.size : Int) ≤ 500) = true:=by simp;omega
              have hr:=HR2.out
              rw [decide_eq_true q0,decide_eq_true q1,decide_eq_true q2,decide_eq_true q3,Bool.true_and,Bool.true_and,Bool.true_and,Bool.true_and] at hr
              have HR3:=Lib.hid hr
              clear hr q0 q1 q2 q3
              go_wp2_with (go_at_call 22;go_loud (refine (KL.out _ HBZ.out).mono ?_);go_loud (rintro e w3 ⟨rfl,hb3⟩))
              go_ret
              exact ⟨ret_b (by rw [HR3.out];try simp),HBZ.out.trans (hb3.mono HBZ.out.size)⟩
            · have p3 : decide ((s.first.bo.size : Int) ≤ 500) = false:=by simp;omega
              have hr : R = false:=by rw [HR2.out,decide_eq_false q3];simp
              have HR3:=Lib.hid hr
              clear hr q0 q1 q2 q3
              go_wp2_with fail
              go_ret
              exact ⟨ret_b (by rw [HR3.out];try simp),HBZ.out⟩
          · have p2 : decide ((s.first.la.size : Int) ≤ 300) = false:=by simp;omega
            have hr : R = false:=by rw [HR2.out,decide_eq_false q2];simp
            have HR3:=Lib.hid hr
            clear hr q0 q1 q2
            go_wp2_with fail
            go_ret
            exact ⟨ret_b (by rw [HR3.out];try simp),HBZ.out⟩
        · have p1 : decide ((s.setup.size : Int) ≤ 70000) = false:=by simp;omega
          have hr : R = false:=by rw [HR2.out,decide_eq_false q1];simp
          have HR3:=Lib.hid hr
          clear hr q0 q1
          go_wp2_with fail
          go_ret
          exact ⟨ret_b (by rw [HR3.out];try simp),HBZ.out⟩
      · have p0 : decide ((k : Int) ≤ 10) = false:=by simp;omega
        have hr : R = false:=by rw [HR2.out,decide_eq_false q0];simp
        have HR3:=Lib.hid hr
        clear hr q0
        go_wp2_with fail
        go_ret
        exact ⟨ret_b (by rw [HR3.out];try simp),HBZ.out⟩
end Go.Proofs.YtnbglcaeekppjaaGreatDoor

namespace Go.Proofs.YtnbglcaeekppjaaGreatDoor
open Go.RowKit
set_option linter.unusedVariables false
set_option linter.unusedSimpArgs false

set_option maxHeartbeats 1000000 in
theorem glong_any (s : ByteArray) (w : World) (hs : s.size ≤ 1073741824) : Calls Tryz.prog 21 #[.string s] w fun e w'=>e = .returned (.int .i64 (totL (bl s))) ∧ w = w':=by
  have HL : Hid ((bl s).length = s.size):=bl_length s
  go_enter Tryz.func21,Tryz.ntmps21
  go_wp2_with fail
  go_loop [3,4] (fun nv iv=>∃ k : Nat,nv = .int .i64 ((totL ((bl s).take k) : Nat) : Int) ∧ iv = .int .i64 (k : Int) ∧ k ≤ s.size) (fun _ iv=>s.size - (intOf iv).toNat)
  case atStart=>exact ⟨0,by simp [totL],rfl,Nat.zero_le _⟩
  case round=>
    obtain ⟨k,rfl,rfl,hk⟩:=hrel
    by_cases hlt : k < s.size
    · obtain ⟨b,hb⟩:=at_some (bl s) k (by rw [HL.out];exact hlt)
      have X : ∀ h,s[k]'h = b:=atB_of s k b hb
      have hst:=totL_take (bl s) k b hb
      have hle:=totL_le ((bl s).take k)
      rw [List.length_take] at hle
      have hbl:=b.toNat_lt
      generalize totL ((bl s).take k) = t at *
      have HST:=Lib.hid hst
      have j0 : (0 : Int) ≤ (k : Int):=by omega
      have j1 : (k : Int) < (s.size : Int):=by omega
      have ht : t ≤ 300000000000:=by omega
      have hwr : IntKind.i64.wrap ((t : Int) + b.toNat) = (t : Int) + b.toNat:=wi64 _ (by omega) (by omega)
      clear hst hb hle
      go_wp2_with fail
      go_round
      case rel=>exact ⟨k + 1,by rw [HST.out,Int.natCast_add],by go_num,by omega⟩
      case measure=>simp [intOf];omega
    · have hx : totL ((bl s).take k) = totL (bl s):=by rw [List.take_of_length_le (by rw [HL.out];omega)]
      rw [hx]
      have HX:=Lib.hid hx
      go_wp2_with fail
      go_ret
      exact ⟨rfl,rfl⟩
theorem light_smK {b : Bk} (h : lightM b = true) : smBk b ∧ b.ns.length ≤ 30 ∧ b.vt.size ≤ 150 ∧ ∀ n ∈ b.ns,n.name.size ≤ 50 ∧ n.text.size ≤ 150:=by
  unfold lightM at h
  simp only [Bool.and_eq_true,decide_eq_true_eq] at h
  obtain ⟨⟨h1,h2⟩,h3⟩:=h
  have h4 : ∀ n ∈ b.ns,n.name.size ≤ 50 ∧ n.text.size ≤ 150:=by
    intro n hn
    have:=List.all_eq_true.1 h1 n hn
    unfold lightN at this
    simpa using this
  exact ⟨⟨by omega,by omega,fun n hn=>by have:=h4 n hn;omega⟩,h2,h3,h4⟩
theorem lnote_smK (n : Nt) (h1 : n.name.size ≤ 50) (h2 : n.text.size ≤ 150) : (noteL n).length ≤ 205:=by
  unfold noteL sizedL
  simp only [List.length_append,bl_length]
  show 4 + (_ + 1 + _) ≤ _
  omega
theorem lprint_smK (b : Bk) (h1 : b.ns.length ≤ 30) (h2 : b.vt.size ≤ 150) (h3 : ∀ n ∈ b.ns,n.name.size ≤ 50 ∧ n.text.size ≤ 150) : (printL false b).length ≤ 100000:=by
  have hl : ∀ l : List Nt,(∀ n ∈ l,n.name.size ≤ 50 ∧ n.text.size ≤ 150) → (l.flatMap noteL).length ≤ 205 * l.length:=by
    intro l
    induction l with
    | nil=>intro _;exact Nat.zero_le _
    | cons n l ih=>
      intro h
      have:=lnote_smK n (h n (List.mem_cons_self ..)).1 (h n (List.mem_cons_self ..)).2
      have:=ih (fun m hm=>h m (List.mem_cons_of_mem _ hm))
      rw [List.flatMap_cons,List.length_append,List.length_cons]
      omega
  have:=hl b.ns h3
  unfold printL sizedL
  simp only [List.length_append,bl_length]
  have h4 : (le4 b.vt.size).length = 4:=rfl
  have h5 : (le4 b.ns.length).length = 4:=rfl
  rw [h4,h5]
  generalize (b.ns.flatMap noteL).length = q at *
  show _ + 0 ≤ _
  omega
theorem ocheck_zero {s : OS} (h : (ocheckM s).1 = 0) : ocheckM s = (0, 0) := by
  unfold ocheckM at h ⊢
  split at h
  · exact absurd h (by decide)
  · next h1 =>
    rw [if_neg h1]
    split at h
    · next h2 => exact absurd h h2
    · next h2 =>
      rw [if_neg h2]
      split at h
      · exact absurd h (by decide)
      · next h3 =>
        rw [if_neg h3]
        have : ∀ (l : List PG) (i : Nat), (soundF s.first.se l i).1 = 0 → soundF s.first.se l i = (0, 0) := by
          intro l
          induction l with
          | nil => intro i _; rfl
          | cons p r ih =>
            intro i h
            rw [soundF] at h ⊢
            split at h
            · exact absurd (show (5 : Int) = 0 from h) (by decide)
            · next h4 => rw [if_neg h4]; exact ih _ h
        exact this _ _ h
theorem opens_gcheck {p : PG} (h : opensG p = true) : gcheckM p = 0:=by
  unfold opensG at h
  simp only [Bool.and_eq_true,decide_eq_true_eq] at h
  have h1:=h.1.1.1
  rw [joinG] at h1
  split at h1
  · exact absurd h1 (by decide)
  · next h2=>exact Classical.byContradiction fun x=>h2 (.inl x)
theorem sum_le (N : Nat) : ∀ l : List PG,(∀ p ∈ l,gsz p ≤ N) → (l.map gsz).sum ≤ N * l.length
  | [],_=>Nat.zero_le _
  | p :: r,h=>by
    have h1:=sum_le N r fun q hq=>h q (by simp [hq])
    have h2:=h p (by simp)
    rw [List.map_cons,List.sum_cons,List.length_cons,Nat.mul_succ]
    omega
theorem light_osm {s : OS} (hl : lightO s = true) (hk : okOS s) (hc : ocheckM s = (0,0)) : OSm s ∧ (oprintL crcN s).length ≤ 1048576:=by
  unfold lightO at hl
  simp only [Bool.and_eq_true,decide_eq_true_eq] at hl
  obtain ⟨⟨⟨⟨⟨l1,l2⟩,l3⟩,l4⟩,l5⟩,l6⟩:=hl
  obtain ⟨b1,b2,b3,b4⟩:=light_smK l6
  have hp:=lprint_smK s.b b2 b3 b4
  have hpt : (printL true s.b).length ≤ 100001:=by
    unfold printL at hp ⊢
    rw [List.length_append] at hp ⊢
    rw [if_neg (by decide)] at hp
    rw [if_pos rfl]
    simp only [List.length_cons,List.length_nil] at hp ⊢
    omega
  obtain ⟨c1,c2,c3,c4,c5⟩:=ocheck_parts hc
  have hg1:=(gcheck_iff _).1 (opens_gcheck c1)
  have hso:=(sound_of s.first.se s.sound 0).1 c5
  have hS : ∀ p ∈ s.sound,p.la.size ≤ 300 ∧ p.bo.size ≤ 500:=by
    intro p hp
    have:=List.all_eq_true.1 l1 p hp
    unfold lightP at this
    simpa using this
  have hG : gO s:=by
    refine ⟨⟨hg1.1,hg1.2,hk.1.1.1,hk.1.1.2.1,hk.1.1.2.2⟩,fun p hp=>?_⟩
    obtain ⟨k,hkp⟩:=List.getElem?_of_mem hp
    have h1:=(gcheck_iff _).1 (hso k p hkp).1
    have h2:=(hk.2.2.2.2 p hp).1
    exact ⟨h1.1,h1.2,h2⟩
  have h3 : (lacesO s).length ≤ 2 + (7 + (printL true s.b).length) / 255 + s.setup.size / 255:=by
    unfold lacesO pktsO laceL
    simp only [List.flatMap_cons,List.flatMap_nil,List.append_nil,List.length_append,List.length_replicate,List.length_cons,List.length_nil,vorb_len,bl_length]
    omega
  have h4 : (pktsO s).flatten.length = 7 + (printL true s.b).length + s.setup.size:=by
    unfold pktsO
    simp only [List.flatten_cons,List.flatten_nil,List.append_nil,List.length_append,vorb_len,bl_length]
  have h2 : ((midO s).map gsz).sum ≤ 28 * (lacesO s).length + (pktsO s).flatten.length:=pagesO_sum _ _ _ _ _ _
  have h5 : (s.sound.map gsz).sum ≤ 827 * s.sound.length:=sum_le 827 _ fun p hp=>by have:=hS p hp;unfold gsz;omega
  have h6 : gsz s.first ≤ 827:=by unfold gsz;omega
  have h7 : (midO s).length ≤ (lacesO s).length:=pagesO_len _ _ _ _ _ _
  have h8 : (opagesL s).length = (midO s).length + 1 + s.sound.length:=by
    unfold opagesL
    rw [List.length_append,List.length_cons,renum_len]
  refine ⟨⟨⟨hG,hc,by omega,by omega,fun n hn=>by have:=b4 n hn;omega,by omega⟩,⟨b1,⟨by omega,by omega⟩,by omega,by omega,fun p hp=>by have:=hS p hp;omega⟩,⟨by omega,by omega,by omega⟩,hk.1.1,fun p hp=>(hk.2.2.2.2 p hp).1,by omega,by omega⟩,?_⟩
  unfold oprintL
  rw [flat_gsz]
  unfold opagesL
  rw [List.map_append,List.sum_append,List.map_cons,List.sum_cons,renum_sum]
  omega
theorem light_smO {s : OS} (hl : lightO s = true) : smOS s:=by
  unfold lightO at hl
  simp only [Bool.and_eq_true,decide_eq_true_eq] at hl
  obtain ⟨⟨⟨⟨⟨l1,l2⟩,l3⟩,l4⟩,l5⟩,l6⟩:=hl
  obtain ⟨b1,b2,b3,b4⟩:=light_smK l6
  refine ⟨b1,⟨by omega,by omega⟩,by omega,by omega,fun p hp=>?_⟩
  have:=List.all_eq_true.1 l1 p hp
  unfold lightP at this
  simp only [Bool.and_eq_true,decide_eq_true_eq] at this
  omega
/-- what printed pages are read as. -/
theorem pagesM_back {s : OS} (h : okO s) : ∃ pl,pagesM crcN (toB (oprintL crcN s)) = ((opagesL s,pl),0,0):=by
  have hpg:=pages_back crcN crcN_lt (opagesL s) ((⟨(oprintL crcN s).toArray⟩ : ByteArray).size + 1) ⟨⟨(oprintL crcN s).toArray⟩,0,0,0,0⟩ [] [] (opages_good h) (by
    rw [szL]
    unfold oprintL
    rw [flat_gsz]
    have:=sum_len (opagesL s)
    omega) (by simpa using h.2.2.2.2.2) ⟨rfl,Nat.zero_le _,by rw [blL,List.drop_zero];rfl⟩
  refine ⟨placesL crcN 0 (opagesL s),?_⟩
  show pagesM crcN ⟨(oprintL crcN s).toArray⟩ = _
  unfold pagesM
  rw [hpg]
  rfl
/-- the pages that are printed: each is its own number and its stream's. -/
theorem opages_at {s : OS} (h : okO s) (k : Nat) (p : PG) (hp : (opagesL s)[k]? = some p) : gG p ∧ p.se = s.first.se ∧ p.nu = k:=by
  have hk:=(List.getElem?_eq_some_iff.1 hp).1
  have hl:=h.2.2.2.2.2
  obtain ⟨a,b,_⟩:=stray_of _ _ 0 (opages_stray h) k p hp
  exact ⟨opages_good h p (List.mem_of_getElem? hp),a,by rw [b,Nat.zero_add];exact Nat.mod_eq_of_lt (by omega)⟩
theorem sum_step (l : List PG) (k : Nat) (p : PG) (h : l[k]? = some p) : ((l.take (k + 1)).map gsz).sum = ((l.take k).map gsz).sum + gsz p:=by
  obtain ⟨h1,h2⟩:=List.getElem?_eq_some_iff.1 h
  rw [List.take_succ_eq_append_getElem h1,h2,List.map_append,List.sum_append]
  simp
end Go.Proofs.YtnbglcaeekppjaaGreatDoor

