/- Qr, Qs, Qt, Qu -/
import Derived.Test.YtnbglcaeekppjaaGreatDoorEc
import Derived.Test.YtnbglcaeekppjaaGreatDoorEb
import Derived.Test.YtnbglcaeekppjaaGreatDoorEa
import Derived.Test.YtnbglcaeekppjaaGreatDoorMGC
import Derived.Test.YtnbglcaeekppjaaGreatDoorMGA
import Derived.Test.YtnbglcaeekppjaaGreatDoorMFe
import Derived.Deep.RegionHeld3
import Derived.Test.YtnbglcaeekppjaaGreatDoorMAy
import Derived.Test.YtnbglcaeekppjaaGreatDoorMGB
import Derived.Test.YtnbglcaeekppjaaGreatDoorMCy
namespace Go.Proofs.YtnbglcaeekppjaaGreatDoor
open Go.RowKit
set_option linter.unusedVariables false
set_option linter.unusedSimpArgs false

/-- a stream that is small enough. -/
def smOS (s : OS) : Prop:=smBk s.b ∧ (s.first.la.size ≤ 1073741824 ∧ s.first.bo.size ≤ 1073741824) ∧ s.setup.size ≤ 1073741824 ∧ s.sound.length ≤ 1900000 ∧ ∀ p ∈ s.sound,p.la.size ≤ 1073741824 ∧ p.bo.size ≤ 1073741824
/-- the value's rows. -/
def OsRow (w : World) (vn vs : Value) (s : OS) : Prop:=Row w vn s.b.ns.length (ntcells s.b.ns) ∧ Row w vs s.sound.length (gcells s.sound)
theorem OsRow.keep {w w' : World} {vn vs : Value} {s : OS} (h : OsRow w vn vs s) (hb : Below w.heap.size w w') : OsRow w' vn vs s:=⟨h.1.keep hb,h.2.keep hb⟩
abbrev osC (vn vs : Value) (s : OS) : Array Value:=#[.int .u8 s.first.fl.toNat,.int .u64 s.first.po,.int .u32 s.first.se,.int .u32 s.first.nu,.string s.first.la,.string s.first.bo,.string s.b.vt,.int .i64 s.b.vs,vn,.string s.setup,vs]
def CheckPost (R : Int × Int) (w : World) (e : Ending) (w' : World) : Prop:=e = .returned (.agg #[.int .i64 R.1,.int .i64 R.2]) ∧ Below w.heap.size w w'
/-- the stream's box and the fault that is handed back. -/
structure CS (w : World) (cs : Array Value) (wr : World) : Prop where
  gg : Below w.heap.size w wr
  bx : wr.heap[w.heap.size]? = some (.cells cs 36 (0,0))
  rt : wr.heap[w.heap.size + 1]? = some (.cells #[.int .i64 0,.int .i64 0] 54 (0,0))
theorem CS.bel {w wr : World} {cs : Array Value} (h : CS w cs wr) {w' : World} (hb : Below wr.heap.size wr w') : CS w cs w':=⟨bt h.gg hb,blkP h.bx hb,blkP h.rt hb⟩
theorem CS.cell {w wr : World} {cs : Array Value} (h : CS w cs wr) (i : Nat) (v : Value) (hi : cs[i]? = some v) : wr.cell? ⟨w.heap.size,i,none⟩ = some v:=(live_of h.bx i v hi).1
theorem CS.ret {w wr : World} {cs : Array Value} (h : CS w cs wr) : wr.cell? ⟨w.heap.size + 1,0,none⟩ = some (.int .i64 0) ∧ wr.frozen? ⟨w.heap.size + 1,0,none⟩ = false ∧ wr.cell? ⟨w.heap.size + 1,1,none⟩ = some (.int .i64 0) ∧ wr.frozen? ⟨w.heap.size + 1,1,none⟩ = false:=
  ⟨(live_of h.rt 0 _ rfl).1,(live_of h.rt 0 _ rfl).2,(live_of h.rt 1 _ rfl).1,(live_of h.rt 1 _ rfl).2⟩
theorem CS.post {w wr : World} {cs : Array Value} (h : CS w cs wr) (c a : Int) : CheckPost (c,a) w (.returned (.agg #[.int .i64 c,.int .i64 a])) ((wr.setCell ⟨w.heap.size + 1,0,none⟩ (.int .i64 c)).setCell ⟨w.heap.size + 1,1,none⟩ (.int .i64 a)):=
  ⟨rfl,(h.gg.setCell (by simp) _).setCell (by simp) _⟩
theorem cs_start (w : World) (cs : Array Value) : ∃ W,W = (w.alloc (.cells cs 36)).alloc (.cells #[.int .i64 0,.int .i64 0] 54) ∧ CS w cs W:=by
  have hs1 : (w.alloc (.cells cs 36)).heap.size = w.heap.size + 1:=World.size_alloc _ _
  refine ⟨_,rfl,bal (bal (Below.refl _ _) _) _,?_,?_⟩
  · exact (heap_alloc_old _ _ (by rw [hs1];omega)).trans (heap_alloc_new _ _)
  · rw [← hs1];exact heap_alloc_new _ _
set_option maxRecDepth 100000 in
set_option maxHeartbeats 16000000 in
theorem ocheck_c1 (vn vs : Value) (s : OS) (w : World) (hT : TW w) (hrow : OsRow w vn vs s) (hok : smOS s) (ho : opensG s.first = false) :
    Calls Tryz.prog 13 #[.agg #[.int .u8 s.first.fl.toNat,.int .u64 s.first.po,.int .u32 s.first.se,.int .u32 s.first.nu,.string s.first.la,.string s.first.bo,.string s.b.vt,.int .i64 s.b.vs,vn,.string s.setup,vs]] w (CheckPost (5,0) w):=by
  obtain ⟨W,hW,C⟩:=cs_start w (osC vn vs s)
  have ko : ∀ w,Calls Tryz.prog 33 #[gV s.first] w fun e w'=>e = .returned (.bool (opensG s.first)) ∧ Below w.heap.size w w':=fun w=>opens_any s.first w hok.2.1.1 hok.2.1.2
  unfold gV at ko
  rw [ho] at ko
  clear hrow hok
  have KO:=Lib.hid ko
  clear ko
  obtain ⟨x0,x1,x2,x3,x4,x5,x6,x7,x8,x9,x10⟩ : _ ∧ _ ∧ _ ∧ _ ∧ _ ∧ _ ∧ _ ∧ _ ∧ _ ∧ _ ∧ _:=⟨C.cell 0 _ rfl,C.cell 1 _ rfl,C.cell 2 _ rfl,C.cell 3 _ rfl,C.cell 4 _ rfl,C.cell 5 _ rfl,C.cell 6 _ rfl,C.cell 7 _ rfl,C.cell 8 _ rfl,C.cell 9 _ rfl,C.cell 10 _ rfl⟩
  obtain ⟨q0,q0',q1,q1'⟩:=C.ret
  go_enter Tryz.func13,Tryz.ntmps13
  go_wp2_with fail
  rw [← hW]
  clear hW
  go_wp2_with (first
    | (go_at_call 33;go_loud (with_reducible refine (KO.out _).mono ?_);go_loud (rintro e1 w1 ⟨rfl,hb1⟩);go_loud (replace C:=C.bel hb1);go_loud (clear hb1 q0 q0' q1 q1' x0 x1 x2 x3 x4 x5 x6 x7 x8 x9 x10);go_loud (obtain ⟨x0,x1,x2,x3,x4,x5,x6,x7,x8,x9,x10⟩ : _ ∧ _ ∧ _ ∧ _ ∧ _ ∧ _ ∧ _ ∧ _ ∧ _ ∧ _ ∧ _:=⟨C.cell 0 _ rfl,C.cell 1 _ rfl,C.cell 2 _ rfl,C.cell 3 _ rfl,C.cell 4 _ rfl,C.cell 5 _ rfl,C.cell 6 _ rfl,C.cell 7 _ rfl,C.cell 8 _ rfl,C.cell 9 _ rfl,C.cell 10 _ rfl⟩);go_loud (obtain ⟨q0,q0',q1,q1'⟩:=C.ret))
    | fail)
  refine bodyPost_ret (v:=.agg #[.int .i64 5,.int .i64 0]) (by simp [results,Tryz.results13,go_sem,q0,q0',q1,q1']) rfl ?_
  exact C.post 5 0
set_option maxRecDepth 100000 in
set_option maxHeartbeats 16000000 in
theorem ocheck_c2 (vn vs : Value) (s : OS) (w : World) (hT : TW w) (hrow : OsRow w vn vs s) (hok : smOS s) (ho : opensG s.first = true) (hn : s.first.nu ≠ 0) :
    Calls Tryz.prog 13 #[.agg #[.int .u8 s.first.fl.toNat,.int .u64 s.first.po,.int .u32 s.first.se,.int .u32 s.first.nu,.string s.first.la,.string s.first.bo,.string s.b.vt,.int .i64 s.b.vs,vn,.string s.setup,vs]] w (CheckPost (5,0) w):=by
  obtain ⟨W,hW,C⟩:=cs_start w (osC vn vs s)
  have ko : ∀ w,Calls Tryz.prog 33 #[gV s.first] w fun e w'=>e = .returned (.bool (opensG s.first)) ∧ Below w.heap.size w w':=fun w=>opens_any s.first w hok.2.1.1 hok.2.1.2
  unfold gV at ko
  rw [ho] at ko
  have h1 : ((s.first.nu : Int) == 0) = false:=by rw [beq_eq_false_iff_ne];omega
  have h2 : (s.first.nu == 0) = false:=by rw [beq_eq_false_iff_ne];exact hn
  have h3 : ¬ s.first.nu = 0:=hn
  clear hrow hok hn
  have KO:=Lib.hid ko
  clear ko
  obtain ⟨x0,x1,x2,x3,x4,x5,x6,x7,x8,x9,x10⟩ : _ ∧ _ ∧ _ ∧ _ ∧ _ ∧ _ ∧ _ ∧ _ ∧ _ ∧ _ ∧ _:=⟨C.cell 0 _ rfl,C.cell 1 _ rfl,C.cell 2 _ rfl,C.cell 3 _ rfl,C.cell 4 _ rfl,C.cell 5 _ rfl,C.cell 6 _ rfl,C.cell 7 _ rfl,C.cell 8 _ rfl,C.cell 9 _ rfl,C.cell 10 _ rfl⟩
  obtain ⟨q0,q0',q1,q1'⟩:=C.ret
  go_enter Tryz.func13,Tryz.ntmps13
  go_wp2_with fail
  rw [← hW]
  clear hW
  go_wp2_with (first
    | (go_at_call 33;go_loud (with_reducible refine (KO.out _).mono ?_);go_loud (rintro e1 w1 ⟨rfl,hb1⟩);go_loud (replace C:=C.bel hb1);go_loud (clear hb1 q0 q0' q1 q1' x0 x1 x2 x3 x4 x5 x6 x7 x8 x9 x10);go_loud (obtain ⟨x0,x1,x2,x3,x4,x5,x6,x7,x8,x9,x10⟩ : _ ∧ _ ∧ _ ∧ _ ∧ _ ∧ _ ∧ _ ∧ _ ∧ _ ∧ _ ∧ _:=⟨C.cell 0 _ rfl,C.cell 1 _ rfl,C.cell 2 _ rfl,C.cell 3 _ rfl,C.cell 4 _ rfl,C.cell 5 _ rfl,C.cell 6 _ rfl,C.cell 7 _ rfl,C.cell 8 _ rfl,C.cell 9 _ rfl,C.cell 10 _ rfl⟩);go_loud (obtain ⟨q0,q0',q1,q1'⟩:=C.ret))
    | fail)
  refine bodyPost_ret (v:=.agg #[.int .i64 5,.int .i64 0]) (by simp [results,Tryz.results13,go_sem,q0,q0',q1,q1']) rfl ?_
  exact C.post 5 0
set_option maxRecDepth 100000 in
set_option maxHeartbeats 16000000 in
theorem ocheck_c3 (vn vs : Value) (s : OS) (w : World) (hT : TW w) (hrow : OsRow w vn vs s) (hok : smOS s) (ho : opensG s.first = true) (hn : s.first.nu = 0) (hc : (checkM s.b).1 ≠ 0) :
    Calls Tryz.prog 13 #[.agg #[.int .u8 s.first.fl.toNat,.int .u64 s.first.po,.int .u32 s.first.se,.int .u32 s.first.nu,.string s.first.la,.string s.first.bo,.string s.b.vt,.int .i64 s.b.vs,vn,.string s.setup,vs]] w (CheckPost ((checkM s.b).1,1) w):=by
  obtain ⟨W,hW,C⟩:=cs_start w (osC vn vs s)
  have ko : ∀ w,Calls Tryz.prog 33 #[gV s.first] w fun e w'=>e = .returned (.bool (opensG s.first)) ∧ Below w.heap.size w w':=fun w=>opens_any s.first w hok.2.1.1 hok.2.1.2
  unfold gV at ko
  rw [ho] at ko
  have h1 : ((s.first.nu : Int) == 0) = true:=by rw [beq_iff_eq];omega
  have h2 : (s.first.nu == 0) = true:=by rw [beq_iff_eq];exact hn
  have kc : ∀ w',Below w.heap.size w w' → Calls Tryz.prog 34 #[.agg #[.string s.b.vt,.int .i64 s.b.vs,vn]] w' fun e w''=>e = .returned (.agg #[.int .i64 (checkM s.b).1,.int .i64 (checkM s.b).2]) ∧ Below w'.heap.size w' w'':=fun w' hb=>ccheck_any vn s.b w' (hT.bel hb) (hrow.1.keep hb) hok.1
  have kb:=fun w=>bad_any (checkM s.b).1 (checkM s.b).2 w
  rw [show (!decide ((checkM s.b).1 = 0)) = true by simpa using hc] at kb
  generalize checkM s.b = CC at *
  obtain ⟨cc,ca⟩:=CC
  simp only at kc kb ⊢
  clear hrow hok hn hc
  have KO:=Lib.hid ko
  have KC:=Lib.hid kc
  have KB:=Lib.hid kb
  clear ko kc kb
  obtain ⟨x0,x1,x2,x3,x4,x5,x6,x7,x8,x9,x10⟩ : _ ∧ _ ∧ _ ∧ _ ∧ _ ∧ _ ∧ _ ∧ _ ∧ _ ∧ _ ∧ _:=⟨C.cell 0 _ rfl,C.cell 1 _ rfl,C.cell 2 _ rfl,C.cell 3 _ rfl,C.cell 4 _ rfl,C.cell 5 _ rfl,C.cell 6 _ rfl,C.cell 7 _ rfl,C.cell 8 _ rfl,C.cell 9 _ rfl,C.cell 10 _ rfl⟩
  obtain ⟨q0,q0',q1,q1'⟩:=C.ret
  go_enter Tryz.func13,Tryz.ntmps13
  go_wp2_with fail
  rw [← hW]
  clear hW
  go_wp2_with (first
    | (go_at_call 33;go_loud (with_reducible refine (KO.out _).mono ?_);go_loud (rintro e1 w1 ⟨rfl,hb1⟩);go_loud (replace C:=C.bel hb1);go_loud (clear hb1 q0 q0' q1 q1' x0 x1 x2 x3 x4 x5 x6 x7 x8 x9 x10);go_loud (obtain ⟨x0,x1,x2,x3,x4,x5,x6,x7,x8,x9,x10⟩ : _ ∧ _ ∧ _ ∧ _ ∧ _ ∧ _ ∧ _ ∧ _ ∧ _ ∧ _ ∧ _:=⟨C.cell 0 _ rfl,C.cell 1 _ rfl,C.cell 2 _ rfl,C.cell 3 _ rfl,C.cell 4 _ rfl,C.cell 5 _ rfl,C.cell 6 _ rfl,C.cell 7 _ rfl,C.cell 8 _ rfl,C.cell 9 _ rfl,C.cell 10 _ rfl⟩);go_loud (obtain ⟨q0,q0',q1,q1'⟩:=C.ret))
    | (go_at_call 34;go_loud (with_reducible refine (KC.out _ C.gg).mono ?_);go_loud (rintro e2 w2 ⟨rfl,hb2⟩);go_loud (replace C:=(C.bel hb2).bel (bal (Below.refl _ _) (.cells #[.int .i64 cc,.int .i64 ca] 54)));go_loud (obtain ⟨j0,_⟩:=Live.fresh w2 #[.int .i64 cc,.int .i64 ca] 54 0 _ rfl);go_loud (obtain ⟨j1,_⟩:=Live.fresh w2 #[.int .i64 cc,.int .i64 ca] 54 1 _ rfl);go_loud (clear hb2 q0 q0' q1 q1' x0 x1 x2 x3 x4 x5 x6 x7 x8 x9 x10))
    | (go_at_call 18;go_loud (with_reducible refine (KB.out _).mono ?_);go_loud (rintro e3 w3 ⟨rfl,hb3⟩);go_loud (replace C:=C.bel hb3);go_loud (replace j0:=kc hb3 j0);go_loud (clear hb3 j1);go_loud (obtain ⟨x0,x1,x2,x3,x4,x5,x6,x7,x8,x9,x10⟩ : _ ∧ _ ∧ _ ∧ _ ∧ _ ∧ _ ∧ _ ∧ _ ∧ _ ∧ _ ∧ _:=⟨C.cell 0 _ rfl,C.cell 1 _ rfl,C.cell 2 _ rfl,C.cell 3 _ rfl,C.cell 4 _ rfl,C.cell 5 _ rfl,C.cell 6 _ rfl,C.cell 7 _ rfl,C.cell 8 _ rfl,C.cell 9 _ rfl,C.cell 10 _ rfl⟩);go_loud (obtain ⟨q0,q0',q1,q1'⟩:=C.ret))
    | fail)
  refine bodyPost_ret (v:=.agg #[.int .i64 cc,.int .i64 1]) (by simp [results,Tryz.results13,go_sem,q0,q0',q1,q1']) rfl ?_
  exact C.post cc 1
set_option maxRecDepth 100000 in
set_option maxHeartbeats 16000000 in
theorem ocheck_c4 (vn vs : Value) (s : OS) (w : World) (hT : TW w) (hrow : OsRow w vn vs s) (hok : smOS s) (ho : opensG s.first = true) (hn : s.first.nu = 0) (hc : (checkM s.b).1 = 0) (hp : preM (bl s.setup) (vorb 5) = false) :
    Calls Tryz.prog 13 #[.agg #[.int .u8 s.first.fl.toNat,.int .u64 s.first.po,.int .u32 s.first.se,.int .u32 s.first.nu,.string s.first.la,.string s.first.bo,.string s.b.vt,.int .i64 s.b.vs,vn,.string s.setup,vs]] w (CheckPost (5,2) w):=by
  obtain ⟨W,hW,C⟩:=cs_start w (osC vn vs s)
  have ko : ∀ w,Calls Tryz.prog 33 #[gV s.first] w fun e w'=>e = .returned (.bool (opensG s.first)) ∧ Below w.heap.size w w':=fun w=>opens_any s.first w hok.2.1.1 hok.2.1.2
  unfold gV at ko
  rw [ho] at ko
  have h1 : ((s.first.nu : Int) == 0) = true:=by rw [beq_iff_eq];omega
  have h2 : (s.first.nu == 0) = true:=by rw [beq_iff_eq];exact hn
  have kc : ∀ w',Below w.heap.size w w' → Calls Tryz.prog 34 #[.agg #[.string s.b.vt,.int .i64 s.b.vs,vn]] w' fun e w''=>e = .returned (.agg #[.int .i64 (checkM s.b).1,.int .i64 (checkM s.b).2]) ∧ Below w'.heap.size w' w'':=fun w' hb=>ccheck_any vn s.b w' (hT.bel hb) (hrow.1.keep hb) hok.1
  have kb:=fun w=>bad_any (checkM s.b).1 (checkM s.b).2 w
  have kx : ∀ (w : World),Calls Tryz.prog 35 #[.string s.setup,.string ⟨#[5,118,111,114,98,105,115]⟩] w fun e w'=>e = .returned (.bool (preM (bl s.setup) (vorb 5))) ∧ w = w':=fun w=>(prefix_any s.setup 5 w).mono fun e w' h=>⟨h.1,h.2.symm⟩
  rw [hp] at kx
  rw [show (!decide ((checkM s.b).1 = 0)) = false by simpa using hc] at kb
  generalize checkM s.b = CC at *
  obtain ⟨cc,ca⟩:=CC
  simp only at kc kb ⊢
  clear hrow hok hn hc
  have KO:=Lib.hid ko
  have KC:=Lib.hid kc
  have KB:=Lib.hid kb
  have KX:=Lib.hid kx
  clear ko kc kb kx
  obtain ⟨x0,x1,x2,x3,x4,x5,x6,x7,x8,x9,x10⟩ : _ ∧ _ ∧ _ ∧ _ ∧ _ ∧ _ ∧ _ ∧ _ ∧ _ ∧ _ ∧ _:=⟨C.cell 0 _ rfl,C.cell 1 _ rfl,C.cell 2 _ rfl,C.cell 3 _ rfl,C.cell 4 _ rfl,C.cell 5 _ rfl,C.cell 6 _ rfl,C.cell 7 _ rfl,C.cell 8 _ rfl,C.cell 9 _ rfl,C.cell 10 _ rfl⟩
  obtain ⟨q0,q0',q1,q1'⟩:=C.ret
  go_enter Tryz.func13,Tryz.ntmps13
  go_wp2_with fail
  rw [← hW]
  clear hW
  go_wp2_with (first
    | (go_at_call 33;go_loud (with_reducible refine (KO.out _).mono ?_);go_loud (rintro e1 w1 ⟨rfl,hb1⟩);go_loud (replace C:=C.bel hb1);go_loud (clear hb1 q0 q0' q1 q1' x0 x1 x2 x3 x4 x5 x6 x7 x8 x9 x10);go_loud (obtain ⟨x0,x1,x2,x3,x4,x5,x6,x7,x8,x9,x10⟩ : _ ∧ _ ∧ _ ∧ _ ∧ _ ∧ _ ∧ _ ∧ _ ∧ _ ∧ _ ∧ _:=⟨C.cell 0 _ rfl,C.cell 1 _ rfl,C.cell 2 _ rfl,C.cell 3 _ rfl,C.cell 4 _ rfl,C.cell 5 _ rfl,C.cell 6 _ rfl,C.cell 7 _ rfl,C.cell 8 _ rfl,C.cell 9 _ rfl,C.cell 10 _ rfl⟩);go_loud (obtain ⟨q0,q0',q1,q1'⟩:=C.ret))
    | (go_at_call 34;go_loud (with_reducible refine (KC.out _ C.gg).mono ?_);go_loud (rintro e2 w2 ⟨rfl,hb2⟩);go_loud (replace C:=(C.bel hb2).bel (bal (Below.refl _ _) (.cells #[.int .i64 cc,.int .i64 ca] 54)));go_loud (obtain ⟨j0,_⟩:=Live.fresh w2 #[.int .i64 cc,.int .i64 ca] 54 0 _ rfl);go_loud (obtain ⟨j1,_⟩:=Live.fresh w2 #[.int .i64 cc,.int .i64 ca] 54 1 _ rfl);go_loud (clear hb2 q0 q0' q1 q1' x0 x1 x2 x3 x4 x5 x6 x7 x8 x9 x10))
    | (go_at_call 18;go_loud (with_reducible refine (KB.out _).mono ?_);go_loud (rintro e3 w3 ⟨rfl,hb3⟩);go_loud (replace C:=C.bel hb3);go_loud (replace j0:=kc hb3 j0);go_loud (clear hb3 j1);go_loud (obtain ⟨x0,x1,x2,x3,x4,x5,x6,x7,x8,x9,x10⟩ : _ ∧ _ ∧ _ ∧ _ ∧ _ ∧ _ ∧ _ ∧ _ ∧ _ ∧ _ ∧ _:=⟨C.cell 0 _ rfl,C.cell 1 _ rfl,C.cell 2 _ rfl,C.cell 3 _ rfl,C.cell 4 _ rfl,C.cell 5 _ rfl,C.cell 6 _ rfl,C.cell 7 _ rfl,C.cell 8 _ rfl,C.cell 9 _ rfl,C.cell 10 _ rfl⟩);go_loud (obtain ⟨q0,q0',q1,q1'⟩:=C.ret))
    | (go_at_call 35;go_loud (with_reducible refine (KX.out _).mono ?_);go_loud (rintro e4 w4 ⟨rfl,rfl⟩))
    | fail)
  refine bodyPost_ret (v:=.agg #[.int .i64 5,.int .i64 2]) (by simp [results,Tryz.results13,go_sem,q0,q0',q1,q1']) rfl ?_
  exact C.post 5 2
set_option maxRecDepth 100000 in
set_option maxHeartbeats 16000000 in
theorem ocheck_c5 (vn vs : Value) (s : OS) (w : World) (hT : TW w) (hrow : OsRow w vn vs s) (hok : smOS s) (ho : opensG s.first = true) (hn : s.first.nu = 0) (hc : (checkM s.b).1 = 0) (hp : preM (bl s.setup) (vorb 5) = true) :
    Calls Tryz.prog 13 #[.agg #[.int .u8 s.first.fl.toNat,.int .u64 s.first.po,.int .u32 s.first.se,.int .u32 s.first.nu,.string s.first.la,.string s.first.bo,.string s.b.vt,.int .i64 s.b.vs,vn,.string s.setup,vs]] w (CheckPost (soundF s.first.se s.sound 0) w):=by
  obtain ⟨W,hW,C⟩:=cs_start w (osC vn vs s)
  have ko : ∀ w,Calls Tryz.prog 33 #[gV s.first] w fun e w'=>e = .returned (.bool (opensG s.first)) ∧ Below w.heap.size w w':=fun w=>opens_any s.first w hok.2.1.1 hok.2.1.2
  unfold gV at ko
  rw [ho] at ko
  have h1 : ((s.first.nu : Int) == 0) = true:=by rw [beq_iff_eq];omega
  have h2 : (s.first.nu == 0) = true:=by rw [beq_iff_eq];exact hn
  have kc : ∀ w',Below w.heap.size w w' → Calls Tryz.prog 34 #[.agg #[.string s.b.vt,.int .i64 s.b.vs,vn]] w' fun e w''=>e = .returned (.agg #[.int .i64 (checkM s.b).1,.int .i64 (checkM s.b).2]) ∧ Below w'.heap.size w' w'':=fun w' hb=>ccheck_any vn s.b w' (hT.bel hb) (hrow.1.keep hb) hok.1
  have kb:=fun w=>bad_any (checkM s.b).1 (checkM s.b).2 w
  have kx : ∀ (w : World),Calls Tryz.prog 35 #[.string s.setup,.string ⟨#[5,118,111,114,98,105,115]⟩] w fun e w'=>e = .returned (.bool (preM (bl s.setup) (vorb 5))) ∧ w = w':=fun w=>(prefix_any s.setup 5 w).mono fun e w' h=>⟨h.1,h.2.symm⟩
  rw [hp] at kx
  rw [show (!decide ((checkM s.b).1 = 0)) = false by simpa using hc] at kb
  generalize checkM s.b = CC at *
  obtain ⟨cc,ca⟩:=CC
  simp only at kc kb ⊢
  obtain ⟨av,cap,hvs,hcv⟩:=hrow.2
  have hsm:=hok.2.2.2.2
  have hsl:=hok.2.2.2.1
  generalize s.sound = l at *
  obtain ⟨n,hn'⟩ : ∃ n,n = l.length:=⟨_,rfl⟩
  rw [← hn'] at hvs hsl
  subst hvs
  obtain ⟨R,hR⟩ : ∃ R,R = soundF s.first.se l 0:=⟨_,rfl⟩
  rw [← hR]
  clear hrow hok hn hc ho hp
  have KO:=Lib.hid ko
  have KC:=Lib.hid kc
  have KB:=Lib.hid kb
  have KX:=Lib.hid kx
  have HCV:=Lib.hid hcv
  have HSM:=Lib.hid hsm
  have HN:=Lib.hid hn'
  have HR:=Lib.hid hR
  clear ko kc kb kx hcv hsm hn' hR
  obtain ⟨x0,x1,x2,x3,x4,x5,x6,x7,x8,x9,x10⟩ : _ ∧ _ ∧ _ ∧ _ ∧ _ ∧ _ ∧ _ ∧ _ ∧ _ ∧ _ ∧ _:=⟨C.cell 0 _ rfl,C.cell 1 _ rfl,C.cell 2 _ rfl,C.cell 3 _ rfl,C.cell 4 _ rfl,C.cell 5 _ rfl,C.cell 6 _ rfl,C.cell 7 _ rfl,C.cell 8 _ rfl,C.cell 9 _ rfl,C.cell 10 _ rfl⟩
  obtain ⟨q0,q0',q1,q1'⟩:=C.ret
  go_enter Tryz.func13,Tryz.ntmps13
  go_wp2_with fail
  rw [← hW]
  clear hW
  go_wp2_with (first
    | (go_at_call 33;go_loud (with_reducible refine (KO.out _).mono ?_);go_loud (rintro e1 w1 ⟨rfl,hb1⟩);go_loud (replace C:=C.bel hb1);go_loud (clear hb1 q0 q0' q1 q1' x0 x1 x2 x3 x4 x5 x6 x7 x8 x9 x10);go_loud (obtain ⟨x0,x1,x2,x3,x4,x5,x6,x7,x8,x9,x10⟩ : _ ∧ _ ∧ _ ∧ _ ∧ _ ∧ _ ∧ _ ∧ _ ∧ _ ∧ _ ∧ _:=⟨C.cell 0 _ rfl,C.cell 1 _ rfl,C.cell 2 _ rfl,C.cell 3 _ rfl,C.cell 4 _ rfl,C.cell 5 _ rfl,C.cell 6 _ rfl,C.cell 7 _ rfl,C.cell 8 _ rfl,C.cell 9 _ rfl,C.cell 10 _ rfl⟩);go_loud (obtain ⟨q0,q0',q1,q1'⟩:=C.ret))
    | (go_at_call 34;go_loud (with_reducible refine (KC.out _ C.gg).mono ?_);go_loud (rintro e2 w2 ⟨rfl,hb2⟩);go_loud (replace C:=(C.bel hb2).bel (bal (Below.refl _ _) (.cells #[.int .i64 cc,.int .i64 ca] 54)));go_loud (obtain ⟨j0,_⟩:=Live.fresh w2 #[.int .i64 cc,.int .i64 ca] 54 0 _ rfl);go_loud (obtain ⟨j1,_⟩:=Live.fresh w2 #[.int .i64 cc,.int .i64 ca] 54 1 _ rfl);go_loud (clear hb2 q0 q0' q1 q1' x0 x1 x2 x3 x4 x5 x6 x7 x8 x9 x10))
    | (go_at_call 18;go_loud (with_reducible refine (KB.out _).mono ?_);go_loud (rintro e3 w3 ⟨rfl,hb3⟩);go_loud (replace C:=C.bel hb3);go_loud (replace j0:=kc hb3 j0);go_loud (clear hb3 j1);go_loud (obtain ⟨x0,x1,x2,x3,x4,x5,x6,x7,x8,x9,x10⟩ : _ ∧ _ ∧ _ ∧ _ ∧ _ ∧ _ ∧ _ ∧ _ ∧ _ ∧ _ ∧ _:=⟨C.cell 0 _ rfl,C.cell 1 _ rfl,C.cell 2 _ rfl,C.cell 3 _ rfl,C.cell 4 _ rfl,C.cell 5 _ rfl,C.cell 6 _ rfl,C.cell 7 _ rfl,C.cell 8 _ rfl,C.cell 9 _ rfl,C.cell 10 _ rfl⟩);go_loud (obtain ⟨q0,q0',q1,q1'⟩:=C.ret))
    | (go_at_call 35;go_loud (with_reducible refine (KX.out _).mono ?_);go_loud (rintro e4 w4 ⟨rfl,rfl⟩))
    | fail)
  have HC0:=Lib.hid C
  clear C j0 q0 q0' q1 q1' x0 x1 x2 x3 x4 x5 x6 x7 x8 x9 x10
  go_loopw [35] (fun iv wr=>∃ i : Nat,iv = .int .i64 (i : Int) ∧ i ≤ n ∧ Hid (CS w (osC vn (.slice av n cap) s) wr) ∧ Hid (soundF s.first.se (l.drop i) i = R)) (fun iv _=>n - (intOf iv).toNat)
  case atStart=>exact ⟨0,rfl,Nat.zero_le _,HC0,Lib.hid (by rw [List.drop_zero];exact HR.out.symm)⟩
  case round=>
    clear HC0
    obtain ⟨i,rfl,hi,HC,HP⟩:=hrel
    by_cases hlt : i < n
    · obtain ⟨p,hp⟩:=at_some l i (by rw [← HN.out];exact hlt)
      obtain ⟨gg,og,rfl,d0,d1,d2,d3,d4,d5⟩:=g_at HCV.out i p hp
      replace d0:=kc HC.out.gg d0
      replace d1:=kc HC.out.gg d1
      replace d2:=kc HC.out.gg d2
      replace d3:=kc HC.out.gg d3
      replace d4:=kc HC.out.gg d4
      replace d5:=kc HC.out.gg d5
      obtain ⟨s1,s2⟩:=HSM.out p (List.mem_of_getElem? hp)
      have hP:=HP.out
      obtain ⟨hp1,hp2⟩:=List.getElem?_eq_some_iff.1 hp
      rw [List.drop_eq_getElem_cons hp1,hp2,soundF] at hP
      have k1:=fun w=>gcheck_any p w s1 s2
      have k2:=fun w=>bad_any (gcheckM p) 0 w
      have k3:=fun w=>gcont_any p w
      have k4:=fun w=>gfirst_any p w
      unfold gV at k1
      unfold hV at k3 k4
      generalize gcheckM p = ck at *
      generalize contG p = cg at *
      generalize firstG p = fg at *
      have m0 : (0 : Int) ≤ (i : Int):=by omega
      have m1 : (i : Int) < (n : Int):=by omega
      have hw1 : IntKind.i64.wrap ((i : Int) + 1) = (i : Int) + 1:=wi64 _ (by omega) (by omega)
      have hw3 : IntKind.i64.wrap (3 + (i : Int)) = 3 + (i : Int):=wi64 _ (by omega) (by omega)
      obtain ⟨fl,po,se,nu,la,bo⟩:=p
      simp only at d0 d1 d2 d3 d4 d5 k1 k3 k4 hP
      generalize (fl.toNat : Int) = f at *
      have C:=HC.out.bel (bal (Below.refl wr.heap.size wr) (.cells #[.int .u8 f,.int .u64 po,.int .u32 se,.int .u32 nu,.string la,.string bo] 27))
      have B:=heap_alloc_new wr (.cells #[.int .u8 f,.int .u64 po,.int .u32 se,.int .u32 nu,.string la,.string bo] 27)
      obtain ⟨sf,hsf⟩ : ∃ sf,sf = s.first.se:=⟨_,rfl⟩
      have CX:=C.cell 2 _ rfl
      have K1:=Lib.hid k1
      have K2:=Lib.hid k2
      have K3:=Lib.hid k3
      have K4:=Lib.hid k4
      clear k1 k2 k3 k4
      clear hp hp1 hp2 HP s1 s2 CX hsf sf
      by_cases hi0 : i = 0
      · have b0 : ((i : Int) == 0) = true:=by rw [beq_iff_eq];omega
        have b0n : (i == 0) = true:=by rw [beq_iff_eq];exact hi0
        have HI0:=Lib.hid hi0
        clear hi0
        by_cases hck : ck = 0
        · rw [hck] at K1 K2
          have K2':=K2.out
          rw [show (!decide ((0 : Int) = 0)) = false from rfl] at K2'
          clear K2
          have K2:=Lib.hid K2'
          clear K2'
          by_cases hse : se = s.first.se
          · subst hse
            cases fg with
            | true=>
              rw [if_pos (.inr (.inr (.inl rfl)))] at hP
              have HX : Hid (R = (5,3 + (i : Int))):=Lib.hid hP.symm
              clear hP hck
              go_wp2_with (first
                | (go_at_call 36;go_loud (with_reducible refine (K3.out _).mono ?_);go_loud (rintro e5 w5 ⟨rfl,hb5⟩);go_loud (replace C:=C.bel hb5);go_loud (replace B:=blkP B hb5);go_loud (clear hb5);go_loud (obtain ⟨p0,p1,p2,p3,p4,p5⟩:=gvL B);go_loud (have x2:=C.cell 2 _ rfl);go_loud (obtain ⟨q0,q0',q1,q1'⟩:=C.ret))
                | (go_at_call 37;go_loud (with_reducible refine (K1.out _).mono ?_);go_loud (rintro e6 w6 ⟨rfl,hb6⟩);go_loud (replace C:=C.bel hb6);go_loud (replace B:=blkP B hb6);go_loud (clear hb6);go_loud (obtain ⟨p0,p1,p2,p3,p4,p5⟩:=gvL B);go_loud (have x2:=C.cell 2 _ rfl);go_loud (obtain ⟨q0,q0',q1,q1'⟩:=C.ret))
                | (go_at_call 18;go_loud (with_reducible refine (K2.out _).mono ?_);go_loud (rintro e7 w7 ⟨rfl,hb7⟩);go_loud (replace C:=C.bel hb7);go_loud (replace B:=blkP B hb7);go_loud (clear hb7);go_loud (obtain ⟨p0,p1,p2,p3,p4,p5⟩:=gvL B);go_loud (have x2:=C.cell 2 _ rfl);go_loud (obtain ⟨q0,q0',q1,q1'⟩:=C.ret))
                | (go_at_call 36;go_loud (with_reducible refine (K4.out _).mono ?_);go_loud (rintro e8 w8 ⟨rfl,hb8⟩);go_loud (replace C:=C.bel hb8);go_loud (replace B:=blkP B hb8);go_loud (clear hb8);go_loud (obtain ⟨p0,p1,p2,p3,p4,p5⟩:=gvL B);go_loud (have x2:=C.cell 2 _ rfl);go_loud (obtain ⟨q0,q0',q1,q1'⟩:=C.ret))
                | fail)
              refine bodyPost_ret (v:=.agg #[.int .i64 5,.int .i64 (3 + (i : Int))]) (by simp [results,Tryz.results13,go_sem,q0,q0',q1,q1']) rfl ?_
              rw [HX.out]
              exact C.post 5 (3 + (i : Int))
            | false=>
              cases cg with
              | true=>
                rw [if_pos (.inr (.inr (.inr ⟨HI0.out,rfl⟩)))] at hP
                have HX : Hid (R = (5,3 + (i : Int))):=Lib.hid hP.symm
                clear hP hck
                go_wp2_with (first
                  | (go_at_call 36;go_loud (with_reducible refine (K3.out _).mono ?_);go_loud (rintro e5 w5 ⟨rfl,hb5⟩);go_loud (replace C:=C.bel hb5);go_loud (replace B:=blkP B hb5);go_loud (clear hb5);go_loud (obtain ⟨p0,p1,p2,p3,p4,p5⟩:=gvL B);go_loud (have x2:=C.cell 2 _ rfl);go_loud (obtain ⟨q0,q0',q1,q1'⟩:=C.ret))
                  | (go_at_call 37;go_loud (with_reducible refine (K1.out _).mono ?_);go_loud (rintro e6 w6 ⟨rfl,hb6⟩);go_loud (replace C:=C.bel hb6);go_loud (replace B:=blkP B hb6);go_loud (clear hb6);go_loud (obtain ⟨p0,p1,p2,p3,p4,p5⟩:=gvL B);go_loud (have x2:=C.cell 2 _ rfl);go_loud (obtain ⟨q0,q0',q1,q1'⟩:=C.ret))
                  | (go_at_call 18;go_loud (with_reducible refine (K2.out _).mono ?_);go_loud (rintro e7 w7 ⟨rfl,hb7⟩);go_loud (replace C:=C.bel hb7);go_loud (replace B:=blkP B hb7);go_loud (clear hb7);go_loud (obtain ⟨p0,p1,p2,p3,p4,p5⟩:=gvL B);go_loud (have x2:=C.cell 2 _ rfl);go_loud (obtain ⟨q0,q0',q1,q1'⟩:=C.ret))
                  | (go_at_call 36;go_loud (with_reducible refine (K4.out _).mono ?_);go_loud (rintro e8 w8 ⟨rfl,hb8⟩);go_loud (replace C:=C.bel hb8);go_loud (replace B:=blkP B hb8);go_loud (clear hb8);go_loud (obtain ⟨p0,p1,p2,p3,p4,p5⟩:=gvL B);go_loud (have x2:=C.cell 2 _ rfl);go_loud (obtain ⟨q0,q0',q1,q1'⟩:=C.ret))
                  | fail)
                refine bodyPost_ret (v:=.agg #[.int .i64 5,.int .i64 (3 + (i : Int))]) (by simp [results,Tryz.results13,go_sem,q0,q0',q1,q1']) rfl ?_
                rw [HX.out]
                exact C.post 5 (3 + (i : Int))
              | false=>
                rw [if_neg (by rintro (h | h | h | ⟨_,h⟩);exact h hck;exact h rfl;cases h;cases h)] at hP
                have HX:=Lib.hid hP
                clear hP hck
                go_wp2_with (first
                  | (go_at_call 36;go_loud (with_reducible refine (K3.out _).mono ?_);go_loud (rintro e5 w5 ⟨rfl,hb5⟩);go_loud (replace C:=C.bel hb5);go_loud (replace B:=blkP B hb5);go_loud (clear hb5);go_loud (obtain ⟨p0,p1,p2,p3,p4,p5⟩:=gvL B);go_loud (have x2:=C.cell 2 _ rfl);go_loud (obtain ⟨q0,q0',q1,q1'⟩:=C.ret))
                  | (go_at_call 37;go_loud (with_reducible refine (K1.out _).mono ?_);go_loud (rintro e6 w6 ⟨rfl,hb6⟩);go_loud (replace C:=C.bel hb6);go_loud (replace B:=blkP B hb6);go_loud (clear hb6);go_loud (obtain ⟨p0,p1,p2,p3,p4,p5⟩:=gvL B);go_loud (have x2:=C.cell 2 _ rfl);go_loud (obtain ⟨q0,q0',q1,q1'⟩:=C.ret))
                  | (go_at_call 18;go_loud (with_reducible refine (K2.out _).mono ?_);go_loud (rintro e7 w7 ⟨rfl,hb7⟩);go_loud (replace C:=C.bel hb7);go_loud (replace B:=blkP B hb7);go_loud (clear hb7);go_loud (obtain ⟨p0,p1,p2,p3,p4,p5⟩:=gvL B);go_loud (have x2:=C.cell 2 _ rfl);go_loud (obtain ⟨q0,q0',q1,q1'⟩:=C.ret))
                  | (go_at_call 36;go_loud (with_reducible refine (K4.out _).mono ?_);go_loud (rintro e8 w8 ⟨rfl,hb8⟩);go_loud (replace C:=C.bel hb8);go_loud (replace B:=blkP B hb8);go_loud (clear hb8);go_loud (obtain ⟨p0,p1,p2,p3,p4,p5⟩:=gvL B);go_loud (have x2:=C.cell 2 _ rfl);go_loud (obtain ⟨q0,q0',q1,q1'⟩:=C.ret))
                  | fail)
                exact ⟨⟨i + 1,by go_num,by omega,Lib.hid C,HX⟩,by simp [intOf];omega⟩
          · rw [if_pos (.inr (.inl hse))] at hP
            have HX : Hid (R = (5,3 + (i : Int))):=Lib.hid hP.symm
            have b1 : ((se : Int) == (s.first.se : Int)) = false:=by rw [beq_eq_false_iff_ne];omega
            have b1n : (se == s.first.se) = false:=by rw [beq_eq_false_iff_ne];exact hse
            clear hP hck
            go_wp2_with (first
              | (go_at_call 36;go_loud (with_reducible refine (K3.out _).mono ?_);go_loud (rintro e5 w5 ⟨rfl,hb5⟩);go_loud (replace C:=C.bel hb5);go_loud (replace B:=blkP B hb5);go_loud (clear hb5);go_loud (obtain ⟨p0,p1,p2,p3,p4,p5⟩:=gvL B);go_loud (have x2:=C.cell 2 _ rfl);go_loud (obtain ⟨q0,q0',q1,q1'⟩:=C.ret))
              | (go_at_call 37;go_loud (with_reducible refine (K1.out _).mono ?_);go_loud (rintro e6 w6 ⟨rfl,hb6⟩);go_loud (replace C:=C.bel hb6);go_loud (replace B:=blkP B hb6);go_loud (clear hb6);go_loud (obtain ⟨p0,p1,p2,p3,p4,p5⟩:=gvL B);go_loud (have x2:=C.cell 2 _ rfl);go_loud (obtain ⟨q0,q0',q1,q1'⟩:=C.ret))
              | (go_at_call 18;go_loud (with_reducible refine (K2.out _).mono ?_);go_loud (rintro e7 w7 ⟨rfl,hb7⟩);go_loud (replace C:=C.bel hb7);go_loud (replace B:=blkP B hb7);go_loud (clear hb7);go_loud (obtain ⟨p0,p1,p2,p3,p4,p5⟩:=gvL B);go_loud (have x2:=C.cell 2 _ rfl);go_loud (obtain ⟨q0,q0',q1,q1'⟩:=C.ret))
              | (go_at_call 36;go_loud (with_reducible refine (K4.out _).mono ?_);go_loud (rintro e8 w8 ⟨rfl,hb8⟩);go_loud (replace C:=C.bel hb8);go_loud (replace B:=blkP B hb8);go_loud (clear hb8);go_loud (obtain ⟨p0,p1,p2,p3,p4,p5⟩:=gvL B);go_loud (have x2:=C.cell 2 _ rfl);go_loud (obtain ⟨q0,q0',q1,q1'⟩:=C.ret))
              | fail)
            refine bodyPost_ret (v:=.agg #[.int .i64 5,.int .i64 (3 + (i : Int))]) (by simp [results,Tryz.results13,go_sem,q0,q0',q1,q1']) rfl ?_
            rw [HX.out]
            exact C.post 5 (3 + (i : Int))
        · rw [if_pos (.inl hck)] at hP
          have HX : Hid (R = (5,3 + (i : Int))):=Lib.hid hP.symm
          have K2':=K2.out
          rw [show (!decide (ck = 0)) = true by simpa using hck] at K2'
          clear K2
          have K2:=Lib.hid K2'
          clear K2' hP hck
          go_wp2_with (first
            | (go_at_call 36;go_loud (with_reducible refine (K3.out _).mono ?_);go_loud (rintro e5 w5 ⟨rfl,hb5⟩);go_loud (replace C:=C.bel hb5);go_loud (replace B:=blkP B hb5);go_loud (clear hb5);go_loud (obtain ⟨p0,p1,p2,p3,p4,p5⟩:=gvL B);go_loud (have x2:=C.cell 2 _ rfl);go_loud (obtain ⟨q0,q0',q1,q1'⟩:=C.ret))
            | (go_at_call 37;go_loud (with_reducible refine (K1.out _).mono ?_);go_loud (rintro e6 w6 ⟨rfl,hb6⟩);go_loud (replace C:=C.bel hb6);go_loud (replace B:=blkP B hb6);go_loud (clear hb6);go_loud (obtain ⟨p0,p1,p2,p3,p4,p5⟩:=gvL B);go_loud (have x2:=C.cell 2 _ rfl);go_loud (obtain ⟨q0,q0',q1,q1'⟩:=C.ret))
            | (go_at_call 18;go_loud (with_reducible refine (K2.out _).mono ?_);go_loud (rintro e7 w7 ⟨rfl,hb7⟩);go_loud (replace C:=C.bel hb7);go_loud (replace B:=blkP B hb7);go_loud (clear hb7);go_loud (obtain ⟨p0,p1,p2,p3,p4,p5⟩:=gvL B);go_loud (have x2:=C.cell 2 _ rfl);go_loud (obtain ⟨q0,q0',q1,q1'⟩:=C.ret))
            | (go_at_call 36;go_loud (with_reducible refine (K4.out _).mono ?_);go_loud (rintro e8 w8 ⟨rfl,hb8⟩);go_loud (replace C:=C.bel hb8);go_loud (replace B:=blkP B hb8);go_loud (clear hb8);go_loud (obtain ⟨p0,p1,p2,p3,p4,p5⟩:=gvL B);go_loud (have x2:=C.cell 2 _ rfl);go_loud (obtain ⟨q0,q0',q1,q1'⟩:=C.ret))
            | fail)
          refine bodyPost_ret (v:=.agg #[.int .i64 5,.int .i64 (3 + (i : Int))]) (by simp [results,Tryz.results13,go_sem,q0,q0',q1,q1']) rfl ?_
          rw [HX.out]
          exact C.post 5 (3 + (i : Int))
      · have b0 : ((i : Int) == 0) = false:=by rw [beq_eq_false_iff_ne];omega
        have b0n : (i == 0) = false:=by rw [beq_eq_false_iff_ne];exact hi0
        by_cases hck : ck = 0
        · rw [hck] at K1 K2
          have K2':=K2.out
          rw [show (!decide ((0 : Int) = 0)) = false from rfl] at K2'
          clear K2
          have K2:=Lib.hid K2'
          clear K2'
          by_cases hse : se = s.first.se
          · subst hse
            cases fg with
            | true=>
              rw [if_pos (.inr (.inr (.inl rfl)))] at hP
              have HX : Hid (R = (5,3 + (i : Int))):=Lib.hid hP.symm
              clear hP hck
              go_wp2_with (first
                | (go_at_call 37;go_loud (with_reducible refine (K1.out _).mono ?_);go_loud (rintro e6 w6 ⟨rfl,hb6⟩);go_loud (replace C:=C.bel hb6);go_loud (replace B:=blkP B hb6);go_loud (clear hb6);go_loud (obtain ⟨p0,p1,p2,p3,p4,p5⟩:=gvL B);go_loud (have x2:=C.cell 2 _ rfl);go_loud (obtain ⟨q0,q0',q1,q1'⟩:=C.ret))
                | (go_at_call 18;go_loud (with_reducible refine (K2.out _).mono ?_);go_loud (rintro e7 w7 ⟨rfl,hb7⟩);go_loud (replace C:=C.bel hb7);go_loud (replace B:=blkP B hb7);go_loud (clear hb7);go_loud (obtain ⟨p0,p1,p2,p3,p4,p5⟩:=gvL B);go_loud (have x2:=C.cell 2 _ rfl);go_loud (obtain ⟨q0,q0',q1,q1'⟩:=C.ret))
                | (go_at_call 36;go_loud (with_reducible refine (K4.out _).mono ?_);go_loud (rintro e8 w8 ⟨rfl,hb8⟩);go_loud (replace C:=C.bel hb8);go_loud (replace B:=blkP B hb8);go_loud (clear hb8);go_loud (obtain ⟨p0,p1,p2,p3,p4,p5⟩:=gvL B);go_loud (have x2:=C.cell 2 _ rfl);go_loud (obtain ⟨q0,q0',q1,q1'⟩:=C.ret))
                | fail)
              refine bodyPost_ret (v:=.agg #[.int .i64 5,.int .i64 (3 + (i : Int))]) (by simp [results,Tryz.results13,go_sem,q0,q0',q1,q1']) rfl ?_
              rw [HX.out]
              exact C.post 5 (3 + (i : Int))
            | false=>
              rw [if_neg (by rintro (h | h | h | ⟨h,_⟩);exact h hck;exact h rfl;cases h;exact hi0 h)] at hP
              have HX:=Lib.hid hP
              clear hP hck
              go_wp2_with (first
                | (go_at_call 37;go_loud (with_reducible refine (K1.out _).mono ?_);go_loud (rintro e6 w6 ⟨rfl,hb6⟩);go_loud (replace C:=C.bel hb6);go_loud (replace B:=blkP B hb6);go_loud (clear hb6);go_loud (obtain ⟨p0,p1,p2,p3,p4,p5⟩:=gvL B);go_loud (have x2:=C.cell 2 _ rfl);go_loud (obtain ⟨q0,q0',q1,q1'⟩:=C.ret))
                | (go_at_call 18;go_loud (with_reducible refine (K2.out _).mono ?_);go_loud (rintro e7 w7 ⟨rfl,hb7⟩);go_loud (replace C:=C.bel hb7);go_loud (replace B:=blkP B hb7);go_loud (clear hb7);go_loud (obtain ⟨p0,p1,p2,p3,p4,p5⟩:=gvL B);go_loud (have x2:=C.cell 2 _ rfl);go_loud (obtain ⟨q0,q0',q1,q1'⟩:=C.ret))
                | (go_at_call 36;go_loud (with_reducible refine (K4.out _).mono ?_);go_loud (rintro e8 w8 ⟨rfl,hb8⟩);go_loud (replace C:=C.bel hb8);go_loud (replace B:=blkP B hb8);go_loud (clear hb8);go_loud (obtain ⟨p0,p1,p2,p3,p4,p5⟩:=gvL B);go_loud (have x2:=C.cell 2 _ rfl);go_loud (obtain ⟨q0,q0',q1,q1'⟩:=C.ret))
                | fail)
              exact ⟨⟨i + 1,by go_num,by omega,Lib.hid C,HX⟩,by simp [intOf];omega⟩
          · rw [if_pos (.inr (.inl hse))] at hP
            have HX : Hid (R = (5,3 + (i : Int))):=Lib.hid hP.symm
            have b1 : ((se : Int) == (s.first.se : Int)) = false:=by rw [beq_eq_false_iff_ne];omega
            have b1n : (se == s.first.se) = false:=by rw [beq_eq_false_iff_ne];exact hse
            clear hP hck
            go_wp2_with (first
              | (go_at_call 37;go_loud (with_reducible refine (K1.out _).mono ?_);go_loud (rintro e6 w6 ⟨rfl,hb6⟩);go_loud (replace C:=C.bel hb6);go_loud (replace B:=blkP B hb6);go_loud (clear hb6);go_loud (obtain ⟨p0,p1,p2,p3,p4,p5⟩:=gvL B);go_loud (have x2:=C.cell 2 _ rfl);go_loud (obtain ⟨q0,q0',q1,q1'⟩:=C.ret))
              | (go_at_call 18;go_loud (with_reducible refine (K2.out _).mono ?_);go_loud (rintro e7 w7 ⟨rfl,hb7⟩);go_loud (replace C:=C.bel hb7);go_loud (replace B:=blkP B hb7);go_loud (clear hb7);go_loud (obtain ⟨p0,p1,p2,p3,p4,p5⟩:=gvL B);go_loud (have x2:=C.cell 2 _ rfl);go_loud (obtain ⟨q0,q0',q1,q1'⟩:=C.ret))
              | (go_at_call 36;go_loud (with_reducible refine (K4.out _).mono ?_);go_loud (rintro e8 w8 ⟨rfl,hb8⟩);go_loud (replace C:=C.bel hb8);go_loud (replace B:=blkP B hb8);go_loud (clear hb8);go_loud (obtain ⟨p0,p1,p2,p3,p4,p5⟩:=gvL B);go_loud (have x2:=C.cell 2 _ rfl);go_loud (obtain ⟨q0,q0',q1,q1'⟩:=C.ret))
              | fail)
            refine bodyPost_ret (v:=.agg #[.int .i64 5,.int .i64 (3 + (i : Int))]) (by simp [results,Tryz.results13,go_sem,q0,q0',q1,q1']) rfl ?_
            rw [HX.out]
            exact C.post 5 (3 + (i : Int))
        · rw [if_pos (.inl hck)] at hP
          have HX : Hid (R = (5,3 + (i : Int))):=Lib.hid hP.symm
          have K2':=K2.out
          rw [show (!decide (ck = 0)) = true by simpa using hck] at K2'
          clear K2
          have K2:=Lib.hid K2'
          clear K2' hP hck
          go_wp2_with (first
            | (go_at_call 37;go_loud (with_reducible refine (K1.out _).mono ?_);go_loud (rintro e6 w6 ⟨rfl,hb6⟩);go_loud (replace C:=C.bel hb6);go_loud (replace B:=blkP B hb6);go_loud (clear hb6);go_loud (obtain ⟨p0,p1,p2,p3,p4,p5⟩:=gvL B);go_loud (have x2:=C.cell 2 _ rfl);go_loud (obtain ⟨q0,q0',q1,q1'⟩:=C.ret))
            | (go_at_call 18;go_loud (with_reducible refine (K2.out _).mono ?_);go_loud (rintro e7 w7 ⟨rfl,hb7⟩);go_loud (replace C:=C.bel hb7);go_loud (replace B:=blkP B hb7);go_loud (clear hb7);go_loud (obtain ⟨p0,p1,p2,p3,p4,p5⟩:=gvL B);go_loud (have x2:=C.cell 2 _ rfl);go_loud (obtain ⟨q0,q0',q1,q1'⟩:=C.ret))
            | (go_at_call 36;go_loud (with_reducible refine (K4.out _).mono ?_);go_loud (rintro e8 w8 ⟨rfl,hb8⟩);go_loud (replace C:=C.bel hb8);go_loud (replace B:=blkP B hb8);go_loud (clear hb8);go_loud (obtain ⟨p0,p1,p2,p3,p4,p5⟩:=gvL B);go_loud (have x2:=C.cell 2 _ rfl);go_loud (obtain ⟨q0,q0',q1,q1'⟩:=C.ret))
            | fail)
          refine bodyPost_ret (v:=.agg #[.int .i64 5,.int .i64 (3 + (i : Int))]) (by simp [results,Tryz.results13,go_sem,q0,q0',q1,q1']) rfl ?_
          rw [HX.out]
          exact C.post 5 (3 + (i : Int))
    · have hP:=HP.out
      rw [List.drop_of_length_le (by rw [← HN.out];omega),soundF] at hP
      have HX : Hid (R = (0,0)):=Lib.hid hP.symm
      have m1 : ¬ (i : Int) < (n : Int):=by omega
      have C:=HC.out
      obtain ⟨q0,q0',q1,q1'⟩:=C.ret
      clear hP
      go_wp2_with fail
      refine bodyPost_ret (v:=.agg #[.int .i64 0,.int .i64 0]) (by simp [results,Tryz.results13,go_sem,q0,q0',q1,q1']) rfl ?_
      rw [HX.out]
      exact C.post 0 0
theorem ocheck_any (vn vs : Value) (s : OS) (w : World) (hT : TW w) (hrow : OsRow w vn vs s) (hok : smOS s) :
    Calls Tryz.prog 13 #[osV vn vs s] w (CheckPost (ocheckM s) w):=by
  unfold ocheckM osV
  cases ho : opensG s.first with
  | false=>rw [if_pos (.inl rfl)];exact ocheck_c1 vn vs s w hT hrow hok ho
  | true=>
    by_cases hn : s.first.nu = 0
    · rw [if_neg (by rintro (h | h);cases h;exact h hn)]
      by_cases hc : (checkM s.b).1 = 0
      · rw [if_neg (fun h=>h hc)]
        cases hp : preM (bl s.setup) (vorb 5) with
        | false=>rw [if_pos rfl];exact ocheck_c4 vn vs s w hT hrow hok ho hn hc hp
        | true=>rw [if_neg (by decide)];exact ocheck_c5 vn vs s w hT hrow hok ho hn hc hp
      · rw [if_pos hc];exact ocheck_c3 vn vs s w hT hrow hok ho hn hc
    · rw [if_pos (.inr hn)];exact ocheck_c2 vn vs s w hT hrow hok ho hn
end Go.Proofs.YtnbglcaeekppjaaGreatDoor

namespace Go.Proofs.YtnbglcaeekppjaaGreatDoor
open Go.RowKit
set_option linter.unusedVariables false
set_option linter.unusedSimpArgs false

/-- what Pages answers. -/
def OPagesPost (l : List PG) (f : Int × Int) (w : World) (e : Ending) (w' : World) : Prop:=
  Below w.heap.size w w' ∧ ∃ v,e = .returned (.tuple #[v,.agg #[.int .i64 f.1,.int .i64 f.2]]) ∧ w'.ownsRow w.heap.size 27 6 v l.length (gcells l)
theorem own_lit {X : World} {a n s : Nat} {cs : Array Value} {e : TypeId} (h : X.heap[a]? = some (.cells cs e (0,0))) (hs : cs.size = n * s) (hn : n ≤ 1000) : X.ownsRow a e s (.slice (some ⟨a,0,none⟩) n n) n cs.toList:=
  ⟨by simpa using hs,.inr ⟨a,n,cs,rfl,Nat.le_refl _,h,Nat.le_refl _,by unfold maxLen;omega,hs,by rw [List.take_of_length_le (by simp [hs])]⟩⟩
/-- a stream whose packets are not too great. -/
def bigO (s : OS) : Prop:=(printL true s.b).length ≤ 8000000 ∧ s.setup.size ≤ 8000000 ∧ s.b.ns.length ≤ 1000000
section
variable {P : Program} {ops : Array Oper} {o : Oper} {a : Act} {Q : Exit → Act → World → Prop} {K : Act → World → Prop} {E : Prop}
/-- 'append(v, l...)' of a row. -/
theorem step_row (hgd : o.guard = none) (s x : Operand) (t e : TypeId) (ho : o.op = .call { callee:=.builtin .append,args:=#[s,x],argTypes:=#[t,t] }) (ht : P.underlying t = some (.slice e))
    (z : Value) (size bytes : Nat) (hi : (P.info? e).map (fun i=>(i.zero,i.size,i.bytes)) = some (some z,size,bytes)) (hzs : z.cells.size = size) (hsz : 0 < size)
    (W : World) (B : Nat) (v : Value) (n : Nat) (cs : List Value) (hs : a.eval s = v) (hown : W.ownsRow B e size v n cs) (src : Addr) (m mc : Nat) (news : List Value) (hx : a.eval x = .slice (some src) m mc) (hnl : news.length = m * size)
    (hnw : ∀ j u,news[j]? = some u → W.cell? (src.add j) = some u) (h1 : ∀ u ∈ news,u.oneCell' = true) (hlen : n + m ≤ 70368744177664) (hby : (n + m) * bytes ≤ 140737488355328) (hB : B ≤ W.heap.size)
    (h : ∀ v' w',w'.ownsRow B e size v' (n + m) (cs ++ news) → Below B W w' → K (a.put o.dst v') w') :
    if Region.wanted o (yielded ops a.tmps) = true then Oper.wp P o a W K Q else E:=by
  have hw : Region.wanted o (yielded ops a.tmps) = true:=by simp [Region.wanted,hgd]
  rw [if_pos hw]
  obtain ⟨i0,hi,hz0,hz1,hz2⟩:=info_parts hi
  obtain ⟨v',w',hrun,r1,r2,_⟩:=run_append_own (P:=P) W B t o.type e i0 z size bytes ht hi hz0 hz1 hz2 hzs hsz v n cs hown src m mc news hnl hnw h1 (by unfold maxLen;omega) hby hB
  unfold Oper.wp
  simp [execOp,ho,resolve,invoke,builtin,hs,hx,hrun,Result.andThen]
  exact h v' w' r1 (orow_below hown r2 hB)
end
theorem renum_snoc : ∀ (l : List PG) (n : Nat) (p : PG),renumL n (l ++ [p]) = renumL n l ++ [{ p with nu:=(n + l.length) % 4294967296 }]
  | [],n,p=>rfl
  | q :: r,n,p=>by
    rw [List.cons_append,renumL,renumL,renum_snoc r (n + 1) p,List.cons_append,List.length_cons,show n + 1 + r.length = n + (r.length + 1) by omega]
theorem CS.at {w wr w' : World} {cs : Array Value} {B : Nat} (h : CS w cs wr) (hb : Below B wr w') (hB : w.heap.size + 2 ≤ B) : CS w cs w':=
  ⟨h.gg.trans (hb.mono (by omega)),(hb.block _ (by omega)).trans h.bx,(hb.block _ (by omega)).trans h.rt⟩
theorem pagesO_pos (s : OS) : 0 < (midO s).length:=by
  have h:=laces_ne s
  have hl : 0 < (lacesO s).length:=List.length_pos_iff.2 h
  unfold midO
  obtain ⟨f,hf⟩ : ∃ f,(lacesO s).length = f + 1:=⟨(lacesO s).length - 1,by omega⟩
  rw [hf,pagesO,if_neg h]
  simp
def pkA (s : OS) : ByteArray:=toB (vorb 3 ++ printL true s.b)
theorem pks_mid (s : OS) : pagesO s.first.se (lacesB [pkA s,s.setup]).length 1 (lacesB [pkA s,s.setup]) ([pkA s,s.setup].map bl).flatten false = midO s:=by
  have h1 : lacesB [pkA s,s.setup] = lacesO s:=by
    unfold lacesB lacesO pktsO pkA
    simp only [List.flatMap_cons,List.flatMap_nil,szB,bl_length]
  have h2 : ([pkA s,s.setup].map bl).flatten = (pktsO s).flatten:=by
    unfold pktsO pkA
    simp only [List.map_cons,List.map_nil,bl_toB]
  unfold midO
  rw [h1,h2]
set_option maxRecDepth 100000 in
set_option maxHeartbeats 16000000 in
theorem opages_bad (vn vs : Value) (s : OS) (w : World) (hT : TW w) (hrow : OsRow w vn vs s) (hok : smOS s) (hb : (ocheckM s).1 ≠ 0) :
    Calls Tryz.prog 11 #[.agg #[.int .u8 s.first.fl.toNat,.int .u64 s.first.po,.int .u32 s.first.se,.int .u32 s.first.nu,.string s.first.la,.string s.first.bo,.string s.b.vt,.int .i64 s.b.vs,vn,.string s.setup,vs]] w (OPagesPost [] (ocheckM s) w):=by
  obtain ⟨W,hW,C⟩:=cs_start w (osC vn vs s)
  have kc : ∀ w',Below w.heap.size w w' → Calls Tryz.prog 13 #[osV vn vs s] w' (CheckPost (ocheckM s) w'):=fun w' hb=>ocheck_any vn vs s w' (hT.bel hb) (hrow.keep hb) hok
  unfold osV at kc
  have kb:=fun w=>bad_any (ocheckM s).1 (ocheckM s).2 w
  rw [show (!decide ((ocheckM s).1 = 0)) = true by simpa using hb] at kb
  generalize ocheckM s = CC at *
  obtain ⟨cc,ca⟩:=CC
  unfold CheckPost at kc
  simp only at kc kb ⊢
  clear hrow hok hb hT
  have KC:=Lib.hid kc
  have KB:=Lib.hid kb
  clear kc kb
  obtain ⟨x0,x1,x2,x3,x4,x5,x6,x7,x8,x9,x10⟩ : _ ∧ _ ∧ _ ∧ _ ∧ _ ∧ _ ∧ _ ∧ _ ∧ _ ∧ _ ∧ _:=⟨C.cell 0 _ rfl,C.cell 1 _ rfl,C.cell 2 _ rfl,C.cell 3 _ rfl,C.cell 4 _ rfl,C.cell 5 _ rfl,C.cell 6 _ rfl,C.cell 7 _ rfl,C.cell 8 _ rfl,C.cell 9 _ rfl,C.cell 10 _ rfl⟩
  obtain ⟨q0,q0',q1,q1'⟩:=C.ret
  go_enter Tryz.func11,Tryz.ntmps11
  go_wp2_with fail
  rw [← hW]
  clear hW
  go_wp2_with (first
    | (go_at_call 13;go_loud (with_reducible refine (KC.out _ C.gg).mono ?_);go_loud (rintro e1 w1 ⟨rfl,hb1⟩);go_loud (have hz1:=hb1.size);go_loud (replace C:=(C.bel hb1).bel (bal (Below.refl _ _) (.cells #[.int .i64 cc,.int .i64 ca] 54)));go_loud (obtain ⟨j0,j0'⟩:=Live.fresh w1 #[.int .i64 cc,.int .i64 ca] 54 0 _ rfl);go_loud (obtain ⟨j1,j1'⟩:=Live.fresh w1 #[.int .i64 cc,.int .i64 ca] 54 1 _ rfl);go_loud (clear q0 q0' q1 q1' x0 x1 x2 x3 x4 x5 x6 x7 x8 x9 x10))
    | (go_at_call 18;go_loud (with_reducible refine (KB.out _).mono ?_);go_loud (rintro e2 w2 ⟨rfl,hb2⟩);go_loud (replace C:=C.bel hb2);go_loud (replace j0:=kc hb2 j0);go_loud (replace j1:=kc hb2 j1);go_loud (clear j0' j1');go_loud (clear hb2);go_loud (obtain ⟨x0,x1,x2,x3,x4,x5,x6,x7,x8,x9,x10⟩ : _ ∧ _ ∧ _ ∧ _ ∧ _ ∧ _ ∧ _ ∧ _ ∧ _ ∧ _ ∧ _:=⟨C.cell 0 _ rfl,C.cell 1 _ rfl,C.cell 2 _ rfl,C.cell 3 _ rfl,C.cell 4 _ rfl,C.cell 5 _ rfl,C.cell 6 _ rfl,C.cell 7 _ rfl,C.cell 8 _ rfl,C.cell 9 _ rfl,C.cell 10 _ rfl⟩);go_loud (obtain ⟨q0,q0',q1,q1'⟩:=C.ret))
    | fail)
  go_region
  all_goals
    go_wp2_with fail
    refine bodyPost_ret (v:=.tuple #[.slice none 0 0,.agg #[.int .i64 cc,.int .i64 ca]]) (by simp [results,Tryz.results11,go_sem,q0,q0',q1,q1']) rfl ?_
    refine ⟨?_,_,rfl,World.ownsRow_nil _ _ _ _⟩
    first
      | exact (C.gg.setCell (by simp) _).setCell (by simp) _
      | exact (((C.gg.setCell (by simp) _).setCell (by simp) _)).drew
      | exact (C.gg.drew.setCell (by simp) _).setCell (by simp) _
set_option maxRecDepth 100000 in
set_option maxHeartbeats 16000000 in
theorem opagesW_good (vn vs : Value) (s : OS) (w : World) (hT : TW w) (hrow : OsRow w vn vs s) (hok : smOS s) (ho : okO s) (hbig : bigO s) :
    Calls Tryz.prog 11 #[.agg #[.int .u8 s.first.fl.toNat,.int .u64 s.first.po,.int .u32 s.first.se,.int .u32 s.first.nu,.string s.first.la,.string s.first.bo,.string s.b.vt,.int .i64 s.b.vs,vn,.string s.setup,vs]] w (OPagesPost (opagesL s) (0,0) w):=by
  obtain ⟨av,cap,hvs,hcv⟩:=hrow.2
  obtain ⟨n,hn'⟩ : ∃ n,n = s.sound.length:=⟨_,rfl⟩
  rw [← hn'] at hvs
  have HN:=Lib.hid hn'
  have HCV:=Lib.hid hcv
  clear hn' hcv
  subst hvs
  obtain ⟨W,hW,C⟩:=cs_start w (osC vn (.slice av n cap) s)
  have kc : ∀ w',Below w.heap.size w w' → Calls Tryz.prog 13 #[osV vn (.slice av n cap) s] w' (CheckPost (ocheckM s) w'):=fun w' hb=>ocheck_any vn (.slice av n cap) s w' (hT.bel hb) (hrow.keep hb) hok
  unfold osV at kc
  obtain ⟨og,oc,_,_,_,ol⟩:=ho
  obtain ⟨p1,p2,p3,p4,p5⟩:=ocheck_parts oc
  rw [oc] at kc
  unfold CheckPost at kc
  have kb:=fun w=>bad_any 0 0 w
  rw [show (!decide ((0 : Int) = 0)) = false from rfl] at kb
  have kp : ∀ w',Below w.heap.size w w' → Calls Tryz.prog 31 #[.agg #[.string s.b.vt,.int .i64 s.b.vs,vn],.bool true] w' fun e w''=>e = .returned (.tuple #[.string (toB (printL true s.b)),.agg #[.int .i64 0,.int .i64 0]]) ∧ Below w'.heap.size w' w'':=fun w' hb=>by
    have:=cprint_good vn s.b true w' (hT.bel hb) (hrow.1.keep hb) hok.1 p3 (by have:=hbig.1;omega) hbig.2.2
    unfold PrintPost at this
    rw [if_pos p3,check_pair p3] at this
    exact this
  have hle : (toB (printL true s.b)).size ≤ 8000000:=by rw [szB];exact hbig.1
  generalize hPL : toB (printL true s.b) = PL at *
  have kj : ∀ (X : World) (a : Nat),X.heap[a]? = some (.cells #[.string ⟨#[3,118,111,114,98,105,115]⟩,.string PL] 9 (0,0)) → Calls Tryz.prog 30 #[.slice (some ⟨a,0,none⟩) 2 2] X fun e w''=>e = .returned (.string (pkA s)) ∧ Below X.heap.size X w'':=fun X a h=>by
    have h1:=own_lit (n:=2) (s:=1) h rfl (by decide)
    have:=ojoin_any a _ [⟨#[3,118,111,114,98,105,115]⟩,PL] X h1 (by simp) (by show 2 ≤ _;decide) (by
      simp only [List.map_cons,List.map_nil,List.flatten_cons,List.flatten_nil,List.append_nil,List.length_append,bl_length]
      have : (⟨#[3,118,111,114,98,105,115]⟩ : ByteArray).size = 7:=rfl
      omega)
    have hx : (⟨(([⟨#[3,118,111,114,98,105,115]⟩,PL].map bl).flatten).toArray⟩ : ByteArray) = pkA s:=by
      rw [← hPL]
      unfold pkA
      simp only [List.map_cons,List.map_nil,List.flatten_cons,List.flatten_nil,List.append_nil,bl_toB]
      rfl
    rw [hx] at this
    exact this
  have kpp : ∀ (X : World) (a : Nat),X.heap[a]? = some (.cells #[.string (pkA s),.string s.setup] 9 (0,0)) → Calls Tryz.prog 32 #[.agg #[.int .u8 0,.int .u64 0,.int .u32 s.first.se,.int .u32 1],.slice (some ⟨a,0,none⟩) 2 2] X (PPost (midO s) X):=fun X a h=>by
    have h1:=own_lit (n:=2) (s:=1) h rfl (by decide)
    have hpk : (pkA s).size ≤ 8000007:=by
      unfold pkA
      rw [szB,List.length_append,vorb_len]
      have:=hbig.1
      omega
    have:=ppages_any s.first.se 1 [pkA s,s.setup] a _ X h1 (by simp) (by show 2 ≤ _;decide) (fun t ht=>by
      simp only [List.mem_cons,List.not_mem_nil,or_false] at ht
      rcases ht with rfl | rfl
      · omega
      · have:=hbig.2.1;omega) og.1.2.2.2.1 (by decide)
    rw [pks_mid] at this
    exact this
  clear p1 p2 p3 p4 p5 oc
  have KC:=Lib.hid kc
  have KB:=Lib.hid kb
  have KP:=Lib.hid kp
  have KJ:=Lib.hid kj
  have KPP:=Lib.hid kpp
  clear kc kb kp kj kpp
  obtain ⟨x0,x1,x2,x3,x4,x5,x6,x7,x8,x9,x10⟩ : _ ∧ _ ∧ _ ∧ _ ∧ _ ∧ _ ∧ _ ∧ _ ∧ _ ∧ _ ∧ _:=⟨C.cell 0 _ rfl,C.cell 1 _ rfl,C.cell 2 _ rfl,C.cell 3 _ rfl,C.cell 4 _ rfl,C.cell 5 _ rfl,C.cell 6 _ rfl,C.cell 7 _ rfl,C.cell 8 _ rfl,C.cell 9 _ rfl,C.cell 10 _ rfl⟩
  obtain ⟨q0,q0',q1,q1'⟩:=C.ret
  go_enter Tryz.func11,Tryz.ntmps11
  go_wp2_with fail
  rw [← hW]
  clear hW
  go_wp2_with (first
    | (go_at_call 13;go_loud (with_reducible refine (KC.out _ C.gg).mono ?_);go_loud (rintro e1 w1 ⟨rfl,hb1⟩);go_loud (have hz1:=hb1.size);go_loud (replace C:=(C.bel hb1).bel (bal (Below.refl _ _) (.cells #[.int .i64 0,.int .i64 0] 54)));go_loud (obtain ⟨j0,j0'⟩:=Live.fresh w1 #[.int .i64 0,.int .i64 0] 54 0 _ rfl);go_loud (obtain ⟨j1,j1'⟩:=Live.fresh w1 #[.int .i64 0,.int .i64 0] 54 1 _ rfl);go_loud (clear q0 q0' q1 q1' x0 x1 x2 x3 x4 x5 x6 x7 x8 x9 x10))
    | (go_at_call 18;go_loud (with_reducible refine (KB.out _).mono ?_);go_loud (rintro e2 w2 ⟨rfl,hb2⟩);go_loud (replace C:=C.bel hb2);go_loud (clear j0 j0' j1 j1');go_loud (clear hb2);go_loud (obtain ⟨x0,x1,x2,x3,x4,x5,x6,x7,x8,x9,x10⟩ : _ ∧ _ ∧ _ ∧ _ ∧ _ ∧ _ ∧ _ ∧ _ ∧ _ ∧ _ ∧ _:=⟨C.cell 0 _ rfl,C.cell 1 _ rfl,C.cell 2 _ rfl,C.cell 3 _ rfl,C.cell 4 _ rfl,C.cell 5 _ rfl,C.cell 6 _ rfl,C.cell 7 _ rfl,C.cell 8 _ rfl,C.cell 9 _ rfl,C.cell 10 _ rfl⟩);go_loud (obtain ⟨q0,q0',q1,q1'⟩:=C.ret))
    | (go_at_call 31;go_loud (with_reducible refine (KP.out _ C.gg).mono ?_);go_loud (rintro e3 w3 ⟨rfl,hb3⟩);go_loud (have hz3:=hb3.size);go_loud (replace C:=(C.bel hb3).bel (bal (Below.refl _ _) (.cells #[.int .i64 0,.int .i64 0] 54)));go_loud (obtain ⟨j0,j0'⟩:=Live.fresh w3 #[.int .i64 0,.int .i64 0] 54 0 _ rfl);go_loud (obtain ⟨j1,j1'⟩:=Live.fresh w3 #[.int .i64 0,.int .i64 0] 54 1 _ rfl);go_loud (clear hb3 q0 q0' q1 q1' x0 x1 x2 x3 x4 x5 x6 x7 x8 x9 x10))
    | fail)
  obtain ⟨W8,hW8⟩ : ∃ W8,W8 = w2.alloc (.cells #[.int .u8 0,.int .u64 0,.int .u32 s.first.se,.int .u32 1] 25):=⟨_,rfl⟩
  have C8:=C.bel (bal (Below.refl w2.heap.size w2) (.cells #[.int .u8 0,.int .u64 0,.int .u32 s.first.se,.int .u32 1] 25))
  rw [← hW8] at C8 ⊢
  have hh : W8.heap[w2.heap.size]? = some (.cells #[.int .u8 0,.int .u64 0,.int .u32 s.first.se,.int .u32 1] 25 (0,0)):=by rw [hW8];exact heap_alloc_new _ _
  have KSA : Hid (∀ wz,Below W8.heap.size W8 wz → wz.cell? ⟨w.heap.size,0,none⟩ = some (.int .u8 s.first.fl.toNat) ∧ wz.cell? ⟨w.heap.size,1,none⟩ = some (.int .u64 s.first.po) ∧ wz.cell? ⟨w.heap.size,2,none⟩ = some (.int .u32 s.first.se) ∧ wz.cell? ⟨w.heap.size,3,none⟩ = some (.int .u32 s.first.nu) ∧ wz.cell? ⟨w.heap.size,4,none⟩ = some (.string s.first.la) ∧ wz.cell? ⟨w.heap.size,5,none⟩ = some (.string s.first.bo) ∧ wz.cell? ⟨w.heap.size,9,none⟩ = some (.string s.setup) ∧ wz.cell? ⟨w2.heap.size,0,none⟩ = some (.int .u8 0) ∧ wz.cell? ⟨w2.heap.size,1,none⟩ = some (.int .u64 0) ∧ wz.cell? ⟨w2.heap.size,2,none⟩ = some (.int .u32 s.first.se) ∧ wz.cell? ⟨w2.heap.size,3,none⟩ = some (.int .u32 1)):=Lib.hid fun wz hb=>⟨(C8.bel hb).cell 0 _ rfl,(C8.bel hb).cell 1 _ rfl,(C8.bel hb).cell 2 _ rfl,(C8.bel hb).cell 3 _ rfl,(C8.bel hb).cell 4 _ rfl,(C8.bel hb).cell 5 _ rfl,(C8.bel hb).cell 9 _ rfl,kc hb (live_of hh 0 _ rfl).1,kc hb (live_of hh 1 _ rfl).1,kc hb (live_of hh 2 _ rfl).1,kc hb (live_of hh 3 _ rfl).1⟩
  have HC8:=Lib.hid C8
  clear hW8 hh C C8 x0 x1 x2 x3 x4 x5 x6 x7 x8 x9 x10 q0 q0' q1 q1'
  have hml : (midO s).length ≠ 0:=by
    have:=(pagesO_pos s)
    omega
  have hlo : (midO s).length ≤ 1048576:=by
    unfold opagesL at ol
    simp only [List.cons_append,List.length_cons,List.length_append] at ol
    omega
  have HML:=Lib.hid hml
  have HMA : Hid (1 + (midO s).length ≤ 70368744177664):=Lib.hid (by omega)
  have HMB : Hid ((1 + (midO s).length) * 56 ≤ 140737488355328):=Lib.hid (by omega)
  have HGC : Hid (#[.int .u8 s.first.fl.toNat,.int .u64 s.first.po,.int .u32 s.first.se,.int .u32 s.first.nu,.string s.first.la,.string s.first.bo].toList ++ gcells (midO s) = gcells (s.first :: midO s)):=Lib.hid rfl
  have HOL:=Lib.hid ol
  clear hml hlo ol
  go_cut [8] from 32 (fun v8 wx=>∃ (u8 : Value),v8 = u8 ∧ Below W8.heap.size W8 wx ∧ wx.ownsRow W8.heap.size 27 6 u8 (1 + (midO s).length) (gcells (s.first :: midO s)))
  case first=>
    refine wp_region_held_drew (S:=fun w'=>w'.cell? ⟨w.heap.size,0,none⟩ = some (.int .u8 s.first.fl.toNat) ∧ w'.cell? ⟨w.heap.size,1,none⟩ = some (.int .u64 s.first.po) ∧ w'.cell? ⟨w.heap.size,2,none⟩ = some (.int .u32 s.first.se) ∧ w'.cell? ⟨w.heap.size,3,none⟩ = some (.int .u32 s.first.nu) ∧ w'.cell? ⟨w.heap.size,4,none⟩ = some (.string s.first.la) ∧ w'.cell? ⟨w.heap.size,5,none⟩ = some (.string s.first.bo) ∧ w'.cell? ⟨w.heap.size,9,none⟩ = some (.string s.setup) ∧ w'.cell? ⟨w2.heap.size,0,none⟩ = some (.int .u8 0) ∧ w'.cell? ⟨w2.heap.size,1,none⟩ = some (.int .u64 0) ∧ w'.cell? ⟨w2.heap.size,2,none⟩ = some (.int .u32 s.first.se) ∧ w'.cell? ⟨w2.heap.size,3,none⟩ = some (.int .u32 1)) (by kernel_rfl) (KSA.out _ (Below.refl _ _).drew) (fun hHeld=>?_)
    have hbk : Below W8.heap.size W8 W8.drew:=(Below.refl _ _).drew
    generalize W8.drew = Wd at *
    (try simp only [Act.put,List.getElem_toArray,List.getElem_cons_zero,List.getElem_cons_succ,List.setIfInBounds_toArray,List.set_cons_zero,List.set_cons_succ])
    refine wpAnyH_take (i:=0) (v:=?_) rfl (by kernel_rfl) (by kernel_rfl) (by kernel_rfl) (fun _ _ _ h=>h) (Or.inl ⟨by rfl,?_⟩) (by assumption) ?_
    rotate_left 1
    · (intro w hSw;(try dsimp only at hSw);go_simp;(try with_reducible rfl))
    (try simp only [Act.put,List.getElem_toArray,List.getElem_cons_zero,List.getElem_cons_succ,List.setIfInBounds_toArray,List.set_cons_zero,List.set_cons_succ])
    refine wpAnyH_take (i:=1) (v:=?_) rfl (by kernel_rfl) (by kernel_rfl) (by kernel_rfl) (fun _ _ _ h=>h) (Or.inl ⟨by rfl,?_⟩) (by assumption) ?_
    rotate_left 1
    · (intro w hSw;(try dsimp only at hSw);go_simp;(try with_reducible rfl))
    (try simp only [Act.put,List.getElem_toArray,List.getElem_cons_zero,List.getElem_cons_succ,List.setIfInBounds_toArray,List.set_cons_zero,List.set_cons_succ])
    refine wpAnyH_take (i:=3) (v:=?_) rfl (by kernel_rfl) (by kernel_rfl) (by kernel_rfl) (fun _ _ _ h=>h) (Or.inl ⟨by rfl,?_⟩) (by assumption) ?_
    rotate_left 1
    · (intro w hSw;(try dsimp only at hSw);go_simp;(try with_reducible rfl))
    (try simp only [Act.put,List.getElem_toArray,List.getElem_cons_zero,List.getElem_cons_succ,List.setIfInBounds_toArray,List.set_cons_zero,List.set_cons_succ])
    refine wpAnyH_take (i:=4) (v:=?_) rfl (by kernel_rfl) (by kernel_rfl) (by kernel_rfl) (fun _ _ _ h=>h) (Or.inl ⟨by rfl,?_⟩) (by assumption) ?_
    rotate_left 1
    · (intro w hSw;(try dsimp only at hSw);go_simp;(try with_reducible rfl))
    (try simp only [Act.put,List.getElem_toArray,List.getElem_cons_zero,List.getElem_cons_succ,List.setIfInBounds_toArray,List.set_cons_zero,List.set_cons_succ])
    refine wpAnyH_take (i:=7) (v:=?_) rfl (by kernel_rfl) (by kernel_rfl) (by kernel_rfl) (fun _ _ _ h=>h) (Or.inl ⟨by rfl,?_⟩) (by assumption) ?_
    rotate_left 1
    · (intro w hSw;(try dsimp only at hSw);go_simp;(try with_reducible rfl))
    (try simp only [Act.put,List.getElem_toArray,List.getElem_cons_zero,List.getElem_cons_succ,List.setIfInBounds_toArray,List.set_cons_zero,List.set_cons_succ])
    refine wpAnyH_take (i:=8) (v:=?_) rfl (by kernel_rfl) (by kernel_rfl) (by kernel_rfl) (fun _ _ _ h=>h) (Or.inl ⟨by rfl,?_⟩) (by assumption) ?_
    rotate_left 1
    · (intro w hSw;(try dsimp only at hSw);go_simp;(try with_reducible rfl))
    (try simp only [Act.put,List.getElem_toArray,List.getElem_cons_zero,List.getElem_cons_succ,List.setIfInBounds_toArray,List.set_cons_zero,List.set_cons_succ])
    refine wpAnyH_ready (rs:=[2,5]) (by kernel_rfl) (by simp) ?_
    refine AllReadyH.cons rfl (fun K hK=>?_) (AllReadyH.cons rfl (fun K hK=>?_) AllReadyH.nil)
    · go_simp
      refine hK.out _ _ (KSA.out _ (bal hbk _)) (fun hHeld=>?_)
      clear hK K
      have hst:=bal (Below.refl Wd.heap.size Wd) (.cells #[.int .u8 s.first.fl.toNat,.int .u64 s.first.po,.int .u32 s.first.se,.int .u32 s.first.nu,.string s.first.la,.string s.first.bo] 27)
      have L2:=heap_alloc_new Wd (.cells #[.int .u8 s.first.fl.toNat,.int .u64 s.first.po,.int .u32 s.first.se,.int .u32 s.first.nu,.string s.first.la,.string s.first.bo] 27)
      have hz2:=hbk.size
      replace hbk:=bt hbk hst
      generalize Wd.alloc (.cells #[.int .u8 s.first.fl.toNat,.int .u64 s.first.po,.int .u32 s.first.se,.int .u32 s.first.nu,.string s.first.la,.string s.first.bo] 27) = wn1 at *
      clear hst
      (try simp only [Act.put,List.getElem_toArray,List.getElem_cons_zero,List.getElem_cons_succ,List.setIfInBounds_toArray,List.set_cons_zero,List.set_cons_succ])
      refine wpAnyH_ready (rs:=[5]) (by kernel_rfl) (by simp) ?_
      refine AllReadyH.cons rfl (fun K hK=>?_) AllReadyH.nil
      go_simp
      refine hK.out _ _ (KSA.out _ (bal hbk _)) (fun hHeld=>?_)
      clear hK K
      have hst:=bal (Below.refl wn1.heap.size wn1) (.cells #[.string ⟨#[3,118,111,114,98,105,115]⟩,.string PL] 9)
      have L5:=heap_alloc_new wn1 (.cells #[.string ⟨#[3,118,111,114,98,105,115]⟩,.string PL] 9)
      replace L2:=blkP L2 hst
      have hz5:=hbk.size
      replace hbk:=bt hbk hst
      generalize wn1.alloc (.cells #[.string ⟨#[3,118,111,114,98,105,115]⟩,.string PL] 9) = wn2 at *
      clear hst
      (try simp only [Act.put,List.getElem_toArray,List.getElem_cons_zero,List.getElem_cons_succ,List.setIfInBounds_toArray,List.set_cons_zero,List.set_cons_succ])
      refine wpAnyH_ready (rs:=[6]) (by kernel_rfl) (by simp) ?_
      refine AllReadyH.cons rfl (fun K hK=>?_) AllReadyH.nil
      go_simp
      (go_at_call 30;go_loud (with_reducible refine (KJ.out _ _ L5).mono ?_);go_loud (rintro e5 wn3 ⟨rfl,hst⟩))
      refine hK.out _ _ (KSA.out _ (bt hbk hst)) (fun hHeld=>?_)
      clear hK K
      replace L2:=blkP L2 hst
      replace L5:=blkP L5 hst
      replace hbk:=bt hbk hst
      clear hst
      (try simp only [Act.put,List.getElem_toArray,List.getElem_cons_zero,List.getElem_cons_succ,List.setIfInBounds_toArray,List.set_cons_zero,List.set_cons_succ])
      refine wpAnyH_ready (rs:=[9]) (by kernel_rfl) (by simp) ?_
      refine AllReadyH.cons rfl (fun K hK=>?_) AllReadyH.nil
      go_simp
      refine hK.out _ _ (KSA.out _ (bal hbk _)) (fun hHeld=>?_)
      clear hK K
      have hst:=bal (Below.refl wn3.heap.size wn3) (.cells #[.string (pkA s),.string s.setup] 9)
      have L9:=heap_alloc_new wn3 (.cells #[.string (pkA s),.string s.setup] 9)
      replace L2:=blkP L2 hst
      replace L5:=blkP L5 hst
      have hz9:=hbk.size
      replace hbk:=bt hbk hst
      generalize wn3.alloc (.cells #[.string (pkA s),.string s.setup] 9) = wn4 at *
      clear hst
      (try simp only [Act.put,List.getElem_toArray,List.getElem_cons_zero,List.getElem_cons_succ,List.setIfInBounds_toArray,List.set_cons_zero,List.set_cons_succ])
      refine wpAnyH_ready (rs:=[10]) (by kernel_rfl) (by simp) ?_
      refine AllReadyH.cons rfl (fun K hK=>?_) AllReadyH.nil
      go_simp
      (go_at_call 32;go_loud (with_reducible refine (KPP.out _ _ L9).mono ?_);go_loud (rintro e5 wn5 ⟨hst,v10,rfl,ho10⟩))
      refine hK.out _ _ (KSA.out _ (bt hbk hst)) (fun hHeld=>?_)
      clear hK K
      replace L2:=blkP L2 hst
      replace L5:=blkP L5 hst
      replace L9:=blkP L9 hst
      replace hbk:=bt hbk hst
      clear hst
      (try simp only [Act.put,List.getElem_toArray,List.getElem_cons_zero,List.getElem_cons_succ,List.setIfInBounds_toArray,List.set_cons_zero,List.set_cons_succ])
      refine wpAnyH_ready (rs:=[11]) (by kernel_rfl) (by simp) ?_
      refine AllReadyH.cons rfl (fun K hK=>?_) AllReadyH.nil
      obtain ⟨g10,c10,rfl,_⟩:=orow_some ho10 HML.out
      have hc10 : ∀ (j : Nat) (u : Value),(gcells (midO s))[j]? = some u → wn5.cell? ((⟨g10,0,none⟩ : Addr).add j) = some u:=fun j u hj=>by
        obtain ⟨a',c',h1,h2⟩:=row_owns ho10
        simp only [Value.slice.injEq] at h1
        obtain ⟨rfl,_,_⟩:=h1
        obtain ⟨g',o',e',hcc⟩:=h2 j u hj
        simp only [Option.some.injEq,Addr.mk.injEq,and_true] at e'
        obtain ⟨rfl,rfl⟩:=e'
        rw [addr_add]
        exact hcc
      have hA2 : Wd.heap.size ≤ wn5.heap.size:=Nat.le_of_lt (Array.getElem?_eq_some_iff.1 L2).1
      have HC10:=Lib.hid hc10
      clear hc10
      refine step_row rfl _ _ 34 27 rfl Tryz.underlying34 (.agg #[.int .u8 0,.int .u64 0,.int .u32 0,.int .u32 0,.string ⟨#[]⟩,.string ⟨#[]⟩]) 6 56 infoPage pageZero (by decide) wn5 (Wd.heap.size) (.slice (some ⟨Wd.heap.size,0,none⟩) 1 1) 1 #[.int .u8 s.first.fl.toNat,.int .u64 s.first.po,.int .u32 s.first.se,.int .u32 s.first.nu,.string s.first.la,.string s.first.bo].toList rfl (own_lit (n:=1) (s:=6) L2 rfl (by decide)) ⟨g10,0,none⟩ (midO s).length c10 (gcells (midO s)) rfl (gcells_length _) HC10.out (gcells_cell _) HMA.out HMB.out hA2 ?_
      intro v11 wn6 ho11 hb11
      have hst:=hbk.trans (hb11.mono hz2)
      refine hK.out _ _ (KSA.out _ hst) (fun hHeld=>?_)
      clear hK K
      replace ho11:=orow_mono ho11 hz2
      clear hbk hb11 ho10
      have hbk:=hst
      clear hst
      (try simp only [Act.put,List.getElem_toArray,List.getElem_cons_zero,List.getElem_cons_succ,List.setIfInBounds_toArray,List.set_cons_zero,List.set_cons_succ])
      refine wpAnyH_take (i:=12) (v:=?_) rfl (by kernel_rfl) (by kernel_rfl) (by kernel_rfl) (fun _ _ _ h=>h) (Or.inl ⟨by rfl,?_⟩) (by assumption) ?_
      rotate_left 1
      · (intro w hSw;(try dsimp only at hSw);go_simp;(try with_reducible rfl))
      (try simp only [Act.put,List.getElem_toArray,List.getElem_cons_zero,List.getElem_cons_succ,List.setIfInBounds_toArray,List.set_cons_zero,List.set_cons_succ])
      refine wpAnyH_done (by kernel_rfl) ?_ _
      go_wp2_with fail
      go_meet
      exact ⟨_,rfl,hbk,by rw [← HGC.out];exact ho11⟩
    · go_simp
      refine hK.out _ _ (KSA.out _ (bal hbk _)) (fun hHeld=>?_)
      clear hK K
      have hst:=bal (Below.refl Wd.heap.size Wd) (.cells #[.string ⟨#[3,118,111,114,98,105,115]⟩,.string PL] 9)
      have L5:=heap_alloc_new Wd (.cells #[.string ⟨#[3,118,111,114,98,105,115]⟩,.string PL] 9)
      have hz5:=hbk.size
      replace hbk:=bt hbk hst
      generalize Wd.alloc (.cells #[.string ⟨#[3,118,111,114,98,105,115]⟩,.string PL] 9) = wn7 at *
      clear hst
      (try simp only [Act.put,List.getElem_toArray,List.getElem_cons_zero,List.getElem_cons_succ,List.setIfInBounds_toArray,List.set_cons_zero,List.set_cons_succ])
      refine wpAnyH_ready (rs:=[2,6]) (by kernel_rfl) (by simp) ?_
      refine AllReadyH.cons rfl (fun K hK=>?_) (AllReadyH.cons rfl (fun K hK=>?_) AllReadyH.nil)
      · go_simp
        refine hK.out _ _ (KSA.out _ (bal hbk _)) (fun hHeld=>?_)
        clear hK K
        have hst:=bal (Below.refl wn7.heap.size wn7) (.cells #[.int .u8 s.first.fl.toNat,.int .u64 s.first.po,.int .u32 s.first.se,.int .u32 s.first.nu,.string s.first.la,.string s.first.bo] 27)
        have L2:=heap_alloc_new wn7 (.cells #[.int .u8 s.first.fl.toNat,.int .u64 s.first.po,.int .u32 s.first.se,.int .u32 s.first.nu,.string s.first.la,.string s.first.bo] 27)
        replace L5:=blkP L5 hst
        have hz2:=hbk.size
        replace hbk:=bt hbk hst
        generalize wn7.alloc (.cells #[.int .u8 s.first.fl.toNat,.int .u64 s.first.po,.int .u32 s.first.se,.int .u32 s.first.nu,.string s.first.la,.string s.first.bo] 27) = wn8 at *
        clear hst
        (try simp only [Act.put,List.getElem_toArray,List.getElem_cons_zero,List.getElem_cons_succ,List.setIfInBounds_toArray,List.set_cons_zero,List.set_cons_succ])
        refine wpAnyH_ready (rs:=[6]) (by kernel_rfl) (by simp) ?_
        refine AllReadyH.cons rfl (fun K hK=>?_) AllReadyH.nil
        go_simp
        (go_at_call 30;go_loud (with_reducible refine (KJ.out _ _ L5).mono ?_);go_loud (rintro e5 wn9 ⟨rfl,hst⟩))
        refine hK.out _ _ (KSA.out _ (bt hbk hst)) (fun hHeld=>?_)
        clear hK K
        replace L5:=blkP L5 hst
        replace L2:=blkP L2 hst
        replace hbk:=bt hbk hst
        clear hst
        (try simp only [Act.put,List.getElem_toArray,List.getElem_cons_zero,List.getElem_cons_succ,List.setIfInBounds_toArray,List.set_cons_zero,List.set_cons_succ])
        refine wpAnyH_ready (rs:=[9]) (by kernel_rfl) (by simp) ?_
        refine AllReadyH.cons rfl (fun K hK=>?_) AllReadyH.nil
        go_simp
        refine hK.out _ _ (KSA.out _ (bal hbk _)) (fun hHeld=>?_)
        clear hK K
        have hst:=bal (Below.refl wn9.heap.size wn9) (.cells #[.string (pkA s),.string s.setup] 9)
        have L9:=heap_alloc_new wn9 (.cells #[.string (pkA s),.string s.setup] 9)
        replace L5:=blkP L5 hst
        replace L2:=blkP L2 hst
        have hz9:=hbk.size
        replace hbk:=bt hbk hst
        generalize wn9.alloc (.cells #[.string (pkA s),.string s.setup] 9) = wn10 at *
        clear hst
        (try simp only [Act.put,List.getElem_toArray,List.getElem_cons_zero,List.getElem_cons_succ,List.setIfInBounds_toArray,List.set_cons_zero,List.set_cons_succ])
        refine wpAnyH_ready (rs:=[10]) (by kernel_rfl) (by simp) ?_
        refine AllReadyH.cons rfl (fun K hK=>?_) AllReadyH.nil
        go_simp
        (go_at_call 32;go_loud (with_reducible refine (KPP.out _ _ L9).mono ?_);go_loud (rintro e5 wn11 ⟨hst,v10,rfl,ho10⟩))
        refine hK.out _ _ (KSA.out _ (bt hbk hst)) (fun hHeld=>?_)
        clear hK K
        replace L5:=blkP L5 hst
        replace L2:=blkP L2 hst
        replace L9:=blkP L9 hst
        replace hbk:=bt hbk hst
        clear hst
        (try simp only [Act.put,List.getElem_toArray,List.getElem_cons_zero,List.getElem_cons_succ,List.setIfInBounds_toArray,List.set_cons_zero,List.set_cons_succ])
        refine wpAnyH_ready (rs:=[11]) (by kernel_rfl) (by simp) ?_
        refine AllReadyH.cons rfl (fun K hK=>?_) AllReadyH.nil
        obtain ⟨g10,c10,rfl,_⟩:=orow_some ho10 HML.out
        have hc10 : ∀ (j : Nat) (u : Value),(gcells (midO s))[j]? = some u → wn11.cell? ((⟨g10,0,none⟩ : Addr).add j) = some u:=fun j u hj=>by
          obtain ⟨a',c',h1,h2⟩:=row_owns ho10
          simp only [Value.slice.injEq] at h1
          obtain ⟨rfl,_,_⟩:=h1
          obtain ⟨g',o',e',hcc⟩:=h2 j u hj
          simp only [Option.some.injEq,Addr.mk.injEq,and_true] at e'
          obtain ⟨rfl,rfl⟩:=e'
          rw [addr_add]
          exact hcc
        have hA2 : wn7.heap.size ≤ wn11.heap.size:=Nat.le_of_lt (Array.getElem?_eq_some_iff.1 L2).1
        have HC10:=Lib.hid hc10
        clear hc10
        refine step_row rfl _ _ 34 27 rfl Tryz.underlying34 (.agg #[.int .u8 0,.int .u64 0,.int .u32 0,.int .u32 0,.string ⟨#[]⟩,.string ⟨#[]⟩]) 6 56 infoPage pageZero (by decide) wn11 (wn7.heap.size) (.slice (some ⟨wn7.heap.size,0,none⟩) 1 1) 1 #[.int .u8 s.first.fl.toNat,.int .u64 s.first.po,.int .u32 s.first.se,.int .u32 s.first.nu,.string s.first.la,.string s.first.bo].toList rfl (own_lit (n:=1) (s:=6) L2 rfl (by decide)) ⟨g10,0,none⟩ (midO s).length c10 (gcells (midO s)) rfl (gcells_length _) HC10.out (gcells_cell _) HMA.out HMB.out hA2 ?_
        intro v11 wn12 ho11 hb11
        have hst:=hbk.trans (hb11.mono hz2)
        refine hK.out _ _ (KSA.out _ hst) (fun hHeld=>?_)
        clear hK K
        replace ho11:=orow_mono ho11 hz2
        clear hbk hb11 ho10
        have hbk:=hst
        clear hst
        (try simp only [Act.put,List.getElem_toArray,List.getElem_cons_zero,List.getElem_cons_succ,List.setIfInBounds_toArray,List.set_cons_zero,List.set_cons_succ])
        refine wpAnyH_take (i:=12) (v:=?_) rfl (by kernel_rfl) (by kernel_rfl) (by kernel_rfl) (fun _ _ _ h=>h) (Or.inl ⟨by rfl,?_⟩) (by assumption) ?_
        rotate_left 1
        · (intro w hSw;(try dsimp only at hSw);go_simp;(try with_reducible rfl))
        (try simp only [Act.put,List.getElem_toArray,List.getElem_cons_zero,List.getElem_cons_succ,List.setIfInBounds_toArray,List.set_cons_zero,List.set_cons_succ])
        refine wpAnyH_done (by kernel_rfl) ?_ _
        go_wp2_with fail
        go_meet
        exact ⟨_,rfl,hbk,by rw [← HGC.out];exact ho11⟩
      · go_simp
        (go_at_call 30;go_loud (with_reducible refine (KJ.out _ _ L5).mono ?_);go_loud (rintro e5 wn13 ⟨rfl,hst⟩))
        refine hK.out _ _ (KSA.out _ (bt hbk hst)) (fun hHeld=>?_)
        clear hK K
        replace L5:=blkP L5 hst
        replace hbk:=bt hbk hst
        clear hst
        (try simp only [Act.put,List.getElem_toArray,List.getElem_cons_zero,List.getElem_cons_succ,List.setIfInBounds_toArray,List.set_cons_zero,List.set_cons_succ])
        refine wpAnyH_ready (rs:=[2,9]) (by kernel_rfl) (by simp) ?_
        refine AllReadyH.cons rfl (fun K hK=>?_) (AllReadyH.cons rfl (fun K hK=>?_) AllReadyH.nil)
        · go_simp
          refine hK.out _ _ (KSA.out _ (bal hbk _)) (fun hHeld=>?_)
          clear hK K
          have hst:=bal (Below.refl wn13.heap.size wn13) (.cells #[.int .u8 s.first.fl.toNat,.int .u64 s.first.po,.int .u32 s.first.se,.int .u32 s.first.nu,.string s.first.la,.string s.first.bo] 27)
          have L2:=heap_alloc_new wn13 (.cells #[.int .u8 s.first.fl.toNat,.int .u64 s.first.po,.int .u32 s.first.se,.int .u32 s.first.nu,.string s.first.la,.string s.first.bo] 27)
          replace L5:=blkP L5 hst
          have hz2:=hbk.size
          replace hbk:=bt hbk hst
          generalize wn13.alloc (.cells #[.int .u8 s.first.fl.toNat,.int .u64 s.first.po,.int .u32 s.first.se,.int .u32 s.first.nu,.string s.first.la,.string s.first.bo] 27) = wn14 at *
          clear hst
          (try simp only [Act.put,List.getElem_toArray,List.getElem_cons_zero,List.getElem_cons_succ,List.setIfInBounds_toArray,List.set_cons_zero,List.set_cons_succ])
          refine wpAnyH_ready (rs:=[9]) (by kernel_rfl) (by simp) ?_
          refine AllReadyH.cons rfl (fun K hK=>?_) AllReadyH.nil
          go_simp
          refine hK.out _ _ (KSA.out _ (bal hbk _)) (fun hHeld=>?_)
          clear hK K
          have hst:=bal (Below.refl wn14.heap.size wn14) (.cells #[.string (pkA s),.string s.setup] 9)
          have L9:=heap_alloc_new wn14 (.cells #[.string (pkA s),.string s.setup] 9)
          replace L5:=blkP L5 hst
          replace L2:=blkP L2 hst
          have hz9:=hbk.size
          replace hbk:=bt hbk hst
          generalize wn14.alloc (.cells #[.string (pkA s),.string s.setup] 9) = wn15 at *
          clear hst
          (try simp only [Act.put,List.getElem_toArray,List.getElem_cons_zero,List.getElem_cons_succ,List.setIfInBounds_toArray,List.set_cons_zero,List.set_cons_succ])
          refine wpAnyH_ready (rs:=[10]) (by kernel_rfl) (by simp) ?_
          refine AllReadyH.cons rfl (fun K hK=>?_) AllReadyH.nil
          go_simp
          (go_at_call 32;go_loud (with_reducible refine (KPP.out _ _ L9).mono ?_);go_loud (rintro e5 wn16 ⟨hst,v10,rfl,ho10⟩))
          refine hK.out _ _ (KSA.out _ (bt hbk hst)) (fun hHeld=>?_)
          clear hK K
          replace L5:=blkP L5 hst
          replace L2:=blkP L2 hst
          replace L9:=blkP L9 hst
          replace hbk:=bt hbk hst
          clear hst
          (try simp only [Act.put,List.getElem_toArray,List.getElem_cons_zero,List.getElem_cons_succ,List.setIfInBounds_toArray,List.set_cons_zero,List.set_cons_succ])
          refine wpAnyH_ready (rs:=[11]) (by kernel_rfl) (by simp) ?_
          refine AllReadyH.cons rfl (fun K hK=>?_) AllReadyH.nil
          obtain ⟨g10,c10,rfl,_⟩:=orow_some ho10 HML.out
          have hc10 : ∀ (j : Nat) (u : Value),(gcells (midO s))[j]? = some u → wn16.cell? ((⟨g10,0,none⟩ : Addr).add j) = some u:=fun j u hj=>by
            obtain ⟨a',c',h1,h2⟩:=row_owns ho10
            simp only [Value.slice.injEq] at h1
            obtain ⟨rfl,_,_⟩:=h1
            obtain ⟨g',o',e',hcc⟩:=h2 j u hj
            simp only [Option.some.injEq,Addr.mk.injEq,and_true] at e'
            obtain ⟨rfl,rfl⟩:=e'
            rw [addr_add]
            exact hcc
          have hA2 : wn13.heap.size ≤ wn16.heap.size:=Nat.le_of_lt (Array.getElem?_eq_some_iff.1 L2).1
          have HC10:=Lib.hid hc10
          clear hc10
          refine step_row rfl _ _ 34 27 rfl Tryz.underlying34 (.agg #[.int .u8 0,.int .u64 0,.int .u32 0,.int .u32 0,.string ⟨#[]⟩,.string ⟨#[]⟩]) 6 56 infoPage pageZero (by decide) wn16 (wn13.heap.size) (.slice (some ⟨wn13.heap.size,0,none⟩) 1 1) 1 #[.int .u8 s.first.fl.toNat,.int .u64 s.first.po,.int .u32 s.first.se,.int .u32 s.first.nu,.string s.first.la,.string s.first.bo].toList rfl (own_lit (n:=1) (s:=6) L2 rfl (by decide)) ⟨g10,0,none⟩ (midO s).length c10 (gcells (midO s)) rfl (gcells_length _) HC10.out (gcells_cell _) HMA.out HMB.out hA2 ?_
          intro v11 wn17 ho11 hb11
          have hst:=hbk.trans (hb11.mono hz2)
          refine hK.out _ _ (KSA.out _ hst) (fun hHeld=>?_)
          clear hK K
          replace ho11:=orow_mono ho11 hz2
          clear hbk hb11 ho10
          have hbk:=hst
          clear hst
          (try simp only [Act.put,List.getElem_toArray,List.getElem_cons_zero,List.getElem_cons_succ,List.setIfInBounds_toArray,List.set_cons_zero,List.set_cons_succ])
          refine wpAnyH_take (i:=12) (v:=?_) rfl (by kernel_rfl) (by kernel_rfl) (by kernel_rfl) (fun _ _ _ h=>h) (Or.inl ⟨by rfl,?_⟩) (by assumption) ?_
          rotate_left 1
          · (intro w hSw;(try dsimp only at hSw);go_simp;(try with_reducible rfl))
          (try simp only [Act.put,List.getElem_toArray,List.getElem_cons_zero,List.getElem_cons_succ,List.setIfInBounds_toArray,List.set_cons_zero,List.set_cons_succ])
          refine wpAnyH_done (by kernel_rfl) ?_ _
          go_wp2_with fail
          go_meet
          exact ⟨_,rfl,hbk,by rw [← HGC.out];exact ho11⟩
        · go_simp
          refine hK.out _ _ (KSA.out _ (bal hbk _)) (fun hHeld=>?_)
          clear hK K
          have hst:=bal (Below.refl wn13.heap.size wn13) (.cells #[.string (pkA s),.string s.setup] 9)
          have L9:=heap_alloc_new wn13 (.cells #[.string (pkA s),.string s.setup] 9)
          replace L5:=blkP L5 hst
          have hz9:=hbk.size
          replace hbk:=bt hbk hst
          generalize wn13.alloc (.cells #[.string (pkA s),.string s.setup] 9) = wn18 at *
          clear hst
          (try simp only [Act.put,List.getElem_toArray,List.getElem_cons_zero,List.getElem_cons_succ,List.setIfInBounds_toArray,List.set_cons_zero,List.set_cons_succ])
          refine wpAnyH_ready (rs:=[2,10]) (by kernel_rfl) (by simp) ?_
          refine AllReadyH.cons rfl (fun K hK=>?_) (AllReadyH.cons rfl (fun K hK=>?_) AllReadyH.nil)
          · go_simp
            refine hK.out _ _ (KSA.out _ (bal hbk _)) (fun hHeld=>?_)
            clear hK K
            have hst:=bal (Below.refl wn18.heap.size wn18) (.cells #[.int .u8 s.first.fl.toNat,.int .u64 s.first.po,.int .u32 s.first.se,.int .u32 s.first.nu,.string s.first.la,.string s.first.bo] 27)
            have L2:=heap_alloc_new wn18 (.cells #[.int .u8 s.first.fl.toNat,.int .u64 s.first.po,.int .u32 s.first.se,.int .u32 s.first.nu,.string s.first.la,.string s.first.bo] 27)
            replace L5:=blkP L5 hst
            replace L9:=blkP L9 hst
            have hz2:=hbk.size
            replace hbk:=bt hbk hst
            generalize wn18.alloc (.cells #[.int .u8 s.first.fl.toNat,.int .u64 s.first.po,.int .u32 s.first.se,.int .u32 s.first.nu,.string s.first.la,.string s.first.bo] 27) = wn19 at *
            clear hst
            (try simp only [Act.put,List.getElem_toArray,List.getElem_cons_zero,List.getElem_cons_succ,List.setIfInBounds_toArray,List.set_cons_zero,List.set_cons_succ])
            refine wpAnyH_ready (rs:=[10]) (by kernel_rfl) (by simp) ?_
            refine AllReadyH.cons rfl (fun K hK=>?_) AllReadyH.nil
            go_simp
            (go_at_call 32;go_loud (with_reducible refine (KPP.out _ _ L9).mono ?_);go_loud (rintro e5 wn20 ⟨hst,v10,rfl,ho10⟩))
            refine hK.out _ _ (KSA.out _ (bt hbk hst)) (fun hHeld=>?_)
            clear hK K
            replace L5:=blkP L5 hst
            replace L9:=blkP L9 hst
            replace L2:=blkP L2 hst
            replace hbk:=bt hbk hst
            clear hst
            (try simp only [Act.put,List.getElem_toArray,List.getElem_cons_zero,List.getElem_cons_succ,List.setIfInBounds_toArray,List.set_cons_zero,List.set_cons_succ])
            refine wpAnyH_ready (rs:=[11]) (by kernel_rfl) (by simp) ?_
            refine AllReadyH.cons rfl (fun K hK=>?_) AllReadyH.nil
            obtain ⟨g10,c10,rfl,_⟩:=orow_some ho10 HML.out
            have hc10 : ∀ (j : Nat) (u : Value),(gcells (midO s))[j]? = some u → wn20.cell? ((⟨g10,0,none⟩ : Addr).add j) = some u:=fun j u hj=>by
              obtain ⟨a',c',h1,h2⟩:=row_owns ho10
              simp only [Value.slice.injEq] at h1
              obtain ⟨rfl,_,_⟩:=h1
              obtain ⟨g',o',e',hcc⟩:=h2 j u hj
              simp only [Option.some.injEq,Addr.mk.injEq,and_true] at e'
              obtain ⟨rfl,rfl⟩:=e'
              rw [addr_add]
              exact hcc
            have hA2 : wn18.heap.size ≤ wn20.heap.size:=Nat.le_of_lt (Array.getElem?_eq_some_iff.1 L2).1
            have HC10:=Lib.hid hc10
            clear hc10
            refine step_row rfl _ _ 34 27 rfl Tryz.underlying34 (.agg #[.int .u8 0,.int .u64 0,.int .u32 0,.int .u32 0,.string ⟨#[]⟩,.string ⟨#[]⟩]) 6 56 infoPage pageZero (by decide) wn20 (wn18.heap.size) (.slice (some ⟨wn18.heap.size,0,none⟩) 1 1) 1 #[.int .u8 s.first.fl.toNat,.int .u64 s.first.po,.int .u32 s.first.se,.int .u32 s.first.nu,.string s.first.la,.string s.first.bo].toList rfl (own_lit (n:=1) (s:=6) L2 rfl (by decide)) ⟨g10,0,none⟩ (midO s).length c10 (gcells (midO s)) rfl (gcells_length _) HC10.out (gcells_cell _) HMA.out HMB.out hA2 ?_
            intro v11 wn21 ho11 hb11
            have hst:=hbk.trans (hb11.mono hz2)
            refine hK.out _ _ (KSA.out _ hst) (fun hHeld=>?_)
            clear hK K
            replace ho11:=orow_mono ho11 hz2
            clear hbk hb11 ho10
            have hbk:=hst
            clear hst
            (try simp only [Act.put,List.getElem_toArray,List.getElem_cons_zero,List.getElem_cons_succ,List.setIfInBounds_toArray,List.set_cons_zero,List.set_cons_succ])
            refine wpAnyH_take (i:=12) (v:=?_) rfl (by kernel_rfl) (by kernel_rfl) (by kernel_rfl) (fun _ _ _ h=>h) (Or.inl ⟨by rfl,?_⟩) (by assumption) ?_
            rotate_left 1
            · (intro w hSw;(try dsimp only at hSw);go_simp;(try with_reducible rfl))
            (try simp only [Act.put,List.getElem_toArray,List.getElem_cons_zero,List.getElem_cons_succ,List.setIfInBounds_toArray,List.set_cons_zero,List.set_cons_succ])
            refine wpAnyH_done (by kernel_rfl) ?_ _
            go_wp2_with fail
            go_meet
            exact ⟨_,rfl,hbk,by rw [← HGC.out];exact ho11⟩
          · go_simp
            (go_at_call 32;go_loud (with_reducible refine (KPP.out _ _ L9).mono ?_);go_loud (rintro e5 wn22 ⟨hst,v10,rfl,ho10⟩))
            refine hK.out _ _ (KSA.out _ (bt hbk hst)) (fun hHeld=>?_)
            clear hK K
            replace L5:=blkP L5 hst
            replace L9:=blkP L9 hst
            replace hbk:=bt hbk hst
            clear hst
            (try simp only [Act.put,List.getElem_toArray,List.getElem_cons_zero,List.getElem_cons_succ,List.setIfInBounds_toArray,List.set_cons_zero,List.set_cons_succ])
            refine wpAnyH_ready (rs:=[2]) (by kernel_rfl) (by simp) ?_
            refine AllReadyH.cons rfl (fun K hK=>?_) AllReadyH.nil
            go_simp
            refine hK.out _ _ (KSA.out _ (bal hbk _)) (fun hHeld=>?_)
            clear hK K
            have hst:=bal (Below.refl wn22.heap.size wn22) (.cells #[.int .u8 s.first.fl.toNat,.int .u64 s.first.po,.int .u32 s.first.se,.int .u32 s.first.nu,.string s.first.la,.string s.first.bo] 27)
            have L2:=heap_alloc_new wn22 (.cells #[.int .u8 s.first.fl.toNat,.int .u64 s.first.po,.int .u32 s.first.se,.int .u32 s.first.nu,.string s.first.la,.string s.first.bo] 27)
            replace L5:=blkP L5 hst
            replace L9:=blkP L9 hst
            replace ho10:=orow_bel ho10 hst
            have hz2:=hbk.size
            replace hbk:=bt hbk hst
            generalize wn22.alloc (.cells #[.int .u8 s.first.fl.toNat,.int .u64 s.first.po,.int .u32 s.first.se,.int .u32 s.first.nu,.string s.first.la,.string s.first.bo] 27) = wn23 at *
            clear hst
            (try simp only [Act.put,List.getElem_toArray,List.getElem_cons_zero,List.getElem_cons_succ,List.setIfInBounds_toArray,List.set_cons_zero,List.set_cons_succ])
            refine wpAnyH_ready (rs:=[11]) (by kernel_rfl) (by simp) ?_
            refine AllReadyH.cons rfl (fun K hK=>?_) AllReadyH.nil
            obtain ⟨g10,c10,rfl,_⟩:=orow_some ho10 HML.out
            have hc10 : ∀ (j : Nat) (u : Value),(gcells (midO s))[j]? = some u → wn23.cell? ((⟨g10,0,none⟩ : Addr).add j) = some u:=fun j u hj=>by
              obtain ⟨a',c',h1,h2⟩:=row_owns ho10
              simp only [Value.slice.injEq] at h1
              obtain ⟨rfl,_,_⟩:=h1
              obtain ⟨g',o',e',hcc⟩:=h2 j u hj
              simp only [Option.some.injEq,Addr.mk.injEq,and_true] at e'
              obtain ⟨rfl,rfl⟩:=e'
              rw [addr_add]
              exact hcc
            have hA2 : wn22.heap.size ≤ wn23.heap.size:=Nat.le_of_lt (Array.getElem?_eq_some_iff.1 L2).1
            have HC10:=Lib.hid hc10
            clear hc10
            refine step_row rfl _ _ 34 27 rfl Tryz.underlying34 (.agg #[.int .u8 0,.int .u64 0,.int .u32 0,.int .u32 0,.string ⟨#[]⟩,.string ⟨#[]⟩]) 6 56 infoPage pageZero (by decide) wn23 (wn22.heap.size) (.slice (some ⟨wn22.heap.size,0,none⟩) 1 1) 1 #[.int .u8 s.first.fl.toNat,.int .u64 s.first.po,.int .u32 s.first.se,.int .u32 s.first.nu,.string s.first.la,.string s.first.bo].toList rfl (own_lit (n:=1) (s:=6) L2 rfl (by decide)) ⟨g10,0,none⟩ (midO s).length c10 (gcells (midO s)) rfl (gcells_length _) HC10.out (gcells_cell _) HMA.out HMB.out hA2 ?_
            intro v11 wn24 ho11 hb11
            have hst:=hbk.trans (hb11.mono hz2)
            refine hK.out _ _ (KSA.out _ hst) (fun hHeld=>?_)
            clear hK K
            replace ho11:=orow_mono ho11 hz2
            clear hbk hb11 ho10
            have hbk:=hst
            clear hst
            (try simp only [Act.put,List.getElem_toArray,List.getElem_cons_zero,List.getElem_cons_succ,List.setIfInBounds_toArray,List.set_cons_zero,List.set_cons_succ])
            refine wpAnyH_take (i:=12) (v:=?_) rfl (by kernel_rfl) (by kernel_rfl) (by kernel_rfl) (fun _ _ _ h=>h) (Or.inl ⟨by rfl,?_⟩) (by assumption) ?_
            rotate_left 1
            · (intro w hSw;(try dsimp only at hSw);go_simp;(try with_reducible rfl))
            (try simp only [Act.put,List.getElem_toArray,List.getElem_cons_zero,List.getElem_cons_succ,List.setIfInBounds_toArray,List.set_cons_zero,List.set_cons_succ])
            refine wpAnyH_done (by kernel_rfl) ?_ _
            go_wp2_with fail
            go_meet
            exact ⟨_,rfl,hbk,by rw [← HGC.out];exact ho11⟩
  case rest=>
    obtain ⟨u8,rfl,hbx,ho8⟩:=hcut
    have C:=HC8.out.bel hbx
    obtain ⟨M8,hM8⟩ : ∃ M8,M8 = 1 + (midO s).length:=⟨_,rfl⟩
    have hsum : M8 + n ≤ 1048576:=by
      have ol:=HOL.out
      unfold opagesL at ol
      simp only [List.cons_append,List.length_cons,List.length_append,renum_len] at ol
      have:=HN.out
      omega
    rw [← hM8] at ho8
    have HRES : Hid (opagesL s = s.first :: midO s ++ renumL M8 s.sound):=Lib.hid (by rw [hM8];rfl)
    obtain ⟨av8,cv8,hu8⟩:=orow_form ho8
    subst hu8
    have hs1 : IntKind.i64.wrap ((M8 : Int) + (n : Int)) = (M8 : Int) + (n : Int):=wi64 _ (by omega) (by omega)
    have hs2 : ¬ (M8 : Int) + (n : Int) > 1048576:=by omega
    have x10:=C.cell 10 _ rfl
    obtain ⟨q0,q0',q1,q1'⟩:=C.ret
    have HC:=Lib.hid C
    have HO8:=Lib.hid ho8
    have HM8:=Lib.hid hM8
    have HW8 : Hid (w.heap.size + 2 ≤ W8.heap.size):=Lib.hid (Array.getElem?_eq_some_iff.1 HC8.out.rt).1
    have HBW : Hid (∀ (wz : World) {q : Nat} {v : Value} {cs : List Value},wz.ownsRow W8.heap.size 27 6 v q cs → q ≠ 0 → W8.heap.size ≤ wz.heap.size):=Lib.hid fun wz q v cs h hq=>by
      obtain ⟨g',c',rfl,_⟩:=orow_some h hq
      have:=orow_blk h g' rfl
      omega
    have hM80 : M8 ≠ 0:=by omega
    clear hM8 hbx C ho8
    go_wp2_with fail
    clear q0 q0' q1 q1' x10
    go_loopw [8,55] (fun lv iv wr=>∃ (i q : Nat),iv = .int .i64 (i : Int) ∧ i ≤ n ∧ Hid (q = M8 + i) ∧ Hid (CS w (osC vn (.slice av n cap) s) wr) ∧ Hid (wr.ownsRow W8.heap.size 27 6 lv q (gcells (s.first :: midO s ++ renumL M8 (s.sound.take i))))) (fun _ iv _=>n - (intOf iv).toNat)
    case atStart=>exact ⟨0,M8,rfl,Nat.zero_le _,Lib.hid rfl,HC,Lib.hid (by
      have h:=HO8.out
      rw [List.take_zero,show renumL M8 [] = [] from rfl,List.append_nil]
      exact h)⟩
    case round=>
      clear HC HO8
      obtain ⟨i,q,rfl,hi,HQ,HC,HO⟩:=hrel
      obtain ⟨av9,cv9,hu9⟩:=orow_form HO.out
      subst hu9
      have hq:=HQ.out
      have hq2 : q ≤ 1048576:=by omega
      by_cases hlt : i < n
      · obtain ⟨p,hp⟩:=at_some s.sound i (by rw [← HN.out];exact hlt)
        obtain ⟨gg,og,rfl,d0,d1,d2,d3,d4,d5⟩:=g_at HCV.out i p hp
        replace d0:=kc HC.out.gg d0
        replace d1:=kc HC.out.gg d1
        replace d2:=kc HC.out.gg d2
        replace d3:=kc HC.out.gg d3
        replace d4:=kc HC.out.gg d4
        replace d5:=kc HC.out.gg d5
        have hst : gcells (s.first :: midO s ++ renumL M8 (s.sound.take (i + 1))) = gcells (s.first :: midO s ++ renumL M8 (s.sound.take i)) ++ (#[.int .u8 p.fl.toNat,.int .u64 p.po,.int .u32 p.se,.int .u32 q,.string p.la,.string p.bo] : Array Value).toList:=by
          have h1 : i < s.sound.length:=by rw [← HN.out];exact hlt
          rw [List.take_add_one,hp,Option.toList_some,renum_snoc,← List.append_assoc,gcells_snoc]
          rw [List.length_take,show (M8 + min i s.sound.length) % 4294967296 = q by omega]
        obtain ⟨fl,po,se,nu,la,bo⟩:=p
        simp only at d0 d1 d2 d3 d4 d5 hst
        generalize (fl.toNat : Int) = f at *
        have hbA:=bal (Below.refl wr.heap.size wr) (.cells #[.int .u8 f,.int .u64 po,.int .u32 se,.int .u32 q,.string la,.string bo] 27)
        have hoA:=orow_bel HO.out hbA
        have hCA:=HC.out.bel hbA
        have hBA : W8.heap.size ≤ (wr.alloc (.cells #[.int .u8 f,.int .u64 po,.int .u32 se,.int .u32 q,.string la,.string bo] 27)).heap.size:=HBW.out _ hoA (by omega)
        have m0 : (0 : Int) ≤ (i : Int):=by omega
        have m1 : (i : Int) < (n : Int):=by omega
        have hw1 : IntKind.i64.wrap ((i : Int) + 1) = (i : Int) + 1:=wi64 _ (by omega) (by omega)
        have hu : IntKind.u32.wrap (q : Int) = (q : Int):=by rw [IntKind.wrap_u32];omega
        have z1 : q < 70368744177664:=by omega
        have z2 : (q + 1) * 56 ≤ 140737488355328:=by omega
        have HST:=Lib.hid hst
        have HCA:=Lib.hid hCA
        have HOA:=Lib.hid hoA
        have HBA:=Lib.hid hBA
        clear hp hst hq hbA hoA hCA hBA
        go_wp2_with (first
          | (at_builtin;go_loud (refine wpList_push1 rfl _ _ 34 27 rfl Tryz.underlying34 (.agg #[.int .u8 0,.int .u64 0,.int .u32 0,.int .u32 0,.string ⟨#[]⟩,.string ⟨#[]⟩]) 6 56 infoPage rfl (by decide) (wr.alloc (.cells #[.int .u8 f,.int .u64 po,.int .u32 se,.int .u32 q,.string la,.string bo] 27)) W8.heap.size (.slice av9 q cv9) q (gcells (s.first :: midO s ++ renumL M8 (s.sound.take i))) rfl HOA.out #[.int .u8 f,.int .u64 po,.int .u32 se,.int .u32 q,.string la,.string bo] rfl (by simp [Value.oneCell']) (by show Value.slice (some ⟨wr.heap.size + 1,0,none⟩) 1 1 = _;rw [World.size_alloc]) z1 z2 HBA.out ?_);go_loud (intro v6 w6 hown6 hb6 hk6);go_loud (rw [← HST.out] at hown6))
          | fail)
        have hC6:=CS.at HCA.out hb6 HW8.out
        go_roundw
        case rel=>exact ⟨i + 1,q + 1,by go_num,by omega,Lib.hid (by have:=HQ.out;omega),Lib.hid hC6,Lib.hid hown6⟩
        case measure=>simp [intOf];omega
      · have hin : i = n:=by omega
        have ho:=HO.out
        rw [hin,List.take_of_length_le (by rw [← HN.out];exact Nat.le_refl _),← HRES.out] at ho
        have m1 : ¬ (i : Int) < (n : Int):=by omega
        have C:=HC.out
        obtain ⟨q0,q0',q1,q1'⟩:=C.ret
        have HOF:=Lib.hid ho
        have HQL : Hid (q = (opagesL s).length):=Lib.hid (by
          rw [HRES.out]
          simp only [List.cons_append,List.length_cons,List.length_append,renum_len]
          have h1:=HQ.out
          have h2:=HN.out
          have h3:=HM8.out
          omega)
        clear hin ho hq
        go_wp2_with fail
        refine bodyPost_ret (v:=.tuple #[.slice av9 q cv9,.agg #[.int .i64 0,.int .i64 0]]) (by simp [results,Tryz.results11,go_sem,q0,q0',q1,q1']) rfl ?_
        refine ⟨(C.gg.setCell (by simp) _).setCell (by simp) _,_,rfl,?_⟩
        have hr:=HOF.out
        rw [HQL.out] at hr
        have h8:=HW8.out
        rw [HQL.out]
        refine orow_mono (orow_other hr fun j hj=>?_) (by omega)
        have:=(orow_blk hr j hj).1
        rw [Below.heap_setCell _ _ _ j (by simp;omega),Below.heap_setCell _ _ _ j (by simp;omega)]
end Go.Proofs.YtnbglcaeekppjaaGreatDoor

namespace Go.Proofs.YtnbglcaeekppjaaGreatDoor
open Go.RowKit
set_option linter.unusedVariables false
set_option linter.unusedSimpArgs false

def OPrintPost (t : ByteArray) (f : Int × Int) (w : World) (e : Ending) (w' : World) : Prop:=e = .returned (.tuple #[.string t,.agg #[.int .i64 f.1,.int .i64 f.2]]) ∧ Below w.heap.size w w'
def partsG (l : List PG) : List ByteArray:=l.map fun p=>toB (gprintL crcN p)
theorem partsG_flat (l : List PG) : ((partsG l).map bl).flatten = l.flatMap (gprintL crcN):=by
  unfold partsG
  rw [List.map_map,List.flatMap_def]
  congr 1 <;> (apply List.map_congr_left;intro a _;exact bl_toB _)
theorem gG_len {p : PG} (h : gG p) : p.bo.size ≤ 65025:=by
  obtain ⟨h1,h2,_⟩:=h
  have h3:=totL_le (bl p.la)
  rw [bl_length] at h3
  omega
theorem flat_pages : ∀ l : List PG,(∀ p ∈ l,gG p) → (l.flatMap (gprintL crcN)).length ≤ l.length * 65307
  | [],_=>Nat.zero_le _
  | p :: r,h=>by
    have h1:=flat_pages r (fun q hq=>h q (by simp [hq]))
    have h2:=gG_len (h p (by simp))
    have h3:=(h p (by simp)).1
    rw [List.flatMap_cons,List.length_append,gprint_len,List.length_cons,Nat.add_mul]
    omega
set_option maxRecDepth 100000 in
set_option maxHeartbeats 16000000 in
theorem oprint_bad (vn vs : Value) (s : OS) (w : World) (hT : TW w) (hrow : OsRow w vn vs s) (hok : smOS s) (hb : (ocheckM s).1 ≠ 0) :
    Calls Tryz.prog 10 #[.agg #[.int .u8 s.first.fl.toNat,.int .u64 s.first.po,.int .u32 s.first.se,.int .u32 s.first.nu,.string s.first.la,.string s.first.bo,.string s.b.vt,.int .i64 s.b.vs,vn,.string s.setup,vs]] w (OPrintPost ⟨#[]⟩ (ocheckM s) w):=by
  obtain ⟨W,hW,C⟩:=cs_start w (osC vn vs s)
  have kpg : ∀ w',Below w.heap.size w w' → Calls Tryz.prog 11 #[osV vn vs s] w' (OPagesPost [] (ocheckM s) w'):=fun w' hb'=>opages_bad vn vs s w' (hT.bel hb') (hrow.keep hb') hok hb
  unfold osV OPagesPost at kpg
  have kb:=fun w=>bad_any (ocheckM s).1 (ocheckM s).2 w
  rw [show (!decide ((ocheckM s).1 = 0)) = true by simpa using hb] at kb
  generalize ocheckM s = CC at *
  obtain ⟨cc,ca⟩:=CC
  simp only [List.length_nil] at kpg kb ⊢
  clear hrow hok hb hT
  have KPG:=Lib.hid kpg
  have KB:=Lib.hid kb
  clear kpg kb
  obtain ⟨x0,x1,x2,x3,x4,x5,x6,x7,x8,x9,x10⟩ : _ ∧ _ ∧ _ ∧ _ ∧ _ ∧ _ ∧ _ ∧ _ ∧ _ ∧ _ ∧ _:=⟨C.cell 0 _ rfl,C.cell 1 _ rfl,C.cell 2 _ rfl,C.cell 3 _ rfl,C.cell 4 _ rfl,C.cell 5 _ rfl,C.cell 6 _ rfl,C.cell 7 _ rfl,C.cell 8 _ rfl,C.cell 9 _ rfl,C.cell 10 _ rfl⟩
  obtain ⟨q0,q0',q1,q1'⟩:=C.ret
  go_enter Tryz.func10,Tryz.ntmps10
  go_wp2_with fail
  rw [← hW]
  clear hW
  go_wp2_with (first
    | (go_at_call 11;go_loud (with_reducible refine (KPG.out _ C.gg).mono ?_);go_loud (rintro e1 w1 ⟨hb1,v1,rfl,ho1⟩);go_loud (obtain ⟨a1,c1,rfl⟩:=orow_form ho1);go_loud (replace C:=(C.bel hb1).bel (bal (Below.refl _ _) (.cells #[.int .i64 cc,.int .i64 ca] 54)));go_loud (replace ho1:=orow_bel ho1 (bal (Below.refl w1.heap.size w1) (.cells #[.int .i64 cc,.int .i64 ca] 54)));go_loud (obtain ⟨j0,j0'⟩:=Live.fresh w1 #[.int .i64 cc,.int .i64 ca] 54 0 _ rfl);go_loud (obtain ⟨j1,j1'⟩:=Live.fresh w1 #[.int .i64 cc,.int .i64 ca] 54 1 _ rfl);go_loud (clear q0 q0' q1 q1' x0 x1 x2 x3 x4 x5 x6 x7 x8 x9 x10 hb1))
    | (go_at_call 18;go_loud (with_reducible refine (KB.out _).mono ?_);go_loud (rintro e2 w2 ⟨rfl,hb2⟩);go_loud (replace C:=C.bel hb2);go_loud (replace j0:=kc hb2 j0);go_loud (replace j1:=kc hb2 j1);go_loud (clear j0' j1');go_loud (clear hb2);go_loud (obtain ⟨x0,x1,x2,x3,x4,x5,x6,x7,x8,x9,x10⟩ : _ ∧ _ ∧ _ ∧ _ ∧ _ ∧ _ ∧ _ ∧ _ ∧ _ ∧ _ ∧ _:=⟨C.cell 0 _ rfl,C.cell 1 _ rfl,C.cell 2 _ rfl,C.cell 3 _ rfl,C.cell 4 _ rfl,C.cell 5 _ rfl,C.cell 6 _ rfl,C.cell 7 _ rfl,C.cell 8 _ rfl,C.cell 9 _ rfl,C.cell 10 _ rfl⟩);go_loud (obtain ⟨q0,q0',q1,q1'⟩:=C.ret))
    | fail)
  go_region
  all_goals
    go_wp2_with fail
    refine bodyPost_ret (v:=.tuple #[.string ⟨#[]⟩,.agg #[.int .i64 cc,.int .i64 ca]]) (by simp [results,Tryz.results10,go_sem,q0,q0',q1,q1']) rfl ?_
    refine ⟨rfl,?_⟩
    first
      | exact (C.gg.setCell (by simp) _).setCell (by simp) _
      | exact (((C.gg.setCell (by simp) _).setCell (by simp) _)).drew
      | exact (C.gg.drew.setCell (by simp) _).setCell (by simp) _
set_option maxRecDepth 100000 in
set_option maxHeartbeats 16000000 in
theorem oprint_good (vn vs : Value) (s : OS) (w : World) (hT : TW w) (hrow : OsRow w vn vs s) (hok : smOS s) (ho : okO s) (hbig : bigO s) :
    Calls Tryz.prog 10 #[.agg #[.int .u8 s.first.fl.toNat,.int .u64 s.first.po,.int .u32 s.first.se,.int .u32 s.first.nu,.string s.first.la,.string s.first.bo,.string s.b.vt,.int .i64 s.b.vs,vn,.string s.setup,vs]] w (OPrintPost (toB (oprintL crcN s)) (0,0) w):=by
  obtain ⟨W,hW,C⟩:=cs_start w (osC vn vs s)
  have kpg : ∀ w',Below w.heap.size w w' → Calls Tryz.prog 11 #[osV vn vs s] w' (OPagesPost (opagesL s) (0,0) w'):=fun w' hb'=>opagesW_good vn vs s w' (hT.bel hb') (hrow.keep hb') hok ho hbig
  unfold osV OPagesPost at kpg
  simp only at kpg
  have hgood:=opages_good ho
  have hlen:=ho.2.2.2.2.2
  have hne : opagesL s ≠ []:=by unfold opagesL;simp
  unfold oprintL
  generalize opagesL s = l at *
  have kb:=fun w=>bad_any 0 0 w
  rw [show (!decide ((0 : Int) = 0)) = false from rfl] at kb
  have hfl:=flat_pages l hgood
  obtain ⟨n,hn'⟩ : ∃ n,n = l.length:=⟨_,rfl⟩
  have hnpos : 0 < n:=by have:=List.length_pos_iff.2 hne;omega
  rw [← hn'] at hlen hfl kpg
  have hpl : (partsG l).length = n:=by unfold partsG;rw [List.length_map,hn']
  have kj : ∀ (C : Nat) (u : Value) (w : World),w.ownsRow C 9 1 u n (scells (partsG l)) → Calls Tryz.prog 30 #[u] w fun e w'=>e = .returned (.string (toB (l.flatMap (gprintL crcN)))) ∧ Below w.heap.size w w':=by
    intro C u w h
    have:=ojoin_any C u (partsG l) w (by rw [hpl];exact h) (by intro e;rw [e] at hpl;simp at hpl;omega) (by rw [hpl];omega) (by rw [partsG_flat];omega)
    rw [partsG_flat] at this
    exact this
  have kg : ∀ (p : PG),gG p → ∀ w,Calls Tryz.prog 29 #[gV p] w fun e w'=>e = .returned (.tuple #[.string (toB (gprintL crcN p)),.agg #[.int .i64 0,.int .i64 0]]) ∧ Below w.heap.size w w':=fun p hp w=>gprint_any p w hp (by have:=gG_len hp;omega)
  obtain ⟨i0,hi,hz0,hz1,hz2⟩:=info_parts infoStr
  generalize toB (l.flatMap (gprintL crcN)) = OUT at *
  clear hrow hok hT ho hbig hfl hne
  have KPG:=Lib.hid kpg
  have KB:=Lib.hid kb
  have HGOOD:=Lib.hid hgood
  have HN:=Lib.hid hn'
  have KJ:=Lib.hid kj
  have KG:=Lib.hid kg
  have HPL:=Lib.hid hpl
  clear kpg kb hgood hn' kj kg hpl
  obtain ⟨x0,x1,x2,x3,x4,x5,x6,x7,x8,x9,x10⟩ : _ ∧ _ ∧ _ ∧ _ ∧ _ ∧ _ ∧ _ ∧ _ ∧ _ ∧ _ ∧ _:=⟨C.cell 0 _ rfl,C.cell 1 _ rfl,C.cell 2 _ rfl,C.cell 3 _ rfl,C.cell 4 _ rfl,C.cell 5 _ rfl,C.cell 6 _ rfl,C.cell 7 _ rfl,C.cell 8 _ rfl,C.cell 9 _ rfl,C.cell 10 _ rfl⟩
  obtain ⟨q0,q0',q1,q1'⟩:=C.ret
  go_enter Tryz.func10,Tryz.ntmps10
  go_wp2_with fail
  rw [← hW]
  clear hW
  go_upto_region 4 with (first
    | (go_at_call 11;go_loud (with_reducible refine (KPG.out _ C.gg).mono ?_);go_loud (rintro e1 w1 ⟨hb1,v1,rfl,ho1⟩);go_loud (obtain ⟨a1,c1,rfl⟩:=orow_form ho1);go_loud (replace C:=(C.bel hb1).bel (bal (Below.refl _ _) (.cells #[.int .i64 0,.int .i64 0] 54)));go_loud (replace ho1:=orow_bel ho1 (bal (Below.refl w1.heap.size w1) (.cells #[.int .i64 0,.int .i64 0] 54)));go_loud (obtain ⟨j0,j0'⟩:=Live.fresh w1 #[.int .i64 0,.int .i64 0] 54 0 _ rfl);go_loud (obtain ⟨j1,j1'⟩:=Live.fresh w1 #[.int .i64 0,.int .i64 0] 54 1 _ rfl);go_loud (clear q0 q0' q1 q1' x0 x1 x2 x3 x4 x5 x6 x7 x8 x9 x10 hb1))
    | (go_at_call 18;go_loud (with_reducible refine (KB.out _).mono ?_);go_loud (rintro e2 w2 ⟨rfl,hb2⟩);go_loud (replace C:=C.bel hb2);go_loud (replace ho1:=orow_bel ho1 hb2);go_loud (clear j0 j0' j1 j1');go_loud (clear hb2);go_loud (obtain ⟨x0,x1,x2,x3,x4,x5,x6,x7,x8,x9,x10⟩ : _ ∧ _ ∧ _ ∧ _ ∧ _ ∧ _ ∧ _ ∧ _ ∧ _ ∧ _ ∧ _:=⟨C.cell 0 _ rfl,C.cell 1 _ rfl,C.cell 2 _ rfl,C.cell 3 _ rfl,C.cell 4 _ rfl,C.cell 5 _ rfl,C.cell 6 _ rfl,C.cell 7 _ rfl,C.cell 8 _ rfl,C.cell 9 _ rfl,C.cell 10 _ rfl⟩);go_loud (obtain ⟨q0,q0',q1,q1'⟩:=C.ret))
    | fail)
  have hrow1:=row_g (row_owns ho1)
  have HC2:=Lib.hid C
  have HR1:=Lib.hid hrow1
  clear C ho1 hrow1 q0 q0' q1 q1' x0 x1 x2 x3 x4 x5 x6 x7 x8 x9 x10
  go_wp2_with (refine wpList_make_own _ rfl _ _ 82 rfl w2.heap.size 9 i0 (.string ⟨#[]⟩) 1 Tryz.underlying82 hi hz0 hz1 .i64 .i64 (n : Int) n rfl rfl rfl (by rw [hz2];omega) (by unfold maxLen;omega) (Nat.le_refl _) ?_;intro W4 hown4 hgrow4)
  have hb4 : Below w2.heap.size w2 W4:=(Below.refl _ _).grown hgrow4 (Nat.le_refl _) (fun k hk=>by cases hk)
  have HO4:=Lib.hid hown4
  have HB4:=Lib.hid hb4
  clear hown4 hgrow4 hb4 hi hz0 hz1 hz2
  go_loopw [6,24] (fun pv kv wr=>∃ k : Nat,kv = .int .i64 (k : Int) ∧ k ≤ n ∧ Hid (wr.ownsRow w2.heap.size 9 1 pv k (scells ((partsG l).take k))) ∧ Hid (Below w2.heap.size w2 wr)) (fun _ kv _=>n - (intOf kv).toNat)
  case atStart=>exact ⟨0,rfl,Nat.zero_le _,HO4,HB4⟩
  case round=>
    clear HO4 HB4
    obtain ⟨k,rfl,hk,HO,HBE⟩:=hrel
    by_cases hlt : k < n
    · obtain ⟨p,hp⟩:=at_some l k (by rw [← HN.out];exact hlt)
      obtain ⟨gg,og,rfl,d0,d1,d2,d3,d4,d5⟩:=g_at HR1.out k p hp
      replace d0:=kc HBE.out d0
      replace d1:=kc HBE.out d1
      replace d2:=kc HBE.out d2
      replace d3:=kc HBE.out d3
      replace d4:=kc HBE.out d4
      replace d5:=kc HBE.out d5
      have kg:=KG.out p (HGOOD.out p (List.mem_of_getElem? hp))
      unfold gV at kg
      have hlx : (partsG l)[k]? = some (toB (gprintL crcN p)):=by unfold partsG;rw [List.getElem?_map,hp];rfl
      have hstep : scells ((partsG l).take (k + 1)) = scells ((partsG l).take k) ++ (#[.string (toB (gprintL crcN p))] : Array Value).toList:=by
        rw [List.take_add_one,hlx,scells_append]
        rfl
      generalize toB (gprintL crcN p) = PT at *
      obtain ⟨fl,po,se,nu,la,bo⟩:=p
      simp only at d0 d1 d2 d3 d4 d5 kg
      generalize (fl.toNat : Int) = f at *
      have HST:=Lib.hid hstep
      have KG1:=Lib.hid kg
      have m0 : (0 : Int) ≤ (k : Int):=by omega
      have m1 : (k : Int) < (n : Int):=by omega
      have z1 : k < 70368744177664:=by omega
      have z2 : (k + 1) * 16 ≤ 140737488355328:=by omega
      clear hstep hlx hp kg
      go_wp2_with (first
        | (go_at_call 29;go_loud (with_reducible refine (KG1.out _).mono ?_);go_loud (rintro e5 w5 ⟨rfl,hb5⟩);go_loud (have hb6:=bal (bt (bal (Below.refl wr.heap.size wr) (.cells #[.int .u8 f,.int .u64 po,.int .u32 se,.int .u32 nu,.string la,.string bo] 27)) hb5) (.cells #[.int .i64 0,.int .i64 0] 54)))
        | (go_at_call 18;go_loud (with_reducible refine (KB.out _).mono ?_);go_loud (rintro e6 w6 ⟨rfl,hb7⟩);go_loud (have hb8:=bt hb6 hb7);go_loud (have ho8:=orow_bel HO.out hb8);go_loud (have hbe8:=bt HBE.out hb8))
        | (at_builtin;go_loud (refine wpList_push1 rfl _ _ 82 9 rfl Tryz.underlying82 (.string ⟨#[]⟩) 1 16 infoStr rfl (by decide) w6 w2.heap.size u6 k (scells ((partsG l).take k)) rfl ho8 #[.string PT] rfl (by simp [Value.oneCell']) rfl z1 z2 hbe8.size ?_);go_loud (intro v9 w9 hown9 hb9 hk9);go_loud (rw [← HST.out] at hown9))
        | fail)
      have HO9:=Lib.hid hown9
      have HB9:=Lib.hid (hbe8.trans hb9)
      go_roundw
      case rel=>exact ⟨k + 1,by go_num,by omega,HO9,HB9⟩
      case measure=>simp [intOf];omega
    · have hkn : k = n:=by omega
      have ho:=HO.out
      rw [hkn,List.take_of_length_le (by rw [HPL.out];exact Nat.le_refl _)] at ho
      have m1 : ¬ (k : Int) < (n : Int):=by omega
      have C:=HC2.out.bel HBE.out
      have HO9:=Lib.hid ho
      clear hkn ho
      go_wp2_with (first
        | (go_at_call 30;go_loud (with_reducible refine (KJ.out _ _ _ HO9.out).mono ?_);go_loud (rintro e7 w7 ⟨rfl,hb7⟩);go_loud (replace C:=C.bel hb7);go_loud (obtain ⟨q0,q0',q1,q1'⟩:=C.ret))
        | fail)
      refine bodyPost_ret (v:=.tuple #[.string OUT,.agg #[.int .i64 0,.int .i64 0]]) (by simp [results,Tryz.results10,go_sem,q0,q0',q1,q1']) rfl ?_
      exact ⟨rfl,(C.gg.setCell (by simp) _).setCell (by simp) _⟩
end Go.Proofs.YtnbglcaeekppjaaGreatDoor

namespace Go.Proofs.YtnbglcaeekppjaaGreatDoor
open Go.RowKit
set_option linter.unusedVariables false
set_option linter.unusedSimpArgs false

/-- a page as the document has it. -/
abbrev rgC (p : PG) : Array Value:=#[.int .i64 p.fl.toNat,.int .u64 p.po,.int .u64 p.se,.int .u64 p.nu,.string p.la,.string p.bo]
def rgcells (l : List PG) : List Value:=l.flatMap fun p=>(rgC p).toList
/-- numbers within their types. -/
def okG (p : PG) : Prop:=p.po < 18446744073709551616 ∧ p.se < 4294967296 ∧ p.nu < 4294967296
end Go.Proofs.YtnbglcaeekppjaaGreatDoor

