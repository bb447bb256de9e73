/- OggSums holds: the pages of what is printed have their numbers, their stream's and the bytes of their laces, and they are all of it. No condition. -/
import Derived.Deep.RegionHeld3
import Derived.Test.YtnbglcaeekppjaaGreatDoorMFr
import Derived.Test.YtnbglcaeekppjaaGreatDoorTie
import Derived.Test.YtnbglcaeekppjaaGreatDoorCards
import Derived.Test.YtnbglcaeekppjaaGreatDoorMKz
import Derived.Test.YtnbglcaeekppjaaGreatDoorKOggSums
import Derived.Test.YtnbglcaeekppjaaGreatDoorEg
import Derived.Test.YtnbglcaeekppjaaGreatDoorEd
import Derived.Test.YtnbglcaeekppjaaGreatDoorEc
import Derived.Test.YtnbglcaeekppjaaGreatDoorEb
import Derived.Test.YtnbglcaeekppjaaGreatDoorEa
import Derived.Test.YtnbglcaeekppjaaGreatDoorMGC
import Derived.Test.YtnbglcaeekppjaaGreatDoorMGA
import Derived.Test.YtnbglcaeekppjaaGreatDoorMFe
import Derived.Test.YtnbglcaeekppjaaGreatDoorMAy
import Derived.Test.YtnbglcaeekppjaaGreatDoorMGB
import Derived.Test.YtnbglcaeekppjaaGreatDoorMCy
import Derived.Test.YtnbglcaeekppjaaGreatDoorMOc
namespace Go.Proofs.YtnbglcaeekppjaaGreatDoor.oggSums
open Go.ChangeShapes Go.WideShapes Go.ChangeAt Go.RowKit Go.ChangeMaps
set_option linter.unusedVariables false
set_option linter.unusedSimpArgs false

theorem awake20in_any (w : World) (hT : TW w) : Calls Tryz.prog 7 #[] w fun e w'=>e = .returned (.bool true) ∧ Below w.heap.size w w':=by
  have KA:=Lib.hid awake20_any
  go_enter Tryz.func7,Tryz.ntmps7
  go_wp2_with (go_at_call 23;refine (KA.out _ hT).mono ?_;rintro e w1 ⟨rfl,hb1⟩)
  go_ret
  exact ⟨rfl,hb1⟩
set_option maxRecDepth 100000 in
set_option maxHeartbeats 8000000 in
theorem walk_dark (vn vs : Value) (s : OS) (w0 : okOS s) (w : World) (R0 : OsRow w vn vs s) (hT : TW w) (hl : lightO s = false) :
    Calls Tryz.prog 5 #[osV vn vs s] w fun e w'=>e = .returned (.bool true) ∧ Below w.heap.size w w':=by
  have KA:=Lib.hid awake20in_any
  have k1 : ∀ w',Below w.heap.size w w' → Calls Tryz.prog 6 #[osV vn vs s] w' fun e w''=>e = .returned (.bool false) ∧ Below w'.heap.size w' w'':=fun w' hb=>by
    have:=olight_any vn vs s w' (R0.keep hb) w0
    rw [hl] at this
    exact this
  obtain ⟨⟨an,cn,rfl,_⟩,⟨as_,cs_,rfl,_⟩⟩:=R0
  unfold osV at k1 ⊢
  have hb0:=bal (Below.refl w.heap.size w) (.cells #[.int .u8 s.first.fl.toNat,.int .u64 s.first.po,.int .u32 s.first.se,.int .u32 s.first.nu,.string s.first.la,.string s.first.bo,.string s.b.vt,.int .i64 s.b.vs,.slice an s.b.ns.length cn,.string s.setup,.slice as_ s.sound.length cs_] 36)
  have KS:=Lib.hid (heap_alloc_new w (.cells #[.int .u8 s.first.fl.toNat,.int .u64 s.first.po,.int .u32 s.first.se,.int .u32 s.first.nu,.string s.first.la,.string s.first.bo,.string s.b.vt,.int .i64 s.b.vs,.slice an s.b.ns.length cn,.string s.setup,.slice as_ s.sound.length cs_] 36))
  have K1:=Lib.hid k1
  have HB0:=Lib.hid hb0
  have HT:=Lib.hid hT
  clear k1 hb0 hT
  clear w0 hl
  go_enter Tryz.func5,Tryz.ntmps5
  go_wp2_with (first
    | (go_at_call 6;go_loud (with_reducible refine (K1.out _ HB0.out).mono ?_);go_loud (rintro e w1 ⟨rfl,hb1⟩);go_loud (have hx1:=bt HB0.out hb1))
    | (go_at_call 7;go_loud (with_reducible refine (KA.out _ (HT.out.bel hx1)).mono ?_);go_loud (rintro e w2 ⟨rfl,hb2⟩))
    | fail)
  go_ret
  exact ⟨rfl,bt hx1 hb2⟩
set_option maxRecDepth 100000 in
set_option maxHeartbeats 8000000 in
theorem walk_bad (vn vs : Value) (s : OS) (w0 : okOS s) (w : World) (R0 : OsRow w vn vs s) (hT : TW w) (hl : lightO s = true) (hok : smOS s) (hb : (ocheckM s).1 ≠ 0) :
    Calls Tryz.prog 5 #[osV vn vs s] w fun e w'=>e = .returned (.bool true) ∧ Below w.heap.size w w':=by
  have KA:=Lib.hid awake20in_any
  have k1 : ∀ w',Below w.heap.size w w' → Calls Tryz.prog 6 #[osV vn vs s] w' fun e w''=>e = .returned (.bool true) ∧ Below w'.heap.size w' w'':=fun w' hb=>by
    have:=olight_any vn vs s w' (R0.keep hb) w0
    rw [hl] at this
    exact this
  have kpr : ∀ w',Below w.heap.size w w' → Calls Tryz.prog 10 #[osV vn vs s] w' fun e w''=>e = .returned (.tuple #[.string ⟨#[]⟩,.agg #[.int .i64 (ocheckM s).1,.int .i64 (ocheckM s).2]]) ∧ Below w'.heap.size w' w'':=fun w' hb'=>oprint_bad vn vs s w' (hT.bel hb') (R0.keep hb') hok hb
  have kb:=fun w=>bad_any (ocheckM s).1 (ocheckM s).2 w
  rw [show (!decide ((ocheckM s).1 = 0)) = true by simpa using hb] at kb
  obtain ⟨⟨an,cn,rfl,_⟩,⟨as_,cs_,rfl,_⟩⟩:=R0
  unfold osV at k1 kpr ⊢
  generalize ocheckM s = CC at *
  obtain ⟨cc,ca⟩:=CC
  simp only at kpr kb
  have hb0:=bal (Below.refl w.heap.size w) (.cells #[.int .u8 s.first.fl.toNat,.int .u64 s.first.po,.int .u32 s.first.se,.int .u32 s.first.nu,.string s.first.la,.string s.first.bo,.string s.b.vt,.int .i64 s.b.vs,.slice an s.b.ns.length cn,.string s.setup,.slice as_ s.sound.length cs_] 36)
  have KS:=Lib.hid (heap_alloc_new w (.cells #[.int .u8 s.first.fl.toNat,.int .u64 s.first.po,.int .u32 s.first.se,.int .u32 s.first.nu,.string s.first.la,.string s.first.bo,.string s.b.vt,.int .i64 s.b.vs,.slice an s.b.ns.length cn,.string s.setup,.slice as_ s.sound.length cs_] 36))
  have K1:=Lib.hid k1
  have KPR:=Lib.hid kpr
  have KB:=Lib.hid kb
  have HB0:=Lib.hid hb0
  have HT:=Lib.hid hT
  clear k1 kpr kb hb0 hT
  clear w0 hl hok hb
  go_enter Tryz.func5,Tryz.ntmps5
  go_wp2_with (first
    | (go_at_call 6;go_loud (with_reducible refine (K1.out _ HB0.out).mono ?_);go_loud (rintro e w1 ⟨rfl,hb1⟩);go_loud (have hx1:=bt HB0.out hb1);go_loud (obtain ⟨s0,_⟩:=live_of (blkP KS.out hb1) 0 _ rfl);go_loud (obtain ⟨s1,_⟩:=live_of (blkP KS.out hb1) 1 _ rfl);go_loud (obtain ⟨s2,_⟩:=live_of (blkP KS.out hb1) 2 _ rfl);go_loud (obtain ⟨s3,_⟩:=live_of (blkP KS.out hb1) 3 _ rfl);go_loud (obtain ⟨s4,_⟩:=live_of (blkP KS.out hb1) 4 _ rfl);go_loud (obtain ⟨s5,_⟩:=live_of (blkP KS.out hb1) 5 _ rfl);go_loud (obtain ⟨s6,_⟩:=live_of (blkP KS.out hb1) 6 _ rfl);go_loud (obtain ⟨s7,_⟩:=live_of (blkP KS.out hb1) 7 _ rfl);go_loud (obtain ⟨s8,_⟩:=live_of (blkP KS.out hb1) 8 _ rfl);go_loud (obtain ⟨s9,_⟩:=live_of (blkP KS.out hb1) 9 _ rfl);go_loud (obtain ⟨s10,_⟩:=live_of (blkP KS.out hb1) 10 _ rfl))
    | (go_at_call 10;go_loud (with_reducible refine (KPR.out _ hx1).mono ?_);go_loud (rintro e w2 ⟨rfl,hb2⟩);go_loud (have hx2:=bal (bt hx1 hb2) (.cells #[.int .i64 cc,.int .i64 ca] 54)))
    | (go_at_call 18;go_loud (with_reducible refine (KB.out _).mono ?_);go_loud (rintro e w3 ⟨rfl,hb3⟩);go_loud (have hx3:=bt hx2 hb3))
    | (go_at_call 7;go_loud (with_reducible refine (KA.out _ (HT.out.bel hx3)).mono ?_);go_loud (rintro e w4 ⟨rfl,hb4⟩))
    | fail)
  go_ret
  exact ⟨rfl,bt hx3 hb4⟩
set_option maxRecDepth 100000 in
set_option maxHeartbeats 16000000 in
theorem walk_good (vn vs : Value) (s : OS) (w0 : okOS s) (w : World) (R0 : OsRow w vn vs s) (hT : TW w) (hl : lightO s = true) (hc : ocheckM s = (0,0)) :
    Calls Tryz.prog 5 #[osV vn vs s] w fun e w'=>e = .returned (.bool true) ∧ Below w.heap.size w w':=by
  have KA:=Lib.hid awake20in_any
  obtain ⟨G,hps⟩:=light_osm hl w0 hc
  have k1 : ∀ w',Below w.heap.size w w' → Calls Tryz.prog 6 #[osV vn vs s] w' fun e w''=>e = .returned (.bool true) ∧ Below w'.heap.size w' w'':=fun w' hb=>by
    have:=olight_any vn vs s w' (R0.keep hb) w0
    rw [hl] at this
    exact this
  have kpr : ∀ w',Below w.heap.size w w' → Calls Tryz.prog 10 #[osV vn vs s] w' fun e w''=>e = .returned (.tuple #[.string (toB (oprintL crcN s)),.agg #[.int .i64 0,.int .i64 0]]) ∧ Below w'.heap.size w' w'':=fun w' hb=>oprint_good vn vs s w' (hT.bel hb) (R0.keep hb) G.sm G.ok G.big
  obtain ⟨pl,hpm⟩:=pagesM_back G.ok
  have kpg : ∀ w',Calls Tryz.prog 20 #[.string (toB (oprintL crcN s))] w' fun e w''=>Below w'.heap.size w' w'' ∧ ∃ (a1 : Option Addr) (c1 : Nat) (a2 : Option Addr) (c2 : Nat),e = .returned (.tuple #[.slice a1 (opagesL s).length c1,.slice a2 (opagesL s).length c2,.agg #[.int .i64 0,.int .i64 0]]) ∧ Row w'' (.slice a1 (opagesL s).length c1) (opagesL s).length (gcells (opagesL s)):=fun w'=>by
    have:=gpages_any (toB (oprintL crcN s)) w' (by rw [szB];omega)
    rw [hpm] at this
    refine this.mono ?_
    rintro e w'' ⟨hb,v1,v2,he,h1,h2⟩
    obtain ⟨a1,c1,rfl⟩:=orow_form h1
    obtain ⟨a2,c2,rfl⟩:=orow_form h2
    exact ⟨hb,a1,c1,a2,c2,he,row_owns h1⟩
  have hat : ∀ (k : Nat) (p : PG),(opagesL s)[k]? = some p → gG p ∧ p.se = s.first.se ∧ p.nu = k:=opages_at G.ok
  have hsum : ((opagesL s).map gsz).sum = (toB (oprintL crcN s)).size:=by
    rw [szB]
    unfold oprintL
    rw [flat_gsz]
  have hszp : (toB (oprintL crcN s)).size ≤ 1048576:=by rw [szB];exact hps
  have hn2 : 2 ≤ (opagesL s).length:=by
    have:=pagesO_pos s
    unfold opagesL
    rw [List.length_append,List.length_cons]
    omega
  have hnl : (opagesL s).length ≤ 1048576:=G.ok.2.2.2.2.2
  generalize toB (oprintL crcN s) = PS at *
  generalize opagesL s = L at *
  obtain ⟨n,hn⟩ : ∃ n,n = L.length:=⟨_,rfl⟩
  rw [← hn] at kpg hn2 hnl
  obtain ⟨⟨an,cn,rfl,_⟩,⟨as_,cs_,rfl,_⟩⟩:=R0
  unfold osV at k1 kpr ⊢
  have kb : ∀ w,Calls Tryz.prog 18 #[.agg #[.int .i64 0,.int .i64 0]] w fun e w'=>e = .returned (.bool false) ∧ Below w.heap.size w w':=fun w=>bad_any 0 0 w
  have hlt2 : decide ((n : Int) < 2) = false:=decide_eq_false (by omega)
  have m0 : (0 : Int) ≤ (n : Int):=by omega
  have hb0:=bal (Below.refl w.heap.size w) (.cells #[.int .u8 s.first.fl.toNat,.int .u64 s.first.po,.int .u32 s.first.se,.int .u32 s.first.nu,.string s.first.la,.string s.first.bo,.string s.b.vt,.int .i64 s.b.vs,.slice an s.b.ns.length cn,.string s.setup,.slice as_ s.sound.length cs_] 36)
  have KS:=Lib.hid (heap_alloc_new w (.cells #[.int .u8 s.first.fl.toNat,.int .u64 s.first.po,.int .u32 s.first.se,.int .u32 s.first.nu,.string s.first.la,.string s.first.bo,.string s.b.vt,.int .i64 s.b.vs,.slice an s.b.ns.length cn,.string s.setup,.slice as_ s.sound.length cs_] 36))
  have K1:=Lib.hid k1
  have KPR:=Lib.hid kpr
  have KB:=Lib.hid kb
  have KPG:=Lib.hid kpg
  have HB0:=Lib.hid hb0
  have HT:=Lib.hid hT
  have HN:=Lib.hid hn
  have HAT:=Lib.hid hat
  have HSUM:=Lib.hid hsum
  clear k1 kpr kb kpg hb0 hT hn hat hsum
  clear w0 hl hc G hps hpm hn2
  go_enter Tryz.func5,Tryz.ntmps5
  go_wp2_with (first
    | (go_at_call 6;go_loud (with_reducible refine (K1.out _ HB0.out).mono ?_);go_loud (rintro e w1 ⟨rfl,hb1⟩);go_loud (have hx1:=bt HB0.out hb1);go_loud (obtain ⟨s0,_⟩:=live_of (blkP KS.out hb1) 0 _ rfl);go_loud (obtain ⟨s1,_⟩:=live_of (blkP KS.out hb1) 1 _ rfl);go_loud (obtain ⟨s2,_⟩:=live_of (blkP KS.out hb1) 2 _ rfl);go_loud (obtain ⟨s3,_⟩:=live_of (blkP KS.out hb1) 3 _ rfl);go_loud (obtain ⟨s4,_⟩:=live_of (blkP KS.out hb1) 4 _ rfl);go_loud (obtain ⟨s5,_⟩:=live_of (blkP KS.out hb1) 5 _ rfl);go_loud (obtain ⟨s6,_⟩:=live_of (blkP KS.out hb1) 6 _ rfl);go_loud (obtain ⟨s7,_⟩:=live_of (blkP KS.out hb1) 7 _ rfl);go_loud (obtain ⟨s8,_⟩:=live_of (blkP KS.out hb1) 8 _ rfl);go_loud (obtain ⟨s9,_⟩:=live_of (blkP KS.out hb1) 9 _ rfl);go_loud (obtain ⟨s10,_⟩:=live_of (blkP KS.out hb1) 10 _ rfl))
    | (go_at_call 10;go_loud (with_reducible refine (KPR.out _ hx1).mono ?_);go_loud (rintro e w2 ⟨rfl,hb2⟩);go_loud (have hx2:=bal (bt hx1 hb2) (.cells #[.int .i64 0,.int .i64 0] 54));go_loud (have hy2:=bal (bt hb1 hb2) (.cells #[.int .i64 0,.int .i64 0] 54)))
    | (go_at_call 18;go_loud (have hz:=hx4);go_loud (with_reducible refine (KB.out _).mono ?_);go_loud (rintro e w5 ⟨rfl,hb5⟩);go_loud (have hx5:=bt hx4 hb5);go_loud (have hw5:=bt hw4 hb5);go_loud (have hy5:=bt hy4 hb5);clear s0 s1 s2 s3 s4 s5 s6 s7 s8 s9 s10 hz)
    | (go_at_call 18;go_loud (with_reducible refine (KB.out _).mono ?_);go_loud (rintro e w3 ⟨rfl,hb3⟩);go_loud (have hx3:=bt hx2 hb3);go_loud (have hy3:=bt hy2 hb3))
    | (go_at_call 20;go_loud (with_reducible refine (KPG.out _).mono ?_);go_loud (rintro e w4 ⟨hb4,a1,c1,a2,c2,rfl,ho1⟩);go_loud (have hx4:=bal (bt hx3 hb4) (.cells #[.int .i64 0,.int .i64 0] 54));go_loud (have hy4:=bal (bt hy3 hb4) (.cells #[.int .i64 0,.int .i64 0] 54));go_loud (have hw4:=bal (Below.refl w4.heap.size w4) (.cells #[.int .i64 0,.int .i64 0] 54)))
    | fail)
  obtain ⟨av,cap,he,hc⟩:=ho1
  simp only [Value.slice.injEq] at he
  obtain ⟨rfl,_,rfl⟩:=he
  have HC:=Lib.hid hc
  have HX5:=Lib.hid hx5
  have HW5:=Lib.hid hw5
  have HY5:=Lib.hid hy5
  clear hc hx5 hw5 hy5 hx1 hx2 hx3 hx4 hw4 hy2 hy3 hy4 hb1 hb2 hb3 hb4 hb5
  go_loopw [8,38] (fun sv iv wr=>∃ k : Nat,sv = .int .i64 ((((L.take k).map gsz).sum : Nat) : Int) ∧ iv = .int .i64 (k : Int) ∧ k ≤ n ∧ Hid (Below w5.heap.size w5 wr)) (fun _ iv _=>n - (intOf iv).toNat)
  case atStart=>exact ⟨0,by simp,rfl,Nat.zero_le _,Lib.hid (Below.refl _ _)⟩
  case round=>
    obtain ⟨k,rfl,rfl,hk,HB⟩:=hrel
    by_cases hlt : k < n
    · obtain ⟨p,hp⟩:=at_some L k (by rw [← HN.out];exact hlt)
      obtain ⟨g,o,rfl,d0,d1,d2,d3,d4,d5⟩:=g_at HC.out k p hp
      obtain ⟨hg,hse,hnu⟩:=HAT.out k p hp
      have hstep:=sum_step L k p hp
      have hle:=sum_take L (k + 1)
      rw [hstep,HSUM.out] at hle
      have hgz : gsz p = 27 + p.la.size + p.bo.size:=rfl
      rw [hgz] at hstep hle
      have d0:=kc HB.out (kc HW5.out d0)
      have d1:=kc HB.out (kc HW5.out d1)
      have d2:=kc HB.out (kc HW5.out d2)
      have d3:=kc HB.out (kc HW5.out d3)
      have d4:=kc HB.out (kc HW5.out d4)
      have d5:=kc HB.out (kc HW5.out d5)
      rw [hse] at d2
      rw [hnu] at d3
      obtain ⟨e2,_⟩:=live_of (blkP KS.out (bt HY5.out HB.out)) 2 _ rfl
      have k2 : ∀ w',Calls Tryz.prog 21 #[.string p.la] w' fun e w''=>e = .returned (.int .i64 (p.bo.size : Int)) ∧ Below w'.heap.size w' w'':=fun w'=>(glong_any p.la w' (by have:=hg.1;omega)).mono fun e w'' ⟨h1,h2⟩=>⟨by rw [h1,hg.2.1],by rw [h2];exact Below.refl _ _⟩
      have hu : IntKind.u32.wrap (k : Int) = (k : Int):=by rw [IntKind.wrap_u32];omega
      generalize ((L.take k).map gsz).sum = t at *
      generalize p.la = la at *
      generalize p.bo = bo at *
      generalize s.first.se = se at *
      have h1 : IntKind.i64.wrap (27 + (la.size : Int)) = 27 + (la.size : Int):=wi64 _ (by omega) (by omega)
      have h2 : IntKind.i64.wrap (27 + (la.size : Int) + (bo.size : Int)) = 27 + (la.size : Int) + (bo.size : Int):=wi64 _ (by omega) (by omega)
      have h3 : IntKind.i64.wrap ((t : Int) + (27 + (la.size : Int) + (bo.size : Int))) = (t : Int) + (27 + (la.size : Int) + (bo.size : Int)):=wi64 _ (by omega) (by omega)
      have j0 : (0 : Int) ≤ (k : Int):=by omega
      have j1 : (k : Int) < (n : Int):=by omega
      obtain ⟨W,hW⟩ : ∃ W,W = wr.alloc (.cells #[.int .u8 p.fl.toNat,.int .u64 p.po,.int .u32 se,.int .u32 k,.string la,.string bo] 27):=⟨_,rfl⟩
      have hbW : Below wr.heap.size wr W:=by rw [hW];exact bal (Below.refl _ _) _
      obtain ⟨p0,p1,p2,p3,p4,p5⟩:=gvL (show W.heap[wr.heap.size]? = some (.cells #[.int .u8 p.fl.toNat,.int .u64 p.po,.int .u32 se,.int .u32 k,.string la,.string bo] 27 (0,0)) by rw [hW];exact heap_alloc_new _ _)
      have e2':=kc hbW e2
      have hbz:=bt HB.out hbW
      have HST:=Lib.hid hstep
      have K2:=Lib.hid k2
      have HBW:=Lib.hid hbW
      have HBZ:=Lib.hid hbz
      clear k2 hbW hbz
      clear hp hle hgz hg hse hnu hstep
      have y2:=fun y : Grown W=>y.cell p2
      have y3:=fun y : Grown W=>y.cell p3
      have y4:=fun y : Grown W=>y.cell p4
      have y5:=fun y : Grown W=>y.cell p5
      have ye:=fun y : Grown W=>y.cell e2'
      clear p0 p1 p2 p3 p4 p5 e2'
      have b1 : ((se : Int) == (se : Int)) = true:=by simp
      have b1n : ((se : Int) != (se : Int)) = false:=by simp
      have b2 : ((k : Int) == (k : Int)) = true:=by simp
      have b2n : ((k : Int) != (k : Int)) = false:=by simp
      have b3 : ((bo.size : Int) == (bo.size : Int)) = true:=by simp
      have b3n : ((bo.size : Int) != (bo.size : Int)) = false:=by simp
      go_wp2_with fail
      rw [← hW]
      refine wp_region_grown (by kernel_rfl) (by kernel_rfl) ?_
      repeat (first | go_big_quiet_step ((go_at_call 21;exact Calls.grown_of (K2.out _))) | quiet_step ((go_at_call 21;exact Calls.grown_of (K2.out _))))
      refine wpQuiet_nil ?_
      intro _ hw'
      obtain ⟨xg,rfl⟩:=hw'
      have hbg:=bt HBZ.out xg.bel
      have HBG:=Lib.hid hbg
      clear hbg
      go_wp2_with fail
      exact ⟨⟨k + 1,by rw [HST.out];congr 1,by go_num,by omega,HBG⟩,by simp [intOf];omega⟩
    · have hx : ((L.take k).map gsz).sum = PS.size:=by rw [List.take_of_length_le (by rw [← HN.out];omega)];exact HSUM.out
      rw [hx]
      have hbr:=bt HX5.out HB.out
      have b4 : ((PS.size : Int) == (PS.size : Int)) = true:=by simp
      clear hx
      go_wp2_with (first
        | (go_at_call 7;go_loud (refine (KA.out _ (HT.out.bel hbr)).mono ?_);go_loud (rintro e w9 ⟨rfl,hb9⟩))
        | fail)
      go_ret
      exact ⟨by simp,bt hbr hb9⟩
theorem walk (vn vs : Value) (s : OS) (w0 : okOS s) (w : World) (R0 : OsRow w vn vs s) (hT : TW w) :
    Calls Tryz.prog 5 #[osV vn vs s] w fun e w'=>e = .returned (.bool true) ∧ Below w.heap.size w w':=by
  cases hl : lightO s with
  | false=>exact walk_dark vn vs s w0 w R0 hT hl
  | true=>
    by_cases hb : (ocheckM s).1 = 0
    · exact walk_good vn vs s w0 w R0 hT hl (ocheck_zero hb)
    · exact walk_bad vn vs s w0 w R0 hT hl (light_smO hl) hb
set_option maxRecDepth 100000 in
theorem lifted (os : Os) (started : os.Started) (H : Type) (enc : TypeId × Value → H) :
    ReturnsInHanded {} Tryz.checked os 5 .any (fun w args=>(Rows.oggSumsSpec.pre enc Tryz.prog Tryz.f5 Rows.oggSumsRow.domain false w args ∧ laidMetH Tryz.prog laid3 w) ∧ sizedMet enc Tryz.prog Tryz.f5 (OpenSpec.ofChange Rows.oggSumsSpec) false w args) (Rows.oggSumsSpec.post enc Tryz.prog Tryz.f5 false true false false):=by
  refine handed_laid_shaped (C:=Tryz.checked) (X:=fun w=>laidMetH Tryz.prog laid3 w) (fun _ _ hh h=>h.of_heap hh) own started (by kernel_rfl) Tryz.func5
    (ChangeSpec.witness_shaped (enc:=enc) (C:=Tryz.checked) (os:=os) (X:=fun w _=>laidMetH Tryz.prog laid3 w) false (World.laidAll Tryz.prog os laid3) #[.agg #[.int .u8 0,.int .u64 0,.int .u32 0,.int .u32 0,.string ByteArray.empty,.string ByteArray.empty,.string ByteArray.empty,.int .i64 0,.slice none 0 0,.string ByteArray.empty,.slice none 0 0]] 8 (World.laidAll_os _ _ _) (laid_shaped os _) (by kernel_rfl) (by kernel_rfl) (by kernel_rfl) (laid_met os _)) ?_
  intro W base args ds gs before hval0 hW hL hsh
  have hT:=tw_of_laid hL hsh
  have hval : ∀ (j : Nat) t v,Tryz.f5.params[j]? = some t → args[j]? = some v → Value.okWide Tryz.prog W .any base t v:=hval0
  have hW':=hW
  obtain ⟨p,q,hA0,hV,rfl,hfz,hnd⟩:=hW
  have hA : DataW.TrodAll enc Tryz.prog W 0 (fun _=>true) true Tryz.f5.params.toList args.toList ds p:=hA0
  rw [Tryz.params5] at hA hval
  obtain ⟨v0,vs0,d0,ds0,p0,q0,hargs,rfl,rfl,h0,r0⟩:=trodAll_cons hA
  obtain ⟨rfl,rfl,rfl⟩:=trodAll_nil r0
  obtain rfl : args = #[v0]:=by cases args;simp_all
  obtain ⟨rfl,rfl⟩:=trodVars_none hV
  have h0k:=h0
  obtain ⟨a0,m0,b0,rfl,R0,w0⟩:=open_stream (hval 0 36 v0 rfl rfl) h0
  clear hA0 hval0
  simp only [List.append_nil] at hW'
  refine (walk m0 b0 a0 w0 W R0 hT).mono fun e W' ⟨he,hg⟩=>?_
  subst he
  have T0:=Below.trod (W':=W') (by kernel_rfl) (by kernel_rfl) (of_decide_eq_true (by kernel_rfl)) h0k hg (fun x hx=>by simpa using hW'.lt x (by simp [hx]))
  exact ⟨_,rfl,post_below (pa:=_) (pv:=[]) hW' (trodAll_cons_mk (shut_bool Tryz.underlying4 _) trodAll_mk0) (trodAll_cons_mk T0 trodAll_mk0) rfl hg⟩

theorem over : Rows.oggSumsRow.holds Tryz.pinned (OpenSpec.ofChange Rows.oggSumsSpec):=
  OpenClaim.holds_of_wide 5 Tryz.f5 rfl rfl rfl rfl rfl rfl rfl ⟨rfl,rfl,rfl,rfl,rfl⟩ rfl rfl rfl rfl rfl k_named Tryz.func5 k_joined (of_decide_eq_true (by kernel_rfl)) k_wrap
    (fun os started H enc _=>lifted os started H enc)

/-- THE STATEMENT: the tied card -/
theorem proved : Rows.OggSumsCardSaid:=
  Claim7.holds_tied_plain_at .later [] [.data,.data,.pinned] true Rows.oggSumsCard.stood.harness Rows.oggSumsCard.stood.looks over (fun _ h=>by cases h) k_wf (fun _ h=>by cases h) oggSums_row_tie rfl ⟨rfl,rfl⟩ k_main rfl
    (fun f fn hf hfn=>by
      obtain rfl : f = 5:=Option.some.inj (k_named.symm.trans hf) |>.symm
      obtain rfl : fn = Tryz.f5:=(Option.some.inj (Tryz.func5.symm.trans hfn)).symm
      exact ⟨k_looks,fun j t ht=>by
        rw [Tryz.params5] at ht
        have hm : t ∈ [36]:=by simpa using Array.mem_of_getElem? ht
        exact (show Tryz.prog.wantsStandIn t = false by simpa using List.all_eq_true.1 k_stand t hm)⟩)
    k_goes
#print axioms proved
end Go.Proofs.YtnbglcaeekppjaaGreatDoor.oggSums

