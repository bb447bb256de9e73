/- OggTwice holds: what is read and printed is read as it was, and printed as it was. No condition. -/
import Derived.Deep.RegionHeld3
import Derived.Test.YtnbglcaeekppjaaGreatDoorMFr
import Derived.Test.YtnbglcaeekppjaaGreatDoorTie
import Derived.Test.YtnbglcaeekppjaaGreatDoorCards
import Derived.Test.YtnbglcaeekppjaaGreatDoorMKz
import Derived.Test.YtnbglcaeekppjaaGreatDoorKOggTwice
import Derived.Test.YtnbglcaeekppjaaGreatDoorEe
import Derived.Test.YtnbglcaeekppjaaGreatDoorEd
import Derived.Test.YtnbglcaeekppjaaGreatDoorEc
import Derived.Test.YtnbglcaeekppjaaGreatDoorEb
import Derived.Test.YtnbglcaeekppjaaGreatDoorEa
import Derived.Test.YtnbglcaeekppjaaGreatDoorMGC
import Derived.Test.YtnbglcaeekppjaaGreatDoorMGA
import Derived.Test.YtnbglcaeekppjaaGreatDoorMFe
import Derived.Test.YtnbglcaeekppjaaGreatDoorMAy
import Derived.Test.YtnbglcaeekppjaaGreatDoorMGB
import Derived.Test.YtnbglcaeekppjaaGreatDoorMCy
namespace Go.Proofs.YtnbglcaeekppjaaGreatDoor.oggTwice
open Go.ChangeShapes Go.WideShapes Go.ChangeAt Go.RowKit Go.ChangeMaps
set_option linter.unusedVariables false
set_option linter.unusedSimpArgs false

theorem awake20in_any (w : World) (hT : TW w) : Calls Tryz.prog 7 #[] w fun e w'=>e = .returned (.bool true) ∧ Below w.heap.size w w':=by
  have KA:=Lib.hid awake20_any
  go_enter Tryz.func7,Tryz.ntmps7
  go_wp2_with (go_at_call 23;refine (KA.out _ hT).mono ?_;rintro e w1 ⟨rfl,hb1⟩)
  go_ret
  exact ⟨rfl,hb1⟩
set_option maxRecDepth 100000 in
set_option maxHeartbeats 8000000 in
theorem walk_long (s : ByteArray) (fb : Int) (g : Bool) (hs : 4000 < s.size) (w : World) (hT : TW w) :
    Calls Tryz.prog 4 #[.string s,.int .i64 fb,.bool g] w fun e w'=>e = .returned (.bool true) ∧ Below w.heap.size w w':=by
  have KA:=Lib.hid awake20in_any
  have hgt : (s.size : Int) > 4000:=by omega
  clear hs
  go_enter Tryz.func4,Tryz.ntmps4
  go_wp2_with (go_at_call 7;refine (KA.out _ hT).mono ?_;rintro e w1 ⟨rfl,hb1⟩)
  go_ret
  exact ⟨rfl,hb1⟩
set_option maxRecDepth 100000 in
set_option maxHeartbeats 8000000 in
theorem walk_bad (s : ByteArray) (fb : Int) (g : Bool) (hs : s.size ≤ 4000) (w : World) (hT : TW w) (hb : (oparM crcN (RM fb g) s).2.1 ≠ 0) :
    Calls Tryz.prog 4 #[.string s,.int .i64 fb,.bool g] w fun e w'=>e = .returned (.bool true) ∧ Below w.heap.size w w':=by
  have KA:=Lib.hid awake20in_any
  have hgt : ¬ (s.size : Int) > 4000:=by omega
  have hno : (oparM crcN (RM fb g) s).1 = noOS:=opar_bad _ _ _ hb
  have kp : ∀ w',TW w' → Calls Tryz.prog 16 #[.string s,.agg #[.int .i64 0,.int .i64 fb,.bool g,.int .i64 0]] w' fun e w''=>Below w'.heap.size w' w'' ∧ ∃ (an : Option Addr) (cn : Nat) (as_ : Option Addr) (cs_ : Nat),e = .returned (.tuple #[.agg #[.int .u8 0,.int .u64 0,.int .u32 0,.int .u32 0,.string ⟨#[]⟩,.string ⟨#[]⟩,.string ⟨#[]⟩,.int .i64 0,.slice an 0 cn,.string ⟨#[]⟩,.slice as_ 0 cs_],.agg #[.int .i64 (oparM crcN (RM fb g) s).2.1,.int .i64 (oparM crcN (RM fb g) s).2.2]]):=by
    intro w' hT'
    refine (oparse_any s 0 fb 0 g w' hT' (by omega)).mono ?_
    rintro e w'' ⟨h1,vn,vs,h2,h3,h4⟩
    rw [hno] at h2 h3 h4
    obtain ⟨an,cn,rfl⟩:=orow_form h3
    obtain ⟨as_,cs_,rfl⟩:=orow_form h4
    exact ⟨h1,an,cn,as_,cs_,h2⟩
  have k2:=fun w=>bad_any (oparM crcN (RM fb g) s).2.1 (oparM crcN (RM fb g) s).2.2 w
  have hd : (!decide ((oparM crcN (RM fb g) s).2.1 = 0)) = true:=by simpa using hb
  rw [hd] at k2
  generalize (oparM crcN (RM fb g) s).2 = C at *
  obtain ⟨ce,ca⟩:=C
  simp only at kp k2
  clear hno hb hd hs
  obtain ⟨WO,hWO⟩ : ∃ WO,WO = w.alloc (.cells #[.int .i64 0,.int .i64 fb,.bool g,.int .i64 0] 67):=⟨_,rfl⟩
  have hbo : Below w.heap.size w WO:=by rw [hWO];exact bal (Below.refl _ _) _
  have lo : ∀ (i : Nat) (u : Value),(#[.int .i64 0,.int .i64 fb,.bool g,.int .i64 0] : Array Value)[i]? = some u → WO.cell? ⟨w.heap.size,i,none⟩ = some u:=by
    intro i u hu;rw [hWO];exact (Live.fresh w _ 67 i u hu).1
  have o0:=lo 0 _ rfl
  have o1:=lo 1 _ rfl
  have o2:=lo 2 _ rfl
  have o3:=lo 3 _ rfl
  have hTO:=hT.bel hbo
  clear lo
  have KP:=Lib.hid kp
  have K2:=Lib.hid k2
  have HBO:=Lib.hid hbo
  have HTO:=Lib.hid hTO
  clear kp k2 hbo hTO
  go_enter Tryz.func4,Tryz.ntmps4
  go_wp2_with fail
  rw [← hWO]
  clear hWO
  go_wp2_with (first
    | (go_at_call 16;go_loud (with_reducible refine (KP.out _ HTO.out).mono ?_);go_loud (rintro e w1 ⟨hb1,an,cn,as_,cs_,rfl⟩);go_loud (have hba:=bal (bal hb1 (.cells #[.int .u8 0,.int .u64 0,.int .u32 0,.int .u32 0,.string ⟨#[]⟩,.string ⟨#[]⟩,.string ⟨#[]⟩,.int .i64 0,.slice an 0 cn,.string ⟨#[]⟩,.slice as_ 0 cs_] 36)) (.cells #[.int .i64 ce,.int .i64 ca] 54)))
    | (go_at_call 18;go_loud (with_reducible refine (K2.out _).mono ?_);go_loud (rintro e w2 ⟨rfl,hb2⟩);go_loud (have hbb:=bt hba hb2))
    | (go_at_call 7;go_loud (with_reducible refine (KA.out _ (HTO.out.bel hbb)).mono ?_);go_loud (rintro e w3 ⟨rfl,hb3⟩);go_loud (have hbc:=bt hbb hb3);go_loud (have hbx:=bt hb2 hb3);go_loud (obtain ⟨l2,_⟩:=((Live.fresh w1 #[.int .u8 0,.int .u64 0,.int .u32 0,.int .u32 0,.string ⟨#[]⟩,.string ⟨#[]⟩,.string ⟨#[]⟩,.int .i64 0,.slice an 0 cn,.string ⟨#[]⟩,.slice as_ 0 cs_] 36 2 _ rfl).alloc (.cells #[.int .i64 ce,.int .i64 ca] 54)).keep hbx);go_loud (obtain ⟨l3,_⟩:=((Live.fresh w1 #[.int .u8 0,.int .u64 0,.int .u32 0,.int .u32 0,.string ⟨#[]⟩,.string ⟨#[]⟩,.string ⟨#[]⟩,.int .i64 0,.slice an 0 cn,.string ⟨#[]⟩,.slice as_ 0 cs_] 36 3 _ rfl).alloc (.cells #[.int .i64 ce,.int .i64 ca] 54)).keep hbx);go_loud (obtain ⟨l6,_⟩:=((Live.fresh w1 #[.int .u8 0,.int .u64 0,.int .u32 0,.int .u32 0,.string ⟨#[]⟩,.string ⟨#[]⟩,.string ⟨#[]⟩,.int .i64 0,.slice an 0 cn,.string ⟨#[]⟩,.slice as_ 0 cs_] 36 6 _ rfl).alloc (.cells #[.int .i64 ce,.int .i64 ca] 54)).keep hbx);go_loud (obtain ⟨l8,_⟩:=((Live.fresh w1 #[.int .u8 0,.int .u64 0,.int .u32 0,.int .u32 0,.string ⟨#[]⟩,.string ⟨#[]⟩,.string ⟨#[]⟩,.int .i64 0,.slice an 0 cn,.string ⟨#[]⟩,.slice as_ 0 cs_] 36 8 _ rfl).alloc (.cells #[.int .i64 ce,.int .i64 ca] 54)).keep hbx);go_loud (obtain ⟨l9,_⟩:=((Live.fresh w1 #[.int .u8 0,.int .u64 0,.int .u32 0,.int .u32 0,.string ⟨#[]⟩,.string ⟨#[]⟩,.string ⟨#[]⟩,.int .i64 0,.slice an 0 cn,.string ⟨#[]⟩,.slice as_ 0 cs_] 36 9 _ rfl).alloc (.cells #[.int .i64 ce,.int .i64 ca] 54)).keep hbx);go_loud (obtain ⟨l10,_⟩:=((Live.fresh w1 #[.int .u8 0,.int .u64 0,.int .u32 0,.int .u32 0,.string ⟨#[]⟩,.string ⟨#[]⟩,.string ⟨#[]⟩,.int .i64 0,.slice an 0 cn,.string ⟨#[]⟩,.slice as_ 0 cs_] 36 10 _ rfl).alloc (.cells #[.int .i64 ce,.int .i64 ca] 54)).keep hbx))
    | fail)
  go_ret
  exact ⟨ret_b (by simp),bt HBO.out hbc⟩
set_option maxRecDepth 100000 in
set_option maxHeartbeats 16000000 in
theorem walk_good (s : ByteArray) (fb : Int) (g : Bool) (hs : s.size ≤ 4000) (w : World) (hT : TW w) (hb : (oparM crcN (RM fb g) s).2.1 = 0) :
    Calls Tryz.prog 4 #[.string s,.int .i64 fb,.bool g] w fun e w'=>e = .returned (.bool true) ∧ Below w.heap.size w w':=by
  have KA:=Lib.hid awake20in_any
  have hgt : ¬ (s.size : Int) > 4000:=by omega
  obtain ⟨G,hz,hps⟩:=opar_small s hs hb
  have kp : ∀ w',TW w' → Calls Tryz.prog 16 #[.string s,.agg #[.int .i64 0,.int .i64 fb,.bool g,.int .i64 0]] w' (OParsePost (oparM crcN (RM fb g) s) w'):=fun w' hT'=>oparse_any s 0 fb 0 g w' hT' (by omega)
  unfold OParsePost at kp
  rw [hb,hz] at kp
  generalize (oparM crcN (RM fb g) s).1 = f at *
  clear hb hz
  have H:=osm_back G
  have kp2 : ∀ w',TW w' → Calls Tryz.prog 16 #[.string (toB (oprintL crcN f)),.agg #[.int .i64 0,.int .i64 fb,.bool g,.int .i64 0]] w' (OParsePost (backO f,0,0) w'):=fun w' hT'=>by
    have:=oparse_any (toB (oprintL crcN f)) 0 fb 0 g w' hT' (by rw [szB];exact hps)
    rw [show toB (oprintL crcN f) = ⟨(oprintL crcN f).toArray⟩ from rfl,opar_back crcN (RM fb g) crcN_lt (RM_utf fb g) f G.ok] at this
    exact this
  unfold OParsePost at kp2
  have kpr : ∀ w' vn vs,TW w' → OsRow w' vn vs f → Calls Tryz.prog 10 #[osV vn vs f] w' fun e w''=>e = .returned (.tuple #[.string (toB (oprintL crcN f)),.agg #[.int .i64 0,.int .i64 0]]) ∧ Below w'.heap.size w' w'':=fun w' vn vs hT' hr=>oprint_good vn vs f w' hT' hr G.sm G.ok G.big
  have kof : ∀ w' vn vs,OsRow w' vn vs f → Calls Tryz.prog 8 #[osV vn vs f] w' fun e w''=>∃ va na,e = .returned (.agg (roC va na f)) ∧ RoRow w'' va na f ∧ Below w'.heap.size w' w'':=fun w' vn vs hr=>
    (oof_any vn vs f w' hr G.sm G.nl G.g1 G.g2).mono fun e w'' ⟨a,b,h1,h2,h3,h4⟩=>⟨a,b,h1,⟨row_owns h2,row_owns h3⟩,h4⟩
  obtain ⟨h,hh⟩ : ∃ h,h = backO f:=⟨_,rfl⟩
  have hhp : oprintL crcN h = oprintL crcN f:=by rw [hh,back_print]
  have hhl : likeOS f h:=by rw [hh];exact like_back f
  rw [← hh] at kp2 H
  simp only at kp2 kp
  have kpr2 : ∀ w' vn vs,TW w' → OsRow w' vn vs h → Calls Tryz.prog 10 #[osV vn vs h] w' fun e w''=>e = .returned (.tuple #[.string (toB (oprintL crcN f)),.agg #[.int .i64 0,.int .i64 0]]) ∧ Below w'.heap.size w' w'':=fun w' vn vs hT' hr=>by
    have:=oprint_good vn vs h w' hT' hr H.sm H.ok H.big
    unfold OPrintPost at this
    rw [hhp] at this
    exact this
  have kof2 : ∀ w' vn vs,OsRow w' vn vs h → Calls Tryz.prog 8 #[osV vn vs h] w' fun e w''=>∃ va na,e = .returned (.agg (roC va na h)) ∧ RoRow w'' va na h ∧ Below w'.heap.size w' w'':=fun w' vn vs hr=>
    (oof_any vn vs h w' hr H.sm H.nl H.g1 H.g2).mono fun e w'' ⟨a,b,h1,h2,h3,h4⟩=>⟨a,b,h1,⟨row_owns h2,row_owns h3⟩,h4⟩
  have kse : ∀ w' va na vb nb,RoRow w' va na f → RoRow w' vb nb h → Calls Tryz.prog 19 #[.agg (roC va na f),.agg (roC vb nb h),.bool false] w' fun e w''=>e = .returned (.bool true) ∧ Below w'.heap.size w' w'':=fun w' va na vb nb h1 h2=>
    osame_any va na vb nb f h w' h1 h2 hhl G.nl G.sl
  generalize toB (oprintL crcN f) = PS at *
  have HSS : (PS.toList == PS.toList) = true:=by simp
  unfold osV at kp kp2 kpr kof kpr2 kof2
  clear G H hps hhp hhl hh hs
  obtain ⟨WO,hWO⟩ : ∃ WO,WO = w.alloc (.cells #[.int .i64 0,.int .i64 fb,.bool g,.int .i64 0] 67):=⟨_,rfl⟩
  have hbo : Below w.heap.size w WO:=by rw [hWO];exact bal (Below.refl _ _) _
  have lo : ∀ (i : Nat) (u : Value),(#[.int .i64 0,.int .i64 fb,.bool g,.int .i64 0] : Array Value)[i]? = some u → WO.cell? ⟨w.heap.size,i,none⟩ = some u:=by
    intro i u hu;rw [hWO];exact (Live.fresh w _ 67 i u hu).1
  have o0:=lo 0 _ rfl
  have o1:=lo 1 _ rfl
  have o2:=lo 2 _ rfl
  have o3:=lo 3 _ rfl
  have hTO:=hT.bel hbo
  have k2 : ∀ w,Calls Tryz.prog 18 #[.agg #[.int .i64 0,.int .i64 0]] w fun e w'=>e = .returned (.bool false) ∧ Below w.heap.size w w':=fun w=>bad_any 0 0 w
  clear lo
  have KP:=Lib.hid kp
  have KP2:=Lib.hid kp2
  have KPR:=Lib.hid kpr
  have KOF:=Lib.hid kof
  have KPR2:=Lib.hid kpr2
  have KOF2:=Lib.hid kof2
  have KSE:=Lib.hid kse
  have K2:=Lib.hid k2
  have HBO:=Lib.hid hbo
  have HTO:=Lib.hid hTO
  clear kp kp2 kpr kof kpr2 kof2 kse k2 hbo hTO
  have O0:=Lib.hid o0
  have O1:=Lib.hid o1
  have O2:=Lib.hid o2
  have O3:=Lib.hid o3
  go_enter Tryz.func4,Tryz.ntmps4
  go_wp2_with fail
  rw [← hWO]
  clear hWO
  go_wp2_with (first
    | (go_at_call 16;go_loud (with_reducible refine (KP.out _ HTO.out).mono ?_);go_loud (rintro e w1 ⟨hb1,vn,vs,rfl,q1,q2⟩);go_loud (obtain ⟨an,cn,rfl⟩:=orow_form q1);go_loud (obtain ⟨as_,cs_,rfl⟩:=orow_form q2);go_loud (have hba:=bal (bal hb1 (.cells #[.int .u8 f.first.fl.toNat,.int .u64 f.first.po,.int .u32 f.first.se,.int .u32 f.first.nu,.string f.first.la,.string f.first.bo,.string f.b.vt,.int .i64 f.b.vs,.slice an f.b.ns.length cn,.string f.setup,.slice as_ f.sound.length cs_] 36)) (.cells #[.int .i64 0,.int .i64 0] 54));go_loud (have hr1 : OsRow w1 (.slice an f.b.ns.length cn) (.slice as_ f.sound.length cs_) f:=⟨row_owns q1,row_owns q2⟩);go_loud (have hbl:=bal (bal (Below.refl w1.heap.size w1) (.cells #[.int .u8 f.first.fl.toNat,.int .u64 f.first.po,.int .u32 f.first.se,.int .u32 f.first.nu,.string f.first.la,.string f.first.bo,.string f.b.vt,.int .i64 f.b.vs,.slice an f.b.ns.length cn,.string f.setup,.slice as_ f.sound.length cs_] 36)) (.cells #[.int .i64 0,.int .i64 0] 54)))
    | (go_at_call 18;go_loud (with_reducible refine (K2.out _).mono ?_);go_loud (rintro e w2 ⟨rfl,hb2⟩);go_loud (have hbb:=bt hba hb2);go_loud (have hbm:=bt hbl hb2);go_loud (obtain ⟨c0,_⟩:=((Live.fresh w1 #[.int .u8 f.first.fl.toNat,.int .u64 f.first.po,.int .u32 f.first.se,.int .u32 f.first.nu,.string f.first.la,.string f.first.bo,.string f.b.vt,.int .i64 f.b.vs,.slice an f.b.ns.length cn,.string f.setup,.slice as_ f.sound.length cs_] 36 0 _ rfl).alloc (.cells #[.int .i64 0,.int .i64 0] 54)).keep hb2);go_loud (obtain ⟨c1,_⟩:=((Live.fresh w1 #[.int .u8 f.first.fl.toNat,.int .u64 f.first.po,.int .u32 f.first.se,.int .u32 f.first.nu,.string f.first.la,.string f.first.bo,.string f.b.vt,.int .i64 f.b.vs,.slice an f.b.ns.length cn,.string f.setup,.slice as_ f.sound.length cs_] 36 1 _ rfl).alloc (.cells #[.int .i64 0,.int .i64 0] 54)).keep hb2);go_loud (obtain ⟨c2,_⟩:=((Live.fresh w1 #[.int .u8 f.first.fl.toNat,.int .u64 f.first.po,.int .u32 f.first.se,.int .u32 f.first.nu,.string f.first.la,.string f.first.bo,.string f.b.vt,.int .i64 f.b.vs,.slice an f.b.ns.length cn,.string f.setup,.slice as_ f.sound.length cs_] 36 2 _ rfl).alloc (.cells #[.int .i64 0,.int .i64 0] 54)).keep hb2);go_loud (obtain ⟨c3,_⟩:=((Live.fresh w1 #[.int .u8 f.first.fl.toNat,.int .u64 f.first.po,.int .u32 f.first.se,.int .u32 f.first.nu,.string f.first.la,.string f.first.bo,.string f.b.vt,.int .i64 f.b.vs,.slice an f.b.ns.length cn,.string f.setup,.slice as_ f.sound.length cs_] 36 3 _ rfl).alloc (.cells #[.int .i64 0,.int .i64 0] 54)).keep hb2);go_loud (obtain ⟨c4,_⟩:=((Live.fresh w1 #[.int .u8 f.first.fl.toNat,.int .u64 f.first.po,.int .u32 f.first.se,.int .u32 f.first.nu,.string f.first.la,.string f.first.bo,.string f.b.vt,.int .i64 f.b.vs,.slice an f.b.ns.length cn,.string f.setup,.slice as_ f.sound.length cs_] 36 4 _ rfl).alloc (.cells #[.int .i64 0,.int .i64 0] 54)).keep hb2);go_loud (obtain ⟨c5,_⟩:=((Live.fresh w1 #[.int .u8 f.first.fl.toNat,.int .u64 f.first.po,.int .u32 f.first.se,.int .u32 f.first.nu,.string f.first.la,.string f.first.bo,.string f.b.vt,.int .i64 f.b.vs,.slice an f.b.ns.length cn,.string f.setup,.slice as_ f.sound.length cs_] 36 5 _ rfl).alloc (.cells #[.int .i64 0,.int .i64 0] 54)).keep hb2);go_loud (obtain ⟨c6,_⟩:=((Live.fresh w1 #[.int .u8 f.first.fl.toNat,.int .u64 f.first.po,.int .u32 f.first.se,.int .u32 f.first.nu,.string f.first.la,.string f.first.bo,.string f.b.vt,.int .i64 f.b.vs,.slice an f.b.ns.length cn,.string f.setup,.slice as_ f.sound.length cs_] 36 6 _ rfl).alloc (.cells #[.int .i64 0,.int .i64 0] 54)).keep hb2);go_loud (obtain ⟨c7,_⟩:=((Live.fresh w1 #[.int .u8 f.first.fl.toNat,.int .u64 f.first.po,.int .u32 f.first.se,.int .u32 f.first.nu,.string f.first.la,.string f.first.bo,.string f.b.vt,.int .i64 f.b.vs,.slice an f.b.ns.length cn,.string f.setup,.slice as_ f.sound.length cs_] 36 7 _ rfl).alloc (.cells #[.int .i64 0,.int .i64 0] 54)).keep hb2);go_loud (obtain ⟨c8,_⟩:=((Live.fresh w1 #[.int .u8 f.first.fl.toNat,.int .u64 f.first.po,.int .u32 f.first.se,.int .u32 f.first.nu,.string f.first.la,.string f.first.bo,.string f.b.vt,.int .i64 f.b.vs,.slice an f.b.ns.length cn,.string f.setup,.slice as_ f.sound.length cs_] 36 8 _ rfl).alloc (.cells #[.int .i64 0,.int .i64 0] 54)).keep hb2);go_loud (obtain ⟨c9,_⟩:=((Live.fresh w1 #[.int .u8 f.first.fl.toNat,.int .u64 f.first.po,.int .u32 f.first.se,.int .u32 f.first.nu,.string f.first.la,.string f.first.bo,.string f.b.vt,.int .i64 f.b.vs,.slice an f.b.ns.length cn,.string f.setup,.slice as_ f.sound.length cs_] 36 9 _ rfl).alloc (.cells #[.int .i64 0,.int .i64 0] 54)).keep hb2);go_loud (obtain ⟨c10,_⟩:=((Live.fresh w1 #[.int .u8 f.first.fl.toNat,.int .u64 f.first.po,.int .u32 f.first.se,.int .u32 f.first.nu,.string f.first.la,.string f.first.bo,.string f.b.vt,.int .i64 f.b.vs,.slice an f.b.ns.length cn,.string f.setup,.slice as_ f.sound.length cs_] 36 10 _ rfl).alloc (.cells #[.int .i64 0,.int .i64 0] 54)).keep hb2))
    | (go_at_call 10;go_loud (with_reducible refine (KPR.out _ _ _ (HTO.out.bel hbb) (hr1.keep hbm)).mono ?_);go_loud (rintro e w3 ⟨rfl,hb3⟩);go_loud (have hbc:=bal (bt hbb hb3) (.cells #[.int .i64 0,.int .i64 0] 54));go_loud (have o0:=kc hbc O0.out);go_loud (have o1:=kc hbc O1.out);go_loud (have o2:=kc hbc O2.out);go_loud (have o3:=kc hbc O3.out))
    | (go_at_call 16;go_loud (with_reducible refine (KP2.out _ (HTO.out.bel hbc)).mono ?_);go_loud (rintro e w4 ⟨hb4,vn2,vs2,rfl,q3,q4⟩);go_loud (obtain ⟨an2,cn2,rfl⟩:=orow_form q3);go_loud (obtain ⟨as2,cs2,rfl⟩:=orow_form q4);go_loud (have hbd:=bal (bal (bt hbc hb4) (.cells #[.int .u8 h.first.fl.toNat,.int .u64 h.first.po,.int .u32 h.first.se,.int .u32 h.first.nu,.string h.first.la,.string h.first.bo,.string h.b.vt,.int .i64 h.b.vs,.slice an2 h.b.ns.length cn2,.string h.setup,.slice as2 h.sound.length cs2] 36)) (.cells #[.int .i64 0,.int .i64 0] 54));go_loud (have hr2 : OsRow w4 (.slice an2 h.b.ns.length cn2) (.slice as2 h.sound.length cs2) h:=⟨row_owns q3,row_owns q4⟩);go_loud (have hbn:=bal (bal (Below.refl w4.heap.size w4) (.cells #[.int .u8 h.first.fl.toNat,.int .u64 h.first.po,.int .u32 h.first.se,.int .u32 h.first.nu,.string h.first.la,.string h.first.bo,.string h.b.vt,.int .i64 h.b.vs,.slice an2 h.b.ns.length cn2,.string h.setup,.slice as2 h.sound.length cs2] 36)) (.cells #[.int .i64 0,.int .i64 0] 54)))
    | (go_at_call 10;go_loud (with_reducible refine (KPR2.out _ _ _ (HTO.out.bel hbd) (hr2.keep hbn)).mono ?_);go_loud (rintro e w5 ⟨rfl,hb5⟩))
    | fail)
  obtain ⟨W4,hW4⟩ : ∃ W4,W4 = w5.alloc (.cells #[.int .i64 0,.int .i64 0] 54):=⟨_,rfl⟩
  have hW : Below w5.heap.size w5 W4:=by rw [hW4];exact bal (Below.refl _ _) _
  have h5W:=bt hb5 hW
  have h4W:=bt hbn h5W
  have h3W:=bt hb4 h4W
  have h2W:=bt (bal hb3 (.cells #[.int .i64 0,.int .i64 0] 54)) h3W
  have f0:=((Live.fresh w3 #[.int .i64 0,.int .i64 0] 54 0 _ rfl).keep h3W).1
  have f1:=((Live.fresh w3 #[.int .i64 0,.int .i64 0] 54 1 _ rfl).keep h3W).1
  have g0:=(Live.fresh (w4.alloc (.cells #[.int .u8 h.first.fl.toNat,.int .u64 h.first.po,.int .u32 h.first.se,.int .u32 h.first.nu,.string h.first.la,.string h.first.bo,.string h.b.vt,.int .i64 h.b.vs,.slice an2 h.b.ns.length cn2,.string h.setup,.slice as2 h.sound.length cs2] 36)) #[.int .i64 0,.int .i64 0] 54 0 _ rfl).keep h5W
  have g1:=(Live.fresh (w4.alloc (.cells #[.int .u8 h.first.fl.toNat,.int .u64 h.first.po,.int .u32 h.first.se,.int .u32 h.first.nu,.string h.first.la,.string h.first.bo,.string h.b.vt,.int .i64 h.b.vs,.slice an2 h.b.ns.length cn2,.string h.setup,.slice as2 h.sound.length cs2] 36)) #[.int .i64 0,.int .i64 0] 54 1 _ rfl).keep h5W
  rw [World.size_alloc] at g0 g1
  have k0 : Live W4 w5.heap.size 0 (.int .i64 0):=by rw [hW4];exact Live.fresh w5 _ _ 0 _ rfl
  have k1 : Live W4 w5.heap.size 1 (.int .i64 0):=by rw [hW4];exact Live.fresh w5 _ _ 1 _ rfl
  replace g0:=g0.1
  replace g1:=g1.1
  replace k0:=k0.1
  replace k1:=k1.1
  replace c0:=kc h2W c0
  replace c1:=kc h2W c1
  replace c2:=kc h2W c2
  replace c3:=kc h2W c3
  replace c4:=kc h2W c4
  replace c5:=kc h2W c5
  replace c6:=kc h2W c6
  replace c7:=kc h2W c7
  replace c8:=kc h2W c8
  replace c9:=kc h2W c9
  replace c10:=kc h2W c10
  have d0:=(((Live.fresh w4 #[.int .u8 h.first.fl.toNat,.int .u64 h.first.po,.int .u32 h.first.se,.int .u32 h.first.nu,.string h.first.la,.string h.first.bo,.string h.b.vt,.int .i64 h.b.vs,.slice an2 h.b.ns.length cn2,.string h.setup,.slice as2 h.sound.length cs2] 36 0 _ rfl).alloc (.cells #[.int .i64 0,.int .i64 0] 54)).keep h5W).1
  have d1:=(((Live.fresh w4 #[.int .u8 h.first.fl.toNat,.int .u64 h.first.po,.int .u32 h.first.se,.int .u32 h.first.nu,.string h.first.la,.string h.first.bo,.string h.b.vt,.int .i64 h.b.vs,.slice an2 h.b.ns.length cn2,.string h.setup,.slice as2 h.sound.length cs2] 36 1 _ rfl).alloc (.cells #[.int .i64 0,.int .i64 0] 54)).keep h5W).1
  have d2:=(((Live.fresh w4 #[.int .u8 h.first.fl.toNat,.int .u64 h.first.po,.int .u32 h.first.se,.int .u32 h.first.nu,.string h.first.la,.string h.first.bo,.string h.b.vt,.int .i64 h.b.vs,.slice an2 h.b.ns.length cn2,.string h.setup,.slice as2 h.sound.length cs2] 36 2 _ rfl).alloc (.cells #[.int .i64 0,.int .i64 0] 54)).keep h5W).1
  have d3:=(((Live.fresh w4 #[.int .u8 h.first.fl.toNat,.int .u64 h.first.po,.int .u32 h.first.se,.int .u32 h.first.nu,.string h.first.la,.string h.first.bo,.string h.b.vt,.int .i64 h.b.vs,.slice an2 h.b.ns.length cn2,.string h.setup,.slice as2 h.sound.length cs2] 36 3 _ rfl).alloc (.cells #[.int .i64 0,.int .i64 0] 54)).keep h5W).1
  have d4:=(((Live.fresh w4 #[.int .u8 h.first.fl.toNat,.int .u64 h.first.po,.int .u32 h.first.se,.int .u32 h.first.nu,.string h.first.la,.string h.first.bo,.string h.b.vt,.int .i64 h.b.vs,.slice an2 h.b.ns.length cn2,.string h.setup,.slice as2 h.sound.length cs2] 36 4 _ rfl).alloc (.cells #[.int .i64 0,.int .i64 0] 54)).keep h5W).1
  have d5:=(((Live.fresh w4 #[.int .u8 h.first.fl.toNat,.int .u64 h.first.po,.int .u32 h.first.se,.int .u32 h.first.nu,.string h.first.la,.string h.first.bo,.string h.b.vt,.int .i64 h.b.vs,.slice an2 h.b.ns.length cn2,.string h.setup,.slice as2 h.sound.length cs2] 36 5 _ rfl).alloc (.cells #[.int .i64 0,.int .i64 0] 54)).keep h5W).1
  have d6:=(((Live.fresh w4 #[.int .u8 h.first.fl.toNat,.int .u64 h.first.po,.int .u32 h.first.se,.int .u32 h.first.nu,.string h.first.la,.string h.first.bo,.string h.b.vt,.int .i64 h.b.vs,.slice an2 h.b.ns.length cn2,.string h.setup,.slice as2 h.sound.length cs2] 36 6 _ rfl).alloc (.cells #[.int .i64 0,.int .i64 0] 54)).keep h5W).1
  have d7:=(((Live.fresh w4 #[.int .u8 h.first.fl.toNat,.int .u64 h.first.po,.int .u32 h.first.se,.int .u32 h.first.nu,.string h.first.la,.string h.first.bo,.string h.b.vt,.int .i64 h.b.vs,.slice an2 h.b.ns.length cn2,.string h.setup,.slice as2 h.sound.length cs2] 36 7 _ rfl).alloc (.cells #[.int .i64 0,.int .i64 0] 54)).keep h5W).1
  have d8:=(((Live.fresh w4 #[.int .u8 h.first.fl.toNat,.int .u64 h.first.po,.int .u32 h.first.se,.int .u32 h.first.nu,.string h.first.la,.string h.first.bo,.string h.b.vt,.int .i64 h.b.vs,.slice an2 h.b.ns.length cn2,.string h.setup,.slice as2 h.sound.length cs2] 36 8 _ rfl).alloc (.cells #[.int .i64 0,.int .i64 0] 54)).keep h5W).1
  have d9:=(((Live.fresh w4 #[.int .u8 h.first.fl.toNat,.int .u64 h.first.po,.int .u32 h.first.se,.int .u32 h.first.nu,.string h.first.la,.string h.first.bo,.string h.b.vt,.int .i64 h.b.vs,.slice an2 h.b.ns.length cn2,.string h.setup,.slice as2 h.sound.length cs2] 36 9 _ rfl).alloc (.cells #[.int .i64 0,.int .i64 0] 54)).keep h5W).1
  have d10:=(((Live.fresh w4 #[.int .u8 h.first.fl.toNat,.int .u64 h.first.po,.int .u32 h.first.se,.int .u32 h.first.nu,.string h.first.la,.string h.first.bo,.string h.b.vt,.int .i64 h.b.vs,.slice an2 h.b.ns.length cn2,.string h.setup,.slice as2 h.sound.length cs2] 36 10 _ rfl).alloc (.cells #[.int .i64 0,.int .i64 0] 54)).keep h5W).1
  have hbW:=bt hbd h5W
  have hTW:=HTO.out.bel hbW
  have hrA:=hr1.keep (bt hbm h2W)
  have hrB:=hr2.keep h4W
  rw [← hW4]
  clear hW4
  have ka : ∀ w',Below W4.heap.size W4 w' → Calls Tryz.prog 7 #[] w' fun e w''=>e = .returned (.bool true) ∧ Below W4.heap.size W4 w'':=fun w' hb=>(KA.out w' (hTW.bel hb)).mono fun e w'' q=>⟨q.1,bt hb q.2⟩
  have kb : ∀ w',Below W4.heap.size W4 w' → Calls Tryz.prog 18 #[.agg #[.int .i64 0,.int .i64 0]] w' fun e w''=>e = .returned (.bool false) ∧ Below W4.heap.size W4 w'':=fun w' hb=>(bad_any 0 0 w').mono fun e w'' q=>⟨q.1,bt hb q.2⟩
  have ko1 : ∀ w',Below W4.heap.size W4 w' → Calls Tryz.prog 8 #[.agg #[.int .u8 f.first.fl.toNat,.int .u64 f.first.po,.int .u32 f.first.se,.int .u32 f.first.nu,.string f.first.la,.string f.first.bo,.string f.b.vt,.int .i64 f.b.vs,.slice an f.b.ns.length cn,.string f.setup,.slice as_ f.sound.length cs_]] w' fun e w''=>∃ va na,e = .returned (.agg #[.int .i64 f.first.fl.toNat,.int .u64 f.first.po,.int .u64 f.first.se,.int .u64 f.first.nu,.string f.first.la,.string f.first.bo,.string ⟨#[]⟩,.string f.b.vt,.int .i64 f.b.vs,va,.string f.setup,na]) ∧ RoRow w'' va na f ∧ Below w'.heap.size w' w'' ∧ Below W4.heap.size W4 w'':=fun w' hb=>(KOF.out w' _ _ (hrA.keep hb)).mono fun e w'' ⟨va,na,q1,q2,q3⟩=>⟨va,na,q1,q2,q3,bt hb q3⟩
  have ko2 : ∀ w',Below W4.heap.size W4 w' → Calls Tryz.prog 8 #[.agg #[.int .u8 h.first.fl.toNat,.int .u64 h.first.po,.int .u32 h.first.se,.int .u32 h.first.nu,.string h.first.la,.string h.first.bo,.string h.b.vt,.int .i64 h.b.vs,.slice an2 h.b.ns.length cn2,.string h.setup,.slice as2 h.sound.length cs2]] w' fun e w''=>∃ vb nb,e = .returned (.agg #[.int .i64 h.first.fl.toNat,.int .u64 h.first.po,.int .u64 h.first.se,.int .u64 h.first.nu,.string h.first.la,.string h.first.bo,.string ⟨#[]⟩,.string h.b.vt,.int .i64 h.b.vs,vb,.string h.setup,nb]) ∧ RoRow w'' vb nb h ∧ Below w'.heap.size w' w'' ∧ Below W4.heap.size W4 w'':=fun w' hb=>(KOF2.out w' _ _ (hrB.keep hb)).mono fun e w'' ⟨va,na,q1,q2,q3⟩=>⟨va,na,q1,q2,q3,bt hb q3⟩
  have ks : ∀ w' va na vb nb,RoRow w' va na f → RoRow w' vb nb h → Below W4.heap.size W4 w' → Calls Tryz.prog 19 #[.agg #[.int .i64 f.first.fl.toNat,.int .u64 f.first.po,.int .u64 f.first.se,.int .u64 f.first.nu,.string f.first.la,.string f.first.bo,.string ⟨#[]⟩,.string f.b.vt,.int .i64 f.b.vs,va,.string f.setup,na],.agg #[.int .i64 h.first.fl.toNat,.int .u64 h.first.po,.int .u64 h.first.se,.int .u64 h.first.nu,.string h.first.la,.string h.first.bo,.string ⟨#[]⟩,.string h.b.vt,.int .i64 h.b.vs,vb,.string h.setup,nb],.bool false] w' fun e w''=>e = .returned (.bool true) ∧ Below W4.heap.size W4 w'':=fun w' va na vb nb q1 q2 hb=>(KSE.out w' va na vb nb q1 q2).mono fun e w'' q=>⟨q.1,bt hb q.2⟩
  have KSA : Hid (∀ wz,Below W4.heap.size W4 wz → wz.cell? ⟨w3.heap.size,0,none⟩ = some (.int .i64 0) ∧ wz.cell? ⟨w3.heap.size,1,none⟩ = some (.int .i64 0) ∧ wz.cell? ⟨w4.heap.size + 1,0,none⟩ = some (.int .i64 0) ∧ wz.cell? ⟨w4.heap.size + 1,1,none⟩ = some (.int .i64 0) ∧ wz.cell? ⟨w5.heap.size,0,none⟩ = some (.int .i64 0) ∧ wz.cell? ⟨w5.heap.size,1,none⟩ = some (.int .i64 0) ∧ wz.cell? ⟨w1.heap.size,0,none⟩ = some (.int .u8 f.first.fl.toNat) ∧ wz.cell? ⟨w1.heap.size,1,none⟩ = some (.int .u64 f.first.po) ∧ wz.cell? ⟨w1.heap.size,2,none⟩ = some (.int .u32 f.first.se) ∧ wz.cell? ⟨w1.heap.size,3,none⟩ = some (.int .u32 f.first.nu) ∧ wz.cell? ⟨w1.heap.size,4,none⟩ = some (.string f.first.la) ∧ wz.cell? ⟨w1.heap.size,5,none⟩ = some (.string f.first.bo) ∧ wz.cell? ⟨w1.heap.size,6,none⟩ = some (.string f.b.vt) ∧ wz.cell? ⟨w1.heap.size,7,none⟩ = some (.int .i64 f.b.vs) ∧ wz.cell? ⟨w1.heap.size,8,none⟩ = some (.slice an f.b.ns.length cn) ∧ wz.cell? ⟨w1.heap.size,9,none⟩ = some (.string f.setup) ∧ wz.cell? ⟨w1.heap.size,10,none⟩ = some (.slice as_ f.sound.length cs_) ∧ wz.cell? ⟨w4.heap.size,0,none⟩ = some (.int .u8 h.first.fl.toNat) ∧ wz.cell? ⟨w4.heap.size,1,none⟩ = some (.int .u64 h.first.po) ∧ wz.cell? ⟨w4.heap.size,2,none⟩ = some (.int .u32 h.first.se) ∧ wz.cell? ⟨w4.heap.size,3,none⟩ = some (.int .u32 h.first.nu) ∧ wz.cell? ⟨w4.heap.size,4,none⟩ = some (.string h.first.la) ∧ wz.cell? ⟨w4.heap.size,5,none⟩ = some (.string h.first.bo) ∧ wz.cell? ⟨w4.heap.size,6,none⟩ = some (.string h.b.vt) ∧ wz.cell? ⟨w4.heap.size,7,none⟩ = some (.int .i64 h.b.vs) ∧ wz.cell? ⟨w4.heap.size,8,none⟩ = some (.slice an2 h.b.ns.length cn2) ∧ wz.cell? ⟨w4.heap.size,9,none⟩ = some (.string h.setup) ∧ wz.cell? ⟨w4.heap.size,10,none⟩ = some (.slice as2 h.sound.length cs2)):=Lib.hid fun wz hb=>⟨kc hb f0,kc hb f1,kc hb g0,kc hb g1,kc hb k0,kc hb k1,kc hb c0,kc hb c1,kc hb c2,kc hb c3,kc hb c4,kc hb c5,kc hb c6,kc hb c7,kc hb c8,kc hb c9,kc hb c10,kc hb d0,kc hb d1,kc hb d2,kc hb d3,kc hb d4,kc hb d5,kc hb d6,kc hb d7,kc hb d8,kc hb d9,kc hb d10⟩
  have hbk:=Below.refl W4.heap.size W4
  clear h5W h4W h3W h2W hW hr1 hr2 hb1 hb2 hb3 hb4 hb5 hba hbb hbc hbd hbl hbm hbn o0 o1 o2 o3 q1 q2 q3 q4 KP KP2 KPR KPR2 KOF KOF2 KSE K2 KA HTO O0 O1 O2 O3
  have KA2:=Lib.hid ka
  have KB:=Lib.hid kb
  have KO1:=Lib.hid ko1
  have KO2:=Lib.hid ko2
  have KS:=Lib.hid ks
  have HRA:=Lib.hid hrA
  have HRB:=Lib.hid hrB
  have HTW:=Lib.hid hTW
  have HBW:=Lib.hid hbW
  clear ka kb ko1 ko2 ks hrA hrB hTW hbW
  go_region_held3 (fun w'=>w'.cell? ⟨w3.heap.size,0,none⟩ = some (.int .i64 0) ∧ w'.cell? ⟨w3.heap.size,1,none⟩ = some (.int .i64 0) ∧ w'.cell? ⟨w4.heap.size + 1,0,none⟩ = some (.int .i64 0) ∧ w'.cell? ⟨w4.heap.size + 1,1,none⟩ = some (.int .i64 0) ∧ w'.cell? ⟨w5.heap.size,0,none⟩ = some (.int .i64 0) ∧ w'.cell? ⟨w5.heap.size,1,none⟩ = some (.int .i64 0) ∧ w'.cell? ⟨w1.heap.size,0,none⟩ = some (.int .u8 f.first.fl.toNat) ∧ w'.cell? ⟨w1.heap.size,1,none⟩ = some (.int .u64 f.first.po) ∧ w'.cell? ⟨w1.heap.size,2,none⟩ = some (.int .u32 f.first.se) ∧ w'.cell? ⟨w1.heap.size,3,none⟩ = some (.int .u32 f.first.nu) ∧ w'.cell? ⟨w1.heap.size,4,none⟩ = some (.string f.first.la) ∧ w'.cell? ⟨w1.heap.size,5,none⟩ = some (.string f.first.bo) ∧ w'.cell? ⟨w1.heap.size,6,none⟩ = some (.string f.b.vt) ∧ w'.cell? ⟨w1.heap.size,7,none⟩ = some (.int .i64 f.b.vs) ∧ w'.cell? ⟨w1.heap.size,8,none⟩ = some (.slice an f.b.ns.length cn) ∧ w'.cell? ⟨w1.heap.size,9,none⟩ = some (.string f.setup) ∧ w'.cell? ⟨w1.heap.size,10,none⟩ = some (.slice as_ f.sound.length cs_) ∧ w'.cell? ⟨w4.heap.size,0,none⟩ = some (.int .u8 h.first.fl.toNat) ∧ w'.cell? ⟨w4.heap.size,1,none⟩ = some (.int .u64 h.first.po) ∧ w'.cell? ⟨w4.heap.size,2,none⟩ = some (.int .u32 h.first.se) ∧ w'.cell? ⟨w4.heap.size,3,none⟩ = some (.int .u32 h.first.nu) ∧ w'.cell? ⟨w4.heap.size,4,none⟩ = some (.string h.first.la) ∧ w'.cell? ⟨w4.heap.size,5,none⟩ = some (.string h.first.bo) ∧ w'.cell? ⟨w4.heap.size,6,none⟩ = some (.string h.b.vt) ∧ w'.cell? ⟨w4.heap.size,7,none⟩ = some (.int .i64 h.b.vs) ∧ w'.cell? ⟨w4.heap.size,8,none⟩ = some (.slice an2 h.b.ns.length cn2) ∧ w'.cell? ⟨w4.heap.size,9,none⟩ = some (.string h.setup) ∧ w'.cell? ⟨w4.heap.size,10,none⟩ = some (.slice as2 h.sound.length cs2))
      (first | (with_reducible refine KSA.out _ ?_;exact hbk) | go_keep)
      (first
        | (go_at_call 7;refine (KA2.out _ ?_).mono ?_;(first | exact hbk | exact bdn hbk _ | exact hbk.drew);clear hbk;rintro e w10 ⟨rfl,hbk⟩)
        | (go_at_call 18;refine (KB.out _ ?_).mono ?_;(first | exact hbk | exact bdn hbk _ | exact hbk.drew);clear hbk;rintro e w11 ⟨rfl,hbk⟩)
        | (go_at_call_of 8 (Value.agg #[.int .u8 f.first.fl.toNat,.int .u64 f.first.po,.int .u32 f.first.se,.int .u32 f.first.nu,.string f.first.la,.string f.first.bo,.string f.b.vt,.int .i64 f.b.vs,.slice an f.b.ns.length cn,.string f.setup,.slice as_ f.sound.length cs_]);refine (KO1.out _ ?_).mono ?_;(first | exact hbk | exact bdn hbk _ | exact hbk.drew);clear hbk;rintro e w12 ⟨va,na,rfl,hva,hsa,hbk⟩)
        | (go_at_call_of 8 (Value.agg #[.int .u8 h.first.fl.toNat,.int .u64 h.first.po,.int .u32 h.first.se,.int .u32 h.first.nu,.string h.first.la,.string h.first.bo,.string h.b.vt,.int .i64 h.b.vs,.slice an2 h.b.ns.length cn2,.string h.setup,.slice as2 h.sound.length cs2]);refine (KO2.out _ ?_).mono ?_;(first | exact hbk | exact bdn hbk _ | exact hbk.drew);clear hbk;rintro e w13 ⟨vb,nb,rfl,hvb,hsb,hbk⟩)
        | (go_at_call 19;refine (KS.out _ _ _ _ _ ?_ ?_ ?_).mono ?_;(first | exact hva.keep hsb | exact (hva.keep (Below.refl _ _).drew).keep hsb | exact (hva.keep hsb).keep (Below.refl _ _).drew | exact ((hva.keep (Below.refl _ _).drew).keep hsb).keep (Below.refl _ _).drew);(first | exact hvb | exact hvb.keep (Below.refl _ _).drew);(first | exact hbk | exact bdn hbk _ | exact hbk.drew);clear hbk;rintro e w14 ⟨rfl,hbk⟩))
  go_wp2_with fail
  go_ret
  exact ⟨rfl,bt HBO.out (bt HBW.out hbk)⟩
theorem walk (s : ByteArray) (fb : Int) (g : Bool) (w0 : s.size ≤ maxLen) (w1 : (Lit.int .i64 fb).wf = true) (w : World) (hT : TW w) :
    Calls Tryz.prog 4 #[.string s,.int .i64 fb,.bool g] w fun e w'=>e = .returned (.bool true) ∧ Below w.heap.size w w':=by
  by_cases hs : 4000 < s.size
  · exact walk_long s fb g hs w hT
  · by_cases hb : (oparM crcN (RM fb g) s).2.1 = 0
    · exact walk_good s fb g (by omega) w hT hb
    · exact walk_bad s fb g (by omega) w hT hb
set_option maxRecDepth 100000 in
theorem lifted (os : Os) (started : os.Started) (H : Type) (enc : TypeId × Value → H) :
    ReturnsInHanded {} Tryz.checked os 4 .any (fun w args=>(Rows.oggTwiceSpec.pre enc Tryz.prog Tryz.f4 Rows.oggTwiceRow.domain false w args ∧ laidMetH Tryz.prog laid3 w) ∧ sizedMet enc Tryz.prog Tryz.f4 (OpenSpec.ofChange Rows.oggTwiceSpec) false w args) (Rows.oggTwiceSpec.post enc Tryz.prog Tryz.f4 false true false false):=by
  refine handed_laid_shaped (C:=Tryz.checked) (X:=fun w=>laidMetH Tryz.prog laid3 w) (fun _ _ hh h=>h.of_heap hh) own started (by kernel_rfl) Tryz.func4
    (ChangeSpec.witness_shaped (enc:=enc) (C:=Tryz.checked) (os:=os) (X:=fun w _=>laidMetH Tryz.prog laid3 w) false (World.laidAll Tryz.prog os laid3) #[.string ByteArray.empty,.int .i64 0,.bool false] 8 (World.laidAll_os _ _ _) (laid_shaped os _) (by kernel_rfl) (by kernel_rfl) (by kernel_rfl) (laid_met os _)) ?_
  intro W base args ds gs before hval0 hW hL hsh
  have hT:=tw_of_laid hL hsh
  have hval : ∀ (j : Nat) t v,Tryz.f4.params[j]? = some t → args[j]? = some v → Value.okWide Tryz.prog W .any base t v:=hval0
  have hW':=hW
  obtain ⟨p,q,hA0,hV,rfl,hfz,hnd⟩:=hW
  have hA : DataW.TrodAll enc Tryz.prog W 0 (fun _=>true) true Tryz.f4.params.toList args.toList ds p:=hA0
  rw [Tryz.params4] at hA hval
  obtain ⟨v0,vs0,d0,ds0,p0,q0,hargs,rfl,rfl,h0,r0⟩:=trodAll_cons hA
  obtain ⟨v1,vs1,d1,ds1,p1,q1,rfl,rfl,rfl,h1,r1⟩:=trodAll_cons r0
  obtain ⟨v2,vs2,d2,ds2,p2,q2,rfl,rfl,rfl,h2,r2⟩:=trodAll_cons r1
  obtain ⟨rfl,rfl,rfl⟩:=trodAll_nil r2
  obtain rfl : args = #[v0,v1,v2]:=by cases args;simp_all
  obtain ⟨rfl,rfl⟩:=trodVars_none hV
  obtain ⟨a0,rfl,rfl,rfl,w0⟩:=open_string Tryz.underlying9 (hval 0 9 v0 rfl rfl) h0
  obtain ⟨a1,rfl,rfl,rfl,w1⟩:=open_int Tryz.underlying3 (hval 1 3 v1 rfl rfl) h1
  obtain ⟨a2,rfl,rfl,rfl⟩:=open_bool Tryz.underlying4 (hval 2 4 v2 rfl rfl) h2
  clear hA0 hval0
  simp only [List.append_nil] at hW'
  refine (walk a0 a1 a2 w0 w1 W hT).mono fun e W' ⟨he,hg⟩=>?_
  subst he
  exact ⟨_,rfl,post_below (pa:=[]) (pv:=[]) hW' (trodAll_cons_mk (shut_bool Tryz.underlying4 _) trodAll_mk0) (trodAll_cons_mk (shut_string Tryz.underlying9 w0) (trodAll_cons_mk (shut_int Tryz.underlying3 w1) (trodAll_cons_mk (shut_bool Tryz.underlying4 a2) trodAll_mk0))) rfl hg⟩

theorem over : Rows.oggTwiceRow.holds Tryz.pinned (OpenSpec.ofChange Rows.oggTwiceSpec):=
  OpenClaim.holds_of_wide 4 Tryz.f4 rfl rfl rfl rfl rfl rfl rfl ⟨rfl,rfl,rfl,rfl,rfl⟩ rfl rfl rfl rfl rfl k_named Tryz.func4 k_joined (of_decide_eq_true (by kernel_rfl)) k_wrap
    (fun os started H enc _=>lifted os started H enc)

/-- THE STATEMENT: the tied card -/
theorem proved : Rows.OggTwiceCardSaid:=
  Claim7.holds_tied_plain_at .later [] [.data,.data,.pinned] true Rows.oggTwiceCard.stood.harness Rows.oggTwiceCard.stood.looks over (fun _ h=>by cases h) k_wf (fun _ h=>by cases h) oggTwice_row_tie rfl ⟨rfl,rfl⟩ k_main rfl
    (fun f fn hf hfn=>by
      obtain rfl : f = 4:=Option.some.inj (k_named.symm.trans hf) |>.symm
      obtain rfl : fn = Tryz.f4:=(Option.some.inj (Tryz.func4.symm.trans hfn)).symm
      exact ⟨k_looks,fun j t ht=>by
        rw [Tryz.params4] at ht
        have hm : t ∈ [9,3,4]:=by simpa using Array.mem_of_getElem? ht
        exact (show Tryz.prog.wantsStandIn t = false by simpa using List.all_eq_true.1 k_stand t hm)⟩)
    k_goes
#print axioms proved
end Go.Proofs.YtnbglcaeekppjaaGreatDoor.oggTwice

