/- FlacReads holds: what any file has, or what is wrong and where, are the document's, whatever the options. No condition. -/
import Derived.Test.YtmfjmgjhfplijaaGreatDoorTie
import Derived.Test.YtmfjmgjhfplijaaGreatDoorMKz
import Derived.Test.YtmfjmgjhfplijaaGreatDoorMKFlacReads
import Derived.Test.YtmfjmgjhfplijaaGreatDoorMGe
import Derived.Test.YtmfjmgjhfplijaaGreatDoorMGf
set_option linter.unusedVariables false
set_option linter.unusedSimpArgs false
set_option maxHeartbeats 16000000
namespace Go.Proofs.YtmfjmgjhfplijaaGreatDoor.flacReads
open Go.ChangeShapes Go.WideShapes Go.ChangeAt Go.RowKit Go.ChangeMaps
theorem add_bad {R : List UInt8 → Int} {f : Fl} {x y : RS} {h : Nat} {t : ByteArray} (hb : (addF R f x y h t).2.1 ≠ 0) : (addF R f x y h t).1 = noFl:=by
 unfold addF at hb ⊢
 split
 · rfl
 · rename_i h1
   rw [if_neg h1] at hb
   split
   · rfl
   · rename_i h2
     rw [if_neg h2] at hb
     split
     · rfl
     · rename_i h3
       rw [if_neg h3] at hb
       split
       · rename_i h4
         rw [if_pos h4] at hb
         split
         · rfl
         · rename_i b hb2
           rw [hb2] at hb
           exact absurd rfl hb
       · rename_i h4
         rw [if_neg h4] at hb
         exact absurd rfl hb
theorem fpar_bad {R : List UInt8 → Int} : ∀ (k : Nat) (x : RS) (f : Fl),(fparL R k x f).2.1 ≠ 0 → (fparL R k x f).1 = noFl:=by
 intro k
 induction k with
 | zero=>intro x f _;rfl
 | succ k ih=>
  intro x f h
  unfold fparL at h ⊢
  by_cases h1 : (addF R f x (headR x).1 (headR x).2.1 (headR x).2.2).2.1 ≠ 0
  · rw [if_pos h1]
    exact add_bad h1
  · rw [if_neg h1] at h ⊢
    by_cases h2 : 128 ≤ (headR x).2.1
    · rw [if_pos h2] at h
      exact absurd rfl h
    · rw [if_neg h2] at h ⊢
      exact ih _ _ h
theorem rawN_mem {l : List Mt} {m : Mt} (h : m ∈ l) : m.body.size ≤ rawN l:=by
 induction l with
 | nil=>cases h
 | cons a l ih=>
  rw [rawN_cons]
  rcases List.mem_cons.1 h with rfl | h
  · omega
  · have:=ih h;omega
theorem rawN_len (l : List Mt) : l.length ≤ rawN l:=by
 induction l with
 | nil=>exact Nat.zero_le _
 | cons a l ih=>rw [rawN_cons,List.length_cons];omega
theorem read_sm (R : List UInt8 → Int) (s : ByteArray) (hs : s.size ≤ 2000) : smFl (fparM R s).1 ∧ ∀ m ∈ (fparM R s).1.ms,m.kind < 256:=by
 by_cases hb : (fparM R s).2.1 = 0
 · have G:=fparse_good s hb
   generalize (fparM R s).1 = f at *
   have h1:=G.rn
   have h2:=rawN_len f.ms
   have h3 : ∀ m ∈ f.ms,m.body.size ≤ 2000:=fun m hm=>by have:=rawN_mem hm;omega
   obtain ⟨b1,b2,b3⟩:=G.bd
   obtain ⟨_,g2,_⟩:=(fcheck_iff f).1 G.ck
   have h6:=preOK_kind f f.ms 0 false g2
   exact ⟨⟨⟨by omega,by omega,fun n hn=>by have:=b3 n hn;omega⟩,by omega,fun m hm=>by have:=h3 m hm;omega,by omega,by omega⟩,fun m hm=>by have:=h6 m hm;omega⟩
 · have h : (fparM R s).1 = noFl:=fpar_bad _ _ _ hb
   rw [h]
   exact ⟨⟨⟨by decide,by decide,fun n hn=>by cases hn⟩,by decide,(fun m hm=>by cases hm),by decide,by decide⟩,fun m hm=>by cases hm⟩
theorem _root_.Go.Proofs.YtmfjmgjhfplijaaGreatDoor.FlRow.keep5 {w w' : World} {vm vb : Value} {f : Fl} (h : FlRow w vm vb f) (hb : Below w.heap.size w w') : FlRow w' vm vb f:=⟨h.1.keep hb,h.2.keep hb⟩
theorem _root_.Go.Proofs.YtmfjmgjhfplijaaGreatDoor.RfRow.keep5 {w w' : World} {vm vb : Value} {f : Fl} (h : RfRow w vm vb f) (hb : Below w.heap.size w w') : RfRow w' vm vb f:=⟨h.1.keep hb,h.2.keep hb⟩
set_option maxRecDepth 100000 in
theorem walk_long (s : ByteArray) (fb : Int) (g : Bool) (hs : 2000 < s.size) (w : World) (hT : TW w) :
 Calls Tryz.prog 3 #[.string s,.int .i64 fb,.bool g] w fun e w'=>e = .returned (.bool true) ∧ Below w.heap.size w w':=by
 have KA:=Lib.hid awake21in_any
 have hgt : (s.size : Int) > 2000:=by omega
 clear hs
 go_enter Tryz.func3,Tryz.ntmps3
 go_wp2_with (go_at_call 8;refine (KA.out _ hT).mono ?_;rintro e w1 ⟨rfl,hb1⟩)
 go_ret
 exact ⟨rfl,hb1⟩
set_option maxRecDepth 100000 in
theorem walk_good (s : ByteArray) (fb : Int) (g : Bool) (hs : s.size ≤ 2000) (w : World) (hT : TW w) :
 Calls Tryz.prog 3 #[.string s,.int .i64 fb,.bool g] w fun e w'=>e = .returned (.bool true) ∧ Below w.heap.size w w':=by
 have KA:=Lib.hid awake21in_any
 have hgt : ¬ (s.size : Int) > 2000:=by omega
 have kp : ∀ w',TW w' → Calls Tryz.prog 9 #[.string s,.agg #[.int .i64 0,.int .i64 fb,.bool g,.int .i64 0]] w' (FParsePost (fparM (RM fb g) s) w'):=fun w' hT'=>fparse_any s 0 fb 0 g w' hT' (by omega)
 have kr : ∀ w',Calls Tryz.prog 10 #[.string s,.int .i64 fb,.bool g] w' (RFParsePost (fparM (RM fb g) s) w'):=fun w'=>r21parse_any s fb g w' (by omega)
 obtain ⟨sm,sk⟩:=read_sm (RM fb g) s hs
 unfold FParsePost at kp
 unfold RFParsePost at kr
 generalize fparM (RM fb g) s = P at *
 obtain ⟨f,ce,ca⟩:=P
 simp only at kp kr sm sk
 have kof : ∀ w' vm vb,FlRow w' vm vb f → Calls Tryz.prog 13 #[flV vm vb f] w' fun e w''=>∃ vm' vb',e = .returned (rfV vm' vb' f) ∧ RfRow w'' vm' vb' f ∧ Below w'.heap.size w' w'':=fun w' vm vb hr=>
  (fof_any vm vb f w' hr sm sk).mono fun e w'' ⟨a,b,h1,h2,h3,h4⟩=>⟨a,b,h1,⟨row_owns h2,row_owns h3⟩,h4⟩
 have kse : ∀ w' va na vb nb,RfRow w' va na f → RfRow w' vb nb f → Calls Tryz.prog 12 #[rfV va na f,rfV vb nb f,.bool true] w' fun e w''=>e = .returned (.bool true) ∧ Below w'.heap.size w' w'':=fun w' va na vb nb h1 h2=>
  fsameT_any va na vb nb f w' h1 h2 sm.2.2.2.1 sm.2.1
 unfold flV at kp kof
 unfold rfV at kr kof kse
 clear hs sm sk
 have KP:=Lib.hid kp
 have KR:=Lib.hid kr
 have KOF:=Lib.hid kof
 have KSE:=Lib.hid kse
 clear kp kr kof kse
 go_enter Tryz.func3,Tryz.ntmps3
 go_wp2_with (first
  | (go_at_call 9;go_loud (with_reducible refine (KP.out _ hT).mono ?_);go_loud (rintro e w1 ⟨hb1,vm,vb,rfl,q1,q2⟩);go_loud (obtain ⟨am,cm,rfl⟩:=orow_form q1);go_loud (obtain ⟨an,cn,rfl⟩:=orow_form q2);go_loud (have hba:=bal (bal hb1 (.cells #[.slice am f.ms.length cm,.string f.b.vt,.int .i64 f.b.vs,.slice an f.b.ns.length cn,.int .i64 f.at_,.string f.sound] 31)) (.cells #[.int .i64 ce,.int .i64 ca] 34));go_loud (have hbl:=bal (bal (Below.refl w1.heap.size w1) (.cells #[.slice am f.ms.length cm,.string f.b.vt,.int .i64 f.b.vs,.slice an f.b.ns.length cn,.int .i64 f.at_,.string f.sound] 31)) (.cells #[.int .i64 ce,.int .i64 ca] 34));go_loud (have hr1 : FlRow w1 (.slice am f.ms.length cm) (.slice an f.b.ns.length cn) f:=⟨row_owns q1,row_owns q2⟩))
  | (go_at_call 10;go_loud (with_reducible refine (KR.out _).mono ?_);go_loud (rintro e w2 ⟨hb2,vm2,vb2,rfl,hr2⟩);go_loud (obtain ⟨⟨am2,cm2,rfl,hc2⟩,⟨an2,cn2,rfl,hn2⟩⟩:=hr2)))
 have hr2 : RfRow w2 (.slice am2 f.ms.length cm2) (.slice an2 f.b.ns.length cn2) f:=⟨⟨_,_,rfl,hc2⟩,⟨_,_,rfl,hn2⟩⟩
 obtain ⟨W4,hW4⟩ : ∃ W4,W4 = w2.alloc (.cells #[.slice am2 f.ms.length cm2,.string ⟨#[]⟩,.string f.b.vt,.int .i64 f.b.vs,.slice an2 f.b.ns.length cn2,.int .i64 f.at_,.string f.sound] 47):=⟨_,rfl⟩
 have h2W : Below w2.heap.size w2 W4:=by rw [hW4];exact bal (Below.refl _ _) _
 have h1W:=bt hb2 h2W
 have hbW:=bt hba h1W
 have d0:=(((Live.fresh w1 #[.slice am f.ms.length cm,.string f.b.vt,.int .i64 f.b.vs,.slice an f.b.ns.length cn,.int .i64 f.at_,.string f.sound] 31 0 _ rfl).alloc (.cells #[.int .i64 ce,.int .i64 ca] 34)).keep h1W).1
 have d1:=(((Live.fresh w1 #[.slice am f.ms.length cm,.string f.b.vt,.int .i64 f.b.vs,.slice an f.b.ns.length cn,.int .i64 f.at_,.string f.sound] 31 1 _ rfl).alloc (.cells #[.int .i64 ce,.int .i64 ca] 34)).keep h1W).1
 have d2:=(((Live.fresh w1 #[.slice am f.ms.length cm,.string f.b.vt,.int .i64 f.b.vs,.slice an f.b.ns.length cn,.int .i64 f.at_,.string f.sound] 31 2 _ rfl).alloc (.cells #[.int .i64 ce,.int .i64 ca] 34)).keep h1W).1
 have d3:=(((Live.fresh w1 #[.slice am f.ms.length cm,.string f.b.vt,.int .i64 f.b.vs,.slice an f.b.ns.length cn,.int .i64 f.at_,.string f.sound] 31 3 _ rfl).alloc (.cells #[.int .i64 ce,.int .i64 ca] 34)).keep h1W).1
 have d4:=(((Live.fresh w1 #[.slice am f.ms.length cm,.string f.b.vt,.int .i64 f.b.vs,.slice an f.b.ns.length cn,.int .i64 f.at_,.string f.sound] 31 4 _ rfl).alloc (.cells #[.int .i64 ce,.int .i64 ca] 34)).keep h1W).1
 have d5:=(((Live.fresh w1 #[.slice am f.ms.length cm,.string f.b.vt,.int .i64 f.b.vs,.slice an f.b.ns.length cn,.int .i64 f.at_,.string f.sound] 31 5 _ rfl).alloc (.cells #[.int .i64 ce,.int .i64 ca] 34)).keep h1W).1
 have f0:=((Live.fresh (w1.alloc (.cells #[.slice am f.ms.length cm,.string f.b.vt,.int .i64 f.b.vs,.slice an f.b.ns.length cn,.int .i64 f.at_,.string f.sound] 31)) #[.int .i64 ce,.int .i64 ca] 34 0 _ rfl).keep h1W).1
 have f1:=((Live.fresh (w1.alloc (.cells #[.slice am f.ms.length cm,.string f.b.vt,.int .i64 f.b.vs,.slice an f.b.ns.length cn,.int .i64 f.at_,.string f.sound] 31)) #[.int .i64 ce,.int .i64 ca] 34 1 _ rfl).keep h1W).1
 rw [World.size_alloc] at f0 f1
 have e0 : W4.cell? ⟨w2.heap.size,0,none⟩ = some (.slice am2 f.ms.length cm2):=by rw [hW4];exact (Live.fresh w2 #[.slice am2 f.ms.length cm2,.string ⟨#[]⟩,.string f.b.vt,.int .i64 f.b.vs,.slice an2 f.b.ns.length cn2,.int .i64 f.at_,.string f.sound] 47 0 _ rfl).1
 have e1 : W4.cell? ⟨w2.heap.size,1,none⟩ = some (.string ⟨#[]⟩):=by rw [hW4];exact (Live.fresh w2 #[.slice am2 f.ms.length cm2,.string ⟨#[]⟩,.string f.b.vt,.int .i64 f.b.vs,.slice an2 f.b.ns.length cn2,.int .i64 f.at_,.string f.sound] 47 1 _ rfl).1
 have e2 : W4.cell? ⟨w2.heap.size,2,none⟩ = some (.string f.b.vt):=by rw [hW4];exact (Live.fresh w2 #[.slice am2 f.ms.length cm2,.string ⟨#[]⟩,.string f.b.vt,.int .i64 f.b.vs,.slice an2 f.b.ns.length cn2,.int .i64 f.at_,.string f.sound] 47 2 _ rfl).1
 have e3 : W4.cell? ⟨w2.heap.size,3,none⟩ = some (.int .i64 f.b.vs):=by rw [hW4];exact (Live.fresh w2 #[.slice am2 f.ms.length cm2,.string ⟨#[]⟩,.string f.b.vt,.int .i64 f.b.vs,.slice an2 f.b.ns.length cn2,.int .i64 f.at_,.string f.sound] 47 3 _ rfl).1
 have e4 : W4.cell? ⟨w2.heap.size,4,none⟩ = some (.slice an2 f.b.ns.length cn2):=by rw [hW4];exact (Live.fresh w2 #[.slice am2 f.ms.length cm2,.string ⟨#[]⟩,.string f.b.vt,.int .i64 f.b.vs,.slice an2 f.b.ns.length cn2,.int .i64 f.at_,.string f.sound] 47 4 _ rfl).1
 have e5 : W4.cell? ⟨w2.heap.size,5,none⟩ = some (.int .i64 f.at_):=by rw [hW4];exact (Live.fresh w2 #[.slice am2 f.ms.length cm2,.string ⟨#[]⟩,.string f.b.vt,.int .i64 f.b.vs,.slice an2 f.b.ns.length cn2,.int .i64 f.at_,.string f.sound] 47 5 _ rfl).1
 have e6 : W4.cell? ⟨w2.heap.size,6,none⟩ = some (.string f.sound):=by rw [hW4];exact (Live.fresh w2 #[.slice am2 f.ms.length cm2,.string ⟨#[]⟩,.string f.b.vt,.int .i64 f.b.vs,.slice an2 f.b.ns.length cn2,.int .i64 f.at_,.string f.sound] 47 6 _ rfl).1
 have hTW:=hT.bel hbW
 have hrA:=hr1.keep5 (bt hbl h1W)
 have hrB:=hr2.keep5 h2W
 rw [← hW4]
 clear hW4
 have ka : ∀ w',Below W4.heap.size W4 w' → Calls Tryz.prog 8 #[] w' fun e w''=>e = .returned (.bool true) ∧ Below W4.heap.size W4 w'':=fun w' hb=>(KA.out w' (hTW.bel hb)).mono fun e w'' q=>⟨q.1,bt hb q.2⟩
 have kb : ∀ w',Below W4.heap.size W4 w' → Calls Tryz.prog 11 #[.int .i64 ce,.int .i64 ca] w' fun e w''=>e = .returned (.agg #[.int .i64 ce,.int .i64 ca]) ∧ Below W4.heap.size W4 w'':=fun w' hb=>(fault_any ce ca w').mono fun e w'' q=>⟨q.1,bt hb q.2⟩
 have ko1 : ∀ w',Below W4.heap.size W4 w' → Calls Tryz.prog 13 #[.agg #[.slice am f.ms.length cm,.string f.b.vt,.int .i64 f.b.vs,.slice an f.b.ns.length cn,.int .i64 f.at_,.string f.sound]] w' fun e w''=>∃ va na,e = .returned (.agg #[va,.string ⟨#[]⟩,.string f.b.vt,.int .i64 f.b.vs,na,.int .i64 f.at_,.string f.sound]) ∧ RfRow w'' va na f ∧ Below w'.heap.size w' w'' ∧ Below W4.heap.size W4 w'':=fun w' hb=>(KOF.out w' _ _ (hrA.keep5 hb)).mono fun e w'' ⟨va,na,q1,q2,q3⟩=>⟨va,na,q1,q2,q3,bt hb q3⟩
 have ks : ∀ w' va na,RfRow w' va na f → Below W4.heap.size W4 w' → Calls Tryz.prog 12 #[.agg #[va,.string ⟨#[]⟩,.string f.b.vt,.int .i64 f.b.vs,na,.int .i64 f.at_,.string f.sound],.agg #[.slice am2 f.ms.length cm2,.string ⟨#[]⟩,.string f.b.vt,.int .i64 f.b.vs,.slice an2 f.b.ns.length cn2,.int .i64 f.at_,.string f.sound],.bool true] w' fun e w''=>e = .returned (.bool true) ∧ Below W4.heap.size W4 w'':=fun w' va na q1 hb=>(KSE.out w' va na _ _ q1 (hrB.keep5 hb)).mono fun e w'' q=>⟨q.1,bt hb q.2⟩
 have kE : ∀ w,(binOp .eql 34 (.agg #[.int .i64 ce,.int .i64 ca]) (.agg #[.int .i64 ce,.int .i64 ca])).run Tryz.prog w = .ok (.bool true) w:=fun w=>by have:=eqFault ce ca ce ca w;simpa using this
 have kG:=fun x y w=>guardFault .eql x y #[.int .i64 ce,.int .i64 ca] #[.int .i64 ce,.int .i64 ca] w
 have KSA : Hid (∀ wz,Below W4.heap.size W4 wz → wz.cell? ⟨w1.heap.size,0,none⟩ = some (.slice am f.ms.length cm) ∧ wz.cell? ⟨w1.heap.size,1,none⟩ = some (.string f.b.vt) ∧ wz.cell? ⟨w1.heap.size,2,none⟩ = some (.int .i64 f.b.vs) ∧ wz.cell? ⟨w1.heap.size,3,none⟩ = some (.slice an f.b.ns.length cn) ∧ wz.cell? ⟨w1.heap.size,4,none⟩ = some (.int .i64 f.at_) ∧ wz.cell? ⟨w1.heap.size,5,none⟩ = some (.string f.sound) ∧ wz.cell? ⟨w1.heap.size + 1,0,none⟩ = some (.int .i64 ce) ∧ wz.cell? ⟨w1.heap.size + 1,1,none⟩ = some (.int .i64 ca) ∧ wz.cell? ⟨w2.heap.size,0,none⟩ = some (.slice am2 f.ms.length cm2) ∧ wz.cell? ⟨w2.heap.size,1,none⟩ = some (.string ⟨#[]⟩) ∧ wz.cell? ⟨w2.heap.size,2,none⟩ = some (.string f.b.vt) ∧ wz.cell? ⟨w2.heap.size,3,none⟩ = some (.int .i64 f.b.vs) ∧ wz.cell? ⟨w2.heap.size,4,none⟩ = some (.slice an2 f.b.ns.length cn2) ∧ wz.cell? ⟨w2.heap.size,5,none⟩ = some (.int .i64 f.at_) ∧ wz.cell? ⟨w2.heap.size,6,none⟩ = some (.string f.sound)):=Lib.hid fun wz hb=>⟨kc hb d0,kc hb d1,kc hb d2,kc hb d3,kc hb d4,kc hb d5,kc hb f0,kc hb f1,kc hb e0,kc hb e1,kc hb e2,kc hb e3,kc hb e4,kc hb e5,kc hb e6⟩
 have hbk:=Below.refl W4.heap.size W4
 clear h1W h2W hr1 hr2 hb1 hb2 hba hbl q1 q2 hc2 hn2 KP KR KOF KSE KA
 have KA2:=Lib.hid ka
 have KB:=Lib.hid kb
 have KO1:=Lib.hid ko1
 have KS:=Lib.hid ks
 have HRA:=Lib.hid hrA
 have HRB:=Lib.hid hrB
 have HTW:=Lib.hid hTW
 have HBW:=Lib.hid hbW
 clear ka kb ko1 ks hrA hrB hTW hbW
 go_region_held3 (fun w'=>w'.cell? ⟨w1.heap.size,0,none⟩ = some (.slice am f.ms.length cm) ∧ w'.cell? ⟨w1.heap.size,1,none⟩ = some (.string f.b.vt) ∧ w'.cell? ⟨w1.heap.size,2,none⟩ = some (.int .i64 f.b.vs) ∧ w'.cell? ⟨w1.heap.size,3,none⟩ = some (.slice an f.b.ns.length cn) ∧ w'.cell? ⟨w1.heap.size,4,none⟩ = some (.int .i64 f.at_) ∧ w'.cell? ⟨w1.heap.size,5,none⟩ = some (.string f.sound) ∧ w'.cell? ⟨w1.heap.size + 1,0,none⟩ = some (.int .i64 ce) ∧ w'.cell? ⟨w1.heap.size + 1,1,none⟩ = some (.int .i64 ca) ∧ w'.cell? ⟨w2.heap.size,0,none⟩ = some (.slice am2 f.ms.length cm2) ∧ w'.cell? ⟨w2.heap.size,1,none⟩ = some (.string ⟨#[]⟩) ∧ w'.cell? ⟨w2.heap.size,2,none⟩ = some (.string f.b.vt) ∧ w'.cell? ⟨w2.heap.size,3,none⟩ = some (.int .i64 f.b.vs) ∧ w'.cell? ⟨w2.heap.size,4,none⟩ = some (.slice an2 f.b.ns.length cn2) ∧ w'.cell? ⟨w2.heap.size,5,none⟩ = some (.int .i64 f.at_) ∧ w'.cell? ⟨w2.heap.size,6,none⟩ = some (.string f.sound))
  (first | (with_reducible refine KSA.out _ ?_;exact hbk) | go_keep)
  (first
   | (go_at_call 8;refine (KA2.out _ ?_).mono ?_;(first | exact hbk | exact bdn hbk _ | exact hbk.drew);clear hbk;rintro e w10 ⟨rfl,hbk⟩)
   | (go_at_call 11;refine (KB.out _ ?_).mono ?_;(first | exact hbk | exact bdn hbk _ | exact hbk.drew);clear hbk;rintro e w11 ⟨rfl,hbk⟩)
   | (go_at_call 13;refine (KO1.out _ ?_).mono ?_;(first | exact hbk | exact bdn hbk _ | exact hbk.drew);clear hbk;rintro e w12 ⟨va,na,rfl,hva,hsa,hbk⟩)
   | (go_at_call 12;refine (KS.out _ _ _ ?_ ?_).mono ?_;(first | exact hva | exact hva.keep5 (Below.refl _ _).drew);(first | exact hbk | exact bdn hbk _ | exact hbk.drew);clear hbk;rintro e w14 ⟨rfl,hbk⟩))
 go_wp2_with fail
 go_ret
 exact ⟨rfl,bt HBW.out hbk⟩
theorem walk (s : ByteArray) (fb : Int) (g : Bool) (w0 : s.size ≤ maxLen) (w1 : (Lit.int .i64 fb).wf = true) (w : World) (hT : TW w) :
 Calls Tryz.prog 3 #[.string s,.int .i64 fb,.bool g] w fun e w'=>e = .returned (.bool true) ∧ Below w.heap.size w w':=by
 by_cases hs : 2000 < s.size
 · exact walk_long s fb g hs w hT
 · exact walk_good s fb g (by omega) w hT
set_option maxRecDepth 100000 in
theorem lifted (os : Os) (started : os.Started) (H : Type) (enc : TypeId × Value → H) :
 ReturnsInHanded {} Tryz.checked os 3 .any (fun w args=>(Rows.flacReadsSpec.pre enc Tryz.prog Tryz.f3 Rows.flacReadsRow.domain false w args ∧ laidMetH Tryz.prog laid3 w) ∧ sizedMet enc Tryz.prog Tryz.f3 (OpenSpec.ofChange Rows.flacReadsSpec) false w args) (Rows.flacReadsSpec.post enc Tryz.prog Tryz.f3 false true false false):=by
 refine handed_laid_shaped (C:=Tryz.checked) (X:=fun w=>laidMetH Tryz.prog laid3 w) (fun _ _ hh h=>h.of_heap hh) own started (by kernel_rfl) Tryz.func3
  (ChangeSpec.witness_shaped (enc:=enc) (C:=Tryz.checked) (os:=os) (X:=fun w _=>laidMetH Tryz.prog laid3 w) false (World.laidAll Tryz.prog os laid3) #[.string ByteArray.empty,.int .i64 0,.bool false] 8 (World.laidAll_os _ _ _) (laid_shaped os _) (by kernel_rfl) (by kernel_rfl) (by kernel_rfl) (laid_met os _)) ?_
 intro W base args ds gs before hval0 hW hL hsh
 have hT:=tw_of_laid hL hsh
 have hval : ∀ (j : Nat) t v,Tryz.f3.params[j]? = some t → args[j]? = some v → Value.okWide Tryz.prog W .any base t v:=hval0
 have hW':=hW
 obtain ⟨p,q,hA0,hV,rfl,hfz,hnd⟩:=hW
 have hA : DataW.TrodAll enc Tryz.prog W 0 (fun _=>true) true Tryz.f3.params.toList args.toList ds p:=hA0
 rw [Tryz.params3] at hA hval
 obtain ⟨v0,vs0,d0,ds0,p0,q0,hargs,rfl,rfl,h0,r0⟩:=trodAll_cons hA
 obtain ⟨v1,vs1,d1,ds1,p1,q1,rfl,rfl,rfl,h1,r1⟩:=trodAll_cons r0
 obtain ⟨v2,vs2,d2,ds2,p2,q2,rfl,rfl,rfl,h2,r2⟩:=trodAll_cons r1
 obtain ⟨rfl,rfl,rfl⟩:=trodAll_nil r2
 obtain rfl : args = #[v0,v1,v2]:=by cases args;simp_all
 obtain ⟨rfl,rfl⟩:=trodVars_none hV
 obtain ⟨a0,rfl,rfl,rfl,w0⟩:=open_string Tryz.underlying9 (hval 0 9 v0 rfl rfl) h0
 obtain ⟨a1,rfl,rfl,rfl,w1⟩:=open_int Tryz.underlying3 (hval 1 3 v1 rfl rfl) h1
 obtain ⟨a2,rfl,rfl,rfl⟩:=open_bool Tryz.underlying4 (hval 2 4 v2 rfl rfl) h2
 clear hA0 hval0
 simp only [List.append_nil] at hW'
 refine (walk a0 a1 a2 w0 w1 W hT).mono fun e W' ⟨he,hg⟩=>?_
 subst he
 exact ⟨_,rfl,post_below (pa:=[]) (pv:=[]) hW' (trodAll_cons_mk (shut_bool Tryz.underlying4 _) trodAll_mk0) (trodAll_cons_mk (shut_string Tryz.underlying9 w0) (trodAll_cons_mk (shut_int Tryz.underlying3 w1) (trodAll_cons_mk (shut_bool Tryz.underlying4 a2) trodAll_mk0))) rfl hg⟩
theorem over : Rows.flacReadsRow.holds Tryz.pinned (OpenSpec.ofChange Rows.flacReadsSpec):=
 OpenClaim.holds_of_wide 3 Tryz.f3 rfl rfl rfl rfl rfl rfl rfl ⟨rfl,rfl,rfl,rfl,rfl⟩ rfl rfl rfl rfl rfl k_named Tryz.func3 k_joined (of_decide_eq_true (by kernel_rfl)) k_wrap
  (fun os started H enc _=>lifted os started H enc)
theorem proved : Rows.FlacReadsCardSaid:=
 Claim7.holds_tied_plain_at .later [] [.data,.data,.pinned] true Rows.flacReadsCard.stood.harness Rows.flacReadsCard.stood.looks over (fun _ h=>by cases h) k_wf (fun _ h=>by cases h) flacReads_row_tie rfl ⟨rfl,rfl⟩ k_main rfl
  (fun f fn hf hfn=>by
   obtain rfl : f = 3:=Option.some.inj (k_named.symm.trans hf) |>.symm
   obtain rfl : fn = Tryz.f3:=(Option.some.inj (Tryz.func3.symm.trans hfn)).symm
   exact ⟨k_looks,fun j t ht=>by
    rw [Tryz.params3] at ht
    have hm : t ∈ [9,3,4]:=by simpa using Array.mem_of_getElem? ht
    exact (show Tryz.prog.wantsStandIn t = false by simpa using List.all_eq_true.1 k_stand t hm)⟩)
  k_goes
#print axioms proved
end Go.Proofs.YtmfjmgjhfplijaaGreatDoor.flacReads
