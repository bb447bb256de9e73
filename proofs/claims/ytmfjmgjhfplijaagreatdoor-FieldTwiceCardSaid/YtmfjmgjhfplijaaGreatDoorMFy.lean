/- Fy -/
import Derived.Test.YtmfjmgjhfplijaaGreatDoorMFb
set_option linter.unusedVariables false
set_option linter.unusedSimpArgs false
set_option maxHeartbeats 16000000
namespace Go.Proofs.YtmfjmgjhfplijaaGreatDoor
open Go.RowKit
section
variable {P : Program} {ops : Array Oper} {rest : List Oper} {o : Oper} {a : Act} {Q : Exit → Act → World → Prop}
theorem wpList_pushN (hgd : o.guard = none) (s x : Operand) (t e : TypeId) (ho : o.op = .call { callee:=.builtin .append,args:=#[s,x],argTypes:=#[t,t] }) (ht : P.underlying t = some (.slice e))
 (z : Value) (size bytes : Nat) (hi : (P.info? e).map (fun i=>(i.zero,i.size,i.bytes)) = some (some z,size,bytes)) (hzs : z.cells.size = size) (hsz : 0 < size) (m : Nat)
 (W : World) (B : Nat) (v : Value) (n : Nat) (cs : List Value) (hs : a.eval s = v) (hown : W.ownsRow B e size v n cs) (news : Array Value) (hnl : news.size = m * size) (h1 : ∀ u ∈ news.toList,u.oneCell' = true)
 (hx : a.eval x = .slice (some ⟨W.heap.size,0,none⟩) m m) (hm : m ≤ 1000) (hlen : n < 70368744177664) (hby : (n + m) * bytes ≤ 140737488355328) (hB : B ≤ W.heap.size)
 (h : ∀ v' w',w'.ownsRow B e size v' (n + m) (cs ++ news.toList) → Below B W w' → (∀ k,k < W.heap.size → some k ≠ v.ownBlock → w'.heap[k]? = W.heap[k]?) → wpList P ops Q rest (a.put o.dst v') w') : wpList P ops Q (o :: rest) a (W.alloc (.cells news e)):=by
 obtain ⟨i0,hi,hz0,hz1,hz2⟩:=info_parts hi
 refine wpList_append_own _ hgd s x t ho B e i0 z size bytes ht hi hz0 hz1 hz2 hzs hsz v n cs hs (orow_bel hown ((Below.refl _ _).alloc (Nat.le_refl _) _)) ⟨W.heap.size,0,none⟩ m m news.toList hx (by simp [hnl]) ?_ h1 ?_ ?_ ?_ ?_
 · intro j u hj
   have ea : (⟨W.heap.size,0,none⟩ : Addr).add j = ⟨W.heap.size,j,none⟩:=by
    by_cases h0 : j = 0
    · subst h0;rfl
    · simp [Addr.add,h0]
   rw [ea,World.cell?_alloc_new]
   simpa using hj
 · unfold maxLen;omega
 · exact hby
 · simp;omega
 · intro v' w1 h2 h3 _
   refine h v' w1 h2 (((Below.refl _ _).alloc hB _).trans (orow_below (orow_bel hown ((Below.refl _ _).alloc (Nat.le_refl _) _)) h3 (by simp;omega))) fun k hk hne=>?_
   rw [h3.block k (by simp;omega) hne]
   exact ((Below.refl _ _).alloc (Nat.le_refl _) _).block k hk
end
def metaP (b : Bk) (last : Bool) (m : Mt) : List ByteArray:=[⟨#[UInt8.ofNat (m.kind + if last = true then 128 else 0)]⟩,⟨(be3 (bodyL b m).length).toArray⟩,⟨(bodyL b m).toArray⟩]
def metasP (b : Bk) : List Mt → List ByteArray
 | []=>[]
 | m :: r=>metaP b r.isEmpty m ++ metasP b r
theorem metaP_flat (b : Bk) (last : Bool) (m : Mt) : ((metaP b last m).map bl).flatten = metaL b last m:=by
 unfold metaP metaL
 simp [bl]
theorem metasP_flat (b : Bk) : ∀ (l : List Mt),((metasP b l).map bl).flatten = metasL b l:=by
 intro l
 induction l with
 | nil=>rfl
 | cons m l ih=>rw [metasP,List.map_append,List.flatten_append,ih,metaP_flat,metasL]
theorem metasP_len (b : Bk) : ∀ (l : List Mt),(metasP b l).length = 3 * l.length:=by
 intro l
 induction l with
 | nil=>rfl
 | cons m l ih=>rw [metasP,List.length_append,ih,List.length_cons];show 3 + _ = _;omega
theorem fparts_print (f : Fl) : (([letters] ++ metasP f.b f.ms ++ [f.sound]).map bl).flatten = fprintL f:=by
 unfold fprintL
 rw [List.map_append,List.map_append,List.flatten_append,List.flatten_append,metasP_flat]
 simp
theorem big_1 (h : Nat) : bigL (h : Int) (widthOf 1) = [UInt8.ofNat h]:=by
 have e : widthOf 1 = 1:=by decide
 rw [e]
 unfold bigL bigL
 simp only [List.nil_append,List.cons.injEq,and_true]
 apply UInt8.toNat_inj.1
 rw [UInt8.toNat_ofNat',UInt8.toNat_ofNat']
 omega
theorem big_3 (n : Nat) : bigL (n : Int) (widthOf 3) = be3 n:=by
 have e : widthOf 3 = 3:=by decide
 rw [e]
 unfold bigL bigL bigL bigL be3
 simp only [List.nil_append,List.cons_append,List.cons.injEq,and_true]
 refine ⟨?_,?_,?_⟩ <;> (apply UInt8.toNat_inj.1;rw [UInt8.toNat_ofNat',UInt8.toNat_ofNat'];omega)
theorem preOK_kind (f : Fl) : ∀ (l : List Mt) (i : Nat) (noted : Bool),preOK f l i noted → ∀ m ∈ l,m.kind ≤ 126:=by
 intro l
 induction l with
 | nil=>intro i noted _ m hm;cases hm
 | cons a l ih=>
  intro i noted h m hm
  obtain ⟨h1,h2⟩:=h
  rcases List.mem_cons.1 hm with rfl | hm
  · exact (step_kind h1).1
  · exact ih _ _ h2 m hm
def FPrintPost (f : Fl) (w : World) (e : Ending) (w' : World) : Prop:=e = .returned (.tuple #[.string (if (fcheckM f).1 = 0 then ⟨(fprintL f).toArray⟩ else ⟨#[]⟩),.agg #[.int .i64 (fcheckM f).1,.int .i64 (fcheckM f).2]]) ∧ Below w.heap.size w w'
theorem fchkL_fst (f : Fl) : ∀ (l : List Mt) (i : Nat) (noted : Bool),(fchkL f l i noted).1 = 0 → fchkL f l i noted = (0,0):=by
 intro l
 induction l with
 | nil=>
  intro i noted h
  unfold fchkL at h ⊢
  split at h
  · simp at h
  · rename_i h1;rw [if_neg h1]
 | cons m l ih=>
  intro i noted h
  unfold fchkL at h ⊢
  split at h
  · simp at h
  · rename_i h1
    rw [if_neg h1]
    split at h
    · simp at h
    · rename_i h2
      rw [if_neg h2]
      split at h
      · rename_i h3;rw [if_pos h3];exact ih _ _ h
      · rename_i h3
        rw [if_neg h3]
        split at h
        · simp at h
        · rename_i h4
          rw [if_neg h4]
          split at h
          · rename_i h5;exact absurd h h5
          · rename_i h5;rw [if_neg h5];exact ih _ _ h
theorem fcheck_fst {f : Fl} (h : (fcheckM f).1 = 0) : fcheckM f = (0,0):=by
 unfold fcheckM at h ⊢
 split at h
 · simp at h
 · rename_i h1
   rw [if_neg h1]
   exact fchkL_fst _ _ _ _ h
set_option maxRecDepth 100000 in
theorem fprint_bad (vm vb : Value) (f : Fl) (w : World) (hT : TW w) (hrow : FlRow w vm vb f) (hok : smFl f) (hb : (fcheckM f).1 ≠ 0) :
 Calls Tryz.prog 84 #[flV vm vb f] w (FPrintPost f w):=by
 have k1 : ∀ w',Below w.heap.size w w' → Calls Tryz.prog 132 #[flV vm vb f] w' fun e w''=>e = .returned (.agg #[.int .i64 (fcheckM f).1,.int .i64 (fcheckM f).2]) ∧ Below w'.heap.size w' w'':=
  fun w' hb=>fchk_any vm vb f w' (hT.bel hb) ⟨hrow.1.keep hb,hrow.2.keep hb⟩ hok
 unfold FPrintPost
 rw [if_neg hb]
 obtain ⟨⟨am,cm,rfl,_⟩,⟨an,cn,rfl,_⟩⟩:=hrow
 generalize fcheckM f = C at *
 obtain ⟨ce,ca⟩:=C
 simp only at k1 hb ⊢
 unfold flV at k1 ⊢
 obtain ⟨ms,⟨vt,vs,ns⟩,at_,snd⟩:=f
 simp only at k1 ⊢
 generalize ns.length = nn at *
 generalize ms.length = n at *
 have k2:=fun w=>bad_any ce ca w
 have hd : (!decide (ce = 0)) = true:=by simpa using hb
 rw [hd] at k2
 obtain ⟨W,hW⟩ : ∃ W,W = (w.alloc (.cells #[.slice am n cm,.string vt,.int .i64 vs,.slice an nn cn,.int .i64 at_,.string snd] 31)).alloc (.cells #[.int .i64 0,.int .i64 0] 34):=⟨_,rfl⟩
 have hs1 : (w.alloc (.cells #[.slice am n cm,.string vt,.int .i64 vs,.slice an nn cn,.int .i64 at_,.string snd] 31)).heap.size = w.heap.size + 1:=World.size_alloc _ _
 have hbW : Below w.heap.size w W:=by rw [hW];exact bal (bal (Below.refl _ _) _) _
 have lc : ∀ (i : Nat) (u : Value),(#[.slice am n cm,.string vt,.int .i64 vs,.slice an nn cn,.int .i64 at_,.string snd] : Array Value)[i]? = some u → W.cell? ⟨w.heap.size,i,none⟩ = some u:=by
  intro i u hu;rw [hW];exact ((Live.fresh w _ 31 i u hu).alloc _).1
 have c0:=lc 0 _ rfl
 have c1:=lc 1 _ rfl
 have c2:=lc 2 _ rfl
 have c3:=lc 3 _ rfl
 have c4:=lc 4 _ rfl
 have c5:=lc 5 _ rfl
 have m0 : Live W (w.heap.size + 1) 0 (.int .i64 0):=by rw [hW,← hs1];exact Live.fresh _ _ _ 0 _ rfl
 have m1 : Live W (w.heap.size + 1) 1 (.int .i64 0):=by rw [hW,← hs1];exact Live.fresh _ _ _ 1 _ rfl
 have K1:=Lib.hid k1
 have K2:=Lib.hid k2
 have HBW:=Lib.hid hbW
 have M0:=Lib.hid m0
 have M1:=Lib.hid m1
 clear k1 k2 hbW m0 m1
 clear hd hs1 hok hb lc hT
 go_enter Tryz.func84,Tryz.ntmps84
 go_wp2_with fail
 rw [← hW]
 clear hW
 go_wp2_with (first
  | (go_at_call 132;refine (K1.out _ HBW.out).mono ?_;rintro e w1 ⟨rfl,hb1⟩;have hb1a:=bal hb1 (.cells #[.int .i64 ce,.int .i64 ca] 34))
  | (go_at_call 16;refine (K2.out _).mono ?_;rintro e w2 ⟨rfl,hb2⟩;have hb12:=bt hb1a hb2;obtain ⟨q0,q0'⟩:=M0.out.keep hb12;obtain ⟨q1,q1'⟩:=M1.out.keep hb12;obtain ⟨f0,_⟩:=(Live.fresh w1 #[.int .i64 ce,.int .i64 ca] 34 0 _ rfl).keep hb2;obtain ⟨f1,_⟩:=(Live.fresh w1 #[.int .i64 ce,.int .i64 ca] 34 1 _ rfl).keep hb2))
 go_region
 all_goals
  go_wp2_with fail
  refine bodyPost_ret (v:=.tuple #[.string ⟨#[]⟩,.agg #[.int .i64 ce,.int .i64 ca]]) (by simp [results,Tryz.results84,go_sem,q0,q1,q0',q1']) rfl ?_
  exact ⟨rfl,((bdn (HBW.out.trans (hb12.mono HBW.out.size)) 1).setCell (by simp) _).setCell (by simp) _⟩
theorem ends_iff {α : Type} (l : List α) (k n : Nat) (hn : n = l.length) (hk : k < n) : (l.drop (k + 1)).isEmpty = decide (k + 1 = n):=by
 rw [Bool.eq_iff_iff,List.isEmpty_iff,List.drop_eq_nil_iff,decide_eq_true_iff]
 omega
set_option maxRecDepth 100000 in
theorem fprint_good (vm vb : Value) (f : Fl) (w : World) (hT : TW w) (hrow : FlRow w vm vb f) (hok : smFl f) (hb : fcheckM f = (0,0)) (hpl : (printL false f.b).length < 16777216) (hbd : ∀ m ∈ f.ms,m.body.size < 16777216) (hlen : (fprintL f).length ≤ 1073741824) :
 Calls Tryz.prog 84 #[flV vm vb f] w (FPrintPost f w):=by
 have k1 : ∀ w',Below w.heap.size w w' → Calls Tryz.prog 132 #[flV vm vb f] w' fun e w''=>e = .returned (.agg #[.int .i64 0,.int .i64 0]) ∧ Below w'.heap.size w' w'':=fun w' hbb=>by
  have:=fchk_any vm vb f w' (hT.bel hbb) ⟨hrow.1.keep hbb,hrow.2.keep hbb⟩ hok
  rw [hb] at this
  exact this
 obtain ⟨_,g2,_⟩:=(fcheck_iff f).1 hb
 have hkd:=preOK_kind f f.ms 0 false g2
 have h4c : ∀ m ∈ f.ms,m.kind = 4 → checkM f.b = (0,0):=fun m hm h=>(preOK_4 f f.ms 0 false g2 (by unfold has4;rw [List.any_eq_true];exact ⟨m,hm,by simp [h]⟩)).2.1
 have kp : checkM f.b = (0,0) → ∀ w',Below w.heap.size w w' → Calls Tryz.prog 68 #[.agg #[.string f.b.vt,.int .i64 f.b.vs,vb],.bool false] w' fun e w''=>e = .returned (.tuple #[.string ⟨(printL false f.b).toArray⟩,.agg #[.int .i64 0,.int .i64 0]]) ∧ Below w'.heap.size w' w'':=by
  intro hz w' hbb
  have h:=cprint_any vb f.b false w' (hT.bel hbb) (hrow.2.keep hbb) hok.1 (by omega) hok.2.2.2.1
  unfold PrintPost at h
  rw [hz,if_pos rfl] at h
  exact h
 unfold FPrintPost
 rw [hb,if_pos rfl]
 have hall:=fparts_print f
 have hplen:=metasP_len f.b f.ms
 obtain ⟨⟨am,cm,rfl,hc⟩,⟨an,cn,rfl,_⟩⟩:=hrow
 obtain ⟨o1,o2,o3,o4,o5⟩:=hok
 clear hb g2 hT
 obtain ⟨PL,hPL⟩ : ∃ PL,PL = fprintL f:=⟨_,rfl⟩
 rw [← hPL] at hlen hall ⊢
 clear hPL
 obtain ⟨S,hS⟩ : ∃ S : ByteArray,S = ⟨(printL false f.b).toArray⟩:=⟨_,rfl⟩
 have hSs : S.size < 16777216:=by rw [hS];exact hpl
 rw [← hS] at kp
 obtain ⟨B,hB⟩ : ∃ B,B = f.b:=⟨_,rfl⟩
 have hbl : ∀ m,bodyL f.b m = bl (if m.kind = 4 then S else m.body):=by
  intro m
  unfold bodyL
  by_cases h : m.kind = 4
  · rw [if_pos h,if_pos h,hS]
  · rw [if_neg h,if_neg h]
 obtain ⟨MP,hMP⟩ : ∃ MP,MP = metasP f.b:=⟨_,rfl⟩
 have hMP1 : ∀ m r,MP (m :: r) = [(⟨#[UInt8.ofNat (m.kind + if r.isEmpty = true then 128 else 0)]⟩ : ByteArray),⟨(be3 (if m.kind = 4 then S else m.body).size).toArray⟩,if m.kind = 4 then S else m.body] ++ MP r:=by
  intro m r
  rw [hMP,metasP]
  unfold metaP
  rw [hbl,bl_length]
 have hMP0 : MP [] = []:=by rw [hMP];rfl
 rw [← hMP] at hall hplen
 clear hMP hbl hS hpl
 unfold flV at k1 ⊢
 obtain ⟨ms,⟨vt,vs,ns⟩,at_,snd⟩:=f
 simp only at k1 kp hc o2 o3 o4 o5 hbd hkd h4c hall hplen ⊢
 clear hB
 obtain ⟨ALL,hALL⟩ : ∃ ALL,ALL = [letters] ++ MP ms:=⟨_,rfl⟩
 rw [← hALL] at hall
 have hAl : ALL.length = 1 + 3 * ms.length:=by rw [hALL,List.length_append,hplen];rfl
 clear hplen
 obtain ⟨n,hn⟩ : ∃ n,n = ms.length:=⟨_,rfl⟩
 obtain ⟨nn,hnn⟩ : ∃ nn,nn = ns.length:=⟨_,rfl⟩
 rw [← hn] at o2 k1 hAl ⊢
 rw [← hnn] at k1 kp o4 ⊢
 have k2:=fun w=>bad_any 0 0 w
 have kb1 : ∀ (h : Nat) (w : World),h < 256 → Calls Tryz.prog 57 #[.int .u64 h,.int .i64 1] w fun e w'=>e = .returned (.string ⟨#[UInt8.ofNat h]⟩) ∧ Below w.heap.size w w':=by
  intro h w hh
  have:=big_any (h : Int) 1 w (by omega) (by omega)
  rw [big_1] at this
  exact this
 have kb3 : ∀ (h : Nat) (w : World),h < 16777216 → Calls Tryz.prog 57 #[.int .u64 h,.int .i64 3] w fun e w'=>e = .returned (.string ⟨(be3 h).toArray⟩) ∧ Below w.heap.size w w':=by
  intro h w hh
  have:=big_any (h : Int) 3 w (by omega) (by omega)
  rw [big_3] at this
  exact this
 obtain ⟨W,hW⟩ : ∃ W,W = (w.alloc (.cells #[.slice am n cm,.string vt,.int .i64 vs,.slice an nn cn,.int .i64 at_,.string snd] 31)).alloc (.cells #[.int .i64 0,.int .i64 0] 34):=⟨_,rfl⟩
 have hs1 : (w.alloc (.cells #[.slice am n cm,.string vt,.int .i64 vs,.slice an nn cn,.int .i64 at_,.string snd] 31)).heap.size = w.heap.size + 1:=World.size_alloc _ _
 have hbW : Below w.heap.size w W:=by rw [hW];exact bal (bal (Below.refl _ _) _) _
 have lc : ∀ (i : Nat) (u : Value),(#[.slice am n cm,.string vt,.int .i64 vs,.slice an nn cn,.int .i64 at_,.string snd] : Array Value)[i]? = some u → W.cell? ⟨w.heap.size,i,none⟩ = some u:=by
  intro i u hu;rw [hW];exact ((Live.fresh w _ 31 i u hu).alloc _).1
 have c0:=lc 0 _ rfl
 have c1:=lc 1 _ rfl
 have c2:=lc 2 _ rfl
 have c3:=lc 3 _ rfl
 have c4:=lc 4 _ rfl
 have c5:=lc 5 _ rfl
 have m0 : Live W (w.heap.size + 1) 0 (.int .i64 0):=by rw [hW,← hs1];exact Live.fresh _ _ _ 0 _ rfl
 have m1 : Live W (w.heap.size + 1) 1 (.int .i64 0):=by rw [hW,← hs1];exact Live.fresh _ _ _ 1 _ rfl
 have K1:=Lib.hid k1
 have K2:=Lib.hid k2
 have KP:=Lib.hid kp
 have KB1:=Lib.hid kb1
 have KB3:=Lib.hid kb3
 have HBW:=Lib.hid hbW
 have M0:=Lib.hid m0
 have M1:=Lib.hid m1
 have HC:=Lib.hid hc
 have HN:=Lib.hid hn
 have HNN:=Lib.hid hnn
 have O3:=Lib.hid o3
 have HBD:=Lib.hid hbd
 have HKD:=Lib.hid hkd
 have H4C:=Lib.hid h4c
 have HALL:=Lib.hid hALL
 have HAL:=Lib.hid hall
 have HAN:=Lib.hid hAl
 have HMP1:=Lib.hid hMP1
 have HMP0:=Lib.hid hMP0
 have HLEN:=Lib.hid hlen
 have HSS:=Lib.hid hSs
 clear k1 k2 kp kb1 kb3 hbW m0 m1 hc hn hnn o3 hbd hkd h4c hALL hall hAl hMP1 hMP0 hlen hSs
 have C0:=Lib.hid c0
 have C1:=Lib.hid c1
 have C2:=Lib.hid c2
 have C3:=Lib.hid c3
 have C5:=Lib.hid c5
 clear hs1 lc
 go_enter Tryz.func84,Tryz.ntmps84
 go_wp2_with fail
 rw [← hW]
 clear hW
 go_wp2_with (first
  | (go_at_call 132;refine (K1.out _ HBW.out).mono ?_;rintro e w1 ⟨rfl,hb1⟩;have hb1a:=bal hb1 (.cells #[.int .i64 0,.int .i64 0] 34))
  | (go_at_call 16;refine (K2.out _).mono ?_;rintro e w2 ⟨rfl,hb2⟩;have hb12:=bt hb1a hb2;have hb13:=bal hb12 (.cells #[.string ⟨#[102,76,97,67]⟩] 9);have d0:=kc hb13 C0.out))
 have hown0 : (w2.alloc (.cells #[.string ⟨#[102,76,97,67]⟩] 9)).ownsRow w2.heap.size 9 1 (.slice (some ⟨w2.heap.size,0,none⟩) 1 1) 1 (scells [letters]):=
  World.ownsRow_lit (size:=1) (base:=w2.heap.size) w2 #[.string ⟨#[102,76,97,67]⟩] 1 (Nat.le_refl _) (by unfold maxLen;omega) rfl
 have hz2 : W.heap.size ≤ w2.heap.size:=hb12.size
 clear c0 c1 c2 c3 c4 c5
 go_loopw [5,21] (fun pv iv wr=>∃ (k : Nat) (acc : List ByteArray),iv = .int .i64 (k : Int) ∧ k ≤ n ∧ wr.ownsRow w2.heap.size 9 1 pv (1 + 3 * k) (scells acc) ∧ Hid (acc ++ MP (ms.drop k) = ALL) ∧ Below w2.heap.size w2 wr) (fun _ iv _=>n - (intOf iv).toNat)
 case atStart=>exact ⟨0,[letters],rfl,Nat.zero_le _,hown0,Lib.hid (by rw [List.drop_zero];exact HALL.out.symm),bal (Below.refl _ _) _⟩
 case round=>
  obtain ⟨k,acc,rfl,hk,hown,hA,hbel⟩:=hrel
  clear hown0 hb13 d0
  have hbr : Below W.heap.size W wr:=bt hb12 hbel
  have hlr:=hbel.size
  by_cases hlt : k < n
  · obtain ⟨x,hx⟩:=at_some ms k (by rw [← HN.out];exact hlt)
    obtain ⟨g,o,rfl,d0,d1⟩:=mt_at HC.out k x hx
    have d0:=kc hbr (kc HBW.out d0)
    have d1:=kc hbr (kc HBW.out d1)
    have b1:=HBD.out x (List.mem_of_getElem? hx)
    have b2:=HKD.out x (List.mem_of_getElem? hx)
    have b3:=H4C.out x (List.mem_of_getElem? hx)
    have hends:=ends_iff ms k n HN.out hlt
    obtain ⟨hx1,hx2⟩:=List.getElem?_eq_some_iff.1 hx
    have hA2:=hA.out
    rw [List.drop_eq_getElem_cons hx1,hx2,HMP1.out,hends,← List.append_assoc] at hA2
    have hba:=bal hbr (.cells #[.int .u8 x.kind,.string x.body] 102)
    have f0:=Live.fresh wr #[.int .u8 x.kind,.string x.body] 102 0 _ rfl
    have f1:=Live.fresh wr #[.int .u8 x.kind,.string x.body] 102 1 _ rfl
    have hown1:=orow_bel hown ((Below.refl wr.heap.size wr).alloc (Nat.le_refl _) (.cells #[.int .u8 x.kind,.string x.body] 102))
    have hw1 : IntKind.i64.wrap ((n : Int) - 1) = (n : Int) - 1:=wi64 _ (by omega) (by omega)
    have hwk : IntKind.u64.wrap (x.kind : Int) = x.kind:=wrapsu64 _ (by omega) (by omega)
    have hwa : IntKind.u64.wrap ((x.kind : Int) + 128) = (x.kind : Int) + 128:=wrapsu64 _ (by omega) (by omega)
    have hz3 : 1 + 3 * k < 70368744177664:=by omega
    have hz5 : (1 + 3 * k + 3) * 16 ≤ 140737488355328:=by omega
    have e0:=kc hba C0.out
    have e1:=kc hba C1.out
    have e2:=kc hba C2.out
    have e3:=kc hba C3.out
    have g0:=f0.1
    have g1:=f1.1
    have HBA:=Lib.hid hba
    have F0:=Lib.hid f0
    have F1:=Lib.hid f1
    have HO1:=Lib.hid hown1
    have HZ3:=Lib.hid hz3
    have HZ5:=Lib.hid hz5
    clear hba f0 f1 hown1 hz3 hz5
    clear hA hx1 hx2 hx hends
    by_cases h4 : x.kind = 4
    · by_cases hl : k + 1 = n
      · rw [if_pos h4,if_pos (by simpa using hl)] at hA2
        have dq : ((k : Int) == (n : Int) - 1) = true:=by rw [beq_iff_eq];omega
        have dk : ((x.kind : Int) == 4) = true:=by rw [beq_iff_eq];omega
        have hSs:=HSS.out
        have hsz : decide ((S.size : Int) ≥ 16777216) = false:=by rw [decide_eq_false_iff_not];omega
        have hwl : IntKind.u64.wrap (S.size : Int) = S.size:=wrapsu64 _ (by omega) (by omega)
        have kh : ∀ w,Calls Tryz.prog 57 #[.int .u64 ((x.kind : Int) + 128),.int .i64 1] w fun e w'=>e = .returned (.string ⟨#[UInt8.ofNat (x.kind + 128)]⟩) ∧ Below w.heap.size w w':=fun w=>KB1.out (x.kind + 128) w (by omega)
        have kn : ∀ w,Calls Tryz.prog 57 #[.int .u64 (S.size : Int),.int .i64 3] w fun e w'=>e = .returned (.string ⟨(be3 S.size).toArray⟩) ∧ Below w.heap.size w w':=fun w=>KB3.out S.size w (by omega)
        have kq:=KP.out (b3 h4)
        obtain ⟨H1,hH1⟩ : ∃ H1 : ByteArray,H1 = ⟨#[UInt8.ofNat (x.kind + 128)]⟩:=⟨_,rfl⟩
        obtain ⟨H3,hH3⟩ : ∃ H3 : ByteArray,H3 = ⟨(be3 S.size).toArray⟩:=⟨_,rfl⟩
        rw [← hH1] at kh hA2
        rw [← hH3] at kn hA2
        clear hH1 hH3
        have KH:=Lib.hid kh
        have KN:=Lib.hid kn
        have HA2:=Lib.hid hA2
        have KQ:=Lib.hid kq
        have HSZ:=Lib.hid hsz
        clear kh kn hA2 kq hsz
        clear h4 hl b1 b2 b3 hSs
        go_wp2_with (first
         | (go_at_call 68;have hh:=HBW.out.trans (HBA.out.mono HBW.out.size);with_reducible refine (KQ.out _ hh).mono ?_;rintro e w3 ⟨rfl,hb3⟩;have hbp:=bal hb3 (.cells #[.int .i64 0,.int .i64 0] 34))
         | (go_at_call 16;refine (K2.out _).mono ?_;rintro e w4 ⟨rfl,hb4⟩;have hsz:=HSZ.out;have hbq:=bt hbp hb4;have hbx:=bt HBA.out hbq;have g0:=(F0.out.keep hbq).1;have e0:=kc hbx C0.out;have hown4:=orow_bel HO1.out hbq)
         | (go_at_call 57;with_reducible refine (KH.out _).mono ?_;rintro e w5 ⟨rfl,hb5⟩;have hbu:=bt hbq hb5)
         | (go_at_call 57;with_reducible refine (KN.out _).mono ?_;rintro e w6 ⟨rfl,hb6⟩;have hbv:=bt hbu hb6;have hown6:=orow_bel HO1.out hbv;have hsz6:=(bt HBA.out hbv).size)
         | (at_builtin;go_loud (refine wpList_pushN rfl _ _ 131 9 rfl Tryz.underlying131 (.string ⟨#[]⟩) 1 16 infoStr rfl (by decide) 3 w6 w2.heap.size u5 (1 + 3 * k) (scells acc) rfl hown6 #[.string H1,.string H3,.string S] rfl (by simp [Value.oneCell']) rfl (by decide) HZ3.out HZ5.out (Nat.le_trans hlr (Nat.le_trans (by simp) hbv.size)) ?_;intro pv2 w7 hown7 hb7 hk7)))
        have hown8 : w7.ownsRow w2.heap.size 9 1 pv2 (1 + 3 * (k + 1)) (scells (acc ++ [H1,H3,S])):=by
         rw [show 1 + 3 * (k + 1) = 1 + 3 * k + 3 from by omega,scells_append]
         exact hown7
        have hbz : Below w2.heap.size w2 w7:=(bt (bal hbel (.cells #[.int .u8 x.kind,.string x.body] 102)) hbv).trans hb7
        go_roundw
        case rel=>exact ⟨k + 1,_,by go_num,by omega,hown8,HA2,hbz⟩
        case measure=>simp [intOf];omega
      · rw [if_pos h4,if_neg (by simpa using hl)] at hA2
        have dq : ((k : Int) == (n : Int) - 1) = false:=by rw [beq_eq_false_iff_ne];omega
        have dk : ((x.kind : Int) == 4) = true:=by rw [beq_iff_eq];omega
        have hSs:=HSS.out
        have hsz : decide ((S.size : Int) ≥ 16777216) = false:=by rw [decide_eq_false_iff_not];omega
        have hwl : IntKind.u64.wrap (S.size : Int) = S.size:=wrapsu64 _ (by omega) (by omega)
        have kh : ∀ w,Calls Tryz.prog 57 #[.int .u64 ((x.kind : Int)),.int .i64 1] w fun e w'=>e = .returned (.string ⟨#[UInt8.ofNat (x.kind)]⟩) ∧ Below w.heap.size w w':=fun w=>KB1.out (x.kind) w (by omega)
        have kn : ∀ w,Calls Tryz.prog 57 #[.int .u64 (S.size : Int),.int .i64 3] w fun e w'=>e = .returned (.string ⟨(be3 S.size).toArray⟩) ∧ Below w.heap.size w w':=fun w=>KB3.out S.size w (by omega)
        have kq:=KP.out (b3 h4)
        rw [Nat.add_zero] at hA2
        obtain ⟨H1,hH1⟩ : ∃ H1 : ByteArray,H1 = ⟨#[UInt8.ofNat (x.kind)]⟩:=⟨_,rfl⟩
        obtain ⟨H3,hH3⟩ : ∃ H3 : ByteArray,H3 = ⟨(be3 S.size).toArray⟩:=⟨_,rfl⟩
        rw [← hH1] at kh hA2
        rw [← hH3] at kn hA2
        clear hH1 hH3
        have KH:=Lib.hid kh
        have KN:=Lib.hid kn
        have HA2:=Lib.hid hA2
        have KQ:=Lib.hid kq
        have HSZ:=Lib.hid hsz
        clear kh kn hA2 kq hsz
        clear h4 hl b1 b2 b3 hSs
        go_wp2_with (first
         | (go_at_call 68;have hh:=HBW.out.trans (HBA.out.mono HBW.out.size);with_reducible refine (KQ.out _ hh).mono ?_;rintro e w3 ⟨rfl,hb3⟩;have hbp:=bal hb3 (.cells #[.int .i64 0,.int .i64 0] 34))
         | (go_at_call 16;refine (K2.out _).mono ?_;rintro e w4 ⟨rfl,hb4⟩;have hsz:=HSZ.out;have hbq:=bt hbp hb4;have hbx:=bt HBA.out hbq;have g0:=(F0.out.keep hbq).1;have e0:=kc hbx C0.out;have hown4:=orow_bel HO1.out hbq)
         | (go_at_call 57;with_reducible refine (KH.out _).mono ?_;rintro e w5 ⟨rfl,hb5⟩;have hbu:=bt hbq hb5)
         | (go_at_call 57;with_reducible refine (KN.out _).mono ?_;rintro e w6 ⟨rfl,hb6⟩;have hbv:=bt hbu hb6;have hown6:=orow_bel HO1.out hbv;have hsz6:=(bt HBA.out hbv).size)
         | (at_builtin;go_loud (refine wpList_pushN rfl _ _ 131 9 rfl Tryz.underlying131 (.string ⟨#[]⟩) 1 16 infoStr rfl (by decide) 3 w6 w2.heap.size u5 (1 + 3 * k) (scells acc) rfl hown6 #[.string H1,.string H3,.string S] rfl (by simp [Value.oneCell']) rfl (by decide) HZ3.out HZ5.out (Nat.le_trans hlr (Nat.le_trans (by simp) hbv.size)) ?_;intro pv2 w7 hown7 hb7 hk7)))
        have hown8 : w7.ownsRow w2.heap.size 9 1 pv2 (1 + 3 * (k + 1)) (scells (acc ++ [H1,H3,S])):=by
         rw [show 1 + 3 * (k + 1) = 1 + 3 * k + 3 from by omega,scells_append]
         exact hown7
        have hbz : Below w2.heap.size w2 w7:=(bt (bal hbel (.cells #[.int .u8 x.kind,.string x.body] 102)) hbv).trans hb7
        go_roundw
        case rel=>exact ⟨k + 1,_,by go_num,by omega,hown8,HA2,hbz⟩
        case measure=>simp [intOf];omega
    · by_cases hl : k + 1 = n
      · rw [if_neg h4,if_pos (by simpa using hl)] at hA2
        have dq : ((k : Int) == (n : Int) - 1) = true:=by rw [beq_iff_eq];omega
        have dk : ((x.kind : Int) == 4) = false:=by rw [beq_eq_false_iff_ne];omega
        have hsz : ¬ (x.body.size : Int) ≥ 16777216:=by omega
        have hwl : IntKind.u64.wrap (x.body.size : Int) = x.body.size:=wrapsu64 _ (by omega) (by omega)
        have kh : ∀ w,Calls Tryz.prog 57 #[.int .u64 ((x.kind : Int) + 128),.int .i64 1] w fun e w'=>e = .returned (.string ⟨#[UInt8.ofNat (x.kind + 128)]⟩) ∧ Below w.heap.size w w':=fun w=>KB1.out (x.kind + 128) w (by omega)
        have kn : ∀ w,Calls Tryz.prog 57 #[.int .u64 (x.body.size : Int),.int .i64 3] w fun e w'=>e = .returned (.string ⟨(be3 x.body.size).toArray⟩) ∧ Below w.heap.size w w':=fun w=>KB3.out x.body.size w (by omega)
        obtain ⟨H1,hH1⟩ : ∃ H1 : ByteArray,H1 = ⟨#[UInt8.ofNat (x.kind + 128)]⟩:=⟨_,rfl⟩
        obtain ⟨H3,hH3⟩ : ∃ H3 : ByteArray,H3 = ⟨(be3 x.body.size).toArray⟩:=⟨_,rfl⟩
        rw [← hH1] at kh hA2
        rw [← hH3] at kn hA2
        clear hH1 hH3
        have KH:=Lib.hid kh
        have KN:=Lib.hid kn
        have HA2:=Lib.hid hA2
        clear kh kn hA2
        clear h4 hl b1 b2 b3
        go_wp2_with (first
         | (go_at_call 57;with_reducible refine (KH.out _).mono ?_;rintro e w5 ⟨rfl,hb5⟩;have hbu:=hb5)
         | (go_at_call 57;with_reducible refine (KN.out _).mono ?_;rintro e w6 ⟨rfl,hb6⟩;have hbv:=bt hbu hb6;have hown6:=orow_bel HO1.out hbv;have hsz6:=(bt HBA.out hbv).size)
         | (at_builtin;go_loud (refine wpList_pushN rfl _ _ 131 9 rfl Tryz.underlying131 (.string ⟨#[]⟩) 1 16 infoStr rfl (by decide) 3 w6 w2.heap.size u5 (1 + 3 * k) (scells acc) rfl hown6 #[.string H1,.string H3,.string x.body] rfl (by simp [Value.oneCell']) rfl (by decide) HZ3.out HZ5.out (Nat.le_trans hlr (Nat.le_trans (by simp) hbv.size)) ?_;intro pv2 w7 hown7 hb7 hk7)))
        have hown8 : w7.ownsRow w2.heap.size 9 1 pv2 (1 + 3 * (k + 1)) (scells (acc ++ [H1,H3,x.body])):=by
         rw [show 1 + 3 * (k + 1) = 1 + 3 * k + 3 from by omega,scells_append]
         exact hown7
        have hbz : Below w2.heap.size w2 w7:=(bt (bal hbel (.cells #[.int .u8 x.kind,.string x.body] 102)) hbv).trans hb7
        go_roundw
        case rel=>exact ⟨k + 1,_,by go_num,by omega,hown8,HA2,hbz⟩
        case measure=>simp [intOf];omega
      · rw [if_neg h4,if_neg (by simpa using hl)] at hA2
        have dq : ((k : Int) == (n : Int) - 1) = false:=by rw [beq_eq_false_iff_ne];omega
        have dk : ((x.kind : Int) == 4) = false:=by rw [beq_eq_false_iff_ne];omega
        have hsz : ¬ (x.body.size : Int) ≥ 16777216:=by omega
        have hwl : IntKind.u64.wrap (x.body.size : Int) = x.body.size:=wrapsu64 _ (by omega) (by omega)
        have kh : ∀ w,Calls Tryz.prog 57 #[.int .u64 ((x.kind : Int)),.int .i64 1] w fun e w'=>e = .returned (.string ⟨#[UInt8.ofNat (x.kind)]⟩) ∧ Below w.heap.size w w':=fun w=>KB1.out (x.kind) w (by omega)
        have kn : ∀ w,Calls Tryz.prog 57 #[.int .u64 (x.body.size : Int),.int .i64 3] w fun e w'=>e = .returned (.string ⟨(be3 x.body.size).toArray⟩) ∧ Below w.heap.size w w':=fun w=>KB3.out x.body.size w (by omega)
        rw [Nat.add_zero] at hA2
        obtain ⟨H1,hH1⟩ : ∃ H1 : ByteArray,H1 = ⟨#[UInt8.ofNat (x.kind)]⟩:=⟨_,rfl⟩
        obtain ⟨H3,hH3⟩ : ∃ H3 : ByteArray,H3 = ⟨(be3 x.body.size).toArray⟩:=⟨_,rfl⟩
        rw [← hH1] at kh hA2
        rw [← hH3] at kn hA2
        clear hH1 hH3
        have KH:=Lib.hid kh
        have KN:=Lib.hid kn
        have HA2:=Lib.hid hA2
        clear kh kn hA2
        clear h4 hl b1 b2 b3
        go_wp2_with (first
         | (go_at_call 57;with_reducible refine (KH.out _).mono ?_;rintro e w5 ⟨rfl,hb5⟩;have hbu:=hb5)
         | (go_at_call 57;with_reducible refine (KN.out _).mono ?_;rintro e w6 ⟨rfl,hb6⟩;have hbv:=bt hbu hb6;have hown6:=orow_bel HO1.out hbv;have hsz6:=(bt HBA.out hbv).size)
         | (at_builtin;go_loud (refine wpList_pushN rfl _ _ 131 9 rfl Tryz.underlying131 (.string ⟨#[]⟩) 1 16 infoStr rfl (by decide) 3 w6 w2.heap.size u5 (1 + 3 * k) (scells acc) rfl hown6 #[.string H1,.string H3,.string x.body] rfl (by simp [Value.oneCell']) rfl (by decide) HZ3.out HZ5.out (Nat.le_trans hlr (Nat.le_trans (by simp) hbv.size)) ?_;intro pv2 w7 hown7 hb7 hk7)))
        have hown8 : w7.ownsRow w2.heap.size 9 1 pv2 (1 + 3 * (k + 1)) (scells (acc ++ [H1,H3,x.body])):=by
         rw [show 1 + 3 * (k + 1) = 1 + 3 * k + 3 from by omega,scells_append]
         exact hown7
        have hbz : Below w2.heap.size w2 w7:=(bt (bal hbel (.cells #[.int .u8 x.kind,.string x.body] 102)) hbv).trans hb7
        go_roundw
        case rel=>exact ⟨k + 1,_,by go_num,by omega,hown8,HA2,hbz⟩
        case measure=>simp [intOf];omega
  · have hkn : k = n:=by omega
    subst hkn
    have ha:=hA.out
    rw [List.drop_of_length_le (by rw [← HN.out];exact Nat.le_refl _),HMP0.out,List.append_nil] at ha
    obtain ⟨q0,q0'⟩:=M0.out.keep hbr
    obtain ⟨q1,q1'⟩:=M1.out.keep hbr
    have e5:=kc hbr C5.out
    have hz3 : 1 + 3 * k < 70368744177664:=by omega
    have hz5 : (1 + 3 * k + 1) * 16 ≤ 140737488355328:=by omega
    have kj : ∀ v' w',w'.ownsRow w2.heap.size 9 1 v' (1 + 3 * k + 1) (scells acc ++ [.string snd]) → Calls Tryz.prog 60 #[v'] w' fun e w''=>e = .returned (.string ⟨PL.toArray⟩) ∧ Below w'.heap.size w' w'':=by
     intro v' w' ho
     have hl2 : (acc ++ [snd]).length = 1 + 3 * k + 1:=by rw [List.length_append,ha,HAN.out];rfl
     have hfl : ((acc ++ [snd]).map bl).flatten = PL:=by rw [ha];exact HAL.out
     have:=ojoin_any w2.heap.size v' (acc ++ [snd]) w' (by rw [hl2,scells_append];exact ho) (by intro h;rw [h] at hl2;simp at hl2) (by omega) (by rw [hfl];have:=HLEN.out;omega)
     rw [hfl] at this
     exact this
    have KJ:=Lib.hid kj
    have HBR:=Lib.hid hbr
    have HZ3:=Lib.hid hz3
    have HZ5:=Lib.hid hz5
    clear kj hbr hz3 hz5
    clear ha hA
    go_wp2_with (first
     | (at_builtin;go_loud (refine wpList_push1 rfl _ _ 131 9 rfl Tryz.underlying131 (.string ⟨#[]⟩) 1 16 infoStr rfl (by decide) wr w2.heap.size u5 (1 + 3 * k) (scells acc) rfl hown #[.string snd] rfl (by simp [Value.oneCell']) rfl HZ3.out HZ5.out hlr ?_;intro v' w7 hown7 hb7 hk7))
     | (go_at_call 60;refine (KJ.out _ _ hown7).mono ?_;rintro e w8 ⟨rfl,hb8⟩;have hb9:=(HBR.out.trans (hb7.mono hz2)).trans (hb8.mono (Nat.le_trans hz2 (Nat.le_trans hlr hb7.size)));obtain ⟨q0,q0'⟩:=M0.out.keep hb9;obtain ⟨q1,q1'⟩:=M1.out.keep hb9))
    refine bodyPost_ret (v:=.tuple #[.string ⟨PL.toArray⟩,.agg #[.int .i64 0,.int .i64 0]]) (by simp [results,Tryz.results84,go_sem,q0,q1,q0',q1']) rfl ?_
    exact ⟨rfl,((HBW.out.trans (hb9.mono HBW.out.size)).setCell (by simp) _).setCell (by simp) _⟩
theorem fprint_any (vm vb : Value) (f : Fl) (w : World) (hT : TW w) (hrow : FlRow w vm vb f) (hok : smFl f) (hpl : (printL false f.b).length < 16777216) (hbd : ∀ m ∈ f.ms,m.body.size < 16777216) (hlen : (fprintL f).length ≤ 1073741824) :
 Calls Tryz.prog 84 #[flV vm vb f] w (FPrintPost f w):=by
 by_cases hb : (fcheckM f).1 = 0
 · exact fprint_good vm vb f w hT hrow hok (fcheck_fst hb) hpl hbd hlen
 · exact fprint_bad vm vb f w hT hrow hok hb
end Go.Proofs.YtmfjmgjhfplijaaGreatDoor
