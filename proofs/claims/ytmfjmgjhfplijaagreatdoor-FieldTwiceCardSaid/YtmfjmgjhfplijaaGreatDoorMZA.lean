/- ZA -/
import Derived.Test.YtmfjmgjhfplijaaGreatDoorMTm
set_option linter.unusedVariables false
set_option linter.unusedSimpArgs false
set_option maxHeartbeats 8000000
namespace Go.Proofs.YtmfjmgjhfplijaaGreatDoor
theorem runT_bad {tok : Tok} : ∀ (f : Nat) (l : List UInt8) (at_ : Nat) (acc u : List UInt8) (q : Nat),runT tok f l at_ acc = (u,some q) → u = []:=by
 intro f
 induction f with
 | zero=>intro l at_ acc u q h;simp [runT] at h
 | succ f ih=>
  intro l at_ acc u q h
  simp only [runT] at h
  split at h
  · simp at h
  · cases ht : tok l with
    | none=>rw [ht] at h;simp at h;exact h.1
    | some p=>rw [ht] at h;exact ih _ _ _ _ _ h
end Go.Proofs.YtmfjmgjhfplijaaGreatDoor
namespace Go.Proofs.YtmfjmgjhfplijaaGreatDoor
open Go.RowKit
theorem vals_get {k : IntKind} (l : List Int) (c : Nat) (h : c < (l.map (Value.int k)).length) : (l.map (Value.int k))[c] = .int k (l.getD c 0):=by
 simp at h
 simp [h]
def medL : List Int:=[-2,-2,-1,0,1,2,3,4,-2,-2,5,6,7,8,9,10,-2,-2,11,12,13,14,15,16,-2,-2,17,18,19,20,-2,-2]
def rmed (c : Nat) : Int:=medL.getD c 0
theorem refMedial_any (c : Int) (w : World) (h0 : 0 ≤ c) (h1 : c < 32) :
 Calls Tryz.prog 257 #[.int .i64 c] w fun e w'=>e = .returned (.int .i64 (rmed c.toNat)) ∧ Below w.heap.size w w':=by
 obtain ⟨c,rfl⟩:=Int.eq_ofNat_of_zero_le h0
 have hc : c < 32:=by omega
 go_enter Tryz.func257,Tryz.ntmps257
 go_wp2
 go_ret
 exact ⟨congrArg Ending.returned (vals_get medL c hc),(Below.refl _ _).alloc (Nat.le_refl _) _⟩
def aloneR : List Int:=[0,1,103,2,105,106,3,4,5,109,110,111,112,113,114,115,6,7,8,118,9,10,11,12,13,14,15,16,17,18]
def ralone (p : Int) : Int:=if aloneR.idxOf p < 30 then 12593 + (aloneR.idxOf p : Int) else 0
theorem idx_hit (l : List Int) (p : Int) (k : Nat) (h : k ≤ l.idxOf p) (hk : k < l.length) (e : l.getD k 0 = p) : l.idxOf p = k:=by
 have : l[k] = p:=by simpa [hk] using e
 by_cases hlt : k < l.idxOf p
 · exact absurd this (by simpa using List.not_of_lt_findIdx (p:=(· == p)) hlt)
 · omega
theorem idx_miss (l : List Int) (p : Int) (k : Nat) (h : k ≤ l.idxOf p) (hk : k < l.length) (e : ¬ l.getD k 0 = p) : k + 1 ≤ l.idxOf p:=by
 have e' : ¬ l[k] = p:=by simpa [hk] using e
 by_cases hlt : l.idxOf p = k
 · have hl : l.idxOf p < l.length:=by omega
   have:=List.getElem_idxOf hl
   exact absurd (by simpa [hlt] using this) e'
 · omega
theorem cell_ints (k : IntKind) (l : List Int) (t : TypeId) (w : World) (i : Nat) (h : i < l.length) :
 (w.alloc (.cells (l.map (Value.int k)).toArray t)).cell? ⟨w.heap.size,i,none⟩ = some (.int k (l.getD i 0)):=by
 rw [World.cell?_alloc_new]
 simp [h]
theorem refAlone_any (p : Int) (w : World) :
 Calls Tryz.prog 259 #[.int .i64 p] w fun e w'=>e = .returned (.int .i32 (ralone p)) ∧ Below w.heap.size w w':=by
 go_enter Tryz.func259,Tryz.ntmps259
 go_wp2
 obtain ⟨W,hW⟩ : ∃ W,W = w.alloc (.cells (aloneR.map (Value.int .i64)).toArray 3):=⟨_,rfl⟩
 have hb : Below w.heap.size w W:=by rw [hW];exact (Below.refl _ _).alloc (Nat.le_refl _) _
 have hc : ∀ k : Nat,k < 30 → W.cell? ⟨w.heap.size,k,none⟩ = some (.int .i64 (aloneR.getD k 0)):=by
  intro k hk;rw [hW];exact cell_ints .i64 aloneR _ w k hk
 simp only [aloneR,List.map_cons,List.map_nil] at hW
 rw [← hW]
 clear hW
 go_loop [4] (fun i=>∃ k : Nat,k ≤ 30 ∧ i = .int .i64 k ∧ k ≤ aloneR.idxOf p) (fun i=>30 - (intOf i).toNat)
 case atStart=>exact ⟨0,Nat.zero_le _,rfl,Nat.zero_le _⟩
 case round=>
  obtain ⟨k,hk,rfl,hi⟩:=hrel
  by_cases hlt : k < 30
  · have hck:=hc k hlt
    have hm:=idx_miss aloneR p k hi hlt
    have hh:=idx_hit aloneR p k hi hlt
    obtain ⟨x,hx⟩ : ∃ x,x = aloneR.getD k 0:=⟨_,rfl⟩
    rw [← hx] at hck hm hh
    clear hx hc
    by_cases hxp : x = p
    · have hend : ralone p = 12593 + k:=by unfold ralone;rw [hh hxp,if_pos hlt]
      have HE : Hid _:=hend
      clear hend hm hh
      subst hxp
      go_wp2
      go_ret
      exact ⟨ret_i HE.out.symm,hb⟩
    · have hm':=hm hxp
      clear hm hh
      have hd : (x == p) = false:=by simpa using hxp
      go_wp2
      go_round
      case rel=>exact ⟨k + 1,by omega,by go_num,hm'⟩
      case measure=>simp [intOf];omega
  · have hend : ralone p = 0:=by unfold ralone;rw [if_neg (by omega)]
    have HE : Hid _:=hend
    clear hc hend
    go_wp2
    go_ret
    exact ⟨ret_i HE.out.symm,hb⟩
def rfin (c : Int) : Int:=if c = 0 ∨ c = 18 ∨ c > 29 then -2 else if c < 18 then c - 1 else c - 2
theorem refFinal_any (c : Int) (w : World) (h0 : 0 ≤ c) (h1 : c < 32) :
 Calls Tryz.prog 258 #[.int .i64 c] w fun e w'=>e = .returned (.int .i64 (rfin c)) ∧ w = w':=by
 go_enter Tryz.func258,Tryz.ntmps258
 go_wp2
 all_goals go_ret
 all_goals (refine ⟨ret_i ?_,rfl⟩;simp only [rfin,beq_iff_eq,beq_eq_false_iff_ne,ne_eq] at *;omega)
def rm (c : Int) : Int:=if medB c then med c else -2
theorem rmed_eq : ∀ c : Fin 32,rmed c.val = rm (c.val : Int):=by decide
theorem rmed_rm (c : Int) (h0 : 0 ≤ c) (h1 : c < 32) : rmed c.toNat = rm c:=by
 have:=rmed_eq ⟨c.toNat,by omega⟩
 simp only at this
 rw [this,show ((c.toNat : Nat) : Int) = c from by omega]
theorem rfin_eq (c : Int) (h0 : 0 ≤ c) (h1 : c < 32) : rfin c = if finB c then fin c else -2:=by
 unfold rfin finB fin
 split
 · rw [if_neg (by simp;omega)]
 · split <;> rw [if_pos (by simp;omega)] <;> split <;> omega
theorem ralone_ini : ∀ i : Fin 19,ralone (i.val : Int) = cons (65 + (i.val : Int)):=by decide +kernel
theorem ralone_fin : ∀ i : Fin 28,i.val = 0 ∨ ralone (100 + (i.val : Int)) = cons (97 + (i.val : Int)):=by decide +kernel
theorem ralone_i (i : Int) (h0 : 0 ≤ i) (h1 : i ≤ 18) : ralone i = cons (65 + i):=by
 have:=ralone_ini ⟨i.toNat,by omega⟩
 simp only at this
 rwa [show ((i.toNat : Nat) : Int) = i from by omega] at this
theorem ralone_f (i : Int) (h0 : 1 ≤ i) (h1 : i ≤ 27) : ralone (100 + i) = cons (97 + i):=by
 rcases ralone_fin ⟨i.toNat,by omega⟩ with h | h
 · simp only at h;omega
 · simp only at h
   rwa [show ((i.toNat : Nat) : Int) = i from by omega] at h
def rsgn (n i m f : Int) : Int:=
 if n < 32768 then 0 else if i < -1 ∨ i > 18 ∨ m = -2 ∨ f = -2 then 0
 else if i ≥ 0 ∧ m ≥ 0 then 44032 + (i * 21 + m) * 28 + f
 else if i < 0 ∧ m ≥ 0 ∧ f = 0 then 12623 + m
 else if i ≥ 0 ∧ m < 0 ∧ f = 0 then ralone i
 else if i < 0 ∧ m < 0 ∧ f > 0 then ralone (100 + f)
 else 0
theorem rsgn_eq (n : Int) (h0 : 0 ≤ n) (h1 : n < 65536) : rsgn n (n / 1024 % 32 - 2) (rm (n / 32 % 32)) (rfin (n % 32)) = signJ n:=by
 rw [rfin_eq _ (by omega) (by omega),sgn_eq]
 have ha0 : 0 ≤ n / 1024 % 32:=by omega
 have ha1 : n / 1024 % 32 ≤ 31:=by omega
 have hc1:=fin_bd (n % 32)
 have hb1:=med_bd (n / 32 % 32)
 unfold rsgn sgn rm
 generalize n / 1024 % 32 = a at *
 generalize med (n / 32 % 32) = m at *
 generalize fin (n % 32) = f at *
 generalize medB (n / 32 % 32) = bm at *
 generalize finB (n % 32) = bf at *
 by_cases hn : n < 32768
 · rw [if_pos hn,if_pos (Or.inl hn)]
 rw [if_neg hn]
 cases bm
 · rw [if_pos (by simp),if_pos (by simp)]
 cases bf
 · rw [if_pos (by simp),if_pos (by simp)]
 simp only [if_true]
 by_cases hi : 1 ≤ a ∧ a ≤ 20
 · have e1 : iniB a = true:=by unfold iniB;simpa using hi
   have e2 : ini a = a - 2:=by unfold ini;rw [if_pos hi]
   rw [e1,e2]
   simp only [Bool.true_eq_false,or_false]
   rw [if_neg (show ¬ n < 32768 from hn)]
   unfold syl
   repeat' split
   all_goals first
    | rfl
    | (exfalso;omega)
    | exact ralone_i _ (by omega) (by omega)
    | exact ralone_f _ (by omega) (by omega)
    | omega
 · have e1 : iniB a = false:=by unfold iniB;simpa using hi
   rw [e1,if_pos (by omega),if_pos (by simp)]
theorem refSign_any (n : Int) (w : World) (h0 : 0 ≤ n) (h1 : n < 65536) :
 Calls Tryz.prog 214 #[.int .i64 n] w fun e w'=>e = .returned (.int .i32 (signJ n)) ∧ Below w.heap.size w w':=by
 rw [← rsgn_eq n h0 h1]
 have c1:=fun w=>refMedial_any (n / 32 % 32) w (by omega) (by omega)
 rw [rmed_rm _ (by omega) (by omega)] at c1
 have c2:=fun w=>refFinal_any (n % 32) w (by omega) (by omega)
 have hm : -2 ≤ rm (n / 32 % 32) ∧ rm (n / 32 % 32) ≤ 20:=by have:=med_bd (n / 32 % 32);unfold rm;split <;> omega
 have hf : -2 ≤ rfin (n % 32) ∧ rfin (n % 32) ≤ 27:=by unfold rfin;repeat' split <;> omega
 generalize rm (n / 32 % 32) = m at *
 generalize rfin (n % 32) = f at *
 obtain ⟨hm0,hm1⟩:=hm
 obtain ⟨hf0,hf1⟩:=hf
 have C1:=Lib.hid c1
 have C2:=Lib.hid c2
 clear c1 c2
 go_enter Tryz.func214,Tryz.ntmps214
 go_wp2_with (first
  | (go_at_call 257;refine (C1.out _).mono ?_;rintro e w1 ⟨rfl,hb1⟩)
  | (go_at_call 258;refine (C2.out _).mono ?_;rintro e w' ⟨rfl,rfl⟩)
  | (go_at_call 259;refine (refAlone_any _ _).mono ?_;rintro e w2 ⟨rfl,hb2⟩))
 all_goals go_ret
 all_goals (refine ⟨ret_i ?_,?_⟩)
 all_goals (try (first | exact hb1 | exact hb1.trans (hb2.mono (by have:=hb1.size;omega)) | exact Below.refl _ _))
 all_goals (clear C1 C2;go_light;unfold rsgn;(try simp only [beq_iff_eq,beq_eq_false_iff_ne,ne_eq] at *);repeat' split)
 all_goals first
  | rfl
  | (exfalso;omega)
  | omega
end Go.Proofs.YtmfjmgjhfplijaaGreatDoor
namespace Go.Proofs.YtmfjmgjhfplijaaGreatDoor
theorem medCode_med (b : Int) (h : medB b = true) : medCode (med b) = b:=by
 unfold medB at h;simp at h;unfold medCode med;repeat' split
 all_goals omega
theorem finCode_fin (c : Int) (h : finB c = true) : finCode (fin c) = c:=by
 unfold finB at h;simp at h;unfold finCode fin;repeat' split
 all_goals omega
theorem ini_of (a : Int) (h : iniB a = true) : ini a = a - 2 ∧ 1 ≤ a ∧ a ≤ 20:=by
 unfold iniB at h;simp at h;unfold ini;omega
theorem cons_i : ∀ i : Fin 19,12593 ≤ cons (65 + (i.val : Int)) ∧ cons (65 + (i.val : Int)) < 12623 ∧ letter (cons (65 + (i.val : Int)) - 12593) = 65 + (i.val : Int):=by decide +kernel
theorem cons_f : ∀ i : Fin 28,cons (97 + (i.val : Int)) = 0 ∨ 12593 ≤ cons (97 + (i.val : Int)) ∧ cons (97 + (i.val : Int)) < 12623 ∧ letter (cons (97 + (i.val : Int)) - 12593) = 97 + (i.val : Int):=by decide +kernel
theorem cons_i' (i : Int) (h0 : 0 ≤ i) (h1 : i ≤ 18) : 12593 ≤ cons (65 + i) ∧ cons (65 + i) < 12623 ∧ letter (cons (65 + i) - 12593) = 65 + i:=by
 have:=cons_i ⟨i.toNat,by omega⟩
 simp only at this
 rwa [show ((i.toNat : Nat) : Int) = i from by omega] at this
theorem cons_f' (i : Int) (h0 : 0 ≤ i) (h1 : i ≤ 27) : cons (97 + i) = 0 ∨ 12593 ≤ cons (97 + i) ∧ cons (97 + i) < 12623 ∧ letter (cons (97 + i) - 12593) = 97 + i:=by
 have:=cons_f ⟨i.toNat,by omega⟩
 simp only at this
 rwa [show ((i.toNat : Nat) : Int) = i from by omega] at this
theorem code_sign (n : Int) (h0 : 0 ≤ n) (h1 : n < 65536) (h : signJ n ≠ 0) : codeJ (signJ n) = n:=by
 rw [sgn_eq] at h ⊢
 have hb0:=med_bd (n / 32 % 32)
 have hc0:=fin_bd (n % 32)
 unfold sgn at h ⊢
 by_cases c1 : n < 32768 ∨ iniB (n / 1024 % 32) = false ∨ medB (n / 32 % 32) = false ∨ finB (n % 32) = false
 · rw [if_pos c1] at h;exact absurd rfl h
 rw [if_neg c1] at h ⊢
 have d0 : ¬ n < 32768:=fun x=>c1 (Or.inl x)
 have d1 : iniB (n / 1024 % 32) = true:=by cases e : iniB (n / 1024 % 32) <;> simp [e] at c1 ⊢
 have d2 : medB (n / 32 % 32) = true:=by cases e : medB (n / 32 % 32) <;> simp [e] at c1 ⊢
 have d3 : finB (n % 32) = true:=by cases e : finB (n % 32) <;> simp [e] at c1 ⊢
 obtain ⟨ei,ha1,ha2⟩:=ini_of _ d1
 have em:=medCode_med _ d2
 have ef:=finCode_fin _ d3
 rw [ei] at h ⊢
 generalize med (n / 32 % 32) = m at *
 generalize fin (n % 32) = f at *
 by_cases c2 : n / 1024 % 32 - 2 ≠ -1 ∧ m ≠ -1
 · rw [if_pos c2] at h ⊢
   have es : syl (n / 1024 % 32 - 2) m f = 44032 + ((n / 1024 % 32 - 2) * 21 + m) * 28 + f:=by unfold syl;rw [if_pos (by omega)]
   rw [es]
   unfold codeJ
   rw [if_pos (by omega)]
   rw [show (44032 + ((n / 1024 % 32 - 2) * 21 + m) * 28 + f - 44032) / 28 / 21 = n / 1024 % 32 - 2 from by omega,
    show (44032 + ((n / 1024 % 32 - 2) * 21 + m) * 28 + f - 44032) / 28 % 21 = m from by omega,
    show (44032 + ((n / 1024 % 32 - 2) * 21 + m) * 28 + f - 44032) % 28 = f from by omega,em,ef]
   omega
 rw [if_neg c2] at h ⊢
 by_cases c3 : n / 1024 % 32 - 2 = -1 ∧ m ≠ -1 ∧ f = 0
 · rw [if_pos c3]
   unfold codeJ
   rw [if_neg (by omega),if_pos (by omega),show 12623 + m - 12623 = m from by omega,em]
   rw [c3.2.2] at ef
   rw [ef]
   omega
 rw [if_neg c3] at h ⊢
 by_cases c4 : n / 1024 % 32 - 2 ≠ -1 ∧ m = -1 ∧ f = 0
 · rw [if_pos c4] at h ⊢
   obtain ⟨k0,k1,k2⟩:=cons_i' (n / 1024 % 32 - 2) (by omega) (by omega)
   unfold codeJ
   rw [if_neg (by omega),if_neg (by omega),if_pos (by omega),k2,if_pos (by omega)]
   rw [c4.2.2] at ef
   rw [c4.2.1] at em
   rw [em,ef]
   omega
 rw [if_neg c4] at h ⊢
 by_cases c5 : n / 1024 % 32 - 2 = -1 ∧ m = -1 ∧ f ≠ 0
 · rw [if_pos c5] at h ⊢
   rcases cons_f' f (by omega) (by omega) with k | ⟨k0,k1,k2⟩
   · exact absurd k h
   unfold codeJ
   rw [if_neg (by omega),if_neg (by omega),if_pos (by omega),k2,if_neg (by omega)]
   rw [c5.2.1] at em
   rw [em,show 97 + f - 97 = f from by omega,ef]
   omega
 rw [if_neg c5] at h
 exact absurd rfl h
theorem codeJ_neg (p : Int) (h : ¬ hasJ p) : codeJ p = -1:=by
 unfold hasJ at h
 unfold codeJ
 rw [if_neg (by omega),if_neg (by omega),if_neg (by omega)]
theorem signJ_has (n : Int) (h0 : 0 ≤ n) (h1 : n < 65536) (h : signJ n ≠ 0) : hasJ (signJ n):=by
 by_cases hh : hasJ (signJ n)
 · exact hh
 · have:=codeJ_neg _ hh
   rw [code_sign n h0 h1 h] at this
   omega
end Go.Proofs.YtmfjmgjhfplijaaGreatDoor
namespace Go.Proofs.YtmfjmgjhfplijaaGreatDoor
open Go.RowKit
theorem pts_len (l : List UInt8) : (pts l).length ≤ l.length:=by
 suffices H : ∀ f (l : List UInt8),l.length ≤ f → (ptsF f l).length ≤ l.length from H _ l (Nat.le_refl _)
 intro f
 induction f with
 | zero=>intro l h;simp [ptsF]
 | succ f ih=>
  intro l h
  simp only [ptsF]
  split
  · simp
  · rename_i hne
    have:=dec_pos l
    have:=dec_le l hne
    have:=ih (l.drop (dec l).2) (by rw [List.length_drop];omega)
    rw [List.length_drop] at this
    simp only [List.length_cons]
    omega
set_option maxRecDepth 100000 in
theorem nth_any (s : ByteArray) (N : Nat) (p : Int) (w : World) (hs : s.size ≤ 1073741824) (hv : (scanL (bl s)).2 = none) (hp : (pts (bl s))[N]? = some p) :
 Calls Tryz.prog 250 #[.string s,.int .i64 N] w fun e w'=>e = .returned (.int .i32 p) ∧ Below w.heap.size w w':=by
 have HL : Hid ((bl s).length = s.size):=bl_length s
 have K1:=Lib.hid (fun i w hi=>refAt_any s i w hs hi)
 obtain ⟨P,hP⟩ : ∃ P,P = pts (bl s):=⟨_,rfl⟩
 rw [← hP] at hp
 have hlen : P.length ≤ s.size:=by rw [hP,← HL.out];exact pts_len _
 have hNP:=(List.getElem?_eq_some_iff.1 hp).1
 have HP:=Lib.hid hP
 have HV:=Lib.hid hv
 have HPN:=Lib.hid hp
 clear hP hv hp
 go_enter Tryz.func250,Tryz.ntmps250
 go_wp2
 go_loopw [1,5] (fun nv iv wr=>∃ (f k m cnt : Nat),iv = .int .i64 (k : Int) ∧ nv = .int .i64 ((N : Int) - m) ∧ m ≤ N ∧ k ≤ s.size ∧ s.size - k ≤ f ∧ Hid ((scanF f ((bl s).drop k) k cnt).2 = none) ∧ Hid (pts ((bl s).drop k) = P.drop m) ∧ Below w.heap.size w wr) (fun _ iv _=>s.size - (intOf iv).toNat)
 case atStart=>exact ⟨s.size,0,0,0,rfl,by simp,Nat.zero_le _,Nat.zero_le _,by omega,Lib.hid (by have:=HV.out;unfold scanL at this;rw [HL.out] at this;rw [List.drop_zero];exact this),Lib.hid (by rw [List.drop_zero,List.drop_zero,HP.out]),Below.refl _ _⟩
 case round=>
  obtain ⟨f,k,m,cnt,rfl,rfl,hm,hk,hf,hQ,hPt,hbel⟩:=hrel
  have hne : (bl s).drop k ≠ []:=by
   intro h
   have h1:=hPt.out
   rw [h,pts_nil] at h1
   have h2:=congrArg List.length h1
   rw [List.length_drop] at h2
   simp only [List.length_nil] at h2
   omega
  have hlt : k < s.size:=by
   rcases Nat.lt_or_ge k s.size with h | h
   · exact h
   · exact absurd (List.drop_of_length_le (by rw [HL.out];exact h)) hne
  obtain ⟨f,rfl⟩ : ∃ g,f = g + 1:=⟨f - 1,by omega⟩
  have hat:=refAt_dec ((bl s).drop k) hne
  have k1:=fun w=>K1.out k w hlt
  rw [hat] at k1
  have hb : badDec ((bl s).drop k) = false:=by
   cases hb : badDec ((bl s).drop k) with
   | false=>rfl
   | true=>
    have:=hQ.out
    rw [scanF_bad f _ k _ hne hb] at this
    cases this
  rw [hb] at k1
  simp only [Bool.false_eq_true,if_false] at k1
  have e1:=hQ.out
  rw [scanF_step f _ k _ hne hb,List.drop_drop] at e1
  have e2:=hPt.out
  rw [pts_cons _ hne,List.drop_drop,List.drop_eq_getElem_cons (show m < P.length from by omega)] at e2
  have hdp:=dec_pos ((bl s).drop k)
  have hdl:=dec_le _ hne
  rw [List.length_drop,HL.out] at hdl
  rcases hd : dec ((bl s).drop k) with ⟨q,j⟩
  rw [hd] at k1 e1 e2 hdp hdl
  simp only at k1 e1 e2 hdp hdl
  obtain ⟨e3,e4⟩:=List.cons.inj e2
  have hj : ((j : Int) == 0) = false:=by simp;omega
  by_cases hmN : m = N
  · subst hmN
    have hqp : (q : Int) = p:=by
     have:=HPN.out
     rw [List.getElem?_eq_getElem (show m < P.length from by omega)] at this
     rw [e3]
     exact Option.some.inj this
    have hz : ((m : Int) - m == 0) = true:=by simp
    have K1':=Lib.hid k1
    have HQP:=Lib.hid hqp
    have E3:=Lib.hid e3
    have E4:=Lib.hid e4
    have E1:=Lib.hid e1
    clear k1 hqp e3 e4 e1
    clear hat hb hne hQ hd e2
    go_wp2_with (go_at_call 156;refine (K1'.out _).mono ?_;rintro e w1 ⟨rfl,hb1⟩)
    go_ret
    exact ⟨ret_i HQP.out,bt hbel hb1⟩
  · have hz : ((N : Int) - m == 0) = false:=by simp;omega
    have hw : IntKind.i64.wrap ((N : Int) - m - 1) = (N : Int) - m - 1:=by rw [IntKind.wrap_i64];omega
    have hz2 : ¬ (N : Int) - m = 0:=by omega
    have K1':=Lib.hid k1
    have E3:=Lib.hid e3
    have E4:=Lib.hid e4
    have E1:=Lib.hid e1
    clear k1 e3 e4 e1
    clear hat hb hne hQ hd e2
    go_wp2_with (go_at_call 156;refine (K1'.out _).mono ?_;rintro e w1 ⟨rfl,hb1⟩)
    go_roundw
    case rel=>exact ⟨f,k + j,m + 1,cnt + 1,by go_num,by go_num,by omega,by omega,by omega,E1,E4,bt hbel hb1⟩
    case measure=>simp [intOf];omega
def strArg (o : Oper) : ByteArray:=match o.op with
 | Op.call c=>match (c.args : Array Operand)[0]? with
  | some (Operand.const (Value.string s))=>s
  | _=>ByteArray.empty
 | _=>ByteArray.empty
def constArg (f : Func) (region op : Nat) : ByteArray:=match f.body with
 | some c=>match regionOps c region with
  | some ops=>match ops[op]? with | some o=>strArg o | none=>ByteArray.empty
  | none=>ByteArray.empty
 | none=>ByteArray.empty
noncomputable def frT : ByteArray:=constArg Tryz.f210 8 2
noncomputable def otT : ByteArray:=constArg Tryz.f210 11 2
noncomputable def ruT : ByteArray:=constArg Tryz.f210 30 2
theorem frT_size : frT.size ≤ 1000:=by decide +kernel
theorem otT_size : otT.size ≤ 1000:=by decide +kernel
theorem ruT_size : ruT.size ≤ 1000:=by decide +kernel
theorem frT_ok : (scanL (bl frT)).2 = none:=by decide +kernel
theorem otT_ok : (scanL (bl otT)).2 = none:=by decide +kernel
theorem ruT_ok : (scanL (bl ruT)).2 = none:=by decide +kernel
theorem frT_len : (pts (bl frT)).length = 48:=by decide +kernel
theorem otT_len : (pts (bl otT)).length = 16:=by decide +kernel
theorem ruT_len : (pts (bl ruT)).length = 128:=by decide +kernel
theorem nth_lit (S T : ByteArray) (h : S = T) (N : Nat) (z : Int) (p : Int) (w : World) (hz : z = (N : Int)) (hs : T.size ≤ 1000) (hv : (scanL (bl T)).2 = none) (hp : (pts (bl T))[N]? = some p) :
 Calls Tryz.prog 250 #[.string S,.int .i64 z] w fun e w'=>e = .returned (.int .i32 p) ∧ Below w.heap.size w w':=by
 subst h
 subst hz
 exact nth_any S N p w (by omega) hv hp
noncomputable def refS5 (c : Int) (n : Nat) : Int:=if c = 0 ∨ n < 128 then (n : Int) else
 if c = 3 then (if n < 176 then 1040 + (n : Int) - 128 else if n < 224 then (pts (bl frT)).getD (n - 176) 0 else if n < 240 then 1088 + (n : Int) - 224 else (pts (bl otT)).getD (n - 240) 0) else
 if c = 2 ∧ n = 164 then 1108 else if c = 2 ∧ n = 166 then 1110 else if c = 2 ∧ n = 167 then 1111 else if c = 2 ∧ n = 173 then 1169 else if c = 2 ∧ n = 180 then 1028 else if c = 2 ∧ n = 182 then 1030 else if c = 2 ∧ n = 183 then 1031 else if c = 2 ∧ n = 189 then 1168 else (pts (bl ruT)).getD (n - 128) 0
set_option maxRecDepth 100000 in
theorem sign5_any (c : Int) (x : UInt8) (w : World) (h0 : 0 ≤ c) (h1 : c ≤ 3) : Calls Tryz.prog 210 #[.int .i64 c,.int .u8 (x.toNat : Int)] w fun e w'=>e = .returned (.int .i32 (refS5 c x.toNat)) ∧ Below w.heap.size w w':=by
 have hxl:=x.toNat_lt
 by_cases ca : x.toNat < 128
 · have he : refS5 c x.toNat = (x.toNat : Int):=by unfold refS5;rw [if_pos (.inr ca)]
   rw [he]
   clear he
   rcases (show c = 0 ∨ c = 1 ∨ c = 2 ∨ c = 3 from by omega) with rfl | rfl | rfl | rfl
   all_goals (
    go_enter Tryz.func210,Tryz.ntmps210
    go_wp2
    go_ret
    exact ⟨ret_i (by first | rfl | omega),Below.refl _ _⟩)
 · rcases (show c = 0 ∨ c = 1 ∨ c = 2 ∨ c = 3 from by omega) with rfl | rfl | rfl | rfl
   · have he : refS5 0 x.toNat = (x.toNat : Int):=by unfold refS5;rw [if_pos (.inl rfl)]
     rw [he]
     clear he
     go_enter Tryz.func210,Tryz.ntmps210
     go_wp2
     go_ret
     exact ⟨ret_i (by first | rfl | omega),Below.refl _ _⟩
   · skip
     obtain ⟨p,hp⟩ : ∃ p,(pts (bl ruT))[x.toNat - 128]? = some p:=⟨_,List.getElem?_eq_getElem (by rw [ruT_len];omega)⟩
     have he : refS5 1 x.toNat = p:=by
      unfold refS5;rw [if_neg (by omega),if_neg (by omega),if_neg (by omega),if_neg (by omega),if_neg (by omega),if_neg (by omega),if_neg (by omega),if_neg (by omega),if_neg (by omega),if_neg (by omega)]
      rw [List.getD,hp];rfl
     rw [he]
     have kN:=fun S (h : S = ruT) w=>nth_lit S ruT h (x.toNat - 128) ((x.toNat : Int) - 128) p w (by omega) ruT_size ruT_ok hp
     have HE:=Lib.hid he
     have KN:=Lib.hid kN
     have HPP:=Lib.hid hp
     clear he kN hp
     go_enter Tryz.func210,Tryz.ntmps210
     go_wp2_with (go_at_call 250;refine (KN.out _ (by kernel_rfl) _).mono ?_;rintro e w1 ⟨rfl,hb1⟩)
     go_ret
     exact ⟨rfl,hb1⟩
   · skip
     by_cases s0 : x.toNat = 164
     · have he : refS5 2 x.toNat = 1108:=by unfold refS5;rw [if_neg (by omega),if_neg (by omega),if_pos ⟨rfl,s0⟩]
       rw [he]
       have sI : (x.toNat : Int) = 164:=by omega
       obtain rfl : x = 164:=UInt8.toNat_inj.1 s0
       clear he sI s0
       go_enter Tryz.func210,Tryz.ntmps210
       go_wp2
       go_ret
       exact ⟨ret_i (by first | rfl | omega),Below.refl _ _⟩
     by_cases s1 : x.toNat = 166
     · have he : refS5 2 x.toNat = 1110:=by unfold refS5;rw [if_neg (by omega),if_neg (by omega),if_neg (by omega),if_pos ⟨rfl,s1⟩]
       rw [he]
       have sI : (x.toNat : Int) = 166:=by omega
       obtain rfl : x = 166:=UInt8.toNat_inj.1 s1
       clear he sI s1
       go_enter Tryz.func210,Tryz.ntmps210
       go_wp2
       go_ret
       exact ⟨ret_i (by first | rfl | omega),Below.refl _ _⟩
     by_cases s2 : x.toNat = 167
     · have he : refS5 2 x.toNat = 1111:=by unfold refS5;rw [if_neg (by omega),if_neg (by omega),if_neg (by omega),if_neg (by omega),if_pos ⟨rfl,s2⟩]
       rw [he]
       have sI : (x.toNat : Int) = 167:=by omega
       obtain rfl : x = 167:=UInt8.toNat_inj.1 s2
       clear he sI s2
       go_enter Tryz.func210,Tryz.ntmps210
       go_wp2
       go_ret
       exact ⟨ret_i (by first | rfl | omega),Below.refl _ _⟩
     by_cases s3 : x.toNat = 173
     · have he : refS5 2 x.toNat = 1169:=by unfold refS5;rw [if_neg (by omega),if_neg (by omega),if_neg (by omega),if_neg (by omega),if_neg (by omega),if_pos ⟨rfl,s3⟩]
       rw [he]
       have sI : (x.toNat : Int) = 173:=by omega
       obtain rfl : x = 173:=UInt8.toNat_inj.1 s3
       clear he sI s3
       go_enter Tryz.func210,Tryz.ntmps210
       go_wp2
       go_ret
       exact ⟨ret_i (by first | rfl | omega),Below.refl _ _⟩
     by_cases s4 : x.toNat = 180
     · have he : refS5 2 x.toNat = 1028:=by unfold refS5;rw [if_neg (by omega),if_neg (by omega),if_neg (by omega),if_neg (by omega),if_neg (by omega),if_neg (by omega),if_pos ⟨rfl,s4⟩]
       rw [he]
       have sI : (x.toNat : Int) = 180:=by omega
       obtain rfl : x = 180:=UInt8.toNat_inj.1 s4
       clear he sI s4
       go_enter Tryz.func210,Tryz.ntmps210
       go_wp2
       go_ret
       exact ⟨ret_i (by first | rfl | omega),Below.refl _ _⟩
     by_cases s5 : x.toNat = 182
     · have he : refS5 2 x.toNat = 1030:=by unfold refS5;rw [if_neg (by omega),if_neg (by omega),if_neg (by omega),if_neg (by omega),if_neg (by omega),if_neg (by omega),if_neg (by omega),if_pos ⟨rfl,s5⟩]
       rw [he]
       have sI : (x.toNat : Int) = 182:=by omega
       obtain rfl : x = 182:=UInt8.toNat_inj.1 s5
       clear he sI s5
       go_enter Tryz.func210,Tryz.ntmps210
       go_wp2
       go_ret
       exact ⟨ret_i (by first | rfl | omega),Below.refl _ _⟩
     by_cases s6 : x.toNat = 183
     · have he : refS5 2 x.toNat = 1031:=by unfold refS5;rw [if_neg (by omega),if_neg (by omega),if_neg (by omega),if_neg (by omega),if_neg (by omega),if_neg (by omega),if_neg (by omega),if_neg (by omega),if_pos ⟨rfl,s6⟩]
       rw [he]
       have sI : (x.toNat : Int) = 183:=by omega
       obtain rfl : x = 183:=UInt8.toNat_inj.1 s6
       clear he sI s6
       go_enter Tryz.func210,Tryz.ntmps210
       go_wp2
       go_ret
       exact ⟨ret_i (by first | rfl | omega),Below.refl _ _⟩
     by_cases s7 : x.toNat = 189
     · have he : refS5 2 x.toNat = 1168:=by unfold refS5;rw [if_neg (by omega),if_neg (by omega),if_neg (by omega),if_neg (by omega),if_neg (by omega),if_neg (by omega),if_neg (by omega),if_neg (by omega),if_neg (by omega),if_pos ⟨rfl,s7⟩]
       rw [he]
       have sI : (x.toNat : Int) = 189:=by omega
       obtain rfl : x = 189:=UInt8.toNat_inj.1 s7
       clear he sI s7
       go_enter Tryz.func210,Tryz.ntmps210
       go_wp2
       go_ret
       exact ⟨ret_i (by first | rfl | omega),Below.refl _ _⟩
     obtain ⟨p,hp⟩ : ∃ p,(pts (bl ruT))[x.toNat - 128]? = some p:=⟨_,List.getElem?_eq_getElem (by rw [ruT_len];omega)⟩
     have he : refS5 2 x.toNat = p:=by
      unfold refS5;rw [if_neg (by omega),if_neg (by omega),if_neg (by omega),if_neg (by omega),if_neg (by omega),if_neg (by omega),if_neg (by omega),if_neg (by omega),if_neg (by omega),if_neg (by omega)]
      rw [List.getD,hp];rfl
     rw [he]
     have kN:=fun S (h : S = ruT) w=>nth_lit S ruT h (x.toNat - 128) ((x.toNat : Int) - 128) p w (by omega) ruT_size ruT_ok hp
     have HE:=Lib.hid he
     have KN:=Lib.hid kN
     have HPP:=Lib.hid hp
     clear he kN hp
     go_enter Tryz.func210,Tryz.ntmps210
     go_wp2_with (go_at_call 250;refine (KN.out _ (by kernel_rfl) _).mono ?_;rintro e w1 ⟨rfl,hb1⟩)
     go_ret
     exact ⟨rfl,hb1⟩
   · by_cases r1 : x.toNat < 176
     · have he : refS5 3 x.toNat = 1040 + (x.toNat : Int) - 128:=by unfold refS5;rw [if_neg (by omega),if_pos rfl,if_pos r1]
       rw [he]
       clear he
       go_enter Tryz.func210,Tryz.ntmps210
       go_wp2
       go_ret
       exact ⟨ret_i (by first | rfl | omega),Below.refl _ _⟩
     · by_cases r2 : x.toNat < 224
       · skip
         obtain ⟨p,hp⟩ : ∃ p,(pts (bl frT))[x.toNat - 176]? = some p:=⟨_,List.getElem?_eq_getElem (by rw [frT_len];omega)⟩
         have he : refS5 3 x.toNat = p:=by
          unfold refS5;rw [if_neg (by omega),if_pos rfl,if_neg r1,if_pos r2]
          rw [List.getD,hp];rfl
         rw [he]
         have kN:=fun S (h : S = frT) w=>nth_lit S frT h (x.toNat - 176) ((x.toNat : Int) - 176) p w (by omega) frT_size frT_ok hp
         have HE:=Lib.hid he
         have KN:=Lib.hid kN
         have HPP:=Lib.hid hp
         clear he kN hp
         go_enter Tryz.func210,Tryz.ntmps210
         go_wp2_with (go_at_call 250;refine (KN.out _ (by kernel_rfl) _).mono ?_;rintro e w1 ⟨rfl,hb1⟩)
         go_ret
         exact ⟨rfl,hb1⟩
       · by_cases r3 : x.toNat < 240
         · have he : refS5 3 x.toNat = 1088 + (x.toNat : Int) - 224:=by unfold refS5;rw [if_neg (by omega),if_pos rfl,if_neg r1,if_neg r2,if_pos r3]
           rw [he]
           clear he
           go_enter Tryz.func210,Tryz.ntmps210
           go_wp2
           go_ret
           exact ⟨ret_i (by first | rfl | omega),Below.refl _ _⟩
         · skip
           obtain ⟨p,hp⟩ : ∃ p,(pts (bl otT))[x.toNat - 240]? = some p:=⟨_,List.getElem?_eq_getElem (by rw [otT_len];omega)⟩
           have he : refS5 3 x.toNat = p:=by
            unfold refS5;rw [if_neg (by omega),if_pos rfl,if_neg r1,if_neg r2,if_neg r3]
            rw [List.getD,hp];rfl
           rw [he]
           have kN:=fun S (h : S = otT) w=>nth_lit S otT h (x.toNat - 240) ((x.toNat : Int) - 240) p w (by omega) otT_size otT_ok hp
           have HE:=Lib.hid he
           have KN:=Lib.hid kN
           have HPP:=Lib.hid hp
           clear he kN hp
           go_enter Tryz.func210,Tryz.ntmps210
           go_wp2_with (go_at_call 250;refine (KN.out _ (by kernel_rfl) _).mono ?_;rintro e w1 ⟨rfl,hb1⟩)
           go_ret
           exact ⟨rfl,hb1⟩
theorem ref5_all : (List.range 4).all (fun (c : Nat)=>(fun KG=>(List.range 256).all fun n=>decide (refS5 (c : Int) n = KG.2.getD n 0)) (kgM (setS (c : Int)))) = true:=by decide +kernel
theorem ref5_eq (c : Int) (h0 : 0 ≤ c) (h1 : c ≤ 3) (b : UInt8) : refS5 c b.toNat = bySg (kgM (setS c)) b:=by
 obtain ⟨n,rfl⟩:=Int.eq_ofNat_of_zero_le h0
 have h:=List.all_eq_true.1 (List.all_eq_true.1 ref5_all n (by simp;omega)) b.toNat (by have:=b.toNat_lt;simp;omega)
 exact of_decide_eq_true h
set_option maxRecDepth 100000 in
theorem refDec5_any (c : Int) (s : ByteArray) (w : World) (h0 : 0 ≤ c) (h1 : c ≤ 3) (hs : s.size ≤ 1048576) : Calls Tryz.prog 172 #[.int .i64 c,.string s] w fun e w'=>e = .returned (.string ⟨(decT (tokC c) (bl s)).1.toArray⟩) ∧ Below w.heap.size w w':=by
 have HL : Hid ((bl s).length = s.size):=bl_length s
 obtain ⟨KG,hKG⟩ : ∃ KG,KG = kgM (setS c):=⟨_,rfl⟩
 have hgd:=good_at c h0 h1
 rw [dec_good c h0 h1,← hKG]
 rw [← hKG] at hgd
 have K1 : Hid (∀ (x : UInt8) w,Calls Tryz.prog 210 #[.int .i64 c,.int .u8 (x.toNat : Int)] w fun e w'=>e = .returned (.int .i32 (bySg KG x)) ∧ Below w.heap.size w w'):=by
  intro x w
  have:=sign5_any c x w h0 h1
  rw [ref5_eq c h0 h1,← hKG] at this
  exact this
 have K2 : Hid (∀ (x : UInt8) w,Calls Tryz.prog 193 #[.int .i32 (bySg KG x)] w fun e w'=>e = .returned (.string ⟨(encR (bySg KG x)).toArray⟩) ∧ Below w.heap.size w w'):=by
  intro x w
  exact refBytes_any _ (tok_good KG hgd x []).2 w
 simp only
 clear hKG hgd
 go_enter Tryz.func172,Tryz.ntmps172
 go_wp2
 go_loopw [5,6] (fun tv iv wr=>∃ (i : Nat) (T : ByteArray),iv = .int .i64 (i : Int) ∧ tv = .string T ∧ i ≤ s.size ∧ T.size ≤ 4 * i ∧ Hid (bl T = encL (((bl s).take i).map (bySg KG))) ∧ Below w.heap.size w wr) (fun _ iv _=>s.size - (intOf iv).toNat)
 case atStart=>exact ⟨0,⟨#[]⟩,rfl,rfl,Nat.zero_le _,by decide,Lib.hid (by simp [encL]),Below.refl _ _⟩
 case round=>
  obtain ⟨i,T,rfl,rfl,hi,hT,hE,hbel⟩:=hrel
  by_cases hlt : i < s.size
  · obtain ⟨x,hx⟩:=at_some (bl s) i (by rw [HL.out];exact hlt)
    have X : ∀ h,s[i]'h = x:=atB_of s i x hx
    have hxl:=x.toNat_lt
    obtain ⟨U,hU⟩ : ∃ U : ByteArray,U = ⟨(encR (bySg KG x)).toArray⟩:=⟨_,rfl⟩
    have hUl : U.size ≤ 4:=by rw [hU];exact (encR_len _).2
    have k1:=fun w=>K1.out x w
    have k2:=fun w=>K2.out x w
    rw [← hU] at k2
    have hE2 : bl (T ++ U) = encL (((bl s).take (i + 1)).map (bySg KG)):=by
     have e1 : bl (T ++ U) = bl T ++ bl U:=by simp [bl]
     rw [e1,hE.out,List.take_add_one,hx,List.map_append,encL_append,hU]
     simp [encL]
    have hTU : (T ++ U).size ≤ 4 * (i + 1):=by
     have e1 : bl (T ++ U) = bl T ++ bl U:=by simp [bl]
     rw [← bl_length,e1,List.length_append,bl_length,bl_length];omega
    generalize bySg KG x = p at *
    have K1':=Lib.hid k1
    have K2':=Lib.hid k2
    have HE2:=Lib.hid hE2
    have HU:=Lib.hid hU
    have HTU:=Lib.hid hTU
    clear k1 k2 hE2 hU hTU
    clear hx
    go_wp2_with (first
     | (go_at_call 210;refine (K1'.out _).mono ?_;rintro e w1 ⟨rfl,hb1⟩)
     | (go_at_call 193;refine (K2'.out _).mono ?_;rintro e w2 ⟨rfl,hb2⟩))
    go_roundw
    case rel=>exact ⟨i + 1,T ++ U,by go_num,rfl,by omega,HTU.out,HE2,bt (bt hbel hb1) hb2⟩
    case measure=>simp [intOf];omega
  · have hi2 : i = s.size:=by omega
    subst hi2
    have e1:=hE.out
    rw [List.take_of_length_le (by rw [HL.out];exact Nat.le_refl _)] at e1
    have e2 : T = ⟨(encL ((bl s).map (bySg KG))).toArray⟩:=by rw [← e1]
    have E2:=Lib.hid e2
    clear e2
    clear e1 hE
    go_wp2
    go_ret
    exact ⟨by rw [← E2.out];rfl,hbel⟩
theorem infoInt : (Tryz.prog.info? 3).map (fun i=>(i.zero,i.size,i.bytes)) = some (some (.int .i64 0),1,8):=by kernel_rfl
theorem ncells_append (l m : List Int) : ncells (l ++ m) = ncells l ++ ncells m:=by simp [ncells]
theorem refUnit_any (x y : UInt8) (big : Bool) (w : World) :
 Calls Tryz.prog 251 #[.int .u8 (x.toNat : Int),.int .u8 (y.toNat : Int),.bool big] w fun e w'=>e = .returned (.int .i64 (unitI x y big)) ∧ Below w.heap.size w w':=by
 have hxl:=x.toNat_lt
 have hyl:=y.toNat_lt
 have a1 : IntKind.i64.wrap (x.toNat : Int) = x.toNat:=by rw [wraps_i64] <;> omega
 have a2 : IntKind.i64.wrap (y.toNat : Int) = y.toNat:=by rw [wraps_i64] <;> omega
 have e6 : IntKind.i64.wrap ((x.toNat : Int) * 256) = (x.toNat : Int) * 256:=by rw [wraps_i64] <;> omega
 have e7 : IntKind.i64.wrap ((y.toNat : Int) * 256) = (y.toNat : Int) * 256:=by rw [wraps_i64] <;> omega
 have e8 : IntKind.i64.wrap ((x.toNat : Int) * 256 + y.toNat) = (x.toNat : Int) * 256 + y.toNat:=by rw [wraps_i64] <;> omega
 have e9 : IntKind.i64.wrap ((y.toNat : Int) * 256 + x.toNat) = (y.toNat : Int) * 256 + x.toNat:=by rw [wraps_i64] <;> omega
 cases big
 · go_enter Tryz.func251,Tryz.ntmps251
   go_wp2
   go_ret
   exact ⟨ret_i (by unfold unitI;simp),Below.refl _ _⟩
 · go_enter Tryz.func251,Tryz.ntmps251
   go_wp2
   go_ret
   exact ⟨ret_i (by unfold unitI;simp),Below.refl _ _⟩
set_option maxRecDepth 100000 in
theorem refUnits_any (s : ByteArray) (big : Bool) (w : World) (hs : s.size ≤ 1073741824) :
 Calls Tryz.prog 211 #[.string s,.bool big] w fun e w'=>∃ v,e = .returned v ∧ OwnN w' w.heap.size v (unitsL big (bl s)) ∧ Below w.heap.size w w':=by
 have HL : Hid ((bl s).length = s.size):=bl_length s
 obtain ⟨U,hU⟩ : ∃ U,U = unitsL big (bl s):=⟨_,rfl⟩
 rw [← hU]
 have HU:=Lib.hid hU
 clear hU
 go_enter Tryz.func211,Tryz.ntmps211
 go_wp2
 go_loopw [5,6] (fun v iv wr=>∃ (k j : Nat) (acc : List Int),iv = .int .i64 ((j : Int) + 1) ∧ Hid (j = 2 * k) ∧ OwnN wr w.heap.size v acc ∧ j ≤ s.size ∧ acc.length = k ∧ Hid (acc ++ unitsL big ((bl s).drop j) = U) ∧ Below w.heap.size w wr) (fun _ iv _=>s.size + 1 - (intOf iv).toNat)
 case atStart=>exact ⟨0,0,[],rfl,Lib.hid rfl,World.ownsRow_nil _ _ _ _,Nat.zero_le _,rfl,Lib.hid (by rw [HU.out];rfl),Below.refl _ _⟩
 case round=>
  obtain ⟨k,j,acc,rfl,hj,hown,hk,hacc,hQ,hbel⟩:=hrel
  by_cases hlt : j + 1 < s.size
  · obtain ⟨x,y,hx,hy,hd⟩:=drop_two (l:=bl s) (k:=j) (by rw [HL.out];exact hlt)
    have k1:=fun w=>refUnit_any x y big w
    have X : ∀ h,s[j]'h = x:=atB_of s _ x hx
    have Y : ∀ h,s[j + 1]'h = y:=atB_of s _ y hy
    have e1:=hQ.out
    rw [hd,unitsL] at e1
    have e2 : (acc ++ [unitI x y big]) ++ unitsL big ((bl s).drop (j + 2)) = U:=by rw [List.append_assoc];exact e1
    generalize unitI x y big = p at *
    have K1:=Lib.hid k1
    have E2:=Lib.hid e2
    clear k1 e2
    clear hx hy hd e1 hQ
    have hj0 : j < s.size:=by omega
    have HA1 : Hid (acc.length < 70368744177664):=Lib.hid (by have:=hj.out;omega)
    have HA2 : Hid ((acc.length + 1) * 8 ≤ 140737488355328):=Lib.hid (by have:=hj.out;omega)
    have i0 : IntKind.i64.wrap ((j : Int) + 1 - 1) = j:=by rw [wraps_i64] <;> omega
    have i1 : IntKind.i64.wrap (j : Int) = j:=by rw [wraps_i64] <;> omega
    have i2 : (0 : Int) ≤ (j : Int) + 1:=by omega
    have i3 : ((j : Int) + 1).toNat = j + 1:=by omega
    have i4 : IntKind.i64.wrap ((j : Int) + 1 + 2) = (j : Int) + 1 + 2:=by rw [wraps_i64] <;> omega
    have hod : OwnN wr.drew w.heap.size u5 acc:=hown.bel (Below.refl _ _).drew
    have hbd:=bdn hbel 1
    go_upto_region 5 with fail
    go_region_held3 (fun w'=>True) (exact trivial)
     (first
      | (refine (K1.out _).mono ?_;rintro e w1 ⟨rfl,hb1⟩)
      | (refine step_push1 rfl _ _ 91 3 rfl Tryz.underlying91 (.int .i64 0) 1 8 infoInt rfl (by decide) w1 w.heap.size u5 acc.length (ncells acc) rfl (OwnN.bel hod hb1) #[.int .i64 (p : Int)] rfl (by simp [Value.oneCell']) rfl HA1.out HA2.out (bt hbd hb1).size ?_;intro v' w4 hown4 hb4))
    all_goals
     go_wp2
     have hown5 : OwnN w4 w.heap.size v' (acc ++ [p]):=by
      unfold OwnN
      rw [ncells_append,List.length_append]
      exact hown4
     go_roundw
     case rel=>exact ⟨k + 1,j + 2,acc ++ [p],by go_num,Lib.hid (by have:=hj.out;omega),hown5,by omega,by rw [List.length_append];simp;omega,E2,(bt hbd hb1).trans hb4⟩
     case measure=>simp [intOf];omega
  · have e1:=hQ.out
    have hlen : ((bl s).drop j).length < 2:=by rw [List.length_drop,HL.out];omega
    have er : unitsL big ((bl s).drop j) = []:=by
     match (bl s).drop j,hlen with
     | [],_=>rfl
     | [z],_=>rfl
     | z :: u :: r,h=>simp at h;omega
    rw [er,List.append_nil] at e1
    have E1:=Lib.hid e1
    clear e1
    clear hQ er hlen
    go_wp2
    go_ret
    exact ⟨_,rfl,by rw [← E1.out];exact hown,hbel⟩
theorem unitsL_drop (big : Bool) : ∀ (i : Nat) (l : List UInt8),(unitsL big l).drop i = unitsL big (l.drop (2 * i)):=by
 intro i
 induction i with
 | zero=>intro l;rfl
 | succ i ih=>
  intro l
  match l with
  | []=>simp [unitsL]
  | [x]=>rw [show 2 * (i + 1) = 2 * i + 1 + 1 from by omega];simp [unitsL]
  | x :: y :: r=>rw [show 2 * (i + 1) = 2 * i + 1 + 1 from by omega];simp [unitsL,ih r]
theorem unitsL_len (big : Bool) (l : List UInt8) : (unitsL big l).length = l.length / 2:=by
 match l with
 | []=>rfl
 | [x]=>simp [unitsL]
 | x :: y :: r=>simp [unitsL,unitsL_len big r];omega
def placeI : Option Nat → Int
 | none=>-1
 | some k=>(k : Nat)
set_option maxRecDepth 100000 in
theorem refDec3_any (s : ByteArray) (big : Bool) (w : World) (hs : s.size ≤ 1048576) : Calls Tryz.prog 173 #[.string s,.bool big] w fun e w'=>
 e = .returned (.tuple #[.string ⟨(decT (tokW big) (bl s)).1.toArray⟩,.int .i64 (placeI (decT (tokW big) (bl s)).2)]) ∧ Below w.heap.size w w':=by
 have HL : Hid ((bl s).length = s.size):=bl_length s
 obtain ⟨R,hR⟩ : ∃ R,R = decT (tokW big) (bl s):=⟨_,rfl⟩
 obtain ⟨U,hU⟩ : ∃ U,U = unitsL big (bl s):=⟨_,rfl⟩
 have hUl : Hid (U.length = s.size / 2):=Lib.hid (by rw [hU,unitsL_len,bl_length])
 have hUb : Hid (∀ (i : Nat) (p : Int),U[i]? = some p → 0 ≤ p ∧ p < 65536):=Lib.hid (fun i p h=>unitsL_bd big (bl s) p (by rw [← hU];exact List.mem_of_getElem? h))
 obtain ⟨n,hn⟩ : ∃ n,n = U.length:=⟨_,rfl⟩
 have hW : Hid (∀ i,wsign big ((bl s).drop (2 * i)) = wsignU (U.drop i)):=Lib.hid (fun i=>by rw [wsign_units,hU,unitsL_drop])
 have K1 : Hid (∀ w,Calls Tryz.prog 211 #[.string s,.bool big] w fun e w'=>∃ v,e = .returned v ∧ OwnN w' w.heap.size v U ∧ Below w.heap.size w w'):=Lib.hid (fun w=>by rw [hU];exact refUnits_any s big w (by omega))
 have K2 : Hid (∀ (p : Int) w,Scal p → Calls Tryz.prog 193 #[.int .i32 p] w fun e w'=>e = .returned (.string ⟨(encR p).toArray⟩) ∧ Below w.heap.size w w'):=Lib.hid (fun p w h=>refBytes_any p h w)
 rw [← hR]
 have hn2 : n = s.size / 2:=by rw [hn];exact hUl.out
 have HR:=Lib.hid hR
 have HU:=Lib.hid hU
 have HN:=Lib.hid hn
 clear hR hU hn
 have HN2:=Lib.hid hn2
 have hn3 : 2 * n ≤ s.size:=by omega
 have hn4 : s.size ≤ 2 * n + 1:=by omega
 clear hn2
 go_enter Tryz.func173,Tryz.ntmps173
 go_wp2_with (go_at_call 211;refine (K1.out _).mono ?_;rintro e w1 ⟨v,rfl,hown,hb1⟩)
 have hrow:=hown.row
 rw [← HN.out] at hrow
 obtain ⟨a,cap,rfl,hc⟩:=hrow
 have HC:=Lib.hid hc
 clear hc hown
 go_wp2_with fail
 go_loopw [7,8] (fun tv iv wr=>∃ (f i : Nat) (T : ByteArray),iv = .int .i64 (i : Int) ∧ tv = .string T ∧ i ≤ n ∧ T.size ≤ 4 * i ∧ s.size - 2 * i ≤ f ∧ Hid (runT (tokW big) f ((bl s).drop (2 * i)) (2 * i) (bl T) = R) ∧ Below w1.heap.size w1 wr) (fun _ iv _=>n - (intOf iv).toNat)
 case atStart=>exact ⟨s.size,0,⟨#[]⟩,rfl,rfl,Nat.zero_le _,by decide,by omega,Lib.hid (by have:=HR.out;unfold decT at this;rw [HL.out] at this;rw [this];rfl),Below.refl _ _⟩
 case round=>
  obtain ⟨f,i,T,rfl,rfl,hi,hT,hf,hQ,hbel⟩:=hrel
  have hbw : Below w.heap.size w wr:=hb1.trans (hbel.mono hb1.size)
  by_cases hlt : i < n
  · obtain ⟨p,hp⟩:=at_some U i (by rw [← HN.out];exact hlt)
    obtain ⟨g,o,rfl,hcell⟩:=HC.out i (.int .i64 p) (by simp [ncells,hp])
    have hcell:=kc hbel hcell
    obtain ⟨p0,p1⟩:=hUb.out i p hp
    obtain ⟨f,rfl⟩ : ∃ g,f = g + 1:=⟨f - 1,by omega⟩
    have hne : (bl s).drop (2 * i) ≠ []:=drop_ne (by rw [HL.out];omega)
    have hw:=hW.out i
    have hdr : U.drop i = p :: U.drop (i + 1):=by
     obtain ⟨h1,h2⟩:=List.getElem?_eq_some_iff.1 hp
     rw [List.drop_eq_getElem_cons h1,h2]
    rw [hdr] at hw
    have htk : tokW big ((bl s).drop (2 * i)) = if (wsign big ((bl s).drop (2 * i))).2 = 0 then none else some (encR (wsign big ((bl s).drop (2 * i))).1,(wsign big ((bl s).drop (2 * i))).2):=rfl
    rw [hw] at htk
    have c0 : IntKind.i32.wrap p = p:=by rw [wraps_i32] <;> omega
    have gd : ∀ (q : Int) (m : Nat),wsignU (p :: U.drop (i + 1)) = (q,m + 1) → runT (tokW big) f ((bl s).drop (2 * i + (m + 1))) (2 * i + (m + 1)) (bl (T ++ ⟨(encR q).toArray⟩)) = R:=by
     intro q m e
     rw [e] at htk
     have:=runT_some (tok:=tokW big) f _ (2 * i) (bl T) _ _ hne htk
     rw [hQ.out,List.drop_drop] at this
     rw [this];simp [bl]
    have bd : wsignU (p :: U.drop (i + 1)) = (0,0) → R = ([],some (2 * i)):=by
     intro e
     rw [e] at htk
     have:=runT_none (tok:=tokW big) f _ (2 * i) (bl T) hne htk
     rw [hQ.out] at this
     exact this
    have GD:=Lib.hid gd
    have BD:=Lib.hid bd
    clear gd bd
    clear htk hw hdr hne hQ
    by_cases hlow : p < 55296 ∨ 57344 ≤ p
    · have e1:=GD.out p 1 (by rw [wsignU.eq_def];simp only;rw [if_pos hlow])
      have k2:=fun w=>K2.out p w (by unfold Scal;omega)
      have hl:=encR_len p
      obtain ⟨V,hV⟩ : ∃ V : ByteArray,V = ⟨(encR p).toArray⟩:=⟨_,rfl⟩
      have hVl : V.size ≤ 4:=by rw [hV];exact hl.2
      rw [← hV] at e1 k2
      have hTV : (T ++ V).size ≤ 4 * (i + 1):=by
       have e1 : bl (T ++ V) = bl T ++ bl V:=by simp [bl]
       rw [← bl_length,e1,List.length_append,bl_length,bl_length];omega
      have K2':=Lib.hid k2
      have E1:=Lib.hid e1
      have HV:=Lib.hid hV
      have HTV:=Lib.hid hTV
      clear k2 e1 hV hTV
      clear hp hl
      rcases hlow with h | h
      all_goals
       go_wp2_with (go_at_call 193;refine (K2'.out _).mono ?_;rintro e w2 ⟨rfl,hb2⟩)
       go_roundw
       case rel=>exact ⟨f,i + 1,T ++ V,by go_num,rfl,by omega,HTV.out,by omega,E1,bt hbel hb2⟩
       case measure=>simp [intOf];omega
    · have hs0 : 55296 ≤ p:=by omega
      have hs1 : p < 57344:=by omega
      clear hlow
      rcases Int.lt_or_le 56319 p with hb | hb
      · have e1 : Hid (R = ([],some (2 * i))):=Lib.hid (BD.out (by
         rw [wsignU.eq_def];simp only;rw [if_neg (by omega)]
         cases U.drop (i + 1) with
         | nil=>rfl
         | cons q r=>simp only;rw [if_pos (by omega)]))
        clear hp
        go_wp2_with fail
        refine bodyPost_ret (v:=.tuple #[.string ⟨#[]⟩,.int .i64 (2 * (i : Int))]) (by simp [results,Tryz.results173,go_sem]) rfl ⟨?_,hbw⟩
        rw [e1.out];rfl
      · rcases Nat.lt_or_ge (i + 1) n with h2 | h2
        · obtain ⟨q,hq⟩:=at_some U (i + 1) (by rw [← HN.out];exact h2)
          obtain ⟨g',o',hgo,hcell2⟩:=HC.out (i + 1) (.int .i64 q) (by simp [ncells,hq])
          simp only [Option.some.injEq,Addr.mk.injEq,and_true] at hgo
          obtain ⟨rfl,rfl⟩:=hgo
          have hcell2:=kc hbel hcell2
          obtain ⟨q0,q1⟩:=hUb.out (i + 1) q hq
          have hdr2 : Hid (U.drop (i + 1) = q :: U.drop (i + 2)):=Lib.hid (by
           obtain ⟨h1,h2⟩:=List.getElem?_eq_some_iff.1 hq
           rw [List.drop_eq_getElem_cons h1,h2])
          clear hp hq
          by_cases hqb : q < 56320 ∨ 57344 ≤ q
          · have e1 : Hid (R = ([],some (2 * i))):=Lib.hid (BD.out (by
             rw [hdr2.out,wsignU.eq_def];simp only;rw [if_neg (by omega),if_neg (by omega),if_pos hqb]))
            rcases hqb with h | h
            all_goals
             go_wp2_with fail
             refine bodyPost_ret (v:=.tuple #[.string ⟨#[]⟩,.int .i64 (2 * (i : Int))]) (by simp [results,Tryz.results173,go_sem]) rfl ⟨?_,hbw⟩
             rw [e1.out];rfl
          · have e1:=GD.out (65536 + (p - 55296) * 1024 + (q - 56320)) 3 (by
             rw [hdr2.out,wsignU.eq_def];simp only;rw [if_neg (by omega),if_neg (by omega),if_neg hqb])
            obtain ⟨r,hr⟩ : ∃ r,r = 65536 + (p - 55296) * 1024 + (q - 56320):=⟨_,rfl⟩
            rw [← hr] at e1
            have k2:=fun w=>K2.out r w (by unfold Scal;omega)
            have hl:=encR_len r
            have hq0 : 56320 ≤ q:=by omega
            have hq1 : q < 57344:=by omega
            obtain ⟨V,hV⟩ : ∃ V : ByteArray,V = ⟨(encR r).toArray⟩:=⟨_,rfl⟩
            have hVl : V.size ≤ 4:=by rw [hV];exact hl.2
            rw [← hV] at e1 k2
            have hTV : (T ++ V).size ≤ 4 * (i + 2):=by
             have e1 : bl (T ++ V) = bl T ++ bl V:=by simp [bl]
             rw [← bl_length,e1,List.length_append,bl_length,bl_length];omega
            rw [hr] at k2
            have K2':=Lib.hid k2
            have E1:=Lib.hid e1
            have HV:=Lib.hid hV
            have HTV:=Lib.hid hTV
            have HRR:=Lib.hid hr
            clear k2 e1 hV hTV hr
            clear hl hqb
            have c1 : IntKind.i32.wrap q = q:=by rw [wraps_i32] <;> omega
            have c3 : 65536 + (p - 55296) * 1024 + (q - 56320) = 65536 + (p - 55296) * 1024 + q - 56320:=by omega
            rw [c3] at K2'
            clear c3
            go_wp2_with (go_at_call 193;refine (K2'.out _).mono ?_;rintro e w2 ⟨rfl,hb2⟩)
            go_roundw
            case rel=>exact ⟨f,i + 2,T ++ V,by go_num,rfl,by omega,HTV.out,by omega,E1,bt hbel hb2⟩
            case measure=>simp [intOf];omega
        · have e1 : Hid (R = ([],some (2 * i))):=Lib.hid (BD.out (by
           rw [List.drop_eq_nil_of_le (by rw [← HN.out];exact h2),wsignU.eq_def];simp only;rw [if_neg (by omega)]))
          clear hp
          go_wp2_with fail
          refine bodyPost_ret (v:=.tuple #[.string ⟨#[]⟩,.int .i64 (2 * (i : Int))]) (by simp [results,Tryz.results173,go_sem]) rfl ⟨?_,hbw⟩
          rw [e1.out];rfl
  · have hin : i = n:=by omega
    subst hin
    by_cases hod : s.size = 2 * i
    · have e1 : runT (tokW big) f ((bl s).drop (2 * i)) (2 * i) (bl T) = (bl T,none):=by
       rw [List.drop_of_length_le (by rw [HL.out];omega)];exact runT_nil f _ _
      rw [hQ.out] at e1
      have E1:=Lib.hid e1
      clear e1 hQ
      have m1 : ((s.size : Int).tmod 2) = 0:=by rw [Int.tmod_eq_emod_of_nonneg (by omega)];omega
      go_wp2_with fail
      refine bodyPost_ret (v:=.tuple #[.string T,.int .i64 (-1)]) (by simp [results,Tryz.results173,go_sem]) rfl ⟨?_,hbw⟩
      rw [E1.out];rfl
    · obtain ⟨f,rfl⟩ : ∃ g,f = g + 1:=⟨f - 1,by omega⟩
      have hne : (bl s).drop (2 * i) ≠ []:=drop_ne (by rw [HL.out];omega)
      have hw:=hW.out i
      rw [show U.drop i = [] from List.drop_eq_nil_of_le (by rw [← HN.out];exact Nat.le_refl _)] at hw
      have e1:=runT_none (tok:=tokW big) f _ (2 * i) (bl T) hne (by unfold tokW;rw [hw];rfl)
      rw [hQ.out] at e1
      have E1:=Lib.hid e1
      clear e1 hQ hw hne
      have hsz : s.size = 2 * i + 1:=by omega
      have m1 : ((s.size : Int).tmod 2) = 1:=by rw [Int.tmod_eq_emod_of_nonneg (by omega)];omega
      have HSZ:=Lib.hid hsz
      go_wp2_with fail
      refine bodyPost_ret (v:=.tuple #[.string ⟨#[]⟩,.int .i64 (2 * (i : Int))]) (by simp [results,Tryz.results173,go_sem]) rfl ⟨?_,hbw⟩
      rw [E1.out]
      rfl
def LabPost (l : List ByteArray) (w : World) (e : Ending) (w' : World) : Prop:=∃ v,e = .returned v ∧ Row w' v l.length (scells l) ∧ Below w.heap.size w w'
theorem labels_in (c : Nat) (w : World) (h : c < 10) : Calls Tryz.prog 207 #[.int .i64 (c : Int)] w (LabPost (labL c) w):=by
 unfold LabPost
 rcases (show c = 0 ∨ c = 1 ∨ c = 2 ∨ c = 3 ∨ c = 4 ∨ c = 5 ∨ c = 6 ∨ c = 7 ∨ c = 8 ∨ c = 9 from by omega) with rfl | rfl | rfl | rfl | rfl | rfl | rfl | rfl | rfl | rfl
 · go_enter Tryz.func207,Tryz.ntmps207
   go_wp2
   go_ret
   exact ⟨_,rfl,row_lits w #[.string ⟨#[108,97,116,105,110,49]⟩,.string ⟨#[105,115,111,45,56,56,53,57,45,49]⟩,.string ⟨#[108,97,116,105,110,45,49]⟩] 9,bal (Below.refl _ _) _⟩
 · go_enter Tryz.func207,Tryz.ntmps207
   go_wp2
   go_ret
   exact ⟨_,rfl,row_lits w #[.string ⟨#[107,111,105,56,45,114]⟩,.string ⟨#[107,111,105,56,114]⟩] 9,bal (Below.refl _ _) _⟩
 · go_enter Tryz.func207,Tryz.ntmps207
   go_wp2
   go_ret
   exact ⟨_,rfl,row_lits w #[.string ⟨#[107,111,105,56,45,117]⟩,.string ⟨#[107,111,105,56,117]⟩] 9,bal (Below.refl _ _) _⟩
 · go_enter Tryz.func207,Tryz.ntmps207
   go_wp2
   go_ret
   exact ⟨_,rfl,row_lits w #[.string ⟨#[99,112,56,54,54]⟩,.string ⟨#[105,98,109,56,54,54]⟩] 9,bal (Below.refl _ _) _⟩
 · go_enter Tryz.func207,Tryz.ntmps207
   go_wp2
   go_ret
   exact ⟨_,rfl,row_lits w #[.string ⟨#[99,112,57,52,57]⟩,.string ⟨#[101,117,99,45,107,114]⟩,.string ⟨#[117,104,99]⟩] 9,bal (Below.refl _ _) _⟩
 · go_enter Tryz.func207,Tryz.ntmps207
   go_wp2
   go_ret
   exact ⟨_,rfl,row_lits w #[.string ⟨#[106,111,104,97,98]⟩,.string ⟨#[99,112,49,51,54,49]⟩] 9,bal (Below.refl _ _) _⟩
 · go_enter Tryz.func207,Tryz.ntmps207
   go_wp2
   go_ret
   exact ⟨_,rfl,row_lits w #[.string ⟨#[98,105,103,53,45,104,107,115,99,115]⟩,.string ⟨#[98,105,103,53]⟩] 9,bal (Below.refl _ _) _⟩
 · go_enter Tryz.func207,Tryz.ntmps207
   go_wp2
   go_ret
   exact ⟨_,rfl,row_lits w #[.string ⟨#[117,116,102,45,56]⟩,.string ⟨#[117,116,102,56]⟩] 9,bal (Below.refl _ _) _⟩
 · go_enter Tryz.func207,Tryz.ntmps207
   go_wp2
   go_ret
   exact ⟨_,rfl,row_lits w #[.string ⟨#[117,116,102,45,49,54,108,101]⟩,.string ⟨#[117,116,102,49,54,108,101]⟩] 9,bal (Below.refl _ _) _⟩
 · go_enter Tryz.func207,Tryz.ntmps207
   go_wp2
   go_ret
   exact ⟨_,rfl,row_lits w #[.string ⟨#[117,116,102,45,49,54,98,101]⟩,.string ⟨#[117,116,102,49,54,98,101]⟩] 9,bal (Below.refl _ _) _⟩
theorem labL_len : ∀ c : Fin 10,1 ≤ (labL (c.val : Nat)).length ∧ (labL (c.val : Nat)).length ≤ 3:=by decide +kernel
theorem sm_snoc (l : List UInt8) (j : Nat) (h : j < l.length) : smallL (l.take (j + 1)) = smallL (l.take j) ++ [sm l[j]]:=by
 unfold smallL;rw [List.take_succ_eq_append_getElem h,List.map_append];rfl
theorem same_any (a b : ByteArray) (w : World) (ha : a.size ≤ 1073741824) : Calls Tryz.prog 208 #[.string a,.string b] w fun e w'=>e = .returned (.bool (decide (smallL (bl a) = bl b))) ∧ w = w':=by
 have HA : Hid ((bl a).length = a.size):=bl_length a
 have HB : Hid ((bl b).length = b.size):=bl_length b
 by_cases hl : a.size = b.size
 · have hlz : ((a.size : Int) == b.size) = true:=by simp [hl]
   have hle : a.size ≤ b.size:=by omega
   have hge : b.size ≤ a.size:=by omega
   clear hl
   go_enter Tryz.func208,Tryz.ntmps208
   go_wp2
   go_loop [5] (fun i=>∃ k : Nat,i = .int .i64 (k : Int) ∧ k ≤ a.size ∧ Hid (smallL ((bl a).take k) = (bl b).take k)) (fun i=>a.size - (intOf i).toNat)
   case atStart=>exact ⟨0,rfl,Nat.zero_le _,Lib.hid (by simp [smallL])⟩
   case round=>
    obtain ⟨k,rfl,hk,hR⟩:=hrel
    by_cases hlt : k < a.size
    · have hltb : k < b.size:=by omega
      obtain ⟨x,hx⟩:=at_some (bl a) k (by rw [HA.out];exact hlt)
      obtain ⟨y,hy⟩:=at_some (bl b) k (by rw [HB.out];exact hltb)
      have X : ∀ h,a[k]'h = x:=atB_of a k x hx
      have Y : ∀ h,b[k]'h = y:=atB_of b k y hy
      have hxl:=x.toNat_lt
      have hyl:=y.toNat_lt
      obtain ⟨hx1,hx2⟩:=List.getElem?_eq_some_iff.1 hx
      obtain ⟨hy1,hy2⟩:=List.getElem?_eq_some_iff.1 hy
      have e1 : smallL ((bl a).take (k + 1)) = (bl b).take k ++ [sm x]:=by rw [sm_snoc _ _ hx1,hx2,hR.out]
      have e2 : (bl b).take (k + 1) = (bl b).take k ++ [y]:=by rw [List.take_succ_eq_append_getElem hy1,hy2]
      have hstep : sm x = y → smallL ((bl a).take (k + 1)) = (bl b).take (k + 1):=fun h=>by rw [e1,e2,h]
      have hno : sm x ≠ y → decide (smallL (bl a) = bl b) = false:=by
       intro h
       simp only [decide_eq_false_iff_not]
       intro h2
       have h3:=congrArg (fun l=>l.take (k + 1)) h2
       simp only [smallL,← List.map_take] at h3
       rw [show List.map sm ((bl a).take (k + 1)) = smallL ((bl a).take (k + 1)) from rfl,e1,e2] at h3
       exact h (by simpa using h3)
      have hxw : IntKind.u8.wrap (IntKind.u8.wrap ((x.toNat : Int) - 65) + 97) = if 65 ≤ x.toNat ∧ x.toNat ≤ 90 then (x.toNat : Int) + 32 else IntKind.u8.wrap (IntKind.u8.wrap ((x.toNat : Int) - 65) + 97):=by
       split
       · rw [wraps_u8 ((x.toNat : Int) - 65) (by omega) (by omega),wraps_u8 _ (by omega) (by omega)];omega
       · rfl
      have hsy : ((sm x).toNat : Int) = if 65 ≤ x.toNat ∧ x.toNat ≤ 90 then (x.toNat : Int) + 32 else x.toNat:=by
       unfold sm
       split
       · rw [UInt8.toNat_ofNat'];omega
       · rfl
      have HSTEP:=Lib.hid hstep
      have HNO:=Lib.hid hno
      clear hstep hno
      clear hx hy hx1 hx2 hy1 hy2 e1 e2
      generalize hs : sm x = s at *
      have hsl:=s.toNat_lt
      clear hs
      by_cases hu1 : 65 ≤ x.toNat
      · by_cases hu2 : x.toNat ≤ 90
        · rw [if_pos ⟨hu1,hu2⟩] at hxw hsy
          by_cases he : s = y
          · have hq : (x.toNat : Int) + 32 = (y.toNat : Int):=by rw [← he];omega
            have hst:=HSTEP.out he
            have HST:=Lib.hid hst
            clear hst
            clear he hsy
            go_wp2
            exact ⟨⟨k + 1,by first | omega | go_num,by omega,HST⟩,by simp [intOf];omega⟩
          · have hq : ¬ (x.toNat : Int) + 32 = (y.toNat : Int):=fun h=>he (UInt8.toNat_inj.1 (by omega))
            have hno:=HNO.out he
            have HNO2:=Lib.hid hno
            clear hno
            clear he hsy
            go_wp2
            go_ret
            exact ⟨ret_b HNO2.out.symm,rfl⟩
        · rw [if_neg (fun h=>hu2 h.2)] at hsy
          clear hxw
          by_cases he : s = y
          · have hq : (x.toNat : Int) = (y.toNat : Int):=by rw [← he];omega
            have hst:=HSTEP.out he
            have HST:=Lib.hid hst
            clear hst
            clear he hsy
            go_wp2
            exact ⟨⟨k + 1,by first | omega | go_num,by omega,HST⟩,by simp [intOf];omega⟩
          · have hq : ¬ (x.toNat : Int) = (y.toNat : Int):=fun h=>he (UInt8.toNat_inj.1 (by omega))
            have hno:=HNO.out he
            have HNO2:=Lib.hid hno
            clear hno
            clear he hsy
            go_wp2
            go_ret
            exact ⟨ret_b HNO2.out.symm,rfl⟩
      · rw [if_neg (fun h=>hu1 h.1)] at hsy
        clear hxw
        by_cases he : s = y
        · have hq : (x.toNat : Int) = (y.toNat : Int):=by rw [← he];omega
          have hst:=HSTEP.out he
          have HST:=Lib.hid hst
          clear hst
          clear he hsy
          go_wp2
          exact ⟨⟨k + 1,by first | omega | go_num,by omega,HST⟩,by simp [intOf];omega⟩
        · have hq : ¬ (x.toNat : Int) = (y.toNat : Int):=fun h=>he (UInt8.toNat_inj.1 (by omega))
          have hno:=HNO.out he
          have HNO2:=Lib.hid hno
          clear hno
          clear he hsy
          go_wp2
          go_ret
          exact ⟨ret_b HNO2.out.symm,rfl⟩
    · have hkk : k = a.size:=by omega
      have hR2:=hR.out
      rw [List.take_of_length_le (by rw [HA.out];omega),List.take_of_length_le (by rw [HB.out];omega)] at hR2
      have hd : decide (smallL (bl a) = bl b) = true:=by simpa using hR2
      have HD:=Lib.hid hd
      clear hd
      clear hR hR2
      go_wp2
      go_ret
      exact ⟨ret_b HD.out.symm,rfl⟩
 · have hd : decide (smallL (bl a) = bl b) = false:=by
    simp only [decide_eq_false_iff_not]
    intro h
    have:=congrArg List.length h
    simp only [smallL,List.length_map] at this
    rw [HA.out,HB.out] at this
    exact hl this
   have hl1 : ¬ (a.size : Int) = b.size:=by omega
   have HD:=Lib.hid hd
   clear hd
   clear hl
   go_enter Tryz.func208,Tryz.ntmps208
   go_wp2
   go_ret
   exact ⟨ret_b HD.out.symm,rfl⟩
theorem refNamed_any (s : ByteArray) (w : World) (hs : s.size ≤ 1073741824) : Calls Tryz.prog 169 #[.string s] w fun e w'=>e = .returned (.int .i64 (refNamed (bl s))) ∧ Below w.heap.size w w':=by
 have K1:=Lib.hid labels_in
 have K2:=Lib.hid (fun b w=>same_any s b w hs)
 have HIT:=Lib.hid (ref_hit (bl s))
 have MISS:=Lib.hid (ref_miss (bl s))
 generalize refNamed (bl s) = R at *
 go_enter Tryz.func169,Tryz.ntmps169
 go_wp2
 go_loopw [3] (fun cv wr=>∃ c : Nat,cv = .int .i64 (c : Int) ∧ c ≤ 10 ∧ Hid (∀ d,d < c → hasLab (bl s) d = false) ∧ Below w.heap.size w wr) (fun cv _=>10 - (intOf cv).toNat)
 case atStart=>exact ⟨0,rfl,by omega,Lib.hid (fun d hd=>by omega),Below.refl _ _⟩
 case round=>
  obtain ⟨c,rfl,hc,hno,hbel⟩:=hrel
  by_cases hlt : c < 10
  · go_wp2_with (go_at_call 207;refine (K1.out c _ hlt).mono ?_;rintro e w1 ⟨v,rfl,hrow,hb1⟩)
    have hb01:=bt hbel hb1
    obtain ⟨n,hn⟩ : ∃ n,n = (labL (c : Int)).length:=⟨_,rfl⟩
    rw [← hn] at hrow
    have hrow2:=hrow
    obtain ⟨a,cap,hv,_⟩:=hrow2
    subst hv
    have hn3 : n ≤ 3:=by rw [hn];exact (labL_len ⟨c,hlt⟩).2
    have HROW:=Lib.hid hrow
    have HN:=Lib.hid hn
    clear hrow hn
    go_loop [5] (fun iv=>∃ i : Nat,iv = .int .i64 (i : Int) ∧ i ≤ n ∧ Hid (∀ x ∈ (labL (c : Int)).take i,decide (smallL (bl s) = bl x) = false)) (fun iv=>n - (intOf iv).toNat)
    case atStart=>exact ⟨0,rfl,Nat.zero_le _,Lib.hid (by simp)⟩
    case round=>
     obtain ⟨i,rfl,hi,hR⟩:=hrel
     by_cases hin : i < n
     · obtain ⟨x,hx⟩:=at_some (labL (c : Int)) i (by rw [← HN.out];exact hin)
       obtain ⟨g,o,cap',he,hcell⟩:=row_at HROW.out i (.string x) (by unfold scells;rw [List.getElem?_map,hx];rfl)
       simp only [Value.slice.injEq] at he
       obtain ⟨rfl,_,rfl⟩:=he
       have k2:=fun w=>K2.out x w
       have hmem:=List.mem_of_getElem? hx
       have htk : (labL (c : Int)).take (i + 1) = (labL (c : Int)).take i ++ [x]:=by rw [List.take_add_one,hx];rfl
       cases hB : decide (smallL (bl s) = bl x) with
       | true=>
        rw [hB] at k2
        have hh:=HIT.out c hlt hno.out (by unfold hasLab;rw [List.any_eq_true];exact ⟨x,hmem,hB⟩)
        have HH:=Lib.hid hh
        have K3:=Lib.hid k2
        clear hh k2
        clear hB hx hmem htk
        go_wp2_with (go_at_call 208;refine (K3.out _).mono ?_;rintro e w2 ⟨rfl,rfl⟩)
        go_ret
        exact ⟨ret_i HH.out.symm,hb01⟩
       | false=>
        rw [hB] at k2
        have hR2 : ∀ x ∈ (labL (c : Int)).take (i + 1),decide (smallL (bl s) = bl x) = false:=by
         intro y hy
         rw [htk] at hy
         rcases List.mem_append.1 hy with h | h
         · exact hR.out y h
         · simp only [List.mem_singleton] at h;rw [h];exact hB
        have HR2:=Lib.hid hR2
        have K3:=Lib.hid k2
        clear hR2 k2
        clear hB hx hmem htk
        go_wp2_with (go_at_call 208;refine (K3.out _).mono ?_;rintro e w2 ⟨rfl,rfl⟩)
        exact ⟨⟨i + 1,by first | omega | go_num,by omega,HR2⟩,by simp [intOf];omega⟩
     · have hin2 : i = n:=by omega
       subst hin2
       have hno2 : ∀ d,d < c + 1 → hasLab (bl s) d = false:=by
        intro d hd
        rcases Nat.lt_or_ge d c with h | h
        · exact hno.out d h
        · obtain rfl : d = c:=by omega
          unfold hasLab
          rw [List.any_eq_false]
          intro x hx
          have:=hR.out x (by rw [HN.out,List.take_length];exact hx)
          simpa using this
       have HNO2:=Lib.hid hno2
       clear hno2
       go_wp2
       exact ⟨⟨c + 1,by first | omega | go_num,by omega,HNO2,hb01⟩,by simp [intOf];omega⟩
  · have hc10 : c = 10:=by omega
    subst hc10
    have hm:=MISS.out hno.out
    have HM:=Lib.hid hm
    clear hm
    go_wp2
    go_ret
    exact ⟨ret_i HM.out.symm,hbel⟩
end Go.Proofs.YtmfjmgjhfplijaaGreatDoor
