/- What is told of a text's byte at a place; two tables of what is told. -/
import Derived.Test.YtohbeinhlhgfiaaGreatDoorR3
import Derived.Test.YtohbeinhlhgfiaaGreatDoorRH
import Derived.Test.YtohbeinhlhgfiaaGreatDoorMCy
namespace Go.Proofs.YtohbeinhlhgfiaaGreatDoor
open Go Go.Rf Go.RowKit
set_option linter.unusedVariables false
set_option linter.unusedSimpArgs false
abbrev FactF:=Op → List V2 → Option V2
def factOr (F G : FactF) : FactF:=fun o a=>match F o a with | some r=>some r | none=>G o a
abbrev IdxF:=At × Nat × At
def lookI : List IdxF → At → Nat → Option At
 | [],_,_=>none
 | (x,i,r) :: l,u,j=>match sameA x u && Nat.beq i j with
  | true=>some r
  | false=>lookI l u j
def factI (t0 : TypeId) (l : List IdxF) : FactF
 | .index t _ _,[.o (.a x),.o (.a (.lit (.int _ (.ofNat i))))]=>match Nat.beq t t0 with
  | true=>(match lookI l x i with | some r=>some (.o (.a r)) | none=>none)
  | false=>none
 | _,_=>none
variable [Sym]
def FOk (P : Program) (F : FactF) : Prop:=∀ (o : Op) (args : List V2) (r : V2),F o args = some r → ∃ v,(∀ ρ,r.den ρ = some v) ∧ ∀ (o' : Oper) (ev : Operand → V2) (val : Operand → Value),o'.op = o → o.operands.toList.map ev = args → (∀ x ∈ o.operands,∃ ρ,(ev x).den ρ = some (val x)) → ∀ w : World,(execOp val o').run P w = .ok (.value v) w
theorem factOr_ok {P : Program} {F G : FactF} (hF : FOk P F) (hG : FOk P G) : FOk P (factOr F G):=by
 intro o args r h
 unfold factOr at h
 split at h
 · rename_i q hq;cases h;exact hF _ _ _ hq
 · exact hG _ _ _ h
def IOk (e : IdxF) : Prop:=∃ b : ByteArray,(∀ ρ,e.1.den ρ = some (.string b)) ∧ ∃ h : e.2.1 < b.size,∀ ρ,e.2.2.den ρ = some (.int .u8 ((b[e.2.1]'h).toNat : Int))
def IAllOk : List IdxF → Prop
 | []=>True
 | e :: l=>IOk e ∧ IAllOk l
theorem lookI_ok : ∀ {l : List IdxF} {u : At} {j : Nat} {r : At},IAllOk l → lookI l u j = some r → IOk (u,j,r)
 | [],u,j,r,_,h=>by cases h
 | (x,i,q) :: l,u,j,r,ha,h=>by
  simp only [lookI] at h
  split at h
  · rename_i hb
    simp only [Bool.and_eq_true] at hb
    cases h
    have h1:=sameA_eq hb.1
    have h2:=Nat.eq_of_beq_eq_true hb.2
    subst h1;subst h2
    exact ha.1
  · exact lookI_ok ha.2 h
theorem factI_ok {t0 : TypeId} {l : List IdxF} (ht : Tryz.prog.underlying t0 = some .string) (hl : IAllOk l) : FOk Tryz.prog (factI t0 l):=by
 intro o args r h
 unfold factI at h
 split at h
 · rename_i t xo io x kq i
   split at h
   · rename_i hb
     obtain rfl:=Nat.eq_of_beq_eq_true hb
     split at h
     · rename_i q hq
       cases h
       obtain ⟨b,d1,hlt,d2⟩:=lookI_ok hl hq
       refine ⟨_,d2,fun o' ev val ho hargs hv w=>?_⟩
       simp only [Op.operands,List.map_cons,List.map_nil,List.cons.injEq,and_true] at hargs
       obtain ⟨e1,e2⟩:=hargs
       obtain ⟨ρ1,v1⟩:=hv xo (by simp [Op.operands])
       obtain ⟨ρ2,v2⟩:=hv io (by simp [Op.operands])
       rw [e1] at v1
       rw [e2] at v2
       have w1 : val xo = .string b:=Option.some.inj (v1.symm.trans (d1 ρ1))
       have w2 : val io = .int kq (i : Int):=(Option.some.inj v2).symm
       obtain ⟨dst,op',ty,pos,after,guard⟩:=o'
       simp only at ho
       subst ho
       have hu : (underlying t).run Tryz.prog w = .ok .string w:=by
        simp [underlying,ht]
       have hlt' : i < b.size:=hlt
       simp [execOp,Instr.index,hu,w1,w2,asIntOf,hlt']
     · cases h
   · cases h
 · cases h
end Go.Proofs.YtohbeinhlhgfiaaGreatDoor
namespace Go.Proofs.YtohbeinhlhgfiaaGreatDoor
open Go Go.Rf Go.RowKit
set_option linter.unusedVariables false
set_option linter.unusedSimpArgs false
set_option linter.unusedSectionVars false
abbrev SliF:=At × Option At × Option At × At
def sameO : Option At → Option At → Bool
 | none,none=>true
 | some a,some b=>sameA a b
 | _,_=>false
theorem sameO_eq : ∀ {a b : Option At},sameO a b = true → a = b
 | none,none,_=>rfl
 | some a,some b,h=>by rw [sameA_eq (show sameA a b = true from h)]
 | none,some _,h=>by cases h
 | some _,none,h=>by cases h
def lookS : List SliF → At → Option At → Option At → Option At
 | [],_,_,_=>none
 | (x,l,h,r) :: q,u,i,j=>match sameA x u && sameO l i && sameO h j with
  | true=>some r
  | false=>lookS q u i j
def liftA : Option At → Option V2
 | some r=>some (.o (.a r))
 | none=>none
def factS (t0 : TypeId) (q : List SliF) : FactF
 | .slice t _ lo hi mx,args=>match Nat.beq t t0 with
  | true=>(match lo,hi,mx,args with
   | some _,none,none,[.o (.a x),.o (.a l)]=>liftA (lookS q x (some l) none)
   | none,some _,none,[.o (.a x),.o (.a h)]=>liftA (lookS q x none (some h))
   | some _,some _,none,[.o (.a x),.o (.a l),.o (.a h)]=>liftA (lookS q x (some l) (some h))
   | _,_,_,_=>none)
  | false=>none
 | _,_=>none
abbrev ByF:=At × At × At
def lookJ : List ByF → At → At → Option At
 | [],_,_=>none
 | (x,i,r) :: q,u,j=>match sameA x u && sameA i j with
  | true=>some r
  | false=>lookJ q u j
def factJ (t0 : TypeId) (q : List ByF) : FactF
 | .index t _ _,[.o (.a x),.o (.a i)]=>match Nat.beq t t0 with
  | true=>liftA (lookJ q x i)
  | false=>none
 | _,_=>none
abbrev CvF:=Nat × Nat × At × At
def lookV : List CvF → Nat → Nat → At → Option At
 | [],_,_,_=>none
 | (t,u,x,r) :: q,a,b,y=>match Nat.beq t a && Nat.beq u b && sameA x y with
  | true=>some r
  | false=>lookV q a b y
def factV (q : List CvF) : FactF
 | .convert a b _,[.o (.a y)]=>liftA (lookV q a b y)
 | _,_=>none
abbrev SymF:=Nat × List V1 × V2
def lookC : List SymF → FuncId → List V1 → Option V2
 | [],_,_=>none
 | (g,ys,r) :: q,f,xs=>match Nat.beq g f with
  | true=>(match sameL1 ys xs with | true=>some r | false=>lookC q f xs)
  | false=>lookC q f xs
abbrev RowF:=Nat × List At × V2
def lookW : List RowF → FuncId → List At → Option V2
 | [],_,_=>none
 | (g,ys,r) :: q,f,xs=>match Nat.beq g f with
  | true=>(match sameL ys xs with | true=>some r | false=>lookW q f xs)
  | false=>lookW q f xs
def AllP {α : Type} (p : α → Prop) : List α → Prop
 | []=>True
 | e :: l=>p e ∧ AllP p l
variable [Sym]
def EndOk (d : Nat) : Option At → Nat → Prop
 | none,n=>n = d
 | some a,n=>∃ k : IntKind,∀ ρ,a.den ρ = some (.int k (n : Int))
def SliOk (e : SliF) : Prop:=∃ (b : ByteArray) (l h : Nat),(∀ ρ,e.1.den ρ = some (.string b)) ∧ EndOk 0 e.2.1 l ∧ EndOk b.size e.2.2.1 h ∧ l ≤ h ∧ h ≤ b.size ∧ ∀ ρ,e.2.2.2.den ρ = some (.string (b.extract l h))
theorem lookS_ok : ∀ {q : List SliF} {u : At} {i j : Option At} {r : At},AllP SliOk q → lookS q u i j = some r → SliOk (u,i,j,r)
 | [],_,_,_,_,_,h=>by cases h
 | (x,l,hh,r) :: q,u,i,j,r',ha,h=>by
  simp only [lookS] at h
  split at h
  · rename_i hb
    simp only [Bool.and_eq_true] at hb
    cases h
    have h1:=sameA_eq hb.1.1
    have h2:=sameO_eq hb.1.2
    have h3:=sameO_eq hb.2
    subst h1;subst h2;subst h3
    exact ha.1
  · exact lookS_ok ha.2 h
theorem liftA_some {o : Option At} {r : V2} (h : liftA o = some r) : ∃ a,o = some a ∧ r = .o (.a a):=by
 cases o with
 | none=>cases h
 | some a=>cases h;exact ⟨a,rfl,rfl⟩
theorem factS_ok {t0 : TypeId} {q : List SliF} (ht : Tryz.prog.underlying t0 = some .string) (hl : AllP SliOk q) : FOk Tryz.prog (factS t0 q):=by
 intro o args r h
 unfold factS at h
 split at h
 · rename_i t xo lo hi mx
   split at h
   · rename_i hb
     obtain rfl:=Nat.eq_of_beq_eq_true hb
     have hu : ∀ w : World,(underlying t).run Tryz.prog w = .ok .string w:=fun w=>by simp [underlying,ht]
     split at h
     · rename_i lo x l
       obtain ⟨a,ha,rfl⟩:=liftA_some h
       obtain ⟨b,l',h',d1,⟨k,d2⟩,d3,hlh,hhb,d4⟩:=lookS_ok hl ha
       simp only [EndOk] at d3
       subst d3
       refine ⟨_,d4,fun o' ev val ho hargs hv w=>?_⟩
       simp only [Op.operands,Option.toArray_some,Option.toArray_none,Array.append_empty,Array.toList_append,List.map_append,List.map_cons,List.map_nil,List.cons_append,List.nil_append,List.cons.injEq,and_true] at hargs
       obtain ⟨e1,e2⟩:=hargs
       obtain ⟨ρ1,v1⟩:=hv xo (by simp [Op.operands])
       obtain ⟨ρ2,v2⟩:=hv lo (by simp [Op.operands])
       rw [e1] at v1
       rw [e2] at v2
       have w1 : val xo = .string b:=Option.some.inj (v1.symm.trans (d1 ρ1))
       have w2 : val lo = .int k (l' : Int):=Option.some.inj (v2.symm.trans (d2 ρ2))
       obtain ⟨dst,op',ty,pos,after,guard⟩:=o'
       simp only at ho
       subst ho
       simp [execOp,Instr.sliceAt,Instr.slice,hu,w1,w2,Instr.sliceBounds,Instr.sliceBound,asIntOf,hlh,hhb]
     · rename_i hi x l
       obtain ⟨a,ha,rfl⟩:=liftA_some h
       obtain ⟨b,l',h',d1,d3,⟨k,d2⟩,hlh,hhb,d4⟩:=lookS_ok hl ha
       simp only [EndOk] at d3
       subst d3
       refine ⟨_,d4,fun o' ev val ho hargs hv w=>?_⟩
       simp only [Op.operands,Option.toArray_some,Option.toArray_none,Array.append_empty,Array.toList_append,List.map_append,List.map_cons,List.map_nil,List.cons_append,List.nil_append,List.cons.injEq,and_true] at hargs
       obtain ⟨e1,e2⟩:=hargs
       obtain ⟨ρ1,v1⟩:=hv xo (by simp [Op.operands])
       obtain ⟨ρ2,v2⟩:=hv hi (by simp [Op.operands])
       rw [e1] at v1
       rw [e2] at v2
       have w1 : val xo = .string b:=Option.some.inj (v1.symm.trans (d1 ρ1))
       have w2 : val hi = .int k (h' : Int):=Option.some.inj (v2.symm.trans (d2 ρ2))
       obtain ⟨dst,op',ty,pos,after,guard⟩:=o'
       simp only at ho
       subst ho
       simp [execOp,Instr.sliceAt,Instr.slice,hu,w1,w2,Instr.sliceBounds,Instr.sliceBound,asIntOf,hlh,hhb]
     · rename_i lo hi x l y
       obtain ⟨a,ha,rfl⟩:=liftA_some h
       obtain ⟨b,l',h',d1,⟨k,d2⟩,⟨k2,d3⟩,hlh,hhb,d4⟩:=lookS_ok hl ha
       refine ⟨_,d4,fun o' ev val ho hargs hv w=>?_⟩
       simp only [Op.operands,Option.toArray_some,Option.toArray_none,Array.append_empty,Array.toList_append,List.map_append,List.map_cons,List.map_nil,List.cons_append,List.nil_append,List.cons.injEq,and_true] at hargs
       obtain ⟨e1,e2,e3⟩:=hargs
       obtain ⟨ρ1,v1⟩:=hv xo (by simp [Op.operands])
       obtain ⟨ρ2,v2⟩:=hv lo (by simp [Op.operands])
       obtain ⟨ρ3,v3⟩:=hv hi (by simp [Op.operands])
       rw [e1] at v1
       rw [e2] at v2
       rw [e3] at v3
       have w1 : val xo = .string b:=Option.some.inj (v1.symm.trans (d1 ρ1))
       have w2 : val lo = .int k (l' : Int):=Option.some.inj (v2.symm.trans (d2 ρ2))
       have w3 : val hi = .int k2 (h' : Int):=Option.some.inj (v3.symm.trans (d3 ρ3))
       obtain ⟨dst,op',ty,pos,after,guard⟩:=o'
       simp only at ho
       subst ho
       simp [execOp,Instr.sliceAt,Instr.slice,hu,w1,w2,w3,Instr.sliceBounds,Instr.sliceBound,asIntOf,hlh,hhb]
     · cases h
   · cases h
 · cases h
def ByOk (e : ByF) : Prop:=∃ (b : ByteArray) (i : Nat) (k : IntKind),(∀ ρ,e.1.den ρ = some (.string b)) ∧ (∀ ρ,e.2.1.den ρ = some (.int k (i : Int))) ∧ ∃ h : i < b.size,∀ ρ,e.2.2.den ρ = some (.int .u8 ((b[i]'h).toNat : Int))
theorem lookJ_ok : ∀ {q : List ByF} {u j r : At},AllP ByOk q → lookJ q u j = some r → ByOk (u,j,r)
 | [],_,_,_,_,h=>by cases h
 | (x,i,r) :: q,u,j,r',ha,h=>by
  simp only [lookJ] at h
  split at h
  · rename_i hb
    simp only [Bool.and_eq_true] at hb
    cases h
    have h1:=sameA_eq hb.1
    have h2:=sameA_eq hb.2
    subst h1;subst h2
    exact ha.1
  · exact lookJ_ok ha.2 h
theorem factJ_ok {t0 : TypeId} {q : List ByF} (ht : Tryz.prog.underlying t0 = some .string) (hl : AllP ByOk q) : FOk Tryz.prog (factJ t0 q):=by
 intro o args r h
 unfold factJ at h
 split at h
 · rename_i t xo io x i
   split at h
   · rename_i hb
     obtain rfl:=Nat.eq_of_beq_eq_true hb
     obtain ⟨a,ha,rfl⟩:=liftA_some h
     obtain ⟨b,n,k,d1,d3,hlt,d2⟩:=lookJ_ok hl ha
     simp only at d1 d3 d2 hlt
     refine ⟨_,d2,fun o' ev val ho hargs hv w=>?_⟩
     simp only [Op.operands,List.map_cons,List.map_nil,List.cons.injEq,and_true] at hargs
     obtain ⟨e1,e2⟩:=hargs
     obtain ⟨ρ1,v1⟩:=hv xo (by simp [Op.operands])
     obtain ⟨ρ2,v2⟩:=hv io (by simp [Op.operands])
     rw [e1] at v1
     rw [e2] at v2
     have w1 : val xo = .string b:=Option.some.inj (v1.symm.trans (d1 ρ1))
     have w2 : val io = .int k (n : Int):=Option.some.inj (v2.symm.trans (d3 ρ2))
     obtain ⟨dst,op',ty,pos,after,guard⟩:=o'
     simp only at ho
     subst ho
     have hu : (underlying t).run Tryz.prog w = .ok .string w:=by simp [underlying,ht]
     simp [execOp,Instr.index,hu,w1,w2,asIntOf,hlt]
   · cases h
 · cases h
def CvOk (e : CvF) : Prop:=∃ v z : Value,(∀ ρ,e.2.2.1.den ρ = some v) ∧ (∀ ρ,e.2.2.2.den ρ = some z) ∧ ∀ w : World,(convert e.1 e.2.1 v).run Tryz.prog w = .ok z w
theorem lookV_ok : ∀ {q : List CvF} {a b : Nat} {y r : At},AllP CvOk q → lookV q a b y = some r → CvOk (a,b,y,r)
 | [],_,_,_,_,_,h=>by cases h
 | (t,u,x,r) :: q,a,b,y,r',ha,h=>by
  simp only [lookV] at h
  split at h
  · rename_i hb
    simp only [Bool.and_eq_true] at hb
    cases h
    have h1:=Nat.eq_of_beq_eq_true hb.1.1
    have h2:=Nat.eq_of_beq_eq_true hb.1.2
    have h3:=sameA_eq hb.2
    subst h1;subst h2;subst h3
    exact ha.1
  · exact lookV_ok ha.2 h
theorem factV_ok {q : List CvF} (hl : AllP CvOk q) : FOk Tryz.prog (factV q):=by
 intro o args r h
 unfold factV at h
 split at h
 · rename_i a b xo y
   obtain ⟨x,hx,rfl⟩:=liftA_some h
   obtain ⟨v,z,hd,hr,hc⟩:=lookV_ok hl hx
   simp only at hd hr hc
   refine ⟨_,hr,fun o' ev val ho hargs hv w=>?_⟩
   simp only [Op.operands,List.map_cons,List.map_nil,List.cons.injEq,and_true] at hargs
   obtain ⟨ρ1,v1⟩:=hv xo (by simp [Op.operands])
   rw [hargs] at v1
   have w1 : val xo = v:=Option.some.inj (v1.symm.trans (hd ρ1))
   obtain ⟨dst,op',ty,pos,after,guard⟩:=o'
   simp only at ho
   subst ho
   simp [execOp,w1,hc]
 · cases h
theorem cv_int {t u : Nat} {x : At} {z : Int} (ht : Tryz.prog.underlying t = some (.int .i64)) (hu : Tryz.prog.underlying u = some (.int .i64)) (hx : ∀ ρ,x.den ρ = some (.int .i64 z)) (hz : IntKind.i64.wrap z = z) : CvOk (t,u,x,x):=
 ⟨_,_,hx,hx,fun w=>by
   have h1 : (underlying t).run Tryz.prog w = .ok (.int .i64) w:=by simp [underlying,ht]
   have h2 : (underlying u).run Tryz.prog w = .ok (.int .i64) w:=by simp [underlying,hu]
   simp only [convert,Sem.run_bind,h1,h2,Result.andThen_ok]
   simp [Conv.intToInt,hz]⟩
def COk (W : World) (e : SymF) : Prop:=∃ vals v,(∀ ρ,dens1 ρ e.2.1 = some vals) ∧ (∀ ρ,e.2.2.den ρ = some v) ∧ ∀ w,Below W.heap.size W w → Calls Tryz.prog e.1 vals.toArray w fun en w'=>en = .returned v ∧ Below w.heap.size w w'
theorem lookC_ok {W : World} : ∀ {q : List SymF} {f : FuncId} {xs : List V1} {r : V2},AllP (COk W) q → lookC q f xs = some r → COk W (f,xs,r)
 | [],_,_,_,_,h=>by cases h
 | (g,ys,r) :: q,f,xs,r',ha,h=>by
  simp only [lookC] at h
  split at h
  · rename_i hg
    split at h
    · rename_i hs
      cases h
      have h1:=Nat.eq_of_beq_eq_true hg
      have h2:=sameL1_eq hs
      subst h1;subst h2
      exact ha.1
    · exact lookC_ok ha.2 h
  · exact lookC_ok ha.2 h
def WOk (W : World) (e : RowF) : Prop:=∃ us v,(∀ ρ,dens ρ e.2.1 = some us) ∧ (∀ ρ,e.2.2.den ρ = some v) ∧ ∀ w,Below W.heap.size W w → ∀ b o cap,b < w.heap.size → us.length ≤ cap → (∀ (i : Nat) u,us[i]? = some u → w.cell? ⟨b,o + i,none⟩ = some u) →
 Calls Tryz.prog e.1 #[.slice (some ⟨b,o,none⟩) us.length cap] w fun en w'=>en = .returned v ∧ Below w.heap.size w w'
theorem lookW_ok {W : World} : ∀ {q : List RowF} {f : FuncId} {xs : List At} {r : V2},AllP (WOk W) q → lookW q f xs = some r → WOk W (f,xs,r)
 | [],_,_,_,_,h=>by cases h
 | (g,ys,r) :: q,f,xs,r',ha,h=>by
  simp only [lookW] at h
  split at h
  · rename_i hg
    split at h
    · rename_i hs
      cases h
      have h1:=Nat.eq_of_beq_eq_true hg
      have h2:=sameL_eq hs
      subst h1;subst h2
      exact ha.1
    · exact lookW_ok ha.2 h
  · exact lookW_ok ha.2 h
noncomputable abbrev OS (C : List SymF) (R : List RowF) : Oracle:={ O9 with sym:=lookC C,row:=lookW R }
theorem os_ok {W : World} {C : List SymF} {R : List RowF} (hC : AllP (COk W) C) (hR : AllP (WOk W) R) : SOk Tryz.prog W W.heap.size (OS C R) where
 sym:=fun f args r hk ρ vals hd=>by
  obtain ⟨us,v,h1,h2,h3⟩:=lookC_ok hC (show lookC C f args = some r from hk)
  have:=h1 ρ
  rw [hd] at this
  cases this
  exact ⟨v,h2 ρ,fun w hb _=>h3 w hb⟩
 row:=fun f cs r hk ρ us hd=>by
  obtain ⟨us',v,h1,h2,h3⟩:=lookW_ok hR (show lookW R f cs = some r from hk)
  have:=h1 ρ
  rw [hd] at this
  cases this
  exact ⟨v,h2 ρ,fun w hb _=>h3 w hb⟩
abbrev LenF:=Nat × At
def lookL : List LenF → Nat → Option At
 | [],_=>none
 | (i,r) :: q,j=>match Nat.beq i j with | true=>some r | false=>lookL q j
def LenOk (e : LenF) : Prop:=∃ b : ByteArray,Sym.v e.1 = .string b ∧ ∀ ρ,e.2.den ρ = some (.int .i64 b.size)
theorem lookL_ok : ∀ {q : List LenF} {i : Nat} {r : At},AllP LenOk q → lookL q i = some r → ∃ b : ByteArray,Sym.v i = .string b ∧ ∀ ρ,r.den ρ = some (.int .i64 b.size)
 | [],_,_,_,h=>by cases h
 | (j,r) :: q,i,r',ha,h=>by
  simp only [lookL] at h
  split at h
  · rename_i hb
    cases h
    have h1:=Nat.eq_of_beq_eq_true hb
    subst h1
    exact ha.1
  · exact lookL_ok ha.2 h
structure Told where
 b : List BinF:=[]
 i : List ByF:=[]
 s : List SliF:=[]
 v : List CvF:=[]
 l : List LenF:=[]
 c : List SymF:=[]
 w : List RowF:=[]
structure ToldOk (W : World) (T : Told) : Prop where
 b : BAllOk T.b
 i : AllP ByOk T.i
 s : AllP SliOk T.s
 l : AllP LenOk T.l
 c : AllP (COk W) T.c
 w : AllP (WOk W) T.w
 v : AllP CvOk T.v:=by trivial
abbrev factT (T : Told) : FactF:=factOr (factB T.b) (factOr (factJ 9 T.i) (factOr (factS 9 T.s) (factV T.v)))
noncomputable def symEvG (G : Addr → Option Value) (T : Told) (f : FuncId) (args : List V1) : Option V2:=
 match evCall Tryz.prog { xt with fact:=factT T,slen:=lookL T.l } G (OS T.c T.w) 60 f args { heap:=[],next:=0 } with
 | some p=>some p.1
 | none=>none
noncomputable abbrev symEv:=symEvG gk
theorem sym_anyG {G : Addr → Option Value} {T : Told} {f : FuncId} {args : List V1} {vals : List Value} {r : V2} {w : World} (hG : GW w) (hGk : GOk w w.heap.size G) (hT : ToldOk w T) (ha : dens1 (fun _=>none) args = some vals) (h : symEvG G T f args = some r) :
 Calls Tryz.prog f vals.toArray w fun e w'=>(∃ ρ val,e = .returned val ∧ r.den ρ = some val) ∧ Below w.heap.size w w':=by
 haveI : XOk Tryz.prog { xt with fact:=factT T,slen:=lookL T.l }:=
  xok_with (fun i r h=>lookL_ok hT.l h) (factOr_ok (fun o a r h=>factB_ok hT.b o a r h) (factOr_ok (factJ_ok Tryz.underlying9 hT.i) (factOr_ok (factS_ok Tryz.underlying9 hT.s) (factV_ok hT.v))))
 unfold symEvG at h
 split at h
 · rename_i p hp
   cases h
   obtain ⟨r,s'⟩:=p
   refine Calls.mono (evCall_ok (O:=OS T.c T.w) mixed 60 w w.heap.size hGk (fun f vs v hk=>ol_ok hG f vs v hk) (os_ok hT.c hT.w) f _ _ _ _ hp _ w vals (Go.Rf.start w) ha) fun e w' he=>?_
   obtain ⟨val,ρ',rfl,hv,hs⟩:=he
   exact ⟨⟨ρ',val,rfl,hv⟩,hs.conc.below⟩
 · cases h
theorem sym_any {T : Told} {f : FuncId} {args : List V1} {vals : List Value} {r : V2} {w : World} (hG : GW w) (hT : ToldOk w T) (ha : dens1 (fun _=>none) args = some vals) (h : symEv T f args = some r) :
 Calls Tryz.prog f vals.toArray w fun e w'=>(∃ ρ val,e = .returned val ∧ r.den ρ = some val) ∧ Below w.heap.size w w':=sym_anyG hG hG.gok hT ha h
theorem sym_toG {G : Addr → Option Value} {T : Told} {f : FuncId} {args : List V1} {vals : List Value} {r : V2} {v : Value} {w : World} (hG : GW w) (hGk : GOk w w.heap.size G) (hT : ToldOk w T) (ha : dens1 (fun _=>none) args = some vals) (h : symEvG G T f args = some r) (hr : ∀ ρ,r.den ρ = some v) :
 Calls Tryz.prog f vals.toArray w fun e w'=>e = .returned v ∧ Below w.heap.size w w':=
 (sym_anyG hG hGk hT ha h).mono fun e w' ⟨⟨ρ,val,h1,h2⟩,hb⟩=>⟨by rw [h1,Option.some.inj (h2.symm.trans (hr ρ))],hb⟩
theorem sym_to {T : Told} {f : FuncId} {args : List V1} {vals : List Value} {r : V2} {v : Value} {w : World} (hG : GW w) (hT : ToldOk w T) (ha : dens1 (fun _=>none) args = some vals) (h : symEv T f args = some r) (hr : ∀ ρ,r.den ρ = some v) :
 Calls Tryz.prog f vals.toArray w fun e w'=>e = .returned v ∧ Below w.heap.size w w':=
 (sym_any hG hT ha h).mono fun e w' ⟨⟨ρ,val,h1,h2⟩,hb⟩=>⟨by rw [h1,Option.some.inj (h2.symm.trans (hr ρ))],hb⟩
def okOf : Option V2 → Option Bool
 | some (.t [_,.a (.lit (.bool b))])=>some b
 | _=>none
theorem sym_ok {T : Told} {f : FuncId} {args : List V1} {vals : List Value} {b : Bool} {w : World} (hG : GW w) (hT : ToldOk w T) (ha : dens1 (fun _=>none) args = some vals) (h : okOf (symEv T f args) = some b) :
 Calls Tryz.prog f vals.toArray w fun e w'=>(∃ x,e = .returned (.tuple #[x,.bool b])) ∧ Below w.heap.size w w':=by
 unfold okOf at h
 split at h
 · rename_i x c hx
   cases h
   refine (sym_any hG hT ha hx).mono fun e w' ⟨⟨ρ,val,h1,h2⟩,hb⟩=>⟨?_,hb⟩
   simp only [V2.den,Option.map_eq_some_iff] at h2
   obtain ⟨vs,h3,rfl⟩:=h2
   obtain ⟨u,us,_,h4,rfl⟩:=dens1_cons.1 h3
   obtain ⟨u2,us2,h5,h6,rfl⟩:=dens1_cons.1 h4
   simp only [dens1,Option.some.injEq] at h6
   subst h6
   cases h5
   exact ⟨u,h1⟩
 · cases h
theorem bok_add {x y r : At} {s t : ByteArray} (hx : ∀ ρ,x.den ρ = some (.string s)) (hy : ∀ ρ,y.den ρ = some (.string t)) (hr : ∀ ρ,r.den ρ = some (.string (s ++ t))) (h : s.size + t.size ≤ 9223372036854775807) : BOk (.add,x,y,r):=
 ⟨_,_,_,hx,hy,hr,fun _ P w=>by
   simp [binOp,Op.stringOp]
   omega,(fun _ h=>by cases h),(fun h=>by cases h)⟩
theorem bok_addI {x y r : At} {a c : Int} {k : IntKind} (hx : ∀ ρ,x.den ρ = some (.int k a)) (hy : ∀ ρ,y.den ρ = some (.int k c)) (hr : ∀ ρ,r.den ρ = some (.int k (a + c))) (h : k.wrap (a + c) = a + c) : BOk (.add,x,y,r):=
 ⟨_,_,_,hx,hy,hr,fun _ P w=>by simp [binOp,Op.intArith,h],(fun _ h=>by cases h),(fun h=>by cases h)⟩
theorem bok_subI {x y r : At} {a c : Int} {k : IntKind} (hx : ∀ ρ,x.den ρ = some (.int k a)) (hy : ∀ ρ,y.den ρ = some (.int k c)) (hr : ∀ ρ,r.den ρ = some (.int k (a - c))) (h : k.wrap (a - c) = a - c) : BOk (.sub,x,y,r):=
 ⟨_,_,_,hx,hy,hr,fun _ P w=>by simp [binOp,Op.intArith,h],(fun _ h=>by cases h),(fun h=>by cases h)⟩
theorem bok_nes {x y : At} {v : Bool} {s t : ByteArray} (hx : ∀ ρ,x.den ρ = some (.string s)) (hy : ∀ ρ,y.den ρ = some (.string t)) (h : (s.data.toList == t.data.toList) = !v) : BOk (.neq,x,y,.lit (.bool v)):=
 ⟨_,_,_,hx,hy,fun _=>rfl,fun _ P w=>by simp [binOp,Op.stringOp,Go.ByteArray.toList_eq,bne,h],(fun _ h=>nomatch h),(fun h=>nomatch h)⟩
def okS (v : Value) : Prop:=v.cells = #[v] ∧ v.oneCell' = true ∧ ∀ b,v ≠ .bool b
theorem okS_int (k : IntKind) (n : Int) : okS (.int k n):=⟨rfl,rfl,fun b h=>by cases h⟩
theorem okS_str (s : ByteArray) : okS (.string s):=⟨rfl,rfl,fun b h=>by cases h⟩
def sgV (vs : List Value) (i : Nat) : Value:=match vs[i]? with | some v=>v | none=>.int .i64 0
theorem sgV_ok {vs : List Value} (h : AllP okS vs) : ∀ i,okS (sgV vs i):=by
 induction vs with
 | nil=>intro i;exact okS_int _ _
 | cons v vs ih=>
  intro i
  cases i with
  | zero=>exact h.1
  | succ i=>exact ih h.2 i
noncomputable abbrev sgL (vs : List Value) (h : AllP okS vs) : Sym:=⟨sgV vs,fun i=>(sgV_ok h i).1,fun i=>(sgV_ok h i).2.1,fun i=>(sgV_ok h i).2.2⟩
abbrev lI (n : Nat) : At:=.lit (.int .i64 n)
abbrev lB (b : Bool) : At:=.lit (.bool b)
abbrev lS (l : List UInt8) : At:=.lit (.string ⟨⟨l⟩⟩)
abbrev one1 (a : At) : V2:=.o (.a a)
theorem yes_of {s t : ByteArray} (h : s = t) : (s.data.toList == t.data.toList) = true:=by rw [h];simp
theorem no_of {s t : ByteArray} (h : s ≠ t) : (s.data.toList == t.data.toList) = false:=by
 rw [beq_eq_false_iff_ne]
 exact fun e=>h (ByteArray.ext (Array.ext' e))
theorem wok_join {W : World} {cs : List At} {r : At} (xs : List ByteArray) (hcs : ∀ ρ,dens ρ cs = some (xs.map .string)) (hr : ∀ ρ,r.den ρ = some (.string ⟨(xs.map bl).flatten.toArray⟩)) (hn : xs.length ≤ 1000) (hlen : (xs.map bl).flatten.length ≤ 140737488355328) : WOk W (46,cs,.o (.a r)):=by
 refine ⟨_,_,hcs,fun ρ=>hr ρ,fun w hb b o cap hlt hcap hx=>?_⟩
 have hcells : ∀ (j : Nat) x,xs[j]? = some x → w.cell? ⟨b,o + j,none⟩ = some (.string x):=fun j x hj=>hx j _ (by rw [List.getElem?_map,hj];rfl)
 rw [List.length_map] at hcap ⊢
 have k1:=Tryz.strings_Join b o cap xs ⟨#[]⟩ w hcells hlt (by omega) hcap (by show (Lib.join (xs.map bl) []).length ≤ _;rw [join_flat];exact hlen)
 have k1 : Calls Tryz.prog 100 #[.slice (some ⟨b,o,none⟩) xs.length cap,.string ⟨#[]⟩] w fun e w'=>e = .returned (.string ⟨(xs.map bl).flatten.toArray⟩) ∧ Below w.heap.size w w':=by
  have e : Lib.join (xs.map fun x=>x.data.toList) (⟨#[]⟩ : ByteArray).data.toList = (xs.map bl).flatten:=join_flat _
  rw [e] at k1
  exact k1
 generalize (xs.map bl).flatten = q at *
 have K1:=Lib.hid k1
 clear k1
 clear hcells hx hcs hr
 go_enter Tryz.func46,Tryz.ntmps46
 go_wp2_with (go_at_call 100;refine (K1.out).mono ?_;rintro e w1 ⟨rfl,hb1⟩)
 go_ret
 exact ⟨rfl,hb1⟩
end Go.Proofs.YtohbeinhlhgfiaaGreatDoor
