/- Pz40 -/
import Derived.BigQuiet
import Derived.Test.YtgjchmcpondogaaGreatDoorPz39
set_option linter.all false
set_option maxRecDepth 100000
set_option maxHeartbeats 40000000
namespace Go.Proofs.YtgjchmcpondogaaGreatDoor
open Go Go.Rf Go.RowKit
theorem yDw(v u:Value)(l:List Pc)(w:World)(hl:Row w v l.length (pcC l))(hm:Row w u l.length (pcC l))(h1:l.length≤1073741824):Calls Tryz.prog 19 #[v,u] w fun e w'=>e=.returned (.bool true)∧Below w.heap.size w w':=by
 obtain⟨va,vc,rfl,_⟩:=id hl;obtain⟨ua,uc,rfl,_⟩:=id hm;have HL:=Lib.hid hl;have HM:=Lib.hid hm;clear hl hm
 go_enter Tryz.func19,Tryz.ntmps19
 go_wp2_with fail
 go_loopw [14] (fun iv wr=>∃k:Nat,iv=.int .i64 (k:Int)∧k≤l.length∧Hid (Below w.heap.size w wr)) (fun iv _=>l.length-(intOf iv).toNat)
 case atStart=>exact⟨0,rfl,Nat.zero_le _,Lib.hid (Below.refl _ _)⟩
 case round=>
  obtain⟨k,rfl,hk,HB⟩:=hrel;by_cases hlt:k<l.length
  · obtain⟨p,hp⟩:=zM l k hlt
    have hr:=HL.out.keep HB.out;obtain⟨g,o,c',e,-⟩:=y0D hr _ _ (y34 l k p hp 0 _ rfl);simp only[Value.slice.injEq]at e;obtain⟨rfl,_,rfl⟩:=e;obtain⟨W,hW⟩:∃W,W=wr.alloc (.cells #[.bool p.m,.string p.n,.string p.t] 74):=⟨_,rfl⟩;have hbW:Below w.heap.size w W:=by rw[hW];exact HB.out.trans ((Below.refl _ _).alloc HB.out.size _)
    have hbX:Below wr.heap.size wr W:=by rw[hW];exact bal (Below.refl _ _) _
    have lf:∀(j:Nat) (u:Value),(#[Value.bool p.m,.string p.n,.string p.t]:Array Value)[j]?=some u→Live (wr.alloc (.cells #[.bool p.m,.string p.n,.string p.t] 74)) wr.heap.size j u:=fun j u h=>Live.fresh wr _ 74 j u h
    rw[←hW]at lf;have f0:=(lf 0 _ rfl).1;have f1:=(lf 1 _ rfl).1;have f2:=(lf 2 _ rfl).1;obtain⟨q0,q1,q2⟩:=y4u hr k p hp;have hs:=HM.out.keep hbW;obtain⟨g',o',c',e,-⟩:=y0D hs _ _ (y34 l k p hp 0 _ rfl);simp only[Value.slice.injEq]at e;obtain⟨rfl,_,rfl⟩:=e;obtain⟨r0,r1,r2⟩:=y4u hs k p hp;have HW:=Lib.hid hW;have HBW:=Lib.hid hbW;clear hr hs hp lf hbW hbX hW
    go_upto_region 6 with fail
    rw[←HW.out]
    go_quiet (fail)
    go_wp2
    go_roundw
    case rel=>exact⟨k+1,by first|omega|go_num,by omega,by first|exact HBW|exact Lib.hid HBW.out.drew|exact Lib.hid (HBW.out.trans ⟨rfl,rfl,rfl,Nat.le_refl _,fun _ _=>rfl⟩)⟩
    case measure=>simp[intOf];omega
  · go_wp2
    go_ret
    exact⟨rfl,HB.out⟩
end Go.Proofs.YtgjchmcpondogaaGreatDoor
