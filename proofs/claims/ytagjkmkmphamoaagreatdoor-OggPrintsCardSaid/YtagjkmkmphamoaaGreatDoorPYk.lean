/- Yk -/
import Derived.Test.YtagjkmkmphamoaaGreatDoorPYj
set_option linter.all false
set_option maxHeartbeats 4000000
namespace Go.Proofs.YtagjkmkmphamoaaGreatDoor
open Go.RowKit
theorem laceL_at(n k:Nat)(hk:255*k≤n)(h:n<255*k+255):laceL n=List.replicate k 255 ++ [UInt8.ofNat (n-255*k)]:=by
 have e1:n/255=k:=by omega
 have e2:n%255=n-255*k:=by omega
 unfold laceL;rw[e1,e2]
set_option maxRecDepth 100000 in
theorem vt3(n:Nat)(w:World)(hn:n≤1073741824):Calls Tryz.prog 68 #[.int .i64 (n:Int)] w fun e w'=>e=.returned (.string (toB (laceL n)))∧Below w.heap.size w w':=by
 have hcv:∀(x:Int) (W:World),0≤x→(convert 140 9 (.slice (some ⟨W.heap.size,0,none⟩) 1 1)).run Tryz.prog (W.alloc (.cells #[.int .u8 (x%256)] 5))=.ok (.string ⟨#[UInt8.ofNat (x%256).toNat]⟩) (W.alloc (.cells #[.int .u8 (x%256)] 5)):=by
  intro x W hx;have h:=jf7 (l:=[UInt8.ofNat (x%256).toNat]) 140 9 Tryz.underlying140 Tryz.underlying5 Tryz.underlying9 (World.ownsRow_lit (size:=1) (base:=W.heap.size) W #[.int .u8 ((UInt8.ofNat (x%256).toNat).toNat:Int)] 1 (Nat.le_refl _) (by unfold maxLen;omega) rfl);rw[jp5 x hx]at h;exact h
 obtain⟨E,hE⟩:∃E,E=laceL n:=⟨_,rfl⟩;rw[←hE];have HCV:=Lib.hid hcv;have HE:=Lib.hid hE;clear hcv hE
 go_enter Tryz.func68,Tryz.ntmps68
 go_wp2_with fail
 go_loopw [0,3] (fun nv tv wr=>∃(k x:Nat) (T:ByteArray),nv=.int .i64 (x:Int)∧tv=.string T∧x+255*k=n∧T.size=k∧Hid (bl T=List.replicate k 255)∧wr=w) (fun nv _ _=>(intOf nv).toNat)
 case atStart=>exact⟨0,n,⟨#[]⟩,rfl,rfl,by omega,rfl,Lib.hid rfl,rfl⟩
 case round=>
  obtain⟨k,x,T,rfl,rfl,hx,hT,HT,rfl⟩:=hrel;by_cases hlt:255≤x
  · have h1:(x:Int) ≥ 255:=by omega
    have h2:IntKind.i64.wrap ((x:Int)-255)=(x:Int)-255:=wi64 _ (by omega) (by omega);have hT2:T.size≤1073741824:=by omega
    have HTS:=Lib.hid hT;clear hT
    go_wp2_with fail
    exact⟨⟨k+1,x-255,T++⟨#[255]⟩,by congr 1;omega,rfl,by omega,by rw[ByteArray.size_append,HTS.out];rfl,Lib.hid (by rw[jd6,HT.out,List.replicate_succ'];first|done|rfl),by first|rfl|trivial⟩,by simp[intOf];omega⟩
  · have h1:¬(x:Int) ≥ 255:=by omega
    have h3:¬(x:Int)<0:=by omega
    have hw8:IntKind.u8.wrap (x:Int)=(x:Int)%256:=IntKind.wrap_u8 _;have hcv:=fun W=>HCV.out (x:Int) W (by omega)
    have hR:toB E=T++⟨#[UInt8.ofNat ((x:Int)%256).toNat]⟩:=by
     apply bl_eq;rw[jf5,jd6,HT.out,HE.out,laceL_at n k (by omega) (by omega)]
     congr 1
     show _ = [UInt8.ofNat ((x:Int)%256).toNat]
     congr 2
     omega
    have HR:=Lib.hid hR;have hT2:T.size≤1073741824:=by omega
    have hbx:=bal (Below.refl wr.heap.size wr) (.cells #[.int .u8 ((x:Int)%256)] 5);have HBX:=Lib.hid hbx;clear hR hT hbx;generalize UInt8.ofNat ((x:Int)%256).toNat=bb at *
    go_wp2_with fail
    go_ret
    exact⟨kz4 (by rw[HR.out]),HBX.out⟩
end Go.Proofs.YtagjkmkmphamoaaGreatDoor
