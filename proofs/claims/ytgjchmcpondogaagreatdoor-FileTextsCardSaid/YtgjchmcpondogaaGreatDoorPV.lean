/- PV -/
import Derived.Test.YtgjchmcpondogaaGreatDoorPU
set_option linter.all false
set_option maxRecDepth 100000
set_option maxHeartbeats 40000000
namespace Go.Proofs.YtgjchmcpondogaaGreatDoor
open Go.RowKit Go.Proofs.Tryz
section
variable {P:Program} {ops:Array Oper} {o:Oper} {a:Act} {K:Act→World→Prop} {Q:Exit→Act→World→Prop} {E:Prop}
theorem y2D(Hg:o.guard=none)(s x:Operand)(t e:TypeId)(ho:o.op=.call { callee:=.builtin .append,args:=#[s,x],argTypes:=#[t,t] })(ht:P.underlying t=some (.slice e))
 (z:Value) (size bytes:Nat) (hi:(P.info? e).map (fun i=>(i.zero,i.size,i.bytes))=some (some z,size,bytes)) (H8:z.cells.size=size) (Hc:0<size) (m:Nat)
 (X:World) (b B:Nat) (v:Value) (n:Nat) (cs:List Value) (hs:a.eval s=v) (H5:X.ownsRow B e size v n cs) (news:Array Value) (He:news.size=m*size) (h1:∀u∈news.toList,u.oneCell'=true)
 (Hd:∀(j:Nat) u,news[j]?=some u→X.cell? ⟨b,j,none⟩=some u)
 (hx:a.eval x=.slice (some ⟨b,0,none⟩) m m) (hm:m≤1000) (Hf:n<70368744177664) (Hh:(n+m)*bytes≤140737488355328) (hB:B≤X.heap.size)
 (h:∀v' w',w'.ownsRow B e size v' (n+m) (cs++news.toList)→Below B X w'→K (a.put o.dst v') w'):
 if Region.wanted o (yielded ops a.tmps)=true then Oper.wp P o a X K Q else E:=by
 have hw:Region.wanted o (yielded ops a.tmps)=true:=by simp[Region.wanted,Hg]
 rw[if_pos hw];obtain⟨i0,hi,Hb,Ha,H9⟩:=info_parts hi;have H7:∀j u,news.toList[j]?=some u→X.cell? ((⟨b,0,none⟩:Addr).add j)=some u:=by
  intro j u hj;have ea:(⟨b,0,none⟩:Addr).add j=⟨b,j,none⟩:=by
   by_cases h0:j=0
   · subst h0;rfl
   · simp[Addr.add,h0]
  rw[ea];exact Hd j u (by simpa using hj)
 obtain⟨v',w',H6,r1,r2,_⟩:=run_append_own (P:=P) X B t o.type e i0 z size bytes ht hi Hb Ha H9 H8 Hc v n cs H5 ⟨b,0,none⟩ m m news.toList (by simp[He]) H7 h1 (by unfold maxLen;omega) Hh hB;unfold Oper.wp;simp[execOp,ho,resolve,invoke,builtin,hs,hx,H6,Result.andThen];exact h v' w' r1 (y2F H5 r2 hB)
end
theorem infoLine22:(Tryz.prog.info? 146).map (fun i=>(i.zero,i.size,i.bytes))=some (some (.agg #[.string ⟨#[]⟩,.string ⟨#[]⟩,.int .i64 0]),3,40):=by kernel_rfl
theorem y2E(b:ByteArray)(w:World)(hs:b.size≤1000000):Calls prog 74 #[.string b] w fun e w'=>
 ∃v,e=.returned v∧w'.ownsRow w.heap.size 146 3 v (lnF (bl b) 0).length (lcells b (lnF (bl b) 0))∧Below w.heap.size w w':=by
 have HL:Hid ((bl b).length=b.size):=zJ b
 go_enter func74,ntmps74
 go_wp2
 go_loopw [3,4,5] (fun v av iv wr=>∃(p i:Nat) (A:List (Nat×Nat×Nat)),av=.int .i64 (p:Int)∧iv=.int .i64 (i:Int)∧p≤i∧i≤b.size∧Hid (nxE (bl b) p=nxE (bl b) i)∧Hid (lnF (bl b) 0=A++lnF (bl b) p)∧Hid (wr.ownsRow w.heap.size 146 3 v A.length (lcells b A))∧Hid (Below w.heap.size w wr)∧A.length≤p) (fun _ _ iv _=>b.size-(intOf iv).toNat)
 case atStart=>exact⟨0,0,[],rfl,rfl,zA,zD,z7 rfl,z7 rfl,z7 (World.ownsRow_nil _ _ _ _),z7 z8,zA⟩
 case round=>
  obtain⟨p,i,A,rfl,rfl,Hv,Hy,Hf,HA,HO,HB,Hr⟩:=hrel;by_cases Hm:i<b.size
  · obtain⟨x,hx⟩:=zM (bl b) i (by rw[HL.out];exact Hm)
    have X:∀h,b[i]'h=x:=zT b i x hx;have Hu:=x.toNat_lt;have HX:=z7 hx;clear hx;cases hc:eolB x with
    | false=>
     have hn:=yAv (bl b) i x HX.out hc;rw[←Hf.out]at hn;have g1:¬(x.toNat:Int)=10:=y2V x 10 (by decide) (by intro h;subst h;cases hc);have g2:¬(x.toNat:Int)=13:=y2V x 13 (by decide) (by intro h;subst h;cases hc);have g3:((x.toNat:Int) != 10)=true:=by simpa using g1
     have g4:((x.toNat:Int) != 13)=true:=by simpa using g2
     have E2:=z7 hn;clear hn hc g1 g2
     go_wp2
     go_roundw
     case rel=>exact⟨p,i+1,A,rfl,by first|omega|go_num,by omega,by omega,E2,HA,HO,HB,Hr⟩
     case measure=>simp[intOf];omega
    | true=>
     have hE:nxE (bl b) p=i:=by rw[Hf.out,yAu (bl b) i x HX.out hc]
     have g:x=10∨x=13:=by simpa[eolB]using hc
     clear hc;have i1:((i:Int)+1).toNat=i+1:=by omega
     have i2:((i:Int)+2).toNat=i+2:=by omega
     rcases g with rfl|rfl
     · have hD:nxB (bl b) i=i+1:=by
        unfold nxB;rw[if_pos (by rw[HL.out];exact Hm),if_neg (by rw[HX.out];intro h;cases h.1)]
       have H5:=zp (bl b) p (by rw[HL.out];omega);rw[hE,hD]at H5;have He:Hid (lnF (bl b) 0=(A ++ [(p,i,i+1)])++lnF (bl b) (i+1)):=z7 (by rw[HA.out,H5,List.append_assoc];rfl);have H7:=y0M b A (p,i,i+1);obtain⟨a1,c1,rfl⟩:=zL HO.out;have H8:w.heap.size≤wr.heap.size:=HB.out.size;have Ha:A.length<70368744177664:=by omega
       have H9:(A.length+1)*40≤140737488355328:=by omega
       have hZ:=(bal (Below.refl wr.heap.size wr) (.cells #[.string (b.extract p i),.string (b.extract i (i+1)),.int .i64 (p:Int)] 146)).drew;have Hi:=z7 (zK HO.out hZ);have Hb:=hZ.size;have HZ:=z7 hZ;have Hd:=z7 H7;clear hZ H7 H5 hE hD HA Hf
       go_wp2_with fail
       have q6:IntKind.i64.wrap ((i:Int)+1)=(i:Int)+1:=wi64 _ (by omega) (by omega);have Hh:=z7 Hb;have Hk:=z7 Ha;have Hj:=z7 H9;clear Hb Ha H9;have q4:(i:Int)≤(i:Int)+1:=by omega
       have q5:(i:Int)+1≤(b.size:Int):=by omega
       have q7:((i:Int)+1).toNat=i+1:=by omega
       have q8:(0:Int)≤(i:Int)+1:=by omega
       clear i1 i2
       go_region_held3 (fun _=>True) (first|trivial|go_keep)
        (first
          | (refine y2D rfl _ _ 141 146 rfl underlying141 (.agg #[.string ⟨#[]⟩,.string ⟨#[]⟩,.int .i64 0]) 3 40 infoLine22 rfl (by decide) 1 _ wr.heap.size w.heap.size (.slice a1 A.length c1) A.length (lcells b A) rfl Hi.out #[.string (b.extract p i),.string (b.extract i (i+1)),.int .i64 (p:Int)] rfl (by simp[Value.oneCell']) (by intro j u hj;exact(World.cell?_alloc_new _ _ _ _).trans hj) rfl (by decide) Hk.out Hj.out (zE H8 Hh.out) ?_;intro v' w4 H6 Hg))
       all_goals
        go_wp2_with fail
        refine⟨⟨i+1,i+1,A ++ [(p,i,i+1)],by go_num,by go_num,zA,by omega,z7 rfl,He,z7 ?_,z7 (HB.out.trans ((HZ.out.mono H8).trans Hg)),by rw[zH,List.length_cons,List.length_nil];omega⟩,by simp[intOf];omega⟩;rw[Hd.out,zH,List.length_cons,List.length_nil];exact H6
     · by_cases h2:i+1<b.size
       · obtain⟨y,hy⟩:=zM (bl b) (i+1) (by rw[HL.out];exact h2)
         have Y:∀h,b[i+1]'h=y:=zT b (i+1) y hy;have Ht:=y.toNat_lt;have Hs:(i:Int)+1<(b.size:Int):=by omega
         by_cases Hc:y=10
         · subst Hc
           have hD:nxB (bl b) i=i+2:=by
            unfold nxB;rw[if_pos (by rw[HL.out];exact Hm),if_pos ⟨HX.out,hy⟩]
           clear hy;have H5:=zp (bl b) p (by rw[HL.out];omega);rw[hE,hD]at H5;have He:Hid (lnF (bl b) 0=(A ++ [(p,i,i+2)])++lnF (bl b) (i+2)):=z7 (by rw[HA.out,H5,List.append_assoc];rfl);have H7:=y0M b A (p,i,i+2);obtain⟨a1,c1,rfl⟩:=zL HO.out;have H8:w.heap.size≤wr.heap.size:=HB.out.size;have Ha:A.length<70368744177664:=by omega
           have H9:(A.length+1)*40≤140737488355328:=by omega
           have hZ:=(bal (Below.refl wr.heap.size wr) (.cells #[.string (b.extract p i),.string (b.extract i (i+2)),.int .i64 (p:Int)] 146)).drew;have Hi:=z7 (zK HO.out hZ);have Hb:=hZ.size;have HZ:=z7 hZ;have Hd:=z7 H7;clear hZ H7 H5 hE hD HA Hf
           go_wp2_with fail
           have q6:IntKind.i64.wrap ((i:Int)+2)=(i:Int)+2:=wi64 _ (by omega) (by omega);have Hh:=z7 Hb;have Hk:=z7 Ha;have Hj:=z7 H9;clear Hb Ha H9;have q4:(i:Int)≤(i:Int)+2:=by omega
           have q5:(i:Int)+2≤(b.size:Int):=by omega
           have q7:((i:Int)+2).toNat=i+2:=by omega
           have q8:(0:Int)≤(i:Int)+2:=by omega
           clear i1 i2
           go_region_held3 (fun _=>True) (first|trivial|go_keep)
            (first
              | (refine y2D rfl _ _ 141 146 rfl underlying141 (.agg #[.string ⟨#[]⟩,.string ⟨#[]⟩,.int .i64 0]) 3 40 infoLine22 rfl (by decide) 1 _ wr.heap.size w.heap.size (.slice a1 A.length c1) A.length (lcells b A) rfl Hi.out #[.string (b.extract p i),.string (b.extract i (i+2)),.int .i64 (p:Int)] rfl (by simp[Value.oneCell']) (by intro j u hj;exact(World.cell?_alloc_new _ _ _ _).trans hj) rfl (by decide) Hk.out Hj.out (zE H8 Hh.out) ?_;intro v' w4 H6 Hg))
           all_goals
            go_wp2_with fail
            refine⟨⟨i+2,i+2,A ++ [(p,i,i+2)],by go_num,by go_num,zA,by omega,z7 rfl,He,z7 ?_,z7 (HB.out.trans ((HZ.out.mono H8).trans Hg)),by rw[zH,List.length_cons,List.length_nil];omega⟩,by simp[intOf];omega⟩;rw[Hd.out,zH,List.length_cons,List.length_nil];exact H6
         · have hD:nxB (bl b) i=i+1:=by
            unfold nxB;rw[if_pos (by rw[HL.out];exact Hm),if_neg (by rw[hy];intro h;exact Hc (zF h.2))]
           have g3:((y.toNat:Int)==10)=false:=by rw[Y2];exact y2V y 10 (by decide) Hc
           clear hy Hc;have H5:=zp (bl b) p (by rw[HL.out];omega);rw[hE,hD]at H5;have He:Hid (lnF (bl b) 0=(A ++ [(p,i,i+1)])++lnF (bl b) (i+1)):=z7 (by rw[HA.out,H5,List.append_assoc];rfl);have H7:=y0M b A (p,i,i+1);obtain⟨a1,c1,rfl⟩:=zL HO.out;have H8:w.heap.size≤wr.heap.size:=HB.out.size;have Ha:A.length<70368744177664:=by omega
           have H9:(A.length+1)*40≤140737488355328:=by omega
           have hZ:=(bal (Below.refl wr.heap.size wr) (.cells #[.string (b.extract p i),.string (b.extract i (i+1)),.int .i64 (p:Int)] 146)).drew;have Hi:=z7 (zK HO.out hZ);have Hb:=hZ.size;have HZ:=z7 hZ;have Hd:=z7 H7;clear hZ H7 H5 hE hD HA Hf
           go_wp2_with fail
           have q6:IntKind.i64.wrap ((i:Int)+1)=(i:Int)+1:=wi64 _ (by omega) (by omega);have Hh:=z7 Hb;have Hk:=z7 Ha;have Hj:=z7 H9;clear Hb Ha H9;have q4:(i:Int)≤(i:Int)+1:=by omega
           have q5:(i:Int)+1≤(b.size:Int):=by omega
           have q7:((i:Int)+1).toNat=i+1:=by omega
           have q8:(0:Int)≤(i:Int)+1:=by omega
           clear i1 i2
           go_region_held3 (fun _=>True) (first|trivial|go_keep)
            (first
              | (refine y2D rfl _ _ 141 146 rfl underlying141 (.agg #[.string ⟨#[]⟩,.string ⟨#[]⟩,.int .i64 0]) 3 40 infoLine22 rfl (by decide) 1 _ wr.heap.size w.heap.size (.slice a1 A.length c1) A.length (lcells b A) rfl Hi.out #[.string (b.extract p i),.string (b.extract i (i+1)),.int .i64 (p:Int)] rfl (by simp[Value.oneCell']) (by intro j u hj;exact(World.cell?_alloc_new _ _ _ _).trans hj) rfl (by decide) Hk.out Hj.out (zE H8 Hh.out) ?_;intro v' w4 H6 Hg))
           all_goals
            go_wp2_with fail
            refine⟨⟨i+1,i+1,A ++ [(p,i,i+1)],by go_num,by go_num,zA,by omega,z7 rfl,He,z7 ?_,z7 (HB.out.trans ((HZ.out.mono H8).trans Hg)),by rw[zH,List.length_cons,List.length_nil];omega⟩,by simp[intOf];omega⟩;rw[Hd.out,zH,List.length_cons,List.length_nil];exact H6
       · have hD:nxB (bl b) i=i+1:=by
          unfold nxB;rw[if_pos (by rw[HL.out];exact Hm),if_neg (by rw[List.getElem?_eq_none (by rw[HL.out];omega:(bl b).length≤i+1)];intro h;cases h.2)]
         have Hs:¬(i:Int)+1<(b.size:Int):=by omega
         have H5:=zp (bl b) p (by rw[HL.out];omega);rw[hE,hD]at H5;have He:Hid (lnF (bl b) 0=(A ++ [(p,i,i+1)])++lnF (bl b) (i+1)):=z7 (by rw[HA.out,H5,List.append_assoc];rfl);have H7:=y0M b A (p,i,i+1);obtain⟨a1,c1,rfl⟩:=zL HO.out;have H8:w.heap.size≤wr.heap.size:=HB.out.size;have Ha:A.length<70368744177664:=by omega
         have H9:(A.length+1)*40≤140737488355328:=by omega
         have hZ:=(bal (Below.refl wr.heap.size wr) (.cells #[.string (b.extract p i),.string (b.extract i (i+1)),.int .i64 (p:Int)] 146)).drew;have Hi:=z7 (zK HO.out hZ);have Hb:=hZ.size;have HZ:=z7 hZ;have Hd:=z7 H7;clear hZ H7 H5 hE hD HA Hf
         go_wp2_with fail
         have q6:IntKind.i64.wrap ((i:Int)+1)=(i:Int)+1:=wi64 _ (by omega) (by omega);have Hh:=z7 Hb;have Hk:=z7 Ha;have Hj:=z7 H9;clear Hb Ha H9;have q4:(i:Int)≤(i:Int)+1:=by omega
         have q5:(i:Int)+1≤(b.size:Int):=by omega
         have q7:((i:Int)+1).toNat=i+1:=by omega
         have q8:(0:Int)≤(i:Int)+1:=by omega
         clear i1 i2
         go_region_held3 (fun _=>True) (first|trivial|go_keep)
          (first
            | (refine y2D rfl _ _ 141 146 rfl underlying141 (.agg #[.string ⟨#[]⟩,.string ⟨#[]⟩,.int .i64 0]) 3 40 infoLine22 rfl (by decide) 1 _ wr.heap.size w.heap.size (.slice a1 A.length c1) A.length (lcells b A) rfl Hi.out #[.string (b.extract p i),.string (b.extract i (i+1)),.int .i64 (p:Int)] rfl (by simp[Value.oneCell']) (by intro j u hj;exact(World.cell?_alloc_new _ _ _ _).trans hj) rfl (by decide) Hk.out Hj.out (zE H8 Hh.out) ?_;intro v' w4 H6 Hg))
         all_goals
          go_wp2_with fail
          refine⟨⟨i+1,i+1,A ++ [(p,i,i+1)],by go_num,by go_num,zA,by omega,z7 rfl,He,z7 ?_,z7 (HB.out.trans ((HZ.out.mono H8).trans Hg)),by rw[zH,List.length_cons,List.length_nil];omega⟩,by simp[intOf];omega⟩;rw[Hd.out,zH,List.length_cons,List.length_nil];exact H6
  · have Hp:i=b.size:=by omega
    subst Hp;by_cases hp:p<b.size
    · have hE:nxE (bl b) p=b.size:=by rw[Hf.out,←HL.out,yIp]
      have hD:nxB (bl b) b.size=b.size:=by unfold nxB;rw[if_neg (by rw[HL.out];omega)]
      have H5:=zp (bl b) p (by rw[HL.out];exact hp);rw[hE,hD,y0s (bl b) b.size (by rw[HL.out];omega)]at H5;have H7:=y0M b A (p,b.size,b.size);simp only[show b.extract b.size b.size=ByteArray.empty from by simp]at H7;have Ho:lnF (bl b) 0=A ++ [(p,b.size,b.size)]:=by rw[HA.out,H5]
      obtain⟨a1,c1,rfl⟩:=zL HO.out;have H8:w.heap.size≤wr.heap.size:=HB.out.size;have Ha:A.length<70368744177664:=by omega
      have H9:(A.length+1)*40≤140737488355328:=by omega
      have Hd:=z7 H7;have He:=z7 Ho;clear H7 Ho;clear hE hD H5 HA Hf
      go_wp2_with (first
       | (at_builtin;refine zP rfl _ _ 141 146 rfl underlying141 (.agg #[.string ⟨#[]⟩,.string ⟨#[]⟩,.int .i64 0]) 3 40 infoLine22 rfl (by decide) wr w.heap.size (.slice a1 A.length c1) A.length (lcells b A) rfl HO.out #[.string (b.extract p b.size),.string ByteArray.empty,.int .i64 (p:Int)] rfl (by simp[Value.oneCell']) rfl Ha H9 H8 ?_;intro v' w6 Hl Hq Hw)
       | fail)
      go_ret
      exact⟨_,rfl,by rw[He.out,Hd.out,zH,List.length_cons,List.length_nil];exact Hl,HB.out.trans Hq⟩
    · have Hn:lnF (bl b) 0=A:=by rw[HA.out,y0s (bl b) p (by rw[HL.out];omega),List.append_nil]
      have HZ:=z7 Hn;clear Hn HA
      go_wp2
      go_ret
      exact⟨_,rfl,by rw[HZ.out];exact HO.out,HB.out⟩
def cueP:List UInt8:=[82,69,77,32,67,72,65,82,83,69,84,32]
def ssaP:List UInt8:=[67,104,97,114,115,101,116,58,32]
def lrcP:List UInt8:=[91,99,115,58]
def y36(b:ByteArray)(pre:List UInt8)(p:Nat×Nat×Nat):Option ByteArray:=if Lib.hasPrefix (b.extract p.1 p.2.1).data.toList pre=true then some ⟨(Lib.trimPrefix (b.extract p.1 p.2.1).data.toList pre).toArray⟩else none
def y2T(f:Nat×Nat×Nat→Option ByteArray):List (Nat×Nat×Nat)→ByteArray
 | []=>⟨#[]⟩
 | p::r=>match f p with|some s=>s|none=>y2T f r
theorem y3Y(f:Nat×Nat×Nat→Option ByteArray)(L:List (Nat×Nat×Nat))(k:Nat)(p:Nat×Nat×Nat)(h:L[k]?=some p):(∀s,f p=some s→y2T f (L.drop k)=s)∧(f p=none→y2T f (L.drop k)=y2T f (L.drop (k+1))):=by
 obtain⟨h1,h2⟩:=List.getElem?_eq_some_iff.1 h;rw[List.drop_eq_getElem_cons h1,h2];refine⟨fun s hs=>by rw[y2T,hs],fun hn=>by rw[y2T,hn]⟩
theorem y5X(f:Nat×Nat×Nat→Option ByteArray)(L:List (Nat×Nat×Nat))(k:Nat)(h:L.length≤k):y2T f (L.drop k)=⟨#[]⟩:=by
 rw[List.drop_eq_nil_of_le h];rfl
theorem yEh(l:List UInt8):∀(n a:Nat),l.length-a≤n→(lnF l a).length≤n
 | n,a,h=>by
  by_cases ha:a<l.length
  · rw[zp l a ha,List.length_cons]
    have hg:=y58 l a ha
    match n,h with
    | 0,h=>omega
    | n+1,h=>have:=yEh l n (nxB l (nxE l a)) (by omega);omega
  · rw[y0s l a ha];exact zD
theorem y1X(b:ByteArray):(lnF (bl b) 0).length≤b.size:=yEh (bl b) b.size 0 (by rw[zJ];omega)
theorem y0H(b:ByteArray):∀(L:List (Nat×Nat×Nat)) (k:Nat) (p:Nat×Nat×Nat),L[k]?=some p→∀(j:Nat) (v:Value),(y1z b p)[j]?=some v→(lcells b L)[k*3+j]?=some v
 | [],k,p,h,_,_,_=>by simp at h
 | q::L,0,p,h,j,v,hv=>by
  simp at h;subst h;have hj:j<(y1z b q).length:=(List.getElem?_eq_some_iff.1 hv).1;rw[Nat.zero_mul,Nat.zero_add];unfold lcells;rw[List.flatMap_cons,List.getElem?_append_left hj];exact hv
 | q::L,k+1,p,h,j,v,hv=>by
  have:=y0H b L k p (by simpa using h) j v hv;unfold lcells;rw[List.flatMap_cons,List.getElem?_append_right (by simp[y1z];omega)];rw[show(k+1)*3+j-(y1z b q).length=k*3+j by simp[y1z];omega];exact this
theorem y1T{w:World}{b:ByteArray}{L:List (Nat×Nat×Nat)}{g o cap n:Nat}(h:Row w (.slice (some ⟨g,o,none⟩) n cap) n (lcells b L))(k:Nat)(p:Nat×Nat×Nat)(hk:L[k]?=some p):
 w.cell? ⟨g,o+k*3,none⟩=some (.string (b.extract p.1 p.2.1))∧w.cell? ⟨g,o+k*3+1,none⟩=some (.string (b.extract p.2.1 p.2.2))∧w.cell? ⟨g,o+k*3+2,none⟩=some (.int .i64 (p.1:Int)):=by
 have hx:∀(j:Nat) (v:Value),(y1z b p)[j]?=some v→w.cell? ⟨g,o+(k*3+j),none⟩=some v:=fun j v hj=>by
  obtain⟨g',o',c',e,hc⟩:=y0D h _ _ (y0H b L k p hk j v hj);simp only[Value.slice.injEq,Option.some.injEq,Addr.mk.injEq]at e;obtain⟨⟨rfl,rfl,_⟩,_,_⟩:=e;exact hc
 exact⟨by simpa using hx 0 _ rfl,by have:=hx 1 _ rfl;rwa [←Nat.add_assoc]at this,by have:=hx 2 _ rfl;rwa [←Nat.add_assoc]at this⟩
theorem yA3(s:ByteArray)(pre:List UInt8)(w:World):Calls prog 305 #[.string s,.string ⟨pre.toArray⟩] w fun e w'=>e=.returned (.tuple #[.string ⟨(Lib.trimPrefix s.data.toList pre).toArray⟩,.bool (Lib.hasPrefix s.data.toList pre)])∧w'=w:=by
 have:=Tryz.strings_CutPrefix s ⟨pre.toArray⟩ w;simpa using this
theorem yFi(b:ByteArray)(w:World)(hs:b.size≤1000000):Calls prog 214 #[.string b] w fun e w'=>e=.returned (.string (y2T (y36 b cueP) (lnF (bl b) 0)))∧Below w.heap.size w w':=by
 obtain⟨L,hL⟩:∃L,L=lnF (bl b) 0:=⟨_,rfl⟩;have k1:=y5G b w hs;have Hc:=y1X b;rw[←hL]at k1 Hc ⊢;clear hL;have K1:=z7 k1;have K2:=z7 (fun(p:Nat×Nat×Nat) w=>yA3 (b.extract p.1 p.2.1) cueP w);clear k1
 go_enter func214,ntmps214
 go_wp2_with (go_at_call 304;(with_reducible refine(K1.out).mono ?_);rintro e w1 ⟨v,rfl,H6,Ha⟩;obtain⟨a1,c1,rfl⟩:=zL H6)
 have HR:=z7 (zm H6);have H8:=z7 Ha;clear H6 Ha
 go_loopw [10] (fun iv wr=>∃k:Nat,iv=.int .i64 (k:Int)∧k≤L.length∧Hid (y2T (y36 b cueP) L=y2T (y36 b cueP) (L.drop k))∧Hid (Below w1.heap.size w1 wr)) (fun iv _=>L.length-(intOf iv).toNat)
 case atStart=>exact⟨0,rfl,zD,z7 rfl,z7 z8⟩
 case round=>
  obtain⟨k,rfl,hk,HD,HB⟩:=hrel;by_cases Hb:k<L.length
  · obtain⟨p,hp⟩:=zM L k Hb
    obtain⟨h1,h2⟩:=y3Y (y36 b cueP) L k p hp;have H5:=HR.out.keep HB.out;obtain⟨g,o,c',e,_⟩:=y0D H5 _ _ (y0H b L k p hp 0 _ rfl);simp only[Value.slice.injEq]at e;obtain⟨rfl,_,rfl⟩:=e;obtain⟨q0,q1,q2⟩:=y1T H5 k p hp;have k2:=K2.out p;unfold y36 at h1 h2;have H9:=z7 (H8.out.trans (HB.out.mono H8.out.size));obtain⟨S,hS⟩:∃S,S=b.extract p.1 p.2.1:=⟨_,rfl⟩;obtain⟨U,hU⟩:∃U,U=b.extract p.2.1 p.2.2:=⟨_,rfl⟩;obtain⟨R,hR⟩:∃R:ByteArray,R=⟨(Lib.trimPrefix (b.extract p.1 p.2.1).data.toList cueP).toArray⟩:=⟨_,rfl⟩;rw[←hS]at q0;rw[←hU]at q1;rw[←hR]at h1 k2;rw[←hS]at h1 h2 k2;cases hc:Lib.hasPrefix S.data.toList cueP with
    | true=>
     rw[hc]at h1 k2;have hd:=h1 R rfl;have H7:=z7 (HD.out.trans hd);have K3:=z7 k2;clear h1 h2 k2 hd H5 hp hS hU hR hc
     go_wp2_with (go_at_call 305;refine(K3.out _).mono ?_;rintro e w2 ⟨rfl,rfl⟩)
     go_ret
     exact⟨by rw[H7.out];rfl,bal H9.out _⟩
    | false=>
     rw[hc]at h2 k2;have hd:=h2 rfl;have H7:=z7 (HD.out.trans hd);have K3:=z7 k2;clear h1 h2 k2 hd H5 hp hS hU hR hc
     go_wp2_with (go_at_call 305;refine(K3.out _).mono ?_;rintro e w2 ⟨rfl,rfl⟩)
     go_roundw
     case rel=>exact⟨k+1,by first|omega|go_num,by omega,H7,z7 (bal HB.out _)⟩
     case measure=>simp[intOf];omega
  · have hd:=y5X (y36 b cueP) L k (by omega)
    have H7:=z7 (HD.out.trans hd);have H9:=z7 (H8.out.trans (HB.out.mono H8.out.size));clear hd
    go_wp2
    go_ret
    exact⟨by rw[H7.out];rfl,H9.out⟩
theorem yDf(b:ByteArray)(w:World)(hs:b.size≤1000000):Calls prog 215 #[.string b] w fun e w'=>e=.returned (.string (y2T (y36 b ssaP) (lnF (bl b) 0)))∧Below w.heap.size w w':=by
 obtain⟨L,hL⟩:∃L,L=lnF (bl b) 0:=⟨_,rfl⟩;have k1:=y5G b w hs;have Hc:=y1X b;rw[←hL]at k1 Hc ⊢;clear hL;have K1:=z7 k1;have K2:=z7 (fun(p:Nat×Nat×Nat) w=>yA3 (b.extract p.1 p.2.1) ssaP w);clear k1
 go_enter func215,ntmps215
 go_wp2_with (go_at_call 304;(with_reducible refine(K1.out).mono ?_);rintro e w1 ⟨v,rfl,H6,Ha⟩;obtain⟨a1,c1,rfl⟩:=zL H6)
 have HR:=z7 (zm H6);have H8:=z7 Ha;clear H6 Ha
 go_loopw [10] (fun iv wr=>∃k:Nat,iv=.int .i64 (k:Int)∧k≤L.length∧Hid (y2T (y36 b ssaP) L=y2T (y36 b ssaP) (L.drop k))∧Hid (Below w1.heap.size w1 wr)) (fun iv _=>L.length-(intOf iv).toNat)
 case atStart=>exact⟨0,rfl,zD,z7 rfl,z7 z8⟩
 case round=>
  obtain⟨k,rfl,hk,HD,HB⟩:=hrel;by_cases Hb:k<L.length
  · obtain⟨p,hp⟩:=zM L k Hb
    obtain⟨h1,h2⟩:=y3Y (y36 b ssaP) L k p hp;have H5:=HR.out.keep HB.out;obtain⟨g,o,c',e,_⟩:=y0D H5 _ _ (y0H b L k p hp 0 _ rfl);simp only[Value.slice.injEq]at e;obtain⟨rfl,_,rfl⟩:=e;obtain⟨q0,q1,q2⟩:=y1T H5 k p hp;have k2:=K2.out p;unfold y36 at h1 h2;have H9:=z7 (H8.out.trans (HB.out.mono H8.out.size));obtain⟨S,hS⟩:∃S,S=b.extract p.1 p.2.1:=⟨_,rfl⟩;obtain⟨U,hU⟩:∃U,U=b.extract p.2.1 p.2.2:=⟨_,rfl⟩;obtain⟨R,hR⟩:∃R:ByteArray,R=⟨(Lib.trimPrefix (b.extract p.1 p.2.1).data.toList ssaP).toArray⟩:=⟨_,rfl⟩;rw[←hS]at q0;rw[←hU]at q1;rw[←hR]at h1 k2;rw[←hS]at h1 h2 k2;cases hc:Lib.hasPrefix S.data.toList ssaP with
    | true=>
     rw[hc]at h1 k2;have hd:=h1 R rfl;have H7:=z7 (HD.out.trans hd);have K3:=z7 k2;clear h1 h2 k2 hd H5 hp hS hU hR hc
     go_wp2_with (go_at_call 305;refine(K3.out _).mono ?_;rintro e w2 ⟨rfl,rfl⟩)
     go_ret
     exact⟨by rw[H7.out];rfl,bal H9.out _⟩
    | false=>
     rw[hc]at h2 k2;have hd:=h2 rfl;have H7:=z7 (HD.out.trans hd);have K3:=z7 k2;clear h1 h2 k2 hd H5 hp hS hU hR hc
     go_wp2_with (go_at_call 305;refine(K3.out _).mono ?_;rintro e w2 ⟨rfl,rfl⟩)
     go_roundw
     case rel=>exact⟨k+1,by first|omega|go_num,by omega,H7,z7 (bal HB.out _)⟩
     case measure=>simp[intOf];omega
  · have hd:=y5X (y36 b ssaP) L k (by omega)
    have H7:=z7 (HD.out.trans hd);have H9:=z7 (H8.out.trans (HB.out.mono H8.out.size));clear hd
    go_wp2
    go_ret
    exact⟨by rw[H7.out];rfl,H9.out⟩
end Go.Proofs.YtgjchmcpondogaaGreatDoor
namespace Go.Proofs.YtgjchmcpondogaaGreatDoor
open Go Go.Rf Go.RowKit Go.Proofs.Tryz
def RefR(r:List Pc ⊕ Nat)(w:World)(e:Ending)(w':World):Prop:=
 Below w.heap.size w w'∧((∃a:Nat,r=.inr a∧e=.returned (.tuple #[.slice none 0 0,.int .i64 a])) ∨
  ∃l v,r=.inl l∧e=.returned (.tuple #[v,.int .i64 (-1)])∧w'.ownsRow w.heap.size 73 3 v l.length (pcC l))
theorem y7E(b:ByteArray)(e d:Nat)(h1:e≤d)(h2:d≤b.size):mkL (b.extract e d)=(if e<d then [mkP (b.extract e d)]else []):=by
 unfold mkL;rw[zG];by_cases h:e<d
 · rw[if_pos h,if_pos (by omega)]
 · rw[if_neg h,if_neg (by omega)]
theorem y3D{α:Type}{l:List α}{k:Nat}{x:α}{r:List α}(h:l.drop k=x::r):l[k]?=some x∧l.drop (k+1)=r∧k<l.length:=by
 have h1:k<l.length:=by
  rcases Nat.lt_or_ge k l.length with h1|h1
  · exact h1
  · rw[List.drop_eq_nil_of_le h1]at h;cases h
 rw[List.drop_eq_getElem_cons h1]at h;cases h;exact⟨List.getElem?_eq_getElem h1,rfl,h1⟩
theorem y9V(b:ByteArray)(w:World)(hG:GW w)(hs:b.size≤1000):Calls prog 34 #[.string b] w (RefR (cueM b) w):=by
 have HL:Hid ((bl b).length=b.size):=zJ b;obtain⟨L,hL⟩:∃L,L=lnF (bl b) 0:=⟨_,rfl⟩;have k1:=y2E b w (by omega);have Ht:=y1X b;obtain⟨R,hR⟩:∃R,R=cueM b:=⟨_,rfl⟩;rw[←hR];rw[←hL]at k1 Ht;unfold cueM at hR;have K1:=z7 k1;have K2:=z7 (fun(s:ByteArray) (w':World) (h:Below w.heap.size w w') (hz:s.size≤1000)=>y9O s w' (hG.bel h) (by omega));have Hu:=z7 hR;have Hv:=z7 hL;clear k1 hR hL hG
 go_enter func34,ntmps34
 go_wp2_with (go_at_call 74;(with_reducible refine(K1.out).mono ?_);rintro e w1 ⟨v,rfl,H7,Hk⟩;obtain⟨a1,c1,rfl⟩:=zL H7)
 have HR:=z7 (zm H7);have He:=z7 Hk;clear H7 Hk
 go_loopw [4,6] (fun v iv wr=>∃(k a:Nat) (A:List Pc),iv=.int .i64 (k:Int)∧a≤b.size∧Hid (L.drop k=lnF (bl b) a)∧Hid (R=outP (walkS cueS b () A (lnF (bl b) a)))∧Hid (wr.ownsRow w1.heap.size 73 3 v A.length (pcC A))∧Hid (Below w1.heap.size w1 wr)∧A.length≤3*a) (fun _ iv _=>L.length-(intOf iv).toNat)
 case atStart=>exact⟨0,0,[],rfl,zD,Hv,Hu,z7 (World.ownsRow_nil _ _ _ _),z7 z8,zD⟩
 case round=>
  obtain⟨k,a,A,rfl,Hs,HD,HA,HO,HB,kA⟩:=hrel;by_cases Hi:a<b.size
  · obtain⟨E,hE⟩:∃E,E=nxE (bl b) a:=⟨_,rfl⟩
    obtain⟨D,hD⟩:∃D,D=nxB (bl b) E:=⟨_,rfl⟩;have H5:=zp (bl b) a (by rw[HL.out];exact Hi);have e1:a≤E:=by rw[hE];exact y1w _ _
    have e2:E≤b.size:=by rw[hE,←HL.out];exact y2Z _ _ (by rw[HL.out];exact Hs)
    have e3:E≤D:=by rw[hD];exact y35 _ _
    have e4:D≤b.size:=by rw[hD,←HL.out];exact y3o _ _ (by rw[HL.out];exact e2)
    have e5:a<D:=by rw[hD,hE];exact y58 _ _ (by rw[HL.out];exact Hi)
    rw[←hE,←hD]at H5;obtain⟨hp,hd,Hz⟩:=y3D (HD.out.trans H5);have H6:=HA.out;rw[H5]at H6;unfold walkS at H6;obtain⟨g,o,c',e,_⟩:=y0D HR.out _ _ (y0H b L k _ hp 0 _ rfl);simp only[Value.slice.injEq]at e;obtain⟨rfl,_,rfl⟩:=e;have hw:∀w' (h:Below w1.heap.size w1 w'),_:=fun w' h=>y1T (HR.out.keep h) k (a,E,D) hp
    obtain⟨S,hS⟩:∃S,S=b.extract a E:=⟨_,rfl⟩;have kz:S.size=E-a:=by rw[hS,zG];omega
    have Hg:=y7E b E D e3 e4;obtain⟨N,hN⟩:∃N,N=b.extract E D:=⟨_,rfl⟩;simp only at hw;rw[←hN]at Hg;rw[←hS]at H6;simp only[←hS,←hN]at hw;have kx:=y7d S;have Ha:=fun w' h=>K2.out S w' h (by omega)
    rw[←hN]at H6;have HW:=z7 hw;have Hh:=z7 (He.out.trans (HB.out.mono He.out.size));obtain⟨p0,p1,p2⟩:=HW.out wr HB.out;have z1:=HB.out.size;cases hc:y3E (bl S)with
    | false=>
     rw[hc]at Ha;rw[show cueS () S=none by unfold cueS;rw[hc];rfl]at H6;simp only at H6;have K3:=z7 Ha;have Hf:=z7 H6;clear Ha H6 hw hc hp hd H5 Hg hN hS hE hD
     go_upto_region 8 with(go_at_call 75;refine(K3.out _ Hh.out).mono ?_;rintro e w2 ⟨⟨x,rfl,hx⟩,Hd⟩;obtain⟨r0,r1,r2⟩:=HW.out w2 (HB.out.trans (Hd.mono HB.out.size)))
     go_region
     go_wp2
     go_ret2
     exact⟨(Hh.out.trans (Hd.mono Hh.out.size)).drew,.inl ⟨a,Hf.out,rfl⟩⟩
    | true=>
     rw[hc]at Ha;rw[show cueS () S=some ((),cueL S) by unfold cueS;rw[hc];rfl]at H6;simp only at H6;rw[←Hg]at H6;have K3:=z7 Ha;have Hf:=z7 H6;have Hw:=z7 hd;have Hy:(mkL N).length≤D-E:=by unfold mkL;split<;>simp<;>(have:N.size=D-E:=by rw[hN,zG];omega)<;>omega
     have Hn:A.length+(cueL S).length<70368744177664:=by omega
     have Hm:(A.length+(cueL S).length)*40≤140737488355328:=by omega
     have Hl:(A++cueL S).length<1000000:=by rw[zH];omega
     obtain⟨va,vc,rfl⟩:=zL HO.out;clear Ha H6 hw hc hp hd H5 Hg hN hS hE hD
     go_wp2_with (first
      | (go_at_call 75;refine(K3.out _ Hh.out).mono ?_;rintro e w2 ⟨⟨x,rfl,hx⟩,Hd⟩;have Ho:=hx (by trivial);have Hp:=zK HO.out Hd;have Hj:=HB.out.trans (Hd.mono HB.out.size))
      | (at_builtin;refine y08 rfl _ _ 46 73 rfl underlying46 Y3 3 40 infoPc rfl (by decide) w2 w1.heap.size (.slice va A.length vc) A.length (pcC A) rfl Hp x (cueL S).length (pcC (cueL S)) rfl Ho (y0L _) (y52 _) Hn Hm Hj.size ?_;intro v3 w3 Hc Hr k9;have H9:=Hj.trans Hr;obtain⟨r0,r1,r2⟩:=HW.out w3 H9)
      | (go_at_call 76;(refine(yDo v3 (A++cueL S) w1.heap.size N w3 (by rw[zl,zH];exact Hc) Hl H9.size).mono ?_);rintro e w4 ⟨⟨v4,rfl,Hb⟩,Hq⟩))
     go_roundw
     case rel=>exact⟨k+1,D,A++cueL S++mkL N,by first|omega|go_num,e4,Hw,Hf,z7 Hb,z7 (H9.trans Hq),by rw[zH,zH];omega⟩
     case measure=>simp[intOf];omega
  · have ky:a=b.size:=by omega
    have H8:=y0s (bl b) a (by rw[HL.out];omega);have H6:=HA.out;rw[H8]at H6;have hd:=HD.out;rw[H8]at hd;have HQ:L.length≤k:=by
     rcases Nat.lt_or_ge k L.length with h|h
     · rw[List.drop_eq_getElem_cons h]at hd;cases hd
     · exact h
    have Hf:=z7 H6;clear H6 hd H8
    go_wp2
    go_ret2
    exact⟨He.out.trans (HB.out.mono He.out.size),.inr ⟨A,_,Hf.out,rfl,zb HO.out He.out.size⟩⟩
def tMr(p q r:Bool):Told:={ c:=[(157,[.a (.sym 0),.a (lS mi1)],one1 (lB p)),(157,[.a (.sym 0),.a (lS mi2)],one1 (lB q)),(157,[.a (.sym 0),.a (lS mi3)],one1 (lB r))] }
theorem rMr(p q r:Bool):symEv (tMr p q r) 252 [.a (.sym 0)]=some (one1 (lB (p || q || r))):=by cases p<;>cases q<;>cases r<;>kernel_rfl
theorem y9W(s:ByteArray)(w:World)(hG:GW w)(hs:s.size≤1000000):Calls prog 252 #[.string s] w fun e w'=>e=.returned (.bool (momB (bl s)))∧Below w.heap.size w w':=by
 letI:=sgL [.string s] ⟨zQ _,trivial⟩
 have kl:∀(f:List UInt8),f.length≤1000→COk w (157,[.a (.sym 0),.a (lS f)],one1 (lB (zU (bl s) f))):=fun f hf=>
  ⟨[.string s,.string ⟨⟨f⟩⟩],_,fun _=>rfl,fun _=>rfl,fun w' _=>y1t s ⟨⟨f⟩⟩ w' hs (by show f.length≤_;omega)⟩
 exact y00 (vals:=[.string s]) hG (T:=tMr (zU (bl s) mi1) (zU (bl s) mi2) (zU (bl s) mi3)) ⟨trivial,trivial,trivial,trivial,⟨kl mi1 (by decide),kl mi2 (by decide),kl mi3 (by decide),trivial⟩,trivial,trivial⟩ rfl (rMr _ _ _) (fun _=>rfl)
theorem yDm(s:ByteArray)(w:World)(hG:GW w)(hs:s.size≤1000000):Calls prog 159 #[.string s] w fun e w'=>e=.returned (.int .i64 (momN (bl s):Nat))∧Below w.heap.size w w':=by
 have HL:Hid ((bl s).length=s.size):=zJ s;obtain⟨R,hR⟩:∃R,R=momN (bl s):=⟨_,rfl⟩;rw[←hR];have HR:=z7 hR;have K1:=z7 (fun(x:ByteArray) (w':World) (h:Below w.heap.size w w') (hz:x.size≤1000000)=>y9W x w' (hG.bel h) hz);clear hR hG
 go_enter func159,ntmps159
 go_wp2
 go_loopw [3] (fun iv wr=>∃n:Nat,iv=.int .i64 (n:Int)∧7≤n∧n≤12∧Hid (∀j,7≤j→j<n→momA (bl s) j=false)∧Hid (Below w.heap.size w wr)) (fun iv _=>12-(intOf iv).toNat)
 case atStart=>exact⟨7,rfl,zA,by decide,z7 (fun j h1 h2=>by omega),z7 z8⟩
 case round=>
  obtain⟨n,rfl,h7,Hd,HN,HB⟩:=hrel;by_cases hn:n≤11
  · have hA:momA (bl s) n=(decide (n≤s.size)&&((bl s).head?==some 91)&&((bl s)[n-1]?==some 93)&&momB (((bl s).take (n-1)).drop 1)):=by rw[←HL.out];rfl
    have H5:momA (bl s) n=true→R=n:=fun h=>by rw[HR.out];exact(y4K _ _ h7).1 h
    have H8:momA (bl s) n=false→∀j,7≤j→j<n+1→momA (bl s) j=false:=fun h j h1 h2=>by
     rcases Nat.lt_or_ge j n with h3|h3
     · exact HN.out j h1 h3
     · rw[show j=n by omega];exact h
    have i1:IntKind.i64.wrap ((n:Int)-1)=(n:Int)-1:=wi64 _ (by omega) (by omega);have i2:((n:Int)-1).toNat=n-1:=by omega
    have i3:(0:Int)≤(n:Int)-1:=by omega
    by_cases Ha:n≤s.size
    · obtain⟨x,hx⟩:=zM (bl s) 0 (by rw[HL.out];omega)
      obtain⟨y,hy⟩:=zM (bl s) (n-1) (by rw[HL.out];omega);have X:∀h,s[0]'h=x:=zT s 0 x hx;have Y:∀h,s[n-1]'h=y:=zT s (n-1) y hy;have i4:(n:Int)-1<(s.size:Int):=by omega
      have i5:(1:Int)≤(n:Int)-1:=by omega
      have i6:(n:Int)-1≤(s.size:Int):=by omega
      have hh:(bl s).head?=some x:=by rw[List.head?_eq_getElem?];exact hx
      rw[decide_eq_true Ha,hy,hh,Bool.true_and]at hA;have Hc:=x.toNat_lt;have Hb:=y.toNat_lt;clear hx hy hh;by_cases H7:x=91
      · subst H7
        rw[show(some (91:UInt8)==some 91)=true from rfl,Bool.true_and]at hA;by_cases H6:y=93
        · subst H6
          rw[show(some (93:UInt8)==some 93)=true from rfl,Bool.true_and]at hA;have e:bl (s.extract 1 (n-1))=((bl s).take (n-1)).drop 1:=by rw[y1f,List.drop_take]
          have k1:=fun w' h=>K1.out (s.extract 1 (n-1)) w' h (by rw[zG];omega)
          rw[e,←hA]at k1;have K2:=z7 k1;cases hm:momA (bl s) n with
          | true=>
           have hr:=H5 hm;rw[hm]at k1;have K3:=z7 k1;subst hr;clear hA H5 H8 k1 e hm K2
           go_wp2_with (go_at_call 252;refine(K3.out _ HB.out).mono ?_;rintro e w1 ⟨rfl,H9⟩)
           go_ret
           exact⟨rfl,HB.out.trans (H9.mono HB.out.size)⟩
          | false=>
           have HF:=z7 (H8 hm);rw[hm]at k1;have K3:=z7 k1;clear hA H5 H8 k1 e hm K2
           go_wp2_with (go_at_call 252;refine(K3.out _ HB.out).mono ?_;rintro e w1 ⟨rfl,H9⟩)
           go_roundw
           case rel=>exact⟨n+1,by first|omega|go_num,by omega,by omega,HF,z7 (HB.out.trans (H9.mono HB.out.size))⟩
           case measure=>simp[intOf];omega
        · rw[show(some y==some (93:UInt8))=false by rw[Y2];exact fun h=>H6 (zF h),Bool.false_and]at hA
          have HF:=z7 (H8 hA);have g2:((y.toNat:Int)==93)=false:=by rw[Y2];exact y0a y 93 (by decide) H6
          clear hA H5 H8 H6
          go_wp2_with fail
          go_roundw
          case rel=>exact⟨n+1,by first|omega|go_num,by omega,by omega,HF,HB⟩
          case measure=>simp[intOf];omega
      · rw[show(some x==some (91:UInt8))=false by rw[Y2];exact fun h=>H7 (zF h),Bool.false_and,Bool.false_and]at hA
        have HF:=z7 (H8 hA);have g1:((x.toNat:Int)==91)=false:=by rw[Y2];exact y0a x 91 (by decide) H7
        clear hA H5 H8 H7
        go_wp2_with fail
        go_roundw
        case rel=>exact⟨n+1,by first|omega|go_num,by omega,by omega,HF,HB⟩
        case measure=>simp[intOf];omega
    · rw[decide_eq_false Ha]at hA
      have HF:=z7 (H8 (by rw[hA];rfl));clear hA H5 H8
      go_wp2_with fail
      go_roundw
      case rel=>exact⟨n+1,by first|omega|go_num,by omega,by omega,HF,HB⟩
      case measure=>simp[intOf];omega
  · have hz:R=0:=by
     rw[HR.out];rcases yEa (bl s)with h|h|h|h
     · exact h
     · have:=HN.out 7 (by omega) (by omega);rw[(y4K (bl s) 7 (by omega)).2 h]at this;cases this
     · have:=HN.out 10 (by omega) (by omega);rw[(y4K (bl s) 10 (by omega)).2 h]at this;cases this
     · have:=HN.out 11 (by omega) (by omega);rw[(y4K (bl s) 11 (by omega)).2 h]at this;cases this
    subst hz
    go_wp2
    go_ret
    exact⟨rfl,HB.out⟩
end Go.Proofs.YtgjchmcpondogaaGreatDoor
