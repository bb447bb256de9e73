/- Jo -/
import Derived.WalkSpells
import Derived.WalkLawsBesides
import Derived.Deep.Light
import Derived.Test.YtagjkmkmphamoaaGreatDoorProg
import Derived.Test.YtagjkmkmphamoaaGreatDoorPBa
set_option linter.all false
set_option maxHeartbeats 4000000
namespace Go.Proofs.YtagjkmkmphamoaaGreatDoor
open Go.RowKit
theorem qc0(c:Int)(w:World)(h0:0≤c)(h1:c≤31):
 Calls Tryz.prog 186 #[.int .i64 c] w fun e w'=>e=.returned (.tuple #[.int .i64 (ini c),.bool (iniB c)])∧w=w':=by
 go_enter Tryz.func186,Tryz.ntmps186
 go_wp2
 all_goals go_ret2
 all_goals (refine⟨kk7 ?_ ?_,rfl⟩<;>simp only[ini,iniB,beq_iff_eq,beq_eq_false_iff_ne,ne_eq]at * <;> (try simp)<;>omega)
theorem qj3(c:Int)(w:World)(h0:0≤c)(h1:c≤31):
 Calls Tryz.prog 187 #[.int .i64 c] w fun e w'=>e=.returned (.tuple #[.int .i64 (med c),.bool (medB c)])∧w=w':=by
 go_enter Tryz.func187,Tryz.ntmps187
 go_wp2
 all_goals go_ret2
 all_goals (refine⟨kk7 ?_ ?_,rfl⟩<;>simp only[med,medB,beq_iff_eq,beq_eq_false_iff_ne,ne_eq]at * <;> (try simp)<;>omega)
theorem qt7(c:Int)(w:World)(h0:0≤c)(h1:c≤31):
 Calls Tryz.prog 188 #[.int .i64 c] w fun e w'=>e=.returned (.tuple #[.int .i64 (fin c),.bool (finB c)])∧w=w':=by
 go_enter Tryz.func188,Tryz.ntmps188
 go_wp2
 all_goals go_ret2
 all_goals (refine⟨kk7 ?_ ?_,rfl⟩<;>simp only[fin,finB]<;>(try simp)<;>omega)
theorem kq8(c:Int)(w:World)(h0 : -1≤c)(h1:c≤31):
 Calls Tryz.prog 216 #[.int .i64 c] w fun e w'=>e=.returned (.int .i64 (medCode c))∧w=w':=by
 go_enter Tryz.func216,Tryz.ntmps216
 go_wp2
 all_goals go_ret
 all_goals (refine⟨jr2 ?_,rfl⟩;simp only[medCode,beq_iff_eq,beq_eq_false_iff_ne,ne_eq]at *;omega)
theorem qc7(c:Int)(w:World)(h0 : -1≤c)(h1:c≤31):
 Calls Tryz.prog 217 #[.int .i64 c] w fun e w'=>e=.returned (.int .i64 (finCode c))∧w=w':=by
 go_enter Tryz.func217,Tryz.ntmps217
 go_wp2
 all_goals go_ret
 all_goals (refine⟨jr2 ?_,rfl⟩;simp only[finCode];omega)
theorem kh5(i m f:Int)(w:World)(h0 : -1≤i)(h1:i≤18)(h2 : -1≤m)(h3:m≤20)(h4:0≤f)(h5:f≤27):
 Calls Tryz.prog 191 #[.int .i64 i,.int .i64 m,.int .i64 f] w fun e w'=>e=.returned (.int .i64 (32768+(i+2)*1024+medCode m*32+finCode f))∧w=w':=by
 obtain⟨a0,a1⟩:=jt4 m h2 h3;obtain⟨b0,b1⟩:=jp1 f h4 h5
 go_enter Tryz.func191,Tryz.ntmps191
 go_wp2_with (first|(go_at_call 216;refine(kq8 _ _ (by omega) (by omega)).mono ?_;rintro e w' ⟨rfl,rfl⟩)|(go_at_call 217;refine(qc7 _ _ (by omega) (by omega)).mono ?_;rintro e w' ⟨rfl,rfl⟩))
 go_ret
 refine⟨jr2 ?_,rfl⟩;rw[kh1 15 32768 ((i+2)*1024) (by omega) (by omega) (by omega) (by omega) (by omega) (by omega),kh1 10 (32768+(i+2)*1024) (medCode m*32) (by omega) (by omega) (by omega) (by omega) (by omega) (by omega),kh1 5 _ (finCode f) (by omega) (by omega) (by omega) (by omega) (by omega) (by omega)]
theorem qf4(i m f:Int)(w:World):
 Calls Tryz.prog 189 #[.int .i64 i,.int .i64 m,.int .i64 f] w fun e w'=>e=.returned (.tuple #[.int .i32 (syl i m f),.bool (sylB i m f)])∧w=w':=by
 go_enter Tryz.func189,Tryz.ntmps189
 go_wp2
 all_goals go_ret2
 all_goals (refine⟨kk7 ?_ ?_,rfl⟩<;>simp only[syl,sylB]<;>(try simp)<;>omega)
set_option maxRecDepth 100000 in
theorem kj5(s:ByteArray)(c:Int)(w:World):
 Calls Tryz.prog 234 #[.string s,.int .u8 c] w fun e w'=>e=.returned (.int .i64 (Lib.indexByte s.data.toList c.toNat.toUInt8))∧w=w':=by
 go_enter Tryz.func234,Tryz.ntmps234
 go_wp2
 rw[run_callFunc_extern (f:=241) Tryz.func241 (by kernel_rfl) (by kernel_rfl) (by kernel_rfl) (e:=Extern.BytealgIndexByte.indexByte) (by kernel_rfl),Lib.run_indexByteString];simp only[Result.andThen];rw[Oper.upon_value]
 go_wp2
 go_ret
 exact⟨rfl,rfl⟩
theorem qc2(s:ByteArray)(c:Int)(w:World):
 Calls Tryz.prog 215 #[.string s,.int .u8 c] w fun e w'=>e=.returned (.int .i64 (Lib.indexByte s.data.toList c.toNat.toUInt8))∧w=w':=by
 go_enter Tryz.func215,Tryz.ntmps215
 go_wp2_with (go_at_call 234;refine(kj5 _ _ _).mono ?_;rintro e w' ⟨rfl,rfl⟩)
 go_ret
 exact⟨rfl,rfl⟩
theorem qk5(l:List UInt8)(c:UInt8) : -1≤Lib.indexByte l c∧Lib.indexByte l c<l.length:=by
 induction l with
 | nil=>simp[Lib.indexByte]
 | cons b l ih=>
  simp only[Lib.indexByte,List.length_cons];split
  · omega
  · split<;>omega
theorem vp0(p:Int) : -1≤aloneAt p∧aloneAt p≤29:=by
 have h:=qk5 aloneL p.toNat.toUInt8;rw[show aloneL.length=30 from rfl]at h;unfold aloneAt;omega
theorem kr1(p k:Int)(hk:Hid (k=aloneAt p))(w:World):
 Calls Tryz.prog 215 #[.string ⟨#[65,66,100,67,102,103,68,69,70,106,107,108,109,110,111,112,71,72,73,115,74,75,76,77,78,79,80,81,82,83]⟩,.int .u8 p] w
  fun e w'=>e=.returned (.int .i64 k)∧w=w':=by
 rw[hk.out];exact qc2 _ _ _
theorem qd3(p:Int)(w:World):
 Calls Tryz.prog 190 #[.int .u8 p] w fun e w'=>e=.returned (.tuple #[.int .i32 (cons p),.bool (consB p)])∧w=w':=by
 have hb:=vp0 p;obtain⟨k,hk⟩:∃k,k=aloneAt p:=⟨_,rfl⟩;obtain⟨h0,h1⟩:=hb;rw[←hk]at h0 h1;have HK:Hid _:=hk;have e1:cons p=if k<0 then 0 else 12593+k:=by rw[hk];rfl
 have e2:consB p = !decide (k<0):=by rw[hk];rfl
 rw[e1,e2];clear hk e1 e2
 go_enter Tryz.func190,Tryz.ntmps190
 go_wp2_with (go_at_call 215;refine(kr1 _ _ HK _).mono ?_;rintro e w' ⟨rfl,rfl⟩)
 all_goals go_ret2
 all_goals (refine⟨kk7 ?_ ?_,rfl⟩<;>(try simp)<;>omega)
def sgn(n i m f:Int)(bi bm bf:Bool):Int:=
 if n<32768∨bi=false∨bm=false∨bf=false then 0
 else if i ≠ -1∧m ≠ -1 then syl i m f
 else if i = -1∧m ≠ -1∧f=0 then 12623+m
 else if i ≠ -1∧m = -1∧f=0 then cons (65+i)
 else if i = -1∧m = -1∧f≠0 then cons (97+f)
 else 0
def sgnB(n i m f:Int)(bi bm bf:Bool):Bool:=
 if n<32768∨bi=false∨bm=false∨bf=false then false
 else if i ≠ -1∧m ≠ -1 then sylB i m f
 else if i = -1∧m ≠ -1∧f=0 then true
 else if i ≠ -1∧m = -1∧f=0 then consB (65+i)
 else if i = -1∧m = -1∧f≠0 then consB (97+f)
 else false
theorem qn4(p:Int):consB p = !decide (cons p=0):=by
 unfold consB cons;split<;>simp<;>omega
theorem sgnB_eq(n i m f:Int)(bi bm bf:Bool)(hi : -1≤i)(hi':i≤18)(hm : -1≤m)(hm':m≤20)(hf:0≤f)(hf':f≤27):sgnB n i m f bi bm bf = !decide (sgn n i m f bi bm bf=0):=by
 unfold sgnB sgn;split
 · rfl
 split
 · unfold sylB syl
   split
   · rename_i h
     rw[decide_eq_true h];simp;omega
   · rename_i h
     rw[decide_eq_false h];simp
 split
 · simp;omega
 split
 · exact qn4 _
 split
 · exact qn4 _
 rfl
theorem sgn_eq(n:Int):signJ n=sgn n (ini (n/1024%32)) (med (n/32%32)) (fin (n%32)) (iniB (n/1024%32)) (medB (n/32%32)) (finB (n%32)):=rfl
theorem qz0(l t:Int)(w:World)(h0:0≤l)(h1:l≤255)(h2:0≤t)(h3:t≤255):
 Calls Tryz.prog 163 #[.int .u8 l,.int .u8 t] w fun e w'=>e=.returned (.tuple #[.int .i32 (signJ (l*256+t)),.bool (signJB (l*256+t))])∧w=w':=by
 have e1:bits .or .i64 (l*256) t=l*256+t:=jw3 _ _ (by omega) (by omega) (by omega) (by omega) (by omega);obtain⟨n,hn⟩:∃n,n=l*256+t:=⟨_,rfl⟩;have hn0:0≤n:=by omega
 have hn1:n<65536:=by omega
 have e2:bits .and .i64 (n/1024) 31=n/1024%32:=kn2 _ (by omega) (by omega);have e3:bits .and .i64 (n/32) 31=n/32%32:=kn2 _ (by omega) (by omega);have e4:bits .and .i64 n 31=n%32:=kn2 _ (by omega) (by omega);obtain⟨hi,hi'⟩:=ini_bd (n/1024%32);obtain⟨hm,hm'⟩:=med_bd (n/32%32);obtain⟨hf,hf'⟩:=fin_bd (n%32);have c1:=fun w=>qc0 (n/1024%32) w (by omega) (by omega)
 have c2:=fun w=>qj3 (n/32%32) w (by omega) (by omega)
 have c3:=fun w=>qt7 (n%32) w (by omega) (by omega)
 have hs:=sgn_eq n;have hsB:signJB n=sgnB n (ini (n/1024%32)) (med (n/32%32)) (fin (n%32)) (iniB (n/1024%32)) (medB (n/32%32)) (finB (n%32)):=by
  rw[sgnB_eq _ _ _ _ _ _ _ hi hi' hm hm' hf hf',←hs];rfl
 rw[←hn]at e1 ⊢;clear hn;rw[hs,hsB];clear hs hsB;generalize ini (n/1024%32)=i at *;generalize med (n/32%32)=m at *;generalize fin (n%32)=f at *;generalize iniB (n/1024%32)=bi at *;generalize medB (n/32%32)=bm at *;generalize finB (n%32)=bf at *;have C1:=Lib.hid c1;have C2:=Lib.hid c2;have C3:=Lib.hid c3;clear c1 c2 c3;have d1:sgn n i m f bi bm bf=(if n<32768∨bi=false∨bm=false∨bf=false then 0 else if i ≠ -1∧m ≠ -1 then syl i m f
  else if i = -1∧m ≠ -1∧f=0 then 12623+m else if i ≠ -1∧m = -1∧f=0 then cons (65+i)else if i = -1∧m = -1∧f≠0 then cons (97+f)else 0):=rfl
 have d2:sgnB n i m f bi bm bf=(if n<32768∨bi=false∨bm=false∨bf=false then false else if i ≠ -1∧m ≠ -1 then sylB i m f
  else if i = -1∧m ≠ -1∧f=0 then true else if i ≠ -1∧m = -1∧f=0 then consB (65+i)else if i = -1∧m = -1∧f≠0 then consB (97+f)else false):=rfl
 have D1:=Lib.hid d1;have D2:=Lib.hid d2;clear d1 d2
 go_enter Tryz.func163,Tryz.ntmps163
 go_wp2_with (first
  | (go_at_call 186;refine(C1.out _).mono ?_;rintro e w' ⟨rfl,rfl⟩)
  | (go_at_call 187;refine(C2.out _).mono ?_;rintro e w' ⟨rfl,rfl⟩)
  | (go_at_call 188;refine(C3.out _).mono ?_;rintro e w' ⟨rfl,rfl⟩)
  | (go_at_call 189;refine(qf4 _ _ _ _).mono ?_;rintro e w' ⟨rfl,rfl⟩)
  | (go_at_call 190;refine(qd3 _ _).mono ?_;rintro e w' ⟨rfl,rfl⟩))
 all_goals go_ret2
 all_goals (refine⟨kk7 ?_ ?_,rfl⟩<;>first|rw[D1.out]|rw[D2.out])
 all_goals (clear C1 C2 C3 D1 D2;go_light)
 all_goals (clear e1 e2 e3 e4 h0 h1 h2 h3)
 all_goals (first|(have hnn:n<32768:=by omega)|(have hnn:¬n<32768:=by omega))
 all_goals (cases bi<;>cases bm<;>cases bf)
 all_goals (simp at *)
 all_goals (try (first|rfl|omega|done))
 all_goals (repeat' split)
 all_goals (try (first|rfl|omega|(exfalso;omega)))
 all_goals (try (simp_all;done))
 all_goals (try (exfalso;simp_all;omega))
theorem xd1:(Tryz.prog.info? 5).map (fun i=>(i.zero,i.size,i.bytes))=some (some (.int .u8 0),1,1):=by kernel_rfl
def widthOf(s:Int):Nat:=(min (max s 0) 8).toNat
theorem kr3(s:Int):widthOf s≤8:=by unfold widthOf;omega
theorem jr6(s:Int)(w:World):
 Calls Tryz.prog 105 #[.int .i64 s] w fun e w'=>e=.returned (.int .i64 (widthOf s))∧w=w':=by
 go_enter Tryz.func105,Tryz.ntmps105
 go_wp2
 all_goals go_ret
 all_goals (refine⟨jr2 ?_,rfl⟩;unfold widthOf;(try split at *)<;>omega)
def bigL(n:Int):Nat→List UInt8
 | 0=>[]
 | k+1=>bigL (n/256) k ++ [UInt8.ofNat (n%256).toNat]
theorem vr7(k:Nat)(b:UInt8)(s:List UInt8):(List.replicate (k+1) (0:UInt8)++s).set k b=List.replicate k 0++b::s:=by
 rw[List.replicate_succ',List.append_assoc,List.set_append_right _ _ (by simp)];simp
theorem jp5(q:Int)(h:0≤q):((UInt8.ofNat (q%256).toNat).toNat:Int)=q%256:=by
 rw[UInt8.toNat_ofNat'];omega
theorem jh8(n size:Int)(w:World)(h0:0≤n)(h1:n<18446744073709551616):
 Calls Tryz.prog 91 #[.int .u64 n,.int .i64 size] w fun e w'=>e=.returned (.string ⟨(bigL n (widthOf size)).toArray⟩)∧Below w.heap.size w w':=by
 obtain⟨i0,hi,hz0,hz1,hz2⟩:=info_parts xd1;have hw8:=kr3 size;have c1:=fun w=>jr6 size w
 generalize widthOf size=m at *;have C1:=Lib.hid c1;clear c1;obtain⟨B,hB⟩:∃B,B=w.heap.size:=⟨_,rfl⟩
 go_enter Tryz.func91,Tryz.ntmps91
 go_wp2_with (first
  | (go_at_call 105;refine(C1.out _).mono ?_;rintro e w' ⟨rfl,rfl⟩)
  | (refine wpList_make_full _ rfl _ _ 140 rfl w.heap.size 5 i0 (.int .u8 0) 1 Tryz.underlying140 hi hz0 hz1 .i64 .i64 (m:Int) (m:Int) m rfl rfl rfl rfl (by rw[hz2];omega) (by unfold maxLen;omega) (Nat.le_refl _) ?_;intro W hown hgrow))
 rw[show(madeCells (Value.int IntKind.u8 0).cells (m*1)).toList=bcells (List.replicate m 0) from by rw[show(Value.int IntKind.u8 0).cells=#[Value.int IntKind.u8 0] from rfl,toList_madeCells_one];simp[bcells]]at hown;have hbel:Below w.heap.size w W:=(Below.refl _ _).grown hgrow (Nat.le_refl _) (by intro k hk;cases hk);clear hgrow;rw[←hB]at hown hbel ⊢;have HBs:=Lib.hid hB;clear hB
 go_loopw [0,6] (fun q i wr=>∃(k:Nat) (x:Int) (s:List UInt8),k≤m∧s.length=m-k∧0≤x∧x≤n∧q=.int .u64 x∧i=.int .i64 ((k:Int)-1)∧bigL n m=bigL x k++s ∧
  wr.ownsRow B 5 1 (.slice (some ⟨B,0,none⟩) m m) m (bcells (List.replicate k 0++s))∧Below B w wr) (fun _ i _=>(intOf i+1).toNat)
 case atStart=>exact⟨m,n,[],Nat.le_refl _,by simp,h0,Int.le_refl _,rfl,rfl,by simp,by simpa using hown,hbel⟩
 case round=>
  obtain⟨k,x,s,hk,hsl,hx0,hx1,rfl,rfl,hbig,hown,hbel⟩:=hrel;cases k with
  | zero=>
   have hcv:=jf7 (P:=Tryz.prog) 140 9 Tryz.underlying140 Tryz.underlying5 Tryz.underlying9 hown;have HB:=Lib.hid hbig;clear hbig
   go_wp2
   go_ret
   exact⟨kz4 (by rw[HB.out];rfl),by rw[←HBs.out];exact hbel⟩
  | succ j=>
   have ej:(((j+1:Nat):Int)-1)=(j:Int):=by omega
   rw[ej];have hc:wr.cell? ⟨B,j,none⟩=some (.int .u8 0):=by
    rw[hown.cellAt j (by omega)];simp[bcells,List.getElem?_append]
   have hf:=hown.frozenAt j;have hst:=hown.stored j (.int .u8 ((UInt8.ofNat (x%256).toNat).toNat:Int));rw[jv3,vr7,jp5 x hx0]at hst;have HS:=Lib.hid hst;have HB:=Lib.hid hbig;have HL:=Lib.hid hsl;clear hbig hst ej hown hsl
   go_wp2
   go_roundw
   case rel=>exact⟨j,x/256,UInt8.ofNat (x%256).toNat::s,by omega,by have:=HL.out;simp;omega,by omega,by omega,rfl,rfl,by rw[HB.out,bigL];simp,HS.out.1,hbel.setCell (Nat.le_refl _) _⟩
   case measure=>simp[intOf]
def letter(k:Int):Int:=((aloneL.getD k.toNat 0).toNat:Int)
def codeJ(p:Int):Int:=
 if 44032≤p∧p<55204 then 32768+((p-44032)/28/21+2)*1024+medCode ((p-44032)/28%21)*32+finCode ((p-44032)%28)
 else if 12623≤p∧p<12644 then 32768+(-1+2)*1024+medCode (p-12623)*32+finCode 0
 else if 12593≤p∧p<12623 then
  if letter (p-12593)<97 then 32768+(letter (p-12593)-65+2)*1024+medCode (-1)*32+finCode 0
  else 32768+(-1+2)*1024+medCode (-1)*32+finCode (letter (p-12593)-97)
 else -1
theorem vj0:∀k:Fin 30,(65≤letter k.val∧letter k.val≤83)∨(97≤letter k.val∧letter k.val≤115):=by decide +kernel
theorem xb8(k:Int)(h0:0≤k)(h1:k<30):(65≤letter k∧letter k≤83)∨(97≤letter k∧letter k≤115):=by
 have:=vj0 ⟨k.toNat,by omega⟩;simp only at this
 rwa [show((k.toNat:Nat):Int)=k from by omega]at this
theorem kf4:widthOf 2=2:=by decide
theorem xh5(p:Int)(w:World)(h0:44032≤p)(h1:p<55204):
 Calls Tryz.prog 164 #[.int .i32 p] w fun e w'=>
  e=.returned (.tuple #[.string ⟨(bigL (codeJ p) 2).toArray⟩,.bool true])∧Below w.heap.size w w':=by
 have m:=jt4 ((p-44032)/28%21) (by omega) (by omega);have f:=jp1 ((p-44032)%28) (by omega) (by omega);have e:codeJ p=32768+((p-44032)/28/21+2)*1024+medCode ((p-44032)/28%21)*32+finCode ((p-44032)%28):=by
  unfold codeJ;rw[if_pos ⟨h0,h1⟩]
 rw[e];clear e
 go_enter Tryz.func164,Tryz.ntmps164
 go_wp2_with (first
  | (go_at_call 191;refine(kh5 _ _ _ _ (by omega) (by omega) (by omega) (by omega) (by omega) (by omega)).mono ?_;rintro e w' ⟨rfl,rfl⟩)
  | (go_at_call 91;refine(jh8 _ _ _ (by omega) (by omega)).mono ?_;rintro e w1 ⟨rfl,hb⟩))
 rw[kf4]
 go_ret2
 exact⟨rfl,hb⟩
theorem xh4(p:Int)(w:World)(h0:12623≤p)(h1:p<12644):
 Calls Tryz.prog 164 #[.int .i32 p] w fun e w'=>
  e=.returned (.tuple #[.string ⟨(bigL (codeJ p) 2).toArray⟩,.bool true])∧Below w.heap.size w w':=by
 have m:=jt4 (p-12623) (by omega) (by omega);have f:=jp1 0 (by omega) (by omega);have e:codeJ p=32768+(-1+2)*1024+medCode (p-12623)*32+finCode 0:=by
  unfold codeJ;rw[if_neg (by omega),if_pos ⟨h0,h1⟩]
 rw[e];clear e
 go_enter Tryz.func164,Tryz.ntmps164
 go_wp2_with (first
  | (go_at_call 191;refine(kh5 _ _ _ _ (by omega) (by omega) (by omega) (by omega) (by omega) (by omega)).mono ?_;rintro e w' ⟨rfl,rfl⟩)
  | (go_at_call 91;refine(jh8 _ _ _ (by omega) (by omega)).mono ?_;rintro e w1 ⟨rfl,hb⟩))
 rw[kf4]
 go_ret2
 exact⟨rfl,hb⟩
theorem xh7(k:Nat)(w:World)(h1:k<30):
 Calls Tryz.prog 164 #[.int .i32 (12593+k)] w fun e w'=>
  e=.returned (.tuple #[.string ⟨(bigL (codeJ (12593+k)) 2).toArray⟩,.bool true])∧Below w.heap.size w w':=by
 have hx:∀(h:k<(⟨#[65,66,100,67,102,103,68,69,70,106,107,108,109,110,111,112,71,72,73,115,74,75,76,77,78,79,80,81,82,83]⟩:ByteArray).size),
  (((⟨#[65,66,100,67,102,103,68,69,70,106,107,108,109,110,111,112,71,72,73,115,74,75,76,77,78,79,80,81,82,83]⟩:ByteArray)[k]'h).toNat:Int)=letter k:=by
  intro h;unfold letter;rw[Int.toNat_natCast];have:aloneL[k]'h1=aloneL.getD k 0:=by rw[List.getD_eq_getElem?_getD,List.getElem?_eq_getElem (h:=h1)];rfl
  rw[←this]
  rfl
 have m:=jt4 (-1) (by omega) (by omega);have f:=jp1 0 (by omega) (by omega);have e:codeJ (12593+k)=if letter k<97 then 32768+(letter k-65+2)*1024+medCode (-1)*32+finCode 0
  else 32768+(-1+2)*1024+medCode (-1)*32+finCode (letter k-97):=by
  unfold codeJ;rw[if_neg (by omega),if_neg (by omega),if_pos (by omega),show(12593+(k:Int)-12593)=k from by omega]
 have l:=xb8 k (by omega) (by omega);rw[e];clear e;generalize letter k=x at *;rcases l with⟨l0,l1⟩|⟨l0,l1⟩
 · rw[if_pos (by omega)]
   go_enter Tryz.func164,Tryz.ntmps164
   go_wp2_with (first
    | (go_at_call 191;refine(kh5 _ _ _ _ (by omega) (by omega) (by omega) (by omega) (by omega) (by omega)).mono ?_;rintro e w' ⟨rfl,rfl⟩)
    | (go_at_call 91;refine(jh8 _ _ _ (by omega) (by omega)).mono ?_;rintro e w1 ⟨rfl,hb⟩))
   rw[kf4]
   go_ret2
   exact⟨rfl,hb⟩
 · rw[if_neg (by omega)]
   have f:=jp1 (x-97) (by omega) (by omega)
   go_enter Tryz.func164,Tryz.ntmps164
   go_wp2_with (first
    | (go_at_call 191;refine(kh5 _ _ _ _ (by omega) (by omega) (by omega) (by omega) (by omega) (by omega)).mono ?_;rintro e w' ⟨rfl,rfl⟩)
    | (go_at_call 91;refine(jh8 _ _ _ (by omega) (by omega)).mono ?_;rintro e w1 ⟨rfl,hb⟩))
   rw[kf4]
   go_ret2
   exact⟨rfl,hb⟩
end Go.Proofs.YtagjkmkmphamoaaGreatDoor
namespace Go.Proofs.YtagjkmkmphamoaaGreatDoor
def hasJ(p:Int):Prop:=(12593≤p∧p<12644)∨(44032≤p∧p<55204)
end Go.Proofs.YtagjkmkmphamoaaGreatDoor
namespace Go.Proofs.YtagjkmkmphamoaaGreatDoor
open Go.RowKit
theorem bigL2(L T:UInt8):bigL ((L.toNat:Int)*256+(T.toNat:Int)) 2 = [L,T]:=by
 have h1:=L.toNat_lt;have h2:=T.toNat_lt;simp only[bigL,List.nil_append,List.cons_append];rw[show(((L.toNat:Int)*256+(T.toNat:Int))/256%256).toNat=L.toNat from by omega,show(((L.toNat:Int)*256+(T.toNat:Int))%256).toNat=T.toNat from by omega];simp
theorem xh6(p:Int)(L T:UInt8)(w:World)(h:hasJ p)(hc:codeJ p=(L.toNat:Int)*256+(T.toNat:Int)):
 Calls Tryz.prog 164 #[.int .i32 p] w fun e w'=>e=.returned (.tuple #[.string ⟨#[L,T]⟩,.bool true])∧Below w.heap.size w w':=by
 have hb:=bigL2 L T;rw[←hc]at hb;have hs:(⟨#[L,T]⟩:ByteArray)=⟨(bigL (codeJ p) 2).toArray⟩:=by rw[hb]
 rw[hs];rcases h with⟨h0,h1⟩|⟨h0,h1⟩
 · by_cases h2:p<12623
   · obtain⟨k,rfl⟩:∃k:Nat,p=12593+k:=⟨(p-12593).toNat,by omega⟩
     exact xh7 k w (by omega)
   · exact xh4 p w (by omega) h1
 · exact xh5 p w h0 h1
theorem qw8(w:World):Calls Tryz.prog 134 #[] w fun e w'=>e=.returned (.bool true)∧Below w.heap.size w w':=by
 have c1:signJ (136*256+97)=44032:=by decide +kernel
 have c2:codeJ 12595=((132:UInt8).toNat:Int)*256+((68:UInt8).toNat:Int):=by decide +kernel
 have k1:=fun w=>qz0 136 97 w (by omega) (by omega) (by omega) (by omega)
 have k2:=fun w=>xh6 12595 132 68 w (by unfold hasJ;omega) c2
 unfold signJB at k1;rw[c1]at k1;clear c1 c2;have K1:=Lib.hid k1;have K2:=Lib.hid k2;clear k1 k2
 go_enter Tryz.func134,Tryz.ntmps134
 go_wp2_with (first
  | (go_at_call 163;refine(K1.out _).mono ?_;rintro e w1 ⟨rfl,rfl⟩)
  | (go_at_call 164;refine(K2.out _).mono ?_;rintro e w1 ⟨rfl,hb⟩))
 go_ret
 exact⟨rfl,hb⟩
end Go.Proofs.YtagjkmkmphamoaaGreatDoor
