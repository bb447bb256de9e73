/- P4 -/
import Derived.Test.YtndlekaahjccdaaGreatDoorP1
import Derived.Test.YtndlekaahjccdaaGreatDoorP3
set_option linter.all false
set_option maxRecDepth 100000
set_option maxHeartbeats 40000000
set_option maxHeartbeats 4000000
noncomputable section
namespace Go.Proofs.YtndlekaahjccdaaGreatDoor
section
open Go.RowKit Go.Proofs.Tryz
theorem y7e(c:Int)(w:World)(h0:0<=c)(h1:c<=31):
 Calls prog 344 #[.int .i64 c] w fun e w'=>e=.returned (.tuple #[.int .i64 (ini c),.bool (iniB c)])/\w=w':=by
 go_enter func344,ntmps344
 go_wp2
 all_goals go_ret2
 all_goals (refine⟨y57 ?_ ?_,rfl⟩<;>simp only[ini,iniB,beq_iff_eq,beq_eq_false_iff_ne,ne_eq]at * <;> (try simp)<;>omega)
theorem y8f(c:Int)(w:World)(h0:0<=c)(h1:c<=31):
 Calls prog 345 #[.int .i64 c] w fun e w'=>e=.returned (.tuple #[.int .i64 (med c),.bool (medB c)])/\w=w':=by
 go_enter func345,ntmps345
 go_wp2
 all_goals go_ret2
 all_goals (refine⟨y57 ?_ ?_,rfl⟩<;>simp only[med,medB,beq_iff_eq,beq_eq_false_iff_ne,ne_eq]at * <;> (try simp)<;>omega)
theorem yAN(c:Int)(w:World)(h0:0<=c)(h1:c<=31):
 Calls prog 346 #[.int .i64 c] w fun e w'=>e=.returned (.tuple #[.int .i64 (fin c),.bool (finB c)])/\w=w':=by
 go_enter func346,ntmps346
 go_wp2
 all_goals go_ret2
 all_goals (refine⟨y57 ?_ ?_,rfl⟩<;>simp only[fin,finB]<;>(try simp)<;>omega)
theorem y60(c:Int)(w:World)(h0 : -1<=c)(h1:c<=31):
 Calls prog 389 #[.int .i64 c] w fun e w'=>e=.returned (.int .i64 (medCode c))/\w=w':=by
 go_enter func389,ntmps389
 go_wp2
 all_goals go_ret
 all_goals (refine⟨y3A ?_,rfl⟩;simp only[medCode,beq_iff_eq,beq_eq_false_iff_ne,ne_eq]at *;omega)
theorem y7k(c:Int)(w:World)(h0 : -1<=c)(h1:c<=31):
 Calls prog 390 #[.int .i64 c] w fun e w'=>e=.returned (.int .i64 (finCode c))/\w=w':=by
 go_enter func390,ntmps390
 go_wp2
 all_goals go_ret
 all_goals (refine⟨y3A ?_,rfl⟩;simp only[finCode];omega)
theorem y4j(i m f:Int)(w:World)(h0 : -1<=i)(h1:i<=18)(h2 : -1<=m)(h3:m<=20)(h4:0<=f)(h5:f<=27):
 Calls prog 349 #[.int .i64 i,.int .i64 m,.int .i64 f] w fun e w'=>e=.returned (.int .i64 (32768+(i+2)*1024+medCode m*32+finCode f))/\w=w':=by
 obtain⟨a0,a1⟩:=y2M m h2 h3;obtain⟨b0,b1⟩:=y1I f h4 h5
 go_enter func349,ntmps349
 go_wp2_with (first|(go_at_call 389;refine(y60 _ _ (by omega) (by omega)).mono ?_;rintro e w' ⟨rfl,rfl⟩)|(go_at_call 390;refine(y7k _ _ (by omega) (by omega)).mono ?_;rintro e w' ⟨rfl,rfl⟩))
 go_ret
 refine⟨y3A ?_,rfl⟩;rw[y4b 15 32768 ((i+2)*1024) (by omega) (by omega) (by omega) (by omega) (by omega) (by omega),y4b 10 (32768+(i+2)*1024) (medCode m*32) (by omega) (by omega) (by omega) (by omega) (by omega) (by omega),y4b 5 _ (finCode f) (by omega) (by omega) (by omega) (by omega) (by omega) (by omega)]
theorem y8B(i m f:Int)(w:World):
 Calls prog 347 #[.int .i64 i,.int .i64 m,.int .i64 f] w fun e w'=>e=.returned (.tuple #[.int .i32 (syl i m f),.bool (sylB i m f)])/\w=w':=by
 go_enter func347,ntmps347
 go_wp2
 all_goals go_ret2
 all_goals (refine⟨y57 ?_ ?_,rfl⟩<;>simp only[syl,sylB]<;>(try simp)<;>omega)
theorem y4y(s:ByteArray)(c:Int)(w:World):
 Calls prog 339 #[.string s,.int .u8 c] w fun e w'=>e=.returned (.int .i64 (Lib.indexByte s.data.toList c.toNat.toUInt8))/\w=w':=by
 go_enter func339,ntmps339
 go_wp2
 rw[run_callFunc_extern (f:=383) func383 (by kernel_rfl) (by kernel_rfl) (by kernel_rfl) (e:=Extern.BytealgIndexByte.indexByte) (by kernel_rfl),Lib.run_indexByteString];simp only[Result.andThen];rw[Oper.upon_value];go_wp2;go_ret
 exact⟨rfl,rfl⟩
theorem y7g(s:ByteArray)(c:Int)(w:World):
 Calls prog 286 #[.string s,.int .u8 c] w fun e w'=>e=.returned (.int .i64 (Lib.indexByte s.data.toList c.toNat.toUInt8))/\w=w':=by
 go_enter func286,ntmps286
 go_wp2_with (go_at_call 339;refine(y4y _ _ _).mono ?_;rintro e w' ⟨rfl,rfl⟩)
 go_ret
 exact⟨rfl,rfl⟩
theorem y8o(l:List UInt8)(c:UInt8) : -1<=Lib.indexByte l c/\Lib.indexByte l c<l.length:=by
 induction l with
 | nil=>simp[Lib.indexByte]
 | cons b l ih=>
  simp only[Lib.indexByte,List.length_cons];split
  . omega
  . split<;>omega
theorem yDM(p:Int) : -1<=y2E p/\y2E p<=29:=by
 have h:=y8o aloneL p.toNat.toUInt8;rw[show aloneL.length=30 from rfl]at h;unfold y2E;omega
theorem y66(p k:Int)(hk:Hid (k=y2E p))(w:World):
 Calls prog 286 #[.string ⟨#[65,66,100,67,102,103,68,69,70,106,107,108,109,110,111,112,71,72,73,115,74,75,76,77,78,79,80,81,82,83]⟩,.int .u8 p] w
  fun e w'=>e=.returned (.int .i64 k)/\w=w':=by
 rw[hk.out];exact y7g _ _ _
theorem y7w(p:Int)(w:World):
 Calls prog 348 #[.int .u8 p] w fun e w'=>e=.returned (.tuple #[.int .i32 (cons p),.bool (y97 p)])/\w=w':=by
 have hb:=yDM p;obtain⟨k,hk⟩:∃k,k=y2E p:=⟨_,rfl⟩;obtain⟨h0,h1⟩:=hb;rw[<-hk]at h0 h1;have HK:Hid _:=hk;have e1:cons p=if k<0 then 0 else 12593+k:=by rw[hk];rfl
 have e2:y97 p = !decide (k<0):=by rw[hk];rfl
 rw[e1,e2];clear hk e1 e2
 go_enter func348,ntmps348
 go_wp2_with (go_at_call 286;refine(y66 _ _ HK _).mono ?_;rintro e w' ⟨rfl,rfl⟩)
 all_goals go_ret2
 all_goals (refine⟨y57 ?_ ?_,rfl⟩<;>(try simp)<;>omega)
def sgn(n i m f:Int)(bi bm bf:Bool):Int:=
 if n<32768\/bi=false\/bm=false\/bf=false then 0
 else if i ≠ -1/\m ≠ -1 then syl i m f
 else if i = -1/\m ≠ -1/\f=0 then 12623+m
 else if i ≠ -1/\m = -1/\f=0 then cons (65+i)
 else if i = -1/\m = -1/\f≠0 then cons (97+f)
 else 0
def sgnB(n i m f:Int)(bi bm bf:Bool):Bool:=
 if n<32768\/bi=false\/bm=false\/bf=false then false
 else if i ≠ -1/\m ≠ -1 then sylB i m f
 else if i = -1/\m ≠ -1/\f=0 then true
 else if i ≠ -1/\m = -1/\f=0 then y97 (65+i)
 else if i = -1/\m = -1/\f≠0 then y97 (97+f)
 else false
theorem y96(p:Int):y97 p = !decide (cons p=0):=by
 unfold y97 cons;split<;>simp<;>omega
theorem yJ8(n i m f:Int)(bi bm bf:Bool)(hi : -1<=i)(H6:i<=18)(hm : -1<=m)(H5:m<=20)(hf:0<=f)(H7:f<=27):sgnB n i m f bi bm bf = !decide (sgn n i m f bi bm bf=0):=by
 unfold sgnB sgn;split
 . rfl
 split
 . unfold sylB syl
   split
   . rename_i h
     rw[decide_eq_true h];simp;omega
   . rename_i h
     rw[decide_eq_false h];simp
 split
 . simp;omega
 split
 . exact y96 _
 split
 . exact y96 _
 rfl
theorem sgn_eq(n:Int):signJ n=sgn n (ini (n/1024%32)) (med (n/32%32)) (fin (n%32)) (iniB (n/1024%32)) (medB (n/32%32)) (finB (n%32)):=rfl
theorem yB3(l t:Int)(w:World)(h0:0<=l)(h1:l<=255)(h2:0<=t)(h3:t<=255):
 Calls prog 299 #[.int .u8 l,.int .u8 t] w fun e w'=>e=.returned (.tuple #[.int .i32 (signJ (l*256+t)),.bool (signJB (l*256+t))])/\w=w':=by
 have e1:bits .or .i64 (l*256) t=l*256+t:=y2o _ _ (by omega) (by omega) (by omega) (by omega) (by omega);obtain⟨n,hn⟩:∃n,n=l*256+t:=⟨_,rfl⟩;have Hb:0<=n:=by omega
 have Ha:n<65536:=by omega
 have e2:bits .and .i64 (n/1024) 31=n/1024%32:=y5U _ (by omega) (by omega);have e3:bits .and .i64 (n/32) 31=n/32%32:=y5U _ (by omega) (by omega);have e4:bits .and .i64 n 31=n%32:=y5U _ (by omega) (by omega);obtain⟨hi,H8⟩:=ini_bd (n/1024%32);obtain⟨hm,H7⟩:=med_bd (n/32%32);obtain⟨hf,H9⟩:=fin_bd (n%32);have c1:=fun w=>y7e (n/1024%32) w (by omega) (by omega)
 have c2:=fun w=>y8f (n/32%32) w (by omega) (by omega)
 have c3:=fun w=>yAN (n%32) w (by omega) (by omega)
 have hs:=sgn_eq n;have H5:signJB n=sgnB n (ini (n/1024%32)) (med (n/32%32)) (fin (n%32)) (iniB (n/1024%32)) (medB (n/32%32)) (finB (n%32)):=by
  rw[yJ8 _ _ _ _ _ _ _ hi H8 hm H7 hf H9,<-hs];rfl
 rw[<-hn]at e1 ⊢;clear hn;rw[hs,H5];clear hs H5;generalize ini (n/1024%32)=i at *;generalize med (n/32%32)=m at *;generalize fin (n%32)=f at *;generalize iniB (n/1024%32)=bi at *;generalize medB (n/32%32)=bm at *;generalize finB (n%32)=bf at *;have C1:=z7 c1;have C2:=z7 c2;have C3:=z7 c3;clear c1 c2 c3;have d1:sgn n i m f bi bm bf=(if n<32768\/bi=false\/bm=false\/bf=false then 0 else if i ≠ -1/\m ≠ -1 then syl i m f
  else if i = -1/\m ≠ -1/\f=0 then 12623+m else if i ≠ -1/\m = -1/\f=0 then cons (65+i)else if i = -1/\m = -1/\f≠0 then cons (97+f)else 0):=rfl
 have d2:sgnB n i m f bi bm bf=(if n<32768\/bi=false\/bm=false\/bf=false then false else if i ≠ -1/\m ≠ -1 then sylB i m f
  else if i = -1/\m ≠ -1/\f=0 then true else if i ≠ -1/\m = -1/\f=0 then y97 (65+i)else if i = -1/\m = -1/\f≠0 then y97 (97+f)else false):=rfl
 have D1:=z7 d1;have D2:=z7 d2;clear d1 d2
 go_enter func299,ntmps299
 go_wp2_with (first
  | (go_at_call 344;refine(C1.out _).mono ?_;rintro e w' ⟨rfl,rfl⟩)
  | (go_at_call 345;refine(C2.out _).mono ?_;rintro e w' ⟨rfl,rfl⟩)
  | (go_at_call 346;refine(C3.out _).mono ?_;rintro e w' ⟨rfl,rfl⟩)
  | (go_at_call 347;refine(y8B _ _ _ _).mono ?_;rintro e w' ⟨rfl,rfl⟩)
  | (go_at_call 348;refine(y7w _ _).mono ?_;rintro e w' ⟨rfl,rfl⟩))
 all_goals go_ret2
 all_goals (refine⟨y57 ?_ ?_,rfl⟩<;>first|rw[D1.out]|rw[D2.out])
 all_goals (clear C1 C2 C3 D1 D2;go_light)
 all_goals (clear e1 e2 e3 e4 h0 h1 h2 h3)
 all_goals (first|(have H6:n<32768:=by omega)|(have H6:¬n<32768:=by omega))
 all_goals (cases bi<;>cases bm<;>cases bf)
 all_goals (simp at *)
 all_goals (try (first|rfl|omega|done))
 all_goals (repeat' split)
 all_goals (try (first|rfl|omega|(exfalso;omega)))
 all_goals (try (simp_all;done))
 all_goals (try (exfalso;simp_all;omega))
theorem infoU8:(Tryz.prog.info? 5).map (fun i=>(i.zero,i.size,i.bytes))=some (some (.int .u8 0),1,1):=by kernel_rfl
def widthOf(s:Int):Nat:=(min (max s 0) 8).toNat
theorem yC3(s:Int):widthOf s<=8:=by unfold widthOf;omega
theorem yDR(s:Int)(w:World):
 Calls prog 181 #[.int .i64 s] w fun e w'=>e=.returned (.int .i64 (widthOf s))/\w=w':=by
 go_enter func181,ntmps181
 go_wp2
 all_goals go_ret
 all_goals (refine⟨y3A ?_,rfl⟩;unfold widthOf;(try split at *)<;>omega)
def bigL(n:Int):Nat->List UInt8
 | 0=>[]
 | k+1=>bigL (n/256) k ++ [UInt8.ofNat (n%256).toNat]
theorem yJ9(k:Nat)(b:UInt8)(s:List UInt8):(List.replicate (k+1) (0:UInt8)++s).set k b=List.replicate k 0++b::s:=by
 rw[List.replicate_succ',List.append_assoc,List.set_append_right _ _ (by simp)];simp
theorem yGT(q:Int)(h:0<=q):((UInt8.ofNat (q%256).toNat).toNat:Int)=q%256:=by
 rw[UInt8.toNat_ofNat'];omega
theorem y2D(n size:Int)(w:World)(h0:0<=n)(h1:n<18446744073709551616):
 Calls prog 115 #[.int .u64 n,.int .i64 size] w fun e w'=>e=.returned (.string ⟨(bigL n (widthOf size)).toArray⟩)/\Below w.heap.size w w':=by
 obtain⟨i0,hi,Hd,Hc,Hb⟩:=info_parts infoU8;have Hh:=yC3 size;have c1:=fun w=>yDR size w
 generalize widthOf size=m at *;have C1:=z7 c1;clear c1;obtain⟨B,hB⟩:∃B,B=w.heap.size:=⟨_,rfl⟩
 go_enter func115,ntmps115
 go_wp2_with (first
  | (go_at_call 181;refine(C1.out _).mono ?_;rintro e w' ⟨rfl,rfl⟩)
  | (refine wpList_make_full _ rfl _ _ 94 rfl w.heap.size 5 i0 (.int .u8 0) 1 underlying94 hi Hd Hc .i64 .i64 (m:Int) (m:Int) m rfl rfl rfl rfl (by rw[Hb];omega) (by unfold maxLen;omega) (zA) ?_;intro W H5 H8))
 rw[show(madeCells (Value.int IntKind.u8 0).cells (m*1)).toList=bcells (List.replicate m 0) from by rw[show(Value.int IntKind.u8 0).cells=#[Value.int IntKind.u8 0] from rfl,toList_madeCells_one];simp[bcells]]at H5;have H6:Below w.heap.size w W:=(z8).grown H8 (zA) (by intro k hk;cases hk);clear H8;rw[<-hB]at H5 H6 ⊢;have Hf:=z7 hB;clear hB
 go_loopw [0,6] (fun q i wr=>∃(k:Nat) (x:Int) (s:List UInt8),k<=m/\s.length=m-k/\0<=x/\x<=n/\q=.int .u64 x/\i=.int .i64 ((k:Int)-1)/\bigL n m=bigL x k++s /\
  wr.ownsRow B 5 1 (.slice (some ⟨B,0,none⟩) m m) m (bcells (List.replicate k 0++s))/\Below B w wr) (fun _ i _=>(intOf i+1).toNat)
 case atStart=>exact⟨m,n,[],zA,by simp,h0,Int.le_refl _,rfl,rfl,by simp,by simpa using H5,H6⟩
 case round=>
  obtain⟨k,x,s,hk,Ha,He,Hg,rfl,rfl,H7,H5,H6⟩:=hrel;cases k with
  | zero=>
   have Hi:=y2T (P:=prog) 94 9 underlying94 underlying5 underlying9 H5;have HB:=z7 H7;clear H7;go_wp2;go_ret
   exact⟨ret_s (by rw[HB.out];rfl),by rw[<-Hf.out];exact H6⟩
  | succ j=>
   have ej:(((j+1:Nat):Int)-1)=(j:Int):=by omega
   rw[ej];have hc:wr.cell? ⟨B,j,none⟩=some (.int .u8 0):=by
    rw[H5.cellAt j (by omega)];simp[bcells,List.getElem?_append]
   have hf:=H5.frozenAt j;have H9:=H5.stored j (.int .u8 ((UInt8.ofNat (x%256).toNat).toNat:Int));rw[y6f,yJ9,yGT x He]at H9;have HS:=z7 H9;have HB:=z7 H7;have HL:=z7 Ha;clear H7 H9 ej H5 Ha;go_wp2;go_roundw
   case rel=>exact⟨j,x/256,UInt8.ofNat (x%256).toNat::s,by omega,by have:=HL.out;simp;omega,by omega,by omega,rfl,rfl,by rw[HB.out,bigL];simp,HS.out.1,H6.setCell (zA) _⟩
   case measure=>simp[intOf]
def letter(k:Int):Int:=((aloneL.getD k.toNat 0).toNat:Int)
def codeJ(p:Int):Int:=
 if 44032<=p/\p<55204 then 32768+((p-44032)/28/21+2)*1024+medCode ((p-44032)/28%21)*32+finCode ((p-44032)%28)
 else if 12623<=p/\p<12644 then 32768+(-1+2)*1024+medCode (p-12623)*32+finCode 0
 else if 12593<=p/\p<12623 then
  if letter (p-12593)<97 then 32768+(letter (p-12593)-65+2)*1024+medCode (-1)*32+finCode 0
  else 32768+(-1+2)*1024+medCode (-1)*32+finCode (letter (p-12593)-97)
 else -1
theorem yCs:∀k:Fin 30,(65<=letter k.val/\letter k.val<=83)\/(97<=letter k.val/\letter k.val<=115):=by decide +kernel
theorem yFL(k:Int)(h0:0<=k)(h1:k<30):(65<=letter k/\letter k<=83)\/(97<=letter k/\letter k<=115):=by
 have:=yCs ⟨k.toNat,by omega⟩;simp only at this
 rwa [show((k.toNat:Nat):Int)=k from by omega]at this
theorem y4G:widthOf 2=2:=by decide
theorem yGQ(p:Int)(w:World)(h0:44032<=p)(h1:p<55204):
 Calls prog 300 #[.int .i32 p] w fun e w'=>
  e=.returned (.tuple #[.string ⟨(bigL (codeJ p) 2).toArray⟩,.bool true])/\Below w.heap.size w w':=by
 have m:=y2M ((p-44032)/28%21) (by omega) (by omega);have f:=y1I ((p-44032)%28) (by omega) (by omega);have e:codeJ p=32768+((p-44032)/28/21+2)*1024+medCode ((p-44032)/28%21)*32+finCode ((p-44032)%28):=by
  unfold codeJ;rw[if_pos ⟨h0,h1⟩]
 rw[e];clear e
 go_enter func300,ntmps300
 go_wp2_with (first
  | (go_at_call 349;refine(y4j _ _ _ _ (by omega) (by omega) (by omega) (by omega) (by omega) (by omega)).mono ?_;rintro e w' ⟨rfl,rfl⟩)
  | (go_at_call 115;refine(y2D _ _ _ (by omega) (by omega)).mono ?_;rintro e w1 ⟨rfl,hb⟩))
 rw[y4G];go_ret2
 exact⟨rfl,hb⟩
theorem yGP(p:Int)(w:World)(h0:12623<=p)(h1:p<12644):
 Calls prog 300 #[.int .i32 p] w fun e w'=>
  e=.returned (.tuple #[.string ⟨(bigL (codeJ p) 2).toArray⟩,.bool true])/\Below w.heap.size w w':=by
 have m:=y2M (p-12623) (by omega) (by omega);have f:=y1I 0 (by omega) (by omega);have e:codeJ p=32768+(-1+2)*1024+medCode (p-12623)*32+finCode 0:=by
  unfold codeJ;rw[if_neg (by omega),if_pos ⟨h0,h1⟩]
 rw[e];clear e
 go_enter func300,ntmps300
 go_wp2_with (first
  | (go_at_call 349;refine(y4j _ _ _ _ (by omega) (by omega) (by omega) (by omega) (by omega) (by omega)).mono ?_;rintro e w' ⟨rfl,rfl⟩)
  | (go_at_call 115;refine(y2D _ _ _ (by omega) (by omega)).mono ?_;rintro e w1 ⟨rfl,hb⟩))
 rw[y4G];go_ret2
 exact⟨rfl,hb⟩
theorem yGS(k:Nat)(w:World)(h1:k<30):
 Calls prog 300 #[.int .i32 (12593+k)] w fun e w'=>
  e=.returned (.tuple #[.string ⟨(bigL (codeJ (12593+k)) 2).toArray⟩,.bool true])/\Below w.heap.size w w':=by
 have hx:∀(h:k<(⟨#[65,66,100,67,102,103,68,69,70,106,107,108,109,110,111,112,71,72,73,115,74,75,76,77,78,79,80,81,82,83]⟩:ByteArray).size),
  (((⟨#[65,66,100,67,102,103,68,69,70,106,107,108,109,110,111,112,71,72,73,115,74,75,76,77,78,79,80,81,82,83]⟩:ByteArray)[k]'h).toNat:Int)=letter k:=by
  intro h;unfold letter;rw[Int.toNat_natCast];have:aloneL[k]'h1=aloneL.getD k 0:=by rw[List.getD_eq_getElem?_getD,List.getElem?_eq_getElem (h:=h1)];rfl
  rw[<-this];rfl
 have m:=y2M (-1) (by omega) (by omega);have f:=y1I 0 (by omega) (by omega);have e:codeJ (12593+k)=if letter k<97 then 32768+(letter k-65+2)*1024+medCode (-1)*32+finCode 0
  else 32768+(-1+2)*1024+medCode (-1)*32+finCode (letter k-97):=by
  unfold codeJ;rw[if_neg (by omega),if_neg (by omega),if_pos (by omega),show(12593+(k:Int)-12593)=k from by omega]
 have l:=yFL k (by omega) (by omega);rw[e];clear e;generalize letter k=x at *;rcases l with⟨l0,l1⟩|⟨l0,l1⟩
 . rw[if_pos (by omega)]
   go_enter func300,ntmps300
   go_wp2_with (first
    | (go_at_call 349;refine(y4j _ _ _ _ (by omega) (by omega) (by omega) (by omega) (by omega) (by omega)).mono ?_;rintro e w' ⟨rfl,rfl⟩)
    | (go_at_call 115;refine(y2D _ _ _ (by omega) (by omega)).mono ?_;rintro e w1 ⟨rfl,hb⟩))
   rw[y4G];go_ret2
   exact⟨rfl,hb⟩
 . rw[if_neg (by omega)]
   have f:=y1I (x-97) (by omega) (by omega)
   go_enter func300,ntmps300
   go_wp2_with (first
    | (go_at_call 349;refine(y4j _ _ _ _ (by omega) (by omega) (by omega) (by omega) (by omega) (by omega)).mono ?_;rintro e w' ⟨rfl,rfl⟩)
    | (go_at_call 115;refine(y2D _ _ _ (by omega) (by omega)).mono ?_;rintro e w1 ⟨rfl,hb⟩))
   rw[y4G];go_ret2
   exact⟨rfl,hb⟩
end
section
open Go.Proofs.Tryz
def hasJ(p:Int):Prop:=(12593<=p/\p<12644)\/(44032<=p/\p<55204)
end
section
open Go.RowKit Go.Proofs.Tryz
theorem bigL2(L T:UInt8):bigL ((L.toNat:Int)*256+(T.toNat:Int)) 2 = [L,T]:=by
 have h1:=L.toNat_lt;have h2:=T.toNat_lt;simp only[bigL,List.nil_append,List.cons_append];rw[show(((L.toNat:Int)*256+(T.toNat:Int))/256%256).toNat=L.toNat from by omega,show(((L.toNat:Int)*256+(T.toNat:Int))%256).toNat=T.toNat from by omega];simp
theorem yGR(p:Int)(L T:UInt8)(w:World)(h:hasJ p)(hc:codeJ p=(L.toNat:Int)*256+(T.toNat:Int)):
 Calls prog 300 #[.int .i32 p] w fun e w'=>e=.returned (.tuple #[.string ⟨#[L,T]⟩,.bool true])/\Below w.heap.size w w':=by
 have hb:=bigL2 L T;rw[<-hc]at hb;have hs:(⟨#[L,T]⟩:ByteArray)=⟨(bigL (codeJ p) 2).toArray⟩:=by rw[hb]
 rw[hs];rcases h with⟨h0,h1⟩|⟨h0,h1⟩
 . by_cases h2:p<12623
   . obtain⟨k,rfl⟩:∃k:Nat,p=12593+k:=⟨(p-12593).toNat,by omega⟩
     exact yGS k w (by omega)
   . exact yGP p w (by omega) h1
 . exact yGQ p w h0 h1
theorem y5n(w:World):Calls prog 212 #[] w fun e w'=>e=.returned (.bool true)/\Below w.heap.size w w':=by
 have c1:signJ (136*256+97)=44032:=by decide +kernel
 have c2:codeJ 12595=((132:UInt8).toNat:Int)*256+((68:UInt8).toNat:Int):=by decide +kernel
 have k1:=fun w=>yB3 136 97 w (by omega) (by omega) (by omega) (by omega)
 have k2:=fun w=>yGR 12595 132 68 w (by unfold hasJ;omega) c2
 unfold signJB at k1;rw[c1]at k1;clear c1 c2;have K1:=z7 k1;have K2:=z7 k2;clear k1 k2
 go_enter func212,ntmps212
 go_wp2_with (first
  | (go_at_call 299;refine(K1.out _).mono ?_;rintro e w1 ⟨rfl,rfl⟩)
  | (go_at_call 300;refine(K2.out _).mono ?_;rintro e w1 ⟨rfl,hb⟩))
 go_ret
 exact⟨rfl,hb⟩
end
end Go.Proofs.YtndlekaahjccdaaGreatDoor
set_option maxHeartbeats 2000000
namespace Go.Proofs.YtndlekaahjccdaaGreatDoor
open Go.RowKit Go.Proofs.Tryz
def wRow(k:Nat):ByteArray:=yGG Tryz.f394 k 1
def wRowL(lead:Int):ByteArray:=if lead=161 then wRow 4 else if lead=162 then wRow 6 else if lead=166 then wRow 8 else⟨#[]⟩
theorem yDX:(wRow 4).size=470/\(wRow 6).size=355/\(wRow 8).size=340:=by
 refine⟨?_,?_,?_⟩<;>kernel_rfl
theorem y9p{a b:ByteArray}{x:Int}(h:a=b):Ending.returned (.tuple #[.string a,.int .i64 x])=.returned (.tuple #[.string b,.int .i64 x]):=by rw[h]
theorem yCo(lead:Int)(w:World)(h0:0<=lead)(h1:lead<=255):
 Calls prog 394 #[.int .i64 lead] w fun e w'=>e=.returned (.tuple #[.string (wRowL lead),.int .i64 (lead*256+161)])/\w=w':=by
 have e1:bits .or .i64 (lead*256) 161=lead*256+161:=y2o _ _ (by omega) (by omega) (by omega) (by omega) (by omega);by_cases a:lead=161
 . subst a
   go_enter func394,ntmps394
   go_wp2
   go_ret2
   exact⟨y9p (by kernel_rfl),rfl⟩
 by_cases b:lead=162
 . subst b
   go_enter func394,ntmps394
   go_wp2
   go_ret2
   exact⟨y9p (by kernel_rfl),rfl⟩
 by_cases c:lead=166
 . subst c
   go_enter func394,ntmps394
   go_wp2
   go_ret2
   exact⟨y9p (by kernel_rfl),rfl⟩
 have hr:wRowL lead=⟨#[]⟩:=by unfold wRowL;rw[if_neg a,if_neg b,if_neg c]
 rw[hr];clear hr;have a':(lead==161)=false:=by simpa using a
 have b':(lead==162)=false:=by simpa using b
 have c':(lead==166)=false:=by simpa using c
 clear a b c
 go_enter func394,ntmps394
 go_wp2
 go_ret2
 exact⟨rfl,rfl⟩
def hexv(c:UInt8):Int:=Lib.indexByte [48,49,50,51,52,53,54,55,56,57,65,66,67,68,69,70] c
theorem y45(c:UInt8)(w:World):
 Calls prog 286 #[.string ⟨#[48,49,50,51,52,53,54,55,56,57,65,66,67,68,69,70]⟩,.int .u8 (c.toNat:Int)] w fun e w'=>e=.returned (.int .i64 (hexv c))/\w=w':=by
 refine(Tryz.strings_IndexByte _ _ w).mono fun e w' h=>?_
 refine⟨?_,h.2.symm⟩;rw[h.1];unfold hexv;simp
def hexAt(l:List UInt8)(k:Nat):Nat->Int
 | 0=>0
 | j+1=>hexAt l k j*16+hexv (l.getD (k*5+j) 0)
def y1i(l:List UInt8):Prop:=∀k j,k*5+j<l.length->j<4->0<=hexv (l.getD (k*5+j) 0)/\hexv (l.getD (k*5+j) 0)<=15
theorem y4c(l:List UInt8)(k j:Nat)(h:y1i l)(hk:k*5+j<=l.length)(hj:j<=4):0<=hexAt l k j/\hexAt l k j<16^j:=by
 induction j with
 | zero=>simp[hexAt]
 | succ j ih=>
  have h1:=ih (by omega) (by omega);have h2:=h k j (by omega) (by omega);have h3:(16:Int)^(j+1)=16^j*16:=by rw[Int.pow_succ]
  rw[hexAt,h3];generalize (16:Int)^j=q at *;omega
theorem yAG(x y:Int)(hx₀:0<=x)(hx:x%16=0)(hx₁:x<2147483648)(hy₀:0<=y)(hy:y<16):bits .or .i32 x y=x+y:=
 bits_join .i32 31 (by decide) wraps_i32 4 x y hx₀ hx hx₁ hy₀ hy (by omega)
theorem yIt(s:ByteArray)(k:Int)(w:World)(hs:s.size<=1000000)(hH:y1i (bl s))(H9 : -100000<=k)(Hb:k<=1000000):
 Calls prog 405 #[.string s,.int .i64 k] w fun e w'=>
  e=.returned (.tuple #[.int .i32 (if k<0\/((bl s).length/5:Nat)<=k then 0 else hexAt (bl s) k.toNat 4),.bool (!decide (k<0\/((bl s).length/5:Nat)<=k))])/\w=w':=by
 have hL:=zJ s;rw[hL];by_cases hb:k<0\/((s.size/5:Nat):Int)<=k
 . rw[if_pos hb,decide_eq_true hb]
   rcases hb with h|h
   . clear hL hH
     go_enter func405,ntmps405
     go_wp2
     go_ret2
     exact⟨rfl,rfl⟩
   . have hq:(s.size:Int)/5<=k:=by omega
     have h0:0<=k:=by omega
     clear hL hH h
     go_enter func405,ntmps405
     go_wp2
     go_ret2
     exact⟨rfl,rfl⟩
 . rw[if_neg hb,decide_eq_false hb]
   obtain⟨k,rfl⟩:=Int.eq_ofNat_of_zero_le (show 0<=k from by omega);have hq:(k:Int)<(s.size:Int)/5:=by omega
   rw[Int.toNat_natCast];have HH:=z7 hH;have HL:=z7 hL;clear hH hb H9 hL
   go_enter func405,ntmps405
   go_wp2
   go_loop [6,7] (fun p i=>∃j:Nat,j<=4/\i=.int .i64 ((k:Int)*5+j)/\p=.int .i32 (hexAt (bl s) k j)) (fun _ i=>(k*5+4-intOf i).toNat)
   case atStart=>exact⟨0,by omega,by simp,rfl⟩
   case round=>
    obtain⟨j,hj,rfl,rfl⟩:=hrel;by_cases H8:j<4
    . have H6:k*5+j<s.size:=by omega
      obtain⟨h0,h1⟩:=y4c (bl s) k j HH.out (by rw[HL.out];omega) hj;have h2:(16:Int)^j<=4096:=by
       match j,H8 with
       | 0,_=>decide
       | 1,_=>decide
       | 2,_=>decide
       | 3,_=>decide
      have h3:hexAt (bl s) k j<4096:=by omega
      obtain⟨d0,d1⟩:=HH.out k j (by rw[HL.out];omega) H8;have H7:hexAt (bl s) k (j+1)=hexAt (bl s) k j*16+hexv ((bl s).getD (k*5+j) 0):=rfl;have hx:AtB s (k*5+j) ((bl s).getD (k*5+j) 0):=by
       apply zS;have H5:k*5+j<(bl s).length:=by rw[HL.out];exact H6
       rw[List.getD_eq_getElem?_getD,List.getElem?_eq_getElem H5];rfl
      generalize (bl s).getD (k*5+j) 0=c at *;have c1:=fun w=>y45 c w
      have X:∀h,s[k*5+j]'h=c:=hx;generalize hexAt (bl s) k j=p at *;generalize hexv c=d at *;have e1:bits .or .i32 (p*16) d=p*16+d:=yAG _ _ (by omega) (by omega) (by omega) (by omega) (by omega);have C1:=z7 c1;have HS:=z7 H7;have HX:=z7 hx;clear c1 H7 h1 h2 hx
      go_wp2_with (go_at_call 286;with_reducible refine(C1.out _).mono ?_;rintro e w' ⟨rfl,rfl⟩)
      go_round
      case rel=>exact⟨j+1,by omega,by go_num,by rw[HS.out]⟩
      case measure=>simp[intOf];omega
    . have Ha:j=4:=by omega
      subst Ha;go_wp2;go_ret2
      exact⟨rfl,rfl⟩
def wSpans:List (Int×Int×Int):=
 [(41889,65281,59),(41948,65510,1),(41949,65341,33),(41982,65507,1),(42145,12593,94),(42401,8560,10),(42416,8544,10),(42433,913,17),(42450,931,7),(42465,945,17),
  (42482,963,7),(43681,12353,83),(43937,12449,86),(44193,1040,6),(44199,1025,1),(44200,1046,26),(44241,1072,6),(44247,1105,1),(44248,1078,26)]
def spanCells(l:List (Int×Int×Int)):List Value:=l.flatMap fun s=>[.int .i64 s.1,.int .i32 s.2.1,.int .i64 s.2.2]
theorem spanCells_at(l:List (Int×Int×Int))(i:Nat)(s:Int×Int×Int)(h:l[i]?=some s):
 (spanCells l)[i*3]?=some (.int .i64 s.1)/\(spanCells l)[i*3+1]?=some (.int .i32 s.2.1)/\(spanCells l)[i*3+2]?=some (.int .i64 s.2.2):=by
 induction l generalizing i with
 | nil=>simp at h
 | cons a l ih=>
  cases i with
  | zero=>simp at h;subst h;exact⟨rfl,rfl,rfl⟩
  | succ i=>
   have:=ih i (by simpa using h);have e:spanCells (a::l)=.int .i64 a.1::.int .i32 a.2.1::.int .i64 a.2.2::spanCells l:=rfl;rw[e,show(i+1)*3=i*3+1+1+1 from by omega];simpa using this
theorem yC2(w:World):
 Calls prog 396 #[] w fun e w'=>e=.returned (.slice (some ⟨w.heap.size,0,none⟩) 19 19)/\Below w.heap.size w w' /\
  ∀i s,wSpans[i]?=some s->w'.cell? ⟨w.heap.size,i*3,none⟩=some (.int .i64 s.1)/\w'.cell? ⟨w.heap.size,i*3+1,none⟩=some (.int .i32 s.2.1)/\w'.cell? ⟨w.heap.size,i*3+2,none⟩=some (.int .i64 s.2.2):=by
 go_enter func396,ntmps396
 go_wp2
 go_ret
 refine⟨rfl,(z8).alloc (zA) _,?_⟩;intro i s hs;obtain⟨e1,e2,e3⟩:=spanCells_at wSpans i s hs;change (w.alloc (.cells (spanCells wSpans).toArray 398)).cell? _=_/\(w.alloc (.cells (spanCells wSpans).toArray 398)).cell? _=_/\(w.alloc (.cells (spanCells wSpans).toArray 398)).cell? _=_;rw[World.cell?_alloc_new,World.cell?_alloc_new,World.cell?_alloc_new,List.getElem?_toArray,List.getElem?_toArray,List.getElem?_toArray];exact⟨e1,e2,e3⟩
def y8p(code:Int)(s:Int×Int×Int):Bool:=decide (s.1<=code/\code<s.1+s.2.2)
def atM(l:List UInt8)(k:Int):Int×Bool:=(if k<0\/(l.length/5:Nat)<=k then 0 else hexAt l k.toNat 4,!decide (k<0\/(l.length/5:Nat)<=k))
def yAz(code:Int):Option (Int×Int×Int)->Int×Bool
 | some s=>(s.2.1+(code-s.1),true)
 | none=>(0,false)
def otherM(code:Int):Int×Bool:=if code%256<161\/254<code%256 then(0,false)
 else if bl (wRowL (code/256)) ≠ []then atM (bl (wRowL (code/256))) (code-(code/256*256+161))
 else yAz code (wSpans.find? (y8p code))
theorem yDW:∀s∈wSpans,0<=s.1/\s.1<65536/\0<=s.2.1/\s.2.1<65536/\0<=s.2.2/\s.2.2<=100:=by decide
theorem y1B:wSpans.length=19:=rfl
def hexListB(l:List UInt8):Bool:=(List.range (l.length/5+1)).all fun k=>(List.range 4).all fun j=>decide (l.length<=k*5+j) || (decide (0<=hexv (l.getD (k*5+j) 0))&&decide (hexv (l.getD (k*5+j) 0)<=15))
theorem y3g(l:List UInt8)(h:hexListB l=true):y1i l:=by
 intro k j hk hj;unfold hexListB at h;rw[List.all_eq_true]at h;have h1:=h k (by rw[List.mem_range];omega);rw[List.all_eq_true]at h1;have h2:=h1 j (by rw[List.mem_range];exact hj);simp only[Bool.or_eq_true,decide_eq_true_eq,Bool.and_eq_true]at h2;rcases h2 with h2|h2
 . omega
 . exact h2
theorem yGi:hexListB (bl (wRow 4))=true/\hexListB (bl (wRow 6))=true/\hexListB (bl (wRow 8))=true:=by
 refine⟨?_,?_,?_⟩<;>decide +kernel
theorem yDY(lead:Int):y1i (bl (wRowL lead))/\(wRowL lead).size<=470:=by
 obtain⟨a,b,c⟩:=yGi;obtain⟨a',b',c'⟩:=yDX;unfold wRowL;split
 . exact⟨y3g _ a,by omega⟩
 split
 . exact⟨y3g _ b,by omega⟩
 split
 . exact⟨y3g _ c,by omega⟩
 . exact⟨fun k j h _=>by simp[bl]at h,by decide⟩
theorem yEh(code:Int)(w:World)(h0:0<=code)(h1:code<65536):
 Calls prog 392 #[.int .i64 code] w fun e w'=>e=.returned (.tuple #[.int .i32 (otherM code).1,.bool (otherM code).2])/\Below w.heap.size w w':=by
 have e1:bits .and .i64 code 255=code%256:=yCw _ (by omega) (by omega);have hm:otherM code=if code%256<161\/254<code%256 then(0,false)
  else if bl (wRowL (code/256)) ≠ []then atM (bl (wRowL (code/256))) (code-(code/256*256+161))else yAz code (wSpans.find? (y8p code)):=rfl
 by_cases hr:code%256<161\/254<code%256
 . rw[if_pos hr]at hm
   rw[hm];rcases hr with h|h
   all_goals (
    clear hm
    go_enter func392,ntmps392
    go_wp2_with fail
    go_ret2
    exact⟨rfl,z8⟩)
 . rw[if_neg hr]at hm
   obtain⟨r0,r1⟩:161<=code%256/\code%256<=254:=by omega
   clear hr;have c1:=fun w=>yCo (code/256) w (by omega) (by omega)
   obtain⟨hH,hS⟩:=yDY (code/256);by_cases he:bl (wRowL (code/256)) = []
   . rw[if_neg (by simp[he])]at hm
     have hE:wRowL (code/256)=⟨#[]⟩:=by rw[<-y1Z (wRowL (code/256))];unfold bl at he;rw[he]
     rw[hE]at c1;clear he hH hS hE;have C1:=z7 c1;have HM:=z7 hm;clear c1 hm
     go_enter func392,ntmps392
     go_wp2_with fail
     with_reducible refine(C1.out _).mono ?_
     rintro e w' ⟨rfl,rfl⟩
     go_wp2_with fail
     refine(yC2 w).mono ?_;rintro e W ⟨rfl,hb,H9⟩;have HC:=z7 H9;clear H9
     go_wp2_with fail
     go_loopw [33] (fun t wr=>∃i:Nat,t=.int .i64 (i:Int)/\i<=19/\Hid (wSpans.find? (y8p code)=(wSpans.drop i).find? (y8p code))/\Below W.heap.size W wr) (fun t _=>(19-intOf t).toNat)
     case atStart=>exact⟨0,rfl,by omega,rfl,z8⟩
     case round=>
      obtain⟨i,rfl,hi,hf,H7⟩:=hrel;have He:=hb.trans (H7.mono hb.size);by_cases Hb:i<19
      . have Ha:wSpans[i]?=some (wSpans[i]'(by rw[y1B];exact Hb)):=List.getElem?_eq_getElem _
        have H8:wSpans.drop i=wSpans[i]'(by rw[y1B];exact Hb)::wSpans.drop (i+1):=List.drop_eq_getElem_cons _;have Hf:=yDW _ (List.getElem_mem (by rw[y1B];exact Hb));generalize wSpans[i]'(by rw[y1B];exact Hb)=s at *;obtain⟨y1,y2,y3⟩:=HC.out i s Ha;obtain⟨a,b,c⟩:=s;simp only at y1 y2 y3 Hf;obtain⟨b1,b2,b3,b4,b5,b6⟩:=Hf;have z1:=kc H7 y1;have z2:=kc H7 y2;have z3:=kc H7 y3;have H6:=hf.out;rw[H8,List.find?_cons]at H6;have Hc:y8p code (a,b,c)=decide (a<=code/\code<a+c):=rfl;by_cases ha:a<=code/\code<a+c
        . rw[Hc,decide_eq_true ha]at H6
          simp only at H6;have H5:=HM.out;rw[H6]at H5;have HR:=z7 H5;obtain⟨Hj,Hi⟩:=ha;clear Ha H8 H6 H5 Hc y1 y2 y3
          go_wp2_with fail
          go_ret2
          exact⟨by rw[HR.out];rfl,He.alloc (by have:=He.size;omega) _⟩
        . rw[Hc,decide_eq_false ha]at H6
          simp only at H6;have HF:=z7 H6;clear Ha H8 H6 Hc y1 y2 y3;rcases(show code<a\/(a<=code/\a+c<=code) from by omega)with Hh|⟨Hh,Hg⟩
          all_goals (
           clear ha
           go_wp2_with fail
           go_roundw
           case rel=>exact⟨i+1,by go_num,by omega,HF.out,H7.alloc H7.size _⟩
           case measure=>simp[intOf];omega)
      . have Hd:i=19:=by omega
        subst Hd;have H6:=hf.out;rw[List.drop_of_length_le (by rw[y1B];exact zA),List.find?_nil]at H6;have H5:=HM.out;rw[H6]at H5;have HR:=z7 H5;clear H6 H5
        go_wp2_with fail
        go_ret2
        exact⟨by rw[HR.out];rfl,He⟩
   . rw[if_pos he]at hm
     have c2:=fun w=>yIt (wRowL (code/256)) (code-(code/256*256+161)) w (by omega) hH (by omega) (by omega)
     have hA:atM (bl (wRowL (code/256))) (code-(code/256*256+161))=(if(code-(code/256*256+161))<0\/((bl (wRowL (code/256))).length/5:Nat)<=(code-(code/256*256+161))then 0 else hexAt (bl (wRowL (code/256))) (code-(code/256*256+161)).toNat 4,!decide ((code-(code/256*256+161))<0\/((bl (wRowL (code/256))).length/5:Nat)<=(code-(code/256*256+161)))):=rfl;have c3:∀w,Calls prog 405 #[.string (wRowL (code/256)),.int .i64 (code-(code/256*256+161))] w fun e w'=>e=.returned (.tuple #[.int .i32 (otherM code).1,.bool (otherM code).2])/\w=w':=by
      intro w;rw[hm,hA];exact c2 w
     have hL:(wRowL (code/256)).toList.isEmpty=false:=by
      rw[Lib.toList_data];cases hq:(wRowL (code/256)).data.toList with
      | nil=>exact absurd hq he
      | cons a l=>rfl
     generalize otherM code=r at *;generalize wRowL (code/256)=L at *;have C1:=z7 c1;have C3:=z7 c3;clear c1 c2 c3 hA hm he hH hS
     go_enter func392,ntmps392
     go_wp2_with fail
     with_reducible refine(C1.out _).mono ?_
     rintro e w' ⟨rfl,rfl⟩
     go_wp2_with fail
     with_reducible refine(C3.out _).mono ?_
     rintro e w' ⟨rfl,rfl⟩
     go_wp2_with fail
     go_ret2
     exact⟨rfl,z8⟩
def rowM(f s:Int):Int×Bool:=if 94<=s then(0,false)else if(chooseM (f*94+s-1410) true).2 then(chooseM (f*94+s-1410) true).1 |> (·,true)
 else otherM ((f+161)*256+(s+161))
def wSignM(lead s:Int):Int×Bool:=
 if lead<129\/254<lead then(0,false)
 else if 161<=lead/\161<=s then rowM (lead-161) (s-161)
 else if numberM s<0 then(0,false)
 else if lead<161 then chooseM ((lead-129)*178+numberM s) false
 else chooseM (5696+(lead-161)*84+numberM s) false
theorem yJK(f s:Int)(w:World)(hT:TW w)(h0:0<=f)(h1:f<=93)(h2:0<=s)(h3:s<=94):
 Calls prog 351 #[.int .i64 f,.int .i64 s] w fun e w'=>e=.returned (.tuple #[.int .i32 (rowM f s).1,.bool (rowM f s).2])/\Below w.heap.size w w':=by
 have hm:rowM f s=if 94<=s then(0,false)else if(chooseM (f*94+s-1410) true).2 then((chooseM (f*94+s-1410) true).1,true)else otherM ((f+161)*256+(s+161)):=rfl
 by_cases hs:94<=s
 . rw[if_pos hs]at hm
   rw[hm];clear hm
   go_enter func351,ntmps351
   go_wp2_with fail
   go_ret2
   exact⟨rfl,z8⟩
 . rw[if_neg hs]at hm
   have c1:=yEX (f*94+s-1410) w hT (by omega);have e1:bits .or .i64 ((f+161)*256) (s+161)=(f+161)*256+(s+161):=y2o _ _ (by omega) (by omega) (by omega) (by omega) (by omega);have c2:=fun w=>yEh ((f+161)*256+(s+161)) w (by omega) (by omega)
   rcases hc:chooseM (f*94+s-1410) true with⟨p,ok⟩
   rw[hc]at hm c1;simp only at hm c1;generalize otherM ((f+161)*256+(s+161))=o at *;have C1:=z7 c1;have C2:=z7 c2;clear c1 c2 hc;cases ok
   . simp only[Bool.false_eq_true,if_false]at hm
     rw[hm];clear hm
     go_enter func351,ntmps351
     go_wp2_with fail
     with_reducible refine C1.out.mono ?_
     rintro e w1 ⟨rfl,H5⟩
     go_wp2_with fail
     with_reducible refine(C2.out _).mono ?_
     rintro e w2 ⟨rfl,H6⟩
     go_wp2_with fail
     go_ret2
     exact⟨rfl,bt H5 H6⟩
   . simp only[if_true]at hm
     rw[hm];clear hm
     go_enter func351,ntmps351
     go_wp2_with fail
     with_reducible refine C1.out.mono ?_
     rintro e w1 ⟨rfl,H5⟩
     go_wp2_with fail
     go_ret2
     exact⟨rfl,H5⟩
theorem yCg(s:Int) : -1<=numberM s/\numberM s<=177:=by unfold numberM;omega
theorem y68(l s:Int)(w:World)(hT:TW w)(h0:0<=l)(h1:l<=255)(h2:0<=s)(h3:s<=255):
 Calls prog 301 #[.int .u8 l,.int .u8 s] w fun e w'=>e=.returned (.tuple #[.int .i32 (wSignM l s).1,.bool (wSignM l s).2])/\Below w.heap.size w w':=by
 have hm:wSignM l s=if l<129\/254<l then(0,false)else if 161<=l/\161<=s then rowM (l-161) (s-161)else if numberM s<0 then(0,false)
  else if l<161 then chooseM ((l-129)*178+numberM s) false else chooseM (5696+(l-161)*84+numberM s) false:=rfl
 have c0:=fun w=>yCf s w h2 h3
 obtain⟨n0,n1⟩:=yCg s;have c1:=fun w hT (a:161<=l) (b:l<=254) (c:161<=s)=>yJK (l-161) (s-161) w hT (by omega) (by omega) (by omega) (by omega)
 have c2:=fun w hT (a:l<161)=>y8t ((l-129)*178+numberM s) w hT (by omega)
 have c3:=fun w hT=>y8t (5696+(l-161)*84+numberM s) w hT (by omega)
 generalize rowM (l-161) (s-161)=r1 at *;generalize chooseM ((l-129)*178+numberM s) false=r2 at *;generalize chooseM (5696+(l-161)*84+numberM s) false=r3 at *;generalize numberM s=n at *;generalize wSignM l s=R at *;have C0:=z7 c0;have C1:=z7 c1;have C2:=z7 c2;have C3:=z7 c3;have HM:=z7 hm;have HT:=z7 hT;clear c0 c1 c2 c3 hm hT;rcases(show l<129\/254<l\/(129<=l/\l<=254) from by omega)with a|a|⟨a,b⟩
 . go_enter func301,ntmps301
   go_wp2_with (go_at_call 350;with_reducible refine(C0.out _).mono ?_;rintro e w1 ⟨rfl,rfl⟩)
   go_ret2
   exact⟨by rw[HM.out,if_pos (Or.inl a)];rfl,z8⟩
 . have a':129<=l:=by omega
   go_enter func301,ntmps301
   go_wp2_with (go_at_call 350;with_reducible refine(C0.out _).mono ?_;rintro e w1 ⟨rfl,rfl⟩)
   go_ret2
   exact⟨by rw[HM.out,if_pos (Or.inr a)];rfl,z8⟩
 . by_cases hr:161<=l/\161<=s
   . obtain⟨c,d⟩:=hr
     have HR:Hid (R=r1):=by show R=r1;rw[HM.out,if_neg (by omega),if_pos ⟨c,d⟩]
     go_enter func301,ntmps301
     go_wp2_with (first
      | (go_at_call 350;with_reducible refine(C0.out _).mono ?_;rintro e w1 ⟨rfl,rfl⟩)
      | (go_at_call 351;with_reducible refine(C1.out _ HT.out c b d).mono ?_;rintro e w1 ⟨rfl,H5⟩))
     go_ret2
     exact⟨by rw[HR.out];rfl,H5⟩
   . by_cases hn:n<0
     . have HR:Hid (R=(0,false)):=by show R=_;rw[HM.out,if_neg (by omega),if_neg hr,if_pos hn]
       rcases(show l<161\/(161<=l/\s<161) from by omega)with c|⟨c,d⟩
       all_goals (
        clear hr
        go_enter func301,ntmps301
        go_wp2_with (go_at_call 350;with_reducible refine(C0.out _).mono ?_;rintro e w1 ⟨rfl,rfl⟩)
        go_ret2
        exact⟨by rw[HR.out];rfl,z8⟩)
     . by_cases c:l<161
       . have HR:Hid (R=r2):=by show R=_;rw[HM.out,if_neg (by omega),if_neg hr,if_neg hn,if_pos c]
         clear hr
         go_enter func301,ntmps301
         go_wp2_with (first
          | (go_at_call 350;with_reducible refine(C0.out _).mono ?_;rintro e w1 ⟨rfl,rfl⟩)
          | (go_at_call 352;with_reducible refine(C2.out _ HT.out c).mono ?_;rintro e w1 ⟨rfl,H5⟩))
         go_ret2
         exact⟨by rw[HR.out];rfl,H5⟩
       . have HR:Hid (R=r3):=by show R=_;rw[HM.out,if_neg (by omega),if_neg hr,if_neg hn,if_neg c]
         have d:s<161:=by omega
         clear hr
         go_enter func301,ntmps301
         go_wp2_with (first
          | (go_at_call 350;with_reducible refine(C0.out _).mono ?_;rintro e w1 ⟨rfl,rfl⟩)
          | (go_at_call 352;with_reducible refine(C3.out _ HT.out).mono ?_;rintro e w1 ⟨rfl,H5⟩))
         go_ret2
         exact⟨by rw[HR.out];rfl,H5⟩
theorem yCZ:∀i:Fin 256,∀j:Fin 9,i.val<2^j.val->pop8 i.val<=j.val:=by decide +kernel
theorem y7N(i j:Nat)(hj:j<=8)(h:i<2^j):pop8 i<=j:=by
 have h8:(2:Nat)^j<=2^8:=Nat.pow_le_pow_right (by decide) hj;exact yCZ ⟨i,by omega⟩ ⟨j,by omega⟩ h
theorem y5A:pop8 0=0:=by decide
theorem yBD(n e:Nat)(he:e<=28)(h:n<2^e):pop32 n<=e:=by
 unfold pop32;have q2:=y0p (n/65536%256);have q3:=y0p (n/256%256);have q4:=y0p (n%256);by_cases c1:e<=8
 . have h8:(2:Nat)^e<=2^8:=Nat.pow_le_pow_right (by decide) c1
   have:=y7N (n%256) e c1 (by omega);rw[show n/16777216=0 from by omega,show n/65536%256=0 from by omega,show n/256%256=0 from by omega,y5A];omega
 by_cases c2:e<=16
 . have h8:(2:Nat)^e<=2^16:=Nat.pow_le_pow_right (by decide) c2
   have hp:(2:Nat)^e=2^(e-8)*2^8:=by rw[<-Nat.pow_add];congr 1;omega
   have:=y7N (n/256%256) (e-8) (by omega) (by rw[hp]at h;omega);rw[show n/16777216=0 from by omega,show n/65536%256=0 from by omega,y5A];omega
 by_cases c3:e<=24
 . have h8:(2:Nat)^e<=2^24:=Nat.pow_le_pow_right (by decide) c3
   have hp:(2:Nat)^e=2^(e-16)*2^16:=by rw[<-Nat.pow_add];congr 1;omega
   have:=y7N (n/65536%256) (e-16) (by omega) (by rw[hp]at h;omega);rw[show n/16777216=0 from by omega,y5A];omega
 . have hp:(2:Nat)^e=2^(e-24)*2^24:=by rw[<-Nat.pow_add];congr 1;omega
   have:=y7N (n/16777216) (e-24) (by omega) (by rw[hp]at h;omega);omega
theorem y9w(g:Nat)(hg:g<=399):popSum g<=28*g:=by
 induction g with
 | zero=>simp[popSum]
 | succ g ih=>
  have h1:=ih (by omega);obtain⟨a,b⟩:=y6W g (by omega);have:=yBD (grp g).toNat 28 (by omega) (by omega);rw[popSum];omega
theorem yDc(i:Nat)(hi:i<=32)(x:Int)(h₀:0<=x)(h₁:x<4294967296):bits .and .u32 x (2^i-1)=x%2^i:=bits_mask .u32 32 (by decide) wraps_u32 i hi x h₀ h₁
theorem yCl(n p:Int)(h0:0<=n)(h1:n<4294967296)(hp:44032<=p):0<=lowBits n p/\pop32 (lowBits n p).toNat<=((p-44032)%28).toNat:=by
 obtain⟨e,he⟩:∃e,e=((p-44032)%28).toNat:=⟨_,rfl⟩;have H6:e<=27:=by omega
 have H7:(1:Int)<=2^e/\(2:Int)^e<=134217728:=by
  have a:(2:Nat)^e<=2^27:=Nat.pow_le_pow_right (by decide) H6;have b:0<(2:Nat)^e:=Nat.two_pow_pos e;have c:((2:Int)^e)=((2^e:Nat):Int):=by simp
  omega
 have hl:lowBits n p=n%2^e:=by
  unfold lowBits;rw[<-he,show((2:Int)^e-1)%4294967296=2^e-1 from by omega];exact yDc e (by omega) n h0 h1
 have H5:(0:Int)<2^e:=by omega
 have h2:=Int.emod_nonneg n (show(2:Int)^e≠0 from by omega);have h3:=Int.emod_lt_of_pos n H5;rw[hl];refine⟨h2,?_⟩;rw[<-he];refine yBD _ e (by omega) ?_;have c:((2:Int)^e)=((2^e:Nat):Int):=by simp
 omega
theorem yHG(p:Int)(h0:44032<=p)(h1:p<=55203):0<=rankM p/\rankM p<=11199:=by
 have hg:((p-44032)/28).toNat<399:=by omega
 obtain⟨a,b⟩:=y6W _ hg;obtain⟨c,d⟩:=yCl (grp ((p-44032)/28).toNat) p a (by omega) h0;have e:=y9w ((p-44032)/28).toNat (by omega);unfold rankM y1X;split<;>omega
def wCode(p:Int):Int:=if rankIn p then(161+(rankM p+1410)/94)*256+(161+(rankM p+1410)%94)
 else if rankM p<5696 then(129+rankM p/178)*256+secondM (rankM p%178)
 else(161+(rankM p-5696)/84)*256+secondM ((rankM p-5696)%84)
theorem y6H(n:Int)(h0:0<=n)(h1:n<=177):65<=secondM n/\secondM n<=254:=by unfold secondM;omega
theorem yC7(p:Int)(w:World)(H9:44032<=p)(H8:p<=55203):
 Calls prog 302 #[.int .i32 p] w fun e w'=>e=.returned (.tuple #[.string ⟨(bigL (wCode p) 2).toArray⟩,.bool true])/\Below w.heap.size w w':=by
 have c1:=fun w=>yB9 p w H9 H8
 obtain⟨r0,r1⟩:=yHG p H9 H8;have hm:wCode p=if rankIn p then(161+(rankM p+1410)/94)*256+(161+(rankM p+1410)%94)else if rankM p<5696 then(129+rankM p/178)*256+secondM (rankM p%178)
  else(161+(rankM p-5696)/84)*256+secondM ((rankM p-5696)%84):=rfl
 have H7:widthOf 2=2:=by decide
 rw[hm];clear hm;generalize rankIn p=i at *;generalize rankM p=k at *;have C1:=z7 c1;have HW:=z7 H7;clear c1 H7;cases i
 . simp only[Bool.false_eq_true,if_false]
   by_cases hk:k<5696
   . rw[if_pos hk]
     have c2:=fun w=>y6G (k%178) w (by omega) (by omega)
     obtain⟨s0,s1⟩:=y6H (k%178) (by omega) (by omega);generalize secondM (k%178)=s at *;have e1:bits .or .i64 ((129+k/178)*256) s=(129+k/178)*256+s:=y2o _ _ (by omega) (by omega) (by omega) (by omega) (by omega);have C2:=z7 c2;clear c2
     go_enter func302,ntmps302
     go_wp2_with (first
      | (go_at_call 340;with_reducible refine(C1.out _).mono ?_;rintro e w1 ⟨rfl,H6⟩)
      | (go_at_call 353;with_reducible refine(C2.out _).mono ?_;rintro e w1 ⟨rfl,rfl⟩)
      | (go_at_call 115;with_reducible refine(y2D _ _ _ (by omega) (by omega)).mono ?_;rintro e w2 ⟨rfl,H5⟩))
     rw[HW.out];go_ret2
     exact⟨rfl,bt H6 H5⟩
   . rw[if_neg hk]
     have c2:=fun w=>y6G ((k-5696)%84) w (by omega) (by omega)
     obtain⟨s0,s1⟩:=y6H ((k-5696)%84) (by omega) (by omega);generalize secondM ((k-5696)%84)=s at *;have e1:bits .or .i64 ((161+(k-5696)/84)*256) s=(161+(k-5696)/84)*256+s:=y2o _ _ (by omega) (by omega) (by omega) (by omega) (by omega);have C2:=z7 c2;clear c2
     go_enter func302,ntmps302
     go_wp2_with (first
      | (go_at_call 340;with_reducible refine(C1.out _).mono ?_;rintro e w1 ⟨rfl,H6⟩)
      | (go_at_call 353;with_reducible refine(C2.out _).mono ?_;rintro e w1 ⟨rfl,rfl⟩)
      | (go_at_call 115;with_reducible refine(y2D _ _ _ (by omega) (by omega)).mono ?_;rintro e w2 ⟨rfl,H5⟩))
     rw[HW.out];go_ret2
     exact⟨rfl,bt H6 H5⟩
 . simp only[if_true]
   have e1:bits .or .i64 ((161+(k+1410)/94)*256) (161+(k+1410)%94)=(161+(k+1410)/94)*256+(161+(k+1410)%94):=y2o _ _ (by omega) (by omega) (by omega) (by omega) (by omega)
   go_enter func302,ntmps302
   go_wp2_with (first
    | (go_at_call 340;with_reducible refine(C1.out _).mono ?_;rintro e w1 ⟨rfl,H6⟩)
    | (go_at_call 115;with_reducible refine(y2D _ _ _ (by omega) (by omega)).mono ?_;rintro e w2 ⟨rfl,H5⟩))
   rw[HW.out];go_ret2
   exact⟨rfl,bt H6 H5⟩
def pop4(d:Nat):Nat:=d%2+d/2%2+d/4%2+d/8%2
theorem yHM:∀a:Fin 16,∀b:Fin 16,pop8 (a.val*16+b.val)=pop4 a.val+pop4 b.val:=by decide +kernel
theorem y7M(a b:Nat)(ha:a<16)(hb:b<16):pop8 (a*16+b)=pop4 a+pop4 b:=yHM ⟨a,ha⟩ ⟨b,hb⟩
theorem yHN:∀a:Fin 16,pop8 a.val=pop4 a.val:=by decide +kernel
theorem yEW(a b c d e f g:Nat)(h0:a<16)(h1:b<16)(h2:c<16)(h3:d<16)(h4:e<16)(h5:f<16)(h6:g<16):
 pop32 ((((((a*16+b)*16+c)*16+d)*16+e)*16+f)*16+g)=pop4 a+pop4 b+pop4 c+pop4 d+pop4 e+pop4 f+pop4 g:=by
 generalize hn:(((((a*16+b)*16+c)*16+d)*16+e)*16+f)*16+g=n;unfold pop32;rw[show n/16777216=a from by omega,show n/65536%256=b*16+c from by omega,show n/256%256=d*16+e from by omega,show n%256=f*16+g from by omega];rw[y7M _ _ h1 h2,y7M _ _ h3 h4,y7M _ _ h5 h6,show pop8 a=pop4 a from yHN ⟨a,h0⟩];omega
def nib(i:Nat):Nat:=(dig (memAt i).toNat).toNat
theorem y5M(i:Nat)(h:i<2793):nib i<16:=by have:=yBs i h;unfold nib;omega
theorem y2m(i:Nat)(h:i<2793):dig (memAt i).toNat=(nib i:Int):=by have:=yBs i h;unfold nib;omega
theorem yJO(g:Nat)(hg:g<399):pop32 (grp g).toNat=pop4 (nib (g*7))+pop4 (nib (g*7+1))+pop4 (nib (g*7+2))+pop4 (nib (g*7+3))+pop4 (nib (g*7+4))+pop4 (nib (g*7+5))+pop4 (nib (g*7+6)):=by
 rw[<-yEW _ _ _ _ _ _ _ (y5M _ (by omega)) (y5M _ (by omega)) (y5M _ (by omega)) (y5M _ (by omega)) (y5M _ (by omega)) (y5M _ (by omega)) (y5M _ (by omega))]
 congr 1
 unfold grp;simp only[grpF];rw[y2m _ (by omega),y2m _ (by omega),y2m _ (by omega),y2m _ (by omega),y2m _ (by omega),y2m _ (by omega),y2m _ (by omega)];simp only[Nat.add_zero];omega
def nibs:Nat->Nat
 | 0=>0
 | i+1=>nibs i+pop4 (nib i)
theorem y9v(g:Nat)(hg:g<=399):popSum g=nibs (g*7):=by
 induction g with
 | zero=>rfl
 | succ g ih=>
  rw[popSum,ih (by omega),yJO g (by omega)];rw[show(g+1)*7=g*7+6+1 from by omega];simp only[nibs];omega
def sumL:List UInt8->Nat->Nat
 | [],a=>a
 | b::l,a=>sumL l (a+pop4 (dig (b.toNat:Int)).toNat)
theorem yAy(l:List UInt8)(a:Nat):sumL l a=a+sumL l 0:=by
 induction l generalizing a with
 | nil=>rfl
 | cons b l ih=>rw[sumL,sumL,ih,ih (0+_)];omega
theorem yGy(l:List UInt8)(b:UInt8):sumL (l ++ [b]) 0=sumL l 0+pop4 (dig (b.toNat:Int)).toNat:=by
 induction l with
 | nil=>simp[sumL]
 | cons c l ih=>rw[List.cons_append,sumL,sumL,yAy,ih,yAy l (0+_)];omega
theorem yHd(n:Nat)(h:n<=2793):nibs n=sumL ((bl membersB).take n) 0:=by
 induction n with
 | zero=>rfl
 | succ n ih=>
  rw[nibs,ih (by omega),List.take_add_one,y3a n (by omega),Option.toList,yGy];rfl
theorem yJ1:sumL ((bl membersB).take 2786) 0=2342:=by decide +kernel
theorem yCY:popSum 398=2342:=by rw[y9v 398 (by omega),yHd _ (by omega)];exact yJ1
theorem yHp:pop32 (lowBits (grp 398) 55203).toNat=8:=by decide +kernel
theorem yFO:rankIn 55203=false:=by decide +kernel
theorem yFN:rankM 55203=8821:=by
 have e:y1X 55203=(popSum 398+pop32 (lowBits (grp 398) 55203).toNat:Nat):=by
  have h:((55203-44032:Int)/28).toNat=398:=by decide +kernel
  unfold y1X;rw[h]
 unfold rankM;rw[yFO,e,yCY,yHp];decide +kernel
theorem yC5:bigL (wCode 55203) 2 = [198,82]:=by
 have e:wCode 55203=(161+(8821-5696)/84)*256+secondM ((8821-5696)%84):=by
  unfold wCode;rw[yFO,yFN,if_neg (by decide),if_neg (by omega)]
 rw[e];decide +kernel
theorem yIq:wSignM 176 162=(44033,true):=by decide +kernel
theorem yIr:wSignM 176 161=(44032,true):=by decide +kernel
theorem y5m(w:World)(hT:TW w):Calls prog 213 #[] w fun e w'=>e=.returned (.bool true)/\Below w.heap.size w w':=by
 have k1:=y68 176 162 w hT (by omega) (by omega) (by omega) (by omega);have k2:=fun w=>yC7 55203 w (by omega) (by omega)
 rw[yIq]at k1;rw[yC5]at k2;have K1:=z7 k1;have K2:=z7 k2;clear k1 k2
 go_enter func213,ntmps213
 go_wp2_with (first
  | (go_at_call 301;refine K1.out.mono ?_;rintro e w1 ⟨rfl,H6⟩)
  | (go_at_call 302;refine(K2.out _).mono ?_;rintro e w2 ⟨rfl,H5⟩))
 go_ret
 exact⟨rfl,bt H6 H5⟩
