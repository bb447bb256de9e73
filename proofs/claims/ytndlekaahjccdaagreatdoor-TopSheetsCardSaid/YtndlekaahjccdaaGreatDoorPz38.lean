/- Pz38 -/
import Derived.Test.YtndlekaahjccdaaGreatDoorPz37
set_option linter.all false
set_option maxRecDepth 100000
set_option maxHeartbeats 40000000
namespace Go.Proofs.YtndlekaahjccdaaGreatDoor
open Go Go.Rf Go.RowKit Go.Proofs.Tryz
theorem y7K(k:Nat)(H8:4<=k)(H7:k<8)(b:ByteArray)(w:World)(hG:GW w)(hs:b.size<=1000):Calls prog 7 #[.int .i64 (k:Int),.string b] w (RefR (txM k b) w):=by
 obtain⟨R,hR⟩:∃R,R=txM k b:=⟨_,rfl⟩;rw[<-hR];unfold txM at hR;rcases(by omega:k=4\/k=5\/k=6\/k=7)with rfl|rfl|rfl|rfl
 . have K:=y9r b w hG hs
   rw[show cueM b=R from hR.symm]at K;have K:=z7 K;clear hR hG
   go_enter func7,ntmps7
   go_wp2_with (go_at_call 15;(with_reducible refine(K.out).mono ?_);rintro e w1 ⟨H6,(⟨a,ha,rfl⟩|⟨l,v,hl,rfl,H5⟩)⟩)
   . go_ret2
     exact⟨H6,.inl ⟨a,ha,rfl⟩⟩
   . go_ret2
     exact⟨H6,.inr ⟨l,v,hl,rfl,H5⟩⟩
 . have K:=y9j b w hG hs
   rw[show srtM b=R from hR.symm]at K;have K:=z7 K;clear hR hG
   go_enter func7,ntmps7
   go_wp2_with (go_at_call 16;(with_reducible refine(K.out).mono ?_);rintro e w1 ⟨H6,(⟨a,ha,rfl⟩|⟨l,v,hl,rfl,H5⟩)⟩)
   . go_ret2
     exact⟨H6,.inl ⟨a,ha,rfl⟩⟩
   . go_ret2
     exact⟨H6,.inr ⟨l,v,hl,rfl,H5⟩⟩
 . have K:=y8N b w hG hs
   rw[show ssaM b=R from hR.symm]at K;have K:=z7 K;clear hR hG
   go_enter func7,ntmps7
   go_wp2_with (go_at_call 17;(with_reducible refine(K.out).mono ?_);rintro e w1 ⟨H6,(⟨a,ha,rfl⟩|⟨l,v,hl,rfl,H5⟩)⟩)
   . go_ret2
     exact⟨H6,.inl ⟨a,ha,rfl⟩⟩
   . go_ret2
     exact⟨H6,.inr ⟨l,v,hl,rfl,H5⟩⟩
 . have K:=y9m b w hG hs
   rw[show lrcM b=R from hR.symm]at K;have K:=z7 K;clear hR hG
   go_enter func7,ntmps7
   go_wp2_with (go_at_call 18;(with_reducible refine(K.out).mono ?_);rintro e w1 ⟨H6,(⟨a,ha,rfl⟩|⟨l,v,hl,rfl,H5⟩)⟩)
   . go_ret2
     exact⟨H6,.inl ⟨a,ha,rfl⟩⟩
   . go_ret2
     exact⟨H6,.inr ⟨l,v,hl,rfl,H5⟩⟩
theorem runTop:symEv {} 4 []=some (one1 (lB true)):=by kernel_rfl
theorem yBy(w:World)(hG:GW w):Calls prog 4 #[] w fun e w'=>e=.returned (.bool true)/\Below w.heap.size w w':=by
 letI:=sgL [] trivial
 exact y0W (vals:=[]) (T:={}) hG ⟨trivial,trivial,trivial,trivial,trivial,trivial,trivial⟩ rfl runTop (fun _=>rfl)
def fourF(t:ByteArray):List ByteArray:=[t,(⟨#[239,187,191]⟩:ByteArray)++t,(⟨#[255,254]⟩:ByteArray)++(⟨((pts (bl t)).flatMap (bytesP false)).toArray⟩:ByteArray),(⟨#[254,255]⟩:ByteArray)++(⟨((pts (bl t)).flatMap (bytesP true)).toArray⟩:ByteArray)]
theorem yJu(a b:ByteArray):(a++b).extract a.size (a++b).size=b:=by
 apply ByteArray.ext;apply Array.ext';have h:bl ((a++b).extract a.size (a++b).size)=(bl (a++b)).drop a.size:=y1o _ _;have h2:bl (a++b)=bl a++bl b:=by show(a++b).data.toList=_;rw[ByteArray.data_append,Array.toList_append];try rfl
 rw[h2,<-zJ a,List.drop_left]at h;exact h
theorem bl_app(a b:ByteArray):bl (a++b)=bl a++bl b:=by show(a++b).data.toList=_;rw[ByteArray.data_append,Array.toList_append];try rfl
theorem y30(big:Bool)(t:ByteArray):(⟨((pts (bl t)).flatMap (bytesP big)).toArray⟩:ByteArray).size<=4*t.size:=by
 rw[<-zJ];show((pts (bl t)).flatMap (bytesP big)).length<=_;have h1:∀ps:List Int,(ps.flatMap (bytesP big)).length<=4*ps.length:=fun ps=>by
  induction ps with
  | nil=>exact zA
  | cons p ps ih=>rw[List.flatMap_cons,zH,List.length_cons];have:=yAe big p;omega
 have h2:=h1 (pts (bl t));have h3:(pts (bl t)).length<=t.size:=by have:=yER (bl t).length (bl t);rw[zJ]at this;unfold pts;rw[zJ];exact this
 omega
theorem yI5(o:Opt)(H6:4<=o.k)(H5:o.k<8)(Ha:o.bu=0)(H8:rigB (o.k:Int) o.fb o.bu=true)(l:List Pc)(t:ByteArray)(hs:t.size<=400)(hx:txM o.k t=.inl l)(hv:(scanL (bl t)).2=none)(hb:Lib.hasPrefix (bl t) [239,187,191]=false):
 ∀f∈fourF t,∀w',GW w'->Calls prog 20 #[.string f,.agg o.c] w' fun e w''=>e=.returned (.tuple #[.string t,.agg #[.int .i64 0,.int .i64 0]])/\Below w'.heap.size w' w'':=by
 have Hd:=tx_len o.k t l hx;have base:∀(S:ByteArray) (c:Int) (hS:S.size<=1000000) (kp:∀w wr,GW w->FS w o wr->Calls prog 57 #[.int .i64 (o.k:Int),.string S,.agg o.c] wr (FReadG l 0 c wr)),∀w',GW w'->Calls prog 20 #[.string S,.agg o.c] w' fun e w''=>e=.returned (.tuple #[.string t,.agg #[.int .i64 0,.int .i64 0]])/\Below w'.heap.size w' w'':=fun S c hS kp w' hG=>
  yEy o H6 H5 Ha H8 l c S t w' hG hS (by omega) hx hv hb (by omega) (fun w Hb=>yCy o H6 H5 l c w S (fun wr h=>kp w wr Hb h))
 have u0:=y30 false t;have u1:=y30 true t;intro f hf;rcases List.mem_cons.1 hf with rfl|hf
 . exact base f 7 (by omega) (fun w wr hG h=>y9u o H6 H5 l wr (hG.bel h.gg) f (yHi _ hb hv) hv (by omega) hx)
 . have mk:∀(a:List UInt8) (b:ByteArray) (c:Int) (n:Nat) (hn:a.length=n) (H7:0<n) (H9:n<=3) (hm:y3c (a++bl b)=(c,(n:Int))) (hz:b.size<=1600) (hd:∀w',TW w'->Calls prog 108 #[.int .i64 c,.string b] w' fun e w''=>e=.returned (.tuple #[.string t,.agg faZ])/\Below w'.heap.size w' w''),
    ∀w',GW w'->Calls prog 20 #[.string ((⟨⟨a⟩⟩:ByteArray)++b),.agg o.c] w' fun e w''=>e=.returned (.tuple #[.string t,.agg #[.int .i64 0,.int .i64 0]])/\Below w'.heap.size w' w'':=fun a b c n hn H7 H9 hm hz hd=>by
    have ha:(⟨⟨a⟩⟩:ByteArray).size=n:=hn;have Hc:((⟨⟨a⟩⟩:ByteArray)++b).size=n+b.size:=by rw[ByteArray.size_append,ha]
    refine base _ c (by omega) (fun w wr hG h=>yCW o H6 H5 l wr (hG.bel h.gg) _ t c n (by rw[bl_app];exact hm) H7 (by omega) (by omega) (by omega) hx (fun w' hT=>?_));have e:=yJu (⟨⟨a⟩⟩:ByteArray) b;rw[ha]at e;rw[e];exact hd w' hT
   rcases List.mem_cons.1 hf with rfl|hf
   . exact mk [239,187,191] t 7 3 rfl (by decide) (by decide) (yJg _) (by omega) (fun w' hT=>yGN t w' hT (by omega) hv)
   . rcases List.mem_cons.1 hf with rfl|hf
     . exact mk [255,254] _ 8 2 rfl (by decide) (by decide) (markLe _) (by omega) (fun w' hT=>yIk false _ t w' (by omega) (y69 false _ hv))
     . rcases List.mem_cons.1 hf with rfl|hf
       . exact mk [254,255] _ 9 2 rfl (by decide) (by decide) (markBe _) (by omega) (fun w' hT=>yIk true _ t w' (by omega) (y69 true _ hv))
       . cases hf
theorem yB7(t:ByteArray):∀n,(resC t n).length=n*3
 | 0=>rfl
 | n+1=>by rw[resC,zH,yB7 t n];simp;omega
theorem y9q(t:ByteArray):∀(n i:Nat),i<n->(resC t n)[i*3]?=some (.int .i64 0)/\(resC t n)[i*3+1]?=some (.int .i64 0)/\(resC t n)[i*3+2]?=some (.string t)
 | 0,i,h=>by omega
 | n+1,i,h=>by
  have hl:=yB7 t n;rw[resC];by_cases hi:i<n
  . obtain⟨h0,h1,h2⟩:=y9q t n i hi
    rw[List.getElem?_append_left (by omega),List.getElem?_append_left (by omega),List.getElem?_append_left (by omega)];exact⟨h0,h1,h2⟩
  . have:i=n:=by omega
    subst this;rw[List.getElem?_append_right (by omega),List.getElem?_append_right (by omega),List.getElem?_append_right (by omega),hl];refine⟨?_,?_,?_⟩
    . rw[Nat.sub_self];rfl
    . rw[show i*3+1-i*3=1 by omega];rfl
    . rw[show i*3+2-i*3=2 by omega];rfl
theorem yJJ{w:World}{g o cap n:Nat}{t:ByteArray}(h:Row w (.slice (some ⟨g,o,none⟩) n cap) n (resC t n))(i:Nat)(hi:i<n):w.cell? ⟨g,o+i*3,none⟩=some (.int .i64 0)/\w.cell? ⟨g,o+i*3+1,none⟩=some (.int .i64 0)/\w.cell? ⟨g,o+i*3+2,none⟩=some (.string t):=by
 obtain⟨h0,h1,h2⟩:=y9q t n i hi;have hx:∀(j:Nat) (v:Value),(resC t n)[i*3+j]?=some v->w.cell? ⟨g,o+(i*3+j),none⟩=some v:=fun j v hj=>by
  obtain⟨g',o',c',e,hc⟩:=y0X h _ _ hj;simp only[Value.slice.injEq,Option.some.injEq,Addr.mk.injEq]at e;obtain⟨⟨rfl,rfl,_⟩,_,_⟩:=e;exact hc
 exact⟨by simpa using hx 0 _ h0,by have:=hx 1 _ h1;rwa [<-Nat.add_assoc]at this,by have:=hx 2 _ h2;rwa [<-Nat.add_assoc]at this⟩
theorem y2I(t:ByteArray)(z kd fb:Int)(g:Bool)(bu:Int)(w:World)(hG:GW w)(h:400<t.size\/(t.size<=400/\(vldB t=false\/(vldB t=true/\(rigB kd fb bu=false\/(rigB kd fb bu=true/\0<bu)))))):
 Calls prog 3 #[.string t,.int .u8 z,.agg (opG kd fb g bu)] w fun e w'=>e=.returned (.bool true)/\Below w.heap.size w w':=by
 obtain⟨W,hW⟩:∃W,W=w.alloc (.cells (opG kd fb g bu) 25):=⟨_,rfl⟩;have Hb:Below w.heap.size w W:=by rw[hW];exact bal z8 _
 have H9:W.heap[w.heap.size]?=some (.cells (opG kd fb g bu) 25 (0,0)):=by rw[hW];exact heap_alloc_new _ _
 have KO:=z7 (fun w' (h:Below W.heap.size W w')=>(⟨(zL (blkQ H9 h) 0 _ rfl).1,(zL (blkQ H9 h) 1 _ rfl).1,(zL (blkQ H9 h) 2 _ rfl).1,(zL (blkQ H9 h) 3 _ rfl).1⟩:w'.cell? ⟨w.heap.size,0,none⟩=some (.int .i64 kd)/\w'.cell? ⟨w.heap.size,1,none⟩=some (.int .i64 fb)/\w'.cell? ⟨w.heap.size,2,none⟩=some (.bool g)/\w'.cell? ⟨w.heap.size,3,none⟩=some (.int .i64 bu)));have HW:=z7 hW;have H7:=z7 Hb;have KA:=z7 (yBy W (hG.bel Hb));clear hW Hb H9 hG;rcases h with h|⟨h,hc⟩
 . have g1:(400:Int)<(t.size:Int):=by omega
   go_enter func3,ntmps3
   go_upto_region 1 with fail
   rw[<-HW.out]
   go_wp2_with (go_at_call 4;(with_reducible refine(KA.out).mono ?_);rintro e w1 ⟨rfl,H8⟩)
   go_ret
   exact⟨rfl,H7.out.trans (H8.mono H7.out.size)⟩
 . have g1:¬(400:Int)<(t.size:Int):=by omega
   have kv:=fun w'=>y6B t w' (by omega)
   have kr:=fun w'=>y56 kd fb g bu w'
   rcases hc with hv|⟨hv,hr|⟨hr,Hd⟩⟩
   . rw[hv]at kv
     have KV:=z7 kv;clear kv kr hv
     go_enter func3,ntmps3
     go_upto_region 1 with fail
     rw[<-HW.out]
     go_wp2_with (first
      | (go_at_call 4;(with_reducible refine(KA.out).mono ?_);rintro e w1 ⟨rfl,H8⟩)
      | (go_at_call 5;(with_reducible refine(KV.out _).mono ?_);rintro e w2 ⟨rfl,Ha⟩;have H5:=bt H8 Ha))
     go_ret
     exact⟨rfl,H7.out.trans (H5.mono H7.out.size)⟩
   . rw[hv]at kv
     rw[hr]at kr;have KV:=z7 kv;have KR:=z7 kr;clear kv kr hv hr
     go_enter func3,ntmps3
     go_upto_region 1 with fail
     rw[<-HW.out]
     go_wp2_with (first
      | (go_at_call 4;(with_reducible refine(KA.out).mono ?_);rintro e w1 ⟨rfl,H8⟩)
      | (go_at_call 5;(with_reducible refine(KV.out _).mono ?_);rintro e w2 ⟨rfl,Ha⟩;have H5:=bt H8 Ha;obtain⟨o0,o1,o2,o3⟩:=KO.out w2 H5)
      | (go_at_call 6;(with_reducible refine(KR.out _).mono ?_);rintro e w3 ⟨rfl,Hc⟩;have H6:=bt H5 Hc))
     go_ret
     exact⟨rfl,H7.out.trans (H6.mono H7.out.size)⟩
   . rw[hv]at kv
     rw[hr]at kr;have KV:=z7 kv;have KR:=z7 kr;clear kv kr hv hr
     go_enter func3,ntmps3
     go_upto_region 1 with fail
     rw[<-HW.out]
     go_wp2_with (first
      | (go_at_call 4;(with_reducible refine(KA.out).mono ?_);rintro e w1 ⟨rfl,H8⟩)
      | (go_at_call 5;(with_reducible refine(KV.out _).mono ?_);rintro e w2 ⟨rfl,Ha⟩;have H5:=bt H8 Ha;obtain⟨o0,o1,o2,o3⟩:=KO.out w2 H5)
      | (go_at_call 6;(with_reducible refine(KR.out _).mono ?_);rintro e w3 ⟨rfl,Hc⟩;have H6:=bt H5 Hc;obtain⟨p0,p1,p2,p3⟩:=KO.out w3 H6))
     go_ret
     exact⟨rfl,H7.out.trans (H6.mono H7.out.size)⟩
theorem row4(w:World)(cs:Array Value)(e n:Nat):Row (w.alloc (.cells cs e)) (.slice (some ⟨w.heap.size,0,none⟩) n n) n cs.toList:=by
 refine⟨_,_,rfl,fun i u hu=>⟨_,_,rfl,?_⟩⟩;have h:=heap_alloc_new w (.cells cs e);rw[Array.getElem?_toList]at hu;unfold World.cell?;simp only[h,Nat.zero_add];exact hu
theorem rig_k{kd fb bu:Int}(h:rigB kd fb bu=true)(k:Nat)(H6:4<=k)(H5:k<8):rigB (k:Int) fb bu=true:=by
 unfold rigB at *;rw[Bool.and_eq_true,Bool.and_eq_true]at h;rw[h.1.2,h.2];unfold knoB;rw[decide_eq_true (show(1:Int)<=(k:Int) by omega),decide_eq_true (show(k:Int)<=7 by omega)];simp
theorem yE7(t:ByteArray)(u:Nat)(kd fb:Int)(g:Bool)(bu:Int)(w:World)(hG:GW w)(hu:u<256)(hs:t.size<=400)(hv:vldB t=true)(hr:rigB kd fb bu=true)(kF:¬0<bu):
 Calls prog 3 #[.string t,.int .u8 (u:Int),.agg (opG kd fb g bu)] w fun e w'=>e=.returned (.bool true)/\Below w.heap.size w w':=by
 have kH:bu=0:=by unfold rigB at hr;simp at hr;omega
 subst kH;obtain⟨k,hk⟩:∃k:Nat,4+(u:Int)%4=(k:Int):=⟨u%4+4,by omega⟩;have Hp:4<=k:=by omega
 have Ho:k<8:=by omega
 obtain⟨o,ho⟩:∃o:Opt,o=⟨k,fb,g,0⟩:=⟨_,rfl⟩;have Hu:=rig_k hr k Hp Ho;have He:(scanL (bl t)).2=none/\Lib.hasPrefix (bl t) [239,187,191]=false:=by
  unfold vldB at hv;rw[Bool.and_eq_true]at hv;refine⟨?_,by have:=hv.2;rw[Bool.not_eq_true']at this;exact this⟩;cases hq:(scanL (bl t)).2 with
  | none=>rfl
  | some x=>rw[hq]at hv;cases hv.1
 obtain⟨W,hW⟩:∃W,W=w.alloc (.cells (opG kd fb g 0) 25):=⟨_,rfl⟩;have Hr:Below w.heap.size w W:=by rw[hW];exact bal z8 _
 have Ha:W.heap[w.heap.size]?=some (.cells (opG kd fb g 0) 25 (0,0)):=by rw[hW];exact heap_alloc_new _ _
 have KB:=z7 (fun w' (h:Below W.heap.size W w')=>blkQ Ha h);have KO:=z7 (fun w' (h:Below W.heap.size W w')=>(⟨zL (blkQ Ha h) 0 _ rfl,(zL (blkQ Ha h) 1 _ rfl).1,(zL (blkQ Ha h) 2 _ rfl).1,(zL (blkQ Ha h) 3 _ rfl).1⟩:(w'.cell? ⟨w.heap.size,0,none⟩=some (.int .i64 kd)/\w'.frozen? ⟨w.heap.size,0,none⟩=false)/\w'.cell? ⟨w.heap.size,1,none⟩=some (.int .i64 fb)/\w'.cell? ⟨w.heap.size,2,none⟩=some (.bool g)/\w'.cell? ⟨w.heap.size,3,none⟩=some (.int .i64 0)));have HW:=z7 hW;have kA:=z7 Hr;have KA:=z7 (yBy W (hG.bel Hr));have HG:=z7 hG;have HK:=z7 hk;have g1:¬(400:Int)<(t.size:Int):=by omega
 have kv:=fun w'=>y6B t w' (by omega)
 have kr:=fun w'=>y56 kd fb g 0 w'
 rw[hv]at kv;rw[hr]at kr;have KV:=z7 kv;have KR:=z7 kr;have KPC:=z7 (fun w' (h:GW w')=>y7K k Hp Ho t w' h (by omega));have KPT:=z7 (fun w'=>yEJ t w' (by omega) He.1);obtain⟨R,hR⟩:∃R,R=txM k t:=⟨_,rfl⟩;have H8:=fun l (hx:txM k t=.inl l)=>yI5 o (by rw[ho];exact Hp) (by rw[ho];exact Ho) (by rw[ho]) (by rw[ho];exact Hu) l t hs (by rw[ho];exact hx) He.1 He.2
 have kM:=z7 H8;have HO:=z7 ho;have Ht:=(y87 (bl t) He.1).2;have kK:=z7 (y30 false t);have kJ:=z7 (y30 true t);have kD:(pts (bl t)).length<=400:=by have:=yER (bl t).length (bl t);rw[zJ]at this;unfold pts;rw[zJ];omega
 have KEN:=z7 (fun(big:Bool) (v:Value) w' (h:Row w' v (pts (bl t)).length (icells (pts (bl t))))=>y8w big v (pts (bl t)) w' h Ht (by omega));rw[<-hR]at KPC;have HR:=z7 hR;clear kv kr hv hr hW Hr Ha hG hk Hu He ho H8 hR Ht kD
 go_enter func3,ntmps3
 go_upto_region 1 with fail
 rw[<-HW.out]
 go_upto_region 6 with(first
  | (go_at_call 4;(with_reducible refine(KA.out).mono ?_);rintro e w1 ⟨rfl,ky⟩)
  | (go_at_call 5;(with_reducible refine(KV.out _).mono ?_);rintro e w2 ⟨rfl,Hh⟩;have H9:=bt ky Hh;obtain⟨⟨o0,o0'⟩,o1,o2,o3⟩:=KO.out w2 H9)
  | (go_at_call 6;(with_reducible refine(KR.out _).mono ?_);rintro e w3 ⟨rfl,kx⟩;have H6:=bt H9 kx;obtain⟨⟨p0,p0'⟩,p1,p2,p3⟩:=KO.out w3 H6))
 rw[HK.out];have Hi:Hid ((w3.setCell ⟨w.heap.size,0,none⟩ (.int .i64 (k:Int))).heap[w.heap.size]?=some (.cells (opG (k:Int) fb g 0) 25 (0,0))):=z7 (Go.Lib.heap_setCell_same (i:=0) (KB.out w3 H6) (.int .i64 (k:Int)));obtain⟨Y,hY⟩:∃Y,Y=w3.setCell ⟨w.heap.size,0,none⟩ (.int .i64 (k:Int)):=⟨_,rfl⟩;rw[<-hY]at Hi ⊢;have Hb:=z7 (show Below w.heap.size w Y by rw[hY];exact(kA.out.trans (H6.mono kA.out.size)).setCell (p:=⟨w.heap.size,0,none⟩) zA _);have KY:=z7 (fun w' (h:Below Y.heap.size Y w')=>(⟨(zL (blkQ Hi.out h) 0 _ rfl).1,(zL (blkQ Hi.out h) 1 _ rfl).1,(zL (blkQ Hi.out h) 2 _ rfl).1,(zL (blkQ Hi.out h) 3 _ rfl).1⟩:w'.cell? ⟨w.heap.size,0,none⟩=some (.int .i64 (k:Int))/\w'.cell? ⟨w.heap.size,1,none⟩=some (.int .i64 fb)/\w'.cell? ⟨w.heap.size,2,none⟩=some (.bool g)/\w'.cell? ⟨w.heap.size,3,none⟩=some (.int .i64 0)));obtain⟨q0,q1,q2,q3⟩:=KY.out Y z8;clear hY p0 p0' p1 p2 p3 o0 o0' o1 o2 o3 ky Hh kx H9 H6;cases R with
 | inr a=>
  have ga:(a:Int) ≥ 0:=by omega
  have ga':(0:Int)<=(a:Int):=by omega
  have kpc:∀w',GW w'->Calls prog 7 #[.int .i64 (k:Int),.string t] w' fun e w''=>e=.returned (.tuple #[.slice none 0 0,.int .i64 a])/\Below w'.heap.size w' w'':=fun w' h=>(KPC.out w' h).mono fun e w'' q=>by
   rcases q with⟨q1,⟨a',h1,h2⟩|⟨l,v,h1,h2,h3⟩⟩
   . cases h1;exact⟨h2,q1⟩
   . cases h1
  have KP:=z7 kpc;clear kpc
  go_wp2_with (go_at_call 7;(with_reducible refine(KP.out _ (HG.out.bel Hb.out)).mono ?_);rintro e w4 ⟨rfl,Hm⟩)
  go_ret
  exact⟨rfl,Hb.out.trans (Hm.mono Hb.out.size)⟩
 | inl l=>
  have kpc:∀w',GW w'->Calls prog 7 #[.int .i64 (k:Int),.string t] w' fun e w''=>(∃v,e=.returned (.tuple #[v,.int .i64 (-1)]))/\Below w'.heap.size w' w'':=fun w' h=>(KPC.out w' h).mono fun e w'' q=>by
   rcases q with⟨q1,⟨a',h1,h2⟩|⟨l,v,h1,h2,h3⟩⟩
   . cases h1
   . exact⟨⟨v,h2⟩,q1⟩
  have KP:=z7 kpc;clear kpc;have h4:=kM.out l HR.out.symm;rw[show o.c=opG (k:Int) fb g 0 by rw[HO.out]]at h4;obtain⟨P,hP⟩:∃P:ByteArray,P=⟨((pts (bl t)).flatMap (bytesP false)).toArray⟩:=⟨_,rfl⟩;obtain⟨Q,hQ⟩:∃Q:ByteArray,Q=⟨((pts (bl t)).flatMap (bytesP true)).toArray⟩:=⟨_,rfl⟩;obtain⟨fs,Hj⟩:∃fs,fs = [t,(⟨#[239,187,191]⟩:ByteArray)++t,(⟨#[255,254]⟩:ByteArray)++P,(⟨#[254,255]⟩:ByteArray)++Q]:=⟨_,rfl⟩;have Hw:fourF t=fs:=by rw[Hj,hP,hQ];rfl
  have Hk:fs.length=4:=by rw[Hj];rfl
  have zP:P.size<=1600:=by have:=kK.out;rw[<-hP]at this;omega
  have zQ:Q.size<=1600:=by have:=kJ.out;rw[<-hQ]at this;omega
  rw[Hw]at h4;have ken0:∀v w',Row w' v (pts (bl t)).length (icells (pts (bl t)))->Calls prog 10 #[v,.bool false] w' fun e w''=>e=.returned (.string P)/\Below w'.heap.size w' w'':=fun v w' h=>by have:=KEN.out false v w' h;rwa [<-hP]at this
  have ken1:∀v w',Row w' v (pts (bl t)).length (icells (pts (bl t)))->Calls prog 10 #[v,.bool true] w' fun e w''=>e=.returned (.string Q)/\Below w'.heap.size w' w'':=fun v w' h=>by have:=KEN.out true v w' h;rwa [<-hQ]at this
  have kfl:∀w' v',Below w.heap.size w w'->Row w' v' 4 (scells fs)->Calls prog 9 #[.agg (opG (k:Int) fb g 0),v'] w' fun e w''=>(∃ua uc,e=.returned (.slice ua 4 uc)/\Row w'' (.slice ua 4 uc) 4 (resC t 4))/\Below w'.heap.size w' w'':=fun w' v' hb hr=>by
   have:=yCh o fs v' t w' (HG.out.bel hb) (by rw[Hk];exact hr) (by rw[Hk];decide) (by rw[show o.c=opG (k:Int) fb g 0 by rw[HO.out]];exact h4);rw[Hk,show o.c=opG (k:Int) fb g 0 by rw[HO.out]]at this;refine this.mono fun e w'' q=>?_
   obtain⟨⟨u,h1,h2⟩,h3⟩:=q;obtain⟨ua,uc,rfl⟩:=zN h2;exact⟨⟨ua,uc,h1,y01 h2⟩,h3⟩
  rw[Hj]at kfl;have KE0:=z7 ken0;have KE1:=z7 ken1;have KFL:=z7 kfl;clear ken0 ken1 kfl h4 Hw Hj Hk hP hQ
  go_upto_region 10 with(first
   | (go_at_call 7;(with_reducible refine(KP.out _ (HG.out.bel Hb.out)).mono ?_);rintro e w4 ⟨⟨pv,rfl⟩,Hm⟩)
   | (go_at_call 8;(with_reducible refine(KPT.out _).mono ?_);rintro e w5 ⟨⟨v,rfl,Hg⟩,k9⟩))
  have H5:=bt Hm k9;have kP:=z7 H5;have H7:=z7 (Hb.out.trans (H5.mono Hb.out.size));have kz:=z7 (y01 Hg);have KY5:=z7 (fun w' (h:Below w5.heap.size w5 w')=>KY.out w' (bt H5 h));obtain⟨y0,y1,y2,y3⟩:=KY5.out w5 z8;clear Hm k9 H5 Hg q0 q1 q2 q3;have KE0':=z7 (fun w' (h:Below w5.heap.size w5 w')=>KE0.out v w' (kz.out.keep h));have KE1':=z7 (fun w' (h:Below w5.heap.size w5 w')=>KE1.out v w' (kz.out.keep h));have KFL':=z7 (fun w' v' h=>KFL.out w' v' (H7.out.trans ((And.left h:Below w5.heap.size w5 w').mono H7.out.size)) (And.right h));have KB0:Hid (∀w',Calls prog 11 #[.agg #[.int .i64 0,.int .i64 0]] w' fun e w''=>e=.returned (.bool false)/\Below w'.heap.size w' w''):=z7 (fun w'=>y4f 0 0 w');have u1:¬9223372036854775807<3+t.size:=by omega
  have u2:¬9223372036854775807<2+P.size:=by omega
  have u3:¬9223372036854775807<2+Q.size:=by omega
  go_region_with (first
   | (go_at_call 10;first
    | ((with_reducible refine(KE0'.out _ ?_).mono ?_);(first|exact z8|exact(z8).drew);rintro e wa ⟨rfl,Hq⟩;(have Hd:Below w5.heap.size w5 wa:=by first|exact Hq|exact Below.trans (z8).drew Hq);obtain⟨a0,a1,a2,a3⟩:=KY5.out wa Hd)
    | ((with_reducible refine(KE1'.out _ ?_).mono ?_);(first|exact Hd|exact Hd.drew);rintro e wb ⟨rfl,Hz⟩;have Hc:Below w5.heap.size w5 wb:=bt Hd Hz;obtain⟨b0,b1,b2,b3⟩:=KY5.out wb Hc;obtain⟨c0,c1,c2,c3⟩:=KY5.out (wb.alloc (.cells #[.string t,.string ((⟨#[239,187,191]⟩:ByteArray)++t),.string ((⟨#[255,254]⟩:ByteArray)++P),.string ((⟨#[254,255]⟩:ByteArray)++Q)] 9)) (bal Hc _)))
   | (go_at_call 9;(with_reducible refine(KFL'.out _ _ ?_).mono ?_);exact⟨bal Hc _,row4 wb #[.string t,.string ((⟨#[239,187,191]⟩:ByteArray)++t),.string ((⟨#[255,254]⟩:ByteArray)++P),.string ((⟨#[254,255]⟩:ByteArray)++Q)] 9 4⟩;rintro e wf ⟨⟨ua,uc,rfl,Hf⟩,Hy⟩))
  all_goals
   have Hs:=z7 Hf;have kC:=z7 (H7.out.trans ((bt (bal Hc _) Hy).mono H7.out.size));clear Hf Hy Hd Hc Hq Hz a0 a1 a2 a3 b0 b1 b2 b3 c0 c1 c2 c3 y0 y1 y2 y3
   go_wp2_with fail
   go_simp
   go_loopw [65] (fun iv wr=>∃i:Nat,iv=.int .i64 (i:Int)/\i<=4/\Hid (Below wf.heap.size wf wr)) (fun iv _=>4-(intOf iv).toNat)
   case atStart=>exact⟨0,rfl,zD,z7 z8⟩
   case round=>
    obtain⟨i,rfl,hi,HB⟩:=hrel;by_cases Hv:i<4
    . have hr:=Hs.out.keep HB.out
      obtain⟨g',o',c',e,-⟩:=y0X hr _ _ (y9q t 4 i Hv).1;simp only[Value.slice.injEq]at e;obtain⟨rfl,_,rfl⟩:=e;obtain⟨q0,q1,q2⟩:=yJJ hr i Hv;obtain⟨W2,Hn⟩:∃W2,W2=wr.alloc (.cells #[.int .i64 0,.int .i64 0,.string t] 42):=⟨_,rfl⟩;have Hh:Below wr.heap.size wr W2:=by rw[Hn];exact bal z8 _
      have Hl:W2.heap[wr.heap.size]?=some (.cells #[.int .i64 0,.int .i64 0,.string t] 42 (0,0)):=by rw[Hn];exact heap_alloc_new _ _
      have KR2:=z7 (fun w' (h:Below W2.heap.size W2 w')=>(⟨(zL (blkQ Hl h) 0 _ rfl).1,(zL (blkQ Hl h) 1 _ rfl).1,(zL (blkQ Hl h) 2 _ rfl).1⟩:w'.cell? ⟨wr.heap.size,0,none⟩=some (.int .i64 0)/\w'.cell? ⟨wr.heap.size,1,none⟩=some (.int .i64 0)/\w'.cell? ⟨wr.heap.size,2,none⟩=some (.string t)));obtain⟨f0,f1,f2⟩:=KR2.out W2 z8;have kO:=z7 (bt HB.out Hh);have kI:=z7 Hn;clear hr Hh Hl Hn
      go_upto_region 13 with fail
      rw[<-kI.out]
      go_wp2_with (go_at_call 11;refine(KB0.out _).mono ?_;rintro e w7 ⟨rfl,HQ⟩;obtain⟨r0,r1,r2⟩:=KR2.out w7 HQ)
      go_roundw
      case rel=>exact⟨i+1,by first|omega|go_num,by omega,z7 (bt kO.out HQ)⟩
      case measure=>simp[intOf];omega
    . obtain rfl:i=4:=by omega
      go_wp2_with fail
      go_ret
      exact⟨rfl,kC.out.trans (HB.out.mono kC.out.size)⟩
end Go.Proofs.YtndlekaahjccdaaGreatDoor
namespace Go.Proofs.YtndlekaahjccdaaGreatDoor.topSheets
open Go Go.Rf Go.RowKit Go.ChangeShapes Go.WideShapes Go.ChangeAt Go.Lib Go.ChangeMaps
theorem yEj{H:Type}{enc:TypeId×Value->H}{w:World}{r:Reach}{b0:Nat}{v:Value}{d:DataW H}{ps:List MemPlace}
 (hval:Value.okWide Tryz.prog w r b0 25 v) (hd:DataW.Trod enc Tryz.prog w 0 (fun _=>true) true 25 v d ps):
 ∃(kd fb bu:Int) (g:Bool),v=.agg #[.int .i64 kd,.int .i64 fb,.bool g,.int .i64 bu]:=by
 obtain⟨cs,rfl,hsz⟩:=okWide_struct Tryz.underlying25 hval;rw[show Tryz.prog.cellsOf 25=4 by kernel_rfl]at hsz;obtain⟨fuel,hf⟩:=hd;obtain⟨xs,n,_,_,hlen,hx,hf⟩:=DataW.trod_struct Tryz.underlying25 hf;have h0:=hf 0 _ rfl;have h1:=hf 1 _ rfl;have h2:=hf 2 _ rfl;have h3:=hf 3 _ rfl;simp only[List.getElem_toArray,List.getElem_cons_zero,List.getElem_cons_succ]at h0 h1 h2 h3;rw[show Tryz.prog.cellsOf 22=1 by kernel_rfl]at h0;rw[show Tryz.prog.cellsOf 23=1 by kernel_rfl]at h1;rw[show Tryz.prog.cellsOf 4=1 by kernel_rfl]at h2;rw[show Tryz.prog.cellsOf 3=1 by kernel_rfl]at h3;obtain⟨l⟩:=cs
 match l,hsz with
 | [a,b,c,e],_=>
  match xs,hx with
  | [y,z,u,t],_=>
   simp[Value.cells]at h0 h1 h2 h3;obtain⟨k0,e0,_⟩:=DataW.trod_int Tryz.underlying22 h0;obtain⟨k1,e1,_⟩:=DataW.trod_int Tryz.underlying23 h1;obtain⟨k2,e2,_⟩:=DataW.trod_bool Tryz.underlying4 h2;obtain⟨k3,e3,_⟩:=DataW.trod_int Tryz.underlying3 h3;simp at e0 e1 e2 e3;exact⟨k0,k1,k3,k2,by rw[e0,e1,e2,e3]⟩
theorem walk(t:ByteArray)(z kd fb:Int)(g:Bool)(bu:Int)(w0:t.size<=maxLen)(w1:(Lit.int .u8 z).wf=true)(w2:True)(w:World)(hG:GW w):Calls Tryz.prog 3 #[.string t,.int .u8 z,.agg #[.int .i64 kd,.int .i64 fb,.bool g,.int .i64 bu]] w fun e w'=>e=.returned (.bool true)/\Below w.heap.size w w':=by
 obtain⟨u,rfl,hu⟩:∃u:Nat,z=(u:Int)/\u<256:=by
  have:=w1;have h1:IntKind.u8.min=0:=rfl;have h2:IntKind.u8.max=255:=rfl;simp[Lit.wf]at this;exact⟨z.toNat,by omega,by omega⟩
 by_cases h:400<t.size
 . exact y2I t u kd fb g bu w hG (.inl h)
 . cases hv:vldB t with
   | false=>exact y2I t u kd fb g bu w hG (.inr ⟨by omega,.inl hv⟩)
   | true=>
    cases hr:rigB kd fb bu with
    | false=>exact y2I t u kd fb g bu w hG (.inr ⟨by omega,.inr ⟨hv,.inl hr⟩⟩)
    | true=>
     by_cases hb:0<bu
     . exact y2I t u kd fb g bu w hG (.inr ⟨by omega,.inr ⟨hv,.inr ⟨hr,hb⟩⟩⟩)
     . exact yE7 t u kd fb g bu w hG hu (by omega) hv hr hb
