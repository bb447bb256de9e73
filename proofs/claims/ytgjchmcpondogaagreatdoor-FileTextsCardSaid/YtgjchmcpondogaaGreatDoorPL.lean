/- PL -/
import Derived.Test.YtgjchmcpondogaaGreatDoorPF
import Derived.Test.YtgjchmcpondogaaGreatDoorPK
set_option linter.all false
set_option maxRecDepth 100000
set_option maxHeartbeats 40000000
namespace Go.Proofs.YtgjchmcpondogaaGreatDoor
open Go.RowKit Go.Proofs.Tryz
theorem Y2 {α:Type _} [BEq α] [LawfulBEq α] {a b:α}:(a==b)=false↔a≠b:=beq_eq_false_iff_ne
abbrev Y3:Go.Value:=.agg #[.bool false,.string ⟨#[]⟩,.string ⟨#[]⟩]
theorem Y4 (w:Go.World) (o:Go.Obj):(w.alloc o).heap.size=w.heap.size+1:=Go.World.size_alloc w o
def eolB(c:UInt8):Bool:=c==10 || c==13
def nxE(l:List UInt8)(a:Nat):Nat:=a+((l.drop a).takeWhile (fun c=>!eolB c)).length
def nxB(l:List UInt8)(e:Nat):Nat:=if e<l.length then(if l[e]?=some 13∧l[e+1]?=some 10 then e+2 else e+1)else e
theorem y0f(l:List UInt8)(k:Nat)(c:UInt8)(h:l[k]?=some c):l.drop k=c::l.drop (k+1):=by
 obtain⟨h1,h2⟩:=List.getElem?_eq_some_iff.1 h;rw[List.drop_eq_getElem_cons h1,h2]
theorem yAv(l:List UInt8)(e:Nat)(c:UInt8)(h:l[e]?=some c)(hc:eolB c=false):nxE l e=nxE l (e+1):=by
 unfold nxE;rw[y0f l e c h,List.takeWhile_cons,hc];simp;omega
theorem yAu(l:List UInt8)(e:Nat)(c:UInt8)(h:l[e]?=some c)(hc:eolB c=true):nxE l e=e:=by
 unfold nxE;rw[y0f l e c h,List.takeWhile_cons,hc];simp
theorem yIp(l:List UInt8):nxE l l.length=l.length:=by
 unfold nxE;rw[List.drop_length]
 rfl
theorem y1w(l:List UInt8)(a:Nat):a≤nxE l a:=Nat.le_add_right _ _
theorem y2Z(l:List UInt8)(a:Nat)(h:a≤l.length):nxE l a≤l.length:=by
 unfold nxE;have h1:=(List.takeWhile_sublist (fun c=>!eolB c) (l:=l.drop a)).length_le;rw[List.length_drop]at h1;omega
theorem y35(l:List UInt8)(e:Nat):e≤nxB l e:=by unfold nxB;split<;>(try split)<;>omega
theorem nxB_gt(l:List UInt8)(e:Nat)(h:e<l.length):e<nxB l e:=by unfold nxB;rw[if_pos h];split<;>omega
theorem y3o(l:List UInt8)(e:Nat)(h:e≤l.length):nxB l e≤l.length:=by
 unfold nxB;split
 · split
   · rename_i h1 h2
     have:=(List.getElem?_eq_some_iff.1 h2.2).1;omega
   · omega
 · exact h
def lnP(l:List UInt8):Nat→Nat→List (Nat×Nat×Nat)
 | 0,_=>[]
 | n+1,a=>if a<l.length then(a,nxE l a,nxB l (nxE l a))::lnP l n (nxB l (nxE l a))else []
def lnF(l:List UInt8)(a:Nat):List (Nat×Nat×Nat):=lnP l (l.length+1-a) a
theorem y58(l:List UInt8)(a:Nat)(h:a<l.length):a<nxB l (nxE l a):=by
 have h1:=y1w l a;have h2:=y2Z l a (by omega);by_cases h3:nxE l a<l.length
 · have:=nxB_gt l _ h3;omega
 · have:=y35 l (nxE l a);omega
theorem yB5(l:List UInt8):∀(n m a:Nat),l.length+1-a≤n→l.length+1-a≤m→lnP l n a=lnP l m a
 | 0,0,a,_,_=>rfl
 | 0,m+1,a,h1,_=>by rw[lnP,lnP,if_neg (by omega)]
 | n+1,0,a,_,h2=>by rw[lnP,lnP,if_neg (by omega)]
 | n+1,m+1,a,h1,h2=>by
  rw[lnP,lnP];split
  · rename_i h
    have:=y58 l a h;rw[yB5 l n m _ (by omega) (by omega)]
  · rfl
theorem zp(l:List UInt8)(a:Nat)(h:a<l.length):lnF l a=(a,nxE l a,nxB l (nxE l a))::lnF l (nxB l (nxE l a)):=by
 have h1:=y58 l a h;unfold lnF;obtain⟨n,hn⟩:∃n,l.length+1-a=n+1:=⟨l.length-a,by omega⟩;rw[hn,lnP,if_pos h,yB5 l n (l.length+1-nxB l (nxE l a)) _ (by omega) (by omega)]
theorem y0s(l:List UInt8)(a:Nat)(h:¬a<l.length):lnF l a = []:=by
 unfold lnF;cases hn:l.length+1-a with
 | zero=>rfl
 | succ n=>rw[lnP,if_neg h]
theorem y2w(p:UInt8→Bool):∀(l:List UInt8) (k:Nat),k<(l.takeWhile p).length→∃c,l[k]?=some c∧p c=true
 | [],k,h=>by simp at h
 | c::l,k,h=>by
  rw[List.takeWhile_cons]at h;cases hc:p c with
  | false=>rw[hc]at h;simp at h
  | true=>
   rw[hc]at h;cases k with
   | zero=>exact⟨c,rfl,hc⟩
   | succ k=>simp at h;simpa using y2w p l k h
theorem y0S(p:UInt8→Bool):∀(l:List UInt8) (c:UInt8),l[(l.takeWhile p).length]?=some c→p c=false
 | [],c,h=>by simp at h
 | d::l,c,h=>by
  rw[List.takeWhile_cons]at h;cases hd:p d with
  | false=>rw[hd]at h;simp at h;subst h;exact hd
  | true=>rw[hd]at h;simp at h;exact y0S p l c h
def dgB(c:UInt8):Bool:=decide (48≤c.toNat)&&decide (c.toNat≤57)
def cpB(c:UInt8):Bool:=dgB c || (decide (65≤c.toNat)&&decide (c.toNat≤90))
def dgsL(l:List UInt8):Bool:=l.all dgB && !l.isEmpty
def cpsL(l:List UInt8):Bool:=l.all cpB && !l.isEmpty
def zU:List UInt8→List UInt8→Bool
 | [],[]=>true
 | c::l,f::g=>(if f=48 then dgB c else c==f)&&zU l g
 | _,_=>false
theorem y0V:∀ {l g:List UInt8},zU l g=true→l.length=g.length
 | [],[],_=>rfl
 | c::l,f::g,h=>by
  simp only[zU,Bool.and_eq_true]at h;simp[y0V h.2]
 | [],_::_,h=>by simp[zU]at h
 | _::_,[],h=>by simp[zU]at h
theorem y7J:∀ {l g:List UInt8},l.length≠g.length→zU l g=false:=fun {l g} h=>by
 cases hc:zU l g with
 | false=>rfl
 | true=>exact absurd (y0V hc) h
theorem y3r:∀(l1 g1 l2 g2:List UInt8),l1.length=g1.length→zU (l1++l2) (g1++g2)=(zU l1 g1&&zU l2 g2)
 | [],[],l2,g2,_=>by simp[zU]
 | c::l1,f::g1,l2,g2,h=>by
  simp only[List.cons_append,zU];rw[y3r l1 g1 l2 g2 (by simpa using h),Bool.and_assoc]
 | [],_::_,_,_,h=>by simp at h
 | _::_,[],_,_,h=>by simp at h
def blB(c:UInt8):Bool:=c==32 || c==9
def azB(c:UInt8):Bool:=decide (65≤c.toNat)&&decide (c.toNat≤90)
def wdI(l:List UInt8):Nat:=(l.takeWhile blB).length
def wdJ(l:List UInt8):Nat:=wdI l+((l.drop (wdI l)).takeWhile azB).length
def wdW(l:List UInt8):List UInt8:=(l.drop (wdI l)).take (wdJ l-wdI l)
def y0y(l:List UInt8):Bool:=if l.contains 34 then decide (2≤l.length)&&(l.head?==some 34)&&(l.getLast?==some 34) && !((l.drop 1).take (l.length-2)).contains 34 else !l.isEmpty
def valR(l:List UInt8):Bool:=(l.count 34==0 && !l.isEmpty) || (l.count 34==2&&l.head?==some 34&&l.getLast?==some 34)
def y0A(l:List UInt8):Bool:=match l with
 | []=>false
 | c::r=>cpB c&&r.all (fun c=>c==32 || cpB c)
def y5r(l:List UInt8):Option Nat:=(List.range l.length).reverse.find? fun k=>l[k]?==some 32
theorem y1k(p:UInt8→Bool):∀(l:List UInt8) (k:Nat),(l.take k).all p=true→k≤l.length→(∀c,l[k]?=some c→p c=false)→(l.takeWhile p).length=k
 | [],k,_,hk,_=>by simp at hk;subst hk;rfl
 | c::l,0,_,_,hn=>by
  rw[List.takeWhile_cons,hn c rfl];rfl
 | c::l,k+1,ha,hk,hn=>by
  simp only[List.take_succ_cons,List.all_cons,Bool.and_eq_true]at ha;rw[List.takeWhile_cons,ha.1];simp only[if_true,List.length_cons];rw[y1k p l k ha.2 (by simpa using hk) fun c hc=>hn c (by simpa using hc)]
theorem zq(p:UInt8→Bool)(l:List UInt8)(k:Nat)(x:UInt8)(hx:l[k]?=some x)(ha:(l.take k).all p=true):(p x=true→(l.take (k+1)).all p=true)∧(p x=false→l.all p=false):=by
 refine⟨fun h=>?_,fun h=>?_⟩
 · rw[List.take_add_one,hx,List.all_append,ha]
   simp[h]
 · have hm:=List.mem_of_getElem? hx
   cases hc:l.all p with
   | false=>rfl
   | true=>rw[List.all_eq_true.1 hc x hm]at h;cases h
theorem y5i(p:UInt8→Bool)(l:List UInt8)(k:Nat)(hk:l.length≤k)(ha:(l.take k).all p=true):l.all p=true:=by rwa [List.take_of_length_le hk]at ha
theorem y8P:∀(l g:List UInt8),l.length=g.length→zU l g=(List.range l.length).all fun k=>match l[k]?,g[k]? with|some c,some f=>if f=48 then dgB c else c==f|_,_=>true
 | [],[],_=>rfl
 | c::l,f::g,h=>by
  rw[zU,y8P l g (by simpa using h),List.length_cons,List.range_succ_eq_map,List.all_cons,List.all_map]
  rfl
 | [],_::_,h=>by simp at h
 | _::_,[],h=>by simp at h
theorem y3L(q:Nat→Bool)(n k:Nat)(hk:k<n)(ha:(List.range k).all q=true):(q k=true→(List.range (k+1)).all q=true)∧(q k=false→(List.range n).all q=false):=by
 refine⟨fun h=>?_,fun h=>?_⟩
 · rw[List.range_succ,List.all_append,ha];simp[h]
 · cases hc:(List.range n).all q with
   | false=>rfl
   | true=>rw[List.all_eq_true.1 hc k (List.mem_range.2 hk)]at h;cases h
theorem y0T(l:List UInt8)(x:UInt8):l.contains x = !(l.count x==0):=by
 cases h:l.contains x with
 | false=>
  have:¬x∈l:=fun hm=>by rw[List.contains_iff_mem.2 hm]at h;cases h
  rw[List.count_eq_zero.2 this];rfl
 | true=>
  have:=List.count_pos_iff.2 (List.contains_iff_mem.1 h);have hn:(l.count x==0)=false:=by rw[Y2];omega
  rw[hn];rfl
theorem y6c(l:List UInt8):y0y l=valR l:=by
 unfold y0y valR;rw[y0T];by_cases h0:l.count 34=0
 · simp[h0]
 · have hb:(l.count 34==0)=false:=by rw[Y2];exact h0
   simp only[hb,Bool.not_false,if_true,Bool.false_and,Bool.false_or]
   match l,h0 with
   | [],h0=>simp at h0
   | [x],h0=>
    have:List.count 34 [x]≤1:=List.count_le_length;have h2:(List.count 34 [x]==2)=false:=by rw[Y2];omega
    rw[h2];simp
   | x::y::r,h0=>
    obtain⟨m,z,hm⟩:∃m z,y::r=m ++ [z]:=⟨(y::r).dropLast,(y::r).getLast (by simp),(List.dropLast_concat_getLast (by simp)).symm⟩;rw[hm];have e1:((x::(m ++ [z])).drop 1).take ((x::(m ++ [z])).length-2)=m:=by simp
    have e2:(x::(m ++ [z])).getLast?=some z:=by simp[List.getLast?_cons,List.getLast?_append]
    have e3:decide (2≤(x::(m ++ [z])).length)=true:=by simp
    rw[e1,e2,e3,y0T];by_cases hx:x=34
    · by_cases hz:z=34
      · subst hx;subst hz
        have e4:List.count 34 (34::(m ++ [34]))=m.count 34+2:=by simp[List.count_cons,List.count_append]
        rw[e4];by_cases hc:m.count 34=0
        · simp[hc]
        · have h5:(m.count 34==0)=false:=by rw[Y2];exact hc
          have h6:(m.count 34+2==2)=false:=by rw[Y2];omega
          simp[h5,h6]
      · have:(some z==some (34:UInt8))=false:=by simpa using hz
        simp[this]
    · have:((x::(m ++ [z])).head?==some (34:UInt8))=false:=by simpa using hx
      simp only[this,Bool.and_false,Bool.false_and]
def fB(l:List UInt8)(n:Nat):Option Nat:=(List.range n).reverse.find? fun k=>l[k]?==some 32
theorem yJ7(l:List UInt8):fB l 0=none:=rfl
theorem y9x(l:List UInt8)(n:Nat):fB l (n+1)=if l[n]?=some 32 then some n else fB l n:=by
 unfold fB;rw[List.range_succ,List.reverse_append,List.reverse_singleton,List.singleton_append,List.find?_cons];by_cases h:l[n]?=some 32
 · rw[if_pos h,h];rfl
 · rw[if_neg h]
   have:(l[n]?==some (32:UInt8))=false:=by simpa using h
   rw[this]
theorem yJ8(l:List UInt8):∀(n k:Nat),fB l n=some k→k<n
 | 0,k,h=>by cases h
 | n+1,k,h=>by
  rw[y9x]at h;split at h
  · cases h;omega
  · have:=yJ8 l n k h;omega
theorem y3S(s:ByteArray):∀n,n≤s.size→Lib.lastIdx s 32 n=(match fB (bl s) n with|some k=>(k:Int)|none=>-1)
 | 0,_=>rfl
 | n+1,h=>by
  have hn:n<s.data.size:=h;have e:s.data[n]! = s.data[n]:=getElem!_pos s.data n hn;have g:(bl s)[n]?=some s.data[n]:=by
   show s.data.toList[n]?=_;rw[Array.getElem?_toList,Array.getElem?_eq_getElem hn]
  rw[Lib.lastIdx,y9x,g,e,y3S s n (by omega)];have hk:((s.data[n].toNat:Int)=32)↔(some s.data[n]=some (32:UInt8)):=by
   rw[Option.some.injEq,←UInt8.toNat_inj];show _↔s.data[n].toNat=32;omega
  by_cases h2:some s.data[n]=some (32:UInt8)
  · rw[if_pos h2,if_pos (hk.2 h2)]
  · rw[if_neg h2,if_neg (fun x=>h2 (hk.1 x))]
def remL:List UInt8:=[82,69,77]
def titL:List UInt8:=[84,73,84,76,69]
def perL:List UInt8:=[80,69,82,70,79,82,77,69,82]
def sonL:List UInt8:=[83,79,78,71,87,82,73,84,69,82]
def filL:List UInt8:=[70,73,76,69]
def traL:List UInt8:=[84,82,65,67,75]
def indL:List UInt8:=[73,78,68,69,88]
def preL:List UInt8:=[80,82,69,71,65,80]
def posL:List UInt8:=[80,79,83,84,71,65,80]
def catL:List UInt8:=[67,65,84,65,76,79,71]
def isrL:List UInt8:=[73,83,82,67]
def flaL:List UInt8:=[70,76,65,71,83]
def momL:List UInt8:=[48,48,58,48,48,58,48,48]
def nnL:List UInt8:=[48,48]
def numb(p:List UInt8→Bool)(l:List UInt8):Bool:=decide (2<l.length)&&zU (l.take 2) nnL&&(l[2]?==some 32)&&p (l.drop 3)
def y4g(l:List UInt8):Bool:=decide (4≤l.length)&&zU (l.take 3) [48,48,32]&&cpsL (l.drop 3)
def yEv(l:List UInt8):Bool:=zU l ([48,48,32]++momL)
theorem like3(l:List UInt8)(h:2<l.length):zU (l.take 3) [48,48,32]=(zU (l.take 2) nnL&&(l[2]?==some 32)):=by
 match l,h with
 | a::b::c::r,_=>simp[zU,nnL,Bool.and_assoc]
 | [],h=>simp at h
 | [_],h=>simp at h
 | [_,_],h=>simp at h
theorem yGD(l:List UInt8):y4g l=numb cpsL l:=by
 unfold y4g numb;by_cases h:2<l.length
 · rw[like3 l h]
   by_cases h4:4≤l.length
   · simp[h,h4,Bool.and_assoc]
   · have:l.drop 3 = []:=List.drop_eq_nil_of_le (by omega)
     rw[this];simp[cpsL]
 · have h4:¬4≤l.length:=by omega
   simp[h,h4]
theorem yHM(l:List UInt8):yEv l=numb (fun x=>zU x momL) l:=by
 unfold yEv numb;by_cases h:2<l.length
 · have e:l=l.take 3++l.drop 3:=(List.take_append_drop 3 l).symm
   have hl:(l.take 3).length=3:=by rw[List.length_take];omega
   rw[show zU l ([48,48,32]++momL)=zU (l.take 3++l.drop 3) ([48,48,32]++momL) by rw[←e],y3r _ _ _ _ (by rw[hl];rfl),like3 l h];simp[h]
 · rw[y7J (by intro hc;have:([48,48,32]++momL).length=11:=rfl;omega)]
   simp[h]
def y3l(w rest:List UInt8):Bool:=
 if w=remL then true
 else if w=titL∨w=perL∨w=sonL then y0y rest
 else if w=filL then(match y5r rest with|none=>false|some k=>cpsL (rest.drop (k+1))&&y0y (rest.take k))
 else if w=traL then numb cpsL rest
 else if w=indL then numb (fun x=>zU x momL) rest
 else if w=preL∨w=posL then zU rest momL
 else if w=catL∨w=isrL∨w=flaL then y0A rest
 else false
def y3E(l:List UInt8):Bool:=
 if wdI l=l.length then true
 else if wdJ l=l.length then wdW l==remL
 else if l[wdJ l]?≠some 32 then false
 else y3l (wdW l) (l.drop (wdJ l+1))
theorem yD1(l:List UInt8):wdI l≤l.length:=(List.takeWhile_sublist blB).length_le
theorem yAM(l:List UInt8):wdI l≤wdJ l:=Nat.le_add_right _ _
theorem y4c(l:List UInt8):wdJ l≤l.length:=by
 unfold wdJ;have h1:=(List.takeWhile_sublist azB (l:=l.drop (wdI l))).length_le;have h2:=yD1 l;rw[List.length_drop]at h1;omega
theorem y6O(l:List UInt8)(h:wdI l=wdJ l):y3E l=decide (wdJ l=l.length):=by
 unfold y3E;rw[←h];by_cases hi:wdI l=l.length
 · simp[hi]
 · rw[if_neg hi,if_neg hi]
   have H5:wdI l<l.length:=by have:=yD1 l;omega
   have hn:l[wdI l]?≠some 32:=by
    intro hc;have:=y0S blB l 32 hc;exact absurd this (by decide)
   rw[if_pos hn];simp[hi]
theorem y6N(l:List UInt8)(h:wdI l≠wdJ l):y3E l=if wdJ l=l.length then wdW l==remL else if l[wdJ l]?≠some 32 then false else y3l (wdW l) (l.drop (wdJ l+1)):=by
 unfold y3E;have h1:=yAM l;have h2:=y4c l;rw[if_neg (by omega)]
def timL:List UInt8:=[48,48,58,48,48,58,48,48,44,48,48,48,32,45,45,62,32,48,48,58,48,48,58,48,48,44,48,48,48]
theorem y78(x:UInt8)(w:World):Calls prog 275 #[.int .u8 (x.toNat:Int)] w fun e w'=>e=.returned (.bool (dgB x))∧w=w':=by
 have h:=x.toNat_lt
 go_enter func275,ntmps275
 go_wp2
 all_goals go_ret
 all_goals (refine⟨y0E ?_,rfl⟩;unfold dgB;rw[Bool.eq_iff_iff];simp;omega)
theorem y73(x:UInt8)(w:World):Calls prog 156 #[.int .u8 (x.toNat:Int)] w fun e w'=>e=.returned (.bool (dgB x))∧w=w':=by
 have h:=x.toNat_lt
 go_enter func156,ntmps156
 go_wp2
 all_goals go_ret
 all_goals (refine⟨y0E ?_,rfl⟩;unfold dgB;rw[Bool.eq_iff_iff];simp;omega)
theorem y74(x:UInt8)(w:World):Calls prog 250 #[.int .u8 (x.toNat:Int)] w fun e w'=>e=.returned (.bool (cpB x))∧w=w':=by
 have h:=x.toNat_lt;have K1:=z7 (y73 x);cases hd:dgB x with
 | true=>
  rw[hd]at K1;have e:cpB x=true:=by unfold cpB;rw[hd];rfl
  rw[e];clear hd e
  go_enter func250,ntmps250
  go_wp2_with (go_at_call 156;refine(K1.out _).mono ?_;rintro e w1 ⟨rfl,rfl⟩)
  all_goals go_ret
  all_goals exact⟨rfl,rfl⟩
 | false=>
  rw[hd]at K1;have e:cpB x=(decide (65≤x.toNat)&&decide (x.toNat≤90)):=by unfold cpB;rw[hd];rfl
  rw[e];clear hd e
  go_enter func250,ntmps250
  go_wp2_with (go_at_call 156;refine(K1.out _).mono ?_;rintro e w1 ⟨rfl,rfl⟩)
  all_goals go_ret
  all_goals (refine⟨y0E ?_,rfl⟩;rw[Bool.eq_iff_iff];simp;omega)
theorem yE0(b:ByteArray)(w:World)(hs:b.size≤1000000):Calls prog 181 #[.string b] w fun e w'=>e=.returned (.bool (dgsL (bl b)))∧Below w.heap.size w w':=by
 have HL:Hid ((bl b).length=b.size):=zJ b;have K1:=z7 y78
 go_enter func181,ntmps181
 go_wp2
 go_loopw [6] (fun i wr=>∃k:Nat,i=.int .i64 (k:Int)∧k≤b.size∧Hid (((bl b).take k).all dgB=true)∧wr=w) (fun i _=>b.size-(intOf i).toNat)
 case atStart=>exact⟨0,rfl,zD,z7 (by simp),rfl⟩
 case round=>
  obtain⟨k,rfl,hk,hR,rfl⟩:=hrel;by_cases H5:k<b.size
  · obtain⟨x,hx⟩:=zM (bl b) k (by rw[HL.out];exact H5)
    have X:∀h,b[k]'h=x:=zT b k x hx;have H6:=x.toNat_lt;obtain⟨h1,h2⟩:=zq dgB (bl b) k x hx hR.out;have k2:=fun w=>K1.out x w
    cases hc:dgB x with
    | true=>
     have e:=h1 hc;have E:=z7 e;clear e;clear h1 h2 hx;rw[hc]at k2;have K2:=z7 k2;clear k2;clear hc
     go_wp2_with (go_at_call 275;refine(K2.out _).mono ?_;rintro e w1 ⟨rfl,rfl⟩)
     go_roundw
     case rel=>exact⟨k+1,by first|omega|go_num,by omega,E,trivial⟩
     case measure=>simp[intOf];omega
    | false=>
     have e:dgsL (bl b)=false:=by unfold dgsL;rw[h2 hc];rfl
     have E:=z7 e;clear e;clear h1 h2 hx;rw[hc]at k2;have K2:=z7 k2;clear k2;clear hc
     go_wp2_with (go_at_call 275;refine(K2.out _).mono ?_;rintro e w1 ⟨rfl,rfl⟩)
     go_ret
     exact⟨y0E E.out.symm,z8⟩
  · have e:dgsL (bl b) = !(bl b).isEmpty:=by
     unfold dgsL;rw[y5i dgB (bl b) k (by rw[HL.out];omega) hR.out,Bool.true_and]
    have E:=z7 e;clear e
    go_wp2
    go_ret
    refine⟨y0E ?_,z8⟩;rw[E.out,ByteArray.toList_eq]
    first|done|rfl
theorem y5H(b:ByteArray)(w:World)(hs:b.size≤1000000):Calls prog 282 #[.string b] w fun e w'=>e=.returned (.bool (cpsL (bl b)))∧Below w.heap.size w w':=by
 have HL:Hid ((bl b).length=b.size):=zJ b;have K1:=z7 y78
 go_enter func282,ntmps282
 go_wp2
 go_loopw [6] (fun i wr=>∃k:Nat,i=.int .i64 (k:Int)∧k≤b.size∧Hid (((bl b).take k).all cpB=true)∧wr=w) (fun i _=>b.size-(intOf i).toNat)
 case atStart=>exact⟨0,rfl,zD,z7 (by simp),rfl⟩
 case round=>
  obtain⟨k,rfl,hk,hR,rfl⟩:=hrel;by_cases H5:k<b.size
  · obtain⟨x,hx⟩:=zM (bl b) k (by rw[HL.out];exact H5)
    have X:∀h,b[k]'h=x:=zT b k x hx;have H6:=x.toNat_lt;obtain⟨h1,h2⟩:=zq cpB (bl b) k x hx hR.out;have k2:=fun w=>K1.out x w
    cases hc:cpB x with
    | true=>
     have e:=h1 hc;have E:=z7 e;clear e;clear h1 h2 hx;cases hd:dgB x with
     | true=>
      rw[hd]at k2;have K2:=z7 k2;clear k2;clear hc hd
      go_wp2_with (go_at_call 275;refine(K2.out _).mono ?_;rintro e w1 ⟨rfl,rfl⟩)
      go_roundw
      case rel=>exact⟨k+1,by first|omega|go_num,by omega,E,trivial⟩
      case measure=>simp[intOf];omega
     | false=>
      rw[hd]at k2;have g:(65:Int)≤(x.toNat:Int)∧(x.toNat:Int)≤90:=by unfold cpB at hc;rw[hd]at hc;simp at hc;omega
      obtain⟨g1,g2⟩:=g;have K2:=z7 k2;clear k2;clear hc hd
      go_wp2_with (go_at_call 275;refine(K2.out _).mono ?_;rintro e w1 ⟨rfl,rfl⟩)
      go_roundw
      case rel=>exact⟨k+1,by first|omega|go_num,by omega,E,trivial⟩
      case measure=>simp[intOf];omega
    | false=>
     have e:cpsL (bl b)=false:=by unfold cpsL;rw[h2 hc];rfl
     have E:=z7 e;clear e;clear h1 h2 hx;cases hd:dgB x with
     | true=>unfold cpB at hc;rw[hd]at hc;cases hc
     | false=>
      rw[hd]at k2;have g:(x.toNat:Int)<65∨(90:Int)<(x.toNat:Int):=by unfold cpB at hc;rw[hd]at hc;simp at hc;omega
      have K2:=z7 k2;clear k2;clear hc hd;by_cases g1:(x.toNat:Int)<65
      · clear g
        go_wp2_with (go_at_call 275;refine(K2.out _).mono ?_;rintro e w1 ⟨rfl,rfl⟩)
        go_ret
        exact⟨y0E E.out.symm,z8⟩
      · have g2:(90:Int)<(x.toNat:Int):=by omega
        clear g
        go_wp2_with (go_at_call 275;refine(K2.out _).mono ?_;rintro e w1 ⟨rfl,rfl⟩)
        go_ret
        exact⟨y0E E.out.symm,z8⟩
  · have e:cpsL (bl b) = !(bl b).isEmpty:=by
     unfold cpsL;rw[y5i cpB (bl b) k (by rw[HL.out];omega) hR.out,Bool.true_and]
    have E:=z7 e;clear e
    go_wp2
    go_ret
    refine⟨y0E ?_,z8⟩;rw[E.out,ByteArray.toList_eq]
    first|done|rfl
theorem yDs(b:ByteArray)(w:World)(hs:b.size≤1000000):Calls prog 77 #[.string b] w fun e w'=>e=.returned (.bool (dgsL (bl b)))∧Below w.heap.size w w':=by
 have HL:Hid ((bl b).length=b.size):=zJ b;have K1:=z7 y73
 go_enter func77,ntmps77
 go_wp2
 go_loopw [3] (fun i wr=>∃k:Nat,i=.int .i64 (k:Int)∧k≤b.size∧Hid (((bl b).take k).all dgB=true)∧wr=w) (fun i _=>b.size-(intOf i).toNat)
 case atStart=>exact⟨0,rfl,zD,z7 (by simp),rfl⟩
 case round=>
  obtain⟨k,rfl,hk,hR,rfl⟩:=hrel;by_cases H5:k<b.size
  · obtain⟨x,hx⟩:=zM (bl b) k (by rw[HL.out];exact H5)
    have X:∀h,b[k]'h=x:=zT b k x hx;have H6:=x.toNat_lt;obtain⟨h1,h2⟩:=zq dgB (bl b) k x hx hR.out;have k2:=fun w=>K1.out x w
    cases hc:dgB x with
    | true=>
     have e:=h1 hc;have E:=z7 e;clear e;clear h1 h2 hx;rw[hc]at k2;have K2:=z7 k2;clear k2;clear hc
     go_wp2_with (go_at_call 156;refine(K2.out _).mono ?_;rintro e w1 ⟨rfl,rfl⟩)
     go_roundw
     case rel=>exact⟨k+1,by first|omega|go_num,by omega,E,trivial⟩
     case measure=>simp[intOf];omega
    | false=>
     have e:dgsL (bl b)=false:=by unfold dgsL;rw[h2 hc];rfl
     have E:=z7 e;clear e;clear h1 h2 hx;rw[hc]at k2;have K2:=z7 k2;clear k2;clear hc
     go_wp2_with (go_at_call 156;refine(K2.out _).mono ?_;rintro e w1 ⟨rfl,rfl⟩)
     go_ret
     exact⟨y0E E.out.symm,z8⟩
  · have e:dgsL (bl b)=decide ((b.size:Int) > 0):=by
     unfold dgsL;rw[y5i dgB (bl b) k (by rw[HL.out];omega) hR.out,Bool.true_and];rw[Bool.eq_iff_iff,decide_eq_true_iff,Bool.not_eq_true',List.isEmpty_eq_false_iff,←List.length_pos_iff,HL.out];omega
    have E:=z7 e;clear e
    go_wp2
    go_ret
    refine⟨y0E ?_,z8⟩;rw[E.out]
    first|done|simp
theorem y89(b:ByteArray)(w:World)(hs:b.size≤1000000):Calls prog 154 #[.string b] w fun e w'=>e=.returned (.bool (cpsL (bl b)))∧Below w.heap.size w w':=by
 have HL:Hid ((bl b).length=b.size):=zJ b;have K1:=z7 y74
 go_enter func154,ntmps154
 go_wp2
 go_loopw [3] (fun i wr=>∃k:Nat,i=.int .i64 (k:Int)∧k≤b.size∧Hid (((bl b).take k).all cpB=true)∧wr=w) (fun i _=>b.size-(intOf i).toNat)
 case atStart=>exact⟨0,rfl,zD,z7 (by simp),rfl⟩
 case round=>
  obtain⟨k,rfl,hk,hR,rfl⟩:=hrel;by_cases H5:k<b.size
  · obtain⟨x,hx⟩:=zM (bl b) k (by rw[HL.out];exact H5)
    have X:∀h,b[k]'h=x:=zT b k x hx;have H6:=x.toNat_lt;obtain⟨h1,h2⟩:=zq cpB (bl b) k x hx hR.out;have k2:=fun w=>K1.out x w
    cases hc:cpB x with
    | true=>
     have e:=h1 hc;have E:=z7 e;clear e;clear h1 h2 hx;rw[hc]at k2;have K2:=z7 k2;clear k2;clear hc
     go_wp2_with (go_at_call 250;refine(K2.out _).mono ?_;rintro e w1 ⟨rfl,rfl⟩)
     go_roundw
     case rel=>exact⟨k+1,by first|omega|go_num,by omega,E,trivial⟩
     case measure=>simp[intOf];omega
    | false=>
     have e:cpsL (bl b)=false:=by unfold cpsL;rw[h2 hc];rfl
     have E:=z7 e;clear e;clear h1 h2 hx;rw[hc]at k2;have K2:=z7 k2;clear k2;clear hc
     go_wp2_with (go_at_call 250;refine(K2.out _).mono ?_;rintro e w1 ⟨rfl,rfl⟩)
     go_ret
     exact⟨y0E E.out.symm,z8⟩
  · have e:cpsL (bl b)=decide ((b.size:Int) > 0):=by
     unfold cpsL;rw[y5i cpB (bl b) k (by rw[HL.out];omega) hR.out,Bool.true_and];rw[Bool.eq_iff_iff,decide_eq_true_iff,Bool.not_eq_true',List.isEmpty_eq_false_iff,←List.length_pos_iff,HL.out];omega
    have E:=z7 e;clear e
    go_wp2
    go_ret
    refine⟨y0E ?_,z8⟩;rw[E.out]
    first|done|simp
theorem yHk(l:List UInt8)(i k:Nat)(hi:wdI l=i)(hk:i≤k)(hl:k≤l.length)(ha:((l.drop i).take (k-i)).all azB=true)(hn:∀c,l[k]?=some c→azB c=false):wdJ l=k:=by
 unfold wdJ;rw[hi,y1k azB (l.drop i) (k-i) ha (by rw[List.length_drop];omega) fun c hc=>hn c (by rw[List.getElem?_drop]at hc;rwa [show i+(k-i)=k by omega]at hc)];omega
theorem yJI(l:List UInt8)(i k:Nat)(x:UInt8)(H5:i≤k)(hx:l[k]?=some x)(h:azB x=true)(ha:((l.drop i).take (k-i)).all azB=true):((l.drop i).take (k+1-i)).all azB=true:=by
 have:=(zq azB (l.drop i) (k-i) x (by rw[List.getElem?_drop];rwa [show i+(k-i)=k by omega]) ha).1 h
 rwa [show k-i+1=k+1-i by omega]at this
theorem yG3(b:ByteArray)(w:World)(hs:b.size≤1000000):Calls prog 276 #[.string b] w fun e w'=>e=.returned (.tuple #[.int .i64 (wdI (bl b)),.int .i64 (wdJ (bl b))])∧Below w.heap.size w w':=by
 have HL:Hid ((bl b).length=b.size):=zJ b
 go_enter func276,ntmps276
 go_wp2
 go_loopw [4] (fun i wr=>∃k:Nat,i=.int .i64 (k:Int)∧k≤b.size∧Hid (((bl b).take k).all blB=true)∧wr=w) (fun i _=>b.size-(intOf i).toNat)
 case atStart=>exact⟨0,rfl,zD,z7 (by simp),rfl⟩
 case round=>
  obtain⟨k,rfl,hk,hR,rfl⟩:=hrel;have fin:∀(hn:∀c,(bl b)[k]?=some c→blB c=false),Hid (wdI (bl b)=k):=fun hn=>y1k blB (bl b) k hR.out (by rw[HL.out];exact hk) hn
  by_cases H6:k<b.size
  · obtain⟨x,hx⟩:=zM (bl b) k (by rw[HL.out];exact H6)
    have X:∀h,b[k]'h=x:=zT b k x hx;obtain⟨h1,h2⟩:=zq blB (bl b) k x hx hR.out;cases hc:blB x with
    | true=>
     have e:=h1 hc;have E:=z7 e;clear e;clear h1 h2 hx fin;have g:x=32∨x=9:=by simpa[blB]using hc
     clear hc;rcases g with rfl|rfl
     · go_wp2
       go_roundw
       case rel=>exact⟨k+1,by first|omega|go_num,by omega,E,trivial⟩
       case measure=>simp[intOf];omega
     · go_wp2
       go_roundw
       case rel=>exact⟨k+1,by first|omega|go_num,by omega,E,trivial⟩
       case measure=>simp[intOf];omega
    | false=>
     have FI:=fin (fun c H5=>by rw[hx]at H5;cases H5;exact hc);have g1:¬(x.toNat:Int)=32:=fun h=>by
      have:x=32:=by apply UInt8.toNat_inj.1;simpa using(by omega:x.toNat=32)
      subst this;cases hc
     have g2:¬(x.toNat:Int)=9:=fun h=>by
      have:x=9:=by apply UInt8.toNat_inj.1;simpa using(by omega:x.toNat=9)
      subst this;cases hc
     have g3:((x.toNat:Int)==32)=false:=by simpa using g1
     have g4:((x.toNat:Int)==9)=false:=by simpa using g2
     clear h1 h2 hx fin hc hR g1 g2
     go_wp2
     go_loopw [5] (fun i wr2=>∃m:Nat,i=.int .i64 (m:Int)∧k≤m∧m≤b.size∧Hid ((((bl b).drop k).take (m-k)).all azB=true)∧wr2=wr) (fun i _=>b.size-(intOf i).toNat)
     case atStart=>exact⟨k,rfl,zA,hk,z7 (by simp),rfl⟩
     case round=>
      obtain⟨m,rfl,H7,hm,hR,rfl⟩:=hrel;have fin:∀(hn:∀c,(bl b)[m]?=some c→azB c=false),wdJ (bl b)=m:=fun hn=>yHk (bl b) k m FI.out H7 (by rw[HL.out];exact hm) hR.out hn
      by_cases H6:m<b.size
      · obtain⟨x,hx⟩:=zM (bl b) m (by rw[HL.out];exact H6)
        have X:∀h,b[m]'h=x:=zT b m x hx;have H8:=x.toNat_lt;cases hc:azB x with
        | true=>
         have E:=z7 (yJI (bl b) k m x H7 hx hc hR.out);have g:(65:Int)≤(x.toNat:Int)∧(x.toNat:Int)≤90:=by unfold azB at hc;simp at hc;omega
         obtain⟨g1,g2⟩:=g;clear hx fin hc
         go_wp2
         go_roundw
         case rel=>exact⟨m+1,by first|omega|go_num,by omega,by omega,E,trivial⟩
         case measure=>simp[intOf];omega
        | false=>
         have J:=z7 (fin (fun c H5=>by rw[hx]at H5;cases H5;exact hc));have g:(x.toNat:Int)<65∨(90:Int)<(x.toNat:Int):=by unfold azB at hc;simp at hc;omega
         clear hx fin hc;by_cases g1:(x.toNat:Int)<65
         · clear g
           go_wp2
           go_ret2
           exact⟨by rw[FI.out,J.out];first|done|rfl,z8⟩
         · have g2:(90:Int)<(x.toNat:Int):=by omega
           clear g
           go_wp2
           go_ret2
           exact⟨by rw[FI.out,J.out];first|done|rfl,z8⟩
      · have J:=z7 (fin (fun c H5=>by rw[List.getElem?_eq_none (by rw[HL.out];omega)]at H5;cases H5))
        have hz:m=b.size:=by omega
        clear fin
        go_wp2
        go_ret2
        exact⟨by rw[FI.out,J.out];first|done|rfl,z8⟩
  · have FI:=fin (fun c H5=>by rw[List.getElem?_eq_none (by rw[HL.out];omega)]at H5;cases H5)
    have j0:wdJ (bl b)=k:=yHk (bl b) k k FI.out zA (by rw[HL.out];exact hk) (by simp) (fun c H5=>by rw[List.getElem?_eq_none (by rw[HL.out];omega)]at H5;cases H5);have J:=z7 j0;clear j0;clear fin hR
    go_wp2
    go_loopw [5] (fun i wr2=>i=.int .i64 (k:Int)∧wr2=wr) (fun i _=>b.size-(intOf i).toNat)
    case atStart=>exact⟨rfl,rfl⟩
    case round=>
     obtain⟨rfl,rfl⟩:=hrel
     go_wp2
     go_ret2
     exact⟨by rw[FI.out,J.out];first|done|rfl,z8⟩
def y7K(c f:UInt8):Bool:=if f=48 then dgB c else c==f
def y9j(l g:List UInt8)(k:Nat):Bool:=match l[k]?,g[k]? with|some c,some f=>if f=48 then dgB c else c==f|_,_=>true
theorem yEj(l g:List UInt8)(h:l.length=g.length):zU l g=(List.range l.length).all (y9j l g):=y8P l g h
theorem yB6(l g:List UInt8)(k:Nat)(c f:UInt8)(hc:l[k]?=some c)(hf:g[k]?=some f):y9j l g k=y7K c f:=by unfold y9j;rw[hc,hf];rfl
theorem yFt(c f:UInt8):(c==f)=decide ((c.toNat:Int)=(f.toNat:Int)):=by
 rw[Bool.eq_iff_iff,beq_iff_eq,decide_eq_true_iff,Int.ofNat_inj,UInt8.toNat_inj]
theorem y0t(s form:ByteArray)(w:World)(hs:s.size≤1000000)(H7:form.size≤1000000):Calls prog 182 #[.string s,.string form] w fun e w'=>e=.returned (.bool (zU (bl s) (bl form)))∧Below w.heap.size w w':=by
 have HS:Hid ((bl s).length=s.size):=zJ s;have HF:Hid ((bl form).length=form.size):=zJ form;have K1:=z7 y78;by_cases hz:s.size=form.size
 · have HK:=z7 (yEj (bl s) (bl form) (by rw[HS.out,HF.out,hz]))
   have H8:(s.size:Int)=(form.size:Int):=by omega
   go_enter func182,ntmps182
   go_wp2
   go_loopw [13] (fun i wr=>∃k:Nat,i=.int .i64 (k:Int)∧k≤form.size∧Hid ((List.range k).all (y9j (bl s) (bl form))=true)∧Below w.heap.size w wr) (fun i _=>form.size-(intOf i).toNat)
   case atStart=>exact⟨0,rfl,zD,z7 rfl,z8⟩
   case round=>
    obtain⟨k,rfl,hk,hR,H5⟩:=hrel;by_cases H9:k<form.size
    · have H6:k<s.size:=by omega
      obtain⟨x,hx⟩:=zM (bl s) k (by rw[HS.out];exact H6);obtain⟨y,hy⟩:=zM (bl form) k (by rw[HF.out];exact H9);have X:∀h,s[k]'h=x:=zT s k x hx;have Y:∀h,form[k]'h=y:=zT form k y hy;have Hb:=x.toNat_lt;have Ha:=y.toNat_lt;have q:=yB6 (bl s) (bl form) k x y hx hy;obtain⟨h1,h2⟩:=y3L (y9j (bl s) (bl form)) (bl s).length k (by rw[HS.out];exact H6) hR.out;rw[←HK.out]at h2;rw[q]at h1 h2;clear hx hy q;by_cases hf:y=48
      · subst hf
        have k2:=fun w=>K1.out x w
        have e0:y7K x 48=dgB x:=by unfold y7K;rw[if_pos rfl]
        rw[e0]at h1 h2;cases hc:dgB x with
        | true=>
         rw[hc]at k2;have e:=h1 hc;have E:=z7 e;have K2:=z7 k2;clear e k2;clear h1 h2 hc e0
         go_wp2_with (go_at_call 275;refine(K2.out _).mono ?_;rintro e w1 ⟨rfl,rfl⟩)
         go_roundw
         case rel=>exact⟨k+1,by first|omega|go_num,by omega,E,by first|exact H5|exact H5.drew⟩
         case measure=>simp[intOf];omega
        | false=>
         rw[hc]at k2;have e:=h2 hc;have E:=z7 e;have K2:=z7 k2;clear e k2;clear h1 h2 hc e0
         go_wp2_with (go_at_call 275;refine(K2.out _).mono ?_;rintro e w1 ⟨rfl,rfl⟩)
         go_ret
         exact⟨y0E E.out.symm,by first|exact H5|exact H5.drew⟩
      · have g1:((y.toNat:Int)==48)=false:=by rw[Y2];intro h;exact hf (by apply UInt8.toNat_inj.1;simpa using(by omega:y.toNat=48))
        have e0:y7K x y=decide ((x.toNat:Int)=(y.toNat:Int)):=by unfold y7K;rw[if_neg hf,yFt]
        rw[e0]at h1 h2;clear hf e0;obtain⟨p,hp⟩:∃p,p=(x.toNat:Int):=⟨_,rfl⟩;obtain⟨r,hr⟩:∃r,r=(y.toNat:Int):=⟨_,rfl⟩;have X':∀h,((s[k]'h).toNat:Int)=p:=fun h=>by rw[X h,hp]
        have Y':∀h,((form[k]'h).toNat:Int)=r:=fun h=>by rw[Y h,hr]
        rw[←hp,←hr]at h1 h2;rw[←hr]at g1;clear X Y;by_cases hc:p=r
        · have e:=h1 (decide_eq_true hc)
          have E:=z7 e;clear e;have g2:(p==r)=true:=by simpa using hc
          clear h1 h2;subst hc
          go_wp2
          go_region
          go_wp2
          go_roundw
          case rel=>exact⟨k+1,by first|omega|go_num,by omega,E,by first|exact H5|exact H5.drew⟩
          case measure=>simp[intOf];omega
        · have e:=h2 (decide_eq_false hc)
          have E:=z7 e;clear e;have g2:(p==r)=false:=by simpa using hc
          clear h1 h2
          go_wp2
          go_region
          go_wp2
          go_ret
          exact⟨y0E E.out.symm,by first|exact H5|exact H5.drew⟩
    · have e:zU (bl s) (bl form)=true:=by rw[HK.out,HS.out,hz,show form.size=k by omega];exact hR.out
      have Hc:k=form.size:=by omega
      have E:=z7 e;clear e
      go_wp2
      go_ret
      exact⟨y0E E.out.symm,by first|exact H5|exact H5.drew⟩
 · have e:zU (bl s) (bl form)=false:=y7J (by rw[HS.out,HF.out];exact hz)
   have H8:¬(s.size:Int)=(form.size:Int):=by omega
   rw[e]
   go_enter func182,ntmps182
   go_wp2
   go_ret
   exact⟨rfl,z8⟩
end Go.Proofs.YtgjchmcpondogaaGreatDoor
namespace Go.Proofs.YtgjchmcpondogaaGreatDoor
open Go Go.Rf Go.RowKit Go.Proofs.Tryz
abbrev FactF:=Op→List V2→Option V2
def factOr(F G:FactF):FactF:=fun o a=>match F o a with|some r=>some r|none=>G o a
variable [Sym]
def FOk(P:Program)(F:FactF):Prop:=∀(o:Op) (args:List V2) (r:V2),F o args=some r→∃v,(∀ρ,r.den ρ=some v)∧∀(o':Oper) (ev:Operand→V2) (val:Operand→Value),o'.op=o→o.operands.toList.map ev=args→(∀x∈o.operands,∃ρ,(ev x).den ρ=some (val x))→∀w:World,(execOp val o').run P w=.ok (.value v) w
theorem y1J{P:Program}{F G:FactF}(hF:FOk P F)(hG:FOk P G):FOk P (factOr F G):=by
 intro o args r h;unfold factOr at h;split at h
 · rename_i q hq;cases h;exact hF _ _ _ hq
 · exact hG _ _ _ h
end Go.Proofs.YtgjchmcpondogaaGreatDoor
namespace Go.Proofs.YtgjchmcpondogaaGreatDoor
open Go Go.Rf Go.RowKit Go.Shelf Go.Lib Go.ChangeShapes Go.WideShapes Go.ChangeAt Go.Proofs.Tryz
instance (priority:=low) sym0:Sym:=⟨fun _=>.int .i64 0,fun _=>rfl,fun _=>rfl,fun _ _ h=>by cases h⟩
def isU8(v:Value)(z:Int):Bool:=match v with | .int .u8 n=>n==z|_=>false
theorem y9p{v:Value}{z:Int}(h:isU8 v z=true):v=.int .u8 z:=by
 unfold isU8 at h;split at h
 · rw[eq_of_beq h]
 · cases h
theorem y4R{r:R16 (R16 Value)}{n off:Nat}{v:Value}(h:gat r n off=some v):off<n∧v=R16.get (lo off) nov (R16.get (hi off) nrow r):=by
 unfold gat at h;split at h
 · rename_i hb
   cases h;exact⟨by simpa using hb,rfl⟩
 · cases h
theorem yFz{p:Nat→Bool}{n:Nat}(h:(List.range n).all p=true){i:Nat}(hi:i<n):p i=true:=List.all_eq_true.1 h i (List.mem_range.2 hi)
theorem g2_all:((List.range 256).all fun o=>isU8 (R16.get (lo o) nov (R16.get (hi o) nrow g2)) (firstT o:Int))=true:=by kernel_rfl
theorem g3_all:((List.range 32).all fun o=>isU8 (R16.get (lo o) nov (R16.get (hi o) nrow g3)) (match o%2 with|0=>(accLo (o/2):Int)|_=>(accHi (o/2):Int)))=true:=by kernel_rfl
theorem g6_all:((List.range 32).all fun o=>isU8 (R16.get (lo o) nov (R16.get (hi o) nrow g6)) ((Go.Lib.deBruijn32tab.getD o 0:Nat):Int))=true:=by kernel_rfl
structure GW (w:World):Prop where
 gok:GOk w w.heap.size gk
 tw:TW w
theorem yFh{w:World}{a:Addr}{v:Value}(h:w.cell? a=some v):a.block<w.heap.size:=by
 unfold World.cell? at h;cases hb:w.heap[a.block]? with
 | none=>rw[hb]at h;cases h
 | some b=>exact(Array.getElem?_eq_some_iff.1 hb).1
theorem GW.bel{w w':World}(h:GW w)(hb:Below w.heap.size w w'):GW w':=⟨h.gok.later hb hb.size,h.tw.bel hb⟩
theorem yDP:(Rows.laid_diacritic_sniff_starts:DataW Unit)=.agg [.agg [.lit (.string [73,68,51]),.lit (.int .i64 1)],.agg [.lit (.string [79,103,103,83]),.lit (.int .i64 2)],.agg [.lit (.string [102,76,97,67]),.lit (.int .i64 3)]]:=rfl
theorem str_of{b:ByteArray}{l:List UInt8}(h:b.data.toList=l):b=⟨⟨l⟩⟩:=by
 cases b;cases h;rfl
theorem y6u{w:World}{fuel:Nat}{cs:List Value}{ds:List (DataW Unit)}{p:List MemPlace}(h:DataW.trod (fun _=>()) prog w 0 (fun _=>true) false fuel 177 cs=some (.agg ds,p))(i:Nat)(hi:i<3)(l:List UInt8)(z:Int)
 (hd:ds[i]?=some (.agg [.lit (.string l),.lit (.int .i64 z)])):cs[2*i]?=some (.string ⟨⟨l⟩⟩)∧cs[2*i+1]?=some (.int .i64 z):=by
 obtain⟨fuel',d,q,H5,he⟩:=array_elem underlying177 h i hi;rw[hd]at H5;cases H5;rw[show Tryz.prog.cellsOf 176=2 by kernel_rfl]at he;obtain⟨y0,y1,n,hx,_,h0,h1⟩:=Go.ChangeShapes.trod_struct2 underlying176 he;obtain⟨s,c0,x0,_⟩:=DataW.trod_string underlying9 h0;obtain⟨m,c1,x1,_⟩:=DataW.trod_int underlying41 h1;subst x0;subst x1;simp only[Prod.mk.injEq,DataW.agg.injEq,List.cons.injEq,DataW.lit.injEq,Lit.string.injEq,Lit.int.injEq,and_true,true_and]at hx;obtain⟨⟨e0,e1⟩,_⟩:=hx;rw[show Tryz.prog.cellsOf 9=1 by kernel_rfl]at c0;rw[show Tryz.prog.cellsOf 41=1 by kernel_rfl]at c1;have f0:=congrArg (·[0]?) c0;have f1:=congrArg (·[0]?) c1;simp only[List.getElem?_take,List.getElem?_drop]at f0 f1;simp at f0 f1
 constructor
 · rw[Nat.mul_comm,f0,str_of e0.symm]
 · rw[Nat.mul_comm,f1,e1]
theorem gok_of{W:World} (r1:VarReads prog W "math/bits.deBruijn32tab" Rows.laid_math_bits_deBruijn32tab) (r2:VarReads prog W "unicode/utf8.acceptRanges" Rows.laid_unicode_utf8_acceptRanges) (r3:VarReads prog W "unicode/utf8.first" Rows.laid_unicode_utf8_first)
 (r4:VarReads prog W "diacritic/sniff.starts" Rows.laid_diacritic_sniff_starts):GOk W W.heap.size gk:=by
 rw[y8v]at r1;rw[y93]at r2;rw[yBH]at r3;rw[yDP]at r4;have hU:Go.Lib.Utf8Tabs 1 2 W:=utf8Tabs_of_readsT tT tX r3 r2;have H8:∀i,i<32→W.cell? ⟨4,i,none⟩=some (.int .u8 (Go.Lib.deBruijn32tab.getD i 0:Nat)):=by
  intro i hi;obtain⟨g,t,cs,fuel,p,hg,H6,H5,hd⟩:=r1;obtain rfl:=zF ((show Tryz.prog.globalNamed "math/bits.deBruijn32tab" = some 4 by kernel_rfl).symm.trans hg);obtain rfl:=zF ((show(Tryz.prog.globals[4]?).map (·.type)=some 472 by kernel_rfl).symm.trans H6);have H9:=cells_of_tab underlying472 underlying5 (by kernel_rfl) (by kernel_rfl) hd;have hl:Go.Lib.deBruijn32tab.length=32:=by kernel_rfl
  rw[World.var?_cell hg H5 i,←Array.getElem?_toList,H9];simp[List.getD,hl,hi]
 have H7:∀i,i<6→∀v,R16.get (lo i) nov (R16.get (hi i) nrow g1)=v→W.cell? ⟨0,i,none⟩=some v:=by
  intro i hi v hv;obtain⟨g,t,cs,fuel,p,hg,H6,H5,hd⟩:=r4;obtain rfl:=zF ((show Tryz.prog.globalNamed "diacritic/sniff.starts" = some 0 by kernel_rfl).symm.trans hg);obtain rfl:=zF ((show(Tryz.prog.globals[0]?).map (·.type)=some 177 by kernel_rfl).symm.trans H6);have q0:=y6u hd 0 (by decide) _ _ rfl;have q1:=y6u hd 1 (by decide) _ _ rfl;have q2:=y6u hd 2 (by decide) _ _ rfl;rw[World.var?_cell hg H5 i,←Array.getElem?_toList,←hv]
  match i,hi with
  | 0,_=>exact q0.1
  | 1,_=>exact q0.2
  | 2,_=>exact q1.1
  | 3,_=>exact q1.2
  | 4,_=>exact q2.1
  | 5,_=>exact q2.2
 have key:∀a v,gk a=some v→W.cell? a=some v:=by
  intro a v h;obtain⟨b,off,sp⟩:=a;cases sp with
  | some x=>cases h
  | none=>
   have h:gks b off=some v:=h;unfold gks at h;split at h
   · rename_i hb
     obtain rfl:=Nat.eq_of_beq_eq_true hb;obtain⟨ho,rfl⟩:=y4R h;rw[hU.1 off ho,y9p (yFz g2_all ho)]
   · split at h
     · rename_i hb
       obtain rfl:=Nat.eq_of_beq_eq_true hb;obtain⟨ho,rfl⟩:=y4R h;rw[y9p (yFz g3_all ho)];have hq:=hU.2 (off/2) (by omega);rcases Nat.mod_two_eq_zero_or_one off with e|e
       · rw[e]
         have e2:2*(off/2)=off:=by omega
         rw[e2]at hq;exact hq.1
       · rw[e]
         have e2:2*(off/2)+1=off:=by omega
         rw[e2]at hq;exact hq.2
     · split at h
       · rename_i hb
         obtain rfl:=Nat.eq_of_beq_eq_true hb;obtain⟨ho,rfl⟩:=y4R h;rw[H8 off ho,y9p (yFz g6_all ho)]
       · split at h
         · rename_i hb
           obtain rfl:=Nat.eq_of_beq_eq_true hb;obtain⟨ho,rfl⟩:=y4R h;exact H7 off ho _ rfl
         · cases h
 exact fun a v h=>⟨yFh (key a v h),key a v h⟩
theorem gw_of{W:World} (r1:VarReads prog W "math/bits.deBruijn32tab" Rows.laid_math_bits_deBruijn32tab) (r2:VarReads prog W "unicode/utf8.acceptRanges" Rows.laid_unicode_utf8_acceptRanges) (r3:VarReads prog W "unicode/utf8.first" Rows.laid_unicode_utf8_first)
 (r4:VarReads prog W "diacritic/sniff.starts" Rows.laid_diacritic_sniff_starts) (H8:W.ShapedOpen prog):GW W:=by
 refine⟨gok_of r1 r2 r3 r4,?_⟩;rw[y8v]at r1;rw[y93]at r2;rw[yBH]at r3;have hU:Go.Lib.Utf8Tabs 1 2 W:=utf8Tabs_of_readsT tT tX r3 r2;have H6:∀i,i<32→W.cell? ⟨4,i,none⟩=some (.int .u8 (Go.Lib.deBruijn32tab.getD i 0:Nat)):=by
  intro i hi;obtain⟨g,t,cs,fuel,p,hg,H7,H5,hd⟩:=r1;obtain rfl:=zF ((show Tryz.prog.globalNamed "math/bits.deBruijn32tab" = some 4 by kernel_rfl).symm.trans hg);obtain rfl:=zF ((show(Tryz.prog.globals[4]?).map (·.type)=some 472 by kernel_rfl).symm.trans H7);have Ha:=cells_of_tab underlying472 underlying5 (by kernel_rfl) (by kernel_rfl) hd;have hl:Go.Lib.deBruijn32tab.length=32:=by kernel_rfl
  rw[World.var?_cell hg H5 i,←Array.getElem?_toList,Ha];simp[List.getD,hl,hi]
 have H9:∃m,W.cell? ⟨3,0,none⟩=some (.int .i64 m):=
  cell_of_shapedOpen_int (zero:=#[.int .i64 0]) (t:=3) H8 (by decide +kernel) (by kernel_rfl) rfl (by kernel_rfl) (by kernel_rfl) underlying3
 refine⟨hU,H6,H9,?_⟩;have:=yFh (H6 0 (by omega));simp only at this;omega
def SQ(e:Entry):Prop:=∀w:World,TW w→Calls prog e.1 e.2.1.toArray w fun x w'=>x=.returned e.2.2∧Below w.heap.size w w'
theorem y4k{s sub:ByteArray}{z:Int}(hs:s.size<4294967281)(h:Go.Lib.index s.data.toList sub.data.toList=z):SQ (406,[.string s,.string sub],.int .i64 z):=fun w hT=>
 let ⟨m,hm⟩:=hT.ml
 (Tryz.strings_Index s sub m w hs hm).mono fun x w' ⟨h1,h2⟩=>⟨by rw[h1,h],by rw[h2];exact z8⟩
theorem yCl{c:Int}{b:ByteArray}{v:Value}(hb:b.size≤1073741824)(h:decV c (bl b)=v):SQ (127,[.int .i64 c,.string b],v):=fun w hT=>
 (y0w c b w hT hb).mono fun x w' ⟨h1,h2⟩=>⟨by rw[h1,h],h2⟩
theorem sq02:SQ (236,[],.bool true):=fun w hT=>y2t w hT
theorem sq04:SQ (392,[],.bool true):=fun w hT=>y5g w hT
theorem sq05:SQ (326,[],.bool true):=fun w hT=>y5f w hT
theorem sq06:SQ (327,[],.bool true):=fun w hT=>y5e w
theorem sq07:SQ (328,[],.bool true):=fun w hT=>y5d w hT
theorem sq08:SQ (329,[],.bool true):=fun w hT=>y5c w hT
theorem sq09:SQ (238,[],.bool true):=fun w hT=>y5b w hT
theorem sq10:SQ (143,[],.bool true):=fun w hT=>yAH w hT
end Go.Proofs.YtgjchmcpondogaaGreatDoor
namespace Go.Proofs.YtgjchmcpondogaaGreatDoor
open Go Go.Rf Go.RowKit Go.Proofs.Tryz
theorem k0_ok:KAll SQ k0:=⟨⟨⟨⟨trivial,⟨⟨⟨⟨trivial,⟨trivial,⟨⟨⟨⟨⟨⟨⟨⟨sq04,trivial⟩,trivial⟩,trivial⟩,trivial⟩,trivial⟩,trivial⟩,trivial⟩,trivial⟩⟩⟩,⟨⟨trivial,⟨⟨⟨⟨⟨⟨⟨⟨sq07,trivial⟩,trivial⟩,trivial⟩,trivial⟩,trivial⟩,trivial⟩,trivial⟩,trivial⟩⟩,trivial⟩⟩,trivial⟩,trivial⟩⟩,⟨trivial,⟨⟨trivial,⟨trivial,⟨trivial,⟨⟨⟨⟨⟨⟨⟨⟨⟨sq02,trivial⟩,trivial⟩,trivial⟩,trivial⟩,trivial⟩,trivial⟩,trivial⟩,trivial⟩,trivial⟩⟩⟩⟩,trivial⟩⟩⟩,⟨trivial,⟨⟨⟨⟨trivial,⟨⟨trivial,⟨⟨⟨⟨⟨⟨⟨⟨sq05,trivial⟩,trivial⟩,trivial⟩,trivial⟩,trivial⟩,trivial⟩,trivial⟩,trivial⟩⟩,trivial⟩⟩,trivial⟩,⟨⟨⟨trivial,⟨trivial,⟨⟨⟨⟨⟨⟨⟨⟨y4k (by decide) (by kernel_rfl),trivial⟩,trivial⟩,trivial⟩,⟨trivial,⟨⟨y4k (by decide) (by kernel_rfl),trivial⟩,trivial⟩⟩⟩,⟨⟨⟨⟨y4k (by decide) (by kernel_rfl),trivial⟩,trivial⟩,trivial⟩,⟨⟨⟨y4k (by decide) (by kernel_rfl),trivial⟩,trivial⟩,⟨trivial,⟨y4k (by decide) (by kernel_rfl),trivial⟩⟩⟩⟩⟩,⟨⟨⟨trivial,⟨⟨y4k (by decide) (by kernel_rfl),y4k (by decide) (by kernel_rfl),trivial⟩,trivial⟩⟩,trivial⟩,⟨trivial,⟨⟨trivial,⟨y4k (by decide) (by kernel_rfl),trivial⟩⟩,trivial⟩⟩⟩⟩,⟨trivial,⟨⟨⟨⟨⟨y4k (by decide) (by kernel_rfl),trivial⟩,⟨y4k (by decide) (by kernel_rfl),trivial⟩⟩,trivial⟩,⟨⟨trivial,⟨y4k (by decide) (by kernel_rfl),trivial⟩⟩,trivial⟩⟩,trivial⟩⟩⟩,trivial⟩⟩⟩,trivial⟩,trivial⟩⟩,⟨⟨trivial,⟨trivial,⟨trivial,⟨⟨⟨⟨⟨⟨⟨⟨⟨sq09,trivial⟩,trivial⟩,trivial⟩,trivial⟩,trivial⟩,trivial⟩,trivial⟩,trivial⟩,trivial⟩⟩⟩⟩,trivial⟩⟩⟩⟩,⟨⟨⟨trivial,⟨⟨⟨trivial,⟨⟨trivial,⟨⟨⟨⟨⟨⟨⟨⟨sq08,trivial⟩,trivial⟩,trivial⟩,trivial⟩,trivial⟩,trivial⟩,trivial⟩,trivial⟩⟩,trivial⟩⟩,trivial⟩,trivial⟩⟩,trivial⟩,⟨trivial,⟨⟨⟨⟨trivial,⟨⟨trivial,⟨⟨⟨⟨⟨⟨⟨⟨sq06,trivial⟩,trivial⟩,trivial⟩,trivial⟩,trivial⟩,trivial⟩,trivial⟩,trivial⟩⟩,trivial⟩⟩,trivial⟩,trivial⟩,⟨⟨⟨⟨trivial,⟨⟨⟨⟨⟨⟨⟨⟨⟨sq10,trivial⟩,trivial⟩,trivial⟩,trivial⟩,trivial⟩,trivial⟩,trivial⟩,trivial⟩,trivial⟩⟩,trivial⟩,trivial⟩,⟨trivial,⟨trivial,⟨⟨⟨⟨⟨⟨⟨trivial,⟨⟨trivial,⟨yCl (by decide) (by kernel_rfl),trivial⟩⟩,⟨⟨yCl (by decide) (by kernel_rfl),trivial⟩,trivial⟩⟩⟩,trivial⟩,trivial⟩,⟨⟨⟨trivial,⟨⟨trivial,⟨yCl (by decide) (by kernel_rfl),trivial⟩⟩,trivial⟩⟩,⟨trivial,⟨trivial,⟨trivial,⟨yCl (by decide) (by kernel_rfl),trivial⟩⟩⟩⟩⟩,⟨trivial,⟨⟨⟨⟨yCl (by decide) (by kernel_rfl),trivial⟩,trivial⟩,trivial⟩,⟨⟨⟨yCl (by decide) (by kernel_rfl),trivial⟩,trivial⟩,trivial⟩⟩⟩⟩⟩,trivial⟩,trivial⟩,trivial⟩⟩⟩⟩⟩⟩⟩⟩
theorem o0_ok{W:World}(h:GW W):OOk prog W W.heap.size O0:=fun f vs v hk w hb hs=>by
 simp only[O0,Oracle.add]at hk;split at hk
 · rename_i u hu
   cases hk;exact y8N k0_ok hu w (h.tw.bel hb)
 · cases hk
noncomputable abbrev O9:Oracle:=O6
theorem yBq{W:World}{O:Oracle}(h:O.sym=fun _ _=>none:=by rfl)(h':O.row=fun _ _=>none:=by rfl):SOk prog W W.heap.size O:=⟨fun f args r hk=>(by rw[h]at hk;cases hk),fun f args r hk=>(by rw[h']at hk;cases hk)⟩
theorem ol_ok{W:World}(h:GW W):OOk prog W W.heap.size O6:=(yCN mixed k6_ok h.gok (yCN mixed k5_ok h.gok (yCN mixed k4_ok h.gok (yCN mixed k3_ok h.gok (yCN mixed k2_ok h.gok (yCN mixed k1_ok h.gok (o0_ok h) yBq) yBq) yBq) yBq) yBq) yBq)
end Go.Proofs.YtgjchmcpondogaaGreatDoor
