/- Merged by a program out of several texts. -/
import Derived.Test.YtdojbabpnaifoaaGreatDoorY3
import Derived.Test.YtdojbabpnaifoaaGreatDoorY2
import Derived.Laws.CopyOwn
import Derived.Deep.RegionLaw
import Derived.Shelf.Strings.Builder2
import Derived.Shelf.Small.Wraps
import Derived.Shelf.Strings.BuilderK
import Derived.Shelf.Strings.Builder2Cap
import Derived.Shelf.Strconv.Atoi
import Derived.Shelf.Strconv.Itoa3
import Derived.Shelf.Strconv.AtoiErrFast
import Derived.Shelf.Strconv.ParseIntEmpty
import Derived.Shelf.Strconv.AtoiFail
import Derived.Shelf.Strconv.Clone
import Derived.Shelf.Strconv.SyntaxError
import Derived.Shelf.Strconv.Lower
import Derived.Shelf.Strconv.ParseUint10
import Derived.Shelf.Strconv.ParseUint10Empty
import Derived.Shelf.Strconv.RangeError
import Derived.Shelf.Strconv.ParseUintEmpty
import Derived.Shelf.Strconv.ParseUint10b64
import Derived.Shelf.Strconv.ParseUint10b32
import Derived.Shelf.Strconv.ParseUint10b16
import Derived.Shelf.Strconv.ParseUint10b8
import Derived.Shelf.Strings.Search1
import Derived.Shelf.Strings.Search2
import Derived.Shelf.Strings.Cut
import Derived.Shelf.Strings.Shaped
import Derived.Shelf.Bits.Mul64
import Derived.Shelf.Strings.Repeat
import Derived.Test.YtdojbabpnaifoaaGreatDoorProg
import Derived.WalkKit
import Derived.BigQuiet
import Derived.Shelf.Abstract
import Derived.RangeFuncBox
import Derived.OwnWalkIn
import Derived.TacticsInMore
import Derived.LoopNIn
import Derived.LoopIn
set_option linter.all false
set_option linter.unusedSimpArgs false
set_option linter.unusedVariables false
set_option maxRecDepth 100000
section
namespace Go.Cm
open Go.Proofs
def aH(l:List Rat):List ND:=l.map bp
def ay(p:List ND):List Rat:=p.map bH
def Sz(k:Nat)(p:List ND):Prop:=∀x∈p,NOK x/\lq (bH x)<=k
theorem aI(l:List Rat):ay (aH l)=l:=by
 simp only[ay,aH,List.map_map];conv=>rhs;rw[<- List.map_id l]
 exact List.map_congr_left fun x _=>aP x
theorem Sz.enc{k:Nat}{p:List ND}(h:Sz k p):aH (ay p)=p:=by
 simp only[ay,aH,List.map_map];conv=>rhs;rw[<- List.map_id p]
 exact List.map_congr_left fun x hx=>(h x hx).1
theorem Sz.ex{k:Nat}{p:List ND}(h:Sz k p):∃l,p=aH l/\∀x∈l,lq x<=k:=by
 refine⟨ay p,h.enc.symm,fun x hx=>?_⟩;obtain⟨y,hy,rfl⟩:=List.mem_map.1 hx;exact(h y hy).2
theorem gJ{k:Nat}{l:List Rat}(h:∀x∈l,lq x<=k):Sz k (aH l):=by
 intro x hx;obtain⟨y,hy,rfl⟩:=List.mem_map.1 hx;exact⟨b9 y,by rw[aP];exact h y hy⟩
theorem Sz.mono{k m:Nat}{p:List ND}(h:Sz k p)(hm:k<=m):Sz m p:=fun x hx=>⟨(h x hx).1,Nat.le_trans (h x hx).2 hm⟩
theorem aE(l:List Rat):(aH l).length=l.length:=by simp[aH]
theorem aL(p:List ND):(ay p).length=p.length:=by simp[ay]
def aM:List Rat->List Rat
 | []=>[]
 |x::l=>match aM l with
  | []=>if x=0 then [] else [x]
  |y::m=>x::y::m
theorem rS(l:List Rat):aM (l++ [0])=aM l:=by
 induction l with
 |nil=>simp[aM]
 |cons x l ih=>simp only[List.cons_append,aM,ih]
theorem Dq{l:List Rat}{x:Rat}(h:x≠0):aM (l++ [x])=l++ [x]:=by
 induction l with
 |nil=>simp[aM,h]
 |cons y l ih=>
  simp only[List.cons_append,aM,ih];cases hl:l++ [x] with
  |nil=>simp at hl
  |cons z m=>rfl
theorem lF{l:List Rat}(h:l≠[])(h0:l.getLastD 0≠0):aM l=l:=by
 obtain⟨m,x,rfl⟩:∃m x,l=m++ [x]:=⟨l.dropLast,l.getLast h,(List.dropLast_concat_getLast h).symm⟩;refine Dq ?_;simpa using h0
theorem lG{l:List Rat}(h:l≠[])(h0:l.getLastD 0=0):aM l=aM l.dropLast:=by
 obtain⟨m,x,rfl⟩:∃m x,l=m++ [x]:=⟨l.dropLast,l.getLast h,(List.dropLast_concat_getLast h).symm⟩;have:x=0:=by simpa using h0
 subst this;rw[rS,List.dropLast_concat]
theorem sign_zero(q:Rat):bg q.num 0=0↔q=0:=by
 have:bg q.num 0=0↔q.num=0:=by
  have:=MY (a:=q.num) (b:=0);constructor;·intro h;exact Decidable.not_not.1 fun e=>(this.2 e) h
  ·intro h;exact Decidable.not_not.1 fun e=>(this.1 e) h
 rw[this,Rat.num_eq_zero]
theorem rZ{l:List Rat}{k:Nat}(h:k<l.length):nth NT (aH l) (k:Int)=bp l[k]:=by
 rw[eu (t:=NT) (by rw[aE];exact h)];simp[aH]
theorem AJ{l:List Rat}(h:0<l.length):bH (nth NT (aH l) ((l.length:Int)-1))=l.getLastD 0:=by
 have e:(l.length:Int)-1=((l.length-1:Nat):Int):=by omega
 rw[e,rZ (by omega),aP];rw[List.getLastD_eq_getLast?,List.getLast?_eq_getElem?,List.getElem?_eq_getElem (by omega)];rfl
theorem Dr{l:List Rat}:(aH l).take (l.length-1)=aH l.dropLast:=by
 simp only[aH,<- List.map_take,List.dropLast_eq_take]
theorem bU{n:Nat}(h:n<=1000000000):IntKind.i64.wrap ((n:Int)-1)=(n:Int)-1:=wo
theorem wH{l:List Rat}(hl:l.length<=1000000000):(decide ((0:Int)<((aH l).length:Int))=true->decide ((0:Int)<((aH l).length:Int))=true/\NOK (nth NT (aH l) (IntKind.i64.wrap (((aH l).length:Int)-1))))/\
  (decide ((0:Int)<((aH l).length:Int))=true->decide ((0:Int)<((aH l).length:Int))=true/\0<=IntKind.i64.wrap (((aH l).length:Int)-1)/\IntKind.i64.wrap (((aH l).length:Int)-1)<((aH l).length:Int)):=by
 rw[aE,bU hl];constructor
 ·intro h;have h1:=of_decide_eq_true h;have e:(l.length:Int)-1=((l.length-1:Nat):Int):=by omega
  exact⟨h,by rw[e,rZ (by omega)];exact b9 _⟩
 ·intro h;have h1:=of_decide_eq_true h;exact⟨h,by omega,by omega⟩
theorem M1{l:List Rat}(hl:l.length<=1000000000)(hb:(0:Int)<((aH l).length:Int))(hc:bg (bH (nth NT (aH l) (IntKind.i64.wrap (((aH l).length:Int)-1)))).num 0=0):0<l.length/\l.getLastD 0=0:=by
 rw[aE] at hb hc;rw[bU hl,AJ (by omega),sign_zero] at hc;exact⟨by omega,hc⟩
theorem M3{l:List Rat}(hl:l.length<=1000000000)(hb:(0:Int)<((aH l).length:Int)-> ¬bg (bH (nth NT (aH l) (IntKind.i64.wrap (((aH l).length:Int)-1)))).num 0=0):aM l=l:=by
 rw[aE] at hb;by_cases h:l=[];·subst h;rfl
 ·have h1:=List.length_pos_iff.2 h;have h2:=hb (by omega);rw[bU hl,AJ (by omega),sign_zero] at h2;exact lF h h2
theorem wI{l l0:List Rat}(hl:l.length<=1000000000)(g1:l.length<=l0.length)(g2:∀x∈l,lq x<=QC)(g3:aM l=aM l0)(h:0<l.length/\l.getLastD 0=0):
  List.take (IntKind.i64.wrap (((aH l).length:Int)-1)).toNat (aH l)=aH l.dropLast/\l.dropLast.length<=l0.length/\(∀x∈l.dropLast,lq x<=QC)/\aM l.dropLast=aM l0/\l.dropLast.length<l.length:=by
 rw[aE,bU hl,show ((l.length:Int)-1).toNat=l.length-1 by omega];refine⟨Dr,by rw[List.length_dropLast];omega,fun x hx=>g2 x (List.dropLast_subset _ hx),?_,by rw[List.length_dropLast];omega⟩;rw[<- g3,lG (List.length_pos_iff.1 h.1) h.2]
theorem QX{free fr:List Nat}(h:(free.all fun k=>fr.contains (k-ioB))=true):∀k,ioB<=k->free.contains k=true->fr.contains (k-ioB)=true:=fun k _ hk=>
 List.all_eq_true.1 h k (by simpa using hk)
theorem M4{B:aq}{P:Program}{f:FuncId}{c:Con}{fr:List Nat}(h:Valid B P f c):Valid B P f c fr:=by
 intro args os C rs os' hc hC O w vals ρ0 hOn hIo hO hOI hargs hown hap;refine(h args os C rs os' hc hC O w vals ρ0 hOn hIo hO hOI hargs hown hap).mono ?_;rintro e w' ⟨vs,ρ1,h1,h2,h3,h4,h5⟩;exact⟨vs,ρ1,h1,h2,h3,fun k _=>h4 k (fun e=>by simp at e),h5⟩
def QH:Nat:=40000000000
def cf(l:List Rat)(i:Nat):Rat:=l.getD i 0
theorem gK{p:List ND}{k:Nat}{i:Nat}(h:Sz k p)(hi:i<p.length):nth NT p (i:Int)=bp (cf (ay p) i):=by
 obtain⟨l,rfl,hl⟩:=h.ex;rw[aE] at hi;rw[rZ hi,aI];unfold cf;rw[List.getD_eq_getElem?_getD,List.getElem?_eq_getElem hi];rfl
theorem M5{p:List ND}{i:Nat}(hi:¬i<p.length):cf (ay p) i=0:=by
 unfold cf;rw[List.getD_eq_getElem?_getD,List.getElem?_eq_none (by rw[aL];omega)];rfl
theorem jh:lq 0<=1:=by
 unfold lq;rw[show (0:Rat).num=0 from rfl,show (0:Rat).den=1 from rfl,eT];show max 0 (lw 1)<=1;rw[kv];decide
theorem Sz.cf{p:List ND}{k:Nat}(h:Sz k p)(hk:1<=k)(i:Nat):lq (cf (ay p) i)<=k:=by
 by_cases hi:i<p.length
 ·have h1:=gK h hi;have h2:=(h _ (eN (t:=NT) hi)).2;rw[h1,aP] at h2;exact h2
 ·rw[M5 hi];exact Nat.le_trans jh hk
def bS(op:Rat->Rat->Rat)(l m:List Rat)(n:Nat):List Rat:=(List.range n).map fun i=>op (cf l i) (cf m i)
def br(op:Rat->Rat->Rat)(l m:List Rat):List Rat:=aM (bS op l m (max l.length m.length))
theorem pw(op:Rat->Rat->Rat)(l m:List Rat)(k:Nat):bS op l m (k+1)=bS op l m k++ [op (cf l k) (cf m k)]:=by
 unfold bS;rw[List.range_succ,List.map_append];rfl
theorem qE(l:List Rat)(x:Rat):aH (l++ [x])=aH l++ [bp x]:=by simp[aH]
theorem dw(op:Rat->Rat->Rat)(l m:List Rat)(k:Nat):(bS op l m k).length=k:=by simp[bS]
def QY(op:Rat->Rat->Rat):Prop:=∀x y,lq (op x y)<=lq x+lq y+1
theorem AK:QY (· + ·):=qC
theorem AL:QY (· - ·):=Tu
theorem yw{op:Rat->Rat->Rat}(ht:QY op){p q:List ND}(hp:Sz QH p)(hq:Sz QH q)(n:Nat):Sz QC (aH (bS op (ay p) (ay q) n)):=by
 refine gJ fun x hx=>?_;obtain⟨i,_,rfl⟩:=List.mem_map.1 hx;have h1:=ht (cf (ay p) i) (cf (ay q) i);have h2:=hp.cf (by unfold QH;omega) i;have h3:=hq.cf (by unfold QH;omega) i;unfold QH at h2 h3;unfold QC;omega
theorem M6{p q:List ND}(hp:Sz QH p)(hq:Sz QH q)(i:Nat):iq (bp (cf (ay p) i)) (bp (cf (ay q) i)):=by
 refine⟨b9 _,b9 _,?_⟩;rw[aP,aP];have h2:=hp.cf (by unfold QH;omega) i;have h3:=hq.cf (by unfold QH;omega) i;unfold QH at h2 h3;unfold QC;omega
theorem SG:QH<=QC:=by unfold QH QC;omega
theorem FJ(p q:List ND)(hl:True):max ((p.length:Nat):Int) (q.length:Int)=((max p.length q.length:Nat):Int):=by omega
theorem wJ{p q:List ND}(hp:Sz QH p)(hq:Sz QH q){k:Nat}(hk:k<=1000)(op:Rat->Rat->Rat):(Sz QC p/\(0:Int)<=(k:Int))/\(Sz QC q/\(0:Int)<=(k:Int))/\iq (bp (cf (ay p) (k:Int).toNat)) (bp (cf (ay q) (k:Int).toNat))/\Cm.Roomy 4 ((aH (bS op (ay p) (ay q) k)).length+1):=by
 rw[Int.toNat_natCast];exact⟨⟨hp.mono SG,by omega⟩,⟨hq.mono SG,by omega⟩,M6 hp hq k,ui (by rw[aE,dw];omega)⟩
theorem uj{op:Rat->Rat->Rat}{p q:List ND}{k n:Nat}(h:k<n)(hn:n<=1000):∃z:Nat,IntKind.i64.wrap ((k:Int)+1)=(z:Int)/\aH (bS op (ay p) (ay q) k)++ [bp (op (bH (bp (cf (ay p) (k:Int).toNat))) (bH (bp (cf (ay q) (k:Int).toNat))))]=aH (bS op (ay p) (ay q) z)/\z<=n/\n-z<n-k:=by
 refine⟨k+1,by rw[wo];omega,?_,by omega,by omega⟩;rw[Int.toNat_natCast,aP,aP,pw,qE]
theorem uk{op:Rat->Rat->Rat}(ht:QY op){p q:List ND}(hp:Sz QH p)(hq:Sz QH q){k:Nat}(hk:k<=1000):Sz QC (aH (bS op (ay p) (ay q) k))/\(aH (bS op (ay p) (ay q) k)).length<=QL:=
 ⟨yw ht hp hq k,by rw[aE,dw];unfold QL;omega⟩
theorem AM{op:Rat->Rat->Rat}{p q:List ND}{k:Nat}(h1:k<=max p.length q.length)(h:¬(k:Int)<((max p.length q.length:Nat):Int)):aH (aM (ay (aH (bS op (ay p) (ay q) k))))=aH (br op (ay p) (ay q)):=by
 have e:k=max p.length q.length:=by omega
 unfold br;rw[aI,aL,aL,<- e]
def QM:Nat:=400000000
def cK(out:List Rat)(i:Nat)(a:Rat)(q:List Rat):Nat->List Rat
 |0=>out
 |k+1=>(cK out i a q k).set (i+k) (cf (cK out i a q k) (i+k)+a*cf q k)
def mulN(p q:List Rat):Nat->List Rat
 |0=>List.replicate (p.length+q.length-1) 0
 |i+1=>cK (mulN p q i) i (cf p i) q q.length
def cB(p q:List Rat):List Rat:=if p=[]∨q=[] then [] else mulN p q p.length
theorem jH(out:List Rat)(i:Nat)(a:Rat)(q:List Rat)(k:Nat):(cK out i a q k).length=out.length:=by
 induction k with
 |zero=>rfl
 |succ k ih=>rw[cK,List.length_set,ih]
theorem dZ(p q:List Rat)(i:Nat):(mulN p q i).length=p.length+q.length-1:=by
 induction i with
 |zero=>simp[mulN]
 |succ i ih=>rw[mulN,jH,ih]
theorem M7(l:List Rat)(i j:Nat)(x:Rat):cf (l.set i x) j=if i=j/\i<l.length then x else cf l j:=by
 unfold cf;simp only[List.getD_eq_getElem?_getD,List.getElem?_set];by_cases h:i=j
 ·subst h;by_cases h2:i<l.length;·simp[h2]
  ·simp[h2,List.getElem?_eq_none (by omega:l.length<=i)]
 ·simp[h]
theorem um{l:List Rat}{i:Nat}(h:i<l.length):cf l i∈l:=by
 unfold cf;rw[List.getD_eq_getElem?_getD,List.getElem?_eq_getElem h];exact List.getElem_mem h
theorem gg{l:List Rat}{k:Nat}(h:∀x∈l,lq x<=k)(hk:1<=k)(i:Nat):lq (cf l i)<=k:=by
 by_cases hi:i<l.length
 ·exact h _ (um hi)
 ·unfold cf;rw[List.getD_eq_getElem?_getD,List.getElem?_eq_none (by omega)];exact Nat.le_trans jh hk
theorem TE{l:List Rat}{k:Nat}(h:∀i,i<l.length->lq (cf l i)<=k):∀x∈l,lq x<=k:=by
 intro x hx;obtain⟨i,hi,rfl⟩:=List.getElem_of_mem hx;have:=h i hi;unfold cf at this;rw[List.getD_eq_getElem?_getD,List.getElem?_eq_getElem hi] at this;exact this
theorem kf(out:List Rat)(i:Nat)(a:Rat)(q:List Rat)(k n:Nat)(hl:i+k<=out.length):cf (cK out i a q k) n=if i<=n/\n<i+k then cf out n+a*cf q (n-i) else cf out n:=by
 induction k with
 |zero=>simp[cK];intro h1 h2;omega
 |succ k ih=>
  have ih:=ih (by omega);rw[cK,M7,jH];by_cases h:i+k=n
  ·rw[if_pos ⟨h,by omega⟩];have e:cf (cK out i a q k) (i+k)=cf out (i+k):=by
    have h2:∀n,n=i+k->cf (cK out i a q k) n=cf out n:=by
     intro n hn;have:=ih;clear this;rw[show cf (cK out i a q k) n=cf (cK out i a q k) n from rfl];subst hn;subst h;rw[ih,if_neg (by omega)]
    exact h2 _ rfl
   rw[e,h,if_pos (by omega),show n-i=k by omega]
  ·(rw[if_neg (by omega),ih];by_cases h2:i<=n/\n<i+k;·rw[if_pos h2,if_pos (by omega)]);·rw[if_neg h2,if_neg (by omega)]
theorem yx{out:List Rat}{i:Nat}{a:Rat}{q:List Rat}{k m K:Nat}(hl:i+k<=out.length)(h:∀x∈out,lq x<=m)(hm:1<=m)(ha:lq a<=K)(hq:∀n,lq (cf q n)<=K):∀x∈cK out i a q k,lq x<=m+(2*K+1):=by
 refine TE fun n hn=>?_;rw[kf _ _ _ _ _ _ hl];have h1:=gg h hm n;split;·have h2:=qC (cf out n) (a*cf q (n-i));have h3:=lD a (cf q (n-i));have h4:=hq (n-i);omega
 ·omega
theorem M8{p q:List Rat}{K:Nat}(hp:∀n,lq (cf p n)<=K)(hq:∀n,lq (cf q n)<=K):∀i,i<=p.length->∀x∈mulN p q i,lq x<=1+i*(2*K+1):=by
 intro i;induction i with
 |zero=>
  intro _ x hx;rw[mulN] at hx;rw[(List.mem_replicate.1 hx).2];exact Nat.le_trans jh (by omega)
 |succ i ih=>
  intro hi x hx;rw[mulN] at hx;by_cases hq0:q=[];·subst hq0;have:=ih (by omega) x hx;rw[Nat.succ_mul];omega
  ·have hql:=List.length_pos_iff.2 hq0;have:=yx (by rw[dZ];omega) (ih (by omega)) (by omega) (hp i) hq x hx;rw[Nat.succ_mul];omega
theorem AN(n:Nat)(x:Rat):aH (List.replicate n x)=List.replicate n (bp x):=by simp[aH]
theorem uo(l:List Rat)(i:Nat)(x:Rat):(aH l).set i (bp x)=aH (l.set i x):=by simp[aH,List.map_set]
theorem M9{p q:List ND}(h:(((p.length:Int)==0)||((q.length:Int)==0))=false):0<p.length/\0<q.length:=by
 simp only[Bool.or_eq_false_iff,beq_eq_false_iff_ne] at h;omega
theorem Jt{p q:List ND}(h:(((p.length:Int)==0)||((q.length:Int)==0))=true): []=aH (cB (ay p) (ay q)):=by
 simp only[Bool.or_eq_true,beq_iff_eq] at h;unfold cB;rw[if_pos (h.imp (fun h=>List.eq_nil_of_length_eq_zero (by rw[aL];omega)) (fun h=>List.eq_nil_of_length_eq_zero (by rw[aL];omega)))];rfl
theorem wK{p q:List ND}(hl1:p.length<=100)(hl2:q.length<=100)(h:0<p.length/\0<q.length):IntKind.i64.wrap (IntKind.i64.wrap ((p.length:Int)+(q.length:Int))-1)=((p.length+q.length-1:Nat):Int):=by
 rw[wi (x:=(p.length:Int)+(q.length:Int)) (by omega) (by omega),wo];omega
theorem times_start(p q:List ND):List.replicate (p.length+q.length-1) (bp 0)=aH (mulN (ay p) (ay q) 0):=by
 rw[mulN,AN,aL,aL]
theorem qF{p q:List ND}(hp:Sz QM p)(hq:Sz QM q)(hl:p.length<=100)(h0:0<p.length/\0<q.length){i k:Nat}(hi:i<p.length)(hk:k<=q.length):∀x∈cK (mulN (ay p) (ay q) i) i (cf (ay p) i) (ay q) k,lq x<=81000000000:=by
 intro x hx;have e:QM=400000000:=rfl;have h1:=M8 (p:=ay p) (q:=ay q) (K:=QM) (fun n=>hp.cf (by omega) n) (fun n=>hq.cf (by omega) n) i (by rw[aL];omega);have h2:=yx (q:=ay q) (k:=k) (by rw[dZ,aL,aL];omega) h1 (by omega) (hp.cf (by omega) i) (fun n=>hq.cf (by omega) n) x hx;have h3:i*(2*QM+1)<=99*(2*QM+1):=Nat.mul_le_mul_right _ (by omega);omega
theorem Ds{p q:List ND}(hp:Sz QM p)(hq:Sz QM q)(hl:p.length<=100)(hl2:q.length<=100)(h0:0<p.length/\0<q.length){i k:Nat}(hi:i<p.length)(hk:k<q.length):
  IntKind.i64.wrap ((i:Int)+(k:Int))=((i+k:Nat):Int)/\i+k<(aH (cK (mulN (ay p) (ay q) i) i (cf (ay p) i) (ay q) k)).length/\iq (bp (cf (ay p) i)) (bp (cf (ay q) k))/\
  iq (nth NT (aH (cK (mulN (ay p) (ay q) i) i (cf (ay p) i) (ay q) k)) ((i+k:Nat):Int)) (bp (cf (ay p) i*cf (ay q) k)):=by
 have hlen:(cK (mulN (ay p) (ay q) i) i (cf (ay p) i) (ay q) k).length=p.length+q.length-1:=by rw[jH,dZ,aL,aL]
 have e:QM=400000000:=rfl;have e2:QC=100000000000:=rfl;have ha:=hp.cf (by omega) i;have hb:=hq.cf (by omega) k;have hm:=lD (cf (ay p) i) (cf (ay q) k);have hx:=qF hp hq hl h0 hi (Nat.le_of_lt hk) _ (um (by rw[hlen];omega:i+k<(cK (mulN (ay p) (ay q) i) i (cf (ay p) i) (ay q) k).length));refine⟨by rw[wo];omega,by rw[aE,hlen];omega,⟨b9 _,b9 _,by rw[aP,aP];omega⟩,?_⟩;have hn:nth NT (aH (cK (mulN (ay p) (ay q) i) i (cf (ay p) i) (ay q) k)) ((i+k:Nat):Int)=bp (cf (cK (mulN (ay p) (ay q) i) i (cf (ay p) i) (ay q) k) (i+k)):=by
  have:=gK (p:=aH (cK (mulN (ay p) (ay q) i) i (cf (ay p) i) (ay q) k)) (i:=i+k) (gJ (qF hp hq hl h0 hi (Nat.le_of_lt hk))) (by rw[aE,hlen];omega);rw[aI] at this;exact this
 rw[hn];exact⟨b9 _,b9 _,by rw[aP,aP];omega⟩
theorem uq{p q:List ND}(hp:Sz QM p)(hq:Sz QM q)(hl:p.length<=100)(hl2:q.length<=100)(h0:0<p.length/\0<q.length){i k:Nat}(hi:i<p.length)(hk:k<q.length):
  ∃z:Nat,IntKind.i64.wrap ((k:Int)+1)=(z:Int)/\
   (aH (cK (mulN (ay p) (ay q) i) i (cf (ay p) i) (ay q) k)).set (i+k) (bp (bH (nth NT (aH (cK (mulN (ay p) (ay q) i) i (cf (ay p) i) (ay q) k)) ((i+k:Nat):Int))+cf (ay p) i*cf (ay q) k))=aH (cK (mulN (ay p) (ay q) i) i (cf (ay p) i) (ay q) z)/\z<=q.length/\q.length-z<q.length-k:=by
 have hlen:(cK (mulN (ay p) (ay q) i) i (cf (ay p) i) (ay q) k).length=p.length+q.length-1:=by rw[jH,dZ,aL,aL]
 have hn:nth NT (aH (cK (mulN (ay p) (ay q) i) i (cf (ay p) i) (ay q) k)) ((i+k:Nat):Int)=bp (cf (cK (mulN (ay p) (ay q) i) i (cf (ay p) i) (ay q) k) (i+k)):=by
  have:=gK (p:=aH (cK (mulN (ay p) (ay q) i) i (cf (ay p) i) (ay q) k)) (i:=i+k) (gJ (qF hp hq hl h0 hi (Nat.le_of_lt hk))) (by rw[aE,hlen];omega);rw[aI] at this;exact this
 refine⟨k+1,by rw[wo];omega,?_,by omega,by omega⟩;rw[hn,aP,uo,cK]
theorem Na(l:List Rat)(i:Nat):l.set i (cf l i)=l:=by
 apply List.ext_getElem?;intro j;rw[List.getElem?_set];by_cases h:i=j
 ·subst h;rw[if_pos rfl];unfold cf;by_cases h2:i<l.length;·rw[if_pos h2,List.getD_eq_getElem?_getD,List.getElem?_eq_getElem h2];rfl
  ·rw[if_neg h2,List.getElem?_eq_none (by omega)]
 ·rw[if_neg h]
theorem ur{p q:List ND}(hl2:q.length<=100){i k:Nat}(hk:k<q.length)(hz:cf (ay p) i*cf (ay q) k=0):
  ∃z:Nat,IntKind.i64.wrap ((k:Int)+1)=(z:Int)/\aH (cK (mulN (ay p) (ay q) i) i (cf (ay p) i) (ay q) k)=aH (cK (mulN (ay p) (ay q) i) i (cf (ay p) i) (ay q) z)/\z<=q.length/\q.length-z<q.length-k:=by
 refine⟨k+1,by rw[wo];omega,?_,by omega,by omega⟩;rw[cK,hz,Rat.add_zero,Na]
theorem uu{a b:Rat}(h:(bg a.num 0 !=0)=true->bg b.num 0=0):a*b=0:=by
 by_cases ha:a=0
 ·rw[ha,Rat.zero_mul]
 ·have h1:bg a.num 0≠0:=fun e=>ha ((sign_zero a).1 e);have:=h (by rw[bne_iff_ne];exact h1);rw[(sign_zero b).1 this,Rat.mul_zero]
theorem Ju{p q:List ND}(hl:p.length<=100){i k:Nat}(hi:i<p.length)(hk:k=q.length):∃z:Nat,IntKind.i64.wrap ((i:Int)+1)=(z:Int)/\aH (cK (mulN (ay p) (ay q) i) i (cf (ay p) i) (ay q) k)=aH (mulN (ay p) (ay q) z)/\z<=p.length/\p.length-z<p.length-i:=by
 refine⟨i+1,by rw[wo];omega,?_,by omega,by omega⟩;rw[mulN,aL,hk]
theorem times_fin{p q:List ND}(h0:0<p.length/\0<q.length){i:Nat}(hi:i=p.length):aH (mulN (ay p) (ay q) i)=aH (cB (ay p) (ay q)):=by
 unfold cB;rw[if_neg,aL,hi];rintro(h|h);·have:=congrArg List.length h;rw[aL,List.length_nil] at this;omega
 ·have:=congrArg List.length h;rw[aL,List.length_nil] at this;omega
theorem QZ{p q:List ND}(hl1:p.length<=100)(hl2:q.length<=100):(0:Int)<=((p.length+q.length-1:Nat):Int)/\((p.length+q.length-1:Nat):Int)<=1000:=by omega
def aB(l:List Rat):Rat:=l.getLastD 0
def cy(l:List Rat):List Rat:=l.map fun c=>c/aB l
theorem bD{l:List Rat}(h:0<l.length):aB l=cf l (l.length-1):=by
 unfold aB cf;rw[List.getLastD_eq_getLast?,List.getLast?_eq_getElem?,List.getD_eq_getElem?_getD]
theorem AO{p:List ND}{k:Nat}(h:Sz k p)(hp:0<p.length)(hl:p.length<=1000000000):nth NT p (IntKind.i64.wrap ((p.length:Int)-1))=bp (aB (ay p)):=by
 rw[bU hl,show (p.length:Int)-1=((p.length-1:Nat):Int) by omega,gK h (by omega),bD (by rw[aL];omega),aL]
theorem sa{p:List ND}{k:Nat}(h:Sz k p)(hk:1<=k)(hp:0<p.length):lq (aB (ay p))<=k:=by
 rw[bD (by rw[aL];omega)];exact h.cf hk _
def qG(p:List ND):Prop:=Sz QH p/\p.length<=1000/\(p≠[]->aB (ay p)≠0)
theorem Nb{p:List ND}(h:qG p){k:Nat}(hk:k<p.length):nth NT p (k:Int)=bp (cf (ay p) k)/\nth NT p (IntKind.i64.wrap ((p.length:Int)-1))=bp (aB (ay p))/\(0<=IntKind.i64.wrap ((p.length:Int)-1)/\IntKind.i64.wrap ((p.length:Int)-1)<(p.length:Int))/\
  iq (bp (cf (ay p) k)) (bp (aB (ay p)))/\aB (ay p)≠0/\Cm.Roomy 4 ((aH ((ay p).take k|>.map fun c=>c/aB (ay p))).length+1):=by
 obtain⟨h1,h2,h3⟩:=h;have e:QH=40000000000:=rfl;have e2:QC=100000000000:=rfl;have h4:=h1.cf (by omega) k;have h5:=sa h1 (by omega) (by omega);refine⟨gK h1 hk,AO h1 (by omega) (by omega),by rw[bU (by omega)];omega,⟨b9 _,b9 _,by rw[aP,aP];omega⟩,h3 (by intro e;rw[e] at hk;simp at hk),?_⟩;refine ui ?_;rw[aE,List.length_map,List.length_take,aL];omega
theorem Jv{p:List ND}(h:qG p){k:Nat}(hk:k<p.length):∃z:Nat,IntKind.i64.wrap ((k:Int)+1)=(z:Int)/\aH ((ay p).take k|>.map fun c=>c/aB (ay p))++ [bp (cf (ay p) k/aB (ay p))]=aH ((ay p).take z|>.map fun c=>c/aB (ay p))/\z<=p.length/\p.length-z<p.length-k:=by
 have hl:=h.2.1;refine⟨k+1,by rw[wo];omega,?_,by omega,by omega⟩;rw[<- qE,List.take_succ_eq_append_getElem (by rw[aL];exact hk),List.map_append];congr 2;unfold cf;rw[List.getD_eq_getElem?_getD,List.getElem?_eq_getElem (by rw[aL];exact hk)];rfl
theorem Q0{p:List ND}{k:Nat}(hk:k=p.length):aH ((ay p).take k|>.map fun c=>c/aB (ay p))=aH (cy (ay p)):=by
 rw[List.take_of_length_le (by rw[aL];omega)];rfl
def ir(l:List Rat)(n:Nat):List Rat:=(List.range (n-1)).map fun i=>cf l (i+1)*Rat.divInt ((i+1:Nat):Int) 1
def bl(l:List Rat):List Rat:=ir l l.length
theorem wL(l:List Rat)(k:Nat):ir l (k+1+1)=ir l (k+1)++ [cf l (k+1)*Rat.divInt ((k+1:Nat):Int) 1]:=by
 unfold ir;rw[show k+1+1-1=k+1 by omega,show k+1-1=k by omega,List.range_succ,List.map_append];rfl
theorem Nc{n:Int}(h:I64 n):lq (Rat.divInt n 1)<=3:=by
 have:=kx n 1 (by decide);have h2:=Dl h;rw[kv] at this;omega
theorem Nd{p:List ND}(h1:Sz QH p)(hl:p.length<=1000){k:Nat}(hk:k<p.length):(I64 (k:Int)/\I64 1/\(1:Int)≠0)/\nth NT p (k:Int)=bp (cf (ay p) k)/\iq (bp (cf (ay p) k)) (bp (Rat.divInt (k:Int) 1))/\Cm.Roomy 4 ((aH (ir (ay p) k)).length+1):=by
 have hi:I64 (k:Int):=by unfold I64;omega
 have e:QH=40000000000:=rfl;have e2:QC=100000000000:=rfl;have h4:=h1.cf (by omega) k;have h5:=Nc hi;refine⟨⟨hi,by unfold I64;omega,by decide⟩,gK h1 hk,⟨b9 _,b9 _,by rw[aP,aP];omega⟩,ui ?_⟩;rw[aE];simp[ir];omega
theorem wM{p:List ND}(hl:p.length<=1000){k:Nat}(hk:k<p.length)(h0:0<k):∃z:Nat,IntKind.i64.wrap ((k:Int)+1)=(z:Int)/\aH (ir (ay p) k)++ [bp (cf (ay p) k*Rat.divInt (k:Int) 1)]=aH (ir (ay p) z)/\z<=p.length/\p.length-z<p.length-k:=by
 refine⟨k+1,by rw[wo];omega,?_,by omega,by omega⟩;obtain⟨j,rfl⟩:∃j,k=j+1:=⟨k-1,by omega⟩;rw[wL,qE]
theorem AP{p:List ND}(hl:p.length<=1000){k:Nat}(hk:k<p.length)(h0:k=0):∃z:Nat,IntKind.i64.wrap ((k:Int)+1)=(z:Int)/\aH (ir (ay p) k)=aH (ir (ay p) z)/\z<=p.length/\p.length-z<p.length-k:=by
 subst h0;exact⟨1,by rw[wo];omega,rfl,by omega,by omega⟩
def au(l:List Rat)(x:Rat):Rat:=l.foldr (fun c v=>v*x+c) 0
theorem px{l:List Rat}{x:Rat}{K:Nat}(hl:∀c∈l,lq c<=K)(hx:lq x<=K):lq (au l x)<=1+l.length*(2*K+1):=by
 induction l with
 |nil=>exact Nat.le_trans jh (by omega)
 |cons c l ih=>
  have h1:=ih (fun d hd=>hl d (List.mem_cons_of_mem _ hd));have h2:=hl c (List.mem_cons_self ..);have e:au (c::l) x=au l x*x+c:=rfl;have h3:=qC (au l x*x) c;have h4:=lD (au l x) x;rw[e,List.length_cons,Nat.succ_mul];omega
def QD:Nat:=10000000000
def cA(q r:List Rat):List Rat:=cK r (r.length-q.length) (-(aB r/aB q)) q q.length
def fA(q:List Rat):Nat->List Rat->List Rat->List Rat×List Rat
 |0,r,s=>(s,r)
 |n+1,r,s=>if q.length<=r.length then fA q n (aM (cA q r)) (s.set (r.length-q.length) (aB r/aB q)) else (s,r)
def divN(p q:List Rat):List Rat×List Rat:=fA q (p.length+1) p (List.replicate (p.length+1-q.length) 0)
def uv(q:List Rat):Nat->List Rat->Prop
 |0,_=>True
 |n+1,r=>(∀x∈r,lq x<=QD)/\(q.length<=r.length->uv q n (aM (cA q r)))
structure gL (p q:List ND):Prop where
 hp:∀x∈p,NOK x
 hq:Sz QD q
 l1:p.length<=900
 l2:q.length<=900
 h0:0<q.length
 hl:aB (ay q)≠0
 safe:uv (ay q) (p.length+1) (ay p)
theorem cN(l:List Rat):(aM l).length<=l.length:=by
 induction l with
 |nil=>simp[aM]
 |cons x l ih=>
  simp only[aM];split;·split<;>simp
  ·rename_i y m h;rw[h] at ih;simp only[List.length_cons] at ih ⊢;omega
theorem rG{l:List Rat}(h:0<l.length)(h0:aB l=0):(aM l).length<l.length:=by
 rw[lG (List.length_pos_iff.1 h) h0];have:=cN l.dropLast;rw[List.length_dropLast] at this;omega
theorem fg(q r:List Rat):(cA q r).length=r.length:=jH _ _ _ _ _
theorem yy{q r:List Rat}(hq:0<q.length)(h:q.length<=r.length)(h0:aB q≠0):aB (cA q r)=0:=by
 rw[bD (by rw[fg];omega),fg];unfold cA;rw[kf _ _ _ _ _ _ (by omega),if_pos (by omega),show r.length-1-(r.length-q.length)=q.length-1 by omega,<- bD hq,<- bD (by omega)];grind
theorem fh{q r:List Rat}(hq:0<q.length)(h:q.length<=r.length)(h0:aB q≠0):(aM (cA q r)).length<r.length:=by
 have:=rG (l:=cA q r) (by rw[fg];omega) (yy hq h h0);rwa [fg] at this
structure DivPhi (p q:List ND) (n:Nat) (r s:List Rat):Prop where
 eq:fA (ay q) n r s=divN (ay p) (ay q)
 fuel:r.length<n
 safe:uv (ay q) n r
 lr:r.length<=p.length
 ls:s.length=p.length+1-q.length
theorem div_start{p q:List ND}(h:gL p q):DivPhi p q (p.length+1) (ay p) (List.replicate (p.length+1-q.length) 0):=by
 refine⟨?_,by rw[aL];omega,h.safe,by rw[aL];exact Nat.le_refl _,by simp⟩;unfold divN;rw[aL,aL]
theorem gL.enc{p q:List ND}(h:gL p q):aH (ay p)=p:=by
 simp only[ay,aH,List.map_map];conv=>rhs;rw[<- List.map_id p]
 exact List.map_congr_left fun x hx=>h.hp x hx
theorem DivPhi.bound{p q:List ND}{n:Nat}{r s:List Rat}(h:DivPhi p q n r s):∀x∈r,lq x<=QD:=by
 have h1:=h.safe;have h2:=h.fuel;match n,h1 with
 |n+1,h1=>exact h1.1
theorem div_next{p q:List ND}{n:Nat}{r s:List Rat}(ho:gL p q)(h:DivPhi p q n r s)(hl:q.length<=r.length):
  ∃m,DivPhi p q m (aM (cA (ay q) r)) (s.set (r.length-q.length) (aB r/aB (ay q))):=by
 have h2:=h.fuel;have h1:=h.safe;have he:=h.eq;have hs:=fh (q:=ay q) (r:=r) (by rw[aL];exact ho.h0) (by rw[aL];exact hl) ho.hl;match n,h1,he,h2 with
 |n+1,h1,he,h2=>
  rw[fA,if_pos (by rw[aL];exact hl),aL] at he;exact⟨n,he,by omega,h1.2 (by rw[aL];exact hl),by have:=h.lr;omega,by rw[List.length_set];exact h.ls⟩
theorem div_end{p q:List ND}{n:Nat}{r s:List Rat}(h:DivPhi p q n r s)(hl:¬q.length<=r.length):(s,r)=divN (ay p) (ay q):=by
 have h2:=h.fuel;have he:=h.eq;match n,he,h2 with
 |n+1,he,h2=>
  rw[fA,if_neg (by rw[aL];exact hl)] at he;exact he
theorem Dt{l:List Rat}{k:Nat}(hk:k<l.length):nth NT (aH l) (k:Int)=bp (cf l k):=by
 rw[rZ hk];unfold cf;rw[List.getD_eq_getElem?_getD,List.getElem?_eq_getElem hk];rfl
theorem Q1{l:List Rat}(h:0<l.length)(hl:l.length<=1000000000):nth NT (aH l) (IntKind.i64.wrap (((aH l).length:Int)-1))=bp (aB l):=by
 rw[aE,bU hl,show (l.length:Int)-1=((l.length-1:Nat):Int) by omega,Dt (by omega),<- bD h]
theorem UM{p q:List ND}{n:Nat}{r s:List Rat}(ho:gL p q)(h:DivPhi p q n r s)(hl:q.length<=r.length):IntKind.i64.wrap (((aH r).length:Int)-(q.length:Int))=((r.length-q.length:Nat):Int):=by
 have h1:=h.lr;have h2:=ho.l1;rw[aE,wo];omega
theorem UN{p q:List ND}{n:Nat}{r s:List Rat}(ho:gL p q)(h:DivPhi p q n r s)(hl:q.length<=r.length):
  (0<=IntKind.i64.wrap (((aH r).length:Int)-1)/\IntKind.i64.wrap (((aH r).length:Int)-1)<((aH r).length:Int))/\(IntKind.i64.wrap (((aH r).length:Int)-1)).toNat<(aH r).length/\
  (0<=IntKind.i64.wrap ((q.length:Int)-1)/\IntKind.i64.wrap ((q.length:Int)-1)<(q.length:Int))/\nth NT (aH r) (IntKind.i64.wrap (((aH r).length:Int)-1))=bp (aB r)/\nth NT q (IntKind.i64.wrap ((q.length:Int)-1))=bp (aB (ay q))/\
  iq (bp (aB r)) (bp (aB (ay q))):=by
 have h1:=h.lr;have h2:=ho.l1;have h3:=ho.h0;have h4:=ho.l2;have e:QD=10000000000:=rfl;have e2:QC=100000000000:=rfl;have hb:=gg h.bound (by omega) (r.length-1);rw[<- bD (by omega)] at hb;have hc:=sa ho.hq (by omega) h3;have hw:IntKind.i64.wrap (((aH r).length:Int)-1)=(r.length:Int)-1:=by rw[aE,bU (by omega)]
 refine⟨by rw[hw,aE];omega,by rw[hw,aE];omega,by rw[bU (by omega)];omega,Q1 (by omega) (by omega),AO ho.hq h3 (by omega),b9 _,b9 _,?_⟩;rw[aP,aP];omega
theorem Nf{p q:List ND}{n:Nat}{r s:List Rat}(ho:gL p q)(h:DivPhi p q n r s)(hl:q.length<=r.length){i:Nat}(hi:i<q.length):
  IntKind.i64.wrap (((r.length-q.length:Nat):Int)+(i:Int))=((r.length-q.length+i:Nat):Int)/\r.length-q.length+i<(aH (cK r (r.length-q.length) (-(aB r/aB (ay q))) (ay q) i)).length/\nth NT q (i:Int)=bp (cf (ay q) i)/\
  nth NT (aH (cK r (r.length-q.length) (-(aB r/aB (ay q))) (ay q) i)) ((r.length-q.length+i:Nat):Int)=bp (cf (cK r (r.length-q.length) (-(aB r/aB (ay q))) (ay q) i) (r.length-q.length+i))/\
  iq (bp (aB r/aB (ay q))) (bp (cf (ay q) i))/\iq (bp (cf (cK r (r.length-q.length) (-(aB r/aB (ay q))) (ay q) i) (r.length-q.length+i))) (bp (aB r/aB (ay q)*cf (ay q) i)):=by
 have h1:=h.lr;have h2:=ho.l1;have h3:=ho.h0;have h4:=ho.l2;have e:QD=10000000000:=rfl;have e2:QC=100000000000:=rfl;have hb:=gg h.bound (by omega) (r.length-1);rw[<- bD (by omega)] at hb;have hc:=sa ho.hq (by omega) h3;have hd:=ov (aB r) (aB (ay q));have hqi:=ho.hq.cf (by omega) i;have hm:=lD (aB r/aB (ay q)) (cf (ay q) i);have hrow:=yx (out:=r) (i:=r.length-q.length) (a:= -(aB r/aB (ay q))) (q:=ay q) (k:=i) (m:=QD) (K:=2*QD) (by omega) h.bound (by omega) (by rw[ud];omega) (fun n=>Nat.le_trans (ho.hq.cf (by omega) n) (by omega));have hlen:(cK r (r.length-q.length) (-(aB r/aB (ay q))) (ay q) i).length=r.length:=jH _ _ _ _ _;have hcur:lq (cf (cK r (r.length-q.length) (-(aB r/aB (ay q))) (ay q) i) (r.length-q.length+i))<=QD:=by
  rw[kf _ _ _ _ _ _ (by omega),if_neg (by omega)];exact gg h.bound (by omega) _
 refine⟨by rw[wo];omega,by rw[aE,hlen];omega,gK ho.hq hi,Dt (by rw[hlen];omega),⟨b9 _,b9 _,by rw[aP,aP];omega⟩,b9 _,b9 _,by rw[aP,aP];omega⟩
theorem Q2(r:List Rat)(k:Nat)(c:Rat)(q:List Rat)(i:Nat):(aH (cK r k (-c) q i)).set (k+i) (bp (cf (cK r k (-c) q i) (k+i)-c*cf q i))=aH (cK r k (-c) q (i+1)):=by
 rw[uo,cK,Rat.sub_eq_add_neg,Rat.neg_mul]
theorem Ng{p q:List ND}{n:Nat}{r s:List Rat}(ho:gL p q)(h:DivPhi p q n r s)(hl:q.length<=r.length):Sz QC (aH (cA (ay q) r))/\(aH (cA (ay q) r)).length<=QL:=by
 have h1:=h.lr;have h2:=ho.l1;have h3:=ho.h0;have h4:=ho.l2;have e:QD=10000000000:=rfl;have e2:QC=100000000000:=rfl;have hb:=gg h.bound (by omega) (r.length-1);rw[<- bD (by omega)] at hb;have hc:=sa ho.hq (by omega) h3;have hd:=ov (aB r) (aB (ay q));refine⟨gJ fun x hx=>?_,by rw[aE,fg];unfold QL;omega⟩;have hrow:=yx (out:=r) (i:=r.length-(ay q).length) (a:= -(aB r/aB (ay q))) (q:=ay q) (k:=(ay q).length) (m:=QD) (K:=2*QD) (by rw[aL];omega) h.bound (by omega) (by rw[ud];omega) (fun n=>Nat.le_trans (ho.hq.cf (by omega) n) (by omega)) x hx;omega
theorem Nh{p q:List ND}{n:Nat}{r s:List Rat}(ho:gL p q)(h:DivPhi p q n r s)(hl:q.length<=r.length):
  IntKind.i64.wrap (((aH r).length:Int)-1)=((r.length-1:Nat):Int)/\IntKind.i64.wrap ((q.length:Int)-1)=((q.length-1:Nat):Int)/\nth NT (aH r) ((r.length-1:Nat):Int)=bp (aB r)/\nth NT q ((q.length-1:Nat):Int)=bp (aB (ay q))/\iq (bp (aB r)) (bp (aB (ay q))):=by
 have h1:=h.lr;have h2:=ho.l1;have h3:=ho.h0;have h4:=ho.l2;obtain⟨_,_,_,_,_,h5⟩:=UN ho h hl;refine⟨by rw[aE,bU (by omega)];omega,by rw[bU (by omega)];omega,?_,?_,h5⟩;·rw[Dt (by omega),<- bD (by omega)]
 ·rw[gK ho.hq (by omega),bD (by rw[aL];omega),aL]
theorem TF{p q:List ND}(ho:gL p q):max 0 (IntKind.i64.wrap (IntKind.i64.wrap ((p.length:Int)-(q.length:Int))+1))=((p.length+1-q.length:Nat):Int)/\(0:Int)<=((p.length+1-q.length:Nat):Int)/\((p.length+1-q.length:Nat):Int)<=1000:=by
 have h2:=ho.l1;have h4:=ho.l2;rw[wi (x:=(p.length:Int)-(q.length:Int)) (by omega) (by omega),wo];omega
theorem yz{p q:List ND}{n:Nat}{r s:List Rat}(ho:gL p q)(h:DivPhi p q n r s)(hl:q.length<=r.length):(0:Int)<=((r.length-q.length:Nat):Int)/\((r.length-q.length:Nat):Int)<((aH s).length:Int)/\r.length-q.length<(aH s).length:=by
 have h1:=h.lr;have h2:=h.ls;rw[aE,h2];omega
theorem Jw{p q:List ND}{n:Nat}{r s:List Rat}(ho:gL p q)(h:DivPhi p q n r s)(hl:q.length<=r.length):((0:Int)<=((r.length-1:Nat):Int)/\((r.length-1:Nat):Int)<((aH r).length:Int))/\r.length-1<(aH r).length/\((0:Int)<=((q.length-1:Nat):Int)/\((q.length-1:Nat):Int)<(q.length:Int))/\iq (bp (aB r)) (bp (aB (ay q)))/\bH (bp (aB (ay q)))≠0:=by
 have h3:=ho.h0;obtain⟨_,_,_,_,h5⟩:=Nh ho h hl;rw[aE,aP];exact⟨by omega,by omega,by omega,h5,ho.hl⟩
theorem Jy{p q:List ND}{n:Nat}{r s:List Rat}(ho:gL p q)(h:DivPhi p q n r s)(hl:q.length<=r.length){i:Nat}(hi:i<q.length):((0:Int)<=((r.length-q.length+i:Nat):Int)/\((r.length-q.length+i:Nat):Int)<((aH (cK r (r.length-q.length) (-(aB r/aB (ay q))) (ay q) i)).length:Int))/\r.length-q.length+i<(aH (cK r (r.length-q.length) (-(aB r/aB (ay q))) (ay q) i)).length/\
  iq (bp (aB r/aB (ay q))) (bp (cf (ay q) i))/\iq (bp (cf (cK r (r.length-q.length) (-(aB r/aB (ay q))) (ay q) i) (r.length-q.length+i))) (bp (aB r/aB (ay q)*cf (ay q) i))/\((0:Int)<=((r.length-q.length+i:Nat):Int)/\((r.length-q.length+i:Nat):Int)<((aH (cK r (r.length-q.length) (-(aB r/aB (ay q))) (ay q) i)).length:Int))/\r.length-q.length+i<(aH (cK r (r.length-q.length) (-(aB r/aB (ay q))) (ay q) i)).length:=by
 obtain⟨_,h2,_,_,h5,h6⟩:=Nf ho h hl hi;exact⟨⟨by omega,by omega⟩,h2,h5,h6,⟨by omega,by omega⟩,h2⟩
theorem Ni{p q:List ND}{n:Nat}{r s:List Rat}(ho:gL p q){i:Nat}(hi:i<q.length):∃z:Nat,IntKind.i64.wrap ((i:Int)+1)=(z:Int)/\aH (cK r (r.length-q.length) (-(aB r/aB (ay q))) (ay q) (i+1))=aH (cK r (r.length-q.length) (-(aB r/aB (ay q))) (ay q) z)/\z<=q.length/\q.length-z<q.length-i:=by
 have h4:=ho.l2;exact⟨i+1,by rw[wo];omega,rfl,by omega,by omega⟩
theorem FK{p q:List ND}{n:Nat}{r s:List Rat}{i:Nat}(hi:i=q.length):cK r (r.length-q.length) (-(aB r/aB (ay q))) (ay q) i=cA (ay q) r:=by
 unfold cA;rw[aL,hi]
def dC:Nat->List Rat->List Rat->List Rat
 |0,p,_=>cy p
 |n+1,p,q=>if q=[] then cy p else dC n q (cy (divN p q).2)
def cd(p q:List Rat):List Rat:=dC (q.length+1) p q
def Trm(l:List Rat):Prop:=l≠[]->aB l≠0
def uw:Nat->List Rat->List Rat->Prop
 |0,_,_=>True
 |n+1,p,q=>if q=[] then ∀x∈p,lq x<=QH else uv q (p.length+1) p/\(∀x∈q,lq x<=QD)/\(∀x∈(divN p q).2,lq x<=QH)/\uw n q (cy (divN p q).2)
theorem cL:∀l:List Rat,Trm (aM l)
 | []=>fun h=>absurd rfl h
 |x::l=>by
  intro h;have ih:=cL l;simp only[aM] at h ⊢;split
  ·(rename_i hl;rw[hl] at h;split;·rename_i hx;simp only[hx,if_true,ne_eq,not_true] at h);·rename_i hx;simpa [aB] using hx
  ·rename_i y m hl;rw[hl] at ih;have:=ih (by simp);simpa [aB] using this
theorem ux(q:List Rat):∀(n:Nat) (r s:List Rat),Trm r->Trm (fA q n r s).2
 |0,r,s,h=>h
 |n+1,r,s,h=>by
  rw[fA];split;·exact ux q n _ _ (cL _)
  ·exact h
theorem fx{p q:List Rat}(h:Trm p):Trm (divN p q).2:=ux _ _ _ _ h
theorem rH{q:List Rat}(hq:0<q.length)(h0:aB q≠0):∀(n:Nat) (r s:List Rat),r.length<n->(fA q n r s).2.length<q.length
 |0,r,s,h=>absurd h (by omega)
 |n+1,r,s,h=>by
  rw[fA];split;·rename_i hl;have:=fh hq hl h0;exact rH hq h0 n _ _ (by omega)
  ·rename_i hl;simp only;omega
theorem ev{p q:List Rat}(hq:0<q.length)(h0:aB q≠0):(divN p q).2.length<q.length:=rH hq h0 _ _ _ (Nat.lt_succ_self _)
theorem bY(l:List Rat):(cy l).length=l.length:=by simp[cy]
theorem lH{l:List Rat}(h:0<l.length):aB (cy l)=aB l/aB l:=by
 rw[bD (by rw[bY];exact h),bY];conv=>rhs;arg 1;rw[bD h]
 unfold cy cf;simp only[List.getD_eq_getElem?_getD,List.getElem?_map];rw[List.getElem?_eq_getElem (by omega)];rfl
theorem ea{l:List Rat}(h:Trm l):Trm (cy l):=by
 intro hne;have hl:0<l.length:=by rw[<- bY];exact List.length_pos_iff.2 hne
 have h1:=h (List.length_pos_iff.1 hl);rw[lH hl];grind
structure kg (p q:List ND):Prop where
 hp:∀x∈p,NOK x
 hq:∀x∈q,NOK x
 l1:p.length<=900
 l2:q.length<=900
 tp:Trm (ay p)
 tq:Trm (ay q)
 safe:uw (q.length+1) (ay p) (ay q)
structure uy (p q:List ND) (n:Nat) (a b:List Rat):Prop where
 eq:dC n a b=cd (ay p) (ay q)
 fuel:b.length<n
 safe:uw n a b
 ta:Trm a
 tb:Trm b
 la:a.length<=900
 lb:b.length<=900
theorem yA{p:List ND}(h:∀x∈p,NOK x):aH (ay p)=p:=by
 simp only[ay,aH,List.map_map];conv=>rhs;rw[<- List.map_id p]
 exact List.map_congr_left fun x hx=>h x hx
theorem Jz{p q:List ND}(h:kg p q):uy p q (q.length+1) (ay p) (ay q):=by
 refine⟨?_,by rw[aL];omega,h.safe,h.tp,h.tq,by rw[aL];exact h.l1,by rw[aL];exact h.l2⟩;unfold cd;rw[aL]
theorem lI(l:List Rat):∀x∈aH l,NOK x:=by
 intro x hx;obtain⟨y,_,rfl⟩:=List.mem_map.1 hx;exact b9 y
theorem Nj{p q:List ND}{n:Nat}{a b:List Rat}(h:uy p q n a b)(hb:0<b.length):
  gL (aH a) (aH b)/\qG (aH (divN a b).2)/\(∃m,uy p q m b (cy (divN a b).2))/\(cy (divN a b).2).length<b.length:=by
 have hbn:=List.length_pos_iff.1 hb;have h1:=h.safe;have h2:=h.eq;have h3:=h.fuel;have hl:=h.tb hbn;have hs:=ev (p:=a) hb hl;match n,h1,h2,h3 with
 |n+1,h1,h2,h3=>
  rw[uw,if_neg hbn] at h1;rw[dC,if_neg hbn] at h2;obtain⟨s1,s2,s3,s4⟩:=h1;have hlb:=h.lb;refine⟨⟨lI _,gJ s2,by rw[aE];exact h.la,by rw[aE];exact h.lb,by rw[aE];exact hb,by rw[aI];exact hl,by rw[aI,aI,aE];exact s1⟩,
   ⟨gJ s3,by rw[aE];omega,fun hne=>?_⟩,⟨n,h2,by rw[bY];omega,s4,h.tb,ea (fx h.ta),h.lb,by rw[bY];omega⟩,by rw[bY];exact hs⟩
  rw[aI];exact fx h.ta (fun e=>hne (by rw[e];rfl))
theorem Q3{p q:List ND}{n:Nat}{a b:List Rat}(h:uy p q n a b)(hb:¬0<b.length):qG (aH a)/\cy a=cd (ay p) (ay q):=by
 have hbn:b=[]:=List.eq_nil_of_length_eq_zero (by omega);have h1:=h.safe;have h2:=h.eq;have h3:=h.fuel;match n,h1,h2,h3 with
 |n+1,h1,h2,h3=>
  rw[uw,if_pos hbn] at h1;rw[dC,if_pos hbn] at h2;have hla:=h.la;refine⟨⟨gJ h1,by rw[aE];omega,fun hne=>?_⟩,h2⟩;rw[aI];exact h.ta (fun e=>hne (by rw[e];rfl))
def bO(l:List Rat):List Rat:=if l=[] then [] else cy (divN l (cd l (bl l))).1
def mE(p:List ND):Prop:=p≠[]->Sz QH p/\p.length<=900/\kg p (aH (bl (ay p)))/\gL p (aH (cd (ay p) (bl (ay p))))/\qG (aH (divN (ay p) (cd (ay p) (bl (ay p)))).1)
end Go.Cm
end
section
namespace Go.Cm
open Go Go.RowKit
theorem vP{P:Program}(w:World)(dT sT ty elem:TypeId)(g o dLen dCap:Nat)(a:Addr)(sLen sCap:Nat)(cur:Array Value)(t:TypeId)(cs:List Value)(size n:Nat)
  (hu:P.underlying dT=some (.slice elem)) (hs:(P.info? elem).map (·.size)=some size)
  (hg:w.heap[g]? =some (.cells cur t (0,0))) (hn:n=Nat.min sLen dLen) (hl0:cs.length=n*size)
  (hsrc:∀j v,cs[j]? =some v->w.cell? (a.add j)=some v) (hfit:o+cs.length<=cur.size) (h1:∀v∈cs,v.oneCell'=true):
  (Builtin.copy_ #[dT,sT] ty #[.slice (some ⟨g,o,none⟩) dLen dCap,.slice (some a) sLen sCap]).run P w=
   .ok (goInt n) (w.setRow g (cur.toList.take o++cs++cur.toList.drop (o+cs.length)).toArray):=by
 have hl:=run_loadCells_list (P:=P) w a cs hsrc;rw[hl0] at hl;have hst:=run_storeCells_at P g o t cs 0 cur w hg (by simpa using hfit) h1;cases hq:P.info? elem with
 |none=>simp[hq] at hs
 |some i=>
  have hi:i.size=size:=by simpa [hq] using hs
  simp[Builtin.copy_,run_underlying hu,Builtin.lenOf,Builtin.firstCells,sizeOf,typeInfo,hq,hi,<- hn,hl,hst]
theorem uz{P:Program}(w:World)(dT sT ty elem:TypeId)(d a:Option Addr)(dLen dCap sLen sCap:Nat)(size:Nat)(hu:P.underlying dT=some (.slice elem))(hs:(P.info? elem).map (·.size)=some size)(hn:Nat.min sLen dLen=0):
  (Builtin.copy_ #[dT,sT] ty #[.slice d dLen dCap,.slice a sLen sCap]).run P w= .ok (goInt 0) w:=by
 cases hq:P.info? elem with
 |none=>simp[hq] at hs
 |some i=>
  have hl:∀(x:Addr),(loadCells x 0).run P w= .ok #[] w:=fun x=>by simpa using run_loadCells_list (P:=P) w x [] (by simp)
  cases d<;>cases a<;>simp[Builtin.copy_,run_underlying hu,Builtin.lenOf,Builtin.firstCells,sizeOf,typeInfo,hq,hn,storeCells,hl]
theorem wN{P:Program}{w:World}(dT sT ty elem:TypeId)(size:Nat)(hu:P.underlying dT=some (.slice elem))(hsz:(P.info? elem).map (·.size)=some size)
  (dp sp:Option Addr) (dLen dCap sLen sCap n:Nat) (g off:Nat) (cur:List Value) (t:TypeId) (hg:w.heap[g]? =some (.cells cur.toArray t (0,0))) (cs:List Value) (hn:n=Nat.min sLen dLen) (hl:cs.length=n*size)
  (hpos:0<n->dp=some ⟨g,off,none⟩/\∃ad,sp=some ad/\∀j v,cs[j]? =some v->w.cell? (ad.add j)=some v)
  (hfit:off+cs.length<=cur.length) (h1:∀v∈cs,v.oneCell'=true) (B:Nat) (w0:World) (hb:Below B w0 w) (hBg:B<=g):
  ∃w',(Builtin.copy_ #[dT,sT] ty #[.slice dp dLen dCap,.slice sp sLen sCap]).run P w= .ok (goInt n) w'/\w'.heap[g]? =some (.cells (splice cur off cs).toArray t (0,0))/\Below B w0 w':=by
 by_cases h0:n=0
 ·subst h0;obtain rfl:cs=[]:=List.eq_nil_of_length_eq_zero (by simpa using hl);exact⟨w,uz w dT sT ty elem dp sp dLen dCap sLen sCap size hu hsz hn.symm,by simpa [splice] using hg,hb⟩
 ·obtain⟨rfl,ad,rfl,hsrc⟩:=hpos (by omega);refine⟨_,vP w dT sT ty elem g off dLen dCap ad sLen sCap cur.toArray t cs size n hu hsz hg hn hl hsrc (by simpa using hfit) h1,?_,below_setRow hb hBg _⟩;simpa [splice] using setRow_heap w g _ _ t _ hg
theorem yB{P:Program}{w:World}{ops:Array Oper}{rest:List Oper}{o:Oper}{a:Act}{Q:Exit->Act->World->Prop}(hgd:o.guard=none)(d s:Operand)(dT sT:TypeId)
  (ho:o.op= .call {callee:= .builtin .copy,args:= #[d,s],argTypes:= #[dT,sT]}) (elem:TypeId) (size:Nat) (hu:P.underlying dT=some (.slice elem)) (hsz:(P.info? elem).map (·.size)=some size)
  (dp sp:Option Addr) (dLen dCap sLen sCap n:Nat) (hd:a.eval d= .slice dp dLen dCap) (hs:a.eval s= .slice sp sLen sCap)
  (g off:Nat) (cur:List Value) (t:TypeId) (hg:w.heap[g]? =some (.cells cur.toArray t (0,0))) (cs:List Value) (hn:n=Nat.min sLen dLen) (hl:cs.length=n*size)
  (hpos:0<n->dp=some ⟨g,off,none⟩/\∃ad,sp=some ad/\∀j v,cs[j]? =some v->w.cell? (ad.add j)=some v)
  (hfit:off+cs.length<=cur.length) (h1:∀v∈cs,v.oneCell'=true) (B:Nat) (w0:World) (hb:Below B w0 w) (hBg:B<=g)
  (h:∀w',Hid (w'.heap[g]? =some (.cells (splice cur off cs).toArray t (0,0)))->Below B w0 w'->wpList P ops Q rest (a.put o.dst (goInt n)) w'):
  wpList P ops Q (o::rest) a w:=by
 refine wpList_plain hgd fun K hK=>?_;obtain⟨w',hrun,hg',hb'⟩:=wN dT sT o.type elem size hu hsz dp sp dLen dCap sLen sCap n g off cur t hg cs hn hl hpos hfit h1 B w0 hb hBg;unfold Oper.wp;simp[execOp,ho,resolve,invoke,builtin,hd,hs,hrun,Result.andThen];exact hK _ _ (h w' hg' hb')
theorem Du{P:Program}{ops:Array Oper}{o:Oper}{a:Act}{w:World}{K:Act->World->Prop}{Q:Exit->Act->World->Prop}{E:Prop}(hgd:o.guard=none)(d s:Operand)(dT sT:TypeId)
  (ho:o.op= .call {callee:= .builtin .copy,args:= #[d,s],argTypes:= #[dT,sT]}) (elem:TypeId) (size:Nat) (hu:P.underlying dT=some (.slice elem)) (hsz:(P.info? elem).map (·.size)=some size)
  (dp sp:Option Addr) (dLen dCap sLen sCap n:Nat) (hd:a.eval d= .slice dp dLen dCap) (hs:a.eval s= .slice sp sLen sCap)
  (g off:Nat) (cur:List Value) (t:TypeId) (hg:w.heap[g]? =some (.cells cur.toArray t (0,0))) (cs:List Value) (hn:n=Nat.min sLen dLen) (hl:cs.length=n*size)
  (hpos:0<n->dp=some ⟨g,off,none⟩/\∃ad,sp=some ad/\∀j v,cs[j]? =some v->w.cell? (ad.add j)=some v)
  (hfit:off+cs.length<=cur.length) (h1:∀v∈cs,v.oneCell'=true) (B:Nat) (w0:World) (hb:RowKit.Below B w0 w) (hBg:B<=g)
  (h:∀w',RowKit.Hid (w'.heap[g]? =some (.cells (splice cur off cs).toArray t (0,0)))->RowKit.Below B w0 w'->K (a.put o.dst (goInt n)) w'):
  if Region.wanted o (yielded ops a.tmps)=true then Oper.wp P o a w K Q else E:=by
 have hw:Region.wanted o (yielded ops a.tmps)=true:=by simp[Region.wanted,hgd]
 rw[if_pos hw];obtain⟨w',hrun,hg',hb'⟩:=wN dT sT o.type elem size hu hsz dp sp dLen dCap sLen sCap n g off cur t hg cs hn hl hpos hfit h1 B w0 hb hBg;unfold Oper.wp;simp[execOp,ho,resolve,invoke,builtin,hd,hs,hrun,Result.andThen];exact h w' hg' hb'
def cU(n:Nat)(l:List Value):List Value:=(List.replicate n l).flatten
theorem fi(n:Nat)(l:List Value):(cU n l).length=n*l.length:=by simp[cU]
theorem uA(m n:Nat)(l:List Value):cU (m+n) l=cU m l++cU n l:=by simp only[cU,<- List.flatten_append,List.replicate_append_replicate]
theorem AQ{n:Nat}{l:List Value}{v:Value}(h:v∈cU n l):v∈l:=by
 obtain⟨x,hx,hv⟩:=List.mem_flatten.1 h;rw[(List.mem_replicate.1 hx).2] at hv;exact hv
theorem rI{A B:List Value}(hAB:A.length=B.length){n k m:Nat}(hm:m<=n-k):splice (cU k A++cU (n-k) B) (k*A.length) (cU m A)=cU (k+m) A++cU (n-(k+m)) B:=by
 have hl:(cU k A).length=k*A.length:=fi _ _;have e1:(cU k A++cU (n-k) B).take (k*A.length)=cU k A:=by rw[<- hl,List.take_left]
 have e2:(cU k A++cU (n-k) B).drop (k*A.length+(cU m A).length)=cU (n-(k+m)) B:=by
  rw[<- List.drop_drop,<- hl,List.drop_left,fi,show n-k=m+(n-(k+m)) by omega,uA,hAB,<- fi m B,List.drop_left]
 simp only[splice,e1,e2];rw[<- List.append_assoc,<- uA]
end Go.Cm
end
section
namespace Go.Proofs
open Go.Shelf
def Tryz.laysB172_ren:Go.Shelf.Ren:=⟨fun|172=>182|244=>196|245=>188|247=>209|279=>204|280=>205|281=>206|282=>207|287=>187|316=>216|171=>166|205=>217|321=>202|322=>203|243=>184|246=>197|283=>210|284=>211|285=>212|286=>213|129=>219|317=>218|318=>220|319=>221|320=>222|337=>223|338=>224|n=>n,fun|9=>9|3=>3|75=>131|76=>132|4=>4|5=>5|167=>216|37=>47|0=>0|85=>222|2=>2|168=>218|53=>164|175=>191|46=>122|210=>231|127=>167|145=>239|143=>237|21=>21|171=>224|173=>227|212=>234|51=>161|20=>20|213=>235|232=>241|233=>242|80=>135|n=>n,fun|15=>1|16=>2|17=>3|18=>4|19=>5|n=>n⟩
theorem Tryz.laysB172:Go.Proofs.Lays.n172 Tryz.prog Tryz.laysB172_ren:={
 mixed:=by kernel_rfl
 f129:=Tryz.func219.trans (congrArg some (by kernel_rfl))
 f171:=Tryz.func166.trans (congrArg some (by kernel_rfl))
 f172:=Tryz.func182.trans (congrArg some (by kernel_rfl))
 f205:=Tryz.func217.trans (congrArg some (by kernel_rfl))
 f243:=Tryz.func184.trans (congrArg some (by kernel_rfl))
 f244:=Tryz.func196.trans (congrArg some (by kernel_rfl))
 f245:=Tryz.func188.trans (congrArg some (by kernel_rfl))
 f246:=Tryz.func197.trans (congrArg some (by kernel_rfl))
 f247:=Tryz.func209.trans (congrArg some (by kernel_rfl))
 f279:=Tryz.func204.trans (congrArg some (by kernel_rfl))
 f280:=Tryz.func205.trans (congrArg some (by kernel_rfl))
 f281:=Tryz.func206.trans (congrArg some (by kernel_rfl))
 f282:=Tryz.func207.trans (congrArg some (by kernel_rfl))
 f283:=Tryz.func210.trans (congrArg some (by kernel_rfl))
 f284:=Tryz.func211.trans (congrArg some (by kernel_rfl))
 f285:=Tryz.func212.trans (congrArg some (by kernel_rfl))
 f286:=Tryz.func213.trans (congrArg some (by kernel_rfl))
 f287:=Tryz.func187.trans (congrArg some (by kernel_rfl))
 f316:=Tryz.func216.trans (congrArg some (by kernel_rfl))
 f317:=Tryz.func218.trans (congrArg some (by kernel_rfl))
 f318:=Tryz.func220.trans (congrArg some (by kernel_rfl))
 f319:=Tryz.func221.trans (congrArg some (by kernel_rfl))
 f320:=Tryz.func222.trans (congrArg some (by kernel_rfl))
 f321:=Tryz.func202.trans (congrArg some (by kernel_rfl))
 f322:=Tryz.func203.trans (congrArg some (by kernel_rfl))
 f337:=Tryz.func223.trans (congrArg some (by kernel_rfl))
 f338:=Tryz.func224.trans (congrArg some (by kernel_rfl))
 t0:=Tryz.underlying0
 a0:=Tryz.isAgg0
 z0:=Tryz.sizeOf0
 v0:=Tryz.zeroValue0
 t2:=Tryz.underlying2
 a2:=Tryz.isAgg2
 z2:=Tryz.sizeOf2
 v2:=Tryz.zeroValue2
 t3:=Tryz.underlying3
 a3:=Tryz.isAgg3
 z3:=Tryz.sizeOf3
 v3:=Tryz.zeroValue3
 t4:=Tryz.underlying4
 a4:=Tryz.isAgg4
 z4:=Tryz.sizeOf4
 v4:=Tryz.zeroValue4
 t5:=Tryz.underlying5
 a5:=Tryz.isAgg5
 z5:=Tryz.sizeOf5
 v5:=Tryz.zeroValue5
 t9:=Tryz.underlying9
 a9:=Tryz.isAgg9
 z9:=Tryz.sizeOf9
 v9:=Tryz.zeroValue9
 t20:=Tryz.underlying20
 a20:=Tryz.isAgg20
 z20:=Tryz.sizeOf20
 v20:=Tryz.zeroValue20
 t21:=Tryz.underlying21
 a21:=Tryz.isAgg21
 z21:=Tryz.sizeOf21
 v21:=Tryz.zeroValue21
 t37:=Tryz.underlying47
 a37:=Tryz.isAgg47
 z37:=Tryz.sizeOf47
 v37:=Tryz.zeroValue47
 t46:=Tryz.underlying122
 a46:=Tryz.isAgg122
 z46:=Tryz.sizeOf122
 v46:=Tryz.zeroValue122
 t51:=Tryz.underlying161
 a51:=Tryz.isAgg161
 z51:=Tryz.sizeOf161
 v51:=Tryz.zeroValue161
 t53:=Tryz.underlying164
 a53:=Tryz.isAgg164
 z53:=Tryz.sizeOf164
 v53:=Tryz.zeroValue164
 t75:=Tryz.underlying131
 a75:=Tryz.isAgg131
 z75:=Tryz.sizeOf131
 v75:=Tryz.zeroValue131
 t76:=Tryz.underlying132
 a76:=Tryz.isAgg132
 z76:=Tryz.sizeOf132
 v76:=Tryz.zeroValue132
 t85:=Tryz.underlying222
 a85:=Tryz.isAgg222
 z85:=Tryz.sizeOf222
 v85:=Tryz.zeroValue222
 t127:=Tryz.underlying167
 a127:=Tryz.isAgg167
 z127:=Tryz.sizeOf167
 v127:=Tryz.zeroValue167
 t143:=Tryz.underlying237
 a143:=Tryz.isAgg237
 z143:=Tryz.sizeOf237
 v143:=Tryz.zeroValue237
 t145:=Tryz.underlying239
 a145:=Tryz.isAgg239
 z145:=Tryz.sizeOf239
 v145:=Tryz.zeroValue239
 t167:=Tryz.underlying216
 a167:=Tryz.isAgg216
 z167:=Tryz.sizeOf216
 v167:=Tryz.zeroValue216
 t168:=Tryz.underlying218
 a168:=Tryz.isAgg218
 z168:=Tryz.sizeOf218
 v168:=Tryz.zeroValue218
 t171:=Tryz.underlying224
 a171:=Tryz.isAgg224
 z171:=Tryz.sizeOf224
 v171:=Tryz.zeroValue224
 t173:=Tryz.underlying227
 a173:=Tryz.isAgg227
 z173:=Tryz.sizeOf227
 v173:=Tryz.zeroValue227
 t175:=Tryz.underlying191
 a175:=Tryz.isAgg191
 z175:=Tryz.sizeOf191
 v175:=Tryz.zeroValue191
 t210:=Tryz.underlying231
 a210:=Tryz.isAgg231
 z210:=Tryz.sizeOf231
 v210:=Tryz.zeroValue231
 t212:=Tryz.underlying234
 a212:=Tryz.isAgg234
 z212:=Tryz.sizeOf234
 v212:=Tryz.zeroValue234
 t213:=Tryz.underlying235
 a213:=Tryz.isAgg235
 z213:=Tryz.sizeOf235
 t232:=Tryz.underlying241
 a232:=Tryz.isAgg241
 z232:=Tryz.sizeOf241
 v232:=Tryz.zeroValue241
 t233:=Tryz.underlying242
 a233:=Tryz.isAgg242
 z233:=Tryz.sizeOf242
 v233:=Tryz.zeroValue242
 g15:=by kernel_rfl
 g16:=by kernel_rfl
 g17:=by kernel_rfl
 g18:=by kernel_rfl
 g19:=by kernel_rfl}
open Go.RowKit in
theorem Tryz.strconv_Atoi(s:ByteArray)(n:Int)(hl:s.size<=18)(h:Lib.atoi s.data.toList=some n)(w:World):
  Calls Tryz.prog 182 #[.string s] w fun e w'=>e= .returned (.tuple #[.int .i64 n,.nilIface])/\∃t,w'=Lib.bytesWorld w 5 t:=Any.strconv_Atoi Tryz.laysB172 s n hl h w
def Tryz.laysB145_ren:Go.Shelf.Ren:=⟨fun|145=>131|220=>171|219=>185|217=>198|225=>199|224=>200|267=>201|266=>214|314=>215|n=>n,fun|9=>9|4=>4|59=>154|3=>3|5=>5|46=>122|146=>162|51=>161|n=>n,fun|1=>0|n=>n⟩
theorem Tryz.laysB145:Go.Proofs.Lays.n145 Tryz.prog Tryz.laysB145_ren:={
 mixed:=by kernel_rfl
 f145:=Tryz.func131.trans (congrArg some (by kernel_rfl))
 f217:=Tryz.func198.trans (congrArg some (by kernel_rfl))
 f219:=Tryz.func185.trans (congrArg some (by kernel_rfl))
 f220:=Tryz.func171.trans (congrArg some (by kernel_rfl))
 f224:=Tryz.func200.trans (congrArg some (by kernel_rfl))
 f225:=Tryz.func199.trans (congrArg some (by kernel_rfl))
 f266:=Tryz.func214.trans (congrArg some (by kernel_rfl))
 f267:=Tryz.func201.trans (congrArg some (by kernel_rfl))
 f314:=Tryz.func215.trans (congrArg some (by kernel_rfl))
 t3:=Tryz.underlying3
 a3:=Tryz.isAgg3
 z3:=Tryz.sizeOf3
 v3:=Tryz.zeroValue3
 t4:=Tryz.underlying4
 a4:=Tryz.isAgg4
 z4:=Tryz.sizeOf4
 v4:=Tryz.zeroValue4
 t5:=Tryz.underlying5
 a5:=Tryz.isAgg5
 z5:=Tryz.sizeOf5
 v5:=Tryz.zeroValue5
 t9:=Tryz.underlying9
 a9:=Tryz.isAgg9
 z9:=Tryz.sizeOf9
 v9:=Tryz.zeroValue9
 t46:=Tryz.underlying122
 a46:=Tryz.isAgg122
 z46:=Tryz.sizeOf122
 v46:=Tryz.zeroValue122
 t51:=Tryz.underlying161
 a51:=Tryz.isAgg161
 z51:=Tryz.sizeOf161
 v51:=Tryz.zeroValue161
 t59:=Tryz.underlying154
 a59:=Tryz.isAgg154
 z59:=Tryz.sizeOf154
 v59:=Tryz.zeroValue154
 t146:=Tryz.underlying162
 a146:=Tryz.isAgg162
 z146:=Tryz.sizeOf162
 v146:=Tryz.zeroValue162
 g1:=by kernel_rfl}
open Go.RowKit Go.Lib in
theorem Tryz.strings_Cut(s sep:ByteArray)(m:Int)(w:World)(hs:s.size<4294967281)(hm:w.cell? ⟨0,0,none⟩=some (.int .i64 m)):
  Calls Tryz.prog 131 #[.string s,.string sep] w fun e w'=>e= .returned (.tuple #[.string ⟨(Lib.cut s.data.toList sep.data.toList).1.toArray⟩,.string ⟨(Lib.cut s.data.toList sep.data.toList).2.1.toArray⟩,.bool (Lib.cut s.data.toList sep.data.toList).2.2])/\∃n,w'=w.drewN n:=Any.strings_Cut Tryz.laysB145 s sep m w hs hm
open Go.RowKit Go.Lib in
open Go.RowKit Go.Lib in
def Tryz.laysB212_ren:Go.Shelf.Ren:=⟨fun|212=>95|263=>137|264=>138|n=>n,fun|46=>122|51=>161|146=>162|53=>164|148=>165|n=>n,fun|n=>n⟩
theorem Tryz.laysB212:Go.Proofs.Lays.n212 Tryz.prog Tryz.laysB212_ren:={
 mixed:=by kernel_rfl
 f212:=Tryz.func95.trans (congrArg some (by kernel_rfl))
 f263:=Tryz.func137.trans (congrArg some (by kernel_rfl))
 f264:=Tryz.func138.trans (congrArg some (by kernel_rfl))
 t46:=Tryz.underlying122
 a46:=Tryz.isAgg122
 z46:=Tryz.sizeOf122
 v46:=Tryz.zeroValue122
 t51:=Tryz.underlying161
 a51:=Tryz.isAgg161
 z51:=Tryz.sizeOf161
 v51:=Tryz.zeroValue161
 t53:=Tryz.underlying164
 a53:=Tryz.isAgg164
 z53:=Tryz.sizeOf164
 v53:=Tryz.zeroValue164
 t146:=Tryz.underlying162
 a146:=Tryz.isAgg162
 z146:=Tryz.sizeOf162
 v146:=Tryz.zeroValue162
 t148:=Tryz.underlying165
 a148:=Tryz.isAgg165
 z148:=Tryz.sizeOf165
 v148:=Tryz.zeroValue165}
open Go.RowKit Go.Lib in
theorem Tryz.bits_Mul(x y:Nat)(hx:x<18446744073709551616)(hy:y<18446744073709551616)(w:World):
  Calls Tryz.prog 95 #[.int .u64 x,.int .u64 y] w fun e w'=>e= .returned (.tuple #[.int .u64 ((x*y/18446744073709551616:Nat):Int),.int .u64 ((x*y%18446744073709551616:Nat):Int)])/\w'=w:=Any.bits_Mul Tryz.laysB212 x y hx hy w
end Go.Proofs
end
section
namespace Go.Proofs
open Go.RowKit Go.Cm Go.Shelf
attribute [local go_sem] Oper.semAt_some
def zc4:List Value:=[.bool false,.slice none 0 0,.bool false,.slice none 0 0]
theorem UO(n:Nat):madeCells (Value.agg zc4.toArray).cells (n*4)=(cU n zc4).toArray:=
 jc (t:=NT) (by decide) (by decide) n
theorem u46{n:Nat}(h:n<=1000):IntKind.u64.wrap (n:Int)=(n:Int):=by
 have h1:(n:Int)<=1000:=by omega
 unfold IntKind.wrap;have e:IntKind.u64.signed=false:=rfl;rw[e];simp only[Bool.false_and,Bool.false_eq_true,if_false];exact Int.emod_eq_of_lt (by omega) (Int.lt_of_le_of_lt h1 (by decide))
set_option maxRecDepth 100000 in
set_option maxHeartbeats 1000000 in
theorem Nk(xs:List Value)(h4:xs.length=4)(h1:∀u∈xs,u.oneCell'=true)(n:Nat)(hn:n<=1000)(b o c:Nat)(w:World)(hc:∀j v,xs[j]? =some v->w.cell? ⟨b,o+j,none⟩=some v):
  Calls Tryz.prog 112 #[.slice (some ⟨b,o,none⟩) 1 c,.int .i64 n] w fun e w'=>e= .returned (.slice (some ⟨w.heap.size,0,none⟩) n n)/\w'.heap[w.heap.size]? =some (.cells (cU n xs).toArray 91 (0,0))/\Below w.heap.size w w':=by
 have t36:=Tryz.underlying79;have a36:=Tryz.isAgg79;have z36:=Tryz.sizeOf79;have v36:=Tryz.zeroValue79;have t3:=Tryz.underlying3;have a3:=Tryz.isAgg3;have z3:=Tryz.sizeOf3;have v3:=Tryz.zeroValue3;have t84:=Tryz.underlying122;have a84:=Tryz.isAgg122;have z84:=Tryz.sizeOf122;have v84:=Tryz.zeroValue122;have hmul:=fun w=>Tryz.bits_Mul 1 n (by omega) (by omega) w;have e1:1*n/18446744073709551616=0:=by omega
 have e2:1*n%18446744073709551616=n:=by omega
 rw[e1,e2] at hmul;have e64:∀args w,(callFunc 95 args).run Tryz.prog w= .ok (.enter 95 args) w:=enters_of Tryz.func95 (by kernel_rfl) rfl;have w1:IntKind.u64.wrap (n:Int)=(n:Int):=u46 hn;have w2:IntKind.i64.wrap (n:Int)=(n:Int):=wo;have c1:¬(n:Int)<0:=by omega
 have c2:¬(9223372036854775807:Int)<(n:Int):=by omega
 obtain⟨i0,hi,hz0,hz1,hz2⟩:=info_parts (show (Tryz.prog.info? 91).map (fun i=>(i.zero,i.size,i.bytes))=some (some (.agg zc4.toArray),4,64) by kernel_rfl);have hs3:(Tryz.prog.info? 91).map (·.size)=some 4:=by rw[hi];simp[hz1]
 have hmk:=run_make (P:=Tryz.prog) w 79 91 i0 (.agg zc4.toArray) t36 hi hz0 .i64 .i64 (n:Int) (n:Int) (by omega) (Int.le_refl _) (by rw[hz2];omega) (by omega);have hmc:madeCells (Value.agg zc4.toArray).cells ((n:Int).toNat*i0.size)=(cU n zc4).toArray:=by
  rw[hz1,Int.toNat_natCast];exact UO n
 rw[hmc,Int.toNat_natCast] at hmk;have hg:(w.alloc (.cells (cU n zc4).toArray 91)).heap[w.heap.size]? =some (.cells (cU n zc4).toArray 91 (0,0)):=by rw[World.alloc_heap_new]
 have hb1:Below w.heap.size w (w.alloc (.cells (cU n zc4).toArray 91)):=(Below.refl _ _).alloc (Nat.le_refl _) _;obtain⟨m0,hm0⟩:∃m0,m0=min 1 n:=⟨_,rfl⟩;have hm01:m0<=1/\m0<=n/\(m0=0->n=0):=by omega
 have hrl:(cU n zc4).length=n*4:=fi n zc4;have hml:(cU m0 xs).length=m0*4:=by rw[fi,h4]
 have hsrc:∀j u,(cU m0 xs)[j]? =some u->(w.alloc (.cells (cU n zc4).toArray 91)).cell? (Addr.add ⟨b,o,none⟩ j)=some u:=by
  intro j u hj;have hj1:=(List.getElem?_eq_some_iff.1 hj).1;have hm1:m0=1:=by omega
  rw[hm1,show cU 1 xs=xs by simp[cU]] at hj;have hcj:=hc j u hj;obtain⟨o1,ho1,_⟩:=cells_of_cell hcj;rw[Addr.add_mid];exact(World.cell?_alloc_lt (a:=⟨b,o+j,none⟩) _ _ (Array.getElem?_eq_some_iff.1 ho1).1).trans hcj
 go_enter Tryz.func112,Tryz.ntmps112
 go_wp2_with (first|(go_at_fn 95;refine(hmul _).mono ?_;rintro e w' ⟨rfl,hw'⟩;rw[hw'])|refine yB rfl (.tmp 31) (.tmp 32) 79 79 rfl 91 4 t36 hs3 (some ⟨w.heap.size,0,none⟩) (some ⟨b,o,none⟩) n n 1 c m0 rfl rfl w.heap.size 0 (cU n zc4) 91 hg (cU m0 xs) (by exact hm0) hml (fun _=>⟨rfl,_,rfl,hsrc⟩) (by rw[hml,hrl];omega) (fun u hu=>h1 u (AQ hu)) w.heap.size w hb1 (Nat.le_refl _) ?_;intro w4 hg4 hb4)
 go_loopw [8] (fun s wr=>∃k:Nat,s= .int .i64 k/\(k=0->n=0)/\k<=n/\wr.heap[w.heap.size]? =some (.cells (cU k xs++cU (n-k) zc4).toArray 91 (0,0))/\Below w.heap.size w wr)
  (fun s _=>n-(intOf s).toNat)
 case atStart=>exact⟨m0,by first|rfl|rw[hm0],hm01.2.2,hm01.2.1,by
  have e:splice (cU 0 xs++cU (n-0) zc4) (0*xs.length) (cU m0 xs)=_:=rI (by rw[h4];rfl) (by omega);simp only[show cU 0 xs=[] by simp[cU],List.nil_append,Nat.sub_zero,Nat.zero_mul,Nat.zero_add] at e;rw[<- e];exact hg4.out,hb4⟩
 case round=>
  obtain⟨k,rfl,hk1,hkn,hgk,hbk⟩:=hrel;by_cases hlt:k<n
  ·(have d1:(k:Int)<(n:Int):=by omega);obtain⟨m,hm⟩:∃m,m=Nat.min k (n-k):=⟨_,rfl⟩;(have hm2:m<=k/\m<=n-k/\(m=k∨m=n-k):=by rw[hm];show min k (n-k)<=k/\min k (n-k)<=n-k/\(min k (n-k)=k∨min k (n-k)=n-k);omega);(have hkl:(cU k xs).length=k*4:=by rw[fi,h4]);have hzl:(cU (n-k) zc4).length=(n-k)*4:=fi _ _;(have hmm:(cU m xs).length=m*4:=by rw[fi,h4]);have hcp:∀j u,(cU m xs)[j]? =some u->wr.cell? (Addr.add ⟨w.heap.size,0,none⟩ j)=some u:=by
    intro j u hj;have hj1:=(List.getElem?_eq_some_iff.1 hj).1;have hpre:(cU k xs)[j]? =some u:=by
     rw[show k=m+(k-m) by omega,uA,List.getElem?_append_left hj1];exact hj
    rw[Addr.add_mid,Nat.zero_add];(have hjk:j<(cU k xs).length:=by omega);simp only[World.cell?,hgk];simp[List.getElem?_append_left hjk,hpre]
   (have hfit:k*4+(cU m xs).length<=(cU k xs++cU (n-k) zc4).length:=by rw[List.length_append,hkl,hzl,hmm];omega);have hnk:¬n=k:=by omega
   go_wp2
   go_region_law (refine Du rfl (.tmp 41) (.tmp 44) 79 79 rfl 91 4 t36 hs3 (some ⟨w.heap.size,k*4,none⟩) (some ⟨w.heap.size,0,none⟩) (n-k) (n-k) k n m (by simp[Act.eval,Act.put]) (by simp[Act.eval,Act.put]) w.heap.size (k*4) _ 91 hgk (cU m xs) hm hmm (fun _=>⟨rfl,_,rfl,hcp⟩) hfit (fun u hu=>h1 u (AQ hu)) w.heap.size w (show Below w.heap.size w wr.drew from⟨hbk.os,hbk.tape,hbk.output,hbk.size,hbk.block⟩) (Nat.le_refl _) ?_;intro w5 hg5 hb5)
   (have hw3:IntKind.i64.wrap ((k:Int)+((k.min (n-k):Nat):Int))=((k+m:Nat):Int):=by rw[<- hm,wo];omega);rw[hw3];simp only[Act.put,List.setIfInBounds_toArray,List.set_cons_succ,List.set_cons_zero,List.getElem_toArray,List.getElem_cons_succ,List.getElem_cons_zero]
   go_roundw
   case rel=>
    refine⟨_,_,_,_,_,_,_,_,_,_,_,_,_,_,⟨k+m,rfl,by omega,by omega,?_,hb5⟩,rfl⟩;have e:splice (cU k xs++cU (n-k) zc4) (k*xs.length) (cU m xs)=_:=rI (by rw[h4];rfl) hm2.2.1;rw[h4] at e;rw[<- e];exact hg5.out
   case measure=>simp[intOf];omega
  ·(have hkk:k=n:=by omega);subst hkk;have d1:¬(k:Int)<(k:Int):=by omega
   go_wp2
   go_ret
   exact⟨rfl,by simpa [cU] using hgk,hbk⟩
theorem yC{w w':World}{O:Nat->Prop}{ρ0:Nat->Value}{fr:List Nat}{t:Ty}{T:TypeId}{xs:List t.D}{v:Value}{cells:List Value}(hO:∀b,O b->b<w.heap.size)(hb:Below w.heap.size w w')(hs:∃a n c,v= .slice a n c)(hr:∀H:Nat->Prop,(∀b,b<w.heap.size->H b->O b)->cR (fun c x=>t.rep H w' c x) cells xs)(hrow:Cm.rowAt (fun b=>w.heap.size<=b) w' T t.w v xs.length cells):
  ∃(vs':List Value) (ρ1:Nat->Value),Ending.returned v= .returned (yc vs')/\([]:List aJ).length=([]:List aJ).length/\Bel (fun b=>w.heap.size<=b∨bw ρ0 [] b) w w'/\
   (∀k,¬(ioB<=k/\k<ioB+([]:List aJ).length/\fr.contains (k-ioB)=true)->ρ1 k=ρ0 k)/\
   bC (l5 (cX (hot O ρ1 (aj ioB [])) [RV.own t T xs] vs') w' (fun b=>w.heap.size<=b∨bw ρ0 [] b)) [RV.own t T xs] vs'/\fS [RV.own t T xs] vs'/\
   (∀p∈aj ioB ([]:List aJ),cl (cX (hot O ρ1 (aj ioB [])) [RV.own t T xs] vs') w' ρ1 (fun b=>w.heap.size<=b∨bw ρ0 [] b) p)/\
   oS ρ1 (aj ioB [])/\∀b,bw ρ1 [] b-> ¬cX (fun _=>False) [RV.own t T xs] vs' b:=by
 have hnew:∀b,Blk v b->w.heap.size<=b:=by
  intro b hbl;obtain⟨_,⟨rfl,_⟩|⟨g,cap,cur,rfl,hg,_⟩⟩:=hrow;·simp[Blk] at hbl
  ·simp[Blk] at hbl;exact hbl▸hg
 refine⟨[v],ρ0,rfl,rfl,⟨hb.os,hb.tape,hb.output,hb.size,fun k hk _=>hb.block k hk⟩,fun _ _=>rfl,⟨⟨hs,cells,hr _ ?_,?_⟩,trivial⟩,⟨fun _ b _ h=>h,trivial⟩,fun p hp=>by simp[aj] at hp,List.Pairwise.nil,fun b hb=>by simp[bw,aj] at hb⟩
 ·rintro b hlt (⟨_,h⟩|(h|⟨p,hp,_⟩));·have:=hnew b h;omega
  ·exact h
  ·simp[aj] at hp
 ·obtain⟨h1,h2⟩:=hrow;refine⟨h1,h2.imp_right ?_⟩;rintro⟨g,cap,cur,e1,e2,e3⟩;exact⟨g,cap,cur,e1,.inl e2,e3⟩
def gh:Con:=fun l os=>match l,os with
 | [.z (.slice (.st (.pair (.st (.pair .bool (.slice (.int .u32)))) (.st (.pair .bool (.slice (.int .u32))))))) [x],.z (.int .i64) n],[]=>some (0<=n/\n<=1000,[.own tyN 91 (List.replicate n.toNat x)],[])
 |_,_=>none
theorem Q4{n:Int}(h:0<=n/\n<=1000):∃m:Nat,n=m/\m<=1000:=⟨n.toNat,by omega,by omega⟩
theorem wO{B:aq}(hB:aN B):Valid B Tryz.prog 112 gh:=by
 intro args os C rs os' hc hC O w vals ρ0 hOn hIo hO hOI hargs hown hap;unfold gh at hc;split at hc;case h_2=>cases hc
 rename_i x n;cases hc;obtain⟨u,z,rfl,hu,hz⟩:=zV hargs;rw[bE hz];obtain⟨m,rfl,h2⟩:=Q4 hC;obtain⟨cells,hr,h⟩:=jo hu;have hl:=bL (fun c x h=>NT.rep_length h) hr;rcases h with⟨_,h0,_⟩|⟨ad,c,rfl,hc⟩;·simp at h0
 have h4:cells.length=4:=hl;obtain⟨c0,d0,rfl,hr0,hd0⟩:=hr;obtain rfl:d0=[]:=hd0;rw[List.append_nil] at h4 hc;obtain⟨b,o,sp⟩:=ad;have hcell:w.cell? ⟨b,o,sp⟩=some (c0[0]'(by omega)):=by
  have:=hc 0 (c0[0]'(by omega)) (by simp);simpa [Addr.add] using this
 obtain rfl:sp=none:=by
  cases sp with
  |none=>rfl
  |some _=>simp only[World.cell?] at hcell;split at hcell<;>simp at hcell
 refine(Nk c0 h4 (Ty.rep_oneCell NT hr0) m h2 b o c w (fun j v hj=>by have:=hc j v hj;rwa [Addr.add_mid] at this)).mono fun e w' ⟨he,hw,hb⟩=>?_;subst he;rw[Int.toNat_natCast];refine yC hO hb ⟨_,_,_,rfl⟩ (cells:=cU m c0) (fun H hH=>eW ?_ m) ?_;·exact Ty.rep_move (t:=NT) (fun b hlt hb=> .inl (hH b hlt hb)) (fun b _ hlt=>hb.block b (dk hlt)) hr0
 ·rw[List.length_replicate];refine⟨by rw[fi,h4];rfl,.inr ⟨_,m,_,rfl,Nat.le_refl _,hw,Nat.le_refl _,by unfold maxLen;omega,?_,?_⟩⟩;·simp[fi,h4];exact Nat.le_refl _
  ·rw[List.toList_toArray];exact List.take_of_length_le (by rw[fi,h4];exact Nat.le_refl _)
attribute [local go_sem] Oper.semAt_some
def zN:ND:=((false,[]),(false,[]))
def kM(xs:List ND)(k:Nat):List LV:=[.z (.int .i64) ((xs.length:Int)-1-k),.z NT (xs.getD (xs.length-1-k) zN)]
def b5(xs:List ND):List (List LV):=(List.range xs.length).map (kM xs)
set_option maxRecDepth 100000 in
set_option maxHeartbeats 2000000 in
theorem Nl(F:Fence)(h7:F.fn 125)(hro:F.round=none)(l Bs oB b off len cap:Nat)(cs:Nat->List Value)(h4:∀j,j<len->(cs j).length=4)(hbig:len<=maxLen)(J:Nat->World->Prop)(Jx:World->Prop)(Kp:World->World->Prop)
  (W:World) (hBs:W.cell? ⟨Bs,oB,none⟩=some (.slice (some ⟨b,off,none⟩) len cap)) (hc:∀j,j<len->∀i,i<4->W.cell? ⟨b,off+j*4+i,none⟩=(cs j)[i]?)
  (hKp:∀A B,Kp A B->(∃o:Obj,A.heap[Bs]? =some o/\o.isCells=true)->((0<len)->∃o:Obj,A.heap[b]? =some o/\o.isCells=true)->B.heap[Bs]? =A.heap[Bs]? /\(0<len->B.heap[b]? =A.heap[b]?))
  (hY:∀k W1,J k W1->k<len->YieldAt F 0 Tryz.prog l #[.int .i64 ((len:Int)-1-k),.agg (cs (len-1-k)).toArray] W1 fun e W'=>(e= .returned (.bool true)/\J (k+1) W'/\Kp W1 W')∨(e= .returned (.bool false)/\Jx W'))
  (h0:J 0 W):
  CallsIn F 1 Tryz.prog 125 #[.func (.yield l) #[] #[],.pointer (some ⟨Bs,oB,none⟩)] W fun e W'=>(∃v,e= .returned v)/\(J len W'∨Jx W'):=by
 unfold maxLen at hbig;refine callsIn_of_wp Tryz.func125 rfl h7 ?_ hro;simp only[Tryz.ntmps125,List.size_toArray,List.length_cons,List.length_nil,Nat.reduceAdd,Nat.reduceSub,Array.replicate_succ,Array.replicate_zero,List.push_toArray,List.append_toArray,List.nil_append,List.cons_append]
 gi_wp2
 gi_loopw [3] (fun i wr=>∃k:Nat,k<=len/\i= .int .i64 ((len:Int)-1-k)/\J k wr/\wr.heap[Bs]? =W.heap[Bs]? /\(0<len->wr.heap[b]? =W.heap[b]?))
  (fun i _=>(intOf i+1).toNat)
 case atStart=>exact⟨0,Nat.zero_le _,by simp,h0,rfl,fun _=>rfl⟩
 case round=>
  obtain⟨k,hk,rfl,hJs,hn1,hn2⟩:=hrel;have hB1:wr.cell? ⟨Bs,oB,none⟩=some (.slice (some ⟨b,off,none⟩) len cap):=(World.cell?_of_block (a:=⟨Bs,oB,none⟩) hn1).trans hBs;by_cases hlt:k<len
  ·(have hge:0<=(len:Int)-1-k:=by omega);(have htn:((len:Int)-1-k).toNat=len-1-k:=by omega);(have hup:(len:Int)-1-k<len:=by omega);have hci:∀i,i<4->wr.cell? ⟨b,off+(len-1-k)*4+i,none⟩=(cs (len-1-k))[i]? :=fun i hi=>(World.cell?_of_block (a:=⟨b,off+(len-1-k)*4+i,none⟩) (hn2 (by omega))).trans (hc _ (by omega) i hi);have hlk:=h4 (len-1-k) (by omega);obtain⟨x0,x1,x2,x3,hx⟩:∃x0 x1 x2 x3,cs (len-1-k)=[x0,x1,x2,x3]:=by
    match h:cs (len-1-k),hlk with
    | [x0,x1,x2,x3],_=>exact⟨_,_,_,_,rfl⟩
   have hc0:wr.cell? ⟨b,off+(len-1-k)*4+0,none⟩=some x0:=(hci 0 (by omega)).trans (by rw[hx];rfl);have hcx:=hc0;have hload:=dL (P:=Tryz.prog) (Go.Proofs.YtdojbabpnaifoaaGreatDoor.ty91) (w:=wr) (b:=b) (o:=off+(len-1-k)*4) (cells:=cs (len-1-k)) (by rw[hlk];rfl) (fun j hj=>hci j (by omega));have hcB:∃o:Obj,wr.heap[Bs]? =some o/\o.isCells=true:=cells_of_cell hB1;have hcb:∃o:Obj,wr.heap[b]? =some o/\o.isCells=true:=cells_of_cell hcx;have hYk:=hY k wr hJs hlt;rw[hx] at hYk hload;obtain⟨fn,tmps,assign,body,hy,hR⟩:=hYk
   gi_wp2
   refine hR.mono ?_;rintro e W3 (⟨rfl,hJ3,hk3⟩|⟨rfl,hJx3⟩)
   ·obtain⟨e1,e2⟩:=hKp _ _ hk3 hcB (fun _=>hcb)
    gi_wp2
    go_roundw
    (case rel=>exact⟨k+1,by omega,by congr 1;omega,hJ3,e1.trans hn1,fun h=>(e2 h).trans (hn2 h)⟩);case measure=>simp[intOf];omega
   ·gi_wp2
    refine bodyPost_ret (results_none rfl _ _ _) rfl ?_;exact⟨⟨_,rfl⟩,.inr hJx3⟩
  ·(have hk2:k=len:=by omega);(have hng:¬0<=(len:Int)-1-k:=by omega);rw[hk2] at hJs;clear hk2
   gi_wp2
   go_end0
   exact⟨⟨_,rfl⟩,.inl hJs⟩
set_option maxRecDepth 100000 in
set_option maxHeartbeats 2000000 in
theorem wP(F:Fence)(h7:F.fn 125)(hro:F.round=none)(l Bs oB:Nat)(J:World->Prop)(W:World)(a:Option Addr)(cap:Nat)(hBs:W.cell? ⟨Bs,oB,none⟩=some (.slice a 0 cap))(h0:J W):
  CallsIn F 1 Tryz.prog 125 #[.func (.yield l) #[] #[],.pointer (some ⟨Bs,oB,none⟩)] W fun e W'=>(∃v,e= .returned v)/\J W':=by
 refine callsIn_of_wp Tryz.func125 rfl h7 ?_ hro;simp only[Tryz.ntmps125,List.size_toArray,List.length_cons,List.length_nil,Nat.reduceAdd,Nat.reduceSub,Array.replicate_succ,Array.replicate_zero,List.push_toArray,List.append_toArray,List.nil_append,List.cons_append]
 gi_wp2
 gi_loopw [3] (fun i wr=>i= .int .i64 (-1)/\wr=W) (fun i _=>(intOf i+1).toNat)
 case atStart=>exact⟨rfl,rfl⟩
 case round=>
  obtain⟨rfl,rfl⟩:=hrel
  gi_wp2
  go_end0
  exact⟨⟨_,rfl⟩,h0⟩
theorem mF{H:Nat->Prop}{w:World}{b o:Nat}{c:Value}(h:dP H w b o [c]):w.cell? ⟨b,o,none⟩=some c/\b<w.heap.size/\ ¬H b:=
 ⟨by have:=h.2 0 (by simp);simpa using this,h.lt (by simp),h.1 (by simp)⟩
theorem wQ(xs:List ND):oZ Tryz.prog 125 2 [.z (.ptr (.slice NT)) xs] (b5 xs):=by
 refine⟨enters_of Tryz.func125 (by kernel_rfl) rfl,?_,?_⟩;·intro it hit;obtain⟨k,_,rfl⟩:=List.mem_map.1 hit;exact⟨rfl,rfl⟩
 ·intro H w lb hH hcap;obtain⟨v,rfl⟩:∃v,lb=[v]:=by
   match lb,hcap with
   | [v],_=>exact⟨v,rfl⟩
   |_::_::_,h=>exact h.2.elim
  obtain⟨hag,bB,oB,cells,hv,hsl,hlies⟩:=hcap.1;have hv2:v= .pointer (some ⟨bB,oB,none⟩):=by
   have hone:=cD (v:=v) (by cases v<;>first|rfl|(simp[Ty.isAgg] at hag));rw[hone] at hv;simpa using hv
  subst hv2;have hlen:(b5 xs).length=xs.length:=by simp[b5]
  rcases hsl with⟨rfl,rfl⟩|⟨b,o,p,cap,cs,rfl,hp,h1,h2,h3,h4⟩;·refine⟨fun k=> #[],fun k hk=>by simp[b5] at hk,?_⟩;intro l J Jx W hb _ _ _ _ hY h0;obtain⟨c1,c2,c3⟩:=mF hlies;exact(wP (fw none) trivial rfl l bB oB (J 0) W none 0 ((hb.cell (p:=⟨bB,oB,none⟩) c2).trans c1) h0).mono (fun e W' h=>⟨h.1,.inl h.2⟩)
  ·have hcl:cs.length=xs.length*4:=bL (fun c x h=>NT.rep_length h) h3;have hone:∀j,j<xs.length->((cs.drop (j*4)).take 4).length=4:=by
    intro j hj;rw[List.length_take,List.length_drop,hcl];omega
   refine⟨fun k=> #[.int .i64 ((xs.length:Int)-1-k),.agg ((cs.drop ((xs.length-1-k)*4)).take 4).toArray],fun k hk=>?_,?_⟩
   ·rw[hlen] at hk;have hg:=gk (fun c x h=>NT.rep_length h) h3 (xs.length-1-k) (by omega);simp only[b5,List.getElem_map,List.getElem_range];refine⟨bW (ρ:=fun _=>undef),?_,trivial⟩;have hx:xs.getD (xs.length-1-k) zN=xs[xs.length-1-k]'(by omega):=by
     rw[List.getD_eq_getElem?_getD,List.getElem?_eq_getElem (by omega)];rfl
    rw[hx];exact iE (t:=NT) hg (fun h=>by cases h) (fun h=>by cases h)
   ·(intro l J Jx W hb _ _ _ _ hY h0;rw[hlen] at hY ⊢;obtain⟨c1,c2,c3⟩:=mF hlies;by_cases hnil:xs=[];·subst hnil;exact(wP (fw none) trivial rfl l bB oB (J 0) W (some ⟨b,o,p⟩) cap ((hb.cell (p:=⟨bB,oB,none⟩) c2).trans c1) h0).mono (fun e W' h=>⟨h.1,.inl h.2⟩));obtain rfl:=hp hnil;(have hne:0<xs.length->cs≠[]:=fun h e=>by rw[e] at hcl;simp at hcl;omega);refine Nl (fw none) trivial rfl l bB oB b o xs.length cap (fun j=>(cs.drop (j*4)).take 4) hone (Nat.le_trans h1 h2) J Jx (zU H w.heap.size) W ((hb.cell (p:=⟨bB,oB,none⟩) c2).trans c1) (fun j hj i hi=>?_) (fun A B hk hA1 hA2=>⟨hk bB c2 c3 hA1,fun h=>hk b (h4.lt (hne h)) (h4.1 (hne h)) (hA2 h)⟩) hY h0;(have hj':j*4+i<cs.length:=by rw[hcl];omega);rw[Nat.add_assoc,hb.cell (p:=⟨b,o+(j*4+i),none⟩) (h4.lt (hne (by omega))),h4.2 (j*4+i) hj'];rw[List.getElem?_take,if_pos hi,List.getElem?_drop]
end Go.Proofs
end
section
namespace Go.Cm
open Go.Proofs
theorem AR{p:List ND}{k i:Nat}(h:Sz k p)(hi:i<p.length):p.getD i zN=bp (cf (ay p) i):=by
 rw[<- gK h hi,eu (t:=NT) hi,List.getD_eq_getElem?_getD,List.getElem?_eq_getElem hi];rfl
theorem AU{p:List ND}{k:Nat}(hk:k<p.length):p.length-1-k<p.length:=by omega
theorem Dw(p:List ND)(x:Rat):0=au (List.drop (p.length-0) (ay p)) x:=by
 rw[Nat.sub_zero,List.drop_of_length_le (by rw[aL];exact Nat.le_refl _)];rfl
theorem Dx{p:List ND}{x:Rat}{k:Nat}(hk:k<p.length):au (List.drop (p.length-(k+1)) (ay p)) x=au (List.drop (p.length-k) (ay p)) x*x+cf (ay p) (p.length-1-k):=by
 rw[List.drop_eq_getElem_cons (by rw[aL];omega),show p.length-(k+1)+1=p.length-k by omega];have e:(ay p)[p.length-(k+1)]'(by rw[aL];omega)=cf (ay p) (p.length-1-k):=by
  unfold cf;rw[List.getD_eq_getElem?_getD,show p.length-1-k=p.length-(k+1) by omega,List.getElem?_eq_getElem (by rw[aL];omega)];rfl
 rw[e];rfl
theorem JA{p:List ND}{x:ND}{k:Nat}(hC:Sz QM p/\p.length<=100/\NOK x/\lq (bH x)<=QM)(hk:k<p.length){v:Rat}(hz:v=au (List.drop (p.length-k) (ay p)) (bH x)):iq (bp v) x/\iq (bp (v*bH x)) (bp (cf (ay p) (p.length-1-k))):=by
 obtain⟨h1,h2,h3,h4⟩:=hC;have e:QM=400000000:=rfl;have e2:QC=100000000000:=rfl;have hl:=px (l:=List.drop (p.length-k) (ay p)) (x:=bH x) (K:=QM) (fun c hc=>by
  have hc':=List.mem_of_mem_drop hc;obtain⟨y,hy,rfl⟩:=List.mem_map.1 hc';exact(h1 y hy).2) h4
 rw[<- hz,List.length_drop,aL] at hl;have hm:=lD v (bH x);have hc:=h1.cf (by omega) (p.length-1-k);have h5:(p.length-(p.length-k))*(2*QM+1)<=100*(2*QM+1):=Nat.mul_le_mul_right _ (by omega);exact⟨⟨b9 _,h3,by rw[aP];omega⟩,b9 _,b9 _,by rw[aP,aP];omega⟩
theorem Nm(p:List ND)(x:Rat):au (List.drop (p.length-(b5 p).length) (ay p)) x=au (ay p) x:=by
 rw[show (b5 p).length=p.length by simp[b5],Nat.sub_self,List.drop_zero]
def kN(s b:List Rat)(c:Rat):List Rat:=br (· + ·) (cB s b) (aM [c])
def cV(p b:List Rat):Nat->List Rat
 |0=>[]
 |k+1=>kN (cV p b k) b (cf p (p.length-1-k))
def fH(p b:List Rat):List Rat:=cV p b p.length
def Dy(s b:List ND)(c:ND):Prop:=Sz QM s/\Sz QM b/\s.length<=100/\b.length<=100/\NOK c/\lq (bH c)<=QM/\Sz QH (aH (cB (ay s) (ay b)))
def yD(p b:List ND):Prop:=Sz QM p/\p.length<=100/\∀k,k<p.length->Dy (aH (cV (ay p) (ay b) k)) b (bp (cf (ay p) (p.length-1-k)))
theorem uB(p q:List Rat):(cB p q).length<=p.length+q.length:=by
 unfold cB;split;·simp
 ·rw[dZ];omega
theorem JB{s b:List ND}{c:ND}(h:Dy s b c):(Sz QM s/\Sz QM b/\s.length<=100/\b.length<=100)/\(Sz QC [c]/\ [c].length<=QL)/\Sz QH (aH (cB (ay s) (ay b)))/\Sz QH (aH (aM (ay [c])))/\(aH (cB (ay s) (ay b))).length<=1000/\(aH (aM (ay [c]))).length<=1000:=by
 obtain⟨h1,h2,h3,h4,h5,h6,h7⟩:=h;have e:QM=400000000:=rfl;have e2:QC=100000000000:=rfl;have e3:QH=40000000000:=rfl;refine⟨⟨h1,h2,h3,h4⟩,⟨fun x hx=>?_,by simp[QL]⟩,h7,gJ fun x hx=>?_,?_,?_⟩;·simp only[List.mem_singleton] at hx;subst hx;exact⟨h5,by omega⟩
 ·have:x=bH c:=by
   (simp only[ay,List.map_cons,List.map_nil,aM] at hx;split at hx;·simp at hx);·simpa using hx
  rw[this];omega
 ·rw[aE];have:=uB (ay s) (ay b);rw[aL,aL] at this;omega
 ·rw[aE];have:=cN (ay [c]);rw[aL] at this;simp only[List.length_cons,List.length_nil] at this;omega
theorem AW(x:Rat)(i k:Nat):x^(i+k)=x^i*x^k:=by
 induction k with
 |zero=>rw[Nat.add_zero,Rat.pow_zero,Rat.mul_one]
 |succ k ih=>rw[<- Nat.add_assoc,Rat.pow_succ,Rat.pow_succ,ih,Rat.mul_assoc]
theorem cH(x:Rat):au [] x=0:=rfl
theorem c9(c:Rat)(l:List Rat)(x:Rat):au (c::l) x=au l x*x+c:=rfl
theorem iW(c x:Rat):au [c] x=c:=by rw[c9,cH];grind
theorem qH(l m:List Rat)(x:Rat):au (l++m) x=au l x+x^l.length*au m x:=by
 induction l with
 |nil=>simp only[List.nil_append,cH,List.length_nil];grind
 |cons c l ih=>simp only[List.cons_append,c9,ih,List.length_cons];grind
theorem Dz(n:Nat)(x:Rat):au (List.replicate n 0) x=0:=by
 induction n with
 |zero=>rfl
 |succ n ih=>rw[List.replicate_succ,c9,ih];grind
theorem eU(l:List Rat)(x:Rat):au (aM l) x=au l x:=by
 induction l with
 |nil=>rfl
 |cons c l ih=>
  rw[c9,<- ih];simp only[aM];split
  ·(rename_i h;rw[h];split;·rename_i h0;rw[h0,cH];grind);·rw[iW,cH];grind
  ·rename_i y m h;rw[h,c9]
theorem Nn(l:List Rat)(j:Nat)(y x:Rat)(h:j<l.length):au (l.set j y) x=au l x+(y-cf l j)*x^j:=by
 induction l generalizing j with
 |nil=>simp at h
 |cons c l ih=>
  cases j with
  |zero=>simp only[List.set_cons_zero,c9,cf,List.getD_cons_zero];grind
  |succ j=>
   simp only[List.set_cons_succ,c9];rw[ih j (by simpa using h)];(have:cf (c::l) (j+1)=cf l j:=by simp[cf]);rw[this];grind
theorem sc(l:List Rat)(k:Nat)(x:Rat)(h:k<l.length):au (l.take (k+1)) x=au (l.take k) x+cf l k*x^k:=by
 rw[List.take_succ_eq_append_getElem h,qH,iW,List.length_take,Nat.min_eq_left (by omega)];unfold cf;rw[List.getD_eq_getElem?_getD,List.getElem?_eq_getElem h];simp only[Option.getD_some];grind
theorem Np(out:List Rat)(i:Nat)(a:Rat)(q:List Rat)(x:Rat):∀k,k<=q.length->i+k<=out.length->au (cK out i a q k) x=au out x+a*x^i*au (q.take k) x
 |0,_,_=>by simp only[cK,List.take_zero,cH];grind
 |k+1,hk,h=>by
  rw[cK,Nn _ _ _ _ (by rw[jH];omega),Np out i a q x k (by omega) (by omega),sc q k x (by omega)];have:x^(i+k)=x^i*x^k:=AW _ _ _;rw[this];grind
theorem uC(out:List Rat)(i:Nat)(a:Rat)(q:List Rat)(x:Rat)(h:i+q.length<=out.length):au (cK out i a q q.length) x=au out x+a*x^i*au q x:=by
 rw[Np _ _ _ _ _ _ (Nat.le_refl _) h,List.take_length]
theorem FM(p q:List Rat)(x:Rat)(hq:0<q.length):∀i,i<=p.length->au (mulN p q i) x=au (p.take i) x*au q x
 |0,_=>by rw[mulN,Dz,List.take_zero,cH];grind
 |i+1,h=>by
  rw[mulN,uC _ _ _ _ _ (by rw[dZ];omega),FM p q x hq i (by omega),sc p i x (by omega)];grind
theorem eO(p q:List Rat)(x:Rat):au (cB p q) x=au p x*au q x:=by
 unfold cB;split;·rename_i h;rcases h with h|h<;>(subst h;simp only[cH];grind)
 ·rename_i h;have hq:0<q.length:=List.length_pos_iff.2 fun e=>h (.inr e);rw[FM p q x hq _ (Nat.le_refl _),List.take_length]
theorem lJ(f:Nat->Rat)(x:Rat):∀n,au ((List.range (n+1)).map f) x=au ((List.range n).map f) x+f n*x^n:=by
 intro n;rw[List.range_succ,List.map_append,qH];simp only[List.map_cons,List.map_nil,iW,List.length_map,List.length_range];grind
theorem bh{l:List Rat}{i:Nat}(h:l.length<=i):cf l i=0:=by
 unfold cf;rw[List.getD_eq_getElem?_getD,List.getElem?_eq_none h];rfl
theorem mG(l:List Rat)(x:Rat):∀n,l.length<=n->au ((List.range n).map (cf l)) x=au l x:=by
 have h0:∀n,n<=l.length->au ((List.range n).map (cf l)) x=au (l.take n) x:=by
  intro n;induction n with
  |zero=>intro _;rfl
  |succ n ih=>intro h;rw[lJ,ih (by omega),sc l n x (by omega)]
 intro n;induction n with
 |zero=>intro h;rw[h0 0 (by omega),show l=[] from List.eq_nil_of_length_eq_zero (by omega)];rfl
 |succ n ih=>
  intro h;by_cases h2:l.length<=n;·rw[lJ,ih h2,bh h2];grind
  ·rw[h0 _ (by omega),List.take_of_length_le (by omega)]
theorem wR(l m:List Rat)(x:Rat):∀n,au (bS (· + ·) l m n) x=au ((List.range n).map (cf l)) x+au ((List.range n).map (cf m)) x
 |0=>by simp only[bS,List.range_zero,List.map_nil,cH];grind
 |n+1=>by
  have:=wR l m x n;unfold bS at this ⊢;rw[lJ,lJ,lJ,this];grind
theorem wS(l m:List Rat)(x:Rat):∀n,au (bS (· - ·) l m n) x=au ((List.range n).map (cf l)) x-au ((List.range n).map (cf m)) x
 |0=>by simp only[bS,List.range_zero,List.map_nil,cH];grind
 |n+1=>by
  have:=wS l m x n;unfold bS at this ⊢;rw[lJ,lJ,lJ,this];grind
theorem mH(l m:List Rat)(x:Rat):au (br (· + ·) l m) x=au l x+au m x:=by
 rw[br,eU,wR,mG _ _ _ (by omega),mG _ _ _ (by omega)]
theorem ky(l m:List Rat)(x:Rat):au (br (· - ·) l m) x=au l x-au m x:=by
 rw[br,eU,wS,mG _ _ _ (by omega),mG _ _ _ (by omega)]
theorem uD(l:List Rat)(x:Rat):au (cy l) x=au l x/aB l:=by
 have:∀(c:Rat) (l:List Rat),au (l.map fun a=>a/c) x=au l x/c:=by
  intro c l;induction l with
  |nil=>simp only[List.map_nil,cH];grind
  |cons a l ih=>simp only[List.map_cons,c9,ih];grind
 exact this _ _
theorem Nq:∀{l:List Rat},l≠[]->aB l≠0->∃d X:Rat,0<d/\1<=X/\∀x,X<=x->d<=(au l x).abs
 | [],h,_=>absurd rfl h
 | [c],_,h=>by
  refine⟨c.abs,1,?_,by grind,fun x _=>by rw[iW];grind⟩;have:aB [c]=c:=rfl;rw[this] at h;unfold Rat.abs;split<;>grind
 |c::a::l,_,h=>by
  obtain⟨d,X,h1,h2,h3⟩:=Nq (l:=a::l) (by simp) (by simpa [aB] using h);refine⟨d,max X ((d+c.abs)/d),h1,by grind,fun x hx=>?_⟩;have h4:=h3 x (by grind);have h5:(d+c.abs)/d<=x:=by grind
  have h6:d+c.abs<=x*d:=by
   have:=Rat.mul_le_mul_of_nonneg_right h5 (Rat.le_of_lt h1);rwa [Rat.div_mul_cancel (by grind)] at this
  have h7:1<=x:=by grind
  have h8:x*d<=x*(au (a::l) x).abs:=Rat.mul_le_mul_of_nonneg_left h4 (by grind);rw[c9];generalize au (a::l) x=v at*;have h9:(v*x).abs=x*v.abs:=by
   by_cases hv:0<=v
   ·rw[Rat.abs_of_nonneg hv,Rat.abs_of_nonneg (Rat.mul_nonneg hv (by grind))];grind
   ·have h11:0<= -v*x:=Rat.mul_nonneg (by grind) (by grind);rw[Rat.abs_of_nonpos (by grind),Rat.abs_of_nonpos (by grind)];grind
  have h10:(v*x).abs<=(v*x+c).abs+c.abs:=by
   unfold Rat.abs;split<;>split<;>split<;>grind
  grind
theorem FN{l:List Rat}(h:Trm l)(h0:∀x,au l x=0):l=[]:=by
 by_cases hn:l=[]
 ·exact hn
 ·obtain⟨d,X,h1,h2,h3⟩:=Nq hn (h hn);have:=h3 X (by grind);rw[h0 X] at this;rw[Rat.abs_zero] at this;grind
theorem iu(op:Rat->Rat->Rat)(l m:List Rat)(n i:Nat)(h:i<n):cf (bS op l m n) i=op (cf l i) (cf m i):=by
 unfold bS;conv=>lhs;unfold cf
 rw[List.getD_eq_getElem?_getD,List.getElem?_map,List.getElem?_range h];rfl
theorem eV(l:List Rat)(i:Nat):cf (aM l) i=cf l i:=by
 induction l generalizing i with
 |nil=>rfl
 |cons c l ih=>
  simp only[aM];split
  ·rename_i h;rw[h] at ih;(have h0:∀j,cf l j=0:=fun j=>by rw[<- ih j];simp[cf]);split
   ·rename_i hc;cases i with
    |zero=>simp[cf,hc]
    |succ i=>have:=h0 i;simp only[cf,List.getD_cons_succ] at this ⊢;rw[this];simp
   ·cases i with
    |zero=>simp[cf]
    |succ i=>have:=h0 i;simp only[cf,List.getD_cons_succ] at this ⊢;rw[this];simp
  ·rename_i y m h;rw[h] at ih;cases i with
   |zero=>simp[cf]
   |succ i=>have:=ih i;simp only[cf,List.getD_cons_succ] at this ⊢;exact this
theorem DA{l m:List Rat}(hl:Trm l)(hm:Trm m)(h:∀i,cf l i=cf m i):l=m:=by
 have hlen:∀{l m:List Rat},Trm l->(∀i,cf l i=cf m i)->l.length<=m.length:=by
  intro l m hl h;by_cases hn:l=[];·subst hn;simp
  ·have hp:=List.length_pos_iff.2 hn;have h1:=hl hn;rw[bD hp,h] at h1;have:¬m.length<=l.length-1:=fun e=>h1 (bh e);omega
 have e:l.length=m.length:=Nat.le_antisymm (hlen hl h) (hlen hm fun i=>(h i).symm);apply List.ext_getElem e;intro i h1 h2;have:=h i;unfold cf at this;rw[List.getD_eq_getElem?_getD,List.getD_eq_getElem?_getD,List.getElem?_eq_getElem h1,List.getElem?_eq_getElem h2] at this;exact this
theorem kz{l m:List Rat}(hl:Trm l)(hm:Trm m)(h:∀x,au l x=au m x):l=m:=by
 have h0:br (· - ·) l m=[]:=FN (cL _) fun x=>by rw[ky,h];grind
 refine DA hl hm fun i=>?_;by_cases hi:i<max l.length m.length
 ·have h1:=eV (bS (· - ·) l m (max l.length m.length)) i;rw[show aM (bS (· - ·) l m (max l.length m.length))=[] from h0,iu _ _ _ _ _ hi] at h1;have:cf [] i=0:=by simp[cf]
  rw[this] at h1;grind
 ·rw[bh (by omega),bh (by omega)]
theorem kh:Trm []:=fun h=>absurd rfl h
theorem nt{l:List Rat}(h:Trm l):aM l=l:=by
 by_cases hn:l=[]
 ·subst hn;rfl
 ·exact lF hn (h hn)
theorem ct(op:Rat->Rat->Rat)(l m:List Rat):Trm (br op l m):=cL _
theorem dx(op:Rat->Rat->Rat)(l m:List Rat):(br op l m).length<=max l.length m.length:=by
 have:=cN (bS op l m (max l.length m.length));rw[dw] at this;exact this
theorem wT(p q:List Rat)(hq:0<q.length):∀i,i<=p.length->∀n,i+q.length<=n+1->cf (mulN p q i) n=0
 |0,_,n,_=>by
  rw[mulN];unfold cf;rw[List.getD_eq_getElem?_getD];by_cases h:n<p.length+q.length-1;·rw[List.getElem?_replicate,if_pos h];rfl
  ·rw[List.getElem?_eq_none (by simp;omega)];rfl
 |i+1,h,n,hn=>by
  rw[mulN,kf _ _ _ _ _ _ (by rw[dZ];omega),if_neg (by omega)];exact wT p q hq i (by omega) n (by omega)
theorem Nr{p q:List Rat}(hp:0<p.length)(hq:0<q.length):aB (mulN p q p.length)=aB p*aB q:=by
 obtain⟨n,hn⟩:∃n,p.length=n+1:=⟨p.length-1,by omega⟩;rw[bD (by rw[dZ];omega),dZ,hn,mulN,kf _ _ _ _ _ _ (by rw[dZ];omega),if_pos (by omega),wT p q hq n (by omega) _ (by omega:n+q.length<=(n+1+q.length-1-1)+1)];rw[bD hp,bD hq,hn];have e1:n+1+q.length-1-1-n=q.length-1:=by omega
 have e2:n+1-1=n:=by omega
 rw[e1,e2];grind
theorem se{p q:List Rat}(hp:p≠[])(hq:q≠[]):cB p q=mulN p q p.length:=by
 unfold cB;rw[if_neg];rintro(h|h);·exact hp h
 ·exact hq h
theorem dI{p q:List Rat}(hp:p≠[])(hq:q≠[]):(cB p q).length=p.length+q.length-1:=by
 rw[se hp hq,dZ]
theorem cZ(q:List Rat):cB [] q=[]:=by unfold cB;rw[if_pos (.inl rfl)]
theorem ew(p:List Rat):cB p []=[]:=by unfold cB;rw[if_pos (.inr rfl)]
theorem wU{p q:List Rat}(hp:p≠[])(hq:q≠[]):aB (cB p q)=aB p*aB q:=by
 rw[se hp hq,Nr (List.length_pos_iff.2 hp) (List.length_pos_iff.2 hq)]
theorem mI{p q:List Rat}(hp:Trm p)(hq:Trm q):Trm (cB p q):=by
 intro h;by_cases h1:p=[];·subst h1;exact absurd (cZ q) h
 by_cases h2:q=[]
 ·subst h2;exact absurd (ew p) h
 rw[wU h1 h2];have:=hp h1;have:=hq h2;grind
theorem uE{q r:List Rat}(h:q.length<=r.length)(x:Rat):au (aM (cA q r)) x=au r x-(aB r/aB q)*x^(r.length-q.length)*au q x:=by
 rw[eU,cA,uC _ _ _ _ _ (by omega)];grind
theorem AX{q:List Rat}(hq:0<q.length)(h0:aB q≠0)(x:Rat):∀(n:Nat) (r s:List Rat),r.length<n->(∀i,i+q.length<=r.length->cf s i=0)->r.length+1-q.length<=s.length->
  au (fA q n r s).1 x*au q x+au (fA q n r s).2 x=au s x*au q x+au r x
 |0,r,s,h,_,_=>absurd h (by omega)
 |n+1,r,s,h,hz,hs=>by
  rw[fA];split;·rename_i hl;have h1:=fh hq hl h0;rw[AX hq h0 x n _ _ (by omega) (fun i hi=>by rw[M7,if_neg (by omega)];exact hz i (by omega)) (by rw[List.length_set];omega)];rw[uE hl,Nn _ _ _ _ (by omega),hz _ (by omega)];grind
  ·rfl
theorem yE{p q:List Rat}(hq:q≠[])(h0:Trm q)(x:Rat):au (divN p q).1 x*au q x+au (divN p q).2 x=au p x:=by
 unfold divN;rw[AX (List.length_pos_iff.2 hq) (h0 hq) x _ _ _ (Nat.lt_succ_self _) (fun i _=>?_) (by simp),Dz];·grind
 ·unfold cf;rw[List.getD_eq_getElem?_getD,List.getElem?_replicate];split<;>rfl
theorem DB{q s t r u:List Rat}(hq:q≠[])(tq:Trm q)(ts:Trm s)(tt:Trm t)(tr:Trm r)(tu:Trm u)(hr:r.length<q.length)(hu:u.length<q.length)
  (h:∀x,au s x*au q x+au r x=au t x*au q x+au u x):s=t/\r=u:=by
 have h1:cB (br (· - ·) s t) q=br (· - ·) u r:=kz (mI (ct _ _ _) tq) (ct _ _ _) fun x=>by
  rw[eO,ky,ky];have:=h x;grind
 have h2:br (· - ·) s t=[]:=by
  by_cases hd:br (· - ·) s t=[]
  ·exact hd
  ·have:=dI hd hq;rw[h1] at this;have h3:=dx (· - ·) u r;have h4:=List.length_pos_iff.2 hd;omega
 have h3:s=t:=kz ts tt fun x=>by have:=ky s t x;rw[h2,cH] at this;grind
 refine⟨h3,kz tr tu fun x=>?_⟩;have:=h x;rw[h3] at this;grind
theorem rJ{p q s r:List Rat}(hq:q≠[])(tp:Trm p)(tq:Trm q)(ts:Trm s)(tr:Trm r)(hr:r.length<q.length)(h:∀x,au s x*au q x+au r x=au p x):
  aM (divN p q).1=s/\(divN p q).2=r:=
 DB hq tq (cL _) ts (fx tp) tr (ev (List.length_pos_iff.2 hq) (tq hq)) hr fun x=>by rw[eU,yE hq tq,h]
def Den(b:Nat)(l:List Rat):Prop:=∃D:Int,D≠0/\lw D<=b/\∀i,∃n:Int,lw n<=b/\cf l i=Rat.divInt n D
theorem Den.mono{b c:Nat}{l:List Rat}(h:Den b l)(hc:b<=c):Den c l:=by
 obtain⟨D,h1,h2,h3⟩:=h;exact⟨D,h1,by omega,fun i=>by obtain⟨n,a,e⟩:=h3 i;exact⟨n,by omega,e⟩⟩
theorem Den.lq{b:Nat}{l:List Rat}(h:Den b l):∀x∈l,lq x<=b:=by
 obtain⟨D,h1,h2,h3⟩:=h;intro x hx;obtain⟨i,hi,rfl⟩:=List.getElem_of_mem hx;obtain⟨n,a,e⟩:=h3 i;unfold cf at e;rw[List.getD_eq_getElem?_getD,List.getElem?_eq_getElem hi] at e;simp only[Option.getD_some] at e;rw[e];have:=kx n D h1;omega
theorem Den.sz{b k:Nat}{l:List Rat}(h:Den b l)(hk:b<=k):Sz k (aH l):=gJ fun x hx=>Nat.le_trans (h.lq x hx) hk
theorem JC{b:Nat}{l m:List Rat}(h:Den b l)(he:∀i,cf m i=cf l i):Den b m:=by
 obtain⟨D,h1,h2,h3⟩:=h;exact⟨D,h1,h2,fun i=>by rw[he];exact h3 i⟩
theorem mJ{b:Nat}{l:List Rat}(h:Den b l):Den b (aM l):=JC h fun i=>eV l i
theorem sf{b:Nat}(hb:1<=b):Den b []:=⟨1,by decide,by rw[kv];exact hb,fun i=>⟨0,by rw[eT];omega,by rw[Rat.zero_divInt];simp[cf]⟩⟩
theorem Den.pos{b:Nat}{l:List Rat}(h:Den b l):1<=b:=by
 obtain⟨D,h1,h2,_⟩:=h;have:lw D≠0:=fun e=>by have:=rE D;rw[e] at this;simp at this;omega
 omega
theorem wV{n D:Int}(hD:D≠0)(h:Rat.divInt n D≠0):n≠0:=fun e=>h (by rw[e,Rat.zero_divInt])
theorem DC(a b:Int):lw (a-b)<=max (lw a) (lw b)+1:=by
 have:=tZ a (-b);rw[MO] at this;exact this
theorem py{b c:Nat}{q r:List Rat}(hr:Den b r)(hq:Den c q)(hl:q.length<=r.length)(h0:aB q≠0)(hp:0<q.length):Den (b+c+1) (aM (cA q r)):=by
 refine mJ ?_;obtain⟨D,d1,d2,d3⟩:=hr;obtain⟨E,e1,e2,e3⟩:=hq;obtain⟨R,r1,r2⟩:=d3 (r.length-1);obtain⟨Q,q1,q2⟩:=e3 (q.length-1);rw[<- bD (by omega)] at r2;rw[<- bD hp] at q2;have hQ:Q≠0:=wV e1 (by rw[<- q2];exact h0);have hDQ:D*Q≠0:=Int.mul_ne_zero d1 hQ;refine⟨D*Q,hDQ,by have:=bV D Q;omega,fun i=>?_⟩;unfold cA;rw[kf _ _ _ _ _ _ (by omega)];obtain⟨n,n1,n2⟩:=d3 i;split
 ·obtain⟨m,m1,m2⟩:=e3 (i-(r.length-q.length));refine⟨n*Q-R*m,?_,?_⟩;·have:=bV n Q;have:=bV R m;have:=DC (n*Q) (R*m);omega
  ·rw[n2,m2,r2,q2];simp only[Rat.divInt_eq_div,Rat.intCast_mul,Rat.intCast_sub];(have f1:(D:Rat)≠0:=by simpa using d1);(have f2:(E:Rat)≠0:=by simpa using e1);(have f3:(Q:Rat)≠0:=by simpa using hQ);generalize (D:Rat)=D' at*;generalize (E:Rat)=E' at*;generalize (Q:Rat)=Q' at*;grind
 ·refine⟨n*Q,by have:=bV n Q;omega,?_⟩;rw[n2,Rat.divInt_mul_right hQ]
theorem wW{b:Nat}{l:List Rat}(h:Den b l)(ht:Trm l):Den b (cy l):=by
 by_cases hn:l=[]
 ·subst hn;exact h
 have hp:=List.length_pos_iff.2 hn;obtain⟨D,d1,d2,d3⟩:=h;obtain⟨R,r1,r2⟩:=d3 (l.length-1);rw[<- bD hp] at r2;have hR:R≠0:=wV d1 (by rw[<- r2];exact ht hn);refine⟨R,hR,r1,fun i=>?_⟩;obtain⟨n,n1,n2⟩:=d3 i;refine⟨n,n1,?_⟩;have:cf (cy l) i=cf l i/aB l:=by
  unfold cy cf;simp only[List.getD_eq_getElem?_getD,List.getElem?_map];cases l[i]? with
  |none=>simp;grind
  |some x=>rfl
 rw[this,n2,r2];simp only[Rat.divInt_eq_div];have f1:(D:Rat)≠0:=by simpa using d1
 have f3:(R:Rat)≠0:=by simpa using hR
 generalize (D:Rat)=D' at*;generalize (R:Rat)=R' at*;grind
theorem AY{c:Nat}{q:List Rat}(hq:Den c q)(hp:0<q.length)(h0:aB q≠0):∀(n:Nat) (r s:List Rat) (b:Nat),Den b r->Den (b+(r.length+1-q.length)*(c+1)) (fA q n r s).2
 |0,r,s,b,h=>h.mono (by omega)
 |n+1,r,s,b,h=>by
  rw[fA];split;·rename_i hl;have h1:=fh hp hl h0;refine(AY hq hp h0 n _ _ _ (py h hq hl h0 hp)).mono ?_;(have h2:(aM (cA q r)).length+1-q.length+1<=r.length+1-q.length:=by omega);have h3:=Nat.mul_le_mul_right (c+1) h2;rw[Nat.add_mul] at h3;omega
  ·exact h.mono (by omega)
theorem yF{c:Nat}{q:List Rat}(hq:Den c q)(hp:0<q.length)(h0:aB q≠0):∀(n:Nat) (r:List Rat) (b:Nat),Den b r->b+(r.length+1-q.length)*(c+1)<=QD->uv q n r
 |0,r,b,h,hb=>trivial
 |n+1,r,b,h,hb=>by
  refine⟨fun x hx=>by have:=h.lq x hx;omega,fun hl=>?_⟩;have h1:=fh hp hl h0;refine yF hq hp h0 n _ _ (py h hq hl h0 hp) ?_;have h2:(aM (cA q r)).length+1-q.length+1<=r.length+1-q.length:=by omega
  have h3:=Nat.mul_le_mul_right (c+1) h2;rw[Nat.add_mul] at h3;omega
theorem Ns{c K:Nat}{q:List Rat}(hq:Den c q)(hp:0<q.length)(h0:aB q≠0):∀(n:Nat) (r s:List Rat) (b:Nat),Den b r->(∀x∈s,lq x<=K)->b+(r.length+1-q.length)*(c+1)<=K->∀x∈(fA q n r s).1,lq x<=K
 |0,r,s,b,h,hs,hb=>hs
 |n+1,r,s,b,h,hs,hb=>by
  rw[fA];split
  ·(rename_i hl;have h1:=fh hp hl h0;(have h2:(aM (cA q r)).length+1-q.length+1<=r.length+1-q.length:=by omega);have h3:=Nat.mul_le_mul_right (c+1) h2;rw[Nat.add_mul] at h3;refine Ns hq hp h0 n _ _ _ (py h hq hl h0 hp) ?_ (by omega);intro x hx;rcases List.mem_or_eq_of_mem_set hx with hx|rfl;·exact hs x hx);·have h4:=ov (aB r) (aB q);have h5:=h.lq (aB r) (by rw[bD (by omega)];exact um (by omega));have h6:=hq.lq (aB q) (by rw[bD hp];exact um (by omega));omega
  ·exact hs
theorem Nt{p q:List ND}{b c:Nat}(hp:∀x∈p,NOK x)(hq:∀x∈q,NOK x)(dp:Den b (ay p))(dq:Den c (ay q))(l1:p.length<=900)(l2:q.length<=900)(hn:0<q.length)(tq:Trm (ay q))
  (hb:b+(p.length+1-q.length)*(c+1)<=QD) (hc:c<=QD):gL p q:=by
 have hQ:QD<=QC:=by unfold QD QC;omega
 have hne:ay q≠[]:=fun e=>by have:=congrArg List.length e;rw[aL,List.length_nil] at this;omega
 have hln:0<(ay q).length:=by rw[aL];exact hn
 refine⟨hp,?_,l1,l2,hn,tq hne,yF dq hln (tq hne) _ _ _ dp (by rw[aL,aL];exact hb)⟩;have:=dq.sz hc;rwa [yA hq] at this
theorem pz{p q:List Rat}{b c K:Nat}(dp:Den b p)(dq:Den c q)(hn:q≠[])(tq:Trm q)(hb:b+(p.length+1-q.length)*(c+1)<=K)(hK:1<=K):(∀x∈(divN p q).1,lq x<=K)/\Den K (divN p q).2:=by
 unfold divN;refine⟨Ns dq (List.length_pos_iff.2 hn) (tq hn) _ _ _ _ dp (fun x hx=>?_) hb,(AY dq (List.length_pos_iff.2 hn) (tq hn) _ _ _ _ dp).mono hb⟩;rw[(List.mem_replicate.1 hx).2];exact Nat.le_trans jh hK
theorem uF(q:List Rat):∀(n:Nat) (r s:List Rat),(fA q n r s).1.length=s.length
 |0,_,_=>rfl
 |n+1,r,s=>by
  rw[fA];split;·rw[uF q n,List.length_set]
  ·rfl
theorem kO(p q:List Rat):(divN p q).1.length=p.length+1-q.length:=by
 unfold divN;rw[uF];simp
theorem qI:∀t:Nat,t+3<=3^(t+1)
 |0=>by decide
 |t+1=>by have:=qI t;rw[Nat.pow_succ];omega
theorem AZ:∀(n:Nat) (p q:List Rat) (b:Nat),Den b p->Den b q->Trm p->Trm q->q.length<n->(b+1)*(p.length+1-q.length+1)*3^q.length<=QD->uw n p q/\Den ((b+1)*(p.length+1-q.length+1)*3^q.length) (dC n p q)
 |0,p,q,b,_,_,_,_,h,_=>absurd h (by omega)
 |n+1,p,q,b,dp,dq,tp,tq,hn,hb=>by
  have hpow:0<3^q.length:=Nat.pow_pos (by decide);have hb1:(b+1)*(p.length+1-q.length+1)<=QD:=Nat.le_trans (Nat.le_mul_of_pos_right _ hpow) hb;have hb2:b+(p.length+1-q.length)*(b+1)+1=(b+1)*(p.length+1-q.length+1):=by
   have e:=Nat.mul_add (b+1) (p.length+1-q.length) 1;rw[Nat.mul_one,Nat.mul_comm (b+1) (p.length+1-q.length)] at e;omega
  have hb3:b<=QD:=by
   have:0<=(p.length+1-q.length)*(b+1):=Nat.zero_le _;omega
  have hqh:QD<=QH:=by unfold QD QH;omega
  rw[uw,dC];by_cases hq:q=[];·rw[if_pos hq,if_pos hq];exact⟨fun x hx=>by have:=dp.lq x hx;omega,(wW dp tp).mono (Nat.le_trans (by omega:b<=(b+1)*(p.length+1-q.length+1)) (Nat.le_mul_of_pos_right _ hpow))⟩
  ·rw[if_neg hq,if_neg hq];have hl:=List.length_pos_iff.2 hq;have hs:=ev (p:=p) hl (tq hq);obtain⟨k1,k2⟩:=pz (K:=b+(p.length+1-q.length)*(b+1)) dp dq hq tq (Nat.le_refl _) (by have:=dp.pos;omega);have tr:=fx (q:=q) tp;have hm:=wW k2 tr;have hphi:(b+(p.length+1-q.length)*(b+1)+1)*(q.length+1-(cy (divN p q).2).length+1)*3^(cy (divN p q).2).length<=(b+1)*(p.length+1-q.length+1)*3^q.length:=by
    rw[hb2,bY];rw[Nat.mul_assoc];refine Nat.mul_le_mul_left _ ?_;obtain⟨t,ht⟩:∃t,q.length=(divN p q).2.length+(t+1):=⟨q.length-(divN p q).2.length-1,by omega⟩;rw[ht,Nat.pow_add,Nat.mul_comm];refine Nat.mul_le_mul_left _ ?_;have:=qI t;omega
   obtain⟨g1,g2⟩:=AZ n q (cy (divN p q).2) _ (dq.mono (by omega)) hm tq (ea tr) (by rw[bY];omega) (Nat.le_trans hphi hb);exact⟨⟨yF dq hl (tq hq) _ _ _ dp (by omega),fun x hx=>by have:=dq.lq x hx;omega,fun x hx=>by have:=k2.lq x hx;omega,g1⟩,g2.mono hphi⟩
theorem TG{p q:List ND}{b:Nat}(hp:∀x∈p,NOK x)(hq:∀x∈q,NOK x)(dp:Den b (ay p))(dq:Den b (ay q))(l1:p.length<=900)(l2:q.length<=900)(tp:Trm (ay p))(tq:Trm (ay q))
  (hb:(b+1)*(p.length+1-q.length+1)*3^q.length<=QD):kg p q/\Den ((b+1)*(p.length+1-q.length+1)*3^q.length) (cd (ay p) (ay q)):=by
 obtain⟨h1,h2⟩:=AZ (q.length+1) (ay p) (ay q) b dp dq tp tq (by rw[aL];omega) (by rw[aL,aL];exact hb);refine⟨⟨hp,hq,l1,l2,tp,tq,h1⟩,?_⟩;rw[aL,aL] at h2;unfold cd;rw[aL];exact h2
theorem den_add{b c:Nat}{l m:List Rat}(hl:Den b l)(hm:Den c m):Den (b+c+1) (br (· + ·) l m):=by
 refine mJ ?_;obtain⟨D,d1,d2,d3⟩:=hl;obtain⟨E,e1,e2,e3⟩:=hm;refine⟨D*E,Int.mul_ne_zero d1 e1,by have:=bV D E;omega,fun i=>?_⟩;by_cases hi:i<max l.length m.length;·rw[iu _ _ _ _ _ hi];obtain⟨n,n1,n2⟩:=d3 i;obtain⟨k,k1,k2⟩:=e3 i;refine⟨n*E+k*D,by have:=bV n E;have:=bV k D;have:=tZ (n*E) (k*D);omega,?_⟩;rw[n2,k2,Rat.divInt_add_divInt _ _ d1 e1]
 ·refine⟨0,by rw[eT];omega,?_⟩;rw[bh (by rw[dw];omega),Rat.zero_divInt]
theorem Q5{b c:Nat}{l m:List Rat}(hl:Den b l)(hm:Den c m):Den (b+c+1) (br (· - ·) l m):=by
 refine mJ ?_;obtain⟨D,d1,d2,d3⟩:=hl;obtain⟨E,e1,e2,e3⟩:=hm;refine⟨D*E,Int.mul_ne_zero d1 e1,by have:=bV D E;omega,fun i=>?_⟩;by_cases hi:i<max l.length m.length;·rw[iu _ _ _ _ _ hi];obtain⟨n,n1,n2⟩:=d3 i;obtain⟨k,k1,k2⟩:=e3 i;refine⟨n*E-k*D,by have:=bV n E;have:=bV k D;have:=DC (n*E) (k*D);omega,?_⟩;rw[n2,k2,Rat.divInt_sub_divInt _ _ d1 e1]
 ·refine⟨0,by rw[eT];omega,?_⟩;rw[bh (by rw[dw];omega),Rat.zero_divInt]
theorem FO{a:Int}{b:Nat}(h:lw a<=b):(a.natAbs:Int)<=LB^b:=by
 have:=tP a h;omega
theorem A0{b c:Nat}{p q:List Rat}{D E:Int}(d1:D≠0)(e1:E≠0)(hp:∀i,∃n:Int,lw n<=b/\cf p i=Rat.divInt n D)(hq:∀i,∃n:Int,lw n<=c/\cf q i=Rat.divInt n E)(hl:0<q.length):
  ∀i,i<=p.length->∀n,∃N:Int,(N.natAbs:Int)<=i*(LB^b*LB^c)/\cf (mulN p q i) n=Rat.divInt N (D*E)
 |0,_,n=>⟨0,by simp,by
   (rw[Rat.zero_divInt];by_cases h:n<(mulN p q 0).length;·unfold mulN cf;rw[List.getD_eq_getElem?_getD,List.getElem?_replicate];split<;>rfl);·exact bh (by omega)⟩
 |i+1,h,n=>by
  obtain⟨N,h1,h2⟩:=A0 d1 e1 hp hq hl i (by omega) n;rw[mulN,kf _ _ _ _ _ _ (by rw[dZ];omega)];have hpos:(0:Int)<=LB^b*LB^c:=Int.mul_nonneg (Int.le_of_lt (lbpos _)) (Int.le_of_lt (lbpos _));have e:((i+1:Nat):Int)*(LB^b*LB^c)=(i:Int)*(LB^b*LB^c)+LB^b*LB^c:=by rw[Int.natCast_add,Int.add_mul];simp
  rw[e];split
  ·obtain⟨x,x1,x2⟩:=hp i;obtain⟨y,y1,y2⟩:=hq (n-i);refine⟨N+x*y,?_,?_⟩
   ·have h3:=FO x1;have h4:=FO y1;have h5:(x.natAbs:Int)*(y.natAbs:Int)<=LB^b*LB^c:=by
     have h6:(x.natAbs:Int)*(y.natAbs:Int)<=LB^b*(y.natAbs:Int):=Int.mul_le_mul_of_nonneg_right h3 (by omega);have h7:LB^b*(y.natAbs:Int)<=LB^b*LB^c:=Int.mul_le_mul_of_nonneg_left h4 (Int.le_of_lt (lbpos _));omega
    have h8:(N+x*y).natAbs<=N.natAbs+(x*y).natAbs:=Int.natAbs_add_le _ _;rw[Int.natAbs_mul] at h8;have h9:((N+x*y).natAbs:Int)<=(N.natAbs:Int)+(x.natAbs:Int)*(y.natAbs:Int):=by
     rw[<- Int.natCast_mul];omega
    omega
   ·rw[h2,x2,y2,Rat.divInt_mul_divInt,Rat.divInt_add_divInt _ _ (Int.mul_ne_zero d1 e1) (Int.mul_ne_zero d1 e1),<- Int.add_mul,Rat.divInt_mul_right (Int.mul_ne_zero d1 e1)]
  ·exact⟨N,by omega,h2⟩
theorem den_mul{b c:Nat}{p q:List Rat}(hp:Den b p)(hq:Den c q)(hl:p.length<1000000000):Den (b+c+1) (cB p q):=by
 have hb:=hp.pos;by_cases h1:p=[];·subst h1;rw[cZ];exact sf (by omega)
 by_cases h2:q=[]
 ·subst h2;rw[ew];exact sf (by omega)
 rw[se h1 h2];obtain⟨D,d1,d2,d3⟩:=hp;obtain⟨E,e1,e2,e3⟩:=hq;refine⟨D*E,Int.mul_ne_zero d1 e1,by have:=bV D E;omega,fun n=>?_⟩;obtain⟨N,k1,k2⟩:=A0 d1 e1 d3 e3 (List.length_pos_iff.2 h2) _ (Nat.le_refl _) n;refine⟨N,jG ?_,k2⟩;have k3:(0:Int)<LB^b*LB^c:=Int.mul_pos (lbpos _) (lbpos _);have k4:(p.length:Int)*(LB^b*LB^c)<LB*(LB^b*LB^c):=Int.mul_lt_mul_of_pos_right (by show (p.length:Int)<1000000000;omega) k3;have k5:(LB:Int)^(b+c+1)=LB*(LB^b*LB^c):=by rw[Int.pow_succ,Int.pow_add,Int.mul_comm]
 omega
theorem FP{b:Nat}{l:List Rat}(h:Den b l):(l.length<1000000000)->Den (b+1) (bl l):=by
 intro hl;obtain⟨D,d1,d2,d3⟩:=h;refine⟨D,d1,by omega,fun i=>?_⟩;by_cases hi:i<l.length-1
 ·obtain⟨n,n1,n2⟩:=d3 (i+1);have:cf (bl l) i=cf l (i+1)*Rat.divInt ((i+1:Nat):Int) 1:=by
   (unfold bl ir;conv=>lhs;unfold cf);rw[List.getD_eq_getElem?_getD,List.getElem?_map,List.getElem?_range hi];rfl
  refine⟨n*((i+1:Nat):Int),?_,?_⟩;·have h1:lw (((i+1:Nat):Int))<=1:=jG (by show _<(1000000000:Int)^1;omega);have:=bV n ((i+1:Nat):Int);omega
  ·rw[this,n2,Rat.divInt_mul_divInt,Int.mul_one]
 ·refine⟨0,by rw[eT];omega,?_⟩;rw[Rat.zero_divInt,bh];unfold bl ir;simp;omega
end Go.Cm
end
section
namespace Go.Cm
open Go.Proofs
def bG(p:List (List UInt8)):Int:=
 if 41<p.length then 40 else if p.all (fun q=>decide (ck q=0))=false then 40
 else if p≠[]/\p.getLastD []=[48] then 40 else 0
def bj(p:List (List UInt8)):List Rat:=if bG p=0 then p.map aU else []
def de(p:List (List UInt8)):Prop:=p.length<=QL/\∀q∈p,q.length<=QL
theorem qJ{q:List UInt8}(h:ck q=0)(hl:q.length<=QL):eG q/\iK q=bp (aU q):=by
 have:RQ q:=⟨by rw[h];decide,hl⟩;exact⟨this.form,this.raw⟩
theorem uG{p:List (List UInt8)}{k:Nat}(hk:k<p.length)(h:(p.take k).all (fun q=>decide (ck q=0))=true)(hb:ck (nth .str p (k:Int))=0):(p.take (k+1)).all (fun q=>decide (ck q=0))=true:=by
 have e:nth .str p (k:Int)=p[k]:=eu (t:= .str) hk;rw[List.take_succ_eq_append_getElem hk,List.all_append,h];rw[e] at hb;simp[hb]
theorem JD{p:List (List UInt8)}{k:Nat}(hk:k<p.length)(h41:p.length<=41)(hb:¬ck (nth .str p (k:Int))=0):bG p=40:=by
 have e:nth .str p (k:Int)=p[k]:=eu (t:= .str) hk;rw[e] at hb;unfold bG;rw[if_neg (by omega),if_pos];rw[List.all_eq_false];exact⟨p[k],List.getElem_mem hk,by simpa using hb⟩
theorem uH{p:List (List UInt8)}(hs:de p)(h:p.all (fun q=>decide (ck q=0))=true):(∀q∈p,eG q)/\p.map iK=aH (p.map aU):=by
 rw[List.all_eq_true] at h;refine⟨fun q hq=>(qJ (by simpa using h q hq) (hs.2 q hq)).1,?_⟩;unfold aH;rw[List.map_map];exact List.map_congr_left fun q hq=>(qJ (by simpa using h q hq) (hs.2 q hq)).2
theorem DD{p:List (List UInt8)}(hl:p.length<=41):(decide ((0:Int)<(p.length:Int))=true->decide ((0:Int)<(p.length:Int))=true)/\(decide ((0:Int)<(p.length:Int))=true->decide ((0:Int)<(p.length:Int))=true)/\(decide ((0:Int)<(p.length:Int))=true->decide ((0:Int)<(p.length:Int))=true/\0<=IntKind.i64.wrap ((p.length:Int)-1)/\IntKind.i64.wrap ((p.length:Int)-1)<(p.length:Int))/\(decide ((0:Int)<(p.length:Int))=true->decide ((0:Int)<(p.length:Int))=true):=by
 refine⟨id,id,fun h=>?_,id⟩;have h2:=of_decide_eq_true h;rw[bU (by omega)];exact⟨h,by omega,by omega⟩
theorem uI{p:List (List UInt8)}(h:bG p=40): []=aH (bj p)/\40=bG p:=by
 refine⟨?_,h.symm⟩;unfold bj;rw[if_neg (by rw[h];decide)];rfl
theorem DE{p:List (List UInt8)}(h:41<p.length):bG p=40:=by unfold bG;rw[if_pos h]
theorem mK{p:List (List UInt8)}(hl:p.length<=41)(h:0<p.length):nth .str p (IntKind.i64.wrap ((p.length:Int)-1))=p.getLastD []:=by
 rw[bU (by omega),show (p.length:Int)-1=((p.length-1:Nat):Int) by omega,eu (t:= .str) (by omega)];rw[List.getLastD_eq_getLast?,List.getLast?_eq_getElem?,List.getElem?_eq_getElem (by omega)];rfl
theorem DF{p:List (List UInt8)}(hl:p.length<=41)(ha:p.all (fun q=>decide (ck q=0))=true)(h:0<(p.length:Int)/\nth .str p (IntKind.i64.wrap ((p.length:Int)-1))=[48]):bG p=40:=by
 rw[mK hl (by omega)] at h;unfold bG;rw[if_neg (by omega),if_neg (by rw[ha];decide),if_pos];refine⟨fun e=>?_,h.2⟩;rw[e] at h;exact absurd h.1 (by decide)
theorem Nu{p:List (List UInt8)}(hs:de p)(hl:p.length<=41)(ha:p.all (fun q=>decide (ck q=0))=true)(h:0<(p.length:Int)-> ¬nth .str p (IntKind.i64.wrap ((p.length:Int)-1))=[48]):p.map iK=aH (bj p)/\0=bG p:=by
 have hc:bG p=0:=by
  unfold bG;rw[if_neg (by omega),if_neg (by rw[ha];decide),if_neg];intro h2;have h3:0<p.length:=by cases p with|nil=>exact absurd rfl h2.1|cons=>simp
  exact h (by omega) (by rw[mK hl h3];exact h2.2)
 refine⟨?_,hc.symm⟩;unfold bj;rw[if_pos hc];exact(uH hs ha).2
end Go.Cm
namespace Go.Cm
open Go.Proofs
def bT:List (List (List UInt8))->Int
 | []=>0
 |p::l=>if bG p=0 then bT l else bG p
def i6(l:List (List (List UInt8))):List (List ND):=if bT l=0 then l.map fun p=>aH (bj p) else []
theorem Nv{l:List (List (List UInt8))}(h:∀p∈l,bG p=0):bT l=0:=by
 induction l with
 |nil=>rfl
 |cons a l ih=>
  unfold bT;rw[if_pos (h a (by simp))];exact ih fun p hp=>h p (by simp[hp])
theorem JE{l:List (List (List UInt8))}{k:Nat}(hk:k<l.length)(h:(l.take k).all (fun p=>decide (bG p=0))=true)(hb:¬bG l[k]=0):bT l=bG l[k]:=by
 induction l generalizing k with
 |nil=>simp at hk
 |cons a l ih=>
  unfold bT;cases k with
  |zero=>exact if_neg hb
  |succ k=>
   simp only[List.take_succ_cons,List.all_cons,Bool.and_eq_true,decide_eq_true_eq] at h;rw[if_pos h.1];exact ih (by simpa using hk) h.2 (by simpa using hb)
end Go.Cm
namespace Go.Cm
open Go.Proofs
theorem uJ{l:List (List (List UInt8))}{k:Nat}(hl:l.length<=1000)(hk:k<l.length)(g:(l.take k).all (fun p=>decide (bG p=0))=true)(hb:bG (nth (.slice .str) l (k:Int))=0):
  IntKind.i64.wrap ((k:Int)+1)=((k+1:Nat):Int)/\(l.take k).map (fun p=>aH (bj p))++ [aH (bj (nth (.slice .str) l (k:Int)))]=(l.take (k+1)).map (fun p=>aH (bj p))/\k+1<=l.length/\(l.take (k+1)).all (fun p=>decide (bG p=0))=true/\l.length-(k+1)<l.length-k:=by
 have e:nth (.slice .str) l (k:Int)=l[k]:=eu (t:= .slice .str) hk;rw[e] at hb ⊢;refine⟨wo,?_,hk,?_,by omega⟩;·rw[List.take_succ_eq_append_getElem hk,List.map_append];rfl
 ·rw[List.take_succ_eq_append_getElem hk,List.all_append,g];simp[hb]
theorem A1{l:List (List (List UInt8))}{k:Nat}(hk:k<l.length)(g:(l.take k).all (fun p=>decide (bG p=0))=true)(hb:¬bG (nth (.slice .str) l (k:Int))=0): []=i6 l/\bG (nth (.slice .str) l (k:Int))=bT l:=by
 have e:nth (.slice .str) l (k:Int)=l[k]:=eu (t:= .slice .str) hk;rw[e] at hb ⊢;have h:=JE hk g hb;refine⟨?_,h.symm⟩;unfold i6;rw[if_neg (by rw[h];exact hb)]
theorem Nw{l:List (List (List UInt8))}(g:l.all (fun p=>decide (bG p=0))=true):l.map (fun p=>aH (bj p))=i6 l/\0=bT l:=by
 have h:bT l=0:=Nv fun p hp=>by
  rw[List.all_eq_true] at g;simpa using g p hp
 refine⟨?_,h.symm⟩;unfold i6;rw[if_pos h]
end Go.Cm
namespace Go.Cm
open Go.Proofs
theorem A2{l:List (List (List UInt8))}(hl:l.length<=1000)(hk:0<l.length)(hb:bG (nth (.slice .str) l 0)=0):
  IntKind.i64.wrap (0+1)=((1:Nat):Int)/\ [aH (bj (nth (.slice .str) l 0))]=(l.take 1).map (fun p=>aH (bj p))/\1<=l.length/\(l.take 1).all (fun p=>decide (bG p=0))=true/\l.length-1<l.length+1:=by
 have h:=uJ (k:=0) hl hk rfl hb;exact⟨h.1,h.2.1,hk,h.2.2.2.1,by omega⟩
theorem JF{l:List (List (List UInt8))}(hk:0<l.length)(hb:¬bG (nth (.slice .str) l 0)=0): []=i6 l/\bG (nth (.slice .str) l 0)=bT l:=A1 (k:=0) hk rfl hb
theorem JG{l:List (List (List UInt8))}(h:¬0<l.length): []=i6 l/\0=bT l:=by
 cases l with
 |nil=>exact⟨rfl,rfl⟩
 |cons=>simp at h
end Go.Cm
namespace Go.Cm
open Go.Proofs
def cz(l:List Rat):Int:=if 41<l.length then 3 else if ec (aH l)=true then 0 else 6
def gY(l:List Rat):List (List UInt8):=if cz l=0 then l.map aG else []
theorem DG{l:List Rat}(h:41<l.length): []=gY l/\3=cz l:=by
 have e:cz l=3:=by unfold cz;rw[if_pos h]
 exact⟨by unfold gY;rw[if_neg (by rw[e];decide)],e.symm⟩
theorem JH{l:List Rat}(h:¬41<l.length)(hf:ec (aH l)=false): []=gY l/\6=cz l:=by
 have e:cz l=6:=by unfold cz;rw[if_neg h,if_neg (by rw[hf];decide)]
 exact⟨by unfold gY;rw[if_neg (by rw[e];decide)],e.symm⟩
theorem Nx{l:List Rat}(h:¬41<l.length)(hf:ec (aH l)=true):(if ec (aH l)=true then (aH l).map fun x=>aG (bH x) else [])=gY l/\0=cz l:=by
 have e:cz l=0:=by unfold cz;rw[if_neg h,if_pos hf]
 refine⟨?_,e.symm⟩;unfold gY;rw[if_pos e,if_pos hf,aH,List.map_map];exact List.map_congr_left fun x _=>by simp only[Function.comp,aP]
end Go.Cm
namespace Go.Cm
open Go.Proofs
theorem iv{l:List Rat}:∀x∈aM l,x∈l:=by
 induction l with
 |nil=>intro x hx;exact hx
 |cons a l ih=>
  intro x hx;unfold aM at hx;split at hx
  ·(split at hx;·simp at hx);·simp at hx;simp[hx]
  ·(rename_i h;rcases List.mem_cons.1 hx with h2|h2;·simp[h2]);·exact List.mem_cons_of_mem _ (ih x (by rw[h];exact h2))
theorem JI{p:List ND}(h:Sz QC p/\p.length<=QL)(hl:¬41<(aM (ay p)).length):(aH (aM (ay p))).length<QL/\∀x∈aH (aM (ay p)),NOK x/\lq (bH x)<=QC:=by
 refine⟨by rw[aE];unfold QL;omega,?_⟩;refine gJ (k:=QC) fun x hx=>?_;obtain⟨y,hy,rfl⟩:=List.mem_map.1 (iv x hx);exact(h.1 y hy).2
end Go.Cm
end
section
namespace Go.Cm
open Go.Proofs
def cM(f:List Rat->List Rat->List Rat)(p q:List (List UInt8)):Int:=if bT [p,q]=0 then cz (aM (f (bj p) (bj q))) else bT [p,q]
def cF(f:List Rat->List Rat->List Rat)(p q:List (List UInt8)):List (List UInt8):=if bT [p,q]=0 then gY (aM (f (bj p) (bj q))) else []
def bR(D:List ND->List ND->Prop)(f:List Rat->List Rat->List Rat)(p q:List (List UInt8)):Prop:=
 de p/\de q/\(bT [p,q]=0->D (aH (bj p)) (aH (bj q))/\Sz QC (aH (f (bj p) (bj q)))/\(f (bj p) (bj q)).length<=QL)
theorem qK{p q:List (List UInt8)}(h:bT [p,q]=0):i6 [p,q]=[aH (bj p),aH (bj q)]:=by
 unfold i6;rw[if_pos h];rfl
theorem jI{f:List Rat->List Rat->List Rat}{p q:List (List UInt8)}(h:¬bT [p,q]=0): []=cF f p q/\bT [p,q]=cM f p q:=by
 unfold cF cM;rw[if_neg h,if_neg h];exact⟨rfl,rfl⟩
theorem lK{f:List Rat->List Rat->List Rat}{p q:List (List UInt8)}(h:bT [p,q]=0):gY (aM (f (bj p) (bj q)))=cF f p q/\cz (aM (f (bj p) (bj q)))=cM f p q:=by
 unfold cF cM;rw[if_pos h,if_pos h];exact⟨rfl,rfl⟩
end Go.Cm
namespace Go.Cm
open Go.Proofs
theorem ki{p q:List (List UInt8)}(h:bT [p,q]=0):nth (.slice NT) (i6 [p,q]) 0=aH (bj p):=by rw[qK h];rfl
theorem kj{p q:List (List UInt8)}(h:bT [p,q]=0):nth (.slice NT) (i6 [p,q]) 1=aH (bj q):=by rw[qK h];rfl
theorem iM{p q:List (List UInt8)}(h:bT [p,q]=0):(i6 [p,q]).length=2:=by rw[qK h];rfl
end Go.Cm
namespace Go.Cm
open Go.Proofs
theorem iN{p q:List (List UInt8)}(hp:de p)(hq:de q): [p,q].length<=1000/\∀x∈ [p,q],de x:=by
 refine⟨by simp,fun x hx=>?_⟩;simp only[List.mem_cons,List.not_mem_nil,or_false] at hx;rcases hx with rfl|rfl;·exact hp
 ·exact hq
end Go.Cm
end
section
namespace Go.Cm
open Go.Proofs
theorem A3(n:Int):∀c∈Lib.itoa n,c≠47:=by
 obtain⟨d1,_,_,_⟩:=jE n.natAbs;intro c hc;unfold Lib.itoa at hc;split at hc
 ·rcases List.mem_cons.1 hc with h|h;·rw[h];decide
  ·have:=d1 c h;intro hc;rw[hc] at this;revert this;decide
 ·have e:n.toNat=n.natAbs:=by omega
  rw[e] at hc;have:=d1 c hc;intro hc;rw[hc] at this;revert this;decide
theorem Ny{a b:List UInt8}(h:∀c∈a,c≠47):tN (a++47::b)=a/\bK (a++47::b)=true:=by
 constructor
 ·unfold tN;induction a with
  |nil=>simp
  |cons c l ih=>
   have:=h c (by simp);rw[List.cons_append,List.takeWhile_cons,if_pos (by simpa using this),ih fun d hd=>h d (by simp[hd])]
 ·unfold bK;simp
theorem ox{a:List UInt8}(h:∀c∈a,c≠47):bK a=false:=by
 unfold bK;rw[List.any_eq_false];intro c hc;simpa using h c hc
theorem dJ(x:Rat):tN (aG x)=Lib.itoa x.num/\tD (aG x)=Lib.itoa (x.den:Int)/\bK (aG x)= !decide (x.den=1):=by
 unfold aG;by_cases h:x.den=1
 ·rw[if_pos h];have hs:=ox (A3 x.num);refine⟨uh hs,?_,by rw[hs,h];rfl⟩;unfold tD;rw[hs,h,if_neg (by decide)];have h0: [49]=Lib.itoa ((1:Nat):Int):=by decide+kernel
  exact h0
 ·rw[if_neg h,List.append_assoc];obtain⟨h1,h2⟩:=Ny (b:=Lib.itoa (x.den:Int)) (A3 x.num);rw[show [47]++Lib.itoa (x.den:Int)=47::Lib.itoa (x.den:Int) from rfl];refine⟨h1,?_,by rw[h2];simp[h]⟩;unfold tD;rw[if_pos h2];unfold tR;rw[h1,List.drop_append,List.drop_of_length_le (by omega)];simp
theorem bz(x:Rat):aU (aG x)=x:=by
 obtain⟨h1,h2,_⟩:=dJ x;unfold aU;rw[h1,h2,(aF _).2,(aF _).2];exact Rat.num_divInt_den x
theorem qL(x:Rat):ck (aG x)=l4 x:=by
 obtain⟨h1,h2,h3⟩:=dJ x;unfold ck;rw[h1,h2,(aF _).2,(aF _).2,if_neg,if_neg]
 ·unfold l4 gI;by_cases h:cr x.num<=2000/\cr (x.den:Int)<=2000;·rw[if_neg (by omega),if_pos (decide_eq_true h)]
  ·rw[if_pos (by omega),if_neg (by simpa using h)]
 ·rintro⟨hs,h⟩;have hg:ca x.num (x.den:Int)=1:=by
   rw[<- mw,Int.gcd_comm];have:=x.reduced;unfold Nat.Coprime at this;unfold Int.gcd;rw[Int.natAbs_natCast,this];rfl
  rw[h3] at hs;have h4:¬x.den=1:=by simpa using hs
  have:=x.den_pos;rcases h with h|h;·omega
  ·exact h hg
 ·rintro(h|h);·exact(aF x.num).1 h
  ·exact(aF (x.den:Int)).1 h
theorem DH{x:Rat}:l4 x=0↔gI x=true:=by
 unfold l4;split;·rename_i h;simp[h]
 ·rename_i h;simp[h]
theorem qM{q:List UInt8}(h:ck q=0)(hl:q.length<=QL):aG (aU q)=q/\gI (aU q)=true:=by
 have hr:RQ q:=⟨by rw[h];decide,hl⟩;obtain⟨p1,p2⟩:=hr.parts;obtain⟨f1,f2,_⟩:=hr.form;have hc:=hr.chk;rw[h] at hc;constructor
 ·unfold aG;cases hs:bK q
  ·(have e:tD q=[49]:=by unfold tD;rw[hs];rfl);rw[e,ns] at p2;rw[if_pos (by omega),p1,uh hs];rw[uh hs] at f1;exact jt f1
  ·have h5:¬ah (tD q)<=1:=by
    (intro hle;unfold ck at h;split at h;·exact absurd h (by decide));·rw[if_pos ⟨hs,.inl hle⟩] at h;exact absurd h (by decide)
   rw[if_neg (by omega),p1,p2,jt f1,jt f2];have h6:=mD hs;rw[if_pos hs] at h6;rw[<- h6];have hcut:∀q:List UInt8,bK q=true->tN q++ [47]++tR q=q:=by
    intro q hq;induction q with
    |nil=>simp[bK] at hq
    |cons c l ih=>
     by_cases hc:c=47
     ·subst hc;simp[tN,tR]
     ·(have h2:bK l=true:=by simpa [bK,hc] using hq);(have h3:tN (c::l)=c::tN l:=by simp[tN,hc]);(have h4:tR (c::l)=tR l:=by unfold tR;rw[h3];simp);rw[h3,h4];have:=ih h2;simpa using this
   exact hcut q hs
 ·unfold gI;rw[decide_eq_true_eq,p1,p2];split at hc;·exact absurd hc (by decide)
  ·omega
theorem jJ{x:Rat}:aG x=[48]↔x=0:=by
 have h0:aG 0=[48]:=by decide+kernel
 constructor;·intro h;have:=bz x;rw[h,<- h0,bz] at this;exact this.symm
 ·rintro rfl;exact h0
def txP(l:List Rat):List (List UInt8):=l.map aG
def kP(l:List Rat):Bool:=l.all gI
theorem wX(l:List Rat):ec (aH l)=kP l:=by
 unfold ec kP aH;rw[List.all_map];congr 1;funext x;simp[aP]
theorem aR(l:List Rat):(txP l).length=l.length:=by simp[txP]
theorem FQ(l:List Rat):(txP l).map aU=l:=by
 unfold txP;rw[List.map_map];conv=>rhs;rw[<- List.map_id l]
 exact List.map_congr_left fun x _=>bz x
theorem A4{l:List Rat}(h:l≠[]):(txP l).getLastD []=aG (aB l):=by
 unfold txP aB;rw[List.getLastD_eq_getLast?,List.getLastD_eq_getLast?,List.getLast?_map,List.getLast?_eq_some_getLast h];rfl
theorem FR(l:List Rat):(txP l).all (fun q=>decide (ck q=0))=kP l:=by
 unfold txP kP;rw[List.all_map];congr 1;funext x;simp only[Function.comp,qL];rw[Bool.eq_iff_iff,decide_eq_true_iff,DH]
theorem FS{l:List Rat}(hl:l.length<=41)(ht:Trm l)(hf:kP l=true):bG (txP l)=0/\bj (txP l)=l:=by
 have hc:bG (txP l)=0:=by
  unfold bG;rw[if_neg (by rw[aR];omega),if_neg (by rw[FR,hf];decide),if_neg];rintro⟨h1,h2⟩;have hn:l≠[]:=fun e=>h1 (by rw[e];rfl);rw[A4 hn,jJ] at h2;exact ht hn h2
 refine⟨hc,?_⟩;unfold bj;rw[if_pos hc,FQ]
theorem FT{p:List (List UInt8)}(hs:de p)(h:bG p=0):txP (bj p)=p/\(bj p).length<=41/\Trm (bj p)/\kP (bj p)=true:=by
 unfold bG at h;split at h;·exact absurd h (by decide)
 rename_i h1;split at h;·exact absurd h (by decide)
 rename_i h2;split at h;·exact absurd h (by decide)
 rename_i h3;have h2:p.all (fun q=>decide (ck q=0))=true:=by simpa using h2
 have hn:bj p=p.map aU:=by
  unfold bj;rw[if_pos];unfold bG;rw[if_neg h1,if_neg (by rw[h2];decide),if_neg h3]
 have ht:txP (p.map aU)=p:=by
  unfold txP;rw[List.map_map];conv=>rhs;rw[<- List.map_id p]
  rw[List.all_eq_true] at h2;exact List.map_congr_left fun q hq=>(qM (by simpa using h2 q hq) (hs.2 q hq)).1
 rw[hn];refine⟨ht,by rw[List.length_map];omega,fun hne hl=>h3 ⟨fun e=>hne (by rw[e];rfl),?_⟩,?_⟩;·rw[<- ht,A4 hne,jJ];exact hl
 ·rw[<- FR,ht,h2]
theorem FU{n:Int}{k:Nat}(h:lw n<=k)(hk:9*k+1<=2000):cr n<=2000:=by
 have h1:=FO h;rw[Qv] at h1;have h0:=rE n;rw[dV];have h2:n.natAbs<10^(9*k):=by
  have:=tP n h;rw[Qv] at this;omega
 have:=yt h2;omega
theorem Q6{x:Rat}(h:lq x<=222):gI x=true:=by
 have:=dW x;have:=dX x;exact decide_eq_true ⟨FU (k:=222) (by omega) (by omega),FU (k:=222) (by omega) (by omega)⟩
theorem Nz{l:List Rat}{b:Nat}(h:Den b l)(hb:b<=222):kP l=true:=by
 unfold kP;rw[List.all_eq_true];exact fun x hx=>Q6 (Nat.le_trans (h.lq x hx) hb)
structure Pol (l:List Rat):Prop where
 len:l.length<=41
 trm:Trm l
 fit:kP l=true
theorem Pol.chk{l:List Rat}(h:Pol l):bG (txP l)=0:=(FS h.len h.trm h.fit).1
theorem Pol.num{l:List Rat}(h:Pol l):bj (txP l)=l:=(FS h.len h.trm h.fit).2
theorem iw{x:Rat}{k:Nat}(h:lq x<=k):(aG x).length<=18*k+5:=by
 have h1:=fO x.num;have h2:=fO (x.den:Int);have:=dW x;have:=dX x;unfold aG;split;·omega
 ·simp only[List.length_append,List.length_cons,List.length_nil];omega
theorem NA{n:Int}{K:Nat}(hn:((Lib.decDigits n.natAbs).length:Int)<=(K:Int)):lw n<=K:=by
 refine jG ?_;obtain⟨d1,d2,_,_⟩:=jE n.natAbs;have h2:=fE d1;rw[d2] at h2;have h3:(10:Nat)^(Lib.decDigits n.natAbs).length<=10^K:=Nat.pow_le_pow_right (by omega) (by omega);have h4:(10:Nat)^K<=1000000000^K:=Nat.pow_le_pow_left (by omega) _;have h5:(LB^K:Int)=((1000000000^K:Nat):Int):=by rw[Int.natCast_pow];rfl
 rw[h5];exact_mod_cast Nat.lt_of_lt_of_le h2 (Nat.le_trans h3 h4)
theorem FV{x:Rat}(h:gI x=true):lq x<=2000:=by
 unfold gI at h;rw[decide_eq_true_eq,dV,dV] at h;exact Nat.max_le.2 ⟨NA h.1,NA h.2⟩
theorem Pol.lq{l:List Rat}(h:Pol l):∀x∈l,lq x<=2000:=by
 have:=h.fit;unfold kP at this;rw[List.all_eq_true] at this;exact fun x hx=>FV (this x hx)
theorem Pol.short{l:List Rat}(h:Pol l):de (txP l):=by
 have e:QL=1000000000:=rfl;refine⟨by rw[aR];have:=h.len;omega,fun q hq=>?_⟩;obtain⟨x,hx,rfl⟩:=List.mem_map.1 hq;have:=iw (h.lq x hx);omega
theorem yG:Pol []:=⟨by simp,kh,rfl⟩
theorem wY{l m:List Rat}(hl:Pol l)(hm:Pol m):bT [txP l,txP m]=0:=by
 simp only[bT,hl.chk,hm.chk,if_true]
theorem jK{D:List ND->List ND->Prop}{f:List Rat->List Rat->List Rat}{l m:List Rat}(hl:Pol l)(hm:Pol m)(hD:D (aH l) (aH m))(hs:∀x∈f l m,Cm.lq x<=QC)(hn:(f l m).length<=QL):bR D f (txP l) (txP m):=by
 refine⟨hl.short,hm.short,fun _=>?_⟩;rw[hl.num,hm.num];exact⟨hD,gJ hs,hn⟩
theorem Pol.enc_ok{l:List Rat}{k:Nat}(h:Pol l)(hk:2000<=k):Sz k (aH l):=gJ fun x hx=>Nat.le_trans (h.lq x hx) hk
theorem Q7{l m:List Rat}(hl:Pol l)(hm:Pol m):bR (fun p q=>Sz QH p/\Sz QH q/\p.length<=1000/\q.length<=1000) (br (· + ·)) (txP l) (txP m):=by
 have e1:QH=40000000000:=rfl;have e2:QL=1000000000:=rfl;have h1:=hl.len;have h2:=hm.len;have hs1:=hl.enc_ok (k:=QH) (by omega);have hs2:=hm.enc_ok (k:=QH) (by omega);refine jK hl hm ⟨hs1,hs2,by rw[aE];omega,by rw[aE];omega⟩ ?_ (by have:=dx (· + ·) l m;omega);intro x hx;have h3:=yw AK hs1 hs2 (max l.length m.length);rw[aI,aI] at h3;have h4:=iv x hx;have h5:=(h3 (bp x) (List.mem_map.2 ⟨x,h4,rfl⟩)).2;rwa [aP] at h5
theorem Q8{l m:List Rat}(hl:Pol l)(hm:Pol m):bR (fun p q=>Sz QH p/\Sz QH q/\p.length<=1000/\q.length<=1000) (br (· - ·)) (txP l) (txP m):=by
 have e1:QH=40000000000:=rfl;have e2:QL=1000000000:=rfl;have h1:=hl.len;have h2:=hm.len;have hs1:=hl.enc_ok (k:=QH) (by omega);have hs2:=hm.enc_ok (k:=QH) (by omega);refine jK hl hm ⟨hs1,hs2,by rw[aE];omega,by rw[aE];omega⟩ ?_ (by have:=dx (· - ·) l m;omega);intro x hx;have h3:=yw AL hs1 hs2 (max l.length m.length);rw[aI,aI] at h3;have h4:=iv x hx;have h5:=(h3 (bp x) (List.mem_map.2 ⟨x,h4,rfl⟩)).2;rwa [aP] at h5
theorem Q9{l m:List Rat}(hl:Pol l)(hm:Pol m):bR (fun p q=>Sz QM p/\Sz QM q/\p.length<=100/\q.length<=100) cB (txP l) (txP m):=by
 have e1:QM=400000000:=rfl;have e2:QL=1000000000:=rfl;have e3:QC=100000000000:=rfl;have h1:=hl.len;have h2:=hm.len;refine jK hl hm ⟨hl.enc_ok (by omega),hm.enc_ok (by omega),by rw[aE];omega,by rw[aE];omega⟩ ?_ (by have:=uB l m;omega);intro x hx;unfold cB at hx;split at hx;·simp at hx
 ·have h3:=M8 (K:=2000) (fun n=>gg hl.lq (by omega) n) (fun n=>gg hm.lq (by omega) n) l.length (Nat.le_refl _) x hx;have h4:l.length*(2*2000+1)<=41*(2*2000+1):=Nat.mul_le_mul_right _ h1;omega
theorem DI{s:List UInt8}{i:Nat}(hi:i<s.length)(h:(s.take i).all (· !=47)=true)(hb:s.getD i 0=47):s.take i=tN s/\s.drop (i+1)=tD s/\true=bK s:=by
 have e:s=s.take i++47::s.drop (i+1):=by
  rw[<- hb,List.getD_eq_getElem?_getD,List.getElem?_eq_getElem hi];simp only[Option.getD_some];rw[<- List.drop_eq_getElem_cons hi,List.take_append_drop]
 have hc:∀c∈s.take i,c≠47:=by
  rw[List.all_eq_true] at h;intro c hc;simpa using h c hc
 have k:=Ny (b:=s.drop (i+1)) hc;rw[<- e] at k;refine⟨k.1.symm,?_,k.2.symm⟩;unfold tD tR;rw[if_pos k.2,k.1,List.length_take,Nat.min_eq_left (by omega)]
theorem JJ{s:List UInt8}{i:Nat}(hi:i<s.length)(h:(s.take i).all (· !=47)=true)(hb:¬s.getD i 0=47):(s.take (i+1)).all (· !=47)=true:=by
 rw[List.take_succ_eq_append_getElem hi,List.all_append,h];rw[List.getD_eq_getElem?_getD,List.getElem?_eq_getElem hi] at hb;simpa using hb
theorem NB{s:List UInt8}{i:Nat}(hi:¬i<s.length)(h:(s.take i).all (· !=47)=true):s=tN s/\ [49]=tD s/\false=bK s:=by
 rw[List.take_of_length_le (by omega)] at h;have hs:bK s=false:=ox fun c hc=>by
  rw[List.all_eq_true] at h;simpa using h c hc
 exact⟨(uh hs).symm,by unfold tD;rw[hs];rfl,hs.symm⟩
def QK:Nat:=10000000
def GQ(K:Nat)(a:List UInt8):Prop:=aG (aU a)=a/\lq (aU a)<=K
theorem GQ.parts{K:Nat}{a:List UInt8}(h:GQ K a):tN a=Lib.itoa (aU a).num/\tD a=Lib.itoa ((aU a).den:Int):=by
 have:=dJ (aU a);rw[h.1] at this;exact⟨this.1,this.2.1⟩
theorem GQ.nums{K:Nat}{a:List UInt8}(h:GQ K a):ah (tN a)=(aU a).num/\ah (tD a)=((aU a).den:Int):=by
 rw[h.parts.1,h.parts.2];exact⟨(aF _).2,(aF _).2⟩
theorem GQ.rs{K:Nat}{a:List UInt8}(h:GQ K a):RS (9*K+2) (tN a)/\RS (9*K+2) (tD a):=by
 rw[h.parts.1,h.parts.2];have h1:=fO (aU a).num;have h2:=fO ((aU a).den:Int);have h3:=dW (aU a);have h4:=dX (aU a);have h5:=h.2;exact⟨⟨(aF _).1,by omega⟩,(aF _).1,by omega⟩
theorem GQ.len{K:Nat}{a:List UInt8}(h:GQ K a):a.length<=18*K+5:=by
 rw[<- h.1];exact iw h.2
theorem RS.mono'{n m:Nat}{s:List UInt8}(h:RS n s)(hm:n<=m):RS m s:=⟨h.1,Nat.le_trans h.2 hm⟩
theorem cG{x:Rat}{K:Nat}(h:lq x<=K):GQ K (aG x):=⟨by rw[bz],by rw[bz];exact h⟩
theorem uK{v:Int}:Lib.itoa v=[49]↔v=1:=by
 have h1:Lib.itoa 1=[49]:=by decide+kernel
 constructor;·intro h;have:=(aF v).2;rw[h,<- h1,(aF 1).2] at this;exact this.symm
 ·rintro rfl;exact h1
theorem JK{q:List UInt8}(h:¬(chk (tN q)=5∨chk (tD q)=5)):(ck q≠5)↔(bK q=false∨(1<ah (tD q)/\ca (ah (tN q)) (ah (tD q))=1)):=by
 unfold ck;rw[if_neg h];cases hs:bK q;·simp only[Bool.false_eq_true,false_and,if_false,true_or,iff_true];split<;>decide
 ·simp only[true_and,Bool.true_eq_false,false_or];by_cases h1:ah (tD q)<=1∨ca (ah (tN q)) (ah (tD q))≠1
  ·rw[if_pos h1];constructor;·intro e;exact absurd rfl e
   ·(intro e;exfalso;rcases h1 with h1|h1);·omega
    ·exact h1 e.2
  ·(rw[if_neg h1];(have h2:1<ah (tD q):=by have:¬ah (tD q)<=1:=fun e=>h1 (.inl e);omega);have h3:ca (ah (tN q)) (ah (tD q))=1:=Decidable.not_not.1 fun e=>h1 (.inr e);constructor;·intro _;exact⟨h2,h3⟩);·intro _;split<;>decide
theorem qN{n d:Int}(hd:d≠0):(Rat.divInt n d).num=bN n (dY n d)/\(((Rat.divInt n d).den:Nat):Int)=bN d (dY n d):=by
 have h:=ow (n:=n) hd;unfold bp at h;have h1:=congrArg (fun x:ND=>dec x.1) h;have h2:=congrArg (fun x:ND=>dec x.2) h;simp only[bX] at h1 h2;exact⟨h1,h2⟩
theorem A5{s:List UInt8}{k:Nat}(hl:s.length<=1000000000)(hi:k<s.length)(h:(s.take k).all (· !=47)=true)(hb:s.getD k 0=47):
  List.drop (Int.toNat 0) (List.take ((k:Int)).toNat s)=tN s/\List.drop (IntKind.i64.wrap ((k:Int)+1)).toNat (List.take (((s.length:Nat):Int)).toNat s)=tD s/\true=bK s:=by
 have h1:=DI hi h hb;rw[wo,Int.toNat_natCast,Int.toNat_natCast,show ((k:Int)+1).toNat=k+1 by omega,List.take_length];exact h1
theorem A6{q:List UInt8}(h:q.length<=QL):(tN q).length<CAP/\
  ((!!decide (chk (tN q)≠5))=true->(!!decide (chk (tN q)≠5))=true/\(tD q).length<CAP)/\
   ((!!decide (chk (tN q)≠5))=true->(!!decide (chk (tN q)≠5))=true)/\
    ((!decide (chk (tN q)≠5))=false->(!!decide (chk (tN q)≠5))=true):=by
 have h1:=mA q;have h2:=mB q;have e:QL=1000000000:=rfl;have e2:CAP=1000000000000:=rfl;exact⟨by omega,fun h=>⟨h,by omega⟩,id,fun h=>by rw[h];rfl⟩
theorem DJ{q:List UInt8}(h:chk (tN q)=5∨chk (tD q)=5):false=decide (ck q≠5):=by
 have:ck q=5:=by unfold ck;rw[if_pos h]
 rw[this];rfl
theorem A7{q:List UInt8}(hq:q.length<=QL)(h:¬(chk (tN q)=5∨chk (tD q)=5)):((!!bK q)=true->(!!bK q)=true/\(RF (tD q)/\(tD q).length<CAP)/\RF [49]/\1<CAP)/\
  ((!!bK q)=true->(!!bK q)=true)/\
   ((!!bK q)=true->(!!bK q)=true)/\
    ((!!bK q&&decide (0<bg (ah (tD q)) (ah [49])))=true->
      (!!bK q&&decide (0<bg (ah (tD q)) (ah [49])))=true/\
       RS 1000000000 (tN q)/\RS 1000000000 (tD q))/\
     ((!!bK q&&decide (0<bg (ah (tD q)) (ah [49])))=true->
       (!!bK q&&decide (0<bg (ah (tD q)) (ah [49])))=true)/\
      ((!!bK q)=true->
        (!!bK q)=true/\
         (decide (0<bg (ah (tD q)) (ah [49]))=true->
          (!!bK q&&decide (0<bg (ah (tD q)) (ah [49])))=true))/\
       ((!bK q)=false->(!!bK q)=true):=by
 have h1:=mA q;have h2:=mB q;have e:QL=1000000000:=rfl;have e2:CAP=1000000000000:=rfl;have f1:RF (tN q):=fun e=>h (.inl e);have f2:RF (tD q):=fun e=>h (.inr e);have h3:bK q=true->(tD q).length+1<=q.length:=by
  intro hs;unfold tD;rw[if_pos hs];unfold tR;rw[List.length_drop];have:(tN q).length<q.length:=by
   by_cases he:(tN q).length=q.length
   ·exfalso;have h4:tN q=q:=(List.takeWhile_prefix _).eq_of_length he;have h5:∀c∈tN q,c≠47:=fun c hc=>by
     have:=List.all_eq_true.1 (List.all_takeWhile (p:=(· !=47)) (l:=q)) c hc;simpa using this
    rw[h4] at h5;rw[ox h5] at hs;exact absurd hs (by decide)
   ·omega
  omega
 refine⟨fun h=>⟨h,⟨f2,by omega⟩,by unfold RF;decide,by omega⟩,id,id,fun h=>⟨h,⟨f1,by omega⟩,f2,?_⟩,id,fun h=>⟨h,fun h2=>by rw[h,h2];rfl⟩,fun h=>by rw[h];rfl⟩;have hs:bK q=true:=by
  simp only[Bool.and_eq_true,Bool.not_not] at h;exact h.1
 have:=h3 hs;omega
theorem Ra{a b:Int}:0<bg a b↔b<a:=by
 unfold bg;split;·constructor<;>omega
 ·split;·constructor<;>omega
  ·constructor<;>omega
theorem JL{q:List UInt8}(h:¬(chk (tN q)=5∨chk (tD q)=5)):(!bK q||decide (0<bg (ah (tD q)) (ah [49]))&&Lib.itoa (ca (ah (tN q)) (ah (tD q)))==[49])=decide (ck q≠5):=by
 rw[Bool.eq_iff_iff,decide_eq_true_iff,JK h,Bool.or_eq_true,Bool.and_eq_true,Bool.not_eq_true',decide_eq_true_iff,beq_iff_eq,uK,Ra,ns]
theorem DK{q:List UInt8}{k:Int}(h:eG q):(RF (tN q)/\(tN q).length<CAP)/\
  (decide (cr (ah (tN q))<=k)=true->decide (cr (ah (tN q))<=k)=true/\RF (tD q)/\(tD q).length<CAP)/\
   (decide (cr (ah (tN q))<=k)=true->decide (cr (ah (tN q))<=k)=true):=by
 have h1:=mA q;have h2:=mB q;have h3:=h.2.2;have e:QL=1000000000:=rfl;have e2:CAP=1000000000000:=rfl;exact⟨⟨h.1,by omega⟩,fun h'=>⟨h',h.2.1,by omega⟩,id⟩
theorem Rb{q:List UInt8}(h:¬ck q≠5):5=ck q:=(Decidable.not_not.1 h).symm
theorem DL{q:List UInt8}(h:ck q≠5)(hl:q.length<=QL):eG q:=RQ.form (q:=q) ⟨h,hl⟩
theorem Rc{q:List UInt8}(h:ck q≠5)(hl:q.length<=QL)(h2:¬(cr (ah (tN q))<=2000/\cr (ah (tD q))<=2000)):6=ck q:=by
 rw[RQ.chk (q:=q) ⟨h,hl⟩,if_pos (by omega)]
theorem Rd{q:List UInt8}(h:ck q≠5)(hl:q.length<=QL)(h2:cr (ah (tN q))<=2000/\cr (ah (tD q))<=2000):0=ck q:=by
 rw[RQ.chk (q:=q) ⟨h,hl⟩,if_neg (by omega)]
def MkR(n d:List UInt8):Prop:=RS 200000000 n/\RS 200000000 d/\ah d≠0
theorem SH{n:Nat}{s:List UInt8}(h:RS n s):lw (ah s)<=n:=Nat.le_trans (Do h.1) h.2
theorem Re{n:Nat}{s:List UInt8}(h:RS n s):(ah s).natAbs<10^n:=nq h
theorem rK{v w:Int}{n:Nat}(h:w.natAbs<10^n)(hv:v.natAbs<=w.natAbs):RS (n+2) (Lib.itoa v):=(pk (k:=n) (by omega) (Nat.le_refl _)).1
theorem SI{n d:List UInt8}(h:MkR n d):RS 200000002 (Lib.itoa (ca (ah n) (ah d)))/\RS 200000002 (Lib.itoa (dY (ah n) (ah d))):=by
 have h1:=Re h.2.1;exact⟨rK h1 (po h.2.2),rK h1 (mz h.2.2).1⟩
theorem qO{n d:List UInt8}(h:MkR n d):RS 1000000000 n/\RS 1000000000 d:=⟨h.1.mono' (by omega),h.2.1.mono' (by omega)⟩
theorem JM{n d:List UInt8}(h:MkR n d):RF (Lib.itoa (ca (ah n) (ah d)))/\4*(Lib.itoa (ca (ah n) (ah d))).length<CAP:=by
 have:=(SI h).1;have h2:=this.2;exact⟨this.1,by unfold CAP;omega⟩
theorem FW{n d:List UInt8}(h:ah d<0):Lib.itoa (-ah (Lib.itoa (ca (ah n) (ah d))))=Lib.itoa (dY (ah n) (ah d)):=by
 rw[(aF _).2];unfold dY;rw[if_pos h]
theorem FX{n d:List UInt8}(h:¬ah d<0):Lib.itoa (ca (ah n) (ah d))=Lib.itoa (dY (ah n) (ah d)):=by
 unfold dY;rw[if_neg h]
theorem si{a b:Int}:bg a b<0↔a<b:=by
 unfold bg;split;·constructor<;>omega
 ·split;·constructor<;>omega
  ·constructor<;>omega
theorem wZ{n d:List UInt8}(h:MkR n d):RS 1000000000 n/\RS 1000000000 (Lib.itoa (dY (ah n) (ah d)))/\ah (Lib.itoa (dY (ah n) (ah d)))≠0:=by
 rw[(aF _).2];exact⟨(qO h).1,(SI h).2.mono' (by omega),(mz h.2.2).2⟩
theorem JN{n d:List UInt8}(h:MkR n d):RS 1000000000 d/\RS 1000000000 (Lib.itoa (dY (ah n) (ah d)))/\ah (Lib.itoa (dY (ah n) (ah d)))≠0:=⟨(qO h).2,(wZ h).2⟩
theorem Rf{n d:List UInt8}(h:MkR n d)(hb:Lib.itoa (bN (ah d) (ah (Lib.itoa (dY (ah n) (ah d)))))=[49]):Lib.itoa (bN (ah n) (ah (Lib.itoa (dY (ah n) (ah d)))))=aG (Rat.divInt (ah n) (ah d)):=by
 rw[(aF _).2] at hb ⊢;obtain⟨h1,h2⟩:=qN (n:=ah n) h.2.2;rw[<- h2,uK] at hb;unfold aG;rw[if_pos (by omega),h1]
theorem Rg{n d:List UInt8}(h:MkR n d)(hb:¬Lib.itoa (bN (ah d) (ah (Lib.itoa (dY (ah n) (ah d)))))=[49]):Lib.itoa (bN (ah n) (ah (Lib.itoa (dY (ah n) (ah d)))))++ [47]++Lib.itoa (bN (ah d) (ah (Lib.itoa (dY (ah n) (ah d)))))=aG (Rat.divInt (ah n) (ah d)):=by
 rw[(aF _).2] at hb ⊢;obtain⟨h1,h2⟩:=qN (n:=ah n) h.2.2;rw[<- h2,uK] at hb;unfold aG;rw[if_neg (by omega),h1,h2]
theorem JO{n d:List UInt8}(h:MkR n d):(Lib.itoa (bN (ah n) (ah (Lib.itoa (dY (ah n) (ah d)))))).length+1<=maxLen/\
  (Lib.itoa (bN (ah n) (ah (Lib.itoa (dY (ah n) (ah d)))))++ [47]).length+(Lib.itoa (bN (ah d) (ah (Lib.itoa (dY (ah n) (ah d)))))).length<=maxLen:=by
 rw[(aF _).2];obtain⟨h1,h2⟩:=qN (n:=ah n) h.2.2;have h3:=kx (ah n) (ah d) h.2.2;have h4:=SH h.1;have h5:=SH h.2.1;have h6:=fO (Rat.divInt (ah n) (ah d)).num;have h7:=fO (((Rat.divInt (ah n) (ah d)).den:Nat):Int);have h8:=dW (Rat.divInt (ah n) (ah d));have h9:=dX (Rat.divInt (ah n) (ah d));rw[h1] at h6;rw[h2] at h7;rw[h1] at h8;rw[h2] at h9;have e7:maxLen=9223372036854775807:=rfl;simp only[List.length_append,List.length_cons,List.length_nil];omega
theorem NC{n d:Int}(h:I64 n/\I64 d/\d≠0):I64 n/\I64 d/\RS 200000000 (Lib.itoa n)/\RS 200000000 (Lib.itoa d)/\ah (Lib.itoa d)≠0:=by
 have h1:=fO n;have h2:=fO d;have h3:=Dl h.1;have h4:=Dl h.2.1;rw[(aF d).2];exact⟨h.1,h.2.1,⟨(aF n).1,by omega⟩,⟨(aF d).1,by omega⟩,h.2.2⟩
theorem Rh{n d:Int}:aG (Rat.divInt (ah (Lib.itoa n)) (ah (Lib.itoa d)))=aG (Rat.divInt n d):=by
 rw[(aF n).2,(aF d).2]
theorem A8{a:List UInt8}(h:GQ QK a):a.length<=QL:=by
 have:=h.len;have e:QK=10000000:=rfl;have e2:QL=1000000000:=rfl;omega
theorem FY{a:List UInt8}(h:GQ QK a):RS 200000000 (tN a)/\RS 200000000 (tD a):=by
 have e:QK=10000000:=rfl;exact⟨h.rs.1.mono' (by omega),h.rs.2.mono' (by omega)⟩
theorem gM{a:List UInt8}(h:GQ QK a):RS 20000000000 (tN a)/\RS 20000000000 (tD a):=⟨(FY h).1.mono' (by omega),(FY h).2.mono' (by omega)⟩
theorem A9{a b:List UInt8}(ha:GQ QK a)(hb:GQ QK b)(h1:tD a=[49])(h2:tD b=[49]):(aU a).den=1/\(aU b).den=1:=by
 have k1:=ha.nums.2;have k2:=hb.nums.2;rw[h1,ns] at k1;rw[h2,ns] at k2;omega
theorem pA{x:Rat}(h:x.den=1):x=(x.num:Rat):=by
 have:=Rat.num_divInt_den x;rw[h,Rat.divInt_eq_div] at this;rw[show (((1:Nat):Int):Rat)=1 from rfl] at this;grind
theorem ix(n:Int):aG (n:Rat)=Lib.itoa n:=by unfold aG;rw[if_pos (Rat.den_intCast n),Rat.num_intCast]
theorem NF{a b:List UInt8}(ha:GQ QK a)(hb:GQ QK b)(h:tD a=[49]/\tD b=[49]):Lib.itoa (ah (tN a)+ah (tN b))=aG (aU a+aU b):=by
 obtain⟨k1,k2⟩:=A9 ha hb h.1 h.2;rw[ha.nums.1,hb.nums.1,pA k1,pA k2,<- Rat.intCast_add,ix,Rat.num_intCast,Rat.num_intCast]
theorem NG{a b:List UInt8}(ha:GQ QK a)(hb:GQ QK b)(h:tD a=[49]/\tD b=[49]):Lib.itoa (ah (tN a)*ah (tN b))=aG (aU a*aU b):=by
 obtain⟨k1,k2⟩:=A9 ha hb h.1 h.2;rw[ha.nums.1,hb.nums.1,pA k1,pA k2,<- Rat.intCast_mul,ix,Rat.num_intCast,Rat.num_intCast]
theorem uL{v:Int}{k:Nat}(h:lw v<=k):RS (9*k+2) (Lib.itoa v):=⟨(aF v).1,by have:=fO v;omega⟩
theorem Ba{a:List UInt8}(h:GQ QK a):lw (aU a).num<=QK/\lw ((aU a).den:Int)<=QK:=by
 have:=dW (aU a);have:=dX (aU a);have:=h.2;omega
theorem JP{a b:List UInt8}(ha:GQ QK a)(hb:GQ QK b):(RS 20000000000 (tN a)/\RS 20000000000 (tD b))/\
  (RS 20000000000 (tN b)/\RS 20000000000 (tD a))/\
   (RS 20000000000 (Lib.itoa (ah (tN a)*ah (tD b)))/\RS 20000000000 (Lib.itoa (ah (tN b)*ah (tD a))))/\
    (RS 20000000000 (tD a)/\RS 20000000000 (tD b))/\
     RS 200000000 (Lib.itoa (ah (Lib.itoa (ah (tN a)*ah (tD b)))+ah (Lib.itoa (ah (tN b)*ah (tD a)))))/\
      RS 200000000 (Lib.itoa (ah (tD a)*ah (tD b)))/\ah (Lib.itoa (ah (tD a)*ah (tD b)))≠0:=by
 have e:QK=10000000:=rfl;simp only[(aF _).2];have k1:=Ba ha;have k2:=Ba hb;rw[ha.nums.1,ha.nums.2,hb.nums.1,hb.nums.2];have m1:=bV (aU a).num (aU b).den;have m2:=bV (aU b).num (aU a).den;have m3:=bV ((aU a).den:Int) (aU b).den;have m4:=tZ ((aU a).num*(aU b).den) ((aU b).num*(aU a).den);exact⟨⟨(gM ha).1,(gM hb).2⟩,⟨(gM hb).1,(gM ha).2⟩,⟨(uL (k:=20000000) (by omega)).mono' (by omega),(uL (k:=20000000) (by omega)).mono' (by omega)⟩,⟨(gM ha).2,(gM hb).2⟩,
  (uL (k:=20000001) (by omega)).mono' (by omega),(uL (k:=20000001) (by omega)).mono' (by omega),Int.mul_ne_zero (ff _) (ff _)⟩
theorem NH{a b:List UInt8}(ha:GQ QK a)(hb:GQ QK b):aG (Rat.divInt (ah (Lib.itoa (ah (Lib.itoa (ah (tN a)*ah (tD b)))+ah (Lib.itoa (ah (tN b)*ah (tD a)))))) (ah (Lib.itoa (ah (tD a)*ah (tD b)))))=aG (aU a+aU b):=by
 simp only[(aF _).2];rw[ha.nums.1,ha.nums.2,hb.nums.1,hb.nums.2,<- ot]
theorem JQ{a b:List UInt8}(ha:GQ QK a)(hb:GQ QK b):(RS 20000000000 (tN a)/\RS 20000000000 (tN b))/\
  (RS 20000000000 (tD a)/\RS 20000000000 (tD b))/\
   RS 200000000 (Lib.itoa (ah (tN a)*ah (tN b)))/\
    RS 200000000 (Lib.itoa (ah (tD a)*ah (tD b)))/\ah (Lib.itoa (ah (tD a)*ah (tD b)))≠0:=by
 have e:QK=10000000:=rfl;simp only[(aF _).2];have k1:=Ba ha;have k2:=Ba hb;rw[ha.nums.1,ha.nums.2,hb.nums.1,hb.nums.2];have m1:=bV (aU a).num (aU b).num;have m3:=bV ((aU a).den:Int) (aU b).den;exact⟨⟨(gM ha).1,(gM hb).1⟩,⟨(gM ha).2,(gM hb).2⟩,(uL (k:=20000001) (by omega)).mono' (by omega),(uL (k:=20000001) (by omega)).mono' (by omega),Int.mul_ne_zero (ff _) (ff _)⟩
theorem NI{a b:List UInt8}(ha:GQ QK a)(hb:GQ QK b):aG (Rat.divInt (ah (Lib.itoa (ah (tN a)*ah (tN b)))) (ah (Lib.itoa (ah (tD a)*ah (tD b)))))=aG (aU a*aU b):=by
 simp only[(aF _).2];rw[ha.nums.1,ha.nums.2,hb.nums.1,hb.nums.2,<- ou]
theorem inv_divInt(x:Rat):Rat.divInt (x.den:Int) x.num=x⁻¹:=(Rat.inv_def x).symm
theorem JR{a b:List UInt8}(ha:GQ QK a)(hb:GQ QK b)(h0:aU b≠0):(RS 200000000 (tD b)/\RS 200000000 (tN b)/\ah (tN b)≠0)/\GQ QK a/\GQ QK (aG (Rat.divInt (ah (tD b)) (ah (tN b)))):=by
 rw[hb.nums.1,hb.nums.2];refine⟨⟨(FY hb).2,(FY hb).1,uc h0⟩,ha,cG ?_⟩;have:=kx ((aU b).den:Int) (aU b).num (uc h0);have:=Ba hb;omega
theorem NJ{a b:List UInt8}(hb:GQ QK b):aG (aU a*aU (aG (Rat.divInt (ah (tD b)) (ah (tN b)))))=aG (aU a/aU b):=by
 rw[hb.nums.1,hb.nums.2,bz,inv_divInt,Rat.div_def]
theorem NK{p q:List (List UInt8)}(h:¬(p.length:Int)=(q.length:Int)):false=decide (p=q):=by
 symm
 rw[decide_eq_false_iff_not];rintro rfl;exact h rfl
theorem JS{p q:List (List UInt8)}{k:Nat}(he:p.length=q.length)(hk:k<p.length)(h:p.take k=q.take k)(hb:nth .str p (k:Int)=nth .str q (k:Int)):p.take (k+1)=q.take (k+1):=by
 rw[eu (t:= .str) hk,eu (t:= .str) (by omega:k<q.length)] at hb;rw[List.take_succ_eq_append_getElem hk,List.take_succ_eq_append_getElem (by omega:k<q.length),h,hb]
theorem NL{p q:List (List UInt8)}{k:Nat}(hb:¬nth .str p (k:Int)=nth .str q (k:Int)):false=decide (p=q):=by
 symm
 rw[decide_eq_false_iff_not];rintro rfl;exact hb rfl
theorem NM{p q:List (List UInt8)}{k:Nat}(he:p.length=q.length)(hk:¬k<p.length)(h:p.take k=q.take k):true=decide (p=q):=by
 symm
 rw[decide_eq_true_iff];rwa [List.take_of_length_le (by omega),List.take_of_length_le (by omega)] at h
theorem FZ{s:List UInt8}{k:Nat}:(((s.getD (k:Int).toNat 0).toNat:Nat):Int)=47↔s.getD k 0=47:=by
 rw[Int.toNat_natCast];constructor;·intro h;exact UInt8.toNat_inj.1 (by show _=47;omega)
 ·intro h;rw[h];rfl
theorem NN{q:List UInt8}(h:(!decide (chk (tN q)≠5)|| !decide (chk (tD q)≠5))=true):chk (tN q)=5∨chk (tD q)=5:=by
 simpa using h
theorem NO{q:List UInt8}(h:(!decide (chk (tN q)≠5)|| !decide (chk (tD q)≠5))=false):¬(chk (tN q)=5∨chk (tD q)=5):=by
 simp only[Bool.or_eq_false_iff,Bool.not_eq_false',decide_eq_true_iff] at h;exact fun e=>e.elim h.1 h.2
theorem JT{s:List UInt8}{k:Nat}(hl:s.length<=1000000000)(hk:k<s.length):((0:Int)<=0/\(0:Int)<=(k:Int)/\(k:Int)<=((s.length:Nat):Int))/\
  (0:Int)<=IntKind.i64.wrap ((k:Int)+1)/\IntKind.i64.wrap ((k:Int)+1)<=((s.length:Nat):Int)/\((s.length:Nat):Int)<=((s.length:Nat):Int):=by
 rw[wo];omega
def dvE(p q:List (List UInt8)):Int:=
 if bT [p,q]=0 then
  if bj q=[] then 2
  else if cz (aM (divN (bj p) (bj q)).1)=0 then cz (aM (divN (bj p) (bj q)).2) else cz (aM (divN (bj p) (bj q)).1)
 else bT [p,q]
def dvS(p q:List (List UInt8)):List (List UInt8):=if dvE p q=0 then gY (aM (divN (bj p) (bj q)).1) else []
def dvR(p q:List (List UInt8)):List (List UInt8):=if dvE p q=0 then gY (aM (divN (bj p) (bj q)).2) else []
structure NP (p q:List (List UInt8)):Prop where
 sp:de p
 sq:de q
 ok:bT [p,q]=0->bj q≠[]->gL (aH (bj p)) (aH (bj q))/\(Sz QC (aH (divN (bj p) (bj q)).1)/\(aH (divN (bj p) (bj q)).1).length<=QL)/\(Sz QC (aH (divN (bj p) (bj q)).2)/\(aH (divN (bj p) (bj q)).2).length<=QL)
theorem NQ{p q:List (List UInt8)}(h:¬bT [p,q]=0): []=dvS p q/\ []=dvR p q/\bT [p,q]=dvE p q:=by
 have e:dvE p q=bT [p,q]:=if_neg h;refine⟨?_,?_,e.symm⟩;·unfold dvS;rw[if_neg (by rw[e];exact h)]
 ·unfold dvR;rw[if_neg (by rw[e];exact h)]
theorem NR{p q:List (List UInt8)}(h:bT [p,q]=0)(h2:(aH (bj q)).length=0): []=dvS p q/\ []=dvR p q/\2=dvE p q:=by
 have hq:bj q=[]:=by rw[aE] at h2;exact List.eq_nil_of_length_eq_zero h2
 have e:dvE p q=2:=by unfold dvE;rw[if_pos h,if_pos hq]
 refine⟨?_,?_,e.symm⟩;·unfold dvS;rw[if_neg (by rw[e];decide)]
 ·unfold dvR;rw[if_neg (by rw[e];decide)]
theorem Ri{q:List (List UInt8)}(h2:¬(aH (bj q)).length=0):bj q≠[]:=by
 intro h;rw[h] at h2;exact h2 rfl
theorem Rj{p q:List (List UInt8)}(h:bT [p,q]=0)(h2:bj q≠[])(h3:¬cz (aM (divN (bj p) (bj q)).1)=0): []=dvS p q/\ []=dvR p q/\cz (aM (divN (bj p) (bj q)).1)=dvE p q:=by
 have e:dvE p q=cz (aM (divN (bj p) (bj q)).1):=by unfold dvE;rw[if_pos h,if_neg h2,if_neg h3]
 refine⟨?_,?_,e.symm⟩;·unfold dvS;rw[if_neg (by rw[e];exact h3)]
 ·unfold dvR;rw[if_neg (by rw[e];exact h3)]
theorem NS{p q:List (List UInt8)}(h:bT [p,q]=0)(h2:bj q≠[])(h3:cz (aM (divN (bj p) (bj q)).1)=0):dvE p q=cz (aM (divN (bj p) (bj q)).2):=by
 unfold dvE;rw[if_pos h,if_neg h2,if_pos h3]
theorem Rk{p q:List (List UInt8)}(h:bT [p,q]=0)(h2:bj q≠[])(h3:cz (aM (divN (bj p) (bj q)).1)=0)(h4:¬cz (aM (divN (bj p) (bj q)).2)=0): []=dvS p q/\ []=dvR p q/\cz (aM (divN (bj p) (bj q)).2)=dvE p q:=by
 have e:=NS h h2 h3;refine⟨?_,?_,e.symm⟩;·unfold dvS;rw[if_neg (by rw[e];exact h4)]
 ·unfold dvR;rw[if_neg (by rw[e];exact h4)]
theorem Rl{p q:List (List UInt8)}(h:bT [p,q]=0)(h2:bj q≠[])(h3:cz (aM (divN (bj p) (bj q)).1)=0)(h4:cz (aM (divN (bj p) (bj q)).2)=0):
  gY (aM (divN (bj p) (bj q)).1)=dvS p q/\gY (aM (divN (bj p) (bj q)).2)=dvR p q/\0=dvE p q:=by
 have e:=NS h h2 h3;rw[h4] at e;refine⟨?_,?_,e.symm⟩;·unfold dvS;rw[if_pos e]
 ·unfold dvR;rw[if_pos e]
def jL(p q:List (List UInt8)):Prop:=bG p=0/\bG q=0/\0<p.length/\0<q.length/\40<(p.length-1)*(q.length-1)
instance (p q:List (List UInt8)):Decidable (jL p q):=by unfold jL;infer_instance
def kQ(p q:List (List UInt8)):Int:=if jL p q then 3 else cM fH p q
def i7(p q:List (List UInt8)):List (List UInt8):=if jL p q then [] else cF fH p q
structure sj (p q:List (List UInt8)):Prop where
 sp:de p
 sq:de q
 ok:¬jL p q->bR yD fH p q
theorem qP{p q:List (List UInt8)}(hp:bG p=0)(hq:bG q=0)(h1:0<p.length)(h2:0<q.length):IntKind.i64.wrap (IntKind.i64.wrap ((p.length:Int)-1)*IntKind.i64.wrap ((q.length:Int)-1))=(((p.length-1)*(q.length-1):Nat):Int):=by
 have k1:p.length<=41:=by
  unfold bG at hp;split at hp;·exact absurd hp (by decide)
  ·omega
 have k2:q.length<=41:=by
  unfold bG at hq;split at hq;·exact absurd hq (by decide)
  ·omega
 rw[bU (by omega),bU (by omega)];have e1:(p.length:Int)-1=((p.length-1:Nat):Int):=by omega
 have e2:(q.length:Int)-1=((q.length-1:Nat):Int):=by omega
 rw[e1,e2,<- Int.natCast_mul];have h3:(p.length-1)*(q.length-1)<=40*40:=Nat.mul_le_mul (by omega) (by omega);generalize (p.length-1)*(q.length-1)=n at*;exact wo
theorem NU{p q:List (List UInt8)}{b:Bool}(h:(bG p==0&&bG q==0&&decide ((0:Int)<(p.length:Int))&&decide ((0:Int)<(q.length:Int))&&decide ((40:Int)<IntKind.i64.wrap (IntKind.i64.wrap ((p.length:Int)-1)*IntKind.i64.wrap ((q.length:Int)-1))))=b):decide (jL p q)=b:=by
 rw[<- h];clear h;unfold jL;by_cases h1:bG p=0
 ·by_cases h2:bG q=0
  ·by_cases h3:0<p.length
   ·by_cases h4:0<q.length
    ·rw[qP h1 h2 h3 h4,Bool.eq_iff_iff];simp only[h1,h2,h3,h4,true_and,decide_eq_true_eq,Bool.and_eq_true,beq_self_eq_true];generalize (p.length-1)*(q.length-1)=n;omega
    ·(have:¬(0:Int)<(q.length:Int):=by omega);simp[h4]
   ·(have:¬(0:Int)<(p.length:Int):=by omega);simp[h3]
  ·simp[h2]
 ·simp[h1]
theorem TH{p q:List (List UInt8)}(h:jL p q): []=i7 p q/\3=kQ p q:=by
 unfold i7 kQ;rw[if_pos h,if_pos h];exact⟨rfl,rfl⟩
theorem TI{p q:List (List UInt8)}(h:¬jL p q):cF fH p q=i7 p q/\cM fH p q=kQ p q:=by
 unfold i7 kQ;rw[if_neg h,if_neg h];exact⟨rfl,rfl⟩
def evE(p:List (List UInt8))(x:List UInt8):Int:=if bT [p]=0 then if ck x=0 then l4 (au (bj p) (aU x)) else ck x else bT [p]
def evS(p:List (List UInt8))(x:List UInt8):List UInt8:=if evE p x=0 then aG (au (bj p) (aU x)) else []
structure F0 (p:List (List UInt8)) (x:List UInt8):Prop where
 sp:de p
 sx:x.length<=QL
 ok:bT [p]=0->ck x=0->Sz QM (aH (bj p))/\(bj p).length<=100/\lq (aU x)<=QM/\lq (au (bj p) (aU x))<=QC
theorem NV{p:List (List UInt8)}(h:bT [p]=0):i6 [p]=[aH (bj p)]:=by
 unfold i6;rw[if_pos h];rfl
theorem UP{p:List (List UInt8)}(h:bT [p]=0):nth (.slice NT) (i6 [p]) 0=aH (bj p):=by rw[NV h];rfl
theorem TJ{p:List (List UInt8)}(h:bT [p]=0):(i6 [p]).length=1:=by rw[NV h];rfl
theorem NW{p:List (List UInt8)}{x:List UInt8}(h:F0 p x): [p].length<=1000/\∀y∈ [p],de y:=
 ⟨by simp,fun y hy=>by rw[List.mem_singleton] at hy;subst hy;exact h.sp⟩
theorem TK{p:List (List UInt8)}{x:List UInt8}(h:¬bT [p]=0): []=evS p x/\bT [p]=evE p x:=by
 have e:evE p x=bT [p]:=if_neg h;exact⟨by unfold evS;rw[if_neg (by rw[e];exact h)],e.symm⟩
theorem Rm{p:List (List UInt8)}{x:List UInt8}(h:bT [p]=0)(h2:¬ck x=0): []=evS p x/\ck x=evE p x:=by
 have e:evE p x=ck x:=by unfold evE;rw[if_pos h,if_neg h2]
 exact⟨by unfold evS;rw[if_neg (by rw[e];exact h2)],e.symm⟩
theorem TL{p:List (List UInt8)}{x:List UInt8}(h:bT [p]=0)(h2:ck x=0)(h3:gI (au (bj p) (aU x))=false): []=evS p x/\6=evE p x:=by
 have e:evE p x=6:=by unfold evE;rw[if_pos h,if_pos h2];unfold l4;rw[h3];rfl
 exact⟨by unfold evS;rw[if_neg (by rw[e];decide)],e.symm⟩
theorem Rn{p:List (List UInt8)}{x:List UInt8}(h:bT [p]=0)(h2:ck x=0)(h3:gI (au (bj p) (aU x))=true):aG (au (bj p) (aU x))=evS p x/\0=evE p x:=by
 have e:evE p x=0:=by unfold evE;rw[if_pos h,if_pos h2];unfold l4;rw[h3];rfl
 exact⟨by unfold evS;rw[if_pos e],e.symm⟩
theorem NX{p:List Rat}{x:Rat}{y:List UInt8}(c1:eG y)(k1:Sz QM (aH p))(k2:p.length<=100)(k3:lq x<=QM)(k4:lq (au p x)<=QC):
  ((0:Int)<=0/\(0:Int)<((1:Nat):Int))/\eG y/\(Sz QM (aH p)/\(aH p).length<=100/\NOK (bp x)/\lq x<=QM)/\1<QL/\∀z:ND,z∈ [bp (au p x)]->NOK z/\lq (bH z)<=QC:=by
 refine⟨by decide,c1,⟨k1,by rw[aE];exact k2,b9 _,k3⟩,by unfold QL;decide,fun z hz=>?_⟩;rw[List.mem_singleton] at hz;subst hz;rw[aP];exact⟨b9 _,k4⟩
theorem JU{x:Rat}(h:ec [bp x]=true)(y:List UInt8):(0:Int)<=0/\(0:Int)<((if ec [bp x]=true then [y] else []).length:Int):=by
 rw[if_pos h];simp
theorem Ro{p:List (List UInt8)}{x:List UInt8}(h:bT [p]=0)(h2:ck x=0)(h3:gI (au (bj p) (aU x))=true):nth Ty.str (if gI (au (bj p) (aU x))=true then [aG (au (bj p) (aU x))] else []) 0=evS p x/\0=evE p x:=by
 rw[if_pos h3];exact Rn h h2 h3
theorem Bb(q:Rat):ec [bp q]=gI q:=by unfold ec;simp[aP]
structure Sml (n b:Nat) (l:List Rat):Prop where
 len:l.length<=n
 trm:Trm l
 den:Den b l
theorem Sml.pol{n b:Nat}{l:List Rat}(h:Sml n b l)(hn:n<=41)(hb:b<=222):Pol l:=⟨Nat.le_trans h.len hn,h.trm,Nz h.den hb⟩
theorem Sml.mul{n m k b c:Nat}{l l2:List Rat}(h:Sml n b l)(h2:Sml m c l2)(hn:n<1000)(hk:n+m<=k+1)(hm:1<=m)(hn1:1<=n):Sml k (b+c+1) (cB l l2):=by
 refine⟨?_,mI h.trm h2.trm,den_mul h.den h2.den (by have:=h.len;omega)⟩;by_cases h3:l=[];·rw[h3,cZ];simp
 by_cases h4:l2=[]
 ·rw[h4,ew];simp
 rw[dI h3 h4];have:=h.len;have:=h2.len;omega
theorem Sml.add{n m b c:Nat}{l l2:List Rat}(h:Sml n b l)(h2:Sml m c l2):Sml (max n m) (b+c+1) (br (· + ·) l l2):=
 ⟨by have:=dx (· + ·) l l2;have:=h.len;have:=h2.len;omega,ct _ _ _,den_add h.den h2.den⟩
theorem Sml.sub{n m b c:Nat}{l l2:List Rat}(h:Sml n b l)(h2:Sml m c l2):Sml (max n m) (b+c+1) (br (· - ·) l l2):=
 ⟨by have:=dx (· - ·) l l2;have:=h.len;have:=h2.len;omega,ct _ _ _,Q5 h.den h2.den⟩
theorem Sml.div{n b m c k:Nat}{p q:List Rat}(hp:Sml n b p)(hq:Sml m c q)(h0:q≠[])(hk:b+(n+1)*(c+1)<=k):(∀x∈(divN p q).1,lq x<=k)/\Sml m k (divN p q).2/\(divN p q).2.length<q.length:=by
 have hlp:=hp.len;have hbd:b+(p.length+1-q.length)*(c+1)<=k:=by
  have:(p.length+1-q.length)*(c+1)<=(n+1)*(c+1):=Nat.mul_le_mul (by omega) (Nat.le_refl _);omega
 obtain⟨k1,k2⟩:=pz (K:=k) hp.den hq.den h0 hq.trm hbd (by have:=hp.den.pos;omega);have hs:=ev (p:=p) (List.length_pos_iff.2 h0) (hq.trm h0);exact⟨k1,⟨by have:=hq.len;omega,fx hp.trm,k2⟩,hs⟩
theorem NY{q:List Rat}:(((txP q).length:Nat):Int)=0↔q=[]:=by
 rw[aR];constructor;·intro h;exact List.eq_nil_of_length_eq_zero (by omega)
 ·intro h;rw[h];rfl
def nl(p:List (List UInt8)):List Rat:=p.map aU
def GL(K:Nat)(p:List (List UInt8)):Prop:=∀q∈p,GQ K q
theorem GL.tx{K:Nat}{p:List (List UInt8)}(h:GL K p):txP (nl p)=p:=by
 unfold txP nl;rw[List.map_map];conv=>rhs;rw[<- List.map_id p]
 exact List.map_congr_left fun q hq=>(h q hq).1
theorem GL.lq{K:Nat}{p:List (List UInt8)}(h:GL K p):∀x∈nl p,lq x<=K:=by
 intro x hx;obtain⟨q,hq,rfl⟩:=List.mem_map.1 hx;exact(h q hq).2
theorem fI{K:Nat}{l:List Rat}(h:∀x∈l,lq x<=K):GL K (txP l):=by
 intro q hq;obtain⟨x,hx,rfl⟩:=List.mem_map.1 hq;exact cG (h x hx)
theorem bJ(l:List Rat):nl (txP l)=l:=FQ l
theorem dN(p:List (List UInt8)):(nl p).length=p.length:=by simp[nl]
theorem GL.mono{K m:Nat}{p:List (List UInt8)}(h:GL K p)(hm:K<=m):GL m p:=fun q hq=>⟨(h q hq).1,Nat.le_trans (h q hq).2 hm⟩
theorem GL.ex{K:Nat}{p:List (List UInt8)}(h:GL K p):∃l,p=txP l/\∀x∈l,Cm.lq x<=K:=⟨nl p,h.tx.symm,h.lq⟩
theorem oy{l:List Rat}{k:Nat}(h:k<l.length):nth .str (txP l) (k:Int)=aG (cf l k):=by
 rw[eu (t:= .str) (by rw[aR];exact h)];unfold txP cf;rw[List.getElem_map,List.getD_eq_getElem?_getD,List.getElem?_eq_getElem h];rfl
theorem nu:aG 0=[48]:=jJ.2 rfl
theorem gN{p:List (List UInt8)}{K:Nat}(h:GL K p){k:Nat}(hk:k<p.length):nth .str p (k:Int)=aG (cf (nl p) k):=by
 have:=oy (l:=nl p) (k:=k) (by rw[dN];exact hk);rwa [h.tx] at this
theorem NZ{p:List (List UInt8)}{k:Nat}(hk:¬k<p.length): [48]=aG (cf (nl p) k):=by
 rw[bh (by rw[dN];omega),nu]
theorem kk{l:List Rat}(h:0<l.length)(hl:l.length<=1000000000):nth .str (txP l) (IntKind.i64.wrap ((l.length:Int)-1))=aG (aB l):=by
 rw[bU hl,show (l.length:Int)-1=((l.length-1:Nat):Int) by omega,oy (by omega),bD h]
theorem Rp{l:List Rat}(hl:l.length<=1000000000)(hb:(0:Int)<((txP l).length:Int))(hc:nth .str (txP l) (IntKind.i64.wrap (((txP l).length:Int)-1))=[48]):0<l.length/\aB l=0:=by
 rw[aR] at hb hc;rw[kk (by omega) hl,jJ] at hc;exact⟨by omega,hc⟩
theorem Rq{l:List Rat}(hl:l.length<=1000000000)(hb:(0:Int)<((txP l).length:Int)-> ¬nth .str (txP l) (IntKind.i64.wrap (((txP l).length:Int)-1))=[48]):aM l=l:=by
 rw[aR] at hb;by_cases h:l=[];·subst h;rfl
 ·have h1:=List.length_pos_iff.2 h;have h2:=hb (by omega);rw[kk h1 hl,jJ] at h2;exact lF h h2
theorem DM{l:List Rat}(hl:l.length<=1000000000)(h:decide ((0:Int)<((txP l).length:Int))=true):decide ((0:Int)<((txP l).length:Int))=true/\0<=IntKind.i64.wrap (((txP l).length:Int)-1)/\IntKind.i64.wrap (((txP l).length:Int)-1)<((txP l).length:Int):=by
 have h1:=of_decide_eq_true h;refine⟨h,?_⟩;rw[aR] at h1 ⊢;rw[bU hl];omega
theorem DN{l l0:List Rat}{K:Nat}(hl:l.length<=1000000000)(g1:l.length<=l0.length)(g2:∀x∈l,lq x<=K)(g3:aM l=aM l0)(h:0<l.length/\aB l=0):
  List.take (IntKind.i64.wrap (((txP l).length:Int)-1)).toNat (txP l)=txP l.dropLast/\l.dropLast.length<=l0.length/\(∀x∈l.dropLast,lq x<=K)/\aM l.dropLast=aM l0/\l.dropLast.length<l.length:=by
 rw[aR,bU hl,show ((l.length:Int)-1).toNat=l.length-1 by omega];refine⟨?_,by rw[List.length_dropLast];omega,fun x hx=>g2 x (List.dropLast_subset _ hx),?_,by rw[List.length_dropLast];omega⟩;·unfold txP;rw[<- List.map_take,List.dropLast_eq_take]
 ·rw[<- g3,lG (List.length_pos_iff.1 h.1) h.2]
def QK2:Nat:=4000000
theorem kR(l:List Rat)(x:Rat):txP (l++ [x])=txP l++ [aG x]:=by simp[txP]
theorem pB{K:Nat}{p:List (List UInt8)}(h:GL K p)(hK:1<=K)(i:Nat):lq (cf (nl p) i)<=K:=gg h.lq hK i
theorem qQ{p q:List (List UInt8)}(hp:GL QK2 p)(hq:GL QK2 q)(k:Nat):(GL QK p/\(0:Int)<=(k:Int))/\(GL QK q/\(0:Int)<=(k:Int))/\GQ QK (aG (cf (nl p) (k:Int).toNat))/\GQ QK (aG (cf (nl q) (k:Int).toNat)):=by
 have e:QK=10000000:=rfl;have e2:QK2=4000000:=rfl;rw[Int.toNat_natCast];have h1:=pB hp (by omega) k;have h2:=pB hq (by omega) k;exact⟨⟨hp.mono (by omega),by omega⟩,⟨hq.mono (by omega),by omega⟩,cG (by omega),cG (by omega)⟩
theorem DO{p q:List (List UInt8)}{k n:Nat}(h:k<n)(hn:n<=1000000):∃z:Nat,IntKind.i64.wrap ((k:Int)+1)=(z:Int)/\txP (bS (· + ·) (nl p) (nl q) k)++ [aG (aU (aG (cf (nl p) (k:Int).toNat))+aU (aG (cf (nl q) (k:Int).toNat)))]=txP (bS (· + ·) (nl p) (nl q) z)/\z<=n/\n-z<n-k:=by
 refine⟨k+1,by rw[wo];omega,?_,by omega,by omega⟩;rw[Int.toNat_natCast,bz,bz,pw,kR]
theorem JV{p q:List (List UInt8)}(hp:GL QK2 p)(hq:GL QK2 q)(k:Nat):GL QK (txP (bS (· + ·) (nl p) (nl q) k)):=by
 refine fI fun x hx=>?_;obtain⟨i,_,rfl⟩:=List.mem_map.1 hx;have e:QK=10000000:=rfl;have e2:QK2=4000000:=rfl;have h1:=pB hp (by omega) i;have h2:=pB hq (by omega) i;have:=qC (cf (nl p) i) (cf (nl q) i);show lq (cf (nl p) i+cf (nl q) i)<=_;omega
theorem N0{p q:List (List UInt8)}{k:Nat}(h1:k<=max p.length q.length)(h:¬k<max p.length q.length):txP (aM (nl (txP (bS (· + ·) (nl p) (nl q) k))))=txP (br (· + ·) (nl p) (nl q)):=by
 have e:k=max p.length q.length:=by omega
 unfold br;rw[bJ,dN,dN,<- e]
def b6(c:Rat)(l:List Rat):List Rat:=aM (l.map fun x=>c*x)
def dt(k:Nat)(l:List Rat):List Rat:=aM (List.replicate k 0++l)
theorem Bc{c:List UInt8}{p:List (List UInt8)}{K:Nat}(hp:GL K p){k:Nat}(h:k<p.length)(hn:p.length<=1000000):∃z:Nat,IntKind.i64.wrap ((k:Int)+1)=(z:Int)/\txP (((nl p).take k).map fun x=>aU c*x)++ [aG (aU c*aU (nth .str p (k:Int)))]=txP (((nl p).take z).map fun x=>aU c*x)/\z<=p.length/\p.length-z<p.length-k:=by
 refine⟨k+1,by rw[wo];omega,?_,by omega,by omega⟩;rw[gN hp h,bz,List.take_succ_eq_append_getElem (by rw[dN];exact h),List.map_append,<- kR];congr 2;unfold cf;rw[List.getD_eq_getElem?_getD,List.getElem?_eq_getElem (by rw[dN];exact h)];rfl
theorem DP{c:List UInt8}{p:List (List UInt8)}(hc:GQ QK2 c)(hp:GL QK2 p)(k:Nat):GL QK (txP (((nl p).take k).map fun x=>aU c*x)):=by
 refine fI fun x hx=>?_;obtain⟨y,hy,rfl⟩:=List.mem_map.1 hx;have e:QK=10000000:=rfl;have e2:QK2=4000000:=rfl;have:=lD (aU c) y;have:=hc.2;have:=hp.lq y (List.mem_of_mem_take hy);omega
theorem JW{c:List UInt8}{p:List (List UInt8)}{k:Nat}(h:¬k<p.length):txP (aM (nl (txP (((nl p).take k).map fun x=>aU c*x))))=txP (b6 (aU c) (nl p)):=by
 rw[bJ,List.take_of_length_le (by rw[dN];omega)];rfl
theorem N1(k:Nat):List.replicate k [48]++ [[48]]=List.replicate (k+1) ([48]:List UInt8):=(List.replicate_succ' ..).symm
theorem Rr(k:Nat):txP (List.replicate k 0)=List.replicate k [48]:=by unfold txP;rw[List.map_replicate,nu]
theorem DQ{p:List (List UInt8)}(hp:GL QK p)(k:Nat):GL QK (List.replicate k [48]++p):=by
 intro q hq;rcases List.mem_append.1 hq with h|h
 ·rw[(List.mem_replicate.1 h).2,<- nu];exact cG (Nat.le_trans jh (by unfold QK;decide))
 ·exact hp q h
theorem JX(p q:List (List UInt8)):nl (p++q)=nl p++nl q:=by simp[nl]
theorem TM(k:Nat):nl (List.replicate k [48])=List.replicate k 0:=by rw[<- Rr,bJ]
theorem JY{p:List (List UInt8)}{k:Nat}:txP (aM (nl (List.replicate k [48]++p)))=txP (dt k (nl p)):=by
 rw[JX,TM];rfl
theorem oz(c:Rat)(l:List Rat)(i:Nat):cf (l.map fun x=>c*x) i=c*cf l i:=by
 unfold cf;simp only[List.getD_eq_getElem?_getD,List.getElem?_map];cases l[i]? with
 |none=>simp
 |some x=>rfl
theorem Rs:aU [45,49]= -1:=by decide+kernel
theorem oA:GQ 1 [45,49]:=by
 have h:aG (-1)=[45,49]:=by decide+kernel
 rw[<- h];refine cG ?_;rw[ud];have:lq 1=1:=by unfold lq;show max (lw 1) (lw 1)=1;rw[kv];decide
 omega
theorem Rt(l m:List Rat):br (· + ·) l (b6 (-1) m)=br (· - ·) l m:=by
 refine DA (ct _ _ _) (ct _ _ _) fun i=>?_;have key:∀(op:Rat->Rat->Rat) (a b:List Rat),op 0 0=0->cf (br op a b) i=op (cf a i) (cf b i):=by
  intro op a b h0;unfold br;rw[eV];by_cases hi:i<max a.length b.length;·exact iu _ _ _ _ _ hi
  ·rw[bh (by rw[dw];omega),bh (l:=a) (by omega),bh (l:=b) (by omega),h0]
 rw[key _ _ _ (by grind),key _ _ _ (by grind)];unfold b6;rw[eV,oz];grind
def eH(l m:List Rat):Nat->List Rat
 |0=>[]
 |i+1=>br (· + ·) (eH l m i) (dt i (b6 (cf l i) m))
theorem eI(c:Rat)(l:List Rat)(x:Rat):au (b6 c l) x=c*au l x:=by
 unfold b6;rw[eU];induction l with
 |nil=>simp only[List.map_nil,cH];grind
 |cons a l ih=>simp only[List.map_cons,c9,ih];grind
theorem jM(k:Nat)(l:List Rat)(x:Rat):au (dt k l) x=x^k*au l x:=by
 unfold dt;rw[eU,qH,Dz,List.length_replicate];grind
theorem F1(l m:List Rat)(x:Rat):∀i,i<=l.length->au (eH l m i) x=au (l.take i) x*au m x
 |0,_=>by simp only[eH,List.take_zero,cH];grind
 |i+1,h=>by
  rw[eH,mH,jM,eI,F1 l m x i (by omega),sc l i x (by omega)];grind
theorem N2(l m:List Rat):∀i,Trm (eH l m i)
 |0=>kh
 |i+1=>ct _ _ _
theorem F2{l m:List Rat}(hl:Trm l)(hm:Trm m):eH l m l.length=cB l m:=
 kz (N2 _ _ _) (mI hl hm) fun x=>by rw[F1 l m x _ (Nat.le_refl _),List.take_length,eO]
theorem pC{c:Rat}{l:List Rat}{K:Nat}(hc:lq c<=K)(hl:∀x∈l,lq x<=K):∀x∈b6 c l,lq x<=2*K:=by
 intro x hx;obtain⟨y,hy,rfl⟩:=List.mem_map.1 (iv x hx);have:=lD c y;have:=hl y hy;omega
theorem mL{k:Nat}{l:List Rat}{K:Nat}(hK:1<=K)(hl:∀x∈l,lq x<=K):∀x∈dt k l,lq x<=K:=by
 intro x hx;rcases List.mem_append.1 (iv x hx) with h|h;·rw[(List.mem_replicate.1 h).2];exact Nat.le_trans jh hK
 ·exact hl x h
theorem N3{l m:List Rat}{K M:Nat}(hK:1<=K)(hM:1<=M)(hl:∀x∈l,lq x<=K)(hm:∀x∈m,lq x<=M):∀x∈br (· + ·) l m,lq x<=K+M+1:=by
 intro x hx;obtain⟨i,_,rfl⟩:=List.mem_map.1 (iv x hx);have h1:=gg hl hK i;have h2:=gg hm hM i;have:=qC (cf l i) (cf m i);show lq (cf l i+cf m i)<=_;omega
theorem yH{l m:List Rat}{K:Nat}(hK:1<=K)(hl:∀x∈l,lq x<=K)(hm:∀x∈m,lq x<=K):∀i,∀x∈eH l m i,lq x<=1+i*(2*K+1)
 |0=>by intro x hx;simp[eH] at hx
 |i+1=>by
  intro x hx;have h1:=N3 (by omega) (by omega:1<=2*K) (yH hK hl hm i) (mL (k:=i) (by omega) (pC (gg hl hK i) hm)) x hx;rw[Nat.add_mul];omega
theorem nv(c:Rat)(l:List Rat):(b6 c l).length<=l.length:=by
 have:=cN (l.map fun x=>c*x);rwa [List.length_map] at this
theorem kS(k:Nat)(l:List Rat):(dt k l).length<=k+l.length:=by
 have:=cN (List.replicate k 0++l);rw[List.length_append,List.length_replicate] at this;exact this
theorem uM(l m:List Rat):∀i,(eH l m i).length<=i+m.length
 |0=>by simp[eH]
 |i+1=>by
  have h1:=uM l m i;have h2:=dx (· + ·) (eH l m i) (dt i (b6 (cf l i) m));have h3:=kS i (b6 (cf l i) m);have h4:=nv (cf l i) m;rw[eH];omega
def JZ(p q:List (List UInt8)):Prop:=GL 10000 p/\GL 10000 q/\p.length<=100/\q.length<=100
theorem J0{p q:List (List UInt8)}(h:JZ p q){k:Nat}(hk:k<p.length):(GQ QK2 (nth .str p (k:Int))/\GL QK2 q/\q.length<=1000000)/\(GL QK (txP (b6 (aU (nth .str p (k:Int))) (nl q)))/\(0:Int)<=(k:Int)/\(k:Int)<=1000000/\(txP (b6 (aU (nth .str p (k:Int))) (nl q))).length<=1000000)/\
  GL QK2 (txP (eH (nl p) (nl q) k))/\GL QK2 (txP (dt (k:Int).toNat (nl (txP (b6 (aU (nth .str p (k:Int))) (nl q))))))/\(txP (eH (nl p) (nl q) k)).length<=1000000/\(txP (dt (k:Int).toNat (nl (txP (b6 (aU (nth .str p (k:Int))) (nl q)))))).length<=1000000:=by
 obtain⟨hp,hq,hl,hl2⟩:=h;have e:QK=10000000:=rfl;have e2:QK2=4000000:=rfl;rw[gN hp hk,bz,bJ,Int.toNat_natCast];have h1:=pB hp (by omega) k;have s1:=pC h1 hq.lq;have s2:=mL (k:=k) (by omega) s1;have s3:=yH (by omega) hp.lq hq.lq k;have l1:=nv (cf (nl p) k) (nl q);have l2:=kS k (b6 (cf (nl p) k) (nl q));have l3:=uM (nl p) (nl q) k;rw[dN] at l1 l3;refine⟨⟨cG (by omega),hq.mono (by omega),by omega⟩,⟨fI fun x hx=>by have:=s1 x hx;omega,by omega,by omega,by rw[aR];omega⟩,fI fun x hx=>?_,fI fun x hx=>by have:=s2 x hx;omega,by rw[aR];omega,by rw[aR];omega⟩;have:=s3 x hx;have h9:k*(2*10000+1)<=100*(2*10000+1):=Nat.mul_le_mul_right _ (by omega);omega
theorem DR{p q:List (List UInt8)}(h:JZ p q){k:Nat}(hk:k<p.length):∃z:Nat,IntKind.i64.wrap ((k:Int)+1)=(z:Int)/\txP (br (· + ·) (nl (txP (eH (nl p) (nl q) k))) (nl (txP (dt (k:Int).toNat (nl (txP (b6 (aU (nth .str p (k:Int))) (nl q))))))))=txP (eH (nl p) (nl q) z)/\z<=p.length/\p.length-z<p.length-k:=by
 have hl:=h.2.2.1;refine⟨k+1,by rw[wo];omega,?_,by omega,by omega⟩;rw[gN h.1 hk,bz,bJ,bJ,bJ,Int.toNat_natCast];rfl
theorem N4{p q:List (List UInt8)}{k:Nat}(h1:k<=p.length)(h:¬k<p.length):txP (eH (nl p) (nl q) k)=txP (eH (nl p) (nl q) p.length):=by
 rw[show k=p.length by omega]
theorem UQ{k a b:Nat}(h:(decide ((k:Int)<(a:Int))||decide ((k:Int)<(b:Int)))=true):k<max a b:=by
 rw[Bool.or_eq_true,decide_eq_true_iff,decide_eq_true_iff] at h;omega
theorem UR{k a b:Nat}(h:(decide ((k:Int)<(a:Int))||decide ((k:Int)<(b:Int)))=false):¬k<max a b:=by
 rw[Bool.or_eq_false_iff,decide_eq_false_iff_not,decide_eq_false_iff_not] at h;omega
theorem kA{n:Nat}(h:n<=3000000):Cm.Roomy 1 n:=yv (by omega)
theorem DS{p q:List (List UInt8)}(hp:GL QK2 p)(hq:GL QK2 q){k:Nat}(hk:k<=1000000):(GL QK p/\(0:Int)<=(k:Int))/\(GL QK q/\(0:Int)<=(k:Int))/\(GQ QK (aG (cf (nl p) (k:Int).toNat))/\GQ QK (aG (cf (nl q) (k:Int).toNat)))/\Cm.Roomy 1 ((txP (bS (· + ·) (nl p) (nl q) k)).length+1):=
 ⟨(qQ hp hq k).1,(qQ hp hq k).2.1,(qQ hp hq k).2.2,kA (by rw[aR,dw];omega)⟩
theorem Bd{c:List UInt8}{p:List (List UInt8)}(hc:GQ QK2 c)(hp:GL QK2 p)(hl:p.length<=1000000){k:Nat}(hk:k<p.length):((0:Int)<=(k:Int)/\(k:Int)<((p.length:Nat):Int))/\(GQ QK c/\GQ QK (nth .str p (k:Int)))/\Cm.Roomy 1 ((txP (List.map (fun x=>aU c*x) (List.take k (nl p)))).length+1):=by
 have e:QK=10000000:=rfl;have e2:QK2=4000000:=rfl;have h1:=pB hp (by omega) k;refine⟨by omega,⟨⟨hc.1,by have:=hc.2;omega⟩,by rw[gN hp hk];exact cG (by omega)⟩,kA ?_⟩;rw[aR,List.length_map,List.length_take,dN];omega
theorem J1{p q:List (List UInt8)}(h:GL QK2 p/\GL 1000000 q/\p.length<=1000000/\q.length<=1000000):(GQ QK2 [45,49]/\GL QK2 q/\List.length q<=1000000)/\GL QK2 p/\GL QK2 (txP (b6 (aU [45,49]) (nl q)))/\List.length p<=1000000/\(txP (b6 (aU [45,49]) (nl q))).length<=1000000:=by
 obtain⟨h1,h2,h3,h4⟩:=h;have e2:QK2=4000000:=rfl;have s1:=pC (c:=aU [45,49]) (K:=1000000) (by have:=oA.2;omega) h2.lq;have s2:=nv (aU [45,49]) (nl q);rw[dN] at s2;exact⟨⟨⟨oA.1,by have:=oA.2;omega⟩,h2.mono (by omega),h4⟩,h1,fI fun x hx=>by have:=s1 x hx;omega,h3,by rw[aR];omega⟩
theorem pD{K:Nat}(hK:1<=K):∀l:List Rat,(∀x∈l,lq x<=K)->Den (l.length*K+1) l
 | [],_=>sf (by omega)
 |a::l,h=>by
  obtain⟨D,d1,d2,d3⟩:=pD hK l fun x hx=>h x (List.mem_cons_of_mem _ hx);have ha:=h a (List.mem_cons_self ..);have h1:=dW a;have h2:=dX a;have e:(a::l).length*K+1=l.length*K+1+K:=by rw[List.length_cons,Nat.add_mul];omega
  refine⟨D*a.den,Int.mul_ne_zero d1 (ff a),by rw[e];have:=bV D a.den;omega,fun i=>?_⟩;cases i with
  |zero=>
   refine⟨a.num*D,by rw[e];have:=bV a.num D;omega,?_⟩;(have e1:cf (a::l) 0=a:=by simp[cf]);rw[e1,Int.mul_comm D,Rat.divInt_mul_right d1];exact(Rat.num_divInt_den a).symm
  |succ i=>
   obtain⟨n,n1,n2⟩:=d3 i;refine⟨n*a.den,by rw[e];have:=bV n a.den;omega,?_⟩;(have e1:cf (a::l) (i+1)=cf l i:=by simp[cf]);rw[e1,n2,Rat.divInt_mul_right (ff a)]
theorem DT{l:List Rat}{n K:Nat}(hn:l.length<=n)(ht:Trm l)(hK:1<=K)(h:∀x∈l,lq x<=K):Sml n (n*K+1) l:=
 ⟨hn,ht,(pD hK l h).mono (by have:=Nat.mul_le_mul_right K hn;omega)⟩
theorem Pol.sml{l:List Rat}(h:Pol l){n K:Nat}(hn:l.length<=n)(hK:1<=K)(hl:∀x∈l,Cm.lq x<=K):Sml n (n*K+1) l:=DT hn h.trm hK hl
theorem F3{n b m c:Nat}{l q:List Rat}(hl:Sml n b l)(hq:Sml m c q)(pl:Pol l)(pq:Pol q)(hb:(max b c+1)*(n+2)*3^m<=QD):bR kg cd (txP l) (txP q)/\kg (aH l) (aH q)/\Den ((max b c+1)*(n+2)*3^m) (cd l q):=by
 have e1:QD=10000000000:=rfl;have e2:QC=100000000000:=rfl;have e3:QL=1000000000:=rfl;have hll:=hl.len;have hlq:=hq.len;have pl1:=pl.len;have pq1:=pq.len;have hbd:(max b c+1)*(l.length+1-q.length+1)*3^q.length<=QD:=by
  refine Nat.le_trans (Nat.mul_le_mul (Nat.mul_le_mul (Nat.le_refl _) (by omega:_<=n+2)) (Nat.pow_le_pow_right (by omega) hlq)) hb
 obtain⟨g1,g2⟩:=TG (p:=aH l) (q:=aH q) (b:=max b c) (lI _) (lI _) (by rw[aI];exact hl.den.mono (by omega)) (by rw[aI];exact hq.den.mono (by omega)) (by rw[aE];omega) (by rw[aE];omega) (by rw[aI];exact hl.trm) (by rw[aI];exact hq.trm) (by rw[aE,aE];exact hbd);rw[aI,aI,aE,aE] at g2;have g2:=g2.mono (Nat.le_refl _);refine⟨jK pl pq g1 (fun x hx=>by have:=g2.lq x hx;omega) ?_,g1,g2.mono (Nat.mul_le_mul (Nat.mul_le_mul (Nat.le_refl _) (by omega:_<=n+2)) (Nat.pow_le_pow_right (by omega) hlq))⟩;have key:∀(k:Nat) (a b:List Rat),a.length<=900->b.length<=900->Trm b->(dC k a b).length<=900:=by
  intro k;induction k with
  |zero=>intro a b ha _ _;rw[dC,bY];exact ha
  |succ k ih=>
   intro a b ha hb tb;rw[dC];split;·rw[bY];exact ha
   ·rename_i hne;by_cases hta:Trm a;·have:=ev (p:=a) (List.length_pos_iff.2 hne) (tb hne);exact ih _ _ hb (by rw[bY];omega) (ea (fx hta))
    ·have h3:=ev (p:=a) (List.length_pos_iff.2 hne) (tb hne);have:∀(k:Nat) (a b:List Rat),a.length<=900->b.length<=900->(dC k a b).length<=900:=by
      intro k;induction k with
      |zero=>intro a b ha _;rw[dC,bY];exact ha
      |succ k ih2=>
       intro a b ha hb;rw[dC];split;·rw[bY];exact ha
       ·refine ih2 _ _ hb ?_;rw[bY];have hlen:∀(q:List Rat) (n:Nat) (r s:List Rat),(fA q n r s).2.length<=r.length:=by
         intro q n;induction n with
         |zero=>intro r s;exact Nat.le_refl _
         |succ n ih3=>
          (intro r s;rw[fA];split;·have h5:=ih3 (aM (cA q r)) (s.set (r.length-q.length) (aB r/aB q));have h6:=cN (cA q r);rw[fg] at h6;omega);·exact Nat.le_refl _
        have:=hlen b (a.length+1) a (List.replicate (a.length+1-b.length) 0);unfold divN;omega
     exact this _ _ _ hb (by rw[bY];omega)
 have:=key (q.length+1) l q (by omega) (by omega) hq.trm;unfold cd;omega
theorem nw(l:List Rat):(bl l).length=l.length-1:=by unfold bl ir;simp
theorem TN{l:List Rat}{i:Nat}(h:i<l.length-1):cf (bl l) i=cf l (i+1)*((i+1:Nat):Rat):=by
 unfold bl ir;conv=>lhs;unfold cf
 rw[List.getD_eq_getElem?_getD,List.getElem?_map,List.getElem?_range h];show cf l (i+1)*Rat.divInt ((i+1:Nat):Int) 1=_;rw[Rat.divInt_eq_div,Rat.intCast_natCast];rw[show ((1:Int):Rat)=1 from rfl];grind
theorem F4{l:List Rat}(h:Trm l):Trm (bl l):=by
 intro hn;have h1:=List.length_pos_iff.2 hn;rw[nw] at h1;have h2:l≠[]:=fun e=>by rw[e] at h1;simp at h1
 have h3:=h h2;rw[bD (by omega)] at h3;rw[bD (by rw[nw];omega),nw,TN (by omega),show l.length-1-1+1=l.length-1 by omega];have h4:((l.length-1:Nat):Rat)≠0:=by
  intro e;have:(l.length-1:Nat)=0:=by exact_mod_cast e
  omega
 intro e;rcases Rat.mul_eq_zero.1 e with e|e;·exact h3 e
 ·exact h4 e
theorem Sml.der{n b:Nat}{l:List Rat}(h:Sml n b l)(hn:n<1000000000):Sml (n-1) (b+1) (bl l):=
 ⟨by rw[nw];have:=h.len;omega,F4 h.trm,FP h.den (by have:=h.len;omega)⟩
theorem F5{l:List Rat}(hl:Pol l):bR (fun p _=>Sz QH p/\p.length<=1000) (fun a _=>bl a) (txP l) []:=by
 have e1:QH=40000000000:=rfl;have e2:QL=1000000000:=rfl;have e3:QC=100000000000:=rfl;have hln:=hl.len;refine jK (m:=[]) hl yG ⟨hl.enc_ok (by omega),by rw[aE];omega⟩ ?_ (by show (bl l).length<=_;rw[nw];omega);intro x hx;have hd:=FP (pD (K:=2000) (by omega) l hl.lq) (by omega);have:=hd.lq x hx;have h4:l.length*2000<=41*2000:=Nat.mul_le_mul_right _ hln;omega
theorem w6:∀(n:Nat) (p q:List Rat),Trm p->Trm q->Trm (dC n p q)
 |0,p,q,tp,tq=>by rw[dC];exact ea tp
 |n+1,p,q,tp,tq=>by
  rw[dC];split;·exact ea tp
  ·exact w6 n _ _ tq (ea (fx tp))
theorem uN{p q:List Rat}(tp:Trm p)(tq:Trm q):Trm (cd p q):=w6 _ _ _ tp tq
theorem uO(q:List Rat):∀(n:Nat) (r s:List Rat),(fA q n r s).2.length<=r.length
 |0,r,s=>Nat.le_refl _
 |n+1,r,s=>by
  rw[fA];split;·have h5:=uO q n (aM (cA q r)) (s.set (r.length-q.length) (aB r/aB q));have h6:=cN (cA q r);rw[fg] at h6;omega
  ·exact Nat.le_refl _
theorem w7:∀(n:Nat) (p q:List Rat),(dC n p q).length<=max p.length q.length
 |0,p,q=>by rw[dC,bY];omega
 |n+1,p,q=>by
  rw[dC];split;·rw[bY];omega
  ·have h1:=w7 n q (cy (divN p q).2);have h2:=uO q (p.length+1) p (List.replicate (p.length+1-q.length) 0);rw[bY] at h1;unfold divN at h1 ⊢;omega
theorem Be(p q:List Rat):(cd p q).length<=max p.length q.length:=w7 _ _ _
theorem nx{l:List Rat}:cy l=[]↔l=[]:=by
 unfold cy;simp
theorem w9:∀(n:Nat) (p q:List Rat),q.length<n->(p≠[]∨q≠[])->dC n p q≠[]
 |0,p,q,h,_=>absurd h (by omega)
 |n+1,p,q,h,hne=>by
  rw[dC];split
  ·(rename_i hq;intro e;rw[nx] at e;rcases hne with h1|h1;·exact h1 e);·exact h1 hq
  ·rename_i hq;by_cases ht:(cy (divN p q).2).length<n;·exact w9 n _ _ ht (.inl hq)
   ·
    have key:∀(k:Nat) (a b:List Rat),a≠[]->dC k a b≠[]:=by
     intro k;induction k with
     |zero=>intro a b ha e;rw[dC,nx] at e;exact ha e
     |succ k ih=>
      (intro a b ha;rw[dC];split;·intro e;rw[nx] at e;exact ha e);·rename_i hb;exact ih _ _ hb
    exact key n _ _ hq
theorem sk{p q:List Rat}(h:p≠[]∨q≠[]):cd p q≠[]:=w9 _ _ _ (Nat.lt_succ_self _) h
theorem TO{n b c:Nat}{l:List Rat}(hl:Sml n b l)(pl:Pol l)(hg:kg (aH l) (aH (bl l)))(dg:Den c (cd l (bl l)))(hK:b+(n+1)*(c+1)<=QD):mE (aH l)/\(∀x∈(divN l (cd l (bl l))).1,lq x<=QD):=by
 have e1:QD=10000000000:=rfl;have e2:QH=40000000000:=rfl;have hll:=hl.len;have pl1:=pl.len;have hcK:c<=QD:=by
  have:1*(c+1)<=(n+1)*(c+1):=Nat.mul_le_mul_right _ (by omega);omega
 have hgl:=Be l (bl l);rw[nw] at hgl;have tg:=uN hl.trm (F4 hl.trm);have hq1:l≠[]->∀x∈(divN l (cd l (bl l))).1,lq x<=QD:=by
  intro h;have hbd:b+(l.length+1-(cd l (bl l)).length)*(c+1)<=QD:=by
   have:(l.length+1-(cd l (bl l)).length)*(c+1)<=(n+1)*(c+1):=Nat.mul_le_mul_right _ (by omega);omega
  exact(pz hl.den dg (sk (.inl h)) tg hbd (by omega)).1
 refine⟨fun hne=>?_,?_⟩
 ·have h:l≠[]:=fun e=>hne (by rw[e];rfl);rw[aI,aE];have hgn:=sk (q:=bl l) (.inl h);have hbd:b+(l.length+1-(cd l (bl l)).length)*(c+1)<=QD:=by
   have:(l.length+1-(cd l (bl l)).length)*(c+1)<=(n+1)*(c+1):=Nat.mul_le_mul_right _ (by omega);omega
  refine⟨pl.enc_ok (by omega),by omega,hg,Nt (b:=b) (c:=c) (lI _) (lI _) (by rw[aI];exact hl.den) (by rw[aI];exact dg) (by rw[aE];omega) (by rw[aE];omega) (by rw[aE];exact List.length_pos_iff.2 hgn) (by rw[aI];exact tg) (by rw[aE,aE];exact hbd) hcK,?_⟩;refine⟨gJ fun x hx=>by have:=hq1 h x hx;omega,by rw[aE,kO];omega,fun hq=>?_⟩;rw[aI];have hlen:=kO l (cd l (bl l));have hsn:(divN l (cd l (bl l))).1≠[]:=fun e=>hq (by rw[e];rfl);have hgp:=List.length_pos_iff.2 hgn;have hlong:(cd l (bl l)).length<=l.length:=by omega
  intro h0;have hev:∀x,au (aM (divN l (cd l (bl l))).1) x*au (cd l (bl l)) x+au (divN l (cd l (bl l))).2 x=au l x:=fun x=>by rw[eU];exact yE hgn tg x
  have hmul:br (· + ·) (cB (aM (divN l (cd l (bl l))).1) (cd l (bl l))) (divN l (cd l (bl l))).2=l:=kz (ct _ _ _) hl.trm fun x=>by rw[mH,eO];exact hev x
  have hs:=ev (p:=l) hgp (tg hgn);have h1:=dx (· + ·) (cB (aM (divN l (cd l (bl l))).1) (cd l (bl l))) (divN l (cd l (bl l))).2;rw[hmul] at h1;have h2:=rG (l:=(divN l (cd l (bl l))).1) (List.length_pos_iff.2 hsn) h0;by_cases hz:aM (divN l (cd l (bl l))).1=[];·rw[hz,cZ] at h1;simp only[List.length_nil] at h1;omega
  ·rw[dI hz hgn] at h1;omega
 ·intro x hx;by_cases h:l=[];·subst h;(have e0:(divN [] (cd [] (bl []))).1=[0]:=by decide+kernel);rw[e0,List.mem_singleton] at hx;rw[hx];exact Nat.le_trans jh (by omega)
  ·exact hq1 h x hx
theorem J2{l:List Rat}(h:∀x∈(divN l (cd l (bl l))).1,lq x<=QD):∀x∈bO l,lq x<=2*QD:=by
 intro x hx;unfold bO at hx;split at hx;·simp at hx
 ·obtain⟨y,hy,rfl⟩:=List.mem_map.1 hx;have h1:=h y hy;have h2:=ov y (aB (divN l (cd l (bl l))).1);have hp:0<(divN l (cd l (bl l))).1.length:=List.length_pos_of_mem hy;have h3:=h (aB (divN l (cd l (bl l))).1) (by rw[bD hp];exact um (by omega));omega
theorem oC(l:List Rat):(bO l).length<=l.length+1:=by
 unfold bO;split;·simp
 ·rw[bY,kO];omega
theorem Ru{n b c:Nat}{l:List Rat}(hl:Sml n b l)(pl:Pol l)(hg:kg (aH l) (aH (bl l)))(dg:Den c (cd l (bl l)))(hK:b+(n+1)*(c+1)<=QD):bR (fun p _=>mE p) (fun a _=>bO a) (txP l) []:=by
 have e1:QD=10000000000:=rfl;have e2:QC=100000000000:=rfl;have e3:QL=1000000000:=rfl;obtain⟨h1,h2⟩:=TO hl pl hg dg hK;refine jK (m:=[]) pl yG h1 (fun x hx=>?_) ?_;·have:=J2 h2 x hx;omega
 ·show (bO l).length<=_;have:=oC l;have:=pl.len;omega
theorem Rv{b:Nat}{l:List Rat}(h:Den b l)(i:Nat):Den b (aM [cf l i]):=by
 refine mJ ?_;obtain⟨D,d1,d2,d3⟩:=h;refine⟨D,d1,d2,fun j=>?_⟩;cases j with
 |zero=>obtain⟨n,n1,n2⟩:=d3 i;exact⟨n,n1,by rw[<- n2];simp[cf]⟩
 |succ j=>exact⟨0,by rw[eT];omega,by rw[Rat.zero_divInt,bh (by simp)]⟩
theorem xb(p q:List Rat):∀k,Trm (cV p q k)
 |0=>kh
 |k+1=>ct _ _ _
theorem pE{n b m c:Nat}{p q:List Rat}(hp:Sml n b p)(hq:Sml m c q)(hnm:n*m<=1000):∀k,k<=n->Den (1+k*(b+c+2)) (cV p q k)/\(cV p q k).length<=1+k*m
 |0,_=>⟨sf (by omega),by simp[cV]⟩
 |k+1,hk=>by
  obtain⟨h1,h2⟩:=pE hp hq hnm k (by omega);have hkm:k*m<=n*m:=Nat.mul_le_mul_right _ (by omega);have hl:(cV p q k).length<1000000000:=by omega
  rw[cV,kN,Nat.add_mul,Nat.add_mul];refine⟨(den_add (den_mul h1 hq.den hl) (Rv hp.den _)).mono (by omega),?_⟩;have h3:=dx (· + ·) (cB (cV p q k) q) (aM [cf p (p.length-1-k)]);have h4:=uB (cV p q k) q;have h5:=cN [cf p (p.length-1-k)];simp only[List.length_cons,List.length_nil] at h5;have h6:=hq.len;by_cases hz:cV p q k=[];·rw[hz,cZ] at h3;simp only[List.length_nil] at h3;rw[hz,cZ];omega
  ·omega
theorem Bf{n b m c:Nat}{p q:List Rat}(hp:Sml n b p)(hq:Sml m c q)(pp:Pol p)(pq:Pol q)(hnm:n*m<=98)(hb:b<=100000)(hc:c<=100000)(hn:n<=98)(hm:m<=98):bR yD fH (txP p) (txP q):=by
 have e1:QM=400000000:=rfl;have e2:QC=100000000000:=rfl;have e3:QL=1000000000:=rfl;have e4:QH=40000000000:=rfl;have hlp:=hp.len;have hlq:=hq.len;have key:∀k,k<=n->Den 19700000 (cV p q k)/\(cV p q k).length<=99:=by
  intro k hk;obtain⟨h1,h2⟩:=pE hp hq (by omega) k hk;have h3:k*(b+c+2)<=98*200002:=Nat.mul_le_mul (by omega) (by omega);have h4:k*m<=n*m:=Nat.mul_le_mul_right _ hk;exact⟨h1.mono (by omega),by omega⟩
 refine jK pp pq ⟨pp.enc_ok (by omega),by rw[aE];omega,fun k hk=>?_⟩ ?_ ?_
 ·rw[aE] at hk ⊢;rw[aI,aI];obtain⟨h1,h2⟩:=key k (by omega);have h5:=den_mul h1 hq.den (by omega);refine⟨h1.sz (by omega),pq.enc_ok (by omega),by rw[aE];omega,by rw[aE];omega,b9 _,?_,?_⟩;·rw[aP];exact Nat.le_trans (gg pp.lq (by omega) _) (by omega)
  ·rw[aI,aI];exact h5.sz (by omega)
 ·intro x hx;have:=(key p.length (by omega)).1.lq x hx;omega
 ·have:=(key p.length (by omega)).2;show (cV p q p.length).length<=_;omega
def smB(n K:Nat)(p:List (List UInt8)):Bool:=decide (bG p=0)&&decide (p.length<=n)&&p.all (fun q=>decide (q.length<=10000))&&(bj p).all fun x=>decide (lq x<=K)
theorem c7{n K:Nat}{p:List (List UInt8)}(h:smB n K p=true)(hn:n<=41)(hK:1<=K):Pol (bj p)/\txP (bj p)=p/\Sml n (n*K+1) (bj p):=by
 unfold smB at h;simp only[Bool.and_eq_true,decide_eq_true_iff,List.all_eq_true] at h;obtain⟨⟨⟨h1,h2⟩,h3⟩,h4⟩:=h;have hs:de p:=⟨by unfold QL;omega,fun q hq=>by have:=h3 q hq;unfold QL;omega⟩;obtain⟨t1,t2,t3,t4⟩:=FT hs h1;have hl:(bj p).length=p.length:=by rw[<- t1,aR,t1]
 exact⟨⟨t2,t3,t4⟩,t1,DT (by omega) t3 hK h4⟩
theorem US{n K:Nat}{p q:List (List UInt8)}(hp:smB n K p=true)(hq:smB n K q=true)(hn:n<=41:=by decide)(hK:1<=K:=by decide):bR (fun p q=>Sz QH p/\Sz QH q/\p.length<=1000/\q.length<=1000) (br (· + ·)) p q:=by
 have h:=Q7 (c7 hp hn hK).1 (c7 hq hn hK).1;rwa [(c7 hp hn hK).2.1,(c7 hq hn hK).2.1] at h
theorem UT{n K:Nat}{p q:List (List UInt8)}(hp:smB n K p=true)(hq:smB n K q=true)(hn:n<=41:=by decide)(hK:1<=K:=by decide):bR (fun p q=>Sz QH p/\Sz QH q/\p.length<=1000/\q.length<=1000) (br (· - ·)) p q:=by
 have h:=Q8 (c7 hp hn hK).1 (c7 hq hn hK).1;rwa [(c7 hp hn hK).2.1,(c7 hq hn hK).2.1] at h
theorem UU{n K:Nat}{p q:List (List UInt8)}(hp:smB n K p=true)(hq:smB n K q=true)(hn:n<=41:=by decide)(hK:1<=K:=by decide):bR (fun p q=>Sz QM p/\Sz QM q/\p.length<=100/\q.length<=100) cB p q:=by
 have h:=Q9 (c7 hp hn hK).1 (c7 hq hn hK).1;rwa [(c7 hp hn hK).2.1,(c7 hq hn hK).2.1] at h
theorem N5{n K:Nat}{p q:List (List UInt8)}(hp:smB n K p=true)(hq:smB n K q=true)(hb:(max (n*K+1) (n*K+1)+1)*(n+2)*3^n<=QD:=by decide)(hn:n<=41:=by decide)(hK:1<=K:=by decide):bR kg cd p q:=by
 have h:=(F3 (c7 hp hn hK).2.2 (c7 hq hn hK).2.2 (c7 hp hn hK).1 (c7 hq hn hK).1 hb).1;rwa [(c7 hp hn hK).2.1,(c7 hq hn hK).2.1] at h
theorem UV{n K:Nat}{p:List (List UInt8)}(hp:smB n K p=true)(hn:n<=41:=by decide)(hK:1<=K:=by decide):bR (fun p _=>Sz QH p/\p.length<=1000) (fun a _=>bl a) p []:=by
 have h:=F5 (c7 hp hn hK).1;rwa [(c7 hp hn hK).2.1] at h
theorem Rw{l:List Rat}{n b:Nat}(h:Sml n b l)(hn:n<=41)(hb:b<=220):Pol (bl l):=(h.der (by omega)).pol (by omega) (by omega)
theorem F6{n b:Nat}{l:List Rat}(hl:Sml n b l)(hn:n<=41)(hb:b<=220)(hK:b+(n+1)*((b+2)*(n+2)*3^(n-1)+1)<=QD):bR (fun p _=>mE p) (fun a _=>bO a) (txP l) []:=by
 have pl:=hl.pol hn (by omega);have pd:=Rw hl hn hb;have e:max b (b+1)+1=b+2:=by omega
 have hle:(b+2)*(n+2)*3^(n-1)<=QD:=by
  have:1*((b+2)*(n+2)*3^(n-1)+1)<=(n+1)*((b+2)*(n+2)*3^(n-1)+1):=Nat.mul_le_mul_right _ (by omega);omega
 obtain⟨_,g1,g2⟩:=F3 hl (hl.der (by omega)) pl pd (by rw[e];exact hle);rw[e] at g2;exact Ru hl pl g1 g2 hK
theorem SJ{n K:Nat}{p:List (List UInt8)}(hp:smB n K p=true)(hb:n*K+1<=220:=by decide)(hq:(n*K+1)+(n+1)*((n*K+1+2)*(n+2)*3^(n-1)+1)<=QD:=by decide)(hn:n<=41:=by decide)(hK:1<=K:=by decide):bR (fun p _=>mE p) (fun a _=>bO a) p []:=by
 have h:=F6 (c7 hp hn hK).2.2 hn hb hq;rwa [(c7 hp hn hK).2.1] at h
theorem TP{n m K:Nat}{p q:List (List UInt8)}(hp:smB n K p=true)(hq:smB m K q=true)(hnm:n*m<=98:=by decide)(hb:n*K+1<=100000:=by decide)(hc:m*K+1<=100000:=by decide)(hn:n<=41:=by decide)(hm:m<=41:=by decide)(hK:1<=K:=by decide):sj p q:=by
 have h1:=c7 hp hn hK;have h2:=c7 hq hm hK;have h:=Bf h1.2.2 h2.2.2 h1.1 h2.1 hnm hb hc (by omega) (by omega);rw[h1.2.1,h2.2.1] at h;have s1:=h1.1.short;have s2:=h2.1.short;rw[h1.2.1] at s1;rw[h2.2.1] at s2;exact⟨s1,s2,fun _=>h⟩
theorem DU{n K:Nat}{p q:List (List UInt8)}(hp:smB n K p=true)(hq:smB n K q=true)(hn:n<=41:=by decide)(hK:1<=K:=by decide)(hb:K<=2000:=by decide):NP p q:=by
 have e1:QD=10000000000:=rfl;have e2:QC=100000000000:=rfl;have e3:QL=1000000000:=rfl;obtain⟨p1,p2,p3⟩:=c7 hp hn hK;obtain⟨q1,q2,q3⟩:=c7 hq hn hK;have s1:=p1.short;have s2:=q1.short;rw[p2] at s1;rw[q2] at s2;refine⟨s1,s2,fun _ h0=>?_⟩;have hlp:=p3.len;have hlq:=q3.len;have hnK:n*K<=41*2000:=Nat.mul_le_mul hn hb;have hbd:n*K+1+((bj p).length+1-(bj q).length)*(n*K+1+1)<=4000000:=by
  have:((bj p).length+1-(bj q).length)*(n*K+1+1)<=42*82002:=Nat.mul_le_mul (by omega) (by omega);omega
 obtain⟨k1,k2⟩:=pz (K:=4000000) p3.den q3.den h0 q3.trm hbd (by omega);have hs:=ev (p:=bj p) (List.length_pos_iff.2 h0) (q3.trm h0);refine⟨Nt (b:=n*K+1) (c:=n*K+1) (lI _) (lI _) (by rw[aI];exact p3.den) (by rw[aI];exact q3.den) (by rw[aE];omega) (by rw[aE];omega) (by rw[aE];exact List.length_pos_iff.2 h0) (by rw[aI];exact q3.trm) (by rw[aE,aE];omega) (by omega),⟨gJ fun x hx=>by have:=k1 x hx;omega,by rw[aE,kO];omega⟩,k2.sz (by omega),by rw[aE];omega⟩
theorem N6{n K:Nat}{p:List (List UInt8)}{x:List UInt8}(hp:smB n K p=true)(hx:x.length<=3000)(hn:n<=41:=by decide)(hK:1<=K:=by decide):F0 p x:=by
 have e1:QM=400000000:=rfl;have e2:QL=1000000000:=rfl;have e3:QC=100000000000:=rfl;obtain⟨p1,p2,p3⟩:=c7 hp hn hK;have s1:=p1.short;rw[p2] at s1;refine⟨s1,by omega,fun h1 h2=>?_⟩;have hxl:lq (aU x)<=2000:=FV (qM h2 (by omega)).2;have h3:=px p1.lq hxl;have h4:(bj p).length*(2*2000+1)<=41*(2*2000+1):=Nat.mul_le_mul_right _ p1.len;exact⟨p1.enc_ok (by omega),by have:=p1.len;omega,by omega,by omega⟩
end Go.Cm
end
section
namespace Go.Cm
open Go.Proofs
def dy(f:Nat->Rat):Nat->Rat
 |0=>0
 |n+1=>dy f n+f n
theorem fj{f g:Nat->Rat}:∀n,(∀i,i<n->f i=g i)->dy f n=dy g n
 |0,_=>rfl
 |n+1,h=>by rw[dy,dy,fj n fun i hi=>h i (by omega),h n (by omega)]
theorem F7(p q:List Rat)(hq:0<q.length)(n:Nat):∀i,i<=p.length->cf (mulN p q i) n=dy (fun k=>if k<=n then cf p k*cf q (n-k) else 0) i
 |0,_=>by
  rw[mulN,dy];unfold cf;rw[List.getD_eq_getElem?_getD,List.getElem?_replicate];split<;>rfl
 |i+1,h=>by
  rw[mulN,kf _ _ _ _ _ _ (by rw[dZ];omega),dy,<- F7 p q hq n i (by omega)];by_cases h1:i<=n/\n<i+q.length;·rw[if_pos h1,if_pos h1.1]
  ·(rw[if_neg h1];by_cases h2:i<=n;·rw[if_pos h2,bh (l:=q) (by omega)];grind);·rw[if_neg h2];grind
theorem Rx(p q:List Rat)(n:Nat):cf (cB p q) n=dy (fun k=>if k<=n then cf p k*cf q (n-k) else 0) p.length:=by
 by_cases hp:p=[]
 ·subst hp;rw[cZ];rfl
 by_cases hq:q=[]
 ·subst hq;rw[ew,bh (by simp)];have:∀m,dy (fun k=>if k<=n then cf p k*cf [] (n-k) else 0) m=0:=by
   intro m;induction m with
   |zero=>rfl
   |succ m ih=>
    (rw[dy,ih];split;·rw[bh (l:=[]) (by simp)];grind);·grind
  exact(this _).symm
 ·rw[se hp hq,F7 p q (List.length_pos_iff.2 hq) n _ (Nat.le_refl _)]
def Prm(P:Int):Prop:=1<P/\∀a b:Int,P∣a*b->P∣a∨P∣b
theorem TQ{K:Nat}(h:1<K):∃P:Int,Prm P/\P∣(K:Int):=by
 have hex:∃d,1<d/\d∣K:=⟨K,h,Nat.dvd_refl K⟩;obtain⟨d,⟨h1,h2⟩,hmin⟩:∃d,(1<d/\d∣K)/\∀e,e<d-> ¬(1<e/\e∣K):=by
  have key:∀n,(∃d,d<=n/\1<d/\d∣K)->∃d,(1<d/\d∣K)/\∀e,e<d-> ¬(1<e/\e∣K):=by
   intro n;induction n with
   |zero=>rintro⟨d,hd,h1,_⟩;omega
   |succ n ih=>
    (rintro⟨d,hd,h1,h2⟩;by_cases hl:∃d,d<=n/\1<d/\d∣K;·exact ih hl);·exact⟨d,⟨h1,h2⟩,fun e he hc=>hl ⟨e,by omega,hc⟩⟩
  exact key K ⟨K,Nat.le_refl K,h,Nat.dvd_refl K⟩
 refine⟨(d:Int),⟨by omega,fun a b hab=>?_⟩,Int.natCast_dvd_natCast.2 h2⟩;by_cases ha:(d:Int)∣a;·exact .inl ha
 ·right;have hab':d∣a.natAbs*b.natAbs:=by
   have:=Int.natAbs_dvd_natAbs.2 hab;rwa [Int.natAbs_natCast,Int.natAbs_mul] at this
  have hg:Nat.gcd d a.natAbs=1:=by
   have g1:Nat.gcd d a.natAbs∣d:=Nat.gcd_dvd_left _ _;have g2:Nat.gcd d a.natAbs∣a.natAbs:=Nat.gcd_dvd_right _ _;have g3:0<Nat.gcd d a.natAbs:=Nat.gcd_pos_of_pos_left _ (by omega);by_cases hlt:Nat.gcd d a.natAbs<d
   ·(have:=hmin _ hlt;by_cases h1g:1<Nat.gcd d a.natAbs;·exact absurd ⟨h1g,Nat.dvd_trans g1 h2⟩ this);·omega
   ·exfalso;(have e:Nat.gcd d a.natAbs=d:=by have:=Nat.le_of_dvd (by omega) g1;omega);rw[e] at g2;exact ha (Int.natAbs_dvd_natAbs.1 (by rwa [Int.natAbs_natCast]))
  have hcop:Nat.Coprime d a.natAbs:=hg;have:=hcop.dvd_of_dvd_mul_left hab';exact Int.natAbs_dvd_natAbs.1 (by rwa [Int.natAbs_natCast])
def nJ(f:Nat->Int):Nat->Int
 |0=>0
 |n+1=>nJ f n+f n
def conv(M S:Nat->Int)(n:Nat):Int:=nJ (fun k=>M k*S (n-k)) (n+1)
theorem Bg{P:Int}{f:Nat->Int}:∀n,(∀i,i<n->P∣f i)->P∣nJ f n
 |0,_=>⟨0,by rw[nJ];simp⟩
 |n+1,h=>Int.dvd_add (Bg n fun i hi=>h i (by omega)) (h n (by omega))
theorem Bh{P:Int}{f:Nat->Int}{i0:Nat}:∀n,i0<n->(∀i,i<n->i≠i0->P∣f i)->P∣nJ f n->P∣f i0
 |0,h,_,_=>absurd h (by omega)
 |n+1,h,hd,hs=>by
  rw[nJ] at hs;by_cases e:i0=n;·subst e;have h1:P∣nJ f i0:=Bg _ fun i hi=>hd i (by omega) (by omega);exact(Int.dvd_add_right h1).1 hs
  ·have h1:=hd n (by omega) (fun e2=>e e2.symm);exact Bh n (by omega) (fun i hi hne=>hd i (by omega) hne) ((Int.dvd_add_left h1).1 hs)
theorem xc{p:Nat->Prop}(h:¬ ∀i,p i):∃i,¬p i/\∀j,j<i->p j:=by
 obtain⟨n,hn⟩:=Classical.not_forall.1 h;have key:∀n,(∃i,i<=n/\ ¬p i)->∃i,¬p i/\∀j,j<i->p j:=by
  intro n;induction n with
  |zero=>rintro⟨i,hi,h⟩;exact⟨i,h,fun j hj=>by omega⟩
  |succ n ih=>
   (rintro⟨i,hi,h⟩;by_cases hl:∃i,i<=n/\ ¬p i;·exact ih hl);·exact⟨i,h,fun j hj=>Classical.not_not.1 fun e=>hl ⟨j,by omega,e⟩⟩
 exact key n ⟨n,Nat.le_refl n,hn⟩
theorem UW{P:Int}(hP:Prm P){M S:Nat->Int}(h:∀n,P∣conv M S n):(∀i,P∣M i)∨∀i,P∣S i:=by
 by_cases hM:∀i,P∣M i
 ·exact .inl hM
 by_cases hS:∀i,P∣S i
 ·exact .inr hS
 exfalso;obtain⟨i0,a1,a2⟩:=xc hM;obtain⟨j0,b1,b2⟩:=xc hS;have h1:=h (i0+j0);unfold conv at h1
 have h2:=Bh (i0:=i0) (i0+j0+1) (by omega) (fun i hi hne=>by
  by_cases hl:i<i0
  ·obtain⟨c,hc⟩:=a2 i hl;exact⟨c*S (i0+j0-i),by rw[hc];grind⟩
  ·obtain⟨c,hc⟩:=b2 (i0+j0-i) (by omega);exact⟨M i*c,by rw[hc];grind⟩) h1
 simp only[show i0+j0-i0=j0 by omega] at h2;rcases hP.2 _ _ h2 with h3|h3;·exact a1 h3
 ·exact b1 h3
def uP(M:Nat->Int):Prop:=∀P,Prm P-> ¬ ∀i,P∣M i
theorem Bi(c:Int)(f:Nat->Int):∀n,nJ (fun k=>c*f k) n=c*nJ f n
 |0=>by simp[nJ]
 |n+1=>by rw[nJ,nJ,Bi c f n];grind
theorem oD(c:Int)(M S:Nat->Int)(n:Nat):conv M (fun i=>c*S i) n=c*conv M S n:=by
 unfold conv
 rw[<- Bi];congr 1;funext k;grind
theorem Bj{M:Nat->Int}(hM:uP M):∀(K:Nat),0<K->∀(S A:Nat->Int),(∀n,conv M S n=(K:Int)*A n)->∃T:Nat->Int,(∀n,conv M T n=A n)/\∀i,(K:Int)*T i=S i:=by
 intro K;induction K using Nat.strongRecOn with
 |ind K ih=>
  intro hK S A h;by_cases h1:K=1;·subst h1;exact⟨S,fun n=>by rw[h];simp,fun i=>by simp⟩
  ·obtain⟨P,hP,hd⟩:=TQ (show 1<K by omega);have hS:∀i,P∣S i:=by
    (rcases UW hP (fun n=>by rw[h];exact Int.dvd_trans hd (Int.dvd_mul_right _ _)) with h2|h2;·exact absurd h2 (hM P hP));·exact h2
   obtain⟨c,hc⟩:=hd;(have hP0:P≠0:=by have:=hP.1;omega);have hcp:0<c:=by
    (have:0<P*c:=by omega);exact Int.pos_of_mul_pos_right this (by have:=hP.1;omega)|>fun h=>h
   have hcK:c.toNat<K:=by
    have h4:c<P*c:=by
     have:=Int.mul_lt_mul_of_pos_right hP.1 hcp;omega
    omega
   suffices hT:∃T:Nat->Int,(∀n,conv M T n=A n)/\∀i,(c.toNat:Int)*T i=S i/P by
    obtain⟨T,t1,t2⟩:=hT;refine⟨T,t1,fun i=>?_⟩;have t3:=t2 i;rw[Int.toNat_of_nonneg (by omega)] at t3;rw[hc,Int.mul_assoc,t3];exact Int.mul_ediv_cancel' (hS i)
   refine ih c.toNat hcK (by omega) (fun i=>S i/P) A fun n=>?_;have h5:conv M (fun i=>P*(S i/P)) n=conv M S n:=by
    congr 1;funext i;exact Int.mul_ediv_cancel' (hS i)
   rw[oD,h,hc] at h5;(have h6:P*conv M (fun i=>S i/P) n=P*(c*A n):=by rw[h5];grind);have h7:=Int.eq_of_mul_eq_mul_left hP0 h6;rw[h7,Int.toNat_of_nonneg (by omega)]
end Go.Cm
namespace Go.Cm
open Go.Proofs
theorem Ry{n:Int}{D:Int}:Rat.divInt n D*(D:Rat)=(n:Rat)∨D=0:=by
 by_cases h:D=0
 ·exact .inr h
 ·left;rw[Rat.divInt_eq_div];have:(D:Rat)≠0:=by simpa using h
  grind
theorem yI{b:Nat}{l:List Rat}(h:Den b l):∃(D:Int) (A:Nat->Int),D≠0/\lw D<=b/\(∀i,lw (A i)<=b)/\∀i,cf l i*(D:Rat)=(A i:Rat):=by
 obtain⟨D,d1,d2,d3⟩:=h;refine⟨D,fun i=>Classical.choose (d3 i),d1,d2,fun i=>(Classical.choose_spec (d3 i)).1,fun i=>?_⟩;rw[(Classical.choose_spec (d3 i)).2];rcases Ry (n:=Classical.choose (d3 i)) (D:=D) with h|h;·exact h
 ·exact absurd h d1
theorem xd(f:Nat->Int)(g:Nat->Rat):∀n,(∀i,i<n->g i=(f i:Rat))->dy g n=(nJ f n:Rat)
 |0,_=>by simp[dy,nJ]
 |n+1,h=>by rw[dy,nJ,xd f g n fun i hi=>h i (by omega),h n (by omega)];simp
theorem pF(c:Rat)(f:Nat->Rat):∀n,dy (fun k=>c*f k) n=c*dy f n
 |0=>by simp[dy]
 |n+1=>by rw[dy,dy,pF c f n];grind
theorem ny(f:Nat->Rat){n:Nat}:∀m,n<=m->(∀i,n<=i->f i=0)->dy f m=dy f n
 |0,h,_=>by rw[show n=0 by omega]
 |m+1,h,h0=>by
  by_cases e:n=m+1
  ·rw[e]
  ·rw[dy,ny f m (by omega) h0,h0 m (by omega)];grind
theorem J3(p q:List Rat)(n:Nat):cf (cB p q) n=dy (fun k=>cf p k*cf q (n-k)) (n+1):=by
 rw[Rx];have e1:dy (fun k=>if k<=n then cf p k*cf q (n-k) else 0) p.length=dy (fun k=>if k<=n then cf p k*cf q (n-k) else 0) (max p.length (n+1)):=by
  refine(ny _ _ (by omega) fun i hi=>?_).symm;rw[bh (l:=p) hi];split<;>grind
 have e2:dy (fun k=>if k<=n then cf p k*cf q (n-k) else 0) (n+1)=dy (fun k=>if k<=n then cf p k*cf q (n-k) else 0) (max p.length (n+1)):=by
  refine(ny _ _ (by omega) fun i hi=>?_).symm;rw[if_neg (by omega)]
 rw[e1,<- e2];exact fj _ fun i hi=>by rw[if_pos (by omega)]
theorem Rz{m:List Rat}(hm:m≠[])(tm:Trm m):∃(c:Rat) (M:Nat->Int),c≠0/\uP M/\∀i,cf m i*c=(M i:Rat):=by
 have hp:=List.length_pos_iff.2 hm;have hl:=tm hm;rw[bD hp] at hl;have hK:∃K,1<=K/\∀x∈m,Cm.lq x<=K:=by
  refine⟨m.foldr (fun x k=>max (lq x) k) 1,?_,?_⟩
  ·clear hm tm hp hl;induction m with
   |nil=>simp
   |cons x l ih=>simp only[List.foldr_cons];omega
  ·clear hm tm hp hl;induction m with
   |nil=>simp
   |cons x l ih=>
    (intro y hy;simp only[List.foldr_cons];rcases List.mem_cons.1 hy with rfl|hy;·omega);·have:=ih y hy;omega
 obtain⟨K,k1,k2⟩:=hK;obtain⟨D,A,d1,_,_,d4⟩:=yI (pD k1 m k2);have hD:(D:Rat)≠0:=by simpa using d1
 have key:∀(N:Nat) (c:Rat) (A:Nat->Int),c≠0->(∀i,cf m i*c=(A i:Rat))->(A (m.length-1)).natAbs<=N->∃(c:Rat) (M:Nat->Int),c≠0/\uP M/\∀i,cf m i*c=(M i:Rat):=by
  intro N;induction N with
  |zero=>
   (intro c A hc hA h0;exfalso;have h1:=hA (m.length-1);rw[show A (m.length-1)=0 by omega] at h1;rcases Rat.mul_eq_zero.1 h1 with h2|h2;·exact hl h2);·exact hc h2
  |succ N ih=>
   intro c A hc hA hN;by_cases hP:uP A;·exact⟨c,A,hc,hP,hA⟩
   ·obtain⟨P,h1⟩:=Classical.not_forall.1 hP;have h2:Prm P/\∀i,P∣A i:=by
     (constructor;·exact Classical.not_not.1 fun e=>h1 fun h=>absurd h e);·exact Classical.not_not.1 fun e=>h1 fun _=>e
    obtain⟨h2,h3⟩:=h2;(have hP0:P≠0:=by have:=h2.1;omega);(have hPr:(P:Rat)≠0:=by simpa using hP0);refine ih (c/P) (fun i=>A i/P) (by intro e;exact hc (by grind)) (fun i=>?_) ?_;·have h4:P*(A i/P)=A i:=Int.mul_ediv_cancel' (h3 i);(have h5:(P:Rat)*((A i/P:Int):Rat)=(A i:Rat):=by rw[<- Rat.intCast_mul,h4]);have h6:=hA i;(have h7:cf m i*(c/P)*P=((A i/P:Int):Rat)*P:=by grind);grind
    ·have hne:A (m.length-1)≠0:=by
      (intro e;have h8:=hA (m.length-1);rw[e] at h8;rcases Rat.mul_eq_zero.1 h8 with h9|h9;·exact hl h9);·exact hc h9
     have h4:P*(A (m.length-1)/P)=A (m.length-1):=Int.mul_ediv_cancel' (h3 _);(have h5:P.natAbs*(A (m.length-1)/P).natAbs=(A (m.length-1)).natAbs:=by rw[<- Int.natAbs_mul,h4]);(have h6:2<=P.natAbs:=by have:=h2.1;omega);have h7:2*(A (m.length-1)/P).natAbs<=P.natAbs*(A (m.length-1)/P).natAbs:=Nat.mul_le_mul_right _ h6;show (A (m.length-1)/P).natAbs<=N;omega
 exact key _ (D:Rat) A hD d4 (Nat.le_refl _)
theorem J4{m s a:List Rat}(ha:cB m s=a){c:Rat}{M:Nat->Int}(hc:c≠0)(hM:uP M)(hm:∀i,cf m i*c=(M i:Rat)){D:Int}(hD:D≠0){A:Nat->Int}(hA:∀i,cf a i*(D:Rat)=(A i:Rat)):∃T:Nat->Int,∀i,cf s i*(D:Rat)=c*(T i:Rat):=by
 have hK:∃K,1<=K/\∀x∈s,Cm.lq x<=K:=by
  refine⟨s.foldr (fun x k=>max (lq x) k) 1,?_,?_⟩
  ·clear ha;induction s with
   |nil=>simp
   |cons x l ih=>simp only[List.foldr_cons];omega
  ·clear ha;induction s with
   |nil=>simp
   |cons x l ih=>
    (intro y hy;simp only[List.foldr_cons];rcases List.mem_cons.1 hy with rfl|hy;·omega);·have:=ih y hy;omega
 obtain⟨K,k1,k2⟩:=hK;obtain⟨E,S,e1,_,_,e4⟩:=yI (pD k1 s k2);have h1:∀n,(conv M S n:Rat)=cf a n*(c*E):=by
  intro n;have h2:dy (fun k=>cf m k*c*(cf s (n-k)*E)) (n+1)=((nJ (fun k=>M k*S (n-k)) (n+1):Int):Rat):=xd (fun k=>M k*S (n-k)) _ _ fun i _=>by rw[hm,e4,Rat.intCast_mul]
  have h3:dy (fun k=>cf m k*c*(cf s (n-k)*E)) (n+1)=(c*E)*dy (fun k=>cf m k*cf s (n-k)) (n+1):=by
   rw[<- pF];exact fj _ fun i _=>by grind
  rw[<- J3,ha] at h3;unfold conv
  rw[<- h2,h3];grind
 have hE:(E:Rat)≠0:=by simpa using e1
 have hDr:(D:Rat)≠0:=by simpa using hD
 have hv:=ff c;have hu:=uc hc;have h4:∀n,conv M (fun i=>(D*c.den)*S i) n=(c.num*E)*A n:=by
  intro n;rw[oD];have h5:(((D*c.den)*conv M S n:Int):Rat)=(((c.num*E)*A n:Int):Rat):=by
   rw[Rat.intCast_mul,Rat.intCast_mul,Rat.intCast_mul,Rat.intCast_mul,h1,<- hA];have h6:c*((c.den:Int):Rat)=(c.num:Rat):=by
    (have:=Rat.num_divInt_den c;rw[Rat.divInt_eq_div] at this;(have hvr:((c.den:Int):Rat)≠0:=by simpa using hv);conv=>lhs;arg 1;rw[<- this]);grind
   rw[<- h6];grind
  exact_mod_cast h5
 have hKE:c.num*E≠0:=Int.mul_ne_zero hu e1;have h6:c*((c.den:Int):Rat)=(c.num:Rat):=by
  have:=Rat.num_divInt_den c;rw[Rat.divInt_eq_div] at this;have hvr:((c.den:Int):Rat)≠0:=by simpa using hv
  conv=>lhs;arg 1;rw[<- this]
  grind
 have hvr:((c.den:Int):Rat)≠0:=by simpa using hv
 have fin:∀T:Nat->Int,(∀i,(c.num*E)*T i=(D*c.den)*S i)->∀i,cf s i*(D:Rat)=c*(T i:Rat):=by
  intro T hT i;have h7:(((c.num*E)*T i:Int):Rat)=(((D*c.den)*S i:Int):Rat):=by rw[hT]
  rw[Rat.intCast_mul,Rat.intCast_mul,Rat.intCast_mul,Rat.intCast_mul,<- e4 i,<- h6] at h7;have h8:((c.den:Int):Rat)*(E:Rat)*(cf s i*(D:Rat)-c*(T i:Rat))=0:=by grind
  rcases Rat.mul_eq_zero.1 h8 with h9|h9
  ·(rcases Rat.mul_eq_zero.1 h9 with h10|h10;·exact absurd h10 hvr);·exact absurd h10 hE
  ·grind
 by_cases hpos:0<c.num*E
 ·obtain⟨T,_,t2⟩:=Bj hM (c.num*E).toNat (by omega) _ A fun n=>by rw[h4 n,Int.toNat_of_nonneg (by omega)]
  refine⟨T,fin T fun i=>?_⟩;have:=t2 i;rwa [Int.toNat_of_nonneg (by omega)] at this
 ·obtain⟨T,_,t2⟩:=Bj hM (-(c.num*E)).toNat (by omega) (fun i=>(-1)*((D*c.den)*S i)) A fun n=>by
   rw[oD (-1) M (fun i=>(D*c.den)*S i),h4 n,Int.toNat_of_nonneg (by omega)];grind
  refine⟨T,fin T fun i=>?_⟩;have:=t2 i;rw[Int.toNat_of_nonneg (by omega)] at this;grind
end Go.Cm
end
section
namespace Go.Cm
open Go.Proofs
def sdQ(x0:Rat):List Rat->List Rat
 | []=>[]
 |_:: []=>[]
 |_::a::l=>au (a::l) x0::sdQ x0 (a::l)
theorem DV(x0:Rat):∀l:List Rat,(sdQ x0 l).length=l.length-1
 | []=>rfl
 | [_]=>rfl
 |c::a::l=>by
  have:=DV x0 (a::l);simp only[sdQ,List.length_cons] at this ⊢;omega
theorem N7(x0 x:Rat):∀l:List Rat,au l x-au l x0=(x-x0)*au (sdQ x0 l) x
 | []=>by simp only[sdQ,cH];grind
 | [c]=>by simp only[sdQ,iW,cH];grind
 |c::a::l=>by
  have:=N7 x0 x (a::l);rw[c9 c (a::l) x,c9 c (a::l) x0,sdQ,c9 (au (a::l) x0)];grind
theorem F8(x0:Rat):∀l:List Rat,2<=l.length->aB (sdQ x0 l)=aB l
 | [],h=>by simp at h
 | [_],h=>by simp at h
 | [c,a],_=>by simp[sdQ,aB,au];grind
 |c::a::b::l,_=>by
  have:=F8 x0 (a::b::l) (by simp);have h2:sdQ x0 (a::b::l)≠[]:=by simp[sdQ]
  have e1:aB (sdQ x0 (c::a::b::l))=aB (sdQ x0 (a::b::l)):=by
   rw[sdQ];unfold aB;cases h3:sdQ x0 (a::b::l) with
   |nil=>exact absurd h3 h2
   |cons y m=>simp
  rw[e1,this];unfold aB;simp
theorem SK(x0:Rat):∀(l:List Rat) (i:Nat),cf l (i+1)=cf (sdQ x0 l) i-x0*cf (sdQ x0 l) (i+1)
 | [],i=>by simp only[sdQ];have:∀j,cf [] j=0:=fun j=>bh (by simp);simp only[this];grind
 | [c],i=>by simp only[sdQ];rw[bh (l:=[c]) (by simp),bh (l:=[]) (by simp),bh (l:=[]) (by simp)];grind
 |c::a::l,i=>by
  have e1:cf (c::a::l) (i+1)=cf (a::l) i:=by simp[cf]
  have e2:cf (sdQ x0 (c::a::l)) (i+1)=cf (sdQ x0 (a::l)) i:=by simp[sdQ,cf]
  rw[e1,e2];cases i with
  |zero=>
   (have e3:cf (sdQ x0 (c::a::l)) 0=au (a::l) x0:=by simp[sdQ,cf]);(have e4:cf (a::l) 0=a:=by simp[cf]);rw[e3,e4,c9];cases l with
   |nil=>simp only[sdQ,cH];rw[bh (l:=[]) (by simp)];grind
   |cons b l=>
    (have e5:cf (sdQ x0 (a::b::l)) 0=au (b::l) x0:=by simp[sdQ,cf]);rw[e5];grind
  |succ i=>
   (have e3:cf (sdQ x0 (c::a::l)) (i+1)=cf (sdQ x0 (a::l)) i:=by simp[sdQ,cf]);rw[e3];exact SK x0 (a::l) i
theorem TR(x0:Rat)(l:List Rat):cf l 0=au l x0-x0*cf (sdQ x0 l) 0:=by
 match l with
 | []=>simp only[sdQ,cH];rw[bh (l:=[]) (by simp)];grind
 | [c]=>simp only[sdQ,iW];rw[bh (l:=[]) (by simp)];simp[cf];grind
 |c::a::l=>
  have e1:cf (c::a::l) 0=c:=by simp[cf]
  have e2:cf (sdQ x0 (c::a::l)) 0=au (a::l) x0:=by simp[sdQ,cf]
  rw[e1,e2,c9];grind
theorem xe:∀(n:Nat) (l:List Rat),l.length=n->l≠[]->Trm l->∀xs:List Nat,xs.Nodup->(∀x∈xs,au l (x:Rat)=0)->xs.length<l.length
 |0,l,hn,h,_,_,_,_=>absurd (List.eq_nil_of_length_eq_zero hn) h
 |n+1,l,hn,h,t,xs,hd,hr=>by
  cases xs with
  |nil=>simp only[List.length_nil];omega
  |cons x0 xs=>
   have h0:=hr x0 (by simp);have hnd:=List.nodup_cons.1 hd;by_cases h1:l.length=1
   ·exfalso;match l,h1 with
    | [c],_=>
     rw[iW] at h0;exact t (by simp) (by simpa [aB] using h0)
   ·(have h2:2<=l.length:=by omega);have hsl:=DV (x0:Rat) l;(have hsn:sdQ (x0:Rat) l≠[]:=fun e=>by rw[e] at hsl;simp at hsl;omega);(have hst:Trm (sdQ (x0:Rat) l):=fun _=>by rw[F8 _ _ h2];exact t h);have:=xe n (sdQ (x0:Rat) l) (by omega) hsn hst xs hnd.2 fun x hx=>by
     have e:=N7 (x0:Rat) (x:Rat) l;rw[hr x (by simp[hx]),h0] at e;have hne:((x:Rat)-(x0:Rat))≠0:=by
      intro e2;(have:(x:Rat)=(x0:Rat):=by grind);(have:x=x0:=by exact_mod_cast this);exact hnd.1 (this▸hx)
     (have e3:((x:Rat)-(x0:Rat))*au (sdQ (x0:Rat) l) x=0:=by grind);rcases Rat.mul_eq_zero.1 e3 with e4|e4;·exact absurd e4 hne
     ·exact e4
    simp only[List.length_cons];omega
theorem RA(a b:Rat):(a+b).abs<=a.abs+b.abs:=by unfold Rat.abs;split<;>split<;>split<;>grind
theorem yJ(a b:Rat):(a-b).abs<=a.abs+b.abs:=by unfold Rat.abs;split<;>split<;>split<;>grind
theorem pG(a b:Rat):(a*b).abs=a.abs*b.abs:=by
 by_cases ha:0<=a
 ·by_cases hb:0<=b
  ·rw[Rat.abs_of_nonneg ha,Rat.abs_of_nonneg hb,Rat.abs_of_nonneg (Rat.mul_nonneg ha hb)]
  ·have:=Rat.mul_nonneg ha (show 0<= -b by grind);rw[Rat.abs_of_nonneg ha,Rat.abs_of_nonpos (by grind:b<=0),Rat.abs_of_nonpos (by grind)];grind
 ·by_cases hb:0<=b
  ·have:=Rat.mul_nonneg (show 0<= -a by grind) hb;rw[Rat.abs_of_nonpos (by grind:a<=0),Rat.abs_of_nonneg hb,Rat.abs_of_nonpos (by grind)];grind
  ·have:=Rat.mul_nonneg (show 0<= -a by grind) (show 0<= -b by grind);rw[Rat.abs_of_nonpos (by grind:a<=0),Rat.abs_of_nonpos (by grind:b<=0),Rat.abs_of_nonneg (by grind)];grind
theorem N8:∀(n:Nat) (l:List Rat) (B:Rat) (xs:List Nat),0<=B->l.length<=n->n<=xs.length->xs.Nodup->(∀x∈xs,x<=32)->(∀x∈xs,(au l (x:Rat)).abs<=B)->∀i,(cf l i).abs<=(67:Rat)^n*B
 |0,l,B,xs,hB,hl,_,_,_,_,i=>by
  rw[bh (by omega),Rat.abs_zero,Rat.pow_zero];grind
 |n+1,l,B,xs,hB,hl,hx,hd,h32,hv,i=>by
  cases xs with
  |nil=>simp at hx
  |cons x0 xs=>
   have hnd:=List.nodup_cons.1 hd;have h0:=hv x0 (by simp);have hx0:=h32 x0 (by simp);(have hx0r:(x0:Rat)<=32:=by exact_mod_cast hx0);(have hx0p:(0:Rat)<=(x0:Rat):=by exact_mod_cast Nat.zero_le x0);have ih:=N8 n (sdQ (x0:Rat) l) (2*B) xs (by grind) (by rw[DV];omega) (by simpa using hx) hnd.2 (fun x hx=>h32 x (by simp[hx])) (fun x hx=>by
    have e:=N7 (x0:Rat) (x:Rat) l;have h1:=hv x (by simp[hx]);have h2:=yJ (au l (x:Rat)) (au l (x0:Rat));rw[e,pG] at h2;have h3:(1:Rat)<=((x:Rat)-(x0:Rat)).abs:=by
     have hne:x≠x0:=fun e2=>hnd.1 (e2▸hx);rcases Nat.lt_or_gt_of_ne hne with h4|h4
     ·(have:(x:Rat)+1<=(x0:Rat):=by exact_mod_cast h4);rw[Rat.abs_of_nonpos (by grind)];grind
     ·(have:(x0:Rat)+1<=(x:Rat):=by exact_mod_cast h4);rw[Rat.abs_of_nonneg (by grind)];grind
    have h5:(0:Rat)<=(au (sdQ (x0:Rat) l) (x:Rat)).abs:=Rat.abs_nonneg;have h6:=Rat.mul_le_mul_of_nonneg_right h3 h5;grind)
   have hp:(1:Rat)<=(67:Rat)^n:=by
    have:∀n:Nat,(1:Rat)<=(67:Rat)^n:=by
     intro n;induction n with
     |zero=>rw[Rat.pow_zero];grind
     |succ n ih=>rw[Rat.pow_succ];grind
    exact this n
   have hpB:B<=(67:Rat)^n*B:=by
    have:=Rat.mul_le_mul_of_nonneg_right hp hB;grind
   have key:∀(u v:Rat),u.abs<=(67:Rat)^n*(2*B)->v.abs<=(67:Rat)^n*(2*B)->(u-(x0:Rat)*v).abs<=(67:Rat)^(n+1)*B-B:=by
    intro u v hu hv';have h1:=yJ u ((x0:Rat)*v);rw[pG,Rat.abs_of_nonneg hx0p] at h1;have h2:(x0:Rat)*v.abs<=32*((67:Rat)^n*(2*B)):=by
     have a1:=Rat.mul_le_mul_of_nonneg_right hx0r (Rat.abs_nonneg (x:=v));have a2:=Rat.mul_le_mul_of_nonneg_left hv' (show (0:Rat)<=32 by grind);grind
    rw[Rat.pow_succ];generalize (67:Rat)^n=w at*;grind
   cases i with
   |zero=>
    rw[TR (x0:Rat) l];have h1:=yJ (au l (x0:Rat)) ((x0:Rat)*cf (sdQ (x0:Rat) l) 0);have h2:=key 0 (cf (sdQ (x0:Rat) l) 0) (by rw[Rat.abs_zero];grind) (ih 0);have h3:((0:Rat)-(x0:Rat)*cf (sdQ (x0:Rat) l) 0).abs=((x0:Rat)*cf (sdQ (x0:Rat) l) 0).abs:=by
     rw[show (0:Rat)-(x0:Rat)*cf (sdQ (x0:Rat) l) 0= -((x0:Rat)*cf (sdQ (x0:Rat) l) 0) by grind,Rat.abs_neg]
    grind
   |succ i=>
    rw[SK (x0:Rat) l i];have:=key _ _ (ih i) (ih (i+1));grind
def IsI(x:Rat):Prop:=∃n:Int,x=(n:Rat)
theorem N9{l:List Rat}(h:∀c∈l,IsI c)(x:Nat):IsI (au l (x:Rat)):=by
 induction l with
 |nil=>exact⟨0,by rw[cH];rfl⟩
 |cons c l ih=>
  obtain⟨a,ha⟩:=ih fun d hd=>h d (List.mem_cons_of_mem _ hd);obtain⟨b,hb⟩:=h c (List.mem_cons_self ..);refine⟨a*(x:Int)+b,?_⟩;rw[c9,ha,hb,Rat.intCast_add,Rat.intCast_mul,Rat.intCast_natCast]
theorem Oa{l:List Rat}{K:Rat}(hK:0<=K)(h:∀c∈l,c.abs<=K){x:Nat}(hx:x<=32):(au l (x:Rat)).abs<=K*(33:Rat)^l.length:=by
 have hxr:(x:Rat)<=32:=by exact_mod_cast hx
 have hxp:(0:Rat)<=(x:Rat):=by exact_mod_cast Nat.zero_le x
 induction l with
 |nil=>rw[cH,Rat.abs_zero];simp;grind
 |cons c l ih=>
  have h1:=ih fun d hd=>h d (List.mem_cons_of_mem _ hd);have h2:=h c (List.mem_cons_self ..);have hp:∀n:Nat,(1:Rat)<=(33:Rat)^n:=by
   intro n;induction n with
   |zero=>rw[Rat.pow_zero];grind
   |succ n ih=>rw[Rat.pow_succ];grind
  have h3:=hp l.length;have h4:K<=K*(33:Rat)^l.length:=by
   have:=Rat.mul_le_mul_of_nonneg_left h3 hK;grind
  rw[c9,List.length_cons,Rat.pow_succ];have h5:=RA (au l (x:Rat)*(x:Rat)) c;rw[pG,Rat.abs_of_nonneg hxp] at h5;have h6:=Rat.mul_le_mul_of_nonneg_left hxr (Rat.abs_nonneg (x:=au l (x:Rat)));generalize (33:Rat)^l.length=w at*;generalize (au l (x:Rat)).abs=v at*;have h7:v*(x:Rat)<=(K*w)*32:=by grind
  grind
theorem yK(n:Int):(n:Rat).abs=((n.natAbs:Nat):Rat):=by
 by_cases h:0<=n
 ·rw[Rat.abs_of_nonneg (by exact_mod_cast h)];have:n=(n.natAbs:Int):=by omega
  conv=>lhs;rw[this]
  rfl
 ·rw[Rat.abs_of_nonpos (by exact_mod_cast (by omega:n<=0))];have: -n=(n.natAbs:Int):=by omega
  rw[<- Rat.intCast_neg,this];rfl
theorem iO(c:Rat)(l:List Rat)(i:Nat):cf (l.map fun x=>x*c) i=cf l i*c:=by
 unfold cf;simp only[List.getD_eq_getElem?_getD,List.getElem?_map];cases l[i]? with
 |none=>simp
 |some x=>rfl
theorem iP(c:Rat)(l:List Rat)(x:Rat):au (l.map fun y=>y*c) x=au l x*c:=by
 induction l with
 |nil=>simp only[List.map_nil,cH];grind
 |cons a l ih=>simp only[List.map_cons,c9,ih];grind
theorem yL{l:List Rat}{y:Rat}(h:y∈l):∃i,i<l.length/\y=cf l i:=by
 obtain⟨i,hi,rfl⟩:=List.getElem_of_mem h;refine⟨i,hi,?_⟩;unfold cf;rw[List.getD_eq_getElem?_getD,List.getElem?_eq_getElem hi];rfl
theorem uQ(p:Nat->Bool):∀l:List Nat,(l.filter p).length+(l.filter fun x=> !p x).length=l.length
 | []=>rfl
 |a::l=>by
  have:=uQ p l;cases h:p a<;>simp[h]<;>omega
theorem lbr(k:Nat):(((LB^k:Int)):Rat)=(1000000000:Rat)^k:=by
 induction k with
 |zero=>simp
 |succ k ih=>rw[Int.pow_succ,Rat.intCast_mul,ih,Rat.pow_succ];rfl
theorem Bk{a m s:List Rat}{b:Nat}(ha:Sml 17 b a)(ha0:a≠[])(hm:cB m s=a)(tm:Trm m)(m1:aB m=1):Den (b+8) m:=by
 have hm0:m≠[]:=by rintro rfl;rw[cZ] at hm;exact ha0 hm.symm
 have hs0:s≠[]:=by rintro rfl;rw[ew] at hm;exact ha0 hm.symm
 have hmp:=List.length_pos_iff.2 hm0;have hsp:=List.length_pos_iff.2 hs0;have hlen:m.length<=17:=by
  have:=dI hm0 hs0;rw[hm] at this;have:=ha.len;omega
 obtain⟨c,M,hc,hM,hMc⟩:=Rz hm0 tm;obtain⟨D,A,hD,_,hAb,hA⟩:=yI ha.den;obtain⟨T,hT⟩:=J4 hm hc hM hMc hD hA;have hDr:(D:Rat)≠0:=by simpa using hD
 have iL:∀y∈m.map (fun y=>y*c),IsI y:=by
  intro y hy;obtain⟨i,_,rfl⟩:=yL hy;exact⟨M i,by rw[iO,hMc]⟩
 have iT:∀y∈s.map (fun y=>y*((D:Rat)/c)),IsI y:=by
  intro y hy;obtain⟨i,_,rfl⟩:=yL hy;refine⟨T i,?_⟩;rw[iO];have:=hT i;grind
 have bA:∀y∈a.map (fun y=>y*(D:Rat)),y.abs<=(1000000000:Rat)^b:=by
  intro y hy;obtain⟨i,_,rfl⟩:=yL hy;rw[iO,hA,yK,<- lbr];have:=FO (hAb i);exact_mod_cast this
 have hroots:=xe a.length a rfl ha0 ha.trm ((List.range 33).filter fun x=>decide (au a (x:Rat)=0)) (List.nodup_range.filter _) (fun x hx=>by simpa using(List.mem_filter.1 hx).2);have hsum:=uQ (fun x=>decide (au a (x:Rat)=0)) (List.range 33);have hal:=ha.len;rw[List.length_range] at hsum;have hK:(0:Rat)<=(1000000000:Rat)^b:=Rat.pow_nonneg (by grind);have h33:(0:Rat)<=(33:Rat)^17:=Rat.pow_nonneg (by grind);have hbd:=N8 m.length (m.map fun y=>y*c) ((1000000000:Rat)^b*(33:Rat)^17) ((List.range 33).filter fun x=> !decide (au a (x:Rat)=0)) (Rat.mul_nonneg hK h33) (by simp) (by omega) (List.nodup_range.filter _)
  (fun x hx=>by have:=List.mem_range.1 (List.mem_filter.1 hx).1;omega) (fun x hx=>by
   (have hx32:x<=32:=by have:=List.mem_range.1 (List.mem_filter.1 hx).1;omega);(have hne:au a (x:Rat)≠0:=by simpa using(List.mem_filter.1 hx).2);obtain⟨u,hu⟩:=N9 iL x;obtain⟨v,hv⟩:=N9 iT x;have e1:(u:Rat)*(v:Rat)=au (a.map fun y=>y*(D:Rat)) (x:Rat):=by
    rw[<- hu,<- hv,iP,iP,iP,<- hm,eO];grind
   have hv0:v≠0:=by
    (rintro rfl;rw[iP] at e1;(have:au a (x:Rat)*(D:Rat)=0:=by rw[<- e1];simp);rcases Rat.mul_eq_zero.1 this with h|h;·exact hne h);·exact hDr h
   have h1:=Oa hK bA hx32;rw[<- e1,pG] at h1;have h2:(1:Rat)<=(v:Rat).abs:=by
    rw[yK];(have:1<=v.natAbs:=by omega);exact_mod_cast this
   have h3:=Rat.mul_le_mul_of_nonneg_left h2 (Rat.abs_nonneg (x:=(u:Rat)));have h4:(33:Rat)^(a.map fun y=>y*(D:Rat)).length<=(33:Rat)^17:=by
    have hmono:∀(n k:Nat),n<=k->(33:Rat)^n<=(33:Rat)^k:=by
     intro n k hnk;induction k with
     |zero=>rw[show n=0 by omega];grind
     |succ k ih=>
      by_cases e:n=k+1
      ·rw[e];grind
      ·have:=ih (by omega);have hp:(0:Rat)<=(33:Rat)^k:=Rat.pow_nonneg (by grind);rw[Rat.pow_succ];grind
    exact hmono _ _ (by rw[List.length_map];omega)
   have h5:=Rat.mul_le_mul_of_nonneg_left h4 hK;rw[hu];grind)
 have hlw:∀i,lw (M i)<=b+8:=by
  intro i;have h1:=hbd i;rw[iO,hMc,yK] at h1;have h67:(67:Rat)^m.length<=(67:Rat)^17:=by
   have hmono:∀(n k:Nat),n<=k->(67:Rat)^n<=(67:Rat)^k:=by
    intro n k hnk;induction k with
    |zero=>rw[show n=0 by omega];grind
    |succ k ih=>
     by_cases e:n=k+1
     ·rw[e];grind
     ·have:=ih (by omega);have hp:(0:Rat)<=(67:Rat)^k:=Rat.pow_nonneg (by grind);rw[Rat.pow_succ];grind
   exact hmono _ _ hlen
  have h2:=Rat.mul_le_mul_of_nonneg_right h67 (Rat.mul_nonneg hK h33);have h3:(67:Rat)^17*(33:Rat)^17<=(1000000000:Rat)^7:=by decide+kernel
  have h4:=Rat.mul_le_mul_of_nonneg_left h3 hK;have h5:(((M i).natAbs:Nat):Rat)<=(((LB^(b+7):Int)):Rat):=by
   rw[lbr,AW];generalize (67:Rat)^m.length=w1 at*;generalize (67:Rat)^17=w2 at*;generalize (33:Rat)^17=w3 at*;generalize (1000000000:Rat)^7=w4 at*;generalize (1000000000:Rat)^b=w5 at*;grind
  have h6:((M i).natAbs:Int)<=LB^(b+7):=by exact_mod_cast h5
  refine jG ?_;have h7:(LB:Int)^(b+8)=LB^(b+7)*LB:=Int.pow_succ _ _;have h8:=lbpos (b+7);have h9:LB^(b+7)<LB^(b+7)*LB:=by
   have:=Int.mul_lt_mul_of_pos_left (show (1:Int)<LB by decide) h8;simpa using this
  omega
 have hlast:=hMc (m.length-1);rw[<- bD hmp,m1] at hlast;have hM0:M (m.length-1)≠0:=by
  intro e;rw[e] at hlast;apply hc;grind
 refine⟨M (m.length-1),hM0,hlw _,fun i=>⟨M i,hlw i,?_⟩⟩;have h1:=hMc i;have hc2:c=(M (m.length-1):Rat):=by grind
 rw[Rat.divInt_eq_div,<- hc2,<- h1];grind
abbrev DPD:=List Int×Int×List Int
def jT(d:DPD):Prop:=(∀n∈d.1,-128<=n/\n<128)/\(0<=d.2.1/\d.2.1<256)/\∀n∈d.2.2,-128<=n/\n<128
def TS(d:DPD)(n:Int):Rat:=Rat.divInt (n.tmod 10) (1+d.2.1.tmod 4)
def jN(d:DPD)(k:Nat):List Rat:=(d.1.take k).map (TS d)
def nV(r:Int):List Rat:=[Rat.divInt (-r.tmod 8) 2,1]
def nK(d:DPD):Nat->List Rat
 |0=>aM (jN d 5)
 |i+1=>cB (nK d i) (nV (d.2.2.getD i 0))
def nW(d:DPD):List Rat:=nK d (min d.2.2.length 4)
theorem kl(n:Int)(m:Int)(hm:0<m): -m<n.tmod m/\n.tmod m<m:=by
 have h1:=Int.tmod_lt_of_pos n hm;have h2:=Int.tmod_lt_of_pos (-n) hm;rw[Int.neg_tmod] at h2;omega
theorem jO{n:Int}(h:n.natAbs<1000000000):lw n<=1:=jG (by show _<(1000000000:Int)^1;omega)
theorem F9{d:DPD}(h:jT d)(l:List Int):Den 1 (l.map (TS d)):=by
 obtain⟨_,⟨h1,h2⟩,_⟩:=h;have hD:=kl d.2.1 4 (by decide);have h0:0<=d.2.1.tmod 4:=Int.tmod_nonneg _ h1;refine⟨1+d.2.1.tmod 4,by omega,jO (by omega),fun i=>?_⟩;by_cases hi:i<l.length;·refine⟨l[i].tmod 10,jO (by have:=kl l[i] 10 (by decide);omega),?_⟩;unfold cf;rw[List.getD_eq_getElem?_getD,List.getElem?_map,List.getElem?_eq_getElem hi];rfl
 ·exact⟨0,by rw[eT];omega,by rw[bh (by rw[List.length_map];omega),Rat.zero_divInt]⟩
theorem xf(r:Int):Trm (nV r):=fun _=>by unfold nV aB;show (1:Rat)≠0;decide
theorem Bl(r:Int):Den 1 (nV r):=by
 have h:=kl r 8 (by decide);refine⟨2,by decide,jO (by decide),fun i=>?_⟩;match i with
 |0=>exact⟨-r.tmod 8,jO (by omega),rfl⟩
 |1=>exact⟨2,jO (by decide),by show (1:Rat)=_;decide+kernel⟩
 |i+2=>exact⟨0,by rw[eT];omega,by rw[bh (by unfold nV;simp),Rat.zero_divInt]⟩
theorem pH{d:DPD}(h:jT d):∀i,i<=4->Sml (5+i) (1+2*i) (nK d i)
 |0,_=>⟨by
   have:=cN (jN d 5);unfold nK;(have h2:(jN d 5).length<=5:=by unfold jN;rw[List.length_map,List.length_take];omega);omega,cL _,mJ (F9 h _)⟩
 |i+1,hi=>by
  have ih:=pH h i (by omega);have:=ih.mul (l2:=nV (d.2.2.getD i 0)) (m:=2) (c:=1) (k:=5+(i+1)) ⟨by unfold nV;simp,xf _,Bl _⟩ (by omega) (by omega) (by omega) (by omega);exact⟨this.len,this.trm,this.den.mono (by omega)⟩
theorem J5{d:DPD}(h:jT d):Sml 9 9 (nW d):=by
 have:=pH h (min d.2.2.length 4) (by omega);exact⟨by have:=this.len;unfold nW;omega,this.trm,this.den.mono (by omega)⟩
abbrev I8:Ty:= .int .i8
theorem Ob{l:List Int}{k:Nat}(hk:k<l.length):nth I8 l (k:Int)=l[k]:=eu (t:=I8) hk
theorem TT{d:DPD}{k:Nat}(hk:k<d.1.length):txP (jN d k)++ [aG (TS d (nth I8 d.1 (k:Int)))]=txP (jN d (k+1)):=by
 rw[<- kR];unfold jN;rw[Ob hk,List.take_succ_eq_append_getElem hk,List.map_append];rfl
theorem Oc{d:DPD}{k:Nat}(h:¬(k<d.1.length/\k<5))(hk:k<=d.1.length/\k<=5):jN d k=jN d 5:=by
 unfold jN;by_cases h5:k=5;·rw[h5]
 ·rw[List.take_of_length_le (by omega),List.take_of_length_le (by omega)]
theorem Ga{d:DPD}(h:jT d)(k:Nat):GL QK (txP (jN d k))/\(txP (jN d k)).length<=k:=by
 refine⟨fI fun x hx=>Nat.le_trans ((F9 h (d.1.take k)).lq x hx) (by unfold QK;decide),?_⟩;rw[aR];unfold jN;rw[List.length_map,List.length_take];omega
theorem TU{d:DPD}{k:Nat}(h:(txP (jN d k)).length<=k)(hk:k<=d.1.length/\k<=5):(txP (jN d k)).length<=1000000000:=by omega
theorem Bm(r:Int):txP (nV r)=[aG (Rat.divInt (-r.tmod 8) 2),[49]]:=by
 have h1:aG 1=[49]:=by decide+kernel
 unfold nV txP;simp[h1]
theorem RB{d:DPD}(h:jT d){i:Nat}(hi:i<=4)(r:Int):JZ (txP (nK d i)) [aG (Rat.divInt (-r.tmod 8) 2),[49]]:=by
 have hs:=pH h i hi;rw[<- Bm];refine⟨fI fun x hx=>Nat.le_trans (hs.den.lq x hx) (by omega),fI fun x hx=>Nat.le_trans ((Bl r).lq x hx) (by omega),by rw[aR];have:=hs.len;omega,by rw[aR];unfold nV;simp⟩
theorem TV{d:DPD}(h:jT d){i:Nat}(hi:i<d.2.2.length)(hi4:i<4):txP (eH (nl (txP (nK d i))) (nl [aG (Rat.divInt (-(nth I8 d.2.2 (i:Int)).tmod 8) 2),[49]]) (txP (nK d i)).length)=txP (nK d (i+1)):=by
 rw[<- Bm,bJ,bJ,aR,F2 (pH h i (by omega)).trm (xf _),nK,Ob hi];congr 3;rw[List.getD_eq_getElem?_getD,List.getElem?_eq_getElem hi];rfl
theorem TW{d:DPD}{i:Nat}(h:¬(i<d.2.2.length/\i<4))(hk:i<=d.2.2.length/\i<=4):txP (nK d i)=txP (nW d):=by
 unfold nW;rw[show min d.2.2.length 4=i by omega]
theorem SL{k a n:Nat}(h:(decide ((k:Int)<(a:Int))&&decide ((k:Int)<(n:Int)))=true):k<a/\k<n:=by
 rw[Bool.and_eq_true,decide_eq_true_iff,decide_eq_true_iff] at h;omega
theorem SM{k a n:Nat}(h:(decide ((k:Int)<(a:Int))&&decide ((k:Int)<(n:Int)))=false):¬(k<a/\k<n):=by
 rw[Bool.and_eq_false_iff,decide_eq_false_iff_not,decide_eq_false_iff_not] at h;omega
theorem UX{d:DPD}(h:jT d){k:Nat}(hk:k<d.2.2.length):IntKind.i64.wrap (0-(IntKind.i64.wrap (nth I8 d.2.2 (k:Int))).tmod 8)= -(nth I8 d.2.2 (k:Int)).tmod 8:=by
 have h1:=h.2.2 (nth I8 d.2.2 (k:Int)) (eN (t:=I8) hk);rw[wi (x:=nth I8 d.2.2 (k:Int)) (by omega) (by omega)];have h2:=kl (nth I8 d.2.2 (k:Int)) 8 (by decide);rw[wo];omega
theorem UY{d:DPD}(h:jT d){k:Nat}(hk:k<d.1.length):IntKind.i64.wrap (nth I8 d.1 (k:Int))=nth I8 d.1 (k:Int):=by
 have h1:=h.1 (nth I8 d.1 (k:Int)) (eN (t:=I8) hk);exact wo
theorem J6{d:DPD}(h:jT d){k:Nat}(hk:k<d.2.2.length/\k<4):((0:Int)<=(k:Int)/\(k:Int)<((d.2.2.length:Nat):Int))/\(8:Int)≠0/\
  (I64 (IntKind.i64.wrap (0-(IntKind.i64.wrap (nth I8 d.2.2 (k:Int))).tmod 8))/\I64 2/\(2:Int)≠0)/\
   JZ (txP (nK d k)) [aG (Rat.divInt (IntKind.i64.wrap (0-(IntKind.i64.wrap (nth I8 d.2.2 (k:Int))).tmod 8)) 2),[49]]:=by
 rw[UX h hk.1];have h2:=kl (nth I8 d.2.2 (k:Int)) 8 (by decide);exact⟨by omega,by decide,⟨by unfold I64;omega,by unfold I64;omega,by decide⟩,RB h (by omega) _⟩
theorem J7{d:DPD}(h:jT d){k:Nat}(hk:k<d.2.2.length/\k<4):∃z:Nat,txP (eH (nl (txP (nK d k))) (nl [aG (Rat.divInt (IntKind.i64.wrap (0-(IntKind.i64.wrap (nth I8 d.2.2 (k:Int))).tmod 8)) 2),[49]]) (txP (nK d k)).length)=txP (nK d z)/\
   IntKind.i64.wrap ((k:Int)+1)=(z:Int)/\z<=d.2.2.length/\z<=4/\4-z<4-k:=by
 rw[UX h hk.1];exact⟨k+1,TV h hk.1 hk.2,wo,by omega,by omega,by omega⟩
theorem TX{d:DPD}{k:Nat}(h:¬(k<d.1.length/\k<5))(hk:k<=d.1.length/\k<=5):txP (aM (nl (txP (jN d k))))=txP (nK d 0):=by
 rw[bJ,Oc h hk];rfl
theorem UZ{d:DPD}(h:jT d):IntKind.i64.wrap (1+IntKind.i64.wrap (Int.tmod d.2.1 4))=1+d.2.1.tmod 4:=by
 have hD:=kl d.2.1 4 (by decide);have h0:0<=d.2.1.tmod 4:=Int.tmod_nonneg _ h.2.1.1;rw[wi (x:=d.2.1.tmod 4) (by omega) (by omega),wo]
theorem J8{d:DPD}(h:jT d){k:Nat}(hk:k<d.1.length/\k<5):((0:Int)<=(k:Int)/\(k:Int)<((d.1.length:Nat):Int))/\(10:Int)≠0/\(4:Int)≠0/\
    (I64 ((IntKind.i64.wrap (nth I8 d.1 (k:Int))).tmod 10)/\
      I64 (IntKind.i64.wrap (1+IntKind.i64.wrap (Int.tmod d.2.1 4)))/\
       IntKind.i64.wrap (1+IntKind.i64.wrap (Int.tmod d.2.1 4))≠0)/\
     live [some (txP (jN d k))] 0=true/\Cm.Roomy 1 ((rowOf [some (txP (jN d k))] 0).length+1):=by
 rw[UZ h,UY h hk.1];have hD:=kl d.2.1 4 (by decide);have h0:0<=d.2.1.tmod 4:=Int.tmod_nonneg _ h.2.1.1;have hn:=kl (nth I8 d.1 (k:Int)) 10 (by decide);refine⟨by omega,by decide,by decide,⟨by unfold I64;omega,by unfold I64;omega,by omega⟩,rfl,kA ?_⟩;show (txP (jN d k)).length+1<=_;rw[aR];unfold jN;rw[List.length_map,List.length_take];omega
theorem J9{d:DPD}(h:jT d){k:Nat}(hk:k<d.1.length/\k<5):∃z:Nat,IntKind.i64.wrap ((k:Int)+1)=(z:Int)/\
   rowOf [some (txP (jN d k))] 0++ [aG (Rat.divInt ((IntKind.i64.wrap (nth I8 d.1 (k:Int))).tmod 10) (IntKind.i64.wrap (1+IntKind.i64.wrap (Int.tmod d.2.1 4))))]=txP (jN d z)/\
    z<=d.1.length/\z<=5/\5-z<5-k:=by
 rw[UZ h,UY h hk.1];exact⟨k+1,wo,TT hk.1,by omega,by omega,by omega⟩
abbrev DWD:=Bool×List Int×Int
abbrev DQD:=DWD×DWD
def Bn(d:DQD):Prop:=DOK d.1/\DOK d.2
def dqv(d:DQD):Rat:=if ah (dB d.2)=0 then (ah (dB d.1):Rat) else Rat.divInt (ah (dB d.1)) (ah (dB d.2))
theorem pI{d:DWD}(h:DOK d):RF (dB d)/\Lib.itoa (ah (dB d))=dB d/\lw (ah (dB d))<=27:=by
 obtain⟨h1,h2⟩:=Mx h;have hf:RF (dB d):=by unfold RF;rw[h1];decide
 refine⟨hf,jt hf,jG ?_⟩;have h3:(10:Nat)^240<=1000000000^27:=by decide
 have h5:(LB^27:Int)=((1000000000^27:Nat):Int):=by rw[Int.natCast_pow];rfl
 rw[h5];omega
theorem SN{d:DWD}(h:DOK d):RS 200000000 (dB d):=by
 obtain⟨h1,h2,h3⟩:=pI h;refine⟨h1,?_⟩;have:=fO (ah (dB d));rw[h2] at this;omega
theorem Gb{d:DWD}(h:DOK d):dB d=[48]↔ah (dB d)=0:=by
 constructor;·intro e;rw[e];decide
 ·intro e;have:=(pI h).2.1;rw[e] at this;rw[<- this];decide+kernel
theorem RC{d:DQD}(h:Bn d)(h0:dB d.2=[48]):dB d.1=aG (dqv d):=by
 unfold dqv;rw[if_pos ((Gb h.2).1 h0),ix,(pI h.1).2.1]
theorem Gc{d:DQD}(h:Bn d)(h0:¬dB d.2=[48]):MkR (dB d.1) (dB d.2)/\aG (Rat.divInt (ah (dB d.1)) (ah (dB d.2)))=aG (dqv d):=by
 have hz:¬ah (dB d.2)=0:=fun e=>h0 ((Gb h.2).2 e);refine⟨⟨SN h.1,SN h.2,hz⟩,?_⟩;unfold dqv;rw[if_neg hz]
theorem TY{d:DQD}(h:Bn d):lq (dqv d)<=27:=by
 have h1:=(pI h.1).2.2;have h2:=(pI h.2).2.2;unfold dqv;split;·unfold lq;rw[Rat.num_intCast,Rat.den_intCast];have:lw ((1:Nat):Int)=1:=kv;omega
 ·rename_i h3;have:=kx (ah (dB d.1)) (ah (dB d.2)) h3;omega
def Od(x:Rat):Bool:=decide (cr x.num<=20/\cr (x.den:Int)<=20)
def iX(d:DQD):Rat:=if Od (dqv d)=true then dqv d else Rat.divInt (-3) 7
theorem DW{d:DQD}(h:Bn d):eG (aG (dqv d)):=by
 have hr:RQ (aG (dqv d)):=by
  refine⟨?_,?_⟩;·rw[qL];unfold l4;split<;>decide
  ·have:=iw (TY h);unfold QL;omega
 exact hr.form
theorem xg{d:DQD}:decide (cr (ah (tN (aG (dqv d))))<=20/\cr (ah (tD (aG (dqv d))))<=20)=Od (dqv d):=by
 obtain⟨h1,h2,_⟩:=dJ (dqv d);rw[h1,h2,(aF _).2,(aF _).2];rfl
theorem RD{d:DQD}(h:cr (ah (tN (aG (dqv d))))<=20/\cr (ah (tD (aG (dqv d))))<=20):aG (dqv d)=aG (iX d):=by
 have:=decide_eq_true h;rw[xg] at this;unfold iX;rw[if_pos this]
theorem RE{d:DQD}(h:¬(cr (ah (tN (aG (dqv d))))<=20/\cr (ah (tD (aG (dqv d))))<=20)): [45,51,47,55]=aG (iX d):=by
 have:=decide_eq_false h;rw[xg] at this;unfold iX;rw[if_neg (by rw[this];decide)];decide+kernel
theorem RG{n:Int}{k:Nat}(h:cr n<=(k:Int)):n.natAbs<10^k:=by
 rw[dV] at h;obtain⟨d1,d2,_,_⟩:=jE n.natAbs;have h2:=fE d1;rw[d2] at h2;exact Nat.lt_of_lt_of_le h2 (Nat.pow_le_pow_right (by omega) (by omega))
theorem xh(d:DQD):lq (iX d)<=3:=by
 have key:∀n:Int,cr n<=20->lw n<=3:=by
  intro n h;have h1:=RG (k:=20) h;refine jG ?_;have h3:(10:Nat)^20<=1000000000^3:=by decide
  have h5:(LB^3:Int)=((1000000000^3:Nat):Int):=by rw[Int.natCast_pow];rfl
  rw[h5];omega
 unfold iX;split;·rename_i h;unfold Od at h;rw[decide_eq_true_iff] at h;exact Nat.max_le.2 ⟨key _ h.1,key _ h.2⟩
 ·have h1:=kx (-3) 7 (by decide);have h2:lw (-3)<=1:=jO (by decide);have h3:lw 7<=1:=jO (by decide);omega
def Dv(d p:List Rat):Prop:=∃s,Trm s/\∀x,au d x*au s x=au p x
theorem Dv.refl(d:List Rat):Dv d d:=⟨[1],fun _=>by show (1:Rat)≠0;decide,fun x=>by rw[iW];grind⟩
theorem Dv.nil(d:List Rat):Dv d []:=⟨[],kh,fun x=>by rw[cH];grind⟩
theorem Dv.trans{d e p:List Rat}(h:Dv d e)(h2:Dv e p):Dv d p:=by
 obtain⟨s,s1,s2⟩:=h;obtain⟨t,t1,t2⟩:=h2;exact⟨cB s t,mI s1 t1,fun x=>by rw[eO];have:=s2 x;have:=t2 x;grind⟩
theorem qR{l:List Rat}{c:Rat}(h:Trm l)(hc:c≠0):Trm (l.map fun y=>y*c):=by
 intro hn;have hl:l≠[]:=fun e=>hn (by rw[e];rfl);have hp:=List.length_pos_iff.2 hl;have h1:=h hl;rw[bD hp] at h1;rw[bD (by rw[List.length_map];exact hp),List.length_map,iO];intro e;rcases Rat.mul_eq_zero.1 e with e|e;·exact h1 e
 ·exact hc e
theorem uR{d p:List Rat}(tp:Trm p):Dv d (cy p)↔Dv d p:=by
 by_cases hp:p=[]
 ·subst hp;exact Iff.rfl
 have hl:=tp hp;constructor;·rintro⟨s,s1,s2⟩;refine⟨s.map fun y=>y*aB p,qR s1 hl,fun x=>?_⟩;have:=s2 x;rw[uD] at this;rw[iP];grind
 ·rintro⟨s,s1,s2⟩;refine⟨s.map fun y=>y*(1/aB p),qR s1 (by intro e;apply hl;grind),fun x=>?_⟩;have:=s2 x;rw[iP,uD];grind
theorem Bo:∀(n:Nat) (p q:List Rat),q.length<n->Trm p->Trm q->∀d,Dv d (dC n p q)↔(Dv d p/\Dv d q)
 |0,p,q,h,_,_,_=>absurd h (by omega)
 |n+1,p,q,h,tp,tq,d=>by
  rw[dC];split;·rename_i hq;subst hq;rw[uR tp];exact⟨fun h=>⟨h,Dv.nil d⟩,fun h=>h.1⟩
  ·(rename_i hq;have hs:=ev (p:=p) (List.length_pos_iff.2 hq) (tq hq);have tr:=fx (q:=q) tp;rw[Bo n q _ (by rw[bY];omega) tq (ea tr) d,uR tr];have hev:=fun x=>yE (p:=p) hq tq x;constructor;·rintro⟨⟨s,s1,s2⟩,t,t1,t2⟩;refine⟨⟨br (· + ·) (cB s (divN p q).1) t,ct _ _ _,fun x=>?_⟩,s,s1,s2⟩;rw[mH,eO];have:=s2 x;have:=t2 x;have:=hev x;grind);·rintro⟨⟨s,s1,s2⟩,t,t1,t2⟩;refine⟨⟨t,t1,t2⟩,br (· - ·) s (cB t (divN p q).1),ct _ _ _,fun x=>?_⟩;rw[ky,eO];have:=s2 x;have:=t2 x;have:=hev x;grind
theorem Gd{p q:List Rat}(tp:Trm p)(tq:Trm q)(d:List Rat):Dv d (cd p q)↔(Dv d p/\Dv d q):=Bo _ _ _ (Nat.lt_succ_self _) tp tq d
theorem xi:∀(n:Nat) (p q:List Rat),Trm p->Trm q->dC n p q≠[]->aB (dC n p q)=1
 |0,p,q,tp,_,h=>by
  rw[dC] at h ⊢;have hp:p≠[]:=fun e=>h (by rw[e];rfl);rw[lH (List.length_pos_iff.2 hp)];have:=tp hp;grind
 |n+1,p,q,tp,tq,h=>by
  rw[dC] at h ⊢;split;·rename_i hq;rw[if_pos hq] at h;have hp:p≠[]:=fun e=>h (by rw[e];rfl);rw[lH (List.length_pos_iff.2 hp)];have:=tp hp;grind
  ·rename_i hq;rw[if_neg hq] at h;exact xi n _ _ tq (ea (fx tp)) h
theorem Bp{p q:List Rat}(tp:Trm p)(tq:Trm q)(h:cd p q≠[]):aB (cd p q)=1:=xi _ _ _ tp tq h
theorem DX{d p:List Rat}(td:Trm d)(tp:Trm p)(h:Dv d p):∃s,Trm s/\cB d s=p:=by
 obtain⟨s,s1,s2⟩:=h;exact⟨s,s1,kz (mI td s1) tp fun x=>by rw[eO];exact s2 x⟩
theorem RH{d e:List Rat}(td:Trm d)(te:Trm e)(hd:d≠[])(he:e≠[])(d1:aB d=1)(e1:aB e=1)(h:Dv d e)(h2:Dv e d):d=e:=by
 obtain⟨s,s1,s2⟩:=DX td te h;obtain⟨t,t1,t2⟩:=DX te td h2;have hs:s≠[]:=by rintro rfl;rw[ew] at s2;exact he s2.symm
 have ht:t≠[]:=by rintro rfl;rw[ew] at t2;exact hd t2.symm
 have l1:=dI hd hs;have l2:=dI he ht;rw[s2] at l1;rw[t2] at l2;have:=List.length_pos_iff.2 hs;have:=List.length_pos_iff.2 ht;have:=List.length_pos_iff.2 hd;have:=List.length_pos_iff.2 he;have hl:s.length=1:=by omega
 have la:=wU hd hs;rw[s2,e1,d1] at la;match s,hl with
 | [c],_=>
  have hc:c=1:=by
   have:aB [c]=c:=rfl;rw[this] at la;grind
  subst hc;refine kz td te fun x=>?_;rw[<- s2,eO,iW];grind
theorem SO{α:Type}(l:List α):(((l.length:Nat):Int)==0)=decide (l=[]):=by
 rw[Bool.eq_iff_iff,beq_iff_eq,decide_eq_true_iff];constructor;·intro h;exact List.eq_nil_of_length_eq_zero (by omega)
 ·intro h;rw[h];rfl
theorem TZ(a b:Int):(a==b)=decide (a=b):=by rw[Bool.eq_iff_iff,beq_iff_eq,decide_eq_true_iff]
theorem Oe(e:Int)(p q:List (List UInt8)):(e==0&&decide (p=q))=decide (e=0/\p=q):=by rw[TZ];exact(Bool.decide_and _ _).symm
theorem Bq(p:List (List UInt8))(e q:Int):(((p.length:Nat):Int)==0&&e==q)=decide (p=[]/\e=q):=by rw[SO,TZ];exact(Bool.decide_and _ _).symm
def L(l:List (List UInt8)):List (List UInt8):=l
theorem wp1:dvS [[45,49],[48],[48],[49]] [[45,49],[49]]=[[49],[49],[49]]/\dvR [[45,49],[48],[48],[49]] [[45,49],[49]]=[]/\dvE [[45,49],[48],[48],[49]] [[45,49],[49]]=0:=by decide+kernel
theorem wp2:dvS [[49],[48],[49]] [[48],[50]]=[[48],[49,47,50]]/\dvR [[49],[48],[49]] [[48],[50]]=[[49]]/\dvE [[49],[48],[49]] [[48],[50]]=0:=by decide+kernel
theorem wp3:dvE [[49]] []=2:=by decide+kernel
theorem wp4:evS [[49],[48],[49]] [49,47,50]=[53,47,52]/\evE [[49],[48],[49]] [49,47,50]=0:=by decide+kernel
theorem wp5:evE [[49]] [50,47,50]=5:=by decide+kernel
theorem wp6:cF cB [[49],[49]] [[45,49],[49]]=[[45,49],[48],[49]]/\cM cB [[49],[49]] [[45,49],[49]]=0:=by decide+kernel
theorem wp7:cF (br (· + ·)) [[49],[50]] [[49],[45,50]]=[[50]]/\cM (br (· + ·)) [[49],[50]] [[49],[45,50]]=0:=by decide+kernel
theorem wp8:cF (br (· - ·)) [[49],[50]] [[49],[50]]=[]/\cM (br (· - ·)) [[49],[50]] [[49],[50]]=0:=by decide+kernel
theorem wp9:cF cd [[45,49],[48],[49]] [[49],[50],[49]]=[[49],[49]]/\cM cd [[45,49],[48],[49]] [[49],[50],[49]]=0:=by decide+kernel
theorem RI:cF cd [[50]] []=[[49]]/\cM cd [[50]] []=0:=by decide+kernel
theorem RJ:cF cd [] []=[]/\cM cd [] []=0:=by decide+kernel
theorem RL:i7 [[49],[48],[49]] [[49],[49]]=[[50],[50],[49]]/\kQ [[49],[48],[49]] [[49],[49]]=0:=by decide+kernel
theorem RM:cF (fun a _=>bl a) [[53],[51],[48],[50]] []=[[51],[48],[54]]/\cM (fun a _=>bl a) [[53],[51],[48],[50]] []=0:=by decide+kernel
theorem RN:cF (fun a _=>bO a) [[50],[45,51],[48],[49]] []=[[45,50],[49],[49]]/\cM (fun a _=>bO a) [[50],[45,51],[48],[49]] []=0:=by decide+kernel
theorem RO:cF (fun a _=>bO a) [[55]] []=[[49]]/\cM (fun a _=>bO a) [[55]] []=0:=by decide+kernel
theorem RP:bG [[49],[48]]=40/\bG [[49,47,48]]=40:=by decide+kernel
theorem wsq:3<=QL/\((((0:Nat):Int)==0)=true->(((0:Nat):Int)==0)=true)/\((((0:Nat):Int)==0)=true->(((0:Nat):Int)==0)=true/\2<=QL)/\((((0:Nat):Int)==0)=true->(((0:Nat):Int)==0)=true)/\
  ((((0:Nat):Int)==0)=true->(((0:Nat):Int)==0)=true)/\((((0:Nat):Int)==0)=true->(((0:Nat):Int)==0)=true/\1<=QL)/\((((0:Nat):Int)==0)=true->(((0:Nat):Int)==0)=true):=by
 unfold QL;decide
theorem ok6:bR (fun p q=>Sz QM p/\Sz QM q/\p.length<=100/\q.length<=100) cB [[49],[49]] [[45,49],[49]]:=UU (n:=4) (K:=1) (by decide+kernel) (by decide+kernel)
theorem ok7:bR (fun p q=>Sz QH p/\Sz QH q/\p.length<=1000/\q.length<=1000) (br (· + ·)) [[49],[50]] [[49],[45,50]]:=US (n:=4) (K:=1) (by decide+kernel) (by decide+kernel)
theorem ok8:bR (fun p q=>Sz QH p/\Sz QH q/\p.length<=1000/\q.length<=1000) (br (· - ·)) [[49],[50]] [[49],[50]]:=UT (n:=4) (K:=1) (by decide+kernel) (by decide+kernel)
theorem ok9:bR kg cd [[45,49],[48],[49]] [[49],[50],[49]]:=N5 (n:=4) (K:=1) (by decide+kernel) (by decide+kernel)
theorem Vk:bR kg cd [[50]] []:=N5 (n:=4) (K:=1) (by decide+kernel) (by decide+kernel)
theorem Vl:bR kg cd [] []:=N5 (n:=4) (K:=1) (by decide+kernel) (by decide+kernel)
theorem Vm:sj [[49],[48],[49]] [[49],[49]]:=TP (n:=4) (m:=4) (K:=1) (by decide+kernel) (by decide+kernel)
theorem Vn:bR (fun p _=>Sz QH p/\p.length<=1000) (fun a _=>bl a) [[53],[51],[48],[50]] []:=UV (n:=4) (K:=1) (by decide+kernel)
theorem Vo:bR (fun p _=>mE p) (fun a _=>bO a) [[50],[45,51],[48],[49]] []:=SJ (n:=4) (K:=1) (by decide+kernel)
theorem Vp:bR (fun p _=>mE p) (fun a _=>bO a) [[55]] []:=SJ (n:=4) (K:=1) (by decide+kernel)
theorem U0:de [[49],[48]]/\de [[49,47,48]]:=by unfold de QL;decide
theorem U1{n:Nat}(h:n<=1000):n<=QL:=by unfold QL;omega
def ez(l:List Rat):Nat->Nat
 |0=>1
 |k+1=>Nat.lcm (ez l k) (cf l k).den
def fk(l:List Rat):Nat->Nat
 |0=>0
 |k+1=>Nat.gcd (fk l k) (cf l k).num.natAbs
def fB(l:List Rat):Rat:=Rat.divInt (ez l l.length:Int) (fk l l.length:Int)
def cb(l:List Rat):List Rat:=l.map fun x=>x*fB l
theorem Ka(l:List Rat)(k:Nat):(ez l k:Int)*bN ((cf l k).den:Int) (ca (ez l k:Int) ((cf l k).den:Int))=(ez l (k+1):Int):=by
 have hg:0<Nat.gcd (ez l k) (cf l k).den:=Nat.gcd_pos_of_pos_right _ (cf l k).den_pos;have e:ca (ez l k:Int) ((cf l k).den:Int)=((Nat.gcd (ez l k) (cf l k).den:Nat):Int):=by unfold ca;rw[Int.natAbs_natCast,Int.natAbs_natCast]
 rw[e];unfold bN;rw[if_pos (by omega),<- Int.natCast_ediv,<- Int.natCast_mul];congr 1;show _=Nat.lcm _ _;unfold Nat.lcm;rw[Nat.mul_div_assoc _ (Nat.gcd_dvd_right _ _)]
theorem Kb(l:List Rat)(k:Nat):ca (fk l k:Int) (cf l k).num=(fk l (k+1):Int):=by unfold ca;rw[Int.natAbs_natCast];rfl
theorem Br(l:List Rat):∀k,0<ez l k
 |0=>Nat.one_pos
 |k+1=>Nat.lcm_pos (Br l k) (cf l k).den_pos
theorem Bt(l:List Rat):∀k i,i<k->(cf l i).den∣ez l k
 |0,_,h=>absurd h (Nat.not_lt_zero _)
 |k+1,i,h=>by
  by_cases e:i=k
  ·subst e;exact Nat.dvd_lcm_right _ _
  ·exact Nat.dvd_trans (Bt l k i (by omega)) (Nat.dvd_lcm_left _ _)
theorem uS(l:List Rat){D:Nat}:∀k,(∀i,i<k->(cf l i).den∣D)->ez l k∣D
 |0,_=>Nat.one_dvd _
 |k+1,h=>Nat.lcm_dvd (uS l k fun i hi=>h i (by omega)) (h k (by omega))
theorem pJ(l:List Rat):∀k i,i<k->fk l k∣(cf l i).num.natAbs
 |0,_,h=>absurd h (Nat.not_lt_zero _)
 |k+1,i,h=>by
  by_cases e:i=k
  ·subst e;exact Nat.gcd_dvd_right _ _
  ·exact Nat.dvd_trans (Nat.gcd_dvd_left _ _) (pJ l k i (by omega))
theorem RR(l:List Rat){i k:Nat}(hi:i<k)(h:cf l i≠0):fk l k≠0:=by
 intro e;have:=pJ l k i hi;rw[e] at this;have h2:=Nat.eq_zero_of_zero_dvd this;exact h (Rat.num_eq_zero.1 (by omega))
theorem uT{l:List Rat}(h:Trm l)(h0:l≠[]):fk l l.length≠0:=by
 have hp:=List.length_pos_iff.2 h0;refine RR l (i:=l.length-1) (by omega) ?_;rw[<- bD hp];exact h h0
theorem RT(D n:Int):Int.gcd D n∣D.natAbs:=Nat.gcd_dvd_left _ _
theorem Of{b:Nat}{l:List Rat}(h:Den b l):∃D:Int,D≠0/\lw D<=b/\(∀i,(cf l i).den∣D.natAbs)/\∀i,∃n:Int,lw n<=b/\cf l i*(D:Rat)=(n:Rat):=by
 obtain⟨D,d1,d2,d3⟩:=h;refine⟨D,d1,d2,fun i=>?_,fun i=>?_⟩;·obtain⟨n,_,e⟩:=d3 i;rw[e];rw[Rat.den_divInt,if_neg d1];exact Nat.div_dvd_of_dvd (RT D n)
 ·obtain⟨n,n1,e⟩:=d3 i;refine⟨n,n1,?_⟩;have hD:(D:Rat)≠0:=by exact_mod_cast d1
  rw[e,Rat.divInt_eq_div];grind
theorem RU{b:Nat}{l:List Rat}(h:Den b l)(k:Nat):lw (ez l k:Int)<=b:=by
 obtain⟨D,d1,d2,d3,_⟩:=Of h;have h1:=uS l (D:=D.natAbs) k fun i _=>d3 i;have h2:=Nat.le_of_dvd (by omega) h1;exact Nat.le_trans (gH (by omega)) d2
theorem Ge{K:Nat}{l:List Rat}(h:∀x∈l,lq x<=K):∀k,lw (fk l k:Int)<=K
 |0=>by show lw 0<=K;rw[eT];omega
 |k+1=>by
  have ih:=Ge h k;by_cases e:cf l k=0
  ·have:fk l (k+1)=fk l k:=by
    show Nat.gcd _ _=_;rw[e];exact Nat.gcd_zero_right _
   rw[this];exact ih
  ·have hk:k<l.length:=by
    refine Nat.lt_of_not_le fun hge=>e (bh hge)
   have hm:cf l k∈l:=by
    unfold cf;rw[List.getD_eq_getElem?_getD,List.getElem?_eq_getElem hk];exact List.getElem_mem hk
   have h1:=Nat.le_trans (dW (cf l k)) (h _ hm);have hne:(cf l k).num≠0:=fun e2=>e (Rat.num_eq_zero.1 e2);have h2:=Nat.le_of_dvd (by omega) (pJ l (k+1) k (by omega));exact Nat.le_trans (gH (by omega)) h1
theorem Og{l:List Rat}{i:Nat}(hi:i<l.length)(h0:fk l l.length≠0):∃z:Int,cf (cb l) i=(z:Rat)/\cf l i*((ez l l.length:Int):Rat)=((fk l l.length:Int):Rat)*(z:Rat):=by
 obtain⟨e,he⟩:=Bt l l.length i hi;obtain⟨f,hf⟩:=Int.ofNat_dvd_left.2 (pJ l l.length i hi);have hd:((cf l i).den:Rat)≠0:=by have:=(cf l i).den_nz;exact_mod_cast this
 have hx:cf l i*((cf l i).den:Rat)=((cf l i).num:Rat):=by
  have h:=Rat.num_divInt_den (cf l i);rw[Rat.divInt_eq_div,Rat.intCast_natCast] at h;grind
 have hc:((fk l l.length:Int):Rat)≠0:=by
  have:(fk l l.length:Int)≠0:=by omega
  exact_mod_cast this
 have hn:((cf l i).num:Rat)=((fk l l.length:Int):Rat)*(f:Rat):=by rw[hf,Rat.intCast_mul]
 have ha:((ez l l.length:Int):Rat)=((cf l i).den:Rat)*(e:Rat):=by
  rw[he];push_cast;rfl
 refine⟨f*e,?_,?_⟩;·unfold cb;rw[iO];unfold fB;rw[Rat.divInt_eq_div,Rat.intCast_mul,Rat.intCast_natCast (n:=e)];grind
 ·rw[Rat.intCast_mul,Rat.intCast_natCast (n:=e)];grind
def Zb(b:Nat)(l:List Rat):Prop:=∀i,∃n:Int,lw n<=b/\cf l i=(n:Rat)
theorem Zb.mono{b c:Nat}{l:List Rat}(h:Zb b l)(hc:b<=c):Zb c l:=fun i=>by
 obtain⟨n,h1,h2⟩:=h i;exact⟨n,by omega,h2⟩
theorem Zb.den{b:Nat}{l:List Rat}(h:Zb b l)(hb:1<=b):Den b l:=⟨1,by decide,by rw[kv];exact hb,fun i=>by
 obtain⟨n,h1,h2⟩:=h i;exact⟨n,h1,by rw[h2,Rat.divInt_eq_div];grind⟩⟩
theorem Zb.one{b:Nat}{l:List Rat}(h:Zb b l):∀x∈l,x.den=1:=by
 intro x hx;obtain⟨i,_,rfl⟩:=yL hx;obtain⟨n,_,e⟩:=h i;rw[e,Rat.den_intCast]
theorem Zb.lq{b:Nat}{l:List Rat}(h:Zb b l)(hb:1<=b):∀x∈l,Cm.lq x<=b:=(h.den hb).lq
theorem T1(b:Nat):Zb b []:=fun i=>⟨0,by rw[eT];omega,by simp[cf]⟩
theorem Gf{b:Nat}{l:List Rat}(h:Zb b l):Zb b (aM l):=fun i=>by rw[eV];exact h i
theorem sl{b:Nat}{l:List Rat}(h:Den b l)(ht:Trm l):Zb b (cb l):=by
 by_cases h0:l=[]
 ·subst h0;exact T1 b
 have hc:=uT ht h0;intro i;by_cases hi:i<l.length
 ·obtain⟨z,z1,z2⟩:=Og hi hc;obtain⟨D,d1,_,d3,d4⟩:=Of h;obtain⟨n,n1,n2⟩:=d4 i;obtain⟨g,hg⟩:=Int.ofNat_dvd_left.2 (uS l (D:=D.natAbs) l.length fun i _=>d3 i);refine⟨z,?_,z1⟩;have e:n=(fk l l.length:Int)*z*g:=by
   have:(n:Rat)=(((fk l l.length:Int)*z*g:Int):Rat):=by
    rw[<- n2,hg,Rat.intCast_mul,Rat.intCast_mul,Rat.intCast_mul];grind
   exact_mod_cast this
  have hgz:g≠0:=by rintro rfl;rw[Int.mul_zero] at hg;exact d1 hg
  refine Nat.le_trans (gH ?_) n1;rw[e,Int.natAbs_mul,Int.natAbs_mul,Int.natAbs_natCast];have h1:1<=g.natAbs:=by omega
  have h2:z.natAbs<=fk l l.length*z.natAbs:=Nat.le_mul_of_pos_left _ (by omega);exact Nat.le_trans h2 (Nat.le_mul_of_pos_right _ (by omega))
 ·exact⟨0,by rw[eT];omega,bh (by unfold cb;rw[List.length_map];omega)⟩
theorem fy(l:List Rat):(cb l).length=l.length:=by simp[cb]
theorem qS{l:List Rat}(ht:Trm l)(h0:l≠[]):fB l≠0:=by
 have h1:=uT ht h0;have h2:=Br l l.length;unfold fB;rw[Rat.divInt_eq_div];have a:((ez l l.length:Int):Rat)≠0:=by
  have:(ez l l.length:Int)≠0:=by omega
  exact_mod_cast this
 have b:((fk l l.length:Int):Rat)≠0:=by
  have:(fk l l.length:Int)≠0:=by omega
  exact_mod_cast this
 intro e;apply a;grind
theorem uU(l:List Rat)(x:Rat):au (cb l) x=au l x*fB l:=iP _ _ _
theorem qT{l:List Rat}(ht:Trm l):Trm (cb l):=by
 by_cases h0:l=[]
 ·subst h0;exact kh
 exact qR ht (qS ht h0)
def mM(m l:List Rat)(i:Nat):Rat:=if l.length-m.length<=i then cf l i*aB m-aB l*cf m (i-(l.length-m.length)) else cf l i*aB m
def eb(m l:List Rat)(n:Nat):List Rat:=(List.range n).map (mM m l)
def iQ(m l:List Rat):List Rat:=cb (aM (eb m l (l.length-1)))
theorem DY(m l:List Rat)(k:Nat):eb m l (k+1)=eb m l k++ [mM m l k]:=by
 unfold eb;rw[List.range_succ,List.map_append];rfl
theorem nz(m l:List Rat)(k:Nat):(eb m l k).length=k:=by simp[eb]
theorem U2{l m:List Rat}(h:∀i,cf l i=cf m i)(x:Rat):au l x=au m x:=by
 have e:aM l=aM m:=DA (cL _) (cL _) fun i=>by rw[eV,eV,h]
 rw[<- eU l,e,eU]
theorem RW(k:Nat)(l:List Rat)(i:Nat):cf (List.replicate k 0++l) i=if k<=i then cf l (i-k) else 0:=by
 unfold cf;simp only[List.getD_eq_getElem?_getD];by_cases h:k<=i;·rw[if_pos h,List.getElem?_append_right (by rw[List.length_replicate];exact h),List.length_replicate]
 ·rw[if_neg h,List.getElem?_append_left (by rw[List.length_replicate];omega),List.getElem?_replicate,if_pos (by omega)];rfl
theorem RX(op:Rat->Rat->Rat)(a b:List Rat)(i:Nat)(h0:op 0 0=0):cf (br op a b) i=op (cf a i) (cf b i):=by
 unfold br;rw[eV];by_cases hi:i<max a.length b.length;·exact iu _ _ _ _ _ hi
 ·rw[bh (by rw[dw];omega),bh (l:=a) (by omega),bh (l:=b) (by omega),h0]
theorem Bu(m l:List Rat)(k i:Nat):cf (eb m l k) i=if i<k then mM m l i else 0:=by
 by_cases h:i<k
 ·rw[if_pos h];unfold cf eb;rw[List.getD_eq_getElem?_getD,List.getElem?_map,List.getElem?_range h];rfl
 ·rw[if_neg h,bh (by rw[nz];omega)]
theorem Gg{m l:List Rat}(hm:0<m.length)(hl:m.length<=l.length)(x:Rat):au (eb m l (l.length-1)) x=aB m*au l x-aB l*x^(l.length-m.length)*au m x:=by
 have e:au (eb m l (l.length-1)) x=au (br (· - ·) (b6 (aB m) l) (dt (l.length-m.length) (b6 (aB l) m))) x:=by
  refine U2 (fun i=>?_) x;rw[RX _ _ _ _ (by grind),Bu];unfold dt b6;rw[eV,eV,RW,eV,oz,oz];by_cases h1:i<l.length-1
  ·(rw[if_pos h1];unfold mM;split;·grind);·grind
  ·(rw[if_neg h1,if_pos (by omega)];by_cases h2:i=l.length-1;·subst h2;rw[<- bD (by omega),show l.length-1-(l.length-m.length)=m.length-1 by omega,<- bD hm];grind);·rw[bh (l:=l) (by omega),bh (l:=m) (by omega)];grind
 rw[e,ky,eI,jM,eI];grind
theorem yM{b c:Nat}{m l:List Rat}(h:Zb b l)(hm:Zb c m)(k:Nat):Zb (b+c+1) (eb m l k):=by
 intro i;rw[Bu];split
 ·have hlast:∀{d:Nat} {l:List Rat},Zb d l->∃n:Int,lw n<=d/\aB l=(n:Rat):=by
   (intro d l h;by_cases h0:l=[];·subst h0;exact⟨0,by rw[eT];omega,rfl⟩);·rw[bD (List.length_pos_iff.2 h0)];exact h _
  obtain⟨n1,a1,e1⟩:=h i;obtain⟨n2,a2,e2⟩:=hlast hm;obtain⟨n3,a3,e3⟩:=hlast h;obtain⟨n4,a4,e4⟩:=hm (i-(l.length-m.length));have b1:=bV n1 n2;have b2:=bV n3 n4;have b3:=DC (n1*n2) (n3*n4);unfold mM;split;·exact⟨n1*n2-n3*n4,by omega,by rw[e1,e2,e3,e4,Rat.intCast_sub,Rat.intCast_mul,Rat.intCast_mul]⟩
  ·exact⟨n1*n2,by omega,by rw[e1,e2,Rat.intCast_mul]⟩
 ·exact⟨0,by rw[eT];omega,rfl⟩
theorem Gh{b c:Nat}{m l:List Rat}(h:Zb b l)(hm:Zb c m):Zb (b+c+1) (iQ m l):=sl ((Gf (yM h hm _)).den (by omega)) (cL _)
theorem kT{m l:List Rat}(hl:0<l.length):(iQ m l).length<l.length:=by
 unfold iQ;rw[fy];have:=cN (eb m l (l.length-1));rw[nz] at this;omega
theorem xj(m l:List Rat):Trm (iQ m l):=qT (cL _)
def uV(m a r:List Rat):Prop:=∃(c:Rat) (s:List Rat),c≠0/\∀x,au r x=c*au a x-au s x*au m x
theorem uV.refl(m a:List Rat):uV m a a:=⟨1,[],by decide,fun x=>by rw[cH];grind⟩
theorem uV.trans{m a b r:List Rat}(h1:uV m a b)(h2:uV m b r):uV m a r:=by
 obtain⟨c,s,c0,e⟩:=h1;obtain⟨d,t,d0,f⟩:=h2;refine⟨d*c,br (· + ·) (b6 d s) t,?_,fun x=>?_⟩
 ·intro h;rcases Rat.mul_eq_zero.1 h with h|h
  ·exact d0 h
  ·exact c0 h
 ·rw[f,e,mH,eI];grind
theorem Kc{m l:List Rat}(hm:m≠[])(tm:Trm m)(hl:m.length<=l.length):uV m l (iQ m l):=by
 have hp:=List.length_pos_iff.2 hm;by_cases h0:aM (eb m l (l.length-1))=[];·refine⟨aB m,dt (l.length-m.length) [aB l],tm hm,fun x=>?_⟩;unfold iQ;rw[h0,jM,iW];have:=Gg hp hl x;rw[<- eU,h0,cH] at this;show au [] x=_;rw[cH];grind
 ·refine⟨aB m*fB (aM (eb m l (l.length-1))),dt (l.length-m.length) [aB l*fB (aM (eb m l (l.length-1)))],?_,fun x=>?_⟩
  ·(intro h;rcases Rat.mul_eq_zero.1 h with h|h);·exact tm hm h
   ·exact qS (cL _) h0 h
  ·unfold iQ;rw[uU,eU,Gg hp hl,jM,iW];grind
def oE(m:List Rat):Nat->List Rat->List Rat
 |0,l=>l
 |n+1,l=>if m.length<=l.length then oE m n (iQ m l) else l
def fJ(l m:List Rat):List Rat:=oE m (l.length+1) l
theorem rL{m:List Rat}(hm:0<m.length):∀(n k:Nat) (l:List Rat),l.length<n->l.length<k->oE m n l=oE m k l
 |0,_,_,h,_=>absurd h (Nat.not_lt_zero _)
 |_,0,_,_,h=>absurd h (Nat.not_lt_zero _)
 |n+1,k+1,l,h1,h2=>by
  unfold oE;split;·have:=kT (m:=m) (l:=l) (by omega);exact rL hm n k _ (by omega) (by omega)
  ·rfl
theorem oF{m l:List Rat}(hm:0<m.length)(hl:m.length<=l.length):fJ (iQ m l) m=fJ l m:=by
 have:=kT (m:=m) (l:=l) (by omega);unfold fJ;conv=>rhs;unfold oE
 rw[if_pos hl];exact rL hm _ _ _ (by omega) (by omega)
theorem qU{m l:List Rat}(hl:¬m.length<=l.length):fJ l m=l:=by
 unfold fJ oE;rw[if_neg hl]
theorem rM{m:List Rat}(hm:m≠[])(tm:Trm m){c:Nat}(zm:Zb c m):∀(n:Nat) (l:List Rat) (b:Nat),l.length<n->Trm l->Zb b l->
  uV m l (fJ l m)/\(fJ l m).length<m.length/\Trm (fJ l m)/\Zb (b+(l.length+1-m.length)*(c+1)) (fJ l m)
 |0,_,_,h,_,_=>absurd h (Nat.not_lt_zero _)
 |n+1,l,b,h,tl,zl=>by
  have hp:=List.length_pos_iff.2 hm;by_cases hl:m.length<=l.length
  ·have h1:=kT (m:=m) (l:=l) (by omega);obtain⟨r1,r2,r3,r4⟩:=rM hm tm zm n (iQ m l) (b+c+1) (by omega) (xj _ _) (Gh zl zm);rw[oF hp hl] at r1 r2 r3 r4;refine⟨(Kc hm tm hl).trans r1,r2,r3,r4.mono ?_⟩;have h2:((iQ m l).length+1-m.length)*(c+1)<=(l.length-m.length)*(c+1):=Nat.mul_le_mul_right _ (by omega);have h3:(l.length+1-m.length)*(c+1)=(l.length-m.length)*(c+1)+(c+1):=by
    rw[show l.length+1-m.length=(l.length-m.length)+1 by omega,Nat.succ_mul]
   omega
  ·rw[qU hl];exact⟨uV.refl _ _,by omega,tl,zl.mono (by omega)⟩
theorem T2{m a r d:List Rat}(h:uV m a r):(Dv d m/\Dv d r)↔(Dv d a/\Dv d m):=by
 obtain⟨c,s,c0,e⟩:=h;constructor;·rintro⟨⟨u,_,hu⟩,⟨v,_,hv⟩⟩;refine⟨⟨br (· + ·) (b6 (1/c) v) (b6 (1/c) (cB s u)),ct _ _ _,fun x=>?_⟩,⟨u,by assumption,hu⟩⟩;rw[mH,eI,eI,eO];have h1:=hu x;have h2:=hv x;have h3:=e x;grind
 ·rintro⟨⟨u,_,hu⟩,⟨v,_,hv⟩⟩;refine⟨⟨v,by assumption,hv⟩,⟨br (· - ·) (b6 c u) (cB s v),ct _ _ _,fun x=>?_⟩⟩;rw[ky,eI,eO];have h1:=hu x;have h2:=hv x;have h3:=e x;grind
def xk:Nat->List Rat->List Rat->List Rat
 |0,a,_=>a
 |n+1,a,b=>if b=[] then a else xk n b (fJ a b)
def nL(a b:List Rat):List Rat:=xk (b.length+1) a b
theorem uW{a b:List Rat}(h:b≠[]):∀n,a.length<n->(fJ a b).length<b.length:=by
 have hp:=List.length_pos_iff.2 h;intro n;induction n generalizing a with
 |zero=>intro h;omega
 |succ n ih=>
  intro hn;by_cases hl:b.length<=a.length;·have h1:=kT (m:=b) (l:=a) (by omega);rw[<- oF hp hl];exact ih (by omega)
  ·rw[qU hl];omega
theorem uX:∀(n k:Nat) (a b:List Rat),b.length<n->b.length<k->xk n a b=xk k a b
 |0,_,_,_,h,_=>absurd h (Nat.not_lt_zero _)
 |_,0,_,_,_,h=>absurd h (Nat.not_lt_zero _)
 |n+1,k+1,a,b,h1,h2=>by
  unfold xk;split;·rfl
  ·rename_i hb;have:=uW hb (a:=a) _ (Nat.lt_succ_self _);exact uX n k _ _ (by omega) (by omega)
theorem qV{a b:List Rat}(h:b≠[]):nL b (fJ a b)=nL a b:=by
 have:=uW h (a:=a) _ (Nat.lt_succ_self _);unfold nL;conv=>rhs;unfold xk
 rw[if_neg h];exact uX _ _ _ _ (by omega) (by omega)
theorem Bv(a:List Rat):nL a []=a:=rfl
def RK:Nat:=450000
structure jP (a b:List Rat):Prop where
 ta:Trm a
 tb:Trm b
 la:a.length<=20
 lb:b.length<=20
 sz:∃k,Zb k a/\Zb k b/\(k+1)*(a.length+1-b.length+1)*3^b.length<=RK
theorem jP.zk{a b:List Rat}(h:jP a b):Zb RK a/\Zb RK b:=by
 obtain⟨k,k1,k2,k3⟩:=h.sz;have h1:k+1<=(k+1)*(a.length+1-b.length+1)*3^b.length:=by
  rw[Nat.mul_assoc];exact Nat.le_mul_of_pos_right _ (Nat.mul_pos (by omega) (Nat.pow_pos (by decide)))
 exact⟨k1.mono (by omega),k2.mono (by omega)⟩
theorem jP.next{a b:List Rat}(h:jP a b)(hb:b≠[]):jP b (fJ a b)/\uV b a (fJ a b)/\(fJ a b).length<b.length/\∃k,Zb k a/\Zb k b/\k+(a.length+1-b.length)*(k+1)<=RK:=by
 obtain⟨k,k1,k2,k3⟩:=h.sz;obtain⟨r1,r2,r3,r4⟩:=rM hb h.tb k2 _ a k (Nat.lt_succ_self _) h.ta k1;have hbp:=List.length_pos_iff.2 hb;generalize fJ a b=r at*;generalize hd:a.length+1-b.length=t at*;have e1:k+t*(k+1)+1=(k+1)*(t+1):=by rw[Nat.mul_comm t (k+1),Nat.mul_add,Nat.mul_one];omega
 have h3:1<=3^b.length:=Nat.pow_pos (by decide);have h4:k+t*(k+1)+1<=RK:=by
  rw[e1];exact Nat.le_trans (Nat.le_mul_of_pos_right _ h3) k3
 refine⟨⟨h.tb,r3,h.lb,by have:=h.lb;omega,k+t*(k+1),k2.mono (by omega),r4,?_⟩,r1,r2,k,k1,k2,by omega⟩;rw[e1];refine Nat.le_trans ?_ k3;rw[Nat.mul_assoc];refine Nat.mul_le_mul_left _ ?_;obtain⟨d,hd2⟩:∃d,b.length=r.length+(d+1):=⟨b.length-r.length-1,by omega⟩;rw[hd2,Nat.pow_add,Nat.mul_comm (3^r.length)];refine Nat.mul_le_mul_right _ ?_;have:=qI d;omega
theorem Oh:∀(n:Nat) (a b:List Rat),b.length<n->jP a b->∀d,Dv d (nL a b)↔(Dv d a/\Dv d b)
 |0,_,_,h,_=>absurd h (Nat.not_lt_zero _)
 |n+1,a,b,hn,h=>by
  intro d;by_cases hb:b=[];·subst hb;rw[Bv];exact⟨fun h=>⟨h,Dv.nil d⟩,fun h=>h.1⟩
  ·obtain⟨p1,p2,p3,_⟩:=h.next hb;rw[<- qV hb,Oh n _ _ (by omega) p1 d];exact T2 p2
theorem xl:∀(n:Nat) (a b:List Rat),b.length<n->jP a b->Trm (nL a b)/\Zb RK (nL a b)/\(nL a b).length<=20/\((a≠[]∨b≠[])->nL a b≠[])
 |0,_,_,h,_=>absurd h (Nat.not_lt_zero _)
 |n+1,a,b,hn,h=>by
  by_cases hb:b=[]
  ·subst hb;rw[Bv];exact⟨h.ta,h.zk.1,h.la,fun h=>h.resolve_right (fun e=>e rfl)⟩
  ·obtain⟨p1,p2,p3,_⟩:=h.next hb;obtain⟨q1,q2,q3,q4⟩:=xl n _ _ (by omega) p1;rw[qV hb] at q1 q2 q3 q4;exact⟨q1,q2,q3,fun _=>q4 (.inl hb)⟩
def pK(l:List Rat):List Rat:=if l=[] then [] else b6 (1/aB l) l
theorem yN{l:List Rat}(h:Trm l):pK l=cy l:=by
 unfold pK;by_cases h0:l=[];·subst h0;rfl
 ·rw[if_neg h0];exact kz (cL _) (ea h) fun x=>by rw[eI,uD];grind
def gO(p q:List Rat):List Rat:=pK (nL (cb p) (cb q))
theorem Bw{d p:List Rat}(tp:Trm p):Dv d (cb p)↔Dv d p:=by
 by_cases h0:p=[]
 ·subst h0;rfl
 have ht:=qS tp h0;constructor;·rintro⟨s,ts,h⟩;refine⟨b6 (1/fB p) s,cL _,fun x=>?_⟩;have:=h x;rw[uU] at this;rw[eI];grind
 ·rintro⟨s,ts,h⟩;refine⟨b6 (fB p) s,cL _,fun x=>?_⟩;have:=h x;rw[uU,eI];grind
theorem xm{p q:List Rat}(hp:Sml 9 10 p)(hq:Sml 9 10 q):jP (cb p) (cb q):=by
 have h1:=hp.len;have h2:=hq.len;refine⟨qT hp.trm,qT hq.trm,by rw[fy];omega,by rw[fy];omega,10,sl hp.den hp.trm,sl hq.den hq.trm,?_⟩;rw[fy,fy];generalize p.length=m at*;generalize q.length=n at*;have key:∀n,n<=9->∀m,m<=9->(10+1)*(m+1-n+1)*3^n<=450000:=by decide
 exact key n h2 m h1
theorem Oi{l:List Rat}(h:l≠[])(t:Trm l):aB (cy l)=1:=by
 rw[lH (List.length_pos_iff.2 h)];have:=t h;grind
theorem RY{p q:List Rat}(hp:Sml 9 10 p)(hq:Sml 9 10 q):gO p q=cd p q:=by
 have hs:=xm hp hq;obtain⟨t1,_,_,t4⟩:=xl _ _ _ (Nat.lt_succ_self _) hs;have hd:=Oh _ _ _ (Nat.lt_succ_self _) hs;unfold gO;rw[yN t1];by_cases h0:p=[]/\q=[];·obtain⟨rfl,rfl⟩:=h0;rfl
 ·have h1:p≠[]∨q≠[]:=by
   by_cases hp0:p=[]
   ·exact .inr fun e=>h0 ⟨hp0,e⟩
   ·exact .inl hp0
  have w:∀{l:List Rat},l≠[]->cb l≠[]:=fun h e=>h (List.eq_nil_of_length_eq_zero (by rw[<- fy,e];rfl));have g0:=sk h1;have r0:nL (cb p) (cb q)≠[]:=t4 (h1.imp w w);generalize nL (cb p) (cb q)=r at*;have m0:cy r≠[]:=fun e=>r0 (nx.1 e);have both:∀d,Dv d (cy r)↔Dv d (cd p q):=fun d=>by
   rw[uR t1,hd d,Bw hp.trm,Bw hq.trm,Gd hp.trm hq.trm]
  exact RH (ea t1) (uN hp.trm hq.trm) m0 g0 (Oi r0 t1) (Bp hp.trm hq.trm g0) ((both _).1 (Dv.refl _)) ((both _).2 (Dv.refl _))
def kU(q p:List Rat):List Rat:=br (· - ·) p (dt (p.length-q.length) (b6 (aB p/aB q) q))
def uY(q p s:List Rat):List Rat:=br (· + ·) s (dt (p.length-q.length) [aB p/aB q])
theorem Bx{q p:List Rat}(hl:q.length<=p.length):kU q p=aM (cA q p):=
 kz (ct _ _ _) (cL _) fun x=>by unfold kU;rw[ky,jM,eI,uE hl];grind
theorem qW{q p:List Rat}(hl:q.length<=p.length)(hq:q≠[])(tq:Trm q):(kU q p).length<p.length:=by
 have hp:=List.length_pos_iff.2 hq;rw[Bx hl];exact fh hp hl (tq hq)
def gP(q:List Rat):Nat->List Rat->List Rat->List Rat×List Rat
 |0,p,s=>(s,p)
 |n+1,p,s=>if q.length<=p.length then gP q n (kU q p) (uY q p s) else (s,p)
def gQ(p q:List Rat):List Rat×List Rat:=gP q (p.length+1) p []
theorem rN{q:List Rat}(hq:q≠[])(tq:Trm q):∀(n k:Nat) (p s:List Rat),p.length<n->p.length<k->gP q n p s=gP q k p s
 |0,_,_,_,h,_=>absurd h (Nat.not_lt_zero _)
 |_,0,_,_,_,h=>absurd h (Nat.not_lt_zero _)
 |n+1,k+1,p,s,h1,h2=>by
  unfold gP;split;·rename_i hl;have:=qW hl hq tq;exact rN hq tq n k _ _ (by omega) (by omega)
  ·rfl
structure oG (q:List Rat) (c:Nat) (P:List Rat×List Rat) (p s:List Rat):Prop where
 tp:Trm p
 ts:Trm s
 lp:p.length<=20
 ls:s.length<=20
 sz:∃b K,Den b p/\(∀x∈s,lq x<=K)/\1<=K/\b+(p.length+1-q.length)*(c+1)<=100000/\K+(p.length+1-q.length)*100001<=3000000
 go:gP q (p.length+1) p s=P
theorem DZ{p q:List Rat}{b c:Nat}(tp:Trm p)(hp:p.length<=20)(dp:Den b p)(hb:b+(p.length+1-q.length)*(c+1)<=100000)(hq:q≠[]):oG q c (gQ p q) p []:=by
 have h1:=List.length_pos_iff.2 hq;refine⟨tp,kh,hp,by simp,⟨b,1,dp,by simp,Nat.le_refl _,hb,?_⟩,rfl⟩;have:(p.length+1-q.length)*100001<=20*100001:=Nat.mul_le_mul_right _ (by omega);omega
theorem oG.sizes{q p s:List Rat}{c:Nat}{P:List Rat×List Rat}(h:oG q c P p s)(dq:Den c q)(hl:q.length<=p.length):(∀x∈p,lq x<=100000)/\(∀x∈q,lq x<=100000)/\lq (aB p/aB q)<=100000/\∀x∈s,lq x<=3000000:=by
 obtain⟨b,K,h1,h2,h3,h4,h5⟩:=h.sz;have h6:c+1<=(p.length+1-q.length)*(c+1):=Nat.le_mul_of_pos_left _ (by omega);have lb:∀{b:Nat} {l:List Rat},Den b l->lq (aB l)<=b:=by
  intro b l h;by_cases h0:l=[];·subst h0;show lq 0<=b;exact Nat.le_trans jh h.pos
  ·rw[bD (List.length_pos_iff.2 h0)];exact gg h.lq h.pos _
 have h7:=ov (aB p) (aB q);have h8:=lb h1;have h9:=lb dq;refine⟨fun x hx=>Nat.le_trans (h1.lq x hx) (by omega),fun x hx=>Nat.le_trans (dq.lq x hx) (by omega),by omega,fun x hx=>Nat.le_trans (h2 x hx) (by omega)⟩
theorem oG.next{q p s:List Rat}{c:Nat}{P:List Rat×List Rat}(h:oG q c P p s)(dq:Den c q)(hq:q≠[])(tq:Trm q)(hl:q.length<=p.length):oG q c P (kU q p) (uY q p s)/\(kU q p).length<p.length:=by
 have hlen:=qW hl hq tq;obtain⟨s1,s2,s3,_⟩:=h.sizes dq hl;obtain⟨b,K,h1,h2,h3,h4,h5⟩:=h.sz;have hp:=List.length_pos_iff.2 hq;have lp:=h.lp;have ls:=h.ls;refine⟨⟨ct _ _ _,ct _ _ _,by omega,?_,⟨b+c+1,K+100000+1,?_,?_,by omega,?_,?_⟩,?_⟩,hlen⟩;·have h6:=dx (· + ·) s (dt (p.length-q.length) [aB p/aB q]);have h7:=kS (p.length-q.length) [aB p/aB q];rw[List.length_singleton] at h7;unfold uY;omega
 ·rw[Bx hl];exact py h1 dq hl (tq hq) hp
 ·exact N3 h3 (by omega) h2 (mL (by omega) fun x hx=>by rw[List.mem_singleton.1 hx];exact s3)
 ·have h6:((kU q p).length+1-q.length)*(c+1)<=(p.length-q.length)*(c+1):=Nat.mul_le_mul_right _ (by omega);have h7:(p.length+1-q.length)*(c+1)=(p.length-q.length)*(c+1)+(c+1):=by
   rw[show p.length+1-q.length=(p.length-q.length)+1 by omega,Nat.succ_mul]
  omega
 ·have h6:((kU q p).length+1-q.length)*100001<=(p.length-q.length)*100001:=Nat.mul_le_mul_right _ (by omega);omega
 ·rw[<- h.go];conv=>rhs;unfold gP
  rw[if_pos hl];exact rN hq tq _ _ _ _ (by omega) (by omega)
theorem oG.fin{q p s:List Rat}{c:Nat}{P:List Rat×List Rat}(h:oG q c P p s)(hl:¬q.length<=p.length):P=(s,p):=by
 rw[<- h.go];unfold gP;rw[if_neg hl]
theorem xn{q:List Rat}(hq:q≠[])(tq:Trm q)(x:Rat):∀(n:Nat) (p s:List Rat),p.length<n->Trm p->Trm s->
  au (gP q n p s).1 x*au q x+au (gP q n p s).2 x=au s x*au q x+au p x/\(gP q n p s).2.length<q.length/\Trm (gP q n p s).1/\Trm (gP q n p s).2
 |0,_,_,h,_,_=>absurd h (Nat.not_lt_zero _)
 |n+1,p,s,h,tp,ts=>by
  unfold gP;split;·rename_i hl;have h1:=qW hl hq tq;obtain⟨h2,h3,h4,h5⟩:=xn hq tq x n (kU q p) (uY q p s) (by omega) (ct _ _ _) (ct _ _ _);refine⟨?_,h3,h4,h5⟩;rw[h2];unfold kU uY;rw[mH,ky,jM,jM,eI,iW];grind
  ·exact⟨rfl,Nat.lt_of_not_le (by assumption),ts,tp⟩
theorem RZ{p q:List Rat}(tp:Trm p)(hq:q≠[])(tq:Trm q):aM (divN p q).1=(gQ p q).1/\(divN p q).2=(gQ p q).2:=by
 have h:=fun x=>xn hq tq x (p.length+1) p [] (Nat.lt_succ_self _) tp kh;obtain⟨_,h2,h3,h4⟩:=h 0;refine rJ hq tp tq h3 h4 h2 fun x=>?_;have:=(h x).1;rw[cH] at this;unfold gQ;rw[this];grind
def nX(l:List Rat):List Rat:=if l=[] then [] else pK (gQ l (gO l (bl l))).1
theorem Bz{l:List Rat}{x:Rat}{k:Nat}(hk:k<l.length):au (List.drop k l) x=au (List.drop (k+1) l) x*x+cf l k:=by
 rw[List.drop_eq_getElem_cons hk];have e:l[k]=cf l k:=by unfold cf;rw[List.getD_eq_getElem?_getD,List.getElem?_eq_getElem hk];rfl
 rw[e];rfl
end Go.Cm
end
section
namespace Go.Cm
open Go.Proofs
theorem xo(p q:List Rat)(hq:q≠[]):∀k,(cV p q (k+1)).length<=k*(q.length-1)+1
 |0=>by
  have:=dx (· + ·) (cB [] q) (aM [cf p (p.length-1-0)]);have h5:=cN [cf p (p.length-1-0)];simp only[List.length_cons,List.length_nil] at h5;rw[cZ] at this;simp only[List.length_nil] at this;show (br (· + ·) (cB [] q) (aM [cf p (p.length-1-0)])).length<=_;rw[cZ];omega
 |k+1=>by
  have ih:=xo p q hq k;have h3:=dx (· + ·) (cB (cV p q (k+1)) q) (aM [cf p (p.length-1-(k+1))]);have h5:=cN [cf p (p.length-1-(k+1))];simp only[List.length_cons,List.length_nil] at h5;have hql:=List.length_pos_iff.2 hq;rw[cV,kN,Nat.add_mul];by_cases hz:cV p q (k+1)=[];·rw[hz,cZ] at h3 ⊢;simp only[List.length_nil] at h3;omega
  ·rw[dI hz hq] at h3;omega
theorem Oj{p q:List Rat}(h:¬(0<p.length/\0<q.length/\40<(p.length-1)*(q.length-1))):(fH p q).length<=41:=by
 unfold fH;by_cases hp:p=[];·subst hp;simp[cV]
 have hpl:=List.length_pos_iff.2 hp;obtain⟨k,hk⟩:∃k,p.length=k+1:=⟨p.length-1,by omega⟩;by_cases hq:q=[];·subst hq;rw[hk,cV,kN,ew];have h3:=dx (· + ·) [] (aM [cf p (p.length-1-k)]);have h5:=cN [cf p (p.length-1-k)];simp only[List.length_cons,List.length_nil] at h5 h3;omega
 ·have hql:=List.length_pos_iff.2 hq;have:=xo p q hq k;rw[hk] at h ⊢;have h2:¬40<(k+1-1)*(q.length-1):=fun e=>h ⟨by omega,hql,e⟩;rw[Nat.add_sub_cancel] at h2;omega
theorem Ok{p q:List Rat}(pp:Pol p)(pq:Pol q):jL (txP p) (txP q)↔(0<p.length/\0<q.length/\40<(p.length-1)*(q.length-1)):=by
 unfold jL;rw[pp.chk,pq.chk,aR,aR];simp
end Go.Cm
namespace Go.Cm
open Go.Proofs
end Go.Cm
end
section
namespace Go.Cm
open Go.Proofs
def qX:List (List UInt8)->Int
 | []=>0
 |q::l=>if ck q=0 then qX l else ck q
theorem yO{p:List (List UInt8)}(h:p.all (fun q=>decide (ck q=0))=true):qX p=0:=by
 induction p with
 |nil=>rfl
 |cons q l ih=>
  simp only[List.all_cons,Bool.and_eq_true,decide_eq_true_eq] at h;unfold qX;rw[if_pos h.1];exact ih h.2
theorem Ol{p:List (List UInt8)}{k:Nat}(hk:k<p.length)(h:(p.take k).all (fun q=>decide (ck q=0))=true)(hb:¬ck (nth .str p (k:Int))=0):ck (nth .str p (k:Int))=qX p:=by
 rw[eu (t:= .str) hk] at hb ⊢;induction p generalizing k with
 |nil=>simp at hk
 |cons q l ih=>
  unfold qX;cases k with
  |zero=>exact(if_neg hb).symm
  |succ k=>
   simp only[List.take_succ_cons,List.all_cons,Bool.and_eq_true,decide_eq_true_eq] at h;rw[if_pos h.1];exact ih (by simpa using hk) h.2 (by simpa using hb)
theorem Om{p:List (List UInt8)}:qX p=0↔p.all (fun q=>decide (ck q=0))=true:=by
 refine⟨fun h=>?_,yO⟩;induction p with
 |nil=>rfl
 |cons q l ih=>
  unfold qX at h;split at h;·rename_i hq;rw[List.all_cons,ih h];simp[hq]
  ·rename_i hq;exact absurd h hq
theorem pL(p:List (List UInt8)):p.getLastD []=p.getLast?.getD []:=List.getLastD_eq_getLast? ..
theorem D0(p:List (List UInt8)):(decide (p.length<=41)&&decide (qX p=0)&&(decide (p=[])||decide (p.getLastD []≠[48])))=decide (bG p=0):=by
 unfold bG;by_cases h1:41<p.length
 ·rw[if_pos h1];have:¬p.length<=41:=by omega
  simp[this]
 ·rw[if_neg h1];have h1':p.length<=41:=by omega
  by_cases h2:p.all (fun q=>decide (ck q=0))=true
  ·rw[if_neg (by rw[h2];decide)];have h3:=yO h2;by_cases h4:p≠[]/\p.getLastD []=[48];·rw[if_pos h4];obtain⟨h5,h6⟩:=h4;rw[pL] at h6;simp[h1',h3,h5,h6]
   ·(rw[if_neg h4];by_cases h5:p=[];·simp[h5,qX]);·have h6:¬p.getLastD []=[48]:=fun e=>h4 ⟨h5,e⟩;rw[pL] at h6;simp[h1',h3,h6]
  ·rw[if_pos (by simpa using h2)];have h3:¬qX p=0:=fun e=>h2 (Om.1 e);simp[h3]
def iy(q:List UInt8):Bool:=decide (cr (ah (tN q))<=2000/\cr (ah (tD q))<=2000)
theorem yP(x:Rat):iy (aG x)=gI x:=by
 obtain⟨h1,h2,_⟩:=dJ x;unfold iy gI;rw[h1,h2,(aF _).2,(aF _).2]
theorem Oo(l:List Rat):(txP l).all iy=kP l:=by
 unfold txP kP;rw[List.all_map];congr 1;funext x;exact yP x
def FL(p:List (List UInt8)):Prop:=p.length<=1000/\∀q∈p,eG q
theorem Gi{x:Rat}{K:Nat}(h:lq x<=K)(hK:K<=10000000):eG (aG x):=by
 have hr:RQ (aG x):=by
  refine⟨?_,?_⟩;·rw[qL];unfold l4;split<;>decide
  ·have:=iw h;unfold QL;omega
 exact hr.form
theorem Gj{l:List Rat}{K:Nat}(hn:l.length<=1000)(h:∀x∈l,lq x<=K)(hK:K<=10000000):FL (txP l):=by
 refine⟨by rw[aR];exact hn,fun q hq=>?_⟩;obtain⟨x,hx,rfl⟩:=List.mem_map.1 hq;exact Gi (h x hx) hK
def jQ(p:List (List UInt8))(e:Int)(w:List (List UInt8)):Bool:=if w.all iy=true then decide (e=0/\p=w) else decide (p=[]/\e=6)
theorem xp{f:List Rat->List Rat->List Rat}{l m:List Rat}(hl:Pol l)(hm:Pol m){r:List Rat}(hr:aM (f l m)=r)(hn:r.length<=41):jQ (cF f (txP l) (txP m)) (cM f (txP l) (txP m)) (txP r)=true:=by
 have e1:cM f (txP l) (txP m)=cz r:=by unfold cM;rw[if_pos (wY hl hm),hl.num,hm.num,hr]
 have e2:cF f (txP l) (txP m)=gY r:=by unfold cF;rw[if_pos (wY hl hm),hl.num,hm.num,hr]
 rw[e1,e2];unfold jQ;rw[Oo];by_cases hf:kP r=true
 ·have:cz r=0:=by unfold cz;rw[if_neg (by omega),if_pos (by rw[wX];exact hf)]
  rw[if_pos hf,this];unfold gY;rw[if_pos this];simp[txP]
 ·have:cz r=6:=by unfold cz;rw[if_neg (by omega),if_neg (by rw[wX];exact hf)]
  rw[if_neg hf,this];unfold gY;rw[if_neg (by rw[this];decide)];simp
def oH(p:List (List UInt8)):List (List UInt8):=(p.take 6).map fun q=>q.take 8
structure Part (p:List (List UInt8)):Prop where
 short:de p
 sml:bG p=0->txP (bj p)=p/\Pol (bj p)/\Sml 9 9 (bj p)
theorem pM(p:List (List UInt8)):bG p=0∨bG p=40:=by
 unfold bG;split;·exact .inr rfl
 ·split;·exact .inr rfl
  ·(split;·exact .inr rfl);·exact .inl rfl
theorem mN(p:List (List UInt8)):Part (oH p):=by
 have hl:(oH p).length<=6:=by unfold oH;rw[List.length_map,List.length_take];omega
 have hq:∀q∈oH p,q.length<=8:=by
  intro q hq;obtain⟨x,_,rfl⟩:=List.mem_map.1 hq;rw[List.length_take];omega
 have hs:de (oH p):=⟨by unfold QL;omega,fun q h=>by have:=hq q h;unfold QL;omega⟩;refine⟨hs,fun hc=>?_⟩;obtain⟨t1,t2,t3,t4⟩:=FT hs hc;have hn:(bj (oH p)).length=(oH p).length:=by rw[<- t1,aR,t1]
 have hlq:∀x∈bj (oH p),lq x<=1:=by
  intro x hx;have hm:aG x∈oH p:=by rw[<- t1];exact List.mem_map.2 ⟨x,hx,rfl⟩
  have h8:=hq _ hm;obtain⟨p1,p2,_⟩:=dJ x;have hN:=mA (aG x);have hD:=mB (aG x);rw[p1] at hN;rw[p2] at hD;have key:∀n:Int,(Lib.itoa n).length<=9->lw n<=1:=by
   intro n hn;have h1:=Di (aF n).1;rw[(aF n).2] at h1;refine jG ?_;have h2:(10:Nat)^(Lib.itoa n).length<=10^9:=Nat.pow_le_pow_right (by omega) hn;show _<(1000000000:Int)^1;omega
  exact Nat.max_le.2 ⟨key _ (by omega),key _ (by omega)⟩
 have hsm:=DT (n:=6) (K:=1) (by omega) t3 (by decide) hlq;exact⟨t1,⟨t2,t3,t4⟩,⟨by have:=hsm.len;omega,hsm.trm,hsm.den.mono (by decide)⟩⟩
theorem lL{d:DPD}(h:jT d):Part (txP (nW d)):=by
 have hs:=J5 h;have pp:=hs.pol (by decide) (by decide);exact⟨pp.short,fun _=>by rw[pp.num];exact⟨rfl,pp,hs⟩⟩
def oI(p q:List (List UInt8))(d f:DPD):List (List (List (List UInt8))):=
 [[oH p,oH q],[oH p,txP (nW f)],[txP (nW d),oH q],[txP (nW d),txP (nW f)]]
theorem D3{p q:List (List UInt8)}{d f:DPD}(hd:jT d)(hf:jT f){k:Nat}(hk:k<4):∃a b,nth (.arr 2 (.slice .str)) (oI p q d f) (k:Int)=[a,b]/\Part a/\Part b:=by
 have:k=0∨k=1∨k=2∨k=3:=by omega
 rcases this with rfl|rfl|rfl|rfl;·exact⟨_,_,rfl,mN p,mN q⟩
 ·exact⟨_,_,rfl,mN p,lL hf⟩
 ·exact⟨_,_,rfl,lL hd,mN q⟩
 ·exact⟨_,_,rfl,lL hd,lL hf⟩
theorem BA{a b:List (List UInt8)}(h:¬(bG a=0/\bG b=0)):bT [a,b]=40:=by
 unfold bT;rcases pM a with ha|ha
 ·rw[if_pos ha];rcases pM b with hb|hb;·exact absurd ⟨ha,hb⟩ h
  ·unfold bT;rw[if_neg (by rw[hb];decide)];exact hb
 ·rw[if_neg (by rw[ha];decide)];exact ha
theorem Gk{f:List Rat->List Rat->List Rat}{a b:List (List UInt8)}(h:¬(bG a=0/\bG b=0)):cF f a b=[]/\cM f a b=40:=by
 have:=BA h;unfold cF cM;rw[if_neg (by rw[this];decide),if_neg (by rw[this];decide)];exact⟨rfl,this⟩
theorem yQ{D:List ND->List ND->Prop}{f:List Rat->List Rat->List Rat}{a b:List (List UInt8)}(ha:Part a)(hb:Part b)(h:¬(bG a=0/\bG b=0)):bR D f a b:=
 ⟨ha.short,hb.short,fun e=>by rw[BA h] at e;exact absurd e (by decide)⟩
theorem D4{p:List (List UInt8)}(hl:p.length<=1000000000){b:Bool}(h:(b&& !((p.length:Int)==0))=true):0<=IntKind.i64.wrap ((p.length:Int)-1)/\IntKind.i64.wrap ((p.length:Int)-1)<(p.length:Int):=by
 simp only[Bool.and_eq_true,Bool.not_eq_true',beq_eq_false_iff_ne] at h;rw[bU hl];omega
theorem D5{p:List (List UInt8)}:(decide ((p.length:Int)<=41)&&qX p==0&&((p.length:Int)==0||nth Ty.str p (IntKind.i64.wrap ((p.length:Int)-1)) !=[48]))=decide (bG p=0):=by
 rw[<- D0];have e1:decide ((p.length:Int)<=41)=decide (p.length<=41):=by
  rw[Bool.eq_iff_iff,decide_eq_true_iff,decide_eq_true_iff];omega
 rw[e1,TZ,SO];by_cases hl:p.length<=41
 ·by_cases hp:p=[]
  ·subst hp;rfl
  ·rw[mK hl (List.length_pos_iff.2 hp)];congr 2;rw[Bool.eq_iff_iff];simp
 ·simp[hl]
theorem Oq{m:List (List (List UInt8))}{k j:Nat}(hk:k<m.length)(hj:j<List.length (nth (.slice .str) m (k:Int)))(hb:¬(cr (ah (tN (nth .str (nth (.slice .str) m (k:Int)) (j:Int))))<=2000/\cr (ah (tD (nth .str (nth (.slice .str) m (k:Int)) (j:Int))))<=2000)):false=List.all m fun p=>List.all p iy:=by
 symm
 rw[List.all_eq_false];refine⟨_,eN (t:= .slice .str) hk,?_⟩;rw[Bool.not_eq_true,List.all_eq_false];exact⟨_,eN (t:= .str) hj,by unfold iy;simpa using hb⟩
theorem R0{m:List (List (List UInt8))}{k j:Nat}(hl:List.length (nth (.slice .str) m (k:Int))<=1000)(hj:j<List.length (nth (.slice .str) m (k:Int)))(g:(List.take j (nth (.slice .str) m (k:Int))).all iy=true)(hb:cr (ah (tN (nth .str (nth (.slice .str) m (k:Int)) (j:Int))))<=2000/\cr (ah (tD (nth .str (nth (.slice .str) m (k:Int)) (j:Int))))<=2000):
  ∃z:Nat,IntKind.i64.wrap ((j:Int)+1)=(z:Int)/\z<=List.length (nth (.slice .str) m (k:Int))/\(List.take z (nth (.slice .str) m (k:Int))).all iy=true/\List.length (nth (.slice .str) m (k:Int))-z<List.length (nth (.slice .str) m (k:Int))-j:=by
 refine⟨j+1,wo,hj,?_,by omega⟩;rw[List.take_succ_eq_append_getElem hj,List.all_append,g];rw[eu (t:= .str) hj] at hb;have:iy ((nth (.slice .str) m (k:Int))[j])=true:=by unfold iy;exact decide_eq_true hb
 simp[this]
theorem Ot{m:List (List (List UInt8))}{k j:Nat}(hl:m.length<=1000)(hk:k<m.length)(hj:¬j<List.length (nth (.slice .str) m (k:Int)))(g2:(m.take k).all (fun p=>p.all iy)=true)(g:(List.take j (nth (.slice .str) m (k:Int))).all iy=true):
  ∃z:Nat,IntKind.i64.wrap ((k:Int)+1)=(z:Int)/\z<=m.length/\((List.take z m).all fun p=>List.all p iy)=true/\m.length-z<m.length-k:=by
 refine⟨k+1,wo,hk,?_,by omega⟩;rw[List.take_of_length_le (by omega)] at g;rw[List.take_succ_eq_append_getElem hk,List.all_append,g2];rw[eu (t:= .slice .str) hk] at g;have g':List.all m[k] iy=true:=g;simp only[List.all_cons,List.all_nil,Bool.and_true,Bool.true_and];exact g'
theorem Kd{m:List (List (List UInt8))}{k:Nat}(hk:¬k<m.length)(g2:(m.take k).all (fun p=>p.all iy)=true):true=List.all m fun p=>List.all p iy:=by
 rw[List.take_of_length_le (by omega)] at g2;exact g2.symm
theorem R2{p:List (List UInt8)}{k:Nat}(hk:¬k<p.length)(g2:(p.take k).all (fun q=>decide (ck q=0))=true):0=qX p:=by
 rw[List.take_of_length_le (by omega)] at g2;exact(yO g2).symm
theorem R3{p w:List (List UInt8)}{e:Int}(h2:List.all w iy=false):(((p.length:Nat):Int)==0&&e==6)=jQ p e w:=by
 unfold jQ;rw[if_neg (by rw[h2];decide)];exact Bq p e 6
theorem R4{p w:List (List UInt8)}{e:Int}(h2:List.all w iy=true):(e==0&&decide (p=w))=jQ p e w:=by
 unfold jQ;rw[if_pos h2];exact Oe e p w
theorem R5{p:List (List UInt8)}:(0:Int)<=0/\(0:Int)<=min ((p.length:Nat):Int) 6/\min ((p.length:Nat):Int) 6<=((p.length:Nat):Int):=by omega
theorem Ou{p:List (List UInt8)}:List.drop (Int.toNat 0) (List.take (Int.toNat (min ((p.length:Nat):Int) 6)) p)=List.take 6 p:=by
 rw[show Int.toNat 0=0 from rfl,List.drop_zero];by_cases h:p.length<=6;·rw[List.take_of_length_le (by omega),List.take_of_length_le h]
 ·congr 1;omega
theorem Ov{q:List UInt8}:List.drop (Int.toNat 0) (List.take (Int.toNat (min ((q.length:Nat):Int) 8)) q)=List.take 8 q:=by
 rw[show Int.toNat 0=0 from rfl,List.drop_zero];by_cases h:q.length<=8;·rw[List.take_of_length_le (by omega),List.take_of_length_le h]
 ·congr 1;omega
theorem Ke{p:List (List UInt8)}{k:Nat}(hk:k<(List.take 6 p).length):∃z:Nat,IntKind.i64.wrap ((k:Int)+1)=(z:Int)/\List.map (fun q=>List.take 8 q) (List.take k (List.take 6 p))++ [List.drop (Int.toNat 0) (List.take (Int.toNat (min ((List.length (nth Ty.str (List.take 6 p) (k:Int)):Nat):Int) 8)) (nth Ty.str (List.take 6 p) (k:Int)))]=List.map (fun q=>List.take 8 q) (List.take z (List.take 6 p))/\
    z<=(List.take 6 p).length/\(List.take 6 p).length-z<(List.take 6 p).length-k:=by
 have h6:(List.take 6 p).length<=6:=by rw[List.length_take];omega
 refine⟨k+1,wo,?_,hk,by omega⟩;rw[Ov,eu (t:= .str) hk];have e:List.take (k+1) (List.take 6 p)=List.take k (List.take 6 p)++ [(List.take 6 p)[k]]:=List.take_succ_eq_append_getElem hk;rw[e,List.map_append];rfl
theorem R6{p:List (List UInt8)}{k:Nat}(hk:¬k<(List.take 6 p).length):List.map (fun q=>List.take 8 q) (List.take k (List.take 6 p))=oH p:=by
 rw[List.take_of_length_le (by omega)];rfl
theorem Kf{q:List UInt8}{p:List (List UInt8)}{k:Nat}:((0:Int)<=0/\(0:Int)<=min ((q.length:Nat):Int) 8/\min ((q.length:Nat):Int) 8<=((q.length:Nat):Int))/\Cm.Roomy 1 ((List.map (fun q=>List.take 8 q) (List.take k (List.take 6 p))).length+1):=by
 refine⟨by omega,kA ?_⟩;rw[List.length_map,List.length_take,List.length_take];omega
theorem Ow{a b:List (List UInt8)}(h:(!decide (bG a=0)|| !decide (bG b=0))=true):¬(bG a=0/\bG b=0):=by
 rintro⟨h1,h2⟩;simp[h1,h2] at h
theorem R7{a b:List (List UInt8)}(h:(!decide (bG a=0)|| !decide (bG b=0))=false):bG a=0/\bG b=0:=by
 simpa using h
theorem Kg(l:List Rat):(gY l).length<=QL:=by
 unfold gY;split
 ·rename_i h;rw[List.length_map];have:l.length<=41:=by
   apply Nat.le_of_not_lt;intro h2;unfold cz at h;rw[if_pos h2] at h;exact absurd h (by decide)
  unfold QL;omega
 ·simp
theorem xq(f:List Rat->List Rat->List Rat)(p q:List (List UInt8)):(cF f p q).length<=QL:=by
 unfold cF;split;·exact Kg _
 ·simp
def GR(b:Nat)(p:List (List UInt8)):Prop:=txP (nl p)=p/\Sml 9 b (nl p)
theorem U3{b:Nat}{l:List Rat}(h:Sml 9 b l):GR b (txP l):=⟨by rw[bJ],by rw[bJ];exact h⟩
theorem GR.gl{b K:Nat}{p:List (List UInt8)}(h:GR b p)(hb:b<=K):GL K p:=by
 rw[<- h.1];exact fI fun x hx=>Nat.le_trans (h.2.den.lq x hx) hb
theorem GR.len{b:Nat}{p:List (List UInt8)}(h:GR b p):p.length<=9:=by have:=h.2.len;rwa [dN] at this
theorem GR.mono{b c:Nat}{p:List (List UInt8)}(h:GR b p)(hc:b<=c):GR c p:=⟨h.1,h.2.len,h.2.trm,h.2.den.mono hc⟩
theorem Part.gr{p:List (List UInt8)}(h:Part p)(hc:bG p=0):GR 9 p:=by
 obtain⟨h1,h2,h3⟩:=h.sml hc;have e:nl p=bj p:=by rw[<- h1,bJ];rw[h1]
 exact⟨by rw[e,h1],by rw[e];exact h3⟩
theorem uZ(f g:Nat->Rat):∀n,dy (fun k=>f k+g k) n=dy f n+dy g n
 |0=>by simp only[dy];grind
 |n+1=>by rw[dy,dy,dy,uZ f g n];grind
theorem u0(f:Nat->Rat):∀n,dy f (n+1)=f 0+dy (fun i=>f (i+1)) n
 |0=>by simp only[dy];grind
 |n+1=>by rw[dy,u0 f n,dy];grind
theorem D6(f:Nat->Rat)(x:Rat):∀n,au ((List.range n).map f) x=dy (fun i=>f i*x^i) n
 |0=>rfl
 |n+1=>by rw[lJ,D6 f x n,dy]
def D7(l:List Rat)(x:Rat)(n:Nat):Rat:=dy (fun i=>cf l (i+1)*((i+1:Nat):Rat)*x^i) n
theorem lM(l:List Rat)(x:Rat){n:Nat}(hn:l.length<=n+1):au (bl l) x=D7 l x n:=by
 have e:bl l=(List.range (l.length-1)).map fun i=>cf l (i+1)*((i+1:Nat):Rat):=by
  unfold bl ir;refine List.map_congr_left fun i _=>?_;rw[Rat.divInt_eq_div,Rat.intCast_natCast,show ((1:Int):Rat)=1 from rfl];grind
 rw[e,D6];exact(ny _ _ (by omega) fun i hi=>by rw[bh (by omega)];grind).symm
theorem Gl{l m:List Rat}(h:∀x,au l x=au m x)(x:Rat):au (bl l) x=au (bl m) x:=by
 have e:aM l=aM m:=kz (cL _) (cL _) fun x=>by rw[eU,eU,h]
 have hc:∀i,cf l i=cf m i:=fun i=>by rw[<- eV l,<- eV m,e]
 rw[lM l x (n:=max l.length m.length) (by omega),lM m x (n:=max l.length m.length) (by omega)];unfold D7;exact fj _ fun i _=>by rw[hc]
theorem T3(a b:List Rat)(i:Nat):cf (br (· + ·) a b) i=cf a i+cf b i:=by
 unfold br;rw[eV];by_cases hi:i<max a.length b.length;·exact iu _ _ _ _ _ hi
 ·rw[bh (by rw[dw];omega),bh (l:=a) (by omega),bh (l:=b) (by omega)];grind
theorem R8(a b:List Rat)(x:Rat):au (bl (br (· + ·) a b)) x=au (bl a) x+au (bl b) x:=by
 have hl:=dx (· + ·) a b;rw[lM _ x (n:=max a.length b.length) (by omega),lM a x (n:=max a.length b.length) (by omega),lM b x (n:=max a.length b.length) (by omega)];unfold D7;rw[<- uZ];exact fj _ fun i _=>by rw[T3];grind
theorem Kh(c:Rat)(a:List Rat)(x:Rat):au (bl (a.map fun y=>y*c)) x=au (bl a) x*c:=by
 rw[lM _ x (n:=a.length) (by rw[List.length_map];omega),lM a x (n:=a.length) (by omega)];unfold D7;rw[Rat.mul_comm,<- pF];exact fj _ fun i _=>by rw[iO];grind
theorem BB(c:Rat)(l:List Rat)(x:Rat):au (bl (c::l)) x=au l x+x*au (bl l) x:=by
 rw[lM (c::l) x (n:=l.length) (by simp)];have e0:∀i,cf (c::l) (i+1)=cf l i:=fun i=>by simp[cf]
 have h1:D7 (c::l) x l.length=dy (fun i=>cf l i*x^i) l.length+dy (fun i=>cf l i*(i:Rat)*x^i) l.length:=by
  unfold D7;rw[<- uZ];refine fj _ fun i _=>?_;rw[e0];have:((i+1:Nat):Rat)=(i:Rat)+1:=by simp
  rw[this];grind
 rw[h1,<- D6 (cf l) x,mG l x _ (Nat.le_refl _)];congr 1;cases hl:l.length with
 |zero=>
  rw[List.eq_nil_of_length_eq_zero hl,dy,show bl []=[] from rfl,cH];grind
 |succ m=>
  rw[u0,lM l x (n:=m) (by omega)];unfold D7;rw[<- pF];have h0:cf l 0*((0:Nat):Rat)*x^0=0:=by simp
  rw[h0,Rat.zero_add];exact fj _ fun i _=>by rw[Rat.pow_succ];grind
theorem R9(a b:List Rat)(x:Rat):au (bl (cB a b)) x=au (bl a) x*au b x+au a x*au (bl b) x:=by
 induction a with
 |nil=>rw[cZ,show bl []=[] from rfl,cH];grind
 |cons c a ih=>
  have h1:∀z,au (cB (c::a) b) z=au (br (· + ·) (0::cB a b) (b.map fun y=>y*c)) z:=fun z=>by
   rw[eO,c9,mH,c9,eO,iP];grind
  rw[Gl h1 x,R8,BB,Kh,ih,eO,BB,c9];grind
theorem BC{m a b:List Rat}(h:∀x,au m x=au a x*au b x)(x:Rat):au (bl m) x=au (bl a) x*au b x+au a x*au (bl b) x:=by
 rw[Gl (m:=cB a b) (fun z=>by rw[eO];exact h z) x,R9]
theorem Dv.of{d p:List Rat}(s:List Rat)(h:∀x,au d x*au s x=au p x):Dv d p:=⟨aM s,cL _,fun x=>by rw[eU];exact h x⟩
def Cop(a b:List Rat):Prop:=∃u v:List Rat,∀x,au a x*au u x+au b x*au v x=1
theorem Cop.symm{a b:List Rat}(h:Cop a b):Cop b a:=by
 obtain⟨u,v,h⟩:=h;exact⟨v,u,fun x=>by have:=h x;grind⟩
theorem Cop.left{a b d:List Rat}(h:Cop a b)(hd:Dv d a):Cop d b:=by
 obtain⟨u,v,h⟩:=h;obtain⟨s,_,hs⟩:=hd;exact⟨cB s u,v,fun x=>by rw[eO];have:=h x;have:=hs x;grind⟩
theorem Dv.add{d a b m:List Rat}(ha:Dv d a)(hb:Dv d b)(hm:∀x,au m x=au a x+au b x):Dv d m:=by
 obtain⟨s,_,hs⟩:=ha;obtain⟨t,_,ht⟩:=hb;exact Dv.of (br (· + ·) s t) fun x=>by rw[mH,hm];have:=hs x;have:=ht x;grind
theorem Dv.sub{d a b m:List Rat}(ha:Dv d a)(hb:Dv d b)(hm:∀x,au m x=au a x-au b x):Dv d m:=by
 obtain⟨s,_,hs⟩:=ha;obtain⟨t,_,ht⟩:=hb;exact Dv.of (br (· - ·) s t) fun x=>by rw[ky,hm];have:=hs x;have:=ht x;grind
theorem Dv.mul{d a b m:List Rat}(ha:Dv d a)(hm:∀x,au m x=au a x*au b x):Dv d m:=by
 obtain⟨s,_,hs⟩:=ha;exact Dv.of (cB s b) fun x=>by rw[eO,hm];have:=hs x;grind
structure Gm (f s g t:List Rat):Prop where
 tf:Trm f
 f0:f≠[]
 ts:Trm s
 tg:Trm g
 g0:g≠[]
 fs:∀x,au f x=au s x*au g x
 ft:∀x,au (bl f) x=au g x*au t x
 cop:Cop s t
theorem Gm.s0{f s g t:List Rat}(h:Gm f s g t):s≠[]:=by
 rintro rfl;exact h.f0 (FN h.tf fun x=>by rw[h.fs,cH];grind)
theorem Gm.key{f s g t:List Rat}(h:Gm f s g t)(x:Rat):au s x*au (bl g) x=au g x*(au t x-au (bl s) x):=by
 have h1:=BC h.fs x;rw[h.ft] at h1;grind
theorem D8{q s:List Rat}(h:aM q=s)(hl:q.length=s.length):q=s:=by
 by_cases hn:q=[]
 ·subst hn;exact h
 ·by_cases h0:q.getLastD 0=0
  ·have h1:=lG hn h0;have h2:=cN q.dropLast;have h3:=List.length_pos_iff.2 hn;rw[<- h1,h,List.length_dropLast] at h2;omega
  ·rw[<- h,lF hn h0]
end Go.Cm
end