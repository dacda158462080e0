/- Merged by a program out of several texts. -/
import Derived.Test.YtdojbabpnaifoaaGreatDoorX3
import Derived.Test.YtdojbabpnaifoaaGreatDoorX2
import Derived.Laws.CopyOwn
import Derived.Deep.RegionLaw
import Derived.Shelf.Strings.Builder2
import Derived.Shelf.Small.Wraps
import Derived.Shelf.Strings.BuilderK
import Derived.Shelf.Strings.Builder2Cap
import Derived.Shelf.Strconv.Atoi
import Derived.Shelf.Strconv.Itoa3
import Derived.Shelf.Strconv.AtoiErrFast
import Derived.Shelf.Strconv.ParseIntEmpty
import Derived.Shelf.Strconv.AtoiFail
import Derived.Shelf.Strconv.Clone
import Derived.Shelf.Strconv.SyntaxError
import Derived.Shelf.Strconv.Lower
import Derived.Shelf.Strconv.ParseUint10
import Derived.Shelf.Strconv.ParseUint10Empty
import Derived.Shelf.Strconv.RangeError
import Derived.Shelf.Strconv.ParseUintEmpty
import Derived.Shelf.Strconv.ParseUint10b64
import Derived.Shelf.Strconv.ParseUint10b32
import Derived.Shelf.Strconv.ParseUint10b16
import Derived.Shelf.Strconv.ParseUint10b8
import Derived.Shelf.Strings.Search1
import Derived.Shelf.Strings.Search2
import Derived.Shelf.Strings.Cut
import Derived.Shelf.Strings.Shaped
import Derived.Shelf.Bits.Mul64
import Derived.Shelf.Strings.Repeat
import Derived.Test.YtdojbabpnaifoaaGreatDoorProg
import Derived.WalkKit
import Derived.BigQuiet
import Derived.Shelf.Abstract
import Derived.RangeFuncBox
import Derived.OwnWalkIn
import Derived.TacticsInMore
import Derived.LoopNIn
import Derived.LoopIn
set_option linter.all false
set_option linter.unusedSimpArgs false
set_option linter.unusedVariables false
set_option maxRecDepth 100000
section
namespace Go.Cm
open Go.Proofs
theorem dt(l:List Rat):(aP l).length<=l.length:=by
 induction l with
 |nil=>simp[aP]
 |cons x l ih=>
  simp only[aP];split;·split<;>simp
  ·rename_i y m h;rw[h] at ih;simp only[List.length_cons] at ih ⊢;omega
theorem qX{l:List Rat}(h:0<l.length)(h0:aE l=0):(aP l).length<l.length:=by
 rw[n9 (List.length_pos_iff.1 h) h0];have:=dt l.dropLast;rw[List.length_dropLast] at this;omega
theorem fa(q r:List Rat):(cA q r).length=r.length:=jt _ _ _ _ _
theorem zo{q r:List Rat}(hq:0<q.length)(h:q.length<=r.length)(h0:aE q≠0):aE (cA q r)=0:=by
 rw[bG (by rw[fa];omega),fa];unfold cA;rw[kZ _ _ _ _ _ _ (by omega),if_pos (by omega),show r.length-1-(r.length-q.length)=q.length-1 by omega,<- bG hq,<- bG (by omega)];grind
theorem fb{q r:List Rat}(hq:0<q.length)(h:q.length<=r.length)(h0:aE q≠0):(aP (cA q r)).length<r.length:=by
 have:=qX (l:=cA q r) (by rw[fa];omega) (zo hq h h0);rwa [fa] at this
structure DivPhi (p q:List ND) (n:Nat) (r s:List Rat):Prop where
 eq:fq (ax q) n r s=divN (ax p) (ax q)
 fuel:r.length<n
 safe:vP (ax q) n r
 lr:r.length<=p.length
 ls:s.length=p.length+1-q.length
theorem div_start{p q:List ND}(h:fZ p q):DivPhi p q (p.length+1) (ax p) (List.replicate (p.length+1-q.length) 0):=by
 refine⟨?_,by rw[aN];omega,h.safe,by rw[aN];exact Nat.le_refl _,by simp⟩;unfold divN;rw[aN,aN]
theorem fZ.enc{p q:List ND}(h:fZ p q):aL (ax p)=p:=by
 simp only[ax,aL,List.map_map];conv=>rhs;rw[<- List.map_id p]
 exact List.map_congr_left fun x hx=>h.hp x hx
theorem DivPhi.bound{p q:List ND}{n:Nat}{r s:List Rat}(h:DivPhi p q n r s):∀ x∈r,lq x<=QD:=by
 have h1:=h.safe;have h2:=h.fuel;match n,h1 with
 |n+1,h1=>exact h1.1
theorem div_next{p q:List ND}{n:Nat}{r s:List Rat}(ho:fZ p q)(h:DivPhi p q n r s)(hl:q.length<=r.length):
  ∃ m,DivPhi p q m (aP (cA (ax q) r)) (s.set (r.length-q.length) (aE r/aE (ax q))):=by
 have h2:=h.fuel;have h1:=h.safe;have he:=h.eq;have hs:=fb (q:=ax q) (r:=r) (by rw[aN];exact ho.h0) (by rw[aN];exact hl) ho.hl;match n,h1,he,h2 with
 |n+1,h1,he,h2=>
  rw[fq,if_pos (by rw[aN];exact hl),aN] at he;exact⟨n,he,by omega,h1.2 (by rw[aN];exact hl),by have:=h.lr;omega,by rw[List.length_set];exact h.ls⟩
theorem div_end{p q:List ND}{n:Nat}{r s:List Rat}(h:DivPhi p q n r s)(hl: ¬q.length<=r.length):(s,r)=divN (ax p) (ax q):=by
 have h2:=h.fuel;have he:=h.eq;match n,he,h2 with
 |n+1,he,h2=>
  rw[fq,if_neg (by rw[aN];exact hl)] at he;exact he
theorem Fy{l:List Rat}{k:Nat}(hk:k<l.length):nth NT (aL l) (k:Int)=br (cf l k):=by
 rw[rB hk];unfold cf;rw[List.getD_eq_getElem?_getD,List.getElem?_eq_getElem hk];rfl
theorem QY{l:List Rat}(h:0<l.length)(hl:l.length<=1000000000):nth NT (aL l) (IntKind.i64.wrap (((aL l).length:Int)-1))=br (aE l):=by
 rw[aH,bW hl,show (l.length:Int)-1=((l.length-1:Nat):Int) by omega,Fy (by omega),<- bG h]
theorem T6{p q:List ND}{n:Nat}{r s:List Rat}(ho:fZ p q)(h:DivPhi p q n r s)(hl:q.length<=r.length):IntKind.i64.wrap (((aL r).length:Int)-(q.length:Int))=((r.length-q.length:Nat):Int):=by
 have h1:=h.lr;have h2:=ho.l1;rw[aH,wo];omega
theorem T7{p q:List ND}{n:Nat}{r s:List Rat}(ho:fZ p q)(h:DivPhi p q n r s)(hl:q.length<=r.length):
  (0<=IntKind.i64.wrap (((aL r).length:Int)-1)/\IntKind.i64.wrap (((aL r).length:Int)-1)<((aL r).length:Int))/\(IntKind.i64.wrap (((aL r).length:Int)-1)).toNat<(aL r).length/\
  (0<=IntKind.i64.wrap ((q.length:Int)-1)/\IntKind.i64.wrap ((q.length:Int)-1)<(q.length:Int))/\nth NT (aL r) (IntKind.i64.wrap (((aL r).length:Int)-1))=br (aE r)/\nth NT q (IntKind.i64.wrap ((q.length:Int)-1))=br (aE (ax q))/\
  ie (br (aE r)) (br (aE (ax q))):=by
 have h1:=h.lr;have h2:=ho.l1;have h3:=ho.h0;have h4:=ho.l2;have e:QD=10000000000:=rfl;have e2:QC=100000000000:=rfl;have hb:=gL h.bound (by omega) (r.length-1);rw[<- bG (by omega)] at hb;have hc:=rC ho.hq (by omega) h3;have hw:IntKind.i64.wrap (((aL r).length:Int)-1)=(r.length:Int)-1:=by rw[aH,bW (by omega)]
 refine⟨by rw[hw,aH];omega,by rw[hw,aH];omega,by rw[bW (by omega)];omega,QY (by omega) (by omega),BR ho.hq h3 (by omega),cd _,cd _,?_⟩;rw[aQ,aQ];omega
theorem NL{p q:List ND}{n:Nat}{r s:List Rat}(ho:fZ p q)(h:DivPhi p q n r s)(hl:q.length<=r.length){i:Nat}(hi:i<q.length):
  IntKind.i64.wrap (((r.length-q.length:Nat):Int)+(i:Int))=((r.length-q.length+i:Nat):Int)/\r.length-q.length+i<(aL (cL r (r.length-q.length) (-(aE r/aE (ax q))) (ax q) i)).length/\nth NT q (i:Int)=br (cf (ax q) i)/\
  nth NT (aL (cL r (r.length-q.length) (-(aE r/aE (ax q))) (ax q) i)) ((r.length-q.length+i:Nat):Int)=br (cf (cL r (r.length-q.length) (-(aE r/aE (ax q))) (ax q) i) (r.length-q.length+i))/\
  ie (br (aE r/aE (ax q))) (br (cf (ax q) i))/\ie (br (cf (cL r (r.length-q.length) (-(aE r/aE (ax q))) (ax q) i) (r.length-q.length+i))) (br (aE r/aE (ax q)*cf (ax q) i)):=by
 have h1:=h.lr;have h2:=ho.l1;have h3:=ho.h0;have h4:=ho.l2;have e:QD=10000000000:=rfl;have e2:QC=100000000000:=rfl;have hb:=gL h.bound (by omega) (r.length-1);rw[<- bG (by omega)] at hb;have hc:=rC ho.hq (by omega) h3;have hd:=pS (aE r) (aE (ax q));have hqi:=ho.hq.cf (by omega) i;have hm:=l8 (aE r/aE (ax q)) (cf (ax q) i);have hrow:=zn (out:=r) (i:=r.length-q.length) (a:= -(aE r/aE (ax q))) (q:=ax q) (k:=i) (m:=QD) (K:=2*QD) (by omega) h.bound (by omega) (by rw[vC];omega) (fun n=>Nat.le_trans (ho.hq.cf (by omega) n) (by omega));have hlen:(cL r (r.length-q.length) (-(aE r/aE (ax q))) (ax q) i).length=r.length:=jt _ _ _ _ _;have hcur:lq (cf (cL r (r.length-q.length) (-(aE r/aE (ax q))) (ax q) i) (r.length-q.length+i))<=QD:=by
  rw[kZ _ _ _ _ _ _ (by omega),if_neg (by omega)];exact gL h.bound (by omega) _
 refine⟨by rw[wo];omega,by rw[aH,hlen];omega,gK ho.hq hi,Fy (by rw[hlen];omega),⟨cd _,cd _,by rw[aQ,aQ];omega⟩,cd _,cd _,by rw[aQ,aQ];omega⟩
theorem QZ(r:List Rat)(k:Nat)(c:Rat)(q:List Rat)(i:Nat):(aL (cL r k (-c) q i)).set (k+i) (br (cf (cL r k (-c) q i) (k+i)-c*cf q i))=aL (cL r k (-c) q (i+1)):=by
 rw[vL,cL,Rat.sub_eq_add_neg,Rat.neg_mul]
theorem NM{p q:List ND}{n:Nat}{r s:List Rat}(ho:fZ p q)(h:DivPhi p q n r s)(hl:q.length<=r.length):Sz QC (aL (cA (ax q) r))/\(aL (cA (ax q) r)).length<=QL:=by
 have h1:=h.lr;have h2:=ho.l1;have h3:=ho.h0;have h4:=ho.l2;have e:QD=10000000000:=rfl;have e2:QC=100000000000:=rfl;have hb:=gL h.bound (by omega) (r.length-1);rw[<- bG (by omega)] at hb;have hc:=rC ho.hq (by omega) h3;have hd:=pS (aE r) (aE (ax q));refine⟨fQ fun x hx=> ?_,by rw[aH,fa];unfold QL;omega⟩;have hrow:=zn (out:=r) (i:=r.length-(ax q).length) (a:= -(aE r/aE (ax q))) (q:=ax q) (k:=(ax q).length) (m:=QD) (K:=2*QD) (by rw[aN];omega) h.bound (by omega) (by rw[vC];omega) (fun n=>Nat.le_trans (ho.hq.cf (by omega) n) (by omega)) x hx;omega
theorem NN{p q:List ND}{n:Nat}{r s:List Rat}(ho:fZ p q)(h:DivPhi p q n r s)(hl:q.length<=r.length):
  IntKind.i64.wrap (((aL r).length:Int)-1)=((r.length-1:Nat):Int)/\IntKind.i64.wrap ((q.length:Int)-1)=((q.length-1:Nat):Int)/\nth NT (aL r) ((r.length-1:Nat):Int)=br (aE r)/\nth NT q ((q.length-1:Nat):Int)=br (aE (ax q))/\ie (br (aE r)) (br (aE (ax q))):=by
 have h1:=h.lr;have h2:=ho.l1;have h3:=ho.h0;have h4:=ho.l2;obtain⟨_,_,_,_,_,h5⟩:=T7 ho h hl;refine⟨by rw[aH,bW (by omega)];omega,by rw[bW (by omega)];omega,?_,?_,h5⟩;·rw[Fy (by omega),<- bG (by omega)]
 ·rw[gK ho.hq (by omega),bG (by rw[aN];omega),aN]
theorem Td{p q:List ND}(ho:fZ p q):max 0 (IntKind.i64.wrap (IntKind.i64.wrap ((p.length:Int)-(q.length:Int))+1))=((p.length+1-q.length:Nat):Int)/\(0:Int)<=((p.length+1-q.length:Nat):Int)/\((p.length+1-q.length:Nat):Int)<=1000:=by
 have h2:=ho.l1;have h4:=ho.l2;rw[wi (x:=(p.length:Int)-(q.length:Int)) (by omega) (by omega),wo];omega
theorem zp{p q:List ND}{n:Nat}{r s:List Rat}(ho:fZ p q)(h:DivPhi p q n r s)(hl:q.length<=r.length):(0:Int)<=((r.length-q.length:Nat):Int)/\((r.length-q.length:Nat):Int)<((aL s).length:Int)/\r.length-q.length<(aL s).length:=by
 have h1:=h.lr;have h2:=h.ls;rw[aH,h2];omega
theorem Kb{p q:List ND}{n:Nat}{r s:List Rat}(ho:fZ p q)(h:DivPhi p q n r s)(hl:q.length<=r.length):((0:Int)<=((r.length-1:Nat):Int)/\((r.length-1:Nat):Int)<((aL r).length:Int))/\r.length-1<(aL r).length/\((0:Int)<=((q.length-1:Nat):Int)/\((q.length-1:Nat):Int)<(q.length:Int))/\ie (br (aE r)) (br (aE (ax q)))/\bF (br (aE (ax q)))≠0:=by
 have h3:=ho.h0;obtain⟨_,_,_,_,h5⟩:=NN ho h hl;rw[aH,aQ];exact⟨by omega,by omega,by omega,h5,ho.hl⟩
theorem Kc{p q:List ND}{n:Nat}{r s:List Rat}(ho:fZ p q)(h:DivPhi p q n r s)(hl:q.length<=r.length){i:Nat}(hi:i<q.length):((0:Int)<=((r.length-q.length+i:Nat):Int)/\((r.length-q.length+i:Nat):Int)<((aL (cL r (r.length-q.length) (-(aE r/aE (ax q))) (ax q) i)).length:Int))/\r.length-q.length+i<(aL (cL r (r.length-q.length) (-(aE r/aE (ax q))) (ax q) i)).length/\
  ie (br (aE r/aE (ax q))) (br (cf (ax q) i))/\ie (br (cf (cL r (r.length-q.length) (-(aE r/aE (ax q))) (ax q) i) (r.length-q.length+i))) (br (aE r/aE (ax q)*cf (ax q) i))/\((0:Int)<=((r.length-q.length+i:Nat):Int)/\((r.length-q.length+i:Nat):Int)<((aL (cL r (r.length-q.length) (-(aE r/aE (ax q))) (ax q) i)).length:Int))/\r.length-q.length+i<(aL (cL r (r.length-q.length) (-(aE r/aE (ax q))) (ax q) i)).length:=by
 obtain⟨_,h2,_,_,h5,h6⟩:=NL ho h hl hi;exact⟨⟨by omega,by omega⟩,h2,h5,h6,⟨by omega,by omega⟩,h2⟩
theorem NO{p q:List ND}{n:Nat}{r s:List Rat}(ho:fZ p q){i:Nat}(hi:i<q.length):∃ z:Nat,IntKind.i64.wrap ((i:Int)+1)=(z:Int)/\aL (cL r (r.length-q.length) (-(aE r/aE (ax q))) (ax q) (i+1))=aL (cL r (r.length-q.length) (-(aE r/aE (ax q))) (ax q) z)/\z<=q.length/\q.length-z<q.length-i:=by
 have h4:=ho.l2;exact⟨i+1,by rw[wo];omega,rfl,by omega,by omega⟩
theorem Hj{p q:List ND}{n:Nat}{r s:List Rat}{i:Nat}(hi:i=q.length):cL r (r.length-q.length) (-(aE r/aE (ax q))) (ax q) i=cA (ax q) r:=by
 unfold cA;rw[aN,hi]
def dx:Nat->List Rat->List Rat->List Rat
 |0,p,_=>cC p
 |n+1,p,q=>if q= [] then cC p else dx n q (cC (divN p q).2)
def cp(p q:List Rat):List Rat:=dx (q.length+1) p q
def Trm(l:List Rat):Prop:=l≠ []->aE l≠0
def vQ:Nat->List Rat->List Rat->Prop
 |0,_,_=>True
 |n+1,p,q=>if q= [] then ∀ x∈p,lq x<=QH else vP q (p.length+1) p/\(∀ x∈q,lq x<=QD)/\(∀ x∈(divN p q).2,lq x<=QH)/\vQ n q (cC (divN p q).2)
theorem cG:∀ l:List Rat,Trm (aP l)
 | []=>fun h=>absurd rfl h
 |x::l=>by
  intro h;have ih:=cG l;simp only[aP] at h ⊢;split
  ·(rename_i hl;rw[hl] at h;split;·rename_i hx;simp only[hx,if_true,ne_eq,not_true] at h);·rename_i hx;simpa [aE] using hx
  ·rename_i y m hl;rw[hl] at ih;have:=ih (by simp);simpa [aE] using this
theorem vR(q:List Rat):∀ (n:Nat) (r s:List Rat),Trm r->Trm (fq q n r s).2
 |0,r,s,h=>h
 |n+1,r,s,h=>by
  rw[fq];split;·exact vR q n _ _ (cG _)
  ·exact h
theorem dQ{p q:List Rat}(h:Trm p):Trm (divN p q).2:=vR _ _ _ _ h
theorem qY{q:List Rat}(hq:0<q.length)(h0:aE q≠0):∀ (n:Nat) (r s:List Rat),r.length<n->(fq q n r s).2.length<q.length
 |0,r,s,h=>absurd h (by omega)
 |n+1,r,s,h=>by
  rw[fq];split;·rename_i hl;have:=fb hq hl h0;exact qY hq h0 n _ _ (by omega)
  ·rename_i hl;simp only;omega
theorem dF{p q:List Rat}(hq:0<q.length)(h0:aE q≠0):(divN p q).2.length<q.length:=qY hq h0 _ _ _ (Nat.lt_succ_self _)
theorem ck(l:List Rat):(cC l).length=l.length:=by simp[cC]
theorem k8{l:List Rat}(h:0<l.length):aE (cC l)=aE l/aE l:=by
 rw[bG (by rw[ck];exact h),ck];conv=>rhs;arg 1;rw[bG h]
 unfold cC cf;simp only[List.getD_eq_getElem?_getD,List.getElem?_map];rw[List.getElem?_eq_getElem (by omega)];rfl
theorem eE{l:List Rat}(h:Trm l):Trm (cC l):=by
 intro hne;have hl:0<l.length:=by rw[<- ck];exact List.length_pos_iff.2 hne
 have h1:=h (List.length_pos_iff.1 hl);rw[k8 hl];grind
structure ju (p q:List ND):Prop where
 hp:∀ x∈p,NOK x
 hq:∀ x∈q,NOK x
 l1:p.length<=900
 l2:q.length<=900
 tp:Trm (ax p)
 tq:Trm (ax q)
 safe:vQ (q.length+1) (ax p) (ax q)
structure vS (p q:List ND) (n:Nat) (a b:List Rat):Prop where
 eq:dx n a b=cp (ax p) (ax q)
 fuel:b.length<n
 safe:vQ n a b
 ta:Trm a
 tb:Trm b
 la:a.length<=900
 lb:b.length<=900
theorem zq{p:List ND}(h:∀ x∈p,NOK x):aL (ax p)=p:=by
 simp only[ax,aL,List.map_map];conv=>rhs;rw[<- List.map_id p]
 exact List.map_congr_left fun x hx=>h x hx
theorem Kd{p q:List ND}(h:ju p q):vS p q (q.length+1) (ax p) (ax q):=by
 refine⟨?_,by rw[aN];omega,h.safe,h.tp,h.tq,by rw[aN];exact h.l1,by rw[aN];exact h.l2⟩;unfold cp;rw[aN]
theorem iY(l:List Rat):∀ x∈aL l,NOK x:=by
 intro x hx;obtain⟨y,_,rfl⟩:=List.mem_map.1 hx;exact cd y
theorem NP{p q:List ND}{n:Nat}{a b:List Rat}(h:vS p q n a b)(hb:0<b.length):
  fZ (aL a) (aL b)/\pW (aL (divN a b).2)/\(∃ m,vS p q m b (cC (divN a b).2))/\(cC (divN a b).2).length<b.length:=by
 have hbn:=List.length_pos_iff.1 hb;have h1:=h.safe;have h2:=h.eq;have h3:=h.fuel;have hl:=h.tb hbn;have hs:=dF (p:=a) hb hl;match n,h1,h2,h3 with
 |n+1,h1,h2,h3=>
  rw[vQ,if_neg hbn] at h1;rw[dx,if_neg hbn] at h2;obtain⟨s1,s2,s3,s4⟩:=h1;have hlb:=h.lb;refine⟨⟨iY _,fQ s2,by rw[aH];exact h.la,by rw[aH];exact h.lb,by rw[aH];exact hb,by rw[aM];exact hl,by rw[aM,aM,aH];exact s1⟩,
   ⟨fQ s3,by rw[aH];omega,fun hne=> ?_⟩,⟨n,h2,by rw[ck];omega,s4,h.tb,eE (dQ h.ta),h.lb,by rw[ck];omega⟩,by rw[ck];exact hs⟩
  rw[aM];exact dQ h.ta (fun e=>hne (by rw[e];rfl))
theorem Q0{p q:List ND}{n:Nat}{a b:List Rat}(h:vS p q n a b)(hb: ¬0<b.length):pW (aL a)/\cC a=cp (ax p) (ax q):=by
 have hbn:b= []:=List.eq_nil_of_length_eq_zero (by omega);have h1:=h.safe;have h2:=h.eq;have h3:=h.fuel;match n,h1,h2,h3 with
 |n+1,h1,h2,h3=>
  rw[vQ,if_pos hbn] at h1;rw[dx,if_pos hbn] at h2;have hla:=h.la;refine⟨⟨fQ h1,by rw[aH];omega,fun hne=> ?_⟩,h2⟩;rw[aM];exact h.ta (fun e=>hne (by rw[e];rfl))
def cH(l:List Rat):List Rat:=if l= [] then [] else cC (divN l (cp l (bS l))).1
def nE(p:List ND):Prop:=p≠ []->Sz QH p/\p.length<=900/\ju p (aL (bS (ax p)))/\fZ p (aL (cp (ax p) (bS (ax p))))/\pW (aL (divN (ax p) (cp (ax p) (bS (ax p)))).1)
end Go.Cm
end
section
namespace Go.Cm
open Go Go.RowKit
theorem wY{P:Program}(w:World)(dT sT ty elem:TypeId)(g o dLen dCap:Nat)(a:Addr)(sLen sCap:Nat)(cur:Array Value)(t:TypeId)(cs:List Value)(size n:Nat)
  (hu:P.underlying dT=some (.slice elem)) (hs:(P.info? elem).map (·.size)=some size)
  (hg:w.heap[g]? =some (.cells cur t (0,0))) (hn:n=Nat.min sLen dLen) (hl0:cs.length=n*size)
  (hsrc:∀ j v,cs[j]? =some v->w.cell? (a.add j)=some v) (hfit:o+cs.length<=cur.size) (h1:∀ v∈cs,v.oneCell'=true):
  (Builtin.copy_ #[dT,sT] ty #[.slice (some ⟨g,o,none⟩) dLen dCap,.slice (some a) sLen sCap]).run P w=
   .ok (goInt n) (w.setRow g (cur.toList.take o++cs++cur.toList.drop (o+cs.length)).toArray):=by
 have hl:=run_loadCells_list (P:=P) w a cs hsrc;rw[hl0] at hl;have hst:=run_storeCells_at P g o t cs 0 cur w hg (by simpa using hfit) h1;cases hq:P.info? elem with
 |none=>simp[hq] at hs
 |some i=>
  have hi:i.size=size:=by simpa [hq] using hs
  simp[Builtin.copy_,run_underlying hu,Builtin.lenOf,Builtin.firstCells,sizeOf,typeInfo,hq,hi,<- hn,hl,hst]
theorem vT{P:Program}(w:World)(dT sT ty elem:TypeId)(d a:Option Addr)(dLen dCap sLen sCap:Nat)(size:Nat)(hu:P.underlying dT=some (.slice elem))(hs:(P.info? elem).map (·.size)=some size)(hn:Nat.min sLen dLen=0):
  (Builtin.copy_ #[dT,sT] ty #[.slice d dLen dCap,.slice a sLen sCap]).run P w= .ok (goInt 0) w:=by
 cases hq:P.info? elem with
 |none=>simp[hq] at hs
 |some i=>
  have hl:∀ (x:Addr),(loadCells x 0).run P w= .ok #[] w:=fun x=>by simpa using run_loadCells_list (P:=P) w x [] (by simp)
  cases d<;>cases a<;>simp[Builtin.copy_,run_underlying hu,Builtin.lenOf,Builtin.firstCells,sizeOf,typeInfo,hq,hn,storeCells,hl]
theorem xK{P:Program}{w:World}(dT sT ty elem:TypeId)(size:Nat)(hu:P.underlying dT=some (.slice elem))(hsz:(P.info? elem).map (·.size)=some size)
  (dp sp:Option Addr) (dLen dCap sLen sCap n:Nat) (g off:Nat) (cur:List Value) (t:TypeId) (hg:w.heap[g]? =some (.cells cur.toArray t (0,0))) (cs:List Value) (hn:n=Nat.min sLen dLen) (hl:cs.length=n*size)
  (hpos:0<n->dp=some ⟨g,off,none⟩/\∃ ad,sp=some ad/\∀ j v,cs[j]? =some v->w.cell? (ad.add j)=some v)
  (hfit:off+cs.length<=cur.length) (h1:∀ v∈cs,v.oneCell'=true) (B:Nat) (w0:World) (hb:Below B w0 w) (hBg:B<=g):
  ∃ w',(Builtin.copy_ #[dT,sT] ty #[.slice dp dLen dCap,.slice sp sLen sCap]).run P w= .ok (goInt n) w'/\w'.heap[g]? =some (.cells (splice cur off cs).toArray t (0,0))/\Below B w0 w':=by
 by_cases h0:n=0
 ·subst h0;obtain rfl:cs= []:=List.eq_nil_of_length_eq_zero (by simpa using hl);exact⟨w,vT w dT sT ty elem dp sp dLen dCap sLen sCap size hu hsz hn.symm,by simpa [splice] using hg,hb⟩
 ·obtain⟨rfl,ad,rfl,hsrc⟩:=hpos (by omega);refine⟨_,wY w dT sT ty elem g off dLen dCap ad sLen sCap cur.toArray t cs size n hu hsz hg hn hl hsrc (by simpa using hfit) h1,?_,below_setRow hb hBg _⟩;simpa [splice] using setRow_heap w g _ _ t _ hg
theorem zr{P:Program}{w:World}{ops:Array Oper}{rest:List Oper}{o:Oper}{a:Act}{Q:Exit->Act->World->Prop}(hgd:o.guard=none)(d s:Operand)(dT sT:TypeId)
  (ho:o.op= .call {callee:= .builtin .copy,args:= #[d,s],argTypes:= #[dT,sT]}) (elem:TypeId) (size:Nat) (hu:P.underlying dT=some (.slice elem)) (hsz:(P.info? elem).map (·.size)=some size)
  (dp sp:Option Addr) (dLen dCap sLen sCap n:Nat) (hd:a.eval d= .slice dp dLen dCap) (hs:a.eval s= .slice sp sLen sCap)
  (g off:Nat) (cur:List Value) (t:TypeId) (hg:w.heap[g]? =some (.cells cur.toArray t (0,0))) (cs:List Value) (hn:n=Nat.min sLen dLen) (hl:cs.length=n*size)
  (hpos:0<n->dp=some ⟨g,off,none⟩/\∃ ad,sp=some ad/\∀ j v,cs[j]? =some v->w.cell? (ad.add j)=some v)
  (hfit:off+cs.length<=cur.length) (h1:∀ v∈cs,v.oneCell'=true) (B:Nat) (w0:World) (hb:Below B w0 w) (hBg:B<=g)
  (h:∀ w',Hid (w'.heap[g]? =some (.cells (splice cur off cs).toArray t (0,0)))->Below B w0 w'->wpList P ops Q rest (a.put o.dst (goInt n)) w'):
  wpList P ops Q (o::rest) a w:=by
 refine wpList_plain hgd fun K hK=> ?_;obtain⟨w',hrun,hg',hb'⟩:=xK dT sT o.type elem size hu hsz dp sp dLen dCap sLen sCap n g off cur t hg cs hn hl hpos hfit h1 B w0 hb hBg;unfold Oper.wp;simp[execOp,ho,resolve,invoke,builtin,hd,hs,hrun,Result.andThen];exact hK _ _ (h w' hg' hb')
theorem Fz{P:Program}{ops:Array Oper}{o:Oper}{a:Act}{w:World}{K:Act->World->Prop}{Q:Exit->Act->World->Prop}{E:Prop}(hgd:o.guard=none)(d s:Operand)(dT sT:TypeId)
  (ho:o.op= .call {callee:= .builtin .copy,args:= #[d,s],argTypes:= #[dT,sT]}) (elem:TypeId) (size:Nat) (hu:P.underlying dT=some (.slice elem)) (hsz:(P.info? elem).map (·.size)=some size)
  (dp sp:Option Addr) (dLen dCap sLen sCap n:Nat) (hd:a.eval d= .slice dp dLen dCap) (hs:a.eval s= .slice sp sLen sCap)
  (g off:Nat) (cur:List Value) (t:TypeId) (hg:w.heap[g]? =some (.cells cur.toArray t (0,0))) (cs:List Value) (hn:n=Nat.min sLen dLen) (hl:cs.length=n*size)
  (hpos:0<n->dp=some ⟨g,off,none⟩/\∃ ad,sp=some ad/\∀ j v,cs[j]? =some v->w.cell? (ad.add j)=some v)
  (hfit:off+cs.length<=cur.length) (h1:∀ v∈cs,v.oneCell'=true) (B:Nat) (w0:World) (hb:RowKit.Below B w0 w) (hBg:B<=g)
  (h:∀ w',RowKit.Hid (w'.heap[g]? =some (.cells (splice cur off cs).toArray t (0,0)))->RowKit.Below B w0 w'->K (a.put o.dst (goInt n)) w'):
  if Region.wanted o (yielded ops a.tmps)=true then Oper.wp P o a w K Q else E:=by
 have hw:Region.wanted o (yielded ops a.tmps)=true:=by simp[Region.wanted,hgd]
 rw[if_pos hw];obtain⟨w',hrun,hg',hb'⟩:=xK dT sT o.type elem size hu hsz dp sp dLen dCap sLen sCap n g off cur t hg cs hn hl hpos hfit h1 B w0 hb hBg;unfold Oper.wp;simp[execOp,ho,resolve,invoke,builtin,hd,hs,hrun,Result.andThen];exact h w' hg' hb'
def cU(n:Nat)(l:List Value):List Value:=(List.replicate n l).flatten
theorem fc(n:Nat)(l:List Value):(cU n l).length=n*l.length:=by simp[cU]
theorem vU(m n:Nat)(l:List Value):cU (m+n) l=cU m l++cU n l:=by simp only[cU,<- List.flatten_append,List.replicate_append_replicate]
theorem BU{n:Nat}{l:List Value}{v:Value}(h:v∈cU n l):v∈l:=by
 obtain⟨x,hx,hv⟩:=List.mem_flatten.1 h;rw[(List.mem_replicate.1 hx).2] at hv;exact hv
theorem qZ{A B:List Value}(hAB:A.length=B.length){n k m:Nat}(hm:m<=n-k):splice (cU k A++cU (n-k) B) (k*A.length) (cU m A)=cU (k+m) A++cU (n-(k+m)) B:=by
 have hl:(cU k A).length=k*A.length:=fc _ _;have e1:(cU k A++cU (n-k) B).take (k*A.length)=cU k A:=by rw[<- hl,List.take_left]
 have e2:(cU k A++cU (n-k) B).drop (k*A.length+(cU m A).length)=cU (n-(k+m)) B:=by
  rw[<- List.drop_drop,<- hl,List.drop_left,fc,show n-k=m+(n-(k+m)) by omega,vU,hAB,<- fc m B,List.drop_left]
 simp only[splice,e1,e2];rw[<- List.append_assoc,<- vU]
end Go.Cm
end
section
namespace Go.Proofs
open Go.Shelf
def Tryz.laysB172_ren:Go.Shelf.Ren:=⟨fun|172=>182|244=>196|245=>188|247=>209|279=>204|280=>205|281=>206|282=>207|287=>187|316=>216|171=>166|205=>217|321=>202|322=>203|243=>184|246=>197|283=>210|284=>211|285=>212|286=>213|129=>219|317=>218|318=>220|319=>221|320=>222|337=>223|338=>224|n=>n,fun|9=>9|3=>3|75=>131|76=>132|4=>4|5=>5|167=>216|37=>47|0=>0|85=>222|2=>2|168=>218|53=>164|175=>191|46=>122|210=>231|127=>167|145=>239|143=>237|21=>21|171=>224|173=>227|212=>234|51=>161|20=>20|213=>235|232=>241|233=>242|80=>135|n=>n,fun|15=>1|16=>2|17=>3|18=>4|19=>5|n=>n⟩
theorem Tryz.laysB172:Go.Proofs.Lays.n172 Tryz.prog Tryz.laysB172_ren:={
 mixed:=by kernel_rfl
 f129:=Tryz.func219.trans (congrArg some (by kernel_rfl))
 f171:=Tryz.func166.trans (congrArg some (by kernel_rfl))
 f172:=Tryz.func182.trans (congrArg some (by kernel_rfl))
 f205:=Tryz.func217.trans (congrArg some (by kernel_rfl))
 f243:=Tryz.func184.trans (congrArg some (by kernel_rfl))
 f244:=Tryz.func196.trans (congrArg some (by kernel_rfl))
 f245:=Tryz.func188.trans (congrArg some (by kernel_rfl))
 f246:=Tryz.func197.trans (congrArg some (by kernel_rfl))
 f247:=Tryz.func209.trans (congrArg some (by kernel_rfl))
 f279:=Tryz.func204.trans (congrArg some (by kernel_rfl))
 f280:=Tryz.func205.trans (congrArg some (by kernel_rfl))
 f281:=Tryz.func206.trans (congrArg some (by kernel_rfl))
 f282:=Tryz.func207.trans (congrArg some (by kernel_rfl))
 f283:=Tryz.func210.trans (congrArg some (by kernel_rfl))
 f284:=Tryz.func211.trans (congrArg some (by kernel_rfl))
 f285:=Tryz.func212.trans (congrArg some (by kernel_rfl))
 f286:=Tryz.func213.trans (congrArg some (by kernel_rfl))
 f287:=Tryz.func187.trans (congrArg some (by kernel_rfl))
 f316:=Tryz.func216.trans (congrArg some (by kernel_rfl))
 f317:=Tryz.func218.trans (congrArg some (by kernel_rfl))
 f318:=Tryz.func220.trans (congrArg some (by kernel_rfl))
 f319:=Tryz.func221.trans (congrArg some (by kernel_rfl))
 f320:=Tryz.func222.trans (congrArg some (by kernel_rfl))
 f321:=Tryz.func202.trans (congrArg some (by kernel_rfl))
 f322:=Tryz.func203.trans (congrArg some (by kernel_rfl))
 f337:=Tryz.func223.trans (congrArg some (by kernel_rfl))
 f338:=Tryz.func224.trans (congrArg some (by kernel_rfl))
 t0:=Tryz.underlying0
 a0:=Tryz.isAgg0
 z0:=Tryz.sizeOf0
 v0:=Tryz.zeroValue0
 t2:=Tryz.underlying2
 a2:=Tryz.isAgg2
 z2:=Tryz.sizeOf2
 v2:=Tryz.zeroValue2
 t3:=Tryz.underlying3
 a3:=Tryz.isAgg3
 z3:=Tryz.sizeOf3
 v3:=Tryz.zeroValue3
 t4:=Tryz.underlying4
 a4:=Tryz.isAgg4
 z4:=Tryz.sizeOf4
 v4:=Tryz.zeroValue4
 t5:=Tryz.underlying5
 a5:=Tryz.isAgg5
 z5:=Tryz.sizeOf5
 v5:=Tryz.zeroValue5
 t9:=Tryz.underlying9
 a9:=Tryz.isAgg9
 z9:=Tryz.sizeOf9
 v9:=Tryz.zeroValue9
 t20:=Tryz.underlying20
 a20:=Tryz.isAgg20
 z20:=Tryz.sizeOf20
 v20:=Tryz.zeroValue20
 t21:=Tryz.underlying21
 a21:=Tryz.isAgg21
 z21:=Tryz.sizeOf21
 v21:=Tryz.zeroValue21
 t37:=Tryz.underlying47
 a37:=Tryz.isAgg47
 z37:=Tryz.sizeOf47
 v37:=Tryz.zeroValue47
 t46:=Tryz.underlying122
 a46:=Tryz.isAgg122
 z46:=Tryz.sizeOf122
 v46:=Tryz.zeroValue122
 t51:=Tryz.underlying161
 a51:=Tryz.isAgg161
 z51:=Tryz.sizeOf161
 v51:=Tryz.zeroValue161
 t53:=Tryz.underlying164
 a53:=Tryz.isAgg164
 z53:=Tryz.sizeOf164
 v53:=Tryz.zeroValue164
 t75:=Tryz.underlying131
 a75:=Tryz.isAgg131
 z75:=Tryz.sizeOf131
 v75:=Tryz.zeroValue131
 t76:=Tryz.underlying132
 a76:=Tryz.isAgg132
 z76:=Tryz.sizeOf132
 v76:=Tryz.zeroValue132
 t85:=Tryz.underlying222
 a85:=Tryz.isAgg222
 z85:=Tryz.sizeOf222
 v85:=Tryz.zeroValue222
 t127:=Tryz.underlying167
 a127:=Tryz.isAgg167
 z127:=Tryz.sizeOf167
 v127:=Tryz.zeroValue167
 t143:=Tryz.underlying237
 a143:=Tryz.isAgg237
 z143:=Tryz.sizeOf237
 v143:=Tryz.zeroValue237
 t145:=Tryz.underlying239
 a145:=Tryz.isAgg239
 z145:=Tryz.sizeOf239
 v145:=Tryz.zeroValue239
 t167:=Tryz.underlying216
 a167:=Tryz.isAgg216
 z167:=Tryz.sizeOf216
 v167:=Tryz.zeroValue216
 t168:=Tryz.underlying218
 a168:=Tryz.isAgg218
 z168:=Tryz.sizeOf218
 v168:=Tryz.zeroValue218
 t171:=Tryz.underlying224
 a171:=Tryz.isAgg224
 z171:=Tryz.sizeOf224
 v171:=Tryz.zeroValue224
 t173:=Tryz.underlying227
 a173:=Tryz.isAgg227
 z173:=Tryz.sizeOf227
 v173:=Tryz.zeroValue227
 t175:=Tryz.underlying191
 a175:=Tryz.isAgg191
 z175:=Tryz.sizeOf191
 v175:=Tryz.zeroValue191
 t210:=Tryz.underlying231
 a210:=Tryz.isAgg231
 z210:=Tryz.sizeOf231
 v210:=Tryz.zeroValue231
 t212:=Tryz.underlying234
 a212:=Tryz.isAgg234
 z212:=Tryz.sizeOf234
 v212:=Tryz.zeroValue234
 t213:=Tryz.underlying235
 a213:=Tryz.isAgg235
 z213:=Tryz.sizeOf235
 t232:=Tryz.underlying241
 a232:=Tryz.isAgg241
 z232:=Tryz.sizeOf241
 v232:=Tryz.zeroValue241
 t233:=Tryz.underlying242
 a233:=Tryz.isAgg242
 z233:=Tryz.sizeOf242
 v233:=Tryz.zeroValue242
 g15:=by kernel_rfl
 g16:=by kernel_rfl
 g17:=by kernel_rfl
 g18:=by kernel_rfl
 g19:=by kernel_rfl}
open Go.RowKit in
theorem Tryz.strconv_Atoi(s:ByteArray)(n:Int)(hl:s.size<=18)(h:Lib.atoi s.data.toList=some n)(w:World):
  Calls Tryz.prog 182 #[.string s] w fun e w'=>e= .returned (.tuple #[.int .i64 n,.nilIface])/\∃ t,w'=Lib.bytesWorld w 5 t:=Any.strconv_Atoi Tryz.laysB172 s n hl h w
def Tryz.laysB145_ren:Go.Shelf.Ren:=⟨fun|145=>131|220=>171|219=>185|217=>198|225=>199|224=>200|267=>201|266=>214|314=>215|n=>n,fun|9=>9|4=>4|59=>154|3=>3|5=>5|46=>122|146=>162|51=>161|n=>n,fun|1=>0|n=>n⟩
theorem Tryz.laysB145:Go.Proofs.Lays.n145 Tryz.prog Tryz.laysB145_ren:={
 mixed:=by kernel_rfl
 f145:=Tryz.func131.trans (congrArg some (by kernel_rfl))
 f217:=Tryz.func198.trans (congrArg some (by kernel_rfl))
 f219:=Tryz.func185.trans (congrArg some (by kernel_rfl))
 f220:=Tryz.func171.trans (congrArg some (by kernel_rfl))
 f224:=Tryz.func200.trans (congrArg some (by kernel_rfl))
 f225:=Tryz.func199.trans (congrArg some (by kernel_rfl))
 f266:=Tryz.func214.trans (congrArg some (by kernel_rfl))
 f267:=Tryz.func201.trans (congrArg some (by kernel_rfl))
 f314:=Tryz.func215.trans (congrArg some (by kernel_rfl))
 t3:=Tryz.underlying3
 a3:=Tryz.isAgg3
 z3:=Tryz.sizeOf3
 v3:=Tryz.zeroValue3
 t4:=Tryz.underlying4
 a4:=Tryz.isAgg4
 z4:=Tryz.sizeOf4
 v4:=Tryz.zeroValue4
 t5:=Tryz.underlying5
 a5:=Tryz.isAgg5
 z5:=Tryz.sizeOf5
 v5:=Tryz.zeroValue5
 t9:=Tryz.underlying9
 a9:=Tryz.isAgg9
 z9:=Tryz.sizeOf9
 v9:=Tryz.zeroValue9
 t46:=Tryz.underlying122
 a46:=Tryz.isAgg122
 z46:=Tryz.sizeOf122
 v46:=Tryz.zeroValue122
 t51:=Tryz.underlying161
 a51:=Tryz.isAgg161
 z51:=Tryz.sizeOf161
 v51:=Tryz.zeroValue161
 t59:=Tryz.underlying154
 a59:=Tryz.isAgg154
 z59:=Tryz.sizeOf154
 v59:=Tryz.zeroValue154
 t146:=Tryz.underlying162
 a146:=Tryz.isAgg162
 z146:=Tryz.sizeOf162
 v146:=Tryz.zeroValue162
 g1:=by kernel_rfl}
open Go.RowKit Go.Lib in
theorem Tryz.strings_Cut(s sep:ByteArray)(m:Int)(w:World)(hs:s.size<4294967281)(hm:w.cell? ⟨0,0,none⟩=some (.int .i64 m)):
  Calls Tryz.prog 131 #[.string s,.string sep] w fun e w'=>e= .returned (.tuple #[.string ⟨(Lib.cut s.data.toList sep.data.toList).1.toArray⟩,.string ⟨(Lib.cut s.data.toList sep.data.toList).2.1.toArray⟩,.bool (Lib.cut s.data.toList sep.data.toList).2.2])/\∃ n,w'=w.drewN n:=Any.strings_Cut Tryz.laysB145 s sep m w hs hm
open Go.RowKit Go.Lib in
open Go.RowKit Go.Lib in
def Tryz.laysB212_ren:Go.Shelf.Ren:=⟨fun|212=>95|263=>137|264=>138|n=>n,fun|46=>122|51=>161|146=>162|53=>164|148=>165|n=>n,fun|n=>n⟩
theorem Tryz.laysB212:Go.Proofs.Lays.n212 Tryz.prog Tryz.laysB212_ren:={
 mixed:=by kernel_rfl
 f212:=Tryz.func95.trans (congrArg some (by kernel_rfl))
 f263:=Tryz.func137.trans (congrArg some (by kernel_rfl))
 f264:=Tryz.func138.trans (congrArg some (by kernel_rfl))
 t46:=Tryz.underlying122
 a46:=Tryz.isAgg122
 z46:=Tryz.sizeOf122
 v46:=Tryz.zeroValue122
 t51:=Tryz.underlying161
 a51:=Tryz.isAgg161
 z51:=Tryz.sizeOf161
 v51:=Tryz.zeroValue161
 t53:=Tryz.underlying164
 a53:=Tryz.isAgg164
 z53:=Tryz.sizeOf164
 v53:=Tryz.zeroValue164
 t146:=Tryz.underlying162
 a146:=Tryz.isAgg162
 z146:=Tryz.sizeOf162
 v146:=Tryz.zeroValue162
 t148:=Tryz.underlying165
 a148:=Tryz.isAgg165
 z148:=Tryz.sizeOf165
 v148:=Tryz.zeroValue165}
open Go.RowKit Go.Lib in
theorem Tryz.bits_Mul(x y:Nat)(hx:x<18446744073709551616)(hy:y<18446744073709551616)(w:World):
  Calls Tryz.prog 95 #[.int .u64 x,.int .u64 y] w fun e w'=>e= .returned (.tuple #[.int .u64 ((x*y/18446744073709551616:Nat):Int),.int .u64 ((x*y%18446744073709551616:Nat):Int)])/\w'=w:=Any.bits_Mul Tryz.laysB212 x y hx hy w
end Go.Proofs
end
section
namespace Go.Proofs
open Go.RowKit Go.Cm Go.Shelf
attribute [local go_sem] Oper.semAt_some
def zc4:List Value:= [.bool false,.slice none 0 0,.bool false,.slice none 0 0]
theorem T8(n:Nat):madeCells (Value.agg zc4.toArray).cells (n*4)=(cU n zc4).toArray:=
 iT (t:=NT) (by decide) (by decide) n
theorem u46{n:Nat}(h:n<=1000):IntKind.u64.wrap (n:Int)=(n:Int):=by
 have h1:(n:Int)<=1000:=by omega
 unfold IntKind.wrap;have e:IntKind.u64.signed=false:=rfl;rw[e];simp only[Bool.false_and,Bool.false_eq_true,if_false];exact Int.emod_eq_of_lt (by omega) (Int.lt_of_le_of_lt h1 (by decide))
set_option maxRecDepth 100000 in
set_option maxHeartbeats 1000000 in
theorem NQ(xs:List Value)(h4:xs.length=4)(h1:∀ u∈xs,u.oneCell'=true)(n:Nat)(hn:n<=1000)(b o c:Nat)(w:World)(hc:∀ j v,xs[j]? =some v->w.cell? ⟨b,o+j,none⟩=some v):
  Calls Tryz.prog 112 #[.slice (some ⟨b,o,none⟩) 1 c,.int .i64 n] w fun e w'=>e= .returned (.slice (some ⟨w.heap.size,0,none⟩) n n)/\w'.heap[w.heap.size]? =some (.cells (cU n xs).toArray 91 (0,0))/\Below w.heap.size w w':=by
 have t36:=Tryz.underlying79;have a36:=Tryz.isAgg79;have z36:=Tryz.sizeOf79;have v36:=Tryz.zeroValue79;have t3:=Tryz.underlying3;have a3:=Tryz.isAgg3;have z3:=Tryz.sizeOf3;have v3:=Tryz.zeroValue3;have t84:=Tryz.underlying122;have a84:=Tryz.isAgg122;have z84:=Tryz.sizeOf122;have v84:=Tryz.zeroValue122;have hmul:=fun w=>Tryz.bits_Mul 1 n (by omega) (by omega) w;have e1:1*n/18446744073709551616=0:=by omega
 have e2:1*n%18446744073709551616=n:=by omega
 rw[e1,e2] at hmul;have e64:∀ args w,(callFunc 95 args).run Tryz.prog w= .ok (.enter 95 args) w:=enters_of Tryz.func95 (by kernel_rfl) rfl;have w1:IntKind.u64.wrap (n:Int)=(n:Int):=u46 hn;have w2:IntKind.i64.wrap (n:Int)=(n:Int):=wo;have c1: ¬ (n:Int)<0:=by omega
 have c2: ¬ (9223372036854775807:Int)<(n:Int):=by omega
 obtain⟨i0,hi,hz0,hz1,hz2⟩:=info_parts (show (Tryz.prog.info? 91).map (fun i=>(i.zero,i.size,i.bytes))=some (some (.agg zc4.toArray),4,64) by kernel_rfl);have hs3:(Tryz.prog.info? 91).map (·.size)=some 4:=by rw[hi];simp[hz1]
 have hmk:=run_make (P:=Tryz.prog) w 79 91 i0 (.agg zc4.toArray) t36 hi hz0 .i64 .i64 (n:Int) (n:Int) (by omega) (Int.le_refl _) (by rw[hz2];omega) (by omega);have hmc:madeCells (Value.agg zc4.toArray).cells ((n:Int).toNat*i0.size)=(cU n zc4).toArray:=by
  rw[hz1,Int.toNat_natCast];exact T8 n
 rw[hmc,Int.toNat_natCast] at hmk;have hg:(w.alloc (.cells (cU n zc4).toArray 91)).heap[w.heap.size]? =some (.cells (cU n zc4).toArray 91 (0,0)):=by rw[World.alloc_heap_new]
 have hb1:Below w.heap.size w (w.alloc (.cells (cU n zc4).toArray 91)):=(Below.refl _ _).alloc (Nat.le_refl _) _;obtain⟨m0,hm0⟩:∃ m0,m0=min 1 n:=⟨_,rfl⟩;have hm01:m0<=1/\m0<=n/\(m0=0->n=0):=by omega
 have hrl:(cU n zc4).length=n*4:=fc n zc4;have hml:(cU m0 xs).length=m0*4:=by rw[fc,h4]
 have hsrc:∀ j u,(cU m0 xs)[j]? =some u->(w.alloc (.cells (cU n zc4).toArray 91)).cell? (Addr.add ⟨b,o,none⟩ j)=some u:=by
  intro j u hj;have hj1:=(List.getElem?_eq_some_iff.1 hj).1;have hm1:m0=1:=by omega
  rw[hm1,show cU 1 xs=xs by simp[cU]] at hj;have hcj:=hc j u hj;obtain⟨o1,ho1,_⟩:=cells_of_cell hcj;rw[Addr.add_mid];exact(World.cell?_alloc_lt (a:=⟨b,o+j,none⟩) _ _ (Array.getElem?_eq_some_iff.1 ho1).1).trans hcj
 go_enter Tryz.func112,Tryz.ntmps112
 go_wp2_with (first|(go_at_fn 95;refine(hmul _).mono ?_;rintro e w' ⟨rfl,hw'⟩;rw[hw'])|refine zr rfl (.tmp 31) (.tmp 32) 79 79 rfl 91 4 t36 hs3 (some ⟨w.heap.size,0,none⟩) (some ⟨b,o,none⟩) n n 1 c m0 rfl rfl w.heap.size 0 (cU n zc4) 91 hg (cU m0 xs) (by exact hm0) hml (fun _=>⟨rfl,_,rfl,hsrc⟩) (by rw[hml,hrl];omega) (fun u hu=>h1 u (BU hu)) w.heap.size w hb1 (Nat.le_refl _) ?_;intro w4 hg4 hb4)
 go_loopw [8] (fun s wr=>∃ k:Nat,s= .int .i64 k/\(k=0->n=0)/\k<=n/\wr.heap[w.heap.size]? =some (.cells (cU k xs++cU (n-k) zc4).toArray 91 (0,0))/\Below w.heap.size w wr)
  (fun s _=>n-(intOf s).toNat)
 case atStart=>exact⟨m0,by first|rfl|rw[hm0],hm01.2.2,hm01.2.1,by
  have e:splice (cU 0 xs++cU (n-0) zc4) (0*xs.length) (cU m0 xs)=_:=qZ (by rw[h4];rfl) (by omega);simp only[show cU 0 xs= [] by simp[cU],List.nil_append,Nat.sub_zero,Nat.zero_mul,Nat.zero_add] at e;rw[<- e];exact hg4.out,hb4⟩
 case round=>
  obtain⟨k,rfl,hk1,hkn,hgk,hbk⟩:=hrel;by_cases hlt:k<n
  ·(have d1:(k:Int)<(n:Int):=by omega);obtain⟨m,hm⟩:∃ m,m=Nat.min k (n-k):=⟨_,rfl⟩;(have hm2:m<=k/\m<=n-k/\(m=k∨m=n-k):=by rw[hm];show min k (n-k)<=k/\min k (n-k)<=n-k/\(min k (n-k)=k∨min k (n-k)=n-k);omega);(have hkl:(cU k xs).length=k*4:=by rw[fc,h4]);have hzl:(cU (n-k) zc4).length=(n-k)*4:=fc _ _;(have hmm:(cU m xs).length=m*4:=by rw[fc,h4]);have hcp:∀ j u,(cU m xs)[j]? =some u->wr.cell? (Addr.add ⟨w.heap.size,0,none⟩ j)=some u:=by
    intro j u hj;have hj1:=(List.getElem?_eq_some_iff.1 hj).1;have hpre:(cU k xs)[j]? =some u:=by
     rw[show k=m+(k-m) by omega,vU,List.getElem?_append_left hj1];exact hj
    rw[Addr.add_mid,Nat.zero_add];(have hjk:j<(cU k xs).length:=by omega);simp only[World.cell?,hgk];simp[List.getElem?_append_left hjk,hpre]
   (have hfit:k*4+(cU m xs).length<=(cU k xs++cU (n-k) zc4).length:=by rw[List.length_append,hkl,hzl,hmm];omega);have hnk: ¬n=k:=by omega
   go_wp2
   go_region_law (refine Fz rfl (.tmp 41) (.tmp 44) 79 79 rfl 91 4 t36 hs3 (some ⟨w.heap.size,k*4,none⟩) (some ⟨w.heap.size,0,none⟩) (n-k) (n-k) k n m (by simp[Act.eval,Act.put]) (by simp[Act.eval,Act.put]) w.heap.size (k*4) _ 91 hgk (cU m xs) hm hmm (fun _=>⟨rfl,_,rfl,hcp⟩) hfit (fun u hu=>h1 u (BU hu)) w.heap.size w (show Below w.heap.size w wr.drew from⟨hbk.os,hbk.tape,hbk.output,hbk.size,hbk.block⟩) (Nat.le_refl _) ?_;intro w5 hg5 hb5)
   (have hw3:IntKind.i64.wrap ((k:Int)+((k.min (n-k):Nat):Int))=((k+m:Nat):Int):=by rw[<- hm,wo];omega);rw[hw3];simp only[Act.put,List.setIfInBounds_toArray,List.set_cons_succ,List.set_cons_zero,List.getElem_toArray,List.getElem_cons_succ,List.getElem_cons_zero]
   go_roundw
   case rel=>
    refine⟨_,_,_,_,_,_,_,_,_,_,_,_,_,_,⟨k+m,rfl,by omega,by omega,?_,hb5⟩,rfl⟩;have e:splice (cU k xs++cU (n-k) zc4) (k*xs.length) (cU m xs)=_:=qZ (by rw[h4];rfl) hm2.2.1;rw[h4] at e;rw[<- e];exact hg5.out
   case measure=>simp[intOf];omega
  ·(have hkk:k=n:=by omega);subst hkk;have d1: ¬ (k:Int)<(k:Int):=by omega
   go_wp2
   go_ret
   exact⟨rfl,by simpa [cU] using hgk,hbk⟩
theorem zt{w w':World}{O:Nat->Prop}{ρ0:Nat->Value}{fr:List Nat}{t:Ty}{T:TypeId}{xs:List t.D}{v:Value}{cells:List Value}(hO:∀ b,O b->b<w.heap.size)(hb:Below w.heap.size w w')(hs:∃ a n c,v= .slice a n c)(hr:∀ H:Nat->Prop,(∀ b,b<w.heap.size->H b->O b)->cQ (fun c x=>t.rep H w' c x) cells xs)(hrow:Cm.rowAt (fun b=>w.heap.size<=b) w' T t.w v xs.length cells):
  ∃ (vs':List Value) (ρ1:Nat->Value),Ending.returned v= .returned (yX vs')/\([]:List aR).length=([]:List aR).length/\Bel (fun b=>w.heap.size<=b∨bA ρ0 [] b) w w'/\
   (∀ k,¬ (ioB<=k/\k<ioB+([]:List aR).length/\fr.contains (k-ioB)=true)->ρ1 k=ρ0 k)/\
   bC (lJ (cW (hot O ρ1 (an ioB [])) [RV.own t T xs] vs') w' (fun b=>w.heap.size<=b∨bA ρ0 [] b)) [RV.own t T xs] vs'/\fO [RV.own t T xs] vs'/\
   (∀ p∈an ioB ([]:List aR),cr (cW (hot O ρ1 (an ioB [])) [RV.own t T xs] vs') w' ρ1 (fun b=>w.heap.size<=b∨bA ρ0 [] b) p)/\
   oz ρ1 (an ioB [])/\∀ b,bA ρ1 [] b-> ¬cW (fun _=>False) [RV.own t T xs] vs' b:=by
 have hnew:∀ b,Blk v b->w.heap.size<=b:=by
  intro b hbl;obtain⟨_,⟨rfl,_⟩|⟨g,cap,cur,rfl,hg,_⟩⟩:=hrow;·simp[Blk] at hbl
  ·simp[Blk] at hbl;exact hbl▸hg
 refine⟨[v],ρ0,rfl,rfl,⟨hb.os,hb.tape,hb.output,hb.size,fun k hk _=>hb.block k hk⟩,fun _ _=>rfl,⟨⟨hs,cells,hr _ ?_,?_⟩,trivial⟩,⟨fun _ b _ h=>h,trivial⟩,fun p hp=>by simp[an] at hp,List.Pairwise.nil,fun b hb=>by simp[bA,an] at hb⟩
 ·rintro b hlt (⟨_,h⟩|(h|⟨p,hp,_⟩));·have:=hnew b h;omega
  ·exact h
  ·simp[an] at hp
 ·obtain⟨h1,h2⟩:=hrow;refine⟨h1,h2.imp_right ?_⟩;rintro⟨g,cap,cur,e1,e2,e3⟩;exact⟨g,cap,cur,e1,.inl e2,e3⟩
def gd:Con:=fun l os=>match l,os with
 | [.z (.slice (.st (.pair (.st (.pair .bool (.slice (.int .u32)))) (.st (.pair .bool (.slice (.int .u32))))))) [x],.z (.int .i64) n],[]=>some (0<=n/\n<=1000,[.own tyN 91 (List.replicate n.toNat x)],[])
 |_,_=>none
theorem Q1{n:Int}(h:0<=n/\n<=1000):∃ m:Nat,n=m/\m<=1000:=⟨n.toNat,by omega,by omega⟩
theorem xL{B:aj}(hB:aC B):Valid B Tryz.prog 112 gd:=by
 intro args os C rs os' hc hC O w vals ρ0 hOn hIo hO hOI hargs hown hap;unfold gd at hc;split at hc;case h_2=>cases hc
 rename_i x n;cases hc;obtain⟨u,z,rfl,hu,hz⟩:=A9 hargs;rw[bD hz];obtain⟨m,rfl,h2⟩:=Q1 hC;obtain⟨cells,hr,h⟩:=jc hu;have hl:=bK (fun c x h=>NT.rep_length h) hr;rcases h with⟨_,h0,_⟩|⟨ad,c,rfl,hc⟩;·simp at h0
 have h4:cells.length=4:=hl;obtain⟨c0,d0,rfl,hr0,hd0⟩:=hr;obtain rfl:d0= []:=hd0;rw[List.append_nil] at h4 hc;obtain⟨b,o,sp⟩:=ad;have hcell:w.cell? ⟨b,o,sp⟩=some (c0[0]'(by omega)):=by
  have:=hc 0 (c0[0]'(by omega)) (by simp);simpa [Addr.add] using this
 obtain rfl:sp=none:=by
  cases sp with
  |none=>rfl
  |some _=>simp only[World.cell?] at hcell;split at hcell<;>simp at hcell
 refine(NQ c0 h4 (Ty.rep_oneCell NT hr0) m h2 b o c w (fun j v hj=>by have:=hc j v hj;rwa [Addr.add_mid] at this)).mono fun e w' ⟨he,hw,hb⟩=> ?_;subst he;rw[Int.toNat_natCast];refine zt hO hb ⟨_,_,_,rfl⟩ (cells:=cU m c0) (fun H hH=>eS ?_ m) ?_;·exact Ty.rep_move (t:=NT) (fun b hlt hb=> .inl (hH b hlt hb)) (fun b _ hlt=>hb.block b (df hlt)) hr0
 ·rw[List.length_replicate];refine⟨by rw[fc,h4];rfl,.inr ⟨_,m,_,rfl,Nat.le_refl _,hw,Nat.le_refl _,by unfold maxLen;omega,?_,?_⟩⟩;·simp[fc,h4];exact Nat.le_refl _
  ·rw[List.toList_toArray];exact List.take_of_length_le (by rw[fc,h4];exact Nat.le_refl _)
attribute [local go_sem] Oper.semAt_some
def zN:ND:=((false,[]),(false,[]))
def ku(xs:List ND)(k:Nat):List LV:= [.z (.int .i64) ((xs.length:Int)-1-k),.z NT (xs.getD (xs.length-1-k) zN)]
def b8(xs:List ND):List (List LV):=(List.range xs.length).map (ku xs)
set_option maxRecDepth 100000 in
set_option maxHeartbeats 2000000 in
theorem NR(F:Fence)(h7:F.fn 125)(hro:F.round=none)(l Bs oB b off len cap:Nat)(cs:Nat->List Value)(h4:∀ j,j<len->(cs j).length=4)(hbig:len<=maxLen)(J:Nat->World->Prop)(Jx:World->Prop)(Kp:World->World->Prop)
  (W:World) (hBs:W.cell? ⟨Bs,oB,none⟩=some (.slice (some ⟨b,off,none⟩) len cap)) (hc:∀ j,j<len->∀ i,i<4->W.cell? ⟨b,off+j*4+i,none⟩=(cs j)[i]?)
  (hKp:∀ A B,Kp A B->(∃ o:Obj,A.heap[Bs]? =some o/\o.isCells=true)->((0<len)->∃ o:Obj,A.heap[b]? =some o/\o.isCells=true)->B.heap[Bs]? =A.heap[Bs]? /\(0<len->B.heap[b]? =A.heap[b]?))
  (hY:∀ k W1,J k W1->k<len->YieldAt F 0 Tryz.prog l #[.int .i64 ((len:Int)-1-k),.agg (cs (len-1-k)).toArray] W1 fun e W'=>(e= .returned (.bool true)/\J (k+1) W'/\Kp W1 W')∨(e= .returned (.bool false)/\Jx W'))
  (h0:J 0 W):
  CallsIn F 1 Tryz.prog 125 #[.func (.yield l) #[] #[],.pointer (some ⟨Bs,oB,none⟩)] W fun e W'=>(∃ v,e= .returned v)/\(J len W'∨Jx W'):=by
 unfold maxLen at hbig;refine callsIn_of_wp Tryz.func125 rfl h7 ?_ hro;simp only[Tryz.ntmps125,List.size_toArray,List.length_cons,List.length_nil,Nat.reduceAdd,Nat.reduceSub,Array.replicate_succ,Array.replicate_zero,List.push_toArray,List.append_toArray,List.nil_append,List.cons_append]
 gi_wp2
 gi_loopw [3] (fun i wr=>∃ k:Nat,k<=len/\i= .int .i64 ((len:Int)-1-k)/\J k wr/\wr.heap[Bs]? =W.heap[Bs]? /\(0<len->wr.heap[b]? =W.heap[b]?))
  (fun i _=>(intOf i+1).toNat)
 case atStart=>exact⟨0,Nat.zero_le _,by simp,h0,rfl,fun _=>rfl⟩
 case round=>
  obtain⟨k,hk,rfl,hJs,hn1,hn2⟩:=hrel;have hB1:wr.cell? ⟨Bs,oB,none⟩=some (.slice (some ⟨b,off,none⟩) len cap):=(World.cell?_of_block (a:=⟨Bs,oB,none⟩) hn1).trans hBs;by_cases hlt:k<len
  ·(have hge:0<=(len:Int)-1-k:=by omega);(have htn:((len:Int)-1-k).toNat=len-1-k:=by omega);(have hup:(len:Int)-1-k<len:=by omega);have hci:∀ i,i<4->wr.cell? ⟨b,off+(len-1-k)*4+i,none⟩=(cs (len-1-k))[i]? :=fun i hi=>(World.cell?_of_block (a:=⟨b,off+(len-1-k)*4+i,none⟩) (hn2 (by omega))).trans (hc _ (by omega) i hi);have hlk:=h4 (len-1-k) (by omega);obtain⟨x0,x1,x2,x3,hx⟩:∃ x0 x1 x2 x3,cs (len-1-k)= [x0,x1,x2,x3]:=by
    match h:cs (len-1-k),hlk with
    | [x0,x1,x2,x3],_=>exact⟨_,_,_,_,rfl⟩
   have hc0:wr.cell? ⟨b,off+(len-1-k)*4+0,none⟩=some x0:=(hci 0 (by omega)).trans (by rw[hx];rfl);have hcx:=hc0;have hload:=dE (P:=Tryz.prog) (Go.Proofs.YtdojbabpnaifoaaGreatDoor.ty91) (w:=wr) (b:=b) (o:=off+(len-1-k)*4) (cells:=cs (len-1-k)) (by rw[hlk];rfl) (fun j hj=>hci j (by omega));have hcB:∃ o:Obj,wr.heap[Bs]? =some o/\o.isCells=true:=cells_of_cell hB1;have hcb:∃ o:Obj,wr.heap[b]? =some o/\o.isCells=true:=cells_of_cell hcx;have hYk:=hY k wr hJs hlt;rw[hx] at hYk hload;obtain⟨fn,tmps,assign,body,hy,hR⟩:=hYk
   gi_wp2
   refine hR.mono ?_;rintro e W3 (⟨rfl,hJ3,hk3⟩|⟨rfl,hJx3⟩)
   ·obtain⟨e1,e2⟩:=hKp _ _ hk3 hcB (fun _=>hcb)
    gi_wp2
    go_roundw
    (case rel=>exact⟨k+1,by omega,by congr 1;omega,hJ3,e1.trans hn1,fun h=>(e2 h).trans (hn2 h)⟩);case measure=>simp[intOf];omega
   ·gi_wp2
    refine bodyPost_ret (results_none rfl _ _ _) rfl ?_;exact⟨⟨_,rfl⟩,.inr hJx3⟩
  ·(have hk2:k=len:=by omega);(have hng: ¬0<=(len:Int)-1-k:=by omega);rw[hk2] at hJs;clear hk2
   gi_wp2
   go_end0
   exact⟨⟨_,rfl⟩,.inl hJs⟩
set_option maxRecDepth 100000 in
set_option maxHeartbeats 2000000 in
theorem xM(F:Fence)(h7:F.fn 125)(hro:F.round=none)(l Bs oB:Nat)(J:World->Prop)(W:World)(a:Option Addr)(cap:Nat)(hBs:W.cell? ⟨Bs,oB,none⟩=some (.slice a 0 cap))(h0:J W):
  CallsIn F 1 Tryz.prog 125 #[.func (.yield l) #[] #[],.pointer (some ⟨Bs,oB,none⟩)] W fun e W'=>(∃ v,e= .returned v)/\J W':=by
 refine callsIn_of_wp Tryz.func125 rfl h7 ?_ hro;simp only[Tryz.ntmps125,List.size_toArray,List.length_cons,List.length_nil,Nat.reduceAdd,Nat.reduceSub,Array.replicate_succ,Array.replicate_zero,List.push_toArray,List.append_toArray,List.nil_append,List.cons_append]
 gi_wp2
 gi_loopw [3] (fun i wr=>i= .int .i64 (-1)/\wr=W) (fun i _=>(intOf i+1).toNat)
 case atStart=>exact⟨rfl,rfl⟩
 case round=>
  obtain⟨rfl,rfl⟩:=hrel
  gi_wp2
  go_end0
  exact⟨⟨_,rfl⟩,h0⟩
theorem me{H:Nat->Prop}{w:World}{b o:Nat}{c:Value}(h:dH H w b o [c]):w.cell? ⟨b,o,none⟩=some c/\b<w.heap.size/\ ¬H b:=
 ⟨by have:=h.2 0 (by simp);simpa using this,h.lt (by simp),h.1 (by simp)⟩
theorem xN(xs:List ND):oH Tryz.prog 125 2 [.z (.ptr (.slice NT)) xs] (b8 xs):=by
 refine⟨enters_of Tryz.func125 (by kernel_rfl) rfl,?_,?_⟩;·intro it hit;obtain⟨k,_,rfl⟩:=List.mem_map.1 hit;exact⟨rfl,rfl⟩
 ·intro H w lb hH hcap;obtain⟨v,rfl⟩:∃ v,lb= [v]:=by
   match lb,hcap with
   | [v],_=>exact⟨v,rfl⟩
   |_::_::_,h=>exact h.2.elim
  obtain⟨hag,bB,oB,cells,hv,hsl,hlies⟩:=hcap.1;have hv2:v= .pointer (some ⟨bB,oB,none⟩):=by
   have hone:=cE (v:=v) (by cases v<;>first|rfl|(simp[Ty.isAgg] at hag));rw[hone] at hv;simpa using hv
  subst hv2;have hlen:(b8 xs).length=xs.length:=by simp[b8]
  rcases hsl with⟨rfl,rfl⟩|⟨b,o,p,cap,cs,rfl,hp,h1,h2,h3,h4⟩;·refine⟨fun k=> #[],fun k hk=>by simp[b8] at hk,?_⟩;intro l J Jx W hb _ _ _ _ hY h0;obtain⟨c1,c2,c3⟩:=me hlies;exact(xM (fw none) trivial rfl l bB oB (J 0) W none 0 ((hb.cell (p:=⟨bB,oB,none⟩) c2).trans c1) h0).mono (fun e W' h=>⟨h.1,.inl h.2⟩)
  ·have hcl:cs.length=xs.length*4:=bK (fun c x h=>NT.rep_length h) h3;have hone:∀ j,j<xs.length->((cs.drop (j*4)).take 4).length=4:=by
    intro j hj;rw[List.length_take,List.length_drop,hcl];omega
   refine⟨fun k=> #[.int .i64 ((xs.length:Int)-1-k),.agg ((cs.drop ((xs.length-1-k)*4)).take 4).toArray],fun k hk=> ?_,?_⟩
   ·rw[hlen] at hk;have hg:=gp (fun c x h=>NT.rep_length h) h3 (xs.length-1-k) (by omega);simp only[b8,List.getElem_map,List.getElem_range];refine⟨b4 (ρ:=fun _=>undef),?_,trivial⟩;have hx:xs.getD (xs.length-1-k) zN=xs[xs.length-1-k]'(by omega):=by
     rw[List.getD_eq_getElem?_getD,List.getElem?_eq_getElem (by omega)];rfl
    rw[hx];exact iq (t:=NT) hg (fun h=>by cases h) (fun h=>by cases h)
   ·(intro l J Jx W hb _ _ _ _ hY h0;rw[hlen] at hY ⊢;obtain⟨c1,c2,c3⟩:=me hlies;by_cases hnil:xs= [];·subst hnil;exact(xM (fw none) trivial rfl l bB oB (J 0) W (some ⟨b,o,p⟩) cap ((hb.cell (p:=⟨bB,oB,none⟩) c2).trans c1) h0).mono (fun e W' h=>⟨h.1,.inl h.2⟩));obtain rfl:=hp hnil;(have hne:0<xs.length->cs≠ []:=fun h e=>by rw[e] at hcl;simp at hcl;omega);refine NR (fw none) trivial rfl l bB oB b o xs.length cap (fun j=>(cs.drop (j*4)).take 4) hone (Nat.le_trans h1 h2) J Jx (A8 H w.heap.size) W ((hb.cell (p:=⟨bB,oB,none⟩) c2).trans c1) (fun j hj i hi=> ?_) (fun A B hk hA1 hA2=>⟨hk bB c2 c3 hA1,fun h=>hk b (h4.lt (hne h)) (h4.1 (hne h)) (hA2 h)⟩) hY h0;(have hj':j*4+i<cs.length:=by rw[hcl];omega);rw[Nat.add_assoc,hb.cell (p:=⟨b,o+(j*4+i),none⟩) (h4.lt (hne (by omega))),h4.2 (j*4+i) hj'];rw[List.getElem?_take,if_pos hi,List.getElem?_drop]
end Go.Proofs
end
section
namespace Go.Cm
open Go.Proofs
theorem BV{p:List ND}{k i:Nat}(h:Sz k p)(hi:i<p.length):p.getD i zN=br (cf (ax p) i):=by
 rw[<- gK h hi,ea (t:=NT) hi,List.getD_eq_getElem?_getD,List.getElem?_eq_getElem hi];rfl
theorem BW{p:List ND}{k:Nat}(hk:k<p.length):p.length-1-k<p.length:=by omega
theorem FA(p:List ND)(x:Rat):0=aF (List.drop (p.length-0) (ax p)) x:=by
 rw[Nat.sub_zero,List.drop_of_length_le (by rw[aN];exact Nat.le_refl _)];rfl
theorem FB{p:List ND}{x:Rat}{k:Nat}(hk:k<p.length):aF (List.drop (p.length-(k+1)) (ax p)) x=aF (List.drop (p.length-k) (ax p)) x*x+cf (ax p) (p.length-1-k):=by
 rw[List.drop_eq_getElem_cons (by rw[aN];omega),show p.length-(k+1)+1=p.length-k by omega];have e:(ax p)[p.length-(k+1)]'(by rw[aN];omega)=cf (ax p) (p.length-1-k):=by
  unfold cf;rw[List.getD_eq_getElem?_getD,show p.length-1-k=p.length-(k+1) by omega,List.getElem?_eq_getElem (by rw[aN];omega)];rfl
 rw[e];rfl
theorem Ke{p:List ND}{x:ND}{k:Nat}(hC:Sz QM p/\p.length<=100/\NOK x/\lq (bF x)<=QM)(hk:k<p.length){v:Rat}(hz:v=aF (List.drop (p.length-k) (ax p)) (bF x)):ie (br v) x/\ie (br (v*bF x)) (br (cf (ax p) (p.length-1-k))):=by
 obtain⟨h1,h2,h3,h4⟩:=hC;have e:QM=400000000:=rfl;have e2:QC=100000000000:=rfl;have hl:=Hi (l:=List.drop (p.length-k) (ax p)) (x:=bF x) (K:=QM) (fun c hc=>by
  have hc':=List.mem_of_mem_drop hc;obtain⟨y,hy,rfl⟩:=List.mem_map.1 hc';exact(h1 y hy).2) h4
 rw[<- hz,List.length_drop,aN] at hl;have hm:=l8 v (bF x);have hc:=h1.cf (by omega) (p.length-1-k);have h5:(p.length-(p.length-k))*(2*QM+1)<=100*(2*QM+1):=Nat.mul_le_mul_right _ (by omega);exact⟨⟨cd _,h3,by rw[aQ];omega⟩,cd _,cd _,by rw[aQ,aQ];omega⟩
theorem NS(p:List ND)(x:Rat):aF (List.drop (p.length-(b8 p).length) (ax p)) x=aF (ax p) x:=by
 rw[show (b8 p).length=p.length by simp[b8],Nat.sub_self,List.drop_zero]
def vV(s b:List Rat)(c:Rat):List Rat:=bq (· + ·) (cu s b) (aP [c])
def iP(p b:List Rat):Nat->List Rat
 |0=> []
 |k+1=>vV (iP p b k) b (cf p (p.length-1-k))
def lH(p b:List Rat):List Rat:=iP p b p.length
def FC(s b:List ND)(c:ND):Prop:=Sz QM s/\Sz QM b/\s.length<=100/\b.length<=100/\NOK c/\lq (bF c)<=QM/\Sz QH (aL (cu (ax s) (ax b)))
def zu(p b:List ND):Prop:=Sz QM p/\p.length<=100/\∀ k,k<p.length->FC (aL (iP (ax p) (ax b) k)) b (br (cf (ax p) (p.length-1-k)))
theorem vW(p q:List Rat):(cu p q).length<=p.length+q.length:=by
 unfold cu;split;·simp
 ·rw[ew];omega
theorem Kf{s b:List ND}{c:ND}(h:FC s b c):(Sz QM s/\Sz QM b/\s.length<=100/\b.length<=100)/\(Sz QC [c]/\ [c].length<=QL)/\Sz QH (aL (cu (ax s) (ax b)))/\Sz QH (aL (aP (ax [c])))/\(aL (cu (ax s) (ax b))).length<=1000/\(aL (aP (ax [c]))).length<=1000:=by
 obtain⟨h1,h2,h3,h4,h5,h6,h7⟩:=h;have e:QM=400000000:=rfl;have e2:QC=100000000000:=rfl;have e3:QH=40000000000:=rfl;refine⟨⟨h1,h2,h3,h4⟩,⟨fun x hx=> ?_,by simp[QL]⟩,h7,fQ fun x hx=> ?_,?_,?_⟩;·simp only[List.mem_singleton] at hx;subst hx;exact⟨h5,by omega⟩
 ·have:x=bF c:=by
   (simp only[ax,List.map_cons,List.map_nil,aP] at hx;split at hx;·simp at hx);·simpa using hx
  rw[this];omega
 ·rw[aH];have:=vW (ax s) (ax b);rw[aN,aN] at this;omega
 ·rw[aH];have:=dt (ax [c]);rw[aN] at this;simp only[List.length_cons,List.length_nil] at this;omega
theorem NU(x:Rat)(i k:Nat):x^(i+k)=x^i*x^k:=by
 induction k with
 |zero=>rw[Nat.add_zero,Rat.pow_zero,Rat.mul_one]
 |succ k ih=>rw[<- Nat.add_assoc,Rat.pow_succ,Rat.pow_succ,ih,Rat.mul_assoc]
theorem dv(x:Rat):aF [] x=0:=rfl
theorem eO(c:Rat)(l:List Rat)(x:Rat):aF (c::l) x=aF l x*x+c:=rfl
theorem k9(c x:Rat):aF [c] x=c:=by rw[eO,dv];grind
theorem pX(l m:List Rat)(x:Rat):aF (l++m) x=aF l x+x^l.length*aF m x:=by
 induction l with
 |nil=>simp only[List.nil_append,dv,List.length_nil];grind
 |cons c l ih=>simp only[List.cons_append,eO,ih,List.length_cons];grind
theorem FD(n:Nat)(x:Rat):aF (List.replicate n 0) x=0:=by
 induction n with
 |zero=>rfl
 |succ n ih=>rw[List.replicate_succ,eO,ih];grind
theorem ec(l:List Rat)(x:Rat):aF (aP l) x=aF l x:=by
 induction l with
 |nil=>rfl
 |cons c l ih=>
  rw[eO,<- ih];simp only[aP];split
  ·(rename_i h;rw[h];split;·rename_i h0;rw[h0,dv];grind);·rw[k9,dv];grind
  ·rename_i y m h;rw[h,eO]
theorem NV(l:List Rat)(j:Nat)(y x:Rat)(h:j<l.length):aF (l.set j y) x=aF l x+(y-cf l j)*x^j:=by
 induction l generalizing j with
 |nil=>simp at h
 |cons c l ih=>
  cases j with
  |zero=>simp only[List.set_cons_zero,eO,cf,List.getD_cons_zero];grind
  |succ j=>
   simp only[List.set_cons_succ,eO];rw[ih j (by simpa using h)];(have:cf (c::l) (j+1)=cf l j:=by simp[cf]);rw[this];grind
theorem rD(l:List Rat)(k:Nat)(x:Rat)(h:k<l.length):aF (l.take (k+1)) x=aF (l.take k) x+cf l k*x^k:=by
 rw[List.take_succ_eq_append_getElem h,pX,k9,List.length_take,Nat.min_eq_left (by omega)];unfold cf;rw[List.getD_eq_getElem?_getD,List.getElem?_eq_getElem h];simp only[Option.getD_some];grind
theorem NW(out:List Rat)(i:Nat)(a:Rat)(q:List Rat)(x:Rat):∀ k,k<=q.length->i+k<=out.length->aF (cL out i a q k) x=aF out x+a*x^i*aF (q.take k) x
 |0,_,_=>by simp only[cL,List.take_zero,dv];grind
 |k+1,hk,h=>by
  rw[cL,NV _ _ _ _ (by rw[jt];omega),NW out i a q x k (by omega) (by omega),rD q k x (by omega)];have:x^(i+k)=x^i*x^k:=NU _ _ _;rw[this];grind
theorem vX(out:List Rat)(i:Nat)(a:Rat)(q:List Rat)(x:Rat)(h:i+q.length<=out.length):aF (cL out i a q q.length) x=aF out x+a*x^i*aF q x:=by
 rw[NW _ _ _ _ _ _ (Nat.le_refl _) h,List.take_length]
theorem Hk(p q:List Rat)(x:Rat)(hq:0<q.length):∀ i,i<=p.length->aF (mulN p q i) x=aF (p.take i) x*aF q x
 |0,_=>by rw[mulN,FD,List.take_zero,dv];grind
 |i+1,h=>by
  rw[mulN,vX _ _ _ _ _ (by rw[ew];omega),Hk p q x hq i (by omega),rD p i x (by omega)];grind
theorem ee(p q:List Rat)(x:Rat):aF (cu p q) x=aF p x*aF q x:=by
 unfold cu;split;·rename_i h;rcases h with h|h<;>(subst h;simp only[dv];grind)
 ·rename_i h;have hq:0<q.length:=List.length_pos_iff.2 fun e=>h (.inr e);rw[Hk p q x hq _ (Nat.le_refl _),List.take_length]
theorem ld(f:Nat->Rat)(x:Rat):∀ n,aF ((List.range (n+1)).map f) x=aF ((List.range n).map f) x+f n*x^n:=by
 intro n;rw[List.range_succ,List.map_append,pX];simp only[List.map_cons,List.map_nil,k9,List.length_map,List.length_range];grind
theorem bH{l:List Rat}{i:Nat}(h:l.length<=i):cf l i=0:=by
 unfold cf;rw[List.getD_eq_getElem?_getD,List.getElem?_eq_none h];rfl
theorem mf(l:List Rat)(x:Rat):∀ n,l.length<=n->aF ((List.range n).map (cf l)) x=aF l x:=by
 have h0:∀ n,n<=l.length->aF ((List.range n).map (cf l)) x=aF (l.take n) x:=by
  intro n;induction n with
  |zero=>intro _;rfl
  |succ n ih=>intro h;rw[ld,ih (by omega),rD l n x (by omega)]
 intro n;induction n with
 |zero=>intro h;rw[h0 0 (by omega),show l= [] from List.eq_nil_of_length_eq_zero (by omega)];rfl
 |succ n ih=>
  intro h;by_cases h2:l.length<=n;·rw[ld,ih h2,bH h2];grind
  ·rw[h0 _ (by omega),List.take_of_length_le (by omega)]
theorem xO(l m:List Rat)(x:Rat):∀ n,aF (bU (· + ·) l m n) x=aF ((List.range n).map (cf l)) x+aF ((List.range n).map (cf m)) x
 |0=>by simp only[bU,List.range_zero,List.map_nil,dv];grind
 |n+1=>by
  have:=xO l m x n;unfold bU at this ⊢;rw[ld,ld,ld,this];grind
theorem xP(l m:List Rat)(x:Rat):∀ n,aF (bU (· - ·) l m n) x=aF ((List.range n).map (cf l)) x-aF ((List.range n).map (cf m)) x
 |0=>by simp only[bU,List.range_zero,List.map_nil,dv];grind
 |n+1=>by
  have:=xP l m x n;unfold bU at this ⊢;rw[ld,ld,ld,this];grind
theorem lf(l m:List Rat)(x:Rat):aF (bq (· + ·) l m) x=aF l x+aF m x:=by
 rw[bq,ec,xO,mf _ _ _ (by omega),mf _ _ _ (by omega)]
theorem jv(l m:List Rat)(x:Rat):aF (bq (· - ·) l m) x=aF l x-aF m x:=by
 rw[bq,ec,xP,mf _ _ _ (by omega),mf _ _ _ (by omega)]
theorem vY(l:List Rat)(x:Rat):aF (cC l) x=aF l x/aE l:=by
 have:∀ (c:Rat) (l:List Rat),aF (l.map fun a=>a/c) x=aF l x/c:=by
  intro c l;induction l with
  |nil=>simp only[List.map_nil,dv];grind
  |cons a l ih=>simp only[List.map_cons,eO,ih];grind
 exact this _ _
theorem NX:∀ {l:List Rat},l≠ []->aE l≠0->∃ d X:Rat,0<d/\1<=X/\∀ x,X<=x->d<=(aF l x).abs
 | [],h,_=>absurd rfl h
 | [c],_,h=>by
  refine⟨c.abs,1,?_,by grind,fun x _=>by rw[k9];grind⟩;have:aE [c]=c:=rfl;rw[this] at h;unfold Rat.abs;split<;>grind
 |c::a::l,_,h=>by
  obtain⟨d,X,h1,h2,h3⟩:=NX (l:=a::l) (by simp) (by simpa [aE] using h);refine⟨d,max X ((d+c.abs)/d),h1,by grind,fun x hx=> ?_⟩;have h4:=h3 x (by grind);have h5:(d+c.abs)/d<=x:=by grind
  have h6:d+c.abs<=x*d:=by
   have:=Rat.mul_le_mul_of_nonneg_right h5 (Rat.le_of_lt h1);rwa [Rat.div_mul_cancel (by grind)] at this
  have h7:1<=x:=by grind
  have h8:x*d<=x*(aF (a::l) x).abs:=Rat.mul_le_mul_of_nonneg_left h4 (by grind);rw[eO];generalize aF (a::l) x=v at*;have h9:(v*x).abs=x*v.abs:=by
   by_cases hv:0<=v
   ·rw[Rat.abs_of_nonneg hv,Rat.abs_of_nonneg (Rat.mul_nonneg hv (by grind))];grind
   ·have h11:0<= -v*x:=Rat.mul_nonneg (by grind) (by grind);rw[Rat.abs_of_nonpos (by grind),Rat.abs_of_nonpos (by grind)];grind
  have h10:(v*x).abs<=(v*x+c).abs+c.abs:=by
   unfold Rat.abs;split<;>split<;>split<;>grind
  grind
theorem Hl{l:List Rat}(h:Trm l)(h0:∀ x,aF l x=0):l= []:=by
 by_cases hn:l= []
 ·exact hn
 ·obtain⟨d,X,h1,h2,h3⟩:=NX hn (h hn);have:=h3 X (by grind);rw[h0 X] at this;rw[Rat.abs_zero] at this;grind
theorem ig(op:Rat->Rat->Rat)(l m:List Rat)(n i:Nat)(h:i<n):cf (bU op l m n) i=op (cf l i) (cf m i):=by
 unfold bU;conv=>lhs;unfold cf
 rw[List.getD_eq_getElem?_getD,List.getElem?_map,List.getElem?_range h];rfl
theorem eP(l:List Rat)(i:Nat):cf (aP l) i=cf l i:=by
 induction l generalizing i with
 |nil=>rfl
 |cons c l ih=>
  simp only[aP];split
  ·rename_i h;rw[h] at ih;(have h0:∀ j,cf l j=0:=fun j=>by rw[<- ih j];simp[cf]);split
   ·rename_i hc;cases i with
    |zero=>simp[cf,hc]
    |succ i=>have:=h0 i;simp only[cf,List.getD_cons_succ] at this ⊢;rw[this];simp
   ·cases i with
    |zero=>simp[cf]
    |succ i=>have:=h0 i;simp only[cf,List.getD_cons_succ] at this ⊢;rw[this];simp
  ·rename_i y m h;rw[h] at ih;cases i with
   |zero=>simp[cf]
   |succ i=>have:=ih i;simp only[cf,List.getD_cons_succ] at this ⊢;exact this
theorem FE{l m:List Rat}(hl:Trm l)(hm:Trm m)(h:∀ i,cf l i=cf m i):l=m:=by
 have hlen:∀ {l m:List Rat},Trm l->(∀ i,cf l i=cf m i)->l.length<=m.length:=by
  intro l m hl h;by_cases hn:l= [];·subst hn;simp
  ·have hp:=List.length_pos_iff.2 hn;have h1:=hl hn;rw[bG hp,h] at h1;have: ¬m.length<=l.length-1:=fun e=>h1 (bH e);omega
 have e:l.length=m.length:=Nat.le_antisymm (hlen hl h) (hlen hm fun i=>(h i).symm);apply List.ext_getElem e;intro i h1 h2;have:=h i;unfold cf at this;rw[List.getD_eq_getElem?_getD,List.getD_eq_getElem?_getD,List.getElem?_eq_getElem h1,List.getElem?_eq_getElem h2] at this;exact this
theorem iK{l m:List Rat}(hl:Trm l)(hm:Trm m)(h:∀ x,aF l x=aF m x):l=m:=by
 have h0:bq (· - ·) l m= []:=Hl (cG _) fun x=>by rw[jv,h];grind
 refine FE hl hm fun i=> ?_;by_cases hi:i<max l.length m.length
 ·have h1:=eP (bU (· - ·) l m (max l.length m.length)) i;rw[show aP (bU (· - ·) l m (max l.length m.length))= [] from h0,ig _ _ _ _ _ hi] at h1;have:cf [] i=0:=by simp[cf]
  rw[this] at h1;grind
 ·rw[bH (by omega),bH (by omega)]
theorem mR:Trm []:=fun h=>absurd rfl h
theorem ij{l:List Rat}(h:Trm l):aP l=l:=by
 by_cases hn:l= []
 ·subst hn;rfl
 ·exact nZ hn (h hn)
theorem cl(op:Rat->Rat->Rat)(l m:List Rat):Trm (bq op l m):=cG _
theorem eF(op:Rat->Rat->Rat)(l m:List Rat):(bq op l m).length<=max l.length m.length:=by
 have:=dt (bU op l m (max l.length m.length));rw[dn] at this;exact this
theorem xQ(p q:List Rat)(hq:0<q.length):∀ i,i<=p.length->∀ n,i+q.length<=n+1->cf (mulN p q i) n=0
 |0,_,n,_=>by
  rw[mulN];unfold cf;rw[List.getD_eq_getElem?_getD];by_cases h:n<p.length+q.length-1;·rw[List.getElem?_replicate,if_pos h];rfl
  ·rw[List.getElem?_eq_none (by simp;omega)];rfl
 |i+1,h,n,hn=>by
  rw[mulN,kZ _ _ _ _ _ _ (by rw[ew];omega),if_neg (by omega)];exact xQ p q hq i (by omega) n (by omega)
theorem NY{p q:List Rat}(hp:0<p.length)(hq:0<q.length):aE (mulN p q p.length)=aE p*aE q:=by
 obtain⟨n,hn⟩:∃ n,p.length=n+1:=⟨p.length-1,by omega⟩;rw[bG (by rw[ew];omega),ew,hn,mulN,kZ _ _ _ _ _ _ (by rw[ew];omega),if_pos (by omega),xQ p q hq n (by omega) _ (by omega:n+q.length<=(n+1+q.length-1-1)+1)];rw[bG hp,bG hq,hn];have e1:n+1+q.length-1-1-n=q.length-1:=by omega
 have e2:n+1-1=n:=by omega
 rw[e1,e2];grind
theorem zv{p q:List Rat}(hp:p≠ [])(hq:q≠ []):cu p q=mulN p q p.length:=by
 unfold cu;rw[if_neg];rintro(h|h);·exact hp h
 ·exact hq h
theorem iB{p q:List Rat}(hp:p≠ [])(hq:q≠ []):(cu p q).length=p.length+q.length-1:=by
 rw[zv hp hq,ew]
theorem fR(q:List Rat):cu [] q= []:=by unfold cu;rw[if_pos (.inl rfl)]
theorem jw(p:List Rat):cu p []= []:=by unfold cu;rw[if_pos (.inr rfl)]
theorem xR{p q:List Rat}(hp:p≠ [])(hq:q≠ []):aE (cu p q)=aE p*aE q:=by
 rw[zv hp hq,NY (List.length_pos_iff.2 hp) (List.length_pos_iff.2 hq)]
theorem kv{p q:List Rat}(hp:Trm p)(hq:Trm q):Trm (cu p q):=by
 intro h;by_cases h1:p= [];·subst h1;exact absurd (fR q) h
 by_cases h2:q= []
 ·subst h2;exact absurd (jw p) h
 rw[xR h1 h2];have:=hp h1;have:=hq h2;grind
theorem vZ{q r:List Rat}(h:q.length<=r.length)(x:Rat):aF (aP (cA q r)) x=aF r x-(aE r/aE q)*x^(r.length-q.length)*aF q x:=by
 rw[ec,cA,vX _ _ _ _ _ (by omega)];grind
theorem BX{q:List Rat}(hq:0<q.length)(h0:aE q≠0)(x:Rat):∀ (n:Nat) (r s:List Rat),r.length<n->(∀ i,i+q.length<=r.length->cf s i=0)->r.length+1-q.length<=s.length->
  aF (fq q n r s).1 x*aF q x+aF (fq q n r s).2 x=aF s x*aF q x+aF r x
 |0,r,s,h,_,_=>absurd h (by omega)
 |n+1,r,s,h,hz,hs=>by
  rw[fq];split;·rename_i hl;have h1:=fb hq hl h0;rw[BX hq h0 x n _ _ (by omega) (fun i hi=>by rw[NF,if_neg (by omega)];exact hz i (by omega)) (by rw[List.length_set];omega)];rw[vZ hl,NV _ _ _ _ (by omega),hz _ (by omega)];grind
  ·rfl
theorem rE{p q:List Rat}(hq:q≠ [])(h0:Trm q)(x:Rat):aF (divN p q).1 x*aF q x+aF (divN p q).2 x=aF p x:=by
 unfold divN;rw[BX (List.length_pos_iff.2 hq) (h0 hq) x _ _ _ (Nat.lt_succ_self _) (fun i _=> ?_) (by simp),FD];·grind
 ·unfold cf;rw[List.getD_eq_getElem?_getD,List.getElem?_replicate];split<;>rfl
theorem FF{q s t r u:List Rat}(hq:q≠ [])(tq:Trm q)(ts:Trm s)(tt:Trm t)(tr:Trm r)(tu:Trm u)(hr:r.length<q.length)(hu:u.length<q.length)
  (h:∀ x,aF s x*aF q x+aF r x=aF t x*aF q x+aF u x):s=t/\r=u:=by
 have h1:cu (bq (· - ·) s t) q=bq (· - ·) u r:=iK (kv (cl _ _ _) tq) (cl _ _ _) fun x=>by
  rw[ee,jv,jv];have:=h x;grind
 have h2:bq (· - ·) s t= []:=by
  by_cases hd:bq (· - ·) s t= []
  ·exact hd
  ·have:=iB hd hq;rw[h1] at this;have h3:=eF (· - ·) u r;have h4:=List.length_pos_iff.2 hd;omega
 have h3:s=t:=iK ts tt fun x=>by have:=jv s t x;rw[h2,dv] at this;grind
 refine⟨h3,iK tr tu fun x=> ?_⟩;have:=h x;rw[h3] at this;grind
theorem q8{p q s r:List Rat}(hq:q≠ [])(tp:Trm p)(tq:Trm q)(ts:Trm s)(tr:Trm r)(hr:r.length<q.length)(h:∀ x,aF s x*aF q x+aF r x=aF p x):
  aP (divN p q).1=s/\(divN p q).2=r:=
 FF hq tq (cG _) ts (dQ tp) tr (dF (List.length_pos_iff.2 hq) (tq hq)) hr fun x=>by rw[ec,rE hq tq,h]
def Den(b:Nat)(l:List Rat):Prop:=∃ D:Int,D≠0/\lw D<=b/\∀ i,∃ n:Int,lw n<=b/\cf l i=Rat.divInt n D
theorem Den.mono{b c:Nat}{l:List Rat}(h:Den b l)(hc:b<=c):Den c l:=by
 obtain⟨D,h1,h2,h3⟩:=h;exact⟨D,h1,by omega,fun i=>by obtain⟨n,a,e⟩:=h3 i;exact⟨n,by omega,e⟩⟩
theorem Den.lq{b:Nat}{l:List Rat}(h:Den b l):∀ x∈l,lq x<=b:=by
 obtain⟨D,h1,h2,h3⟩:=h;intro x hx;obtain⟨i,hi,rfl⟩:=List.getElem_of_mem hx;obtain⟨n,a,e⟩:=h3 i;unfold cf at e;rw[List.getD_eq_getElem?_getD,List.getElem?_eq_getElem hi] at e;simp only[Option.getD_some] at e;rw[e];have:=l7 n D h1;omega
theorem Den.sz{b k:Nat}{l:List Rat}(h:Den b l)(hk:b<=k):Sz k (aL l):=fQ fun x hx=>Nat.le_trans (h.lq x hx) hk
theorem Kg{b:Nat}{l m:List Rat}(h:Den b l)(he:∀ i,cf m i=cf l i):Den b m:=by
 obtain⟨D,h1,h2,h3⟩:=h;exact⟨D,h1,h2,fun i=>by rw[he];exact h3 i⟩
theorem mg{b:Nat}{l:List Rat}(h:Den b l):Den b (aP l):=Kg h fun i=>eP l i
theorem rF{b:Nat}(hb:1<=b):Den b []:=⟨1,by decide,by rw[kX];exact hb,fun i=>⟨0,by rw[eN];omega,by rw[Rat.zero_divInt];simp[cf]⟩⟩
theorem Den.pos{b:Nat}{l:List Rat}(h:Den b l):1<=b:=by
 obtain⟨D,h1,h2,_⟩:=h;have:lw D≠0:=fun e=>by have:=qU D;rw[e] at this;simp at this;omega
 omega
theorem xS{n D:Int}(hD:D≠0)(h:Rat.divInt n D≠0):n≠0:=fun e=>h (by rw[e,Rat.zero_divInt])
theorem FG(a b:Int):lw (a-b)<=max (lw a) (lw b)+1:=by
 have:=vA a (-b);rw[Nk] at this;exact this
theorem oU{b c:Nat}{q r:List Rat}(hr:Den b r)(hq:Den c q)(hl:q.length<=r.length)(h0:aE q≠0)(hp:0<q.length):Den (b+c+1) (aP (cA q r)):=by
 refine mg ?_;obtain⟨D,d1,d2,d3⟩:=hr;obtain⟨E,e1,e2,e3⟩:=hq;obtain⟨R,r1,r2⟩:=d3 (r.length-1);obtain⟨Q,q1,q2⟩:=e3 (q.length-1);rw[<- bG (by omega)] at r2;rw[<- bG hp] at q2;have hQ:Q≠0:=xS e1 (by rw[<- q2];exact h0);have hDQ:D*Q≠0:=Int.mul_ne_zero d1 hQ;refine⟨D*Q,hDQ,by have:=bZ D Q;omega,fun i=> ?_⟩;unfold cA;rw[kZ _ _ _ _ _ _ (by omega)];obtain⟨n,n1,n2⟩:=d3 i;split
 ·obtain⟨m,m1,m2⟩:=e3 (i-(r.length-q.length));refine⟨n*Q-R*m,?_,?_⟩;·have:=bZ n Q;have:=bZ R m;have:=FG (n*Q) (R*m);omega
  ·rw[n2,m2,r2,q2];simp only[Rat.divInt_eq_div,Rat.intCast_mul,Rat.intCast_sub];(have f1:(D:Rat)≠0:=by simpa using d1);(have f2:(E:Rat)≠0:=by simpa using e1);(have f3:(Q:Rat)≠0:=by simpa using hQ);generalize (D:Rat)=D' at*;generalize (E:Rat)=E' at*;generalize (Q:Rat)=Q' at*;grind
 ·refine⟨n*Q,by have:=bZ n Q;omega,?_⟩;rw[n2,Rat.divInt_mul_right hQ]
theorem xT{b:Nat}{l:List Rat}(h:Den b l)(ht:Trm l):Den b (cC l):=by
 by_cases hn:l= []
 ·subst hn;exact h
 have hp:=List.length_pos_iff.2 hn;obtain⟨D,d1,d2,d3⟩:=h;obtain⟨R,r1,r2⟩:=d3 (l.length-1);rw[<- bG hp] at r2;have hR:R≠0:=xS d1 (by rw[<- r2];exact ht hn);refine⟨R,hR,r1,fun i=> ?_⟩;obtain⟨n,n1,n2⟩:=d3 i;refine⟨n,n1,?_⟩;have:cf (cC l) i=cf l i/aE l:=by
  unfold cC cf;simp only[List.getD_eq_getElem?_getD,List.getElem?_map];cases l[i]? with
  |none=>simp;grind
  |some x=>rfl
 rw[this,n2,r2];simp only[Rat.divInt_eq_div];have f1:(D:Rat)≠0:=by simpa using d1
 have f3:(R:Rat)≠0:=by simpa using hR
 generalize (D:Rat)=D' at*;generalize (R:Rat)=R' at*;grind
theorem BZ{c:Nat}{q:List Rat}(hq:Den c q)(hp:0<q.length)(h0:aE q≠0):∀ (n:Nat) (r s:List Rat) (b:Nat),Den b r->Den (b+(r.length+1-q.length)*(c+1)) (fq q n r s).2
 |0,r,s,b,h=>h.mono (by omega)
 |n+1,r,s,b,h=>by
  rw[fq];split;·rename_i hl;have h1:=fb hp hl h0;refine(BZ hq hp h0 n _ _ _ (oU h hq hl h0 hp)).mono ?_;(have h2:(aP (cA q r)).length+1-q.length+1<=r.length+1-q.length:=by omega);have h3:=Nat.mul_le_mul_right (c+1) h2;rw[Nat.add_mul] at h3;omega
  ·exact h.mono (by omega)
theorem zw{c:Nat}{q:List Rat}(hq:Den c q)(hp:0<q.length)(h0:aE q≠0):∀ (n:Nat) (r:List Rat) (b:Nat),Den b r->b+(r.length+1-q.length)*(c+1)<=QD->vP q n r
 |0,r,b,h,hb=>trivial
 |n+1,r,b,h,hb=>by
  refine⟨fun x hx=>by have:=h.lq x hx;omega,fun hl=> ?_⟩;have h1:=fb hp hl h0;refine zw hq hp h0 n _ _ (oU h hq hl h0 hp) ?_;have h2:(aP (cA q r)).length+1-q.length+1<=r.length+1-q.length:=by omega
  have h3:=Nat.mul_le_mul_right (c+1) h2;rw[Nat.add_mul] at h3;omega
theorem NZ{c K:Nat}{q:List Rat}(hq:Den c q)(hp:0<q.length)(h0:aE q≠0):∀ (n:Nat) (r s:List Rat) (b:Nat),Den b r->(∀ x∈s,lq x<=K)->b+(r.length+1-q.length)*(c+1)<=K->∀ x∈(fq q n r s).1,lq x<=K
 |0,r,s,b,h,hs,hb=>hs
 |n+1,r,s,b,h,hs,hb=>by
  rw[fq];split
  ·(rename_i hl;have h1:=fb hp hl h0;(have h2:(aP (cA q r)).length+1-q.length+1<=r.length+1-q.length:=by omega);have h3:=Nat.mul_le_mul_right (c+1) h2;rw[Nat.add_mul] at h3;refine NZ hq hp h0 n _ _ _ (oU h hq hl h0 hp) ?_ (by omega);intro x hx;rcases List.mem_or_eq_of_mem_set hx with hx|rfl;·exact hs x hx);·have h4:=pS (aE r) (aE q);have h5:=h.lq (aE r) (by rw[bG (by omega)];exact vK (by omega));have h6:=hq.lq (aE q) (by rw[bG hp];exact vK (by omega));omega
  ·exact hs
theorem FH{p q:List ND}{b c:Nat}(hp:∀ x∈p,NOK x)(hq:∀ x∈q,NOK x)(dp:Den b (ax p))(dq:Den c (ax q))(l1:p.length<=900)(l2:q.length<=900)(hn:0<q.length)(tq:Trm (ax q))
  (hb:b+(p.length+1-q.length)*(c+1)<=QD) (hc:c<=QD):fZ p q:=by
 have hQ:QD<=QC:=by unfold QD QC;omega
 have hne:ax q≠ []:=fun e=>by have:=congrArg List.length e;rw[aN,List.length_nil] at this;omega
 have hln:0<(ax q).length:=by rw[aN];exact hn
 refine⟨hp,?_,l1,l2,hn,tq hne,zw dq hln (tq hne) _ _ _ dp (by rw[aN,aN];exact hb)⟩;have:=dq.sz hc;rwa [zq hq] at this
theorem mS{p q:List Rat}{b c K:Nat}(dp:Den b p)(dq:Den c q)(hn:q≠ [])(tq:Trm q)(hb:b+(p.length+1-q.length)*(c+1)<=K)(hK:1<=K):(∀ x∈(divN p q).1,lq x<=K)/\Den K (divN p q).2:=by
 unfold divN;refine⟨NZ dq (List.length_pos_iff.2 hn) (tq hn) _ _ _ _ dp (fun x hx=> ?_) hb,(BZ dq (List.length_pos_iff.2 hn) (tq hn) _ _ _ _ dp).mono hb⟩;rw[(List.mem_replicate.1 hx).2];exact Nat.le_trans iX hK
theorem v7(q:List Rat):∀ (n:Nat) (r s:List Rat),(fq q n r s).1.length=s.length
 |0,_,_=>rfl
 |n+1,r,s=>by
  rw[fq];split;·rw[v7 q n,List.length_set]
  ·rfl
theorem ik(p q:List Rat):(divN p q).1.length=p.length+1-q.length:=by
 unfold divN;rw[v7];simp
theorem pY:∀ t:Nat,t+3<=3^(t+1)
 |0=>by decide
 |t+1=>by have:=pY t;rw[Nat.pow_succ];omega
theorem B0:∀ (n:Nat) (p q:List Rat) (b:Nat),Den b p->Den b q->Trm p->Trm q->q.length<n->(b+1)*(p.length+1-q.length+1)*3^q.length<=QD->vQ n p q/\Den ((b+1)*(p.length+1-q.length+1)*3^q.length) (dx n p q)
 |0,p,q,b,_,_,_,_,h,_=>absurd h (by omega)
 |n+1,p,q,b,dp,dq,tp,tq,hn,hb=>by
  have hpow:0<3^q.length:=Nat.pow_pos (by decide);have hb1:(b+1)*(p.length+1-q.length+1)<=QD:=Nat.le_trans (Nat.le_mul_of_pos_right _ hpow) hb;have hb2:b+(p.length+1-q.length)*(b+1)+1=(b+1)*(p.length+1-q.length+1):=by
   have e:=Nat.mul_add (b+1) (p.length+1-q.length) 1;rw[Nat.mul_one,Nat.mul_comm (b+1) (p.length+1-q.length)] at e;omega
  have hb3:b<=QD:=by
   have:0<=(p.length+1-q.length)*(b+1):=Nat.zero_le _;omega
  have hqh:QD<=QH:=by unfold QD QH;omega
  rw[vQ,dx];by_cases hq:q= [];·rw[if_pos hq,if_pos hq];exact⟨fun x hx=>by have:=dp.lq x hx;omega,(xT dp tp).mono (Nat.le_trans (by omega:b<=(b+1)*(p.length+1-q.length+1)) (Nat.le_mul_of_pos_right _ hpow))⟩
  ·rw[if_neg hq,if_neg hq];have hl:=List.length_pos_iff.2 hq;have hs:=dF (p:=p) hl (tq hq);obtain⟨k1,k2⟩:=mS (K:=b+(p.length+1-q.length)*(b+1)) dp dq hq tq (Nat.le_refl _) (by have:=dp.pos;omega);have tr:=dQ (q:=q) tp;have hm:=xT k2 tr;have hphi:(b+(p.length+1-q.length)*(b+1)+1)*(q.length+1-(cC (divN p q).2).length+1)*3^(cC (divN p q).2).length<=(b+1)*(p.length+1-q.length+1)*3^q.length:=by
    rw[hb2,ck];rw[Nat.mul_assoc];refine Nat.mul_le_mul_left _ ?_;obtain⟨t,ht⟩:∃ t,q.length=(divN p q).2.length+(t+1):=⟨q.length-(divN p q).2.length-1,by omega⟩;rw[ht,Nat.pow_add,Nat.mul_comm];refine Nat.mul_le_mul_left _ ?_;have:=pY t;omega
   obtain⟨g1,g2⟩:=B0 n q (cC (divN p q).2) _ (dq.mono (by omega)) hm tq (eE tr) (by rw[ck];omega) (Nat.le_trans hphi hb);exact⟨⟨zw dq hl (tq hq) _ _ _ dp (by omega),fun x hx=>by have:=dq.lq x hx;omega,fun x hx=>by have:=k2.lq x hx;omega,g1⟩,g2.mono hphi⟩
theorem Te{p q:List ND}{b:Nat}(hp:∀ x∈p,NOK x)(hq:∀ x∈q,NOK x)(dp:Den b (ax p))(dq:Den b (ax q))(l1:p.length<=900)(l2:q.length<=900)(tp:Trm (ax p))(tq:Trm (ax q))
  (hb:(b+1)*(p.length+1-q.length+1)*3^q.length<=QD):ju p q/\Den ((b+1)*(p.length+1-q.length+1)*3^q.length) (cp (ax p) (ax q)):=by
 obtain⟨h1,h2⟩:=B0 (q.length+1) (ax p) (ax q) b dp dq tp tq (by rw[aN];omega) (by rw[aN,aN];exact hb);refine⟨⟨hp,hq,l1,l2,tp,tq,h1⟩,?_⟩;rw[aN,aN] at h2;unfold cp;rw[aN];exact h2
theorem den_add{b c:Nat}{l m:List Rat}(hl:Den b l)(hm:Den c m):Den (b+c+1) (bq (· + ·) l m):=by
 refine mg ?_;obtain⟨D,d1,d2,d3⟩:=hl;obtain⟨E,e1,e2,e3⟩:=hm;refine⟨D*E,Int.mul_ne_zero d1 e1,by have:=bZ D E;omega,fun i=> ?_⟩;by_cases hi:i<max l.length m.length;·rw[ig _ _ _ _ _ hi];obtain⟨n,n1,n2⟩:=d3 i;obtain⟨k,k1,k2⟩:=e3 i;refine⟨n*E+k*D,by have:=bZ n E;have:=bZ k D;have:=vA (n*E) (k*D);omega,?_⟩;rw[n2,k2,Rat.divInt_add_divInt _ _ d1 e1]
 ·refine⟨0,by rw[eN];omega,?_⟩;rw[bH (by rw[dn];omega),Rat.zero_divInt]
theorem Q2{b c:Nat}{l m:List Rat}(hl:Den b l)(hm:Den c m):Den (b+c+1) (bq (· - ·) l m):=by
 refine mg ?_;obtain⟨D,d1,d2,d3⟩:=hl;obtain⟨E,e1,e2,e3⟩:=hm;refine⟨D*E,Int.mul_ne_zero d1 e1,by have:=bZ D E;omega,fun i=> ?_⟩;by_cases hi:i<max l.length m.length;·rw[ig _ _ _ _ _ hi];obtain⟨n,n1,n2⟩:=d3 i;obtain⟨k,k1,k2⟩:=e3 i;refine⟨n*E-k*D,by have:=bZ n E;have:=bZ k D;have:=FG (n*E) (k*D);omega,?_⟩;rw[n2,k2,Rat.divInt_sub_divInt _ _ d1 e1]
 ·refine⟨0,by rw[eN];omega,?_⟩;rw[bH (by rw[dn];omega),Rat.zero_divInt]
theorem N0{a:Int}{b:Nat}(h:lw a<=b):(a.natAbs:Int)<=LB^b:=by
 have:=vm a h;omega
theorem B1{b c:Nat}{p q:List Rat}{D E:Int}(d1:D≠0)(e1:E≠0)(hp:∀ i,∃ n:Int,lw n<=b/\cf p i=Rat.divInt n D)(hq:∀ i,∃ n:Int,lw n<=c/\cf q i=Rat.divInt n E)(hl:0<q.length):
  ∀ i,i<=p.length->∀ n,∃ N:Int,(N.natAbs:Int)<=i*(LB^b*LB^c)/\cf (mulN p q i) n=Rat.divInt N (D*E)
 |0,_,n=>⟨0,by simp,by
   (rw[Rat.zero_divInt];by_cases h:n<(mulN p q 0).length;·unfold mulN cf;rw[List.getD_eq_getElem?_getD,List.getElem?_replicate];split<;>rfl);·exact bH (by omega)⟩
 |i+1,h,n=>by
  obtain⟨N,h1,h2⟩:=B1 d1 e1 hp hq hl i (by omega) n;rw[mulN,kZ _ _ _ _ _ _ (by rw[ew];omega)];have hpos:(0:Int)<=LB^b*LB^c:=Int.mul_nonneg (Int.le_of_lt (lbpos _)) (Int.le_of_lt (lbpos _));have e:((i+1:Nat):Int)*(LB^b*LB^c)=(i:Int)*(LB^b*LB^c)+LB^b*LB^c:=by rw[Int.natCast_add,Int.add_mul];simp
  rw[e];split
  ·obtain⟨x,x1,x2⟩:=hp i;obtain⟨y,y1,y2⟩:=hq (n-i);refine⟨N+x*y,?_,?_⟩
   ·have h3:=N0 x1;have h4:=N0 y1;have h5:(x.natAbs:Int)*(y.natAbs:Int)<=LB^b*LB^c:=by
     have h6:(x.natAbs:Int)*(y.natAbs:Int)<=LB^b*(y.natAbs:Int):=Int.mul_le_mul_of_nonneg_right h3 (by omega);have h7:LB^b*(y.natAbs:Int)<=LB^b*LB^c:=Int.mul_le_mul_of_nonneg_left h4 (Int.le_of_lt (lbpos _));omega
    have h8:(N+x*y).natAbs<=N.natAbs+(x*y).natAbs:=Int.natAbs_add_le _ _;rw[Int.natAbs_mul] at h8;have h9:((N+x*y).natAbs:Int)<=(N.natAbs:Int)+(x.natAbs:Int)*(y.natAbs:Int):=by
     rw[<- Int.natCast_mul];omega
    omega
   ·rw[h2,x2,y2,Rat.divInt_mul_divInt,Rat.divInt_add_divInt _ _ (Int.mul_ne_zero d1 e1) (Int.mul_ne_zero d1 e1),<- Int.add_mul,Rat.divInt_mul_right (Int.mul_ne_zero d1 e1)]
  ·exact⟨N,by omega,h2⟩
theorem den_mul{b c:Nat}{p q:List Rat}(hp:Den b p)(hq:Den c q)(hl:p.length<1000000000):Den (b+c+1) (cu p q):=by
 have hb:=hp.pos;by_cases h1:p= [];·subst h1;rw[fR];exact rF (by omega)
 by_cases h2:q= []
 ·subst h2;rw[jw];exact rF (by omega)
 rw[zv h1 h2];obtain⟨D,d1,d2,d3⟩:=hp;obtain⟨E,e1,e2,e3⟩:=hq;refine⟨D*E,Int.mul_ne_zero d1 e1,by have:=bZ D E;omega,fun n=> ?_⟩;obtain⟨N,k1,k2⟩:=B1 d1 e1 d3 e3 (List.length_pos_iff.2 h2) _ (Nat.le_refl _) n;refine⟨N,l6 ?_,k2⟩;have k3:(0:Int)<LB^b*LB^c:=Int.mul_pos (lbpos _) (lbpos _);have k4:(p.length:Int)*(LB^b*LB^c)<LB*(LB^b*LB^c):=Int.mul_lt_mul_of_pos_right (by show (p.length:Int)<1000000000;omega) k3;have k5:(LB:Int)^(b+c+1)=LB*(LB^b*LB^c):=by rw[Int.pow_succ,Int.pow_add,Int.mul_comm]
 omega
theorem Hm{b:Nat}{l:List Rat}(h:Den b l):(l.length<1000000000)->Den (b+1) (bS l):=by
 intro hl;obtain⟨D,d1,d2,d3⟩:=h;refine⟨D,d1,by omega,fun i=> ?_⟩;by_cases hi:i<l.length-1
 ·obtain⟨n,n1,n2⟩:=d3 (i+1);have:cf (bS l) i=cf l (i+1)*Rat.divInt ((i+1:Nat):Int) 1:=by
   (unfold bS nu;conv=>lhs;unfold cf);rw[List.getD_eq_getElem?_getD,List.getElem?_map,List.getElem?_range hi];rfl
  refine⟨n*((i+1:Nat):Int),?_,?_⟩;·have h1:lw (((i+1:Nat):Int))<=1:=l6 (by show _<(1000000000:Int)^1;omega);have:=bZ n ((i+1:Nat):Int);omega
  ·rw[this,n2,Rat.divInt_mul_divInt,Int.mul_one]
 ·refine⟨0,by rw[eN];omega,?_⟩;rw[Rat.zero_divInt,bH];unfold bS nu;simp;omega
end Go.Cm
end
section
namespace Go.Cm
open Go.Proofs
def bT(p:List (List UInt8)):Int:=
 if 41<p.length then 40 else if p.all (fun q=>decide (cx q=0))=false then 40
 else if p≠ []/\p.getLastD []= [48] then 40 else 0
def bk(p:List (List UInt8)):List Rat:=if bT p=0 then p.map bm else []
def c8(p:List (List UInt8)):Prop:=p.length<=QL/\∀ q∈p,q.length<=QL
theorem pZ{q:List UInt8}(h:cx q=0)(hl:q.length<=QL):e9 q/\iA q=br (bm q):=by
 have:RQ q:=⟨by rw[h];decide,hl⟩;exact⟨this.form,this.raw⟩
theorem v8{p:List (List UInt8)}{k:Nat}(hk:k<p.length)(h:(p.take k).all (fun q=>decide (cx q=0))=true)(hb:cx (nth .str p (k:Int))=0):(p.take (k+1)).all (fun q=>decide (cx q=0))=true:=by
 have e:nth .str p (k:Int)=p[k]:=ea (t:= .str) hk;rw[List.take_succ_eq_append_getElem hk,List.all_append,h];rw[e] at hb;simp[hb]
theorem Kh{p:List (List UInt8)}{k:Nat}(hk:k<p.length)(h41:p.length<=41)(hb: ¬cx (nth .str p (k:Int))=0):bT p=40:=by
 have e:nth .str p (k:Int)=p[k]:=ea (t:= .str) hk;rw[e] at hb;unfold bT;rw[if_neg (by omega),if_pos];rw[List.all_eq_false];exact⟨p[k],List.getElem_mem hk,by simpa using hb⟩
theorem wa{p:List (List UInt8)}(hs:c8 p)(h:p.all (fun q=>decide (cx q=0))=true):(∀ q∈p,e9 q)/\p.map iA=aL (p.map bm):=by
 rw[List.all_eq_true] at h;refine⟨fun q hq=>(pZ (by simpa using h q hq) (hs.2 q hq)).1,?_⟩;unfold aL;rw[List.map_map];exact List.map_congr_left fun q hq=>(pZ (by simpa using h q hq) (hs.2 q hq)).2
theorem FI{p:List (List UInt8)}(hl:p.length<=41):(decide ((0:Int)<(p.length:Int))=true->decide ((0:Int)<(p.length:Int))=true)/\(decide ((0:Int)<(p.length:Int))=true->decide ((0:Int)<(p.length:Int))=true)/\(decide ((0:Int)<(p.length:Int))=true->decide ((0:Int)<(p.length:Int))=true/\0<=IntKind.i64.wrap ((p.length:Int)-1)/\IntKind.i64.wrap ((p.length:Int)-1)<(p.length:Int))/\(decide ((0:Int)<(p.length:Int))=true->decide ((0:Int)<(p.length:Int))=true):=by
 refine⟨id,id,fun h=> ?_,id⟩;have h2:=of_decide_eq_true h;rw[bW (by omega)];exact⟨h,by omega,by omega⟩
theorem wb{p:List (List UInt8)}(h:bT p=40): []=aL (bk p)/\40=bT p:=by
 refine⟨?_,h.symm⟩;unfold bk;rw[if_neg (by rw[h];decide)];rfl
theorem FJ{p:List (List UInt8)}(h:41<p.length):bT p=40:=by unfold bT;rw[if_pos h]
theorem mh{p:List (List UInt8)}(hl:p.length<=41)(h:0<p.length):nth .str p (IntKind.i64.wrap ((p.length:Int)-1))=p.getLastD []:=by
 rw[bW (by omega),show (p.length:Int)-1=((p.length-1:Nat):Int) by omega,ea (t:= .str) (by omega)];rw[List.getLastD_eq_getLast?,List.getLast?_eq_getElem?,List.getElem?_eq_getElem (by omega)];rfl
theorem FK{p:List (List UInt8)}(hl:p.length<=41)(ha:p.all (fun q=>decide (cx q=0))=true)(h:0<(p.length:Int)/\nth .str p (IntKind.i64.wrap ((p.length:Int)-1))= [48]):bT p=40:=by
 rw[mh hl (by omega)] at h;unfold bT;rw[if_neg (by omega),if_neg (by rw[ha];decide),if_pos];refine⟨fun e=> ?_,h.2⟩;rw[e] at h;exact absurd h.1 (by decide)
theorem N1{p:List (List UInt8)}(hs:c8 p)(hl:p.length<=41)(ha:p.all (fun q=>decide (cx q=0))=true)(h:0<(p.length:Int)-> ¬nth .str p (IntKind.i64.wrap ((p.length:Int)-1))= [48]):p.map iA=aL (bk p)/\0=bT p:=by
 have hc:bT p=0:=by
  unfold bT;rw[if_neg (by omega),if_neg (by rw[ha];decide),if_neg];intro h2;have h3:0<p.length:=by cases p with|nil=>exact absurd rfl h2.1|cons=>simp
  exact h (by omega) (by rw[mh hl h3];exact h2.2)
 refine⟨?_,hc.symm⟩;unfold bk;rw[if_pos hc];exact(wa hs ha).2
end Go.Cm
namespace Go.Cm
open Go.Proofs
def bX:List (List (List UInt8))->Int
 | []=>0
 |p::l=>if bT p=0 then bX l else bT p
def iQ(l:List (List (List UInt8))):List (List ND):=if bX l=0 then l.map fun p=>aL (bk p) else []
theorem N2{l:List (List (List UInt8))}(h:∀ p∈l,bT p=0):bX l=0:=by
 induction l with
 |nil=>rfl
 |cons a l ih=>
  unfold bX;rw[if_pos (h a (by simp))];exact ih fun p hp=>h p (by simp[hp])
theorem Ki{l:List (List (List UInt8))}{k:Nat}(hk:k<l.length)(h:(l.take k).all (fun p=>decide (bT p=0))=true)(hb: ¬bT l[k]=0):bX l=bT l[k]:=by
 induction l generalizing k with
 |nil=>simp at hk
 |cons a l ih=>
  unfold bX;cases k with
  |zero=>exact if_neg hb
  |succ k=>
   simp only[List.take_succ_cons,List.all_cons,Bool.and_eq_true,decide_eq_true_eq] at h;rw[if_pos h.1];exact ih (by simpa using hk) h.2 (by simpa using hb)
end Go.Cm
namespace Go.Cm
open Go.Proofs
theorem wc{l:List (List (List UInt8))}{k:Nat}(hl:l.length<=1000)(hk:k<l.length)(g:(l.take k).all (fun p=>decide (bT p=0))=true)(hb:bT (nth (.slice .str) l (k:Int))=0):
  IntKind.i64.wrap ((k:Int)+1)=((k+1:Nat):Int)/\(l.take k).map (fun p=>aL (bk p))++ [aL (bk (nth (.slice .str) l (k:Int)))]=(l.take (k+1)).map (fun p=>aL (bk p))/\k+1<=l.length/\(l.take (k+1)).all (fun p=>decide (bT p=0))=true/\l.length-(k+1)<l.length-k:=by
 have e:nth (.slice .str) l (k:Int)=l[k]:=ea (t:= .slice .str) hk;rw[e] at hb ⊢;refine⟨wo,?_,hk,?_,by omega⟩;·rw[List.take_succ_eq_append_getElem hk,List.map_append];rfl
 ·rw[List.take_succ_eq_append_getElem hk,List.all_append,g];simp[hb]
theorem B2{l:List (List (List UInt8))}{k:Nat}(hk:k<l.length)(g:(l.take k).all (fun p=>decide (bT p=0))=true)(hb: ¬bT (nth (.slice .str) l (k:Int))=0): []=iQ l/\bT (nth (.slice .str) l (k:Int))=bX l:=by
 have e:nth (.slice .str) l (k:Int)=l[k]:=ea (t:= .slice .str) hk;rw[e] at hb ⊢;have h:=Ki hk g hb;refine⟨?_,h.symm⟩;unfold iQ;rw[if_neg (by rw[h];exact hb)]
theorem N3{l:List (List (List UInt8))}(g:l.all (fun p=>decide (bT p=0))=true):l.map (fun p=>aL (bk p))=iQ l/\0=bX l:=by
 have h:bX l=0:=N2 fun p hp=>by
  rw[List.all_eq_true] at g;simpa using g p hp
 refine⟨?_,h.symm⟩;unfold iQ;rw[if_pos h]
end Go.Cm
namespace Go.Cm
open Go.Proofs
theorem B3{l:List (List (List UInt8))}(hl:l.length<=1000)(hk:0<l.length)(hb:bT (nth (.slice .str) l 0)=0):
  IntKind.i64.wrap (0+1)=((1:Nat):Int)/\ [aL (bk (nth (.slice .str) l 0))]=(l.take 1).map (fun p=>aL (bk p))/\1<=l.length/\(l.take 1).all (fun p=>decide (bT p=0))=true/\l.length-1<l.length+1:=by
 have h:=wc (k:=0) hl hk rfl hb;exact⟨h.1,h.2.1,hk,h.2.2.2.1,by omega⟩
theorem Kj{l:List (List (List UInt8))}(hk:0<l.length)(hb: ¬bT (nth (.slice .str) l 0)=0): []=iQ l/\bT (nth (.slice .str) l 0)=bX l:=B2 (k:=0) hk rfl hb
theorem Kk{l:List (List (List UInt8))}(h: ¬0<l.length): []=iQ l/\0=bX l:=by
 cases l with
 |nil=>exact⟨rfl,rfl⟩
 |cons=>simp at h
end Go.Cm
namespace Go.Cm
open Go.Proofs
def bO(l:List Rat):Int:=if 41<l.length then 3 else if dS (aL l)=true then 0 else 6
def fe(l:List Rat):List (List UInt8):=if bO l=0 then l.map aU else []
theorem FM{l:List Rat}(h:41<l.length): []=fe l/\3=bO l:=by
 have e:bO l=3:=by unfold bO;rw[if_pos h]
 exact⟨by unfold fe;rw[if_neg (by rw[e];decide)],e.symm⟩
theorem Kl{l:List Rat}(h: ¬41<l.length)(hf:dS (aL l)=false): []=fe l/\6=bO l:=by
 have e:bO l=6:=by unfold bO;rw[if_neg h,if_neg (by rw[hf];decide)]
 exact⟨by unfold fe;rw[if_neg (by rw[e];decide)],e.symm⟩
theorem N4{l:List Rat}(h: ¬41<l.length)(hf:dS (aL l)=true):(if dS (aL l)=true then (aL l).map fun x=>aU (bF x) else [])=fe l/\0=bO l:=by
 have e:bO l=0:=by unfold bO;rw[if_neg h,if_pos hf]
 refine⟨?_,e.symm⟩;unfold fe;rw[if_pos e,if_pos hf,aL,List.map_map];exact List.map_congr_left fun x _=>by simp only[Function.comp,aQ]
end Go.Cm
namespace Go.Cm
open Go.Proofs
theorem gg{l:List Rat}:∀ x∈aP l,x∈l:=by
 induction l with
 |nil=>intro x hx;exact hx
 |cons a l ih=>
  intro x hx;unfold aP at hx;split at hx
  ·(split at hx;·simp at hx);·simp at hx;simp[hx]
  ·(rename_i h;rcases List.mem_cons.1 hx with h2|h2;·simp[h2]);·exact List.mem_cons_of_mem _ (ih x (by rw[h];exact h2))
theorem Km{p:List ND}(h:Sz QC p/\p.length<=QL)(hl: ¬41<(aP (ax p)).length):(aL (aP (ax p))).length<QL/\∀ x∈aL (aP (ax p)),NOK x/\lq (bF x)<=QC:=by
 refine⟨by rw[aH];unfold QL;omega,?_⟩;refine fQ (k:=QC) fun x hx=> ?_;obtain⟨y,hy,rfl⟩:=List.mem_map.1 (gg x hx);exact(h.1 y hy).2
end Go.Cm
end
section
namespace Go.Cm
open Go.Proofs
def cI(f:List Rat->List Rat->List Rat)(p q:List (List UInt8)):Int:=if bX [p,q]=0 then bO (aP (f (bk p) (bk q))) else bX [p,q]
def cB(f:List Rat->List Rat->List Rat)(p q:List (List UInt8)):List (List UInt8):=if bX [p,q]=0 then fe (aP (f (bk p) (bk q))) else []
def bV(D:List ND->List ND->Prop)(f:List Rat->List Rat->List Rat)(p q:List (List UInt8)):Prop:=
 c8 p/\c8 q/\(bX [p,q]=0->D (aL (bk p)) (aL (bk q))/\Sz QC (aL (f (bk p) (bk q)))/\(f (bk p) (bk q)).length<=QL)
theorem p6{p q:List (List UInt8)}(h:bX [p,q]=0):iQ [p,q]= [aL (bk p),aL (bk q)]:=by
 unfold iQ;rw[if_pos h];rfl
theorem jx{f:List Rat->List Rat->List Rat}{p q:List (List UInt8)}(h: ¬bX [p,q]=0): []=cB f p q/\bX [p,q]=cI f p q:=by
 unfold cB cI;rw[if_neg h,if_neg h];exact⟨rfl,rfl⟩
theorem lg{f:List Rat->List Rat->List Rat}{p q:List (List UInt8)}(h:bX [p,q]=0):fe (aP (f (bk p) (bk q)))=cB f p q/\bO (aP (f (bk p) (bk q)))=cI f p q:=by
 unfold cB cI;rw[if_pos h,if_pos h];exact⟨rfl,rfl⟩
end Go.Cm
namespace Go.Cm
open Go.Proofs
theorem jX{p q:List (List UInt8)}(h:bX [p,q]=0):nth (.slice NT) (iQ [p,q]) 0=aL (bk p):=by rw[p6 h];rfl
theorem jY{p q:List (List UInt8)}(h:bX [p,q]=0):nth (.slice NT) (iQ [p,q]) 1=aL (bk q):=by rw[p6 h];rfl
theorem iC{p q:List (List UInt8)}(h:bX [p,q]=0):(iQ [p,q]).length=2:=by rw[p6 h];rfl
end Go.Cm
namespace Go.Cm
open Go.Proofs
theorem iD{p q:List (List UInt8)}(hp:c8 p)(hq:c8 q): [p,q].length<=1000/\∀ x∈ [p,q],c8 x:=by
 refine⟨by simp,fun x hx=> ?_⟩;simp only[List.mem_cons,List.not_mem_nil,or_false] at hx;rcases hx with rfl|rfl;·exact hp
 ·exact hq
end Go.Cm
end
section
namespace Go.Cm
open Go.Proofs
theorem B4(n:Int):∀ c∈Lib.itoa n,c≠47:=by
 obtain⟨d1,_,_,_⟩:=kV n.natAbs;intro c hc;unfold Lib.itoa at hc;split at hc
 ·rcases List.mem_cons.1 hc with h|h;·rw[h];decide
  ·have:=d1 c h;intro hc;rw[hc] at this;revert this;decide
 ·have e:n.toNat=n.natAbs:=by omega
  rw[e] at hc;have:=d1 c hc;intro hc;rw[hc] at this;revert this;decide
theorem N5{a b:List UInt8}(h:∀ c∈a,c≠47):tN (a++47::b)=a/\bJ (a++47::b)=true:=by
 constructor
 ·unfold tN;induction a with
  |nil=>simp
  |cons c l ih=>
   have:=h c (by simp);rw[List.cons_append,List.takeWhile_cons,if_pos (by simpa using this),ih fun d hd=>h d (by simp[hd])]
 ·unfold bJ;simp
theorem oa{a:List UInt8}(h:∀ c∈a,c≠47):bJ a=false:=by
 unfold bJ;rw[List.any_eq_false];intro c hc;simpa using h c hc
theorem ff(x:Rat):tN (aU x)=Lib.itoa x.num/\tD (aU x)=Lib.itoa (x.den:Int)/\bJ (aU x)= !decide (x.den=1):=by
 unfold aU;by_cases h:x.den=1
 ·rw[if_pos h];have hs:=oa (B4 x.num);refine⟨vG hs,?_,by rw[hs,h];rfl⟩;unfold tD;rw[hs,h,if_neg (by decide)];have h0: [49]=Lib.itoa ((1:Nat):Int):=by decide+kernel
  exact h0
 ·rw[if_neg h,List.append_assoc];obtain⟨h1,h2⟩:=N5 (b:=Lib.itoa (x.den:Int)) (B4 x.num);rw[show [47]++Lib.itoa (x.den:Int)=47::Lib.itoa (x.den:Int) from rfl];refine⟨h1,?_,by rw[h2];simp[h]⟩;unfold tD;rw[if_pos h2];unfold tR;rw[h1,List.drop_append,List.drop_of_length_le (by omega)];simp
theorem bP(x:Rat):bm (aU x)=x:=by
 obtain⟨h1,h2,_⟩:=ff x;unfold bm;rw[h1,h2,(aJ _).2,(aJ _).2];exact Rat.num_divInt_den x
theorem xU(x:Rat):cx (aU x)=qW x:=by
 obtain⟨h1,h2,h3⟩:=ff x;unfold cx;rw[h1,h2,(aJ _).2,(aJ _).2,if_neg,if_neg]
 ·unfold qW gJ;by_cases h:c7 x.num<=2000/\c7 (x.den:Int)<=2000;·rw[if_neg (by omega),if_pos (decide_eq_true h)]
  ·rw[if_pos (by omega),if_neg (by simpa using h)]
 ·rintro⟨hs,h⟩;have hg:cg x.num (x.den:Int)=1:=by
   rw[<- l9,Int.gcd_comm];have:=x.reduced;unfold Nat.Coprime at this;unfold Int.gcd;rw[Int.natAbs_natCast,this];rfl
  rw[h3] at hs;have h4: ¬x.den=1:=by simpa using hs
  have:=x.den_pos;rcases h with h|h;·omega
  ·exact h hg
 ·rintro(h|h);·exact(aJ x.num).1 h
  ·exact(aJ (x.den:Int)).1 h
theorem FN{x:Rat}:qW x=0↔gJ x=true:=by
 unfold qW;split;·rename_i h;simp[h]
 ·rename_i h;simp[h]
theorem xV{q:List UInt8}(h:cx q=0)(hl:q.length<=QL):aU (bm q)=q/\gJ (bm q)=true:=by
 have hr:RQ q:=⟨by rw[h];decide,hl⟩;obtain⟨p1,p2⟩:=hr.parts;obtain⟨f1,f2,_⟩:=hr.form;have hc:=hr.chk;rw[h] at hc;constructor
 ·unfold aU;cases hs:bJ q
  ·(have e:tD q= [49]:=by unfold tD;rw[hs];rfl);rw[e,mQ] at p2;rw[if_pos (by omega),p1,vG hs];rw[vG hs] at f1;exact kr f1
  ·have h5: ¬al (tD q)<=1:=by
    (intro hle;unfold cx at h;split at h;·exact absurd h (by decide));·rw[if_pos ⟨hs,.inl hle⟩] at h;exact absurd h (by decide)
   rw[if_neg (by omega),p1,p2,kr f1,kr f2];have h6:=mc hs;rw[if_pos hs] at h6;rw[<- h6];have hcut:∀ q:List UInt8,bJ q=true->tN q++ [47]++tR q=q:=by
    intro q hq;induction q with
    |nil=>simp[bJ] at hq
    |cons c l ih=>
     by_cases hc:c=47
     ·subst hc;simp[tN,tR]
     ·(have h2:bJ l=true:=by simpa [bJ,hc] using hq);(have h3:tN (c::l)=c::tN l:=by simp[tN,hc]);(have h4:tR (c::l)=tR l:=by unfold tR;rw[h3];simp);rw[h3,h4];have:=ih h2;simpa using this
   exact hcut q hs
 ·unfold gJ;rw[decide_eq_true_eq,p1,p2];split at hc;·exact absurd hc (by decide)
  ·omega
theorem jy{x:Rat}:aU x= [48]↔x=0:=by
 have h0:aU 0= [48]:=by decide+kernel
 constructor;·intro h;have:=bP x;rw[h,<- h0,bP] at this;exact this.symm
 ·rintro rfl;exact h0
def txP(l:List Rat):List (List UInt8):=l.map aU
def gh(l:List Rat):Bool:=l.all gJ
theorem jh(l:List Rat):dS (aL l)=gh l:=by
 unfold dS gh aL;rw[List.all_map];congr 1;funext x;simp[aQ]
theorem aY(l:List Rat):(txP l).length=l.length:=by simp[txP]
theorem Hn(l:List Rat):(txP l).map bm=l:=by
 unfold txP;rw[List.map_map];conv=>rhs;rw[<- List.map_id l]
 exact List.map_congr_left fun x _=>bP x
theorem B5{l:List Rat}(h:l≠ []):(txP l).getLastD []=aU (aE l):=by
 unfold txP aE;rw[List.getLastD_eq_getLast?,List.getLastD_eq_getLast?,List.getLast?_map,List.getLast?_eq_some_getLast h];rfl
theorem Ho(l:List Rat):(txP l).all (fun q=>decide (cx q=0))=gh l:=by
 unfold txP gh;rw[List.all_map];congr 1;funext x;simp only[Function.comp,xU];rw[Bool.eq_iff_iff,decide_eq_true_iff,FN]
theorem Hp{l:List Rat}(hl:l.length<=41)(ht:Trm l)(hf:gh l=true):bT (txP l)=0/\bk (txP l)=l:=by
 have hc:bT (txP l)=0:=by
  unfold bT;rw[if_neg (by rw[aY];omega),if_neg (by rw[Ho,hf];decide),if_neg];rintro⟨h1,h2⟩;have hn:l≠ []:=fun e=>h1 (by rw[e];rfl);rw[B5 hn,jy] at h2;exact ht hn h2
 refine⟨hc,?_⟩;unfold bk;rw[if_pos hc,Hn]
theorem Hq{p:List (List UInt8)}(hs:c8 p)(h:bT p=0):txP (bk p)=p/\(bk p).length<=41/\Trm (bk p)/\gh (bk p)=true:=by
 unfold bT at h;split at h;·exact absurd h (by decide)
 rename_i h1;split at h;·exact absurd h (by decide)
 rename_i h2;split at h;·exact absurd h (by decide)
 rename_i h3;have h2:p.all (fun q=>decide (cx q=0))=true:=by simpa using h2
 have hn:bk p=p.map bm:=by
  unfold bk;rw[if_pos];unfold bT;rw[if_neg h1,if_neg (by rw[h2];decide),if_neg h3]
 have ht:txP (p.map bm)=p:=by
  unfold txP;rw[List.map_map];conv=>rhs;rw[<- List.map_id p]
  rw[List.all_eq_true] at h2;exact List.map_congr_left fun q hq=>(xV (by simpa using h2 q hq) (hs.2 q hq)).1
 rw[hn];refine⟨ht,by rw[List.length_map];omega,fun hne hl=>h3 ⟨fun e=>hne (by rw[e];rfl),?_⟩,?_⟩;·rw[<- ht,B5 hne,jy];exact hl
 ·rw[<- Ho,ht,h2]
theorem Hr{n:Int}{k:Nat}(h:lw n<=k)(hk:9*k+1<=2000):c7 n<=2000:=by
 have h1:=N0 h;rw[Qs] at h1;have h0:=qU n;rw[eD];have h2:n.natAbs<10^(9*k):=by
  have:=vm n h;rw[Qs] at this;omega
 have:=zf h2;omega
theorem Hs{x:Rat}(h:lq x<=222):gJ x=true:=by
 have:=dN x;have:=dO x;exact decide_eq_true ⟨Hr (k:=222) (by omega) (by omega),Hr (k:=222) (by omega) (by omega)⟩
theorem N6{l:List Rat}{b:Nat}(h:Den b l)(hb:b<=222):gh l=true:=by
 unfold gh;rw[List.all_eq_true];exact fun x hx=>Hs (Nat.le_trans (h.lq x hx) hb)
theorem N7{l:List Rat}(h:∀ x∈l,lq x<=222):gh l=true:=by
 unfold gh;rw[List.all_eq_true];exact fun x hx=>Hs (h x hx)
structure Pol (l:List Rat):Prop where
 len:l.length<=41
 trm:Trm l
 fit:gh l=true
theorem Pol.chk{l:List Rat}(h:Pol l):bT (txP l)=0:=(Hp h.len h.trm h.fit).1
theorem Pol.num{l:List Rat}(h:Pol l):bk (txP l)=l:=(Hp h.len h.trm h.fit).2
theorem kx{x:Rat}{k:Nat}(h:lq x<=k):(aU x).length<=18*k+5:=by
 have h1:=gI x.num;have h2:=gI (x.den:Int);have:=dN x;have:=dO x;unfold aU;split;·omega
 ·simp only[List.length_append,List.length_cons,List.length_nil];omega
theorem N8{n:Int}{K:Nat}(hn:((Lib.decDigits n.natAbs).length:Int)<=(K:Int)):lw n<=K:=by
 refine l6 ?_;obtain⟨d1,d2,_,_⟩:=kV n.natAbs;have h2:=ix d1;rw[d2] at h2;have h3:(10:Nat)^(Lib.decDigits n.natAbs).length<=10^K:=Nat.pow_le_pow_right (by omega) (by omega);have h4:(10:Nat)^K<=1000000000^K:=Nat.pow_le_pow_left (by omega) _;have h5:(LB^K:Int)=((1000000000^K:Nat):Int):=by rw[Int.natCast_pow];rfl
 rw[h5];exact_mod_cast Nat.lt_of_lt_of_le h2 (Nat.le_trans h3 h4)
theorem Ht{x:Rat}(h:gJ x=true):lq x<=2000:=by
 unfold gJ at h;rw[decide_eq_true_eq,eD,eD] at h;exact Nat.max_le.2 ⟨N8 h.1,N8 h.2⟩
theorem Pol.lq{l:List Rat}(h:Pol l):∀ x∈l,lq x<=2000:=by
 have:=h.fit;unfold gh at this;rw[List.all_eq_true] at this;exact fun x hx=>Ht (this x hx)
theorem Pol.short{l:List Rat}(h:Pol l):c8 (txP l):=by
 have e:QL=1000000000:=rfl;refine⟨by rw[aY];have:=h.len;omega,fun q hq=> ?_⟩;obtain⟨x,hx,rfl⟩:=List.mem_map.1 hq;have:=kx (h.lq x hx);omega
theorem lh:Pol []:=⟨by simp,mR,rfl⟩
theorem il{l m:List Rat}(hl:Pol l)(hm:Pol m):bX [txP l,txP m]=0:=by
 simp only[bX,hl.chk,hm.chk,if_true]
theorem we{f:List Rat->List Rat->List Rat}{l m:List Rat}(hl:Pol l)(hm:Pol m){r:List Rat}(hr:aP (f l m)=r)(hp:Pol r):cB f (txP l) (txP m)=txP r/\cI f (txP l) (txP m)=0:=by
 have he:bO r=0:=by
  unfold bO;rw[if_neg (by have:=hp.len;omega),if_pos (by rw[jh];exact hp.fit)]
 unfold cB cI;rw[if_pos (il hl hm),if_pos (il hl hm),hl.num,hm.num,hr];unfold fe;rw[if_pos he];exact⟨rfl,he⟩
theorem jz{D:List ND->List ND->Prop}{f:List Rat->List Rat->List Rat}{l m:List Rat}(hl:Pol l)(hm:Pol m)(hD:D (aL l) (aL m))(hs:∀ x∈f l m,Cm.lq x<=QC)(hn:(f l m).length<=QL):bV D f (txP l) (txP m):=by
 refine⟨hl.short,hm.short,fun _=> ?_⟩;rw[hl.num,hm.num];exact⟨hD,fQ hs,hn⟩
theorem Pol.enc_ok{l:List Rat}{k:Nat}(h:Pol l)(hk:2000<=k):Sz k (aL l):=fQ fun x hx=>Nat.le_trans (h.lq x hx) hk
theorem Q3{l m:List Rat}(hl:Pol l)(hm:Pol m):bV (fun p q=>Sz QH p/\Sz QH q/\p.length<=1000/\q.length<=1000) (bq (· + ·)) (txP l) (txP m):=by
 have e1:QH=40000000000:=rfl;have e2:QL=1000000000:=rfl;have h1:=hl.len;have h2:=hm.len;have hs1:=hl.enc_ok (k:=QH) (by omega);have hs2:=hm.enc_ok (k:=QH) (by omega);refine jz hl hm ⟨hs1,hs2,by rw[aH];omega,by rw[aH];omega⟩ ?_ (by have:=eF (· + ·) l m;omega);intro x hx;have h3:=zj BN hs1 hs2 (max l.length m.length);rw[aM,aM] at h3;have h4:=gg x hx;have h5:=(h3 (br x) (List.mem_map.2 ⟨x,h4,rfl⟩)).2;rwa [aQ] at h5
theorem Q4{l m:List Rat}(hl:Pol l)(hm:Pol m):bV (fun p q=>Sz QH p/\Sz QH q/\p.length<=1000/\q.length<=1000) (bq (· - ·)) (txP l) (txP m):=by
 have e1:QH=40000000000:=rfl;have e2:QL=1000000000:=rfl;have h1:=hl.len;have h2:=hm.len;have hs1:=hl.enc_ok (k:=QH) (by omega);have hs2:=hm.enc_ok (k:=QH) (by omega);refine jz hl hm ⟨hs1,hs2,by rw[aH];omega,by rw[aH];omega⟩ ?_ (by have:=eF (· - ·) l m;omega);intro x hx;have h3:=zj BO hs1 hs2 (max l.length m.length);rw[aM,aM] at h3;have h4:=gg x hx;have h5:=(h3 (br x) (List.mem_map.2 ⟨x,h4,rfl⟩)).2;rwa [aQ] at h5
theorem Q5{l m:List Rat}(hl:Pol l)(hm:Pol m):bV (fun p q=>Sz QM p/\Sz QM q/\p.length<=100/\q.length<=100) cu (txP l) (txP m):=by
 have e1:QM=400000000:=rfl;have e2:QL=1000000000:=rfl;have e3:QC=100000000000:=rfl;have h1:=hl.len;have h2:=hm.len;refine jz hl hm ⟨hl.enc_ok (by omega),hm.enc_ok (by omega),by rw[aH];omega,by rw[aH];omega⟩ ?_ (by have:=vW l m;omega);intro x hx;unfold cu at hx;split at hx;·simp at hx
 ·have h3:=NG (K:=2000) (fun n=>gL hl.lq (by omega) n) (fun n=>gL hm.lq (by omega) n) l.length (Nat.le_refl _) x hx;have h4:l.length*(2*2000+1)<=41*(2*2000+1):=Nat.mul_le_mul_right _ h1;omega
def dvE(p q:List (List UInt8)):Int:=
 if bX [p,q]=0 then
  if bk q= [] then 2
  else if bO (aP (divN (bk p) (bk q)).1)=0 then bO (aP (divN (bk p) (bk q)).2) else bO (aP (divN (bk p) (bk q)).1)
 else bX [p,q]
def dvS(p q:List (List UInt8)):List (List UInt8):=if dvE p q=0 then fe (aP (divN (bk p) (bk q)).1) else []
def dvR(p q:List (List UInt8)):List (List UInt8):=if dvE p q=0 then fe (aP (divN (bk p) (bk q)).2) else []
structure mi (p q:List (List UInt8)):Prop where
 sp:c8 p
 sq:c8 q
 ok:bX [p,q]=0->bk q≠ []->fZ (aL (bk p)) (aL (bk q))/\(Sz QC (aL (divN (bk p) (bk q)).1)/\(aL (divN (bk p) (bk q)).1).length<=QL)/\(Sz QC (aL (divN (bk p) (bk q)).2)/\(aL (divN (bk p) (bk q)).2).length<=QL)
theorem N9{p q:List (List UInt8)}(h: ¬bX [p,q]=0): []=dvS p q/\ []=dvR p q/\bX [p,q]=dvE p q:=by
 have e:dvE p q=bX [p,q]:=if_neg h;refine⟨?_,?_,e.symm⟩;·unfold dvS;rw[if_neg (by rw[e];exact h)]
 ·unfold dvR;rw[if_neg (by rw[e];exact h)]
theorem Oa{p q:List (List UInt8)}(h:bX [p,q]=0)(h2:(aL (bk q)).length=0): []=dvS p q/\ []=dvR p q/\2=dvE p q:=by
 have hq:bk q= []:=by rw[aH] at h2;exact List.eq_nil_of_length_eq_zero h2
 have e:dvE p q=2:=by unfold dvE;rw[if_pos h,if_pos hq]
 refine⟨?_,?_,e.symm⟩;·unfold dvS;rw[if_neg (by rw[e];decide)]
 ·unfold dvR;rw[if_neg (by rw[e];decide)]
theorem Q6{q:List (List UInt8)}(h2: ¬ (aL (bk q)).length=0):bk q≠ []:=by
 intro h;rw[h] at h2;exact h2 rfl
theorem Q7{p q:List (List UInt8)}(h:bX [p,q]=0)(h2:bk q≠ [])(h3: ¬bO (aP (divN (bk p) (bk q)).1)=0): []=dvS p q/\ []=dvR p q/\bO (aP (divN (bk p) (bk q)).1)=dvE p q:=by
 have e:dvE p q=bO (aP (divN (bk p) (bk q)).1):=by unfold dvE;rw[if_pos h,if_neg h2,if_neg h3]
 refine⟨?_,?_,e.symm⟩;·unfold dvS;rw[if_neg (by rw[e];exact h3)]
 ·unfold dvR;rw[if_neg (by rw[e];exact h3)]
theorem Ob{p q:List (List UInt8)}(h:bX [p,q]=0)(h2:bk q≠ [])(h3:bO (aP (divN (bk p) (bk q)).1)=0):dvE p q=bO (aP (divN (bk p) (bk q)).2):=by
 unfold dvE;rw[if_pos h,if_neg h2,if_pos h3]
theorem Q8{p q:List (List UInt8)}(h:bX [p,q]=0)(h2:bk q≠ [])(h3:bO (aP (divN (bk p) (bk q)).1)=0)(h4: ¬bO (aP (divN (bk p) (bk q)).2)=0): []=dvS p q/\ []=dvR p q/\bO (aP (divN (bk p) (bk q)).2)=dvE p q:=by
 have e:=Ob h h2 h3;refine⟨?_,?_,e.symm⟩;·unfold dvS;rw[if_neg (by rw[e];exact h4)]
 ·unfold dvR;rw[if_neg (by rw[e];exact h4)]
theorem Q9{p q:List (List UInt8)}(h:bX [p,q]=0)(h2:bk q≠ [])(h3:bO (aP (divN (bk p) (bk q)).1)=0)(h4:bO (aP (divN (bk p) (bk q)).2)=0):
  fe (aP (divN (bk p) (bk q)).1)=dvS p q/\fe (aP (divN (bk p) (bk q)).2)=dvR p q/\0=dvE p q:=by
 have e:=Ob h h2 h3;rw[h4] at e;refine⟨?_,?_,e.symm⟩;·unfold dvS;rw[if_pos e]
 ·unfold dvR;rw[if_pos e]
def oV(p q:List (List UInt8)):Prop:=bT p=0/\bT q=0/\0<p.length/\0<q.length/\40<(p.length-1)*(q.length-1)
instance (p q:List (List UInt8)):Decidable (oV p q):=by unfold oV;infer_instance
def xW(p q:List (List UInt8)):Int:=if oV p q then 3 else cI lH p q
def xX(p q:List (List UInt8)):List (List UInt8):=if oV p q then [] else cB lH p q
structure zx (p q:List (List UInt8)):Prop where
 sp:c8 p
 sq:c8 q
 ok: ¬oV p q->bV zu lH p q
theorem Kn{p q:List (List UInt8)}(hp:bT p=0)(hq:bT q=0)(h1:0<p.length)(h2:0<q.length):IntKind.i64.wrap (IntKind.i64.wrap ((p.length:Int)-1)*IntKind.i64.wrap ((q.length:Int)-1))=(((p.length-1)*(q.length-1):Nat):Int):=by
 have k1:p.length<=41:=by
  unfold bT at hp;split at hp;·exact absurd hp (by decide)
  ·omega
 have k2:q.length<=41:=by
  unfold bT at hq;split at hq;·exact absurd hq (by decide)
  ·omega
 rw[bW (by omega),bW (by omega)];have e1:(p.length:Int)-1=((p.length-1:Nat):Int):=by omega
 have e2:(q.length:Int)-1=((q.length-1:Nat):Int):=by omega
 rw[e1,e2,<- Int.natCast_mul];have h3:(p.length-1)*(q.length-1)<=40*40:=Nat.mul_le_mul (by omega) (by omega);generalize (p.length-1)*(q.length-1)=n at*;exact wo
theorem Oc{p q:List (List UInt8)}{b:Bool}(h:(bT p==0&&bT q==0&&decide ((0:Int)<(p.length:Int))&&decide ((0:Int)<(q.length:Int))&&decide ((40:Int)<IntKind.i64.wrap (IntKind.i64.wrap ((p.length:Int)-1)*IntKind.i64.wrap ((q.length:Int)-1))))=b):decide (oV p q)=b:=by
 rw[<- h];clear h;unfold oV;by_cases h1:bT p=0
 ·by_cases h2:bT q=0
  ·by_cases h3:0<p.length
   ·by_cases h4:0<q.length
    ·rw[Kn h1 h2 h3 h4,Bool.eq_iff_iff];simp only[h1,h2,h3,h4,true_and,decide_eq_true_eq,Bool.and_eq_true,beq_self_eq_true];generalize (p.length-1)*(q.length-1)=n;omega
    ·(have: ¬ (0:Int)<(q.length:Int):=by omega);simp[h4]
   ·(have: ¬ (0:Int)<(p.length:Int):=by omega);simp[h3]
  ·simp[h2]
 ·simp[h1]
theorem Tf{p q:List (List UInt8)}(h:oV p q): []=xX p q/\3=xW p q:=by
 unfold xX xW;rw[if_pos h,if_pos h];exact⟨rfl,rfl⟩
theorem Tg{p q:List (List UInt8)}(h: ¬oV p q):cB lH p q=xX p q/\cI lH p q=xW p q:=by
 unfold xX xW;rw[if_neg h,if_neg h];exact⟨rfl,rfl⟩
def evE(p:List (List UInt8))(x:List UInt8):Int:=if bX [p]=0 then if cx x=0 then qW (aF (bk p) (bm x)) else cx x else bX [p]
def evS(p:List (List UInt8))(x:List UInt8):List UInt8:=if evE p x=0 then aU (aF (bk p) (bm x)) else []
structure Od (p:List (List UInt8)) (x:List UInt8):Prop where
 sp:c8 p
 sx:x.length<=QL
 ok:bX [p]=0->cx x=0->Sz QM (aL (bk p))/\(bk p).length<=100/\lq (bm x)<=QM/\lq (aF (bk p) (bm x))<=QC
theorem Oe{p:List (List UInt8)}(h:bX [p]=0):iQ [p]= [aL (bk p)]:=by
 unfold iQ;rw[if_pos h];rfl
theorem T9{p:List (List UInt8)}(h:bX [p]=0):nth (.slice NT) (iQ [p]) 0=aL (bk p):=by rw[Oe h];rfl
theorem Th{p:List (List UInt8)}(h:bX [p]=0):(iQ [p]).length=1:=by rw[Oe h];rfl
theorem Of{p:List (List UInt8)}{x:List UInt8}(h:Od p x): [p].length<=1000/\∀ y∈ [p],c8 y:=
 ⟨by simp,fun y hy=>by rw[List.mem_singleton] at hy;subst hy;exact h.sp⟩
theorem Ti{p:List (List UInt8)}{x:List UInt8}(h: ¬bX [p]=0): []=evS p x/\bX [p]=evE p x:=by
 have e:evE p x=bX [p]:=if_neg h;exact⟨by unfold evS;rw[if_neg (by rw[e];exact h)],e.symm⟩
theorem Ra{p:List (List UInt8)}{x:List UInt8}(h:bX [p]=0)(h2: ¬cx x=0): []=evS p x/\cx x=evE p x:=by
 have e:evE p x=cx x:=by unfold evE;rw[if_pos h,if_neg h2]
 exact⟨by unfold evS;rw[if_neg (by rw[e];exact h2)],e.symm⟩
theorem Tj{p:List (List UInt8)}{x:List UInt8}(h:bX [p]=0)(h2:cx x=0)(h3:gJ (aF (bk p) (bm x))=false): []=evS p x/\6=evE p x:=by
 have e:evE p x=6:=by unfold evE;rw[if_pos h,if_pos h2];unfold qW;rw[h3];rfl
 exact⟨by unfold evS;rw[if_neg (by rw[e];decide)],e.symm⟩
theorem Rb{p:List (List UInt8)}{x:List UInt8}(h:bX [p]=0)(h2:cx x=0)(h3:gJ (aF (bk p) (bm x))=true):aU (aF (bk p) (bm x))=evS p x/\0=evE p x:=by
 have e:evE p x=0:=by unfold evE;rw[if_pos h,if_pos h2];unfold qW;rw[h3];rfl
 exact⟨by unfold evS;rw[if_pos e],e.symm⟩
theorem Og{p:List Rat}{x:Rat}{y:List UInt8}(c1:e9 y)(k1:Sz QM (aL p))(k2:p.length<=100)(k3:lq x<=QM)(k4:lq (aF p x)<=QC):
  ((0:Int)<=0/\(0:Int)<((1:Nat):Int))/\e9 y/\(Sz QM (aL p)/\(aL p).length<=100/\NOK (br x)/\lq x<=QM)/\1<QL/\∀ z:ND,z∈ [br (aF p x)]->NOK z/\lq (bF z)<=QC:=by
 refine⟨by decide,c1,⟨k1,by rw[aH];exact k2,cd _,k3⟩,by unfold QL;decide,fun z hz=> ?_⟩;rw[List.mem_singleton] at hz;subst hz;rw[aQ];exact⟨cd _,k4⟩
theorem Ko{x:Rat}(h:dS [br x]=true)(y:List UInt8):(0:Int)<=0/\(0:Int)<((if dS [br x]=true then [y] else []).length:Int):=by
 rw[if_pos h];simp
theorem Rc{p:List (List UInt8)}{x:List UInt8}(h:bX [p]=0)(h2:cx x=0)(h3:gJ (aF (bk p) (bm x))=true):nth Ty.str (if gJ (aF (bk p) (bm x))=true then [aU (aF (bk p) (bm x))] else []) 0=evS p x/\0=evE p x:=by
 rw[if_pos h3];exact Rb h h2 h3
theorem B6(q:Rat):dS [br q]=gJ q:=by unfold dS;simp[aQ]
structure Sml (n b:Nat) (l:List Rat):Prop where
 len:l.length<=n
 trm:Trm l
 den:Den b l
theorem Sml.pol{n b:Nat}{l:List Rat}(h:Sml n b l)(hn:n<=41)(hb:b<=222):Pol l:=⟨Nat.le_trans h.len hn,h.trm,N6 h.den hb⟩
theorem Sml.mul{n m k b c:Nat}{l l2:List Rat}(h:Sml n b l)(h2:Sml m c l2)(hn:n<1000)(hk:n+m<=k+1)(hm:1<=m)(hn1:1<=n):Sml k (b+c+1) (cu l l2):=by
 refine⟨?_,kv h.trm h2.trm,den_mul h.den h2.den (by have:=h.len;omega)⟩;by_cases h3:l= [];·rw[h3,fR];simp
 by_cases h4:l2= []
 ·rw[h4,jw];simp
 rw[iB h3 h4];have:=h.len;have:=h2.len;omega
theorem Sml.add{n m b c:Nat}{l l2:List Rat}(h:Sml n b l)(h2:Sml m c l2):Sml (max n m) (b+c+1) (bq (· + ·) l l2):=
 ⟨by have:=eF (· + ·) l l2;have:=h.len;have:=h2.len;omega,cl _ _ _,den_add h.den h2.den⟩
theorem Sml.sub{n m b c:Nat}{l l2:List Rat}(h:Sml n b l)(h2:Sml m c l2):Sml (max n m) (b+c+1) (bq (· - ·) l l2):=
 ⟨by have:=eF (· - ·) l l2;have:=h.len;have:=h2.len;omega,cl _ _ _,Q2 h.den h2.den⟩
theorem Hu{n b m c:Nat}{p q:List Rat}(hp:Sml n b p)(hq:Sml m c q)(hn:n<=41)(hm:m<=41)(hb:b<=200)(hc:c<=200)(h0:q≠ []){s r:List Rat}(ps:Pol s)(pr:Pol r)(hl:r.length<q.length)
  (h:∀ x,aF s x*aF q x+aF r x=aF p x):mi (txP p) (txP q)/\dvE (txP p) (txP q)=0/\dvS (txP p) (txP q)=txP s/\dvR (txP p) (txP q)=txP r:=by
 have e1:QD=10000000000:=rfl;have e2:QC=100000000000:=rfl;have e3:QL=1000000000:=rfl;have pp:=hp.pol hn (by omega);have pq:=hq.pol hm (by omega);have hlp:=hp.len;have hlq:=hq.len;have hbd:b+(p.length+1-q.length)*(c+1)<=10000:=by
  have:(p.length+1-q.length)*(c+1)<=42*201:=Nat.mul_le_mul (by omega) (by omega);omega
 obtain⟨u1,u2⟩:=q8 h0 hp.trm hq.trm ps.trm pr.trm hl h;obtain⟨k1,k2⟩:=mS (K:=10000) hp.den hq.den h0 hq.trm hbd (by omega);have hok:fZ (aL p) (aL q):=FH (b:=b) (c:=c) (iY _) (iY _) (by rw[aM];exact hp.den) (by rw[aM];exact hq.den) (by rw[aH];omega) (by rw[aH];omega)
  (by rw[aH];exact List.length_pos_iff.2 h0) (by rw[aM];exact hq.trm) (by rw[aH,aH];omega) (by omega)
 have t1:bO s=0:=by unfold bO;rw[if_neg (by have:=ps.len;omega),if_pos (by rw[jh];exact ps.fit)]
 have t2:bO r=0:=by unfold bO;rw[if_neg (by have:=pr.len;omega),if_pos (by rw[jh];exact pr.fit)]
 have hrt:aP (divN p q).2=r:=by rw[u2,ij pr.trm]
 have hc2:=il pp pq;have hE:dvE (txP p) (txP q)=0:=by
  unfold dvE;rw[if_pos hc2,pp.num,pq.num,if_neg h0,u1,hrt,if_pos t1,t2]
 refine⟨⟨pp.short,pq.short,fun _ _=> ?_⟩,hE,?_,?_⟩
 ·rw[pp.num,pq.num];refine⟨hok,⟨fQ fun x hx=> ?_,?_⟩,k2.sz (by omega),?_⟩;·have:=k1 x hx;omega
  ·rw[aH,ik];omega
  ·rw[aH,u2];have:=pr.len;omega
 ·unfold dvS;rw[if_pos hE,pp.num,pq.num,u1];unfold fe;rw[if_pos t1];rfl
 ·unfold dvR;rw[if_pos hE,pp.num,pq.num,hrt];unfold fe;rw[if_pos t2];rfl
theorem Sml.div{n b m c k:Nat}{p q:List Rat}(hp:Sml n b p)(hq:Sml m c q)(h0:q≠ [])(hk:b+(n+1)*(c+1)<=k):(∀ x∈(divN p q).1,lq x<=k)/\Sml m k (divN p q).2/\(divN p q).2.length<q.length:=by
 have hlp:=hp.len;have hbd:b+(p.length+1-q.length)*(c+1)<=k:=by
  have:(p.length+1-q.length)*(c+1)<=(n+1)*(c+1):=Nat.mul_le_mul (by omega) (Nat.le_refl _);omega
 obtain⟨k1,k2⟩:=mS (K:=k) hp.den hq.den h0 hq.trm hbd (by have:=hp.den.pos;omega);have hs:=dF (p:=p) (List.length_pos_iff.2 h0) (hq.trm h0);exact⟨k1,⟨by have:=hq.len;omega,dQ hp.trm,k2⟩,hs⟩
theorem B7{p:List Rat}(hp:Pol p):mi (txP p) []/\dvE (txP p) []=2/\dvS (txP p) []= []/\dvR (txP p) []= []:=by
 have hc:=il hp lh;have e:dvE (txP p) (txP [])=2:=by unfold dvE;rw[if_pos hc,lh.num,if_pos rfl]
 refine⟨⟨hp.short,lh.short,fun _ h=>absurd lh.num h⟩,e,?_,?_⟩;·show dvS (txP p) (txP [])= [];unfold dvS;rw[if_neg (by rw[e];decide)]
 ·show dvR (txP p) (txP [])= [];unfold dvR;rw[if_neg (by rw[e];decide)]
theorem B8{p q:List Rat}(hp:Sml 9 9 p)(hq:Sml 9 9 q)(h0:q≠ []):∃ s r m,Pol s/\Pol r/\Pol m/\r.length<q.length/\
  (mi (txP p) (txP q)/\dvE (txP p) (txP q)=0/\dvS (txP p) (txP q)=txP s/\dvR (txP p) (txP q)=txP r)/\
  (cB cu (txP q) (txP s)=txP m/\cI cu (txP q) (txP s)=0)/\(cB cu (txP p) (txP q)=txP (cu p q)/\cI cu (txP p) (txP q)=0)/\Pol (cu p q)/\
  (cB (bq (· + ·)) (txP m) (txP r)=txP p/\cI (bq (· + ·)) (txP m) (txP r)=0)/\
  (mi (txP (cu p q)) (txP q)/\dvE (txP (cu p q)) (txP q)=0/\dvS (txP (cu p q)) (txP q)=txP p/\dvR (txP (cu p q)) (txP q)= []):=by
 obtain⟨k1,k2,k3⟩:=Sml.div hp hq h0 (k:=109) (by decide);have pp:=hp.pol (by decide) (by decide);have pq:=hq.pol (by decide) (by decide);have hlp:=hp.len;have ps:Pol (aP (divN p q).1):=⟨by have:=dt (divN p q).1;rw[ik] at this;omega,cG _,N7 fun x hx=>by have:=k1 x (gg x hx);omega⟩;have pr:Pol (divN p q).2:=k2.pol (by decide) (by decide);have hev:∀ x,aF (aP (divN p q).1) x*aF q x+aF (divN p q).2 x=aF p x:=fun x=>by rw[ec];exact rE h0 hq.trm x
 have hm:cu q (aP (divN p q).1)=bq (· - ·) p (divN p q).2:=iK (kv hq.trm ps.trm) (cl _ _ _) fun x=>by
  rw[ee,jv];have:=hev x;grind
 have pm:Pol (cu q (aP (divN p q).1)):=by rw[hm];exact(hp.sub k2).pol (by decide) (by decide)
 have st:Sml 17 19 (cu p q):=hp.mul hq (by decide) (by decide) (by decide) (by decide);have pt:=st.pol (by decide) (by decide);refine⟨_,_,_,ps,pr,pm,k3,Hu hp hq (by decide) (by decide) (by decide) (by decide) h0 ps pr k3 hev,we pq ps (ij pm.trm) pm,we pp pq (ij pt.trm) pt,pt,we pm pr ?_ pp,
  Hu st hq (by decide) (by decide) (by decide) (by decide) h0 pp lh (by simpa using List.length_pos_iff.2 h0) fun x=>by rw[ee,dv];grind⟩
 rw[ij (cl _ _ _)];exact iK (cl _ _ _) hp.trm fun x=>by rw[lf,ee];have:=hev x;grind
theorem Oh{p q:List Rat}(hp:Sml 9 9 p)(hq:Sml 9 9 q):mi (txP p) (txP q):=by
 by_cases h:q= []
 ·subst h;exact(B7 (hp.pol (by decide) (by decide))).1
 ·obtain⟨s,r,m,_,_,_,_,h2,_⟩:=B8 hp hq h;exact h2.1
theorem Oi{q:List Rat}:(((txP q).length:Nat):Int)=0↔q= []:=by
 rw[aY];constructor;·intro h;exact List.eq_nil_of_length_eq_zero (by omega)
 ·intro h;rw[h];rfl
theorem zz{K:Nat}(hK:1<=K):∀ l:List Rat,(∀ x∈l,lq x<=K)->Den (l.length*K+1) l
 | [],_=>rF (by omega)
 |a::l,h=>by
  obtain⟨D,d1,d2,d3⟩:=zz hK l fun x hx=>h x (List.mem_cons_of_mem _ hx);have ha:=h a (List.mem_cons_self ..);have h1:=dN a;have h2:=dO a;have e:(a::l).length*K+1=l.length*K+1+K:=by rw[List.length_cons,Nat.add_mul];omega
  refine⟨D*a.den,Int.mul_ne_zero d1 (fv a),by rw[e];have:=bZ D a.den;omega,fun i=> ?_⟩;cases i with
  |zero=>
   refine⟨a.num*D,by rw[e];have:=bZ a.num D;omega,?_⟩;(have e1:cf (a::l) 0=a:=by simp[cf]);rw[e1,Int.mul_comm D,Rat.divInt_mul_right d1];exact(Rat.num_divInt_den a).symm
  |succ i=>
   obtain⟨n,n1,n2⟩:=d3 i;refine⟨n*a.den,by rw[e];have:=bZ n a.den;omega,?_⟩;(have e1:cf (a::l) (i+1)=cf l i:=by simp[cf]);rw[e1,n2,Rat.divInt_mul_right (fv a)]
theorem FO{l:List Rat}{n K:Nat}(hn:l.length<=n)(ht:Trm l)(hK:1<=K)(h:∀ x∈l,lq x<=K):Sml n (n*K+1) l:=
 ⟨hn,ht,(zz hK l h).mono (by have:=Nat.mul_le_mul_right K hn;omega)⟩
theorem Pol.sml{l:List Rat}(h:Pol l){n K:Nat}(hn:l.length<=n)(hK:1<=K)(hl:∀ x∈l,Cm.lq x<=K):Sml n (n*K+1) l:=FO hn h.trm hK hl
theorem rG{n b m c:Nat}{l q:List Rat}(hl:Sml n b l)(hq:Sml m c q)(pl:Pol l)(pq:Pol q)(hb:(max b c+1)*(n+2)*3^m<=QD):bV ju cp (txP l) (txP q)/\ju (aL l) (aL q)/\Den ((max b c+1)*(n+2)*3^m) (cp l q):=by
 have e1:QD=10000000000:=rfl;have e2:QC=100000000000:=rfl;have e3:QL=1000000000:=rfl;have hll:=hl.len;have hlq:=hq.len;have pl1:=pl.len;have pq1:=pq.len;have hbd:(max b c+1)*(l.length+1-q.length+1)*3^q.length<=QD:=by
  refine Nat.le_trans (Nat.mul_le_mul (Nat.mul_le_mul (Nat.le_refl _) (by omega:_<=n+2)) (Nat.pow_le_pow_right (by omega) hlq)) hb
 obtain⟨g1,g2⟩:=Te (p:=aL l) (q:=aL q) (b:=max b c) (iY _) (iY _) (by rw[aM];exact hl.den.mono (by omega)) (by rw[aM];exact hq.den.mono (by omega)) (by rw[aH];omega) (by rw[aH];omega) (by rw[aM];exact hl.trm) (by rw[aM];exact hq.trm) (by rw[aH,aH];exact hbd);rw[aM,aM,aH,aH] at g2;have g2:=g2.mono (Nat.le_refl _);refine⟨jz pl pq g1 (fun x hx=>by have:=g2.lq x hx;omega) ?_,g1,g2.mono (Nat.mul_le_mul (Nat.mul_le_mul (Nat.le_refl _) (by omega:_<=n+2)) (Nat.pow_le_pow_right (by omega) hlq))⟩;have key:∀ (k:Nat) (a b:List Rat),a.length<=900->b.length<=900->Trm b->(dx k a b).length<=900:=by
  intro k;induction k with
  |zero=>intro a b ha _ _;rw[dx,ck];exact ha
  |succ k ih=>
   intro a b ha hb tb;rw[dx];split;·rw[ck];exact ha
   ·rename_i hne;by_cases hta:Trm a;·have:=dF (p:=a) (List.length_pos_iff.2 hne) (tb hne);exact ih _ _ hb (by rw[ck];omega) (eE (dQ hta))
    ·have h3:=dF (p:=a) (List.length_pos_iff.2 hne) (tb hne);have:∀ (k:Nat) (a b:List Rat),a.length<=900->b.length<=900->(dx k a b).length<=900:=by
      intro k;induction k with
      |zero=>intro a b ha _;rw[dx,ck];exact ha
      |succ k ih2=>
       intro a b ha hb;rw[dx];split;·rw[ck];exact ha
       ·refine ih2 _ _ hb ?_;rw[ck];have hlen:∀ (q:List Rat) (n:Nat) (r s:List Rat),(fq q n r s).2.length<=r.length:=by
         intro q n;induction n with
         |zero=>intro r s;exact Nat.le_refl _
         |succ n ih3=>
          (intro r s;rw[fq];split;·have h5:=ih3 (aP (cA q r)) (s.set (r.length-q.length) (aE r/aE q));have h6:=dt (cA q r);rw[fa] at h6;omega);·exact Nat.le_refl _
        have:=hlen b (a.length+1) a (List.replicate (a.length+1-b.length) 0);unfold divN;omega
     exact this _ _ _ hb (by rw[ck];omega)
 have:=key (q.length+1) l q (by omega) (by omega) hq.trm;unfold cp;omega
theorem mT(l:List Rat):(bS l).length=l.length-1:=by unfold bS nu;simp
theorem Tk{l:List Rat}{i:Nat}(h:i<l.length-1):cf (bS l) i=cf l (i+1)*((i+1:Nat):Rat):=by
 unfold bS nu;conv=>lhs;unfold cf
 rw[List.getD_eq_getElem?_getD,List.getElem?_map,List.getElem?_range h];show cf l (i+1)*Rat.divInt ((i+1:Nat):Int) 1=_;rw[Rat.divInt_eq_div,Rat.intCast_natCast];rw[show ((1:Int):Rat)=1 from rfl];grind
theorem Hv{l:List Rat}(h:Trm l):Trm (bS l):=by
 intro hn;have h1:=List.length_pos_iff.2 hn;rw[mT] at h1;have h2:l≠ []:=fun e=>by rw[e] at h1;simp at h1
 have h3:=h h2;rw[bG (by omega)] at h3;rw[bG (by rw[mT];omega),mT,Tk (by omega),show l.length-1-1+1=l.length-1 by omega];have h4:((l.length-1:Nat):Rat)≠0:=by
  intro e;have:(l.length-1:Nat)=0:=by exact_mod_cast e
  omega
 intro e;rcases Rat.mul_eq_zero.1 e with e|e;·exact h3 e
 ·exact h4 e
theorem Sml.der{n b:Nat}{l:List Rat}(h:Sml n b l)(hn:n<1000000000):Sml (n-1) (b+1) (bS l):=
 ⟨by rw[mT];have:=h.len;omega,Hv h.trm,Hm h.den (by have:=h.len;omega)⟩
theorem Rd{l:List Rat}(hl:Pol l):bV (fun p _=>Sz QH p/\p.length<=1000) (fun a _=>bS a) (txP l) []:=by
 have e1:QH=40000000000:=rfl;have e2:QL=1000000000:=rfl;have e3:QC=100000000000:=rfl;have hln:=hl.len;refine jz (m:= []) hl lh ⟨hl.enc_ok (by omega),by rw[aH];omega⟩ ?_ (by show (bS l).length<=_;rw[mT];omega);intro x hx;have hd:=Hm (zz (K:=2000) (by omega) l hl.lq) (by omega);have:=hd.lq x hx;have h4:l.length*2000<=41*2000:=Nat.mul_le_mul_right _ hln;omega
theorem xY:∀ (n:Nat) (p q:List Rat),Trm p->Trm q->Trm (dx n p q)
 |0,p,q,tp,tq=>by rw[dx];exact eE tp
 |n+1,p,q,tp,tq=>by
  rw[dx];split;·exact eE tp
  ·exact xY n _ _ tq (eE (dQ tp))
theorem wg{p q:List Rat}(tp:Trm p)(tq:Trm q):Trm (cp p q):=xY _ _ _ tp tq
theorem wh(q:List Rat):∀ (n:Nat) (r s:List Rat),(fq q n r s).2.length<=r.length
 |0,r,s=>Nat.le_refl _
 |n+1,r,s=>by
  rw[fq];split;·have h5:=wh q n (aP (cA q r)) (s.set (r.length-q.length) (aE r/aE q));have h6:=dt (cA q r);rw[fa] at h6;omega
  ·exact Nat.le_refl _
theorem xZ:∀ (n:Nat) (p q:List Rat),(dx n p q).length<=max p.length q.length
 |0,p,q=>by rw[dx,ck];omega
 |n+1,p,q=>by
  rw[dx];split;·rw[ck];omega
  ·have h1:=xZ n q (cC (divN p q).2);have h2:=wh q (p.length+1) p (List.replicate (p.length+1-q.length) 0);rw[ck] at h1;unfold divN at h1 ⊢;omega
theorem B9(p q:List Rat):(cp p q).length<=max p.length q.length:=xZ _ _ _
theorem mU{l:List Rat}:cC l= []↔l= []:=by
 unfold cC;simp
theorem x4:∀ (n:Nat) (p q:List Rat),q.length<n->(p≠ []∨q≠ [])->dx n p q≠ []
 |0,p,q,h,_=>absurd h (by omega)
 |n+1,p,q,h,hne=>by
  rw[dx];split
  ·(rename_i hq;intro e;rw[mU] at e;rcases hne with h1|h1;·exact h1 e);·exact h1 hq
  ·rename_i hq;by_cases ht:(cC (divN p q).2).length<n;·exact x4 n _ _ ht (.inl hq)
   ·
    have key:∀ (k:Nat) (a b:List Rat),a≠ []->dx k a b≠ []:=by
     intro k;induction k with
     |zero=>intro a b ha e;rw[dx,mU] at e;exact ha e
     |succ k ih=>
      (intro a b ha;rw[dx];split;·intro e;rw[mU] at e;exact ha e);·rename_i hb;exact ih _ _ hb
    exact key n _ _ hq
theorem zA{p q:List Rat}(h:p≠ []∨q≠ []):cp p q≠ []:=x4 _ _ _ (Nat.lt_succ_self _) h
theorem Tl{n b c:Nat}{l:List Rat}(hl:Sml n b l)(pl:Pol l)(hg:ju (aL l) (aL (bS l)))(dg:Den c (cp l (bS l)))(hK:b+(n+1)*(c+1)<=QD):nE (aL l)/\(∀ x∈(divN l (cp l (bS l))).1,lq x<=QD):=by
 have e1:QD=10000000000:=rfl;have e2:QH=40000000000:=rfl;have hll:=hl.len;have pl1:=pl.len;have hcK:c<=QD:=by
  have:1*(c+1)<=(n+1)*(c+1):=Nat.mul_le_mul_right _ (by omega);omega
 have hgl:=B9 l (bS l);rw[mT] at hgl;have tg:=wg hl.trm (Hv hl.trm);have hq1:l≠ []->∀ x∈(divN l (cp l (bS l))).1,lq x<=QD:=by
  intro h;have hbd:b+(l.length+1-(cp l (bS l)).length)*(c+1)<=QD:=by
   have:(l.length+1-(cp l (bS l)).length)*(c+1)<=(n+1)*(c+1):=Nat.mul_le_mul_right _ (by omega);omega
  exact(mS hl.den dg (zA (.inl h)) tg hbd (by omega)).1
 refine⟨fun hne=> ?_,?_⟩
 ·have h:l≠ []:=fun e=>hne (by rw[e];rfl);rw[aM,aH];have hgn:=zA (q:=bS l) (.inl h);have hbd:b+(l.length+1-(cp l (bS l)).length)*(c+1)<=QD:=by
   have:(l.length+1-(cp l (bS l)).length)*(c+1)<=(n+1)*(c+1):=Nat.mul_le_mul_right _ (by omega);omega
  refine⟨pl.enc_ok (by omega),by omega,hg,FH (b:=b) (c:=c) (iY _) (iY _) (by rw[aM];exact hl.den) (by rw[aM];exact dg) (by rw[aH];omega) (by rw[aH];omega) (by rw[aH];exact List.length_pos_iff.2 hgn) (by rw[aM];exact tg) (by rw[aH,aH];exact hbd) hcK,?_⟩;refine⟨fQ fun x hx=>by have:=hq1 h x hx;omega,by rw[aH,ik];omega,fun hq=> ?_⟩;rw[aM];have hlen:=ik l (cp l (bS l));have hsn:(divN l (cp l (bS l))).1≠ []:=fun e=>hq (by rw[e];rfl);have hgp:=List.length_pos_iff.2 hgn;have hlong:(cp l (bS l)).length<=l.length:=by omega
  intro h0;have hev:∀ x,aF (aP (divN l (cp l (bS l))).1) x*aF (cp l (bS l)) x+aF (divN l (cp l (bS l))).2 x=aF l x:=fun x=>by rw[ec];exact rE hgn tg x
  have hmul:bq (· + ·) (cu (aP (divN l (cp l (bS l))).1) (cp l (bS l))) (divN l (cp l (bS l))).2=l:=iK (cl _ _ _) hl.trm fun x=>by rw[lf,ee];exact hev x
  have hs:=dF (p:=l) hgp (tg hgn);have h1:=eF (· + ·) (cu (aP (divN l (cp l (bS l))).1) (cp l (bS l))) (divN l (cp l (bS l))).2;rw[hmul] at h1;have h2:=qX (l:=(divN l (cp l (bS l))).1) (List.length_pos_iff.2 hsn) h0;by_cases hz:aP (divN l (cp l (bS l))).1= [];·rw[hz,fR] at h1;simp only[List.length_nil] at h1;omega
  ·rw[iB hz hgn] at h1;omega
 ·intro x hx;by_cases h:l= [];·subst h;(have e0:(divN [] (cp [] (bS []))).1= [0]:=by decide+kernel);rw[e0,List.mem_singleton] at hx;rw[hx];exact Nat.le_trans iX (by omega)
  ·exact hq1 h x hx
theorem Kq{l:List Rat}(h:∀ x∈(divN l (cp l (bS l))).1,lq x<=QD):∀ x∈cH l,lq x<=2*QD:=by
 intro x hx;unfold cH at hx;split at hx;·simp at hx
 ·obtain⟨y,hy,rfl⟩:=List.mem_map.1 hx;have h1:=h y hy;have h2:=pS y (aE (divN l (cp l (bS l))).1);have hp:0<(divN l (cp l (bS l))).1.length:=List.length_pos_of_mem hy;have h3:=h (aE (divN l (cp l (bS l))).1) (by rw[bG hp];exact vK (by omega));omega
theorem FP(l:List Rat):(cH l).length<=l.length+1:=by
 unfold cH;split;·simp
 ·rw[ck,ik];omega
theorem Re{n b c:Nat}{l:List Rat}(hl:Sml n b l)(pl:Pol l)(hg:ju (aL l) (aL (bS l)))(dg:Den c (cp l (bS l)))(hK:b+(n+1)*(c+1)<=QD):bV (fun p _=>nE p) (fun a _=>cH a) (txP l) []:=by
 have e1:QD=10000000000:=rfl;have e2:QC=100000000000:=rfl;have e3:QL=1000000000:=rfl;obtain⟨h1,h2⟩:=Tl hl pl hg dg hK;refine jz (m:= []) pl lh h1 (fun x hx=> ?_) ?_;·have:=Kq h2 x hx;omega
 ·show (cH l).length<=_;have:=FP l;have:=pl.len;omega
theorem Rf{b:Nat}{l:List Rat}(h:Den b l)(i:Nat):Den b (aP [cf l i]):=by
 refine mg ?_;obtain⟨D,d1,d2,d3⟩:=h;refine⟨D,d1,d2,fun j=> ?_⟩;cases j with
 |zero=>obtain⟨n,n1,n2⟩:=d3 i;exact⟨n,n1,by rw[<- n2];simp[cf]⟩
 |succ j=>exact⟨0,by rw[eN];omega,by rw[Rat.zero_divInt,bH (by simp)]⟩
theorem Ca{n b m c:Nat}{p q:List Rat}(hp:Sml n b p)(hq:Sml m c q)(hnm:n*m<=1000):∀ k,k<=n->Den (1+k*(b+c+2)) (iP p q k)/\(iP p q k).length<=1+k*m
 |0,_=>⟨rF (by omega),by simp[iP]⟩
 |k+1,hk=>by
  obtain⟨h1,h2⟩:=Ca hp hq hnm k (by omega);have hkm:k*m<=n*m:=Nat.mul_le_mul_right _ (by omega);have hl:(iP p q k).length<1000000000:=by omega
  rw[iP,vV,Nat.add_mul,Nat.add_mul];refine⟨(den_add (den_mul h1 hq.den hl) (Rf hp.den _)).mono (by omega),?_⟩;have h3:=eF (· + ·) (cu (iP p q k) q) (aP [cf p (p.length-1-k)]);have h4:=vW (iP p q k) q;have h5:=dt [cf p (p.length-1-k)];simp only[List.length_cons,List.length_nil] at h5;have h6:=hq.len;by_cases hz:iP p q k= [];·rw[hz,fR] at h3;simp only[List.length_nil] at h3;rw[hz,fR];omega
  ·omega
theorem Oj{n b m c:Nat}{p q:List Rat}(hp:Sml n b p)(hq:Sml m c q)(pp:Pol p)(pq:Pol q)(hnm:n*m<=98)(hb:b<=100000)(hc:c<=100000)(hn:n<=98)(hm:m<=98):bV zu lH (txP p) (txP q):=by
 have e1:QM=400000000:=rfl;have e2:QC=100000000000:=rfl;have e3:QL=1000000000:=rfl;have e4:QH=40000000000:=rfl;have hlp:=hp.len;have hlq:=hq.len;have key:∀ k,k<=n->Den 19700000 (iP p q k)/\(iP p q k).length<=99:=by
  intro k hk;obtain⟨h1,h2⟩:=Ca hp hq (by omega) k hk;have h3:k*(b+c+2)<=98*200002:=Nat.mul_le_mul (by omega) (by omega);have h4:k*m<=n*m:=Nat.mul_le_mul_right _ hk;exact⟨h1.mono (by omega),by omega⟩
 refine jz pp pq ⟨pp.enc_ok (by omega),by rw[aH];omega,fun k hk=> ?_⟩ ?_ ?_
 ·rw[aH] at hk ⊢;rw[aM,aM];obtain⟨h1,h2⟩:=key k (by omega);have h5:=den_mul h1 hq.den (by omega);refine⟨h1.sz (by omega),pq.enc_ok (by omega),by rw[aH];omega,by rw[aH];omega,cd _,?_,?_⟩;·rw[aQ];exact Nat.le_trans (gL pp.lq (by omega) _) (by omega)
  ·rw[aM,aM];exact h5.sz (by omega)
 ·intro x hx;have:=(key p.length (by omega)).1.lq x hx;omega
 ·have:=(key p.length (by omega)).2;show (iP p q p.length).length<=_;omega
def smB(n K:Nat)(p:List (List UInt8)):Bool:=decide (bT p=0)&&decide (p.length<=n)&&p.all (fun q=>decide (q.length<=10000))&&(bk p).all fun x=>decide (lq x<=K)
theorem cY{n K:Nat}{p:List (List UInt8)}(h:smB n K p=true)(hn:n<=41)(hK:1<=K):Pol (bk p)/\txP (bk p)=p/\Sml n (n*K+1) (bk p):=by
 unfold smB at h;simp only[Bool.and_eq_true,decide_eq_true_iff,List.all_eq_true] at h;obtain⟨⟨⟨h1,h2⟩,h3⟩,h4⟩:=h;have hs:c8 p:=⟨by unfold QL;omega,fun q hq=>by have:=h3 q hq;unfold QL;omega⟩;obtain⟨t1,t2,t3,t4⟩:=Hq hs h1;have hl:(bk p).length=p.length:=by rw[<- t1,aY,t1]
 exact⟨⟨t2,t3,t4⟩,t1,FO (by omega) t3 hK h4⟩
theorem Ua{n K:Nat}{p q:List (List UInt8)}(hp:smB n K p=true)(hq:smB n K q=true)(hn:n<=41:=by decide)(hK:1<=K:=by decide):bV (fun p q=>Sz QH p/\Sz QH q/\p.length<=1000/\q.length<=1000) (bq (· + ·)) p q:=by
 have h:=Q3 (cY hp hn hK).1 (cY hq hn hK).1;rwa [(cY hp hn hK).2.1,(cY hq hn hK).2.1] at h
theorem Ub{n K:Nat}{p q:List (List UInt8)}(hp:smB n K p=true)(hq:smB n K q=true)(hn:n<=41:=by decide)(hK:1<=K:=by decide):bV (fun p q=>Sz QH p/\Sz QH q/\p.length<=1000/\q.length<=1000) (bq (· - ·)) p q:=by
 have h:=Q4 (cY hp hn hK).1 (cY hq hn hK).1;rwa [(cY hp hn hK).2.1,(cY hq hn hK).2.1] at h
theorem Uc{n K:Nat}{p q:List (List UInt8)}(hp:smB n K p=true)(hq:smB n K q=true)(hn:n<=41:=by decide)(hK:1<=K:=by decide):bV (fun p q=>Sz QM p/\Sz QM q/\p.length<=100/\q.length<=100) cu p q:=by
 have h:=Q5 (cY hp hn hK).1 (cY hq hn hK).1;rwa [(cY hp hn hK).2.1,(cY hq hn hK).2.1] at h
theorem Ok{n K:Nat}{p q:List (List UInt8)}(hp:smB n K p=true)(hq:smB n K q=true)(hb:(max (n*K+1) (n*K+1)+1)*(n+2)*3^n<=QD:=by decide)(hn:n<=41:=by decide)(hK:1<=K:=by decide):bV ju cp p q:=by
 have h:=(rG (cY hp hn hK).2.2 (cY hq hn hK).2.2 (cY hp hn hK).1 (cY hq hn hK).1 hb).1;rwa [(cY hp hn hK).2.1,(cY hq hn hK).2.1] at h
theorem Ud{n K:Nat}{p:List (List UInt8)}(hp:smB n K p=true)(hn:n<=41:=by decide)(hK:1<=K:=by decide):bV (fun p _=>Sz QH p/\p.length<=1000) (fun a _=>bS a) p []:=by
 have h:=Rd (cY hp hn hK).1;rwa [(cY hp hn hK).2.1] at h
theorem Rg{l:List Rat}{n b:Nat}(h:Sml n b l)(hn:n<=41)(hb:b<=220):Pol (bS l):=(h.der (by omega)).pol (by omega) (by omega)
theorem Rh{n b:Nat}{l:List Rat}(hl:Sml n b l)(hn:n<=41)(hb:b<=220)(hK:b+(n+1)*((b+2)*(n+2)*3^(n-1)+1)<=QD):bV (fun p _=>nE p) (fun a _=>cH a) (txP l) []:=by
 have pl:=hl.pol hn (by omega);have pd:=Rg hl hn hb;have e:max b (b+1)+1=b+2:=by omega
 have hle:(b+2)*(n+2)*3^(n-1)<=QD:=by
  have:1*((b+2)*(n+2)*3^(n-1)+1)<=(n+1)*((b+2)*(n+2)*3^(n-1)+1):=Nat.mul_le_mul_right _ (by omega);omega
 obtain⟨_,g1,g2⟩:=rG hl (hl.der (by omega)) pl pd (by rw[e];exact hle);rw[e] at g2;exact Re hl pl g1 g2 hK
theorem SE{n K:Nat}{p:List (List UInt8)}(hp:smB n K p=true)(hb:n*K+1<=220:=by decide)(hq:(n*K+1)+(n+1)*((n*K+1+2)*(n+2)*3^(n-1)+1)<=QD:=by decide)(hn:n<=41:=by decide)(hK:1<=K:=by decide):bV (fun p _=>nE p) (fun a _=>cH a) p []:=by
 have h:=Rh (cY hp hn hK).2.2 hn hb hq;rwa [(cY hp hn hK).2.1] at h
theorem Tm{n m K:Nat}{p q:List (List UInt8)}(hp:smB n K p=true)(hq:smB m K q=true)(hnm:n*m<=98:=by decide)(hb:n*K+1<=100000:=by decide)(hc:m*K+1<=100000:=by decide)(hn:n<=41:=by decide)(hm:m<=41:=by decide)(hK:1<=K:=by decide):zx p q:=by
 have h1:=cY hp hn hK;have h2:=cY hq hm hK;have h:=Oj h1.2.2 h2.2.2 h1.1 h2.1 hnm hb hc (by omega) (by omega);rw[h1.2.1,h2.2.1] at h;have s1:=h1.1.short;have s2:=h2.1.short;rw[h1.2.1] at s1;rw[h2.2.1] at s2;exact⟨s1,s2,fun _=>h⟩
theorem FQ{n K:Nat}{p q:List (List UInt8)}(hp:smB n K p=true)(hq:smB n K q=true)(hn:n<=41:=by decide)(hK:1<=K:=by decide)(hb:K<=2000:=by decide):mi p q:=by
 have e1:QD=10000000000:=rfl;have e2:QC=100000000000:=rfl;have e3:QL=1000000000:=rfl;obtain⟨p1,p2,p3⟩:=cY hp hn hK;obtain⟨q1,q2,q3⟩:=cY hq hn hK;have s1:=p1.short;have s2:=q1.short;rw[p2] at s1;rw[q2] at s2;refine⟨s1,s2,fun _ h0=> ?_⟩;have hlp:=p3.len;have hlq:=q3.len;have hnK:n*K<=41*2000:=Nat.mul_le_mul hn hb;have hbd:n*K+1+((bk p).length+1-(bk q).length)*(n*K+1+1)<=4000000:=by
  have:((bk p).length+1-(bk q).length)*(n*K+1+1)<=42*82002:=Nat.mul_le_mul (by omega) (by omega);omega
 obtain⟨k1,k2⟩:=mS (K:=4000000) p3.den q3.den h0 q3.trm hbd (by omega);have hs:=dF (p:=bk p) (List.length_pos_iff.2 h0) (q3.trm h0);refine⟨FH (b:=n*K+1) (c:=n*K+1) (iY _) (iY _) (by rw[aM];exact p3.den) (by rw[aM];exact q3.den) (by rw[aH];omega) (by rw[aH];omega) (by rw[aH];exact List.length_pos_iff.2 h0) (by rw[aM];exact q3.trm) (by rw[aH,aH];omega) (by omega),⟨fQ fun x hx=>by have:=k1 x hx;omega,by rw[aH,ik];omega⟩,k2.sz (by omega),by rw[aH];omega⟩
theorem Ol{n K:Nat}{p:List (List UInt8)}{x:List UInt8}(hp:smB n K p=true)(hx:x.length<=3000)(hn:n<=41:=by decide)(hK:1<=K:=by decide):Od p x:=by
 have e1:QM=400000000:=rfl;have e2:QL=1000000000:=rfl;have e3:QC=100000000000:=rfl;obtain⟨p1,p2,p3⟩:=cY hp hn hK;have s1:=p1.short;rw[p2] at s1;refine⟨s1,by omega,fun h1 h2=> ?_⟩;have hxl:lq (bm x)<=2000:=Ht (xV h2 (by omega)).2;have h3:=Hi p1.lq hxl;have h4:(bk p).length*(2*2000+1)<=41*(2*2000+1):=Nat.mul_le_mul_right _ p1.len;exact⟨p1.enc_ok (by omega),by have:=p1.len;omega,by omega,by omega⟩
theorem FR{s:List UInt8}{i:Nat}(hi:i<s.length)(h:(s.take i).all (· !=47)=true)(hb:s.getD i 0=47):s.take i=tN s/\s.drop (i+1)=tD s/\true=bJ s:=by
 have e:s=s.take i++47::s.drop (i+1):=by
  rw[<- hb,List.getD_eq_getElem?_getD,List.getElem?_eq_getElem hi];simp only[Option.getD_some];rw[<- List.drop_eq_getElem_cons hi,List.take_append_drop]
 have hc:∀ c∈s.take i,c≠47:=by
  rw[List.all_eq_true] at h;intro c hc;simpa using h c hc
 have k:=N5 (b:=s.drop (i+1)) hc;rw[<- e] at k;refine⟨k.1.symm,?_,k.2.symm⟩;unfold tD tR;rw[if_pos k.2,k.1,List.length_take,Nat.min_eq_left (by omega)]
theorem Kr{s:List UInt8}{i:Nat}(hi:i<s.length)(h:(s.take i).all (· !=47)=true)(hb: ¬s.getD i 0=47):(s.take (i+1)).all (· !=47)=true:=by
 rw[List.take_succ_eq_append_getElem hi,List.all_append,h];rw[List.getD_eq_getElem?_getD,List.getElem?_eq_getElem hi] at hb;simpa using hb
theorem Om{s:List UInt8}{i:Nat}(hi: ¬i<s.length)(h:(s.take i).all (· !=47)=true):s=tN s/\ [49]=tD s/\false=bJ s:=by
 rw[List.take_of_length_le (by omega)] at h;have hs:bJ s=false:=oa fun c hc=>by
  rw[List.all_eq_true] at h;simpa using h c hc
 exact⟨(vG hs).symm,by unfold tD;rw[hs];rfl,hs.symm⟩
def QK:Nat:=10000000
def GQ(K:Nat)(a:List UInt8):Prop:=aU (bm a)=a/\lq (bm a)<=K
theorem GQ.parts{K:Nat}{a:List UInt8}(h:GQ K a):tN a=Lib.itoa (bm a).num/\tD a=Lib.itoa ((bm a).den:Int):=by
 have:=ff (bm a);rw[h.1] at this;exact⟨this.1,this.2.1⟩
theorem GQ.nums{K:Nat}{a:List UInt8}(h:GQ K a):al (tN a)=(bm a).num/\al (tD a)=((bm a).den:Int):=by
 rw[h.parts.1,h.parts.2];exact⟨(aJ _).2,(aJ _).2⟩
theorem GQ.rs{K:Nat}{a:List UInt8}(h:GQ K a):RS (9*K+2) (tN a)/\RS (9*K+2) (tD a):=by
 rw[h.parts.1,h.parts.2];have h1:=gI (bm a).num;have h2:=gI ((bm a).den:Int);have h3:=dN (bm a);have h4:=dO (bm a);have h5:=h.2;exact⟨⟨(aJ _).1,by omega⟩,(aJ _).1,by omega⟩
theorem GQ.len{K:Nat}{a:List UInt8}(h:GQ K a):a.length<=18*K+5:=by
 rw[<- h.1];exact kx h.2
theorem RS.mono'{n m:Nat}{s:List UInt8}(h:RS n s)(hm:n<=m):RS m s:=⟨h.1,Nat.le_trans h.2 hm⟩
theorem dC{x:Rat}{K:Nat}(h:lq x<=K):GQ K (aU x):=⟨by rw[bP],by rw[bP];exact h⟩
theorem wj{v:Int}:Lib.itoa v= [49]↔v=1:=by
 have h1:Lib.itoa 1= [49]:=by decide+kernel
 constructor;·intro h;have:=(aJ v).2;rw[h,<- h1,(aJ 1).2] at this;exact this.symm
 ·rintro rfl;exact h1
theorem Ks{q:List UInt8}(h: ¬ (chk (tN q)=5∨chk (tD q)=5)):(cx q≠5)↔(bJ q=false∨(1<al (tD q)/\cg (al (tN q)) (al (tD q))=1)):=by
 unfold cx;rw[if_neg h];cases hs:bJ q;·simp only[Bool.false_eq_true,false_and,if_false,true_or,iff_true];split<;>decide
 ·simp only[true_and,Bool.true_eq_false,false_or];by_cases h1:al (tD q)<=1∨cg (al (tN q)) (al (tD q))≠1
  ·rw[if_pos h1];constructor;·intro e;exact absurd rfl e
   ·(intro e;exfalso;rcases h1 with h1|h1);·omega
    ·exact h1 e.2
  ·(rw[if_neg h1];(have h2:1<al (tD q):=by have: ¬al (tD q)<=1:=fun e=>h1 (.inl e);omega);have h3:cg (al (tN q)) (al (tD q))=1:=Decidable.not_not.1 fun e=>h1 (.inr e);constructor;·intro _;exact⟨h2,h3⟩);·intro _;split<;>decide
theorem p7{n d:Int}(hd:d≠0):(Rat.divInt n d).num=bN n (dP n d)/\(((Rat.divInt n d).den:Nat):Int)=bN d (dP n d):=by
 have h:=nW (n:=n) hd;unfold br at h;have h1:=congrArg (fun x:ND=>dec x.1) h;have h2:=congrArg (fun x:ND=>dec x.2) h;simp only[b5] at h1 h2;exact⟨h1,h2⟩
theorem Cb{s:List UInt8}{k:Nat}(hl:s.length<=1000000000)(hi:k<s.length)(h:(s.take k).all (· !=47)=true)(hb:s.getD k 0=47):
  List.drop (Int.toNat 0) (List.take ((k:Int)).toNat s)=tN s/\List.drop (IntKind.i64.wrap ((k:Int)+1)).toNat (List.take (((s.length:Nat):Int)).toNat s)=tD s/\true=bJ s:=by
 have h1:=FR hi h hb;rw[wo,Int.toNat_natCast,Int.toNat_natCast,show ((k:Int)+1).toNat=k+1 by omega,List.take_length];exact h1
theorem Cc{q:List UInt8}(h:q.length<=QL):(tN q).length<CAP/\
  ((!!decide (chk (tN q)≠5))=true->(!!decide (chk (tN q)≠5))=true/\(tD q).length<CAP)/\
   ((!!decide (chk (tN q)≠5))=true->(!!decide (chk (tN q)≠5))=true)/\
    ((!decide (chk (tN q)≠5))=false->(!!decide (chk (tN q)≠5))=true):=by
 have h1:=nX q;have h2:=nY q;have e:QL=1000000000:=rfl;have e2:CAP=1000000000000:=rfl;exact⟨by omega,fun h=>⟨h,by omega⟩,id,fun h=>by rw[h];rfl⟩
theorem FS{q:List UInt8}(h:chk (tN q)=5∨chk (tD q)=5):false=decide (cx q≠5):=by
 have:cx q=5:=by unfold cx;rw[if_pos h]
 rw[this];rfl
theorem Cd{q:List UInt8}(hq:q.length<=QL)(h: ¬ (chk (tN q)=5∨chk (tD q)=5)):((!!bJ q)=true->(!!bJ q)=true/\(RF (tD q)/\(tD q).length<CAP)/\RF [49]/\1<CAP)/\
  ((!!bJ q)=true->(!!bJ q)=true)/\
   ((!!bJ q)=true->(!!bJ q)=true)/\
    ((!!bJ q&&decide (0<bg (al (tD q)) (al [49])))=true->
      (!!bJ q&&decide (0<bg (al (tD q)) (al [49])))=true/\
       RS 1000000000 (tN q)/\RS 1000000000 (tD q))/\
     ((!!bJ q&&decide (0<bg (al (tD q)) (al [49])))=true->
       (!!bJ q&&decide (0<bg (al (tD q)) (al [49])))=true)/\
      ((!!bJ q)=true->
        (!!bJ q)=true/\
         (decide (0<bg (al (tD q)) (al [49]))=true->
          (!!bJ q&&decide (0<bg (al (tD q)) (al [49])))=true))/\
       ((!bJ q)=false->(!!bJ q)=true):=by
 have h1:=nX q;have h2:=nY q;have e:QL=1000000000:=rfl;have e2:CAP=1000000000000:=rfl;have f1:RF (tN q):=fun e=>h (.inl e);have f2:RF (tD q):=fun e=>h (.inr e);have h3:bJ q=true->(tD q).length+1<=q.length:=by
  intro hs;unfold tD;rw[if_pos hs];unfold tR;rw[List.length_drop];have:(tN q).length<q.length:=by
   by_cases he:(tN q).length=q.length
   ·exfalso;have h4:tN q=q:=(List.takeWhile_prefix _).eq_of_length he;have h5:∀ c∈tN q,c≠47:=fun c hc=>by
     have:=List.all_eq_true.1 (List.all_takeWhile (p:=(· !=47)) (l:=q)) c hc;simpa using this
    rw[h4] at h5;rw[oa h5] at hs;exact absurd hs (by decide)
   ·omega
  omega
 refine⟨fun h=>⟨h,⟨f2,by omega⟩,by unfold RF;decide,by omega⟩,id,id,fun h=>⟨h,⟨f1,by omega⟩,f2,?_⟩,id,fun h=>⟨h,fun h2=>by rw[h,h2];rfl⟩,fun h=>by rw[h];rfl⟩;have hs:bJ q=true:=by
  simp only[Bool.and_eq_true,Bool.not_not] at h;exact h.1
 have:=h3 hs;omega
theorem Ri{a b:Int}:0<bg a b↔b<a:=by
 unfold bg;split;·constructor<;>omega
 ·split;·constructor<;>omega
  ·constructor<;>omega
theorem Kt{q:List UInt8}(h: ¬ (chk (tN q)=5∨chk (tD q)=5)):(!bJ q||decide (0<bg (al (tD q)) (al [49]))&&Lib.itoa (cg (al (tN q)) (al (tD q)))== [49])=decide (cx q≠5):=by
 rw[Bool.eq_iff_iff,decide_eq_true_iff,Ks h,Bool.or_eq_true,Bool.and_eq_true,Bool.not_eq_true',decide_eq_true_iff,beq_iff_eq,wj,Ri,mQ]
theorem FT{q:List UInt8}{k:Int}(h:e9 q):(RF (tN q)/\(tN q).length<CAP)/\
  (decide (c7 (al (tN q))<=k)=true->decide (c7 (al (tN q))<=k)=true/\RF (tD q)/\(tD q).length<CAP)/\
   (decide (c7 (al (tN q))<=k)=true->decide (c7 (al (tN q))<=k)=true):=by
 have h1:=nX q;have h2:=nY q;have h3:=h.2.2;have e:QL=1000000000:=rfl;have e2:CAP=1000000000000:=rfl;exact⟨⟨h.1,by omega⟩,fun h'=>⟨h',h.2.1,by omega⟩,id⟩
theorem Rj{q:List UInt8}(h: ¬cx q≠5):5=cx q:=(Decidable.not_not.1 h).symm
theorem FU{q:List UInt8}(h:cx q≠5)(hl:q.length<=QL):e9 q:=RQ.form (q:=q) ⟨h,hl⟩
theorem Rk{q:List UInt8}(h:cx q≠5)(hl:q.length<=QL)(h2: ¬ (c7 (al (tN q))<=2000/\c7 (al (tD q))<=2000)):6=cx q:=by
 rw[RQ.chk (q:=q) ⟨h,hl⟩,if_pos (by omega)]
theorem Rl{q:List UInt8}(h:cx q≠5)(hl:q.length<=QL)(h2:c7 (al (tN q))<=2000/\c7 (al (tD q))<=2000):0=cx q:=by
 rw[RQ.chk (q:=q) ⟨h,hl⟩,if_neg (by omega)]
def MkR(n d:List UInt8):Prop:=RS 200000000 n/\RS 200000000 d/\al d≠0
theorem SF{n:Nat}{s:List UInt8}(h:RS n s):lw (al s)<=n:=Nat.le_trans (Ft h.1) h.2
theorem Rm{n:Nat}{s:List UInt8}(h:RS n s):(al s).natAbs<10^n:=mO h
theorem q9{v w:Int}{n:Nat}(h:w.natAbs<10^n)(hv:v.natAbs<=w.natAbs):RS (n+2) (Lib.itoa v):=(oR (k:=n) (by omega) (Nat.le_refl _)).1
theorem SG{n d:List UInt8}(h:MkR n d):RS 200000002 (Lib.itoa (cg (al n) (al d)))/\RS 200000002 (Lib.itoa (dP (al n) (al d))):=by
 have h1:=Rm h.2.1;exact⟨q9 h1 (oS h.2.2),q9 h1 (ma h.2.2).1⟩
theorem p8{n d:List UInt8}(h:MkR n d):RS 1000000000 n/\RS 1000000000 d:=⟨h.1.mono' (by omega),h.2.1.mono' (by omega)⟩
theorem Ku{n d:List UInt8}(h:MkR n d):RF (Lib.itoa (cg (al n) (al d)))/\4*(Lib.itoa (cg (al n) (al d))).length<CAP:=by
 have:=(SG h).1;have h2:=this.2;exact⟨this.1,by unfold CAP;omega⟩
theorem Hw{n d:List UInt8}(h:al d<0):Lib.itoa (-al (Lib.itoa (cg (al n) (al d))))=Lib.itoa (dP (al n) (al d)):=by
 rw[(aJ _).2];unfold dP;rw[if_pos h]
theorem Hx{n d:List UInt8}(h: ¬al d<0):Lib.itoa (cg (al n) (al d))=Lib.itoa (dP (al n) (al d)):=by
 unfold dP;rw[if_neg h]
theorem rH{a b:Int}:bg a b<0↔a<b:=by
 unfold bg;split;·constructor<;>omega
 ·split;·constructor<;>omega
  ·constructor<;>omega
theorem x5{n d:List UInt8}(h:MkR n d):RS 1000000000 n/\RS 1000000000 (Lib.itoa (dP (al n) (al d)))/\al (Lib.itoa (dP (al n) (al d)))≠0:=by
 rw[(aJ _).2];exact⟨(p8 h).1,(SG h).2.mono' (by omega),(ma h.2.2).2⟩
theorem Kv{n d:List UInt8}(h:MkR n d):RS 1000000000 d/\RS 1000000000 (Lib.itoa (dP (al n) (al d)))/\al (Lib.itoa (dP (al n) (al d)))≠0:=⟨(p8 h).2,(x5 h).2⟩
theorem Rn{n d:List UInt8}(h:MkR n d)(hb:Lib.itoa (bN (al d) (al (Lib.itoa (dP (al n) (al d)))))= [49]):Lib.itoa (bN (al n) (al (Lib.itoa (dP (al n) (al d)))))=aU (Rat.divInt (al n) (al d)):=by
 rw[(aJ _).2] at hb ⊢;obtain⟨h1,h2⟩:=p7 (n:=al n) h.2.2;rw[<- h2,wj] at hb;unfold aU;rw[if_pos (by omega),h1]
theorem Ro{n d:List UInt8}(h:MkR n d)(hb: ¬Lib.itoa (bN (al d) (al (Lib.itoa (dP (al n) (al d)))))= [49]):Lib.itoa (bN (al n) (al (Lib.itoa (dP (al n) (al d)))))++ [47]++Lib.itoa (bN (al d) (al (Lib.itoa (dP (al n) (al d)))))=aU (Rat.divInt (al n) (al d)):=by
 rw[(aJ _).2] at hb ⊢;obtain⟨h1,h2⟩:=p7 (n:=al n) h.2.2;rw[<- h2,wj] at hb;unfold aU;rw[if_neg (by omega),h1,h2]
theorem Kw{n d:List UInt8}(h:MkR n d):(Lib.itoa (bN (al n) (al (Lib.itoa (dP (al n) (al d)))))).length+1<=maxLen/\
  (Lib.itoa (bN (al n) (al (Lib.itoa (dP (al n) (al d)))))++ [47]).length+(Lib.itoa (bN (al d) (al (Lib.itoa (dP (al n) (al d)))))).length<=maxLen:=by
 rw[(aJ _).2];obtain⟨h1,h2⟩:=p7 (n:=al n) h.2.2;have h3:=l7 (al n) (al d) h.2.2;have h4:=SF h.1;have h5:=SF h.2.1;have h6:=gI (Rat.divInt (al n) (al d)).num;have h7:=gI (((Rat.divInt (al n) (al d)).den:Nat):Int);have h8:=dN (Rat.divInt (al n) (al d));have h9:=dO (Rat.divInt (al n) (al d));rw[h1] at h6;rw[h2] at h7;rw[h1] at h8;rw[h2] at h9;have e7:maxLen=9223372036854775807:=rfl;simp only[List.length_append,List.length_cons,List.length_nil];omega
theorem Oo{n d:Int}(h:I64 n/\I64 d/\d≠0):I64 n/\I64 d/\RS 200000000 (Lib.itoa n)/\RS 200000000 (Lib.itoa d)/\al (Lib.itoa d)≠0:=by
 have h1:=gI n;have h2:=gI d;have h3:=Fp h.1;have h4:=Fp h.2.1;rw[(aJ d).2];exact⟨h.1,h.2.1,⟨(aJ n).1,by omega⟩,⟨(aJ d).1,by omega⟩,h.2.2⟩
theorem Rp{n d:Int}:aU (Rat.divInt (al (Lib.itoa n)) (al (Lib.itoa d)))=aU (Rat.divInt n d):=by
 rw[(aJ n).2,(aJ d).2]
theorem Ce{a:List UInt8}(h:GQ QK a):a.length<=QL:=by
 have:=h.len;have e:QK=10000000:=rfl;have e2:QL=1000000000:=rfl;omega
theorem Hy{a:List UInt8}(h:GQ QK a):RS 200000000 (tN a)/\RS 200000000 (tD a):=by
 have e:QK=10000000:=rfl;exact⟨h.rs.1.mono' (by omega),h.rs.2.mono' (by omega)⟩
theorem gM{a:List UInt8}(h:GQ QK a):RS 20000000000 (tN a)/\RS 20000000000 (tD a):=⟨(Hy h).1.mono' (by omega),(Hy h).2.mono' (by omega)⟩
theorem Cf{a b:List UInt8}(ha:GQ QK a)(hb:GQ QK b)(h1:tD a= [49])(h2:tD b= [49]):(bm a).den=1/\(bm b).den=1:=by
 have k1:=ha.nums.2;have k2:=hb.nums.2;rw[h1,mQ] at k1;rw[h2,mQ] at k2;omega
theorem oW{x:Rat}(h:x.den=1):x=(x.num:Rat):=by
 have:=Rat.num_divInt_den x;rw[h,Rat.divInt_eq_div] at this;rw[show (((1:Nat):Int):Rat)=1 from rfl] at this;grind
theorem jA(n:Int):aU (n:Rat)=Lib.itoa n:=by unfold aU;rw[if_pos (Rat.den_intCast n),Rat.num_intCast]
theorem Oq{a b:List UInt8}(ha:GQ QK a)(hb:GQ QK b)(h:tD a= [49]/\tD b= [49]):Lib.itoa (al (tN a)+al (tN b))=aU (bm a+bm b):=by
 obtain⟨k1,k2⟩:=Cf ha hb h.1 h.2;rw[ha.nums.1,hb.nums.1,oW k1,oW k2,<- Rat.intCast_add,jA,Rat.num_intCast,Rat.num_intCast]
theorem Ot{a b:List UInt8}(ha:GQ QK a)(hb:GQ QK b)(h:tD a= [49]/\tD b= [49]):Lib.itoa (al (tN a)*al (tN b))=aU (bm a*bm b):=by
 obtain⟨k1,k2⟩:=Cf ha hb h.1 h.2;rw[ha.nums.1,hb.nums.1,oW k1,oW k2,<- Rat.intCast_mul,jA,Rat.num_intCast,Rat.num_intCast]
theorem wk{v:Int}{k:Nat}(h:lw v<=k):RS (9*k+2) (Lib.itoa v):=⟨(aJ v).1,by have:=gI v;omega⟩
theorem Cg{a:List UInt8}(h:GQ QK a):lw (bm a).num<=QK/\lw ((bm a).den:Int)<=QK:=by
 have:=dN (bm a);have:=dO (bm a);have:=h.2;omega
theorem Kx{a b:List UInt8}(ha:GQ QK a)(hb:GQ QK b):(RS 20000000000 (tN a)/\RS 20000000000 (tD b))/\
  (RS 20000000000 (tN b)/\RS 20000000000 (tD a))/\
   (RS 20000000000 (Lib.itoa (al (tN a)*al (tD b)))/\RS 20000000000 (Lib.itoa (al (tN b)*al (tD a))))/\
    (RS 20000000000 (tD a)/\RS 20000000000 (tD b))/\
     RS 200000000 (Lib.itoa (al (Lib.itoa (al (tN a)*al (tD b)))+al (Lib.itoa (al (tN b)*al (tD a)))))/\
      RS 200000000 (Lib.itoa (al (tD a)*al (tD b)))/\al (Lib.itoa (al (tD a)*al (tD b)))≠0:=by
 have e:QK=10000000:=rfl;simp only[(aJ _).2];have k1:=Cg ha;have k2:=Cg hb;rw[ha.nums.1,ha.nums.2,hb.nums.1,hb.nums.2];have m1:=bZ (bm a).num (bm b).den;have m2:=bZ (bm b).num (bm a).den;have m3:=bZ ((bm a).den:Int) (bm b).den;have m4:=vA ((bm a).num*(bm b).den) ((bm b).num*(bm a).den);exact⟨⟨(gM ha).1,(gM hb).2⟩,⟨(gM hb).1,(gM ha).2⟩,⟨(wk (k:=20000000) (by omega)).mono' (by omega),(wk (k:=20000000) (by omega)).mono' (by omega)⟩,⟨(gM ha).2,(gM hb).2⟩,
  (wk (k:=20000001) (by omega)).mono' (by omega),(wk (k:=20000001) (by omega)).mono' (by omega),Int.mul_ne_zero (fv _) (fv _)⟩
theorem Ou{a b:List UInt8}(ha:GQ QK a)(hb:GQ QK b):aU (Rat.divInt (al (Lib.itoa (al (Lib.itoa (al (tN a)*al (tD b)))+al (Lib.itoa (al (tN b)*al (tD a)))))) (al (Lib.itoa (al (tD a)*al (tD b)))))=aU (bm a+bm b):=by
 simp only[(aJ _).2];rw[ha.nums.1,ha.nums.2,hb.nums.1,hb.nums.2,<- nU]
theorem Ky{a b:List UInt8}(ha:GQ QK a)(hb:GQ QK b):(RS 20000000000 (tN a)/\RS 20000000000 (tN b))/\
  (RS 20000000000 (tD a)/\RS 20000000000 (tD b))/\
   RS 200000000 (Lib.itoa (al (tN a)*al (tN b)))/\
    RS 200000000 (Lib.itoa (al (tD a)*al (tD b)))/\al (Lib.itoa (al (tD a)*al (tD b)))≠0:=by
 have e:QK=10000000:=rfl;simp only[(aJ _).2];have k1:=Cg ha;have k2:=Cg hb;rw[ha.nums.1,ha.nums.2,hb.nums.1,hb.nums.2];have m1:=bZ (bm a).num (bm b).num;have m3:=bZ ((bm a).den:Int) (bm b).den;exact⟨⟨(gM ha).1,(gM hb).1⟩,⟨(gM ha).2,(gM hb).2⟩,(wk (k:=20000001) (by omega)).mono' (by omega),(wk (k:=20000001) (by omega)).mono' (by omega),Int.mul_ne_zero (fv _) (fv _)⟩
theorem Ov{a b:List UInt8}(ha:GQ QK a)(hb:GQ QK b):aU (Rat.divInt (al (Lib.itoa (al (tN a)*al (tN b)))) (al (Lib.itoa (al (tD a)*al (tD b)))))=aU (bm a*bm b):=by
 simp only[(aJ _).2];rw[ha.nums.1,ha.nums.2,hb.nums.1,hb.nums.2,<- nV]
theorem inv_divInt(x:Rat):Rat.divInt (x.den:Int) x.num=x⁻¹:=(Rat.inv_def x).symm
theorem Kz{a b:List UInt8}(ha:GQ QK a)(hb:GQ QK b)(h0:bm b≠0):(RS 200000000 (tD b)/\RS 200000000 (tN b)/\al (tN b)≠0)/\GQ QK a/\GQ QK (aU (Rat.divInt (al (tD b)) (al (tN b)))):=by
 rw[hb.nums.1,hb.nums.2];refine⟨⟨(Hy hb).2,(Hy hb).1,zg h0⟩,ha,dC ?_⟩;have:=l7 ((bm b).den:Int) (bm b).num (zg h0);have:=Cg hb;omega
theorem Ow{a b:List UInt8}(hb:GQ QK b):aU (bm a*bm (aU (Rat.divInt (al (tD b)) (al (tN b)))))=aU (bm a/bm b):=by
 rw[hb.nums.1,hb.nums.2,bP,inv_divInt,Rat.div_def]
theorem Ox{p q:List (List UInt8)}(h: ¬ (p.length:Int)=(q.length:Int)):false=decide (p=q):=by
 symm
 rw[decide_eq_false_iff_not];rintro rfl;exact h rfl
theorem KA{p q:List (List UInt8)}{k:Nat}(he:p.length=q.length)(hk:k<p.length)(h:p.take k=q.take k)(hb:nth .str p (k:Int)=nth .str q (k:Int)):p.take (k+1)=q.take (k+1):=by
 rw[ea (t:= .str) hk,ea (t:= .str) (by omega:k<q.length)] at hb;rw[List.take_succ_eq_append_getElem hk,List.take_succ_eq_append_getElem (by omega:k<q.length),h,hb]
theorem Oy{p q:List (List UInt8)}{k:Nat}(hb: ¬nth .str p (k:Int)=nth .str q (k:Int)):false=decide (p=q):=by
 symm
 rw[decide_eq_false_iff_not];rintro rfl;exact hb rfl
theorem Oz{p q:List (List UInt8)}{k:Nat}(he:p.length=q.length)(hk: ¬k<p.length)(h:p.take k=q.take k):true=decide (p=q):=by
 symm
 rw[decide_eq_true_iff];rwa [List.take_of_length_le (by omega),List.take_of_length_le (by omega)] at h
theorem Hz{s:List UInt8}{k:Nat}:(((s.getD (k:Int).toNat 0).toNat:Nat):Int)=47↔s.getD k 0=47:=by
 rw[Int.toNat_natCast];constructor;·intro h;exact UInt8.toNat_inj.1 (by show _=47;omega)
 ·intro h;rw[h];rfl
theorem OA{q:List UInt8}(h:(!decide (chk (tN q)≠5)|| !decide (chk (tD q)≠5))=true):chk (tN q)=5∨chk (tD q)=5:=by
 simpa using h
theorem OB{q:List UInt8}(h:(!decide (chk (tN q)≠5)|| !decide (chk (tD q)≠5))=false): ¬ (chk (tN q)=5∨chk (tD q)=5):=by
 simp only[Bool.or_eq_false_iff,Bool.not_eq_false',decide_eq_true_iff] at h;exact fun e=>e.elim h.1 h.2
theorem KB{s:List UInt8}{k:Nat}(hl:s.length<=1000000000)(hk:k<s.length):((0:Int)<=0/\(0:Int)<=(k:Int)/\(k:Int)<=((s.length:Nat):Int))/\
  (0:Int)<=IntKind.i64.wrap ((k:Int)+1)/\IntKind.i64.wrap ((k:Int)+1)<=((s.length:Nat):Int)/\((s.length:Nat):Int)<=((s.length:Nat):Int):=by
 rw[wo];omega
def nl(p:List (List UInt8)):List Rat:=p.map bm
def GL(K:Nat)(p:List (List UInt8)):Prop:=∀ q∈p,GQ K q
theorem GL.tx{K:Nat}{p:List (List UInt8)}(h:GL K p):txP (nl p)=p:=by
 unfold txP nl;rw[List.map_map];conv=>rhs;rw[<- List.map_id p]
 exact List.map_congr_left fun q hq=>(h q hq).1
theorem GL.lq{K:Nat}{p:List (List UInt8)}(h:GL K p):∀ x∈nl p,lq x<=K:=by
 intro x hx;obtain⟨q,hq,rfl⟩:=List.mem_map.1 hx;exact(h q hq).2
theorem gR{K:Nat}{l:List Rat}(h:∀ x∈l,lq x<=K):GL K (txP l):=by
 intro q hq;obtain⟨x,hx,rfl⟩:=List.mem_map.1 hq;exact dC (h x hx)
theorem bY(l:List Rat):nl (txP l)=l:=Hn l
theorem gN(p:List (List UInt8)):(nl p).length=p.length:=by simp[nl]
theorem GL.mono{K m:Nat}{p:List (List UInt8)}(h:GL K p)(hm:K<=m):GL m p:=fun q hq=>⟨(h q hq).1,Nat.le_trans (h q hq).2 hm⟩
theorem GL.ex{K:Nat}{p:List (List UInt8)}(h:GL K p):∃ l,p=txP l/\∀ x∈l,Cm.lq x<=K:=⟨nl p,h.tx.symm,h.lq⟩
theorem oc{l:List Rat}{k:Nat}(h:k<l.length):nth .str (txP l) (k:Int)=aU (cf l k):=by
 rw[ea (t:= .str) (by rw[aY];exact h)];unfold txP cf;rw[List.getElem_map,List.getD_eq_getElem?_getD,List.getElem?_eq_getElem h];rfl
theorem p9:aU 0= [48]:=jy.2 rfl
theorem oX{p:List (List UInt8)}{K:Nat}(h:GL K p){k:Nat}(hk:k<p.length):nth .str p (k:Int)=aU (cf (nl p) k):=by
 have:=oc (l:=nl p) (k:=k) (by rw[gN];exact hk);rwa [h.tx] at this
theorem OC{p:List (List UInt8)}{k:Nat}(hk: ¬k<p.length): [48]=aU (cf (nl p) k):=by
 rw[bH (by rw[gN];omega),p9]
theorem jZ{l:List Rat}(h:0<l.length)(hl:l.length<=1000000000):nth .str (txP l) (IntKind.i64.wrap ((l.length:Int)-1))=aU (aE l):=by
 rw[bW hl,show (l.length:Int)-1=((l.length-1:Nat):Int) by omega,oc (by omega),bG h]
theorem Rq{l:List Rat}(hl:l.length<=1000000000)(hb:(0:Int)<((txP l).length:Int))(hc:nth .str (txP l) (IntKind.i64.wrap (((txP l).length:Int)-1))= [48]):0<l.length/\aE l=0:=by
 rw[aY] at hb hc;rw[jZ (by omega) hl,jy] at hc;exact⟨by omega,hc⟩
theorem Rr{l:List Rat}(hl:l.length<=1000000000)(hb:(0:Int)<((txP l).length:Int)-> ¬nth .str (txP l) (IntKind.i64.wrap (((txP l).length:Int)-1))= [48]):aP l=l:=by
 rw[aY] at hb;by_cases h:l= [];·subst h;rfl
 ·have h1:=List.length_pos_iff.2 h;have h2:=hb (by omega);rw[jZ h1 hl,jy] at h2;exact nZ h h2
theorem FV{l:List Rat}(hl:l.length<=1000000000)(h:decide ((0:Int)<((txP l).length:Int))=true):decide ((0:Int)<((txP l).length:Int))=true/\0<=IntKind.i64.wrap (((txP l).length:Int)-1)/\IntKind.i64.wrap (((txP l).length:Int)-1)<((txP l).length:Int):=by
 have h1:=of_decide_eq_true h;refine⟨h,?_⟩;rw[aY] at h1 ⊢;rw[bW hl];omega
theorem FW{l l0:List Rat}{K:Nat}(hl:l.length<=1000000000)(g1:l.length<=l0.length)(g2:∀ x∈l,lq x<=K)(g3:aP l=aP l0)(h:0<l.length/\aE l=0):
  List.take (IntKind.i64.wrap (((txP l).length:Int)-1)).toNat (txP l)=txP l.dropLast/\l.dropLast.length<=l0.length/\(∀ x∈l.dropLast,lq x<=K)/\aP l.dropLast=aP l0/\l.dropLast.length<l.length:=by
 rw[aY,bW hl,show ((l.length:Int)-1).toNat=l.length-1 by omega];refine⟨?_,by rw[List.length_dropLast];omega,fun x hx=>g2 x (List.dropLast_subset _ hx),?_,by rw[List.length_dropLast];omega⟩;·unfold txP;rw[<- List.map_take,List.dropLast_eq_take]
 ·rw[<- g3,n9 (List.length_pos_iff.1 h.1) h.2]
def QK2:Nat:=4000000
theorem mj(l:List Rat)(x:Rat):txP (l++ [x])=txP l++ [aU x]:=by simp[txP]
theorem x6{K:Nat}{p:List (List UInt8)}(h:GL K p)(hK:1<=K)(i:Nat):lq (cf (nl p) i)<=K:=gL h.lq hK i
theorem qa{p q:List (List UInt8)}(hp:GL QK2 p)(hq:GL QK2 q)(k:Nat):(GL QK p/\(0:Int)<=(k:Int))/\(GL QK q/\(0:Int)<=(k:Int))/\GQ QK (aU (cf (nl p) (k:Int).toNat))/\GQ QK (aU (cf (nl q) (k:Int).toNat)):=by
 have e:QK=10000000:=rfl;have e2:QK2=4000000:=rfl;rw[Int.toNat_natCast];have h1:=x6 hp (by omega) k;have h2:=x6 hq (by omega) k;exact⟨⟨hp.mono (by omega),by omega⟩,⟨hq.mono (by omega),by omega⟩,dC (by omega),dC (by omega)⟩
theorem FX{p q:List (List UInt8)}{k n:Nat}(h:k<n)(hn:n<=1000000):∃ z:Nat,IntKind.i64.wrap ((k:Int)+1)=(z:Int)/\txP (bU (· + ·) (nl p) (nl q) k)++ [aU (bm (aU (cf (nl p) (k:Int).toNat))+bm (aU (cf (nl q) (k:Int).toNat)))]=txP (bU (· + ·) (nl p) (nl q) z)/\z<=n/\n-z<n-k:=by
 refine⟨k+1,by rw[wo];omega,?_,by omega,by omega⟩;rw[Int.toNat_natCast,bP,bP,oT,mj]
theorem KC{p q:List (List UInt8)}(hp:GL QK2 p)(hq:GL QK2 q)(k:Nat):GL QK (txP (bU (· + ·) (nl p) (nl q) k)):=by
 refine gR fun x hx=> ?_;obtain⟨i,_,rfl⟩:=List.mem_map.1 hx;have e:QK=10000000:=rfl;have e2:QK2=4000000:=rfl;have h1:=x6 hp (by omega) i;have h2:=x6 hq (by omega) i;have:=pR (cf (nl p) i) (cf (nl q) i);show lq (cf (nl p) i+cf (nl q) i)<=_;omega
theorem OD{p q:List (List UInt8)}{k:Nat}(h1:k<=max p.length q.length)(h: ¬k<max p.length q.length):txP (aP (nl (txP (bU (· + ·) (nl p) (nl q) k))))=txP (bq (· + ·) (nl p) (nl q)):=by
 have e:k=max p.length q.length:=by omega
 unfold bq;rw[bY,gN,gN,<- e]
def b9(c:Rat)(l:List Rat):List Rat:=aP (l.map fun x=>c*x)
def dj(k:Nat)(l:List Rat):List Rat:=aP (List.replicate k 0++l)
theorem Ch{c:List UInt8}{p:List (List UInt8)}{K:Nat}(hp:GL K p){k:Nat}(h:k<p.length)(hn:p.length<=1000000):∃ z:Nat,IntKind.i64.wrap ((k:Int)+1)=(z:Int)/\txP (((nl p).take k).map fun x=>bm c*x)++ [aU (bm c*bm (nth .str p (k:Int)))]=txP (((nl p).take z).map fun x=>bm c*x)/\z<=p.length/\p.length-z<p.length-k:=by
 refine⟨k+1,by rw[wo];omega,?_,by omega,by omega⟩;rw[oX hp h,bP,List.take_succ_eq_append_getElem (by rw[gN];exact h),List.map_append,<- mj];congr 2;unfold cf;rw[List.getD_eq_getElem?_getD,List.getElem?_eq_getElem (by rw[gN];exact h)];rfl
theorem FY{c:List UInt8}{p:List (List UInt8)}(hc:GQ QK2 c)(hp:GL QK2 p)(k:Nat):GL QK (txP (((nl p).take k).map fun x=>bm c*x)):=by
 refine gR fun x hx=> ?_;obtain⟨y,hy,rfl⟩:=List.mem_map.1 hx;have e:QK=10000000:=rfl;have e2:QK2=4000000:=rfl;have:=l8 (bm c) y;have:=hc.2;have:=hp.lq y (List.mem_of_mem_take hy);omega
theorem KD{c:List UInt8}{p:List (List UInt8)}{k:Nat}(h: ¬k<p.length):txP (aP (nl (txP (((nl p).take k).map fun x=>bm c*x))))=txP (b9 (bm c) (nl p)):=by
 rw[bY,List.take_of_length_le (by rw[gN];omega)];rfl
theorem OE(k:Nat):List.replicate k [48]++ [[48]]=List.replicate (k+1) ([48]:List UInt8):=(List.replicate_succ' ..).symm
theorem Rs(k:Nat):txP (List.replicate k 0)=List.replicate k [48]:=by unfold txP;rw[List.map_replicate,p9]
theorem FZ{p:List (List UInt8)}(hp:GL QK p)(k:Nat):GL QK (List.replicate k [48]++p):=by
 intro q hq;rcases List.mem_append.1 hq with h|h
 ·rw[(List.mem_replicate.1 h).2,<- p9];exact dC (Nat.le_trans iX (by unfold QK;decide))
 ·exact hp q h
theorem KE(p q:List (List UInt8)):nl (p++q)=nl p++nl q:=by simp[nl]
theorem To(k:Nat):nl (List.replicate k [48])=List.replicate k 0:=by rw[<- Rs,bY]
theorem KF{p:List (List UInt8)}{k:Nat}:txP (aP (nl (List.replicate k [48]++p)))=txP (dj k (nl p)):=by
 rw[KE,To];rfl
theorem od(c:Rat)(l:List Rat)(i:Nat):cf (l.map fun x=>c*x) i=c*cf l i:=by
 unfold cf;simp only[List.getD_eq_getElem?_getD,List.getElem?_map];cases l[i]? with
 |none=>simp
 |some x=>rfl
theorem Rt:bm [45,49]= -1:=by decide+kernel
theorem oe:GQ 1 [45,49]:=by
 have h:aU (-1)= [45,49]:=by decide+kernel
 rw[<- h];refine dC ?_;rw[vC];have:lq 1=1:=by unfold lq;show max (lw 1) (lw 1)=1;rw[kX];decide
 omega
theorem Ru(l m:List Rat):bq (· + ·) l (b9 (-1) m)=bq (· - ·) l m:=by
 refine FE (cl _ _ _) (cl _ _ _) fun i=> ?_;have key:∀ (op:Rat->Rat->Rat) (a b:List Rat),op 0 0=0->cf (bq op a b) i=op (cf a i) (cf b i):=by
  intro op a b h0;unfold bq;rw[eP];by_cases hi:i<max a.length b.length;·exact ig _ _ _ _ _ hi
  ·rw[bH (by rw[dn];omega),bH (l:=a) (by omega),bH (l:=b) (by omega),h0]
 rw[key _ _ _ (by grind),key _ _ _ (by grind)];unfold b9;rw[eP,od];grind
def fu(l m:List Rat):Nat->List Rat
 |0=> []
 |i+1=>bq (· + ·) (fu l m i) (dj i (b9 (cf l i) m))
theorem ez(c:Rat)(l:List Rat)(x:Rat):aF (b9 c l) x=c*aF l x:=by
 unfold b9;rw[ec];induction l with
 |nil=>simp only[List.map_nil,dv];grind
 |cons a l ih=>simp only[List.map_cons,eO,ih];grind
theorem jB(k:Nat)(l:List Rat)(x:Rat):aF (dj k l) x=x^k*aF l x:=by
 unfold dj;rw[ec,pX,FD,List.length_replicate];grind
theorem HB(l m:List Rat)(x:Rat):∀ i,i<=l.length->aF (fu l m i) x=aF (l.take i) x*aF m x
 |0,_=>by simp only[fu,List.take_zero,dv];grind
 |i+1,h=>by
  rw[fu,lf,jB,ez,HB l m x i (by omega),rD l i x (by omega)];grind
theorem OG(l m:List Rat):∀ i,Trm (fu l m i)
 |0=>mR
 |i+1=>cl _ _ _
theorem Rv{l m:List Rat}(hl:Trm l)(hm:Trm m):fu l m l.length=cu l m:=
 iK (OG _ _ _) (kv hl hm) fun x=>by rw[HB l m x _ (Nat.le_refl _),List.take_length,ee]
theorem oY{c:Rat}{l:List Rat}{K:Nat}(hc:lq c<=K)(hl:∀ x∈l,lq x<=K):∀ x∈b9 c l,lq x<=2*K:=by
 intro x hx;obtain⟨y,hy,rfl⟩:=List.mem_map.1 (gg x hx);have:=l8 c y;have:=hl y hy;omega
theorem ml{k:Nat}{l:List Rat}{K:Nat}(hK:1<=K)(hl:∀ x∈l,lq x<=K):∀ x∈dj k l,lq x<=K:=by
 intro x hx;rcases List.mem_append.1 (gg x hx) with h|h;·rw[(List.mem_replicate.1 h).2];exact Nat.le_trans iX hK
 ·exact hl x h
theorem OH{l m:List Rat}{K M:Nat}(hK:1<=K)(hM:1<=M)(hl:∀ x∈l,lq x<=K)(hm:∀ x∈m,lq x<=M):∀ x∈bq (· + ·) l m,lq x<=K+M+1:=by
 intro x hx;obtain⟨i,_,rfl⟩:=List.mem_map.1 (gg x hx);have h1:=gL hl hK i;have h2:=gL hm hM i;have:=pR (cf l i) (cf m i);show lq (cf l i+cf m i)<=_;omega
theorem HC{l m:List Rat}{K:Nat}(hK:1<=K)(hl:∀ x∈l,lq x<=K)(hm:∀ x∈m,lq x<=K):∀ i,∀ x∈fu l m i,lq x<=1+i*(2*K+1)
 |0=>by intro x hx;simp[fu] at hx
 |i+1=>by
  intro x hx;have h1:=OH (by omega) (by omega:1<=2*K) (HC hK hl hm i) (ml (k:=i) (by omega) (oY (gL hl hK i) hm)) x hx;rw[Nat.add_mul];omega
theorem mV(c:Rat)(l:List Rat):(b9 c l).length<=l.length:=by
 have:=dt (l.map fun x=>c*x);rwa [List.length_map] at this
theorem ky(k:Nat)(l:List Rat):(dj k l).length<=k+l.length:=by
 have:=dt (List.replicate k 0++l);rw[List.length_append,List.length_replicate] at this;exact this
theorem Ci(l m:List Rat):∀ i,(fu l m i).length<=i+m.length
 |0=>by simp[fu]
 |i+1=>by
  have h1:=Ci l m i;have h2:=eF (· + ·) (fu l m i) (dj i (b9 (cf l i) m));have h3:=ky i (b9 (cf l i) m);have h4:=mV (cf l i) m;rw[fu];omega
def OI(p q:List (List UInt8)):Prop:=GL 10000 p/\GL 10000 q/\p.length<=100/\q.length<=100
theorem KG{p q:List (List UInt8)}(h:OI p q){k:Nat}(hk:k<p.length):(GQ QK2 (nth .str p (k:Int))/\GL QK2 q/\q.length<=1000000)/\(GL QK (txP (b9 (bm (nth .str p (k:Int))) (nl q)))/\(0:Int)<=(k:Int)/\(k:Int)<=1000000/\(txP (b9 (bm (nth .str p (k:Int))) (nl q))).length<=1000000)/\
  GL QK2 (txP (fu (nl p) (nl q) k))/\GL QK2 (txP (dj (k:Int).toNat (nl (txP (b9 (bm (nth .str p (k:Int))) (nl q))))))/\(txP (fu (nl p) (nl q) k)).length<=1000000/\(txP (dj (k:Int).toNat (nl (txP (b9 (bm (nth .str p (k:Int))) (nl q)))))).length<=1000000:=by
 obtain⟨hp,hq,hl,hl2⟩:=h;have e:QK=10000000:=rfl;have e2:QK2=4000000:=rfl;rw[oX hp hk,bP,bY,Int.toNat_natCast];have h1:=x6 hp (by omega) k;have s1:=oY h1 hq.lq;have s2:=ml (k:=k) (by omega) s1;have s3:=HC (by omega) hp.lq hq.lq k;have l1:=mV (cf (nl p) k) (nl q);have l2:=ky k (b9 (cf (nl p) k) (nl q));have l3:=Ci (nl p) (nl q) k;rw[gN] at l1 l3;refine⟨⟨dC (by omega),hq.mono (by omega),by omega⟩,⟨gR fun x hx=>by have:=s1 x hx;omega,by omega,by omega,by rw[aY];omega⟩,gR fun x hx=> ?_,gR fun x hx=>by have:=s2 x hx;omega,by rw[aY];omega,by rw[aY];omega⟩;have:=s3 x hx;have h9:k*(2*10000+1)<=100*(2*10000+1):=Nat.mul_le_mul_right _ (by omega);omega
theorem F0{p q:List (List UInt8)}(h:OI p q){k:Nat}(hk:k<p.length):∃ z:Nat,IntKind.i64.wrap ((k:Int)+1)=(z:Int)/\txP (bq (· + ·) (nl (txP (fu (nl p) (nl q) k))) (nl (txP (dj (k:Int).toNat (nl (txP (b9 (bm (nth .str p (k:Int))) (nl q))))))))=txP (fu (nl p) (nl q) z)/\z<=p.length/\p.length-z<p.length-k:=by
 have hl:=h.2.2.1;refine⟨k+1,by rw[wo];omega,?_,by omega,by omega⟩;rw[oX h.1 hk,bP,bY,bY,bY,Int.toNat_natCast];rfl
theorem OJ{p q:List (List UInt8)}{k:Nat}(h1:k<=p.length)(h: ¬k<p.length):txP (fu (nl p) (nl q) k)=txP (fu (nl p) (nl q) p.length):=by
 rw[show k=p.length by omega]
theorem Ue{k a b:Nat}(h:(decide ((k:Int)<(a:Int))||decide ((k:Int)<(b:Int)))=true):k<max a b:=by
 rw[Bool.or_eq_true,decide_eq_true_iff,decide_eq_true_iff] at h;omega
theorem Uf{k a b:Nat}(h:(decide ((k:Int)<(a:Int))||decide ((k:Int)<(b:Int)))=false): ¬k<max a b:=by
 rw[Bool.or_eq_false_iff,decide_eq_false_iff_not,decide_eq_false_iff_not] at h;omega
theorem lj{n:Nat}(h:n<=3000000):Cm.Roomy 1 n:=zi (by omega)
theorem F1{p q:List (List UInt8)}(hp:GL QK2 p)(hq:GL QK2 q){k:Nat}(hk:k<=1000000):(GL QK p/\(0:Int)<=(k:Int))/\(GL QK q/\(0:Int)<=(k:Int))/\(GQ QK (aU (cf (nl p) (k:Int).toNat))/\GQ QK (aU (cf (nl q) (k:Int).toNat)))/\Cm.Roomy 1 ((txP (bU (· + ·) (nl p) (nl q) k)).length+1):=
 ⟨(qa hp hq k).1,(qa hp hq k).2.1,(qa hp hq k).2.2,lj (by rw[aY,dn];omega)⟩
theorem Cj{c:List UInt8}{p:List (List UInt8)}(hc:GQ QK2 c)(hp:GL QK2 p)(hl:p.length<=1000000){k:Nat}(hk:k<p.length):((0:Int)<=(k:Int)/\(k:Int)<((p.length:Nat):Int))/\(GQ QK c/\GQ QK (nth .str p (k:Int)))/\Cm.Roomy 1 ((txP (List.map (fun x=>bm c*x) (List.take k (nl p)))).length+1):=by
 have e:QK=10000000:=rfl;have e2:QK2=4000000:=rfl;have h1:=x6 hp (by omega) k;refine⟨by omega,⟨⟨hc.1,by have:=hc.2;omega⟩,by rw[oX hp hk];exact dC (by omega)⟩,lj ?_⟩;rw[aY,List.length_map,List.length_take,gN];omega
theorem KH{p q:List (List UInt8)}(h:GL QK2 p/\GL 1000000 q/\p.length<=1000000/\q.length<=1000000):(GQ QK2 [45,49]/\GL QK2 q/\List.length q<=1000000)/\GL QK2 p/\GL QK2 (txP (b9 (bm [45,49]) (nl q)))/\List.length p<=1000000/\(txP (b9 (bm [45,49]) (nl q))).length<=1000000:=by
 obtain⟨h1,h2,h3,h4⟩:=h;have e2:QK2=4000000:=rfl;have s1:=oY (c:=bm [45,49]) (K:=1000000) (by have:=oe.2;omega) h2.lq;have s2:=mV (bm [45,49]) (nl q);rw[gN] at s2;exact⟨⟨⟨oe.1,by have:=oe.2;omega⟩,h2.mono (by omega),h4⟩,h1,gR fun x hx=>by have:=s1 x hx;omega,h3,by rw[aY];omega⟩
abbrev DPD:=List Int×Int×List Int
def jH(d:DPD):Prop:=(∀ n∈d.1,-128<=n/\n<128)/\(0<=d.2.1/\d.2.1<256)/\∀ n∈d.2.2,-128<=n/\n<128
def Tp(d:DPD)(n:Int):Rat:=Rat.divInt (n.tmod 10) (1+d.2.1.tmod 4)
def jC(d:DPD)(k:Nat):List Rat:=(d.1.take k).map (Tp d)
def nF(r:Int):List Rat:= [Rat.divInt (-r.tmod 8) 2,1]
def nv(d:DPD):Nat->List Rat
 |0=>aP (jC d 5)
 |i+1=>cu (nv d i) (nF (d.2.2.getD i 0))
def nG(d:DPD):List Rat:=nv d (min d.2.2.length 4)
theorem j0(n:Int)(m:Int)(hm:0<m): -m<n.tmod m/\n.tmod m<m:=by
 have h1:=Int.tmod_lt_of_pos n hm;have h2:=Int.tmod_lt_of_pos (-n) hm;rw[Int.neg_tmod] at h2;omega
theorem mm{n:Int}(h:n.natAbs<1000000000):lw n<=1:=l6 (by show _<(1000000000:Int)^1;omega)
theorem HD{d:DPD}(h:jH d)(l:List Int):Den 1 (l.map (Tp d)):=by
 obtain⟨_,⟨h1,h2⟩,_⟩:=h;have hD:=j0 d.2.1 4 (by decide);have h0:0<=d.2.1.tmod 4:=Int.tmod_nonneg _ h1;refine⟨1+d.2.1.tmod 4,by omega,mm (by omega),fun i=> ?_⟩;by_cases hi:i<l.length;·refine⟨l[i].tmod 10,mm (by have:=j0 l[i] 10 (by decide);omega),?_⟩;unfold cf;rw[List.getD_eq_getElem?_getD,List.getElem?_map,List.getElem?_eq_getElem hi];rfl
 ·exact⟨0,by rw[eN];omega,by rw[bH (by rw[List.length_map];omega),Rat.zero_divInt]⟩
theorem x7(r:Int):Trm (nF r):=fun _=>by unfold nF aE;show (1:Rat)≠0;decide
theorem Ck(r:Int):Den 1 (nF r):=by
 have h:=j0 r 8 (by decide);refine⟨2,by decide,mm (by decide),fun i=> ?_⟩;match i with
 |0=>exact⟨-r.tmod 8,mm (by omega),rfl⟩
 |1=>exact⟨2,mm (by decide),by show (1:Rat)=_;decide+kernel⟩
 |i+2=>exact⟨0,by rw[eN];omega,by rw[bH (by unfold nF;simp),Rat.zero_divInt]⟩
theorem oZ{d:DPD}(h:jH d):∀ i,i<=4->Sml (5+i) (1+2*i) (nv d i)
 |0,_=>⟨by
   have:=dt (jC d 5);unfold nv;(have h2:(jC d 5).length<=5:=by unfold jC;rw[List.length_map,List.length_take];omega);omega,cG _,mg (HD h _)⟩
 |i+1,hi=>by
  have ih:=oZ h i (by omega);have:=ih.mul (l2:=nF (d.2.2.getD i 0)) (m:=2) (c:=1) (k:=5+(i+1)) ⟨by unfold nF;simp,x7 _,Ck _⟩ (by omega) (by omega) (by omega) (by omega);exact⟨this.len,this.trm,this.den.mono (by omega)⟩
theorem KI{d:DPD}(h:jH d):Sml 9 9 (nG d):=by
 have:=oZ h (min d.2.2.length 4) (by omega);exact⟨by have:=this.len;unfold nG;omega,this.trm,this.den.mono (by omega)⟩
abbrev I8:Ty:= .int .i8
theorem OK{l:List Int}{k:Nat}(hk:k<l.length):nth I8 l (k:Int)=l[k]:=ea (t:=I8) hk
theorem Tq{d:DPD}{k:Nat}(hk:k<d.1.length):txP (jC d k)++ [aU (Tp d (nth I8 d.1 (k:Int)))]=txP (jC d (k+1)):=by
 rw[<- mj];unfold jC;rw[OK hk,List.take_succ_eq_append_getElem hk,List.map_append];rfl
theorem OL{d:DPD}{k:Nat}(h: ¬ (k<d.1.length/\k<5))(hk:k<=d.1.length/\k<=5):jC d k=jC d 5:=by
 unfold jC;by_cases h5:k=5;·rw[h5]
 ·rw[List.take_of_length_le (by omega),List.take_of_length_le (by omega)]
theorem HE{d:DPD}(h:jH d)(k:Nat):GL QK (txP (jC d k))/\(txP (jC d k)).length<=k:=by
 refine⟨gR fun x hx=>Nat.le_trans ((HD h (d.1.take k)).lq x hx) (by unfold QK;decide),?_⟩;rw[aY];unfold jC;rw[List.length_map,List.length_take];omega
theorem Tt{d:DPD}{k:Nat}(h:(txP (jC d k)).length<=k)(hk:k<=d.1.length/\k<=5):(txP (jC d k)).length<=1000000000:=by omega
theorem Cl(r:Int):txP (nF r)= [aU (Rat.divInt (-r.tmod 8) 2),[49]]:=by
 have h1:aU 1= [49]:=by decide+kernel
 unfold nF txP;simp[h1]
theorem Rw{d:DPD}(h:jH d){i:Nat}(hi:i<=4)(r:Int):OI (txP (nv d i)) [aU (Rat.divInt (-r.tmod 8) 2),[49]]:=by
 have hs:=oZ h i hi;rw[<- Cl];refine⟨gR fun x hx=>Nat.le_trans (hs.den.lq x hx) (by omega),gR fun x hx=>Nat.le_trans ((Ck r).lq x hx) (by omega),by rw[aY];have:=hs.len;omega,by rw[aY];unfold nF;simp⟩
theorem Tu{d:DPD}(h:jH d){i:Nat}(hi:i<d.2.2.length)(hi4:i<4):txP (fu (nl (txP (nv d i))) (nl [aU (Rat.divInt (-(nth I8 d.2.2 (i:Int)).tmod 8) 2),[49]]) (txP (nv d i)).length)=txP (nv d (i+1)):=by
 rw[<- Cl,bY,bY,aY,Rv (oZ h i (by omega)).trm (x7 _),nv,OK hi];congr 3;rw[List.getD_eq_getElem?_getD,List.getElem?_eq_getElem hi];rfl
theorem Tv{d:DPD}{i:Nat}(h: ¬ (i<d.2.2.length/\i<4))(hk:i<=d.2.2.length/\i<=4):txP (nv d i)=txP (nG d):=by
 unfold nG;rw[show min d.2.2.length 4=i by omega]
theorem SH{k a n:Nat}(h:(decide ((k:Int)<(a:Int))&&decide ((k:Int)<(n:Int)))=true):k<a/\k<n:=by
 rw[Bool.and_eq_true,decide_eq_true_iff,decide_eq_true_iff] at h;omega
theorem SI{k a n:Nat}(h:(decide ((k:Int)<(a:Int))&&decide ((k:Int)<(n:Int)))=false): ¬ (k<a/\k<n):=by
 rw[Bool.and_eq_false_iff,decide_eq_false_iff_not,decide_eq_false_iff_not] at h;omega
theorem Ug{d:DPD}(h:jH d){k:Nat}(hk:k<d.2.2.length):IntKind.i64.wrap (0-(IntKind.i64.wrap (nth I8 d.2.2 (k:Int))).tmod 8)= -(nth I8 d.2.2 (k:Int)).tmod 8:=by
 have h1:=h.2.2 (nth I8 d.2.2 (k:Int)) (eH (t:=I8) hk);rw[wi (x:=nth I8 d.2.2 (k:Int)) (by omega) (by omega)];have h2:=j0 (nth I8 d.2.2 (k:Int)) 8 (by decide);rw[wo];omega
theorem Uh{d:DPD}(h:jH d){k:Nat}(hk:k<d.1.length):IntKind.i64.wrap (nth I8 d.1 (k:Int))=nth I8 d.1 (k:Int):=by
 have h1:=h.1 (nth I8 d.1 (k:Int)) (eH (t:=I8) hk);exact wo
theorem KJ{d:DPD}(h:jH d){k:Nat}(hk:k<d.2.2.length/\k<4):((0:Int)<=(k:Int)/\(k:Int)<((d.2.2.length:Nat):Int))/\(8:Int)≠0/\
  (I64 (IntKind.i64.wrap (0-(IntKind.i64.wrap (nth I8 d.2.2 (k:Int))).tmod 8))/\I64 2/\(2:Int)≠0)/\
   OI (txP (nv d k)) [aU (Rat.divInt (IntKind.i64.wrap (0-(IntKind.i64.wrap (nth I8 d.2.2 (k:Int))).tmod 8)) 2),[49]]:=by
 rw[Ug h hk.1];have h2:=j0 (nth I8 d.2.2 (k:Int)) 8 (by decide);exact⟨by omega,by decide,⟨by unfold I64;omega,by unfold I64;omega,by decide⟩,Rw h (by omega) _⟩
theorem KK{d:DPD}(h:jH d){k:Nat}(hk:k<d.2.2.length/\k<4):∃ z:Nat,txP (fu (nl (txP (nv d k))) (nl [aU (Rat.divInt (IntKind.i64.wrap (0-(IntKind.i64.wrap (nth I8 d.2.2 (k:Int))).tmod 8)) 2),[49]]) (txP (nv d k)).length)=txP (nv d z)/\
   IntKind.i64.wrap ((k:Int)+1)=(z:Int)/\z<=d.2.2.length/\z<=4/\4-z<4-k:=by
 rw[Ug h hk.1];exact⟨k+1,Tu h hk.1 hk.2,wo,by omega,by omega,by omega⟩
theorem Tw{d:DPD}{k:Nat}(h: ¬ (k<d.1.length/\k<5))(hk:k<=d.1.length/\k<=5):txP (aP (nl (txP (jC d k))))=txP (nv d 0):=by
 rw[bY,OL h hk];rfl
theorem Ui{d:DPD}(h:jH d):IntKind.i64.wrap (1+IntKind.i64.wrap (Int.tmod d.2.1 4))=1+d.2.1.tmod 4:=by
 have hD:=j0 d.2.1 4 (by decide);have h0:0<=d.2.1.tmod 4:=Int.tmod_nonneg _ h.2.1.1;rw[wi (x:=d.2.1.tmod 4) (by omega) (by omega),wo]
theorem KL{d:DPD}(h:jH d){k:Nat}(hk:k<d.1.length/\k<5):((0:Int)<=(k:Int)/\(k:Int)<((d.1.length:Nat):Int))/\(10:Int)≠0/\(4:Int)≠0/\
    (I64 ((IntKind.i64.wrap (nth I8 d.1 (k:Int))).tmod 10)/\
      I64 (IntKind.i64.wrap (1+IntKind.i64.wrap (Int.tmod d.2.1 4)))/\
       IntKind.i64.wrap (1+IntKind.i64.wrap (Int.tmod d.2.1 4))≠0)/\
     live [some (txP (jC d k))] 0=true/\Cm.Roomy 1 ((rowOf [some (txP (jC d k))] 0).length+1):=by
 rw[Ui h,Uh h hk.1];have hD:=j0 d.2.1 4 (by decide);have h0:0<=d.2.1.tmod 4:=Int.tmod_nonneg _ h.2.1.1;have hn:=j0 (nth I8 d.1 (k:Int)) 10 (by decide);refine⟨by omega,by decide,by decide,⟨by unfold I64;omega,by unfold I64;omega,by omega⟩,rfl,lj ?_⟩;show (txP (jC d k)).length+1<=_;rw[aY];unfold jC;rw[List.length_map,List.length_take];omega
theorem KM{d:DPD}(h:jH d){k:Nat}(hk:k<d.1.length/\k<5):∃ z:Nat,IntKind.i64.wrap ((k:Int)+1)=(z:Int)/\
   rowOf [some (txP (jC d k))] 0++ [aU (Rat.divInt ((IntKind.i64.wrap (nth I8 d.1 (k:Int))).tmod 10) (IntKind.i64.wrap (1+IntKind.i64.wrap (Int.tmod d.2.1 4))))]=txP (jC d z)/\
    z<=d.1.length/\z<=5/\5-z<5-k:=by
 rw[Ui h,Uh h hk.1];exact⟨k+1,wo,Tq hk.1,by omega,by omega,by omega⟩
theorem SJ{α:Type}(l:List α):(((l.length:Nat):Int)==0)=decide (l= []):=by
 rw[Bool.eq_iff_iff,beq_iff_eq,decide_eq_true_iff];constructor;·intro h;exact List.eq_nil_of_length_eq_zero (by omega)
 ·intro h;rw[h];rfl
theorem Tx(a b:Int):(a==b)=decide (a=b):=by rw[Bool.eq_iff_iff,beq_iff_eq,decide_eq_true_iff]
theorem OM(e:Int)(p q:List (List UInt8)):(e==0&&decide (p=q))=decide (e=0/\p=q):=by rw[Tx];exact(Bool.decide_and _ _).symm
theorem Cn(p:List (List UInt8))(e q:Int):(((p.length:Nat):Int)==0&&e==q)=decide (p= []/\e=q):=by rw[SJ,Tx];exact(Bool.decide_and _ _).symm
def L(l:List (List UInt8)):List (List UInt8):=l
theorem wp1:dvS [[45,49],[48],[48],[49]] [[45,49],[49]]= [[49],[49],[49]]/\dvR [[45,49],[48],[48],[49]] [[45,49],[49]]= []/\dvE [[45,49],[48],[48],[49]] [[45,49],[49]]=0:=by decide+kernel
theorem wp2:dvS [[49],[48],[49]] [[48],[50]]= [[48],[49,47,50]]/\dvR [[49],[48],[49]] [[48],[50]]= [[49]]/\dvE [[49],[48],[49]] [[48],[50]]=0:=by decide+kernel
theorem wp3:dvE [[49]] []=2:=by decide+kernel
theorem wp4:evS [[49],[48],[49]] [49,47,50]= [53,47,52]/\evE [[49],[48],[49]] [49,47,50]=0:=by decide+kernel
theorem wp5:evE [[49]] [50,47,50]=5:=by decide+kernel
theorem wp6:cB cu [[49],[49]] [[45,49],[49]]= [[45,49],[48],[49]]/\cI cu [[49],[49]] [[45,49],[49]]=0:=by decide+kernel
theorem wp7:cB (bq (· + ·)) [[49],[50]] [[49],[45,50]]= [[50]]/\cI (bq (· + ·)) [[49],[50]] [[49],[45,50]]=0:=by decide+kernel
theorem wp8:cB (bq (· - ·)) [[49],[50]] [[49],[50]]= []/\cI (bq (· - ·)) [[49],[50]] [[49],[50]]=0:=by decide+kernel
theorem wp9:cB cp [[45,49],[48],[49]] [[49],[50],[49]]= [[49],[49]]/\cI cp [[45,49],[48],[49]] [[49],[50],[49]]=0:=by decide+kernel
theorem Rx:cB cp [[50]] []= [[49]]/\cI cp [[50]] []=0:=by decide+kernel
theorem Ry:cB cp [] []= []/\cI cp [] []=0:=by decide+kernel
theorem Rz:xX [[49],[48],[49]] [[49],[49]]= [[50],[50],[49]]/\xW [[49],[48],[49]] [[49],[49]]=0:=by decide+kernel
theorem RA:cB (fun a _=>bS a) [[53],[51],[48],[50]] []= [[51],[48],[54]]/\cI (fun a _=>bS a) [[53],[51],[48],[50]] []=0:=by decide+kernel
theorem RB:cB (fun a _=>cH a) [[50],[45,51],[48],[49]] []= [[45,50],[49],[49]]/\cI (fun a _=>cH a) [[50],[45,51],[48],[49]] []=0:=by decide+kernel
theorem RC:cB (fun a _=>cH a) [[55]] []= [[49]]/\cI (fun a _=>cH a) [[55]] []=0:=by decide+kernel
theorem RD:bT [[49],[48]]=40/\bT [[49,47,48]]=40:=by decide+kernel
theorem wsq:3<=QL/\((((0:Nat):Int)==0)=true->(((0:Nat):Int)==0)=true)/\((((0:Nat):Int)==0)=true->(((0:Nat):Int)==0)=true/\2<=QL)/\((((0:Nat):Int)==0)=true->(((0:Nat):Int)==0)=true)/\
  ((((0:Nat):Int)==0)=true->(((0:Nat):Int)==0)=true)/\((((0:Nat):Int)==0)=true->(((0:Nat):Int)==0)=true/\1<=QL)/\((((0:Nat):Int)==0)=true->(((0:Nat):Int)==0)=true):=by
 unfold QL;decide
theorem ok6:bV (fun p q=>Sz QM p/\Sz QM q/\p.length<=100/\q.length<=100) cu [[49],[49]] [[45,49],[49]]:=Uc (n:=4) (K:=1) (by decide+kernel) (by decide+kernel)
theorem ok7:bV (fun p q=>Sz QH p/\Sz QH q/\p.length<=1000/\q.length<=1000) (bq (· + ·)) [[49],[50]] [[49],[45,50]]:=Ua (n:=4) (K:=1) (by decide+kernel) (by decide+kernel)
theorem ok8:bV (fun p q=>Sz QH p/\Sz QH q/\p.length<=1000/\q.length<=1000) (bq (· - ·)) [[49],[50]] [[49],[50]]:=Ub (n:=4) (K:=1) (by decide+kernel) (by decide+kernel)
theorem ok9:bV ju cp [[45,49],[48],[49]] [[49],[50],[49]]:=Ok (n:=4) (K:=1) (by decide+kernel) (by decide+kernel)
theorem Uz:bV ju cp [[50]] []:=Ok (n:=4) (K:=1) (by decide+kernel) (by decide+kernel)
theorem UA:bV ju cp [] []:=Ok (n:=4) (K:=1) (by decide+kernel) (by decide+kernel)
theorem UB:zx [[49],[48],[49]] [[49],[49]]:=Tm (n:=4) (m:=4) (K:=1) (by decide+kernel) (by decide+kernel)
theorem UC:bV (fun p _=>Sz QH p/\p.length<=1000) (fun a _=>bS a) [[53],[51],[48],[50]] []:=Ud (n:=4) (K:=1) (by decide+kernel)
theorem UD:bV (fun p _=>nE p) (fun a _=>cH a) [[50],[45,51],[48],[49]] []:=SE (n:=4) (K:=1) (by decide+kernel)
theorem UE:bV (fun p _=>nE p) (fun a _=>cH a) [[55]] []:=SE (n:=4) (K:=1) (by decide+kernel)
theorem Uj:c8 [[49],[48]]/\c8 [[49,47,48]]:=by unfold c8 QL;decide
theorem Uk{n:Nat}(h:n<=1000):n<=QL:=by unfold QL;omega
def qb:List (List UInt8)->Int
 | []=>0
 |q::l=>if cx q=0 then qb l else cx q
theorem zB{p:List (List UInt8)}(h:p.all (fun q=>decide (cx q=0))=true):qb p=0:=by
 induction p with
 |nil=>rfl
 |cons q l ih=>
  simp only[List.all_cons,Bool.and_eq_true,decide_eq_true_eq] at h;unfold qb;rw[if_pos h.1];exact ih h.2
theorem ON{p:List (List UInt8)}{k:Nat}(hk:k<p.length)(h:(p.take k).all (fun q=>decide (cx q=0))=true)(hb: ¬cx (nth .str p (k:Int))=0):cx (nth .str p (k:Int))=qb p:=by
 rw[ea (t:= .str) hk] at hb ⊢;induction p generalizing k with
 |nil=>simp at hk
 |cons q l ih=>
  unfold qb;cases k with
  |zero=>exact(if_neg hb).symm
  |succ k=>
   simp only[List.take_succ_cons,List.all_cons,Bool.and_eq_true,decide_eq_true_eq] at h;rw[if_pos h.1];exact ih (by simpa using hk) h.2 (by simpa using hb)
theorem OO{p:List (List UInt8)}:qb p=0↔p.all (fun q=>decide (cx q=0))=true:=by
 refine⟨fun h=> ?_,zB⟩;induction p with
 |nil=>rfl
 |cons q l ih=>
  unfold qb at h;split at h;·rename_i hq;rw[List.all_cons,ih h];simp[hq]
  ·rename_i hq;exact absurd h hq
theorem o4(p:List (List UInt8)):p.getLastD []=p.getLast?.getD []:=List.getLastD_eq_getLast? ..
theorem F2(p:List (List UInt8)):(decide (p.length<=41)&&decide (qb p=0)&&(decide (p= [])||decide (p.getLastD []≠ [48])))=decide (bT p=0):=by
 unfold bT;by_cases h1:41<p.length
 ·rw[if_pos h1];have: ¬p.length<=41:=by omega
  simp[this]
 ·rw[if_neg h1];have h1':p.length<=41:=by omega
  by_cases h2:p.all (fun q=>decide (cx q=0))=true
  ·rw[if_neg (by rw[h2];decide)];have h3:=zB h2;by_cases h4:p≠ []/\p.getLastD []= [48];·rw[if_pos h4];obtain⟨h5,h6⟩:=h4;rw[o4] at h6;simp[h1',h3,h5,h6]
   ·(rw[if_neg h4];by_cases h5:p= [];·simp[h5,qb]);·have h6: ¬p.getLastD []= [48]:=fun e=>h4 ⟨h5,e⟩;rw[o4] at h6;simp[h1',h3,h6]
  ·rw[if_pos (by simpa using h2)];have h3: ¬qb p=0:=fun e=>h2 (OO.1 e);simp[h3]
def iZ(q:List UInt8):Bool:=decide (c7 (al (tN q))<=2000/\c7 (al (tD q))<=2000)
theorem RE(x:Rat):iZ (aU x)=gJ x:=by
 obtain⟨h1,h2,_⟩:=ff x;unfold iZ gJ;rw[h1,h2,(aJ _).2,(aJ _).2]
theorem Co(l:List Rat):(txP l).all iZ=gh l:=by
 unfold txP gh;rw[List.all_map];congr 1;funext x;exact RE x
def FL(p:List (List UInt8)):Prop:=p.length<=1000/\∀ q∈p,e9 q
theorem RG{x:Rat}{K:Nat}(h:lq x<=K)(hK:K<=10000000):e9 (aU x):=by
 have hr:RQ (aU x):=by
  refine⟨?_,?_⟩;·rw[xU];unfold qW;split<;>decide
  ·have:=kx h;unfold QL;omega
 exact hr.form
theorem OP{l:List Rat}{K:Nat}(hn:l.length<=1000)(h:∀ x∈l,lq x<=K)(hK:K<=10000000):FL (txP l):=by
 refine⟨by rw[aY];exact hn,fun q hq=> ?_⟩;obtain⟨x,hx,rfl⟩:=List.mem_map.1 hq;exact RG (h x hx) hK
def mn(p:List (List UInt8))(e:Int)(w:List (List UInt8)):Bool:=if w.all iZ=true then decide (e=0/\p=w) else decide (p= []/\e=6)
theorem KN{f:List Rat->List Rat->List Rat}{l m:List Rat}(hl:Pol l)(hm:Pol m){r:List Rat}(hr:aP (f l m)=r)(hn:r.length<=41):mn (cB f (txP l) (txP m)) (cI f (txP l) (txP m)) (txP r)=true:=by
 have e1:cI f (txP l) (txP m)=bO r:=by unfold cI;rw[if_pos (il hl hm),hl.num,hm.num,hr]
 have e2:cB f (txP l) (txP m)=fe r:=by unfold cB;rw[if_pos (il hl hm),hl.num,hm.num,hr]
 rw[e1,e2];unfold mn;rw[Co];by_cases hf:gh r=true
 ·have:bO r=0:=by unfold bO;rw[if_neg (by omega),if_pos (by rw[jh];exact hf)]
  rw[if_pos hf,this];unfold fe;rw[if_pos this];simp[txP]
 ·have:bO r=6:=by unfold bO;rw[if_neg (by omega),if_neg (by rw[jh];exact hf)]
  rw[if_neg hf,this];unfold fe;rw[if_neg (by rw[this];decide)];simp
def og(p:List (List UInt8)):List (List UInt8):=(p.take 6).map fun q=>q.take 8
structure Part (p:List (List UInt8)):Prop where
 short:c8 p
 sml:bT p=0->txP (bk p)=p/\Pol (bk p)/\Sml 9 9 (bk p)
theorem Cp(p:List (List UInt8)):bT p=0∨bT p=40:=by
 unfold bT;split;·exact .inr rfl
 ·split;·exact .inr rfl
  ·(split;·exact .inr rfl);·exact .inl rfl
theorem o5(p:List (List UInt8)):Part (og p):=by
 have hl:(og p).length<=6:=by unfold og;rw[List.length_map,List.length_take];omega
 have hq:∀ q∈og p,q.length<=8:=by
  intro q hq;obtain⟨x,_,rfl⟩:=List.mem_map.1 hq;rw[List.length_take];omega
 have hs:c8 (og p):=⟨by unfold QL;omega,fun q h=>by have:=hq q h;unfold QL;omega⟩;refine⟨hs,fun hc=> ?_⟩;obtain⟨t1,t2,t3,t4⟩:=Hq hs hc;have hn:(bk (og p)).length=(og p).length:=by rw[<- t1,aY,t1]
 have hlq:∀ x∈bk (og p),lq x<=1:=by
  intro x hx;have hm:aU x∈og p:=by rw[<- t1];exact List.mem_map.2 ⟨x,hx,rfl⟩
  have h8:=hq _ hm;obtain⟨p1,p2,_⟩:=ff x;have hN:=nX (aU x);have hD:=nY (aU x);rw[p1] at hN;rw[p2] at hD;have key:∀ n:Int,(Lib.itoa n).length<=9->lw n<=1:=by
   intro n hn;have h1:=Na (aJ n).1;rw[(aJ n).2] at h1;refine l6 ?_;have h2:(10:Nat)^(Lib.itoa n).length<=10^9:=Nat.pow_le_pow_right (by omega) hn;show _<(1000000000:Int)^1;omega
  exact Nat.max_le.2 ⟨key _ (by omega),key _ (by omega)⟩
 have hsm:=FO (n:=6) (K:=1) (by omega) t3 (by decide) hlq;exact⟨t1,⟨t2,t3,t4⟩,⟨by have:=hsm.len;omega,hsm.trm,hsm.den.mono (by decide)⟩⟩
theorem lk{d:DPD}(h:jH d):Part (txP (nG d)):=by
 have hs:=KI h;have pp:=hs.pol (by decide) (by decide);exact⟨pp.short,fun _=>by rw[pp.num];exact⟨rfl,pp,hs⟩⟩
def wm(p q:List (List UInt8))(d f:DPD):List (List (List (List UInt8))):=
 [[og p,og q],[og p,txP (nG f)],[txP (nG d),og q],[txP (nG d),txP (nG f)]]
theorem F3{p q:List (List UInt8)}{d f:DPD}(hd:jH d)(hf:jH f){k:Nat}(hk:k<4):∃ a b,nth (.arr 2 (.slice .str)) (wm p q d f) (k:Int)= [a,b]/\Part a/\Part b:=by
 have:k=0∨k=1∨k=2∨k=3:=by omega
 rcases this with rfl|rfl|rfl|rfl;·exact⟨_,_,rfl,o5 p,o5 q⟩
 ·exact⟨_,_,rfl,o5 p,lk hf⟩
 ·exact⟨_,_,rfl,lk hd,o5 q⟩
 ·exact⟨_,_,rfl,lk hd,lk hf⟩
theorem o6{a b:List (List UInt8)}(h: ¬ (bT a=0/\bT b=0)):bX [a,b]=40:=by
 unfold bX;rcases Cp a with ha|ha
 ·rw[if_pos ha];rcases Cp b with hb|hb;·exact absurd ⟨ha,hb⟩ h
  ·unfold bX;rw[if_neg (by rw[hb];decide)];exact hb
 ·rw[if_neg (by rw[ha];decide)];exact ha
theorem RH{f:List Rat->List Rat->List Rat}{a b:List (List UInt8)}(h: ¬ (bT a=0/\bT b=0)):cB f a b= []/\cI f a b=40:=by
 have:=o6 h;unfold cB cI;rw[if_neg (by rw[this];decide),if_neg (by rw[this];decide)];exact⟨rfl,this⟩
theorem RI{D:List ND->List ND->Prop}{f:List Rat->List Rat->List Rat}{a b:List (List UInt8)}(ha:Part a)(hb:Part b)(h: ¬ (bT a=0/\bT b=0)):bV D f a b:=
 ⟨ha.short,hb.short,fun e=>by rw[o6 h] at e;exact absurd e (by decide)⟩
theorem F4{p:List (List UInt8)}(hl:p.length<=1000000000){b:Bool}(h:(b&& !((p.length:Int)==0))=true):0<=IntKind.i64.wrap ((p.length:Int)-1)/\IntKind.i64.wrap ((p.length:Int)-1)<(p.length:Int):=by
 simp only[Bool.and_eq_true,Bool.not_eq_true',beq_eq_false_iff_ne] at h;rw[bW hl];omega
theorem F5{p:List (List UInt8)}:(decide ((p.length:Int)<=41)&&qb p==0&&((p.length:Int)==0||nth Ty.str p (IntKind.i64.wrap ((p.length:Int)-1)) != [48]))=decide (bT p=0):=by
 rw[<- F2];have e1:decide ((p.length:Int)<=41)=decide (p.length<=41):=by
  rw[Bool.eq_iff_iff,decide_eq_true_iff,decide_eq_true_iff];omega
 rw[e1,Tx,SJ];by_cases hl:p.length<=41
 ·by_cases hp:p= []
  ·subst hp;rfl
  ·rw[mh hl (List.length_pos_iff.2 hp)];congr 2;rw[Bool.eq_iff_iff];simp
 ·simp[hl]
theorem OQ{m:List (List (List UInt8))}{k j:Nat}(hk:k<m.length)(hj:j<List.length (nth (.slice .str) m (k:Int)))(hb: ¬ (c7 (al (tN (nth .str (nth (.slice .str) m (k:Int)) (j:Int))))<=2000/\c7 (al (tD (nth .str (nth (.slice .str) m (k:Int)) (j:Int))))<=2000)):false=List.all m fun p=>List.all p iZ:=by
 symm
 rw[List.all_eq_false];refine⟨_,eH (t:= .slice .str) hk,?_⟩;rw[Bool.not_eq_true,List.all_eq_false];exact⟨_,eH (t:= .str) hj,by unfold iZ;simpa using hb⟩
theorem RJ{m:List (List (List UInt8))}{k j:Nat}(hl:List.length (nth (.slice .str) m (k:Int))<=1000)(hj:j<List.length (nth (.slice .str) m (k:Int)))(g:(List.take j (nth (.slice .str) m (k:Int))).all iZ=true)(hb:c7 (al (tN (nth .str (nth (.slice .str) m (k:Int)) (j:Int))))<=2000/\c7 (al (tD (nth .str (nth (.slice .str) m (k:Int)) (j:Int))))<=2000):
  ∃ z:Nat,IntKind.i64.wrap ((j:Int)+1)=(z:Int)/\z<=List.length (nth (.slice .str) m (k:Int))/\(List.take z (nth (.slice .str) m (k:Int))).all iZ=true/\List.length (nth (.slice .str) m (k:Int))-z<List.length (nth (.slice .str) m (k:Int))-j:=by
 refine⟨j+1,wo,hj,?_,by omega⟩;rw[List.take_succ_eq_append_getElem hj,List.all_append,g];rw[ea (t:= .str) hj] at hb;have:iZ ((nth (.slice .str) m (k:Int))[j])=true:=by unfold iZ;exact decide_eq_true hb
 simp[this]
theorem OR{m:List (List (List UInt8))}{k j:Nat}(hl:m.length<=1000)(hk:k<m.length)(hj: ¬j<List.length (nth (.slice .str) m (k:Int)))(g2:(m.take k).all (fun p=>p.all iZ)=true)(g:(List.take j (nth (.slice .str) m (k:Int))).all iZ=true):
  ∃ z:Nat,IntKind.i64.wrap ((k:Int)+1)=(z:Int)/\z<=m.length/\((List.take z m).all fun p=>List.all p iZ)=true/\m.length-z<m.length-k:=by
 refine⟨k+1,wo,hk,?_,by omega⟩;rw[List.take_of_length_le (by omega)] at g;rw[List.take_succ_eq_append_getElem hk,List.all_append,g2];rw[ea (t:= .slice .str) hk] at g;have g':List.all m[k] iZ=true:=g;simp only[List.all_cons,List.all_nil,Bool.and_true,Bool.true_and];exact g'
theorem KO{m:List (List (List UInt8))}{k:Nat}(hk: ¬k<m.length)(g2:(m.take k).all (fun p=>p.all iZ)=true):true=List.all m fun p=>List.all p iZ:=by
 rw[List.take_of_length_le (by omega)] at g2;exact g2.symm
theorem RL{p:List (List UInt8)}{k:Nat}(hk: ¬k<p.length)(g2:(p.take k).all (fun q=>decide (cx q=0))=true):0=qb p:=by
 rw[List.take_of_length_le (by omega)] at g2;exact(zB g2).symm
theorem RM{p w:List (List UInt8)}{e:Int}(h2:List.all w iZ=false):(((p.length:Nat):Int)==0&&e==6)=mn p e w:=by
 unfold mn;rw[if_neg (by rw[h2];decide)];exact Cn p e 6
theorem RN{p w:List (List UInt8)}{e:Int}(h2:List.all w iZ=true):(e==0&&decide (p=w))=mn p e w:=by
 unfold mn;rw[if_pos h2];exact OM e p w
theorem RO{p:List (List UInt8)}:(0:Int)<=0/\(0:Int)<=min ((p.length:Nat):Int) 6/\min ((p.length:Nat):Int) 6<=((p.length:Nat):Int):=by omega
theorem OS{p:List (List UInt8)}:List.drop (Int.toNat 0) (List.take (Int.toNat (min ((p.length:Nat):Int) 6)) p)=List.take 6 p:=by
 rw[show Int.toNat 0=0 from rfl,List.drop_zero];by_cases h:p.length<=6;·rw[List.take_of_length_le (by omega),List.take_of_length_le h]
 ·congr 1;omega
theorem OT{q:List UInt8}:List.drop (Int.toNat 0) (List.take (Int.toNat (min ((q.length:Nat):Int) 8)) q)=List.take 8 q:=by
 rw[show Int.toNat 0=0 from rfl,List.drop_zero];by_cases h:q.length<=8;·rw[List.take_of_length_le (by omega),List.take_of_length_le h]
 ·congr 1;omega
theorem KP{p:List (List UInt8)}{k:Nat}(hk:k<(List.take 6 p).length):∃ z:Nat,IntKind.i64.wrap ((k:Int)+1)=(z:Int)/\List.map (fun q=>List.take 8 q) (List.take k (List.take 6 p))++ [List.drop (Int.toNat 0) (List.take (Int.toNat (min ((List.length (nth Ty.str (List.take 6 p) (k:Int)):Nat):Int) 8)) (nth Ty.str (List.take 6 p) (k:Int)))]=List.map (fun q=>List.take 8 q) (List.take z (List.take 6 p))/\
    z<=(List.take 6 p).length/\(List.take 6 p).length-z<(List.take 6 p).length-k:=by
 have h6:(List.take 6 p).length<=6:=by rw[List.length_take];omega
 refine⟨k+1,wo,?_,hk,by omega⟩;rw[OT,ea (t:= .str) hk];have e:List.take (k+1) (List.take 6 p)=List.take k (List.take 6 p)++ [(List.take 6 p)[k]]:=List.take_succ_eq_append_getElem hk;rw[e,List.map_append];rfl
theorem RP{p:List (List UInt8)}{k:Nat}(hk: ¬k<(List.take 6 p).length):List.map (fun q=>List.take 8 q) (List.take k (List.take 6 p))=og p:=by
 rw[List.take_of_length_le (by omega)];rfl
theorem KQ{q:List UInt8}{p:List (List UInt8)}{k:Nat}:((0:Int)<=0/\(0:Int)<=min ((q.length:Nat):Int) 8/\min ((q.length:Nat):Int) 8<=((q.length:Nat):Int))/\Cm.Roomy 1 ((List.map (fun q=>List.take 8 q) (List.take k (List.take 6 p))).length+1):=by
 refine⟨by omega,lj ?_⟩;rw[List.length_map,List.length_take,List.length_take];omega
theorem OU{a b:List (List UInt8)}(h:(!decide (bT a=0)|| !decide (bT b=0))=true): ¬ (bT a=0/\bT b=0):=by
 rintro⟨h1,h2⟩;simp[h1,h2] at h
theorem RR{a b:List (List UInt8)}(h:(!decide (bT a=0)|| !decide (bT b=0))=false):bT a=0/\bT b=0:=by
 simpa using h
theorem KR(l:List Rat):(fe l).length<=QL:=by
 unfold fe;split
 ·rename_i h;rw[List.length_map];have:l.length<=41:=by
   apply Nat.le_of_not_lt;intro h2;unfold bO at h;rw[if_pos h2] at h;exact absurd h (by decide)
  unfold QL;omega
 ·simp
theorem KS(f:List Rat->List Rat->List Rat)(p q:List (List UInt8)):(cB f p q).length<=QL:=by
 unfold cB;split;·exact KR _
 ·simp
end Go.Cm
end
section
namespace Go.Proofs.YtdojbabpnaifoaaGreatDoor
open Go Go.Cm Go.Proofs
theorem Tz:cZ Tryz.prog 84 .func:=GC (by kernel_rfl) ⟨_,_,_,Tryz.underlying84⟩
theorem Ul:cZ Tryz.prog 109 .func:=GC (by kernel_rfl) ⟨_,_,_,Tryz.underlying109⟩
def zC(B:aj):Tab:={types:= [(3,(.int .i64)),(181,(.slice (.int .i64)))],elems:= [],cons:= [],hint:= [],N:=21,base:=B}
theorem HF{B:aj}(hB:aC B):aI Tryz.prog (zC B):=⟨⟨tc ty3 (tc jV (ae)),af,by simp only[zC,ioB];omega⟩,bI rfl,by kernel_rfl⟩
def nH:Con:=fun l os=>match l,os with
 | [.z (.slice (.int .i64)) d],[]=>some (D.Lim d/\d.length<CAP,[.z (.slice (.int .i64)) (D.limbs (D.valL d).toNat)],[])
 |_,_=>none
theorem o7{B:aj}(hB:aC B):Valid B Tryz.prog 183 nH:=by
 refine ab (HF hB).tab Tryz.func183 rfl rfl rfl ?_;intro args os C rs os' hc hC;unfold nH at hc;split at hc;case h_2=>cases hc
 rename_i d;cases hc;refine v_h (HF hB) fun X hP hT hr hG=> ?_;have hU:=zC.eq_1;unfold zC at hT;have hX:=Bool.not_true;simp only[Tryz.f183,aD,an,ioB];refine s_g hG ?_;refine ak (ar ?_);refine bj (fun(z:List Int)=>(⟨[(0,.l (.z (.slice (.int .i64)) z))],[]⟩:aa)) (fun z=>D.Lim z/\D.valL z=D.valL d/\z.length<=d.length) (fun z=>z.length) d ?_ ?_ ?_;·simp only[ml0,ml1,Nat.reduceLT,Nat.reduceEqDiff,Nat.reduceAdd,Nat.reduceMul,Nat.reduceSub,Nat.reduceLeDiff,Nat.reduceBEq,Nat.reduceBNe,reduceIte,reduceDIte,reduceCtorEq]
 ·exact⟨hC.1,rfl,Nat.le_refl _⟩
 ·rintro z ⟨g1,g2,g3⟩;try dsimp only at g1 g2 g3
  have h4:z.length<1000000000000:=Nat.lt_of_le_of_lt g3 hC.2;refine ak (s_q hG ?_ ?_)
  ·(try simp only[ba]);exact⟨id,id,fun h=>⟨h,by simp only[decide_eq_true_eq] at h;rw[wo];omega⟩,id⟩
  refine ao ?_ ?_
  ·intro hb0;(try simp only[bt] at hb0);refine aq (ah ?_);refine ar (ag hG ?_ ?_)
   ·(try simp only[ba]);rw[wo];omega
   refine aK ?_;show ∃ z,_;refine q_l ?_;exact D.whole_round g1 g2 g3 hb0.1 h4 hb0.2
  ·intro hb0;(try simp only[bf] at hb0);refine aZ (aB ?_);refine av (au ?_);refine ah (s_g hG ?_);refine ay (q_e [] ?_);refine D.cut_fin g1 g2 fun hz h0=> ?_;have:=hb0 (by simp;omega);rw[wo,D.last_eq hz] at this;exact this h0
def zD(B:aj):Tab:={types:= [(3,(.int .i64)),(181,(.slice (.int .i64)))],elems:= [],cons:= [],hint:= [],N:=41,base:=B}
theorem HG{B:aj}(hB:aC B):aI Tryz.prog (zD B):=⟨⟨tc ty3 (tc jV (ae)),af,by simp only[zD,ioB];omega⟩,bI rfl,by kernel_rfl⟩
def gi:Con:=fun l os=>match l,os with
 | [.z (.slice (.int .i64)) m,.z (.slice (.int .i64)) o],[]=>some (D.Cano m/\D.Cano o/\m.length<CAP/\o.length<CAP,[.z (.int .i64) (bg (D.valL m) (D.valL o))],[])
 |_,_=>none
theorem wq{B:aj}(hB:aC B):Valid B Tryz.prog 160 gi:=by
 refine ab (HG hB).tab Tryz.func160 rfl rfl rfl ?_;intro args os C rs os' hc hC;unfold gi at hc;split at hc;case h_2=>cases hc
 rename_i m o;cases hc;refine v_h (HG hB) fun X hP hT hr hG=> ?_;have hU:=zD.eq_1;unfold zD at hT;have hX:=Bool.not_true;simp only[Tryz.f160,aD,an,ioB];refine s_g hG ?_;refine ak (s_g hG ?_);refine ao ?_ ?_
 ·intro hb0;try simp only[bt] at hb0
  refine ak (s_g hG ?_);refine ao ?_ ?_;·intro hb1;(try simp only[bt] at hb1);refine s_g hG ?_;refine ay (az ?_);refine az (q_e [] ?_);unfold bg;rw[if_pos (D.cmp_len hC.1 hC.2.1 (by omega))]
  ·intro hb1;(try simp only[bf] at hb1);refine aq (ah ?_);refine s_g hG ?_;refine ay (az ?_);refine q_e [] ?_;have:=D.cmp_len hC.2.1 hC.1 (by omega);unfold bg;rw[if_neg (by omega),if_pos this]
 ·intro hb0;simp only[bne_eq_false_iff_eq] at hb0;obtain⟨c1,c2,c3,c4⟩:=hC;have c3:List.length m<1000000000000:=c3;have hl:List.length m=List.length o:=by omega
  refine aq (ah ?_);refine ak (s_g hG ?_);refine ar (bj (fun(z:Nat)=>(⟨[(0,.l (.z (.slice (.int .i64)) m)),(1,.l (.z (.slice (.int .i64)) o)),(5,.l (.z (.int .i64) ((z:Int)-1)))],[]⟩:aa)) (fun z=>z<=List.length m/\List.drop z m=List.drop z o) (fun z=>z) (List.length m) ?_ ?_ ?_);·refine q_l ?_;exact wo
  ·exact⟨Nat.le_refl _,by rw[List.drop_length,List.drop_of_length_le (by omega)]⟩
  ·rintro k ⟨g1,g2⟩;(try dsimp only at g1 g2);refine ak (s_g hG ?_);refine ao ?_ ?_
   ·intro hb2;(try simp only[bt] at hb2);refine aq (ah ?_);refine ak (ar ?_);refine s_d hG ?_ ?_
    ·(try simp only[ba]);exact⟨⟨by omega,by omega⟩,by omega,by omega⟩
    refine ao ?_ ?_
    ·intro hb3;(try simp only[bt] at hb3);refine ak (s_d hG ?_ ?_)
     ·(try simp only[ba]);exact⟨⟨by omega,by omega⟩,by omega,by omega⟩
     (refine ao ?_ ?_;·intro hb4;(try simp only[bt] at hb4);refine s_g hG ?_;refine ay (az ?_);refine bl (az ?_);refine c6 (bl ?_);refine az (q_e [] ?_);obtain⟨j,rfl⟩:∃ j,k=j+1:=⟨k-1,by omega⟩;(have hk:((j+1:Nat):Int)-1=(j:Int):=by omega);rw[hk] at hb4;exact(D.cmp_less c1 c2 hl (by omega) g2 hb4).symm);·intro hb4;(try simp only[bf] at hb4);refine aq (ah ?_);refine s_g hG ?_;refine ay (bl ?_);refine az (c6 ?_);refine bl (az ?_);refine q_e [] ?_;obtain⟨j,rfl⟩:∃ j,k=j+1:=⟨k-1,by omega⟩;(have hk:((j+1:Nat):Int)-1=(j:Int):=by omega);rw[hk] at hb3 hb4;have hb5:List.getD o j 0<List.getD m j 0:=D.gt_of hb4 hb3;exact(D.cmp_more c1 c2 hl (by omega) g2 hb5).symm
    ·(intro hb3;(try simp only[bf] at hb3);refine aq (aK ?_);refine ah (ag hG ?_ ?_);·exact tt9);show ∃ z,_;refine q_l ?_;obtain⟨j,rfl⟩:∃ j,k=j+1:=⟨k-1,by omega⟩;(have hk:((j+1:Nat):Int)-1=(j:Int):=by omega);rw[hk] at hb3 ⊢;exact⟨j,wo,by omega,D.drop_step hl (by omega) g2 hb3,by omega⟩
   ·intro hb2;(try simp only[bf] at hb2);refine aZ (aB ?_);refine av (au ?_);refine ah (s_g hG ?_);refine ay (q_e [] ?_);(have:k=0:=by omega);subst this;simp only[List.drop_zero] at g2;rw[g2];simp[bg]
def zE(B:aj):Tab:={types:= [(3,(.int .i64)),(181,(.slice (.int .i64)))],elems:= [(181,3)],cons:= [],hint:= [],N:=54,base:=B}
theorem HH{B:aj}(hB:aC B):aI Tryz.prog (zE B):=⟨⟨tc ty3 (tc jV (ae)),aT (by kernel_rfl) (af),by simp only[zE,ioB];omega⟩,bI rfl,by kernel_rfl⟩
def zF:Con:=fun l os=>match l,os with
 | [.z (.slice (.int .i64)) m,.z (.slice (.int .i64)) o],[]=>some (D.Cano m/\D.Cano o/\m.length<CAP/\o.length<CAP,[.z (.slice (.int .i64)) (D.limbs (D.valL m+D.valL o).toNat)],[])
 |_,_=>none
theorem OV{B:aj}(hB:aC B):Valid B Tryz.prog 159 zF:=by
 refine ab (HH hB).tab Tryz.func159 rfl rfl rfl ?_;intro args os C rs os' hc hC;unfold zF at hc;split at hc;case h_2=>cases hc
 rename_i m o;cases hc;refine v_h (HH hB) fun X hP hT hr hG=> ?_;have hU:=zE.eq_1;unfold zE at hT;have hX:=Bool.not_true;simp only[Tryz.f159,aD,an,ioB];refine s_g hG ?_;refine s_g hG ?_;refine s_g hG ?_;refine ak (s_g hG ?_);refine ar (bj (fun(z:Nat×Int×List Int)=>(⟨[(0,.l (.z (.slice (.int .i64)) m)),(1,.l (.z (.slice (.int .i64)) o)),(5,.l (.ownS 50)),(6,.l (.z (.int .i64) z.2.1)),(7,.l (.z (.int .i64) (z.1:Int)))],[(50,.arr (.int .i64) 3 z.2.2)]⟩:aa)) (fun z=>D.PlusPhi m o z.1 z.2.1 z.2.2) (fun z=>2*(max (List.length m) (List.length o)-z.1)+z.2.1.toNat) (0,0,[]) ?_ ?_ ?_);·refine q_l ?_;exact⟨rfl,by unfold ioB;omega⟩
 ·exact D.plus_start
 ·rintro⟨k,c,out⟩ hz;try dsimp only at hz
  obtain⟨c1,c2,c3,c4⟩:=hC;have c3:List.length m<1000000000000:=c3;have c4:List.length o<1000000000000:=c4;have hw:=D.plus_n c1.1 c2.1 hz;have hk:=hz.hk;refine ak (s_q hG ?_ ?_)
  ·try simp only[ba]
   (repeat' (first|apply And.intro|intro _))<;>(try simp only[decide_eq_true_eq,decide_eq_false_iff_not,Bool.not_eq_true',beq_iff_eq,Int.toNat_natCast] at*)<;>first|assumption|omega|trivial|(simp_all;done)|(simp_all;omega)
  refine ao ?_ ?_
  ·intro hb0;simp only[Bool.or_eq_true,decide_eq_true_eq] at hb0;(have hkk:k<List.length m∨k<List.length o∨(0:Int)<c:=by omega);have hks:=hz.hs;have hkM:k<=max (List.length m) (List.length o):=D.plus_k hz (by omega);(have hb0:(k<List.length m∨k<List.length o)∨(0:Int)<c:=by omega);refine aq (ah ?_);refine ak (ar ?_);refine s_g hG ?_;refine ct (fun(z:Int)=>(⟨[(0,.l (.z (.slice (.int .i64)) m)),(1,.l (.z (.slice (.int .i64)) o)),(5,.l (.ownS 50)),(6,.l (.z (.int .i64) c)),(7,.l (.z (.int .i64) (k:Int))),(8,.l (.z (.int .i64) z))],[(50,.arr (.int .i64) 3 out)]⟩:aa)) (fun z=>z=c+m.getD k 0) ?_ ?_
   ·refine s_g hG ?_;refine ao ?_ ?_
    ·intro hb1;(try simp only[bt] at hb1);refine ag hG ?_ ?_
     ·(try simp only[ba]);exact⟨by omega,by omega⟩
     show ∃ z,_;refine q_l ?_;first|exact hw.1|(rw[D.getD_none (by omega)];exact(Int.add_zero _).symm)
    ·intro hb1;(try simp only[bf] at hb1);refine aq ?_;show ∃ z,_;refine q_l ?_;first|exact hw.1|(rw[D.getD_none (by omega)];exact(Int.add_zero _).symm)
   rintro n1 hn1;(try dsimp only at hn1);refine ct (fun(z:Int)=>(⟨[(0,.l (.z (.slice (.int .i64)) m)),(1,.l (.z (.slice (.int .i64)) o)),(5,.l (.ownS 50)),(6,.l (.z (.int .i64) c)),(7,.l (.z (.int .i64) (k:Int))),(8,.l (.z (.int .i64) z))],[(50,.arr (.int .i64) 3 out)]⟩:aa)) (fun z=>z=c+m.getD k 0+o.getD k 0) ?_ ?_
   ·refine s_g hG ?_;refine ao ?_ ?_
    ·intro hb2;(try simp only[bt] at hb2);refine ag hG ?_ ?_
     ·(try simp only[ba]);exact⟨by omega,by omega⟩
     show ∃ z,_;refine q_l ?_;subst hn1;first|exact hw.2.1|(rw[D.getD_none (l:=o) (by omega)];exact(Int.add_zero _).symm)
    ·intro hb2;(try simp only[bf] at hb2);refine aq ?_;show ∃ z,_;refine q_l ?_;subst hn1;first|exact hw.2.1|(rw[D.getD_none (l:=o) (by omega)];exact(Int.add_zero _).symm)
   rintro n hn;(try dsimp only at hn);refine s_q hG ?_ ?_
   ·(try simp only[ba]);exact⟨by decide,by unfold Cm.Roomy;omega⟩
   refine ag hG ?_ ?_
   ·(try simp only[ba]);decide
   (refine aK (ah ?_);refine ag hG ?_ ?_;·exact tt9);show ∃ z,_;refine q_l ?_;obtain⟨q1,q2⟩:=D.plus_next c1.1 c2.1 hz hb0 hn;exact⟨k+1,by rw[wo];simp,q1,q2⟩
  ·intro hb0;simp only[Bool.or_eq_false_iff,decide_eq_false_iff_not] at hb0;refine aZ (aB ?_);refine av (au ?_);refine ah (s_g hG ?_);refine ay (q_e [50] ?_);exact D.plus_fin c1 c2 hz (by omega)
def zG(B:aj):Tab:={types:= [(3,(.int .i64)),(181,(.slice (.int .i64)))],elems:= [(181,3)],cons:= [(183,nH)],hint:= [],N:=41,base:=B}
theorem HI{B:aj}(hB:aC B):aI Tryz.prog (zG B):=⟨⟨tc ty3 (tc jV (ae)),aT (by kernel_rfl) (af),by simp only[zG,ioB];omega⟩,aG (cc Tryz.func183 (o7 hB) (aA)),by kernel_rfl⟩
def mW:Con:=fun l os=>match l,os with
 | [.z (.slice (.int .i64)) m,.z (.slice (.int .i64)) o],[]=>some (D.Cano m/\D.Cano o/\D.valL o<=D.valL m/\m.length<CAP,[.z (.slice (.int .i64)) (D.limbs (D.valL m-D.valL o).toNat)],[])
 |_,_=>none
theorem Cq{B:aj}(hB:aC B):Valid B Tryz.prog 161 mW:=by
 refine ab (HI hB).tab Tryz.func161 rfl rfl rfl ?_;intro args os C rs os' hc hC;unfold mW at hc;split at hc;case h_2=>cases hc
 rename_i m o;cases hc;refine v_h (HI hB) fun X hP hT hr hG=> ?_;have hU:=zG.eq_1;unfold zG at hT;have hX:= @nH.eq_1;simp only[Tryz.f161,aD,an,ioB];refine s_g hG ?_;refine s_g hG ?_;refine s_g hG ?_;refine ak (s_g hG ?_);refine ar (bj (fun(z:Nat×Int×List Int)=>(⟨[(0,.l (.z (.slice (.int .i64)) m)),(1,.l (.z (.slice (.int .i64)) o)),(5,.l (.ownS 38)),(6,.l (.z (.int .i64) z.2.1)),(7,.l (.z (.int .i64) (z.1:Int)))],[(38,.arr (.int .i64) 3 z.2.2)]⟩:aa)) (fun z=>D.MinusPhi m o z.1 z.2.1 z.2.2) (fun z=>List.length m-z.1) (0,0,[]) ?_ ?_ ?_);·refine q_l ?_;exact⟨rfl,by unfold ioB;omega⟩
 ·exact D.minus_start
 ·rintro⟨k,b,out⟩ hz;try dsimp only at hz
  obtain⟨c1,c2,c3,c4⟩:=hC;have c4:List.length m<1000000000000:=c4;have hw:=D.minus_w c1.1 c2.1 hz;have hkm:=hz.hkm;have hk:=hz.hk;refine ak (s_g hG ?_);refine ao ?_ ?_
  ·intro hb0;(try simp only[bt] at hb0);refine aq (ah ?_);refine ak (ar ?_);refine s_q hG ?_ ?_
   ·(try simp only[ba]);exact⟨by omega,by omega⟩
   refine ct (fun(z:Int)=>(⟨[(0,.l (.z (.slice (.int .i64)) m)),(1,.l (.z (.slice (.int .i64)) o)),(5,.l (.ownS 38)),(6,.l (.z (.int .i64) b)),(7,.l (.z (.int .i64) (k:Int))),(8,.l (.z (.int .i64) z))],[(38,.arr (.int .i64) 3 out)]⟩:aa)) (fun z=>z=m.getD k 0-b-o.getD k 0) ?_ ?_
   ·refine s_g hG ?_;refine ao ?_ ?_
    ·intro hb1;(try simp only[bt] at hb1);refine ag hG ?_ ?_
     ·(try simp only[ba]);exact⟨by omega,by omega⟩
     show ∃ z,_;refine q_l ?_;first|(rw[D.nth64,hw.1];exact hw.2.1)|(rw[D.nth64,hw.1,D.getD_none (l:=o) (by omega)];exact(Int.sub_zero _).symm)
    ·intro hb1;(try simp only[bf] at hb1);refine aq ?_;show ∃ z,_;refine q_l ?_;first|(rw[D.nth64,hw.1];exact hw.2.1)|(rw[D.nth64,hw.1,D.getD_none (l:=o) (by omega)];exact(Int.sub_zero _).symm)
   rintro n hn;(try dsimp only at hn);refine s_g hG ?_;refine ct (fun(z:Unit)=>(⟨[(0,.l (.z (.slice (.int .i64)) m)),(1,.l (.z (.slice (.int .i64)) o)),(5,.l (.ownS 38)),(6,.l (.z (.int .i64) (D.borrowed n))),(7,.l (.z (.int .i64) (k:Int))),(8,.l (.z (.int .i64) (n+10000*D.borrowed n)))],[(38,.arr (.int .i64) 3 out)]⟩:aa)) (fun z=>True) ?_ ?_
   ·refine s_g hG ?_;refine ao ?_ ?_
    ·(intro hb2;(try simp only[bt] at hb2);refine s_g hG ?_;refine ag hG ?_ ?_;·exact tt9);show ∃ z,_;refine q_l ?_;first|exact D.borrow_t hb2 (by rw[hn];exact hw.2.2)|exact D.borrow_f hb2
    ·intro hb2;(try simp only[bf] at hb2);refine aq ?_;show ∃ z,_;refine q_l ?_;first|exact D.borrow_t hb2 (by rw[hn];exact hw.2.2)|exact D.borrow_f hb2
   rintro⟨⟩ hu;(try dsimp only at hu);refine ag hG ?_ ?_
   ·(try simp only[ba]);unfold Cm.Roomy;omega
   (refine aK (ah ?_);refine ag hG ?_ ?_;·exact tt9);show ∃ z,_;refine q_l ?_;exact⟨k+1,by rw[wo];simp,D.minus_next c1.1 c2.1 hz (by omega) hn,by omega⟩
  ·intro hb0;(try simp only[bf] at hb0);refine aZ (aB ?_);refine av (au ?_);refine ah (s_q hG ?_ ?_)
   ·(try simp only[ba]);exact⟨hz.hl,by unfold CAP;omega⟩
   refine ay (q_e [] ?_);rw[(D.minus_fin c1 c2 c3 hz (by omega)).1]
def zH(B:aj):Tab:={types:= [(3,(.int .i64)),(181,(.slice (.int .i64)))],elems:= [(181,3)],cons:= [(183,nH)],hint:= [],N:=66,base:=B}
theorem HJ{B:aj}(hB:aC B):aI Tryz.prog (zH B):=⟨⟨tc ty3 (tc jV (ae)),aT (by kernel_rfl) (af),by simp only[zH,ioB];omega⟩,aG (cc Tryz.func183 (o7 hB) (aA)),by kernel_rfl⟩
def mX:Con:=fun l os=>match l,os with
 | [.z (.slice (.int .i64)) x,.z (.slice (.int .i64)) y],[]=>some (D.Lim x/\D.Wid y/\x.length+y.length<CAP,[.z (.slice (.int .i64)) (D.limbs (D.valL x*D.valL y).toNat)],[])
 |_,_=>none
theorem Cr{B:aj}(hB:aC B):Valid B Tryz.prog 164 mX:=by
 refine ab (HJ hB).tab Tryz.func164 rfl rfl rfl ?_;intro args os C rs os' hc hC;unfold mX at hc;split at hc;case h_2=>cases hc
 rename_i x y;cases hc;refine v_h (HJ hB) fun X hP hT hr hG=> ?_;have hU:=zH.eq_1;unfold zH at hT;have hX:= @nH.eq_1;simp only[Tryz.f164,aD,an,ioB];refine s_g hG ?_;refine s_q hG ?_ ?_
 ·try simp only[ba]
  rw[D.len_wrap hC.2.2];have c3:List.length x+List.length y<1000000000000:=hC.2.2;exact⟨by omega,by omega,by unfold Cm.Roomy;omega⟩
 refine ak (s_g hG ?_);refine ar (bj (fun(z:Nat×List Int)=>(⟨[(0,.l (.z (.slice (.int .i64)) x)),(1,.l (.z (.slice (.int .i64)) y)),(5,.l (.ownS 15)),(6,.l (.z (.int .i64) (z.1:Int)))],[(15,.arr (.int .i64) 3 z.2)]⟩:aa)) (fun z=>D.TimesPhi x y z.1 z.2) (fun z=>List.length x-z.1) (0,List.replicate (List.length x+List.length y) 0) ?_ ?_ ?_);·refine q_l ?_;exact⟨rfl,by rw[D.len_wrap hC.2.2,Int.toNat_natCast]⟩
 ·exact D.times_start
 ·rintro⟨i,out⟩ hz;try dsimp only at hz
  obtain⟨c1,c2,c3⟩:=hC;have c3:List.length x+List.length y<1000000000000:=c3;have hix:=hz.h1;have hil:=hz.h2;refine ak (s_g hG ?_);refine ao ?_ ?_
  ·(intro hb0;(try simp only[bt] at hb0);refine aq (ah ?_);refine ak (ar ?_);refine s_g hG ?_;refine s_g hG ?_;refine ar (bj (fun(z:Nat×Int×List Int)=>(⟨[(0,.l (.z (.slice (.int .i64)) x)),(1,.l (.z (.slice (.int .i64)) y)),(5,.l (.ownS 15)),(6,.l (.z (.int .i64) (i:Int))),(7,.l (.z (.int .i64) z.2.1)),(8,.l (.z (.int .i64) (z.1:Int)))],[(15,.arr (.int .i64) 3 z.2.2)]⟩:aa)) (fun z=>D.RowPhi x y i z.1 z.2.1 z.2.2) (fun z=>List.length y+1-z.1) (0,0,out) ?_ ?_ ?_);·refine q_l ?_;rfl);·exact D.row_start hz
   ·rintro⟨k,c,out2⟩ hk;(try dsimp only at hk);have hrb:=D.row_bound (c1.getD i) (c2.getD k) (hk.h3.getD (i+k)) hk.h4;have hk1:=hk.h1;have hk2:=hk.h2;(have hik:IntKind.i64.wrap ((i:Int)+(k:Int))=((i+k:Nat):Int):=by rw[wo];omega);refine ak (s_q hG ?_ ?_)
    ·try simp only[ba]
     (repeat' (first|apply And.intro|intro _))<;>(try simp only[decide_eq_true_eq,decide_eq_false_iff_not,Bool.not_eq_true',beq_iff_eq,Int.toNat_natCast] at*)<;>first|assumption|omega|trivial|(simp_all;done)|(simp_all;omega)
    refine ao ?_ ?_
    ·intro hb1;simp only[Bool.or_eq_true,decide_eq_true_eq] at hb1;(have hb1:k<List.length y∨0<c:=by omega);have hin:=(D.row_next c1 c2 (by omega) hk hb1 rfl).1;refine aq (ah ?_);refine ak (ar ?_);refine ct (fun(z:Unit)=>(⟨[(0,.l (.z (.slice (.int .i64)) x)),(1,.l (.z (.slice (.int .i64)) y)),(5,.l (.ownS 15)),(6,.l (.z (.int .i64) (i:Int))),(7,.l (.z (.int .i64) c)),(8,.l (.z (.int .i64) (k:Int))),(9,.l (.z (.int .i64) (out2.getD (i+k) 0+c)))],[(15,.arr (.int .i64) 3 out2)]⟩:aa)) (fun z=>True) ?_ ?_
     ·refine ag hG ?_ ?_
      ·(try simp only[ba]);rw[hik];omega
      show ∃ z,_;refine q_l ?_;rw[hik,Int.toNat_natCast];exact hrb.1
     rintro⟨⟩ hu;(try dsimp only at hu);refine ct (fun(z:Int)=>(⟨[(0,.l (.z (.slice (.int .i64)) x)),(1,.l (.z (.slice (.int .i64)) y)),(5,.l (.ownS 15)),(6,.l (.z (.int .i64) (i:Int))),(7,.l (.z (.int .i64) c)),(8,.l (.z (.int .i64) (k:Int))),(9,.l (.z (.int .i64) z))],[(15,.arr (.int .i64) 3 out2)]⟩:aa)) (fun z=>z=out2.getD (i+k) 0+c+x.getD i 0*y.getD k 0) ?_ ?_
     ·refine s_g hG ?_;refine ao ?_ ?_
      ·intro hb2;(try simp only[bt] at hb2);refine ib hG ?_ ?_
       ·(try simp only[ba]);exact⟨⟨by omega,by omega⟩,by omega,by omega⟩
       show ∃ z,_;refine q_l ?_;first|(rw[D.nth64,D.nth64,hrb.2.1];exact hrb.2.2.1)|(rw[D.getD_none (l:=y) (by omega),Int.mul_zero];exact(Int.add_zero _).symm)
      ·intro hb2;(try simp only[bf] at hb2);refine aq ?_;show ∃ z,_;refine q_l ?_;first|(rw[D.nth64,D.nth64,hrb.2.1];exact hrb.2.2.1)|(rw[D.getD_none (l:=y) (by omega),Int.mul_zero];exact(Int.add_zero _).symm)
     rintro n hn;(try dsimp only at hn);refine s_q hG ?_ ?_
     ·(try simp only[ba]);rw[hik];exact⟨by decide,by omega⟩
     refine ag hG ?_ ?_
     ·(try simp only[ba]);decide
     (refine aK (ah ?_);refine ag hG ?_ ?_;·exact tt9);show ∃ z,_;refine q_l ?_;obtain⟨q1,q2⟩:=D.row_next c1 c2 (by omega) hk hb1 hn;rw[hik,Int.toNat_natCast];exact⟨k+1,by rw[wo];simp,q2,by omega⟩
    ·(intro hb1;simp only[Bool.or_eq_false_iff,decide_eq_false_iff_not] at hb1;refine aZ (aB ?_);refine av (au ?_);refine aK (ah ?_);refine ag hG ?_ ?_;·exact tt9);show ∃ z,_;refine q_l ?_;exact⟨i+1,by rw[wo];simp,D.row_end (by omega) hk (by omega),by omega⟩
  ·intro hb0;(try simp only[bf] at hb0);refine aZ (aB ?_);refine av (au ?_);refine ah (s_q hG ?_ ?_)
   ·(try simp only[ba]);exact⟨hz.h3,by unfold CAP;omega⟩
   refine ay (q_e [] ?_);rw[D.times_fin hz (by omega)]
def zI(B:aj):Tab:={types:= [(5,(.int .u8)),(9,.str)],elems:= [],cons:= [],hint:= [],N:=6,base:=B}
theorem HM{B:aj}(hB:aC B):aI Tryz.prog (zI B):=⟨⟨tc ty5 (tc ty9 (ae)),af,by simp only[zI,ioB];omega⟩,bI rfl,by kernel_rfl⟩
def cM:Con:=fun l os=>match l,os with
 | [.z .str s],[]=>some (RF s,[.z .bool (decide (al s<0))],[])
 |_,_=>none
theorem kz{B:aj}(hB:aC B):Valid B Tryz.prog 157 cM:=by
 refine ab (HM hB).tab Tryz.func157 rfl rfl rfl ?_;intro args os C rs os' hc hC;unfold cM at hc;split at hc;case h_2=>cases hc
 rename_i s;cases hc;refine v_h (HM hB) fun X hP hT hr hG=> ?_;have hU:=zI.eq_1;unfold zI at hT;have hX:=Bool.not_true;simp only[Tryz.f157,aD,an,ioB];refine s_g hG ?_;refine s_q hG ?_ ?_
 ·try simp only[ba]
  exact⟨by omega,l5 hC⟩
 refine ay (q_e [] ?_);exact Fj hC
def zJ(B:aj):Tab:={types:= [(3,(.int .i64)),(5,(.int .u8)),(9,.str)],elems:= [],cons:= [],hint:= [],N:=11,base:=B}
theorem HN{B:aj}(hB:aC B):aI Tryz.prog (zJ B):=⟨⟨tc ty3 (tc ty5 (tc ty9 (ae))),af,by simp only[zJ,ioB];omega⟩,bI rfl,by kernel_rfl⟩
def o8:Con:=fun l os=>match l,os with
 | [.z .str s],[]=>some (RF s/\s.length<CAP,[.z (.int .i64) (c7 (al s))],[])
 |_,_=>none
theorem OW{B:aj}(hB:aC B):Valid B Tryz.prog 93 o8:=by
 refine ab (HN hB).tab Tryz.func93 rfl rfl rfl ?_;intro args os C rs os' hc hC;unfold o8 at hc;split at hc;case h_2=>cases hc
 rename_i s;cases hc;refine v_h (HN hB) fun X hP hT hr hG=> ?_;have hU:=zJ.eq_1;unfold zJ at hT;have hX:=Bool.not_true;simp only[Tryz.f93,aD,an,ioB];refine s_g hG ?_;refine ak (s_q hG ?_ ?_)
 ·try simp only[ba]
  exact⟨by omega,l5 hC.1⟩
 refine ao ?_ ?_
 ·intro hb0;try simp only[bt] at hb0
  refine s_g hG ?_;refine ay (az ?_);refine q_e [] ?_;obtain⟨t1,t2⟩:=vu hC.1 hb0;have hc:List.length s<1000000000000:=hC.2;rw[pP hC.1,wo];show (List.length s:Int)-1=((aw s [45]).length:Int);omega
 ·intro hb0;try simp only[bf] at hb0
  refine aq (ah ?_);refine s_g hG ?_;refine ay (q_e [] ?_);rw[pP hC.1,<- vv hC.1 hb0]
def zK(B:aj):Tab:={types:= [(3,(.int .i64)),(5,(.int .u8)),(9,.str),(181,(.slice (.int .i64)))],elems:= [(181,3)],cons:= [(183,nH)],hint:= [],N:=40,base:=B}
theorem HO{B:aj}(hB:aC B):aI Tryz.prog (zK B):=⟨⟨tc ty3 (tc ty5 (tc ty9 (tc jV (ae)))),aT (by kernel_rfl) (af),by simp only[zK,ioB];omega⟩,aG (cc Tryz.func183 (o7 hB) (aA)),by kernel_rfl⟩
def gO:Con:=fun l os=>match l,os with
 | [.z .str s],[]=>some (RF s/\s.length<CAP,[.z (.slice (.int .i64)) (D.limbs (al s).natAbs)],[])
 |_,_=>none
theorem kA{B:aj}(hB:aC B):Valid B Tryz.prog 156 gO:=by
 refine ab (HO hB).tab Tryz.func156 rfl rfl rfl ?_;intro args os C rs os' hc hC;unfold gO at hc;split at hc;case h_2=>cases hc
 rename_i s;cases hc;refine v_h (HO hB) fun X hP hT hr hG=> ?_;have hU:=zK.eq_1;unfold zK at hT;have hX:= @nH.eq_1;simp only[Tryz.f156,aD,an,ioB];refine s_g hG ?_;refine ct (fun(z:Unit)=>(⟨[(0,.l (.z .str (aw s [45])))],[]⟩:aa)) (fun z=>True) ?_ ?_
 ·refine s_q hG ?_ ?_
  ·(try simp only[ba]);exact⟨by omega,l5 hC.1⟩
  refine ao ?_ ?_
  ·intro hb0;(try simp only[bt] at hb0);refine ag hG ?_ ?_
   ·(try simp only[ba]);have:=l5 hC.1;omega
   show ∃ z,_;refine q_l ?_;first|exact(vu hC.1 hb0).1|exact vv hC.1 hb0
  ·intro hb0;(try simp only[bf] at hb0);refine aq ?_;show ∃ z,_;refine q_l ?_;first|exact(vu hC.1 hb0).1|exact vv hC.1 hb0
 rintro⟨⟩ hu;try dsimp only at hu
 obtain⟨d1,d2,d3⟩:=iW hC.1;have hl:=fA s [45];have hc:List.length s<1000000000000:=hC.2;refine s_g hG ?_;refine ak (s_g hG ?_);refine ar (bj (fun(z:Nat×List Int)=>(⟨[(0,.l (.z .str (aw s [45]))),(3,.l (.ownS 37)),(4,.l (.z (.int .i64) (((aw s [45]).length:Int)-4*(z.1:Int))))],[(37,.arr (.int .i64) 3 z.2)]⟩:aa)) (fun z=>D.ReadPhi (aw s [45]) z.1 z.2) (fun z=>(aw s [45]).length+4-4*z.1) (0,[]) ?_ ?_ ?_);·refine q_l ?_;exact⟨by show ((aw s [45]).length:Int)=((aw s [45]).length:Int)-4*((0:Nat):Int);omega,by unfold ioB;omega⟩
 ·exact D.read_start
 ·rintro⟨r,out⟩ hz;try dsimp only at hz
  have hz1:=hz.1;have hz4:=hz.2.2.2;refine ak (s_g hG ?_);refine ao ?_ ?_
  ·(intro hb1;(try simp only[bt] at hb1);refine aq (ah ?_);refine ak (ar ?_);refine s_g hG ?_;refine ak (s_g hG ?_);refine ar (bj (fun(z:Nat)=>(⟨[(0,.l (.z .str (aw s [45]))),(3,.l (.ownS 37)),(4,.l (.z (.int .i64) (((aw s [45]).length:Int)-4*(r:Int)))),(5,.l (.z (.int .i64) (D.part (aw s [45]) ((aw s [45]).length-4*(r+1)) z))),(6,.l (.z (.int .i64) (z:Int)))],[(37,.arr (.int .i64) 3 out)]⟩:aa)) (fun z=>(aw s [45]).length-4*(r+1)<=z/\z<=(aw s [45]).length-4*r) (fun z=>(aw s [45]).length-z) ((aw s [45]).length-4*(r+1)) ?_ ?_ ?_);·refine q_l ?_;exact D.read_le0 (by omega) (by omega));·omega
   ·rintro i hi;(try dsimp only at hi);refine ak (s_g hG ?_);refine ao ?_ ?_
    ·intro hb2;(try simp only[bt] at hb2);refine aq (ah ?_);refine ak (ar ?_);refine ag hG ?_ ?_
     ·(try simp only[ba]);exact⟨by omega,by omega⟩
     (refine aK (ah ?_);refine ag hG ?_ ?_;·exact tt9);show ∃ z,_;refine q_l ?_;rw[Int.toNat_natCast];exact⟨i+1,D.part_next d1 (by omega) (by omega) (by omega),by rw[wo];simp,by omega,by omega,by omega⟩
    ·intro hb2;(try simp only[bf] at hb2);refine aZ (aB ?_);refine av (au ?_);refine ah (ag hG ?_ ?_)
     ·(try simp only[ba]);unfold Cm.Roomy;omega
     (refine aK (ah ?_);refine ag hG ?_ ?_;·exact tt9);show ∃ z,_;refine q_l ?_;(have hie:i=(aw s [45]).length-4*r:=by omega);subst hie;exact⟨r+1,by rw[wo];show ((aw s [45]).length:Int)-4*(r:Int)-4=((aw s [45]).length:Int)-4*((r+1:Nat):Int);omega,D.read_next d1 hz (by omega),by omega⟩
  ·intro hb1;(try simp only[bf] at hb1);refine aZ (aB ?_);refine av (au ?_);refine ah (s_q hG ?_ ?_)
   ·(try simp only[ba]);exact⟨hz.2.1,by unfold CAP;omega⟩
   refine ay (q_e [] ?_);exact D.valL_limbs hz (by omega)
def zL(B:aj):Tab:={types:= [(3,(.int .i64)),(5,(.int .u8)),(9,.str),(47,(.slice (.int .u8))),(181,(.slice (.int .i64)))],elems:= [(47,5)],cons:= [],hint:= [],N:=49,base:=B}
theorem HP{B:aj}(hB:aC B):aI Tryz.prog (zL B):=⟨⟨tc ty3 (tc ty5 (tc ty9 (tc TW (tc jV (ae))))),aT (by kernel_rfl) (af),by simp only[zL,ioB];omega⟩,bI rfl,by kernel_rfl⟩
def fJ:Con:=fun l os=>match l,os with
 | [.z .bool neg,.z (.slice (.int .i64)) d],[]=>some (D.Cano d/\4*d.length<CAP,[.z .str (Lib.itoa (if neg=true then-D.valL d else D.valL d))],[])
 |_,_=>none
theorem mo{B:aj}(hB:aC B):Valid B Tryz.prog 158 fJ:=by
 refine ab (HP hB).tab Tryz.func158 rfl rfl rfl ?_;intro args os C rs os' hc hC;unfold fJ at hc;split at hc;case h_2=>cases hc
 rename_i neg d;cases hc;refine v_h (HP hB) fun X hP hT hr hG=> ?_;have hU:=zL.eq_1;unfold zL at hT;have hX:=Bool.not_true;simp only[Tryz.f158,aD,an,ioB];refine s_g hG ?_;refine ak (s_g hG ?_);refine ao ?_ ?_
 ·intro hb0;try simp only[bt] at hb0
  refine s_g hG ?_;refine ay (az ?_);refine q_e [] ?_;exact D.write_nil hb0
 ·intro hb0;simp only[beq_eq_false_iff_ne,ne_eq] at hb0;have hne:d≠ []:=by intro e;subst e;exact hb0 rfl
  obtain⟨c1,c2⟩:=hC;have c2:4*List.length d<1000000000000:=c2;have hbg:4000000000001<=maxLen:=by decide
  refine aq (ah ?_);refine s_g hG ?_;refine ak (s_g hG ?_);refine ar (bj (fun(z:Nat×List Int)=>(⟨[(0,.l (.z .bool neg)),(1,.l (.z (.slice (.int .i64)) d)),(5,.l (.ownS 42)),(6,.l (.z (.int .i64) ((z.1:Int)-1)))],[(42,.arr (.int .u8) 5 z.2)]⟩:aa)) (fun z=>z.1<=List.length d/\z.2=(D.dd (D.valL (List.drop z.1 d)).toNat).map fun b=>(b.toNat:Int)) (fun z=>z.1) (List.length d,[]) ?_ ?_ ?_);·refine q_l ?_;exact⟨wo,by unfold ioB;omega⟩
  ·exact D.write_phi0 d
  ·rintro⟨k,out⟩ hz;(try dsimp only at hz);have hz1:=hz.1;refine ak (s_g hG ?_);refine ao ?_ ?_
   ·(intro hb1;(try simp only[decide_eq_true_eq] at hb1);obtain⟨i,rfl⟩:∃ i,k=i+1:=⟨k-1,by omega⟩;(have ei:((i+1:Nat):Int)-1=(i:Int):=by omega);rw[ei];refine aq (ah ?_);refine ak (ar ?_);refine s_g hG ?_;refine ar (bj (fun(z:Nat×List Int)=>(⟨[(0,.l (.z .bool neg)),(1,.l (.z (.slice (.int .i64)) d)),(5,.l (.ownS 42)),(6,.l (.z (.int .i64) (i:Int))),(7,.l (.z (.int .i64) (D.unit z.1)))],[(42,.arr (.int .u8) 5 z.2)]⟩:aa)) (fun z=>D.WritePhi d i z.1 z.2) (fun z=>4-z.1) (0,out) ?_ ?_ ?_);·refine q_l ?_;decide);·exact D.write_start c1.1 hz.2
    ·rintro⟨j,out2⟩ hj;(try dsimp only at hj);refine ak (s_g hG ?_);refine ao ?_ ?_
     ·intro hb2;(try simp only[decide_eq_true_eq] at hb2);have hj4:=D.unit_pos hb2;refine aq (ah ?_);refine ak (ar ?_);refine ct (fun(z:Unit)=>(⟨[(0,.l (.z .bool neg)),(1,.l (.z (.slice (.int .i64)) d)),(5,.l (.ownS 42)),(6,.l (.z (.int .i64) (i:Int))),(7,.l (.z (.int .i64) (D.unit j))),(8,.l (.z (.int .u8) ((48+D.decimal (d.getD i 0) j:Nat):Int)))],[(42,.arr (.int .u8) 5 out2)]⟩:aa)) (fun z=>True) ?_ ?_
      ·refine ag hG ?_ ?_
       ·(try simp only[ba]);exact⟨⟨by omega,by omega⟩,fun h=>by rw[h] at hb2;exact absurd hb2 (by decide),by decide⟩
       show ∃ z,_;refine q_l ?_;exact D.decimal_code (c1.1.getD i) hj4
      rintro⟨⟩ hu;(try dsimp only at hu);refine s_q hG ?_ ?_
      ·(try simp only[ba]);simp[get?,del]
      refine ao ?_ ?_
      ·intro hb3;have hwl:=D.write_len c1.1 hj (by omega);refine ag hG ?_ ?_
       ·(try simp only[ba]);unfold Cm.Roomy;omega
       (refine aK (ah ?_);refine ag hG ?_ ?_;·exact tt9);show ∃ z,_;refine q_l ?_;exact⟨j+1,(D.unit_next hj4).1,by first|exact D.write_take c1.1 hj hj4 (D.cond_t hb3)|exact D.write_leave c1.1 hj hj4 (D.cond_f hb3),by omega⟩
      ·(intro hb3;refine aq (aK ?_);refine ah (ag hG ?_ ?_);·exact tt9);show ∃ z,_;refine q_l ?_;exact⟨j+1,(D.unit_next hj4).1,by first|exact D.write_take c1.1 hj hj4 (D.cond_t hb3)|exact D.write_leave c1.1 hj hj4 (D.cond_f hb3),by omega⟩
     ·(intro hb2;(try simp only[bf] at hb2);refine aZ (aB ?_);refine av (au ?_);refine aK (ah ?_);refine ag hG ?_ ?_;·exact tt9);show ∃ z,_;refine q_l ?_;(obtain rfl:j=4:=by have:=D.unit_end hb2;have:=hj.hj;omega);exact⟨i,wo,by omega,D.write_round c1.1 (by omega) hj,by omega⟩
   ·intro hb1;simp only[decide_eq_false_iff_not] at hb1;(obtain rfl:k=0:=by omega);have hz2:=hz.2;rw[List.drop_zero] at hz2;have hdl:=D.dd_len c1.1;subst hz2;refine aZ (aB ?_);refine av (au ?_);refine ah (ak ?_);refine s_g hG ?_;refine ao ?_ ?_
    ·intro hb4;refine s_q hG ?_ ?_
     ·(try simp only[ba]);rw[D.str_of_map];omega
     refine ay (az ?_);refine q_e [] ?_;rw[D.str_of_map,if_pos hb4];exact D.write_minus c1 hne
    ·intro hb4;refine aq (ah ?_);refine s_g hG ?_;refine ay (q_e [] ?_);rw[D.str_of_map,if_neg (by rw[hb4];decide)];exact D.write_text c1 hne
end Go.Proofs.YtdojbabpnaifoaaGreatDoor
end
section
namespace Go.Proofs
open Go.RowKit Go.Cm
def HQ:Con:=fun l os=>match l,os with
 | [.z .str s],[]=>some (chk s=0/\s.length<=9,[.z (.int .i64) (al s),.val .nilIface],[])
 |_,_=>none
theorem wt:∀ (l:List UInt8) (a:Nat),dL l->Lib.decFrom a l=some (l.foldl (fun n c=>n*10+(c.toNat-48)) a)
 | [],_,_=>rfl
 |c::l,a,hd=>by
  have h1:=hd c (by simp);rw[Lib.decFrom,Lib.digitVal,if_pos h1,List.foldl_cons];exact wt l _ (fun x hx=>hd x (by simp[hx]))
theorem OX{s:List UInt8}(h:chk s=0):Lib.atoi s=some (al s):=by
 obtain⟨d1,d2,d3,d4⟩:=E4 h;cases s with
 |nil=>exact absurd h (by decide)
 |cons b r=>
  unfold Lib.atoi;dsimp only;by_cases hb:b=45;·subst hb;obtain⟨p1,p2⟩:=qT r;rw[p2] at d1 d2;(have hne:r.isEmpty=false:=by cases r<;>simp at d2 ⊢);simp only[beq_self_eq_true,if_true,Lib.decNat,hne,Bool.false_eq_true,if_false,wt r 0 d1,Option.map_some];unfold al;rw[p1,p2];rfl
  ·have ht:aw (b::r) [45]=b::r:=by
    unfold aw du;rw[if_neg];intro e;simp at e;exact hb e
   rw[ht] at d1;obtain⟨p1,p2⟩:=vo d1;have h43:b≠43:=by
    intro e;subst e;have:=d1 43 (by simp);exact absurd this (by decide)
   rw[if_neg (by simpa using hb),if_neg (by simpa using h43),Lib.decNat,if_neg (by simp),wt _ 0 d1,Option.map_some];unfold al;rw[p1,p2];rfl
theorem OY{B:aj}(hB:aC B):Valid B Tryz.prog 182 HQ:=by
 intro args os C rs os' hc hC O w vals ρ0 hOn hIo hO hOI hargs hown hap;unfold HQ at hc;split at hc;case h_2=>cases hc
 rename_i s;cases hc;obtain⟨u,rfl,hu⟩:=ru hargs;rw[gw hu];obtain⟨h0,h1⟩:=hC;have hsz:(⟨s.toArray⟩:ByteArray).size=s.length:=by simp[ByteArray.size]
 refine(Tryz.strconv_Atoi ⟨s.toArray⟩ (al s) (by rw[hsz];omega) (by simpa using OX h0) w).mono fun e w' ⟨he,t,hw⟩=> ?_;have hb:Below w.heap.size w w':=by
  rw[hw];exact⟨rfl,rfl,rfl,by rw[Lib.bytesWorld_size];omega,fun k hk=>Lib.bytesWorld_at_old w _ _ k hk⟩
 subst he;exact oI (vs:= [.int .i64 (al s),.nilIface]) hb (fun H M=>⟨b4 (ρ:=fun _=>undef),rfl,trivial⟩)
end Go.Proofs
end
section
namespace Go.Proofs.YtdojbabpnaifoaaGreatDoor
open Go Go.Cm Go.Proofs
def HR(B:aj):Tab:={types:= [(3,(.int .i64)),(87,(.slice (.int .u32))),(161,(.int .u32))],elems:= [(87,161)],cons:= [],hint:= [],N:=56,base:=B}
theorem OZ{B:aj}(hB:aC B):aI Tryz.prog (HR B):=⟨⟨tc ty3 (tc js (tc gG (ae))),aT (by kernel_rfl) (af),by simp only[HR,ioB];omega⟩,bI rfl,by kernel_rfl⟩
def HS:Con:=fun l os=>match l,os with
 | [.z (.slice (.int .u32)) m,.z (.slice (.int .u32)) o],[]=>some (Cano m/\Cano o/\m.length+o.length<CAP,[.z (.slice (.int .u32)) (limbs (valL m+valL o).toNat)],[])
 |_,_=>none
theorem RT{B:aj}(hB:aC B):Valid B Tryz.prog 151 HS:=by
 refine ab (OZ hB).tab Tryz.func151 rfl rfl rfl ?_;intro args os C rs os' hc hC;unfold HS at hc;split at hc;case h_2=>cases hc
 rename_i m o;cases hc;refine v_h (OZ hB) fun X hP hT hr hG=> ?_;have hU:=HR.eq_1;unfold HR at hT;have hX:=Bool.not_true;simp only[Tryz.f151,aD,an,ioB];refine s_g hG ?_;refine ct (fun(z:List Int×List Int)=>(⟨[(0,.l (.z (.slice (.int .u32)) z.1)),(1,.l (.z (.slice (.int .u32)) z.2))],[]⟩:aa)) (fun z=>Cano z.1/\Cano z.2/\z.2.length<=z.1.length/\z.1.length<CAP/\valL z.1+valL z.2=valL m+valL o) ?_ ?_
 ·refine s_g hG ?_;refine ao ?_ ?_
  ·(intro hb0;(try simp only[bt] at hb0);refine ag hG ?_ ?_;·exact tt9);show ∃ z,_;refine q_l ?_;obtain⟨c1,c2,c3⟩:=hC;first|exact⟨c2,c1,by omega,by omega,Int.add_comm _ _⟩|exact⟨c1,c2,by omega,by omega⟩
  ·intro hb0;(try simp only[bf] at hb0);refine aq ?_;show ∃ z,_;refine q_l ?_;obtain⟨c1,c2,c3⟩:=hC;first|exact⟨c2,c1,by omega,by omega,Int.add_comm _ _⟩|exact⟨c1,c2,by omega,by omega⟩
 rintro⟨m,o⟩ ⟨h1,h2,h3,h4,h5⟩;try dsimp only at h1 h2 h3 h4 h5
 have h4:m.length<1000000000000:=h4;refine s_q hG ?_ ?_
 ·try simp only[ba]
  rw[wo];exact⟨by omega,by omega,by unfold Cm.Roomy;omega⟩
 refine s_g hG ?_;refine ak (s_g hG ?_);refine ar (bj (fun(z:Nat×Int×List Int)=>(⟨[(0,.l (.z (.slice (.int .u32)) m)),(1,.l (.z (.slice (.int .u32)) o)),(5,.l (.ownS 20)),(6,.l (.z (.int .u32) z.2.1)),(21,.l (.z (.slice (.int .u32)) m)),(22,.l (.z (.int .i64) (m.length:Int))),(23,.l (.z (.int .i64) (z.1:Int)))],[(20,.arr (.int .u32) 161 z.2.2)]⟩:aa)) (fun z=>z.1<=m.length/\z.2.2.length=z.1/\Lim z.2.2/\0<=z.2.1/\z.2.1<=1/\valL z.2.2+LB^z.1*z.2.1=valL (m.take z.1)+valL (o.take z.1)) (fun z=>m.length-z.1) (0,0,[]) ?_ ?_ ?_);·refine q_l ?_;exact⟨rfl,rfl⟩
 ·simp[Lim,valL]
 ·rintro⟨k,c,out⟩ ⟨g1,g2,g3,g4,g5,g6⟩;try dsimp only at g1 g2 g3 g4 g5 g6
  refine s_g hG ?_;refine ak (ao ?_ ?_)
  ·intro hb1;(try simp only[bt] at hb1);refine aq (ah ?_);refine ak (ar ?_);refine s_q hG ?_ ?_
   ·(try simp only[ba]);exact⟨by omega,hb1⟩
   refine s_g hG ?_;refine ct (fun(z:Int)=>(⟨[(0,.l (.z (.slice (.int .u32)) m)),(1,.l (.z (.slice (.int .u32)) o)),(5,.l (.ownS 20)),(9,.l (.z (.int .u32) z)),(21,.l (.z (.slice (.int .u32)) m)),(22,.l (.z (.int .i64) (m.length:Int))),(23,.l (.z (.int .i64) (k:Int)))],[(20,.arr (.int .u32) 161 out)]⟩:aa)) (fun z=>z=m.getD k 0+c+o.getD k 0) ?_ ?_
   ·refine s_g hG ?_;refine ao ?_ ?_
    ·intro hb2;(try simp only[bt] at hb2);refine ag hG ?_ ?_
     ·(try simp only[ba]);exact⟨by omega,hb2⟩
     show ∃ z,_;refine q_l ?_;have hw:=xm (h1.1.getD k) (h2.1.getD k) ⟨g4,g5⟩;first|exact hw.2|(rw[gB,hw.1,List.getD_eq_getElem?_getD (l:=o),List.getElem?_eq_none (by omega)];simp)
    ·intro hb2;(try simp only[bf] at hb2);refine aq ?_;show ∃ z,_;refine q_l ?_;have hw:=xm (h1.1.getD k) (h2.1.getD k) ⟨g4,g5⟩;first|exact hw.2|(rw[gB,hw.1,List.getD_eq_getElem?_getD (l:=o),List.getElem?_eq_none (by omega)];simp)
   rintro n hn;(try dsimp only at hn);refine s_g hG ?_;refine ag hG ?_ ?_
   ·(try simp only[ba]);exact⟨by omega,by unfold Cm.Roomy;omega⟩
   (refine aK (ah ?_);refine ag hG ?_ ?_;·exact tt9);show ∃ z,_;refine q_l ?_;obtain⟨q1,q2,q3,q4⟩:=E3 h1.1 h2.1 g2 g3 g4 g5 g6 hn;exact⟨k+1,by rw[wo];simp,by omega,by simp[g2],q1,q2,q3,q4,by omega⟩
  ·intro hb1;(try simp only[bf] at hb1);refine aZ (aB ?_);refine av (au ?_);refine ah (ct (fun(z:List Int)=>(⟨[(5,.l (.ownS 20))],[(20,.arr (.int .u32) 161 z)]⟩:aa)) (fun z=>z=limbs (valL m+valL o).toNat) ?_ ?_)
   ·refine s_g hG ?_;refine ao ?_ ?_
    ·intro hb3;(try simp only[bt] at hb3);refine ag hG ?_ ?_
     ·(try simp only[ba]);unfold Cm.Roomy;omega
     show ∃ z,_;refine q_l ?_;have he:=Ba (out:=out) (c:=c) h1 h2 h3 (by omega) g3 g4 g5 (by rw[show k=m.length by omega,List.take_length,List.take_of_length_le h3] at g6;exact g6);first|exact he.1 hb3|exact he.2 hb3
    ·intro hb3;(try simp only[bf] at hb3);refine aq ?_;show ∃ z,_;refine q_l ?_;have he:=Ba (out:=out) (c:=c) h1 h2 h3 (by omega) g3 g4 g5 (by rw[show k=m.length by omega,List.take_length,List.take_of_length_le h3] at g6;exact g6);first|exact he.1 hb3|exact he.2 hb3
   rintro out2 hout;(try dsimp only at hout);refine s_g hG ?_;refine ay (q_e [] ?_);rw[hout,h5]
def HT(B:aj):Tab:={types:= [(3,(.int .i64))],elems:= [],cons:= [],hint:= [],N:=6,base:=B}
theorem O0{B:aj}(hB:aC B):aI Tryz.prog (HT B):=⟨⟨tc ty3 (ae),af,by simp only[HT,ioB];omega⟩,bI rfl,by kernel_rfl⟩
def HU:Con:=fun l os=>match l,os with
 | [.z (.int .i64) a],[]=>some (True,[.z .bool false],[])
 |_,_=>none
theorem RU{B:aj}(hB:aC B):Valid B Tryz.prog 194 HU:=by
 refine ab (O0 hB).tab Tryz.func194 rfl rfl rfl ?_;intro args os C rs os' hc hC;unfold HU at hc;split at hc;case h_2=>cases hc
 rename_i a;cases hc;refine v_h (O0 hB) fun X hP hT hr hG=> ?_;have hU:=HT.eq_1;unfold HT at hT;have hX:=Bool.not_true;simp only[Tryz.f194,aD,an,ioB];refine s_g hG ?_;refine s_g hG ?_;refine ay (q_e [] ?_);trivial
def HV(B:aj):Tab:={types:= [(161,(.int .u32))],elems:= [],cons:= [],hint:= [],N:=6,base:=B}
theorem O1{B:aj}(hB:aC B):aI Tryz.prog (HV B):=⟨⟨tc gG (ae),af,by simp only[HV,ioB];omega⟩,bI rfl,by kernel_rfl⟩
def HW:Con:=fun l os=>match l,os with
 | [.z (.int .u32) a],[]=>some (True,[.z .bool false],[])
 |_,_=>none
theorem RW{B:aj}(hB:aC B):Valid B Tryz.prog 195 HW:=by
 refine ab (O1 hB).tab Tryz.func195 rfl rfl rfl ?_;intro args os C rs os' hc hC;unfold HW at hc;split at hc;case h_2=>cases hc
 rename_i a;cases hc;refine v_h (O1 hB) fun X hP hT hr hG=> ?_;have hU:=HV.eq_1;unfold HV at hT;have hX:=Bool.not_true;simp only[Tryz.f195,aD,an,ioB];refine s_g hG ?_;refine s_g hG ?_;refine ay (q_e [] ?_);trivial
def HY(B:aj):Tab:={types:= [(3,(.int .i64))],elems:= [],cons:= [(194,HU)],hint:= [],N:=20,base:=B}
theorem O2{B:aj}(hB:aC B):aI Tryz.prog (HY B):=⟨⟨tc ty3 (ae),af,by simp only[HY,ioB];omega⟩,aG (cc Tryz.func194 (RU hB) (aA)),by kernel_rfl⟩
def x8:Con:=fun l os=>match l,os with
 | [.z (.int .i64) a,.z (.int .i64) b],[]=>some (True,[.z (.int .i64) (bg a b)],[])
 |_,_=>none
theorem HZ{B:aj}(hB:aC B):Valid B Tryz.prog 180 x8:=by
 refine ab (O2 hB).tab Tryz.func180 rfl rfl rfl ?_;intro args os C rs os' hc hC;unfold x8 at hc;split at hc;case h_2=>cases hc
 rename_i a b;cases hc;refine v_h (O2 hB) fun X hP hT hr hG=> ?_;have hU:=HY.eq_1;unfold HY at hT;have hX:= @HU.eq_1;simp only[Tryz.f180,aD,an,ioB];refine s_g hG ?_;refine s_g hG ?_;refine s_g hG ?_;refine ak (s_g hG ?_);refine ao ?_ ?_;·intro hb0;cases hb0
 ·intro hb0;try simp only[bf] at hb0
  refine aq (ah ?_);refine ak (s_g hG ?_);refine ao ?_ ?_;·intro hb1;cases hb1
  ·intro hb1;(try simp only[bf] at hb1);refine aq (ah ?_);refine ak (s_g hG ?_);refine ao ?_ ?_;·intro hb2;(try simp only[bt] at hb2);refine s_g hG ?_;refine ay (az ?_);refine q_e [] ?_;rw[bg,if_pos hb2]
   ·(intro hb2;(try simp only[bf] at hb2);refine aq (ah ?_);refine ak (s_g hG ?_);refine ao ?_ ?_;·intro hb3;(try simp only[bt] at hb3);refine s_g hG ?_;refine ay (az ?_);refine q_e [] ?_;rw[bg,if_neg (by omega),if_pos hb3]);·intro hb3;(try simp only[bf] at hb3);refine aq (ah ?_);refine s_g hG ?_;refine ay (q_e [] ?_);rw[bg,if_neg hb2,if_neg hb3]
def H0(B:aj):Tab:={types:= [(161,(.int .u32))],elems:= [],cons:= [(195,HW)],hint:= [],N:=20,base:=B}
theorem O3{B:aj}(hB:aC B):aI Tryz.prog (H0 B):=⟨⟨tc gG (ae),af,by simp only[H0,ioB];omega⟩,aG (cc Tryz.func195 (RW hB) (aA)),by kernel_rfl⟩
def H1:Con:=fun l os=>match l,os with
 | [.z (.int .u32) a,.z (.int .u32) b],[]=>some (True,[.z (.int .i64) (bg a b)],[])
 |_,_=>none
theorem RX{B:aj}(hB:aC B):Valid B Tryz.prog 181 H1:=by
 refine ab (O3 hB).tab Tryz.func181 rfl rfl rfl ?_;intro args os C rs os' hc hC;unfold H1 at hc;split at hc;case h_2=>cases hc
 rename_i a b;cases hc;refine v_h (O3 hB) fun X hP hT hr hG=> ?_;have hU:=H0.eq_1;unfold H0 at hT;have hX:= @HW.eq_1;simp only[Tryz.f181,aD,an,ioB];refine s_g hG ?_;refine s_g hG ?_;refine s_g hG ?_;refine ak (s_g hG ?_);refine ao ?_ ?_;·intro hb0;cases hb0
 ·intro hb0;try simp only[bf] at hb0
  refine aq (ah ?_);refine ak (s_g hG ?_);refine ao ?_ ?_;·intro hb1;cases hb1
  ·intro hb1;(try simp only[bf] at hb1);refine aq (ah ?_);refine ak (s_g hG ?_);refine ao ?_ ?_;·intro hb2;(try simp only[bt] at hb2);refine s_g hG ?_;refine ay (az ?_);refine q_e [] ?_;rw[bg,if_pos hb2]
   ·(intro hb2;(try simp only[bf] at hb2);refine aq (ah ?_);refine ak (s_g hG ?_);refine ao ?_ ?_;·intro hb3;(try simp only[bt] at hb3);refine s_g hG ?_;refine ay (az ?_);refine q_e [] ?_;rw[bg,if_neg (by omega),if_pos hb3]);·intro hb3;(try simp only[bf] at hb3);refine aq (ah ?_);refine s_g hG ?_;refine ay (q_e [] ?_);rw[bg,if_neg hb2,if_neg hb3]
def H2(B:aj):Tab:={types:= [(3,(.int .i64)),(87,(.slice (.int .u32))),(89,tyW),(161,(.int .u32))],elems:= [],cons:= [],hint:= [],N:=30,base:=B}
theorem O4{B:aj}(hB:aC B):aI Tryz.prog (H2 B):=⟨⟨tc ty3 (tc js (tc iJ (tc gG (ae)))),af,by simp only[H2,ioB];omega⟩,bI rfl,by kernel_rfl⟩
def eI:Con:=fun l os=>match l,os with
 | [.z .bool s,.z (.slice (.int .u32)) m],[]=>some (Lim m/\m.length<CAP,[.z tyW (enc (dec (s,m)))],[])
 |_,_=>none
theorem lu{B:aj}(hB:aC B):Valid B Tryz.prog 150 eI:=by
 refine ab (O4 hB).tab Tryz.func150 rfl rfl rfl ?_;intro args os C rs os' hc hC;unfold eI at hc;split at hc;case h_2=>cases hc
 rename_i s m;cases hc;refine v_h (O4 hB) fun X hP hT hr hG=> ?_;have hU:=H2.eq_1;unfold H2 at hT;have hX:=Bool.not_true;simp only[Tryz.f150,aD,an,ioB];refine s_g hG ?_;refine ak (ar ?_);refine bj (fun(z:List Int)=>(⟨[(0,.l (.z .bool s)),(1,.l (.z (.slice (.int .u32)) z)),(4,.l (.ownP 4 0))],[(4,.box 89 [.z .bool false,.val (.slice none 0 0)])]⟩:aa)) (fun z=>Lim z/\valL z=valL m/\z.length<=m.length) (fun z=>z.length) m ?_ ?_ ?_;·simp only[ml0,ml1,Nat.reduceLT,Nat.reduceEqDiff,Nat.reduceAdd,Nat.reduceMul,Nat.reduceSub,Nat.reduceLeDiff,Nat.reduceBEq,Nat.reduceBNe,reduceIte,reduceDIte,reduceCtorEq]
 ·exact⟨hC.1,rfl,Nat.le_refl _⟩
 ·rintro z ⟨g1,g2,g3⟩;try dsimp only at g1 g2 g3
  have h4:z.length<1000000000000:=Nat.lt_of_le_of_lt g3 hC.2;refine ak (s_q hG ?_ ?_)
  ·(try simp only[ba]);exact⟨id,id,fun h=>⟨h,by simp only[decide_eq_true_eq] at h;rw[wo];omega⟩,id⟩
  refine ao ?_ ?_
  ·intro hb0;(try simp only[bt] at hb0);refine aq (ah ?_);refine ar (ag hG ?_ ?_)
   ·(try simp only[ba]);rw[wo];omega
   refine aK ?_;show ∃ z,_;refine q_l ?_;exact whole_round g1 g2 g3 hb0.1 h4 hb0.2
  ·intro hb0;(try simp only[bf] at hb0);refine aZ (aB ?_);refine av (au ?_);refine ah (s_q hG ?_ ?_)
   ·(try simp only[ba]);exact id
   refine ay (q_e [] ?_);refine Jv g1 g2 fun hz h0=> ?_;have:=hb0 (by simp;omega);rw[wo,last_eq hz] at this;exact this h0
def H3(B:aj):Tab:={types:= [(4,.bool),(87,(.slice (.int .u32))),(89,tyW)],elems:= [],cons:= [(150,eI)],hint:= [],N:=9,base:=B}
theorem O5{B:aj}(hB:aC B):aI Tryz.prog (H3 B):=⟨⟨tc ty4 (tc js (tc iJ (ae))),af,by simp only[H3,ioB];omega⟩,aG (cc Tryz.func150 (lu hB) (aA)),by kernel_rfl⟩
def Ct:Con:=fun l os=>match l,os with
 | [.z (.st (.pair .bool (.slice (.int .u32)))) x],[]=>some (Lim x.2/\x.2.length<CAP,[.z tyW (enc (-dec x))],[])
 |_,_=>none
theorem zM{B:aj}(hB:aC B):Valid B Tryz.prog 148 Ct:=by
 refine ab (O5 hB).tab Tryz.func148 rfl rfl rfl ?_;intro args os C rs os' hc hC;unfold Ct at hc;split at hc;case h_2=>cases hc
 rename_i x;cases hc;refine v_h (O5 hB) fun X hP hT hr hG=> ?_;have hU:=H3.eq_1;unfold H3 at hT;have hX:= @eI.eq_1;simp only[Tryz.f148,aD,an,ioB];refine s_g hG ?_;refine s_q hG ?_ ?_
 ·try simp only[ba]
  exact hC
 refine ay (q_e [] ?_);rw[GS]
def H4(B:aj):Tab:={types:= [(3,(.int .i64)),(4,.bool),(87,(.slice (.int .u32))),(89,tyW)],elems:= [],cons:= [],hint:= [],N:=11,base:=B}
theorem O6{B:aj}(hB:aC B):aI Tryz.prog (H4 B):=⟨⟨tc ty3 (tc ty4 (tc js (tc iJ (ae)))),af,by simp only[H4,ioB];omega⟩,bI rfl,by kernel_rfl⟩
def ra:Con:=fun l os=>match l,os with
 | [.z (.st (.pair .bool (.slice (.int .u32)))) x],[]=>some (WOK x,[.z (.int .i64) (bg (dec x) 0)],[])
 |_,_=>none
theorem zO{B:aj}(hB:aC B):Valid B Tryz.prog 154 ra:=by
 refine ab (O6 hB).tab Tryz.func154 rfl rfl rfl ?_;intro args os C rs os' hc hC;unfold ra at hc;split at hc;case h_2=>cases hc
 rename_i x;cases hc;refine v_h (O6 hB) fun X hP hT hr hG=> ?_;have hU:=H4.eq_1;unfold H4 at hT;have hX:=Bool.not_true;simp only[Tryz.f154,aD,an,ioB];refine s_g hG ?_;refine ak (ar ?_);refine s_g hG ?_;refine ao ?_ ?_
 ·intro hb0;try simp only[bt] at hb0
  refine s_g hG ?_;refine ay (bl ?_);refine az (q_e [] ?_);rw[bg,if_neg (by have:=(gC hC).1.1 hb0;omega),if_neg (by have:=(gC hC).1.1 hb0;omega)]
 ·intro hb0;try simp only[bf] at hb0
  refine s_g hG ?_;refine ao ?_ ?_;·intro hb1;(try simp only[bt] at hb1);refine s_g hG ?_;refine ay (bl ?_);refine az (q_e [] ?_);rw[bg,if_pos (((gC hC).2 hb0).1 hb1)]
  ·intro hb1;(try simp only[bf] at hb1);refine aq (aK ?_);refine ah (s_g hG ?_);refine ay (q_e [] ?_);have:=((gC hC).2 hb0).2 hb1;rw[bg,if_neg (by omega),if_pos this]
def H5(B:aj):Tab:={types:= [(3,(.int .i64)),(87,(.slice (.int .u32))),(161,(.int .u32))],elems:= [],cons:= [(180,x8),(181,H1)],hint:= [],N:=35,base:=B}
theorem O7{B:aj}(hB:aC B):aI Tryz.prog (H5 B):=⟨⟨tc ty3 (tc js (tc gG (ae))),af,by simp only[H5,ioB];omega⟩,aG (cc Tryz.func180 (HZ hB) (cc Tryz.func181 (RX hB) (aA))),by kernel_rfl⟩
def fC:Con:=fun l os=>match l,os with
 | [.z (.slice (.int .u32)) m,.z (.slice (.int .u32)) o],[]=>some (Cano m/\Cano o/\m.length+o.length<CAP,[.z (.int .i64) (bg (valL m) (valL o))],[])
 |_,_=>none
theorem zP{B:aj}(hB:aC B):Valid B Tryz.prog 152 fC:=by
 refine ab (O7 hB).tab Tryz.func152 rfl rfl rfl ?_;intro args os C rs os' hc hC;unfold fC at hc;split at hc;case h_2=>cases hc
 rename_i m o;cases hc;refine v_h (O7 hB) fun X hP hT hr hG=> ?_;have hU:=H5.eq_1;unfold H5 at hT;have hX:=ai @x8.eq_1<| @H1.eq_1;simp only[Tryz.f152,aD,an,ioB];refine s_g hG ?_;refine ak (s_g hG ?_);refine s_g hG ?_;refine ao ?_ ?_
 ·intro hb0;try simp only[bt] at hb0
  refine s_g hG ?_;refine ay (az ?_);refine q_e [] ?_;exact cmp_lens hC.1 hC.2.1 hb0
 ·intro hb0;try simp only[decide_eq_true_eq,decide_eq_false_iff_not,bne_eq_false_iff_eq] at hb0
  obtain⟨c1,c2,c3⟩:=hC;have c3:List.length m+List.length o<1000000000000:=c3;have hl:List.length m=List.length o:=by have:=oJ.1 hb0;omega
  refine aq (ah ?_);refine ak (s_g hG ?_);refine ar (bj (fun(z:Nat)=>(⟨[(0,.l (.z (.slice (.int .u32)) m)),(1,.l (.z (.slice (.int .u32)) o)),(6,.l (.z (.int .i64) ((z:Int)-1)))],[]⟩:aa)) (fun z=>z<=List.length m/\List.drop z m=List.drop z o) (fun z=>z) (List.length m) ?_ ?_ ?_);·refine q_l ?_;exact wo
  ·exact⟨Nat.le_refl _,by rw[List.drop_length,List.drop_of_length_le (by omega)]⟩
  ·rintro k ⟨g1,g2⟩;(try dsimp only at g1 g2);refine ak (s_g hG ?_);refine ao ?_ ?_
   ·intro hb1;(try simp only[bt] at hb1);refine aq (ah ?_);refine ak (ar ?_);refine s_d hG ?_ ?_
    ·(try simp only[ba]);omega
    refine s_g hG ?_;refine ao ?_ ?_;·intro hb2;(try simp only[bt] at hb2);refine s_g hG ?_;refine ay (bl ?_);refine az (c6 ?_);refine bl (az ?_);refine q_e [] ?_;obtain⟨j,rfl⟩:∃ j,k=j+1:=⟨k-1,by omega⟩;(have hk:((j+1:Nat):Int)-1=(j:Int):=by omega);rw[hk] at hb2 ⊢;exact cmp_place (k:=j) c1 c2 hl (by omega) g2 hb2
    ·(intro hb2;(try simp only[bf] at hb2);refine aq (aK ?_);refine ah (ag hG ?_ ?_);·exact tt9);show ∃ z,_;refine q_l ?_;(have hk:(k:Int)-1=((k-1:Nat):Int):=by omega);refine⟨k-1,by rw[hk,wo],by omega,?_,by omega⟩;refine drop_step (k:=k-1) hl (by omega) (by rw[show k-1+1=k by omega];exact g2) ?_;rw[hk] at hb2;exact oJ.1 hb2
   ·intro hb1;(try simp only[bf] at hb1);refine aZ (aB ?_);refine av (au ?_);refine ah (s_g hG ?_);refine ay (q_e [] ?_);(have:k=0:=by omega);subst this;simp only[List.drop_zero] at g2;rw[g2];simp[bg]
def H6(B:aj):Tab:={types:= [(2,(.int .i64)),(3,(.int .i64)),(87,(.slice (.int .u32))),(161,(.int .u32))],elems:= [(87,161)],cons:= [],hint:= [],N:=46,base:=B}
theorem O8{B:aj}(hB:aC B):aI Tryz.prog (H6 B):=⟨⟨tc ty2 (tc ty3 (tc js (tc gG (ae)))),aT (by kernel_rfl) (af),by simp only[H6,ioB];omega⟩,bI rfl,by kernel_rfl⟩
def zQ:Con:=fun l os=>match l,os with
 | [.z (.slice (.int .u32)) m,.z (.slice (.int .u32)) o],[]=>some (Cano m/\Cano o/\valL o<=valL m/\m.length<CAP,[.z (.slice (.int .u32)) (padL (valL m-valL o).toNat m.length)],[])
 |_,_=>none
theorem RY{B:aj}(hB:aC B):Valid B Tryz.prog 153 zQ:=by
 refine ab (O8 hB).tab Tryz.func153 rfl rfl rfl ?_;intro args os C rs os' hc hC;unfold zQ at hc;split at hc;case h_2=>cases hc
 rename_i m o;cases hc;refine v_h (O8 hB) fun X hP hT hr hG=> ?_;have hU:=H6.eq_1;unfold H6 at hT;have hX:=Bool.not_true;simp only[Tryz.f153,aD,an,ioB];refine s_g hG ?_;refine s_q hG ?_ ?_
 ·try simp only[ba]
  exact⟨by omega,by omega,by have:List.length m<1000000000000:=hC.2.2.2;unfold Cm.Roomy;omega⟩
 refine s_g hG ?_;refine ak (s_g hG ?_);refine ar (bj (fun(z:Nat×Int×List Int)=>(⟨[(1,.l (.z (.slice (.int .u32)) o)),(5,.l (.ownS 12)),(6,.l (.z (.int .i64) z.2.1)),(13,.l (.z (.slice (.int .u32)) m)),(14,.l (.z (.int .i64) (List.length m:Int))),(15,.l (.z (.int .i64) (z.1:Int)))],[(12,.arr (.int .u32) 161 z.2.2)]⟩:aa)) (fun z=>z.1<=List.length m/\z.2.2.length=z.1/\Lim z.2.2/\0<=z.2.1/\z.2.1<=1/\valL z.2.2+valL (List.take z.1 o)=valL (List.take z.1 m)+LB^z.1*z.2.1) (fun z=>List.length m-z.1) (0,0,[]) ?_ ?_ ?_);·refine q_l ?_;exact⟨rfl,rfl⟩
 ·simp[Lim,valL]
 ·rintro⟨k,b,out⟩ ⟨g1,g2,g3,g4,g5,g6⟩;try dsimp only at g1 g2 g3 g4 g5 g6
  obtain⟨c1,c2,c3,c4⟩:=hC;have c4:List.length m<1000000000000:=c4;have hx:=c1.1.getD k;have hy:=c2.1.getD k;have hB:LB=1000000000:=rfl;refine s_g hG ?_;refine ak (ao ?_ ?_)
  ·intro hb0;(try simp only[bt] at hb0);refine aq (ah ?_);refine ak (ar ?_);refine s_q hG ?_ ?_
   ·(try simp only[ba]);exact⟨by omega,by omega⟩
   refine s_g hG ?_;refine ct (fun(z:Int)=>(⟨[(1,.l (.z (.slice (.int .u32)) o)),(5,.l (.ownS 12)),(9,.l (.z (.int .i64) z)),(13,.l (.z (.slice (.int .u32)) m)),(14,.l (.z (.int .i64) (List.length m:Int))),(15,.l (.z (.int .i64) (k:Int)))],[(12,.arr (.int .u32) 161 out)]⟩:aa)) (fun z=>z=List.getD m k 0-b-List.getD o k 0) ?_ ?_
   ·refine s_g hG ?_;refine ao ?_ ?_
    ·intro hb1;(try simp only[bt] at hb1);refine ag hG ?_ ?_
     ·(try simp only[ba]);exact⟨by omega,by omega⟩
     show ∃ z,_;refine q_l ?_;rw[gB,wi (x:=List.getD m k 0) (by omega) (by omega),wi (x:=List.getD m k 0-b) (by omega) (by omega)];first|(rw[gB,wi (x:=List.getD o k 0) (by omega) (by omega)];exact wo)|(rw[List.getD_eq_getElem?_getD (l:=o),List.getElem?_eq_none (by omega)];simp)
    ·intro hb1;(try simp only[bf] at hb1);refine aq ?_;show ∃ z,_;refine q_l ?_;rw[gB,wi (x:=List.getD m k 0) (by omega) (by omega),wi (x:=List.getD m k 0-b) (by omega) (by omega)];first|(rw[gB,wi (x:=List.getD o k 0) (by omega) (by omega)];exact wo)|(rw[List.getD_eq_getElem?_getD (l:=o),List.getElem?_eq_none (by omega)];simp)
   rintro n hn;(try dsimp only at hn);refine s_g hG ?_;refine ct (fun(z:Int×Int)=>(⟨[(1,.l (.z (.slice (.int .u32)) o)),(5,.l (.ownS 12)),(6,.l (.z (.int .i64) z.2)),(9,.l (.z (.int .i64) z.1)),(13,.l (.z (.slice (.int .u32)) m)),(14,.l (.z (.int .i64) (List.length m:Int))),(15,.l (.z (.int .i64) (k:Int)))],[(12,.arr (.int .u32) 161 out)]⟩:aa)) (fun z=>0<=z.1/\z.1<LB/\0<=z.2/\z.2<=1/\z.1-LB*z.2=n) ?_ ?_
   ·refine s_g hG ?_;refine ao ?_ ?_
    ·(intro hb2;(try simp only[bt] at hb2);refine ag hG ?_ ?_;·exact tt9);show ∃ z,_;refine q_l ?_;first|(rw[wo];exact⟨by omega,by omega,by omega,by omega,by omega⟩)|exact⟨by omega,by omega,by omega,by omega,by omega⟩
    ·intro hb2;(try simp only[bf] at hb2);refine aq ?_;show ∃ z,_;refine q_l ?_;first|(rw[wo];exact⟨by omega,by omega,by omega,by omega,by omega⟩)|exact⟨by omega,by omega,by omega,by omega,by omega⟩
   rintro⟨n2,b2⟩ hn2;(try dsimp only at hn2);refine ag hG ?_ ?_
   ·(try simp only[ba]);unfold Cm.Roomy;omega
   (refine aK (ah ?_);refine ag hG ?_ ?_;·exact tt9);show ∃ z,_;refine q_l ?_;obtain⟨hn1,hn2,hn3,hn4,hn5⟩:=hn2;rw[w32 hn1 (by omega)];obtain⟨q1,q2⟩:=minus_round (b:=b) g2 g3 g6 hn1 hn2 (b':=b2) (by omega);exact⟨k+1,by rw[wo];simp,by omega,by simp[g2],q1,hn3,hn4,q2,by omega⟩
  ·intro hb0;(try simp only[bf] at hb0);refine aZ (aB ?_);refine av (au ?_);refine ah (s_g hG ?_);refine ay (q_e [] ?_);(have hk:k=List.length m:=by omega);subst hk;exact minus_end c1 c2 c3 g2 g3 g4 (by rw[List.take_length] at g6;exact g6)
def H7(B:aj):Tab:={types:= [(3,(.int .i64)),(4,.bool),(87,(.slice (.int .u32))),(89,tyW)],elems:= [],cons:= [(150,eI),(151,HS),(152,fC),(153,zQ)],hint:= [],N:=42,base:=B}
theorem O9{B:aj}(hB:aC B):aI Tryz.prog (H7 B):=⟨⟨tc ty3 (tc ty4 (tc js (tc iJ (ae)))),af,by simp only[H7,ioB];omega⟩,aG (cc Tryz.func150 (lu hB) (cc Tryz.func151 (RT hB) (cc Tryz.func152 (zP hB) (cc Tryz.func153 (RY hB) (aA))))),by kernel_rfl⟩
def Cu:Con:=fun l os=>match l,os with
 | [.z (.st (.pair .bool (.slice (.int .u32)))) x,.z (.st (.pair .bool (.slice (.int .u32)))) y],[]=>some (WOK x/\WOK y/\x.2.length+y.2.length<CAP,[.z tyW (enc (dec x+dec y))],[])
 |_,_=>none
theorem zR{B:aj}(hB:aC B):Valid B Tryz.prog 110 Cu:=by
 refine ab (O9 hB).tab Tryz.func110 rfl rfl rfl ?_;intro args os C rs os' hc hC;unfold Cu at hc;split at hc;case h_2=>cases hc
 rename_i x y;cases hc;refine v_h (O9 hB) fun X hP hT hr hG=> ?_;have hU:=H7.eq_1;unfold H7 at hT;have hX:=ai @fC.eq_1<|ai @zQ.eq_1<|ai @HS.eq_1<| @eI.eq_1;simp only[Tryz.f110,aD,an,ioB];refine s_g hG ?_;refine ak (ar ?_);refine s_g hG ?_;refine ao ?_ ?_
 ·intro hb0;try simp only[bt] at hb0
  refine s_d hG ?_ ?_
  ·(try simp only[ba]);obtain⟨c1,c2,c3⟩:=hC;exact⟨⟨c1.1,c2.1,c3⟩,(limbs_can _).1,Nat.lt_of_le_of_lt (plus_len c1.1 c2.1) c3⟩
  refine ay (bl ?_);refine az (q_e [] ?_);exact add_same hC.1 hC.2.1 hb0
 ·intro hb0;try simp only[bf] at hb0
  refine s_q hG ?_ ?_
  ·(try simp only[ba]);obtain⟨c1,c2,c3⟩:=hC;exact⟨c1.1,c2.1,c3⟩
  refine ao ?_ ?_
  ·intro hb1;(try simp only[bt] at hb1);refine s_d hG ?_ ?_
   ·(try simp only[ba]);obtain⟨c1,c2,c3⟩:=hC;rw[oK] at hb1;exact⟨⟨c2.1,c1.1,by omega,by omega⟩,padL_lim _ _,by rw[padL_len];omega⟩
   refine ay (bl ?_);refine az (q_e [] ?_);rw[oK] at hb1;rw[Bb (fun e=>hb0 e.symm) (minus_val hC.2.1.1 hC.1.1 (by omega)),Int.add_comm]
  ·intro hb1;(try simp only[bf] at hb1);refine aq (aK ?_);refine ah (s_d hG ?_ ?_)
   ·(try simp only[ba]);obtain⟨c1,c2,c3⟩:=hC;rw[oK] at hb1;exact⟨⟨c1.1,c2.1,by omega,by omega⟩,padL_lim _ _,by rw[padL_len];omega⟩
   refine ay (q_e [] ?_);rw[oK] at hb1;exact Bb hb0 (minus_val hC.1.1 hC.2.1.1 (by omega))
def H8(B:aj):Tab:={types:= [(89,tyW)],elems:= [],cons:= [(110,Cu),(148,Ct)],hint:= [],N:=9,base:=B}
theorem Pa{B:aj}(hB:aC B):aI Tryz.prog (H8 B):=⟨⟨tc iJ (ae),af,by simp only[H8,ioB];omega⟩,aG (cc Tryz.func110 (zR hB) (cc Tryz.func148 (zM hB) (aA))),by kernel_rfl⟩
def RZ:Con:=fun l os=>match l,os with
 | [.z (.st (.pair .bool (.slice (.int .u32)))) x,.z (.st (.pair .bool (.slice (.int .u32)))) y],[]=>some (WOK x/\WOK y/\x.2.length+y.2.length<CAP,[.z tyW (enc (dec x-dec y))],[])
 |_,_=>none
theorem R0{B:aj}(hB:aC B):Valid B Tryz.prog 179 RZ:=by
 refine ab (Pa hB).tab Tryz.func179 rfl rfl rfl ?_;intro args os C rs os' hc hC;unfold RZ at hc;split at hc;case h_2=>cases hc
 rename_i x y;cases hc;refine v_h (Pa hB) fun X hP hT hr hG=> ?_;have hU:=H8.eq_1;unfold H8 at hT;have hX:=ai @Cu.eq_1<| @Ct.eq_1;simp only[Tryz.f179,aD,an,ioB];refine s_g hG ?_;refine s_d hG ?_ ?_
 ·try simp only[ba]
  obtain⟨c1,c2,c3⟩:=hC;exact⟨⟨c2.1.1,by omega⟩,c1,enc_ok _,by rw[Qm c2];exact c3⟩
 refine ay (q_e [] ?_);rw[b5];rfl
def H9(B:aj):Tab:={types:= [(3,(.int .i64)),(4,.bool),(87,(.slice (.int .u32))),(89,tyW),(161,(.int .u32)),(164,(.int .u64))],elems:= [(87,161)],cons:= [(150,eI)],hint:= [],N:=79,base:=B}
theorem Pb{B:aj}(hB:aC B):aI Tryz.prog (H9 B):=⟨⟨tc ty3 (tc ty4 (tc js (tc iJ (tc gG (tc oP (ae)))))),aT (by kernel_rfl) (af),by simp only[H9,ioB];omega⟩,aG (cc Tryz.func150 (lu hB) (aA)),by kernel_rfl⟩
def Cv:Con:=fun l os=>match l,os with
 | [.z (.st (.pair .bool (.slice (.int .u32)))) x,.z (.st (.pair .bool (.slice (.int .u32)))) y],[]=>some (WOK x/\WOK y/\x.2.length+y.2.length<CAP,[.z tyW (enc (dec x*dec y))],[])
 |_,_=>none
theorem zS{B:aj}(hB:aC B):Valid B Tryz.prog 109 Cv:=by
 refine ab (Pb hB).tab Tryz.func109 rfl rfl rfl ?_;intro args os C rs os' hc hC;unfold Cv at hc;split at hc;case h_2=>cases hc
 rename_i x y;cases hc;refine v_h (Pb hB) fun X hP hT hr hG=> ?_;have hU:=H9.eq_1;unfold H9 at hT;have hX:= @eI.eq_1;simp only[Tryz.f109,aD,an,ioB];refine s_g hG ?_;refine s_q hG ?_ ?_
 ·try simp only[ba]
  have c3:List.length x.2+List.length y.2<1000000000000:=hC.2.2;rw[wo];exact⟨by omega,by omega,by unfold Cm.Roomy;omega⟩
 refine ak (s_g hG ?_);refine ar (bj (fun(z:Nat×List Int)=>(⟨[(2,.l (.z (.ptr tyW) x)),(3,.l (.z (.ptr tyW) y)),(4,.l (.ownP 4 0)),(5,.l (.ownS 19)),(21,.l (.z (.slice (.int .u32)) x.2)),(22,.l (.z (.int .i64) (List.length x.2:Int))),(23,.l (.z (.int .i64) (z.1:Int)))],[(19,.arr (.int .u32) 161 z.2),(4,.box 89 [.z .bool false,.val (.slice none 0 0)])]⟩:aa)) (fun z=>z.1<=List.length x.2/\z.2.length=List.length x.2+List.length y.2/\Lim z.2/\valL z.2=valL (List.take z.1 x.2)*valL y.2/\∀ j,z.1+List.length y.2<=j->z.2.getD j 0=0) (fun z=>List.length x.2-z.1) (0,List.replicate (List.length x.2+List.length y.2) 0) ?_ ?_ ?_);·refine q_l ?_;have c3:List.length x.2+List.length y.2<1000000000000:=hC.2.2;rw[wo];exact⟨rfl,by congr 1⟩
 ·obtain⟨r1,r2,r3⟩:=replicate_zero (List.length x.2+List.length y.2);exact⟨by simp,by simp,r1,by simp[r2,valL],fun j _=>r3 j⟩
 ·rintro⟨i,out⟩ ⟨g1,g2,g3,g4,g5⟩;try dsimp only at g1 g2 g3 g4 g5
  obtain⟨c1,c2,c3⟩:=hC;have c3:List.length x.2+List.length y.2<1000000000000:=c3;have hB:LB=1000000000:=rfl;refine s_g hG ?_;refine ak (ao ?_ ?_)
  ·intro hb0;(try simp only[bt] at hb0);refine aq (ah ?_);refine ak (ar ?_);refine s_q hG ?_ ?_
   ·(try simp only[ba]);omega
   (refine s_g hG ?_;refine ak (s_g hG ?_);refine ar (bj (fun(z:Nat×Int×List Int)=>(⟨[(2,.l (.z (.ptr tyW) x)),(3,.l (.z (.ptr tyW) y)),(4,.l (.ownP 4 0)),(5,.l (.ownS 19)),(6,.l (.z (.int .i64) (i:Int))),(7,.l (.z (.int .u32) (List.getD x.2 i 0))),(8,.l (.z (.int .u64) z.2.1)),(21,.l (.z (.slice (.int .u32)) x.2)),(22,.l (.z (.int .i64) (List.length x.2:Int))),(23,.l (.z (.int .i64) (i:Int))),(29,.l (.z (.slice (.int .u32)) y.2)),(30,.l (.z (.int .i64) (List.length y.2:Int))),(31,.l (.z (.int .i64) (z.1:Int)))],[(19,.arr (.int .u32) 161 z.2.2),(4,.box 89 [.z .bool false,.val (.slice none 0 0)])]⟩:aa)) (fun z=>z.1<=List.length y.2/\z.2.2.length=List.length x.2+List.length y.2/\Lim z.2.2/\0<=z.2.1/\z.2.1<LB/\valL z.2.2+LB^(i+z.1)*z.2.1=valL (List.take i x.2)*valL y.2+LB^i*(List.getD x.2 i 0*valL (List.take z.1 y.2))/\∀ j,i+List.length y.2<=j->z.2.2.getD j 0=0) (fun z=>List.length y.2-z.1) (0,0,out) ?_ ?_ ?_);·refine q_l ?_;exact⟨rfl,rfl⟩);·exact⟨by simp,g2,g3,by simp,by simp;decide,by simp[valL,g4],g5⟩
   ·rintro⟨k,c,out2⟩ ⟨k1,k2,k3,k4,k5,k6,k7⟩;(try dsimp only at k1 k2 k3 k4 k5 k6 k7);(have e1:IntKind.i64.wrap ((i:Int)+(k:Int))=((i+k:Nat):Int):=by rw[wo];omega);refine s_g hG ?_;refine ak (ao ?_ ?_)
    ·intro hb1;(try simp only[bt] at hb1);refine aq (ah ?_);refine ak (ar ?_);refine s_q hG ?_ ?_
     ·(try simp only[ba]);omega
     refine ct (fun(z:Int)=>(⟨[(2,.l (.z (.ptr tyW) x)),(3,.l (.z (.ptr tyW) y)),(4,.l (.ownP 4 0)),(5,.l (.ownS 19)),(6,.l (.z (.int .i64) (i:Int))),(7,.l (.z (.int .u32) (List.getD x.2 i 0))),(9,.l (.z (.int .i64) (k:Int))),(11,.l (.z (.int .u64) z)),(21,.l (.z (.slice (.int .u32)) x.2)),(22,.l (.z (.int .i64) (List.length x.2:Int))),(23,.l (.z (.int .i64) (i:Int))),(29,.l (.z (.slice (.int .u32)) y.2)),(30,.l (.z (.int .i64) (List.length y.2:Int))),(31,.l (.z (.int .i64) (k:Int)))],[(19,.arr (.int .u32) 161 out2),(4,.box 89 [.z .bool false,.val (.slice none 0 0)])]⟩:aa)) (fun z=>z=List.getD x.2 i 0*List.getD y.2 k 0+out2.getD (i+k) 0+c) ?_ ?_
     ·refine ag hG ?_ ?_
      ·(try simp only[ba]);rw[e1];omega
      show ∃ z,_;refine q_l ?_;rw[e1];exact TS (c1.1.1.getD i) (c2.1.1.getD k) (k3.getD (i+k)) ⟨k4,k5⟩
     rintro n hn;(try dsimp only at hn);refine ag hG ?_ ?_
     ·(try simp only[ba]);rw[e1];omega
     (refine aK (ah ?_);refine ag hG ?_ ?_;·exact tt9);show ∃ z,_;refine q_l ?_;obtain⟨m0,m1,m2,m3,m4,m5,m6,m7⟩:=mul_step c1.1.1 c2.1.1 k2 k3 k4 k5 (by omega) (by omega) k6 k7 hn;obtain⟨t1,t2,t3⟩:=pJ m0 m1;rw[e1,t2,t3,Int.toNat_natCast];exact⟨k+1,by rw[wo];simp,by omega,m2,m3,m4,m5,m6,m7,by omega⟩
    ·intro hb1;(try simp only[bf] at hb1);refine aZ (aB ?_);refine av (au ?_);refine ah (ag hG ?_ ?_)
     ·(try simp only[ba]);rw[wo];omega
     (refine aK (ah ?_);refine ag hG ?_ ?_;·exact tt9);show ∃ z,_;refine q_l ?_;(have e1:IntKind.i64.wrap ((i:Int)+(List.length y.2:Int))=((i+List.length y.2:Nat):Int):=by rw[wo];omega);(have hk:k=List.length y.2:=by omega);subst hk;rw[List.take_length] at k6;obtain⟨f1,f2,f3,f4⟩:=mul_row k2 k3 k4 k5 (by omega) rfl k6 k7;rw[e1,w32 k4 (by omega),Int.toNat_natCast];exact⟨i+1,by rw[wo];simp,by omega,f1,f2,f3,f4,by omega⟩
  ·intro hb0;(try simp only[bf] at hb0);refine aZ (aB ?_);refine av (au ?_);refine ah (s_q hG ?_ ?_)
   ·(try simp only[ba]);exact⟨g3,by unfold CAP;omega⟩
   refine ay (q_e [] ?_);(have hi:i=List.length x.2:=by omega);subst hi;rw[List.take_length] at g4;rw[<- Qn g4]
def Ia(B:aj):Tab:={types:= [(3,(.int .i64)),(9,.str)],elems:= [],cons:= [],hint:= [],N:=18,base:=B}
theorem Pc{B:aj}(hB:aC B):aI Tryz.prog (Ia B):=⟨⟨tc ty3 (tc ty9 (ae)),af,by simp only[Ia,ioB];omega⟩,bI rfl,by kernel_rfl⟩
def rI:Con:=fun l os=>match l,os with
 | [.z .str s,.z .str p],[]=>some (True,[.z .bool (du s p)],[])
 |_,_=>none
theorem R2{B:aj}(hB:aC B):Valid B Tryz.prog 139 rI:=by
 refine ab (Pc hB).tab Tryz.func139 rfl rfl rfl ?_;intro args os C rs os' hc hC;unfold rI at hc;split at hc;case h_2=>cases hc
 rename_i s p;cases hc;refine v_h (Pc hB) fun X hP hT hr hG=> ?_;have hU:=Ia.eq_1;unfold Ia at hT;have hX:=Bool.not_true;simp only[Tryz.f139,aD,an,ioB];refine s_g hG ?_;refine s_q hG ?_ ?_
 ·try simp only[ba]
  (repeat' (first|apply And.intro|intro _))<;>(try simp only[decide_eq_true_eq,decide_eq_false_iff_not,Bool.not_eq_true',beq_iff_eq,Int.toNat_natCast] at*)<;>first|assumption|omega|trivial|(simp_all;done)|(simp_all;omega)
 refine ay (q_e [] ?_);exact Jy s p
def Ib(B:aj):Tab:={types:= [(9,.str)],elems:= [],cons:= [(139,rI)],hint:= [],N:=13,base:=B}
theorem Pd{B:aj}(hB:aC B):aI Tryz.prog (Ib B):=⟨⟨tc ty9 (ae),af,by simp only[Ib,ioB];omega⟩,aG (cc Tryz.func139 (R2 hB) (aA)),by kernel_rfl⟩
def fD:Con:=fun l os=>match l,os with
 | [.z .str s,.z .str p],[]=>some (True,[.z .str (aw s p)],[])
 |_,_=>none
theorem R3{B:aj}(hB:aC B):Valid B Tryz.prog 186 fD:=by
 refine ab (Pd hB).tab Tryz.func186 rfl rfl rfl ?_;intro args os C rs os' hc hC;unfold fD at hc;split at hc;case h_2=>cases hc
 rename_i s p;cases hc;refine v_h (Pd hB) fun X hP hT hr hG=> ?_;have hU:=Ib.eq_1;unfold Ib at hT;have hX:= @rI.eq_1;simp only[Tryz.f186,aD,an,ioB];refine s_g hG ?_;refine ak (s_g hG ?_);refine ao ?_ ?_
 ·intro hb0;try simp only[bt] at hb0
  refine s_q hG ?_ ?_
  ·(try simp only[ba]);have h:=hb0;unfold du at h;simp only[Bool.and_eq_true,decide_eq_true_eq] at h;exact⟨by omega,by omega,by omega⟩
  refine ay (az ?_);refine q_e [] ?_;simp[aw,hb0]
 ·intro hb0;try simp only[bf] at hb0
  refine aq (ah ?_);refine s_g hG ?_;refine ay (q_e [] ?_);simp[aw,hb0]
def Ic(B:aj):Tab:={types:= [(9,.str)],elems:= [],cons:= [(186,fD)],hint:= [],N:=8,base:=B}
theorem Pe{B:aj}(hB:aC B):aI Tryz.prog (Ic B):=⟨⟨tc ty9 (ae),af,by simp only[Ic,ioB];omega⟩,aG (cc Tryz.func186 (R3 hB) (aA)),by kernel_rfl⟩
theorem Ie{B:aj}(hB:aC B):Valid B Tryz.prog 172 fD:=by
 refine ab (Pe hB).tab Tryz.func172 rfl rfl rfl ?_;intro args os C rs os' hc hC;unfold fD at hc;split at hc;case h_2=>cases hc
 rename_i s p;cases hc;refine v_h (Pe hB) fun X hP hT hr hG=> ?_;have hU:=Ic.eq_1;unfold Ic at hT;have hX:= @fD.eq_1;simp only[Tryz.f172,aD,an,ioB];refine s_g hG ?_;refine s_g hG ?_;refine ay (q_e [] ?_);trivial
def Ig(B:aj):Tab:={types:= [(87,(.slice (.int .u32)))],elems:= [],cons:= [],hint:= [],N:=4,base:=B}
theorem Pf{B:aj}(hB:aC B):aI Tryz.prog (Ig B):=⟨⟨tc js (ae),af,by simp only[Ig,ioB];omega⟩,bI rfl,by kernel_rfl⟩
def x9:Con:=fun l os=>match l,os with
 | [.z (.slice (.int .u32)) xs],[]=>some (True,[.fn 208 [.z (.ptr (.slice (.int .u32))) xs]],[])
 |_,_=>none
theorem Ih{B:aj}(hB:aC B):Valid B Tryz.prog 193 x9:=by
 refine ab (Pf hB).tab Tryz.func193 rfl rfl rfl ?_;intro args os C rs os' hc hC;unfold x9 at hc;split at hc;case h_2=>cases hc
 rename_i xs;cases hc;refine v_h (Pf hB) fun X hP hT hr hG=> ?_;have hU:=Ig.eq_1;unfold Ig at hT;have hX:=Bool.not_true;simp only[Tryz.f193,aD,an,ioB];refine s_g hG ?_;refine s_g hG ?_;refine ay (q_e [] ?_);rfl
def Ii(B:aj):Tab:={types:= [(3,(.int .i64)),(4,.bool),(87,(.slice (.int .u32))),(89,tyW)],elems:= [],cons:= [(152,fC),(154,ra),(180,x8)],hint:= [],N:=32,base:=B}
theorem Pg{B:aj}(hB:aC B):aI Tryz.prog (Ii B):=⟨⟨tc ty3 (tc ty4 (tc js (tc iJ (ae)))),af,by simp only[Ii,ioB];omega⟩,aG (cc Tryz.func152 (zP hB) (cc Tryz.func154 (zO hB) (cc Tryz.func180 (HZ hB) (aA)))),by kernel_rfl⟩
def R4:Con:=fun l os=>match l,os with
 | [.z (.st (.pair .bool (.slice (.int .u32)))) x,.z (.st (.pair .bool (.slice (.int .u32)))) y],[]=>some (WOK x/\WOK y/\x.2.length+y.2.length<CAP,[.z (.int .i64) (bg (dec x) (dec y))],[])
 |_,_=>none
theorem R5{B:aj}(hB:aC B):Valid B Tryz.prog 168 R4:=by
 refine ab (Pg hB).tab Tryz.func168 rfl rfl rfl ?_;intro args os C rs os' hc hC;unfold R4 at hc;split at hc;case h_2=>cases hc
 rename_i x y;cases hc;refine v_h (Pg hB) fun X hP hT hr hG=> ?_;have hU:=Ii.eq_1;unfold Ii at hT;have hX:=ai @x8.eq_1<|ai @fC.eq_1<| @ra.eq_1;simp only[Tryz.f168,aD,an,ioB];refine s_g hG ?_;refine ak (s_d hG ?_ ?_)
 ·try simp only[ba]
  exact⟨hC.1,hC.2.1⟩
 refine s_q hG ?_ ?_
 ·try simp only[ba]
  (repeat' (first|apply And.intro|intro _))<;>(try simp only[decide_eq_true_eq,decide_eq_false_iff_not,Bool.not_eq_true',beq_iff_eq,Int.toNat_natCast] at*)<;>first|assumption|omega|trivial|(simp_all;done)|(simp_all;omega)
 refine ao ?_ ?_
 ·intro hb0;try simp only[bt] at hb0
  refine s_g hG ?_;refine ay (az ?_);refine q_e [] ?_;exact JA hC.1 hb0
 ·intro hb0;try simp only[bf] at hb0
  refine aq (ah ?_);refine ak (s_g hG ?_);refine ao ?_ ?_
  ·intro hb1;(try simp only[bt] at hb1);refine s_q hG ?_ ?_
   ·(try simp only[ba]);exact⟨hC.2.1.1,hC.1.1,by omega⟩
   refine ay (az ?_);refine q_e [] ?_;exact(vi hC.1 hC.2.1 hb0).1 hb1
  ·intro hb1;(try simp only[bf] at hb1);refine aq (ah ?_);refine s_q hG ?_ ?_
   ·(try simp only[ba]);exact⟨hC.1.1,hC.2.1.1,by omega⟩
   refine ay (q_e [] ?_);exact(vi hC.1 hC.2.1 hb0).2 hb1
def Ij(B:aj):Tab:={types:= [(3,(.int .i64)),(9,.str),(87,(.slice (.int .u32))),(89,tyW),(161,(.int .u32))],elems:= [],cons:= [(166,xo)],hint:= [],N:=22,base:=B}
theorem Ph{B:aj}(hB:aC B):aI Tryz.prog (Ij B):=⟨⟨tc ty3 (tc ty9 (tc js (tc iJ (tc gG (ae))))),af,by simp only[Ij,ioB];omega⟩,aG (cc Tryz.func166 (GT hB) (aA)),by kernel_rfl⟩
def rJ:Con:=fun l os=>match l,os with
 | [.z (.st (.pair .bool (.slice (.int .u32)))) x],[]=>some (WOK x/\x.2.length<CAP,[.z (.int .i64) (c7 (dec x))],[])
 |_,_=>none
theorem R6{B:aj}(hB:aC B):Valid B Tryz.prog 169 rJ:=by
 refine ab (Ph hB).tab Tryz.func169 rfl rfl rfl ?_;intro args os C rs os' hc hC;unfold rJ at hc;split at hc;case h_2=>cases hc
 rename_i x;cases hc;refine v_h (Ph hB) fun X hP hT hr hG=> ?_;have hU:=Ij.eq_1;unfold Ij at hT;have hX:= @xo.eq_1;simp only[Tryz.f169,aD,an,ioB];refine s_g hG ?_;refine s_g hG ?_;refine ak (s_g hG ?_);refine ao ?_ ?_
 ·intro hb0;try simp only[bt] at hb0
  refine s_g hG ?_;refine ay (az ?_);refine q_e [] ?_;rw[(gC hC.1).1.1 hb0,xq]
 ·intro hb0;try simp only[bf] at hb0
  refine aq (ah ?_);refine s_q hG ?_ ?_
  ·(try simp only[ba]);obtain⟨d1,d2,d3,d4⟩:=Bg hC.1 hC.2 hb0;have d5:=Bf hC.1.1.1 (by omega);have hB:LB=1000000000:=rfl;rw[d2,d3];exact⟨d1,by unfold I64;omega⟩
  refine ay (q_e [] ?_);obtain⟨d1,d2,d3,d4⟩:=Bg hC.1 hC.2 hb0;rw[d2,d3];exact d4
def Ik(B:aj):Tab:={types:= [(3,(.int .i64)),(87,(.slice (.int .u32))),(89,tyW),(161,(.int .u32)),(164,(.int .u64))],elems:= [(87,161)],cons:= [],hint:= [],N:=27,base:=B}
theorem Pi{B:aj}(hB:aC B):aI Tryz.prog (Ik B):=⟨⟨tc ty3 (tc js (tc iJ (tc gG (tc oP (ae))))),aT (by kernel_rfl) (af),by simp only[Ik,ioB];omega⟩,bI rfl,by kernel_rfl⟩
def kd:Con:=fun l os=>match l,os with
 | [.z (.int .i64) n],[]=>some (I64 n,[.z tyW (enc n)],[])
 |_,_=>none
theorem rK{B:aj}(hB:aC B):Valid B Tryz.prog 133 kd:=by
 refine ab (Pi hB).tab Tryz.func133 rfl rfl rfl ?_;intro args os C rs os' hc hC;unfold kd at hc;split at hc;case h_2=>cases hc
 rename_i n;cases hc;refine v_h (Pi hB) fun X hP hT hr hG=> ?_;have hU:=Ik.eq_1;unfold Ik at hT;have hX:=Bool.not_true;simp only[Tryz.f133,aD,an,ioB];refine s_g hG ?_;refine s_g hG ?_;refine s_g hG ?_;refine ct (fun(z:Int)=>(⟨[(4,.l (.z (.int .u64) z)),(3,.l (.ownP 3 0)),(2,.l (.ownP 2 0))],[(3,.box 89 [.z .bool (decide (n<0)),.val (.slice none 0 0)]),(2,.box 89 [.z .bool false,.val (.slice none 0 0)])]⟩:aa)) (fun z=>z=n.natAbs) ?_ ?_
 ·refine s_g hG ?_;refine ao ?_ ?_
  ·(intro hb0;(try simp only[bt] at hb0);refine ag hG ?_ ?_;·exact tt9);show ∃ z,_;refine q_l ?_;first|exact(mL hC).1 hb0|exact(mL hC).2 hb0
  ·intro hb0;(try simp only[bf] at hb0);refine aq ?_;show ∃ z,_;refine q_l ?_;first|exact(mL hC).1 hb0|exact(mL hC).2 hb0
 rintro z hz;try dsimp only at hz
 refine ak (ar ?_);refine bj (fun(z:Nat×List Int)=>(⟨[(4,.l (.z (.int .u64) (z.1:Int))),(3,.l (.ownP 3 0)),(2,.l (.ownP 2 0))],[(3,.box 89 [.z .bool (decide (n<0)),.ownS 24]),(24,.arr (.int .u32) 161 z.2),(2,.box 89 [.z .bool false,.val (.slice none 0 0)])]⟩:aa)) (fun z=>z.2++limbs z.1=limbs n.natAbs/\z.1<18446744073709551616) (fun z=>z.1) (n.natAbs,[]) ?_ ?_ ?_;·refine q_l ?_;exact⟨hz,by unfold ioB;omega⟩
 ·exact⟨by simp,by have hC:I64 n:=hC;unfold I64 at hC;omega⟩
 ·rintro⟨u,m⟩ ⟨g1,g2⟩;try dsimp only at g1 g2
  refine ak (s_g hG ?_);refine ao ?_ ?_
  ·intro hb1;(try simp only[bt] at hb1);refine aq (ah ?_);refine ak (ar ?_);refine ag hG ?_ ?_
   ·(try simp only[ba]);have h3:=nT (n:=n.natAbs) (by have hC:I64 n:=hC;unfold I64 at hC;omega);have h4:=congrArg List.length g1;simp only[List.length_append] at h4;exact⟨by omega,by unfold Cm.Roomy;omega⟩
   (refine aK (ah ?_);refine ag hG ?_ ?_;·exact tt9);show ∃ z,_;refine q_l ?_;exact qO g1 g2 hb1
  ·intro hb1;(try simp only[bf] at hb1);refine aZ (aB ?_);refine av (au ?_);refine ah (s_g hG ?_);refine ay (q_e [24] ?_);(have h0:u=0:=by omega);subst h0;rw[show limbs 0= [] by simp[limbs],List.append_nil] at g1;rw[g1];rfl
def zT(B:aj):Tab:={types:= [(3,(.int .i64)),(5,(.int .u8)),(9,.str)],elems:= [],cons:= [],hint:= [],N:=42,base:=B}
theorem Il{B:aj}(hB:aC B):aI Tryz.prog (zT B):=⟨⟨tc ty3 (tc ty5 (tc ty9 (ae))),af,by simp only[zT,ioB];omega⟩,bI rfl,by kernel_rfl⟩
def rL:Con:=fun l os=>match l,os with
 | [.z .str s],[]=>some (s.length<CAP,[.z .bool (decide (chk s≠5))],[])
 |_,_=>none
theorem Pj{B:aj}(hB:aC B):Valid B Tryz.prog 135 rL:=by
 refine ab (Il hB).tab Tryz.func135 rfl rfl rfl ?_;intro args os C rs os' hc hC;unfold rL at hc;split at hc;case h_2=>cases hc
 rename_i s;cases hc;refine v_h (Il hB) fun X hP hT hr hG=> ?_;have hU:=zT.eq_1;unfold zT at hT;have hX:=Bool.not_true;simp only[Tryz.f135,aD,an,ioB];refine s_g hG ?_;refine ak (s_g hG ?_);refine ao ?_ ?_;·intro hb0;simp only[beq_iff_eq] at hb0;refine s_g hG ?_;refine ay (az ?_);refine q_e [] ?_;exact M6 hb0
 ·intro hb0;simp only[beq_eq_false_iff_ne,ne_eq] at hb0;refine aq (ah ?_);refine s_g hG ?_;refine ct (fun(z:Unit)=>(⟨[(0,.l (.z .str s)),(3,.l (.z .str (aw s [45])))],[]⟩:aa)) (fun z=>True) ?_ ?_
  ·refine s_q hG ?_ ?_
   ·try simp only[ba]
    (repeat' (first|apply And.intro|intro _))<;>(try simp only[decide_eq_true_eq,decide_eq_false_iff_not,Bool.not_eq_true',beq_iff_eq,Int.toNat_natCast] at*)<;>first|assumption|omega|trivial|(simp_all;done)|(simp_all;omega)
   refine ao ?_ ?_
   ·intro hb1;(try simp only[bt] at hb1);refine ag hG ?_ ?_
    ·(try simp only[ba]);have h9:(0:Int)<(List.length s:Int):=hb1.1;exact⟨by omega,by omega,Int.le_refl _⟩
    show ∃ z,_;refine q_l ?_;first|exact xA hb1|exact xB hb1
   ·intro hb1;(try simp only[bf] at hb1);refine aq ?_;show ∃ z,_;refine q_l ?_;first|exact xA hb1|exact xB hb1
  rintro⟨⟩ hu;try dsimp only at hu
  have hl:=fA s [45];have hc:List.length s<1000000000000:=hC;refine ak (s_q hG ?_ ?_)
  ·(try simp only[ba]);exact QE _
  refine ao ?_ ?_;·intro hb2;refine s_g hG ?_;refine ay (az ?_);refine q_e [] ?_;exact Bz hb0 hb2
  ·(intro hb2;have hmid:=JP hb2;refine aq (ah ?_);refine ak (s_g hG ?_);refine ar (bj (fun(z:Nat)=>(⟨[(0,.l (.z .str s)),(3,.l (.z .str (aw s [45]))),(4,.l (.z (.int .i64) (z:Int)))],[]⟩:aa)) (fun z=>z<=(aw s [45]).length/\(List.take z (aw s [45])).all fY=true) (fun z=>(aw s [45]).length-z) 0 ?_ ?_ ?_);·refine q_l ?_;rfl);·exact⟨Nat.zero_le _,rfl⟩
   ·rintro k ⟨g1,g2⟩;(try dsimp only at g1 g2);refine ak (s_g hG ?_);refine ao ?_ ?_
    ·intro hb3;(try simp only[bt] at hb3);refine aq (ah ?_);refine ak (ar ?_);refine s_q hG ?_ ?_
     ·(try simp only[ba]);exact⟨⟨by omega,hb3⟩,fun h=>⟨h,by omega,hb3⟩,fun h=>h,fun h=>by rw[h];rfl⟩
     refine ao ?_ ?_;·intro hb4;refine s_g hG ?_;refine ay (bl ?_);refine az (c6 ?_);refine bl (az ?_);refine q_e [] ?_;exact JQ hb0 hmid hb3 hb4
     ·(intro hb4;refine aq (aK ?_);refine ah (ag hG ?_ ?_);·exact tt9);show ∃ z,_;refine q_l ?_;exact⟨k+1,by rw[wo];simp,by omega,Fk hb3 hb4 g2,by omega⟩
    ·intro hb3;(try simp only[bf] at hb3);refine aZ (aB ?_);refine av (au ?_);refine ah (s_g hG ?_);refine ay (q_e [] ?_);exact JR hb0 hmid hb3 g2
def zU(B:aj):Tab:={types:= [(4,.bool),(9,.str),(181,(.slice (.int .i64)))],elems:= [],cons:= [(156,gO),(157,cM),(158,fJ)],hint:= [],N:=9,base:=B}
theorem Im{B:aj}(hB:aC B):aI Tryz.prog (zU B):=⟨⟨tc ty4 (tc ty9 (tc jV (ae))),af,by simp only[zU,ioB];omega⟩,aG (cc Tryz.func156 (kA hB) (cc Tryz.func157 (kz hB) (cc Tryz.func158 (mo hB) (aA)))),by kernel_rfl⟩
def ya:Con:=fun l os=>match l,os with
 | [.z .str s],[]=>some (RF s/\4*s.length<CAP,[.z .str (Lib.itoa (-al s))],[])
 |_,_=>none
theorem Cw{B:aj}(hB:aC B):Valid B Tryz.prog 163 ya:=by
 refine ab (Im hB).tab Tryz.func163 rfl rfl rfl ?_;intro args os C rs os' hc hC;unfold ya at hc;split at hc;case h_2=>cases hc
 rename_i s;cases hc;refine v_h (Im hB) fun X hP hT hr hG=> ?_;have hU:=zU.eq_1;unfold zU at hT;have hX:=ai @cM.eq_1<|ai @gO.eq_1<| @fJ.eq_1;simp only[Tryz.f163,aD,an,ioB];refine s_g hG ?_;refine s_q hG ?_ ?_
 ·try simp only[ba]
  have h1:=kt hC.1;have h2:=hC.2;exact⟨hC.1,⟨hC.1,by omega⟩,D.limbs_can _,by omega⟩
 refine ay (q_e [] ?_);exact QF _
def zV(B:aj):Tab:={types:= [(9,.str)],elems:= [],cons:= [(157,cM)],hint:= [],N:=7,base:=B}
theorem Io{B:aj}(hB:aC B):aI Tryz.prog (zV B):=⟨⟨tc ty9 (ae),af,by simp only[zV,ioB];omega⟩,aG (cc Tryz.func157 (kz hB) (aA)),by kernel_rfl⟩
def qc:Con:=fun l os=>match l,os with
 | [.z .str s],[]=>some (RF s,[.z (.int .i64) (bg (al s) 0)],[])
 |_,_=>none
theorem Cy{B:aj}(hB:aC B):Valid B Tryz.prog 162 qc:=by
 refine ab (Io hB).tab Tryz.func162 rfl rfl rfl ?_;intro args os C rs os' hc hC;unfold qc at hc;split at hc;case h_2=>cases hc
 rename_i s;cases hc;refine v_h (Io hB) fun X hP hT hr hG=> ?_;have hU:=zV.eq_1;unfold zV at hT;have hX:= @cM.eq_1;simp only[Tryz.f162,aD,an,ioB];refine s_g hG ?_;refine ak (s_g hG ?_);refine ao ?_ ?_
 ·intro hb0;try simp only[bt] at hb0
  refine s_g hG ?_;refine ay (az ?_);refine q_e [] ?_;exact(vw hC).1 hb0
 ·intro hb0;try simp only[bf] at hb0
  refine aq (ah ?_);refine ak (s_q hG ?_ ?_)
  ·(try simp only[ba]);exact hC
  refine ao ?_ ?_;·intro hb1;(try simp only[bt] at hb1);refine s_g hG ?_;refine ay (az ?_);refine q_e [] ?_;exact(vw hC).2.1 hb0 hb1
  ·intro hb1;(try simp only[bf] at hb1);refine aq (ah ?_);refine s_g hG ?_;refine ay (q_e [] ?_);exact(vw hC).2.2 hb0 hb1
def zW(B:aj):Tab:={types:= [(3,(.int .i64)),(9,.str),(181,(.slice (.int .i64)))],elems:= [],cons:= [(156,gO),(157,cM),(160,gi),(162,qc)],hint:= [],N:=27,base:=B}
theorem Ip{B:aj}(hB:aC B):aI Tryz.prog (zW B):=⟨⟨tc ty3 (tc ty9 (tc jV (ae))),af,by simp only[zW,ioB];omega⟩,aG (cc Tryz.func156 (kA hB) (cc Tryz.func157 (kz hB) (cc Tryz.func160 (wq hB) (cc Tryz.func162 (Cy hB) (aA))))),by kernel_rfl⟩
def Iq:Con:=fun l os=>match l,os with
 | [.z .str a,.z .str b],[]=>some ((RF a/\a.length<CAP)/\RF b/\b.length<CAP,[.z (.int .i64) (bg (al a) (al b))],[])
 |_,_=>none
theorem Pk{B:aj}(hB:aC B):Valid B Tryz.prog 136 Iq:=by
 refine ab (Ip hB).tab Tryz.func136 rfl rfl rfl ?_;intro args os C rs os' hc hC;unfold Iq at hc;split at hc;case h_2=>cases hc
 rename_i a b;cases hc;refine v_h (Ip hB) fun X hP hT hr hG=> ?_;have hU:=zW.eq_1;unfold zW at hT;have hX:=ai @gi.eq_1<|ai @cM.eq_1<|ai @gO.eq_1<| @qc.eq_1;simp only[Tryz.f136,aD,an,ioB];refine s_g hG ?_;refine ak (s_q hG ?_ ?_)
 ·try simp only[ba]
  exact⟨hC.1.1,hC.2.1⟩
 refine ao ?_ ?_
 ·intro hb0;try simp only[bt] at hb0
  refine ak (s_q hG ?_ ?_)
  ·(try simp only[ba]);exact⟨hC.1.1,hC.2.1⟩
  refine ao ?_ ?_;·intro hb1;(try simp only[bt] at hb1);refine s_g hG ?_;refine ay (az ?_);refine az (q_e [] ?_);exact(BB hb0).1 hb1
  ·intro hb1;(try simp only[bf] at hb1);refine aq (ah ?_);refine s_g hG ?_;refine ay (az ?_);refine q_e [] ?_;exact(BB hb0).2 hb1
 ·intro hb0;try simp only[bf] at hb0
  refine aq (ah ?_);refine ak (s_q hG ?_ ?_)
  ·(try simp only[ba]);exact hC.1.1
  refine ao ?_ ?_
  ·intro hb2;(try simp only[bt] at hb2);refine s_q hG ?_ ?_
   ·(try simp only[ba]);have h1:=kt hC.1.1;have h2:=kt hC.2.1;have h3:=hC.1.2;have h4:=hC.2.2;exact⟨hC.2,hC.1,D.limbs_can _,D.limbs_can _,by omega,by omega⟩
   refine ay (az ?_);refine q_e [] ?_;exact(Hb hb0).1 hb2
  ·intro hb2;(try simp only[bf] at hb2);refine aq (ah ?_);refine s_q hG ?_ ?_
   ·(try simp only[ba]);have h1:=kt hC.1.1;have h2:=kt hC.2.1;have h3:=hC.1.2;have h4:=hC.2.2;exact⟨hC.1,hC.2,D.limbs_can _,D.limbs_can _,by omega,by omega⟩
   refine ay (q_e [] ?_);exact(Hb hb0).2 hb2
def zX(B:aj):Tab:={types:= [(3,(.int .i64)),(9,.str)],elems:= [],cons:= [(182,HQ)],hint:= [],N:=31,base:=B}
theorem Ir{B:aj}(hB:aC B):aI Tryz.prog (zX B):=⟨⟨tc ty3 (tc ty9 (ae)),af,by simp only[zX,ioB];omega⟩,aG (cc Tryz.func182 (OY hB) (aA)),by kernel_rfl⟩
def fE:Con:=fun l os=>match l,os with
 | [.z .str a,.z .str b],[]=>some (RF a/\RF b/\a.length<CAP/\b.length<CAP,[.z (.int .i64) (if a.length<=9/\b.length<=9 then al a else 0),.z (.int .i64) (if a.length<=9/\b.length<=9 then al b else 0),.z .bool (decide (a.length<=9/\b.length<=9))],[])
 |_,_=>none
theorem o9{B:aj}(hB:aC B):Valid B Tryz.prog 155 fE:=by
 refine ab (Ir hB).tab Tryz.func155 rfl rfl rfl ?_;intro args os C rs os' hc hC;unfold fE at hc;split at hc;case h_2=>cases hc
 rename_i a b;cases hc;refine v_h (Ir hB) fun X hP hT hr hG=> ?_;have hU:=zX.eq_1;unfold zX at hT;have hX:= @HQ.eq_1;simp only[Tryz.f155,aD,an,ioB];refine s_g hG ?_;refine ak (s_q hG ?_ ?_)
 ·try simp only[ba]
  (repeat' (first|apply And.intro|intro _))<;>(try simp only[decide_eq_true_eq,decide_eq_false_iff_not,Bool.not_eq_true',beq_iff_eq,Int.toNat_natCast] at*)<;>first|assumption|omega|trivial|(simp_all;done)|(simp_all;omega)
 refine ao ?_ ?_
 ·intro hb0;simp only[Bool.or_eq_true,decide_eq_true_eq] at hb0;have hl: ¬ (List.length a<=9/\List.length b<=9):=by omega
  refine s_g hG ?_;refine ay (az ?_);refine q_e [] ?_;rw[if_neg hl,if_neg hl,decide_eq_false hl];exact⟨rfl,rfl,rfl⟩
 ·intro hb0;simp only[Bool.or_eq_false_iff,decide_eq_false_iff_not] at hb0;have hl:List.length a<=9/\List.length b<=9:=by omega
  refine aq (ah ?_);refine s_q hG ?_ ?_
  ·(try simp only[ba]);exact⟨BC hC.1 hl.1,hl.1⟩
  refine s_q hG ?_ ?_
  ·(try simp only[ba]);exact⟨BC hC.2.1 hl.2,hl.2⟩
  refine s_g hG ?_;refine ay (q_e [] ?_);rw[if_pos hl,if_pos hl,decide_eq_true hl];exact⟨rfl,rfl,rfl⟩
def zY(B:aj):Tab:={types:= [(3,(.int .i64))],elems:= [],cons:= [(166,xo)],hint:= [],N:=5,base:=B}
theorem Is{B:aj}(hB:aC B):aI Tryz.prog (zY B):=⟨⟨tc ty3 (ae),af,by simp only[zY,ioB];omega⟩,aG (cc Tryz.func166 (GT hB) (aA)),by kernel_rfl⟩
def rq:Con:=fun l os=>match l,os with
 | [.z (.int .i64) n],[]=>some (I64 n,[.z .str (Lib.itoa n)],[])
 |_,_=>none
theorem mq{B:aj}(hB:aC B):Valid B Tryz.prog 126 rq:=by
 refine ab (Is hB).tab Tryz.func126 rfl rfl rfl ?_;intro args os C rs os' hc hC;unfold rq at hc;split at hc;case h_2=>cases hc
 rename_i n;cases hc;refine v_h (Is hB) fun X hP hT hr hG=> ?_;have hU:=zY.eq_1;unfold zY at hT;have hX:= @xo.eq_1;simp only[Tryz.f126,aD,an,ioB];refine s_g hG ?_;refine s_q hG ?_ ?_
 ·try simp only[ba]
  exact hC
 refine ay (q_e [] ?_);trivial
end Go.Proofs.YtdojbabpnaifoaaGreatDoor
end