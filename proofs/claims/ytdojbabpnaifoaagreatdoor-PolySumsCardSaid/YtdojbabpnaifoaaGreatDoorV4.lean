/- Merged by a program out of several texts. -/
import Derived.Test.YtdojbabpnaifoaaGreatDoorV3
import Derived.Test.YtdojbabpnaifoaaGreatDoorV2
import Derived.Laws.CopyOwn
import Derived.Deep.RegionLaw
import Derived.Shelf.Strings.Builder2
import Derived.Shelf.Small.Wraps
import Derived.Shelf.Strings.BuilderK
import Derived.Shelf.Strings.Builder2Cap
import Derived.Shelf.Strconv.Atoi
import Derived.Shelf.Strconv.Itoa3
import Derived.Shelf.Strconv.AtoiErrFast
import Derived.Shelf.Strconv.ParseIntEmpty
import Derived.Shelf.Strconv.AtoiFail
import Derived.Shelf.Strconv.Clone
import Derived.Shelf.Strconv.SyntaxError
import Derived.Shelf.Strconv.Lower
import Derived.Shelf.Strconv.ParseUint10
import Derived.Shelf.Strconv.ParseUint10Empty
import Derived.Shelf.Strconv.RangeError
import Derived.Shelf.Strconv.ParseUintEmpty
import Derived.Shelf.Strconv.ParseUint10b64
import Derived.Shelf.Strconv.ParseUint10b32
import Derived.Shelf.Strconv.ParseUint10b16
import Derived.Shelf.Strconv.ParseUint10b8
import Derived.Shelf.Strings.Search1
import Derived.Shelf.Strings.Search2
import Derived.Shelf.Strings.Cut
import Derived.Shelf.Strings.Shaped
import Derived.Shelf.Bits.Mul64
import Derived.Shelf.Strings.Repeat
import Derived.Test.YtdojbabpnaifoaaGreatDoorProg
import Derived.WalkKit
import Derived.BigQuiet
import Derived.Shelf.Abstract
import Derived.RangeFuncBox
import Derived.OwnWalkIn
import Derived.TacticsInMore
import Derived.LoopNIn
import Derived.LoopIn
set_option linter.all false
set_option linter.unusedSimpArgs false
set_option linter.unusedVariables false
set_option maxRecDepth 100000
section
namespace Go.Cm
open Go.Proofs
theorem eH(l:List Rat):(aR l).length<=l.length:=by
 induction l with
 |nil=>simp[aR]
 |cons x l ih=>
  simp only[aR];split;·split<;>simp
  ·rename_i y m h;rw[h] at ih;simp only[List.length_cons] at ih ⊢;omega
theorem pj{l:List Rat}(h:0<l.length)(h0:aK l=0):(aR l).length<l.length:=by
 rw[mu (List.length_pos_iff.1 h) h0];have:=eH l.dropLast;rw[List.length_dropLast] at this;omega
theorem eB(q r:List Rat):(ct q r).length=r.length:=il _ _ _ _ _
theorem xg{q r:List Rat}(hq:0<q.length)(h:q.length<=r.length)(h0:aK q≠0):aK (ct q r)=0:=by
 rw[cg (by rw[eB];omega),eB];unfold ct;rw[jW _ _ _ _ _ _ (by omega),if_pos (by omega),show r.length-1-(r.length-q.length)=q.length-1 by omega,<- cg hq,<- cg (by omega)];grind
theorem e8{q r:List Rat}(hq:0<q.length)(h:q.length<=r.length)(h0:aK q≠0):(aR (ct q r)).length<r.length:=by
 have:=pj (l:=ct q r) (by rw[eB];omega) (xg hq h h0);rwa [eB] at this
structure DivPhi (p q:List ND) (n:Nat) (r s:List Rat):Prop where
 eq:eJ (au q) n r s=divN (au p) (au q)
 fuel:r.length<n
 safe:tH (au q) n r
 lr:r.length<=p.length
 ls:s.length=p.length+1-q.length
theorem div_start{p q:List ND}(h:fM p q):DivPhi p q (p.length+1) (au p) (List.replicate (p.length+1-q.length) 0):=by
 refine⟨?_,by rw[aL];omega,h.safe,by rw[aL];exact Nat.le_refl _,by simp⟩;unfold divN;rw[aL,aL]
theorem fM.enc{p q:List ND}(h:fM p q):aH (au p)=p:=by
 simp only[au,aH,List.map_map];conv=>rhs;rw[<- List.map_id p]
 exact List.map_congr_left fun x hx=>h.hp x hx
theorem DivPhi.bound{p q:List ND}{n:Nat}{r s:List Rat}(h:DivPhi p q n r s):∀ x∈r,lq x<=QD:=by
 have h1:=h.safe;have h2:=h.fuel;match n,h1 with
 |n+1,h1=>exact h1.1
theorem div_next{p q:List ND}{n:Nat}{r s:List Rat}(ho:fM p q)(h:DivPhi p q n r s)(hl:q.length<=r.length):
  ∃ m,DivPhi p q m (aR (ct (au q) r)) (s.set (r.length-q.length) (aK r/aK (au q))):=by
 have h2:=h.fuel;have h1:=h.safe;have he:=h.eq;have hs:=e8 (q:=au q) (r:=r) (by rw[aL];exact ho.h0) (by rw[aL];exact hl) ho.hl;match n,h1,he,h2 with
 |n+1,h1,he,h2=>
  rw[eJ,if_pos (by rw[aL];exact hl),aL] at he;exact⟨n,he,by omega,h1.2 (by rw[aL];exact hl),by have:=h.lr;omega,by rw[List.length_set];exact h.ls⟩
theorem div_end{p q:List ND}{n:Nat}{r s:List Rat}(h:DivPhi p q n r s)(hl: ¬q.length<=r.length):(s,r)=divN (au p) (au q):=by
 have h2:=h.fuel;have he:=h.eq;match n,he,h2 with
 |n+1,he,h2=>
  rw[eJ,if_neg (by rw[aL];exact hl)] at he;exact he
theorem CU{l:List Rat}{k:Nat}(hk:k<l.length):nth NT (aH l) (k:Int)=bo (cf l k):=by
 rw[pN hk];unfold cf;rw[List.getD_eq_getElem?_getD,List.getElem?_eq_getElem hk];rfl
theorem Ny{l:List Rat}(h:0<l.length)(hl:l.length<=1000000000):nth NT (aH l) (IntKind.i64.wrap (((aH l).length:Int)-1))=bo (aK l):=by
 rw[aF,b9 hl,show (l.length:Int)-1=((l.length-1:Nat):Int) by omega,CU (by omega),<- cg h]
theorem P7{p q:List ND}{n:Nat}{r s:List Rat}(ho:fM p q)(h:DivPhi p q n r s)(hl:q.length<=r.length):IntKind.i64.wrap (((aH r).length:Int)-(q.length:Int))=((r.length-q.length:Nat):Int):=by
 have h1:=h.lr;have h2:=ho.l1;rw[aF,wo];omega
theorem P8{p q:List ND}{n:Nat}{r s:List Rat}(ho:fM p q)(h:DivPhi p q n r s)(hl:q.length<=r.length):
  (0<=IntKind.i64.wrap (((aH r).length:Int)-1)/\IntKind.i64.wrap (((aH r).length:Int)-1)<((aH r).length:Int))/\(IntKind.i64.wrap (((aH r).length:Int)-1)).toNat<(aH r).length/\
  (0<=IntKind.i64.wrap ((q.length:Int)-1)/\IntKind.i64.wrap ((q.length:Int)-1)<(q.length:Int))/\nth NT (aH r) (IntKind.i64.wrap (((aH r).length:Int)-1))=bo (aK r)/\nth NT q (IntKind.i64.wrap ((q.length:Int)-1))=bo (aK (au q))/\
  gh (bo (aK r)) (bo (aK (au q))):=by
 have h1:=h.lr;have h2:=ho.l1;have h3:=ho.h0;have h4:=ho.l2;have e:QD=10000000000:=rfl;have e2:QC=100000000000:=rfl;have hb:=kg h.bound (by omega) (r.length-1);rw[<- cg (by omega)] at hb;have hc:=pO ho.hq (by omega) h3;have hw:IntKind.i64.wrap (((aH r).length:Int)-1)=(r.length:Int)-1:=by rw[aF,b9 (by omega)]
 refine⟨by rw[hw,aF];omega,by rw[hw,aF];omega,by rw[b9 (by omega)];omega,Ny (by omega) (by omega),zB ho.hq h3 (by omega),bY _,bY _,?_⟩;rw[aN,aN];omega
theorem KH{p q:List ND}{n:Nat}{r s:List Rat}(ho:fM p q)(h:DivPhi p q n r s)(hl:q.length<=r.length){i:Nat}(hi:i<q.length):
  IntKind.i64.wrap (((r.length-q.length:Nat):Int)+(i:Int))=((r.length-q.length+i:Nat):Int)/\r.length-q.length+i<(aH (cA r (r.length-q.length) (-(aK r/aK (au q))) (au q) i)).length/\nth NT q (i:Int)=bo (cf (au q) i)/\
  nth NT (aH (cA r (r.length-q.length) (-(aK r/aK (au q))) (au q) i)) ((r.length-q.length+i:Nat):Int)=bo (cf (cA r (r.length-q.length) (-(aK r/aK (au q))) (au q) i) (r.length-q.length+i))/\
  gh (bo (aK r/aK (au q))) (bo (cf (au q) i))/\gh (bo (cf (cA r (r.length-q.length) (-(aK r/aK (au q))) (au q) i) (r.length-q.length+i))) (bo (aK r/aK (au q)*cf (au q) i)):=by
 have h1:=h.lr;have h2:=ho.l1;have h3:=ho.h0;have h4:=ho.l2;have e:QD=10000000000:=rfl;have e2:QC=100000000000:=rfl;have hb:=kg h.bound (by omega) (r.length-1);rw[<- cg (by omega)] at hb;have hc:=pO ho.hq (by omega) h3;have hd:=xb (aK r) (aK (au q));have hqi:=ho.hq.cf (by omega) i;have hm:=mm (aK r/aK (au q)) (cf (au q) i);have hrow:=xf (out:=r) (i:=r.length-q.length) (a:= -(aK r/aK (au q))) (q:=au q) (k:=i) (m:=QD) (K:=2*QD) (by omega) h.bound (by omega) (by rw[tl];omega) (fun n=>Nat.le_trans (ho.hq.cf (by omega) n) (by omega));have hlen:(cA r (r.length-q.length) (-(aK r/aK (au q))) (au q) i).length=r.length:=il _ _ _ _ _;have hcur:lq (cf (cA r (r.length-q.length) (-(aK r/aK (au q))) (au q) i) (r.length-q.length+i))<=QD:=by
  rw[jW _ _ _ _ _ _ (by omega),if_neg (by omega)];exact kg h.bound (by omega) _
 refine⟨by rw[wo];omega,by rw[aF,hlen];omega,fL ho.hq hi,CU (by rw[hlen];omega),⟨bY _,bY _,by rw[aN,aN];omega⟩,bY _,bY _,by rw[aN,aN];omega⟩
theorem Nz(r:List Rat)(k:Nat)(c:Rat)(q:List Rat)(i:Nat):(aH (cA r k (-c) q i)).set (k+i) (bo (cf (cA r k (-c) q i) (k+i)-c*cf q i))=aH (cA r k (-c) q (i+1)):=by
 rw[tC,cA,Rat.sub_eq_add_neg,Rat.neg_mul]
theorem KI{p q:List ND}{n:Nat}{r s:List Rat}(ho:fM p q)(h:DivPhi p q n r s)(hl:q.length<=r.length):Sz QC (aH (ct (au q) r))/\(aH (ct (au q) r)).length<=QL:=by
 have h1:=h.lr;have h2:=ho.l1;have h3:=ho.h0;have h4:=ho.l2;have e:QD=10000000000:=rfl;have e2:QC=100000000000:=rfl;have hb:=kg h.bound (by omega) (r.length-1);rw[<- cg (by omega)] at hb;have hc:=pO ho.hq (by omega) h3;have hd:=xb (aK r) (aK (au q));refine⟨fK fun x hx=> ?_,by rw[aF,eB];unfold QL;omega⟩;have hrow:=xf (out:=r) (i:=r.length-(au q).length) (a:= -(aK r/aK (au q))) (q:=au q) (k:=(au q).length) (m:=QD) (K:=2*QD) (by rw[aL];omega) h.bound (by omega) (by rw[tl];omega) (fun n=>Nat.le_trans (ho.hq.cf (by omega) n) (by omega)) x hx;omega
theorem KJ{p q:List ND}{n:Nat}{r s:List Rat}(ho:fM p q)(h:DivPhi p q n r s)(hl:q.length<=r.length):
  IntKind.i64.wrap (((aH r).length:Int)-1)=((r.length-1:Nat):Int)/\IntKind.i64.wrap ((q.length:Int)-1)=((q.length-1:Nat):Int)/\nth NT (aH r) ((r.length-1:Nat):Int)=bo (aK r)/\nth NT q ((q.length-1:Nat):Int)=bo (aK (au q))/\gh (bo (aK r)) (bo (aK (au q))):=by
 have h1:=h.lr;have h2:=ho.l1;have h3:=ho.h0;have h4:=ho.l2;obtain⟨_,_,_,_,_,h5⟩:=P8 ho h hl;refine⟨by rw[aF,b9 (by omega)];omega,by rw[b9 (by omega)];omega,?_,?_,h5⟩;·rw[CU (by omega),<- cg (by omega)]
 ·rw[fL ho.hq (by omega),cg (by rw[aL];omega),aL]
theorem Pv{p q:List ND}(ho:fM p q):max 0 (IntKind.i64.wrap (IntKind.i64.wrap ((p.length:Int)-(q.length:Int))+1))=((p.length+1-q.length:Nat):Int)/\(0:Int)<=((p.length+1-q.length:Nat):Int)/\((p.length+1-q.length:Nat):Int)<=1000:=by
 have h2:=ho.l1;have h4:=ho.l2;rw[wi (x:=(p.length:Int)-(q.length:Int)) (by omega) (by omega),wo];omega
theorem xh{p q:List ND}{n:Nat}{r s:List Rat}(ho:fM p q)(h:DivPhi p q n r s)(hl:q.length<=r.length):(0:Int)<=((r.length-q.length:Nat):Int)/\((r.length-q.length:Nat):Int)<((aH s).length:Int)/\r.length-q.length<(aH s).length:=by
 have h1:=h.lr;have h2:=h.ls;rw[aF,h2];omega
theorem Hi{p q:List ND}{n:Nat}{r s:List Rat}(ho:fM p q)(h:DivPhi p q n r s)(hl:q.length<=r.length):((0:Int)<=((r.length-1:Nat):Int)/\((r.length-1:Nat):Int)<((aH r).length:Int))/\r.length-1<(aH r).length/\((0:Int)<=((q.length-1:Nat):Int)/\((q.length-1:Nat):Int)<(q.length:Int))/\gh (bo (aK r)) (bo (aK (au q)))/\bD (bo (aK (au q)))≠0:=by
 have h3:=ho.h0;obtain⟨_,_,_,_,h5⟩:=KJ ho h hl;rw[aF,aN];exact⟨by omega,by omega,by omega,h5,ho.hl⟩
theorem Hj{p q:List ND}{n:Nat}{r s:List Rat}(ho:fM p q)(h:DivPhi p q n r s)(hl:q.length<=r.length){i:Nat}(hi:i<q.length):((0:Int)<=((r.length-q.length+i:Nat):Int)/\((r.length-q.length+i:Nat):Int)<((aH (cA r (r.length-q.length) (-(aK r/aK (au q))) (au q) i)).length:Int))/\r.length-q.length+i<(aH (cA r (r.length-q.length) (-(aK r/aK (au q))) (au q) i)).length/\
  gh (bo (aK r/aK (au q))) (bo (cf (au q) i))/\gh (bo (cf (cA r (r.length-q.length) (-(aK r/aK (au q))) (au q) i) (r.length-q.length+i))) (bo (aK r/aK (au q)*cf (au q) i))/\((0:Int)<=((r.length-q.length+i:Nat):Int)/\((r.length-q.length+i:Nat):Int)<((aH (cA r (r.length-q.length) (-(aK r/aK (au q))) (au q) i)).length:Int))/\r.length-q.length+i<(aH (cA r (r.length-q.length) (-(aK r/aK (au q))) (au q) i)).length:=by
 obtain⟨_,h2,_,_,h5,h6⟩:=KH ho h hl hi;exact⟨⟨by omega,by omega⟩,h2,h5,h6,⟨by omega,by omega⟩,h2⟩
theorem KK{p q:List ND}{n:Nat}{r s:List Rat}(ho:fM p q){i:Nat}(hi:i<q.length):∃ z:Nat,IntKind.i64.wrap ((i:Int)+1)=(z:Int)/\aH (cA r (r.length-q.length) (-(aK r/aK (au q))) (au q) (i+1))=aH (cA r (r.length-q.length) (-(aK r/aK (au q))) (au q) z)/\z<=q.length/\q.length-z<q.length-i:=by
 have h4:=ho.l2;exact⟨i+1,by rw[wo];omega,rfl,by omega,by omega⟩
theorem Ew{p q:List ND}{n:Nat}{r s:List Rat}{i:Nat}(hi:i=q.length):cA r (r.length-q.length) (-(aK r/aK (au q))) (au q) i=ct (au q) r:=by
 unfold ct;rw[aL,hi]
def ec:Nat->List Rat->List Rat->List Rat
 |0,p,_=>cX p
 |n+1,p,q=>if q= [] then cX p else ec n q (cX (divN p q).2)
def cB(p q:List Rat):List Rat:=ec (q.length+1) p q
def Trm(l:List Rat):Prop:=l≠ []->aK l≠0
def tI:Nat->List Rat->List Rat->Prop
 |0,_,_=>True
 |n+1,p,q=>if q= [] then ∀ x∈p,lq x<=QH else tH q (p.length+1) p/\(∀ x∈q,lq x<=QD)/\(∀ x∈(divN p q).2,lq x<=QH)/\tI n q (cX (divN p q).2)
theorem kJ:∀ l:List Rat,Trm (aR l)
 | []=>fun h=>absurd rfl h
 |x::l=>by
  intro h;have ih:=kJ l;simp only[aR] at h ⊢;split
  ·(rename_i hl;rw[hl] at h;split;·rename_i hx;simp only[hx,if_true,ne_eq,not_true] at h);·rename_i hx;simpa [aK] using hx
  ·rename_i y m hl;rw[hl] at ih;have:=ih (by simp);simpa [aK] using this
theorem tJ(q:List Rat):∀ (n:Nat) (r s:List Rat),Trm r->Trm (eJ q n r s).2
 |0,r,s,h=>h
 |n+1,r,s,h=>by
  rw[eJ];split;·exact tJ q n _ _ (kJ _)
  ·exact h
theorem jx{p q:List Rat}(h:Trm p):Trm (divN p q).2:=tJ _ _ _ _ h
theorem pk{q:List Rat}(hq:0<q.length)(h0:aK q≠0):∀ (n:Nat) (r s:List Rat),r.length<n->(eJ q n r s).2.length<q.length
 |0,r,s,h=>absurd h (by omega)
 |n+1,r,s,h=>by
  rw[eJ];split;·rename_i hl;have:=e8 hq hl h0;exact pk hq h0 n _ _ (by omega)
  ·rename_i hl;simp only;omega
theorem gi{p q:List Rat}(hq:0<q.length)(h0:aK q≠0):(divN p q).2.length<q.length:=pk hq h0 _ _ _ (Nat.lt_succ_self _)
theorem b8(l:List Rat):(cX l).length=l.length:=by simp[cX]
theorem CW{l:List Rat}(h:0<l.length):aK (cX l)=aK l/aK l:=by
 rw[cg (by rw[b8];exact h),b8];conv=>rhs;arg 1;rw[cg h]
 unfold cX cf;simp only[List.getD_eq_getElem?_getD,List.getElem?_map];rw[List.getElem?_eq_getElem (by omega)];rfl
theorem gY{l:List Rat}(h:Trm l):Trm (cX l):=by
 intro hne;have hl:0<l.length:=by rw[<- b8];exact List.length_pos_iff.2 hne
 have h1:=h (List.length_pos_iff.1 hl);rw[CW hl];grind
structure iR (p q:List ND):Prop where
 hp:∀ x∈p,NOK x
 hq:∀ x∈q,NOK x
 l1:p.length<=900
 l2:q.length<=900
 tp:Trm (au p)
 tq:Trm (au q)
 safe:tI (q.length+1) (au p) (au q)
structure tK (p q:List ND) (n:Nat) (a b:List Rat):Prop where
 eq:ec n a b=cB (au p) (au q)
 fuel:b.length<n
 safe:tI n a b
 ta:Trm a
 tb:Trm b
 la:a.length<=900
 lb:b.length<=900
theorem xi{p:List ND}(h:∀ x∈p,NOK x):aH (au p)=p:=by
 simp only[au,aH,List.map_map];conv=>rhs;rw[<- List.map_id p]
 exact List.map_congr_left fun x hx=>h x hx
theorem Hk{p q:List ND}(h:iR p q):tK p q (q.length+1) (au p) (au q):=by
 refine⟨?_,by rw[aL];omega,h.safe,h.tp,h.tq,by rw[aL];exact h.l1,by rw[aL];exact h.l2⟩;unfold cB;rw[aL]
theorem jX(l:List Rat):∀ x∈aH l,NOK x:=by
 intro x hx;obtain⟨y,_,rfl⟩:=List.mem_map.1 hx;exact bY y
theorem KL{p q:List ND}{n:Nat}{a b:List Rat}(h:tK p q n a b)(hb:0<b.length):
  fM (aH a) (aH b)/\nW (aH (divN a b).2)/\(∃ m,tK p q m b (cX (divN a b).2))/\(cX (divN a b).2).length<b.length:=by
 have hbn:=List.length_pos_iff.1 hb;have h1:=h.safe;have h2:=h.eq;have h3:=h.fuel;have hl:=h.tb hbn;have hs:=gi (p:=a) hb hl;match n,h1,h2,h3 with
 |n+1,h1,h2,h3=>
  rw[tI,if_neg hbn] at h1;rw[ec,if_neg hbn] at h2;obtain⟨s1,s2,s3,s4⟩:=h1;have hlb:=h.lb;refine⟨⟨jX _,fK s2,by rw[aF];exact h.la,by rw[aF];exact h.lb,by rw[aF];exact hb,by rw[aJ];exact hl,by rw[aJ,aJ,aF];exact s1⟩,
   ⟨fK s3,by rw[aF];omega,fun hne=> ?_⟩,⟨n,h2,by rw[b8];omega,s4,h.tb,gY (jx h.ta),h.lb,by rw[b8];omega⟩,by rw[b8];exact hs⟩
  rw[aJ];exact jx h.ta (fun e=>hne (by rw[e];rfl))
theorem NA{p q:List ND}{n:Nat}{a b:List Rat}(h:tK p q n a b)(hb: ¬0<b.length):nW (aH a)/\cX a=cB (au p) (au q):=by
 have hbn:b= []:=List.eq_nil_of_length_eq_zero (by omega);have h1:=h.safe;have h2:=h.eq;have h3:=h.fuel;match n,h1,h2,h3 with
 |n+1,h1,h2,h3=>
  rw[tI,if_pos hbn] at h1;rw[ec,if_pos hbn] at h2;have hla:=h.la;refine⟨⟨fK h1,by rw[aF];omega,fun hne=> ?_⟩,h2⟩;rw[aJ];exact h.ta (fun e=>hne (by rw[e];rfl))
def cu(l:List Rat):List Rat:=if l= [] then [] else cX (divN l (cB l (cx l))).1
def lY(p:List ND):Prop:=p≠ []->Sz QH p/\p.length<=900/\iR p (aH (cx (au p)))/\fM p (aH (cB (au p) (cx (au p))))/\nW (aH (divN (au p) (cB (au p) (cx (au p)))).1)
end Go.Cm
end
section
namespace Go.Cm
open Go Go.RowKit
theorem uD{P:Program}(w:World)(dT sT ty elem:TypeId)(g o dLen dCap:Nat)(a:Addr)(sLen sCap:Nat)(cur:Array Value)(t:TypeId)(cs:List Value)(size n:Nat)
  (hu:P.underlying dT=some (.slice elem)) (hs:(P.info? elem).map (·.size)=some size)
  (hg:w.heap[g]? =some (.cells cur t (0,0))) (hn:n=Nat.min sLen dLen) (hl0:cs.length=n*size)
  (hsrc:∀ j v,cs[j]? =some v->w.cell? (a.add j)=some v) (hfit:o+cs.length<=cur.size) (h1:∀ v∈cs,v.oneCell'=true):
  (Builtin.copy_ #[dT,sT] ty #[.slice (some ⟨g,o,none⟩) dLen dCap,.slice (some a) sLen sCap]).run P w=
   .ok (goInt n) (w.setRow g (cur.toList.take o++cs++cur.toList.drop (o+cs.length)).toArray):=by
 have hl:=run_loadCells_list (P:=P) w a cs hsrc;rw[hl0] at hl;have hst:=run_storeCells_at P g o t cs 0 cur w hg (by simpa using hfit) h1;cases hq:P.info? elem with
 |none=>simp[hq] at hs
 |some i=>
  have hi:i.size=size:=by simpa [hq] using hs
  simp[Builtin.copy_,run_underlying hu,Builtin.lenOf,Builtin.firstCells,sizeOf,typeInfo,hq,hi,<- hn,hl,hst]
theorem tL{P:Program}(w:World)(dT sT ty elem:TypeId)(d a:Option Addr)(dLen dCap sLen sCap:Nat)(size:Nat)(hu:P.underlying dT=some (.slice elem))(hs:(P.info? elem).map (·.size)=some size)(hn:Nat.min sLen dLen=0):
  (Builtin.copy_ #[dT,sT] ty #[.slice d dLen dCap,.slice a sLen sCap]).run P w= .ok (goInt 0) w:=by
 cases hq:P.info? elem with
 |none=>simp[hq] at hs
 |some i=>
  have hl:∀ (x:Addr),(loadCells x 0).run P w= .ok #[] w:=fun x=>by simpa using run_loadCells_list (P:=P) w x [] (by simp)
  cases d<;>cases a<;>simp[Builtin.copy_,run_underlying hu,Builtin.lenOf,Builtin.firstCells,sizeOf,typeInfo,hq,hn,storeCells,hl]
theorem vr{P:Program}{w:World}(dT sT ty elem:TypeId)(size:Nat)(hu:P.underlying dT=some (.slice elem))(hsz:(P.info? elem).map (·.size)=some size)
  (dp sp:Option Addr) (dLen dCap sLen sCap n:Nat) (g off:Nat) (cur:List Value) (t:TypeId) (hg:w.heap[g]? =some (.cells cur.toArray t (0,0))) (cs:List Value) (hn:n=Nat.min sLen dLen) (hl:cs.length=n*size)
  (hpos:0<n->dp=some ⟨g,off,none⟩/\∃ ad,sp=some ad/\∀ j v,cs[j]? =some v->w.cell? (ad.add j)=some v)
  (hfit:off+cs.length<=cur.length) (h1:∀ v∈cs,v.oneCell'=true) (B:Nat) (w0:World) (hb:Below B w0 w) (hBg:B<=g):
  ∃ w',(Builtin.copy_ #[dT,sT] ty #[.slice dp dLen dCap,.slice sp sLen sCap]).run P w= .ok (goInt n) w'/\w'.heap[g]? =some (.cells (splice cur off cs).toArray t (0,0))/\Below B w0 w':=by
 by_cases h0:n=0
 ·subst h0;obtain rfl:cs= []:=List.eq_nil_of_length_eq_zero (by simpa using hl);exact⟨w,tL w dT sT ty elem dp sp dLen dCap sLen sCap size hu hsz hn.symm,by simpa [splice] using hg,hb⟩
 ·obtain⟨rfl,ad,rfl,hsrc⟩:=hpos (by omega);refine⟨_,uD w dT sT ty elem g off dLen dCap ad sLen sCap cur.toArray t cs size n hu hsz hg hn hl hsrc (by simpa using hfit) h1,?_,below_setRow hb hBg _⟩;simpa [splice] using setRow_heap w g _ _ t _ hg
theorem xj{P:Program}{w:World}{ops:Array Oper}{rest:List Oper}{o:Oper}{a:Act}{Q:Exit->Act->World->Prop}(hgd:o.guard=none)(d s:Operand)(dT sT:TypeId)
  (ho:o.op= .call {callee:= .builtin .copy,args:= #[d,s],argTypes:= #[dT,sT]}) (elem:TypeId) (size:Nat) (hu:P.underlying dT=some (.slice elem)) (hsz:(P.info? elem).map (·.size)=some size)
  (dp sp:Option Addr) (dLen dCap sLen sCap n:Nat) (hd:a.eval d= .slice dp dLen dCap) (hs:a.eval s= .slice sp sLen sCap)
  (g off:Nat) (cur:List Value) (t:TypeId) (hg:w.heap[g]? =some (.cells cur.toArray t (0,0))) (cs:List Value) (hn:n=Nat.min sLen dLen) (hl:cs.length=n*size)
  (hpos:0<n->dp=some ⟨g,off,none⟩/\∃ ad,sp=some ad/\∀ j v,cs[j]? =some v->w.cell? (ad.add j)=some v)
  (hfit:off+cs.length<=cur.length) (h1:∀ v∈cs,v.oneCell'=true) (B:Nat) (w0:World) (hb:Below B w0 w) (hBg:B<=g)
  (h:∀ w',Hid (w'.heap[g]? =some (.cells (splice cur off cs).toArray t (0,0)))->Below B w0 w'->wpList P ops Q rest (a.put o.dst (goInt n)) w'):
  wpList P ops Q (o::rest) a w:=by
 refine wpList_plain hgd fun K hK=> ?_;obtain⟨w',hrun,hg',hb'⟩:=vr dT sT o.type elem size hu hsz dp sp dLen dCap sLen sCap n g off cur t hg cs hn hl hpos hfit h1 B w0 hb hBg;unfold Oper.wp;simp[execOp,ho,resolve,invoke,builtin,hd,hs,hrun,Result.andThen];exact hK _ _ (h w' hg' hb')
theorem CX{P:Program}{ops:Array Oper}{o:Oper}{a:Act}{w:World}{K:Act->World->Prop}{Q:Exit->Act->World->Prop}{E:Prop}(hgd:o.guard=none)(d s:Operand)(dT sT:TypeId)
  (ho:o.op= .call {callee:= .builtin .copy,args:= #[d,s],argTypes:= #[dT,sT]}) (elem:TypeId) (size:Nat) (hu:P.underlying dT=some (.slice elem)) (hsz:(P.info? elem).map (·.size)=some size)
  (dp sp:Option Addr) (dLen dCap sLen sCap n:Nat) (hd:a.eval d= .slice dp dLen dCap) (hs:a.eval s= .slice sp sLen sCap)
  (g off:Nat) (cur:List Value) (t:TypeId) (hg:w.heap[g]? =some (.cells cur.toArray t (0,0))) (cs:List Value) (hn:n=Nat.min sLen dLen) (hl:cs.length=n*size)
  (hpos:0<n->dp=some ⟨g,off,none⟩/\∃ ad,sp=some ad/\∀ j v,cs[j]? =some v->w.cell? (ad.add j)=some v)
  (hfit:off+cs.length<=cur.length) (h1:∀ v∈cs,v.oneCell'=true) (B:Nat) (w0:World) (hb:RowKit.Below B w0 w) (hBg:B<=g)
  (h:∀ w',RowKit.Hid (w'.heap[g]? =some (.cells (splice cur off cs).toArray t (0,0)))->RowKit.Below B w0 w'->K (a.put o.dst (goInt n)) w'):
  if Region.wanted o (yielded ops a.tmps)=true then Oper.wp P o a w K Q else E:=by
 have hw:Region.wanted o (yielded ops a.tmps)=true:=by simp[Region.wanted,hgd]
 rw[if_pos hw];obtain⟨w',hrun,hg',hb'⟩:=vr dT sT o.type elem size hu hsz dp sp dLen dCap sLen sCap n g off cur t hg cs hn hl hpos hfit h1 B w0 hb hBg;unfold Oper.wp;simp[execOp,ho,resolve,invoke,builtin,hd,hs,hrun,Result.andThen];exact h w' hg' hb'
def cK(n:Nat)(l:List Value):List Value:=(List.replicate n l).flatten
theorem eC(n:Nat)(l:List Value):(cK n l).length=n*l.length:=by simp[cK]
theorem tM(m n:Nat)(l:List Value):cK (m+n) l=cK m l++cK n l:=by simp only[cK,<- List.flatten_append,List.replicate_append_replicate]
theorem zD{n:Nat}{l:List Value}{v:Value}(h:v∈cK n l):v∈l:=by
 obtain⟨x,hx,hv⟩:=List.mem_flatten.1 h;rw[(List.mem_replicate.1 hx).2] at hv;exact hv
theorem po{A B:List Value}(hAB:A.length=B.length){n k m:Nat}(hm:m<=n-k):splice (cK k A++cK (n-k) B) (k*A.length) (cK m A)=cK (k+m) A++cK (n-(k+m)) B:=by
 have hl:(cK k A).length=k*A.length:=eC _ _;have e1:(cK k A++cK (n-k) B).take (k*A.length)=cK k A:=by rw[<- hl,List.take_left]
 have e2:(cK k A++cK (n-k) B).drop (k*A.length+(cK m A).length)=cK (n-(k+m)) B:=by
  rw[<- List.drop_drop,<- hl,List.drop_left,eC,show n-k=m+(n-(k+m)) by omega,tM,hAB,<- eC m B,List.drop_left]
 simp only[splice,e1,e2];rw[<- List.append_assoc,<- tM]
end Go.Cm
end
section
namespace Go.Proofs
open Go.Shelf
def Tryz.laysB172_ren:Go.Shelf.Ren:=⟨fun|172=>182|244=>196|245=>188|247=>209|279=>204|280=>205|281=>206|282=>207|287=>187|316=>216|171=>166|205=>217|321=>202|322=>203|243=>184|246=>197|283=>210|284=>211|285=>212|286=>213|129=>219|317=>218|318=>220|319=>221|320=>222|337=>223|338=>224|n=>n,fun|9=>9|3=>3|75=>131|76=>132|4=>4|5=>5|167=>216|37=>47|0=>0|85=>222|2=>2|168=>218|53=>164|175=>191|46=>122|210=>231|127=>167|145=>239|143=>237|21=>21|171=>224|173=>227|212=>234|51=>161|20=>20|213=>235|232=>241|233=>242|80=>135|n=>n,fun|15=>1|16=>2|17=>3|18=>4|19=>5|n=>n⟩
theorem Tryz.laysB172:Go.Proofs.Lays.n172 Tryz.prog Tryz.laysB172_ren:={
 mixed:=by kernel_rfl
 f129:=Tryz.func219.trans (congrArg some (by kernel_rfl))
 f171:=Tryz.func166.trans (congrArg some (by kernel_rfl))
 f172:=Tryz.func182.trans (congrArg some (by kernel_rfl))
 f205:=Tryz.func217.trans (congrArg some (by kernel_rfl))
 f243:=Tryz.func184.trans (congrArg some (by kernel_rfl))
 f244:=Tryz.func196.trans (congrArg some (by kernel_rfl))
 f245:=Tryz.func188.trans (congrArg some (by kernel_rfl))
 f246:=Tryz.func197.trans (congrArg some (by kernel_rfl))
 f247:=Tryz.func209.trans (congrArg some (by kernel_rfl))
 f279:=Tryz.func204.trans (congrArg some (by kernel_rfl))
 f280:=Tryz.func205.trans (congrArg some (by kernel_rfl))
 f281:=Tryz.func206.trans (congrArg some (by kernel_rfl))
 f282:=Tryz.func207.trans (congrArg some (by kernel_rfl))
 f283:=Tryz.func210.trans (congrArg some (by kernel_rfl))
 f284:=Tryz.func211.trans (congrArg some (by kernel_rfl))
 f285:=Tryz.func212.trans (congrArg some (by kernel_rfl))
 f286:=Tryz.func213.trans (congrArg some (by kernel_rfl))
 f287:=Tryz.func187.trans (congrArg some (by kernel_rfl))
 f316:=Tryz.func216.trans (congrArg some (by kernel_rfl))
 f317:=Tryz.func218.trans (congrArg some (by kernel_rfl))
 f318:=Tryz.func220.trans (congrArg some (by kernel_rfl))
 f319:=Tryz.func221.trans (congrArg some (by kernel_rfl))
 f320:=Tryz.func222.trans (congrArg some (by kernel_rfl))
 f321:=Tryz.func202.trans (congrArg some (by kernel_rfl))
 f322:=Tryz.func203.trans (congrArg some (by kernel_rfl))
 f337:=Tryz.func223.trans (congrArg some (by kernel_rfl))
 f338:=Tryz.func224.trans (congrArg some (by kernel_rfl))
 t0:=Tryz.underlying0
 a0:=Tryz.isAgg0
 z0:=Tryz.sizeOf0
 v0:=Tryz.zeroValue0
 t2:=Tryz.underlying2
 a2:=Tryz.isAgg2
 z2:=Tryz.sizeOf2
 v2:=Tryz.zeroValue2
 t3:=Tryz.underlying3
 a3:=Tryz.isAgg3
 z3:=Tryz.sizeOf3
 v3:=Tryz.zeroValue3
 t4:=Tryz.underlying4
 a4:=Tryz.isAgg4
 z4:=Tryz.sizeOf4
 v4:=Tryz.zeroValue4
 t5:=Tryz.underlying5
 a5:=Tryz.isAgg5
 z5:=Tryz.sizeOf5
 v5:=Tryz.zeroValue5
 t9:=Tryz.underlying9
 a9:=Tryz.isAgg9
 z9:=Tryz.sizeOf9
 v9:=Tryz.zeroValue9
 t20:=Tryz.underlying20
 a20:=Tryz.isAgg20
 z20:=Tryz.sizeOf20
 v20:=Tryz.zeroValue20
 t21:=Tryz.underlying21
 a21:=Tryz.isAgg21
 z21:=Tryz.sizeOf21
 v21:=Tryz.zeroValue21
 t37:=Tryz.underlying47
 a37:=Tryz.isAgg47
 z37:=Tryz.sizeOf47
 v37:=Tryz.zeroValue47
 t46:=Tryz.underlying122
 a46:=Tryz.isAgg122
 z46:=Tryz.sizeOf122
 v46:=Tryz.zeroValue122
 t51:=Tryz.underlying161
 a51:=Tryz.isAgg161
 z51:=Tryz.sizeOf161
 v51:=Tryz.zeroValue161
 t53:=Tryz.underlying164
 a53:=Tryz.isAgg164
 z53:=Tryz.sizeOf164
 v53:=Tryz.zeroValue164
 t75:=Tryz.underlying131
 a75:=Tryz.isAgg131
 z75:=Tryz.sizeOf131
 v75:=Tryz.zeroValue131
 t76:=Tryz.underlying132
 a76:=Tryz.isAgg132
 z76:=Tryz.sizeOf132
 v76:=Tryz.zeroValue132
 t85:=Tryz.underlying222
 a85:=Tryz.isAgg222
 z85:=Tryz.sizeOf222
 v85:=Tryz.zeroValue222
 t127:=Tryz.underlying167
 a127:=Tryz.isAgg167
 z127:=Tryz.sizeOf167
 v127:=Tryz.zeroValue167
 t143:=Tryz.underlying237
 a143:=Tryz.isAgg237
 z143:=Tryz.sizeOf237
 v143:=Tryz.zeroValue237
 t145:=Tryz.underlying239
 a145:=Tryz.isAgg239
 z145:=Tryz.sizeOf239
 v145:=Tryz.zeroValue239
 t167:=Tryz.underlying216
 a167:=Tryz.isAgg216
 z167:=Tryz.sizeOf216
 v167:=Tryz.zeroValue216
 t168:=Tryz.underlying218
 a168:=Tryz.isAgg218
 z168:=Tryz.sizeOf218
 v168:=Tryz.zeroValue218
 t171:=Tryz.underlying224
 a171:=Tryz.isAgg224
 z171:=Tryz.sizeOf224
 v171:=Tryz.zeroValue224
 t173:=Tryz.underlying227
 a173:=Tryz.isAgg227
 z173:=Tryz.sizeOf227
 v173:=Tryz.zeroValue227
 t175:=Tryz.underlying191
 a175:=Tryz.isAgg191
 z175:=Tryz.sizeOf191
 v175:=Tryz.zeroValue191
 t210:=Tryz.underlying231
 a210:=Tryz.isAgg231
 z210:=Tryz.sizeOf231
 v210:=Tryz.zeroValue231
 t212:=Tryz.underlying234
 a212:=Tryz.isAgg234
 z212:=Tryz.sizeOf234
 v212:=Tryz.zeroValue234
 t213:=Tryz.underlying235
 a213:=Tryz.isAgg235
 z213:=Tryz.sizeOf235
 t232:=Tryz.underlying241
 a232:=Tryz.isAgg241
 z232:=Tryz.sizeOf241
 v232:=Tryz.zeroValue241
 t233:=Tryz.underlying242
 a233:=Tryz.isAgg242
 z233:=Tryz.sizeOf242
 v233:=Tryz.zeroValue242
 g15:=by kernel_rfl
 g16:=by kernel_rfl
 g17:=by kernel_rfl
 g18:=by kernel_rfl
 g19:=by kernel_rfl}
open Go.RowKit in
theorem Tryz.strconv_Atoi(s:ByteArray)(n:Int)(hl:s.size<=18)(h:Lib.atoi s.data.toList=some n)(w:World):
  Calls Tryz.prog 182 #[.string s] w fun e w'=>e= .returned (.tuple #[.int .i64 n,.nilIface])/\∃ t,w'=Lib.bytesWorld w 5 t:=Any.strconv_Atoi Tryz.laysB172 s n hl h w
def Tryz.laysB145_ren:Go.Shelf.Ren:=⟨fun|145=>131|220=>171|219=>185|217=>198|225=>199|224=>200|267=>201|266=>214|314=>215|n=>n,fun|9=>9|4=>4|59=>154|3=>3|5=>5|46=>122|146=>162|51=>161|n=>n,fun|1=>0|n=>n⟩
theorem Tryz.laysB145:Go.Proofs.Lays.n145 Tryz.prog Tryz.laysB145_ren:={
 mixed:=by kernel_rfl
 f145:=Tryz.func131.trans (congrArg some (by kernel_rfl))
 f217:=Tryz.func198.trans (congrArg some (by kernel_rfl))
 f219:=Tryz.func185.trans (congrArg some (by kernel_rfl))
 f220:=Tryz.func171.trans (congrArg some (by kernel_rfl))
 f224:=Tryz.func200.trans (congrArg some (by kernel_rfl))
 f225:=Tryz.func199.trans (congrArg some (by kernel_rfl))
 f266:=Tryz.func214.trans (congrArg some (by kernel_rfl))
 f267:=Tryz.func201.trans (congrArg some (by kernel_rfl))
 f314:=Tryz.func215.trans (congrArg some (by kernel_rfl))
 t3:=Tryz.underlying3
 a3:=Tryz.isAgg3
 z3:=Tryz.sizeOf3
 v3:=Tryz.zeroValue3
 t4:=Tryz.underlying4
 a4:=Tryz.isAgg4
 z4:=Tryz.sizeOf4
 v4:=Tryz.zeroValue4
 t5:=Tryz.underlying5
 a5:=Tryz.isAgg5
 z5:=Tryz.sizeOf5
 v5:=Tryz.zeroValue5
 t9:=Tryz.underlying9
 a9:=Tryz.isAgg9
 z9:=Tryz.sizeOf9
 v9:=Tryz.zeroValue9
 t46:=Tryz.underlying122
 a46:=Tryz.isAgg122
 z46:=Tryz.sizeOf122
 v46:=Tryz.zeroValue122
 t51:=Tryz.underlying161
 a51:=Tryz.isAgg161
 z51:=Tryz.sizeOf161
 v51:=Tryz.zeroValue161
 t59:=Tryz.underlying154
 a59:=Tryz.isAgg154
 z59:=Tryz.sizeOf154
 v59:=Tryz.zeroValue154
 t146:=Tryz.underlying162
 a146:=Tryz.isAgg162
 z146:=Tryz.sizeOf162
 v146:=Tryz.zeroValue162
 g1:=by kernel_rfl}
open Go.RowKit Go.Lib in
theorem Tryz.strings_Cut(s sep:ByteArray)(m:Int)(w:World)(hs:s.size<4294967281)(hm:w.cell? ⟨0,0,none⟩=some (.int .i64 m)):
  Calls Tryz.prog 131 #[.string s,.string sep] w fun e w'=>e= .returned (.tuple #[.string ⟨(Lib.cut s.data.toList sep.data.toList).1.toArray⟩,.string ⟨(Lib.cut s.data.toList sep.data.toList).2.1.toArray⟩,.bool (Lib.cut s.data.toList sep.data.toList).2.2])/\∃ n,w'=w.drewN n:=Any.strings_Cut Tryz.laysB145 s sep m w hs hm
open Go.RowKit Go.Lib in
open Go.RowKit Go.Lib in
def Tryz.laysB212_ren:Go.Shelf.Ren:=⟨fun|212=>95|263=>137|264=>138|n=>n,fun|46=>122|51=>161|146=>162|53=>164|148=>165|n=>n,fun|n=>n⟩
theorem Tryz.laysB212:Go.Proofs.Lays.n212 Tryz.prog Tryz.laysB212_ren:={
 mixed:=by kernel_rfl
 f212:=Tryz.func95.trans (congrArg some (by kernel_rfl))
 f263:=Tryz.func137.trans (congrArg some (by kernel_rfl))
 f264:=Tryz.func138.trans (congrArg some (by kernel_rfl))
 t46:=Tryz.underlying122
 a46:=Tryz.isAgg122
 z46:=Tryz.sizeOf122
 v46:=Tryz.zeroValue122
 t51:=Tryz.underlying161
 a51:=Tryz.isAgg161
 z51:=Tryz.sizeOf161
 v51:=Tryz.zeroValue161
 t53:=Tryz.underlying164
 a53:=Tryz.isAgg164
 z53:=Tryz.sizeOf164
 v53:=Tryz.zeroValue164
 t146:=Tryz.underlying162
 a146:=Tryz.isAgg162
 z146:=Tryz.sizeOf162
 v146:=Tryz.zeroValue162
 t148:=Tryz.underlying165
 a148:=Tryz.isAgg165
 z148:=Tryz.sizeOf165
 v148:=Tryz.zeroValue165}
open Go.RowKit Go.Lib in
theorem Tryz.bits_Mul(x y:Nat)(hx:x<18446744073709551616)(hy:y<18446744073709551616)(w:World):
  Calls Tryz.prog 95 #[.int .u64 x,.int .u64 y] w fun e w'=>e= .returned (.tuple #[.int .u64 ((x*y/18446744073709551616:Nat):Int),.int .u64 ((x*y%18446744073709551616:Nat):Int)])/\w'=w:=Any.bits_Mul Tryz.laysB212 x y hx hy w
end Go.Proofs
end
section
namespace Go.Proofs
open Go.RowKit Go.Cm Go.Shelf
attribute [local go_sem] Oper.semAt_some
def zc4:List Value:= [.bool false,.slice none 0 0,.bool false,.slice none 0 0]
theorem P9(n:Nat):madeCells (Value.agg zc4.toArray).cells (n*4)=(cK n zc4).toArray:=
 gJ (t:=NT) (by decide) (by decide) n
theorem u46{n:Nat}(h:n<=1000):IntKind.u64.wrap (n:Int)=(n:Int):=by
 have h1:(n:Int)<=1000:=by omega
 unfold IntKind.wrap;have e:IntKind.u64.signed=false:=rfl;rw[e];simp only[Bool.false_and,Bool.false_eq_true,if_false];exact Int.emod_eq_of_lt (by omega) (Int.lt_of_le_of_lt h1 (by decide))
set_option maxRecDepth 100000 in
set_option maxHeartbeats 1000000 in
theorem KM(xs:List Value)(h4:xs.length=4)(h1:∀ u∈xs,u.oneCell'=true)(n:Nat)(hn:n<=1000)(b o c:Nat)(w:World)(hc:∀ j v,xs[j]? =some v->w.cell? ⟨b,o+j,none⟩=some v):
  Calls Tryz.prog 112 #[.slice (some ⟨b,o,none⟩) 1 c,.int .i64 n] w fun e w'=>e= .returned (.slice (some ⟨w.heap.size,0,none⟩) n n)/\w'.heap[w.heap.size]? =some (.cells (cK n xs).toArray 91 (0,0))/\Below w.heap.size w w':=by
 have t36:=Tryz.underlying79;have a36:=Tryz.isAgg79;have z36:=Tryz.sizeOf79;have v36:=Tryz.zeroValue79;have t3:=Tryz.underlying3;have a3:=Tryz.isAgg3;have z3:=Tryz.sizeOf3;have v3:=Tryz.zeroValue3;have t84:=Tryz.underlying122;have a84:=Tryz.isAgg122;have z84:=Tryz.sizeOf122;have v84:=Tryz.zeroValue122;have hmul:=fun w=>Tryz.bits_Mul 1 n (by omega) (by omega) w;have e1:1*n/18446744073709551616=0:=by omega
 have e2:1*n%18446744073709551616=n:=by omega
 rw[e1,e2] at hmul;have e64:∀ args w,(callFunc 95 args).run Tryz.prog w= .ok (.enter 95 args) w:=enters_of Tryz.func95 (by kernel_rfl) rfl;have w1:IntKind.u64.wrap (n:Int)=(n:Int):=u46 hn;have w2:IntKind.i64.wrap (n:Int)=(n:Int):=wo;have c1: ¬ (n:Int)<0:=by omega
 have c2: ¬ (9223372036854775807:Int)<(n:Int):=by omega
 obtain⟨i0,hi,hz0,hz1,hz2⟩:=info_parts (show (Tryz.prog.info? 91).map (fun i=>(i.zero,i.size,i.bytes))=some (some (.agg zc4.toArray),4,64) by kernel_rfl);have hs3:(Tryz.prog.info? 91).map (·.size)=some 4:=by rw[hi];simp[hz1]
 have hmk:=run_make (P:=Tryz.prog) w 79 91 i0 (.agg zc4.toArray) t36 hi hz0 .i64 .i64 (n:Int) (n:Int) (by omega) (Int.le_refl _) (by rw[hz2];omega) (by omega);have hmc:madeCells (Value.agg zc4.toArray).cells ((n:Int).toNat*i0.size)=(cK n zc4).toArray:=by
  rw[hz1,Int.toNat_natCast];exact P9 n
 rw[hmc,Int.toNat_natCast] at hmk;have hg:(w.alloc (.cells (cK n zc4).toArray 91)).heap[w.heap.size]? =some (.cells (cK n zc4).toArray 91 (0,0)):=by rw[World.alloc_heap_new]
 have hb1:Below w.heap.size w (w.alloc (.cells (cK n zc4).toArray 91)):=(Below.refl _ _).alloc (Nat.le_refl _) _;obtain⟨m0,hm0⟩:∃ m0,m0=min 1 n:=⟨_,rfl⟩;have hm01:m0<=1/\m0<=n/\(m0=0->n=0):=by omega
 have hrl:(cK n zc4).length=n*4:=eC n zc4;have hml:(cK m0 xs).length=m0*4:=by rw[eC,h4]
 have hsrc:∀ j u,(cK m0 xs)[j]? =some u->(w.alloc (.cells (cK n zc4).toArray 91)).cell? (Addr.add ⟨b,o,none⟩ j)=some u:=by
  intro j u hj;have hj1:=(List.getElem?_eq_some_iff.1 hj).1;have hm1:m0=1:=by omega
  rw[hm1,show cK 1 xs=xs by simp[cK]] at hj;have hcj:=hc j u hj;obtain⟨o1,ho1,_⟩:=cells_of_cell hcj;rw[Addr.add_mid];exact(World.cell?_alloc_lt (a:=⟨b,o+j,none⟩) _ _ (Array.getElem?_eq_some_iff.1 ho1).1).trans hcj
 go_enter Tryz.func112,Tryz.ntmps112
 go_wp2_with (first|(go_at_fn 95;refine(hmul _).mono ?_;rintro e w' ⟨rfl,hw'⟩;rw[hw'])|refine xj rfl (.tmp 31) (.tmp 32) 79 79 rfl 91 4 t36 hs3 (some ⟨w.heap.size,0,none⟩) (some ⟨b,o,none⟩) n n 1 c m0 rfl rfl w.heap.size 0 (cK n zc4) 91 hg (cK m0 xs) (by exact hm0) hml (fun _=>⟨rfl,_,rfl,hsrc⟩) (by rw[hml,hrl];omega) (fun u hu=>h1 u (zD hu)) w.heap.size w hb1 (Nat.le_refl _) ?_;intro w4 hg4 hb4)
 go_loopw [8] (fun s wr=>∃ k:Nat,s= .int .i64 k/\(k=0->n=0)/\k<=n/\wr.heap[w.heap.size]? =some (.cells (cK k xs++cK (n-k) zc4).toArray 91 (0,0))/\Below w.heap.size w wr)
  (fun s _=>n-(intOf s).toNat)
 case atStart=>exact⟨m0,by first|rfl|rw[hm0],hm01.2.2,hm01.2.1,by
  have e:splice (cK 0 xs++cK (n-0) zc4) (0*xs.length) (cK m0 xs)=_:=po (by rw[h4];rfl) (by omega);simp only[show cK 0 xs= [] by simp[cK],List.nil_append,Nat.sub_zero,Nat.zero_mul,Nat.zero_add] at e;rw[<- e];exact hg4.out,hb4⟩
 case round=>
  obtain⟨k,rfl,hk1,hkn,hgk,hbk⟩:=hrel;by_cases hlt:k<n
  ·(have d1:(k:Int)<(n:Int):=by omega);obtain⟨m,hm⟩:∃ m,m=Nat.min k (n-k):=⟨_,rfl⟩;(have hm2:m<=k/\m<=n-k/\(m=k∨m=n-k):=by rw[hm];show min k (n-k)<=k/\min k (n-k)<=n-k/\(min k (n-k)=k∨min k (n-k)=n-k);omega);(have hkl:(cK k xs).length=k*4:=by rw[eC,h4]);have hzl:(cK (n-k) zc4).length=(n-k)*4:=eC _ _;(have hmm:(cK m xs).length=m*4:=by rw[eC,h4]);have hcp:∀ j u,(cK m xs)[j]? =some u->wr.cell? (Addr.add ⟨w.heap.size,0,none⟩ j)=some u:=by
    intro j u hj;have hj1:=(List.getElem?_eq_some_iff.1 hj).1;have hpre:(cK k xs)[j]? =some u:=by
     rw[show k=m+(k-m) by omega,tM,List.getElem?_append_left hj1];exact hj
    rw[Addr.add_mid,Nat.zero_add];(have hjk:j<(cK k xs).length:=by omega);simp only[World.cell?,hgk];simp[List.getElem?_append_left hjk,hpre]
   (have hfit:k*4+(cK m xs).length<=(cK k xs++cK (n-k) zc4).length:=by rw[List.length_append,hkl,hzl,hmm];omega);have hnk: ¬n=k:=by omega
   go_wp2
   go_region_law (refine CX rfl (.tmp 41) (.tmp 44) 79 79 rfl 91 4 t36 hs3 (some ⟨w.heap.size,k*4,none⟩) (some ⟨w.heap.size,0,none⟩) (n-k) (n-k) k n m (by simp[Act.eval,Act.put]) (by simp[Act.eval,Act.put]) w.heap.size (k*4) _ 91 hgk (cK m xs) hm hmm (fun _=>⟨rfl,_,rfl,hcp⟩) hfit (fun u hu=>h1 u (zD hu)) w.heap.size w (show Below w.heap.size w wr.drew from⟨hbk.os,hbk.tape,hbk.output,hbk.size,hbk.block⟩) (Nat.le_refl _) ?_;intro w5 hg5 hb5)
   (have hw3:IntKind.i64.wrap ((k:Int)+((k.min (n-k):Nat):Int))=((k+m:Nat):Int):=by rw[<- hm,wo];omega);rw[hw3];simp only[Act.put,List.setIfInBounds_toArray,List.set_cons_succ,List.set_cons_zero,List.getElem_toArray,List.getElem_cons_succ,List.getElem_cons_zero]
   go_roundw
   case rel=>
    refine⟨_,_,_,_,_,_,_,_,_,_,_,_,_,_,⟨k+m,rfl,by omega,by omega,?_,hb5⟩,rfl⟩;have e:splice (cK k xs++cK (n-k) zc4) (k*xs.length) (cK m xs)=_:=po (by rw[h4];rfl) hm2.2.1;rw[h4] at e;rw[<- e];exact hg5.out
   case measure=>simp[intOf];omega
  ·(have hkk:k=n:=by omega);subst hkk;have d1: ¬ (k:Int)<(k:Int):=by omega
   go_wp2
   go_ret
   exact⟨rfl,by simpa [cK] using hgk,hbk⟩
theorem xk{w w':World}{O:Nat->Prop}{ρ0:Nat->Value}{fr:List Nat}{t:Ty}{T:TypeId}{xs:List t.D}{v:Value}{cells:List Value}(hO:∀ b,O b->b<w.heap.size)(hb:Below w.heap.size w w')(hs:∃ a n c,v= .slice a n c)(hr:∀ H:Nat->Prop,(∀ b,b<w.heap.size->H b->O b)->cG (fun c x=>t.rep H w' c x) cells xs)(hrow:Cm.rowAt (fun b=>w.heap.size<=b) w' T t.w v xs.length cells):
  ∃ (vs':List Value) (ρ1:Nat->Value),Ending.returned v= .returned (wO vs')/\([]:List aO).length=([]:List aO).length/\Bel (fun b=>w.heap.size<=b∨bw ρ0 [] b) w w'/\
   (∀ k,¬ (ioB<=k/\k<ioB+([]:List aO).length/\fr.contains (k-ioB)=true)->ρ1 k=ρ0 k)/\
   bx (ki (cM (hot O ρ1 (al ioB [])) [RV.own t T xs] vs') w' (fun b=>w.heap.size<=b∨bw ρ0 [] b)) [RV.own t T xs] vs'/\eY [RV.own t T xs] vs'/\
   (∀ p∈al ioB ([]:List aO),b6 (cM (hot O ρ1 (al ioB [])) [RV.own t T xs] vs') w' ρ1 (fun b=>w.heap.size<=b∨bw ρ0 [] b) p)/\
   mJ ρ1 (al ioB [])/\∀ b,bw ρ1 [] b-> ¬cM (fun _=>False) [RV.own t T xs] vs' b:=by
 have hnew:∀ b,Blk v b->w.heap.size<=b:=by
  intro b hbl;obtain⟨_,⟨rfl,_⟩|⟨g,cap,cur,rfl,hg,_⟩⟩:=hrow;·simp[Blk] at hbl
  ·simp[Blk] at hbl;exact hbl▸hg
 refine⟨[v],ρ0,rfl,rfl,⟨hb.os,hb.tape,hb.output,hb.size,fun k hk _=>hb.block k hk⟩,fun _ _=>rfl,⟨⟨hs,cells,hr _ ?_,?_⟩,trivial⟩,⟨fun _ b _ h=>h,trivial⟩,fun p hp=>by simp[al] at hp,List.Pairwise.nil,fun b hb=>by simp[bw,al] at hb⟩
 ·rintro b hlt (⟨_,h⟩|(h|⟨p,hp,_⟩));·have:=hnew b h;omega
  ·exact h
  ·simp[al] at hp
 ·obtain⟨h1,h2⟩:=hrow;refine⟨h1,h2.imp_right ?_⟩;rintro⟨g,cap,cur,e1,e2,e3⟩;exact⟨g,cap,cur,e1,.inl e2,e3⟩
def fg:Con:=fun l os=>match l,os with
 | [.z (.slice (.st (.pair (.st (.pair .bool (.slice (.int .u32)))) (.st (.pair .bool (.slice (.int .u32))))))) [x],.z (.int .i64) n],[]=>some (0<=n/\n<=1000,[.own tyN 91 (List.replicate n.toNat x)],[])
 |_,_=>none
theorem NB{n:Int}(h:0<=n/\n<=1000):∃ m:Nat,n=m/\m<=1000:=⟨n.toNat,by omega,by omega⟩
theorem vu{B:aj}(hB:aB B):Valid B Tryz.prog 112 fg:=by
 intro args os C rs os' hc hC O w vals ρ0 hOn hIo hO hOI hargs hown hap;unfold fg at hc;split at hc;case h_2=>cases hc
 rename_i x n;cases hc;obtain⟨u,z,rfl,hu,hz⟩:=yQ hargs;rw[bA hz];obtain⟨m,rfl,h2⟩:=NB hC;obtain⟨cells,hr,h⟩:=gT hu;have hl:=bH (fun c x h=>NT.rep_length h) hr;rcases h with⟨_,h0,_⟩|⟨ad,c,rfl,hc⟩;·simp at h0
 have h4:cells.length=4:=hl;obtain⟨c0,d0,rfl,hr0,hd0⟩:=hr;obtain rfl:d0= []:=hd0;rw[List.append_nil] at h4 hc;obtain⟨b,o,sp⟩:=ad;have hcell:w.cell? ⟨b,o,sp⟩=some (c0[0]'(by omega)):=by
  have:=hc 0 (c0[0]'(by omega)) (by simp);simpa [Addr.add] using this
 obtain rfl:sp=none:=by
  cases sp with
  |none=>rfl
  |some _=>simp only[World.cell?] at hcell;split at hcell<;>simp at hcell
 refine(KM c0 h4 (Ty.rep_oneCell NT hr0) m h2 b o c w (fun j v hj=>by have:=hc j v hj;rwa [Addr.add_mid] at this)).mono fun e w' ⟨he,hw,hb⟩=> ?_;subst he;rw[Int.toNat_natCast];refine xk hO hb ⟨_,_,_,rfl⟩ (cells:=cK m c0) (fun H hH=>eg ?_ m) ?_;·exact Ty.rep_move (t:=NT) (fun b hlt hb=> .inl (hH b hlt hb)) (fun b _ hlt=>hb.block b (cY hlt)) hr0
 ·rw[List.length_replicate];refine⟨by rw[eC,h4];rfl,.inr ⟨_,m,_,rfl,Nat.le_refl _,hw,Nat.le_refl _,by unfold maxLen;omega,?_,?_⟩⟩;·simp[eC,h4];exact Nat.le_refl _
  ·rw[List.toList_toArray];exact List.take_of_length_le (by rw[eC,h4];exact Nat.le_refl _)
attribute [local go_sem] Oper.semAt_some
def zN:ND:=((false,[]),(false,[]))
def jy(xs:List ND)(k:Nat):List LV:= [.z (.int .i64) ((xs.length:Int)-1-k),.z NT (xs.getD (xs.length-1-k) zN)]
def bV(xs:List ND):List (List LV):=(List.range xs.length).map (jy xs)
set_option maxRecDepth 100000 in
set_option maxHeartbeats 2000000 in
theorem KN(F:Fence)(h7:F.fn 125)(hro:F.round=none)(l Bs oB b off len cap:Nat)(cs:Nat->List Value)(h4:∀ j,j<len->(cs j).length=4)(hbig:len<=maxLen)(J:Nat->World->Prop)(Jx:World->Prop)(Kp:World->World->Prop)
  (W:World) (hBs:W.cell? ⟨Bs,oB,none⟩=some (.slice (some ⟨b,off,none⟩) len cap)) (hc:∀ j,j<len->∀ i,i<4->W.cell? ⟨b,off+j*4+i,none⟩=(cs j)[i]?)
  (hKp:∀ A B,Kp A B->(∃ o:Obj,A.heap[Bs]? =some o/\o.isCells=true)->((0<len)->∃ o:Obj,A.heap[b]? =some o/\o.isCells=true)->B.heap[Bs]? =A.heap[Bs]? /\(0<len->B.heap[b]? =A.heap[b]?))
  (hY:∀ k W1,J k W1->k<len->YieldAt F 0 Tryz.prog l #[.int .i64 ((len:Int)-1-k),.agg (cs (len-1-k)).toArray] W1 fun e W'=>(e= .returned (.bool true)/\J (k+1) W'/\Kp W1 W')∨(e= .returned (.bool false)/\Jx W'))
  (h0:J 0 W):
  CallsIn F 1 Tryz.prog 125 #[.func (.yield l) #[] #[],.pointer (some ⟨Bs,oB,none⟩)] W fun e W'=>(∃ v,e= .returned v)/\(J len W'∨Jx W'):=by
 unfold maxLen at hbig;refine callsIn_of_wp Tryz.func125 rfl h7 ?_ hro;simp only[Tryz.ntmps125,List.size_toArray,List.length_cons,List.length_nil,Nat.reduceAdd,Nat.reduceSub,Array.replicate_succ,Array.replicate_zero,List.push_toArray,List.append_toArray,List.nil_append,List.cons_append]
 gi_wp2
 gi_loopw [3] (fun i wr=>∃ k:Nat,k<=len/\i= .int .i64 ((len:Int)-1-k)/\J k wr/\wr.heap[Bs]? =W.heap[Bs]? /\(0<len->wr.heap[b]? =W.heap[b]?))
  (fun i _=>(intOf i+1).toNat)
 case atStart=>exact⟨0,Nat.zero_le _,by simp,h0,rfl,fun _=>rfl⟩
 case round=>
  obtain⟨k,hk,rfl,hJs,hn1,hn2⟩:=hrel;have hB1:wr.cell? ⟨Bs,oB,none⟩=some (.slice (some ⟨b,off,none⟩) len cap):=(World.cell?_of_block (a:=⟨Bs,oB,none⟩) hn1).trans hBs;by_cases hlt:k<len
  ·(have hge:0<=(len:Int)-1-k:=by omega);(have htn:((len:Int)-1-k).toNat=len-1-k:=by omega);(have hup:(len:Int)-1-k<len:=by omega);have hci:∀ i,i<4->wr.cell? ⟨b,off+(len-1-k)*4+i,none⟩=(cs (len-1-k))[i]? :=fun i hi=>(World.cell?_of_block (a:=⟨b,off+(len-1-k)*4+i,none⟩) (hn2 (by omega))).trans (hc _ (by omega) i hi);have hlk:=h4 (len-1-k) (by omega);obtain⟨x0,x1,x2,x3,hx⟩:∃ x0 x1 x2 x3,cs (len-1-k)= [x0,x1,x2,x3]:=by
    match h:cs (len-1-k),hlk with
    | [x0,x1,x2,x3],_=>exact⟨_,_,_,_,rfl⟩
   have hc0:wr.cell? ⟨b,off+(len-1-k)*4+0,none⟩=some x0:=(hci 0 (by omega)).trans (by rw[hx];rfl);have hcx:=hc0;have hload:=di (P:=Tryz.prog) (Go.Proofs.YtdojbabpnaifoaaGreatDoor.ty91) (w:=wr) (b:=b) (o:=off+(len-1-k)*4) (cells:=cs (len-1-k)) (by rw[hlk];rfl) (fun j hj=>hci j (by omega));have hcB:∃ o:Obj,wr.heap[Bs]? =some o/\o.isCells=true:=cells_of_cell hB1;have hcb:∃ o:Obj,wr.heap[b]? =some o/\o.isCells=true:=cells_of_cell hcx;have hYk:=hY k wr hJs hlt;rw[hx] at hYk hload;obtain⟨fn,tmps,assign,body,hy,hR⟩:=hYk
   gi_wp2
   refine hR.mono ?_;rintro e W3 (⟨rfl,hJ3,hk3⟩|⟨rfl,hJx3⟩)
   ·obtain⟨e1,e2⟩:=hKp _ _ hk3 hcB (fun _=>hcb)
    gi_wp2
    go_roundw
    (case rel=>exact⟨k+1,by omega,by congr 1;omega,hJ3,e1.trans hn1,fun h=>(e2 h).trans (hn2 h)⟩);case measure=>simp[intOf];omega
   ·gi_wp2
    refine bodyPost_ret (results_none rfl _ _ _) rfl ?_;exact⟨⟨_,rfl⟩,.inr hJx3⟩
  ·(have hk2:k=len:=by omega);(have hng: ¬0<=(len:Int)-1-k:=by omega);rw[hk2] at hJs;clear hk2
   gi_wp2
   go_end0
   exact⟨⟨_,rfl⟩,.inl hJs⟩
set_option maxRecDepth 100000 in
set_option maxHeartbeats 2000000 in
theorem vv(F:Fence)(h7:F.fn 125)(hro:F.round=none)(l Bs oB:Nat)(J:World->Prop)(W:World)(a:Option Addr)(cap:Nat)(hBs:W.cell? ⟨Bs,oB,none⟩=some (.slice a 0 cap))(h0:J W):
  CallsIn F 1 Tryz.prog 125 #[.func (.yield l) #[] #[],.pointer (some ⟨Bs,oB,none⟩)] W fun e W'=>(∃ v,e= .returned v)/\J W':=by
 refine callsIn_of_wp Tryz.func125 rfl h7 ?_ hro;simp only[Tryz.ntmps125,List.size_toArray,List.length_cons,List.length_nil,Nat.reduceAdd,Nat.reduceSub,Array.replicate_succ,Array.replicate_zero,List.push_toArray,List.append_toArray,List.nil_append,List.cons_append]
 gi_wp2
 gi_loopw [3] (fun i wr=>i= .int .i64 (-1)/\wr=W) (fun i _=>(intOf i+1).toNat)
 case atStart=>exact⟨rfl,rfl⟩
 case round=>
  obtain⟨rfl,rfl⟩:=hrel
  gi_wp2
  go_end0
  exact⟨⟨_,rfl⟩,h0⟩
theorem kK{H:Nat->Prop}{w:World}{b o:Nat}{c:Value}(h:dk H w b o [c]):w.cell? ⟨b,o,none⟩=some c/\b<w.heap.size/\ ¬H b:=
 ⟨by have:=h.2 0 (by simp);simpa using this,h.lt (by simp),h.1 (by simp)⟩
theorem vw(xs:List ND):mQ Tryz.prog 125 2 [.z (.ptr (.slice NT)) xs] (bV xs):=by
 refine⟨enters_of Tryz.func125 (by kernel_rfl) rfl,?_,?_⟩;·intro it hit;obtain⟨k,_,rfl⟩:=List.mem_map.1 hit;exact⟨rfl,rfl⟩
 ·intro H w lb hH hcap;obtain⟨v,rfl⟩:∃ v,lb= [v]:=by
   match lb,hcap with
   | [v],_=>exact⟨v,rfl⟩
   |_::_::_,h=>exact h.2.elim
  obtain⟨hag,bB,oB,cells,hv,hsl,hlies⟩:=hcap.1;have hv2:v= .pointer (some ⟨bB,oB,none⟩):=by
   have hone:=cp (v:=v) (by cases v<;>first|rfl|(simp[Ty.isAgg] at hag));rw[hone] at hv;simpa using hv
  subst hv2;have hlen:(bV xs).length=xs.length:=by simp[bV]
  rcases hsl with⟨rfl,rfl⟩|⟨b,o,p,cap,cs,rfl,hp,h1,h2,h3,h4⟩;·refine⟨fun k=> #[],fun k hk=>by simp[bV] at hk,?_⟩;intro l J Jx W hb _ _ _ _ hY h0;obtain⟨c1,c2,c3⟩:=kK hlies;exact(vv (fw none) trivial rfl l bB oB (J 0) W none 0 ((hb.cell (p:=⟨bB,oB,none⟩) c2).trans c1) h0).mono (fun e W' h=>⟨h.1,.inl h.2⟩)
  ·have hcl:cs.length=xs.length*4:=bH (fun c x h=>NT.rep_length h) h3;have hone:∀ j,j<xs.length->((cs.drop (j*4)).take 4).length=4:=by
    intro j hj;rw[List.length_take,List.length_drop,hcl];omega
   refine⟨fun k=> #[.int .i64 ((xs.length:Int)-1-k),.agg ((cs.drop ((xs.length-1-k)*4)).take 4).toArray],fun k hk=> ?_,?_⟩
   ·rw[hlen] at hk;have hg:=fo (fun c x h=>NT.rep_length h) h3 (xs.length-1-k) (by omega);simp only[bV,List.getElem_map,List.getElem_range];refine⟨bR (ρ:=fun _=>undef),?_,trivial⟩;have hx:xs.getD (xs.length-1-k) zN=xs[xs.length-1-k]'(by omega):=by
     rw[List.getD_eq_getElem?_getD,List.getElem?_eq_getElem (by omega)];rfl
    rw[hx];exact gl (t:=NT) hg (fun h=>by cases h) (fun h=>by cases h)
   ·(intro l J Jx W hb _ _ _ _ hY h0;rw[hlen] at hY ⊢;obtain⟨c1,c2,c3⟩:=kK hlies;by_cases hnil:xs= [];·subst hnil;exact(vv (fw none) trivial rfl l bB oB (J 0) W (some ⟨b,o,p⟩) cap ((hb.cell (p:=⟨bB,oB,none⟩) c2).trans c1) h0).mono (fun e W' h=>⟨h.1,.inl h.2⟩));obtain rfl:=hp hnil;(have hne:0<xs.length->cs≠ []:=fun h e=>by rw[e] at hcl;simp at hcl;omega);refine KN (fw none) trivial rfl l bB oB b o xs.length cap (fun j=>(cs.drop (j*4)).take 4) hone (Nat.le_trans h1 h2) J Jx (yP H w.heap.size) W ((hb.cell (p:=⟨bB,oB,none⟩) c2).trans c1) (fun j hj i hi=> ?_) (fun A B hk hA1 hA2=>⟨hk bB c2 c3 hA1,fun h=>hk b (h4.lt (hne h)) (h4.1 (hne h)) (hA2 h)⟩) hY h0;(have hj':j*4+i<cs.length:=by rw[hcl];omega);rw[Nat.add_assoc,hb.cell (p:=⟨b,o+(j*4+i),none⟩) (h4.lt (hne (by omega))),h4.2 (j*4+i) hj'];rw[List.getElem?_take,if_pos hi,List.getElem?_drop]
end Go.Proofs
end
section
namespace Go.Cm
open Go.Proofs
theorem zE{p:List ND}{k i:Nat}(h:Sz k p)(hi:i<p.length):p.getD i zN=bo (cf (au p) i):=by
 rw[<- fL h hi,dV (t:=NT) hi,List.getD_eq_getElem?_getD,List.getElem?_eq_getElem hi];rfl
theorem zF{p:List ND}{k:Nat}(hk:k<p.length):p.length-1-k<p.length:=by omega
theorem CY(p:List ND)(x:Rat):0=aW (List.drop (p.length-0) (au p)) x:=by
 rw[Nat.sub_zero,List.drop_of_length_le (by rw[aL];exact Nat.le_refl _)];rfl
theorem CZ{p:List ND}{x:Rat}{k:Nat}(hk:k<p.length):aW (List.drop (p.length-(k+1)) (au p)) x=aW (List.drop (p.length-k) (au p)) x*x+cf (au p) (p.length-1-k):=by
 rw[List.drop_eq_getElem_cons (by rw[aL];omega),show p.length-(k+1)+1=p.length-k by omega];have e:(au p)[p.length-(k+1)]'(by rw[aL];omega)=cf (au p) (p.length-1-k):=by
  unfold cf;rw[List.getD_eq_getElem?_getD,show p.length-1-k=p.length-(k+1) by omega,List.getElem?_eq_getElem (by rw[aL];omega)];rfl
 rw[e];rfl
theorem Hl{p:List ND}{x:ND}{k:Nat}(hC:Sz QM p/\p.length<=100/\NOK x/\lq (bD x)<=QM)(hk:k<p.length){v:Rat}(hz:v=aW (List.drop (p.length-k) (au p)) (bD x)):gh (bo v) x/\gh (bo (v*bD x)) (bo (cf (au p) (p.length-1-k))):=by
 obtain⟨h1,h2,h3,h4⟩:=hC;have e:QM=400000000:=rfl;have e2:QC=100000000000:=rfl;have hl:=Ev (l:=List.drop (p.length-k) (au p)) (x:=bD x) (K:=QM) (fun c hc=>by
  have hc':=List.mem_of_mem_drop hc;obtain⟨y,hy,rfl⟩:=List.mem_map.1 hc';exact(h1 y hy).2) h4
 rw[<- hz,List.length_drop,aL] at hl;have hm:=mm v (bD x);have hc:=h1.cf (by omega) (p.length-1-k);have h5:(p.length-(p.length-k))*(2*QM+1)<=100*(2*QM+1):=Nat.mul_le_mul_right _ (by omega);exact⟨⟨bY _,h3,by rw[aN];omega⟩,bY _,bY _,by rw[aN,aN];omega⟩
theorem KO(p:List ND)(x:Rat):aW (List.drop (p.length-(bV p).length) (au p)) x=aW (au p) x:=by
 rw[show (bV p).length=p.length by simp[bV],Nat.sub_self,List.drop_zero]
def tO(s b:List Rat)(c:Rat):List Rat:=bz (· + ·) (cZ s b) (aR [c])
def gF(p b:List Rat):Nat->List Rat
 |0=> []
 |k+1=>tO (gF p b k) b (cf p (p.length-1-k))
def kh(p b:List Rat):List Rat:=gF p b p.length
def C3(s b:List ND)(c:ND):Prop:=Sz QM s/\Sz QM b/\s.length<=100/\b.length<=100/\NOK c/\lq (bD c)<=QM/\Sz QH (aH (cZ (au s) (au b)))
def xl(p b:List ND):Prop:=Sz QM p/\p.length<=100/\∀ k,k<p.length->C3 (aH (gF (au p) (au b) k)) b (bo (cf (au p) (p.length-1-k)))
theorem tP(p q:List Rat):(cZ p q).length<=p.length+q.length:=by
 unfold cZ;split;·simp
 ·rw[dL];omega
theorem Hm{s b:List ND}{c:ND}(h:C3 s b c):(Sz QM s/\Sz QM b/\s.length<=100/\b.length<=100)/\(Sz QC [c]/\ [c].length<=QL)/\Sz QH (aH (cZ (au s) (au b)))/\Sz QH (aH (aR (au [c])))/\(aH (cZ (au s) (au b))).length<=1000/\(aH (aR (au [c]))).length<=1000:=by
 obtain⟨h1,h2,h3,h4,h5,h6,h7⟩:=h;have e:QM=400000000:=rfl;have e2:QC=100000000000:=rfl;have e3:QH=40000000000:=rfl;refine⟨⟨h1,h2,h3,h4⟩,⟨fun x hx=> ?_,by simp[QL]⟩,h7,fK fun x hx=> ?_,?_,?_⟩;·simp only[List.mem_singleton] at hx;subst hx;exact⟨h5,by omega⟩
 ·have:x=bD c:=by
   (simp only[au,List.map_cons,List.map_nil,aR] at hx;split at hx;·simp at hx);·simpa using hx
  rw[this];omega
 ·rw[aF];have:=tP (au s) (au b);rw[aL,aL] at this;omega
 ·rw[aF];have:=eH (au [c]);rw[aL] at this;simp only[List.length_cons,List.length_nil] at this;omega
theorem KP(x:Rat)(i k:Nat):x^(i+k)=x^i*x^k:=by
 induction k with
 |zero=>rw[Nat.add_zero,Rat.pow_zero,Rat.mul_one]
 |succ k ih=>rw[<- Nat.add_assoc,Rat.pow_succ,Rat.pow_succ,ih,Rat.mul_assoc]
theorem im(x:Rat):aW [] x=0:=rfl
theorem gO(c:Rat)(l:List Rat)(x:Rat):aW (c::l) x=aW l x*x+c:=rfl
theorem xm(c x:Rat):aW [c] x=c:=by rw[gO,im];grind
theorem nX(l m:List Rat)(x:Rat):aW (l++m) x=aW l x+x^l.length*aW m x:=by
 induction l with
 |nil=>simp only[List.nil_append,im,List.length_nil];grind
 |cons c l ih=>simp only[List.cons_append,gO,ih,List.length_cons];grind
theorem C4(n:Nat)(x:Rat):aW (List.replicate n 0) x=0:=by
 induction n with
 |zero=>rfl
 |succ n ih=>rw[List.replicate_succ,gO,ih];grind
theorem lB(l:List Rat)(x:Rat):aW (aR l) x=aW l x:=by
 induction l with
 |nil=>rfl
 |cons c l ih=>
  rw[gO,<- ih];simp only[aR];split
  ·(rename_i h;rw[h];split;·rename_i h0;rw[h0,im];grind);·rw[xm,im];grind
  ·rename_i y m h;rw[h,gO]
theorem KQ(l:List Rat)(j:Nat)(y x:Rat)(h:j<l.length):aW (l.set j y) x=aW l x+(y-cf l j)*x^j:=by
 induction l generalizing j with
 |nil=>simp at h
 |cons c l ih=>
  cases j with
  |zero=>simp only[List.set_cons_zero,gO,cf,List.getD_cons_zero];grind
  |succ j=>
   simp only[List.set_cons_succ,gO];rw[ih j (by simpa using h)];(have:cf (c::l) (j+1)=cf l j:=by simp[cf]);rw[this];grind
theorem pP(l:List Rat)(k:Nat)(x:Rat)(h:k<l.length):aW (l.take (k+1)) x=aW (l.take k) x+cf l k*x^k:=by
 rw[List.take_succ_eq_append_getElem h,nX,xm,List.length_take,Nat.min_eq_left (by omega)];unfold cf;rw[List.getD_eq_getElem?_getD,List.getElem?_eq_getElem h];simp only[Option.getD_some];grind
theorem KR(out:List Rat)(i:Nat)(a:Rat)(q:List Rat)(x:Rat):∀ k,k<=q.length->i+k<=out.length->aW (cA out i a q k) x=aW out x+a*x^i*aW (q.take k) x
 |0,_,_=>by simp only[cA,List.take_zero,im];grind
 |k+1,hk,h=>by
  rw[cA,KQ _ _ _ _ (by rw[il];omega),KR out i a q x k (by omega) (by omega),pP q k x (by omega)];have:x^(i+k)=x^i*x^k:=KP _ _ _;rw[this];grind
theorem tQ(out:List Rat)(i:Nat)(a:Rat)(q:List Rat)(x:Rat)(h:i+q.length<=out.length):aW (cA out i a q q.length) x=aW out x+a*x^i*aW q x:=by
 rw[KR _ _ _ _ _ _ (Nat.le_refl _) h,List.take_length]
theorem Ex(p q:List Rat)(x:Rat)(hq:0<q.length):∀ i,i<=p.length->aW (mulN p q i) x=aW (p.take i) x*aW q x
 |0,_=>by rw[mulN,C4,List.take_zero,im];grind
 |i+1,h=>by
  rw[mulN,tQ _ _ _ _ _ (by rw[dL];omega),Ex p q x hq i (by omega),pP p i x (by omega)];grind
theorem KS(p q:List Rat)(x:Rat):aW (cZ p q) x=aW p x*aW q x:=by
 unfold cZ;split;·rename_i h;rcases h with h|h<;>(subst h;simp only[im];grind)
 ·rename_i h;have hq:0<q.length:=List.length_pos_iff.2 fun e=>h (.inr e);rw[Ex p q x hq _ (Nat.le_refl _),List.take_length]
theorem kL(f:Nat->Rat)(x:Rat):∀ n,aW ((List.range (n+1)).map f) x=aW ((List.range n).map f) x+f n*x^n:=by
 intro n;rw[List.range_succ,List.map_append,nX];simp only[List.map_cons,List.map_nil,xm,List.length_map,List.length_range];grind
theorem cO{l:List Rat}{i:Nat}(h:l.length<=i):cf l i=0:=by
 unfold cf;rw[List.getD_eq_getElem?_getD,List.getElem?_eq_none h];rfl
theorem nc(l:List Rat)(x:Rat):∀ n,l.length<=n->aW ((List.range n).map (cf l)) x=aW l x:=by
 have h0:∀ n,n<=l.length->aW ((List.range n).map (cf l)) x=aW (l.take n) x:=by
  intro n;induction n with
  |zero=>intro _;rfl
  |succ n ih=>intro h;rw[kL,ih (by omega),pP l n x (by omega)]
 intro n;induction n with
 |zero=>intro h;rw[h0 0 (by omega),show l= [] from List.eq_nil_of_length_eq_zero (by omega)];rfl
 |succ n ih=>
  intro h;by_cases h2:l.length<=n;·rw[kL,ih h2,cO h2];grind
  ·rw[h0 _ (by omega),List.take_of_length_le (by omega)]
theorem vx(l m:List Rat)(x:Rat):∀ n,aW (bO (· + ·) l m n) x=aW ((List.range n).map (cf l)) x+aW ((List.range n).map (cf m)) x
 |0=>by simp only[bO,List.range_zero,List.map_nil,im];grind
 |n+1=>by
  have:=vx l m x n;unfold bO at this ⊢;rw[kL,kL,kL,this];grind
theorem vy(l m:List Rat)(x:Rat):∀ n,aW (bO (· - ·) l m n) x=aW ((List.range n).map (cf l)) x-aW ((List.range n).map (cf m)) x
 |0=>by simp only[bO,List.range_zero,List.map_nil,im];grind
 |n+1=>by
  have:=vy l m x n;unfold bO at this ⊢;rw[kL,kL,kL,this];grind
theorem KT(l m:List Rat)(x:Rat):aW (bz (· + ·) l m) x=aW l x+aW m x:=by
 rw[bz,lB,vx,nc _ _ _ (by omega),nc _ _ _ (by omega)]
theorem Pw(l m:List Rat)(x:Rat):aW (bz (· - ·) l m) x=aW l x-aW m x:=by
 rw[bz,lB,vy,nc _ _ _ (by omega),nc _ _ _ (by omega)]
theorem KU:∀ {l:List Rat},l≠ []->aK l≠0->∃ d X:Rat,0<d/\1<=X/\∀ x,X<=x->d<=(aW l x).abs
 | [],h,_=>absurd rfl h
 | [c],_,h=>by
  refine⟨c.abs,1,?_,by grind,fun x _=>by rw[xm];grind⟩;have:aK [c]=c:=rfl;rw[this] at h;unfold Rat.abs;split<;>grind
 |c::a::l,_,h=>by
  obtain⟨d,X,h1,h2,h3⟩:=KU (l:=a::l) (by simp) (by simpa [aK] using h);refine⟨d,max X ((d+c.abs)/d),h1,by grind,fun x hx=> ?_⟩;have h4:=h3 x (by grind);have h5:(d+c.abs)/d<=x:=by grind
  have h6:d+c.abs<=x*d:=by
   have:=Rat.mul_le_mul_of_nonneg_right h5 (Rat.le_of_lt h1);rwa [Rat.div_mul_cancel (by grind)] at this
  have h7:1<=x:=by grind
  have h8:x*d<=x*(aW (a::l) x).abs:=Rat.mul_le_mul_of_nonneg_left h4 (by grind);rw[gO];generalize aW (a::l) x=v at*;have h9:(v*x).abs=x*v.abs:=by
   by_cases hv:0<=v
   ·rw[Rat.abs_of_nonneg hv,Rat.abs_of_nonneg (Rat.mul_nonneg hv (by grind))];grind
   ·have h11:0<= -v*x:=Rat.mul_nonneg (by grind) (by grind);rw[Rat.abs_of_nonpos (by grind),Rat.abs_of_nonpos (by grind)];grind
  have h10:(v*x).abs<=(v*x+c).abs+c.abs:=by
   unfold Rat.abs;split<;>split<;>split<;>grind
  grind
theorem NC{l:List Rat}(h:Trm l)(h0:∀ x,aW l x=0):l= []:=by
 by_cases hn:l= []
 ·exact hn
 ·obtain⟨d,X,h1,h2,h3⟩:=KU hn (h hn);have:=h3 X (by grind);rw[h0 X] at this;rw[Rat.abs_zero] at this;grind
theorem jY(op:Rat->Rat->Rat)(l m:List Rat)(n i:Nat)(h:i<n):cf (bO op l m n) i=op (cf l i) (cf m i):=by
 unfold bO;conv=>lhs;unfold cf
 rw[List.getD_eq_getElem?_getD,List.getElem?_map,List.getElem?_range h];rfl
theorem pQ(l:List Rat)(i:Nat):cf (aR l) i=cf l i:=by
 induction l generalizing i with
 |nil=>rfl
 |cons c l ih=>
  simp only[aR];split
  ·rename_i h;rw[h] at ih;(have h0:∀ j,cf l j=0:=fun j=>by rw[<- ih j];simp[cf]);split
   ·rename_i hc;cases i with
    |zero=>simp[cf,hc]
    |succ i=>have:=h0 i;simp only[cf,List.getD_cons_succ] at this ⊢;rw[this];simp
   ·cases i with
    |zero=>simp[cf]
    |succ i=>have:=h0 i;simp only[cf,List.getD_cons_succ] at this ⊢;rw[this];simp
  ·rename_i y m h;rw[h] at ih;cases i with
   |zero=>simp[cf]
   |succ i=>have:=ih i;simp only[cf,List.getD_cons_succ] at this ⊢;exact this
theorem KV{l m:List Rat}(hl:Trm l)(hm:Trm m)(h:∀ i,cf l i=cf m i):l=m:=by
 have hlen:∀ {l m:List Rat},Trm l->(∀ i,cf l i=cf m i)->l.length<=m.length:=by
  intro l m hl h;by_cases hn:l= [];·subst hn;simp
  ·have hp:=List.length_pos_iff.2 hn;have h1:=hl hn;rw[cg hp,h] at h1;have: ¬m.length<=l.length-1:=fun e=>h1 (cO e);omega
 have e:l.length=m.length:=Nat.le_antisymm (hlen hl h) (hlen hm fun i=>(h i).symm);apply List.ext_getElem e;intro i h1 h2;have:=h i;unfold cf at this;rw[List.getD_eq_getElem?_getD,List.getD_eq_getElem?_getD,List.getElem?_eq_getElem h1,List.getElem?_eq_getElem h2] at this;exact this
theorem KW{l m:List Rat}(hl:Trm l)(hm:Trm m)(h:∀ x,aW l x=aW m x):l=m:=by
 have h0:bz (· - ·) l m= []:=NC (kJ _) fun x=>by rw[Pw,h];grind
 refine KV hl hm fun i=> ?_;by_cases hi:i<max l.length m.length
 ·have h1:=pQ (bO (· - ·) l m (max l.length m.length)) i;rw[show aR (bO (· - ·) l m (max l.length m.length))= [] from h0,jY _ _ _ _ _ hi] at h1;have:cf [] i=0:=by simp[cf]
  rw[this] at h1;grind
 ·rw[cO (by omega),cO (by omega)]
theorem Ey:Trm []:=fun h=>absurd rfl h
theorem nY{l:List Rat}(h:Trm l):aR l=l:=by
 by_cases hn:l= []
 ·subst hn;rfl
 ·exact mr hn (h hn)
theorem gZ(op:Rat->Rat->Rat)(l m:List Rat):Trm (bz op l m):=kJ _
theorem gj(op:Rat->Rat->Rat)(l m:List Rat):(bz op l m).length<=max l.length m.length:=by
 have:=eH (bO op l m (max l.length m.length));rw[dx] at this;exact this
theorem vz(p q:List Rat)(hq:0<q.length):∀ i,i<=p.length->∀ n,i+q.length<=n+1->cf (mulN p q i) n=0
 |0,_,n,_=>by
  rw[mulN];unfold cf;rw[List.getD_eq_getElem?_getD];by_cases h:n<p.length+q.length-1;·rw[List.getElem?_replicate,if_pos h];rfl
  ·rw[List.getElem?_eq_none (by simp;omega)];rfl
 |i+1,h,n,hn=>by
  rw[mulN,jW _ _ _ _ _ _ (by rw[dL];omega),if_neg (by omega)];exact vz p q hq i (by omega) n (by omega)
theorem KX{p q:List Rat}(hp:0<p.length)(hq:0<q.length):aK (mulN p q p.length)=aK p*aK q:=by
 obtain⟨n,hn⟩:∃ n,p.length=n+1:=⟨p.length-1,by omega⟩;rw[cg (by rw[dL];omega),dL,hn,mulN,jW _ _ _ _ _ _ (by rw[dL];omega),if_pos (by omega),vz p q hq n (by omega) _ (by omega:n+q.length<=(n+1+q.length-1-1)+1)];rw[cg hp,cg hq,hn];have e1:n+1+q.length-1-1-n=q.length-1:=by omega
 have e2:n+1-1=n:=by omega
 rw[e1,e2];grind
theorem xn{p q:List Rat}(hp:p≠ [])(hq:q≠ []):cZ p q=mulN p q p.length:=by
 unfold cZ;rw[if_neg];rintro(h|h);·exact hp h
 ·exact hq h
theorem pw{p q:List Rat}(hp:p≠ [])(hq:q≠ []):(cZ p q).length=p.length+q.length-1:=by
 rw[xn hp hq,dL]
theorem gk(q:List Rat):cZ [] q= []:=by unfold cZ;rw[if_pos (.inl rfl)]
theorem mw(p:List Rat):cZ p []= []:=by unfold cZ;rw[if_pos (.inr rfl)]
theorem Hn{p q:List Rat}(hp:p≠ [])(hq:q≠ []):aK (cZ p q)=aK p*aK q:=by
 rw[xn hp hq,KX (List.length_pos_iff.2 hp) (List.length_pos_iff.2 hq)]
theorem zG{p q:List Rat}(hp:Trm p)(hq:Trm q):Trm (cZ p q):=by
 intro h;by_cases h1:p= [];·subst h1;exact absurd (gk q) h
 by_cases h2:q= []
 ·subst h2;exact absurd (mw p) h
 rw[Hn h1 h2];have:=hp h1;have:=hq h2;grind
theorem C5{q r:List Rat}(h:q.length<=r.length)(x:Rat):aW (aR (ct q r)) x=aW r x-(aK r/aK q)*x^(r.length-q.length)*aW q x:=by
 rw[lB,ct,tQ _ _ _ _ _ (by omega)];grind
theorem zH{q:List Rat}(hq:0<q.length)(h0:aK q≠0)(x:Rat):∀ (n:Nat) (r s:List Rat),r.length<n->(∀ i,i+q.length<=r.length->cf s i=0)->r.length+1-q.length<=s.length->
  aW (eJ q n r s).1 x*aW q x+aW (eJ q n r s).2 x=aW s x*aW q x+aW r x
 |0,r,s,h,_,_=>absurd h (by omega)
 |n+1,r,s,h,hz,hs=>by
  rw[eJ];split;·rename_i hl;have h1:=e8 hq hl h0;rw[zH hq h0 x n _ _ (by omega) (fun i hi=>by rw[KB,if_neg (by omega)];exact hz i (by omega)) (by rw[List.length_set];omega)];rw[C5 hl,KQ _ _ _ _ (by omega),hz _ (by omega)];grind
  ·rfl
theorem NF{p q:List Rat}(hq:q≠ [])(h0:Trm q)(x:Rat):aW (divN p q).1 x*aW q x+aW (divN p q).2 x=aW p x:=by
 unfold divN;rw[zH (List.length_pos_iff.2 hq) (h0 hq) x _ _ _ (Nat.lt_succ_self _) (fun i _=> ?_) (by simp),C4];·grind
 ·unfold cf;rw[List.getD_eq_getElem?_getD,List.getElem?_replicate];split<;>rfl
def Den(b:Nat)(l:List Rat):Prop:=∃ D:Int,D≠0/\lw D<=b/\∀ i,∃ n:Int,lw n<=b/\cf l i=Rat.divInt n D
theorem Den.mono{b c:Nat}{l:List Rat}(h:Den b l)(hc:b<=c):Den c l:=by
 obtain⟨D,h1,h2,h3⟩:=h;exact⟨D,h1,by omega,fun i=>by obtain⟨n,a,e⟩:=h3 i;exact⟨n,by omega,e⟩⟩
theorem Den.lq{b:Nat}{l:List Rat}(h:Den b l):∀ x∈l,lq x<=b:=by
 obtain⟨D,h1,h2,h3⟩:=h;intro x hx;obtain⟨i,hi,rfl⟩:=List.getElem_of_mem hx;obtain⟨n,a,e⟩:=h3 i;unfold cf at e;rw[List.getD_eq_getElem?_getD,List.getElem?_eq_getElem hi] at e;simp only[Option.getD_some] at e;rw[e];have:=nR n D h1;omega
theorem Den.sz{b k:Nat}{l:List Rat}(h:Den b l)(hk:b<=k):Sz k (aH l):=fK fun x hx=>Nat.le_trans (h.lq x hx) hk
theorem Ho{b:Nat}{l m:List Rat}(h:Den b l)(he:∀ i,cf m i=cf l i):Den b m:=by
 obtain⟨D,h1,h2,h3⟩:=h;exact⟨D,h1,h2,fun i=>by rw[he];exact h3 i⟩
theorem kM{b:Nat}{l:List Rat}(h:Den b l):Den b (aR l):=Ho h fun i=>pQ l i
theorem pR{b:Nat}(hb:1<=b):Den b []:=⟨1,by decide,by rw[nQ];exact hb,fun i=>⟨0,by rw[gN];omega,by rw[Rat.zero_divInt];simp[cf]⟩⟩
theorem Den.pos{b:Nat}{l:List Rat}(h:Den b l):1<=b:=by
 obtain⟨D,h1,h2,_⟩:=h;have:lw D≠0:=fun e=>by have:=pf D;rw[e] at this;simp at this;omega
 omega
theorem vA{n D:Int}(hD:D≠0)(h:Rat.divInt n D≠0):n≠0:=fun e=>h (by rw[e,Rat.zero_divInt])
theorem KY(a b:Int):lw (a-b)<=max (lw a) (lw b)+1:=by
 have:=tj a (-b);rw[Kh] at this;exact this
theorem tS{b c:Nat}{q r:List Rat}(hr:Den b r)(hq:Den c q)(hl:q.length<=r.length)(h0:aK q≠0)(hp:0<q.length):Den (b+c+1) (aR (ct q r)):=by
 refine kM ?_;obtain⟨D,d1,d2,d3⟩:=hr;obtain⟨E,e1,e2,e3⟩:=hq;obtain⟨R,r1,r2⟩:=d3 (r.length-1);obtain⟨Q,q1,q2⟩:=e3 (q.length-1);rw[<- cg (by omega)] at r2;rw[<- cg hp] at q2;have hQ:Q≠0:=vA e1 (by rw[<- q2];exact h0);have hDQ:D*Q≠0:=Int.mul_ne_zero d1 hQ;refine⟨D*Q,hDQ,by have:=b7 D Q;omega,fun i=> ?_⟩;unfold ct;rw[jW _ _ _ _ _ _ (by omega)];obtain⟨n,n1,n2⟩:=d3 i;split
 ·obtain⟨m,m1,m2⟩:=e3 (i-(r.length-q.length));refine⟨n*Q-R*m,?_,?_⟩;·have:=b7 n Q;have:=b7 R m;have:=KY (n*Q) (R*m);omega
  ·rw[n2,m2,r2,q2];simp only[Rat.divInt_eq_div,Rat.intCast_mul,Rat.intCast_sub];(have f1:(D:Rat)≠0:=by simpa using d1);(have f2:(E:Rat)≠0:=by simpa using e1);(have f3:(Q:Rat)≠0:=by simpa using hQ);generalize (D:Rat)=D' at*;generalize (E:Rat)=E' at*;generalize (Q:Rat)=Q' at*;grind
 ·refine⟨n*Q,by have:=b7 n Q;omega,?_⟩;rw[n2,Rat.divInt_mul_right hQ]
theorem vB{b:Nat}{l:List Rat}(h:Den b l)(ht:Trm l):Den b (cX l):=by
 by_cases hn:l= []
 ·subst hn;exact h
 have hp:=List.length_pos_iff.2 hn;obtain⟨D,d1,d2,d3⟩:=h;obtain⟨R,r1,r2⟩:=d3 (l.length-1);rw[<- cg hp] at r2;have hR:R≠0:=vA d1 (by rw[<- r2];exact ht hn);refine⟨R,hR,r1,fun i=> ?_⟩;obtain⟨n,n1,n2⟩:=d3 i;refine⟨n,n1,?_⟩;have:cf (cX l) i=cf l i/aK l:=by
  unfold cX cf;simp only[List.getD_eq_getElem?_getD,List.getElem?_map];cases l[i]? with
  |none=>simp;grind
  |some x=>rfl
 rw[this,n2,r2];simp only[Rat.divInt_eq_div];have f1:(D:Rat)≠0:=by simpa using d1
 have f3:(R:Rat)≠0:=by simpa using hR
 generalize (D:Rat)=D' at*;generalize (R:Rat)=R' at*;grind
theorem zI{c:Nat}{q:List Rat}(hq:Den c q)(hp:0<q.length)(h0:aK q≠0):∀ (n:Nat) (r s:List Rat) (b:Nat),Den b r->Den (b+(r.length+1-q.length)*(c+1)) (eJ q n r s).2
 |0,r,s,b,h=>h.mono (by omega)
 |n+1,r,s,b,h=>by
  rw[eJ];split;·rename_i hl;have h1:=e8 hp hl h0;refine(zI hq hp h0 n _ _ _ (tS h hq hl h0 hp)).mono ?_;(have h2:(aR (ct q r)).length+1-q.length+1<=r.length+1-q.length:=by omega);have h3:=Nat.mul_le_mul_right (c+1) h2;rw[Nat.add_mul] at h3;omega
  ·exact h.mono (by omega)
theorem xo{c:Nat}{q:List Rat}(hq:Den c q)(hp:0<q.length)(h0:aK q≠0):∀ (n:Nat) (r:List Rat) (b:Nat),Den b r->b+(r.length+1-q.length)*(c+1)<=QD->tH q n r
 |0,r,b,h,hb=>trivial
 |n+1,r,b,h,hb=>by
  refine⟨fun x hx=>by have:=h.lq x hx;omega,fun hl=> ?_⟩;have h1:=e8 hp hl h0;refine xo hq hp h0 n _ _ (tS h hq hl h0 hp) ?_;have h2:(aR (ct q r)).length+1-q.length+1<=r.length+1-q.length:=by omega
  have h3:=Nat.mul_le_mul_right (c+1) h2;rw[Nat.add_mul] at h3;omega
theorem KZ{c K:Nat}{q:List Rat}(hq:Den c q)(hp:0<q.length)(h0:aK q≠0):∀ (n:Nat) (r s:List Rat) (b:Nat),Den b r->(∀ x∈s,lq x<=K)->b+(r.length+1-q.length)*(c+1)<=K->∀ x∈(eJ q n r s).1,lq x<=K
 |0,r,s,b,h,hs,hb=>hs
 |n+1,r,s,b,h,hs,hb=>by
  rw[eJ];split
  ·(rename_i hl;have h1:=e8 hp hl h0;(have h2:(aR (ct q r)).length+1-q.length+1<=r.length+1-q.length:=by omega);have h3:=Nat.mul_le_mul_right (c+1) h2;rw[Nat.add_mul] at h3;refine KZ hq hp h0 n _ _ _ (tS h hq hl h0 hp) ?_ (by omega);intro x hx;rcases List.mem_or_eq_of_mem_set hx with hx|rfl;·exact hs x hx);·have h4:=xb (aK r) (aK q);have h5:=h.lq (aK r) (by rw[cg (by omega)];exact tB (by omega));have h6:=hq.lq (aK q) (by rw[cg hp];exact tB (by omega));omega
  ·exact hs
theorem K0{p q:List ND}{b c:Nat}(hp:∀ x∈p,NOK x)(hq:∀ x∈q,NOK x)(dp:Den b (au p))(dq:Den c (au q))(l1:p.length<=900)(l2:q.length<=900)(hn:0<q.length)(tq:Trm (au q))
  (hb:b+(p.length+1-q.length)*(c+1)<=QD) (hc:c<=QD):fM p q:=by
 have hQ:QD<=QC:=by unfold QD QC;omega
 have hne:au q≠ []:=fun e=>by have:=congrArg List.length e;rw[aL,List.length_nil] at this;omega
 have hln:0<(au q).length:=by rw[aL];exact hn
 refine⟨hp,?_,l1,l2,hn,tq hne,xo dq hln (tq hne) _ _ _ dp (by rw[aL,aL];exact hb)⟩;have:=dq.sz hc;rwa [xi hq] at this
theorem xp{p q:List Rat}{b c K:Nat}(dp:Den b p)(dq:Den c q)(hn:q≠ [])(tq:Trm q)(hb:b+(p.length+1-q.length)*(c+1)<=K)(hK:1<=K):(∀ x∈(divN p q).1,lq x<=K)/\Den K (divN p q).2:=by
 unfold divN;refine⟨KZ dq (List.length_pos_iff.2 hn) (tq hn) _ _ _ _ dp (fun x hx=> ?_) hb,(zI dq (List.length_pos_iff.2 hn) (tq hn) _ _ _ _ dp).mono hb⟩;rw[(List.mem_replicate.1 hx).2];exact Nat.le_trans iQ hK
theorem tT(q:List Rat):∀ (n:Nat) (r s:List Rat),(eJ q n r s).1.length=s.length
 |0,_,_=>rfl
 |n+1,r,s=>by
  rw[eJ];split;·rw[tT q n,List.length_set]
  ·rfl
theorem lC(p q:List Rat):(divN p q).1.length=p.length+1-q.length:=by
 unfold divN;rw[tT];simp
theorem vC:∀ t:Nat,t+3<=3^(t+1)
 |0=>by decide
 |t+1=>by have:=vC t;rw[Nat.pow_succ];omega
theorem zJ:∀ (n:Nat) (p q:List Rat) (b:Nat),Den b p->Den b q->Trm p->Trm q->q.length<n->(b+1)*(p.length+1-q.length+1)*3^q.length<=QD->tI n p q/\Den ((b+1)*(p.length+1-q.length+1)*3^q.length) (ec n p q)
 |0,p,q,b,_,_,_,_,h,_=>absurd h (by omega)
 |n+1,p,q,b,dp,dq,tp,tq,hn,hb=>by
  have hpow:0<3^q.length:=Nat.pow_pos (by decide);have hb1:(b+1)*(p.length+1-q.length+1)<=QD:=Nat.le_trans (Nat.le_mul_of_pos_right _ hpow) hb;have hb2:b+(p.length+1-q.length)*(b+1)+1=(b+1)*(p.length+1-q.length+1):=by
   have e:=Nat.mul_add (b+1) (p.length+1-q.length) 1;rw[Nat.mul_one,Nat.mul_comm (b+1) (p.length+1-q.length)] at e;omega
  have hb3:b<=QD:=by
   have:0<=(p.length+1-q.length)*(b+1):=Nat.zero_le _;omega
  have hqh:QD<=QH:=by unfold QD QH;omega
  rw[tI,ec];by_cases hq:q= [];·rw[if_pos hq,if_pos hq];exact⟨fun x hx=>by have:=dp.lq x hx;omega,(vB dp tp).mono (Nat.le_trans (by omega:b<=(b+1)*(p.length+1-q.length+1)) (Nat.le_mul_of_pos_right _ hpow))⟩
  ·rw[if_neg hq,if_neg hq];have hl:=List.length_pos_iff.2 hq;have hs:=gi (p:=p) hl (tq hq);obtain⟨k1,k2⟩:=xp (K:=b+(p.length+1-q.length)*(b+1)) dp dq hq tq (Nat.le_refl _) (by have:=dp.pos;omega);have tr:=jx (q:=q) tp;have hm:=vB k2 tr;have hphi:(b+(p.length+1-q.length)*(b+1)+1)*(q.length+1-(cX (divN p q).2).length+1)*3^(cX (divN p q).2).length<=(b+1)*(p.length+1-q.length+1)*3^q.length:=by
    rw[hb2,b8];rw[Nat.mul_assoc];refine Nat.mul_le_mul_left _ ?_;obtain⟨t,ht⟩:∃ t,q.length=(divN p q).2.length+(t+1):=⟨q.length-(divN p q).2.length-1,by omega⟩;rw[ht,Nat.pow_add,Nat.mul_comm];refine Nat.mul_le_mul_left _ ?_;have:=vC t;omega
   obtain⟨g1,g2⟩:=zJ n q (cX (divN p q).2) _ (dq.mono (by omega)) hm tq (gY tr) (by rw[b8];omega) (Nat.le_trans hphi hb);exact⟨⟨xo dq hl (tq hq) _ _ _ dp (by omega),fun x hx=>by have:=dq.lq x hx;omega,fun x hx=>by have:=k2.lq x hx;omega,g1⟩,g2.mono hphi⟩
theorem Px{p q:List ND}{b:Nat}(hp:∀ x∈p,NOK x)(hq:∀ x∈q,NOK x)(dp:Den b (au p))(dq:Den b (au q))(l1:p.length<=900)(l2:q.length<=900)(tp:Trm (au p))(tq:Trm (au q))
  (hb:(b+1)*(p.length+1-q.length+1)*3^q.length<=QD):iR p q/\Den ((b+1)*(p.length+1-q.length+1)*3^q.length) (cB (au p) (au q)):=by
 obtain⟨h1,h2⟩:=zJ (q.length+1) (au p) (au q) b dp dq tp tq (by rw[aL];omega) (by rw[aL,aL];exact hb);refine⟨⟨hp,hq,l1,l2,tp,tq,h1⟩,?_⟩;rw[aL,aL] at h2;unfold cB;rw[aL];exact h2
theorem den_add{b c:Nat}{l m:List Rat}(hl:Den b l)(hm:Den c m):Den (b+c+1) (bz (· + ·) l m):=by
 refine kM ?_;obtain⟨D,d1,d2,d3⟩:=hl;obtain⟨E,e1,e2,e3⟩:=hm;refine⟨D*E,Int.mul_ne_zero d1 e1,by have:=b7 D E;omega,fun i=> ?_⟩;by_cases hi:i<max l.length m.length;·rw[jY _ _ _ _ _ hi];obtain⟨n,n1,n2⟩:=d3 i;obtain⟨k,k1,k2⟩:=e3 i;refine⟨n*E+k*D,by have:=b7 n E;have:=b7 k D;have:=tj (n*E) (k*D);omega,?_⟩;rw[n2,k2,Rat.divInt_add_divInt _ _ d1 e1]
 ·refine⟨0,by rw[gN];omega,?_⟩;rw[cO (by rw[dx];omega),Rat.zero_divInt]
theorem NG{b c:Nat}{l m:List Rat}(hl:Den b l)(hm:Den c m):Den (b+c+1) (bz (· - ·) l m):=by
 refine kM ?_;obtain⟨D,d1,d2,d3⟩:=hl;obtain⟨E,e1,e2,e3⟩:=hm;refine⟨D*E,Int.mul_ne_zero d1 e1,by have:=b7 D E;omega,fun i=> ?_⟩;by_cases hi:i<max l.length m.length;·rw[jY _ _ _ _ _ hi];obtain⟨n,n1,n2⟩:=d3 i;obtain⟨k,k1,k2⟩:=e3 i;refine⟨n*E-k*D,by have:=b7 n E;have:=b7 k D;have:=KY (n*E) (k*D);omega,?_⟩;rw[n2,k2,Rat.divInt_sub_divInt _ _ d1 e1]
 ·refine⟨0,by rw[gN];omega,?_⟩;rw[cO (by rw[dx];omega),Rat.zero_divInt]
theorem K1{a:Int}{b:Nat}(h:lw a<=b):(a.natAbs:Int)<=LB^b:=by
 have:=sY a h;omega
theorem zK{b c:Nat}{p q:List Rat}{D E:Int}(d1:D≠0)(e1:E≠0)(hp:∀ i,∃ n:Int,lw n<=b/\cf p i=Rat.divInt n D)(hq:∀ i,∃ n:Int,lw n<=c/\cf q i=Rat.divInt n E)(hl:0<q.length):
  ∀ i,i<=p.length->∀ n,∃ N:Int,(N.natAbs:Int)<=i*(LB^b*LB^c)/\cf (mulN p q i) n=Rat.divInt N (D*E)
 |0,_,n=>⟨0,by simp,by
   (rw[Rat.zero_divInt];by_cases h:n<(mulN p q 0).length;·unfold mulN cf;rw[List.getD_eq_getElem?_getD,List.getElem?_replicate];split<;>rfl);·exact cO (by omega)⟩
 |i+1,h,n=>by
  obtain⟨N,h1,h2⟩:=zK d1 e1 hp hq hl i (by omega) n;rw[mulN,jW _ _ _ _ _ _ (by rw[dL];omega)];have hpos:(0:Int)<=LB^b*LB^c:=Int.mul_nonneg (Int.le_of_lt (lbpos _)) (Int.le_of_lt (lbpos _));have e:((i+1:Nat):Int)*(LB^b*LB^c)=(i:Int)*(LB^b*LB^c)+LB^b*LB^c:=by rw[Int.natCast_add,Int.add_mul];simp
  rw[e];split
  ·obtain⟨x,x1,x2⟩:=hp i;obtain⟨y,y1,y2⟩:=hq (n-i);refine⟨N+x*y,?_,?_⟩
   ·have h3:=K1 x1;have h4:=K1 y1;have h5:(x.natAbs:Int)*(y.natAbs:Int)<=LB^b*LB^c:=by
     have h6:(x.natAbs:Int)*(y.natAbs:Int)<=LB^b*(y.natAbs:Int):=Int.mul_le_mul_of_nonneg_right h3 (by omega);have h7:LB^b*(y.natAbs:Int)<=LB^b*LB^c:=Int.mul_le_mul_of_nonneg_left h4 (Int.le_of_lt (lbpos _));omega
    have h8:(N+x*y).natAbs<=N.natAbs+(x*y).natAbs:=Int.natAbs_add_le _ _;rw[Int.natAbs_mul] at h8;have h9:((N+x*y).natAbs:Int)<=(N.natAbs:Int)+(x.natAbs:Int)*(y.natAbs:Int):=by
     rw[<- Int.natCast_mul];omega
    omega
   ·rw[h2,x2,y2,Rat.divInt_mul_divInt,Rat.divInt_add_divInt _ _ (Int.mul_ne_zero d1 e1) (Int.mul_ne_zero d1 e1),<- Int.add_mul,Rat.divInt_mul_right (Int.mul_ne_zero d1 e1)]
  ·exact⟨N,by omega,h2⟩
theorem den_mul{b c:Nat}{p q:List Rat}(hp:Den b p)(hq:Den c q)(hl:p.length<1000000000):Den (b+c+1) (cZ p q):=by
 have hb:=hp.pos;by_cases h1:p= [];·subst h1;rw[gk];exact pR (by omega)
 by_cases h2:q= []
 ·subst h2;rw[mw];exact pR (by omega)
 rw[xn h1 h2];obtain⟨D,d1,d2,d3⟩:=hp;obtain⟨E,e1,e2,e3⟩:=hq;refine⟨D*E,Int.mul_ne_zero d1 e1,by have:=b7 D E;omega,fun n=> ?_⟩;obtain⟨N,k1,k2⟩:=zK d1 e1 d3 e3 (List.length_pos_iff.2 h2) _ (Nat.le_refl _) n;refine⟨N,kE ?_,k2⟩;have k3:(0:Int)<LB^b*LB^c:=Int.mul_pos (lbpos _) (lbpos _);have k4:(p.length:Int)*(LB^b*LB^c)<LB*(LB^b*LB^c):=Int.mul_lt_mul_of_pos_right (by show (p.length:Int)<1000000000;omega) k3;have k5:(LB:Int)^(b+c+1)=LB*(LB^b*LB^c):=by rw[Int.pow_succ,Int.pow_add,Int.mul_comm]
 omega
theorem Ez{b:Nat}{l:List Rat}(h:Den b l):(l.length<1000000000)->Den (b+1) (cx l):=by
 intro hl;obtain⟨D,d1,d2,d3⟩:=h;refine⟨D,d1,by omega,fun i=> ?_⟩;by_cases hi:i<l.length-1
 ·obtain⟨n,n1,n2⟩:=d3 (i+1);have:cf (cx l) i=cf l (i+1)*Rat.divInt ((i+1:Nat):Int) 1:=by
   (unfold cx mv;conv=>lhs;unfold cf);rw[List.getD_eq_getElem?_getD,List.getElem?_map,List.getElem?_range hi];rfl
  refine⟨n*((i+1:Nat):Int),?_,?_⟩;·have h1:lw (((i+1:Nat):Int))<=1:=kE (by show _<(1000000000:Int)^1;omega);have:=b7 n ((i+1:Nat):Int);omega
  ·rw[this,n2,Rat.divInt_mul_divInt,Int.mul_one]
 ·refine⟨0,by rw[gN];omega,?_⟩;rw[Rat.zero_divInt,cO];unfold cx mv;simp;omega
end Go.Cm
end
section
namespace Go.Cm
open Go.Proofs
def bK(p:List (List UInt8)):Int:=
 if 41<p.length then 40 else if p.all (fun q=>decide (cb q=0))=false then 40
 else if p≠ []/\p.getLastD []= [48] then 40 else 0
def bh(p:List (List UInt8)):List Rat:=if bK p=0 then p.map bF else []
def cT(p:List (List UInt8)):Prop:=p.length<=QL/\∀ q∈p,q.length<=QL
theorem nZ{q:List UInt8}(h:cb q=0)(hl:q.length<=QL):eA q/\gv q=bo (bF q):=by
 have:RQ q:=⟨by rw[h];decide,hl⟩;exact⟨this.form,this.raw⟩
theorem tU{p:List (List UInt8)}{k:Nat}(hk:k<p.length)(h:(p.take k).all (fun q=>decide (cb q=0))=true)(hb:cb (nth .str p (k:Int))=0):(p.take (k+1)).all (fun q=>decide (cb q=0))=true:=by
 have e:nth .str p (k:Int)=p[k]:=dV (t:= .str) hk;rw[List.take_succ_eq_append_getElem hk,List.all_append,h];rw[e] at hb;simp[hb]
theorem Hp{p:List (List UInt8)}{k:Nat}(hk:k<p.length)(h41:p.length<=41)(hb: ¬cb (nth .str p (k:Int))=0):bK p=40:=by
 have e:nth .str p (k:Int)=p[k]:=dV (t:= .str) hk;rw[e] at hb;unfold bK;rw[if_neg (by omega),if_pos];rw[List.all_eq_false];exact⟨p[k],List.getElem_mem hk,by simpa using hb⟩
theorem tV{p:List (List UInt8)}(hs:cT p)(h:p.all (fun q=>decide (cb q=0))=true):(∀ q∈p,eA q)/\p.map gv=aH (p.map bF):=by
 rw[List.all_eq_true] at h;refine⟨fun q hq=>(nZ (by simpa using h q hq) (hs.2 q hq)).1,?_⟩;unfold aH;rw[List.map_map];exact List.map_congr_left fun q hq=>(nZ (by simpa using h q hq) (hs.2 q hq)).2
theorem C6{p:List (List UInt8)}(hl:p.length<=41):(decide ((0:Int)<(p.length:Int))=true->decide ((0:Int)<(p.length:Int))=true)/\(decide ((0:Int)<(p.length:Int))=true->decide ((0:Int)<(p.length:Int))=true)/\(decide ((0:Int)<(p.length:Int))=true->decide ((0:Int)<(p.length:Int))=true/\0<=IntKind.i64.wrap ((p.length:Int)-1)/\IntKind.i64.wrap ((p.length:Int)-1)<(p.length:Int))/\(decide ((0:Int)<(p.length:Int))=true->decide ((0:Int)<(p.length:Int))=true):=by
 refine⟨id,id,fun h=> ?_,id⟩;have h2:=of_decide_eq_true h;rw[b9 (by omega)];exact⟨h,by omega,by omega⟩
theorem tW{p:List (List UInt8)}(h:bK p=40): []=aH (bh p)/\40=bK p:=by
 refine⟨?_,h.symm⟩;unfold bh;rw[if_neg (by rw[h];decide)];rfl
theorem C7{p:List (List UInt8)}(h:41<p.length):bK p=40:=by unfold bK;rw[if_pos h]
theorem kN{p:List (List UInt8)}(hl:p.length<=41)(h:0<p.length):nth .str p (IntKind.i64.wrap ((p.length:Int)-1))=p.getLastD []:=by
 rw[b9 (by omega),show (p.length:Int)-1=((p.length-1:Nat):Int) by omega,dV (t:= .str) (by omega)];rw[List.getLastD_eq_getLast?,List.getLast?_eq_getElem?,List.getElem?_eq_getElem (by omega)];rfl
theorem C8{p:List (List UInt8)}(hl:p.length<=41)(ha:p.all (fun q=>decide (cb q=0))=true)(h:0<(p.length:Int)/\nth .str p (IntKind.i64.wrap ((p.length:Int)-1))= [48]):bK p=40:=by
 rw[kN hl (by omega)] at h;unfold bK;rw[if_neg (by omega),if_neg (by rw[ha];decide),if_pos];refine⟨fun e=> ?_,h.2⟩;rw[e] at h;exact absurd h.1 (by decide)
theorem K2{p:List (List UInt8)}(hs:cT p)(hl:p.length<=41)(ha:p.all (fun q=>decide (cb q=0))=true)(h:0<(p.length:Int)-> ¬nth .str p (IntKind.i64.wrap ((p.length:Int)-1))= [48]):p.map gv=aH (bh p)/\0=bK p:=by
 have hc:bK p=0:=by
  unfold bK;rw[if_neg (by omega),if_neg (by rw[ha];decide),if_neg];intro h2;have h3:0<p.length:=by cases p with|nil=>exact absurd rfl h2.1|cons=>simp
  exact h (by omega) (by rw[kN hl h3];exact h2.2)
 refine⟨?_,hc.symm⟩;unfold bh;rw[if_pos hc];exact(tV hs ha).2
end Go.Cm
namespace Go.Cm
open Go.Proofs
def bQ:List (List (List UInt8))->Int
 | []=>0
 |p::l=>if bK p=0 then bQ l else bK p
def gG(l:List (List (List UInt8))):List (List ND):=if bQ l=0 then l.map fun p=>aH (bh p) else []
theorem K3{l:List (List (List UInt8))}(h:∀ p∈l,bK p=0):bQ l=0:=by
 induction l with
 |nil=>rfl
 |cons a l ih=>
  unfold bQ;rw[if_pos (h a (by simp))];exact ih fun p hp=>h p (by simp[hp])
theorem Hq{l:List (List (List UInt8))}{k:Nat}(hk:k<l.length)(h:(l.take k).all (fun p=>decide (bK p=0))=true)(hb: ¬bK l[k]=0):bQ l=bK l[k]:=by
 induction l generalizing k with
 |nil=>simp at hk
 |cons a l ih=>
  unfold bQ;cases k with
  |zero=>exact if_neg hb
  |succ k=>
   simp only[List.take_succ_cons,List.all_cons,Bool.and_eq_true,decide_eq_true_eq] at h;rw[if_pos h.1];exact ih (by simpa using hk) h.2 (by simpa using hb)
end Go.Cm
namespace Go.Cm
open Go.Proofs
theorem tX{l:List (List (List UInt8))}{k:Nat}(hl:l.length<=1000)(hk:k<l.length)(g:(l.take k).all (fun p=>decide (bK p=0))=true)(hb:bK (nth (.slice .str) l (k:Int))=0):
  IntKind.i64.wrap ((k:Int)+1)=((k+1:Nat):Int)/\(l.take k).map (fun p=>aH (bh p))++ [aH (bh (nth (.slice .str) l (k:Int)))]=(l.take (k+1)).map (fun p=>aH (bh p))/\k+1<=l.length/\(l.take (k+1)).all (fun p=>decide (bK p=0))=true/\l.length-(k+1)<l.length-k:=by
 have e:nth (.slice .str) l (k:Int)=l[k]:=dV (t:= .slice .str) hk;rw[e] at hb ⊢;refine⟨wo,?_,hk,?_,by omega⟩;·rw[List.take_succ_eq_append_getElem hk,List.map_append];rfl
 ·rw[List.take_succ_eq_append_getElem hk,List.all_append,g];simp[hb]
theorem zL{l:List (List (List UInt8))}{k:Nat}(hk:k<l.length)(g:(l.take k).all (fun p=>decide (bK p=0))=true)(hb: ¬bK (nth (.slice .str) l (k:Int))=0): []=gG l/\bK (nth (.slice .str) l (k:Int))=bQ l:=by
 have e:nth (.slice .str) l (k:Int)=l[k]:=dV (t:= .slice .str) hk;rw[e] at hb ⊢;have h:=Hq hk g hb;refine⟨?_,h.symm⟩;unfold gG;rw[if_neg (by rw[h];exact hb)]
theorem K4{l:List (List (List UInt8))}(g:l.all (fun p=>decide (bK p=0))=true):l.map (fun p=>aH (bh p))=gG l/\0=bQ l:=by
 have h:bQ l=0:=K3 fun p hp=>by
  rw[List.all_eq_true] at g;simpa using g p hp
 refine⟨?_,h.symm⟩;unfold gG;rw[if_pos h]
end Go.Cm
namespace Go.Cm
open Go.Proofs
theorem zM{l:List (List (List UInt8))}(hl:l.length<=1000)(hk:0<l.length)(hb:bK (nth (.slice .str) l 0)=0):
  IntKind.i64.wrap (0+1)=((1:Nat):Int)/\ [aH (bh (nth (.slice .str) l 0))]=(l.take 1).map (fun p=>aH (bh p))/\1<=l.length/\(l.take 1).all (fun p=>decide (bK p=0))=true/\l.length-1<l.length+1:=by
 have h:=tX (k:=0) hl hk rfl hb;exact⟨h.1,h.2.1,hk,h.2.2.2.1,by omega⟩
theorem Hr{l:List (List (List UInt8))}(hk:0<l.length)(hb: ¬bK (nth (.slice .str) l 0)=0): []=gG l/\bK (nth (.slice .str) l 0)=bQ l:=zL (k:=0) hk rfl hb
theorem Hs{l:List (List (List UInt8))}(h: ¬0<l.length): []=gG l/\0=bQ l:=by
 cases l with
 |nil=>exact⟨rfl,rfl⟩
 |cons=>simp at h
end Go.Cm
namespace Go.Cm
open Go.Proofs
def cl(l:List Rat):Int:=if 41<l.length then 3 else if dw (aH l)=true then 0 else 6
def fQ(l:List Rat):List (List UInt8):=if cl l=0 then l.map bk else []
theorem C9{l:List Rat}(h:41<l.length): []=fQ l/\3=cl l:=by
 have e:cl l=3:=by unfold cl;rw[if_pos h]
 exact⟨by unfold fQ;rw[if_neg (by rw[e];decide)],e.symm⟩
theorem Ht{l:List Rat}(h: ¬41<l.length)(hf:dw (aH l)=false): []=fQ l/\6=cl l:=by
 have e:cl l=6:=by unfold cl;rw[if_neg h,if_neg (by rw[hf];decide)]
 exact⟨by unfold fQ;rw[if_neg (by rw[e];decide)],e.symm⟩
theorem K5{l:List Rat}(h: ¬41<l.length)(hf:dw (aH l)=true):(if dw (aH l)=true then (aH l).map fun x=>bk (bD x) else [])=fQ l/\0=cl l:=by
 have e:cl l=0:=by unfold cl;rw[if_neg h,if_pos hf]
 refine⟨?_,e.symm⟩;unfold fQ;rw[if_pos e,if_pos hf,aH,List.map_map];exact List.map_congr_left fun x _=>by simp only[Function.comp,aN]
end Go.Cm
namespace Go.Cm
open Go.Proofs
theorem hZ{l:List Rat}:∀ x∈aR l,x∈l:=by
 induction l with
 |nil=>intro x hx;exact hx
 |cons a l ih=>
  intro x hx;unfold aR at hx;split at hx
  ·(split at hx;·simp at hx);·simp at hx;simp[hx]
  ·(rename_i h;rcases List.mem_cons.1 hx with h2|h2;·simp[h2]);·exact List.mem_cons_of_mem _ (ih x (by rw[h];exact h2))
theorem Hu{p:List ND}(h:Sz QC p/\p.length<=QL)(hl: ¬41<(aR (au p)).length):(aH (aR (au p))).length<QL/\∀ x∈aH (aR (au p)),NOK x/\lq (bD x)<=QC:=by
 refine⟨by rw[aF];unfold QL;omega,?_⟩;refine fK (k:=QC) fun x hx=> ?_;obtain⟨y,hy,rfl⟩:=List.mem_map.1 (hZ x hx);exact(h.1 y hy).2
end Go.Cm
end
section
namespace Go.Cm
open Go.Proofs
def cC(f:List Rat->List Rat->List Rat)(p q:List (List UInt8)):Int:=if bQ [p,q]=0 then cl (aR (f (bh p) (bh q))) else bQ [p,q]
def cr(f:List Rat->List Rat->List Rat)(p q:List (List UInt8)):List (List UInt8):=if bQ [p,q]=0 then fQ (aR (f (bh p) (bh q))) else []
def bL(D:List ND->List ND->Prop)(f:List Rat->List Rat->List Rat)(p q:List (List UInt8)):Prop:=
 cT p/\cT q/\(bQ [p,q]=0->D (aH (bh p)) (aH (bh q))/\Sz QC (aH (f (bh p) (bh q)))/\(f (bh p) (bh q)).length<=QL)
theorem n9{p q:List (List UInt8)}(h:bQ [p,q]=0):gG [p,q]= [aH (bh p),aH (bh q)]:=by
 unfold gG;rw[if_pos h];rfl
theorem iq{f:List Rat->List Rat->List Rat}{p q:List (List UInt8)}(h: ¬bQ [p,q]=0): []=cr f p q/\bQ [p,q]=cC f p q:=by
 unfold cr cC;rw[if_neg h,if_neg h];exact⟨rfl,rfl⟩
theorem jZ{f:List Rat->List Rat->List Rat}{p q:List (List UInt8)}(h:bQ [p,q]=0):fQ (aR (f (bh p) (bh q)))=cr f p q/\cl (aR (f (bh p) (bh q)))=cC f p q:=by
 unfold cr cC;rw[if_pos h,if_pos h];exact⟨rfl,rfl⟩
end Go.Cm
namespace Go.Cm
open Go.Proofs
theorem iS{p q:List (List UInt8)}(h:bQ [p,q]=0):nth (.slice NT) (gG [p,q]) 0=aH (bh p):=by rw[n9 h];rfl
theorem iT{p q:List (List UInt8)}(h:bQ [p,q]=0):nth (.slice NT) (gG [p,q]) 1=aH (bh q):=by rw[n9 h];rfl
theorem gw{p q:List (List UInt8)}(h:bQ [p,q]=0):(gG [p,q]).length=2:=by rw[n9 h];rfl
end Go.Cm
namespace Go.Cm
open Go.Proofs
theorem gx{p q:List (List UInt8)}(hp:cT p)(hq:cT q): [p,q].length<=1000/\∀ x∈ [p,q],cT x:=by
 refine⟨by simp,fun x hx=> ?_⟩;simp only[List.mem_cons,List.not_mem_nil,or_false] at hx;rcases hx with rfl|rfl;·exact hp
 ·exact hq
end Go.Cm
end
section
namespace Go.Cm
open Go.Proofs
theorem zO(n:Int):∀ c∈Lib.itoa n,c≠47:=by
 obtain⟨d1,_,_,_⟩:=jT n.natAbs;intro c hc;unfold Lib.itoa at hc;split at hc
 ·rcases List.mem_cons.1 hc with h|h;·rw[h];decide
  ·have:=d1 c h;intro hc;rw[hc] at this;revert this;decide
 ·have e:n.toNat=n.natAbs:=by omega
  rw[e] at hc;have:=d1 c hc;intro hc;rw[hc] at this;revert this;decide
theorem K6{a b:List UInt8}(h:∀ c∈a,c≠47):tN (a++47::b)=a/\bE (a++47::b)=true:=by
 constructor
 ·unfold tN;induction a with
  |nil=>simp
  |cons c l ih=>
   have:=h c (by simp);rw[List.cons_append,List.takeWhile_cons,if_pos (by simpa using this),ih fun d hd=>h d (by simp[hd])]
 ·unfold bE;simp
theorem mz{a:List UInt8}(h:∀ c∈a,c≠47):bE a=false:=by
 unfold bE;rw[List.any_eq_false];intro c hc;simpa using h c hc
theorem gy(x:Rat):tN (bk x)=Lib.itoa x.num/\tD (bk x)=Lib.itoa (x.den:Int)/\bE (bk x)= !decide (x.den=1):=by
 unfold bk;by_cases h:x.den=1
 ·rw[if_pos h];have hs:=mz (zO x.num);refine⟨tv hs,?_,by rw[hs,h];rfl⟩;unfold tD;rw[hs,h,if_neg (by decide)];have h0: [49]=Lib.itoa ((1:Nat):Int):=by decide+kernel
  exact h0
 ·rw[if_neg h,List.append_assoc];obtain⟨h1,h2⟩:=K6 (b:=Lib.itoa (x.den:Int)) (zO x.num);rw[show [47]++Lib.itoa (x.den:Int)=47::Lib.itoa (x.den:Int) from rfl];refine⟨h1,?_,by rw[h2];simp[h]⟩;unfold tD;rw[if_pos h2];unfold tR;rw[h1,List.drop_append,List.drop_of_length_le (by omega)];simp
theorem dR(x:Rat):bF (bk x)=x:=by
 obtain⟨h1,h2,_⟩:=gy x;unfold bF;rw[h1,h2,(bc _).2,(bc _).2];exact Rat.num_divInt_den x
theorem vD(x:Rat):cb (bk x)=ph x:=by
 obtain⟨h1,h2,h3⟩:=gy x;unfold cb;rw[h1,h2,(bc _).2,(bc _).2,if_neg,if_neg]
 ·unfold ph fJ;by_cases h:cS x.num<=2000/\cS (x.den:Int)<=2000;·rw[if_neg (by omega),if_pos (decide_eq_true h)]
  ·rw[if_pos (by omega),if_neg (by simpa using h)]
 ·rintro⟨hs,h⟩;have hg:cw x.num (x.den:Int)=1:=by
   rw[<- kF,Int.gcd_comm];have:=x.reduced;unfold Nat.Coprime at this;unfold Int.gcd;rw[Int.natAbs_natCast,this];rfl
  rw[h3] at hs;have h4: ¬x.den=1:=by simpa using hs
  have:=x.den_pos;rcases h with h|h;·omega
  ·exact h hg
 ·rintro(h|h);·exact(bc x.num).1 h
  ·exact(bc (x.den:Int)).1 h
theorem Da{x:Rat}:ph x=0↔fJ x=true:=by
 unfold ph;split;·rename_i h;simp[h]
 ·rename_i h;simp[h]
theorem vE{q:List UInt8}(h:cb q=0)(hl:q.length<=QL):bk (bF q)=q/\fJ (bF q)=true:=by
 have hr:RQ q:=⟨by rw[h];decide,hl⟩;obtain⟨p1,p2⟩:=hr.parts;obtain⟨f1,f2,_⟩:=hr.form;have hc:=hr.chk;rw[h] at hc;constructor
 ·unfold bk;cases hs:bE q
  ·(have e:tD q= [49]:=by unfold tD;rw[hs];rfl);rw[e,lA] at p2;rw[if_pos (by omega),p1,tv hs];rw[tv hs] at f1;exact jv f1
  ·have h5: ¬an (tD q)<=1:=by
    (intro hle;unfold cb at h;split at h;·exact absurd h (by decide));·rw[if_pos ⟨hs,.inl hle⟩] at h;exact absurd h (by decide)
   rw[if_neg (by omega),p1,p2,jv f1,jv f2];have h6:=kI hs;rw[if_pos hs] at h6;rw[<- h6];have hcut:∀ q:List UInt8,bE q=true->tN q++ [47]++tR q=q:=by
    intro q hq;induction q with
    |nil=>simp[bE] at hq
    |cons c l ih=>
     by_cases hc:c=47
     ·subst hc;simp[tN,tR]
     ·(have h2:bE l=true:=by simpa [bE,hc] using hq);(have h3:tN (c::l)=c::tN l:=by simp[tN,hc]);(have h4:tR (c::l)=tR l:=by unfold tR;rw[h3];simp);rw[h3,h4];have:=ih h2;simpa using this
   exact hcut q hs
 ·unfold fJ;rw[decide_eq_true_eq,p1,p2];split at hc;·exact absurd hc (by decide)
  ·omega
theorem ir{x:Rat}:bk x= [48]↔x=0:=by
 have h0:bk 0= [48]:=by decide+kernel
 constructor;·intro h;have:=dR x;rw[h,<- h0,dR] at this;exact this.symm
 ·rintro rfl;exact h0
def txP(l:List Rat):List (List UInt8):=l.map bk
def jz(l:List Rat):Bool:=l.all fJ
theorem vF(l:List Rat):dw (aH l)=jz l:=by
 unfold dw jz aH;rw[List.all_map];congr 1;funext x;simp[aN]
theorem b4(l:List Rat):(txP l).length=l.length:=by simp[txP]
theorem EA(l:List Rat):(txP l).map bF=l:=by
 unfold txP;rw[List.map_map];conv=>rhs;rw[<- List.map_id l]
 exact List.map_congr_left fun x _=>dR x
theorem zP{l:List Rat}(h:l≠ []):(txP l).getLastD []=bk (aK l):=by
 unfold txP aK;rw[List.getLastD_eq_getLast?,List.getLastD_eq_getLast?,List.getLast?_map,List.getLast?_eq_some_getLast h];rfl
theorem EB(l:List Rat):(txP l).all (fun q=>decide (cb q=0))=jz l:=by
 unfold txP jz;rw[List.all_map];congr 1;funext x;simp only[Function.comp,vD];rw[Bool.eq_iff_iff,decide_eq_true_iff,Da]
theorem EC{l:List Rat}(hl:l.length<=41)(ht:Trm l)(hf:jz l=true):bK (txP l)=0/\bh (txP l)=l:=by
 have hc:bK (txP l)=0:=by
  unfold bK;rw[if_neg (by rw[b4];omega),if_neg (by rw[EB,hf];decide),if_neg];rintro⟨h1,h2⟩;have hn:l≠ []:=fun e=>h1 (by rw[e];rfl);rw[zP hn,ir] at h2;exact ht hn h2
 refine⟨hc,?_⟩;unfold bh;rw[if_pos hc,EA]
theorem ED{p:List (List UInt8)}(hs:cT p)(h:bK p=0):txP (bh p)=p/\(bh p).length<=41/\Trm (bh p)/\jz (bh p)=true:=by
 unfold bK at h;split at h;·exact absurd h (by decide)
 rename_i h1;split at h;·exact absurd h (by decide)
 rename_i h2;split at h;·exact absurd h (by decide)
 rename_i h3;have h2:p.all (fun q=>decide (cb q=0))=true:=by simpa using h2
 have hn:bh p=p.map bF:=by
  unfold bh;rw[if_pos];unfold bK;rw[if_neg h1,if_neg (by rw[h2];decide),if_neg h3]
 have ht:txP (p.map bF)=p:=by
  unfold txP;rw[List.map_map];conv=>rhs;rw[<- List.map_id p]
  rw[List.all_eq_true] at h2;exact List.map_congr_left fun q hq=>(vE (by simpa using h2 q hq) (hs.2 q hq)).1
 rw[hn];refine⟨ht,by rw[List.length_map];omega,fun hne hl=>h3 ⟨fun e=>hne (by rw[e];rfl),?_⟩,?_⟩;·rw[<- ht,zP hne,ir];exact hl
 ·rw[<- EB,ht,h2]
theorem EE{n:Int}{k:Nat}(h:lw n<=k)(hk:9*k+1<=2000):cS n<=2000:=by
 have h1:=K1 h;rw[M6] at h1;have h0:=pf n;rw[dQ];have h2:n.natAbs<10^(9*k):=by
  have:=sY n h;rw[M6] at this;omega
 have:=w9 h2;omega
theorem NH{x:Rat}(h:lq x<=222):fJ x=true:=by
 have:=dU x;have:=dD x;exact decide_eq_true ⟨EE (k:=222) (by omega) (by omega),EE (k:=222) (by omega) (by omega)⟩
theorem K7{l:List Rat}{b:Nat}(h:Den b l)(hb:b<=222):jz l=true:=by
 unfold jz;rw[List.all_eq_true];exact fun x hx=>NH (Nat.le_trans (h.lq x hx) hb)
structure Pol (l:List Rat):Prop where
 len:l.length<=41
 trm:Trm l
 fit:jz l=true
theorem Pol.chk{l:List Rat}(h:Pol l):bK (txP l)=0:=(EC h.len h.trm h.fit).1
theorem Pol.num{l:List Rat}(h:Pol l):bh (txP l)=l:=(EC h.len h.trm h.fit).2
theorem oa{x:Rat}{k:Nat}(h:lq x<=k):(bk x).length<=18*k+5:=by
 have h1:=fI x.num;have h2:=fI (x.den:Int);have:=dU x;have:=dD x;unfold bk;split;·omega
 ·simp only[List.length_append,List.length_cons,List.length_nil];omega
theorem K8{n:Int}{K:Nat}(hn:((Lib.decDigits n.natAbs).length:Int)<=(K:Int)):lw n<=K:=by
 refine kE ?_;obtain⟨d1,d2,_,_⟩:=jT n.natAbs;have h2:=gq d1;rw[d2] at h2;have h3:(10:Nat)^(Lib.decDigits n.natAbs).length<=10^K:=Nat.pow_le_pow_right (by omega) (by omega);have h4:(10:Nat)^K<=1000000000^K:=Nat.pow_le_pow_left (by omega) _;have h5:(LB^K:Int)=((1000000000^K:Nat):Int):=by rw[Int.natCast_pow];rfl
 rw[h5];exact_mod_cast Nat.lt_of_lt_of_le h2 (Nat.le_trans h3 h4)
theorem EF{x:Rat}(h:fJ x=true):lq x<=2000:=by
 unfold fJ at h;rw[decide_eq_true_eq,dQ,dQ] at h;exact Nat.max_le.2 ⟨K8 h.1,K8 h.2⟩
theorem Pol.lq{l:List Rat}(h:Pol l):∀ x∈l,lq x<=2000:=by
 have:=h.fit;unfold jz at this;rw[List.all_eq_true] at this;exact fun x hx=>EF (this x hx)
theorem Pol.short{l:List Rat}(h:Pol l):cT (txP l):=by
 have e:QL=1000000000:=rfl;refine⟨by rw[b4];have:=h.len;omega,fun q hq=> ?_⟩;obtain⟨x,hx,rfl⟩:=List.mem_map.1 hq;have:=oa (h.lq x hx);omega
theorem EG:Pol []:=⟨by simp,Ey,rfl⟩
theorem vG{l m:List Rat}(hl:Pol l)(hm:Pol m):bQ [txP l,txP m]=0:=by
 simp only[bQ,hl.chk,hm.chk,if_true]
theorem iu{D:List ND->List ND->Prop}{f:List Rat->List Rat->List Rat}{l m:List Rat}(hl:Pol l)(hm:Pol m)(hD:D (aH l) (aH m))(hs:∀ x∈f l m,Cm.lq x<=QC)(hn:(f l m).length<=QL):bL D f (txP l) (txP m):=by
 refine⟨hl.short,hm.short,fun _=> ?_⟩;rw[hl.num,hm.num];exact⟨hD,fK hs,hn⟩
theorem Pol.enc_ok{l:List Rat}{k:Nat}(h:Pol l)(hk:2000<=k):Sz k (aH l):=fK fun x hx=>Nat.le_trans (h.lq x hx) hk
theorem EH{l m:List Rat}(hl:Pol l)(hm:Pol m):bL (fun p q=>Sz QH p/\Sz QH q/\p.length<=1000/\q.length<=1000) (bz (· + ·)) (txP l) (txP m):=by
 have e1:QH=40000000000:=rfl;have e2:QL=1000000000:=rfl;have h1:=hl.len;have h2:=hm.len;have hs1:=hl.enc_ok (k:=QH) (by omega);have hs2:=hm.enc_ok (k:=QH) (by omega);refine iu hl hm ⟨hs1,hs2,by rw[aF];omega,by rw[aF];omega⟩ ?_ (by have:=gj (· + ·) l m;omega);intro x hx;have h3:=xe zx hs1 hs2 (max l.length m.length);rw[aJ,aJ] at h3;have h4:=hZ x hx;have h5:=(h3 (bo x) (List.mem_map.2 ⟨x,h4,rfl⟩)).2;rwa [aN] at h5
theorem EI{l m:List Rat}(hl:Pol l)(hm:Pol m):bL (fun p q=>Sz QH p/\Sz QH q/\p.length<=1000/\q.length<=1000) (bz (· - ·)) (txP l) (txP m):=by
 have e1:QH=40000000000:=rfl;have e2:QL=1000000000:=rfl;have h1:=hl.len;have h2:=hm.len;have hs1:=hl.enc_ok (k:=QH) (by omega);have hs2:=hm.enc_ok (k:=QH) (by omega);refine iu hl hm ⟨hs1,hs2,by rw[aF];omega,by rw[aF];omega⟩ ?_ (by have:=gj (· - ·) l m;omega);intro x hx;have h3:=xe zy hs1 hs2 (max l.length m.length);rw[aJ,aJ] at h3;have h4:=hZ x hx;have h5:=(h3 (bo x) (List.mem_map.2 ⟨x,h4,rfl⟩)).2;rwa [aN] at h5
theorem EJ{l m:List Rat}(hl:Pol l)(hm:Pol m):bL (fun p q=>Sz QM p/\Sz QM q/\p.length<=100/\q.length<=100) cZ (txP l) (txP m):=by
 have e1:QM=400000000:=rfl;have e2:QL=1000000000:=rfl;have e3:QC=100000000000:=rfl;have h1:=hl.len;have h2:=hm.len;refine iu hl hm ⟨hl.enc_ok (by omega),hm.enc_ok (by omega),by rw[aF];omega,by rw[aF];omega⟩ ?_ (by have:=tP l m;omega);intro x hx;unfold cZ at hx;split at hx;·simp at hx
 ·have h3:=KC (K:=2000) (fun n=>kg hl.lq (by omega) n) (fun n=>kg hm.lq (by omega) n) l.length (Nat.le_refl _) x hx;have h4:l.length*(2*2000+1)<=41*(2*2000+1):=Nat.mul_le_mul_right _ h1;omega
def dvE(p q:List (List UInt8)):Int:=
 if bQ [p,q]=0 then
  if bh q= [] then 2
  else if cl (aR (divN (bh p) (bh q)).1)=0 then cl (aR (divN (bh p) (bh q)).2) else cl (aR (divN (bh p) (bh q)).1)
 else bQ [p,q]
def dvS(p q:List (List UInt8)):List (List UInt8):=if dvE p q=0 then fQ (aR (divN (bh p) (bh q)).1) else []
def dvR(p q:List (List UInt8)):List (List UInt8):=if dvE p q=0 then fQ (aR (divN (bh p) (bh q)).2) else []
structure K9 (p q:List (List UInt8)):Prop where
 sp:cT p
 sq:cT q
 ok:bQ [p,q]=0->bh q≠ []->fM (aH (bh p)) (aH (bh q))/\(Sz QC (aH (divN (bh p) (bh q)).1)/\(aH (divN (bh p) (bh q)).1).length<=QL)/\(Sz QC (aH (divN (bh p) (bh q)).2)/\(aH (divN (bh p) (bh q)).2).length<=QL)
theorem La{p q:List (List UInt8)}(h: ¬bQ [p,q]=0): []=dvS p q/\ []=dvR p q/\bQ [p,q]=dvE p q:=by
 have e:dvE p q=bQ [p,q]:=if_neg h;refine⟨?_,?_,e.symm⟩;·unfold dvS;rw[if_neg (by rw[e];exact h)]
 ·unfold dvR;rw[if_neg (by rw[e];exact h)]
theorem Lb{p q:List (List UInt8)}(h:bQ [p,q]=0)(h2:(aH (bh q)).length=0): []=dvS p q/\ []=dvR p q/\2=dvE p q:=by
 have hq:bh q= []:=by rw[aF] at h2;exact List.eq_nil_of_length_eq_zero h2
 have e:dvE p q=2:=by unfold dvE;rw[if_pos h,if_pos hq]
 refine⟨?_,?_,e.symm⟩;·unfold dvS;rw[if_neg (by rw[e];decide)]
 ·unfold dvR;rw[if_neg (by rw[e];decide)]
theorem NI{q:List (List UInt8)}(h2: ¬ (aH (bh q)).length=0):bh q≠ []:=by
 intro h;rw[h] at h2;exact h2 rfl
theorem NJ{p q:List (List UInt8)}(h:bQ [p,q]=0)(h2:bh q≠ [])(h3: ¬cl (aR (divN (bh p) (bh q)).1)=0): []=dvS p q/\ []=dvR p q/\cl (aR (divN (bh p) (bh q)).1)=dvE p q:=by
 have e:dvE p q=cl (aR (divN (bh p) (bh q)).1):=by unfold dvE;rw[if_pos h,if_neg h2,if_neg h3]
 refine⟨?_,?_,e.symm⟩;·unfold dvS;rw[if_neg (by rw[e];exact h3)]
 ·unfold dvR;rw[if_neg (by rw[e];exact h3)]
theorem Lc{p q:List (List UInt8)}(h:bQ [p,q]=0)(h2:bh q≠ [])(h3:cl (aR (divN (bh p) (bh q)).1)=0):dvE p q=cl (aR (divN (bh p) (bh q)).2):=by
 unfold dvE;rw[if_pos h,if_neg h2,if_pos h3]
theorem NK{p q:List (List UInt8)}(h:bQ [p,q]=0)(h2:bh q≠ [])(h3:cl (aR (divN (bh p) (bh q)).1)=0)(h4: ¬cl (aR (divN (bh p) (bh q)).2)=0): []=dvS p q/\ []=dvR p q/\cl (aR (divN (bh p) (bh q)).2)=dvE p q:=by
 have e:=Lc h h2 h3;refine⟨?_,?_,e.symm⟩;·unfold dvS;rw[if_neg (by rw[e];exact h4)]
 ·unfold dvR;rw[if_neg (by rw[e];exact h4)]
theorem NL{p q:List (List UInt8)}(h:bQ [p,q]=0)(h2:bh q≠ [])(h3:cl (aR (divN (bh p) (bh q)).1)=0)(h4:cl (aR (divN (bh p) (bh q)).2)=0):
  fQ (aR (divN (bh p) (bh q)).1)=dvS p q/\fQ (aR (divN (bh p) (bh q)).2)=dvR p q/\0=dvE p q:=by
 have e:=Lc h h2 h3;rw[h4] at e;refine⟨?_,?_,e.symm⟩;·unfold dvS;rw[if_pos e]
 ·unfold dvR;rw[if_pos e]
def nd(p q:List (List UInt8)):Prop:=bK p=0/\bK q=0/\0<p.length/\0<q.length/\40<(p.length-1)*(q.length-1)
instance (p q:List (List UInt8)):Decidable (nd p q):=by unfold nd;infer_instance
def vH(p q:List (List UInt8)):Int:=if nd p q then 3 else cC kh p q
def vI(p q:List (List UInt8)):List (List UInt8):=if nd p q then [] else cr kh p q
structure xq (p q:List (List UInt8)):Prop where
 sp:cT p
 sq:cT q
 ok: ¬nd p q->bL xl kh p q
theorem Hv{p q:List (List UInt8)}(hp:bK p=0)(hq:bK q=0)(h1:0<p.length)(h2:0<q.length):IntKind.i64.wrap (IntKind.i64.wrap ((p.length:Int)-1)*IntKind.i64.wrap ((q.length:Int)-1))=(((p.length-1)*(q.length-1):Nat):Int):=by
 have k1:p.length<=41:=by
  unfold bK at hp;split at hp;·exact absurd hp (by decide)
  ·omega
 have k2:q.length<=41:=by
  unfold bK at hq;split at hq;·exact absurd hq (by decide)
  ·omega
 rw[b9 (by omega),b9 (by omega)];have e1:(p.length:Int)-1=((p.length-1:Nat):Int):=by omega
 have e2:(q.length:Int)-1=((q.length-1:Nat):Int):=by omega
 rw[e1,e2,<- Int.natCast_mul];have h3:(p.length-1)*(q.length-1)<=40*40:=Nat.mul_le_mul (by omega) (by omega);generalize (p.length-1)*(q.length-1)=n at*;exact wo
theorem Ld{p q:List (List UInt8)}{b:Bool}(h:(bK p==0&&bK q==0&&decide ((0:Int)<(p.length:Int))&&decide ((0:Int)<(q.length:Int))&&decide ((40:Int)<IntKind.i64.wrap (IntKind.i64.wrap ((p.length:Int)-1)*IntKind.i64.wrap ((q.length:Int)-1))))=b):decide (nd p q)=b:=by
 rw[<- h];clear h;unfold nd;by_cases h1:bK p=0
 ·by_cases h2:bK q=0
  ·by_cases h3:0<p.length
   ·by_cases h4:0<q.length
    ·rw[Hv h1 h2 h3 h4,Bool.eq_iff_iff];simp only[h1,h2,h3,h4,true_and,decide_eq_true_eq,Bool.and_eq_true,beq_self_eq_true];generalize (p.length-1)*(q.length-1)=n;omega
    ·(have: ¬ (0:Int)<(q.length:Int):=by omega);simp[h4]
   ·(have: ¬ (0:Int)<(p.length:Int):=by omega);simp[h3]
  ·simp[h2]
 ·simp[h1]
theorem Py{p q:List (List UInt8)}(h:nd p q): []=vI p q/\3=vH p q:=by
 unfold vI vH;rw[if_pos h,if_pos h];exact⟨rfl,rfl⟩
theorem Pz{p q:List (List UInt8)}(h: ¬nd p q):cr kh p q=vI p q/\cC kh p q=vH p q:=by
 unfold vI vH;rw[if_neg h,if_neg h];exact⟨rfl,rfl⟩
def evE(p:List (List UInt8))(x:List UInt8):Int:=if bQ [p]=0 then if cb x=0 then ph (aW (bh p) (bF x)) else cb x else bQ [p]
def evS(p:List (List UInt8))(x:List UInt8):List UInt8:=if evE p x=0 then bk (aW (bh p) (bF x)) else []
structure Le (p:List (List UInt8)) (x:List UInt8):Prop where
 sp:cT p
 sx:x.length<=QL
 ok:bQ [p]=0->cb x=0->Sz QM (aH (bh p))/\(bh p).length<=100/\lq (bF x)<=QM/\lq (aW (bh p) (bF x))<=QC
theorem Lf{p:List (List UInt8)}(h:bQ [p]=0):gG [p]= [aH (bh p)]:=by
 unfold gG;rw[if_pos h];rfl
theorem Qa{p:List (List UInt8)}(h:bQ [p]=0):nth (.slice NT) (gG [p]) 0=aH (bh p):=by rw[Lf h];rfl
theorem PA{p:List (List UInt8)}(h:bQ [p]=0):(gG [p]).length=1:=by rw[Lf h];rfl
theorem Lg{p:List (List UInt8)}{x:List UInt8}(h:Le p x): [p].length<=1000/\∀ y∈ [p],cT y:=
 ⟨by simp,fun y hy=>by rw[List.mem_singleton] at hy;subst hy;exact h.sp⟩
theorem PB{p:List (List UInt8)}{x:List UInt8}(h: ¬bQ [p]=0): []=evS p x/\bQ [p]=evE p x:=by
 have e:evE p x=bQ [p]:=if_neg h;exact⟨by unfold evS;rw[if_neg (by rw[e];exact h)],e.symm⟩
theorem NM{p:List (List UInt8)}{x:List UInt8}(h:bQ [p]=0)(h2: ¬cb x=0): []=evS p x/\cb x=evE p x:=by
 have e:evE p x=cb x:=by unfold evE;rw[if_pos h,if_neg h2]
 exact⟨by unfold evS;rw[if_neg (by rw[e];exact h2)],e.symm⟩
theorem PC{p:List (List UInt8)}{x:List UInt8}(h:bQ [p]=0)(h2:cb x=0)(h3:fJ (aW (bh p) (bF x))=false): []=evS p x/\6=evE p x:=by
 have e:evE p x=6:=by unfold evE;rw[if_pos h,if_pos h2];unfold ph;rw[h3];rfl
 exact⟨by unfold evS;rw[if_neg (by rw[e];decide)],e.symm⟩
theorem NN{p:List (List UInt8)}{x:List UInt8}(h:bQ [p]=0)(h2:cb x=0)(h3:fJ (aW (bh p) (bF x))=true):bk (aW (bh p) (bF x))=evS p x/\0=evE p x:=by
 have e:evE p x=0:=by unfold evE;rw[if_pos h,if_pos h2];unfold ph;rw[h3];rfl
 exact⟨by unfold evS;rw[if_pos e],e.symm⟩
theorem Lh{p:List Rat}{x:Rat}{y:List UInt8}(c1:eA y)(k1:Sz QM (aH p))(k2:p.length<=100)(k3:lq x<=QM)(k4:lq (aW p x)<=QC):
  ((0:Int)<=0/\(0:Int)<((1:Nat):Int))/\eA y/\(Sz QM (aH p)/\(aH p).length<=100/\NOK (bo x)/\lq x<=QM)/\1<QL/\∀ z:ND,z∈ [bo (aW p x)]->NOK z/\lq (bD z)<=QC:=by
 refine⟨by decide,c1,⟨k1,by rw[aF];exact k2,bY _,k3⟩,by unfold QL;decide,fun z hz=> ?_⟩;rw[List.mem_singleton] at hz;subst hz;rw[aN];exact⟨bY _,k4⟩
theorem Hw{x:Rat}(h:dw [bo x]=true)(y:List UInt8):(0:Int)<=0/\(0:Int)<((if dw [bo x]=true then [y] else []).length:Int):=by
 rw[if_pos h];simp
theorem NO{p:List (List UInt8)}{x:List UInt8}(h:bQ [p]=0)(h2:cb x=0)(h3:fJ (aW (bh p) (bF x))=true):nth Ty.str (if fJ (aW (bh p) (bF x))=true then [bk (aW (bh p) (bF x))] else []) 0=evS p x/\0=evE p x:=by
 rw[if_pos h3];exact NN h h2 h3
theorem zQ(q:Rat):dw [bo q]=fJ q:=by unfold dw;simp[aN]
structure Sml (n b:Nat) (l:List Rat):Prop where
 len:l.length<=n
 trm:Trm l
 den:Den b l
theorem Sml.pol{n b:Nat}{l:List Rat}(h:Sml n b l)(hn:n<=41)(hb:b<=222):Pol l:=⟨Nat.le_trans h.len hn,h.trm,K7 h.den hb⟩
theorem Sml.mul{n m k b c:Nat}{l l2:List Rat}(h:Sml n b l)(h2:Sml m c l2)(hn:n<1000)(hk:n+m<=k+1)(hm:1<=m)(hn1:1<=n):Sml k (b+c+1) (cZ l l2):=by
 refine⟨?_,zG h.trm h2.trm,den_mul h.den h2.den (by have:=h.len;omega)⟩;by_cases h3:l= [];·rw[h3,gk];simp
 by_cases h4:l2= []
 ·rw[h4,mw];simp
 rw[pw h3 h4];have:=h.len;have:=h2.len;omega
theorem Sml.add{n m b c:Nat}{l l2:List Rat}(h:Sml n b l)(h2:Sml m c l2):Sml (max n m) (b+c+1) (bz (· + ·) l l2):=
 ⟨by have:=gj (· + ·) l l2;have:=h.len;have:=h2.len;omega,gZ _ _ _,den_add h.den h2.den⟩
theorem Sml.sub{n m b c:Nat}{l l2:List Rat}(h:Sml n b l)(h2:Sml m c l2):Sml (max n m) (b+c+1) (bz (· - ·) l l2):=
 ⟨by have:=gj (· - ·) l l2;have:=h.len;have:=h2.len;omega,gZ _ _ _,NG h.den h2.den⟩
theorem xr{K:Nat}(hK:1<=K):∀ l:List Rat,(∀ x∈l,lq x<=K)->Den (l.length*K+1) l
 | [],_=>pR (by omega)
 |a::l,h=>by
  obtain⟨D,d1,d2,d3⟩:=xr hK l fun x hx=>h x (List.mem_cons_of_mem _ hx);have ha:=h a (List.mem_cons_self ..);have h1:=dU a;have h2:=dD a;have e:(a::l).length*K+1=l.length*K+1+K:=by rw[List.length_cons,Nat.add_mul];omega
  refine⟨D*a.den,Int.mul_ne_zero d1 (eL a),by rw[e];have:=b7 D a.den;omega,fun i=> ?_⟩;cases i with
  |zero=>
   refine⟨a.num*D,by rw[e];have:=b7 a.num D;omega,?_⟩;(have e1:cf (a::l) 0=a:=by simp[cf]);rw[e1,Int.mul_comm D,Rat.divInt_mul_right d1];exact(Rat.num_divInt_den a).symm
  |succ i=>
   obtain⟨n,n1,n2⟩:=d3 i;refine⟨n*a.den,by rw[e];have:=b7 n a.den;omega,?_⟩;(have e1:cf (a::l) (i+1)=cf l i:=by simp[cf]);rw[e1,n2,Rat.divInt_mul_right (eL a)]
theorem Db{l:List Rat}{n K:Nat}(hn:l.length<=n)(ht:Trm l)(hK:1<=K)(h:∀ x∈l,lq x<=K):Sml n (n*K+1) l:=
 ⟨hn,ht,(xr hK l h).mono (by have:=Nat.mul_le_mul_right K hn;omega)⟩
theorem Pol.sml{l:List Rat}(h:Pol l){n K:Nat}(hn:l.length<=n)(hK:1<=K)(hl:∀ x∈l,Cm.lq x<=K):Sml n (n*K+1) l:=Db hn h.trm hK hl
theorem EK{n b m c:Nat}{l q:List Rat}(hl:Sml n b l)(hq:Sml m c q)(pl:Pol l)(pq:Pol q)(hb:(max b c+1)*(n+2)*3^m<=QD):bL iR cB (txP l) (txP q)/\iR (aH l) (aH q)/\Den ((max b c+1)*(n+2)*3^m) (cB l q):=by
 have e1:QD=10000000000:=rfl;have e2:QC=100000000000:=rfl;have e3:QL=1000000000:=rfl;have hll:=hl.len;have hlq:=hq.len;have pl1:=pl.len;have pq1:=pq.len;have hbd:(max b c+1)*(l.length+1-q.length+1)*3^q.length<=QD:=by
  refine Nat.le_trans (Nat.mul_le_mul (Nat.mul_le_mul (Nat.le_refl _) (by omega:_<=n+2)) (Nat.pow_le_pow_right (by omega) hlq)) hb
 obtain⟨g1,g2⟩:=Px (p:=aH l) (q:=aH q) (b:=max b c) (jX _) (jX _) (by rw[aJ];exact hl.den.mono (by omega)) (by rw[aJ];exact hq.den.mono (by omega)) (by rw[aF];omega) (by rw[aF];omega) (by rw[aJ];exact hl.trm) (by rw[aJ];exact hq.trm) (by rw[aF,aF];exact hbd);rw[aJ,aJ,aF,aF] at g2;have g2:=g2.mono (Nat.le_refl _);refine⟨iu pl pq g1 (fun x hx=>by have:=g2.lq x hx;omega) ?_,g1,g2.mono (Nat.mul_le_mul (Nat.mul_le_mul (Nat.le_refl _) (by omega:_<=n+2)) (Nat.pow_le_pow_right (by omega) hlq))⟩;have key:∀ (k:Nat) (a b:List Rat),a.length<=900->b.length<=900->Trm b->(ec k a b).length<=900:=by
  intro k;induction k with
  |zero=>intro a b ha _ _;rw[ec,b8];exact ha
  |succ k ih=>
   intro a b ha hb tb;rw[ec];split;·rw[b8];exact ha
   ·rename_i hne;by_cases hta:Trm a;·have:=gi (p:=a) (List.length_pos_iff.2 hne) (tb hne);exact ih _ _ hb (by rw[b8];omega) (gY (jx hta))
    ·have h3:=gi (p:=a) (List.length_pos_iff.2 hne) (tb hne);have:∀ (k:Nat) (a b:List Rat),a.length<=900->b.length<=900->(ec k a b).length<=900:=by
      intro k;induction k with
      |zero=>intro a b ha _;rw[ec,b8];exact ha
      |succ k ih2=>
       intro a b ha hb;rw[ec];split;·rw[b8];exact ha
       ·refine ih2 _ _ hb ?_;rw[b8];have hlen:∀ (q:List Rat) (n:Nat) (r s:List Rat),(eJ q n r s).2.length<=r.length:=by
         intro q n;induction n with
         |zero=>intro r s;exact Nat.le_refl _
         |succ n ih3=>
          (intro r s;rw[eJ];split;·have h5:=ih3 (aR (ct q r)) (s.set (r.length-q.length) (aK r/aK q));have h6:=eH (ct q r);rw[eB] at h6;omega);·exact Nat.le_refl _
        have:=hlen b (a.length+1) a (List.replicate (a.length+1-b.length) 0);unfold divN;omega
     exact this _ _ _ hb (by rw[b8];omega)
 have:=key (q.length+1) l q (by omega) (by omega) hq.trm;unfold cB;omega
theorem lD(l:List Rat):(cx l).length=l.length-1:=by unfold cx mv;simp
theorem PD{l:List Rat}{i:Nat}(h:i<l.length-1):cf (cx l) i=cf l (i+1)*((i+1:Nat):Rat):=by
 unfold cx mv;conv=>lhs;unfold cf
 rw[List.getD_eq_getElem?_getD,List.getElem?_map,List.getElem?_range h];show cf l (i+1)*Rat.divInt ((i+1:Nat):Int) 1=_;rw[Rat.divInt_eq_div,Rat.intCast_natCast];rw[show ((1:Int):Rat)=1 from rfl];grind
theorem EL{l:List Rat}(h:Trm l):Trm (cx l):=by
 intro hn;have h1:=List.length_pos_iff.2 hn;rw[lD] at h1;have h2:l≠ []:=fun e=>by rw[e] at h1;simp at h1
 have h3:=h h2;rw[cg (by omega)] at h3;rw[cg (by rw[lD];omega),lD,PD (by omega),show l.length-1-1+1=l.length-1 by omega];have h4:((l.length-1:Nat):Rat)≠0:=by
  intro e;have:(l.length-1:Nat)=0:=by exact_mod_cast e
  omega
 intro e;rcases Rat.mul_eq_zero.1 e with e|e;·exact h3 e
 ·exact h4 e
theorem Sml.der{n b:Nat}{l:List Rat}(h:Sml n b l)(hn:n<1000000000):Sml (n-1) (b+1) (cx l):=
 ⟨by rw[lD];have:=h.len;omega,EL h.trm,Ez h.den (by have:=h.len;omega)⟩
theorem NP{l:List Rat}(hl:Pol l):bL (fun p _=>Sz QH p/\p.length<=1000) (fun a _=>cx a) (txP l) []:=by
 have e1:QH=40000000000:=rfl;have e2:QL=1000000000:=rfl;have e3:QC=100000000000:=rfl;have hln:=hl.len;refine iu (m:= []) hl EG ⟨hl.enc_ok (by omega),by rw[aF];omega⟩ ?_ (by show (cx l).length<=_;rw[lD];omega);intro x hx;have hd:=Ez (xr (K:=2000) (by omega) l hl.lq) (by omega);have:=hd.lq x hx;have h4:l.length*2000<=41*2000:=Nat.mul_le_mul_right _ hln;omega
theorem vJ:∀ (n:Nat) (p q:List Rat),Trm p->Trm q->Trm (ec n p q)
 |0,p,q,tp,tq=>by rw[ec];exact gY tp
 |n+1,p,q,tp,tq=>by
  rw[ec];split;·exact gY tp
  ·exact vJ n _ _ tq (gY (jx tp))
theorem Li{p q:List Rat}(tp:Trm p)(tq:Trm q):Trm (cB p q):=vJ _ _ _ tp tq
theorem tY(q:List Rat):∀ (n:Nat) (r s:List Rat),(eJ q n r s).2.length<=r.length
 |0,r,s=>Nat.le_refl _
 |n+1,r,s=>by
  rw[eJ];split;·have h5:=tY q n (aR (ct q r)) (s.set (r.length-q.length) (aK r/aK q));have h6:=eH (ct q r);rw[eB] at h6;omega
  ·exact Nat.le_refl _
theorem vK:∀ (n:Nat) (p q:List Rat),(ec n p q).length<=max p.length q.length
 |0,p,q=>by rw[ec,b8];omega
 |n+1,p,q=>by
  rw[ec];split;·rw[b8];omega
  ·have h1:=vK n q (cX (divN p q).2);have h2:=tY q (p.length+1) p (List.replicate (p.length+1-q.length) 0);rw[b8] at h1;unfold divN at h1 ⊢;omega
theorem Lj(p q:List Rat):(cB p q).length<=max p.length q.length:=vK _ _ _
theorem oc{l:List Rat}:cX l= []↔l= []:=by
 unfold cX;simp
theorem vL:∀ (n:Nat) (p q:List Rat),q.length<n->(p≠ []∨q≠ [])->ec n p q≠ []
 |0,p,q,h,_=>absurd h (by omega)
 |n+1,p,q,h,hne=>by
  rw[ec];split
  ·(rename_i hq;intro e;rw[oc] at e;rcases hne with h1|h1;·exact h1 e);·exact h1 hq
  ·rename_i hq;by_cases ht:(cX (divN p q).2).length<n;·exact vL n _ _ ht (.inl hq)
   ·
    have key:∀ (k:Nat) (a b:List Rat),a≠ []->ec k a b≠ []:=by
     intro k;induction k with
     |zero=>intro a b ha e;rw[ec,oc] at e;exact ha e
     |succ k ih=>
      (intro a b ha;rw[ec];split;·intro e;rw[oc] at e;exact ha e);·rename_i hb;exact ih _ _ hb
    exact key n _ _ hq
theorem EM{p q:List Rat}(h:p≠ []∨q≠ []):cB p q≠ []:=vL _ _ _ (Nat.lt_succ_self _) h
theorem PE{n b c:Nat}{l:List Rat}(hl:Sml n b l)(pl:Pol l)(hg:iR (aH l) (aH (cx l)))(dg:Den c (cB l (cx l)))(hK:b+(n+1)*(c+1)<=QD):lY (aH l)/\(∀ x∈(divN l (cB l (cx l))).1,lq x<=QD):=by
 have e1:QD=10000000000:=rfl;have e2:QH=40000000000:=rfl;have hll:=hl.len;have pl1:=pl.len;have hcK:c<=QD:=by
  have:1*(c+1)<=(n+1)*(c+1):=Nat.mul_le_mul_right _ (by omega);omega
 have hgl:=Lj l (cx l);rw[lD] at hgl;have tg:=Li hl.trm (EL hl.trm);have hq1:l≠ []->∀ x∈(divN l (cB l (cx l))).1,lq x<=QD:=by
  intro h;have hbd:b+(l.length+1-(cB l (cx l)).length)*(c+1)<=QD:=by
   have:(l.length+1-(cB l (cx l)).length)*(c+1)<=(n+1)*(c+1):=Nat.mul_le_mul_right _ (by omega);omega
  exact(xp hl.den dg (EM (.inl h)) tg hbd (by omega)).1
 refine⟨fun hne=> ?_,?_⟩
 ·have h:l≠ []:=fun e=>hne (by rw[e];rfl);rw[aJ,aF];have hgn:=EM (q:=cx l) (.inl h);have hbd:b+(l.length+1-(cB l (cx l)).length)*(c+1)<=QD:=by
   have:(l.length+1-(cB l (cx l)).length)*(c+1)<=(n+1)*(c+1):=Nat.mul_le_mul_right _ (by omega);omega
  refine⟨pl.enc_ok (by omega),by omega,hg,K0 (b:=b) (c:=c) (jX _) (jX _) (by rw[aJ];exact hl.den) (by rw[aJ];exact dg) (by rw[aF];omega) (by rw[aF];omega) (by rw[aF];exact List.length_pos_iff.2 hgn) (by rw[aJ];exact tg) (by rw[aF,aF];exact hbd) hcK,?_⟩;refine⟨fK fun x hx=>by have:=hq1 h x hx;omega,by rw[aF,lC];omega,fun hq=> ?_⟩;rw[aJ];have hlen:=lC l (cB l (cx l));have hsn:(divN l (cB l (cx l))).1≠ []:=fun e=>hq (by rw[e];rfl);have hgp:=List.length_pos_iff.2 hgn;have hlong:(cB l (cx l)).length<=l.length:=by omega
  intro h0;have hev:∀ x,aW (aR (divN l (cB l (cx l))).1) x*aW (cB l (cx l)) x+aW (divN l (cB l (cx l))).2 x=aW l x:=fun x=>by rw[lB];exact NF hgn tg x
  have hmul:bz (· + ·) (cZ (aR (divN l (cB l (cx l))).1) (cB l (cx l))) (divN l (cB l (cx l))).2=l:=KW (gZ _ _ _) hl.trm fun x=>by rw[KT,KS];exact hev x
  have hs:=gi (p:=l) hgp (tg hgn);have h1:=gj (· + ·) (cZ (aR (divN l (cB l (cx l))).1) (cB l (cx l))) (divN l (cB l (cx l))).2;rw[hmul] at h1;have h2:=pj (l:=(divN l (cB l (cx l))).1) (List.length_pos_iff.2 hsn) h0;by_cases hz:aR (divN l (cB l (cx l))).1= [];·rw[hz,gk] at h1;simp only[List.length_nil] at h1;omega
  ·rw[pw hz hgn] at h1;omega
 ·intro x hx;by_cases h:l= [];·subst h;(have e0:(divN [] (cB [] (cx []))).1= [0]:=by decide+kernel);rw[e0,List.mem_singleton] at hx;rw[hx];exact Nat.le_trans iQ (by omega)
  ·exact hq1 h x hx
theorem Hx{l:List Rat}(h:∀ x∈(divN l (cB l (cx l))).1,lq x<=QD):∀ x∈cu l,lq x<=2*QD:=by
 intro x hx;unfold cu at hx;split at hx;·simp at hx
 ·obtain⟨y,hy,rfl⟩:=List.mem_map.1 hx;have h1:=h y hy;have h2:=xb y (aK (divN l (cB l (cx l))).1);have hp:0<(divN l (cB l (cx l))).1.length:=List.length_pos_of_mem hy;have h3:=h (aK (divN l (cB l (cx l))).1) (by rw[cg hp];exact tB (by omega));omega
theorem Dc(l:List Rat):(cu l).length<=l.length+1:=by
 unfold cu;split;·simp
 ·rw[b8,lC];omega
theorem NQ{n b c:Nat}{l:List Rat}(hl:Sml n b l)(pl:Pol l)(hg:iR (aH l) (aH (cx l)))(dg:Den c (cB l (cx l)))(hK:b+(n+1)*(c+1)<=QD):bL (fun p _=>lY p) (fun a _=>cu a) (txP l) []:=by
 have e1:QD=10000000000:=rfl;have e2:QC=100000000000:=rfl;have e3:QL=1000000000:=rfl;obtain⟨h1,h2⟩:=PE hl pl hg dg hK;refine iu (m:= []) pl EG h1 (fun x hx=> ?_) ?_;·have:=Hx h2 x hx;omega
 ·show (cu l).length<=_;have:=Dc l;have:=pl.len;omega
theorem NR{b:Nat}{l:List Rat}(h:Den b l)(i:Nat):Den b (aR [cf l i]):=by
 refine kM ?_;obtain⟨D,d1,d2,d3⟩:=h;refine⟨D,d1,d2,fun j=> ?_⟩;cases j with
 |zero=>obtain⟨n,n1,n2⟩:=d3 i;exact⟨n,n1,by rw[<- n2];simp[cf]⟩
 |succ j=>exact⟨0,by rw[gN];omega,by rw[Rat.zero_divInt,cO (by simp)]⟩
theorem zR{n b m c:Nat}{p q:List Rat}(hp:Sml n b p)(hq:Sml m c q)(hnm:n*m<=1000):∀ k,k<=n->Den (1+k*(b+c+2)) (gF p q k)/\(gF p q k).length<=1+k*m
 |0,_=>⟨pR (by omega),by simp[gF]⟩
 |k+1,hk=>by
  obtain⟨h1,h2⟩:=zR hp hq hnm k (by omega);have hkm:k*m<=n*m:=Nat.mul_le_mul_right _ (by omega);have hl:(gF p q k).length<1000000000:=by omega
  rw[gF,tO,Nat.add_mul,Nat.add_mul];refine⟨(den_add (den_mul h1 hq.den hl) (NR hp.den _)).mono (by omega),?_⟩;have h3:=gj (· + ·) (cZ (gF p q k) q) (aR [cf p (p.length-1-k)]);have h4:=tP (gF p q k) q;have h5:=eH [cf p (p.length-1-k)];simp only[List.length_cons,List.length_nil] at h5;have h6:=hq.len;by_cases hz:gF p q k= [];·rw[hz,gk] at h3;simp only[List.length_nil] at h3;rw[hz,gk];omega
  ·omega
theorem Lk{n b m c:Nat}{p q:List Rat}(hp:Sml n b p)(hq:Sml m c q)(pp:Pol p)(pq:Pol q)(hnm:n*m<=98)(hb:b<=100000)(hc:c<=100000)(hn:n<=98)(hm:m<=98):bL xl kh (txP p) (txP q):=by
 have e1:QM=400000000:=rfl;have e2:QC=100000000000:=rfl;have e3:QL=1000000000:=rfl;have e4:QH=40000000000:=rfl;have hlp:=hp.len;have hlq:=hq.len;have key:∀ k,k<=n->Den 19700000 (gF p q k)/\(gF p q k).length<=99:=by
  intro k hk;obtain⟨h1,h2⟩:=zR hp hq (by omega) k hk;have h3:k*(b+c+2)<=98*200002:=Nat.mul_le_mul (by omega) (by omega);have h4:k*m<=n*m:=Nat.mul_le_mul_right _ hk;exact⟨h1.mono (by omega),by omega⟩
 refine iu pp pq ⟨pp.enc_ok (by omega),by rw[aF];omega,fun k hk=> ?_⟩ ?_ ?_
 ·rw[aF] at hk ⊢;rw[aJ,aJ];obtain⟨h1,h2⟩:=key k (by omega);have h5:=den_mul h1 hq.den (by omega);refine⟨h1.sz (by omega),pq.enc_ok (by omega),by rw[aF];omega,by rw[aF];omega,bY _,?_,?_⟩;·rw[aN];exact Nat.le_trans (kg pp.lq (by omega) _) (by omega)
  ·rw[aJ,aJ];exact h5.sz (by omega)
 ·intro x hx;have:=(key p.length (by omega)).1.lq x hx;omega
 ·have:=(key p.length (by omega)).2;show (gF p q p.length).length<=_;omega
def smB(n K:Nat)(p:List (List UInt8)):Bool:=decide (bK p=0)&&decide (p.length<=n)&&p.all (fun q=>decide (q.length<=10000))&&(bh p).all fun x=>decide (lq x<=K)
theorem cP{n K:Nat}{p:List (List UInt8)}(h:smB n K p=true)(hn:n<=41)(hK:1<=K):Pol (bh p)/\txP (bh p)=p/\Sml n (n*K+1) (bh p):=by
 unfold smB at h;simp only[Bool.and_eq_true,decide_eq_true_iff,List.all_eq_true] at h;obtain⟨⟨⟨h1,h2⟩,h3⟩,h4⟩:=h;have hs:cT p:=⟨by unfold QL;omega,fun q hq=>by have:=h3 q hq;unfold QL;omega⟩;obtain⟨t1,t2,t3,t4⟩:=ED hs h1;have hl:(bh p).length=p.length:=by rw[<- t1,b4,t1]
 exact⟨⟨t2,t3,t4⟩,t1,Db (by omega) t3 hK h4⟩
theorem Qb{n K:Nat}{p q:List (List UInt8)}(hp:smB n K p=true)(hq:smB n K q=true)(hn:n<=41:=by decide)(hK:1<=K:=by decide):bL (fun p q=>Sz QH p/\Sz QH q/\p.length<=1000/\q.length<=1000) (bz (· + ·)) p q:=by
 have h:=EH (cP hp hn hK).1 (cP hq hn hK).1;rwa [(cP hp hn hK).2.1,(cP hq hn hK).2.1] at h
theorem Qc{n K:Nat}{p q:List (List UInt8)}(hp:smB n K p=true)(hq:smB n K q=true)(hn:n<=41:=by decide)(hK:1<=K:=by decide):bL (fun p q=>Sz QH p/\Sz QH q/\p.length<=1000/\q.length<=1000) (bz (· - ·)) p q:=by
 have h:=EI (cP hp hn hK).1 (cP hq hn hK).1;rwa [(cP hp hn hK).2.1,(cP hq hn hK).2.1] at h
theorem Qd{n K:Nat}{p q:List (List UInt8)}(hp:smB n K p=true)(hq:smB n K q=true)(hn:n<=41:=by decide)(hK:1<=K:=by decide):bL (fun p q=>Sz QM p/\Sz QM q/\p.length<=100/\q.length<=100) cZ p q:=by
 have h:=EJ (cP hp hn hK).1 (cP hq hn hK).1;rwa [(cP hp hn hK).2.1,(cP hq hn hK).2.1] at h
theorem Ll{n K:Nat}{p q:List (List UInt8)}(hp:smB n K p=true)(hq:smB n K q=true)(hb:(max (n*K+1) (n*K+1)+1)*(n+2)*3^n<=QD:=by decide)(hn:n<=41:=by decide)(hK:1<=K:=by decide):bL iR cB p q:=by
 have h:=(EK (cP hp hn hK).2.2 (cP hq hn hK).2.2 (cP hp hn hK).1 (cP hq hn hK).1 hb).1;rwa [(cP hp hn hK).2.1,(cP hq hn hK).2.1] at h
theorem Qe{n K:Nat}{p:List (List UInt8)}(hp:smB n K p=true)(hn:n<=41:=by decide)(hK:1<=K:=by decide):bL (fun p _=>Sz QH p/\p.length<=1000) (fun a _=>cx a) p []:=by
 have h:=NP (cP hp hn hK).1;rwa [(cP hp hn hK).2.1] at h
theorem NS{l:List Rat}{n b:Nat}(h:Sml n b l)(hn:n<=41)(hb:b<=220):Pol (cx l):=(h.der (by omega)).pol (by omega) (by omega)
theorem NU{n b:Nat}{l:List Rat}(hl:Sml n b l)(hn:n<=41)(hb:b<=220)(hK:b+(n+1)*((b+2)*(n+2)*3^(n-1)+1)<=QD):bL (fun p _=>lY p) (fun a _=>cu a) (txP l) []:=by
 have pl:=hl.pol hn (by omega);have pd:=NS hl hn hb;have e:max b (b+1)+1=b+2:=by omega
 have hle:(b+2)*(n+2)*3^(n-1)<=QD:=by
  have:1*((b+2)*(n+2)*3^(n-1)+1)<=(n+1)*((b+2)*(n+2)*3^(n-1)+1):=Nat.mul_le_mul_right _ (by omega);omega
 obtain⟨_,g1,g2⟩:=EK hl (hl.der (by omega)) pl pd (by rw[e];exact hle);rw[e] at g2;exact NQ hl pl g1 g2 hK
theorem OW{n K:Nat}{p:List (List UInt8)}(hp:smB n K p=true)(hb:n*K+1<=220:=by decide)(hq:(n*K+1)+(n+1)*((n*K+1+2)*(n+2)*3^(n-1)+1)<=QD:=by decide)(hn:n<=41:=by decide)(hK:1<=K:=by decide):bL (fun p _=>lY p) (fun a _=>cu a) p []:=by
 have h:=NU (cP hp hn hK).2.2 hn hb hq;rwa [(cP hp hn hK).2.1] at h
theorem PF{n m K:Nat}{p q:List (List UInt8)}(hp:smB n K p=true)(hq:smB m K q=true)(hnm:n*m<=98:=by decide)(hb:n*K+1<=100000:=by decide)(hc:m*K+1<=100000:=by decide)(hn:n<=41:=by decide)(hm:m<=41:=by decide)(hK:1<=K:=by decide):xq p q:=by
 have h1:=cP hp hn hK;have h2:=cP hq hm hK;have h:=Lk h1.2.2 h2.2.2 h1.1 h2.1 hnm hb hc (by omega) (by omega);rw[h1.2.1,h2.2.1] at h;have s1:=h1.1.short;have s2:=h2.1.short;rw[h1.2.1] at s1;rw[h2.2.1] at s2;exact⟨s1,s2,fun _=>h⟩
theorem Dd{n K:Nat}{p q:List (List UInt8)}(hp:smB n K p=true)(hq:smB n K q=true)(hn:n<=41:=by decide)(hK:1<=K:=by decide)(hb:K<=2000:=by decide):K9 p q:=by
 have e1:QD=10000000000:=rfl;have e2:QC=100000000000:=rfl;have e3:QL=1000000000:=rfl;obtain⟨p1,p2,p3⟩:=cP hp hn hK;obtain⟨q1,q2,q3⟩:=cP hq hn hK;have s1:=p1.short;have s2:=q1.short;rw[p2] at s1;rw[q2] at s2;refine⟨s1,s2,fun _ h0=> ?_⟩;have hlp:=p3.len;have hlq:=q3.len;have hnK:n*K<=41*2000:=Nat.mul_le_mul hn hb;have hbd:n*K+1+((bh p).length+1-(bh q).length)*(n*K+1+1)<=4000000:=by
  have:((bh p).length+1-(bh q).length)*(n*K+1+1)<=42*82002:=Nat.mul_le_mul (by omega) (by omega);omega
 obtain⟨k1,k2⟩:=xp (K:=4000000) p3.den q3.den h0 q3.trm hbd (by omega);have hs:=gi (p:=bh p) (List.length_pos_iff.2 h0) (q3.trm h0);refine⟨K0 (b:=n*K+1) (c:=n*K+1) (jX _) (jX _) (by rw[aJ];exact p3.den) (by rw[aJ];exact q3.den) (by rw[aF];omega) (by rw[aF];omega) (by rw[aF];exact List.length_pos_iff.2 h0) (by rw[aJ];exact q3.trm) (by rw[aF,aF];omega) (by omega),⟨fK fun x hx=>by have:=k1 x hx;omega,by rw[aF,lC];omega⟩,k2.sz (by omega),by rw[aF];omega⟩
theorem Lm{n K:Nat}{p:List (List UInt8)}{x:List UInt8}(hp:smB n K p=true)(hx:x.length<=3000)(hn:n<=41:=by decide)(hK:1<=K:=by decide):Le p x:=by
 have e1:QM=400000000:=rfl;have e2:QL=1000000000:=rfl;have e3:QC=100000000000:=rfl;obtain⟨p1,p2,p3⟩:=cP hp hn hK;have s1:=p1.short;rw[p2] at s1;refine⟨s1,by omega,fun h1 h2=> ?_⟩;have hxl:lq (bF x)<=2000:=EF (vE h2 (by omega)).2;have h3:=Ev p1.lq hxl;have h4:(bh p).length*(2*2000+1)<=41*(2*2000+1):=Nat.mul_le_mul_right _ p1.len;exact⟨p1.enc_ok (by omega),by have:=p1.len;omega,by omega,by omega⟩
theorem De{s:List UInt8}{i:Nat}(hi:i<s.length)(h:(s.take i).all (· !=47)=true)(hb:s.getD i 0=47):s.take i=tN s/\s.drop (i+1)=tD s/\true=bE s:=by
 have e:s=s.take i++47::s.drop (i+1):=by
  rw[<- hb,List.getD_eq_getElem?_getD,List.getElem?_eq_getElem hi];simp only[Option.getD_some];rw[<- List.drop_eq_getElem_cons hi,List.take_append_drop]
 have hc:∀ c∈s.take i,c≠47:=by
  rw[List.all_eq_true] at h;intro c hc;simpa using h c hc
 have k:=K6 (b:=s.drop (i+1)) hc;rw[<- e] at k;refine⟨k.1.symm,?_,k.2.symm⟩;unfold tD tR;rw[if_pos k.2,k.1,List.length_take,Nat.min_eq_left (by omega)]
theorem Hy{s:List UInt8}{i:Nat}(hi:i<s.length)(h:(s.take i).all (· !=47)=true)(hb: ¬s.getD i 0=47):(s.take (i+1)).all (· !=47)=true:=by
 rw[List.take_succ_eq_append_getElem hi,List.all_append,h];rw[List.getD_eq_getElem?_getD,List.getElem?_eq_getElem hi] at hb;simpa using hb
theorem Ln{s:List UInt8}{i:Nat}(hi: ¬i<s.length)(h:(s.take i).all (· !=47)=true):s=tN s/\ [49]=tD s/\false=bE s:=by
 rw[List.take_of_length_le (by omega)] at h;have hs:bE s=false:=mz fun c hc=>by
  rw[List.all_eq_true] at h;simpa using h c hc
 exact⟨(tv hs).symm,by unfold tD;rw[hs];rfl,hs.symm⟩
def QK:Nat:=10000000
def GQ(K:Nat)(a:List UInt8):Prop:=bk (bF a)=a/\lq (bF a)<=K
theorem GQ.parts{K:Nat}{a:List UInt8}(h:GQ K a):tN a=Lib.itoa (bF a).num/\tD a=Lib.itoa ((bF a).den:Int):=by
 have:=gy (bF a);rw[h.1] at this;exact⟨this.1,this.2.1⟩
theorem GQ.nums{K:Nat}{a:List UInt8}(h:GQ K a):an (tN a)=(bF a).num/\an (tD a)=((bF a).den:Int):=by
 rw[h.parts.1,h.parts.2];exact⟨(bc _).2,(bc _).2⟩
theorem GQ.rs{K:Nat}{a:List UInt8}(h:GQ K a):RS (9*K+2) (tN a)/\RS (9*K+2) (tD a):=by
 rw[h.parts.1,h.parts.2];have h1:=fI (bF a).num;have h2:=fI ((bF a).den:Int);have h3:=dU (bF a);have h4:=dD (bF a);have h5:=h.2;exact⟨⟨(bc _).1,by omega⟩,(bc _).1,by omega⟩
theorem GQ.len{K:Nat}{a:List UInt8}(h:GQ K a):a.length<=18*K+5:=by
 rw[<- h.1];exact oa h.2
theorem RS.mono'{n m:Nat}{s:List UInt8}(h:RS n s)(hm:n<=m):RS m s:=⟨h.1,Nat.le_trans h.2 hm⟩
theorem j0{x:Rat}{K:Nat}(h:lq x<=K):GQ K (bk x):=⟨by rw[dR],by rw[dR];exact h⟩
theorem tZ{v:Int}:Lib.itoa v= [49]↔v=1:=by
 have h1:Lib.itoa 1= [49]:=by decide+kernel
 constructor;·intro h;have:=(bc v).2;rw[h,<- h1,(bc 1).2] at this;exact this.symm
 ·rintro rfl;exact h1
theorem Hz{q:List UInt8}(h: ¬ (chk (tN q)=5∨chk (tD q)=5)):(cb q≠5)↔(bE q=false∨(1<an (tD q)/\cw (an (tN q)) (an (tD q))=1)):=by
 unfold cb;rw[if_neg h];cases hs:bE q;·simp only[Bool.false_eq_true,false_and,if_false,true_or,iff_true];split<;>decide
 ·simp only[true_and,Bool.true_eq_false,false_or];by_cases h1:an (tD q)<=1∨cw (an (tN q)) (an (tD q))≠1
  ·rw[if_pos h1];constructor;·intro e;exact absurd rfl e
   ·(intro e;exfalso;rcases h1 with h1|h1);·omega
    ·exact h1 e.2
  ·(rw[if_neg h1];(have h2:1<an (tD q):=by have: ¬an (tD q)<=1:=fun e=>h1 (.inl e);omega);have h3:cw (an (tN q)) (an (tD q))=1:=Decidable.not_not.1 fun e=>h1 (.inr e);constructor;·intro _;exact⟨h2,h3⟩);·intro _;split<;>decide
theorem od{n d:Int}(hd:d≠0):(Rat.divInt n d).num=bP n (dv n d)/\(((Rat.divInt n d).den:Nat):Int)=bP d (dv n d):=by
 have h:=mn (n:=n) hd;unfold bo at h;have h1:=congrArg (fun x:ND=>dec x.1) h;have h2:=congrArg (fun x:ND=>dec x.2) h;simp only[bS] at h1 h2;exact⟨h1,h2⟩
theorem zS{s:List UInt8}{k:Nat}(hl:s.length<=1000000000)(hi:k<s.length)(h:(s.take k).all (· !=47)=true)(hb:s.getD k 0=47):
  List.drop (Int.toNat 0) (List.take ((k:Int)).toNat s)=tN s/\List.drop (IntKind.i64.wrap ((k:Int)+1)).toNat (List.take (((s.length:Nat):Int)).toNat s)=tD s/\true=bE s:=by
 have h1:=De hi h hb;rw[wo,Int.toNat_natCast,Int.toNat_natCast,show ((k:Int)+1).toNat=k+1 by omega,List.take_length];exact h1
theorem zT{q:List UInt8}(h:q.length<=QL):(tN q).length<CAP/\
  ((!!decide (chk (tN q)≠5))=true->(!!decide (chk (tN q)≠5))=true/\(tD q).length<CAP)/\
   ((!!decide (chk (tN q)≠5))=true->(!!decide (chk (tN q)≠5))=true)/\
    ((!decide (chk (tN q)≠5))=false->(!!decide (chk (tN q)≠5))=true):=by
 have h1:=mo q;have h2:=mq q;have e:QL=1000000000:=rfl;have e2:CAP=1000000000000:=rfl;exact⟨by omega,fun h=>⟨h,by omega⟩,id,fun h=>by rw[h];rfl⟩
theorem Df{q:List UInt8}(h:chk (tN q)=5∨chk (tD q)=5):false=decide (cb q≠5):=by
 have:cb q=5:=by unfold cb;rw[if_pos h]
 rw[this];rfl
theorem zU{q:List UInt8}(hq:q.length<=QL)(h: ¬ (chk (tN q)=5∨chk (tD q)=5)):((!!bE q)=true->(!!bE q)=true/\(RF (tD q)/\(tD q).length<CAP)/\RF [49]/\1<CAP)/\
  ((!!bE q)=true->(!!bE q)=true)/\
   ((!!bE q)=true->(!!bE q)=true)/\
    ((!!bE q&&decide (0<aZ (an (tD q)) (an [49])))=true->
      (!!bE q&&decide (0<aZ (an (tD q)) (an [49])))=true/\
       RS 1000000000 (tN q)/\RS 1000000000 (tD q))/\
     ((!!bE q&&decide (0<aZ (an (tD q)) (an [49])))=true->
       (!!bE q&&decide (0<aZ (an (tD q)) (an [49])))=true)/\
      ((!!bE q)=true->
        (!!bE q)=true/\
         (decide (0<aZ (an (tD q)) (an [49]))=true->
          (!!bE q&&decide (0<aZ (an (tD q)) (an [49])))=true))/\
       ((!bE q)=false->(!!bE q)=true):=by
 have h1:=mo q;have h2:=mq q;have e:QL=1000000000:=rfl;have e2:CAP=1000000000000:=rfl;have f1:RF (tN q):=fun e=>h (.inl e);have f2:RF (tD q):=fun e=>h (.inr e);have h3:bE q=true->(tD q).length+1<=q.length:=by
  intro hs;unfold tD;rw[if_pos hs];unfold tR;rw[List.length_drop];have:(tN q).length<q.length:=by
   by_cases he:(tN q).length=q.length
   ·exfalso;have h4:tN q=q:=(List.takeWhile_prefix _).eq_of_length he;have h5:∀ c∈tN q,c≠47:=fun c hc=>by
     have:=List.all_eq_true.1 (List.all_takeWhile (p:=(· !=47)) (l:=q)) c hc;simpa using this
    rw[h4] at h5;rw[mz h5] at hs;exact absurd hs (by decide)
   ·omega
  omega
 refine⟨fun h=>⟨h,⟨f2,by omega⟩,by unfold RF;decide,by omega⟩,id,id,fun h=>⟨h,⟨f1,by omega⟩,f2,?_⟩,id,fun h=>⟨h,fun h2=>by rw[h,h2];rfl⟩,fun h=>by rw[h];rfl⟩;have hs:bE q=true:=by
  simp only[Bool.and_eq_true,Bool.not_not] at h;exact h.1
 have:=h3 hs;omega
theorem NV{a b:Int}:0<aZ a b↔b<a:=by
 unfold aZ;split;·constructor<;>omega
 ·split;·constructor<;>omega
  ·constructor<;>omega
theorem HB{q:List UInt8}(h: ¬ (chk (tN q)=5∨chk (tD q)=5)):(!bE q||decide (0<aZ (an (tD q)) (an [49]))&&Lib.itoa (cw (an (tN q)) (an (tD q)))== [49])=decide (cb q≠5):=by
 rw[Bool.eq_iff_iff,decide_eq_true_iff,Hz h,Bool.or_eq_true,Bool.and_eq_true,Bool.not_eq_true',decide_eq_true_iff,beq_iff_eq,tZ,NV,lA]
theorem Dg{q:List UInt8}{k:Int}(h:eA q):(RF (tN q)/\(tN q).length<CAP)/\
  (decide (cS (an (tN q))<=k)=true->decide (cS (an (tN q))<=k)=true/\RF (tD q)/\(tD q).length<CAP)/\
   (decide (cS (an (tN q))<=k)=true->decide (cS (an (tN q))<=k)=true):=by
 have h1:=mo q;have h2:=mq q;have h3:=h.2.2;have e:QL=1000000000:=rfl;have e2:CAP=1000000000000:=rfl;exact⟨⟨h.1,by omega⟩,fun h'=>⟨h',h.2.1,by omega⟩,id⟩
theorem NW{q:List UInt8}(h: ¬cb q≠5):5=cb q:=(Decidable.not_not.1 h).symm
theorem Dh{q:List UInt8}(h:cb q≠5)(hl:q.length<=QL):eA q:=RQ.form (q:=q) ⟨h,hl⟩
theorem NX{q:List UInt8}(h:cb q≠5)(hl:q.length<=QL)(h2: ¬ (cS (an (tN q))<=2000/\cS (an (tD q))<=2000)):6=cb q:=by
 rw[RQ.chk (q:=q) ⟨h,hl⟩,if_pos (by omega)]
theorem NY{q:List UInt8}(h:cb q≠5)(hl:q.length<=QL)(h2:cS (an (tN q))<=2000/\cS (an (tD q))<=2000):0=cb q:=by
 rw[RQ.chk (q:=q) ⟨h,hl⟩,if_neg (by omega)]
def MkR(n d:List UInt8):Prop:=RS 200000000 n/\RS 200000000 d/\an d≠0
theorem OX{n:Nat}{s:List UInt8}(h:RS n s):lw (an s)<=n:=Nat.le_trans (CP h.1) h.2
theorem NZ{n:Nat}{s:List UInt8}(h:RS n s):(an s).natAbs<10^n:=lu h
theorem px{v w:Int}{n:Nat}(h:w.natAbs<10^n)(hv:v.natAbs<=w.natAbs):RS (n+2) (Lib.itoa v):=(na (k:=n) (by omega) (Nat.le_refl _)).1
theorem OY{n d:List UInt8}(h:MkR n d):RS 200000002 (Lib.itoa (cw (an n) (an d)))/\RS 200000002 (Lib.itoa (dv (an n) (an d))):=by
 have h1:=NZ h.2.1;exact⟨px h1 (pM h.2.2),px h1 (kG h.2.2).1⟩
theorem oe{n d:List UInt8}(h:MkR n d):RS 1000000000 n/\RS 1000000000 d:=⟨h.1.mono' (by omega),h.2.1.mono' (by omega)⟩
theorem HC{n d:List UInt8}(h:MkR n d):RF (Lib.itoa (cw (an n) (an d)))/\4*(Lib.itoa (cw (an n) (an d))).length<CAP:=by
 have:=(OY h).1;have h2:=this.2;exact⟨this.1,by unfold CAP;omega⟩
theorem EN{n d:List UInt8}(h:an d<0):Lib.itoa (-an (Lib.itoa (cw (an n) (an d))))=Lib.itoa (dv (an n) (an d)):=by
 rw[(bc _).2];unfold dv;rw[if_pos h]
theorem EO{n d:List UInt8}(h: ¬an d<0):Lib.itoa (cw (an n) (an d))=Lib.itoa (dv (an n) (an d)):=by
 unfold dv;rw[if_neg h]
theorem pS{a b:Int}:aZ a b<0↔a<b:=by
 unfold aZ;split;·constructor<;>omega
 ·split;·constructor<;>omega
  ·constructor<;>omega
theorem vM{n d:List UInt8}(h:MkR n d):RS 1000000000 n/\RS 1000000000 (Lib.itoa (dv (an n) (an d)))/\an (Lib.itoa (dv (an n) (an d)))≠0:=by
 rw[(bc _).2];exact⟨(oe h).1,(OY h).2.mono' (by omega),(kG h.2.2).2⟩
theorem HD{n d:List UInt8}(h:MkR n d):RS 1000000000 d/\RS 1000000000 (Lib.itoa (dv (an n) (an d)))/\an (Lib.itoa (dv (an n) (an d)))≠0:=⟨(oe h).2,(vM h).2⟩
theorem N0{n d:List UInt8}(h:MkR n d)(hb:Lib.itoa (bP (an d) (an (Lib.itoa (dv (an n) (an d)))))= [49]):Lib.itoa (bP (an n) (an (Lib.itoa (dv (an n) (an d)))))=bk (Rat.divInt (an n) (an d)):=by
 rw[(bc _).2] at hb ⊢;obtain⟨h1,h2⟩:=od (n:=an n) h.2.2;rw[<- h2,tZ] at hb;unfold bk;rw[if_pos (by omega),h1]
theorem N1{n d:List UInt8}(h:MkR n d)(hb: ¬Lib.itoa (bP (an d) (an (Lib.itoa (dv (an n) (an d)))))= [49]):Lib.itoa (bP (an n) (an (Lib.itoa (dv (an n) (an d)))))++ [47]++Lib.itoa (bP (an d) (an (Lib.itoa (dv (an n) (an d)))))=bk (Rat.divInt (an n) (an d)):=by
 rw[(bc _).2] at hb ⊢;obtain⟨h1,h2⟩:=od (n:=an n) h.2.2;rw[<- h2,tZ] at hb;unfold bk;rw[if_neg (by omega),h1,h2]
theorem HE{n d:List UInt8}(h:MkR n d):(Lib.itoa (bP (an n) (an (Lib.itoa (dv (an n) (an d)))))).length+1<=maxLen/\
  (Lib.itoa (bP (an n) (an (Lib.itoa (dv (an n) (an d)))))++ [47]).length+(Lib.itoa (bP (an d) (an (Lib.itoa (dv (an n) (an d)))))).length<=maxLen:=by
 rw[(bc _).2];obtain⟨h1,h2⟩:=od (n:=an n) h.2.2;have h3:=nR (an n) (an d) h.2.2;have h4:=OX h.1;have h5:=OX h.2.1;have h6:=fI (Rat.divInt (an n) (an d)).num;have h7:=fI (((Rat.divInt (an n) (an d)).den:Nat):Int);have h8:=dU (Rat.divInt (an n) (an d));have h9:=dD (Rat.divInt (an n) (an d));rw[h1] at h6;rw[h2] at h7;rw[h1] at h8;rw[h2] at h9;have e7:maxLen=9223372036854775807:=rfl;simp only[List.length_append,List.length_cons,List.length_nil];omega
theorem Lo{n d:Int}(h:I64 n/\I64 d/\d≠0):I64 n/\I64 d/\RS 200000000 (Lib.itoa n)/\RS 200000000 (Lib.itoa d)/\an (Lib.itoa d)≠0:=by
 have h1:=fI n;have h2:=fI d;have h3:=CM h.1;have h4:=CM h.2.1;rw[(bc d).2];exact⟨h.1,h.2.1,⟨(bc n).1,by omega⟩,⟨(bc d).1,by omega⟩,h.2.2⟩
theorem N2{n d:Int}:bk (Rat.divInt (an (Lib.itoa n)) (an (Lib.itoa d)))=bk (Rat.divInt n d):=by
 rw[(bc n).2,(bc d).2]
theorem EP{a:List UInt8}(h:GQ QK a):a.length<=QL:=by
 have:=h.len;have e:QK=10000000:=rfl;have e2:QL=1000000000:=rfl;omega
theorem OZ{a:List UInt8}(h:GQ QK a):RS 200000000 (tN a)/\RS 200000000 (tD a):=by
 have e:QK=10000000:=rfl;exact⟨h.rs.1.mono' (by omega),h.rs.2.mono' (by omega)⟩
theorem fN{a:List UInt8}(h:GQ QK a):RS 20000000000 (tN a)/\RS 20000000000 (tD a):=⟨(OZ h).1.mono' (by omega),(OZ h).2.mono' (by omega)⟩
theorem zV{a b:List UInt8}(ha:GQ QK a)(hb:GQ QK b)(h1:tD a= [49])(h2:tD b= [49]):(bF a).den=1/\(bF b).den=1:=by
 have k1:=ha.nums.2;have k2:=hb.nums.2;rw[h1,lA] at k1;rw[h2,lA] at k2;omega
theorem nf{x:Rat}(h:x.den=1):x=(x.num:Rat):=by
 have:=Rat.num_divInt_den x;rw[h,Rat.divInt_eq_div] at this;rw[show (((1:Nat):Int):Rat)=1 from rfl] at this;grind
theorem ua(n:Int):bk (n:Rat)=Lib.itoa n:=by unfold bk;rw[if_pos (Rat.den_intCast n),Rat.num_intCast]
theorem Lp{a b:List UInt8}(ha:GQ QK a)(hb:GQ QK b)(h:tD a= [49]/\tD b= [49]):Lib.itoa (an (tN a)+an (tN b))=bk (bF a+bF b):=by
 obtain⟨k1,k2⟩:=zV ha hb h.1 h.2;rw[ha.nums.1,hb.nums.1,nf k1,nf k2,<- Rat.intCast_add,ua,Rat.num_intCast,Rat.num_intCast]
theorem Lq{a b:List UInt8}(ha:GQ QK a)(hb:GQ QK b)(h:tD a= [49]/\tD b= [49]):Lib.itoa (an (tN a)*an (tN b))=bk (bF a*bF b):=by
 obtain⟨k1,k2⟩:=zV ha hb h.1 h.2;rw[ha.nums.1,hb.nums.1,nf k1,nf k2,<- Rat.intCast_mul,ua,Rat.num_intCast,Rat.num_intCast]
theorem vN{v:Int}{k:Nat}(h:lw v<=k):RS (9*k+2) (Lib.itoa v):=⟨(bc v).1,by have:=fI v;omega⟩
theorem ER{a:List UInt8}(h:GQ QK a):lw (bF a).num<=QK/\lw ((bF a).den:Int)<=QK:=by
 have:=dU (bF a);have:=dD (bF a);have:=h.2;omega
theorem HF{a b:List UInt8}(ha:GQ QK a)(hb:GQ QK b):(RS 20000000000 (tN a)/\RS 20000000000 (tD b))/\
  (RS 20000000000 (tN b)/\RS 20000000000 (tD a))/\
   (RS 20000000000 (Lib.itoa (an (tN a)*an (tD b)))/\RS 20000000000 (Lib.itoa (an (tN b)*an (tD a))))/\
    (RS 20000000000 (tD a)/\RS 20000000000 (tD b))/\
     RS 200000000 (Lib.itoa (an (Lib.itoa (an (tN a)*an (tD b)))+an (Lib.itoa (an (tN b)*an (tD a)))))/\
      RS 200000000 (Lib.itoa (an (tD a)*an (tD b)))/\an (Lib.itoa (an (tD a)*an (tD b)))≠0:=by
 have e:QK=10000000:=rfl;simp only[(bc _).2];have k1:=ER ha;have k2:=ER hb;rw[ha.nums.1,ha.nums.2,hb.nums.1,hb.nums.2];have m1:=b7 (bF a).num (bF b).den;have m2:=b7 (bF b).num (bF a).den;have m3:=b7 ((bF a).den:Int) (bF b).den;have m4:=tj ((bF a).num*(bF b).den) ((bF b).num*(bF a).den);exact⟨⟨(fN ha).1,(fN hb).2⟩,⟨(fN hb).1,(fN ha).2⟩,⟨(vN (k:=20000000) (by omega)).mono' (by omega),(vN (k:=20000000) (by omega)).mono' (by omega)⟩,⟨(fN ha).2,(fN hb).2⟩,
  (vN (k:=20000001) (by omega)).mono' (by omega),(vN (k:=20000001) (by omega)).mono' (by omega),Int.mul_ne_zero (eL _) (eL _)⟩
theorem Lr{a b:List UInt8}(ha:GQ QK a)(hb:GQ QK b):bk (Rat.divInt (an (Lib.itoa (an (Lib.itoa (an (tN a)*an (tD b)))+an (Lib.itoa (an (tN b)*an (tD a)))))) (an (Lib.itoa (an (tD a)*an (tD b)))))=bk (bF a+bF b):=by
 simp only[(bc _).2];rw[ha.nums.1,ha.nums.2,hb.nums.1,hb.nums.2,<- mj]
theorem HG{a b:List UInt8}(ha:GQ QK a)(hb:GQ QK b):(RS 20000000000 (tN a)/\RS 20000000000 (tN b))/\
  (RS 20000000000 (tD a)/\RS 20000000000 (tD b))/\
   RS 200000000 (Lib.itoa (an (tN a)*an (tN b)))/\
    RS 200000000 (Lib.itoa (an (tD a)*an (tD b)))/\an (Lib.itoa (an (tD a)*an (tD b)))≠0:=by
 have e:QK=10000000:=rfl;simp only[(bc _).2];have k1:=ER ha;have k2:=ER hb;rw[ha.nums.1,ha.nums.2,hb.nums.1,hb.nums.2];have m1:=b7 (bF a).num (bF b).num;have m3:=b7 ((bF a).den:Int) (bF b).den;exact⟨⟨(fN ha).1,(fN hb).1⟩,⟨(fN ha).2,(fN hb).2⟩,(vN (k:=20000001) (by omega)).mono' (by omega),(vN (k:=20000001) (by omega)).mono' (by omega),Int.mul_ne_zero (eL _) (eL _)⟩
theorem Ls{a b:List UInt8}(ha:GQ QK a)(hb:GQ QK b):bk (Rat.divInt (an (Lib.itoa (an (tN a)*an (tN b)))) (an (Lib.itoa (an (tD a)*an (tD b)))))=bk (bF a*bF b):=by
 simp only[(bc _).2];rw[ha.nums.1,ha.nums.2,hb.nums.1,hb.nums.2,<- ml]
theorem Lt{p q:List (List UInt8)}(h: ¬ (p.length:Int)=(q.length:Int)):false=decide (p=q):=by
 symm
 rw[decide_eq_false_iff_not];rintro rfl;exact h rfl
theorem HH{p q:List (List UInt8)}{k:Nat}(he:p.length=q.length)(hk:k<p.length)(h:p.take k=q.take k)(hb:nth .str p (k:Int)=nth .str q (k:Int)):p.take (k+1)=q.take (k+1):=by
 rw[dV (t:= .str) hk,dV (t:= .str) (by omega:k<q.length)] at hb;rw[List.take_succ_eq_append_getElem hk,List.take_succ_eq_append_getElem (by omega:k<q.length),h,hb]
theorem Lu{p q:List (List UInt8)}{k:Nat}(hb: ¬nth .str p (k:Int)=nth .str q (k:Int)):false=decide (p=q):=by
 symm
 rw[decide_eq_false_iff_not];rintro rfl;exact hb rfl
theorem Lv{p q:List (List UInt8)}{k:Nat}(he:p.length=q.length)(hk: ¬k<p.length)(h:p.take k=q.take k):true=decide (p=q):=by
 symm
 rw[decide_eq_true_iff];rwa [List.take_of_length_le (by omega),List.take_of_length_le (by omega)] at h
theorem ES{s:List UInt8}{k:Nat}:(((s.getD (k:Int).toNat 0).toNat:Nat):Int)=47↔s.getD k 0=47:=by
 rw[Int.toNat_natCast];constructor;·intro h;exact UInt8.toNat_inj.1 (by show _=47;omega)
 ·intro h;rw[h];rfl
theorem Lw{q:List UInt8}(h:(!decide (chk (tN q)≠5)|| !decide (chk (tD q)≠5))=true):chk (tN q)=5∨chk (tD q)=5:=by
 simpa using h
theorem Lx{q:List UInt8}(h:(!decide (chk (tN q)≠5)|| !decide (chk (tD q)≠5))=false): ¬ (chk (tN q)=5∨chk (tD q)=5):=by
 simp only[Bool.or_eq_false_iff,Bool.not_eq_false',decide_eq_true_iff] at h;exact fun e=>e.elim h.1 h.2
theorem HI{s:List UInt8}{k:Nat}(hl:s.length<=1000000000)(hk:k<s.length):((0:Int)<=0/\(0:Int)<=(k:Int)/\(k:Int)<=((s.length:Nat):Int))/\
  (0:Int)<=IntKind.i64.wrap ((k:Int)+1)/\IntKind.i64.wrap ((k:Int)+1)<=((s.length:Nat):Int)/\((s.length:Nat):Int)<=((s.length:Nat):Int):=by
 rw[wo];omega
def nl(p:List (List UInt8)):List Rat:=p.map bF
def GL(K:Nat)(p:List (List UInt8)):Prop:=∀ q∈p,GQ K q
theorem GL.tx{K:Nat}{p:List (List UInt8)}(h:GL K p):txP (nl p)=p:=by
 unfold txP nl;rw[List.map_map];conv=>rhs;rw[<- List.map_id p]
 exact List.map_congr_left fun q hq=>(h q hq).1
theorem GL.lq{K:Nat}{p:List (List UInt8)}(h:GL K p):∀ x∈nl p,lq x<=K:=by
 intro x hx;obtain⟨q,hq,rfl⟩:=List.mem_map.1 hx;exact(h q hq).2
theorem kO{K:Nat}{l:List Rat}(h:∀ x∈l,lq x<=K):GL K (txP l):=by
 intro q hq;obtain⟨x,hx,rfl⟩:=List.mem_map.1 hq;exact j0 (h x hx)
theorem jA(l:List Rat):nl (txP l)=l:=EA l
theorem iv(p:List (List UInt8)):(nl p).length=p.length:=by simp[nl]
theorem GL.mono{K m:Nat}{p:List (List UInt8)}(h:GL K p)(hm:K<=m):GL m p:=fun q hq=>⟨(h q hq).1,Nat.le_trans (h q hq).2 hm⟩
theorem GL.ex{K:Nat}{p:List (List UInt8)}(h:GL K p):∃ l,p=txP l/\∀ x∈l,Cm.lq x<=K:=⟨nl p,h.tx.symm,h.lq⟩
theorem Ly{l:List Rat}{k:Nat}(h:k<l.length):nth .str (txP l) (k:Int)=bk (cf l k):=by
 rw[dV (t:= .str) (by rw[b4];exact h)];unfold txP cf;rw[List.getElem_map,List.getD_eq_getElem?_getD,List.getElem?_eq_getElem h];rfl
theorem og:bk 0= [48]:=ir.2 rfl
theorem ng{p:List (List UInt8)}{K:Nat}(h:GL K p){k:Nat}(hk:k<p.length):nth .str p (k:Int)=bk (cf (nl p) k):=by
 have:=Ly (l:=nl p) (k:=k) (by rw[iv];exact hk);rwa [h.tx] at this
theorem Lz{p:List (List UInt8)}{k:Nat}(hk: ¬k<p.length): [48]=bk (cf (nl p) k):=by
 rw[cO (by rw[iv];omega),og]
theorem ET{l:List Rat}(h:0<l.length)(hl:l.length<=1000000000):nth .str (txP l) (IntKind.i64.wrap ((l.length:Int)-1))=bk (aK l):=by
 rw[b9 hl,show (l.length:Int)-1=((l.length-1:Nat):Int) by omega,Ly (by omega),cg h]
theorem N3{l:List Rat}(hl:l.length<=1000000000)(hb:(0:Int)<((txP l).length:Int))(hc:nth .str (txP l) (IntKind.i64.wrap (((txP l).length:Int)-1))= [48]):0<l.length/\aK l=0:=by
 rw[b4] at hb hc;rw[ET (by omega) hl,ir] at hc;exact⟨by omega,hc⟩
theorem N4{l:List Rat}(hl:l.length<=1000000000)(hb:(0:Int)<((txP l).length:Int)-> ¬nth .str (txP l) (IntKind.i64.wrap (((txP l).length:Int)-1))= [48]):aR l=l:=by
 rw[b4] at hb;by_cases h:l= [];·subst h;rfl
 ·have h1:=List.length_pos_iff.2 h;have h2:=hb (by omega);rw[ET h1 hl,ir] at h2;exact mr h h2
theorem Di{l:List Rat}(hl:l.length<=1000000000)(h:decide ((0:Int)<((txP l).length:Int))=true):decide ((0:Int)<((txP l).length:Int))=true/\0<=IntKind.i64.wrap (((txP l).length:Int)-1)/\IntKind.i64.wrap (((txP l).length:Int)-1)<((txP l).length:Int):=by
 have h1:=of_decide_eq_true h;refine⟨h,?_⟩;rw[b4] at h1 ⊢;rw[b9 hl];omega
theorem Dj{l l0:List Rat}{K:Nat}(hl:l.length<=1000000000)(g1:l.length<=l0.length)(g2:∀ x∈l,lq x<=K)(g3:aR l=aR l0)(h:0<l.length/\aK l=0):
  List.take (IntKind.i64.wrap (((txP l).length:Int)-1)).toNat (txP l)=txP l.dropLast/\l.dropLast.length<=l0.length/\(∀ x∈l.dropLast,lq x<=K)/\aR l.dropLast=aR l0/\l.dropLast.length<l.length:=by
 rw[b4,b9 hl,show ((l.length:Int)-1).toNat=l.length-1 by omega];refine⟨?_,by rw[List.length_dropLast];omega,fun x hx=>g2 x (List.dropLast_subset _ hx),?_,by rw[List.length_dropLast];omega⟩;·unfold txP;rw[<- List.map_take,List.dropLast_eq_take]
 ·rw[<- g3,mu (List.length_pos_iff.1 h.1) h.2]
def QK2:Nat:=4000000
theorem uc(l:List Rat)(x:Rat):txP (l++ [x])=txP l++ [bk x]:=by simp[txP]
theorem vO{K:Nat}{p:List (List UInt8)}(h:GL K p)(hK:1<=K)(i:Nat):lq (cf (nl p) i)<=K:=kg h.lq hK i
theorem oh{p q:List (List UInt8)}(hp:GL QK2 p)(hq:GL QK2 q)(k:Nat):(GL QK p/\(0:Int)<=(k:Int))/\(GL QK q/\(0:Int)<=(k:Int))/\GQ QK (bk (cf (nl p) (k:Int).toNat))/\GQ QK (bk (cf (nl q) (k:Int).toNat)):=by
 have e:QK=10000000:=rfl;have e2:QK2=4000000:=rfl;rw[Int.toNat_natCast];have h1:=vO hp (by omega) k;have h2:=vO hq (by omega) k;exact⟨⟨hp.mono (by omega),by omega⟩,⟨hq.mono (by omega),by omega⟩,j0 (by omega),j0 (by omega)⟩
theorem Dk{p q:List (List UInt8)}{k n:Nat}(h:k<n)(hn:n<=1000000):∃ z:Nat,IntKind.i64.wrap ((k:Int)+1)=(z:Int)/\txP (bO (· + ·) (nl p) (nl q) k)++ [bk (bF (bk (cf (nl p) (k:Int).toNat))+bF (bk (cf (nl q) (k:Int).toNat)))]=txP (bO (· + ·) (nl p) (nl q) z)/\z<=n/\n-z<n-k:=by
 refine⟨k+1,by rw[wo];omega,?_,by omega,by omega⟩;rw[Int.toNat_natCast,dR,dR,nb,uc]
theorem HJ{p q:List (List UInt8)}(hp:GL QK2 p)(hq:GL QK2 q)(k:Nat):GL QK (txP (bO (· + ·) (nl p) (nl q) k)):=by
 refine kO fun x hx=> ?_;obtain⟨i,_,rfl⟩:=List.mem_map.1 hx;have e:QK=10000000:=rfl;have e2:QK2=4000000:=rfl;have h1:=vO hp (by omega) i;have h2:=vO hq (by omega) i;have:=nS (cf (nl p) i) (cf (nl q) i);show lq (cf (nl p) i+cf (nl q) i)<=_;omega
theorem LA{p q:List (List UInt8)}{k:Nat}(h1:k<=max p.length q.length)(h: ¬k<max p.length q.length):txP (aR (nl (txP (bO (· + ·) (nl p) (nl q) k))))=txP (bz (· + ·) (nl p) (nl q)):=by
 have e:k=max p.length q.length:=by omega
 unfold bz;rw[jA,iv,iv,<- e]
def dE(c:Rat)(l:List Rat):List Rat:=aR (l.map fun x=>c*x)
def iw(k:Nat)(l:List Rat):List Rat:=aR (List.replicate k 0++l)
theorem zW{c:List UInt8}{p:List (List UInt8)}{K:Nat}(hp:GL K p){k:Nat}(h:k<p.length)(hn:p.length<=1000000):∃ z:Nat,IntKind.i64.wrap ((k:Int)+1)=(z:Int)/\txP (((nl p).take k).map fun x=>bF c*x)++ [bk (bF c*bF (nth .str p (k:Int)))]=txP (((nl p).take z).map fun x=>bF c*x)/\z<=p.length/\p.length-z<p.length-k:=by
 refine⟨k+1,by rw[wo];omega,?_,by omega,by omega⟩;rw[ng hp h,dR,List.take_succ_eq_append_getElem (by rw[iv];exact h),List.map_append,<- uc];congr 2;unfold cf;rw[List.getD_eq_getElem?_getD,List.getElem?_eq_getElem (by rw[iv];exact h)];rfl
theorem Dl{c:List UInt8}{p:List (List UInt8)}(hc:GQ QK2 c)(hp:GL QK2 p)(k:Nat):GL QK (txP (((nl p).take k).map fun x=>bF c*x)):=by
 refine kO fun x hx=> ?_;obtain⟨y,hy,rfl⟩:=List.mem_map.1 hx;have e:QK=10000000:=rfl;have e2:QK2=4000000:=rfl;have:=mm (bF c) y;have:=hc.2;have:=hp.lq y (List.mem_of_mem_take hy);omega
theorem HM{c:List UInt8}{p:List (List UInt8)}{k:Nat}(h: ¬k<p.length):txP (aR (nl (txP (((nl p).take k).map fun x=>bF c*x))))=txP (dE (bF c) (nl p)):=by
 rw[jA,List.take_of_length_le (by rw[iv];omega)];rfl
theorem LC(k:Nat):List.replicate k [48]++ [[48]]=List.replicate (k+1) ([48]:List UInt8):=(List.replicate_succ' ..).symm
theorem N5(k:Nat):txP (List.replicate k 0)=List.replicate k [48]:=by unfold txP;rw[List.map_replicate,og]
theorem Dm{p:List (List UInt8)}(hp:GL QK p)(k:Nat):GL QK (List.replicate k [48]++p):=by
 intro q hq;rcases List.mem_append.1 hq with h|h
 ·rw[(List.mem_replicate.1 h).2,<- og];exact j0 (Nat.le_trans iQ (by unfold QK;decide))
 ·exact hp q h
theorem HN(p q:List (List UInt8)):nl (p++q)=nl p++nl q:=by simp[nl]
theorem PG(k:Nat):nl (List.replicate k [48])=List.replicate k 0:=by rw[<- N5,jA]
theorem HO{p:List (List UInt8)}{k:Nat}:txP (aR (nl (List.replicate k [48]++p)))=txP (iw k (nl p)):=by
 rw[HN,PG];rfl
theorem Dn(c:Rat)(l:List Rat)(i:Nat):cf (l.map fun x=>c*x) i=c*cf l i:=by
 unfold cf;simp only[List.getD_eq_getElem?_getD,List.getElem?_map];cases l[i]? with
 |none=>simp
 |some x=>rfl
theorem N6:bF [45,49]= -1:=by decide+kernel
theorem mA:GQ 1 [45,49]:=by
 have h:bk (-1)= [45,49]:=by decide+kernel
 rw[<- h];refine j0 ?_;rw[tl];have:lq 1=1:=by unfold lq;show max (lw 1) (lw 1)=1;rw[nQ];decide
 omega
theorem N7(l m:List Rat):bz (· + ·) l (dE (-1) m)=bz (· - ·) l m:=by
 refine KV (gZ _ _ _) (gZ _ _ _) fun i=> ?_;have key:∀ (op:Rat->Rat->Rat) (a b:List Rat),op 0 0=0->cf (bz op a b) i=op (cf a i) (cf b i):=by
  intro op a b h0;unfold bz;rw[pQ];by_cases hi:i<max a.length b.length;·exact jY _ _ _ _ _ hi
  ·rw[cO (by rw[dx];omega),cO (l:=a) (by omega),cO (l:=b) (by omega),h0]
 rw[key _ _ _ (by grind),key _ _ _ (by grind)];unfold dE;rw[pQ,Dn];grind
def dM(l m:List Rat):Nat->List Rat
 |0=> []
 |i+1=>bz (· + ·) (dM l m i) (iw i (dE (cf l i) m))
theorem LD(c:Rat)(l:List Rat)(x:Rat):aW (dE c l) x=c*aW l x:=by
 unfold dE;rw[lB];induction l with
 |nil=>simp only[List.map_nil,im];grind
 |cons a l ih=>simp only[List.map_cons,gO,ih];grind
theorem LF(k:Nat)(l:List Rat)(x:Rat):aW (iw k l) x=x^k*aW l x:=by
 unfold iw;rw[lB,nX,C4,List.length_replicate];grind
theorem EU(l m:List Rat)(x:Rat):∀ i,i<=l.length->aW (dM l m i) x=aW (l.take i) x*aW m x
 |0,_=>by simp only[dM,List.take_zero,im];grind
 |i+1,h=>by
  rw[dM,KT,LF,LD,EU l m x i (by omega),pP l i x (by omega)];grind
theorem LG(l m:List Rat):∀ i,Trm (dM l m i)
 |0=>Ey
 |i+1=>gZ _ _ _
theorem EV{l m:List Rat}(hl:Trm l)(hm:Trm m):dM l m l.length=cZ l m:=
 KW (LG _ _ _) (zG hl hm) fun x=>by rw[EU l m x _ (Nat.le_refl _),List.take_length,KS]
theorem ud{c:Rat}{l:List Rat}{K:Nat}(hc:lq c<=K)(hl:∀ x∈l,lq x<=K):∀ x∈dE c l,lq x<=2*K:=by
 intro x hx;obtain⟨y,hy,rfl⟩:=List.mem_map.1 (hZ x hx);have:=mm c y;have:=hl y hy;omega
theorem zX{k:Nat}{l:List Rat}{K:Nat}(hK:1<=K)(hl:∀ x∈l,lq x<=K):∀ x∈iw k l,lq x<=K:=by
 intro x hx;rcases List.mem_append.1 (hZ x hx) with h|h;·rw[(List.mem_replicate.1 h).2];exact Nat.le_trans iQ hK
 ·exact hl x h
theorem PH{l m:List Rat}{K M:Nat}(hK:1<=K)(hM:1<=M)(hl:∀ x∈l,lq x<=K)(hm:∀ x∈m,lq x<=M):∀ x∈bz (· + ·) l m,lq x<=K+M+1:=by
 intro x hx;obtain⟨i,_,rfl⟩:=List.mem_map.1 (hZ x hx);have h1:=kg hl hK i;have h2:=kg hm hM i;have:=nS (cf l i) (cf m i);show lq (cf l i+cf m i)<=_;omega
theorem EW{l m:List Rat}{K:Nat}(hK:1<=K)(hl:∀ x∈l,lq x<=K)(hm:∀ x∈m,lq x<=K):∀ i,∀ x∈dM l m i,lq x<=1+i*(2*K+1)
 |0=>by intro x hx;simp[dM] at hx
 |i+1=>by
  intro x hx;have h1:=PH (by omega) (by omega:1<=2*K) (EW hK hl hm i) (zX (k:=i) (by omega) (ud (kg hl hK i) hm)) x hx;rw[Nat.add_mul];omega
theorem om(c:Rat)(l:List Rat):(dE c l).length<=l.length:=by
 have:=eH (l.map fun x=>c*x);rwa [List.length_map] at this
theorem vP(k:Nat)(l:List Rat):(iw k l).length<=k+l.length:=by
 have:=eH (List.replicate k 0++l);rw[List.length_append,List.length_replicate] at this;exact this
theorem zY(l m:List Rat):∀ i,(dM l m i).length<=i+m.length
 |0=>by simp[dM]
 |i+1=>by
  have h1:=zY l m i;have h2:=gj (· + ·) (dM l m i) (iw i (dE (cf l i) m));have h3:=vP i (dE (cf l i) m);have h4:=om (cf l i) m;rw[dM];omega
def HP(p q:List (List UInt8)):Prop:=GL 10000 p/\GL 10000 q/\p.length<=100/\q.length<=100
theorem HQ{p q:List (List UInt8)}(h:HP p q){k:Nat}(hk:k<p.length):(GQ QK2 (nth .str p (k:Int))/\GL QK2 q/\q.length<=1000000)/\(GL QK (txP (dE (bF (nth .str p (k:Int))) (nl q)))/\(0:Int)<=(k:Int)/\(k:Int)<=1000000/\(txP (dE (bF (nth .str p (k:Int))) (nl q))).length<=1000000)/\
  GL QK2 (txP (dM (nl p) (nl q) k))/\GL QK2 (txP (iw (k:Int).toNat (nl (txP (dE (bF (nth .str p (k:Int))) (nl q))))))/\(txP (dM (nl p) (nl q) k)).length<=1000000/\(txP (iw (k:Int).toNat (nl (txP (dE (bF (nth .str p (k:Int))) (nl q)))))).length<=1000000:=by
 obtain⟨hp,hq,hl,hl2⟩:=h;have e:QK=10000000:=rfl;have e2:QK2=4000000:=rfl;rw[ng hp hk,dR,jA,Int.toNat_natCast];have h1:=vO hp (by omega) k;have s1:=ud h1 hq.lq;have s2:=zX (k:=k) (by omega) s1;have s3:=EW (by omega) hp.lq hq.lq k;have l1:=om (cf (nl p) k) (nl q);have l2:=vP k (dE (cf (nl p) k) (nl q));have l3:=zY (nl p) (nl q) k;rw[iv] at l1 l3;refine⟨⟨j0 (by omega),hq.mono (by omega),by omega⟩,⟨kO fun x hx=>by have:=s1 x hx;omega,by omega,by omega,by rw[b4];omega⟩,kO fun x hx=> ?_,kO fun x hx=>by have:=s2 x hx;omega,by rw[b4];omega,by rw[b4];omega⟩;have:=s3 x hx;have h9:k*(2*10000+1)<=100*(2*10000+1):=Nat.mul_le_mul_right _ (by omega);omega
theorem Do{p q:List (List UInt8)}(h:HP p q){k:Nat}(hk:k<p.length):∃ z:Nat,IntKind.i64.wrap ((k:Int)+1)=(z:Int)/\txP (bz (· + ·) (nl (txP (dM (nl p) (nl q) k))) (nl (txP (iw (k:Int).toNat (nl (txP (dE (bF (nth .str p (k:Int))) (nl q))))))))=txP (dM (nl p) (nl q) z)/\z<=p.length/\p.length-z<p.length-k:=by
 have hl:=h.2.2.1;refine⟨k+1,by rw[wo];omega,?_,by omega,by omega⟩;rw[ng h.1 hk,dR,jA,jA,jA,Int.toNat_natCast];rfl
theorem LH{p q:List (List UInt8)}{k:Nat}(h1:k<=p.length)(h: ¬k<p.length):txP (dM (nl p) (nl q) k)=txP (dM (nl p) (nl q) p.length):=by
 rw[show k=p.length by omega]
theorem Qf{k a b:Nat}(h:(decide ((k:Int)<(a:Int))||decide ((k:Int)<(b:Int)))=true):k<max a b:=by
 rw[Bool.or_eq_true,decide_eq_true_iff,decide_eq_true_iff] at h;omega
theorem Qg{k a b:Nat}(h:(decide ((k:Int)<(a:Int))||decide ((k:Int)<(b:Int)))=false): ¬k<max a b:=by
 rw[Bool.or_eq_false_iff,decide_eq_false_iff_not,decide_eq_false_iff_not] at h;omega
theorem oo{n:Nat}(h:n<=3000000):Cm.Roomy 1 n:=xd (by omega)
theorem Dp{p q:List (List UInt8)}(hp:GL QK2 p)(hq:GL QK2 q){k:Nat}(hk:k<=1000000):(GL QK p/\(0:Int)<=(k:Int))/\(GL QK q/\(0:Int)<=(k:Int))/\(GQ QK (bk (cf (nl p) (k:Int).toNat))/\GQ QK (bk (cf (nl q) (k:Int).toNat)))/\Cm.Roomy 1 ((txP (bO (· + ·) (nl p) (nl q) k)).length+1):=
 ⟨(oh hp hq k).1,(oh hp hq k).2.1,(oh hp hq k).2.2,oo (by rw[b4,dx];omega)⟩
theorem zZ{c:List UInt8}{p:List (List UInt8)}(hc:GQ QK2 c)(hp:GL QK2 p)(hl:p.length<=1000000){k:Nat}(hk:k<p.length):((0:Int)<=(k:Int)/\(k:Int)<((p.length:Nat):Int))/\(GQ QK c/\GQ QK (nth .str p (k:Int)))/\Cm.Roomy 1 ((txP (List.map (fun x=>bF c*x) (List.take k (nl p)))).length+1):=by
 have e:QK=10000000:=rfl;have e2:QK2=4000000:=rfl;have h1:=vO hp (by omega) k;refine⟨by omega,⟨⟨hc.1,by have:=hc.2;omega⟩,by rw[ng hp hk];exact j0 (by omega)⟩,oo ?_⟩;rw[b4,List.length_map,List.length_take,iv];omega
theorem HR{p q:List (List UInt8)}(h:GL QK2 p/\GL 1000000 q/\p.length<=1000000/\q.length<=1000000):(GQ QK2 [45,49]/\GL QK2 q/\List.length q<=1000000)/\GL QK2 p/\GL QK2 (txP (dE (bF [45,49]) (nl q)))/\List.length p<=1000000/\(txP (dE (bF [45,49]) (nl q))).length<=1000000:=by
 obtain⟨h1,h2,h3,h4⟩:=h;have e2:QK2=4000000:=rfl;have s1:=ud (c:=bF [45,49]) (K:=1000000) (by have:=mA.2;omega) h2.lq;have s2:=om (bF [45,49]) (nl q);rw[iv] at s2;exact⟨⟨⟨mA.1,by have:=mA.2;omega⟩,h2.mono (by omega),h4⟩,h1,kO fun x hx=>by have:=s1 x hx;omega,h3,by rw[b4];omega⟩
abbrev DPD:=List Int×Int×List Int
def iA(d:DPD):Prop:=(∀ n∈d.1,-128<=n/\n<128)/\(0<=d.2.1/\d.2.1<256)/\∀ n∈d.2.2,-128<=n/\n<128
def PI(d:DPD)(n:Int):Rat:=Rat.divInt (n.tmod 10) (1+d.2.1.tmod 4)
def ix(d:DPD)(k:Nat):List Rat:=(d.1.take k).map (PI d)
def lZ(r:Int):List Rat:= [Rat.divInt (-r.tmod 8) 2,1]
def lQ(d:DPD):Nat->List Rat
 |0=>aR (ix d 5)
 |i+1=>cZ (lQ d i) (lZ (d.2.2.getD i 0))
def l4(d:DPD):List Rat:=lQ d (min d.2.2.length 4)
theorem iU(n:Int)(m:Int)(hm:0<m): -m<n.tmod m/\n.tmod m<m:=by
 have h1:=Int.tmod_lt_of_pos n hm;have h2:=Int.tmod_lt_of_pos (-n) hm;rw[Int.neg_tmod] at h2;omega
theorem kP{n:Int}(h:n.natAbs<1000000000):lw n<=1:=kE (by show _<(1000000000:Int)^1;omega)
theorem EX{d:DPD}(h:iA d)(l:List Int):Den 1 (l.map (PI d)):=by
 obtain⟨_,⟨h1,h2⟩,_⟩:=h;have hD:=iU d.2.1 4 (by decide);have h0:0<=d.2.1.tmod 4:=Int.tmod_nonneg _ h1;refine⟨1+d.2.1.tmod 4,by omega,kP (by omega),fun i=> ?_⟩;by_cases hi:i<l.length;·refine⟨l[i].tmod 10,kP (by have:=iU l[i] 10 (by decide);omega),?_⟩;unfold cf;rw[List.getD_eq_getElem?_getD,List.getElem?_map,List.getElem?_eq_getElem hi];rfl
 ·exact⟨0,by rw[gN];omega,by rw[cO (by rw[List.length_map];omega),Rat.zero_divInt]⟩
theorem vQ(r:Int):Trm (lZ r):=fun _=>by unfold lZ aK;show (1:Rat)≠0;decide
theorem z6(r:Int):Den 1 (lZ r):=by
 have h:=iU r 8 (by decide);refine⟨2,by decide,kP (by decide),fun i=> ?_⟩;match i with
 |0=>exact⟨-r.tmod 8,kP (by omega),rfl⟩
 |1=>exact⟨2,kP (by decide),by show (1:Rat)=_;decide+kernel⟩
 |i+2=>exact⟨0,by rw[gN];omega,by rw[cO (by unfold lZ;simp),Rat.zero_divInt]⟩
theorem nh{d:DPD}(h:iA d):∀ i,i<=4->Sml (5+i) (1+2*i) (lQ d i)
 |0,_=>⟨by
   have:=eH (ix d 5);unfold lQ;(have h2:(ix d 5).length<=5:=by unfold ix;rw[List.length_map,List.length_take];omega);omega,kJ _,kM (EX h _)⟩
 |i+1,hi=>by
  have ih:=nh h i (by omega);have:=ih.mul (l2:=lZ (d.2.2.getD i 0)) (m:=2) (c:=1) (k:=5+(i+1)) ⟨by unfold lZ;simp,vQ _,z6 _⟩ (by omega) (by omega) (by omega) (by omega);exact⟨this.len,this.trm,this.den.mono (by omega)⟩
theorem HS{d:DPD}(h:iA d):Sml 9 9 (l4 d):=by
 have:=nh h (min d.2.2.length 4) (by omega);exact⟨by have:=this.len;unfold l4;omega,this.trm,this.den.mono (by omega)⟩
abbrev I8:Ty:= .int .i8
theorem LI{l:List Int}{k:Nat}(hk:k<l.length):nth I8 l (k:Int)=l[k]:=dV (t:=I8) hk
theorem PJ{d:DPD}{k:Nat}(hk:k<d.1.length):txP (ix d k)++ [bk (PI d (nth I8 d.1 (k:Int)))]=txP (ix d (k+1)):=by
 rw[<- uc];unfold ix;rw[LI hk,List.take_succ_eq_append_getElem hk,List.map_append];rfl
theorem LJ{d:DPD}{k:Nat}(h: ¬ (k<d.1.length/\k<5))(hk:k<=d.1.length/\k<=5):ix d k=ix d 5:=by
 unfold ix;by_cases h5:k=5;·rw[h5]
 ·rw[List.take_of_length_le (by omega),List.take_of_length_le (by omega)]
theorem EY{d:DPD}(h:iA d)(k:Nat):GL QK (txP (ix d k))/\(txP (ix d k)).length<=k:=by
 refine⟨kO fun x hx=>Nat.le_trans ((EX h (d.1.take k)).lq x hx) (by unfold QK;decide),?_⟩;rw[b4];unfold ix;rw[List.length_map,List.length_take];omega
theorem PK{d:DPD}{k:Nat}(h:(txP (ix d k)).length<=k)(hk:k<=d.1.length/\k<=5):(txP (ix d k)).length<=1000000000:=by omega
theorem z7(r:Int):txP (lZ r)= [bk (Rat.divInt (-r.tmod 8) 2),[49]]:=by
 have h1:bk 1= [49]:=by decide+kernel
 unfold lZ txP;simp[h1]
theorem N8{d:DPD}(h:iA d){i:Nat}(hi:i<=4)(r:Int):HP (txP (lQ d i)) [bk (Rat.divInt (-r.tmod 8) 2),[49]]:=by
 have hs:=nh h i hi;rw[<- z7];refine⟨kO fun x hx=>Nat.le_trans (hs.den.lq x hx) (by omega),kO fun x hx=>Nat.le_trans ((z6 r).lq x hx) (by omega),by rw[b4];have:=hs.len;omega,by rw[b4];unfold lZ;simp⟩
theorem PL{d:DPD}(h:iA d){i:Nat}(hi:i<d.2.2.length)(hi4:i<4):txP (dM (nl (txP (lQ d i))) (nl [bk (Rat.divInt (-(nth I8 d.2.2 (i:Int)).tmod 8) 2),[49]]) (txP (lQ d i)).length)=txP (lQ d (i+1)):=by
 rw[<- z7,jA,jA,b4,EV (nh h i (by omega)).trm (vQ _),lQ,LI hi];congr 3;rw[List.getD_eq_getElem?_getD,List.getElem?_eq_getElem hi];rfl
theorem PM{d:DPD}{i:Nat}(h: ¬ (i<d.2.2.length/\i<4))(hk:i<=d.2.2.length/\i<=4):txP (lQ d i)=txP (l4 d):=by
 unfold l4;rw[show min d.2.2.length 4=i by omega]
theorem O0{k a n:Nat}(h:(decide ((k:Int)<(a:Int))&&decide ((k:Int)<(n:Int)))=true):k<a/\k<n:=by
 rw[Bool.and_eq_true,decide_eq_true_iff,decide_eq_true_iff] at h;omega
theorem O1{k a n:Nat}(h:(decide ((k:Int)<(a:Int))&&decide ((k:Int)<(n:Int)))=false): ¬ (k<a/\k<n):=by
 rw[Bool.and_eq_false_iff,decide_eq_false_iff_not,decide_eq_false_iff_not] at h;omega
theorem Qh{d:DPD}(h:iA d){k:Nat}(hk:k<d.2.2.length):IntKind.i64.wrap (0-(IntKind.i64.wrap (nth I8 d.2.2 (k:Int))).tmod 8)= -(nth I8 d.2.2 (k:Int)).tmod 8:=by
 have h1:=h.2.2 (nth I8 d.2.2 (k:Int)) (dW (t:=I8) hk);rw[wi (x:=nth I8 d.2.2 (k:Int)) (by omega) (by omega)];have h2:=iU (nth I8 d.2.2 (k:Int)) 8 (by decide);rw[wo];omega
theorem Qi{d:DPD}(h:iA d){k:Nat}(hk:k<d.1.length):IntKind.i64.wrap (nth I8 d.1 (k:Int))=nth I8 d.1 (k:Int):=by
 have h1:=h.1 (nth I8 d.1 (k:Int)) (dW (t:=I8) hk);exact wo
theorem HT{d:DPD}(h:iA d){k:Nat}(hk:k<d.2.2.length/\k<4):((0:Int)<=(k:Int)/\(k:Int)<((d.2.2.length:Nat):Int))/\(8:Int)≠0/\
  (I64 (IntKind.i64.wrap (0-(IntKind.i64.wrap (nth I8 d.2.2 (k:Int))).tmod 8))/\I64 2/\(2:Int)≠0)/\
   HP (txP (lQ d k)) [bk (Rat.divInt (IntKind.i64.wrap (0-(IntKind.i64.wrap (nth I8 d.2.2 (k:Int))).tmod 8)) 2),[49]]:=by
 rw[Qh h hk.1];have h2:=iU (nth I8 d.2.2 (k:Int)) 8 (by decide);exact⟨by omega,by decide,⟨by unfold I64;omega,by unfold I64;omega,by decide⟩,N8 h (by omega) _⟩
theorem HU{d:DPD}(h:iA d){k:Nat}(hk:k<d.2.2.length/\k<4):∃ z:Nat,txP (dM (nl (txP (lQ d k))) (nl [bk (Rat.divInt (IntKind.i64.wrap (0-(IntKind.i64.wrap (nth I8 d.2.2 (k:Int))).tmod 8)) 2),[49]]) (txP (lQ d k)).length)=txP (lQ d z)/\
   IntKind.i64.wrap ((k:Int)+1)=(z:Int)/\z<=d.2.2.length/\z<=4/\4-z<4-k:=by
 rw[Qh h hk.1];exact⟨k+1,PL h hk.1 hk.2,wo,by omega,by omega,by omega⟩
theorem PN{d:DPD}{k:Nat}(h: ¬ (k<d.1.length/\k<5))(hk:k<=d.1.length/\k<=5):txP (aR (nl (txP (ix d k))))=txP (lQ d 0):=by
 rw[jA,LJ h hk];rfl
theorem Qj{d:DPD}(h:iA d):IntKind.i64.wrap (1+IntKind.i64.wrap (Int.tmod d.2.1 4))=1+d.2.1.tmod 4:=by
 have hD:=iU d.2.1 4 (by decide);have h0:0<=d.2.1.tmod 4:=Int.tmod_nonneg _ h.2.1.1;rw[wi (x:=d.2.1.tmod 4) (by omega) (by omega),wo]
theorem HV{d:DPD}(h:iA d){k:Nat}(hk:k<d.1.length/\k<5):((0:Int)<=(k:Int)/\(k:Int)<((d.1.length:Nat):Int))/\(10:Int)≠0/\(4:Int)≠0/\
    (I64 ((IntKind.i64.wrap (nth I8 d.1 (k:Int))).tmod 10)/\
      I64 (IntKind.i64.wrap (1+IntKind.i64.wrap (Int.tmod d.2.1 4)))/\
       IntKind.i64.wrap (1+IntKind.i64.wrap (Int.tmod d.2.1 4))≠0)/\
     live [some (txP (ix d k))] 0=true/\Cm.Roomy 1 ((rowOf [some (txP (ix d k))] 0).length+1):=by
 rw[Qj h,Qi h hk.1];have hD:=iU d.2.1 4 (by decide);have h0:0<=d.2.1.tmod 4:=Int.tmod_nonneg _ h.2.1.1;have hn:=iU (nth I8 d.1 (k:Int)) 10 (by decide);refine⟨by omega,by decide,by decide,⟨by unfold I64;omega,by unfold I64;omega,by omega⟩,rfl,oo ?_⟩;show (txP (ix d k)).length+1<=_;rw[b4];unfold ix;rw[List.length_map,List.length_take];omega
theorem HW{d:DPD}(h:iA d){k:Nat}(hk:k<d.1.length/\k<5):∃ z:Nat,IntKind.i64.wrap ((k:Int)+1)=(z:Int)/\
   rowOf [some (txP (ix d k))] 0++ [bk (Rat.divInt ((IntKind.i64.wrap (nth I8 d.1 (k:Int))).tmod 10) (IntKind.i64.wrap (1+IntKind.i64.wrap (Int.tmod d.2.1 4))))]=txP (ix d z)/\
    z<=d.1.length/\z<=5/\5-z<5-k:=by
 rw[Qj h,Qi h hk.1];exact⟨k+1,wo,PJ hk.1,by omega,by omega,by omega⟩
theorem O2{α:Type}(l:List α):(((l.length:Nat):Int)==0)=decide (l= []):=by
 rw[Bool.eq_iff_iff,beq_iff_eq,decide_eq_true_iff];constructor;·intro h;exact List.eq_nil_of_length_eq_zero (by omega)
 ·intro h;rw[h];rfl
theorem PO(a b:Int):(a==b)=decide (a=b):=by rw[Bool.eq_iff_iff,beq_iff_eq,decide_eq_true_iff]
theorem LK(e:Int)(p q:List (List UInt8)):(e==0&&decide (p=q))=decide (e=0/\p=q):=by rw[PO];exact(Bool.decide_and _ _).symm
theorem z8(p:List (List UInt8))(e q:Int):(((p.length:Nat):Int)==0&&e==q)=decide (p= []/\e=q):=by rw[O2,PO];exact(Bool.decide_and _ _).symm
def L(l:List (List UInt8)):List (List UInt8):=l
theorem wp1:dvS [[45,49],[48],[48],[49]] [[45,49],[49]]= [[49],[49],[49]]/\dvR [[45,49],[48],[48],[49]] [[45,49],[49]]= []/\dvE [[45,49],[48],[48],[49]] [[45,49],[49]]=0:=by decide+kernel
theorem wp2:dvS [[49],[48],[49]] [[48],[50]]= [[48],[49,47,50]]/\dvR [[49],[48],[49]] [[48],[50]]= [[49]]/\dvE [[49],[48],[49]] [[48],[50]]=0:=by decide+kernel
theorem wp3:dvE [[49]] []=2:=by decide+kernel
theorem wp4:evS [[49],[48],[49]] [49,47,50]= [53,47,52]/\evE [[49],[48],[49]] [49,47,50]=0:=by decide+kernel
theorem wp5:evE [[49]] [50,47,50]=5:=by decide+kernel
theorem wp6:cr cZ [[49],[49]] [[45,49],[49]]= [[45,49],[48],[49]]/\cC cZ [[49],[49]] [[45,49],[49]]=0:=by decide+kernel
theorem wp7:cr (bz (· + ·)) [[49],[50]] [[49],[45,50]]= [[50]]/\cC (bz (· + ·)) [[49],[50]] [[49],[45,50]]=0:=by decide+kernel
theorem wp8:cr (bz (· - ·)) [[49],[50]] [[49],[50]]= []/\cC (bz (· - ·)) [[49],[50]] [[49],[50]]=0:=by decide+kernel
theorem wp9:cr cB [[45,49],[48],[49]] [[49],[50],[49]]= [[49],[49]]/\cC cB [[45,49],[48],[49]] [[49],[50],[49]]=0:=by decide+kernel
theorem N9:cr cB [[50]] []= [[49]]/\cC cB [[50]] []=0:=by decide+kernel
theorem Oa:cr cB [] []= []/\cC cB [] []=0:=by decide+kernel
theorem Ob:vI [[49],[48],[49]] [[49],[49]]= [[50],[50],[49]]/\vH [[49],[48],[49]] [[49],[49]]=0:=by decide+kernel
theorem Oc:cr (fun a _=>cx a) [[53],[51],[48],[50]] []= [[51],[48],[54]]/\cC (fun a _=>cx a) [[53],[51],[48],[50]] []=0:=by decide+kernel
theorem Od:cr (fun a _=>cu a) [[50],[45,51],[48],[49]] []= [[45,50],[49],[49]]/\cC (fun a _=>cu a) [[50],[45,51],[48],[49]] []=0:=by decide+kernel
theorem Oe:cr (fun a _=>cu a) [[55]] []= [[49]]/\cC (fun a _=>cu a) [[55]] []=0:=by decide+kernel
theorem Of:bK [[49],[48]]=40/\bK [[49,47,48]]=40:=by decide+kernel
theorem wsq:3<=QL/\((((0:Nat):Int)==0)=true->(((0:Nat):Int)==0)=true)/\((((0:Nat):Int)==0)=true->(((0:Nat):Int)==0)=true/\2<=QL)/\((((0:Nat):Int)==0)=true->(((0:Nat):Int)==0)=true)/\
  ((((0:Nat):Int)==0)=true->(((0:Nat):Int)==0)=true)/\((((0:Nat):Int)==0)=true->(((0:Nat):Int)==0)=true/\1<=QL)/\((((0:Nat):Int)==0)=true->(((0:Nat):Int)==0)=true):=by
 unfold QL;decide
theorem ok6:bL (fun p q=>Sz QM p/\Sz QM q/\p.length<=100/\q.length<=100) cZ [[49],[49]] [[45,49],[49]]:=Qd (n:=4) (K:=1) (by decide+kernel) (by decide+kernel)
theorem ok7:bL (fun p q=>Sz QH p/\Sz QH q/\p.length<=1000/\q.length<=1000) (bz (· + ·)) [[49],[50]] [[49],[45,50]]:=Qb (n:=4) (K:=1) (by decide+kernel) (by decide+kernel)
theorem ok8:bL (fun p q=>Sz QH p/\Sz QH q/\p.length<=1000/\q.length<=1000) (bz (· - ·)) [[49],[50]] [[49],[50]]:=Qc (n:=4) (K:=1) (by decide+kernel) (by decide+kernel)
theorem ok9:bL iR cB [[45,49],[48],[49]] [[49],[50],[49]]:=Ll (n:=4) (K:=1) (by decide+kernel) (by decide+kernel)
theorem Qw:bL iR cB [[50]] []:=Ll (n:=4) (K:=1) (by decide+kernel) (by decide+kernel)
theorem Qx:bL iR cB [] []:=Ll (n:=4) (K:=1) (by decide+kernel) (by decide+kernel)
theorem Qy:xq [[49],[48],[49]] [[49],[49]]:=PF (n:=4) (m:=4) (K:=1) (by decide+kernel) (by decide+kernel)
theorem Qz:bL (fun p _=>Sz QH p/\p.length<=1000) (fun a _=>cx a) [[53],[51],[48],[50]] []:=Qe (n:=4) (K:=1) (by decide+kernel)
theorem QA:bL (fun p _=>lY p) (fun a _=>cu a) [[50],[45,51],[48],[49]] []:=OW (n:=4) (K:=1) (by decide+kernel)
theorem QB:bL (fun p _=>lY p) (fun a _=>cu a) [[55]] []:=OW (n:=4) (K:=1) (by decide+kernel)
theorem Qk:cT [[49],[48]]/\cT [[49,47,48]]:=by unfold cT QL;decide
theorem Ql{n:Nat}(h:n<=1000):n<=QL:=by unfold QL;omega
def oq:List (List UInt8)->Int
 | []=>0
 |q::l=>if cb q=0 then oq l else cb q
theorem xt{p:List (List UInt8)}(h:p.all (fun q=>decide (cb q=0))=true):oq p=0:=by
 induction p with
 |nil=>rfl
 |cons q l ih=>
  simp only[List.all_cons,Bool.and_eq_true,decide_eq_true_eq] at h;unfold oq;rw[if_pos h.1];exact ih h.2
theorem LL{p:List (List UInt8)}{k:Nat}(hk:k<p.length)(h:(p.take k).all (fun q=>decide (cb q=0))=true)(hb: ¬cb (nth .str p (k:Int))=0):cb (nth .str p (k:Int))=oq p:=by
 rw[dV (t:= .str) hk] at hb ⊢;induction p generalizing k with
 |nil=>simp at hk
 |cons q l ih=>
  unfold oq;cases k with
  |zero=>exact(if_neg hb).symm
  |succ k=>
   simp only[List.take_succ_cons,List.all_cons,Bool.and_eq_true,decide_eq_true_eq] at h;rw[if_pos h.1];exact ih (by simpa using hk) h.2 (by simpa using hb)
theorem LM{p:List (List UInt8)}:oq p=0↔p.all (fun q=>decide (cb q=0))=true:=by
 refine⟨fun h=> ?_,xt⟩;induction p with
 |nil=>rfl
 |cons q l ih=>
  unfold oq at h;split at h;·rename_i hq;rw[List.all_cons,ih h];simp[hq]
  ·rename_i hq;exact absurd h hq
theorem nk(p:List (List UInt8)):p.getLastD []=p.getLast?.getD []:=List.getLastD_eq_getLast? ..
theorem Dq(p:List (List UInt8)):(decide (p.length<=41)&&decide (oq p=0)&&(decide (p= [])||decide (p.getLastD []≠ [48])))=decide (bK p=0):=by
 unfold bK;by_cases h1:41<p.length
 ·rw[if_pos h1];have: ¬p.length<=41:=by omega
  simp[this]
 ·rw[if_neg h1];have h1':p.length<=41:=by omega
  by_cases h2:p.all (fun q=>decide (cb q=0))=true
  ·rw[if_neg (by rw[h2];decide)];have h3:=xt h2;by_cases h4:p≠ []/\p.getLastD []= [48];·rw[if_pos h4];obtain⟨h5,h6⟩:=h4;rw[nk] at h6;simp[h1',h3,h5,h6]
   ·(rw[if_neg h4];by_cases h5:p= [];·simp[h5,oq]);·have h6: ¬p.getLastD []= [48]:=fun e=>h4 ⟨h5,e⟩;rw[nk] at h6;simp[h1',h3,h6]
  ·rw[if_pos (by simpa using h2)];have h3: ¬oq p=0:=fun e=>h2 (LM.1 e);simp[h3]
def jd(q:List UInt8):Bool:=decide (cS (an (tN q))<=2000/\cS (an (tD q))<=2000)
theorem Og(x:Rat):jd (bk x)=fJ x:=by
 obtain⟨h1,h2,_⟩:=gy x;unfold jd fJ;rw[h1,h2,(bc _).2,(bc _).2]
theorem LN(l:List Rat):(txP l).all jd=jz l:=by
 unfold txP jz;rw[List.all_map];congr 1;funext x;exact Og x
def FL(p:List (List UInt8)):Prop:=p.length<=1000/\∀ q∈p,eA q
theorem Oh{x:Rat}{K:Nat}(h:lq x<=K)(hK:K<=10000000):eA (bk x):=by
 have hr:RQ (bk x):=by
  refine⟨?_,?_⟩;·rw[vD];unfold ph;split<;>decide
  ·have:=oa h;unfold QL;omega
 exact hr.form
theorem LO{l:List Rat}{K:Nat}(hn:l.length<=1000)(h:∀ x∈l,lq x<=K)(hK:K<=10000000):FL (txP l):=by
 refine⟨by rw[b4];exact hn,fun q hq=> ?_⟩;obtain⟨x,hx,rfl⟩:=List.mem_map.1 hq;exact Oh (h x hx) hK
def je(p:List (List UInt8))(e:Int)(w:List (List UInt8)):Bool:=if w.all jd=true then decide (e=0/\p=w) else decide (p= []/\e=6)
theorem ot{f:List Rat->List Rat->List Rat}{l m:List Rat}(hl:Pol l)(hm:Pol m){r:List Rat}(hr:aR (f l m)=r)(hn:r.length<=41):je (cr f (txP l) (txP m)) (cC f (txP l) (txP m)) (txP r)=true:=by
 have e1:cC f (txP l) (txP m)=cl r:=by unfold cC;rw[if_pos (vG hl hm),hl.num,hm.num,hr]
 have e2:cr f (txP l) (txP m)=fQ r:=by unfold cr;rw[if_pos (vG hl hm),hl.num,hm.num,hr]
 rw[e1,e2];unfold je;rw[LN];by_cases hf:jz r=true
 ·have:cl r=0:=by unfold cl;rw[if_neg (by omega),if_pos (by rw[vF];exact hf)]
  rw[if_pos hf,this];unfold fQ;rw[if_pos this];simp[txP]
 ·have:cl r=6:=by unfold cl;rw[if_neg (by omega),if_neg (by rw[vF];exact hf)]
  rw[if_neg hf,this];unfold fQ;rw[if_neg (by rw[this];decide)];simp
def mB(p:List (List UInt8)):List (List UInt8):=(p.take 6).map fun q=>q.take 8
structure Part (p:List (List UInt8)):Prop where
 short:cT p
 sml:bK p=0->txP (bh p)=p/\Pol (bh p)/\Sml 9 9 (bh p)
theorem nm(p:List (List UInt8)):bK p=0∨bK p=40:=by
 unfold bK;split;·exact .inr rfl
 ·split;·exact .inr rfl
  ·(split;·exact .inr rfl);·exact .inl rfl
theorem nn(p:List (List UInt8)):Part (mB p):=by
 have hl:(mB p).length<=6:=by unfold mB;rw[List.length_map,List.length_take];omega
 have hq:∀ q∈mB p,q.length<=8:=by
  intro q hq;obtain⟨x,_,rfl⟩:=List.mem_map.1 hq;rw[List.length_take];omega
 have hs:cT (mB p):=⟨by unfold QL;omega,fun q h=>by have:=hq q h;unfold QL;omega⟩;refine⟨hs,fun hc=> ?_⟩;obtain⟨t1,t2,t3,t4⟩:=ED hs hc;have hn:(bh (mB p)).length=(mB p).length:=by rw[<- t1,b4,t1]
 have hlq:∀ x∈bh (mB p),lq x<=1:=by
  intro x hx;have hm:bk x∈mB p:=by rw[<- t1];exact List.mem_map.2 ⟨x,hx,rfl⟩
  have h8:=hq _ hm;obtain⟨p1,p2,_⟩:=gy x;have hN:=mo (bk x);have hD:=mq (bk x);rw[p1] at hN;rw[p2] at hD;have key:∀ n:Int,(Lib.itoa n).length<=9->lw n<=1:=by
   intro n hn;have h1:=J8 (bc n).1;rw[(bc n).2] at h1;refine kE ?_;have h2:(10:Nat)^(Lib.itoa n).length<=10^9:=Nat.pow_le_pow_right (by omega) hn;show _<(1000000000:Int)^1;omega
  exact Nat.max_le.2 ⟨key _ (by omega),key _ (by omega)⟩
 have hsm:=Db (n:=6) (K:=1) (by omega) t3 (by decide) hlq;exact⟨t1,⟨t2,t3,t4⟩,⟨by have:=hsm.len;omega,hsm.trm,hsm.den.mono (by decide)⟩⟩
theorem j6{d:DPD}(h:iA d):Part (txP (l4 d)):=by
 have hs:=HS h;have pp:=hs.pol (by decide) (by decide);exact⟨pp.short,fun _=>by rw[pp.num];exact⟨rfl,pp,hs⟩⟩
def ue(p q:List (List UInt8))(d f:DPD):List (List (List (List UInt8))):=
 [[mB p,mB q],[mB p,txP (l4 f)],[txP (l4 d),mB q],[txP (l4 d),txP (l4 f)]]
theorem Dr{p q:List (List UInt8)}{d f:DPD}(hd:iA d)(hf:iA f){k:Nat}(hk:k<4):∃ a b,nth (.arr 2 (.slice .str)) (ue p q d f) (k:Int)= [a,b]/\Part a/\Part b:=by
 have:k=0∨k=1∨k=2∨k=3:=by omega
 rcases this with rfl|rfl|rfl|rfl;·exact⟨_,_,rfl,nn p,nn q⟩
 ·exact⟨_,_,rfl,nn p,j6 hf⟩
 ·exact⟨_,_,rfl,j6 hd,nn q⟩
 ·exact⟨_,_,rfl,j6 hd,j6 hf⟩
theorem Aa{a b:List (List UInt8)}(h: ¬ (bK a=0/\bK b=0)):bQ [a,b]=40:=by
 unfold bQ;rcases nm a with ha|ha
 ·rw[if_pos ha];rcases nm b with hb|hb;·exact absurd ⟨ha,hb⟩ h
  ·unfold bQ;rw[if_neg (by rw[hb];decide)];exact hb
 ·rw[if_neg (by rw[ha];decide)];exact ha
theorem xu{f:List Rat->List Rat->List Rat}{a b:List (List UInt8)}(h: ¬ (bK a=0/\bK b=0)):cr f a b= []/\cC f a b=40:=by
 have:=Aa h;unfold cr cC;rw[if_neg (by rw[this];decide),if_neg (by rw[this];decide)];exact⟨rfl,this⟩
theorem xv{D:List ND->List ND->Prop}{f:List Rat->List Rat->List Rat}{a b:List (List UInt8)}(ha:Part a)(hb:Part b)(h: ¬ (bK a=0/\bK b=0)):bL D f a b:=
 ⟨ha.short,hb.short,fun e=>by rw[Aa h] at e;exact absurd e (by decide)⟩
theorem LP{a b:List (List UInt8)}(ha:Part a)(hb:Part b):bL (fun p q=>Sz QH p/\Sz QH q/\p.length<=1000/\q.length<=1000) (bz (· + ·)) a b:=by
 by_cases h:bK a=0/\bK b=0
 ·have:=EH (ha.sml h.1).2.1 (hb.sml h.2).2.1;rwa [(ha.sml h.1).1,(hb.sml h.2).1] at this
 ·exact xv ha hb h
theorem LQ{a b:List (List UInt8)}(ha:Part a)(hb:Part b):bL (fun p q=>Sz QH p/\Sz QH q/\p.length<=1000/\q.length<=1000) (bz (· - ·)) a b:=by
 by_cases h:bK a=0/\bK b=0
 ·have:=EI (ha.sml h.1).2.1 (hb.sml h.2).2.1;rwa [(ha.sml h.1).1,(hb.sml h.2).1] at this
 ·exact xv ha hb h
theorem LR{a b:List (List UInt8)}(ha:Part a)(hb:Part b):bL (fun p q=>Sz QM p/\Sz QM q/\p.length<=100/\q.length<=100) cZ a b:=by
 by_cases h:bK a=0/\bK b=0
 ·have:=EJ (ha.sml h.1).2.1 (hb.sml h.2).2.1;rwa [(ha.sml h.1).1,(hb.sml h.2).1] at this
 ·exact xv ha hb h
structure LS (a b:List (List UInt8)):Prop where
 ga:GL 2000 a
 gb:GL 2000 b
 la:a.length<=9
 lb:b.length<=9
 fs:FL (txP (bz (· + ·) (nl a) (nl b)))
 fm:FL (txP (bz (· - ·) (nl a) (nl b)))
 ft:FL (txP (dM (nl a) (nl b) a.length))
 ts:je (cr (bz (· + ·)) a b) (cC (bz (· + ·)) a b) (txP (bz (· + ·) (nl a) (nl b)))=true
 tm:je (cr (bz (· - ·)) a b) (cC (bz (· - ·)) a b) (txP (bz (· - ·) (nl a) (nl b)))=true
 tt:je (cr cZ a b) (cC cZ a b) (txP (dM (nl a) (nl b) a.length))=true
theorem HY{a b:List (List UInt8)}(ha:Part a)(hb:Part b)(h:bK a=0/\bK b=0):LS a b:=by
 obtain⟨t1,p1,s1⟩:=ha.sml h.1;obtain⟨t2,p2,s2⟩:=hb.sml h.2;generalize bh a=l at*;generalize bh b=m at*;subst t1;subst t2;have ll:=s1.len;have lm:=s2.len;have ss:=s1.add s2;have sm:=s1.sub s2;have st:Sml 17 19 (cZ l m):=s1.mul s2 (by decide) (by decide) (by decide) (by decide);have e:dM l m l.length=cZ l m:=EV s1.trm s2.trm;have l1:=ss.len;have l2:=sm.len;have l3:=st.len;refine⟨kO p1.lq,kO p2.lq,by rw[b4];exact ll,by rw[b4];exact lm,?_,?_,?_,?_,?_,?_⟩<;>simp only[jA,b4,e];·exact LO (K:=19) (by omega) (fun x hx=>ss.den.lq x hx) (by decide)
 ·exact LO (K:=19) (by omega) (fun x hx=>sm.den.lq x hx) (by decide)
 ·exact LO (K:=19) (by omega) (fun x hx=>st.den.lq x hx) (by decide)
 ·exact ot p1 p2 (nY ss.trm) (by omega)
 ·exact ot p1 p2 (nY sm.trm) (by omega)
 ·exact ot p1 p2 (nY st.trm) (by omega)
theorem Ds{p:List (List UInt8)}(hl:p.length<=1000000000){b:Bool}(h:(b&& !((p.length:Int)==0))=true):0<=IntKind.i64.wrap ((p.length:Int)-1)/\IntKind.i64.wrap ((p.length:Int)-1)<(p.length:Int):=by
 simp only[Bool.and_eq_true,Bool.not_eq_true',beq_eq_false_iff_ne] at h;rw[b9 hl];omega
theorem Dt{p:List (List UInt8)}:(decide ((p.length:Int)<=41)&&oq p==0&&((p.length:Int)==0||nth Ty.str p (IntKind.i64.wrap ((p.length:Int)-1)) != [48]))=decide (bK p=0):=by
 rw[<- Dq];have e1:decide ((p.length:Int)<=41)=decide (p.length<=41):=by
  rw[Bool.eq_iff_iff,decide_eq_true_iff,decide_eq_true_iff];omega
 rw[e1,PO,O2];by_cases hl:p.length<=41
 ·by_cases hp:p= []
  ·subst hp;rfl
  ·rw[kN hl (List.length_pos_iff.2 hp)];congr 2;rw[Bool.eq_iff_iff];simp
 ·simp[hl]
theorem LU{m:List (List (List UInt8))}{k j:Nat}(hk:k<m.length)(hj:j<List.length (nth (.slice .str) m (k:Int)))(hb: ¬ (cS (an (tN (nth .str (nth (.slice .str) m (k:Int)) (j:Int))))<=2000/\cS (an (tD (nth .str (nth (.slice .str) m (k:Int)) (j:Int))))<=2000)):false=List.all m fun p=>List.all p jd:=by
 symm
 rw[List.all_eq_false];refine⟨_,dW (t:= .slice .str) hk,?_⟩;rw[Bool.not_eq_true,List.all_eq_false];exact⟨_,dW (t:= .str) hj,by unfold jd;simpa using hb⟩
theorem Oi{m:List (List (List UInt8))}{k j:Nat}(hl:List.length (nth (.slice .str) m (k:Int))<=1000)(hj:j<List.length (nth (.slice .str) m (k:Int)))(g:(List.take j (nth (.slice .str) m (k:Int))).all jd=true)(hb:cS (an (tN (nth .str (nth (.slice .str) m (k:Int)) (j:Int))))<=2000/\cS (an (tD (nth .str (nth (.slice .str) m (k:Int)) (j:Int))))<=2000):
  ∃ z:Nat,IntKind.i64.wrap ((j:Int)+1)=(z:Int)/\z<=List.length (nth (.slice .str) m (k:Int))/\(List.take z (nth (.slice .str) m (k:Int))).all jd=true/\List.length (nth (.slice .str) m (k:Int))-z<List.length (nth (.slice .str) m (k:Int))-j:=by
 refine⟨j+1,wo,hj,?_,by omega⟩;rw[List.take_succ_eq_append_getElem hj,List.all_append,g];rw[dV (t:= .str) hj] at hb;have:jd ((nth (.slice .str) m (k:Int))[j])=true:=by unfold jd;exact decide_eq_true hb
 simp[this]
theorem LW{m:List (List (List UInt8))}{k j:Nat}(hl:m.length<=1000)(hk:k<m.length)(hj: ¬j<List.length (nth (.slice .str) m (k:Int)))(g2:(m.take k).all (fun p=>p.all jd)=true)(g:(List.take j (nth (.slice .str) m (k:Int))).all jd=true):
  ∃ z:Nat,IntKind.i64.wrap ((k:Int)+1)=(z:Int)/\z<=m.length/\((List.take z m).all fun p=>List.all p jd)=true/\m.length-z<m.length-k:=by
 refine⟨k+1,wo,hk,?_,by omega⟩;rw[List.take_of_length_le (by omega)] at g;rw[List.take_succ_eq_append_getElem hk,List.all_append,g2];rw[dV (t:= .slice .str) hk] at g;have g':List.all m[k] jd=true:=g;simp only[List.all_cons,List.all_nil,Bool.and_true,Bool.true_and];exact g'
theorem HZ{m:List (List (List UInt8))}{k:Nat}(hk: ¬k<m.length)(g2:(m.take k).all (fun p=>p.all jd)=true):true=List.all m fun p=>List.all p jd:=by
 rw[List.take_of_length_le (by omega)] at g2;exact g2.symm
theorem Oj{p:List (List UInt8)}{k:Nat}(hk: ¬k<p.length)(g2:(p.take k).all (fun q=>decide (cb q=0))=true):0=oq p:=by
 rw[List.take_of_length_le (by omega)] at g2;exact(xt g2).symm
theorem Ok{p w:List (List UInt8)}{e:Int}(h2:List.all w jd=false):(((p.length:Nat):Int)==0&&e==6)=je p e w:=by
 unfold je;rw[if_neg (by rw[h2];decide)];exact z8 p e 6
theorem Ol{p w:List (List UInt8)}{e:Int}(h2:List.all w jd=true):(e==0&&decide (p=w))=je p e w:=by
 unfold je;rw[if_pos h2];exact LK e p w
theorem Om{p:List (List UInt8)}:(0:Int)<=0/\(0:Int)<=min ((p.length:Nat):Int) 6/\min ((p.length:Nat):Int) 6<=((p.length:Nat):Int):=by omega
theorem LX{p:List (List UInt8)}:List.drop (Int.toNat 0) (List.take (Int.toNat (min ((p.length:Nat):Int) 6)) p)=List.take 6 p:=by
 rw[show Int.toNat 0=0 from rfl,List.drop_zero];by_cases h:p.length<=6;·rw[List.take_of_length_le (by omega),List.take_of_length_le h]
 ·congr 1;omega
theorem LY{q:List UInt8}:List.drop (Int.toNat 0) (List.take (Int.toNat (min ((q.length:Nat):Int) 8)) q)=List.take 8 q:=by
 rw[show Int.toNat 0=0 from rfl,List.drop_zero];by_cases h:q.length<=8;·rw[List.take_of_length_le (by omega),List.take_of_length_le h]
 ·congr 1;omega
theorem H0{p:List (List UInt8)}{k:Nat}(hk:k<(List.take 6 p).length):∃ z:Nat,IntKind.i64.wrap ((k:Int)+1)=(z:Int)/\List.map (fun q=>List.take 8 q) (List.take k (List.take 6 p))++ [List.drop (Int.toNat 0) (List.take (Int.toNat (min ((List.length (nth Ty.str (List.take 6 p) (k:Int)):Nat):Int) 8)) (nth Ty.str (List.take 6 p) (k:Int)))]=List.map (fun q=>List.take 8 q) (List.take z (List.take 6 p))/\
    z<=(List.take 6 p).length/\(List.take 6 p).length-z<(List.take 6 p).length-k:=by
 have h6:(List.take 6 p).length<=6:=by rw[List.length_take];omega
 refine⟨k+1,wo,?_,hk,by omega⟩;rw[LY,dV (t:= .str) hk];have e:List.take (k+1) (List.take 6 p)=List.take k (List.take 6 p)++ [(List.take 6 p)[k]]:=List.take_succ_eq_append_getElem hk;rw[e,List.map_append];rfl
theorem Oo{p:List (List UInt8)}{k:Nat}(hk: ¬k<(List.take 6 p).length):List.map (fun q=>List.take 8 q) (List.take k (List.take 6 p))=mB p:=by
 rw[List.take_of_length_le (by omega)];rfl
theorem H1{q:List UInt8}{p:List (List UInt8)}{k:Nat}:((0:Int)<=0/\(0:Int)<=min ((q.length:Nat):Int) 8/\min ((q.length:Nat):Int) 8<=((q.length:Nat):Int))/\Cm.Roomy 1 ((List.map (fun q=>List.take 8 q) (List.take k (List.take 6 p))).length+1):=by
 refine⟨by omega,oo ?_⟩;rw[List.length_map,List.length_take,List.length_take];omega
theorem LZ{a b:List (List UInt8)}(h:(!decide (bK a=0)|| !decide (bK b=0))=true): ¬ (bK a=0/\bK b=0):=by
 rintro⟨h1,h2⟩;simp[h1,h2] at h
theorem Oq{a b:List (List UInt8)}(h:(!decide (bK a=0)|| !decide (bK b=0))=false):bK a=0/\bK b=0:=by
 simpa using h
theorem H2(l:List Rat):(fQ l).length<=QL:=by
 unfold fQ;split
 ·rename_i h;rw[List.length_map];have:l.length<=41:=by
   apply Nat.le_of_not_lt;intro h2;unfold cl at h;rw[if_pos h2] at h;exact absurd h (by decide)
  unfold QL;omega
 ·simp
theorem H3(f:List Rat->List Rat->List Rat)(p q:List (List UInt8)):(cr f p q).length<=QL:=by
 unfold cr;split;·exact H2 _
 ·simp
end Go.Cm
end
section
namespace Go.Proofs.YtdojbabpnaifoaaGreatDoor
open Go Go.Cm Go.Proofs
theorem PP:cQ Tryz.prog 84 .func:=DP (by kernel_rfl) ⟨_,_,_,Tryz.underlying84⟩
theorem Qm:cQ Tryz.prog 109 .func:=DP (by kernel_rfl) ⟨_,_,_,Tryz.underlying109⟩
def xw(B:aj):Tab:={types:= [(3,(.int .i64)),(181,(.slice (.int .i64)))],elems:= [],cons:= [],hint:= [],N:=21,base:=B}
theorem EZ{B:aj}(hB:aB B):aG Tryz.prog (xw B):=⟨⟨tc ty3 (tc iO (ae)),af,by simp only[xw,ioB];omega⟩,bG rfl,by kernel_rfl⟩
def l5:Con:=fun l os=>match l,os with
 | [.z (.slice (.int .i64)) d],[]=>some (D.Lim d/\d.length<CAP,[.z (.slice (.int .i64)) (D.limbs (D.valL d).toNat)],[])
 |_,_=>none
theorem np{B:aj}(hB:aB B):Valid B Tryz.prog 183 l5:=by
 refine ab (EZ hB).tab Tryz.func183 rfl rfl rfl ?_;intro args os C rs os' hc hC;unfold l5 at hc;split at hc;case h_2=>cases hc
 rename_i d;cases hc;refine v_h (EZ hB) fun X hP hT hr hG=> ?_;have hU:=xw.eq_1;unfold xw at hT;have hX:=Bool.not_true;simp only[Tryz.f183,aC,al,ioB];refine s_g hG ?_;refine ak (av ?_);refine bj (fun(z:List Int)=>(⟨[(0,.l (.z (.slice (.int .i64)) z))],[]⟩:aa)) (fun z=>D.Lim z/\D.valL z=D.valL d/\z.length<=d.length) (fun z=>z.length) d ?_ ?_ ?_;·simp only[ml0,ml1,Nat.reduceLT,Nat.reduceEqDiff,Nat.reduceAdd,Nat.reduceMul,Nat.reduceSub,Nat.reduceLeDiff,Nat.reduceBEq,Nat.reduceBNe,reduceIte,reduceDIte,reduceCtorEq]
 ·exact⟨hC.1,rfl,Nat.le_refl _⟩
 ·rintro z ⟨g1,g2,g3⟩;try dsimp only at g1 g2 g3
  have h4:z.length<1000000000000:=Nat.lt_of_le_of_lt g3 hC.2;refine ak (s_q hG ?_ ?_)
  ·(try simp only[ba]);exact⟨id,id,fun h=>⟨h,by simp only[decide_eq_true_eq] at h;rw[wo];omega⟩,id⟩
  refine ao ?_ ?_
  ·intro hb0;(try simp only[bt] at hb0);refine aq (ah ?_);refine av (ag hG ?_ ?_)
   ·(try simp only[ba]);rw[wo];omega
   refine aI ?_;show ∃ z,_;refine q_l ?_;exact D.whole_round g1 g2 g3 hb0.1 h4 hb0.2
  ·intro hb0;(try simp only[bf] at hb0);refine bd (aD ?_);refine az (ax ?_);refine ah (s_g hG ?_);refine ay (q_e [] ?_);refine D.cut_fin g1 g2 fun hz h0=> ?_;have:=hb0 (by simp;omega);rw[wo,D.last_eq hz] at this;exact this h0
def xx(B:aj):Tab:={types:= [(3,(.int .i64)),(181,(.slice (.int .i64)))],elems:= [],cons:= [],hint:= [],N:=41,base:=B}
theorem E0{B:aj}(hB:aB B):aG Tryz.prog (xx B):=⟨⟨tc ty3 (tc iO (ae)),af,by simp only[xx,ioB];omega⟩,bG rfl,by kernel_rfl⟩
def fh:Con:=fun l os=>match l,os with
 | [.z (.slice (.int .i64)) m,.z (.slice (.int .i64)) o],[]=>some (D.Cano m/\D.Cano o/\m.length<CAP/\o.length<CAP,[.z (.int .i64) (aZ (D.valL m) (D.valL o))],[])
 |_,_=>none
theorem uf{B:aj}(hB:aB B):Valid B Tryz.prog 160 fh:=by
 refine ab (E0 hB).tab Tryz.func160 rfl rfl rfl ?_;intro args os C rs os' hc hC;unfold fh at hc;split at hc;case h_2=>cases hc
 rename_i m o;cases hc;refine v_h (E0 hB) fun X hP hT hr hG=> ?_;have hU:=xx.eq_1;unfold xx at hT;have hX:=Bool.not_true;simp only[Tryz.f160,aC,al,ioB];refine s_g hG ?_;refine ak (s_g hG ?_);refine ao ?_ ?_
 ·intro hb0;try simp only[bt] at hb0
  refine ak (s_g hG ?_);refine ao ?_ ?_;·intro hb1;(try simp only[bt] at hb1);refine s_g hG ?_;refine ay (aw ?_);refine aw (q_e [] ?_);unfold aZ;rw[if_pos (D.cmp_len hC.1 hC.2.1 (by omega))]
  ·intro hb1;(try simp only[bf] at hb1);refine aq (ah ?_);refine s_g hG ?_;refine ay (aw ?_);refine q_e [] ?_;have:=D.cmp_len hC.2.1 hC.1 (by omega);unfold aZ;rw[if_neg (by omega),if_pos this]
 ·intro hb0;simp only[bne_eq_false_iff_eq] at hb0;obtain⟨c1,c2,c3,c4⟩:=hC;have c3:List.length m<1000000000000:=c3;have hl:List.length m=List.length o:=by omega
  refine aq (ah ?_);refine ak (s_g hG ?_);refine av (bj (fun(z:Nat)=>(⟨[(0,.l (.z (.slice (.int .i64)) m)),(1,.l (.z (.slice (.int .i64)) o)),(5,.l (.z (.int .i64) ((z:Int)-1)))],[]⟩:aa)) (fun z=>z<=List.length m/\List.drop z m=List.drop z o) (fun z=>z) (List.length m) ?_ ?_ ?_);·refine q_l ?_;exact wo
  ·exact⟨Nat.le_refl _,by rw[List.drop_length,List.drop_of_length_le (by omega)]⟩
  ·rintro k ⟨g1,g2⟩;(try dsimp only at g1 g2);refine ak (s_g hG ?_);refine ao ?_ ?_
   ·intro hb2;(try simp only[bt] at hb2);refine aq (ah ?_);refine ak (av ?_);refine s_d hG ?_ ?_
    ·(try simp only[ba]);exact⟨⟨by omega,by omega⟩,by omega,by omega⟩
    refine ao ?_ ?_
    ·intro hb3;(try simp only[bt] at hb3);refine ak (s_d hG ?_ ?_)
     ·(try simp only[ba]);exact⟨⟨by omega,by omega⟩,by omega,by omega⟩
     (refine ao ?_ ?_;·intro hb4;(try simp only[bt] at hb4);refine s_g hG ?_;refine ay (aw ?_);refine bg (aw ?_);refine cR (bg ?_);refine aw (q_e [] ?_);obtain⟨j,rfl⟩:∃ j,k=j+1:=⟨k-1,by omega⟩;(have hk:((j+1:Nat):Int)-1=(j:Int):=by omega);rw[hk] at hb4;exact(D.cmp_less c1 c2 hl (by omega) g2 hb4).symm);·intro hb4;(try simp only[bf] at hb4);refine aq (ah ?_);refine s_g hG ?_;refine ay (bg ?_);refine aw (cR ?_);refine bg (aw ?_);refine q_e [] ?_;obtain⟨j,rfl⟩:∃ j,k=j+1:=⟨k-1,by omega⟩;(have hk:((j+1:Nat):Int)-1=(j:Int):=by omega);rw[hk] at hb3 hb4;have hb5:List.getD o j 0<List.getD m j 0:=D.gt_of hb4 hb3;exact(D.cmp_more c1 c2 hl (by omega) g2 hb5).symm
    ·(intro hb3;(try simp only[bf] at hb3);refine aq (aI ?_);refine ah (ag hG ?_ ?_);·first|trivial|omega|(simp;done)|(simp;omega));show ∃ z,_;refine q_l ?_;obtain⟨j,rfl⟩:∃ j,k=j+1:=⟨k-1,by omega⟩;(have hk:((j+1:Nat):Int)-1=(j:Int):=by omega);rw[hk] at hb3 ⊢;exact⟨j,wo,by omega,D.drop_step hl (by omega) g2 hb3,by omega⟩
   ·intro hb2;(try simp only[bf] at hb2);refine bd (aD ?_);refine az (ax ?_);refine ah (s_g hG ?_);refine ay (q_e [] ?_);(have:k=0:=by omega);subst this;simp only[List.drop_zero] at g2;rw[g2];simp[aZ]
def xy(B:aj):Tab:={types:= [(3,(.int .i64)),(181,(.slice (.int .i64)))],elems:= [(181,3)],cons:= [],hint:= [],N:=54,base:=B}
theorem E1{B:aj}(hB:aB B):aG Tryz.prog (xy B):=⟨⟨tc ty3 (tc iO (ae)),aQ (by kernel_rfl) (af),by simp only[xy,ioB];omega⟩,bG rfl,by kernel_rfl⟩
def xz:Con:=fun l os=>match l,os with
 | [.z (.slice (.int .i64)) m,.z (.slice (.int .i64)) o],[]=>some (D.Cano m/\D.Cano o/\m.length<CAP/\o.length<CAP,[.z (.slice (.int .i64)) (D.limbs (D.valL m+D.valL o).toNat)],[])
 |_,_=>none
theorem L0{B:aj}(hB:aB B):Valid B Tryz.prog 159 xz:=by
 refine ab (E1 hB).tab Tryz.func159 rfl rfl rfl ?_;intro args os C rs os' hc hC;unfold xz at hc;split at hc;case h_2=>cases hc
 rename_i m o;cases hc;refine v_h (E1 hB) fun X hP hT hr hG=> ?_;have hU:=xy.eq_1;unfold xy at hT;have hX:=Bool.not_true;simp only[Tryz.f159,aC,al,ioB];refine s_g hG ?_;refine s_g hG ?_;refine s_g hG ?_;refine ak (s_g hG ?_);refine av (bj (fun(z:Nat×Int×List Int)=>(⟨[(0,.l (.z (.slice (.int .i64)) m)),(1,.l (.z (.slice (.int .i64)) o)),(5,.l (.ownS 50)),(6,.l (.z (.int .i64) z.2.1)),(7,.l (.z (.int .i64) (z.1:Int)))],[(50,.arr (.int .i64) 3 z.2.2)]⟩:aa)) (fun z=>D.PlusPhi m o z.1 z.2.1 z.2.2) (fun z=>2*(max (List.length m) (List.length o)-z.1)+z.2.1.toNat) (0,0,[]) ?_ ?_ ?_);·refine q_l ?_;exact⟨rfl,by unfold ioB;omega⟩
 ·exact D.plus_start
 ·rintro⟨k,c,out⟩ hz;try dsimp only at hz
  obtain⟨c1,c2,c3,c4⟩:=hC;have c3:List.length m<1000000000000:=c3;have c4:List.length o<1000000000000:=c4;have hw:=D.plus_n c1.1 c2.1 hz;have hk:=hz.hk;refine ak (s_q hG ?_ ?_)
  ·try simp only[ba]
   (repeat' (first|apply And.intro|intro _))<;>(try simp only[decide_eq_true_eq,decide_eq_false_iff_not,Bool.not_eq_true',beq_iff_eq,Int.toNat_natCast] at*)<;>first|assumption|omega|trivial|(simp_all;done)|(simp_all;omega)
  refine ao ?_ ?_
  ·intro hb0;simp only[Bool.or_eq_true,decide_eq_true_eq] at hb0;(have hkk:k<List.length m∨k<List.length o∨(0:Int)<c:=by omega);have hks:=hz.hs;have hkM:k<=max (List.length m) (List.length o):=D.plus_k hz (by omega);(have hb0:(k<List.length m∨k<List.length o)∨(0:Int)<c:=by omega);refine aq (ah ?_);refine ak (av ?_);refine s_g hG ?_;refine cd (fun(z:Int)=>(⟨[(0,.l (.z (.slice (.int .i64)) m)),(1,.l (.z (.slice (.int .i64)) o)),(5,.l (.ownS 50)),(6,.l (.z (.int .i64) c)),(7,.l (.z (.int .i64) (k:Int))),(8,.l (.z (.int .i64) z))],[(50,.arr (.int .i64) 3 out)]⟩:aa)) (fun z=>z=c+m.getD k 0) ?_ ?_
   ·refine s_g hG ?_;refine ao ?_ ?_
    ·intro hb1;(try simp only[bt] at hb1);refine ag hG ?_ ?_
     ·(try simp only[ba]);exact⟨by omega,by omega⟩
     show ∃ z,_;refine q_l ?_;first|exact hw.1|(rw[D.getD_none (by omega)];exact(Int.add_zero _).symm)
    ·intro hb1;(try simp only[bf] at hb1);refine aq ?_;show ∃ z,_;refine q_l ?_;first|exact hw.1|(rw[D.getD_none (by omega)];exact(Int.add_zero _).symm)
   rintro n1 hn1;(try dsimp only at hn1);refine cd (fun(z:Int)=>(⟨[(0,.l (.z (.slice (.int .i64)) m)),(1,.l (.z (.slice (.int .i64)) o)),(5,.l (.ownS 50)),(6,.l (.z (.int .i64) c)),(7,.l (.z (.int .i64) (k:Int))),(8,.l (.z (.int .i64) z))],[(50,.arr (.int .i64) 3 out)]⟩:aa)) (fun z=>z=c+m.getD k 0+o.getD k 0) ?_ ?_
   ·refine s_g hG ?_;refine ao ?_ ?_
    ·intro hb2;(try simp only[bt] at hb2);refine ag hG ?_ ?_
     ·(try simp only[ba]);exact⟨by omega,by omega⟩
     show ∃ z,_;refine q_l ?_;subst hn1;first|exact hw.2.1|(rw[D.getD_none (l:=o) (by omega)];exact(Int.add_zero _).symm)
    ·intro hb2;(try simp only[bf] at hb2);refine aq ?_;show ∃ z,_;refine q_l ?_;subst hn1;first|exact hw.2.1|(rw[D.getD_none (l:=o) (by omega)];exact(Int.add_zero _).symm)
   rintro n hn;(try dsimp only at hn);refine s_q hG ?_ ?_
   ·(try simp only[ba]);exact⟨by decide,by unfold Cm.Roomy;omega⟩
   refine ag hG ?_ ?_
   ·(try simp only[ba]);decide
   (refine aI (ah ?_);refine ag hG ?_ ?_;·first|trivial|omega|(simp;done)|(simp;omega));show ∃ z,_;refine q_l ?_;obtain⟨q1,q2⟩:=D.plus_next c1.1 c2.1 hz hb0 hn;exact⟨k+1,by rw[wo];simp,q1,q2⟩
  ·intro hb0;simp only[Bool.or_eq_false_iff,decide_eq_false_iff_not] at hb0;refine bd (aD ?_);refine az (ax ?_);refine ah (s_g hG ?_);refine ay (q_e [50] ?_);exact D.plus_fin c1 c2 hz (by omega)
def xA(B:aj):Tab:={types:= [(3,(.int .i64)),(181,(.slice (.int .i64)))],elems:= [(181,3)],cons:= [(183,l5)],hint:= [],N:=41,base:=B}
theorem E2{B:aj}(hB:aB B):aG Tryz.prog (xA B):=⟨⟨tc ty3 (tc iO (ae)),aQ (by kernel_rfl) (af),by simp only[xA,ioB];omega⟩,aE (cc Tryz.func183 (np hB) (aA)),by kernel_rfl⟩
def lE:Con:=fun l os=>match l,os with
 | [.z (.slice (.int .i64)) m,.z (.slice (.int .i64)) o],[]=>some (D.Cano m/\D.Cano o/\D.valL o<=D.valL m/\m.length<CAP,[.z (.slice (.int .i64)) (D.limbs (D.valL m-D.valL o).toNat)],[])
 |_,_=>none
theorem Ab{B:aj}(hB:aB B):Valid B Tryz.prog 161 lE:=by
 refine ab (E2 hB).tab Tryz.func161 rfl rfl rfl ?_;intro args os C rs os' hc hC;unfold lE at hc;split at hc;case h_2=>cases hc
 rename_i m o;cases hc;refine v_h (E2 hB) fun X hP hT hr hG=> ?_;have hU:=xA.eq_1;unfold xA at hT;have hX:= @l5.eq_1;simp only[Tryz.f161,aC,al,ioB];refine s_g hG ?_;refine s_g hG ?_;refine s_g hG ?_;refine ak (s_g hG ?_);refine av (bj (fun(z:Nat×Int×List Int)=>(⟨[(0,.l (.z (.slice (.int .i64)) m)),(1,.l (.z (.slice (.int .i64)) o)),(5,.l (.ownS 38)),(6,.l (.z (.int .i64) z.2.1)),(7,.l (.z (.int .i64) (z.1:Int)))],[(38,.arr (.int .i64) 3 z.2.2)]⟩:aa)) (fun z=>D.MinusPhi m o z.1 z.2.1 z.2.2) (fun z=>List.length m-z.1) (0,0,[]) ?_ ?_ ?_);·refine q_l ?_;exact⟨rfl,by unfold ioB;omega⟩
 ·exact D.minus_start
 ·rintro⟨k,b,out⟩ hz;try dsimp only at hz
  obtain⟨c1,c2,c3,c4⟩:=hC;have c4:List.length m<1000000000000:=c4;have hw:=D.minus_w c1.1 c2.1 hz;have hkm:=hz.hkm;have hk:=hz.hk;refine ak (s_g hG ?_);refine ao ?_ ?_
  ·intro hb0;(try simp only[bt] at hb0);refine aq (ah ?_);refine ak (av ?_);refine s_q hG ?_ ?_
   ·(try simp only[ba]);exact⟨by omega,by omega⟩
   refine cd (fun(z:Int)=>(⟨[(0,.l (.z (.slice (.int .i64)) m)),(1,.l (.z (.slice (.int .i64)) o)),(5,.l (.ownS 38)),(6,.l (.z (.int .i64) b)),(7,.l (.z (.int .i64) (k:Int))),(8,.l (.z (.int .i64) z))],[(38,.arr (.int .i64) 3 out)]⟩:aa)) (fun z=>z=m.getD k 0-b-o.getD k 0) ?_ ?_
   ·refine s_g hG ?_;refine ao ?_ ?_
    ·intro hb1;(try simp only[bt] at hb1);refine ag hG ?_ ?_
     ·(try simp only[ba]);exact⟨by omega,by omega⟩
     show ∃ z,_;refine q_l ?_;first|(rw[D.nth64,hw.1];exact hw.2.1)|(rw[D.nth64,hw.1,D.getD_none (l:=o) (by omega)];exact(Int.sub_zero _).symm)
    ·intro hb1;(try simp only[bf] at hb1);refine aq ?_;show ∃ z,_;refine q_l ?_;first|(rw[D.nth64,hw.1];exact hw.2.1)|(rw[D.nth64,hw.1,D.getD_none (l:=o) (by omega)];exact(Int.sub_zero _).symm)
   rintro n hn;(try dsimp only at hn);refine s_g hG ?_;refine cd (fun(z:Unit)=>(⟨[(0,.l (.z (.slice (.int .i64)) m)),(1,.l (.z (.slice (.int .i64)) o)),(5,.l (.ownS 38)),(6,.l (.z (.int .i64) (D.borrowed n))),(7,.l (.z (.int .i64) (k:Int))),(8,.l (.z (.int .i64) (n+10000*D.borrowed n)))],[(38,.arr (.int .i64) 3 out)]⟩:aa)) (fun z=>True) ?_ ?_
   ·refine s_g hG ?_;refine ao ?_ ?_
    ·(intro hb2;(try simp only[bt] at hb2);refine s_g hG ?_;refine ag hG ?_ ?_;·first|trivial|omega|(simp;done)|(simp;omega));show ∃ z,_;refine q_l ?_;first|exact D.borrow_t hb2 (by rw[hn];exact hw.2.2)|exact D.borrow_f hb2
    ·intro hb2;(try simp only[bf] at hb2);refine aq ?_;show ∃ z,_;refine q_l ?_;first|exact D.borrow_t hb2 (by rw[hn];exact hw.2.2)|exact D.borrow_f hb2
   rintro⟨⟩ hu;(try dsimp only at hu);refine ag hG ?_ ?_
   ·(try simp only[ba]);unfold Cm.Roomy;omega
   (refine aI (ah ?_);refine ag hG ?_ ?_;·first|trivial|omega|(simp;done)|(simp;omega));show ∃ z,_;refine q_l ?_;exact⟨k+1,by rw[wo];simp,D.minus_next c1.1 c2.1 hz (by omega) hn,by omega⟩
  ·intro hb0;(try simp only[bf] at hb0);refine bd (aD ?_);refine az (ax ?_);refine ah (s_q hG ?_ ?_)
   ·(try simp only[ba]);exact⟨hz.hl,by unfold CAP;omega⟩
   refine ay (q_e [] ?_);rw[(D.minus_fin c1 c2 c3 hz (by omega)).1]
def xB(B:aj):Tab:={types:= [(3,(.int .i64)),(181,(.slice (.int .i64)))],elems:= [(181,3)],cons:= [(183,l5)],hint:= [],N:=66,base:=B}
theorem E3{B:aj}(hB:aB B):aG Tryz.prog (xB B):=⟨⟨tc ty3 (tc iO (ae)),aQ (by kernel_rfl) (af),by simp only[xB,ioB];omega⟩,aE (cc Tryz.func183 (np hB) (aA)),by kernel_rfl⟩
def lF:Con:=fun l os=>match l,os with
 | [.z (.slice (.int .i64)) x,.z (.slice (.int .i64)) y],[]=>some (D.Lim x/\D.Wid y/\x.length+y.length<CAP,[.z (.slice (.int .i64)) (D.limbs (D.valL x*D.valL y).toNat)],[])
 |_,_=>none
theorem Ac{B:aj}(hB:aB B):Valid B Tryz.prog 164 lF:=by
 refine ab (E3 hB).tab Tryz.func164 rfl rfl rfl ?_;intro args os C rs os' hc hC;unfold lF at hc;split at hc;case h_2=>cases hc
 rename_i x y;cases hc;refine v_h (E3 hB) fun X hP hT hr hG=> ?_;have hU:=xB.eq_1;unfold xB at hT;have hX:= @l5.eq_1;simp only[Tryz.f164,aC,al,ioB];refine s_g hG ?_;refine s_q hG ?_ ?_
 ·try simp only[ba]
  rw[D.len_wrap hC.2.2];have c3:List.length x+List.length y<1000000000000:=hC.2.2;exact⟨by omega,by omega,by unfold Cm.Roomy;omega⟩
 refine ak (s_g hG ?_);refine av (bj (fun(z:Nat×List Int)=>(⟨[(0,.l (.z (.slice (.int .i64)) x)),(1,.l (.z (.slice (.int .i64)) y)),(5,.l (.ownS 15)),(6,.l (.z (.int .i64) (z.1:Int)))],[(15,.arr (.int .i64) 3 z.2)]⟩:aa)) (fun z=>D.TimesPhi x y z.1 z.2) (fun z=>List.length x-z.1) (0,List.replicate (List.length x+List.length y) 0) ?_ ?_ ?_);·refine q_l ?_;exact⟨rfl,by rw[D.len_wrap hC.2.2,Int.toNat_natCast]⟩
 ·exact D.times_start
 ·rintro⟨i,out⟩ hz;try dsimp only at hz
  obtain⟨c1,c2,c3⟩:=hC;have c3:List.length x+List.length y<1000000000000:=c3;have hix:=hz.h1;have hil:=hz.h2;refine ak (s_g hG ?_);refine ao ?_ ?_
  ·(intro hb0;(try simp only[bt] at hb0);refine aq (ah ?_);refine ak (av ?_);refine s_g hG ?_;refine s_g hG ?_;refine av (bj (fun(z:Nat×Int×List Int)=>(⟨[(0,.l (.z (.slice (.int .i64)) x)),(1,.l (.z (.slice (.int .i64)) y)),(5,.l (.ownS 15)),(6,.l (.z (.int .i64) (i:Int))),(7,.l (.z (.int .i64) z.2.1)),(8,.l (.z (.int .i64) (z.1:Int)))],[(15,.arr (.int .i64) 3 z.2.2)]⟩:aa)) (fun z=>D.RowPhi x y i z.1 z.2.1 z.2.2) (fun z=>List.length y+1-z.1) (0,0,out) ?_ ?_ ?_);·refine q_l ?_;rfl);·exact D.row_start hz
   ·rintro⟨k,c,out2⟩ hk;(try dsimp only at hk);have hrb:=D.row_bound (c1.getD i) (c2.getD k) (hk.h3.getD (i+k)) hk.h4;have hk1:=hk.h1;have hk2:=hk.h2;(have hik:IntKind.i64.wrap ((i:Int)+(k:Int))=((i+k:Nat):Int):=by rw[wo];omega);refine ak (s_q hG ?_ ?_)
    ·try simp only[ba]
     (repeat' (first|apply And.intro|intro _))<;>(try simp only[decide_eq_true_eq,decide_eq_false_iff_not,Bool.not_eq_true',beq_iff_eq,Int.toNat_natCast] at*)<;>first|assumption|omega|trivial|(simp_all;done)|(simp_all;omega)
    refine ao ?_ ?_
    ·intro hb1;simp only[Bool.or_eq_true,decide_eq_true_eq] at hb1;(have hb1:k<List.length y∨0<c:=by omega);have hin:=(D.row_next c1 c2 (by omega) hk hb1 rfl).1;refine aq (ah ?_);refine ak (av ?_);refine cd (fun(z:Unit)=>(⟨[(0,.l (.z (.slice (.int .i64)) x)),(1,.l (.z (.slice (.int .i64)) y)),(5,.l (.ownS 15)),(6,.l (.z (.int .i64) (i:Int))),(7,.l (.z (.int .i64) c)),(8,.l (.z (.int .i64) (k:Int))),(9,.l (.z (.int .i64) (out2.getD (i+k) 0+c)))],[(15,.arr (.int .i64) 3 out2)]⟩:aa)) (fun z=>True) ?_ ?_
     ·refine ag hG ?_ ?_
      ·(try simp only[ba]);rw[hik];omega
      show ∃ z,_;refine q_l ?_;rw[hik,Int.toNat_natCast];exact hrb.1
     rintro⟨⟩ hu;(try dsimp only at hu);refine cd (fun(z:Int)=>(⟨[(0,.l (.z (.slice (.int .i64)) x)),(1,.l (.z (.slice (.int .i64)) y)),(5,.l (.ownS 15)),(6,.l (.z (.int .i64) (i:Int))),(7,.l (.z (.int .i64) c)),(8,.l (.z (.int .i64) (k:Int))),(9,.l (.z (.int .i64) z))],[(15,.arr (.int .i64) 3 out2)]⟩:aa)) (fun z=>z=out2.getD (i+k) 0+c+x.getD i 0*y.getD k 0) ?_ ?_
     ·refine s_g hG ?_;refine ao ?_ ?_
      ·intro hb2;(try simp only[bt] at hb2);refine gB hG ?_ ?_
       ·(try simp only[ba]);exact⟨⟨by omega,by omega⟩,by omega,by omega⟩
       show ∃ z,_;refine q_l ?_;first|(rw[D.nth64,D.nth64,hrb.2.1];exact hrb.2.2.1)|(rw[D.getD_none (l:=y) (by omega),Int.mul_zero];exact(Int.add_zero _).symm)
      ·intro hb2;(try simp only[bf] at hb2);refine aq ?_;show ∃ z,_;refine q_l ?_;first|(rw[D.nth64,D.nth64,hrb.2.1];exact hrb.2.2.1)|(rw[D.getD_none (l:=y) (by omega),Int.mul_zero];exact(Int.add_zero _).symm)
     rintro n hn;(try dsimp only at hn);refine s_q hG ?_ ?_
     ·(try simp only[ba]);rw[hik];exact⟨by decide,by omega⟩
     refine ag hG ?_ ?_
     ·(try simp only[ba]);decide
     (refine aI (ah ?_);refine ag hG ?_ ?_;·first|trivial|omega|(simp;done)|(simp;omega));show ∃ z,_;refine q_l ?_;obtain⟨q1,q2⟩:=D.row_next c1 c2 (by omega) hk hb1 hn;rw[hik,Int.toNat_natCast];exact⟨k+1,by rw[wo];simp,q2,by omega⟩
    ·(intro hb1;simp only[Bool.or_eq_false_iff,decide_eq_false_iff_not] at hb1;refine bd (aD ?_);refine az (ax ?_);refine aI (ah ?_);refine ag hG ?_ ?_;·first|trivial|omega|(simp;done)|(simp;omega));show ∃ z,_;refine q_l ?_;exact⟨i+1,by rw[wo];simp,D.row_end (by omega) hk (by omega),by omega⟩
  ·intro hb0;(try simp only[bf] at hb0);refine bd (aD ?_);refine az (ax ?_);refine ah (s_q hG ?_ ?_)
   ·(try simp only[ba]);exact⟨hz.h3,by unfold CAP;omega⟩
   refine ay (q_e [] ?_);rw[D.times_fin hz (by omega)]
def xC(B:aj):Tab:={types:= [(5,(.int .u8)),(9,.str)],elems:= [],cons:= [],hint:= [],N:=6,base:=B}
theorem E4{B:aj}(hB:aB B):aG Tryz.prog (xC B):=⟨⟨tc ty5 (tc ty9 (ae)),af,by simp only[xC,ioB];omega⟩,bG rfl,by kernel_rfl⟩
def cD:Con:=fun l os=>match l,os with
 | [.z .str s],[]=>some (RF s,[.z .bool (decide (an s<0))],[])
 |_,_=>none
theorem jB{B:aj}(hB:aB B):Valid B Tryz.prog 157 cD:=by
 refine ab (E4 hB).tab Tryz.func157 rfl rfl rfl ?_;intro args os C rs os' hc hC;unfold cD at hc;split at hc;case h_2=>cases hc
 rename_i s;cases hc;refine v_h (E4 hB) fun X hP hT hr hG=> ?_;have hU:=xC.eq_1;unfold xC at hT;have hX:=Bool.not_true;simp only[Tryz.f157,aC,al,ioB];refine s_g hG ?_;refine s_q hG ?_ ?_
 ·try simp only[ba]
  exact⟨by omega,kD hC⟩
 refine ay (q_e [] ?_);exact CH hC
def xD(B:aj):Tab:={types:= [(3,(.int .i64)),(5,(.int .u8)),(9,.str)],elems:= [],cons:= [],hint:= [],N:=11,base:=B}
theorem E5{B:aj}(hB:aB B):aG Tryz.prog (xD B):=⟨⟨tc ty3 (tc ty5 (tc ty9 (ae))),af,by simp only[xD,ioB];omega⟩,bG rfl,by kernel_rfl⟩
def nq:Con:=fun l os=>match l,os with
 | [.z .str s],[]=>some (RF s/\s.length<CAP,[.z (.int .i64) (cS (an s))],[])
 |_,_=>none
theorem L1{B:aj}(hB:aB B):Valid B Tryz.prog 93 nq:=by
 refine ab (E5 hB).tab Tryz.func93 rfl rfl rfl ?_;intro args os C rs os' hc hC;unfold nq at hc;split at hc;case h_2=>cases hc
 rename_i s;cases hc;refine v_h (E5 hB) fun X hP hT hr hG=> ?_;have hU:=xD.eq_1;unfold xD at hT;have hX:=Bool.not_true;simp only[Tryz.f93,aC,al,ioB];refine s_g hG ?_;refine ak (s_q hG ?_ ?_)
 ·try simp only[ba]
  exact⟨by omega,kD hC.1⟩
 refine ao ?_ ?_
 ·intro hb0;try simp only[bt] at hb0
  refine s_g hG ?_;refine ay (aw ?_);refine q_e [] ?_;obtain⟨t1,t2⟩:=s9 hC.1 hb0;have hc:List.length s<1000000000000:=hC.2;rw[nN hC.1,wo];show (List.length s:Int)-1=((ar s [45]).length:Int);omega
 ·intro hb0;try simp only[bf] at hb0
  refine aq (ah ?_);refine s_g hG ?_;refine ay (q_e [] ?_);rw[nN hC.1,<- td hC.1 hb0]
def xE(B:aj):Tab:={types:= [(3,(.int .i64)),(5,(.int .u8)),(9,.str),(181,(.slice (.int .i64)))],elems:= [(181,3)],cons:= [(183,l5)],hint:= [],N:=40,base:=B}
theorem E6{B:aj}(hB:aB B):aG Tryz.prog (xE B):=⟨⟨tc ty3 (tc ty5 (tc ty9 (tc iO (ae)))),aQ (by kernel_rfl) (af),by simp only[xE,ioB];omega⟩,aE (cc Tryz.func183 (np hB) (aA)),by kernel_rfl⟩
def fO:Con:=fun l os=>match l,os with
 | [.z .str s],[]=>some (RF s/\s.length<CAP,[.z (.slice (.int .i64)) (D.limbs (an s).natAbs)],[])
 |_,_=>none
theorem jC{B:aj}(hB:aB B):Valid B Tryz.prog 156 fO:=by
 refine ab (E6 hB).tab Tryz.func156 rfl rfl rfl ?_;intro args os C rs os' hc hC;unfold fO at hc;split at hc;case h_2=>cases hc
 rename_i s;cases hc;refine v_h (E6 hB) fun X hP hT hr hG=> ?_;have hU:=xE.eq_1;unfold xE at hT;have hX:= @l5.eq_1;simp only[Tryz.f156,aC,al,ioB];refine s_g hG ?_;refine cd (fun(z:Unit)=>(⟨[(0,.l (.z .str (ar s [45])))],[]⟩:aa)) (fun z=>True) ?_ ?_
 ·refine s_q hG ?_ ?_
  ·(try simp only[ba]);exact⟨by omega,kD hC.1⟩
  refine ao ?_ ?_
  ·intro hb0;(try simp only[bt] at hb0);refine ag hG ?_ ?_
   ·(try simp only[ba]);have:=kD hC.1;omega
   show ∃ z,_;refine q_l ?_;first|exact(s9 hC.1 hb0).1|exact td hC.1 hb0
  ·intro hb0;(try simp only[bf] at hb0);refine aq ?_;show ∃ z,_;refine q_l ?_;first|exact(s9 hC.1 hb0).1|exact td hC.1 hb0
 rintro⟨⟩ hu;try dsimp only at hu
 obtain⟨d1,d2,d3⟩:=gM hC.1;have hl:=eM s [45];have hc:List.length s<1000000000000:=hC.2;refine s_g hG ?_;refine ak (s_g hG ?_);refine av (bj (fun(z:Nat×List Int)=>(⟨[(0,.l (.z .str (ar s [45]))),(3,.l (.ownS 37)),(4,.l (.z (.int .i64) (((ar s [45]).length:Int)-4*(z.1:Int))))],[(37,.arr (.int .i64) 3 z.2)]⟩:aa)) (fun z=>D.ReadPhi (ar s [45]) z.1 z.2) (fun z=>(ar s [45]).length+4-4*z.1) (0,[]) ?_ ?_ ?_);·refine q_l ?_;exact⟨by show ((ar s [45]).length:Int)=((ar s [45]).length:Int)-4*((0:Nat):Int);omega,by unfold ioB;omega⟩
 ·exact D.read_start
 ·rintro⟨r,out⟩ hz;try dsimp only at hz
  have hz1:=hz.1;have hz4:=hz.2.2.2;refine ak (s_g hG ?_);refine ao ?_ ?_
  ·(intro hb1;(try simp only[bt] at hb1);refine aq (ah ?_);refine ak (av ?_);refine s_g hG ?_;refine ak (s_g hG ?_);refine av (bj (fun(z:Nat)=>(⟨[(0,.l (.z .str (ar s [45]))),(3,.l (.ownS 37)),(4,.l (.z (.int .i64) (((ar s [45]).length:Int)-4*(r:Int)))),(5,.l (.z (.int .i64) (D.part (ar s [45]) ((ar s [45]).length-4*(r+1)) z))),(6,.l (.z (.int .i64) (z:Int)))],[(37,.arr (.int .i64) 3 out)]⟩:aa)) (fun z=>(ar s [45]).length-4*(r+1)<=z/\z<=(ar s [45]).length-4*r) (fun z=>(ar s [45]).length-z) ((ar s [45]).length-4*(r+1)) ?_ ?_ ?_);·refine q_l ?_;exact D.read_le0 (by omega) (by omega));·omega
   ·rintro i hi;(try dsimp only at hi);refine ak (s_g hG ?_);refine ao ?_ ?_
    ·intro hb2;(try simp only[bt] at hb2);refine aq (ah ?_);refine ak (av ?_);refine ag hG ?_ ?_
     ·(try simp only[ba]);exact⟨by omega,by omega⟩
     (refine aI (ah ?_);refine ag hG ?_ ?_;·first|trivial|omega|(simp;done)|(simp;omega));show ∃ z,_;refine q_l ?_;rw[Int.toNat_natCast];exact⟨i+1,D.part_next d1 (by omega) (by omega) (by omega),by rw[wo];simp,by omega,by omega,by omega⟩
    ·intro hb2;(try simp only[bf] at hb2);refine bd (aD ?_);refine az (ax ?_);refine ah (ag hG ?_ ?_)
     ·(try simp only[ba]);unfold Cm.Roomy;omega
     (refine aI (ah ?_);refine ag hG ?_ ?_;·first|trivial|omega|(simp;done)|(simp;omega));show ∃ z,_;refine q_l ?_;(have hie:i=(ar s [45]).length-4*r:=by omega);subst hie;exact⟨r+1,by rw[wo];show ((ar s [45]).length:Int)-4*(r:Int)-4=((ar s [45]).length:Int)-4*((r+1:Nat):Int);omega,D.read_next d1 hz (by omega),by omega⟩
  ·intro hb1;(try simp only[bf] at hb1);refine bd (aD ?_);refine az (ax ?_);refine ah (s_q hG ?_ ?_)
   ·(try simp only[ba]);exact⟨hz.2.1,by unfold CAP;omega⟩
   refine ay (q_e [] ?_);exact D.valL_limbs hz (by omega)
def xF(B:aj):Tab:={types:= [(3,(.int .i64)),(5,(.int .u8)),(9,.str),(47,(.slice (.int .u8))),(181,(.slice (.int .i64)))],elems:= [(47,5)],cons:= [],hint:= [],N:=49,base:=B}
theorem E7{B:aj}(hB:aB B):aG Tryz.prog (xF B):=⟨⟨tc ty3 (tc ty5 (tc ty9 (tc PY (tc iO (ae))))),aQ (by kernel_rfl) (af),by simp only[xF,ioB];omega⟩,bG rfl,by kernel_rfl⟩
def eU:Con:=fun l os=>match l,os with
 | [.z .bool neg,.z (.slice (.int .i64)) d],[]=>some (D.Cano d/\4*d.length<CAP,[.z .str (Lib.itoa (if neg=true then-D.valL d else D.valL d))],[])
 |_,_=>none
theorem kQ{B:aj}(hB:aB B):Valid B Tryz.prog 158 eU:=by
 refine ab (E7 hB).tab Tryz.func158 rfl rfl rfl ?_;intro args os C rs os' hc hC;unfold eU at hc;split at hc;case h_2=>cases hc
 rename_i neg d;cases hc;refine v_h (E7 hB) fun X hP hT hr hG=> ?_;have hU:=xF.eq_1;unfold xF at hT;have hX:=Bool.not_true;simp only[Tryz.f158,aC,al,ioB];refine s_g hG ?_;refine ak (s_g hG ?_);refine ao ?_ ?_
 ·intro hb0;try simp only[bt] at hb0
  refine s_g hG ?_;refine ay (aw ?_);refine q_e [] ?_;exact D.write_nil hb0
 ·intro hb0;simp only[beq_eq_false_iff_ne,ne_eq] at hb0;have hne:d≠ []:=by intro e;subst e;exact hb0 rfl
  obtain⟨c1,c2⟩:=hC;have c2:4*List.length d<1000000000000:=c2;have hbg:4000000000001<=maxLen:=by decide
  refine aq (ah ?_);refine s_g hG ?_;refine ak (s_g hG ?_);refine av (bj (fun(z:Nat×List Int)=>(⟨[(0,.l (.z .bool neg)),(1,.l (.z (.slice (.int .i64)) d)),(5,.l (.ownS 42)),(6,.l (.z (.int .i64) ((z.1:Int)-1)))],[(42,.arr (.int .u8) 5 z.2)]⟩:aa)) (fun z=>z.1<=List.length d/\z.2=(D.dd (D.valL (List.drop z.1 d)).toNat).map fun b=>(b.toNat:Int)) (fun z=>z.1) (List.length d,[]) ?_ ?_ ?_);·refine q_l ?_;exact⟨wo,by unfold ioB;omega⟩
  ·exact D.write_phi0 d
  ·rintro⟨k,out⟩ hz;(try dsimp only at hz);have hz1:=hz.1;refine ak (s_g hG ?_);refine ao ?_ ?_
   ·(intro hb1;(try simp only[decide_eq_true_eq] at hb1);obtain⟨i,rfl⟩:∃ i,k=i+1:=⟨k-1,by omega⟩;(have ei:((i+1:Nat):Int)-1=(i:Int):=by omega);rw[ei];refine aq (ah ?_);refine ak (av ?_);refine s_g hG ?_;refine av (bj (fun(z:Nat×List Int)=>(⟨[(0,.l (.z .bool neg)),(1,.l (.z (.slice (.int .i64)) d)),(5,.l (.ownS 42)),(6,.l (.z (.int .i64) (i:Int))),(7,.l (.z (.int .i64) (D.unit z.1)))],[(42,.arr (.int .u8) 5 z.2)]⟩:aa)) (fun z=>D.WritePhi d i z.1 z.2) (fun z=>4-z.1) (0,out) ?_ ?_ ?_);·refine q_l ?_;decide);·exact D.write_start c1.1 hz.2
    ·rintro⟨j,out2⟩ hj;(try dsimp only at hj);refine ak (s_g hG ?_);refine ao ?_ ?_
     ·intro hb2;(try simp only[decide_eq_true_eq] at hb2);have hj4:=D.unit_pos hb2;refine aq (ah ?_);refine ak (av ?_);refine cd (fun(z:Unit)=>(⟨[(0,.l (.z .bool neg)),(1,.l (.z (.slice (.int .i64)) d)),(5,.l (.ownS 42)),(6,.l (.z (.int .i64) (i:Int))),(7,.l (.z (.int .i64) (D.unit j))),(8,.l (.z (.int .u8) ((48+D.decimal (d.getD i 0) j:Nat):Int)))],[(42,.arr (.int .u8) 5 out2)]⟩:aa)) (fun z=>True) ?_ ?_
      ·refine ag hG ?_ ?_
       ·(try simp only[ba]);exact⟨⟨by omega,by omega⟩,fun h=>by rw[h] at hb2;exact absurd hb2 (by decide),by decide⟩
       show ∃ z,_;refine q_l ?_;exact D.decimal_code (c1.1.getD i) hj4
      rintro⟨⟩ hu;(try dsimp only at hu);refine s_q hG ?_ ?_
      ·(try simp only[ba]);simp[get?,del]
      refine ao ?_ ?_
      ·intro hb3;have hwl:=D.write_len c1.1 hj (by omega);refine ag hG ?_ ?_
       ·(try simp only[ba]);unfold Cm.Roomy;omega
       (refine aI (ah ?_);refine ag hG ?_ ?_;·first|trivial|omega|(simp;done)|(simp;omega));show ∃ z,_;refine q_l ?_;exact⟨j+1,(D.unit_next hj4).1,by first|exact D.write_take c1.1 hj hj4 (D.cond_t hb3)|exact D.write_leave c1.1 hj hj4 (D.cond_f hb3),by omega⟩
      ·(intro hb3;refine aq (aI ?_);refine ah (ag hG ?_ ?_);·first|trivial|omega|(simp;done)|(simp;omega));show ∃ z,_;refine q_l ?_;exact⟨j+1,(D.unit_next hj4).1,by first|exact D.write_take c1.1 hj hj4 (D.cond_t hb3)|exact D.write_leave c1.1 hj hj4 (D.cond_f hb3),by omega⟩
     ·(intro hb2;(try simp only[bf] at hb2);refine bd (aD ?_);refine az (ax ?_);refine aI (ah ?_);refine ag hG ?_ ?_;·first|trivial|omega|(simp;done)|(simp;omega));show ∃ z,_;refine q_l ?_;(obtain rfl:j=4:=by have:=D.unit_end hb2;have:=hj.hj;omega);exact⟨i,wo,by omega,D.write_round c1.1 (by omega) hj,by omega⟩
   ·intro hb1;simp only[decide_eq_false_iff_not] at hb1;(obtain rfl:k=0:=by omega);have hz2:=hz.2;rw[List.drop_zero] at hz2;have hdl:=D.dd_len c1.1;subst hz2;refine bd (aD ?_);refine az (ax ?_);refine ah (ak ?_);refine s_g hG ?_;refine ao ?_ ?_
    ·intro hb4;refine s_q hG ?_ ?_
     ·(try simp only[ba]);rw[D.str_of_map];omega
     refine ay (aw ?_);refine q_e [] ?_;rw[D.str_of_map,if_pos hb4];exact D.write_minus c1 hne
    ·intro hb4;refine aq (ah ?_);refine s_g hG ?_;refine ay (q_e [] ?_);rw[D.str_of_map,if_neg (by rw[hb4];decide)];exact D.write_text c1 hne
end Go.Proofs.YtdojbabpnaifoaaGreatDoor
end
section
namespace Go.Proofs
open Go.RowKit Go.Cm
def E8:Con:=fun l os=>match l,os with
 | [.z .str s],[]=>some (chk s=0/\s.length<=9,[.z (.int .i64) (an s),.val .nilIface],[])
 |_,_=>none
theorem ug:∀ (l:List UInt8) (a:Nat),dt l->Lib.decFrom a l=some (l.foldl (fun n c=>n*10+(c.toNat-48)) a)
 | [],_,_=>rfl
 |c::l,a,hd=>by
  have h1:=hd c (by simp);rw[Lib.decFrom,Lib.digitVal,if_pos h1,List.foldl_cons];exact ug l _ (fun x hx=>hd x (by simp[hx]))
theorem L2{s:List UInt8}(h:chk s=0):Lib.atoi s=some (an s):=by
 obtain⟨d1,d2,d3,d4⟩:=Cr h;cases s with
 |nil=>exact absurd h (by decide)
 |cons b r=>
  unfold Lib.atoi;dsimp only;by_cases hb:b=45;·subst hb;obtain⟨p1,p2⟩:=o9 r;rw[p2] at d1 d2;(have hne:r.isEmpty=false:=by cases r<;>simp at d2 ⊢);simp only[beq_self_eq_true,if_true,Lib.decNat,hne,Bool.false_eq_true,if_false,ug r 0 d1,Option.map_some];unfold an;rw[p1,p2];rfl
  ·have ht:ar (b::r) [45]=b::r:=by
    unfold ar c9;rw[if_neg];intro e;simp at e;exact hb e
   rw[ht] at d1;obtain⟨p1,p2⟩:=s5 d1;have h43:b≠43:=by
    intro e;subst e;have:=d1 43 (by simp);exact absurd this (by decide)
   rw[if_neg (by simpa using hb),if_neg (by simpa using h43),Lib.decNat,if_neg (by simp),ug _ 0 d1,Option.map_some];unfold an;rw[p1,p2];rfl
theorem L3{B:aj}(hB:aB B):Valid B Tryz.prog 182 E8:=by
 intro args os C rs os' hc hC O w vals ρ0 hOn hIo hO hOI hargs hown hap;unfold E8 at hc;split at hc;case h_2=>cases hc
 rename_i s;cases hc;obtain⟨u,rfl,hu⟩:=pI hargs;rw[fv hu];obtain⟨h0,h1⟩:=hC;have hsz:(⟨s.toArray⟩:ByteArray).size=s.length:=by simp[ByteArray.size]
 refine(Tryz.strconv_Atoi ⟨s.toArray⟩ (an s) (by rw[hsz];omega) (by simpa using L2 h0) w).mono fun e w' ⟨he,t,hw⟩=> ?_;have hb:Below w.heap.size w w':=by
  rw[hw];exact⟨rfl,rfl,rfl,by rw[Lib.bytesWorld_size];omega,fun k hk=>Lib.bytesWorld_at_old w _ _ k hk⟩
 subst he;exact mR (vs:= [.int .i64 (an s),.nilIface]) hb (fun H M=>⟨bR (ρ:=fun _=>undef),rfl,trivial⟩)
end Go.Proofs
end
section
namespace Go.Proofs.YtdojbabpnaifoaaGreatDoor
open Go Go.Cm Go.Proofs
def E9(B:aj):Tab:={types:= [(3,(.int .i64)),(87,(.slice (.int .u32))),(161,(.int .u32))],elems:= [(87,161)],cons:= [],hint:= [],N:=56,base:=B}
theorem L4{B:aj}(hB:aB B):aG Tryz.prog (E9 B):=⟨⟨tc ty3 (tc ik (tc fH (ae))),aQ (by kernel_rfl) (af),by simp only[E9,ioB];omega⟩,bG rfl,by kernel_rfl⟩
def Fa:Con:=fun l os=>match l,os with
 | [.z (.slice (.int .u32)) m,.z (.slice (.int .u32)) o],[]=>some (Cano m/\Cano o/\m.length+o.length<CAP,[.z (.slice (.int .u32)) (limbs (valL m+valL o).toNat)],[])
 |_,_=>none
theorem Ot{B:aj}(hB:aB B):Valid B Tryz.prog 151 Fa:=by
 refine ab (L4 hB).tab Tryz.func151 rfl rfl rfl ?_;intro args os C rs os' hc hC;unfold Fa at hc;split at hc;case h_2=>cases hc
 rename_i m o;cases hc;refine v_h (L4 hB) fun X hP hT hr hG=> ?_;have hU:=E9.eq_1;unfold E9 at hT;have hX:=Bool.not_true;simp only[Tryz.f151,aC,al,ioB];refine s_g hG ?_;refine cd (fun(z:List Int×List Int)=>(⟨[(0,.l (.z (.slice (.int .u32)) z.1)),(1,.l (.z (.slice (.int .u32)) z.2))],[]⟩:aa)) (fun z=>Cano z.1/\Cano z.2/\z.2.length<=z.1.length/\z.1.length<CAP/\valL z.1+valL z.2=valL m+valL o) ?_ ?_
 ·refine s_g hG ?_;refine ao ?_ ?_
  ·(intro hb0;(try simp only[bt] at hb0);refine ag hG ?_ ?_;·first|trivial|omega|(simp;done)|(simp;omega));show ∃ z,_;refine q_l ?_;obtain⟨c1,c2,c3⟩:=hC;first|exact⟨c2,c1,by omega,by omega,Int.add_comm _ _⟩|exact⟨c1,c2,by omega,by omega⟩
  ·intro hb0;(try simp only[bf] at hb0);refine aq ?_;show ∃ z,_;refine q_l ?_;obtain⟨c1,c2,c3⟩:=hC;first|exact⟨c2,c1,by omega,by omega,Int.add_comm _ _⟩|exact⟨c1,c2,by omega,by omega⟩
 rintro⟨m,o⟩ ⟨h1,h2,h3,h4,h5⟩;try dsimp only at h1 h2 h3 h4 h5
 have h4:m.length<1000000000000:=h4;refine s_q hG ?_ ?_
 ·try simp only[ba]
  rw[wo];exact⟨by omega,by omega,by unfold Cm.Roomy;omega⟩
 refine s_g hG ?_;refine ak (s_g hG ?_);refine av (bj (fun(z:Nat×Int×List Int)=>(⟨[(0,.l (.z (.slice (.int .u32)) m)),(1,.l (.z (.slice (.int .u32)) o)),(5,.l (.ownS 20)),(6,.l (.z (.int .u32) z.2.1)),(21,.l (.z (.slice (.int .u32)) m)),(22,.l (.z (.int .i64) (m.length:Int))),(23,.l (.z (.int .i64) (z.1:Int)))],[(20,.arr (.int .u32) 161 z.2.2)]⟩:aa)) (fun z=>z.1<=m.length/\z.2.2.length=z.1/\Lim z.2.2/\0<=z.2.1/\z.2.1<=1/\valL z.2.2+LB^z.1*z.2.1=valL (m.take z.1)+valL (o.take z.1)) (fun z=>m.length-z.1) (0,0,[]) ?_ ?_ ?_);·refine q_l ?_;exact⟨rfl,rfl⟩
 ·simp[Lim,valL]
 ·rintro⟨k,c,out⟩ ⟨g1,g2,g3,g4,g5,g6⟩;try dsimp only at g1 g2 g3 g4 g5 g6
  refine s_g hG ?_;refine ak (ao ?_ ?_)
  ·intro hb1;(try simp only[bt] at hb1);refine aq (ah ?_);refine ak (av ?_);refine s_q hG ?_ ?_
   ·(try simp only[ba]);exact⟨by omega,hb1⟩
   refine s_g hG ?_;refine cd (fun(z:Int)=>(⟨[(0,.l (.z (.slice (.int .u32)) m)),(1,.l (.z (.slice (.int .u32)) o)),(5,.l (.ownS 20)),(9,.l (.z (.int .u32) z)),(21,.l (.z (.slice (.int .u32)) m)),(22,.l (.z (.int .i64) (m.length:Int))),(23,.l (.z (.int .i64) (k:Int)))],[(20,.arr (.int .u32) 161 out)]⟩:aa)) (fun z=>z=m.getD k 0+c+o.getD k 0) ?_ ?_
   ·refine s_g hG ?_;refine ao ?_ ?_
    ·intro hb2;(try simp only[bt] at hb2);refine ag hG ?_ ?_
     ·(try simp only[ba]);exact⟨by omega,hb2⟩
     show ∃ z,_;refine q_l ?_;have hw:=uU (h1.1.getD k) (h2.1.getD k) ⟨g4,g5⟩;first|exact hw.2|(rw[fC,hw.1,List.getD_eq_getElem?_getD (l:=o),List.getElem?_eq_none (by omega)];simp)
    ·intro hb2;(try simp only[bf] at hb2);refine aq ?_;show ∃ z,_;refine q_l ?_;have hw:=uU (h1.1.getD k) (h2.1.getD k) ⟨g4,g5⟩;first|exact hw.2|(rw[fC,hw.1,List.getD_eq_getElem?_getD (l:=o),List.getElem?_eq_none (by omega)];simp)
   rintro n hn;(try dsimp only at hn);refine s_g hG ?_;refine ag hG ?_ ?_
   ·(try simp only[ba]);exact⟨by omega,by unfold Cm.Roomy;omega⟩
   (refine aI (ah ?_);refine ag hG ?_ ?_;·first|trivial|omega|(simp;done)|(simp;omega));show ∃ z,_;refine q_l ?_;obtain⟨q1,q2,q3,q4⟩:=Cq h1.1 h2.1 g2 g3 g4 g5 g6 hn;exact⟨k+1,by rw[wo];simp,by omega,by simp[g2],q1,q2,q3,q4,by omega⟩
  ·intro hb1;(try simp only[bf] at hb1);refine bd (aD ?_);refine az (ax ?_);refine ah (cd (fun(z:List Int)=>(⟨[(5,.l (.ownS 20))],[(20,.arr (.int .u32) 161 z)]⟩:aa)) (fun z=>z=limbs (valL m+valL o).toNat) ?_ ?_)
   ·refine s_g hG ?_;refine ao ?_ ?_
    ·intro hb3;(try simp only[bt] at hb3);refine ag hG ?_ ?_
     ·(try simp only[ba]);unfold Cm.Roomy;omega
     show ∃ z,_;refine q_l ?_;have he:=yR (out:=out) (c:=c) h1 h2 h3 (by omega) g3 g4 g5 (by rw[show k=m.length by omega,List.take_length,List.take_of_length_le h3] at g6;exact g6);first|exact he.1 hb3|exact he.2 hb3
    ·intro hb3;(try simp only[bf] at hb3);refine aq ?_;show ∃ z,_;refine q_l ?_;have he:=yR (out:=out) (c:=c) h1 h2 h3 (by omega) g3 g4 g5 (by rw[show k=m.length by omega,List.take_length,List.take_of_length_le h3] at g6;exact g6);first|exact he.1 hb3|exact he.2 hb3
   rintro out2 hout;(try dsimp only at hout);refine s_g hG ?_;refine ay (q_e [] ?_);rw[hout,h5]
def Fb(B:aj):Tab:={types:= [(3,(.int .i64))],elems:= [],cons:= [],hint:= [],N:=6,base:=B}
theorem L5{B:aj}(hB:aB B):aG Tryz.prog (Fb B):=⟨⟨tc ty3 (ae),af,by simp only[Fb,ioB];omega⟩,bG rfl,by kernel_rfl⟩
def Fc:Con:=fun l os=>match l,os with
 | [.z (.int .i64) a],[]=>some (True,[.z .bool false],[])
 |_,_=>none
theorem Ou{B:aj}(hB:aB B):Valid B Tryz.prog 194 Fc:=by
 refine ab (L5 hB).tab Tryz.func194 rfl rfl rfl ?_;intro args os C rs os' hc hC;unfold Fc at hc;split at hc;case h_2=>cases hc
 rename_i a;cases hc;refine v_h (L5 hB) fun X hP hT hr hG=> ?_;have hU:=Fb.eq_1;unfold Fb at hT;have hX:=Bool.not_true;simp only[Tryz.f194,aC,al,ioB];refine s_g hG ?_;refine s_g hG ?_;refine ay (q_e [] ?_);trivial
def Fe(B:aj):Tab:={types:= [(161,(.int .u32))],elems:= [],cons:= [],hint:= [],N:=6,base:=B}
theorem L6{B:aj}(hB:aB B):aG Tryz.prog (Fe B):=⟨⟨tc fH (ae),af,by simp only[Fe,ioB];omega⟩,bG rfl,by kernel_rfl⟩
def Ff:Con:=fun l os=>match l,os with
 | [.z (.int .u32) a],[]=>some (True,[.z .bool false],[])
 |_,_=>none
theorem Ov{B:aj}(hB:aB B):Valid B Tryz.prog 195 Ff:=by
 refine ab (L6 hB).tab Tryz.func195 rfl rfl rfl ?_;intro args os C rs os' hc hC;unfold Ff at hc;split at hc;case h_2=>cases hc
 rename_i a;cases hc;refine v_h (L6 hB) fun X hP hT hr hG=> ?_;have hU:=Fe.eq_1;unfold Fe at hT;have hX:=Bool.not_true;simp only[Tryz.f195,aC,al,ioB];refine s_g hG ?_;refine s_g hG ?_;refine ay (q_e [] ?_);trivial
def Fg(B:aj):Tab:={types:= [(3,(.int .i64))],elems:= [],cons:= [(194,Fc)],hint:= [],N:=20,base:=B}
theorem L7{B:aj}(hB:aB B):aG Tryz.prog (Fg B):=⟨⟨tc ty3 (ae),af,by simp only[Fg,ioB];omega⟩,aE (cc Tryz.func194 (Ou hB) (aA)),by kernel_rfl⟩
def vR:Con:=fun l os=>match l,os with
 | [.z (.int .i64) a,.z (.int .i64) b],[]=>some (True,[.z (.int .i64) (aZ a b)],[])
 |_,_=>none
theorem Fh{B:aj}(hB:aB B):Valid B Tryz.prog 180 vR:=by
 refine ab (L7 hB).tab Tryz.func180 rfl rfl rfl ?_;intro args os C rs os' hc hC;unfold vR at hc;split at hc;case h_2=>cases hc
 rename_i a b;cases hc;refine v_h (L7 hB) fun X hP hT hr hG=> ?_;have hU:=Fg.eq_1;unfold Fg at hT;have hX:= @Fc.eq_1;simp only[Tryz.f180,aC,al,ioB];refine s_g hG ?_;refine s_g hG ?_;refine s_g hG ?_;refine ak (s_g hG ?_);refine ao ?_ ?_;·intro hb0;cases hb0
 ·intro hb0;try simp only[bf] at hb0
  refine aq (ah ?_);refine ak (s_g hG ?_);refine ao ?_ ?_;·intro hb1;cases hb1
  ·intro hb1;(try simp only[bf] at hb1);refine aq (ah ?_);refine ak (s_g hG ?_);refine ao ?_ ?_;·intro hb2;(try simp only[bt] at hb2);refine s_g hG ?_;refine ay (aw ?_);refine q_e [] ?_;rw[aZ,if_pos hb2]
   ·(intro hb2;(try simp only[bf] at hb2);refine aq (ah ?_);refine ak (s_g hG ?_);refine ao ?_ ?_;·intro hb3;(try simp only[bt] at hb3);refine s_g hG ?_;refine ay (aw ?_);refine q_e [] ?_;rw[aZ,if_neg (by omega),if_pos hb3]);·intro hb3;(try simp only[bf] at hb3);refine aq (ah ?_);refine s_g hG ?_;refine ay (q_e [] ?_);rw[aZ,if_neg hb2,if_neg hb3]
def Fi(B:aj):Tab:={types:= [(161,(.int .u32))],elems:= [],cons:= [(195,Ff)],hint:= [],N:=20,base:=B}
theorem L8{B:aj}(hB:aB B):aG Tryz.prog (Fi B):=⟨⟨tc fH (ae),af,by simp only[Fi,ioB];omega⟩,aE (cc Tryz.func195 (Ov hB) (aA)),by kernel_rfl⟩
def Fj:Con:=fun l os=>match l,os with
 | [.z (.int .u32) a,.z (.int .u32) b],[]=>some (True,[.z (.int .i64) (aZ a b)],[])
 |_,_=>none
theorem Ow{B:aj}(hB:aB B):Valid B Tryz.prog 181 Fj:=by
 refine ab (L8 hB).tab Tryz.func181 rfl rfl rfl ?_;intro args os C rs os' hc hC;unfold Fj at hc;split at hc;case h_2=>cases hc
 rename_i a b;cases hc;refine v_h (L8 hB) fun X hP hT hr hG=> ?_;have hU:=Fi.eq_1;unfold Fi at hT;have hX:= @Ff.eq_1;simp only[Tryz.f181,aC,al,ioB];refine s_g hG ?_;refine s_g hG ?_;refine s_g hG ?_;refine ak (s_g hG ?_);refine ao ?_ ?_;·intro hb0;cases hb0
 ·intro hb0;try simp only[bf] at hb0
  refine aq (ah ?_);refine ak (s_g hG ?_);refine ao ?_ ?_;·intro hb1;cases hb1
  ·intro hb1;(try simp only[bf] at hb1);refine aq (ah ?_);refine ak (s_g hG ?_);refine ao ?_ ?_;·intro hb2;(try simp only[bt] at hb2);refine s_g hG ?_;refine ay (aw ?_);refine q_e [] ?_;rw[aZ,if_pos hb2]
   ·(intro hb2;(try simp only[bf] at hb2);refine aq (ah ?_);refine ak (s_g hG ?_);refine ao ?_ ?_;·intro hb3;(try simp only[bt] at hb3);refine s_g hG ?_;refine ay (aw ?_);refine q_e [] ?_;rw[aZ,if_neg (by omega),if_pos hb3]);·intro hb3;(try simp only[bf] at hb3);refine aq (ah ?_);refine s_g hG ?_;refine ay (q_e [] ?_);rw[aZ,if_neg hb2,if_neg hb3]
def Fk(B:aj):Tab:={types:= [(3,(.int .i64)),(87,(.slice (.int .u32))),(89,tyW),(161,(.int .u32))],elems:= [],cons:= [],hint:= [],N:=30,base:=B}
theorem L9{B:aj}(hB:aB B):aG Tryz.prog (Fk B):=⟨⟨tc ty3 (tc ik (tc gD (tc fH (ae)))),af,by simp only[Fk,ioB];omega⟩,bG rfl,by kernel_rfl⟩
def dX:Con:=fun l os=>match l,os with
 | [.z .bool s,.z (.slice (.int .u32)) m],[]=>some (Lim m/\m.length<CAP,[.z tyW (enc (dec (s,m)))],[])
 |_,_=>none
theorem j7{B:aj}(hB:aB B):Valid B Tryz.prog 150 dX:=by
 refine ab (L9 hB).tab Tryz.func150 rfl rfl rfl ?_;intro args os C rs os' hc hC;unfold dX at hc;split at hc;case h_2=>cases hc
 rename_i s m;cases hc;refine v_h (L9 hB) fun X hP hT hr hG=> ?_;have hU:=Fk.eq_1;unfold Fk at hT;have hX:=Bool.not_true;simp only[Tryz.f150,aC,al,ioB];refine s_g hG ?_;refine ak (av ?_);refine bj (fun(z:List Int)=>(⟨[(0,.l (.z .bool s)),(1,.l (.z (.slice (.int .u32)) z)),(4,.l (.ownP 4 0))],[(4,.box 89 [.z .bool false,.val (.slice none 0 0)])]⟩:aa)) (fun z=>Lim z/\valL z=valL m/\z.length<=m.length) (fun z=>z.length) m ?_ ?_ ?_;·simp only[ml0,ml1,Nat.reduceLT,Nat.reduceEqDiff,Nat.reduceAdd,Nat.reduceMul,Nat.reduceSub,Nat.reduceLeDiff,Nat.reduceBEq,Nat.reduceBNe,reduceIte,reduceDIte,reduceCtorEq]
 ·exact⟨hC.1,rfl,Nat.le_refl _⟩
 ·rintro z ⟨g1,g2,g3⟩;try dsimp only at g1 g2 g3
  have h4:z.length<1000000000000:=Nat.lt_of_le_of_lt g3 hC.2;refine ak (s_q hG ?_ ?_)
  ·(try simp only[ba]);exact⟨id,id,fun h=>⟨h,by simp only[decide_eq_true_eq] at h;rw[wo];omega⟩,id⟩
  refine ao ?_ ?_
  ·intro hb0;(try simp only[bt] at hb0);refine aq (ah ?_);refine av (ag hG ?_ ?_)
   ·(try simp only[ba]);rw[wo];omega
   refine aI ?_;show ∃ z,_;refine q_l ?_;exact whole_round g1 g2 g3 hb0.1 h4 hb0.2
  ·intro hb0;(try simp only[bf] at hb0);refine bd (aD ?_);refine az (ax ?_);refine ah (s_q hG ?_ ?_)
   ·(try simp only[ba]);exact id
   refine ay (q_e [] ?_);refine GB g1 g2 fun hz h0=> ?_;have:=hb0 (by simp;omega);rw[wo,last_eq hz] at this;exact this h0
def Fl(B:aj):Tab:={types:= [(4,.bool),(87,(.slice (.int .u32))),(89,tyW)],elems:= [],cons:= [(150,dX)],hint:= [],N:=9,base:=B}
theorem Ma{B:aj}(hB:aB B):aG Tryz.prog (Fl B):=⟨⟨tc ty4 (tc ik (tc gD (ae))),af,by simp only[Fl,ioB];omega⟩,aE (cc Tryz.func150 (j7 hB) (aA)),by kernel_rfl⟩
def Ad:Con:=fun l os=>match l,os with
 | [.z (.st (.pair .bool (.slice (.int .u32)))) x],[]=>some (Lim x.2/\x.2.length<CAP,[.z tyW (enc (-dec x))],[])
 |_,_=>none
theorem xG{B:aj}(hB:aB B):Valid B Tryz.prog 148 Ad:=by
 refine ab (Ma hB).tab Tryz.func148 rfl rfl rfl ?_;intro args os C rs os' hc hC;unfold Ad at hc;split at hc;case h_2=>cases hc
 rename_i x;cases hc;refine v_h (Ma hB) fun X hP hT hr hG=> ?_;have hU:=Fl.eq_1;unfold Fl at hT;have hX:= @dX.eq_1;simp only[Tryz.f148,aC,al,ioB];refine s_g hG ?_;refine s_q hG ?_ ?_
 ·try simp only[ba]
  exact hC
 refine ay (q_e [] ?_);rw[D4]
def Fm(B:aj):Tab:={types:= [(3,(.int .i64)),(4,.bool),(87,(.slice (.int .u32))),(89,tyW)],elems:= [],cons:= [],hint:= [],N:=11,base:=B}
theorem Mb{B:aj}(hB:aB B):aG Tryz.prog (Fm B):=⟨⟨tc ty3 (tc ty4 (tc ik (tc gD (ae)))),af,by simp only[Fm,ioB];omega⟩,bG rfl,by kernel_rfl⟩
def py:Con:=fun l os=>match l,os with
 | [.z (.st (.pair .bool (.slice (.int .u32)))) x],[]=>some (WOK x,[.z (.int .i64) (aZ (dec x) 0)],[])
 |_,_=>none
theorem xH{B:aj}(hB:aB B):Valid B Tryz.prog 154 py:=by
 refine ab (Mb hB).tab Tryz.func154 rfl rfl rfl ?_;intro args os C rs os' hc hC;unfold py at hc;split at hc;case h_2=>cases hc
 rename_i x;cases hc;refine v_h (Mb hB) fun X hP hT hr hG=> ?_;have hU:=Fm.eq_1;unfold Fm at hT;have hX:=Bool.not_true;simp only[Tryz.f154,aC,al,ioB];refine s_g hG ?_;refine ak (av ?_);refine s_g hG ?_;refine ao ?_ ?_
 ·intro hb0;try simp only[bt] at hb0
  refine s_g hG ?_;refine ay (bg ?_);refine aw (q_e [] ?_);rw[aZ,if_neg (by have:=(fD hC).1.1 hb0;omega),if_neg (by have:=(fD hC).1.1 hb0;omega)]
 ·intro hb0;try simp only[bf] at hb0
  refine s_g hG ?_;refine ao ?_ ?_;·intro hb1;(try simp only[bt] at hb1);refine s_g hG ?_;refine ay (bg ?_);refine aw (q_e [] ?_);rw[aZ,if_pos (((fD hC).2 hb0).1 hb1)]
  ·intro hb1;(try simp only[bf] at hb1);refine aq (aI ?_);refine ah (s_g hG ?_);refine ay (q_e [] ?_);have:=((fD hC).2 hb0).2 hb1;rw[aZ,if_neg (by omega),if_pos this]
def Fo(B:aj):Tab:={types:= [(3,(.int .i64)),(87,(.slice (.int .u32))),(161,(.int .u32))],elems:= [],cons:= [(180,vR),(181,Fj)],hint:= [],N:=35,base:=B}
theorem Mc{B:aj}(hB:aB B):aG Tryz.prog (Fo B):=⟨⟨tc ty3 (tc ik (tc fH (ae))),af,by simp only[Fo,ioB];omega⟩,aE (cc Tryz.func180 (Fh hB) (cc Tryz.func181 (Ow hB) (aA))),by kernel_rfl⟩
def eO:Con:=fun l os=>match l,os with
 | [.z (.slice (.int .u32)) m,.z (.slice (.int .u32)) o],[]=>some (Cano m/\Cano o/\m.length+o.length<CAP,[.z (.int .i64) (aZ (valL m) (valL o))],[])
 |_,_=>none
theorem xI{B:aj}(hB:aB B):Valid B Tryz.prog 152 eO:=by
 refine ab (Mc hB).tab Tryz.func152 rfl rfl rfl ?_;intro args os C rs os' hc hC;unfold eO at hc;split at hc;case h_2=>cases hc
 rename_i m o;cases hc;refine v_h (Mc hB) fun X hP hT hr hG=> ?_;have hU:=Fo.eq_1;unfold Fo at hT;have hX:=ai @vR.eq_1<| @Fj.eq_1;simp only[Tryz.f152,aC,al,ioB];refine s_g hG ?_;refine ak (s_g hG ?_);refine s_g hG ?_;refine ao ?_ ?_
 ·intro hb0;try simp only[bt] at hb0
  refine s_g hG ?_;refine ay (aw ?_);refine q_e [] ?_;exact cmp_lens hC.1 hC.2.1 hb0
 ·intro hb0;try simp only[decide_eq_true_eq,decide_eq_false_iff_not,bne_eq_false_iff_eq] at hb0
  obtain⟨c1,c2,c3⟩:=hC;have c3:List.length m+List.length o<1000000000000:=c3;have hl:List.length m=List.length o:=by have:=mS.1 hb0;omega
  refine aq (ah ?_);refine ak (s_g hG ?_);refine av (bj (fun(z:Nat)=>(⟨[(0,.l (.z (.slice (.int .u32)) m)),(1,.l (.z (.slice (.int .u32)) o)),(6,.l (.z (.int .i64) ((z:Int)-1)))],[]⟩:aa)) (fun z=>z<=List.length m/\List.drop z m=List.drop z o) (fun z=>z) (List.length m) ?_ ?_ ?_);·refine q_l ?_;exact wo
  ·exact⟨Nat.le_refl _,by rw[List.drop_length,List.drop_of_length_le (by omega)]⟩
  ·rintro k ⟨g1,g2⟩;(try dsimp only at g1 g2);refine ak (s_g hG ?_);refine ao ?_ ?_
   ·intro hb1;(try simp only[bt] at hb1);refine aq (ah ?_);refine ak (av ?_);refine s_d hG ?_ ?_
    ·(try simp only[ba]);omega
    refine s_g hG ?_;refine ao ?_ ?_;·intro hb2;(try simp only[bt] at hb2);refine s_g hG ?_;refine ay (bg ?_);refine aw (cR ?_);refine bg (aw ?_);refine q_e [] ?_;obtain⟨j,rfl⟩:∃ j,k=j+1:=⟨k-1,by omega⟩;(have hk:((j+1:Nat):Int)-1=(j:Int):=by omega);rw[hk] at hb2 ⊢;exact cmp_place (k:=j) c1 c2 hl (by omega) g2 hb2
    ·(intro hb2;(try simp only[bf] at hb2);refine aq (aI ?_);refine ah (ag hG ?_ ?_);·first|trivial|omega|(simp;done)|(simp;omega));show ∃ z,_;refine q_l ?_;(have hk:(k:Int)-1=((k-1:Nat):Int):=by omega);refine⟨k-1,by rw[hk,wo],by omega,?_,by omega⟩;refine drop_step (k:=k-1) hl (by omega) (by rw[show k-1+1=k by omega];exact g2) ?_;rw[hk] at hb2;exact mS.1 hb2
   ·intro hb1;(try simp only[bf] at hb1);refine bd (aD ?_);refine az (ax ?_);refine ah (s_g hG ?_);refine ay (q_e [] ?_);(have:k=0:=by omega);subst this;simp only[List.drop_zero] at g2;rw[g2];simp[aZ]
def Fp(B:aj):Tab:={types:= [(2,(.int .i64)),(3,(.int .i64)),(87,(.slice (.int .u32))),(161,(.int .u32))],elems:= [(87,161)],cons:= [],hint:= [],N:=46,base:=B}
theorem Md{B:aj}(hB:aB B):aG Tryz.prog (Fp B):=⟨⟨tc ty2 (tc ty3 (tc ik (tc fH (ae)))),aQ (by kernel_rfl) (af),by simp only[Fp,ioB];omega⟩,bG rfl,by kernel_rfl⟩
def xJ:Con:=fun l os=>match l,os with
 | [.z (.slice (.int .u32)) m,.z (.slice (.int .u32)) o],[]=>some (Cano m/\Cano o/\valL o<=valL m/\m.length<CAP,[.z (.slice (.int .u32)) (padL (valL m-valL o).toNat m.length)],[])
 |_,_=>none
theorem Ox{B:aj}(hB:aB B):Valid B Tryz.prog 153 xJ:=by
 refine ab (Md hB).tab Tryz.func153 rfl rfl rfl ?_;intro args os C rs os' hc hC;unfold xJ at hc;split at hc;case h_2=>cases hc
 rename_i m o;cases hc;refine v_h (Md hB) fun X hP hT hr hG=> ?_;have hU:=Fp.eq_1;unfold Fp at hT;have hX:=Bool.not_true;simp only[Tryz.f153,aC,al,ioB];refine s_g hG ?_;refine s_q hG ?_ ?_
 ·try simp only[ba]
  exact⟨by omega,by omega,by have:List.length m<1000000000000:=hC.2.2.2;unfold Cm.Roomy;omega⟩
 refine s_g hG ?_;refine ak (s_g hG ?_);refine av (bj (fun(z:Nat×Int×List Int)=>(⟨[(1,.l (.z (.slice (.int .u32)) o)),(5,.l (.ownS 12)),(6,.l (.z (.int .i64) z.2.1)),(13,.l (.z (.slice (.int .u32)) m)),(14,.l (.z (.int .i64) (List.length m:Int))),(15,.l (.z (.int .i64) (z.1:Int)))],[(12,.arr (.int .u32) 161 z.2.2)]⟩:aa)) (fun z=>z.1<=List.length m/\z.2.2.length=z.1/\Lim z.2.2/\0<=z.2.1/\z.2.1<=1/\valL z.2.2+valL (List.take z.1 o)=valL (List.take z.1 m)+LB^z.1*z.2.1) (fun z=>List.length m-z.1) (0,0,[]) ?_ ?_ ?_);·refine q_l ?_;exact⟨rfl,rfl⟩
 ·simp[Lim,valL]
 ·rintro⟨k,b,out⟩ ⟨g1,g2,g3,g4,g5,g6⟩;try dsimp only at g1 g2 g3 g4 g5 g6
  obtain⟨c1,c2,c3,c4⟩:=hC;have c4:List.length m<1000000000000:=c4;have hx:=c1.1.getD k;have hy:=c2.1.getD k;have hB:LB=1000000000:=rfl;refine s_g hG ?_;refine ak (ao ?_ ?_)
  ·intro hb0;(try simp only[bt] at hb0);refine aq (ah ?_);refine ak (av ?_);refine s_q hG ?_ ?_
   ·(try simp only[ba]);exact⟨by omega,by omega⟩
   refine s_g hG ?_;refine cd (fun(z:Int)=>(⟨[(1,.l (.z (.slice (.int .u32)) o)),(5,.l (.ownS 12)),(9,.l (.z (.int .i64) z)),(13,.l (.z (.slice (.int .u32)) m)),(14,.l (.z (.int .i64) (List.length m:Int))),(15,.l (.z (.int .i64) (k:Int)))],[(12,.arr (.int .u32) 161 out)]⟩:aa)) (fun z=>z=List.getD m k 0-b-List.getD o k 0) ?_ ?_
   ·refine s_g hG ?_;refine ao ?_ ?_
    ·intro hb1;(try simp only[bt] at hb1);refine ag hG ?_ ?_
     ·(try simp only[ba]);exact⟨by omega,by omega⟩
     show ∃ z,_;refine q_l ?_;rw[fC,wi (x:=List.getD m k 0) (by omega) (by omega),wi (x:=List.getD m k 0-b) (by omega) (by omega)];first|(rw[fC,wi (x:=List.getD o k 0) (by omega) (by omega)];exact wo)|(rw[List.getD_eq_getElem?_getD (l:=o),List.getElem?_eq_none (by omega)];simp)
    ·intro hb1;(try simp only[bf] at hb1);refine aq ?_;show ∃ z,_;refine q_l ?_;rw[fC,wi (x:=List.getD m k 0) (by omega) (by omega),wi (x:=List.getD m k 0-b) (by omega) (by omega)];first|(rw[fC,wi (x:=List.getD o k 0) (by omega) (by omega)];exact wo)|(rw[List.getD_eq_getElem?_getD (l:=o),List.getElem?_eq_none (by omega)];simp)
   rintro n hn;(try dsimp only at hn);refine s_g hG ?_;refine cd (fun(z:Int×Int)=>(⟨[(1,.l (.z (.slice (.int .u32)) o)),(5,.l (.ownS 12)),(6,.l (.z (.int .i64) z.2)),(9,.l (.z (.int .i64) z.1)),(13,.l (.z (.slice (.int .u32)) m)),(14,.l (.z (.int .i64) (List.length m:Int))),(15,.l (.z (.int .i64) (k:Int)))],[(12,.arr (.int .u32) 161 out)]⟩:aa)) (fun z=>0<=z.1/\z.1<LB/\0<=z.2/\z.2<=1/\z.1-LB*z.2=n) ?_ ?_
   ·refine s_g hG ?_;refine ao ?_ ?_
    ·(intro hb2;(try simp only[bt] at hb2);refine ag hG ?_ ?_;·first|trivial|omega|(simp;done)|(simp;omega));show ∃ z,_;refine q_l ?_;first|(rw[wo];exact⟨by omega,by omega,by omega,by omega,by omega⟩)|exact⟨by omega,by omega,by omega,by omega,by omega⟩
    ·intro hb2;(try simp only[bf] at hb2);refine aq ?_;show ∃ z,_;refine q_l ?_;first|(rw[wo];exact⟨by omega,by omega,by omega,by omega,by omega⟩)|exact⟨by omega,by omega,by omega,by omega,by omega⟩
   rintro⟨n2,b2⟩ hn2;(try dsimp only at hn2);refine ag hG ?_ ?_
   ·(try simp only[ba]);unfold Cm.Roomy;omega
   (refine aI (ah ?_);refine ag hG ?_ ?_;·first|trivial|omega|(simp;done)|(simp;omega));show ∃ z,_;refine q_l ?_;obtain⟨hn1,hn2,hn3,hn4,hn5⟩:=hn2;rw[w32 hn1 (by omega)];obtain⟨q1,q2⟩:=minus_round (b:=b) g2 g3 g6 hn1 hn2 (b':=b2) (by omega);exact⟨k+1,by rw[wo];simp,by omega,by simp[g2],q1,hn3,hn4,q2,by omega⟩
  ·intro hb0;(try simp only[bf] at hb0);refine bd (aD ?_);refine az (ax ?_);refine ah (s_g hG ?_);refine ay (q_e [] ?_);(have hk:k=List.length m:=by omega);subst hk;exact minus_end c1 c2 c3 g2 g3 g4 (by rw[List.take_length] at g6;exact g6)
def Fq(B:aj):Tab:={types:= [(3,(.int .i64)),(4,.bool),(87,(.slice (.int .u32))),(89,tyW)],elems:= [],cons:= [(150,dX),(151,Fa),(152,eO),(153,xJ)],hint:= [],N:=42,base:=B}
theorem Me{B:aj}(hB:aB B):aG Tryz.prog (Fq B):=⟨⟨tc ty3 (tc ty4 (tc ik (tc gD (ae)))),af,by simp only[Fq,ioB];omega⟩,aE (cc Tryz.func150 (j7 hB) (cc Tryz.func151 (Ot hB) (cc Tryz.func152 (xI hB) (cc Tryz.func153 (Ox hB) (aA))))),by kernel_rfl⟩
def Ae:Con:=fun l os=>match l,os with
 | [.z (.st (.pair .bool (.slice (.int .u32)))) x,.z (.st (.pair .bool (.slice (.int .u32)))) y],[]=>some (WOK x/\WOK y/\x.2.length+y.2.length<CAP,[.z tyW (enc (dec x+dec y))],[])
 |_,_=>none
theorem xK{B:aj}(hB:aB B):Valid B Tryz.prog 110 Ae:=by
 refine ab (Me hB).tab Tryz.func110 rfl rfl rfl ?_;intro args os C rs os' hc hC;unfold Ae at hc;split at hc;case h_2=>cases hc
 rename_i x y;cases hc;refine v_h (Me hB) fun X hP hT hr hG=> ?_;have hU:=Fq.eq_1;unfold Fq at hT;have hX:=ai @eO.eq_1<|ai @xJ.eq_1<|ai @Fa.eq_1<| @dX.eq_1;simp only[Tryz.f110,aC,al,ioB];refine s_g hG ?_;refine ak (av ?_);refine s_g hG ?_;refine ao ?_ ?_
 ·intro hb0;try simp only[bt] at hb0
  refine s_d hG ?_ ?_
  ·(try simp only[ba]);obtain⟨c1,c2,c3⟩:=hC;exact⟨⟨c1.1,c2.1,c3⟩,(limbs_can _).1,Nat.lt_of_le_of_lt (plus_len c1.1 c2.1) c3⟩
  refine ay (bg ?_);refine aw (q_e [] ?_);exact add_same hC.1 hC.2.1 hb0
 ·intro hb0;try simp only[bf] at hb0
  refine s_q hG ?_ ?_
  ·(try simp only[ba]);obtain⟨c1,c2,c3⟩:=hC;exact⟨c1.1,c2.1,c3⟩
  refine ao ?_ ?_
  ·intro hb1;(try simp only[bt] at hb1);refine s_d hG ?_ ?_
   ·(try simp only[ba]);obtain⟨c1,c2,c3⟩:=hC;rw[mT] at hb1;exact⟨⟨c2.1,c1.1,by omega,by omega⟩,padL_lim _ _,by rw[padL_len];omega⟩
   refine ay (bg ?_);refine aw (q_e [] ?_);rw[mT] at hb1;rw[yS (fun e=>hb0 e.symm) (minus_val hC.2.1.1 hC.1.1 (by omega)),Int.add_comm]
  ·intro hb1;(try simp only[bf] at hb1);refine aq (aI ?_);refine ah (s_d hG ?_ ?_)
   ·(try simp only[ba]);obtain⟨c1,c2,c3⟩:=hC;rw[mT] at hb1;exact⟨⟨c1.1,c2.1,by omega,by omega⟩,padL_lim _ _,by rw[padL_len];omega⟩
   refine ay (q_e [] ?_);rw[mT] at hb1;exact yS hb0 (minus_val hC.1.1 hC.2.1.1 (by omega))
def Fs(B:aj):Tab:={types:= [(89,tyW)],elems:= [],cons:= [(110,Ae),(148,Ad)],hint:= [],N:=9,base:=B}
theorem Mf{B:aj}(hB:aB B):aG Tryz.prog (Fs B):=⟨⟨tc gD (ae),af,by simp only[Fs,ioB];omega⟩,aE (cc Tryz.func110 (xK hB) (cc Tryz.func148 (xG hB) (aA))),by kernel_rfl⟩
def Oy:Con:=fun l os=>match l,os with
 | [.z (.st (.pair .bool (.slice (.int .u32)))) x,.z (.st (.pair .bool (.slice (.int .u32)))) y],[]=>some (WOK x/\WOK y/\x.2.length+y.2.length<CAP,[.z tyW (enc (dec x-dec y))],[])
 |_,_=>none
theorem Oz{B:aj}(hB:aB B):Valid B Tryz.prog 179 Oy:=by
 refine ab (Mf hB).tab Tryz.func179 rfl rfl rfl ?_;intro args os C rs os' hc hC;unfold Oy at hc;split at hc;case h_2=>cases hc
 rename_i x y;cases hc;refine v_h (Mf hB) fun X hP hT hr hG=> ?_;have hU:=Fs.eq_1;unfold Fs at hT;have hX:=ai @Ae.eq_1<| @Ad.eq_1;simp only[Tryz.f179,aC,al,ioB];refine s_g hG ?_;refine s_d hG ?_ ?_
 ·try simp only[ba]
  obtain⟨c1,c2,c3⟩:=hC;exact⟨⟨c2.1.1,by omega⟩,c1,enc_ok _,by rw[MZ c2];exact c3⟩
 refine ay (q_e [] ?_);rw[bS];rfl
def Ft(B:aj):Tab:={types:= [(3,(.int .i64)),(4,.bool),(87,(.slice (.int .u32))),(89,tyW),(161,(.int .u32)),(164,(.int .u64))],elems:= [(87,161)],cons:= [(150,dX)],hint:= [],N:=79,base:=B}
theorem Mg{B:aj}(hB:aB B):aG Tryz.prog (Ft B):=⟨⟨tc ty3 (tc ty4 (tc ik (tc gD (tc fH (tc mY (ae)))))),aQ (by kernel_rfl) (af),by simp only[Ft,ioB];omega⟩,aE (cc Tryz.func150 (j7 hB) (aA)),by kernel_rfl⟩
def Af:Con:=fun l os=>match l,os with
 | [.z (.st (.pair .bool (.slice (.int .u32)))) x,.z (.st (.pair .bool (.slice (.int .u32)))) y],[]=>some (WOK x/\WOK y/\x.2.length+y.2.length<CAP,[.z tyW (enc (dec x*dec y))],[])
 |_,_=>none
theorem xL{B:aj}(hB:aB B):Valid B Tryz.prog 109 Af:=by
 refine ab (Mg hB).tab Tryz.func109 rfl rfl rfl ?_;intro args os C rs os' hc hC;unfold Af at hc;split at hc;case h_2=>cases hc
 rename_i x y;cases hc;refine v_h (Mg hB) fun X hP hT hr hG=> ?_;have hU:=Ft.eq_1;unfold Ft at hT;have hX:= @dX.eq_1;simp only[Tryz.f109,aC,al,ioB];refine s_g hG ?_;refine s_q hG ?_ ?_
 ·try simp only[ba]
  have c3:List.length x.2+List.length y.2<1000000000000:=hC.2.2;rw[wo];exact⟨by omega,by omega,by unfold Cm.Roomy;omega⟩
 refine ak (s_g hG ?_);refine av (bj (fun(z:Nat×List Int)=>(⟨[(2,.l (.z (.ptr tyW) x)),(3,.l (.z (.ptr tyW) y)),(4,.l (.ownP 4 0)),(5,.l (.ownS 19)),(21,.l (.z (.slice (.int .u32)) x.2)),(22,.l (.z (.int .i64) (List.length x.2:Int))),(23,.l (.z (.int .i64) (z.1:Int)))],[(19,.arr (.int .u32) 161 z.2),(4,.box 89 [.z .bool false,.val (.slice none 0 0)])]⟩:aa)) (fun z=>z.1<=List.length x.2/\z.2.length=List.length x.2+List.length y.2/\Lim z.2/\valL z.2=valL (List.take z.1 x.2)*valL y.2/\∀ j,z.1+List.length y.2<=j->z.2.getD j 0=0) (fun z=>List.length x.2-z.1) (0,List.replicate (List.length x.2+List.length y.2) 0) ?_ ?_ ?_);·refine q_l ?_;have c3:List.length x.2+List.length y.2<1000000000000:=hC.2.2;rw[wo];exact⟨rfl,by congr 1⟩
 ·obtain⟨r1,r2,r3⟩:=replicate_zero (List.length x.2+List.length y.2);exact⟨by simp,by simp,r1,by simp[r2,valL],fun j _=>r3 j⟩
 ·rintro⟨i,out⟩ ⟨g1,g2,g3,g4,g5⟩;try dsimp only at g1 g2 g3 g4 g5
  obtain⟨c1,c2,c3⟩:=hC;have c3:List.length x.2+List.length y.2<1000000000000:=c3;have hB:LB=1000000000:=rfl;refine s_g hG ?_;refine ak (ao ?_ ?_)
  ·intro hb0;(try simp only[bt] at hb0);refine aq (ah ?_);refine ak (av ?_);refine s_q hG ?_ ?_
   ·(try simp only[ba]);omega
   (refine s_g hG ?_;refine ak (s_g hG ?_);refine av (bj (fun(z:Nat×Int×List Int)=>(⟨[(2,.l (.z (.ptr tyW) x)),(3,.l (.z (.ptr tyW) y)),(4,.l (.ownP 4 0)),(5,.l (.ownS 19)),(6,.l (.z (.int .i64) (i:Int))),(7,.l (.z (.int .u32) (List.getD x.2 i 0))),(8,.l (.z (.int .u64) z.2.1)),(21,.l (.z (.slice (.int .u32)) x.2)),(22,.l (.z (.int .i64) (List.length x.2:Int))),(23,.l (.z (.int .i64) (i:Int))),(29,.l (.z (.slice (.int .u32)) y.2)),(30,.l (.z (.int .i64) (List.length y.2:Int))),(31,.l (.z (.int .i64) (z.1:Int)))],[(19,.arr (.int .u32) 161 z.2.2),(4,.box 89 [.z .bool false,.val (.slice none 0 0)])]⟩:aa)) (fun z=>z.1<=List.length y.2/\z.2.2.length=List.length x.2+List.length y.2/\Lim z.2.2/\0<=z.2.1/\z.2.1<LB/\valL z.2.2+LB^(i+z.1)*z.2.1=valL (List.take i x.2)*valL y.2+LB^i*(List.getD x.2 i 0*valL (List.take z.1 y.2))/\∀ j,i+List.length y.2<=j->z.2.2.getD j 0=0) (fun z=>List.length y.2-z.1) (0,0,out) ?_ ?_ ?_);·refine q_l ?_;exact⟨rfl,rfl⟩);·exact⟨by simp,g2,g3,by simp,by simp;decide,by simp[valL,g4],g5⟩
   ·rintro⟨k,c,out2⟩ ⟨k1,k2,k3,k4,k5,k6,k7⟩;(try dsimp only at k1 k2 k3 k4 k5 k6 k7);(have e1:IntKind.i64.wrap ((i:Int)+(k:Int))=((i+k:Nat):Int):=by rw[wo];omega);refine s_g hG ?_;refine ak (ao ?_ ?_)
    ·intro hb1;(try simp only[bt] at hb1);refine aq (ah ?_);refine ak (av ?_);refine s_q hG ?_ ?_
     ·(try simp only[ba]);omega
     refine cd (fun(z:Int)=>(⟨[(2,.l (.z (.ptr tyW) x)),(3,.l (.z (.ptr tyW) y)),(4,.l (.ownP 4 0)),(5,.l (.ownS 19)),(6,.l (.z (.int .i64) (i:Int))),(7,.l (.z (.int .u32) (List.getD x.2 i 0))),(9,.l (.z (.int .i64) (k:Int))),(11,.l (.z (.int .u64) z)),(21,.l (.z (.slice (.int .u32)) x.2)),(22,.l (.z (.int .i64) (List.length x.2:Int))),(23,.l (.z (.int .i64) (i:Int))),(29,.l (.z (.slice (.int .u32)) y.2)),(30,.l (.z (.int .i64) (List.length y.2:Int))),(31,.l (.z (.int .i64) (k:Int)))],[(19,.arr (.int .u32) 161 out2),(4,.box 89 [.z .bool false,.val (.slice none 0 0)])]⟩:aa)) (fun z=>z=List.getD x.2 i 0*List.getD y.2 k 0+out2.getD (i+k) 0+c) ?_ ?_
     ·refine ag hG ?_ ?_
      ·(try simp only[ba]);rw[e1];omega
      show ∃ z,_;refine q_l ?_;rw[e1];exact PU (c1.1.1.getD i) (c2.1.1.getD k) (k3.getD (i+k)) ⟨k4,k5⟩
     rintro n hn;(try dsimp only at hn);refine ag hG ?_ ?_
     ·(try simp only[ba]);rw[e1];omega
     (refine aI (ah ?_);refine ag hG ?_ ?_;·first|trivial|omega|(simp;done)|(simp;omega));show ∃ z,_;refine q_l ?_;obtain⟨m0,m1,m2,m3,m4,m5,m6,m7⟩:=mul_step c1.1.1 c2.1.1 k2 k3 k4 k5 (by omega) (by omega) k6 k7 hn;obtain⟨t1,t2,t3⟩:=nI m0 m1;rw[e1,t2,t3,Int.toNat_natCast];exact⟨k+1,by rw[wo];simp,by omega,m2,m3,m4,m5,m6,m7,by omega⟩
    ·intro hb1;(try simp only[bf] at hb1);refine bd (aD ?_);refine az (ax ?_);refine ah (ag hG ?_ ?_)
     ·(try simp only[ba]);rw[wo];omega
     (refine aI (ah ?_);refine ag hG ?_ ?_;·first|trivial|omega|(simp;done)|(simp;omega));show ∃ z,_;refine q_l ?_;(have e1:IntKind.i64.wrap ((i:Int)+(List.length y.2:Int))=((i+List.length y.2:Nat):Int):=by rw[wo];omega);(have hk:k=List.length y.2:=by omega);subst hk;rw[List.take_length] at k6;obtain⟨f1,f2,f3,f4⟩:=mul_row k2 k3 k4 k5 (by omega) rfl k6 k7;rw[e1,w32 k4 (by omega),Int.toNat_natCast];exact⟨i+1,by rw[wo];simp,by omega,f1,f2,f3,f4,by omega⟩
  ·intro hb0;(try simp only[bf] at hb0);refine bd (aD ?_);refine az (ax ?_);refine ah (s_q hG ?_ ?_)
   ·(try simp only[ba]);exact⟨g3,by unfold CAP;omega⟩
   refine ay (q_e [] ?_);(have hi:i=List.length x.2:=by omega);subst hi;rw[List.take_length] at g4;rw[<- M0 g4]
def Fu(B:aj):Tab:={types:= [(3,(.int .i64)),(9,.str)],elems:= [],cons:= [],hint:= [],N:=18,base:=B}
theorem Mh{B:aj}(hB:aB B):aG Tryz.prog (Fu B):=⟨⟨tc ty3 (tc ty9 (ae)),af,by simp only[Fu,ioB];omega⟩,bG rfl,by kernel_rfl⟩
def pT:Con:=fun l os=>match l,os with
 | [.z .str s,.z .str p],[]=>some (True,[.z .bool (c9 s p)],[])
 |_,_=>none
theorem OA{B:aj}(hB:aB B):Valid B Tryz.prog 139 pT:=by
 refine ab (Mh hB).tab Tryz.func139 rfl rfl rfl ?_;intro args os C rs os' hc hC;unfold pT at hc;split at hc;case h_2=>cases hc
 rename_i s p;cases hc;refine v_h (Mh hB) fun X hP hT hr hG=> ?_;have hU:=Fu.eq_1;unfold Fu at hT;have hX:=Bool.not_true;simp only[Tryz.f139,aC,al,ioB];refine s_g hG ?_;refine s_q hG ?_ ?_
 ·try simp only[ba]
  (repeat' (first|apply And.intro|intro _))<;>(try simp only[decide_eq_true_eq,decide_eq_false_iff_not,Bool.not_eq_true',beq_iff_eq,Int.toNat_natCast] at*)<;>first|assumption|omega|trivial|(simp_all;done)|(simp_all;omega)
 refine ay (q_e [] ?_);exact GD s p
def Fv(B:aj):Tab:={types:= [(9,.str)],elems:= [],cons:= [(139,pT)],hint:= [],N:=13,base:=B}
theorem Mi{B:aj}(hB:aB B):aG Tryz.prog (Fv B):=⟨⟨tc ty9 (ae),af,by simp only[Fv,ioB];omega⟩,aE (cc Tryz.func139 (OA hB) (aA)),by kernel_rfl⟩
def eP:Con:=fun l os=>match l,os with
 | [.z .str s,.z .str p],[]=>some (True,[.z .str (ar s p)],[])
 |_,_=>none
theorem OB{B:aj}(hB:aB B):Valid B Tryz.prog 186 eP:=by
 refine ab (Mi hB).tab Tryz.func186 rfl rfl rfl ?_;intro args os C rs os' hc hC;unfold eP at hc;split at hc;case h_2=>cases hc
 rename_i s p;cases hc;refine v_h (Mi hB) fun X hP hT hr hG=> ?_;have hU:=Fv.eq_1;unfold Fv at hT;have hX:= @pT.eq_1;simp only[Tryz.f186,aC,al,ioB];refine s_g hG ?_;refine ak (s_g hG ?_);refine ao ?_ ?_
 ·intro hb0;try simp only[bt] at hb0
  refine s_q hG ?_ ?_
  ·(try simp only[ba]);have h:=hb0;unfold c9 at h;simp only[Bool.and_eq_true,decide_eq_true_eq] at h;exact⟨by omega,by omega,by omega⟩
  refine ay (aw ?_);refine q_e [] ?_;simp[ar,hb0]
 ·intro hb0;try simp only[bf] at hb0
  refine aq (ah ?_);refine s_g hG ?_;refine ay (q_e [] ?_);simp[ar,hb0]
def Fw(B:aj):Tab:={types:= [(9,.str)],elems:= [],cons:= [(186,eP)],hint:= [],N:=8,base:=B}
theorem Mj{B:aj}(hB:aB B):aG Tryz.prog (Fw B):=⟨⟨tc ty9 (ae),af,by simp only[Fw,ioB];omega⟩,aE (cc Tryz.func186 (OB hB) (aA)),by kernel_rfl⟩
theorem Fx{B:aj}(hB:aB B):Valid B Tryz.prog 172 eP:=by
 refine ab (Mj hB).tab Tryz.func172 rfl rfl rfl ?_;intro args os C rs os' hc hC;unfold eP at hc;split at hc;case h_2=>cases hc
 rename_i s p;cases hc;refine v_h (Mj hB) fun X hP hT hr hG=> ?_;have hU:=Fw.eq_1;unfold Fw at hT;have hX:= @eP.eq_1;simp only[Tryz.f172,aC,al,ioB];refine s_g hG ?_;refine s_g hG ?_;refine ay (q_e [] ?_);trivial
def Fy(B:aj):Tab:={types:= [(87,(.slice (.int .u32)))],elems:= [],cons:= [],hint:= [],N:=4,base:=B}
theorem Mk{B:aj}(hB:aB B):aG Tryz.prog (Fy B):=⟨⟨tc ik (ae),af,by simp only[Fy,ioB];omega⟩,bG rfl,by kernel_rfl⟩
def vS:Con:=fun l os=>match l,os with
 | [.z (.slice (.int .u32)) xs],[]=>some (True,[.fn 208 [.z (.ptr (.slice (.int .u32))) xs]],[])
 |_,_=>none
theorem Fz{B:aj}(hB:aB B):Valid B Tryz.prog 193 vS:=by
 refine ab (Mk hB).tab Tryz.func193 rfl rfl rfl ?_;intro args os C rs os' hc hC;unfold vS at hc;split at hc;case h_2=>cases hc
 rename_i xs;cases hc;refine v_h (Mk hB) fun X hP hT hr hG=> ?_;have hU:=Fy.eq_1;unfold Fy at hT;have hX:=Bool.not_true;simp only[Tryz.f193,aC,al,ioB];refine s_g hG ?_;refine s_g hG ?_;refine ay (q_e [] ?_);rfl
def FA(B:aj):Tab:={types:= [(3,(.int .i64)),(4,.bool),(87,(.slice (.int .u32))),(89,tyW)],elems:= [],cons:= [(152,eO),(154,py),(180,vR)],hint:= [],N:=32,base:=B}
theorem Ml{B:aj}(hB:aB B):aG Tryz.prog (FA B):=⟨⟨tc ty3 (tc ty4 (tc ik (tc gD (ae)))),af,by simp only[FA,ioB];omega⟩,aE (cc Tryz.func152 (xI hB) (cc Tryz.func154 (xH hB) (cc Tryz.func180 (Fh hB) (aA)))),by kernel_rfl⟩
def OC:Con:=fun l os=>match l,os with
 | [.z (.st (.pair .bool (.slice (.int .u32)))) x,.z (.st (.pair .bool (.slice (.int .u32)))) y],[]=>some (WOK x/\WOK y/\x.2.length+y.2.length<CAP,[.z (.int .i64) (aZ (dec x) (dec y))],[])
 |_,_=>none
theorem OD{B:aj}(hB:aB B):Valid B Tryz.prog 168 OC:=by
 refine ab (Ml hB).tab Tryz.func168 rfl rfl rfl ?_;intro args os C rs os' hc hC;unfold OC at hc;split at hc;case h_2=>cases hc
 rename_i x y;cases hc;refine v_h (Ml hB) fun X hP hT hr hG=> ?_;have hU:=FA.eq_1;unfold FA at hT;have hX:=ai @vR.eq_1<|ai @eO.eq_1<| @py.eq_1;simp only[Tryz.f168,aC,al,ioB];refine s_g hG ?_;refine ak (s_d hG ?_ ?_)
 ·try simp only[ba]
  exact⟨hC.1,hC.2.1⟩
 refine s_q hG ?_ ?_
 ·try simp only[ba]
  (repeat' (first|apply And.intro|intro _))<;>(try simp only[decide_eq_true_eq,decide_eq_false_iff_not,Bool.not_eq_true',beq_iff_eq,Int.toNat_natCast] at*)<;>first|assumption|omega|trivial|(simp_all;done)|(simp_all;omega)
 refine ao ?_ ?_
 ·intro hb0;try simp only[bt] at hb0
  refine s_g hG ?_;refine ay (aw ?_);refine q_e [] ?_;exact GF hC.1 hb0
 ·intro hb0;try simp only[bf] at hb0
  refine aq (ah ?_);refine ak (s_g hG ?_);refine ao ?_ ?_
  ·intro hb1;(try simp only[bt] at hb1);refine s_q hG ?_ ?_
   ·(try simp only[ba]);exact⟨hC.2.1.1,hC.1.1,by omega⟩
   refine ay (aw ?_);refine q_e [] ?_;exact(sU hC.1 hC.2.1 hb0).1 hb1
  ·intro hb1;(try simp only[bf] at hb1);refine aq (ah ?_);refine s_q hG ?_ ?_
   ·(try simp only[ba]);exact⟨hC.1.1,hC.2.1.1,by omega⟩
   refine ay (q_e [] ?_);exact(sU hC.1 hC.2.1 hb0).2 hb1
def FB(B:aj):Tab:={types:= [(3,(.int .i64)),(9,.str),(87,(.slice (.int .u32))),(89,tyW),(161,(.int .u32))],elems:= [],cons:= [(166,uW)],hint:= [],N:=22,base:=B}
theorem Mm{B:aj}(hB:aB B):aG Tryz.prog (FB B):=⟨⟨tc ty3 (tc ty9 (tc ik (tc gD (tc fH (ae))))),af,by simp only[FB,ioB];omega⟩,aE (cc Tryz.func166 (D5 hB) (aA)),by kernel_rfl⟩
def pU:Con:=fun l os=>match l,os with
 | [.z (.st (.pair .bool (.slice (.int .u32)))) x],[]=>some (WOK x/\x.2.length<CAP,[.z (.int .i64) (cS (dec x))],[])
 |_,_=>none
theorem OE{B:aj}(hB:aB B):Valid B Tryz.prog 169 pU:=by
 refine ab (Mm hB).tab Tryz.func169 rfl rfl rfl ?_;intro args os C rs os' hc hC;unfold pU at hc;split at hc;case h_2=>cases hc
 rename_i x;cases hc;refine v_h (Mm hB) fun X hP hT hr hG=> ?_;have hU:=FB.eq_1;unfold FB at hT;have hX:= @uW.eq_1;simp only[Tryz.f169,aC,al,ioB];refine s_g hG ?_;refine s_g hG ?_;refine ak (s_g hG ?_);refine ao ?_ ?_
 ·intro hb0;try simp only[bt] at hb0
  refine s_g hG ?_;refine ay (aw ?_);refine q_e [] ?_;rw[(fD hC.1).1.1 hb0,uY]
 ·intro hb0;try simp only[bf] at hb0
  refine aq (ah ?_);refine s_q hG ?_ ?_
  ·(try simp only[ba]);obtain⟨d1,d2,d3,d4⟩:=yX hC.1 hC.2 hb0;have d5:=yW hC.1.1.1 (by omega);have hB:LB=1000000000:=rfl;rw[d2,d3];exact⟨d1,by unfold I64;omega⟩
  refine ay (q_e [] ?_);obtain⟨d1,d2,d3,d4⟩:=yX hC.1 hC.2 hb0;rw[d2,d3];exact d4
def FC(B:aj):Tab:={types:= [(3,(.int .i64)),(87,(.slice (.int .u32))),(89,tyW),(161,(.int .u32)),(164,(.int .u64))],elems:= [(87,161)],cons:= [],hint:= [],N:=27,base:=B}
theorem Mn{B:aj}(hB:aB B):aG Tryz.prog (FC B):=⟨⟨tc ty3 (tc ik (tc gD (tc fH (tc mY (ae))))),aQ (by kernel_rfl) (af),by simp only[FC,ioB];omega⟩,bG rfl,by kernel_rfl⟩
def jf:Con:=fun l os=>match l,os with
 | [.z (.int .i64) n],[]=>some (I64 n,[.z tyW (enc n)],[])
 |_,_=>none
theorem pV{B:aj}(hB:aB B):Valid B Tryz.prog 133 jf:=by
 refine ab (Mn hB).tab Tryz.func133 rfl rfl rfl ?_;intro args os C rs os' hc hC;unfold jf at hc;split at hc;case h_2=>cases hc
 rename_i n;cases hc;refine v_h (Mn hB) fun X hP hT hr hG=> ?_;have hU:=FC.eq_1;unfold FC at hT;have hX:=Bool.not_true;simp only[Tryz.f133,aC,al,ioB];refine s_g hG ?_;refine s_g hG ?_;refine s_g hG ?_;refine cd (fun(z:Int)=>(⟨[(4,.l (.z (.int .u64) z)),(3,.l (.ownP 3 0)),(2,.l (.ownP 2 0))],[(3,.box 89 [.z .bool (decide (n<0)),.val (.slice none 0 0)]),(2,.box 89 [.z .bool false,.val (.slice none 0 0)])]⟩:aa)) (fun z=>z=n.natAbs) ?_ ?_
 ·refine s_g hG ?_;refine ao ?_ ?_
  ·(intro hb0;(try simp only[bt] at hb0);refine ag hG ?_ ?_;·first|trivial|omega|(simp;done)|(simp;omega));show ∃ z,_;refine q_l ?_;first|exact(lj hC).1 hb0|exact(lj hC).2 hb0
  ·intro hb0;(try simp only[bf] at hb0);refine aq ?_;show ∃ z,_;refine q_l ?_;first|exact(lj hC).1 hb0|exact(lj hC).2 hb0
 rintro z hz;try dsimp only at hz
 refine ak (av ?_);refine bj (fun(z:Nat×List Int)=>(⟨[(4,.l (.z (.int .u64) (z.1:Int))),(3,.l (.ownP 3 0)),(2,.l (.ownP 2 0))],[(3,.box 89 [.z .bool (decide (n<0)),.ownS 24]),(24,.arr (.int .u32) 161 z.2),(2,.box 89 [.z .bool false,.val (.slice none 0 0)])]⟩:aa)) (fun z=>z.2++limbs z.1=limbs n.natAbs/\z.1<18446744073709551616) (fun z=>z.1) (n.natAbs,[]) ?_ ?_ ?_;·refine q_l ?_;exact⟨hz,by unfold ioB;omega⟩
 ·exact⟨by simp,by have hC:I64 n:=hC;unfold I64 at hC;omega⟩
 ·rintro⟨u,m⟩ ⟨g1,g2⟩;try dsimp only at g1 g2
  refine ak (s_g hG ?_);refine ao ?_ ?_
  ·intro hb1;(try simp only[bt] at hb1);refine aq (ah ?_);refine ak (av ?_);refine ag hG ?_ ?_
   ·(try simp only[ba]);have h3:=mi (n:=n.natAbs) (by have hC:I64 n:=hC;unfold I64 at hC;omega);have h4:=congrArg List.length g1;simp only[List.length_append] at h4;exact⟨by omega,by unfold Cm.Roomy;omega⟩
   (refine aI (ah ?_);refine ag hG ?_ ?_;·first|trivial|omega|(simp;done)|(simp;omega));show ∃ z,_;refine q_l ?_;exact o4 g1 g2 hb1
  ·intro hb1;(try simp only[bf] at hb1);refine bd (aD ?_);refine az (ax ?_);refine ah (s_g hG ?_);refine ay (q_e [24] ?_);(have h0:u=0:=by omega);subst h0;rw[show limbs 0= [] by simp[limbs],List.append_nil] at g1;rw[g1];rfl
def xM(B:aj):Tab:={types:= [(3,(.int .i64)),(5,(.int .u8)),(9,.str)],elems:= [],cons:= [],hint:= [],N:=42,base:=B}
theorem FD{B:aj}(hB:aB B):aG Tryz.prog (xM B):=⟨⟨tc ty3 (tc ty5 (tc ty9 (ae))),af,by simp only[xM,ioB];omega⟩,bG rfl,by kernel_rfl⟩
def pW:Con:=fun l os=>match l,os with
 | [.z .str s],[]=>some (s.length<CAP,[.z .bool (decide (chk s≠5))],[])
 |_,_=>none
theorem Mo{B:aj}(hB:aB B):Valid B Tryz.prog 135 pW:=by
 refine ab (FD hB).tab Tryz.func135 rfl rfl rfl ?_;intro args os C rs os' hc hC;unfold pW at hc;split at hc;case h_2=>cases hc
 rename_i s;cases hc;refine v_h (FD hB) fun X hP hT hr hG=> ?_;have hU:=xM.eq_1;unfold xM at hT;have hX:=Bool.not_true;simp only[Tryz.f135,aC,al,ioB];refine s_g hG ?_;refine ak (s_g hG ?_);refine ao ?_ ?_;·intro hb0;simp only[beq_iff_eq] at hb0;refine s_g hG ?_;refine ay (aw ?_);refine q_e [] ?_;exact J4 hb0
 ·intro hb0;simp only[beq_eq_false_iff_ne,ne_eq] at hb0;refine aq (ah ?_);refine s_g hG ?_;refine cd (fun(z:Unit)=>(⟨[(0,.l (.z .str s)),(3,.l (.z .str (ar s [45])))],[]⟩:aa)) (fun z=>True) ?_ ?_
  ·refine s_q hG ?_ ?_
   ·try simp only[ba]
    (repeat' (first|apply And.intro|intro _))<;>(try simp only[decide_eq_true_eq,decide_eq_false_iff_not,Bool.not_eq_true',beq_iff_eq,Int.toNat_natCast] at*)<;>first|assumption|omega|trivial|(simp_all;done)|(simp_all;omega)
   refine ao ?_ ?_
   ·intro hb1;(try simp only[bt] at hb1);refine ag hG ?_ ?_
    ·(try simp only[ba]);have h9:(0:Int)<(List.length s:Int):=hb1.1;exact⟨by omega,by omega,Int.le_refl _⟩
    show ∃ z,_;refine q_l ?_;first|exact vh hb1|exact vi hb1
   ·intro hb1;(try simp only[bf] at hb1);refine aq ?_;show ∃ z,_;refine q_l ?_;first|exact vh hb1|exact vi hb1
  rintro⟨⟩ hu;try dsimp only at hu
  have hl:=eM s [45];have hc:List.length s<1000000000000:=hC;refine ak (s_q hG ?_ ?_)
  ·(try simp only[ba]);exact Nh _
  refine ao ?_ ?_;·intro hb2;refine s_g hG ?_;refine ay (aw ?_);refine q_e [] ?_;exact zh hb0 hb2
  ·(intro hb2;have hmid:=GW hb2;refine aq (ah ?_);refine ak (s_g hG ?_);refine av (bj (fun(z:Nat)=>(⟨[(0,.l (.z .str s)),(3,.l (.z .str (ar s [45]))),(4,.l (.z (.int .i64) (z:Int)))],[]⟩:aa)) (fun z=>z<=(ar s [45]).length/\(List.take z (ar s [45])).all ff=true) (fun z=>(ar s [45]).length-z) 0 ?_ ?_ ?_);·refine q_l ?_;rfl);·exact⟨Nat.zero_le _,rfl⟩
   ·rintro k ⟨g1,g2⟩;(try dsimp only at g1 g2);refine ak (s_g hG ?_);refine ao ?_ ?_
    ·intro hb3;(try simp only[bt] at hb3);refine aq (ah ?_);refine ak (av ?_);refine s_q hG ?_ ?_
     ·(try simp only[ba]);exact⟨⟨by omega,hb3⟩,fun h=>⟨h,by omega,hb3⟩,fun h=>h,fun h=>by rw[h];rfl⟩
     refine ao ?_ ?_;·intro hb4;refine s_g hG ?_;refine ay (bg ?_);refine aw (cR ?_);refine bg (aw ?_);refine q_e [] ?_;exact GX hb0 hmid hb3 hb4
     ·(intro hb4;refine aq (aI ?_);refine ah (ag hG ?_ ?_);·first|trivial|omega|(simp;done)|(simp;omega));show ∃ z,_;refine q_l ?_;exact⟨k+1,by rw[wo];simp,by omega,CI hb3 hb4 g2,by omega⟩
    ·intro hb3;(try simp only[bf] at hb3);refine bd (aD ?_);refine az (ax ?_);refine ah (s_g hG ?_);refine ay (q_e [] ?_);exact GY hb0 hmid hb3 g2
def xN(B:aj):Tab:={types:= [(4,.bool),(9,.str),(181,(.slice (.int .i64)))],elems:= [],cons:= [(156,fO),(157,cD),(158,eU)],hint:= [],N:=9,base:=B}
theorem FE{B:aj}(hB:aB B):aG Tryz.prog (xN B):=⟨⟨tc ty4 (tc ty9 (tc iO (ae))),af,by simp only[xN,ioB];omega⟩,aE (cc Tryz.func156 (jC hB) (cc Tryz.func157 (jB hB) (cc Tryz.func158 (kQ hB) (aA)))),by kernel_rfl⟩
def vT:Con:=fun l os=>match l,os with
 | [.z .str s],[]=>some (RF s/\4*s.length<CAP,[.z .str (Lib.itoa (-an s))],[])
 |_,_=>none
theorem Ag{B:aj}(hB:aB B):Valid B Tryz.prog 163 vT:=by
 refine ab (FE hB).tab Tryz.func163 rfl rfl rfl ?_;intro args os C rs os' hc hC;unfold vT at hc;split at hc;case h_2=>cases hc
 rename_i s;cases hc;refine v_h (FE hB) fun X hP hT hr hG=> ?_;have hU:=xN.eq_1;unfold xN at hT;have hX:=ai @cD.eq_1<|ai @fO.eq_1<| @eU.eq_1;simp only[Tryz.f163,aC,al,ioB];refine s_g hG ?_;refine s_q hG ?_ ?_
 ·try simp only[ba]
  have h1:=jw hC.1;have h2:=hC.2;exact⟨hC.1,⟨hC.1,by omega⟩,D.limbs_can _,by omega⟩
 refine ay (q_e [] ?_);exact Ni _
def xO(B:aj):Tab:={types:= [(9,.str)],elems:= [],cons:= [(157,cD)],hint:= [],N:=7,base:=B}
theorem FF{B:aj}(hB:aB B):aG Tryz.prog (xO B):=⟨⟨tc ty9 (ae),af,by simp only[xO,ioB];omega⟩,aE (cc Tryz.func157 (jB hB) (aA)),by kernel_rfl⟩
def ou:Con:=fun l os=>match l,os with
 | [.z .str s],[]=>some (RF s,[.z (.int .i64) (aZ (an s) 0)],[])
 |_,_=>none
theorem Ah{B:aj}(hB:aB B):Valid B Tryz.prog 162 ou:=by
 refine ab (FF hB).tab Tryz.func162 rfl rfl rfl ?_;intro args os C rs os' hc hC;unfold ou at hc;split at hc;case h_2=>cases hc
 rename_i s;cases hc;refine v_h (FF hB) fun X hP hT hr hG=> ?_;have hU:=xO.eq_1;unfold xO at hT;have hX:= @cD.eq_1;simp only[Tryz.f162,aC,al,ioB];refine s_g hG ?_;refine ak (s_g hG ?_);refine ao ?_ ?_
 ·intro hb0;try simp only[bt] at hb0
  refine s_g hG ?_;refine ay (aw ?_);refine q_e [] ?_;exact(te hC).1 hb0
 ·intro hb0;try simp only[bf] at hb0
  refine aq (ah ?_);refine ak (s_q hG ?_ ?_)
  ·(try simp only[ba]);exact hC
  refine ao ?_ ?_;·intro hb1;(try simp only[bt] at hb1);refine s_g hG ?_;refine ay (aw ?_);refine q_e [] ?_;exact(te hC).2.1 hb0 hb1
  ·intro hb1;(try simp only[bf] at hb1);refine aq (ah ?_);refine s_g hG ?_;refine ay (q_e [] ?_);exact(te hC).2.2 hb0 hb1
def xP(B:aj):Tab:={types:= [(3,(.int .i64)),(9,.str),(181,(.slice (.int .i64)))],elems:= [],cons:= [(156,fO),(157,cD),(160,fh),(162,ou)],hint:= [],N:=27,base:=B}
theorem FG{B:aj}(hB:aB B):aG Tryz.prog (xP B):=⟨⟨tc ty3 (tc ty9 (tc iO (ae))),af,by simp only[xP,ioB];omega⟩,aE (cc Tryz.func156 (jC hB) (cc Tryz.func157 (jB hB) (cc Tryz.func160 (uf hB) (cc Tryz.func162 (Ah hB) (aA))))),by kernel_rfl⟩
def FH:Con:=fun l os=>match l,os with
 | [.z .str a,.z .str b],[]=>some ((RF a/\a.length<CAP)/\RF b/\b.length<CAP,[.z (.int .i64) (aZ (an a) (an b))],[])
 |_,_=>none
theorem Mp{B:aj}(hB:aB B):Valid B Tryz.prog 136 FH:=by
 refine ab (FG hB).tab Tryz.func136 rfl rfl rfl ?_;intro args os C rs os' hc hC;unfold FH at hc;split at hc;case h_2=>cases hc
 rename_i a b;cases hc;refine v_h (FG hB) fun X hP hT hr hG=> ?_;have hU:=xP.eq_1;unfold xP at hT;have hX:=ai @fh.eq_1<|ai @cD.eq_1<|ai @fO.eq_1<| @ou.eq_1;simp only[Tryz.f136,aC,al,ioB];refine s_g hG ?_;refine ak (s_q hG ?_ ?_)
 ·try simp only[ba]
  exact⟨hC.1.1,hC.2.1⟩
 refine ao ?_ ?_
 ·intro hb0;try simp only[bt] at hb0
  refine ak (s_q hG ?_ ?_)
  ·(try simp only[ba]);exact⟨hC.1.1,hC.2.1⟩
  refine ao ?_ ?_;·intro hb1;(try simp only[bt] at hb1);refine s_g hG ?_;refine ay (aw ?_);refine aw (q_e [] ?_);exact(zj hb0).1 hb1
  ·intro hb1;(try simp only[bf] at hb1);refine aq (ah ?_);refine s_g hG ?_;refine ay (aw ?_);refine q_e [] ?_;exact(zj hb0).2 hb1
 ·intro hb0;try simp only[bf] at hb0
  refine aq (ah ?_);refine ak (s_q hG ?_ ?_)
  ·(try simp only[ba]);exact hC.1.1
  refine ao ?_ ?_
  ·intro hb2;(try simp only[bt] at hb2);refine s_q hG ?_ ?_
   ·(try simp only[ba]);have h1:=jw hC.1.1;have h2:=jw hC.2.1;have h3:=hC.1.2;have h4:=hC.2.2;exact⟨hC.2,hC.1,D.limbs_can _,D.limbs_can _,by omega,by omega⟩
   refine ay (aw ?_);refine q_e [] ?_;exact(Em hb0).1 hb2
  ·intro hb2;(try simp only[bf] at hb2);refine aq (ah ?_);refine s_q hG ?_ ?_
   ·(try simp only[ba]);have h1:=jw hC.1.1;have h2:=jw hC.2.1;have h3:=hC.1.2;have h4:=hC.2.2;exact⟨hC.1,hC.2,D.limbs_can _,D.limbs_can _,by omega,by omega⟩
   refine ay (q_e [] ?_);exact(Em hb0).2 hb2
def xQ(B:aj):Tab:={types:= [(3,(.int .i64)),(9,.str)],elems:= [],cons:= [(182,E8)],hint:= [],N:=31,base:=B}
theorem FI{B:aj}(hB:aB B):aG Tryz.prog (xQ B):=⟨⟨tc ty3 (tc ty9 (ae)),af,by simp only[xQ,ioB];omega⟩,aE (cc Tryz.func182 (L3 hB) (aA)),by kernel_rfl⟩
def eQ:Con:=fun l os=>match l,os with
 | [.z .str a,.z .str b],[]=>some (RF a/\RF b/\a.length<CAP/\b.length<CAP,[.z (.int .i64) (if a.length<=9/\b.length<=9 then an a else 0),.z (.int .i64) (if a.length<=9/\b.length<=9 then an b else 0),.z .bool (decide (a.length<=9/\b.length<=9))],[])
 |_,_=>none
theorem nr{B:aj}(hB:aB B):Valid B Tryz.prog 155 eQ:=by
 refine ab (FI hB).tab Tryz.func155 rfl rfl rfl ?_;intro args os C rs os' hc hC;unfold eQ at hc;split at hc;case h_2=>cases hc
 rename_i a b;cases hc;refine v_h (FI hB) fun X hP hT hr hG=> ?_;have hU:=xQ.eq_1;unfold xQ at hT;have hX:= @E8.eq_1;simp only[Tryz.f155,aC,al,ioB];refine s_g hG ?_;refine ak (s_q hG ?_ ?_)
 ·try simp only[ba]
  (repeat' (first|apply And.intro|intro _))<;>(try simp only[decide_eq_true_eq,decide_eq_false_iff_not,Bool.not_eq_true',beq_iff_eq,Int.toNat_natCast] at*)<;>first|assumption|omega|trivial|(simp_all;done)|(simp_all;omega)
 refine ao ?_ ?_
 ·intro hb0;simp only[Bool.or_eq_true,decide_eq_true_eq] at hb0;have hl: ¬ (List.length a<=9/\List.length b<=9):=by omega
  refine s_g hG ?_;refine ay (aw ?_);refine q_e [] ?_;rw[if_neg hl,if_neg hl,decide_eq_false hl];exact⟨rfl,rfl,rfl⟩
 ·intro hb0;simp only[Bool.or_eq_false_iff,decide_eq_false_iff_not] at hb0;have hl:List.length a<=9/\List.length b<=9:=by omega
  refine aq (ah ?_);refine s_q hG ?_ ?_
  ·(try simp only[ba]);exact⟨zk hC.1 hl.1,hl.1⟩
  refine s_q hG ?_ ?_
  ·(try simp only[ba]);exact⟨zk hC.2.1 hl.2,hl.2⟩
  refine s_g hG ?_;refine ay (q_e [] ?_);rw[if_pos hl,if_pos hl,decide_eq_true hl];exact⟨rfl,rfl,rfl⟩
def xR(B:aj):Tab:={types:= [(3,(.int .i64))],elems:= [],cons:= [(166,uW)],hint:= [],N:=5,base:=B}
theorem FJ{B:aj}(hB:aB B):aG Tryz.prog (xR B):=⟨⟨tc ty3 (ae),af,by simp only[xR,ioB];omega⟩,aE (cc Tryz.func166 (D5 hB) (aA)),by kernel_rfl⟩
def pG:Con:=fun l os=>match l,os with
 | [.z (.int .i64) n],[]=>some (I64 n,[.z .str (Lib.itoa n)],[])
 |_,_=>none
theorem kR{B:aj}(hB:aB B):Valid B Tryz.prog 126 pG:=by
 refine ab (FJ hB).tab Tryz.func126 rfl rfl rfl ?_;intro args os C rs os' hc hC;unfold pG at hc;split at hc;case h_2=>cases hc
 rename_i n;cases hc;refine v_h (FJ hB) fun X hP hT hr hG=> ?_;have hU:=xR.eq_1;unfold xR at hT;have hX:= @uW.eq_1;simp only[Tryz.f126,aC,al,ioB];refine s_g hG ?_;refine s_q hG ?_ ?_
 ·try simp only[ba]
  exact hC
 refine ay (q_e [] ?_);trivial
def uh(B:aj):Tab:={types:= [(3,(.int .i64)),(181,(.slice (.int .i64)))],elems:= [(181,3)],cons:= [(160,fh),(161,lE),(164,lF),(183,l5)],hint:= [23,31,50],N:=125,base:=B}
theorem FK{B:aj}(hB:aB B):aG Tryz.prog (uh B):=⟨⟨tc ty3 (tc iO (ae)),aQ (by kernel_rfl) (af),by simp only[uh,ioB];omega⟩,aE (cc Tryz.func160 (uf hB) (cc Tryz.func161 (Ab hB) (cc Tryz.func164 (Ac hB) (cc Tryz.func183 (np hB) (aA))))),by kernel_rfl⟩
def jD:Con:=fun l os=>match l,os with
 | [.z (.slice (.int .i64)) a,.z (.slice (.int .i64)) b],[]=>some (D.Cano a/\D.Cano b/\b≠ []/\a.length+b.length+2<CAP,[.z (.slice (.int .i64)) (D.limbs (D.valL a/D.valL b).toNat),.z (.slice (.int .i64)) (D.limbs (D.valL a%D.valL b).toNat)],[])
 |_,_=>none
set_option maxHeartbeats 1000000 in
theorem Ai{B:aj}(hB:aB B):Valid B Tryz.prog 165 jD:=by
 refine ab (FK hB).tab Tryz.func165 rfl rfl rfl ?_;intro args os C rs os' hc hC;unfold jD at hc;split at hc;case h_2=>cases hc
 rename_i a b;cases hc;refine v_h (FK hB) fun X hP hT hr hG=> ?_;have hU:=uh.eq_1;unfold uh at hT;have hX:=ai @fh.eq_1<|ai @l5.eq_1<|ai @lE.eq_1<| @lF.eq_1;simp only[Tryz.f165,aC,al,ioB];refine s_g hG ?_;refine cd (fun(z:Nat)=>(⟨[(0,.l (.z (.slice (.int .i64)) a)),(1,.l (.z (.slice (.int .i64)) b)),(6,.l (.z (.int .i64) (z:Int)))],[]⟩:aa)) (fun z=>b.length=z+1) ?_ ?_
 ·refine ag hG ?_ ?_;·first|trivial|omega|(simp;done)|(simp;omega)
  show ∃ z,_;refine q_l ?_;exact D.len_pred hC.2.2.1 hC.2.2.2
 rintro n hn;try dsimp only at hn
 obtain⟨c1,c2,c3,c4⟩:=hC;have c4:List.length a+List.length b+2<1000000000000:=c4;have hp:=(D.valL_pos c2).2 c3;have hwn:IntKind.i64.wrap ((n:Int)-1)=(n:Int)-1:=wo;refine ak (s_g hG ?_);refine ao ?_ ?_
 ·intro hb0;try simp only[decide_eq_true_eq] at hb0
  refine s_q hG ?_ ?_
  ·(try simp only[ba]);unfold Cm.Roomy;omega
  refine ay (aw ?_);refine q_e [23] ?_;exact D.div_small c1 c2 c3 hn (by omega)
 ·intro hb0;simp only[decide_eq_false_iff_not] at hb0;have hwl:IntKind.i64.wrap ((List.length a:Int)-(n:Int))=((List.length a-n:Nat):Int):=by rw[wo];omega
  refine aq (ah ?_);refine s_q hG ?_ ?_
  ·(try simp only[ba]);rw[hwl];exact⟨by omega,by omega,by unfold Cm.Roomy;omega⟩
  refine s_q hG ?_ ?_
  ·(try simp only[ba]);rw[hwl,Int.toNat_natCast,Int.toNat_natCast,List.take_length,List.length_drop];exact⟨⟨by omega,by omega,Int.le_refl _⟩,by unfold Cm.Roomy;omega⟩
  refine ak (s_g hG ?_);refine av (JB [31] (by simp only[hT,uh,mr0,mr1,mr2,jG,Nat.reduceLT,Nat.reduceEqDiff,Nat.reduceAdd,Nat.reduceMul,Nat.reduceSub,Nat.reduceLeDiff,Nat.reduceBEq,Nat.reduceBNe,reduceIte,reduceDIte,reduceCtorEq];rfl) ?_);refine bj (fun(z:Nat×List Int×List Int)=>(⟨[(0,.l (.z (.slice (.int .i64)) a)),(1,.l (.z (.slice (.int .i64)) b)),(6,.l (.z (.int .i64) (n:Int))),(7,.l (.ownS 30)),(8,.l (.z (.slice (.int .i64)) z.2.2)),(9,.l (.z (.int .i64) ((z.1:Int)-1)))],[(30,.arr (.int .i64) 3 z.2.1)]⟩:aa)) (fun z=>D.DivPhi a b z.1 z.2.1 z.2.2) (fun z=>z.1) (List.length a-n,List.replicate (List.length a-n) 0,List.drop (List.length a-n) a) ?_ ?_ ?_;·refine q_l ?_;rw[hwl,Int.toNat_natCast,Int.toNat_natCast,List.take_length,List.length_replicate];exact⟨rfl,wo,rfl⟩
  ·exact D.div_start c1 c2 c3 hn (by omega)
  ·rintro⟨k,q,rest⟩ hz;(try dsimp only at hz);have hz1:=hz.hk;have hz2:=hz.hq;refine ak (s_g hG ?_);refine ao ?_ ?_
   ·intro hb1;(try simp only[decide_eq_true_eq] at hb1);obtain⟨i,rfl⟩:∃ i,k=i+1:=⟨k-1,by omega⟩;(have ei:((i+1:Nat):Int)-1=(i:Int):=by omega);rw[ei];have hrsl:=D.rest_len c2 c3 hz.hr;refine aq (ah ?_);refine ak (av ?_);refine cd (fun(z:Unit)=>(⟨[(0,.l (.z (.slice (.int .i64)) a)),(1,.l (.z (.slice (.int .i64)) b)),(6,.l (.z (.int .i64) (n:Int))),(7,.l (.ownS 30)),(8,.l (.z (.slice (.int .i64)) (D.limbs (D.R1 a b i).toNat))),(9,.l (.z (.int .i64) (i:Int)))],[(30,.arr (.int .i64) 3 q)]⟩:aa)) (fun z=>True) ?_ ?_
    ·refine ag hG ?_ ?_
     ·(try simp only[ba]);exact⟨⟨by omega,by omega⟩,by unfold Cm.Roomy;omega,(D.cons_limbs c1.1 hp hz.hr).1,by unfold CAP;omega⟩
     show ∃ z,_;refine q_l ?_;rw[D.nth64,(D.cons_limbs c1.1 hp hz.hr).2]
    (rintro⟨⟩ hu;(try dsimp only at hu);have hrl:=D.r1_len (i:=i) c1.1 c2 c3 hn;have hrf:=D.r1_facts (i:=i) c1.1 hp;have hrc:=D.limbs_can (D.R1 a b i).toNat;have hdn:=D.div_next (d:=(D.R1 a b i/D.valL b)) c1.1 c2 c3 hz rfl;refine s_g hG ?_;refine ak (s_g hG ?_);refine av (bj (fun(z:Nat×Int×Int)=>(⟨[(0,.l (.z (.slice (.int .i64)) a)),(1,.l (.z (.slice (.int .i64)) b)),(6,.l (.z (.int .i64) (n:Int))),(7,.l (.ownS 30)),(8,.l (.z (.slice (.int .i64)) (D.limbs (D.R1 a b i).toNat))),(9,.l (.z (.int .i64) (i:Int))),(10,.l (.z (.int .i64) z.2.1)),(11,.l (.z (.int .i64) z.2.2)),(12,.l (.z (.int .i64) ((z.1:Int)-1)))],[(30,.arr (.int .i64) 3 q)]⟩:aa)) (fun z=>D.TopPhi (D.limbs (D.R1 a b i).toNat) b n z.1 z.2.1 z.2.2) (fun z=>z.1) (n+2,0,0) ?_ ?_ ?_);·refine q_l ?_;rw[wo];show (n:Int)+1=((n+2:Nat):Int)-1;omega);·exact D.top_start hrl hn
    ·rintro⟨j,top,first⟩ hj;(try dsimp only at hj);have hj1:=hj.hj;refine ak (s_g hG ?_);refine ao ?_ ?_
     ·intro hb2;simp only[decide_eq_true_eq] at hb2;rw[hwn] at hb2;obtain⟨j,rfl⟩:∃ j2,j=j2+1:=⟨j-1,by omega⟩;(have ej:((j+1:Nat):Int)-1=(j:Int):=by omega);rw[ej];have htv:=D.top_vals hrc.1 hrl c2.1 hn hj (by omega);refine aq (ah ?_);refine ak (av ?_);refine s_g hG ?_;refine cd (fun(z:Unit)=>(⟨[(0,.l (.z (.slice (.int .i64)) a)),(1,.l (.z (.slice (.int .i64)) b)),(6,.l (.z (.int .i64) (n:Int))),(7,.l (.ownS 30)),(8,.l (.z (.slice (.int .i64)) (D.limbs (D.R1 a b i).toNat))),(9,.l (.z (.int .i64) (i:Int))),(10,.l (.z (.int .i64) top)),(11,.l (.z (.int .i64) (D.valL (List.drop j (D.limbs (D.R1 a b i).toNat))))),(12,.l (.z (.int .i64) (j:Int)))],[(30,.arr (.int .i64) 3 q)]⟩:aa)) (fun z=>True) ?_ ?_
      ·refine s_g hG ?_;refine ao ?_ ?_
       ·intro hb3;(try simp only[bt] at hb3);refine ag hG ?_ ?_
        ·(try simp only[ba]);exact⟨by omega,hb3⟩
        show ∃ z,_;refine q_l ?_;first|(rw[D.nth64,htv.1,htv.2.1];exact htv.2.2.2.2.1)|(rw[htv.1];have h9:=htv.2.2.2.2.1;rw[D.getD_none (by omega),Int.add_zero] at h9;exact h9)
       ·intro hb3;(try simp only[bf] at hb3);refine aq ?_;show ∃ z,_;refine q_l ?_;first|(rw[D.nth64,htv.1,htv.2.1];exact htv.2.2.2.2.1)|(rw[htv.1];have h9:=htv.2.2.2.2.1;rw[D.getD_none (by omega),Int.add_zero] at h9;exact h9)
      rintro⟨⟩ hu2;(try dsimp only at hu2);refine s_g hG ?_;refine ao ?_ ?_
      ·intro hb4;(try simp only[bt] at hb4);refine ag hG ?_ ?_
       ·(try simp only[ba]);exact⟨by omega,by omega⟩
       (refine aI (ah ?_);refine ag hG ?_ ?_;·first|trivial|omega|(simp;done)|(simp;omega));show ∃ z,_;refine q_l ?_;first|exact⟨j,wo,⟨by omega,by rw[D.nth64,htv.2.2.1,htv.2.2.2.1];exact htv.2.2.2.2.2.1 (by omega),rfl⟩,by omega⟩|exact⟨j,wo,⟨by omega,htv.2.2.2.2.2.2 (by omega),rfl⟩,by omega⟩
      ·(intro hb4;(try simp only[bf] at hb4);refine aq (aI ?_);refine ah (ag hG ?_ ?_);·first|trivial|omega|(simp;done)|(simp;omega));show ∃ z,_;refine q_l ?_;first|exact⟨j,wo,⟨by omega,by rw[D.nth64,htv.2.2.1,htv.2.2.2.1];exact htv.2.2.2.2.2.1 (by omega),rfl⟩,by omega⟩|exact⟨j,wo,⟨by omega,htv.2.2.2.2.2.2 (by omega),rfl⟩,by omega⟩
     ·intro hb2;simp only[decide_eq_false_iff_not] at hb2;rw[hwn] at hb2;(obtain rfl:j=n-1:=by omega);obtain⟨hs1,hs2,hs3,hs4,hs5⟩:=D.half_start c1.1 c2 c3 hn hj.ht hj.hf;have hqf:=D.quo_facts hs1 hs2 hs3 hs4;refine bd (aD ?_);refine az (ax ?_);refine ah (cd (fun(z:Unit)=>(⟨[(0,.l (.z (.slice (.int .i64)) a)),(1,.l (.z (.slice (.int .i64)) b)),(6,.l (.z (.int .i64) (n:Int))),(7,.l (.ownS 30)),(8,.l (.z (.slice (.int .i64)) (D.limbs (D.R1 a b i).toNat))),(9,.l (.z (.int .i64) (i:Int))),(13,.l (.z (.int .i64) (first/(top+1)))),(14,.l (.z (.int .i64) (first/top)))],[(30,.arr (.int .i64) 3 q)]⟩:aa)) (fun z=>True) ?_ ?_)
      ·refine gB hG ?_ ?_
       ·(try simp only[ba]);rw[hqf.1];exact⟨hqf.2.1,hqf.2.2.1⟩
       show ∃ z,_;refine q_l ?_;rw[hqf.1];exact⟨hqf.2.2.2.1,hqf.2.2.2.2⟩
      (rintro⟨⟩ hu3;(try dsimp only at hu3);refine ak (av ?_);refine bj (fun(z:Int×Int)=>(⟨[(0,.l (.z (.slice (.int .i64)) a)),(1,.l (.z (.slice (.int .i64)) b)),(6,.l (.z (.int .i64) (n:Int))),(7,.l (.ownS 30)),(8,.l (.z (.slice (.int .i64)) (D.limbs (D.R1 a b i).toNat))),(9,.l (.z (.int .i64) (i:Int))),(13,.l (.z (.int .i64) z.1)),(14,.l (.z (.int .i64) z.2))],[(30,.arr (.int .i64) 3 q)]⟩:aa)) (fun z=>D.HalfPhi (D.R1 a b i/D.valL b) z.1 z.2) (fun z=>(z.2-z.1).toNat) (first/(top+1),first/top) ?_ ?_ ?_;·simp only[ml0,ml1,Nat.reduceLT,Nat.reduceEqDiff,Nat.reduceAdd,Nat.reduceMul,Nat.reduceSub,Nat.reduceLeDiff,Nat.reduceBEq,Nat.reduceBNe,reduceIte,reduceDIte,reduceCtorEq]);·exact hs5
      ·rintro⟨low,high⟩ hh;(try dsimp only at hh);refine ak (s_g hG ?_);refine ao ?_ ?_
       ·intro hb5;(try simp only[decide_eq_true_eq] at hb5);have hhm:=D.half_mid hh hb5;refine aq (ah ?_);refine av (cd (fun(z:Int)=>(⟨[(0,.l (.z (.slice (.int .i64)) a)),(1,.l (.z (.slice (.int .i64)) b)),(6,.l (.z (.int .i64) (n:Int))),(7,.l (.ownS 30)),(8,.l (.z (.slice (.int .i64)) (D.limbs (D.R1 a b i).toNat))),(9,.l (.z (.int .i64) (i:Int))),(13,.l (.z (.int .i64) low)),(14,.l (.z (.int .i64) high)),(15,.l (.z (.int .i64) z))],[(30,.arr (.int .i64) 3 q)]⟩:aa)) (fun z=>z=(low+high+1)/2) ?_ ?_)
        ·refine ag hG ?_ ?_
         ·(try simp only[ba]);decide
         show ∃ z,_;refine q_l ?_;exact hhm.1
        rintro mid hmid;(try dsimp only at hmid);(have hmm:low<mid/\mid<=high:=by rw[hmid];exact⟨hhm.2.1,hhm.2.2.1⟩);have hm0:0<=mid:=Int.le_trans hh.h0 (Int.le_of_lt hmm.1);have hmB:mid<=D.LB:=Int.le_trans hmm.2 hh.h3;have hht:=D.half_test (v:=D.R1 a b i) (mid:=mid) c2.1 hp hrf.1 hm0;have hol:=D.one_len c2.1 hm0 hmB;refine s_q hG ?_ ?_
        ·(try simp only[ba]);exact⟨⟨c2.1,D.wid_one hm0 hmB,by unfold CAP;omega⟩,D.limbs_can _,hrc,by unfold CAP;omega,by unfold CAP;omega⟩
        refine ao ?_ ?_
        ·(intro hb6;(try simp only[bt] at hb6);refine ag hG ?_ ?_;·first|trivial|omega|(simp;done)|(simp;omega));refine aI ?_;show ∃ z,_;refine q_l ?_;first|exact D.half_up hh hmm (hht.1 hb6)|(rw[show IntKind.i64.wrap (mid-1)=mid-1 by rw[hmid];exact hhm.2.2.2];exact D.half_down hh hmm (fun h=>hb6 (hht.2 h)))
        ·(intro hb6;(try simp only[bf] at hb6);refine ag hG ?_ ?_;·first|trivial|omega|(simp;done)|(simp;omega));refine aI ?_;show ∃ z,_;refine q_l ?_;first|exact D.half_up hh hmm (hht.1 hb6)|(rw[show IntKind.i64.wrap (mid-1)=mid-1 by rw[hmid];exact hhm.2.2.2];exact D.half_down hh hmm (fun h=>hb6 (hht.2 h)))
       ·intro hb5;simp only[decide_eq_false_iff_not] at hb5;have hle:=D.half_end hh hb5;subst hle;have hol:=D.one_len c2.1 hdn.1 (Int.le_of_lt hdn.2.1);have hrm:=D.rest_minus (i:=i) c1.1 c2 c3;refine bd (aD ?_);refine az (ax ?_);refine ah (s_q hG ?_ ?_)
        ·(try simp only[ba]);exact⟨⟨by omega,by omega⟩,by omega⟩
        refine s_g hG ?_;refine ao ?_ ?_
        ·intro hb7;(try simp only[bt] at hb7);refine ag hG ?_ ?_
         ·(try simp only[ba]);exact⟨⟨c2.1,D.wid_one hdn.1 (Int.le_of_lt hdn.2.1),by unfold CAP;omega⟩,hrc,D.limbs_can _,hrm.1,by unfold CAP;omega⟩
         (refine aI (ah ?_);refine ag hG ?_ ?_;·first|trivial|omega|(simp;done)|(simp;omega));show ∃ z,_;refine q_l ?_;have hdx:=hdn.2.2;first|(rw[<- hrm.2] at hdx;exact⟨i,wo,by rw[Int.toNat_natCast];exact hdx,by omega⟩)|(rw[<- D.rest_zero c1.1 c2 c3 hb7] at hdx;exact⟨i,wo,by rw[Int.toNat_natCast];exact hdx,by omega⟩)
        ·(intro hb7;(try simp only[bf] at hb7);refine aq (aI ?_);refine ah (ag hG ?_ ?_);·first|trivial|omega|(simp;done)|(simp;omega));show ∃ z,_;refine q_l ?_;have hdx:=hdn.2.2;first|(rw[<- hrm.2] at hdx;exact⟨i,wo,by rw[Int.toNat_natCast];exact hdx,by omega⟩)|(rw[<- D.rest_zero c1.1 c2 c3 hb7] at hdx;exact⟨i,wo,by rw[Int.toNat_natCast];exact hdx,by omega⟩)
   ·intro hb1;simp only[decide_eq_false_iff_not] at hb1;(obtain rfl:k=0:=by omega);have hde:=D.div_end hz;refine bd (aD ?_);refine az (ax ?_);refine ah (s_q hG ?_ ?_)
    ·(try simp only[ba]);exact⟨hz.hl,by unfold CAP;omega⟩
    refine ay (q_e [23] ?_);exact hde
end Go.Proofs.YtdojbabpnaifoaaGreatDoor
end