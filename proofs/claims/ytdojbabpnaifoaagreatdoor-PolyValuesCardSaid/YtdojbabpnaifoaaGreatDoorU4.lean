/- Merged by a program out of several texts. -/
import Derived.Test.YtdojbabpnaifoaaGreatDoorU3
import Derived.Test.YtdojbabpnaifoaaGreatDoorU2
import Derived.Laws.CopyOwn
import Derived.Deep.RegionLaw
import Derived.Shelf.Strings.Builder2
import Derived.Shelf.Small.Wraps
import Derived.Shelf.Strings.BuilderK
import Derived.Shelf.Strings.Builder2Cap
import Derived.Shelf.Strconv.Atoi
import Derived.Shelf.Strconv.Itoa3
import Derived.Shelf.Strconv.AtoiErrFast
import Derived.Shelf.Strconv.ParseIntEmpty
import Derived.Shelf.Strconv.AtoiFail
import Derived.Shelf.Strconv.Clone
import Derived.Shelf.Strconv.SyntaxError
import Derived.Shelf.Strconv.Lower
import Derived.Shelf.Strconv.ParseUint10
import Derived.Shelf.Strconv.ParseUint10Empty
import Derived.Shelf.Strconv.RangeError
import Derived.Shelf.Strconv.ParseUintEmpty
import Derived.Shelf.Strconv.ParseUint10b64
import Derived.Shelf.Strconv.ParseUint10b32
import Derived.Shelf.Strconv.ParseUint10b16
import Derived.Shelf.Strconv.ParseUint10b8
import Derived.Shelf.Strings.Search1
import Derived.Shelf.Strings.Search2
import Derived.Shelf.Strings.Cut
import Derived.Shelf.Strings.Shaped
import Derived.Shelf.Bits.Mul64
import Derived.Shelf.Strings.Repeat
import Derived.Test.YtdojbabpnaifoaaGreatDoorProg
import Derived.WalkKit
import Derived.BigQuiet
import Derived.Shelf.Abstract
import Derived.RangeFuncBox
import Derived.OwnWalkIn
import Derived.TacticsInMore
import Derived.LoopNIn
import Derived.LoopIn
set_option linter.all false
set_option linter.unusedSimpArgs false
set_option linter.unusedVariables false
set_option maxRecDepth 100000
section
namespace Go.Cm
open Go.Proofs
theorem df(l:List Rat):(aT l).length<=l.length:=by
 induction l with
 |nil=>simp[aT]
 |cons x l ih=>
  simp only[aT];split;·split<;>simp
  ·rename_i y m h;rw[h] at ih;simp only[List.length_cons] at ih ⊢;omega
theorem pC{l:List Rat}(h:0<l.length)(h0:aK l=0):(aT l).length<l.length:=by
 rw[mP (List.length_pos_iff.1 h) h0];have:=df l.dropLast;rw[List.length_dropLast] at this;omega
theorem eI(q r:List Rat):(cl q r).length=r.length:=iB _ _ _ _ _
theorem xE{q r:List Rat}(hq:0<q.length)(h:q.length<=r.length)(h0:aK q≠0):aK (cl q r)=0:=by
 rw[b7 (by rw[eI];omega),eI];unfold cl;rw[kg _ _ _ _ _ _ (by omega),if_pos (by omega),show r.length-1-(r.length-q.length)=q.length-1 by omega,<- b7 hq,<- b7 (by omega)];grind
theorem fo{q r:List Rat}(hq:0<q.length)(h:q.length<=r.length)(h0:aK q≠0):(aT (cl q r)).length<r.length:=by
 have:=pC (l:=cl q r) (by rw[eI];omega) (xE hq h h0);rwa [eI] at this
structure DivPhi (p q:List ND) (n:Nat) (r s:List Rat):Prop where
 eq:eQ (ar q) n r s=divN (ar p) (ar q)
 fuel:r.length<n
 safe:ua (ar q) n r
 lr:r.length<=p.length
 ls:s.length=p.length+1-q.length
theorem div_start{p q:List ND}(h:fY p q):DivPhi p q (p.length+1) (ar p) (List.replicate (p.length+1-q.length) 0):=by
 refine⟨?_,by rw[aM];omega,h.safe,by rw[aM];exact Nat.le_refl _,by simp⟩;unfold divN;rw[aM,aM]
theorem fY.enc{p q:List ND}(h:fY p q):aI (ar p)=p:=by
 simp only[ar,aI,List.map_map];conv=>rhs;rw[<- List.map_id p]
 exact List.map_congr_left fun x hx=>h.hp x hx
theorem DivPhi.bound{p q:List ND}{n:Nat}{r s:List Rat}(h:DivPhi p q n r s):∀ x∈r,lq x<=QD:=by
 have h1:=h.safe;have h2:=h.fuel;match n,h1 with
 |n+1,h1=>exact h1.1
theorem div_next{p q:List ND}{n:Nat}{r s:List Rat}(ho:fY p q)(h:DivPhi p q n r s)(hl:q.length<=r.length):
  ∃ m,DivPhi p q m (aT (cl (ar q) r)) (s.set (r.length-q.length) (aK r/aK (ar q))):=by
 have h2:=h.fuel;have h1:=h.safe;have he:=h.eq;have hs:=fo (q:=ar q) (r:=r) (by rw[aM];exact ho.h0) (by rw[aM];exact hl) ho.hl;match n,h1,he,h2 with
 |n+1,h1,he,h2=>
  rw[eQ,if_pos (by rw[aM];exact hl),aM] at he;exact⟨n,he,by omega,h1.2 (by rw[aM];exact hl),by have:=h.lr;omega,by rw[List.length_set];exact h.ls⟩
theorem div_end{p q:List ND}{n:Nat}{r s:List Rat}(h:DivPhi p q n r s)(hl: ¬q.length<=r.length):(s,r)=divN (ar p) (ar q):=by
 have h2:=h.fuel;have he:=h.eq;match n,he,h2 with
 |n+1,he,h2=>
  rw[eQ,if_neg (by rw[aM];exact hl)] at he;exact he
theorem Dn{l:List Rat}{k:Nat}(hk:k<l.length):nth NT (aI l) (k:Int)=bj (cf l k):=by
 rw[pZ hk];unfold cf;rw[List.getD_eq_getElem?_getD,List.getElem?_eq_getElem hk];rfl
theorem NJ{l:List Rat}(h:0<l.length)(hl:l.length<=1000000000):nth NT (aI l) (IntKind.i64.wrap (((aI l).length:Int)-1))=bj (aK l):=by
 rw[aF,cb hl,show (l.length:Int)-1=((l.length-1:Nat):Int) by omega,Dn (by omega),<- b7 h]
theorem Qo{p q:List ND}{n:Nat}{r s:List Rat}(ho:fY p q)(h:DivPhi p q n r s)(hl:q.length<=r.length):IntKind.i64.wrap (((aI r).length:Int)-(q.length:Int))=((r.length-q.length:Nat):Int):=by
 have h1:=h.lr;have h2:=ho.l1;rw[aF,wi (by omega) (by omega)];omega
theorem Qp{p q:List ND}{n:Nat}{r s:List Rat}(ho:fY p q)(h:DivPhi p q n r s)(hl:q.length<=r.length):
  (0<=IntKind.i64.wrap (((aI r).length:Int)-1)/\IntKind.i64.wrap (((aI r).length:Int)-1)<((aI r).length:Int))/\(IntKind.i64.wrap (((aI r).length:Int)-1)).toNat<(aI r).length/\
  (0<=IntKind.i64.wrap ((q.length:Int)-1)/\IntKind.i64.wrap ((q.length:Int)-1)<(q.length:Int))/\nth NT (aI r) (IntKind.i64.wrap (((aI r).length:Int)-1))=bj (aK r)/\nth NT q (IntKind.i64.wrap ((q.length:Int)-1))=bj (aK (ar q))/\
  eO (bj (aK r)) (bj (aK (ar q))):=by
 have h1:=h.lr;have h2:=ho.l1;have h3:=ho.h0;have h4:=ho.l2;have e:QD=10000000000:=rfl;have e2:QC=100000000000:=rfl;have hb:=kz h.bound (by omega) (r.length-1);rw[<- b7 (by omega)] at hb;have hc:=p6 ho.hq (by omega) h3;have hw:IntKind.i64.wrap (((aI r).length:Int)-1)=(r.length:Int)-1:=by rw[aF,cb (by omega)]
 refine⟨by rw[hw,aF];omega,by rw[hw,aF];omega,by rw[cb (by omega)];omega,NJ (by omega) (by omega),zW ho.hq h3 (by omega),bL _,bL _,?_⟩;rw[aH,aH];omega
theorem K1{p q:List ND}{n:Nat}{r s:List Rat}(ho:fY p q)(h:DivPhi p q n r s)(hl:q.length<=r.length){i:Nat}(hi:i<q.length):
  IntKind.i64.wrap (((r.length-q.length:Nat):Int)+(i:Int))=((r.length-q.length+i:Nat):Int)/\r.length-q.length+i<(aI (cu r (r.length-q.length) (-(aK r/aK (ar q))) (ar q) i)).length/\nth NT q (i:Int)=bj (cf (ar q) i)/\
  nth NT (aI (cu r (r.length-q.length) (-(aK r/aK (ar q))) (ar q) i)) ((r.length-q.length+i:Nat):Int)=bj (cf (cu r (r.length-q.length) (-(aK r/aK (ar q))) (ar q) i) (r.length-q.length+i))/\
  eO (bj (aK r/aK (ar q))) (bj (cf (ar q) i))/\eO (bj (cf (cu r (r.length-q.length) (-(aK r/aK (ar q))) (ar q) i) (r.length-q.length+i))) (bj (aK r/aK (ar q)*cf (ar q) i)):=by
 have h1:=h.lr;have h2:=ho.l1;have h3:=ho.h0;have h4:=ho.l2;have e:QD=10000000000:=rfl;have e2:QC=100000000000:=rfl;have hb:=kz h.bound (by omega) (r.length-1);rw[<- b7 (by omega)] at hb;have hc:=p6 ho.hq (by omega) h3;have hd:=xw (aK r) (aK (ar q));have hqi:=ho.hq.cf (by omega) i;have hm:=kX (aK r/aK (ar q)) (cf (ar q) i);have hrow:=xC (out:=r) (i:=r.length-q.length) (a:= -(aK r/aK (ar q))) (q:=ar q) (k:=i) (m:=QD) (K:=2*QD) (by omega) h.bound (by omega) (by rw[xv];omega) (fun n=>Nat.le_trans (ho.hq.cf (by omega) n) (by omega));have hlen:(cu r (r.length-q.length) (-(aK r/aK (ar q))) (ar q) i).length=r.length:=iB _ _ _ _ _;have hcur:lq (cf (cu r (r.length-q.length) (-(aK r/aK (ar q))) (ar q) i) (r.length-q.length+i))<=QD:=by
  rw[kg _ _ _ _ _ _ (by omega),if_neg (by omega)];exact kz h.bound (by omega) _
 refine⟨by rw[wi (by omega) (by omega)];omega,by rw[aF,hlen];omega,fX ho.hq hi,Dn (by rw[hlen];omega),⟨bL _,bL _,by rw[aH,aH];omega⟩,bL _,bL _,by rw[aH,aH];omega⟩
theorem NK(r:List Rat)(k:Nat)(c:Rat)(q:List Rat)(i:Nat):(aI (cu r k (-c) q i)).set (k+i) (bj (cf (cu r k (-c) q i) (k+i)-c*cf q i))=aI (cu r k (-c) q (i+1)):=by
 rw[tW,cu,Rat.sub_eq_add_neg,Rat.neg_mul]
theorem K2{p q:List ND}{n:Nat}{r s:List Rat}(ho:fY p q)(h:DivPhi p q n r s)(hl:q.length<=r.length):Sz QC (aI (cl (ar q) r))/\(aI (cl (ar q) r)).length<=QL:=by
 have h1:=h.lr;have h2:=ho.l1;have h3:=ho.h0;have h4:=ho.l2;have e:QD=10000000000:=rfl;have e2:QC=100000000000:=rfl;have hb:=kz h.bound (by omega) (r.length-1);rw[<- b7 (by omega)] at hb;have hc:=p6 ho.hq (by omega) h3;have hd:=xw (aK r) (aK (ar q));refine⟨fW fun x hx=> ?_,by rw[aF,eI];unfold QL;omega⟩;have hrow:=xC (out:=r) (i:=r.length-(ar q).length) (a:= -(aK r/aK (ar q))) (q:=ar q) (k:=(ar q).length) (m:=QD) (K:=2*QD) (by rw[aM];omega) h.bound (by omega) (by rw[xv];omega) (fun n=>Nat.le_trans (ho.hq.cf (by omega) n) (by omega)) x hx;omega
theorem K3{p q:List ND}{n:Nat}{r s:List Rat}(ho:fY p q)(h:DivPhi p q n r s)(hl:q.length<=r.length):
  IntKind.i64.wrap (((aI r).length:Int)-1)=((r.length-1:Nat):Int)/\IntKind.i64.wrap ((q.length:Int)-1)=((q.length-1:Nat):Int)/\nth NT (aI r) ((r.length-1:Nat):Int)=bj (aK r)/\nth NT q ((q.length-1:Nat):Int)=bj (aK (ar q))/\eO (bj (aK r)) (bj (aK (ar q))):=by
 have h1:=h.lr;have h2:=ho.l1;have h3:=ho.h0;have h4:=ho.l2;obtain⟨_,_,_,_,_,h5⟩:=Qp ho h hl;refine⟨by rw[aF,cb (by omega)];omega,by rw[cb (by omega)];omega,?_,?_,h5⟩;·rw[Dn (by omega),<- b7 (by omega)]
 ·rw[fX ho.hq (by omega),b7 (by rw[aM];omega),aM]
theorem PK{p q:List ND}(ho:fY p q):max 0 (IntKind.i64.wrap (IntKind.i64.wrap ((p.length:Int)-(q.length:Int))+1))=((p.length+1-q.length:Nat):Int)/\(0:Int)<=((p.length+1-q.length:Nat):Int)/\((p.length+1-q.length:Nat):Int)<=1000:=by
 have h2:=ho.l1;have h4:=ho.l2;rw[wi (x:=(p.length:Int)-(q.length:Int)) (by omega) (by omega),wi (by omega) (by omega)];omega
theorem xF{p q:List ND}{n:Nat}{r s:List Rat}(ho:fY p q)(h:DivPhi p q n r s)(hl:q.length<=r.length):(0:Int)<=((r.length-q.length:Nat):Int)/\((r.length-q.length:Nat):Int)<((aI s).length:Int)/\r.length-q.length<(aI s).length:=by
 have h1:=h.lr;have h2:=h.ls;rw[aF,h2];omega
theorem HD{p q:List ND}{n:Nat}{r s:List Rat}(ho:fY p q)(h:DivPhi p q n r s)(hl:q.length<=r.length):((0:Int)<=((r.length-1:Nat):Int)/\((r.length-1:Nat):Int)<((aI r).length:Int))/\r.length-1<(aI r).length/\((0:Int)<=((q.length-1:Nat):Int)/\((q.length-1:Nat):Int)<(q.length:Int))/\eO (bj (aK r)) (bj (aK (ar q)))/\bc (bj (aK (ar q)))≠0:=by
 have h3:=ho.h0;obtain⟨_,_,_,_,h5⟩:=K3 ho h hl;rw[aF,aH];exact⟨by omega,by omega,by omega,h5,ho.hl⟩
theorem HE{p q:List ND}{n:Nat}{r s:List Rat}(ho:fY p q)(h:DivPhi p q n r s)(hl:q.length<=r.length){i:Nat}(hi:i<q.length):((0:Int)<=((r.length-q.length+i:Nat):Int)/\((r.length-q.length+i:Nat):Int)<((aI (cu r (r.length-q.length) (-(aK r/aK (ar q))) (ar q) i)).length:Int))/\r.length-q.length+i<(aI (cu r (r.length-q.length) (-(aK r/aK (ar q))) (ar q) i)).length/\
  eO (bj (aK r/aK (ar q))) (bj (cf (ar q) i))/\eO (bj (cf (cu r (r.length-q.length) (-(aK r/aK (ar q))) (ar q) i) (r.length-q.length+i))) (bj (aK r/aK (ar q)*cf (ar q) i))/\((0:Int)<=((r.length-q.length+i:Nat):Int)/\((r.length-q.length+i:Nat):Int)<((aI (cu r (r.length-q.length) (-(aK r/aK (ar q))) (ar q) i)).length:Int))/\r.length-q.length+i<(aI (cu r (r.length-q.length) (-(aK r/aK (ar q))) (ar q) i)).length:=by
 obtain⟨_,h2,_,_,h5,h6⟩:=K1 ho h hl hi;exact⟨⟨by omega,by omega⟩,h2,h5,h6,⟨by omega,by omega⟩,h2⟩
theorem K4{p q:List ND}{n:Nat}{r s:List Rat}(ho:fY p q){i:Nat}(hi:i<q.length):∃ z:Nat,IntKind.i64.wrap ((i:Int)+1)=(z:Int)/\aI (cu r (r.length-q.length) (-(aK r/aK (ar q))) (ar q) (i+1))=aI (cu r (r.length-q.length) (-(aK r/aK (ar q))) (ar q) z)/\z<=q.length/\q.length-z<q.length-i:=by
 have h4:=ho.l2;exact⟨i+1,by rw[wi (by omega) (by omega)];omega,rfl,by omega,by omega⟩
theorem EP{p q:List ND}{n:Nat}{r s:List Rat}{i:Nat}(hi:i=q.length):cu r (r.length-q.length) (-(aK r/aK (ar q))) (ar q) i=cl (ar q) r:=by
 unfold cl;rw[aM,hi]
def eu:Nat->List Rat->List Rat->List Rat
 |0,p,_=>cU p
 |n+1,p,q=>if q= [] then cU p else eu n q (cU (divN p q).2)
def cw(p q:List Rat):List Rat:=eu (q.length+1) p q
def Trm(l:List Rat):Prop:=l≠ []->aK l≠0
def uc:Nat->List Rat->List Rat->Prop
 |0,_,_=>True
 |n+1,p,q=>if q= [] then ∀ x∈p,lq x<=QH else ua q (p.length+1) p/\(∀ x∈q,lq x<=QD)/\(∀ x∈(divN p q).2,lq x<=QH)/\uc n q (cU (divN p q).2)
theorem k9:∀ l:List Rat,Trm (aT l)
 | []=>fun h=>absurd rfl h
 |x::l=>by
  intro h;have ih:=k9 l;simp only[aT] at h ⊢;split
  ·(rename_i hl;rw[hl] at h;split;·rename_i hx;simp only[hx,if_true,ne_eq,not_true] at h);·rename_i hx;simpa [aK] using hx
  ·rename_i y m hl;rw[hl] at ih;have:=ih (by simp);simpa [aK] using this
theorem ud(q:List Rat):∀ (n:Nat) (r s:List Rat),Trm r->Trm (eQ q n r s).2
 |0,r,s,h=>h
 |n+1,r,s,h=>by
  rw[eQ];split;·exact ud q n _ _ (k9 _)
  ·exact h
theorem jI{p q:List Rat}(h:Trm p):Trm (divN p q).2:=ud _ _ _ _ h
theorem pD{q:List Rat}(hq:0<q.length)(h0:aK q≠0):∀ (n:Nat) (r s:List Rat),r.length<n->(eQ q n r s).2.length<q.length
 |0,r,s,h=>absurd h (by omega)
 |n+1,r,s,h=>by
  rw[eQ];split;·rename_i hl;have:=fo hq hl h0;exact pD hq h0 n _ _ (by omega)
  ·rename_i hl;simp only;omega
theorem gv{p q:List Rat}(hq:0<q.length)(h0:aK q≠0):(divN p q).2.length<q.length:=pD hq h0 _ _ _ (Nat.lt_succ_self _)
theorem b5(l:List Rat):(cU l).length=l.length:=by simp[cU]
theorem Do{l:List Rat}(h:0<l.length):aK (cU l)=aK l/aK l:=by
 rw[b7 (by rw[b5];exact h),b5];conv=>rhs;arg 1;rw[b7 h]
 unfold cU cf;simp only[List.getD_eq_getElem?_getD,List.getElem?_map];rw[List.getElem?_eq_getElem (by omega)];rfl
theorem il{l:List Rat}(h:Trm l):Trm (cU l):=by
 intro hne;have hl:0<l.length:=by rw[<- b5];exact List.length_pos_iff.2 hne
 have h1:=h (List.length_pos_iff.1 hl);rw[Do hl];grind
structure iY (p q:List ND):Prop where
 hp:∀ x∈p,NOK x
 hq:∀ x∈q,NOK x
 l1:p.length<=900
 l2:q.length<=900
 tp:Trm (ar p)
 tq:Trm (ar q)
 safe:uc (q.length+1) (ar p) (ar q)
structure ue (p q:List ND) (n:Nat) (a b:List Rat):Prop where
 eq:eu n a b=cw (ar p) (ar q)
 fuel:b.length<n
 safe:uc n a b
 ta:Trm a
 tb:Trm b
 la:a.length<=900
 lb:b.length<=900
theorem xG{p:List ND}(h:∀ x∈p,NOK x):aI (ar p)=p:=by
 simp only[ar,aI,List.map_map];conv=>rhs;rw[<- List.map_id p]
 exact List.map_congr_left fun x hx=>h x hx
theorem HF{p q:List ND}(h:iY p q):ue p q (q.length+1) (ar p) (ar q):=by
 refine⟨?_,by rw[aM];omega,h.safe,h.tp,h.tq,by rw[aM];exact h.l1,by rw[aM];exact h.l2⟩;unfold cw;rw[aM]
theorem kh(l:List Rat):∀ x∈aI l,NOK x:=by
 intro x hx;obtain⟨y,_,rfl⟩:=List.mem_map.1 hx;exact bL y
theorem K5{p q:List ND}{n:Nat}{a b:List Rat}(h:ue p q n a b)(hb:0<b.length):
  fY (aI a) (aI b)/\ou (aI (divN a b).2)/\(∃ m,ue p q m b (cU (divN a b).2))/\(cU (divN a b).2).length<b.length:=by
 have hbn:=List.length_pos_iff.1 hb;have h1:=h.safe;have h2:=h.eq;have h3:=h.fuel;have hl:=h.tb hbn;have hs:=gv (p:=a) hb hl;match n,h1,h2,h3 with
 |n+1,h1,h2,h3=>
  rw[uc,if_neg hbn] at h1;rw[eu,if_neg hbn] at h2;obtain⟨s1,s2,s3,s4⟩:=h1;have hlb:=h.lb;refine⟨⟨kh _,fW s2,by rw[aF];exact h.la,by rw[aF];exact h.lb,by rw[aF];exact hb,by rw[aJ];exact hl,by rw[aJ,aJ,aF];exact s1⟩,
   ⟨fW s3,by rw[aF];omega,fun hne=> ?_⟩,⟨n,h2,by rw[b5];omega,s4,h.tb,il (jI h.ta),h.lb,by rw[b5];omega⟩,by rw[b5];exact hs⟩
  rw[aJ];exact jI h.ta (fun e=>hne (by rw[e];rfl))
theorem NL{p q:List ND}{n:Nat}{a b:List Rat}(h:ue p q n a b)(hb: ¬0<b.length):ou (aI a)/\cU a=cw (ar p) (ar q):=by
 have hbn:b= []:=List.eq_nil_of_length_eq_zero (by omega);have h1:=h.safe;have h2:=h.eq;have h3:=h.fuel;match n,h1,h2,h3 with
 |n+1,h1,h2,h3=>
  rw[uc,if_pos hbn] at h1;rw[eu,if_pos hbn] at h2;have hla:=h.la;refine⟨⟨fW h1,by rw[aF];omega,fun hne=> ?_⟩,h2⟩;rw[aJ];exact h.ta (fun e=>hne (by rw[e];rfl))
def cm(l:List Rat):List Rat:=if l= [] then [] else cU (divN l (cw l (cq l))).1
def mo(p:List ND):Prop:=p≠ []->Sz QH p/\p.length<=900/\iY p (aI (cq (ar p)))/\fY p (aI (cw (ar p) (cq (ar p))))/\ou (aI (divN (ar p) (cw (ar p) (cq (ar p)))).1)
end Go.Cm
end
section
namespace Go.Cm
open Go Go.RowKit
theorem uX{P:Program}(w:World)(dT sT ty elem:TypeId)(g o dLen dCap:Nat)(a:Addr)(sLen sCap:Nat)(cur:Array Value)(t:TypeId)(cs:List Value)(size n:Nat)
  (hu:P.underlying dT=some (.slice elem)) (hs:(P.info? elem).map (·.size)=some size)
  (hg:w.heap[g]? =some (.cells cur t (0,0))) (hn:n=Nat.min sLen dLen) (hl0:cs.length=n*size)
  (hsrc:∀ j v,cs[j]? =some v->w.cell? (a.add j)=some v) (hfit:o+cs.length<=cur.size) (h1:∀ v∈cs,v.oneCell'=true):
  (Builtin.copy_ #[dT,sT] ty #[.slice (some ⟨g,o,none⟩) dLen dCap, .slice (some a) sLen sCap]).run P w=
   .ok (goInt n) (w.setRow g (cur.toList.take o++cs++cur.toList.drop (o+cs.length)).toArray):=by
 have hl:=run_loadCells_list (P:=P) w a cs hsrc;rw[hl0] at hl;have hst:=run_storeCells_at P g o t cs 0 cur w hg (by simpa using hfit) h1;cases hq:P.info? elem with
 |none=>simp[hq] at hs
 |some i=>
  have hi:i.size=size:=by simpa [hq] using hs
  simp[Builtin.copy_,run_underlying hu,Builtin.lenOf,Builtin.firstCells,sizeOf,typeInfo,hq,hi,<- hn,hl,hst]
theorem uf{P:Program}(w:World)(dT sT ty elem:TypeId)(d a:Option Addr)(dLen dCap sLen sCap:Nat)(size:Nat)(hu:P.underlying dT=some (.slice elem))(hs:(P.info? elem).map (·.size)=some size)(hn:Nat.min sLen dLen=0):
  (Builtin.copy_ #[dT,sT] ty #[.slice d dLen dCap, .slice a sLen sCap]).run P w= .ok (goInt 0) w:=by
 cases hq:P.info? elem with
 |none=>simp[hq] at hs
 |some i=>
  have hl:∀ (x:Addr),(loadCells x 0).run P w= .ok #[] w:=fun x=>by simpa using run_loadCells_list (P:=P) w x [] (by simp)
  cases d<;>cases a<;>simp[Builtin.copy_,run_underlying hu,Builtin.lenOf,Builtin.firstCells,sizeOf,typeInfo,hq,hn,storeCells,hl]
theorem vM{P:Program}{w:World}(dT sT ty elem:TypeId)(size:Nat)(hu:P.underlying dT=some (.slice elem))(hsz:(P.info? elem).map (·.size)=some size)
  (dp sp:Option Addr) (dLen dCap sLen sCap n:Nat) (g off:Nat) (cur:List Value) (t:TypeId) (hg:w.heap[g]? =some (.cells cur.toArray t (0,0))) (cs:List Value) (hn:n=Nat.min sLen dLen) (hl:cs.length=n*size)
  (hpos:0<n->dp=some ⟨g,off,none⟩/\∃ ad,sp=some ad/\∀ j v,cs[j]? =some v->w.cell? (ad.add j)=some v)
  (hfit:off+cs.length<=cur.length) (h1:∀ v∈cs,v.oneCell'=true) (B:Nat) (w0:World) (hb:Below B w0 w) (hBg:B<=g):
  ∃ w',(Builtin.copy_ #[dT,sT] ty #[.slice dp dLen dCap, .slice sp sLen sCap]).run P w= .ok (goInt n) w'/\w'.heap[g]? =some (.cells (splice cur off cs).toArray t (0,0))/\Below B w0 w':=by
 by_cases h0:n=0
 ·subst h0;obtain rfl:cs= []:=List.eq_nil_of_length_eq_zero (by simpa using hl);exact⟨w,uf w dT sT ty elem dp sp dLen dCap sLen sCap size hu hsz hn.symm,by simpa [splice] using hg,hb⟩
 ·obtain⟨rfl,ad,rfl,hsrc⟩:=hpos (by omega);refine⟨_,uX w dT sT ty elem g off dLen dCap ad sLen sCap cur.toArray t cs size n hu hsz hg hn hl hsrc (by simpa using hfit) h1,?_,below_setRow hb hBg _⟩;simpa [splice] using setRow_heap w g _ _ t _ hg
theorem xH{P:Program}{w:World}{ops:Array Oper}{rest:List Oper}{o:Oper}{a:Act}{Q:Exit->Act->World->Prop}(hgd:o.guard=none)(d s:Operand)(dT sT:TypeId)
  (ho:o.op= .call {callee:= .builtin .copy,args:= #[d,s],argTypes:= #[dT,sT]}) (elem:TypeId) (size:Nat) (hu:P.underlying dT=some (.slice elem)) (hsz:(P.info? elem).map (·.size)=some size)
  (dp sp:Option Addr) (dLen dCap sLen sCap n:Nat) (hd:a.eval d= .slice dp dLen dCap) (hs:a.eval s= .slice sp sLen sCap)
  (g off:Nat) (cur:List Value) (t:TypeId) (hg:w.heap[g]? =some (.cells cur.toArray t (0,0))) (cs:List Value) (hn:n=Nat.min sLen dLen) (hl:cs.length=n*size)
  (hpos:0<n->dp=some ⟨g,off,none⟩/\∃ ad,sp=some ad/\∀ j v,cs[j]? =some v->w.cell? (ad.add j)=some v)
  (hfit:off+cs.length<=cur.length) (h1:∀ v∈cs,v.oneCell'=true) (B:Nat) (w0:World) (hb:Below B w0 w) (hBg:B<=g)
  (h:∀ w',Hid (w'.heap[g]? =some (.cells (splice cur off cs).toArray t (0,0)))->Below B w0 w'->wpList P ops Q rest (a.put o.dst (goInt n)) w'):
  wpList P ops Q (o::rest) a w:=by
 refine wpList_plain hgd fun K hK=> ?_;obtain⟨w',hrun,hg',hb'⟩:=vM dT sT o.type elem size hu hsz dp sp dLen dCap sLen sCap n g off cur t hg cs hn hl hpos hfit h1 B w0 hb hBg;unfold Oper.wp;simp[execOp,ho,resolve,invoke,builtin,hd,hs,hrun,Result.andThen];exact hK _ _ (h w' hg' hb')
theorem Dp{P:Program}{ops:Array Oper}{o:Oper}{a:Act}{w:World}{K:Act->World->Prop}{Q:Exit->Act->World->Prop}{E:Prop}(hgd:o.guard=none)(d s:Operand)(dT sT:TypeId)
  (ho:o.op= .call {callee:= .builtin .copy,args:= #[d,s],argTypes:= #[dT,sT]}) (elem:TypeId) (size:Nat) (hu:P.underlying dT=some (.slice elem)) (hsz:(P.info? elem).map (·.size)=some size)
  (dp sp:Option Addr) (dLen dCap sLen sCap n:Nat) (hd:a.eval d= .slice dp dLen dCap) (hs:a.eval s= .slice sp sLen sCap)
  (g off:Nat) (cur:List Value) (t:TypeId) (hg:w.heap[g]? =some (.cells cur.toArray t (0,0))) (cs:List Value) (hn:n=Nat.min sLen dLen) (hl:cs.length=n*size)
  (hpos:0<n->dp=some ⟨g,off,none⟩/\∃ ad,sp=some ad/\∀ j v,cs[j]? =some v->w.cell? (ad.add j)=some v)
  (hfit:off+cs.length<=cur.length) (h1:∀ v∈cs,v.oneCell'=true) (B:Nat) (w0:World) (hb:RowKit.Below B w0 w) (hBg:B<=g)
  (h:∀ w',RowKit.Hid (w'.heap[g]? =some (.cells (splice cur off cs).toArray t (0,0)))->RowKit.Below B w0 w'->K (a.put o.dst (goInt n)) w'):
  if Region.wanted o (yielded ops a.tmps)=true then Oper.wp P o a w K Q else E:=by
 have hw:Region.wanted o (yielded ops a.tmps)=true:=by simp[Region.wanted,hgd]
 rw[if_pos hw];obtain⟨w',hrun,hg',hb'⟩:=vM dT sT o.type elem size hu hsz dp sp dLen dCap sLen sCap n g off cur t hg cs hn hl hpos hfit h1 B w0 hb hBg;unfold Oper.wp;simp[execOp,ho,resolve,invoke,builtin,hd,hs,hrun,Result.andThen];exact h w' hg' hb'
def cI(n:Nat)(l:List Value):List Value:=(List.replicate n l).flatten
theorem eJ(n:Nat)(l:List Value):(cI n l).length=n*l.length:=by simp[cI]
theorem ug(m n:Nat)(l:List Value):cI (m+n) l=cI m l++cI n l:=by simp only[cI,<- List.flatten_append,List.replicate_append_replicate]
theorem zY{n:Nat}{l:List Value}{v:Value}(h:v∈cI n l):v∈l:=by
 obtain⟨x,hx,hv⟩:=List.mem_flatten.1 h;rw[(List.mem_replicate.1 hx).2] at hv;exact hv
theorem pE{A B:List Value}(hAB:A.length=B.length){n k m:Nat}(hm:m<=n-k):splice (cI k A++cI (n-k) B) (k*A.length) (cI m A)=cI (k+m) A++cI (n-(k+m)) B:=by
 have hl:(cI k A).length=k*A.length:=eJ _ _;have e1:(cI k A++cI (n-k) B).take (k*A.length)=cI k A:=by rw[<- hl,List.take_left]
 have e2:(cI k A++cI (n-k) B).drop (k*A.length+(cI m A).length)=cI (n-(k+m)) B:=by
  rw[<- List.drop_drop,<- hl,List.drop_left,eJ,show n-k=m+(n-(k+m)) by omega,ug,hAB,<- eJ m B,List.drop_left]
 simp only[splice,e1,e2];rw[<- List.append_assoc,<- ug]
end Go.Cm
end
section
namespace Go.Proofs
open Go.Shelf
def Tryz.laysB172_ren:Go.Shelf.Ren:=⟨fun|172=>182|244=>196|245=>188|247=>209|279=>204|280=>205|281=>206|282=>207|287=>187|316=>216|171=>166|205=>217|321=>202|322=>203|243=>184|246=>197|283=>210|284=>211|285=>212|286=>213|129=>219|317=>218|318=>220|319=>221|320=>222|337=>223|338=>224|n=>n,fun|9=>9|3=>3|75=>131|76=>132|4=>4|5=>5|167=>216|37=>47|0=>0|85=>222|2=>2|168=>218|53=>164|175=>191|46=>122|210=>231|127=>167|145=>239|143=>237|21=>21|171=>224|173=>227|212=>234|51=>161|20=>20|213=>235|232=>241|233=>242|80=>135|n=>n,fun|15=>1|16=>2|17=>3|18=>4|19=>5|n=>n⟩
theorem Tryz.laysB172:Go.Proofs.Lays.n172 Tryz.prog Tryz.laysB172_ren:={
 mixed:=by kernel_rfl
 f129:=Tryz.func219.trans (congrArg some (by kernel_rfl))
 f171:=Tryz.func166.trans (congrArg some (by kernel_rfl))
 f172:=Tryz.func182.trans (congrArg some (by kernel_rfl))
 f205:=Tryz.func217.trans (congrArg some (by kernel_rfl))
 f243:=Tryz.func184.trans (congrArg some (by kernel_rfl))
 f244:=Tryz.func196.trans (congrArg some (by kernel_rfl))
 f245:=Tryz.func188.trans (congrArg some (by kernel_rfl))
 f246:=Tryz.func197.trans (congrArg some (by kernel_rfl))
 f247:=Tryz.func209.trans (congrArg some (by kernel_rfl))
 f279:=Tryz.func204.trans (congrArg some (by kernel_rfl))
 f280:=Tryz.func205.trans (congrArg some (by kernel_rfl))
 f281:=Tryz.func206.trans (congrArg some (by kernel_rfl))
 f282:=Tryz.func207.trans (congrArg some (by kernel_rfl))
 f283:=Tryz.func210.trans (congrArg some (by kernel_rfl))
 f284:=Tryz.func211.trans (congrArg some (by kernel_rfl))
 f285:=Tryz.func212.trans (congrArg some (by kernel_rfl))
 f286:=Tryz.func213.trans (congrArg some (by kernel_rfl))
 f287:=Tryz.func187.trans (congrArg some (by kernel_rfl))
 f316:=Tryz.func216.trans (congrArg some (by kernel_rfl))
 f317:=Tryz.func218.trans (congrArg some (by kernel_rfl))
 f318:=Tryz.func220.trans (congrArg some (by kernel_rfl))
 f319:=Tryz.func221.trans (congrArg some (by kernel_rfl))
 f320:=Tryz.func222.trans (congrArg some (by kernel_rfl))
 f321:=Tryz.func202.trans (congrArg some (by kernel_rfl))
 f322:=Tryz.func203.trans (congrArg some (by kernel_rfl))
 f337:=Tryz.func223.trans (congrArg some (by kernel_rfl))
 f338:=Tryz.func224.trans (congrArg some (by kernel_rfl))
 t0:=Tryz.underlying0
 a0:=Tryz.isAgg0
 z0:=Tryz.sizeOf0
 v0:=Tryz.zeroValue0
 t2:=Tryz.underlying2
 a2:=Tryz.isAgg2
 z2:=Tryz.sizeOf2
 v2:=Tryz.zeroValue2
 t3:=Tryz.underlying3
 a3:=Tryz.isAgg3
 z3:=Tryz.sizeOf3
 v3:=Tryz.zeroValue3
 t4:=Tryz.underlying4
 a4:=Tryz.isAgg4
 z4:=Tryz.sizeOf4
 v4:=Tryz.zeroValue4
 t5:=Tryz.underlying5
 a5:=Tryz.isAgg5
 z5:=Tryz.sizeOf5
 v5:=Tryz.zeroValue5
 t9:=Tryz.underlying9
 a9:=Tryz.isAgg9
 z9:=Tryz.sizeOf9
 v9:=Tryz.zeroValue9
 t20:=Tryz.underlying20
 a20:=Tryz.isAgg20
 z20:=Tryz.sizeOf20
 v20:=Tryz.zeroValue20
 t21:=Tryz.underlying21
 a21:=Tryz.isAgg21
 z21:=Tryz.sizeOf21
 v21:=Tryz.zeroValue21
 t37:=Tryz.underlying47
 a37:=Tryz.isAgg47
 z37:=Tryz.sizeOf47
 v37:=Tryz.zeroValue47
 t46:=Tryz.underlying122
 a46:=Tryz.isAgg122
 z46:=Tryz.sizeOf122
 v46:=Tryz.zeroValue122
 t51:=Tryz.underlying161
 a51:=Tryz.isAgg161
 z51:=Tryz.sizeOf161
 v51:=Tryz.zeroValue161
 t53:=Tryz.underlying164
 a53:=Tryz.isAgg164
 z53:=Tryz.sizeOf164
 v53:=Tryz.zeroValue164
 t75:=Tryz.underlying131
 a75:=Tryz.isAgg131
 z75:=Tryz.sizeOf131
 v75:=Tryz.zeroValue131
 t76:=Tryz.underlying132
 a76:=Tryz.isAgg132
 z76:=Tryz.sizeOf132
 v76:=Tryz.zeroValue132
 t85:=Tryz.underlying222
 a85:=Tryz.isAgg222
 z85:=Tryz.sizeOf222
 v85:=Tryz.zeroValue222
 t127:=Tryz.underlying167
 a127:=Tryz.isAgg167
 z127:=Tryz.sizeOf167
 v127:=Tryz.zeroValue167
 t143:=Tryz.underlying237
 a143:=Tryz.isAgg237
 z143:=Tryz.sizeOf237
 v143:=Tryz.zeroValue237
 t145:=Tryz.underlying239
 a145:=Tryz.isAgg239
 z145:=Tryz.sizeOf239
 v145:=Tryz.zeroValue239
 t167:=Tryz.underlying216
 a167:=Tryz.isAgg216
 z167:=Tryz.sizeOf216
 v167:=Tryz.zeroValue216
 t168:=Tryz.underlying218
 a168:=Tryz.isAgg218
 z168:=Tryz.sizeOf218
 v168:=Tryz.zeroValue218
 t171:=Tryz.underlying224
 a171:=Tryz.isAgg224
 z171:=Tryz.sizeOf224
 v171:=Tryz.zeroValue224
 t173:=Tryz.underlying227
 a173:=Tryz.isAgg227
 z173:=Tryz.sizeOf227
 v173:=Tryz.zeroValue227
 t175:=Tryz.underlying191
 a175:=Tryz.isAgg191
 z175:=Tryz.sizeOf191
 v175:=Tryz.zeroValue191
 t210:=Tryz.underlying231
 a210:=Tryz.isAgg231
 z210:=Tryz.sizeOf231
 v210:=Tryz.zeroValue231
 t212:=Tryz.underlying234
 a212:=Tryz.isAgg234
 z212:=Tryz.sizeOf234
 v212:=Tryz.zeroValue234
 t213:=Tryz.underlying235
 a213:=Tryz.isAgg235
 z213:=Tryz.sizeOf235
 t232:=Tryz.underlying241
 a232:=Tryz.isAgg241
 z232:=Tryz.sizeOf241
 v232:=Tryz.zeroValue241
 t233:=Tryz.underlying242
 a233:=Tryz.isAgg242
 z233:=Tryz.sizeOf242
 v233:=Tryz.zeroValue242
 g15:=by kernel_rfl
 g16:=by kernel_rfl
 g17:=by kernel_rfl
 g18:=by kernel_rfl
 g19:=by kernel_rfl}
open Go.RowKit in
theorem Tryz.strconv_Atoi(s:ByteArray)(n:Int)(hl:s.size<=18)(h:Lib.atoi s.data.toList=some n)(w:World):
  Calls Tryz.prog 182 #[.string s] w fun e w'=>e= .returned (.tuple #[.int .i64 n, .nilIface])/\∃ t,w'=Lib.bytesWorld w 5 t:=Any.strconv_Atoi Tryz.laysB172 s n hl h w
def Tryz.laysB145_ren:Go.Shelf.Ren:=⟨fun|145=>131|220=>171|219=>185|217=>198|225=>199|224=>200|267=>201|266=>214|314=>215|n=>n,fun|9=>9|4=>4|59=>154|3=>3|5=>5|46=>122|146=>162|51=>161|n=>n,fun|1=>0|n=>n⟩
theorem Tryz.laysB145:Go.Proofs.Lays.n145 Tryz.prog Tryz.laysB145_ren:={
 mixed:=by kernel_rfl
 f145:=Tryz.func131.trans (congrArg some (by kernel_rfl))
 f217:=Tryz.func198.trans (congrArg some (by kernel_rfl))
 f219:=Tryz.func185.trans (congrArg some (by kernel_rfl))
 f220:=Tryz.func171.trans (congrArg some (by kernel_rfl))
 f224:=Tryz.func200.trans (congrArg some (by kernel_rfl))
 f225:=Tryz.func199.trans (congrArg some (by kernel_rfl))
 f266:=Tryz.func214.trans (congrArg some (by kernel_rfl))
 f267:=Tryz.func201.trans (congrArg some (by kernel_rfl))
 f314:=Tryz.func215.trans (congrArg some (by kernel_rfl))
 t3:=Tryz.underlying3
 a3:=Tryz.isAgg3
 z3:=Tryz.sizeOf3
 v3:=Tryz.zeroValue3
 t4:=Tryz.underlying4
 a4:=Tryz.isAgg4
 z4:=Tryz.sizeOf4
 v4:=Tryz.zeroValue4
 t5:=Tryz.underlying5
 a5:=Tryz.isAgg5
 z5:=Tryz.sizeOf5
 v5:=Tryz.zeroValue5
 t9:=Tryz.underlying9
 a9:=Tryz.isAgg9
 z9:=Tryz.sizeOf9
 v9:=Tryz.zeroValue9
 t46:=Tryz.underlying122
 a46:=Tryz.isAgg122
 z46:=Tryz.sizeOf122
 v46:=Tryz.zeroValue122
 t51:=Tryz.underlying161
 a51:=Tryz.isAgg161
 z51:=Tryz.sizeOf161
 v51:=Tryz.zeroValue161
 t59:=Tryz.underlying154
 a59:=Tryz.isAgg154
 z59:=Tryz.sizeOf154
 v59:=Tryz.zeroValue154
 t146:=Tryz.underlying162
 a146:=Tryz.isAgg162
 z146:=Tryz.sizeOf162
 v146:=Tryz.zeroValue162
 g1:=by kernel_rfl}
open Go.RowKit Go.Lib in
theorem Tryz.strings_Cut(s sep:ByteArray)(m:Int)(w:World)(hs:s.size<4294967281)(hm:w.cell? ⟨0,0,none⟩=some (.int .i64 m)):
  Calls Tryz.prog 131 #[.string s, .string sep] w fun e w'=>e= .returned (.tuple #[.string ⟨(Lib.cut s.data.toList sep.data.toList).1.toArray⟩, .string ⟨(Lib.cut s.data.toList sep.data.toList).2.1.toArray⟩, .bool (Lib.cut s.data.toList sep.data.toList).2.2])/\∃ n,w'=w.drewN n:=Any.strings_Cut Tryz.laysB145 s sep m w hs hm
open Go.RowKit Go.Lib in
open Go.RowKit Go.Lib in
def Tryz.laysB212_ren:Go.Shelf.Ren:=⟨fun|212=>95|263=>137|264=>138|n=>n,fun|46=>122|51=>161|146=>162|53=>164|148=>165|n=>n,fun|n=>n⟩
theorem Tryz.laysB212:Go.Proofs.Lays.n212 Tryz.prog Tryz.laysB212_ren:={
 mixed:=by kernel_rfl
 f212:=Tryz.func95.trans (congrArg some (by kernel_rfl))
 f263:=Tryz.func137.trans (congrArg some (by kernel_rfl))
 f264:=Tryz.func138.trans (congrArg some (by kernel_rfl))
 t46:=Tryz.underlying122
 a46:=Tryz.isAgg122
 z46:=Tryz.sizeOf122
 v46:=Tryz.zeroValue122
 t51:=Tryz.underlying161
 a51:=Tryz.isAgg161
 z51:=Tryz.sizeOf161
 v51:=Tryz.zeroValue161
 t53:=Tryz.underlying164
 a53:=Tryz.isAgg164
 z53:=Tryz.sizeOf164
 v53:=Tryz.zeroValue164
 t146:=Tryz.underlying162
 a146:=Tryz.isAgg162
 z146:=Tryz.sizeOf162
 v146:=Tryz.zeroValue162
 t148:=Tryz.underlying165
 a148:=Tryz.isAgg165
 z148:=Tryz.sizeOf165
 v148:=Tryz.zeroValue165}
open Go.RowKit Go.Lib in
theorem Tryz.bits_Mul(x y:Nat)(hx:x<18446744073709551616)(hy:y<18446744073709551616)(w:World):
  Calls Tryz.prog 95 #[.int .u64 x, .int .u64 y] w fun e w'=>e= .returned (.tuple #[.int .u64 ((x*y/18446744073709551616:Nat):Int), .int .u64 ((x*y%18446744073709551616:Nat):Int)])/\w'=w:=Any.bits_Mul Tryz.laysB212 x y hx hy w
end Go.Proofs
end
section
namespace Go.Proofs
open Go.RowKit Go.Cm Go.Shelf
attribute [local go_sem] Oper.semAt_some
def zc4:List Value:= [.bool false, .slice none 0 0, .bool false, .slice none 0 0]
theorem Qq(n:Nat):madeCells (Value.agg zc4.toArray).cells (n*4)=(cI n zc4).toArray:=
 gS (t:=NT) (by decide) (by decide) n
theorem u46{n:Nat}(h:n<=1000):IntKind.u64.wrap (n:Int)=(n:Int):=by
 have h1:(n:Int)<=1000:=by omega
 unfold IntKind.wrap;have e:IntKind.u64.signed=false:=rfl;rw[e];simp only[Bool.false_and,Bool.false_eq_true,if_false];exact Int.emod_eq_of_lt (by omega) (Int.lt_of_le_of_lt h1 (by decide))
set_option maxRecDepth 100000 in
set_option maxHeartbeats 1000000 in
theorem K6(xs:List Value)(h4:xs.length=4)(h1:∀ u∈xs,u.oneCell'=true)(n:Nat)(hn:n<=1000)(b o c:Nat)(w:World)(hc:∀ j v,xs[j]? =some v->w.cell? ⟨b,o+j,none⟩=some v):
  Calls Tryz.prog 112 #[.slice (some ⟨b,o,none⟩) 1 c, .int .i64 n] w fun e w'=>e= .returned (.slice (some ⟨w.heap.size,0,none⟩) n n)/\w'.heap[w.heap.size]? =some (.cells (cI n xs).toArray 91 (0,0))/\Below w.heap.size w w':=by
 have t36:=Tryz.underlying79;have a36:=Tryz.isAgg79;have z36:=Tryz.sizeOf79;have v36:=Tryz.zeroValue79;have t3:=Tryz.underlying3;have a3:=Tryz.isAgg3;have z3:=Tryz.sizeOf3;have v3:=Tryz.zeroValue3;have t84:=Tryz.underlying122;have a84:=Tryz.isAgg122;have z84:=Tryz.sizeOf122;have v84:=Tryz.zeroValue122;have hmul:=fun w=>Tryz.bits_Mul 1 n (by omega) (by omega) w;have e1:1*n/18446744073709551616=0:=by omega
 have e2:1*n%18446744073709551616=n:=by omega
 rw[e1,e2] at hmul;have e64:∀ args w,(callFunc 95 args).run Tryz.prog w= .ok (.enter 95 args) w:=enters_of Tryz.func95 (by kernel_rfl) rfl;have w1:IntKind.u64.wrap (n:Int)=(n:Int):=u46 hn;have w2:IntKind.i64.wrap (n:Int)=(n:Int):=wi (by omega) (by omega);have c1: ¬ (n:Int)<0:=by omega
 have c2: ¬ (9223372036854775807:Int)<(n:Int):=by omega
 obtain⟨i0,hi,hz0,hz1,hz2⟩:=info_parts (show (Tryz.prog.info? 91).map (fun i=>(i.zero,i.size,i.bytes))=some (some (.agg zc4.toArray),4,64) by kernel_rfl);have hs3:(Tryz.prog.info? 91).map (·.size)=some 4:=by rw[hi];simp[hz1]
 have hmk:=run_make (P:=Tryz.prog) w 79 91 i0 (.agg zc4.toArray) t36 hi hz0 .i64 .i64 (n:Int) (n:Int) (by omega) (Int.le_refl _) (by rw[hz2];omega) (by omega);have hmc:madeCells (Value.agg zc4.toArray).cells ((n:Int).toNat*i0.size)=(cI n zc4).toArray:=by
  rw[hz1,Int.toNat_natCast];exact Qq n
 rw[hmc,Int.toNat_natCast] at hmk;have hg:(w.alloc (.cells (cI n zc4).toArray 91)).heap[w.heap.size]? =some (.cells (cI n zc4).toArray 91 (0,0)):=by rw[World.alloc_heap_new]
 have hb1:Below w.heap.size w (w.alloc (.cells (cI n zc4).toArray 91)):=(Below.refl _ _).alloc (Nat.le_refl _) _;obtain⟨m0,hm0⟩:∃ m0,m0=min 1 n:=⟨_,rfl⟩;have hm01:m0<=1/\m0<=n/\(m0=0->n=0):=by omega
 have hrl:(cI n zc4).length=n*4:=eJ n zc4;have hml:(cI m0 xs).length=m0*4:=by rw[eJ,h4]
 have hsrc:∀ j u,(cI m0 xs)[j]? =some u->(w.alloc (.cells (cI n zc4).toArray 91)).cell? (Addr.add ⟨b,o,none⟩ j)=some u:=by
  intro j u hj;have hj1:=(List.getElem?_eq_some_iff.1 hj).1;have hm1:m0=1:=by omega
  rw[hm1,show cI 1 xs=xs by simp[cI]] at hj;have hcj:=hc j u hj;obtain⟨o1,ho1,_⟩:=cells_of_cell hcj;rw[Addr.add_mid];exact(World.cell?_alloc_lt (a:=⟨b,o+j,none⟩) _ _ (Array.getElem?_eq_some_iff.1 ho1).1).trans hcj
 go_enter Tryz.func112,Tryz.ntmps112
 go_wp2_with (first|(go_at_fn 95;refine(hmul _).mono ?_;rintro e w' ⟨rfl,hw'⟩;rw[hw'])|refine xH rfl (.tmp 31) (.tmp 32) 79 79 rfl 91 4 t36 hs3 (some ⟨w.heap.size,0,none⟩) (some ⟨b,o,none⟩) n n 1 c m0 rfl rfl w.heap.size 0 (cI n zc4) 91 hg (cI m0 xs) (by exact hm0) hml (fun _=>⟨rfl,_,rfl,hsrc⟩) (by rw[hml,hrl];omega) (fun u hu=>h1 u (zY hu)) w.heap.size w hb1 (Nat.le_refl _) ?_;intro w4 hg4 hb4)
 go_loopw [8] (fun s wr=>∃ k:Nat,s= .int .i64 k/\(k=0->n=0)/\k<=n/\wr.heap[w.heap.size]? =some (.cells (cI k xs++cI (n-k) zc4).toArray 91 (0,0))/\Below w.heap.size w wr)
  (fun s _=>n-(intOf s).toNat)
 case atStart=>exact⟨m0,by first|rfl|rw[hm0],hm01.2.2,hm01.2.1,by
  have e:splice (cI 0 xs++cI (n-0) zc4) (0*xs.length) (cI m0 xs)=_:=pE (by rw[h4];rfl) (by omega);simp only[show cI 0 xs= [] by simp[cI],List.nil_append,Nat.sub_zero,Nat.zero_mul,Nat.zero_add] at e;rw[<- e];exact hg4.out,hb4⟩
 case round=>
  obtain⟨k,rfl,hk1,hkn,hgk,hbk⟩:=hrel;by_cases hlt:k<n
  ·(have d1:(k:Int)<(n:Int):=by omega);obtain⟨m,hm⟩:∃ m,m=Nat.min k (n-k):=⟨_,rfl⟩;(have hm2:m<=k/\m<=n-k/\(m=k∨m=n-k):=by rw[hm];show min k (n-k)<=k/\min k (n-k)<=n-k/\(min k (n-k)=k∨min k (n-k)=n-k);omega);(have hkl:(cI k xs).length=k*4:=by rw[eJ,h4]);have hzl:(cI (n-k) zc4).length=(n-k)*4:=eJ _ _;(have hmm:(cI m xs).length=m*4:=by rw[eJ,h4]);have hcp:∀ j u,(cI m xs)[j]? =some u->wr.cell? (Addr.add ⟨w.heap.size,0,none⟩ j)=some u:=by
    intro j u hj;have hj1:=(List.getElem?_eq_some_iff.1 hj).1;have hpre:(cI k xs)[j]? =some u:=by
     rw[show k=m+(k-m) by omega,ug,List.getElem?_append_left hj1];exact hj
    rw[Addr.add_mid,Nat.zero_add];(have hjk:j<(cI k xs).length:=by omega);simp only[World.cell?,hgk];simp[List.getElem?_append_left hjk,hpre]
   (have hfit:k*4+(cI m xs).length<=(cI k xs++cI (n-k) zc4).length:=by rw[List.length_append,hkl,hzl,hmm];omega);have hnk: ¬n=k:=by omega
   go_wp2
   go_region_law (refine Dp rfl (.tmp 41) (.tmp 44) 79 79 rfl 91 4 t36 hs3 (some ⟨w.heap.size,k*4,none⟩) (some ⟨w.heap.size,0,none⟩) (n-k) (n-k) k n m (by simp[Act.eval,Act.put]) (by simp[Act.eval,Act.put]) w.heap.size (k*4) _ 91 hgk (cI m xs) hm hmm (fun _=>⟨rfl,_,rfl,hcp⟩) hfit (fun u hu=>h1 u (zY hu)) w.heap.size w (show Below w.heap.size w wr.drew from⟨hbk.os,hbk.tape,hbk.output,hbk.size,hbk.block⟩) (Nat.le_refl _) ?_;intro w5 hg5 hb5)
   (have hw3:IntKind.i64.wrap ((k:Int)+((k.min (n-k):Nat):Int))=((k+m:Nat):Int):=by rw[<- hm,wi (by omega) (by omega)];omega);rw[hw3];simp only[Act.put,List.setIfInBounds_toArray,List.set_cons_succ,List.set_cons_zero,List.getElem_toArray,List.getElem_cons_succ,List.getElem_cons_zero]
   go_roundw
   case rel=>
    refine⟨_,_,_,_,_,_,_,_,_,_,_,_,_,_,⟨k+m,rfl,by omega,by omega,?_,hb5⟩,rfl⟩;have e:splice (cI k xs++cI (n-k) zc4) (k*xs.length) (cI m xs)=_:=pE (by rw[h4];rfl) hm2.2.1;rw[h4] at e;rw[<- e];exact hg5.out
   case measure=>simp[intOf];omega
  ·(have hkk:k=n:=by omega);subst hkk;have d1: ¬ (k:Int)<(k:Int):=by omega
   go_wp2
   go_ret
   exact⟨rfl,by simpa [cI] using hgk,hbk⟩
theorem xI{w w':World}{O:Nat->Prop}{ρ0:Nat->Value}{fr:List Nat}{t:Ty}{T:TypeId}{xs:List t.D}{v:Value}{cells:List Value}(hO:∀ b,O b->b<w.heap.size)(hb:Below w.heap.size w w')(hs:∃ a n c,v= .slice a n c)(hr:∀ H:Nat->Prop,(∀ b,b<w.heap.size->H b->O b)->cE (fun c x=>t.rep H w' c x) cells xs)(hrow:Cm.rowAt (fun b=>w.heap.size<=b) w' T t.w v xs.length cells):
  ∃ (vs':List Value) (ρ1:Nat->Value),Ending.returned v= .returned (xe vs')/\([]:List aO).length=([]:List aO).length/\Bel (fun b=>w.heap.size<=b∨bw ρ0 [] b) w w'/\
   (∀ k,¬ (ioB<=k/\k<ioB+([]:List aO).length/\fr.contains (k-ioB)=true)->ρ1 k=ρ0 k)/\
   bz (kB (cK (hot O ρ1 (al ioB [])) [RV.own t T xs] vs') w' (fun b=>w.heap.size<=b∨bw ρ0 [] b)) [RV.own t T xs] vs'/\fk [RV.own t T xs] vs'/\
   (∀ p∈al ioB ([]:List aO),b4 (cK (hot O ρ1 (al ioB [])) [RV.own t T xs] vs') w' ρ1 (fun b=>w.heap.size<=b∨bw ρ0 [] b) p)/\
   na ρ1 (al ioB [])/\∀ b,bw ρ1 [] b-> ¬cK (fun _=>False) [RV.own t T xs] vs' b:=by
 have hnew:∀ b,Blk v b->w.heap.size<=b:=by
  intro b hbl;obtain⟨_,⟨rfl,_⟩|⟨g,cap,cur,rfl,hg,_⟩⟩:=hrow;·simp[Blk] at hbl
  ·simp[Blk] at hbl;exact hbl▸hg
 refine⟨[v],ρ0,rfl,rfl,⟨hb.os,hb.tape,hb.output,hb.size,fun k hk _=>hb.block k hk⟩,fun _ _=>rfl,⟨⟨hs,cells,hr _ ?_,?_⟩,trivial⟩,⟨fun _ b _ h=>h,trivial⟩,fun p hp=>by simp[al] at hp,List.Pairwise.nil,fun b hb=>by simp[bw,al] at hb⟩
 ·rintro b hlt (⟨_,h⟩|(h|⟨p,hp,_⟩));·have:=hnew b h;omega
  ·exact h
  ·simp[al] at hp
 ·obtain⟨h1,h2⟩:=hrow;refine⟨h1,h2.imp_right ?_⟩;rintro⟨g,cap,cur,e1,e2,e3⟩;exact⟨g,cap,cur,e1, .inl e2,e3⟩
def fA:Con:=fun l os=>match l,os with
 | [.z (.slice (.st (.pair (.st (.pair .bool (.slice (.int .u32)))) (.st (.pair .bool (.slice (.int .u32))))))) [x], .z (.int .i64) n], []=>some (0<=n/\n<=1000, [.own (.st (.pair (.st (.pair .bool (.slice (.int .u32)))) (.st (.pair .bool (.slice (.int .u32)))))) 91 (List.replicate n.toNat x)], [])
 |_,_=>none
theorem NM{n:Int}(h:0<=n/\n<=1000):∃ m:Nat,n=m/\m<=1000:=⟨n.toNat,by omega,by omega⟩
theorem vN{B:ag}(hB:aB B):Valid B Tryz.prog 112 fA:=by
 intro args os C rs os' hc hC O w vals ρ0 hOn hIo hO hOI hargs hown hap;unfold fA at hc;split at hc;case h_2=>cases hc
 rename_i x n;cases hc;obtain⟨u,z,rfl,hu,hz⟩:=zb hargs;rw[bA hz];obtain⟨m,rfl,h2⟩:=NM hC;obtain⟨cells,hr,h⟩:=ib hu;have hl:=bE (fun c x h=>NT.rep_length h) hr;rcases h with⟨_,h0,_⟩|⟨ad,c,rfl,hc⟩;·simp at h0
 have h4:cells.length=4:=hl;obtain⟨c0,d0,rfl,hr0,hd0⟩:=hr;obtain rfl:d0= []:=hd0;rw[List.append_nil] at h4 hc;obtain⟨b,o,sp⟩:=ad;have hcell:w.cell? ⟨b,o,sp⟩=some (c0[0]'(by omega)):=by
  have:=hc 0 (c0[0]'(by omega)) (by simp);simpa [Addr.add] using this
 obtain rfl:sp=none:=by
  cases sp with
  |none=>rfl
  |some _=>simp only[World.cell?] at hcell;split at hcell<;>simp at hcell
 refine(K6 c0 h4 (Ty.rep_oneCell NT hr0) m h2 b o c w (fun j v hj=>by have:=hc j v hj;rwa [Addr.add_mid] at this)).mono fun e w' ⟨he,hw,hb⟩=> ?_;subst he;rw[Int.toNat_natCast];refine xI hO hb ⟨_,_,_,rfl⟩ (cells:=cI m c0) (fun H hH=>ew ?_ m) ?_;·exact Ty.rep_move (t:=NT) (fun b hlt hb=> .inl (hH b hlt hb)) (fun b _ hlt=>hb.block b (cW hlt)) hr0
 ·rw[List.length_replicate];refine⟨by rw[eJ,h4];rfl, .inr ⟨_,m,_,rfl,Nat.le_refl _,hw,Nat.le_refl _,by unfold maxLen;omega,?_,?_⟩⟩;·simp[eJ,h4];exact Nat.le_refl _
  ·rw[List.toList_toArray];exact List.take_of_length_le (by rw[eJ,h4];exact Nat.le_refl _)
attribute [local go_sem] Oper.semAt_some
def zN:ND:=((false, []),(false, []))
def jJ(xs:List ND)(k:Nat):List LV:= [.z (.int .i64) ((xs.length:Int)-1-k), .z NT (xs.getD (xs.length-1-k) zN)]
def bV(xs:List ND):List (List LV):=(List.range xs.length).map (jJ xs)
set_option maxRecDepth 100000 in
set_option maxHeartbeats 2000000 in
theorem K7(F:Fence)(h7:F.fn 125)(hro:F.round=none)(l Bs oB b off len cap:Nat)(cs:Nat->List Value)(h4:∀ j,j<len->(cs j).length=4)(hbig:len<=maxLen)(J:Nat->World->Prop)(Jx:World->Prop)(Kp:World->World->Prop)
  (W:World) (hBs:W.cell? ⟨Bs,oB,none⟩=some (.slice (some ⟨b,off,none⟩) len cap)) (hc:∀ j,j<len->∀ i,i<4->W.cell? ⟨b,off+j*4+i,none⟩=(cs j)[i]?)
  (hKp:∀ A B,Kp A B->(∃ o:Obj,A.heap[Bs]? =some o/\o.isCells=true)->((0<len)->∃ o:Obj,A.heap[b]? =some o/\o.isCells=true)->B.heap[Bs]? =A.heap[Bs]? /\(0<len->B.heap[b]? =A.heap[b]?))
  (hY:∀ k W1,J k W1->k<len->YieldAt F 0 Tryz.prog l #[.int .i64 ((len:Int)-1-k), .agg (cs (len-1-k)).toArray] W1 fun e W'=>(e= .returned (.bool true)/\J (k+1) W'/\Kp W1 W')∨(e= .returned (.bool false)/\Jx W'))
  (h0:J 0 W):
  CallsIn F 1 Tryz.prog 125 #[.func (.yield l) #[] #[], .pointer (some ⟨Bs,oB,none⟩)] W fun e W'=>(∃ v,e= .returned v)/\(J len W'∨Jx W'):=by
 unfold maxLen at hbig;refine callsIn_of_wp Tryz.func125 rfl h7 ?_ hro;simp only[Tryz.ntmps125,List.size_toArray,List.length_cons,List.length_nil,Nat.reduceAdd,Nat.reduceSub,Array.replicate_succ,Array.replicate_zero,List.push_toArray,List.append_toArray,List.nil_append,List.cons_append]
 gi_wp2
 gi_loopw [3] (fun i wr=>∃ k:Nat,k<=len/\i= .int .i64 ((len:Int)-1-k)/\J k wr/\wr.heap[Bs]? =W.heap[Bs]? /\(0<len->wr.heap[b]? =W.heap[b]?))
  (fun i _=>(intOf i+1).toNat)
 case atStart=>exact⟨0,Nat.zero_le _,by simp,h0,rfl,fun _=>rfl⟩
 case round=>
  obtain⟨k,hk,rfl,hJs,hn1,hn2⟩:=hrel;have hB1:wr.cell? ⟨Bs,oB,none⟩=some (.slice (some ⟨b,off,none⟩) len cap):=(World.cell?_of_block (a:=⟨Bs,oB,none⟩) hn1).trans hBs;by_cases hlt:k<len
  ·(have hge:0<=(len:Int)-1-k:=by omega);(have htn:((len:Int)-1-k).toNat=len-1-k:=by omega);(have hup:(len:Int)-1-k<len:=by omega);have hci:∀ i,i<4->wr.cell? ⟨b,off+(len-1-k)*4+i,none⟩=(cs (len-1-k))[i]? :=fun i hi=>(World.cell?_of_block (a:=⟨b,off+(len-1-k)*4+i,none⟩) (hn2 (by omega))).trans (hc _ (by omega) i hi);have hlk:=h4 (len-1-k) (by omega);obtain⟨x0,x1,x2,x3,hx⟩:∃ x0 x1 x2 x3,cs (len-1-k)= [x0,x1,x2,x3]:=by
    match h:cs (len-1-k),hlk with
    | [x0,x1,x2,x3],_=>exact⟨_,_,_,_,rfl⟩
   have hc0:wr.cell? ⟨b,off+(len-1-k)*4+0,none⟩=some x0:=(hci 0 (by omega)).trans (by rw[hx];rfl);have hcx:=hc0;have hload:=dr (P:=Tryz.prog) (Go.Proofs.YtdojbabpnaifoaaGreatDoor.ty91) (w:=wr) (b:=b) (o:=off+(len-1-k)*4) (cells:=cs (len-1-k)) (by rw[hlk];rfl) (fun j hj=>hci j (by omega));have hcB:∃ o:Obj,wr.heap[Bs]? =some o/\o.isCells=true:=cells_of_cell hB1;have hcb:∃ o:Obj,wr.heap[b]? =some o/\o.isCells=true:=cells_of_cell hcx;have hYk:=hY k wr hJs hlt;rw[hx] at hYk hload;obtain⟨fn,tmps,assign,body,hy,hR⟩:=hYk
   gi_wp2
   refine hR.mono ?_;rintro e W3 (⟨rfl,hJ3,hk3⟩|⟨rfl,hJx3⟩)
   ·obtain⟨e1,e2⟩:=hKp _ _ hk3 hcB (fun _=>hcb)
    gi_wp2
    go_roundw
    (case rel=>exact⟨k+1,by omega,by congr 1;omega,hJ3,e1.trans hn1,fun h=>(e2 h).trans (hn2 h)⟩);case measure=>simp[intOf];omega
   ·gi_wp2
    refine bodyPost_ret (results_none rfl _ _ _) rfl ?_;exact⟨⟨_,rfl⟩, .inr hJx3⟩
  ·(have hk2:k=len:=by omega);(have hng: ¬0<=(len:Int)-1-k:=by omega);rw[hk2] at hJs;clear hk2
   gi_wp2
   go_end0
   exact⟨⟨_,rfl⟩, .inl hJs⟩
set_option maxRecDepth 100000 in
set_option maxHeartbeats 2000000 in
theorem vO(F:Fence)(h7:F.fn 125)(hro:F.round=none)(l Bs oB:Nat)(J:World->Prop)(W:World)(a:Option Addr)(cap:Nat)(hBs:W.cell? ⟨Bs,oB,none⟩=some (.slice a 0 cap))(h0:J W):
  CallsIn F 1 Tryz.prog 125 #[.func (.yield l) #[] #[], .pointer (some ⟨Bs,oB,none⟩)] W fun e W'=>(∃ v,e= .returned v)/\J W':=by
 refine callsIn_of_wp Tryz.func125 rfl h7 ?_ hro;simp only[Tryz.ntmps125,List.size_toArray,List.length_cons,List.length_nil,Nat.reduceAdd,Nat.reduceSub,Array.replicate_succ,Array.replicate_zero,List.push_toArray,List.append_toArray,List.nil_append,List.cons_append]
 gi_wp2
 gi_loopw [3] (fun i wr=>i= .int .i64 (-1)/\wr=W) (fun i _=>(intOf i+1).toNat)
 case atStart=>exact⟨rfl,rfl⟩
 case round=>
  obtain⟨rfl,rfl⟩:=hrel
  gi_wp2
  go_end0
  exact⟨⟨_,rfl⟩,h0⟩
theorem ld{H:Nat->Prop}{w:World}{b o:Nat}{c:Value}(h:dv H w b o [c]):w.cell? ⟨b,o,none⟩=some c/\b<w.heap.size/\ ¬H b:=
 ⟨by have:=h.2 0 (by simp);simpa using this,h.lt (by simp),h.1 (by simp)⟩
theorem vP(xs:List ND):nk Tryz.prog 125 2 [.z (.ptr (.slice NT)) xs] (bV xs):=by
 refine⟨enters_of Tryz.func125 (by kernel_rfl) rfl,?_,?_⟩;·intro it hit;obtain⟨k,_,rfl⟩:=List.mem_map.1 hit;exact⟨rfl,rfl⟩
 ·intro H w lb hH hcap;obtain⟨v,rfl⟩:∃ v,lb= [v]:=by
   match lb,hcap with
   | [v],_=>exact⟨v,rfl⟩
   |_::_::_,h=>exact h.2.elim
  obtain⟨hag,bB,oB,cells,hv,hsl,hlies⟩:=hcap.1;have hv2:v= .pointer (some ⟨bB,oB,none⟩):=by
   have hone:=cg (v:=v) (by cases v<;>first|rfl|(simp[Ty.isAgg] at hag));rw[hone] at hv;simpa using hv
  subst hv2;have hlen:(bV xs).length=xs.length:=by simp[bV]
  rcases hsl with⟨rfl,rfl⟩|⟨b,o,p,cap,cs,rfl,hp,h1,h2,h3,h4⟩;·refine⟨fun k=> #[],fun k hk=>by simp[bV] at hk,?_⟩;intro l J Jx W hb _ _ _ _ hY h0;obtain⟨c1,c2,c3⟩:=ld hlies;exact(vO (fw none) trivial rfl l bB oB (J 0) W none 0 ((hb.cell (p:=⟨bB,oB,none⟩) c2).trans c1) h0).mono (fun e W' h=>⟨h.1, .inl h.2⟩)
  ·have hcl:cs.length=xs.length*4:=bE (fun c x h=>NT.rep_length h) h3;have hone:∀ j,j<xs.length->((cs.drop (j*4)).take 4).length=4:=by
    intro j hj;rw[List.length_take,List.length_drop,hcl];omega
   refine⟨fun k=> #[.int .i64 ((xs.length:Int)-1-k), .agg ((cs.drop ((xs.length-1-k)*4)).take 4).toArray],fun k hk=> ?_,?_⟩
   ·rw[hlen] at hk;have hg:=fE (fun c x h=>NT.rep_length h) h3 (xs.length-1-k) (by omega);simp only[bV,List.getElem_map,List.getElem_range];refine⟨bQ (ρ:=fun _=>undef),?_,trivial⟩;have hx:xs.getD (xs.length-1-k) zN=xs[xs.length-1-k]'(by omega):=by
     rw[List.getD_eq_getElem?_getD,List.getElem?_eq_getElem (by omega)];rfl
    rw[hx];exact gx (t:=NT) hg (fun h=>by cases h) (fun h=>by cases h)
   ·(intro l J Jx W hb _ _ _ _ hY h0;rw[hlen] at hY ⊢;obtain⟨c1,c2,c3⟩:=ld hlies;by_cases hnil:xs= [];·subst hnil;exact(vO (fw none) trivial rfl l bB oB (J 0) W (some ⟨b,o,p⟩) cap ((hb.cell (p:=⟨bB,oB,none⟩) c2).trans c1) h0).mono (fun e W' h=>⟨h.1, .inl h.2⟩));obtain rfl:=hp hnil;(have hne:0<xs.length->cs≠ []:=fun h e=>by rw[e] at hcl;simp at hcl;omega);refine K7 (fw none) trivial rfl l bB oB b o xs.length cap (fun j=>(cs.drop (j*4)).take 4) hone (Nat.le_trans h1 h2) J Jx (za H w.heap.size) W ((hb.cell (p:=⟨bB,oB,none⟩) c2).trans c1) (fun j hj i hi=> ?_) (fun A B hk hA1 hA2=>⟨hk bB c2 c3 hA1,fun h=>hk b (h4.lt (hne h)) (h4.1 (hne h)) (hA2 h)⟩) hY h0;(have hj':j*4+i<cs.length:=by rw[hcl];omega);rw[Nat.add_assoc,hb.cell (p:=⟨b,o+(j*4+i),none⟩) (h4.lt (hne (by omega))),h4.2 (j*4+i) hj'];rw[List.getElem?_take,if_pos hi,List.getElem?_drop]
end Go.Proofs
end
section
namespace Go.Cm
open Go.Proofs
theorem zZ{p:List ND}{k i:Nat}(h:Sz k p)(hi:i<p.length):p.getD i zN=bj (cf (ar p) i):=by
 rw[<- fX h hi,fV (t:=NT) hi,List.getD_eq_getElem?_getD,List.getElem?_eq_getElem hi];rfl
theorem z6{p:List ND}{k:Nat}(hk:k<p.length):p.length-1-k<p.length:=by omega
theorem Dq(p:List ND)(x:Rat):0=aQ (List.drop (p.length-0) (ar p)) x:=by
 rw[Nat.sub_zero,List.drop_of_length_le (by rw[aM];exact Nat.le_refl _)];rfl
theorem Dr{p:List ND}{x:Rat}{k:Nat}(hk:k<p.length):aQ (List.drop (p.length-(k+1)) (ar p)) x=aQ (List.drop (p.length-k) (ar p)) x*x+cf (ar p) (p.length-1-k):=by
 rw[List.drop_eq_getElem_cons (by rw[aM];omega),show p.length-(k+1)+1=p.length-k by omega];have e:(ar p)[p.length-(k+1)]'(by rw[aM];omega)=cf (ar p) (p.length-1-k):=by
  unfold cf;rw[List.getD_eq_getElem?_getD,show p.length-1-k=p.length-(k+1) by omega,List.getElem?_eq_getElem (by rw[aM];omega)];rfl
 rw[e];rfl
theorem HG{p:List ND}{x:ND}{k:Nat}(hC:Sz QM p/\p.length<=100/\NOK x/\lq (bc x)<=QM)(hk:k<p.length){v:Rat}(hz:v=aQ (List.drop (p.length-k) (ar p)) (bc x)):eO (bj v) x/\eO (bj (v*bc x)) (bj (cf (ar p) (p.length-1-k))):=by
 obtain⟨h1,h2,h3,h4⟩:=hC;have e:QM=400000000:=rfl;have e2:QC=100000000000:=rfl;have hl:=xD (l:=List.drop (p.length-k) (ar p)) (x:=bc x) (K:=QM) (fun c hc=>by
  have hc':=List.mem_of_mem_drop hc;obtain⟨y,hy,rfl⟩:=List.mem_map.1 hc';exact(h1 y hy).2) h4
 rw[<- hz,List.length_drop,aM] at hl;have hm:=kX v (bc x);have hc:=h1.cf (by omega) (p.length-1-k);have h5:(p.length-(p.length-k))*(2*QM+1)<=100*(2*QM+1):=Nat.mul_le_mul_right _ (by omega);exact⟨⟨bL _,h3,by rw[aH];omega⟩,bL _,bL _,by rw[aH,aH];omega⟩
theorem K8(p:List ND)(x:Rat):aQ (List.drop (p.length-(bV p).length) (ar p)) x=aQ (ar p) x:=by
 rw[show (bV p).length=p.length by simp[bV],Nat.sub_self,List.drop_zero]
def jK(s b:List Rat)(c:Rat):List Rat:=bK (· + ·) (c6 s b) (aT [c])
def dE(p b:List Rat):Nat->List Rat
 |0=> []
 |k+1=>jK (dE p b k) b (cf p (p.length-1-k))
def eW(p b:List Rat):List Rat:=dE p b p.length
def Ds(s b:List ND)(c:ND):Prop:=Sz QM s/\Sz QM b/\s.length<=100/\b.length<=100/\NOK c/\lq (bc c)<=QM/\Sz QH (aI (c6 (ar s) (ar b)))
def uh(p b:List ND):Prop:=Sz QM p/\p.length<=100/\∀ k,k<p.length->Ds (aI (dE (ar p) (ar b) k)) b (bj (cf (ar p) (p.length-1-k)))
theorem ui(p q:List Rat):(c6 p q).length<=p.length+q.length:=by
 unfold c6;split;·simp
 ·rw[dV];omega
theorem HH{s b:List ND}{c:ND}(h:Ds s b c):(Sz QM s/\Sz QM b/\s.length<=100/\b.length<=100)/\(Sz QC [c]/\ [c].length<=QL)/\Sz QH (aI (c6 (ar s) (ar b)))/\Sz QH (aI (aT (ar [c])))/\(aI (c6 (ar s) (ar b))).length<=1000/\(aI (aT (ar [c]))).length<=1000:=by
 obtain⟨h1,h2,h3,h4,h5,h6,h7⟩:=h;have e:QM=400000000:=rfl;have e2:QC=100000000000:=rfl;have e3:QH=40000000000:=rfl;refine⟨⟨h1,h2,h3,h4⟩,⟨fun x hx=> ?_,by simp[QL]⟩,h7,fW fun x hx=> ?_,?_,?_⟩;·simp only[List.mem_singleton] at hx;subst hx;exact⟨h5,by omega⟩
 ·have:x=bc c:=by
   (simp only[ar,List.map_cons,List.map_nil,aT] at hx;split at hx;·simp at hx);·simpa using hx
  rw[this];omega
 ·rw[aF];have:=ui (ar s) (ar b);rw[aM,aM] at this;omega
 ·rw[aF];have:=df (ar [c]);rw[aM] at this;simp only[List.length_cons,List.length_nil] at this;omega
theorem K9(x:Rat)(i k:Nat):x^(i+k)=x^i*x^k:=by
 induction k with
 |zero=>rw[Nat.add_zero,Rat.pow_zero,Rat.mul_one]
 |succ k ih=>rw[<- Nat.add_assoc,Rat.pow_succ,Rat.pow_succ,ih,Rat.mul_assoc]
theorem gL(x:Rat):aQ [] x=0:=rfl
theorem fZ(c:Rat)(l:List Rat)(x:Rat):aQ (c::l) x=aQ l x*x+c:=rfl
theorem ov(c x:Rat):aQ [c] x=c:=by rw[fZ,gL];grind
theorem ow(l m:List Rat)(x:Rat):aQ (l++m) x=aQ l x+x^l.length*aQ m x:=by
 induction l with
 |nil=>simp only[List.nil_append,gL,List.length_nil];grind
 |cons c l ih=>simp only[List.cons_append,fZ,ih,List.length_cons];grind
theorem Dt(n:Nat)(x:Rat):aQ (List.replicate n 0) x=0:=by
 induction n with
 |zero=>rfl
 |succ n ih=>rw[List.replicate_succ,fZ,ih];grind
theorem ki(l:List Rat)(x:Rat):aQ (aT l) x=aQ l x:=by
 induction l with
 |nil=>rfl
 |cons c l ih=>
  rw[fZ,<- ih];simp only[aT];split
  ·(rename_i h;rw[h];split;·rename_i h0;rw[h0,gL];grind);·rw[ov,gL];grind
  ·rename_i y m h;rw[h,fZ]
theorem La(l:List Rat)(j:Nat)(y x:Rat)(h:j<l.length):aQ (l.set j y) x=aQ l x+(y-cf l j)*x^j:=by
 induction l generalizing j with
 |nil=>simp at h
 |cons c l ih=>
  cases j with
  |zero=>simp only[List.set_cons_zero,fZ,cf,List.getD_cons_zero];grind
  |succ j=>
   simp only[List.set_cons_succ,fZ];rw[ih j (by simpa using h)];(have:cf (c::l) (j+1)=cf l j:=by simp[cf]);rw[this];grind
theorem p7(l:List Rat)(k:Nat)(x:Rat)(h:k<l.length):aQ (l.take (k+1)) x=aQ (l.take k) x+cf l k*x^k:=by
 rw[List.take_succ_eq_append_getElem h,ow,ov,List.length_take,Nat.min_eq_left (by omega)];unfold cf;rw[List.getD_eq_getElem?_getD,List.getElem?_eq_getElem h];simp only[Option.getD_some];grind
theorem Lb(out:List Rat)(i:Nat)(a:Rat)(q:List Rat)(x:Rat):∀ k,k<=q.length->i+k<=out.length->aQ (cu out i a q k) x=aQ out x+a*x^i*aQ (q.take k) x
 |0,_,_=>by simp only[cu,List.take_zero,gL];grind
 |k+1,hk,h=>by
  rw[cu,La _ _ _ _ (by rw[iB];omega),Lb out i a q x k (by omega) (by omega),p7 q k x (by omega)];have:x^(i+k)=x^i*x^k:=K9 _ _ _;rw[this];grind
theorem uj(out:List Rat)(i:Nat)(a:Rat)(q:List Rat)(x:Rat)(h:i+q.length<=out.length):aQ (cu out i a q q.length) x=aQ out x+a*x^i*aQ q x:=by
 rw[Lb _ _ _ _ _ _ (Nat.le_refl _) h,List.take_length]
theorem ER(p q:List Rat)(x:Rat)(hq:0<q.length):∀ i,i<=p.length->aQ (mulN p q i) x=aQ (p.take i) x*aQ q x
 |0,_=>by rw[mulN,Dt,List.take_zero,gL];grind
 |i+1,h=>by
  rw[mulN,uj _ _ _ _ _ (by rw[dV];omega),ER p q x hq i (by omega),p7 p i x (by omega)];grind
theorem ox(p q:List Rat)(x:Rat):aQ (c6 p q) x=aQ p x*aQ q x:=by
 unfold c6;split;·rename_i h;rcases h with h|h<;>(subst h;simp only[gL];grind)
 ·rename_i h;have hq:0<q.length:=List.length_pos_iff.2 fun e=>h (.inr e);rw[ER p q x hq _ (Nat.le_refl _),List.take_length]
theorem lf(f:Nat->Rat)(x:Rat):∀ n,aQ ((List.range (n+1)).map f) x=aQ ((List.range n).map f) x+f n*x^n:=by
 intro n;rw[List.range_succ,List.map_append,ow];simp only[List.map_cons,List.map_nil,ov,List.length_map,List.length_range];grind
theorem dh{l:List Rat}{i:Nat}(h:l.length<=i):cf l i=0:=by
 unfold cf;rw[List.getD_eq_getElem?_getD,List.getElem?_eq_none h];rfl
theorem nB(l:List Rat)(x:Rat):∀ n,l.length<=n->aQ ((List.range n).map (cf l)) x=aQ l x:=by
 have h0:∀ n,n<=l.length->aQ ((List.range n).map (cf l)) x=aQ (l.take n) x:=by
  intro n;induction n with
  |zero=>intro _;rfl
  |succ n ih=>intro h;rw[lf,ih (by omega),p7 l n x (by omega)]
 intro n;induction n with
 |zero=>intro h;rw[h0 0 (by omega),show l= [] from List.eq_nil_of_length_eq_zero (by omega)];rfl
 |succ n ih=>
  intro h;by_cases h2:l.length<=n;·rw[lf,ih h2,dh h2];grind
  ·rw[h0 _ (by omega),List.take_of_length_le (by omega)]
theorem vQ(l m:List Rat)(x:Rat):∀ n,aQ (bM (· + ·) l m n) x=aQ ((List.range n).map (cf l)) x+aQ ((List.range n).map (cf m)) x
 |0=>by simp only[bM,List.range_zero,List.map_nil,gL];grind
 |n+1=>by
  have:=vQ l m x n;unfold bM at this ⊢;rw[lf,lf,lf,this];grind
theorem vR(l m:List Rat)(x:Rat):∀ n,aQ (bM (· - ·) l m n) x=aQ ((List.range n).map (cf l)) x-aQ ((List.range n).map (cf m)) x
 |0=>by simp only[bM,List.range_zero,List.map_nil,gL];grind
 |n+1=>by
  have:=vR l m x n;unfold bM at this ⊢;rw[lf,lf,lf,this];grind
theorem oy(l m:List Rat)(x:Rat):aQ (bK (· + ·) l m) x=aQ l x+aQ m x:=by
 rw[bK,ki,vQ,nB _ _ _ (by omega),nB _ _ _ (by omega)]
theorem xJ(l m:List Rat)(x:Rat):aQ (bK (· - ·) l m) x=aQ l x-aQ m x:=by
 rw[bK,ki,vR,nB _ _ _ (by omega),nB _ _ _ (by omega)]
theorem Lc:∀ {l:List Rat},l≠ []->aK l≠0->∃ d X:Rat,0<d/\1<=X/\∀ x,X<=x->d<=(aQ l x).abs
 | [],h,_=>absurd rfl h
 | [c],_,h=>by
  refine⟨c.abs,1,?_,by grind,fun x _=>by rw[ov];grind⟩;have:aK [c]=c:=rfl;rw[this] at h;unfold Rat.abs;split<;>grind
 |c::a::l,_,h=>by
  obtain⟨d,X,h1,h2,h3⟩:=Lc (l:=a::l) (by simp) (by simpa [aK] using h);refine⟨d,max X ((d+c.abs)/d),h1,by grind,fun x hx=> ?_⟩;have h4:=h3 x (by grind);have h5:(d+c.abs)/d<=x:=by grind
  have h6:d+c.abs<=x*d:=by
   have:=Rat.mul_le_mul_of_nonneg_right h5 (Rat.le_of_lt h1);rwa [Rat.div_mul_cancel (by grind)] at this
  have h7:1<=x:=by grind
  have h8:x*d<=x*(aQ (a::l) x).abs:=Rat.mul_le_mul_of_nonneg_left h4 (by grind);rw[fZ];generalize aQ (a::l) x=v at*;have h9:(v*x).abs=x*v.abs:=by
   by_cases hv:0<=v
   ·rw[Rat.abs_of_nonneg hv,Rat.abs_of_nonneg (Rat.mul_nonneg hv (by grind))];grind
   ·have h11:0<= -v*x:=Rat.mul_nonneg (by grind) (by grind);rw[Rat.abs_of_nonpos (by grind),Rat.abs_of_nonpos (by grind)];grind
  have h10:(v*x).abs<=(v*x+c).abs+c.abs:=by
   unfold Rat.abs;split<;>split<;>split<;>grind
  grind
theorem NN{l:List Rat}(h:Trm l)(h0:∀ x,aQ l x=0):l= []:=by
 by_cases hn:l= []
 ·exact hn
 ·obtain⟨d,X,h1,h2,h3⟩:=Lc hn (h hn);have:=h3 X (by grind);rw[h0 X] at this;rw[Rat.abs_zero] at this;grind
theorem mR(op:Rat->Rat->Rat)(l m:List Rat)(n i:Nat)(h:i<n):cf (bM op l m n) i=op (cf l i) (cf m i):=by
 unfold bM;conv=>lhs;unfold cf
 rw[List.getD_eq_getElem?_getD,List.getElem?_map,List.getElem?_range h];rfl
theorem ES(l:List Rat)(i:Nat):cf (aT l) i=cf l i:=by
 induction l generalizing i with
 |nil=>rfl
 |cons c l ih=>
  simp only[aT];split
  ·rename_i h;rw[h] at ih;(have h0:∀ j,cf l j=0:=fun j=>by rw[<- ih j];simp[cf]);split
   ·rename_i hc;cases i with
    |zero=>simp[cf,hc]
    |succ i=>have:=h0 i;simp only[cf,List.getD_cons_succ] at this ⊢;rw[this];simp
   ·cases i with
    |zero=>simp[cf]
    |succ i=>have:=h0 i;simp only[cf,List.getD_cons_succ] at this ⊢;rw[this];simp
  ·rename_i y m h;rw[h] at ih;cases i with
   |zero=>simp[cf]
   |succ i=>have:=ih i;simp only[cf,List.getD_cons_succ] at this ⊢;exact this
theorem PL{l m:List Rat}(hl:Trm l)(hm:Trm m)(h:∀ i,cf l i=cf m i):l=m:=by
 have hlen:∀ {l m:List Rat},Trm l->(∀ i,cf l i=cf m i)->l.length<=m.length:=by
  intro l m hl h;by_cases hn:l= [];·subst hn;simp
  ·have hp:=List.length_pos_iff.2 hn;have h1:=hl hn;rw[b7 hp,h] at h1;have: ¬m.length<=l.length-1:=fun e=>h1 (dh e);omega
 have e:l.length=m.length:=Nat.le_antisymm (hlen hl h) (hlen hm fun i=>(h i).symm);apply List.ext_getElem e;intro i h1 h2;have:=h i;unfold cf at this;rw[List.getD_eq_getElem?_getD,List.getD_eq_getElem?_getD,List.getElem?_eq_getElem h1,List.getElem?_eq_getElem h2] at this;exact this
theorem Ld{l m:List Rat}(hl:Trm l)(hm:Trm m)(h:∀ x,aQ l x=aQ m x):l=m:=by
 have h0:bK (· - ·) l m= []:=NN (k9 _) fun x=>by rw[xJ,h];grind
 refine PL hl hm fun i=> ?_;by_cases hi:i<max l.length m.length
 ·have h1:=ES (bM (· - ·) l m (max l.length m.length)) i;rw[show aT (bM (· - ·) l m (max l.length m.length))= [] from h0,mR _ _ _ _ _ hi] at h1;have:cf [] i=0:=by simp[cf]
  rw[this] at h1;grind
 ·rw[dh (by omega),dh (by omega)]
theorem xK:Trm []:=fun h=>absurd rfl h
theorem lT{l:List Rat}(h:Trm l):aT l=l:=by
 by_cases hn:l= []
 ·subst hn;rfl
 ·exact mO hn (h hn)
theorem jL(op:Rat->Rat->Rat)(l m:List Rat):Trm (bK op l m):=k9 _
theorem dZ(op:Rat->Rat->Rat)(l m:List Rat):(bK op l m).length<=max l.length m.length:=by
 have:=df (bM op l m (max l.length m.length));rw[eH] at this;exact this
theorem vS(p q:List Rat)(hq:0<q.length):∀ i,i<=p.length->∀ n,i+q.length<=n+1->cf (mulN p q i) n=0
 |0,_,n,_=>by
  rw[mulN];unfold cf;rw[List.getD_eq_getElem?_getD];by_cases h:n<p.length+q.length-1;·rw[List.getElem?_replicate,if_pos h];rfl
  ·rw[List.getElem?_eq_none (by simp;omega)];rfl
 |i+1,h,n,hn=>by
  rw[mulN,kg _ _ _ _ _ _ (by rw[dV];omega),if_neg (by omega)];exact vS p q hq i (by omega) n (by omega)
theorem Le{p q:List Rat}(hp:0<p.length)(hq:0<q.length):aK (mulN p q p.length)=aK p*aK q:=by
 obtain⟨n,hn⟩:∃ n,p.length=n+1:=⟨p.length-1,by omega⟩;rw[b7 (by rw[dV];omega),dV,hn,mulN,kg _ _ _ _ _ _ (by rw[dV];omega),if_pos (by omega),vS p q hq n (by omega) _ (by omega:n+q.length<=(n+1+q.length-1-1)+1)];rw[b7 hp,b7 hq,hn];have e1:n+1+q.length-1-1-n=q.length-1:=by omega
 have e2:n+1-1=n:=by omega
 rw[e1,e2];grind
theorem xL{p q:List Rat}(hp:p≠ [])(hq:q≠ []):c6 p q=mulN p q p.length:=by
 unfold c6;rw[if_neg];rintro(h|h);·exact hp h
 ·exact hq h
theorem lg{p q:List Rat}(hp:p≠ [])(hq:q≠ []):(c6 p q).length=p.length+q.length-1:=by
 rw[xL hp hq,dV]
theorem dM(q:List Rat):c6 [] q= []:=by unfold c6;rw[if_pos (.inl rfl)]
theorem kj(p:List Rat):c6 p []= []:=by unfold c6;rw[if_pos (.inr rfl)]
theorem HI{p q:List Rat}(hp:p≠ [])(hq:q≠ []):aK (c6 p q)=aK p*aK q:=by
 rw[xL hp hq,Le (List.length_pos_iff.2 hp) (List.length_pos_iff.2 hq)]
theorem z7{p q:List Rat}(hp:Trm p)(hq:Trm q):Trm (c6 p q):=by
 intro h;by_cases h1:p= [];·subst h1;exact absurd (dM q) h
 by_cases h2:q= []
 ·subst h2;exact absurd (kj p) h
 rw[HI h1 h2];have:=hp h1;have:=hq h2;grind
theorem Du{q r:List Rat}(h:q.length<=r.length)(x:Rat):aQ (aT (cl q r)) x=aQ r x-(aK r/aK q)*x^(r.length-q.length)*aQ q x:=by
 rw[ki,cl,uj _ _ _ _ _ (by omega)];grind
theorem z8{q:List Rat}(hq:0<q.length)(h0:aK q≠0)(x:Rat):∀ (n:Nat) (r s:List Rat),r.length<n->(∀ i,i+q.length<=r.length->cf s i=0)->r.length+1-q.length<=s.length->
  aQ (eQ q n r s).1 x*aQ q x+aQ (eQ q n r s).2 x=aQ s x*aQ q x+aQ r x
 |0,r,s,h,_,_=>absurd h (by omega)
 |n+1,r,s,h,hz,hs=>by
  rw[eQ];split;·rename_i hl;have h1:=fo hq hl h0;rw[z8 hq h0 x n _ _ (by omega) (fun i hi=>by rw[KV,if_neg (by omega)];exact hz i (by omega)) (by rw[List.length_set];omega)];rw[Du hl,La _ _ _ _ (by omega),hz _ (by omega)];grind
  ·rfl
theorem NO{p q:List Rat}(hq:q≠ [])(h0:Trm q)(x:Rat):aQ (divN p q).1 x*aQ q x+aQ (divN p q).2 x=aQ p x:=by
 unfold divN;rw[z8 (List.length_pos_iff.2 hq) (h0 hq) x _ _ _ (Nat.lt_succ_self _) (fun i _=> ?_) (by simp),Dt];·grind
 ·unfold cf;rw[List.getD_eq_getElem?_getD,List.getElem?_replicate];split<;>rfl
def Den(b:Nat)(l:List Rat):Prop:=∃ D:Int,D≠0/\lw D<=b/\∀ i,∃ n:Int,lw n<=b/\cf l i=Rat.divInt n D
theorem Den.mono{b c:Nat}{l:List Rat}(h:Den b l)(hc:b<=c):Den c l:=by
 obtain⟨D,h1,h2,h3⟩:=h;exact⟨D,h1,by omega,fun i=>by obtain⟨n,a,e⟩:=h3 i;exact⟨n,by omega,e⟩⟩
theorem Den.lq{b:Nat}{l:List Rat}(h:Den b l):∀ x∈l,lq x<=b:=by
 obtain⟨D,h1,h2,h3⟩:=h;intro x hx;obtain⟨i,hi,rfl⟩:=List.getElem_of_mem hx;obtain⟨n,a,e⟩:=h3 i;unfold cf at e;rw[List.getD_eq_getElem?_getD,List.getElem?_eq_getElem hi] at e;simp only[Option.getD_some] at e;rw[e];have:=ke n D h1;omega
theorem Den.sz{b k:Nat}{l:List Rat}(h:Den b l)(hk:b<=k):Sz k (aI l):=fW fun x hx=>Nat.le_trans (h.lq x hx) hk
theorem HJ{b:Nat}{l m:List Rat}(h:Den b l)(he:∀ i,cf m i=cf l i):Den b m:=by
 obtain⟨D,h1,h2,h3⟩:=h;exact⟨D,h1,h2,fun i=>by rw[he];exact h3 i⟩
theorem lh{b:Nat}{l:List Rat}(h:Den b l):Den b (aT l):=HJ h fun i=>ES l i
theorem p8{b:Nat}(hb:1<=b):Den b []:=⟨1,by decide,by rw[mJ];exact hb,fun i=>⟨0,by rw[gW];omega,by rw[Rat.zero_divInt];simp[cf]⟩⟩
theorem Den.pos{b:Nat}{l:List Rat}(h:Den b l):1<=b:=by
 obtain⟨D,h1,h2,_⟩:=h;have:lw D≠0:=fun e=>by have:=pA D;rw[e] at this;simp at this;omega
 omega
theorem vT{n D:Int}(hD:D≠0)(h:Rat.divInt n D≠0):n≠0:=fun e=>h (by rw[e,Rat.zero_divInt])
theorem Lf(a b:Int):lw (a-b)<=max (lw a) (lw b)+1:=by
 have:=tL a (-b);rw[KB] at this;exact this
theorem uk{b c:Nat}{q r:List Rat}(hr:Den b r)(hq:Den c q)(hl:q.length<=r.length)(h0:aK q≠0)(hp:0<q.length):Den (b+c+1) (aT (cl q r)):=by
 refine lh ?_;obtain⟨D,d1,d2,d3⟩:=hr;obtain⟨E,e1,e2,e3⟩:=hq;obtain⟨R,r1,r2⟩:=d3 (r.length-1);obtain⟨Q,q1,q2⟩:=e3 (q.length-1);rw[<- b7 (by omega)] at r2;rw[<- b7 hp] at q2;have hQ:Q≠0:=vT e1 (by rw[<- q2];exact h0);have hDQ:D*Q≠0:=Int.mul_ne_zero d1 hQ;refine⟨D*Q,hDQ,by have:=bU D Q;omega,fun i=> ?_⟩;unfold cl;rw[kg _ _ _ _ _ _ (by omega)];obtain⟨n,n1,n2⟩:=d3 i;split
 ·obtain⟨m,m1,m2⟩:=e3 (i-(r.length-q.length));refine⟨n*Q-R*m,?_,?_⟩;·have:=bU n Q;have:=bU R m;have:=Lf (n*Q) (R*m);omega
  ·rw[n2,m2,r2,q2];simp only[Rat.divInt_eq_div,Rat.intCast_mul,Rat.intCast_sub];(have f1:(D:Rat)≠0:=by simpa using d1);(have f2:(E:Rat)≠0:=by simpa using e1);(have f3:(Q:Rat)≠0:=by simpa using hQ);generalize (D:Rat)=D' at*;generalize (E:Rat)=E' at*;generalize (Q:Rat)=Q' at*;grind
 ·refine⟨n*Q,by have:=bU n Q;omega,?_⟩;rw[n2,Rat.divInt_mul_right hQ]
theorem vU{b:Nat}{l:List Rat}(h:Den b l)(ht:Trm l):Den b (cU l):=by
 by_cases hn:l= []
 ·subst hn;exact h
 have hp:=List.length_pos_iff.2 hn;obtain⟨D,d1,d2,d3⟩:=h;obtain⟨R,r1,r2⟩:=d3 (l.length-1);rw[<- b7 hp] at r2;have hR:R≠0:=vT d1 (by rw[<- r2];exact ht hn);refine⟨R,hR,r1,fun i=> ?_⟩;obtain⟨n,n1,n2⟩:=d3 i;refine⟨n,n1,?_⟩;have:cf (cU l) i=cf l i/aK l:=by
  unfold cU cf;simp only[List.getD_eq_getElem?_getD,List.getElem?_map];cases l[i]? with
  |none=>simp;grind
  |some x=>rfl
 rw[this,n2,r2];simp only[Rat.divInt_eq_div];have f1:(D:Rat)≠0:=by simpa using d1
 have f3:(R:Rat)≠0:=by simpa using hR
 generalize (D:Rat)=D' at*;generalize (R:Rat)=R' at*;grind
theorem Aa{c:Nat}{q:List Rat}(hq:Den c q)(hp:0<q.length)(h0:aK q≠0):∀ (n:Nat) (r s:List Rat) (b:Nat),Den b r->Den (b+(r.length+1-q.length)*(c+1)) (eQ q n r s).2
 |0,r,s,b,h=>h.mono (by omega)
 |n+1,r,s,b,h=>by
  rw[eQ];split;·rename_i hl;have h1:=fo hp hl h0;refine(Aa hq hp h0 n _ _ _ (uk h hq hl h0 hp)).mono ?_;(have h2:(aT (cl q r)).length+1-q.length+1<=r.length+1-q.length:=by omega);have h3:=Nat.mul_le_mul_right (c+1) h2;rw[Nat.add_mul] at h3;omega
  ·exact h.mono (by omega)
theorem xM{c:Nat}{q:List Rat}(hq:Den c q)(hp:0<q.length)(h0:aK q≠0):∀ (n:Nat) (r:List Rat) (b:Nat),Den b r->b+(r.length+1-q.length)*(c+1)<=QD->ua q n r
 |0,r,b,h,hb=>trivial
 |n+1,r,b,h,hb=>by
  refine⟨fun x hx=>by have:=h.lq x hx;omega,fun hl=> ?_⟩;have h1:=fo hp hl h0;refine xM hq hp h0 n _ _ (uk h hq hl h0 hp) ?_;have h2:(aT (cl q r)).length+1-q.length+1<=r.length+1-q.length:=by omega
  have h3:=Nat.mul_le_mul_right (c+1) h2;rw[Nat.add_mul] at h3;omega
theorem Lg{c K:Nat}{q:List Rat}(hq:Den c q)(hp:0<q.length)(h0:aK q≠0):∀ (n:Nat) (r s:List Rat) (b:Nat),Den b r->(∀ x∈s,lq x<=K)->b+(r.length+1-q.length)*(c+1)<=K->∀ x∈(eQ q n r s).1,lq x<=K
 |0,r,s,b,h,hs,hb=>hs
 |n+1,r,s,b,h,hs,hb=>by
  rw[eQ];split
  ·(rename_i hl;have h1:=fo hp hl h0;(have h2:(aT (cl q r)).length+1-q.length+1<=r.length+1-q.length:=by omega);have h3:=Nat.mul_le_mul_right (c+1) h2;rw[Nat.add_mul] at h3;refine Lg hq hp h0 n _ _ _ (uk h hq hl h0 hp) ?_ (by omega);intro x hx;rcases List.mem_or_eq_of_mem_set hx with hx|rfl;·exact hs x hx);·have h4:=xw (aK r) (aK q);have h5:=h.lq (aK r) (by rw[b7 (by omega)];exact tV (by omega));have h6:=hq.lq (aK q) (by rw[b7 hp];exact tV (by omega));omega
  ·exact hs
theorem Lh{p q:List ND}{b c:Nat}(hp:∀ x∈p,NOK x)(hq:∀ x∈q,NOK x)(dp:Den b (ar p))(dq:Den c (ar q))(l1:p.length<=900)(l2:q.length<=900)(hn:0<q.length)(tq:Trm (ar q))
  (hb:b+(p.length+1-q.length)*(c+1)<=QD) (hc:c<=QD):fY p q:=by
 have hQ:QD<=QC:=by unfold QD QC;omega
 have hne:ar q≠ []:=fun e=>by have:=congrArg List.length e;rw[aM,List.length_nil] at this;omega
 have hln:0<(ar q).length:=by rw[aM];exact hn
 refine⟨hp,?_,l1,l2,hn,tq hne,xM dq hln (tq hne) _ _ _ dp (by rw[aM,aM];exact hb)⟩;have:=dq.sz hc;rwa [xG hq] at this
theorem xN{p q:List Rat}{b c K:Nat}(dp:Den b p)(dq:Den c q)(hn:q≠ [])(tq:Trm q)(hb:b+(p.length+1-q.length)*(c+1)<=K)(hK:1<=K):(∀ x∈(divN p q).1,lq x<=K)/\Den K (divN p q).2:=by
 unfold divN;refine⟨Lg dq (List.length_pos_iff.2 hn) (tq hn) _ _ _ _ dp (fun x hx=> ?_) hb,(Aa dq (List.length_pos_iff.2 hn) (tq hn) _ _ _ _ dp).mono hb⟩;rw[(List.mem_replicate.1 hx).2];exact Nat.le_trans gX hK
theorem um(q:List Rat):∀ (n:Nat) (r s:List Rat),(eQ q n r s).1.length=s.length
 |0,_,_=>rfl
 |n+1,r,s=>by
  rw[eQ];split;·rw[um q n,List.length_set]
  ·rfl
theorem lU(p q:List Rat):(divN p q).1.length=p.length+1-q.length:=by
 unfold divN;rw[um];simp
theorem vV:∀ t:Nat,t+3<=3^(t+1)
 |0=>by decide
 |t+1=>by have:=vV t;rw[Nat.pow_succ];omega
theorem Ab:∀ (n:Nat) (p q:List Rat) (b:Nat),Den b p->Den b q->Trm p->Trm q->q.length<n->(b+1)*(p.length+1-q.length+1)*3^q.length<=QD->uc n p q/\Den ((b+1)*(p.length+1-q.length+1)*3^q.length) (eu n p q)
 |0,p,q,b,_,_,_,_,h,_=>absurd h (by omega)
 |n+1,p,q,b,dp,dq,tp,tq,hn,hb=>by
  have hpow:0<3^q.length:=Nat.pow_pos (by decide);have hb1:(b+1)*(p.length+1-q.length+1)<=QD:=Nat.le_trans (Nat.le_mul_of_pos_right _ hpow) hb;have hb2:b+(p.length+1-q.length)*(b+1)+1=(b+1)*(p.length+1-q.length+1):=by
   have e:=Nat.mul_add (b+1) (p.length+1-q.length) 1;rw[Nat.mul_one,Nat.mul_comm (b+1) (p.length+1-q.length)] at e;omega
  have hb3:b<=QD:=by
   have:0<=(p.length+1-q.length)*(b+1):=Nat.zero_le _;omega
  have hqh:QD<=QH:=by unfold QD QH;omega
  rw[uc,eu];by_cases hq:q= [];·rw[if_pos hq,if_pos hq];exact⟨fun x hx=>by have:=dp.lq x hx;omega,(vU dp tp).mono (Nat.le_trans (by omega:b<=(b+1)*(p.length+1-q.length+1)) (Nat.le_mul_of_pos_right _ hpow))⟩
  ·rw[if_neg hq,if_neg hq];have hl:=List.length_pos_iff.2 hq;have hs:=gv (p:=p) hl (tq hq);obtain⟨k1,k2⟩:=xN (K:=b+(p.length+1-q.length)*(b+1)) dp dq hq tq (Nat.le_refl _) (by have:=dp.pos;omega);have tr:=jI (q:=q) tp;have hm:=vU k2 tr;have hphi:(b+(p.length+1-q.length)*(b+1)+1)*(q.length+1-(cU (divN p q).2).length+1)*3^(cU (divN p q).2).length<=(b+1)*(p.length+1-q.length+1)*3^q.length:=by
    rw[hb2,b5];rw[Nat.mul_assoc];refine Nat.mul_le_mul_left _ ?_;obtain⟨t,ht⟩:∃ t,q.length=(divN p q).2.length+(t+1):=⟨q.length-(divN p q).2.length-1,by omega⟩;rw[ht,Nat.pow_add,Nat.mul_comm];refine Nat.mul_le_mul_left _ ?_;have:=vV t;omega
   obtain⟨g1,g2⟩:=Ab n q (cU (divN p q).2) _ (dq.mono (by omega)) hm tq (il tr) (by rw[b5];omega) (Nat.le_trans hphi hb);exact⟨⟨xM dq hl (tq hq) _ _ _ dp (by omega),fun x hx=>by have:=dq.lq x hx;omega,fun x hx=>by have:=k2.lq x hx;omega,g1⟩,g2.mono hphi⟩
theorem PM{p q:List ND}{b:Nat}(hp:∀ x∈p,NOK x)(hq:∀ x∈q,NOK x)(dp:Den b (ar p))(dq:Den b (ar q))(l1:p.length<=900)(l2:q.length<=900)(tp:Trm (ar p))(tq:Trm (ar q))
  (hb:(b+1)*(p.length+1-q.length+1)*3^q.length<=QD):iY p q/\Den ((b+1)*(p.length+1-q.length+1)*3^q.length) (cw (ar p) (ar q)):=by
 obtain⟨h1,h2⟩:=Ab (q.length+1) (ar p) (ar q) b dp dq tp tq (by rw[aM];omega) (by rw[aM,aM];exact hb);refine⟨⟨hp,hq,l1,l2,tp,tq,h1⟩,?_⟩;rw[aM,aM] at h2;unfold cw;rw[aM];exact h2
theorem den_add{b c:Nat}{l m:List Rat}(hl:Den b l)(hm:Den c m):Den (b+c+1) (bK (· + ·) l m):=by
 refine lh ?_;obtain⟨D,d1,d2,d3⟩:=hl;obtain⟨E,e1,e2,e3⟩:=hm;refine⟨D*E,Int.mul_ne_zero d1 e1,by have:=bU D E;omega,fun i=> ?_⟩;by_cases hi:i<max l.length m.length;·rw[mR _ _ _ _ _ hi];obtain⟨n,n1,n2⟩:=d3 i;obtain⟨k,k1,k2⟩:=e3 i;refine⟨n*E+k*D,by have:=bU n E;have:=bU k D;have:=tL (n*E) (k*D);omega,?_⟩;rw[n2,k2,Rat.divInt_add_divInt _ _ d1 e1]
 ·refine⟨0,by rw[gW];omega,?_⟩;rw[dh (by rw[eH];omega),Rat.zero_divInt]
theorem NP{b c:Nat}{l m:List Rat}(hl:Den b l)(hm:Den c m):Den (b+c+1) (bK (· - ·) l m):=by
 refine lh ?_;obtain⟨D,d1,d2,d3⟩:=hl;obtain⟨E,e1,e2,e3⟩:=hm;refine⟨D*E,Int.mul_ne_zero d1 e1,by have:=bU D E;omega,fun i=> ?_⟩;by_cases hi:i<max l.length m.length;·rw[mR _ _ _ _ _ hi];obtain⟨n,n1,n2⟩:=d3 i;obtain⟨k,k1,k2⟩:=e3 i;refine⟨n*E-k*D,by have:=bU n E;have:=bU k D;have:=Lf (n*E) (k*D);omega,?_⟩;rw[n2,k2,Rat.divInt_sub_divInt _ _ d1 e1]
 ·refine⟨0,by rw[gW];omega,?_⟩;rw[dh (by rw[eH];omega),Rat.zero_divInt]
theorem uo{a:Int}{b:Nat}(h:lw a<=b):(a.natAbs:Int)<=LB^b:=by
 have:=tB a h;omega
theorem Ac{b c:Nat}{p q:List Rat}{D E:Int}(d1:D≠0)(e1:E≠0)(hp:∀ i,∃ n:Int,lw n<=b/\cf p i=Rat.divInt n D)(hq:∀ i,∃ n:Int,lw n<=c/\cf q i=Rat.divInt n E)(hl:0<q.length):
  ∀ i,i<=p.length->∀ n,∃ N:Int,(N.natAbs:Int)<=i*(LB^b*LB^c)/\cf (mulN p q i) n=Rat.divInt N (D*E)
 |0,_,n=>⟨0,by simp,by
   (rw[Rat.zero_divInt];by_cases h:n<(mulN p q 0).length;·unfold mulN cf;rw[List.getD_eq_getElem?_getD,List.getElem?_replicate];split<;>rfl);·exact dh (by omega)⟩
 |i+1,h,n=>by
  obtain⟨N,h1,h2⟩:=Ac d1 e1 hp hq hl i (by omega) n;rw[mulN,kg _ _ _ _ _ _ (by rw[dV];omega)];have hpos:(0:Int)<=LB^b*LB^c:=Int.mul_nonneg (Int.le_of_lt (lbpos _)) (Int.le_of_lt (lbpos _));have e:((i+1:Nat):Int)*(LB^b*LB^c)=(i:Int)*(LB^b*LB^c)+LB^b*LB^c:=by rw[Int.natCast_add,Int.add_mul];simp
  rw[e];split
  ·obtain⟨x,x1,x2⟩:=hp i;obtain⟨y,y1,y2⟩:=hq (n-i);refine⟨N+x*y,?_,?_⟩
   ·have h3:=uo x1;have h4:=uo y1;have h5:(x.natAbs:Int)*(y.natAbs:Int)<=LB^b*LB^c:=by
     have h6:(x.natAbs:Int)*(y.natAbs:Int)<=LB^b*(y.natAbs:Int):=Int.mul_le_mul_of_nonneg_right h3 (by omega);have h7:LB^b*(y.natAbs:Int)<=LB^b*LB^c:=Int.mul_le_mul_of_nonneg_left h4 (Int.le_of_lt (lbpos _));omega
    have h8:(N+x*y).natAbs<=N.natAbs+(x*y).natAbs:=Int.natAbs_add_le _ _;rw[Int.natAbs_mul] at h8;have h9:((N+x*y).natAbs:Int)<=(N.natAbs:Int)+(x.natAbs:Int)*(y.natAbs:Int):=by
     rw[<- Int.natCast_mul];omega
    omega
   ·rw[h2,x2,y2,Rat.divInt_mul_divInt,Rat.divInt_add_divInt _ _ (Int.mul_ne_zero d1 e1) (Int.mul_ne_zero d1 e1),<- Int.add_mul,Rat.divInt_mul_right (Int.mul_ne_zero d1 e1)]
  ·exact⟨N,by omega,h2⟩
theorem den_mul{b c:Nat}{p q:List Rat}(hp:Den b p)(hq:Den c q)(hl:p.length<1000000000):Den (b+c+1) (c6 p q):=by
 have hb:=hp.pos;by_cases h1:p= [];·subst h1;rw[dM];exact p8 (by omega)
 by_cases h2:q= []
 ·subst h2;rw[kj];exact p8 (by omega)
 rw[xL h1 h2];obtain⟨D,d1,d2,d3⟩:=hp;obtain⟨E,e1,e2,e3⟩:=hq;refine⟨D*E,Int.mul_ne_zero d1 e1,by have:=bU D E;omega,fun n=> ?_⟩;obtain⟨N,k1,k2⟩:=Ac d1 e1 d3 e3 (List.length_pos_iff.2 h2) _ (Nat.le_refl _) n;refine⟨N,jH ?_,k2⟩;have k3:(0:Int)<LB^b*LB^c:=Int.mul_pos (lbpos _) (lbpos _);have k4:(p.length:Int)*(LB^b*LB^c)<LB*(LB^b*LB^c):=Int.mul_lt_mul_of_pos_right (by show (p.length:Int)<1000000000;omega) k3;have k5:(LB:Int)^(b+c+1)=LB*(LB^b*LB^c):=by rw[Int.pow_succ,Int.pow_add,Int.mul_comm]
 omega
theorem ET{b:Nat}{l:List Rat}(h:Den b l):(l.length<1000000000)->Den (b+1) (cq l):=by
 intro hl;obtain⟨D,d1,d2,d3⟩:=h;refine⟨D,d1,by omega,fun i=> ?_⟩;by_cases hi:i<l.length-1
 ·obtain⟨n,n1,n2⟩:=d3 (i+1);have:cf (cq l) i=cf l (i+1)*Rat.divInt ((i+1:Nat):Int) 1:=by
   (unfold cq mQ;conv=>lhs;unfold cf);rw[List.getD_eq_getElem?_getD,List.getElem?_map,List.getElem?_range hi];rfl
  refine⟨n*((i+1:Nat):Int),?_,?_⟩;·have h1:lw (((i+1:Nat):Int))<=1:=jH (by show _<(1000000000:Int)^1;omega);have:=bU n ((i+1:Nat):Int);omega
  ·rw[this,n2,Rat.divInt_mul_divInt,Int.mul_one]
 ·refine⟨0,by rw[gW];omega,?_⟩;rw[Rat.zero_divInt,dh];unfold cq mQ;simp;omega
theorem PN(a:Int):∀ n:Nat,lw (a^n)<=lw a*n+1
 |0=>by rw[Int.pow_zero,mJ];omega
 |n+1=>by
  by_cases hn:n=0
  ·subst hn;(have e:a^(0+1)=a:=by rw[Int.pow_succ,Int.pow_zero,Int.one_mul]);rw[e];omega
  ·have:=lw_pow' a n hn;rw[Int.pow_succ];have h2:=bU (a^n) a;rw[Nat.mul_succ];omega
where lw_pow' (a:Int):∀ n:Nat,n≠0->lw (a^n)<=lw a*n
 |0,h=>absurd rfl h
 |1,_=>by
  have e:a^1=a:=by rw[show (1:Nat)=0+1 from rfl,Int.pow_succ,Int.pow_zero,Int.one_mul]
  rw[e];omega
 |n+2,_=>by
  have h1:=lw_pow' a (n+1) (by omega);rw[Int.pow_succ];have h2:=bU (a^(n+1)) a;rw[Nat.mul_succ];omega
end Go.Cm
end
section
namespace Go.Cm
open Go.Proofs
def cP(p:List (List UInt8)):Int:=
 if 41<p.length then 40 else if p.all (fun q=>decide (cO q=0))=false then 40
 else if p≠ []/\p.getLastD []= [48] then 40 else 0
def bk(p:List (List UInt8)):List Rat:=if cP p=0 then p.map bg else []
def de(p:List (List UInt8)):Prop:=p.length<=QL/\∀ q∈p,q.length<=QL
theorem oz{q:List UInt8}(h:cO q=0)(hl:q.length<=QL):eU q/\gC q=bj (bg q):=by
 have:RQ q:=⟨by rw[h];decide,hl⟩;exact⟨this.form,this.raw⟩
theorem Dv{p:List (List UInt8)}{k:Nat}(hk:k<p.length)(h:(p.take k).all (fun q=>decide (cO q=0))=true)(hb:cO (nth .str p (k:Int))=0):(p.take (k+1)).all (fun q=>decide (cO q=0))=true:=by
 have e:nth .str p (k:Int)=p[k]:=fV (t:= .str) hk;rw[List.take_succ_eq_append_getElem hk,List.all_append,h];rw[e] at hb;simp[hb]
theorem HM{p:List (List UInt8)}{k:Nat}(hk:k<p.length)(h41:p.length<=41)(hb: ¬cO (nth .str p (k:Int))=0):cP p=40:=by
 have e:nth .str p (k:Int)=p[k]:=fV (t:= .str) hk;rw[e] at hb;unfold cP;rw[if_neg (by omega),if_pos];rw[List.all_eq_false];exact⟨p[k],List.getElem_mem hk,by simpa using hb⟩
theorem uq{p:List (List UInt8)}(hs:de p)(h:p.all (fun q=>decide (cO q=0))=true):(∀ q∈p,eU q)/\p.map gC=aI (p.map bg):=by
 rw[List.all_eq_true] at h;refine⟨fun q hq=>(oz (by simpa using h q hq) (hs.2 q hq)).1,?_⟩;unfold aI;rw[List.map_map];exact List.map_congr_left fun q hq=>(oz (by simpa using h q hq) (hs.2 q hq)).2
theorem Dw{p:List (List UInt8)}(hl:p.length<=41):(decide ((0:Int)<(p.length:Int))=true->decide ((0:Int)<(p.length:Int))=true)/\(decide ((0:Int)<(p.length:Int))=true->decide ((0:Int)<(p.length:Int))=true)/\(decide ((0:Int)<(p.length:Int))=true->decide ((0:Int)<(p.length:Int))=true/\0<=IntKind.i64.wrap ((p.length:Int)-1)/\IntKind.i64.wrap ((p.length:Int)-1)<(p.length:Int))/\(decide ((0:Int)<(p.length:Int))=true->decide ((0:Int)<(p.length:Int))=true):=by
 refine⟨id,id,fun h=> ?_,id⟩;have h2:=of_decide_eq_true h;rw[cb (by omega)];exact⟨h,by omega,by omega⟩
theorem ur{p:List (List UInt8)}(h:cP p=40): []=aI (bk p)/\40=cP p:=by
 refine⟨?_,h.symm⟩;unfold bk;rw[if_neg (by rw[h];decide)];rfl
theorem Dx{p:List (List UInt8)}(h:41<p.length):cP p=40:=by unfold cP;rw[if_pos h]
theorem pF{p:List (List UInt8)}(hl:p.length<=41)(h:0<p.length):nth .str p (IntKind.i64.wrap ((p.length:Int)-1))=p.getLastD []:=by
 rw[cb (by omega),show (p.length:Int)-1=((p.length-1:Nat):Int) by omega,fV (t:= .str) (by omega)];rw[List.getLastD_eq_getLast?,List.getLast?_eq_getElem?,List.getElem?_eq_getElem (by omega)];rfl
theorem Dy{p:List (List UInt8)}(hl:p.length<=41)(ha:p.all (fun q=>decide (cO q=0))=true)(h:0<(p.length:Int)/\nth .str p (IntKind.i64.wrap ((p.length:Int)-1))= [48]):cP p=40:=by
 rw[pF hl (by omega)] at h;unfold cP;rw[if_neg (by omega),if_neg (by rw[ha];decide),if_pos];refine⟨fun e=> ?_,h.2⟩;rw[e] at h;exact absurd h.1 (by decide)
theorem Li{p:List (List UInt8)}(hs:de p)(hl:p.length<=41)(ha:p.all (fun q=>decide (cO q=0))=true)(h:0<(p.length:Int)-> ¬nth .str p (IntKind.i64.wrap ((p.length:Int)-1))= [48]):p.map gC=aI (bk p)/\0=cP p:=by
 have hc:cP p=0:=by
  unfold cP;rw[if_neg (by omega),if_neg (by rw[ha];decide),if_neg];intro h2;have h3:0<p.length:=by cases p with|nil=>exact absurd rfl h2.1|cons=>simp
  exact h (by omega) (by rw[pF hl h3];exact h2.2)
 refine⟨?_,hc.symm⟩;unfold bk;rw[if_pos hc];exact(uq hs ha).2
end Go.Cm
namespace Go.Cm
open Go.Proofs
def bP:List (List (List UInt8))->Int
 | []=>0
 |p::l=>if cP p=0 then bP l else cP p
def gP(l:List (List (List UInt8))):List (List ND):=if bP l=0 then l.map fun p=>aI (bk p) else []
theorem Lj{l:List (List (List UInt8))}(h:∀ p∈l,cP p=0):bP l=0:=by
 induction l with
 |nil=>rfl
 |cons a l ih=>
  unfold bP;rw[if_pos (h a (by simp))];exact ih fun p hp=>h p (by simp[hp])
theorem HN{l:List (List (List UInt8))}{k:Nat}(hk:k<l.length)(h:(l.take k).all (fun p=>decide (cP p=0))=true)(hb: ¬cP l[k]=0):bP l=cP l[k]:=by
 induction l generalizing k with
 |nil=>simp at hk
 |cons a l ih=>
  unfold bP;cases k with
  |zero=>exact if_neg hb
  |succ k=>
   simp only[List.take_succ_cons,List.all_cons,Bool.and_eq_true,decide_eq_true_eq] at h;rw[if_pos h.1];exact ih (by simpa using hk) h.2 (by simpa using hb)
end Go.Cm
namespace Go.Cm
open Go.Proofs
theorem uu{l:List (List (List UInt8))}{k:Nat}(hl:l.length<=1000)(hk:k<l.length)(g:(l.take k).all (fun p=>decide (cP p=0))=true)(hb:cP (nth (.slice .str) l (k:Int))=0):
  IntKind.i64.wrap ((k:Int)+1)=((k+1:Nat):Int)/\(l.take k).map (fun p=>aI (bk p))++ [aI (bk (nth (.slice .str) l (k:Int)))]=(l.take (k+1)).map (fun p=>aI (bk p))/\k+1<=l.length/\(l.take (k+1)).all (fun p=>decide (cP p=0))=true/\l.length-(k+1)<l.length-k:=by
 have e:nth (.slice .str) l (k:Int)=l[k]:=fV (t:= .slice .str) hk;rw[e] at hb ⊢;refine⟨wi (by omega) (by omega),?_,hk,?_,by omega⟩;·rw[List.take_succ_eq_append_getElem hk,List.map_append];rfl
 ·rw[List.take_succ_eq_append_getElem hk,List.all_append,g];simp[hb]
theorem Ad{l:List (List (List UInt8))}{k:Nat}(hk:k<l.length)(g:(l.take k).all (fun p=>decide (cP p=0))=true)(hb: ¬cP (nth (.slice .str) l (k:Int))=0): []=gP l/\cP (nth (.slice .str) l (k:Int))=bP l:=by
 have e:nth (.slice .str) l (k:Int)=l[k]:=fV (t:= .slice .str) hk;rw[e] at hb ⊢;have h:=HN hk g hb;refine⟨?_,h.symm⟩;unfold gP;rw[if_neg (by rw[h];exact hb)]
theorem Lk{l:List (List (List UInt8))}(g:l.all (fun p=>decide (cP p=0))=true):l.map (fun p=>aI (bk p))=gP l/\0=bP l:=by
 have h:bP l=0:=Lj fun p hp=>by
  rw[List.all_eq_true] at g;simpa using g p hp
 refine⟨?_,h.symm⟩;unfold gP;rw[if_pos h]
end Go.Cm
namespace Go.Cm
open Go.Proofs
theorem Ae{l:List (List (List UInt8))}(hl:l.length<=1000)(hk:0<l.length)(hb:cP (nth (.slice .str) l 0)=0):
  IntKind.i64.wrap (0+1)=((1:Nat):Int)/\ [aI (bk (nth (.slice .str) l 0))]=(l.take 1).map (fun p=>aI (bk p))/\1<=l.length/\(l.take 1).all (fun p=>decide (cP p=0))=true/\l.length-1<l.length+1:=by
 have h:=uu (k:=0) hl hk rfl hb;exact⟨h.1,h.2.1,hk,h.2.2.2.1,by omega⟩
theorem HO{l:List (List (List UInt8))}(hk:0<l.length)(hb: ¬cP (nth (.slice .str) l 0)=0): []=gP l/\cP (nth (.slice .str) l 0)=bP l:=Ad (k:=0) hk rfl hb
theorem HP{l:List (List (List UInt8))}(h: ¬0<l.length): []=gP l/\0=bP l:=by
 cases l with
 |nil=>exact⟨rfl,rfl⟩
 |cons=>simp at h
end Go.Cm
namespace Go.Cm
open Go.Proofs
def cD(l:List Rat):Int:=if 41<l.length then 3 else if dD (aI l)=true then 0 else 6
def iZ(l:List Rat):List (List UInt8):=if cD l=0 then l.map aS else []
theorem Dz{l:List Rat}(h:41<l.length): []=iZ l/\3=cD l:=by
 have e:cD l=3:=by unfold cD;rw[if_pos h]
 exact⟨by unfold iZ;rw[if_neg (by rw[e];decide)],e.symm⟩
theorem HQ{l:List Rat}(h: ¬41<l.length)(hf:dD (aI l)=false): []=iZ l/\6=cD l:=by
 have e:cD l=6:=by unfold cD;rw[if_neg h,if_neg (by rw[hf];decide)]
 exact⟨by unfold iZ;rw[if_neg (by rw[e];decide)],e.symm⟩
theorem Ll{l:List Rat}(h: ¬41<l.length)(hf:dD (aI l)=true):(if dD (aI l)=true then (aI l).map fun x=>aS (bc x) else [])=iZ l/\0=cD l:=by
 have e:cD l=0:=by unfold cD;rw[if_neg h,if_pos hf]
 refine⟨?_,e.symm⟩;unfold iZ;rw[if_pos e,if_pos hf,aI,List.map_map];exact List.map_congr_left fun x _=>by simp only[Function.comp,aH]
end Go.Cm
namespace Go.Cm
open Go.Proofs
theorem im{l:List Rat}:∀ x∈aT l,x∈l:=by
 induction l with
 |nil=>intro x hx;exact hx
 |cons a l ih=>
  intro x hx;unfold aT at hx;split at hx
  ·(split at hx;·simp at hx);·simp at hx;simp[hx]
  ·(rename_i h;rcases List.mem_cons.1 hx with h2|h2;·simp[h2]);·exact List.mem_cons_of_mem _ (ih x (by rw[h];exact h2))
theorem HR{p:List ND}(h:Sz QC p/\p.length<=QL)(hl: ¬41<(aT (ar p)).length):(aI (aT (ar p))).length<QL/\∀ x∈aI (aT (ar p)),NOK x/\lq (bc x)<=QC:=by
 refine⟨by rw[aF];unfold QL;omega,?_⟩;refine fW (k:=QC) fun x hx=> ?_;obtain⟨y,hy,rfl⟩:=List.mem_map.1 (im x hx);exact(h.1 y hy).2
end Go.Cm
end
section
namespace Go.Cm
open Go.Proofs
def da(f:List Rat->List Rat->List Rat)(p q:List (List UInt8)):Int:=if bP [p,q]=0 then cD (aT (f (bk p) (bk q))) else bP [p,q]
def db(f:List Rat->List Rat->List Rat)(p q:List (List UInt8)):List (List UInt8):=if bP [p,q]=0 then iZ (aT (f (bk p) (bk q))) else []
def bO(D:List ND->List ND->Prop)(f:List Rat->List Rat->List Rat)(p q:List (List UInt8)):Prop:=
 de p/\de q/\(bP [p,q]=0->D (aI (bk p)) (aI (bk q))/\Sz QC (aI (f (bk p) (bk q)))/\(f (bk p) (bk q)).length<=QL)
theorem oA{p q:List (List UInt8)}(h:bP [p,q]=0):gP [p,q]= [aI (bk p),aI (bk q)]:=by
 unfold gP;rw[if_pos h];rfl
theorem iC{f:List Rat->List Rat->List Rat}{p q:List (List UInt8)}(h: ¬bP [p,q]=0): []=db f p q/\bP [p,q]=da f p q:=by
 unfold db da;rw[if_neg h,if_neg h];exact⟨rfl,rfl⟩
theorem kk{f:List Rat->List Rat->List Rat}{p q:List (List UInt8)}(h:bP [p,q]=0):iZ (aT (f (bk p) (bk q)))=db f p q/\cD (aT (f (bk p) (bk q)))=da f p q:=by
 unfold db da;rw[if_pos h,if_pos h];exact⟨rfl,rfl⟩
end Go.Cm
namespace Go.Cm
open Go.Proofs
theorem i6{p q:List (List UInt8)}(h:bP [p,q]=0):nth (.slice NT) (gP [p,q]) 0=aI (bk p):=by rw[oA h];rfl
theorem i7{p q:List (List UInt8)}(h:bP [p,q]=0):nth (.slice NT) (gP [p,q]) 1=aI (bk q):=by rw[oA h];rfl
theorem gD{p q:List (List UInt8)}(h:bP [p,q]=0):(gP [p,q]).length=2:=by rw[oA h];rfl
end Go.Cm
namespace Go.Cm
open Go.Proofs
theorem gE{p q:List (List UInt8)}(hp:de p)(hq:de q): [p,q].length<=1000/\∀ x∈ [p,q],de x:=by
 refine⟨by simp,fun x hx=> ?_⟩;simp only[List.mem_cons,List.not_mem_nil,or_false] at hx;rcases hx with rfl|rfl;·exact hp
 ·exact hq
end Go.Cm
end
section
namespace Go.Cm
open Go.Proofs
theorem Af(n:Int):∀ c∈Lib.itoa n,c≠47:=by
 obtain⟨d1,_,_,_⟩:=iy n.natAbs;intro c hc;unfold Lib.itoa at hc;split at hc
 ·rcases List.mem_cons.1 hc with h|h;·rw[h];decide
  ·have:=d1 c h;intro hc;rw[hc] at this;revert this;decide
 ·have e:n.toNat=n.natAbs:=by omega
  rw[e] at hc;have:=d1 c hc;intro hc;rw[hc] at this;revert this;decide
theorem Lm{a b:List UInt8}(h:∀ c∈a,c≠47):tN (a++47::b)=a/\ca (a++47::b)=true:=by
 constructor
 ·unfold tN;induction a with
  |nil=>simp
  |cons c l ih=>
   have:=h c (by simp);rw[List.cons_append,List.takeWhile_cons,if_pos (by simpa using this),ih fun d hd=>h d (by simp[hd])]
 ·unfold ca;simp
theorem uv{a:List UInt8}(h:∀ c∈a,c≠47):ca a=false:=by
 unfold ca;rw[List.any_eq_false];intro c hc;simpa using h c hc
theorem ja(x:Rat):tN (aS x)=Lib.itoa x.num/\tD (aS x)=Lib.itoa (x.den:Int)/\ca (aS x)= !decide (x.den=1):=by
 unfold aS;by_cases h:x.den=1
 ·rw[if_pos h];have hs:=uv (Af x.num);refine⟨tQ hs,?_,by rw[hs,h];rfl⟩;unfold tD;rw[hs,h,if_neg (by decide)];have h0: [49]=Lib.itoa ((1:Nat):Int):=by decide+kernel
  exact h0
 ·rw[if_neg h,List.append_assoc];obtain⟨h1,h2⟩:=Lm (b:=Lib.itoa (x.den:Int)) (Af x.num);rw[show [47]++Lib.itoa (x.den:Int)=47::Lib.itoa (x.den:Int) from rfl];refine⟨h1,?_,by rw[h2];simp[h]⟩;unfold tD;rw[if_pos h2];unfold tR;rw[h1,List.drop_append,List.drop_of_length_le (by omega)];simp
theorem cx(x:Rat):bg (aS x)=x:=by
 obtain⟨h1,h2,_⟩:=ja x;unfold bg;rw[h1,h2,(bd _).2,(bd _).2];exact Rat.num_divInt_den x
theorem jM(x:Rat):cO (aS x)=eV x:=by
 obtain⟨h1,h2,h3⟩:=ja x;unfold cO;rw[h1,h2,(bd _).2,(bd _).2,if_neg,if_neg]
 ·unfold eV cz;by_cases h:cB x.num<=2000/\cB (x.den:Int)<=2000;·rw[if_neg (by omega),if_pos (decide_eq_true h)]
  ·rw[if_pos (by omega),if_neg (by simpa using h)]
 ·rintro⟨hs,h⟩;have hg:cC x.num (x.den:Int)=1:=by
   rw[<- kY,Int.gcd_comm];have:=x.reduced;unfold Nat.Coprime at this;unfold Int.gcd;rw[Int.natAbs_natCast,this];rfl
  rw[h3] at hs;have h4: ¬x.den=1:=by simpa using hs
  have:=x.den_pos;rcases h with h|h;·omega
  ·exact h hg
 ·rintro(h|h);·exact(bd x.num).1 h
  ·exact(bd (x.den:Int)).1 h
theorem dN{x:Rat}:eV x=0↔cz x=true:=by
 unfold eV;split;·rename_i h;simp[h]
 ·rename_i h;simp[h]
theorem vW{q:List UInt8}(h:cO q=0)(hl:q.length<=QL):aS (bg q)=q/\cz (bg q)=true:=by
 have hr:RQ q:=⟨by rw[h];decide,hl⟩;obtain⟨p1,p2⟩:=hr.parts;obtain⟨f1,f2,_⟩:=hr.form;have hc:=hr.chk;rw[h] at hc;constructor
 ·unfold aS;cases hs:ca q
  ·(have e:tD q= [49]:=by unfold tD;rw[hs];rfl);rw[e,nz] at p2;rw[if_pos (by omega),p1,tQ hs];rw[tQ hs] at f1;exact ie f1
  ·have h5: ¬an (tD q)<=1:=by
    (intro hle;unfold cO at h;split at h;·exact absurd h (by decide));·rw[if_pos ⟨hs, .inl hle⟩] at h;exact absurd h (by decide)
   rw[if_neg (by omega),p1,p2,ie f1,ie f2];have h6:=k8 hs;rw[if_pos hs] at h6;rw[<- h6];have hcut:∀ q:List UInt8,ca q=true->tN q++ [47]++tR q=q:=by
    intro q hq;induction q with
    |nil=>simp[ca] at hq
    |cons c l ih=>
     by_cases hc:c=47
     ·subst hc;simp[tN,tR]
     ·(have h2:ca l=true:=by simpa [ca,hc] using hq);(have h3:tN (c::l)=c::tN l:=by simp[tN,hc]);(have h4:tR (c::l)=tR l:=by unfold tR;rw[h3];simp);rw[h3,h4];have:=ih h2;simpa using this
   exact hcut q hs
 ·unfold cz;rw[decide_eq_true_eq,p1,p2];split at hc;·exact absurd hc (by decide)
  ·omega
theorem iD{x:Rat}:aS x= [48]↔x=0:=by
 have h0:aS 0= [48]:=by decide+kernel
 constructor;·intro h;have:=cx x;rw[h,<- h0,cx] at this;exact this.symm
 ·rintro rfl;exact h0
def txP(l:List Rat):List (List UInt8):=l.map aS
def mq(l:List Rat):Bool:=l.all cz
theorem HS(l:List Rat):dD (aI l)=mq l:=by
 unfold dD mq aI;rw[List.all_map];congr 1;funext x;simp[aH]
theorem cp(l:List Rat):(txP l).length=l.length:=by simp[txP]
theorem EU(l:List Rat):(txP l).map bg=l:=by
 unfold txP;rw[List.map_map];conv=>rhs;rw[<- List.map_id l]
 exact List.map_congr_left fun x _=>cx x
theorem Ag{l:List Rat}(h:l≠ []):(txP l).getLastD []=aS (aK l):=by
 unfold txP aK;rw[List.getLastD_eq_getLast?,List.getLastD_eq_getLast?,List.getLast?_map,List.getLast?_eq_some_getLast h];rfl
theorem EV(l:List Rat):(txP l).all (fun q=>decide (cO q=0))=mq l:=by
 unfold txP mq;rw[List.all_map];congr 1;funext x;simp only[Function.comp,jM];rw[Bool.eq_iff_iff,decide_eq_true_iff,dN]
theorem EW{l:List Rat}(hl:l.length<=41)(ht:Trm l)(hf:mq l=true):cP (txP l)=0/\bk (txP l)=l:=by
 have hc:cP (txP l)=0:=by
  unfold cP;rw[if_neg (by rw[cp];omega),if_neg (by rw[EV,hf];decide),if_neg];rintro⟨h1,h2⟩;have hn:l≠ []:=fun e=>h1 (by rw[e];rfl);rw[Ag hn,iD] at h2;exact ht hn h2
 refine⟨hc,?_⟩;unfold bk;rw[if_pos hc,EU]
theorem NQ{p:List (List UInt8)}(hs:de p)(h:cP p=0):txP (bk p)=p/\(bk p).length<=41/\Trm (bk p)/\mq (bk p)=true:=by
 unfold cP at h;split at h;·exact absurd h (by decide)
 rename_i h1;split at h;·exact absurd h (by decide)
 rename_i h2;split at h;·exact absurd h (by decide)
 rename_i h3;have h2:p.all (fun q=>decide (cO q=0))=true:=by simpa using h2
 have hn:bk p=p.map bg:=by
  unfold bk;rw[if_pos];unfold cP;rw[if_neg h1,if_neg (by rw[h2];decide),if_neg h3]
 have ht:txP (p.map bg)=p:=by
  unfold txP;rw[List.map_map];conv=>rhs;rw[<- List.map_id p]
  rw[List.all_eq_true] at h2;exact List.map_congr_left fun q hq=>(vW (by simpa using h2 q hq) (hs.2 q hq)).1
 rw[hn];refine⟨ht,by rw[List.length_map];omega,fun hne hl=>h3 ⟨fun e=>hne (by rw[e];rfl),?_⟩,?_⟩;·rw[<- ht,Ag hne,iD];exact hl
 ·rw[<- EV,ht,h2]
theorem EX{n:Int}{k:Nat}(h:lw n<=k)(hk:9*k+1<=2000):cB n<=2000:=by
 have h1:=uo h;rw[Nh] at h1;have h0:=pA n;rw[dA];have h2:n.natAbs<10^(9*k):=by
  have:=tB n h;rw[Nh] at this;omega
 have:=xu h2;omega
theorem jb{x:Rat}(h:lq x<=222):cz x=true:=by
 have:=dL x;have:=dt x;exact decide_eq_true ⟨EX (k:=222) (by omega) (by omega),EX (k:=222) (by omega) (by omega)⟩
theorem Ah{l:List Rat}{b:Nat}(h:Den b l)(hb:b<=222):mq l=true:=by
 unfold mq;rw[List.all_eq_true];exact fun x hx=>jb (Nat.le_trans (h.lq x hx) hb)
structure Pol (l:List Rat):Prop where
 len:l.length<=41
 trm:Trm l
 fit:mq l=true
theorem Pol.chk{l:List Rat}(h:Pol l):cP (txP l)=0:=(EW h.len h.trm h.fit).1
theorem Pol.num{l:List Rat}(h:Pol l):bk (txP l)=l:=(EW h.len h.trm h.fit).2
theorem jN{x:Rat}{k:Nat}(h:lq x<=k):(aS x).length<=18*k+5:=by
 have h1:=ff x.num;have h2:=ff (x.den:Int);have:=dL x;have:=dt x;unfold aS;split;·omega
 ·simp only[List.length_append,List.length_cons,List.length_nil];omega
theorem Ln{n:Int}{K:Nat}(hn:((Lib.decDigits n.natAbs).length:Int)<=(K:Int)):lw n<=K:=by
 refine jH ?_;obtain⟨d1,d2,_,_⟩:=iy n.natAbs;have h2:=eT d1;rw[d2] at h2;have h3:(10:Nat)^(Lib.decDigits n.natAbs).length<=10^K:=Nat.pow_le_pow_right (by omega) (by omega);have h4:(10:Nat)^K<=1000000000^K:=Nat.pow_le_pow_left (by omega) _;have h5:(LB^K:Int)=((1000000000^K:Nat):Int):=by rw[Int.natCast_pow];rfl
 rw[h5];exact_mod_cast Nat.lt_of_lt_of_le h2 (Nat.le_trans h3 h4)
theorem p9{x:Rat}(h:cz x=true):lq x<=2000:=by
 unfold cz at h;rw[decide_eq_true_eq,dA,dA] at h;exact Nat.max_le.2 ⟨Ln h.1,Ln h.2⟩
theorem Pol.lq{l:List Rat}(h:Pol l):∀ x∈l,lq x<=2000:=by
 have:=h.fit;unfold mq at this;rw[List.all_eq_true] at this;exact fun x hx=>p9 (this x hx)
theorem Pol.short{l:List Rat}(h:Pol l):de (txP l):=by
 have e:QL=1000000000:=rfl;refine⟨by rw[cp];have:=h.len;omega,fun q hq=> ?_⟩;obtain⟨x,hx,rfl⟩:=List.mem_map.1 hq;have:=jN (h.lq x hx);omega
theorem EY:Pol []:=⟨by simp,xK,rfl⟩
theorem vX{l m:List Rat}(hl:Pol l)(hm:Pol m):bP [txP l,txP m]=0:=by
 simp only[bP,hl.chk,hm.chk,if_true]
theorem nC{f:List Rat->List Rat->List Rat}{l m:List Rat}(hl:Pol l)(hm:Pol m){r:List Rat}(hr:aT (f l m)=r)(hp:Pol r):db f (txP l) (txP m)=txP r/\da f (txP l) (txP m)=0:=by
 have he:cD r=0:=by
  unfold cD;rw[if_neg (by have:=hp.len;omega),if_pos (by rw[HS];exact hp.fit)]
 unfold db da;rw[if_pos (vX hl hm),if_pos (vX hl hm),hl.num,hm.num,hr];unfold iZ;rw[if_pos he];exact⟨rfl,he⟩
theorem iE{D:List ND->List ND->Prop}{f:List Rat->List Rat->List Rat}{l m:List Rat}(hl:Pol l)(hm:Pol m)(hD:D (aI l) (aI m))(hs:∀ x∈f l m,Cm.lq x<=QC)(hn:(f l m).length<=QL):bO D f (txP l) (txP m):=by
 refine⟨hl.short,hm.short,fun _=> ?_⟩;rw[hl.num,hm.num];exact⟨hD,fW hs,hn⟩
theorem Pol.enc_ok{l:List Rat}{k:Nat}(h:Pol l)(hk:2000<=k):Sz k (aI l):=fW fun x hx=>Nat.le_trans (h.lq x hx) hk
theorem EZ{l m:List Rat}(hl:Pol l)(hm:Pol m):bO (fun p q=>Sz QH p/\Sz QH q/\p.length<=1000/\q.length<=1000) (bK (· + ·)) (txP l) (txP m):=by
 have e1:QH=40000000000:=rfl;have e2:QL=1000000000:=rfl;have h1:=hl.len;have h2:=hm.len;have hs1:=hl.enc_ok (k:=QH) (by omega);have hs2:=hm.enc_ok (k:=QH) (by omega);refine iE hl hm ⟨hs1,hs2,by rw[aF];omega,by rw[aF];omega⟩ ?_ (by have:=dZ (· + ·) l m;omega);intro x hx;have h3:=xB zS hs1 hs2 (max l.length m.length);rw[aJ,aJ] at h3;have h4:=im x hx;have h5:=(h3 (bj x) (List.mem_map.2 ⟨x,h4,rfl⟩)).2;rwa [aH] at h5
theorem E0{l m:List Rat}(hl:Pol l)(hm:Pol m):bO (fun p q=>Sz QH p/\Sz QH q/\p.length<=1000/\q.length<=1000) (bK (· - ·)) (txP l) (txP m):=by
 have e1:QH=40000000000:=rfl;have e2:QL=1000000000:=rfl;have h1:=hl.len;have h2:=hm.len;have hs1:=hl.enc_ok (k:=QH) (by omega);have hs2:=hm.enc_ok (k:=QH) (by omega);refine iE hl hm ⟨hs1,hs2,by rw[aF];omega,by rw[aF];omega⟩ ?_ (by have:=dZ (· - ·) l m;omega);intro x hx;have h3:=xB zT hs1 hs2 (max l.length m.length);rw[aJ,aJ] at h3;have h4:=im x hx;have h5:=(h3 (bj x) (List.mem_map.2 ⟨x,h4,rfl⟩)).2;rwa [aH] at h5
theorem E1{l m:List Rat}(hl:Pol l)(hm:Pol m):bO (fun p q=>Sz QM p/\Sz QM q/\p.length<=100/\q.length<=100) c6 (txP l) (txP m):=by
 have e1:QM=400000000:=rfl;have e2:QL=1000000000:=rfl;have e3:QC=100000000000:=rfl;have h1:=hl.len;have h2:=hm.len;refine iE hl hm ⟨hl.enc_ok (by omega),hm.enc_ok (by omega),by rw[aF];omega,by rw[aF];omega⟩ ?_ (by have:=ui l m;omega);intro x hx;unfold c6 at hx;split at hx;·simp at hx
 ·have h3:=KW (K:=2000) (fun n=>kz hl.lq (by omega) n) (fun n=>kz hm.lq (by omega) n) l.length (Nat.le_refl _) x hx;have h4:l.length*(2*2000+1)<=41*(2*2000+1):=Nat.mul_le_mul_right _ h1;omega
def dvE(p q:List (List UInt8)):Int:=
 if bP [p,q]=0 then
  if bk q= [] then 2
  else if cD (aT (divN (bk p) (bk q)).1)=0 then cD (aT (divN (bk p) (bk q)).2) else cD (aT (divN (bk p) (bk q)).1)
 else bP [p,q]
def dvS(p q:List (List UInt8)):List (List UInt8):=if dvE p q=0 then iZ (aT (divN (bk p) (bk q)).1) else []
def dvR(p q:List (List UInt8)):List (List UInt8):=if dvE p q=0 then iZ (aT (divN (bk p) (bk q)).2) else []
structure Lo (p q:List (List UInt8)):Prop where
 sp:de p
 sq:de q
 ok:bP [p,q]=0->bk q≠ []->fY (aI (bk p)) (aI (bk q))/\(Sz QC (aI (divN (bk p) (bk q)).1)/\(aI (divN (bk p) (bk q)).1).length<=QL)/\(Sz QC (aI (divN (bk p) (bk q)).2)/\(aI (divN (bk p) (bk q)).2).length<=QL)
theorem Lp{p q:List (List UInt8)}(h: ¬bP [p,q]=0): []=dvS p q/\ []=dvR p q/\bP [p,q]=dvE p q:=by
 have e:dvE p q=bP [p,q]:=if_neg h;refine⟨?_,?_,e.symm⟩;·unfold dvS;rw[if_neg (by rw[e];exact h)]
 ·unfold dvR;rw[if_neg (by rw[e];exact h)]
theorem Lq{p q:List (List UInt8)}(h:bP [p,q]=0)(h2:(aI (bk q)).length=0): []=dvS p q/\ []=dvR p q/\2=dvE p q:=by
 have hq:bk q= []:=by rw[aF] at h2;exact List.eq_nil_of_length_eq_zero h2
 have e:dvE p q=2:=by unfold dvE;rw[if_pos h,if_pos hq]
 refine⟨?_,?_,e.symm⟩;·unfold dvS;rw[if_neg (by rw[e];decide)]
 ·unfold dvR;rw[if_neg (by rw[e];decide)]
theorem NR{q:List (List UInt8)}(h2: ¬ (aI (bk q)).length=0):bk q≠ []:=by
 intro h;rw[h] at h2;exact h2 rfl
theorem NS{p q:List (List UInt8)}(h:bP [p,q]=0)(h2:bk q≠ [])(h3: ¬cD (aT (divN (bk p) (bk q)).1)=0): []=dvS p q/\ []=dvR p q/\cD (aT (divN (bk p) (bk q)).1)=dvE p q:=by
 have e:dvE p q=cD (aT (divN (bk p) (bk q)).1):=by unfold dvE;rw[if_pos h,if_neg h2,if_neg h3]
 refine⟨?_,?_,e.symm⟩;·unfold dvS;rw[if_neg (by rw[e];exact h3)]
 ·unfold dvR;rw[if_neg (by rw[e];exact h3)]
theorem Lr{p q:List (List UInt8)}(h:bP [p,q]=0)(h2:bk q≠ [])(h3:cD (aT (divN (bk p) (bk q)).1)=0):dvE p q=cD (aT (divN (bk p) (bk q)).2):=by
 unfold dvE;rw[if_pos h,if_neg h2,if_pos h3]
theorem NU{p q:List (List UInt8)}(h:bP [p,q]=0)(h2:bk q≠ [])(h3:cD (aT (divN (bk p) (bk q)).1)=0)(h4: ¬cD (aT (divN (bk p) (bk q)).2)=0): []=dvS p q/\ []=dvR p q/\cD (aT (divN (bk p) (bk q)).2)=dvE p q:=by
 have e:=Lr h h2 h3;refine⟨?_,?_,e.symm⟩;·unfold dvS;rw[if_neg (by rw[e];exact h4)]
 ·unfold dvR;rw[if_neg (by rw[e];exact h4)]
theorem NV{p q:List (List UInt8)}(h:bP [p,q]=0)(h2:bk q≠ [])(h3:cD (aT (divN (bk p) (bk q)).1)=0)(h4:cD (aT (divN (bk p) (bk q)).2)=0):
  iZ (aT (divN (bk p) (bk q)).1)=dvS p q/\iZ (aT (divN (bk p) (bk q)).2)=dvR p q/\0=dvE p q:=by
 have e:=Lr h h2 h3;rw[h4] at e;refine⟨?_,?_,e.symm⟩;·unfold dvS;rw[if_pos e]
 ·unfold dvR;rw[if_pos e]
def iF(p q:List (List UInt8)):Prop:=cP p=0/\cP q=0/\0<p.length/\0<q.length/\40<(p.length-1)*(q.length-1)
instance (p q:List (List UInt8)):Decidable (iF p q):=by unfold iF;infer_instance
def lj(p q:List (List UInt8)):Int:=if iF p q then 3 else da eW p q
def pG(p q:List (List UInt8)):List (List UInt8):=if iF p q then [] else db eW p q
structure qc (p q:List (List UInt8)):Prop where
 sp:de p
 sq:de q
 ok: ¬iF p q->bO uh eW p q
theorem vY{p q:List (List UInt8)}(hp:cP p=0)(hq:cP q=0)(h1:0<p.length)(h2:0<q.length):IntKind.i64.wrap (IntKind.i64.wrap ((p.length:Int)-1)*IntKind.i64.wrap ((q.length:Int)-1))=(((p.length-1)*(q.length-1):Nat):Int):=by
 have k1:p.length<=41:=by
  unfold cP at hp;split at hp;·exact absurd hp (by decide)
  ·omega
 have k2:q.length<=41:=by
  unfold cP at hq;split at hq;·exact absurd hq (by decide)
  ·omega
 rw[cb (by omega),cb (by omega)];have e1:(p.length:Int)-1=((p.length-1:Nat):Int):=by omega
 have e2:(q.length:Int)-1=((q.length-1:Nat):Int):=by omega
 rw[e1,e2,<- Int.natCast_mul];have h3:(p.length-1)*(q.length-1)<=40*40:=Nat.mul_le_mul (by omega) (by omega);generalize (p.length-1)*(q.length-1)=n at*;exact wi (by omega) (by omega)
theorem Ls{p q:List (List UInt8)}{b:Bool}(h:(cP p==0&&cP q==0&&decide ((0:Int)<(p.length:Int))&&decide ((0:Int)<(q.length:Int))&&decide ((40:Int)<IntKind.i64.wrap (IntKind.i64.wrap ((p.length:Int)-1)*IntKind.i64.wrap ((q.length:Int)-1))))=b):decide (iF p q)=b:=by
 rw[<- h];clear h;unfold iF;by_cases h1:cP p=0
 ·by_cases h2:cP q=0
  ·by_cases h3:0<p.length
   ·by_cases h4:0<q.length
    ·rw[vY h1 h2 h3 h4,Bool.eq_iff_iff];simp only[h1,h2,h3,h4,true_and,decide_eq_true_eq,Bool.and_eq_true,beq_self_eq_true];generalize (p.length-1)*(q.length-1)=n;omega
    ·(have: ¬ (0:Int)<(q.length:Int):=by omega);simp[h4]
   ·(have: ¬ (0:Int)<(p.length:Int):=by omega);simp[h3]
  ·simp[h2]
 ·simp[h1]
theorem PO{p q:List (List UInt8)}(h:iF p q): []=pG p q/\3=lj p q:=by
 unfold pG lj;rw[if_pos h,if_pos h];exact⟨rfl,rfl⟩
theorem PP{p q:List (List UInt8)}(h: ¬iF p q):db eW p q=pG p q/\da eW p q=lj p q:=by
 unfold pG lj;rw[if_neg h,if_neg h];exact⟨rfl,rfl⟩
def evE(p:List (List UInt8))(x:List UInt8):Int:=if bP [p]=0 then if cO x=0 then eV (aQ (bk p) (bg x)) else cO x else bP [p]
def evS(p:List (List UInt8))(x:List UInt8):List UInt8:=if evE p x=0 then aS (aQ (bk p) (bg x)) else []
structure vZ (p:List (List UInt8)) (x:List UInt8):Prop where
 sp:de p
 sx:x.length<=QL
 ok:bP [p]=0->cO x=0->Sz QM (aI (bk p))/\(bk p).length<=100/\lq (bg x)<=QM/\lq (aQ (bk p) (bg x))<=QC
theorem Lt{p:List (List UInt8)}(h:bP [p]=0):gP [p]= [aI (bk p)]:=by
 unfold gP;rw[if_pos h];rfl
theorem Qr{p:List (List UInt8)}(h:bP [p]=0):nth (.slice NT) (gP [p]) 0=aI (bk p):=by rw[Lt h];rfl
theorem PQ{p:List (List UInt8)}(h:bP [p]=0):(gP [p]).length=1:=by rw[Lt h];rfl
theorem Lu{p:List (List UInt8)}{x:List UInt8}(h:vZ p x): [p].length<=1000/\∀ y∈ [p],de y:=
 ⟨by simp,fun y hy=>by rw[List.mem_singleton] at hy;subst hy;exact h.sp⟩
theorem PR{p:List (List UInt8)}{x:List UInt8}(h: ¬bP [p]=0): []=evS p x/\bP [p]=evE p x:=by
 have e:evE p x=bP [p]:=if_neg h;exact⟨by unfold evS;rw[if_neg (by rw[e];exact h)],e.symm⟩
theorem NW{p:List (List UInt8)}{x:List UInt8}(h:bP [p]=0)(h2: ¬cO x=0): []=evS p x/\cO x=evE p x:=by
 have e:evE p x=cO x:=by unfold evE;rw[if_pos h,if_neg h2]
 exact⟨by unfold evS;rw[if_neg (by rw[e];exact h2)],e.symm⟩
theorem PS{p:List (List UInt8)}{x:List UInt8}(h:bP [p]=0)(h2:cO x=0)(h3:cz (aQ (bk p) (bg x))=false): []=evS p x/\6=evE p x:=by
 have e:evE p x=6:=by unfold evE;rw[if_pos h,if_pos h2];unfold eV;rw[h3];rfl
 exact⟨by unfold evS;rw[if_neg (by rw[e];decide)],e.symm⟩
theorem NX{p:List (List UInt8)}{x:List UInt8}(h:bP [p]=0)(h2:cO x=0)(h3:cz (aQ (bk p) (bg x))=true):aS (aQ (bk p) (bg x))=evS p x/\0=evE p x:=by
 have e:evE p x=0:=by unfold evE;rw[if_pos h,if_pos h2];unfold eV;rw[h3];rfl
 exact⟨by unfold evS;rw[if_pos e],e.symm⟩
theorem Lv{p:List Rat}{x:Rat}{y:List UInt8}(c1:eU y)(k1:Sz QM (aI p))(k2:p.length<=100)(k3:lq x<=QM)(k4:lq (aQ p x)<=QC):
  ((0:Int)<=0/\(0:Int)<((1:Nat):Int))/\eU y/\(Sz QM (aI p)/\(aI p).length<=100/\NOK (bj x)/\lq x<=QM)/\1<QL/\∀ z:ND,z∈ [bj (aQ p x)]->NOK z/\lq (bc z)<=QC:=by
 refine⟨by decide,c1,⟨k1,by rw[aF];exact k2,bL _,k3⟩,by unfold QL;decide,fun z hz=> ?_⟩;rw[List.mem_singleton] at hz;subst hz;rw[aH];exact⟨bL _,k4⟩
theorem HT{x:Rat}(h:dD [bj x]=true)(y:List UInt8):(0:Int)<=0/\(0:Int)<((if dD [bj x]=true then [y] else []).length:Int):=by
 rw[if_pos h];simp
theorem NY{p:List (List UInt8)}{x:List UInt8}(h:bP [p]=0)(h2:cO x=0)(h3:cz (aQ (bk p) (bg x))=true):nth Ty.str (if cz (aQ (bk p) (bg x))=true then [aS (aQ (bk p) (bg x))] else []) 0=evS p x/\0=evE p x:=by
 rw[if_pos h3];exact NX h h2 h3
theorem Ai(q:Rat):dD [bj q]=cz q:=by unfold dD;simp[aH]
structure Sml (n b:Nat) (l:List Rat):Prop where
 len:l.length<=n
 trm:Trm l
 den:Den b l
theorem Sml.pol{n b:Nat}{l:List Rat}(h:Sml n b l)(hn:n<=41)(hb:b<=222):Pol l:=⟨Nat.le_trans h.len hn,h.trm,Ah h.den hb⟩
theorem Sml.mul{n m k b c:Nat}{l l2:List Rat}(h:Sml n b l)(h2:Sml m c l2)(hn:n<1000)(hk:n+m<=k+1)(hm:1<=m)(hn1:1<=n):Sml k (b+c+1) (c6 l l2):=by
 refine⟨?_,z7 h.trm h2.trm,den_mul h.den h2.den (by have:=h.len;omega)⟩;by_cases h3:l= [];·rw[h3,dM];simp
 by_cases h4:l2= []
 ·rw[h4,kj];simp
 rw[lg h3 h4];have:=h.len;have:=h2.len;omega
theorem Sml.add{n m b c:Nat}{l l2:List Rat}(h:Sml n b l)(h2:Sml m c l2):Sml (max n m) (b+c+1) (bK (· + ·) l l2):=
 ⟨by have:=dZ (· + ·) l l2;have:=h.len;have:=h2.len;omega,jL _ _ _,den_add h.den h2.den⟩
theorem Sml.sub{n m b c:Nat}{l l2:List Rat}(h:Sml n b l)(h2:Sml m c l2):Sml (max n m) (b+c+1) (bK (· - ·) l l2):=
 ⟨by have:=dZ (· - ·) l l2;have:=h.len;have:=h2.len;omega,jL _ _ _,NP h.den h2.den⟩
theorem xO{K:Nat}(hK:1<=K):∀ l:List Rat,(∀ x∈l,lq x<=K)->Den (l.length*K+1) l
 | [],_=>p8 (by omega)
 |a::l,h=>by
  obtain⟨D,d1,d2,d3⟩:=xO hK l fun x hx=>h x (List.mem_cons_of_mem _ hx);have ha:=h a (List.mem_cons_self ..);have h1:=dL a;have h2:=dt a;have e:(a::l).length*K+1=l.length*K+1+K:=by rw[List.length_cons,Nat.add_mul];omega
  refine⟨D*a.den,Int.mul_ne_zero d1 (ee a),by rw[e];have:=bU D a.den;omega,fun i=> ?_⟩;cases i with
  |zero=>
   refine⟨a.num*D,by rw[e];have:=bU a.num D;omega,?_⟩;(have e1:cf (a::l) 0=a:=by simp[cf]);rw[e1,Int.mul_comm D,Rat.divInt_mul_right d1];exact(Rat.num_divInt_den a).symm
  |succ i=>
   obtain⟨n,n1,n2⟩:=d3 i;refine⟨n*a.den,by rw[e];have:=bU n a.den;omega,?_⟩;(have e1:cf (a::l) (i+1)=cf l i:=by simp[cf]);rw[e1,n2,Rat.divInt_mul_right (ee a)]
theorem PT{l:List Rat}{n K:Nat}(hn:l.length<=n)(ht:Trm l)(hK:1<=K)(h:∀ x∈l,lq x<=K):Sml n (n*K+1) l:=
 ⟨hn,ht,(xO hK l h).mono (by have:=Nat.mul_le_mul_right K hn;omega)⟩
theorem E2{n b m c:Nat}{l q:List Rat}(hl:Sml n b l)(hq:Sml m c q)(pl:Pol l)(pq:Pol q)(hb:(max b c+1)*(n+2)*3^m<=QD):bO iY cw (txP l) (txP q)/\iY (aI l) (aI q)/\Den ((max b c+1)*(n+2)*3^m) (cw l q):=by
 have e1:QD=10000000000:=rfl;have e2:QC=100000000000:=rfl;have e3:QL=1000000000:=rfl;have hll:=hl.len;have hlq:=hq.len;have pl1:=pl.len;have pq1:=pq.len;have hbd:(max b c+1)*(l.length+1-q.length+1)*3^q.length<=QD:=by
  refine Nat.le_trans (Nat.mul_le_mul (Nat.mul_le_mul (Nat.le_refl _) (by omega:_<=n+2)) (Nat.pow_le_pow_right (by omega) hlq)) hb
 obtain⟨g1,g2⟩:=PM (p:=aI l) (q:=aI q) (b:=max b c) (kh _) (kh _) (by rw[aJ];exact hl.den.mono (by omega)) (by rw[aJ];exact hq.den.mono (by omega)) (by rw[aF];omega) (by rw[aF];omega) (by rw[aJ];exact hl.trm) (by rw[aJ];exact hq.trm) (by rw[aF,aF];exact hbd);rw[aJ,aJ,aF,aF] at g2;have g2:=g2.mono (Nat.le_refl _);refine⟨iE pl pq g1 (fun x hx=>by have:=g2.lq x hx;omega) ?_,g1,g2.mono (Nat.mul_le_mul (Nat.mul_le_mul (Nat.le_refl _) (by omega:_<=n+2)) (Nat.pow_le_pow_right (by omega) hlq))⟩;have key:∀ (k:Nat) (a b:List Rat),a.length<=900->b.length<=900->Trm b->(eu k a b).length<=900:=by
  intro k;induction k with
  |zero=>intro a b ha _ _;rw[eu,b5];exact ha
  |succ k ih=>
   intro a b ha hb tb;rw[eu];split;·rw[b5];exact ha
   ·rename_i hne;by_cases hta:Trm a;·have:=gv (p:=a) (List.length_pos_iff.2 hne) (tb hne);exact ih _ _ hb (by rw[b5];omega) (il (jI hta))
    ·have h3:=gv (p:=a) (List.length_pos_iff.2 hne) (tb hne);have:∀ (k:Nat) (a b:List Rat),a.length<=900->b.length<=900->(eu k a b).length<=900:=by
      intro k;induction k with
      |zero=>intro a b ha _;rw[eu,b5];exact ha
      |succ k ih2=>
       intro a b ha hb;rw[eu];split;·rw[b5];exact ha
       ·refine ih2 _ _ hb ?_;rw[b5];have hlen:∀ (q:List Rat) (n:Nat) (r s:List Rat),(eQ q n r s).2.length<=r.length:=by
         intro q n;induction n with
         |zero=>intro r s;exact Nat.le_refl _
         |succ n ih3=>
          (intro r s;rw[eQ];split;·have h5:=ih3 (aT (cl q r)) (s.set (r.length-q.length) (aK r/aK q));have h6:=df (cl q r);rw[eI] at h6;omega);·exact Nat.le_refl _
        have:=hlen b (a.length+1) a (List.replicate (a.length+1-b.length) 0);unfold divN;omega
     exact this _ _ _ hb (by rw[b5];omega)
 have:=key (q.length+1) l q (by omega) (by omega) hq.trm;unfold cw;omega
theorem lV(l:List Rat):(cq l).length=l.length-1:=by unfold cq mQ;simp
theorem PU{l:List Rat}{i:Nat}(h:i<l.length-1):cf (cq l) i=cf l (i+1)*((i+1:Nat):Rat):=by
 unfold cq mQ;conv=>lhs;unfold cf
 rw[List.getD_eq_getElem?_getD,List.getElem?_map,List.getElem?_range h];show cf l (i+1)*Rat.divInt ((i+1:Nat):Int) 1=_;rw[Rat.divInt_eq_div,Rat.intCast_natCast];rw[show ((1:Int):Rat)=1 from rfl];grind
theorem E3{l:List Rat}(h:Trm l):Trm (cq l):=by
 intro hn;have h1:=List.length_pos_iff.2 hn;rw[lV] at h1;have h2:l≠ []:=fun e=>by rw[e] at h1;simp at h1
 have h3:=h h2;rw[b7 (by omega)] at h3;rw[b7 (by rw[lV];omega),lV,PU (by omega),show l.length-1-1+1=l.length-1 by omega];have h4:((l.length-1:Nat):Rat)≠0:=by
  intro e;have:(l.length-1:Nat)=0:=by exact_mod_cast e
  omega
 intro e;rcases Rat.mul_eq_zero.1 e with e|e;·exact h3 e
 ·exact h4 e
theorem Sml.der{n b:Nat}{l:List Rat}(h:Sml n b l)(hn:n<1000000000):Sml (n-1) (b+1) (cq l):=
 ⟨by rw[lV];have:=h.len;omega,E3 h.trm,ET h.den (by have:=h.len;omega)⟩
theorem NZ{l:List Rat}(hl:Pol l):bO (fun p _=>Sz QH p/\p.length<=1000) (fun a _=>cq a) (txP l) []:=by
 have e1:QH=40000000000:=rfl;have e2:QL=1000000000:=rfl;have e3:QC=100000000000:=rfl;have hln:=hl.len;refine iE (m:= []) hl EY ⟨hl.enc_ok (by omega),by rw[aF];omega⟩ ?_ (by show (cq l).length<=_;rw[lV];omega);intro x hx;have hd:=ET (xO (K:=2000) (by omega) l hl.lq) (by omega);have:=hd.lq x hx;have h4:l.length*2000<=41*2000:=Nat.mul_le_mul_right _ hln;omega
theorem Lw{l:List Rat}(hl:Pol l){x:Rat}(hx:cz x=true):vZ (txP l) (aS x):=by
 have e1:QM=400000000:=rfl;have e2:QL=1000000000:=rfl;have e3:QC=100000000000:=rfl;have hln:=hl.len;have hxl:=p9 hx;refine⟨hl.short,by have:=jN hxl;omega,fun _ _=> ?_⟩;rw[hl.num,cx];refine⟨hl.enc_ok (by omega),by omega,by omega,?_⟩;have h1:=xD hl.lq hxl;have h4:l.length*(2*2000+1)<=41*(2*2000+1):=Nat.mul_le_mul_right _ hln;omega
theorem Lx{l:List Rat}(hl:Pol l){x:Rat}(hx:cz x=true):evE (txP l) (aS x)=eV (aQ l x)/\evS (txP l) (aS x)=iA (aQ l x):=by
 have hc:bP [txP l]=0:=by unfold bP;rw[if_pos hl.chk];rfl
 have hq:cO (aS x)=0:=by rw[jM,dN];exact hx
 have e:evE (txP l) (aS x)=eV (aQ l x):=by unfold evE;rw[if_pos hc,if_pos hq,hl.num,cx]
 refine⟨e,?_⟩;unfold evS;rw[e,hl.num,cx];unfold iA;by_cases h:cz (aQ l x)=true;·rw[if_pos h,if_pos (dN.2 h)]
 ·rw[if_neg h,if_neg (fun e=>h (dN.1 e))]
theorem v7:∀ (n:Nat) (p q:List Rat),Trm p->Trm q->Trm (eu n p q)
 |0,p,q,tp,tq=>by rw[eu];exact il tp
 |n+1,p,q,tp,tq=>by
  rw[eu];split;·exact il tp
  ·exact v7 n _ _ tq (il (jI tp))
theorem Ly{p q:List Rat}(tp:Trm p)(tq:Trm q):Trm (cw p q):=v7 _ _ _ tp tq
theorem uw(q:List Rat):∀ (n:Nat) (r s:List Rat),(eQ q n r s).2.length<=r.length
 |0,r,s=>Nat.le_refl _
 |n+1,r,s=>by
  rw[eQ];split;·have h5:=uw q n (aT (cl q r)) (s.set (r.length-q.length) (aK r/aK q));have h6:=df (cl q r);rw[eI] at h6;omega
  ·exact Nat.le_refl _
theorem v8:∀ (n:Nat) (p q:List Rat),(eu n p q).length<=max p.length q.length
 |0,p,q=>by rw[eu,b5];omega
 |n+1,p,q=>by
  rw[eu];split;·rw[b5];omega
  ·have h1:=v8 n q (cU (divN p q).2);have h2:=uw q (p.length+1) p (List.replicate (p.length+1-q.length) 0);rw[b5] at h1;unfold divN at h1 ⊢;omega
theorem Lz(p q:List Rat):(cw p q).length<=max p.length q.length:=v8 _ _ _
theorem oC{l:List Rat}:cU l= []↔l= []:=by
 unfold cU;simp
theorem wa:∀ (n:Nat) (p q:List Rat),q.length<n->(p≠ []∨q≠ [])->eu n p q≠ []
 |0,p,q,h,_=>absurd h (by omega)
 |n+1,p,q,h,hne=>by
  rw[eu];split
  ·(rename_i hq;intro e;rw[oC] at e;rcases hne with h1|h1;·exact h1 e);·exact h1 hq
  ·rename_i hq;by_cases ht:(cU (divN p q).2).length<n;·exact wa n _ _ ht (.inl hq)
   ·
    have key:∀ (k:Nat) (a b:List Rat),a≠ []->eu k a b≠ []:=by
     intro k;induction k with
     |zero=>intro a b ha e;rw[eu,oC] at e;exact ha e
     |succ k ih=>
      (intro a b ha;rw[eu];split;·intro e;rw[oC] at e;exact ha e);·rename_i hb;exact ih _ _ hb
    exact key n _ _ hq
theorem E4{p q:List Rat}(h:p≠ []∨q≠ []):cw p q≠ []:=wa _ _ _ (Nat.lt_succ_self _) h
theorem PV{n b c:Nat}{l:List Rat}(hl:Sml n b l)(pl:Pol l)(hg:iY (aI l) (aI (cq l)))(dg:Den c (cw l (cq l)))(hK:b+(n+1)*(c+1)<=QD):mo (aI l)/\(∀ x∈(divN l (cw l (cq l))).1,lq x<=QD):=by
 have e1:QD=10000000000:=rfl;have e2:QH=40000000000:=rfl;have hll:=hl.len;have pl1:=pl.len;have hcK:c<=QD:=by
  have:1*(c+1)<=(n+1)*(c+1):=Nat.mul_le_mul_right _ (by omega);omega
 have hgl:=Lz l (cq l);rw[lV] at hgl;have tg:=Ly hl.trm (E3 hl.trm);have hq1:l≠ []->∀ x∈(divN l (cw l (cq l))).1,lq x<=QD:=by
  intro h;have hbd:b+(l.length+1-(cw l (cq l)).length)*(c+1)<=QD:=by
   have:(l.length+1-(cw l (cq l)).length)*(c+1)<=(n+1)*(c+1):=Nat.mul_le_mul_right _ (by omega);omega
  exact(xN hl.den dg (E4 (.inl h)) tg hbd (by omega)).1
 refine⟨fun hne=> ?_,?_⟩
 ·have h:l≠ []:=fun e=>hne (by rw[e];rfl);rw[aJ,aF];have hgn:=E4 (q:=cq l) (.inl h);have hbd:b+(l.length+1-(cw l (cq l)).length)*(c+1)<=QD:=by
   have:(l.length+1-(cw l (cq l)).length)*(c+1)<=(n+1)*(c+1):=Nat.mul_le_mul_right _ (by omega);omega
  refine⟨pl.enc_ok (by omega),by omega,hg,Lh (b:=b) (c:=c) (kh _) (kh _) (by rw[aJ];exact hl.den) (by rw[aJ];exact dg) (by rw[aF];omega) (by rw[aF];omega) (by rw[aF];exact List.length_pos_iff.2 hgn) (by rw[aJ];exact tg) (by rw[aF,aF];exact hbd) hcK,?_⟩;refine⟨fW fun x hx=>by have:=hq1 h x hx;omega,by rw[aF,lU];omega,fun hq=> ?_⟩;rw[aJ];have hlen:=lU l (cw l (cq l));have hsn:(divN l (cw l (cq l))).1≠ []:=fun e=>hq (by rw[e];rfl);have hgp:=List.length_pos_iff.2 hgn;have hlong:(cw l (cq l)).length<=l.length:=by omega
  intro h0;have hev:∀ x,aQ (aT (divN l (cw l (cq l))).1) x*aQ (cw l (cq l)) x+aQ (divN l (cw l (cq l))).2 x=aQ l x:=fun x=>by rw[ki];exact NO hgn tg x
  have hmul:bK (· + ·) (c6 (aT (divN l (cw l (cq l))).1) (cw l (cq l))) (divN l (cw l (cq l))).2=l:=Ld (jL _ _ _) hl.trm fun x=>by rw[oy,ox];exact hev x
  have hs:=gv (p:=l) hgp (tg hgn);have h1:=dZ (· + ·) (c6 (aT (divN l (cw l (cq l))).1) (cw l (cq l))) (divN l (cw l (cq l))).2;rw[hmul] at h1;have h2:=pC (l:=(divN l (cw l (cq l))).1) (List.length_pos_iff.2 hsn) h0;by_cases hz:aT (divN l (cw l (cq l))).1= [];·rw[hz,dM] at h1;simp only[List.length_nil] at h1;omega
  ·rw[lg hz hgn] at h1;omega
 ·intro x hx;by_cases h:l= [];·subst h;(have e0:(divN [] (cw [] (cq []))).1= [0]:=by decide+kernel);rw[e0,List.mem_singleton] at hx;rw[hx];exact Nat.le_trans gX (by omega)
  ·exact hq1 h x hx
theorem HU{l:List Rat}(h:∀ x∈(divN l (cw l (cq l))).1,lq x<=QD):∀ x∈cm l,lq x<=2*QD:=by
 intro x hx;unfold cm at hx;split at hx;·simp at hx
 ·obtain⟨y,hy,rfl⟩:=List.mem_map.1 hx;have h1:=h y hy;have h2:=xw y (aK (divN l (cw l (cq l))).1);have hp:0<(divN l (cw l (cq l))).1.length:=List.length_pos_of_mem hy;have h3:=h (aK (divN l (cw l (cq l))).1) (by rw[b7 hp];exact tV (by omega));omega
theorem DA(l:List Rat):(cm l).length<=l.length+1:=by
 unfold cm;split;·simp
 ·rw[b5,lU];omega
theorem N0{n b c:Nat}{l:List Rat}(hl:Sml n b l)(pl:Pol l)(hg:iY (aI l) (aI (cq l)))(dg:Den c (cw l (cq l)))(hK:b+(n+1)*(c+1)<=QD):bO (fun p _=>mo p) (fun a _=>cm a) (txP l) []:=by
 have e1:QD=10000000000:=rfl;have e2:QC=100000000000:=rfl;have e3:QL=1000000000:=rfl;obtain⟨h1,h2⟩:=PV hl pl hg dg hK;refine iE (m:= []) pl EY h1 (fun x hx=> ?_) ?_;·have:=HU h2 x hx;omega
 ·show (cm l).length<=_;have:=DA l;have:=pl.len;omega
theorem N1{b:Nat}{l:List Rat}(h:Den b l)(i:Nat):Den b (aT [cf l i]):=by
 refine lh ?_;obtain⟨D,d1,d2,d3⟩:=h;refine⟨D,d1,d2,fun j=> ?_⟩;cases j with
 |zero=>obtain⟨n,n1,n2⟩:=d3 i;exact⟨n,n1,by rw[<- n2];simp[cf]⟩
 |succ j=>exact⟨0,by rw[gW];omega,by rw[Rat.zero_divInt,dh (by simp)]⟩
theorem HV(p q:List Rat):∀ k,Trm (dE p q k)
 |0=>xK
 |k+1=>jL _ _ _
theorem ux{n b m c:Nat}{p q:List Rat}(hp:Sml n b p)(hq:Sml m c q)(hnm:n*m<=1000):∀ k,k<=n->Den (1+k*(b+c+2)) (dE p q k)/\(dE p q k).length<=1+k*m
 |0,_=>⟨p8 (by omega),by simp[dE]⟩
 |k+1,hk=>by
  obtain⟨h1,h2⟩:=ux hp hq hnm k (by omega);have hkm:k*m<=n*m:=Nat.mul_le_mul_right _ (by omega);have hl:(dE p q k).length<1000000000:=by omega
  rw[dE,jK,Nat.add_mul,Nat.add_mul];refine⟨(den_add (den_mul h1 hq.den hl) (N1 hp.den _)).mono (by omega),?_⟩;have h3:=dZ (· + ·) (c6 (dE p q k) q) (aT [cf p (p.length-1-k)]);have h4:=ui (dE p q k) q;have h5:=df [cf p (p.length-1-k)];simp only[List.length_cons,List.length_nil] at h5;have h6:=hq.len;by_cases hz:dE p q k= [];·rw[hz,dM] at h3;simp only[List.length_nil] at h3;rw[hz,dM];omega
  ·omega
theorem Aj{n b m c:Nat}{p q:List Rat}(hp:Sml n b p)(hq:Sml m c q)(pp:Pol p)(pq:Pol q)(hnm:n*m<=98)(hb:b<=100000)(hc:c<=100000)(hn:n<=98)(hm:m<=98):bO uh eW (txP p) (txP q):=by
 have e1:QM=400000000:=rfl;have e2:QC=100000000000:=rfl;have e3:QL=1000000000:=rfl;have e4:QH=40000000000:=rfl;have hlp:=hp.len;have hlq:=hq.len;have key:∀ k,k<=n->Den 19700000 (dE p q k)/\(dE p q k).length<=99:=by
  intro k hk;obtain⟨h1,h2⟩:=ux hp hq (by omega) k hk;have h3:k*(b+c+2)<=98*200002:=Nat.mul_le_mul (by omega) (by omega);have h4:k*m<=n*m:=Nat.mul_le_mul_right _ hk;exact⟨h1.mono (by omega),by omega⟩
 refine iE pp pq ⟨pp.enc_ok (by omega),by rw[aF];omega,fun k hk=> ?_⟩ ?_ ?_
 ·rw[aF] at hk ⊢;rw[aJ,aJ];obtain⟨h1,h2⟩:=key k (by omega);have h5:=den_mul h1 hq.den (by omega);refine⟨h1.sz (by omega),pq.enc_ok (by omega),by rw[aF];omega,by rw[aF];omega,bL _,?_,?_⟩;·rw[aH];exact Nat.le_trans (kz pp.lq (by omega) _) (by omega)
  ·rw[aJ,aJ];exact h5.sz (by omega)
 ·intro x hx;have:=(key p.length (by omega)).1.lq x hx;omega
 ·have:=(key p.length (by omega)).2;show (dE p q p.length).length<=_;omega
def smB(n K:Nat)(p:List (List UInt8)):Bool:=decide (cP p=0)&&decide (p.length<=n)&&p.all (fun q=>decide (q.length<=10000))&&(bk p).all fun x=>decide (lq x<=K)
theorem cM{n K:Nat}{p:List (List UInt8)}(h:smB n K p=true)(hn:n<=41)(hK:1<=K):Pol (bk p)/\txP (bk p)=p/\Sml n (n*K+1) (bk p):=by
 unfold smB at h;simp only[Bool.and_eq_true,decide_eq_true_iff,List.all_eq_true] at h;obtain⟨⟨⟨h1,h2⟩,h3⟩,h4⟩:=h;have hs:de p:=⟨by unfold QL;omega,fun q hq=>by have:=h3 q hq;unfold QL;omega⟩;obtain⟨t1,t2,t3,t4⟩:=NQ hs h1;have hl:(bk p).length=p.length:=by rw[<- t1,cp,t1]
 exact⟨⟨t2,t3,t4⟩,t1,PT (by omega) t3 hK h4⟩
theorem Qs{n K:Nat}{p q:List (List UInt8)}(hp:smB n K p=true)(hq:smB n K q=true)(hn:n<=41:=by decide)(hK:1<=K:=by decide):bO (fun p q=>Sz QH p/\Sz QH q/\p.length<=1000/\q.length<=1000) (bK (· + ·)) p q:=by
 have h:=EZ (cM hp hn hK).1 (cM hq hn hK).1;rwa [(cM hp hn hK).2.1,(cM hq hn hK).2.1] at h
theorem Qt{n K:Nat}{p q:List (List UInt8)}(hp:smB n K p=true)(hq:smB n K q=true)(hn:n<=41:=by decide)(hK:1<=K:=by decide):bO (fun p q=>Sz QH p/\Sz QH q/\p.length<=1000/\q.length<=1000) (bK (· - ·)) p q:=by
 have h:=E0 (cM hp hn hK).1 (cM hq hn hK).1;rwa [(cM hp hn hK).2.1,(cM hq hn hK).2.1] at h
theorem Qu{n K:Nat}{p q:List (List UInt8)}(hp:smB n K p=true)(hq:smB n K q=true)(hn:n<=41:=by decide)(hK:1<=K:=by decide):bO (fun p q=>Sz QM p/\Sz QM q/\p.length<=100/\q.length<=100) c6 p q:=by
 have h:=E1 (cM hp hn hK).1 (cM hq hn hK).1;rwa [(cM hp hn hK).2.1,(cM hq hn hK).2.1] at h
theorem LA{n K:Nat}{p q:List (List UInt8)}(hp:smB n K p=true)(hq:smB n K q=true)(hb:(max (n*K+1) (n*K+1)+1)*(n+2)*3^n<=QD:=by decide)(hn:n<=41:=by decide)(hK:1<=K:=by decide):bO iY cw p q:=by
 have h:=(E2 (cM hp hn hK).2.2 (cM hq hn hK).2.2 (cM hp hn hK).1 (cM hq hn hK).1 hb).1;rwa [(cM hp hn hK).2.1,(cM hq hn hK).2.1] at h
theorem Qv{n K:Nat}{p:List (List UInt8)}(hp:smB n K p=true)(hn:n<=41:=by decide)(hK:1<=K:=by decide):bO (fun p _=>Sz QH p/\p.length<=1000) (fun a _=>cq a) p []:=by
 have h:=NZ (cM hp hn hK).1;rwa [(cM hp hn hK).2.1] at h
theorem N2{l:List Rat}{n b:Nat}(h:Sml n b l)(hn:n<=41)(hb:b<=220):Pol (cq l):=(h.der (by omega)).pol (by omega) (by omega)
theorem N3{n b:Nat}{l:List Rat}(hl:Sml n b l)(hn:n<=41)(hb:b<=220)(hK:b+(n+1)*((b+2)*(n+2)*3^(n-1)+1)<=QD):bO (fun p _=>mo p) (fun a _=>cm a) (txP l) []:=by
 have pl:=hl.pol hn (by omega);have pd:=N2 hl hn hb;have e:max b (b+1)+1=b+2:=by omega
 have hle:(b+2)*(n+2)*3^(n-1)<=QD:=by
  have:1*((b+2)*(n+2)*3^(n-1)+1)<=(n+1)*((b+2)*(n+2)*3^(n-1)+1):=Nat.mul_le_mul_right _ (by omega);omega
 obtain⟨_,g1,g2⟩:=E2 hl (hl.der (by omega)) pl pd (by rw[e];exact hle);rw[e] at g2;exact N0 hl pl g1 g2 hK
theorem O4{n K:Nat}{p:List (List UInt8)}(hp:smB n K p=true)(hb:n*K+1<=220:=by decide)(hq:(n*K+1)+(n+1)*((n*K+1+2)*(n+2)*3^(n-1)+1)<=QD:=by decide)(hn:n<=41:=by decide)(hK:1<=K:=by decide):bO (fun p _=>mo p) (fun a _=>cm a) p []:=by
 have h:=N3 (cM hp hn hK).2.2 hn hb hq;rwa [(cM hp hn hK).2.1] at h
theorem PW{n m K:Nat}{p q:List (List UInt8)}(hp:smB n K p=true)(hq:smB m K q=true)(hnm:n*m<=98:=by decide)(hb:n*K+1<=100000:=by decide)(hc:m*K+1<=100000:=by decide)(hn:n<=41:=by decide)(hm:m<=41:=by decide)(hK:1<=K:=by decide):qc p q:=by
 have h1:=cM hp hn hK;have h2:=cM hq hm hK;have h:=Aj h1.2.2 h2.2.2 h1.1 h2.1 hnm hb hc (by omega) (by omega);rw[h1.2.1,h2.2.1] at h;have s1:=h1.1.short;have s2:=h2.1.short;rw[h1.2.1] at s1;rw[h2.2.1] at s2;exact⟨s1,s2,fun _=>h⟩
theorem DB{n K:Nat}{p q:List (List UInt8)}(hp:smB n K p=true)(hq:smB n K q=true)(hn:n<=41:=by decide)(hK:1<=K:=by decide)(hb:K<=2000:=by decide):Lo p q:=by
 have e1:QD=10000000000:=rfl;have e2:QC=100000000000:=rfl;have e3:QL=1000000000:=rfl;obtain⟨p1,p2,p3⟩:=cM hp hn hK;obtain⟨q1,q2,q3⟩:=cM hq hn hK;have s1:=p1.short;have s2:=q1.short;rw[p2] at s1;rw[q2] at s2;refine⟨s1,s2,fun _ h0=> ?_⟩;have hlp:=p3.len;have hlq:=q3.len;have hnK:n*K<=41*2000:=Nat.mul_le_mul hn hb;have hbd:n*K+1+((bk p).length+1-(bk q).length)*(n*K+1+1)<=4000000:=by
  have:((bk p).length+1-(bk q).length)*(n*K+1+1)<=42*82002:=Nat.mul_le_mul (by omega) (by omega);omega
 obtain⟨k1,k2⟩:=xN (K:=4000000) p3.den q3.den h0 q3.trm hbd (by omega);have hs:=gv (p:=bk p) (List.length_pos_iff.2 h0) (q3.trm h0);refine⟨Lh (b:=n*K+1) (c:=n*K+1) (kh _) (kh _) (by rw[aJ];exact p3.den) (by rw[aJ];exact q3.den) (by rw[aF];omega) (by rw[aF];omega) (by rw[aF];exact List.length_pos_iff.2 h0) (by rw[aJ];exact q3.trm) (by rw[aF,aF];omega) (by omega),⟨fW fun x hx=>by have:=k1 x hx;omega,by rw[aF,lU];omega⟩,k2.sz (by omega),by rw[aF];omega⟩
theorem LC{n K:Nat}{p:List (List UInt8)}{x:List UInt8}(hp:smB n K p=true)(hx:x.length<=3000)(hn:n<=41:=by decide)(hK:1<=K:=by decide):vZ p x:=by
 have e1:QM=400000000:=rfl;have e2:QL=1000000000:=rfl;have e3:QC=100000000000:=rfl;obtain⟨p1,p2,p3⟩:=cM hp hn hK;have s1:=p1.short;rw[p2] at s1;refine⟨s1,by omega,fun h1 h2=> ?_⟩;have hxl:lq (bg x)<=2000:=p9 (vW h2 (by omega)).2;have h3:=xD p1.lq hxl;have h4:(bk p).length*(2*2000+1)<=41*(2*2000+1):=Nat.mul_le_mul_right _ p1.len;exact⟨p1.enc_ok (by omega),by have:=p1.len;omega,by omega,by omega⟩
def apE(a b:List UInt8)(v:Rat):Int:=if cO a=0 then if cO b=0 then eV v else cO b else cO a
def apS(a b:List UInt8)(v:Rat):List UInt8:=if apE a b v=0 then iA v else []
theorem uy{x y:ND}{f:Rat->Rat->Rat}(hf:∀ x y,lq (f x y)<=lq x+lq y+1)(h:eO x y/\lq (bc x)+lq (bc y)<QC):eO x y/\NOK (bj (f (bc x) (bc y)))/\lq (bc (bj (f (bc x) (bc y))))<=QC:=by
 refine⟨h.1,bL _,?_⟩;rw[aH];have:=hf (bc x) (bc y);have:=h.2;omega
theorem N4(x y:Rat):lq (x*y)<=lq x+lq y+1:=by have:=kX x y;omega
theorem xP{a b:List UInt8}{v:Rat}(h: ¬ (dC a).2=0): []=apS a b v/\(dC a).2=apE a b v:=by
 rw[ik] at h ⊢;have e:apE a b v=cO a:=if_neg h;exact⟨by unfold apS;rw[if_neg (by rw[e];exact h)],e.symm⟩
theorem xQ{a b:List UInt8}{v:Rat}(h:(dC a).2=0)(h2: ¬ (dC b).2=0): []=apS a b v/\(dC b).2=apE a b v:=by
 rw[ik] at h h2 ⊢;have e:apE a b v=cO b:=by unfold apE;rw[if_pos h,if_neg h2]
 exact⟨by unfold apS;rw[if_neg (by rw[e];exact h2)],e.symm⟩
theorem gF{a:List UInt8}(h:(dC a).2=0):(dC a).1=bj (bg a):=by
 rw[ik] at h;unfold dC;rw[if_pos h]
theorem LD{a:List UInt8}(h:cO a=0)(hl:a.length<=QL):lq (bg a)<=QL+1:=by
 have hr:RQ a:=⟨by rw[h];decide,hl⟩;have h1:=hr.form.lens;have h2:=hr.parts;rw[<- h2.1,<- h2.2] at h1;exact Nat.max_le.2 ⟨by omega,by omega⟩
theorem xR{a b:List UInt8}(h:(dC a).2=0)(h2:(dC b).2=0)(hl:a.length<=QL/\b.length<=QL):eO (dC a).1 (dC b).1/\lq (bc (dC a).1)+lq (bc (dC b).1)<QC:=by
 rw[gF h,gF h2];rw[ik] at h h2;have h3:=LD h hl.1;have h4:=LD h2 hl.2;have e:QL=1000000000:=rfl;have e2:QC=100000000000:=rfl;unfold eO;rw[aH,aH];exact⟨⟨bL _,bL _,by omega⟩,by omega⟩
theorem LF{a b:List UInt8}{v:Rat}(h:(dC a).2=0)(h2:(dC b).2=0):iA v=apS a b v/\eV v=apE a b v:=by
 rw[ik] at h h2;have e:apE a b v=eV v:=by unfold apE;rw[if_pos h,if_pos h2]
 refine⟨?_,e.symm⟩;unfold apS;rw[e];split;·rfl
 ·rename_i h3;unfold iA;rw[if_neg];intro h4;exact h3 (dN.2 h4)
end Go.Cm
end
section
namespace Go.Cm
open Go.Proofs
theorem wb{b K:Nat}{x:Rat}(hx:lq x<=K){D:Int}(hD:D≠0):∀ l:List Rat,l≠ []->(∀ i,∃ n:Int,lw n<=b/\cf l i=Rat.divInt n D)->
  ∃ N:Int,aQ l x=Rat.divInt N (D*(x.den:Int)^(l.length-1))/\(N.natAbs:Int)<=l.length*(LB^b*LB^(K*(l.length-1)))
 | [],h,_=>absurd rfl h
 | [c],_,h=>by
  obtain⟨n,n1,n2⟩:=h 0;have e:cf [c] 0=c:=by simp[cf]
  refine⟨n,?_,?_⟩;·rw[ov,<- e,n2];simp
  ·have:=uo n1;simp;exact this
 |c::a::l,_,h=>by
  obtain⟨N,h1,h2⟩:=wb hx hD (a::l) (by simp) fun i=>by
   obtain⟨n,n1,n2⟩:=h (i+1);exact⟨n,n1,by rw[<- n2];simp[cf]⟩
  obtain⟨m,m1,m2⟩:=h 0;have e:cf (c::a::l) 0=c:=by simp[cf]
  rw[e] at m2;have hd:=ee x;have hlen:(c::a::l).length-1=(a::l).length-1+1:=by simp
  generalize hk:(a::l).length-1=k at*;have hl1:(a::l).length=k+1:=by simp at hk ⊢;omega
  have hl2:(c::a::l).length=k+2:=by simp at hk ⊢;omega
  have hdk:D*(x.den:Int)^k≠0:=Int.mul_ne_zero hD (Int.pow_ne_zero hd);refine⟨N*x.num+m*(x.den:Int)^(k+1),?_,?_⟩
  ·(rw[hlen,fZ,h1,m2];conv=>lhs;arg 1;arg 2;rw[<- Rat.num_divInt_den x]);rw[Rat.divInt_mul_divInt,Rat.divInt_add_divInt _ _ (Int.mul_ne_zero hdk hd) hD];(have e1:N*x.num*D+m*(D*(x.den:Int)^k*(x.den:Int))=(N*x.num+m*(x.den:Int)^(k+1))*D:=by rw[Int.pow_succ];grind);(have e2:D*(x.den:Int)^k*(x.den:Int)*D=D*(x.den:Int)^(k+1)*D:=by rw[Int.pow_succ];grind);rw[e1,e2,Rat.divInt_mul_right hD]
  ·rw[hlen,hl2];rw[hl1] at h2;have q1:(x.num.natAbs:Int)<=LB^K:=uo (Nat.le_trans (dL x) hx);have q2:((x.den:Int).natAbs:Int)<=LB^K:=uo (Nat.le_trans (dt x) hx);have q3:=uo m1;have p1:(0:Int)<=LB^K:=Int.le_of_lt (lbpos _);have p2:(0:Int)<=LB^b:=Int.le_of_lt (lbpos _);have p3:(0:Int)<=LB^(K*k):=Int.le_of_lt (lbpos _);have q4:(((x.den:Int)^(k+1)).natAbs:Int)<=LB^(K*(k+1)):=by
    have key:∀ j:Nat,(((x.den:Int)^j).natAbs:Int)<=LB^(K*j):=by
     intro j;induction j with
     |zero=>simp
     |succ j ih=>
      rw[Int.pow_succ,Int.natAbs_mul,Int.natCast_mul,Nat.mul_succ,Int.pow_add];exact Int.mul_le_mul ih q2 (by omega) (Int.le_of_lt (lbpos _))
    exact key _
   (have e3:(LB:Int)^(K*(k+1))=LB^(K*k)*LB^K:=by rw[Nat.mul_succ,Int.pow_add]);have t1:((N*x.num).natAbs:Int)<=((k+1:Nat):Int)*(LB^b*LB^(K*(k+1))):=by
    rw[Int.natAbs_mul,Int.natCast_mul,e3];refine Int.le_trans (Int.mul_le_mul h2 q1 (by omega) (Int.mul_nonneg (by omega) (Int.mul_nonneg p2 p3))) (Int.le_of_eq ?_);grind
   have t2:((m*(x.den:Int)^(k+1)).natAbs:Int)<=LB^b*LB^(K*(k+1)):=by
    rw[Int.natAbs_mul,Int.natCast_mul];exact Int.mul_le_mul q3 q4 (by omega) p2
   have t3:(((N*x.num+m*(x.den:Int)^(k+1)).natAbs:Nat):Int)<=((N*x.num).natAbs:Int)+((m*(x.den:Int)^(k+1)).natAbs:Int):=by
    have:=Int.natAbs_add_le (N*x.num) (m*(x.den:Int)^(k+1));omega
   have e4:((k+2:Nat):Int)*(LB^b*LB^(K*(k+1)))=((k+1:Nat):Int)*(LB^b*LB^(K*(k+1)))+LB^b*LB^(K*(k+1)):=by
    rw[show ((k+2:Nat):Int)=((k+1:Nat):Int)+1 by omega,Int.add_mul,Int.one_mul]
   omega
theorem gw{b K:Nat}{l:List Rat}{x:Rat}(hl:Den b l)(hx:lq x<=K)(hn:l.length<1000000000):lq (aQ l x)<=b+K*(l.length-1)+1:=by
 by_cases h:l= []
 ·subst h;rw[gL];exact Nat.le_trans gX (by omega)
 ·obtain⟨D,d1,d2,d3⟩:=hl;obtain⟨N,h1,h2⟩:=wb hx d1 l h d3;rw[h1];have hd:=ee x;refine Nat.le_trans (ke _ _ (Int.mul_ne_zero d1 (Int.pow_ne_zero hd))) (Nat.max_le.2 ⟨jH ?_,?_⟩);·have k3:(0:Int)<LB^b*LB^(K*(l.length-1)):=Int.mul_pos (lbpos _) (lbpos _);have k4:(l.length:Int)*(LB^b*LB^(K*(l.length-1)))<LB*(LB^b*LB^(K*(l.length-1))):=Int.mul_lt_mul_of_pos_right (by show (l.length:Int)<1000000000;omega) k3;(have k5:(LB:Int)^(b+K*(l.length-1)+1)=LB*(LB^b*LB^(K*(l.length-1))):=by rw[Int.pow_succ,Int.pow_add,Int.mul_comm]);omega
  ·have h3:=bU D ((x.den:Int)^(l.length-1));have h4:=PN (x.den:Int) (l.length-1);have h5:lw (x.den:Int)*(l.length-1)<=K*(l.length-1):=Nat.mul_le_mul_right _ (Nat.le_trans (dt x) hx);omega
theorem Ak(p q:List Rat)(x:Rat):∀ k,k<=p.length->aQ (dE p q k) x=aQ (p.drop (p.length-k)) (aQ q x)
 |0,_=>by rw[dE,Nat.sub_zero,List.drop_length];rfl
 |k+1,h=>by
  rw[dE,jK,oy,ox,ki,ov,Ak p q x k (by omega)];have e:p.drop (p.length-(k+1))=cf p (p.length-1-k)::p.drop (p.length-k):=by
   (have h2:p.length-(k+1)<p.length:=by omega);rw[List.drop_eq_getElem_cons h2,show p.length-(k+1)+1=p.length-k by omega];congr 1;unfold cf;rw[show p.length-1-k=p.length-(k+1) by omega,List.getD_eq_getElem?_getD,List.getElem?_eq_getElem h2];rfl
  rw[e,fZ]
theorem E5(p q:List Rat)(x:Rat):aQ (eW p q) x=aQ p (aQ q x):=by
 unfold eW;rw[Ak p q x _ (Nat.le_refl _),Nat.sub_self,List.drop_zero]
theorem wc(p q:List Rat)(hq:q≠ []):∀ k,(dE p q (k+1)).length<=k*(q.length-1)+1
 |0=>by
  have:=dZ (· + ·) (c6 [] q) (aT [cf p (p.length-1-0)]);have h5:=df [cf p (p.length-1-0)];simp only[List.length_cons,List.length_nil] at h5;rw[dM] at this;simp only[List.length_nil] at this;show (bK (· + ·) (c6 [] q) (aT [cf p (p.length-1-0)])).length<=_;rw[dM];omega
 |k+1=>by
  have ih:=wc p q hq k;have h3:=dZ (· + ·) (c6 (dE p q (k+1)) q) (aT [cf p (p.length-1-(k+1))]);have h5:=df [cf p (p.length-1-(k+1))];simp only[List.length_cons,List.length_nil] at h5;have hql:=List.length_pos_iff.2 hq;rw[dE,jK,Nat.add_mul];by_cases hz:dE p q (k+1)= [];·rw[hz,dM] at h3 ⊢;simp only[List.length_nil] at h3;omega
  ·rw[lg hz hq] at h3;omega
theorem LG{p q:List Rat}(h: ¬ (0<p.length/\0<q.length/\40<(p.length-1)*(q.length-1))):(eW p q).length<=41:=by
 unfold eW;by_cases hp:p= [];·subst hp;simp[dE]
 have hpl:=List.length_pos_iff.2 hp;obtain⟨k,hk⟩:∃ k,p.length=k+1:=⟨p.length-1,by omega⟩;by_cases hq:q= [];·subst hq;rw[hk,dE,jK,kj];have h3:=dZ (· + ·) [] (aT [cf p (p.length-1-k)]);have h5:=df [cf p (p.length-1-k)];simp only[List.length_cons,List.length_nil] at h5 h3;omega
 ·have hql:=List.length_pos_iff.2 hq;have:=wc p q hq k;rw[hk] at h ⊢;have h2: ¬40<(k+1-1)*(q.length-1):=fun e=>h ⟨by omega,hql,e⟩;rw[Nat.add_sub_cancel] at h2;omega
theorem LH{p q:List Rat}(pp:Pol p)(pq:Pol q):iF (txP p) (txP q)↔(0<p.length/\0<q.length/\40<(p.length-1)*(q.length-1)):=by
 unfold iF;rw[pp.chk,pq.chk,cp,cp];simp
theorem DC{a b v:Rat}(ha:cz a=true)(hb:cz b=true)(hv:cz v=true):apE (aS a) (aS b) v=0/\apS (aS a) (aS b) v=aS v:=by
 have h1:cO (aS a)=0:=by rw[jM,dN];exact ha
 have h2:cO (aS b)=0:=by rw[jM,dN];exact hb
 have e:apE (aS a) (aS b) v=0:=by unfold apE;rw[if_pos h1,if_pos h2];exact dN.2 hv
 refine⟨e,?_⟩;unfold apS iA;rw[if_pos e,if_pos hv]
theorem LI{x:Rat}(h:cz x=true):(aS x).length<=QL:=by
 have:=jN (p9 h);unfold QL;omega
theorem kl{l:List Rat}(hl:Pol l){x:Rat}(hx:cz x=true)(hv:cz (aQ l x)=true):vZ (txP l) (aS x)/\evE (txP l) (aS x)=0/\evS (txP l) (aS x)=aS (aQ l x):=by
 obtain⟨h1,h2⟩:=Lx hl hx;refine⟨Lw hl hx,by rw[h1,dN];exact hv,?_⟩;rw[h2];unfold iA;rw[if_pos hv]
structure Al (p q:List Rat) (x:Rat):Prop where
 pp:Pol p
 pq:Pol q
 fx:cz x=true
 fa:cz (aQ p x)=true
 fb:cz (aQ q x)=true
 ps:Pol (bK (· + ·) p q)
 pm:Pol (bK (· - ·) p q)
 pt:Pol (c6 p q)
 fs:cz (aQ p x+aQ q x)=true
 fm:cz (aQ p x-aQ q x)=true
 ft:cz (aQ p x*aQ q x)=true
 ok:qc (txP p) (txP q)
 co: ¬iF (txP p) (txP q)->Pol (eW p q)/\cz (aQ p (aQ q x))=true/\pG (txP p) (txP q)=txP (eW p q)/\lj (txP p) (txP q)=0
theorem xS{p q:List Rat}{x:Rat}(hp:Sml 9 9 p)(hq:Sml 9 9 q)(hx:lq x<=3):Al p q x:=by
 have pp:=hp.pol (by decide) (by decide);have pq:=hq.pol (by decide) (by decide);have hlp:=hp.len;have hlq:=hq.len;have fx:cz x=true:=jb (by omega);have ss:=hp.add hq;have sm:=hp.sub hq;have st:Sml 17 19 (c6 p q):=hp.mul hq (by decide) (by decide) (by decide) (by decide);have ea:=gw hp.den hx (by omega);have eb:=gw hq.den hx (by omega);have es:=gw ss.den hx (by have:=ss.len;omega);have em:=gw sm.den hx (by have:=sm.len;omega);have et:=gw st.den hx (by have:=st.len;omega);rw[oy] at es;rw[xJ] at em;rw[ox] at et;have l1:=ss.len;have l2:=sm.len;have l3:=st.len;have hcomp:bO uh eW (txP p) (txP q):=Aj hp hq pp pq (by decide) (by decide) (by decide) (by decide) (by decide);refine⟨pp,pq,fx,jb (by omega),jb (by omega),ss.pol (by decide) (by decide),sm.pol (by decide) (by decide),st.pol (by decide) (by decide),jb (by omega),jb (by omega),jb (by omega),⟨pp.short,pq.short,fun _=>hcomp⟩,fun hl=> ?_⟩;have hll:=mt (LH pp pq).2 hl;have hcl:=LG hll;have hcd:=(ux hp hq (by decide) p.length (by omega)).1;have pc:Pol (eW p q):=⟨hcl,HV _ _ _,Ah hcd (by
  have:p.length*(9+9+2)<=9*20:=Nat.mul_le_mul hlp (Nat.le_refl _);omega)⟩
 have hv:=gw hp.den eb (by omega);obtain⟨c1,c2⟩:=nC (f:=eW) pp pq (lT pc.trm) pc;refine⟨pc,jb ?_,by unfold pG;rw[if_neg hl];exact c1,by unfold lj;rw[if_neg hl];exact c2⟩;have hdeg:(9+3*(q.length-1)+1)*(p.length-1)<=10*8+3*40:=by
  have h1:(q.length-1)*(p.length-1)<=40:=by
   by_cases h0:0<p.length/\0<q.length
   ·have: ¬40<(p.length-1)*(q.length-1):=fun e=>hll ⟨h0.1,h0.2,e⟩;rw[Nat.mul_comm];omega
   ·(have:p.length-1=0∨q.length-1=0:=by omega);rcases this with e|e<;>rw[e]<;>simp
  have h2:(9+3*(q.length-1)+1)*(p.length-1)=10*(p.length-1)+3*((q.length-1)*(p.length-1)):=by
   rw[show 9+3*(q.length-1)+1=10+3*(q.length-1) by omega,Nat.add_mul,Nat.mul_assoc]
  omega
 omega
end Go.Cm
namespace Go.Cm
open Go.Proofs
theorem N5{p q:List Rat}{x:Rat}(hv:Al p q x)(h:lj (txP p) (txP q)=3):iF (txP p) (txP q):=by
 refine Decidable.not_not.1 fun hl=> ?_;have:=(hv.co hl).2.2.2;rw[h] at this;exact absurd this (by decide)
theorem LJ{p q:List (List UInt8)}(h: ¬lj p q=3): ¬iF p q:=fun hl=>h (by unfold lj;rw[if_pos hl])
theorem LK{p q:List (List UInt8)}(h:iF p q):decide ((40:Int)<IntKind.i64.wrap (IntKind.i64.wrap ((p.length:Int)-1)*IntKind.i64.wrap ((q.length:Int)-1)))=true:=by
 obtain⟨h1,h2,h3,h4,h5⟩:=h;rw[vY h1 h2 h3 h4,decide_eq_true_iff];generalize (p.length-1)*(q.length-1)=n at*;omega
end Go.Cm
end
section
namespace Go.Cm
open Go.Proofs
theorem DD{s:List UInt8}{i:Nat}(hi:i<s.length)(h:(s.take i).all (· !=47)=true)(hb:s.getD i 0=47):s.take i=tN s/\s.drop (i+1)=tD s/\true=ca s:=by
 have e:s=s.take i++47::s.drop (i+1):=by
  rw[<- hb,List.getD_eq_getElem?_getD,List.getElem?_eq_getElem hi];simp only[Option.getD_some];rw[<- List.drop_eq_getElem_cons hi,List.take_append_drop]
 have hc:∀ c∈s.take i,c≠47:=by
  rw[List.all_eq_true] at h;intro c hc;simpa using h c hc
 have k:=Lm (b:=s.drop (i+1)) hc;rw[<- e] at k;refine⟨k.1.symm,?_,k.2.symm⟩;unfold tD tR;rw[if_pos k.2,k.1,List.length_take,Nat.min_eq_left (by omega)]
theorem HW{s:List UInt8}{i:Nat}(hi:i<s.length)(h:(s.take i).all (· !=47)=true)(hb: ¬s.getD i 0=47):(s.take (i+1)).all (· !=47)=true:=by
 rw[List.take_succ_eq_append_getElem hi,List.all_append,h];rw[List.getD_eq_getElem?_getD,List.getElem?_eq_getElem hi] at hb;simpa using hb
theorem LL{s:List UInt8}{i:Nat}(hi: ¬i<s.length)(h:(s.take i).all (· !=47)=true):s=tN s/\ [49]=tD s/\false=ca s:=by
 rw[List.take_of_length_le (by omega)] at h;have hs:ca s=false:=uv fun c hc=>by
  rw[List.all_eq_true] at h;simpa using h c hc
 exact⟨(tQ hs).symm,by unfold tD;rw[hs];rfl,hs.symm⟩
def QK:Nat:=10000000
def GQ(K:Nat)(a:List UInt8):Prop:=aS (bg a)=a/\lq (bg a)<=K
theorem GQ.parts{K:Nat}{a:List UInt8}(h:GQ K a):tN a=Lib.itoa (bg a).num/\tD a=Lib.itoa ((bg a).den:Int):=by
 have:=ja (bg a);rw[h.1] at this;exact⟨this.1,this.2.1⟩
theorem GQ.nums{K:Nat}{a:List UInt8}(h:GQ K a):an (tN a)=(bg a).num/\an (tD a)=((bg a).den:Int):=by
 rw[h.parts.1,h.parts.2];exact⟨(bd _).2,(bd _).2⟩
theorem GQ.rs{K:Nat}{a:List UInt8}(h:GQ K a):RS (9*K+2) (tN a)/\RS (9*K+2) (tD a):=by
 rw[h.parts.1,h.parts.2];have h1:=ff (bg a).num;have h2:=ff ((bg a).den:Int);have h3:=dL (bg a);have h4:=dt (bg a);have h5:=h.2;exact⟨⟨(bd _).1,by omega⟩,(bd _).1,by omega⟩
theorem GQ.len{K:Nat}{a:List UInt8}(h:GQ K a):a.length<=18*K+5:=by
 rw[<- h.1];exact jN h.2
theorem RS.mono'{n m:Nat}{s:List UInt8}(h:RS n s)(hm:n<=m):RS m s:=⟨h.1,Nat.le_trans h.2 hm⟩
theorem lW{x:Rat}{K:Nat}(h:lq x<=K):GQ K (aS x):=⟨by rw[cx],by rw[cx];exact h⟩
theorem Am{v:Int}:Lib.itoa v= [49]↔v=1:=by
 have h1:Lib.itoa 1= [49]:=by decide+kernel
 constructor;·intro h;have:=(bd v).2;rw[h,<- h1,(bd 1).2] at this;exact this.symm
 ·rintro rfl;exact h1
theorem oD{n d:Int}(hd:d≠0):(Rat.divInt n d).num=bN n (dB n d)/\(((Rat.divInt n d).den:Nat):Int)=bN d (dB n d):=by
 have h:=mN (n:=n) hd;unfold bj at h;have h1:=congrArg (fun x:ND=>dec x.1) h;have h2:=congrArg (fun x:ND=>dec x.2) h;simp only[bR] at h1 h2;exact⟨h1,h2⟩
theorem An{s:List UInt8}{k:Nat}(hl:s.length<=1000000000)(hi:k<s.length)(h:(s.take k).all (· !=47)=true)(hb:s.getD k 0=47):
  List.drop (Int.toNat 0) (List.take ((k:Int)).toNat s)=tN s/\List.drop (IntKind.i64.wrap ((k:Int)+1)).toNat (List.take (((s.length:Nat):Int)).toNat s)=tD s/\true=ca s:=by
 have h1:=DD hi h hb;rw[wi (by omega) (by omega),Int.toNat_natCast,Int.toNat_natCast,show ((k:Int)+1).toNat=k+1 by omega,List.take_length];exact h1
theorem DE{q:List UInt8}{k:Int}(h:eU q):(RF (tN q)/\(tN q).length<CAP)/\
  (decide (cB (an (tN q))<=k)=true->decide (cB (an (tN q))<=k)=true/\RF (tD q)/\(tD q).length<CAP)/\
   (decide (cB (an (tN q))<=k)=true->decide (cB (an (tN q))<=k)=true):=by
 have h1:=xx q;have h2:=xy q;have h3:=h.2.2;have e:QL=1000000000:=rfl;have e2:CAP=1000000000000:=rfl;exact⟨⟨h.1,by omega⟩,fun h'=>⟨h',h.2.1,by omega⟩,id⟩
def MkR(n d:List UInt8):Prop:=RS 200000000 n/\RS 200000000 d/\an d≠0
theorem O5{n:Nat}{s:List UInt8}(h:RS n s):lw (an s)<=n:=Nat.le_trans (Di h.1) h.2
theorem N6{n:Nat}{s:List UInt8}(h:RS n s):(an s).natAbs<10^n:=lR h
theorem pH{v w:Int}{n:Nat}(h:w.natAbs<10^n)(hv:v.natAbs<=w.natAbs):RS (n+2) (Lib.itoa v):=(ny (k:=n) (by omega) (Nat.le_refl _)).1
theorem O6{n d:List UInt8}(h:MkR n d):RS 200000002 (Lib.itoa (cC (an n) (an d)))/\RS 200000002 (Lib.itoa (dB (an n) (an d))):=by
 have h1:=N6 h.2.1;exact⟨pH h1 (pY h.2.2),pH h1 (kZ h.2.2).1⟩
theorem oE{n d:List UInt8}(h:MkR n d):RS 1000000000 n/\RS 1000000000 d:=⟨h.1.mono' (by omega),h.2.1.mono' (by omega)⟩
theorem HY{n d:List UInt8}(h:MkR n d):RF (Lib.itoa (cC (an n) (an d)))/\4*(Lib.itoa (cC (an n) (an d))).length<CAP:=by
 have:=(O6 h).1;have h2:=this.2;exact⟨this.1,by unfold CAP;omega⟩
theorem E6{n d:List UInt8}(h:an d<0):Lib.itoa (-an (Lib.itoa (cC (an n) (an d))))=Lib.itoa (dB (an n) (an d)):=by
 rw[(bd _).2];unfold dB;rw[if_pos h]
theorem E7{n d:List UInt8}(h: ¬an d<0):Lib.itoa (cC (an n) (an d))=Lib.itoa (dB (an n) (an d)):=by
 unfold dB;rw[if_neg h]
theorem qd{a b:Int}:bx a b<0↔a<b:=by
 unfold bx;split;·constructor<;>omega
 ·split;·constructor<;>omega
  ·constructor<;>omega
theorem we{n d:List UInt8}(h:MkR n d):RS 1000000000 n/\RS 1000000000 (Lib.itoa (dB (an n) (an d)))/\an (Lib.itoa (dB (an n) (an d)))≠0:=by
 rw[(bd _).2];exact⟨(oE h).1,(O6 h).2.mono' (by omega),(kZ h.2.2).2⟩
theorem HZ{n d:List UInt8}(h:MkR n d):RS 1000000000 d/\RS 1000000000 (Lib.itoa (dB (an n) (an d)))/\an (Lib.itoa (dB (an n) (an d)))≠0:=⟨(oE h).2,(we h).2⟩
theorem N7{n d:List UInt8}(h:MkR n d)(hb:Lib.itoa (bN (an d) (an (Lib.itoa (dB (an n) (an d)))))= [49]):Lib.itoa (bN (an n) (an (Lib.itoa (dB (an n) (an d)))))=aS (Rat.divInt (an n) (an d)):=by
 rw[(bd _).2] at hb ⊢;obtain⟨h1,h2⟩:=oD (n:=an n) h.2.2;rw[<- h2,Am] at hb;unfold aS;rw[if_pos (by omega),h1]
theorem N8{n d:List UInt8}(h:MkR n d)(hb: ¬Lib.itoa (bN (an d) (an (Lib.itoa (dB (an n) (an d)))))= [49]):Lib.itoa (bN (an n) (an (Lib.itoa (dB (an n) (an d)))))++ [47]++Lib.itoa (bN (an d) (an (Lib.itoa (dB (an n) (an d)))))=aS (Rat.divInt (an n) (an d)):=by
 rw[(bd _).2] at hb ⊢;obtain⟨h1,h2⟩:=oD (n:=an n) h.2.2;rw[<- h2,Am] at hb;unfold aS;rw[if_neg (by omega),h1,h2]
theorem H0{n d:List UInt8}(h:MkR n d):(Lib.itoa (bN (an n) (an (Lib.itoa (dB (an n) (an d)))))).length+1<=maxLen/\
  (Lib.itoa (bN (an n) (an (Lib.itoa (dB (an n) (an d)))))++ [47]).length+(Lib.itoa (bN (an d) (an (Lib.itoa (dB (an n) (an d)))))).length<=maxLen:=by
 rw[(bd _).2];obtain⟨h1,h2⟩:=oD (n:=an n) h.2.2;have h3:=ke (an n) (an d) h.2.2;have h4:=O5 h.1;have h5:=O5 h.2.1;have h6:=ff (Rat.divInt (an n) (an d)).num;have h7:=ff (((Rat.divInt (an n) (an d)).den:Nat):Int);have h8:=dL (Rat.divInt (an n) (an d));have h9:=dt (Rat.divInt (an n) (an d));rw[h1] at h6;rw[h2] at h7;rw[h1] at h8;rw[h2] at h9;have e7:maxLen=9223372036854775807:=rfl;simp only[List.length_append,List.length_cons,List.length_nil];omega
theorem LM{n d:Int}(h:I64 n/\I64 d/\d≠0):I64 n/\I64 d/\RS 200000000 (Lib.itoa n)/\RS 200000000 (Lib.itoa d)/\an (Lib.itoa d)≠0:=by
 have h1:=ff n;have h2:=ff d;have h3:=Df h.1;have h4:=Df h.2.1;rw[(bd d).2];exact⟨h.1,h.2.1,⟨(bd n).1,by omega⟩,⟨(bd d).1,by omega⟩,h.2.2⟩
theorem N9{n d:Int}:aS (Rat.divInt (an (Lib.itoa n)) (an (Lib.itoa d)))=aS (Rat.divInt n d):=by
 rw[(bd n).2,(bd d).2]
theorem E8{a:List UInt8}(h:GQ QK a):a.length<=QL:=by
 have:=h.len;have e:QK=10000000:=rfl;have e2:QL=1000000000:=rfl;omega
theorem O7{a:List UInt8}(h:GQ QK a):RS 200000000 (tN a)/\RS 200000000 (tD a):=by
 have e:QK=10000000:=rfl;exact⟨h.rs.1.mono' (by omega),h.rs.2.mono' (by omega)⟩
theorem ga{a:List UInt8}(h:GQ QK a):RS 20000000000 (tN a)/\RS 20000000000 (tD a):=⟨(O7 h).1.mono' (by omega),(O7 h).2.mono' (by omega)⟩
theorem Ao{a b:List UInt8}(ha:GQ QK a)(hb:GQ QK b)(h1:tD a= [49])(h2:tD b= [49]):(bg a).den=1/\(bg b).den=1:=by
 have k1:=ha.nums.2;have k2:=hb.nums.2;rw[h1,nz] at k1;rw[h2,nz] at k2;omega
theorem nD{x:Rat}(h:x.den=1):x=(x.num:Rat):=by
 have:=Rat.num_divInt_den x;rw[h,Rat.divInt_eq_div] at this;rw[show (((1:Nat):Int):Rat)=1 from rfl] at this;grind
theorem mS(n:Int):aS (n:Rat)=Lib.itoa n:=by unfold aS;rw[if_pos (Rat.den_intCast n),Rat.num_intCast]
theorem LN{a b:List UInt8}(ha:GQ QK a)(hb:GQ QK b)(h:tD a= [49]/\tD b= [49]):Lib.itoa (an (tN a)+an (tN b))=aS (bg a+bg b):=by
 obtain⟨k1,k2⟩:=Ao ha hb h.1 h.2;rw[ha.nums.1,hb.nums.1,nD k1,nD k2,<- Rat.intCast_add,mS,Rat.num_intCast,Rat.num_intCast]
theorem LO{a b:List UInt8}(ha:GQ QK a)(hb:GQ QK b)(h:tD a= [49]/\tD b= [49]):Lib.itoa (an (tN a)*an (tN b))=aS (bg a*bg b):=by
 obtain⟨k1,k2⟩:=Ao ha hb h.1 h.2;rw[ha.nums.1,hb.nums.1,nD k1,nD k2,<- Rat.intCast_mul,mS,Rat.num_intCast,Rat.num_intCast]
theorem wg{v:Int}{k:Nat}(h:lw v<=k):RS (9*k+2) (Lib.itoa v):=⟨(bd v).1,by have:=ff v;omega⟩
theorem E9{a:List UInt8}(h:GQ QK a):lw (bg a).num<=QK/\lw ((bg a).den:Int)<=QK:=by
 have:=dL (bg a);have:=dt (bg a);have:=h.2;omega
theorem H1{a b:List UInt8}(ha:GQ QK a)(hb:GQ QK b):(RS 20000000000 (tN a)/\RS 20000000000 (tD b))/\
  (RS 20000000000 (tN b)/\RS 20000000000 (tD a))/\
   (RS 20000000000 (Lib.itoa (an (tN a)*an (tD b)))/\RS 20000000000 (Lib.itoa (an (tN b)*an (tD a))))/\
    (RS 20000000000 (tD a)/\RS 20000000000 (tD b))/\
     RS 200000000 (Lib.itoa (an (Lib.itoa (an (tN a)*an (tD b)))+an (Lib.itoa (an (tN b)*an (tD a)))))/\
      RS 200000000 (Lib.itoa (an (tD a)*an (tD b)))/\an (Lib.itoa (an (tD a)*an (tD b)))≠0:=by
 have e:QK=10000000:=rfl;simp only[(bd _).2];have k1:=E9 ha;have k2:=E9 hb;rw[ha.nums.1,ha.nums.2,hb.nums.1,hb.nums.2];have m1:=bU (bg a).num (bg b).den;have m2:=bU (bg b).num (bg a).den;have m3:=bU ((bg a).den:Int) (bg b).den;have m4:=tL ((bg a).num*(bg b).den) ((bg b).num*(bg a).den);exact⟨⟨(ga ha).1,(ga hb).2⟩,⟨(ga hb).1,(ga ha).2⟩,⟨(wg (k:=20000000) (by omega)).mono' (by omega),(wg (k:=20000000) (by omega)).mono' (by omega)⟩,⟨(ga ha).2,(ga hb).2⟩,
  (wg (k:=20000001) (by omega)).mono' (by omega),(wg (k:=20000001) (by omega)).mono' (by omega),Int.mul_ne_zero (ee _) (ee _)⟩
theorem LP{a b:List UInt8}(ha:GQ QK a)(hb:GQ QK b):aS (Rat.divInt (an (Lib.itoa (an (Lib.itoa (an (tN a)*an (tD b)))+an (Lib.itoa (an (tN b)*an (tD a)))))) (an (Lib.itoa (an (tD a)*an (tD b)))))=aS (bg a+bg b):=by
 simp only[(bd _).2];rw[ha.nums.1,ha.nums.2,hb.nums.1,hb.nums.2,<- mK]
theorem H2{a b:List UInt8}(ha:GQ QK a)(hb:GQ QK b):(RS 20000000000 (tN a)/\RS 20000000000 (tN b))/\
  (RS 20000000000 (tD a)/\RS 20000000000 (tD b))/\
   RS 200000000 (Lib.itoa (an (tN a)*an (tN b)))/\
    RS 200000000 (Lib.itoa (an (tD a)*an (tD b)))/\an (Lib.itoa (an (tD a)*an (tD b)))≠0:=by
 have e:QK=10000000:=rfl;simp only[(bd _).2];have k1:=E9 ha;have k2:=E9 hb;rw[ha.nums.1,ha.nums.2,hb.nums.1,hb.nums.2];have m1:=bU (bg a).num (bg b).num;have m3:=bU ((bg a).den:Int) (bg b).den;exact⟨⟨(ga ha).1,(ga hb).1⟩,⟨(ga ha).2,(ga hb).2⟩,(wg (k:=20000001) (by omega)).mono' (by omega),(wg (k:=20000001) (by omega)).mono' (by omega),Int.mul_ne_zero (ee _) (ee _)⟩
theorem LQ{a b:List UInt8}(ha:GQ QK a)(hb:GQ QK b):aS (Rat.divInt (an (Lib.itoa (an (tN a)*an (tN b)))) (an (Lib.itoa (an (tD a)*an (tD b)))))=aS (bg a*bg b):=by
 simp only[(bd _).2];rw[ha.nums.1,ha.nums.2,hb.nums.1,hb.nums.2,<- mL]
theorem LR{p q:List (List UInt8)}(h: ¬ (p.length:Int)=(q.length:Int)):false=decide (p=q):=by
 symm
 rw[decide_eq_false_iff_not];rintro rfl;exact h rfl
theorem H3{p q:List (List UInt8)}{k:Nat}(he:p.length=q.length)(hk:k<p.length)(h:p.take k=q.take k)(hb:nth .str p (k:Int)=nth .str q (k:Int)):p.take (k+1)=q.take (k+1):=by
 rw[fV (t:= .str) hk,fV (t:= .str) (by omega:k<q.length)] at hb;rw[List.take_succ_eq_append_getElem hk,List.take_succ_eq_append_getElem (by omega:k<q.length),h,hb]
theorem LS{p q:List (List UInt8)}{k:Nat}(hb: ¬nth .str p (k:Int)=nth .str q (k:Int)):false=decide (p=q):=by
 symm
 rw[decide_eq_false_iff_not];rintro rfl;exact hb rfl
theorem LU{p q:List (List UInt8)}{k:Nat}(he:p.length=q.length)(hk: ¬k<p.length)(h:p.take k=q.take k):true=decide (p=q):=by
 symm
 rw[decide_eq_true_iff];rwa [List.take_of_length_le (by omega),List.take_of_length_le (by omega)] at h
theorem Fa{s:List UInt8}{k:Nat}:(((s.getD (k:Int).toNat 0).toNat:Nat):Int)=47↔s.getD k 0=47:=by
 rw[Int.toNat_natCast];constructor;·intro h;exact UInt8.toNat_inj.1 (by show _=47;omega)
 ·intro h;rw[h];rfl
theorem H4{s:List UInt8}{k:Nat}(hl:s.length<=1000000000)(hk:k<s.length):((0:Int)<=0/\(0:Int)<=(k:Int)/\(k:Int)<=((s.length:Nat):Int))/\
  (0:Int)<=IntKind.i64.wrap ((k:Int)+1)/\IntKind.i64.wrap ((k:Int)+1)<=((s.length:Nat):Int)/\((s.length:Nat):Int)<=((s.length:Nat):Int):=by
 rw[wi (by omega) (by omega)];omega
def nl(p:List (List UInt8)):List Rat:=p.map bg
def GL(K:Nat)(p:List (List UInt8)):Prop:=∀ q∈p,GQ K q
theorem GL.tx{K:Nat}{p:List (List UInt8)}(h:GL K p):txP (nl p)=p:=by
 unfold txP nl;rw[List.map_map];conv=>rhs;rw[<- List.map_id p]
 exact List.map_congr_left fun q hq=>(h q hq).1
theorem GL.lq{K:Nat}{p:List (List UInt8)}(h:GL K p):∀ x∈nl p,lq x<=K:=by
 intro x hx;obtain⟨q,hq,rfl⟩:=List.mem_map.1 hx;exact(h q hq).2
theorem pI{K:Nat}{l:List Rat}(h:∀ x∈l,lq x<=K):GL K (txP l):=by
 intro q hq;obtain⟨x,hx,rfl⟩:=List.mem_map.1 hq;exact lW (h x hx)
theorem lk(l:List Rat):nl (txP l)=l:=EU l
theorem jm(p:List (List UInt8)):(nl p).length=p.length:=by simp[nl]
theorem GL.mono{K m:Nat}{p:List (List UInt8)}(h:GL K p)(hm:K<=m):GL m p:=fun q hq=>⟨(h q hq).1,Nat.le_trans (h q hq).2 hm⟩
theorem GL.ex{K:Nat}{p:List (List UInt8)}(h:GL K p):∃ l,p=txP l/\∀ x∈l,Cm.lq x<=K:=⟨nl p,h.tx.symm,h.lq⟩
theorem LW{l:List Rat}{k:Nat}(h:k<l.length):nth .str (txP l) (k:Int)=aS (cf l k):=by
 rw[fV (t:= .str) (by rw[cp];exact h)];unfold txP cf;rw[List.getElem_map,List.getD_eq_getElem?_getD,List.getElem?_eq_getElem h];rfl
theorem oF:aS 0= [48]:=iD.2 rfl
theorem nE{p:List (List UInt8)}{K:Nat}(h:GL K p){k:Nat}(hk:k<p.length):nth .str p (k:Int)=aS (cf (nl p) k):=by
 have:=LW (l:=nl p) (k:=k) (by rw[jm];exact hk);rwa [h.tx] at this
theorem LX{p:List (List UInt8)}{k:Nat}(hk: ¬k<p.length): [48]=aS (cf (nl p) k):=by
 rw[dh (by rw[jm];omega),oF]
theorem Fb{l:List Rat}(h:0<l.length)(hl:l.length<=1000000000):nth .str (txP l) (IntKind.i64.wrap ((l.length:Int)-1))=aS (aK l):=by
 rw[cb hl,show (l.length:Int)-1=((l.length-1:Nat):Int) by omega,LW (by omega),b7 h]
theorem Oa{l:List Rat}(hl:l.length<=1000000000)(hb:(0:Int)<((txP l).length:Int))(hc:nth .str (txP l) (IntKind.i64.wrap (((txP l).length:Int)-1))= [48]):0<l.length/\aK l=0:=by
 rw[cp] at hb hc;rw[Fb (by omega) hl,iD] at hc;exact⟨by omega,hc⟩
theorem Ob{l:List Rat}(hl:l.length<=1000000000)(hb:(0:Int)<((txP l).length:Int)-> ¬nth .str (txP l) (IntKind.i64.wrap (((txP l).length:Int)-1))= [48]):aT l=l:=by
 rw[cp] at hb;by_cases h:l= [];·subst h;rfl
 ·have h1:=List.length_pos_iff.2 h;have h2:=hb (by omega);rw[Fb h1 hl,iD] at h2;exact mO h h2
theorem DF{l:List Rat}(hl:l.length<=1000000000)(h:decide ((0:Int)<((txP l).length:Int))=true):decide ((0:Int)<((txP l).length:Int))=true/\0<=IntKind.i64.wrap (((txP l).length:Int)-1)/\IntKind.i64.wrap (((txP l).length:Int)-1)<((txP l).length:Int):=by
 have h1:=of_decide_eq_true h;refine⟨h,?_⟩;rw[cp] at h1 ⊢;rw[cb hl];omega
theorem DG{l l0:List Rat}{K:Nat}(hl:l.length<=1000000000)(g1:l.length<=l0.length)(g2:∀ x∈l,lq x<=K)(g3:aT l=aT l0)(h:0<l.length/\aK l=0):
  List.take (IntKind.i64.wrap (((txP l).length:Int)-1)).toNat (txP l)=txP l.dropLast/\l.dropLast.length<=l0.length/\(∀ x∈l.dropLast,lq x<=K)/\aT l.dropLast=aT l0/\l.dropLast.length<l.length:=by
 rw[cp,cb hl,show ((l.length:Int)-1).toNat=l.length-1 by omega];refine⟨?_,by rw[List.length_dropLast];omega,fun x hx=>g2 x (List.dropLast_subset _ hx),?_,by rw[List.length_dropLast];omega⟩;·unfold txP;rw[<- List.map_take,List.dropLast_eq_take]
 ·rw[<- g3,mP (List.length_pos_iff.1 h.1) h.2]
def QK2:Nat:=4000000
theorem uz(l:List Rat)(x:Rat):txP (l++ [x])=txP l++ [aS x]:=by simp[txP]
theorem wh{K:Nat}{p:List (List UInt8)}(h:GL K p)(hK:1<=K)(i:Nat):lq (cf (nl p) i)<=K:=kz h.lq hK i
theorem oG{p q:List (List UInt8)}(hp:GL QK2 p)(hq:GL QK2 q)(k:Nat):(GL QK p/\(0:Int)<=(k:Int))/\(GL QK q/\(0:Int)<=(k:Int))/\GQ QK (aS (cf (nl p) (k:Int).toNat))/\GQ QK (aS (cf (nl q) (k:Int).toNat)):=by
 have e:QK=10000000:=rfl;have e2:QK2=4000000:=rfl;rw[Int.toNat_natCast];have h1:=wh hp (by omega) k;have h2:=wh hq (by omega) k;exact⟨⟨hp.mono (by omega),by omega⟩,⟨hq.mono (by omega),by omega⟩,lW (by omega),lW (by omega)⟩
theorem DH{p q:List (List UInt8)}{k n:Nat}(h:k<n)(hn:n<=1000000):∃ z:Nat,IntKind.i64.wrap ((k:Int)+1)=(z:Int)/\txP (bM (· + ·) (nl p) (nl q) k)++ [aS (bg (aS (cf (nl p) (k:Int).toNat))+bg (aS (cf (nl q) (k:Int).toNat)))]=txP (bM (· + ·) (nl p) (nl q) z)/\z<=n/\n-z<n-k:=by
 refine⟨k+1,by rw[wi (by omega) (by omega)];omega,?_,by omega,by omega⟩;rw[Int.toNat_natCast,cx,cx,nA,uz]
theorem H5{p q:List (List UInt8)}(hp:GL QK2 p)(hq:GL QK2 q)(k:Nat):GL QK (txP (bM (· + ·) (nl p) (nl q) k)):=by
 refine pI fun x hx=> ?_;obtain⟨i,_,rfl⟩:=List.mem_map.1 hx;have e:QK=10000000:=rfl;have e2:QK2=4000000:=rfl;have h1:=wh hp (by omega) i;have h2:=wh hq (by omega) i;have:=mM (cf (nl p) i) (cf (nl q) i);show lq (cf (nl p) i+cf (nl q) i)<=_;omega
theorem LY{p q:List (List UInt8)}{k:Nat}(h1:k<=max p.length q.length)(h: ¬k<max p.length q.length):txP (aT (nl (txP (bM (· + ·) (nl p) (nl q) k))))=txP (bK (· + ·) (nl p) (nl q)):=by
 have e:k=max p.length q.length:=by omega
 unfold bK;rw[lk,jm,jm,<- e]
def fp(c:Rat)(l:List Rat):List Rat:=aT (l.map fun x=>c*x)
def iG(k:Nat)(l:List Rat):List Rat:=aT (List.replicate k 0++l)
theorem Ap{c:List UInt8}{p:List (List UInt8)}{K:Nat}(hp:GL K p){k:Nat}(h:k<p.length)(hn:p.length<=1000000):∃ z:Nat,IntKind.i64.wrap ((k:Int)+1)=(z:Int)/\txP (((nl p).take k).map fun x=>bg c*x)++ [aS (bg c*bg (nth .str p (k:Int)))]=txP (((nl p).take z).map fun x=>bg c*x)/\z<=p.length/\p.length-z<p.length-k:=by
 refine⟨k+1,by rw[wi (by omega) (by omega)];omega,?_,by omega,by omega⟩;rw[nE hp h,cx,List.take_succ_eq_append_getElem (by rw[jm];exact h),List.map_append,<- uz];congr 2;unfold cf;rw[List.getD_eq_getElem?_getD,List.getElem?_eq_getElem (by rw[jm];exact h)];rfl
theorem DI{c:List UInt8}{p:List (List UInt8)}(hc:GQ QK2 c)(hp:GL QK2 p)(k:Nat):GL QK (txP (((nl p).take k).map fun x=>bg c*x)):=by
 refine pI fun x hx=> ?_;obtain⟨y,hy,rfl⟩:=List.mem_map.1 hx;have e:QK=10000000:=rfl;have e2:QK2=4000000:=rfl;have:=kX (bg c) y;have:=hc.2;have:=hp.lq y (List.mem_of_mem_take hy);omega
theorem H6{c:List UInt8}{p:List (List UInt8)}{k:Nat}(h: ¬k<p.length):txP (aT (nl (txP (((nl p).take k).map fun x=>bg c*x))))=txP (fp (bg c) (nl p)):=by
 rw[lk,List.take_of_length_le (by rw[jm];omega)];rfl
theorem LZ(k:Nat):List.replicate k [48]++ [[48]]=List.replicate (k+1) ([48]:List UInt8):=(List.replicate_succ' ..).symm
theorem Oc(k:Nat):txP (List.replicate k 0)=List.replicate k [48]:=by unfold txP;rw[List.map_replicate,oF]
theorem DJ{p:List (List UInt8)}(hp:GL QK p)(k:Nat):GL QK (List.replicate k [48]++p):=by
 intro q hq;rcases List.mem_append.1 hq with h|h
 ·rw[(List.mem_replicate.1 h).2,<- oF];exact lW (Nat.le_trans gX (by unfold QK;decide))
 ·exact hp q h
theorem H7(p q:List (List UInt8)):nl (p++q)=nl p++nl q:=by simp[nl]
theorem PX(k:Nat):nl (List.replicate k [48])=List.replicate k 0:=by rw[<- Oc,lk]
theorem H8{p:List (List UInt8)}{k:Nat}:txP (aT (nl (List.replicate k [48]++p)))=txP (iG k (nl p)):=by
 rw[H7,PX];rfl
def eR(l m:List Rat):Nat->List Rat
 |0=> []
 |i+1=>bK (· + ·) (eR l m i) (iG i (fp (cf l i) m))
theorem L0(c:Rat)(l:List Rat)(x:Rat):aQ (fp c l) x=c*aQ l x:=by
 unfold fp;rw[ki];induction l with
 |nil=>simp only[List.map_nil,gL];grind
 |cons a l ih=>simp only[List.map_cons,fZ,ih];grind
theorem L1(k:Nat)(l:List Rat)(x:Rat):aQ (iG k l) x=x^k*aQ l x:=by
 unfold iG;rw[ki,ow,Dt,List.length_replicate];grind
theorem Fc(l m:List Rat)(x:Rat):∀ i,i<=l.length->aQ (eR l m i) x=aQ (l.take i) x*aQ m x
 |0,_=>by simp only[eR,List.take_zero,gL];grind
 |i+1,h=>by
  rw[eR,oy,L1,L0,Fc l m x i (by omega),p7 l i x (by omega)];grind
theorem L2(l m:List Rat):∀ i,Trm (eR l m i)
 |0=>xK
 |i+1=>jL _ _ _
theorem Od{l m:List Rat}(hl:Trm l)(hm:Trm m):eR l m l.length=c6 l m:=
 Ld (L2 _ _ _) (z7 hl hm) fun x=>by rw[Fc l m x _ (Nat.le_refl _),List.take_length,ox]
theorem Aq{c:Rat}{l:List Rat}{K:Nat}(hc:lq c<=K)(hl:∀ x∈l,lq x<=K):∀ x∈fp c l,lq x<=2*K:=by
 intro x hx;obtain⟨y,hy,rfl⟩:=List.mem_map.1 (im x hx);have:=kX c y;have:=hl y hy;omega
theorem Ar{k:Nat}{l:List Rat}{K:Nat}(hK:1<=K)(hl:∀ x∈l,lq x<=K):∀ x∈iG k l,lq x<=K:=by
 intro x hx;rcases List.mem_append.1 (im x hx) with h|h;·rw[(List.mem_replicate.1 h).2];exact Nat.le_trans gX hK
 ·exact hl x h
theorem PY{l m:List Rat}{K M:Nat}(hK:1<=K)(hM:1<=M)(hl:∀ x∈l,lq x<=K)(hm:∀ x∈m,lq x<=M):∀ x∈bK (· + ·) l m,lq x<=K+M+1:=by
 intro x hx;obtain⟨i,_,rfl⟩:=List.mem_map.1 (im x hx);have h1:=kz hl hK i;have h2:=kz hm hM i;have:=mM (cf l i) (cf m i);show lq (cf l i+cf m i)<=_;omega
theorem Fe{l m:List Rat}{K:Nat}(hK:1<=K)(hl:∀ x∈l,lq x<=K)(hm:∀ x∈m,lq x<=K):∀ i,∀ x∈eR l m i,lq x<=1+i*(2*K+1)
 |0=>by intro x hx;simp[eR] at hx
 |i+1=>by
  intro x hx;have h1:=PY (by omega) (by omega:1<=2*K) (Fe hK hl hm i) (Ar (k:=i) (by omega) (Aq (kz hl hK i) hm)) x hx;rw[Nat.add_mul];omega
theorem wj(c:Rat)(l:List Rat):(fp c l).length<=l.length:=by
 have:=df (l.map fun x=>c*x);rwa [List.length_map] at this
theorem wk(k:Nat)(l:List Rat):(iG k l).length<=k+l.length:=by
 have:=df (List.replicate k 0++l);rw[List.length_append,List.length_replicate] at this;exact this
theorem As(l m:List Rat):∀ i,(eR l m i).length<=i+m.length
 |0=>by simp[eR]
 |i+1=>by
  have h1:=As l m i;have h2:=dZ (· + ·) (eR l m i) (iG i (fp (cf l i) m));have h3:=wk i (fp (cf l i) m);have h4:=wj (cf l i) m;rw[eR];omega
def L3(p q:List (List UInt8)):Prop:=GL 10000 p/\GL 10000 q/\p.length<=100/\q.length<=100
theorem H9{p q:List (List UInt8)}(h:L3 p q){k:Nat}(hk:k<p.length):(GQ QK2 (nth .str p (k:Int))/\GL QK2 q/\q.length<=1000000)/\(GL QK (txP (fp (bg (nth .str p (k:Int))) (nl q)))/\(0:Int)<=(k:Int)/\(k:Int)<=1000000/\(txP (fp (bg (nth .str p (k:Int))) (nl q))).length<=1000000)/\
  GL QK2 (txP (eR (nl p) (nl q) k))/\GL QK2 (txP (iG (k:Int).toNat (nl (txP (fp (bg (nth .str p (k:Int))) (nl q))))))/\(txP (eR (nl p) (nl q) k)).length<=1000000/\(txP (iG (k:Int).toNat (nl (txP (fp (bg (nth .str p (k:Int))) (nl q)))))).length<=1000000:=by
 obtain⟨hp,hq,hl,hl2⟩:=h;have e:QK=10000000:=rfl;have e2:QK2=4000000:=rfl;rw[nE hp hk,cx,lk,Int.toNat_natCast];have h1:=wh hp (by omega) k;have s1:=Aq h1 hq.lq;have s2:=Ar (k:=k) (by omega) s1;have s3:=Fe (by omega) hp.lq hq.lq k;have l1:=wj (cf (nl p) k) (nl q);have l2:=wk k (fp (cf (nl p) k) (nl q));have l3:=As (nl p) (nl q) k;rw[jm] at l1 l3;refine⟨⟨lW (by omega),hq.mono (by omega),by omega⟩,⟨pI fun x hx=>by have:=s1 x hx;omega,by omega,by omega,by rw[cp];omega⟩,pI fun x hx=> ?_,pI fun x hx=>by have:=s2 x hx;omega,by rw[cp];omega,by rw[cp];omega⟩;have:=s3 x hx;have h9:k*(2*10000+1)<=100*(2*10000+1):=Nat.mul_le_mul_right _ (by omega);omega
theorem DK{p q:List (List UInt8)}(h:L3 p q){k:Nat}(hk:k<p.length):∃ z:Nat,IntKind.i64.wrap ((k:Int)+1)=(z:Int)/\txP (bK (· + ·) (nl (txP (eR (nl p) (nl q) k))) (nl (txP (iG (k:Int).toNat (nl (txP (fp (bg (nth .str p (k:Int))) (nl q))))))))=txP (eR (nl p) (nl q) z)/\z<=p.length/\p.length-z<p.length-k:=by
 have hl:=h.2.2.1;refine⟨k+1,by rw[wi (by omega) (by omega)];omega,?_,by omega,by omega⟩;rw[nE h.1 hk,cx,lk,lk,lk,Int.toNat_natCast];rfl
theorem L4{p q:List (List UInt8)}{k:Nat}(h1:k<=p.length)(h: ¬k<p.length):txP (eR (nl p) (nl q) k)=txP (eR (nl p) (nl q) p.length):=by
 rw[show k=p.length by omega]
theorem Qw{k a b:Nat}(h:(decide ((k:Int)<(a:Int))||decide ((k:Int)<(b:Int)))=true):k<max a b:=by
 rw[Bool.or_eq_true,decide_eq_true_iff,decide_eq_true_iff] at h;omega
theorem Qx{k a b:Nat}(h:(decide ((k:Int)<(a:Int))||decide ((k:Int)<(b:Int)))=false): ¬k<max a b:=by
 rw[Bool.or_eq_false_iff,decide_eq_false_iff_not,decide_eq_false_iff_not] at h;omega
theorem uA{n:Nat}(h:n<=3000000):Cm.Roomy 1 n:=xA (by omega)
theorem DL{p q:List (List UInt8)}(hp:GL QK2 p)(hq:GL QK2 q){k:Nat}(hk:k<=1000000):(GL QK p/\(0:Int)<=(k:Int))/\(GL QK q/\(0:Int)<=(k:Int))/\(GQ QK (aS (cf (nl p) (k:Int).toNat))/\GQ QK (aS (cf (nl q) (k:Int).toNat)))/\Cm.Roomy 1 ((txP (bM (· + ·) (nl p) (nl q) k)).length+1):=
 ⟨(oG hp hq k).1,(oG hp hq k).2.1,(oG hp hq k).2.2,uA (by rw[cp,eH];omega)⟩
theorem At{c:List UInt8}{p:List (List UInt8)}(hc:GQ QK2 c)(hp:GL QK2 p)(hl:p.length<=1000000){k:Nat}(hk:k<p.length):((0:Int)<=(k:Int)/\(k:Int)<((p.length:Nat):Int))/\(GQ QK c/\GQ QK (nth .str p (k:Int)))/\Cm.Roomy 1 ((txP (List.map (fun x=>bg c*x) (List.take k (nl p)))).length+1):=by
 have e:QK=10000000:=rfl;have e2:QK2=4000000:=rfl;have h1:=wh hp (by omega) k;refine⟨by omega,⟨⟨hc.1,by have:=hc.2;omega⟩,by rw[nE hp hk];exact lW (by omega)⟩,uA ?_⟩;rw[cp,List.length_map,List.length_take,jm];omega
abbrev DPD:=List Int×Int×List Int
def ll(d:DPD):Prop:=(∀ n∈d.1, -128<=n/\n<128)/\(0<=d.2.1/\d.2.1<256)/\∀ n∈d.2.2, -128<=n/\n<128
def PZ(d:DPD)(n:Int):Rat:=Rat.divInt (n.tmod 10) (1+d.2.1.tmod 4)
def iH(d:DPD)(k:Nat):List Rat:=(d.1.take k).map (PZ d)
def mr(r:Int):List Rat:= [Rat.divInt (-r.tmod 8) 2,1]
def me(d:DPD):Nat->List Rat
 |0=>aT (iH d 5)
 |i+1=>c6 (me d i) (mr (d.2.2.getD i 0))
def uB(d:DPD):List Rat:=me d (min d.2.2.length 4)
theorem jc(n:Int)(m:Int)(hm:0<m): -m<n.tmod m/\n.tmod m<m:=by
 have h1:=Int.tmod_lt_of_pos n hm;have h2:=Int.tmod_lt_of_pos (-n) hm;rw[Int.neg_tmod] at h2;omega
theorem iI{n:Int}(h:n.natAbs<1000000000):lw n<=1:=jH (by show _<(1000000000:Int)^1;omega)
theorem Ff{d:DPD}(h:ll d)(l:List Int):Den 1 (l.map (PZ d)):=by
 obtain⟨_,⟨h1,h2⟩,_⟩:=h;have hD:=jc d.2.1 4 (by decide);have h0:0<=d.2.1.tmod 4:=Int.tmod_nonneg _ h1;refine⟨1+d.2.1.tmod 4,by omega,iI (by omega),fun i=> ?_⟩;by_cases hi:i<l.length;·refine⟨l[i].tmod 10,iI (by have:=jc l[i] 10 (by decide);omega),?_⟩;unfold cf;rw[List.getD_eq_getElem?_getD,List.getElem?_map,List.getElem?_eq_getElem hi];rfl
 ·exact⟨0,by rw[gW];omega,by rw[dh (by rw[List.length_map];omega),Rat.zero_divInt]⟩
theorem wm(r:Int):Trm (mr r):=fun _=>by unfold mr aK;show (1:Rat)≠0;decide
theorem Au(r:Int):Den 1 (mr r):=by
 have h:=jc r 8 (by decide);refine⟨2,by decide,iI (by decide),fun i=> ?_⟩;match i with
 |0=>exact⟨-r.tmod 8,iI (by omega),rfl⟩
 |1=>exact⟨2,iI (by decide),by show (1:Rat)=_;decide+kernel⟩
 |i+2=>exact⟨0,by rw[gW];omega,by rw[dh (by unfold mr;simp),Rat.zero_divInt]⟩
theorem nF{d:DPD}(h:ll d):∀ i,i<=4->Sml (5+i) (1+2*i) (me d i)
 |0,_=>⟨by
   have:=df (iH d 5);unfold me;(have h2:(iH d 5).length<=5:=by unfold iH;rw[List.length_map,List.length_take];omega);omega,k9 _,lh (Ff h _)⟩
 |i+1,hi=>by
  have ih:=nF h i (by omega);have:=ih.mul (l2:=mr (d.2.2.getD i 0)) (m:=2) (c:=1) (k:=5+(i+1)) ⟨by unfold mr;simp,wm _,Au _⟩ (by omega) (by omega) (by omega) (by omega);exact⟨this.len,this.trm,this.den.mono (by omega)⟩
theorem wo{d:DPD}(h:ll d):Sml 9 9 (uB d):=by
 have:=nF h (min d.2.2.length 4) (by omega);exact⟨by have:=this.len;unfold uB;omega,this.trm,this.den.mono (by omega)⟩
abbrev I8:Ty:= .int .i8
theorem L5{l:List Int}{k:Nat}(hk:k<l.length):nth I8 l (k:Int)=l[k]:=fV (t:=I8) hk
theorem P0{d:DPD}{k:Nat}(hk:k<d.1.length):txP (iH d k)++ [aS (PZ d (nth I8 d.1 (k:Int)))]=txP (iH d (k+1)):=by
 rw[<- uz];unfold iH;rw[L5 hk,List.take_succ_eq_append_getElem hk,List.map_append];rfl
theorem L6{d:DPD}{k:Nat}(h: ¬ (k<d.1.length/\k<5))(hk:k<=d.1.length/\k<=5):iH d k=iH d 5:=by
 unfold iH;by_cases h5:k=5;·rw[h5]
 ·rw[List.take_of_length_le (by omega),List.take_of_length_le (by omega)]
theorem Fg{d:DPD}(h:ll d)(k:Nat):GL QK (txP (iH d k))/\(txP (iH d k)).length<=k:=by
 refine⟨pI fun x hx=>Nat.le_trans ((Ff h (d.1.take k)).lq x hx) (by unfold QK;decide),?_⟩;rw[cp];unfold iH;rw[List.length_map,List.length_take];omega
theorem P1{d:DPD}{k:Nat}(h:(txP (iH d k)).length<=k)(hk:k<=d.1.length/\k<=5):(txP (iH d k)).length<=1000000000:=by omega
theorem Av(r:Int):txP (mr r)= [aS (Rat.divInt (-r.tmod 8) 2), [49]]:=by
 have h1:aS 1= [49]:=by decide+kernel
 unfold mr txP;simp[h1]
theorem Oe{d:DPD}(h:ll d){i:Nat}(hi:i<=4)(r:Int):L3 (txP (me d i)) [aS (Rat.divInt (-r.tmod 8) 2), [49]]:=by
 have hs:=nF h i hi;rw[<- Av];refine⟨pI fun x hx=>Nat.le_trans (hs.den.lq x hx) (by omega),pI fun x hx=>Nat.le_trans ((Au r).lq x hx) (by omega),by rw[cp];have:=hs.len;omega,by rw[cp];unfold mr;simp⟩
theorem P2{d:DPD}(h:ll d){i:Nat}(hi:i<d.2.2.length)(hi4:i<4):txP (eR (nl (txP (me d i))) (nl [aS (Rat.divInt (-(nth I8 d.2.2 (i:Int)).tmod 8) 2), [49]]) (txP (me d i)).length)=txP (me d (i+1)):=by
 rw[<- Av,lk,lk,cp,Od (nF h i (by omega)).trm (wm _),me,L5 hi];congr 3;rw[List.getD_eq_getElem?_getD,List.getElem?_eq_getElem hi];rfl
theorem P3{d:DPD}{i:Nat}(h: ¬ (i<d.2.2.length/\i<4))(hk:i<=d.2.2.length/\i<=4):txP (me d i)=txP (uB d):=by
 unfold uB;rw[show min d.2.2.length 4=i by omega]
theorem O8{k a n:Nat}(h:(decide ((k:Int)<(a:Int))&&decide ((k:Int)<(n:Int)))=true):k<a/\k<n:=by
 rw[Bool.and_eq_true,decide_eq_true_iff,decide_eq_true_iff] at h;omega
theorem O9{k a n:Nat}(h:(decide ((k:Int)<(a:Int))&&decide ((k:Int)<(n:Int)))=false): ¬ (k<a/\k<n):=by
 rw[Bool.and_eq_false_iff,decide_eq_false_iff_not,decide_eq_false_iff_not] at h;omega
theorem Qy{d:DPD}(h:ll d){k:Nat}(hk:k<d.2.2.length):IntKind.i64.wrap (0-(IntKind.i64.wrap (nth I8 d.2.2 (k:Int))).tmod 8)= -(nth I8 d.2.2 (k:Int)).tmod 8:=by
 have h1:=h.2.2 (nth I8 d.2.2 (k:Int)) (gu (t:=I8) hk);rw[wi (x:=nth I8 d.2.2 (k:Int)) (by omega) (by omega)];have h2:=jc (nth I8 d.2.2 (k:Int)) 8 (by decide);rw[wi (by omega) (by omega)];omega
theorem Qz{d:DPD}(h:ll d){k:Nat}(hk:k<d.1.length):IntKind.i64.wrap (nth I8 d.1 (k:Int))=nth I8 d.1 (k:Int):=by
 have h1:=h.1 (nth I8 d.1 (k:Int)) (gu (t:=I8) hk);exact wi (by omega) (by omega)
theorem Ia{d:DPD}(h:ll d){k:Nat}(hk:k<d.2.2.length/\k<4):((0:Int)<=(k:Int)/\(k:Int)<((d.2.2.length:Nat):Int))/\(8:Int)≠0/\
  (I64 (IntKind.i64.wrap (0-(IntKind.i64.wrap (nth I8 d.2.2 (k:Int))).tmod 8))/\I64 2/\(2:Int)≠0)/\
   L3 (txP (me d k)) [aS (Rat.divInt (IntKind.i64.wrap (0-(IntKind.i64.wrap (nth I8 d.2.2 (k:Int))).tmod 8)) 2), [49]]:=by
 rw[Qy h hk.1];have h2:=jc (nth I8 d.2.2 (k:Int)) 8 (by decide);exact⟨by omega,by decide,⟨by unfold I64;omega,by unfold I64;omega,by decide⟩,Oe h (by omega) _⟩
theorem Ib{d:DPD}(h:ll d){k:Nat}(hk:k<d.2.2.length/\k<4):∃ z:Nat,txP (eR (nl (txP (me d k))) (nl [aS (Rat.divInt (IntKind.i64.wrap (0-(IntKind.i64.wrap (nth I8 d.2.2 (k:Int))).tmod 8)) 2), [49]]) (txP (me d k)).length)=txP (me d z)/\
   IntKind.i64.wrap ((k:Int)+1)=(z:Int)/\z<=d.2.2.length/\z<=4/\4-z<4-k:=by
 rw[Qy h hk.1];exact⟨k+1,P2 h hk.1 hk.2,wi (by omega) (by omega),by omega,by omega,by omega⟩
theorem P4{d:DPD}{k:Nat}(h: ¬ (k<d.1.length/\k<5))(hk:k<=d.1.length/\k<=5):txP (aT (nl (txP (iH d k))))=txP (me d 0):=by
 rw[lk,L6 h hk];rfl
theorem QA{d:DPD}(h:ll d):IntKind.i64.wrap (1+IntKind.i64.wrap (Int.tmod d.2.1 4))=1+d.2.1.tmod 4:=by
 have hD:=jc d.2.1 4 (by decide);have h0:0<=d.2.1.tmod 4:=Int.tmod_nonneg _ h.2.1.1;rw[wi (x:=d.2.1.tmod 4) (by omega) (by omega),wi (by omega) (by omega)]
theorem Ic{d:DPD}(h:ll d){k:Nat}(hk:k<d.1.length/\k<5):((0:Int)<=(k:Int)/\(k:Int)<((d.1.length:Nat):Int))/\(10:Int)≠0/\(4:Int)≠0/\
    (I64 ((IntKind.i64.wrap (nth I8 d.1 (k:Int))).tmod 10)/\
      I64 (IntKind.i64.wrap (1+IntKind.i64.wrap (Int.tmod d.2.1 4)))/\
       IntKind.i64.wrap (1+IntKind.i64.wrap (Int.tmod d.2.1 4))≠0)/\
     live [some (txP (iH d k))] 0=true/\Cm.Roomy 1 ((rowOf [some (txP (iH d k))] 0).length+1):=by
 rw[QA h,Qz h hk.1];have hD:=jc d.2.1 4 (by decide);have h0:0<=d.2.1.tmod 4:=Int.tmod_nonneg _ h.2.1.1;have hn:=jc (nth I8 d.1 (k:Int)) 10 (by decide);refine⟨by omega,by decide,by decide,⟨by unfold I64;omega,by unfold I64;omega,by omega⟩,rfl,uA ?_⟩;show (txP (iH d k)).length+1<=_;rw[cp];unfold iH;rw[List.length_map,List.length_take];omega
theorem Ie{d:DPD}(h:ll d){k:Nat}(hk:k<d.1.length/\k<5):∃ z:Nat,IntKind.i64.wrap ((k:Int)+1)=(z:Int)/\
   rowOf [some (txP (iH d k))] 0++ [aS (Rat.divInt ((IntKind.i64.wrap (nth I8 d.1 (k:Int))).tmod 10) (IntKind.i64.wrap (1+IntKind.i64.wrap (Int.tmod d.2.1 4))))]=txP (iH d z)/\
    z<=d.1.length/\z<=5/\5-z<5-k:=by
 rw[QA h,Qz h hk.1];exact⟨k+1,wi (by omega) (by omega),P0 hk.1,by omega,by omega,by omega⟩
abbrev DWD:=Bool×List Int×Int
abbrev DQD:=DWD×DWD
def Aw(d:DQD):Prop:=DOK d.1/\DOK d.2
def dqv(d:DQD):Rat:=if an (c9 d.2)=0 then (an (c9 d.1):Rat) else Rat.divInt (an (c9 d.1)) (an (c9 d.2))
theorem nG{d:DWD}(h:DOK d):RF (c9 d)/\Lib.itoa (an (c9 d))=c9 d/\lw (an (c9 d))<=27:=by
 obtain⟨h1,h2⟩:=Kl h;have hf:RF (c9 d):=by unfold RF;rw[h1];decide
 refine⟨hf,ie hf,jH ?_⟩;have h3:(10:Nat)^240<=1000000000^27:=by decide
 have h5:(LB^27:Int)=((1000000000^27:Nat):Int):=by rw[Int.natCast_pow];rfl
 rw[h5];omega
theorem Pa{d:DWD}(h:DOK d):RS 200000000 (c9 d):=by
 obtain⟨h1,h2,h3⟩:=nG h;refine⟨h1,?_⟩;have:=ff (an (c9 d));rw[h2] at this;omega
theorem Fh{d:DWD}(h:DOK d):c9 d= [48]↔an (c9 d)=0:=by
 constructor;·intro e;rw[e];decide
 ·intro e;have:=(nG h).2.1;rw[e] at this;rw[<- this];decide+kernel
theorem Of{d:DQD}(h:Aw d)(h0:c9 d.2= [48]):c9 d.1=aS (dqv d):=by
 unfold dqv;rw[if_pos ((Fh h.2).1 h0),mS,(nG h.1).2.1]
theorem Fi{d:DQD}(h:Aw d)(h0: ¬c9 d.2= [48]):MkR (c9 d.1) (c9 d.2)/\aS (Rat.divInt (an (c9 d.1)) (an (c9 d.2)))=aS (dqv d):=by
 have hz: ¬an (c9 d.2)=0:=fun e=>h0 ((Fh h.2).2 e);refine⟨⟨Pa h.1,Pa h.2,hz⟩,?_⟩;unfold dqv;rw[if_neg hz]
theorem P5{d:DQD}(h:Aw d):lq (dqv d)<=27:=by
 have h1:=(nG h.1).2.2;have h2:=(nG h.2).2.2;unfold dqv;split;·unfold lq;rw[Rat.num_intCast,Rat.den_intCast];have:lw ((1:Nat):Int)=1:=mJ;omega
 ·rename_i h3;have:=ke (an (c9 d.1)) (an (c9 d.2)) h3;omega
def L7(x:Rat):Bool:=decide (cB x.num<=20/\cB (x.den:Int)<=20)
def lp(d:DQD):Rat:=if L7 (dqv d)=true then dqv d else Rat.divInt (-3) 7
theorem DM{d:DQD}(h:Aw d):eU (aS (dqv d)):=by
 have hr:RQ (aS (dqv d)):=by
  refine⟨?_,?_⟩;·rw[jM];unfold eV;split<;>decide
  ·have:=jN (P5 h);unfold QL;omega
 exact hr.form
theorem wq{d:DQD}:decide (cB (an (tN (aS (dqv d))))<=20/\cB (an (tD (aS (dqv d))))<=20)=L7 (dqv d):=by
 obtain⟨h1,h2,_⟩:=ja (dqv d);rw[h1,h2,(bd _).2,(bd _).2];rfl
theorem Og{d:DQD}(h:cB (an (tN (aS (dqv d))))<=20/\cB (an (tD (aS (dqv d))))<=20):aS (dqv d)=aS (lp d):=by
 have:=decide_eq_true h;rw[wq] at this;unfold lp;rw[if_pos this]
theorem Oh{d:DQD}(h: ¬ (cB (an (tN (aS (dqv d))))<=20/\cB (an (tD (aS (dqv d))))<=20)): [45,51,47,55]=aS (lp d):=by
 have:=decide_eq_false h;rw[wq] at this;unfold lp;rw[if_neg (by rw[this];decide)];decide+kernel
theorem Oi{n:Int}{k:Nat}(h:cB n<=(k:Int)):n.natAbs<10^k:=by
 rw[dA] at h;obtain⟨d1,d2,_,_⟩:=iy n.natAbs;have h2:=eT d1;rw[d2] at h2;exact Nat.lt_of_lt_of_le h2 (Nat.pow_le_pow_right (by omega) (by omega))
theorem Ig(d:DQD):lq (lp d)<=3:=by
 have key:∀ n:Int,cB n<=20->lw n<=3:=by
  intro n h;have h1:=Oi (k:=20) h;refine jH ?_;have h3:(10:Nat)^20<=1000000000^3:=by decide
  have h5:(LB^3:Int)=((1000000000^3:Nat):Int):=by rw[Int.natCast_pow];rfl
  rw[h5];omega
 unfold lp;split;·rename_i h;unfold L7 at h;rw[decide_eq_true_iff] at h;exact Nat.max_le.2 ⟨key _ h.1,key _ h.2⟩
 ·have h1:=ke (-3) 7 (by decide);have h2:lw (-3)<=1:=iI (by decide);have h3:lw 7<=1:=iI (by decide);omega
theorem QB(a b:Int):(a==b)=decide (a=b):=by rw[Bool.eq_iff_iff,beq_iff_eq,decide_eq_true_iff]
theorem P6(e:Int)(p q:List (List UInt8)):(e==0&&decide (p=q))=decide (e=0/\p=q):=by rw[QB];exact(Bool.decide_and _ _).symm
def L(l:List (List UInt8)):List (List UInt8):=l
theorem wp1:dvS [[45,49], [48], [48], [49]] [[45,49], [49]]= [[49], [49], [49]]/\dvR [[45,49], [48], [48], [49]] [[45,49], [49]]= []/\dvE [[45,49], [48], [48], [49]] [[45,49], [49]]=0:=by decide+kernel
theorem wp2:dvS [[49], [48], [49]] [[48], [50]]= [[48], [49,47,50]]/\dvR [[49], [48], [49]] [[48], [50]]= [[49]]/\dvE [[49], [48], [49]] [[48], [50]]=0:=by decide+kernel
theorem wp3:dvE [[49]] []=2:=by decide+kernel
theorem wp4:evS [[49], [48], [49]] [49,47,50]= [53,47,52]/\evE [[49], [48], [49]] [49,47,50]=0:=by decide+kernel
theorem wp5:evE [[49]] [50,47,50]=5:=by decide+kernel
theorem wp6:db c6 [[49], [49]] [[45,49], [49]]= [[45,49], [48], [49]]/\da c6 [[49], [49]] [[45,49], [49]]=0:=by decide+kernel
theorem wp7:db (bK (· + ·)) [[49], [50]] [[49], [45,50]]= [[50]]/\da (bK (· + ·)) [[49], [50]] [[49], [45,50]]=0:=by decide+kernel
theorem wp8:db (bK (· - ·)) [[49], [50]] [[49], [50]]= []/\da (bK (· - ·)) [[49], [50]] [[49], [50]]=0:=by decide+kernel
theorem wp9:db cw [[45,49], [48], [49]] [[49], [50], [49]]= [[49], [49]]/\da cw [[45,49], [48], [49]] [[49], [50], [49]]=0:=by decide+kernel
theorem Oj:db cw [[50]] []= [[49]]/\da cw [[50]] []=0:=by decide+kernel
theorem Ok:db cw [] []= []/\da cw [] []=0:=by decide+kernel
theorem Ol:pG [[49], [48], [49]] [[49], [49]]= [[50], [50], [49]]/\lj [[49], [48], [49]] [[49], [49]]=0:=by decide+kernel
theorem Om:db (fun a _=>cq a) [[53], [51], [48], [50]] []= [[51], [48], [54]]/\da (fun a _=>cq a) [[53], [51], [48], [50]] []=0:=by decide+kernel
theorem Oo:db (fun a _=>cm a) [[50], [45,51], [48], [49]] []= [[45,50], [49], [49]]/\da (fun a _=>cm a) [[50], [45,51], [48], [49]] []=0:=by decide+kernel
theorem Oq:db (fun a _=>cm a) [[55]] []= [[49]]/\da (fun a _=>cm a) [[55]] []=0:=by decide+kernel
theorem Ot:cP [[49], [48]]=40/\cP [[49,47,48]]=40:=by decide+kernel
theorem wsq:3<=QL/\((((0:Nat):Int)==0)=true->(((0:Nat):Int)==0)=true)/\((((0:Nat):Int)==0)=true->(((0:Nat):Int)==0)=true/\2<=QL)/\((((0:Nat):Int)==0)=true->(((0:Nat):Int)==0)=true)/\
  ((((0:Nat):Int)==0)=true->(((0:Nat):Int)==0)=true)/\((((0:Nat):Int)==0)=true->(((0:Nat):Int)==0)=true/\1<=QL)/\((((0:Nat):Int)==0)=true->(((0:Nat):Int)==0)=true):=by
 unfold QL;decide
theorem ok6:bO (fun p q=>Sz QM p/\Sz QM q/\p.length<=100/\q.length<=100) c6 [[49], [49]] [[45,49], [49]]:=Qu (n:=4) (K:=1) (by decide+kernel) (by decide+kernel)
theorem ok7:bO (fun p q=>Sz QH p/\Sz QH q/\p.length<=1000/\q.length<=1000) (bK (· + ·)) [[49], [50]] [[49], [45,50]]:=Qs (n:=4) (K:=1) (by decide+kernel) (by decide+kernel)
theorem ok8:bO (fun p q=>Sz QH p/\Sz QH q/\p.length<=1000/\q.length<=1000) (bK (· - ·)) [[49], [50]] [[49], [50]]:=Qt (n:=4) (K:=1) (by decide+kernel) (by decide+kernel)
theorem ok9:bO iY cw [[45,49], [48], [49]] [[49], [50], [49]]:=LA (n:=4) (K:=1) (by decide+kernel) (by decide+kernel)
theorem QS:bO iY cw [[50]] []:=LA (n:=4) (K:=1) (by decide+kernel) (by decide+kernel)
theorem QT:bO iY cw [] []:=LA (n:=4) (K:=1) (by decide+kernel) (by decide+kernel)
theorem QU:qc [[49], [48], [49]] [[49], [49]]:=PW (n:=4) (m:=4) (K:=1) (by decide+kernel) (by decide+kernel)
theorem QV:bO (fun p _=>Sz QH p/\p.length<=1000) (fun a _=>cq a) [[53], [51], [48], [50]] []:=Qv (n:=4) (K:=1) (by decide+kernel)
theorem QW:bO (fun p _=>mo p) (fun a _=>cm a) [[50], [45,51], [48], [49]] []:=O4 (n:=4) (K:=1) (by decide+kernel)
theorem QX:bO (fun p _=>mo p) (fun a _=>cm a) [[55]] []:=O4 (n:=4) (K:=1) (by decide+kernel)
theorem QE:de [[49], [48]]/\de [[49,47,48]]:=by unfold de QL;decide
end Go.Cm
end
section
namespace Go.Proofs.YtdojbabpnaifoaaGreatDoor
open Go Go.Cm Go.Proofs
theorem pQ:cN Tryz.prog 84 .func:=Ea (by kernel_rfl) ⟨_,_,_,Tryz.underlying84⟩
theorem QF:cN Tryz.prog 109 .func:=Ea (by kernel_rfl) ⟨_,_,_,Tryz.underlying109⟩
def xT(B:ag):Tab:={types:= [(3,(.int .i64)),(181,(.slice (.int .i64)))],elems:= [],cons:= [],hint:= [],N:=21,base:=B}
theorem Fj{B:ag}(hB:aB B):aG Tryz.prog (xT B):=⟨⟨tc ty3 (tc jG (ae)),af,by simp only[xT,ioB];omega⟩,bH rfl,by kernel_rfl⟩
def mu:Con:=fun l os=>match l,os with
 | [.z (.slice (.int .i64)) d], []=>some (D.Lim d/\d.length<CAP, [.z (.slice (.int .i64)) (D.limbs (D.valL d).toNat)], [])
 |_,_=>none
theorem nH{B:ag}(hB:aB B):Valid B Tryz.prog 183 mu:=by
 refine ab (Fj hB).tab Tryz.func183 rfl rfl rfl ?_;intro args os C rs os' hc hC;unfold mu at hc;split at hc;case h_2=>cases hc
 rename_i d;cases hc;refine v_h (Fj hB) fun X hP hT hr hG=> ?_;have hU:=xT.eq_1;unfold xT at hT;have hX:=Bool.not_true;simp only[Tryz.f183,aC,al,ioB];refine s_g hG ?_;refine ak ?_;refine ax ?_;refine br (fun(z:List Int)=>(⟨[(0, .l (.z (.slice (.int .i64)) z))], []⟩:aa)) (fun z=>D.Lim z/\D.valL z=D.valL d/\z.length<=d.length) (fun z=>z.length) d ?_ ?_ ?_;·simp only[ml0,ml1,Nat.reduceLT,Nat.reduceEqDiff,Nat.reduceAdd,Nat.reduceMul,Nat.reduceSub,Nat.reduceLeDiff,Nat.reduceBEq,Nat.reduceBNe,reduceIte,reduceDIte,reduceCtorEq]
 ·exact⟨hC.1,rfl,Nat.le_refl _⟩
 ·rintro z ⟨g1,g2,g3⟩;try dsimp only at g1 g2 g3
  have h4:z.length<1000000000000:=Nat.lt_of_le_of_lt g3 hC.2;refine ak ?_;refine s_q hG ?_ ?_
  ·(try simp only[ba]);exact⟨id,id,fun h=>⟨h,by simp only[decide_eq_true_eq] at h;rw[wi (by omega) (by omega)];omega⟩,id⟩
  refine ao ?_ ?_
  ·intro hb0;(try simp only[bt] at hb0);refine aq ?_;refine aj ?_;refine ax ?_;refine ah hG ?_ ?_
   ·(try simp only[ba]);rw[wi (by omega) (by omega)];omega
   refine aL ?_;show ∃ z,_;refine q_l ?_;exact D.whole_round g1 g2 g3 hb0.1 h4 hb0.2
  ·intro hb0;(try simp only[bf] at hb0);refine bh ?_;refine aE ?_;refine az ?_;refine ay ?_;refine aj ?_;refine s_g hG ?_;refine av ?_;refine q_e [] ?_;refine D.cut_fin g1 g2 fun hz h0=> ?_;have:=hb0 (by simp;omega);rw[wi (by omega) (by omega),D.last_eq hz] at this;exact this h0
def xU(B:ag):Tab:={types:= [(3,(.int .i64)),(181,(.slice (.int .i64)))],elems:= [],cons:= [],hint:= [],N:=41,base:=B}
theorem Fk{B:ag}(hB:aB B):aG Tryz.prog (xU B):=⟨⟨tc ty3 (tc jG (ae)),af,by simp only[xU,ioB];omega⟩,bH rfl,by kernel_rfl⟩
def iq:Con:=fun l os=>match l,os with
 | [.z (.slice (.int .i64)) m, .z (.slice (.int .i64)) o], []=>some (D.Cano m/\D.Cano o/\m.length<CAP/\o.length<CAP, [.z (.int .i64) (bx (D.valL m) (D.valL o))], [])
 |_,_=>none
theorem Ax{B:ag}(hB:aB B):Valid B Tryz.prog 160 iq:=by
 refine ab (Fk hB).tab Tryz.func160 rfl rfl rfl ?_;intro args os C rs os' hc hC;unfold iq at hc;split at hc;case h_2=>cases hc
 rename_i m o;cases hc;refine v_h (Fk hB) fun X hP hT hr hG=> ?_;have hU:=xU.eq_1;unfold xU at hT;have hX:=Bool.not_true;simp only[Tryz.f160,aC,al,ioB];refine s_g hG ?_;refine ak ?_;refine s_g hG ?_;refine ao ?_ ?_
 ·intro hb0;try simp only[bt] at hb0
  refine ak ?_;refine s_g hG ?_;refine ao ?_ ?_;·intro hb1;(try simp only[bt] at hb1);refine s_g hG ?_;refine av ?_;refine aw ?_;refine aw ?_;refine q_e [] ?_;unfold bx;rw[if_pos (D.cmp_len hC.1 hC.2.1 (by omega))]
  ·intro hb1;(try simp only[bf] at hb1);refine aq ?_;refine aj ?_;refine s_g hG ?_;refine av ?_;refine aw ?_;refine q_e [] ?_;have:=D.cmp_len hC.2.1 hC.1 (by omega);unfold bx;rw[if_neg (by omega),if_pos this]
 ·intro hb0;simp only[bne_eq_false_iff_eq] at hb0;obtain⟨c1,c2,c3,c4⟩:=hC;have c3:List.length m<1000000000000:=c3;have hl:List.length m=List.length o:=by omega
  refine aq ?_;refine aj ?_;refine ak ?_;refine s_g hG ?_;refine ax ?_;refine br (fun(z:Nat)=>(⟨[(0, .l (.z (.slice (.int .i64)) m)),(1, .l (.z (.slice (.int .i64)) o)),(5, .l (.z (.int .i64) ((z:Int)-1)))], []⟩:aa)) (fun z=>z<=List.length m/\List.drop z m=List.drop z o) (fun z=>z) (List.length m) ?_ ?_ ?_;·refine q_l ?_;exact wi (by omega) (by omega)
  ·exact⟨Nat.le_refl _,by rw[List.drop_length,List.drop_of_length_le (by omega)]⟩
  ·rintro k ⟨g1,g2⟩;(try dsimp only at g1 g2);refine ak ?_;refine s_g hG ?_;refine ao ?_ ?_
   ·intro hb2;(try simp only[bt] at hb2);refine aq ?_;refine aj ?_;refine ak ?_;refine ax ?_;refine s_d hG ?_ ?_
    ·(try simp only[ba]);exact⟨⟨by omega,by omega⟩,by omega,by omega⟩
    refine ao ?_ ?_
    ·intro hb3;(try simp only[bt] at hb3);refine ak ?_;refine s_d hG ?_ ?_
     ·(try simp only[ba]);exact⟨⟨by omega,by omega⟩,by omega,by omega⟩
     (refine ao ?_ ?_;·intro hb4;(try simp only[bt] at hb4);refine s_g hG ?_;refine av ?_;refine aw ?_;refine bD ?_;refine aw ?_;refine eF ?_;refine bD ?_;refine aw ?_;refine q_e [] ?_;obtain⟨j,rfl⟩:∃ j,k=j+1:=⟨k-1,by omega⟩;(have hk:((j+1:Nat):Int)-1=(j:Int):=by omega);rw[hk] at hb4;exact(D.cmp_less c1 c2 hl (by omega) g2 hb4).symm);·intro hb4;(try simp only[bf] at hb4);refine aq ?_;refine aj ?_;refine s_g hG ?_;refine av ?_;refine bD ?_;refine aw ?_;refine eF ?_;refine bD ?_;refine aw ?_;refine q_e [] ?_;obtain⟨j,rfl⟩:∃ j,k=j+1:=⟨k-1,by omega⟩;(have hk:((j+1:Nat):Int)-1=(j:Int):=by omega);rw[hk] at hb3 hb4;have hb5:List.getD o j 0<List.getD m j 0:=D.gt_of hb4 hb3;exact(D.cmp_more c1 c2 hl (by omega) g2 hb5).symm
    ·(intro hb3;(try simp only[bf] at hb3);refine aq ?_;refine aL ?_;refine aj ?_;refine ah hG ?_ ?_;·first|trivial|omega|(simp;done)|(simp;omega));show ∃ z,_;refine q_l ?_;obtain⟨j,rfl⟩:∃ j,k=j+1:=⟨k-1,by omega⟩;(have hk:((j+1:Nat):Int)-1=(j:Int):=by omega);rw[hk] at hb3 ⊢;exact⟨j,wi (by omega) (by omega),by omega,D.drop_step hl (by omega) g2 hb3,by omega⟩
   ·intro hb2;(try simp only[bf] at hb2);refine bh ?_;refine aE ?_;refine az ?_;refine ay ?_;refine aj ?_;refine s_g hG ?_;refine av ?_;refine q_e [] ?_;(have:k=0:=by omega);subst this;simp only[List.drop_zero] at g2;rw[g2];simp[bx]
def xV(B:ag):Tab:={types:= [(3,(.int .i64)),(181,(.slice (.int .i64)))],elems:= [(181,3)],cons:= [],hint:= [],N:=54,base:=B}
theorem Fl{B:ag}(hB:aB B):aG Tryz.prog (xV B):=⟨⟨tc ty3 (tc jG (ae)),aR (by kernel_rfl) (af),by simp only[xV,ioB];omega⟩,bH rfl,by kernel_rfl⟩
def xW:Con:=fun l os=>match l,os with
 | [.z (.slice (.int .i64)) m, .z (.slice (.int .i64)) o], []=>some (D.Cano m/\D.Cano o/\m.length<CAP/\o.length<CAP, [.z (.slice (.int .i64)) (D.limbs (D.valL m+D.valL o).toNat)], [])
 |_,_=>none
theorem L8{B:ag}(hB:aB B):Valid B Tryz.prog 159 xW:=by
 refine ab (Fl hB).tab Tryz.func159 rfl rfl rfl ?_;intro args os C rs os' hc hC;unfold xW at hc;split at hc;case h_2=>cases hc
 rename_i m o;cases hc;refine v_h (Fl hB) fun X hP hT hr hG=> ?_;have hU:=xV.eq_1;unfold xV at hT;have hX:=Bool.not_true;simp only[Tryz.f159,aC,al,ioB];refine s_g hG ?_;refine s_g hG ?_;refine s_g hG ?_;refine ak ?_;refine s_g hG ?_;refine ax ?_;refine br (fun(z:Nat×Int×List Int)=>(⟨[(0, .l (.z (.slice (.int .i64)) m)),(1, .l (.z (.slice (.int .i64)) o)),(5, .l (.ownS 50)),(6, .l (.z (.int .i64) z.2.1)),(7, .l (.z (.int .i64) (z.1:Int)))], [(50, .arr (.int .i64) 3 z.2.2)]⟩:aa)) (fun z=>D.PlusPhi m o z.1 z.2.1 z.2.2) (fun z=>2*(max (List.length m) (List.length o)-z.1)+z.2.1.toNat) (0,0, []) ?_ ?_ ?_;·refine q_l ?_;exact⟨rfl,by unfold ioB;omega⟩
 ·exact D.plus_start
 ·rintro⟨k,c,out⟩ hz;try dsimp only at hz
  obtain⟨c1,c2,c3,c4⟩:=hC;have c3:List.length m<1000000000000:=c3;have c4:List.length o<1000000000000:=c4;have hw:=D.plus_n c1.1 c2.1 hz;have hk:=hz.hk;refine ak ?_;refine s_q hG ?_ ?_
  ·try simp only[ba]
   (repeat' (first|apply And.intro|intro _))<;>(try simp only[decide_eq_true_eq,decide_eq_false_iff_not,Bool.not_eq_true',beq_iff_eq,Int.toNat_natCast] at*)<;>first|assumption|omega|trivial|(simp_all;done)|(simp_all;omega)
  refine ao ?_ ?_
  ·intro hb0;simp only[Bool.or_eq_true,decide_eq_true_eq] at hb0;(have hkk:k<List.length m∨k<List.length o∨(0:Int)<c:=by omega);have hks:=hz.hs;have hkM:k<=max (List.length m) (List.length o):=D.plus_k hz (by omega);(have hb0:(k<List.length m∨k<List.length o)∨(0:Int)<c:=by omega);refine aq ?_;refine aj ?_;refine ak ?_;refine ax ?_;refine s_g hG ?_;refine ck (fun(z:Int)=>(⟨[(0, .l (.z (.slice (.int .i64)) m)),(1, .l (.z (.slice (.int .i64)) o)),(5, .l (.ownS 50)),(6, .l (.z (.int .i64) c)),(7, .l (.z (.int .i64) (k:Int))),(8, .l (.z (.int .i64) z))], [(50, .arr (.int .i64) 3 out)]⟩:aa)) (fun z=>z=c+m.getD k 0) ?_ ?_
   ·refine s_g hG ?_;refine ao ?_ ?_
    ·intro hb1;(try simp only[bt] at hb1);refine ah hG ?_ ?_
     ·(try simp only[ba]);exact⟨by omega,by omega⟩
     show ∃ z,_;refine q_l ?_;first|exact hw.1|(rw[D.getD_none (by omega)];exact(Int.add_zero _).symm)
    ·intro hb1;(try simp only[bf] at hb1);refine aq ?_;show ∃ z,_;refine q_l ?_;first|exact hw.1|(rw[D.getD_none (by omega)];exact(Int.add_zero _).symm)
   rintro n1 hn1;(try dsimp only at hn1);refine ck (fun(z:Int)=>(⟨[(0, .l (.z (.slice (.int .i64)) m)),(1, .l (.z (.slice (.int .i64)) o)),(5, .l (.ownS 50)),(6, .l (.z (.int .i64) c)),(7, .l (.z (.int .i64) (k:Int))),(8, .l (.z (.int .i64) z))], [(50, .arr (.int .i64) 3 out)]⟩:aa)) (fun z=>z=c+m.getD k 0+o.getD k 0) ?_ ?_
   ·refine s_g hG ?_;refine ao ?_ ?_
    ·intro hb2;(try simp only[bt] at hb2);refine ah hG ?_ ?_
     ·(try simp only[ba]);exact⟨by omega,by omega⟩
     show ∃ z,_;refine q_l ?_;subst hn1;first|exact hw.2.1|(rw[D.getD_none (l:=o) (by omega)];exact(Int.add_zero _).symm)
    ·intro hb2;(try simp only[bf] at hb2);refine aq ?_;show ∃ z,_;refine q_l ?_;subst hn1;first|exact hw.2.1|(rw[D.getD_none (l:=o) (by omega)];exact(Int.add_zero _).symm)
   rintro n hn;(try dsimp only at hn);refine s_q hG ?_ ?_
   ·(try simp only[ba]);exact⟨by decide,by unfold Cm.Roomy;omega⟩
   refine ah hG ?_ ?_
   ·(try simp only[ba]);decide
   (refine aL ?_;refine aj ?_;refine ah hG ?_ ?_;·first|trivial|omega|(simp;done)|(simp;omega));show ∃ z,_;refine q_l ?_;obtain⟨q1,q2⟩:=D.plus_next c1.1 c2.1 hz hb0 hn;exact⟨k+1,by rw[wi (by omega) (by omega)];simp,q1,q2⟩
  ·intro hb0;simp only[Bool.or_eq_false_iff,decide_eq_false_iff_not] at hb0;refine bh ?_;refine aE ?_;refine az ?_;refine ay ?_;refine aj ?_;refine s_g hG ?_;refine av ?_;refine q_e [50] ?_;exact D.plus_fin c1 c2 hz (by omega)
def xX(B:ag):Tab:={types:= [(3,(.int .i64)),(181,(.slice (.int .i64)))],elems:= [(181,3)],cons:= [(183,mu)],hint:= [],N:=41,base:=B}
theorem Fm{B:ag}(hB:aB B):aG Tryz.prog (xX B):=⟨⟨tc ty3 (tc jG (ae)),aR (by kernel_rfl) (af),by simp only[xX,ioB];omega⟩,aD (cc Tryz.func183 (nH hB) (au)),by kernel_rfl⟩
def lX:Con:=fun l os=>match l,os with
 | [.z (.slice (.int .i64)) m, .z (.slice (.int .i64)) o], []=>some (D.Cano m/\D.Cano o/\D.valL o<=D.valL m/\m.length<CAP, [.z (.slice (.int .i64)) (D.limbs (D.valL m-D.valL o).toNat)], [])
 |_,_=>none
theorem Ay{B:ag}(hB:aB B):Valid B Tryz.prog 161 lX:=by
 refine ab (Fm hB).tab Tryz.func161 rfl rfl rfl ?_;intro args os C rs os' hc hC;unfold lX at hc;split at hc;case h_2=>cases hc
 rename_i m o;cases hc;refine v_h (Fm hB) fun X hP hT hr hG=> ?_;have hU:=xX.eq_1;unfold xX at hT;have hX:= @mu.eq_1;simp only[Tryz.f161,aC,al,ioB];refine s_g hG ?_;refine s_g hG ?_;refine s_g hG ?_;refine ak ?_;refine s_g hG ?_;refine ax ?_;refine br (fun(z:Nat×Int×List Int)=>(⟨[(0, .l (.z (.slice (.int .i64)) m)),(1, .l (.z (.slice (.int .i64)) o)),(5, .l (.ownS 38)),(6, .l (.z (.int .i64) z.2.1)),(7, .l (.z (.int .i64) (z.1:Int)))], [(38, .arr (.int .i64) 3 z.2.2)]⟩:aa)) (fun z=>D.MinusPhi m o z.1 z.2.1 z.2.2) (fun z=>List.length m-z.1) (0,0, []) ?_ ?_ ?_;·refine q_l ?_;exact⟨rfl,by unfold ioB;omega⟩
 ·exact D.minus_start
 ·rintro⟨k,b,out⟩ hz;try dsimp only at hz
  obtain⟨c1,c2,c3,c4⟩:=hC;have c4:List.length m<1000000000000:=c4;have hw:=D.minus_w c1.1 c2.1 hz;have hkm:=hz.hkm;have hk:=hz.hk;refine ak ?_;refine s_g hG ?_;refine ao ?_ ?_
  ·intro hb0;(try simp only[bt] at hb0);refine aq ?_;refine aj ?_;refine ak ?_;refine ax ?_;refine s_q hG ?_ ?_
   ·(try simp only[ba]);exact⟨by omega,by omega⟩
   refine ck (fun(z:Int)=>(⟨[(0, .l (.z (.slice (.int .i64)) m)),(1, .l (.z (.slice (.int .i64)) o)),(5, .l (.ownS 38)),(6, .l (.z (.int .i64) b)),(7, .l (.z (.int .i64) (k:Int))),(8, .l (.z (.int .i64) z))], [(38, .arr (.int .i64) 3 out)]⟩:aa)) (fun z=>z=m.getD k 0-b-o.getD k 0) ?_ ?_
   ·refine s_g hG ?_;refine ao ?_ ?_
    ·intro hb1;(try simp only[bt] at hb1);refine ah hG ?_ ?_
     ·(try simp only[ba]);exact⟨by omega,by omega⟩
     show ∃ z,_;refine q_l ?_;first|(rw[D.nth64,hw.1];exact hw.2.1)|(rw[D.nth64,hw.1,D.getD_none (l:=o) (by omega)];exact(Int.sub_zero _).symm)
    ·intro hb1;(try simp only[bf] at hb1);refine aq ?_;show ∃ z,_;refine q_l ?_;first|(rw[D.nth64,hw.1];exact hw.2.1)|(rw[D.nth64,hw.1,D.getD_none (l:=o) (by omega)];exact(Int.sub_zero _).symm)
   rintro n hn;(try dsimp only at hn);refine s_g hG ?_;refine ck (fun(z:Unit)=>(⟨[(0, .l (.z (.slice (.int .i64)) m)),(1, .l (.z (.slice (.int .i64)) o)),(5, .l (.ownS 38)),(6, .l (.z (.int .i64) (D.borrowed n))),(7, .l (.z (.int .i64) (k:Int))),(8, .l (.z (.int .i64) (n+10000*D.borrowed n)))], [(38, .arr (.int .i64) 3 out)]⟩:aa)) (fun z=>True) ?_ ?_
   ·refine s_g hG ?_;refine ao ?_ ?_
    ·(intro hb2;(try simp only[bt] at hb2);refine s_g hG ?_;refine ah hG ?_ ?_;·first|trivial|omega|(simp;done)|(simp;omega));show ∃ z,_;refine q_l ?_;first|exact D.borrow_t hb2 (by rw[hn];exact hw.2.2)|exact D.borrow_f hb2
    ·intro hb2;(try simp only[bf] at hb2);refine aq ?_;show ∃ z,_;refine q_l ?_;first|exact D.borrow_t hb2 (by rw[hn];exact hw.2.2)|exact D.borrow_f hb2
   rintro⟨⟩ hu;(try dsimp only at hu);refine ah hG ?_ ?_
   ·(try simp only[ba]);unfold Cm.Roomy;omega
   (refine aL ?_;refine aj ?_;refine ah hG ?_ ?_;·first|trivial|omega|(simp;done)|(simp;omega));show ∃ z,_;refine q_l ?_;exact⟨k+1,by rw[wi (by omega) (by omega)];simp,D.minus_next c1.1 c2.1 hz (by omega) hn,by omega⟩
  ·intro hb0;(try simp only[bf] at hb0);refine bh ?_;refine aE ?_;refine az ?_;refine ay ?_;refine aj ?_;refine s_q hG ?_ ?_
   ·(try simp only[ba]);exact⟨hz.hl,by unfold CAP;omega⟩
   refine av ?_;refine q_e [] ?_;rw[(D.minus_fin c1 c2 c3 hz (by omega)).1]
def xY(B:ag):Tab:={types:= [(3,(.int .i64)),(181,(.slice (.int .i64)))],elems:= [(181,3)],cons:= [(183,mu)],hint:= [],N:=66,base:=B}
theorem Fo{B:ag}(hB:aB B):aG Tryz.prog (xY B):=⟨⟨tc ty3 (tc jG (ae)),aR (by kernel_rfl) (af),by simp only[xY,ioB];omega⟩,aD (cc Tryz.func183 (nH hB) (au)),by kernel_rfl⟩
def lY:Con:=fun l os=>match l,os with
 | [.z (.slice (.int .i64)) x, .z (.slice (.int .i64)) y], []=>some (D.Lim x/\D.Wid y/\x.length+y.length<CAP, [.z (.slice (.int .i64)) (D.limbs (D.valL x*D.valL y).toNat)], [])
 |_,_=>none
theorem Az{B:ag}(hB:aB B):Valid B Tryz.prog 164 lY:=by
 refine ab (Fo hB).tab Tryz.func164 rfl rfl rfl ?_;intro args os C rs os' hc hC;unfold lY at hc;split at hc;case h_2=>cases hc
 rename_i x y;cases hc;refine v_h (Fo hB) fun X hP hT hr hG=> ?_;have hU:=xY.eq_1;unfold xY at hT;have hX:= @mu.eq_1;simp only[Tryz.f164,aC,al,ioB];refine s_g hG ?_;refine s_q hG ?_ ?_
 ·try simp only[ba]
  rw[D.len_wrap hC.2.2];have c3:List.length x+List.length y<1000000000000:=hC.2.2;exact⟨by omega,by omega,by unfold Cm.Roomy;omega⟩
 refine ak ?_;refine s_g hG ?_;refine ax ?_;refine br (fun(z:Nat×List Int)=>(⟨[(0, .l (.z (.slice (.int .i64)) x)),(1, .l (.z (.slice (.int .i64)) y)),(5, .l (.ownS 15)),(6, .l (.z (.int .i64) (z.1:Int)))], [(15, .arr (.int .i64) 3 z.2)]⟩:aa)) (fun z=>D.TimesPhi x y z.1 z.2) (fun z=>List.length x-z.1) (0,List.replicate (List.length x+List.length y) 0) ?_ ?_ ?_;·refine q_l ?_;exact⟨rfl,by rw[D.len_wrap hC.2.2,Int.toNat_natCast]⟩
 ·exact D.times_start
 ·rintro⟨i,out⟩ hz;try dsimp only at hz
  obtain⟨c1,c2,c3⟩:=hC;have c3:List.length x+List.length y<1000000000000:=c3;have hix:=hz.h1;have hil:=hz.h2;refine ak ?_;refine s_g hG ?_;refine ao ?_ ?_
  ·(intro hb0;(try simp only[bt] at hb0);refine aq ?_;refine aj ?_;refine ak ?_;refine ax ?_;refine s_g hG ?_;refine s_g hG ?_;refine ax ?_;refine br (fun(z:Nat×Int×List Int)=>(⟨[(0, .l (.z (.slice (.int .i64)) x)),(1, .l (.z (.slice (.int .i64)) y)),(5, .l (.ownS 15)),(6, .l (.z (.int .i64) (i:Int))),(7, .l (.z (.int .i64) z.2.1)),(8, .l (.z (.int .i64) (z.1:Int)))], [(15, .arr (.int .i64) 3 z.2.2)]⟩:aa)) (fun z=>D.RowPhi x y i z.1 z.2.1 z.2.2) (fun z=>List.length y+1-z.1) (0,0,out) ?_ ?_ ?_;·refine q_l ?_;rfl);·exact D.row_start hz
   ·rintro⟨k,c,out2⟩ hk;(try dsimp only at hk);have hrb:=D.row_bound (c1.getD i) (c2.getD k) (hk.h3.getD (i+k)) hk.h4;have hk1:=hk.h1;have hk2:=hk.h2;(have hik:IntKind.i64.wrap ((i:Int)+(k:Int))=((i+k:Nat):Int):=by rw[wi (by omega) (by omega)];omega);refine ak ?_;refine s_q hG ?_ ?_
    ·try simp only[ba]
     (repeat' (first|apply And.intro|intro _))<;>(try simp only[decide_eq_true_eq,decide_eq_false_iff_not,Bool.not_eq_true',beq_iff_eq,Int.toNat_natCast] at*)<;>first|assumption|omega|trivial|(simp_all;done)|(simp_all;omega)
    refine ao ?_ ?_
    ·intro hb1;simp only[Bool.or_eq_true,decide_eq_true_eq] at hb1;(have hb1:k<List.length y∨0<c:=by omega);have hin:=(D.row_next c1 c2 (by omega) hk hb1 rfl).1;refine aq ?_;refine aj ?_;refine ak ?_;refine ax ?_;refine ck (fun(z:Unit)=>(⟨[(0, .l (.z (.slice (.int .i64)) x)),(1, .l (.z (.slice (.int .i64)) y)),(5, .l (.ownS 15)),(6, .l (.z (.int .i64) (i:Int))),(7, .l (.z (.int .i64) c)),(8, .l (.z (.int .i64) (k:Int))),(9, .l (.z (.int .i64) (out2.getD (i+k) 0+c)))], [(15, .arr (.int .i64) 3 out2)]⟩:aa)) (fun z=>True) ?_ ?_
     ·refine ah hG ?_ ?_
      ·(try simp only[ba]);rw[hik];omega
      show ∃ z,_;refine q_l ?_;rw[hik,Int.toNat_natCast];exact hrb.1
     rintro⟨⟩ hu;(try dsimp only at hu);refine ck (fun(z:Int)=>(⟨[(0, .l (.z (.slice (.int .i64)) x)),(1, .l (.z (.slice (.int .i64)) y)),(5, .l (.ownS 15)),(6, .l (.z (.int .i64) (i:Int))),(7, .l (.z (.int .i64) c)),(8, .l (.z (.int .i64) (k:Int))),(9, .l (.z (.int .i64) z))], [(15, .arr (.int .i64) 3 out2)]⟩:aa)) (fun z=>z=out2.getD (i+k) 0+c+x.getD i 0*y.getD k 0) ?_ ?_
     ·refine s_g hG ?_;refine ao ?_ ?_
      ·intro hb2;(try simp only[bt] at hb2);refine gI hG ?_ ?_
       ·(try simp only[ba]);exact⟨⟨by omega,by omega⟩,by omega,by omega⟩
       show ∃ z,_;refine q_l ?_;first|(rw[D.nth64,D.nth64,hrb.2.1];exact hrb.2.2.1)|(rw[D.getD_none (l:=y) (by omega),Int.mul_zero];exact(Int.add_zero _).symm)
      ·intro hb2;(try simp only[bf] at hb2);refine aq ?_;show ∃ z,_;refine q_l ?_;first|(rw[D.nth64,D.nth64,hrb.2.1];exact hrb.2.2.1)|(rw[D.getD_none (l:=y) (by omega),Int.mul_zero];exact(Int.add_zero _).symm)
     rintro n hn;(try dsimp only at hn);refine s_q hG ?_ ?_
     ·(try simp only[ba]);rw[hik];exact⟨by decide,by omega⟩
     refine ah hG ?_ ?_
     ·(try simp only[ba]);decide
     (refine aL ?_;refine aj ?_;refine ah hG ?_ ?_;·first|trivial|omega|(simp;done)|(simp;omega));show ∃ z,_;refine q_l ?_;obtain⟨q1,q2⟩:=D.row_next c1 c2 (by omega) hk hb1 hn;rw[hik,Int.toNat_natCast];exact⟨k+1,by rw[wi (by omega) (by omega)];simp,q2,by omega⟩
    ·(intro hb1;simp only[Bool.or_eq_false_iff,decide_eq_false_iff_not] at hb1;refine bh ?_;refine aE ?_;refine az ?_;refine ay ?_;refine aL ?_;refine aj ?_;refine ah hG ?_ ?_;·first|trivial|omega|(simp;done)|(simp;omega));show ∃ z,_;refine q_l ?_;exact⟨i+1,by rw[wi (by omega) (by omega)];simp,D.row_end (by omega) hk (by omega),by omega⟩
  ·intro hb0;(try simp only[bf] at hb0);refine bh ?_;refine aE ?_;refine az ?_;refine ay ?_;refine aj ?_;refine s_q hG ?_ ?_
   ·(try simp only[ba]);exact⟨hz.h3,by unfold CAP;omega⟩
   refine av ?_;refine q_e [] ?_;rw[D.times_fin hz (by omega)]
def xZ(B:ag):Tab:={types:= [(5,(.int .u8)),(9, .str)],elems:= [],cons:= [],hint:= [],N:=6,base:=B}
theorem Fp{B:ag}(hB:aB B):aG Tryz.prog (xZ B):=⟨⟨tc ty5 (tc ty9 (ae)),af,by simp only[xZ,ioB];omega⟩,bH rfl,by kernel_rfl⟩
def cV:Con:=fun l os=>match l,os with
 | [.z .str s], []=>some (RF s, [.z .bool (decide (an s<0))], [])
 |_,_=>none
theorem lu{B:ag}(hB:aB B):Valid B Tryz.prog 157 cV:=by
 refine ab (Fp hB).tab Tryz.func157 rfl rfl rfl ?_;intro args os C rs os' hc hC;unfold cV at hc;split at hc;case h_2=>cases hc
 rename_i s;cases hc;refine v_h (Fp hB) fun X hP hT hr hG=> ?_;have hU:=xZ.eq_1;unfold xZ at hT;have hX:=Bool.not_true;simp only[Tryz.f157,aC,al,ioB];refine s_g hG ?_;refine s_q hG ?_ ?_
 ·try simp only[ba]
  exact⟨by omega,kW hC⟩
 refine av ?_;refine q_e [] ?_;exact Dc hC
def x4(B:ag):Tab:={types:= [(3,(.int .i64)),(5,(.int .u8)),(9, .str)],elems:= [],cons:= [],hint:= [],N:=11,base:=B}
theorem Fq{B:ag}(hB:aB B):aG Tryz.prog (x4 B):=⟨⟨tc ty3 (tc ty5 (tc ty9 (ae))),af,by simp only[x4,ioB];omega⟩,bH rfl,by kernel_rfl⟩
def nI:Con:=fun l os=>match l,os with
 | [.z .str s], []=>some (RF s/\s.length<CAP, [.z (.int .i64) (cB (an s))], [])
 |_,_=>none
theorem L9{B:ag}(hB:aB B):Valid B Tryz.prog 93 nI:=by
 refine ab (Fq hB).tab Tryz.func93 rfl rfl rfl ?_;intro args os C rs os' hc hC;unfold nI at hc;split at hc;case h_2=>cases hc
 rename_i s;cases hc;refine v_h (Fq hB) fun X hP hT hr hG=> ?_;have hU:=x4.eq_1;unfold x4 at hT;have hX:=Bool.not_true;simp only[Tryz.f93,aC,al,ioB];refine s_g hG ?_;refine ak ?_;refine s_q hG ?_ ?_
 ·try simp only[ba]
  exact⟨by omega,kW hC.1⟩
 refine ao ?_ ?_
 ·intro hb0;try simp only[bt] at hb0
  refine s_g hG ?_;refine av ?_;refine aw ?_;refine q_e [] ?_;obtain⟨t1,t2⟩:=tF hC.1 hb0;have hc:List.length s<1000000000000:=hC.2;rw[og hC.1,wi (by omega) (by omega)];show (List.length s:Int)-1=((aA s [45]).length:Int);omega
 ·intro hb0;try simp only[bf] at hb0
  refine aq ?_;refine aj ?_;refine s_g hG ?_;refine av ?_;refine q_e [] ?_;rw[og hC.1,<- tG hC.1 hb0]
def x5(B:ag):Tab:={types:= [(3,(.int .i64)),(5,(.int .u8)),(9, .str),(181,(.slice (.int .i64)))],elems:= [(181,3)],cons:= [(183,mu)],hint:= [],N:=40,base:=B}
theorem Fs{B:ag}(hB:aB B):aG Tryz.prog (x5 B):=⟨⟨tc ty3 (tc ty5 (tc ty9 (tc jG (ae)))),aR (by kernel_rfl) (af),by simp only[x5,ioB];omega⟩,aD (cc Tryz.func183 (nH hB) (au)),by kernel_rfl⟩
def gM:Con:=fun l os=>match l,os with
 | [.z .str s], []=>some (RF s/\s.length<CAP, [.z (.slice (.int .i64)) (D.limbs (an s).natAbs)], [])
 |_,_=>none
theorem lz{B:ag}(hB:aB B):Valid B Tryz.prog 156 gM:=by
 refine ab (Fs hB).tab Tryz.func156 rfl rfl rfl ?_;intro args os C rs os' hc hC;unfold gM at hc;split at hc;case h_2=>cases hc
 rename_i s;cases hc;refine v_h (Fs hB) fun X hP hT hr hG=> ?_;have hU:=x5.eq_1;unfold x5 at hT;have hX:= @mu.eq_1;simp only[Tryz.f156,aC,al,ioB];refine s_g hG ?_;refine ck (fun(z:Unit)=>(⟨[(0, .l (.z .str (aA s [45])))], []⟩:aa)) (fun z=>True) ?_ ?_
 ·refine s_q hG ?_ ?_
  ·(try simp only[ba]);exact⟨by omega,kW hC.1⟩
  refine ao ?_ ?_
  ·intro hb0;(try simp only[bt] at hb0);refine ah hG ?_ ?_
   ·(try simp only[ba]);have:=kW hC.1;omega
   show ∃ z,_;refine q_l ?_;first|exact(tF hC.1 hb0).1|exact tG hC.1 hb0
  ·intro hb0;(try simp only[bf] at hb0);refine aq ?_;show ∃ z,_;refine q_l ?_;first|exact(tF hC.1 hb0).1|exact tG hC.1 hb0
 rintro⟨⟩ hu;try dsimp only at hu
 obtain⟨d1,d2,d3⟩:=gV hC.1;have hl:=fR s [45];have hc:List.length s<1000000000000:=hC.2;refine s_g hG ?_;refine ak ?_;refine s_g hG ?_;refine ax ?_;refine br (fun(z:Nat×List Int)=>(⟨[(0, .l (.z .str (aA s [45]))),(3, .l (.ownS 37)),(4, .l (.z (.int .i64) (((aA s [45]).length:Int)-4*(z.1:Int))))], [(37, .arr (.int .i64) 3 z.2)]⟩:aa)) (fun z=>D.ReadPhi (aA s [45]) z.1 z.2) (fun z=>(aA s [45]).length+4-4*z.1) (0, []) ?_ ?_ ?_;·refine q_l ?_;exact⟨by show ((aA s [45]).length:Int)=((aA s [45]).length:Int)-4*((0:Nat):Int);omega,by unfold ioB;omega⟩
 ·exact D.read_start
 ·rintro⟨r,out⟩ hz;try dsimp only at hz
  have hz1:=hz.1;have hz4:=hz.2.2.2;refine ak ?_;refine s_g hG ?_;refine ao ?_ ?_
  ·(intro hb1;(try simp only[bt] at hb1);refine aq ?_;refine aj ?_;refine ak ?_;refine ax ?_;refine s_g hG ?_;refine ak ?_;refine s_g hG ?_;refine ax ?_;refine br (fun(z:Nat)=>(⟨[(0, .l (.z .str (aA s [45]))),(3, .l (.ownS 37)),(4, .l (.z (.int .i64) (((aA s [45]).length:Int)-4*(r:Int)))),(5, .l (.z (.int .i64) (D.part (aA s [45]) ((aA s [45]).length-4*(r+1)) z))),(6, .l (.z (.int .i64) (z:Int)))], [(37, .arr (.int .i64) 3 out)]⟩:aa)) (fun z=>(aA s [45]).length-4*(r+1)<=z/\z<=(aA s [45]).length-4*r) (fun z=>(aA s [45]).length-z) ((aA s [45]).length-4*(r+1)) ?_ ?_ ?_;·refine q_l ?_;exact D.read_le0 (by omega) (by omega));·omega
   ·rintro i hi;(try dsimp only at hi);refine ak ?_;refine s_g hG ?_;refine ao ?_ ?_
    ·intro hb2;(try simp only[bt] at hb2);refine aq ?_;refine aj ?_;refine ak ?_;refine ax ?_;refine ah hG ?_ ?_
     ·(try simp only[ba]);exact⟨by omega,by omega⟩
     (refine aL ?_;refine aj ?_;refine ah hG ?_ ?_;·first|trivial|omega|(simp;done)|(simp;omega));show ∃ z,_;refine q_l ?_;rw[Int.toNat_natCast];exact⟨i+1,D.part_next d1 (by omega) (by omega) (by omega),by rw[wi (by omega) (by omega)];simp,by omega,by omega,by omega⟩
    ·intro hb2;(try simp only[bf] at hb2);refine bh ?_;refine aE ?_;refine az ?_;refine ay ?_;refine aj ?_;refine ah hG ?_ ?_
     ·(try simp only[ba]);unfold Cm.Roomy;omega
     (refine aL ?_;refine aj ?_;refine ah hG ?_ ?_;·first|trivial|omega|(simp;done)|(simp;omega));show ∃ z,_;refine q_l ?_;(have hie:i=(aA s [45]).length-4*r:=by omega);subst hie;exact⟨r+1,by rw[wi (by omega) (by omega)];show ((aA s [45]).length:Int)-4*(r:Int)-4=((aA s [45]).length:Int)-4*((r+1:Nat):Int);omega,D.read_next d1 hz (by omega),by omega⟩
  ·intro hb1;(try simp only[bf] at hb1);refine bh ?_;refine aE ?_;refine az ?_;refine ay ?_;refine aj ?_;refine s_q hG ?_ ?_
   ·(try simp only[ba]);exact⟨hz.2.1,by unfold CAP;omega⟩
   refine av ?_;refine q_e [] ?_;exact D.valL_limbs hz (by omega)
def x6(B:ag):Tab:={types:= [(3,(.int .i64)),(5,(.int .u8)),(9, .str),(47,(.slice (.int .u8))),(181,(.slice (.int .i64)))],elems:= [(47,5)],cons:= [],hint:= [],N:=49,base:=B}
theorem Ft{B:ag}(hB:aB B):aG Tryz.prog (x6 B):=⟨⟨tc ty3 (tc ty5 (tc ty9 (tc Pr (tc jG (ae))))),aR (by kernel_rfl) (af),by simp only[x6,ioB];omega⟩,bH rfl,by kernel_rfl⟩
def fg:Con:=fun l os=>match l,os with
 | [.z .bool neg, .z (.slice (.int .i64)) d], []=>some (D.Cano d/\4*d.length<CAP, [.z .str (Lib.itoa (if neg=true then-D.valL d else D.valL d))], [])
 |_,_=>none
theorem lA{B:ag}(hB:aB B):Valid B Tryz.prog 158 fg:=by
 refine ab (Ft hB).tab Tryz.func158 rfl rfl rfl ?_;intro args os C rs os' hc hC;unfold fg at hc;split at hc;case h_2=>cases hc
 rename_i neg d;cases hc;refine v_h (Ft hB) fun X hP hT hr hG=> ?_;have hU:=x6.eq_1;unfold x6 at hT;have hX:=Bool.not_true;simp only[Tryz.f158,aC,al,ioB];refine s_g hG ?_;refine ak ?_;refine s_g hG ?_;refine ao ?_ ?_
 ·intro hb0;try simp only[bt] at hb0
  refine s_g hG ?_;refine av ?_;refine aw ?_;refine q_e [] ?_;exact D.write_nil hb0
 ·intro hb0;simp only[beq_eq_false_iff_ne,ne_eq] at hb0;have hne:d≠ []:=by intro e;subst e;exact hb0 rfl
  obtain⟨c1,c2⟩:=hC;have c2:4*List.length d<1000000000000:=c2;have hbg:4000000000001<=maxLen:=by decide
  refine aq ?_;refine aj ?_;refine s_g hG ?_;refine ak ?_;refine s_g hG ?_;refine ax ?_;refine br (fun(z:Nat×List Int)=>(⟨[(0, .l (.z .bool neg)),(1, .l (.z (.slice (.int .i64)) d)),(5, .l (.ownS 42)),(6, .l (.z (.int .i64) ((z.1:Int)-1)))], [(42, .arr (.int .u8) 5 z.2)]⟩:aa)) (fun z=>z.1<=List.length d/\z.2=(D.dd (D.valL (List.drop z.1 d)).toNat).map fun b=>(b.toNat:Int)) (fun z=>z.1) (List.length d, []) ?_ ?_ ?_;·refine q_l ?_;exact⟨wi (by omega) (by omega),by unfold ioB;omega⟩
  ·exact D.write_phi0 d
  ·rintro⟨k,out⟩ hz;(try dsimp only at hz);have hz1:=hz.1;refine ak ?_;refine s_g hG ?_;refine ao ?_ ?_
   ·(intro hb1;(try simp only[decide_eq_true_eq] at hb1);obtain⟨i,rfl⟩:∃ i,k=i+1:=⟨k-1,by omega⟩;(have ei:((i+1:Nat):Int)-1=(i:Int):=by omega);rw[ei];refine aq ?_;refine aj ?_;refine ak ?_;refine ax ?_;refine s_g hG ?_;refine ax ?_;refine br (fun(z:Nat×List Int)=>(⟨[(0, .l (.z .bool neg)),(1, .l (.z (.slice (.int .i64)) d)),(5, .l (.ownS 42)),(6, .l (.z (.int .i64) (i:Int))),(7, .l (.z (.int .i64) (D.unit z.1)))], [(42, .arr (.int .u8) 5 z.2)]⟩:aa)) (fun z=>D.WritePhi d i z.1 z.2) (fun z=>4-z.1) (0,out) ?_ ?_ ?_;·refine q_l ?_;decide);·exact D.write_start c1.1 hz.2
    ·rintro⟨j,out2⟩ hj;(try dsimp only at hj);refine ak ?_;refine s_g hG ?_;refine ao ?_ ?_
     ·intro hb2;(try simp only[decide_eq_true_eq] at hb2);have hj4:=D.unit_pos hb2;refine aq ?_;refine aj ?_;refine ak ?_;refine ax ?_;refine ck (fun(z:Unit)=>(⟨[(0, .l (.z .bool neg)),(1, .l (.z (.slice (.int .i64)) d)),(5, .l (.ownS 42)),(6, .l (.z (.int .i64) (i:Int))),(7, .l (.z (.int .i64) (D.unit j))),(8, .l (.z (.int .u8) ((48+D.decimal (d.getD i 0) j:Nat):Int)))], [(42, .arr (.int .u8) 5 out2)]⟩:aa)) (fun z=>True) ?_ ?_
      ·refine ah hG ?_ ?_
       ·(try simp only[ba]);exact⟨⟨by omega,by omega⟩,fun h=>by rw[h] at hb2;exact absurd hb2 (by decide),by decide⟩
       show ∃ z,_;refine q_l ?_;exact D.decimal_code (c1.1.getD i) hj4
      rintro⟨⟩ hu;(try dsimp only at hu);refine s_q hG ?_ ?_
      ·(try simp only[ba]);simp[get?,del]
      refine ao ?_ ?_
      ·intro hb3;have hwl:=D.write_len c1.1 hj (by omega);refine ah hG ?_ ?_
       ·(try simp only[ba]);unfold Cm.Roomy;omega
       (refine aL ?_;refine aj ?_;refine ah hG ?_ ?_;·first|trivial|omega|(simp;done)|(simp;omega));show ∃ z,_;refine q_l ?_;exact⟨j+1,(D.unit_next hj4).1,by first|exact D.write_take c1.1 hj hj4 (D.cond_t hb3)|exact D.write_leave c1.1 hj hj4 (D.cond_f hb3),by omega⟩
      ·(intro hb3;refine aq ?_;refine aL ?_;refine aj ?_;refine ah hG ?_ ?_;·first|trivial|omega|(simp;done)|(simp;omega));show ∃ z,_;refine q_l ?_;exact⟨j+1,(D.unit_next hj4).1,by first|exact D.write_take c1.1 hj hj4 (D.cond_t hb3)|exact D.write_leave c1.1 hj hj4 (D.cond_f hb3),by omega⟩
     ·(intro hb2;(try simp only[bf] at hb2);refine bh ?_;refine aE ?_;refine az ?_;refine ay ?_;refine aL ?_;refine aj ?_;refine ah hG ?_ ?_;·first|trivial|omega|(simp;done)|(simp;omega));show ∃ z,_;refine q_l ?_;(obtain rfl:j=4:=by have:=D.unit_end hb2;have:=hj.hj;omega);exact⟨i,wi (by omega) (by omega),by omega,D.write_round c1.1 (by omega) hj,by omega⟩
   ·intro hb1;simp only[decide_eq_false_iff_not] at hb1;(obtain rfl:k=0:=by omega);have hz2:=hz.2;rw[List.drop_zero] at hz2;have hdl:=D.dd_len c1.1;subst hz2;refine bh ?_;refine aE ?_;refine az ?_;refine ay ?_;refine aj ?_;refine ak ?_;refine s_g hG ?_;refine ao ?_ ?_
    ·intro hb4;refine s_q hG ?_ ?_
     ·(try simp only[ba]);rw[D.str_of_map];omega
     refine av ?_;refine aw ?_;refine q_e [] ?_;rw[D.str_of_map,if_pos hb4];exact D.write_minus c1 hne
    ·intro hb4;refine aq ?_;refine aj ?_;refine s_g hG ?_;refine av ?_;refine q_e [] ?_;rw[D.str_of_map,if_neg (by rw[hb4];decide)];exact D.write_text c1 hne
end Go.Proofs.YtdojbabpnaifoaaGreatDoor
end
section
namespace Go.Proofs
open Go.RowKit Go.Cm
def Fu:Con:=fun l os=>match l,os with
 | [.z .str s], []=>some (chk s=0/\s.length<=9, [.z (.int .i64) (an s), .val .nilIface], [])
 |_,_=>none
theorem uC:∀ (l:List UInt8) (a:Nat),dc l->Lib.decFrom a l=some (l.foldl (fun n c=>n*10+(c.toNat-48)) a)
 | [],_,_=>rfl
 |c::l,a,hd=>by
  have h1:=hd c (by simp);rw[Lib.decFrom,Lib.digitVal,if_pos h1,List.foldl_cons];exact uC l _ (fun x hx=>hd x (by simp[hx]))
theorem Ma{s:List UInt8}(h:chk s=0):Lib.atoi s=some (an s):=by
 obtain⟨d1,d2,d3,d4⟩:=CU h;cases s with
 |nil=>exact absurd h (by decide)
 |cons b r=>
  unfold Lib.atoi;dsimp only;by_cases hb:b=45;·subst hb;obtain⟨p1,p2⟩:=kU r;rw[p2] at d1 d2;(have hne:r.isEmpty=false:=by cases r<;>simp at d2 ⊢);simp only[beq_self_eq_true,if_true,Lib.decNat,hne,Bool.false_eq_true,if_false,uC r 0 d1,Option.map_some];unfold an;rw[p1,p2];rfl
  ·have ht:aA (b::r) [45]=b::r:=by
    unfold aA c7;rw[if_neg];intro e;simp at e;exact hb e
   rw[ht] at d1;obtain⟨p1,p2⟩:=mI d1;have h43:b≠43:=by
    intro e;subst e;have:=d1 43 (by simp);exact absurd this (by decide)
   rw[if_neg (by simpa using hb),if_neg (by simpa using h43),Lib.decNat,if_neg (by simp),uC _ 0 d1,Option.map_some];unfold an;rw[p1,p2];rfl
theorem Mb{B:ag}(hB:aB B):Valid B Tryz.prog 182 Fu:=by
 intro args os C rs os' hc hC O w vals ρ0 hOn hIo hO hOI hargs hown hap;unfold Fu at hc;split at hc;case h_2=>cases hc
 rename_i s;cases hc;obtain⟨u,rfl,hu⟩:=pT hargs;rw[fI hu];obtain⟨h0,h1⟩:=hC;have hsz:(⟨s.toArray⟩:ByteArray).size=s.length:=by simp[ByteArray.size]
 refine(Tryz.strconv_Atoi ⟨s.toArray⟩ (an s) (by rw[hsz];omega) (by simpa using Ma h0) w).mono fun e w' ⟨he,t,hw⟩=> ?_;have hb:Below w.heap.size w w':=by
  rw[hw];exact⟨rfl,rfl,rfl,by rw[Lib.bytesWorld_size];omega,fun k hk=>Lib.bytesWorld_at_old w _ _ k hk⟩
 subst he;exact nm (vs:= [.int .i64 (an s), .nilIface]) hb (fun H M=>⟨bQ (ρ:=fun _=>undef),rfl,trivial⟩)
end Go.Proofs
end
section
namespace Go.Proofs.YtdojbabpnaifoaaGreatDoor
open Go Go.Cm Go.Proofs
def Fv(B:ag):Tab:={types:= [(3,(.int .i64)),(87,(.slice (.int .u32))),(161,(.int .u32))],elems:= [(87,161)],cons:= [],hint:= [],N:=56,base:=B}
theorem Mc{B:ag}(hB:aB B):aG Tryz.prog (Fv B):=⟨⟨tc ty3 (tc iz (tc fU (ae))),aR (by kernel_rfl) (af),by simp only[Fv,ioB];omega⟩,bH rfl,by kernel_rfl⟩
def Fw:Con:=fun l os=>match l,os with
 | [.z (.slice (.int .u32)) m, .z (.slice (.int .u32)) o], []=>some (Cano m/\Cano o/\m.length+o.length<CAP, [.z (.slice (.int .u32)) (limbs (valL m+valL o).toNat)], [])
 |_,_=>none
theorem Ou{B:ag}(hB:aB B):Valid B Tryz.prog 151 Fw:=by
 refine ab (Mc hB).tab Tryz.func151 rfl rfl rfl ?_;intro args os C rs os' hc hC;unfold Fw at hc;split at hc;case h_2=>cases hc
 rename_i m o;cases hc;refine v_h (Mc hB) fun X hP hT hr hG=> ?_;have hU:=Fv.eq_1;unfold Fv at hT;have hX:=Bool.not_true;simp only[Tryz.f151,aC,al,ioB];refine s_g hG ?_;refine ck (fun(z:List Int×List Int)=>(⟨[(0, .l (.z (.slice (.int .u32)) z.1)),(1, .l (.z (.slice (.int .u32)) z.2))], []⟩:aa)) (fun z=>Cano z.1/\Cano z.2/\z.2.length<=z.1.length/\z.1.length<CAP/\valL z.1+valL z.2=valL m+valL o) ?_ ?_
 ·refine s_g hG ?_;refine ao ?_ ?_
  ·(intro hb0;(try simp only[bt] at hb0);refine ah hG ?_ ?_;·first|trivial|omega|(simp;done)|(simp;omega));show ∃ z,_;refine q_l ?_;obtain⟨c1,c2,c3⟩:=hC;first|exact⟨c2,c1,by omega,by omega,Int.add_comm _ _⟩|exact⟨c1,c2,by omega,by omega⟩
  ·intro hb0;(try simp only[bf] at hb0);refine aq ?_;show ∃ z,_;refine q_l ?_;obtain⟨c1,c2,c3⟩:=hC;first|exact⟨c2,c1,by omega,by omega,Int.add_comm _ _⟩|exact⟨c1,c2,by omega,by omega⟩
 rintro⟨m,o⟩ ⟨h1,h2,h3,h4,h5⟩;try dsimp only at h1 h2 h3 h4 h5
 have h4:m.length<1000000000000:=h4;refine s_q hG ?_ ?_
 ·try simp only[ba]
  rw[wi (by omega) (by omega)];exact⟨by omega,by omega,by unfold Cm.Roomy;omega⟩
 refine s_g hG ?_;refine ak ?_;refine s_g hG ?_;refine ax ?_;refine br (fun(z:Nat×Int×List Int)=>(⟨[(0, .l (.z (.slice (.int .u32)) m)),(1, .l (.z (.slice (.int .u32)) o)),(5, .l (.ownS 20)),(6, .l (.z (.int .u32) z.2.1)),(21, .l (.z (.slice (.int .u32)) m)),(22, .l (.z (.int .i64) (m.length:Int))),(23, .l (.z (.int .i64) (z.1:Int)))], [(20, .arr (.int .u32) 161 z.2.2)]⟩:aa)) (fun z=>z.1<=m.length/\z.2.2.length=z.1/\Lim z.2.2/\0<=z.2.1/\z.2.1<=1/\valL z.2.2+LB^z.1*z.2.1=valL (m.take z.1)+valL (o.take z.1)) (fun z=>m.length-z.1) (0,0, []) ?_ ?_ ?_;·refine q_l ?_;exact⟨rfl,rfl⟩
 ·simp[Lim,valL]
 ·rintro⟨k,c,out⟩ ⟨g1,g2,g3,g4,g5,g6⟩;try dsimp only at g1 g2 g3 g4 g5 g6
  refine s_g hG ?_;refine ak ?_;refine ao ?_ ?_
  ·intro hb1;(try simp only[bt] at hb1);refine aq ?_;refine aj ?_;refine ak ?_;refine ax ?_;refine s_q hG ?_ ?_
   ·(try simp only[ba]);exact⟨by omega,hb1⟩
   refine s_g hG ?_;refine ck (fun(z:Int)=>(⟨[(0, .l (.z (.slice (.int .u32)) m)),(1, .l (.z (.slice (.int .u32)) o)),(5, .l (.ownS 20)),(9, .l (.z (.int .u32) z)),(21, .l (.z (.slice (.int .u32)) m)),(22, .l (.z (.int .i64) (m.length:Int))),(23, .l (.z (.int .i64) (k:Int)))], [(20, .arr (.int .u32) 161 out)]⟩:aa)) (fun z=>z=m.getD k 0+c+o.getD k 0) ?_ ?_
   ·refine s_g hG ?_;refine ao ?_ ?_
    ·intro hb2;(try simp only[bt] at hb2);refine ah hG ?_ ?_
     ·(try simp only[ba]);exact⟨by omega,hb2⟩
     show ∃ z,_;refine q_l ?_;have hw:=vp (h1.1.getD k) (h2.1.getD k) ⟨g4,g5⟩;first|exact hw.2|(rw[fO,hw.1,List.getD_eq_getElem?_getD (l:=o),List.getElem?_eq_none (by omega)];simp)
    ·intro hb2;(try simp only[bf] at hb2);refine aq ?_;show ∃ z,_;refine q_l ?_;have hw:=vp (h1.1.getD k) (h2.1.getD k) ⟨g4,g5⟩;first|exact hw.2|(rw[fO,hw.1,List.getD_eq_getElem?_getD (l:=o),List.getElem?_eq_none (by omega)];simp)
   rintro n hn;(try dsimp only at hn);refine s_g hG ?_;refine ah hG ?_ ?_
   ·(try simp only[ba]);exact⟨by omega,by unfold Cm.Roomy;omega⟩
   (refine aL ?_;refine aj ?_;refine ah hG ?_ ?_;·first|trivial|omega|(simp;done)|(simp;omega));show ∃ z,_;refine q_l ?_;obtain⟨q1,q2,q3,q4⟩:=CT h1.1 h2.1 g2 g3 g4 g5 g6 hn;exact⟨k+1,by rw[wi (by omega) (by omega)];simp,by omega,by simp[g2],q1,q2,q3,q4,by omega⟩
  ·intro hb1;(try simp only[bf] at hb1);refine bh ?_;refine aE ?_;refine az ?_;refine ay ?_;refine aj ?_;refine ck (fun(z:List Int)=>(⟨[(5, .l (.ownS 20))], [(20, .arr (.int .u32) 161 z)]⟩:aa)) (fun z=>z=limbs (valL m+valL o).toNat) ?_ ?_
   ·refine s_g hG ?_;refine ao ?_ ?_
    ·intro hb3;(try simp only[bt] at hb3);refine ah hG ?_ ?_
     ·(try simp only[ba]);unfold Cm.Roomy;omega
     show ∃ z,_;refine q_l ?_;have he:=zc (out:=out) (c:=c) h1 h2 h3 (by omega) g3 g4 g5 (by rw[show k=m.length by omega,List.take_length,List.take_of_length_le h3] at g6;exact g6);first|exact he.1 hb3|exact he.2 hb3
    ·intro hb3;(try simp only[bf] at hb3);refine aq ?_;show ∃ z,_;refine q_l ?_;have he:=zc (out:=out) (c:=c) h1 h2 h3 (by omega) g3 g4 g5 (by rw[show k=m.length by omega,List.take_length,List.take_of_length_le h3] at g6;exact g6);first|exact he.1 hb3|exact he.2 hb3
   rintro out2 hout;(try dsimp only at hout);refine s_g hG ?_;refine av ?_;refine q_e [] ?_;rw[hout,h5]
def Fx(B:ag):Tab:={types:= [(3,(.int .i64))],elems:= [],cons:= [],hint:= [],N:=6,base:=B}
theorem Md{B:ag}(hB:aB B):aG Tryz.prog (Fx B):=⟨⟨tc ty3 (ae),af,by simp only[Fx,ioB];omega⟩,bH rfl,by kernel_rfl⟩
def Fy:Con:=fun l os=>match l,os with
 | [.z (.int .i64) a], []=>some (True, [.z .bool false], [])
 |_,_=>none
theorem Ov{B:ag}(hB:aB B):Valid B Tryz.prog 194 Fy:=by
 refine ab (Md hB).tab Tryz.func194 rfl rfl rfl ?_;intro args os C rs os' hc hC;unfold Fy at hc;split at hc;case h_2=>cases hc
 rename_i a;cases hc;refine v_h (Md hB) fun X hP hT hr hG=> ?_;have hU:=Fx.eq_1;unfold Fx at hT;have hX:=Bool.not_true;simp only[Tryz.f194,aC,al,ioB];refine s_g hG ?_;refine s_g hG ?_;refine av ?_;refine q_e [] ?_;trivial
def Fz(B:ag):Tab:={types:= [(161,(.int .u32))],elems:= [],cons:= [],hint:= [],N:=6,base:=B}
theorem Me{B:ag}(hB:aB B):aG Tryz.prog (Fz B):=⟨⟨tc fU (ae),af,by simp only[Fz,ioB];omega⟩,bH rfl,by kernel_rfl⟩
def FA:Con:=fun l os=>match l,os with
 | [.z (.int .u32) a], []=>some (True, [.z .bool false], [])
 |_,_=>none
theorem Ow{B:ag}(hB:aB B):Valid B Tryz.prog 195 FA:=by
 refine ab (Me hB).tab Tryz.func195 rfl rfl rfl ?_;intro args os C rs os' hc hC;unfold FA at hc;split at hc;case h_2=>cases hc
 rename_i a;cases hc;refine v_h (Me hB) fun X hP hT hr hG=> ?_;have hU:=Fz.eq_1;unfold Fz at hT;have hX:=Bool.not_true;simp only[Tryz.f195,aC,al,ioB];refine s_g hG ?_;refine s_g hG ?_;refine av ?_;refine q_e [] ?_;trivial
def FB(B:ag):Tab:={types:= [(3,(.int .i64))],elems:= [],cons:= [(194,Fy)],hint:= [],N:=20,base:=B}
theorem Mf{B:ag}(hB:aB B):aG Tryz.prog (FB B):=⟨⟨tc ty3 (ae),af,by simp only[FB,ioB];omega⟩,aD (cc Tryz.func194 (Ov hB) (au)),by kernel_rfl⟩
def wt:Con:=fun l os=>match l,os with
 | [.z (.int .i64) a, .z (.int .i64) b], []=>some (True, [.z (.int .i64) (bx a b)], [])
 |_,_=>none
theorem FC{B:ag}(hB:aB B):Valid B Tryz.prog 180 wt:=by
 refine ab (Mf hB).tab Tryz.func180 rfl rfl rfl ?_;intro args os C rs os' hc hC;unfold wt at hc;split at hc;case h_2=>cases hc
 rename_i a b;cases hc;refine v_h (Mf hB) fun X hP hT hr hG=> ?_;have hU:=FB.eq_1;unfold FB at hT;have hX:= @Fy.eq_1;simp only[Tryz.f180,aC,al,ioB];refine s_g hG ?_;refine s_g hG ?_;refine s_g hG ?_;refine ak ?_;refine s_g hG ?_;refine ao ?_ ?_;·intro hb0;cases hb0
 ·intro hb0;try simp only[bf] at hb0
  refine aq ?_;refine aj ?_;refine ak ?_;refine s_g hG ?_;refine ao ?_ ?_;·intro hb1;cases hb1
  ·intro hb1;(try simp only[bf] at hb1);refine aq ?_;refine aj ?_;refine ak ?_;refine s_g hG ?_;refine ao ?_ ?_;·intro hb2;(try simp only[bt] at hb2);refine s_g hG ?_;refine av ?_;refine aw ?_;refine q_e [] ?_;rw[bx,if_pos hb2]
   ·(intro hb2;(try simp only[bf] at hb2);refine aq ?_;refine aj ?_;refine ak ?_;refine s_g hG ?_;refine ao ?_ ?_;·intro hb3;(try simp only[bt] at hb3);refine s_g hG ?_;refine av ?_;refine aw ?_;refine q_e [] ?_;rw[bx,if_neg (by omega),if_pos hb3]);·intro hb3;(try simp only[bf] at hb3);refine aq ?_;refine aj ?_;refine s_g hG ?_;refine av ?_;refine q_e [] ?_;rw[bx,if_neg hb2,if_neg hb3]
def FD(B:ag):Tab:={types:= [(161,(.int .u32))],elems:= [],cons:= [(195,FA)],hint:= [],N:=20,base:=B}
theorem Mg{B:ag}(hB:aB B):aG Tryz.prog (FD B):=⟨⟨tc fU (ae),af,by simp only[FD,ioB];omega⟩,aD (cc Tryz.func195 (Ow hB) (au)),by kernel_rfl⟩
def FE:Con:=fun l os=>match l,os with
 | [.z (.int .u32) a, .z (.int .u32) b], []=>some (True, [.z (.int .i64) (bx a b)], [])
 |_,_=>none
theorem Ox{B:ag}(hB:aB B):Valid B Tryz.prog 181 FE:=by
 refine ab (Mg hB).tab Tryz.func181 rfl rfl rfl ?_;intro args os C rs os' hc hC;unfold FE at hc;split at hc;case h_2=>cases hc
 rename_i a b;cases hc;refine v_h (Mg hB) fun X hP hT hr hG=> ?_;have hU:=FD.eq_1;unfold FD at hT;have hX:= @FA.eq_1;simp only[Tryz.f181,aC,al,ioB];refine s_g hG ?_;refine s_g hG ?_;refine s_g hG ?_;refine ak ?_;refine s_g hG ?_;refine ao ?_ ?_;·intro hb0;cases hb0
 ·intro hb0;try simp only[bf] at hb0
  refine aq ?_;refine aj ?_;refine ak ?_;refine s_g hG ?_;refine ao ?_ ?_;·intro hb1;cases hb1
  ·intro hb1;(try simp only[bf] at hb1);refine aq ?_;refine aj ?_;refine ak ?_;refine s_g hG ?_;refine ao ?_ ?_;·intro hb2;(try simp only[bt] at hb2);refine s_g hG ?_;refine av ?_;refine aw ?_;refine q_e [] ?_;rw[bx,if_pos hb2]
   ·(intro hb2;(try simp only[bf] at hb2);refine aq ?_;refine aj ?_;refine ak ?_;refine s_g hG ?_;refine ao ?_ ?_;·intro hb3;(try simp only[bt] at hb3);refine s_g hG ?_;refine av ?_;refine aw ?_;refine q_e [] ?_;rw[bx,if_neg (by omega),if_pos hb3]);·intro hb3;(try simp only[bf] at hb3);refine aq ?_;refine aj ?_;refine s_g hG ?_;refine av ?_;refine q_e [] ?_;rw[bx,if_neg hb2,if_neg hb3]
def FF(B:ag):Tab:={types:= [(3,(.int .i64)),(87,(.slice (.int .u32))),(89,(.st (.pair .bool (.slice (.int .u32))))),(161,(.int .u32))],elems:= [],cons:= [],hint:= [],N:=30,base:=B}
theorem Mh{B:ag}(hB:aB B):aG Tryz.prog (FF B):=⟨⟨tc ty3 (tc iz (tc gK (tc fU (ae)))),af,by simp only[FF,ioB];omega⟩,bH rfl,by kernel_rfl⟩
def ef:Con:=fun l os=>match l,os with
 | [.z .bool s, .z (.slice (.int .u32)) m], []=>some (Lim m/\m.length<CAP, [.z (.st (.pair .bool (.slice (.int .u32)))) (enc (dec (s,m)))], [])
 |_,_=>none
theorem km{B:ag}(hB:aB B):Valid B Tryz.prog 150 ef:=by
 refine ab (Mh hB).tab Tryz.func150 rfl rfl rfl ?_;intro args os C rs os' hc hC;unfold ef at hc;split at hc;case h_2=>cases hc
 rename_i s m;cases hc;refine v_h (Mh hB) fun X hP hT hr hG=> ?_;have hU:=FF.eq_1;unfold FF at hT;have hX:=Bool.not_true;simp only[Tryz.f150,aC,al,ioB];refine s_g hG ?_;refine ak ?_;refine ax ?_;refine br (fun(z:List Int)=>(⟨[(0, .l (.z .bool s)),(1, .l (.z (.slice (.int .u32)) z)),(4, .l (.ownP 4 0))], [(4, .box 89 [.z .bool false, .val (.slice none 0 0)])]⟩:aa)) (fun z=>Lim z/\valL z=valL m/\z.length<=m.length) (fun z=>z.length) m ?_ ?_ ?_;·simp only[ml0,ml1,Nat.reduceLT,Nat.reduceEqDiff,Nat.reduceAdd,Nat.reduceMul,Nat.reduceSub,Nat.reduceLeDiff,Nat.reduceBEq,Nat.reduceBNe,reduceIte,reduceDIte,reduceCtorEq]
 ·exact⟨hC.1,rfl,Nat.le_refl _⟩
 ·rintro z ⟨g1,g2,g3⟩;try dsimp only at g1 g2 g3
  have h4:z.length<1000000000000:=Nat.lt_of_le_of_lt g3 hC.2;refine ak ?_;refine s_q hG ?_ ?_
  ·(try simp only[ba]);exact⟨id,id,fun h=>⟨h,by simp only[decide_eq_true_eq] at h;rw[wi (by omega) (by omega)];omega⟩,id⟩
  refine ao ?_ ?_
  ·intro hb0;(try simp only[bt] at hb0);refine aq ?_;refine aj ?_;refine ax ?_;refine ah hG ?_ ?_
   ·(try simp only[ba]);rw[wi (by omega) (by omega)];omega
   refine aL ?_;show ∃ z,_;refine q_l ?_;exact whole_round g1 g2 g3 hb0.1 h4 hb0.2
  ·intro hb0;(try simp only[bf] at hb0);refine bh ?_;refine aE ?_;refine az ?_;refine ay ?_;refine aj ?_;refine s_q hG ?_ ?_
   ·(try simp only[ba]);exact id
   refine av ?_;refine q_e [] ?_;refine GZ g1 g2 fun hz h0=> ?_;have:=hb0 (by simp;omega);rw[wi (by omega) (by omega),last_eq hz] at this;exact this h0
def FG(B:ag):Tab:={types:= [(4, .bool),(87,(.slice (.int .u32))),(89,(.st (.pair .bool (.slice (.int .u32)))))],elems:= [],cons:= [(150,ef)],hint:= [],N:=9,base:=B}
theorem Mi{B:ag}(hB:aB B):aG Tryz.prog (FG B):=⟨⟨tc ty4 (tc iz (tc gK (ae))),af,by simp only[FG,ioB];omega⟩,aD (cc Tryz.func150 (km hB) (au)),by kernel_rfl⟩
def AA:Con:=fun l os=>match l,os with
 | [.z (.st (.pair .bool (.slice (.int .u32)))) x], []=>some (Lim x.2/\x.2.length<CAP, [.z (.st (.pair .bool (.slice (.int .u32)))) (enc (-dec x))], [])
 |_,_=>none
theorem x7{B:ag}(hB:aB B):Valid B Tryz.prog 148 AA:=by
 refine ab (Mi hB).tab Tryz.func148 rfl rfl rfl ?_;intro args os C rs os' hc hC;unfold AA at hc;split at hc;case h_2=>cases hc
 rename_i x;cases hc;refine v_h (Mi hB) fun X hP hT hr hG=> ?_;have hU:=FG.eq_1;unfold FG at hT;have hX:= @ef.eq_1;simp only[Tryz.f148,aC,al,ioB];refine s_g hG ?_;refine s_q hG ?_ ?_
 ·try simp only[ba]
  exact hC
 refine av ?_;refine q_e [] ?_;rw[Em]
def FH(B:ag):Tab:={types:= [(3,(.int .i64)),(4, .bool),(87,(.slice (.int .u32))),(89,(.st (.pair .bool (.slice (.int .u32)))))],elems:= [],cons:= [],hint:= [],N:=11,base:=B}
theorem Mj{B:ag}(hB:aB B):aG Tryz.prog (FH B):=⟨⟨tc ty3 (tc ty4 (tc iz (tc gK (ae)))),af,by simp only[FH,ioB];omega⟩,bH rfl,by kernel_rfl⟩
def pJ:Con:=fun l os=>match l,os with
 | [.z (.st (.pair .bool (.slice (.int .u32)))) x], []=>some (WOK x, [.z (.int .i64) (bx (dec x) 0)], [])
 |_,_=>none
theorem x8{B:ag}(hB:aB B):Valid B Tryz.prog 154 pJ:=by
 refine ab (Mj hB).tab Tryz.func154 rfl rfl rfl ?_;intro args os C rs os' hc hC;unfold pJ at hc;split at hc;case h_2=>cases hc
 rename_i x;cases hc;refine v_h (Mj hB) fun X hP hT hr hG=> ?_;have hU:=FH.eq_1;unfold FH at hT;have hX:=Bool.not_true;simp only[Tryz.f154,aC,al,ioB];refine s_g hG ?_;refine ak ?_;refine ax ?_;refine s_g hG ?_;refine ao ?_ ?_
 ·intro hb0;try simp only[bt] at hb0
  refine s_g hG ?_;refine av ?_;refine bD ?_;refine aw ?_;refine q_e [] ?_;rw[bx,if_neg (by have:=(fP hC).1.1 hb0;omega),if_neg (by have:=(fP hC).1.1 hb0;omega)]
 ·intro hb0;try simp only[bf] at hb0
  refine s_g hG ?_;refine ao ?_ ?_;·intro hb1;(try simp only[bt] at hb1);refine s_g hG ?_;refine av ?_;refine bD ?_;refine aw ?_;refine q_e [] ?_;rw[bx,if_pos (((fP hC).2 hb0).1 hb1)]
  ·intro hb1;(try simp only[bf] at hb1);refine aq ?_;refine aL ?_;refine aj ?_;refine s_g hG ?_;refine av ?_;refine q_e [] ?_;have:=((fP hC).2 hb0).2 hb1;rw[bx,if_neg (by omega),if_pos this]
def FI(B:ag):Tab:={types:= [(3,(.int .i64)),(87,(.slice (.int .u32))),(161,(.int .u32))],elems:= [],cons:= [(180,wt),(181,FE)],hint:= [],N:=35,base:=B}
theorem Mk{B:ag}(hB:aB B):aG Tryz.prog (FI B):=⟨⟨tc ty3 (tc iz (tc fU (ae))),af,by simp only[FI,ioB];omega⟩,aD (cc Tryz.func180 (FC hB) (cc Tryz.func181 (Ox hB) (au))),by kernel_rfl⟩
def eX:Con:=fun l os=>match l,os with
 | [.z (.slice (.int .u32)) m, .z (.slice (.int .u32)) o], []=>some (Cano m/\Cano o/\m.length+o.length<CAP, [.z (.int .i64) (bx (valL m) (valL o))], [])
 |_,_=>none
theorem x9{B:ag}(hB:aB B):Valid B Tryz.prog 152 eX:=by
 refine ab (Mk hB).tab Tryz.func152 rfl rfl rfl ?_;intro args os C rs os' hc hC;unfold eX at hc;split at hc;case h_2=>cases hc
 rename_i m o;cases hc;refine v_h (Mk hB) fun X hP hT hr hG=> ?_;have hU:=FI.eq_1;unfold FI at hT;have hX:=ai @wt.eq_1<| @FE.eq_1;simp only[Tryz.f152,aC,al,ioB];refine s_g hG ?_;refine ak ?_;refine s_g hG ?_;refine s_g hG ?_;refine ao ?_ ?_
 ·intro hb0;try simp only[bt] at hb0
  refine s_g hG ?_;refine av ?_;refine aw ?_;refine q_e [] ?_;exact cmp_lens hC.1 hC.2.1 hb0
 ·intro hb0;try simp only[decide_eq_true_eq,decide_eq_false_iff_not,bne_eq_false_iff_eq] at hb0
  obtain⟨c1,c2,c3⟩:=hC;have c3:List.length m+List.length o<1000000000000:=c3;have hl:List.length m=List.length o:=by have:=nn.1 hb0;omega
  refine aq ?_;refine aj ?_;refine ak ?_;refine s_g hG ?_;refine ax ?_;refine br (fun(z:Nat)=>(⟨[(0, .l (.z (.slice (.int .u32)) m)),(1, .l (.z (.slice (.int .u32)) o)),(6, .l (.z (.int .i64) ((z:Int)-1)))], []⟩:aa)) (fun z=>z<=List.length m/\List.drop z m=List.drop z o) (fun z=>z) (List.length m) ?_ ?_ ?_;·refine q_l ?_;exact wi (by omega) (by omega)
  ·exact⟨Nat.le_refl _,by rw[List.drop_length,List.drop_of_length_le (by omega)]⟩
  ·rintro k ⟨g1,g2⟩;(try dsimp only at g1 g2);refine ak ?_;refine s_g hG ?_;refine ao ?_ ?_
   ·intro hb1;(try simp only[bt] at hb1);refine aq ?_;refine aj ?_;refine ak ?_;refine ax ?_;refine s_d hG ?_ ?_
    ·(try simp only[ba]);omega
    refine s_g hG ?_;refine ao ?_ ?_;·intro hb2;(try simp only[bt] at hb2);refine s_g hG ?_;refine av ?_;refine bD ?_;refine aw ?_;refine eF ?_;refine bD ?_;refine aw ?_;refine q_e [] ?_;obtain⟨j,rfl⟩:∃ j,k=j+1:=⟨k-1,by omega⟩;(have hk:((j+1:Nat):Int)-1=(j:Int):=by omega);rw[hk] at hb2 ⊢;exact cmp_place (k:=j) c1 c2 hl (by omega) g2 hb2
    ·(intro hb2;(try simp only[bf] at hb2);refine aq ?_;refine aL ?_;refine aj ?_;refine ah hG ?_ ?_;·first|trivial|omega|(simp;done)|(simp;omega));show ∃ z,_;refine q_l ?_;(have hk:(k:Int)-1=((k-1:Nat):Int):=by omega);refine⟨k-1,by rw[hk,wi (by omega) (by omega)],by omega,?_,by omega⟩;refine drop_step (k:=k-1) hl (by omega) (by rw[show k-1+1=k by omega];exact g2) ?_;rw[hk] at hb2;exact nn.1 hb2
   ·intro hb1;(try simp only[bf] at hb1);refine bh ?_;refine aE ?_;refine az ?_;refine ay ?_;refine aj ?_;refine s_g hG ?_;refine av ?_;refine q_e [] ?_;(have:k=0:=by omega);subst this;simp only[List.drop_zero] at g2;rw[g2];simp[bx]
def FJ(B:ag):Tab:={types:= [(2,(.int .i64)),(3,(.int .i64)),(87,(.slice (.int .u32))),(161,(.int .u32))],elems:= [(87,161)],cons:= [],hint:= [],N:=46,base:=B}
theorem Ml{B:ag}(hB:aB B):aG Tryz.prog (FJ B):=⟨⟨tc ty2 (tc ty3 (tc iz (tc fU (ae)))),aR (by kernel_rfl) (af),by simp only[FJ,ioB];omega⟩,bH rfl,by kernel_rfl⟩
def ya:Con:=fun l os=>match l,os with
 | [.z (.slice (.int .u32)) m, .z (.slice (.int .u32)) o], []=>some (Cano m/\Cano o/\valL o<=valL m/\m.length<CAP, [.z (.slice (.int .u32)) (padL (valL m-valL o).toNat m.length)], [])
 |_,_=>none
theorem Oy{B:ag}(hB:aB B):Valid B Tryz.prog 153 ya:=by
 refine ab (Ml hB).tab Tryz.func153 rfl rfl rfl ?_;intro args os C rs os' hc hC;unfold ya at hc;split at hc;case h_2=>cases hc
 rename_i m o;cases hc;refine v_h (Ml hB) fun X hP hT hr hG=> ?_;have hU:=FJ.eq_1;unfold FJ at hT;have hX:=Bool.not_true;simp only[Tryz.f153,aC,al,ioB];refine s_g hG ?_;refine s_q hG ?_ ?_
 ·try simp only[ba]
  exact⟨by omega,by omega,by have:List.length m<1000000000000:=hC.2.2.2;unfold Cm.Roomy;omega⟩
 refine s_g hG ?_;refine ak ?_;refine s_g hG ?_;refine ax ?_;refine br (fun(z:Nat×Int×List Int)=>(⟨[(1, .l (.z (.slice (.int .u32)) o)),(5, .l (.ownS 12)),(6, .l (.z (.int .i64) z.2.1)),(13, .l (.z (.slice (.int .u32)) m)),(14, .l (.z (.int .i64) (List.length m:Int))),(15, .l (.z (.int .i64) (z.1:Int)))], [(12, .arr (.int .u32) 161 z.2.2)]⟩:aa)) (fun z=>z.1<=List.length m/\z.2.2.length=z.1/\Lim z.2.2/\0<=z.2.1/\z.2.1<=1/\valL z.2.2+valL (List.take z.1 o)=valL (List.take z.1 m)+LB^z.1*z.2.1) (fun z=>List.length m-z.1) (0,0, []) ?_ ?_ ?_;·refine q_l ?_;exact⟨rfl,rfl⟩
 ·simp[Lim,valL]
 ·rintro⟨k,b,out⟩ ⟨g1,g2,g3,g4,g5,g6⟩;try dsimp only at g1 g2 g3 g4 g5 g6
  obtain⟨c1,c2,c3,c4⟩:=hC;have c4:List.length m<1000000000000:=c4;have hx:=c1.1.getD k;have hy:=c2.1.getD k;have hB:LB=1000000000:=rfl;refine s_g hG ?_;refine ak ?_;refine ao ?_ ?_
  ·intro hb0;(try simp only[bt] at hb0);refine aq ?_;refine aj ?_;refine ak ?_;refine ax ?_;refine s_q hG ?_ ?_
   ·(try simp only[ba]);exact⟨by omega,by omega⟩
   refine s_g hG ?_;refine ck (fun(z:Int)=>(⟨[(1, .l (.z (.slice (.int .u32)) o)),(5, .l (.ownS 12)),(9, .l (.z (.int .i64) z)),(13, .l (.z (.slice (.int .u32)) m)),(14, .l (.z (.int .i64) (List.length m:Int))),(15, .l (.z (.int .i64) (k:Int)))], [(12, .arr (.int .u32) 161 out)]⟩:aa)) (fun z=>z=List.getD m k 0-b-List.getD o k 0) ?_ ?_
   ·refine s_g hG ?_;refine ao ?_ ?_
    ·intro hb1;(try simp only[bt] at hb1);refine ah hG ?_ ?_
     ·(try simp only[ba]);exact⟨by omega,by omega⟩
     show ∃ z,_;refine q_l ?_;rw[fO,wi (x:=List.getD m k 0) (by omega) (by omega),wi (x:=List.getD m k 0-b) (by omega) (by omega)];first|(rw[fO,wi (x:=List.getD o k 0) (by omega) (by omega)];exact wi (by omega) (by omega))|(rw[List.getD_eq_getElem?_getD (l:=o),List.getElem?_eq_none (by omega)];simp)
    ·intro hb1;(try simp only[bf] at hb1);refine aq ?_;show ∃ z,_;refine q_l ?_;rw[fO,wi (x:=List.getD m k 0) (by omega) (by omega),wi (x:=List.getD m k 0-b) (by omega) (by omega)];first|(rw[fO,wi (x:=List.getD o k 0) (by omega) (by omega)];exact wi (by omega) (by omega))|(rw[List.getD_eq_getElem?_getD (l:=o),List.getElem?_eq_none (by omega)];simp)
   rintro n hn;(try dsimp only at hn);refine s_g hG ?_;refine ck (fun(z:Int×Int)=>(⟨[(1, .l (.z (.slice (.int .u32)) o)),(5, .l (.ownS 12)),(6, .l (.z (.int .i64) z.2)),(9, .l (.z (.int .i64) z.1)),(13, .l (.z (.slice (.int .u32)) m)),(14, .l (.z (.int .i64) (List.length m:Int))),(15, .l (.z (.int .i64) (k:Int)))], [(12, .arr (.int .u32) 161 out)]⟩:aa)) (fun z=>0<=z.1/\z.1<LB/\0<=z.2/\z.2<=1/\z.1-LB*z.2=n) ?_ ?_
   ·refine s_g hG ?_;refine ao ?_ ?_
    ·(intro hb2;(try simp only[bt] at hb2);refine ah hG ?_ ?_;·first|trivial|omega|(simp;done)|(simp;omega));show ∃ z,_;refine q_l ?_;first|(rw[wi (by omega) (by omega)];exact⟨by omega,by omega,by omega,by omega,by omega⟩)|exact⟨by omega,by omega,by omega,by omega,by omega⟩
    ·intro hb2;(try simp only[bf] at hb2);refine aq ?_;show ∃ z,_;refine q_l ?_;first|(rw[wi (by omega) (by omega)];exact⟨by omega,by omega,by omega,by omega,by omega⟩)|exact⟨by omega,by omega,by omega,by omega,by omega⟩
   rintro⟨n2,b2⟩ hn2;(try dsimp only at hn2);refine ah hG ?_ ?_
   ·(try simp only[ba]);unfold Cm.Roomy;omega
   (refine aL ?_;refine aj ?_;refine ah hG ?_ ?_;·first|trivial|omega|(simp;done)|(simp;omega));show ∃ z,_;refine q_l ?_;obtain⟨hn1,hn2,hn3,hn4,hn5⟩:=hn2;rw[w32 hn1 (by omega)];obtain⟨q1,q2⟩:=minus_round (b:=b) g2 g3 g6 hn1 hn2 (b':=b2) (by omega);exact⟨k+1,by rw[wi (by omega) (by omega)];simp,by omega,by simp[g2],q1,hn3,hn4,q2,by omega⟩
  ·intro hb0;(try simp only[bf] at hb0);refine bh ?_;refine aE ?_;refine az ?_;refine ay ?_;refine aj ?_;refine s_g hG ?_;refine av ?_;refine q_e [] ?_;(have hk:k=List.length m:=by omega);subst hk;exact minus_end c1 c2 c3 g2 g3 g4 (by rw[List.take_length] at g6;exact g6)
def FK(B:ag):Tab:={types:= [(3,(.int .i64)),(4, .bool),(87,(.slice (.int .u32))),(89,(.st (.pair .bool (.slice (.int .u32)))))],elems:= [],cons:= [(150,ef),(151,Fw),(152,eX),(153,ya)],hint:= [],N:=42,base:=B}
theorem Mm{B:ag}(hB:aB B):aG Tryz.prog (FK B):=⟨⟨tc ty3 (tc ty4 (tc iz (tc gK (ae)))),af,by simp only[FK,ioB];omega⟩,aD (cc Tryz.func150 (km hB) (cc Tryz.func151 (Ou hB) (cc Tryz.func152 (x9 hB) (cc Tryz.func153 (Oy hB) (au))))),by kernel_rfl⟩
def AB:Con:=fun l os=>match l,os with
 | [.z (.st (.pair .bool (.slice (.int .u32)))) x, .z (.st (.pair .bool (.slice (.int .u32)))) y], []=>some (WOK x/\WOK y/\x.2.length+y.2.length<CAP, [.z (.st (.pair .bool (.slice (.int .u32)))) (enc (dec x+dec y))], [])
 |_,_=>none
theorem yb{B:ag}(hB:aB B):Valid B Tryz.prog 110 AB:=by
 refine ab (Mm hB).tab Tryz.func110 rfl rfl rfl ?_;intro args os C rs os' hc hC;unfold AB at hc;split at hc;case h_2=>cases hc
 rename_i x y;cases hc;refine v_h (Mm hB) fun X hP hT hr hG=> ?_;have hU:=FK.eq_1;unfold FK at hT;have hX:=ai @eX.eq_1<|ai @ya.eq_1<|ai @Fw.eq_1<| @ef.eq_1;simp only[Tryz.f110,aC,al,ioB];refine s_g hG ?_;refine ak ?_;refine ax ?_;refine s_g hG ?_;refine ao ?_ ?_
 ·intro hb0;try simp only[bt] at hb0
  refine s_d hG ?_ ?_
  ·(try simp only[ba]);obtain⟨c1,c2,c3⟩:=hC;exact⟨⟨c1.1,c2.1,c3⟩,(limbs_can _).1,Nat.lt_of_le_of_lt (plus_len c1.1 c2.1) c3⟩
  refine av ?_;refine bD ?_;refine aw ?_;refine q_e [] ?_;exact add_same hC.1 hC.2.1 hb0
 ·intro hb0;try simp only[bf] at hb0
  refine s_q hG ?_ ?_
  ·(try simp only[ba]);obtain⟨c1,c2,c3⟩:=hC;exact⟨c1.1,c2.1,c3⟩
  refine ao ?_ ?_
  ·intro hb1;(try simp only[bt] at hb1);refine s_d hG ?_ ?_
   ·(try simp only[ba]);obtain⟨c1,c2,c3⟩:=hC;rw[np] at hb1;exact⟨⟨c2.1,c1.1,by omega,by omega⟩,padL_lim _ _,by rw[padL_len];omega⟩
   refine av ?_;refine bD ?_;refine aw ?_;refine q_e [] ?_;rw[np] at hb1;rw[zd (fun e=>hb0 e.symm) (minus_val hC.2.1.1 hC.1.1 (by omega)),Int.add_comm]
  ·intro hb1;(try simp only[bf] at hb1);refine aq ?_;refine aL ?_;refine aj ?_;refine s_d hG ?_ ?_
   ·(try simp only[ba]);obtain⟨c1,c2,c3⟩:=hC;rw[np] at hb1;exact⟨⟨c1.1,c2.1,by omega,by omega⟩,padL_lim _ _,by rw[padL_len];omega⟩
   refine av ?_;refine q_e [] ?_;rw[np] at hb1;exact zd hb0 (minus_val hC.1.1 hC.2.1.1 (by omega))
def FL(B:ag):Tab:={types:= [(89,(.st (.pair .bool (.slice (.int .u32)))))],elems:= [],cons:= [(110,AB),(148,AA)],hint:= [],N:=9,base:=B}
theorem Mn{B:ag}(hB:aB B):aG Tryz.prog (FL B):=⟨⟨tc gK (ae),af,by simp only[FL,ioB];omega⟩,aD (cc Tryz.func110 (yb hB) (cc Tryz.func148 (x7 hB) (au))),by kernel_rfl⟩
def Oz:Con:=fun l os=>match l,os with
 | [.z (.st (.pair .bool (.slice (.int .u32)))) x, .z (.st (.pair .bool (.slice (.int .u32)))) y], []=>some (WOK x/\WOK y/\x.2.length+y.2.length<CAP, [.z (.st (.pair .bool (.slice (.int .u32)))) (enc (dec x-dec y))], [])
 |_,_=>none
theorem OA{B:ag}(hB:aB B):Valid B Tryz.prog 179 Oz:=by
 refine ab (Mn hB).tab Tryz.func179 rfl rfl rfl ?_;intro args os C rs os' hc hC;unfold Oz at hc;split at hc;case h_2=>cases hc
 rename_i x y;cases hc;refine v_h (Mn hB) fun X hP hT hr hG=> ?_;have hU:=FL.eq_1;unfold FL at hT;have hX:=ai @AB.eq_1<| @AA.eq_1;simp only[Tryz.f179,aC,al,ioB];refine s_g hG ?_;refine s_d hG ?_ ?_
 ·try simp only[ba]
  obtain⟨c1,c2,c3⟩:=hC;exact⟨⟨c2.1.1,by omega⟩,c1,enc_ok _,by rw[Na c2];exact c3⟩
 refine av ?_;refine q_e [] ?_;rw[bR];rfl
def FM(B:ag):Tab:={types:= [(3,(.int .i64)),(4, .bool),(87,(.slice (.int .u32))),(89,(.st (.pair .bool (.slice (.int .u32))))),(161,(.int .u32)),(164,(.int .u64))],elems:= [(87,161)],cons:= [(150,ef)],hint:= [],N:=79,base:=B}
theorem Mo{B:ag}(hB:aB B):aG Tryz.prog (FM B):=⟨⟨tc ty3 (tc ty4 (tc iz (tc gK (tc fU (tc nw (ae)))))),aR (by kernel_rfl) (af),by simp only[FM,ioB];omega⟩,aD (cc Tryz.func150 (km hB) (au)),by kernel_rfl⟩
def AC:Con:=fun l os=>match l,os with
 | [.z (.st (.pair .bool (.slice (.int .u32)))) x, .z (.st (.pair .bool (.slice (.int .u32)))) y], []=>some (WOK x/\WOK y/\x.2.length+y.2.length<CAP, [.z (.st (.pair .bool (.slice (.int .u32)))) (enc (dec x*dec y))], [])
 |_,_=>none
theorem yc{B:ag}(hB:aB B):Valid B Tryz.prog 109 AC:=by
 refine ab (Mo hB).tab Tryz.func109 rfl rfl rfl ?_;intro args os C rs os' hc hC;unfold AC at hc;split at hc;case h_2=>cases hc
 rename_i x y;cases hc;refine v_h (Mo hB) fun X hP hT hr hG=> ?_;have hU:=FM.eq_1;unfold FM at hT;have hX:= @ef.eq_1;simp only[Tryz.f109,aC,al,ioB];refine s_g hG ?_;refine s_q hG ?_ ?_
 ·try simp only[ba]
  have c3:List.length x.2+List.length y.2<1000000000000:=hC.2.2;rw[wi (by omega) (by omega)];exact⟨by omega,by omega,by unfold Cm.Roomy;omega⟩
 refine ak ?_;refine s_g hG ?_;refine ax ?_;refine br (fun(z:Nat×List Int)=>(⟨[(2, .l (.z (.ptr (.st (.pair .bool (.slice (.int .u32))))) x)),(3, .l (.z (.ptr (.st (.pair .bool (.slice (.int .u32))))) y)),(4, .l (.ownP 4 0)),(5, .l (.ownS 19)),(21, .l (.z (.slice (.int .u32)) x.2)),(22, .l (.z (.int .i64) (List.length x.2:Int))),(23, .l (.z (.int .i64) (z.1:Int)))], [(19, .arr (.int .u32) 161 z.2),(4, .box 89 [.z .bool false, .val (.slice none 0 0)])]⟩:aa)) (fun z=>z.1<=List.length x.2/\z.2.length=List.length x.2+List.length y.2/\Lim z.2/\valL z.2=valL (List.take z.1 x.2)*valL y.2/\∀ j,z.1+List.length y.2<=j->z.2.getD j 0=0) (fun z=>List.length x.2-z.1) (0,List.replicate (List.length x.2+List.length y.2) 0) ?_ ?_ ?_;·refine q_l ?_;have c3:List.length x.2+List.length y.2<1000000000000:=hC.2.2;rw[wi (by omega) (by omega)];exact⟨rfl,by congr 1⟩
 ·obtain⟨r1,r2,r3⟩:=replicate_zero (List.length x.2+List.length y.2);exact⟨by simp,by simp,r1,by simp[r2,valL],fun j _=>r3 j⟩
 ·rintro⟨i,out⟩ ⟨g1,g2,g3,g4,g5⟩;try dsimp only at g1 g2 g3 g4 g5
  obtain⟨c1,c2,c3⟩:=hC;have c3:List.length x.2+List.length y.2<1000000000000:=c3;have hB:LB=1000000000:=rfl;refine s_g hG ?_;refine ak ?_;refine ao ?_ ?_
  ·intro hb0;(try simp only[bt] at hb0);refine aq ?_;refine aj ?_;refine ak ?_;refine ax ?_;refine s_q hG ?_ ?_
   ·(try simp only[ba]);omega
   (refine s_g hG ?_;refine ak ?_;refine s_g hG ?_;refine ax ?_;refine br (fun(z:Nat×Int×List Int)=>(⟨[(2, .l (.z (.ptr (.st (.pair .bool (.slice (.int .u32))))) x)),(3, .l (.z (.ptr (.st (.pair .bool (.slice (.int .u32))))) y)),(4, .l (.ownP 4 0)),(5, .l (.ownS 19)),(6, .l (.z (.int .i64) (i:Int))),(7, .l (.z (.int .u32) (List.getD x.2 i 0))),(8, .l (.z (.int .u64) z.2.1)),(21, .l (.z (.slice (.int .u32)) x.2)),(22, .l (.z (.int .i64) (List.length x.2:Int))),(23, .l (.z (.int .i64) (i:Int))),(29, .l (.z (.slice (.int .u32)) y.2)),(30, .l (.z (.int .i64) (List.length y.2:Int))),(31, .l (.z (.int .i64) (z.1:Int)))], [(19, .arr (.int .u32) 161 z.2.2),(4, .box 89 [.z .bool false, .val (.slice none 0 0)])]⟩:aa)) (fun z=>z.1<=List.length y.2/\z.2.2.length=List.length x.2+List.length y.2/\Lim z.2.2/\0<=z.2.1/\z.2.1<LB/\valL z.2.2+LB^(i+z.1)*z.2.1=valL (List.take i x.2)*valL y.2+LB^i*(List.getD x.2 i 0*valL (List.take z.1 y.2))/\∀ j,i+List.length y.2<=j->z.2.2.getD j 0=0) (fun z=>List.length y.2-z.1) (0,0,out) ?_ ?_ ?_;·refine q_l ?_;exact⟨rfl,rfl⟩);·exact⟨by simp,g2,g3,by simp,by simp;decide,by simp[valL,g4],g5⟩
   ·rintro⟨k,c,out2⟩ ⟨k1,k2,k3,k4,k5,k6,k7⟩;(try dsimp only at k1 k2 k3 k4 k5 k6 k7);(have e1:IntKind.i64.wrap ((i:Int)+(k:Int))=((i+k:Nat):Int):=by rw[wi (by omega) (by omega)];omega);refine s_g hG ?_;refine ak ?_;refine ao ?_ ?_
    ·intro hb1;(try simp only[bt] at hb1);refine aq ?_;refine aj ?_;refine ak ?_;refine ax ?_;refine s_q hG ?_ ?_
     ·(try simp only[ba]);omega
     refine ck (fun(z:Int)=>(⟨[(2, .l (.z (.ptr (.st (.pair .bool (.slice (.int .u32))))) x)),(3, .l (.z (.ptr (.st (.pair .bool (.slice (.int .u32))))) y)),(4, .l (.ownP 4 0)),(5, .l (.ownS 19)),(6, .l (.z (.int .i64) (i:Int))),(7, .l (.z (.int .u32) (List.getD x.2 i 0))),(9, .l (.z (.int .i64) (k:Int))),(11, .l (.z (.int .u64) z)),(21, .l (.z (.slice (.int .u32)) x.2)),(22, .l (.z (.int .i64) (List.length x.2:Int))),(23, .l (.z (.int .i64) (i:Int))),(29, .l (.z (.slice (.int .u32)) y.2)),(30, .l (.z (.int .i64) (List.length y.2:Int))),(31, .l (.z (.int .i64) (k:Int)))], [(19, .arr (.int .u32) 161 out2),(4, .box 89 [.z .bool false, .val (.slice none 0 0)])]⟩:aa)) (fun z=>z=List.getD x.2 i 0*List.getD y.2 k 0+out2.getD (i+k) 0+c) ?_ ?_
     ·refine ah hG ?_ ?_
      ·(try simp only[ba]);rw[e1];omega
      show ∃ z,_;refine q_l ?_;rw[e1];exact Qc (c1.1.1.getD i) (c2.1.1.getD k) (k3.getD (i+k)) ⟨k4,k5⟩
     rintro n hn;(try dsimp only at hn);refine ah hG ?_ ?_
     ·(try simp only[ba]);rw[e1];omega
     (refine aL ?_;refine aj ?_;refine ah hG ?_ ?_;·first|trivial|omega|(simp;done)|(simp;omega));show ∃ z,_;refine q_l ?_;obtain⟨m0,m1,m2,m3,m4,m5,m6,m7⟩:=mul_step c1.1.1 c2.1.1 k2 k3 k4 k5 (by omega) (by omega) k6 k7 hn;obtain⟨t1,t2,t3⟩:=nY m0 m1;rw[e1,t2,t3,Int.toNat_natCast];exact⟨k+1,by rw[wi (by omega) (by omega)];simp,by omega,m2,m3,m4,m5,m6,m7,by omega⟩
    ·intro hb1;(try simp only[bf] at hb1);refine bh ?_;refine aE ?_;refine az ?_;refine ay ?_;refine aj ?_;refine ah hG ?_ ?_
     ·(try simp only[ba]);rw[wi (by omega) (by omega)];omega
     (refine aL ?_;refine aj ?_;refine ah hG ?_ ?_;·first|trivial|omega|(simp;done)|(simp;omega));show ∃ z,_;refine q_l ?_;(have e1:IntKind.i64.wrap ((i:Int)+(List.length y.2:Int))=((i+List.length y.2:Nat):Int):=by rw[wi (by omega) (by omega)];omega);(have hk:k=List.length y.2:=by omega);subst hk;rw[List.take_length] at k6;obtain⟨f1,f2,f3,f4⟩:=mul_row k2 k3 k4 k5 (by omega) rfl k6 k7;rw[e1,w32 k4 (by omega),Int.toNat_natCast];exact⟨i+1,by rw[wi (by omega) (by omega)];simp,by omega,f1,f2,f3,f4,by omega⟩
  ·intro hb0;(try simp only[bf] at hb0);refine bh ?_;refine aE ?_;refine az ?_;refine ay ?_;refine aj ?_;refine s_q hG ?_ ?_
   ·(try simp only[ba]);exact⟨g3,by unfold CAP;omega⟩
   refine av ?_;refine q_e [] ?_;(have hi:i=List.length x.2:=by omega);subst hi;rw[List.take_length] at g4;rw[<- Nb g4]
def FN(B:ag):Tab:={types:= [(3,(.int .i64)),(9, .str)],elems:= [],cons:= [],hint:= [],N:=18,base:=B}
theorem Mp{B:ag}(hB:aB B):aG Tryz.prog (FN B):=⟨⟨tc ty3 (tc ty9 (ae)),af,by simp only[FN,ioB];omega⟩,bH rfl,by kernel_rfl⟩
def qe:Con:=fun l os=>match l,os with
 | [.z .str s, .z .str p], []=>some (True, [.z .bool (c7 s p)], [])
 |_,_=>none
theorem OB{B:ag}(hB:aB B):Valid B Tryz.prog 139 qe:=by
 refine ab (Mp hB).tab Tryz.func139 rfl rfl rfl ?_;intro args os C rs os' hc hC;unfold qe at hc;split at hc;case h_2=>cases hc
 rename_i s p;cases hc;refine v_h (Mp hB) fun X hP hT hr hG=> ?_;have hU:=FN.eq_1;unfold FN at hT;have hX:=Bool.not_true;simp only[Tryz.f139,aC,al,ioB];refine s_g hG ?_;refine s_q hG ?_ ?_
 ·try simp only[ba]
  (repeat' (first|apply And.intro|intro _))<;>(try simp only[decide_eq_true_eq,decide_eq_false_iff_not,Bool.not_eq_true',beq_iff_eq,Int.toNat_natCast] at*)<;>first|assumption|omega|trivial|(simp_all;done)|(simp_all;omega)
 refine av ?_;refine q_e [] ?_;exact G1 s p
def FO(B:ag):Tab:={types:= [(9, .str)],elems:= [],cons:= [(139,qe)],hint:= [],N:=13,base:=B}
theorem Mq{B:ag}(hB:aB B):aG Tryz.prog (FO B):=⟨⟨tc ty9 (ae),af,by simp only[FO,ioB];omega⟩,aD (cc Tryz.func139 (OB hB) (au)),by kernel_rfl⟩
def eY:Con:=fun l os=>match l,os with
 | [.z .str s, .z .str p], []=>some (True, [.z .str (aA s p)], [])
 |_,_=>none
theorem OC{B:ag}(hB:aB B):Valid B Tryz.prog 186 eY:=by
 refine ab (Mq hB).tab Tryz.func186 rfl rfl rfl ?_;intro args os C rs os' hc hC;unfold eY at hc;split at hc;case h_2=>cases hc
 rename_i s p;cases hc;refine v_h (Mq hB) fun X hP hT hr hG=> ?_;have hU:=FO.eq_1;unfold FO at hT;have hX:= @qe.eq_1;simp only[Tryz.f186,aC,al,ioB];refine s_g hG ?_;refine ak ?_;refine s_g hG ?_;refine ao ?_ ?_
 ·intro hb0;try simp only[bt] at hb0
  refine s_q hG ?_ ?_
  ·(try simp only[ba]);have h:=hb0;unfold c7 at h;simp only[Bool.and_eq_true,decide_eq_true_eq] at h;exact⟨by omega,by omega,by omega⟩
  refine av ?_;refine aw ?_;refine q_e [] ?_;simp[aA,hb0]
 ·intro hb0;try simp only[bf] at hb0
  refine aq ?_;refine aj ?_;refine s_g hG ?_;refine av ?_;refine q_e [] ?_;simp[aA,hb0]
def FP(B:ag):Tab:={types:= [(9, .str)],elems:= [],cons:= [(186,eY)],hint:= [],N:=8,base:=B}
theorem Mr{B:ag}(hB:aB B):aG Tryz.prog (FP B):=⟨⟨tc ty9 (ae),af,by simp only[FP,ioB];omega⟩,aD (cc Tryz.func186 (OC hB) (au)),by kernel_rfl⟩
theorem FQ{B:ag}(hB:aB B):Valid B Tryz.prog 172 eY:=by
 refine ab (Mr hB).tab Tryz.func172 rfl rfl rfl ?_;intro args os C rs os' hc hC;unfold eY at hc;split at hc;case h_2=>cases hc
 rename_i s p;cases hc;refine v_h (Mr hB) fun X hP hT hr hG=> ?_;have hU:=FP.eq_1;unfold FP at hT;have hX:= @eY.eq_1;simp only[Tryz.f172,aC,al,ioB];refine s_g hG ?_;refine s_g hG ?_;refine av ?_;refine q_e [] ?_;trivial
def FR(B:ag):Tab:={types:= [(87,(.slice (.int .u32)))],elems:= [],cons:= [],hint:= [],N:=4,base:=B}
theorem Ms{B:ag}(hB:aB B):aG Tryz.prog (FR B):=⟨⟨tc iz (ae),af,by simp only[FR,ioB];omega⟩,bH rfl,by kernel_rfl⟩
def wu:Con:=fun l os=>match l,os with
 | [.z (.slice (.int .u32)) xs], []=>some (True, [.fn 208 [.z (.ptr (.slice (.int .u32))) xs]], [])
 |_,_=>none
theorem FS{B:ag}(hB:aB B):Valid B Tryz.prog 193 wu:=by
 refine ab (Ms hB).tab Tryz.func193 rfl rfl rfl ?_;intro args os C rs os' hc hC;unfold wu at hc;split at hc;case h_2=>cases hc
 rename_i xs;cases hc;refine v_h (Ms hB) fun X hP hT hr hG=> ?_;have hU:=FR.eq_1;unfold FR at hT;have hX:=Bool.not_true;simp only[Tryz.f193,aC,al,ioB];refine s_g hG ?_;refine s_g hG ?_;refine av ?_;refine q_e [] ?_;rfl
def FT(B:ag):Tab:={types:= [(3,(.int .i64)),(4, .bool),(87,(.slice (.int .u32))),(89,(.st (.pair .bool (.slice (.int .u32)))))],elems:= [],cons:= [(152,eX),(154,pJ),(180,wt)],hint:= [],N:=32,base:=B}
theorem Mt{B:ag}(hB:aB B):aG Tryz.prog (FT B):=⟨⟨tc ty3 (tc ty4 (tc iz (tc gK (ae)))),af,by simp only[FT,ioB];omega⟩,aD (cc Tryz.func152 (x9 hB) (cc Tryz.func154 (x8 hB) (cc Tryz.func180 (FC hB) (au)))),by kernel_rfl⟩
def OD:Con:=fun l os=>match l,os with
 | [.z (.st (.pair .bool (.slice (.int .u32)))) x, .z (.st (.pair .bool (.slice (.int .u32)))) y], []=>some (WOK x/\WOK y/\x.2.length+y.2.length<CAP, [.z (.int .i64) (bx (dec x) (dec y))], [])
 |_,_=>none
theorem OE{B:ag}(hB:aB B):Valid B Tryz.prog 168 OD:=by
 refine ab (Mt hB).tab Tryz.func168 rfl rfl rfl ?_;intro args os C rs os' hc hC;unfold OD at hc;split at hc;case h_2=>cases hc
 rename_i x y;cases hc;refine v_h (Mt hB) fun X hP hT hr hG=> ?_;have hU:=FT.eq_1;unfold FT at hT;have hX:=ai @wt.eq_1<|ai @eX.eq_1<| @pJ.eq_1;simp only[Tryz.f168,aC,al,ioB];refine s_g hG ?_;refine ak ?_;refine s_d hG ?_ ?_
 ·try simp only[ba]
  exact⟨hC.1,hC.2.1⟩
 refine s_q hG ?_ ?_
 ·try simp only[ba]
  (repeat' (first|apply And.intro|intro _))<;>(try simp only[decide_eq_true_eq,decide_eq_false_iff_not,Bool.not_eq_true',beq_iff_eq,Int.toNat_natCast] at*)<;>first|assumption|omega|trivial|(simp_all;done)|(simp_all;omega)
 refine ao ?_ ?_
 ·intro hb0;try simp only[bt] at hb0
  refine s_g hG ?_;refine av ?_;refine aw ?_;refine q_e [] ?_;exact G3 hC.1 hb0
 ·intro hb0;try simp only[bf] at hb0
  refine aq ?_;refine aj ?_;refine ak ?_;refine s_g hG ?_;refine ao ?_ ?_
  ·intro hb1;(try simp only[bt] at hb1);refine s_q hG ?_ ?_
   ·(try simp only[ba]);exact⟨hC.2.1.1,hC.1.1,by omega⟩
   refine av ?_;refine aw ?_;refine q_e [] ?_;exact(tv hC.1 hC.2.1 hb0).1 hb1
  ·intro hb1;(try simp only[bf] at hb1);refine aq ?_;refine aj ?_;refine s_q hG ?_ ?_
   ·(try simp only[ba]);exact⟨hC.1.1,hC.2.1.1,by omega⟩
   refine av ?_;refine q_e [] ?_;exact(tv hC.1 hC.2.1 hb0).2 hb1
def FU(B:ag):Tab:={types:= [(3,(.int .i64)),(9, .str),(87,(.slice (.int .u32))),(89,(.st (.pair .bool (.slice (.int .u32))))),(161,(.int .u32))],elems:= [],cons:= [(166,vr)],hint:= [],N:=22,base:=B}
theorem Mu{B:ag}(hB:aB B):aG Tryz.prog (FU B):=⟨⟨tc ty3 (tc ty9 (tc iz (tc gK (tc fU (ae))))),af,by simp only[FU,ioB];omega⟩,aD (cc Tryz.func166 (En hB) (au)),by kernel_rfl⟩
def qf:Con:=fun l os=>match l,os with
 | [.z (.st (.pair .bool (.slice (.int .u32)))) x], []=>some (WOK x/\x.2.length<CAP, [.z (.int .i64) (cB (dec x))], [])
 |_,_=>none
theorem OG{B:ag}(hB:aB B):Valid B Tryz.prog 169 qf:=by
 refine ab (Mu hB).tab Tryz.func169 rfl rfl rfl ?_;intro args os C rs os' hc hC;unfold qf at hc;split at hc;case h_2=>cases hc
 rename_i x;cases hc;refine v_h (Mu hB) fun X hP hT hr hG=> ?_;have hU:=FU.eq_1;unfold FU at hT;have hX:= @vr.eq_1;simp only[Tryz.f169,aC,al,ioB];refine s_g hG ?_;refine s_g hG ?_;refine ak ?_;refine s_g hG ?_;refine ao ?_ ?_
 ·intro hb0;try simp only[bt] at hb0
  refine s_g hG ?_;refine av ?_;refine aw ?_;refine q_e [] ?_;rw[(fP hC.1).1.1 hb0,vv]
 ·intro hb0;try simp only[bf] at hb0
  refine aq ?_;refine aj ?_;refine s_q hG ?_ ?_
  ·(try simp only[ba]);obtain⟨d1,d2,d3,d4⟩:=zi hC.1 hC.2 hb0;have d5:=zh hC.1.1.1 (by omega);have hB:LB=1000000000:=rfl;rw[d2,d3];exact⟨d1,by unfold I64;omega⟩
  refine av ?_;refine q_e [] ?_;obtain⟨d1,d2,d3,d4⟩:=zi hC.1 hC.2 hb0;rw[d2,d3];exact d4
def FV(B:ag):Tab:={types:= [(3,(.int .i64)),(87,(.slice (.int .u32))),(89,(.st (.pair .bool (.slice (.int .u32))))),(161,(.int .u32)),(164,(.int .u64))],elems:= [(87,161)],cons:= [],hint:= [],N:=27,base:=B}
theorem Mv{B:ag}(hB:aB B):aG Tryz.prog (FV B):=⟨⟨tc ty3 (tc iz (tc gK (tc fU (tc nw (ae))))),aR (by kernel_rfl) (af),by simp only[FV,ioB];omega⟩,bH rfl,by kernel_rfl⟩
def jn:Con:=fun l os=>match l,os with
 | [.z (.int .i64) n], []=>some (I64 n, [.z (.st (.pair .bool (.slice (.int .u32)))) (enc n)], [])
 |_,_=>none
theorem qg{B:ag}(hB:aB B):Valid B Tryz.prog 133 jn:=by
 refine ab (Mv hB).tab Tryz.func133 rfl rfl rfl ?_;intro args os C rs os' hc hC;unfold jn at hc;split at hc;case h_2=>cases hc
 rename_i n;cases hc;refine v_h (Mv hB) fun X hP hT hr hG=> ?_;have hU:=FV.eq_1;unfold FV at hT;have hX:=Bool.not_true;simp only[Tryz.f133,aC,al,ioB];refine s_g hG ?_;refine s_g hG ?_;refine s_g hG ?_;refine ck (fun(z:Int)=>(⟨[(4, .l (.z (.int .u64) z)),(3, .l (.ownP 3 0)),(2, .l (.ownP 2 0))], [(3, .box 89 [.z .bool (decide (n<0)), .val (.slice none 0 0)]),(2, .box 89 [.z .bool false, .val (.slice none 0 0)])]⟩:aa)) (fun z=>z=n.natAbs) ?_ ?_
 ·refine s_g hG ?_;refine ao ?_ ?_
  ·(intro hb0;(try simp only[bt] at hb0);refine ah hG ?_ ?_;·first|trivial|omega|(simp;done)|(simp;omega));show ∃ z,_;refine q_l ?_;first|exact(lP hC).1 hb0|exact(lP hC).2 hb0
  ·intro hb0;(try simp only[bf] at hb0);refine aq ?_;show ∃ z,_;refine q_l ?_;first|exact(lP hC).1 hb0|exact(lP hC).2 hb0
 rintro z hz;try dsimp only at hz
 refine ak ?_;refine ax ?_;refine br (fun(z:Nat×List Int)=>(⟨[(4, .l (.z (.int .u64) (z.1:Int))),(3, .l (.ownP 3 0)),(2, .l (.ownP 2 0))], [(3, .box 89 [.z .bool (decide (n<0)), .ownS 24]),(24, .arr (.int .u32) 161 z.2),(2, .box 89 [.z .bool false, .val (.slice none 0 0)])]⟩:aa)) (fun z=>z.2++limbs z.1=limbs n.natAbs/\z.1<18446744073709551616) (fun z=>z.1) (n.natAbs, []) ?_ ?_ ?_;·refine q_l ?_;exact⟨hz,by unfold ioB;omega⟩
 ·exact⟨by simp,by have hC:I64 n:=hC;unfold I64 at hC;omega⟩
 ·rintro⟨u,m⟩ ⟨g1,g2⟩;try dsimp only at g1 g2
  refine ak ?_;refine s_g hG ?_;refine ao ?_ ?_
  ·intro hb1;(try simp only[bt] at hb1);refine aq ?_;refine aj ?_;refine ak ?_;refine ax ?_;refine ah hG ?_ ?_
   ·(try simp only[ba]);have h3:=mH (n:=n.natAbs) (by have hC:I64 n:=hC;unfold I64 at hC;omega);have h4:=congrArg List.length g1;simp only[List.length_append] at h4;exact⟨by omega,by unfold Cm.Roomy;omega⟩
   (refine aL ?_;refine aj ?_;refine ah hG ?_ ?_;·first|trivial|omega|(simp;done)|(simp;omega));show ∃ z,_;refine q_l ?_;exact pk g1 g2 hb1
  ·intro hb1;(try simp only[bf] at hb1);refine bh ?_;refine aE ?_;refine az ?_;refine ay ?_;refine aj ?_;refine s_g hG ?_;refine av ?_;refine q_e [24] ?_;(have h0:u=0:=by omega);subst h0;rw[show limbs 0= [] by simp[limbs],List.append_nil] at g1;rw[g1];rfl
def yd(B:ag):Tab:={types:= [(4, .bool),(9, .str),(181,(.slice (.int .i64)))],elems:= [],cons:= [(156,gM),(157,cV),(158,fg)],hint:= [],N:=9,base:=B}
theorem FW{B:ag}(hB:aB B):aG Tryz.prog (yd B):=⟨⟨tc ty4 (tc ty9 (tc jG (ae))),af,by simp only[yd,ioB];omega⟩,aD (cc Tryz.func156 (lz hB) (cc Tryz.func157 (lu hB) (cc Tryz.func158 (lA hB) (au)))),by kernel_rfl⟩
def wv:Con:=fun l os=>match l,os with
 | [.z .str s], []=>some (RF s/\4*s.length<CAP, [.z .str (Lib.itoa (-an s))], [])
 |_,_=>none
theorem AD{B:ag}(hB:aB B):Valid B Tryz.prog 163 wv:=by
 refine ab (FW hB).tab Tryz.func163 rfl rfl rfl ?_;intro args os C rs os' hc hC;unfold wv at hc;split at hc;case h_2=>cases hc
 rename_i s;cases hc;refine v_h (FW hB) fun X hP hT hr hG=> ?_;have hU:=yd.eq_1;unfold yd at hT;have hX:=ai @cV.eq_1<|ai @gM.eq_1<| @fg.eq_1;simp only[Tryz.f163,aC,al,ioB];refine s_g hG ?_;refine s_q hG ?_ ?_
 ·try simp only[ba]
  have h1:=zE hC.1;have h2:=hC.2;exact⟨hC.1,⟨hC.1,by omega⟩,D.limbs_can _,by omega⟩
 refine av ?_;refine q_e [] ?_;exact Ns _
def ye(B:ag):Tab:={types:= [(9, .str)],elems:= [],cons:= [(157,cV)],hint:= [],N:=7,base:=B}
theorem FX{B:ag}(hB:aB B):aG Tryz.prog (ye B):=⟨⟨tc ty9 (ae),af,by simp only[ye,ioB];omega⟩,aD (cc Tryz.func157 (lu hB) (au)),by kernel_rfl⟩
def yf:Con:=fun l os=>match l,os with
 | [.z .str s], []=>some (RF s, [.z (.int .i64) (bx (an s) 0)], [])
 |_,_=>none
theorem Mw{B:ag}(hB:aB B):Valid B Tryz.prog 162 yf:=by
 refine ab (FX hB).tab Tryz.func162 rfl rfl rfl ?_;intro args os C rs os' hc hC;unfold yf at hc;split at hc;case h_2=>cases hc
 rename_i s;cases hc;refine v_h (FX hB) fun X hP hT hr hG=> ?_;have hU:=ye.eq_1;unfold ye at hT;have hX:= @cV.eq_1;simp only[Tryz.f162,aC,al,ioB];refine s_g hG ?_;refine ak ?_;refine s_g hG ?_;refine ao ?_ ?_
 ·intro hb0;try simp only[bt] at hb0
  refine s_g hG ?_;refine av ?_;refine aw ?_;refine q_e [] ?_;exact(tH hC).1 hb0
 ·intro hb0;try simp only[bf] at hb0
  refine aq ?_;refine aj ?_;refine ak ?_;refine s_q hG ?_ ?_
  ·(try simp only[ba]);exact hC
  refine ao ?_ ?_;·intro hb1;(try simp only[bt] at hb1);refine s_g hG ?_;refine av ?_;refine aw ?_;refine q_e [] ?_;exact(tH hC).2.1 hb0 hb1
  ·intro hb1;(try simp only[bf] at hb1);refine aq ?_;refine aj ?_;refine s_g hG ?_;refine av ?_;refine q_e [] ?_;exact(tH hC).2.2 hb0 hb1
def yg(B:ag):Tab:={types:= [(3,(.int .i64)),(9, .str)],elems:= [],cons:= [(182,Fu)],hint:= [],N:=31,base:=B}
theorem FY{B:ag}(hB:aB B):aG Tryz.prog (yg B):=⟨⟨tc ty3 (tc ty9 (ae)),af,by simp only[yg,ioB];omega⟩,aD (cc Tryz.func182 (Mb hB) (au)),by kernel_rfl⟩
def eZ:Con:=fun l os=>match l,os with
 | [.z .str a, .z .str b], []=>some (RF a/\RF b/\a.length<CAP/\b.length<CAP, [.z (.int .i64) (if a.length<=9/\b.length<=9 then an a else 0), .z (.int .i64) (if a.length<=9/\b.length<=9 then an b else 0), .z .bool (decide (a.length<=9/\b.length<=9))], [])
 |_,_=>none
theorem nJ{B:ag}(hB:aB B):Valid B Tryz.prog 155 eZ:=by
 refine ab (FY hB).tab Tryz.func155 rfl rfl rfl ?_;intro args os C rs os' hc hC;unfold eZ at hc;split at hc;case h_2=>cases hc
 rename_i a b;cases hc;refine v_h (FY hB) fun X hP hT hr hG=> ?_;have hU:=yg.eq_1;unfold yg at hT;have hX:= @Fu.eq_1;simp only[Tryz.f155,aC,al,ioB];refine s_g hG ?_;refine ak ?_;refine s_q hG ?_ ?_
 ·try simp only[ba]
  (repeat' (first|apply And.intro|intro _))<;>(try simp only[decide_eq_true_eq,decide_eq_false_iff_not,Bool.not_eq_true',beq_iff_eq,Int.toNat_natCast] at*)<;>first|assumption|omega|trivial|(simp_all;done)|(simp_all;omega)
 refine ao ?_ ?_
 ·intro hb0;simp only[Bool.or_eq_true,decide_eq_true_eq] at hb0;have hl: ¬ (List.length a<=9/\List.length b<=9):=by omega
  refine s_g hG ?_;refine av ?_;refine aw ?_;refine q_e [] ?_;rw[if_neg hl,if_neg hl,decide_eq_false hl];exact⟨rfl,rfl,rfl⟩
 ·intro hb0;simp only[Bool.or_eq_false_iff,decide_eq_false_iff_not] at hb0;have hl:List.length a<=9/\List.length b<=9:=by omega
  refine aq ?_;refine aj ?_;refine s_q hG ?_ ?_
  ·(try simp only[ba]);exact⟨zF hC.1 hl.1,hl.1⟩
  refine s_q hG ?_ ?_
  ·(try simp only[ba]);exact⟨zF hC.2.1 hl.2,hl.2⟩
  refine s_g hG ?_;refine av ?_;refine q_e [] ?_;rw[if_pos hl,if_pos hl,decide_eq_true hl];exact⟨rfl,rfl,rfl⟩
def yh(B:ag):Tab:={types:= [(3,(.int .i64))],elems:= [],cons:= [(166,vr)],hint:= [],N:=5,base:=B}
theorem FZ{B:ag}(hB:aB B):aG Tryz.prog (yh B):=⟨⟨tc ty3 (ae),af,by simp only[yh,ioB];omega⟩,aD (cc Tryz.func166 (En hB) (au)),by kernel_rfl⟩
def pR:Con:=fun l os=>match l,os with
 | [.z (.int .i64) n], []=>some (I64 n, [.z .str (Lib.itoa n)], [])
 |_,_=>none
theorem lB{B:ag}(hB:aB B):Valid B Tryz.prog 126 pR:=by
 refine ab (FZ hB).tab Tryz.func126 rfl rfl rfl ?_;intro args os C rs os' hc hC;unfold pR at hc;split at hc;case h_2=>cases hc
 rename_i n;cases hc;refine v_h (FZ hB) fun X hP hT hr hG=> ?_;have hU:=yh.eq_1;unfold yh at hT;have hX:= @vr.eq_1;simp only[Tryz.f126,aC,al,ioB];refine s_g hG ?_;refine s_q hG ?_ ?_
 ·try simp only[ba]
  exact hC
 refine av ?_;refine q_e [] ?_;trivial
def uD(B:ag):Tab:={types:= [(3,(.int .i64)),(181,(.slice (.int .i64)))],elems:= [(181,3)],cons:= [(160,iq),(161,lX),(164,lY),(183,mu)],hint:= [23,31,50],N:=125,base:=B}
theorem F0{B:ag}(hB:aB B):aG Tryz.prog (uD B):=⟨⟨tc ty3 (tc jG (ae)),aR (by kernel_rfl) (af),by simp only[uD,ioB];omega⟩,aD (cc Tryz.func160 (Ax hB) (cc Tryz.func161 (Ay hB) (cc Tryz.func164 (Az hB) (cc Tryz.func183 (nH hB) (au))))),by kernel_rfl⟩
def jO:Con:=fun l os=>match l,os with
 | [.z (.slice (.int .i64)) a, .z (.slice (.int .i64)) b], []=>some (D.Cano a/\D.Cano b/\b≠ []/\a.length+b.length+2<CAP, [.z (.slice (.int .i64)) (D.limbs (D.valL a/D.valL b).toNat), .z (.slice (.int .i64)) (D.limbs (D.valL a%D.valL b).toNat)], [])
 |_,_=>none
set_option maxHeartbeats 1000000 in
theorem AE{B:ag}(hB:aB B):Valid B Tryz.prog 165 jO:=by
 refine ab (F0 hB).tab Tryz.func165 rfl rfl rfl ?_;intro args os C rs os' hc hC;unfold jO at hc;split at hc;case h_2=>cases hc
 rename_i a b;cases hc;refine v_h (F0 hB) fun X hP hT hr hG=> ?_;have hU:=uD.eq_1;unfold uD at hT;have hX:=ai @iq.eq_1<|ai @mu.eq_1<|ai @lX.eq_1<| @lY.eq_1;simp only[Tryz.f165,aC,al,ioB];refine s_g hG ?_;refine ck (fun(z:Nat)=>(⟨[(0, .l (.z (.slice (.int .i64)) a)),(1, .l (.z (.slice (.int .i64)) b)),(6, .l (.z (.int .i64) (z:Int)))], []⟩:aa)) (fun z=>b.length=z+1) ?_ ?_
 ·refine ah hG ?_ ?_;·first|trivial|omega|(simp;done)|(simp;omega)
  show ∃ z,_;refine q_l ?_;exact D.len_pred hC.2.2.1 hC.2.2.2
 rintro n hn;try dsimp only at hn
 obtain⟨c1,c2,c3,c4⟩:=hC;have c4:List.length a+List.length b+2<1000000000000:=c4;have hp:=(D.valL_pos c2).2 c3;have hwn:IntKind.i64.wrap ((n:Int)-1)=(n:Int)-1:=wi (by omega) (by omega);refine ak ?_;refine s_g hG ?_;refine ao ?_ ?_
 ·intro hb0;try simp only[decide_eq_true_eq] at hb0
  refine s_q hG ?_ ?_
  ·(try simp only[ba]);unfold Cm.Roomy;omega
  refine av ?_;refine aw ?_;refine q_e [23] ?_;exact D.div_small c1 c2 c3 hn (by omega)
 ·intro hb0;simp only[decide_eq_false_iff_not] at hb0;have hwl:IntKind.i64.wrap ((List.length a:Int)-(n:Int))=((List.length a-n:Nat):Int):=by rw[wi (by omega) (by omega)];omega
  refine aq ?_;refine aj ?_;refine s_q hG ?_ ?_
  ·(try simp only[ba]);rw[hwl];exact⟨by omega,by omega,by unfold Cm.Roomy;omega⟩
  refine s_q hG ?_ ?_
  ·(try simp only[ba]);rw[hwl,Int.toNat_natCast,Int.toNat_natCast,List.take_length,List.length_drop];exact⟨⟨by omega,by omega,Int.le_refl _⟩,by unfold Cm.Roomy;omega⟩
  refine ak ?_;refine s_g hG ?_;refine ax ?_;refine JR [31] (by simp only[hT,uD,mr0,mr1,mr2,jT,Nat.reduceLT,Nat.reduceEqDiff,Nat.reduceAdd,Nat.reduceMul,Nat.reduceSub,Nat.reduceLeDiff,Nat.reduceBEq,Nat.reduceBNe,reduceIte,reduceDIte,reduceCtorEq];rfl) ?_;refine br (fun(z:Nat×List Int×List Int)=>(⟨[(0, .l (.z (.slice (.int .i64)) a)),(1, .l (.z (.slice (.int .i64)) b)),(6, .l (.z (.int .i64) (n:Int))),(7, .l (.ownS 30)),(8, .l (.z (.slice (.int .i64)) z.2.2)),(9, .l (.z (.int .i64) ((z.1:Int)-1)))], [(30, .arr (.int .i64) 3 z.2.1)]⟩:aa)) (fun z=>D.DivPhi a b z.1 z.2.1 z.2.2) (fun z=>z.1) (List.length a-n,List.replicate (List.length a-n) 0,List.drop (List.length a-n) a) ?_ ?_ ?_;·refine q_l ?_;rw[hwl,Int.toNat_natCast,Int.toNat_natCast,List.take_length,List.length_replicate];exact⟨rfl,wi (by omega) (by omega),rfl⟩
  ·exact D.div_start c1 c2 c3 hn (by omega)
  ·rintro⟨k,q,rest⟩ hz;(try dsimp only at hz);have hz1:=hz.hk;have hz2:=hz.hq;refine ak ?_;refine s_g hG ?_;refine ao ?_ ?_
   ·intro hb1;(try simp only[decide_eq_true_eq] at hb1);obtain⟨i,rfl⟩:∃ i,k=i+1:=⟨k-1,by omega⟩;(have ei:((i+1:Nat):Int)-1=(i:Int):=by omega);rw[ei];have hrsl:=D.rest_len c2 c3 hz.hr;refine aq ?_;refine aj ?_;refine ak ?_;refine ax ?_;refine ck (fun(z:Unit)=>(⟨[(0, .l (.z (.slice (.int .i64)) a)),(1, .l (.z (.slice (.int .i64)) b)),(6, .l (.z (.int .i64) (n:Int))),(7, .l (.ownS 30)),(8, .l (.z (.slice (.int .i64)) (D.limbs (D.R1 a b i).toNat))),(9, .l (.z (.int .i64) (i:Int)))], [(30, .arr (.int .i64) 3 q)]⟩:aa)) (fun z=>True) ?_ ?_
    ·refine ah hG ?_ ?_
     ·(try simp only[ba]);exact⟨⟨by omega,by omega⟩,by unfold Cm.Roomy;omega,(D.cons_limbs c1.1 hp hz.hr).1,by unfold CAP;omega⟩
     show ∃ z,_;refine q_l ?_;rw[D.nth64,(D.cons_limbs c1.1 hp hz.hr).2]
    (rintro⟨⟩ hu;(try dsimp only at hu);have hrl:=D.r1_len (i:=i) c1.1 c2 c3 hn;have hrf:=D.r1_facts (i:=i) c1.1 hp;have hrc:=D.limbs_can (D.R1 a b i).toNat;have hdn:=D.div_next (d:=(D.R1 a b i/D.valL b)) c1.1 c2 c3 hz rfl;refine s_g hG ?_;refine ak ?_;refine s_g hG ?_;refine ax ?_;refine br (fun(z:Nat×Int×Int)=>(⟨[(0, .l (.z (.slice (.int .i64)) a)),(1, .l (.z (.slice (.int .i64)) b)),(6, .l (.z (.int .i64) (n:Int))),(7, .l (.ownS 30)),(8, .l (.z (.slice (.int .i64)) (D.limbs (D.R1 a b i).toNat))),(9, .l (.z (.int .i64) (i:Int))),(10, .l (.z (.int .i64) z.2.1)),(11, .l (.z (.int .i64) z.2.2)),(12, .l (.z (.int .i64) ((z.1:Int)-1)))], [(30, .arr (.int .i64) 3 q)]⟩:aa)) (fun z=>D.TopPhi (D.limbs (D.R1 a b i).toNat) b n z.1 z.2.1 z.2.2) (fun z=>z.1) (n+2,0,0) ?_ ?_ ?_;·refine q_l ?_;rw[wi (by omega) (by omega)];show (n:Int)+1=((n+2:Nat):Int)-1;omega);·exact D.top_start hrl hn
    ·rintro⟨j,top,first⟩ hj;(try dsimp only at hj);have hj1:=hj.hj;refine ak ?_;refine s_g hG ?_;refine ao ?_ ?_
     ·intro hb2;simp only[decide_eq_true_eq] at hb2;rw[hwn] at hb2;obtain⟨j,rfl⟩:∃ j2,j=j2+1:=⟨j-1,by omega⟩;(have ej:((j+1:Nat):Int)-1=(j:Int):=by omega);rw[ej];have htv:=D.top_vals hrc.1 hrl c2.1 hn hj (by omega);refine aq ?_;refine aj ?_;refine ak ?_;refine ax ?_;refine s_g hG ?_;refine ck (fun(z:Unit)=>(⟨[(0, .l (.z (.slice (.int .i64)) a)),(1, .l (.z (.slice (.int .i64)) b)),(6, .l (.z (.int .i64) (n:Int))),(7, .l (.ownS 30)),(8, .l (.z (.slice (.int .i64)) (D.limbs (D.R1 a b i).toNat))),(9, .l (.z (.int .i64) (i:Int))),(10, .l (.z (.int .i64) top)),(11, .l (.z (.int .i64) (D.valL (List.drop j (D.limbs (D.R1 a b i).toNat))))),(12, .l (.z (.int .i64) (j:Int)))], [(30, .arr (.int .i64) 3 q)]⟩:aa)) (fun z=>True) ?_ ?_
      ·refine s_g hG ?_;refine ao ?_ ?_
       ·intro hb3;(try simp only[bt] at hb3);refine ah hG ?_ ?_
        ·(try simp only[ba]);exact⟨by omega,hb3⟩
        show ∃ z,_;refine q_l ?_;first|(rw[D.nth64,htv.1,htv.2.1];exact htv.2.2.2.2.1)|(rw[htv.1];have h9:=htv.2.2.2.2.1;rw[D.getD_none (by omega),Int.add_zero] at h9;exact h9)
       ·intro hb3;(try simp only[bf] at hb3);refine aq ?_;show ∃ z,_;refine q_l ?_;first|(rw[D.nth64,htv.1,htv.2.1];exact htv.2.2.2.2.1)|(rw[htv.1];have h9:=htv.2.2.2.2.1;rw[D.getD_none (by omega),Int.add_zero] at h9;exact h9)
      rintro⟨⟩ hu2;(try dsimp only at hu2);refine s_g hG ?_;refine ao ?_ ?_
      ·intro hb4;(try simp only[bt] at hb4);refine ah hG ?_ ?_
       ·(try simp only[ba]);exact⟨by omega,by omega⟩
       (refine aL ?_;refine aj ?_;refine ah hG ?_ ?_;·first|trivial|omega|(simp;done)|(simp;omega));show ∃ z,_;refine q_l ?_;first|exact⟨j,wi (by omega) (by omega),⟨by omega,by rw[D.nth64,htv.2.2.1,htv.2.2.2.1];exact htv.2.2.2.2.2.1 (by omega),rfl⟩,by omega⟩|exact⟨j,wi (by omega) (by omega),⟨by omega,htv.2.2.2.2.2.2 (by omega),rfl⟩,by omega⟩
      ·(intro hb4;(try simp only[bf] at hb4);refine aq ?_;refine aL ?_;refine aj ?_;refine ah hG ?_ ?_;·first|trivial|omega|(simp;done)|(simp;omega));show ∃ z,_;refine q_l ?_;first|exact⟨j,wi (by omega) (by omega),⟨by omega,by rw[D.nth64,htv.2.2.1,htv.2.2.2.1];exact htv.2.2.2.2.2.1 (by omega),rfl⟩,by omega⟩|exact⟨j,wi (by omega) (by omega),⟨by omega,htv.2.2.2.2.2.2 (by omega),rfl⟩,by omega⟩
     ·intro hb2;simp only[decide_eq_false_iff_not] at hb2;rw[hwn] at hb2;(obtain rfl:j=n-1:=by omega);obtain⟨hs1,hs2,hs3,hs4,hs5⟩:=D.half_start c1.1 c2 c3 hn hj.ht hj.hf;have hqf:=D.quo_facts hs1 hs2 hs3 hs4;refine bh ?_;refine aE ?_;refine az ?_;refine ay ?_;refine aj ?_;refine ck (fun(z:Unit)=>(⟨[(0, .l (.z (.slice (.int .i64)) a)),(1, .l (.z (.slice (.int .i64)) b)),(6, .l (.z (.int .i64) (n:Int))),(7, .l (.ownS 30)),(8, .l (.z (.slice (.int .i64)) (D.limbs (D.R1 a b i).toNat))),(9, .l (.z (.int .i64) (i:Int))),(13, .l (.z (.int .i64) (first/(top+1)))),(14, .l (.z (.int .i64) (first/top)))], [(30, .arr (.int .i64) 3 q)]⟩:aa)) (fun z=>True) ?_ ?_
      ·refine gI hG ?_ ?_
       ·(try simp only[ba]);rw[hqf.1];exact⟨hqf.2.1,hqf.2.2.1⟩
       show ∃ z,_;refine q_l ?_;rw[hqf.1];exact⟨hqf.2.2.2.1,hqf.2.2.2.2⟩
      (rintro⟨⟩ hu3;(try dsimp only at hu3);refine ak ?_;refine ax ?_;refine br (fun(z:Int×Int)=>(⟨[(0, .l (.z (.slice (.int .i64)) a)),(1, .l (.z (.slice (.int .i64)) b)),(6, .l (.z (.int .i64) (n:Int))),(7, .l (.ownS 30)),(8, .l (.z (.slice (.int .i64)) (D.limbs (D.R1 a b i).toNat))),(9, .l (.z (.int .i64) (i:Int))),(13, .l (.z (.int .i64) z.1)),(14, .l (.z (.int .i64) z.2))], [(30, .arr (.int .i64) 3 q)]⟩:aa)) (fun z=>D.HalfPhi (D.R1 a b i/D.valL b) z.1 z.2) (fun z=>(z.2-z.1).toNat) (first/(top+1),first/top) ?_ ?_ ?_;·simp only[ml0,ml1,Nat.reduceLT,Nat.reduceEqDiff,Nat.reduceAdd,Nat.reduceMul,Nat.reduceSub,Nat.reduceLeDiff,Nat.reduceBEq,Nat.reduceBNe,reduceIte,reduceDIte,reduceCtorEq]);·exact hs5
      ·rintro⟨low,high⟩ hh;(try dsimp only at hh);refine ak ?_;refine s_g hG ?_;refine ao ?_ ?_
       ·intro hb5;(try simp only[decide_eq_true_eq] at hb5);have hhm:=D.half_mid hh hb5;refine aq ?_;refine aj ?_;refine ax ?_;refine ck (fun(z:Int)=>(⟨[(0, .l (.z (.slice (.int .i64)) a)),(1, .l (.z (.slice (.int .i64)) b)),(6, .l (.z (.int .i64) (n:Int))),(7, .l (.ownS 30)),(8, .l (.z (.slice (.int .i64)) (D.limbs (D.R1 a b i).toNat))),(9, .l (.z (.int .i64) (i:Int))),(13, .l (.z (.int .i64) low)),(14, .l (.z (.int .i64) high)),(15, .l (.z (.int .i64) z))], [(30, .arr (.int .i64) 3 q)]⟩:aa)) (fun z=>z=(low+high+1)/2) ?_ ?_
        ·refine ah hG ?_ ?_
         ·(try simp only[ba]);decide
         show ∃ z,_;refine q_l ?_;exact hhm.1
        rintro mid hmid;(try dsimp only at hmid);(have hmm:low<mid/\mid<=high:=by rw[hmid];exact⟨hhm.2.1,hhm.2.2.1⟩);have hm0:0<=mid:=Int.le_trans hh.h0 (Int.le_of_lt hmm.1);have hmB:mid<=D.LB:=Int.le_trans hmm.2 hh.h3;have hht:=D.half_test (v:=D.R1 a b i) (mid:=mid) c2.1 hp hrf.1 hm0;have hol:=D.one_len c2.1 hm0 hmB;refine s_q hG ?_ ?_
        ·(try simp only[ba]);exact⟨⟨c2.1,D.wid_one hm0 hmB,by unfold CAP;omega⟩,D.limbs_can _,hrc,by unfold CAP;omega,by unfold CAP;omega⟩
        refine ao ?_ ?_
        ·(intro hb6;(try simp only[bt] at hb6);refine ah hG ?_ ?_;·first|trivial|omega|(simp;done)|(simp;omega));refine aL ?_;show ∃ z,_;refine q_l ?_;first|exact D.half_up hh hmm (hht.1 hb6)|(rw[show IntKind.i64.wrap (mid-1)=mid-1 by rw[hmid];exact hhm.2.2.2];exact D.half_down hh hmm (fun h=>hb6 (hht.2 h)))
        ·(intro hb6;(try simp only[bf] at hb6);refine ah hG ?_ ?_;·first|trivial|omega|(simp;done)|(simp;omega));refine aL ?_;show ∃ z,_;refine q_l ?_;first|exact D.half_up hh hmm (hht.1 hb6)|(rw[show IntKind.i64.wrap (mid-1)=mid-1 by rw[hmid];exact hhm.2.2.2];exact D.half_down hh hmm (fun h=>hb6 (hht.2 h)))
       ·intro hb5;simp only[decide_eq_false_iff_not] at hb5;have hle:=D.half_end hh hb5;subst hle;have hol:=D.one_len c2.1 hdn.1 (Int.le_of_lt hdn.2.1);have hrm:=D.rest_minus (i:=i) c1.1 c2 c3;refine bh ?_;refine aE ?_;refine az ?_;refine ay ?_;refine aj ?_;refine s_q hG ?_ ?_
        ·(try simp only[ba]);exact⟨⟨by omega,by omega⟩,by omega⟩
        refine s_g hG ?_;refine ao ?_ ?_
        ·intro hb7;(try simp only[bt] at hb7);refine ah hG ?_ ?_
         ·(try simp only[ba]);exact⟨⟨c2.1,D.wid_one hdn.1 (Int.le_of_lt hdn.2.1),by unfold CAP;omega⟩,hrc,D.limbs_can _,hrm.1,by unfold CAP;omega⟩
         (refine aL ?_;refine aj ?_;refine ah hG ?_ ?_;·first|trivial|omega|(simp;done)|(simp;omega));show ∃ z,_;refine q_l ?_;have hdx:=hdn.2.2;first|(rw[<- hrm.2] at hdx;exact⟨i,wi (by omega) (by omega),by rw[Int.toNat_natCast];exact hdx,by omega⟩)|(rw[<- D.rest_zero c1.1 c2 c3 hb7] at hdx;exact⟨i,wi (by omega) (by omega),by rw[Int.toNat_natCast];exact hdx,by omega⟩)
        ·(intro hb7;(try simp only[bf] at hb7);refine aq ?_;refine aL ?_;refine aj ?_;refine ah hG ?_ ?_;·first|trivial|omega|(simp;done)|(simp;omega));show ∃ z,_;refine q_l ?_;have hdx:=hdn.2.2;first|(rw[<- hrm.2] at hdx;exact⟨i,wi (by omega) (by omega),by rw[Int.toNat_natCast];exact hdx,by omega⟩)|(rw[<- D.rest_zero c1.1 c2 c3 hb7] at hdx;exact⟨i,wi (by omega) (by omega),by rw[Int.toNat_natCast];exact hdx,by omega⟩)
   ·intro hb1;simp only[decide_eq_false_iff_not] at hb1;(obtain rfl:k=0:=by omega);have hde:=D.div_end hz;refine bh ?_;refine aE ?_;refine az ?_;refine ay ?_;refine aj ?_;refine s_q hG ?_ ?_
    ·(try simp only[ba]);exact⟨hz.hl,by unfold CAP;omega⟩
    refine av ?_;refine q_e [23] ?_;exact hde
def yi(B:ag):Tab:={types:= [(3,(.int .i64)),(4, .bool),(9, .str),(181,(.slice (.int .i64)))],elems:= [],cons:= [(126,pR),(155,eZ),(156,gM),(157,cV),(158,fg),(159,xW),(160,iq),(161,lX)],hint:= [],N:=53,base:=B}
theorem F1{B:ag}(hB:aB B):aG Tryz.prog (yi B):=⟨⟨tc ty3 (tc ty4 (tc ty9 (tc jG (ae)))),af,by simp only[yi,ioB];omega⟩,aD (cc Tryz.func126 (lB hB) (cc Tryz.func155 (nJ hB) (cc Tryz.func156 (lz hB) (cc Tryz.func157 (lu hB) (cc Tryz.func158 (lA hB) (cc Tryz.func159 (L8 hB) (cc Tryz.func160 (Ax hB) (cc Tryz.func161 (Ay hB) (au))))))))),by kernel_rfl⟩
def wx:Con:=fun l os=>match l,os with
 | [.z .str a, .z .str b], []=>some (RS 20000000000 a/\RS 20000000000 b, [.z .str (Lib.itoa (an a+an b))], [])
 |_,_=>none
theorem AF{B:ag}(hB:aB B):Valid B Tryz.prog 115 wx:=by
 refine ab (F1 hB).tab Tryz.func115 rfl rfl rfl ?_;intro args os C rs os' hc hC;unfold wx at hc;split at hc;case h_2=>cases hc
 rename_i a b;cases hc;refine v_h (F1 hB) fun X hP hT hr hG=> ?_;have hU:=yi.eq_1;unfold yi at hT;have hX:=ai @iq.eq_1<|ai @eZ.eq_1<|ai @lX.eq_1<|ai @cV.eq_1<|ai @pR.eq_1<|ai @xW.eq_1<|ai @gM.eq_1<| @fg.eq_1;simp only[Tryz.f115,aC,al,ioB];refine s_g hG ?_;refine ak ?_;refine s_q hG ?_ ?_
 ·try simp only[ba]
  exact⟨hC.1.1,hC.2.1,(hC.1.cap (by omega)).2,(hC.2.cap (by omega)).2⟩
 refine s_g hG ?_;refine ao ?_ ?_
 ·intro hb0;simp only[decide_eq_true_eq] at hb0;have hsm:=tJ hC.1.1 hC.2.1 hb0;rw[if_pos hb0,if_pos hb0];refine s_q hG ?_ ?_
  ·(try simp only[ba]);rw[hsm.1];exact hsm.2.1
  refine av ?_;refine aw ?_;refine q_e [] ?_;rw[hsm.1]
 ·intro hb0;have ha:=hC.1.cap (by omega);have hb:=hC.2.cap (by omega);have la:=dU hC.1;have lb:=dU hC.2;have hle:=EJ hC.1 hC.2;have hcap:CAP=1000000000000:=rfl;refine aq ?_;refine aj ?_;refine s_q hG ?_ ?_
  ·(try simp only[ba]);exact⟨ha,hb⟩
  refine ak ?_;refine s_q hG ?_ ?_
  ·(try simp only[ba]);exact⟨ha.1,hb.1⟩
  refine ao ?_ ?_
  ·intro hb1;(try simp only[bt] at hb1);refine s_q hG ?_ ?_
   ·(try simp only[ba]);exact⟨ha.1,⟨la.1,lb.1,by omega,by omega⟩,D.limbs_can _,hle.1⟩
   refine av ?_;refine aw ?_;refine q_e [] ?_;exact Hk hb1
  ·intro hb1;(try simp only[bf] at hb1);refine aq ?_;refine aj ?_;refine ak ?_;refine s_q hG ?_ ?_
   ·(try simp only[ba]);exact⟨la.1,lb.1,by omega,by omega⟩
   refine ao ?_ ?_
   ·intro hb2;(try simp only[bt] at hb2);refine s_q hG ?_ ?_
    ·(try simp only[ba]);have hge:=EK hb1 hb2;exact⟨ha.1,⟨la.1,lb.1,hge.1,by omega⟩,D.limbs_can _,hle.2.1⟩
    refine av ?_;refine aw ?_;refine q_e [] ?_;exact(EK hb1 hb2).2
   ·intro hb2;(try simp only[bf] at hb2);refine aq ?_;refine aj ?_;refine s_q hG ?_ ?_
    ·(try simp only[ba]);have hlt:=EL hb1 hb2;exact⟨hb.1,⟨lb.1,la.1,hlt.1,by omega⟩,D.limbs_can _,hle.2.2.1⟩
    refine av ?_;refine q_e [] ?_;exact(EL hb1 hb2).2
def yj(B:ag):Tab:={types:= [(9, .str)],elems:= [],cons:= [(115,wx),(163,wv)],hint:= [],N:=9,base:=B}
theorem F2{B:ag}(hB:aB B):aG Tryz.prog (yj B):=⟨⟨tc ty9 (ae),af,by simp only[yj,ioB];omega⟩,aD (cc Tryz.func115 (AF hB) (cc Tryz.func163 (AD hB) (au))),by kernel_rfl⟩
def F3:Con:=fun l os=>match l,os with
 | [.z .str a, .z .str b], []=>some (RS 10000000000 a/\RS 10000000000 b, [.z .str (Lib.itoa (an a-an b))], [])
 |_,_=>none
theorem Mx{B:ag}(hB:aB B):Valid B Tryz.prog 123 F3:=by
 refine ab (F2 hB).tab Tryz.func123 rfl rfl rfl ?_;intro args os C rs os' hc hC;unfold F3 at hc;split at hc;case h_2=>cases hc
 rename_i a b;cases hc;refine v_h (F2 hB) fun X hP hT hr hG=> ?_;have hU:=yj.eq_1;unfold yj at hT;have hX:=ai @wx.eq_1<| @wv.eq_1;simp only[Tryz.f123,aC,al,ioB];refine s_g hG ?_;refine s_q hG ?_ ?_
 ·try simp only[ba]
  have h2:=hC.2.2;exact⟨⟨hC.2.1,by have hcap:CAP=1000000000000:=rfl;omega⟩,hC.1.up (by omega),(Pw hC.2).1.up (by omega)⟩
 refine av ?_;refine q_e [] ?_;exact Nt
def yk(B:ag):Tab:={types:= [(3,(.int .i64)),(4, .bool),(9, .str),(181,(.slice (.int .i64)))],elems:= [],cons:= [(126,pR),(155,eZ),(156,gM),(157,cV),(158,fg),(164,lY)],hint:= [],N:=31,base:=B}
theorem F4{B:ag}(hB:aB B):aG Tryz.prog (yk B):=⟨⟨tc ty3 (tc ty4 (tc ty9 (tc jG (ae)))),af,by simp only[yk,ioB];omega⟩,aD (cc Tryz.func126 (lB hB) (cc Tryz.func155 (nJ hB) (cc Tryz.func156 (lz hB) (cc Tryz.func157 (lu hB) (cc Tryz.func158 (lA hB) (cc Tryz.func164 (Az hB) (au))))))),by kernel_rfl⟩
def pK:Con:=fun l os=>match l,os with
 | [.z .str a, .z .str b], []=>some (RS 20000000000 a/\RS 20000000000 b, [.z .str (Lib.itoa (an a*an b))], [])
 |_,_=>none
theorem uE{B:ag}(hB:aB B):Valid B Tryz.prog 117 pK:=by
 refine ab (F4 hB).tab Tryz.func117 rfl rfl rfl ?_;intro args os C rs os' hc hC;unfold pK at hc;split at hc;case h_2=>cases hc
 rename_i a b;cases hc;refine v_h (F4 hB) fun X hP hT hr hG=> ?_;have hU:=yk.eq_1;unfold yk at hT;have hX:=ai @eZ.eq_1<|ai @cV.eq_1<|ai @pR.eq_1<|ai @gM.eq_1<|ai @lY.eq_1<| @fg.eq_1;simp only[Tryz.f117,aC,al,ioB];refine s_g hG ?_;refine ak ?_;refine s_q hG ?_ ?_
 ·try simp only[ba]
  exact⟨hC.1.1,hC.2.1,(hC.1.cap (by omega)).2,(hC.2.cap (by omega)).2⟩
 refine s_g hG ?_;refine ao ?_ ?_
 ·intro hb0;simp only[decide_eq_true_eq] at hb0;have hsm:=tJ hC.1.1 hC.2.1 hb0;rw[if_pos hb0,if_pos hb0];refine s_q hG ?_ ?_
  ·(try simp only[ba]);rw[hsm.2.2.1];exact hsm.2.2.2
  refine av ?_;refine aw ?_;refine q_e [] ?_;rw[hsm.2.2.1]
 ·intro hb0;have ha:=hC.1.cap (by omega);have hb:=hC.2.cap (by omega);have la:=dU hC.1;have lb:=dU hC.2;have hle:=EJ hC.1 hC.2;have hcap:CAP=1000000000000:=rfl;refine aq ?_;refine aj ?_;refine s_q hG ?_ ?_
  ·(try simp only[ba]);exact⟨ha.1,hb.1,ha,hb,⟨la.1.1,lb.1.1.wid,by omega⟩,D.limbs_can _,hle.2.2.2⟩
  refine av ?_;refine q_e [] ?_;exact Nu
def yl(B:ag):Tab:={types:= [(3,(.int .i64)),(4, .bool),(9, .str),(181,(.slice (.int .i64)))],elems:= [],cons:= [(117,pK),(123,F3),(126,pR),(155,eZ),(156,gM),(157,cV),(158,fg),(165,jO)],hint:= [],N:=78,base:=B}
theorem F5{B:ag}(hB:aB B):aG Tryz.prog (yl B):=⟨⟨tc ty3 (tc ty4 (tc ty9 (tc jG (ae)))),af,by simp only[yl,ioB];omega⟩,aD (cc Tryz.func117 (uE hB) (cc Tryz.func123 (Mx hB) (cc Tryz.func126 (lB hB) (cc Tryz.func155 (nJ hB) (cc Tryz.func156 (lz hB) (cc Tryz.func157 (lu hB) (cc Tryz.func158 (lA hB) (cc Tryz.func165 (AE hB) (au))))))))),by kernel_rfl⟩
def F6:Con:=fun l os=>match l,os with
 | [.z .str a, .z .str b], []=>some (RS 1000000000 a/\RS 1000000000 b/\an b≠0, [.z .str (Lib.itoa (bN (an a) (an b))), .z .str (Lib.itoa (jl (an a) (an b)))], [])
 |_,_=>none
theorem My{B:ag}(hB:aB B):Valid B Tryz.prog 121 F6:=by
 refine ab (F5 hB).tab Tryz.func121 rfl rfl rfl ?_;intro args os C rs os' hc hC;unfold F6 at hc;split at hc;case h_2=>cases hc
 rename_i a b;cases hc;refine v_h (F5 hB) fun X hP hT hr hG=> ?_;have hU:=yl.eq_1;unfold yl at hT;have hX:=ai @jO.eq_1<|ai @eZ.eq_1<|ai @pK.eq_1<|ai @cV.eq_1<|ai @pR.eq_1<|ai @gM.eq_1<|ai @F3.eq_1<| @fg.eq_1;simp only[Tryz.f121,aC,al,ioB];refine s_g hG ?_;refine ak ?_;refine s_q hG ?_ ?_
 ·try simp only[ba]
  exact⟨hC.1.1,hC.2.1.1,(hC.1.cap (by omega)).2,(hC.2.1.cap (by omega)).2⟩
 refine s_g hG ?_;refine ao ?_ ?_
 ·intro hb0;simp only[decide_eq_true_eq] at hb0;rw[if_pos hb0,if_pos hb0];have hsm:=De hC.1.1 hC.2.1.1 hb0 hC.2.2;refine s_q hG ?_ ?_
  ·(try simp only[ba]);exact hC.2.2
  refine ck (fun(z:Unit)=>(⟨[(0, .l (.z .str a)),(1, .l (.z .str b)),(6, .l (.z (.int .i64) (an a))),(7, .l (.z (.int .i64) (an b))),(9, .l (.z (.int .i64) (bN (an a) (an b))))], []⟩:aa)) (fun z=>True) ?_ ?_
  ·refine s_q hG ?_ ?_
   ·(try simp only[ba]);exact⟨hC.2.2,fun h=>h⟩
   refine ao ?_ ?_
   ·(intro hb1;(try simp only[bt] at hb1);refine ah hG ?_ ?_;·first|trivial|omega|(simp;done)|(simp;omega));show ∃ z,_;refine q_l ?_;first|exact hsm.1 hb1|exact hsm.2.1 hb1
   ·intro hb1;(try simp only[bf] at hb1);refine aq ?_;show ∃ z,_;refine q_l ?_;first|exact hsm.1 hb1|exact hsm.2.1 hb1
  rintro⟨⟩ hu;try dsimp only at hu
  refine s_q hG ?_ ?_
  ·(try simp only[ba]);rw[hsm.2.2.2.1];exact⟨hsm.2.2.1,hsm.2.2.2.2⟩
  refine av ?_;refine aw ?_;refine q_e [] ?_;rw[hsm.2.2.2.1]
 ·intro hb0;obtain⟨c1,c2,c3⟩:=hC;have ha:=c1.cap (by omega);have hb:=c2.cap (by omega);have la:=dU c1;have lb:=dU c2;have hln:=Kv (an a) (an b);have hrq:=Qg (b:=b) c1 c3;have hrm:=Qh c1 c2 c3;have hcap:CAP=1000000000000:=rfl;have hqf:=tK (x:=an a) c3;refine aq ?_;refine aj ?_;refine s_q hG ?_ ?_
  ·(try simp only[ba]);exact⟨ha,hb,la.1,lb.1,D.ne_limbs c3,by omega⟩
  refine s_q hG ?_ ?_
  ·(try simp only[ba]);exact⟨ha.1,hb.1,D.limbs_can _,by omega⟩
  refine ck (fun(z:Unit)=>(⟨[(0, .l (.z .str a)),(1, .l (.z .str b)),(12, .l (.z .str (Lib.itoa (bN (an a) (an b)))))], []⟩:aa)) (fun z=>True) ?_ ?_
  ·refine s_q hG ?_ ?_
   ·(try simp only[ba]);exact⟨fun h=>⟨h,c1.1⟩,fun h=>⟨h,c2.1⟩,fun h=>h⟩
   refine ao ?_ ?_
   ·intro hb2;(try simp only[bt] at hb2);refine ah hG ?_ ?_
    ·(try simp only[ba]);exact⟨hrq.1.up (by omega),Dd.1.up (by omega)⟩
    show ∃ z,_;refine q_l ?_;rw[vE] at hb2;first|(rw[<- hqf.2.1 hb2,Dd.2,(bd _).2];rfl)|(rw[<- hqf.2.2 hb2];rfl)
   ·intro hb2;(try simp only[bf] at hb2);refine aq ?_;show ∃ z,_;refine q_l ?_;rw[vE] at hb2;first|(rw[<- hqf.2.1 hb2,Dd.2,(bd _).2];rfl)|(rw[<- hqf.2.2 hb2];rfl)
  rintro⟨⟩ hu2;try dsimp only at hu2
  refine s_q hG ?_ ?_
  ·(try simp only[ba]);rw[(bd _).2];exact⟨⟨hrq.2.up (by omega),c2.up (by omega)⟩,c1.up (by omega),hrm.up (by omega)⟩
  refine av ?_;refine q_e [] ?_;rw[(bd _).2,(bd _).2,Int.mul_comm];rfl
def ym(B:ag):Tab:={types:= [(3,(.int .i64)),(4, .bool),(9, .str),(181,(.slice (.int .i64)))],elems:= [],cons:= [(126,pR),(155,eZ),(156,gM),(158,fg),(165,jO)],hint:= [],N:=50,base:=B}
theorem F7{B:ag}(hB:aB B):aG Tryz.prog (ym B):=⟨⟨tc ty3 (tc ty4 (tc ty9 (tc jG (ae)))),af,by simp only[ym,ioB];omega⟩,aD (cc Tryz.func126 (lB hB) (cc Tryz.func155 (nJ hB) (cc Tryz.func156 (lz hB) (cc Tryz.func158 (lA hB) (cc Tryz.func165 (AE hB) (au)))))),by kernel_rfl⟩
def F8:Con:=fun l os=>match l,os with
 | [.z .str a, .z .str b], []=>some (RS 1000000000 a/\RS 1000000000 b, [.z .str (Lib.itoa (cC (an a) (an b)))], [])
 |_,_=>none
theorem Mz{B:ag}(hB:aB B):Valid B Tryz.prog 122 F8:=by
 refine ab (F7 hB).tab Tryz.func122 rfl rfl rfl ?_;intro args os C rs os' hc hC;unfold F8 at hc;split at hc;case h_2=>cases hc
 rename_i a b;cases hc;refine v_h (F7 hB) fun X hP hT hr hG=> ?_;have hU:=ym.eq_1;unfold ym at hT;have hX:=ai @jO.eq_1<|ai @eZ.eq_1<|ai @pR.eq_1<|ai @gM.eq_1<| @fg.eq_1;simp only[Tryz.f122,aC,al,ioB];refine s_g hG ?_;refine ak ?_;refine s_q hG ?_ ?_
 ·try simp only[ba]
  exact⟨hC.1.1,hC.2.1,(hC.1.cap (by omega)).2,(hC.2.cap (by omega)).2⟩
 refine s_g hG ?_;refine ao ?_ ?_
 ·intro hb0;simp only[decide_eq_true_eq] at hb0;rw[if_pos hb0,if_pos hb0];have ha:=ij hC.1.1 hb0.1;have hb:=ij hC.2.1 hb0.2;refine ak ?_;refine ax ?_;refine br (fun(z:Int×Int)=>(⟨[(0, .l (.z .str a)),(1, .l (.z .str b)),(5, .l (.z (.int .i64) z.1)),(6, .l (.z (.int .i64) z.2))], []⟩:aa)) (fun z=>vF (cC (an a) (an b)) z.1 z.2) (fun z=>z.2.natAbs) (an a,an b) ?_ ?_ ?_;·simp only[ml0,ml1,Nat.reduceLT,Nat.reduceEqDiff,Nat.reduceAdd,Nat.reduceMul,Nat.reduceSub,Nat.reduceLeDiff,Nat.reduceBEq,Nat.reduceBNe,reduceIte,reduceDIte,reduceCtorEq]
  ·exact Kx ha hb
  ·rintro⟨x,y⟩ hz;(try dsimp only at hz);refine ak ?_;refine s_g hG ?_;refine ao ?_ ?_
   ·intro hb1;(try simp only[bt] at hb1);refine aq ?_;refine aj ?_;refine ax ?_;refine s_q hG ?_ ?_
    ·(try simp only[ba]);exact hb1
    (refine s_g hG ?_;refine ah hG ?_ ?_;·first|trivial|omega|(simp;done)|(simp;omega));refine aL ?_;show ∃ z,_;refine q_l ?_;exact Nv hz hb1
   ·intro hb1;(try simp only[bf] at hb1);refine bh ?_;refine aE ?_;refine az ?_;refine ay ?_;refine aj ?_;refine s_q hG ?_ ?_
    ·(try simp only[ba]);subst hb1;exact(Kz hz).1
    refine av ?_;refine aw ?_;refine q_e [] ?_;subst hb1;rw[(Kz hz).2]
 ·intro hb0;obtain⟨c1,c2⟩:=hC;have ha:=c1.cap (by omega);have hb:=c2.cap (by omega);have la:=dU c1;have lb:=dU c2;have hcap:CAP=1000000000000:=rfl;refine aq ?_;refine aj ?_;refine s_q hG ?_ ?_
  ·(try simp only[ba]);exact⟨ha,hb⟩
  refine ak ?_;refine ax ?_;refine br (fun(z:List Int×List Int)=>(⟨[(9, .l (.z (.slice (.int .i64)) z.1)),(10, .l (.z (.slice (.int .i64)) z.2))], []⟩:aa)) (fun z=>zJ (cC (an a) (an b)) z.1 z.2) (fun z=>(D.valL z.2).natAbs) (D.limbs (an a).natAbs,D.limbs (an b).natAbs) ?_ ?_ ?_;·simp only[ml0,ml1,Nat.reduceLT,Nat.reduceEqDiff,Nat.reduceAdd,Nat.reduceMul,Nat.reduceSub,Nat.reduceLeDiff,Nat.reduceBEq,Nat.reduceBNe,reduceIte,reduceDIte,reduceCtorEq]
  ·exact Ky c1 c2
  ·rintro⟨x,y⟩ hz;(try dsimp only at hz);refine ak ?_;refine s_g hG ?_;refine ao ?_ ?_
   ·intro hb2;(try simp only[bt] at hb2);refine aq ?_;refine aj ?_;refine ax ?_;refine s_q hG ?_ ?_
    ·(try simp only[ba]);have lx:=hz.lx;have ly:=hz.ly;exact⟨hz.hx,hz.hy,(by rintro rfl;simp at hb2),by omega⟩
    (refine s_g hG ?_;refine ah hG ?_ ?_;·first|trivial|omega|(simp;done)|(simp;omega));refine aL ?_;show ∃ z,_;refine q_l ?_;exact Nw hz hb2
   ·intro hb2;(try simp only[bf] at hb2);refine bh ?_;refine aE ?_;refine az ?_;refine ay ?_;refine aj ?_;refine s_q hG ?_ ?_
    ·(try simp only[ba]);have lx:=hz.lx;exact⟨hz.hx,by omega⟩
    refine av ?_;refine q_e [] ?_;rw[Py hz hb2]
end Go.Proofs.YtdojbabpnaifoaaGreatDoor
end