/- Merged by a program out of several texts. -/
import Derived.Test.YtdojbabpnaifoaaGreatDoorK3
import Derived.Lib.Repeat
import Derived.Test.YtdojbabpnaifoaaGreatDoorK2
import Derived.Test.YtdojbabpnaifoaaGreatDoorProg
import Derived.Deep.LoopGhost
import Derived.Lib.Walk
import Derived.Lib.SliceRun
import Derived.KernelRfl
set_option linter.all false
set_option linter.unusedSimpArgs false
set_option linter.unusedVariables false
set_option maxRecDepth 100000
section
namespace Go.Cm
open Go.Proofs
def Den(b:Nat)(l:List Rat):Prop:=∃ D:Int,D≠0/\lw D<=b/\∀ i,∃ n:Int,lw n<=b/\cf l i=Rat.divInt n D
theorem Den.mono{b c:Nat}{l:List Rat}(h:Den b l)(hc:b<=c):Den c l:=by
 obtain⟨D,h1,h2,h3⟩:=h;exact⟨D,h1,by omega,fun i=>by obtain⟨n,a,e⟩:=h3 i;exact⟨n,by omega,e⟩⟩
theorem Den.lq{b:Nat}{l:List Rat}(h:Den b l):∀ x∈l,lq x<=b:=by
 obtain⟨D,h1,h2,h3⟩:=h;intro x hx;obtain⟨i,hi,rfl⟩:=List.getElem_of_mem hx;obtain⟨n,a,e⟩:=h3 i;unfold cf at e;rw[List.getD_eq_getElem?_getD,List.getElem?_eq_getElem hi] at e;simp only[Option.getD_some] at e;rw[e];have:=qC n D h1;omega
theorem Den.sz{b k:Nat}{l:List Rat}(h:Den b l)(hk:b<=k):Sz k (ar l):=eE fun x hx=>Nat.le_trans (h.lq x hx) hk
theorem Da{b:Nat}{l m:List Rat}(h:Den b l)(he:∀ i,cf m i=cf l i):Den b m:=by
 obtain⟨D,h1,h2,h3⟩:=h;exact⟨D,h1,h2,fun i=>by rw[he];exact h3 i⟩
theorem lT{b:Nat}{l:List Rat}(h:Den b l):Den b (aS l):=Da h fun i=>A1 l i
theorem lU{b:Nat}(hb:1<=b):Den b []:=⟨1,by decide,by rw[qB];exact hb,fun i=>⟨0,by rw[ja];omega,by rw[Rat.zero_divInt];simp[cf]⟩⟩
theorem Den.pos{b:Nat}{l:List Rat}(h:Den b l):1<=b:=by
 obtain⟨D,h1,h2,_⟩:=h;have:lw D≠0:=fun e=>by have:=nt D;rw[e] at this;simp at this;omega
 omega
theorem sU{n D:Int}(hD:D≠0)(h:Rat.divInt n D≠0):n≠0:=fun e=>h (by rw[e,Rat.zero_divInt])
theorem FN(a b:Int):lw (a-b)<=max (lw a) (lw b)+1:=by
 have:=ux a (-b);rw[E5] at this;exact this
theorem re{b c:Nat}{q r:List Rat}(hr:Den b r)(hq:Den c q)(hl:q.length<=r.length)(h0:ay q≠0)(hp:0<q.length):Den (b+c+1) (aS (b8 q r)):=by
 refine lT ?_;obtain⟨D,d1,d2,d3⟩:=hr;obtain⟨E,e1,e2,e3⟩:=hq;obtain⟨R,r1,r2⟩:=d3 (r.length-1);obtain⟨Q,q1,q2⟩:=e3 (q.length-1);rw[<- b4 (by omega)] at r2;rw[<- b4 hp] at q2;have hQ:Q≠0:=sU e1 (by rw[<- q2];exact h0);have hDQ:D*Q≠0:=Int.mul_ne_zero d1 hQ;refine⟨D*Q,hDQ,by have:=cj D Q;omega,fun i=> ?_⟩;unfold b8;rw[jc _ _ _ _ _ _ (by omega)];obtain⟨n,n1,n2⟩:=d3 i;split
 ·obtain⟨m,m1,m2⟩:=e3 (i-(r.length-q.length));refine⟨n*Q-R*m,?_,?_⟩;·have:=cj n Q;have:=cj R m;have:=FN (n*Q) (R*m);omega
  ·rw[n2,m2,r2,q2];simp only[Rat.divInt_eq_div,Rat.intCast_mul,Rat.intCast_sub];(have f1:(D:Rat)≠0:=by simpa using d1);(have f2:(E:Rat)≠0:=by simpa using e1);(have f3:(Q:Rat)≠0:=by simpa using hQ);generalize (D:Rat)=D' at*;generalize (E:Rat)=E' at*;generalize (Q:Rat)=Q' at*;grind
 ·refine⟨n*Q,by have:=cj n Q;omega,?_⟩;rw[n2,Rat.divInt_mul_right hQ]
theorem sV{b:Nat}{l:List Rat}(h:Den b l)(ht:Trm l):Den b (cD l):=by
 by_cases hn:l= []
 ·subst hn;exact h
 have hp:=List.length_pos_iff.2 hn;obtain⟨D,d1,d2,d3⟩:=h;obtain⟨R,r1,r2⟩:=d3 (l.length-1);rw[<- b4 hp] at r2;have hR:R≠0:=sU d1 (by rw[<- r2];exact ht hn);refine⟨R,hR,r1,fun i=> ?_⟩;obtain⟨n,n1,n2⟩:=d3 i;refine⟨n,n1,?_⟩;have:cf (cD l) i=cf l i/ay l:=by
  unfold cD cf;simp only[List.getD_eq_getElem?_getD,List.getElem?_map];cases l[i]? with
  |none=>simp;grind
  |some x=>rfl
 rw[this,n2,r2];simp only[Rat.divInt_eq_div];have f1:(D:Rat)≠0:=by simpa using d1
 have f3:(R:Rat)≠0:=by simpa using hR
 generalize (D:Rat)=D' at*;generalize (R:Rat)=R' at*;grind
theorem xc{c:Nat}{q:List Rat}(hq:Den c q)(hp:0<q.length)(h0:ay q≠0):∀ (n:Nat) (r s:List Rat) (b:Nat),Den b r->Den (b+(r.length+1-q.length)*(c+1)) (en q n r s).2
 |0,r,s,b,h=>h.mono (by omega)
 |n+1,r,s,b,h=>by
  rw[en];split;·rename_i hl;have h1:=eF hp hl h0;refine(xc hq hp h0 n _ _ _ (re h hq hl h0 hp)).mono ?_;(have h2:(aS (b8 q r)).length+1-q.length+1<=r.length+1-q.length:=by omega);have h3:=Nat.mul_le_mul_right (c+1) h2;rw[Nat.add_mul] at h3;omega
  ·exact h.mono (by omega)
theorem uU{c:Nat}{q:List Rat}(hq:Den c q)(hp:0<q.length)(h0:ay q≠0):∀ (n:Nat) (r:List Rat) (b:Nat),Den b r->b+(r.length+1-q.length)*(c+1)<=QD->qW q n r
 |0,r,b,h,hb=>trivial
 |n+1,r,b,h,hb=>by
  refine⟨fun x hx=>by have:=h.lq x hx;omega,fun hl=> ?_⟩;have h1:=eF hp hl h0;refine uU hq hp h0 n _ _ (re h hq hl h0 hp) ?_;have h2:(aS (b8 q r)).length+1-q.length+1<=r.length+1-q.length:=by omega
  have h3:=Nat.mul_le_mul_right (c+1) h2;rw[Nat.add_mul] at h3;omega
theorem FO{c K:Nat}{q:List Rat}(hq:Den c q)(hp:0<q.length)(h0:ay q≠0):∀ (n:Nat) (r s:List Rat) (b:Nat),Den b r->(∀ x∈s,lq x<=K)->b+(r.length+1-q.length)*(c+1)<=K->∀ x∈(en q n r s).1,lq x<=K
 |0,r,s,b,h,hs,hb=>hs
 |n+1,r,s,b,h,hs,hb=>by
  rw[en];split
  ·(rename_i hl;have h1:=eF hp hl h0;(have h2:(aS (b8 q r)).length+1-q.length+1<=r.length+1-q.length:=by omega);have h3:=Nat.mul_le_mul_right (c+1) h2;rw[Nat.add_mul] at h3;refine FO hq hp h0 n _ _ _ (re h hq hl h0 hp) ?_ (by omega);intro x hx;rcases List.mem_or_eq_of_mem_set hx with hx|rfl;·exact hs x hx);·have h4:=uA (ay r) (ay q);have h5:=h.lq (ay r) (by rw[b4 (by omega)];exact qR (by omega));have h6:=hq.lq (ay q) (by rw[b4 hp];exact qR (by omega));omega
  ·exact hs
theorem zL{p q:List ND}{b c:Nat}(hp:∀ x∈p,NOK x)(hq:∀ x∈q,NOK x)(dp:Den b (ae p))(dq:Den c (ae q))(l1:p.length<=900)(l2:q.length<=900)(hn:0<q.length)(tq:Trm (ae q))
  (hb:b+(p.length+1-q.length)*(c+1)<=QD) (hc:c<=QD):fh p q:=by
 have hQ:QD<=QC:=by unfold QD QC;omega
 have hne:ae q≠ []:=fun e=>by have:=congrArg List.length e;rw[aD,List.length_nil] at this;omega
 have hln:0<(ae q).length:=by rw[aD];exact hn
 refine⟨hp,?_,l1,l2,hn,tq hne,uU dq hln (tq hne) _ _ _ dp (by rw[aD,aD];exact hb)⟩;have:=dq.sz hc;rwa [uL hq] at this
theorem nQ{p q:List Rat}{b c K:Nat}(dp:Den b p)(dq:Den c q)(hn:q≠ [])(tq:Trm q)(hb:b+(p.length+1-q.length)*(c+1)<=K)(hK:1<=K):(∀ x∈(divN p q).1,lq x<=K)/\Den K (divN p q).2:=by
 unfold divN;refine⟨FO dq (List.length_pos_iff.2 hn) (tq hn) _ _ _ _ dp (fun x hx=> ?_) hb,(xc dq (List.length_pos_iff.2 hn) (tq hn) _ _ _ _ dp).mono hb⟩;rw[(List.mem_replicate.1 hx).2];exact Nat.le_trans kj hK
theorem rf(q:List Rat):∀ (n:Nat) (r s:List Rat),(en q n r s).1.length=s.length
 |0,_,_=>rfl
 |n+1,r,s=>by
  rw[en];split;·rw[rf q n,List.length_set]
  ·rfl
theorem iG(p q:List Rat):(divN p q).1.length=p.length+1-q.length:=by
 unfold divN;rw[rf];simp
theorem sW:∀ t:Nat,t+3<=3^(t+1)
 |0=>by decide
 |t+1=>by have:=sW t;rw[Nat.pow_succ];omega
theorem xd:∀ (n:Nat) (p q:List Rat) (b:Nat),Den b p->Den b q->Trm p->Trm q->q.length<n->(b+1)*(p.length+1-q.length+1)*3^q.length<=QD->qX n p q/\Den ((b+1)*(p.length+1-q.length+1)*3^q.length) (de n p q)
 |0,p,q,b,_,_,_,_,h,_=>absurd h (by omega)
 |n+1,p,q,b,dp,dq,tp,tq,hn,hb=>by
  have hpow:0<3^q.length:=Nat.pow_pos (by decide);have hb1:(b+1)*(p.length+1-q.length+1)<=QD:=Nat.le_trans (Nat.le_mul_of_pos_right _ hpow) hb;have hb2:b+(p.length+1-q.length)*(b+1)+1=(b+1)*(p.length+1-q.length+1):=by
   have e:=Nat.mul_add (b+1) (p.length+1-q.length) 1;rw[Nat.mul_one,Nat.mul_comm (b+1) (p.length+1-q.length)] at e;omega
  have hb3:b<=QD:=by
   have:0<=(p.length+1-q.length)*(b+1):=Nat.zero_le _;omega
  have hqh:QD<=QH:=by unfold QD QH;omega
  rw[qX,de];by_cases hq:q= [];·rw[if_pos hq,if_pos hq];exact⟨fun x hx=>by have:=dp.lq x hx;omega,(sV dp tp).mono (Nat.le_trans (by omega:b<=(b+1)*(p.length+1-q.length+1)) (Nat.le_mul_of_pos_right _ hpow))⟩
  ·rw[if_neg hq,if_neg hq];have hl:=List.length_pos_iff.2 hq;have hs:=dW (p:=p) hl (tq hq);obtain⟨k1,k2⟩:=nQ (K:=b+(p.length+1-q.length)*(b+1)) dp dq hq tq (Nat.le_refl _) (by have:=dp.pos;omega);have tr:=gr (q:=q) tp;have hm:=sV k2 tr;have hphi:(b+(p.length+1-q.length)*(b+1)+1)*(q.length+1-(cD (divN p q).2).length+1)*3^(cD (divN p q).2).length<=(b+1)*(p.length+1-q.length+1)*3^q.length:=by
    rw[hb2,bN];rw[Nat.mul_assoc];refine Nat.mul_le_mul_left _ ?_;obtain⟨t,ht⟩:∃ t,q.length=(divN p q).2.length+(t+1):=⟨q.length-(divN p q).2.length-1,by omega⟩;rw[ht,Nat.pow_add,Nat.mul_comm];refine Nat.mul_le_mul_left _ ?_;have:=sW t;omega
   obtain⟨g1,g2⟩:=xd n q (cD (divN p q).2) _ (dq.mono (by omega)) hm tq (gu tr) (by rw[bN];omega) (Nat.le_trans hphi hb);exact⟨⟨uU dq hl (tq hq) _ _ _ dp (by omega),fun x hx=>by have:=dq.lq x hx;omega,fun x hx=>by have:=k2.lq x hx;omega,g1⟩,g2.mono hphi⟩
theorem Jo{p q:List ND}{b:Nat}(hp:∀ x∈p,NOK x)(hq:∀ x∈q,NOK x)(dp:Den b (ae p))(dq:Den b (ae q))(l1:p.length<=900)(l2:q.length<=900)(tp:Trm (ae p))(tq:Trm (ae q))
  (hb:(b+1)*(p.length+1-q.length+1)*3^q.length<=QD):gG p q/\Den ((b+1)*(p.length+1-q.length+1)*3^q.length) (bX (ae p) (ae q)):=by
 obtain⟨h1,h2⟩:=xd (q.length+1) (ae p) (ae q) b dp dq tp tq (by rw[aD];omega) (by rw[aD,aD];exact hb);refine⟨⟨hp,hq,l1,l2,tp,tq,h1⟩,?_⟩;rw[aD,aD] at h2;unfold bX;rw[aD];exact h2
theorem den_add{b c:Nat}{l m:List Rat}(hl:Den b l)(hm:Den c m):Den (b+c+1) (bw (· + ·) l m):=by
 refine lT ?_;obtain⟨D,d1,d2,d3⟩:=hl;obtain⟨E,e1,e2,e3⟩:=hm;refine⟨D*E,Int.mul_ne_zero d1 e1,by have:=cj D E;omega,fun i=> ?_⟩;by_cases hi:i<max l.length m.length;·rw[kX _ _ _ _ _ hi];obtain⟨n,n1,n2⟩:=d3 i;obtain⟨k,k1,k2⟩:=e3 i;refine⟨n*E+k*D,by have:=cj n E;have:=cj k D;have:=ux (n*E) (k*D);omega,?_⟩;rw[n2,k2,Rat.divInt_add_divInt _ _ d1 e1]
 ·refine⟨0,by rw[ja];omega,?_⟩;rw[eg (by rw[fL];omega),Rat.zero_divInt]
theorem HR{b c:Nat}{l m:List Rat}(hl:Den b l)(hm:Den c m):Den (b+c+1) (bw (· - ·) l m):=by
 refine lT ?_;obtain⟨D,d1,d2,d3⟩:=hl;obtain⟨E,e1,e2,e3⟩:=hm;refine⟨D*E,Int.mul_ne_zero d1 e1,by have:=cj D E;omega,fun i=> ?_⟩;by_cases hi:i<max l.length m.length;·rw[kX _ _ _ _ _ hi];obtain⟨n,n1,n2⟩:=d3 i;obtain⟨k,k1,k2⟩:=e3 i;refine⟨n*E-k*D,by have:=cj n E;have:=cj k D;have:=FN (n*E) (k*D);omega,?_⟩;rw[n2,k2,Rat.divInt_sub_divInt _ _ d1 e1]
 ·refine⟨0,by rw[ja];omega,?_⟩;rw[eg (by rw[fL];omega),Rat.zero_divInt]
theorem FP{a:Int}{b:Nat}(h:lw a<=b):(a.natAbs:Int)<=LB^b:=by
 have:=qx a h;omega
theorem xe{b c:Nat}{p q:List Rat}{D E:Int}(d1:D≠0)(e1:E≠0)(hp:∀ i,∃ n:Int,lw n<=b/\cf p i=Rat.divInt n D)(hq:∀ i,∃ n:Int,lw n<=c/\cf q i=Rat.divInt n E)(hl:0<q.length):
  ∀ i,i<=p.length->∀ n,∃ N:Int,(N.natAbs:Int)<=i*(LB^b*LB^c)/\cf (mulN p q i) n=Rat.divInt N (D*E)
 |0,_,n=>⟨0,by simp,by
   (rw[Rat.zero_divInt];by_cases h:n<(mulN p q 0).length;·unfold mulN cf;rw[List.getD_eq_getElem?_getD,List.getElem?_replicate];split<;>rfl);·exact eg (by omega)⟩
 |i+1,h,n=>by
  obtain⟨N,h1,h2⟩:=xe d1 e1 hp hq hl i (by omega) n;rw[mulN,jc _ _ _ _ _ _ (by rw[dy];omega)];have hpos:(0:Int)<=LB^b*LB^c:=Int.mul_nonneg (Int.le_of_lt (lbpos _)) (Int.le_of_lt (lbpos _));have e:((i+1:Nat):Int)*(LB^b*LB^c)=(i:Int)*(LB^b*LB^c)+LB^b*LB^c:=by rw[Int.natCast_add,Int.add_mul];simp
  rw[e];split
  ·obtain⟨x,x1,x2⟩:=hp i;obtain⟨y,y1,y2⟩:=hq (n-i);refine⟨N+x*y,?_,?_⟩
   ·have h3:=FP x1;have h4:=FP y1;have h5:(x.natAbs:Int)*(y.natAbs:Int)<=LB^b*LB^c:=by
     have h6:(x.natAbs:Int)*(y.natAbs:Int)<=LB^b*(y.natAbs:Int):=Int.mul_le_mul_of_nonneg_right h3 (by omega);have h7:LB^b*(y.natAbs:Int)<=LB^b*LB^c:=Int.mul_le_mul_of_nonneg_left h4 (Int.le_of_lt (lbpos _));omega
    have h8:(N+x*y).natAbs<=N.natAbs+(x*y).natAbs:=Int.natAbs_add_le _ _;rw[Int.natAbs_mul] at h8;have h9:((N+x*y).natAbs:Int)<=(N.natAbs:Int)+(x.natAbs:Int)*(y.natAbs:Int):=by
     rw[<- Int.natCast_mul];omega
    omega
   ·rw[h2,x2,y2,Rat.divInt_mul_divInt,Rat.divInt_add_divInt _ _ (Int.mul_ne_zero d1 e1) (Int.mul_ne_zero d1 e1),<- Int.add_mul,Rat.divInt_mul_right (Int.mul_ne_zero d1 e1)]
  ·exact⟨N,by omega,h2⟩
theorem den_mul{b c:Nat}{p q:List Rat}(hp:Den b p)(hq:Den c q)(hl:p.length<1000000000):Den (b+c+1) (b9 p q):=by
 have hb:=hp.pos;by_cases h1:p= [];·subst h1;rw[fC];exact lU (by omega)
 by_cases h2:q= []
 ·subst h2;rw[kY];exact lU (by omega)
 rw[uT h1 h2];obtain⟨D,d1,d2,d3⟩:=hp;obtain⟨E,e1,e2,e3⟩:=hq;refine⟨D*E,Int.mul_ne_zero d1 e1,by have:=cj D E;omega,fun n=> ?_⟩;obtain⟨N,k1,k2⟩:=xe d1 e1 d3 e3 (List.length_pos_iff.2 h2) _ (Nat.le_refl _) n;refine⟨N,lP ?_,k2⟩;have k3:(0:Int)<LB^b*LB^c:=Int.mul_pos (lbpos _) (lbpos _);have k4:(p.length:Int)*(LB^b*LB^c)<LB*(LB^b*LB^c):=Int.mul_lt_mul_of_pos_right (by show (p.length:Int)<1000000000;omega) k3;have k5:(LB:Int)^(b+c+1)=LB*(LB^b*LB^c):=by rw[Int.pow_succ,Int.pow_add,Int.mul_comm]
 omega
theorem A3{b:Nat}{l:List Rat}(h:Den b l):(l.length<1000000000)->Den (b+1) (bK l):=by
 intro hl;obtain⟨D,d1,d2,d3⟩:=h;refine⟨D,d1,by omega,fun i=> ?_⟩;by_cases hi:i<l.length-1
 ·obtain⟨n,n1,n2⟩:=d3 (i+1);have:cf (bK l) i=cf l (i+1)*Rat.divInt ((i+1:Nat):Int) 1:=by
   (unfold bK kB;conv=>lhs;unfold cf);rw[List.getD_eq_getElem?_getD,List.getElem?_map,List.getElem?_range hi];rfl
  refine⟨n*((i+1:Nat):Int),?_,?_⟩;·have h1:lw (((i+1:Nat):Int))<=1:=lP (by show _<(1000000000:Int)^1;omega);have:=cj n ((i+1:Nat):Int);omega
  ·rw[this,n2,Rat.divInt_mul_divInt,Int.mul_one]
 ·refine⟨0,by rw[ja];omega,?_⟩;rw[Rat.zero_divInt,eg];unfold bK kB;simp;omega
end Go.Cm
end
section
namespace Go.Cm
open Go.Proofs
def ca(p:List (List UInt8)):Int:=
 if 41<p.length then 40 else if p.all (fun q=>decide (cS q=0))=false then 40
 else if p≠ []/\p.getLastD []= [48] then 40 else 0
def aX(p:List (List UInt8)):List Rat:=if ca p=0 then p.map dx else []
def cl(p:List (List UInt8)):Prop:=p.length<=QL/\∀ q∈p,q.length<=QL
theorem mA{q:List UInt8}(h:cS q=0)(hl:q.length<=QL):fj q/\fK q=a8 (dx q):=by
 have:RQ q:=⟨by rw[h];decide,hl⟩;exact⟨this.form,this.raw⟩
theorem zM{p:List (List UInt8)}{k:Nat}(hk:k<p.length)(h:(p.take k).all (fun q=>decide (cS q=0))=true)(hb:cS (nth .str p (k:Int))=0):(p.take (k+1)).all (fun q=>decide (cS q=0))=true:=by
 have e:nth .str p (k:Int)=p[k]:=fU (t:= .str) hk;rw[List.take_succ_eq_append_getElem hk,List.all_append,h];rw[e] at hb;simp[hb]
theorem Db{p:List (List UInt8)}{k:Nat}(hk:k<p.length)(h41:p.length<=41)(hb: ¬cS (nth .str p (k:Int))=0):ca p=40:=by
 have e:nth .str p (k:Int)=p[k]:=fU (t:= .str) hk;rw[e] at hb;unfold ca;rw[if_neg (by omega),if_pos];rw[List.all_eq_false];exact⟨p[k],List.getElem_mem hk,by simpa using hb⟩
theorem rh{p:List (List UInt8)}(hs:cl p)(h:p.all (fun q=>decide (cS q=0))=true):(∀ q∈p,fj q)/\p.map fK=ar (p.map dx):=by
 rw[List.all_eq_true] at h;refine⟨fun q hq=>(mA (by simpa using h q hq) (hs.2 q hq)).1,?_⟩;unfold ar;rw[List.map_map];exact List.map_congr_left fun q hq=>(mA (by simpa using h q hq) (hs.2 q hq)).2
theorem zO{p:List (List UInt8)}(hl:p.length<=41):(decide ((0:Int)<(p.length:Int))=true->decide ((0:Int)<(p.length:Int))=true)/\(decide ((0:Int)<(p.length:Int))=true->decide ((0:Int)<(p.length:Int))=true)/\(decide ((0:Int)<(p.length:Int))=true->decide ((0:Int)<(p.length:Int))=true/\0<=IntKind.i64.wrap ((p.length:Int)-1)/\IntKind.i64.wrap ((p.length:Int)-1)<(p.length:Int))/\(decide ((0:Int)<(p.length:Int))=true->decide ((0:Int)<(p.length:Int))=true):=by
 refine⟨id,id,fun h=> ?_,id⟩;have h2:=of_decide_eq_true h;rw[cC (by omega)];exact⟨h,by omega,by omega⟩
theorem ri{p:List (List UInt8)}(h:ca p=40): []=ar (aX p)/\40=ca p:=by
 refine⟨?_,h.symm⟩;unfold aX;rw[if_neg (by rw[h];decide)];rfl
theorem zP{p:List (List UInt8)}(h:41<p.length):ca p=40:=by unfold ca;rw[if_pos h]
theorem nz{p:List (List UInt8)}(hl:p.length<=41)(h:0<p.length):nth .str p (IntKind.i64.wrap ((p.length:Int)-1))=p.getLastD []:=by
 rw[cC (by omega),show (p.length:Int)-1=((p.length-1:Nat):Int) by omega,fU (t:= .str) (by omega)];rw[List.getLastD_eq_getLast?,List.getLast?_eq_getElem?,List.getElem?_eq_getElem (by omega)];rfl
theorem zQ{p:List (List UInt8)}(hl:p.length<=41)(ha:p.all (fun q=>decide (cS q=0))=true)(h:0<(p.length:Int)/\nth .str p (IntKind.i64.wrap ((p.length:Int)-1))= [48]):ca p=40:=by
 rw[nz hl (by omega)] at h;unfold ca;rw[if_neg (by omega),if_neg (by rw[ha];decide),if_pos];refine⟨fun e=> ?_,h.2⟩;rw[e] at h;exact absurd h.1 (by decide)
theorem FQ{p:List (List UInt8)}(hs:cl p)(hl:p.length<=41)(ha:p.all (fun q=>decide (cS q=0))=true)(h:0<(p.length:Int)-> ¬nth .str p (IntKind.i64.wrap ((p.length:Int)-1))= [48]):p.map fK=ar (aX p)/\0=ca p:=by
 have hc:ca p=0:=by
  unfold ca;rw[if_neg (by omega),if_neg (by rw[ha];decide),if_neg];intro h2;have h3:0<p.length:=by cases p with|nil=>exact absurd rfl h2.1|cons=>simp
  exact h (by omega) (by rw[nz hl h3];exact h2.2)
 refine⟨?_,hc.symm⟩;unfold aX;rw[if_pos hc];exact(rh hs ha).2
end Go.Cm
namespace Go.Cm
open Go.Proofs
def br:List (List (List UInt8))->Int
 | []=>0
 |p::l=>if ca p=0 then br l else ca p
def fZ(l:List (List (List UInt8))):List (List ND):=if br l=0 then l.map fun p=>ar (aX p) else []
theorem FR{l:List (List (List UInt8))}(h:∀ p∈l,ca p=0):br l=0:=by
 induction l with
 |nil=>rfl
 |cons a l ih=>
  unfold br;rw[if_pos (h a (by simp))];exact ih fun p hp=>h p (by simp[hp])
theorem Dc{l:List (List (List UInt8))}{k:Nat}(hk:k<l.length)(h:(l.take k).all (fun p=>decide (ca p=0))=true)(hb: ¬ca l[k]=0):br l=ca l[k]:=by
 induction l generalizing k with
 |nil=>simp at hk
 |cons a l ih=>
  unfold br;cases k with
  |zero=>exact if_neg hb
  |succ k=>
   simp only[List.take_succ_cons,List.all_cons,Bool.and_eq_true,decide_eq_true_eq] at h;rw[if_pos h.1];exact ih (by simpa using hk) h.2 (by simpa using hb)
end Go.Cm
namespace Go.Cm
open Go.Proofs
theorem rj{l:List (List (List UInt8))}{k:Nat}(hl:l.length<=1000)(hk:k<l.length)(g:(l.take k).all (fun p=>decide (ca p=0))=true)(hb:ca (nth (.slice .str) l (k:Int))=0):
  IntKind.i64.wrap ((k:Int)+1)=((k+1:Nat):Int)/\(l.take k).map (fun p=>ar (aX p))++ [ar (aX (nth (.slice .str) l (k:Int)))]=(l.take (k+1)).map (fun p=>ar (aX p))/\k+1<=l.length/\(l.take (k+1)).all (fun p=>decide (ca p=0))=true/\l.length-(k+1)<l.length-k:=by
 have e:nth (.slice .str) l (k:Int)=l[k]:=fU (t:= .slice .str) hk;rw[e] at hb ⊢;refine⟨wo,?_,hk,?_,by omega⟩;·rw[List.take_succ_eq_append_getElem hk,List.map_append];rfl
 ·rw[List.take_succ_eq_append_getElem hk,List.all_append,g];simp[hb]
theorem xf{l:List (List (List UInt8))}{k:Nat}(hk:k<l.length)(g:(l.take k).all (fun p=>decide (ca p=0))=true)(hb: ¬ca (nth (.slice .str) l (k:Int))=0): []=fZ l/\ca (nth (.slice .str) l (k:Int))=br l:=by
 have e:nth (.slice .str) l (k:Int)=l[k]:=fU (t:= .slice .str) hk;rw[e] at hb ⊢;have h:=Dc hk g hb;refine⟨?_,h.symm⟩;unfold fZ;rw[if_neg (by rw[h];exact hb)]
theorem FS{l:List (List (List UInt8))}(g:l.all (fun p=>decide (ca p=0))=true):l.map (fun p=>ar (aX p))=fZ l/\0=br l:=by
 have h:br l=0:=FR fun p hp=>by
  rw[List.all_eq_true] at g;simpa using g p hp
 refine⟨?_,h.symm⟩;unfold fZ;rw[if_pos h]
end Go.Cm
namespace Go.Cm
open Go.Proofs
theorem xg{l:List (List (List UInt8))}(hl:l.length<=1000)(hk:0<l.length)(hb:ca (nth (.slice .str) l 0)=0):
  IntKind.i64.wrap (0+1)=((1:Nat):Int)/\ [ar (aX (nth (.slice .str) l 0))]=(l.take 1).map (fun p=>ar (aX p))/\1<=l.length/\(l.take 1).all (fun p=>decide (ca p=0))=true/\l.length-1<l.length+1:=by
 have h:=rj (k:=0) hl hk rfl hb;exact⟨h.1,h.2.1,hk,h.2.2.2.1,by omega⟩
theorem Dd{l:List (List (List UInt8))}(hk:0<l.length)(hb: ¬ca (nth (.slice .str) l 0)=0): []=fZ l/\ca (nth (.slice .str) l 0)=br l:=xf (k:=0) hk rfl hb
theorem De{l:List (List (List UInt8))}(h: ¬0<l.length): []=fZ l/\0=br l:=by
 cases l with
 |nil=>exact⟨rfl,rfl⟩
 |cons=>simp at h
end Go.Cm
namespace Go.Cm
open Go.Proofs
def bQ(l:List Rat):Int:=if 41<l.length then 3 else if dc (ar l)=true then 0 else 6
def gH(l:List Rat):List (List UInt8):=if bQ l=0 then l.map bS else []
theorem zR{l:List Rat}(h:41<l.length): []=gH l/\3=bQ l:=by
 have e:bQ l=3:=by unfold bQ;rw[if_pos h]
 exact⟨by unfold gH;rw[if_neg (by rw[e];decide)],e.symm⟩
theorem Df{l:List Rat}(h: ¬41<l.length)(hf:dc (ar l)=false): []=gH l/\6=bQ l:=by
 have e:bQ l=6:=by unfold bQ;rw[if_neg h,if_neg (by rw[hf];decide)]
 exact⟨by unfold gH;rw[if_neg (by rw[e];decide)],e.symm⟩
theorem FT{l:List Rat}(h: ¬41<l.length)(hf:dc (ar l)=true):(if dc (ar l)=true then (ar l).map fun x=>bS (bj x) else [])=gH l/\0=bQ l:=by
 have e:bQ l=0:=by unfold bQ;rw[if_neg h,if_pos hf]
 refine⟨?_,e.symm⟩;unfold gH;rw[if_pos e,if_pos hf,ar,List.map_map];exact List.map_congr_left fun x _=>by simp only[Function.comp,aF]
end Go.Cm
namespace Go.Cm
open Go.Proofs
theorem mB{l:List Rat}:∀ x∈aS l,x∈l:=by
 induction l with
 |nil=>intro x hx;exact hx
 |cons a l ih=>
  intro x hx;unfold aS at hx;split at hx
  ·(split at hx;·simp at hx);·simp at hx;simp[hx]
  ·(rename_i h;rcases List.mem_cons.1 hx with h2|h2;·simp[h2]);·exact List.mem_cons_of_mem _ (ih x (by rw[h];exact h2))
theorem Dg{p:List ND}(h:Sz QC p/\p.length<=QL)(hl: ¬41<(aS (ae p)).length):(ar (aS (ae p))).length<QL/\∀ x∈ar (aS (ae p)),NOK x/\lq (bj x)<=QC:=by
 refine⟨by rw[ao];unfold QL;omega,?_⟩;refine eE (k:=QC) fun x hx=> ?_;obtain⟨y,hy,rfl⟩:=List.mem_map.1 (mB x hx);exact(h.1 y hy).2
end Go.Cm
end
section
namespace Go.Cm
open Go.Proofs
def bY(f:List Rat->List Rat->List Rat)(p q:List (List UInt8)):Int:=if br [p,q]=0 then bQ (aS (f (aX p) (aX q))) else br [p,q]
def bZ(f:List Rat->List Rat->List Rat)(p q:List (List UInt8)):List (List UInt8):=if br [p,q]=0 then gH (aS (f (aX p) (aX q))) else []
def bl(D:List ND->List ND->Prop)(f:List Rat->List Rat->List Rat)(p q:List (List UInt8)):Prop:=
 cl p/\cl q/\(br [p,q]=0->D (ar (aX p)) (ar (aX q))/\Sz QC (ar (f (aX p) (aX q)))/\(f (aX p) (aX q)).length<=QL)
theorem mC{p q:List (List UInt8)}(h:br [p,q]=0):fZ [p,q]= [ar (aX p),ar (aX q)]:=by
 unfold fZ;rw[if_pos h];rfl
theorem fM{f:List Rat->List Rat->List Rat}{p q:List (List UInt8)}(h: ¬br [p,q]=0): []=bZ f p q/\br [p,q]=bY f p q:=by
 unfold bZ bY;rw[if_neg h,if_neg h];exact⟨rfl,rfl⟩
theorem jd{f:List Rat->List Rat->List Rat}{p q:List (List UInt8)}(h:br [p,q]=0):gH (aS (f (aX p) (aX q)))=bZ f p q/\bQ (aS (f (aX p) (aX q)))=bY f p q:=by
 unfold bZ bY;rw[if_pos h,if_pos h];exact⟨rfl,rfl⟩
end Go.Cm
namespace Go.Cm
open Go.Proofs
theorem gZ{p q:List (List UInt8)}(h:br [p,q]=0):nth (.slice NT) (fZ [p,q]) 0=ar (aX p):=by rw[mC h];rfl
theorem hZ{p q:List (List UInt8)}(h:br [p,q]=0):nth (.slice NT) (fZ [p,q]) 1=ar (aX q):=by rw[mC h];rfl
theorem fN{p q:List (List UInt8)}(h:br [p,q]=0):(fZ [p,q]).length=2:=by rw[mC h];rfl
end Go.Cm
namespace Go.Cm
open Go.Proofs
theorem fO{p q:List (List UInt8)}(hp:cl p)(hq:cl q): [p,q].length<=1000/\∀ x∈ [p,q],cl x:=by
 refine⟨by simp,fun x hx=> ?_⟩;simp only[List.mem_cons,List.not_mem_nil,or_false] at hx;rcases hx with rfl|rfl;·exact hp
 ·exact hq
end Go.Cm
end
section
namespace Go.Cm
open Go.Proofs
theorem xh(n:Int):∀ c∈Lib.itoa n,c≠47:=by
 obtain⟨d1,_,_,_⟩:=i7 n.natAbs;intro c hc;unfold Lib.itoa at hc;split at hc
 ·rcases List.mem_cons.1 hc with h|h;·rw[h];decide
  ·have:=d1 c h;intro hc;rw[hc] at this;revert this;decide
 ·have e:n.toNat=n.natAbs:=by omega
  rw[e] at hc;have:=d1 c hc;intro hc;rw[hc] at this;revert this;decide
theorem Jp{a b:List UInt8}(h:∀ c∈a,c≠47):tN (a++47::b)=a/\cb (a++47::b)=true:=by
 constructor
 ·unfold tN;induction a with
  |nil=>simp
  |cons c l ih=>
   have:=h c (by simp);rw[List.cons_append,List.takeWhile_cons,if_pos (by simpa using this),ih fun d hd=>h d (by simp[hd])]
 ·unfold cb;simp
theorem zS{a:List UInt8}(h:∀ c∈a,c≠47):cb a=false:=by
 unfold cb;rw[List.any_eq_false];intro c hc;simpa using h c hc
theorem jW(x:Rat):tN (bS x)=Lib.itoa x.num/\tD (bS x)=Lib.itoa (x.den:Int)/\cb (bS x)= !decide (x.den=1):=by
 unfold bS;by_cases h:x.den=1
 ·rw[if_pos h];have hs:=zS (xh x.num);refine⟨qL hs,?_,by rw[hs,h];rfl⟩;unfold tD;rw[hs,h,if_neg (by decide)];have h0: [49]=Lib.itoa ((1:Nat):Int):=by decide+kernel
  exact h0
 ·rw[if_neg h,List.append_assoc];obtain⟨h1,h2⟩:=Jp (b:=Lib.itoa (x.den:Int)) (xh x.num);rw[show [47]++Lib.itoa (x.den:Int)=47::Lib.itoa (x.den:Int) from rfl];refine⟨h1,?_,by rw[h2];simp[h]⟩;unfold tD;rw[if_pos h2];unfold tR;rw[h1,List.drop_append,List.drop_of_length_le (by omega)];simp
theorem gw(x:Rat):dx (bS x)=x:=by
 obtain⟨h1,h2,_⟩:=jW x;unfold dx;rw[h1,h2,(eK _).2,(eK _).2];exact Rat.num_divInt_den x
theorem sX(x:Rat):cS (bS x)=kJ x:=by
 obtain⟨h1,h2,h3⟩:=jW x;unfold cS;rw[h1,h2,(eK _).2,(eK _).2,if_neg,if_neg]
 ·unfold kJ cO;by_cases h:dv x.num<=2000/\dv (x.den:Int)<=2000;·rw[if_neg (by omega),if_pos (decide_eq_true h)]
  ·rw[if_pos (by omega),if_neg (by simpa using h)]
 ·rintro⟨hs,h⟩;have hg:db x.num (x.den:Int)=1:=by
   rw[<- jP,Int.gcd_comm];have:=x.reduced;unfold Nat.Coprime at this;unfold Int.gcd;rw[Int.natAbs_natCast,this];rfl
  rw[h3] at hs;have h4: ¬x.den=1:=by simpa using hs
  have:=x.den_pos;rcases h with h|h;·omega
  ·exact h hg
 ·rintro(h|h);·exact(eK x.num).1 h
  ·exact(eK (x.den:Int)).1 h
theorem je{x:Rat}:kJ x=0↔cO x=true:=by
 unfold kJ;split;·rename_i h;simp[h]
 ·rename_i h;simp[h]
theorem sY{q:List UInt8}(h:cS q=0)(hl:q.length<=QL):bS (dx q)=q/\cO (dx q)=true:=by
 have hr:RQ q:=⟨by rw[h];decide,hl⟩;obtain⟨p1,p2⟩:=hr.parts;obtain⟨f1,f2,_⟩:=hr.form;have hc:=hr.chk;rw[h] at hc;constructor
 ·unfold bS;cases hs:cb q
  ·(have e:tD q= [49]:=by unfold tD;rw[hs];rfl);rw[e,uC] at p2;rw[if_pos (by omega),p1,qL hs];rw[qL hs] at f1;exact mq f1
  ·have h5: ¬bu (tD q)<=1:=by
    (intro hle;unfold cS at h;split at h;·exact absurd h (by decide));·rw[if_pos ⟨hs,.inl hle⟩] at h;exact absurd h (by decide)
   rw[if_neg (by omega),p1,p2,mq f1,mq f2];have h6:=jR hs;rw[if_pos hs] at h6;rw[<- h6];have hcut:∀ q:List UInt8,cb q=true->tN q++ [47]++tR q=q:=by
    intro q hq;induction q with
    |nil=>simp[cb] at hq
    |cons c l ih=>
     by_cases hc:c=47
     ·subst hc;simp[tN,tR]
     ·(have h2:cb l=true:=by simpa [cb,hc] using hq);(have h3:tN (c::l)=c::tN l:=by simp[tN,hc]);(have h4:tR (c::l)=tR l:=by unfold tR;rw[h3];simp);rw[h3,h4];have:=ih h2;simpa using this
   exact hcut q hs
 ·unfold cO;rw[decide_eq_true_eq,p1,p2];split at hc;·exact absurd hc (by decide)
  ·omega
theorem kZ{x:Rat}:bS x= [48]↔x=0:=by
 have h0:bS 0= [48]:=by decide+kernel
 constructor;·intro h;have:=gw x;rw[h,<- h0,gw] at this;exact this.symm
 ·rintro rfl;exact h0
def txP(l:List Rat):List (List UInt8):=l.map bS
def iH(l:List Rat):Bool:=l.all cO
theorem sZ(l:List Rat):dc (ar l)=iH l:=by
 unfold dc iH ar;rw[List.all_map];congr 1;funext x;simp[aF]
theorem uV(l:List Rat):(txP l).length=l.length:=by simp[txP]
theorem HS(l:List Rat):(txP l).map dx=l:=by
 unfold txP;rw[List.map_map];conv=>rhs;rw[<- List.map_id l]
 exact List.map_congr_left fun x _=>gw x
theorem xi{l:List Rat}(h:l≠ []):(txP l).getLastD []=bS (ay l):=by
 unfold txP ay;rw[List.getLastD_eq_getLast?,List.getLastD_eq_getLast?,List.getLast?_map,List.getLast?_eq_some_getLast h];rfl
theorem A4(l:List Rat):(txP l).all (fun q=>decide (cS q=0))=iH l:=by
 unfold txP iH;rw[List.all_map];congr 1;funext x;simp only[Function.comp,sX];rw[Bool.eq_iff_iff,decide_eq_true_iff,je]
theorem A5{l:List Rat}(hl:l.length<=41)(ht:Trm l)(hf:iH l=true):ca (txP l)=0/\aX (txP l)=l:=by
 have hc:ca (txP l)=0:=by
  unfold ca;rw[if_neg (by rw[uV];omega),if_neg (by rw[A4,hf];decide),if_neg];rintro⟨h1,h2⟩;have hn:l≠ []:=fun e=>h1 (by rw[e];rfl);rw[xi hn,kZ] at h2;exact ht hn h2
 refine⟨hc,?_⟩;unfold aX;rw[if_pos hc,HS]
theorem HT{p:List (List UInt8)}(hs:cl p)(h:ca p=0):txP (aX p)=p/\(aX p).length<=41/\Trm (aX p)/\iH (aX p)=true:=by
 unfold ca at h;split at h;·exact absurd h (by decide)
 rename_i h1;split at h;·exact absurd h (by decide)
 rename_i h2;split at h;·exact absurd h (by decide)
 rename_i h3;have h2:p.all (fun q=>decide (cS q=0))=true:=by simpa using h2
 have hn:aX p=p.map dx:=by
  unfold aX;rw[if_pos];unfold ca;rw[if_neg h1,if_neg (by rw[h2];decide),if_neg h3]
 have ht:txP (p.map dx)=p:=by
  unfold txP;rw[List.map_map];conv=>rhs;rw[<- List.map_id p]
  rw[List.all_eq_true] at h2;exact List.map_congr_left fun q hq=>(sY (by simpa using h2 q hq) (hs.2 q hq)).1
 rw[hn];refine⟨ht,by rw[List.length_map];omega,fun hne hl=>h3 ⟨fun e=>hne (by rw[e];rfl),?_⟩,?_⟩;·rw[<- ht,xi hne,kZ];exact hl
 ·rw[<- A4,ht,h2]
theorem A6{n:Int}{k:Nat}(h:lw n<=k)(hk:9*k+1<=2000):dv n<=2000:=by
 have h1:=FP h;rw[Ho] at h1;have h0:=nt n;rw[ef];have h2:n.natAbs<10^(9*k):=by
  have:=qx n h;rw[Ho] at this;omega
 have:=AU h2;omega
theorem HU{x:Rat}(h:lq x<=222):cO x=true:=by
 have:=ep x;have:=dU x;exact decide_eq_true ⟨A6 (k:=222) (by omega) (by omega),A6 (k:=222) (by omega) (by omega)⟩
theorem FU{l:List Rat}{b:Nat}(h:Den b l)(hb:b<=222):iH l=true:=by
 unfold iH;rw[List.all_eq_true];exact fun x hx=>HU (Nat.le_trans (h.lq x hx) hb)
structure Pol (l:List Rat):Prop where
 len:l.length<=41
 trm:Trm l
 fit:iH l=true
theorem Pol.chk{l:List Rat}(h:Pol l):ca (txP l)=0:=(A5 h.len h.trm h.fit).1
theorem Pol.num{l:List Rat}(h:Pol l):aX (txP l)=l:=(A5 h.len h.trm h.fit).2
theorem mD{x:Rat}{k:Nat}(h:lq x<=k):(bS x).length<=18*k+5:=by
 have h1:=ki x.num;have h2:=ki (x.den:Int);have:=ep x;have:=dU x;unfold bS;split;·omega
 ·simp only[List.length_append,List.length_cons,List.length_nil];omega
theorem FV{n:Int}{K:Nat}(hn:((Lib.decDigits n.natAbs).length:Int)<=(K:Int)):lw n<=K:=by
 refine lP ?_;obtain⟨d1,d2,_,_⟩:=i7 n.natAbs;have h2:=jK d1;rw[d2] at h2;have h3:(10:Nat)^(Lib.decDigits n.natAbs).length<=10^K:=Nat.pow_le_pow_right (by omega) (by omega);have h4:(10:Nat)^K<=1000000000^K:=Nat.pow_le_pow_left (by omega) _;have h5:(LB^K:Int)=((1000000000^K:Nat):Int):=by rw[Int.natCast_pow];rfl
 rw[h5];exact_mod_cast Nat.lt_of_lt_of_le h2 (Nat.le_trans h3 h4)
theorem uW{x:Rat}(h:cO x=true):lq x<=2000:=by
 unfold cO at h;rw[decide_eq_true_eq,ef,ef] at h;exact Nat.max_le.2 ⟨FV h.1,FV h.2⟩
theorem Pol.lq{l:List Rat}(h:Pol l):∀ x∈l,lq x<=2000:=by
 have:=h.fit;unfold iH at this;rw[List.all_eq_true] at this;exact fun x hx=>uW (this x hx)
theorem Pol.short{l:List Rat}(h:Pol l):cl (txP l):=by
 have e:QL=1000000000:=rfl;refine⟨by rw[uV];have:=h.len;omega,fun q hq=> ?_⟩;obtain⟨x,hx,rfl⟩:=List.mem_map.1 hq;have:=mD (h.lq x hx);omega
theorem lV:Pol []:=⟨by simp,uS,rfl⟩
theorem iI{l m:List Rat}(hl:Pol l)(hm:Pol m):br [txP l,txP m]=0:=by
 simp only[br,hl.chk,hm.chk,if_true]
theorem FW{f:List Rat->List Rat->List Rat}{l m:List Rat}(hl:Pol l)(hm:Pol m){r:List Rat}(hr:aS (f l m)=r)(hp:Pol r):bZ f (txP l) (txP m)=txP r/\bY f (txP l) (txP m)=0:=by
 have he:bQ r=0:=by
  unfold bQ;rw[if_neg (by have:=hp.len;omega),if_pos (by rw[sZ];exact hp.fit)]
 unfold bZ bY;rw[if_pos (iI hl hm),if_pos (iI hl hm),hl.num,hm.num,hr];unfold gH;rw[if_pos he];exact⟨rfl,he⟩
theorem gI{D:List ND->List ND->Prop}{f:List Rat->List Rat->List Rat}{l m:List Rat}(hl:Pol l)(hm:Pol m)(hD:D (ar l) (ar m))(hs:∀ x∈f l m,Cm.lq x<=QC)(hn:(f l m).length<=QL):bl D f (txP l) (txP m):=by
 refine⟨hl.short,hm.short,fun _=> ?_⟩;rw[hl.num,hm.num];exact⟨hD,eE hs,hn⟩
theorem Pol.enc_ok{l:List Rat}{k:Nat}(h:Pol l)(hk:2000<=k):Sz k (ar l):=eE fun x hx=>Nat.le_trans (h.lq x hx) hk
theorem A7{l m:List Rat}(hl:Pol l)(hm:Pol m):bl (fun p q=>Sz QH p/\Sz QH q/\p.length<=1000/\q.length<=1000) (bw (· + ·)) (txP l) (txP m):=by
 have e1:QH=40000000000:=rfl;have e2:QL=1000000000:=rfl;have h1:=hl.len;have h2:=hm.len;have hs1:=hl.enc_ok (k:=QH) (by omega);have hs2:=hm.enc_ok (k:=QH) (by omega);refine gI hl hm ⟨hs1,hs2,by rw[ao];omega,by rw[ao];omega⟩ ?_ (by have:=fB (· + ·) l m;omega);intro x hx;have h3:=uG wU hs1 hs2 (max l.length m.length);rw[ax,ax] at h3;have h4:=mB x hx;have h5:=(h3 (a8 x) (List.mem_map.2 ⟨x,h4,rfl⟩)).2;rwa [aF] at h5
theorem HV{l m:List Rat}(hl:Pol l)(hm:Pol m):bl (fun p q=>Sz QH p/\Sz QH q/\p.length<=1000/\q.length<=1000) (bw (· - ·)) (txP l) (txP m):=by
 have e1:QH=40000000000:=rfl;have e2:QL=1000000000:=rfl;have h1:=hl.len;have h2:=hm.len;have hs1:=hl.enc_ok (k:=QH) (by omega);have hs2:=hm.enc_ok (k:=QH) (by omega);refine gI hl hm ⟨hs1,hs2,by rw[ao];omega,by rw[ao];omega⟩ ?_ (by have:=fB (· - ·) l m;omega);intro x hx;have h3:=uG wV hs1 hs2 (max l.length m.length);rw[ax,ax] at h3;have h4:=mB x hx;have h5:=(h3 (a8 x) (List.mem_map.2 ⟨x,h4,rfl⟩)).2;rwa [aF] at h5
theorem uX{l m:List Rat}(hl:Pol l)(hm:Pol m):bl (fun p q=>Sz QM p/\Sz QM q/\p.length<=100/\q.length<=100) b9 (txP l) (txP m):=by
 have e1:QM=400000000:=rfl;have e2:QL=1000000000:=rfl;have e3:QC=100000000000:=rfl;have h1:=hl.len;have h2:=hm.len;refine gI hl hm ⟨hl.enc_ok (by omega),hm.enc_ok (by omega),by rw[ao];omega,by rw[ao];omega⟩ ?_ (by have:=ra l m;omega);intro x hx;unfold b9 at hx;split at hx;·simp at hx
 ·have h3:=Ft (K:=2000) (fun n=>nv hl.lq (by omega) n) (fun n=>nv hm.lq (by omega) n) l.length (Nat.le_refl _) x hx;have h4:l.length*(2*2000+1)<=41*(2*2000+1):=Nat.mul_le_mul_right _ h1;omega
def dvE(p q:List (List UInt8)):Int:=
 if br [p,q]=0 then
  if aX q= [] then 2
  else if bQ (aS (divN (aX p) (aX q)).1)=0 then bQ (aS (divN (aX p) (aX q)).2) else bQ (aS (divN (aX p) (aX q)).1)
 else br [p,q]
def dvS(p q:List (List UInt8)):List (List UInt8):=if dvE p q=0 then gH (aS (divN (aX p) (aX q)).1) else []
def dvR(p q:List (List UInt8)):List (List UInt8):=if dvE p q=0 then gH (aS (divN (aX p) (aX q)).2) else []
structure rk (p q:List (List UInt8)):Prop where
 sp:cl p
 sq:cl q
 ok:br [p,q]=0->aX q≠ []->fh (ar (aX p)) (ar (aX q))/\(Sz QC (ar (divN (aX p) (aX q)).1)/\(ar (divN (aX p) (aX q)).1).length<=QL)/\(Sz QC (ar (divN (aX p) (aX q)).2)/\(ar (divN (aX p) (aX q)).2).length<=QL)
theorem FX{p q:List (List UInt8)}(h: ¬br [p,q]=0): []=dvS p q/\ []=dvR p q/\br [p,q]=dvE p q:=by
 have e:dvE p q=br [p,q]:=if_neg h;refine⟨?_,?_,e.symm⟩;·unfold dvS;rw[if_neg (by rw[e];exact h)]
 ·unfold dvR;rw[if_neg (by rw[e];exact h)]
theorem FY{p q:List (List UInt8)}(h:br [p,q]=0)(h2:(ar (aX q)).length=0): []=dvS p q/\ []=dvR p q/\2=dvE p q:=by
 have hq:aX q= []:=by rw[ao] at h2;exact List.eq_nil_of_length_eq_zero h2
 have e:dvE p q=2:=by unfold dvE;rw[if_pos h,if_pos hq]
 refine⟨?_,?_,e.symm⟩;·unfold dvS;rw[if_neg (by rw[e];decide)]
 ·unfold dvR;rw[if_neg (by rw[e];decide)]
theorem HW{q:List (List UInt8)}(h2: ¬ (ar (aX q)).length=0):aX q≠ []:=by
 intro h;rw[h] at h2;exact h2 rfl
theorem HY{p q:List (List UInt8)}(h:br [p,q]=0)(h2:aX q≠ [])(h3: ¬bQ (aS (divN (aX p) (aX q)).1)=0): []=dvS p q/\ []=dvR p q/\bQ (aS (divN (aX p) (aX q)).1)=dvE p q:=by
 have e:dvE p q=bQ (aS (divN (aX p) (aX q)).1):=by unfold dvE;rw[if_pos h,if_neg h2,if_neg h3]
 refine⟨?_,?_,e.symm⟩;·unfold dvS;rw[if_neg (by rw[e];exact h3)]
 ·unfold dvR;rw[if_neg (by rw[e];exact h3)]
theorem FZ{p q:List (List UInt8)}(h:br [p,q]=0)(h2:aX q≠ [])(h3:bQ (aS (divN (aX p) (aX q)).1)=0):dvE p q=bQ (aS (divN (aX p) (aX q)).2):=by
 unfold dvE;rw[if_pos h,if_neg h2,if_pos h3]
theorem HZ{p q:List (List UInt8)}(h:br [p,q]=0)(h2:aX q≠ [])(h3:bQ (aS (divN (aX p) (aX q)).1)=0)(h4: ¬bQ (aS (divN (aX p) (aX q)).2)=0): []=dvS p q/\ []=dvR p q/\bQ (aS (divN (aX p) (aX q)).2)=dvE p q:=by
 have e:=FZ h h2 h3;refine⟨?_,?_,e.symm⟩;·unfold dvS;rw[if_neg (by rw[e];exact h4)]
 ·unfold dvR;rw[if_neg (by rw[e];exact h4)]
theorem H0{p q:List (List UInt8)}(h:br [p,q]=0)(h2:aX q≠ [])(h3:bQ (aS (divN (aX p) (aX q)).1)=0)(h4:bQ (aS (divN (aX p) (aX q)).2)=0):
  gH (aS (divN (aX p) (aX q)).1)=dvS p q/\gH (aS (divN (aX p) (aX q)).2)=dvR p q/\0=dvE p q:=by
 have e:=FZ h h2 h3;rw[h4] at e;refine⟨?_,?_,e.symm⟩;·unfold dvS;rw[if_pos e]
 ·unfold dvR;rw[if_pos e]
def lW(p q:List (List UInt8)):Prop:=ca p=0/\ca q=0/\0<p.length/\0<q.length/\40<(p.length-1)*(q.length-1)
instance (p q:List (List UInt8)):Decidable (lW p q):=by unfold lW;infer_instance
def iJ(p q:List (List UInt8)):Int:=if lW p q then 3 else bY jt p q
def iK(p q:List (List UInt8)):List (List UInt8):=if lW p q then [] else bZ jt p q
structure fF (p q:List (List UInt8)):Prop where
 sp:cl p
 sq:cl q
 ok: ¬lW p q->bl uO jt p q
theorem Dh{p q:List (List UInt8)}(hp:ca p=0)(hq:ca q=0)(h1:0<p.length)(h2:0<q.length):IntKind.i64.wrap (IntKind.i64.wrap ((p.length:Int)-1)*IntKind.i64.wrap ((q.length:Int)-1))=(((p.length-1)*(q.length-1):Nat):Int):=by
 have k1:p.length<=41:=by
  unfold ca at hp;split at hp;·exact absurd hp (by decide)
  ·omega
 have k2:q.length<=41:=by
  unfold ca at hq;split at hq;·exact absurd hq (by decide)
  ·omega
 rw[cC (by omega),cC (by omega)];have e1:(p.length:Int)-1=((p.length-1:Nat):Int):=by omega
 have e2:(q.length:Int)-1=((q.length-1:Nat):Int):=by omega
 rw[e1,e2,<- Int.natCast_mul];have h3:(p.length-1)*(q.length-1)<=40*40:=Nat.mul_le_mul (by omega) (by omega);generalize (p.length-1)*(q.length-1)=n at*;exact wo
theorem F0{p q:List (List UInt8)}{b:Bool}(h:(ca p==0&&ca q==0&&decide ((0:Int)<(p.length:Int))&&decide ((0:Int)<(q.length:Int))&&decide ((40:Int)<IntKind.i64.wrap (IntKind.i64.wrap ((p.length:Int)-1)*IntKind.i64.wrap ((q.length:Int)-1))))=b):decide (lW p q)=b:=by
 rw[<- h];clear h;unfold lW;by_cases h1:ca p=0
 ·by_cases h2:ca q=0
  ·by_cases h3:0<p.length
   ·by_cases h4:0<q.length
    ·rw[Dh h1 h2 h3 h4,Bool.eq_iff_iff];simp only[h1,h2,h3,h4,true_and,decide_eq_true_eq,Bool.and_eq_true,beq_self_eq_true];generalize (p.length-1)*(q.length-1)=n;omega
    ·(have: ¬ (0:Int)<(q.length:Int):=by omega);simp[h4]
   ·(have: ¬ (0:Int)<(p.length:Int):=by omega);simp[h3]
  ·simp[h2]
 ·simp[h1]
theorem Jq{p q:List (List UInt8)}(h:lW p q): []=iK p q/\3=iJ p q:=by
 unfold iK iJ;rw[if_pos h,if_pos h];exact⟨rfl,rfl⟩
theorem Jr{p q:List (List UInt8)}(h: ¬lW p q):bZ jt p q=iK p q/\bY jt p q=iJ p q:=by
 unfold iK iJ;rw[if_neg h,if_neg h];exact⟨rfl,rfl⟩
def evE(p:List (List UInt8))(x:List UInt8):Int:=if br [p]=0 then if cS x=0 then kJ (aO (aX p) (dx x)) else cS x else br [p]
def evS(p:List (List UInt8))(x:List UInt8):List UInt8:=if evE p x=0 then bS (aO (aX p) (dx x)) else []
structure rl (p:List (List UInt8)) (x:List UInt8):Prop where
 sp:cl p
 sx:x.length<=QL
 ok:br [p]=0->cS x=0->Sz QM (ar (aX p))/\(aX p).length<=100/\lq (dx x)<=QM/\lq (aO (aX p) (dx x))<=QC
theorem F1{p:List (List UInt8)}(h:br [p]=0):fZ [p]= [ar (aX p)]:=by
 unfold fZ;rw[if_pos h];rfl
theorem JS{p:List (List UInt8)}(h:br [p]=0):nth (.slice NT) (fZ [p]) 0=ar (aX p):=by rw[F1 h];rfl
theorem Js{p:List (List UInt8)}(h:br [p]=0):(fZ [p]).length=1:=by rw[F1 h];rfl
theorem F2{p:List (List UInt8)}{x:List UInt8}(h:rl p x): [p].length<=1000/\∀ y∈ [p],cl y:=
 ⟨by simp,fun y hy=>by rw[List.mem_singleton] at hy;subst hy;exact h.sp⟩
theorem Jt{p:List (List UInt8)}{x:List UInt8}(h: ¬br [p]=0): []=evS p x/\br [p]=evE p x:=by
 have e:evE p x=br [p]:=if_neg h;exact⟨by unfold evS;rw[if_neg (by rw[e];exact h)],e.symm⟩
theorem H1{p:List (List UInt8)}{x:List UInt8}(h:br [p]=0)(h2: ¬cS x=0): []=evS p x/\cS x=evE p x:=by
 have e:evE p x=cS x:=by unfold evE;rw[if_pos h,if_neg h2]
 exact⟨by unfold evS;rw[if_neg (by rw[e];exact h2)],e.symm⟩
theorem Ju{p:List (List UInt8)}{x:List UInt8}(h:br [p]=0)(h2:cS x=0)(h3:cO (aO (aX p) (dx x))=false): []=evS p x/\6=evE p x:=by
 have e:evE p x=6:=by unfold evE;rw[if_pos h,if_pos h2];unfold kJ;rw[h3];rfl
 exact⟨by unfold evS;rw[if_neg (by rw[e];decide)],e.symm⟩
theorem H2{p:List (List UInt8)}{x:List UInt8}(h:br [p]=0)(h2:cS x=0)(h3:cO (aO (aX p) (dx x))=true):bS (aO (aX p) (dx x))=evS p x/\0=evE p x:=by
 have e:evE p x=0:=by unfold evE;rw[if_pos h,if_pos h2];unfold kJ;rw[h3];rfl
 exact⟨by unfold evS;rw[if_pos e],e.symm⟩
theorem F3{p:List Rat}{x:Rat}{y:List UInt8}(c1:fj y)(k1:Sz QM (ar p))(k2:p.length<=100)(k3:lq x<=QM)(k4:lq (aO p x)<=QC):
  ((0:Int)<=0/\(0:Int)<((1:Nat):Int))/\fj y/\(Sz QM (ar p)/\(ar p).length<=100/\NOK (a8 x)/\lq x<=QM)/\1<QL/\∀ z:ND,z∈ [a8 (aO p x)]->NOK z/\lq (bj z)<=QC:=by
 refine⟨by decide,c1,⟨k1,by rw[ao];exact k2,bH _,k3⟩,by unfold QL;decide,fun z hz=> ?_⟩;rw[List.mem_singleton] at hz;subst hz;rw[aF];exact⟨bH _,k4⟩
theorem Di{x:Rat}(h:dc [a8 x]=true)(y:List UInt8):(0:Int)<=0/\(0:Int)<((if dc [a8 x]=true then [y] else []).length:Int):=by
 rw[if_pos h];simp
theorem H3{p:List (List UInt8)}{x:List UInt8}(h:br [p]=0)(h2:cS x=0)(h3:cO (aO (aX p) (dx x))=true):nth Ty.str (if cO (aO (aX p) (dx x))=true then [bS (aO (aX p) (dx x))] else []) 0=evS p x/\0=evE p x:=by
 rw[if_pos h3];exact H2 h h2 h3
theorem xj(q:Rat):dc [a8 q]=cO q:=by unfold dc;simp[aF]
structure Sml (n b:Nat) (l:List Rat):Prop where
 len:l.length<=n
 trm:Trm l
 den:Den b l
theorem Sml.pol{n b:Nat}{l:List Rat}(h:Sml n b l)(hn:n<=41)(hb:b<=222):Pol l:=⟨Nat.le_trans h.len hn,h.trm,FU h.den hb⟩
theorem Sml.mul{n m k b c:Nat}{l l2:List Rat}(h:Sml n b l)(h2:Sml m c l2)(hn:n<1000)(hk:n+m<=k+1)(hm:1<=m)(hn1:1<=n):Sml k (b+c+1) (b9 l l2):=by
 refine⟨?_,lS h.trm h2.trm,den_mul h.den h2.den (by have:=h.len;omega)⟩;by_cases h3:l= [];·rw[h3,fC];simp
 by_cases h4:l2= []
 ·rw[h4,kY];simp
 rw[gY h3 h4];have:=h.len;have:=h2.len;omega
theorem Sml.add{n m b c:Nat}{l l2:List Rat}(h:Sml n b l)(h2:Sml m c l2):Sml (max n m) (b+c+1) (bw (· + ·) l l2):=
 ⟨by have:=fB (· + ·) l l2;have:=h.len;have:=h2.len;omega,gv _ _ _,den_add h.den h2.den⟩
theorem Sml.sub{n m b c:Nat}{l l2:List Rat}(h:Sml n b l)(h2:Sml m c l2):Sml (max n m) (b+c+1) (bw (· - ·) l l2):=
 ⟨by have:=fB (· - ·) l l2;have:=h.len;have:=h2.len;omega,gv _ _ _,HR h.den h2.den⟩
theorem uY{K:Nat}(hK:1<=K):∀ l:List Rat,(∀ x∈l,lq x<=K)->Den (l.length*K+1) l
 | [],_=>lU (by omega)
 |a::l,h=>by
  obtain⟨D,d1,d2,d3⟩:=uY hK l fun x hx=>h x (List.mem_cons_of_mem _ hx);have ha:=h a (List.mem_cons_self ..);have h1:=ep a;have h2:=dU a;have e:(a::l).length*K+1=l.length*K+1+K:=by rw[List.length_cons,Nat.add_mul];omega
  refine⟨D*a.den,Int.mul_ne_zero d1 (fT a),by rw[e];have:=cj D a.den;omega,fun i=> ?_⟩;cases i with
  |zero=>
   refine⟨a.num*D,by rw[e];have:=cj a.num D;omega,?_⟩;(have e1:cf (a::l) 0=a:=by simp[cf]);rw[e1,Int.mul_comm D,Rat.divInt_mul_right d1];exact(Rat.num_divInt_den a).symm
  |succ i=>
   obtain⟨n,n1,n2⟩:=d3 i;refine⟨n*a.den,by rw[e];have:=cj n a.den;omega,?_⟩;(have e1:cf (a::l) (i+1)=cf l i:=by simp[cf]);rw[e1,n2,Rat.divInt_mul_right (fT a)]
theorem F4{l:List Rat}{n K:Nat}(hn:l.length<=n)(ht:Trm l)(hK:1<=K)(h:∀ x∈l,lq x<=K):Sml n (n*K+1) l:=
 ⟨hn,ht,(uY hK l h).mono (by have:=Nat.mul_le_mul_right K hn;omega)⟩
theorem Pol.sml{l:List Rat}(h:Pol l){n K:Nat}(hn:l.length<=n)(hK:1<=K)(hl:∀ x∈l,Cm.lq x<=K):Sml n (n*K+1) l:=F4 hn h.trm hK hl
theorem uZ{n b m c:Nat}{l q:List Rat}(hl:Sml n b l)(hq:Sml m c q)(pl:Pol l)(pq:Pol q)(hb:(max b c+1)*(n+2)*3^m<=QD):bl gG bX (txP l) (txP q)/\gG (ar l) (ar q)/\Den ((max b c+1)*(n+2)*3^m) (bX l q):=by
 have e1:QD=10000000000:=rfl;have e2:QC=100000000000:=rfl;have e3:QL=1000000000:=rfl;have hll:=hl.len;have hlq:=hq.len;have pl1:=pl.len;have pq1:=pq.len;have hbd:(max b c+1)*(l.length+1-q.length+1)*3^q.length<=QD:=by
  refine Nat.le_trans (Nat.mul_le_mul (Nat.mul_le_mul (Nat.le_refl _) (by omega:_<=n+2)) (Nat.pow_le_pow_right (by omega) hlq)) hb
 obtain⟨g1,g2⟩:=Jo (p:=ar l) (q:=ar q) (b:=max b c) (gi _) (gi _) (by rw[ax];exact hl.den.mono (by omega)) (by rw[ax];exact hq.den.mono (by omega)) (by rw[ao];omega) (by rw[ao];omega) (by rw[ax];exact hl.trm) (by rw[ax];exact hq.trm) (by rw[ao,ao];exact hbd);rw[ax,ax,ao,ao] at g2;have g2:=g2.mono (Nat.le_refl _);refine⟨gI pl pq g1 (fun x hx=>by have:=g2.lq x hx;omega) ?_,g1,g2.mono (Nat.mul_le_mul (Nat.mul_le_mul (Nat.le_refl _) (by omega:_<=n+2)) (Nat.pow_le_pow_right (by omega) hlq))⟩;have key:∀ (k:Nat) (a b:List Rat),a.length<=900->b.length<=900->Trm b->(de k a b).length<=900:=by
  intro k;induction k with
  |zero=>intro a b ha _ _;rw[de,bN];exact ha
  |succ k ih=>
   intro a b ha hb tb;rw[de];split;·rw[bN];exact ha
   ·rename_i hne;by_cases hta:Trm a;·have:=dW (p:=a) (List.length_pos_iff.2 hne) (tb hne);exact ih _ _ hb (by rw[bN];omega) (gu (gr hta))
    ·have h3:=dW (p:=a) (List.length_pos_iff.2 hne) (tb hne);have:∀ (k:Nat) (a b:List Rat),a.length<=900->b.length<=900->(de k a b).length<=900:=by
      intro k;induction k with
      |zero=>intro a b ha _;rw[de,bN];exact ha
      |succ k ih2=>
       intro a b ha hb;rw[de];split;·rw[bN];exact ha
       ·refine ih2 _ _ hb ?_;rw[bN];have hlen:∀ (q:List Rat) (n:Nat) (r s:List Rat),(en q n r s).2.length<=r.length:=by
         intro q n;induction n with
         |zero=>intro r s;exact Nat.le_refl _
         |succ n ih3=>
          (intro r s;rw[en];split;·have h5:=ih3 (aS (b8 q r)) (s.set (r.length-q.length) (ay r/ay q));have h6:=gq (b8 q r);rw[dV] at h6;omega);·exact Nat.le_refl _
        have:=hlen b (a.length+1) a (List.replicate (a.length+1-b.length) 0);unfold divN;omega
     exact this _ _ _ hb (by rw[bN];omega)
 have:=key (q.length+1) l q (by omega) (by omega) hq.trm;unfold bX;omega
theorem kk(l:List Rat):(bK l).length=l.length-1:=by unfold bK kB;simp
theorem Jv{l:List Rat}{i:Nat}(h:i<l.length-1):cf (bK l) i=cf l (i+1)*((i+1:Nat):Rat):=by
 unfold bK kB;conv=>lhs;unfold cf
 rw[List.getD_eq_getElem?_getD,List.getElem?_map,List.getElem?_range h];show cf l (i+1)*Rat.divInt ((i+1:Nat):Int) 1=_;rw[Rat.divInt_eq_div,Rat.intCast_natCast];rw[show ((1:Int):Rat)=1 from rfl];grind
theorem A8{l:List Rat}(h:Trm l):Trm (bK l):=by
 intro hn;have h1:=List.length_pos_iff.2 hn;rw[kk] at h1;have h2:l≠ []:=fun e=>by rw[e] at h1;simp at h1
 have h3:=h h2;rw[b4 (by omega)] at h3;rw[b4 (by rw[kk];omega),kk,Jv (by omega),show l.length-1-1+1=l.length-1 by omega];have h4:((l.length-1:Nat):Rat)≠0:=by
  intro e;have:(l.length-1:Nat)=0:=by exact_mod_cast e
  omega
 intro e;rcases Rat.mul_eq_zero.1 e with e|e;·exact h3 e
 ·exact h4 e
theorem Sml.der{n b:Nat}{l:List Rat}(h:Sml n b l)(hn:n<1000000000):Sml (n-1) (b+1) (bK l):=
 ⟨by rw[kk];have:=h.len;omega,A8 h.trm,A3 h.den (by have:=h.len;omega)⟩
theorem A9{l:List Rat}(hl:Pol l):bl (fun p _=>Sz QH p/\p.length<=1000) (fun a _=>bK a) (txP l) []:=by
 have e1:QH=40000000000:=rfl;have e2:QL=1000000000:=rfl;have e3:QC=100000000000:=rfl;have hln:=hl.len;refine gI (m:= []) hl lV ⟨hl.enc_ok (by omega),by rw[ao];omega⟩ ?_ (by show (bK l).length<=_;rw[kk];omega);intro x hx;have hd:=A3 (uY (K:=2000) (by omega) l hl.lq) (by omega);have:=hd.lq x hx;have h4:l.length*2000<=41*2000:=Nat.mul_le_mul_right _ hln;omega
theorem F5{l:List Rat}(hl:Pol l){x:Rat}(hx:cO x=true):rl (txP l) (bS x):=by
 have e1:QM=400000000:=rfl;have e2:QL=1000000000:=rfl;have e3:QC=100000000000:=rfl;have hln:=hl.len;have hxl:=uW hx;refine⟨hl.short,by have:=mD hxl;omega,fun _ _=> ?_⟩;rw[hl.num,gw];refine⟨hl.enc_ok (by omega),by omega,by omega,?_⟩;have h1:=uI hl.lq hxl;have h4:l.length*(2*2000+1)<=41*(2*2000+1):=Nat.mul_le_mul_right _ hln;omega
theorem F6{l:List Rat}(hl:Pol l){x:Rat}(hx:cO x=true):evE (txP l) (bS x)=kJ (aO l x)/\evS (txP l) (bS x)=IU (aO l x):=by
 have hc:br [txP l]=0:=by unfold br;rw[if_pos hl.chk];rfl
 have hq:cS (bS x)=0:=by rw[sX,je];exact hx
 have e:evE (txP l) (bS x)=kJ (aO l x):=by unfold evE;rw[if_pos hc,if_pos hq,hl.num,gw]
 refine⟨e,?_⟩;unfold evS;rw[e,hl.num,gw];unfold IU;by_cases h:cO (aO l x)=true;·rw[if_pos h,if_pos (je.2 h)]
 ·rw[if_neg h,if_neg (fun e=>h (je.1 e))]
theorem s5:∀ (n:Nat) (p q:List Rat),Trm p->Trm q->Trm (de n p q)
 |0,p,q,tp,tq=>by rw[de];exact gu tp
 |n+1,p,q,tp,tq=>by
  rw[de];split;·exact gu tp
  ·exact s5 n _ _ tq (gu (gr tp))
theorem F7{p q:List Rat}(tp:Trm p)(tq:Trm q):Trm (bX p q):=s5 _ _ _ tp tq
theorem rm(q:List Rat):∀ (n:Nat) (r s:List Rat),(en q n r s).2.length<=r.length
 |0,r,s=>Nat.le_refl _
 |n+1,r,s=>by
  rw[en];split;·have h5:=rm q n (aS (b8 q r)) (s.set (r.length-q.length) (ay r/ay q));have h6:=gq (b8 q r);rw[dV] at h6;omega
  ·exact Nat.le_refl _
theorem s6:∀ (n:Nat) (p q:List Rat),(de n p q).length<=max p.length q.length
 |0,p,q=>by rw[de,bN];omega
 |n+1,p,q=>by
  rw[de];split;·rw[bN];omega
  ·have h1:=s6 n q (cD (divN p q).2);have h2:=rm q (p.length+1) p (List.replicate (p.length+1-q.length) 0);rw[bN] at h1;unfold divN at h1 ⊢;omega
theorem F8(p q:List Rat):(bX p q).length<=max p.length q.length:=s6 _ _ _
theorem mE{l:List Rat}:cD l= []↔l= []:=by
 unfold cD;simp
theorem s7:∀ (n:Nat) (p q:List Rat),q.length<n->(p≠ []∨q≠ [])->de n p q≠ []
 |0,p,q,h,_=>absurd h (by omega)
 |n+1,p,q,h,hne=>by
  rw[de];split
  ·(rename_i hq;intro e;rw[mE] at e;rcases hne with h1|h1;·exact h1 e);·exact h1 hq
  ·rename_i hq;by_cases ht:(cD (divN p q).2).length<n;·exact s7 n _ _ ht (.inl hq)
   ·
    have key:∀ (k:Nat) (a b:List Rat),a≠ []->de k a b≠ []:=by
     intro k;induction k with
     |zero=>intro a b ha e;rw[de,mE] at e;exact ha e
     |succ k ih=>
      (intro a b ha;rw[de];split;·intro e;rw[mE] at e;exact ha e);·rename_i hb;exact ih _ _ hb
    exact key n _ _ hq
theorem Ba{p q:List Rat}(h:p≠ []∨q≠ []):bX p q≠ []:=s7 _ _ _ (Nat.lt_succ_self _) h
theorem Jw{n b c:Nat}{l:List Rat}(hl:Sml n b l)(pl:Pol l)(hg:gG (ar l) (ar (bK l)))(dg:Den c (bX l (bK l)))(hK:b+(n+1)*(c+1)<=QD):jT (ar l)/\(∀ x∈(divN l (bX l (bK l))).1,lq x<=QD):=by
 have e1:QD=10000000000:=rfl;have e2:QH=40000000000:=rfl;have hll:=hl.len;have pl1:=pl.len;have hcK:c<=QD:=by
  have:1*(c+1)<=(n+1)*(c+1):=Nat.mul_le_mul_right _ (by omega);omega
 have hgl:=F8 l (bK l);rw[kk] at hgl;have tg:=F7 hl.trm (A8 hl.trm);have hq1:l≠ []->∀ x∈(divN l (bX l (bK l))).1,lq x<=QD:=by
  intro h;have hbd:b+(l.length+1-(bX l (bK l)).length)*(c+1)<=QD:=by
   have:(l.length+1-(bX l (bK l)).length)*(c+1)<=(n+1)*(c+1):=Nat.mul_le_mul_right _ (by omega);omega
  exact(nQ hl.den dg (Ba (.inl h)) tg hbd (by omega)).1
 refine⟨fun hne=> ?_,?_⟩
 ·have h:l≠ []:=fun e=>hne (by rw[e];rfl);rw[ax,ao];have hgn:=Ba (q:=bK l) (.inl h);have hbd:b+(l.length+1-(bX l (bK l)).length)*(c+1)<=QD:=by
   have:(l.length+1-(bX l (bK l)).length)*(c+1)<=(n+1)*(c+1):=Nat.mul_le_mul_right _ (by omega);omega
  refine⟨pl.enc_ok (by omega),by omega,hg,zL (b:=b) (c:=c) (gi _) (gi _) (by rw[ax];exact hl.den) (by rw[ax];exact dg) (by rw[ao];omega) (by rw[ao];omega) (by rw[ao];exact List.length_pos_iff.2 hgn) (by rw[ax];exact tg) (by rw[ao,ao];exact hbd) hcK,?_⟩;refine⟨eE fun x hx=>by have:=hq1 h x hx;omega,by rw[ao,iG];omega,fun hq=> ?_⟩;rw[ax];have hlen:=iG l (bX l (bK l));have hsn:(divN l (bX l (bK l))).1≠ []:=fun e=>hq (by rw[e];rfl);have hgp:=List.length_pos_iff.2 hgn;have hlong:(bX l (bK l)).length<=l.length:=by omega
  intro h0;have hev:∀ x,aO (aS (divN l (bX l (bK l))).1) x*aO (bX l (bK l)) x+aO (divN l (bX l (bK l))).2 x=aO l x:=fun x=>by rw[lQ];exact A2 hgn tg x
  have hmul:bw (· + ·) (b9 (aS (divN l (bX l (bK l))).1) (bX l (bK l))) (divN l (bX l (bK l))).2=l:=mz (gv _ _ _) hl.trm fun x=>by rw[FK,zI];exact hev x
  have hs:=dW (p:=l) hgp (tg hgn);have h1:=fB (· + ·) (b9 (aS (divN l (bX l (bK l))).1) (bX l (bK l))) (divN l (bX l (bK l))).2;rw[hmul] at h1;have h2:=nw (l:=(divN l (bX l (bK l))).1) (List.length_pos_iff.2 hsn) h0;by_cases hz:aS (divN l (bX l (bK l))).1= [];·rw[hz,fC] at h1;simp only[List.length_nil] at h1;omega
  ·rw[gY hz hgn] at h1;omega
 ·intro x hx;by_cases h:l= [];·subst h;(have e0:(divN [] (bX [] (bK []))).1= [0]:=by decide+kernel);rw[e0,List.mem_singleton] at hx;rw[hx];exact Nat.le_trans kj (by omega)
  ·exact hq1 h x hx
theorem Dj{l:List Rat}(h:∀ x∈(divN l (bX l (bK l))).1,lq x<=QD):∀ x∈bO l,lq x<=2*QD:=by
 intro x hx;unfold bO at hx;split at hx;·simp at hx
 ·obtain⟨y,hy,rfl⟩:=List.mem_map.1 hx;have h1:=h y hy;have h2:=uA y (ay (divN l (bX l (bK l))).1);have hp:0<(divN l (bX l (bK l))).1.length:=List.length_pos_of_mem hy;have h3:=h (ay (divN l (bX l (bK l))).1) (by rw[b4 hp];exact qR (by omega));omega
theorem zT(l:List Rat):(bO l).length<=l.length+1:=by
 unfold bO;split;·simp
 ·rw[bN,iG];omega
theorem H4{n b c:Nat}{l:List Rat}(hl:Sml n b l)(pl:Pol l)(hg:gG (ar l) (ar (bK l)))(dg:Den c (bX l (bK l)))(hK:b+(n+1)*(c+1)<=QD):bl (fun p _=>jT p) (fun a _=>bO a) (txP l) []:=by
 have e1:QD=10000000000:=rfl;have e2:QC=100000000000:=rfl;have e3:QL=1000000000:=rfl;obtain⟨h1,h2⟩:=Jw hl pl hg dg hK;refine gI (m:= []) pl lV h1 (fun x hx=> ?_) ?_;·have:=Dj h2 x hx;omega
 ·show (bO l).length<=_;have:=zT l;have:=pl.len;omega
theorem H5{b:Nat}{l:List Rat}(h:Den b l)(i:Nat):Den b (aS [cf l i]):=by
 refine lT ?_;obtain⟨D,d1,d2,d3⟩:=h;refine⟨D,d1,d2,fun j=> ?_⟩;cases j with
 |zero=>obtain⟨n,n1,n2⟩:=d3 i;exact⟨n,n1,by rw[<- n2];simp[cf]⟩
 |succ j=>exact⟨0,by rw[ja];omega,by rw[Rat.zero_divInt,eg (by simp)]⟩
theorem xk{n b m c:Nat}{p q:List Rat}(hp:Sml n b p)(hq:Sml m c q)(hnm:n*m<=1000):∀ k,k<=n->Den (1+k*(b+c+2)) (fY p q k)/\(fY p q k).length<=1+k*m
 |0,_=>⟨lU (by omega),by simp[fY]⟩
 |k+1,hk=>by
  obtain⟨h1,h2⟩:=xk hp hq hnm k (by omega);have hkm:k*m<=n*m:=Nat.mul_le_mul_right _ (by omega);have hl:(fY p q k).length<1000000000:=by omega
  rw[fY,q9,Nat.add_mul,Nat.add_mul];refine⟨(den_add (den_mul h1 hq.den hl) (H5 hp.den _)).mono (by omega),?_⟩;have h3:=fB (· + ·) (b9 (fY p q k) q) (aS [cf p (p.length-1-k)]);have h4:=ra (fY p q k) q;have h5:=gq [cf p (p.length-1-k)];simp only[List.length_cons,List.length_nil] at h5;have h6:=hq.len;by_cases hz:fY p q k= [];·rw[hz,fC] at h3;simp only[List.length_nil] at h3;rw[hz,fC];omega
  ·omega
theorem F9{n b m c:Nat}{p q:List Rat}(hp:Sml n b p)(hq:Sml m c q)(pp:Pol p)(pq:Pol q)(hnm:n*m<=98)(hb:b<=100000)(hc:c<=100000)(hn:n<=98)(hm:m<=98):bl uO jt (txP p) (txP q):=by
 have e1:QM=400000000:=rfl;have e2:QC=100000000000:=rfl;have e3:QL=1000000000:=rfl;have e4:QH=40000000000:=rfl;have hlp:=hp.len;have hlq:=hq.len;have key:∀ k,k<=n->Den 19700000 (fY p q k)/\(fY p q k).length<=99:=by
  intro k hk;obtain⟨h1,h2⟩:=xk hp hq (by omega) k hk;have h3:k*(b+c+2)<=98*200002:=Nat.mul_le_mul (by omega) (by omega);have h4:k*m<=n*m:=Nat.mul_le_mul_right _ hk;exact⟨h1.mono (by omega),by omega⟩
 refine gI pp pq ⟨pp.enc_ok (by omega),by rw[ao];omega,fun k hk=> ?_⟩ ?_ ?_
 ·rw[ao] at hk ⊢;rw[ax,ax];obtain⟨h1,h2⟩:=key k (by omega);have h5:=den_mul h1 hq.den (by omega);refine⟨h1.sz (by omega),pq.enc_ok (by omega),by rw[ao];omega,by rw[ao];omega,bH _,?_,?_⟩;·rw[aF];exact Nat.le_trans (nv pp.lq (by omega) _) (by omega)
  ·rw[ax,ax];exact h5.sz (by omega)
 ·intro x hx;have:=(key p.length (by omega)).1.lq x hx;omega
 ·have:=(key p.length (by omega)).2;show (fY p q p.length).length<=_;omega
def smB(n K:Nat)(p:List (List UInt8)):Bool:=decide (ca p=0)&&decide (p.length<=n)&&p.all (fun q=>decide (q.length<=10000))&&(aX p).all fun x=>decide (lq x<=K)
theorem cA{n K:Nat}{p:List (List UInt8)}(h:smB n K p=true)(hn:n<=41)(hK:1<=K):Pol (aX p)/\txP (aX p)=p/\Sml n (n*K+1) (aX p):=by
 unfold smB at h;simp only[Bool.and_eq_true,decide_eq_true_iff,List.all_eq_true] at h;obtain⟨⟨⟨h1,h2⟩,h3⟩,h4⟩:=h;have hs:cl p:=⟨by unfold QL;omega,fun q hq=>by have:=h3 q hq;unfold QL;omega⟩;obtain⟨t1,t2,t3,t4⟩:=HT hs h1;have hl:(aX p).length=p.length:=by rw[<- t1,uV,t1]
 exact⟨⟨t2,t3,t4⟩,t1,F4 (by omega) t3 hK h4⟩
theorem JT{n K:Nat}{p q:List (List UInt8)}(hp:smB n K p=true)(hq:smB n K q=true)(hn:n<=41:=by decide)(hK:1<=K:=by decide):bl (fun p q=>Sz QH p/\Sz QH q/\p.length<=1000/\q.length<=1000) (bw (· + ·)) p q:=by
 have h:=A7 (cA hp hn hK).1 (cA hq hn hK).1;rwa [(cA hp hn hK).2.1,(cA hq hn hK).2.1] at h
theorem JU{n K:Nat}{p q:List (List UInt8)}(hp:smB n K p=true)(hq:smB n K q=true)(hn:n<=41:=by decide)(hK:1<=K:=by decide):bl (fun p q=>Sz QH p/\Sz QH q/\p.length<=1000/\q.length<=1000) (bw (· - ·)) p q:=by
 have h:=HV (cA hp hn hK).1 (cA hq hn hK).1;rwa [(cA hp hn hK).2.1,(cA hq hn hK).2.1] at h
theorem Bb{n K:Nat}{p q:List (List UInt8)}(hp:smB n K p=true)(hq:smB n K q=true)(hn:n<=41:=by decide)(hK:1<=K:=by decide):bl (fun p q=>Sz QM p/\Sz QM q/\p.length<=100/\q.length<=100) b9 p q:=by
 have h:=uX (cA hp hn hK).1 (cA hq hn hK).1;rwa [(cA hp hn hK).2.1,(cA hq hn hK).2.1] at h
theorem Ga{n K:Nat}{p q:List (List UInt8)}(hp:smB n K p=true)(hq:smB n K q=true)(hb:(max (n*K+1) (n*K+1)+1)*(n+2)*3^n<=QD:=by decide)(hn:n<=41:=by decide)(hK:1<=K:=by decide):bl gG bX p q:=by
 have h:=(uZ (cA hp hn hK).2.2 (cA hq hn hK).2.2 (cA hp hn hK).1 (cA hq hn hK).1 hb).1;rwa [(cA hp hn hK).2.1,(cA hq hn hK).2.1] at h
theorem IW{n K:Nat}{p:List (List UInt8)}(hp:smB n K p=true)(hn:n<=41:=by decide)(hK:1<=K:=by decide):bl (fun p _=>Sz QH p/\p.length<=1000) (fun a _=>bK a) p []:=by
 have h:=A9 (cA hp hn hK).1;rwa [(cA hp hn hK).2.1] at h
theorem H6{l:List Rat}{n b:Nat}(h:Sml n b l)(hn:n<=41)(hb:b<=220):Pol (bK l):=(h.der (by omega)).pol (by omega) (by omega)
theorem H7{n b:Nat}{l:List Rat}(hl:Sml n b l)(hn:n<=41)(hb:b<=220)(hK:b+(n+1)*((b+2)*(n+2)*3^(n-1)+1)<=QD):bl (fun p _=>jT p) (fun a _=>bO a) (txP l) []:=by
 have pl:=hl.pol hn (by omega);have pd:=H6 hl hn hb;have e:max b (b+1)+1=b+2:=by omega
 have hle:(b+2)*(n+2)*3^(n-1)<=QD:=by
  have:1*((b+2)*(n+2)*3^(n-1)+1)<=(n+1)*((b+2)*(n+2)*3^(n-1)+1):=Nat.mul_le_mul_right _ (by omega);omega
 obtain⟨_,g1,g2⟩:=uZ hl (hl.der (by omega)) pl pd (by rw[e];exact hle);rw[e] at g2;exact H4 hl pl g1 g2 hK
theorem Gb{n K:Nat}{p:List (List UInt8)}(hp:smB n K p=true)(hb:n*K+1<=220:=by decide)(hq:(n*K+1)+(n+1)*((n*K+1+2)*(n+2)*3^(n-1)+1)<=QD:=by decide)(hn:n<=41:=by decide)(hK:1<=K:=by decide):bl (fun p _=>jT p) (fun a _=>bO a) p []:=by
 have h:=H7 (cA hp hn hK).2.2 hn hb hq;rwa [(cA hp hn hK).2.1] at h
theorem k8{n m K:Nat}{p q:List (List UInt8)}(hp:smB n K p=true)(hq:smB m K q=true)(hnm:n*m<=98:=by decide)(hb:n*K+1<=100000:=by decide)(hc:m*K+1<=100000:=by decide)(hn:n<=41:=by decide)(hm:m<=41:=by decide)(hK:1<=K:=by decide):fF p q:=by
 have h1:=cA hp hn hK;have h2:=cA hq hm hK;have h:=F9 h1.2.2 h2.2.2 h1.1 h2.1 hnm hb hc (by omega) (by omega);rw[h1.2.1,h2.2.1] at h;have s1:=h1.1.short;have s2:=h2.1.short;rw[h1.2.1] at s1;rw[h2.2.1] at s2;exact⟨s1,s2,fun _=>h⟩
theorem zU{n K:Nat}{p q:List (List UInt8)}(hp:smB n K p=true)(hq:smB n K q=true)(hn:n<=41:=by decide)(hK:1<=K:=by decide)(hb:K<=2000:=by decide):rk p q:=by
 have e1:QD=10000000000:=rfl;have e2:QC=100000000000:=rfl;have e3:QL=1000000000:=rfl;obtain⟨p1,p2,p3⟩:=cA hp hn hK;obtain⟨q1,q2,q3⟩:=cA hq hn hK;have s1:=p1.short;have s2:=q1.short;rw[p2] at s1;rw[q2] at s2;refine⟨s1,s2,fun _ h0=> ?_⟩;have hlp:=p3.len;have hlq:=q3.len;have hnK:n*K<=41*2000:=Nat.mul_le_mul hn hb;have hbd:n*K+1+((aX p).length+1-(aX q).length)*(n*K+1+1)<=4000000:=by
  have:((aX p).length+1-(aX q).length)*(n*K+1+1)<=42*82002:=Nat.mul_le_mul (by omega) (by omega);omega
 obtain⟨k1,k2⟩:=nQ (K:=4000000) p3.den q3.den h0 q3.trm hbd (by omega);have hs:=dW (p:=aX p) (List.length_pos_iff.2 h0) (q3.trm h0);refine⟨zL (b:=n*K+1) (c:=n*K+1) (gi _) (gi _) (by rw[ax];exact p3.den) (by rw[ax];exact q3.den) (by rw[ao];omega) (by rw[ao];omega) (by rw[ao];exact List.length_pos_iff.2 h0) (by rw[ax];exact q3.trm) (by rw[ao,ao];omega) (by omega),⟨eE fun x hx=>by have:=k1 x hx;omega,by rw[ao,iG];omega⟩,k2.sz (by omega),by rw[ao];omega⟩
theorem zV{n K:Nat}{p:List (List UInt8)}{x:List UInt8}(hp:smB n K p=true)(hx:x.length<=3000)(hn:n<=41:=by decide)(hK:1<=K:=by decide):rl p x:=by
 have e1:QM=400000000:=rfl;have e2:QL=1000000000:=rfl;have e3:QC=100000000000:=rfl;obtain⟨p1,p2,p3⟩:=cA hp hn hK;have s1:=p1.short;rw[p2] at s1;refine⟨s1,by omega,fun h1 h2=> ?_⟩;have hxl:lq (dx x)<=2000:=uW (sY h2 (by omega)).2;have h3:=uI p1.lq hxl;have h4:(aX p).length*(2*2000+1)<=41*(2*2000+1):=Nat.mul_le_mul_right _ p1.len;exact⟨p1.enc_ok (by omega),by have:=p1.len;omega,by omega,by omega⟩
theorem repeatL_one(c:UInt8):∀ n,Lib.repeatL [c] n=List.replicate n c
 |0=>rfl
 |n+1=>by rw[Lib.repeatL,repeatL_one c n];rfl
theorem Jy{α:Type}{l:List α}{n:Nat}(h:l.length=n)(hn:0<n):l≠ []:=fun e=>by rw[e] at h;simp at h;omega
def bk:List UInt8:=Lib.repeatL [57] 2000
theorem nA:∀ n:Nat,numOf (List.replicate n 57)+1=10^n
 |0=>rfl
 |n+1=>by
  have h:=nA n;rw[List.replicate_succ',dm,Nat.pow_succ];have e:numOf [(57:UInt8)]=9:=by decide
  rw[e];show numOf (List.replicate n 57)*10^1+9+1=_;omega
theorem H8{c:UInt8}(h:48<=c.toNat/\c.toNat<=57)(n:Nat):cR (List.replicate n c):=by
 intro x hx;rw[(List.mem_replicate.1 hx).2];exact h
theorem Dk(c:UInt8)(n:Nat)(h:0<n):(List.replicate n c).getD 0 0=c:=by
 cases n with
 |zero=>omega
 |succ n=>rfl
theorem zW{D:List UInt8}(h:cR D)(hne:D≠ [])(h0:D.getD 0 0≠48)(hl:D.length<=2000):OKT D (numOf D:Int):=by
 have ht:=kV h;have hc:=kW ht.2 h hne (.inl h0);refine⟨by rw[hc,if_neg (by omega)],?_⟩;unfold bu;rw[ht.1,ht.2];rfl
theorem xl:bk=List.replicate 2000 57:=repeatL_one 57 2000
theorem eM:cR bk/\bk≠ []/\bk.getD 0 0=57/\bk.length=2000/\numOf bk+1=10^2000:=by
 rw[xl];have hl:(List.replicate 2000 (57:UInt8)).length=2000:=List.length_replicate;exact⟨H8 (by decide) _,Jy hl (by decide),Dk _ _ (by decide),hl,nA 2000⟩
def pwL(n:Nat):List (List UInt8):=List.replicate n [48]++ [[49]]
def u0:Int:=(numOf bk:Int)
def da:Rat:=(u0:Rat)
theorem s8:chk bk=0/\bu bk=u0:=by
 obtain⟨h1,h2,h3,h4,_⟩:=eM;have h:=zW h1 h2 (by rw[h3];decide) (by omega);exact⟨h.1,h.2⟩
theorem lX:bS da=bk:=by
 obtain⟨h1,h2⟩:=s8;obtain⟨h3,_⟩:=kg h1;unfold bS da;rw[if_pos (Rat.den_intCast _),Rat.num_intCast,<- h2,h3]
theorem fits_int(n:Int):cO (n:Rat)=decide (dv n<=2000):=by
 unfold cO;rw[Rat.num_intCast,Rat.den_intCast];have h1:dv ((1:Nat):Int)<=2000:=by simp[dv,Lib.itoa,Lib.decDigits]
 simp only[h1,and_true]
theorem Gc:cO da=true:=by
 obtain⟨h1,h2⟩:=s8;obtain⟨_,h4⟩:=kg h1;unfold da;rw[fits_int,<- h2];exact decide_eq_true h4
theorem rn{n:Int}(h:u0+1<=n):cO (n:Rat)=false:=by
 rw[fits_int];have key:∀ P:Nat,numOf bk+1=P->P<=n.natAbs:=fun P hP=>by unfold u0 at h;omega
 have:=AR (key _ eM.2.2.2.2);exact decide_eq_false (by omega)
theorem u7:9<=u0:=by
 have e:bk= [57]++List.replicate 1999 57:=by rw[xl];rfl
 unfold u0;rw[e,dm];have h9:numOf [(57:UInt8)]=9:=by decide
 rw[h9];have h1:1<=10^(List.replicate 1999 (57:UInt8)).length:=Nat.pow_pos (by decide);generalize 10^(List.replicate 1999 (57:UInt8)).length=P at*;omega
theorem Gd:da≠0:=by
 have:=u7;unfold da;intro e;have:u0=0:=by exact_mod_cast e
 omega
theorem nR{l:List Rat}(h:l.length<=40)(h0:∀ x∈l,x=0):Pol (l++ [da]):=by
 refine⟨by simp;omega,fun _=> ?_,?_⟩;·unfold ay;simp[Gd]
 ·unfold iH;rw[List.all_eq_true];intro x hx;rcases List.mem_append.1 hx with hx|hx;·rw[h0 x hx];decide+kernel
  ·rw[List.mem_singleton.1 hx];exact Gc
theorem qz:bS 0= [48]:=kZ.2 rfl
theorem u9:txP [da]= [bk]:=by unfold txP;rw[List.map_cons,List.map_nil,lX]
theorem vc:txP [0,da]= [[48],bk]:=by unfold txP;rw[List.map_cons,List.map_cons,List.map_nil,lX,qz]
theorem H9:txP [0,0,da]= [[48],[48],bk]:=by unfold txP;rw[List.map_cons,List.map_cons,List.map_cons,List.map_nil,lX,qz]
theorem Ge:txP (List.replicate 40 0++ [da])=List.replicate 40 [48]++ [bk]:=by unfold txP;rw[List.map_append,List.map_replicate,List.map_cons,List.map_nil,lX,qz]
theorem mF:Pol [da]:=nR (l:= []) (by simp) (by simp)
theorem fV:Pol [0,da]:=nR (l:= [0]) (by simp) (by simp)
theorem Gf:Pol [0,0,da]:=nR (l:= [0,0]) (by simp) (by simp)
theorem ve:Pol (List.replicate 40 0++ [da]):=nR (by simp) (by simp)
theorem xm{l:List Rat}(h:(decide (l.length<=41)&&decide (l= []∨ay l≠0)&&iH l)=true):Pol l:=by
 simp only[Bool.and_eq_true,decide_eq_true_iff] at h;exact⟨h.1.1,fun hn=>h.1.2.resolve_left hn,h.2⟩
theorem Gg:Pol [1]:=xm (by decide+kernel)
theorem vf:Pol [10]:=xm (by decide+kernel)
theorem vg:Pol [0,10]:=xm (by decide+kernel)
theorem mG:Pol [1/10]:=xm (by decide+kernel)
theorem JV:txP [1]= [[49]]:=by decide+kernel
theorem Jz:txP [10]= [[49,48]]:=by decide+kernel
theorem JA:txP [0,10]= [[48],[49,48]]:=by decide+kernel
theorem JW:txP [1/10]= [[49,47,49,48]]:=by decide+kernel
theorem Bc(k:Nat):da*(k:Rat)=((u0*(k:Int):Int):Rat):=by
 unfold da;rw[Rat.intCast_mul];rfl
theorem lY{f:List Rat->List Rat->List Rat}{l m:List Rat}(hl:Pol l)(hm:Pol m){e:Int}(he:bQ (aS (f l m))=e)(h0:e≠0):bZ f (txP l) (txP m)= []/\bY f (txP l) (txP m)=e:=by
 unfold bZ bY;rw[if_pos (iI hl hm),if_pos (iI hl hm),hl.num,hm.num];unfold gH;exact⟨if_neg (by rw[he];exact h0),he⟩
theorem kl{r:List Rat}(h:r.length<=41){x:Rat}(hx:x∈r)(hf:cO x=false):bQ r=6:=by
 unfold bQ;rw[if_neg (by omega),sZ,if_neg];intro h2;unfold iH at h2;rw[List.all_eq_true] at h2;rw[h2 x hx] at hf;exact absurd hf (by decide)
theorem km{x:Rat}(h:cO x=false):x≠0:=by
 rintro rfl;exact absurd h (by decide+kernel)
theorem mH:cO (da*10)=false:=by
 have e:=Bc 10;rw[show ((10:Nat):Rat)=10 from rfl] at e;rw[e];exact rn (by have:=u7;omega)
theorem IX:cO (da*2)=false:=by
 have e:=Bc 2;rw[show ((2:Nat):Rat)=2 from rfl] at e;rw[e];exact rn (by have:=u7;omega)
theorem Gh:cO (da+1)=false:=by
 have e:da+1=((u0+1:Int):Rat):=by unfold da;rw[Rat.intCast_add];rfl
 rw[e];exact rn (by omega)
theorem py1:rl [[48],bk] [49,48]/\evE [[48],bk] [49,48]=6:=by
 have f10:cO 10=true:=by decide+kernel
 have t10:bS 10= [49,48]:=by decide+kernel
 rw[<- vc,<- t10];refine⟨F5 fV f10,?_⟩;rw[(F6 fV f10).1];have e:aO [0,da] 10=da*10:=by rw[cB,cB,dY];grind
 unfold kJ;rw[e,mH];rfl
theorem fG{p:List (List UInt8)}(h:(decide (p.length<=QL)&&p.all fun q=>decide (q.length<=QL))=true):cl p:=by
 rw[Bool.and_eq_true,decide_eq_true_iff,List.all_eq_true] at h;exact⟨h.1,fun q hq=>of_decide_eq_true (h.2 q hq)⟩
theorem py2:rl [[120]] [121]/\evE [[120]] [121]=40:=⟨⟨fG (by decide+kernel),by decide+kernel,fun h=>absurd h (by decide+kernel)⟩,by decide+kernel⟩
theorem Ia{n b:Nat}{l q:List Rat}(p1:Pol l)(q1:Pol q)(p3:Sml n b l)(q3:Sml n b q)(hn:n<=41)(hb:b<=82001):rk (txP l) (txP q):=by
 have e1:QD=10000000000:=rfl;have e2:QC=100000000000:=rfl;have e3:QL=1000000000:=rfl;refine⟨p1.short,q1.short,fun _ h0=> ?_⟩;rw[q1.num] at h0;rw[p1.num,q1.num];have hlp:=p3.len;have hlq:=q3.len;have hbd:b+(l.length+1-q.length)*(b+1)<=4000000:=by
  have:(l.length+1-q.length)*(b+1)<=42*82002:=Nat.mul_le_mul (by omega) (by omega);omega
 obtain⟨k1,k2⟩:=nQ (K:=4000000) p3.den q3.den h0 q3.trm hbd (by omega);have hs:=dW (p:=l) (List.length_pos_iff.2 h0) (q3.trm h0);refine⟨zL (b:=b) (c:=b) (gi _) (gi _) (by rw[ax];exact p3.den) (by rw[ax];exact q3.den) (by rw[ao];omega) (by rw[ao];omega) (by rw[ao];exact List.length_pos_iff.2 h0) (by rw[ax];exact q3.trm) (by rw[ao,ao];omega) (by omega),⟨eE fun x hx=>by have:=k1 x hx;omega,by rw[ao,iG];omega⟩,k2.sz (by omega),by rw[ao];omega⟩
theorem py3:rk [[48],bk] [[49,47,49,48]]/\dvE [[48],bk] [[49,47,49,48]]=6:=by
 rw[<- vc,<- JW];refine⟨Ia fV mG (fV.sml (n:=2) (K:=2000) (by simp) (by decide) fV.lq) (mG.sml (n:=2) (K:=2000) (by simp) (by decide) mG.lq) (by decide) (by decide),?_⟩;unfold dvE;rw[if_pos (iI fV mG),fV.num,mG.num,if_neg (by simp)];have tr:Trm [0,da*10]:=fun _=>by unfold ay;exact km mH
 obtain⟨u1,_⟩:=xb (p:= [0,da]) (q:= [1/10]) (s:= [0,da*10]) (r:= []) (by simp) fV.trm mG.trm tr uS (by simp) fun x=>by
  rw[dY,cB,cB,dY,cB,dY,cB,cB,dY];grind
 rw[u1];have h6:bQ [0,da*10]=6:=kl (by simp) (x:=da*10) (by simp) mH;rw[h6];rfl
theorem py4:rk [] [[48]]/\dvE [] [[48]]=40:=⟨⟨fG (by decide+kernel),fG (by decide+kernel),fun h=>absurd h (by decide+kernel)⟩,by decide+kernel⟩
theorem py5:rl [] [53]/\evS [] [53]= [48]/\evE [] [53]=0:=⟨zV (n:=1) (K:=1) (by decide+kernel) (by decide),by decide+kernel⟩
theorem pz1:ca (pwL 40)=0:=by decide+kernel
theorem pz2:ca (pwL 41)=40:=by decide+kernel
theorem pz3:ca [bk]=0:=by rw[<- u9];exact mF.chk
theorem pz5:ca [[48]]=40:=by decide+kernel
theorem pz6:ca []=0:=by decide+kernel
theorem zX:cS (bk++ [57])≠0:=by
 obtain⟨h1,_,_,_,h5⟩:=eM;intro h;have hc:cR (bk++ [57]):=by
  intro x hx;rcases List.mem_append.1 hx with hx|hx;·exact h1 x hx
  ·rw[List.mem_singleton.1 hx];decide
 have hs:cb (bk++ [57])=false:=by
  unfold cb;rw[List.any_eq_false];intro x hx e;have:=hc x hx;rw[beq_iff_eq] at e;subst e;exact absurd this.1 (by decide)
 have ht:=kV hc;have hn:bu (bk++ [57])=(numOf (bk++ [57]):Int):=by
  unfold bu;rw[ht.1,ht.2];rfl
 unfold cS at h;rw[qL hs,hs] at h;split at h;·exact absurd h (by decide)
 ·split at h;·exact absurd h (by decide)
  ·split at h;·exact absurd h (by decide)
   ·rename_i hd;apply hd;left;(have e9:numOf [(57:UInt8)]=9:=by decide);rw[hn,dm,e9];generalize numOf bk=m at h5;have key:∀ P:Nat,m+1=P->P<=((m*10^ [(57:UInt8)].length+9:Nat):Int).natAbs:=fun P hP=>by
     rw[Int.natAbs_natCast,show [(57:UInt8)].length=1 from rfl,Nat.pow_one];omega
    exact AR (key _ h5)
theorem pz4:ca [bk++ [57]]=40:=by
 unfold ca;rw[if_neg (by simp),if_pos];simp[zX]
theorem py6:bl (fun p q=>Sz QM p/\Sz QM q/\p.length<=100/\q.length<=100) b9 (pwL 20) (pwL 20)/\bZ b9 (pwL 20) (pwL 20)=pwL 40/\bY b9 (pwL 20) (pwL 20)=0:=⟨Bb (n:=41) (K:=1) (by decide+kernel) (by decide+kernel),by decide+kernel⟩
theorem py7:bl (fun p q=>Sz QM p/\Sz QM q/\p.length<=100/\q.length<=100) b9 (pwL 20) (pwL 21)/\bZ b9 (pwL 20) (pwL 21)= []/\bY b9 (pwL 20) (pwL 21)=3:=⟨Bb (n:=41) (K:=1) (by decide+kernel) (by decide+kernel),by decide+kernel⟩
theorem py8:bl (fun p q=>Sz QM p/\Sz QM q/\p.length<=100/\q.length<=100) b9 (pwL 40) []/\bZ b9 (pwL 40) []= []/\bY b9 (pwL 40) []=0:=⟨Bb (n:=41) (K:=1) (by decide+kernel) (by decide+kernel),by decide+kernel⟩
theorem py9:fF (pwL 8) (pwL 5)/\iK (pwL 8) (pwL 5)=pwL 40/\iJ (pwL 8) (pwL 5)=0:=⟨k8 (n:=9) (m:=6) (K:=1) (by decide+kernel) (by decide+kernel),by decide+kernel⟩
theorem Ib:fF (pwL 6) (pwL 7)/\iK (pwL 6) (pwL 7)= []/\iJ (pwL 6) (pwL 7)=3:=⟨k8 (n:=7) (m:=8) (K:=1) (by decide+kernel) (by decide+kernel),by decide+kernel⟩
theorem Ic:fF [[49]] (pwL 40)/\iK [[49]] (pwL 40)= [[49]]/\iJ [[49]] (pwL 40)=0:=⟨k8 (n:=1) (m:=41) (K:=1) (by decide+kernel) (by decide+kernel),by decide+kernel⟩
theorem Ie:fF [] (pwL 40)/\iK [] (pwL 40)= []/\iJ [] (pwL 40)=0:=⟨k8 (n:=1) (m:=41) (K:=1) (by decide+kernel) (by decide+kernel),by decide+kernel⟩
theorem Ig:fF [[49],[49]] []/\iK [[49],[49]] []= [[49]]/\iJ [[49],[49]] []=0:=⟨k8 (n:=2) (m:=1) (K:=1) (by decide+kernel) (by decide+kernel),by decide+kernel⟩
theorem Ih:fF (pwL 3) []/\iK (pwL 3) []= []/\iJ (pwL 3) []=0:=⟨k8 (n:=4) (m:=1) (K:=1) (by decide+kernel) (by decide+kernel),by decide+kernel⟩
theorem qy1:bl (fun p q=>Sz QH p/\Sz QH q/\p.length<=1000/\q.length<=1000) (bw (· + ·)) [bk] [[49]]/\bZ (bw (· + ·)) [bk] [[49]]= []/\bY (bw (· + ·)) [bk] [[49]]=6:=by
 rw[<- u9,<- JV];have e:bw (· + ·) [da] [1]= [da+1]:=mz (gv _ _ _) (fun _=>by unfold ay;exact km Gh) fun x=>by
  rw[FK,cB,cB,cB,dY];grind
 exact⟨A7 mF Gg,lY (e:=6) mF Gg (by rw[e,iF fun _=>by unfold ay;exact km Gh];exact kl (by simp) (x:=da+1) (by simp) Gh) (by decide)⟩
theorem qy2:bl (fun p q=>Sz QM p/\Sz QM q/\p.length<=100/\q.length<=100) b9 [bk] [[49,48]]/\bZ b9 [bk] [[49,48]]= []/\bY b9 [bk] [[49,48]]=6:=by
 rw[<- u9,<- Jz];have e:b9 [da] [10]= [da*10]:=mz (lS mF.trm vf.trm) (fun _=>by unfold ay;exact km mH) fun x=>by
  rw[zI,cB,cB,cB,dY];grind
 exact⟨uX mF vf,lY (e:=6) mF vf (by rw[e,iF fun _=>by unfold ay;exact km mH];exact kl (by simp) (x:=da*10) (by simp) mH) (by decide)⟩
theorem qy3:bl (fun p _=>Sz QH p/\p.length<=1000) (fun a _=>bK a) [[48],[48],bk] []/\bZ (fun a _=>bK a) [[48],[48],bk] []= []/\bY (fun a _=>bK a) [[48],[48],bk] []=6:=by
 rw[<- H9];have e:bK [0,0,da]= [0,da*2]:=by
  unfold bK kB;simp[List.range_succ,cf];congr 1
 have t:Trm [0,da*2]:=fun _=>by unfold ay;exact km IX
 exact⟨A9 Gf,lY (f:=fun a _=>bK a) (e:=6) Gf lV (by simp only[e];rw[iF t];exact kl (by simp) (x:=da*2) (by simp) IX) (by decide)⟩
theorem xn{l:List (List UInt8)}(h:(decide (l.length<=1000)&&l.all fun q=>decide (q.length<=QL))=true):cl (l++ [bk]):=by
 obtain⟨_,_,_,h4,_⟩:=eM;rw[Bool.and_eq_true,decide_eq_true_iff,List.all_eq_true] at h;have e:QL=1000000000:=rfl;refine⟨by rw[List.length_append,List.length_singleton];omega,fun q hq=> ?_⟩;rcases List.mem_append.1 hq with hq|hq;·exact of_decide_eq_true (h.2 q hq)
 ·rw[List.mem_singleton.1 hq];omega
theorem qy4:bl (fun p q=>Sz QM p/\Sz QM q/\p.length<=100/\q.length<=100) b9 (pwL 40++ [bk]) (pwL 1)/\bZ b9 (pwL 40++ [bk]) (pwL 1)= []/\bY b9 (pwL 40++ [bk]) (pwL 1)=40:=by
 have h1:ca (pwL 40++ [bk])=40:=by
  unfold ca;rw[if_pos];rw[List.length_append,List.length_singleton,show (pwL 40).length=41 from by decide];decide
 have h2:br [pwL 40++ [bk],pwL 1]=40:=by
  unfold br;rw[h1];rfl
 have h3: ¬br [pwL 40++ [bk],pwL 1]=0:=by rw[h2];decide
 obtain⟨k1,k2⟩:=fM (f:=b9) h3;exact⟨⟨xn (by decide+kernel),fG (by decide+kernel),fun h=>absurd h h3⟩,k1.symm,k2.symm.trans h2⟩
theorem qy5:bl (fun p q=>Sz QM p/\Sz QM q/\p.length<=100/\q.length<=100) b9 (List.replicate 40 [48]++ [bk]) [[48],[49,48]]/\bZ b9 (List.replicate 40 [48]++ [bk]) [[48],[49,48]]= []/\bY b9 (List.replicate 40 [48]++ [bk]) [[48],[49,48]]=3:=by
 rw[<- Ge,<- JA];refine⟨uX ve vg,lY (e:=3) ve vg ?_ (by decide)⟩;rw[iF (lS ve.trm vg.trm)];unfold bQ;rw[if_pos];rw[gY (by simp) (by simp),List.length_append,List.length_replicate];decide
theorem qy6:fF (pwL 41) (pwL 41)/\iK (pwL 41) (pwL 41)= []/\iJ (pwL 41) (pwL 41)=40:=
 ⟨⟨fG (by decide+kernel),fG (by decide+kernel),fun _=>⟨fG (by decide+kernel),fG (by decide+kernel),fun h=>absurd h (by decide+kernel)⟩⟩,by decide+kernel⟩
theorem qy7:bl gG bX [[48],bk] []/\bZ bX [[48],bk] []= [[48],[49]]/\bY bX [[48],bk] []=0:=by
 have t01:txP [0,1]= [[48],[49]]:=by decide+kernel
 have hp:Pol [0,1]:=xm (by decide+kernel);rw[<- vc,<- t01];have e:bX [0,da] []= [0,1]:=by
  unfold bX;show de 1 [0,da] []=_;rw[de,if_pos rfl];have:=Gd;unfold cD ay;simp;grind
 refine⟨(uZ (n:=2) (m:=0) (fV.sml (n:=2) (K:=2000) (by simp) (by decide) fV.lq) (⟨by simp,uS,lU (by decide)⟩:Sml 0 1 []) fV lV (by decide)).1,FW (f:=bX) fV lV (by rw[e];exact iF hp.trm) hp⟩
theorem qy8:bl (fun p _=>Sz QH p/\p.length<=1000) (fun a _=>bK a) [[53]] []/\bZ (fun a _=>bK a) [[53]] []= []/\bY (fun a _=>bK a) [[53]] []=0:=⟨IW (n:=1) (K:=1) (by decide+kernel),by decide+kernel⟩
theorem qy9:bl (fun p _=>jT p) (fun a _=>bO a) [] []/\bZ (fun a _=>bO a) [] []= []/\bY (fun a _=>bO a) [] []=0:=⟨Gb (n:=1) (K:=1) (by decide+kernel),by decide+kernel⟩
theorem zY:Int.toNat 40=40/\Int.toNat 41=41/\Int.toNat 20=20/\Int.toNat 21=21/\Int.toNat 8=8/\Int.toNat 5=5/\Int.toNat 6=6/\Int.toNat 7=7/\Int.toNat 3=3/\Int.toNat 1=1/\Int.toNat 2000=2000:=⟨rfl,rfl,rfl,rfl,rfl,rfl,rfl,rfl,rfl,rfl,rfl⟩
theorem zZ:Lib.repeatL [57] 2000=bk:=rfl
theorem vh:List.take 40 (pwL 40)=List.replicate 40 [48]:=by decide
theorem Dl:bk.length+1<=maxLen:=by
 obtain⟨_,_,_,h4,_⟩:=eM;have:maxLen=9223372036854775807:=rfl;omega
theorem IY{n:Nat}(h:n<=41):cl (pwL n):=by
 have e:QL=1000000000:=rfl;unfold pwL;refine⟨by rw[List.length_append,List.length_replicate,List.length_singleton];omega,fun q hq=> ?_⟩;rcases List.mem_append.1 hq with hq|hq;·rw[(List.mem_replicate.1 hq).2];simp;omega
 ·rw[List.mem_singleton.1 hq];simp;omega
theorem Ka:cl [bk]:=xn (l:= []) (by decide)
theorem JX:cl [bk++ [57]]:=by
 obtain⟨_,_,_,h4,_⟩:=eM;have e:QL=1000000000:=rfl;refine⟨by simp;omega,fun q hq=> ?_⟩;rw[List.mem_singleton.1 hq,List.length_append,List.length_singleton];omega
theorem Kb:cl [[48]]:=fG (by decide+kernel)
theorem Kc:cl []:=fG (by decide+kernel)
theorem IZ:(pwL 40).length<=QL:=by
 rw[show (pwL 40).length=41 from by decide];decide
theorem Gi:1<=QL:=by decide
theorem Ii:2<=QL:=by decide
def GQ(K:Nat)(a:List UInt8):Prop:=bS (dx a)=a/\lq (dx a)<=K
theorem GQ.parts{K:Nat}{a:List UInt8}(h:GQ K a):tN a=Lib.itoa (dx a).num/\tD a=Lib.itoa ((dx a).den:Int):=by
 have:=jW (dx a);rw[h.1] at this;exact⟨this.1,this.2.1⟩
theorem GQ.rs{K:Nat}{a:List UInt8}(h:GQ K a):RS (9*K+2) (tN a)/\RS (9*K+2) (tD a):=by
 rw[h.parts.1,h.parts.2];have h1:=ki (dx a).num;have h2:=ki ((dx a).den:Int);have h3:=ep (dx a);have h4:=dU (dx a);have h5:=h.2;exact⟨⟨(eK _).1,by omega⟩,(eK _).1,by omega⟩
theorem GQ.len{K:Nat}{a:List UInt8}(h:GQ K a):a.length<=18*K+5:=by
 rw[<- h.1];exact mD h.2
theorem Gj{p q:List (List UInt8)}(h: ¬ (p.length:Int)=(q.length:Int)):false=decide (p=q):=by
 symm
 rw[decide_eq_false_iff_not];rintro rfl;exact h rfl
theorem Dm{p q:List (List UInt8)}{k:Nat}(he:p.length=q.length)(hk:k<p.length)(h:p.take k=q.take k)(hb:nth .str p (k:Int)=nth .str q (k:Int)):p.take (k+1)=q.take (k+1):=by
 rw[fU (t:= .str) hk,fU (t:= .str) (by omega:k<q.length)] at hb;rw[List.take_succ_eq_append_getElem hk,List.take_succ_eq_append_getElem (by omega:k<q.length),h,hb]
theorem Gk{p q:List (List UInt8)}{k:Nat}(hb: ¬nth .str p (k:Int)=nth .str q (k:Int)):false=decide (p=q):=by
 symm
 rw[decide_eq_false_iff_not];rintro rfl;exact hb rfl
theorem Gl{p q:List (List UInt8)}{k:Nat}(he:p.length=q.length)(hk: ¬k<p.length)(h:p.take k=q.take k):true=decide (p=q):=by
 symm
 rw[decide_eq_true_iff];rwa [List.take_of_length_le (by omega),List.take_of_length_le (by omega)] at h
def nl(p:List (List UInt8)):List Rat:=p.map dx
def GL(K:Nat)(p:List (List UInt8)):Prop:=∀ q∈p,GQ K q
theorem GL.tx{K:Nat}{p:List (List UInt8)}(h:GL K p):txP (nl p)=p:=by
 unfold txP nl;rw[List.map_map];conv=>rhs;rw[<- List.map_id p]
 exact List.map_congr_left fun q hq=>(h q hq).1
theorem GL.lq{K:Nat}{p:List (List UInt8)}(h:GL K p):∀ x∈nl p,lq x<=K:=by
 intro x hx;obtain⟨q,hq,rfl⟩:=List.mem_map.1 hx;exact(h q hq).2
theorem GL.mono{K m:Nat}{p:List (List UInt8)}(h:GL K p)(hm:K<=m):GL m p:=fun q hq=>⟨(h q hq).1,Nat.le_trans (h q hq).2 hm⟩
theorem GL.ex{K:Nat}{p:List (List UInt8)}(h:GL K p):∃ l,p=txP l/\∀ x∈l,Cm.lq x<=K:=⟨nl p,h.tx.symm,h.lq⟩
theorem Gm(k:Nat):List.replicate k [48]++ [[48]]=List.replicate (k+1) ([48]:List UInt8):=(List.replicate_succ' ..).symm
theorem vi{n:Nat}(h:n<=3000000):Cm.Roomy 1 n:=uE (by omega)
theorem JY{α:Type}(l:List α):(((l.length:Nat):Int)==0)=decide (l= []):=by
 rw[Bool.eq_iff_iff,beq_iff_eq,decide_eq_true_iff];constructor;·intro h;exact List.eq_nil_of_length_eq_zero (by omega)
 ·intro h;rw[h];rfl
theorem JZ(a b:Int):(a==b)=decide (a=b):=by rw[Bool.eq_iff_iff,beq_iff_eq,decide_eq_true_iff]
theorem JB(e:Int)(p q:List (List UInt8)):(e==0&&decide (p=q))=decide (e=0/\p=q):=by rw[JZ];exact(Bool.decide_and _ _).symm
theorem Gn(p:List (List UInt8))(e q:Int):(((p.length:Nat):Int)==0&&e==q)=decide (p= []/\e=q):=by rw[JY,JZ];exact(Bool.decide_and _ _).symm
def L(l:List (List UInt8)):List (List UInt8):=l
theorem wp1:dvS [[45,49],[48],[48],[49]] [[45,49],[49]]= [[49],[49],[49]]/\dvR [[45,49],[48],[48],[49]] [[45,49],[49]]= []/\dvE [[45,49],[48],[48],[49]] [[45,49],[49]]=0:=by decide+kernel
theorem wp2:dvS [[49],[48],[49]] [[48],[50]]= [[48],[49,47,50]]/\dvR [[49],[48],[49]] [[48],[50]]= [[49]]/\dvE [[49],[48],[49]] [[48],[50]]=0:=by decide+kernel
theorem wp3:dvE [[49]] []=2:=by decide+kernel
theorem wp4:evS [[49],[48],[49]] [49,47,50]= [53,47,52]/\evE [[49],[48],[49]] [49,47,50]=0:=by decide+kernel
theorem wp5:evE [[49]] [50,47,50]=5:=by decide+kernel
theorem wp6:bZ b9 [[49],[49]] [[45,49],[49]]= [[45,49],[48],[49]]/\bY b9 [[49],[49]] [[45,49],[49]]=0:=by decide+kernel
theorem wp7:bZ (bw (· + ·)) [[49],[50]] [[49],[45,50]]= [[50]]/\bY (bw (· + ·)) [[49],[50]] [[49],[45,50]]=0:=by decide+kernel
theorem wp8:bZ (bw (· - ·)) [[49],[50]] [[49],[50]]= []/\bY (bw (· - ·)) [[49],[50]] [[49],[50]]=0:=by decide+kernel
theorem wp9:bZ bX [[45,49],[48],[49]] [[49],[50],[49]]= [[49],[49]]/\bY bX [[45,49],[48],[49]] [[49],[50],[49]]=0:=by decide+kernel
theorem Ij:bZ bX [[50]] []= [[49]]/\bY bX [[50]] []=0:=by decide+kernel
theorem Ik:bZ bX [] []= []/\bY bX [] []=0:=by decide+kernel
theorem Il:iK [[49],[48],[49]] [[49],[49]]= [[50],[50],[49]]/\iJ [[49],[48],[49]] [[49],[49]]=0:=by decide+kernel
theorem Im:bZ (fun a _=>bK a) [[53],[51],[48],[50]] []= [[51],[48],[54]]/\bY (fun a _=>bK a) [[53],[51],[48],[50]] []=0:=by decide+kernel
theorem Io:bZ (fun a _=>bO a) [[50],[45,51],[48],[49]] []= [[45,50],[49],[49]]/\bY (fun a _=>bO a) [[50],[45,51],[48],[49]] []=0:=by decide+kernel
theorem Ip:bZ (fun a _=>bO a) [[55]] []= [[49]]/\bY (fun a _=>bO a) [[55]] []=0:=by decide+kernel
theorem Iq:ca [[49],[48]]=40/\ca [[49,47,48]]=40:=by decide+kernel
theorem wsq:3<=QL/\((((0:Nat):Int)==0)=true->(((0:Nat):Int)==0)=true)/\((((0:Nat):Int)==0)=true->(((0:Nat):Int)==0)=true/\2<=QL)/\((((0:Nat):Int)==0)=true->(((0:Nat):Int)==0)=true)/\
  ((((0:Nat):Int)==0)=true->(((0:Nat):Int)==0)=true)/\((((0:Nat):Int)==0)=true->(((0:Nat):Int)==0)=true/\1<=QL)/\((((0:Nat):Int)==0)=true->(((0:Nat):Int)==0)=true):=by
 unfold QL;decide
theorem ok6:bl (fun p q=>Sz QM p/\Sz QM q/\p.length<=100/\q.length<=100) b9 [[49],[49]] [[45,49],[49]]:=Bb (n:=4) (K:=1) (by decide+kernel) (by decide+kernel)
theorem ok7:bl (fun p q=>Sz QH p/\Sz QH q/\p.length<=1000/\q.length<=1000) (bw (· + ·)) [[49],[50]] [[49],[45,50]]:=JT (n:=4) (K:=1) (by decide+kernel) (by decide+kernel)
theorem ok8:bl (fun p q=>Sz QH p/\Sz QH q/\p.length<=1000/\q.length<=1000) (bw (· - ·)) [[49],[50]] [[49],[50]]:=JU (n:=4) (K:=1) (by decide+kernel) (by decide+kernel)
theorem ok9:bl gG bX [[45,49],[48],[49]] [[49],[50],[49]]:=Ga (n:=4) (K:=1) (by decide+kernel) (by decide+kernel)
theorem Kd:bl gG bX [[50]] []:=Ga (n:=4) (K:=1) (by decide+kernel) (by decide+kernel)
theorem Ke:bl gG bX [] []:=Ga (n:=4) (K:=1) (by decide+kernel) (by decide+kernel)
theorem Kf:fF [[49],[48],[49]] [[49],[49]]:=k8 (n:=4) (m:=4) (K:=1) (by decide+kernel) (by decide+kernel)
theorem Kg:bl (fun p _=>Sz QH p/\p.length<=1000) (fun a _=>bK a) [[53],[51],[48],[50]] []:=IW (n:=4) (K:=1) (by decide+kernel)
theorem Kh:bl (fun p _=>jT p) (fun a _=>bO a) [[50],[45,51],[48],[49]] []:=Gb (n:=4) (K:=1) (by decide+kernel)
theorem Ki:bl (fun p _=>jT p) (fun a _=>bO a) [[55]] []:=Gb (n:=4) (K:=1) (by decide+kernel)
theorem J0:cl [[49],[48]]/\cl [[49,47,48]]:=by unfold cl QL;decide
end Go.Cm
end
section
namespace Go.Proofs.YtdojbabpnaifoaaGreatDoor
open Go Go.Cm Go.Proofs
theorem JC:cQ Tryz.prog 84 .func:=As (by kernel_rfl) ⟨_,_,_,Tryz.underlying84⟩
theorem J1:cQ Tryz.prog 109 .func:=As (by kernel_rfl) ⟨_,_,_,Tryz.underlying109⟩
def Bd(B:ah):Tab:={types:= [(3,(.int .i64)),(87,(.slice (.int .u32))),(161,(.int .u32))],elems:= [(87,161)],cons:= [],hint:= [],N:=56,base:=B}
theorem Gp{B:ah}(hB:aA B):aM Tryz.prog (Bd B):=⟨⟨tc ty3 (tc gD (tc ff (af))),aV (by kernel_rfl) (ag),by simp only[Bd,ioB];omega⟩,bW rfl,by kernel_rfl⟩
def Be:Con:=fun l os=>match l,os with
 | [.z (.slice (.int .u32)) m,.z (.slice (.int .u32)) o],[]=>some (Cano m/\Cano o/\m.length+o.length<CAP,[.z (.slice (.int .u32)) (limbs (valL m+valL o).toNat)],[])
 |_,_=>none
theorem Ir{B:ah}(hB:aA B):Valid B Tryz.prog 151 Be:=by
 refine ab (Gp hB).tab Tryz.func151 rfl rfl rfl ?_;intro args os C rs os' hc hC;unfold Be at hc;split at hc;case h_2=>cases hc
 rename_i m o;cases hc;refine v_h (Gp hB) fun X hP hT hr hG=> ?_;have hU:=Bd.eq_1;unfold Bd at hT;have hX:=Bool.not_true;simp only[Tryz.f151,aB,aj,ioB];refine s_g hG ?_;refine cI (fun(z:List Int×List Int)=>(⟨[(0,.l (.z (.slice (.int .u32)) z.1)),(1,.l (.z (.slice (.int .u32)) z.2))],[]⟩:aa)) (fun z=>Cano z.1/\Cano z.2/\z.2.length<=z.1.length/\z.1.length<CAP/\valL z.1+valL z.2=valL m+valL o) ?_ ?_
 ·refine s_g hG ?_;refine av ?_ ?_
  ·(intro hb0;(try simp only[bt] at hb0);refine ak hG ?_ ?_;·exact tt9);show ∃ z,_;refine q_l ?_;obtain⟨c1,c2,c3⟩:=hC;first|exact⟨c2,c1,by omega,by omega,Int.add_comm _ _⟩|exact⟨c1,c2,by omega,by omega⟩
  ·intro hb0;(try simp only[bf] at hb0);refine az ?_;show ∃ z,_;refine q_l ?_;obtain⟨c1,c2,c3⟩:=hC;first|exact⟨c2,c1,by omega,by omega,Int.add_comm _ _⟩|exact⟨c1,c2,by omega,by omega⟩
 rintro⟨m,o⟩ ⟨h1,h2,h3,h4,h5⟩;try dsimp only at h1 h2 h3 h4 h5
 have h4:m.length<1000000000000:=h4;refine s_q hG ?_ ?_
 ·try simp only[ba]
  rw[wo];exact⟨by omega,by omega,by unfold Cm.Roomy;omega⟩
 refine s_g hG ?_;refine an (s_g hG ?_);refine aC (bM (fun(z:Nat×Int×List Int)=>(⟨[(0,.l (.z (.slice (.int .u32)) m)),(1,.l (.z (.slice (.int .u32)) o)),(5,.l (.ownS 20)),(6,.l (.z (.int .u32) z.2.1)),(21,.l (.z (.slice (.int .u32)) m)),(22,.l (.z (.int .i64) (m.length:Int))),(23,.l (.z (.int .i64) (z.1:Int)))],[(20,.arr (.int .u32) 161 z.2.2)]⟩:aa)) (fun z=>z.1<=m.length/\z.2.2.length=z.1/\Lim z.2.2/\0<=z.2.1/\z.2.1<=1/\valL z.2.2+LB^z.1*z.2.1=valL (m.take z.1)+valL (o.take z.1)) (fun z=>m.length-z.1) (0,0,[]) ?_ ?_ ?_);·refine q_l ?_;exact⟨rfl,rfl⟩
 ·simp[Lim,valL]
 ·rintro⟨k,c,out⟩ ⟨g1,g2,g3,g4,g5,g6⟩;try dsimp only at g1 g2 g3 g4 g5 g6
  refine s_g hG ?_;refine an (av ?_ ?_)
  ·intro hb1;(try simp only[bt] at hb1);refine az (al ?_);refine an (aC ?_);refine s_q hG ?_ ?_
   ·(try simp only[ba]);exact⟨by omega,hb1⟩
   refine s_g hG ?_;refine cI (fun(z:Int)=>(⟨[(0,.l (.z (.slice (.int .u32)) m)),(1,.l (.z (.slice (.int .u32)) o)),(5,.l (.ownS 20)),(9,.l (.z (.int .u32) z)),(21,.l (.z (.slice (.int .u32)) m)),(22,.l (.z (.int .i64) (m.length:Int))),(23,.l (.z (.int .i64) (k:Int)))],[(20,.arr (.int .u32) 161 out)]⟩:aa)) (fun z=>z=m.getD k 0+c+o.getD k 0) ?_ ?_
   ·refine s_g hG ?_;refine av ?_ ?_
    ·intro hb2;(try simp only[bt] at hb2);refine ak hG ?_ ?_
     ·(try simp only[ba]);exact⟨by omega,hb2⟩
     show ∃ z,_;refine q_l ?_;have hw:=sn (h1.1.getD k) (h2.1.getD k) ⟨g4,g5⟩;first|exact hw.2|(rw[fa,hw.1,List.getD_eq_getElem?_getD (l:=o),List.getElem?_eq_none (by omega)];simp)
    ·intro hb2;(try simp only[bf] at hb2);refine az ?_;show ∃ z,_;refine q_l ?_;have hw:=sn (h1.1.getD k) (h2.1.getD k) ⟨g4,g5⟩;first|exact hw.2|(rw[fa,hw.1,List.getD_eq_getElem?_getD (l:=o),List.getElem?_eq_none (by omega)];simp)
   rintro n hn;(try dsimp only at hn);refine s_g hG ?_;refine ak hG ?_ ?_
   ·(try simp only[ba]);exact⟨by omega,by unfold Cm.Roomy;omega⟩
   (refine aW (al ?_);refine ak hG ?_ ?_;·exact tt9);show ∃ z,_;refine q_l ?_;obtain⟨q1,q2,q3,q4⟩:=ze h1.1 h2.1 g2 g3 g4 g5 g6 hn;exact⟨k+1,by rw[wo];simp,by omega,by simp[g2],q1,q2,q3,q4,by omega⟩
  ·intro hb1;(try simp only[bf] at hb1);refine bx (aN ?_);refine aJ (aI ?_);refine al (cI (fun(z:List Int)=>(⟨[(5,.l (.ownS 20))],[(20,.arr (.int .u32) 161 z)]⟩:aa)) (fun z=>z=limbs (valL m+valL o).toNat) ?_ ?_)
   ·refine s_g hG ?_;refine av ?_ ?_
    ·intro hb3;(try simp only[bt] at hb3);refine ak hG ?_ ?_
     ·(try simp only[ba]);unfold Cm.Roomy;omega
     show ∃ z,_;refine q_l ?_;have he:=wg (out:=out) (c:=c) h1 h2 h3 (by omega) g3 g4 g5 (by rw[show k=m.length by omega,List.take_length,List.take_of_length_le h3] at g6;exact g6);first|exact he.1 hb3|exact he.2 hb3
    ·intro hb3;(try simp only[bf] at hb3);refine az ?_;show ∃ z,_;refine q_l ?_;have he:=wg (out:=out) (c:=c) h1 h2 h3 (by omega) g3 g4 g5 (by rw[show k=m.length by omega,List.take_length,List.take_of_length_le h3] at g6;exact g6);first|exact he.1 hb3|exact he.2 hb3
   rintro out2 hout;(try dsimp only at hout);refine s_g hG ?_;refine au (q_e [] ?_);rw[hout,h5]
def Bf(B:ah):Tab:={types:= [(3,(.int .i64))],elems:= [],cons:= [],hint:= [],N:=6,base:=B}
theorem Gq{B:ah}(hB:aA B):aM Tryz.prog (Bf B):=⟨⟨tc ty3 (af),ag,by simp only[Bf,ioB];omega⟩,bW rfl,by kernel_rfl⟩
def Bg:Con:=fun l os=>match l,os with
 | [.z (.int .i64) a],[]=>some (True,[.z .bool false],[])
 |_,_=>none
theorem Is{B:ah}(hB:aA B):Valid B Tryz.prog 194 Bg:=by
 refine ab (Gq hB).tab Tryz.func194 rfl rfl rfl ?_;intro args os C rs os' hc hC;unfold Bg at hc;split at hc;case h_2=>cases hc
 rename_i a;cases hc;refine v_h (Gq hB) fun X hP hT hr hG=> ?_;have hU:=Bf.eq_1;unfold Bf at hT;have hX:=Bool.not_true;simp only[Tryz.f194,aB,aj,ioB];refine s_g hG ?_;refine s_g hG ?_;refine au (q_e [] ?_);trivial
def Bh(B:ah):Tab:={types:= [(161,(.int .u32))],elems:= [],cons:= [],hint:= [],N:=6,base:=B}
theorem Gr{B:ah}(hB:aA B):aM Tryz.prog (Bh B):=⟨⟨tc ff (af),ag,by simp only[Bh,ioB];omega⟩,bW rfl,by kernel_rfl⟩
def Bi:Con:=fun l os=>match l,os with
 | [.z (.int .u32) a],[]=>some (True,[.z .bool false],[])
 |_,_=>none
theorem It{B:ah}(hB:aA B):Valid B Tryz.prog 195 Bi:=by
 refine ab (Gr hB).tab Tryz.func195 rfl rfl rfl ?_;intro args os C rs os' hc hC;unfold Bi at hc;split at hc;case h_2=>cases hc
 rename_i a;cases hc;refine v_h (Gr hB) fun X hP hT hr hG=> ?_;have hU:=Bh.eq_1;unfold Bh at hT;have hX:=Bool.not_true;simp only[Tryz.f195,aB,aj,ioB];refine s_g hG ?_;refine s_g hG ?_;refine au (q_e [] ?_);trivial
def Bj(B:ah):Tab:={types:= [(3,(.int .i64))],elems:= [],cons:= [(194,Bg)],hint:= [],N:=20,base:=B}
theorem Gs{B:ah}(hB:aA B):aM Tryz.prog (Bj B):=⟨⟨tc ty3 (af),ag,by simp only[Bj,ioB];omega⟩,aK (cc Tryz.func194 (Is hB) (aq)),by kernel_rfl⟩
def s9:Con:=fun l os=>match l,os with
 | [.z (.int .i64) a,.z (.int .i64) b],[]=>some (True,[.z (.int .i64) (bq a b)],[])
 |_,_=>none
theorem Bk{B:ah}(hB:aA B):Valid B Tryz.prog 180 s9:=by
 refine ab (Gs hB).tab Tryz.func180 rfl rfl rfl ?_;intro args os C rs os' hc hC;unfold s9 at hc;split at hc;case h_2=>cases hc
 rename_i a b;cases hc;refine v_h (Gs hB) fun X hP hT hr hG=> ?_;have hU:=Bj.eq_1;unfold Bj at hT;have hX:= @Bg.eq_1;simp only[Tryz.f180,aB,aj,ioB];refine s_g hG ?_;refine s_g hG ?_;refine s_g hG ?_;refine an (s_g hG ?_);refine av ?_ ?_;·intro hb0;cases hb0
 ·intro hb0;try simp only[bf] at hb0
  refine az (al ?_);refine an (s_g hG ?_);refine av ?_ ?_;·intro hb1;cases hb1
  ·intro hb1;(try simp only[bf] at hb1);refine az (al ?_);refine an (s_g hG ?_);refine av ?_ ?_;·intro hb2;(try simp only[bt] at hb2);refine s_g hG ?_;refine au (aL ?_);refine q_e [] ?_;rw[bq,if_pos hb2]
   ·(intro hb2;(try simp only[bf] at hb2);refine az (al ?_);refine an (s_g hG ?_);refine av ?_ ?_;·intro hb3;(try simp only[bt] at hb3);refine s_g hG ?_;refine au (aL ?_);refine q_e [] ?_;rw[bq,if_neg (by omega),if_pos hb3]);·intro hb3;(try simp only[bf] at hb3);refine az (al ?_);refine s_g hG ?_;refine au (q_e [] ?_);rw[bq,if_neg hb2,if_neg hb3]
def Bl(B:ah):Tab:={types:= [(161,(.int .u32))],elems:= [],cons:= [(195,Bi)],hint:= [],N:=20,base:=B}
theorem Gt{B:ah}(hB:aA B):aM Tryz.prog (Bl B):=⟨⟨tc ff (af),ag,by simp only[Bl,ioB];omega⟩,aK (cc Tryz.func195 (It hB) (aq)),by kernel_rfl⟩
def Bm:Con:=fun l os=>match l,os with
 | [.z (.int .u32) a,.z (.int .u32) b],[]=>some (True,[.z (.int .i64) (bq a b)],[])
 |_,_=>none
theorem Iu{B:ah}(hB:aA B):Valid B Tryz.prog 181 Bm:=by
 refine ab (Gt hB).tab Tryz.func181 rfl rfl rfl ?_;intro args os C rs os' hc hC;unfold Bm at hc;split at hc;case h_2=>cases hc
 rename_i a b;cases hc;refine v_h (Gt hB) fun X hP hT hr hG=> ?_;have hU:=Bl.eq_1;unfold Bl at hT;have hX:= @Bi.eq_1;simp only[Tryz.f181,aB,aj,ioB];refine s_g hG ?_;refine s_g hG ?_;refine s_g hG ?_;refine an (s_g hG ?_);refine av ?_ ?_;·intro hb0;cases hb0
 ·intro hb0;try simp only[bf] at hb0
  refine az (al ?_);refine an (s_g hG ?_);refine av ?_ ?_;·intro hb1;cases hb1
  ·intro hb1;(try simp only[bf] at hb1);refine az (al ?_);refine an (s_g hG ?_);refine av ?_ ?_;·intro hb2;(try simp only[bt] at hb2);refine s_g hG ?_;refine au (aL ?_);refine q_e [] ?_;rw[bq,if_pos hb2]
   ·(intro hb2;(try simp only[bf] at hb2);refine az (al ?_);refine an (s_g hG ?_);refine av ?_ ?_;·intro hb3;(try simp only[bt] at hb3);refine s_g hG ?_;refine au (aL ?_);refine q_e [] ?_;rw[bq,if_neg (by omega),if_pos hb3]);·intro hb3;(try simp only[bf] at hb3);refine az (al ?_);refine s_g hG ?_;refine au (q_e [] ?_);rw[bq,if_neg hb2,if_neg hb3]
def Bn(B:ah):Tab:={types:= [(3,(.int .i64)),(87,(.slice (.int .u32))),(89,tyW),(161,(.int .u32))],elems:= [],cons:= [],hint:= [],N:=30,base:=B}
theorem Gu{B:ah}(hB:aA B):aM Tryz.prog (Bn B):=⟨⟨tc ty3 (tc gD (tc fS (tc ff (af)))),ag,by simp only[Bn,ioB];omega⟩,bW rfl,by kernel_rfl⟩
def dE:Con:=fun l os=>match l,os with
 | [.z .bool s,.z (.slice (.int .u32)) m],[]=>some (Lim m/\m.length<CAP,[.z tyW (enc (dec (s,m)))],[])
 |_,_=>none
theorem jf{B:ah}(hB:aA B):Valid B Tryz.prog 150 dE:=by
 refine ab (Gu hB).tab Tryz.func150 rfl rfl rfl ?_;intro args os C rs os' hc hC;unfold dE at hc;split at hc;case h_2=>cases hc
 rename_i s m;cases hc;refine v_h (Gu hB) fun X hP hT hr hG=> ?_;have hU:=Bn.eq_1;unfold Bn at hT;have hX:=Bool.not_true;simp only[Tryz.f150,aB,aj,ioB];refine s_g hG ?_;refine an (aC ?_);refine bM (fun(z:List Int)=>(⟨[(0,.l (.z .bool s)),(1,.l (.z (.slice (.int .u32)) z)),(4,.l (.ownP 4 0))],[(4,.box 89 [.z .bool false,.val (.slice none 0 0)])]⟩:aa)) (fun z=>Lim z/\valL z=valL m/\z.length<=m.length) (fun z=>z.length) m ?_ ?_ ?_;·simp only[ml0,ml1,Nat.reduceLT,Nat.reduceEqDiff,Nat.reduceAdd,Nat.reduceMul,Nat.reduceSub,Nat.reduceLeDiff,Nat.reduceBEq,Nat.reduceBNe,reduceIte,reduceDIte,reduceCtorEq]
 ·exact⟨hC.1,rfl,Nat.le_refl _⟩
 ·rintro z ⟨g1,g2,g3⟩;try dsimp only at g1 g2 g3
  have h4:z.length<1000000000000:=Nat.lt_of_le_of_lt g3 hC.2;refine an (s_q hG ?_ ?_)
  ·(try simp only[ba]);exact⟨id,id,fun h=>⟨h,by simp only[decide_eq_true_eq] at h;rw[wo];omega⟩,id⟩
  refine av ?_ ?_
  ·intro hb0;(try simp only[bt] at hb0);refine az (al ?_);refine aC (ak hG ?_ ?_)
   ·(try simp only[ba]);rw[wo];omega
   refine aW ?_;show ∃ z,_;refine q_l ?_;exact whole_round g1 g2 g3 hb0.1 h4 hb0.2
  ·intro hb0;(try simp only[bf] at hb0);refine bx (aN ?_);refine aJ (aI ?_);refine al (s_q hG ?_ ?_)
   ·(try simp only[ba]);exact id
   refine au (q_e [] ?_);refine Co g1 g2 fun hz h0=> ?_;have:=hb0 (by simp;omega);rw[wo,last_eq hz] at this;exact this h0
def Bo(B:ah):Tab:={types:= [(4,.bool),(87,(.slice (.int .u32))),(89,tyW)],elems:= [],cons:= [(150,dE)],hint:= [],N:=9,base:=B}
theorem Gv{B:ah}(hB:aA B):aM Tryz.prog (Bo B):=⟨⟨tc ty4 (tc gD (tc fS (af))),ag,by simp only[Bo,ioB];omega⟩,aK (cc Tryz.func150 (jf hB) (aq)),by kernel_rfl⟩
def xo:Con:=fun l os=>match l,os with
 | [.z (.st (.pair .bool (.slice (.int .u32)))) x],[]=>some (Lim x.2/\x.2.length<CAP,[.z tyW (enc (-dec x))],[])
 |_,_=>none
theorem vj{B:ah}(hB:aA B):Valid B Tryz.prog 148 xo:=by
 refine ab (Gv hB).tab Tryz.func148 rfl rfl rfl ?_;intro args os C rs os' hc hC;unfold xo at hc;split at hc;case h_2=>cases hc
 rename_i x;cases hc;refine v_h (Gv hB) fun X hP hT hr hG=> ?_;have hU:=Bo.eq_1;unfold Bo at hT;have hX:= @dE.eq_1;simp only[Tryz.f148,aB,aj,ioB];refine s_g hG ?_;refine s_q hG ?_ ?_
 ·try simp only[ba]
  exact hC
 refine au (q_e [] ?_);rw[AD]
def Bp(B:ah):Tab:={types:= [(3,(.int .i64)),(4,.bool),(87,(.slice (.int .u32))),(89,tyW)],elems:= [],cons:= [],hint:= [],N:=11,base:=B}
theorem Gw{B:ah}(hB:aA B):aM Tryz.prog (Bp B):=⟨⟨tc ty3 (tc ty4 (tc gD (tc fS (af)))),ag,by simp only[Bp,ioB];omega⟩,bW rfl,by kernel_rfl⟩
def nB:Con:=fun l os=>match l,os with
 | [.z (.st (.pair .bool (.slice (.int .u32)))) x],[]=>some (WOK x,[.z (.int .i64) (bq (dec x) 0)],[])
 |_,_=>none
theorem vk{B:ah}(hB:aA B):Valid B Tryz.prog 154 nB:=by
 refine ab (Gw hB).tab Tryz.func154 rfl rfl rfl ?_;intro args os C rs os' hc hC;unfold nB at hc;split at hc;case h_2=>cases hc
 rename_i x;cases hc;refine v_h (Gw hB) fun X hP hT hr hG=> ?_;have hU:=Bp.eq_1;unfold Bp at hT;have hX:=Bool.not_true;simp only[Tryz.f154,aB,aj,ioB];refine s_g hG ?_;refine an (aC ?_);refine s_g hG ?_;refine av ?_ ?_
 ·intro hb0;try simp only[bt] at hb0
  refine s_g hG ?_;refine au (bR ?_);refine aL (q_e [] ?_);rw[bq,if_neg (by have:=(fb hC).1.1 hb0;omega),if_neg (by have:=(fb hC).1.1 hb0;omega)]
 ·intro hb0;try simp only[bf] at hb0
  refine s_g hG ?_;refine av ?_ ?_;·intro hb1;(try simp only[bt] at hb1);refine s_g hG ?_;refine au (bR ?_);refine aL (q_e [] ?_);rw[bq,if_pos (((fb hC).2 hb0).1 hb1)]
  ·intro hb1;(try simp only[bf] at hb1);refine az (aW ?_);refine al (s_g hG ?_);refine au (q_e [] ?_);have:=((fb hC).2 hb0).2 hb1;rw[bq,if_neg (by omega),if_pos this]
def Bq(B:ah):Tab:={types:= [(3,(.int .i64)),(87,(.slice (.int .u32))),(161,(.int .u32))],elems:= [],cons:= [(180,s9),(181,Bm)],hint:= [],N:=35,base:=B}
theorem Gx{B:ah}(hB:aA B):aM Tryz.prog (Bq B):=⟨⟨tc ty3 (tc gD (tc ff (af))),ag,by simp only[Bq,ioB];omega⟩,aK (cc Tryz.func180 (Bk hB) (cc Tryz.func181 (Iu hB) (aq))),by kernel_rfl⟩
def et:Con:=fun l os=>match l,os with
 | [.z (.slice (.int .u32)) m,.z (.slice (.int .u32)) o],[]=>some (Cano m/\Cano o/\m.length+o.length<CAP,[.z (.int .i64) (bq (valL m) (valL o))],[])
 |_,_=>none
theorem vl{B:ah}(hB:aA B):Valid B Tryz.prog 152 et:=by
 refine ab (Gx hB).tab Tryz.func152 rfl rfl rfl ?_;intro args os C rs os' hc hC;unfold et at hc;split at hc;case h_2=>cases hc
 rename_i m o;cases hc;refine v_h (Gx hB) fun X hP hT hr hG=> ?_;have hU:=Bq.eq_1;unfold Bq at hT;have hX:=ai @s9.eq_1<| @Bm.eq_1;simp only[Tryz.f152,aB,aj,ioB];refine s_g hG ?_;refine an (s_g hG ?_);refine s_g hG ?_;refine av ?_ ?_
 ·intro hb0;try simp only[bt] at hb0
  refine s_g hG ?_;refine au (aL ?_);refine q_e [] ?_;exact cmp_lens hC.1 hC.2.1 hb0
 ·intro hb0;try simp only[decide_eq_true_eq,decide_eq_false_iff_not,bne_eq_false_iff_eq] at hb0
  obtain⟨c1,c2,c3⟩:=hC;have c3:List.length m+List.length o<1000000000000:=c3;have hl:List.length m=List.length o:=by have:=lG.1 hb0;omega
  refine az (al ?_);refine an (s_g hG ?_);refine aC (bM (fun(z:Nat)=>(⟨[(0,.l (.z (.slice (.int .u32)) m)),(1,.l (.z (.slice (.int .u32)) o)),(6,.l (.z (.int .i64) ((z:Int)-1)))],[]⟩:aa)) (fun z=>z<=List.length m/\List.drop z m=List.drop z o) (fun z=>z) (List.length m) ?_ ?_ ?_);·refine q_l ?_;exact wo
  ·exact⟨Nat.le_refl _,by rw[List.drop_length,List.drop_of_length_le (by omega)]⟩
  ·rintro k ⟨g1,g2⟩;(try dsimp only at g1 g2);refine an (s_g hG ?_);refine av ?_ ?_
   ·intro hb1;(try simp only[bt] at hb1);refine az (al ?_);refine an (aC ?_);refine s_d hG ?_ ?_
    ·(try simp only[ba]);omega
    refine s_g hG ?_;refine av ?_ ?_;·intro hb2;(try simp only[bt] at hb2);refine s_g hG ?_;refine au (bR ?_);refine aL (gV ?_);refine bR (aL ?_);refine q_e [] ?_;obtain⟨j,rfl⟩:∃ j,k=j+1:=⟨k-1,by omega⟩;(have hk:((j+1:Nat):Int)-1=(j:Int):=by omega);rw[hk] at hb2 ⊢;exact cmp_place (k:=j) c1 c2 hl (by omega) g2 hb2
    ·(intro hb2;(try simp only[bf] at hb2);refine az (aW ?_);refine al (ak hG ?_ ?_);·exact tt9);show ∃ z,_;refine q_l ?_;(have hk:(k:Int)-1=((k-1:Nat):Int):=by omega);refine⟨k-1,by rw[hk,wo],by omega,?_,by omega⟩;refine drop_step (k:=k-1) hl (by omega) (by rw[show k-1+1=k by omega];exact g2) ?_;rw[hk] at hb2;exact lG.1 hb2
   ·intro hb1;(try simp only[bf] at hb1);refine bx (aN ?_);refine aJ (aI ?_);refine al (s_g hG ?_);refine au (q_e [] ?_);(have:k=0:=by omega);subst this;simp only[List.drop_zero] at g2;rw[g2];simp[bq]
def Br(B:ah):Tab:={types:= [(2,(.int .i64)),(3,(.int .i64)),(87,(.slice (.int .u32))),(161,(.int .u32))],elems:= [(87,161)],cons:= [],hint:= [],N:=46,base:=B}
theorem Gy{B:ah}(hB:aA B):aM Tryz.prog (Br B):=⟨⟨tc ty2 (tc ty3 (tc gD (tc ff (af)))),aV (by kernel_rfl) (ag),by simp only[Br,ioB];omega⟩,bW rfl,by kernel_rfl⟩
def vm:Con:=fun l os=>match l,os with
 | [.z (.slice (.int .u32)) m,.z (.slice (.int .u32)) o],[]=>some (Cano m/\Cano o/\valL o<=valL m/\m.length<CAP,[.z (.slice (.int .u32)) (padL (valL m-valL o).toNat m.length)],[])
 |_,_=>none
theorem Iv{B:ah}(hB:aA B):Valid B Tryz.prog 153 vm:=by
 refine ab (Gy hB).tab Tryz.func153 rfl rfl rfl ?_;intro args os C rs os' hc hC;unfold vm at hc;split at hc;case h_2=>cases hc
 rename_i m o;cases hc;refine v_h (Gy hB) fun X hP hT hr hG=> ?_;have hU:=Br.eq_1;unfold Br at hT;have hX:=Bool.not_true;simp only[Tryz.f153,aB,aj,ioB];refine s_g hG ?_;refine s_q hG ?_ ?_
 ·try simp only[ba]
  exact⟨by omega,by omega,by have:List.length m<1000000000000:=hC.2.2.2;unfold Cm.Roomy;omega⟩
 refine s_g hG ?_;refine an (s_g hG ?_);refine aC (bM (fun(z:Nat×Int×List Int)=>(⟨[(1,.l (.z (.slice (.int .u32)) o)),(5,.l (.ownS 12)),(6,.l (.z (.int .i64) z.2.1)),(13,.l (.z (.slice (.int .u32)) m)),(14,.l (.z (.int .i64) (List.length m:Int))),(15,.l (.z (.int .i64) (z.1:Int)))],[(12,.arr (.int .u32) 161 z.2.2)]⟩:aa)) (fun z=>z.1<=List.length m/\z.2.2.length=z.1/\Lim z.2.2/\0<=z.2.1/\z.2.1<=1/\valL z.2.2+valL (List.take z.1 o)=valL (List.take z.1 m)+LB^z.1*z.2.1) (fun z=>List.length m-z.1) (0,0,[]) ?_ ?_ ?_);·refine q_l ?_;exact⟨rfl,rfl⟩
 ·simp[Lim,valL]
 ·rintro⟨k,b,out⟩ ⟨g1,g2,g3,g4,g5,g6⟩;try dsimp only at g1 g2 g3 g4 g5 g6
  obtain⟨c1,c2,c3,c4⟩:=hC;have c4:List.length m<1000000000000:=c4;have hx:=c1.1.getD k;have hy:=c2.1.getD k;have hB:LB=1000000000:=rfl;refine s_g hG ?_;refine an (av ?_ ?_)
  ·intro hb0;(try simp only[bt] at hb0);refine az (al ?_);refine an (aC ?_);refine s_q hG ?_ ?_
   ·(try simp only[ba]);exact⟨by omega,by omega⟩
   refine s_g hG ?_;refine cI (fun(z:Int)=>(⟨[(1,.l (.z (.slice (.int .u32)) o)),(5,.l (.ownS 12)),(9,.l (.z (.int .i64) z)),(13,.l (.z (.slice (.int .u32)) m)),(14,.l (.z (.int .i64) (List.length m:Int))),(15,.l (.z (.int .i64) (k:Int)))],[(12,.arr (.int .u32) 161 out)]⟩:aa)) (fun z=>z=List.getD m k 0-b-List.getD o k 0) ?_ ?_
   ·refine s_g hG ?_;refine av ?_ ?_
    ·intro hb1;(try simp only[bt] at hb1);refine ak hG ?_ ?_
     ·(try simp only[ba]);exact⟨by omega,by omega⟩
     show ∃ z,_;refine q_l ?_;rw[fa,wi (x:=List.getD m k 0) (by omega) (by omega),wi (x:=List.getD m k 0-b) (by omega) (by omega)];first|(rw[fa,wi (x:=List.getD o k 0) (by omega) (by omega)];exact wo)|(rw[List.getD_eq_getElem?_getD (l:=o),List.getElem?_eq_none (by omega)];simp)
    ·intro hb1;(try simp only[bf] at hb1);refine az ?_;show ∃ z,_;refine q_l ?_;rw[fa,wi (x:=List.getD m k 0) (by omega) (by omega),wi (x:=List.getD m k 0-b) (by omega) (by omega)];first|(rw[fa,wi (x:=List.getD o k 0) (by omega) (by omega)];exact wo)|(rw[List.getD_eq_getElem?_getD (l:=o),List.getElem?_eq_none (by omega)];simp)
   rintro n hn;(try dsimp only at hn);refine s_g hG ?_;refine cI (fun(z:Int×Int)=>(⟨[(1,.l (.z (.slice (.int .u32)) o)),(5,.l (.ownS 12)),(6,.l (.z (.int .i64) z.2)),(9,.l (.z (.int .i64) z.1)),(13,.l (.z (.slice (.int .u32)) m)),(14,.l (.z (.int .i64) (List.length m:Int))),(15,.l (.z (.int .i64) (k:Int)))],[(12,.arr (.int .u32) 161 out)]⟩:aa)) (fun z=>0<=z.1/\z.1<LB/\0<=z.2/\z.2<=1/\z.1-LB*z.2=n) ?_ ?_
   ·refine s_g hG ?_;refine av ?_ ?_
    ·(intro hb2;(try simp only[bt] at hb2);refine ak hG ?_ ?_;·exact tt9);show ∃ z,_;refine q_l ?_;first|(rw[wo];exact⟨by omega,by omega,by omega,by omega,by omega⟩)|exact⟨by omega,by omega,by omega,by omega,by omega⟩
    ·intro hb2;(try simp only[bf] at hb2);refine az ?_;show ∃ z,_;refine q_l ?_;first|(rw[wo];exact⟨by omega,by omega,by omega,by omega,by omega⟩)|exact⟨by omega,by omega,by omega,by omega,by omega⟩
   rintro⟨n2,b2⟩ hn2;(try dsimp only at hn2);refine ak hG ?_ ?_
   ·(try simp only[ba]);unfold Cm.Roomy;omega
   (refine aW (al ?_);refine ak hG ?_ ?_;·exact tt9);show ∃ z,_;refine q_l ?_;obtain⟨hn1,hn2,hn3,hn4,hn5⟩:=hn2;rw[w32 hn1 (by omega)];obtain⟨q1,q2⟩:=minus_round (b:=b) g2 g3 g6 hn1 hn2 (b':=b2) (by omega);exact⟨k+1,by rw[wo];simp,by omega,by simp[g2],q1,hn3,hn4,q2,by omega⟩
  ·intro hb0;(try simp only[bf] at hb0);refine bx (aN ?_);refine aJ (aI ?_);refine al (s_g hG ?_);refine au (q_e [] ?_);(have hk:k=List.length m:=by omega);subst hk;exact minus_end c1 c2 c3 g2 g3 g4 (by rw[List.take_length] at g6;exact g6)
def Bt(B:ah):Tab:={types:= [(3,(.int .i64)),(4,.bool),(87,(.slice (.int .u32))),(89,tyW)],elems:= [],cons:= [(150,dE),(151,Be),(152,et),(153,vm)],hint:= [],N:=42,base:=B}
theorem Gz{B:ah}(hB:aA B):aM Tryz.prog (Bt B):=⟨⟨tc ty3 (tc ty4 (tc gD (tc fS (af)))),ag,by simp only[Bt,ioB];omega⟩,aK (cc Tryz.func150 (jf hB) (cc Tryz.func151 (Ir hB) (cc Tryz.func152 (vl hB) (cc Tryz.func153 (Iv hB) (aq))))),by kernel_rfl⟩
def xp:Con:=fun l os=>match l,os with
 | [.z (.st (.pair .bool (.slice (.int .u32)))) x,.z (.st (.pair .bool (.slice (.int .u32)))) y],[]=>some (WOK x/\WOK y/\x.2.length+y.2.length<CAP,[.z tyW (enc (dec x+dec y))],[])
 |_,_=>none
theorem vn{B:ah}(hB:aA B):Valid B Tryz.prog 110 xp:=by
 refine ab (Gz hB).tab Tryz.func110 rfl rfl rfl ?_;intro args os C rs os' hc hC;unfold xp at hc;split at hc;case h_2=>cases hc
 rename_i x y;cases hc;refine v_h (Gz hB) fun X hP hT hr hG=> ?_;have hU:=Bt.eq_1;unfold Bt at hT;have hX:=ai @et.eq_1<|ai @vm.eq_1<|ai @Be.eq_1<| @dE.eq_1;simp only[Tryz.f110,aB,aj,ioB];refine s_g hG ?_;refine an (aC ?_);refine s_g hG ?_;refine av ?_ ?_
 ·intro hb0;try simp only[bt] at hb0
  refine s_d hG ?_ ?_
  ·(try simp only[ba]);obtain⟨c1,c2,c3⟩:=hC;exact⟨⟨c1.1,c2.1,c3⟩,(limbs_can _).1,Nat.lt_of_le_of_lt (plus_len c1.1 c2.1) c3⟩
  refine au (bR ?_);refine aL (q_e [] ?_);exact add_same hC.1 hC.2.1 hb0
 ·intro hb0;try simp only[bf] at hb0
  refine s_q hG ?_ ?_
  ·(try simp only[ba]);obtain⟨c1,c2,c3⟩:=hC;exact⟨c1.1,c2.1,c3⟩
  refine av ?_ ?_
  ·intro hb1;(try simp only[bt] at hb1);refine s_d hG ?_ ?_
   ·(try simp only[ba]);obtain⟨c1,c2,c3⟩:=hC;rw[lH] at hb1;exact⟨⟨c2.1,c1.1,by omega,by omega⟩,padL_lim _ _,by rw[padL_len];omega⟩
   refine au (bR ?_);refine aL (q_e [] ?_);rw[lH] at hb1;rw[wh (fun e=>hb0 e.symm) (minus_val hC.2.1.1 hC.1.1 (by omega)),Int.add_comm]
  ·intro hb1;(try simp only[bf] at hb1);refine az (aW ?_);refine al (s_d hG ?_ ?_)
   ·(try simp only[ba]);obtain⟨c1,c2,c3⟩:=hC;rw[lH] at hb1;exact⟨⟨c1.1,c2.1,by omega,by omega⟩,padL_lim _ _,by rw[padL_len];omega⟩
   refine au (q_e [] ?_);rw[lH] at hb1;exact wh hb0 (minus_val hC.1.1 hC.2.1.1 (by omega))
def Bu(B:ah):Tab:={types:= [(89,tyW)],elems:= [],cons:= [(110,xp),(148,xo)],hint:= [],N:=9,base:=B}
theorem GA{B:ah}(hB:aA B):aM Tryz.prog (Bu B):=⟨⟨tc fS (af),ag,by simp only[Bu,ioB];omega⟩,aK (cc Tryz.func110 (vn hB) (cc Tryz.func148 (vj hB) (aq))),by kernel_rfl⟩
def Iw:Con:=fun l os=>match l,os with
 | [.z (.st (.pair .bool (.slice (.int .u32)))) x,.z (.st (.pair .bool (.slice (.int .u32)))) y],[]=>some (WOK x/\WOK y/\x.2.length+y.2.length<CAP,[.z tyW (enc (dec x-dec y))],[])
 |_,_=>none
theorem Ix{B:ah}(hB:aA B):Valid B Tryz.prog 179 Iw:=by
 refine ab (GA hB).tab Tryz.func179 rfl rfl rfl ?_;intro args os C rs os' hc hC;unfold Iw at hc;split at hc;case h_2=>cases hc
 rename_i x y;cases hc;refine v_h (GA hB) fun X hP hT hr hG=> ?_;have hU:=Bu.eq_1;unfold Bu at hT;have hX:=ai @xp.eq_1<| @xo.eq_1;simp only[Tryz.f179,aB,aj,ioB];refine s_g hG ?_;refine s_d hG ?_ ?_
 ·try simp only[ba]
  obtain⟨c1,c2,c3⟩:=hC;exact⟨⟨c2.1.1,by omega⟩,c1,enc_ok _,by rw[Hh c2];exact c3⟩
 refine au (q_e [] ?_);rw[bG];rfl
def Bv(B:ah):Tab:={types:= [(3,(.int .i64)),(4,.bool),(87,(.slice (.int .u32))),(89,tyW),(161,(.int .u32)),(164,(.int .u64))],elems:= [(87,161)],cons:= [(150,dE)],hint:= [],N:=79,base:=B}
theorem GB{B:ah}(hB:aA B):aM Tryz.prog (Bv B):=⟨⟨tc ty3 (tc ty4 (tc gD (tc fS (tc ff (tc lO (af)))))),aV (by kernel_rfl) (ag),by simp only[Bv,ioB];omega⟩,aK (cc Tryz.func150 (jf hB) (aq)),by kernel_rfl⟩
def xq:Con:=fun l os=>match l,os with
 | [.z (.st (.pair .bool (.slice (.int .u32)))) x,.z (.st (.pair .bool (.slice (.int .u32)))) y],[]=>some (WOK x/\WOK y/\x.2.length+y.2.length<CAP,[.z tyW (enc (dec x*dec y))],[])
 |_,_=>none
theorem vo{B:ah}(hB:aA B):Valid B Tryz.prog 109 xq:=by
 refine ab (GB hB).tab Tryz.func109 rfl rfl rfl ?_;intro args os C rs os' hc hC;unfold xq at hc;split at hc;case h_2=>cases hc
 rename_i x y;cases hc;refine v_h (GB hB) fun X hP hT hr hG=> ?_;have hU:=Bv.eq_1;unfold Bv at hT;have hX:= @dE.eq_1;simp only[Tryz.f109,aB,aj,ioB];refine s_g hG ?_;refine s_q hG ?_ ?_
 ·try simp only[ba]
  have c3:List.length x.2+List.length y.2<1000000000000:=hC.2.2;rw[wo];exact⟨by omega,by omega,by unfold Cm.Roomy;omega⟩
 refine an (s_g hG ?_);refine aC (bM (fun(z:Nat×List Int)=>(⟨[(2,.l (.z (.ptr tyW) x)),(3,.l (.z (.ptr tyW) y)),(4,.l (.ownP 4 0)),(5,.l (.ownS 19)),(21,.l (.z (.slice (.int .u32)) x.2)),(22,.l (.z (.int .i64) (List.length x.2:Int))),(23,.l (.z (.int .i64) (z.1:Int)))],[(19,.arr (.int .u32) 161 z.2),(4,.box 89 [.z .bool false,.val (.slice none 0 0)])]⟩:aa)) (fun z=>z.1<=List.length x.2/\z.2.length=List.length x.2+List.length y.2/\Lim z.2/\valL z.2=valL (List.take z.1 x.2)*valL y.2/\∀ j,z.1+List.length y.2<=j->z.2.getD j 0=0) (fun z=>List.length x.2-z.1) (0,List.replicate (List.length x.2+List.length y.2) 0) ?_ ?_ ?_);·refine q_l ?_;have c3:List.length x.2+List.length y.2<1000000000000:=hC.2.2;rw[wo];exact⟨rfl,by congr 1⟩
 ·obtain⟨r1,r2,r3⟩:=replicate_zero (List.length x.2+List.length y.2);exact⟨by simp,by simp,r1,by simp[r2,valL],fun j _=>r3 j⟩
 ·rintro⟨i,out⟩ ⟨g1,g2,g3,g4,g5⟩;try dsimp only at g1 g2 g3 g4 g5
  obtain⟨c1,c2,c3⟩:=hC;have c3:List.length x.2+List.length y.2<1000000000000:=c3;have hB:LB=1000000000:=rfl;refine s_g hG ?_;refine an (av ?_ ?_)
  ·intro hb0;(try simp only[bt] at hb0);refine az (al ?_);refine an (aC ?_);refine s_q hG ?_ ?_
   ·(try simp only[ba]);omega
   (refine s_g hG ?_;refine an (s_g hG ?_);refine aC (bM (fun(z:Nat×Int×List Int)=>(⟨[(2,.l (.z (.ptr tyW) x)),(3,.l (.z (.ptr tyW) y)),(4,.l (.ownP 4 0)),(5,.l (.ownS 19)),(6,.l (.z (.int .i64) (i:Int))),(7,.l (.z (.int .u32) (List.getD x.2 i 0))),(8,.l (.z (.int .u64) z.2.1)),(21,.l (.z (.slice (.int .u32)) x.2)),(22,.l (.z (.int .i64) (List.length x.2:Int))),(23,.l (.z (.int .i64) (i:Int))),(29,.l (.z (.slice (.int .u32)) y.2)),(30,.l (.z (.int .i64) (List.length y.2:Int))),(31,.l (.z (.int .i64) (z.1:Int)))],[(19,.arr (.int .u32) 161 z.2.2),(4,.box 89 [.z .bool false,.val (.slice none 0 0)])]⟩:aa)) (fun z=>z.1<=List.length y.2/\z.2.2.length=List.length x.2+List.length y.2/\Lim z.2.2/\0<=z.2.1/\z.2.1<LB/\valL z.2.2+LB^(i+z.1)*z.2.1=valL (List.take i x.2)*valL y.2+LB^i*(List.getD x.2 i 0*valL (List.take z.1 y.2))/\∀ j,i+List.length y.2<=j->z.2.2.getD j 0=0) (fun z=>List.length y.2-z.1) (0,0,out) ?_ ?_ ?_);·refine q_l ?_;exact⟨rfl,rfl⟩);·exact⟨by simp,g2,g3,by simp,by simp;decide,by simp[valL,g4],g5⟩
   ·rintro⟨k,c,out2⟩ ⟨k1,k2,k3,k4,k5,k6,k7⟩;(try dsimp only at k1 k2 k3 k4 k5 k6 k7);(have e1:IntKind.i64.wrap ((i:Int)+(k:Int))=((i+k:Nat):Int):=by rw[wo];omega);refine s_g hG ?_;refine an (av ?_ ?_)
    ·intro hb1;(try simp only[bt] at hb1);refine az (al ?_);refine an (aC ?_);refine s_q hG ?_ ?_
     ·(try simp only[ba]);omega
     refine cI (fun(z:Int)=>(⟨[(2,.l (.z (.ptr tyW) x)),(3,.l (.z (.ptr tyW) y)),(4,.l (.ownP 4 0)),(5,.l (.ownS 19)),(6,.l (.z (.int .i64) (i:Int))),(7,.l (.z (.int .u32) (List.getD x.2 i 0))),(9,.l (.z (.int .i64) (k:Int))),(11,.l (.z (.int .u64) z)),(21,.l (.z (.slice (.int .u32)) x.2)),(22,.l (.z (.int .i64) (List.length x.2:Int))),(23,.l (.z (.int .i64) (i:Int))),(29,.l (.z (.slice (.int .u32)) y.2)),(30,.l (.z (.int .i64) (List.length y.2:Int))),(31,.l (.z (.int .i64) (k:Int)))],[(19,.arr (.int .u32) 161 out2),(4,.box 89 [.z .bool false,.val (.slice none 0 0)])]⟩:aa)) (fun z=>z=List.getD x.2 i 0*List.getD y.2 k 0+out2.getD (i+k) 0+c) ?_ ?_
     ·refine ak hG ?_ ?_
      ·(try simp only[ba]);rw[e1];omega
      show ∃ z,_;refine q_l ?_;rw[e1];exact JH (c1.1.1.getD i) (c2.1.1.getD k) (k3.getD (i+k)) ⟨k4,k5⟩
     rintro n hn;(try dsimp only at hn);refine ak hG ?_ ?_
     ·(try simp only[ba]);rw[e1];omega
     (refine aW (al ?_);refine ak hG ?_ ?_;·exact tt9);show ∃ z,_;refine q_l ?_;obtain⟨m0,m1,m2,m3,m4,m5,m6,m7⟩:=mul_step c1.1.1 c2.1.1 k2 k3 k4 k5 (by omega) (by omega) k6 k7 hn;obtain⟨t1,t2,t3⟩:=mi m0 m1;rw[e1,t2,t3,Int.toNat_natCast];exact⟨k+1,by rw[wo];simp,by omega,m2,m3,m4,m5,m6,m7,by omega⟩
    ·intro hb1;(try simp only[bf] at hb1);refine bx (aN ?_);refine aJ (aI ?_);refine al (ak hG ?_ ?_)
     ·(try simp only[ba]);rw[wo];omega
     (refine aW (al ?_);refine ak hG ?_ ?_;·exact tt9);show ∃ z,_;refine q_l ?_;(have e1:IntKind.i64.wrap ((i:Int)+(List.length y.2:Int))=((i+List.length y.2:Nat):Int):=by rw[wo];omega);(have hk:k=List.length y.2:=by omega);subst hk;rw[List.take_length] at k6;obtain⟨f1,f2,f3,f4⟩:=mul_row k2 k3 k4 k5 (by omega) rfl k6 k7;rw[e1,w32 k4 (by omega),Int.toNat_natCast];exact⟨i+1,by rw[wo];simp,by omega,f1,f2,f3,f4,by omega⟩
  ·intro hb0;(try simp only[bf] at hb0);refine bx (aN ?_);refine aJ (aI ?_);refine al (s_q hG ?_ ?_)
   ·(try simp only[ba]);exact⟨g3,by unfold CAP;omega⟩
   refine au (q_e [] ?_);(have hi:i=List.length x.2:=by omega);subst hi;rw[List.take_length] at g4;rw[<- Hi g4]
def Bw(B:ah):Tab:={types:= [(3,(.int .i64)),(9,.str)],elems:= [],cons:= [],hint:= [],N:=18,base:=B}
theorem GC{B:ah}(hB:aA B):aM Tryz.prog (Bw B):=⟨⟨tc ty3 (tc ty9 (af)),ag,by simp only[Bw,ioB];omega⟩,bW rfl,by kernel_rfl⟩
def nS:Con:=fun l os=>match l,os with
 | [.z .str s,.z .str p],[]=>some (True,[.z .bool (dD s p)],[])
 |_,_=>none
theorem Iy{B:ah}(hB:aA B):Valid B Tryz.prog 139 nS:=by
 refine ab (GC hB).tab Tryz.func139 rfl rfl rfl ?_;intro args os C rs os' hc hC;unfold nS at hc;split at hc;case h_2=>cases hc
 rename_i s p;cases hc;refine v_h (GC hB) fun X hP hT hr hG=> ?_;have hU:=Bw.eq_1;unfold Bw at hT;have hX:=Bool.not_true;simp only[Tryz.f139,aB,aj,ioB];refine s_g hG ?_;refine s_q hG ?_ ?_
 ·try simp only[ba]
  (repeat' (first|apply And.intro|intro _))<;>(try simp only[decide_eq_true_eq,decide_eq_false_iff_not,Bool.not_eq_true',beq_iff_eq,Int.toNat_natCast] at*)<;>first|assumption|omega|trivial|(simp_all;done)|(simp_all;omega)
 refine au (q_e [] ?_);exact Cq s p
def Bx(B:ah):Tab:={types:= [(9,.str)],elems:= [],cons:= [(139,nS)],hint:= [],N:=13,base:=B}
theorem GD{B:ah}(hB:aA B):aM Tryz.prog (Bx B):=⟨⟨tc ty9 (af),ag,by simp only[Bx,ioB];omega⟩,aK (cc Tryz.func139 (Iy hB) (aq)),by kernel_rfl⟩
def eu:Con:=fun l os=>match l,os with
 | [.z .str s,.z .str p],[]=>some (True,[.z .str (aw s p)],[])
 |_,_=>none
theorem Iz{B:ah}(hB:aA B):Valid B Tryz.prog 186 eu:=by
 refine ab (GD hB).tab Tryz.func186 rfl rfl rfl ?_;intro args os C rs os' hc hC;unfold eu at hc;split at hc;case h_2=>cases hc
 rename_i s p;cases hc;refine v_h (GD hB) fun X hP hT hr hG=> ?_;have hU:=Bx.eq_1;unfold Bx at hT;have hX:= @nS.eq_1;simp only[Tryz.f186,aB,aj,ioB];refine s_g hG ?_;refine an (s_g hG ?_);refine av ?_ ?_
 ·intro hb0;try simp only[bt] at hb0
  refine s_q hG ?_ ?_
  ·(try simp only[ba]);have h:=hb0;unfold dD at h;simp only[Bool.and_eq_true,decide_eq_true_eq] at h;exact⟨by omega,by omega,by omega⟩
  refine au (aL ?_);refine q_e [] ?_;simp[aw,hb0]
 ·intro hb0;try simp only[bf] at hb0
  refine az (al ?_);refine s_g hG ?_;refine au (q_e [] ?_);simp[aw,hb0]
def Bz(B:ah):Tab:={types:= [(9,.str)],elems:= [],cons:= [(186,eu)],hint:= [],N:=8,base:=B}
theorem GE{B:ah}(hB:aA B):aM Tryz.prog (Bz B):=⟨⟨tc ty9 (af),ag,by simp only[Bz,ioB];omega⟩,aK (cc Tryz.func186 (Iz hB) (aq)),by kernel_rfl⟩
theorem BA{B:ah}(hB:aA B):Valid B Tryz.prog 172 eu:=by
 refine ab (GE hB).tab Tryz.func172 rfl rfl rfl ?_;intro args os C rs os' hc hC;unfold eu at hc;split at hc;case h_2=>cases hc
 rename_i s p;cases hc;refine v_h (GE hB) fun X hP hT hr hG=> ?_;have hU:=Bz.eq_1;unfold Bz at hT;have hX:= @eu.eq_1;simp only[Tryz.f172,aB,aj,ioB];refine s_g hG ?_;refine s_g hG ?_;refine au (q_e [] ?_);trivial
def BB(B:ah):Tab:={types:= [(87,(.slice (.int .u32)))],elems:= [],cons:= [],hint:= [],N:=4,base:=B}
theorem GF{B:ah}(hB:aA B):aM Tryz.prog (BB B):=⟨⟨tc gD (af),ag,by simp only[BB,ioB];omega⟩,bW rfl,by kernel_rfl⟩
def td:Con:=fun l os=>match l,os with
 | [.z (.slice (.int .u32)) xs],[]=>some (True,[.fn 208 [.z (.ptr (.slice (.int .u32))) xs]],[])
 |_,_=>none
theorem BC{B:ah}(hB:aA B):Valid B Tryz.prog 193 td:=by
 refine ab (GF hB).tab Tryz.func193 rfl rfl rfl ?_;intro args os C rs os' hc hC;unfold td at hc;split at hc;case h_2=>cases hc
 rename_i xs;cases hc;refine v_h (GF hB) fun X hP hT hr hG=> ?_;have hU:=BB.eq_1;unfold BB at hT;have hX:=Bool.not_true;simp only[Tryz.f193,aB,aj,ioB];refine s_g hG ?_;refine s_g hG ?_;refine au (q_e [] ?_);rfl
def BD(B:ah):Tab:={types:= [(3,(.int .i64)),(4,.bool),(87,(.slice (.int .u32))),(89,tyW)],elems:= [],cons:= [(152,et),(154,nB),(180,s9)],hint:= [],N:=32,base:=B}
theorem GG{B:ah}(hB:aA B):aM Tryz.prog (BD B):=⟨⟨tc ty3 (tc ty4 (tc gD (tc fS (af)))),ag,by simp only[BD,ioB];omega⟩,aK (cc Tryz.func152 (vl hB) (cc Tryz.func154 (vk hB) (cc Tryz.func180 (Bk hB) (aq)))),by kernel_rfl⟩
def IA:Con:=fun l os=>match l,os with
 | [.z (.st (.pair .bool (.slice (.int .u32)))) x,.z (.st (.pair .bool (.slice (.int .u32)))) y],[]=>some (WOK x/\WOK y/\x.2.length+y.2.length<CAP,[.z (.int .i64) (bq (dec x) (dec y))],[])
 |_,_=>none
theorem IB{B:ah}(hB:aA B):Valid B Tryz.prog 168 IA:=by
 refine ab (GG hB).tab Tryz.func168 rfl rfl rfl ?_;intro args os C rs os' hc hC;unfold IA at hc;split at hc;case h_2=>cases hc
 rename_i x y;cases hc;refine v_h (GG hB) fun X hP hT hr hG=> ?_;have hU:=BD.eq_1;unfold BD at hT;have hX:=ai @s9.eq_1<|ai @et.eq_1<| @nB.eq_1;simp only[Tryz.f168,aB,aj,ioB];refine s_g hG ?_;refine an (s_d hG ?_ ?_)
 ·try simp only[ba]
  exact⟨hC.1,hC.2.1⟩
 refine s_q hG ?_ ?_
 ·try simp only[ba]
  (repeat' (first|apply And.intro|intro _))<;>(try simp only[decide_eq_true_eq,decide_eq_false_iff_not,Bool.not_eq_true',beq_iff_eq,Int.toNat_natCast] at*)<;>first|assumption|omega|trivial|(simp_all;done)|(simp_all;omega)
 refine av ?_ ?_
 ·intro hb0;try simp only[bt] at hb0
  refine s_g hG ?_;refine au (aL ?_);refine q_e [] ?_;exact Ct hC.1 hb0
 ·intro hb0;try simp only[bf] at hb0
  refine az (al ?_);refine an (s_g hG ?_);refine av ?_ ?_
  ·intro hb1;(try simp only[bt] at hb1);refine s_q hG ?_ ?_
   ·(try simp only[ba]);exact⟨hC.2.1.1,hC.1.1,by omega⟩
   refine au (aL ?_);refine q_e [] ?_;exact(qt hC.1 hC.2.1 hb0).1 hb1
  ·intro hb1;(try simp only[bf] at hb1);refine az (al ?_);refine s_q hG ?_ ?_
   ·(try simp only[ba]);exact⟨hC.1.1,hC.2.1.1,by omega⟩
   refine au (q_e [] ?_);exact(qt hC.1 hC.2.1 hb0).2 hb1
def BE(B:ah):Tab:={types:= [(3,(.int .i64)),(9,.str),(87,(.slice (.int .u32))),(89,tyW),(161,(.int .u32))],elems:= [],cons:= [(166,AE)],hint:= [],N:=22,base:=B}
theorem GH{B:ah}(hB:aA B):aM Tryz.prog (BE B):=⟨⟨tc ty3 (tc ty9 (tc gD (tc fS (tc ff (af))))),ag,by simp only[BE,ioB];omega⟩,aK (cc Tryz.func166 (Hk hB) (aq)),by kernel_rfl⟩
def nT:Con:=fun l os=>match l,os with
 | [.z (.st (.pair .bool (.slice (.int .u32)))) x],[]=>some (WOK x/\x.2.length<CAP,[.z (.int .i64) (dv (dec x))],[])
 |_,_=>none
theorem IC{B:ah}(hB:aA B):Valid B Tryz.prog 169 nT:=by
 refine ab (GH hB).tab Tryz.func169 rfl rfl rfl ?_;intro args os C rs os' hc hC;unfold nT at hc;split at hc;case h_2=>cases hc
 rename_i x;cases hc;refine v_h (GH hB) fun X hP hT hr hG=> ?_;have hU:=BE.eq_1;unfold BE at hT;have hX:= @AE.eq_1;simp only[Tryz.f169,aB,aj,ioB];refine s_g hG ?_;refine s_g hG ?_;refine an (s_g hG ?_);refine av ?_ ?_
 ·intro hb0;try simp only[bt] at hb0
  refine s_g hG ?_;refine au (aL ?_);refine q_e [] ?_;rw[(fb hC.1).1.1 hb0,ss]
 ·intro hb0;try simp only[bf] at hb0
  refine az (al ?_);refine s_q hG ?_ ?_
  ·(try simp only[ba]);obtain⟨d1,d2,d3,d4⟩:=wt hC.1 hC.2 hb0;have d5:=wq hC.1.1.1 (by omega);have hB:LB=1000000000:=rfl;rw[d2,d3];exact⟨d1,by unfold I64;omega⟩
  refine au (q_e [] ?_);obtain⟨d1,d2,d3,d4⟩:=wt hC.1 hC.2 hb0;rw[d2,d3];exact d4
def BF(B:ah):Tab:={types:= [(3,(.int .i64)),(87,(.slice (.int .u32))),(89,tyW),(161,(.int .u32)),(164,(.int .u64))],elems:= [(87,161)],cons:= [],hint:= [],N:=27,base:=B}
theorem GI{B:ah}(hB:aA B):aM Tryz.prog (BF B):=⟨⟨tc ty3 (tc gD (tc fS (tc ff (tc lO (af))))),aV (by kernel_rfl) (ag),by simp only[BF,ioB];omega⟩,bW rfl,by kernel_rfl⟩
def il:Con:=fun l os=>match l,os with
 | [.z (.int .i64) n],[]=>some (I64 n,[.z tyW (enc n)],[])
 |_,_=>none
theorem nU{B:ah}(hB:aA B):Valid B Tryz.prog 133 il:=by
 refine ab (GI hB).tab Tryz.func133 rfl rfl rfl ?_;intro args os C rs os' hc hC;unfold il at hc;split at hc;case h_2=>cases hc
 rename_i n;cases hc;refine v_h (GI hB) fun X hP hT hr hG=> ?_;have hU:=BF.eq_1;unfold BF at hT;have hX:=Bool.not_true;simp only[Tryz.f133,aB,aj,ioB];refine s_g hG ?_;refine s_g hG ?_;refine s_g hG ?_;refine cI (fun(z:Int)=>(⟨[(4,.l (.z (.int .u64) z)),(3,.l (.ownP 3 0)),(2,.l (.ownP 2 0))],[(3,.box 89 [.z .bool (decide (n<0)),.val (.slice none 0 0)]),(2,.box 89 [.z .bool false,.val (.slice none 0 0)])]⟩:aa)) (fun z=>z=n.natAbs) ?_ ?_
 ·refine s_g hG ?_;refine av ?_ ?_
  ·(intro hb0;(try simp only[bt] at hb0);refine ak hG ?_ ?_;·exact tt9);show ∃ z,_;refine q_l ?_;first|exact(ke hC).1 hb0|exact(ke hC).2 hb0
  ·intro hb0;(try simp only[bf] at hb0);refine az ?_;show ∃ z,_;refine q_l ?_;first|exact(ke hC).1 hb0|exact(ke hC).2 hb0
 rintro z hz;try dsimp only at hz
 refine an (aC ?_);refine bM (fun(z:Nat×List Int)=>(⟨[(4,.l (.z (.int .u64) (z.1:Int))),(3,.l (.ownP 3 0)),(2,.l (.ownP 2 0))],[(3,.box 89 [.z .bool (decide (n<0)),.ownS 24]),(24,.arr (.int .u32) 161 z.2),(2,.box 89 [.z .bool false,.val (.slice none 0 0)])]⟩:aa)) (fun z=>z.2++limbs z.1=limbs n.natAbs/\z.1<18446744073709551616) (fun z=>z.1) (n.natAbs,[]) ?_ ?_ ?_;·refine q_l ?_;exact⟨hz,by unfold ioB;omega⟩
 ·exact⟨by simp,by have hC:I64 n:=hC;unfold I64 at hC;omega⟩
 ·rintro⟨u,m⟩ ⟨g1,g2⟩;try dsimp only at g1 g2
  refine an (s_g hG ?_);refine av ?_ ?_
  ·intro hb1;(try simp only[bt] at hb1);refine az (al ?_);refine an (aC ?_);refine ak hG ?_ ?_
   ·(try simp only[ba]);have h3:=kU (n:=n.natAbs) (by have hC:I64 n:=hC;unfold I64 at hC;omega);have h4:=congrArg List.length g1;simp only[List.length_append] at h4;exact⟨by omega,by unfold Cm.Roomy;omega⟩
   (refine aW (al ?_);refine ak hG ?_ ?_;·exact tt9);show ∃ z,_;refine q_l ?_;exact nn g1 g2 hb1
  ·intro hb1;(try simp only[bf] at hb1);refine bx (aN ?_);refine aJ (aI ?_);refine al (s_g hG ?_);refine au (q_e [24] ?_);(have h0:u=0:=by omega);subst h0;rw[show limbs 0= [] by simp[limbs],List.append_nil] at g1;rw[g1];rfl
def nV(B:ah):Tab:={types:= [(3,(.int .i64)),(22,(.slice .str)),(46,.str)],elems:= [],cons:= [],hint:= [],N:=26,base:=B}
theorem xr{B:ah}(hB:aA B):aM Tryz.prog (nV B):=⟨⟨tc ty3 (tc iD (tc wL (af))),ag,by simp only[nV,ioB];omega⟩,bW rfl,by kernel_rfl⟩
def mI:Con:=fun l os=>match l,os with
 | [.z (.slice .str) p,.z (.slice .str) q],[]=>some (p.length<=QL/\q.length<=QL,[.z .bool (decide (p=q))],[])
 |_,_=>none
theorem te{B:ah}(hB:aA B):Valid B Tryz.prog 28 mI:=by
 refine ab (xr hB).tab Tryz.func28 rfl rfl rfl ?_;intro args os C rs os' hc hC;unfold mI at hc;split at hc;case h_2=>cases hc
 rename_i p q;cases hc;refine v_h (xr hB) fun X hP hT hr hG=> ?_;have hU:=nV.eq_1;unfold nV at hT;have hX:=Bool.not_true;simp only[Tryz.f28,aB,aj,ioB];have hl:p.length<=1000000000:=hC.1;refine s_g hG ?_;refine an (s_g hG ?_);refine av ?_ ?_
 ·intro hb0;try simp only[bt] at hb0
  refine s_g hG ?_;refine au (aL ?_);refine q_e [] ?_;exact Gj hb0
 ·intro hb0;try simp only[bf] at hb0
  have he:p.length=q.length:=by have h9:(p.length:Int)=(q.length:Int):=hb0;omega
  refine az (al ?_);refine an (s_g hG ?_);refine aC (bM (fun(z:Nat)=>(⟨[(0,.l (.z (.slice .str) p)),(1,.l (.z (.slice .str) q)),(4,.l (.z .bool false)),(5,.l (.z (.int .i64) (z:Int)))],[]⟩:aa)) (fun z=>z<=p.length/\p.take z=q.take z) (fun z=>p.length-z) 0 ?_ ?_ ?_);·refine q_l ?_;rfl
  ·exact⟨by omega,rfl⟩
  ·rintro k ⟨g1,g2⟩;(try dsimp only at g1 g2);refine an (s_g hG ?_);refine av ?_ ?_
   ·intro hb1;(try simp only[bt] at hb1);(have hk:k<p.length:=by have h9:(k:Int)<(p.length:Int):=hb1;omega);refine az (al ?_);refine an (aC ?_);refine s_d hG ?_ ?_
    ·(try simp only[ba]);rw[<- he];exact⟨⟨by omega,hb1⟩,by omega,hb1⟩
    refine av ?_ ?_;·intro hb2;(try simp only[bt] at hb2);refine s_g hG ?_;refine au (bR ?_);refine aL (gV ?_);refine bR (aL ?_);refine q_e [] ?_;exact Gk hb2
    ·(intro hb2;(try simp only[bf] at hb2);refine az (aW ?_);refine al (ak hG ?_ ?_);·exact tt9);show ∃ z,_;refine q_l ?_;exact⟨k+1,wo,hk,Dm he hk g2 hb2,by omega⟩
   ·intro hb1;(try simp only[bf] at hb1);(have hk: ¬k<p.length:=by have h9: ¬ (k:Int)<(p.length:Int):=hb1;omega);refine bx (aN ?_);refine aJ (aI ?_);refine al (s_g hG ?_);refine au (q_e [] ?_);exact Gl he hk g2
def vp:Con:=fy [some (.slice .str),some (.slice .str)] mI
theorem z6{B:ah}(hB:aA B):Valid B Tryz.prog 28 vp:=c8 _ (te hB)
def rp(B:ah):Tab:={types:= [(87,(.slice (.int .u32))),(161,(.int .u32)),(164,(.int .u64))],elems:= [(87,161)],cons:= [(193,td)],hint:= [],N:=38,base:=B}
theorem GJ{B:ah}(hB:aA B):aM Tryz.prog (rp B):=⟨⟨tc gD (tc ff (tc lO (af))),aV (by kernel_rfl) (ag),by simp only[rp,ioB];omega⟩,aK (cc Tryz.func193 (BC hB) (aq)),by kernel_rfl⟩
def mJ:Con:=fun l os=>match l,os with
 | [.z (.slice (.int .u32)) m,.z (.int .u32) b],[]=>some (Lim m/\wx b/\m.length<CAP,[.z (.slice (.int .u32)) (padL (valL m/b).toNat m.length),.z (.int .u32) (valL m%b)],[])
 |_,_=>none
theorem ID{B:ah}(hB:aA B):Valid B Tryz.prog 189 mJ:=by
 refine ab (GJ hB).tab Tryz.func189 rfl rfl rfl ?_;intro args os C rs os' hc hC;unfold mJ at hc;split at hc;case h_2=>cases hc
 rename_i m b;cases hc;refine v_h (GJ hB) fun X hP hT hr hG=> ?_;have hU:=rp.eq_1;unfold rp at hT;have hX:= @td.eq_1;simp only[Tryz.f189,aB,aj,ioB];refine s_g hG ?_;refine s_q hG ?_ ?_
 ·try simp only[ba]
  exact⟨by omega,by omega,by have:=hC.2.2;unfold CAP at this;unfold Cm.Roomy;omega⟩
 refine s_g hG ?_;refine an (s_g hG ?_);refine aC (AB hr (gf:=208) (caps:= [.z (.ptr (.slice (.int .u32))) m]) (items:=cG m) (by simp only[hT,rp,mx0,mx1,mx2,mx3,mx4,mx5,mx6,effOp,endCall,callOp,appendOp,sliceLV,Ty.fieldTy,Ty.fieldOf,Nat.reduceLT,Nat.reduceEqDiff,Nat.reduceAdd,Nat.reduceMul,Nat.reduceSub,Nat.reduceLeDiff,Nat.reduceBEq,Nat.reduceBNe,reduceIte,reduceDIte,reduceCtorEq];try rfl) (by rfl) (by rw[hP];exact wK m) (by rfl) [3,6,7] (by rfl) (by simp only[hT,rp];try rfl) (fun(k:Nat) (z:Int×List Int)=>(⟨[(3,.l (.z (.ptr (.int .u32)) b)),(6,.l (.ownP 6 0)),(7,.l (.ownP 7 0))],[(6,.box 87 [.ownS 13]),(7,.box 164 [.z (.int .u64) z.1]),(13,.arr (.int .u32) 161 z.2)]⟩:aa)) (fun(k:Nat) (z:Int×List Int)=>jL m b k z.1 z.2) (0,List.replicate (List.length m) 0) ?_ ?_ ?_ ?_ ?_);·simp only[ml0,ml1,Nat.reduceLT,Nat.reduceEqDiff,Nat.reduceAdd,Nat.reduceMul,Nat.reduceSub,Nat.reduceLeDiff,Nat.reduceBEq,Nat.reduceBNe,reduceIte,reduceDIte,reduceCtorEq];simp
 ·exact wz hC.2.1
 ·intro k z;rfl
 ·intro k hk;rintro⟨r,out⟩ hz;try dsimp only at hz
  have hk:k<List.length m:=by simpa [cG] using hk
  refine⟨_,by simp only[hT,rp,cG,qA,mx0,mx1,mx2,mx3,mx4,mx5,mx6,effOp,endCall,callOp,appendOp,sliceLV,Ty.fieldTy,Ty.fieldOf,Nat.reduceLT,Nat.reduceEqDiff,Nat.reduceAdd,Nat.reduceMul,Nat.reduceSub,Nat.reduceLeDiff,Nat.reduceBEq,Nat.reduceBNe,reduceIte,reduceDIte,reduceCtorEq,List.getElem_map,List.getElem_range];rfl,?_⟩;intro X' hP' hT';have hG':aM X'.P X'.T:=by rw[hP',hT'];exact hG.keep _
  rw[hT] at hT';refine aC (an ?_);refine mh hG' ?_ ?_;·exact tt9
  refine al (AC hG' ?_ ?_)
  ·(try simp only[ba]);have hl:=hz.1;exact⟨AK hC.2.1,AK hC.2.1,by omega,by omega⟩
  refine aW ?_;show ∃ z,_;simp only[ml0,ml1,Nat.reduceLT,Nat.reduceEqDiff,Nat.reduceAdd,Nat.reduceMul,Nat.reduceSub,Nat.reduceLeDiff,Nat.reduceBEq,Nat.reduceBNe,reduceIte,reduceDIte,reduceCtorEq];exact zg hC.1 hC.2.1 hk hz
 ·rintro⟨r,out⟩ hz;try dsimp only at hz
  rw[show List.length (cG m)=List.length m by simp[cG]] at hz;refine aW (al ?_);refine s_d hG ?_ ?_;·exact tt9
  refine au (q_e [13] ?_);exact Cy hC.1 hC.2.1 hz
def BG(B:ah):Tab:={types:= [(3,(.int .i64)),(87,(.slice (.int .u32))),(161,(.int .u32)),(164,(.int .u64))],elems:= [(87,161)],cons:= [],hint:= [],N:=41,base:=B}
theorem GK{B:ah}(hB:aA B):aM Tryz.prog (BG B):=⟨⟨tc ty3 (tc gD (tc ff (tc lO (af)))),aV (by kernel_rfl) (ag),by simp only[BG,ioB];omega⟩,bW rfl,by kernel_rfl⟩
def kn:Con:=fun l os=>match l,os with
 | [.z (.slice (.int .u32)) m,.z (.int .u32) b],[]=>some (Lim m/\wy b/\m.length<CAP,[.own (.int .u32) 161 (padL (valL m*b).toNat (m.length+1))],[])
 |_,_=>none
theorem IE{B:ah}(hB:aA B):Valid B Tryz.prog 190 kn:=by
 refine ab (GK hB).tab Tryz.func190 rfl rfl rfl ?_;intro args os C rs os' hc hC;unfold kn at hc;split at hc;case h_2=>cases hc
 rename_i m b;cases hc;refine v_h (GK hB) fun X hP hT hr hG=> ?_;have hU:=BG.eq_1;unfold BG at hT;have hX:=Bool.not_true;simp only[Tryz.f190,aB,aj,ioB];refine s_g hG ?_;refine s_q hG ?_ ?_
 ·try simp only[ba]
  have h1:List.length m<1000000000000:=hC.2.2;rw[wo];exact⟨by omega,by omega,by unfold Cm.Roomy;omega⟩
 refine s_g hG ?_;refine an (s_g hG ?_);refine aC (bM (fun(z:Nat×Int×List Int)=>(⟨[(1,.l (.z (.int .u32) b)),(5,.l (.ownS 13)),(6,.l (.z (.int .u64) z.2.1)),(14,.l (.z (.slice (.int .u32)) m)),(15,.l (.z (.int .i64) (List.length m:Int))),(16,.l (.z (.int .i64) (z.1:Int)))],[(13,.arr (.int .u32) 161 z.2.2)]⟩:aa)) (fun z=>iA m b z.1 z.2.1 z.2.2) (fun z=>List.length m-z.1) (0,0,[]) ?_ ?_ ?_);·refine q_l ?_;exact⟨rfl,rfl⟩
 ·exact uo
 ·rintro⟨k,c,out⟩ hz;try dsimp only at hz
  refine s_g hG ?_;refine an (av ?_ ?_)
  ·intro hb0;(try simp only[bt] at hb0);refine az (al ?_);refine an (aC ?_);refine s_q hG ?_ ?_
   ·(try simp only[ba]);exact⟨by omega,hb0⟩
   refine s_g hG ?_;refine ak hG ?_ ?_
   ·(try simp only[ba]);have h1:List.length m<1000000000000:=hC.2.2;have h2:=hz.2.1;exact⟨by decide,by unfold Cm.Roomy;omega,by decide⟩
   (refine aW (al ?_);refine ak hG ?_ ?_;·exact tt9);show ∃ z,_;refine q_l ?_;exact wA hC.1 hC.2.2 hC.2.1 hb0 hz
  ·intro hb0;(try simp only[bf] at hb0);refine bx (aN ?_);refine aJ (aI ?_);refine al (s_q hG ?_ ?_)
   ·(try simp only[ba]);have h1:List.length m<1000000000000:=hC.2.2;have h2:=hz.2.1;have h3:=hz.1;unfold Cm.Roomy;omega
   refine au (q_e [] ?_);exact⟨trivial,zh hC.1 hC.2.1 hb0 hz⟩
def BH(B:ah):Tab:={types:= [(2,(.int .i64)),(3,(.int .i64)),(87,(.slice (.int .u32))),(161,(.int .u32)),(164,(.int .u64))],elems:= [],cons:= [],hint:= [],N:=57,base:=B}
theorem GM{B:ah}(hB:aA B):aM Tryz.prog (BH B):=⟨⟨tc ty2 (tc ty3 (tc gD (tc ff (tc lO (af))))),ag,by simp only[BH,ioB];omega⟩,bW rfl,by kernel_rfl⟩
def tf:Con:=fun l os=>match l,os with
 | [.ownS 10000000,.z (.slice (.int .u32)) o,.z (.int .u64) q],[.win (.int .u32) 161 pre xs []]=>some (Lim xs/\Lim o/\wy q/\o.length+1<=xs.length/\o.length<CAP,[.z .bool (decide (valL (xs.take (o.length+1))<q*valL o))],[.win (.int .u32) 161 pre (put xs (o.length+1) (valL (xs.take (o.length+1))-q*valL o)) []])
 |_,_=>none
theorem IF{B:ah}(hB:aA B):Valid B Tryz.prog 191 tf:=by
 refine ab (GM hB).tab Tryz.func191 rfl rfl rfl ?_;intro args os C rs os' hc hC;unfold tf at hc;split at hc;case h_2=>cases hc
 rename_i o q pre xs;cases hc;refine v_h (GM hB) fun X hP hT hr hG=> ?_;have hU:=BH.eq_1;unfold BH at hT;have hX:=Bool.not_true;simp only[Tryz.f191,aB,aj,ioB];refine s_g hG ?_;refine s_g hG ?_;refine an (s_g hG ?_);refine aC (bM (fun(z:Nat×Int×Int×List Int)=>(⟨[(0,.l (.ownS 10000000)),(1,.l (.z (.slice (.int .u32)) o)),(2,.l (.z (.int .u64) q)),(7,.l (.z (.int .u64) z.2.1)),(8,.l (.z (.int .i64) z.2.2.1)),(14,.l (.z (.int .i64) ((List.length o+1:Nat):Int))),(15,.l (.z (.int .i64) (z.1:Int)))],[(10000000,.win (.int .u32) 161 pre z.2.2.2 [])]⟩:aa)) (fun z=>iX xs o q z.1 z.2.1 z.2.2.1 z.2.2.2) (fun z=>List.length o+1-z.1) (0,0,0,xs) ?_ ?_ ?_);·refine q_l ?_;exact⟨wi (by omega) (by have:List.length o<1000000000000:=hC.2.2.2.2;omega),rfl⟩
 ·exact zj hC.1
 ·rintro⟨i,c,b,ys⟩ hz;try dsimp only at hz
  have hl:=hz.2.1;have hlen:=hC.2.2.2.1;refine s_g hG ?_;refine an (av ?_ ?_)
  ·intro hb0;(try simp only[bt] at hb0);refine az (al ?_);refine an (aC ?_);refine s_g hG ?_;refine s_g hG ?_;refine cI (fun(z:Int)=>(⟨[(0,.l (.ownS 10000000)),(1,.l (.z (.slice (.int .u32)) o)),(2,.l (.z (.int .u64) q)),(8,.l (.z (.int .i64) b)),(9,.l (.z (.int .i64) (i:Int))),(10,.l (.z (.int .u64) z)),(14,.l (.z (.int .i64) ((List.length o+1:Nat):Int))),(15,.l (.z (.int .i64) (i:Int)))],[(10000000,.win (.int .u32) 161 pre ys [])]⟩:aa)) (fun z=>z=c+q*o.getD i 0) ?_ ?_
   ·refine s_g hG ?_;refine av ?_ ?_
    ·intro hb1;(try simp only[bt] at hb1);refine ak hG ?_ ?_
     ·(try simp only[ba]);exact⟨by omega,hb1⟩
     show ∃ z,_;refine q_l ?_;first|exact EP i hC.2.1 hC.2.2.1 hz.2.2.2.2.1|exact sw hb1
    ·intro hb1;(try simp only[bf] at hb1);refine az ?_;show ∃ z,_;refine q_l ?_;first|exact EP i hC.2.1 hC.2.2.1 hz.2.2.2.2.1|exact sw hb1
   rintro n hn;(try dsimp only at hn);(have hn2:0<=n/\n<LB*LB:=by rw[hn];have:=zk i hC.2.1 hC.2.2.1 hz.2.2.2.2.1;exact⟨this.1,this.2.1⟩);refine s_q hG ?_ ?_
   ·(try simp only[ba]);decide
   refine s_q hG ?_ ?_
   ·(try simp only[ba]);exact⟨⟨by omega,by omega⟩,by omega,by decide⟩
   refine s_g hG ?_;refine cI (fun(z:Int×Int)=>(⟨[(0,.l (.ownS 10000000)),(1,.l (.z (.slice (.int .u32)) o)),(2,.l (.z (.int .u64) q)),(7,.l (.z (.int .u64) (n/LB))),(8,.l (.z (.int .i64) z.2)),(9,.l (.z (.int .i64) (i:Int))),(11,.l (.z (.int .i64) z.1)),(14,.l (.z (.int .i64) ((List.length o+1:Nat):Int))),(15,.l (.z (.int .i64) (i:Int)))],[(10000000,.win (.int .u32) 161 pre ys [])]⟩:aa)) (fun z=>(0<=z.1/\z.1<LB)/\(0<=z.2/\z.2<=1)/\z.1-LB*z.2=ys.getD i 0-n%LB-b) ?_ ?_
   ·refine s_g hG ?_;refine av ?_ ?_
    ·(intro hb2;(try simp only[bt] at hb2);refine ak hG ?_ ?_;·exact tt9);show ∃ z,_;refine q_l ?_;first|exact(by simpa only[and_assoc] using(lM hz.2.2.1 hn2 hz.2.2.2.2.2.2.1 rfl).1 hb2)|exact(by simpa only[and_assoc] using(lM hz.2.2.1 hn2 hz.2.2.2.2.2.2.1 rfl).2 hb2)
    ·intro hb2;(try simp only[bf] at hb2);refine az ?_;show ∃ z,_;refine q_l ?_;first|exact(by simpa only[and_assoc] using(lM hz.2.2.1 hn2 hz.2.2.2.2.2.2.1 rfl).1 hb2)|exact(by simpa only[and_assoc] using(lM hz.2.2.1 hn2 hz.2.2.2.2.2.2.1 rfl).2 hb2)
   rintro⟨v,b2⟩ hv;(try dsimp only at hv);refine ak hG ?_ ?_
   ·(try simp only[ba]);exact⟨⟨by omega,by omega⟩,by omega⟩
   (refine aW (al ?_);refine ak hG ?_ ?_;·exact tt9);show ∃ z,_;refine q_l ?_;exact CA hC.2.1 hC.2.2.1 hC.2.2.2.1 hC.2.2.2.2 hz hb0 hn hv
  ·intro hb0;(try simp only[bf] at hb0);refine bx (aN ?_);refine aJ (aI ?_);refine al (s_g hG ?_);refine au (q_e [] ?_);exact⟨(wC hC.2.2.2.1 hz (by omega)).2,trivial,(wC hC.2.2.2.1 hz (by omega)).1⟩
def BI(B:ah):Tab:={types:= [(3,(.int .i64)),(87,(.slice (.int .u32))),(161,(.int .u32))],elems:= [],cons:= [],hint:= [],N:=37,base:=B}
theorem GN{B:ah}(hB:aA B):aM Tryz.prog (BI B):=⟨⟨tc ty3 (tc gD (tc ff (af))),ag,by simp only[BI,ioB];omega⟩,bW rfl,by kernel_rfl⟩
def th:Con:=fun l os=>match l,os with
 | [.ownS 10000000,.z (.slice (.int .u32)) o],[.win (.int .u32) 161 pre xs []]=>some (Lim xs/\Lim o/\o.length+1<=xs.length/\o.length<CAP,[],[.win (.int .u32) 161 pre (put xs (o.length+1) (valL (xs.take (o.length+1))+valL o)) []])
 |_,_=>none
theorem IG{B:ah}(hB:aA B):Valid B Tryz.prog 192 th:=by
 refine ab (GN hB).tab Tryz.func192 rfl rfl rfl ?_;intro args os C rs os' hc hC;unfold th at hc;split at hc;case h_2=>cases hc
 rename_i o pre xs;cases hc;refine v_h (GN hB) fun X hP hT hr hG=> ?_;have hU:=BI.eq_1;unfold BI at hT;have hX:=Bool.not_true;simp only[Tryz.f192,aB,aj,ioB];refine s_g hG ?_;refine s_g hG ?_;refine aC (bM (fun(z:Nat×Int×List Int)=>(⟨[(0,.l (.ownS 10000000)),(1,.l (.z (.slice (.int .u32)) o)),(4,.l (.z (.int .u32) z.2.1)),(9,.l (.z (.int .i64) ((List.length o+1:Nat):Int))),(10,.l (.z (.int .i64) (z.1:Int)))],[(10000000,.win (.int .u32) 161 pre z.2.2 [])]⟩:aa)) (fun z=>iY xs o z.1 z.2.1 z.2.2) (fun z=>List.length o+1-z.1) (0,0,xs) ?_ ?_ ?_);·refine q_l ?_;exact⟨wi (by omega) (by have:List.length o<1000000000000:=hC.2.2.2;omega),rfl⟩
 ·exact zm hC.1
 ·rintro⟨i,c,ys⟩ hz;try dsimp only at hz
  have hl:=hz.2.1;have hlen:=hC.2.2.1;refine s_g hG ?_;refine an (av ?_ ?_)
  ·intro hb0;(try simp only[bt] at hb0);refine az (al ?_);refine an (aC ?_);refine s_g hG ?_;refine s_q hG ?_ ?_
   ·(try simp only[ba]);exact⟨⟨by omega,by omega⟩,by omega⟩
   refine cI (fun(z:Int)=>(⟨[(0,.l (.ownS 10000000)),(1,.l (.z (.slice (.int .u32)) o)),(5,.l (.z (.int .i64) (i:Int))),(6,.l (.z (.int .u32) z)),(9,.l (.z (.int .i64) ((List.length o+1:Nat):Int))),(10,.l (.z (.int .i64) (i:Int)))],[(10000000,.win (.int .u32) 161 pre ys [])]⟩:aa)) (fun z=>z=ys.getD i 0+c+o.getD i 0) ?_ ?_
   ·refine s_g hG ?_;refine av ?_ ?_
    ·intro hb1;(try simp only[bt] at hb1);refine ak hG ?_ ?_
     ·(try simp only[ba]);exact⟨by omega,hb1⟩
     show ∃ z,_;refine q_l ?_;first|exact(ur i hz.2.2.1 hC.2.1 hz.2.2.2.2.1).2 hb1|exact(ur i hz.2.2.1 hC.2.1 hz.2.2.2.2.1).1
    ·intro hb1;(try simp only[bf] at hb1);refine az ?_;show ∃ z,_;refine q_l ?_;first|exact(ur i hz.2.2.1 hC.2.1 hz.2.2.2.2.1).2 hb1|exact(ur i hz.2.2.1 hC.2.1 hz.2.2.2.2.1).1
   rintro n hn;(try dsimp only at hn);refine ak hG ?_ ?_
   ·(try simp only[ba]);exact⟨by decide,by decide,⟨by omega,by omega⟩,by omega⟩
   (refine aW (al ?_);refine ak hG ?_ ?_;·exact tt9);show ∃ z,_;refine q_l ?_;exact CB hC.2.1 hC.2.2.1 hC.2.2.2 hz hb0 hn
  ·intro hb0;(try simp only[bf] at hb0);refine bx (aN ?_);refine aJ (aI ?_);refine q_e [] ?_;exact⟨trivial,EO hC.2.2.1 hz (by omega)⟩
def ti(B:ah):Tab:={types:= [(3,(.int .i64)),(4,.bool),(87,(.slice (.int .u32))),(89,tyW),(161,(.int .u32)),(164,(.int .u64))],elems:= [(87,161)],cons:= [(150,dE),(152,et),(189,mJ),(190,kn),(191,tf),(192,th)],hint:= [52,144,152],N:=172,io:= [(191,[0]),(192,[0])],base:=B}
theorem GO{B:ah}(hB:aA B):aM Tryz.prog (ti B):=⟨⟨tc ty3 (tc ty4 (tc gD (tc fS (tc ff (tc lO (af)))))),aV (by kernel_rfl) (ag),by simp only[ti,ioB];omega⟩,aK (cc Tryz.func150 (jf hB) (cc Tryz.func152 (vl hB) (cc Tryz.func189 (ID hB) (cc Tryz.func190 (IE hB) (cc Tryz.func191 (IF hB) (cc Tryz.func192 (IG hB) (aq))))))),by kernel_rfl⟩
def iL:Con:=fun l os=>match l,os with
 | [.z (.slice (.int .u32)) m,.z (.slice (.int .u32)) o],[]=>some (Cano m/\Cano o/\o≠ []/\m.length+o.length+1<CAP,[.z (.slice (.int .u32)) (gK m o),.z (.slice (.int .u32)) (dw m o)],[])
 |_,_=>none
set_option maxHeartbeats 1000000 in
theorem BJ{B:ah}(hB:aA B):Valid B Tryz.prog 177 iL:=by
 refine ab (GO hB).tab Tryz.func177 rfl rfl rfl ?_;intro args os C rs os' hc hC;unfold iL at hc;split at hc;case h_2=>cases hc
 rename_i m o;cases hc;refine v_h (GO hB) fun X hP hT hr hG=> ?_;have hU:=ti.eq_1;unfold ti at hT;have hX:=ai @et.eq_1<|ai @th.eq_1<|ai @tf.eq_1<|ai @kn.eq_1<|ai @mJ.eq_1<|ai @dE.eq_1<|ai @bD.eq_def<| @bU.eq_def;simp only[Tryz.f177,aB,aj,ioB];refine an ?_;show J X _ _ _;refine ak hG ?_ ?_;·exact tt9
 refine al (an ?_);refine an ?_;show J X _ _ _;refine ak hG ?_ ?_
 ·try simp only[ba]
  exact⟨hC.1,hC.2.1,Nat.lt_of_le_of_lt (Nat.le_succ _) hC.2.2.2⟩
 refine al (av ?_ ?_)
 ·intro hb0;try simp only[bt] at hb0
  refine an ?_;show J X _ _ _;refine ak hG ?_ ?_;·exact tt9
  refine al (au ?_);refine aL (q_e [62] ?_);exact EX hb0
 ·intro hb0;try simp only[bf] at hb0
  refine az (al ?_);refine an (an ?_);show J X _ _ _;refine ak hG ?_ ?_;·exact tt9
  refine al (av ?_ ?_)
  ·intro hb1;(try simp only[bt] at hb1);refine an ?_;show J X _ _ _;refine ak hG ?_ ?_
   ·(try simp only[ba]);exact⟨⟨by omega,by omega⟩,hC.1.1,(div_one hC.2.1 hb0 hb1).1,by have:=hC.2.2.2;omega⟩
   (refine al (an ?_);show J X _ _ _;refine ak hG ?_ ?_;·exact tt9);refine al (au ?_);refine aL (q_e [62] ?_);exact(div_one hC.2.1 hb0 hb1).2
  ·intro hb1;simp only[beq_eq_false_iff_ne,ne_eq] at hb1;obtain⟨p,hp⟩:∃ p,List.length o=p+2:=ns hC.2.2.1 hb1;obtain⟨D,f⟩:∃ D:List Int,fQ m o D p:=⟨_,fQ.mk' hC.1 hC.2.1 hp (EY hb0) hC.2.2.2⟩;have hDl:=f.hDl;have hcc:=f.hc;have hlm:=f.hlm;refine az (al ?_);refine cI (fun(z:Int)=>(⟨[(0,.l (.z (.slice (.int .u32)) m)),(1,.l (.z (.slice (.int .u32)) o)),(8,.l (.z (.int .u32) z))],[]⟩:aa)) (fun z=>z=aE o) ?_ ?_
   ·show J X _ _ _;refine ak hG ?_ ?_
    ·(try simp only[ba]);have h:=qv f.ho f.hp (by omega);exact⟨h.1,h.2.1⟩
    show ∃ z,_;refine q_l ?_;exact(qv f.ho f.hp (by omega)).2.2
   rintro d hd;(try dsimp only at hd);subst hd;refine an ?_;show J X _ _ _;refine iV hG ?_ ?_
   ·(try simp only[ba]);exact CG f
   (refine al (an ?_);show J X _ _ _;refine ak hG ?_ ?_;·exact tt9);refine al (an ?_);show J X _ _ _;refine ak hG ?_ ?_
   ·(try simp only[ba]);exact CH f
   (refine al (an ?_);refine an ?_;show J X _ _ _;refine ak hG ?_ ?_;·exact tt9);refine al (aC ?_);refine bM (fun(z:Nat×List Int×List Int)=>(⟨[(8,.l (.z (.int .u32) (aE o))),(9,.l (.ownS 1392)),(10,.l (.z (.slice (.int .u32)) D)),(11,.l (.z (.int .i64) (List.length o:Int))),(12,.l (.ownS 62)),(13,.l (.z (.int .i64) ((z.1:Int)-1)))],[(1392,.arr (.int .u32) 161 z.2.1),(62,.arr (.int .u32) 161 z.2.2)]⟩:aa)) (fun z=>i6 (valL m*aE o) (valL D) (List.length m) (p+2) z.1 z.2.1 z.2.2) (fun z=>z.1) (List.length m+1-List.length o,padL (valL m*aE o).toNat (List.length m+1),List.replicate (List.length m+1-List.length o) 0) ?_ ?_ ?_;·refine q_l ?_;exact Hs f
   ·exact zo f
   ·(rintro⟨k,T,Q⟩ hz;(try dsimp only at hz);have hz1:=hz.1;have hz3:=hz.2.2.1;have hz5:=hz.2.2.2.2.1;refine an (an ?_);show J X _ _ _;refine ak hG ?_ ?_;·exact tt9);refine al (av ?_ ?_)
    ·intro hb2;(try simp only[decide_eq_true_eq] at hb2);obtain⟨j,rfl⟩:∃ j,k=j+1:=⟨k-1,by omega⟩;(have ej:(((j+1:Nat)):Int)-1=(j:Int):=by omega);rw[ej];(have hw17:(j:Int).toNat<List.length T:=by omega);(have hw19:∀ v:Int,(j:Int).toNat<(List.take (j:Int).toNat T++put (List.drop (j:Int).toNat T) (List.length D+1) v).length:=fun v=>by rw[AO _ (by rw[hDl];omega)];exact hw17);(have ej0:IntKind.i64.wrap ((j:Int)+(List.length o:Int))=((j+(p+2):Nat):Int):=by rw[wo];omega);(have ej1:IntKind.i64.wrap (((j+(p+2):Nat):Int)-1)=((j+(p+1):Nat):Int):=by rw[wo];omega);(have ej2:IntKind.i64.wrap (((j+(p+2):Nat):Int)-2)=((j+p:Nat):Int):=by rw[wo];omega);have g:=wD (j:=j) (p:=p) hz.2.1 f.hL f.hDl f.hVp (by omega) hz.2.2.2.2.2.2;have hD1:=(f.hL.getD (p+1)).2;(have hTj:j+(p+3)<=List.length T:=by omega);refine az (al ?_);refine an (aC ?_);refine cI (fun(z:Int)=>(⟨[(8,.l (.z (.int .u32) (aE o))),(9,.l (.ownS 1392)),(10,.l (.z (.slice (.int .u32)) D)),(11,.l (.z (.int .i64) (List.length o:Int))),(12,.l (.ownS 62)),(13,.l (.z (.int .i64) (j:Int))),(14,.l (.z (.int .u64) z))],[(1392,.arr (.int .u32) 161 T),(62,.arr (.int .u32) 161 Q)]⟩:aa)) (fun z=>z=T.getD (j+(p+2)) 0*LB+T.getD (j+(p+1)) 0/\z<LB*LB) ?_ ?_
     ·show J X _ _ _;refine iV hG ?_ ?_
      ·(try simp only[ba]);simp only[ej0,ej1,Int.toNat_natCast];exact⟨⟨by omega,by omega⟩,by omega,⟨by omega,by omega⟩,by omega⟩
      show ∃ z,_;refine q_l ?_;simp only[f.en1,f.en2,ej0,ej1,ej2,Int.toNat_natCast,fa];have:=ET (hz.2.1.getD (j+(p+2))) (hz.2.1.getD (j+(p+1)));rw[this.1];exact⟨rfl,this.2.1⟩
     rintro top ht;(try dsimp only at ht);have g2:=g;rw[<- ht.1] at g2;have ht0:=g2.htop;refine cI (fun(z:Int)=>(⟨[(8,.l (.z (.int .u32) (aE o))),(9,.l (.ownS 1392)),(10,.l (.z (.slice (.int .u32)) D)),(11,.l (.z (.int .i64) (List.length o:Int))),(12,.l (.ownS 62)),(13,.l (.z (.int .i64) (j:Int))),(14,.l (.z (.int .u64) top)),(15,.l (.z (.int .u64) z))],[(1392,.arr (.int .u32) 161 T),(62,.arr (.int .u32) 161 Q)]⟩:aa)) (fun z=>z=min (top/D.getD (p+1) 0) 999999999) ?_ ?_
     ·show J X _ _ _;refine ak hG ?_ ?_
      ·(try simp only[ba]);simp only[f.en1,f.en2,ej0,ej1,ej2,Int.toNat_natCast,fa];exact⟨⟨by omega,by omega⟩,(wE ht0 ht.2 g.hD1 hD1).2⟩
      show ∃ z,_;refine q_l ?_;simp only[f.en1,f.en2,ej0,ej1,ej2,Int.toNat_natCast,fa];rw[(wE ht0 ht.2 g.hD1 hD1).1]
     (rintro gs hg;(try dsimp only at hg);refine an (aC ?_);refine bM (fun(z:Int)=>(⟨[(8,.l (.z (.int .u32) (aE o))),(9,.l (.ownS 1392)),(10,.l (.z (.slice (.int .u32)) D)),(11,.l (.z (.int .i64) (List.length o:Int))),(12,.l (.ownS 62)),(13,.l (.z (.int .i64) (j:Int))),(14,.l (.z (.int .u64) top)),(15,.l (.z (.int .u64) z))],[(1392,.arr (.int .u32) 161 T),(62,.arr (.int .u32) 161 Q)]⟩:aa)) (fun z=>CF (valL ((T.drop j).take (p+3))) (valL D) top (D.getD (p+1) 0) z) (fun z=>z.toNat) gs ?_ ?_ ?_;·simp only[ml0,ml1,Nat.reduceLT,Nat.reduceEqDiff,Nat.reduceAdd,Nat.reduceMul,Nat.reduceSub,Nat.reduceLeDiff,Nat.reduceBEq,Nat.reduceBNe,reduceIte,reduceDIte,reduceCtorEq]);·exact Hq g2 hg
     ·rintro q hq;(try dsimp only at hq);refine an (an ?_);show J X _ _ _;refine iV hG ?_ ?_
      ·(try simp only[ba]);simp only[f.en1,f.en2,ej0,ej1,ej2,Int.toNat_natCast,fa];exact⟨⟨by omega,by omega⟩,⟨by omega,by omega⟩,⟨by omega,by omega⟩,by omega,fun h=>h,fun h=>⟨h,by omega,by omega⟩,fun h=>h⟩
      refine al (av ?_ ?_)
      ·(intro hb3;(try simp only[bt] at hb3);refine az (al ?_);refine aC ?_;show J X _ _ _;refine ak hG ?_ ?_;·exact tt9);refine aW ?_;show ∃ z,_;refine q_l ?_;simp only[f.en1,f.en2,ej0,ej1,ej2,Int.toNat_natCast,fa] at hb3;exact Ja g2 ht.2 hD1 hq hb3
      ·intro hb3;(try simp only[bf] at hb3);refine bx (aN ?_);refine aJ (aI ?_);refine al (cI (fun(z:Int×List Int)=>(⟨[(8,.l (.z (.int .u32) (aE o))),(9,.l (.ownS 1392)),(10,.l (.z (.slice (.int .u32)) D)),(11,.l (.z (.int .i64) (List.length o:Int))),(12,.l (.ownS 62)),(13,.l (.z (.int .i64) (j:Int))),(15,.l (.z (.int .u64) z.1))],[(1392,.arr (.int .u32) 161 z.2),(62,.arr (.int .u32) 161 Q)]⟩:aa)) (fun z=>z.1=valL ((T.drop j).take (p+3))/valL D/\z.2=T.take j++put (T.drop j) (p+3) (valL ((T.drop j).take (p+3))-z.1*valL D)) ?_ ?_)
       ·refine an ?_;show J X _ _ _;refine ct hG (by simp only[hw17,hT,ti,bD.eq_def,bU.eq_def,et,th,tf,kn,mJ,dE,mx0,mx1,mx2,mx3,mx4,mx5,mx6,effOp,endCall,callOp,appendOp,sliceLV,Ty.fieldTy,Ty.fieldOf,Nat.reduceLT,Nat.reduceEqDiff,Nat.reduceAdd,Nat.reduceMul,Nat.reduceSub,Nat.reduceLeDiff,Nat.reduceBEq,Nat.reduceBNe,reduceIte,reduceDIte,reduceCtorEq];rfl) ?_ ?_
        ·(try simp only[ba]);simp only[Int.toNat_natCast];exact⟨⟨by omega,by omega⟩,⟨hz.2.1.drop j,f.hL,⟨hq.2.2.2,hq.2.1⟩,by rw[hDl,List.length_drop];omega,by rw[hDl];unfold CAP;omega⟩,by rw[List.length_take];omega⟩
        refine al (av ?_ ?_)
        ·(intro hb4;(try simp only[bt] at hb4);refine an ?_;show J X _ _ _;refine ak hG ?_ ?_;·exact tt9);refine al ?_;show J X _ _ _;refine ct hG (by simp only[hw17,hw19,hT,ti,bD.eq_def,bU.eq_def,et,th,tf,kn,mJ,dE,mx0,mx1,mx2,mx3,mx4,mx5,mx6,effOp,endCall,callOp,appendOp,sliceLV,Ty.fieldTy,Ty.fieldOf,Nat.reduceLT,Nat.reduceEqDiff,Nat.reduceAdd,Nat.reduceMul,Nat.reduceSub,Nat.reduceLeDiff,Nat.reduceBEq,Nat.reduceBNe,reduceIte,reduceDIte,reduceCtorEq];rfl) ?_ ?_
         ·(try simp only[ba]);simp only[Int.toNat_natCast,f.hDl3];rw[(qw _ hTj).1,(qw _ hTj).2,AO _ hTj];exact⟨⟨by omega,by omega⟩,⟨AM (hz.2.1.drop j) _ _,f.hL,by rw[uq _ (by rw[List.length_drop];omega),List.length_drop];omega,by rw[hDl];unfold CAP;omega⟩,by rw[List.length_take];omega⟩
         show ∃ z,_;refine q_l ?_;simp only[Int.toNat_natCast,f.hDl3] at hb4 ⊢;simp only[f.en1,f.en2,ej0,ej1,ej2,Int.toNat_natCast,fa] at hb3;have hst:=EV g2 ht.2 hD1 hq hb3;first|(have hq1:=hst.1 hb4;have hqn:=g.qnn;have hql:=g.qlt;have hB:LB=1000000000:=rfl;rw[w64 (x:=q-1) (by omega) (by omega),sC hTj];exact⟨hq1,rfl⟩)|exact⟨hst.2 hb4,trivial⟩|exact⟨hst.2 hb4,rfl⟩
        ·intro hb4;(try simp only[bf] at hb4);refine az ?_;show ∃ z,_;refine q_l ?_;simp only[Int.toNat_natCast,f.hDl3] at hb4 ⊢;simp only[f.en1,f.en2,ej0,ej1,ej2,Int.toNat_natCast,fa] at hb3;have hst:=EV g2 ht.2 hD1 hq hb3;first|(have hq1:=hst.1 hb4;have hqn:=g.qnn;have hql:=g.qlt;have hB:LB=1000000000:=rfl;rw[w64 (x:=q-1) (by omega) (by omega),sC hTj];exact⟨hq1,rfl⟩)|exact⟨hst.2 hb4,trivial⟩|exact⟨hst.2 hb4,rfl⟩
       rintro⟨q2,Tn⟩ hq2;(try dsimp only at hq2);show J X _ _ _;refine ak hG ?_ ?_
       ·(try simp only[ba]);exact⟨⟨by omega,by omega⟩,by omega⟩
       (refine aW (al ?_);show J X _ _ _;refine ak hG ?_ ?_;·exact tt9);show ∃ z,_;refine q_l ?_;rw[wi (x:=(j:Int)-1) (by omega) (by omega),hq2.2,Int.toNat_natCast,w32 (by rw[hq2.1];exact g.qnn) (by rw[hq2.1];have:=g.qlt;have hB:LB=1000000000:=rfl;omega)];exact⟨j,rfl,CD f.hL f.hDl f.hVp f.hlm hz hq2.1,by omega⟩
    ·intro hb2;(try simp only[bf] at hb2);refine bx (aN ?_);refine aJ (aI ?_);refine al (an ?_);show J X _ _ _;refine ak hG ?_ ?_
     ·(try simp only[ba]);exact zp f hz (by omega)
     (refine al (an ?_);show J X _ _ _;refine ak hG ?_ ?_;·exact tt9);refine al (au ?_);refine q_e [62] ?_;(obtain rfl:k=0:=by omega);exact Hr f hz
def BK(B:ah):Tab:={types:= [(3,(.int .i64)),(4,.bool),(87,(.slice (.int .u32))),(89,tyW)],elems:= [],cons:= [(110,xp),(133,il),(150,dE),(154,nB),(177,iL),(179,Iw)],hint:= [],N:=47,base:=B}
theorem GP{B:ah}(hB:aA B):aM Tryz.prog (BK B):=⟨⟨tc ty3 (tc ty4 (tc gD (tc fS (af)))),ag,by simp only[BK,ioB];omega⟩,aK (cc Tryz.func110 (vn hB) (cc Tryz.func133 (nU hB) (cc Tryz.func150 (jf hB) (cc Tryz.func154 (vk hB) (cc Tryz.func177 (BJ hB) (cc Tryz.func179 (Ix hB) (aq))))))),by kernel_rfl⟩
def BL:Con:=fun l os=>match l,os with
 | [.z (.st (.pair .bool (.slice (.int .u32)))) x,.z (.st (.pair .bool (.slice (.int .u32)))) y],[]=>some (mn x y,[.z tyW (enc (fR (dec x) (dec y))),.z tyW (enc (mm (dec x) (dec y)))],[])
 |_,_=>none
theorem IH{B:ah}(hB:aA B):Valid B Tryz.prog 149 BL:=by
 refine ab (GP hB).tab Tryz.func149 rfl rfl rfl ?_;intro args os C rs os' hc hC;unfold BL at hc;split at hc;case h_2=>cases hc
 rename_i x y;cases hc;refine v_h (GP hB) fun X hP hT hr hG=> ?_;have hU:=BK.eq_1;unfold BK at hT;have hX:=ai @xp.eq_1<|ai @iL.eq_1<|ai @nB.eq_1<|ai @il.eq_1<|ai @Iw.eq_1<| @dE.eq_1;simp only[Tryz.f149,aB,aj,ioB];refine s_g hG ?_;refine s_q hG ?_ ?_
 ·try simp only[ba]
  exact hC.side1
 refine s_d hG ?_ ?_
 ·try simp only[ba]
  exact hC.side2
 refine an (s_q hG ?_ ?_)
 ·try simp only[ba]
  exact⟨enc_ok _,fun h=>h⟩
 refine av ?_ ?_
 ·intro hb0;try simp only[bt] at hb0
  refine iV hG ?_ ?_
  ·(try simp only[ba]);exact hC.side4
  refine al (s_d hG ?_ ?_);·exact tt9
  refine au (q_e [] ?_);exact hC.fin1 hb0
 ·intro hb0;try simp only[bf] at hb0
  refine az (al ?_);refine s_d hG ?_ ?_;·exact tt9
  refine au (q_e [] ?_);exact hC.fin2 hb0
def rq(B:ah):Tab:={types:= [(87,(.slice (.int .u32))),(161,(.int .u32)),(164,(.int .u64))],elems:= [],cons:= [(193,td)],hint:= [],N:=16,base:=B}
theorem GR{B:ah}(hB:aA B):aM Tryz.prog (rq B):=⟨⟨tc gD (tc ff (tc lO (af))),ag,by simp only[rq,ioB];omega⟩,aK (cc Tryz.func193 (BC hB) (aq)),by kernel_rfl⟩
def vq:Con:=fun l os=>match l,os with
 | [.z (.slice (.int .u32)) m],[]=>some (Lim m/\m.length<=2,[.z (.int .u64) (valL m)],[])
 |_,_=>none
theorem II{B:ah}(hB:aA B):Valid B Tryz.prog 178 vq:=by
 refine ab (GR hB).tab Tryz.func178 rfl rfl rfl ?_;intro args os C rs os' hc hC;unfold vq at hc;split at hc;case h_2=>cases hc
 rename_i m;cases hc;refine v_h (GR hB) fun X hP hT hr hG=> ?_;have hU:=rq.eq_1;unfold rq at hT;have hX:= @td.eq_1;simp only[Tryz.f178,aB,aj,ioB];refine s_g hG ?_;refine s_g hG ?_;refine an (s_g hG ?_);refine aC (AB hr (gf:=208) (caps:= [.z (.ptr (.slice (.int .u32))) m]) (items:=cG m) (by simp only[hT,rq,mx0,mx1,mx2,mx3,mx4,mx5,mx6,effOp,endCall,callOp,appendOp,sliceLV,Ty.fieldTy,Ty.fieldOf,Nat.reduceLT,Nat.reduceEqDiff,Nat.reduceAdd,Nat.reduceMul,Nat.reduceSub,Nat.reduceLeDiff,Nat.reduceBEq,Nat.reduceBNe,reduceIte,reduceDIte,reduceCtorEq];try rfl) (by rfl) (by rw[hP];exact wK m) (by rfl) [3] (by rfl) (by simp only[hT,rq];try rfl) (fun(k:Nat) (z:Int)=>(⟨[(3,.l (.ownP 3 0))],[(3,.box 164 [.z (.int .u64) z])]⟩:aa)) (fun(k:Nat) (z:Int)=>z=valL (List.drop (List.length m-k) m)) 0 ?_ ?_ ?_ ?_ ?_);·simp only[ml0,ml1,Nat.reduceLT,Nat.reduceEqDiff,Nat.reduceAdd,Nat.reduceMul,Nat.reduceSub,Nat.reduceLeDiff,Nat.reduceBEq,Nat.reduceBNe,reduceIte,reduceDIte,reduceCtorEq]
 ·rw[EI];rfl
 ·intro k z;rfl
 ·intro k hk;rintro z hz;try dsimp only at hz
  have hk:k<List.length m:=by simpa [cG] using hk
  refine⟨_,by simp only[hT,rq,cG,qA,mx0,mx1,mx2,mx3,mx4,mx5,mx6,effOp,endCall,callOp,appendOp,sliceLV,Ty.fieldTy,Ty.fieldOf,Nat.reduceLT,Nat.reduceEqDiff,Nat.reduceAdd,Nat.reduceMul,Nat.reduceSub,Nat.reduceLeDiff,Nat.reduceBEq,Nat.reduceBNe,reduceIte,reduceDIte,reduceCtorEq,List.getElem_map,List.getElem_range];rfl,?_⟩;intro X' hP' hT';have hG':aM X'.P X'.T:=by rw[hP',hT'];exact hG.keep _
  rw[hT] at hT';refine aC (mh hG' ?_ ?_);·exact tt9
  refine aW ?_;show ∃ z,_;simp only[ml0,ml1,Nat.reduceLT,Nat.reduceEqDiff,Nat.reduceAdd,Nat.reduceMul,Nat.reduceSub,Nat.reduceLeDiff,Nat.reduceBEq,Nat.reduceBNe,reduceIte,reduceDIte,reduceCtorEq];exact wu hC.1 hC.2 hk hz
 ·rintro z hz;try dsimp only at hz
  rw[show List.length (cG m)=List.length m by simp[cG],Nat.sub_self,List.drop_zero] at hz;refine aW (al ?_);refine s_g hG ?_;refine au (q_e [] ?_);exact hz
def BM(B:ah):Tab:={types:= [(3,(.int .i64)),(4,.bool),(87,(.slice (.int .u32))),(89,tyW),(161,(.int .u32)),(164,(.int .u64))],elems:= [(87,161)],cons:= [(150,dE),(177,iL),(178,vq)],hint:= [],N:=68,base:=B}
theorem GS{B:ah}(hB:aA B):aM Tryz.prog (BM B):=⟨⟨tc ty3 (tc ty4 (tc gD (tc fS (tc ff (tc lO (af)))))),aV (by kernel_rfl) (ag),by simp only[BM,ioB];omega⟩,aK (cc Tryz.func150 (jf hB) (cc Tryz.func177 (BJ hB) (cc Tryz.func178 (II hB) (aq)))),by kernel_rfl⟩
def tj:Con:=fun l os=>match l,os with
 | [.z (.st (.pair .bool (.slice (.int .u32)))) x,.z (.st (.pair .bool (.slice (.int .u32)))) y],[]=>some (mo x y,[.z tyW (enc (db (dec x) (dec y)))],[])
 |_,_=>none
theorem BN{B:ah}(hB:aA B):Valid B Tryz.prog 147 tj:=by
 refine ab (GS hB).tab Tryz.func147 rfl rfl rfl ?_;intro args os C rs os' hc hC;unfold tj at hc;split at hc;case h_2=>cases hc
 rename_i x y;cases hc;refine v_h (GS hB) fun X hP hT hr hG=> ?_;have hU:=BM.eq_1;unfold BM at hT;have hX:=ai @iL.eq_1<|ai @vq.eq_1<| @dE.eq_1;simp only[Tryz.f147,aB,aj,ioB];refine s_g hG ?_;refine s_d hG ?_ ?_;·exact tt9
 refine an (aC ?_);refine bM (fun(z:List Int×List Int)=>(⟨[(4,.l (.ownP 4 0)),(5,.l (.z (.slice (.int .u32)) z.1)),(6,.l (.z (.slice (.int .u32)) z.2))],[(4,.box 89 [.z .bool false,.val (.slice none 0 0)])]⟩:aa)) (fun z=>uu x y z.1 z.2) (fun z=>(valL z.2).toNat) (x.2,y.2) ?_ ?_ ?_;·simp only[ml0,ml1,Nat.reduceLT,Nat.reduceEqDiff,Nat.reduceAdd,Nat.reduceMul,Nat.reduceSub,Nat.reduceLeDiff,Nat.reduceBEq,Nat.reduceBNe,reduceIte,reduceDIte,reduceCtorEq]
 ·exact uu.start hC
 ·rintro⟨u,v⟩ hz;try dsimp only at hz
  have hcc:2*(List.length x.2+List.length y.2)+4<1000000000000:=hC.hc;refine an (s_g hG ?_);refine av ?_ ?_
  ·intro hb0;(try simp only[bt] at hb0);refine az (al ?_);refine aC (s_q hG ?_ ?_)
   ·(try simp only[ba]);exact hz.side3 hC (fz (by omega))
   refine ak hG ?_ ?_
   ·(try simp only[ba]);exact hz.side4 hC (fz (by omega))
   refine aW ?_;show ∃ z,_;refine q_l ?_;exact hz.next hC (fz (by omega))
  ·intro hb0;(try simp only[bf] at hb0);refine bx (aN ?_);refine aJ (aI ?_);refine al (an ?_);refine s_g hG ?_;refine av ?_ ?_
   ·intro hb1;(try simp only[bt] at hb1);refine s_q hG ?_ ?_
    ·(try simp only[ba]);exact⟨hz.hu.1,by have:=hz.hul;unfold CAP;omega⟩
    refine au (aL ?_);refine q_e [65] ?_;exact hz.stop (zq (by omega))
   ·intro hb1;simp only[beq_eq_false_iff_ne,ne_eq] at hb1;refine az (al ?_);refine s_q hG ?_ ?_
    ·(try simp only[ba]);exact hz.side3 hC (fz (by omega))
    refine s_q hG ?_ ?_
    ·(try simp only[ba]);have hr:=hz.rest (fz (by omega));exact⟨⟨hz.hv.1,by omega⟩,hz.side4 hC (fz (by omega)),hr.1.1,by omega⟩
    (refine an (aC ?_);refine bM (fun(z:Int×Int)=>(⟨[(4,.l (.ownP 4 0)),(11,.l (.z (.int .u64) z.1)),(12,.l (.z (.int .u64) z.2))],[(4,.box 89 [.z .bool false,.val (.slice none 0 0)])]⟩:aa)) (fun z=>uv x y z.1 z.2) (fun z=>z.2.toNat) (valL v,valL (enc (dec (false,dw u v))).2) ?_ ?_ ?_;·simp only[ml0,ml1,Nat.reduceLT,Nat.reduceEqDiff,Nat.reduceAdd,Nat.reduceMul,Nat.reduceSub,Nat.reduceLeDiff,Nat.reduceBEq,Nat.reduceBNe,reduceIte,reduceDIte,reduceCtorEq]);·exact uv.start hz hC (fz (by omega)) (by omega)
    ·rintro⟨a,b⟩ he;(try dsimp only at he);refine an (s_g hG ?_);refine av ?_ ?_
     ·intro hb2;(try simp only[bt] at hb2);refine az (al ?_);refine aC (iV hG ?_ ?_)
      ·(try simp only[ba]);omega
      refine aW ?_;show ∃ z,_;refine q_l ?_;exact he.next hb2
     ·(intro hb2;(try simp only[decide_eq_false_iff_not] at hb2);have he2:=he.stop hb2;refine bx (aN ?_);refine aJ (aI ?_);refine al (s_g hG ?_);refine an (aC ?_);refine bM (fun(z:Nat×List Int)=>(⟨[(11,.l (.z (.int .u64) (z.1:Int))),(13,.l (.ownP 13 0)),(4,.l (.ownP 4 0))],[(13,.box 89 [.z .bool false,.ownS 65]),(65,.arr (.int .u32) 161 z.2),(4,.box 89 [.z .bool false,.val (.slice none 0 0)])]⟩:aa)) (fun z=>z.2++limbs z.1=limbs (db (dec x) (dec y)).toNat/\z.1<18446744073709551616) (fun z=>z.1) ((db (dec x) (dec y)).toNat,[]) ?_ ?_ ?_;·refine q_l ?_;exact⟨he2.1,by unfold ioB;omega⟩);·exact⟨by simp,he2.2⟩
      ·rintro⟨w,l⟩ ⟨g1,g2⟩;(try dsimp only at g1 g2);refine an (s_g hG ?_);refine av ?_ ?_
       ·intro hb3;(try simp only[bt] at hb3);refine az (al ?_);refine an (aC ?_);refine ak hG ?_ ?_
        ·(try simp only[ba]);have h3:=kU he2.2;have h4:=congrArg List.length g1;simp only[List.length_append] at h4;exact⟨by decide,by unfold Cm.Roomy;omega⟩
        (refine aW (al ?_);refine ak hG ?_ ?_;·exact tt9);show ∃ z,_;refine q_l ?_;exact nn g1 g2 hb3
       ·intro hb3;(try simp only[bf] at hb3);refine bx (aN ?_);refine aJ (aI ?_);refine al (s_g hG ?_);refine au (q_e [65] ?_);(have h0:w=0:=by omega);subst h0;rw[show limbs 0= [] by simp[limbs],List.append_nil] at g1;rw[g1];exact Hu _ _
def nW(B:ah):Tab:={types:= [(3,(.int .i64)),(4,.bool),(87,(.slice (.int .u32))),(89,tyW),(91,tyN),(161,(.int .u32))],elems:= [],cons:= [(147,tj),(148,xo),(149,BL)],hint:= [2,3,5],N:=43,base:=B}
theorem xt{B:ah}(hB:aA B):aM Tryz.prog (nW B):=⟨⟨tc ty3 (tc ty4 (tc gD (tc fS (tc ty91 (tc ff (af)))))),ag,by simp only[nW,ioB];omega⟩,aK (cc Tryz.func147 (BN hB) (cc Tryz.func148 (vj hB) (cc Tryz.func149 (IH hB) (aq)))),by kernel_rfl⟩
def kK:Con:=fun l os=>match l,os with
 | [.z (.st (.pair .bool (.slice (.int .u32)))) n,.z (.st (.pair .bool (.slice (.int .u32)))) d],[]=>some (fX n d,[.z tyN (a8 (Rat.divInt (dec n) (dec d)))],[])
 |_,_=>none
theorem ko{B:ah}(hB:aA B):Valid B Tryz.prog 108 kK:=by
 refine ab (xt hB).tab Tryz.func108 rfl rfl rfl ?_;intro args os C rs os' hc hC;unfold kK at hc;split at hc;case h_2=>cases hc
 rename_i n d;cases hc;refine v_h (xt hB) fun X hP hT hr hG=> ?_;have hU:=nW.eq_1;unfold nW at hT;have hX:=ai @BL.eq_1<|ai @tj.eq_1<| @xo.eq_1;simp only[Tryz.f108,aB,aj,ioB];refine s_g hG ?_;refine s_q hG ?_ ?_
 ·try simp only[ba]
  exact Jd hC
 refine cI (fun(z:Int)=>(⟨[(2,.l (.ownP 2 0)),(3,.l (.ownP 3 0)),(4,.l (.ownP 4 0)),(5,.l (.ownP 5 0))],[(2,.box 89 [.z .bool n.1,.z (.slice (.int .u32)) n.2]),(3,.box 89 [.z .bool d.1,.z (.slice (.int .u32)) d.2]),(4,.box 91 [.z .bool false,.val (.slice none 0 0),.z .bool false,.val (.slice none 0 0)]),(5,.box 89 [.z .bool (enc z).1,.z (.slice (.int .u32)) (enc z).2])]⟩:aa)) (fun z=>z=ik (dec n) (dec d)) ?_ ?_
 ·refine s_g hG ?_;refine av ?_ ?_
  ·intro hb0;(try simp only[bt] at hb0);refine ak hG ?_ ?_
   ·(try simp only[ba]);exact Je hC
   show ∃ z,_;refine q_l ?_;(try simp only[pe,bG]);first|exact⟨_,rfl,rfl,JJ hC hb0⟩|exact⟨_,rfl,rfl,JK hC hb0⟩
  ·intro hb0;(try simp only[bf] at hb0);refine az ?_;show ∃ z,_;refine q_l ?_;(try simp only[pe,bG]);first|exact⟨_,rfl,rfl,JJ hC hb0⟩|exact⟨_,rfl,rfl,JK hC hb0⟩
 rintro g hg;try dsimp only at hg
 subst hg;have hp:=mk_pos hC;refine an (s_q hG ?_ ?_)
 ·try simp only[ba]
  (repeat' (first|apply And.intro|intro _))<;>(try simp only[decide_eq_true_eq,decide_eq_false_iff_not,Bool.not_eq_true',beq_iff_eq,Int.toNat_natCast] at*)<;>first|assumption|omega|trivial|(simp_all;done)|(simp_all;omega)
 refine av ?_ ?_
 ·intro hb1;try simp only[bt] at hb1
  refine s_q hG ?_ ?_
  ·(try simp only[ba]);exact(E8 hC).1
  refine ak hG ?_ ?_
  ·(try simp only[ba]);exact(E8 hC).2
  refine al (s_g hG ?_);refine au (q_e [] ?_);simp only[pe,bG];exact(qH hC.2.2.1).symm
 ·intro hb1;try simp only[bf] at hb1
  refine az (al ?_);refine s_g hG ?_;refine au (q_e [] ?_);exact Jf hC hb1
def nX(B:ah):Tab:={types:= [(89,tyW),(91,tyN)],elems:= [],cons:= [(108,kK),(109,xq),(110,xp)],hint:= [],N:=22,base:=B}
theorem xu{B:ah}(hB:aA B):aM Tryz.prog (nX B):=⟨⟨tc fS (tc ty91 (af)),ag,by simp only[nX,ioB];omega⟩,aK (cc Tryz.func108 (ko hB) (cc Tryz.func109 (vo hB) (cc Tryz.func110 (vn hB) (aq)))),by kernel_rfl⟩
def kL:Con:=fun l os=>match l,os with
 | [.z (.st (.pair (.st (.pair .bool (.slice (.int .u32)))) (.st (.pair .bool (.slice (.int .u32)))))) x,.z (.st (.pair (.st (.pair .bool (.slice (.int .u32)))) (.st (.pair .bool (.slice (.int .u32)))))) y],[]=>some (fA x y,[.z tyN (a8 (bj x+bj y))],[])
 |_,_=>none
theorem kq{B:ah}(hB:aA B):Valid B Tryz.prog 58 kL:=by
 refine ab (xu hB).tab Tryz.func58 rfl rfl rfl ?_;intro args os C rs os' hc hC;unfold kL at hc;split at hc;case h_2=>cases hc
 rename_i x y;cases hc;refine v_h (xu hB) fun X hP hT hr hG=> ?_;have hU:=nX.eq_1;unfold nX at hT;have hX:=ai @xp.eq_1<|ai @kK.eq_1<| @xq.eq_1;simp only[Tryz.f58,aB,aj,ioB];refine s_g hG ?_;refine s_d hG ?_ ?_
 ·try simp only[ba]
  exact CJ hC
 refine au (q_e [] ?_);simp only[pe2];exact E9 hC
def nY(B:ah):Tab:={types:= [(89,tyW),(91,tyN)],elems:= [],cons:= [(148,xo)],hint:= [],N:=9,base:=B}
theorem xv{B:ah}(hB:aA B):aM Tryz.prog (nY B):=⟨⟨tc fS (tc ty91 (af)),ag,by simp only[nY,ioB];omega⟩,aK (cc Tryz.func148 (vj hB) (aq)),by kernel_rfl⟩
def BO:Con:=fun l os=>match l,os with
 | [.z (.st (.pair (.st (.pair .bool (.slice (.int .u32)))) (.st (.pair .bool (.slice (.int .u32)))))) x],[]=>some (NOK x/\lq (bj x)<=QC,[.z tyN (a8 (-bj x))],[])
 |_,_=>none
theorem Dn{B:ah}(hB:aA B):Valid B Tryz.prog 111 BO:=by
 refine ab (xv hB).tab Tryz.func111 rfl rfl rfl ?_;intro args os C rs os' hc hC;unfold BO at hc;split at hc;case h_2=>cases hc
 rename_i x;cases hc;refine v_h (xv hB) fun X hP hT hr hG=> ?_;have hU:=nY.eq_1;unfold nY at hT;have hX:= @xo.eq_1;simp only[Tryz.f111,aB,aj,ioB];refine s_g hG ?_;refine s_d hG ?_ ?_
 ·try simp only[ba]
  exact CK hC
 refine au (q_e [] ?_);exact Fa hC.1
def nZ(B:ah):Tab:={types:= [(91,tyN)],elems:= [],cons:= [(58,kL),(111,BO)],hint:= [],N:=9,base:=B}
theorem xw{B:ah}(hB:aA B):aM Tryz.prog (nZ B):=⟨⟨tc ty91 (af),ag,by simp only[nZ,ioB];omega⟩,aK (cc Tryz.func58 (kq hB) (cc Tryz.func111 (Dn hB) (aq))),by kernel_rfl⟩
def eN:Con:=fun l os=>match l,os with
 | [.z (.st (.pair (.st (.pair .bool (.slice (.int .u32)))) (.st (.pair .bool (.slice (.int .u32)))))) x,.z (.st (.pair (.st (.pair .bool (.slice (.int .u32)))) (.st (.pair .bool (.slice (.int .u32)))))) y],[]=>some (fA x y,[.z tyN (a8 (bj x-bj y))],[])
 |_,_=>none
theorem tk{B:ah}(hB:aA B):Valid B Tryz.prog 60 eN:=by
 refine ab (xw hB).tab Tryz.func60 rfl rfl rfl ?_;intro args os C rs os' hc hC;unfold eN at hc;split at hc;case h_2=>cases hc
 rename_i x y;cases hc;refine v_h (xw hB) fun X hP hT hr hG=> ?_;have hU:=nZ.eq_1;unfold nZ at hT;have hX:=ai @kL.eq_1<| @BO.eq_1;simp only[Tryz.f60,aB,aj,ioB];refine s_g hG ?_;refine s_d hG ?_ ?_
 ·try simp only[ba]
  exact CL hC
 refine au (q_e [] ?_);simp only[pe2];exact Fb x y
def n9(B:ah):Tab:={types:= [(89,tyW),(91,tyN)],elems:= [],cons:= [(108,kK),(109,xq)],hint:= [],N:=16,base:=B}
theorem xx{B:ah}(hB:aA B):aM Tryz.prog (n9 B):=⟨⟨tc fS (tc ty91 (af)),ag,by simp only[n9,ioB];omega⟩,aK (cc Tryz.func108 (ko hB) (cc Tryz.func109 (vo hB) (aq))),by kernel_rfl⟩
def dJ:Con:=fun l os=>match l,os with
 | [.z (.st (.pair (.st (.pair .bool (.slice (.int .u32)))) (.st (.pair .bool (.slice (.int .u32)))))) x,.z (.st (.pair (.st (.pair .bool (.slice (.int .u32)))) (.st (.pair .bool (.slice (.int .u32)))))) y],[]=>some (fA x y,[.z tyN (a8 (bj x*bj y))],[])
 |_,_=>none
theorem kr{B:ah}(hB:aA B):Valid B Tryz.prog 105 dJ:=by
 refine ab (xx hB).tab Tryz.func105 rfl rfl rfl ?_;intro args os C rs os' hc hC;unfold dJ at hc;split at hc;case h_2=>cases hc
 rename_i x y;cases hc;refine v_h (xx hB) fun X hP hT hr hG=> ?_;have hU:=n9.eq_1;unfold n9 at hT;have hX:=ai @kK.eq_1<| @xq.eq_1;simp only[Tryz.f105,aB,aj,ioB];refine s_g hG ?_;refine s_d hG ?_ ?_
 ·try simp only[ba]
  exact CM hC
 refine au (q_e [] ?_);simp only[pe2];exact Fc hC
def oa(B:ah):Tab:={types:= [(89,tyW),(91,tyN)],elems:= [],cons:= [(108,kK),(109,xq)],hint:= [],N:=16,base:=B}
theorem xy{B:ah}(hB:aA B):aM Tryz.prog (oa B):=⟨⟨tc fS (tc ty91 (af)),ag,by simp only[oa,ioB];omega⟩,aK (cc Tryz.func108 (ko hB) (cc Tryz.func109 (vo hB) (aq))),by kernel_rfl⟩
def eO:Con:=fun l os=>match l,os with
 | [.z (.st (.pair (.st (.pair .bool (.slice (.int .u32)))) (.st (.pair .bool (.slice (.int .u32)))))) x,.z (.st (.pair (.st (.pair .bool (.slice (.int .u32)))) (.st (.pair .bool (.slice (.int .u32)))))) y],[]=>some (fA x y/\bj y≠0,[.z tyN (a8 (bj x/bj y))],[])
 |_,_=>none
theorem tl{B:ah}(hB:aA B):Valid B Tryz.prog 119 eO:=by
 refine ab (xy hB).tab Tryz.func119 rfl rfl rfl ?_;intro args os C rs os' hc hC;unfold eO at hc;split at hc;case h_2=>cases hc
 rename_i x y;cases hc;refine v_h (xy hB) fun X hP hT hr hG=> ?_;have hU:=oa.eq_1;unfold oa at hT;have hX:=ai @kK.eq_1<| @xq.eq_1;simp only[Tryz.f119,aB,aj,ioB];refine s_g hG ?_;refine s_d hG ?_ ?_
 ·try simp only[ba]
  exact CN hC
 refine au (q_e [] ?_);simp only[pe2];exact Fe hC.1
def oc(B:ah):Tab:={types:= [(89,tyW),(91,tyN)],elems:= [],cons:= [(154,nB)],hint:= [],N:=6,base:=B}
theorem xz{B:ah}(hB:aA B):aM Tryz.prog (oc B):=⟨⟨tc fS (tc ty91 (af)),ag,by simp only[oc,ioB];omega⟩,aK (cc Tryz.func154 (vk hB) (aq)),by kernel_rfl⟩
def jX:Con:=fun l os=>match l,os with
 | [.z (.st (.pair (.st (.pair .bool (.slice (.int .u32)))) (.st (.pair .bool (.slice (.int .u32)))))) x],[]=>some (NOK x,[.z (.int .i64) (bq (bj x).num 0)],[])
 |_,_=>none
theorem mK{B:ah}(hB:aA B):Valid B Tryz.prog 114 jX:=by
 refine ab (xz hB).tab Tryz.func114 rfl rfl rfl ?_;intro args os C rs os' hc hC;unfold jX at hc;split at hc;case h_2=>cases hc
 rename_i x;cases hc;refine v_h (xz hB) fun X hP hT hr hG=> ?_;have hU:=oc.eq_1;unfold oc at hT;have hX:= @nB.eq_1;simp only[Tryz.f114,aB,aj,ioB];refine s_g hG ?_;refine s_q hG ?_ ?_
 ·try simp only[ba]
  exact hC.w1
 refine au (q_e [] ?_);rw[hC.d1]
def od(B:ah):Tab:={types:= [(3,(.int .i64)),(89,tyW),(91,tyN)],elems:= [],cons:= [(108,kK),(133,il)],hint:= [],N:=10,base:=B}
theorem xA{B:ah}(hB:aA B):aM Tryz.prog (od B):=⟨⟨tc ty3 (tc fS (tc ty91 (af))),ag,by simp only[od,ioB];omega⟩,aK (cc Tryz.func108 (ko hB) (cc Tryz.func133 (nU hB) (aq))),by kernel_rfl⟩
def Do:Con:=fun l os=>match l,os with
 | [.z (.int .i64) n,.z (.int .i64) d],[]=>some (I64 n/\I64 d/\d≠0,[.z tyN (a8 (Rat.divInt n d))],[])
 |_,_=>none
theorem tn{B:ah}(hB:aA B):Valid B Tryz.prog 124 Do:=by
 refine ab (xA hB).tab Tryz.func124 rfl rfl rfl ?_;intro args os C rs os' hc hC;unfold Do at hc;split at hc;case h_2=>cases hc
 rename_i n d;cases hc;refine v_h (xA hB) fun X hP hT hr hG=> ?_;have hU:=od.eq_1;unfold od at hT;have hX:=ai @kK.eq_1<| @il.eq_1;simp only[Tryz.f124,aB,aj,ioB];refine s_g hG ?_;refine s_q hG ?_ ?_
 ·try simp only[ba]
  exact Ff hC
 refine au (q_e [] ?_);simp only[pe2];exact Hz n d
def oe(B:ah):Tab:={types:= [(3,(.int .i64)),(91,tyN)],elems:= [],cons:= [(124,Do)],hint:= [],N:=2,base:=B}
theorem xB{B:ah}(hB:aA B):aM Tryz.prog (oe B):=⟨⟨tc ty3 (tc ty91 (af)),ag,by simp only[oe,ioB];omega⟩,aK (cc Tryz.func124 (tn hB) (aq)),by kernel_rfl⟩
def dK:Con:=fun l os=>match l,os with
 | [],[]=>some (True,[.z tyN (a8 0)],[])
 |_,_=>none
theorem kt{B:ah}(hB:aA B):Valid B Tryz.prog 113 dK:=by
 refine ab (xB hB).tab Tryz.func113 rfl rfl rfl ?_;intro args os C rs os' hc hC;unfold dK at hc;split at hc;case h_2=>cases hc
 cases hc;refine v_h (xB hB) fun X hP hT hr hG=> ?_;have hU:=oe.eq_1;unfold oe at hT;have hX:= @Do.eq_1;simp only[Tryz.f113,aB,aj,ioB];refine s_g hG ?_;refine s_q hG ?_ ?_
 ·try simp only[ba]
  exact⟨by unfold I64;omega,by unfold I64;omega,by decide⟩
 refine au (q_e [] ?_);simp only[pe2];rw[zero_divInt]
def og(B:ah):Tab:={types:= [(3,(.int .i64)),(87,(.slice (.int .u32))),(89,tyW),(91,tyN),(161,(.int .u32))],elems:= [],cons:= [],hint:= [],N:=16,base:=B}
theorem xC{B:ah}(hB:aA B):aM Tryz.prog (og B):=⟨⟨tc ty3 (tc gD (tc fS (tc ty91 (tc ff (af))))),ag,by simp only[og,ioB];omega⟩,bW rfl,by kernel_rfl⟩
def oh:Con:=fun l os=>match l,os with
 | [.z (.st (.pair (.st (.pair .bool (.slice (.int .u32)))) (.st (.pair .bool (.slice (.int .u32)))))) x],[]=>some (NOK x,[.z .bool (decide ((bj x).den=1))],[])
 |_,_=>none
theorem Dp{B:ah}(hB:aA B):Valid B Tryz.prog 170 oh:=by
 refine ab (xC hB).tab Tryz.func170 rfl rfl rfl ?_;intro args os C rs os' hc hC;unfold oh at hc;split at hc;case h_2=>cases hc
 rename_i x;cases hc;refine v_h (xC hB) fun X hP hT hr hG=> ?_;have hU:=og.eq_1;unfold og at hT;have hX:=Bool.not_true;simp only[Tryz.f170,aB,aj,ioB];refine s_g hG ?_;refine s_q hG ?_ ?_
 ·try simp only[ba]
  (repeat' (first|apply And.intro|intro _))<;>(try simp only[decide_eq_true_eq,decide_eq_false_iff_not,Bool.not_eq_true',beq_iff_eq,Int.toNat_natCast] at*)<;>first|assumption|omega|trivial|(simp_all;done)|(simp_all;omega)
 refine au (q_e [] ?_);exact zv hC
def om(B:ah):Tab:={types:= [(3,(.int .i64)),(89,tyW),(91,tyN)],elems:= [],cons:= [(169,nT)],hint:= [],N:=17,base:=B}
theorem xD{B:ah}(hB:aA B):aM Tryz.prog (om B):=⟨⟨tc ty3 (tc fS (tc ty91 (af))),ag,by simp only[om,ioB];omega⟩,aK (cc Tryz.func169 (IC hB) (aq)),by kernel_rfl⟩
def mL:Con:=fun l os=>match l,os with
 | [.z (.st (.pair (.st (.pair .bool (.slice (.int .u32)))) (.st (.pair .bool (.slice (.int .u32)))))) x,.z (.int .i64) k],[]=>some (NOK x/\lq (bj x)<=QC,[.z .bool (decide (dv (bj x).num<=k/\dv ((bj x).den:Int)<=k))],[])
 |_,_=>none
theorem tv{B:ah}(hB:aA B):Valid B Tryz.prog 129 mL:=by
 refine ab (xD hB).tab Tryz.func129 rfl rfl rfl ?_;intro args os C rs os' hc hC;unfold mL at hc;split at hc;case h_2=>cases hc
 rename_i x k;cases hc;refine v_h (xD hB) fun X hP hT hr hG=> ?_;have hU:=om.eq_1;unfold om at hT;have hX:= @nT.eq_1;simp only[Tryz.f129,aB,aj,ioB];refine s_g hG ?_;refine s_q hG ?_ ?_
 ·try simp only[ba]
  exact⟨(jb hC).1,id,fun h=>⟨h,(jb hC).2⟩,id⟩
 refine au (q_e [] ?_);exact CO k hC.1
def oo(B:ah):Tab:={types:= [(89,tyW),(91,tyN)],elems:= [],cons:= [],hint:= [],N:=8,base:=B}
theorem xE{B:ah}(hB:aA B):aM Tryz.prog (oo B):=⟨⟨tc fS (tc ty91 (af)),ag,by simp only[oo,ioB];omega⟩,bW rfl,by kernel_rfl⟩
def oq:Con:=fun l os=>match l,os with
 | [.z (.st (.pair (.st (.pair .bool (.slice (.int .u32)))) (.st (.pair .bool (.slice (.int .u32)))))) x],[]=>some (True,[.z tyW x.1,.z tyW x.2],[])
 |_,_=>none
theorem Dq{B:ah}(hB:aA B):Valid B Tryz.prog 167 oq:=by
 refine ab (xE hB).tab Tryz.func167 rfl rfl rfl ?_;intro args os C rs os' hc hC;unfold oq at hc;split at hc;case h_2=>cases hc
 rename_i x;cases hc;refine v_h (xE hB) fun X hP hT hr hG=> ?_;have hU:=oo.eq_1;unfold oo at hT;have hX:=Bool.not_true;simp only[Tryz.f167,aB,aj,ioB];refine s_g hG ?_;refine s_d hG ?_ ?_;·exact tt9
 refine au (q_e [] ?_);trivial
def ot(B:ah):Tab:={types:= [(9,.str),(89,tyW),(91,tyN)],elems:= [],cons:= [(144,AF),(170,oh)],hint:= [],N:=16,base:=B}
theorem xF{B:ah}(hB:aA B):aM Tryz.prog (ot B):=⟨⟨tc ty9 (tc fS (tc ty91 (af))),ag,by simp only[ot,ioB];omega⟩,aK (cc Tryz.func144 (Hn hB) (cc Tryz.func170 (Dp hB) (aq))),by kernel_rfl⟩
def vr:Con:=fun l os=>match l,os with
 | [.z (.st (.pair (.st (.pair .bool (.slice (.int .u32)))) (.st (.pair .bool (.slice (.int .u32)))))) x],[]=>some (NOK x/\lq (bj x)<=QC,[.z .str (bS (bj x))],[])
 |_,_=>none
theorem Dr{B:ah}(hB:aA B):Valid B Tryz.prog 130 vr:=by
 refine ab (xF hB).tab Tryz.func130 rfl rfl rfl ?_;intro args os C rs os' hc hC;unfold vr at hc;split at hc;case h_2=>cases hc
 rename_i x;cases hc;refine v_h (xF hB) fun X hP hT hr hG=> ?_;have hU:=ot.eq_1;unfold ot at hT;have hX:=ai @oh.eq_1<| @AF.eq_1;simp only[Tryz.f130,aB,aj,ioB];refine s_g hG ?_;refine an (s_q hG ?_ ?_)
 ·try simp only[ba]
  exact hC.1
 refine av ?_ ?_
 ·intro hb0;try simp only[bt] at hb0
  refine s_q hG ?_ ?_
  ·(try simp only[ba]);exact wP hC
  refine au (aL ?_);refine q_e [] ?_;exact CP hC.1 hb0
 ·intro hb0;try simp only[bf] at hb0
  refine az (al ?_);refine s_d hG ?_ ?_
  ·(try simp only[ba]);exact wQ hC
  refine au (q_e [] ?_);exact CQ hC.1 hb0
end Go.Proofs.YtdojbabpnaifoaaGreatDoor
end
section
namespace Go.Proofs
open Go.RowKit Go.Cm
def Ds:Con:=fun l os=>match l,os with
 | [.z .str s,.z .str t],[]=>some (t= [47]/\s.length<4294967281,[.z .str (tN s),.z .str (if cb s=true then tR s else []),.z .bool (cb s)],[])
 |_,_=>none
theorem tw{B:ah}(hB:aA B):Valid B Tryz.prog 131 Ds:=by
 intro args os C rs os' hc hC O w vals ρ0 hOn hIo hO hOI hargs hown hap;unfold Ds at hc;split at hc;case h_2=>cases hc
 rename_i s t;cases hc;obtain⟨u,v,rfl,hu,hv⟩:=qo hargs;rw[eV hv,eV hu];obtain⟨rfl,h1⟩:=hC;obtain⟨m,hm⟩:=hB.2 w hOn;have hsz:(⟨s.toArray⟩:ByteArray).size=s.length:=by simp[ByteArray.size]
 refine(Tryz.strings_Cut ⟨s.toArray⟩ ⟨[47].toArray⟩ m w (by rw[hsz];exact h1) hm).mono fun e w' ⟨he,n,hw⟩=> ?_;have hb:Below w.heap.size w w':=by rw[hw];exact⟨rfl,rfl,rfl,Nat.le_refl _,fun _ _=>rfl⟩
 have e1:Lib.cut (⟨s.toArray⟩:ByteArray).data.toList (⟨[47].toArray⟩:ByteArray).data.toList=(tN s,if cb s=true then tR s else [],cb s):=by simpa using CR s
 rw[e1] at he;subst he;exact qn (vs:= [.string ⟨(tN s).toArray⟩,.string ⟨(if cb s=true then tR s else []).toArray⟩,.bool (cb s)]) hb (fun H M=>⟨eb (ρ:=fun _=>undef),eb (ρ:=fun _=>undef),bF (ρ:=fun _=>undef),trivial⟩)
end Go.Proofs
end
section
namespace Go.Proofs.YtdojbabpnaifoaaGreatDoor
open Go Go.Cm Go.Proofs
def BP(B:ah):Tab:={types:= [(3,(.int .i64)),(5,(.int .u8)),(9,.str),(47,(.slice (.int .u8)))],elems:= [(47,5)],cons:= [(172,eu)],hint:= [],N:=38,base:=B}
theorem GT{B:ah}(hB:aA B):aM Tryz.prog (BP B):=⟨⟨tc ty3 (tc ty5 (tc ty9 (tc J8 (af)))),aV (by kernel_rfl) (ag),by simp only[BP,ioB];omega⟩,aK (cc Tryz.func172 (BA hB) (aq)),by kernel_rfl⟩
def vu:Con:=fun l os=>match l,os with
 | [.z .str s],[]=>some (lL s,[.z (.int .i64) (chk s)],[])
 |_,_=>none
theorem IJ{B:ah}(hB:aA B):Valid B Tryz.prog 142 vu:=by
 refine ab (GT hB).tab Tryz.func142 rfl rfl rfl ?_;intro args os C rs os' hc hC;unfold vu at hc;split at hc;case h_2=>cases hc
 rename_i s;cases hc;refine v_h (GT hB) fun X hP hT hr hG=> ?_;have hU:=BP.eq_1;unfold BP at hT;have hX:= @eu.eq_1;simp only[Tryz.f142,aB,aj,ioB];refine s_g hG ?_;refine Az (s_g hG ?_);refine s_g hG ?_;refine an (Ay ?_);refine al (cI (fun(z:Int)=>(⟨[(4,.l (.z (.int .i64) z))],[]⟩:aa)) (fun z=>z=chk s) ?_ ?_)
 ·refine aC (s_g hG ?_);refine av ?_ ?_;·intro hb0;(try simp only[bt] at hb0);refine az (aW ?_);show ∃ z,_;refine q_l ?_;first|(rw[hb0];exact jM.symm)|exact(iB hb0 ((gp _).1 hb1)).symm|exact(lK hb0 (dB hb1) (by rw[c9] at hb2;omega) (jN hb3)).symm|(rw[c9] at hb2;rw[iC hb0 (dB hb1) (by rw[List.take_of_length_le (by omega)] at g2;exact g2)];first|rw[if_pos (by omega)]|rw[if_neg (by omega)])
  ·intro hb0;(try simp only[bf] at hb0);refine s_q hG ?_ ?_
   ·(try simp only[ba]);exact EK _
   refine av ?_ ?_
   ·(intro hb1;(try simp only[bt] at hb1);refine ak hG ?_ ?_;·exact tt9);refine aW ?_;show ∃ z,_;refine q_l ?_;first|(rw[hb0];exact jM.symm)|exact(iB hb0 ((gp _).1 hb1)).symm|exact(lK hb0 (dB hb1) (by rw[c9] at hb2;omega) (jN hb3)).symm|(rw[c9] at hb2;rw[iC hb0 (dB hb1) (by rw[List.take_of_length_le (by omega)] at g2;exact g2)];first|rw[if_pos (by omega)]|rw[if_neg (by omega)])
   ·intro hb1;(try simp only[bf] at hb1);refine an (s_q hG ?_ ?_)
    ·(try simp only[ba]);have:=lJ s [45];have hC:s.length<70368744177664:=hC;omega
    (refine aC (bM (fun(z:Nat)=>(⟨[(0,.l (.z .str s)),(3,.l (.z .str (aw s [45]))),(4,.l (.z (.int .i64) 0)),(10,.l (.z (.slice (.int .u8)) (bytesOf (aw s [45])))),(11,.l (.z (.int .i64) ((bytesOf (aw s [45])).length:Int))),(12,.l (.z (.int .i64) (z:Int)))],[]⟩:aa)) (fun z=>z<=(aw s [45]).length/\(List.take z (aw s [45])).all fW=true) (fun z=>(aw s [45]).length-z) 0 ?_ ?_ ?_);·refine q_l ?_;rfl);·exact⟨Nat.zero_le _,rfl⟩
    ·rintro k ⟨g1,g2⟩;(try dsimp only at g1 g2);have hS:(aw s [45]).length<70368744177664:=Nat.lt_of_le_of_lt (lJ s _) hC;refine s_g hG ?_;refine an (av ?_ ?_)
     ·intro hb2;(try simp only[bt] at hb2);refine az (al ?_);refine an (aC ?_);refine s_q hG ?_ ?_
      ·(try simp only[ba]);exact⟨by omega,hb2⟩
      refine s_q hG ?_ ?_
      ·(try simp only[ba]);exact⟨fun h=>h,fun h=>by rw[h];rfl⟩
      refine av ?_ ?_;·intro hb3;(try simp only[bt] at hb3);refine s_g hG ?_;refine bx (gU rfl ?_);refine aN (aJ ?_);refine gU rfl ?_;refine aN (aI ?_);show ∃ z,_;refine q_l ?_;first|(rw[hb0];exact jM.symm)|exact(iB hb0 ((gp _).1 hb1)).symm|exact(lK hb0 (dB hb1) (by rw[c9] at hb2;omega) (jN hb3)).symm|(rw[c9] at hb2;rw[iC hb0 (dB hb1) (by rw[List.take_of_length_le (by omega)] at g2;exact g2)];first|rw[if_pos (by omega)]|rw[if_neg (by omega)])
      ·(intro hb3;(try simp only[bf] at hb3);refine az (aW ?_);refine al (ak hG ?_ ?_);·exact tt9);show ∃ z,_;refine q_l ?_;rw[c9] at hb2;exact⟨k+1,by rw[wo];simp,by omega,rQ g2 (Cz hb3),by omega⟩
     ·intro hb2;(try simp only[bf] at hb2);refine bx (aN ?_);refine aJ (aI ?_);refine al (s_g hG ?_);refine av ?_ ?_
      ·(intro hb4;(try simp only[bt] at hb4);refine ak hG ?_ ?_;·exact tt9);refine aW ?_;show ∃ z,_;refine q_l ?_;first|(rw[hb0];exact jM.symm)|exact(iB hb0 ((gp _).1 hb1)).symm|exact(lK hb0 (dB hb1) (by rw[c9] at hb2;omega) (jN hb3)).symm|(rw[c9] at hb2;rw[iC hb0 (dB hb1) (by rw[List.take_of_length_le (by omega)] at g2;exact g2)];first|rw[if_pos (by omega)]|rw[if_neg (by omega)])
      ·intro hb4;(try simp only[bf] at hb4);refine az (aW ?_);show ∃ z,_;refine q_l ?_;first|(rw[hb0];exact jM.symm)|exact(iB hb0 ((gp _).1 hb1)).symm|exact(lK hb0 (dB hb1) (by rw[c9] at hb2;omega) (jN hb3)).symm|(rw[c9] at hb2;rw[iC hb0 (dB hb1) (by rw[List.take_of_length_le (by omega)] at g2;exact g2)];first|rw[if_pos (by omega)]|rw[if_neg (by omega)])
 rintro z hz;try dsimp only at hz
 refine s_g hG ?_;refine au (fJ ?_);refine q_e [] ?_;exact hz
def ou(B:ah):Tab:={types:= [(3,(.int .i64)),(4,.bool),(9,.str),(87,(.slice (.int .u32))),(89,tyW),(161,(.int .u32)),(164,(.int .u64))],elems:= [(87,161)],cons:= [(150,dE),(172,eu),(173,uk)],hint:= [],N:=44,base:=B}
theorem xG{B:ah}(hB:aA B):aM Tryz.prog (ou B):=⟨⟨tc ty3 (tc ty4 (tc ty9 (tc gD (tc fS (tc ff (tc lO (af))))))),aV (by kernel_rfl) (ag),by simp only[ou,ioB];omega⟩,aK (cc Tryz.func150 (jf hB) (cc Tryz.func172 (BA hB) (cc Tryz.func173 (Hl hB) (aq)))),by kernel_rfl⟩
def vv:Con:=fun l os=>match l,os with
 | [.z .str s],[]=>some (RF s/\s.length<CAP,[.z tyW (enc (bu s))],[])
 |_,_=>none
theorem Dt{B:ah}(hB:aA B):Valid B Tryz.prog 132 vv:=by
 refine ab (xG hB).tab Tryz.func132 rfl rfl rfl ?_;intro args os C rs os' hc hC;unfold vv at hc;split at hc;case h_2=>cases hc
 rename_i s;cases hc;refine v_h (xG hB) fun X hP hT hr hG=> ?_;have hU:=ou.eq_1;unfold ou at hT;have hX:=ai @uk.eq_1<|ai @eu.eq_1<| @dE.eq_1;simp only[Tryz.f132,aB,aj,ioB];refine s_g hG ?_;refine s_g hG ?_;refine s_g hG ?_;refine an (s_g hG ?_);refine aC (bM (fun(z:Nat×List Int)=>(⟨[(3,.l (.z .str (aw s [45]))),(5,.l (.z (.int .i64) (((aw s [45]).length:Int)-9*(z.1:Int)))),(4,.l (.ownP 4 0)),(2,.l (.ownP 2 0))],[(4,.box 89 [.z .bool (decide ((aw s [45]).length<s.length)),.ownS 37]),(37,.arr (.int .u32) 161 z.2),(2,.box 89 [.z .bool false,.val (.slice none 0 0)])]⟩:aa)) (fun z=>ReadPhi (aw s [45]) z.1 z.2) (fun z=>(aw s [45]).length+9-9*z.1) (0,[]) ?_ ?_ ?_);·refine q_l ?_;exact⟨by show ((aw s [45]).length:Int)=((aw s [45]).length:Int)-9*((0:Nat):Int);omega,by congr 1;simp,by unfold ioB;omega⟩
 ·exact read_start
 ·rintro⟨r,out⟩ hz;try dsimp only at hz
  obtain⟨d1,d2,d4⟩:=uw hC.1;have d3:(aw s [45]).length<1000000000000:=Nat.lt_of_le_of_lt (lJ s _) hC.2;have hz1:=hz.1;have hz4:=hz.2.2.2;refine an (s_g hG ?_);refine av ?_ ?_
  ·intro hb0;(try simp only[bt] at hb0);refine az (al ?_);refine an (aC ?_);refine s_q hG ?_ ?_
   ·(try simp only[ba]);obtain⟨e1,e2,e3⟩:=sF hb0 d3;obtain⟨q1,q2,q3,q4,q5⟩:=read_next d1 hz hb0 rfl;rw[e1,e2,e3];exact⟨⟨by omega,by omega,by omega⟩,q1,q2,q3⟩
   refine ak hG ?_ ?_
   ·(try simp only[ba]);unfold Cm.Roomy;omega
   (refine aW (al ?_);refine ak hG ?_ ?_;·exact tt9);show ∃ z,_;refine q_l ?_;obtain⟨e1,e2,e3⟩:=sF hb0 d3;obtain⟨q1,q2,q3,q4,q5⟩:=read_next d1 hz hb0 rfl;rw[e1,e2,e3];exact⟨r+1,by show ((aw s [45]).length:Int)-9*(r:Int)-9=((aw s [45]).length:Int)-9*((r+1:Nat):Int);omega,q4,by omega⟩
  ·intro hb0;(try simp only[bf] at hb0);refine bx (aN ?_);refine aJ (aI ?_);refine al (s_q hG ?_ ?_)
   ·(try simp only[ba]);exact⟨hz.2.1,by unfold CAP;omega⟩
   refine au (q_e [37] ?_);rw[read_end hz hb0]
def ov(B:ah):Tab:={types:= [(3,(.int .i64)),(9,.str),(91,tyN)],elems:= [],cons:= [(131,Ds),(132,vv),(133,il)],hint:= [],N:=23,base:=B}
theorem xH{B:ah}(hB:aA B):aM Tryz.prog (ov B):=⟨⟨tc ty3 (tc ty9 (tc ty91 (af))),ag,by simp only[ov,ioB];omega⟩,aK (cc Tryz.func131 (tw hB) (cc Tryz.func132 (Dt hB) (cc Tryz.func133 (nU hB) (aq)))),by kernel_rfl⟩
def nC:Con:=fun l os=>match l,os with
 | [.z .str q],[]=>some (fj q,[.z tyN (fK q)],[])
 |_,_=>none
theorem mM{B:ah}(hB:aA B):Valid B Tryz.prog 90 nC:=by
 refine ab (xH hB).tab Tryz.func90 rfl rfl rfl ?_;intro args os C rs os' hc hC;unfold nC at hc;split at hc;case h_2=>cases hc
 rename_i q;cases hc;refine v_h (xH hB) fun X hP hT hr hG=> ?_;have hU:=ov.eq_1;unfold ov at hT;have hX:=ai @Ds.eq_1<|ai @vv.eq_1<| @il.eq_1;simp only[Tryz.f90,aB,aj,ioB];refine s_g hG ?_;refine s_q hG ?_ ?_
 ·try simp only[ba]
  exact(mr hC).1
 refine an (s_g hG ?_);refine av ?_ ?_
 ·intro hb0;try simp only[bt] at hb0
  refine s_q hG ?_ ?_
  ·(try simp only[ba]);exact⟨(mr hC).2.1,by unfold I64;omega⟩
  refine au (aL ?_);refine q_e [] ?_;exact Fj hb0
 ·intro hb0;try simp only[bf] at hb0
  refine az (al ?_);refine s_q hG ?_ ?_
  ·(try simp only[ba]);rw[jR hb0];exact(mr hC).2
  refine au (q_e [] ?_);rw[jR hb0];rfl
def ow(B:ah):Tab:={types:= [(3,(.int .i64)),(9,.str),(31,(.int .i64)),(46,.str),(89,tyW),(91,tyN),(151,(.st (.pair tyN (.int .i64))))],elems:= [],cons:= [(90,nC),(129,mL),(131,Ds),(133,il),(142,vu),(147,tj),(167,oq),(168,IA)],hint:= [],N:=61,base:=B}
theorem xI{B:ah}(hB:aA B):aM Tryz.prog (ow B):=⟨⟨tc ty3 (tc ty9 (tc jv (tc wL (tc fS (tc ty91 (tc IR (af))))))),ag,by simp only[ow,ioB];omega⟩,aK (cc Tryz.func90 (mM hB) (cc Tryz.func129 (tv hB) (cc Tryz.func131 (tw hB) (cc Tryz.func133 (nU hB) (cc Tryz.func142 (IJ hB) (cc Tryz.func147 (BN hB) (cc Tryz.func167 (Dq hB) (cc Tryz.func168 (IB hB) (aq))))))))),by kernel_rfl⟩
def vw:Con:=fun l os=>match l,os with
 | [.z .str q],[]=>some (q.length<=QL,[.z (.st (.pair tyN (.int .i64))) (jQ q)],[])
 |_,_=>none
theorem Du{B:ah}(hB:aA B):Valid B Tryz.prog 128 vw:=by
 refine ab (xI hB).tab Tryz.func128 rfl rfl rfl ?_;intro args os C rs os' hc hC;unfold vw at hc;split at hc;case h_2=>cases hc
 rename_i q;cases hc;refine v_h (xI hB) fun X hP hT hr hG=> ?_;have hU:=ow.eq_1;unfold ow at hT;have hX:=ai @vu.eq_1<|ai @IA.eq_1<|ai @Ds.eq_1<|ai @nC.eq_1<|ai @tj.eq_1<|ai @mL.eq_1<|ai @oq.eq_1<| @il.eq_1;simp only[Tryz.f128,aB,aj,ioB];refine s_g hG ?_;refine s_q hG ?_ ?_
 ·try simp only[ba]
  have h9:q.length<=1000000000:=hC;omega
 refine cI (fun(z:Unit)=>(⟨[(0,.l (.z .str q)),(2,.l (.ownP 2 0)),(3,.l (.z .str (tN q))),(4,.l (.z .str (tD q))),(5,.l (.z .bool (cb q)))],[(2,.box 151 [.z .bool false,.val (.slice none 0 0),.z .bool false,.val (.slice none 0 0),.z (.int .i64) 0])]⟩:aa)) (fun z=>True) ?_ ?_
 ·refine s_g hG ?_;refine av ?_ ?_
  ·(intro hb0;(try simp only[bt] at hb0);refine ak hG ?_ ?_;·exact tt9);show ∃ z,_;refine q_l ?_;first|exact uD hb0|exact jR hb0
  ·intro hb0;(try simp only[bf] at hb0);refine az ?_;show ∃ z,_;refine q_l ?_;first|exact uD hb0|exact jR hb0
 rintro⟨⟩-;have hS:=Fk hC;refine an (s_q hG ?_ ?_)
 ·try simp only[ba]
  exact⟨hS.1,fun h=>⟨h,hS.2⟩,fun h=>h,fun h=>by rw[h];rfl⟩
 refine av ?_ ?_
 ·intro hb1;try simp only[bt] at hb1
  refine s_g hG ?_;refine au (aL ?_);refine q_e [] ?_;exact HD hb1
 ·intro hb1;try simp only[bf] at hb1
  have hF:=HC hC hb1;refine az (al ?_);refine s_q hG ?_ ?_
  ·(try simp only[ba]);exact hF
  refine s_g hG ?_;refine s_q hG ?_ ?_
  ·(try simp only[ba]);unfold I64;omega
  refine an (aC ?_);refine s_d hG ?_ ?_
  ·(try simp only[ba]);simp only[pe,fK,bG];exact⟨fun h=>⟨h,enc_ok _,enc_ok _,JL hF⟩,fun h=>h,fun h=>h,fun h=>⟨h,Jh hF⟩,fun h=>⟨h,enc_ok _,enc_ok _,JM hF⟩,fun h=>h,fun h=>⟨h,fun h2=>by rw[h,h2];rfl⟩,fun h=>h⟩
  refine av ?_ ?_;·intro hb2;(try simp only[bt] at hb2);simp only[pe,fK,bG] at hb2;refine s_g hG ?_;refine au (bR ?_);refine aL (q_e [] ?_);exact HE hF hb2
  ·intro hb2;(try simp only[bf] at hb2);simp only[pe,fK,bG] at hb2;have hR:=JN hF hb2;refine s_q hG ?_ ?_
   ·(try simp only[ba]);exact HF hR
   (refine av ?_ ?_;·intro hb3;(try simp only[bt] at hb3);refine s_g hG ?_;refine au (bR ?_);refine aL (q_e [] ?_);exact Jj hR hb3);·intro hb3;(try simp only[bf] at hb3);refine az (aW ?_);refine al (s_g hG ?_);refine au (q_e [] ?_);exact JO hR hb3
def ox(B:ah):Tab:={types:= [(46,.str),(151,(.st (.pair tyN (.int .i64))))],elems:= [],cons:= [(128,vw)],hint:= [],N:=6,base:=B}
theorem xJ{B:ah}(hB:aA B):aM Tryz.prog (ox B):=⟨⟨tc wL (tc IR (af)),ag,by simp only[ox,ioB];omega⟩,aK (cc Tryz.func128 (Du hB) (aq)),by kernel_rfl⟩
def ku:Con:=fun l os=>match l,os with
 | [.z .str q],[]=>some (q.length<=QL,[.z (.int .i64) (cS q)],[])
 |_,_=>none
theorem tz{B:ah}(hB:aA B):Valid B Tryz.prog 87 ku:=by
 refine ab (xJ hB).tab Tryz.func87 rfl rfl rfl ?_;intro args os C rs os' hc hC;unfold ku at hc;split at hc;case h_2=>cases hc
 rename_i q;cases hc;refine v_h (xJ hB) fun X hP hT hr hG=> ?_;have hU:=ox.eq_1;unfold ox at hT;have hX:= @vw.eq_1;simp only[Tryz.f87,aB,aj,ioB];refine s_g hG ?_;refine s_q hG ?_ ?_
 ·try simp only[ba]
  exact hC
 refine au (q_e [] ?_);exact CS q
def oy(B:ah):Tab:={types:= [(3,(.int .i64)),(22,(.slice .str)),(46,.str),(78,tyP)],elems:= [(78,91)],cons:= [(90,nC)],hint:= [18],N:=22,base:=B}
theorem xK{B:ah}(hB:aA B):aM Tryz.prog (oy B):=⟨⟨tc ty3 (tc iD (tc wL (tc Hx (af)))),aV (by kernel_rfl) (ag),by simp only[oy,ioB];omega⟩,aK (cc Tryz.func90 (mM hB) (aq)),by kernel_rfl⟩
def BQ:Con:=fun l os=>match l,os with
 | [.z (.slice .str) l],[]=>some (l.length<QL/\∀ q∈l,fj q,[.own tyN 91 (l.map fK)],[])
 |_,_=>none
theorem Dv{B:ah}(hB:aA B):Valid B Tryz.prog 106 BQ:=by
 refine ab (xK hB).tab Tryz.func106 rfl rfl rfl ?_;intro args os C rs os' hc hC;unfold BQ at hc;split at hc;case h_2=>cases hc
 rename_i l;cases hc;refine v_h (xK hB) fun X hP hT hr hG=> ?_;have hU:=oy.eq_1;unfold oy at hT;have hX:= @nC.eq_1;simp only[Tryz.f106,aB,aj,ioB];have hl:l.length<1000000000:=hC.1;refine s_g hG ?_;refine s_q hG ?_ ?_
 ·try simp only[ba]
  exact⟨by omega,by omega,qM (by omega)⟩
 refine an (s_g hG ?_);refine aC (bM (fun(z:Nat)=>(⟨[(3,.l (.ownS 8)),(9,.l (.z (.slice .str) l)),(10,.l (.z (.int .i64) (l.length:Int))),(11,.l (.z (.int .i64) (z:Int)))],[(8,.arr tyN 91 ((l.take z).map fK))]⟩:aa)) (fun z=>z<=l.length) (fun z=>l.length-z) 0 ?_ ?_ ?_);·refine q_l ?_;exact⟨rfl,rfl⟩
 ·omega
 ·rintro k g1;try dsimp only at g1
  refine s_g hG ?_;refine an (av ?_ ?_)
  ·intro hb0;(try simp only[bt] at hb0);refine az (al ?_);refine an (aC ?_);refine s_q hG ?_ ?_
   ·(try simp only[ba]);exact⟨by omega,hb0⟩
   refine ak hG ?_ ?_
   ·(try simp only[ba]);exact⟨hC.2 _ (gE (t:= .str) (by omega)),qM (by simp;omega)⟩
   (refine aW (al ?_);refine ak hG ?_ ?_;·exact tt9);show ∃ z,_;refine q_l ?_;exact list_round (by omega) hC.1
  ·intro hb0;(try simp only[bf] at hb0);refine bx (aN ?_);refine aJ (aI ?_);refine al (s_g hG ?_);refine au (q_e [] ?_);exact⟨trivial,by rw[List.take_of_length_le (by omega)]⟩
def oz(B:ah):Tab:={types:= [(3,(.int .i64)),(22,(.slice .str)),(78,tyP),(91,tyN)],elems:= [(22,46)],cons:= [(129,mL),(130,vr)],hint:= [],N:=26,base:=B}
theorem xL{B:ah}(hB:aA B):aM Tryz.prog (oz B):=⟨⟨tc ty3 (tc iD (tc Hx (tc ty91 (af)))),aV (by kernel_rfl) (ag),by simp only[oz,ioB];omega⟩,aK (cc Tryz.func129 (tv hB) (cc Tryz.func130 (Dr hB) (aq))),by kernel_rfl⟩
def mN:Con:=fun l os=>match l,os with
 | [.z (.slice (.st (.pair (.st (.pair .bool (.slice (.int .u32)))) (.st (.pair .bool (.slice (.int .u32))))))) l],[]=>some (l.length<QL/\∀ x∈l,NOK x/\lq (bj x)<=QC,[.z (.slice .str) (if dc l=true then l.map fun x=>bS (bj x) else []),.z .bool (dc l)],[])
 |_,_=>none
theorem tA{B:ah}(hB:aA B):Valid B Tryz.prog 88 mN:=by
 refine ab (xL hB).tab Tryz.func88 rfl rfl rfl ?_;intro args os C rs os' hc hC;unfold mN at hc;split at hc;case h_2=>cases hc
 rename_i l;cases hc;refine v_h (xL hB) fun X hP hT hr hG=> ?_;have hU:=oz.eq_1;unfold oz at hT;have hX:=ai @mL.eq_1<| @vr.eq_1;simp only[Tryz.f88,aB,aj,ioB];have hl:l.length<1000000000:=hC.1;refine s_g hG ?_;refine s_q hG ?_ ?_
 ·try simp only[ba]
  exact⟨by omega,by omega,uE (by omega)⟩
 refine an (s_g hG ?_);refine aC (bM (fun(z:Nat)=>(⟨[(2,.l (.val (.slice none 0 0))),(3,.l (.z .bool false)),(4,.l (.ownS 9)),(10,.l (.z tyP l)),(11,.l (.z (.int .i64) (l.length:Int))),(12,.l (.z (.int .i64) (z:Int)))],[(9,.arr .str 46 ((l.take z).map fun x=>bS (bj x)))]⟩:aa)) (fun z=>z<=l.length/\dc (l.take z)=true) (fun z=>l.length-z) 0 ?_ ?_ ?_);·refine q_l ?_;exact⟨rfl,rfl⟩
 ·exact⟨by omega,by simp[dc]⟩
 ·rintro k ⟨g1,g2⟩;try dsimp only at g1 g2
  refine s_g hG ?_;refine an (av ?_ ?_)
  ·intro hb0;(try simp only[bt] at hb0);refine az (al ?_);refine an (aC ?_);refine s_q hG ?_ ?_
   ·(try simp only[ba]);exact⟨by omega,hb0⟩
   refine an (s_q hG ?_ ?_)
   ·(try simp only[ba]);exact hC.2 _ (gE (t:=NT) (by omega))
   refine av ?_ ?_;·intro hb1;(try simp only[bt] at hb1);refine s_g hG ?_;refine au (aL ?_);refine bR (aL ?_);refine gV (bR ?_);refine aL (q_e [9] ?_);exact CU (by omega) hb1
   ·intro hb1;(try simp only[bf] at hb1);refine az (al ?_);refine ak hG ?_ ?_
    ·(try simp only[ba]);exact⟨⟨(hC.2 _ (gE (t:=NT) (by omega))).1,(hC.2 _ (gE (t:=NT) (by omega))).2⟩,uE (by simp;omega)⟩
    (refine aW (al ?_);refine ak hG ?_ ?_;·exact tt9);show ∃ z,_;refine q_l ?_;exact wS (by omega) hC.1 g2 hb1
  ·intro hb0;(try simp only[bf] at hb0);refine bx (aN ?_);refine aJ (aI ?_);refine al (s_g hG ?_);refine au (q_e [9] ?_);exact CW (by omega) g2
def oA(B:ah):Tab:={types:= [(3,(.int .i64)),(79,tyP),(91,tyN)],elems:= [],cons:= [(114,jX)],hint:= [],N:=25,base:=B}
theorem xM{B:ah}(hB:aA B):aM Tryz.prog (oA B):=⟨⟨tc ty3 (tc fe (tc ty91 (af))),ag,by simp only[oA,ioB];omega⟩,aK (cc Tryz.func114 (mK hB) (aq)),by kernel_rfl⟩
def im:Con:=fun l os=>match l,os with
 | [.z (.slice (.st (.pair (.st (.pair .bool (.slice (.int .u32)))) (.st (.pair .bool (.slice (.int .u32))))))) p],[]=>some (Sz QC p/\p.length<=QL,[.z tyP (ar (aS (ae p)))],[])
 |_,_=>none
theorem gJ{B:ah}(hB:aA B):Valid B Tryz.prog 82 im:=by
 refine ab (xM hB).tab Tryz.func82 rfl rfl rfl ?_;intro args os C rs os' hc hC;unfold im at hc;split at hc;case h_2=>cases hc
 rename_i p;cases hc;refine v_h (xM hB) fun X hP hT hr hG=> ?_;have hU:=oA.eq_1;unfold oA at hT;have hX:= @jX.eq_1;simp only[Tryz.f82,aB,aj,ioB];obtain⟨l0,rfl,hl0⟩:=hC.1.ex;have hn:=hC.2;rw[ao] at hn;have hn:l0.length<=1000000000:=hn;refine s_g hG ?_;refine an (aC ?_);refine bM (fun(z:List Rat)=>(⟨[(0,.l (.z tyP (ar z))),(2,.l (.val (.slice none 0 0)))],[]⟩:aa)) (fun z=>z.length<=l0.length/\(∀ x∈z,lq x<=QC)/\aS z=aS l0) (fun z=>z.length) l0 ?_ ?_ ?_;·simp only[ml0,ml1,Nat.reduceLT,Nat.reduceEqDiff,Nat.reduceAdd,Nat.reduceMul,Nat.reduceSub,Nat.reduceLeDiff,Nat.reduceBEq,Nat.reduceBNe,reduceIte,reduceDIte,reduceCtorEq]
 ·exact⟨Nat.le_refl _,hl0,rfl⟩
 ·rintro l ⟨g1,g2,g3⟩;try dsimp only at g1 g2 g3
  refine an (s_q hG ?_ ?_)
  ·(try simp only[ba]);have hs:=sG (l:=l) (by omega);exact⟨id,id,hs.2,id,hs.1,id⟩
  refine av ?_ ?_
  ·intro hb0;(try simp only[bt] at hb0);have ht:=Fl (by omega) hb0.1 hb0.2;obtain⟨n1,n2,n3,n4,n5⟩:=sH (by omega) g1 g2 g3 ht;refine az (al ?_);refine aC (ak hG ?_ ?_)
   ·(try simp only[ba]);rw[ao,cC (by omega)];exact⟨by omega,by omega,by omega,by omega⟩
   refine aW ?_;show ∃ z,_;refine q_l ?_;exact⟨l.dropLast,n1,n2,n3,n4,n5⟩
  ·intro hb0;(try simp only[bf] at hb0);have ht:=Fm (l:=l) (by omega) hb0;refine bx (aN ?_);refine aJ (aI ?_);refine al (s_g hG ?_);refine au (q_e [] ?_);rw[ax,<- g3,ht]
def jg(B:ah):Tab:={types:= [(3,(.int .i64)),(79,tyP),(91,tyN)],elems:= [],cons:= [(114,jX)],hint:= [23],N:=25,free:= [10000000],base:=B}
theorem xN{B:ah}(hB:aA B):aM Tryz.prog (jg B):=⟨⟨tc ty3 (tc fe (tc ty91 (af))),ag,by simp only[jg,ioB];omega⟩,aK (cc Tryz.func114 (mK hB) (aq)),by kernel_rfl⟩
def GU:Con:=fun l os=>match l,os with
 | [.ownS 10000000],[.arr (.st (.pair (.st (.pair .bool (.slice (.int .u32)))) (.st (.pair .bool (.slice (.int .u32)))))) 91 p]=>some (Sz QC p/\p.length<=QL,[.own tyN 91 (ar (aS (ae p)))],[.arr tyN 91 []])
 |_,_=>none
theorem z7{B:ah}(hB:aA B):Valid B Tryz.prog 82 GU [0]:=by
 refine nf (T:=jg B) (xN hB).tab Tryz.func82 rfl rfl rfl (HG (by simp only[jg];decide)) ?_;intro args os C rs os' hc hC;unfold GU at hc;split at hc;case h_2=>cases hc
 rename_i p;cases hc;refine v_h (xN hB) fun X hP hT hr hG=> ?_;have hU:=jg.eq_1;unfold jg at hT;have hX:=ai @jX.eq_1<| @bU.eq_def;simp only[Tryz.f82,aB,aj,ioB];obtain⟨l0,rfl,hl0⟩:=hC.1.ex;have hn:=hC.2;rw[ao] at hn;have hn:l0.length<=1000000000:=hn;refine Ey 10000000 1 (by simp only[hT,jg,mx0,mx1,mx2,mx3,mx4,mx5,mx6,Nat.reduceLT,Nat.reduceEqDiff,Nat.reduceAdd,Nat.reduceMul,Nat.reduceSub,Nat.reduceLeDiff,Nat.reduceBEq,Nat.reduceBNe,reduceIte,reduceDIte,reduceCtorEq];rfl) ?_;refine s_g hG ?_;refine an (aC ?_);refine bM (fun(z:List Rat)=>(⟨[(0,.l (.ownS 1)),(2,.l (.val (.slice none 0 0)))],[(1,.arr tyN 91 (ar z)),(10000000,.arr tyN 91 [])]⟩:aa)) (fun z=>z.length<=l0.length/\(∀ x∈z,lq x<=QC)/\aS z=aS l0) (fun z=>z.length) l0 ?_ ?_ ?_;·simp only[ml0,ml1,Nat.reduceLT,Nat.reduceEqDiff,Nat.reduceAdd,Nat.reduceMul,Nat.reduceSub,Nat.reduceLeDiff,Nat.reduceBEq,Nat.reduceBNe,reduceIte,reduceDIte,reduceCtorEq]
 ·exact⟨Nat.le_refl _,hl0,rfl⟩
 ·rintro l ⟨g1,g2,g3⟩;try dsimp only at g1 g2 g3
  refine an (s_q hG ?_ ?_)
  ·(try simp only[ba]);have hs:=sG (l:=l) (by omega);exact⟨id,id,hs.2,fun h=>⟨h,by have:=(hs.2 h).2;omega⟩,hs.1,id⟩
  refine av ?_ ?_
  ·intro hb0;(try simp only[bt] at hb0);have ht:=Fl (by omega) hb0.1 hb0.2;obtain⟨n1,n2,n3,n4,n5⟩:=sH (by omega) g1 g2 g3 ht;refine az (al ?_);refine aC (ak hG ?_ ?_)
   ·(try simp only[ba]);rw[ao,cC (by omega)];exact⟨by omega,by omega,by omega,by omega⟩
   refine aW ?_;show ∃ z,_;refine q_l ?_;exact⟨l.dropLast,n1,n2,n3,n4,n5⟩
  ·intro hb0;(try simp only[bf] at hb0);have ht:=Fm (l:=l) (by omega) hb0;refine bx (aN ?_);refine aJ (aI ?_);refine al (s_g hG ?_);refine au (q_e [] ?_);exact⟨⟨trivial,by rw[ax,<- g3,ht]⟩,trivial,trivial⟩
def fk:Con:=fun l os=>match l,os with
 | [.z (.slice (.st (.pair (.st (.pair .bool (.slice (.int .u32)))) (.st (.pair .bool (.slice (.int .u32))))))) p],[]=>some (Sz QC p/\p.length<=QL,[.z tyP (ar (aS (ae p)))],[])
 | [.ownS 10000000],[.arr (.st (.pair (.st (.pair .bool (.slice (.int .u32)))) (.st (.pair .bool (.slice (.int .u32)))))) 91 p]=>some (Sz QC p/\p.length<=QL,[.own tyN 91 (ar (aS (ae p)))],[.arr tyN 91 []])
 |_,_=>none
theorem Dw{B:ah}(hB:aA B):Valid B Tryz.prog 82 fk [0]:=by
 intro args os C rs os' hc hC;unfold fk at hc;split at hc;·cases hc;exact Fo (gJ hB) _ _ _ _ _ rfl hC
 ·cases hc;exact z7 hB _ _ _ _ _ rfl hC
 ·cases hc
def oC(B:ah):Tab:={types:= [(3,(.int .i64)),(79,tyP),(91,tyN)],elems:= [],cons:= [(113,dK)],hint:= [],N:=14,base:=B}
theorem xO{B:ah}(hB:aA B):aM Tryz.prog (oC B):=⟨⟨tc ty3 (tc fe (tc ty91 (af))),ag,by simp only[oC,ioB];omega⟩,aK (cc Tryz.func113 (kt hB) (aq)),by kernel_rfl⟩
def tB:Con:=fun l os=>match l,os with
 | [.z (.slice (.st (.pair (.st (.pair .bool (.slice (.int .u32)))) (.st (.pair .bool (.slice (.int .u32))))))) p,.z (.int .i64) i],[]=>some (Sz QC p/\0<=i,[.z tyN (a8 (cf (ae p) i.toNat))],[])
 |_,_=>none
theorem tC{B:ah}(hB:aA B):Valid B Tryz.prog 107 tB:=by
 refine ab (xO hB).tab Tryz.func107 rfl rfl rfl ?_;intro args os C rs os' hc hC;unfold tB at hc;split at hc;case h_2=>cases hc
 rename_i p i;cases hc;refine v_h (xO hB) fun X hP hT hr hG=> ?_;have hU:=oC.eq_1;unfold oC at hT;have hX:= @dK.eq_1;simp only[Tryz.f107,aB,aj,ioB];obtain⟨n,rfl⟩:=Int.eq_ofNat_of_zero_le hC.2;rw[Int.toNat_natCast];refine s_g hG ?_;refine an (s_g hG ?_);refine av ?_ ?_
 ·intro hb0;try simp only[bt] at hb0
  refine s_q hG ?_ ?_
  ·(try simp only[ba]);exact⟨by omega,hb0⟩
  refine au (aL ?_);refine q_e [] ?_;rw[fg hC.1 (by omega)]
 ·intro hb0;try simp only[bf] at hb0
  refine az (al ?_);refine s_g hG ?_;refine au (q_e [] ?_);rw[Fp (by omega)]
def oD(B:ah):Tab:={types:= [(3,(.int .i64)),(79,tyP),(91,tyN)],elems:= [(79,91)],cons:= [(58,kL),(105,dJ),(112,eL),(113,dK),(114,jX)],hint:= [19],N:=67,base:=B}
theorem xP{B:ah}(hB:aA B):aM Tryz.prog (oD B):=⟨⟨tc ty3 (tc fe (tc ty91 (af))),aV (by kernel_rfl) (ag),by simp only[oD,ioB];omega⟩,aK (cc Tryz.func58 (kq hB) (cc Tryz.func105 (kr hB) (cc Tryz.func112 (sM hB) (cc Tryz.func113 (kt hB) (cc Tryz.func114 (mK hB) (aq)))))),by kernel_rfl⟩
def mO:Con:=fun l os=>match l,os with
 | [.z (.slice (.st (.pair (.st (.pair .bool (.slice (.int .u32)))) (.st (.pair .bool (.slice (.int .u32))))))) p,.z (.slice (.st (.pair (.st (.pair .bool (.slice (.int .u32)))) (.st (.pair .bool (.slice (.int .u32))))))) q],[]=>some (Sz QM p/\Sz QM q/\p.length<=100/\q.length<=100,[.z tyP (ar (b9 (ae p) (ae q)))],[])
 |_,_=>none
theorem tE{B:ah}(hB:aA B):Valid B Tryz.prog 61 mO:=by
 refine ab (xP hB).tab Tryz.func61 rfl rfl rfl ?_;intro args os C rs os' hc hC;unfold mO at hc;split at hc;case h_2=>cases hc
 rename_i p q;cases hc;refine v_h (xP hB) fun X hP hT hr hG=> ?_;have hU:=oD.eq_1;unfold oD at hT;have hX:=ai @kL.eq_1<|ai @dJ.eq_1<|ai @jX.eq_1<|ai @eL.eq_1<| @dK.eq_1;simp only[Tryz.f61,aB,aj,ioB];obtain⟨hp,hq,hl1,hl2⟩:=hC;refine s_g hG ?_;refine an (s_q hG ?_ ?_)
 ·try simp only[ba]
  exact⟨id,id,fun h=>by rw[h];rfl⟩
 refine av ?_ ?_
 ·intro hb0;try simp only[bt] at hb0
  refine s_g hG ?_;refine au (aL ?_);refine q_e [] ?_;exact CX hb0
 ·intro hb0;try simp only[bf] at hb0
  have h0:=Fu hb0;refine az (al ?_);refine s_q hG ?_ ?_
  ·(try simp only[ba]);rw[sJ hl1 hl2 h0];exact HI hl1 hl2
  refine an (s_g hG ?_);refine aC (bM (fun(z:Nat)=>(⟨[(0,.l (.z tyP p)),(1,.l (.z tyP q)),(5,.l (.ownS 1208)),(27,.l (.z tyP p)),(28,.l (.z (.int .i64) (p.length:Int))),(29,.l (.z (.int .i64) (z:Int)))],[(1208,.arr tyN 91 (ar (mulN (ae p) (ae q) z)))]⟩:aa)) (fun z=>z<=p.length) (fun z=>p.length-z) 0 ?_ ?_ ?_);·refine q_l ?_;rw[sJ hl1 hl2 h0,Int.toNat_natCast];exact⟨rfl,times_start p q⟩
  ·omega
  ·rintro i g1;(try dsimp only at g1);refine s_g hG ?_;refine an (av ?_ ?_)
   ·intro hb1;(try simp only[bt] at hb1);refine az (al ?_);refine an (aC ?_);refine s_q hG ?_ ?_
    ·(try simp only[ba]);exact⟨by omega,hb1⟩
    (refine s_g hG ?_;refine aC (bM (fun(z:Nat)=>(⟨[(0,.l (.z tyP p)),(1,.l (.z tyP q)),(5,.l (.ownS 1208)),(27,.l (.z tyP p)),(28,.l (.z (.int .i64) (p.length:Int))),(29,.l (.z (.int .i64) (i:Int))),(6,.l (.z (.int .i64) (i:Int))),(7,.l (.ownP 7 0)),(34,.l (.z tyP q)),(35,.l (.z (.int .i64) (q.length:Int))),(36,.l (.z (.int .i64) (z:Int)))],[(1208,.arr tyN 91 (ar (ck (mulN (ae p) (ae q) i) i (cf (ae p) i) (ae q) z))),(7,.box 91 [.z .bool (a8 (cf (ae p) i)).1.1,.z (.slice (.int .u32)) (a8 (cf (ae p) i)).1.2,.z .bool (a8 (cf (ae p) i)).2.1,.z (.slice (.int .u32)) (a8 (cf (ae p) i)).2.2])]⟩:aa)) (fun z=>z<=q.length) (fun z=>q.length-z) 0 ?_ ?_ ?_);·refine q_l ?_;rw[fg hp (by omega)];exact⟨rfl,rfl,rfl,rfl,rfl,rfl⟩);·omega
    ·rintro k g2;(try dsimp only at g2);refine s_g hG ?_;refine an (av ?_ ?_)
     ·intro hb2;(try simp only[bt] at hb2);refine az (al ?_);refine an (aC ?_);refine s_q hG ?_ ?_
      ·(try simp only[ba]);exact⟨by omega,hb2⟩
      refine s_q hG ?_ ?_
      ·(try simp only[ba]);have ek:=fg hq (i:=k) (by omega);simp only[pe2];rw[ek];exact⟨bH _,fun h=>⟨h,bH _⟩,id⟩
      refine av ?_ ?_
      ·intro hb3;(try simp only[bt] at hb3);have ek:=fg hq (i:=k) (by omega);obtain⟨w1,w2,w3,w4⟩:=zB hp hq hl1 hl2 h0 (i:=i) (k:=k) (by omega) (by omega);refine iV hG ?_ ?_
       ·(try simp only[ba]);simp only[pe2];rw[ek,w1,Int.toNat_natCast,aF,aF];exact⟨⟨by omega,by omega⟩,w2,w3,w4,⟨by omega,by omega⟩,w2⟩
       (refine aW (al ?_);refine ak hG ?_ ?_;·exact tt9);show ∃ z,_;refine q_l ?_;first|exact qU hl2 (by omega) (qV hb3)|(simp only[pe2];rw[ek,w1,Int.toNat_natCast];simp only[aF];exact qT hp hq hl1 hl2 h0 (i:=i) (k:=k) (by omega) (by omega))
      ·(intro hb3;(try simp only[bf] at hb3);have ek:=fg hq (i:=k) (by omega);simp only[pe2,ek,aF] at hb3;refine az (aW ?_);refine al (ak hG ?_ ?_);·exact tt9);show ∃ z,_;refine q_l ?_;first|exact qU hl2 (by omega) (qV hb3)|(simp only[pe2];rw[ek,w1,Int.toNat_natCast];simp only[aF];exact qT hp hq hl1 hl2 h0 (i:=i) (k:=k) (by omega) (by omega))
     ·(intro hb2;(try simp only[bf] at hb2);refine bx (aN ?_);refine aJ (aI ?_);refine aW (al ?_);refine ak hG ?_ ?_;·exact tt9);show ∃ z,_;refine q_l ?_;exact CY hl1 (by omega) (by omega)
   ·intro hb1;(try simp only[bf] at hb1);refine bx (aN ?_);refine aJ (aI ?_);refine al (s_g hG ?_);refine au (q_e [] ?_);exact times_fin h0 (by omega)
end Go.Proofs.YtdojbabpnaifoaaGreatDoor
end
section
namespace Go.Cm
def LV.toRow(id:Nat):LV->LV
 | .ownS i=>if i=id then .ownR id 0 else .ownS i
 |x=>x.kill id
def LV.ofRow(id j:Nat):LV->LV
 | .ownR i k=>if i=id then (if k=j then .ownS id else .junk) else .ownR i k
 |x=>x.kill id
def aa.toRow(s:aa)(id:Nat)(T':TypeId):Option aa:=
 match get? s.own id with
 |some (.arr t E xs)=>if id<ioB then some {env:=bz (LV.toRow id) s.env,own:=upd (bb (LV.toRow id) s.own) id (.mat t T' E [some xs] [])} else none
 |_=>none
def aa.ofRow(s:aa)(id j:Nat):Option aa:=
 match get? s.own id with
 |some (.mat t _ E rows _)=>match (rows[j]?).getD none with
  |some xs=>if id<ioB then some {env:=bz (LV.ofRow id j) s.env,own:=upd (bb (LV.ofRow id j) s.own) id (.arr t E xs)} else none
  |none=>none
 |_=>none
theorem St.toRow{X:Cx}{s s':aa}{id:Nat}{T':TypeId}(he:s.toRow id T'=some s'){ac:Act}{w:World}(h:St X s ac w):St X s' ac w:=by
 unfold aa.toRow at he;split at he;case h_2=>cases he
 rename_i t E xs hg;split at he;case isFalse=>cases he
 rename_i hid;cases he;obtain⟨ρ,hf⟩:=h.fits;obtain⟨cells,hr,hrow⟩:=hf.own _ (get?_mem hg);have hsl:∃ a n c,ρ id= .slice a n c:=by
  obtain⟨_,⟨h1,_⟩|⟨g,cap,cur,h1,_⟩⟩:=hrow<;>exact⟨_,_,_,h1⟩
 obtain⟨a,n,c,hsl⟩:=hsl;have hblk:∀ b,blk (ρ id)=some b↔Blk (ρ id) b:=by
  intro b;rw[hsl];cases a with
  |none=>simp[blk,Blk]
  |some a=>simp[blk,Blk]
 obtain⟨ρ',q1,q2⟩:=hf.renew (w':=w) hg (f:=LV.toRow id) (val:= .tuple #[.slice none 0 0,ρ id]) (obj':= .mat t T' E [some xs] [])
  (fun H' ρ' hh hs hρ hρd x v hx=>by
   cases x with
   |ownS i=>
    (simp only[LV.toRow];split;·rename_i e;subst e;have hx:v=ρ i/\_:=hx;exact⟨.slice none 0 0,[ρ i],a,n,c,hρd,by simp[hx.1],by rw[hx.1,hsl]⟩);·rename_i e;simp only[aP,hρ i e];exact hx
   |z t x=>exact aY hh hs hρ hx
   |ownP i o=>exact aY hh hs hρ hx
   |ownE i w o=>exact aY hh hs hρ hx
   |ownW i w o=>exact aY hh hs hρ hx
   |ownM i=>exact aY hh hs hρ hx
   |ownA i o=>exact aY hh hs hρ hx
   |ownR i o=>exact aY hh hs hρ hx
   |ownB i o p q=>exact aY hh hs hρ hx
   |fn f c=>exact aY hh hs hρ hx
   |val u=>exact aY hh hs hρ hx
   |junk=>exact aY hh hs hρ hx)
  (fun _ _ _=>rfl)
  (fun b hb=>by
   (obtain⟨u,hu,hb⟩:=hb;simp only[List.mem_cons,List.not_mem_nil,or_false] at hu;rcases hu with rfl|rfl;·simp[blk] at hb);·exact .inl ((hblk b).1 hb))
  (fun H' ρ' hh hs hρ hρd=>by
   refine⟨.slice none 0 0,[ρ id],[],hρd,⟨rfl,⟨rfl,.inl ⟨rfl,rfl⟩⟩,fun c hc=>by simp at hc,fun i j hi=>by simp at hi,?_,?_,?_⟩⟩
   ·(intro v hv;simp only[List.mem_singleton] at hv;subst hv;refine⟨⟨a,n,c,hsl⟩,fun b hb=>⟨by simp[blk],?_,?_⟩⟩;·exact((hf.own _ (get?_mem hg)).lt ((hblk b).1 hb)).1);·exact(hf.own _ (get?_mem hg)).cells ((hblk b).1 hb)
   ·intro j ys v hj hv;cases j with
    |zero=>
     simp at hj hv;subst hj;subst hv;exact⟨cells,aQ hh hs hr,hrow⟩
    |succ j=>simp at hj
   ·intro i j xs' ys u v hne hi hj;cases i with
    |zero=>cases j with
     |zero=>exact absurd rfl hne
     |succ j=>simp at hj
    |succ i=>simp at hi)
  (fun hB _=>absurd hid (by omega))
 exact⟨h.marks,h.kept,h.size,h.below,h.others,h.small,ρ',q2⟩
theorem St.ofRow{X:Cx}{s s':aa}{id j:Nat}(he:s.ofRow id j=some s'){ac:Act}{w:World}(h:St X s ac w):St X s' ac w:=by
 unfold aa.ofRow at he;split at he;case h_2=>cases he
 rename_i t T' E rows idx hg;split at he;case h_2=>cases he
 rename_i xs hj;split at he;case isFalse=>cases he
 rename_i hid;cases he;obtain⟨ρ,hf⟩:=h.fits;obtain⟨h0,vs,cells,hρ0,hm⟩:=hf.own _ (get?_mem hg);have hjr:rows[j]? =some (some xs):=by
  cases hq:rows[j]? with
  |none=>rw[hq] at hj;cases hj
  |some o=>rw[hq] at hj;simp at hj;rw[hj]
 have hjl:j<vs.length:=by rw[hm.len];exact(List.getElem?_eq_some_iff.1 hjr).1
 have hvj:vs[j]? =some vs[j]:=List.getElem?_eq_getElem hjl;obtain⟨cs,hr,hrow⟩:=hm.row j xs _ hjr hvj;obtain⟨⟨a,n,c,hsl⟩,_⟩:=hm.shape vs[j] (List.getElem_mem hjl);obtain⟨ρ',q1,q2⟩:=hf.renew (w':=w) hg (f:=LV.ofRow id j) (val:=vs[j]) (obj':= .arr t E xs)
  (fun H' ρ' hh hs hρ hρd x v hx=>by
   cases x with
   |ownR i k=>
    simp only[LV.ofRow];split
    ·(rename_i e;subst e;split;·rename_i e;subst e;obtain⟨h1,vs1,a1,n1,c1,e1,e2,e3⟩:=hx;rw[hρ0] at e1;simp only[Value.tuple.injEq,Array.mk.injEq,List.cons.injEq] at e1;obtain⟨_,rfl⟩:=e1;rw[hvj] at e2;cases e2;exact⟨hρd.symm,_,_,_,e3⟩);·trivial
    ·rename_i e;have:=aY (x:= .ownR i k) hh hs hρ hx;unfold LV.kill at this;rw[if_neg (by simp[LV.isOf];exact e)] at this;exact this
   |z t x=>exact aY hh hs hρ hx
   |ownS i=>exact aY hh hs hρ hx
   |ownP i o=>exact aY hh hs hρ hx
   |ownE i w o=>exact aY hh hs hρ hx
   |ownW i w o=>exact aY hh hs hρ hx
   |ownM i=>exact aY hh hs hρ hx
   |ownA i o=>exact aY hh hs hρ hx
   |ownB i o p q=>exact aY hh hs hρ hx
   |fn f c=>exact aY hh hs hρ hx
   |val u=>exact aY hh hs hρ hx
   |junk=>exact aY hh hs hρ hx)
  (fun _ _ _=>rfl)
  (fun b hb=> .inl (by
   rw[hρ0];refine⟨vs[j],by simp,?_⟩;rw[hsl] at hb ⊢;cases a with
   |none=>simp[Blk] at hb
   |some a=>simpa [blk,Blk] using hb))
  (fun H' ρ' hh hs hρ hρd=>⟨cs,aQ hh hs hr,by rw[hρd];exact hrow⟩)
  (fun hB _=>absurd hid (by omega))
 exact⟨h.marks,h.kept,h.size,h.below,h.others,h.small,ρ',q2⟩
theorem BR{X:Cx}{c:Code}{s s':aa}{K:Exit->aa->Prop}(id:Nat)(T':TypeId)(he:s.toRow id T'=some s')(h:J X c s' K):J X c s K:=
 fun ac w hst=>h ac w (hst.toRow he)
theorem vx{X:Cx}{c:Code}{s s':aa}{K:Exit->aa->Prop}(id j:Nat)(he:s.ofRow id j=some s')(h:J X c s' K):J X c s K:=
 fun ac w hst=>h ac w (hst.ofRow he)
end Go.Cm
end
section
namespace Go.Proofs.YtdojbabpnaifoaaGreatDoor
open Go Go.Cm Go.Proofs
def oE(B:ah):Tab:={types:= [(3,(.int .i64)),(79,tyP),(91,tyN)],elems:= [(79,91)],cons:= [(119,eO)],hint:= [],N:=25,base:=B}
theorem xQ{B:ah}(hB:aA B):aM Tryz.prog (oE B):=⟨⟨tc ty3 (tc fe (tc ty91 (af))),aV (by kernel_rfl) (ag),by simp only[oE,ioB];omega⟩,aK (cc Tryz.func119 (tl hB) (aq)),by kernel_rfl⟩
def mP:Con:=fun l os=>match l,os with
 | [.z (.slice (.st (.pair (.st (.pair .bool (.slice (.int .u32)))) (.st (.pair .bool (.slice (.int .u32))))))) p],[]=>some (mw p,[.z tyP (ar (cD (ae p)))],[])
 |_,_=>none
theorem tF{B:ah}(hB:aA B):Valid B Tryz.prog 120 mP:=by
 refine ab (xQ hB).tab Tryz.func120 rfl rfl rfl ?_;intro args os C rs os' hc hC;unfold mP at hc;split at hc;case h_2=>cases hc
 rename_i p;cases hc;refine v_h (xQ hB) fun X hP hT hr hG=> ?_;have hU:=oE.eq_1;unfold oE at hT;have hX:= @eO.eq_1;simp only[Tryz.f120,aB,aj,ioB];have hl:p.length<=1000:=hC.2.1;refine s_g hG ?_;refine s_g hG ?_;refine an (s_g hG ?_);refine aC (bM (fun(z:Nat)=>(⟨[(0,.l (.z tyP p)),(3,.l (.ownS 22)),(6,.l (.z tyP p)),(7,.l (.z (.int .i64) (p.length:Int))),(8,.l (.z (.int .i64) (z:Int)))],[(22,.arr tyN 91 (ar ((ae p).take z|>.map fun c=>c/ay (ae p))))]⟩:aa)) (fun z=>z<=p.length) (fun z=>p.length-z) 0 ?_ ?_ ?_);·refine q_l ?_;exact⟨rfl,by unfold ioB;omega,rfl⟩
 ·omega
 ·rintro k g1;try dsimp only at g1
  refine s_g hG ?_;refine an (av ?_ ?_)
  ·intro hb0;(try simp only[bt] at hb0);obtain⟨m1,m2,m3,m4,m5,m6⟩:=Fw hC (k:=k) (by omega);refine az (al ?_);refine an (aC ?_);refine s_q hG ?_ ?_
   ·(try simp only[ba]);exact⟨by omega,hb0⟩
   refine BR 22 78 (by simp only[aa.toRow,LV.toRow,ioB,mx0,mx1,mx2,mx3,mx4,mx5,mx6,Nat.reduceLT,Nat.reduceEqDiff,Nat.reduceAdd,Nat.reduceMul,Nat.reduceSub,Nat.reduceLeDiff,Nat.reduceBEq,Nat.reduceBNe,reduceIte,reduceDIte,reduceCtorEq];rfl) ?_;refine iV hG ?_ ?_
   ·(try simp only[ba]);simp only[pe2];rw[m1,m2];exact⟨m3,⟨m4,by rw[aF];exact m5⟩,rfl,m6⟩
   (refine aW (al ?_);refine vx 22 1 (by simp only[aa.ofRow,LV.ofRow,ioB,List.set_cons_zero,List.set_cons_succ,List.append_nil,List.nil_append,List.cons_append,List.getElem?_cons_zero,List.getElem?_cons_succ,Option.getD_some,mx0,mx1,mx2,mx3,mx4,mx5,mx6,Nat.reduceLT,Nat.reduceEqDiff,Nat.reduceAdd,Nat.reduceMul,Nat.reduceSub,Nat.reduceLeDiff,Nat.reduceBEq,Nat.reduceBNe,reduceIte,reduceDIte,reduceCtorEq];rfl) ?_;refine ak hG ?_ ?_;·exact tt9);show ∃ z,_;refine q_l ?_;simp only[pe2];rw[m1,m2];simp only[aF];exact CZ hC (by omega)
  ·intro hb0;(try simp only[bf] at hb0);refine bx (aN ?_);refine aJ (aI ?_);refine al (s_g hG ?_);refine au (q_e [] ?_);exact HJ (by omega)
def oF(B:ah):Tab:={types:= [(3,(.int .i64)),(79,tyP),(91,tyN)],elems:= [(79,91)],cons:= [(105,dJ),(124,Do)],hint:= [],N:=24,base:=B}
theorem xR{B:ah}(hB:aA B):aM Tryz.prog (oF B):=⟨⟨tc ty3 (tc fe (tc ty91 (af))),aV (by kernel_rfl) (ag),by simp only[oF,ioB];omega⟩,aK (cc Tryz.func105 (kr hB) (cc Tryz.func124 (tn hB) (aq))),by kernel_rfl⟩
def iM:Con:=fun l os=>match l,os with
 | [.z (.slice (.st (.pair (.st (.pair .bool (.slice (.int .u32)))) (.st (.pair .bool (.slice (.int .u32))))))) p],[]=>some (Sz QH p/\p.length<=1000,[.z tyP (ar (bK (ae p)))],[])
 |_,_=>none
theorem tG{B:ah}(hB:aA B):Valid B Tryz.prog 77 iM:=by
 refine ab (xR hB).tab Tryz.func77 rfl rfl rfl ?_;intro args os C rs os' hc hC;unfold iM at hc;split at hc;case h_2=>cases hc
 rename_i p;cases hc;refine v_h (xR hB) fun X hP hT hr hG=> ?_;have hU:=oF.eq_1;unfold oF at hT;have hX:=ai @dJ.eq_1<| @Do.eq_1;simp only[Tryz.f77,aB,aj,ioB];have hl:p.length<=1000:=hC.2;refine s_g hG ?_;refine s_g hG ?_;refine an (s_g hG ?_);refine aC (bM (fun(z:Nat)=>(⟨[(3,.l (.ownS 21)),(6,.l (.z tyP p)),(7,.l (.z (.int .i64) (p.length:Int))),(8,.l (.z (.int .i64) (z:Int)))],[(21,.arr tyN 91 (ar (kB (ae p) z)))]⟩:aa)) (fun z=>z<=p.length) (fun z=>p.length-z) 0 ?_ ?_ ?_);·refine q_l ?_;exact⟨rfl,by unfold ioB;omega,rfl⟩
 ·omega
 ·rintro k g1;try dsimp only at g1
  refine s_g hG ?_;refine an (av ?_ ?_)
  ·intro hb0;(try simp only[bt] at hb0);obtain⟨m1,m2,m3,m4⟩:=Fx hC.1 hl (k:=k) (by omega);refine az (al ?_);refine an (aC ?_);refine s_q hG ?_ ?_
   ·(try simp only[ba]);exact⟨by omega,hb0⟩
   refine s_g hG ?_;refine av ?_ ?_
   ·intro hb1;(try simp only[bt] at hb1);refine BR 21 78 (by simp only[aa.toRow,LV.toRow,ioB,mx0,mx1,mx2,mx3,mx4,mx5,mx6,Nat.reduceLT,Nat.reduceEqDiff,Nat.reduceAdd,Nat.reduceMul,Nat.reduceSub,Nat.reduceLeDiff,Nat.reduceBEq,Nat.reduceBNe,reduceIte,reduceDIte,reduceCtorEq];rfl) ?_;refine iV hG ?_ ?_
    ·(try simp only[ba]);simp only[pe2];rw[m2];exact⟨m1,m3,rfl,m4⟩
    (refine aW (al ?_);(first|refine vx 21 1 (by simp only[aa.ofRow,LV.ofRow,ioB,List.set_cons_zero,List.set_cons_succ,List.append_nil,List.nil_append,List.cons_append,List.getElem?_cons_zero,List.getElem?_cons_succ,Option.getD_some,mx0,mx1,mx2,mx3,mx4,mx5,mx6,Nat.reduceLT,Nat.reduceEqDiff,Nat.reduceAdd,Nat.reduceMul,Nat.reduceSub,Nat.reduceLeDiff,Nat.reduceBEq,Nat.reduceBNe,reduceIte,reduceDIte,reduceCtorEq];rfl) ?_|skip);refine ak hG ?_ ?_;·exact tt9);show ∃ z,_;refine q_l ?_;first|exact wZ hl (by omega) (by omega)|(simp only[pe2];rw[m2];simp only[aF];exact sK hl (by omega) (by omega))
   ·(intro hb1;(try simp only[bf] at hb1);refine az (aW ?_);refine al ?_;(first|refine vx 21 1 (by simp only[aa.ofRow,LV.ofRow,ioB,List.set_cons_zero,List.set_cons_succ,List.append_nil,List.nil_append,List.cons_append,List.getElem?_cons_zero,List.getElem?_cons_succ,Option.getD_some,mx0,mx1,mx2,mx3,mx4,mx5,mx6,Nat.reduceLT,Nat.reduceEqDiff,Nat.reduceAdd,Nat.reduceMul,Nat.reduceSub,Nat.reduceLeDiff,Nat.reduceBEq,Nat.reduceBNe,reduceIte,reduceDIte,reduceCtorEq];rfl) ?_|skip);refine ak hG ?_ ?_;·exact tt9);show ∃ z,_;refine q_l ?_;first|exact wZ hl (by omega) (by omega)|(simp only[pe2];rw[m2];simp only[aF];exact sK hl (by omega) (by omega))
  ·intro hb0;(try simp only[bf] at hb0);refine bx (aN ?_);refine aJ (aI ?_);refine al (s_g hG ?_);refine au (q_e [] ?_);rw[show k=(ae p).length by rw[aD];omega];rfl
end Go.Proofs.YtdojbabpnaifoaaGreatDoor
end
section
namespace Go.Proofs
open Go.RowKit Go.Cm Go.Shelf
attribute [local go_sem] Oper.semAt_some
set_option maxHeartbeats 2000000 in
set_option maxRecDepth 100000 in
theorem z8(ad:Addr)(n c:Nat)(news:List Value)(w:World)(hl:news.length=n*4)(hn:n<=maxLen)(hbig:n*64<=140737488355328)
  (hc:∀ j u,news[j]? =some u->w.cell? (ad.add j)=some u) (h1:∀ u∈news,u.oneCell'=true):
  Calls Tryz.prog 118 #[.slice (some ad) n c] w fun e w'=>∃ v',e= .returned v'/\w'.ownsRow w.heap.size 91 4 v' n news/\Below w.heap.size w w':=by
 have t4:=Tryz.underlying4;have a4:=Tryz.isAgg4;have z4:=Tryz.sizeOf4;have v4:=Tryz.zeroValue4;have t22:=Tryz.underlying79;have a22:=Tryz.isAgg79;have z22:=Tryz.sizeOf79;have v22:=Tryz.zeroValue79;obtain⟨i0,hi,hz0,hz1,hz2⟩:=info_parts (show (Tryz.prog.info? 91).map (fun i=>(i.zero,i.size,i.bytes))=some (some (.agg zc4.toArray),4,64) by kernel_rfl);have q22:∀ (w:World) (a:Option Addr) (n c n' c':Nat),(binOp .eql 79 (.slice a n c) (.slice none n' c')).run Tryz.prog w= .ok (.bool a.isNone) w:=fun w a n c n' c'=>Lib.run_eql_slice_nil w _ _ a n c n' c' t22;have u22:∀ w,Sem.run Tryz.prog (underlying 79) w= .ok (TypeDesc.slice 91) w:=run_underlying t22;have z23:∀ w,(Go.sizeOf 91).run Tryz.prog w= .ok 4 w:=fun w=>by simp[Go.sizeOf,typeInfo,hi,hz1]
 have A:Aside (∀ j u,news[j]? =some u->w.cell? (ad.add j)=some u):=hc;clear hc
 go_enter Tryz.func118,Tryz.ntmps118
 go_wp2_with (at_builtin;refine wpList_append_own _ rfl _ _ 79 rfl w.heap.size 91 i0 (.agg zc4.toArray) 4 64 t22 hi hz0 hz1 hz2 rfl (by omega) _ _ _ rfl (World.ownsRow_made w #[] 0 (Nat.le_refl _) (Nat.zero_le _) (by simp)) ad n c news rfl ?qc1 ?qc2 ?qc3 ?qc4 ?qc5 ?qc6 ?_)
 case qc1=>exact hl
 case qc2=>
  intro j u hj;exact Lib.cell?_alloc_some _ (A.out j u hj)
 case qc3=>exact h1
 case qc4=>rw[Nat.zero_add];exact hn
 case qc5=>rw[Nat.zero_add];exact hbig
 case qc6=>simp
 intro v' w1 hown hgrow hnil
 go_wp2
 go_ret
 refine⟨v',rfl,by simpa using hown,?_⟩;exact((Below.refl _ w).alloc (Nat.le_refl _) _).grown hgrow (by simp) (by intro k hk;simp[Value.ownBlock] at hk;omega)
set_option maxHeartbeats 1000000 in
theorem Dx(n c:Nat)(w:World):Calls Tryz.prog 118 #[.slice none n c] w fun e w'=>e= .returned (.slice none 0 0)/\w'=w:=by
 have t4:=Tryz.underlying4;have a4:=Tryz.isAgg4;have z4:=Tryz.sizeOf4;have v4:=Tryz.zeroValue4;have t22:=Tryz.underlying79;have a22:=Tryz.isAgg79;have z22:=Tryz.sizeOf79;have v22:=Tryz.zeroValue79;have q22:∀ (w:World) (a:Option Addr) (n c n' c':Nat),(binOp .eql 79 (.slice a n c) (.slice none n' c')).run Tryz.prog w= .ok (.bool a.isNone) w:=fun w a n c n' c'=>Lib.run_eql_slice_nil w _ _ a n c n' c' t22
 go_enter Tryz.func118,Tryz.ntmps118
 go_wp2
 go_ret
 exact⟨rfl,rfl⟩
def cP:Con:=fun l os=>match l,os with
 | [.z (.slice (.st (.pair (.st (.pair .bool (.slice (.int .u32)))) (.st (.pair .bool (.slice (.int .u32))))))) xs],[]=>some (xs.length<=QL,[.own tyN 91 xs],[])
 |_,_=>none
theorem Dy{B:ah}(hB:aA B):Valid B Tryz.prog 118 cP:=by
 intro args os C rs os' hc hC O w vals ρ0 hOn hIo hO hOI hargs hown hap;unfold cP at hc;split at hc;case h_2=>cases hc
 rename_i xs;cases hc;obtain⟨u,rfl,hu⟩:=uj hargs;obtain⟨cells,hr,h⟩:=gn hu;have hl:=bm (fun c x h=>NT.rep_length h) hr;have hC:xs.length<=1000000000:=hC;have hmove:∀ w':World,Below w.heap.size w w'->∀ H:Nat->Prop,(∀ b,b<w.heap.size->H b->O b)->cq (fun c x=>NT.rep H w' c x) cells xs:=
  fun w' hb H hH=>aQ (fun b hlt hb=> .inl (hH b hlt hb)) (fun b _ hlt=>hb.block b (cH hlt)) hr
 rcases h with⟨rfl,h0,rfl⟩|⟨ad,c,rfl,hc⟩;·refine(Dx 0 0 w).mono fun e w' ⟨he,hw⟩=> ?_;subst he;subst hw;exact uN hO (Below.refl _ _) ⟨_,_,_,rfl⟩ (hmove _ (Below.refl _ _)) ⟨by simp[h0],.inl ⟨rfl,h0⟩⟩
 ·refine(z8 ad xs.length c cells w hl (by unfold maxLen;omega) (by omega) hc (ea hr)).mono fun e w' ⟨v',he,hrow,hb⟩=> ?_;subst he;obtain⟨h1,h2⟩:=hrow;refine uN hO hb ?_ (hmove _ hb) ⟨h1,?_⟩;·rcases h2 with⟨rfl,_⟩|⟨g,cap,cur,rfl,_⟩<;>exact⟨_,_,_,rfl⟩
  ·(rcases h2 with h2|⟨g,cap,cur,e1,e2,e3,e4,e5,e6,e7⟩;·exact .inl h2);·exact .inr ⟨g,cap,cur,e1,e2,e3,e4,e5,by rw[e6];exact Nat.le_refl _,e7⟩
end Go.Proofs
end
section
namespace Go.Proofs.YtdojbabpnaifoaaGreatDoor
open Go Go.Cm Go.Proofs
def cM(B:ah):Tab:={types:= [(3,(.int .i64)),(79,tyP),(91,tyN)],elems:= [(79,91)],cons:= [(60,eN),(82,fk),(105,dJ),(112,eL),(113,dK),(118,cP),(119,eO)],hint:= [],N:=78,io:= [(82,[0])],frees:= [(82,[0])],base:=B}
theorem xS{B:ah}(hB:aA B):aM Tryz.prog (cM B):=⟨⟨tc ty3 (tc fe (tc ty91 (af))),aV (by kernel_rfl) (ag),by simp only[cM,ioB];omega⟩,aK (cc Tryz.func60 (tk hB) (cc Tryz.func82 (Dw hB) (cc Tryz.func105 (kr hB) (cc Tryz.func112 (sM hB) (cc Tryz.func113 (kt hB) (cc Tryz.func118 (Dy hB) (cc Tryz.func119 (tl hB) (aq)))))))),by kernel_rfl⟩
def nD:Con:=fun l os=>match l,os with
 | [.z (.slice (.st (.pair (.st (.pair .bool (.slice (.int .u32)))) (.st (.pair .bool (.slice (.int .u32))))))) p,.z (.slice (.st (.pair (.st (.pair .bool (.slice (.int .u32)))) (.st (.pair .bool (.slice (.int .u32))))))) q],[]=>some (fh p q,[.z tyP (ar (divN (ae p) (ae q)).1),.own tyN 91 (ar (divN (ae p) (ae q)).2)],[])
 |_,_=>none
theorem mQ{B:ah}(hB:aA B):Valid B Tryz.prog 68 nD:=by
 refine ab (xS hB).tab Tryz.func68 rfl rfl rfl ?_;intro args os C rs os' hc hC;unfold nD at hc;split at hc;case h_2=>cases hc
 rename_i p q;cases hc;refine v_h (xS hB) fun X hP hT hr hG=> ?_;have hU:=cM.eq_1;unfold cM at hT;have hX:=ai @cP.eq_1<|ai @eO.eq_1<|ai @dJ.eq_1<|ai @eN.eq_1<|ai @eL.eq_1<|ai @fk.eq_1<|ai @dK.eq_1<|ai @bD.eq_def<| @bU.eq_def;simp only[Tryz.f68,aB,aj,ioB];refine an ?_;have hl1:=hC.l1;have hl2:=hC.l2;have h0:=hC.h0;obtain⟨v1,v2,v3⟩:=Jm hC;refine ct hG (by simp only[hT,cM,bD.eq_def,bU.eq_def,cP,eO,dJ,eN,eL,fk,dK,mx0,mx1,mx2,mx3,mx4,mx5,mx6,effOp,endCall,callOp,appendOp,sliceLV,Ty.fieldTy,Ty.fieldOf,Nat.reduceLT,Nat.reduceEqDiff,Nat.reduceAdd,Nat.reduceMul,Nat.reduceSub,Nat.reduceLeDiff,Nat.reduceBEq,Nat.reduceBNe,reduceIte,reduceDIte,reduceCtorEq];rfl) ?_ ?_;·exact tt9
 refine al (an ?_);refine ct hG (by simp only[hT,cM,bD.eq_def,bU.eq_def,cP,eO,dJ,eN,eL,fk,dK,mx0,mx1,mx2,mx3,mx4,mx5,mx6,effOp,endCall,callOp,appendOp,sliceLV,Ty.fieldTy,Ty.fieldOf,Nat.reduceLT,Nat.reduceEqDiff,Nat.reduceAdd,Nat.reduceMul,Nat.reduceSub,Nat.reduceLeDiff,Nat.reduceBEq,Nat.reduceBNe,reduceIte,reduceDIte,reduceCtorEq];rfl) ?_ ?_
 ·try simp only[ba]
  show p.length<=1000000000;omega
 refine al (an ?_);refine ct hG (by simp only[hT,cM,bD.eq_def,bU.eq_def,cP,eO,dJ,eN,eL,fk,dK,mx0,mx1,mx2,mx3,mx4,mx5,mx6,effOp,endCall,callOp,appendOp,sliceLV,Ty.fieldTy,Ty.fieldOf,Nat.reduceLT,Nat.reduceEqDiff,Nat.reduceAdd,Nat.reduceMul,Nat.reduceSub,Nat.reduceLeDiff,Nat.reduceBEq,Nat.reduceBNe,reduceIte,reduceDIte,reduceCtorEq];rfl) ?_ ?_
 ·try simp only[ba]
  rw[v1];exact⟨v2,v3⟩
 refine al (an ?_);refine aC (Ey 1104 1600 (by simp only[hT,cM,mx0,mx1,mx2,mx3,mx4,mx5,mx6,Nat.reduceLT,Nat.reduceEqDiff,Nat.reduceAdd,Nat.reduceMul,Nat.reduceSub,Nat.reduceLeDiff,Nat.reduceBEq,Nat.reduceBNe,reduceIte,reduceDIte,reduceCtorEq];rfl) ?_);refine bM (fun(z:Nat×List Rat×List Rat)=>(⟨[(0,.l (.z tyP p)),(1,.l (.z tyP q)),(6,.l (.ownS 1600)),(7,.l (.ownS 1184))],[(1600,.arr tyN 91 (ar z.2.1)),(1184,.arr tyN 91 (ar z.2.2))]⟩:aa)) (fun z=>DivPhi p q z.1 z.2.1 z.2.2) (fun z=>z.2.1.length) (p.length+1,ae p,List.replicate (p.length+1-q.length) 0) ?_ ?_ ?_;·refine q_l ?_;rw[v1,Int.toNat_natCast,hC.enc,wX];exact⟨rfl,rfl⟩
 ·exact div_start hC
 ·rintro⟨n,r,s⟩ hz;try dsimp only at hz
  refine an (an ?_);refine ct hG (by simp only[hT,cM,bD.eq_def,bU.eq_def,cP,eO,dJ,eN,eL,fk,dK,mx0,mx1,mx2,mx3,mx4,mx5,mx6,effOp,endCall,callOp,appendOp,sliceLV,Ty.fieldTy,Ty.fieldOf,Nat.reduceLT,Nat.reduceEqDiff,Nat.reduceAdd,Nat.reduceMul,Nat.reduceSub,Nat.reduceLeDiff,Nat.reduceBEq,Nat.reduceBNe,reduceIte,reduceDIte,reduceCtorEq];rfl) ?_ ?_;·exact tt9
  refine al (av ?_ ?_)
  ·(intro hb0;(try simp only[bt] at hb0);(have hle:q.length<=r.length:=by have h9:(q.length:Int)<=((ar r).length:Int):=hb0;rw[ao] at h9;omega);obtain⟨w1,w2,n1,n2,n3⟩:=FA hC hz hle;have hk:=JP hC hz hle;refine az (al ?_);refine aC (an ?_);refine ct hG (by simp only[hT,cM,bD.eq_def,bU.eq_def,cP,eO,dJ,eN,eL,fk,dK,mx0,mx1,mx2,mx3,mx4,mx5,mx6,effOp,endCall,callOp,appendOp,sliceLV,Ty.fieldTy,Ty.fieldOf,Nat.reduceLT,Nat.reduceEqDiff,Nat.reduceAdd,Nat.reduceMul,Nat.reduceSub,Nat.reduceLeDiff,Nat.reduceBEq,Nat.reduceBNe,reduceIte,reduceDIte,reduceCtorEq];rfl) ?_ ?_;·exact tt9);refine al (an ?_);refine qk hG (by simp only[hT,mt0,cM,bD.eq_def,bU.eq_def,cP,eO,dJ,eN,eL,fk,dK,mx0,mx1,mx2,mx3,mx4,mx5,mx6,effOp,endCall,callOp,appendOp,sliceLV,Ty.fieldTy,Ty.fieldOf,Nat.reduceLT,Nat.reduceEqDiff,Nat.reduceAdd,Nat.reduceMul,Nat.reduceSub,Nat.reduceLeDiff,Nat.reduceBEq,Nat.reduceBNe,reduceIte,reduceDIte,reduceCtorEq];rfl) (by kernel_rfl) (by rfl) (by rfl) ?_ ?_
   ·(try simp only[ba]);simp only[w1,w2,Int.toNat_natCast,n1,n2];exact C4 hC hz hle
   refine al (an ?_);refine ct hG (by simp only[hT,cM,bD.eq_def,bU.eq_def,cP,eO,dJ,eN,eL,fk,dK,mx0,mx1,mx2,mx3,mx4,mx5,mx6,effOp,endCall,callOp,appendOp,sliceLV,Ty.fieldTy,Ty.fieldOf,Nat.reduceLT,Nat.reduceEqDiff,Nat.reduceAdd,Nat.reduceMul,Nat.reduceSub,Nat.reduceLeDiff,Nat.reduceBEq,Nat.reduceBNe,reduceIte,reduceDIte,reduceCtorEq];rfl) ?_ ?_
   ·(try simp only[ba]);simp only[hk,Int.toNat_natCast];exact⟨⟨(uK hC hz hle).1,(uK hC hz hle).2.1⟩,(uK hC hz hle).2.2⟩
   (refine al (an ?_);refine an (ct hG (by simp only[hT,cM,bD.eq_def,bU.eq_def,cP,eO,dJ,eN,eL,fk,dK,mx0,mx1,mx2,mx3,mx4,mx5,mx6,effOp,endCall,callOp,appendOp,sliceLV,Ty.fieldTy,Ty.fieldOf,Nat.reduceLT,Nat.reduceEqDiff,Nat.reduceAdd,Nat.reduceMul,Nat.reduceSub,Nat.reduceLeDiff,Nat.reduceBEq,Nat.reduceBNe,reduceIte,reduceDIte,reduceCtorEq];rfl) ?_ ?_);·exact tt9);refine al (aC ?_);refine bM (fun(z:Nat)=>(⟨[(0,.l (.z tyP p)),(1,.l (.z tyP q)),(6,.l (.ownS 1600)),(7,.l (.ownS 1184)),(8,.l (.z (.int .i64) ((r.length-q.length:Nat):Int))),(9,.l (.ownP 9 0)),(51,.l (.z tyP q)),(52,.l (.z (.int .i64) (q.length:Int))),(53,.l (.z (.int .i64) (z:Int)))],[(1600,.arr tyN 91 (ar (ck r (r.length-q.length) (-(ay r/ay (ae q))) (ae q) z))),(1184,.arr tyN 91 (ar (s.set (r.length-q.length) (ay r/ay (ae q))))),(9,.box 91 [.z .bool (a8 (ay r/ay (ae q))).1.1,.z (.slice (.int .u32)) (a8 (ay r/ay (ae q))).1.2,.z .bool (a8 (ay r/ay (ae q))).2.1,.z (.slice (.int .u32)) (a8 (ay r/ay (ae q))).2.2])]⟩:aa)) (fun z=>z<=q.length) (fun z=>q.length-z) 0 ?_ ?_ ?_;·refine q_l ?_;simp only[hk,w1,w2,Int.toNat_natCast,pe2,n1,n2,aF,qS,ck,true_and,and_true,and_self];rfl
   ·omega
   ·(rintro i g1;(try dsimp only at g1);refine an (ct hG (by simp only[hT,cM,bD.eq_def,bU.eq_def,cP,eO,dJ,eN,eL,fk,dK,mx0,mx1,mx2,mx3,mx4,mx5,mx6,effOp,endCall,callOp,appendOp,sliceLV,Ty.fieldTy,Ty.fieldOf,Nat.reduceLT,Nat.reduceEqDiff,Nat.reduceAdd,Nat.reduceMul,Nat.reduceSub,Nat.reduceLeDiff,Nat.reduceBEq,Nat.reduceBNe,reduceIte,reduceDIte,reduceCtorEq];rfl) ?_ ?_);·exact tt9);refine al (an ?_);refine av ?_ ?_
    ·intro hb1;(try simp only[bt] at hb1);(have hi:i<q.length:=by have h9:(i:Int)<(q.length:Int):=hb1;omega);obtain⟨u1,u2,u3,u4,u5,u6⟩:=Fy hC hz hle hi;refine az (al ?_);refine an (aC ?_);refine an (ct hG (by simp only[hT,cM,bD.eq_def,bU.eq_def,cP,eO,dJ,eN,eL,fk,dK,mx0,mx1,mx2,mx3,mx4,mx5,mx6,effOp,endCall,callOp,appendOp,sliceLV,Ty.fieldTy,Ty.fieldOf,Nat.reduceLT,Nat.reduceEqDiff,Nat.reduceAdd,Nat.reduceMul,Nat.reduceSub,Nat.reduceLeDiff,Nat.reduceBEq,Nat.reduceBNe,reduceIte,reduceDIte,reduceCtorEq];rfl) ?_ ?_)
     ·(try simp only[ba]);exact⟨by omega,hb1⟩
     refine al (qk hG (by simp only[hT,mt0,cM,bD.eq_def,bU.eq_def,cP,eO,dJ,eN,eL,fk,dK,mx0,mx1,mx2,mx3,mx4,mx5,mx6,effOp,endCall,callOp,appendOp,sliceLV,Ty.fieldTy,Ty.fieldOf,Nat.reduceLT,Nat.reduceEqDiff,Nat.reduceAdd,Nat.reduceMul,Nat.reduceSub,Nat.reduceLeDiff,Nat.reduceBEq,Nat.reduceBNe,reduceIte,reduceDIte,reduceCtorEq];rfl) (by kernel_rfl) (by rfl) (by rfl) ?_ ?_)
     ·(try simp only[ba]);simp only[pe2,u1,u3,u4,Int.toNat_natCast,aF];exact C5 hC hz hle hi
     (refine aW (al ?_);refine ct hG (by simp only[hT,cM,bD.eq_def,bU.eq_def,cP,eO,dJ,eN,eL,fk,dK,mx0,mx1,mx2,mx3,mx4,mx5,mx6,effOp,endCall,callOp,appendOp,sliceLV,Ty.fieldTy,Ty.fieldOf,Nat.reduceLT,Nat.reduceEqDiff,Nat.reduceAdd,Nat.reduceMul,Nat.reduceSub,Nat.reduceLeDiff,Nat.reduceBEq,Nat.reduceBNe,reduceIte,reduceDIte,reduceCtorEq];rfl) ?_ ?_;·exact tt9);show ∃ z,_;refine q_l ?_;simp only[pe2,u1,u3,u4,Int.toNat_natCast,aF,HN];exact FB (n:=n) (s:=s) hC hi
    ·intro hb1;(try simp only[bf] at hb1);(have hi:i=q.length:=by have h9: ¬ (i:Int)<(q.length:Int):=hb1;omega);refine bx (aN ?_);refine aJ (aI ?_);refine al (ct hG (by simp only[hT,cM,bD.eq_def,bU.eq_def,cP,eO,dJ,eN,eL,fk,dK,mx0,mx1,mx2,mx3,mx4,mx5,mx6,effOp,endCall,callOp,appendOp,sliceLV,Ty.fieldTy,Ty.fieldOf,Nat.reduceLT,Nat.reduceEqDiff,Nat.reduceAdd,Nat.reduceMul,Nat.reduceSub,Nat.reduceLeDiff,Nat.reduceBEq,Nat.reduceBNe,reduceIte,reduceDIte,reduceCtorEq];rfl) ?_ ?_)
     ·(try simp only[ba]);rw[AZ (p:=p) (n:=n) (s:=s) hi];exact Fz hC hz hle
     refine aW ?_;show ∃ z,_;refine q_l ?_;obtain⟨m,hm⟩:=div_next hC hz hle;exact⟨m,aS (b8 (ae q) r),by rw[AZ (p:=p) (n:=n) (s:=s) hi,ax],_,rfl,hm,eF (by rw[aD];exact h0) (by rw[aD];exact hle) hC.hl⟩
  ·(intro hb0;(try simp only[bf] at hb0);(have hle: ¬q.length<=r.length:=by have h9: ¬ (q.length:Int)<=((ar r).length:Int):=hb0;rw[ao] at h9;omega);have he:=div_end hz hle;refine bx (aN ?_);refine aJ (aI ?_);refine al (an ?_);refine ct hG (by simp only[hT,cM,bD.eq_def,bU.eq_def,cP,eO,dJ,eN,eL,fk,dK,mx0,mx1,mx2,mx3,mx4,mx5,mx6,effOp,endCall,callOp,appendOp,sliceLV,Ty.fieldTy,Ty.fieldOf,Nat.reduceLT,Nat.reduceEqDiff,Nat.reduceAdd,Nat.reduceMul,Nat.reduceSub,Nat.reduceLeDiff,Nat.reduceBEq,Nat.reduceBNe,reduceIte,reduceDIte,reduceCtorEq];rfl) ?_ ?_;·exact tt9);refine al (au ?_);refine q_e [] ?_;rw[<- he];exact⟨rfl,trivial,rfl⟩
def oG(B:ah):Tab:={types:= [(3,(.int .i64)),(79,tyP)],elems:= [],cons:= [(68,nD),(120,mP)],hint:= [13],N:=21,base:=B}
theorem xT{B:ah}(hB:aA B):aM Tryz.prog (oG B):=⟨⟨tc ty3 (tc fe (af)),ag,by simp only[oG,ioB];omega⟩,aK (cc Tryz.func68 (mQ hB) (cc Tryz.func120 (tF hB) (aq))),by kernel_rfl⟩
def kv:Con:=fun l os=>match l,os with
 | [.z (.slice (.st (.pair (.st (.pair .bool (.slice (.int .u32)))) (.st (.pair .bool (.slice (.int .u32))))))) p,.z (.slice (.st (.pair (.st (.pair .bool (.slice (.int .u32)))) (.st (.pair .bool (.slice (.int .u32))))))) q],[]=>some (gG p q,[.z tyP (ar (bX (ae p) (ae q)))],[])
 |_,_=>none
theorem tH{B:ah}(hB:aA B):Valid B Tryz.prog 70 kv:=by
 refine ab (xT hB).tab Tryz.func70 rfl rfl rfl ?_;intro args os C rs os' hc hC;unfold kv at hc;split at hc;case h_2=>cases hc
 rename_i p q;cases hc;refine v_h (xT hB) fun X hP hT hr hG=> ?_;have hU:=oG.eq_1;unfold oG at hT;have hX:=ai @mP.eq_1<| @nD.eq_1;simp only[Tryz.f70,aB,aj,ioB];refine s_g hG ?_;refine an (aC ?_);refine bM (fun(z:Nat×List Rat×List Rat)=>(⟨[(0,.l (.z tyP (ar z.2.1))),(1,.l (.z tyP (ar z.2.2)))],[]⟩:aa)) (fun z=>qZ p q z.1 z.2.1 z.2.2) (fun z=>z.2.2.length) (q.length+1,ae p,ae q) ?_ ?_ ?_;·refine q_l ?_;rw[uL hC.hp,uL hC.hq];exact⟨rfl,rfl⟩
 ·exact C6 hC
 ·rintro⟨n,a,b⟩ hz;try dsimp only at hz
  refine an (s_g hG ?_);refine av ?_ ?_
  ·intro hb0;(try simp only[bt] at hb0);(have hl:0<b.length:=by have h9:(0:Int)<((ar b).length:Int):=hb0;rw[ao] at h9;omega);obtain⟨d1,d2,⟨m,d3⟩,d4⟩:=FC hz hl;refine az (al ?_);refine aC (s_q hG ?_ ?_)
   ·(try simp only[ba]);exact d1
   refine ak hG ?_ ?_
   ·(try simp only[ba]);rw[ax,ax];exact d2
   refine aW ?_;show ∃ z,_;refine q_l ?_;rw[ax,ax,ax];exact⟨m,b,rfl,_,rfl,d3,d4⟩
  ·intro hb0;(try simp only[bf] at hb0);(have hl: ¬0<b.length:=by have h9: ¬ (0:Int)<((ar b).length:Int):=hb0;rw[ao] at h9;omega);obtain⟨d1,d2⟩:=HO hz hl;refine bx (aN ?_);refine aJ (aI ?_);refine al (s_q hG ?_ ?_)
   ·(try simp only[ba]);exact d1
   refine au (q_e [] ?_);rw[ax,d2]
def oH(B:ah):Tab:={types:= [(3,(.int .i64)),(79,tyP)],elems:= [],cons:= [(68,nD),(70,kv),(77,iM),(120,mP)],hint:= [14],N:=19,base:=B}
theorem xU{B:ah}(hB:aA B):aM Tryz.prog (oH B):=⟨⟨tc ty3 (tc fe (af)),ag,by simp only[oH,ioB];omega⟩,aK (cc Tryz.func68 (mQ hB) (cc Tryz.func70 (tH hB) (cc Tryz.func77 (tG hB) (cc Tryz.func120 (tF hB) (aq))))),by kernel_rfl⟩
def oI:Con:=fun l os=>match l,os with
 | [.z (.slice (.st (.pair (.st (.pair .bool (.slice (.int .u32)))) (.st (.pair .bool (.slice (.int .u32))))))) p],[]=>some (jT p,[.z tyP (ar (bO (ae p)))],[])
 |_,_=>none
theorem Dz{B:ah}(hB:aA B):Valid B Tryz.prog 79 oI:=by
 refine ab (xU hB).tab Tryz.func79 rfl rfl rfl ?_;intro args os C rs os' hc hC;unfold oI at hc;split at hc;case h_2=>cases hc
 rename_i p;cases hc;refine v_h (xU hB) fun X hP hT hr hG=> ?_;have hU:=oH.eq_1;unfold oH at hT;have hX:=ai @kv.eq_1<|ai @iM.eq_1<|ai @mP.eq_1<| @nD.eq_1;simp only[Tryz.f79,aB,aj,ioB];refine s_g hG ?_;refine an (s_g hG ?_);refine av ?_ ?_
 ·intro hb0;try simp only[bt] at hb0
  refine s_g hG ?_;refine au (aL ?_);refine q_e [] ?_;have h9:(p.length:Int)=0:=hb0;obtain rfl:p= []:=List.eq_nil_of_length_eq_zero (by omega);rfl
 ·intro hb0;try simp only[bf] at hb0
  have hne:p≠ []:=by intro e;subst e;exact hb0 rfl
  obtain⟨c1,c2,c3,c4,c5⟩:=hC hne;refine az (al ?_);refine s_q hG ?_ ?_
  ·(try simp only[ba]);simp only[ax];exact⟨⟨c1,by omega⟩,c3,c4⟩
  refine s_q hG ?_ ?_
  ·(try simp only[ba]);simp only[ax];exact c5
  refine au (q_e [] ?_);simp only[ax,bO,if_neg (show ¬ae p= [] from fun e=>hne (by have:=congrArg List.length e;rw[aD] at this;exact List.eq_nil_of_length_eq_zero this))]
end Go.Proofs.YtdojbabpnaifoaaGreatDoor
end
section
namespace Go.Cm
open Go.RowKit
def tI:Code->Option (Nat×TypeId×Nat)
 | .region _ ops false=>match ops.toList with
  | [o1,o2]=>match o1.guard,o1.dst,o1.op,o2.guard,o2.dst,o2.op with
   |none,some d,.alloc T,none,none,.store T' (.tmp d') (.tmp p)=>if T=T'/\d'=d/\p≠d then some (d,T,p) else none
   |_,_,_,_,_,_=>none
  |_=>none
 |_=>none
theorem vy{H:Nat->Prop}{w:World}{ρ:Nat->Value}{cs:List LV}{vs:List Value}(h:bd (eU H w ρ) cs vs):∀ c∈vs,c.oneCell'=true:=by
 intro c hc;obtain⟨i,hi,rfl⟩:=List.getElem_of_mem hc;have hl:=h.length;obtain⟨v,h1,h2⟩:=h.get (List.getElem?_eq_getElem (show i<cs.length by omega));rw[List.getElem?_eq_getElem hi] at h1;cases h1;exact h2.2
theorem GV{X:Cx}{r:Option Nat}{n:Nat}(c:Code){d:Nat}{T:TypeId}{p:Nat}{u:Ty}(h:tI c=some (d,T,p))(hT:cQ X.P T u)(a:Act)(w:World)(hd:d<a.tmps.size)(hl:(a.eval (.tmp p)).cells.toList.length=u.w)(h1:∀ c∈(a.eval (.tmp p)).cells.toList,c.oneCell'=true):
  ∃ Wb:World,(∀ k,k<w.heap.size->Wb.heap[k]? =w.heap[k]?)/\Wb.heap[w.heap.size]? =some (.cells ((a.eval (.tmp p)).cells.toList).toArray T (0,0))/\Wb.heap.size=w.heap.size+1/\(Wb.os=w.os/\Wb.tape=w.tape/\Wb.output=w.output)/\
   ∀ {K:Act->World->Prop} {R:Exit->Act->World->Prop},K (a.put (some d) (.pointer (some ⟨w.heap.size,0,none⟩))) Wb->c.wpIn (fw r) n X.P (Exit.then K R) a w:=by
 cases c with
 |region id ops draw=>
  cases draw with
  |true=>simp[tI] at h
  |false=>
   simp only[tI] at h;split at h;(case h_2=>cases h);rename_i o1 o2 hops;split at h;(case h_2=>cases h);rename_i d0 T0 T' d' p' g1 e1 e2 g2 e3 e4;split at h;(case isFalse=>cases h);rename_i hc;obtain⟨rfl,rfl,hpd⟩:=hc;cases h;have hz:=fo hT.leaf u.zeroCells u.zeroCells_length u.zeroCells_one;have hrow:(w.alloc (.cells (mkV u.isAgg u.zeroCells).cells T)).heap[w.heap.size]? =some (.cells u.zeroCells.toArray T (0,0)):=by
    rw[heap_alloc_new];congr 2;apply Array.ext';simpa using hz
   (have hst:=eI (P:=X.P) hT (v:=a.eval (.tmp p)) hrow hl h1 (o:=0) (by rw[u.zeroCells_length];omega);have hset:=dh hrow (new:=(a.eval (.tmp p)).cells.toList) (off:=0) (by rw[hl,u.zeroCells_length];omega);refine⟨(w.alloc (.cells (mkV u.isAgg u.zeroCells).cells T)).setCells w.heap.size 0 (a.eval (.tmp p)).cells.toList,fun k hk=> ?_,?_,?_,?_,?_⟩;·rw[bV _ _ _ _ (by omega)];exact bP w _ k hk);·rw[hset];have e0:u.zeroCells.drop (0+(a.eval (.tmp p)).cells.toList.length)= []:=List.drop_of_length_le (by rw[hl,u.zeroCells_length];omega);rw[e0];simp
   ·rw[kC,World.size_alloc]
   ·have hb:=Bel.setCells (M:=fun _=>True) (b:=w.heap.size) trivial (a.eval (.tmp p)).cells.toList 0 ((Bel.refl (fun _=>True) w).alloc (.cells (mkV u.isAgg u.zeroCells).cells T));exact⟨hb.os,hb.tape,hb.output⟩
   ·intro K R hk;refine wpIn_region_list ?_;rw[hops];(have hw1:∀ t,Region.wanted o1 (yielded ops t)=true:=fun t=>by simp[Region.wanted,g1]);(have hw2:∀ t,Region.wanted o2 (yielded ops t)=true:=fun t=>by simp[Region.wanted,g2]);simp only[wpListIn,hw1,if_true];refine a6 (v:= .pointer (some ⟨w.heap.size,0,none⟩)) (w':=w.alloc (.cells (mkV u.isAgg u.zeroCells).cells T)) ?_ ?_;·unfold execOp;rw[e2];exact bh (rZ hT w)
    ·rw[e1];simp only[hw2,if_true];have hdv:(a.put (some d) (.pointer (some ⟨w.heap.size,0,none⟩))).eval (.tmp d)= .pointer (some ⟨w.heap.size,0,none⟩):=by
      simp[Act.eval,Act.put,hd]
     have hpv:(a.put (some d) (.pointer (some ⟨w.heap.size,0,none⟩))).eval (.tmp p)=a.eval (.tmp p):=by
      show (a.put (some d) _).tmps.getD p undef=a.tmps.getD p undef;exact Act.getD_put_ne hpd
     (refine ft (w':=(w.alloc (.cells (mkV u.isAgg u.zeroCells).cells T)).setCells w.heap.size 0 (a.eval (.tmp p)).cells.toList) ?_ ?_;·unfold execOp;rw[e4];simp only[hdv,hpv];simp[hst]);·rw[e3];exact hk
 |_=>simp[tI] at h
theorem Fits.freshO{X:Cx}{s:aa}{a:Act}{w w':World}{d:Nat}{obj:aG}{val:Value}{ρ:Nat->Value}(hf:Fits X s a w ρ)(hdB:d<ioB)
  (hkeep:∀ k,k<w.heap.size->w'.heap[k]? =w.heap[k]?) (hval:∀ b,Blk val b->w.heap.size<=b)
  (hobj:∀ H' ρ',(∀ b,b<w.heap.size->H' b->hot X.O ρ s.own b)->aZ (hot X.O ρ s.own) w w'->(∀ i,i≠d->ρ' i=ρ i)->ρ' d=val->bL H' w' ρ' X.M (d,obj)):
  ∃ ρ',ρ' d=val/\(∀ i,i≠d->ρ' i=ρ i)/\Fits X {env:=bz (LV.kill d) s.env,own:=(d,obj)::bb (LV.kill d) (del s.own d)} a w' ρ':=by
 have hlt:=fun p hp b hb=>((hf.own p hp).lt (b:=b) hb).2;have hs:aZ (hot X.O ρ s.own) w w':=fun b _ hb=>hkeep b (cH hb);have hh:∀ b,b<w.heap.size->hot X.O (kA ρ d val) ((d,obj)::bb (LV.kill d) (del s.own d)) b->hot X.O ρ s.own b:=by
  intro b hb h;rcases h with h|⟨p,hp,hp2⟩;·exact .inl h
  ·(rcases List.mem_cons.1 hp with rfl|hp;·simp only[cx] at hp2;have:=hval b hp2;omega);·obtain⟨u,h1,_⟩:=a7 hp;have h2:=bp.1 h1;rw[cX _ _ h2.2] at hp2;exact cV h2.1 hp2
 have hρ:∀ i,i≠d->kA ρ d val i=ρ i:=fun i hi=>cX _ _ hi;refine⟨kA ρ d val,cx _ _ _,hρ,hf.env_map (fun x v hx=>aY hh hs hρ hx) ?_ ?_ ?_⟩
 ·intro p hp;rcases List.mem_cons.1 hp with rfl|hp;·exact hobj _ _ hh hs hρ (cx _ _ _)
  ·obtain⟨u,h1,h2⟩:=a7 hp;have h3:=bp.1 h1;have:=(hf.own _ h3.1).move (f:=LV.kill d) (ρ':=kA ρ d val) hh hs (fun x v hx=>aY hh hs hρ hx) (hρ _ h3.2) (fun b hb=>hkeep b (hlt _ h3.1 b hb));rw[<- h2] at this;exact this
 ·intro p hp hB hF;rcases List.mem_cons.1 hp with rfl|hp;·exact absurd hB (Nat.not_le.2 hdB)
  ·obtain⟨u,h1,_⟩:=a7 hp;have h3:=bp.1 h1;rw[hρ _ h3.2];exact hf.io _ h3.1 hB hF
 ·rw[List.pairwise_cons];constructor;·intro q hq;obtain⟨u,h1,_⟩:=a7 hq;have h3:=bp.1 h1;refine⟨fun e=>h3.2 e.symm,fun b hb hq2=> ?_⟩;rw[cX _ _ h3.2] at hq2;simp only[cx] at hb;have h4:=hval b hb;have:=hlt _ h3.1 b hq2;omega
  ·have hap:=cm (f:=LV.kill d) (fun i j=>i≠j/\∀ b,Blk (ρ i) b-> ¬Blk (ρ j) b) (cL (fun i j=>i≠j/\∀ b,Blk (ρ i) b-> ¬Blk (ρ j) b) (n:=d) hf.apart);refine hap.imp_of_mem fun {p q} hp hq hpq=> ?_;obtain⟨_,h1,_⟩:=a7 hp;obtain⟨_,h2,_⟩:=a7 hq;rw[cX _ _ (bp.1 h1).2,cX _ _ (bp.1 h2).2];exact hpq
theorem DA{X:Cx}(hr:X.r=none){s:aa}{K:Exit->aa->Prop}{g:Operand}{ps:Array Tmp}{assign body:Code}{gf:FuncId}
  {items:List (List LV)} (henters:∀ args w,(callFunc gf args).run X.P w= .ok (.enter gf args) w) (hdata:∀ it∈items,it.length=ps.size/\it.all LV.isZ=true) {d pv:Nat} {TB:TypeId} {ub:Ty} (hasg:tI assign=some (d,TB,pv)) (hTb:cQ X.P TB ub) (hdN:d<X.T.N) (ks:List Nat)
  (hk1:ks.all (fun t=> !ps.toList.contains t&&t !=d)=true) (hps:ps.toList.all (fun t=>decide (t<X.T.N))=true)
  {ι:Type} (f:Nat->ι->aa) (Φ:Nat->ι->Prop) (x₀:ι) (h₀:le s (f 0 x₀))
  (hseq:∀ (a:Act) (w:World) (ρ:Nat->Value),St X s a w->Fits X s a w ρ->(∀ b,hot X.O (cz ρ s.own) (f 0 x₀).own b->b<w.heap.size)->∃ (lb:List Value) (E:Nat->Prop),a.eval g= .func (.func gf) #[] lb.toArray/\(∀ b,E b->X.M b/\(∃ o:Obj,w.heap[b]? =some o/\o.isCells=true)/\ ¬hot X.O (cz ρ s.own) (f 0 x₀).own b/\hot X.O ρ s.own b)/\∃ enc:Nat->Array Value,
   (∀ k (hk:k<items.length),bd (aP (fun b=>hot X.O (cz ρ s.own) (f 0 x₀).own b∨E b) w (fun _=>undef)) items[k] (enc k).toList)/\sk X.P gf lb.toArray enc items.length (wc (hot (fun _=>False) (cz ρ s.own) (f 0 x₀).own) w.heap.size) w E) (hΦ:Φ 0 x₀) (hks:∀ k x,(f k x).env.all (fun e=>ks.contains e.1)=true)
  (hround:∀ k (hk:k<items.length) (x:ι),Φ k x->∃ s1 v cs,aU (dC (f k x) (ps.toList.zip items[k])) (.tmp pv)=some v/\v.cells=some cs/\cs.length=ub.w/\cs.all (fun c=> !c.isOf d)=true/\s1={env:=(d,.l (.ownP d 0))::del ((dC (f k x) (ps.toList.zip items[k])).kill d).env d,own:=(d,.box TB cs)::((dC (f k x) (ps.toList.zip items[k])).kill d).own}/\
   ∀ X':Cx,X'.P=X.P->X'.T={X.T with keep:=ks}->J X' body s1 (uh f Φ ks K k))
  (hdone:∀ x,Φ items.length x->K .normal (f items.length x)):J X (.rangeFunc g ps assign body) s K:=by
 intro a w hst;obtain⟨ρ,hf⟩:=hst.fits;have hHlt':∀ b,hot X.O (cz ρ s.own) (f 0 x₀).own b->b<w.heap.size:=fun b hb=>hf.hot_lt hst.others hst.below (kS h₀ hb);have hseq':=hseq a w ρ hst hf hHlt';obtain⟨H,hH⟩:∃ H,H=hot (fun _=>False) (cz ρ s.own) (f 0 x₀).own:=⟨_,rfl⟩;have hHX:∀ b,H b->hot X.O (cz ρ s.own) (f 0 x₀).own b:=fun b hb=>by rw[hH] at hb;exact hb.elim False.elim .inr
 rw[<- hH] at hseq';obtain⟨lb,E,hlb1,hE,enc,henc,hsq⟩:=hseq';have hEM:=fun b hb=>(hE b hb).1;have hEw:=fun b hb=>(hE b hb).2.1;have hEH:∀ b,E b-> ¬H b:=fun b hb h=>(hE b hb).2.2.1 (hHX b h);have hw0:X.w0.heap.size<=w.heap.size:=hst.below.size;have hout0:dS X a w H E (f 0 x₀) w (cz ρ s.own):=by
  have h1:Fits (XE X E) (f 0 x₀) a w (cz ρ s.own):=Fits.leO h₀ hf (fun b _ hb=>by
   (rcases hb with(hb|hb)|hb;·exact .inl hb);·exact(hE b hb).2.2.2
   ·exact kS h₀ (.inr hb))
  exact⟨h1,hst.below,fun p hp b hb=> .inr (by rw[hH];exact cV hp hb),KeepsOthers.refl _,aZ.refl _ _⟩
 refine wpIn_rangeFunc ?_;intro fn hfn;have hround0:(fw X.r).round=none:=by rw[hr];rfl
 rw[hround0];obtain⟨rec,hrec⟩:∃ rec:LoopState->Option Code->Loop,rec=fun st pe=>{state:=st,pending:=pe,fn,tmps:=a.tmps,params:=ps,assign,body,defers:=w.heap.size}:=⟨_,rfl⟩;obtain⟨W1,hW1⟩:∃ W1,(w.alloc (.deferred (some []))).alloc (.loop (rec .ready none))=W1:=⟨_,rfl⟩;have hsz1:W1.heap.size=w.heap.size+2:=by rw[<- hW1];simp
 have hL1:W1.heap[w.heap.size+1]? =some (.loop (rec .ready none)):=by
  rw[<- hW1];have:=World.alloc_heap_new (w.alloc (.deferred (some []))) (.loop (rec .ready none));rwa [World.size_alloc] at this
 have hD1:W1.heap[w.heap.size]? =some (.deferred (some [])):=by
  rw[<- hW1];exact(Below.heap_alloc _ _ _ (by simp)).trans (World.alloc_heap_new w _)
 have hb1:Below w.heap.size w W1:=by rw[<- hW1];exact((Below.refl _ w).alloc (Nat.le_refl _) _).alloc (by simp) _
 have hout1:dS X a w H E (f 0 x₀) W1 (cz ρ s.own):=by
  rw[<- hW1];exact(hout0.abide hw0 (World.grownBy_alloc _ _ none) (by simp)).abide hw0 (World.grownBy_alloc _ _ none) (by simp)
 refine⟨w.heap.size+1,[{target:= .collected w.heap.size,args:= #[]}],W1,{target:= .fn (.func gf) lb.toArray,args:= #[.func (.yield (w.heap.size+1)) #[] #[]]},W1,gf,
  #[.func (.yield (w.heap.size+1)) #[] #[]]++lb.toArray,W1,?_,?_,fun _ _=>trivial,?_,fun h=>by simp[fw,Fence.wide] at h,?_⟩
 ·rw[<- hW1,hrec];exact run_enterLoop_outer _ _ _ _ _
 ·simp only[resolve,hlb1];simp[go_sem]
 ·simp[invoke,go_sem,henters]
 have hfw:fw X.r=fw none:=by rw[hr]
 rw[hfw];have hkeptA:∀ k (act0:Act),act0.tmps=((ps.toList.zip (enc k).toList).foldl (fun(t:Array Value) (p:Nat×Value)=>t.setIfInBounds p.1 p.2) a.tmps)->∀ t∈ks,∀ pt:Value,(act0.put (some d) pt).tmps.getD t undef=a.tmps.getD t undef:=by
  intro k act0 h0 t ht pt;have h1:=List.all_eq_true.1 hk1 t ht;simp only[Bool.and_eq_true,Bool.not_eq_true',List.contains_eq_mem,decide_eq_false_iff_not,bne_iff_ne] at h1;rw[Act.getD_put_ne h1.2,h0,mg];intro hm;obtain⟨p,hp,rfl⟩:=List.mem_map.1 hm;exact h1.1 (List.of_mem_zip hp).1
 have hE1: ¬E (w.heap.size+1):=fun e=>by
  obtain⟨o,ho,_⟩:=hEw _ e;have:=(Array.getElem?_eq_some_iff.1 ho).1;omega
 have hE2: ¬E w.heap.size:=fun e=>by
  obtain⟨o,ho,_⟩:=hEw _ e;have:=(Array.getElem?_eq_some_iff.1 ho).1;omega
 refine(hsq (w.heap.size+1)
  (fun k W=>(∃ x ρ,Φ k x/\dS X a w H E (f k x) W ρ)/\W.heap[w.heap.size+1]? =some (.loop (rec .ready none))/\W.heap[w.heap.size]? =some (.deferred (some [])))
  (fun W=>∃ c,(∃ z ρ,Ew K z c/\dS X a w H E z W ρ)/\W.heap[w.heap.size+1]? =some (.loop (rec .done (some c)))/\W.heap[w.heap.size]? =some (.deferred (some [])))
  W1 hb1 ?_ ?_ ?_ ?_ ?_ ⟨⟨x₀,_,hΦ,hout1⟩,hL1,hD1⟩).mono ?_
 ·rintro k A B row ⟨⟨x,ρx,hx,ho⟩,hl,hd⟩ hg' hrow;refine⟨⟨x,ρx,hx,ho.abide hw0 hg' (fun r e=> ?_)⟩,(grownBy_keeps hg' (fun r e=>(hrow r e).2) hl rfl).trans hl,(grownBy_keeps hg' (fun r e=>(hrow r e).2) hd rfl).trans hd⟩;obtain⟨h1,o,h2,h3⟩:=hrow r e;exact⟨by omega,o,h2,Obj.not_cells_of_walk h3⟩
 ·rintro _ A B row ⟨c,⟨z,ρx,hx,ho⟩,hl,hd⟩ hg' hrow;refine⟨c,⟨z,ρx,hx,ho.abide hw0 hg' (fun r e=> ?_)⟩,(grownBy_keeps hg' (fun r e=>(hrow r e).2) hl rfl).trans hl,(grownBy_keeps hg' (fun r e=>(hrow r e).2) hd rfl).trans hd⟩;obtain⟨h1,o,h2,h3⟩:=hrow r e;exact⟨by omega,o,h2,Obj.not_cells_of_walk h3⟩
 ·rintro k A B ⟨⟨x,ρx,hx,ho⟩,hl,hd⟩ ht;exact⟨⟨x,ρx,hx,ho.turn hEM hEw hEH ht⟩,(ht.same _ hE1).trans hl,(ht.same _ hE2).trans hd⟩
 ·rintro A B ⟨c,⟨z,ρx,hx,ho⟩,hl,hd⟩ ht;exact⟨c,⟨z,ρx,hx,ho.turn hEM hEw hEH ht⟩,(ht.same _ hE1).trans hl,(ht.same _ hE2).trans hd⟩
 ·rintro k W ⟨⟨x,ρx,hx,ho⟩,hl,hd⟩ hkN;obtain⟨s1,v,cs,hv1,hv2,hv3,hv4,hs1,hJ⟩:=hround k hkN x hx;have hlt:w.heap.size+1<W.heap.size:=(Array.getElem?_eq_some_iff.1 hl).1;have hen:=henc k hkN;have hdat:=hdata _ (List.getElem_mem hkN);have hes:(enc k).size=ps.size:=by have:=hen.length;rw[hdat.1] at this;simpa using this.symm
  have hy:=run_yield (P:=X.P) (args:=enc k) hl (by rw[hrec];exact hes);rw[hrec] at hy;obtain⟨W2,hW2⟩:∃ W2,W.putObj (w.heap.size+1) (.loop {rec .ready none with state:= .busy})=W2:=⟨_,rfl⟩;have hl2:W2.heap[w.heap.size+1]? =some (.loop {rec .ready none with state:= .busy}):=by rw[<- hW2];exact World.putObj_heap_same hlt
  have hd2:W2.heap[w.heap.size]? =some (.deferred (some [])):=by rw[<- hW2];exact(World.putObj_heap_other (by omega)).trans hd
  have ho2:dS X a w H E (f k x) W2 ρx:=by
   rw[<- hW2];exact ho.abide hw0 (grownBy_putObj' _ _ _) (fun r e=>by cases e;exact⟨by omega,_,hl,rfl⟩)
  have hzip:(ps.zip (enc k)).toList=ps.toList.zip (enc k).toList:=Array.toList_zip;have hfold:(ps.zip (enc k)).foldl (fun(t:Array Value) (p:Nat×Value)=>t.setIfInBounds p.1 p.2) a.tmps=(ps.toList.zip (enc k).toList).foldl (fun(t:Array Value) (p:Nat×Value)=>t.setIfInBounds p.1 p.2) a.tmps:=by
   rw[<- Array.foldl_toList,hzip]
  obtain⟨act0,hact0⟩:∃ act0:Act,act0={tmps:=(ps.toList.zip (enc k).toList).foldl (fun(t:Array Value) (p:Nat×Value)=>t.setIfInBounds p.1 p.2) a.tmps,defers:= []}:=⟨_,rfl⟩;have hfitA:Fits (XE X E) (f k x) {a with defers:= []} W2 ρx:=⟨ho2.fits.env,ho2.fits.own,ho2.fits.io,ho2.fits.apart⟩;have hHsub:∀ b,b<w.heap.size->hot (XE X E).O ρx (f k x).own b->(hot X.O (cz ρ s.own) (f 0 x₀).own b∨E b):=by
   (rintro b hb ((h1|h1)|⟨p,hp,hpb⟩);·exact .inl (.inl h1));·exact .inr h1
   ·(rcases ho2.own p hp b hpb with h2|h2;·omega);·exact .inl (hHX b h2)
  have hvals:bd (aP (hot (XE X E).O ρx (f k x).own) W2 ρx) ((ps.toList.zip (items[k])).map Prod.snd) (enc k).toList:=by
   have e:(ps.toList.zip (items[k])).map Prod.snd=items[k]:=List.map_snd_zip (by have:=hdat.1;simp;omega);rw[e];refine hen.imp (fun y v hy h=> ?_);have hz:=List.all_eq_true.1 hdat.2 y hy;refine aT hHsub (fun b hb hc=>ho2.stays b (fun e=>hb (e.imp (hHX b) id)) hc) (fun id hid=> ?_) h;cases y<;>simp_all [LV.isZ,LV.isOf]
  have hszA:a.tmps.size=X.T.N:=hst.size;have e1:(ps.toList.zip (items[k])).map Prod.fst=ps.toList:=List.map_fst_zip (by have:=hdat.1;simp;omega);obtain⟨actP,hactP,hfitP,hszP⟩:=mf (ps.toList.zip (items[k])) (enc k).toList hfitA rfl hszA (fun p hp=>by
   have:=List.all_eq_true.1 hps p.1 (List.of_mem_zip hp).1;simpa using this) hvals
  rw[e1] at hactP;have hP0:actP=act0:=by rw[hactP,hact0]
  rw[hP0] at hfitP hszP;have hpv:aU (dC (f k x) (ps.toList.zip items[k])) (.tmp pv)=some v:=hv1;have hcells:=AV.cells_ok hv2 (bI hfitP hpv);obtain⟨Wb,hWb1,hWb2,hWb3,hWb4,hexec⟩:=GV (X:=X) (r:=some (w.heap.size+1)) (n:=0) assign hasg hTb act0 W (by rw[hszP];exact hdN) (by rw[<- hcells.length];exact hv3) (vy hcells);refine⟨fn,_,assign,body,hy,roundIn_of_wpIn (F:=fw none) trivial ?_⟩;rw[hfold,<- hact0];refine hexec ⟨_,run_beginRound ((hWb1 _ (Array.getElem?_eq_some_iff.1 hl).1).trans hl) (by rw[hrec]),?_⟩;have hW2s:W2.heap.size=W.heap.size:=by rw[<- hW2];simp[World.putObj]
  obtain⟨W2b,hW2b⟩:∃ W2b,Wb.putObj (w.heap.size+1) (.loop {rec .ready none with state:= .busy})=W2b:=⟨_,rfl⟩;rw[hW2b];have hkb:∀ k,k<W2.heap.size->W2b.heap[k]? =W2.heap[k]? :=by
   (intro k hk;rw[<- hW2b,<- hW2];by_cases e:k=w.heap.size+1;·subst e;rw[World.putObj_heap_same (by omega),World.putObj_heap_same hlt]);·rw[World.putObj_heap_other e,World.putObj_heap_other e,hWb1 k (by omega)]
  have hnb:W2b.heap[W2.heap.size]? =some (.cells ((act0.eval (.tmp pv)).cells.toList).toArray TB (0,0)):=by
   rw[<- hW2b,hW2s,World.putObj_heap_other (by omega)];exact hWb2
  have hbelb:∀ M:Nat->Prop,Bel M W2 W2b:=fun M=>by
   (have e1:W2b.os=W2.os:=by rw[<- hW2b,<- hW2];exact hWb4.1);(have e2:W2b.tape=W2.tape:=by rw[<- hW2b,<- hW2];exact hWb4.2.1);(have e3:W2b.output=W2.output:=by rw[<- hW2b,<- hW2];exact hWb4.2.2);exact⟨e1,e2,e3,by rw[<- hW2b];simp only[World.putObj,Array.size_setIfInBounds];omega,fun k hk _=>hkb k hk⟩
  have hdB:d<ioB:=Nat.lt_of_lt_of_le hdN hst.small.n;obtain⟨ρn,hρd,hρo,hfit1⟩:=Fits.freshO hfitP hdB (w':=W2b) (obj:= .box TB cs) (val:= .pointer (some ⟨W2.heap.size,0,none⟩)) hkb (fun b hb=>by simp[Blk] at hb;omega)
   (fun H' ρ' hh hs hρ hρd=>⟨W2.heap.size,(act0.eval (.tmp pv)).cells.toList,hρd,.inl (by have:=ho2.bel.size;exact this),hnb,bd.kill hh hs hρ (fun c hc=>by have:=List.all_eq_true.1 hv4 c hc;simpa using this) hcells⟩)
  have hfit1:=hfit1.put (d:=d) (by rw[hszP];exact hdN) (v:= .l (.ownP d 0)) (val:= .pointer (some ⟨W2.heap.size,0,none⟩)) ⟨W2.heap.size,hρd,rfl⟩;have hs1':s1={env:=(d,.l (.ownP d 0))::del (bz (LV.kill d) (dC (f k x) (ps.toList.zip items[k])).env) d,own:=(d,.box TB cs)::bb (LV.kill d) (del (dC (f k x) (ps.toList.zip items[k])).own d)}:=hs1;rw[hW2s] at hfit1;have hkA:∀ t∈ks,(act0.put (some d) (.pointer (some ⟨W.heap.size,0,none⟩))).tmps.getD t undef=a.tmps.getD t undef:=fun t ht=>hkeptA k act0 (by rw[hact0]) t ht _;have hst1:St {XE X E with T:={X.T with keep:=ks},I:=fun b=>∃ p∈(f k x).own,Blk (ρx p.1) b,w0:=W2,r:=some (w.heap.size+1),tm:=fun t=>(act0.put (some d) (.pointer (some ⟨W.heap.size,0,none⟩))).tmps.getD t undef} s1 (act0.put (some d) (.pointer (some ⟨W.heap.size,0,none⟩))) W2b:=by
   refine⟨?_,fun _ _=>rfl,by rw[Act.size_put];exact hszP,hbelb _,fun b hb hm=> ?_,⟨hst.small.n,?_,fun b hb=> ?_⟩,ρn,by rw[hs1'];exact hfit1.env,fun p hp=> ?_,by rw[hs1'];exact hfit1.io,by rw[hs1'];exact hfit1.apart⟩;·rw[Act.defers_put,hact0];exact Marks.nil _ _
   ·rcases hb with hb|hb
    ·rcases hm with hm|⟨p,hp,hpb⟩
     ·have h1:=hst.others b hb;have h2:b<X.w0.heap.size:=by
       by_cases h3:b<X.w0.heap.size
       ·exact h3
       ·exact absurd (.inl (by omega)) h1
      have:=ho2.bel.size;simp only at hm;omega
     ·exact hst.others b hb ((ho2.fits.own p hp).lt hpb).1
    ·obtain⟨o,ho,_⟩:=hEw b hb;have h2:=(Array.getElem?_eq_some_iff.1 ho).1;rcases hm with hm|⟨p,hp,hpb⟩;·have:=ho2.keeps.size;simp only at hm;omega
     ·(rcases ho2.own p hp b hpb with h1|h1;·omega);·exact hEH b hb h1
   ·(have h1:=hst.small.on;refine⟨Nat.le_trans h1.1 ho2.bel.size,fun b hb=> ?_⟩;rw[<- h1.2 b hb];refine ho2.bel.block b (Nat.lt_of_lt_of_le hb h1.1) ?_;rintro(hm|hm);·have:=h1.1;simp only at hb;omega);·have:=hst.small.io b hm;simp only at hb;omega
   ·(obtain⟨p,hp,hpb⟩:=hb;rcases ((ho2.fits.own p hp).lt hpb).1 with h1|h1;·exact Nat.le_trans hst.small.on.1 h1);·exact hst.small.io b h1
   ·have hq:∀ (l:List (Nat×LV)) (s:aa),(dC s l).own=s.own:=by
     intro l;induction l with
     |nil=>intro s;rfl
     |cons q l ih=>intro s;exact ih _
    rw[hs1'] at hp;have hp':p∈(d,aG.box TB cs)::bb (LV.kill d) (del (dC (f k x) (ps.toList.zip items[k])).own d):=hp;have h5:=(hfit1.own p hp').moved (H':=hot (XE X E).O ρn s1.own) (ρ':=ρn) (k:=p.1) (f:=id) (M':=Cx.M {XE X E with T:={X.T with keep:=ks},I:=fun b=>∃ p∈(f k x).own,Blk (ρx p.1) b,w0:=W2,r:=some (w.heap.size+1),tm:=fun t=>(act0.put (some d) (.pointer (some ⟨W.heap.size,0,none⟩))).tmps.getD t undef}) (fun b _ h=>by rw[hs1'] at h;exact h) (fun x v hx=>aT (fun b _ h=>by rw[hs1'] at h;exact h) (aZ.refl _ _) (fun _ _=>rfl) hx) rfl (fun b hb=>by
     (rcases List.mem_cons.1 hp' with rfl|hp2;·simp only[hρd] at hb;simp[Blk] at hb;exact .inl (by simp only;omega));·obtain⟨u,g1,_⟩:=a7 hp2;have g2:=bp.1 g1;rw[hρo _ g2.2] at hb;exact .inr ⟨(p.1,u),by rw[<- hq];exact g2.1,hb⟩)
    rw[aG.map_id] at h5;exact h5
  have hw:=hJ {XE X E with T:={X.T with keep:=ks},I:=fun b=>∃ p∈(f k x).own,Blk (ρx p.1) b,w0:=W2,r:=some (w.heap.size+1),tm:=fun t=>(act0.put (some d) (.pointer (some ⟨W.heap.size,0,none⟩))).tmps.getD t undef} rfl rfl _ _ hst1;refine AA (n:=2) (Code.wpIn_mono (fun e a3 W3 hp=> ?_) hw);obtain⟨s3,hK3,hst3⟩:=hp;have fin:∀ (jump:Option Code) (z:aa),z.env.all (fun e=>ks.contains e.1)=true->le s3 z->∃ ρz,dS X a w H E z (W3.putObj (w.heap.size+1) (.loop (rec (if jump.isNone then .ready else .done) jump))) ρz/\
    (Instr.endRound (w.heap.size+1) jump).run X.P W3= .ok (.bool jump.isNone) (W3.putObj (w.heap.size+1) (.loop (rec (if jump.isNone then .ready else .done) jump)))/\
    (W3.putObj (w.heap.size+1) (.loop (rec (if jump.isNone then .ready else .done) jump))).heap[w.heap.size+1]? =some (.loop (rec (if jump.isNone then .ready else .done) jump))/\
    (W3.putObj (w.heap.size+1) (.loop (rec (if jump.isNone then .ready else .done) jump))).heap[w.heap.size]? =some (.deferred (some []))/\
    wc H w.heap.size W (W3.putObj (w.heap.size+1) (.loop (rec (if jump.isNone then .ready else .done) jump))):=by
   intro jump z hz hle;obtain⟨ρz,h1,h2,h3⟩:=ho2.back hkA hz hle hst3;have hl3:=h2.same _ _ hl2 rfl;have hd3:=h2.same _ _ hd2 rfl;have he:=run_endRound (P:=X.P) jump hl3;rw[hrec] at he ⊢;refine⟨ρz,h1.abide hw0 (grownBy_putObj' _ _ _) (fun r e=>by cases e;exact⟨by omega,_,hl3,rfl⟩),he,World.putObj_heap_same (Array.getElem?_eq_some_iff.1 hl3).1,(World.putObj_heap_other (by omega)).trans hd3,fun b hb hnH hc=> ?_⟩;(have e1:W2.heap[b]? =W.heap[b]? :=by rw[<- hW2];exact World.putObj_heap_other (by omega));rw[World.putObj_heap_other (by omega),h3 b hb hnH (by rw[e1];exact hc),e1]
  cases e with
  |normal=>
   obtain⟨y,hle,hy'⟩:=hK3;obtain⟨ρz,h1,h2,h3,h4,h5⟩:=fin none _ (hks (k+1) y) hle;exact⟨_,_,h2,.inl ⟨rfl,⟨⟨y,ρz,hy',h1⟩,h3,h4⟩,h5⟩⟩
  |ret=>
   obtain⟨z,hle,hz,hk3⟩:=hK3;obtain⟨ρz,h1,h2,h3,h4,h5⟩:=fin (some .ret) _ hz hle;exact⟨_,_,h2,.inr ⟨rfl,.ret,⟨z,ρz,hk3,h1⟩,h3,h4⟩⟩
  |exit i=>
   obtain⟨z,hle,hz,hk3⟩:=hK3;obtain⟨ρz,h1,h2,h3,h4,h5⟩:=fin (some (.exit i)) _ hz hle;exact⟨_,_,h2,.inr ⟨rfl,.exit i,⟨z,ρz,hk3,h1⟩,h3,h4⟩⟩
  |goto t=>exact hK3.elim
  |panic ch=>exact hK3.elim
  |outgrown=>exact hK3.elim
 ·rintro e W2 ⟨⟨v,rfl⟩,(⟨⟨x,ρx,hx,ho⟩,hl,hd⟩|⟨c,⟨z,ρz,hj,ho⟩,hl,hd⟩)⟩;·have he:=run_endLoop (P:=X.P) hl (by rw[hrec];simp);rw[hrec] at he;refine⟨none,_,he,_,hdone x hx,(ho.abide hw0 (grownBy_putObj' _ _ _) (fun r e=>by cases e;exact⟨by omega,_,hl,rfl⟩)).st hst ((World.putObj_heap_other (by omega)).trans hd)⟩
  ·have he:=run_endLoop (P:=X.P) hl (by rw[hrec];simp);rw[hrec] at he;refine⟨some c,_,he,?_⟩;cases c with
   |ret=>exact wpIn_ret ⟨z,hj,(ho.abide hw0 (grownBy_putObj' _ _ _) (fun r e=>by cases e;exact⟨by omega,_,hl,rfl⟩)).st hst ((World.putObj_heap_other (by omega)).trans hd)⟩
   |exit i=>exact wpIn_exit ⟨z,hj,(ho.abide hw0 (grownBy_putObj' _ _ _) (fun r e=>by cases e;exact⟨by omega,_,hl,rfl⟩)).st hst ((World.putObj_heap_other (by omega)).trans hd)⟩
   |_=>exact hj.elim
theorem tJ{X:Cx}(hr:X.r=none){s:aa}{K:Exit->aa->Prop}{g:Operand}{ps:Array Tmp}{assign body:Code}{gf:FuncId}{caps:List CV}
  (hg:aU s g=some (.l (.fn gf caps))) (hcap:caps.all CV.pure=true) {items:List (List LV)} (hseq:lF X.P gf ps.size caps items) {d pv:Nat} {TB:TypeId} {ub:Ty} (hasg:tI assign=some (d,TB,pv)) (hTb:cQ X.P TB ub) (hdN:d<X.T.N) (ks:List Nat)
  (hk1:ks.all (fun t=> !ps.toList.contains t&&t !=d)=true) (hps:ps.toList.all (fun t=>decide (t<X.T.N))=true)
  {ι:Type} (f:Nat->ι->aa) (Φ:Nat->ι->Prop) (x₀:ι) (h₀:le s (f 0 x₀)) (hΦ:Φ 0 x₀) (hks:∀ k x,(f k x).env.all (fun e=>ks.contains e.1)=true)
  (hround:∀ k (hk:k<items.length) (x:ι),Φ k x->∃ s1 v cs,aU (dC (f k x) (ps.toList.zip items[k])) (.tmp pv)=some v/\v.cells=some cs/\cs.length=ub.w/\cs.all (fun c=> !c.isOf d)=true/\s1={env:=(d,.l (.ownP d 0))::del ((dC (f k x) (ps.toList.zip items[k])).kill d).env d,own:=(d,.box TB cs)::((dC (f k x) (ps.toList.zip items[k])).kill d).own}/\
   ∀ X':Cx,X'.P=X.P->X'.T={X.T with keep:=ks}->J X' body s1 (uh f Φ ks K k))
  (hdone:∀ x,Φ items.length x->K .normal (f items.length x)):J X (.rangeFunc g ps assign body) s K:=
 DA hr hseq.enters hseq.data hasg hTb hdN ks hk1 hps f Φ x₀ h₀ (fun a w ρ _ hf hlt=>by
  obtain⟨lb,hlb1,hlb2⟩:aP (hot X.O ρ s.own) w ρ (.fn gf caps) (a.eval g):=bI hf hg;obtain⟨enc,h1,h2⟩:=hseq.seq _ w lb hlt (gS hcap (fun b hb=>kS h₀ hb) hlb2);exact⟨lb,fun _=>False,hlb1,fun b hb=>hb.elim,enc,fun k hk=>(h1 k hk).imp (fun x v hx h=>aT (H:=hot X.O (cz ρ s.own) (f 0 x₀).own) (fun b _ hb=>hb.elim id (fun e=>e.elim)) (aZ.refl _ _) (fun _ _=>rfl) h),h2.kp (fun A B hk b hb hn hc=>hk b hb (fun e=>hn (e.elim False.elim .inr)) hc)⟩) hΦ hks hround hdone
end Go.Cm
end