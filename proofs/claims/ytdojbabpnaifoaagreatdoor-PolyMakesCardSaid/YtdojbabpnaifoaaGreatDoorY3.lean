/- Merged by a program out of several texts. -/
import Derived.Test.YtdojbabpnaifoaaGreatDoorY2
import Derived.Lib.ItoaNum
import Derived.Shelf.Strings.BuilderK
import Derived.Shelf.Strconv.Itoa3
import Derived.Shelf.Pu.ParseUintPublic10
import Derived.Shelf.Strings.Repeat
import Derived.Test.YtdojbabpnaifoaaGreatDoorProg
import Derived.WalkKit
import Derived.BigCall
import Derived.Lib.Hide
import Derived.Shelf.Abstract
import Derived.RangeFuncBox
import Derived.OwnWalkIn
import Derived.TacticsInMore
import Derived.LoopNIn
import Derived.LoopIn
import Derived.Lib.IndexMore
set_option linter.all false
set_option linter.unusedSimpArgs false
set_option linter.unusedVariables false
set_option maxRecDepth 100000
section
namespace Go.Cm
def dec(x:Bool×List Int):Int:=if x.1=true then-valL x.2 else valL x.2
def enc(n:Int):Bool×List Int:=(decide (n<0),limbs n.natAbs)
def WOK(x:Bool×List Int):Prop:=Cano x.2/\(x.2=[]->x.1=false)
theorem valL_pos{l:List Int}(h:Cano l):0<valL l↔l≠[]:=by
 constructor;·rintro h1 rfl;simp[valL] at h1
 ·intro hne;have h1:=valL_ge h hne;have h2:0<LB^(l.length-1):=Int.pow_pos (by decide);omega
theorem bX(n:Int):dec (enc n)=n:=by
 unfold dec enc;simp only[decide_eq_true_eq,limbs_val];split<;>omega
theorem enc_ok(n:Int):WOK (enc n):=by
 refine⟨limbs_can _,fun h=>?_⟩;have:=limbs_nil.1 h;simp[enc];omega
theorem WOK.enc{x:Bool×List Int}(h:WOK x):enc (dec x)=x:=by
 obtain⟨s,l⟩:=x;obtain⟨h1,h2⟩:=h;simp only at h1 h2;have h3:=valL_nonneg h1.1;have h4:=valL_pos h1;unfold Cm.enc dec;cases s with
 |true=>
  have hne:l≠[]:=fun e=>by have:=h2 e;cases this
  have:=h4.2 hne;simp only[if_true];have e1:decide (-valL l<0)=true:=by simp;omega
  rw[e1,<- h1.limbs (n:=(-valL l).natAbs) (by omega)]
 |false=>
  simp only[Bool.false_eq_true,if_false];have e1:decide (valL l<0)=false:=by simp;omega
  rw[e1,<- h1.limbs (n:=(valL l).natAbs) (by omega)]
theorem WOK.eq{x y:Bool×List Int}(hx:WOK x)(hy:WOK y)(h:dec x=dec y):x=y:=by rw[<- hx.enc,<- hy.enc,h]
theorem L9{s:Bool}{l:List Int}(h:Lim l):WOK (s&&decide (0<valL l),limbs (valL l).toNat)/\dec (s&&decide (0<valL l),limbs (valL l).toNat)=dec (s,l):=by
 have h1:=valL_nonneg h;refine⟨⟨limbs_can _,fun e=>?_⟩,?_⟩
 ·have:=limbs_nil.1 e;have:¬0<valL l:=by omega
  simp[this]
 ·unfold dec;simp only[limbs_val];cases s<;>simp;·omega
  ·split<;>omega
theorem wj{s:Bool}{l:List Int}(h:Lim l):(s&&decide (0<valL l),limbs (valL l).toNat)=enc (dec (s,l)):=by
 obtain⟨h1,h2⟩:=L9 (s:=s) h;rw[<- h2,h1.enc]
theorem last_eq{l:List Int}(h:0<l.length):nth (.int .u32) l ((l.length:Int)-1)=l.getLastD 1:=by
 have hne:l≠[]:=by intro e;subst e;simp at h
 have e:((l.length:Int)-1).toNat=l.length-1:=by omega
 show l.getD _ _=_;rw[e,List.getD_eq_getElem?_getD,List.getElem?_eq_getElem (by omega),List.getLastD_eq_getLast?,List.getLast?_eq_getElem?,List.getElem?_eq_getElem (by omega)];rfl
theorem drop_zero_val{l:List Int}(hl:Lim l)(h:0<l.length)(h0:l.getLastD 1=0):valL l.dropLast=valL l/\Lim l.dropLast:=by
 have hne:l≠[]:=by intro e;subst e;simp at h
 have hd:=List.dropLast_concat_getLast hne;have hlast:l.getLastD 1=l.getLast hne:=by rw[List.getLastD_eq_getLast?,List.getLast?_eq_some_getLast hne];rfl
 refine⟨?_,fun x hx=>hl x (List.dropLast_subset l hx)⟩;conv=>rhs;rw[<- hd]
 rw[valL_append,valL_one,<- hlast,h0];omega
theorem take_last{l:List Int}(h:0<l.length):List.take (IntKind.i64.wrap ((l.length:Int)-1)).toNat l=l.dropLast∨ ¬(l.length:Int)<9223372036854775808:=by
 by_cases hb:(l.length:Int)<9223372036854775808
 ·left;rw[wo];have e:((l.length:Int)-1).toNat=l.length-1:=by omega
  rw[e,List.dropLast_eq_take]
 ·exact .inr hb
theorem IL{s:Bool}{m z:List Int}(g1:Lim z)(g2:valL z=valL m)(h:0<z.length->z.getLastD 1≠0):(s&&decide ((0:Int)<(z.length:Int)),z)=enc (dec (s,m)):=by
 have hz:Cano z:=⟨g1,by
  by_cases e:0<z.length
  ·exact h e
  ·have:z=[]:=List.eq_nil_of_length_eq_zero (by omega);subst this;simp⟩
 have e:dec (s,m)=dec (s,z):=by simp[dec,g2]
 have h0:=valL_nonneg g1;have h1:decide ((0:Int)<(z.length:Int))=decide (0<valL z):=by
  have:=valL_pos hz;by_cases hl:z=[];·subst hl;simp[valL]
  ·have h2:0<z.length:=List.length_pos_iff.2 hl;have h3:=this.2 hl;simp[h2,h3]
 have h2:limbs (valL z).toNat=z:=(hz.limbs (by omega)).symm;rw[e,<- wj g1,h1,h2]
theorem whole_round{m z:List Int}(g1:Lim z)(g2:valL z=valL m)(g3:z.length<=m.length)(hz:(0:Int)<(z.length:Int))(hb:z.length<1000000000000)(h0:nth (.int .u32) z (IntKind.i64.wrap ((z.length:Int)-1))=0):
  Lim (List.drop (Int.toNat 0) (List.take (IntKind.i64.wrap ((z.length:Int)-1)).toNat z))/\valL (List.drop (Int.toNat 0) (List.take (IntKind.i64.wrap ((z.length:Int)-1)).toNat z))=valL m/\
   (List.drop (Int.toNat 0) (List.take (IntKind.i64.wrap ((z.length:Int)-1)).toNat z)).length<=m.length/\(List.drop (Int.toNat 0) (List.take (IntKind.i64.wrap ((z.length:Int)-1)).toNat z)).length<z.length:=by
 have hz':0<z.length:=by omega
 have e:=(take_last hz').resolve_right (by omega);rw[wo,last_eq hz'] at h0;obtain⟨d1,d2⟩:=drop_zero_val g1 hz' h0;rw[show Int.toNat 0=0 from rfl,List.drop_zero,e];exact⟨d2,by rw[d1,g2],by simp;omega,by simp;omega⟩
theorem Ff(s:Bool)(l:List Int):dec (!s,l)= -dec (s,l):=by
 cases s<;>simp[dec]
theorem gC{x:Bool×List Int}(h:WOK x):((x.2.length:Int)=0↔dec x=0)/\(¬(x.2.length:Int)=0->(x.1=true->dec x<0)/\(x.1=false->0<dec x)):=by
 obtain⟨h1,h2⟩:=h;have h3:=valL_pos h1;have h4:=valL_nonneg h1.1;have h5:(x.2.length:Int)=0↔x.2=[]:=by
  constructor;·intro h;exact List.eq_nil_of_length_eq_zero (by omega)
  ·intro h;rw[h];rfl
 rw[h5];refine⟨⟨fun e=>?_,fun e=>?_⟩,fun hne=>?_⟩;·simp[dec,e,valL]
 ·by_cases hne:x.2=[]
  ·exact hne
  ·have:=h3.2 hne;unfold dec at e;split at e<;>omega
 ·have:=h3.2 hne;refine⟨fun e=>?_,fun e=>?_⟩;·rw[dec,if_pos e];omega
  ·rw[dec,if_neg (by simp[e])];exact this
def bg(a b:Int):Int:=if a<b then-1 else if b<a then 1 else 0
theorem o5{a b:Int}:bg a b=0↔a=b:=by
 unfold bg;by_cases h1:a<b;·rw[if_pos h1];exact⟨fun h=>(by cases h),fun h=>by omega⟩
 ·rw[if_neg h1];by_cases h2:b<a;·rw[if_pos h2];exact⟨fun h=>(by cases h),fun h=>by omega⟩
  ·rw[if_neg h2];exact⟨fun _=>by omega,fun _=>rfl⟩
theorem cmp_len{a b:List Int}(ha:Cano a)(hb:Cano b)(h:a.length<b.length):valL a<valL b:=by
 have hne:b≠[]:=by intro e;subst e;simp at h
 have h1:=valL_lt ha.1;have h2:=valL_ge hb hne;have h3:=pow_mono (show a.length<=b.length-1 by omega);omega
theorem cmp_at{a b:List Int}(ha:Lim a)(hb:Lim b)(hl:a.length=b.length){k:Nat}(hk:k<a.length)(h:a.drop (k+1)=b.drop (k+1))(hlt:a.getD k 0<b.getD k 0):valL a<valL b:=by
 have e1:valL a=valL (a.take (k+1))+LB^(k+1)*valL (a.drop (k+1)):=by
  conv=>lhs;rw[<- List.take_append_drop (k+1) a]
  rw[valL_append,List.length_take,Nat.min_eq_left (by omega)]
 have e2:valL b=valL (b.take (k+1))+LB^(k+1)*valL (b.drop (k+1)):=by
  conv=>lhs;rw[<- List.take_append_drop (k+1) b]
  rw[valL_append,List.length_take,Nat.min_eq_left (by omega)]
 rw[e1,e2,h,take_val,take_val];have h1:=valL_lt (l:=a.take k) (fun x hx=>ha x (List.mem_of_mem_take hx));have h2:=valL_nonneg (l:=b.take k) (fun x hx=>hb x (List.mem_of_mem_take hx));rw[List.length_take,Nat.min_eq_left (by omega)] at h1;have h3:LB^k*(a.getD k 0+1)<=LB^k*b.getD k 0:=Int.mul_le_mul_of_nonneg_left (by omega) (Int.pow_nonneg (by decide));rw[Int.mul_add,Int.mul_one] at h3;omega
def padL:Nat->Nat->List Int
 |_,0=>[]
 |v,k+1=>((v%1000000000:Nat):Int)::padL (v/1000000000) k
theorem padL_len:∀(v k:Nat),(padL v k).length=k
 |_,0=>rfl
 |v,k+1=>by simp[padL,padL_len]
theorem padL_lim:∀(v k:Nat),Lim (padL v k)
 |_,0=>fun x hx=>by simp[padL] at hx
 |v,k+1=>fun x hx=>by
  rcases List.mem_cons.1 hx with rfl|hx;·unfold LB;omega
  ·exact padL_lim _ k x hx
theorem padL_val:∀(v k:Nat),(v:Int)<LB^k->valL (padL v k)=v
 |v,0,h=>by
  have:v=0:=by simp at h;omega
  subst this;rfl
 |v,k+1,h=>by
  have:((v/1000000000:Nat):Int)<LB^k:=by
   rw[Int.pow_succ] at h;(have e:((v/1000000000:Nat):Int)=(v:Int)/LB:=by unfold LB;omega);rw[e];exact Int.ediv_lt_of_lt_mul (by decide) h
  rw[padL,valL,padL_val _ k this];unfold LB;omega
theorem Lim.pad{l:List Int}(h:Lim l){v k:Nat}(hl:l.length=k)(hv:valL l=v):l=padL v k:=
 valL_inj h (padL_lim v k) (by rw[hl,padL_len]) (by rw[hv,padL_val];rw[<- hv,<- hl];exact valL_lt h)
theorem len_le{a b:List Int}(ha:Cano a)(hb:Cano b)(h:valL a<=valL b):a.length<=b.length:=by
 by_cases hl:b.length<a.length
 ·have:=cmp_len hb ha hl;omega
 ·omega
theorem minus_round{m o out:List Int}{k:Nat}{b n b':Int}(g2:out.length=k)(g3:Lim out)(g6:valL out+valL (o.take k)=valL (m.take k)+LB^k*b)(hn:0<=n)(hn2:n<LB)(he:n=m.getD k 0-b-o.getD k 0+LB*b'):
  Lim (out++ [n])/\valL (out++ [n])+valL (o.take (k+1))=valL (m.take (k+1))+LB^(k+1)*b':=by
 refine⟨g3.append (Lim.one hn hn2),?_⟩;rw[valL_append,valL_one,g2,take_val,take_val,Int.pow_succ];have h1:LB^k*n=LB^k*m.getD k 0-LB^k*b-LB^k*o.getD k 0+LB^k*LB*b':=by
  rw[he,Int.mul_add,Int.mul_sub,Int.mul_sub,Int.mul_assoc]
 omega
theorem minus_end{m o out:List Int}{b:Int}(hm:Cano m)(ho:Cano o)(hle:valL o<=valL m)(g2:out.length=m.length)(g3:Lim out)(g4:0<=b)(g6:valL out+valL (o.take m.length)=valL m+LB^m.length*b):out=padL (valL m-valL o).toNat m.length:=by
 rw[List.take_of_length_le (len_le ho hm hle)] at g6;have h1:=valL_lt g3;rw[g2] at h1;have h2:0<LB^m.length:=Int.pow_pos (by decide);have hb:b=0:=by
  by_cases hb:b=0
  ·exact hb
  ·have:LB^m.length*1<=LB^m.length*b:=Int.mul_le_mul_of_nonneg_left (by omega) (by omega);omega
 subst hb;exact g3.pad g2 (by omega)
theorem plus_len{m o:List Int}(hm:Cano m)(ho:Cano o):(limbs (valL m+valL o).toNat).length<=m.length+o.length:=by
 have h1:=valL_lt hm.1;have h2:=valL_lt ho.1;have h3:=valL_nonneg hm.1;have h4:=valL_nonneg ho.1;have hpos:∀k,1<=LB^k:=fun k=>(Int.pow_pos (show (0:Int)<LB by decide):0<LB^k);by_cases e1:m=[];·subst e1;rw[show valL ([]:List Int)=0 from rfl,Int.zero_add];exact limbs_len (by rw[Int.toNat_of_nonneg h4];simpa using h2)
 ·by_cases e2:o=[]
  ·subst e2;rw[show valL ([]:List Int)=0 from rfl,Int.add_zero];exact limbs_len (by rw[Int.toNat_of_nonneg h3];simpa using h1)
  ·have l1:=List.length_pos_iff.2 e1;have l2:=List.length_pos_iff.2 e2;refine limbs_len ?_;rw[Int.toNat_of_nonneg (by omega)];have p1:=pow_mono (show m.length<=m.length+o.length-1 by omega);have p2:=pow_mono (show o.length<=m.length+o.length-1 by omega);have p3:LB^(m.length+o.length)=LB^(m.length+o.length-1)*LB:=by
    rw[<- Int.pow_succ];congr 1;omega
   have p4:=hpos (m.length+o.length-1);have p5:LB^(m.length+o.length-1)*2<=LB^(m.length+o.length-1)*LB:=Int.mul_le_mul_of_nonneg_left (by decide) (by omega);omega
theorem tH(s:Bool)(l:List Int):dec (s,l)=if s=true then-valL l else valL l:=rfl
theorem add_same{x y:Bool×List Int}(hx:WOK x)(hy:WOK y)(h:x.1=y.1):enc (dec (x.1,limbs (valL x.2+valL y.2).toNat))=enc (dec x+dec y):=by
 have h1:=valL_nonneg hx.1.1;have h2:=valL_nonneg hy.1.1;congr 1;rw[tH,limbs_val,Int.toNat_of_nonneg (by omega)];unfold dec;rw[<- h];split<;>omega
theorem zX{x y:Bool×List Int}(h:¬x.1=y.1){v:List Int}(hv:valL v=valL x.2-valL y.2):enc (dec (x.1,v))=enc (dec x+dec y):=by
 congr 1;rw[tH,hv];unfold dec;cases h1:x.1<;>cases h2:y.1<;>simp[h1,h2] at h ⊢<;>omega
theorem minus_val{m o:List Int}(hm:Cano m)(ho:Cano o)(hle:valL o<=valL m):valL (padL (valL m-valL o).toNat m.length)=valL m-valL o:=by
 have h1:=valL_lt hm.1;have h2:=valL_nonneg ho.1;rw[padL_val _ _ (by rw[Int.toNat_of_nonneg (by omega)];omega),Int.toNat_of_nonneg (by omega)]
theorem Qp{x:Bool×List Int}(h:WOK x):(enc (-dec x)).2.length=x.2.length:=by
 have:enc (-dec x)=((!x.1)&&decide (0<valL x.2),x.2):=by
  have h1:=wj (s:= !x.1) h.1.1;rw[Ff] at h1;rw[show dec x=dec (x.1,x.2) from rfl,<- h1];congr 1;exact(h.1.limbs (by have:=valL_nonneg h.1.1;omega)).symm
 rw[this]
theorem o6{a b:Int}:bg a b<0↔a<b:=by
 unfold bg;by_cases h1:a<b;·rw[if_pos h1];exact⟨fun _=>h1,fun _=>by omega⟩
 ·rw[if_neg h1];by_cases h2:b<a;·rw[if_pos h2];exact⟨fun h=>by omega,fun h=>by omega⟩
  ·rw[if_neg h2];exact⟨fun h=>by omega,fun h=>by omega⟩
theorem cmp_lens{m o:List Int}(hm:Cano m)(ho:Cano o)(h:bg (m.length:Int) (o.length:Int)≠0):bg (m.length:Int) (o.length:Int)=bg (valL m) (valL o):=by
 unfold bg at h ⊢;by_cases h1:m.length<o.length;·have:=cmp_len hm ho h1;rw[if_pos (by omega),if_pos this]
 ·by_cases h2:o.length<m.length
  ·have:=cmp_len ho hm h2;rw[if_neg (by omega),if_pos (by omega),if_neg (by omega),if_pos this]
  ·rw[if_neg (by omega),if_neg (by omega)] at h;exact absurd rfl h
theorem cmp_place{m o:List Int}(hm:Cano m)(ho:Cano o)(hl:m.length=o.length){k:Nat}(hk:k<m.length)(hd:m.drop (k+1)=o.drop (k+1))(h:bg (m.getD k 0) (o.getD k 0)≠0):bg (m.getD k 0) (o.getD k 0)=bg (valL m) (valL o):=by
 unfold bg at h ⊢;by_cases h1:m.getD k 0<o.getD k 0;·have:=cmp_at hm.1 ho.1 hl hk hd h1;rw[if_pos h1,if_pos this]
 ·by_cases h2:o.getD k 0<m.getD k 0
  ·have:=cmp_at ho.1 hm.1 hl.symm (by omega) hd.symm h2;rw[if_neg h1,if_pos h2,if_neg (by omega),if_pos this]
  ·rw[if_neg h1,if_neg h2] at h;exact absurd rfl h
theorem drop_step{m o:List Int}{k:Nat}(hl:m.length=o.length)(hk:k<m.length)(hd:m.drop (k+1)=o.drop (k+1))(h:m.getD k 0=o.getD k 0):m.drop k=o.drop k:=by
 rw[List.drop_eq_getElem_cons hk,List.drop_eq_getElem_cons (show k<o.length by omega),hd];rw[List.getD_eq_getElem?_getD,List.getD_eq_getElem?_getD,List.getElem?_eq_getElem hk,List.getElem?_eq_getElem (show k<o.length by omega)] at h;simp at h;rw[h]
theorem set_val:∀{l:List Int} {j:Nat} {v:Int},j<l.length->valL (l.set j v)=valL l+LB^j*(v-l.getD j 0)
 |x::r,0,v,_=>by simp[valL];omega
 |x::r,j+1,v,h=>by
  have ih:=set_val (l:=r) (j:=j) (v:=v) (by simpa using h);simp only[List.set_cons_succ,valL,ih,List.getD_cons_succ,Int.pow_succ];rw[Int.mul_add,Int.mul_comm (LB^j) LB,Int.mul_assoc];omega
 | [],_,_,h=>by simp at h
theorem set_lim{l:List Int}{j:Nat}{v:Int}(h:Lim l)(h0:0<=v)(h1:v<LB):Lim (l.set j v):=fun x hx=>by
 rcases List.mem_or_eq_of_mem_set hx with h2|rfl;·exact h x h2
 ·exact⟨h0,h1⟩
theorem getD_set_ne{l:List Int}{j k:Nat}{v:Int}(h:j≠k):(l.set j v).getD k 0=l.getD k 0:=by
 rw[List.getD_eq_getElem?_getD,List.getD_eq_getElem?_getD,List.getElem?_set_ne h]
theorem mul_bound{x y a c:Int}(hx:0<=x/\x<LB)(hy:0<=y/\y<LB)(ha:0<=a/\a<LB)(hc:0<=c/\c<LB):0<=x*y/\x*y+a+c<LB*LB/\x*y<=LB*LB:=by
 have h1:0<=x*y:=Int.mul_nonneg hx.1 hy.1;have h2:x*y<=(LB-1)*(LB-1):=Int.mul_le_mul (by omega) (by omega) hy.1 (by decide);have hB:LB=1000000000:=rfl;have h3:(LB-1)*(LB-1)=999999998000000001:=rfl;have h4:LB*LB=1000000000000000000:=rfl;omega
theorem mul_step{x y out:List Int}{i k:Nat}{c p n:Int}(hx:Lim x)(hy:Lim y)(h1:out.length=x.length+y.length)(h2:Lim out)(h3:0<=c)(h4:c<LB)(hi:i<x.length)(hk:k<y.length)
  (h6:valL out+LB^(i+k)*c=p+LB^i*(x.getD i 0*valL (y.take k))) (hz:∀j,i+y.length<=j->out.getD j 0=0) (hn:n=x.getD i 0*y.getD k 0+out.getD (i+k) 0+c):
  0<=n/\n<LB*LB/\(out.set (i+k) (n%LB)).length=x.length+y.length/\Lim (out.set (i+k) (n%LB))/\0<=n/LB/\n/LB<LB/\
   valL (out.set (i+k) (n%LB))+LB^(i+(k+1))*(n/LB)=p+LB^i*(x.getD i 0*valL (y.take (k+1)))/\∀j,i+y.length<=j->(out.set (i+k) (n%LB)).getD j 0=0:=by
 have hb:=mul_bound (hx.getD i) (hy.getD k) (h2.getD (i+k)) ⟨h3,h4⟩;have ha:=h2.getD (i+k);have hB:LB=1000000000:=rfl;have hn0:0<=n:=by omega
 have hn1:n<LB*LB:=by omega
 have hm:0<=n%LB/\n%LB<LB:=⟨Int.emod_nonneg _ (by decide),Int.emod_lt_of_pos _ (by decide)⟩;refine⟨hn0,hn1,by simp[h1],set_lim h2 hm.1 hm.2,Int.ediv_nonneg hn0 (by decide),Int.ediv_lt_of_lt_mul (by decide) hn1,?_,fun j hj=>?_⟩
 ·rw[set_val (by omega),take_val,<- Nat.add_assoc,Int.pow_succ];have e1:n%LB+LB*(n/LB)=n:=Int.emod_add_mul_ediv n LB;have e2:LB^(i+k)*(n%LB-out.getD (i+k) 0)+LB^(i+k)*LB*(n/LB)=LB^(i+k)*(n-out.getD (i+k) 0):=by
   rw[Int.mul_assoc,<- Int.mul_add];congr 1;omega
  have e3:n-out.getD (i+k) 0=x.getD i 0*y.getD k 0+c:=by omega
  have e4:LB^(i+k)=LB^i*LB^k:=Int.pow_add ..;have e5:LB^i*(x.getD i 0*(valL (y.take k)+LB^k*y.getD k 0))=LB^i*(x.getD i 0*valL (y.take k))+LB^(i+k)*(x.getD i 0*y.getD k 0):=by
   rw[Int.mul_add,Int.mul_add,e4];congr 1;rw[Int.mul_assoc,Int.mul_left_comm (x.getD i 0)]
  rw[e3,Int.mul_add] at e2;omega
 ·rw[getD_set_ne (by omega)];exact hz j hj
theorem mul_row{x y out:List Int}{i:Nat}{c p:Int}(h1:out.length=x.length+y.length)(h2:Lim out)(h3:0<=c)(h4:c<LB)(hi:i<x.length)(hp:p=valL (x.take i)*valL y)
  (h6:valL out+LB^(i+y.length)*c=p+LB^i*(x.getD i 0*valL y)) (hz:∀j,i+y.length<=j->out.getD j 0=0):
  (out.set (i+y.length) c).length=x.length+y.length/\Lim (out.set (i+y.length) c)/\valL (out.set (i+y.length) c)=valL (x.take (i+1))*valL y/\∀j,i+1+y.length<=j->(out.set (i+y.length) c).getD j 0=0:=by
 refine⟨by simp[h1],set_lim h2 h3 h4,?_,fun j hj=>?_⟩;·rw[set_val (by omega),hz _ (Nat.le_refl _),take_val,Int.add_mul,Int.sub_zero,h6,hp,Int.mul_assoc]
 ·rw[getD_set_ne (by omega)];exact hz j (by omega)
theorem replicate_zero(n:Nat):Lim (List.replicate n 0)/\valL (List.replicate n 0)=0/\∀j,(List.replicate n (0:Int)).getD j 0=0:=by
 refine⟨fun x hx=>?_,?_,fun j=>?_⟩;·have:=List.eq_of_mem_replicate hx;subst this;exact⟨by decide,by decide⟩
 ·induction n with
  |zero=>rfl
  |succ n ih=>rw[List.replicate_succ,valL,ih];rfl
 ·rw[List.getD_eq_getElem?_getD,List.getElem?_replicate];split<;>rfl
theorem Qq{x y:Bool×List Int}{out:List Int}(h:valL out=valL x.2*valL y.2):dec (x.1 !=y.1,out)=dec x*dec y:=by
 rw[tH,h];unfold dec;cases x.1<;>cases y.1<;>simp[Int.neg_mul,Int.mul_neg]
theorem Us{x y a c:Int}(hx:0<=x/\x<LB)(hy:0<=y/\y<LB)(ha:0<=a/\a<LB)(hc:0<=c/\c<LB):
  IntKind.u64.wrap (IntKind.u64.wrap (IntKind.u64.wrap (IntKind.u64.wrap x*IntKind.u64.wrap y)+IntKind.u64.wrap a)+c)=x*y+a+c:=by
 have hb:=mul_bound hx hy ha hc;have hB:LB=1000000000:=rfl;have h4:LB*LB=1000000000000000000:=rfl;rw[w64 hx.1 (by omega),w64 hy.1 (by omega),w64 ha.1 (by omega),w64 hb.1 (by omega),w64 (x:=x*y+a) (by omega) (by omega),w64 (by omega) (by omega)]
theorem qs{n:Int}(h0:0<=n)(h1:n<LB*LB):IntKind.u64.wrap n=n/\IntKind.u32.wrap (n.tmod 1000000000)=n%LB/\IntKind.u64.wrap (n.tdiv 1000000000)=n/LB:=by
 have hB:LB=1000000000:=rfl;obtain⟨e1,e2⟩:=tdiv_nn h0;rw[e1,e2];have h2:0<=n%LB/\n%LB<LB:=⟨Int.emod_nonneg _ (by decide),Int.emod_lt_of_pos _ (by decide)⟩;have h3:0<=n/LB:=Int.ediv_nonneg h0 (by decide);have h4:n/LB<LB:=Int.ediv_lt_of_lt_mul (by decide) h1;rw[hB] at h1;exact⟨w64 h0 (by omega),w32 h2.1 (by omega),w64 h3 (by omega)⟩
end Go.Cm
end
section
namespace Go.Cm
open Go.Lib
def fT(s:Bool)(xs:List Int):Nat->List UInt8
 |0=>if s=true then [45] else []
 |k+1=>fT s xs k++((if k=0 then [] else List.replicate (9-(itoa (xs.getD (xs.length-1-k) 0)).length) 48)++itoa (xs.getD (xs.length-1-k) 0))
theorem lj{u k:Nat}(h:u<10^k)(hk:0<k):(decDigits u).length<=k:=by
 induction k generalizing u with
 |zero=>omega
 |succ k ih=>
  rw[decDigits];split;·simp
  ·(rename_i h10;by_cases h0:k=0;·subst h0;omega);·have:=ih (u:=u/10) (by rw[Nat.pow_succ] at h;omega) (by omega);simp;omega
theorem rV{x:Int}(h0:0<=x)(h1:x<LB):1<=(itoa x).length/\(itoa x).length<=9:=by
 have hB:LB=1000000000:=rfl;unfold itoa;rw[if_neg (by omega)];refine⟨?_,lj (k:=9) (by omega) (by omega)⟩;rw[decDigits];split<;>simp
theorem qt{s:Bool}{xs:List Int}(h:Lim xs):∀k,(fT s xs k).length<=1+9*k
 |0=>by unfold fT;split<;>simp
 |k+1=>by
  have:=qt (s:=s) h k;have h2:=h.getD (xs.length-1-k);have h3:=rV h2.1 h2.2;rw[fT];split<;>simp only[List.length_append,List.length_replicate,List.length_nil]<;>omega
end Go.Cm
end
section
namespace Go.Proofs
open Go.Shelf
def Tryz.lays166_ren:Go.Shelf.Ren:=⟨fun|166=>98|240=>140|276=>174|n=>n,fun|37=>47|70=>126|72=>128|75=>131|80=>135|164=>193|n=>n,fun|n=>n⟩
theorem Tryz.lays166:Go.Proofs.Lays.n166 Tryz.prog Tryz.lays166_ren:={
 mixed:=by kernel_rfl
 f166:=Tryz.func98.trans (congrArg some (by kernel_rfl))
 f240:=Tryz.func140.trans (congrArg some (by kernel_rfl))
 f276:=Tryz.func174.trans (congrArg some (by kernel_rfl))
 t0:=Tryz.underlying0
 a0:=Tryz.isAgg0
 z0:=Tryz.sizeOf0
 v0:=Tryz.zeroValue0
 t3:=Tryz.underlying3
 a3:=Tryz.isAgg3
 z3:=Tryz.sizeOf3
 v3:=Tryz.zeroValue3
 t4:=Tryz.underlying4
 a4:=Tryz.isAgg4
 z4:=Tryz.sizeOf4
 v4:=Tryz.zeroValue4
 t9:=Tryz.underlying9
 a9:=Tryz.isAgg9
 z9:=Tryz.sizeOf9
 v9:=Tryz.zeroValue9
 t20:=Tryz.underlying20
 a20:=Tryz.isAgg20
 z20:=Tryz.sizeOf20
 v20:=Tryz.zeroValue20
 t37:=Tryz.underlying47
 a37:=Tryz.isAgg47
 z37:=Tryz.sizeOf47
 v37:=Tryz.zeroValue47
 t70:=Tryz.underlying126
 a70:=Tryz.isAgg126
 z70:=Tryz.sizeOf126
 v70:=Tryz.zeroValue126
 t72:=Tryz.underlying128
 a72:=Tryz.isAgg128
 z72:=Tryz.sizeOf128
 v72:=Tryz.zeroValue128
 t75:=Tryz.underlying131
 a75:=Tryz.isAgg131
 z75:=Tryz.sizeOf131
 v75:=Tryz.zeroValue131
 t164:=Tryz.underlying193
 a164:=Tryz.isAgg193
 z164:=Tryz.sizeOf193
 v164:=Tryz.zeroValue193}
theorem Tryz.Builder_Extra_166:Builder.Extra Tryz.prog Tryz.lays166_ren:={
 sizeBuilder:=by kernel_rfl
 liesBuilder:=by kernel_rfl
 t5:=Tryz.underlying5
 a5:=Tryz.isAgg5
 z5:=Tryz.sizeOf5
 v5:=Tryz.zeroValue5
 infoByte:=by kernel_rfl
 cellsByte:=by kernel_rfl
 sizeByte:=by kernel_rfl
 neB5:=by decide}
def Tryz.lays167_ren:Go.Shelf.Ren:=⟨fun|167=>176|240=>140|276=>174|n=>n,fun|37=>47|70=>126|72=>128|75=>131|80=>135|164=>193|n=>n,fun|n=>n⟩
theorem Tryz.lays167:Go.Proofs.Lays.n167 Tryz.prog Tryz.lays167_ren:={
 mixed:=by kernel_rfl
 f167:=Tryz.func176.trans (congrArg some (by kernel_rfl))
 f240:=Tryz.func140.trans (congrArg some (by kernel_rfl))
 f276:=Tryz.func174.trans (congrArg some (by kernel_rfl))
 t0:=Tryz.underlying0
 a0:=Tryz.isAgg0
 z0:=Tryz.sizeOf0
 v0:=Tryz.zeroValue0
 t4:=Tryz.underlying4
 a4:=Tryz.isAgg4
 z4:=Tryz.sizeOf4
 v4:=Tryz.zeroValue4
 t5:=Tryz.underlying5
 a5:=Tryz.isAgg5
 z5:=Tryz.sizeOf5
 v5:=Tryz.zeroValue5
 t9:=Tryz.underlying9
 a9:=Tryz.isAgg9
 z9:=Tryz.sizeOf9
 v9:=Tryz.zeroValue9
 t20:=Tryz.underlying20
 a20:=Tryz.isAgg20
 z20:=Tryz.sizeOf20
 v20:=Tryz.zeroValue20
 t37:=Tryz.underlying47
 a37:=Tryz.isAgg47
 z37:=Tryz.sizeOf47
 v37:=Tryz.zeroValue47
 t70:=Tryz.underlying126
 a70:=Tryz.isAgg126
 z70:=Tryz.sizeOf126
 v70:=Tryz.zeroValue126
 t72:=Tryz.underlying128
 a72:=Tryz.isAgg128
 z72:=Tryz.sizeOf128
 v72:=Tryz.zeroValue128
 t75:=Tryz.underlying131
 a75:=Tryz.isAgg131
 z75:=Tryz.sizeOf131
 v75:=Tryz.zeroValue131
 t164:=Tryz.underlying193
 a164:=Tryz.isAgg193
 z164:=Tryz.sizeOf193
 v164:=Tryz.zeroValue193}
theorem Tryz.Builder_Extra_167:Builder.Extra Tryz.prog Tryz.lays167_ren:={
 sizeBuilder:=by kernel_rfl
 liesBuilder:=by kernel_rfl
 t5:=Tryz.underlying5
 a5:=Tryz.isAgg5
 z5:=Tryz.sizeOf5
 v5:=Tryz.zeroValue5
 infoByte:=by kernel_rfl
 cellsByte:=by kernel_rfl
 sizeByte:=by kernel_rfl
 neB5:=by decide}
def Tryz.lays169_ren:Go.Shelf.Ren:=⟨fun|169=>100|n=>n,fun|37=>47|70=>126|72=>128|127=>167|n=>n,fun|n=>n⟩
theorem Tryz.lays169:Go.Proofs.Lays.n169 Tryz.prog Tryz.lays169_ren:={
 mixed:=by kernel_rfl
 f169:=Tryz.func100.trans (congrArg some (by kernel_rfl))
 t0:=Tryz.underlying0
 a0:=Tryz.isAgg0
 z0:=Tryz.sizeOf0
 v0:=Tryz.zeroValue0
 t3:=Tryz.underlying3
 a3:=Tryz.isAgg3
 z3:=Tryz.sizeOf3
 v3:=Tryz.zeroValue3
 t9:=Tryz.underlying9
 a9:=Tryz.isAgg9
 z9:=Tryz.sizeOf9
 v9:=Tryz.zeroValue9
 t37:=Tryz.underlying47
 a37:=Tryz.isAgg47
 z37:=Tryz.sizeOf47
 v37:=Tryz.zeroValue47
 t70:=Tryz.underlying126
 a70:=Tryz.isAgg126
 z70:=Tryz.sizeOf126
 v70:=Tryz.zeroValue126
 t72:=Tryz.underlying128
 a72:=Tryz.isAgg128
 z72:=Tryz.sizeOf128
 v72:=Tryz.zeroValue128
 t127:=Tryz.underlying167
 a127:=Tryz.isAgg167
 z127:=Tryz.sizeOf167
 v127:=Tryz.zeroValue167}
theorem Tryz.Builder_Extra_169:Builder.Extra Tryz.prog Tryz.lays169_ren:={
 sizeBuilder:=by kernel_rfl
 liesBuilder:=by kernel_rfl
 t5:=Tryz.underlying5
 a5:=Tryz.isAgg5
 z5:=Tryz.sizeOf5
 v5:=Tryz.zeroValue5
 infoByte:=by kernel_rfl
 cellsByte:=by kernel_rfl
 sizeByte:=by kernel_rfl
 neB5:=by decide}
def Tryz.laysM171_ren:Go.Shelf.Ren:=⟨fun|129=>219|171=>166|243=>184|246=>197|283=>210|284=>211|285=>212|286=>213|317=>218|318=>220|319=>221|320=>222|337=>223|338=>224|n=>n,fun|37=>47|46=>122|51=>161|53=>164|171=>224|173=>227|212=>234|213=>235|232=>241|233=>242|n=>n,fun|17=>3|18=>4|19=>5|n=>n⟩
theorem Tryz.laysM171:Go.Proofs.LaysM.n171 Tryz.prog Tryz.laysM171_ren:={
 mixed:=by kernel_rfl
 f129:=Tryz.func219.trans (congrArg some (by kernel_rfl))
 f171:=Tryz.func166.trans (congrArg some (by kernel_rfl))
 f243:=Tryz.func184.trans (congrArg some (by kernel_rfl))
 f246:=Tryz.func197.trans (congrArg some (by kernel_rfl))
 f283:=Tryz.func210.trans (congrArg some (by kernel_rfl))
 f284:=Tryz.func211.trans (congrArg some (by kernel_rfl))
 f285:=Tryz.func212.trans (congrArg some (by kernel_rfl))
 f286:=Tryz.func213.trans (congrArg some (by kernel_rfl))
 f317:=Tryz.func218.trans (congrArg some (by kernel_rfl))
 f318:=Tryz.func220.trans (congrArg some (by kernel_rfl))
 f319:=Tryz.func221.trans (congrArg some (by kernel_rfl))
 f320:=Tryz.func222.trans (congrArg some (by kernel_rfl))
 f337:=Tryz.func223.trans (congrArg some (by kernel_rfl))
 f338:=Tryz.func224.trans (congrArg some (by kernel_rfl))
 t0:=Tryz.underlying0
 a0:=Tryz.isAgg0
 z0:=Tryz.sizeOf0
 v0:=Tryz.zeroValue0
 t2:=Tryz.underlying2
 a2:=Tryz.isAgg2
 z2:=Tryz.sizeOf2
 v2:=Tryz.zeroValue2
 t3:=Tryz.underlying3
 a3:=Tryz.isAgg3
 z3:=Tryz.sizeOf3
 v3:=Tryz.zeroValue3
 t4:=Tryz.underlying4
 a4:=Tryz.isAgg4
 z4:=Tryz.sizeOf4
 v4:=Tryz.zeroValue4
 t5:=Tryz.underlying5
 a5:=Tryz.isAgg5
 z5:=Tryz.sizeOf5
 v5:=Tryz.zeroValue5
 t9:=Tryz.underlying9
 a9:=Tryz.isAgg9
 z9:=Tryz.sizeOf9
 v9:=Tryz.zeroValue9
 t20:=Tryz.underlying20
 a20:=Tryz.isAgg20
 z20:=Tryz.sizeOf20
 v20:=Tryz.zeroValue20
 t37:=Tryz.underlying47
 a37:=Tryz.isAgg47
 z37:=Tryz.sizeOf47
 v37:=Tryz.zeroValue47
 t46:=Tryz.underlying122
 a46:=Tryz.isAgg122
 z46:=Tryz.sizeOf122
 v46:=Tryz.zeroValue122
 t51:=Tryz.underlying161
 a51:=Tryz.isAgg161
 z51:=Tryz.sizeOf161
 v51:=Tryz.zeroValue161
 t53:=Tryz.underlying164
 a53:=Tryz.isAgg164
 z53:=Tryz.sizeOf164
 v53:=Tryz.zeroValue164
 t171:=Tryz.underlying224
 a171:=Tryz.isAgg224
 z171:=Tryz.sizeOf224
 v171:=Tryz.zeroValue224
 t173:=Tryz.underlying227
 a173:=Tryz.isAgg227
 z173:=Tryz.sizeOf227
 v173:=Tryz.zeroValue227
 t212:=Tryz.underlying234
 a212:=Tryz.isAgg234
 z212:=Tryz.sizeOf234
 v212:=Tryz.zeroValue234
 t213:=Tryz.underlying235
 a213:=Tryz.isAgg235
 z213:=Tryz.sizeOf235
 t232:=Tryz.underlying241
 a232:=Tryz.isAgg241
 z232:=Tryz.sizeOf241
 v232:=Tryz.zeroValue241
 t233:=Tryz.underlying242
 a233:=Tryz.isAgg242
 z233:=Tryz.sizeOf242
 v233:=Tryz.zeroValue242
 g17:=by kernel_rfl
 g18:=by kernel_rfl
 g19:=by kernel_rfl
 i0:=by kernel_rfl
 i2:=by kernel_rfl
 i3:=by kernel_rfl
 i4:=by kernel_rfl
 i5:=by kernel_rfl
 i9:=by kernel_rfl
 i20:=by kernel_rfl
 i37:=by kernel_rfl
 i46:=by kernel_rfl
 i51:=by kernel_rfl
 i53:=by kernel_rfl
 i171:=by kernel_rfl
 i173:=by kernel_rfl
 i212:=by kernel_rfl
 i232:=by kernel_rfl
 i233:=by kernel_rfl
 m17:=by kernel_rfl
 m18:=by kernel_rfl
 m19:=by kernel_rfl}
open Go.RowKit Go.Sort Go.Lib in
theorem Tryz.strconv_Itoa(n:Int)(h0: -9223372036854775808<=n)(h1:n<=9223372036854775807)(w:World)(htab:Lib.TabIs Tryz.prog w "internal/strconv.uint64pow10" .u64 Lib.pow10Tab):
  Calls Tryz.prog 166 #[.int .i64 n] w fun e w'=>e= .returned (.string ⟨(Lib.itoa n).toArray⟩)/\∃k os,w'=grow (w.drewN k) os:=Any.strconv_Itoa Tryz.laysM171 n h0 h1 w htab
def Tryz.laysPu14_ren:Go.Shelf.Ren:=⟨fun|14=>173|16=>187|17=>188|19=>202|20=>203|21=>204|22=>205|23=>206|24=>207|25=>216|26=>217|27=>166|28=>184|29=>197|30=>210|31=>211|32=>212|33=>213|34=>218|35=>219|36=>220|37=>221|38=>222|39=>223|40=>224|n=>n,fun|22=>164|24=>131|25=>191|34=>216|36=>122|37=>47|39=>218|44=>231|47=>167|48=>237|50=>239|52=>224|55=>227|59=>234|60=>161|61=>235|65=>241|66=>242|67=>135|n=>n,fun|0=>1|1=>2|2=>3|3=>4|4=>5|n=>n⟩
theorem Tryz.laysPu14:Go.Proofs.LaysPu.n14 Tryz.prog Tryz.laysPu14_ren:={
 mixed:=by kernel_rfl
 f14:=Tryz.func173.trans (congrArg some (by kernel_rfl))
 f16:=Tryz.func187.trans (congrArg some (by kernel_rfl))
 f17:=Tryz.func188.trans (congrArg some (by kernel_rfl))
 f19:=Tryz.func202.trans (congrArg some (by kernel_rfl))
 f20:=Tryz.func203.trans (congrArg some (by kernel_rfl))
 f21:=Tryz.func204.trans (congrArg some (by kernel_rfl))
 f22:=Tryz.func205.trans (congrArg some (by kernel_rfl))
 f23:=Tryz.func206.trans (congrArg some (by kernel_rfl))
 f24:=Tryz.func207.trans (congrArg some (by kernel_rfl))
 f25:=Tryz.func216.trans (congrArg some (by kernel_rfl))
 f26:=Tryz.func217.trans (congrArg some (by kernel_rfl))
 f27:=Tryz.func166.trans (congrArg some (by kernel_rfl))
 f28:=Tryz.func184.trans (congrArg some (by kernel_rfl))
 f29:=Tryz.func197.trans (congrArg some (by kernel_rfl))
 f30:=Tryz.func210.trans (congrArg some (by kernel_rfl))
 f31:=Tryz.func211.trans (congrArg some (by kernel_rfl))
 f32:=Tryz.func212.trans (congrArg some (by kernel_rfl))
 f33:=Tryz.func213.trans (congrArg some (by kernel_rfl))
 f34:=Tryz.func218.trans (congrArg some (by kernel_rfl))
 f35:=Tryz.func219.trans (congrArg some (by kernel_rfl))
 f36:=Tryz.func220.trans (congrArg some (by kernel_rfl))
 f37:=Tryz.func221.trans (congrArg some (by kernel_rfl))
 f38:=Tryz.func222.trans (congrArg some (by kernel_rfl))
 f39:=Tryz.func223.trans (congrArg some (by kernel_rfl))
 f40:=Tryz.func224.trans (congrArg some (by kernel_rfl))
 t0:=Tryz.underlying0
 a0:=Tryz.isAgg0
 z0:=Tryz.sizeOf0
 v0:=Tryz.zeroValue0
 i0:=by kernel_rfl
 t2:=Tryz.underlying2
 a2:=Tryz.isAgg2
 z2:=Tryz.sizeOf2
 v2:=Tryz.zeroValue2
 i2:=by kernel_rfl
 t3:=Tryz.underlying3
 a3:=Tryz.isAgg3
 z3:=Tryz.sizeOf3
 v3:=Tryz.zeroValue3
 i3:=by kernel_rfl
 t4:=Tryz.underlying4
 a4:=Tryz.isAgg4
 z4:=Tryz.sizeOf4
 v4:=Tryz.zeroValue4
 i4:=by kernel_rfl
 t5:=Tryz.underlying5
 a5:=Tryz.isAgg5
 z5:=Tryz.sizeOf5
 v5:=Tryz.zeroValue5
 i5:=by kernel_rfl
 t9:=Tryz.underlying9
 a9:=Tryz.isAgg9
 z9:=Tryz.sizeOf9
 v9:=Tryz.zeroValue9
 i9:=by kernel_rfl
 t20:=Tryz.underlying20
 a20:=Tryz.isAgg20
 z20:=Tryz.sizeOf20
 v20:=Tryz.zeroValue20
 i20:=by kernel_rfl
 t21:=Tryz.underlying21
 a21:=Tryz.isAgg21
 z21:=Tryz.sizeOf21
 v21:=Tryz.zeroValue21
 i21:=by kernel_rfl
 t22:=Tryz.underlying164
 a22:=Tryz.isAgg164
 z22:=Tryz.sizeOf164
 v22:=Tryz.zeroValue164
 i22:=by kernel_rfl
 t24:=Tryz.underlying131
 a24:=Tryz.isAgg131
 z24:=Tryz.sizeOf131
 v24:=Tryz.zeroValue131
 i24:=by kernel_rfl
 t25:=Tryz.underlying191
 a25:=Tryz.isAgg191
 z25:=Tryz.sizeOf191
 v25:=Tryz.zeroValue191
 i25:=by kernel_rfl
 t34:=Tryz.underlying216
 a34:=Tryz.isAgg216
 z34:=Tryz.sizeOf216
 v34:=Tryz.zeroValue216
 i34:=by kernel_rfl
 c34:=by kernel_rfl
 t36:=Tryz.underlying122
 a36:=Tryz.isAgg122
 z36:=Tryz.sizeOf122
 v36:=Tryz.zeroValue122
 i36:=by kernel_rfl
 t37:=Tryz.underlying47
 a37:=Tryz.isAgg47
 z37:=Tryz.sizeOf47
 v37:=Tryz.zeroValue47
 i37:=by kernel_rfl
 t39:=Tryz.underlying218
 a39:=Tryz.isAgg218
 z39:=Tryz.sizeOf218
 v39:=Tryz.zeroValue218
 i39:=by kernel_rfl
 t44:=Tryz.underlying231
 a44:=Tryz.isAgg231
 z44:=Tryz.sizeOf231
 v44:=Tryz.zeroValue231
 i44:=by kernel_rfl
 t47:=Tryz.underlying167
 a47:=Tryz.isAgg167
 z47:=Tryz.sizeOf167
 v47:=Tryz.zeroValue167
 i47:=by kernel_rfl
 t48:=Tryz.underlying237
 a48:=Tryz.isAgg237
 z48:=Tryz.sizeOf237
 v48:=Tryz.zeroValue237
 i48:=by kernel_rfl
 t50:=Tryz.underlying239
 a50:=Tryz.isAgg239
 z50:=Tryz.sizeOf239
 v50:=Tryz.zeroValue239
 i50:=by kernel_rfl
 t52:=Tryz.underlying224
 a52:=Tryz.isAgg224
 z52:=Tryz.sizeOf224
 v52:=Tryz.zeroValue224
 i52:=by kernel_rfl
 t55:=Tryz.underlying227
 a55:=Tryz.isAgg227
 z55:=Tryz.sizeOf227
 v55:=Tryz.zeroValue227
 i55:=by kernel_rfl
 t59:=Tryz.underlying234
 a59:=Tryz.isAgg234
 z59:=Tryz.sizeOf234
 v59:=Tryz.zeroValue234
 i59:=by kernel_rfl
 t60:=Tryz.underlying161
 a60:=Tryz.isAgg161
 z60:=Tryz.sizeOf161
 v60:=Tryz.zeroValue161
 i60:=by kernel_rfl
 t61:=Tryz.underlying235
 a61:=Tryz.isAgg235
 z61:=Tryz.sizeOf235
 t65:=Tryz.underlying241
 a65:=Tryz.isAgg241
 z65:=Tryz.sizeOf241
 v65:=Tryz.zeroValue241
 i65:=by kernel_rfl
 t66:=Tryz.underlying242
 a66:=Tryz.isAgg242
 z66:=Tryz.sizeOf242
 v66:=Tryz.zeroValue242
 i66:=by kernel_rfl
 t67:=Tryz.underlying135
 a67:=Tryz.isAgg135
 z67:=Tryz.sizeOf135
 v67:=Tryz.zeroValue135
 i67:=by kernel_rfl
 g0:=by kernel_rfl
 m0:=by kernel_rfl
 g1:=by kernel_rfl
 m1:=by kernel_rfl
 g2:=by kernel_rfl
 m2:=by kernel_rfl
 g3:=by kernel_rfl
 m3:=by kernel_rfl
 g4:=by kernel_rfl
 m4:=by kernel_rfl}
open Go.RowKit in
theorem Tryz.strconv_ParseUint_10_at32_ok(s:ByteArray)(hmax:s.size<=9223372036854775806)(u:Nat)(h:Lib.parseUintB 32 s.data.toList= .ok u)(w:World):
  Calls Tryz.prog 173 #[.string s,.int .i64 10,.int .i64 32] w fun e w'=>e= .returned (.tuple #[.int .u64 u,.nilIface])/\(w'=w∨w'=Lib.bytesWorld w 5 s):=Any.strconv_ParseUint_10_at32_ok Tryz.laysPu14 s hmax u h w
end Go.Proofs
end
section
namespace Go.Proofs
open Go.RowKit Go.Cm Go.Sort
theorem o7{T e:TypeId}{B b:Nat}{bs:List Value}{w w':World}(h:Lib.IsBuilder T e B b bs w)(hg:w.grownBy w' none):Lib.IsBuilder T e B b bs w':=by
 have key:∀p,Lib.BuilderAt T e B b p bs w->Lib.BuilderAt T e B b p bs w':=by
  rintro p ⟨h1,v,h2,h3,h4⟩;exact⟨h1,v,(hg.block b (Array.getElem?_eq_some_iff.1 h2).1 (by simp)).trans h2,h3.kept hg (by cases v.ownBlock<;>simp),h4⟩
 exact h.imp (key _) (key _)
theorem Ma{n:Nat}(h:n<=9):(⟨#[48,48,48,48,48,48,48,48,48]⟩:ByteArray).extract n 9=⟨(List.replicate (9-n) (48:UInt8)).toArray⟩:=by
 have:∀n:Fin 10,(⟨#[48,48,48,48,48,48,48,48,48]⟩:ByteArray).extract n.1 9=⟨(List.replicate (9-n.1) (48:UInt8)).toArray⟩:=by decide
 exact this ⟨n,by omega⟩
theorem kc(B:Nat)(w:World)(hB:B<=w.heap.size)(k:Nat)(os:Array Obj):Below B w (grow (w.drewN k) os):=by
 refine⟨rfl,rfl,rfl,?_,fun i hi=>?_⟩;·show w.heap.size<=(w.heap++os).size;simp
 ·show (w.heap++os)[i]? =w.heap[i]?;rw[Array.getElem?_append_left (by omega)]
theorem tI(w:World)(k:Nat)(os:Array Obj):w.grownBy (grow (w.drewN k) os) none:=by
 have:=kc w.heap.size w (Nat.le_refl _) k os;exact⟨this.os,this.tape,this.output,this.size,fun i hi _=>this.block i hi⟩
set_option maxRecDepth 100000 in
set_option maxHeartbeats 1000000 in
theorem IM(s:Bool)(xs:List Int)(b o cap:Nat)(w:World)(hne:0<xs.length)(hl:Lim xs)(hlen:xs.length<=1000000000000)(hb:b<w.heap.size)(hc:∀j,j<xs.length->w.cell? ⟨b,o+j,none⟩=some (.int .u32 (xs.getD j 0)))
  (hT:∀W,Below w.heap.size w W->Lib.TabIs Tryz.prog W "internal/strconv.uint64pow10" .u64 Lib.pow10Tab):
  Calls Tryz.prog 144 #[.agg #[.bool s,.slice (some ⟨b,o,none⟩) xs.length cap]] w fun e w'=>e= .returned (.string ⟨(fT s xs xs.length).toArray⟩)/\Below w.heap.size w w':=by
 have h0:((xs.length:Int)==0)=false:=beq_eq_false_iff_ne.2 (by omega);obtain⟨W0,hW0⟩:∃W0,W0=w.alloc (.cells #[.bool s,.slice (some ⟨b,o,none⟩) xs.length cap] 89):=⟨_,rfl⟩;cases s
 ·go_enter Tryz.func144,Tryz.ntmps144
  go_wp2_with fail
  go_loopw [4] (fun i wr=>∃k:Nat,k<=xs.length/\i= .int .i64 ((xs.length:Int)-1-k)/\Lib.IsBuilder 128 5 (w.heap.size+1) (w.heap.size+1) (Lib.byteCells (fT false xs k)) wr/\Below (w.heap.size+1) W0 wr) (fun i _=>(intOf i+1).toNat)
  case atStart=>
   (refine⟨0,Nat.zero_le _,by simp,?_,?_⟩;·have:=Lib.fresh_isBuilder 128 5 (w.alloc (.cells #[.bool false,.slice (some ⟨b,o,none⟩) xs.length cap] 89));rw[World.size_alloc] at this;exact this);·rw[hW0];exact(Below.refl _ _).alloc (by simp) _
  case round=>
   obtain⟨k,hk,rfl,hI,hbw⟩:=hrel;have hB0:Below w.heap.size w wr:=(((Below.refl _ _).alloc (Nat.le_refl _) _).trans ((by rw[hW0] at hbw;exact hbw.mono (by omega))));have g0:wr.cell? ⟨w.heap.size,0,none⟩=some (.bool false):=by
    rw[hbw.cell (p:=⟨w.heap.size,0,none⟩) (by simp),hW0];exact cell_of_row _ _ 0 _ _ _ (heap_alloc_new w _)
   have g1:wr.cell? ⟨w.heap.size,1,none⟩=some (.slice (some ⟨b,o,none⟩) xs.length cap):=by
    rw[hbw.cell (p:=⟨w.heap.size,1,none⟩) (by simp),hW0];exact cell_of_row _ _ 1 _ _ _ (heap_alloc_new w _)
   by_cases hlt:k<xs.length
   ·(have hge:0<=(xs.length:Int)-1-k:=by omega);(have htn:((xs.length:Int)-1-k).toNat=xs.length-1-k:=by omega);(have hup:(xs.length:Int)-1-k<xs.length:=by omega);obtain⟨x,hx⟩:∃x,x=xs.getD (xs.length-1-k) 0:=⟨_,rfl⟩;have hc1:wr.cell? ⟨b,o+(xs.length-1-k),none⟩=some (.int .u32 x):=by
     rw[hB0.cell (p:=⟨b,o+(xs.length-1-k),none⟩) hb,hx];exact hc _ (by omega)
    have hxl:=hl.getD (xs.length-1-k);rw[<- hx] at hxl;have hB:LB=1000000000:=rfl;obtain⟨hx0,hx1⟩:=hxl;rw[hB] at hx1;have HX:=Lib.hid hx;clear hx hB;have hil:=rV hx0 (by rw[show LB=1000000000 from rfl];exact hx1)
    go_wp2_with fail
    refine(Tryz.strconv_Itoa x (by omega) (by omega) wr (hT wr hB0)).mono ?_;rintro e W1 ⟨rfl,q,os,hW1⟩;have hg:=tI wr q os;have hb1:=kc wr.heap.size wr (Nat.le_refl _) q os;rw[<- hW1] at hg hb1;have hI1:=o7 hI hg;clear hg;have hsz:w.heap.size+1<wr.heap.size:=by
     rcases hI with h|h<;>exact h.lt
    clear hI hW1;have hbw1:Below (w.heap.size+1) W0 W1:=hbw.trans (hb1.mono (by omega));have f0:W1.cell? ⟨w.heap.size,0,none⟩=some (.bool false):=(hb1.cell (p:=⟨w.heap.size,0,none⟩) (by simp only;omega)).trans g0;have f1:W1.cell? ⟨w.heap.size,1,none⟩=some (.slice (some ⟨b,o,none⟩) xs.length cap):=(hb1.cell (p:=⟨w.heap.size,1,none⟩) (by simp only;omega)).trans g1;(have hszw:w.heap.size+1<=W1.heap.size:=by have:=hb1.size;omega);have hacc:=qt (s:=false) hl k;(have hacc2:fT false xs (k+1)=fT false xs k++((if k=0 then [] else List.replicate (9-(Lib.itoa x).length) 48)++Lib.itoa x):=by rw[HX.out];rfl);have HA:=Lib.hid hacc2;clear hacc2 HX;generalize hl1:Lib.itoa x=l at*;clear hl1;obtain⟨hil1,hil2⟩:=hil;by_cases hk0:k=0
    ·have HK:=Lib.hid hk0;(have hnl:¬((xs.length:Int)-1-k<(xs.length:Int)-1):=by omega);clear hk0
     go_wp2_with fail
     refine(Any.Builder_WriteString Tryz.lays166 Tryz.Builder_Extra_166 (w.heap.size+1) (w.heap.size+1) _ ⟨l.toArray⟩ _ hI1 (by rw[Lib.byteCells_length];simp only[ByteArray.size,List.size_toArray];omega) hszw).mono ?_;rintro e W2 ⟨rfl,h2,b2⟩
     go_wp2
     go_roundw
     case rel=>
      refine⟨k+1,by omega,by congr 1;omega,?_,hbw1.trans b2⟩;have e:=HA.out;rw[if_pos HK.out,List.nil_append] at e;rw[e,Lib.byteCells_append];exact .inr h2
     case measure=>simp[intOf];omega
    ·(have hnl:(xs.length:Int)-1-k<(xs.length:Int)-1:=by omega);(have hl9:(l.length:Int)<=9:=by omega);have HK:=Lib.hid hk0;clear hk0
     go_wp2_with fail
     rw[Ma hil2];refine(Any.Builder_WriteString Tryz.lays166 Tryz.Builder_Extra_166 (w.heap.size+1) (w.heap.size+1) _ ⟨(List.replicate (9-l.length) (48:UInt8)).toArray⟩ _ hI1 (by rw[Lib.byteCells_length];simp only[ByteArray.size,List.size_toArray,List.length_replicate];omega) hszw).mono ?_;rintro e W2 ⟨rfl,h2,b2⟩;(have hszw2:w.heap.size+1<=W2.heap.size:=by have:=b2.size;omega);clear hI1
     go_wp2_with fail
     refine(Any.Builder_WriteString Tryz.lays166 Tryz.Builder_Extra_166 (w.heap.size+1) (w.heap.size+1) _ ⟨l.toArray⟩ _ (.inr h2) (by rw[List.length_append,Lib.strCells_length,Lib.byteCells_length];simp only[ByteArray.size,List.size_toArray,List.length_replicate];omega) hszw2).mono ?_;rintro e W3 ⟨rfl,h3,b3⟩
     go_wp2
     go_roundw
     case rel=>
      refine⟨k+1,by omega,by congr 1;omega,?_,(hbw1.trans b2).trans b3⟩;have e:=HA.out;rw[if_neg HK.out,<- List.append_assoc] at e;rw[e,Lib.byteCells_append,Lib.byteCells_append];exact .inr h3
     case measure=>simp[intOf];omega
   ·(have hk2:k=xs.length:=by omega);(have hnl:¬(0<=(xs.length:Int)-1-k):=by omega);have HK:=Lib.hid hk2;clear hk2;have hszw:w.heap.size+1<=wr.heap.size:=by
     rcases hI with h|h<;>exact Nat.le_of_lt h.lt
    go_wp2_with fail
    refine(Any.Builder_String_any Tryz.lays169 Tryz.Builder_Extra_169 (w.heap.size+1) (w.heap.size+1) _ _ hI hszw).mono ?_;rintro e W2 ⟨rfl,b2⟩
    go_wp2
    go_ret
    exact⟨by rw[HK.out];rfl,hB0.trans (b2.mono (by omega))⟩
 ·go_enter Tryz.func144,Tryz.ntmps144
  go_wp2_with fail
  have hf:=Lib.fresh_isBuilder 128 5 (w.alloc (.cells #[.bool true,.slice (some ⟨b,o,none⟩) xs.length cap] 89));rw[World.size_alloc] at hf;refine(Any.Builder_WriteByte Tryz.lays167 Tryz.Builder_Extra_167 (w.heap.size+1) (w.heap.size+1) [] 45 _ hf (by simp) (by simp)).mono ?_;rintro e W1 ⟨rfl,h1,b1⟩;have hb1:Below (w.heap.size+1) W0 W1:=by rw[hW0];exact((Below.refl _ _).alloc (by simp) _).trans b1
  have f0:W1.cell? ⟨w.heap.size,0,none⟩=some (.bool true):=by
   rw[hb1.cell (p:=⟨w.heap.size,0,none⟩) (by simp),hW0];exact cell_of_row _ _ 0 _ _ _ (heap_alloc_new w _)
  have f1:W1.cell? ⟨w.heap.size,1,none⟩=some (.slice (some ⟨b,o,none⟩) xs.length cap):=by
   rw[hb1.cell (p:=⟨w.heap.size,1,none⟩) (by simp),hW0];exact cell_of_row _ _ 1 _ _ _ (heap_alloc_new w _)
  go_wp2_with fail
  go_loopw [4] (fun i wr=>∃k:Nat,k<=xs.length/\i= .int .i64 ((xs.length:Int)-1-k)/\Lib.IsBuilder 128 5 (w.heap.size+1) (w.heap.size+1) (Lib.byteCells (fT true xs k)) wr/\Below (w.heap.size+1) W0 wr) (fun i _=>(intOf i+1).toNat)
  case atStart=>exact⟨0,Nat.zero_le _,by simp,.inr h1,hb1⟩
  case round=>
   obtain⟨k,hk,rfl,hI,hbw⟩:=hrel;have hB0:Below w.heap.size w wr:=(((Below.refl _ _).alloc (Nat.le_refl _) _).trans ((by rw[hW0] at hbw;exact hbw.mono (by omega))));have g0:wr.cell? ⟨w.heap.size,0,none⟩=some (.bool true):=by
    rw[hbw.cell (p:=⟨w.heap.size,0,none⟩) (by simp),hW0];exact cell_of_row _ _ 0 _ _ _ (heap_alloc_new w _)
   have g1:wr.cell? ⟨w.heap.size,1,none⟩=some (.slice (some ⟨b,o,none⟩) xs.length cap):=by
    rw[hbw.cell (p:=⟨w.heap.size,1,none⟩) (by simp),hW0];exact cell_of_row _ _ 1 _ _ _ (heap_alloc_new w _)
   by_cases hlt:k<xs.length
   ·(have hge:0<=(xs.length:Int)-1-k:=by omega);(have htn:((xs.length:Int)-1-k).toNat=xs.length-1-k:=by omega);(have hup:(xs.length:Int)-1-k<xs.length:=by omega);obtain⟨x,hx⟩:∃x,x=xs.getD (xs.length-1-k) 0:=⟨_,rfl⟩;have hc1:wr.cell? ⟨b,o+(xs.length-1-k),none⟩=some (.int .u32 x):=by
     rw[hB0.cell (p:=⟨b,o+(xs.length-1-k),none⟩) hb,hx];exact hc _ (by omega)
    have hxl:=hl.getD (xs.length-1-k);rw[<- hx] at hxl;have hB:LB=1000000000:=rfl;obtain⟨hx0,hx1⟩:=hxl;rw[hB] at hx1;have HX:=Lib.hid hx;clear hx hB;have hil:=rV hx0 (by rw[show LB=1000000000 from rfl];exact hx1)
    go_wp2_with fail
    refine(Tryz.strconv_Itoa x (by omega) (by omega) wr (hT wr hB0)).mono ?_;rintro e W1 ⟨rfl,q,os,hW1⟩;have hg:=tI wr q os;have hb1:=kc wr.heap.size wr (Nat.le_refl _) q os;rw[<- hW1] at hg hb1;have hI1:=o7 hI hg;clear hg;have hsz:w.heap.size+1<wr.heap.size:=by
     rcases hI with h|h<;>exact h.lt
    clear hI hW1;have hbw1:Below (w.heap.size+1) W0 W1:=hbw.trans (hb1.mono (by omega));have f0:W1.cell? ⟨w.heap.size,0,none⟩=some (.bool true):=(hb1.cell (p:=⟨w.heap.size,0,none⟩) (by simp only;omega)).trans g0;have f1:W1.cell? ⟨w.heap.size,1,none⟩=some (.slice (some ⟨b,o,none⟩) xs.length cap):=(hb1.cell (p:=⟨w.heap.size,1,none⟩) (by simp only;omega)).trans g1;(have hszw:w.heap.size+1<=W1.heap.size:=by have:=hb1.size;omega);have hacc:=qt (s:=true) hl k;(have hacc2:fT true xs (k+1)=fT true xs k++((if k=0 then [] else List.replicate (9-(Lib.itoa x).length) 48)++Lib.itoa x):=by rw[HX.out];rfl);have HA:=Lib.hid hacc2;clear hacc2 HX;generalize hl1:Lib.itoa x=l at*;clear hl1;obtain⟨hil1,hil2⟩:=hil;by_cases hk0:k=0
    ·have HK:=Lib.hid hk0;(have hnl:¬((xs.length:Int)-1-k<(xs.length:Int)-1):=by omega);clear hk0
     go_wp2_with fail
     refine(Any.Builder_WriteString Tryz.lays166 Tryz.Builder_Extra_166 (w.heap.size+1) (w.heap.size+1) _ ⟨l.toArray⟩ _ hI1 (by rw[Lib.byteCells_length];simp only[ByteArray.size,List.size_toArray];omega) hszw).mono ?_;rintro e W2 ⟨rfl,h2,b2⟩
     go_wp2
     go_roundw
     case rel=>
      refine⟨k+1,by omega,by congr 1;omega,?_,hbw1.trans b2⟩;have e:=HA.out;rw[if_pos HK.out,List.nil_append] at e;rw[e,Lib.byteCells_append];exact .inr h2
     case measure=>simp[intOf];omega
    ·(have hnl:(xs.length:Int)-1-k<(xs.length:Int)-1:=by omega);(have hl9:(l.length:Int)<=9:=by omega);have HK:=Lib.hid hk0;clear hk0
     go_wp2_with fail
     rw[Ma hil2];refine(Any.Builder_WriteString Tryz.lays166 Tryz.Builder_Extra_166 (w.heap.size+1) (w.heap.size+1) _ ⟨(List.replicate (9-l.length) (48:UInt8)).toArray⟩ _ hI1 (by rw[Lib.byteCells_length];simp only[ByteArray.size,List.size_toArray,List.length_replicate];omega) hszw).mono ?_;rintro e W2 ⟨rfl,h2,b2⟩;(have hszw2:w.heap.size+1<=W2.heap.size:=by have:=b2.size;omega);clear hI1
     go_wp2_with fail
     refine(Any.Builder_WriteString Tryz.lays166 Tryz.Builder_Extra_166 (w.heap.size+1) (w.heap.size+1) _ ⟨l.toArray⟩ _ (.inr h2) (by rw[List.length_append,Lib.strCells_length,Lib.byteCells_length];simp only[ByteArray.size,List.size_toArray,List.length_replicate];omega) hszw2).mono ?_;rintro e W3 ⟨rfl,h3,b3⟩
     go_wp2
     go_roundw
     case rel=>
      refine⟨k+1,by omega,by congr 1;omega,?_,(hbw1.trans b2).trans b3⟩;have e:=HA.out;rw[if_neg HK.out,<- List.append_assoc] at e;rw[e,Lib.byteCells_append,Lib.byteCells_append];exact .inr h3
     case measure=>simp[intOf];omega
   ·(have hk2:k=xs.length:=by omega);(have hnl:¬(0<=(xs.length:Int)-1-k):=by omega);have HK:=Lib.hid hk2;clear hk2;have hszw:w.heap.size+1<=wr.heap.size:=by
     rcases hI with h|h<;>exact Nat.le_of_lt h.lt
    go_wp2_with fail
    refine(Any.Builder_String_any Tryz.lays169 Tryz.Builder_Extra_169 (w.heap.size+1) (w.heap.size+1) _ _ hI hszw).mono ?_;rintro e W2 ⟨rfl,b2⟩
    go_wp2
    go_ret
    exact⟨by rw[HK.out];rfl,hB0.trans (b2.mono (by omega))⟩
end Go.Proofs
end
section
namespace Go.Proofs
open Go.RowKit Go.Cm
def Qr(B:aq):Prop:=∀w,B.On w->Lib.TabIs Tryz.prog w "internal/strconv.uint64pow10" .u64 Lib.pow10Tab
def Ut(B:aq):Prop:=∀w,B.On w->∃m,w.cell? ⟨0,0,none⟩=some (.int .i64 m)
def aN(B:aq):Prop:=Qr B/\Ut B
def wk:Con:=fun l os=>match l,os with
 | [.z (.int .i64) n],[]=>some (I64 n,[.z .str (Lib.itoa n)],[])
 |_,_=>none
theorem Fg{B:aq}(hB:aN B):Valid B Tryz.prog 166 wk:=by
 intro args os C rs os' hc hC O w vals ρ0 hOn hIo hO hOI hargs hown hap;unfold wk at hc;split at hc;case h_2=>cases hc
 cases hc;obtain⟨v,rfl,hv⟩:=rU hargs;rw[bE hv];exact Fe ((Tryz.strconv_Itoa _ hC.1 hC.2 w (hB.1 w hOn)).mono fun e w' ⟨he,k,os,hw⟩=>⟨he,by rw[hw];exact kc _ _ (Nat.le_refl _) _ _⟩) (fun H w=>fL (ρ:=fun _=>undef))
def numOf(l:List UInt8):Nat:=l.foldl (fun n c=>n*10+(c.toNat-48)) 0
def dD(l:List UInt8):Prop:=∀c∈l,48<=c.toNat/\c.toNat<=57
def yk:Con:=fun l os=>match l,os with
 | [.z .str s,.z (.int .i64) 10,.z (.int .i64) 32],[]=>some (s≠[]/\dD s/\s.length<=9,[.z (.int .u64) (numOf s),.val .nilIface],[])
 |_,_=>none
theorem zY:∀(l:List UInt8) (a:Nat),a<=l.foldl (fun n c=>n*10+(c.toNat-48)) a
 | [],_=>Nat.le_refl _
 |c::l,a=>Nat.le_trans (by omega) (zY l (a*10+(c.toNat-48)))
theorem Mb:∀(l:List UInt8) (a k:Nat),dD l->a<10^k->l.foldl (fun n c=>n*10+(c.toNat-48)) a<10^(k+l.length)
 | [],_,_,_,h=>h
 |c::l,a,k,hd,h=>by
  have h1:=hd c (by simp);have:=Mb l (a*10+(c.toNat-48)) (k+1) (fun x hx=>hd x (by simp[hx])) (by rw[Nat.pow_succ];omega);rw[List.foldl_cons,List.length_cons,show k+(l.length+1)=k+1+l.length by omega];exact this
theorem fE{l:List UInt8}(hd:dD l):numOf l<10^l.length:=by
 have:=Mb l 0 0 hd (by simp);rw[Nat.zero_add] at this;exact this
theorem zZ:∀(l:List UInt8) (a:Nat),dD l->l.foldl (fun n c=>n*10+(c.toNat-48)) a<=4294967295->Lib.parseUintM (2^32-1) a l= .ok (l.foldl (fun n c=>n*10+(c.toNat-48)) a)
 | [],_,_,_=>rfl
 |c::l,a,hd,h=>by
  have h1:=hd c (by simp);have h2:=zY l (a*10+(c.toNat-48));rw[List.foldl_cons] at h;rw[Lib.parseUintM,if_pos h1,if_neg (by omega),if_neg (by omega),zZ l _ (fun x hx=>hd x (by simp[hx])) h,List.foldl_cons]
theorem Qs{B:aq}(hB:aN B):Valid B Tryz.prog 173 yk:=by
 intro args os C rs os' hc hC O w vals ρ0 hOn hIo hO hOI hargs hown hap;unfold yk at hc;split at hc;case h_2=>cases hc
 rename_i s;cases hc;obtain⟨u,v,t,rfl,hu,hv,ht⟩:=CW hargs;rw[bE hv,bE ht,gw hu];obtain⟨h0,h1,h2⟩:=hC;have hsz:(⟨s.toArray⟩:ByteArray).size=s.length:=by simp[ByteArray.size]
 have hlt:=fE h1;have h9:numOf s<10^9:=Nat.lt_of_lt_of_le hlt (Nat.pow_le_pow_right (by omega) h2);have hp:Lib.parseUintB 32 s= .ok (numOf s):=by
  rw[Lib.parseUintB,if_neg h0];exact zZ s 0 h1 (by unfold numOf at h9;omega)
 refine(Tryz.strconv_ParseUint_10_at32_ok ⟨s.toArray⟩ (by rw[hsz];omega) (numOf s) hp w).mono fun e w' ⟨he,hw⟩=>?_;have hb:Below w.heap.size w w':=by
  rcases hw with hw|hw;·rw[hw];exact Below.refl _ _
  ·rw[hw];exact⟨rfl,rfl,rfl,by rw[Lib.bytesWorld_size];omega,fun k hk=>Lib.bytesWorld_at_old w _ _ k hk⟩
 subst he;exact o4 (vs:=[.int .u64 (numOf s),.nilIface]) hb (fun H M=>⟨bW (ρ:=fun _=>undef),rfl,trivial⟩)
theorem gD{xs:List Int}{k:Nat}(hk:k<xs.length):valL (xs.drop (xs.length-1-k))=xs.getD (xs.length-1-k) 0+LB*valL (xs.drop (xs.length-k)):=by
 rw[List.drop_eq_getElem_cons (by omega),valL,show xs.length-1-k+1=xs.length-k by omega,List.getD_eq_getElem?_getD,List.getElem?_eq_getElem (by omega)];rfl
def tJ(k u:Nat):List UInt8:=if k=0 then [] else List.replicate (k-(Lib.decDigits u).length) 48++Lib.decDigits u
theorem Mc{k u:Nat}(hu:u<10^(k+1)):tJ k (u/10)++ [UInt8.ofNat (48+u%10)]=tJ (k+1) u:=by
 unfold tJ;rw[if_neg (show ¬k+1=0 by omega)];by_cases hk:k=0
 ·subst hk;have hu10:u<10:=by simpa using hu
  rw[if_pos rfl,show Lib.decDigits u=[UInt8.ofNat (48+u)] by rw[Lib.decDigits,dif_pos hu10]];simp[Nat.mod_eq_of_lt hu10]
 ·rw[if_neg hk];by_cases hu10:u<10
  ·(have:u/10=0:=by omega);rw[this,show Lib.decDigits 0=[48] by rw[Lib.decDigits,dif_pos (by omega)];rfl,show Lib.decDigits u=[UInt8.ofNat (48+u)] by rw[Lib.decDigits,dif_pos hu10]];simp only[List.length_cons,List.length_nil,Nat.mod_eq_of_lt hu10,List.append_assoc];rw[show k+1-(0+1)=(k-(0+1))+1 by omega,List.replicate_succ'];simp
  ·(have e:Lib.decDigits u=Lib.decDigits (u/10)++ [UInt8.ofNat (48+u%10)]:=by conv=>lhs;rw[Lib.decDigits,dif_neg hu10]);rw[e];simp only[List.length_append,List.length_cons,List.length_nil,List.append_assoc];rw[show k+1-((Lib.decDigits (u/10)).length+(0+1))=k-(Lib.decDigits (u/10)).length by omega]
theorem kt:∀(k u:Nat) (v:Nat),0<v->u<10^k->Lib.decDigits (u+10^k*v)=Lib.decDigits v++tJ k u
 |0,u,v,hv,hu=>by
  have:u=0:=by omega
  subst this;simp[tJ]
 |k+1,u,v,hv,hu=>by
  have h1:0<10^k:=Nat.pow_pos (by omega);have h2:10^(k+1)*1<=10^(k+1)*v:=Nat.mul_le_mul_left _ hv;have h3:10^(k+1)=10^k*10:=Nat.pow_succ ..;have e1:(u+10^(k+1)*v)/10=u/10+10^k*v:=by
   rw[h3,Nat.mul_right_comm,Nat.add_mul_div_right _ _ (by omega)]
  have e2:(u+10^(k+1)*v)%10=u%10:=by
   rw[h3,Nat.mul_right_comm,Nat.add_mul_mod_self_right]
  rw[Lib.decDigits,dif_neg (by omega),e1,e2,kt k (u/10) v hv (by omega),List.append_assoc,Mc hu]
theorem Md{s:Bool}{xs:List Int}(h:Cano xs):∀k,k<xs.length->fT s xs (k+1)=(if s=true then [45] else [])++Lib.decDigits (valL (xs.drop (xs.length-1-k))).toNat
 |0,hk=>by
  have hx:=h.1.getD (xs.length-1);have e:valL (xs.drop (xs.length-1-0))=xs.getD (xs.length-1) 0:=by
   rw[gD hk,Nat.sub_zero,Nat.sub_zero,List.drop_of_length_le (Nat.le_refl _)];simp[valL]
  rw[e];simp only[fT,Nat.sub_zero,if_true,List.nil_append];unfold Lib.itoa;rw[if_neg (show ¬xs.getD (xs.length-1) 0<0 by omega)]
 |k+1,hk=>by
  have hx:=h.1.getD (xs.length-1-(k+1));have ih:=Md (s:=s) h k (by omega);have hB:LB=1000000000:=rfl;have hd:Cano (xs.drop (xs.length-1-k)):=⟨fun x hx=>h.1 x (List.mem_of_mem_drop hx),by
   (have hne:xs.drop (xs.length-1-k)≠[]:=by intro e;have:=congrArg List.length e;simp at this;omega);have:=h.2;rw[<- List.take_append_drop (xs.length-1-k) xs,getLastD_append hne] at this;exact this⟩
  have hpos:=(valL_pos hd).2 (by intro e;have:=congrArg List.length e;simp at this;omega);rw[fT,ih,if_neg (show ¬k+1=0 by omega),gD hk,show xs.length-(k+1)=xs.length-1-k by omega,List.append_assoc];congr 1;obtain⟨u,hu⟩:=Int.eq_ofNat_of_zero_le hx.1;obtain⟨v,hv⟩:=Int.eq_ofNat_of_zero_le (Int.le_of_lt hpos);rw[hu,hv];have hun:u<10^9:=by have:=hx.2;rw[hu] at this;omega
  have e:((u:Int)+LB*(v:Int)).toNat=u+10^9*v:=by rw[hB];omega
  rw[e,kt 9 u v (by omega) hun,tJ,if_neg (show ¬(9:Nat)=0 by omega)];unfold Lib.itoa;rw[if_neg (show ¬(u:Int)<0 by omega)];simp only[Int.toNat_natCast]
theorem Qt{x:Bool×List Int}(h:WOK x)(hne:0<x.2.length):fT x.1 x.2 x.2.length=Lib.itoa (dec x):=by
 have:=Md (s:=x.1) h.1 (x.2.length-1) (by omega);rw[show x.2.length-1+1=x.2.length by omega,show x.2.length-1-(x.2.length-1)=0 by omega,List.drop_zero] at this;have hp:=(valL_pos h.1).2 (by intro e;rw[e] at hne;simp at hne);rw[this];unfold Lib.itoa dec;split;·rename_i hs;rw[if_pos (by omega)];simp;congr 1;omega
 ·rename_i hs;rw[if_neg (by omega)];simp
set_option maxRecDepth 100000 in
set_option maxHeartbeats 1000000 in
theorem wm(s:Bool)(p:Option Addr)(cap:Nat)(w:World):Calls Tryz.prog 144 #[.agg #[.bool s,.slice p 0 cap]] w fun e w'=>e= .returned (.string ⟨#[48]⟩)/\Below w.heap.size w w':=by
 go_enter Tryz.func144,Tryz.ntmps144
 go_wp2
 go_ret
 exact⟨rfl,(Below.refl _ _).alloc (Nat.le_refl _) _⟩
def Fh:Con:=fun l os=>match l,os with
 | [.z (.st (.pair .bool (.slice (.int .u32)))) x],[]=>some (WOK x/\x.2.length<CAP,[.z .str (Lib.itoa (dec x))],[])
 |_,_=>none
theorem Qu{B:aq}(hB:aN B):Valid B Tryz.prog 144 Fh:=by
 intro args os C rs os' hc hC O w vals ρ0 hOn hIo hO hOI hargs hown hap;unfold Fh at hc;split at hc;case h_2=>cases hc
 rename_i x;cases hc;obtain⟨v,rfl,hv⟩:=rU hargs;obtain⟨s,xs⟩:=x;obtain⟨hw,hcap⟩:=hC;have hcap:xs.length<1000000000000:=hcap;obtain⟨cs,rfl,hr⟩:=LF hv;obtain⟨c,d,rfl,h1,h2⟩:=hr;have h1:c=[.bool s]:=h1;subst h1;refine Fe ?_ (fun H w=>fL (ρ:=fun _=>undef));by_cases hne:xs.length=0
 ·have:xs=[]:=List.eq_nil_of_length_eq_zero hne;subst this;have hs:s=false:=hw.2 rfl;subst hs;have e:Lib.itoa (dec (false,[]))=[48]:=by
   simp[dec,valL,Lib.itoa];rw[Lib.decDigits,dif_pos (by omega)];rfl
  rw[e];rcases h2 with⟨rfl,_⟩|⟨b,o,p,cap,cells,rfl,_⟩;·exact wm false none 0 w
  ·exact wm false _ cap w
 ·rw[<- Qt hw (by simp only;omega)];rcases h2 with⟨rfl,h3⟩|⟨b,o,p,cap,cells,rfl,hp,h3,h4,h5,h6⟩;·simp only at h3;rw[h3] at hne;exact absurd rfl hne
  ·obtain rfl:=hp (fun e=>hne (by have e:xs=[]:=e;rw[e];rfl));have hcs:=oQ h5;(have hcn:cells≠[]:=fun e=>by rw[hcs] at e;simp at e;rw[e] at hne;exact hne rfl);refine IM s xs b o cap w (by omega) hw.1.1 (by omega) (h6.lt hcn) (fun j hj=>?_) (fun W hW=>hB.1 W (L8 hOn hW));(have hj':j<cells.length:=by rw[hcs];simpa using hj);rw[h6.2 j hj',hcs,List.getElem?_map,List.getElem?_eq_getElem hj];simp[List.getD_eq_getElem?_getD,List.getElem?_eq_getElem hj]
end Go.Proofs
end
section
namespace Go.Cm
open Go.Proofs
def dz(s p:List UInt8):Bool:=decide (p.length<=s.length)&&(s.take p.length==p)
def ar(s p:List UInt8):List UInt8:=if dz s p=true then s.drop p.length else s
theorem IP(s p:List UInt8):(decide ((p.length:Int)<=(s.length:Int))&&(List.drop (Int.toNat 0) (List.take (Int.toNat (p.length:Int)) s)==p))=dz s p:=by
 simp[dz]
def fZ(c:UInt8):Bool:=48<=c.toNat&&c.toNat<=57
def chk(s:List UInt8):Int:=
 if s=[48] then 0
 else if (ar s [45]).length=0∨(ar s [45]).getD 0 0=48 then 5
 else if (ar s [45]).all fZ=false then 5
 else if 2000<(ar s [45]).length then 6
 else 0
def ah(s:List UInt8):Int:=if dz s [45]=true then-(numOf (ar s [45]):Int) else (numOf (ar s [45]):Int)
theorem CY{s:List UInt8}(h:chk s=0):dD (ar s [45])/\0<(ar s [45]).length/\(ar s [45]).length<=2000/\(s≠[48]->(ar s [45]).getD 0 0≠48):=by
 unfold chk at h;split at h
 ·rename_i h0;subst h0;refine⟨?_,by decide,by decide,fun h=>absurd rfl h⟩;intro c hc;have:ar [48] [45]=[48]:=by decide
  rw[this] at hc;simp at hc;subst hc;decide
 ·split at h;·cases h
  ·rename_i h0 h1;simp only[not_or] at h1;split at h;·cases h
   ·(rename_i h2;split at h;·cases h);·refine⟨fun c hc=>?_,by omega,by omega,fun _=>h1.2⟩;(have h3:(ar s [45]).all fZ=true:=by simpa using h2);have:=List.all_eq_true.1 h3 c hc;simpa [fZ] using this
theorem Fi{a b:Int}(h:a<b):bg a b= -1:=by rw[bg,if_pos h]
theorem Fj{a b:Int}(h:b<a):bg a b=1:=by rw[bg,if_neg (by omega),if_pos h]
theorem IQ(a:Int):bg a a=0:=by rw[bg,if_neg (by omega),if_neg (by omega)]
theorem IR{x y:Bool×List Int}(hx:WOK x)(h:(bg (bg (dec x) 0) (bg (dec y) 0) !=0||((x.2.length:Int)==0))=true):bg (bg (dec x) 0) (bg (dec y) 0)=bg (dec x) (dec y):=by
 have h0:=(gC hx).1;simp only[Bool.or_eq_true,bne_iff_ne,beq_iff_eq] at h;rcases h with h|h
 ·unfold bg at h ⊢;split at h<;>split at h<;>(repeat' split)<;>first|omega|(exfalso;revert h;simp;done)|(exfalso;apply h;simp;done)|rfl
 ·have:=h0.1 h;rw[this];unfold bg
  (repeat' split)<;>first|omega|rfl
theorem tK{x y:Bool×List Int}(hx:WOK x)(hy:WOK y)(h:(bg (bg (dec x) 0) (bg (dec y) 0) !=0||((x.2.length:Int)==0))=false):
  (x.1=true->bg (valL y.2) (valL x.2)=bg (dec x) (dec y))/\(x.1=false->bg (valL x.2) (valL y.2)=bg (dec x) (dec y)):=by
 obtain⟨h1,h2⟩:=gC hx;obtain⟨h3,h4⟩:=gC hy;simp only[Bool.or_eq_false_iff,bne_eq_false_iff_eq,beq_eq_false_iff_ne] at h;obtain⟨h5,h6⟩:=h;have h5:=o5.1 h5;have hne:=h2 h6;have hy0:dec y≠0:=fun e=>by
  rw[e,IQ] at h5;exact h6 (h1.2 (o5.1 h5))
 have hyl:¬(y.2.length:Int)=0:=fun e=>hy0 (h3.1 e);have hne2:=h4 hyl;refine⟨fun e=>?_,fun e=>?_⟩
 ·have hxn:=hne.1 e;have hyn:y.1=true:=by
   cases hy1:y.1 with
   |true=>rfl
   |false=>have:=hne2.2 hy1;rw[Fi hxn,Fj this] at h5;cases h5
  simp only[dec,e,hyn,if_true];unfold bg
  (repeat' split)<;>first|omega|rfl
 ·have hxp:=hne.2 e;have hyn:y.1=false:=by
   cases hy1:y.1 with
   |false=>rfl
   |true=>have:=hne2.1 hy1;rw[Fj hxp,Fi this] at h5;cases h5
  simp only[dec,e,hyn,Bool.false_eq_true,if_false]
def cr(n:Int):Int:=((Lib.itoa n.natAbs).length:Int)
theorem wq:cr 0=1:=by
 unfold cr;simp[Lib.itoa];rw[Lib.decDigits,dif_pos (by omega)];rfl
theorem vN{u:Nat}{k v:Nat}(hv:0<v)(hu:u<10^k):(Lib.decDigits (u+10^k*v)).length=(Lib.decDigits v).length+k:=by
 rw[kt k u v hv hu,List.length_append];unfold tJ;split;·simp[*]
 ·rename_i hk;have:=lj hu (by omega);simp;omega
theorem z6:∀(l:List Int),Lim l->0<l.length->0<l.getLastD 1->((Lib.decDigits (valL l).toNat).length:Int)=9*((l.length:Int)-1)+((Lib.itoa (l.getLastD 1)).length:Int)
 | [x],h,_,hx=>by
  simp only[List.getLastD_cons,List.getLastD_nil] at hx ⊢;simp only[valL,Int.mul_zero,Int.add_zero,List.length_cons,List.length_nil];unfold Lib.itoa;rw[if_neg (by omega)];omega
 |x::y::r,h,_,hx=>by
  have h2:Lim (y::r):=fun z hz=>h z (by simp[hz]);have hxx:=h x (by simp);have hB:LB=1000000000:=rfl;have hlast:(x::y::r).getLastD 1=(y::r).getLastD 1:=by simp[List.getLastD_cons]
  rw[hlast] at hx ⊢;have ih:=z6 (y::r) h2 (by simp) hx;have hpos:0<valL (y::r):=(valL_pos ⟨h2,by omega⟩).2 (by simp);obtain⟨u,hu⟩:=Int.eq_ofNat_of_zero_le hxx.1;obtain⟨v,hv⟩:=Int.eq_ofNat_of_zero_le (Int.le_of_lt hpos);have e:(valL (x::y::r)).toNat=u+10^9*v:=by
   rw[valL,hu,hv,hB];omega
  have hul:u<10^9:=by have:=hxx.2;rw[hu,hB] at this;omega
  rw[e,vN (by omega) hul];rw[hv,Int.toNat_natCast] at ih;simp only[List.length_cons] at ih ⊢;omega
theorem IU{x:Bool×List Int}(h:WOK x)(hne:¬(x.2.length:Int)=0):cr (dec x)=9*((x.2.length:Int)-1)+((Lib.itoa (x.2.getLastD 1)).length:Int):=by
 have hl:0<x.2.length:=by omega
 have hlast:0<x.2.getLastD 1:=by
  have h1:=h.1.2;have h2:x.2.getLastD 1∈x.2:=by
   rw[List.getLastD_eq_getLast?,List.getLast?_eq_some_getLast (by intro e;rw[e] at hl;simp at hl)];exact List.getLast_mem _
  have:=(h.1.1 _ h2).1;omega
 rw[<- z6 x.2 h.1.1 hl hlast];unfold cr Lib.itoa dec;rw[if_neg (by omega)];have hv:=valL_nonneg h.1.1;split<;> · congr 3;omega
theorem z7{x:List Int}(h:Lim x)(hl:0<x.length):0<=x.getLastD 1/\x.getLastD 1<LB:=by
 have h2:x.getLastD 1∈x:=by
  rw[List.getLastD_eq_getLast?,List.getLast?_eq_some_getLast (by intro e;rw[e] at hl;simp at hl)];exact List.getLast_mem _
 exact h _ h2
theorem z8{x:Bool×List Int}(h:WOK x)(hc:x.2.length<CAP)(hne:¬(x.2.length:Int)=0):
  (0<=IntKind.i64.wrap ((x.2.length:Int)-1)/\IntKind.i64.wrap ((x.2.length:Int)-1)<(x.2.length:Int))/\nth (.int .u32) x.2 (IntKind.i64.wrap ((x.2.length:Int)-1))=x.2.getLastD 1/\
   IntKind.i64.wrap (x.2.getLastD 1)=x.2.getLastD 1/\IntKind.i64.wrap (IntKind.i64.wrap (9*IntKind.i64.wrap ((x.2.length:Int)-1))+((Lib.itoa (x.2.getLastD 1)).length:Int))=cr (dec x):=by
 have hc:x.2.length<1000000000000:=hc;have hl:0<x.2.length:=by omega
 have h1:=z7 h.1.1 hl;have h2:=rV h1.1 h1.2;have hB:LB=1000000000:=rfl;rw[wo,last_eq hl,wi (x:=9*_) (by omega) (by omega),wi (x:=x.2.getLastD 1) (by omega) (by omega),wo,IU h hne];exact⟨⟨by omega,by omega⟩,rfl,rfl,rfl⟩
theorem Fk(x:Int):IntKind.u64.wrap x=x%18446744073709551616:=by
 simp[IntKind.wrap,IntKind.signed,IntKind.bits]
theorem nm{n:Int}(h:I64 n):(n<0->IntKind.u64.wrap (0-IntKind.u64.wrap n)=(n.natAbs:Int))/\(¬n<0->IntKind.u64.wrap n=(n.natAbs:Int)):=by
 unfold I64 at h;refine⟨fun hn=>?_,fun hn=>?_⟩;·rw[Fk,Fk];omega
 ·rw[w64 (by omega) (by omega)];omega
theorem ry{u:Nat}{m:List Int}{n:Nat}(g1:m++limbs u=limbs n)(g2:u<18446744073709551616)(h:0<(u:Int)):
  ∃a:Nat,IntKind.u64.wrap ((u:Int).tdiv 1000000000)=(a:Int)/\m++ [IntKind.u32.wrap ((u:Int).tmod 1000000000)]++limbs a=limbs n/\a<18446744073709551616/\a<u:=by
 have hB:LB=1000000000:=rfl;obtain⟨e1,e2⟩:=tdiv_nn (n:=(u:Int)) (by omega);rw[e1,e2,hB];refine⟨u/1000000000,?_,?_,by omega,by omega⟩;·rw[w64 (by omega) (by omega)];omega
 ·rw[w32 (by omega) (by omega),<- g1];conv=>rhs;rw[limbs,dif_neg (by omega)]
  simp
theorem oo{n:Nat}(h:n<18446744073709551616):(limbs n).length<=3:=limbs_len (k:=3) (by
 have:LB^3=1000000000000000000000000000:=rfl;rw[this];omega)
theorem nn{n:Int}(h:I64 n):WOK (enc n)/\(enc n).2.length<CAP/\(enc n).2.length<=3:=by
 unfold I64 at h;have:=oo (n:=n.natAbs) (by omega);exact⟨enc_ok n,Nat.lt_of_le_of_lt this (by unfold CAP;omega),this⟩
theorem Me{l:List Int}:l.drop (l.length-0)=[]:=by simp
theorem Aa{m:List Int}{k:Nat}{z:Int}(hm:Lim m)(h2:m.length<=2)(hk:k<m.length)(hz:z=valL (m.drop (m.length-k))):
  IntKind.u64.wrap (IntKind.u64.wrap (z*1000000000)+IntKind.u64.wrap (m.getD (m.length-1-k) 0))=valL (m.drop (m.length-(k+1))):=by
 have hB:LB=1000000000:=rfl;have hx:=hm.getD (m.length-1-k);have hs:=gD hk;have hl:Lim (m.drop (m.length-k)):=fun x hx=>hm x (List.mem_of_mem_drop hx);have h0:=valL_nonneg hl;have h1:=valL_lt hl;have h3:(m.drop (m.length-k)).length=k:=by simp;omega
 rw[h3] at h1;have h4:LB^k<=LB^1:=pow_mono (by omega);have h5:LB^1=1000000000:=rfl;rw[<- hz] at h0 h1 hs;rw[show m.length-(k+1)=m.length-1-k by omega,hs];rw[hB] at hx ⊢;rw[w64 hx.1 (by omega),w64 (x:=z*1000000000) (by omega) (by omega),w64 (by omega) (by omega)];omega
theorem set_drop{l:List Int}{j:Nat}{v:Int}(h:j<l.length):(l.set j v).drop j=v::l.drop (j+1):=by
 rw[List.set_eq_take_append_cons_drop,if_pos h,List.drop_append_of_le_length (by simp;omega)];simp[List.drop_take]
theorem rz{l:List Int}{i j:Nat}{v:Int}(h:i<j):(l.set i v).drop j=l.drop j:=by
 rw[List.drop_set];simp;omega
theorem Ab{m out:List Int}{k:Nat}{r b:Int}(hm:Lim m)(hb0:0<b)(hb1:b<LB)(hk:k<m.length)(g1:out.length=m.length)(g2:Lim out)(g3:0<=r)(g4:r<b)
  (g5:valL (out.drop (m.length-k))*b+r=valL (m.drop (m.length-k))) {n:Int} (hn:n=r*1000000000+m.getD (m.length-1-k) 0):
  0<=n/\n<18446744073709551616/\0<=n/b/\n/b<LB/\(out.set (m.length-1-k) (n/b)).length=m.length/\Lim (out.set (m.length-1-k) (n/b))/\0<=n%b/\n%b<b/\
   valL ((out.set (m.length-1-k) (n/b)).drop (m.length-(k+1)))*b+n%b=valL (m.drop (m.length-(k+1))):=by
 have hB:LB=1000000000:=rfl;have hx:=hm.getD (m.length-1-k);have hs:=gD hk;have h0:0<=r*1000000000:=by omega
 have hq:n/b<LB:=Int.ediv_lt_of_lt_mul hb0 (by
  have:r*LB+LB<=b*LB:=by
   have h:=Int.mul_le_mul_of_nonneg_right (show r+1<=b by omega) (show (0:Int)<=LB by decide);rw[Int.add_mul,Int.one_mul] at h;exact h
  rw[hB] at this hx ⊢;rw[Int.mul_comm];omega)
 have hq0:0<=n/b:=Int.ediv_nonneg (by omega) (by omega);have e:n%b+b*(n/b)=n:=Int.emod_add_mul_ediv n b;refine⟨by omega,by rw[hB] at hx hb1;omega,hq0,hq,by simp[g1],set_lim g2 hq0 hq,Int.emod_nonneg _ (by omega),Int.emod_lt_of_pos _ hb0,?_⟩;rw[show m.length-(k+1)=m.length-1-k by omega,hs,set_drop (by omega),valL,show m.length-1-k+1=m.length-k by omega,<- g5,Int.add_mul,Int.mul_assoc,Int.mul_add,Int.mul_comm (n/b)];have hLr:LB*r=r*1000000000:=by rw[hB,Int.mul_comm]
 omega
def Ac(b:Int):Prop:=0<b/\b<LB
def Ad(b:Int):Prop:=0<=b/\b<LB
def mm(m:List Int)(b:Int)(k:Nat)(r:Int)(out:List Int):Prop:=
 out.length=m.length/\Lim out/\0<=r/\r<b/\valL (out.drop (m.length-k))*b+r=valL (m.drop (m.length-k))
def kJ(m:List Int)(b:Int)(k:Nat)(c:Int)(out:List Int):Prop:=
 k<=m.length/\out.length=k/\Lim out/\0<=c/\c<LB/\valL out+LB^k*c=valL (m.take k)*b
theorem IV{m out:List Int}{r b:Int}(hm:Lim m)(hb0:0<b)(g1:out.length=m.length)(g2:Lim out)(g3:0<=r)(g4:r<b)(g5:valL out*b+r=valL m):
  out=padL (valL m/b).toNat m.length/\r=valL m%b:=by
 have h0:=valL_nonneg g2;have e1:valL m/b=valL out:=by
  rw[<- g5,Int.add_comm,Int.add_mul_ediv_right _ _ (by omega),Int.ediv_eq_zero_of_lt g3 g4,Int.zero_add]
 have e2:valL m%b=r:=by
  rw[<- g5,Int.add_comm,Int.add_mul_emod_self_right,Int.emod_eq_of_lt g3 g4]
 exact⟨g2.pad g1 (by rw[e1];omega),e2.symm⟩
theorem yl{m out:List Int}{k:Nat}{c b:Int}(hm:Lim m)(hb0:0<=b)(hb1:b<LB)(g2:out.length=k)(g3:Lim out)(g4:0<=c)(g5:c<LB)(g6:valL out+LB^k*c=valL (m.take k)*b):
  IntKind.u64.wrap (IntKind.u64.wrap (IntKind.u64.wrap (m.getD k 0)*IntKind.u64.wrap b)+c)=m.getD k 0*b+c/\IntKind.u32.wrap ((m.getD k 0*b+c).tmod 1000000000)=(m.getD k 0*b+c)%LB/\IntKind.u64.wrap ((m.getD k 0*b+c).tdiv 1000000000)=(m.getD k 0*b+c)/LB/\
   Lim (out++ [(m.getD k 0*b+c)%LB])/\0<=(m.getD k 0*b+c)/LB/\(m.getD k 0*b+c)/LB<LB/\valL (out++ [(m.getD k 0*b+c)%LB])+LB^(k+1)*((m.getD k 0*b+c)/LB)=valL (m.take (k+1))*b:=by
 have hx:=hm.getD k;have hbd:=mul_bound hx ⟨hb0,hb1⟩ (a:=0) (c:=c) ⟨by omega,by decide⟩ ⟨g4,g5⟩;have hB:LB=1000000000:=rfl;have h4:LB*LB=1000000000000000000:=rfl;obtain⟨n,hn⟩:∃n,n=m.getD k 0*b+c:=⟨_,rfl⟩;have hn0:0<=n:=by omega
 have hn1:n<LB*LB:=by omega
 obtain⟨e1,e2,e3⟩:=qs hn0 hn1;have hr:0<=n%LB/\n%LB<LB:=⟨Int.emod_nonneg _ (by decide),Int.emod_lt_of_pos _ (by decide)⟩;rw[w64 hx.1 (by omega),w64 hb0 (by omega),w64 hbd.1 (by omega),<- hn];refine⟨e1,e2,e3,g3.append (Lim.one hr.1 hr.2),Int.ediv_nonneg hn0 (by decide),Int.ediv_lt_of_lt_mul (by decide) hn1,?_⟩;rw[valL_append,valL_one,g2,take_val,Int.pow_succ];have h1:n%LB+LB*(n/LB)=n:=Int.emod_add_mul_ediv n LB;have h2:LB^k*(n%LB)+LB^k*LB*(n/LB)=LB^k*n:=by rw[Int.mul_assoc,<- Int.mul_add,h1]
 have h3:LB^k*n=LB^k*m.getD k 0*b+LB^k*c:=by rw[hn,Int.mul_add,Int.mul_assoc]
 rw[Int.add_mul];omega
theorem CZ{m out:List Int}{c b:Int}(hm:Lim m)(hb0:0<=b)(g2:out.length=m.length)(g3:Lim out)(g4:0<=c)(g5:c<LB)(g6:valL out+LB^m.length*c=valL m*b):
  out++ [IntKind.u32.wrap c]=padL (valL m*b).toNat (m.length+1):=by
 have hB:LB=1000000000:=rfl;rw[w32 g4 (by omega)];refine(g3.append (Lim.one g4 g5)).pad (by simp[g2]) ?_;have h0:0<=valL m*b:=Int.mul_nonneg (valL_nonneg hm) hb0;rw[valL_append,valL_one,g2,g6];omega
theorem Ae{m:List Int}{b:Int}(hb:Ac b):mm m b 0 0 (List.replicate m.length 0):=by
 obtain⟨r1,r2,r3⟩:=replicate_zero m.length;refine⟨by simp,r1,Int.le_refl _,hb.1,?_⟩;simp[valL]
theorem IW{len k:Nat}(h:k<len):((len:Int)-1-(k:Int)).toNat=len-1-k:=by omega
theorem C3{m out:List Int}{k:Nat}{r b:Int}(hm:Lim m)(hb:Ac b)(hk:k<m.length)(h:mm m b k r out):
  mm m b (k+1) ((IntKind.u64.wrap (IntKind.u64.wrap (r*1000000000)+IntKind.u64.wrap (m.getD (m.length-1-k) 0))).tmod (IntKind.u64.wrap b))
   (out.set ((m.length:Int)-1-(k:Int)).toNat (IntKind.u32.wrap (IntKind.u64.wrap ((IntKind.u64.wrap (IntKind.u64.wrap (r*1000000000)+IntKind.u64.wrap (m.getD (m.length-1-k) 0))).tdiv (IntKind.u64.wrap b))))):=by
 obtain⟨g1,g2,g3,g4,g5⟩:=h;obtain⟨b0,b1⟩:=hb;obtain⟨n0,n1,n2,n3,n4,n5,n6,n7,n8⟩:=Ab hm b0 b1 hk g1 g2 g3 g4 g5 rfl;have hx:=hm.getD (m.length-1-k);have hB:LB=1000000000:=rfl;have e1:r*1000000000<=1000000000*1000000000:=Int.mul_le_mul_of_nonneg_right (by omega) (by decide);rw[w64 hx.1 (by omega),w64 (x:=r*1000000000) (by omega) (by omega),w64 (x:=b) (by omega) (by omega),w64 n0 n1,Int.tdiv_eq_ediv_of_nonneg n0,Int.tmod_eq_emod_of_nonneg n0,w64 n2 (by omega),w32 n2 (by omega),IW hk];exact⟨n4,n5,n6,n7,n8⟩
theorem Fl{b:Int}(hb:Ac b):IntKind.u64.wrap b≠0:=by
 obtain⟨b0,b1⟩:=hb;have hB:LB=1000000000:=rfl;rw[w64 (by omega) (by omega)];omega
theorem IX{m out:List Int}{r b:Int}(hm:Lim m)(hb:Ac b)(h:mm m b m.length r out):
  out=padL (valL m/b).toNat m.length/\IntKind.u32.wrap r=valL m%b:=by
 obtain⟨g1,g2,g3,g4,g5⟩:=h;have hB:LB=1000000000:=rfl;obtain⟨b0,b1⟩:=hb;rw[Nat.sub_self,List.drop_zero,List.drop_zero] at g5;obtain⟨h1,h2⟩:=IV hm b0 g1 g2 g3 g4 g5;rw[w32 g3 (by omega)];exact⟨h1,h2⟩
theorem ym{m:List Int}{b:Int}:kJ m b 0 0 []:=by
 refine⟨by omega,rfl,fun x hx=>by simp at hx,by decide,by decide,by simp[valL]⟩
theorem Af{m out:List Int}{k:Nat}{c b:Int}(hm:Lim m)(hl:m.length<CAP)(hb:Ad b)(hk:(k:Int)<(m.length:Int))(h:kJ m b k c out):
  ∃a:Nat,IntKind.i64.wrap ((k:Int)+1)=(a:Int)/\kJ m b a
   (IntKind.u64.wrap ((IntKind.u64.wrap (IntKind.u64.wrap (IntKind.u64.wrap (nth (Ty.int IntKind.u32) m (k:Int))*IntKind.u64.wrap b)+c)).tdiv 1000000000))
   (out++ [IntKind.u32.wrap ((IntKind.u64.wrap (IntKind.u64.wrap (IntKind.u64.wrap (nth (Ty.int IntKind.u32) m (k:Int))*IntKind.u64.wrap b)+c)).tmod 1000000000)])/\m.length-a<m.length-k:=by
 obtain⟨g1,g2,g3,g4,g5,g6⟩:=h;have hC:CAP=1000000000000:=rfl;obtain⟨q1,q2,q3,q4,q5,q6,q7⟩:=yl hm hb.1 hb.2 g2 g3 g4 g5 g6;refine⟨k+1,by rw[wo];simp,?_,by omega⟩;rw[gB,q1,q2,q3];exact⟨by omega,by simp[g2],q4,q5,q6,q7⟩
theorem C4{m out:List Int}{k:Nat}{c b:Int}(hm:Lim m)(hb:Ad b)(hk:¬(k:Int)<(m.length:Int))(h:kJ m b k c out):
  out++ [IntKind.u32.wrap c]=padL (valL m*b).toNat (m.length+1):=by
 obtain⟨g1,g2,g3,g4,g5,g6⟩:=h;have:k=m.length:=by omega
 subst this;rw[List.take_length] at g6;exact CZ hm hb.1 g2 g3 g4 g5 g6
theorem fF(s p:List UInt8):(ar s p).length<=s.length:=by
 unfold ar;split<;>simp
theorem mn:chk [48]=0:=by decide
theorem jq{s:List UInt8}(h0:s≠[48])(h:ar s [45]=[]∨(ar s [45]).getD 0 0=48):chk s=5:=by
 unfold chk;rw[if_neg h0,if_pos (h.imp (fun h=>by rw[h];rfl) id)]
theorem Ag{c:UInt8}(h1:¬(c.toNat:Int)<48)(h2:¬(57:Int)<(c.toNat:Int)):fZ c=true:=by
 unfold fZ;simp;omega
theorem np{s:List UInt8}{k:Nat}(h0:s≠[48])(h:¬(ar s [45]=[]∨(ar s [45]).getD 0 0=48))(hk:k<(ar s [45]).length)
  (hb:((ar s [45]).getD k 0).toNat<48∨57<((ar s [45]).getD k 0).toNat):chk s=5:=by
 unfold chk;rw[if_neg h0,if_neg (fun h'=>h (h'.imp (fun h=>List.eq_nil_of_length_eq_zero h) id)),if_pos];rw[Bool.eq_false_iff];intro ha;have:=List.all_eq_true.1 ha ((ar s [45]).getD k 0) (by
  rw[List.getD_eq_getElem?_getD,List.getElem?_eq_getElem hk];exact List.getElem_mem hk)
 unfold fZ at this;simp only[Bool.and_eq_true,decide_eq_true_eq] at this;omega
theorem jD{s:List UInt8}(h0:s≠[48])(h:¬(ar s [45]=[]∨(ar s [45]).getD 0 0=48))(ha:(ar s [45]).all fZ=true):
  chk s=if 2000<(ar s [45]).length then 6 else 0:=by
 unfold chk;rw[if_neg h0,if_neg (fun h'=>h (h'.imp (fun h=>List.eq_nil_of_length_eq_zero h) id)),if_neg (by rw[ha];decide)]
theorem nR{l:List UInt8}{k:Nat}(h:(l.take k).all fZ=true)(hd:fZ (l.getD k 0)=true):(l.take (k+1)).all fZ=true:=by
 by_cases hk:k<l.length
 ·rw[List.take_add_one,List.all_append,h,List.getElem?_eq_getElem hk];rw[List.getD_eq_getElem?_getD,List.getElem?_eq_getElem hk] at hd;simpa using hd
 ·rw[List.take_of_length_le (by omega)] at h ⊢;exact h
theorem dU(l:List UInt8):(bytesOf l).length=l.length:=by simp[bytesOf]
theorem wt(l:List UInt8)(k:Nat):nth (.int .u8) (bytesOf l) (k:Int)=((l.getD k 0).toNat:Int):=by
 show (bytesOf l).getD (k:Int).toNat 0=_;rw[Int.toNat_natCast,bytesOf];simp only[List.getD_eq_getElem?_getD,List.getElem?_map];cases l[k]? <;>simp
theorem C5{s p:List UInt8}(hp:0<p.length):dz s p=decide ((ar s p).length<s.length):=by
 unfold ar;split<;>rename_i h;·rw[h];unfold dz at h;simp only[Bool.and_eq_true,decide_eq_true_eq] at h;simp;omega
 ·simp only[Bool.not_eq_true] at h;rw[h];simp
theorem gE(a b:List UInt8):numOf (a++b)=numOf a*10^b.length+numOf b:=by
 have key:∀(b:List UInt8) (x:Nat),b.foldl (fun n c=>n*10+(c.toNat-48)) x=x*10^b.length+b.foldl (fun n c=>n*10+(c.toNat-48)) 0:=by
  intro b;induction b with
  |nil=>intro x;simp
  |cons c b ih=>
   intro x;rw[List.foldl_cons,ih,List.foldl_cons,ih (0*10+(c.toNat-48)),List.length_cons,Nat.pow_succ];rw[Nat.zero_mul,Nat.zero_add,Nat.add_mul,Nat.mul_assoc,Nat.mul_comm 10,Nat.add_assoc]
 unfold numOf;rw[List.foldl_append,key]
def ReadPhi(D:List UInt8)(r:Nat)(out:List Int):Prop:=
 out.length=r/\Lim out/\valL out=(numOf (D.drop (D.length-9*r)):Int)/\9*r<D.length+9
theorem read_start{D:List UInt8}:ReadPhi D 0 []:=by
 refine⟨rfl,fun x hx=>by simp at hx,?_,by omega⟩;simp[valL,numOf]
theorem Qv(r:Nat):(LB^r:Int)=((10^(9*r):Nat):Int):=by
 rw[Nat.pow_mul];show (1000000000:Int)^r=((1000000000^r:Nat):Int);rw[Int.natCast_pow];rfl
theorem read_next{D:List UInt8}{r:Nat}{out:List Int}(hd:dD D)(h:ReadPhi D r out)(hr:0<(D.length:Int)-9*(r:Int)){c:List UInt8}
  (hc:c=(D.take (D.length-9*r)).drop (D.length-9*(r+1))):
  c≠[]/\dD c/\c.length<=9/\ReadPhi D (r+1) (out++ [IntKind.u32.wrap (numOf c)])/\D.length-9*(r+1)<=D.length-9*r:=by
 obtain⟨h1,h2,h3,h4⟩:=h;have hl:c.length=(D.length-9*r)-(D.length-9*(r+1)):=by rw[hc,List.length_drop,List.length_take];omega
 have hdc:dD c:=fun x hx=>hd x (by rw[hc] at hx;exact List.mem_of_mem_take (List.mem_of_mem_drop hx));have hn:=fE hdc;have hn9:10^c.length<=10^9:=Nat.pow_le_pow_right (by omega) (by omega);have e:D.drop (D.length-9*(r+1))=c++D.drop (D.length-9*r):=by
  rw[hc];have hle:D.length-9*(r+1)<=D.length-9*r:=by omega
  have hle2:D.length-9*r<=D.length:=by omega
  generalize D.length-9*(r+1)=j at hle;generalize D.length-9*r=i at hle hle2;conv=>lhs;rw[<- List.take_append_drop i D]
  rw[List.drop_append_of_le_length (by rw[List.length_take];omega)]
 have hB:LB=1000000000:=rfl;have hw:IntKind.u32.wrap (numOf c:Int)=(numOf c:Int):=w32 (by omega) (by omega);refine⟨fun h0=>by rw[h0] at hl;simp at hl;omega,hdc,by omega,⟨by simp[h1],?_,?_,by omega⟩,by omega⟩;·rw[hw];exact h2.append (Lim.one (by omega) (by omega))
 ·rw[hw,valL_append,valL_one,h3,h1,e,gE,Qv,show (D.drop (D.length-9*r)).length=9*r by rw[List.length_drop];omega];rw[Int.natCast_add,Int.natCast_mul,Int.mul_comm,Int.add_comm]
theorem read_end{s:List UInt8}{r:Nat}{out:List Int}(h:ReadPhi (ar s [45]) r out)(hr:¬0<((ar s [45]).length:Int)-9*(r:Int)):
  dec (decide ((ar s [45]).length<s.length),out)=ah s:=by
 obtain⟨h1,h2,h3,h4⟩:=h;rw[show (ar s [45]).length-9*r=0 by omega,List.drop_zero] at h3;unfold dec ah;rw[C5 (by simp)];simp only[h3]
def o8(s:List UInt8):Prop:=s.length<70368744177664
theorem Mf(D:List UInt8):((!D==[])=true->(!D==[])=true/\(0:Int)<=0/\(0:Int)<(D.length:Int))/\((!D==[])=true->(!D==[])=true)/\((D==[])=false->(!D==[])=true):=by
 cases D with
 |nil=>simp
 |cons c l=>exact⟨fun h=>⟨h,by omega,by simp⟩,fun h=>h,fun h=>by rw[h];rfl⟩
theorem js(D:List UInt8):(D==[]||((D.getD (Int.toNat 0) 0).toNat:Int)==48)=true↔(D=[]∨D.getD 0 0=48):=by
 have e:∀c:UInt8,((c.toNat:Int)==48)=true↔c=48:=fun c=>by
  rw[beq_iff_eq];constructor;·intro h;exact UInt8.toNat.inj (by show c.toNat=48;omega)
  ·rintro rfl;rfl
 rw[Bool.or_eq_true,e];simp
theorem eL{D:List UInt8}(h:(D==[]||((D.getD (Int.toNat 0) 0).toNat:Int)==48)=false):¬(D=[]∨D.getD 0 0=48):=by
 rw[<- js,h];decide
theorem mo{D:List UInt8}{k:Nat}(h:(decide (nth (Ty.int IntKind.u8) (bytesOf D) (k:Int)<48)||decide (57<nth (Ty.int IntKind.u8) (bytesOf D) (k:Int)))=true):
  (D.getD k 0).toNat<48∨57<(D.getD k 0).toNat:=by
 rw[wt] at h;simp only[Bool.or_eq_true,decide_eq_true_eq] at h;refine h.imp (fun h=>?_) (fun h=>?_);·have h':((D.getD k 0).toNat:Int)<48:=h;omega
 ·have h':(57:Int)<((D.getD k 0).toNat:Int):=h;omega
theorem IY{D:List UInt8}{k:Nat}(h:(decide (nth (Ty.int IntKind.u8) (bytesOf D) (k:Int)<48)||decide (57<nth (Ty.int IntKind.u8) (bytesOf D) (k:Int)))=false):fZ (D.getD k 0)=true:=by
 rw[wt] at h;simp only[Bool.or_eq_false_iff,decide_eq_false_iff_not] at h;exact Ag h.1 h.2
def put(xs:List Int)(k:Nat)(v:Int):List Int:=padL (v%LB^k).toNat k++xs.drop k
theorem lbpos(k:Nat):0<LB^k:=Int.pow_pos (by decide)
theorem Fm(v:Int)(k:Nat):valL (padL (v%LB^k).toNat k)=v%LB^k:=by
 have h0:=Int.emod_nonneg v (Int.ne_of_gt (lbpos k));have h1:=Int.emod_lt_of_pos v (lbpos k);rw[padL_val _ _ (by omega)];omega
theorem yn{xs:List Int}{k:Nat}(v:Int)(h:k<=xs.length):(put xs k v).length=xs.length:=by
 unfold put;rw[List.length_append,padL_len,List.length_drop];omega
theorem Fo{xs:List Int}(h:Lim xs)(k:Nat)(v:Int):Lim (put xs k v):=(padL_lim _ _).append fun x hx=>h x (List.mem_of_mem_drop hx)
theorem Mg{xs:List Int}{k:Nat}(v:Int):(put xs k v).take k=padL (v%LB^k).toNat k:=by
 unfold put;rw[List.take_append_of_le_length (by rw[padL_len];omega),List.take_of_length_le (by rw[padL_len];omega)]
theorem Mh{xs:List Int}{k:Nat}(v:Int):(put xs k v).drop k=xs.drop k:=by
 unfold put;rw[List.drop_append,padL_len,List.drop_eq_nil_of_le (by rw[padL_len];omega),Nat.sub_self];rfl
theorem Qw{xs:List Int}{k:Nat}(v u:Int):put (put xs k v) k (valL ((put xs k v).take k)+u)=put xs k (v+u):=by
 rw[Mg,Fm];have:(v%LB^k+u)%LB^k=(v+u)%LB^k:=by rw[Int.emod_add_emod]
 rw[put,this,Mh,put]
theorem Mi{xs xs0:List Int}{k:Nat}{v b:Int}(h:Lim xs)(hl:k<=xs.length)(hd:xs.drop k=xs0.drop k)(hv:valL (xs.take k)=v+LB^k*b):xs=put xs0 k v:=by
 have hlim:Lim (xs.take k):=fun x hx=>h x (List.mem_of_mem_take hx);have hlen:(xs.take k).length=k:=by rw[List.length_take];omega
 have h0:=valL_nonneg hlim;have h1:=valL_lt hlim;rw[hlen] at h1;have e:v%LB^k=valL (xs.take k):=by
  rw[show v=valL (xs.take k)+LB^k*(-b) by rw[Int.mul_neg,hv];omega,Int.add_mul_emod_self_left,Int.emod_eq_of_lt h0 h1]
 have e2:=hlim.pad hlen (v:=(v%LB^k).toNat) (by rw[e];omega);unfold put;rw[<- e2,<- hd,List.take_append_drop]
def lk(xs0 o:List Int)(q:Int)(i:Nat)(c b:Int)(xs:List Int):Prop:=
 i<=o.length+1/\xs.length=xs0.length/\Lim xs/\xs.drop i=xs0.drop i/\(0<=c/\c<LB)/\(i=o.length+1->c=0)/\(0<=b/\b<=1)/\
  valL (xs.take i)+q*valL (o.take i)=valL (xs0.take i)+LB^i*(c+b)
theorem C6{xs o:List Int}{q:Int}(h:Lim xs):lk xs o q 0 0 0 xs:=
 ⟨by omega,rfl,h,rfl,⟨by decide,by decide⟩,fun _=>rfl,⟨by decide,by decide⟩,by simp[valL]⟩
theorem wu{xs xs0:List Int}{i:Nat}(h:xs.drop i=xs0.drop i):xs.getD i 0=xs0.getD i 0:=by
 have e:∀l:List Int,l.getD i 0=(l.drop i).getD 0 0:=fun l=>by simp[List.getD_eq_getElem?_getD]
 rw[e,e,h]
theorem C7{o:List Int}{q c:Int}(i:Nat)(ho:Lim o)(hq:0<=q/\q<LB)(hc:0<=c/\c<LB):0<=c+q*o.getD i 0/\c+q*o.getD i 0<LB*LB/\0<=q*o.getD i 0/\q*o.getD i 0<=LB*LB:=by
 have hb:=mul_bound hq (ho.getD i) (a:=0) (c:=c) ⟨by decide,by decide⟩ hc;omega
theorem rA{xs:List Int}{i:Nat}{v:Int}:(xs.set i v).take i=xs.take i:=by
 rw[List.take_set,List.set_eq_of_length_le (by rw[List.length_take];omega)]
theorem Ah{xs:List Int}{i:Nat}{v:Int}(h:i<xs.length):(xs.set i v).getD i 0=v:=by
 simp[List.getD_eq_getElem?_getD,h]
theorem C8{xs0 o xs:List Int}{q c b n v b2:Int}{i:Nat}(ho:Lim o)(hq:0<=q/\q<LB)(hlen:o.length+1<=xs0.length)(h:lk xs0 o q i c b xs)(hi:i<o.length+1)(hn:n=c+q*o.getD i 0)
  (hv:0<=v/\v<LB) (hb2:0<=b2/\b2<=1) (he:v-LB*b2=xs.getD i 0-n%LB-b):lk xs0 o q (i+1) (n/LB) b2 (xs.set i v):=by
 obtain⟨g1,g2,g3,g4,g5,g6,g7,g8⟩:=h;obtain⟨n0,n1,n2,n3⟩:=C7 i ho hq g5;rw[<- hn] at n0 n1;have hm:n%LB+LB*(n/LB)=n:=Int.emod_add_mul_ediv n LB;refine⟨by omega,by rw[List.length_set,g2],set_lim g3 hv.1 hv.2,?_,⟨Int.ediv_nonneg n0 (by decide),Int.ediv_lt_of_lt_mul (by decide) n1⟩,fun h=>?_,hb2,?_⟩;·rw[rz (by omega),<- List.drop_drop,g4,List.drop_drop]
 ·have hz:o.getD i 0=0:=by rw[List.getD_eq_getElem?_getD,List.getElem?_eq_none (by omega)];rfl
  rw[hn,hz,Int.mul_zero,Int.add_zero];exact Int.ediv_eq_zero_of_lt g5.1 g5.2
 ·rw[take_val,take_val,take_val,rA,Ah (by omega),<- wu g4,Int.mul_add,Int.pow_succ];have e1:q*(LB^i*o.getD i 0)=LB^i*(q*o.getD i 0):=by rw[<- Int.mul_assoc,Int.mul_comm q,Int.mul_assoc]
  have e2:LB^i*v+LB^i*(q*o.getD i 0)+LB^i*(c+b)=LB^i*(v+q*o.getD i 0+(c+b)):=by simp only[Int.mul_add]
  have e3:LB^i*LB*(n/LB+b2)+LB^i*xs.getD i 0=LB^i*(LB*(n/LB+b2)+xs.getD i 0):=by simp only[Int.mul_add,Int.mul_assoc]
  have e4:v+q*o.getD i 0+(c+b)=LB*(n/LB+b2)+xs.getD i 0:=by rw[Int.mul_add];omega
  rw[e4] at e2;rw[e1];omega
theorem Ai{xs0 o xs:List Int}{q c b:Int}{i:Nat}(hlen:o.length+1<=xs0.length)(h:lk xs0 o q i c b xs)(hi:¬i<o.length+1):
  xs=put xs0 (o.length+1) (valL (xs0.take (o.length+1))-q*valL o)/\decide (0<b)=decide (valL (xs0.take (o.length+1))<q*valL o):=by
 obtain⟨g1,g2,g3,g4,g5,g6,g7,g8⟩:=h;have:i=o.length+1:=by omega
 subst this;rw[g6 rfl,Int.zero_add,List.take_of_length_le (l:=o) (by omega)] at g8;refine⟨Mi (b:=b) g3 (by omega) g4 (by omega),?_⟩;have hlim:Lim (xs.take (o.length+1)):=fun x hx=>g3 x (List.mem_of_mem_take hx);have h0:=valL_nonneg hlim;have h1:=valL_lt hlim;rw[show (xs.take (o.length+1)).length=o.length+1 by rw[List.length_take];omega] at h1;congr 1;by_cases hb:b=0;·subst hb;simp only[Int.mul_zero] at g8;exact propext ⟨fun h=>by omega,fun h=>by omega⟩
 ·have:b=1:=by omega
  subst this;simp only[Int.mul_one] at g8;exact propext ⟨fun h=>by omega,fun h=>by omega⟩
def lu(xs0 o:List Int)(i:Nat)(c:Int)(xs:List Int):Prop:=
 i<=o.length+1/\xs.length=xs0.length/\Lim xs/\xs.drop i=xs0.drop i/\(0<=c/\c<=1)/\valL (xs.take i)+LB^i*c=valL (xs0.take i)+valL (o.take i)
theorem C9{xs o:List Int}(h:Lim xs):lu xs o 0 0 xs:=⟨by omega,rfl,h,rfl,⟨by decide,by decide⟩,by simp[valL]⟩
theorem Da{xs0 o xs:List Int}{c n:Int}{i:Nat}(ho:Lim o)(hlen:o.length+1<=xs0.length)(h:lu xs0 o i c xs)(hi:i<o.length+1)(hn:n=xs.getD i 0+c+o.getD i 0):
  lu xs0 o (i+1) (IntKind.u32.wrap (n.tdiv 1000000000)) (xs.set i (IntKind.u32.wrap (n.tmod 1000000000))):=by
 obtain⟨g1,g2,g3,g4,g5,g6⟩:=h;have hx:=g3.getD i;have ho:=ho.getD i;have hB:LB=1000000000:=rfl;have n0:0<=n:=by omega
 have hm:n%LB+LB*(n/LB)=n:=Int.emod_add_mul_ediv n LB;have hr:0<=n%LB/\n%LB<LB:=⟨Int.emod_nonneg _ (by decide),Int.emod_lt_of_pos _ (by decide)⟩;have hq0:0<=n/LB:=Int.ediv_nonneg n0 (by decide);have hq1:n/LB<=1:=by rw[hB] at hx ho ⊢;omega
 rw[(tdiv_nn n0).1,(tdiv_nn n0).2,w32 hr.1 (by omega),w32 (x:=n/LB) (by omega) (by omega)];refine⟨by omega,by rw[List.length_set,g2],set_lim g3 hr.1 hr.2,?_,⟨hq0,hq1⟩,?_⟩;·rw[rz (by omega),<- List.drop_drop,g4,List.drop_drop]
 ·rw[take_val,take_val,take_val,rA,Ah (by omega),<- wu g4,Int.pow_succ];have e2:LB^i*(n%LB)+LB^i*LB*(n/LB)=LB^i*n:=by rw[Int.mul_assoc,<- Int.mul_add,hm]
  have e3:LB^i*n=LB^i*xs.getD i 0+LB^i*c+LB^i*o.getD i 0:=by rw[hn,Int.mul_add,Int.mul_add]
  omega
theorem Mj{xs0 o xs:List Int}{c:Int}{i:Nat}(hlen:o.length+1<=xs0.length)(h:lu xs0 o i c xs)(hi:¬i<o.length+1):
  xs=put xs0 (o.length+1) (valL (xs0.take (o.length+1))+valL o):=by
 obtain⟨g1,g2,g3,g4,g5,g6⟩:=h;have:i=o.length+1:=by omega
 subst this;rw[List.take_of_length_le (l:=o) (by omega)] at g6;exact Mi (b:= -c) g3 (by omega) g4 (by rw[Int.mul_neg];omega)
end Go.Cm
end
section
namespace Go.Cm
open Go.Proofs
structure rB (X V P top t2 D1 D2:Int):Prop where
 hP:0<P
 hX0:(top*LB+t2)*P<=X
 hX1:X<(top*LB+t2)*P+P
 ht:0<=t2/\t2<LB
 htop:0<=top
 hV0:(D1*LB+D2)*P<=V
 hV1:V<(D1*LB+D2)*P+P
 hD1:1<=D1
 hD2:0<=D2/\D2<LB
 hXV:X<V*LB
namespace rB
variable {X V P top t2 D1 D2:Int} (g:rB X V P top t2 D1 D2)
include g
theorem vpos:0<V:=by
 have h1:0<D1*LB+D2:=by
  have:=Int.mul_le_mul_of_nonneg_right g.hD1 (show (0:Int)<=LB by decide);have:=g.hD2.1;have:(0:Int)<LB:=by decide
  omega
 have:=Int.mul_pos h1 g.hP;have:=g.hV0;omega
theorem xpos:0<=X:=by
 have h1:0<=top*LB+t2:=by
  have:=Int.mul_nonneg g.htop (show (0:Int)<=LB by decide);have:=g.ht.1;omega
 have:=Int.mul_nonneg h1 (Int.le_of_lt g.hP);have:=g.hX0;omega
theorem qnn:0<=X/V:=Int.ediv_nonneg g.xpos (Int.le_of_lt g.vpos)
theorem qlt:X/V<LB:=Int.ediv_lt_of_lt_mul g.vpos (by rw[Int.mul_comm];exact g.hXV)
theorem qle:X/V*V<=X:=Int.ediv_mul_le _ (Int.ne_of_gt g.vpos)
theorem mulV{q:Int}(h0:0<=q)(h:q*V<=X){t:Int}(ht:t*P<=q*((D1*LB+D2)*P)):t<=top*LB+t2:=by
 have h1:=Int.mul_le_mul_of_nonneg_left g.hV0 h0;have h2:=g.hX1;by_cases hc:t<=top*LB+t2;·exact hc
 ·have h3:(top*LB+t2+1)*P<=t*P:=Int.mul_le_mul_of_nonneg_right (by omega) (Int.le_of_lt g.hP);rw[Int.add_mul (top*LB+t2) 1 P,Int.one_mul] at h3;omega
theorem first{q:Int}(h0:0<=q)(h:q*V<=X):q*D1<=top:=by
 have h1:=g.mulV h0 h (t:=q*(D1*LB+D2)) (by rw[Int.mul_assoc];omega);rw[Int.mul_add,<- Int.mul_assoc] at h1;have h2:=Int.mul_nonneg h0 g.hD2.1;have h3:=g.ht.2;by_cases hc:q*D1<=top;·exact hc
 ·have h4:(top+1)*LB<=q*D1*LB:=Int.mul_le_mul_of_nonneg_right (by omega) (by decide);rw[Int.add_mul,Int.one_mul] at h4;omega
theorem start:X/V<=min (top/D1) 999999999:=by
 have h1:=g.first g.qnn g.qle;have h2:X/V<=top/D1:=(Int.le_ediv_iff_mul_le (by have:=g.hD1;omega)).2 h1;have h3:=g.qlt;have hB:LB=1000000000:=rfl;omega
theorem step{q:Int}(hq:X/V<=q)(h:q*D2>(top-q*D1)*LB+t2):X/V<=q-1:=by
 by_cases hc:X/V=q
 ·exfalso;subst hc;have h1:=g.mulV g.qnn g.qle (t:=X/V*(D1*LB+D2)) (by rw[Int.mul_assoc];omega);rw[Int.mul_add,<- Int.mul_assoc] at h1;rw[Int.sub_mul] at h;omega
 ·omega
theorem stop{q:Int}(hq0:0<=q)(hq1:q<LB)(h:¬(q*D2>(top-q*D1)*LB+t2)∨ ¬(top-q*D1<LB)):(q-1)*V<=X:=by
 have hv:=g.hV1;have hx:=g.hX0;have hP:=Int.le_of_lt g.hP;rw[Int.sub_mul,Int.one_mul];have h1:q*V<=q*((D1*LB+D2)*P+P):=Int.mul_le_mul_of_nonneg_left (Int.le_of_lt hv) hq0;rw[Int.mul_add,<- Int.mul_assoc] at h1;rcases h with h|h
 ·have h2:q*(D1*LB+D2)<=top*LB+t2:=by
   rw[Int.sub_mul] at h;rw[Int.mul_add,<- Int.mul_assoc];omega
  have h3:=Int.mul_le_mul_of_nonneg_right h2 hP;have h4:q*P<=LB*P:=Int.mul_le_mul_of_nonneg_right (Int.le_of_lt hq1) hP;have h5:LB*P<=(D1*LB+D2)*P:=Int.mul_le_mul_of_nonneg_right (by
   have:=Int.mul_le_mul_of_nonneg_right g.hD1 (show (0:Int)<=LB by decide);have:=g.hD2.1;omega) hP
  have h6:=g.hV0;omega
 ·have h2:(q*(D1*LB+D2)+q)*P<=top*LB*P:=Int.mul_le_mul_of_nonneg_right (by
   have h3:q*(D2+1)<=q*LB:=Int.mul_le_mul_of_nonneg_left (by have:=g.hD2.2;omega) hq0;have h4:(q*D1+q)*LB<=top*LB:=Int.mul_le_mul_of_nonneg_right (by omega) (by decide);rw[Int.mul_add,Int.mul_one] at h3;rw[Int.add_mul] at h4;rw[Int.mul_add,<- Int.mul_assoc];omega) hP
  rw[Int.add_mul] at h2;have h3:top*LB*P<=(top*LB+t2)*P:=Int.mul_le_mul_of_nonneg_right (by have:=g.ht.1;omega) hP;have:=g.vpos;omega
theorem last{q:Int}(hq:X/V<=q)(h:(q-1)*V<=X):(X<q*V->q-1=X/V)/\(¬X<q*V->q=X/V):=by
 have hv:=g.vpos;have h1:q-1<=X/V:=(Int.le_ediv_iff_mul_le hv).2 h;refine⟨fun hl=>?_,fun hl=>?_⟩;·have:X/V<q:=Int.ediv_lt_of_lt_mul hv hl;omega
 ·have:q<=X/V:=(Int.le_ediv_iff_mul_le hv).2 (by omega);omega
end rB
end Go.Cm
end
section
namespace Go.Cm
open Go.Proofs
theorem Mk{o:List Int}{q c:Int}(i:Nat)(ho:Lim o)(hq:Ad q)(hc:0<=c/\c<LB):
  IntKind.u64.wrap (c+IntKind.u64.wrap (q*IntKind.u64.wrap (nth (Ty.int IntKind.u32) o (i:Int))))=c+q*o.getD i 0:=by
 obtain⟨n0,n1,n2,n3⟩:=C7 i ho hq hc;have hx:=ho.getD i;have h4:LB*LB=1000000000000000000:=rfl;have hB:LB=1000000000:=rfl;rw[gB,w64 (x:=o.getD i 0) hx.1 (by omega),w64 n2 (by omega),w64 n0 (by omega)]
theorem wv{o:List Int}{q c:Int}{i:Nat}(h:¬(i:Int)<(o.length:Int)):c=c+q*o.getD i 0:=by
 rw[List.getD_eq_getElem?_getD,List.getElem?_eq_none (by omega)];simp
theorem Tb{ys:List Int}{n b:Int}{i:Nat}(hy:Lim ys)(hn:0<=n/\n<LB*LB)(hb:0<=b/\b<=1):
  IntKind.i64.wrap (IntKind.i64.wrap (IntKind.i64.wrap (nth (Ty.int IntKind.u32) ys (((i:Int).toNat:Nat):Int))-IntKind.i64.wrap (n.tmod 1000000000))-b)=ys.getD i 0-n%LB-b/\IntKind.u64.wrap (n.tdiv 1000000000)=n/LB/\
   -LB<=ys.getD i 0-n%LB-b/\ys.getD i 0-n%LB-b<LB:=by
 have hx:=hy.getD i;have hB:LB=1000000000:=rfl;have hr:0<=n%LB/\n%LB<LB:=⟨Int.emod_nonneg _ (by decide),Int.emod_lt_of_pos _ (by decide)⟩;rw[Int.toNat_natCast,gB,(tdiv_nn hn.1).2,wi (x:=ys.getD i 0) (by omega) (by omega),wi (x:=n%LB) (by omega) (by omega),wi (x:=ys.getD i 0-n%LB) (by omega) (by omega),wo];exact⟨rfl,(qs hn.1 hn.2).2.2,by omega,by omega⟩
theorem o9{ys:List Int}{n b:Int}{i:Nat}(hy:Lim ys)(hn:0<=n/\n<LB*LB)(hb:0<=b/\b<=1){r:Int}
  (hr:r=IntKind.i64.wrap (IntKind.i64.wrap (IntKind.i64.wrap (nth (Ty.int IntKind.u32) ys (((i:Int).toNat:Nat):Int))-IntKind.i64.wrap (n.tmod 1000000000))-b)):
  (r<0->IntKind.u64.wrap (n.tdiv 1000000000)=n/LB/\0<=IntKind.i64.wrap (r+1000000000)/\IntKind.i64.wrap (r+1000000000)<LB/\(0:Int)<=1/\(1:Int)<=1/\IntKind.i64.wrap (r+1000000000)-LB*1=ys.getD i 0-n%LB-b)/\
  (¬r<0->IntKind.u64.wrap (n.tdiv 1000000000)=n/LB/\0<=r/\r<LB/\(0:Int)<=0/\(0:Int)<=1/\r-LB*0=ys.getD i 0-n%LB-b):=by
 obtain⟨h1,h2,h3,h4⟩:=Tb (i:=i) hy hn hb;rw[h1] at hr;have hB:LB=1000000000:=rfl;refine⟨fun h=>?_,fun h=>⟨h2,by omega,by omega,by omega,by omega,by omega⟩⟩;rw[wo];exact⟨h2,by omega,by omega,by omega,by omega,by omega⟩
theorem IZ{xs0 o xs:List Int}{q c b n v b2:Int}{i:Nat}(ho:Lim o)(hq:Ad q)(hlen:o.length+1<=xs0.length)(hc:o.length<CAP)(h:lk xs0 o q i c b xs)(hi:(i:Int)<((o.length+1:Nat):Int))(hn:n=c+q*o.getD i 0)
  (hv:(0<=v/\v<LB)/\(0<=b2/\b2<=1)/\v-LB*b2=xs.getD i 0-n%LB-b):
  ∃a:Nat,IntKind.i64.wrap ((i:Int)+1)=(a:Int)/\lk xs0 o q a (n/LB) b2 (xs.set (i:Int).toNat (IntKind.u32.wrap v))/\o.length+1-a<o.length+1-i:=by
 have hC:o.length<1000000000000:=hc;have hB:LB=1000000000:=rfl;refine⟨i+1,by rw[wo];simp,?_,by omega⟩;rw[Int.toNat_natCast,w32 hv.1.1 (by omega)];exact C8 ho hq hlen h (by omega) hn hv.1 hv.2.1 hv.2.2
theorem I0{xs0 o xs:List Int}{c n:Int}{i:Nat}(ho:Lim o)(hlen:o.length+1<=xs0.length)(hc:o.length<CAP)(h:lu xs0 o i c xs)(hi:(i:Int)<((o.length+1:Nat):Int))(hn:n=xs.getD i 0+c+o.getD i 0):
  ∃a:Nat,IntKind.i64.wrap ((i:Int)+1)=(a:Int)/\lu xs0 o a (IntKind.u32.wrap (n.tdiv 1000000000)) (xs.set (i:Int).toNat (n.tmod 1000000000))/\o.length+1-a<o.length+1-i:=by
 have hC:o.length<1000000000000:=hc;have hB:LB=1000000000:=rfl;have hx:=h.2.2.1.getD i;have ho':=ho.getD i;have hcc:=h.2.2.2.2.1;have e:n.tmod 1000000000=IntKind.u32.wrap (n.tmod 1000000000):=by
  rw[(tdiv_nn (by omega)).2];have hr:0<=n%LB/\n%LB<LB:=⟨Int.emod_nonneg _ (by decide),Int.emod_lt_of_pos _ (by decide)⟩;rw[w32 hr.1 (by omega)]
 rw[e];refine⟨i+1,by rw[wo];simp,?_,by omega⟩;rw[Int.toNat_natCast];exact Da ho hlen h (by omega) hn
theorem yo{ys o:List Int}{c:Int}(i:Nat)(hy:Lim ys)(ho:Lim o)(hc:0<=c/\c<=1):
  IntKind.u32.wrap (IntKind.u32.wrap (nth (Ty.int IntKind.u32) ys (((i:Int).toNat:Nat):Int)+c)+nth (Ty.int IntKind.u32) o (i:Int))=ys.getD i 0+c+o.getD i 0/\
  (¬(i:Int)<(o.length:Int)->IntKind.u32.wrap (nth (Ty.int IntKind.u32) ys (((i:Int).toNat:Nat):Int)+c)=ys.getD i 0+c+o.getD i 0):=by
 have hx:=hy.getD i;have hz:=ho.getD i;have hB:LB=1000000000:=rfl;rw[Int.toNat_natCast,gB,gB,w32 (x:=ys.getD i 0+c) (by omega) (by omega)];refine⟨w32 (by omega) (by omega),fun h=>?_⟩;rw[List.getD_eq_getElem?_getD (l:=o),List.getElem?_eq_none (by omega)];simp
theorem qu(l:List Int)(j i:Nat):(l.drop j).getD i 0=l.getD (j+i) 0:=by
 simp[List.getD_eq_getElem?_getD]
theorem Lim.drop{l:List Int}(h:Lim l)(j:Nat):Lim (l.drop j):=fun x hx=>h x (List.mem_of_mem_drop hx)
theorem Lim.take{l:List Int}(h:Lim l)(j:Nat):Lim (l.take j):=fun x hx=>h x (List.mem_of_mem_take hx)
theorem lz{l:List Int}(h:Lim l)(k:Nat):0<=valL (l.take k)/\valL (l.take k)<LB^k:=by
 refine⟨valL_nonneg (h.take k),Int.lt_of_lt_of_le (valL_lt (h.take k)) (pow_mono ?_)⟩;rw[List.length_take];omega
theorem Ml(l:List Int)(k:Nat):valL l=valL (l.take k)+LB^(l.take k).length*valL (l.drop k):=by
 have h:=valL_append (l.take k) (l.drop k);rw[List.take_append_drop] at h;exact h
theorem pf{l:List Int}{k:Nat}(hk:k<=l.length):valL l=valL (l.take k)+LB^k*valL (l.drop k):=by
 have h:=Ml l k;rw[show (l.take k).length=k by rw[List.length_take];omega] at h;exact h
theorem Fp{l:List Int}(p:Nat):valL (l.take (p+2))=(l.getD (p+1) 0*LB+l.getD p 0)*LB^p+valL (l.take p):=by
 rw[take_val,take_val,Int.pow_succ];have e:LB^p*LB*l.getD (p+1) 0=l.getD (p+1) 0*LB*LB^p:=by rw[Int.mul_comm (LB^p) LB,Int.mul_comm (LB*LB^p),<- Int.mul_assoc]
 rw[e,Int.add_mul,Int.mul_comm (l.getD p 0)];omega
theorem I1{l:List Int}(p:Nat):valL (l.take (p+3))=((l.getD (p+2) 0*LB+l.getD (p+1) 0)*LB+l.getD p 0)*LB^p+valL (l.take p):=by
 rw[take_val,Fp,Int.pow_succ,Int.pow_succ];have e:LB^p*LB*LB*l.getD (p+2) 0=l.getD (p+2) 0*LB*LB*LB^p:=by
  rw[Int.mul_assoc (LB^p),Int.mul_comm (LB^p),Int.mul_comm (LB*LB*LB^p),<- Int.mul_assoc,<- Int.mul_assoc]
 rw[e];simp only[Int.add_mul];omega
theorem wx{T:List Int}{k:Nat}(hT:Lim T)(hk:k<=T.length)(h:valL T<LB^k):valL (T.drop k)=0/\valL T=valL (T.take k):=by
 have h1:=pf hk;have h0:=valL_nonneg (hT.drop k);have h2:=(lz hT k).1;have h3:valL (T.drop k)=0:=by
  by_cases hz:valL (T.drop k)=0
  ·exact hz
  ·have:LB^k*1<=LB^k*valL (T.drop k):=Int.mul_le_mul_of_nonneg_left (by omega) (Int.le_of_lt (lbpos k));omega
 rw[h3] at h1;exact⟨h3,by omega⟩
theorem Mm{T D:List Int}{j p:Nat}(hT:Lim T)(hD:Lim D)(hDl:D.length=p+2)(hTl:j+(p+3)<=T.length)(hlt:valL T<valL D*LB^(j+1)):
  valL T=valL (T.take j)+LB^j*valL ((T.drop j).take (p+3))/\valL ((T.drop j).drop (p+3))=0:=by
 have hV:=valL_lt hD;rw[hDl] at hV;have h1:valL T<LB^(j+(p+3)):=by
  have h2:valL D*LB^(j+1)<=LB^(p+2)*LB^(j+1):=Int.mul_le_mul_of_nonneg_right (Int.le_of_lt hV) (Int.le_of_lt (lbpos _));rw[<- Int.pow_add,show p+2+(j+1)=j+(p+3) by omega] at h2;omega
 obtain⟨hz,-⟩:=wx hT hTl h1;have h3:valL ((T.drop j).drop (p+3))=0:=by rw[List.drop_drop];exact hz
 refine⟨?_,h3⟩;have h4:=pf (l:=T) (k:=j) (by omega);have h5:=pf (l:=T.drop j) (k:=p+3) (by rw[List.length_drop];omega);rw[h3] at h5;rw[h4,h5];simp
theorem Aj{T D:List Int}{j p:Nat}(hT:Lim T)(hD:Lim D)(hDl:D.length=p+2)(hVp:LB^(p+1)<=valL D)(hTl:j+(p+3)<=T.length)(hlt:valL T<valL D*LB^(j+1)):
  rB (valL ((T.drop j).take (p+3))) (valL D) (LB^p) (T.getD (j+(p+2)) 0*LB+T.getD (j+(p+1)) 0) (T.getD (j+p) 0) (D.getD (p+1) 0) (D.getD p 0):=by
 have hX:=I1 (l:=T.drop j) p;rw[qu,qu,qu] at hX;have hx:=lz (hT.drop j) p;have hV:=Fp (l:=D) p;rw[List.take_of_length_le (by omega)] at hV;have hv:=lz hD p;have hT0:=hT.getD (j+(p+2));have hT1:=hT.getD (j+(p+1));obtain⟨hw,-⟩:=Mm hT hD hDl hTl hlt;have h0:=(lz hT j).1;refine⟨lbpos p,by omega,by omega,hT.getD _,?_,by omega,by omega,?_,hD.getD _,?_⟩;·have:=Int.mul_nonneg hT0.1 (show (0:Int)<=LB by decide);omega
 ·by_cases h:1<=D.getD (p+1) 0
  ·exact h
  ·exfalso;(have hz:D.getD (p+1) 0=0:=by have:=(hD.getD (p+1)).1;omega);rw[hz,Int.zero_mul,Int.zero_add] at hV;have h1:(D.getD p 0+1)*LB^p<=LB*LB^p:=Int.mul_le_mul_of_nonneg_right (by have:=(hD.getD p).2;omega) (Int.le_of_lt (lbpos p));rw[Int.add_mul,Int.one_mul] at h1;rw[Int.pow_succ,Int.mul_comm] at hVp;omega
 ·have h1:LB^j*valL ((T.drop j).take (p+3))<LB^j*(valL D*LB):=by
   (have e:LB^j*(valL D*LB)=valL D*LB^(j+1):=by rw[Int.pow_succ,Int.mul_comm (LB^j),Int.mul_assoc,Int.mul_comm LB]);rw[e];omega
  exact Int.lt_of_mul_lt_mul_left h1 (Int.le_of_lt (lbpos j))
def lA(M V:Int)(lm n:Nat)(k:Nat)(T Q:List Int):Prop:=
 T.length=lm+1/\Lim T/\Q.length=lm+1-n/\Lim Q/\k<=lm+1-n/\valL T+V*(LB^k*valL (Q.drop k))=M/\valL T<V*LB^k
theorem I2{M:Int}{D T Q:List Int}{lm j p:Nat}{q:Int}(hD:Lim D)(hDl:D.length=p+2)(hVp:LB^(p+1)<=valL D)(hlm:p+2<=lm)(h:lA M (valL D) lm (p+2) (j+1) T Q)
  (hq:q=valL ((T.drop j).take (p+3))/valL D):
  lA M (valL D) lm (p+2) j (T.take j++put (T.drop j) (p+3) (valL ((T.drop j).take (p+3))-q*valL D)) (Q.set j q):=by
 obtain⟨h1,h2,h3,h4,h5,h6,h7⟩:=h;have hTl:j+(p+3)<=T.length:=by omega
 have g:=Aj h2 hD hDl hVp hTl h7;obtain⟨hw,hz⟩:=Mm h2 hD hDl hTl h7;have hq0:=g.qnn;have hq1:=g.qlt;have hv:=g.vpos;have hx:=g.xpos;rw[<- hq] at hq0 hq1;have hr:valL ((T.drop j).take (p+3))-q*valL D=valL ((T.drop j).take (p+3))%valL D:=by
  rw[hq,Int.emod_def,Int.mul_comm]
 have hr0:=Int.emod_nonneg (valL ((T.drop j).take (p+3))) (Int.ne_of_gt hv);have hr1:=Int.emod_lt_of_pos (valL ((T.drop j).take (p+3))) hv;have hVl:=valL_lt hD;rw[hDl] at hVl;have hml:valL D<=LB^(p+3):=Int.le_trans (Int.le_of_lt hVl) (pow_mono (by omega));have hdl:p+3<=(T.drop j).length:=by rw[List.length_drop];omega
 have hput:valL (put (T.drop j) (p+3) (valL ((T.drop j).take (p+3))-q*valL D))=valL ((T.drop j).take (p+3))-q*valL D:=by
  unfold put;rw[valL_append,Fm,hz,Int.mul_zero,Int.add_zero,Int.emod_eq_of_lt (by omega) (by omega)]
 have htl:(T.take j).length=j:=by rw[List.length_take];omega
 have hval:valL (T.take j++put (T.drop j) (p+3) (valL ((T.drop j).take (p+3))-q*valL D))=valL (T.take j)+LB^j*(valL ((T.drop j).take (p+3))-q*valL D):=by
  rw[valL_append,hput,htl]
 refine⟨?_,(h2.take j).append (Fo (h2.drop j) _ _),by rw[List.length_set,h3],set_lim h4 hq0 hq1,by omega,?_,?_⟩;·rw[List.length_append,yn _ hdl,htl,List.length_drop];omega
 ·rw[hval,set_drop (by omega),valL];rw[hw] at h6;have e1:valL D*(LB^j*(q+LB*valL (Q.drop (j+1))))=LB^j*(q*valL D)+valL D*(LB^(j+1)*valL (Q.drop (j+1))):=by
   (have e2:valL D*(LB^j*q)=LB^j*(q*valL D):=by rw[<- Int.mul_assoc,Int.mul_comm (valL D),Int.mul_assoc,Int.mul_comm (valL D)]);rw[Int.mul_add,Int.mul_add,e2,Int.pow_succ,Int.mul_assoc (LB^j) LB]
  rw[e1,Int.mul_sub];omega
 ·rw[hval,hr];have h8:LB^j*(valL ((T.drop j).take (p+3))%valL D+1)<=LB^j*valL D:=Int.mul_le_mul_of_nonneg_left (by omega) (Int.le_of_lt (lbpos j));rw[Int.mul_add,Int.mul_one] at h8;have h9:=(lz h2 j).2;rw[Int.mul_comm (valL D)];omega
theorem wy:∀(v k j:Nat),j<=k->(padL v k).take j=padL v j
 |_,_,0,_=>by simp[padL]
 |_,0,j+1,h=>by omega
 |v,k+1,j+1,h=>by rw[padL,List.take_succ_cons,wy _ k j (by omega),padL]
def aO(o:List Int):Int:=1000000000/(o.getD (o.length-1) 0+1)
def jS(m o:List Int):List Int:=
 if valL m<valL o then [] else if o.length=1 then padL (valL m/valL o).toNat m.length else padL (valL m/valL o).toNat (m.length+1-o.length)
def eE(m o:List Int):List Int:=
 if valL m<valL o then m else if o.length=1 then [valL m%valL o] else padL (valL m%valL o).toNat (limbs (valL m%valL o*aO o).toNat).length
theorem I3{l:List Int}(h:l≠[]):l.getLastD 1=l.getD (l.length-1) 0:=by
 rw[List.getD_eq_getElem?_getD,<- List.getLast?_eq_getElem?,List.getLast?_eq_some_getLast h,List.getLastD_eq_getLast?,List.getLast?_eq_some_getLast h];rfl
theorem tL{o:List Int}(ho:Cano o){p:Nat}(hp:o.length=p+2):
  (1<=aO o/\aO o<LB)/\valL o*aO o<LB^(p+2)/\LB^(p+1)<=valL o*aO o/\0<valL o:=by
 have hne:o≠[]:=by rintro rfl;simp at hp
 have hl:=ho.1.getD (p+1);have h0:o.getD (p+1) 0≠0:=by
  have:=ho.2;rw[I3 hne,hp] at this;exact this
 have hB:LB=1000000000:=rfl;have hs:aO o=1000000000/(o.getD (p+1) 0+1):=by unfold aO;rw[hp];rfl
 have hs1:1<=aO o:=by rw[hs];exact(Int.le_ediv_iff_mul_le (by omega)).2 (by omega)
 have hs2:aO o*(o.getD (p+1) 0+1)<=LB:=by rw[hs];exact Int.ediv_mul_le _ (by omega)
 have hge:=valL_ge ho hne;rw[hp] at hge;have hpos:=lbpos (p+1);have hvp:0<valL o:=by have:LB^(p+2-1)=LB^(p+1):=rfl;omega
 have hv:valL o<LB^(p+1)*(o.getD (p+1) 0+1):=by
  have h:=pf (l:=o) (k:=p+1) (by omega);have h1:=take_val o (p+1);rw[List.take_of_length_le (by omega)] at h1;have h2:=(lz ho.1 (p+1)).2;rw[Int.mul_add,Int.mul_one];omega
 refine⟨⟨hs1,?_⟩,?_,?_,hvp⟩;·have h2:aO o*2<=aO o*(o.getD (p+1) 0+1):=Int.mul_le_mul_of_nonneg_left (by omega) (by omega);omega
 ·have h1:valL o*aO o<LB^(p+1)*(o.getD (p+1) 0+1)*aO o:=Int.mul_lt_mul_of_pos_right hv (by omega);have h2:LB^(p+1)*(o.getD (p+1) 0+1)*aO o<=LB^(p+1)*LB:=by
   rw[Int.mul_assoc,Int.mul_comm (o.getD (p+1) 0+1)];exact Int.mul_le_mul_of_nonneg_left hs2 (Int.le_of_lt hpos)
  have h3:LB^(p+2)=LB^(p+1)*LB:=Int.pow_succ LB (p+1);omega
 ·have h1:valL o*1<=valL o*aO o:=Int.mul_le_mul_of_nonneg_left hs1 (by omega);have h2:LB^(p+2-1)=LB^(p+1):=rfl;omega
theorem rC{o:List Int}(h0:o≠[])(h1:¬(o.length:Int)=1):∃p,o.length=p+2:=by
 match o,h0 with
 | [],h=>exact absurd rfl h
 | [x],_=>simp at h1
 |x::y::l,_=>exact⟨l.length,rfl⟩
theorem Fq{T:List Int}{j n:Nat}(v:Int)(h:j+n<=T.length):(List.take j T++put (List.drop j T) n v).length=T.length:=by
 rw[List.length_append,yn _ (by rw[List.length_drop];omega),List.length_take,List.length_drop];omega
structure iU (m o D:List Int) (p:Nat):Prop where
 hm:Cano m
 ho:Cano o
 hp:o.length=p+2
 hle:valL o<=valL m
 hc:m.length+o.length+1<1000000000000
 hD:D=padL (valL o*aO o).toNat o.length
 hDl:D.length=p+2
 hDl3:D.length+1=p+3
 hL:Lim D
 hV:valL D=valL o*aO o
 hVp:LB^(p+1)<=valL D
 hlm:p+2<=m.length
 hs:1<=aO o/\aO o<LB
 hvo:0<valL o
 en1:IntKind.i64.wrap ((o.length:Int)-1)=((p+1:Nat):Int)
 en2:IntKind.i64.wrap ((o.length:Int)-2)=((p:Nat):Int)
theorem iU.mk'{m o:List Int}{p:Nat}(hm:Cano m)(ho:Cano o)(hp:o.length=p+2)(hle:valL o<=valL m)(hc:m.length+o.length+1<CAP):iU m o (padL (valL o*aO o).toNat o.length) p:=by
 have hC:m.length+o.length+1<1000000000000:=hc;obtain⟨h1,h2,h3,h4⟩:=tL ho hp;have hv0:0<=valL o*aO o:=Int.mul_nonneg (by omega) (by omega);have hv:valL (padL (valL o*aO o).toNat o.length)=valL o*aO o:=by
  rw[padL_val _ _ (by rw[hp];omega)];omega
 have hll:=len_le ho hm hle;exact⟨hm,ho,hp,hle,hC,rfl,by rw[padL_len,hp],by rw[padL_len,hp],padL_lim _ _,hv,by rw[hv];exact h3,by omega,h1,h4,by rw[wo];omega,by rw[wo];omega⟩
theorem tM{o:List Int}{p:Nat}(ho:Cano o)(hp:o.length=p+2)(hc:o.length<1000000000000):
  (0<=IntKind.i64.wrap ((o.length:Int)-1)/\IntKind.i64.wrap ((o.length:Int)-1)<(o.length:Int))/\
  IntKind.u64.wrap (IntKind.u64.wrap (nth (Ty.int IntKind.u32) o (IntKind.i64.wrap ((o.length:Int)-1)))+1)≠0/\
  IntKind.u32.wrap (IntKind.u64.wrap (Int.tdiv 1000000000 (IntKind.u64.wrap (IntKind.u64.wrap (nth (Ty.int IntKind.u32) o (IntKind.i64.wrap ((o.length:Int)-1)))+1))))=aO o:=by
 have e:IntKind.i64.wrap ((o.length:Int)-1)=((o.length-1:Nat):Int):=by rw[wo];omega
 have hx:=ho.1.getD (o.length-1);have hB:LB=1000000000:=rfl;obtain⟨h1,-⟩:=tL ho hp;have hs:aO o=1000000000/(o.getD (o.length-1) 0+1):=rfl;rw[e,gB,w64 (x:=o.getD (o.length-1) 0) hx.1 (by omega),w64 (x:=o.getD (o.length-1) 0+1) (by omega) (by omega),Int.tdiv_eq_ediv_of_nonneg (by decide),<- hs,w64 (by omega) (by omega),w32 (by omega) (by omega)];exact⟨⟨by omega,by omega⟩,by omega,rfl⟩
theorem Mn{a b:Int}(ha:0<=a/\a<LB)(hb:0<=b/\b<LB):
  IntKind.u64.wrap (IntKind.u64.wrap (IntKind.u64.wrap a*1000000000)+IntKind.u64.wrap b)=a*LB+b/\a*LB+b<LB*LB/\0<=a*LB+b:=by
 have hB:LB=1000000000:=rfl;rw[hB] at ha hb ⊢;rw[w64 ha.1 (by omega),w64 hb.1 (by omega),w64 (x:=a*1000000000) (by omega) (by omega),w64 (by omega) (by omega)];omega
theorem Ak{top D1:Int}(h0:0<=top)(h1:top<LB*LB)(hD:1<=D1)(hD2:D1<LB):IntKind.u64.wrap (top.tdiv (IntKind.u64.wrap D1))=top/D1/\IntKind.u64.wrap D1≠0:=by
 have hB:LB=1000000000:=rfl;have h4:LB*LB=1000000000000000000:=rfl;have h2:top/D1<=top:=Int.ediv_le_self _ h0;have h3:0<=top/D1:=Int.ediv_nonneg h0 (by omega);rw[w64 (x:=D1) (by omega) (by omega),Int.tdiv_eq_ediv_of_nonneg h0,w64 h3 (by omega)];exact⟨rfl,by omega⟩
def I4(X V top D1 q:Int):Prop:=X/V<=q/\q<LB/\q*D1<=top/\0<=q
theorem Qx{X V P top t2 D1 D2 gs:Int}(g:rB X V P top t2 D1 D2)(h:gs=min (top/D1) 999999999):I4 X V top D1 gs:=by
 have h1:=g.start;have hB:LB=1000000000:=rfl;have hD:=g.hD1;refine⟨by omega,by omega,?_,?_⟩;·have h2:gs*D1<=top/D1*D1:=Int.mul_le_mul_of_nonneg_right (by omega) (by omega);have h3:=Int.ediv_mul_le top (b:=D1) (by omega);omega
 ·have h2:0<=top/D1:=Int.ediv_nonneg g.htop (by omega);omega
theorem Mo{X V P top t2 D1 D2 q:Int}(g:rB X V P top t2 D1 D2)(ht:top<LB*LB)(hD1:D1<LB)(h:I4 X V top D1 q):
  IntKind.u64.wrap (top-IntKind.u64.wrap (q*IntKind.u64.wrap D1))=top-q*D1/\IntKind.u64.wrap (q*IntKind.u64.wrap D2)=q*D2/\
   (IntKind.u64.wrap (top-IntKind.u64.wrap (q*IntKind.u64.wrap D1))<1000000000->IntKind.u64.wrap (IntKind.u64.wrap (IntKind.u64.wrap (top-IntKind.u64.wrap (q*IntKind.u64.wrap D1))*1000000000)+IntKind.u64.wrap t2)=(top-q*D1)*LB+t2):=by
 obtain⟨h1,h2,h3,h4⟩:=h;have hB:LB=1000000000:=rfl;have h5:LB*LB=1000000000000000000:=rfl;have hD:=g.hD1;have hd2:=g.hD2;have hq0:0<=q*D1:=Int.mul_nonneg h4 (by omega);have hb:=mul_bound (x:=q) (y:=D2) (a:=0) (c:=0) ⟨h4,h2⟩ hd2 ⟨by decide,by decide⟩ ⟨by decide,by decide⟩;have ht2:=g.ht;rw[w64 (x:=D1) (by omega) (by omega),w64 (x:=q*D1) hq0 (by omega),w64 (x:=top-q*D1) (by omega) (by omega),w64 (x:=D2) hd2.1 (by omega),w64 hb.1 (by omega)];refine⟨rfl,rfl,fun hC=>?_⟩;rw[hB] at ht2 ⊢;rw[w64 (x:=t2) ht2.1 (by omega),w64 (x:=(top-q*D1)*1000000000) (by omega) (by omega),w64 (by omega) (by omega)]
theorem Tc{X V P top t2 D1 D2 q:Int}(g:rB X V P top t2 D1 D2)(ht:top<LB*LB)(hD1:D1<LB)(h:I4 X V top D1 q)
  (hb:IntKind.u64.wrap (IntKind.u64.wrap (IntKind.u64.wrap (top-IntKind.u64.wrap (q*IntKind.u64.wrap D1))*1000000000)+IntKind.u64.wrap t2)<IntKind.u64.wrap (q*IntKind.u64.wrap D2)/\IntKind.u64.wrap (top-IntKind.u64.wrap (q*IntKind.u64.wrap D1))<1000000000):
  I4 X V top D1 (IntKind.u64.wrap (q-1))/\(IntKind.u64.wrap (q-1)).toNat<q.toNat:=by
 obtain⟨c1,c2,c3⟩:=Mo g ht hD1 h;rw[c3 hb.2,c2] at hb;obtain⟨h1,h2,h3,h4⟩:=h;have hs:=g.step h1 hb.1;have hq:=g.qnn;have hB:LB=1000000000:=rfl;have hD:=g.hD1;rw[w64 (by omega) (by omega)];refine⟨⟨hs,by omega,?_,by omega⟩,by omega⟩;rw[Int.sub_mul,Int.one_mul];omega
theorem Mp{X V P top t2 D1 D2 q:Int}(g:rB X V P top t2 D1 D2)(ht:top<LB*LB)(hD1:D1<LB)(h:I4 X V top D1 q)
  (hb:IntKind.u64.wrap (IntKind.u64.wrap (IntKind.u64.wrap (top-IntKind.u64.wrap (q*IntKind.u64.wrap D1))*1000000000)+IntKind.u64.wrap t2)<IntKind.u64.wrap (q*IntKind.u64.wrap D2)-> ¬IntKind.u64.wrap (top-IntKind.u64.wrap (q*IntKind.u64.wrap D1))<1000000000):
  (X<q*V->q-1=X/V)/\(¬X<q*V->q=X/V):=by
 obtain⟨c1,c2,c3⟩:=Mo g ht hD1 h;have hB:LB=1000000000:=rfl;refine g.last h.1 (g.stop h.2.2.2 h.2.1 ?_);by_cases hC:IntKind.u64.wrap (top-IntKind.u64.wrap (q*IntKind.u64.wrap D1))<1000000000;·rw[c3 hC,c2] at hb;left;intro h';exact hb h' hC
 ·right;rw[c1] at hC;rw[hB];exact hC
theorem tO{T:List Int}{j n:Nat}(v:Int)(h:j+n<=T.length):List.take j (List.take j T++put (List.drop j T) n v)=List.take j T/\List.drop j (List.take j T++put (List.drop j T) n v)=put (List.drop j T) n v:=by
 have hl:(List.take j T).length=j:=by rw[List.length_take];omega
 refine⟨?_,?_⟩;·rw[List.take_append_of_le_length (by omega),List.take_of_length_le (by omega)]
 ·rw[List.drop_append,hl,List.drop_eq_nil_of_le (by omega),Nat.sub_self];rfl
theorem wz{T:List Int}{j n:Nat}{X q V:Int}(h:j+n<=T.length):
  List.take j (List.take j T++put (List.drop j T) n (X-q*V))++put (List.drop j (List.take j T++put (List.drop j T) n (X-q*V))) n (valL (List.take n (List.drop j (List.take j T++put (List.drop j T) n (X-q*V))))+V)=
   List.take j T++put (List.drop j T) n (X-(q-1)*V):=by
 obtain⟨h1,h2⟩:=tO (X-q*V) h;rw[h1,h2,Qw,Int.sub_mul,Int.one_mul];congr 2;omega
theorem Db{m o D:List Int}{p:Nat}(f:iU m o D p):lA (valL m*aO o) (valL D) m.length (p+2) (m.length+1-o.length) (padL (valL m*aO o).toNat (m.length+1)) (List.replicate (m.length+1-o.length) 0):=by
 have hm0:=valL_nonneg f.hm.1;have hm1:=valL_lt f.hm.1;have hs:=f.hs;have hp:=f.hp;have hlm:=f.hlm;have h0:0<=valL m*aO o:=Int.mul_nonneg hm0 (by omega);have h1:valL m*aO o<LB^m.length*aO o:=Int.mul_lt_mul_of_pos_right hm1 (by omega);have h2:LB^m.length*aO o<=LB^m.length*LB:=Int.mul_le_mul_of_nonneg_left (by omega) (Int.le_of_lt (lbpos _));have h3:LB^(m.length+1)=LB^m.length*LB:=Int.pow_succ _ _;have hv:valL (padL (valL m*aO o).toNat (m.length+1))=valL m*aO o:=by
  rw[padL_val _ _ (by omega)];omega
 refine⟨padL_len _ _,padL_lim _ _,by rw[List.length_replicate,f.hp],(replicate_zero _).1,by omega,?_,?_⟩;·rw[List.drop_eq_nil_of_le (by rw[List.length_replicate];omega),hv];simp[valL]
 ·rw[hv];have hge:=valL_ge f.ho (by rintro h;have:=f.hp;rw[h] at this;simp at this);rw[hp] at hge;have h4:LB^(p+1)*aO o<=valL D:=by
   rw[f.hV];exact Int.mul_le_mul_of_nonneg_right hge (by omega)
  have h5:LB^(p+1)*aO o*LB^(m.length+1-o.length)<=valL D*LB^(m.length+1-o.length):=Int.mul_le_mul_of_nonneg_right h4 (Int.le_of_lt (lbpos _));have h6:LB^(p+1)*aO o*LB^(m.length+1-o.length)=LB^m.length*aO o:=by
   rw[Int.mul_comm (LB^(p+1)),Int.mul_assoc,<- Int.pow_add,show p+1+(m.length+1-o.length)=m.length by omega,Int.mul_comm]
  omega
theorem Mq{m o D T Q:List Int}{p:Nat}(f:iU m o D p)(h:lA (valL m*aO o) (valL D) m.length (p+2) 0 T Q):
  valL Q=valL m/valL o/\valL T=valL m%valL o*aO o/\valL (T.take o.length)=valL T:=by
 obtain⟨h1,h2,h3,h4,h5,h6,h7⟩:=h;have hs:=f.hs;have hvo:=f.hvo;rw[List.drop_zero,Int.pow_zero,Int.one_mul] at h6;rw[Int.pow_zero,Int.mul_one] at h7;have h0:=valL_nonneg h2;have hVl:=valL_lt f.hL;rw[f.hDl] at hVl;have h8:valL T=(valL m-valL o*valL Q)*aO o:=by
  rw[Int.sub_mul,Int.mul_assoc,Int.mul_comm (valL Q),<- Int.mul_assoc,<- f.hV];omega
 rw[f.hV] at h7;have h9:0<=valL m-valL o*valL Q:=by
  by_cases hc:0<=valL m-valL o*valL Q
  ·exact hc
  ·have:=Int.mul_le_mul_of_nonneg_right (show valL m-valL o*valL Q<= -1 by omega) (show 0<=aO o by omega);omega
 have h10:valL m-valL o*valL Q<valL o:=Int.lt_of_mul_lt_mul_right (a:=aO o) (by rw[<- h8];exact h7) (by omega);have e1:valL m/valL o=valL Q:=by
  rw[show valL m=(valL m-valL o*valL Q)+valL Q*valL o by rw[Int.mul_comm (valL Q)];omega,Int.add_mul_ediv_right _ _ (by omega),Int.ediv_eq_zero_of_lt h9 h10,Int.zero_add]
 refine⟨e1.symm,?_,?_⟩;·rw[h8,Int.emod_def,e1]
 ·have:=f.hp;have:=f.hlm;exact(wx h2 (by omega) (by rw[f.hp];have:=f.hV;omega)).2.symm
theorem Qy{m o D T Q:List Int}{p:Nat}(f:iU m o D p)(h:lA (valL m*aO o) (valL D) m.length (p+2) 0 T Q):
  Q=jS m o/\padL (valL (enc (dec (false,T.take o.length))).2/aO o).toNat (enc (dec (false,T.take o.length))).2.length=eE m o:=by
 obtain⟨e1,e2,e3⟩:=Mq f h;have hs:=f.hs;have hp:=f.hp;have hv0:=Int.emod_nonneg (valL m) (Int.ne_of_gt f.hvo);have ed:dec (false,T.take o.length)=valL m%valL o*aO o:=by
  show valL (T.take o.length)=_;rw[e3,e2]
 have hr:0<=valL m%valL o*aO o:=Int.mul_nonneg hv0 (by omega);refine⟨?_,?_⟩;·unfold jS;rw[if_neg (by have:=f.hle;omega),if_neg (by omega)];refine h.2.2.2.1.pad (by rw[h.2.2.1,f.hp]) ?_;rw[e1];have:=Int.ediv_nonneg (valL_nonneg f.hm.1) (Int.le_of_lt f.hvo);omega
 ·unfold eE;rw[if_neg (by have:=f.hle;omega),if_neg (by omega),ed];show padL (valL (limbs (valL m%valL o*aO o).natAbs)/aO o).toNat (limbs (valL m%valL o*aO o).natAbs).length=_;rw[limbs_val,show ((valL m%valL o*aO o).natAbs:Int)=valL m%valL o*aO o by omega,Int.mul_ediv_cancel _ (by omega)];rw[show (valL m%valL o*aO o).natAbs=(valL m%valL o*aO o).toNat by omega]
theorem Mr{m o:List Int}(h:bg (valL m) (valL o)<0): []=jS m o/\m=eE m o:=by
 have h':valL m<valL o:=by
  unfold bg at h;split at h;·assumption
  ·split at h<;>omega
 unfold jS eE;rw[if_pos h',if_pos h'];exact⟨rfl,rfl⟩
theorem Ms{a b:Int}(h:¬bg a b<0):b<=a:=by
 unfold bg at h;split at h<;>omega
theorem div_one{m o:List Int}(ho:Cano o)(h0:¬bg (valL m) (valL o)<0)(h1:(o.length:Int)=1):
  Ac (nth (Ty.int IntKind.u32) o 0)/\padL (valL m/nth (Ty.int IntKind.u32) o 0).toNat m.length=jS m o/\ [valL m%nth (Ty.int IntKind.u32) o 0]=eE m o:=by
 have hge:=Ms h0;match o,ho,h1 with
 | [x],ho,_=>
  have hx:=ho.1 x (by simp);have hx0:x≠0:=ho.2;have e:valL [x]=x:=valL_one x;rw[e] at hge;show Ac x/\padL (valL m/x).toNat m.length=_/\ [valL m%x]=_;unfold jS eE;rw[e,if_neg (by omega),if_pos (by rfl),if_neg (by omega),if_pos (by rfl)];exact⟨⟨by omega,hx.2⟩,rfl,rfl⟩
 | [],_,h1=>simp at h1
 |_::_::_,_,h1=>simp at h1;omega
theorem I5{m o D:List Int}{p:Nat}(f:iU m o D p):(Lim m/\Ad (aO o)/\m.length<CAP)/\(Lim o/\Ad (aO o)/\o.length<CAP)/\(0:Int)<=0/\(0:Int)<=(o.length:Int)/\(o.length:Int)<=((padL (valL o*aO o).toNat (o.length+1)).length:Int):=by
 have hc:=f.hc;have hs:=f.hs;rw[padL_len];exact⟨⟨f.hm.1,⟨by omega,hs.2⟩,by unfold CAP;omega⟩,⟨f.ho.1,⟨by omega,hs.2⟩,by unfold CAP;omega⟩,by omega,by omega,by omega⟩
theorem Fs{m o D:List Int}{p:Nat}(f:iU m o D p):List.drop (Int.toNat 0) (List.take (o.length:Int).toNat (padL (valL o*aO o).toNat (o.length+1)))=D:=by
 rw[Int.toNat_natCast,wy _ _ _ (by omega),f.hD];rfl
theorem I6{m o D:List Int}{p:Nat}(f:iU m o D p){n:Int}(hn:n=IntKind.i64.wrap (((padL (valL m*aO o).toNat (m.length+1)).length:Int)-((List.drop (Int.toNat 0) (List.take (o.length:Int).toNat (padL (valL o*aO o).toNat (o.length+1)))).length:Int)):=by rfl):
  0<=n/\n<=n/\Cm.Roomy 1 n.toNat:=by
 have hc:=f.hc;have hlm:=f.hlm;have hp:=f.hp;rw[Fs f,padL_len,f.hDl,wo] at hn;exact⟨by omega,by omega,by unfold Cm.Roomy;omega⟩
theorem Qz{m o D:List Int}{p:Nat}(f:iU m o D p):List.drop (Int.toNat 0) (List.take (o.length:Int).toNat (padL (valL o*aO o).toNat (o.length+1)))=D/\
  ((List.drop (Int.toNat 0) (List.take (o.length:Int).toNat (padL (valL o*aO o).toNat (o.length+1)))).length:Int)=(o.length:Int)/\
  IntKind.i64.wrap (IntKind.i64.wrap (((padL (valL m*aO o).toNat (m.length+1)).length:Int)-((List.drop (Int.toNat 0) (List.take (o.length:Int).toNat (padL (valL o*aO o).toNat (o.length+1)))).length:Int))-1)=((m.length+1-o.length:Nat):Int)-1/\
  List.replicate (IntKind.i64.wrap (((padL (valL m*aO o).toNat (m.length+1)).length:Int)-((List.drop (Int.toNat 0) (List.take (o.length:Int).toNat (padL (valL o*aO o).toNat (o.length+1)))).length:Int))).toNat (0:Int)=List.replicate (m.length+1-o.length) 0:=by
 have hc:=f.hc;have hlm:=f.hlm;have hp:=f.hp;have hD:=f.hDl;rw[Fs f,padL_len,f.hDl,wi (x:=((m.length+1:Nat):Int)-((p+2:Nat):Int)) (by omega) (by omega),wo];exact⟨rfl,by omega,by omega,by congr 1;omega⟩
theorem Dc{m o D T Q:List Int}{p k:Nat}(f:iU m o D p)(h:lA (valL m*aO o) (valL D) m.length (p+2) k T Q)(hk:k=0):
  ((0:Int)<=0/\(0:Int)<=(o.length:Int)/\(o.length:Int)<=(T.length:Int))/\(Lim (List.drop (Int.toNat 0) (List.take (o.length:Int).toNat T))/\(List.drop (Int.toNat 0) (List.take (o.length:Int).toNat T)).length<CAP)/\
   Lim (enc (dec (false,List.drop (Int.toNat 0) (List.take (o.length:Int).toNat T)))).2/\Ac (aO o)/\(enc (dec (false,List.drop (Int.toNat 0) (List.take (o.length:Int).toNat T)))).2.length<CAP:=by
 have hc:=f.hc;have hlm:=f.hlm;have hp:=f.hp;have h1:=h.1;rw[Int.toNat_natCast];show _/\(Lim (List.take o.length T)/\(List.take o.length T).length<CAP)/\Lim (limbs (dec (false,List.take o.length T)).natAbs)/\_/\(limbs (dec (false,List.take o.length T)).natAbs).length<CAP;have hl:(List.take o.length T).length=o.length:=by rw[List.length_take];omega
 have h2:(limbs (dec (false,List.take o.length T)).natAbs).length<=o.length:=limbs_len (by
  have h3:=lz h.2.1 o.length;show ((valL (List.take o.length T)).natAbs:Int)<_;omega)
 refine⟨⟨by omega,by omega,by omega⟩,⟨h.2.1.take _,by rw[hl];unfold CAP;omega⟩,(limbs_can _).1,⟨by have:=f.hs;omega,f.hs.2⟩,by unfold CAP;omega⟩
def bN(x y:Int):Int:=if 0<y then x/y else (-x)/(-y)
def ku(x y:Int):Int:=x-y*bN x y
theorem mq{m o:List Int}(hm:Cano m)(ho:Cano o)(hne:o≠[]):
  valL (jS m o)=valL m/valL o/\valL (eE m o)=valL m%valL o/\Lim (jS m o)/\Lim (eE m o)/\(jS m o).length<=m.length/\(eE m o).length<=m.length+1:=by
 have hm0:=valL_nonneg hm.1;have hvo:0<valL o:=(valL_pos ho).2 hne;have hml:=valL_lt hm.1;have hd0:0<=valL m/valL o:=Int.ediv_nonneg hm0 (by omega);have hd1:valL m/valL o<=valL m:=Int.ediv_le_self _ hm0;have hr0:=Int.emod_nonneg (valL m) (Int.ne_of_gt hvo);have hr1:=Int.emod_lt_of_pos (valL m) hvo;by_cases hlt:valL m<valL o;·have e1:valL m/valL o=0:=Int.ediv_eq_zero_of_lt hm0 hlt;have e2:valL m%valL o=valL m:=Int.emod_eq_of_lt hm0 hlt;unfold jS eE;rw[if_pos hlt,if_pos hlt,e1,e2];exact⟨rfl,rfl,fun x hx=>by simp at hx,hm.1,by simp,by omega⟩
 ·have hle:=len_le ho hm (by omega);by_cases h1:o.length=1;·unfold jS eE;rw[if_neg hlt,if_neg hlt,if_pos h1,if_pos h1];(have hx:valL o<LB:=by have h:=valL_lt ho.1;rw[h1,Int.pow_succ,Int.pow_zero,Int.one_mul] at h;exact h);refine⟨by rw[padL_val _ _ (by omega)];omega,valL_one _,padL_lim _ _,Lim.one hr0 (by omega),by rw[padL_len];omega,by simp⟩
  ·obtain⟨p,hp⟩:=rC hne (by omega);have hs:=tL ho hp;unfold jS eE;rw[if_neg hlt,if_neg hlt,if_neg h1,if_neg h1];have hr2:valL m%valL o<=valL m%valL o*aO o:=by
    have:=Int.mul_le_mul_of_nonneg_left hs.1.1 hr0;omega
   have hr3:valL m%valL o*aO o<LB^(p+2):=by
    have:=Int.mul_le_mul_of_nonneg_right (Int.le_of_lt hr1) (show 0<=aO o by omega);omega
   have hr4:=limbs_len (n:=(valL m%valL o*aO o).toNat) (k:=p+2) (by omega);have hr5:=valL_lt (limbs_can (valL m%valL o*aO o).toNat).1;rw[limbs_val] at hr5;have hge:=valL_ge ho hne;refine⟨?_,?_,padL_lim _ _,padL_lim _ _,by rw[padL_len];omega,by rw[padL_len];omega⟩
   ·rw[padL_val];·omega
    ·have h2:valL m/valL o<LB^(m.length+1-o.length):=by
      refine Int.ediv_lt_of_lt_mul hvo ?_;have h3:LB^(m.length+1-o.length)*LB^(o.length-1)<=LB^(m.length+1-o.length)*valL o:=Int.mul_le_mul_of_nonneg_left hge (Int.le_of_lt (lbpos _));rw[<- Int.pow_add,show m.length+1-o.length+(o.length-1)=m.length by omega] at h3;omega
     omega
   ·rw[padL_val _ _ (by omega)];omega
theorem QA{a b:Int}(hb:0<b):(a%b=0->(-a)/b= -(a/b))/\(a%b≠0->(-a)/b= -(a/b)-1):=by
 have h:=Int.emod_add_mul_ediv a b;have h0:=Int.emod_nonneg a (Int.ne_of_gt hb);have h1:=Int.emod_lt_of_pos a hb;refine⟨fun hz=>?_,fun hz=>?_⟩;·refine((Int.ediv_emod_unique (r:=0) hb).2 ⟨?_,by omega,hb⟩).1;rw[Int.mul_neg];omega
 ·refine((Int.ediv_emod_unique (r:=b-a%b) hb).2 ⟨?_,by omega,by omega⟩).1;rw[Int.mul_sub,Int.mul_neg,Int.mul_one];omega
theorem rW{x:Bool×List Int}(h:WOK x):valL x.2=(dec x).natAbs/\(x.1=true->dec x<0)/\(x.1=false->0<=dec x):=by
 have h0:=valL_nonneg h.1.1;unfold dec;refine⟨by split<;>omega,fun e=>?_,fun e=>by rw[if_neg (by rw[e];decide)];exact h0⟩;rw[if_pos e];have hne:x.2≠[]:=fun hn=>by rw[h.2 hn] at e;cases e
 have:=(valL_pos h.1).2 hne;omega
theorem wA{x y:Bool×List Int}(hx:WOK x)(hy:WOK y)(hne:dec y≠0):
  (dec (x.1,eE x.2 y.2)≠0/\(x.1 !=y.1)=true->dec (x.1 !=y.1,jS x.2 y.2)-1=bN (dec x) (dec y)/\dec (x.1,eE x.2 y.2)+dec y=ku (dec x) (dec y))/\
  (¬(dec (x.1,eE x.2 y.2)≠0/\(x.1 !=y.1)=true)->dec (x.1 !=y.1,jS x.2 y.2)=bN (dec x) (dec y)/\dec (x.1,eE x.2 y.2)=ku (dec x) (dec y)):=by
 have hyne:y.2≠[]:=fun h=>hne (by unfold dec;rw[h];simp[valL]);obtain⟨v1,v2,-⟩:=mq hx.1 hy.1 hyne;obtain⟨x1,x2,x3⟩:=rW hx;obtain⟨y1,y2,y3⟩:=rW hy;obtain⟨sx,mx⟩:=x;obtain⟨sy,my⟩:=y;simp only at*;have hb:0<valL my:=(valL_pos hy.1).2 hyne;have h:=Int.emod_add_mul_ediv (valL mx) (valL my);obtain⟨n1,n2⟩:=QA (a:=valL mx) hb;have ex:dec (sx,mx)=if sx=true then-valL mx else valL mx:=rfl
 have ey:dec (sy,my)=if sy=true then-valL my else valL my:=rfl
 have er:dec (sx,eE mx my)=if sx=true then-(valL mx%valL my) else valL mx%valL my:=by unfold dec;rw[v2]
 have eq:dec (sx !=sy,jS mx my)=if (sx !=sy)=true then-(valL mx/valL my) else valL mx/valL my:=by unfold dec;rw[v1]
 unfold ku bN;rw[er,eq,ex,ey];cases sx<;>cases sy;·simp only[Bool.false_eq_true,if_false,bne_self_eq_false,and_false,false_implies,not_false_eq_true,true_implies,true_and,if_pos hb];omega
 ·simp only[Bool.false_eq_true,if_false,if_true,Bool.false_bne,and_true,Int.neg_neg,if_neg (show ¬0< -valL my by omega)];refine⟨fun hr=>?_,fun hr=>?_⟩;·rw[n2 hr];refine⟨rfl,?_⟩;rw[Int.neg_mul,Int.mul_sub,Int.mul_neg,Int.mul_one];omega
  ·(have hr0:valL mx%valL my=0:=by omega);rw[n1 hr0];refine⟨rfl,?_⟩;rw[Int.neg_mul,Int.mul_neg];omega
 ·simp only[Bool.false_eq_true,if_false,if_true,Bool.true_bne,Bool.not_false,and_true,if_pos hb];refine⟨fun hr=>?_,fun hr=>?_⟩;·rw[n2 (by omega)];refine⟨rfl,?_⟩;rw[Int.mul_sub,Int.mul_neg,Int.mul_one];omega
  ·(have hr0:valL mx%valL my=0:=by omega);rw[n1 hr0];refine⟨rfl,?_⟩;rw[Int.mul_neg];omega
 ·simp only[Bool.false_eq_true,if_false,if_true,bne_self_eq_false,and_false,false_implies,not_false_eq_true,true_implies,true_and,Int.neg_neg,if_neg (show ¬0< -valL my by omega)];rw[Int.neg_mul];omega
end Go.Cm
end
section
namespace Go.Cm
open Go.Proofs
theorem Ft{s:Bool}{l:List Int}(h:Lim l):(enc (dec (s,l))).2.length<=l.length:=by
 show (limbs (dec (s,l)).natAbs).length<=_;refine limbs_len ?_;have h0:=valL_nonneg h;have h1:=valL_lt h;unfold dec;split<;>simp only<;>omega
structure qv (x y:Bool×List Int):Prop where
 hx:WOK x
 hy:WOK y
 hne:dec y≠0
 hc:x.2.length+y.2.length+3<CAP
namespace qv
variable {x y:Bool×List Int} (h:qv x y)
include h
theorem ne:y.2≠[]:=fun e=>h.hne (by unfold dec;rw[e];simp[valL])
theorem side1:Cano x.2/\Cano y.2/\y.2≠[]/\x.2.length+y.2.length+1<CAP:=⟨h.hx.1,h.hy.1,h.ne,by have:=h.hc;omega⟩
theorem side2:(Lim (jS x.2 y.2)/\(jS x.2 y.2).length<CAP)/\Lim (eE x.2 y.2)/\(eE x.2 y.2).length<CAP:=by
 obtain⟨v1,v2,v3,v4,v5,v6⟩:=mq h.hx.1 h.hy.1 h.ne;have:=h.hc;exact⟨⟨v3,by omega⟩,v4,by omega⟩
theorem cond:(bg (dec (enc (dec (x.1,eE x.2 y.2)))) 0≠0/\x.1≠y.1)↔(dec (x.1,eE x.2 y.2)≠0/\(x.1 !=y.1)=true):=by
 rw[bX,ne_eq,o5,bne_iff_ne]
theorem side4:I64 1/\(WOK (enc (dec (x.1 !=y.1,jS x.2 y.2)))/\WOK (enc 1)/\(enc (dec (x.1 !=y.1,jS x.2 y.2))).2.length+(enc 1).2.length<CAP)/\WOK (enc (dec (x.1,eE x.2 y.2)))/\WOK y/\(enc (dec (x.1,eE x.2 y.2))).2.length+y.2.length<CAP:=by
 obtain⟨v1,v2,v3,v4,v5,v6⟩:=mq h.hx.1 h.hy.1 h.ne;have e1:=Ft (s:=x.1 !=y.1) v3;have e2:=Ft (s:=x.1) v4;have e3:=nn (n:=1) (by unfold I64;omega);have:=h.hc;exact⟨by unfold I64;omega,⟨enc_ok _,e3.1,by omega⟩,enc_ok _,h.hy,by omega⟩
theorem fin1(hb:bg (dec (enc (dec (x.1,eE x.2 y.2)))) 0≠0/\x.1≠y.1):
  enc (dec (enc (dec (x.1 !=y.1,jS x.2 y.2)))-dec (enc 1))=enc (bN (dec x) (dec y))/\enc (dec (enc (dec (x.1,eE x.2 y.2)))+dec y)=enc (ku (dec x) (dec y)):=by
 obtain⟨h1,h2⟩:=(wA h.hx h.hy h.hne).1 (h.cond.1 hb);rw[bX,bX,bX,h1,h2];exact⟨rfl,rfl⟩
theorem fin2(hb:(bg (dec (enc (dec (x.1,eE x.2 y.2)))) 0 !=0)=true->x.1=y.1):
  enc (dec (x.1 !=y.1,jS x.2 y.2))=enc (bN (dec x) (dec y))/\enc (dec (x.1,eE x.2 y.2))=enc (ku (dec x) (dec y)):=by
 obtain⟨h1,h2⟩:=(wA h.hx h.hy h.hne).2 (fun hc=>by
  obtain⟨h3,h4⟩:=h.cond.2 hc;exact h4 (hb (by rw[bne_iff_ne];exact h3)))
 rw[h1,h2];exact⟨rfl,rfl⟩
end qv
end Go.Cm
end
section
namespace Go.Cm
open Go.Proofs
def ca(a b:Int):Int:=(Nat.gcd a.natAbs b.natAbs:Nat)
theorem Al(u v:Nat):Nat.gcd v (u%v)=Nat.gcd u v:=(Nat.gcd_comm _ _).trans ((Nat.gcd_rec v u).symm.trans (Nat.gcd_comm _ _))
theorem im{l:List Int}(h:0<l.length):l≠[]:=by rintro rfl;simp at h
theorem Dd{l:List Int}(h:l.length=0):l=[]:=List.eq_nil_of_length_eq_zero h
structure qw (x y:Bool×List Int):Prop where
 hx:WOK x
 hy:WOK y
 hc:2*(x.2.length+y.2.length)+4<CAP
structure yp (x y:Bool×List Int) (u v:List Int):Prop where
 hu:Cano u
 hv:Cano v
 hul:u.length<=x.2.length+y.2.length
 hvl:v.length<=x.2.length+y.2.length
 hg:Nat.gcd (valL u).toNat (valL v).toNat=Nat.gcd (dec x).natAbs (dec y).natAbs
theorem yp.start{x y:Bool×List Int}(h:qw x y):yp x y x.2 y.2:=by
 refine⟨h.hx.1,h.hy.1,by omega,by omega,?_⟩;rw[(rW h.hx).1,(rW h.hy).1,Int.toNat_natCast,Int.toNat_natCast]
namespace yp
variable {x y:Bool×List Int} {u v:List Int} (h:yp x y u v) (hp:qw x y)
include h hp
theorem side3(hne:v≠[]):Cano u/\Cano v/\v≠[]/\u.length+v.length+1<CAP:=⟨h.hu,h.hv,hne,by have:=hp.hc;have:=h.hul;have:=h.hvl;omega⟩
theorem side4(hne:v≠[]):Lim (eE u v)/\(eE u v).length<CAP:=by
 obtain⟨v1,v2,v3,v4,v5,v6⟩:=mq h.hu h.hv hne;exact⟨v4,by have:=hp.hc;have:=h.hul;omega⟩
omit hp in
theorem rest(hne:v≠[]):Cano (enc (dec (false,eE u v))).2/\valL (enc (dec (false,eE u v))).2=valL u%valL v/\(enc (dec (false,eE u v))).2.length<=v.length/\0<=valL u%valL v/\valL u%valL v<valL v:=by
 obtain⟨v1,v2,v3,v4,v5,v6⟩:=mq h.hu h.hv hne;have hvo:0<valL v:=(valL_pos h.hv).2 hne;have hr0:=Int.emod_nonneg (valL u) (Int.ne_of_gt hvo);have hr1:=Int.emod_lt_of_pos (valL u) hvo;have e:dec (false,eE u v)=valL u%valL v:=v2;rw[e];have hl:=valL_lt h.hv.1;refine⟨limbs_can _,?_,limbs_len (by omega),hr0,hr1⟩;show valL (limbs (valL u%valL v).natAbs)=_;rw[limbs_val];omega
theorem next(hne:v≠[]):yp x y v (enc (dec (false,eE u v))).2/\(valL (enc (dec (false,eE u v))).2).toNat<(valL v).toNat:=by
 obtain⟨r1,r2,r3,r4,r5⟩:=h.rest hne;have hu0:=valL_nonneg h.hu.1;have hv0:=valL_nonneg h.hv.1;refine⟨⟨h.hv,r1,h.hvl,by have:=h.hvl;omega,?_⟩,by rw[r2];omega⟩;rw[<- h.hg,r2,Int.toNat_emod hu0 hv0];exact Al _ _
omit hp in
theorem stop(he:v=[]):enc (dec (false,u))=enc (ca (dec x) (dec y)):=by
 have hg:=h.hg;subst he;have hu0:=valL_nonneg h.hu.1;show enc (valL u)=_;unfold ca;rw[<- hg];congr 1;simp[valL];omega
end yp
structure yq (x y:Bool×List Int) (a b:Int):Prop where
 a0:0<=a
 a1:a<18446744073709551616
 b0:0<=b
 b1:b<18446744073709551616
 hg:Nat.gcd a.toNat b.toNat=Nat.gcd (dec x).natAbs (dec y).natAbs
theorem Mt{l:List Int}(h:Lim l)(hl:l.length<=2):valL l<18446744073709551616:=by
 have h1:=valL_lt h;have h2:=pow_mono hl;have h3:LB^2=1000000000000000000:=rfl;omega
theorem yq.start{x y:Bool×List Int}{u v:List Int}(h:yp x y u v)(hp:qw x y)(hne:v≠[])(hl:v.length<=2):yq x y (valL v) (valL (enc (dec (false,eE u v))).2):=by
 obtain⟨r1,r2,r3,r4,r5⟩:=h.rest hne;exact⟨valL_nonneg h.hv.1,Mt h.hv.1 hl,valL_nonneg r1.1,Mt r1.1 (by omega),(h.next hp hne).1.hg⟩
theorem yq.next{x y:Bool×List Int}{a b:Int}(h:yq x y a b)(hb:0<b):yq x y b (a.tmod b)/\(a.tmod b).toNat<b.toNat:=by
 rw[Int.tmod_eq_emod_of_nonneg h.a0];have h0:=Int.emod_nonneg a (Int.ne_of_gt hb);have h1:=Int.emod_lt_of_pos a hb;have:=h.b1;refine⟨⟨h.b0,h.b1,h0,by omega,?_⟩,by omega⟩;rw[<- h.hg,Int.toNat_emod h.a0 h.b0];exact Al _ _
theorem yq.stop{x y:Bool×List Int}{a b:Int}(h:yq x y a b)(hb:¬0<b):a=((ca (dec x) (dec y)).toNat:Int)/\(ca (dec x) (dec y)).toNat<18446744073709551616:=by
 have hg:=h.hg;have:=h.b0;obtain rfl:b=0:=by omega
 have:(0:Int).toNat=0:=rfl;rw[this,Nat.gcd_zero_right] at hg;have h0:=h.a0;have h1:=h.a1;unfold ca;rw[Int.toNat_natCast,<- hg];omega
theorem QB(a b:Int):(false,limbs (ca a b).toNat)=enc (ca a b):=by
 unfold enc ca;simp
end Go.Cm
end
section
namespace Go.Cm
open Go.Proofs
abbrev WT:Ty:= .st (.pair .bool (.slice (.int .u32)))
theorem tP(n:Int){k:Nat}(h:(enc n).2.length<=k):(n.natAbs:Int)<LB^k:=by
 have h1:=valL_lt (limbs_can n.natAbs).1;rw[limbs_val] at h1;exact Int.lt_of_lt_of_le h1 (pow_mono h)
theorem I64.b{n:Int}(h:I64 n): -9223372036854775808<=n/\n<=9223372036854775807:=h
def dgt(c:Int):UInt8:=UInt8.ofNat (48+c%10).toNat
def lZ(s:List UInt8)(c:Int):List UInt8:=if s≠[]∨0<c%10 then s++ [dgt c] else s
def Am(D:List Int)(s:List UInt8):List UInt8:=(D.take 30).foldl lZ s
def di(D:List Int):Nat->List UInt8
 |0=>[]
 |n+1=>Am D (di D n)
def qx(d:Bool×List Int×Int):List UInt8:=di d.2.1 ((d.2.2%8).toNat+1)
def dB(d:Bool×List Int×Int):List UInt8:=if qx d=[] then [48] else if d.1=true then 45::qx d else qx d
def DOK(d:Bool×List Int×Int):Prop:=(∀c∈d.2.1,0<=c/\c<256)/\0<=d.2.2/\d.2.2<256
structure nS (D:List Int) (s0:List UInt8) (i:Nat) (s:List UInt8):Prop where
 h1:i<=D.length
 h2:i<=30
 h3:s=(D.take i).foldl lZ s0
theorem Fu{D:List Int}{s0 s:List UInt8}{i:Nat}(h:nS D s0 i s)(hl:i<D.length)(h3:i<30):nS D s0 (i+1) (lZ s (D.getD i 0)):=by
 refine⟨by omega,by omega,?_⟩;rw[List.take_add_one,List.foldl_append,<- h.h3,List.getD_eq_getElem?_getD,List.getElem?_eq_getElem hl];rfl
theorem Td{D:List Int}{s0 s:List UInt8}{i:Nat}(h:nS D s0 i s)(hn:¬(i<D.length/\i<30)):s=Am D s0:=by
 rw[h.h3];unfold Am;by_cases hi:i=30;·rw[hi]
 ·have:=h.h1;have:=h.h2;rw[List.take_of_length_le (by omega),List.take_of_length_le (by omega)]
theorem I7(s:List UInt8)(c:Int):(lZ s c).length<=s.length+1:=by
 unfold lZ;split<;>simp
theorem qy:∀(l:List Int) (s:List UInt8),(l.foldl lZ s).length<=s.length+l.length
 | [],s=>by simp
 |c::l,s=>by
  have h1:=qy l (lZ s c);have h2:=I7 s c;simp only[List.foldl_cons,List.length_cons];omega
theorem I9(D:List Int)(s:List UInt8):(Am D s).length<=s.length+30:=by
 have:=qy (D.take 30) s;have h2:(D.take 30).length<=30:=by rw[List.length_take];omega
 unfold Am;omega
theorem mr(D:List Int):∀n,(di D n).length<=30*n
 |0=>by simp[di]
 |n+1=>by
  have h1:=mr D n;have h2:=I9 D (di D n);rw[di];omega
theorem An{d:Bool×List Int×Int}(h:DOK d):(qx d).length<=240:=by
 have h1:=mr d.2.1 ((d.2.2%8).toNat+1);have h2:=h.2.1;unfold qx;omega
theorem w8{x:Int}(h0:0<=x)(h1:x<256):IntKind.u8.wrap x=x:=by
 have h:IntKind.u8.wrap x=x%256:=by simp[IntKind.wrap,IntKind.signed,IntKind.bits]
 rw[h];omega
theorem Fv{D:List Int}(h:∀c∈D,0<=c/\c<256)(i:Nat):strOf [IntKind.u8.wrap (48+Int.tmod (nth (Ty.int IntKind.u8) D (i:Int)) 10)]=[dgt (D.getD i 0)]/\Int.tmod (nth (Ty.int IntKind.u8) D (i:Int)) 10=D.getD i 0%10:=by
 have hx:0<=D.getD i 0/\D.getD i 0<256:=by
  by_cases hi:i<D.length
  ·rw[List.getD_eq_getElem?_getD,List.getElem?_eq_getElem hi];exact h _ (List.getElem_mem hi)
  ·rw[List.getD_eq_getElem?_getD,List.getElem?_eq_none (by omega)];decide
 have e:nth (Ty.int IntKind.u8) D (i:Int)=D.getD i 0:=rfl;rw[e,Int.tmod_eq_emod_of_nonneg hx.1,w8 (by omega) (by omega)];exact⟨rfl,rfl⟩
theorem Fw{d:Bool×List Int×Int}{k i:Nat}{s:List UInt8}(hd:DOK d)(h:nS d.2.1 (di d.2.1 k) i s)(hb1:(i:Int)<(d.2.1.length:Int)/\(i:Int)<30)
  (hb2:(s !=[]||decide (0<Int.tmod (nth (Ty.int IntKind.u8) d.2.1 (i:Int)) 10))=true):
  ∃a:Nat,IntKind.i64.wrap ((i:Int)+1)=(a:Int)/\nS d.2.1 (di d.2.1 k) a (s++strOf [IntKind.u8.wrap (48+Int.tmod (nth (Ty.int IntKind.u8) d.2.1 (i:Int)) 10)])/\30-a<30-i:=by
 obtain⟨c1,c2⟩:=Fv hd.1 i;rw[c2] at hb2;have hb3:s≠[]∨0<d.2.1.getD i 0%10:=by simpa using hb2
 refine⟨i+1,by rw[wo];simp,?_,by omega⟩;have:=Fu h (by omega) (by omega);rw[lZ,if_pos hb3] at this;rw[c1];exact this
theorem Ao{d:Bool×List Int×Int}{k i:Nat}{s:List UInt8}(hd:DOK d)(h:nS d.2.1 (di d.2.1 k) i s)(hb1:(i:Int)<(d.2.1.length:Int)/\(i:Int)<30)
  (hb2:(s !=[]||decide (0<Int.tmod (nth (Ty.int IntKind.u8) d.2.1 (i:Int)) 10))=false):
  ∃a:Nat,IntKind.i64.wrap ((i:Int)+1)=(a:Int)/\nS d.2.1 (di d.2.1 k) a s/\30-a<30-i:=by
 obtain⟨c1,c2⟩:=Fv hd.1 i;rw[c2] at hb2;have hb3:¬(s≠[]∨0<d.2.1.getD i 0%10):=by
  intro h';have:(s !=[]||decide (0<d.2.1.getD i 0%10))=true:=by simpa using h'
  rw[hb2] at this;cases this
 refine⟨i+1,by rw[wo];simp,?_,by omega⟩;have:=Fu h (by omega) (by omega);rw[lZ,if_neg hb3] at this;exact this
theorem Mu{z:Int}(h:0<=z/\z<256):IntKind.i64.wrap (Int.tmod z 8)=z%8:=by
 rw[Int.tmod_eq_emod_of_nonneg h.1,wo]
theorem Mv{d:Bool×List Int×Int}{k i:Nat}{s:List UInt8}(hd:DOK d)(hk:k<=(d.2.2%8).toNat+1)(hb:(k:Int)<=IntKind.i64.wrap (Int.tmod d.2.2 8))(h:nS d.2.1 (di d.2.1 k) i s)(hn:(i:Int)<(d.2.1.length:Int)-> ¬(i:Int)<30):
  ∃z:Nat,s=di d.2.1 z/\IntKind.i64.wrap ((k:Int)+1)=(z:Int)/\z<=Int.toNat (d.2.2%8)+1/\Int.toNat (d.2.2%8)+1-z<Int.toNat (d.2.2%8)+1-k:=by
 rw[Mu hd.2] at hb;have:=hd.2;refine⟨k+1,?_,by rw[wo];simp,by omega,by omega⟩;rw[Td h (by omega)];rfl
theorem rX{d:Bool×List Int×Int}{k:Nat}(hd:DOK d)(hk:k<=(d.2.2%8).toNat+1)(hb:¬(k:Int)<=IntKind.i64.wrap (Int.tmod d.2.2 8)):di d.2.1 k=qx d:=by
 rw[Mu hd.2] at hb;have:=hd.2;unfold qx;rw[show k=(d.2.2%8).toNat+1 by omega]
theorem Te{d:Bool×List Int×Int}{k i:Nat}{s:List UInt8}(hd:DOK d)(hk:k<=(d.2.2%8).toNat+1)(h:nS d.2.1 (di d.2.1 k) i s):s.length<=300:=by
 have h1:=qy (d.2.1.take i) (di d.2.1 k);have h2:=mr d.2.1 k;have h3:=h.h2;have h4:(d.2.1.take i).length<=i:=by rw[List.length_take];omega
 have:=hd.2;rw[h.h3];omega
theorem pg{d:Nat}(h:d<10):(UInt8.ofNat (48+d)).toNat=48+d:=by
 rw[UInt8.toNat_ofNat'];exact Nat.mod_eq_of_lt (by omega)
theorem jE:∀(u:Nat),dD (Lib.decDigits u)/\numOf (Lib.decDigits u)=u/\(Lib.decDigits u)≠[]/\(0<u->(Lib.decDigits u).getD 0 0≠48):=by
 intro u;induction u using Nat.strongRecOn with
 |ind u ih=>
  rw[Lib.decDigits];split
  ·(rename_i h;have hc:=pg h;refine⟨fun c hc'=>?_,?_,by simp,fun hp=>?_⟩;·simp only[List.mem_singleton] at hc';rw[hc',hc];omega);·simp only[numOf,List.foldl_cons,List.foldl_nil,hc];omega
   ·simp only[List.getD_cons_zero];intro e;have:=congrArg UInt8.toNat e;rw[hc] at this;have h48:(48:UInt8).toNat=48:=rfl;omega
  ·rename_i h;have hc:=pg (d:=u%10) (by omega);obtain⟨h1,h2,h3,h4⟩:=ih (u/10) (by omega);refine⟨fun c hc'=>?_,?_,by simp,fun _=>?_⟩
   ·(rcases List.mem_append.1 hc' with hc'|hc';·exact h1 c hc');·simp only[List.mem_singleton] at hc';rw[hc',hc];omega
   ·rw[gE,h2];simp only[numOf,List.foldl_cons,List.foldl_nil,hc,List.length_cons,List.length_nil];omega
   ·match hq:Lib.decDigits (u/10),h3 with
    |a::l,_=>rw[hq] at h4;simpa using h4 (by omega)
theorem lB{D:List UInt8}(h:dD D)(hne:D≠[])(h0:D.getD 0 0≠48∨D.length=1):Lib.decDigits (numOf D)=D:=by
 have key:∀(n:Nat) (D:List UInt8),D.length=n+1->dD D->(D.getD 0 0≠48∨D.length=1)->Lib.decDigits (numOf D)=D:=by
  intro n;induction n with
  |zero=>
   intro D hl hd _;match D,hl with
   | [c],_=>
    have hc:=hd c (by simp);(have e:numOf [c]=c.toNat-48:=by simp[numOf]);rw[e,Lib.decDigits,dif_pos (by omega),show 48+(c.toNat-48)=c.toNat by omega,UInt8.ofNat_toNat]
  |succ n ih=>
   intro D hl hd h0;(have hne:D≠[]:=by rintro rfl;simp at hl);have e:=List.dropLast_concat_getLast hne;generalize hP:D.dropLast=P at e;generalize D.getLast hne=c at e;(have hPl:P.length=n+1:=by rw[<- hP,List.length_dropLast];omega);have hdP:dD P:=fun x hx=>hd x (by rw[<- e];simp[hx]);have hc:=hd c (by rw[<- e];simp);have hg:P.getD 0 0=D.getD 0 0:=by
    rw[<- e];match P,hPl with
    |a::l,_=>simp
   have h0D:D.getD 0 0≠48:=by
    (rcases h0 with h|h;·exact h);·omega
   (have h0P:P.getD 0 0≠48:=by rw[hg];exact h0D);have hi:=ih P hPl hdP (.inl h0P);have hpos:0<numOf P:=by
    by_cases hz:numOf P=0
    ·exfalso;rw[hz] at hi;(have h5:Lib.decDigits 0=[48]:=by rw[Lib.decDigits];rfl);rw[h5] at hi;rw[<- hi] at h0P;exact h0P rfl
    ·omega
   have hv:numOf D=numOf P*10+(c.toNat-48):=by
    rw[<- e,gE];simp[numOf]
   rw[hv,Lib.decDigits,dif_neg (by omega),show (numOf P*10+(c.toNat-48))/10=numOf P by omega,show (numOf P*10+(c.toNat-48))%10=c.toNat-48 by omega,hi,
    show 48+(c.toNat-48)=c.toNat by omega,UInt8.ofNat_toNat,e]
 match D,hne with
 |a::l,_=>exact key l.length (a::l) (by simp) h h0
theorem mu(l:List UInt8):dz (45::l) [45]=true/\ar (45::l) [45]=l:=by
 have h:dz (45::l) [45]=true:=by simp[dz]
 refine⟨h,?_⟩;unfold ar;rw[if_pos h];rfl
theorem oq{D:List UInt8}(h:dD D):dz D [45]=false/\ar D [45]=D:=by
 have h1:dz D [45]=false:=by
  rw[Bool.eq_false_iff];intro hp;unfold dz at hp;simp only[Bool.and_eq_true,decide_eq_true_eq,beq_iff_eq] at hp;match D,hp.2 with
  |c::l,e=>
   simp at e;have:=h c (by simp);rw[e] at this;exact absurd this.1 (by decide)
  | [],e=>simp at e
 refine⟨h1,?_⟩;unfold ar;rw[if_neg (by rw[h1];decide)]
theorem lC{s D:List UInt8}(ht:ar s [45]=D)(h:dD D)(hne:D≠[])(h0:D.getD 0 0≠48∨s=[48]):chk s=if 2000<D.length then 6 else 0:=by
 by_cases h48:s=[48]
 ·rw[h48] at ht ⊢;have:D=[48]:=by rw[<- ht];decide
  rw[this];decide
 ·refine(jD h48 (by
   rw[ht];rintro(h1|h1);·exact hne h1
   ·(rcases h0 with h0|h0;·exact h0 h1);·exact h48 h0) (by
   rw[ht,List.all_eq_true];intro c hc;have:=h c hc;simp[fZ];omega)).trans ?_
  rw[ht]
theorem dV(n:Int):cr n=((Lib.decDigits n.natAbs).length:Int):=by
 unfold cr Lib.itoa;rw[if_neg (by omega)];simp
theorem tQ(n:Int):chk (Lib.itoa n)=(if 2000<cr n then 6 else 0)/\ah (Lib.itoa n)=n:=by
 obtain⟨d1,d2,d3,d4⟩:=jE n.natAbs;by_cases hn:n<0
 ·have e:Lib.itoa n=45::Lib.decDigits n.natAbs:=by unfold Lib.itoa;rw[if_pos hn]
  obtain⟨p1,p2⟩:=mu (Lib.decDigits n.natAbs);rw[e,lC p2 d1 d3 (.inl (d4 (by omega))),dV];refine⟨?_,?_⟩
  ·by_cases h:2000<(Lib.decDigits n.natAbs).length
   ·rw[if_pos h,if_pos (by omega)]
   ·rw[if_neg h,if_neg (by omega)]
  ·unfold ah;rw[if_pos p1,p2,d2];omega
 ·have e:Lib.itoa n=Lib.decDigits n.natAbs:=by
   unfold Lib.itoa;rw[if_neg hn];congr 1;omega
  obtain⟨p1,p2⟩:=oq d1;have h0:(Lib.decDigits n.natAbs).getD 0 0≠48∨Lib.decDigits n.natAbs=[48]:=by
   by_cases hz:n.natAbs=0
   ·right;rw[hz,Lib.decDigits];rfl
   ·exact .inl (d4 (by omega))
  rw[e,lC p2 d1 d3 h0,dV];refine⟨?_,?_⟩
  ·by_cases h:2000<(Lib.decDigits n.natAbs).length
   ·rw[if_pos h,if_pos (by omega)]
   ·rw[if_neg h,if_neg (by omega)]
  ·unfold ah;rw[if_neg (by rw[p1];decide),p2,d2];omega
theorem wB{s:List UInt8}(h:chk s=0):Lib.itoa (ah s)=s/\cr (ah s)<=2000:=by
 obtain⟨c1,c2,c3,c4⟩:=CY h;have hne:ar s [45]≠[]:=by intro e;rw[e] at c2;simp at c2
 by_cases h48:s=[48]
 ·subst h48;have e:ah [48]=0:=by decide
  rw[e];refine⟨by simp[Lib.itoa,Lib.decDigits],by rw[wq];decide⟩
 ·have h0:=c4 h48;have hd:=lB c1 hne (.inl h0);have hpos:0<numOf (ar s [45]):=by
   by_cases hz:numOf (ar s [45])=0
   ·exfalso;rw[hz] at hd;(have h5:Lib.decDigits 0=[48]:=by rw[Lib.decDigits];rfl);rw[h5] at hd;rw[<- hd] at h0;exact h0 rfl
   ·omega
  have habs:(ah s).natAbs=numOf (ar s [45]):=by unfold ah;split<;>omega
  refine⟨?_,by rw[dV,habs,hd];omega⟩;unfold ah Lib.itoa;by_cases hp:dz s [45]=true
  ·rw[if_pos hp,if_pos (by omega),show (-(numOf (ar s [45]):Int)).natAbs=numOf (ar s [45]) by omega,hd];unfold ar;rw[if_pos hp];unfold dz at hp;simp only[Bool.and_eq_true,decide_eq_true_eq,beq_iff_eq] at hp;match s,hp.2 with
   |c::l,e=>simp at e;rw[e];rfl
   | [],e=>simp at e
  ·rw[if_neg hp,if_neg (by omega),Int.toNat_natCast,hd];unfold ar;rw[if_neg hp]
def Ap(s:List UInt8):Prop:=dD s/\(s≠[]->s.getD 0 0≠48)
theorem Mw{c:Int}:48<=(dgt c).toNat/\(dgt c).toNat<=57/\(0<c%10->(dgt c).toNat≠48):=by
 unfold dgt;rw[show (48+c%10).toNat=48+(c%10).toNat by omega,pg (by omega)];omega
theorem Aq{s:List UInt8}{c:Int}(h:Ap s):Ap (lZ s c):=by
 obtain⟨c1,c2,c3⟩:=Mw (c:=c);unfold lZ;split
 ·rename_i hc;refine⟨fun x hx=>?_,fun _=>?_⟩
  ·(rcases List.mem_append.1 hx with hx|hx;·exact h.1 x hx);·simp only[List.mem_singleton] at hx;rw[hx];exact⟨c1,c2⟩
  ·match s,hc,h with
   | [],hc,_=>
    have h0:0<c%10:=by
     (rcases hc with hc|hc;·exact absurd rfl hc);·exact hc
    show dgt c≠48;intro e;exact c3 h0 (congrArg UInt8.toNat e)
   |a::l,_,h=>exact h.2 (by simp)
 ·exact h
theorem rD:∀(l:List Int) (s:List UInt8),Ap s->Ap (l.foldl lZ s)
 | [],_,h=>h
 |c::l,s,h=>rD l _ (Aq h)
theorem nT(D:List Int):∀n,Ap (di D n)
 |0=>⟨fun x hx=>by simp[di] at hx,fun h=>absurd rfl h⟩
 |n+1=>rD _ _ (nT D n)
theorem Mx{d:Bool×List Int×Int}(h:DOK d):chk (dB d)=0/\(ah (dB d)).natAbs<10^240:=by
 obtain⟨r1,r2⟩:=nT d.2.1 ((d.2.2%8).toNat+1);have hl:=An h;change dD (qx d) at r1;change qx d≠[]->(qx d).getD 0 0≠48 at r2;have hn:numOf (qx d)<10^240:=Nat.lt_of_lt_of_le (fE r1) (Nat.pow_le_pow_right (by decide) hl);unfold dB;by_cases h0:qx d=[];·rw[if_pos h0];exact⟨by decide,by decide⟩
 ·rw[if_neg h0];by_cases hs:d.1=true;·rw[if_pos hs];obtain⟨p1,p2⟩:=mu (qx d);refine⟨by rw[lC p2 r1 h0 (.inl (r2 h0)),if_neg (by omega)],?_⟩;unfold ah;rw[if_pos p1,p2];omega
  ·rw[if_neg hs];obtain⟨p1,p2⟩:=oq r1;refine⟨by rw[lC p2 r1 h0 (.inl (r2 h0)),if_neg (by omega)],?_⟩;unfold ah;rw[if_neg (by rw[p1];decide),p2];omega
theorem Fx{n:Int}{k:Nat}(hk:0<k)(h:n.natAbs<10^k):cr n<=k:=by
 have:=lj h hk;rw[dV];omega
theorem Ar{s:List UInt8}(h:chk s=0):o8 s:=by
 obtain⟨d1,d2,d3,d4⟩:=CY h;unfold o8;have:s.length<=(ar s [45]).length+1:=by
  unfold ar;split;·rw[List.length_drop,show ([45]:List UInt8).length=1 from rfl];omega
  ·omega
 omega
structure OKT (s:List UInt8) (v:Int):Prop where
 c:chk s=0
 v:ah s=v
def Bnd(v:Int)(k:Nat):Prop:=v.natAbs<10^k
theorem Bnd.add{a b:Int}{k:Nat}(ha:Bnd a k)(hb:Bnd b k):Bnd (a+b) (k+1):=by
 unfold Bnd at*;rw[Nat.pow_succ];omega
theorem Bnd.sub{a b:Int}{k:Nat}(ha:Bnd a k)(hb:Bnd b k):Bnd (a-b) (k+1):=by
 unfold Bnd at*;rw[Nat.pow_succ];omega
theorem Bnd.mul{a b:Int}{k l:Nat}(ha:Bnd a k)(hb:Bnd b l):Bnd (a*b) (k+l):=by
 unfold Bnd at*;rw[Int.natAbs_mul,Nat.pow_add];exact Nat.mul_lt_mul_of_lt_of_le ha (Nat.le_of_lt hb) (Nat.pow_pos (by decide))
theorem Bnd.mono{a:Int}{k l:Nat}(ha:Bnd a k)(h:k<=l):Bnd a l:=Nat.lt_of_lt_of_le ha (Nat.pow_le_pow_right (by decide) h)
theorem OKT.short{s:List UInt8}{v:Int}(h:OKT s v):o8 s:=Ar h.c
theorem OKT.eq{a b:List UInt8}{x y:Int}(ha:OKT a x)(hb:OKT b y):x=y↔a=b:=by
 constructor;·intro h;rw[<- (wB ha.c).1,<- (wB hb.c).1,ha.v,hb.v,h]
 ·rintro rfl;rw[<- ha.v,<- hb.v]
end Go.Cm
end
section
namespace Go.Cm
section
variable {X:Cx} {s s':aa} {K:Exit->aa->Prop} {id:Nat} {ops:Array Oper} {c2:Code} {C C':Prop} {recs:List Rec}
theorem sg(hK:J X c2 s' K)(hG:bx X.P X.T:=by assumption)(he:exec X.T ops.toList ops.toList s=some (C,s'):=by exact ex0)(hC:C:=by first|trivial|omega|(simp;done)|(simp;omega)):J X (.seq (.region id ops false) c2) s K:=ag (cp hG he hC (af hK))
theorem sq(hC:C')(hK:J X c2 s' K)(hG:bx X.P X.T:=by assumption)(he:exec X.T ops.toList ops.toList s=some (C,s'):=by exact ex0)(hc:C'->C:=by intro h;first|(simp only[ba];exact h)|exact h):J X (.seq (.region id ops false) c2) s K:=ag (cp hG he (hc hC) (af hK))
theorem sd(hC:C')(hK:J X c2 s' K)(hG:bx X.P X.T:=by assumption)(he:trace X.T ops.toList ops.toList s=some (C,s',recs):=by exact tr0)(ho:jf ops.toList recs=true:=by kernel_rfl)(hf:(recs.flatMap Rec.news).all (fun x=> !s.refs.contains x)=true:=by rfl)(hd:(distinct (s'.env.map Prod.fst)&&distinct (s'.own.map Prod.fst))=true:=by rfl)(hc:C'->C:=by intro h;first|(simp only[ba];exact h)|exact h):J X (.seq (.region id ops true) c2) s K:=ag (om hG he ho hf hd (hc hC) (af hK))
theorem rg(hK:K .normal s')(hG:bx X.P X.T:=by assumption)(he:exec X.T ops.toList ops.toList s=some (C,s'):=by exact ex0)(hC:C:=by first|trivial|omega|(simp;done)|(simp;omega)):J X (.region id ops false) s K:=cp hG he hC hK
theorem rq(hC:C')(hK:K .normal s')(hG:bx X.P X.T:=by assumption)(he:exec X.T ops.toList ops.toList s=some (C,s'):=by exact ex0)(hc:C'->C:=by intro h;first|(simp only[ba];exact h)|exact h):J X (.region id ops false) s K:=cp hG he (hc hC) hK
theorem rd(hC:C')(hK:K .normal s')(hG:bx X.P X.T:=by assumption)(he:trace X.T ops.toList ops.toList s=some (C,s',recs):=by exact tr0)(ho:jf ops.toList recs=true:=by kernel_rfl)(hf:(recs.flatMap Rec.news).all (fun x=> !s.refs.contains x)=true:=by rfl)(hd:(distinct (s'.env.map Prod.fst)&&distinct (s'.own.map Prod.fst))=true:=by rfl)(hc:C'->C:=by intro h;first|(simp only[ba];exact h)|exact h):J X (.region id ops true) s K:=om hG he ho hf hd (hc hC) hK
theorem qc{c:Operand}{x y:Code}{t:Bool}{p q:Prop}(h1:p->J X x s K)(h2:q->J X y s K)(hc:leaf (bc s c)=some (.z .bool t):=by simp only[Go.Cm.mx0,Go.Cm.mx1,Go.Cm.mx2,Go.Cm.mx3,Go.Cm.mx4,Go.Cm.mx5,Go.Cm.mx6,Go.Cm.effOp,Go.Cm.endCall,Go.Cm.callOp,Go.Cm.appendOp,Go.Cm.sliceLV,Go.Cm.Ty.fieldTy,Go.Cm.Ty.fieldOf,Nat.reduceLT,Nat.reduceEqDiff,Nat.reduceAdd,Nat.reduceMul,Nat.reduceSub,Nat.reduceLeDiff,Nat.reduceBEq,Nat.reduceBNe,reduceIte,reduceDIte,reduceCtorEq];rfl)(e1:t=true->p:=by intro h;first|(simp only[bt] at h;exact h)|exact h)(e2:t=false->q:=by intro h;first|(simp only[bf] at h;exact h)|exact h):J X (.cond c x y) s K:=LY hc (fun h=>h1 (e1 h)) (fun h=>h2 (e2 h))
end
theorem qe{p:List Nat->Prop}{q:Prop}(l:List Nat)(hq:q)(h:p l=q:=by simp only[hT,hX,Go.Cm.mr0,Go.Cm.mr1,Go.Cm.mr2,Go.Cm.isNilP,Nat.reduceLT,Nat.reduceEqDiff,Nat.reduceAdd,Nat.reduceMul,Nat.reduceSub,Nat.reduceLeDiff,Nat.reduceBEq,Nat.reduceBNe,reduceIte,reduceDIte,reduceCtorEq];rfl):∃l,p l:=⟨l,h▸hq⟩
def mT(B:aq)(ts:List (TypeId×Ty))(es:List (TypeId×TypeId))(cs:List (FuncId×Con))(hs:List Nat)(n:Nat):Tab:={types:=ts,elems:=es,cons:=cs,hint:=hs,N:=n,base:=B}
theorem mg{P:Program}{T:Tab}(h1:∀t u,get? T.types t=some u->cO P t u)(h2:∀t e,get? T.elems t=some e->P.underlying t=some (.slice e))(h3:ig P T)(hN:T.N<=ioB:=by exact Nat.le_of_ble_eq_true rfl)(hm:P.follows .mixedOrders=true:=by kernel_rfl):bx P T:=⟨⟨h1,h2,hN⟩,h3,hm⟩
theorem tt{C:Prop}(h:C:=by first|trivial|omega|(simp;done)|(simp;omega)):C:=h
def c0(C:Prop)(r:List RV):Con:=fun l os=>match l,os with
 | [],[]=>some (C,r,[])
 |_,_=>none
theorem Uu{C:Prop}{r:List RV}:c0 C r [] []=some (C,r,[]):=by
 rfl
theorem Tf{C:Prop}{r:List RV}{l:List LV}{os os':List aJ}{P:Prop}{rs:List RV}(h:c0 C r l os=some (P,rs,os')):l=[]/\os=[]/\P=C/\rs=r/\os'=[]:=by
 unfold c0 at h;split at h;·cases h;exact⟨rfl,rfl,rfl,rfl,rfl⟩
 ·cases h
theorem v0{P:Program}{T:Tab}{fn:Func}{f:FuncId}{code:Code}{C:Prop}{r:List RV}(g:bx P T)(hf:P.funcs[f]? =some fn)(h:C->∀X:Cx,X.P=P->X.T=T->X.r=none->bx X.P X.T->J X code {env:=az 0 [],own:=aj ioB []} (Ends T fn r []))(hb:fn.body=some code:=by rfl)(hN:T.N=fn.ntmps:=by rfl)(hk:T.keep=[]:=by rfl)(hr:T.free=[]:=by rfl)(hl:0<=T.N:=by exact Nat.le_of_ble_eq_true rfl):Valid T.base P f (c0 C r):=by
 refine aW g.tab hf hb hN hk ?_ hr;intro args os D rs os' hc hD;obtain⟨rfl,rfl,rfl,rfl,rfl⟩:=Tf hc;exact⟨hl,rfl,fun X hP hT hX=>h hD X hP hT hX (by rw[hP,hT];exact g)⟩
def c1(t1:Ty)(C:t1.D->Prop)(r:t1.D->List RV):Con:=fun l os=>match l,os with
 | [.z u1 x1],[]=>if h:u1=t1 then some (C (h▸x1),r (h▸x1),[]) else none
 |_,_=>none
theorem Uv{t1:Ty}{C:t1.D->Prop}{r:t1.D->List RV}(x1:t1.D):c1 t1 C r [.z t1 x1] []=some (C x1,r x1,[]):=by
 unfold c1;simp
theorem My{t1:Ty}{C:t1.D->Prop}{r:t1.D->List RV}{l:List LV}{os os':List aJ}{P:Prop}{rs:List RV}(h:c1 t1 C r l os=some (P,rs,os')):∃x1,l=[.z t1 x1]/\os=[]/\P=(C x1)/\rs=(r x1)/\os'=[]:=by
 unfold c1 at h;split at h
 ·split at h;·rename_i hh;subst hh;cases h;exact⟨_,rfl,rfl,rfl,rfl,rfl⟩
  ·cases h
 ·cases h
theorem v1{P:Program}{T:Tab}{fn:Func}{f:FuncId}{code:Code}{t1:Ty}{C:t1.D->Prop}{r:t1.D->List RV}(g:bx P T)(hf:P.funcs[f]? =some fn)(h:∀(x1:t1.D),C x1->∀X:Cx,X.P=P->X.T=T->X.r=none->bx X.P X.T->J X code {env:=az 0 [.z t1 x1],own:=aj ioB []} (Ends T fn (r x1) []))(hb:fn.body=some code:=by rfl)(hN:T.N=fn.ntmps:=by rfl)(hk:T.keep=[]:=by rfl)(hr:T.free=[]:=by rfl)(hl:1<=T.N:=by exact Nat.le_of_ble_eq_true rfl):Valid T.base P f (c1 t1 C r):=by
 refine aW g.tab hf hb hN hk ?_ hr;intro args os D rs os' hc hD;obtain⟨x1,rfl,rfl,rfl,rfl,rfl⟩:=My hc;exact⟨hl,rfl,fun X hP hT hX=>h x1 hD X hP hT hX (by rw[hP,hT];exact g)⟩
def c2(t1 t2:Ty)(C:t1.D->t2.D->Prop)(r:t1.D->t2.D->List RV):Con:=fun l os=>match l,os with
 | [.z u1 x1,.z u2 x2],[]=>if h:u1=t1/\u2=t2 then some (C (h.1▸x1) (h.2▸x2),r (h.1▸x1) (h.2▸x2),[]) else none
 |_,_=>none
theorem Uw{t1 t2:Ty}{C:t1.D->t2.D->Prop}{r:t1.D->t2.D->List RV}(x1:t1.D)(x2:t2.D):c2 t1 t2 C r [.z t1 x1,.z t2 x2] []=some (C x1 x2,r x1 x2,[]):=by
 unfold c2;simp
theorem qz{t1 t2:Ty}{C:t1.D->t2.D->Prop}{r:t1.D->t2.D->List RV}{l:List LV}{os os':List aJ}{P:Prop}{rs:List RV}(h:c2 t1 t2 C r l os=some (P,rs,os')):∃x1 x2,l=[.z t1 x1,.z t2 x2]/\os=[]/\P=(C x1 x2)/\rs=(r x1 x2)/\os'=[]:=by
 unfold c2 at h;split at h
 ·split at h;·rename_i hh;obtain⟨rfl,rfl⟩:=hh;cases h;exact⟨_,_,rfl,rfl,rfl,rfl,rfl⟩
  ·cases h
 ·cases h
theorem v2{P:Program}{T:Tab}{fn:Func}{f:FuncId}{code:Code}{t1 t2:Ty}{C:t1.D->t2.D->Prop}{r:t1.D->t2.D->List RV}(g:bx P T)(hf:P.funcs[f]? =some fn)(h:∀(x1:t1.D) (x2:t2.D),C x1 x2->∀X:Cx,X.P=P->X.T=T->X.r=none->bx X.P X.T->J X code {env:=az 0 [.z t1 x1,.z t2 x2],own:=aj ioB []} (Ends T fn (r x1 x2) []))(hb:fn.body=some code:=by rfl)(hN:T.N=fn.ntmps:=by rfl)(hk:T.keep=[]:=by rfl)(hr:T.free=[]:=by rfl)(hl:2<=T.N:=by exact Nat.le_of_ble_eq_true rfl):Valid T.base P f (c2 t1 t2 C r):=by
 refine aW g.tab hf hb hN hk ?_ hr;intro args os D rs os' hc hD;obtain⟨x1,x2,rfl,rfl,rfl,rfl,rfl⟩:=qz hc;exact⟨hl,rfl,fun X hP hT hX=>h x1 x2 hD X hP hT hX (by rw[hP,hT];exact g)⟩
def c3(t1 t2 t3:Ty)(C:t1.D->t2.D->t3.D->Prop)(r:t1.D->t2.D->t3.D->List RV):Con:=fun l os=>match l,os with
 | [.z u1 x1,.z u2 x2,.z u3 x3],[]=>if h:u1=t1/\u2=t2/\u3=t3 then some (C (h.1▸x1) (h.2.1▸x2) (h.2.2▸x3),r (h.1▸x1) (h.2.1▸x2) (h.2.2▸x3),[]) else none
 |_,_=>none
theorem Ux{t1 t2 t3:Ty}{C:t1.D->t2.D->t3.D->Prop}{r:t1.D->t2.D->t3.D->List RV}(x1:t1.D)(x2:t2.D)(x3:t3.D):c3 t1 t2 t3 C r [.z t1 x1,.z t2 x2,.z t3 x3] []=some (C x1 x2 x3,r x1 x2 x3,[]):=by
 unfold c3;simp
theorem Tg{t1 t2 t3:Ty}{C:t1.D->t2.D->t3.D->Prop}{r:t1.D->t2.D->t3.D->List RV}{l:List LV}{os os':List aJ}{P:Prop}{rs:List RV}(h:c3 t1 t2 t3 C r l os=some (P,rs,os')):∃x1 x2 x3,l=[.z t1 x1,.z t2 x2,.z t3 x3]/\os=[]/\P=(C x1 x2 x3)/\rs=(r x1 x2 x3)/\os'=[]:=by
 unfold c3 at h;split at h
 ·split at h;·rename_i hh;obtain⟨rfl,rfl,rfl⟩:=hh;cases h;exact⟨_,_,_,rfl,rfl,rfl,rfl,rfl⟩
  ·cases h
 ·cases h
theorem v3{P:Program}{T:Tab}{fn:Func}{f:FuncId}{code:Code}{t1 t2 t3:Ty}{C:t1.D->t2.D->t3.D->Prop}{r:t1.D->t2.D->t3.D->List RV}(g:bx P T)(hf:P.funcs[f]? =some fn)(h:∀(x1:t1.D) (x2:t2.D) (x3:t3.D),C x1 x2 x3->∀X:Cx,X.P=P->X.T=T->X.r=none->bx X.P X.T->J X code {env:=az 0 [.z t1 x1,.z t2 x2,.z t3 x3],own:=aj ioB []} (Ends T fn (r x1 x2 x3) []))(hb:fn.body=some code:=by rfl)(hN:T.N=fn.ntmps:=by rfl)(hk:T.keep=[]:=by rfl)(hr:T.free=[]:=by rfl)(hl:3<=T.N:=by exact Nat.le_of_ble_eq_true rfl):Valid T.base P f (c3 t1 t2 t3 C r):=by
 refine aW g.tab hf hb hN hk ?_ hr;intro args os D rs os' hc hD;obtain⟨x1,x2,x3,rfl,rfl,rfl,rfl,rfl⟩:=Tg hc;exact⟨hl,rfl,fun X hP hT hX=>h x1 x2 x3 hD X hP hT hX (by rw[hP,hT];exact g)⟩
def c4(t1 t2 t3 t4:Ty)(C:t1.D->t2.D->t3.D->t4.D->Prop)(r:t1.D->t2.D->t3.D->t4.D->List RV):Con:=fun l os=>match l,os with
 | [.z u1 x1,.z u2 x2,.z u3 x3,.z u4 x4],[]=>if h:u1=t1/\u2=t2/\u3=t3/\u4=t4 then some (C (h.1▸x1) (h.2.1▸x2) (h.2.2.1▸x3) (h.2.2.2▸x4),r (h.1▸x1) (h.2.1▸x2) (h.2.2.1▸x3) (h.2.2.2▸x4),[]) else none
 |_,_=>none
theorem Uy{t1 t2 t3 t4:Ty}{C:t1.D->t2.D->t3.D->t4.D->Prop}{r:t1.D->t2.D->t3.D->t4.D->List RV}(x1:t1.D)(x2:t2.D)(x3:t3.D)(x4:t4.D):c4 t1 t2 t3 t4 C r [.z t1 x1,.z t2 x2,.z t3 x3,.z t4 x4] []=some (C x1 x2 x3 x4,r x1 x2 x3 x4,[]):=by
 unfold c4;simp
theorem Th{t1 t2 t3 t4:Ty}{C:t1.D->t2.D->t3.D->t4.D->Prop}{r:t1.D->t2.D->t3.D->t4.D->List RV}{l:List LV}{os os':List aJ}{P:Prop}{rs:List RV}(h:c4 t1 t2 t3 t4 C r l os=some (P,rs,os')):∃x1 x2 x3 x4,l=[.z t1 x1,.z t2 x2,.z t3 x3,.z t4 x4]/\os=[]/\P=(C x1 x2 x3 x4)/\rs=(r x1 x2 x3 x4)/\os'=[]:=by
 unfold c4 at h;split at h
 ·split at h;·rename_i hh;obtain⟨rfl,rfl,rfl,rfl⟩:=hh;cases h;exact⟨_,_,_,_,rfl,rfl,rfl,rfl,rfl⟩
  ·cases h
 ·cases h
theorem v4{P:Program}{T:Tab}{fn:Func}{f:FuncId}{code:Code}{t1 t2 t3 t4:Ty}{C:t1.D->t2.D->t3.D->t4.D->Prop}{r:t1.D->t2.D->t3.D->t4.D->List RV}(g:bx P T)(hf:P.funcs[f]? =some fn)(h:∀(x1:t1.D) (x2:t2.D) (x3:t3.D) (x4:t4.D),C x1 x2 x3 x4->∀X:Cx,X.P=P->X.T=T->X.r=none->bx X.P X.T->J X code {env:=az 0 [.z t1 x1,.z t2 x2,.z t3 x3,.z t4 x4],own:=aj ioB []} (Ends T fn (r x1 x2 x3 x4) []))(hb:fn.body=some code:=by rfl)(hN:T.N=fn.ntmps:=by rfl)(hk:T.keep=[]:=by rfl)(hr:T.free=[]:=by rfl)(hl:4<=T.N:=by exact Nat.le_of_ble_eq_true rfl):Valid T.base P f (c4 t1 t2 t3 t4 C r):=by
 refine aW g.tab hf hb hN hk ?_ hr;intro args os D rs os' hc hD;obtain⟨x1,x2,x3,x4,rfl,rfl,rfl,rfl,rfl⟩:=Th hc;exact⟨hl,rfl,fun X hP hT hX=>h x1 x2 x3 x4 hD X hP hT hX (by rw[hP,hT];exact g)⟩
def c5(t1 t2 t3 t4 t5:Ty)(C:t1.D->t2.D->t3.D->t4.D->t5.D->Prop)(r:t1.D->t2.D->t3.D->t4.D->t5.D->List RV):Con:=fun l os=>match l,os with
 | [.z u1 x1,.z u2 x2,.z u3 x3,.z u4 x4,.z u5 x5],[]=>if h:u1=t1/\u2=t2/\u3=t3/\u4=t4/\u5=t5 then some (C (h.1▸x1) (h.2.1▸x2) (h.2.2.1▸x3) (h.2.2.2.1▸x4) (h.2.2.2.2▸x5),r (h.1▸x1) (h.2.1▸x2) (h.2.2.1▸x3) (h.2.2.2.1▸x4) (h.2.2.2.2▸x5),[]) else none
 |_,_=>none
theorem Uz{t1 t2 t3 t4 t5:Ty}{C:t1.D->t2.D->t3.D->t4.D->t5.D->Prop}{r:t1.D->t2.D->t3.D->t4.D->t5.D->List RV}(x1:t1.D)(x2:t2.D)(x3:t3.D)(x4:t4.D)(x5:t5.D):c5 t1 t2 t3 t4 t5 C r [.z t1 x1,.z t2 x2,.z t3 x3,.z t4 x4,.z t5 x5] []=some (C x1 x2 x3 x4 x5,r x1 x2 x3 x4 x5,[]):=by
 unfold c5;simp
theorem Ti{t1 t2 t3 t4 t5:Ty}{C:t1.D->t2.D->t3.D->t4.D->t5.D->Prop}{r:t1.D->t2.D->t3.D->t4.D->t5.D->List RV}{l:List LV}{os os':List aJ}{P:Prop}{rs:List RV}(h:c5 t1 t2 t3 t4 t5 C r l os=some (P,rs,os')):∃x1 x2 x3 x4 x5,l=[.z t1 x1,.z t2 x2,.z t3 x3,.z t4 x4,.z t5 x5]/\os=[]/\P=(C x1 x2 x3 x4 x5)/\rs=(r x1 x2 x3 x4 x5)/\os'=[]:=by
 unfold c5 at h;split at h
 ·split at h;·rename_i hh;obtain⟨rfl,rfl,rfl,rfl,rfl⟩:=hh;cases h;exact⟨_,_,_,_,_,rfl,rfl,rfl,rfl,rfl⟩
  ·cases h
 ·cases h
theorem v5{P:Program}{T:Tab}{fn:Func}{f:FuncId}{code:Code}{t1 t2 t3 t4 t5:Ty}{C:t1.D->t2.D->t3.D->t4.D->t5.D->Prop}{r:t1.D->t2.D->t3.D->t4.D->t5.D->List RV}(g:bx P T)(hf:P.funcs[f]? =some fn)(h:∀(x1:t1.D) (x2:t2.D) (x3:t3.D) (x4:t4.D) (x5:t5.D),C x1 x2 x3 x4 x5->∀X:Cx,X.P=P->X.T=T->X.r=none->bx X.P X.T->J X code {env:=az 0 [.z t1 x1,.z t2 x2,.z t3 x3,.z t4 x4,.z t5 x5],own:=aj ioB []} (Ends T fn (r x1 x2 x3 x4 x5) []))(hb:fn.body=some code:=by rfl)(hN:T.N=fn.ntmps:=by rfl)(hk:T.keep=[]:=by rfl)(hr:T.free=[]:=by rfl)(hl:5<=T.N:=by exact Nat.le_of_ble_eq_true rfl):Valid T.base P f (c5 t1 t2 t3 t4 t5 C r):=by
 refine aW g.tab hf hb hN hk ?_ hr;intro args os D rs os' hc hD;obtain⟨x1,x2,x3,x4,x5,rfl,rfl,rfl,rfl,rfl⟩:=Ti hc;exact⟨hl,rfl,fun X hP hT hX=>h x1 x2 x3 x4 x5 hD X hP hT hX (by rw[hP,hT];exact g)⟩
def c6(t1 t2 t3 t4 t5 t6:Ty)(C:t1.D->t2.D->t3.D->t4.D->t5.D->t6.D->Prop)(r:t1.D->t2.D->t3.D->t4.D->t5.D->t6.D->List RV):Con:=fun l os=>match l,os with
 | [.z u1 x1,.z u2 x2,.z u3 x3,.z u4 x4,.z u5 x5,.z u6 x6],[]=>if h:u1=t1/\u2=t2/\u3=t3/\u4=t4/\u5=t5/\u6=t6 then some (C (h.1▸x1) (h.2.1▸x2) (h.2.2.1▸x3) (h.2.2.2.1▸x4) (h.2.2.2.2.1▸x5) (h.2.2.2.2.2▸x6),r (h.1▸x1) (h.2.1▸x2) (h.2.2.1▸x3) (h.2.2.2.1▸x4) (h.2.2.2.2.1▸x5) (h.2.2.2.2.2▸x6),[]) else none
 |_,_=>none
theorem UA{t1 t2 t3 t4 t5 t6:Ty}{C:t1.D->t2.D->t3.D->t4.D->t5.D->t6.D->Prop}{r:t1.D->t2.D->t3.D->t4.D->t5.D->t6.D->List RV}(x1:t1.D)(x2:t2.D)(x3:t3.D)(x4:t4.D)(x5:t5.D)(x6:t6.D):c6 t1 t2 t3 t4 t5 t6 C r [.z t1 x1,.z t2 x2,.z t3 x3,.z t4 x4,.z t5 x5,.z t6 x6] []=some (C x1 x2 x3 x4 x5 x6,r x1 x2 x3 x4 x5 x6,[]):=by
 unfold c6;simp
theorem Tj{t1 t2 t3 t4 t5 t6:Ty}{C:t1.D->t2.D->t3.D->t4.D->t5.D->t6.D->Prop}{r:t1.D->t2.D->t3.D->t4.D->t5.D->t6.D->List RV}{l:List LV}{os os':List aJ}{P:Prop}{rs:List RV}(h:c6 t1 t2 t3 t4 t5 t6 C r l os=some (P,rs,os')):∃x1 x2 x3 x4 x5 x6,l=[.z t1 x1,.z t2 x2,.z t3 x3,.z t4 x4,.z t5 x5,.z t6 x6]/\os=[]/\P=(C x1 x2 x3 x4 x5 x6)/\rs=(r x1 x2 x3 x4 x5 x6)/\os'=[]:=by
 unfold c6 at h;split at h
 ·split at h;·rename_i hh;obtain⟨rfl,rfl,rfl,rfl,rfl,rfl⟩:=hh;cases h;exact⟨_,_,_,_,_,_,rfl,rfl,rfl,rfl,rfl⟩
  ·cases h
 ·cases h
theorem v6{P:Program}{T:Tab}{fn:Func}{f:FuncId}{code:Code}{t1 t2 t3 t4 t5 t6:Ty}{C:t1.D->t2.D->t3.D->t4.D->t5.D->t6.D->Prop}{r:t1.D->t2.D->t3.D->t4.D->t5.D->t6.D->List RV}(g:bx P T)(hf:P.funcs[f]? =some fn)(h:∀(x1:t1.D) (x2:t2.D) (x3:t3.D) (x4:t4.D) (x5:t5.D) (x6:t6.D),C x1 x2 x3 x4 x5 x6->∀X:Cx,X.P=P->X.T=T->X.r=none->bx X.P X.T->J X code {env:=az 0 [.z t1 x1,.z t2 x2,.z t3 x3,.z t4 x4,.z t5 x5,.z t6 x6],own:=aj ioB []} (Ends T fn (r x1 x2 x3 x4 x5 x6) []))(hb:fn.body=some code:=by rfl)(hN:T.N=fn.ntmps:=by rfl)(hk:T.keep=[]:=by rfl)(hr:T.free=[]:=by rfl)(hl:6<=T.N:=by exact Nat.le_of_ble_eq_true rfl):Valid T.base P f (c6 t1 t2 t3 t4 t5 t6 C r):=by
 refine aW g.tab hf hb hN hk ?_ hr;intro args os D rs os' hc hD;obtain⟨x1,x2,x3,x4,x5,x6,rfl,rfl,rfl,rfl,rfl⟩:=Tj hc;exact⟨hl,rfl,fun X hP hT hX=>h x1 x2 x3 x4 x5 x6 hD X hP hT hX (by rw[hP,hT];exact g)⟩
def cx:=ai @mT.eq_1<|ai @Uu<|ai @Uv<|ai @Uw<|ai @Ux<|ai @Uy<|ai @Uz<| @UA
end Go.Cm
end
section
namespace Go.Proofs
open Go.RowKit Go.Cm Go.Shelf
attribute [local go_sem] Oper.semAt_some
def tS(xs:List Int)(k:Nat):List LV:=[.z (.int .i64) ((xs.length:Int)-1-k),.z (.int .u32) (xs.getD (xs.length-1-k) 0)]
def dj(xs:List Int):List (List LV):=(List.range xs.length).map (tS xs)
set_option maxRecDepth 100000 in
set_option maxHeartbeats 2000000 in
theorem QE(F:Fence)(h7:F.fn 208)(hro:F.round=none)(l Bs oB b off len cap:Nat)(xs:List Int)(hlen:xs.length=len)(hbig:len<=maxLen)(J:Nat->World->Prop)(Jx:World->Prop)(Kp:World->World->Prop)
  (W:World) (hBs:W.cell? ⟨Bs,oB,none⟩=some (.slice (some ⟨b,off,none⟩) len cap)) (hc:∀j,j<len->W.cell? ⟨b,off+j,none⟩=some (.int .u32 (xs.getD j 0)))
  (hKp:∀A B,Kp A B->(∃o:Obj,A.heap[Bs]? =some o/\o.isCells=true)->((0<len)->∃o:Obj,A.heap[b]? =some o/\o.isCells=true)->B.heap[Bs]? =A.heap[Bs]? /\(0<len->B.heap[b]? =A.heap[b]?))
  (hY:∀k W1,J k W1->k<len->YieldAt F 0 Tryz.prog l #[.int .i64 ((len:Int)-1-k),.int .u32 (xs.getD (len-1-k) 0)] W1 fun e W'=>(e= .returned (.bool true)/\J (k+1) W'/\Kp W1 W')∨(e= .returned (.bool false)/\Jx W'))
  (h0:J 0 W):
  CallsIn F 1 Tryz.prog 208 #[.func (.yield l) #[] #[],.pointer (some ⟨Bs,oB,none⟩)] W fun e W'=>(∃v,e= .returned v)/\(J len W'∨Jx W'):=by
 unfold maxLen at hbig;refine callsIn_of_wp Tryz.func208 rfl h7 ?_ hro;simp only[Tryz.ntmps208,List.size_toArray,List.length_cons,List.length_nil,Nat.reduceAdd,Nat.reduceSub,Array.replicate_succ,Array.replicate_zero,List.push_toArray,List.append_toArray,List.nil_append,List.cons_append]
 gi_wp2
 gi_loopw [3] (fun i wr=>∃k:Nat,k<=len/\i= .int .i64 ((len:Int)-1-k)/\J k wr/\wr.heap[Bs]? =W.heap[Bs]? /\(0<len->wr.heap[b]? =W.heap[b]?))
  (fun i _=>(intOf i+1).toNat)
 case atStart=>exact⟨0,Nat.zero_le _,by simp,h0,rfl,fun _=>rfl⟩
 case round=>
  obtain⟨k,hk,rfl,hJs,hn1,hn2⟩:=hrel;have hB1:wr.cell? ⟨Bs,oB,none⟩=some (.slice (some ⟨b,off,none⟩) len cap):=(World.cell?_of_block (a:=⟨Bs,oB,none⟩) hn1).trans hBs;by_cases hlt:k<len
  ·(have hge:0<=(len:Int)-1-k:=by omega);(have htn:((len:Int)-1-k).toNat=len-1-k:=by omega);(have hup:(len:Int)-1-k<len:=by omega);have hcx:wr.cell? ⟨b,off+(len-1-k),none⟩=some (.int .u32 (xs.getD (len-1-k) 0)):=(World.cell?_of_block (a:=⟨b,off+(len-1-k),none⟩) (hn2 (by omega))).trans (hc _ (by omega));have hcB:∃o:Obj,wr.heap[Bs]? =some o/\o.isCells=true:=cells_of_cell hB1;have hcb:∃o:Obj,wr.heap[b]? =some o/\o.isCells=true:=cells_of_cell hcx;obtain⟨fn,tmps,assign,body,hy,hR⟩:=hY k wr hJs hlt;generalize xs.getD (len-1-k) 0=x at*
   gi_wp2
   refine hR.mono ?_;rintro e W3 (⟨rfl,hJ3,hk3⟩|⟨rfl,hJx3⟩)
   ·obtain⟨e1,e2⟩:=hKp _ _ hk3 hcB (fun _=>hcb)
    gi_wp2
    go_roundw
    (case rel=>exact⟨k+1,by omega,by congr 1;omega,hJ3,e1.trans hn1,fun h=>(e2 h).trans (hn2 h)⟩);case measure=>simp[intOf];omega
   ·gi_wp2
    refine bodyPost_ret (results_none rfl _ _ _) rfl ?_;exact⟨⟨_,rfl⟩,.inr hJx3⟩
  ·(have hk2:k=len:=by omega);(have hng:¬0<=(len:Int)-1-k:=by omega);rw[hk2] at hJs;clear hk2
   gi_wp2
   go_end0
   exact⟨⟨_,rfl⟩,.inl hJs⟩
set_option maxRecDepth 100000 in
set_option maxHeartbeats 2000000 in
theorem As(F:Fence)(h7:F.fn 208)(hro:F.round=none)(l Bs oB:Nat)(J:World->Prop)(W:World)(a:Option Addr)(cap:Nat)(hBs:W.cell? ⟨Bs,oB,none⟩=some (.slice a 0 cap))(h0:J W):
  CallsIn F 1 Tryz.prog 208 #[.func (.yield l) #[] #[],.pointer (some ⟨Bs,oB,none⟩)] W fun e W'=>(∃v,e= .returned v)/\J W':=by
 refine callsIn_of_wp Tryz.func208 rfl h7 ?_ hro;simp only[Tryz.ntmps208,List.size_toArray,List.length_cons,List.length_nil,Nat.reduceAdd,Nat.reduceSub,Array.replicate_succ,Array.replicate_zero,List.push_toArray,List.append_toArray,List.nil_append,List.cons_append]
 gi_wp2
 gi_loopw [3] (fun i wr=>i= .int .i64 (-1)/\wr=W) (fun i _=>(intOf i+1).toNat)
 case atStart=>exact⟨rfl,rfl⟩
 case round=>
  obtain⟨rfl,rfl⟩:=hrel
  gi_wp2
  go_end0
  exact⟨⟨_,rfl⟩,h0⟩
theorem nU{H:Nat->Prop}{w:World}{b o:Nat}{c:Value}(h:dP H w b o [c]):w.cell? ⟨b,o,none⟩=some c/\b<w.heap.size/\ ¬H b:=
 ⟨by have:=h.2 0 (by simp);simpa using this,h.lt (by simp),h.1 (by simp)⟩
theorem At(xs:List Int):oZ Tryz.prog 208 2 [.z (.ptr (.slice (.int .u32))) xs] (dj xs):=by
 refine⟨enters_of Tryz.func208 (by kernel_rfl) rfl,?_,?_⟩;·intro it hit;obtain⟨k,_,rfl⟩:=List.mem_map.1 hit;exact⟨rfl,rfl⟩
 ·intro H w lb hH hcap;obtain⟨v,rfl⟩:∃v,lb=[v]:=by
   match lb,hcap with
   | [v],_=>exact⟨v,rfl⟩
   |_::_::_,h=>exact h.2.elim
  obtain⟨hag,bB,oB,cells,hv,hsl,hlies⟩:=hcap.1;have hv2:v= .pointer (some ⟨bB,oB,none⟩):=by
   have hone:=cD (v:=v) (by cases v<;>first|rfl|(simp[Ty.isAgg] at hag));rw[hone] at hv;simpa using hv
  subst hv2;refine⟨fun k=> #[.int .i64 ((xs.length:Int)-1-k),.int .u32 (xs.getD (xs.length-1-k) 0)],fun k hk=>?_,?_⟩;·simp only[dj,List.getElem_map,List.getElem_range];exact⟨bW (ρ:=fun _=>undef),bW (ρ:=fun _=>undef),trivial⟩
  ·(intro l J Jx W hb _ _ _ _ hY h0;(have hlen:(dj xs).length=xs.length:=by simp[dj]);rw[hlen] at hY ⊢;rcases hsl with⟨rfl,rfl⟩|⟨b,o,p,cap,cs,rfl,hp,h1,h2,h3,h4⟩);·obtain⟨c1,c2,c3⟩:=nU hlies;exact(As (fw none) trivial rfl l bB oB (J 0) W none 0 ((hb.cell (p:=⟨bB,oB,none⟩) c2).trans c1) h0).mono (fun e W' h=>⟨h.1,.inl h.2⟩)
   ·(obtain⟨c1,c2,c3⟩:=nU hlies;by_cases hnil:xs=[];·subst hnil;exact(As (fw none) trivial rfl l bB oB (J 0) W (some ⟨b,o,p⟩) cap ((hb.cell (p:=⟨bB,oB,none⟩) c2).trans c1) h0).mono (fun e W' h=>⟨h.1,.inl h.2⟩));obtain rfl:=hp hnil;have hcs:=oQ h3;(have hne:0<xs.length->cs≠[]:=fun h e=>by rw[hcs] at e;simp at e;subst e;simp at h);refine QE (fw none) trivial rfl l bB oB b o xs.length cap xs rfl (Nat.le_trans h1 h2) J Jx (zU H w.heap.size) W ((hb.cell (p:=⟨bB,oB,none⟩) c2).trans c1) (fun j hj=>?_) (fun A B hk hA1 hA2=>⟨hk bB c2 c3 hA1,fun h=>hk b (h4.lt (hne h)) (h4.1 (hne h)) (hA2 h)⟩) hY h0;(have hj':j<cs.length:=by rw[hcs];simpa using hj);rw[hb.cell (p:=⟨b,o+j,none⟩) (h4.lt (hne (by omega))),h4.2 j hj',hcs,List.getElem?_map,List.getElem?_eq_getElem hj];simp[List.getD_eq_getElem?_getD,List.getElem?_eq_getElem hj]
end Go.Proofs
end
section
namespace Go.Proofs.YtdojbabpnaifoaaGreatDoor
open Go Go.Cm Go.Proofs Tryz
theorem ty2:cO prog 2 (.int .i64):=og
theorem ty3:cO prog 3 (.int .i64):=og
theorem ty4:cO prog 4 .bool:=Ql
theorem ty5:cO prog 5 (.int .u8):=og
theorem ty9:cO prog 9 .str:=LP
theorem dM:cO prog 22 (.slice .str):=fD (E:=46) (hw:= .inr rfl)
theorem Vh:cO prog 23 (.slice (.int .i8)):=fD (E:=71) (hw:= .inr rfl)
theorem Tk:cO prog 25 (.st (.pair (.slice (.int .i8)) (.pair (.int .u8) (.slice (.int .i8))))):=v7
theorem UB:cO prog 27 (.arr 2 (.slice .str)):=CI (E:=22) (hw:= .inr rfl)
theorem UC:cO prog 28 (.arr 4 (.arr 2 (.slice .str))):=CI (E:=27) (hw:= .inl rfl)
theorem kK:cO prog 31 (.int .i64):=og
theorem rR:cO prog 44 (.slice (.slice .str)):=fD (E:=22) (hw:= .inr rfl)
theorem gj:cO prog 46 .str:=LP
theorem Tl:cO prog 47 (.slice (.int .u8)):=fD (E:=5) (hw:= .inr rfl)
theorem UD:cO prog 49 (.st (.pair .bool (.pair (.slice (.int .u8)) (.int .u8)))):=v7
theorem Tm:cO prog 51 (.st (.pair (.st (.pair .bool (.pair (.slice (.int .u8)) (.int .u8)))) (.st (.pair .bool (.pair (.slice (.int .u8)) (.int .u8)))))):=v7
theorem Vi:cO prog 55 (.arr 2 .str):=CI (E:=46) (hw:= .inr rfl)
theorem Vj:cO prog 71 (.int .i8):=og
theorem QF:cO prog 78 tyP:=fD (E:=91) (hw:= .inl rfl)
theorem gF:cO prog 79 tyP:=fD (E:=91) (hw:= .inl rfl)
theorem jF:cO prog 87 (.slice (.int .u32)):=fD (E:=161) (hw:= .inr rfl)
theorem iV:cO prog 89 tyW:=v7
theorem ty91:cO prog 91 tyN:=v7
theorem vO:cO prog 98 (.slice tyP):=fD (E:=79) (hw:= .inr rfl)
theorem Fy:cO prog 104 (.slice .str):=fD (E:=9) (hw:= .inr rfl)
theorem SF:cO prog 151 (.st (.pair tyN (.int .i64))):=v7
theorem gG:cO prog 161 (.int .u32):=og
theorem ph:cO prog 164 (.int .u64):=og
theorem kd:cO prog 181 (.slice (.int .i64)):=fD (E:=3) (hw:= .inr rfl)
end Go.Proofs.YtdojbabpnaifoaaGreatDoor
end
section
namespace Go.Cm
open Go.Proofs
theorem I64.w{a:Int}(h:I64 a):IntKind.i64.wrap a=a:=wi h.1 (by have:=h.2;omega)
end Go.Cm
end
section
namespace Go.Cm.D
open Go.Cm
def LB:Int:=10000
def valL:List Int->Int
 | []=>0
 |x::r=>x+LB*valL r
def Lim(l:List Int):Prop:=∀x∈l,0<=x/\x<LB
def Cano(l:List Int):Prop:=Lim l/\l.getLastD 1≠0
theorem valL_append(a b:List Int):valL (a++b)=valL a+LB^a.length*valL b:=by
 induction a with
 |nil=>simp[valL]
 |cons x r ih=>simp only[List.cons_append,valL,ih,List.length_cons,Int.pow_succ];rw[Int.mul_add,Int.add_assoc,Int.mul_comm (LB^r.length) LB,Int.mul_assoc]
theorem valL_one(x:Int):valL [x]=x:=by simp[valL]
theorem Lim.append{a b:List Int}(ha:Lim a)(hb:Lim b):Lim (a++b):=fun x hx=>(List.mem_append.1 hx).elim (ha x) (hb x)
theorem Lim.one{x:Int}(h0:0<=x)(h1:x<LB):Lim [x]:=fun y hy=>by simp at hy;subst hy;exact⟨h0,h1⟩
theorem valL_nonneg{l:List Int}(h:Lim l):0<=valL l:=by
 induction l with
 |nil=>simp[valL]
 |cons x r ih=>
  have h1:=h x (by simp);have h2:=ih fun y hy=>h y (by simp[hy]);have:0<=LB*valL r:=Int.mul_nonneg (by decide) h2;simp only[valL];omega
theorem valL_lt{l:List Int}(h:Lim l):valL l<LB^l.length:=by
 induction l with
 |nil=>simp[valL]
 |cons x r ih=>
  have h1:=h x (by simp);have h2:=ih fun y hy=>h y (by simp[hy]);simp only[valL,List.length_cons,Int.pow_succ];have h3:LB*valL r<=LB*(LB^r.length-1):=Int.mul_le_mul_of_nonneg_left (by omega) (by decide);rw[Int.mul_sub,Int.mul_one] at h3;rw[Int.mul_comm (LB^r.length)];omega
theorem valL_inj:∀{a b:List Int},Lim a->Lim b->a.length=b.length->valL a=valL b->a=b
 | [],[],_,_,_,_=>rfl
 |x::r,y::s,ha,hb,hl,hv=>by
  have h1:=ha x (by simp);have h2:=hb y (by simp);simp only[valL] at hv;have hm:x%LB=y%LB:=by
   (have:(x+LB*valL r)%LB=(y+LB*valL s)%LB:=by rw[hv]);rwa [Int.add_mul_emod_self_left,Int.add_mul_emod_self_left] at this
  rw[Int.emod_eq_of_lt h1.1 h1.2,Int.emod_eq_of_lt h2.1 h2.2] at hm;subst hm;have hv2:valL r=valL s:=Int.eq_of_mul_eq_mul_left (a:=LB) (by decide) (by omega);rw[valL_inj (fun z hz=>ha z (by simp[hz])) (fun z hz=>hb z (by simp[hz])) (by simpa using hl) hv2]
 | [],_::_,_,_,hl,_=>by simp at hl
 |_::_,[],_,_,hl,_=>by simp at hl
theorem getLastD_append{a b:List Int}{d:Int}(hb:b≠[]):(a++b).getLastD d=b.getLastD d:=by
 cases b with
 |nil=>exact absurd rfl hb
 |cons x r=>simp[List.getLastD_eq_getLast?,List.getLast?_append,List.getLast?_eq_some_getLast hb]
theorem valL_ge{l:List Int}(h:Cano l)(hne:l≠[]):LB^(l.length-1)<=valL l:=by
 obtain⟨h1,h2⟩:=h;have hl:=List.dropLast_concat_getLast hne;have hlast:l.getLastD 1=l.getLast hne:=by rw[List.getLastD_eq_getLast?,List.getLast?_eq_some_getLast hne];rfl
 rw[hlast] at h2;have h3:=h1 (l.getLast hne) (List.getLast_mem hne);have h4:Lim l.dropLast:=fun x hx=>h1 x (List.dropLast_subset l hx);have h5:=valL_nonneg h4;have h6:valL l=valL l.dropLast+LB^l.dropLast.length*l.getLast hne:=by
  conv=>lhs;rw[<- hl]
  rw[valL_append,valL_one]
 rw[h6,List.length_dropLast];have h7:0<=LB^(l.length-1):=Int.pow_nonneg (by decide);have h8:LB^(l.length-1)*1<=LB^(l.length-1)*l.getLast hne:=Int.mul_le_mul_of_nonneg_left (by omega) h7;omega
theorem pow_mono{a b:Nat}(h:a<=b):LB^a<=LB^b:=by
 induction h with
 |refl=>exact Int.le_refl _
 | @step m h ih=>
  rw[Int.pow_succ];have:0<=LB^m:=Int.pow_nonneg (show (0:Int)<=LB by decide);have h2:LB^m*1<=LB^m*LB:=Int.mul_le_mul_of_nonneg_left (by decide) this;omega
theorem Cano.eq{a b:List Int}(ha:Cano a)(hb:Cano b)(h:valL a=valL b):a=b:=by
 have key:∀{a b:List Int},Cano a->Cano b->valL a=valL b-> ¬a.length<b.length:=by
  intro a b ha hb h hlt;have hne:b≠[]:=by intro e;subst e;simp at hlt
  have h1:=valL_lt ha.1;have h2:=valL_ge hb hne;have h3:=pow_mono (show a.length<=b.length-1 by omega);omega
 exact valL_inj ha.1 hb.1 (by have:=key ha hb h;have:=key hb ha h.symm;omega) h
def limbs(n:Nat):List Int:=if h:n=0 then [] else ((n%10000:Nat):Int)::limbs (n/10000)
termination_by n
decreasing_by omega
theorem limbs_val(n:Nat):valL (limbs n)=n:=by
 induction n using limbs.induct with
 |case1=>simp[limbs,valL]
 |case2 n h ih=>
  rw[limbs,dif_neg h,valL,ih];unfold LB;omega
theorem limbs_nil{n:Nat}:limbs n=[]↔n=0:=by
 rw[limbs];split;·simp[*]
 ·simp[*]
theorem limbs_can(n:Nat):Cano (limbs n):=by
 induction n using limbs.induct with
 |case1=>simp[limbs,Cano,Lim]
 |case2 n h ih=>
  rw[limbs,dif_neg h];refine⟨fun x hx=>?_,?_⟩
  ·(rcases List.mem_cons.1 hx with rfl|hx;·unfold LB;omega);·exact ih.1 x hx
  ·by_cases e:limbs (n/10000)=[]
   ·have:=limbs_nil.1 e;rw[e];simp;omega
   ·have:=getLastD_append (a:=[((n%10000:Nat):Int)]) (d:=1) e;rw[List.singleton_append] at this;rw[this];exact ih.2
theorem Cano.limbs{a:List Int}(h:Cano a){n:Nat}(hv:valL a=n):a=limbs n:=h.eq (limbs_can n) (by rw[hv,limbs_val])
theorem limbs_len{n k:Nat}(h:(n:Int)<LB^k):(limbs n).length<=k:=by
 by_cases e:limbs n=[]
 ·simp[e]
 ·have h1:=valL_ge (limbs_can n) e;rw[limbs_val] at h1;by_cases hk:(limbs n).length<=k;·exact hk
  ·have:=pow_mono (show k<=(limbs n).length-1 by omega);omega
theorem take_succ_val{l:List Int}{k:Nat}(h:k<l.length):valL (l.take (k+1))=valL (l.take k)+LB^k*l.getD k 0:=by
 rw[List.take_add_one,valL_append];simp only[List.length_take,Nat.min_eq_left (Nat.le_of_lt h),List.getElem?_eq_getElem h,Option.toList_some,valL_one,List.getD_eq_getElem?_getD,Option.getD_some]
theorem Lim.getD{l:List Int}(h:Lim l)(k:Nat):0<=l.getD k 0/\l.getD k 0<LB:=by
 rw[List.getD_eq_getElem?_getD];by_cases hk:k<l.length;·rw[List.getElem?_eq_getElem hk];exact h _ (List.getElem_mem hk)
 ·rw[List.getElem?_eq_none (by omega)];exact⟨by simp,by simp;decide⟩
theorem take_val(l:List Int)(k:Nat):valL (l.take (k+1))=valL (l.take k)+LB^k*l.getD k 0:=by
 by_cases h:k<l.length
 ·exact take_succ_val h
 ·rw[List.take_of_length_le (by omega),List.take_of_length_le (by omega),List.getD_eq_getElem?_getD,List.getElem?_eq_none (by omega)];simp
theorem cano_of_ge{l:List Int}(h:Lim l)(hv:l≠[]->LB^(l.length-1)<=valL l):Cano l:=by
 refine⟨h,fun h0=>?_⟩;by_cases hne:l=[];·subst hne;simp at h0
 ·have hl:=List.dropLast_concat_getLast hne;have hlast:l.getLastD 1=l.getLast hne:=by rw[List.getLastD_eq_getLast?,List.getLast?_eq_some_getLast hne];rfl
  rw[hlast] at h0;have h4:Lim l.dropLast:=fun x hx=>h x (List.dropLast_subset l hx);have h6:valL l=valL l.dropLast+LB^l.dropLast.length*l.getLast hne:=by
   conv=>lhs;rw[<- hl]
   rw[valL_append,valL_one]
  rw[h0,Int.mul_zero,Int.add_zero] at h6;have h7:=valL_lt h4;rw[List.length_dropLast] at h7;have:=hv hne;omega
theorem tdiv_nn{n:Int}(h:0<=n):n.tdiv 10000=n/LB/\n.tmod 10000=n%LB:=
 ⟨Int.tdiv_eq_ediv_of_nonneg h,Int.tmod_eq_emod_of_nonneg h⟩
theorem valL_pos{l:List Int}(h:Cano l):0<valL l↔l≠[]:=by
 constructor;·rintro h1 rfl;simp[valL] at h1
 ·intro hne;have h1:=valL_ge h hne;have h2:0<LB^(l.length-1):=Int.pow_pos (by decide);omega
theorem last_eq{l:List Int}(h:0<l.length):nth (.int .i64) l ((l.length:Int)-1)=l.getLastD 1:=by
 have hne:l≠[]:=by intro e;subst e;simp at h
 have e:((l.length:Int)-1).toNat=l.length-1:=by omega
 show l.getD _ _=_;rw[e,List.getD_eq_getElem?_getD,List.getElem?_eq_getElem (by omega),List.getLastD_eq_getLast?,List.getLast?_eq_getElem?,List.getElem?_eq_getElem (by omega)];rfl
theorem drop_zero_val{l:List Int}(hl:Lim l)(h:0<l.length)(h0:l.getLastD 1=0):valL l.dropLast=valL l/\Lim l.dropLast:=by
 have hne:l≠[]:=by intro e;subst e;simp at h
 have hd:=List.dropLast_concat_getLast hne;have hlast:l.getLastD 1=l.getLast hne:=by rw[List.getLastD_eq_getLast?,List.getLast?_eq_some_getLast hne];rfl
 refine⟨?_,fun x hx=>hl x (List.dropLast_subset l hx)⟩;conv=>rhs;rw[<- hd]
 rw[valL_append,valL_one,<- hlast,h0];omega
theorem take_last{l:List Int}(h:0<l.length):List.take (IntKind.i64.wrap ((l.length:Int)-1)).toNat l=l.dropLast∨ ¬(l.length:Int)<9223372036854775808:=by
 by_cases hb:(l.length:Int)<9223372036854775808
 ·left;rw[wo];have e:((l.length:Int)-1).toNat=l.length-1:=by omega
  rw[e,List.dropLast_eq_take]
 ·exact .inr hb
theorem whole_round{m z:List Int}(g1:Lim z)(g2:valL z=valL m)(g3:z.length<=m.length)(hz:(0:Int)<(z.length:Int))(hb:z.length<1000000000000)(h0:nth (.int .i64) z (IntKind.i64.wrap ((z.length:Int)-1))=0):
  Lim (List.drop (Int.toNat 0) (List.take (IntKind.i64.wrap ((z.length:Int)-1)).toNat z))/\valL (List.drop (Int.toNat 0) (List.take (IntKind.i64.wrap ((z.length:Int)-1)).toNat z))=valL m/\
   (List.drop (Int.toNat 0) (List.take (IntKind.i64.wrap ((z.length:Int)-1)).toNat z)).length<=m.length/\(List.drop (Int.toNat 0) (List.take (IntKind.i64.wrap ((z.length:Int)-1)).toNat z)).length<z.length:=by
 have hz':0<z.length:=by omega
 have e:=(take_last hz').resolve_right (by omega);rw[wo,last_eq hz'] at h0;obtain⟨d1,d2⟩:=drop_zero_val g1 hz' h0;rw[show Int.toNat 0=0 from rfl,List.drop_zero,e];exact⟨d2,by rw[d1,g2],by simp;omega,by simp;omega⟩
theorem cmp_len{a b:List Int}(ha:Cano a)(hb:Cano b)(h:a.length<b.length):valL a<valL b:=by
 have hne:b≠[]:=by intro e;subst e;simp at h
 have h1:=valL_lt ha.1;have h2:=valL_ge hb hne;have h3:=pow_mono (show a.length<=b.length-1 by omega);omega
theorem cmp_at{a b:List Int}(ha:Lim a)(hb:Lim b)(hl:a.length=b.length){k:Nat}(hk:k<a.length)(h:a.drop (k+1)=b.drop (k+1))(hlt:a.getD k 0<b.getD k 0):valL a<valL b:=by
 have e1:valL a=valL (a.take (k+1))+LB^(k+1)*valL (a.drop (k+1)):=by
  conv=>lhs;rw[<- List.take_append_drop (k+1) a]
  rw[valL_append,List.length_take,Nat.min_eq_left (by omega)]
 have e2:valL b=valL (b.take (k+1))+LB^(k+1)*valL (b.drop (k+1)):=by
  conv=>lhs;rw[<- List.take_append_drop (k+1) b]
  rw[valL_append,List.length_take,Nat.min_eq_left (by omega)]
 rw[e1,e2,h,take_val,take_val];have h1:=valL_lt (l:=a.take k) (fun x hx=>ha x (List.mem_of_mem_take hx));have h2:=valL_nonneg (l:=b.take k) (fun x hx=>hb x (List.mem_of_mem_take hx));rw[List.length_take,Nat.min_eq_left (by omega)] at h1;have h3:LB^k*(a.getD k 0+1)<=LB^k*b.getD k 0:=Int.mul_le_mul_of_nonneg_left (by omega) (Int.pow_nonneg (by decide));rw[Int.mul_add,Int.mul_one] at h3;omega
def padL:Nat->Nat->List Int
 |_,0=>[]
 |v,k+1=>((v%10000:Nat):Int)::padL (v/10000) k
theorem padL_len:∀(v k:Nat),(padL v k).length=k
 |_,0=>rfl
 |v,k+1=>by simp[padL,padL_len]
theorem padL_lim:∀(v k:Nat),Lim (padL v k)
 |_,0=>fun x hx=>by simp[padL] at hx
 |v,k+1=>fun x hx=>by
  rcases List.mem_cons.1 hx with rfl|hx;·unfold LB;omega
  ·exact padL_lim _ k x hx
theorem padL_val:∀(v k:Nat),(v:Int)<LB^k->valL (padL v k)=v
 |v,0,h=>by
  have:v=0:=by simp at h;omega
  subst this;rfl
 |v,k+1,h=>by
  have:((v/10000:Nat):Int)<LB^k:=by
   rw[Int.pow_succ] at h;(have e:((v/10000:Nat):Int)=(v:Int)/LB:=by unfold LB;omega);rw[e];exact Int.ediv_lt_of_lt_mul (by decide) h
  rw[padL,valL,padL_val _ k this];unfold LB;omega
theorem Lim.pad{l:List Int}(h:Lim l){v k:Nat}(hl:l.length=k)(hv:valL l=v):l=padL v k:=
 valL_inj h (padL_lim v k) (by rw[hl,padL_len]) (by rw[hv,padL_val];rw[<- hv,<- hl];exact valL_lt h)
theorem len_le{a b:List Int}(ha:Cano a)(hb:Cano b)(h:valL a<=valL b):a.length<=b.length:=by
 by_cases hl:b.length<a.length
 ·have:=cmp_len hb ha hl;omega
 ·omega
theorem minus_round{m o out:List Int}{k:Nat}{b n b':Int}(g2:out.length=k)(g3:Lim out)(g6:valL out+valL (o.take k)=valL (m.take k)+LB^k*b)(hn:0<=n)(hn2:n<LB)(he:n=m.getD k 0-b-o.getD k 0+LB*b'):
  Lim (out++ [n])/\valL (out++ [n])+valL (o.take (k+1))=valL (m.take (k+1))+LB^(k+1)*b':=by
 refine⟨g3.append (Lim.one hn hn2),?_⟩;rw[valL_append,valL_one,g2,take_val,take_val,Int.pow_succ];have h1:LB^k*n=LB^k*m.getD k 0-LB^k*b-LB^k*o.getD k 0+LB^k*LB*b':=by
  rw[he,Int.mul_add,Int.mul_sub,Int.mul_sub,Int.mul_assoc]
 omega
theorem minus_end{m o out:List Int}{b:Int}(hm:Cano m)(ho:Cano o)(hle:valL o<=valL m)(g2:out.length=m.length)(g3:Lim out)(g4:0<=b)(g6:valL out+valL (o.take m.length)=valL m+LB^m.length*b):out=padL (valL m-valL o).toNat m.length:=by
 rw[List.take_of_length_le (len_le ho hm hle)] at g6;have h1:=valL_lt g3;rw[g2] at h1;have h2:0<LB^m.length:=Int.pow_pos (by decide);have hb:b=0:=by
  by_cases hb:b=0
  ·exact hb
  ·have:LB^m.length*1<=LB^m.length*b:=Int.mul_le_mul_of_nonneg_left (by omega) (by omega);omega
 subst hb;exact g3.pad g2 (by omega)
theorem plus_len{m o:List Int}(hm:Cano m)(ho:Cano o):(limbs (valL m+valL o).toNat).length<=m.length+o.length:=by
 have h1:=valL_lt hm.1;have h2:=valL_lt ho.1;have h3:=valL_nonneg hm.1;have h4:=valL_nonneg ho.1;have hpos:∀k,1<=LB^k:=fun k=>(Int.pow_pos (show (0:Int)<LB by decide):0<LB^k);by_cases e1:m=[];·subst e1;rw[show valL ([]:List Int)=0 from rfl,Int.zero_add];exact limbs_len (by rw[Int.toNat_of_nonneg h4];simpa using h2)
 ·by_cases e2:o=[]
  ·subst e2;rw[show valL ([]:List Int)=0 from rfl,Int.add_zero];exact limbs_len (by rw[Int.toNat_of_nonneg h3];simpa using h1)
  ·have l1:=List.length_pos_iff.2 e1;have l2:=List.length_pos_iff.2 e2;refine limbs_len ?_;rw[Int.toNat_of_nonneg (by omega)];have p1:=pow_mono (show m.length<=m.length+o.length-1 by omega);have p2:=pow_mono (show o.length<=m.length+o.length-1 by omega);have p3:LB^(m.length+o.length)=LB^(m.length+o.length-1)*LB:=by
    rw[<- Int.pow_succ];congr 1;omega
   have p4:=hpos (m.length+o.length-1);have p5:LB^(m.length+o.length-1)*2<=LB^(m.length+o.length-1)*LB:=Int.mul_le_mul_of_nonneg_left (by decide) (by omega);omega
theorem minus_val{m o:List Int}(hm:Cano m)(ho:Cano o)(hle:valL o<=valL m):valL (padL (valL m-valL o).toNat m.length)=valL m-valL o:=by
 have h1:=valL_lt hm.1;have h2:=valL_nonneg ho.1;rw[padL_val _ _ (by rw[Int.toNat_of_nonneg (by omega)];omega),Int.toNat_of_nonneg (by omega)]
theorem cmp_lens{m o:List Int}(hm:Cano m)(ho:Cano o)(h:bg (m.length:Int) (o.length:Int)≠0):bg (m.length:Int) (o.length:Int)=bg (valL m) (valL o):=by
 unfold bg at h ⊢;by_cases h1:m.length<o.length;·have:=cmp_len hm ho h1;rw[if_pos (by omega),if_pos this]
 ·by_cases h2:o.length<m.length
  ·have:=cmp_len ho hm h2;rw[if_neg (by omega),if_pos (by omega),if_neg (by omega),if_pos this]
  ·rw[if_neg (by omega),if_neg (by omega)] at h;exact absurd rfl h
theorem cmp_place{m o:List Int}(hm:Cano m)(ho:Cano o)(hl:m.length=o.length){k:Nat}(hk:k<m.length)(hd:m.drop (k+1)=o.drop (k+1))(h:bg (m.getD k 0) (o.getD k 0)≠0):bg (m.getD k 0) (o.getD k 0)=bg (valL m) (valL o):=by
 unfold bg at h ⊢;by_cases h1:m.getD k 0<o.getD k 0;·have:=cmp_at hm.1 ho.1 hl hk hd h1;rw[if_pos h1,if_pos this]
 ·by_cases h2:o.getD k 0<m.getD k 0
  ·have:=cmp_at ho.1 hm.1 hl.symm (by omega) hd.symm h2;rw[if_neg h1,if_pos h2,if_neg (by omega),if_pos this]
  ·rw[if_neg h1,if_neg h2] at h;exact absurd rfl h
theorem drop_step{m o:List Int}{k:Nat}(hl:m.length=o.length)(hk:k<m.length)(hd:m.drop (k+1)=o.drop (k+1))(h:m.getD k 0=o.getD k 0):m.drop k=o.drop k:=by
 rw[List.drop_eq_getElem_cons hk,List.drop_eq_getElem_cons (show k<o.length by omega),hd];rw[List.getD_eq_getElem?_getD,List.getD_eq_getElem?_getD,List.getElem?_eq_getElem hk,List.getElem?_eq_getElem (show k<o.length by omega)] at h;simp at h;rw[h]
theorem set_val:∀{l:List Int} {j:Nat} {v:Int},j<l.length->valL (l.set j v)=valL l+LB^j*(v-l.getD j 0)
 |x::r,0,v,_=>by simp[valL];omega
 |x::r,j+1,v,h=>by
  have ih:=set_val (l:=r) (j:=j) (v:=v) (by simpa using h);simp only[List.set_cons_succ,valL,ih,List.getD_cons_succ,Int.pow_succ];rw[Int.mul_add,Int.mul_comm (LB^j) LB,Int.mul_assoc];omega
 | [],_,_,h=>by simp at h
theorem set_lim{l:List Int}{j:Nat}{v:Int}(h:Lim l)(h0:0<=v)(h1:v<LB):Lim (l.set j v):=fun x hx=>by
 rcases List.mem_or_eq_of_mem_set hx with h2|rfl;·exact h x h2
 ·exact⟨h0,h1⟩
theorem getD_set_ne{l:List Int}{j k:Nat}{v:Int}(h:j≠k):(l.set j v).getD k 0=l.getD k 0:=by
 rw[List.getD_eq_getElem?_getD,List.getD_eq_getElem?_getD,List.getElem?_set_ne h]
theorem mul_bound{x y a c:Int}(hx:0<=x/\x<LB)(hy:0<=y/\y<LB)(ha:0<=a/\a<LB)(hc:0<=c/\c<LB):0<=x*y/\x*y+a+c<LB*LB/\x*y<=LB*LB:=by
 have h1:0<=x*y:=Int.mul_nonneg hx.1 hy.1;have h2:x*y<=(LB-1)*(LB-1):=Int.mul_le_mul (by omega) (by omega) hy.1 (by decide);have hB:LB=10000:=rfl;have h3:(LB-1)*(LB-1)=99980001:=rfl;have h4:LB*LB=100000000:=rfl;omega
theorem mul_step{x y out:List Int}{i k:Nat}{c p n:Int}(hx:Lim x)(hy:Lim y)(h1:out.length=x.length+y.length)(h2:Lim out)(h3:0<=c)(h4:c<LB)(hi:i<x.length)(hk:k<y.length)
  (h6:valL out+LB^(i+k)*c=p+LB^i*(x.getD i 0*valL (y.take k))) (hz:∀j,i+y.length<=j->out.getD j 0=0) (hn:n=x.getD i 0*y.getD k 0+out.getD (i+k) 0+c):
  0<=n/\n<LB*LB/\(out.set (i+k) (n%LB)).length=x.length+y.length/\Lim (out.set (i+k) (n%LB))/\0<=n/LB/\n/LB<LB/\
   valL (out.set (i+k) (n%LB))+LB^(i+(k+1))*(n/LB)=p+LB^i*(x.getD i 0*valL (y.take (k+1)))/\∀j,i+y.length<=j->(out.set (i+k) (n%LB)).getD j 0=0:=by
 have hb:=mul_bound (hx.getD i) (hy.getD k) (h2.getD (i+k)) ⟨h3,h4⟩;have ha:=h2.getD (i+k);have hB:LB=10000:=rfl;have hn0:0<=n:=by omega
 have hn1:n<LB*LB:=by omega
 have hm:0<=n%LB/\n%LB<LB:=⟨Int.emod_nonneg _ (by decide),Int.emod_lt_of_pos _ (by decide)⟩;refine⟨hn0,hn1,by simp[h1],set_lim h2 hm.1 hm.2,Int.ediv_nonneg hn0 (by decide),Int.ediv_lt_of_lt_mul (by decide) hn1,?_,fun j hj=>?_⟩
 ·rw[set_val (by omega),take_val,<- Nat.add_assoc,Int.pow_succ];have e1:n%LB+LB*(n/LB)=n:=Int.emod_add_mul_ediv n LB;have e2:LB^(i+k)*(n%LB-out.getD (i+k) 0)+LB^(i+k)*LB*(n/LB)=LB^(i+k)*(n-out.getD (i+k) 0):=by
   rw[Int.mul_assoc,<- Int.mul_add];congr 1;omega
  have e3:n-out.getD (i+k) 0=x.getD i 0*y.getD k 0+c:=by omega
  have e4:LB^(i+k)=LB^i*LB^k:=Int.pow_add ..;have e5:LB^i*(x.getD i 0*(valL (y.take k)+LB^k*y.getD k 0))=LB^i*(x.getD i 0*valL (y.take k))+LB^(i+k)*(x.getD i 0*y.getD k 0):=by
   rw[Int.mul_add,Int.mul_add,e4];congr 1;rw[Int.mul_assoc,Int.mul_left_comm (x.getD i 0)]
  rw[e3,Int.mul_add] at e2;omega
 ·rw[getD_set_ne (by omega)];exact hz j hj
theorem mul_row{x y out:List Int}{i:Nat}{c p:Int}(h1:out.length=x.length+y.length)(h2:Lim out)(h3:0<=c)(h4:c<LB)(hi:i<x.length)(hp:p=valL (x.take i)*valL y)
  (h6:valL out+LB^(i+y.length)*c=p+LB^i*(x.getD i 0*valL y)) (hz:∀j,i+y.length<=j->out.getD j 0=0):
  (out.set (i+y.length) c).length=x.length+y.length/\Lim (out.set (i+y.length) c)/\valL (out.set (i+y.length) c)=valL (x.take (i+1))*valL y/\∀j,i+1+y.length<=j->(out.set (i+y.length) c).getD j 0=0:=by
 refine⟨by simp[h1],set_lim h2 h3 h4,?_,fun j hj=>?_⟩;·rw[set_val (by omega),hz _ (Nat.le_refl _),take_val,Int.add_mul,Int.sub_zero,h6,hp,Int.mul_assoc]
 ·rw[getD_set_ne (by omega)];exact hz j (by omega)
theorem replicate_zero(n:Nat):Lim (List.replicate n 0)/\valL (List.replicate n 0)=0/\∀j,(List.replicate n (0:Int)).getD j 0=0:=by
 refine⟨fun x hx=>?_,?_,fun j=>?_⟩;·have:=List.eq_of_mem_replicate hx;subst this;exact⟨by decide,by decide⟩
 ·induction n with
  |zero=>rfl
  |succ n ih=>rw[List.replicate_succ,valL,ih];rfl
 ·rw[List.getD_eq_getElem?_getD,List.getElem?_replicate];split<;>rfl
theorem hB:LB=10000:=rfl
theorem gt_of{a b:Int}(h1:¬a<b)(h2:a≠b):b<a:=by omega
theorem lbpos(k:Nat):0<LB^k:=Int.pow_pos (by decide)
theorem cut_fin{m z:List Int}(g1:Lim z)(g2:valL z=valL m)(h:0<z.length->z.getLastD 1≠0):z=limbs (valL m).toNat:=by
 have h0:=valL_nonneg g1;refine Cano.limbs ⟨g1,?_⟩ (by omega);by_cases e:0<z.length;·exact h e
 ·have:z=[]:=List.eq_nil_of_length_eq_zero (by omega);subst this;simp
theorem getD_none{l:List Int}{k:Nat}(h:l.length<=k):l.getD k 0=0:=by
 rw[List.getD_eq_getElem?_getD,List.getElem?_eq_none h];rfl
theorem digit{n:Int}(h0:0<=n)(h1:n<9223372036854775808):n.tmod 10000=n%LB/\IntKind.i64.wrap (n.tdiv 10000)=n/LB/\0<=n%LB/\n%LB<LB/\0<=n/LB/\n%LB+LB*(n/LB)=n:=by
 obtain⟨e1,e2⟩:=tdiv_nn h0;have h2:0<=n/LB:=Int.ediv_nonneg h0 (by decide);have h3:n/LB<=n:=by rw[hB];omega
 exact⟨e2,by rw[e1];exact wo,Int.emod_nonneg _ (by decide),Int.emod_lt_of_pos _ (by decide),h2,Int.emod_add_mul_ediv n LB⟩
theorem cmp_less{m o:List Int}(hm:Cano m)(ho:Cano o)(hl:m.length=o.length){k:Nat}(hk:k<m.length)(hd:m.drop (k+1)=o.drop (k+1))(h:m.getD k 0<o.getD k 0):bg (valL m) (valL o)= -1:=by
 unfold bg;rw[if_pos (cmp_at hm.1 ho.1 hl hk hd h)]
theorem cmp_more{m o:List Int}(hm:Cano m)(ho:Cano o)(hl:m.length=o.length){k:Nat}(hk:k<m.length)(hd:m.drop (k+1)=o.drop (k+1))(h:o.getD k 0<m.getD k 0):bg (valL m) (valL o)=1:=by
 have:=cmp_at ho.1 hm.1 hl.symm (by omega) hd.symm h;unfold bg;rw[if_neg (by omega),if_pos this]
structure PlusPhi (m o:List Int) (k:Nat) (c:Int) (out:List Int):Prop where
 hk:out.length=k
 hl:Lim out
 hc:0<=c/\c<=1
 hv:valL out+LB^k*c=valL (m.take k)+valL (o.take k)
 hs:k<=max m.length o.length∨(c=0/\LB^(k-1)<=valL out)
theorem plus_start{m o:List Int}:PlusPhi m o 0 0 []:=⟨rfl,fun x hx=>by simp at hx,by omega,by simp[valL],.inl (by omega)⟩
theorem plus_n{m o:List Int}{k:Nat}{c:Int}{out:List Int}(hm:Lim m)(ho:Lim o)(h:PlusPhi m o k c out):
  IntKind.i64.wrap (c+m.getD k 0)=c+m.getD k 0/\IntKind.i64.wrap (c+m.getD k 0+o.getD k 0)=c+m.getD k 0+o.getD k 0/\IntKind.i64.wrap (c+o.getD k 0)=c+o.getD k 0:=by
 have h1:=hm.getD k;have h2:=ho.getD k;have h3:=h.hc;have e:=hB;exact⟨wo,wo,wo⟩
theorem plus_next{m o:List Int}{k:Nat}{c n:Int}{out:List Int}(hm:Lim m)(ho:Lim o)(h:PlusPhi m o k c out)(hb:(k<m.length∨k<o.length)∨0<c)(hn:n=c+m.getD k 0+o.getD k 0):
  PlusPhi m o (k+1) (IntKind.i64.wrap (n.tdiv 10000)) (out++ [n.tmod 10000])/\2*(max m.length o.length-(k+1))+(IntKind.i64.wrap (n.tdiv 10000)).toNat<2*(max m.length o.length-k)+c.toNat:=by
 have h1:=hm.getD k;have h2:=ho.getD k;obtain⟨hk,hl,hc,hv,hs⟩:=h;have e:=hB;obtain⟨d1,d2,d3,d4,d5,d6⟩:=digit (n:=n) (by omega) (by omega);have hq:n/LB<=1:=by rw[hB] at h1 h2 ⊢;omega
 rw[d1,d2];have hval:valL (out++ [n%LB])+LB^(k+1)*(n/LB)=valL (m.take (k+1))+valL (o.take (k+1)):=by
  rw[valL_append,valL_one,hk,take_val,take_val,Int.pow_succ];have h3:LB^k*(n%LB)+LB^k*LB*(n/LB)=LB^k*n:=by rw[Int.mul_assoc,<- Int.mul_add,d6]
  have h4:LB^k*n=LB^k*c+LB^k*m.getD k 0+LB^k*o.getD k 0:=by rw[hn,Int.mul_add,Int.mul_add]
  omega
 by_cases hM:k+1<=max m.length o.length
 ·exact⟨⟨by simp[hk],hl.append (Lim.one d3 d4),⟨d5,hq⟩,hval,.inl hM⟩,by omega⟩
 ·have hkM:k=max m.length o.length:=by
   (rcases hs with hs|⟨hs,-⟩;·omega);·omega
  have g1:m.getD k 0=0:=getD_none (by omega);have g2:o.getD k 0=0:=getD_none (by omega);have hc1:c=1:=by omega
  have hn1:n=1:=by omega
  have q0:n/LB=0:=by rw[hn1];rfl
  have r1:n%LB=1:=by rw[hn1];rfl
  refine⟨⟨by simp[hk],hl.append (Lim.one d3 d4),⟨d5,hq⟩,hval,.inr ⟨q0,?_⟩⟩,by rw[q0];omega⟩;rw[valL_append,valL_one,hk,r1,Nat.add_sub_cancel];have:=valL_nonneg hl;omega
theorem plus_k{m o:List Int}{k:Nat}{c:Int}{out:List Int}(h:PlusPhi m o k c out)(hb:(k<m.length∨k<o.length)∨0<c):k<=max m.length o.length:=by
 rcases h.hs with hs|⟨hs,-⟩;·exact hs
 ·omega
theorem plus_fin{m o:List Int}{k:Nat}{c:Int}{out:List Int}(hm:Cano m)(ho:Cano o)(h:PlusPhi m o k c out)(hb:¬((k<m.length∨k<o.length)∨0<c)):out=limbs (valL m+valL o).toNat:=by
 obtain⟨hk,hl,hc,hv,hs⟩:=h;have hc0:c=0:=by omega
 rw[hc0,Int.mul_zero,Int.add_zero,List.take_of_length_le (by omega),List.take_of_length_le (by omega)] at hv;have h1:=valL_nonneg hm.1;have h2:=valL_nonneg ho.1;refine Cano.limbs (cano_of_ge hl fun hne=>?_) (by omega);rw[hk];rcases hs with hs|⟨-,hs⟩
 ·rw[hv];by_cases hlt:m.length<o.length
  ·(have hone:o≠[]:=by intro e;rw[e] at hlt;simp at hlt);have:=valL_ge ho hone;(have e:k=o.length:=by omega);rw[e];omega
  ·have hmne:m≠[]:=by
    intro e;(have hm0:m.length=0:=by rw[e];rfl);(have:k=0:=by omega);rw[this] at hk;exact hne (List.eq_nil_of_length_eq_zero hk)
   have:=valL_ge hm hmne;(have e:k=m.length:=by omega);rw[e];omega
 ·exact hs
structure MinusPhi (m o:List Int) (k:Nat) (b:Int) (out:List Int):Prop where
 hk:out.length=k
 hkm:k<=m.length
 hl:Lim out
 hb:0<=b/\b<=1
 hv:valL out+valL (o.take k)=valL (m.take k)+LB^k*b
theorem minus_start{m o:List Int}:MinusPhi m o 0 0 []:=⟨rfl,Nat.zero_le _,fun x hx=>by simp at hx,by omega,by simp[valL]⟩
def borrowed(n:Int):Int:=if n<0 then 1 else 0
theorem nth64{l:List Int}{k:Nat}:nth (.int .i64) l (k:Int)=l.getD k 0:=rfl
theorem borrow_t{n:Int}(h:n<0)(hw:IntKind.i64.wrap (n+10000)=n+10000):1=borrowed n/\IntKind.i64.wrap (n+10000)=n+10000*borrowed n:=by
 unfold borrowed;rw[if_pos h,hw];exact⟨rfl,rfl⟩
theorem borrow_f{n:Int}(h:¬n<0):0=borrowed n/\n=n+10000*borrowed n:=by
 unfold borrowed;rw[if_neg h];exact⟨rfl,by omega⟩
theorem len_wrap{x y:List Int}(h:x.length+y.length<CAP):IntKind.i64.wrap ((x.length:Int)+(y.length:Int))=((x.length+y.length:Nat):Int):=by
 have h:x.length+y.length<1000000000000:=h;rw[wo];omega
theorem minus_w{m o:List Int}{k:Nat}{b:Int}{out:List Int}(hm:Lim m)(ho:Lim o)(h:MinusPhi m o k b out):
  IntKind.i64.wrap (m.getD k 0-b)=m.getD k 0-b/\IntKind.i64.wrap (m.getD k 0-b-o.getD k 0)=m.getD k 0-b-o.getD k 0/\IntKind.i64.wrap (m.getD k 0-b-o.getD k 0+10000)=m.getD k 0-b-o.getD k 0+10000:=by
 have h1:=hm.getD k;have h2:=ho.getD k;have h3:=h.hb;have e:=hB;exact⟨wo,wo,wo⟩
theorem minus_next{m o:List Int}{k:Nat}{b n:Int}{out:List Int}(hm:Lim m)(ho:Lim o)(h:MinusPhi m o k b out)(hk1:k<m.length)(hn:n=m.getD k 0-b-o.getD k 0):
  MinusPhi m o (k+1) (borrowed n) (out++ [n+10000*borrowed n]):=by
 have h1:=hm.getD k;have h2:=ho.getD k;obtain⟨hk,hkm,hl,hb,hv⟩:=h;have e:=hB;have hbb:0<=borrowed n/\borrowed n<=1/\0<=n+10000*borrowed n/\n+10000*borrowed n<LB:=by
  unfold borrowed;split<;>omega
 obtain⟨m1,m2⟩:=minus_round (out:=out) (b:=b) (n:=n+10000*borrowed n) (b':=borrowed n) hk hl hv hbb.2.2.1 hbb.2.2.2 (by rw[hn,e]);exact⟨by simp[hk],hk1,m1,⟨hbb.1,hbb.2.1⟩,m2⟩
theorem minus_fin{m o:List Int}{k:Nat}{b:Int}{out:List Int}(hm:Cano m)(ho:Cano o)(hle:valL o<=valL m)(h:MinusPhi m o k b out)(hk2:¬k<m.length):valL out=valL m-valL o/\Lim out:=by
 obtain⟨hk,hkm,hl,hb,hv⟩:=h;have hk3:k=m.length:=by omega
 subst hk3;have:=minus_end hm ho hle hk hl hb.1 (by rw[List.take_length] at hv;exact hv);exact⟨by rw[this,minus_val hm ho hle],hl⟩
structure TimesPhi (x y:List Int) (i:Nat) (out:List Int):Prop where
 h1:i<=x.length
 h2:out.length=x.length+y.length
 h3:Lim out
 h4:valL out=valL (x.take i)*valL y
 h5:∀j,i+y.length<=j->out.getD j 0=0
theorem times_start{x y:List Int}:TimesPhi x y 0 (List.replicate (x.length+y.length) 0):=by
 obtain⟨r1,r2,r3⟩:=replicate_zero (x.length+y.length);exact⟨by simp,by simp,r1,by simp[r2,valL],fun j _=>r3 j⟩
def Wid(y:List Int):Prop:=(∀v∈y,0<=v/\v<=LB)/\valL y<=LB^y.length
theorem Lim.wid{y:List Int}(h:Lim y):Wid y:=⟨fun v hv=>⟨(h v hv).1,Int.le_of_lt (h v hv).2⟩,Int.le_of_lt (valL_lt h)⟩
theorem wid_one{v:Int}(h0:0<=v)(h1:v<=LB):Wid [v]:=⟨fun x hx=>by simp at hx;subst hx;exact⟨h0,h1⟩,by rw[valL_one];show v<=LB^1;rw[Int.pow_succ,Int.pow_zero,Int.one_mul];exact h1⟩
theorem Wid.getD{y:List Int}(h:Wid y)(k:Nat):0<=y.getD k 0/\y.getD k 0<=LB:=by
 rw[List.getD_eq_getElem?_getD];by_cases hk:k<y.length;·rw[List.getElem?_eq_getElem hk];exact h.1 _ (List.getElem_mem hk)
 ·rw[List.getElem?_eq_none (by omega)];exact⟨by simp,by simp;decide⟩
structure RowPhi (x y:List Int) (i k:Nat) (c:Int) (out:List Int):Prop where
 h1:k<=y.length∨(k=y.length+1/\c=0)
 h2:out.length=x.length+y.length
 h3:Lim out
 h4:0<=c/\c<=LB
 h6:valL out+LB^(i+k)*c=valL (x.take i)*valL y+LB^i*(x.getD i 0*valL (y.take k))
 h7:∀j,i+max k y.length<=j->out.getD j 0=0
theorem row_start{x y out:List Int}{i:Nat}(h:TimesPhi x y i out):RowPhi x y i 0 0 out:=
 ⟨.inl (Nat.zero_le _),h.h2,h.h3,⟨by decide,by decide⟩,by rw[h.h4];simp[valL],fun j hj=>h.h5 j (by omega)⟩
theorem row_bound{x y a c:Int}(hx:0<=x/\x<LB)(hy:0<=y/\y<=LB)(ha:0<=a/\a<LB)(hc:0<=c/\c<=LB):
  IntKind.i64.wrap (a+c)=a+c/\IntKind.i64.wrap (x*y)=x*y/\IntKind.i64.wrap (a+c+x*y)=a+c+x*y/\0<=a+c+x*y/\a+c+x*y<100010000:=by
 have h1:0<=x*y:=Int.mul_nonneg hx.1 hy.1;have h2:x*y<=(LB-1)*LB:=Int.mul_le_mul (by omega) hy.2 hy.1 (by decide);have e:=hB;have e2:(LB-1)*LB=99990000:=rfl;exact⟨wo,wo,wo,by omega,by omega⟩
theorem Ja{x y out:List Int}{i k:Nat}{c:Int}(hx:Lim x)(hy:Wid y)(h:RowPhi x y i k c out)(hk:k=y.length):c<LB:=by
 obtain⟨h1,h2,h3,h4,h6,h7⟩:=h;rw[hk,List.take_length] at h6;have a1:valL (x.take i)*valL y+LB^i*(x.getD i 0*valL y)=valL (x.take (i+1))*valL y:=by
  rw[take_val,Int.add_mul,Int.mul_assoc]
 rw[a1] at h6;have a2:=valL_nonneg h3;have hxt:Lim (x.take (i+1)):=fun z hz=>hx z (List.mem_of_mem_take hz);have a3:=valL_lt hxt;have a4:=valL_nonneg hxt;have a5:=pow_mono (show (x.take (i+1)).length<=i+1 by rw[List.length_take];omega);have hy0:0<=valL y:=by
  have key:∀l:List Int,(∀v∈l,0<=v)->0<=valL l:=by
   intro l;induction l with
   |nil=>intro _;simp[valL]
   |cons z l ih=>
    intro hz;have e1:=hz z (by simp);have e2:=ih fun v hv=>hz v (by simp[hv]);have:0<=LB*valL l:=Int.mul_nonneg (by decide) e2;simp only[valL];omega
  exact key y fun v hv=>(hy.1 v hv).1
 have a6:valL (x.take (i+1))*valL y<=(LB^(i+1)-1)*LB^y.length:=Int.mul_le_mul (by omega) hy.2 hy0 (by have:=lbpos (i+1);omega);have a7:(LB^(i+1)-1)*LB^y.length=LB^(i+y.length)*LB-LB^y.length:=by
  rw[Int.sub_mul,Int.one_mul,Int.pow_succ,Int.pow_add];congr 1;rw[Int.mul_assoc,Int.mul_assoc,Int.mul_comm LB]
 have a8:=lbpos y.length;by_cases hc:c<LB;·exact hc
 ·exfalso;have a9:LB^(i+y.length)*LB<=LB^(i+y.length)*c:=Int.mul_le_mul_of_nonneg_left (by omega) (Int.le_of_lt (lbpos _));omega
theorem row_next{x y out:List Int}{i k:Nat}{c n:Int}(hx:Lim x)(hy:Wid y)(hi:i<x.length)(h:RowPhi x y i k c out)(hb:k<y.length∨0<c)(hn:n=out.getD (i+k) 0+c+x.getD i 0*y.getD k 0):
  i+k<x.length+y.length/\RowPhi x y i (k+1) (IntKind.i64.wrap (n.tdiv 10000)) (out.set (i+k) (n.tmod 10000)):=by
 have hcar:=Ja hx hy h;obtain⟨h1,h2,h3,h4,h6,h7⟩:=h;have ek:=row_bound (hx.getD i) (hy.getD k) (h3.getD (i+k)) h4;obtain⟨d1,d2,d3,d4,d5,d6⟩:=digit (n:=n) (by omega) (by omega);have e:=hB;have hq:n/LB<=LB:=by rw[hB];omega
 rw[d1,d2];have hkl:k<=y.length:=by
  rcases h1 with h1|⟨h1,h0⟩;·exact h1
  ·omega
 have hin:i+k<x.length+y.length:=by omega
 have hval:valL (out.set (i+k) (n%LB))+LB^(i+(k+1))*(n/LB)=valL (x.take i)*valL y+LB^i*(x.getD i 0*valL (y.take (k+1))):=by
  rw[set_val (by omega),take_val,<- Nat.add_assoc,Int.pow_succ];have a1:LB^(i+k)*(n%LB-out.getD (i+k) 0)+LB^(i+k)*LB*(n/LB)=LB^(i+k)*(n-out.getD (i+k) 0):=by
   rw[Int.mul_assoc,<- Int.mul_add];congr 1;omega
  have a2:n-out.getD (i+k) 0=c+x.getD i 0*y.getD k 0:=by omega
  have a3:LB^(i+k)=LB^i*LB^k:=Int.pow_add ..;have a4:LB^i*(x.getD i 0*(valL (y.take k)+LB^k*y.getD k 0))=LB^i*(x.getD i 0*valL (y.take k))+LB^(i+k)*(x.getD i 0*y.getD k 0):=by
   rw[Int.mul_add,Int.mul_add,a3];congr 1;rw[Int.mul_assoc,Int.mul_left_comm (x.getD i 0)]
  rw[a2,Int.mul_add] at a1;omega
 refine⟨hin,?_,by simp[h2],set_lim h3 d3 d4,⟨d5,hq⟩,hval,fun j hj=>?_⟩
 ·by_cases hlt:k<y.length
  ·exact .inl (by omega)
  ·refine .inr ⟨by omega,?_⟩;have g1:y.getD k 0=0:=getD_none (by omega);have g2:out.getD (i+k) 0=0:=h7 _ (by omega);rw[g1,g2] at hn;(have hnc:n=c:=by rw[hn];omega);rw[hnc];exact Int.ediv_eq_zero_of_lt h4.1 (hcar (by omega))
 ·rw[getD_set_ne (by omega)];exact h7 j (by omega)
theorem row_end{x y out:List Int}{i k:Nat}{c:Int}(hi:i<x.length)(h:RowPhi x y i k c out)(hb:¬(k<y.length∨0<c)):TimesPhi x y (i+1) out:=by
 obtain⟨h1,h2,h3,h4,h6,h7⟩:=h;have hc:c=0:=by omega
 rw[hc,Int.mul_zero,Int.add_zero,List.take_of_length_le (l:=y) (by omega)] at h6;refine⟨by omega,h2,h3,?_,fun j hj=>h7 j (by omega)⟩;rw[h6,take_val,Int.add_mul,Int.mul_assoc]
theorem times_fin{x y out:List Int}{i:Nat}(h:TimesPhi x y i out)(hi:¬i<x.length):valL out=valL x*valL y:=by
 have:i=x.length:=by have:=h.h1;omega
 rw[h.h4,this,List.take_length]
end Go.Cm.D
end
section
namespace Go.Cm
open Go.Proofs
def RF(s:List UInt8):Prop:=chk s≠5
theorem jg{s:List UInt8}(h:RF s):dD (ar s [45])/\0<(ar s [45]).length/\(s≠[48]->(ar s [45]).getD 0 0≠48):=by
 unfold RF chk at h;by_cases h0:s=[48]
 ·subst h0;refine⟨?_,by decide,fun h=>absurd rfl h⟩;intro c hc;have:ar [48] [45]=[48]:=by decide
  rw[this] at hc;simp at hc;subst hc;decide
 ·rw[if_neg h0] at h;by_cases h1:(ar s [45]).length=0∨(ar s [45]).getD 0 0=48;·rw[if_pos h1] at h;exact absurd rfl h
  ·(rw[if_neg h1] at h;by_cases h2:(ar s [45]).all fZ=false;·rw[if_pos h2] at h;exact absurd rfl h);·simp only[not_or] at h1;refine⟨fun c hc=>?_,by omega,fun _=>h1.2⟩;(have h3:(ar s [45]).all fZ=true:=by simpa using h2);have:=List.all_eq_true.1 h3 c hc;simpa [fZ] using this
theorem jt{s:List UInt8}(h:RF s):Lib.itoa (ah s)=s:=by
 obtain⟨c1,c2,c4⟩:=jg h;have hne:ar s [45]≠[]:=by intro e;rw[e] at c2;simp at c2
 by_cases h48:s=[48]
 ·subst h48;have e:ah [48]=0:=by decide
  rw[e];simp[Lib.itoa,Lib.decDigits]
 ·have h0:=c4 h48;have hd:=lB c1 hne (.inl h0);have hpos:0<numOf (ar s [45]):=by
   by_cases hz:numOf (ar s [45])=0
   ·exfalso;rw[hz] at hd;(have h5:Lib.decDigits 0=[48]:=by rw[Lib.decDigits];rfl);rw[h5] at hd;rw[<- hd] at h0;exact h0 rfl
   ·omega
  unfold ah Lib.itoa;by_cases hp:dz s [45]=true
  ·rw[if_pos hp,if_pos (by omega),show (-(numOf (ar s [45]):Int)).natAbs=numOf (ar s [45]) by omega,hd];unfold ar;rw[if_pos hp];unfold dz at hp;simp only[Bool.and_eq_true,decide_eq_true_eq,beq_iff_eq] at hp;match s,hp.2 with
   |c::l,e=>simp at e;rw[e];rfl
   | [],e=>simp at e
  ·rw[if_neg hp,if_neg (by omega),Int.toNat_natCast,hd];unfold ar;rw[if_neg hp]
theorem aF(v:Int):RF (Lib.itoa v)/\ah (Lib.itoa v)=v:=by
 have h:=tQ v;refine⟨?_,h.2⟩;unfold RF;rw[h.1];split<;>decide
theorem rY{s:List UInt8}(h:RF s):s≠[]:=by rintro rfl;exact h (by decide)
theorem iI{s:List UInt8}(h:s≠[]):((s.getD 0 0).toNat:Int)=45↔dz s [45]=true:=by
 match s,h with
 |c::l,_=>
  show ((c.toNat:Nat):Int)=45↔_;unfold dz;constructor
  ·intro h;have:c=45:=by
    apply UInt8.toNat_inj.1;show c.toNat=45;omega
   subst this;simp
  ·intro h;simp at h;subst h;rfl
theorem Mz{s:List UInt8}(h:RF s):dz s [45]=true↔ah s<0:=by
 obtain⟨c1,c2,c4⟩:=jg h;by_cases h48:s=[48];·subst h48;decide
 have h0:=c4 h48;have hne:ar s [45]≠[]:=by intro e;rw[e] at c2;simp at c2
 have hd:=lB c1 hne (.inl h0);have hpos:0<numOf (ar s [45]):=by
  by_cases hz:numOf (ar s [45])=0
  ·exfalso;rw[hz] at hd;(have h5:Lib.decDigits 0=[48]:=by rw[Lib.decDigits];rfl);rw[h5] at hd;rw[<- hd] at h0;exact h0 rfl
  ·omega
 unfold ah;constructor;·intro hp;rw[if_pos hp];omega
 ·intro hl;by_cases hp:dz s [45]=true;·exact hp
  ·rw[if_neg hp] at hl;omega
theorem ju(s:List UInt8):(ah s).natAbs=numOf (ar s [45]):=by unfold ah;split<;>omega
namespace D
def ReadPhi(D:List UInt8)(r:Nat)(out:List Int):Prop:=
 out.length=r/\Lim out/\valL out=(numOf (D.drop (D.length-4*r)):Int)/\4*r<D.length+4
theorem read_start{D:List UInt8}:ReadPhi D 0 []:=by
 refine⟨rfl,fun x hx=>by simp at hx,?_,by omega⟩;simp[valL,numOf]
theorem pow4(r:Nat):(LB^r:Int)=((10^(4*r):Nat):Int):=by
 rw[Nat.pow_mul];show (10000:Int)^r=((10000^r:Nat):Int);rw[Int.natCast_pow];rfl
def part(D:List UInt8)(lo i:Nat):Int:=(numOf ((D.take i).drop lo):Int)
theorem De(D:List UInt8)(lo:Nat):part D lo lo=0:=by
 unfold part;rw[List.drop_of_length_le (by rw[List.length_take];omega)];rfl
theorem Fz{D:List UInt8}(hd:dD D)(lo i:Nat)(h:i<=lo+4):0<=part D lo i/\part D lo i<LB:=by
 have hdc:dD ((D.take i).drop lo):=fun x hx=>hd x (List.mem_of_mem_take (List.mem_of_mem_drop hx));have h1:=fE hdc;have h2:10^((D.take i).drop lo).length<=10^4:=Nat.pow_le_pow_right (by omega) (by rw[List.length_drop,List.length_take];omega);unfold part;rw[hB];omega
theorem part_next{D:List UInt8}(hd:dD D){lo i:Nat}(hlo:lo<=i)(hi:i<D.length)(h4:i<lo+4):
  IntKind.i64.wrap (IntKind.i64.wrap (10*part D lo i)+IntKind.i64.wrap (IntKind.u8.wrap (((D.getD i 0).toNat:Int)-48)))=part D lo (i+1):=by
 have hc:=hd (D.getD i 0) (by rw[List.getD_eq_getElem?_getD,List.getElem?_eq_getElem hi];exact List.getElem_mem hi);have hb:=Fz hd lo i (by omega);have e:=hB;have e1:IntKind.u8.wrap (((D.getD i 0).toNat:Int)-48)=((D.getD i 0).toNat:Int)-48:=IntWalk.u8_in _ (by omega);rw[e1,wi (x:=10*part D lo i) (by omega) (by omega),wi (x:=((D.getD i 0).toNat:Int)-48) (by omega) (by omega),wo];unfold part at hb ⊢;have h2:(D.take (i+1)).drop lo=(D.take i).drop lo++ [D.getD i 0]:=by
  rw[List.take_add_one,List.drop_append,List.length_take,Nat.min_eq_left (by omega),show lo-i=0 by omega,List.drop_zero,List.getElem?_eq_getElem hi];simp[List.getD_eq_getElem?_getD,List.getElem?_eq_getElem hi]
 rw[h2,gE];have h3:numOf [D.getD i 0]=(D.getD i 0).toNat-48:=by simp[numOf]
 have h6: [D.getD i 0].length=1:=rfl;rw[h3,h6,Nat.pow_one];omega
theorem read_next{D:List UInt8}{r:Nat}{out:List Int}(hd:dD D)(h:ReadPhi D r out)(hr:4*r<D.length):
  ReadPhi D (r+1) (out++ [part D (D.length-4*(r+1)) (D.length-4*r)]):=by
 obtain⟨h1,h2,h3,h4⟩:=h;have hb:=Fz hd (D.length-4*(r+1)) (D.length-4*r) (by omega);refine⟨by simp[h1],h2.append (Lim.one hb.1 hb.2),?_,by omega⟩;rw[valL_append,valL_one,h1,h3,pow4];unfold part;have e:D.drop (D.length-4*(r+1))=(D.take (D.length-4*r)).drop (D.length-4*(r+1))++D.drop (D.length-4*r):=by
  have e0:D.drop (D.length-4*(r+1))=(D.take (D.length-4*r)++D.drop (D.length-4*r)).drop (D.length-4*(r+1)):=by rw[List.take_append_drop]
  rw[e0,List.drop_append,List.length_take,Nat.min_eq_left (by omega),show D.length-4*(r+1)-(D.length-4*r)=0 by omega,List.drop_zero]
 rw[e,gE,List.length_drop,show D.length-(D.length-4*r)=4*r by omega];rw[Int.natCast_add,Int.natCast_mul,Int.add_comm,Int.mul_comm]
theorem read_end{s:List UInt8}{r:Nat}{out:List Int}(h:ReadPhi (ar s [45]) r out)(hr:¬4*r<(ar s [45]).length):(valL out).toNat=(ah s).natAbs/\Lim out:=by
 obtain⟨h1,h2,h3,h4⟩:=h;rw[show (ar s [45]).length-4*r=0 by omega,List.drop_zero] at h3;rw[h3,ju];exact⟨by simp,h2⟩
def dd(a:Nat):List UInt8:=if a=0 then [] else Lib.decDigits a
theorem QG(a c:Nat)(hc:c<10):dd (10*a+c)=if a=0/\c=0 then [] else dd a++ [UInt8.ofNat (48+c)]:=by
 unfold dd;by_cases ha:a=0
 ·subst ha;by_cases h0:c=0;·subst h0;simp
  ·rw[if_neg (by omega),if_neg (by omega),if_pos rfl,Lib.decDigits,dif_pos (by omega)];simp
 ·rw[if_neg (by omega),if_neg (by omega),if_neg ha,Lib.decDigits,dif_neg (by omega),show (10*a+c)/10=a by omega,show (10*a+c)%10=c by omega]
def wr(d:List Int)(i j:Nat):Nat:=(valL (d.drop (i+1))).toNat*10^j+(d.getD i 0).toNat/10^(4-j)
def unit(j:Nat):Int:=if j<4 then ((10^(3-j):Nat):Int) else 0
theorem unit_next{j:Nat}(h:j<4):IntKind.i64.wrap ((unit j).tdiv 10)=unit (j+1)/\0<unit j:=by
 have:j=0∨j=1∨j=2∨j=3:=by omega
 rcases this with rfl|rfl|rfl|rfl<;>decide
def decimal(x:Int)(j:Nat):Nat:=x.toNat/10^(3-j)%10
theorem decimal_code{x:Int}{j:Nat}(hx:0<=x/\x<LB)(h:j<4):IntKind.u8.wrap (IntKind.i64.wrap (48+(IntKind.i64.wrap (x.tdiv (unit j))).tmod 10))=((48+decimal x j:Nat):Int):=by
 have e:=hB;have hu:=(unit_next h).2;have h1:x.tdiv (unit j)=((x.toNat/10^(3-j):Nat):Int):=by
  unfold unit;rw[if_pos h,Int.tdiv_eq_ediv_of_nonneg hx.1];conv=>lhs;rw[<- Int.toNat_of_nonneg hx.1]
  rfl
 have h2:x.toNat/10^(3-j)<=x.toNat:=Nat.div_le_self _ _;have h3:((x.toNat/10^(3-j):Nat):Int).tmod 10=((decimal x j:Nat):Int):=by
  unfold decimal;rw[Int.tmod_eq_emod_of_nonneg (Int.natCast_nonneg _)];rfl
 obtain⟨q,hq⟩:∃q,q=x.toNat/10^(3-j):=⟨_,rfl⟩;rw[<- hq] at h1 h2 h3;rw[h1,wi (x:=(q:Int)) (by omega) (by omega)];have h4:decimal x j<10:=Nat.mod_lt _ (by decide);rw[h3,wo];have:IntKind.u8.wrap (48+((decimal x j:Nat):Int))=48+((decimal x j:Nat):Int):=IntWalk.u8_in _ (by omega);rw[this];omega
theorem yr{d:List Int}(hd:Lim d)(i:Nat){j:Nat}(h:j<4):wr d i (j+1)=10*wr d i j+decimal (d.getD i 0) j:=by
 have hx:=hd.getD i;have e:=hB;unfold wr decimal;generalize (valL (d.drop (i+1))).toNat=v;generalize hX:(d.getD i 0).toNat=X;have:j=0∨j=1∨j=2∨j=3:=by omega
 rcases this with rfl|rfl|rfl|rfl<;>simp<;>omega
theorem MA{d:List Int}(hd:Lim d)(i:Nat):wr d i 0=(valL (d.drop (i+1))).toNat:=by
 have hx:=hd.getD i;have e:=hB;unfold wr;have:(d.getD i 0).toNat/10^4=0:=Nat.div_eq_of_lt (by omega);simp at this ⊢;exact this
theorem FA{d:List Int}(hd:Lim d){i:Nat}(hi:i<d.length):wr d i 4=(valL (d.drop i)).toNat:=by
 have hx:=hd.getD i;have hv:=valL_nonneg (l:=d.drop (i+1)) (fun x hx=>hd x (List.mem_of_mem_drop hx));have e:=hB;have e2:d.drop i=d.getD i 0::d.drop (i+1):=by
  rw[List.drop_eq_getElem_cons hi,List.getD_eq_getElem?_getD,List.getElem?_eq_getElem hi];rfl
 rw[e2];unfold wr;simp only[valL];rw[e];generalize valL (d.drop (i+1))=v at hv;have e5:(d.getD i 0).toNat/10^(4-4)=(d.getD i 0).toNat:=Nat.div_one _;have e6:(10:Nat)^4=10000:=rfl;rw[e5,e6];omega
structure WritePhi (d:List Int) (i j:Nat) (out:List Int):Prop where
 hj:j<=4
 ho:out=(dd (wr d i j)).map fun b=>(b.toNat:Int)
theorem write_start{d:List Int}(hd:Lim d){i:Nat}{out:List Int}(h:out=(dd (valL (d.drop (i+1))).toNat).map fun b=>(b.toNat:Int)):WritePhi d i 0 out:=
 ⟨by omega,by rw[MA hd];exact h⟩
theorem MB{a:Nat}:dd a=[]↔a=0:=by
 unfold dd;constructor
 ·intro h;by_cases h0:a=0;·exact h0
  ·rw[if_neg h0] at h;exact absurd h (jE a).2.2.1
 ·intro h;rw[if_pos h]
theorem write_take{d:List Int}(hd:Lim d){i j:Nat}{out:List Int}(h:WritePhi d i j out)(hj:j<4)(hb:0<out.length∨((48+decimal (d.getD i 0) j:Nat):Int)≠48):
  WritePhi d i (j+1) (out++ [((48+decimal (d.getD i 0) j:Nat):Int)]):=by
 have hc:decimal (d.getD i 0) j<10:=Nat.mod_lt _ (by decide);refine⟨hj,?_⟩;rw[yr hd i hj,QG _ _ hc,h.ho,if_neg];·rw[List.map_append];congr 1;simp only[List.map_cons,List.map_nil,List.cons.injEq,and_true];rw[pg hc]
 ·rintro⟨h1,h2⟩;rcases hb with hb|hb;·rw[h.ho,h1] at hb;simp[dd] at hb
  ·rw[h2] at hb;exact hb rfl
theorem write_leave{d:List Int}(hd:Lim d){i j:Nat}{out:List Int}(h:WritePhi d i j out)(hj:j<4)(hb:¬(0<out.length∨((48+decimal (d.getD i 0) j:Nat):Int)≠48)):
  WritePhi d i (j+1) out:=by
 have hc:decimal (d.getD i 0) j<10:=Nat.mod_lt _ (by decide);simp only[not_or] at hb;have h0:out=[]:=List.eq_nil_of_length_eq_zero (by omega);have h1:wr d i j=0:=by
  have:=h.ho;rw[h0] at this;exact MB.1 (List.map_eq_nil_iff.1 this.symm)
 have h2:decimal (d.getD i 0) j=0:=by omega
 refine⟨hj,?_⟩;rw[yr hd i hj,h1,h2,h0];rfl
theorem write_round{d:List Int}(hd:Lim d){i:Nat}(hi:i<d.length){out:List Int}(h:WritePhi d i 4 out):out=(dd (valL (d.drop i)).toNat).map fun b=>(b.toNat:Int):=by
 rw[<- FA hd hi];exact h.ho
theorem str_of_map(l:List UInt8):strOf (l.map fun b=>(b.toNat:Int))=l:=by
 unfold strOf;rw[List.map_map];conv=>rhs;rw[<- List.map_id l]
 apply List.map_congr_left;intro b _;show UInt8.ofNat ((b.toNat:Int).toNat)=b;rw[Int.toNat_natCast,UInt8.ofNat_toNat]
theorem write_text{d:List Int}(hd:Cano d)(hne:d≠[]):dd (valL d).toNat=Lib.itoa (valL d):=by
 have hp:=(valL_pos hd).2 hne;unfold dd Lib.itoa;rw[if_neg (by omega),if_neg (by omega)]
theorem write_minus{d:List Int}(hd:Cano d)(hne:d≠[]):45::dd (valL d).toNat=Lib.itoa (-valL d):=by
 have hp:=(valL_pos hd).2 hne;unfold dd Lib.itoa;rw[if_neg (by omega),if_pos (by omega)];congr 2;omega
theorem dd_len{d:List Int}(hd:Lim d):(dd (valL d).toNat).length<=4*d.length:=by
 by_cases h0:(valL d).toNat=0
 ·rw[MB.2 h0];simp
 ·have h1:=valL_lt hd;have h2:=valL_nonneg hd;rw[pow4] at h1;have:=Fx (n:=valL d) (k:=4*d.length) (by
   cases d with
   |nil=>simp[valL] at h0
   |cons x l=>simp) (by omega)
  rw[dV] at this;unfold dd;rw[if_neg h0];have e:(valL d).natAbs=(valL d).toNat:=by omega
  rw[e] at this;omega
end D
end Go.Cm
end
section
namespace Go.Cm
open Go.Proofs
theorem mv{s:List UInt8}(h:RF s):(0:Int)<(s.length:Int):=by
 have:=rY h;have:=List.length_pos_iff.2 this;omega
theorem Df{s:List UInt8}(h:RF s):(((s.getD (Int.toNat 0) 0).toNat:Int)==45)=decide (ah s<0):=by
 have h1:=iI (rY h);have h2:=Mz h;have e:Int.toNat 0=0:=rfl;rw[e,Bool.eq_iff_iff,beq_iff_eq,decide_eq_true_eq];exact h1.trans h2
theorem tT{s:List UInt8}(h:RF s)(h0:((s.getD (Int.toNat 0) 0).toNat:Int)=45):List.drop (Int.toNat 1) (List.take ((s.length:Int)).toNat s)=ar s [45]/\(ar s [45]).length+1=s.length:=by
 have h1:=(iI (rY h)).1 h0;have hl:=mv h;unfold ar;rw[if_pos h1,Int.toNat_natCast,List.take_length];exact⟨rfl,by rw[List.length_drop];show s.length-1+1=_;omega⟩
theorem tU{s:List UInt8}(h:RF s)(h0:((s.getD (Int.toNat 0) 0).toNat:Int)≠45):s=ar s [45]:=by
 unfold ar;rw[if_neg (fun h1=>h0 ((iI (rY h)).2 h1))]
theorem qA{s:List UInt8}(h:RF s):cr (ah s)=((ar s [45]).length:Int):=by
 obtain⟨c1,c2,c4⟩:=jg h;have hne:ar s [45]≠[]:=by intro e;rw[e] at c2;simp at c2
 rw[dV,ju];by_cases h48:s=[48]
 ·subst h48;have e1:ar [48] [45]=[48]:=by decide
  have e2:numOf [48]=0:=by decide
  rw[e1,e2,Lib.decDigits];rfl
 ·rw[lB c1 hne (.inl (c4 h48))]
namespace D
theorem unit_pos{j:Nat}(h:0<unit j):j<4:=by
 by_cases hj:j<4
 ·exact hj
 ·unfold unit at h;rw[if_neg hj] at h;exact absurd h (by decide)
theorem unit_end{j:Nat}(h:¬0<unit j):¬j<4:=fun hj=>h (unit_next hj).2
theorem write_phi0(d:List Int):d.length<=d.length/\([]:List Int)=(dd (valL (d.drop d.length)).toNat).map fun b=>(b.toNat:Int):=by
 refine⟨Nat.le_refl _,?_⟩;rw[List.drop_length];rfl
theorem write_nil{d:List Int}{neg:Bool}(h:(d.length:Int)=0): [48]=Lib.itoa (if neg=true then-valL d else valL d):=by
 have:d=[]:=List.eq_nil_of_length_eq_zero (by omega);subst this;have e:Lib.itoa 0=[48]:=by rw[Lib.itoa,if_neg (by decide)];show Lib.decDigits 0=_;rw[Lib.decDigits];rfl
 cases neg<;>simp[valL,e]
theorem cond_t{out:List Int}{x:Int}(h:(decide ((0:Int)<(out.length:Int))||x !=48)=true):0<out.length∨x≠48:=by
 simp only[Bool.or_eq_true,decide_eq_true_eq,bne_iff_ne] at h;rcases h with h|h;·exact .inl (by omega)
 ·exact .inr h
theorem cond_f{out:List Int}{x:Int}(h:(decide ((0:Int)<(out.length:Int))||x !=48)=false):¬(0<out.length∨x≠48):=by
 simp only[Bool.or_eq_false_iff,decide_eq_false_iff_not,bne_eq_false_iff_eq] at h;rintro(h1|h1);·omega
 ·exact h1 h.2
theorem FB{d:List Int}(hd:Lim d)(i:Nat):∀n j,j+n=4->wr d i j<=wr d i 4
 |0,j,h=>by rw[show j=4 by omega];exact Nat.le_refl _
 |n+1,j,h=>by
  have h1:=FB hd i n (j+1) (by omega);have h2:=yr hd i (j:=j) (by omega);omega
theorem dd_lt{a k:Nat}(h:a<10^k):(dd a).length<=k:=by
 unfold dd;by_cases h0:a=0;·rw[if_pos h0];simp
 ·rw[if_neg h0];have hk:0<k:=by
   (rcases Nat.eq_zero_or_pos k with e|e;·rw[e] at h;simp at h;omega);·exact e
  have:=Fx (n:=(a:Int)) (k:=k) hk (by simpa using h);rw[dV,Int.natAbs_natCast] at this;omega
theorem write_len{d:List Int}(hd:Lim d){i j:Nat}{out:List Int}(h:WritePhi d i j out)(hi:i<d.length):out.length<=4*d.length:=by
 have h1:=FB hd i (4-j) j (by have:=h.hj;omega);rw[FA hd hi] at h1;have hl:Lim (d.drop i):=fun x hx=>hd x (List.mem_of_mem_drop hx);have h2:=valL_lt hl;have h3:=valL_nonneg hl;rw[pow4] at h2;have h4:wr d i j<10^(4*(d.drop i).length):=by omega
 have h5:=dd_lt h4;rw[h.ho,List.length_map];rw[List.length_drop] at h5;omega
theorem read_le0{D:List UInt8}{r:Nat}(hr:4*r<D.length)(hl:D.length<1000000000000):0=part D (D.length-4*(r+1)) (D.length-4*(r+1))/\max 0 (IntKind.i64.wrap ((D.length:Int)-4*(r:Int)-4))=((D.length-4*(r+1):Nat):Int):=by
 refine⟨(De _ _).symm,?_⟩;rw[wo];omega
theorem valL_limbs{s:List UInt8}{r:Nat}{out:List Int}(h:ReadPhi (ar s [45]) r out)(hr:¬4*r<(ar s [45]).length):limbs (valL out).toNat=limbs (ah s).natAbs:=by
 rw[(read_end h hr).1]
end D
end Go.Cm
end
section
namespace Go.Cm
open Go.Proofs
theorem wC{s:List UInt8}(h:(0:Int)<(s.length:Int)/\((s.getD (Int.toNat 0) 0).toNat:Int)=45):List.drop (Int.toNat 1) (List.take ((s.length:Int)).toNat s)=ar s [45]:=by
 have hne:s≠[]:=by rintro rfl;simp at h
 have h1:=(iI hne).1 h.2;unfold ar;rw[if_pos h1,Int.toNat_natCast,List.take_length];rfl
theorem wD{s:List UInt8}(h:(0:Int)<(s.length:Int)->((s.getD (Int.toNat 0) 0).toNat:Int)≠45):s=ar s [45]:=by
 unfold ar;by_cases hne:s=[];·subst hne;rfl
 ·rw[if_neg (fun h1=>h (by have:=List.length_pos_iff.2 hne;omega) ((iI hne).2 h1))]
theorem MC{s:List UInt8}(h:s=[48]):true=decide (chk s≠5):=by subst h;decide
theorem Au{D:List UInt8}:(((D.length:Int)==0)||(((D.getD (Int.toNat 0) 0).toNat:Int)==48))=true↔(D=[]∨D.getD 0 0=48):=by
 simp only[Bool.or_eq_true,beq_iff_eq];have e:Int.toNat 0=0:=rfl;rw[e];constructor
 ·rintro(h|h);·exact .inl (List.eq_nil_of_length_eq_zero (by omega))
  ·right;apply UInt8.toNat_inj.1;show (D.getD 0 0).toNat=48;omega
 ·rintro(h|h);·left;subst h;rfl
  ·right;rw[h];rfl
theorem Av{s:List UInt8}(h0:s≠[48])(h:((((ar s [45]).length:Int)==0)||((((ar s [45]).getD (Int.toNat 0) 0).toNat:Int)==48))=true):false=decide (chk s≠5):=by
 rw[jq h0 (Au.1 h)];decide
theorem Jb{s:List UInt8}(h:((((ar s [45]).length:Int)==0)||((((ar s [45]).getD (Int.toNat 0) 0).toNat:Int)==48))=false):¬(ar s [45]=[]∨(ar s [45]).getD 0 0=48):=by
 intro h1;rw[Au.2 h1] at h;cases h
theorem QI(D:List UInt8):((!((D.length:Int)==0))=true->(!((D.length:Int)==0))=true/\(0:Int)<=0/\(0:Int)<(D.length:Int))/\((!((D.length:Int)==0))=true->(!((D.length:Int)==0))=true)/\(((D.length:Int)==0)=false->(!((D.length:Int)==0))=true):=by
 refine⟨fun h=>⟨h,by omega,?_⟩,fun h=>h,fun h=>by rw[h];rfl⟩;simp only[Bool.not_eq_true',beq_eq_false_iff_ne,ne_eq] at h;omega
theorem Aw{x:Int}:(decide (x<48)||decide (57<x))=true↔(x<48∨57<x):=by simp
theorem Jc{s:List UInt8}{k:Nat}(h0:s≠[48])(h1:¬(ar s [45]=[]∨(ar s [45]).getD 0 0=48))(hk:(k:Int)<((ar s [45]).length:Int))
  (h:(decide ((((ar s [45]).getD ((k:Int)).toNat 0).toNat:Int)<48)||decide ((57:Int)<(((ar s [45]).getD ((k:Int)).toNat 0).toNat:Int)))=true):false=decide (chk s≠5):=by
 rw[Int.toNat_natCast,Aw] at h;rw[np h0 h1 (k:=k) (by omega) (by omega)];decide
theorem Dg{D:List UInt8}{k:Nat}(hk:(k:Int)<(D.length:Int))(h:(decide (((D.getD ((k:Int)).toNat 0).toNat:Int)<48)||decide ((57:Int)<((D.getD ((k:Int)).toNat 0).toNat:Int)))=false)(g:(D.take k).all fZ=true):(D.take (k+1)).all fZ=true:=by
 rw[Int.toNat_natCast] at h;have h2:¬(((D.getD k 0).toNat:Int)<48∨(57:Int)<((D.getD k 0).toNat:Int)):=by
  intro h3;rw[Aw.2 h3] at h;cases h
 exact nR g (Ag (fun h3=>h2 (.inl h3)) (fun h3=>h2 (.inr h3)))
theorem Jd{s:List UInt8}{k:Nat}(h0:s≠[48])(h1:¬(ar s [45]=[]∨(ar s [45]).getD 0 0=48))(hk:¬(k:Int)<((ar s [45]).length:Int))(g:((ar s [45]).take k).all fZ=true):true=decide (chk s≠5):=by
 rw[List.take_of_length_le (by omega)] at g;rw[jD h0 h1 g];split<;>decide
theorem MD{s:List UInt8}(h:RF s):chk s=if 2000<cr (ah s) then 6 else 0:=by
 have h1:=tQ (ah s);rw[jt h] at h1;exact h1.1
theorem kL{s:List UInt8}(h:RF s):(D.limbs (ah s).natAbs).length<=s.length:=by
 have h1:=fE (jg h).1;rw[<- ju] at h1;have hl:=fF s [45];refine D.limbs_len ?_;rw[D.pow4];have h2:10^(ar s [45]).length<=10^(4*s.length):=Nat.pow_le_pow_right (by omega) (by omega);omega
theorem FC{s:List UInt8}(h:RF s):ah s=0↔s=[48]:=by
 constructor;·intro h0;have h1:=jt h;rw[h0] at h1;rw[<- h1,Lib.itoa,if_neg (by decide)];show Lib.decDigits 0=_;rw[Lib.decDigits];rfl
 ·rintro rfl;decide
theorem QJ(v:Int):Lib.itoa (if (!decide (v<0))=true then-D.valL (D.limbs v.natAbs) else D.valL (D.limbs v.natAbs))=Lib.itoa (-v):=by
 rw[D.limbs_val];congr 1;by_cases h:v<0;·simp[h];omega
 ·simp[h];omega
theorem fG{x:Int}(h:x<0):bg x 0= -1:=by unfold bg;rw[if_pos h]
theorem fe{x:Int}(h:0<x):bg x 0=1:=by unfold bg;rw[if_neg (by omega),if_pos h]
theorem Dh{x y:Int}(h:x<y):bg x y= -1:=by unfold bg;rw[if_pos h]
theorem ME{x y:Int}(h:y<x):bg x y=1:=by unfold bg;rw[if_neg (by omega),if_pos h]
theorem iJ:bg 0 0=0:=rfl
theorem Ax{x y:Int}(h:bg x 0≠bg y 0):(bg x 0<bg y 0-> -1=bg x y)/\(¬bg x 0<bg y 0->1=bg x y):=by
 rcases Int.lt_trichotomy x 0 with hx|hx|hx<;>rcases Int.lt_trichotomy y 0 with hy|hy|hy
 ·rw[fG hx,fG hy] at h;exact absurd rfl h
 ·subst hy;rw[fG hx,iJ];exact⟨fun _=>rfl,fun h=>absurd (by decide) h⟩
 ·rw[fG hx,fe hy];exact⟨fun _=>(Dh (by omega)).symm,fun h=>absurd (by decide) h⟩
 ·subst hx;rw[fG hy,iJ];exact⟨fun h=>absurd h (by decide),fun _=>(ME hy).symm⟩
 ·subst hx hy;exact absurd rfl h
 ·subst hx;rw[fe hy,iJ];exact⟨fun _=>(Dh hy).symm,fun h=>absurd (by decide) h⟩
 ·rw[fe hx,fG hy];exact⟨fun h=>absurd h (by decide),fun _=>(ME (by omega)).symm⟩
 ·subst hy;rw[fe hx,iJ];exact⟨fun h=>absurd h (by decide),fun _=>rfl⟩
 ·rw[fe hx,fe hy] at h;exact absurd rfl h
theorem FD{x y:Int}(h:bg x 0=bg y 0):(x<0->bg (D.valL (D.limbs y.natAbs)) (D.valL (D.limbs x.natAbs))=bg x y)/\(¬x<0->bg (D.valL (D.limbs x.natAbs)) (D.valL (D.limbs y.natAbs))=bg x y):=by
 rw[D.limbs_val,D.limbs_val];have hs:(x<0↔y<0)/\(x=0↔y=0):=by
  rcases Int.lt_trichotomy x 0 with hx|hx|hx<;>rcases Int.lt_trichotomy y 0 with hy|hy|hy
  ·omega
  ·subst hy;rw[fG hx,iJ] at h;cases h
  ·rw[fG hx,fe hy] at h;cases h
  ·subst hx;rw[fG hy,iJ] at h;cases h
  ·omega
  ·subst hx;rw[fe hy,iJ] at h;cases h
  ·rw[fe hx,fG hy] at h;cases h
  ·subst hy;rw[fe hx,iJ] at h;cases h
  ·omega
 constructor
 ·intro h1;unfold bg;by_cases h2:x<y;·rw[if_pos (by omega),if_pos h2]
  ·by_cases h3:y<x
   ·rw[if_neg (by omega),if_pos (by omega),if_neg h2,if_pos h3]
   ·rw[if_neg (by omega),if_neg (by omega),if_neg h2,if_neg h3]
 ·intro h1;unfold bg;by_cases h2:x<y;·rw[if_pos (by omega),if_pos h2]
  ·by_cases h3:y<x
   ·rw[if_neg (by omega),if_pos (by omega),if_neg h2,if_pos h3]
   ·rw[if_neg (by omega),if_neg (by omega),if_neg h2,if_neg h3]
theorem Ay{s:List UInt8}(h:RF s)(hl:s.length<=9):chk s=0:=by
 have h1:=MD h;rw[qA h] at h1;have:=fF s [45];rw[if_neg (by omega)] at h1;exact h1
theorem tV{s:List UInt8}(h:RF s):(s=[48]->0=bg (ah s) 0)/\(s≠[48]->ah s<0-> -1=bg (ah s) 0)/\(s≠[48]-> ¬ah s<0->1=bg (ah s) 0):=by
 refine⟨fun h0=>?_,fun h0 h1=>?_,fun h0 h1=>?_⟩;·rw[(FC h).2 h0];rfl
 ·unfold bg;rw[if_pos h1]
 ·have hne:ah s≠0:=fun e=>h0 ((FC h).1 e);exact(fe (by omega)).symm
theorem jv{s:List UInt8}(h:RF s)(hl:s.length<=9): -1000000000<ah s/\ah s<1000000000:=by
 have h1:=fE (jg h).1;rw[<- ju] at h1;have hl:=fF s [45];have h2:10^(ar s [45]).length<=10^9:=Nat.pow_le_pow_right (by omega) (by omega);omega
end Go.Cm
end
section
namespace Go.Cm.D
open Go.Cm
theorem Az{l:List Int}(h:Lim l)(k:Nat):Lim (l.drop k):=fun x hx=>h x (List.mem_of_mem_drop hx)
theorem AA{l:List Int}(h:Cano l)(k:Nat):Cano (l.drop k):=by
 refine⟨Az h.1 k,?_⟩;by_cases hk:k<l.length
 ·have hne:l.drop k≠[]:=by
   intro e;have:=congrArg List.length e;rw[List.length_drop] at this;simp at this;omega
  have:=getLastD_append (a:=l.take k) (d:=1) hne;rw[List.take_append_drop] at this;rw[<- this];exact h.2
 ·rw[List.drop_of_length_le (by omega)];simp
theorem MF{l:List Int}{k:Nat}(h:k<l.length):valL (l.drop k)=l.getD k 0+LB*valL (l.drop (k+1)):=by
 rw[List.drop_eq_getElem_cons h,List.getD_eq_getElem?_getD,List.getElem?_eq_getElem h];rfl
theorem qB{l:List Int}(k:Nat):valL (l.drop k)=l.getD k 0+LB*valL (l.drop (k+1)):=by
 by_cases h:k<l.length
 ·exact MF h
 ·rw[List.drop_of_length_le (by omega),List.drop_of_length_le (by omega),getD_none (by omega)];simp[valL]
structure DivPhi (a b:List Int) (k:Nat) (q rest:List Int):Prop where
 hk:k<=q.length
 hq:q.length+b.length=a.length+1
 hl:Lim q
 hr:rest=limbs (valL (a.drop k)%valL b).toNat
 hv:valL (q.drop k)=valL (a.drop k)/valL b
theorem div_start{a b:List Int}{n:Nat}(ha:Cano a)(hb:Cano b)(hne:b≠[])(hn:b.length=n+1)(hlt:n<a.length):DivPhi a b (a.length-n) (List.replicate (a.length-n) 0) (a.drop (a.length-n)):=by
 have hbge:=valL_ge hb hne;rw[hn,Nat.add_sub_cancel] at hbge;have hac:=AA ha (a.length-n);have hal:=valL_lt hac.1;have ha0:=valL_nonneg hac.1;have hlen:(a.drop (a.length-n)).length=n:=by rw[List.length_drop];omega
 rw[hlen] at hal;refine⟨by simp,by simp;omega,(replicate_zero _).1,?_,?_⟩;·rw[Int.emod_eq_of_lt ha0 (by omega)];exact hac.limbs (by omega)
 ·rw[List.drop_of_length_le (by simp),Int.ediv_eq_zero_of_lt ha0 (by omega)];rfl
theorem mod_bounds{x y:Int}(h:0<y):0<=x%y/\x%y<y:=⟨Int.emod_nonneg _ (by omega),Int.emod_lt_of_pos _ h⟩
def R1(a b:List Int)(i:Nat):Int:=a.getD i 0+LB*(valL (a.drop (i+1))%valL b)
theorem r1_facts{a b:List Int}{i:Nat}(ha:Lim a)(hb:0<valL b):0<=R1 a b i/\R1 a b i<LB*valL b/\R1 a b i%valL b=valL (a.drop i)%valL b/\valL (a.drop i)/valL b=LB*(valL (a.drop (i+1))/valL b)+R1 a b i/valL b:=by
 have hx:=ha.getD i;have hm:=mod_bounds (x:=valL (a.drop (i+1))) hb;have e:=hB;have e1:LB*(valL (a.drop (i+1))%valL b)<=LB*(valL b-1):=Int.mul_le_mul_of_nonneg_left (by omega) (by decide);have e0:0<=LB*(valL (a.drop (i+1))%valL b):=Int.mul_nonneg (by decide) hm.1;rw[Int.mul_sub,Int.mul_one] at e1;have hd:=Int.emod_add_mul_ediv (valL (a.drop (i+1))) (valL b);have hv:valL (a.drop i)=R1 a b i+valL b*(LB*(valL (a.drop (i+1))/valL b)):=by
  rw[qB,R1];have:LB*valL (a.drop (i+1))=LB*(valL (a.drop (i+1))%valL b)+LB*(valL b*(valL (a.drop (i+1))/valL b)):=by rw[<- Int.mul_add,hd]
  rw[this,Int.mul_left_comm (valL b) LB];omega
 refine⟨by unfold R1;omega,by unfold R1;omega,?_,?_⟩;·rw[hv,Int.add_mul_emod_self_left]
 ·rw[hv,Int.add_mul_ediv_left _ _ (by omega)];omega
theorem cons_limbs{a b rest:List Int}{i:Nat}(ha:Lim a)(hb:0<valL b)(hr:rest=limbs (valL (a.drop (i+1))%valL b).toNat):Lim (a.getD i 0::rest)/\valL (a.getD i 0::rest)=R1 a b i:=by
 have hm:=mod_bounds (x:=valL (a.drop (i+1))) hb;have hc:=limbs_can (valL (a.drop (i+1))%valL b).toNat;refine⟨fun x hx=>?_,?_⟩
 ·rcases List.mem_cons.1 hx with rfl|hx;·exact ha.getD i
  ·rw[hr] at hx;exact hc.1 x hx
 ·rw[hr];simp only[valL,limbs_val,R1];rw[Int.toNat_of_nonneg hm.1]
theorem tW{l:List Int}(h:Lim l)(m:Nat):LB^m*valL (l.drop m)<=valL l/\valL l<LB^m*(valL (l.drop m)+1):=by
 have e1:valL l=valL (l.take m)+LB^m*valL (l.drop m):=by
  by_cases hm:m<=l.length
  ·conv=>lhs;rw[<- List.take_append_drop m l]
   rw[valL_append,List.length_take,Nat.min_eq_left hm]
  ·rw[List.take_of_length_le (by omega),List.drop_of_length_le (by omega)];simp[valL]
 have h1:Lim (l.take m):=fun x hx=>h x (List.mem_of_mem_take hx);have h2:=valL_nonneg h1;have h3:=valL_lt h1;have h4:=pow_mono (show (l.take m).length<=m by rw[List.length_take];omega);rw[Int.mul_add,Int.mul_one];omega
theorem pj{l:List Int}(h:Lim l){m d:Nat}(hd:l.length<=m+d):0<=valL (l.drop m)/\valL (l.drop m)<LB^d:=by
 have h1:=Az h m;have h2:=valL_lt h1;have h3:=pow_mono (show (l.drop m).length<=d by rw[List.length_drop];omega);exact⟨valL_nonneg h1,by omega⟩
theorem r1_len{a b:List Int}{n i:Nat}(ha:Lim a)(hb:Cano b)(hne:b≠[])(hn:b.length=n+1):(limbs (R1 a b i).toNat).length<=n+2:=by
 have hp:=(valL_pos hb).2 hne;obtain⟨f1,f2,-,-⟩:=r1_facts (i:=i) ha hp;have h1:=valL_lt hb.1;refine limbs_len ?_;rw[Int.toNat_of_nonneg f1,Int.pow_succ];rw[hn] at h1;have:LB*valL b<=LB*LB^(n+1):=Int.mul_le_mul_of_nonneg_left (by omega) (by decide);rw[Int.mul_comm (LB^(n+1)) LB];omega
structure TopPhi (r b:List Int) (n j:Nat) (top first:Int):Prop where
 hj:max 0 (n-1)<=j/\j<=n+2
 ht:top=valL (b.drop j)
 hf:first=valL (r.drop j)
theorem top_start{r b:List Int}{n:Nat}(hr:r.length<=n+2)(hb:b.length=n+1):TopPhi r b n (n+2) 0 0:=
 ⟨by omega,by rw[List.drop_of_length_le (by omega)];rfl,by rw[List.drop_of_length_le (by omega)];rfl⟩
theorem top_vals{r b:List Int}{n j:Nat}{top first:Int}(hr:Lim r)(hrl:r.length<=n+2)(hb:Lim b)(hbl:b.length=n+1)(h:TopPhi r b n (j+1) top first)(hj:n-1<=j):
  IntKind.i64.wrap (first*10000)=first*10000/\IntKind.i64.wrap (first*10000+r.getD j 0)=first*10000+r.getD j 0/\IntKind.i64.wrap (top*10000)=top*10000/\IntKind.i64.wrap (top*10000+b.getD j 0)=top*10000+b.getD j 0/\
   first*10000+r.getD j 0=valL (r.drop j)/\(j<=n->top*10000+b.getD j 0=valL (b.drop j))/\(¬j<=n->top=valL (b.drop j)):=by
 obtain⟨h1,h2,h3⟩:=h;have f1:=pj hr (m:=j+1) (d:=2) (by omega);have f2:=pj hb (m:=j+1) (d:=2) (by omega);have g1:=hr.getD j;have g2:=hb.getD j;have e:=hB;have e2:LB^2=100000000:=rfl;rw[<- h3] at f1;rw[<- h2] at f2;refine⟨wo,wo,wo,wo,?_,fun _=>?_,fun hjn=>?_⟩;·rw[qB j,<- h3,e];omega
 ·rw[qB j,<- h2,e];omega
 ·rw[h2,List.drop_of_length_le (by omega),List.drop_of_length_le (by omega)]
structure HalfPhi (q low high:Int):Prop where
 h0:0<=low
 h1:low<=q
 h2:q<=high
 h3:high<=LB
theorem half_start{a b:List Int}{n i:Nat}{top first:Int}(ha:Lim a)(hb:Cano b)(hne:b≠[])(hn:b.length=n+1)
  (ht:top=valL (b.drop (n-1))) (hf:first=valL ((limbs (R1 a b i).toNat).drop (n-1))):
  0<top/\top<LB*LB/\0<=first/\first<LB*LB*LB/\HalfPhi (R1 a b i/valL b) (first/(top+1)) (first/top):=by
 have hp:=(valL_pos hb).2 hne;obtain⟨f1,f2,-,-⟩:=r1_facts (i:=i) ha hp;have hrc:=limbs_can (R1 a b i).toNat;have hrv:valL (limbs (R1 a b i).toNat)=R1 a b i:=by rw[limbs_val];omega
 have hrl:=r1_len (i:=i) ha hb hne hn;have t1:=tW hb.1 (n-1);have t2:=tW hrc.1 (n-1);rw[<- ht] at t1;rw[<- hf,hrv] at t2;have b1:=pj hb.1 (m:=n-1) (d:=2) (by omega);have b2:=pj hrc.1 (m:=n-1) (d:=3) (by omega);rw[<- ht] at b1;rw[<- hf] at b2;have e2:LB^2=LB*LB:=by decide
 have e3:LB^3=LB*LB*LB:=by decide
 rw[e2] at b1;rw[e3] at b2;have hP:0<LB^(n-1):=lbpos _;have hbc:=AA hb (n-1);have hdne:b.drop (n-1)≠[]:=by
  intro e;have:=congrArg List.length e;rw[List.length_drop] at this;simp at this;omega
 have htop:0<top:=by rw[ht];exact(valL_pos hbc).2 hdne
 have hq0:0<=R1 a b i/valL b:=Int.ediv_nonneg f1 (by omega);refine⟨htop,b1.2,b2.1,b2.2,⟨Int.ediv_nonneg b2.1 (by omega),?_,?_,?_⟩⟩
 ·
  rw[Int.le_ediv_iff_mul_le hp];have c1:first/(top+1)*(top+1)<=first:=Int.ediv_mul_le _ (by omega)
  have c0:0<=first/(top+1):=Int.ediv_nonneg b2.1 (by omega)
  have c2:first/(top+1)*valL b<=first/(top+1)*(LB^(n-1)*(top+1)):=Int.mul_le_mul_of_nonneg_left (by omega) c0
  have c3:first/(top+1)*(LB^(n-1)*(top+1))=LB^(n-1)*(first/(top+1)*(top+1)):=by
   rw[Int.mul_left_comm]
  have c4:LB^(n-1)*(first/(top+1)*(top+1))<=LB^(n-1)*first:=Int.mul_le_mul_of_nonneg_left c1 (by omega)
  omega
 ·
  rw[Int.le_ediv_iff_mul_le htop];have c1:R1 a b i/valL b*valL b<=R1 a b i:=Int.ediv_mul_le _ (by omega);have c2:R1 a b i/valL b*(LB^(n-1)*top)<=R1 a b i/valL b*valL b:=Int.mul_le_mul_of_nonneg_left t1.1 hq0;have c3:R1 a b i/valL b*(LB^(n-1)*top)=LB^(n-1)*(R1 a b i/valL b*top):=by rw[Int.mul_left_comm]
  have c4:LB^(n-1)*(R1 a b i/valL b*top)<LB^(n-1)*(first+1):=by omega
  have:=Int.lt_of_mul_lt_mul_left c4 (by omega);omega
 ·
  by_cases hn0:n=0
  ·subst hn0;simp only[Nat.zero_sub,Int.pow_zero,Int.one_mul] at t1 t2;(have hbt:valL b=top:=by omega);(have hrf:R1 a b i=first:=by omega);(have:first<LB*top:=by rw[<- hbt,<- hrf];exact f2);exact Int.le_of_lt (Int.ediv_lt_of_lt_mul htop this)
  ·have hge:LB<=top:=by
    have:=valL_ge hbc hdne;rw[<- ht,List.length_drop] at this;(have e5:b.length-(n-1)-1=1:=by omega);rw[e5,Int.pow_succ,Int.pow_zero,Int.one_mul] at this;exact this
   have c1:LB^(n-1)*first<LB^(n-1)*(LB*(top+1)):=by
    have c2:LB*valL b<=LB*(LB^(n-1)*(top+1)):=Int.mul_le_mul_of_nonneg_left (by omega) (by decide);rw[Int.mul_left_comm (LB^(n-1)) LB];omega
   have c3:=Int.lt_of_mul_lt_mul_left c1 (by omega);have c4:first/top<LB+1:=by
    refine Int.ediv_lt_of_lt_mul htop ?_;rw[Int.mul_add,Int.mul_one] at c3;rw[Int.add_mul,Int.one_mul];omega
   omega
theorem half_mid{q low high:Int}(h:HalfPhi q low high)(hlt:low<high):
  IntKind.i64.wrap ((IntKind.i64.wrap (IntKind.i64.wrap (low+high)+1)).tdiv 2)=(low+high+1)/2/\low<(low+high+1)/2/\(low+high+1)/2<=high/\IntKind.i64.wrap ((low+high+1)/2-1)=(low+high+1)/2-1:=by
 obtain⟨h0,h1,h2,h3⟩:=h;have e:=hB;rw[wi (x:=low+high) (by omega) (by omega),wi (x:=low+high+1) (by omega) (by omega),Int.tdiv_eq_ediv_of_nonneg (by omega)];exact⟨wo,by omega,by omega,wo⟩
theorem half_up{q low high mid:Int}(h:HalfPhi q low high)(hm:low<mid/\mid<=high)(hq:mid<=q):HalfPhi q mid high/\(high-mid).toNat<(high-low).toNat:=by
 obtain⟨h0,h1,h2,h3⟩:=h;exact⟨⟨by omega,hq,h2,h3⟩,by omega⟩
theorem half_down{q low high mid:Int}(h:HalfPhi q low high)(hm:low<mid/\mid<=high)(hq:¬mid<=q):HalfPhi q low (mid-1)/\(mid-1-low).toNat<(high-low).toNat:=by
 obtain⟨h0,h1,h2,h3⟩:=h;exact⟨⟨h0,h1,by omega,by omega⟩,by omega⟩
theorem To{x y:Int}:bg x y<=0↔x<=y:=by
 unfold bg;by_cases h1:x<y;·rw[if_pos h1];omega
 ·rw[if_neg h1];by_cases h2:y<x;·rw[if_pos h2];omega
  ·rw[if_neg h2];omega
theorem half_test{v mid:Int}{b:List Int}(hb:Lim b)(hp:0<valL b)(hv:0<=v)(hm:0<=mid):bg (valL (limbs (valL b*valL [mid]).toNat)) (valL (limbs v.toNat))<=0↔mid<=v/valL b:=by
 have h0:0<=valL b*mid:=Int.mul_nonneg (by omega) hm;rw[To,limbs_val,limbs_val,valL_one,Int.toNat_of_nonneg h0,Int.toNat_of_nonneg hv,Int.le_ediv_iff_mul_le hp,Int.mul_comm]
theorem div_next{a b q rest:List Int}{i:Nat}{d:Int}(ha:Lim a)(hb:Cano b)(hne:b≠[])(h:DivPhi a b (i+1) q rest)(hd:d=R1 a b i/valL b):
  0<=d/\d<LB/\DivPhi a b i (q.set i d) (limbs (R1 a b i%valL b).toNat):=by
 have hp:=(valL_pos hb).2 hne;obtain⟨f1,f2,f3,f4⟩:=r1_facts (i:=i) ha hp;obtain⟨g1,g2,g3,g4,g5⟩:=h;have d0:0<=d:=by rw[hd];exact Int.ediv_nonneg f1 (by omega)
 have d1:d<LB:=by rw[hd];exact Int.ediv_lt_of_lt_mul hp f2
 refine⟨d0,d1,by simp;omega,by simpa using g2,set_lim g3 d0 d1,by rw[f3],?_⟩;have e1:(q.set i d).drop i=d::q.drop (i+1):=by
  rw[List.drop_eq_getElem_cons (by simp;omega)];simp[List.drop_set]
 rw[e1,f4];simp only[valL];rw[g5,hd];omega
theorem rest_minus{a b:List Int}{i:Nat}(ha:Lim a)(hb:Cano b)(hne:b≠[]):
  valL (limbs (valL b*valL [R1 a b i/valL b]).toNat)<=valL (limbs (R1 a b i).toNat)/\
   (valL (limbs (R1 a b i).toNat)-valL (limbs (valL b*valL [R1 a b i/valL b]).toNat))=R1 a b i%valL b:=by
 have hp:=(valL_pos hb).2 hne;obtain⟨f1,f2,f3,f4⟩:=r1_facts (i:=i) ha hp;have h0:0<=valL b*(R1 a b i/valL b):=Int.mul_nonneg (by omega) (Int.ediv_nonneg f1 (by omega));have hm:=mod_bounds (x:=R1 a b i) hp;have hd:=Int.emod_add_mul_ediv (R1 a b i) (valL b);rw[limbs_val,limbs_val,valL_one,Int.toNat_of_nonneg h0,Int.toNat_of_nonneg f1];omega
theorem rest_zero{a b:List Int}{i:Nat}(ha:Lim a)(hb:Cano b)(hne:b≠[])(h:¬0<R1 a b i/valL b):R1 a b i=R1 a b i%valL b:=by
 have hp:=(valL_pos hb).2 hne;obtain⟨f1,f2,f3,f4⟩:=r1_facts (i:=i) ha hp;have hq:R1 a b i/valL b=0:=by have:=Int.ediv_nonneg f1 (Int.le_of_lt hp);omega
 have hd:=Int.emod_add_mul_ediv (R1 a b i) (valL b);rw[hq,Int.mul_zero] at hd;omega
theorem div_small{a b:List Int}{n:Nat}(ha:Cano a)(hb:Cano b)(hne:b≠[])(hn:b.length=n+1)(h:a.length<=n): []=limbs (valL a/valL b).toNat/\a=limbs (valL a%valL b).toNat:=by
 have h1:=cmp_len ha hb (by omega);have h0:=valL_nonneg ha.1;rw[Int.ediv_eq_zero_of_lt h0 h1,Int.emod_eq_of_lt h0 h1];exact⟨(limbs_nil.2 rfl).symm,ha.limbs (by omega)⟩
theorem div_end{a b q rest:List Int}(h:DivPhi a b 0 q rest):limbs (valL q).toNat=limbs (valL a/valL b).toNat/\rest=limbs (valL a%valL b).toNat:=by
 have h1:=h.hv;have h2:=h.hr;rw[List.drop_zero,List.drop_zero] at h1;rw[List.drop_zero] at h2;exact⟨by rw[h1],h2⟩
theorem len_pred{a b:List Int}(h:b≠[])(hl:a.length+b.length+2<CAP):∃z:Nat,IntKind.i64.wrap ((b.length:Int)-1)=(z:Int)/\b.length=z+1:=by
 have h1:=List.length_pos_iff.2 h;have hl:a.length+b.length+2<1000000000000:=hl;exact⟨b.length-1,by rw[wo];omega,by omega⟩
theorem rest_len{a b rest:List Int}{k:Nat}(hb:Cano b)(hne:b≠[])(hr:rest=limbs (valL (a.drop k)%valL b).toNat):rest.length<=b.length:=by
 have hp:=(valL_pos hb).2 hne;have hm:=mod_bounds (x:=valL (a.drop k)) hp;have h1:=valL_lt hb.1;rw[hr];refine limbs_len ?_;rw[Int.toNat_of_nonneg hm.1];omega
theorem quo_facts{top first:Int}(h1:0<top)(h2:top<LB*LB)(h3:0<=first)(h4:first<LB*LB*LB):
  IntKind.i64.wrap (top+1)=top+1/\top+1≠0/\top≠0/\IntKind.i64.wrap (first.tdiv (top+1))=first/(top+1)/\IntKind.i64.wrap (first.tdiv top)=first/top:=by
 have e2:LB*LB=100000000:=rfl;have e3:LB*LB*LB=1000000000000:=rfl;have d1:first/(top+1)<=first:=Int.ediv_le_self _ h3
 have d2:first/top<=first:=Int.ediv_le_self _ h3
 have d3:0<=first/(top+1):=Int.ediv_nonneg h3 (by omega)
 have d4:0<=first/top:=Int.ediv_nonneg h3 (by omega)
 rw[Int.tdiv_eq_ediv_of_nonneg h3,Int.tdiv_eq_ediv_of_nonneg h3];exact⟨wo,by omega,by omega,wo,wo⟩
theorem one_len{b:List Int}{d:Int}(hb:Lim b)(h0:0<=d)(h1:d<=LB):(limbs (valL b*valL [d]).toNat).length<=b.length+1:=by
 have g0:=valL_nonneg hb;have g1:=valL_lt hb;refine limbs_len ?_;rw[valL_one,Int.toNat_of_nonneg (Int.mul_nonneg g0 h0),Int.pow_succ];have:valL b*d<=valL b*LB:=Int.mul_le_mul_of_nonneg_left h1 g0;have h2:valL b*LB<LB^b.length*LB:=Int.mul_lt_mul_of_pos_right g1 (by decide);omega
theorem half_end{q low high:Int}(h:HalfPhi q low high)(hlt:¬low<high):low=q:=by
 have:=h.h1;have:=h.h2;omega
end Go.Cm.D
end
section
namespace Go.Cm
open Go.Proofs
def RS(n:Nat)(s:List UInt8):Prop:=RF s/\s.length<=n
theorem RS.up{n m:Nat}{s:List UInt8}(h:RS n s)(hn:n<=m):RS m s:=⟨h.1,Nat.le_trans h.2 hn⟩
theorem RS.cap{n:Nat}{s:List UInt8}(h:RS n s)(hn:n<1000000000000):RF s/\s.length<CAP:=⟨h.1,Nat.lt_of_le_of_lt h.2 hn⟩
theorem Di{s:List UInt8}(h:RF s):(ah s).natAbs<10^s.length:=by
 have h1:=fE (jg h).1;rw[<- ju] at h1;exact Nat.lt_of_lt_of_le h1 (Nat.pow_le_pow_right (by omega) (fF s [45]))
theorem nq{n:Nat}{s:List UInt8}(h:RS n s):(ah s).natAbs<10^n:=
 Nat.lt_of_lt_of_le (Di h.1) (Nat.pow_le_pow_right (by omega) h.2)
theorem yt{a k:Nat}(h:a<10^k):(Lib.decDigits a).length<=k+1:=by
 by_cases h0:a=0
 ·subst h0;rw[Lib.decDigits];simp
 ·have h1:=D.dd_lt h;unfold D.dd at h1;rw[if_neg h0] at h1;omega
theorem MG{v:Int}{k:Nat}(h:v.natAbs<10^k):(Lib.itoa v).length<=k+2:=by
 have h1:=yt h;unfold Lib.itoa;by_cases hv:v<0;·rw[if_pos hv];simp only[List.length_cons];omega
 ·rw[if_neg hv,show v.toNat=v.natAbs by omega];omega
theorem pk{v:Int}{k n:Nat}(h:v.natAbs<10^k)(hk:k+2<=n):RS n (Lib.itoa v)/\ah (Lib.itoa v)=v:=
 ⟨⟨(aF v).1,Nat.le_trans (MG h) hk⟩,(aF v).2⟩
theorem Dj:RS 2 [49]/\ah [49]=1:=⟨⟨by unfold RF;decide,by decide⟩,by decide⟩
namespace D
theorem lim_len{k:Nat}{v:Int}(h0:0<=v)(h:v<LB^k):(limbs v.toNat).length<=k:=limbs_len (by rw[Int.toNat_of_nonneg h0];exact h)
theorem plus_ln{d e:List Int}(hd:Lim d)(he:Lim e):(limbs (valL d+valL e).toNat).length<=d.length+e.length+1:=by
 have h1:=valL_lt hd;have h2:=valL_lt he;have h3:=valL_nonneg hd;have h4:=valL_nonneg he;have h5:LB^d.length<=LB^(d.length+e.length):=pow_mono (by omega);have h6:LB^e.length<=LB^(d.length+e.length):=pow_mono (by omega);have h7:=lbpos (d.length+e.length);refine lim_len (by omega) ?_;rw[Int.pow_succ,hB] at*;omega
theorem minus_ln{d e:List Int}(hd:Lim d)(he:Lim e):(limbs (valL d-valL e).toNat).length<=d.length:=by
 have h1:=valL_lt hd;have h4:=valL_nonneg he;have h7:=lbpos d.length;exact limbs_len (by omega)
theorem times_ln{d e:List Int}(hd:Lim d)(he:Lim e):(limbs (valL d*valL e).toNat).length<=d.length+e.length:=by
 have h1:=valL_lt hd;have h2:=valL_lt he;have h3:=valL_nonneg hd;have h4:=valL_nonneg he;refine lim_len (Int.mul_nonneg h3 h4) ?_;rw[Int.pow_add];exact Int.mul_lt_mul' (Int.le_of_lt h1) h2 h4 (lbpos _)
theorem ne_limbs{v:Int}(h:v≠0):limbs v.natAbs≠[]:=by
 intro e;have:=limbs_val v.natAbs;rw[e] at this;simp[valL] at this;omega
end D
def lm(s:List UInt8):List Int:=D.limbs (ah s).natAbs
theorem eF{n:Nat}{s:List UInt8}(h:RS n s):D.Cano (D.limbs (ah s).natAbs)/\(D.limbs (ah s).natAbs).length<=n:=
 ⟨D.limbs_can _,Nat.le_trans (kL h.1) h.2⟩
theorem FE{a b:List UInt8}(ha:RS 20000000000 a)(hb:RS 20000000000 b):
  4*(D.limbs (D.valL (D.limbs (ah a).natAbs)+D.valL (D.limbs (ah b).natAbs)).toNat).length<1000000000000/\
  4*(D.limbs (D.valL (D.limbs (ah a).natAbs)-D.valL (D.limbs (ah b).natAbs)).toNat).length<1000000000000/\
  4*(D.limbs (D.valL (D.limbs (ah b).natAbs)-D.valL (D.limbs (ah a).natAbs)).toNat).length<1000000000000/\
  4*(D.limbs (D.valL (D.limbs (ah a).natAbs)*D.valL (D.limbs (ah b).natAbs)).toNat).length<1000000000000:=by
 obtain⟨a1,a2⟩:=eF ha;obtain⟨b1,b2⟩:=eF hb;have h1:=D.plus_ln a1.1 b1.1;have h2:=D.minus_ln a1.1 b1.1;have h3:=D.minus_ln b1.1 a1.1;have h4:=D.times_ln a1.1 b1.1;exact⟨by omega,by omega,by omega,by omega⟩
theorem tX{a b:List UInt8}(ha:RF a)(hb:RF b)(h:a.length<=9/\b.length<=9):IntKind.i64.wrap (ah a+ah b)=ah a+ah b/\I64 (ah a+ah b)/\IntKind.i64.wrap (ah a*ah b)=ah a*ah b/\I64 (ah a*ah b):=by
 have h1:=jv ha h.1;have h2:=jv hb h.2;have h3:(ah a*ah b).natAbs<=1000000000*1000000000:=by rw[Int.natAbs_mul];exact Nat.mul_le_mul (by omega) (by omega)
 refine⟨wo,by unfold I64;omega,wo,by unfold I64;omega⟩
theorem Je{x y:Int}(h:decide (x<0)=decide (y<0)):Lib.itoa (if decide (x<0)=true then-D.valL (D.limbs (D.valL (D.limbs x.natAbs)+D.valL (D.limbs y.natAbs)).toNat) else D.valL (D.limbs (D.valL (D.limbs x.natAbs)+D.valL (D.limbs y.natAbs)).toNat))=Lib.itoa (x+y):=by
 rw[decide_eq_decide] at h;congr 1;simp only[D.limbs_val,decide_eq_true_eq];split<;>omega
theorem FF{x y:Int}(h:¬decide (x<0)=decide (y<0))(hc:0<=bg (D.valL (D.limbs x.natAbs)) (D.valL (D.limbs y.natAbs))):D.valL (D.limbs y.natAbs)<=D.valL (D.limbs x.natAbs)/\Lib.itoa (if decide (x<0)=true then-D.valL (D.limbs (D.valL (D.limbs x.natAbs)-D.valL (D.limbs y.natAbs)).toNat) else D.valL (D.limbs (D.valL (D.limbs x.natAbs)-D.valL (D.limbs y.natAbs)).toNat))=Lib.itoa (x+y):=by
 rw[decide_eq_decide] at h;simp only[D.limbs_val] at hc ⊢;have h2:¬((x.natAbs:Nat):Int)<((y.natAbs:Nat):Int):=by
  intro h3;rw[Dh h3] at hc;exact absurd hc (by decide)
 refine⟨by omega,?_⟩;congr 1;simp only[decide_eq_true_eq];split<;>omega
theorem FG{x y:Int}(h:¬decide (x<0)=decide (y<0))(hc:¬0<=bg (D.valL (D.limbs x.natAbs)) (D.valL (D.limbs y.natAbs))):D.valL (D.limbs x.natAbs)<=D.valL (D.limbs y.natAbs)/\Lib.itoa (if decide (y<0)=true then-D.valL (D.limbs (D.valL (D.limbs y.natAbs)-D.valL (D.limbs x.natAbs)).toNat) else D.valL (D.limbs (D.valL (D.limbs y.natAbs)-D.valL (D.limbs x.natAbs)).toNat))=Lib.itoa (x+y):=by
 rw[decide_eq_decide] at h;simp only[D.limbs_val] at hc ⊢;have h2:((x.natAbs:Nat):Int)<((y.natAbs:Nat):Int):=by
  refine Decidable.byContradiction fun h3=>hc ?_;unfold bg;rw[if_neg h3];split<;>decide
 refine⟨by omega,?_⟩;congr 1;simp only[decide_eq_true_eq];split<;>omega
theorem Tp{s:List UInt8}{n:Nat}(h:RS n s):RS (n+2) (Lib.itoa (-ah s))/\ah (Lib.itoa (-ah s))= -ah s:=
 pk (k:=n) (by rw[Int.natAbs_neg];exact nq h) (Nat.le_refl _)
theorem QN{a b:List UInt8}:Lib.itoa (ah a+ah (Lib.itoa (-ah b)))=Lib.itoa (ah a-ah b):=by rw[(aF _).2];congr 1
theorem QO{x y:Int}:Lib.itoa (if (decide (x<0) !=decide (y<0))=true then-D.valL (D.limbs (D.valL (D.limbs x.natAbs)*D.valL (D.limbs y.natAbs)).toNat) else D.valL (D.limbs (D.valL (D.limbs x.natAbs)*D.valL (D.limbs y.natAbs)).toNat))=Lib.itoa (x*y):=by
 congr 1;simp only[D.limbs_val];rw[<- Int.natCast_mul,Int.toNat_natCast,<- Int.natAbs_mul];have hm:x*y<0∨0<=x*y:=by omega
 by_cases hx:x<0<;>by_cases hy:y<0<;>simp only[hx,hy,decide_true,decide_false,bne_self_eq_false,Bool.false_eq_true,if_false,Bool.true_bne,Bool.false_bne,Bool.not_false,if_true]
 ·have:=Int.mul_pos_of_neg_of_neg hx hy;omega
 ·have:x*y<=0:=Int.mul_nonpos_of_nonpos_of_nonneg (by omega) (by omega);omega
 ·have:x*y<=0:=Int.mul_nonpos_of_nonneg_of_nonpos (by omega) (by omega);omega
 ·have:=Int.mul_nonneg (show 0<=x by omega) (show 0<=y by omega);omega
end Go.Cm
end
section
namespace Go.Cm
open Go.Proofs
theorem ke{x y q:Int}(h1:0<y->0<=x-y*q/\x-y*q<y)(h2:y<0->y<x-y*q/\x-y*q<=0)(h0:y≠0):q=bN x y:=by
 unfold bN;by_cases hy:0<y;·rw[if_pos hy];obtain⟨g1,g2⟩:=h1 hy;exact(Int.ediv_emod_unique hy).2 ⟨show x-y*q+y*q=x by omega,g1,g2⟩|>.1.symm
 ·rw[if_neg hy];obtain⟨g1,g2⟩:=h2 (by omega);refine((Int.ediv_emod_unique (r:= -(x-y*q)) (show 0< -y by omega)).2 ⟨?_,by omega,by omega⟩).1.symm;rw[Int.neg_mul];omega
theorem nr{x y:Int}(h0:y≠0):(bN x y).natAbs<=x.natAbs/\(y*bN x y).natAbs<=x.natAbs+y.natAbs:=by
 have key:∀u v:Int,0<v->(u/v).natAbs<=u.natAbs/\0<=u-v*(u/v)/\u-v*(u/v)<v:=by
  intro u v hv;have e:=Int.emod_add_mul_ediv u v;have m0:=Int.emod_nonneg u (show v≠0 by omega);have m1:=Int.emod_lt_of_pos u hv;refine⟨?_,by omega,by omega⟩;by_cases hu:0<=u;·have d0:=Int.ediv_nonneg hu (Int.le_of_lt hv);have d1:=Int.ediv_le_self v hu;omega
  ·have d0:u/v<0:=Int.ediv_neg_of_neg_of_pos (by omega) hv;have d1:u<=u/v:=by
    have:u/v*v<=u/v*1:=by
     refine Int.mul_le_mul_of_nonpos_left ?_ (by omega);omega
    refine(Int.le_ediv_iff_mul_le hv).2 ?_;have h3:u*v<=u*1:=Int.mul_le_mul_of_nonpos_left (by omega) (by omega);omega
   omega
 unfold bN;by_cases hy:0<y;·rw[if_pos hy];obtain⟨k1,k2,k3⟩:=key x y hy;exact⟨k1,by omega⟩
 ·rw[if_neg hy];obtain⟨k1,k2,k3⟩:=key (-x) (-y) (by omega);rw[Int.neg_mul] at k2 k3;exact⟨by omega,by omega⟩
theorem Dk{a b:List UInt8}(ha:RF a)(hb:RF b)(h:a.length<=9/\b.length<=9)(h0:ah b≠0):
  (((ah a).tmod (ah b)≠0/\decide (ah a<0)≠decide (ah b<0))->IntKind.i64.wrap (IntKind.i64.wrap ((ah a).tdiv (ah b))-1)=bN (ah a) (ah b))/\
  ((((ah a).tmod (ah b) !=0)=true->decide (ah a<0)=decide (ah b<0))->IntKind.i64.wrap ((ah a).tdiv (ah b))=bN (ah a) (ah b))/\
  I64 (bN (ah a) (ah b))/\IntKind.i64.wrap (ah a-IntKind.i64.wrap (ah b*bN (ah a) (ah b)))=ku (ah a) (ah b)/\I64 (ku (ah a) (ah b)):=by
 have h1:=jv ha h.1;have h2:=jv hb h.2;have hf:=nr (x:=ah a) h0;unfold ku;generalize ah a=x at*;generalize ah b=y at*;have e:=Int.mul_tdiv_add_tmod x y;have hq:(x.tdiv y).natAbs<=x.natAbs:=by rw[Int.natAbs_tdiv];exact Nat.div_le_self _ _
 have hlt:(x.tmod y).natAbs<y.natAbs:=by rw[Int.natAbs_tmod];exact Nat.mod_lt _ (by omega)
 have hs1:0<=x->0<=x.tmod y:=fun hx=>Int.tmod_nonneg y hx;have hs2:x<0->x.tmod y<=0:=fun hx=>by
  have:=Int.tmod_nonneg (a:= -x) y (by omega);rw[Int.neg_tmod] at this;omega
 have hw:IntKind.i64.wrap (x.tdiv y)=x.tdiv y:=wo;rw[hw];refine⟨fun hc=>?_,fun hc=>?_,by unfold I64;omega,?_,by unfold I64;omega⟩;·rw[wo];have hc2:¬(x<0↔y<0):=fun h=>hc.2 (by rw[decide_eq_decide];exact h);have hc1:=hc.1;refine ke (fun hy=>?_) (fun hy=>?_) h0<;>rw[Int.mul_sub,Int.mul_one]<;>omega
 ·have hc2:x.tmod y≠0->(x<0↔y<0):=fun hm=>by
   rw[<- decide_eq_decide];exact hc (by simpa using hm)
  refine ke (fun hy=>?_) (fun hy=>?_) h0
  ·by_cases hm:x.tmod y=0
   ·omega
   ·have:=hc2 hm;omega
  ·by_cases hm:x.tmod y=0
   ·omega
   ·have:=hc2 hm;omega
 ·rw[wi (x:=y*bN x y) (by omega) (by omega),wo]
def Jf(x y:Int):Int:=if (decide (x<0) !=decide (y<0))=true then-D.valL (D.limbs (D.valL (D.limbs x.natAbs)/D.valL (D.limbs y.natAbs)).toNat) else D.valL (D.limbs (D.valL (D.limbs x.natAbs)/D.valL (D.limbs y.natAbs)).toNat)
theorem MH{x y:Int}:Jf x y=if (x<0↔y<0) then ((x.natAbs/y.natAbs:Nat):Int) else-((x.natAbs/y.natAbs:Nat):Int):=by
 unfold Jf;simp only[D.limbs_val];rw[<- Int.natCast_ediv,Int.toNat_natCast];by_cases hx:x<0<;>by_cases hy:y<0<;>simp[hx,hy]
theorem wE{x y:Int}:(0:Int)<((D.limbs (D.valL (D.limbs x.natAbs)%D.valL (D.limbs y.natAbs)).toNat).length:Int)↔x.natAbs%y.natAbs≠0:=by
 simp only[D.limbs_val];rw[<- Int.natCast_emod,Int.toNat_natCast];have hc:=D.limbs_can (x.natAbs%y.natAbs);have hp:=D.valL_pos hc;rw[D.limbs_val] at hp;constructor
 ·intro h;have:D.limbs (x.natAbs%y.natAbs)≠[]:=by
   intro e;rw[e] at h;simp at h
  have:=hp.2 this;omega
 ·intro h;have:=hp.1 (by omega);have:=List.length_pos_iff.2 this;omega
theorem tY{x y:Int}(h0:y≠0):(Jf x y).natAbs<=x.natAbs/\((x.natAbs%y.natAbs≠0/\decide (x<0)≠decide (y<0))->Jf x y-1=bN x y)/\((x.natAbs%y.natAbs≠0->decide (x<0)=decide (y<0))->Jf x y=bN x y):=by
 have e:=Nat.mod_add_div x.natAbs y.natAbs;have hlt:=Nat.mod_lt x.natAbs (show y.natAbs>0 by omega);have hle:=Nat.div_le_self x.natAbs y.natAbs;have e2:((x.natAbs%y.natAbs:Nat):Int)+((y.natAbs:Nat):Int)*((x.natAbs/y.natAbs:Nat):Int)=((x.natAbs:Nat):Int):=by exact_mod_cast e
 rw[MH];generalize hq:x.natAbs/y.natAbs=q at*;generalize hr:x.natAbs%y.natAbs=r at*;have hyq:((y.natAbs:Nat):Int)*(q:Int)=if y<0 then-(y*q) else y*q:=by
  split;·rw[show ((y.natAbs:Nat):Int)= -y by omega,Int.neg_mul]
  ·rw[show ((y.natAbs:Nat):Int)=y by omega]
 refine⟨by split<;>omega,fun hc=>?_,fun hc=>?_⟩
 ·have hc2:¬(x<0↔y<0):=fun h=>hc.2 (by rw[decide_eq_decide];exact h);rw[if_neg hc2];refine ke (fun hy=>?_) (fun hy=>?_) h0<;>rw[Int.mul_sub,Int.mul_one,Int.mul_neg];·rw[if_neg (by omega)] at hyq;omega
  ·rw[if_pos (by omega)] at hyq;omega
 ·have hc2:r≠0->(x<0↔y<0):=fun hm=>by rw[<- decide_eq_decide];exact hc hm
  refine ke (fun hy=>?_) (fun hy=>?_) h0
  ·(rw[if_neg (by omega)] at hyq;by_cases hs:(x<0↔y<0);·rw[if_pos hs];omega);·rw[if_neg hs,Int.mul_neg];have:r=0:=Decidable.byContradiction fun h=>hs (hc2 h);omega
  ·(rw[if_pos (by omega)] at hyq;by_cases hs:(x<0↔y<0);·rw[if_pos hs];omega);·rw[if_neg hs,Int.mul_neg];have:r=0:=Decidable.byContradiction fun h=>hs (hc2 h);omega
theorem MI(x y:Int):(D.limbs (D.valL (D.limbs x.natAbs)/D.valL (D.limbs y.natAbs)).toNat).length<=(D.limbs x.natAbs).length:=by
 have h1:=D.valL_lt (D.limbs_can x.natAbs).1;have h2:=D.valL_nonneg (D.limbs_can x.natAbs).1;have h3:=D.valL_nonneg (D.limbs_can y.natAbs).1;have h4:=Int.ediv_le_self (D.valL (D.limbs y.natAbs)) h2;have h5:=Int.ediv_nonneg h2 h3;exact D.lim_len h5 (by omega)
theorem MJ{v x:Int}{n:Nat}(h:v.natAbs<=x.natAbs)(hx:x.natAbs<10^n):v.natAbs<10^n:=Nat.lt_of_le_of_lt h hx
theorem pow_two{n:Nat}{u v:Nat}(hu:u<10^n)(hv:v<10^n):u+v<10^(n+1):=by rw[Nat.pow_succ];omega
theorem UE{a b:List UInt8}{n:Nat}(ha:RS n a)(h0:ah b≠0):RS (n+2) (Lib.itoa (Jf (ah a) (ah b)))/\RS (n+2) (Lib.itoa (bN (ah a) (ah b))):=
 ⟨(pk (MJ (tY h0).1 (nq ha)) (Nat.le_refl _)).1,(pk (MJ (nr h0).1 (nq ha)) (Nat.le_refl _)).1⟩
theorem UF{a b:List UInt8}{n:Nat}(ha:RS n a)(hb:RS n b)(h0:ah b≠0):RS (n+3) (Lib.itoa (bN (ah a) (ah b)*ah b)):=by
 have h1:=(nr (x:=ah a) h0).2;rw[Int.mul_comm] at h1;exact(pk (k:=n+1) (Nat.lt_of_le_of_lt h1 (pow_two (nq ha) (nq hb))) (by omega)).1
structure wF (g x y:Int):Prop where
 hg:ca x y=g
 hx:x.natAbs<1000000000
 hy:y.natAbs<1000000000
theorem MK{x y:Int}(ha: -1000000000<x/\x<1000000000)(hb: -1000000000<y/\y<1000000000):wF (ca x y) x y:=⟨rfl,by omega,by omega⟩
theorem AB(x y:Nat):Nat.gcd y (x%y)=Nat.gcd x y:=by
 rw[Nat.gcd_comm,<- Nat.gcd_rec,Nat.gcd_comm]
theorem QP{g x y:Int}(h:wF g x y)(hy:y≠0):wF g y (x.tmod y)/\(x.tmod y).natAbs<y.natAbs:=by
 have h1:(x.tmod y).natAbs=x.natAbs%y.natAbs:=Int.natAbs_tmod x y;have h2:=Nat.mod_lt x.natAbs (show y.natAbs>0 by omega);have h3:=h.hy;refine⟨⟨?_,h3,by omega⟩,by omega⟩;rw[<- h.hg];unfold ca;rw[h1,AB]
theorem Tq{g x:Int}(h:wF g x 0):IntKind.i64.wrap (-x)= -x/\I64 g/\((x.natAbs:Nat):Int)=g:=by
 have hx:=h.hx;have hg:=h.hg;unfold ca at hg;simp at hg;exact⟨wo,by unfold I64;omega,by omega⟩
structure AC (g:Int) (x y:List Int):Prop where
 hx:D.Cano x
 hy:D.Cano y
 hg:ca (D.valL x) (D.valL y)=g
 lx:x.length<=1000000000
 ly:y.length<=1000000000
theorem ML{a b:List UInt8}(ha:RS 1000000000 a)(hb:RS 1000000000 b):AC (ca (ah a) (ah b)) (D.limbs (ah a).natAbs) (D.limbs (ah b).natAbs):=by
 have la:=eF ha;have lb:=eF hb;refine⟨la.1,lb.1,?_,la.2,lb.2⟩;unfold ca;rw[D.limbs_val,D.limbs_val,Int.natAbs_natCast,Int.natAbs_natCast]
theorem QQ{g:Int}{x y:List Int}(h:AC g x y)(hy:(0:Int)<(y.length:Int)):AC g y (D.limbs (D.valL x%D.valL y).toNat)/\(D.valL (D.limbs (D.valL x%D.valL y).toNat)).natAbs<(D.valL y).natAbs:=by
 have hne:y≠[]:=by rintro rfl;simp at hy
 have hp:=(D.valL_pos h.hy).2 hne;have hx0:=D.valL_nonneg h.hx.1;have hm:=D.mod_bounds (x:=D.valL x) hp;have hv:(D.valL (D.limbs (D.valL x%D.valL y).toNat))=D.valL x%D.valL y:=by rw[D.limbs_val];omega
 have hl:=D.valL_lt h.hy.1;have hlen:(D.limbs (D.valL x%D.valL y).toNat).length<=y.length:=D.lim_len hm.1 (by omega);have hly:=h.ly;refine⟨⟨h.hy,D.limbs_can _,?_,h.ly,by omega⟩,by rw[hv];omega⟩;rw[<- h.hg];unfold ca;rw[hv,Int.natAbs_emod_of_nonneg hx0,AB]
theorem Tt{g:Int}{x y:List Int}(h:AC g x y)(hy:¬(0:Int)<(y.length:Int)):D.valL x=g:=by
 have hne:y=[]:=List.eq_nil_of_length_eq_zero (by omega);subst hne;have hx0:=D.valL_nonneg h.hx.1;have hg:=h.hg;unfold ca at hg;simp[D.valL] at hg;omega
theorem MM{g x:Int}(h:wF g x 0):I64 (max x (IntKind.i64.wrap (0-x)))/\max x (IntKind.i64.wrap (0-x))=g:=by
 have e:=Tq h;rw[show (0-x:Int)= -x by omega,e.1];have:=e.2.2;have e2:max x (-x)=g:=by omega
 rw[e2];exact⟨e.2.1,rfl⟩
theorem MN{s:List UInt8}{n:Nat}(h:s.length<=n)(hn:n<70368744177664):o8 s:=Nat.lt_of_le_of_lt h hn
def S3k(s:List UInt8):Prop:=s.length<=3000
theorem S3k.short{s:List UInt8}(h:S3k s):o8 s:=MN h (by decide)
theorem S3k.cap{s:List UInt8}(h:S3k s):s.length<CAP:=Nat.lt_of_le_of_lt h (by decide)
abbrev NT:Ty:= .st (.pair WT WT)
abbrev ND:=(Bool×List Int)×(Bool×List Int)
def bp(q:Rat):ND:=(enc q.num,enc (q.den:Int))
def bH(x:ND):Rat:=Rat.divInt (dec x.1) (dec x.2)
def NOK(x:ND):Prop:=bp (bH x)=x
def lw(n:Int):Nat:=(enc n).2.length
def lq(q:Rat):Nat:=max (lw q.num) (lw (q.den:Int))
def QC:Nat:=100000000000
theorem aP(q:Rat):bH (bp q)=q:=by
 simp only[bH,bp,bX];exact Rat.num_divInt_den q
theorem b9(q:Rat):NOK (bp q):=by simp only[NOK,aP]
theorem NOK.parts{x:ND}(h:NOK x):x.1=enc (bH x).num/\x.2=enc ((bH x).den:Int):=by
 have:=h.symm;exact⟨congrArg Prod.fst this,congrArg Prod.snd this⟩
theorem NOK.w1{x:ND}(h:NOK x):WOK x.1:=by rw[h.parts.1];exact enc_ok _
theorem NOK.w2{x:ND}(h:NOK x):WOK x.2:=by rw[h.parts.2];exact enc_ok _
theorem NOK.d1{x:ND}(h:NOK x):dec x.1=(bH x).num:=by rw[h.parts.1,bX]
theorem NOK.d2{x:ND}(h:NOK x):dec x.2=((bH x).den:Int):=by rw[h.parts.2,bX]
theorem NOK.pos{x:ND}(h:NOK x):0<dec x.2:=by rw[h.d2];have:=(bH x).den_pos;omega
theorem NOK.l1{x:ND}(h:NOK x):x.1.2.length<=lq (bH x):=by rw[h.parts.1];exact Nat.le_max_left _ _
theorem NOK.l2{x:ND}(h:NOK x):x.2.2.length<=lq (bH x):=by rw[h.parts.2];exact Nat.le_max_right _ _
theorem WOK.lw{x:Bool×List Int}(h:WOK x):x.2.length=lw (dec x):=by unfold Cm.lw;rw[h.enc]
theorem rE(n:Int):(n.natAbs:Int)<LB^lw n:=tP n (Nat.le_refl _)
theorem jG{n:Int}{k:Nat}(h:(n.natAbs:Int)<LB^k):lw n<=k:=limbs_len h
theorem gH{a b:Int}(h:a.natAbs<=b.natAbs):lw a<=lw b:=jG (by have:=rE b;omega)
theorem MO(a:Int):lw (-a)=lw a:=by unfold lw enc;rw[Int.natAbs_neg]
theorem eT:lw 0=0:=by
 have:lw 0<=0:=jG (by simp);omega
theorem kv:lw 1=1:=by
 have h1:lw 1<=1:=jG (by simp[LB]);have h2:lw 1≠0:=fun h=>by have:=rE 1;rw[h] at this;simp at this
 omega
theorem bV(a b:Int):lw (a*b)<=lw a+lw b:=by
 refine jG ?_;have h1:=rE a;have h2:=rE b;rw[Int.natAbs_mul,Int.natCast_mul,Int.pow_add];have h5:(a.natAbs:Int)*(b.natAbs:Int)<=(a.natAbs:Int)*LB^lw b:=Int.mul_le_mul_of_nonneg_left (by omega) (by omega);have h6:(a.natAbs:Int)*LB^lw b<LB^lw a*LB^lw b:=Int.mul_lt_mul_of_pos_right h1 (lbpos _);omega
theorem tZ(a b:Int):lw (a+b)<=max (lw a) (lw b)+1:=by
 have h1:=tP a (k:=max (lw a) (lw b)) (Nat.le_max_left _ _);have h2:=tP b (k:=max (lw a) (lw b)) (Nat.le_max_right _ _);refine jG ?_;have h3:LB^(max (lw a) (lw b)+1)=LB^max (lw a) (lw b)*LB:=Int.pow_succ _ _;have h4:LB^max (lw a) (lw b)*2<=LB^max (lw a) (lw b)*LB:=Int.mul_le_mul_of_nonneg_left (by decide) (Int.le_of_lt (lbpos _));omega
theorem Dl{n:Int}(h:I64 n):lw n<=3:=(nn h).2.2
theorem dW(q:Rat):lw q.num<=lq q:=Nat.le_max_left _ _
theorem dX(q:Rat):lw (q.den:Int)<=lq q:=Nat.le_max_right _ _
theorem kx(n d:Int)(hd:d≠0):lq (Rat.divInt n d)<=max (lw n) (lw d):=by
 have hg:0<Int.gcd d n:=Int.gcd_pos_of_ne_zero_left n hd;refine Nat.max_le.2 ⟨Nat.le_trans (gH ?_) (Nat.le_max_left _ _),Nat.le_trans (gH ?_) (Nat.le_max_right _ _)⟩
 ·rw[Rat.num_divInt,Int.natAbs_ediv_of_dvd (Int.dvd_trans (Int.gcd_dvd_right ..) (Int.dvd_mul_left _ _)),Int.natAbs_mul];rw[Int.natAbs_natCast];have:d.sign.natAbs=1:=by rw[Int.natAbs_sign,if_neg hd]
  rw[this,Nat.one_mul];exact Nat.div_le_self _ _
 ·rw[Rat.den_divInt,if_neg hd,Int.natAbs_natCast];exact Nat.div_le_self _ _
theorem ot(x y:Rat):x+y=Rat.divInt (x.num*y.den+y.num*x.den) (x.den*y.den):=by
 have hx:(x.den:Int)≠0:=by have:=x.den_pos;omega
 have hy:(y.den:Int)≠0:=by have:=y.den_pos;omega
 conv=>lhs;rw[<- Rat.num_divInt_den x,<- Rat.num_divInt_den y]
 rw[Rat.divInt_add_divInt _ _ hx hy]
theorem ou(x y:Rat):x*y=Rat.divInt (x.num*y.num) (x.den*y.den):=by
 conv=>lhs;rw[<- Rat.num_divInt_den x,<- Rat.num_divInt_den y]
 rw[Rat.divInt_mul_divInt]
theorem ua(x y:Rat):x/y=Rat.divInt (x.num*y.den) (x.den*y.num):=by
 rw[Rat.div_def,Rat.inv_def];conv=>lhs;arg 1;rw[<- Rat.num_divInt_den x]
 rw[Rat.divInt_mul_divInt]
theorem ff(x:Rat):(x.den:Int)≠0:=by have:=x.den_pos;omega
theorem uc{x:Rat}(h:x≠0):x.num≠0:=fun e=>h (Rat.num_eq_zero.1 e)
theorem qC(x y:Rat):lq (x+y)<=lq x+lq y+1:=by
 rw[ot];refine Nat.le_trans (kx _ _ (Int.mul_ne_zero (ff x) (ff y))) ?_;have h1:=tZ (x.num*y.den) (y.num*x.den);have h2:=bV x.num y.den;have h3:=bV y.num x.den;have h4:=bV x.den y.den;have:=dW x;have:=dW y;have:=dX x;have:=dX y;omega
theorem ud(x:Rat):lq (-x)=lq x:=by unfold lq;rw[Rat.neg_num,Rat.neg_den,MO]
theorem Tu(x y:Rat):lq (x-y)<=lq x+lq y+1:=by
 rw[Rat.sub_eq_add_neg];have:=qC x (-y);rw[ud] at this;exact this
theorem lD(x y:Rat):lq (x*y)<=lq x+lq y:=by
 rw[ou];refine Nat.le_trans (kx _ _ (Int.mul_ne_zero (ff x) (ff y))) ?_;have h2:=bV x.num y.num;have h4:=bV x.den y.den;have:=dW x;have:=dW y;have:=dX x;have:=dX y;omega
theorem ov(x y:Rat):lq (x/y)<=lq x+lq y:=by
 by_cases hy:y=0
 ·subst hy;rw[Rat.div_def,Rat.inv_zero,Rat.mul_zero];have:lq 0<=1:=by unfold lq;rw[show (0:Rat).num=0 from rfl,show (0:Rat).den=1 from rfl,eT];show max 0 (lw 1)<=1;rw[kv];decide
  have h1:1<=lq x:=by
   have:=dX x;(have h2:lw (x.den:Int)≠0:=fun h=>by have:=rE (x.den:Int);rw[h] at this;have:=x.den_pos;simp at*;omega);omega
  omega
 rw[ua];refine Nat.le_trans (kx _ _ (Int.mul_ne_zero (ff x) (uc hy))) ?_;have h2:=bV x.num y.den;have h4:=bV x.den y.num;have:=dW x;have:=dW y;have:=dX x;have:=dX y;omega
def dY(n d:Int):Int:=if d<0 then-ca n d else ca n d
theorem ue{n d:Int}(hd:d≠0):0<ca n d:=by
 unfold ca;have:0<Nat.gcd n.natAbs d.natAbs:=Nat.gcd_pos_of_pos_right _ (by omega);omega
theorem po{n d:Int}(hd:d≠0):(ca n d).natAbs<=d.natAbs:=by
 unfold ca;exact Nat.le_of_dvd (by omega) (Nat.gcd_dvd_right _ _)
theorem mw(n d:Int):(Int.gcd d n:Int)=ca n d:=by
 unfold ca Int.gcd;rw[Nat.gcd_comm]
theorem ow{n d:Int}(hd:d≠0):bp (Rat.divInt n d)=(enc (bN n (dY n d)),enc (bN d (dY n d))):=by
 have hg:=ue (n:=n) hd;have hdv:(ca n d)∣d:=by rw[<- mw];exact Int.gcd_dvd_left ..
 have hnv:(ca n d)∣n:=by rw[<- mw];exact Int.gcd_dvd_right ..
 unfold bp;rw[Rat.num_divInt,Rat.den_divInt,if_neg hd,mw];have hden:((d.natAbs/Int.gcd d n:Nat):Int)=(d.natAbs:Int)/ca n d:=by rw[<- mw,Int.natCast_ediv]
 rw[hden];unfold dY bN;by_cases hn:d<0
 ·rw[if_pos hn,if_neg (by omega),if_neg (by omega),Int.neg_neg,Int.sign_eq_neg_one_of_neg hn];have:(d.natAbs:Int)= -d:=by omega
  rw[this];congr 2;rw[Int.neg_one_mul]
 ·rw[if_neg hn,if_pos hg,if_pos hg,Int.sign_eq_one_of_pos (by omega),Int.one_mul];have:(d.natAbs:Int)=d:=by omega
  rw[this]
theorem uf(n:Int):bN n 1=n:=by unfold bN;simp
theorem AD{n d:Int}(hd:d≠0)(h:dY n d=1):bp (Rat.divInt n d)=(enc n,enc d):=by
 rw[ow hd,h,uf,uf]
theorem Dm{g:Int}(h1:¬1<(enc g).2.length)(h2:(enc g).1=false)(h3:(enc g).2.getD 0 0=1):g=1:=by
 have hw:=enc_ok g;have hne:(enc g).2≠[]:=by intro e;rw[e] at h3;simp at h3
 obtain⟨a,ha⟩:∃a,(enc g).2=[a]:=by
  match h:(enc g).2,h1,hne with
  | [a],_,_=>exact⟨a,rfl⟩
  |a::b::l,h1,_=>simp at h1
 rw[ha] at h3;simp at h3;have:=bX g;rw[show enc g=(false,[1]) from Prod.ext h2 (by rw[ha,h3])] at this;rw[<- this];simp[dec,valL]
theorem pe(x:Bool×List Int):(x.1,x.2)=x:=rfl
theorem FH{d:Bool×List Int}(h:WOK d):d.1=decide (dec d<0):=congrArg Prod.fst h.enc.symm
def iZ(n d:Bool×List Int):Prop:=WOK n/\WOK d/\dec d≠0/\n.2.length+d.2.length<=4*QC
theorem mz{n d:Int}(hd:d≠0):(dY n d).natAbs<=d.natAbs/\dY n d≠0:=by
 have h1:=po (n:=n) hd;have h2:=ue (n:=n) hd;unfold dY;split<;>omega
theorem UG{n d:Bool×List Int}(h:iZ n d)(hb:d.1=true): -ca (dec n) (dec d)=dY (dec n) (dec d):=by
 rw[FH h.2.1,decide_eq_true_eq] at hb;unfold dY;rw[if_pos hb]
theorem UH{n d:Bool×List Int}(h:iZ n d)(hb:d.1=false):ca (dec n) (dec d)=dY (dec n) (dec d):=by
 rw[FH h.2.1,decide_eq_false_iff_not] at hb;unfold dY;rw[if_neg hb]
theorem Tv{n d:Bool×List Int}(h:iZ n d):qw n d:=by
 obtain⟨h1,h2,h3,h4⟩:=h;refine⟨h1,h2,?_⟩;unfold QC at h4;unfold CAP;omega
theorem MP{n d:Bool×List Int}(h:iZ n d):lw (ca (dec n) (dec d))<=d.2.length/\lw (dY (dec n) (dec d))<=d.2.length:=by
 obtain⟨h1,h2,h3,h4⟩:=h;rw[h2.lw];exact⟨gH (po h3),gH (mz h3).1⟩
theorem Tw{n d:Bool×List Int}(h:iZ n d):Lim (enc (ca (dec n) (dec d))).2/\(enc (ca (dec n) (dec d))).2.length<CAP:=by
 refine⟨(enc_ok _).1.1,?_⟩;have h1:=(MP h).1;have h4:=h.2.2.2;unfold lw at h1;unfold QC at h4;unfold CAP;omega
theorem mk_pos{n d:Bool×List Int}(h:iZ n d):(0:Int)<((enc (dY (dec n) (dec d))).2.length:Int):=by
 have h1:=(gC (enc_ok (dY (dec n) (dec d)))).1;rw[bX] at h1;have h2:=(mz (n:=dec n) h.2.2.1).2;have:=mt h1.1 h2;omega
theorem MQ{n d:Bool×List Int}(h:iZ n d):qv n (enc (dY (dec n) (dec d)))/\qv d (enc (dY (dec n) (dec d))):=by
 have h1:=(MP h).2;have h2:=(mz (n:=dec n) h.2.2.1).2;obtain⟨h3,h4,h5,h6⟩:=h;unfold lw at h1;unfold QC at h6;exact⟨⟨h3,enc_ok _,by rw[bX];exact h2,by unfold CAP;omega⟩,⟨h4,enc_ok _,by rw[bX];exact h2,by unfold CAP;omega⟩⟩
theorem Tx{n d:Bool×List Int}(h:iZ n d)(hb:(decide ((1:Int)<((enc (dY (dec n) (dec d))).2.length:Int))||(enc (dY (dec n) (dec d))).1||nth (.int .u32) (enc (dY (dec n) (dec d))).2 0 !=1)=false):(n,d)=bp (Rat.divInt (dec n) (dec d)):=by
 simp only[Bool.or_eq_false_iff,decide_eq_false_iff_not,bne_eq_false_iff_eq] at hb;obtain⟨⟨h1,h2⟩,h3⟩:=hb;have:=Dm (by omega) h2 h3;rw[AD h.2.2.1 this,h.1.enc,h.2.1.enc]
def iq(x y:ND):Prop:=NOK x/\NOK y/\lq (bH x)+lq (bH y)<=QC
theorem lwl(a:Int):(enc a).2.length=lw a:=rfl
theorem NOK.ex{x:ND}(h:NOK x):∃q,x=bp q:=⟨bH x,h.symm⟩
theorem pe2(x:ND):((x.1.1,x.1.2),x.2.1,x.2.2)=x:=rfl
theorem ug:4*QC+4<CAP:=by unfold QC CAP;decide
theorem Jg{x y:ND}(h:iq x y):(WOK x.1/\WOK y.2/\List.length x.1.2+List.length y.2.2<CAP)/\
  (WOK y.1/\WOK x.2/\List.length y.1.2+List.length x.2.2<CAP)/\
   (WOK (enc (dec x.1*dec y.2))/\WOK (enc (dec y.1*dec x.2))/\List.length (enc (dec x.1*dec y.2)).2+List.length (enc (dec y.1*dec x.2)).2<CAP)/\
    (WOK x.2/\WOK y.2/\List.length x.2.2+List.length y.2.2<CAP)/\
     iZ (enc (dec (enc (dec x.1*dec y.2))+dec (enc (dec y.1*dec x.2)))) (enc (dec x.2*dec y.2)):=by
 obtain⟨h1,h2,h3⟩:=h;obtain⟨p,rfl⟩:=h1.ex;obtain⟨q,rfl⟩:=h2.ex;rw[aP,aP] at h3;simp only[bp,iZ,bX,lwl];have a1:=dW p;have a2:=dX p;have a3:=dW q;have a4:=dX q;have m1:=bV p.num q.den;have m2:=bV q.num p.den;have m3:=bV p.den q.den;have m4:=tZ (p.num*q.den) (q.num*p.den);have hc:=ug;refine⟨⟨enc_ok _,enc_ok _,by omega⟩,⟨enc_ok _,enc_ok _,by omega⟩,⟨enc_ok _,enc_ok _,by omega⟩,⟨enc_ok _,enc_ok _,by omega⟩,enc_ok _,enc_ok _,Int.mul_ne_zero (ff p) (ff q),?_⟩;have:QC=100000000000:=rfl;omega
theorem MR{x y:ND}(h:iq x y):bp (Rat.divInt (dec (enc (dec (enc (dec x.1*dec y.2))+dec (enc (dec y.1*dec x.2))))) (dec (enc (dec x.2*dec y.2))))=bp (bH x+bH y):=by
 obtain⟨h1,h2,h3⟩:=h;simp only[bX,h1.d1,h1.d2,h2.d1,h2.d2];rw[ot]
theorem Jh{x:ND}(h:NOK x/\lq (bH x)<=QC):Lim x.1.2/\List.length x.1.2<CAP:=
 ⟨h.1.w1.1.1,by have:=h.1.l1;have:=h.2;have:=ug;omega⟩
theorem MS{x:ND}(h:NOK x):((enc (-dec x.1)),x.2)=bp (-bH x):=by
 obtain⟨p,rfl⟩:=h.ex;rw[aP];simp only[bp,bX,Rat.neg_num,Rat.neg_den]
theorem Ji{x y:ND}(h:iq x y):(NOK y/\lq (bH y)<=QC)/\iq x (bp (-bH y)):=by
 obtain⟨h1,h2,h3⟩:=h;exact⟨⟨h2,by omega⟩,h1,b9 _,by rw[aP,ud];exact h3⟩
theorem MT(x y:ND):bp (bH x+bH (bp (-bH y)))=bp (bH x-bH y):=by
 rw[aP,Rat.sub_eq_add_neg]
theorem Jj{x y:ND}(h:iq x y):(WOK x.1/\WOK y.1/\List.length x.1.2+List.length y.1.2<CAP)/\
  (WOK x.2/\WOK y.2/\List.length x.2.2+List.length y.2.2<CAP)/\iZ (enc (dec x.1*dec y.1)) (enc (dec x.2*dec y.2)):=by
 obtain⟨h1,h2,h3⟩:=h;obtain⟨p,rfl⟩:=h1.ex;obtain⟨q,rfl⟩:=h2.ex;rw[aP,aP] at h3;simp only[bp,iZ,bX,lwl];have a1:=dW p;have a2:=dX p;have a3:=dW q;have a4:=dX q;have m1:=bV p.num q.num;have m3:=bV p.den q.den;have hc:=ug;exact⟨⟨enc_ok _,enc_ok _,by omega⟩,⟨enc_ok _,enc_ok _,by omega⟩,enc_ok _,enc_ok _,Int.mul_ne_zero (ff p) (ff q),by omega⟩
theorem MU{x y:ND}(h:iq x y):bp (Rat.divInt (dec (enc (dec x.1*dec y.1))) (dec (enc (dec x.2*dec y.2))))=bp (bH x*bH y):=by
 obtain⟨h1,h2,h3⟩:=h;simp only[bX,h1.d1,h1.d2,h2.d1,h2.d2];rw[ou]
theorem Jk{x y:ND}(h:iq x y/\bH y≠0):(WOK x.1/\WOK y.2/\List.length x.1.2+List.length y.2.2<CAP)/\
  (WOK x.2/\WOK y.1/\List.length x.2.2+List.length y.1.2<CAP)/\iZ (enc (dec x.1*dec y.2)) (enc (dec x.2*dec y.1)):=by
 obtain⟨⟨h1,h2,h3⟩,h0⟩:=h;obtain⟨p,rfl⟩:=h1.ex;obtain⟨q,rfl⟩:=h2.ex;rw[aP,aP] at h3;rw[aP] at h0;simp only[bp,iZ,bX,lwl];have a1:=dW p;have a2:=dX p;have a3:=dW q;have a4:=dX q;have m1:=bV p.num q.den;have m3:=bV p.den q.num;have hc:=ug;exact⟨⟨enc_ok _,enc_ok _,by omega⟩,⟨enc_ok _,enc_ok _,by omega⟩,enc_ok _,enc_ok _,Int.mul_ne_zero (ff p) (uc h0),by omega⟩
theorem MV{x y:ND}(h:iq x y):bp (Rat.divInt (dec (enc (dec x.1*dec y.2))) (dec (enc (dec x.2*dec y.1))))=bp (bH x/bH y):=by
 obtain⟨h1,h2,h3⟩:=h;simp only[bX,h1.d1,h1.d2,h2.d1,h2.d2];rw[ua]
theorem MW{n d:Int}(h:I64 n/\I64 d/\d≠0):I64 n/\I64 d/\iZ (enc n) (enc d):=by
 refine⟨h.1,h.2.1,enc_ok _,enc_ok _,by rw[bX];exact h.2.2,?_⟩;have:=(nn h.1).2.2;have:=(nn h.2.1).2.2;unfold QC;omega
theorem QR(n d:Int):bp (Rat.divInt (dec (enc n)) (dec (enc d)))=bp (Rat.divInt n d):=by rw[bX,bX]
theorem zero_divInt:Rat.divInt 0 1=0:=by decide
theorem MX{n:Nat}(h:0<n):((limbs n).length=1/\(limbs n).getD 0 0=1)↔n=1:=by
 constructor
 ·rintro⟨h1,h2⟩;match hl:limbs n,h1 with
  | [a],_=>
   rw[hl] at h2;simp at h2;have:=limbs_val n;rw[hl,h2] at this;simp[valL] at this;omega
 ·rintro rfl;have:limbs 1=[1]:=by decide+kernel
  rw[this];simp
theorem Dn{x:ND}(h:NOK x):(((List.length x.2.2:Int)==1)&&(nth (.int .u32) x.2.2 0==1))=decide ((bH x).den=1):=by
 obtain⟨p,rfl⟩:=h.ex;rw[aP];have h1:=MX p.den_pos;rw[Bool.eq_iff_iff,Bool.and_eq_true,decide_eq_true_eq,<- h1];have e:(bp p).2.2=limbs p.den:=by show limbs ((p.den:Int).natAbs)=_;rw[Int.natAbs_natCast]
 rw[e];constructor;·rintro⟨h2,h3⟩;simp only[beq_iff_eq] at h2;have h4:=beq_iff_eq.1 h3;exact⟨by omega,h4⟩
 ·rintro⟨h2,h3⟩;refine⟨by simp only[beq_iff_eq];omega,?_⟩;rw[beq_iff_eq];exact h3
theorem lE{x:ND}(h:NOK x/\lq (bH x)<=QC):(WOK x.1/\List.length x.1.2<CAP)/\(WOK x.2/\List.length x.2.2<CAP):=by
 have:=h.1.l1;have:=h.1.l2;have:=h.2;have:=ug;exact⟨⟨h.1.w1,by omega⟩,h.1.w2,by omega⟩
theorem Jl{x:ND}(k:Int)(h:NOK x):(decide (cr (dec x.1)<=k)&&decide (cr (dec x.2)<=k))=decide (cr (bH x).num<=k/\cr ((bH x).den:Int)<=k):=by
 rw[h.d1,h.d2,Bool.decide_and]
def aG(q:Rat):List UInt8:=if q.den=1 then Lib.itoa q.num else Lib.itoa q.num++ [47]++Lib.itoa (q.den:Int)
theorem fO(n:Int):(Lib.itoa n).length<=9*lw n+2:=by
 have h1:=rE n;rw[Qv] at h1;have h2:=yt (a:=n.natAbs) (k:=9*lw n) (by omega);have h3:(Lib.itoa n).length<=(Lib.decDigits n.natAbs).length+1:=by
  unfold Lib.itoa;split
  ·(have:(-n).toNat=n.natAbs:=by omega);simp[this]
  ·(have:n.toNat=n.natAbs:=by omega);simp[this]
 omega
theorem AE{x:ND}(h:NOK x/\lq (bH x)<=QC):WOK x.1/\List.length x.1.2<CAP:=(lE h).1
theorem AF{x:ND}(h:NOK x/\lq (bH x)<=QC):(WOK x.1/\List.length x.1.2<CAP)/\(Lib.itoa (dec x.1)).length+1<=maxLen/\(WOK x.2/\List.length x.2.2<CAP)/\(Lib.itoa (dec x.1)++ [47]).length+(Lib.itoa (dec x.2)).length<=maxLen:=by
 obtain⟨h1,h2⟩:=lE h;have e1:=fO (dec x.1);have e2:=fO (dec x.2);have e3:=h.1.l1;have e4:=h.1.l2;have e5:=h.2;rw[h1.1.lw] at e3;rw[h2.1.lw] at e4;have e6:QC=100000000000:=rfl;have e7:maxLen=9223372036854775807:=rfl;refine⟨h1,by omega,h2,?_⟩;simp only[List.length_append,List.length_cons,List.length_nil];omega
theorem Jm{x:ND}(h:NOK x)(hb:(bH x).den=1):Lib.itoa (dec x.1)=aG (bH x):=by
 unfold aG;rw[if_pos hb,h.d1]
theorem Jn{x:ND}(h:NOK x)(hb:¬(bH x).den=1):Lib.itoa (dec x.1)++ [47]++Lib.itoa (dec x.2)=aG (bH x):=by
 unfold aG;rw[if_neg hb,h.d1,h.d2]
def tN(q:List UInt8):List UInt8:=q.takeWhile (· !=47)
def bK(q:List UInt8):Bool:=q.any (· ==47)
def tR(q:List UInt8):List UInt8:=q.drop ((tN q).length+1)
def tD(q:List UInt8):List UInt8:=if bK q=true then tR q else [49]
theorem rF:∀q:List UInt8,Lib.index q [47]=if bK q=true then ((tN q).length:Int) else-1
 | []=>by simp[Lib.index,bK]
 |b::l=>by
  have ih:=rF l;unfold Lib.index;by_cases hb:b=47;·subst hb;simp[bK,tN]
  ·(have h1: [47].isPrefixOf (b::l)=false:=by simp[List.isPrefixOf,Ne.symm hb]);(have h2:bK (b::l)=bK l:=by simp[bK,hb]);(have h3:(tN (b::l)).length=(tN l).length+1:=by simp[tN,hb]);rw[h1,ih,h2,h3];cases hs:bK l;·simp
   ·simp only[if_true,Bool.false_eq_true,if_false];rw[if_neg (by intro e;have:=beq_iff_eq.1 e;omega)];omega
theorem uh{q:List UInt8}(h:bK q=false):tN q=q:=by
 unfold tN;induction q with
 |nil=>rfl
 |cons c l ih=>
  simp only[bK,List.any_cons,Bool.or_eq_false_iff,beq_eq_false_iff_ne] at h;rw[List.takeWhile_cons,if_pos (by simp[h.1]),ih h.2]
theorem Jo(q:List UInt8):Lib.cut q [47]=(tN q,if bK q=true then tR q else [],bK q):=by
 unfold Lib.cut;rw[rF];cases hs:bK q;·rw[uh hs];simp
 ·simp only[if_true];rw[if_pos (by omega),Int.toNat_natCast];have:q.take (tN q).length=tN q:=by
   unfold tN;exact(List.prefix_iff_eq_take.1 (List.takeWhile_prefix _)).symm
  rw[this];rfl
theorem mA(q:List UInt8):(tN q).length<=q.length:=(List.takeWhile_prefix _).length_le
theorem Tz(q:List UInt8):(tR q).length<=q.length:=by unfold tR;simp
theorem mB(q:List UInt8):(tD q).length<=q.length+1:=by
 unfold tD;split;·have:=Tz q;omega
 ·simp
def QL:Nat:=1000000000
def eG(q:List UInt8):Prop:=RF (tN q)/\RF (tD q)/\q.length<=QL
def iK(q:List UInt8):ND:=(enc (ah (tN q)),enc (ah (tD q)))
def ck(q:List UInt8):Int:=
 if chk (tN q)=5∨chk (tD q)=5 then 5
 else if bK q=true/\(ah (tD q)<=1∨ca (ah (tN q)) (ah (tD q))≠1) then 5
 else if 2000<cr (ah (tN q))∨2000<cr (ah (tD q)) then 6 else 0
def aU(q:List UInt8):Rat:=Rat.divInt (ah (tN q)) (ah (tD q))
def RQ(q:List UInt8):Prop:=ck q≠5/\q.length<=QL
theorem RQ.form{q:List UInt8}(h:RQ q):eG q:=by
 have h1:=h.1;unfold ck at h1;split at h1;·exact absurd rfl h1
 ·rename_i h2;exact⟨fun e=>h2 (.inl e),fun e=>h2 (.inr e),h.2⟩
theorem ns:ah [49]=1:=by decide
theorem RQ.red{q:List UInt8}(h:RQ q):0<ah (tD q)/\ca (ah (tN q)) (ah (tD q))=1:=by
 have h1:=h.1;unfold ck at h1;split at h1;·exact absurd rfl h1
 ·split at h1;·exact absurd rfl h1
  ·rename_i h2 h3;cases hs:bK q
   ·(have:tD q=[49]:=by unfold tD;rw[hs];rfl);rw[this,ns];exact⟨by decide,by unfold ca;simp⟩
   ·rw[hs] at h3;have h4:¬ah (tD q)<=1:=fun e=>h3 ⟨rfl,.inl e⟩;have h5:ca (ah (tN q)) (ah (tD q))=1:=Decidable.not_not.1 fun e=>h3 ⟨rfl,.inr e⟩;exact⟨by omega,h5⟩
theorem RQ.raw{q:List UInt8}(h:RQ q):iK q=bp (aU q):=by
 obtain⟨h1,h2⟩:=h.red;unfold iK aU;have hd:ah (tD q)≠0:=by omega
 rw[AD hd];unfold dY;rw[if_neg (by omega),h2]
theorem RQ.parts{q:List UInt8}(h:RQ q):(aU q).num=ah (tN q)/\((aU q).den:Int)=ah (tD q):=by
 have h1:=h.raw;unfold iK bp at h1;have h2:=congrArg (fun x:ND=>dec x.1) h1;have h3:=congrArg (fun x:ND=>dec x.2) h1;simp only[bX] at h2 h3;exact⟨h2.symm,h3.symm⟩
theorem Do{s:List UInt8}(h:RF s):lw (ah s)<=s.length:=by
 obtain⟨h1,_,_⟩:=jg h;refine jG ?_;rw[ju];have h2:=fE h1;have h3:(10:Nat)^(ar s [45]).length<=10^s.length:=Nat.pow_le_pow_right (by omega) (fF s _);have h4:(10:Nat)^s.length<=1000000000^s.length:=Nat.pow_le_pow_left (by omega) _;have h5:(LB^s.length:Int)=((1000000000^s.length:Nat):Int):=by rw[Int.natCast_pow];rfl
 rw[h5];omega
theorem eG.lens{q:List UInt8}(h:eG q):lw (ah (tN q))<=QL/\lw (ah (tD q))<=QL+1:=by
 have h1:=Do h.1;have h2:=Do h.2.1;have h3:=mA q;have h4:=mB q;have h5:=h.2.2;omega
def mC(q:List UInt8):ND×Int:=if ck q=0 then (bp (aU q),0) else (((false,[]),(false,[])),ck q)
theorem QS{a:Int}:bg a 1<=0↔a<=1:=by
 unfold bg;split;·constructor<;>omega
 ·split;·constructor<;>omega
  ·constructor<;>omega
theorem MY{a b:Int}:bg a b≠0↔a≠b:=by
 unfold bg;split;·constructor<;>omega
 ·split;·constructor<;>omega
  ·constructor<;>omega
theorem wG{D:List UInt8}{r:Nat}(hr:0<(D.length:Int)-9*(r:Int))(hl:D.length<1000000000000):
  IntKind.i64.wrap ((D.length:Int)-9*(r:Int)-9)=(D.length:Int)-9*(r:Int)-9/\Int.toNat (max 0 ((D.length:Int)-9*(r:Int)-9))=D.length-9*(r+1)/\Int.toNat ((D.length:Int)-9*(r:Int))=D.length-9*r:=
 ⟨wo,by omega,by omega⟩
theorem mD{q:List UInt8}(h:bK q=true):(if bK q=true then tR q else [])=tD q:=by unfold tD;rw[if_pos h,if_pos h]
theorem yu{q:List UInt8}(h:bK q=false): [49]=tD q:=by unfold tD;rw[if_neg (by rw[h];decide)]
theorem qD{q:List UInt8}(h:eG q):q.length<4294967281/\(RF (tN q)/\(tN q).length<CAP)/\(RF (tD q)/\(tD q).length<CAP):=by
 obtain⟨h1,h2,h3⟩:=h;have h4:=mA q;have h5:=mB q;have e1:QL=1000000000:=rfl;have e2:CAP=1000000000000:=rfl;exact⟨by omega,⟨h1,by omega⟩,h2,by omega⟩
theorem MZ{q:List UInt8}(h:bK q=false):(((enc (ah (tN q))).1,(enc (ah (tN q))).2),(enc 1).1,(enc 1).2)=iK q:=by
 unfold iK;rw[<- yu h,ns]
theorem M0{q:List UInt8}(h:q.length<=QL):o8 (tN q)/\o8 (tD q):=by
 have h4:=mA q;have h5:=mB q;have e1:QL=1000000000:=rfl;unfold o8;exact⟨by omega,by omega⟩
theorem lone:(enc 1).2.length=1:=kv
theorem UI{q:List UInt8}(h:eG q):List.length (enc (ah (tD q))).2+List.length (enc 1).2<CAP:=by
 have:=h.lens;have e1:QL=1000000000:=rfl;have e2:CAP=1000000000000:=rfl;rw[lwl,lone];omega
theorem TA{q:List UInt8}(h:eG q):qw (enc (ah (tN q))) (enc (ah (tD q))):=by
 have:=h.lens;have e1:QL=1000000000:=rfl;refine⟨enc_ok _,enc_ok _,?_⟩;rw[lwl,lwl];unfold CAP;omega
theorem UJ{q:List UInt8}(h:eG q):List.length (enc (ca (ah (tN q)) (ah (tD q)))).2+List.length (enc 1).2<CAP:=by
 have h1:=h.lens;have e1:QL=1000000000:=rfl;have e2:CAP=1000000000000:=rfl;rw[lwl,lone];have h2:lw (ca (ah (tN q)) (ah (tD q)))<=lw (ah (tN q))+lw (ah (tD q)):=by
  by_cases hd:ah (tD q)=0
  ·(have:ca (ah (tN q)) (ah (tD q))=((ah (tN q)).natAbs:Int):=by unfold ca;rw[hd];simp);rw[this];have:=gH (a:=((ah (tN q)).natAbs:Int)) (b:=ah (tN q)) (by simp);omega
  ·have:=gH (po (n:=ah (tN q)) hd);omega
 omega
theorem QT{q:List UInt8}(h:q.length<=QL)(hb:(chk (tN q)==5||chk (tD q)==5)=false):eG q:=by
 simp only[Bool.or_eq_false_iff,beq_eq_false_iff_ne] at hb;exact⟨hb.1,hb.2,h⟩
theorem QU{q:List UInt8}(hb:(chk (tN q)==5||chk (tD q)==5)=true):((((false,[]),false,[]),5):ND×Int)=mC q:=by
 simp only[Bool.or_eq_true,beq_iff_eq] at hb;have:ck q=5:=by unfold ck;rw[if_pos hb]
 unfold mC;rw[this];rfl
theorem eG.not{q:List UInt8}(h:eG q):¬(chk (tN q)=5∨chk (tD q)=5):=fun e=>e.elim h.1 h.2.1
theorem FI(q:List UInt8):(decide (bg (ah (tD q)) 1<=0)||bg (ca (ah (tN q)) (ah (tD q))) 1 !=0)=true↔(ah (tD q)<=1∨ca (ah (tN q)) (ah (tD q))≠1):=by
 rw[Bool.or_eq_true,decide_eq_true_eq,bne_iff_ne,QS,MY]
theorem QV{q:List UInt8}(h:eG q)(hb:bK q=true/\(decide (bg (ah (tD q)) 1<=0)||bg (ca (ah (tN q)) (ah (tD q))) 1 !=0)=true):((((false,[]),false,[]),5):ND×Int)=mC q:=by
 rw[FI] at hb;have:ck q=5:=by unfold ck;rw[if_neg h.not,if_pos hb]
 unfold mC;rw[this];rfl
theorem UK{q:List UInt8}(h:eG q)(hb:bK q=true->(decide (bg (ah (tD q)) 1<=0)||bg (ca (ah (tN q)) (ah (tD q))) 1 !=0)=false):RQ q:=by
 refine⟨?_,h.2.2⟩;unfold ck;rw[if_neg h.not,if_neg (fun e=>by have:=hb e.1;rw[(FI q).2 e.2] at this;cases this)];split<;>decide
theorem TC{q:List UInt8}(h:RQ q):lq (aU q)<=QC:=by
 have h1:=h.form.lens;have h2:=h.parts;unfold lq;rw[h2.1,h2.2];have e1:QL=1000000000:=rfl;have e2:QC=100000000000:=rfl;omega
theorem Dp{q:List UInt8}(h:RQ q):bH (iK q)=aU q:=by rw[h.raw,aP]
theorem QW{q:List UInt8}(h:RQ q):NOK (iK q)/\lq (bH (iK q))<=QC:=by
 rw[Dp h,h.raw];exact⟨b9 _,TC h⟩
theorem RQ.chk{q:List UInt8}(h:RQ q):ck q=if 2000<cr (ah (tN q))∨2000<cr (ah (tD q)) then 6 else 0:=by
 have h1:=h.1;revert h1;unfold ck;split;·intro h1;exact absurd rfl h1
 ·split;·intro h1;exact absurd rfl h1
  ·intro _;rfl
theorem UL{q:List UInt8}(h:RQ q)(hb:cr (bH (iK q)).num<=2000/\cr ((bH (iK q)).den:Int)<=2000):(iK q,(0:Int))=mC q:=by
 rw[Dp h,h.parts.1,h.parts.2] at hb;have:ck q=0:=by rw[h.chk,if_neg (by omega)]
 unfold mC;rw[if_pos this,h.raw]
theorem TD{q:List UInt8}(h:RQ q)(hb:¬(cr (bH (iK q)).num<=2000/\cr ((bH (iK q)).den:Int)<=2000)):((((false,[]),false,[]),6):ND×Int)=mC q:=by
 rw[Dp h,h.parts.1,h.parts.2] at hb;have:ck q=6:=by rw[h.chk,if_pos (by omega)]
 unfold mC;rw[this];rfl
theorem Jp(q:List UInt8):(mC q).2=ck q:=by
 unfold mC;split;·rename_i h;exact h.symm
 ·rfl
def gI(q:Rat):Bool:=decide (cr q.num<=2000/\cr (q.den:Int)<=2000)
def l4(q:Rat):Int:=if gI q=true then 0 else 6
def ec(l:List ND):Bool:=l.all fun x=>gI (bH x)
theorem eu{t:Ty}{l:List t.D}{k:Nat}(h:k<l.length):nth t l (k:Int)=l[k]:=by
 unfold nth;simp[h]
theorem eN{t:Ty}{l:List t.D}{k:Nat}(h:k<l.length):nth t l (k:Int)∈l:=by rw[eu h];exact List.getElem_mem h
theorem AG{t:Ty}{β:Type}(f:t.D->β){l:List t.D}{k:Nat}(h:k<l.length):(l.take k).map f++ [f (nth t l (k:Int))]=(l.take (k+1)).map f:=by
 rw[eu h,List.take_succ_eq_append_getElem h,List.map_append];rfl
theorem ui{n:Nat}(h:n<=1000000001):Cm.Roomy 4 n:=by unfold Cm.Roomy;omega
theorem yv{n:Nat}(h:n<=1000000001):Cm.Roomy 1 n:=by unfold Cm.Roomy;omega
theorem list_round{l:List (List UInt8)}{k:Nat}(h:k<l.length)(hl:l.length<QL):∃z:Nat,IntKind.i64.wrap ((k:Int)+1)=(z:Int)/\List.map iK (l.take k)++ [iK (nth .str l (k:Int))]=List.map iK (l.take z)/\z<=l.length/\l.length-z<l.length-k:=by
 have e1:QL=1000000000:=rfl;exact⟨k+1,by rw[wo];omega,AG (t:= .str) iK h,by omega,by omega⟩
theorem Jq{l:List ND}{k:Nat}(h:k<l.length)(hk:ec (l.take k)=true):ec (l.take (k+1))=gI (bH (nth NT l (k:Int))):=by
 rw[List.take_succ_eq_append_getElem h];unfold ec at hk ⊢;rw[List.all_append,hk,eu (t:=NT) h];simp
theorem AH{l:List ND}{k:Nat}(h:k<l.length)(hl:l.length<QL)(hk:ec (l.take k)=true)(hb:cr (bH (nth NT l (k:Int))).num<=2000/\cr ((bH (nth NT l (k:Int))).den:Int)<=2000):
  ∃z:Nat,IntKind.i64.wrap ((k:Int)+1)=(z:Int)/\List.map (fun x=>aG (bH x)) (l.take k)++ [aG (bH (nth NT l (k:Int)))]=List.map (fun x=>aG (bH x)) (l.take z)/\z<=l.length/\ec (l.take z)=true/\l.length-z<l.length-k:=by
 have e1:QL=1000000000:=rfl;exact⟨k+1,by rw[wo];omega,AG (t:=NT) (fun x=>aG (bH x)) h,by omega,by rw[Jq h hk];exact decide_eq_true hb,by omega⟩
theorem Jr{l:List ND}{k:Nat}(h:k<l.length)(hb:¬(cr (bH (nth NT l (k:Int))).num<=2000/\cr ((bH (nth NT l (k:Int))).den:Int)<=2000)):
  ([]=if ec l=true then List.map (fun x=>aG (bH x)) l else [])/\false=ec l:=by
 have:ec l=false:=by
  unfold ec;rw[List.all_eq_false];exact⟨_,eN (t:=NT) h,by unfold gI;simpa using hb⟩
 rw[this];exact⟨rfl,rfl⟩
theorem Js{l:List ND}{k:Nat}(h:¬k<l.length)(hk:ec (l.take k)=true):
  (List.map (fun x=>aG (bH x)) (l.take k)=if ec l=true then List.map (fun x=>aG (bH x)) l else [])/\true=ec l:=by
 rw[List.take_of_length_le (by omega)] at hk ⊢;rw[hk];exact⟨rfl,rfl⟩
end Go.Cm
end