/- Merged by a program out of several texts. -/
import Derived.Test.YtdojbabpnaifoaaGreatDoorX2
import Derived.Lib.ItoaNum
import Derived.Shelf.Strings.BuilderK
import Derived.Shelf.Strconv.Itoa3
import Derived.Shelf.Pu.ParseUintPublic10
import Derived.Shelf.Strings.Repeat
import Derived.Test.YtdojbabpnaifoaaGreatDoorProg
import Derived.WalkKit
import Derived.BigCall
import Derived.Lib.Hide
import Derived.Shelf.Abstract
import Derived.RangeFuncBox
import Derived.OwnWalkIn
import Derived.TacticsInMore
import Derived.LoopNIn
import Derived.LoopIn
import Derived.Lib.IndexMore
set_option linter.all false
set_option linter.unusedSimpArgs false
set_option linter.unusedVariables false
set_option maxRecDepth 100000
section
namespace Go.Cm
def dec(x:Bool×List Int):Int:=if x.1=true then-valL x.2 else valL x.2
def enc(n:Int):Bool×List Int:=(decide (n<0),limbs n.natAbs)
def WOK(x:Bool×List Int):Prop:=Cano x.2/\(x.2= []->x.1=false)
theorem valL_pos{l:List Int}(h:Cano l):0<valL l↔l≠ []:=by
 constructor;·rintro h1 rfl;simp[valL] at h1
 ·intro hne;have h1:=valL_ge h hne;have h2:0<LB^(l.length-1):=Int.pow_pos (by decide);omega
theorem b5(n:Int):dec (enc n)=n:=by
 unfold dec enc;simp only[decide_eq_true_eq,limbs_val];split<;>omega
theorem enc_ok(n:Int):WOK (enc n):=by
 refine⟨limbs_can _,fun h=> ?_⟩;have:=limbs_nil.1 h;simp[enc];omega
theorem WOK.enc{x:Bool×List Int}(h:WOK x):enc (dec x)=x:=by
 obtain⟨s,l⟩:=x;obtain⟨h1,h2⟩:=h;simp only at h1 h2;have h3:=valL_nonneg h1.1;have h4:=valL_pos h1;unfold Cm.enc dec;cases s with
 |true=>
  have hne:l≠ []:=fun e=>by have:=h2 e;cases this
  have:=h4.2 hne;simp only[if_true];have e1:decide (-valL l<0)=true:=by simp;omega
  rw[e1,<- h1.limbs (n:=(-valL l).natAbs) (by omega)]
 |false=>
  simp only[Bool.false_eq_true,if_false];have e1:decide (valL l<0)=false:=by simp;omega
  rw[e1,<- h1.limbs (n:=(valL l).natAbs) (by omega)]
theorem WOK.eq{x y:Bool×List Int}(hx:WOK x)(hy:WOK y)(h:dec x=dec y):x=y:=by rw[<- hx.enc,<- hy.enc,h]
theorem MH{s:Bool}{l:List Int}(h:Lim l):WOK (s&&decide (0<valL l),limbs (valL l).toNat)/\dec (s&&decide (0<valL l),limbs (valL l).toNat)=dec (s,l):=by
 have h1:=valL_nonneg h;refine⟨⟨limbs_can _,fun e=> ?_⟩,?_⟩
 ·have:=limbs_nil.1 e;have: ¬0<valL l:=by omega
  simp[this]
 ·unfold dec;simp only[limbs_val];cases s<;>simp;·omega
  ·split<;>omega
theorem xn{s:Bool}{l:List Int}(h:Lim l):(s&&decide (0<valL l),limbs (valL l).toNat)=enc (dec (s,l)):=by
 obtain⟨h1,h2⟩:=MH (s:=s) h;rw[<- h2,h1.enc]
theorem last_eq{l:List Int}(h:0<l.length):nth (.int .u32) l ((l.length:Int)-1)=l.getLastD 1:=by
 have hne:l≠ []:=by intro e;subst e;simp at h
 have e:((l.length:Int)-1).toNat=l.length-1:=by omega
 show l.getD _ _=_;rw[e,List.getD_eq_getElem?_getD,List.getElem?_eq_getElem (by omega),List.getLastD_eq_getLast?,List.getLast?_eq_getElem?,List.getElem?_eq_getElem (by omega)];rfl
theorem drop_zero_val{l:List Int}(hl:Lim l)(h:0<l.length)(h0:l.getLastD 1=0):valL l.dropLast=valL l/\Lim l.dropLast:=by
 have hne:l≠ []:=by intro e;subst e;simp at h
 have hd:=List.dropLast_concat_getLast hne;have hlast:l.getLastD 1=l.getLast hne:=by rw[List.getLastD_eq_getLast?,List.getLast?_eq_some_getLast hne];rfl
 refine⟨?_,fun x hx=>hl x (List.dropLast_subset l hx)⟩;conv=>rhs;rw[<- hd]
 rw[valL_append,valL_one,<- hlast,h0];omega
theorem take_last{l:List Int}(h:0<l.length):List.take (IntKind.i64.wrap ((l.length:Int)-1)).toNat l=l.dropLast∨ ¬ (l.length:Int)<9223372036854775808:=by
 by_cases hb:(l.length:Int)<9223372036854775808
 ·left;rw[wo];have e:((l.length:Int)-1).toNat=l.length-1:=by omega
  rw[e,List.dropLast_eq_take]
 ·exact .inr hb
theorem Jv{s:Bool}{m z:List Int}(g1:Lim z)(g2:valL z=valL m)(h:0<z.length->z.getLastD 1≠0):(s&&decide ((0:Int)<(z.length:Int)),z)=enc (dec (s,m)):=by
 have hz:Cano z:=⟨g1,by
  by_cases e:0<z.length
  ·exact h e
  ·have:z= []:=List.eq_nil_of_length_eq_zero (by omega);subst this;simp⟩
 have e:dec (s,m)=dec (s,z):=by simp[dec,g2]
 have h0:=valL_nonneg g1;have h1:decide ((0:Int)<(z.length:Int))=decide (0<valL z):=by
  have:=valL_pos hz;by_cases hl:z= [];·subst hl;simp[valL]
  ·have h2:0<z.length:=List.length_pos_iff.2 hl;have h3:=this.2 hl;simp[h2,h3]
 have h2:limbs (valL z).toNat=z:=(hz.limbs (by omega)).symm;rw[e,<- xn g1,h1,h2]
theorem whole_round{m z:List Int}(g1:Lim z)(g2:valL z=valL m)(g3:z.length<=m.length)(hz:(0:Int)<(z.length:Int))(hb:z.length<1000000000000)(h0:nth (.int .u32) z (IntKind.i64.wrap ((z.length:Int)-1))=0):
  Lim (List.drop (Int.toNat 0) (List.take (IntKind.i64.wrap ((z.length:Int)-1)).toNat z))/\valL (List.drop (Int.toNat 0) (List.take (IntKind.i64.wrap ((z.length:Int)-1)).toNat z))=valL m/\
   (List.drop (Int.toNat 0) (List.take (IntKind.i64.wrap ((z.length:Int)-1)).toNat z)).length<=m.length/\(List.drop (Int.toNat 0) (List.take (IntKind.i64.wrap ((z.length:Int)-1)).toNat z)).length<z.length:=by
 have hz':0<z.length:=by omega
 have e:=(take_last hz').resolve_right (by omega);rw[wo,last_eq hz'] at h0;obtain⟨d1,d2⟩:=drop_zero_val g1 hz' h0;rw[show Int.toNat 0=0 from rfl,List.drop_zero,e];exact⟨d2,by rw[d1,g2],by simp;omega,by simp;omega⟩
theorem GS(s:Bool)(l:List Int):dec (!s,l)= -dec (s,l):=by
 cases s<;>simp[dec]
theorem gC{x:Bool×List Int}(h:WOK x):((x.2.length:Int)=0↔dec x=0)/\(¬ (x.2.length:Int)=0->(x.1=true->dec x<0)/\(x.1=false->0<dec x)):=by
 obtain⟨h1,h2⟩:=h;have h3:=valL_pos h1;have h4:=valL_nonneg h1.1;have h5:(x.2.length:Int)=0↔x.2= []:=by
  constructor;·intro h;exact List.eq_nil_of_length_eq_zero (by omega)
  ·intro h;rw[h];rfl
 rw[h5];refine⟨⟨fun e=> ?_,fun e=> ?_⟩,fun hne=> ?_⟩;·simp[dec,e,valL]
 ·by_cases hne:x.2= []
  ·exact hne
  ·have:=h3.2 hne;unfold dec at e;split at e<;>omega
 ·have:=h3.2 hne;refine⟨fun e=> ?_,fun e=> ?_⟩;·rw[dec,if_pos e];omega
  ·rw[dec,if_neg (by simp[e])];exact this
def bg(a b:Int):Int:=if a<b then-1 else if b<a then 1 else 0
theorem oJ{a b:Int}:bg a b=0↔a=b:=by
 unfold bg;by_cases h1:a<b;·rw[if_pos h1];exact⟨fun h=>(by cases h),fun h=>by omega⟩
 ·rw[if_neg h1];by_cases h2:b<a;·rw[if_pos h2];exact⟨fun h=>(by cases h),fun h=>by omega⟩
  ·rw[if_neg h2];exact⟨fun _=>by omega,fun _=>rfl⟩
theorem cmp_len{a b:List Int}(ha:Cano a)(hb:Cano b)(h:a.length<b.length):valL a<valL b:=by
 have hne:b≠ []:=by intro e;subst e;simp at h
 have h1:=valL_lt ha.1;have h2:=valL_ge hb hne;have h3:=pow_mono (show a.length<=b.length-1 by omega);omega
theorem cmp_at{a b:List Int}(ha:Lim a)(hb:Lim b)(hl:a.length=b.length){k:Nat}(hk:k<a.length)(h:a.drop (k+1)=b.drop (k+1))(hlt:a.getD k 0<b.getD k 0):valL a<valL b:=by
 have e1:valL a=valL (a.take (k+1))+LB^(k+1)*valL (a.drop (k+1)):=by
  conv=>lhs;rw[<- List.take_append_drop (k+1) a]
  rw[valL_append,List.length_take,Nat.min_eq_left (by omega)]
 have e2:valL b=valL (b.take (k+1))+LB^(k+1)*valL (b.drop (k+1)):=by
  conv=>lhs;rw[<- List.take_append_drop (k+1) b]
  rw[valL_append,List.length_take,Nat.min_eq_left (by omega)]
 rw[e1,e2,h,take_val,take_val];have h1:=valL_lt (l:=a.take k) (fun x hx=>ha x (List.mem_of_mem_take hx));have h2:=valL_nonneg (l:=b.take k) (fun x hx=>hb x (List.mem_of_mem_take hx));rw[List.length_take,Nat.min_eq_left (by omega)] at h1;have h3:LB^k*(a.getD k 0+1)<=LB^k*b.getD k 0:=Int.mul_le_mul_of_nonneg_left (by omega) (Int.pow_nonneg (by decide));rw[Int.mul_add,Int.mul_one] at h3;omega
def padL:Nat->Nat->List Int
 |_,0=> []
 |v,k+1=>((v%1000000000:Nat):Int)::padL (v/1000000000) k
theorem padL_len:∀ (v k:Nat),(padL v k).length=k
 |_,0=>rfl
 |v,k+1=>by simp[padL,padL_len]
theorem padL_lim:∀ (v k:Nat),Lim (padL v k)
 |_,0=>fun x hx=>by simp[padL] at hx
 |v,k+1=>fun x hx=>by
  rcases List.mem_cons.1 hx with rfl|hx;·unfold LB;omega
  ·exact padL_lim _ k x hx
theorem padL_val:∀ (v k:Nat),(v:Int)<LB^k->valL (padL v k)=v
 |v,0,h=>by
  have:v=0:=by simp at h;omega
  subst this;rfl
 |v,k+1,h=>by
  have:((v/1000000000:Nat):Int)<LB^k:=by
   rw[Int.pow_succ] at h;(have e:((v/1000000000:Nat):Int)=(v:Int)/LB:=by unfold LB;omega);rw[e];exact Int.ediv_lt_of_lt_mul (by decide) h
  rw[padL,valL,padL_val _ k this];unfold LB;omega
theorem Lim.pad{l:List Int}(h:Lim l){v k:Nat}(hl:l.length=k)(hv:valL l=v):l=padL v k:=
 valL_inj h (padL_lim v k) (by rw[hl,padL_len]) (by rw[hv,padL_val];rw[<- hv,<- hl];exact valL_lt h)
theorem len_le{a b:List Int}(ha:Cano a)(hb:Cano b)(h:valL a<=valL b):a.length<=b.length:=by
 by_cases hl:b.length<a.length
 ·have:=cmp_len hb ha hl;omega
 ·omega
theorem minus_round{m o out:List Int}{k:Nat}{b n b':Int}(g2:out.length=k)(g3:Lim out)(g6:valL out+valL (o.take k)=valL (m.take k)+LB^k*b)(hn:0<=n)(hn2:n<LB)(he:n=m.getD k 0-b-o.getD k 0+LB*b'):
  Lim (out++ [n])/\valL (out++ [n])+valL (o.take (k+1))=valL (m.take (k+1))+LB^(k+1)*b':=by
 refine⟨g3.append (Lim.one hn hn2),?_⟩;rw[valL_append,valL_one,g2,take_val,take_val,Int.pow_succ];have h1:LB^k*n=LB^k*m.getD k 0-LB^k*b-LB^k*o.getD k 0+LB^k*LB*b':=by
  rw[he,Int.mul_add,Int.mul_sub,Int.mul_sub,Int.mul_assoc]
 omega
theorem minus_end{m o out:List Int}{b:Int}(hm:Cano m)(ho:Cano o)(hle:valL o<=valL m)(g2:out.length=m.length)(g3:Lim out)(g4:0<=b)(g6:valL out+valL (o.take m.length)=valL m+LB^m.length*b):out=padL (valL m-valL o).toNat m.length:=by
 rw[List.take_of_length_le (len_le ho hm hle)] at g6;have h1:=valL_lt g3;rw[g2] at h1;have h2:0<LB^m.length:=Int.pow_pos (by decide);have hb:b=0:=by
  by_cases hb:b=0
  ·exact hb
  ·have:LB^m.length*1<=LB^m.length*b:=Int.mul_le_mul_of_nonneg_left (by omega) (by omega);omega
 subst hb;exact g3.pad g2 (by omega)
theorem plus_len{m o:List Int}(hm:Cano m)(ho:Cano o):(limbs (valL m+valL o).toNat).length<=m.length+o.length:=by
 have h1:=valL_lt hm.1;have h2:=valL_lt ho.1;have h3:=valL_nonneg hm.1;have h4:=valL_nonneg ho.1;have hpos:∀ k,1<=LB^k:=fun k=>(Int.pow_pos (show (0:Int)<LB by decide):0<LB^k);by_cases e1:m= [];·subst e1;rw[show valL ([]:List Int)=0 from rfl,Int.zero_add];exact limbs_len (by rw[Int.toNat_of_nonneg h4];simpa using h2)
 ·by_cases e2:o= []
  ·subst e2;rw[show valL ([]:List Int)=0 from rfl,Int.add_zero];exact limbs_len (by rw[Int.toNat_of_nonneg h3];simpa using h1)
  ·have l1:=List.length_pos_iff.2 e1;have l2:=List.length_pos_iff.2 e2;refine limbs_len ?_;rw[Int.toNat_of_nonneg (by omega)];have p1:=pow_mono (show m.length<=m.length+o.length-1 by omega);have p2:=pow_mono (show o.length<=m.length+o.length-1 by omega);have p3:LB^(m.length+o.length)=LB^(m.length+o.length-1)*LB:=by
    rw[<- Int.pow_succ];congr 1;omega
   have p4:=hpos (m.length+o.length-1);have p5:LB^(m.length+o.length-1)*2<=LB^(m.length+o.length-1)*LB:=Int.mul_le_mul_of_nonneg_left (by decide) (by omega);omega
theorem vf(s:Bool)(l:List Int):dec (s,l)=if s=true then-valL l else valL l:=rfl
theorem add_same{x y:Bool×List Int}(hx:WOK x)(hy:WOK y)(h:x.1=y.1):enc (dec (x.1,limbs (valL x.2+valL y.2).toNat))=enc (dec x+dec y):=by
 have h1:=valL_nonneg hx.1.1;have h2:=valL_nonneg hy.1.1;congr 1;rw[vf,limbs_val,Int.toNat_of_nonneg (by omega)];unfold dec;rw[<- h];split<;>omega
theorem Bb{x y:Bool×List Int}(h: ¬x.1=y.1){v:List Int}(hv:valL v=valL x.2-valL y.2):enc (dec (x.1,v))=enc (dec x+dec y):=by
 congr 1;rw[vf,hv];unfold dec;cases h1:x.1<;>cases h2:y.1<;>simp[h1,h2] at h ⊢<;>omega
theorem minus_val{m o:List Int}(hm:Cano m)(ho:Cano o)(hle:valL o<=valL m):valL (padL (valL m-valL o).toNat m.length)=valL m-valL o:=by
 have h1:=valL_lt hm.1;have h2:=valL_nonneg ho.1;rw[padL_val _ _ (by rw[Int.toNat_of_nonneg (by omega)];omega),Int.toNat_of_nonneg (by omega)]
theorem Qm{x:Bool×List Int}(h:WOK x):(enc (-dec x)).2.length=x.2.length:=by
 have:enc (-dec x)=((!x.1)&&decide (0<valL x.2),x.2):=by
  have h1:=xn (s:= !x.1) h.1.1;rw[GS] at h1;rw[show dec x=dec (x.1,x.2) from rfl,<- h1];congr 1;exact(h.1.limbs (by have:=valL_nonneg h.1.1;omega)).symm
 rw[this]
theorem oK{a b:Int}:bg a b<0↔a<b:=by
 unfold bg;by_cases h1:a<b;·rw[if_pos h1];exact⟨fun _=>h1,fun _=>by omega⟩
 ·rw[if_neg h1];by_cases h2:b<a;·rw[if_pos h2];exact⟨fun h=>by omega,fun h=>by omega⟩
  ·rw[if_neg h2];exact⟨fun h=>by omega,fun h=>by omega⟩
theorem cmp_lens{m o:List Int}(hm:Cano m)(ho:Cano o)(h:bg (m.length:Int) (o.length:Int)≠0):bg (m.length:Int) (o.length:Int)=bg (valL m) (valL o):=by
 unfold bg at h ⊢;by_cases h1:m.length<o.length;·have:=cmp_len hm ho h1;rw[if_pos (by omega),if_pos this]
 ·by_cases h2:o.length<m.length
  ·have:=cmp_len ho hm h2;rw[if_neg (by omega),if_pos (by omega),if_neg (by omega),if_pos this]
  ·rw[if_neg (by omega),if_neg (by omega)] at h;exact absurd rfl h
theorem cmp_place{m o:List Int}(hm:Cano m)(ho:Cano o)(hl:m.length=o.length){k:Nat}(hk:k<m.length)(hd:m.drop (k+1)=o.drop (k+1))(h:bg (m.getD k 0) (o.getD k 0)≠0):bg (m.getD k 0) (o.getD k 0)=bg (valL m) (valL o):=by
 unfold bg at h ⊢;by_cases h1:m.getD k 0<o.getD k 0;·have:=cmp_at hm.1 ho.1 hl hk hd h1;rw[if_pos h1,if_pos this]
 ·by_cases h2:o.getD k 0<m.getD k 0
  ·have:=cmp_at ho.1 hm.1 hl.symm (by omega) hd.symm h2;rw[if_neg h1,if_pos h2,if_neg (by omega),if_pos this]
  ·rw[if_neg h1,if_neg h2] at h;exact absurd rfl h
theorem drop_step{m o:List Int}{k:Nat}(hl:m.length=o.length)(hk:k<m.length)(hd:m.drop (k+1)=o.drop (k+1))(h:m.getD k 0=o.getD k 0):m.drop k=o.drop k:=by
 rw[List.drop_eq_getElem_cons hk,List.drop_eq_getElem_cons (show k<o.length by omega),hd];rw[List.getD_eq_getElem?_getD,List.getD_eq_getElem?_getD,List.getElem?_eq_getElem hk,List.getElem?_eq_getElem (show k<o.length by omega)] at h;simp at h;rw[h]
theorem set_val:∀ {l:List Int} {j:Nat} {v:Int},j<l.length->valL (l.set j v)=valL l+LB^j*(v-l.getD j 0)
 |x::r,0,v,_=>by simp[valL];omega
 |x::r,j+1,v,h=>by
  have ih:=set_val (l:=r) (j:=j) (v:=v) (by simpa using h);simp only[List.set_cons_succ,valL,ih,List.getD_cons_succ,Int.pow_succ];rw[Int.mul_add,Int.mul_comm (LB^j) LB,Int.mul_assoc];omega
 | [],_,_,h=>by simp at h
theorem set_lim{l:List Int}{j:Nat}{v:Int}(h:Lim l)(h0:0<=v)(h1:v<LB):Lim (l.set j v):=fun x hx=>by
 rcases List.mem_or_eq_of_mem_set hx with h2|rfl;·exact h x h2
 ·exact⟨h0,h1⟩
theorem getD_set_ne{l:List Int}{j k:Nat}{v:Int}(h:j≠k):(l.set j v).getD k 0=l.getD k 0:=by
 rw[List.getD_eq_getElem?_getD,List.getD_eq_getElem?_getD,List.getElem?_set_ne h]
theorem mul_bound{x y a c:Int}(hx:0<=x/\x<LB)(hy:0<=y/\y<LB)(ha:0<=a/\a<LB)(hc:0<=c/\c<LB):0<=x*y/\x*y+a+c<LB*LB/\x*y<=LB*LB:=by
 have h1:0<=x*y:=Int.mul_nonneg hx.1 hy.1;have h2:x*y<=(LB-1)*(LB-1):=Int.mul_le_mul (by omega) (by omega) hy.1 (by decide);have hB:LB=1000000000:=rfl;have h3:(LB-1)*(LB-1)=999999998000000001:=rfl;have h4:LB*LB=1000000000000000000:=rfl;omega
theorem mul_step{x y out:List Int}{i k:Nat}{c p n:Int}(hx:Lim x)(hy:Lim y)(h1:out.length=x.length+y.length)(h2:Lim out)(h3:0<=c)(h4:c<LB)(hi:i<x.length)(hk:k<y.length)
  (h6:valL out+LB^(i+k)*c=p+LB^i*(x.getD i 0*valL (y.take k))) (hz:∀ j,i+y.length<=j->out.getD j 0=0) (hn:n=x.getD i 0*y.getD k 0+out.getD (i+k) 0+c):
  0<=n/\n<LB*LB/\(out.set (i+k) (n%LB)).length=x.length+y.length/\Lim (out.set (i+k) (n%LB))/\0<=n/LB/\n/LB<LB/\
   valL (out.set (i+k) (n%LB))+LB^(i+(k+1))*(n/LB)=p+LB^i*(x.getD i 0*valL (y.take (k+1)))/\∀ j,i+y.length<=j->(out.set (i+k) (n%LB)).getD j 0=0:=by
 have hb:=mul_bound (hx.getD i) (hy.getD k) (h2.getD (i+k)) ⟨h3,h4⟩;have ha:=h2.getD (i+k);have hB:LB=1000000000:=rfl;have hn0:0<=n:=by omega
 have hn1:n<LB*LB:=by omega
 have hm:0<=n%LB/\n%LB<LB:=⟨Int.emod_nonneg _ (by decide),Int.emod_lt_of_pos _ (by decide)⟩;refine⟨hn0,hn1,by simp[h1],set_lim h2 hm.1 hm.2,Int.ediv_nonneg hn0 (by decide),Int.ediv_lt_of_lt_mul (by decide) hn1,?_,fun j hj=> ?_⟩
 ·rw[set_val (by omega),take_val,<- Nat.add_assoc,Int.pow_succ];have e1:n%LB+LB*(n/LB)=n:=Int.emod_add_mul_ediv n LB;have e2:LB^(i+k)*(n%LB-out.getD (i+k) 0)+LB^(i+k)*LB*(n/LB)=LB^(i+k)*(n-out.getD (i+k) 0):=by
   rw[Int.mul_assoc,<- Int.mul_add];congr 1;omega
  have e3:n-out.getD (i+k) 0=x.getD i 0*y.getD k 0+c:=by omega
  have e4:LB^(i+k)=LB^i*LB^k:=Int.pow_add ..;have e5:LB^i*(x.getD i 0*(valL (y.take k)+LB^k*y.getD k 0))=LB^i*(x.getD i 0*valL (y.take k))+LB^(i+k)*(x.getD i 0*y.getD k 0):=by
   rw[Int.mul_add,Int.mul_add,e4];congr 1;rw[Int.mul_assoc,Int.mul_left_comm (x.getD i 0)]
  rw[e3,Int.mul_add] at e2;omega
 ·rw[getD_set_ne (by omega)];exact hz j hj
theorem mul_row{x y out:List Int}{i:Nat}{c p:Int}(h1:out.length=x.length+y.length)(h2:Lim out)(h3:0<=c)(h4:c<LB)(hi:i<x.length)(hp:p=valL (x.take i)*valL y)
  (h6:valL out+LB^(i+y.length)*c=p+LB^i*(x.getD i 0*valL y)) (hz:∀ j,i+y.length<=j->out.getD j 0=0):
  (out.set (i+y.length) c).length=x.length+y.length/\Lim (out.set (i+y.length) c)/\valL (out.set (i+y.length) c)=valL (x.take (i+1))*valL y/\∀ j,i+1+y.length<=j->(out.set (i+y.length) c).getD j 0=0:=by
 refine⟨by simp[h1],set_lim h2 h3 h4,?_,fun j hj=> ?_⟩;·rw[set_val (by omega),hz _ (Nat.le_refl _),take_val,Int.add_mul,Int.sub_zero,h6,hp,Int.mul_assoc]
 ·rw[getD_set_ne (by omega)];exact hz j (by omega)
theorem replicate_zero(n:Nat):Lim (List.replicate n 0)/\valL (List.replicate n 0)=0/\∀ j,(List.replicate n (0:Int)).getD j 0=0:=by
 refine⟨fun x hx=> ?_,?_,fun j=> ?_⟩;·have:=List.eq_of_mem_replicate hx;subst this;exact⟨by decide,by decide⟩
 ·induction n with
  |zero=>rfl
  |succ n ih=>rw[List.replicate_succ,valL,ih];rfl
 ·rw[List.getD_eq_getElem?_getD,List.getElem?_replicate];split<;>rfl
theorem Qn{x y:Bool×List Int}{out:List Int}(h:valL out=valL x.2*valL y.2):dec (x.1 !=y.1,out)=dec x*dec y:=by
 rw[vf,h];unfold dec;cases x.1<;>cases y.1<;>simp[Int.neg_mul,Int.mul_neg]
theorem TS{x y a c:Int}(hx:0<=x/\x<LB)(hy:0<=y/\y<LB)(ha:0<=a/\a<LB)(hc:0<=c/\c<LB):
  IntKind.u64.wrap (IntKind.u64.wrap (IntKind.u64.wrap (IntKind.u64.wrap x*IntKind.u64.wrap y)+IntKind.u64.wrap a)+c)=x*y+a+c:=by
 have hb:=mul_bound hx hy ha hc;have hB:LB=1000000000:=rfl;have h4:LB*LB=1000000000000000000:=rfl;rw[w64 hx.1 (by omega),w64 hy.1 (by omega),w64 ha.1 (by omega),w64 hb.1 (by omega),w64 (x:=x*y+a) (by omega) (by omega),w64 (by omega) (by omega)]
theorem pJ{n:Int}(h0:0<=n)(h1:n<LB*LB):IntKind.u64.wrap n=n/\IntKind.u32.wrap (n.tmod 1000000000)=n%LB/\IntKind.u64.wrap (n.tdiv 1000000000)=n/LB:=by
 have hB:LB=1000000000:=rfl;obtain⟨e1,e2⟩:=tdiv_nn h0;rw[e1,e2];have h2:0<=n%LB/\n%LB<LB:=⟨Int.emod_nonneg _ (by decide),Int.emod_lt_of_pos _ (by decide)⟩;have h3:0<=n/LB:=Int.ediv_nonneg h0 (by decide);have h4:n/LB<LB:=Int.ediv_lt_of_lt_mul (by decide) h1;rw[hB] at h1;exact⟨w64 h0 (by omega),w32 h2.1 (by omega),w64 h3 (by omega)⟩
end Go.Cm
end
section
namespace Go.Cm
open Go.Lib
def fP(s:Bool)(xs:List Int):Nat->List UInt8
 |0=>if s=true then [45] else []
 |k+1=>fP s xs k++((if k=0 then [] else List.replicate (9-(itoa (xs.getD (xs.length-1-k) 0)).length) 48)++itoa (xs.getD (xs.length-1-k) 0))
theorem kQ{u k:Nat}(h:u<10^k)(hk:0<k):(decDigits u).length<=k:=by
 induction k generalizing u with
 |zero=>omega
 |succ k ih=>
  rw[decDigits];split;·simp
  ·(rename_i h10;by_cases h0:k=0;·subst h0;omega);·have:=ih (u:=u/10) (by rw[Nat.pow_succ] at h;omega) (by omega);simp;omega
theorem ry{x:Int}(h0:0<=x)(h1:x<LB):1<=(itoa x).length/\(itoa x).length<=9:=by
 have hB:LB=1000000000:=rfl;unfold itoa;rw[if_neg (by omega)];refine⟨?_,kQ (k:=9) (by omega) (by omega)⟩;rw[decDigits];split<;>simp
theorem pK{s:Bool}{xs:List Int}(h:Lim xs):∀ k,(fP s xs k).length<=1+9*k
 |0=>by unfold fP;split<;>simp
 |k+1=>by
  have:=pK (s:=s) h k;have h2:=h.getD (xs.length-1-k);have h3:=ry h2.1 h2.2;rw[fP];split<;>simp only[List.length_append,List.length_replicate,List.length_nil]<;>omega
end Go.Cm
end
section
namespace Go.Proofs
open Go.Shelf
def Tryz.lays166_ren:Go.Shelf.Ren:=⟨fun|166=>98|240=>140|276=>174|n=>n,fun|37=>47|70=>126|72=>128|75=>131|80=>135|164=>193|n=>n,fun|n=>n⟩
theorem Tryz.lays166:Go.Proofs.Lays.n166 Tryz.prog Tryz.lays166_ren:={
 mixed:=by kernel_rfl
 f166:=Tryz.func98.trans (congrArg some (by kernel_rfl))
 f240:=Tryz.func140.trans (congrArg some (by kernel_rfl))
 f276:=Tryz.func174.trans (congrArg some (by kernel_rfl))
 t0:=Tryz.underlying0
 a0:=Tryz.isAgg0
 z0:=Tryz.sizeOf0
 v0:=Tryz.zeroValue0
 t3:=Tryz.underlying3
 a3:=Tryz.isAgg3
 z3:=Tryz.sizeOf3
 v3:=Tryz.zeroValue3
 t4:=Tryz.underlying4
 a4:=Tryz.isAgg4
 z4:=Tryz.sizeOf4
 v4:=Tryz.zeroValue4
 t9:=Tryz.underlying9
 a9:=Tryz.isAgg9
 z9:=Tryz.sizeOf9
 v9:=Tryz.zeroValue9
 t20:=Tryz.underlying20
 a20:=Tryz.isAgg20
 z20:=Tryz.sizeOf20
 v20:=Tryz.zeroValue20
 t37:=Tryz.underlying47
 a37:=Tryz.isAgg47
 z37:=Tryz.sizeOf47
 v37:=Tryz.zeroValue47
 t70:=Tryz.underlying126
 a70:=Tryz.isAgg126
 z70:=Tryz.sizeOf126
 v70:=Tryz.zeroValue126
 t72:=Tryz.underlying128
 a72:=Tryz.isAgg128
 z72:=Tryz.sizeOf128
 v72:=Tryz.zeroValue128
 t75:=Tryz.underlying131
 a75:=Tryz.isAgg131
 z75:=Tryz.sizeOf131
 v75:=Tryz.zeroValue131
 t164:=Tryz.underlying193
 a164:=Tryz.isAgg193
 z164:=Tryz.sizeOf193
 v164:=Tryz.zeroValue193}
theorem Tryz.Builder_Extra_166:Builder.Extra Tryz.prog Tryz.lays166_ren:={
 sizeBuilder:=by kernel_rfl
 liesBuilder:=by kernel_rfl
 t5:=Tryz.underlying5
 a5:=Tryz.isAgg5
 z5:=Tryz.sizeOf5
 v5:=Tryz.zeroValue5
 infoByte:=by kernel_rfl
 cellsByte:=by kernel_rfl
 sizeByte:=by kernel_rfl
 neB5:=by decide}
def Tryz.lays167_ren:Go.Shelf.Ren:=⟨fun|167=>176|240=>140|276=>174|n=>n,fun|37=>47|70=>126|72=>128|75=>131|80=>135|164=>193|n=>n,fun|n=>n⟩
theorem Tryz.lays167:Go.Proofs.Lays.n167 Tryz.prog Tryz.lays167_ren:={
 mixed:=by kernel_rfl
 f167:=Tryz.func176.trans (congrArg some (by kernel_rfl))
 f240:=Tryz.func140.trans (congrArg some (by kernel_rfl))
 f276:=Tryz.func174.trans (congrArg some (by kernel_rfl))
 t0:=Tryz.underlying0
 a0:=Tryz.isAgg0
 z0:=Tryz.sizeOf0
 v0:=Tryz.zeroValue0
 t4:=Tryz.underlying4
 a4:=Tryz.isAgg4
 z4:=Tryz.sizeOf4
 v4:=Tryz.zeroValue4
 t5:=Tryz.underlying5
 a5:=Tryz.isAgg5
 z5:=Tryz.sizeOf5
 v5:=Tryz.zeroValue5
 t9:=Tryz.underlying9
 a9:=Tryz.isAgg9
 z9:=Tryz.sizeOf9
 v9:=Tryz.zeroValue9
 t20:=Tryz.underlying20
 a20:=Tryz.isAgg20
 z20:=Tryz.sizeOf20
 v20:=Tryz.zeroValue20
 t37:=Tryz.underlying47
 a37:=Tryz.isAgg47
 z37:=Tryz.sizeOf47
 v37:=Tryz.zeroValue47
 t70:=Tryz.underlying126
 a70:=Tryz.isAgg126
 z70:=Tryz.sizeOf126
 v70:=Tryz.zeroValue126
 t72:=Tryz.underlying128
 a72:=Tryz.isAgg128
 z72:=Tryz.sizeOf128
 v72:=Tryz.zeroValue128
 t75:=Tryz.underlying131
 a75:=Tryz.isAgg131
 z75:=Tryz.sizeOf131
 v75:=Tryz.zeroValue131
 t164:=Tryz.underlying193
 a164:=Tryz.isAgg193
 z164:=Tryz.sizeOf193
 v164:=Tryz.zeroValue193}
theorem Tryz.Builder_Extra_167:Builder.Extra Tryz.prog Tryz.lays167_ren:={
 sizeBuilder:=by kernel_rfl
 liesBuilder:=by kernel_rfl
 t5:=Tryz.underlying5
 a5:=Tryz.isAgg5
 z5:=Tryz.sizeOf5
 v5:=Tryz.zeroValue5
 infoByte:=by kernel_rfl
 cellsByte:=by kernel_rfl
 sizeByte:=by kernel_rfl
 neB5:=by decide}
def Tryz.lays169_ren:Go.Shelf.Ren:=⟨fun|169=>100|n=>n,fun|37=>47|70=>126|72=>128|127=>167|n=>n,fun|n=>n⟩
theorem Tryz.lays169:Go.Proofs.Lays.n169 Tryz.prog Tryz.lays169_ren:={
 mixed:=by kernel_rfl
 f169:=Tryz.func100.trans (congrArg some (by kernel_rfl))
 t0:=Tryz.underlying0
 a0:=Tryz.isAgg0
 z0:=Tryz.sizeOf0
 v0:=Tryz.zeroValue0
 t3:=Tryz.underlying3
 a3:=Tryz.isAgg3
 z3:=Tryz.sizeOf3
 v3:=Tryz.zeroValue3
 t9:=Tryz.underlying9
 a9:=Tryz.isAgg9
 z9:=Tryz.sizeOf9
 v9:=Tryz.zeroValue9
 t37:=Tryz.underlying47
 a37:=Tryz.isAgg47
 z37:=Tryz.sizeOf47
 v37:=Tryz.zeroValue47
 t70:=Tryz.underlying126
 a70:=Tryz.isAgg126
 z70:=Tryz.sizeOf126
 v70:=Tryz.zeroValue126
 t72:=Tryz.underlying128
 a72:=Tryz.isAgg128
 z72:=Tryz.sizeOf128
 v72:=Tryz.zeroValue128
 t127:=Tryz.underlying167
 a127:=Tryz.isAgg167
 z127:=Tryz.sizeOf167
 v127:=Tryz.zeroValue167}
theorem Tryz.Builder_Extra_169:Builder.Extra Tryz.prog Tryz.lays169_ren:={
 sizeBuilder:=by kernel_rfl
 liesBuilder:=by kernel_rfl
 t5:=Tryz.underlying5
 a5:=Tryz.isAgg5
 z5:=Tryz.sizeOf5
 v5:=Tryz.zeroValue5
 infoByte:=by kernel_rfl
 cellsByte:=by kernel_rfl
 sizeByte:=by kernel_rfl
 neB5:=by decide}
def Tryz.laysM171_ren:Go.Shelf.Ren:=⟨fun|129=>219|171=>166|243=>184|246=>197|283=>210|284=>211|285=>212|286=>213|317=>218|318=>220|319=>221|320=>222|337=>223|338=>224|n=>n,fun|37=>47|46=>122|51=>161|53=>164|171=>224|173=>227|212=>234|213=>235|232=>241|233=>242|n=>n,fun|17=>3|18=>4|19=>5|n=>n⟩
theorem Tryz.laysM171:Go.Proofs.LaysM.n171 Tryz.prog Tryz.laysM171_ren:={
 mixed:=by kernel_rfl
 f129:=Tryz.func219.trans (congrArg some (by kernel_rfl))
 f171:=Tryz.func166.trans (congrArg some (by kernel_rfl))
 f243:=Tryz.func184.trans (congrArg some (by kernel_rfl))
 f246:=Tryz.func197.trans (congrArg some (by kernel_rfl))
 f283:=Tryz.func210.trans (congrArg some (by kernel_rfl))
 f284:=Tryz.func211.trans (congrArg some (by kernel_rfl))
 f285:=Tryz.func212.trans (congrArg some (by kernel_rfl))
 f286:=Tryz.func213.trans (congrArg some (by kernel_rfl))
 f317:=Tryz.func218.trans (congrArg some (by kernel_rfl))
 f318:=Tryz.func220.trans (congrArg some (by kernel_rfl))
 f319:=Tryz.func221.trans (congrArg some (by kernel_rfl))
 f320:=Tryz.func222.trans (congrArg some (by kernel_rfl))
 f337:=Tryz.func223.trans (congrArg some (by kernel_rfl))
 f338:=Tryz.func224.trans (congrArg some (by kernel_rfl))
 t0:=Tryz.underlying0
 a0:=Tryz.isAgg0
 z0:=Tryz.sizeOf0
 v0:=Tryz.zeroValue0
 t2:=Tryz.underlying2
 a2:=Tryz.isAgg2
 z2:=Tryz.sizeOf2
 v2:=Tryz.zeroValue2
 t3:=Tryz.underlying3
 a3:=Tryz.isAgg3
 z3:=Tryz.sizeOf3
 v3:=Tryz.zeroValue3
 t4:=Tryz.underlying4
 a4:=Tryz.isAgg4
 z4:=Tryz.sizeOf4
 v4:=Tryz.zeroValue4
 t5:=Tryz.underlying5
 a5:=Tryz.isAgg5
 z5:=Tryz.sizeOf5
 v5:=Tryz.zeroValue5
 t9:=Tryz.underlying9
 a9:=Tryz.isAgg9
 z9:=Tryz.sizeOf9
 v9:=Tryz.zeroValue9
 t20:=Tryz.underlying20
 a20:=Tryz.isAgg20
 z20:=Tryz.sizeOf20
 v20:=Tryz.zeroValue20
 t37:=Tryz.underlying47
 a37:=Tryz.isAgg47
 z37:=Tryz.sizeOf47
 v37:=Tryz.zeroValue47
 t46:=Tryz.underlying122
 a46:=Tryz.isAgg122
 z46:=Tryz.sizeOf122
 v46:=Tryz.zeroValue122
 t51:=Tryz.underlying161
 a51:=Tryz.isAgg161
 z51:=Tryz.sizeOf161
 v51:=Tryz.zeroValue161
 t53:=Tryz.underlying164
 a53:=Tryz.isAgg164
 z53:=Tryz.sizeOf164
 v53:=Tryz.zeroValue164
 t171:=Tryz.underlying224
 a171:=Tryz.isAgg224
 z171:=Tryz.sizeOf224
 v171:=Tryz.zeroValue224
 t173:=Tryz.underlying227
 a173:=Tryz.isAgg227
 z173:=Tryz.sizeOf227
 v173:=Tryz.zeroValue227
 t212:=Tryz.underlying234
 a212:=Tryz.isAgg234
 z212:=Tryz.sizeOf234
 v212:=Tryz.zeroValue234
 t213:=Tryz.underlying235
 a213:=Tryz.isAgg235
 z213:=Tryz.sizeOf235
 t232:=Tryz.underlying241
 a232:=Tryz.isAgg241
 z232:=Tryz.sizeOf241
 v232:=Tryz.zeroValue241
 t233:=Tryz.underlying242
 a233:=Tryz.isAgg242
 z233:=Tryz.sizeOf242
 v233:=Tryz.zeroValue242
 g17:=by kernel_rfl
 g18:=by kernel_rfl
 g19:=by kernel_rfl
 i0:=by kernel_rfl
 i2:=by kernel_rfl
 i3:=by kernel_rfl
 i4:=by kernel_rfl
 i5:=by kernel_rfl
 i9:=by kernel_rfl
 i20:=by kernel_rfl
 i37:=by kernel_rfl
 i46:=by kernel_rfl
 i51:=by kernel_rfl
 i53:=by kernel_rfl
 i171:=by kernel_rfl
 i173:=by kernel_rfl
 i212:=by kernel_rfl
 i232:=by kernel_rfl
 i233:=by kernel_rfl
 m17:=by kernel_rfl
 m18:=by kernel_rfl
 m19:=by kernel_rfl}
open Go.RowKit Go.Sort Go.Lib in
theorem Tryz.strconv_Itoa(n:Int)(h0: -9223372036854775808<=n)(h1:n<=9223372036854775807)(w:World)(htab:Lib.TabIs Tryz.prog w "internal/strconv.uint64pow10" .u64 Lib.pow10Tab):
  Calls Tryz.prog 166 #[.int .i64 n] w fun e w'=>e= .returned (.string ⟨(Lib.itoa n).toArray⟩)/\∃ k os,w'=grow (w.drewN k) os:=Any.strconv_Itoa Tryz.laysM171 n h0 h1 w htab
def Tryz.laysPu14_ren:Go.Shelf.Ren:=⟨fun|14=>173|16=>187|17=>188|19=>202|20=>203|21=>204|22=>205|23=>206|24=>207|25=>216|26=>217|27=>166|28=>184|29=>197|30=>210|31=>211|32=>212|33=>213|34=>218|35=>219|36=>220|37=>221|38=>222|39=>223|40=>224|n=>n,fun|22=>164|24=>131|25=>191|34=>216|36=>122|37=>47|39=>218|44=>231|47=>167|48=>237|50=>239|52=>224|55=>227|59=>234|60=>161|61=>235|65=>241|66=>242|67=>135|n=>n,fun|0=>1|1=>2|2=>3|3=>4|4=>5|n=>n⟩
theorem Tryz.laysPu14:Go.Proofs.LaysPu.n14 Tryz.prog Tryz.laysPu14_ren:={
 mixed:=by kernel_rfl
 f14:=Tryz.func173.trans (congrArg some (by kernel_rfl))
 f16:=Tryz.func187.trans (congrArg some (by kernel_rfl))
 f17:=Tryz.func188.trans (congrArg some (by kernel_rfl))
 f19:=Tryz.func202.trans (congrArg some (by kernel_rfl))
 f20:=Tryz.func203.trans (congrArg some (by kernel_rfl))
 f21:=Tryz.func204.trans (congrArg some (by kernel_rfl))
 f22:=Tryz.func205.trans (congrArg some (by kernel_rfl))
 f23:=Tryz.func206.trans (congrArg some (by kernel_rfl))
 f24:=Tryz.func207.trans (congrArg some (by kernel_rfl))
 f25:=Tryz.func216.trans (congrArg some (by kernel_rfl))
 f26:=Tryz.func217.trans (congrArg some (by kernel_rfl))
 f27:=Tryz.func166.trans (congrArg some (by kernel_rfl))
 f28:=Tryz.func184.trans (congrArg some (by kernel_rfl))
 f29:=Tryz.func197.trans (congrArg some (by kernel_rfl))
 f30:=Tryz.func210.trans (congrArg some (by kernel_rfl))
 f31:=Tryz.func211.trans (congrArg some (by kernel_rfl))
 f32:=Tryz.func212.trans (congrArg some (by kernel_rfl))
 f33:=Tryz.func213.trans (congrArg some (by kernel_rfl))
 f34:=Tryz.func218.trans (congrArg some (by kernel_rfl))
 f35:=Tryz.func219.trans (congrArg some (by kernel_rfl))
 f36:=Tryz.func220.trans (congrArg some (by kernel_rfl))
 f37:=Tryz.func221.trans (congrArg some (by kernel_rfl))
 f38:=Tryz.func222.trans (congrArg some (by kernel_rfl))
 f39:=Tryz.func223.trans (congrArg some (by kernel_rfl))
 f40:=Tryz.func224.trans (congrArg some (by kernel_rfl))
 t0:=Tryz.underlying0
 a0:=Tryz.isAgg0
 z0:=Tryz.sizeOf0
 v0:=Tryz.zeroValue0
 i0:=by kernel_rfl
 t2:=Tryz.underlying2
 a2:=Tryz.isAgg2
 z2:=Tryz.sizeOf2
 v2:=Tryz.zeroValue2
 i2:=by kernel_rfl
 t3:=Tryz.underlying3
 a3:=Tryz.isAgg3
 z3:=Tryz.sizeOf3
 v3:=Tryz.zeroValue3
 i3:=by kernel_rfl
 t4:=Tryz.underlying4
 a4:=Tryz.isAgg4
 z4:=Tryz.sizeOf4
 v4:=Tryz.zeroValue4
 i4:=by kernel_rfl
 t5:=Tryz.underlying5
 a5:=Tryz.isAgg5
 z5:=Tryz.sizeOf5
 v5:=Tryz.zeroValue5
 i5:=by kernel_rfl
 t9:=Tryz.underlying9
 a9:=Tryz.isAgg9
 z9:=Tryz.sizeOf9
 v9:=Tryz.zeroValue9
 i9:=by kernel_rfl
 t20:=Tryz.underlying20
 a20:=Tryz.isAgg20
 z20:=Tryz.sizeOf20
 v20:=Tryz.zeroValue20
 i20:=by kernel_rfl
 t21:=Tryz.underlying21
 a21:=Tryz.isAgg21
 z21:=Tryz.sizeOf21
 v21:=Tryz.zeroValue21
 i21:=by kernel_rfl
 t22:=Tryz.underlying164
 a22:=Tryz.isAgg164
 z22:=Tryz.sizeOf164
 v22:=Tryz.zeroValue164
 i22:=by kernel_rfl
 t24:=Tryz.underlying131
 a24:=Tryz.isAgg131
 z24:=Tryz.sizeOf131
 v24:=Tryz.zeroValue131
 i24:=by kernel_rfl
 t25:=Tryz.underlying191
 a25:=Tryz.isAgg191
 z25:=Tryz.sizeOf191
 v25:=Tryz.zeroValue191
 i25:=by kernel_rfl
 t34:=Tryz.underlying216
 a34:=Tryz.isAgg216
 z34:=Tryz.sizeOf216
 v34:=Tryz.zeroValue216
 i34:=by kernel_rfl
 c34:=by kernel_rfl
 t36:=Tryz.underlying122
 a36:=Tryz.isAgg122
 z36:=Tryz.sizeOf122
 v36:=Tryz.zeroValue122
 i36:=by kernel_rfl
 t37:=Tryz.underlying47
 a37:=Tryz.isAgg47
 z37:=Tryz.sizeOf47
 v37:=Tryz.zeroValue47
 i37:=by kernel_rfl
 t39:=Tryz.underlying218
 a39:=Tryz.isAgg218
 z39:=Tryz.sizeOf218
 v39:=Tryz.zeroValue218
 i39:=by kernel_rfl
 t44:=Tryz.underlying231
 a44:=Tryz.isAgg231
 z44:=Tryz.sizeOf231
 v44:=Tryz.zeroValue231
 i44:=by kernel_rfl
 t47:=Tryz.underlying167
 a47:=Tryz.isAgg167
 z47:=Tryz.sizeOf167
 v47:=Tryz.zeroValue167
 i47:=by kernel_rfl
 t48:=Tryz.underlying237
 a48:=Tryz.isAgg237
 z48:=Tryz.sizeOf237
 v48:=Tryz.zeroValue237
 i48:=by kernel_rfl
 t50:=Tryz.underlying239
 a50:=Tryz.isAgg239
 z50:=Tryz.sizeOf239
 v50:=Tryz.zeroValue239
 i50:=by kernel_rfl
 t52:=Tryz.underlying224
 a52:=Tryz.isAgg224
 z52:=Tryz.sizeOf224
 v52:=Tryz.zeroValue224
 i52:=by kernel_rfl
 t55:=Tryz.underlying227
 a55:=Tryz.isAgg227
 z55:=Tryz.sizeOf227
 v55:=Tryz.zeroValue227
 i55:=by kernel_rfl
 t59:=Tryz.underlying234
 a59:=Tryz.isAgg234
 z59:=Tryz.sizeOf234
 v59:=Tryz.zeroValue234
 i59:=by kernel_rfl
 t60:=Tryz.underlying161
 a60:=Tryz.isAgg161
 z60:=Tryz.sizeOf161
 v60:=Tryz.zeroValue161
 i60:=by kernel_rfl
 t61:=Tryz.underlying235
 a61:=Tryz.isAgg235
 z61:=Tryz.sizeOf235
 t65:=Tryz.underlying241
 a65:=Tryz.isAgg241
 z65:=Tryz.sizeOf241
 v65:=Tryz.zeroValue241
 i65:=by kernel_rfl
 t66:=Tryz.underlying242
 a66:=Tryz.isAgg242
 z66:=Tryz.sizeOf242
 v66:=Tryz.zeroValue242
 i66:=by kernel_rfl
 t67:=Tryz.underlying135
 a67:=Tryz.isAgg135
 z67:=Tryz.sizeOf135
 v67:=Tryz.zeroValue135
 i67:=by kernel_rfl
 g0:=by kernel_rfl
 m0:=by kernel_rfl
 g1:=by kernel_rfl
 m1:=by kernel_rfl
 g2:=by kernel_rfl
 m2:=by kernel_rfl
 g3:=by kernel_rfl
 m3:=by kernel_rfl
 g4:=by kernel_rfl
 m4:=by kernel_rfl}
open Go.RowKit in
theorem Tryz.strconv_ParseUint_10_at32_ok(s:ByteArray)(hmax:s.size<=9223372036854775806)(u:Nat)(h:Lib.parseUintB 32 s.data.toList= .ok u)(w:World):
  Calls Tryz.prog 173 #[.string s,.int .i64 10,.int .i64 32] w fun e w'=>e= .returned (.tuple #[.int .u64 u,.nilIface])/\(w'=w∨w'=Lib.bytesWorld w 5 s):=Any.strconv_ParseUint_10_at32_ok Tryz.laysPu14 s hmax u h w
end Go.Proofs
end
section
namespace Go.Proofs
open Go.RowKit Go.Cm Go.Sort
theorem oL{T e:TypeId}{B b:Nat}{bs:List Value}{w w':World}(h:Lib.IsBuilder T e B b bs w)(hg:w.grownBy w' none):Lib.IsBuilder T e B b bs w':=by
 have key:∀ p,Lib.BuilderAt T e B b p bs w->Lib.BuilderAt T e B b p bs w':=by
  rintro p ⟨h1,v,h2,h3,h4⟩;exact⟨h1,v,(hg.block b (Array.getElem?_eq_some_iff.1 h2).1 (by simp)).trans h2,h3.kept hg (by cases v.ownBlock<;>simp),h4⟩
 exact h.imp (key _) (key _)
theorem MI{n:Nat}(h:n<=9):(⟨#[48,48,48,48,48,48,48,48,48]⟩:ByteArray).extract n 9=⟨(List.replicate (9-n) (48:UInt8)).toArray⟩:=by
 have:∀ n:Fin 10,(⟨#[48,48,48,48,48,48,48,48,48]⟩:ByteArray).extract n.1 9=⟨(List.replicate (9-n.1) (48:UInt8)).toArray⟩:=by decide
 exact this ⟨n,by omega⟩
theorem jU(B:Nat)(w:World)(hB:B<=w.heap.size)(k:Nat)(os:Array Obj):Below B w (grow (w.drewN k) os):=by
 refine⟨rfl,rfl,rfl,?_,fun i hi=> ?_⟩;·show w.heap.size<=(w.heap++os).size;simp
 ·show (w.heap++os)[i]? =w.heap[i]?;rw[Array.getElem?_append_left (by omega)]
theorem vg(w:World)(k:Nat)(os:Array Obj):w.grownBy (grow (w.drewN k) os) none:=by
 have:=jU w.heap.size w (Nat.le_refl _) k os;exact⟨this.os,this.tape,this.output,this.size,fun i hi _=>this.block i hi⟩
set_option maxRecDepth 100000 in
set_option maxHeartbeats 1000000 in
theorem Jw(s:Bool)(xs:List Int)(b o cap:Nat)(w:World)(hne:0<xs.length)(hl:Lim xs)(hlen:xs.length<=1000000000000)(hb:b<w.heap.size)(hc:∀ j,j<xs.length->w.cell? ⟨b,o+j,none⟩=some (.int .u32 (xs.getD j 0)))
  (hT:∀ W,Below w.heap.size w W->Lib.TabIs Tryz.prog W "internal/strconv.uint64pow10" .u64 Lib.pow10Tab):
  Calls Tryz.prog 144 #[.agg #[.bool s,.slice (some ⟨b,o,none⟩) xs.length cap]] w fun e w'=>e= .returned (.string ⟨(fP s xs xs.length).toArray⟩)/\Below w.heap.size w w':=by
 have h0:((xs.length:Int)==0)=false:=beq_eq_false_iff_ne.2 (by omega);obtain⟨W0,hW0⟩:∃ W0,W0=w.alloc (.cells #[.bool s,.slice (some ⟨b,o,none⟩) xs.length cap] 89):=⟨_,rfl⟩;cases s
 ·go_enter Tryz.func144,Tryz.ntmps144
  go_wp2_with fail
  go_loopw [4] (fun i wr=>∃ k:Nat,k<=xs.length/\i= .int .i64 ((xs.length:Int)-1-k)/\Lib.IsBuilder 128 5 (w.heap.size+1) (w.heap.size+1) (Lib.byteCells (fP false xs k)) wr/\Below (w.heap.size+1) W0 wr) (fun i _=>(intOf i+1).toNat)
  case atStart=>
   (refine⟨0,Nat.zero_le _,by simp,?_,?_⟩;·have:=Lib.fresh_isBuilder 128 5 (w.alloc (.cells #[.bool false,.slice (some ⟨b,o,none⟩) xs.length cap] 89));rw[World.size_alloc] at this;exact this);·rw[hW0];exact(Below.refl _ _).alloc (by simp) _
  case round=>
   obtain⟨k,hk,rfl,hI,hbw⟩:=hrel;have hB0:Below w.heap.size w wr:=(((Below.refl _ _).alloc (Nat.le_refl _) _).trans ((by rw[hW0] at hbw;exact hbw.mono (by omega))));have g0:wr.cell? ⟨w.heap.size,0,none⟩=some (.bool false):=by
    rw[hbw.cell (p:=⟨w.heap.size,0,none⟩) (by simp),hW0];exact cell_of_row _ _ 0 _ _ _ (heap_alloc_new w _)
   have g1:wr.cell? ⟨w.heap.size,1,none⟩=some (.slice (some ⟨b,o,none⟩) xs.length cap):=by
    rw[hbw.cell (p:=⟨w.heap.size,1,none⟩) (by simp),hW0];exact cell_of_row _ _ 1 _ _ _ (heap_alloc_new w _)
   by_cases hlt:k<xs.length
   ·(have hge:0<=(xs.length:Int)-1-k:=by omega);(have htn:((xs.length:Int)-1-k).toNat=xs.length-1-k:=by omega);(have hup:(xs.length:Int)-1-k<xs.length:=by omega);obtain⟨x,hx⟩:∃ x,x=xs.getD (xs.length-1-k) 0:=⟨_,rfl⟩;have hc1:wr.cell? ⟨b,o+(xs.length-1-k),none⟩=some (.int .u32 x):=by
     rw[hB0.cell (p:=⟨b,o+(xs.length-1-k),none⟩) hb,hx];exact hc _ (by omega)
    have hxl:=hl.getD (xs.length-1-k);rw[<- hx] at hxl;have hB:LB=1000000000:=rfl;obtain⟨hx0,hx1⟩:=hxl;rw[hB] at hx1;have HX:=Lib.hid hx;clear hx hB;have hil:=ry hx0 (by rw[show LB=1000000000 from rfl];exact hx1)
    go_wp2_with fail
    refine(Tryz.strconv_Itoa x (by omega) (by omega) wr (hT wr hB0)).mono ?_;rintro e W1 ⟨rfl,q,os,hW1⟩;have hg:=vg wr q os;have hb1:=jU wr.heap.size wr (Nat.le_refl _) q os;rw[<- hW1] at hg hb1;have hI1:=oL hI hg;clear hg;have hsz:w.heap.size+1<wr.heap.size:=by
     rcases hI with h|h<;>exact h.lt
    clear hI hW1;have hbw1:Below (w.heap.size+1) W0 W1:=hbw.trans (hb1.mono (by omega));have f0:W1.cell? ⟨w.heap.size,0,none⟩=some (.bool false):=(hb1.cell (p:=⟨w.heap.size,0,none⟩) (by simp only;omega)).trans g0;have f1:W1.cell? ⟨w.heap.size,1,none⟩=some (.slice (some ⟨b,o,none⟩) xs.length cap):=(hb1.cell (p:=⟨w.heap.size,1,none⟩) (by simp only;omega)).trans g1;(have hszw:w.heap.size+1<=W1.heap.size:=by have:=hb1.size;omega);have hacc:=pK (s:=false) hl k;(have hacc2:fP false xs (k+1)=fP false xs k++((if k=0 then [] else List.replicate (9-(Lib.itoa x).length) 48)++Lib.itoa x):=by rw[HX.out];rfl);have HA:=Lib.hid hacc2;clear hacc2 HX;generalize hl1:Lib.itoa x=l at*;clear hl1;obtain⟨hil1,hil2⟩:=hil;by_cases hk0:k=0
    ·have HK:=Lib.hid hk0;(have hnl: ¬ ((xs.length:Int)-1-k<(xs.length:Int)-1):=by omega);clear hk0
     go_wp2_with fail
     refine(Any.Builder_WriteString Tryz.lays166 Tryz.Builder_Extra_166 (w.heap.size+1) (w.heap.size+1) _ ⟨l.toArray⟩ _ hI1 (by rw[Lib.byteCells_length];simp only[ByteArray.size,List.size_toArray];omega) hszw).mono ?_;rintro e W2 ⟨rfl,h2,b2⟩
     go_wp2
     go_roundw
     case rel=>
      refine⟨k+1,by omega,by congr 1;omega,?_,hbw1.trans b2⟩;have e:=HA.out;rw[if_pos HK.out,List.nil_append] at e;rw[e,Lib.byteCells_append];exact .inr h2
     case measure=>simp[intOf];omega
    ·(have hnl:(xs.length:Int)-1-k<(xs.length:Int)-1:=by omega);(have hl9:(l.length:Int)<=9:=by omega);have HK:=Lib.hid hk0;clear hk0
     go_wp2_with fail
     rw[MI hil2];refine(Any.Builder_WriteString Tryz.lays166 Tryz.Builder_Extra_166 (w.heap.size+1) (w.heap.size+1) _ ⟨(List.replicate (9-l.length) (48:UInt8)).toArray⟩ _ hI1 (by rw[Lib.byteCells_length];simp only[ByteArray.size,List.size_toArray,List.length_replicate];omega) hszw).mono ?_;rintro e W2 ⟨rfl,h2,b2⟩;(have hszw2:w.heap.size+1<=W2.heap.size:=by have:=b2.size;omega);clear hI1
     go_wp2_with fail
     refine(Any.Builder_WriteString Tryz.lays166 Tryz.Builder_Extra_166 (w.heap.size+1) (w.heap.size+1) _ ⟨l.toArray⟩ _ (.inr h2) (by rw[List.length_append,Lib.strCells_length,Lib.byteCells_length];simp only[ByteArray.size,List.size_toArray,List.length_replicate];omega) hszw2).mono ?_;rintro e W3 ⟨rfl,h3,b3⟩
     go_wp2
     go_roundw
     case rel=>
      refine⟨k+1,by omega,by congr 1;omega,?_,(hbw1.trans b2).trans b3⟩;have e:=HA.out;rw[if_neg HK.out,<- List.append_assoc] at e;rw[e,Lib.byteCells_append,Lib.byteCells_append];exact .inr h3
     case measure=>simp[intOf];omega
   ·(have hk2:k=xs.length:=by omega);(have hnl: ¬ (0<=(xs.length:Int)-1-k):=by omega);have HK:=Lib.hid hk2;clear hk2;have hszw:w.heap.size+1<=wr.heap.size:=by
     rcases hI with h|h<;>exact Nat.le_of_lt h.lt
    go_wp2_with fail
    refine(Any.Builder_String_any Tryz.lays169 Tryz.Builder_Extra_169 (w.heap.size+1) (w.heap.size+1) _ _ hI hszw).mono ?_;rintro e W2 ⟨rfl,b2⟩
    go_wp2
    go_ret
    exact⟨by rw[HK.out];rfl,hB0.trans (b2.mono (by omega))⟩
 ·go_enter Tryz.func144,Tryz.ntmps144
  go_wp2_with fail
  have hf:=Lib.fresh_isBuilder 128 5 (w.alloc (.cells #[.bool true,.slice (some ⟨b,o,none⟩) xs.length cap] 89));rw[World.size_alloc] at hf;refine(Any.Builder_WriteByte Tryz.lays167 Tryz.Builder_Extra_167 (w.heap.size+1) (w.heap.size+1) [] 45 _ hf (by simp) (by simp)).mono ?_;rintro e W1 ⟨rfl,h1,b1⟩;have hb1:Below (w.heap.size+1) W0 W1:=by rw[hW0];exact((Below.refl _ _).alloc (by simp) _).trans b1
  have f0:W1.cell? ⟨w.heap.size,0,none⟩=some (.bool true):=by
   rw[hb1.cell (p:=⟨w.heap.size,0,none⟩) (by simp),hW0];exact cell_of_row _ _ 0 _ _ _ (heap_alloc_new w _)
  have f1:W1.cell? ⟨w.heap.size,1,none⟩=some (.slice (some ⟨b,o,none⟩) xs.length cap):=by
   rw[hb1.cell (p:=⟨w.heap.size,1,none⟩) (by simp),hW0];exact cell_of_row _ _ 1 _ _ _ (heap_alloc_new w _)
  go_wp2_with fail
  go_loopw [4] (fun i wr=>∃ k:Nat,k<=xs.length/\i= .int .i64 ((xs.length:Int)-1-k)/\Lib.IsBuilder 128 5 (w.heap.size+1) (w.heap.size+1) (Lib.byteCells (fP true xs k)) wr/\Below (w.heap.size+1) W0 wr) (fun i _=>(intOf i+1).toNat)
  case atStart=>exact⟨0,Nat.zero_le _,by simp,.inr h1,hb1⟩
  case round=>
   obtain⟨k,hk,rfl,hI,hbw⟩:=hrel;have hB0:Below w.heap.size w wr:=(((Below.refl _ _).alloc (Nat.le_refl _) _).trans ((by rw[hW0] at hbw;exact hbw.mono (by omega))));have g0:wr.cell? ⟨w.heap.size,0,none⟩=some (.bool true):=by
    rw[hbw.cell (p:=⟨w.heap.size,0,none⟩) (by simp),hW0];exact cell_of_row _ _ 0 _ _ _ (heap_alloc_new w _)
   have g1:wr.cell? ⟨w.heap.size,1,none⟩=some (.slice (some ⟨b,o,none⟩) xs.length cap):=by
    rw[hbw.cell (p:=⟨w.heap.size,1,none⟩) (by simp),hW0];exact cell_of_row _ _ 1 _ _ _ (heap_alloc_new w _)
   by_cases hlt:k<xs.length
   ·(have hge:0<=(xs.length:Int)-1-k:=by omega);(have htn:((xs.length:Int)-1-k).toNat=xs.length-1-k:=by omega);(have hup:(xs.length:Int)-1-k<xs.length:=by omega);obtain⟨x,hx⟩:∃ x,x=xs.getD (xs.length-1-k) 0:=⟨_,rfl⟩;have hc1:wr.cell? ⟨b,o+(xs.length-1-k),none⟩=some (.int .u32 x):=by
     rw[hB0.cell (p:=⟨b,o+(xs.length-1-k),none⟩) hb,hx];exact hc _ (by omega)
    have hxl:=hl.getD (xs.length-1-k);rw[<- hx] at hxl;have hB:LB=1000000000:=rfl;obtain⟨hx0,hx1⟩:=hxl;rw[hB] at hx1;have HX:=Lib.hid hx;clear hx hB;have hil:=ry hx0 (by rw[show LB=1000000000 from rfl];exact hx1)
    go_wp2_with fail
    refine(Tryz.strconv_Itoa x (by omega) (by omega) wr (hT wr hB0)).mono ?_;rintro e W1 ⟨rfl,q,os,hW1⟩;have hg:=vg wr q os;have hb1:=jU wr.heap.size wr (Nat.le_refl _) q os;rw[<- hW1] at hg hb1;have hI1:=oL hI hg;clear hg;have hsz:w.heap.size+1<wr.heap.size:=by
     rcases hI with h|h<;>exact h.lt
    clear hI hW1;have hbw1:Below (w.heap.size+1) W0 W1:=hbw.trans (hb1.mono (by omega));have f0:W1.cell? ⟨w.heap.size,0,none⟩=some (.bool true):=(hb1.cell (p:=⟨w.heap.size,0,none⟩) (by simp only;omega)).trans g0;have f1:W1.cell? ⟨w.heap.size,1,none⟩=some (.slice (some ⟨b,o,none⟩) xs.length cap):=(hb1.cell (p:=⟨w.heap.size,1,none⟩) (by simp only;omega)).trans g1;(have hszw:w.heap.size+1<=W1.heap.size:=by have:=hb1.size;omega);have hacc:=pK (s:=true) hl k;(have hacc2:fP true xs (k+1)=fP true xs k++((if k=0 then [] else List.replicate (9-(Lib.itoa x).length) 48)++Lib.itoa x):=by rw[HX.out];rfl);have HA:=Lib.hid hacc2;clear hacc2 HX;generalize hl1:Lib.itoa x=l at*;clear hl1;obtain⟨hil1,hil2⟩:=hil;by_cases hk0:k=0
    ·have HK:=Lib.hid hk0;(have hnl: ¬ ((xs.length:Int)-1-k<(xs.length:Int)-1):=by omega);clear hk0
     go_wp2_with fail
     refine(Any.Builder_WriteString Tryz.lays166 Tryz.Builder_Extra_166 (w.heap.size+1) (w.heap.size+1) _ ⟨l.toArray⟩ _ hI1 (by rw[Lib.byteCells_length];simp only[ByteArray.size,List.size_toArray];omega) hszw).mono ?_;rintro e W2 ⟨rfl,h2,b2⟩
     go_wp2
     go_roundw
     case rel=>
      refine⟨k+1,by omega,by congr 1;omega,?_,hbw1.trans b2⟩;have e:=HA.out;rw[if_pos HK.out,List.nil_append] at e;rw[e,Lib.byteCells_append];exact .inr h2
     case measure=>simp[intOf];omega
    ·(have hnl:(xs.length:Int)-1-k<(xs.length:Int)-1:=by omega);(have hl9:(l.length:Int)<=9:=by omega);have HK:=Lib.hid hk0;clear hk0
     go_wp2_with fail
     rw[MI hil2];refine(Any.Builder_WriteString Tryz.lays166 Tryz.Builder_Extra_166 (w.heap.size+1) (w.heap.size+1) _ ⟨(List.replicate (9-l.length) (48:UInt8)).toArray⟩ _ hI1 (by rw[Lib.byteCells_length];simp only[ByteArray.size,List.size_toArray,List.length_replicate];omega) hszw).mono ?_;rintro e W2 ⟨rfl,h2,b2⟩;(have hszw2:w.heap.size+1<=W2.heap.size:=by have:=b2.size;omega);clear hI1
     go_wp2_with fail
     refine(Any.Builder_WriteString Tryz.lays166 Tryz.Builder_Extra_166 (w.heap.size+1) (w.heap.size+1) _ ⟨l.toArray⟩ _ (.inr h2) (by rw[List.length_append,Lib.strCells_length,Lib.byteCells_length];simp only[ByteArray.size,List.size_toArray,List.length_replicate];omega) hszw2).mono ?_;rintro e W3 ⟨rfl,h3,b3⟩
     go_wp2
     go_roundw
     case rel=>
      refine⟨k+1,by omega,by congr 1;omega,?_,(hbw1.trans b2).trans b3⟩;have e:=HA.out;rw[if_neg HK.out,<- List.append_assoc] at e;rw[e,Lib.byteCells_append,Lib.byteCells_append];exact .inr h3
     case measure=>simp[intOf];omega
   ·(have hk2:k=xs.length:=by omega);(have hnl: ¬ (0<=(xs.length:Int)-1-k):=by omega);have HK:=Lib.hid hk2;clear hk2;have hszw:w.heap.size+1<=wr.heap.size:=by
     rcases hI with h|h<;>exact Nat.le_of_lt h.lt
    go_wp2_with fail
    refine(Any.Builder_String_any Tryz.lays169 Tryz.Builder_Extra_169 (w.heap.size+1) (w.heap.size+1) _ _ hI hszw).mono ?_;rintro e W2 ⟨rfl,b2⟩
    go_wp2
    go_ret
    exact⟨by rw[HK.out];rfl,hB0.trans (b2.mono (by omega))⟩
end Go.Proofs
end
section
namespace Go.Proofs
open Go.RowKit Go.Cm
def Qo(B:aj):Prop:=∀ w,B.On w->Lib.TabIs Tryz.prog w "internal/strconv.uint64pow10" .u64 Lib.pow10Tab
def TT(B:aj):Prop:=∀ w,B.On w->∃ m,w.cell? ⟨0,0,none⟩=some (.int .i64 m)
def aC(B:aj):Prop:=Qo B/\TT B
def xo:Con:=fun l os=>match l,os with
 | [.z (.int .i64) n],[]=>some (I64 n,[.z .str (Lib.itoa n)],[])
 |_,_=>none
theorem GT{B:aj}(hB:aC B):Valid B Tryz.prog 166 xo:=by
 intro args os C rs os' hc hC O w vals ρ0 hOn hIo hO hOI hargs hown hap;unfold xo at hc;split at hc;case h_2=>cases hc
 cases hc;obtain⟨v,rfl,hv⟩:=ru hargs;rw[bD hv];exact GP ((Tryz.strconv_Itoa _ hC.1 hC.2 w (hB.1 w hOn)).mono fun e w' ⟨he,k,os,hw⟩=>⟨he,by rw[hw];exact jU _ _ (Nat.le_refl _) _ _⟩) (fun H w=>fG (ρ:=fun _=>undef))
def numOf(l:List UInt8):Nat:=l.foldl (fun n c=>n*10+(c.toNat-48)) 0
def dL(l:List UInt8):Prop:=∀ c∈l,48<=c.toNat/\c.toNat<=57
def y7:Con:=fun l os=>match l,os with
 | [.z .str s,.z (.int .i64) 10,.z (.int .i64) 32],[]=>some (s≠ []/\dL s/\s.length<=9,[.z (.int .u64) (numOf s),.val .nilIface],[])
 |_,_=>none
theorem Bc:∀ (l:List UInt8) (a:Nat),a<=l.foldl (fun n c=>n*10+(c.toNat-48)) a
 | [],_=>Nat.le_refl _
 |c::l,a=>Nat.le_trans (by omega) (Bc l (a*10+(c.toNat-48)))
theorem MJ:∀ (l:List UInt8) (a k:Nat),dL l->a<10^k->l.foldl (fun n c=>n*10+(c.toNat-48)) a<10^(k+l.length)
 | [],_,_,_,h=>h
 |c::l,a,k,hd,h=>by
  have h1:=hd c (by simp);have:=MJ l (a*10+(c.toNat-48)) (k+1) (fun x hx=>hd x (by simp[hx])) (by rw[Nat.pow_succ];omega);rw[List.foldl_cons,List.length_cons,show k+(l.length+1)=k+1+l.length by omega];exact this
theorem ix{l:List UInt8}(hd:dL l):numOf l<10^l.length:=by
 have:=MJ l 0 0 hd (by simp);rw[Nat.zero_add] at this;exact this
theorem Bd:∀ (l:List UInt8) (a:Nat),dL l->l.foldl (fun n c=>n*10+(c.toNat-48)) a<=4294967295->Lib.parseUintM (2^32-1) a l= .ok (l.foldl (fun n c=>n*10+(c.toNat-48)) a)
 | [],_,_,_=>rfl
 |c::l,a,hd,h=>by
  have h1:=hd c (by simp);have h2:=Bc l (a*10+(c.toNat-48));rw[List.foldl_cons] at h;rw[Lib.parseUintM,if_pos h1,if_neg (by omega),if_neg (by omega),Bd l _ (fun x hx=>hd x (by simp[hx])) h,List.foldl_cons]
theorem Qp{B:aj}(hB:aC B):Valid B Tryz.prog 173 y7:=by
 intro args os C rs os' hc hC O w vals ρ0 hOn hIo hO hOI hargs hown hap;unfold y7 at hc;split at hc;case h_2=>cases hc
 rename_i s;cases hc;obtain⟨u,v,t,rfl,hu,hv,ht⟩:=E2 hargs;rw[bD hv,bD ht,gw hu];obtain⟨h0,h1,h2⟩:=hC;have hsz:(⟨s.toArray⟩:ByteArray).size=s.length:=by simp[ByteArray.size]
 have hlt:=ix h1;have h9:numOf s<10^9:=Nat.lt_of_lt_of_le hlt (Nat.pow_le_pow_right (by omega) h2);have hp:Lib.parseUintB 32 s= .ok (numOf s):=by
  rw[Lib.parseUintB,if_neg h0];exact Bd s 0 h1 (by unfold numOf at h9;omega)
 refine(Tryz.strconv_ParseUint_10_at32_ok ⟨s.toArray⟩ (by rw[hsz];omega) (numOf s) hp w).mono fun e w' ⟨he,hw⟩=> ?_;have hb:Below w.heap.size w w':=by
  rcases hw with hw|hw;·rw[hw];exact Below.refl _ _
  ·rw[hw];exact⟨rfl,rfl,rfl,by rw[Lib.bytesWorld_size];omega,fun k hk=>Lib.bytesWorld_at_old w _ _ k hk⟩
 subst he;exact oI (vs:= [.int .u64 (numOf s),.nilIface]) hb (fun H M=>⟨b4 (ρ:=fun _=>undef),rfl,trivial⟩)
theorem gD{xs:List Int}{k:Nat}(hk:k<xs.length):valL (xs.drop (xs.length-1-k))=xs.getD (xs.length-1-k) 0+LB*valL (xs.drop (xs.length-k)):=by
 rw[List.drop_eq_getElem_cons (by omega),valL,show xs.length-1-k+1=xs.length-k by omega,List.getD_eq_getElem?_getD,List.getElem?_eq_getElem (by omega)];rfl
def vh(k u:Nat):List UInt8:=if k=0 then [] else List.replicate (k-(Lib.decDigits u).length) 48++Lib.decDigits u
theorem MK{k u:Nat}(hu:u<10^(k+1)):vh k (u/10)++ [UInt8.ofNat (48+u%10)]=vh (k+1) u:=by
 unfold vh;rw[if_neg (show ¬k+1=0 by omega)];by_cases hk:k=0
 ·subst hk;have hu10:u<10:=by simpa using hu
  rw[if_pos rfl,show Lib.decDigits u= [UInt8.ofNat (48+u)] by rw[Lib.decDigits,dif_pos hu10]];simp[Nat.mod_eq_of_lt hu10]
 ·rw[if_neg hk];by_cases hu10:u<10
  ·(have:u/10=0:=by omega);rw[this,show Lib.decDigits 0= [48] by rw[Lib.decDigits,dif_pos (by omega)];rfl,show Lib.decDigits u= [UInt8.ofNat (48+u)] by rw[Lib.decDigits,dif_pos hu10]];simp only[List.length_cons,List.length_nil,Nat.mod_eq_of_lt hu10,List.append_assoc];rw[show k+1-(0+1)=(k-(0+1))+1 by omega,List.replicate_succ'];simp
  ·(have e:Lib.decDigits u=Lib.decDigits (u/10)++ [UInt8.ofNat (48+u%10)]:=by conv=>lhs;rw[Lib.decDigits,dif_neg hu10]);rw[e];simp only[List.length_append,List.length_cons,List.length_nil,List.append_assoc];rw[show k+1-((Lib.decDigits (u/10)).length+(0+1))=k-(Lib.decDigits (u/10)).length by omega]
theorem kb:∀ (k u:Nat) (v:Nat),0<v->u<10^k->Lib.decDigits (u+10^k*v)=Lib.decDigits v++vh k u
 |0,u,v,hv,hu=>by
  have:u=0:=by omega
  subst this;simp[vh]
 |k+1,u,v,hv,hu=>by
  have h1:0<10^k:=Nat.pow_pos (by omega);have h2:10^(k+1)*1<=10^(k+1)*v:=Nat.mul_le_mul_left _ hv;have h3:10^(k+1)=10^k*10:=Nat.pow_succ ..;have e1:(u+10^(k+1)*v)/10=u/10+10^k*v:=by
   rw[h3,Nat.mul_right_comm,Nat.add_mul_div_right _ _ (by omega)]
  have e2:(u+10^(k+1)*v)%10=u%10:=by
   rw[h3,Nat.mul_right_comm,Nat.add_mul_mod_self_right]
  rw[Lib.decDigits,dif_neg (by omega),e1,e2,kb k (u/10) v hv (by omega),List.append_assoc,MK hu]
theorem ML{s:Bool}{xs:List Int}(h:Cano xs):∀ k,k<xs.length->fP s xs (k+1)=(if s=true then [45] else [])++Lib.decDigits (valL (xs.drop (xs.length-1-k))).toNat
 |0,hk=>by
  have hx:=h.1.getD (xs.length-1);have e:valL (xs.drop (xs.length-1-0))=xs.getD (xs.length-1) 0:=by
   rw[gD hk,Nat.sub_zero,Nat.sub_zero,List.drop_of_length_le (Nat.le_refl _)];simp[valL]
  rw[e];simp only[fP,Nat.sub_zero,if_true,List.nil_append];unfold Lib.itoa;rw[if_neg (show ¬xs.getD (xs.length-1) 0<0 by omega)]
 |k+1,hk=>by
  have hx:=h.1.getD (xs.length-1-(k+1));have ih:=ML (s:=s) h k (by omega);have hB:LB=1000000000:=rfl;have hd:Cano (xs.drop (xs.length-1-k)):=⟨fun x hx=>h.1 x (List.mem_of_mem_drop hx),by
   (have hne:xs.drop (xs.length-1-k)≠ []:=by intro e;have:=congrArg List.length e;simp at this;omega);have:=h.2;rw[<- List.take_append_drop (xs.length-1-k) xs,getLastD_append hne] at this;exact this⟩
  have hpos:=(valL_pos hd).2 (by intro e;have:=congrArg List.length e;simp at this;omega);rw[fP,ih,if_neg (show ¬k+1=0 by omega),gD hk,show xs.length-(k+1)=xs.length-1-k by omega,List.append_assoc];congr 1;obtain⟨u,hu⟩:=Int.eq_ofNat_of_zero_le hx.1;obtain⟨v,hv⟩:=Int.eq_ofNat_of_zero_le (Int.le_of_lt hpos);rw[hu,hv];have hun:u<10^9:=by have:=hx.2;rw[hu] at this;omega
  have e:((u:Int)+LB*(v:Int)).toNat=u+10^9*v:=by rw[hB];omega
  rw[e,kb 9 u v (by omega) hun,vh,if_neg (show ¬ (9:Nat)=0 by omega)];unfold Lib.itoa;rw[if_neg (show ¬ (u:Int)<0 by omega)];simp only[Int.toNat_natCast]
theorem Qq{x:Bool×List Int}(h:WOK x)(hne:0<x.2.length):fP x.1 x.2 x.2.length=Lib.itoa (dec x):=by
 have:=ML (s:=x.1) h.1 (x.2.length-1) (by omega);rw[show x.2.length-1+1=x.2.length by omega,show x.2.length-1-(x.2.length-1)=0 by omega,List.drop_zero] at this;have hp:=(valL_pos h.1).2 (by intro e;rw[e] at hne;simp at hne);rw[this];unfold Lib.itoa dec;split;·rename_i hs;rw[if_pos (by omega)];simp;congr 1;omega
 ·rename_i hs;rw[if_neg (by omega)];simp
set_option maxRecDepth 100000 in
set_option maxHeartbeats 1000000 in
theorem xp(s:Bool)(p:Option Addr)(cap:Nat)(w:World):Calls Tryz.prog 144 #[.agg #[.bool s,.slice p 0 cap]] w fun e w'=>e= .returned (.string ⟨#[48]⟩)/\Below w.heap.size w w':=by
 go_enter Tryz.func144,Tryz.ntmps144
 go_wp2
 go_ret
 exact⟨rfl,(Below.refl _ _).alloc (Nat.le_refl _) _⟩
def GU:Con:=fun l os=>match l,os with
 | [.z (.st (.pair .bool (.slice (.int .u32)))) x],[]=>some (WOK x/\x.2.length<CAP,[.z .str (Lib.itoa (dec x))],[])
 |_,_=>none
theorem Qr{B:aj}(hB:aC B):Valid B Tryz.prog 144 GU:=by
 intro args os C rs os' hc hC O w vals ρ0 hOn hIo hO hOI hargs hown hap;unfold GU at hc;split at hc;case h_2=>cases hc
 rename_i x;cases hc;obtain⟨v,rfl,hv⟩:=ru hargs;obtain⟨s,xs⟩:=x;obtain⟨hw,hcap⟩:=hC;have hcap:xs.length<1000000000000:=hcap;obtain⟨cs,rfl,hr⟩:=Mf hv;obtain⟨c,d,rfl,h1,h2⟩:=hr;have h1:c= [.bool s]:=h1;subst h1;refine GP ?_ (fun H w=>fG (ρ:=fun _=>undef));by_cases hne:xs.length=0
 ·have:xs= []:=List.eq_nil_of_length_eq_zero hne;subst this;have hs:s=false:=hw.2 rfl;subst hs;have e:Lib.itoa (dec (false,[]))= [48]:=by
   simp[dec,valL,Lib.itoa];rw[Lib.decDigits,dif_pos (by omega)];rfl
  rw[e];rcases h2 with⟨rfl,_⟩|⟨b,o,p,cap,cells,rfl,_⟩;·exact xp false none 0 w
  ·exact xp false _ cap w
 ·rw[<- Qq hw (by simp only;omega)];rcases h2 with⟨rfl,h3⟩|⟨b,o,p,cap,cells,rfl,hp,h3,h4,h5,h6⟩;·simp only at h3;rw[h3] at hne;exact absurd rfl hne
  ·obtain rfl:=hp (fun e=>hne (by have e:xs= []:=e;rw[e];rfl));have hcs:=ox h5;(have hcn:cells≠ []:=fun e=>by rw[hcs] at e;simp at e;rw[e] at hne;exact hne rfl);refine Jw s xs b o cap w (by omega) hw.1.1 (by omega) (h6.lt hcn) (fun j hj=> ?_) (fun W hW=>hB.1 W (MG hOn hW));(have hj':j<cells.length:=by rw[hcs];simpa using hj);rw[h6.2 j hj',hcs,List.getElem?_map,List.getElem?_eq_getElem hj];simp[List.getD_eq_getElem?_getD,List.getElem?_eq_getElem hj]
end Go.Proofs
end
section
namespace Go.Cm
open Go.Proofs
def du(s p:List UInt8):Bool:=decide (p.length<=s.length)&&(s.take p.length==p)
def aw(s p:List UInt8):List UInt8:=if du s p=true then s.drop p.length else s
theorem Jy(s p:List UInt8):(decide ((p.length:Int)<=(s.length:Int))&&(List.drop (Int.toNat 0) (List.take (Int.toNat (p.length:Int)) s)==p))=du s p:=by
 simp[du]
def fY(c:UInt8):Bool:=48<=c.toNat&&c.toNat<=57
def chk(s:List UInt8):Int:=
 if s= [48] then 0
 else if (aw s [45]).length=0∨(aw s [45]).getD 0 0=48 then 5
 else if (aw s [45]).all fY=false then 5
 else if 2000<(aw s [45]).length then 6
 else 0
def al(s:List UInt8):Int:=if du s [45]=true then-(numOf (aw s [45]):Int) else (numOf (aw s [45]):Int)
theorem E4{s:List UInt8}(h:chk s=0):dL (aw s [45])/\0<(aw s [45]).length/\(aw s [45]).length<=2000/\(s≠ [48]->(aw s [45]).getD 0 0≠48):=by
 unfold chk at h;split at h
 ·rename_i h0;subst h0;refine⟨?_,by decide,by decide,fun h=>absurd rfl h⟩;intro c hc;have:aw [48] [45]= [48]:=by decide
  rw[this] at hc;simp at hc;subst hc;decide
 ·split at h;·cases h
  ·rename_i h0 h1;simp only[not_or] at h1;split at h;·cases h
   ·(rename_i h2;split at h;·cases h);·refine⟨fun c hc=> ?_,by omega,by omega,fun _=>h1.2⟩;(have h3:(aw s [45]).all fY=true:=by simpa using h2);have:=List.all_eq_true.1 h3 c hc;simpa [fY] using this
theorem GV{a b:Int}(h:a<b):bg a b= -1:=by rw[bg,if_pos h]
theorem GW{a b:Int}(h:b<a):bg a b=1:=by rw[bg,if_neg (by omega),if_pos h]
theorem Jz(a:Int):bg a a=0:=by rw[bg,if_neg (by omega),if_neg (by omega)]
theorem JA{x y:Bool×List Int}(hx:WOK x)(h:(bg (bg (dec x) 0) (bg (dec y) 0) !=0||((x.2.length:Int)==0))=true):bg (bg (dec x) 0) (bg (dec y) 0)=bg (dec x) (dec y):=by
 have h0:=(gC hx).1;simp only[Bool.or_eq_true,bne_iff_ne,beq_iff_eq] at h;rcases h with h|h
 ·unfold bg at h ⊢;split at h<;>split at h<;>(repeat' split)<;>first|omega|(exfalso;revert h;simp;done)|(exfalso;apply h;simp;done)|rfl
 ·have:=h0.1 h;rw[this];unfold bg
  (repeat' split)<;>first|omega|rfl
theorem vi{x y:Bool×List Int}(hx:WOK x)(hy:WOK y)(h:(bg (bg (dec x) 0) (bg (dec y) 0) !=0||((x.2.length:Int)==0))=false):
  (x.1=true->bg (valL y.2) (valL x.2)=bg (dec x) (dec y))/\(x.1=false->bg (valL x.2) (valL y.2)=bg (dec x) (dec y)):=by
 obtain⟨h1,h2⟩:=gC hx;obtain⟨h3,h4⟩:=gC hy;simp only[Bool.or_eq_false_iff,bne_eq_false_iff_eq,beq_eq_false_iff_ne] at h;obtain⟨h5,h6⟩:=h;have h5:=oJ.1 h5;have hne:=h2 h6;have hy0:dec y≠0:=fun e=>by
  rw[e,Jz] at h5;exact h6 (h1.2 (oJ.1 h5))
 have hyl: ¬ (y.2.length:Int)=0:=fun e=>hy0 (h3.1 e);have hne2:=h4 hyl;refine⟨fun e=> ?_,fun e=> ?_⟩
 ·have hxn:=hne.1 e;have hyn:y.1=true:=by
   cases hy1:y.1 with
   |true=>rfl
   |false=>have:=hne2.2 hy1;rw[GV hxn,GW this] at h5;cases h5
  simp only[dec,e,hyn,if_true];unfold bg
  (repeat' split)<;>first|omega|rfl
 ·have hxp:=hne.2 e;have hyn:y.1=false:=by
   cases hy1:y.1 with
   |false=>rfl
   |true=>have:=hne2.1 hy1;rw[GW hxp,GV this] at h5;cases h5
  simp only[dec,e,hyn,Bool.false_eq_true,if_false]
def c7(n:Int):Int:=((Lib.itoa n.natAbs).length:Int)
theorem xq:c7 0=1:=by
 unfold c7;simp[Lib.itoa];rw[Lib.decDigits,dif_pos (by omega)];rfl
theorem wW{u:Nat}{k v:Nat}(hv:0<v)(hu:u<10^k):(Lib.decDigits (u+10^k*v)).length=(Lib.decDigits v).length+k:=by
 rw[kb k u v hv hu,List.length_append];unfold vh;split;·simp[*]
 ·rename_i hk;have:=kQ hu (by omega);simp;omega
theorem Be:∀ (l:List Int),Lim l->0<l.length->0<l.getLastD 1->((Lib.decDigits (valL l).toNat).length:Int)=9*((l.length:Int)-1)+((Lib.itoa (l.getLastD 1)).length:Int)
 | [x],h,_,hx=>by
  simp only[List.getLastD_cons,List.getLastD_nil] at hx ⊢;simp only[valL,Int.mul_zero,Int.add_zero,List.length_cons,List.length_nil];unfold Lib.itoa;rw[if_neg (by omega)];omega
 |x::y::r,h,_,hx=>by
  have h2:Lim (y::r):=fun z hz=>h z (by simp[hz]);have hxx:=h x (by simp);have hB:LB=1000000000:=rfl;have hlast:(x::y::r).getLastD 1=(y::r).getLastD 1:=by simp[List.getLastD_cons]
  rw[hlast] at hx ⊢;have ih:=Be (y::r) h2 (by simp) hx;have hpos:0<valL (y::r):=(valL_pos ⟨h2,by omega⟩).2 (by simp);obtain⟨u,hu⟩:=Int.eq_ofNat_of_zero_le hxx.1;obtain⟨v,hv⟩:=Int.eq_ofNat_of_zero_le (Int.le_of_lt hpos);have e:(valL (x::y::r)).toNat=u+10^9*v:=by
   rw[valL,hu,hv,hB];omega
  have hul:u<10^9:=by have:=hxx.2;rw[hu,hB] at this;omega
  rw[e,wW (by omega) hul];rw[hv,Int.toNat_natCast] at ih;simp only[List.length_cons] at ih ⊢;omega
theorem JB{x:Bool×List Int}(h:WOK x)(hne: ¬ (x.2.length:Int)=0):c7 (dec x)=9*((x.2.length:Int)-1)+((Lib.itoa (x.2.getLastD 1)).length:Int):=by
 have hl:0<x.2.length:=by omega
 have hlast:0<x.2.getLastD 1:=by
  have h1:=h.1.2;have h2:x.2.getLastD 1∈x.2:=by
   rw[List.getLastD_eq_getLast?,List.getLast?_eq_some_getLast (by intro e;rw[e] at hl;simp at hl)];exact List.getLast_mem _
  have:=(h.1.1 _ h2).1;omega
 rw[<- Be x.2 h.1.1 hl hlast];unfold c7 Lib.itoa dec;rw[if_neg (by omega)];have hv:=valL_nonneg h.1.1;split<;> · congr 3;omega
theorem Bf{x:List Int}(h:Lim x)(hl:0<x.length):0<=x.getLastD 1/\x.getLastD 1<LB:=by
 have h2:x.getLastD 1∈x:=by
  rw[List.getLastD_eq_getLast?,List.getLast?_eq_some_getLast (by intro e;rw[e] at hl;simp at hl)];exact List.getLast_mem _
 exact h _ h2
theorem Bg{x:Bool×List Int}(h:WOK x)(hc:x.2.length<CAP)(hne: ¬ (x.2.length:Int)=0):
  (0<=IntKind.i64.wrap ((x.2.length:Int)-1)/\IntKind.i64.wrap ((x.2.length:Int)-1)<(x.2.length:Int))/\nth (.int .u32) x.2 (IntKind.i64.wrap ((x.2.length:Int)-1))=x.2.getLastD 1/\
   IntKind.i64.wrap (x.2.getLastD 1)=x.2.getLastD 1/\IntKind.i64.wrap (IntKind.i64.wrap (9*IntKind.i64.wrap ((x.2.length:Int)-1))+((Lib.itoa (x.2.getLastD 1)).length:Int))=c7 (dec x):=by
 have hc:x.2.length<1000000000000:=hc;have hl:0<x.2.length:=by omega
 have h1:=Bf h.1.1 hl;have h2:=ry h1.1 h1.2;have hB:LB=1000000000:=rfl;rw[wo,last_eq hl,wi (x:=9*_) (by omega) (by omega),wi (x:=x.2.getLastD 1) (by omega) (by omega),wo,JB h hne];exact⟨⟨by omega,by omega⟩,rfl,rfl,rfl⟩
theorem GX(x:Int):IntKind.u64.wrap x=x%18446744073709551616:=by
 simp[IntKind.wrap,IntKind.signed,IntKind.bits]
theorem mL{n:Int}(h:I64 n):(n<0->IntKind.u64.wrap (0-IntKind.u64.wrap n)=(n.natAbs:Int))/\(¬n<0->IntKind.u64.wrap n=(n.natAbs:Int)):=by
 unfold I64 at h;refine⟨fun hn=> ?_,fun hn=> ?_⟩;·rw[GX,GX];omega
 ·rw[w64 (by omega) (by omega)];omega
theorem qO{u:Nat}{m:List Int}{n:Nat}(g1:m++limbs u=limbs n)(g2:u<18446744073709551616)(h:0<(u:Int)):
  ∃ a:Nat,IntKind.u64.wrap ((u:Int).tdiv 1000000000)=(a:Int)/\m++ [IntKind.u32.wrap ((u:Int).tmod 1000000000)]++limbs a=limbs n/\a<18446744073709551616/\a<u:=by
 have hB:LB=1000000000:=rfl;obtain⟨e1,e2⟩:=tdiv_nn (n:=(u:Int)) (by omega);rw[e1,e2,hB];refine⟨u/1000000000,?_,?_,by omega,by omega⟩;·rw[w64 (by omega) (by omega)];omega
 ·rw[w32 (by omega) (by omega),<- g1];conv=>rhs;rw[limbs,dif_neg (by omega)]
  simp
theorem nT{n:Nat}(h:n<18446744073709551616):(limbs n).length<=3:=limbs_len (k:=3) (by
 have:LB^3=1000000000000000000000000000:=rfl;rw[this];omega)
theorem mM{n:Int}(h:I64 n):WOK (enc n)/\(enc n).2.length<CAP/\(enc n).2.length<=3:=by
 unfold I64 at h;have:=nT (n:=n.natAbs) (by omega);exact⟨enc_ok n,Nat.lt_of_le_of_lt this (by unfold CAP;omega),this⟩
theorem MM{l:List Int}:l.drop (l.length-0)= []:=by simp
theorem Bh{m:List Int}{k:Nat}{z:Int}(hm:Lim m)(h2:m.length<=2)(hk:k<m.length)(hz:z=valL (m.drop (m.length-k))):
  IntKind.u64.wrap (IntKind.u64.wrap (z*1000000000)+IntKind.u64.wrap (m.getD (m.length-1-k) 0))=valL (m.drop (m.length-(k+1))):=by
 have hB:LB=1000000000:=rfl;have hx:=hm.getD (m.length-1-k);have hs:=gD hk;have hl:Lim (m.drop (m.length-k)):=fun x hx=>hm x (List.mem_of_mem_drop hx);have h0:=valL_nonneg hl;have h1:=valL_lt hl;have h3:(m.drop (m.length-k)).length=k:=by simp;omega
 rw[h3] at h1;have h4:LB^k<=LB^1:=pow_mono (by omega);have h5:LB^1=1000000000:=rfl;rw[<- hz] at h0 h1 hs;rw[show m.length-(k+1)=m.length-1-k by omega,hs];rw[hB] at hx ⊢;rw[w64 hx.1 (by omega),w64 (x:=z*1000000000) (by omega) (by omega),w64 (by omega) (by omega)];omega
theorem set_drop{l:List Int}{j:Nat}{v:Int}(h:j<l.length):(l.set j v).drop j=v::l.drop (j+1):=by
 rw[List.set_eq_take_append_cons_drop,if_pos h,List.drop_append_of_le_length (by simp;omega)];simp[List.drop_take]
theorem qP{l:List Int}{i j:Nat}{v:Int}(h:i<j):(l.set i v).drop j=l.drop j:=by
 rw[List.drop_set];simp;omega
theorem Bi{m out:List Int}{k:Nat}{r b:Int}(hm:Lim m)(hb0:0<b)(hb1:b<LB)(hk:k<m.length)(g1:out.length=m.length)(g2:Lim out)(g3:0<=r)(g4:r<b)
  (g5:valL (out.drop (m.length-k))*b+r=valL (m.drop (m.length-k))) {n:Int} (hn:n=r*1000000000+m.getD (m.length-1-k) 0):
  0<=n/\n<18446744073709551616/\0<=n/b/\n/b<LB/\(out.set (m.length-1-k) (n/b)).length=m.length/\Lim (out.set (m.length-1-k) (n/b))/\0<=n%b/\n%b<b/\
   valL ((out.set (m.length-1-k) (n/b)).drop (m.length-(k+1)))*b+n%b=valL (m.drop (m.length-(k+1))):=by
 have hB:LB=1000000000:=rfl;have hx:=hm.getD (m.length-1-k);have hs:=gD hk;have h0:0<=r*1000000000:=by omega
 have hq:n/b<LB:=Int.ediv_lt_of_lt_mul hb0 (by
  have:r*LB+LB<=b*LB:=by
   have h:=Int.mul_le_mul_of_nonneg_right (show r+1<=b by omega) (show (0:Int)<=LB by decide);rw[Int.add_mul,Int.one_mul] at h;exact h
  rw[hB] at this hx ⊢;rw[Int.mul_comm];omega)
 have hq0:0<=n/b:=Int.ediv_nonneg (by omega) (by omega);have e:n%b+b*(n/b)=n:=Int.emod_add_mul_ediv n b;refine⟨by omega,by rw[hB] at hx hb1;omega,hq0,hq,by simp[g1],set_lim g2 hq0 hq,Int.emod_nonneg _ (by omega),Int.emod_lt_of_pos _ hb0,?_⟩;rw[show m.length-(k+1)=m.length-1-k by omega,hs,set_drop (by omega),valL,show m.length-1-k+1=m.length-k by omega,<- g5,Int.add_mul,Int.mul_assoc,Int.mul_add,Int.mul_comm (n/b)];have hLr:LB*r=r*1000000000:=by rw[hB,Int.mul_comm]
 omega
def Bj(b:Int):Prop:=0<b/\b<LB
def Bk(b:Int):Prop:=0<=b/\b<LB
def lX(m:List Int)(b:Int)(k:Nat)(r:Int)(out:List Int):Prop:=
 out.length=m.length/\Lim out/\0<=r/\r<b/\valL (out.drop (m.length-k))*b+r=valL (m.drop (m.length-k))
def ko(m:List Int)(b:Int)(k:Nat)(c:Int)(out:List Int):Prop:=
 k<=m.length/\out.length=k/\Lim out/\0<=c/\c<LB/\valL out+LB^k*c=valL (m.take k)*b
theorem JC{m out:List Int}{r b:Int}(hm:Lim m)(hb0:0<b)(g1:out.length=m.length)(g2:Lim out)(g3:0<=r)(g4:r<b)(g5:valL out*b+r=valL m):
  out=padL (valL m/b).toNat m.length/\r=valL m%b:=by
 have h0:=valL_nonneg g2;have e1:valL m/b=valL out:=by
  rw[<- g5,Int.add_comm,Int.add_mul_ediv_right _ _ (by omega),Int.ediv_eq_zero_of_lt g3 g4,Int.zero_add]
 have e2:valL m%b=r:=by
  rw[<- g5,Int.add_comm,Int.add_mul_emod_self_right,Int.emod_eq_of_lt g3 g4]
 exact⟨g2.pad g1 (by rw[e1];omega),e2.symm⟩
theorem y8{m out:List Int}{k:Nat}{c b:Int}(hm:Lim m)(hb0:0<=b)(hb1:b<LB)(g2:out.length=k)(g3:Lim out)(g4:0<=c)(g5:c<LB)(g6:valL out+LB^k*c=valL (m.take k)*b):
  IntKind.u64.wrap (IntKind.u64.wrap (IntKind.u64.wrap (m.getD k 0)*IntKind.u64.wrap b)+c)=m.getD k 0*b+c/\IntKind.u32.wrap ((m.getD k 0*b+c).tmod 1000000000)=(m.getD k 0*b+c)%LB/\IntKind.u64.wrap ((m.getD k 0*b+c).tdiv 1000000000)=(m.getD k 0*b+c)/LB/\
   Lim (out++ [(m.getD k 0*b+c)%LB])/\0<=(m.getD k 0*b+c)/LB/\(m.getD k 0*b+c)/LB<LB/\valL (out++ [(m.getD k 0*b+c)%LB])+LB^(k+1)*((m.getD k 0*b+c)/LB)=valL (m.take (k+1))*b:=by
 have hx:=hm.getD k;have hbd:=mul_bound hx ⟨hb0,hb1⟩ (a:=0) (c:=c) ⟨by omega,by decide⟩ ⟨g4,g5⟩;have hB:LB=1000000000:=rfl;have h4:LB*LB=1000000000000000000:=rfl;obtain⟨n,hn⟩:∃ n,n=m.getD k 0*b+c:=⟨_,rfl⟩;have hn0:0<=n:=by omega
 have hn1:n<LB*LB:=by omega
 obtain⟨e1,e2,e3⟩:=pJ hn0 hn1;have hr:0<=n%LB/\n%LB<LB:=⟨Int.emod_nonneg _ (by decide),Int.emod_lt_of_pos _ (by decide)⟩;rw[w64 hx.1 (by omega),w64 hb0 (by omega),w64 hbd.1 (by omega),<- hn];refine⟨e1,e2,e3,g3.append (Lim.one hr.1 hr.2),Int.ediv_nonneg hn0 (by decide),Int.ediv_lt_of_lt_mul (by decide) hn1,?_⟩;rw[valL_append,valL_one,g2,take_val,Int.pow_succ];have h1:n%LB+LB*(n/LB)=n:=Int.emod_add_mul_ediv n LB;have h2:LB^k*(n%LB)+LB^k*LB*(n/LB)=LB^k*n:=by rw[Int.mul_assoc,<- Int.mul_add,h1]
 have h3:LB^k*n=LB^k*m.getD k 0*b+LB^k*c:=by rw[hn,Int.mul_add,Int.mul_assoc]
 rw[Int.add_mul];omega
theorem E5{m out:List Int}{c b:Int}(hm:Lim m)(hb0:0<=b)(g2:out.length=m.length)(g3:Lim out)(g4:0<=c)(g5:c<LB)(g6:valL out+LB^m.length*c=valL m*b):
  out++ [IntKind.u32.wrap c]=padL (valL m*b).toNat (m.length+1):=by
 have hB:LB=1000000000:=rfl;rw[w32 g4 (by omega)];refine(g3.append (Lim.one g4 g5)).pad (by simp[g2]) ?_;have h0:0<=valL m*b:=Int.mul_nonneg (valL_nonneg hm) hb0;rw[valL_append,valL_one,g2,g6];omega
theorem Bl{m:List Int}{b:Int}(hb:Bj b):lX m b 0 0 (List.replicate m.length 0):=by
 obtain⟨r1,r2,r3⟩:=replicate_zero m.length;refine⟨by simp,r1,Int.le_refl _,hb.1,?_⟩;simp[valL]
theorem JD{len k:Nat}(h:k<len):((len:Int)-1-(k:Int)).toNat=len-1-k:=by omega
theorem E6{m out:List Int}{k:Nat}{r b:Int}(hm:Lim m)(hb:Bj b)(hk:k<m.length)(h:lX m b k r out):
  lX m b (k+1) ((IntKind.u64.wrap (IntKind.u64.wrap (r*1000000000)+IntKind.u64.wrap (m.getD (m.length-1-k) 0))).tmod (IntKind.u64.wrap b))
   (out.set ((m.length:Int)-1-(k:Int)).toNat (IntKind.u32.wrap (IntKind.u64.wrap ((IntKind.u64.wrap (IntKind.u64.wrap (r*1000000000)+IntKind.u64.wrap (m.getD (m.length-1-k) 0))).tdiv (IntKind.u64.wrap b))))):=by
 obtain⟨g1,g2,g3,g4,g5⟩:=h;obtain⟨b0,b1⟩:=hb;obtain⟨n0,n1,n2,n3,n4,n5,n6,n7,n8⟩:=Bi hm b0 b1 hk g1 g2 g3 g4 g5 rfl;have hx:=hm.getD (m.length-1-k);have hB:LB=1000000000:=rfl;have e1:r*1000000000<=1000000000*1000000000:=Int.mul_le_mul_of_nonneg_right (by omega) (by decide);rw[w64 hx.1 (by omega),w64 (x:=r*1000000000) (by omega) (by omega),w64 (x:=b) (by omega) (by omega),w64 n0 n1,Int.tdiv_eq_ediv_of_nonneg n0,Int.tmod_eq_emod_of_nonneg n0,w64 n2 (by omega),w32 n2 (by omega),JD hk];exact⟨n4,n5,n6,n7,n8⟩
theorem GY{b:Int}(hb:Bj b):IntKind.u64.wrap b≠0:=by
 obtain⟨b0,b1⟩:=hb;have hB:LB=1000000000:=rfl;rw[w64 (by omega) (by omega)];omega
theorem JE{m out:List Int}{r b:Int}(hm:Lim m)(hb:Bj b)(h:lX m b m.length r out):
  out=padL (valL m/b).toNat m.length/\IntKind.u32.wrap r=valL m%b:=by
 obtain⟨g1,g2,g3,g4,g5⟩:=h;have hB:LB=1000000000:=rfl;obtain⟨b0,b1⟩:=hb;rw[Nat.sub_self,List.drop_zero,List.drop_zero] at g5;obtain⟨h1,h2⟩:=JC hm b0 g1 g2 g3 g4 g5;rw[w32 g3 (by omega)];exact⟨h1,h2⟩
theorem y9{m:List Int}{b:Int}:ko m b 0 0 []:=by
 refine⟨by omega,rfl,fun x hx=>by simp at hx,by decide,by decide,by simp[valL]⟩
theorem Bm{m out:List Int}{k:Nat}{c b:Int}(hm:Lim m)(hl:m.length<CAP)(hb:Bk b)(hk:(k:Int)<(m.length:Int))(h:ko m b k c out):
  ∃ a:Nat,IntKind.i64.wrap ((k:Int)+1)=(a:Int)/\ko m b a
   (IntKind.u64.wrap ((IntKind.u64.wrap (IntKind.u64.wrap (IntKind.u64.wrap (nth (Ty.int IntKind.u32) m (k:Int))*IntKind.u64.wrap b)+c)).tdiv 1000000000))
   (out++ [IntKind.u32.wrap ((IntKind.u64.wrap (IntKind.u64.wrap (IntKind.u64.wrap (nth (Ty.int IntKind.u32) m (k:Int))*IntKind.u64.wrap b)+c)).tmod 1000000000)])/\m.length-a<m.length-k:=by
 obtain⟨g1,g2,g3,g4,g5,g6⟩:=h;have hC:CAP=1000000000000:=rfl;obtain⟨q1,q2,q3,q4,q5,q6,q7⟩:=y8 hm hb.1 hb.2 g2 g3 g4 g5 g6;refine⟨k+1,by rw[wo];simp,?_,by omega⟩;rw[gB,q1,q2,q3];exact⟨by omega,by simp[g2],q4,q5,q6,q7⟩
theorem E7{m out:List Int}{k:Nat}{c b:Int}(hm:Lim m)(hb:Bk b)(hk: ¬ (k:Int)<(m.length:Int))(h:ko m b k c out):
  out++ [IntKind.u32.wrap c]=padL (valL m*b).toNat (m.length+1):=by
 obtain⟨g1,g2,g3,g4,g5,g6⟩:=h;have:k=m.length:=by omega
 subst this;rw[List.take_length] at g6;exact E5 hm hb.1 g2 g3 g4 g5 g6
theorem fA(s p:List UInt8):(aw s p).length<=s.length:=by
 unfold aw;split<;>simp
theorem lY:chk [48]=0:=by decide
theorem jd{s:List UInt8}(h0:s≠ [48])(h:aw s [45]= []∨(aw s [45]).getD 0 0=48):chk s=5:=by
 unfold chk;rw[if_neg h0,if_pos (h.imp (fun h=>by rw[h];rfl) id)]
theorem Bn{c:UInt8}(h1: ¬ (c.toNat:Int)<48)(h2: ¬ (57:Int)<(c.toNat:Int)):fY c=true:=by
 unfold fY;simp;omega
theorem mN{s:List UInt8}{k:Nat}(h0:s≠ [48])(h: ¬ (aw s [45]= []∨(aw s [45]).getD 0 0=48))(hk:k<(aw s [45]).length)
  (hb:((aw s [45]).getD k 0).toNat<48∨57<((aw s [45]).getD k 0).toNat):chk s=5:=by
 unfold chk;rw[if_neg h0,if_neg (fun h'=>h (h'.imp (fun h=>List.eq_nil_of_length_eq_zero h) id)),if_pos];rw[Bool.eq_false_iff];intro ha;have:=List.all_eq_true.1 ha ((aw s [45]).getD k 0) (by
  rw[List.getD_eq_getElem?_getD,List.getElem?_eq_getElem hk];exact List.getElem_mem hk)
 unfold fY at this;simp only[Bool.and_eq_true,decide_eq_true_eq] at this;omega
theorem jq{s:List UInt8}(h0:s≠ [48])(h: ¬ (aw s [45]= []∨(aw s [45]).getD 0 0=48))(ha:(aw s [45]).all fY=true):
  chk s=if 2000<(aw s [45]).length then 6 else 0:=by
 unfold chk;rw[if_neg h0,if_neg (fun h'=>h (h'.imp (fun h=>List.eq_nil_of_length_eq_zero h) id)),if_neg (by rw[ha];decide)]
theorem nC{l:List UInt8}{k:Nat}(h:(l.take k).all fY=true)(hd:fY (l.getD k 0)=true):(l.take (k+1)).all fY=true:=by
 by_cases hk:k<l.length
 ·rw[List.take_add_one,List.all_append,h,List.getElem?_eq_getElem hk];rw[List.getD_eq_getElem?_getD,List.getElem?_eq_getElem hk] at hd;simpa using hd
 ·rw[List.take_of_length_le (by omega)] at h ⊢;exact h
theorem dM(l:List UInt8):(bytesOf l).length=l.length:=by simp[bytesOf]
theorem xr(l:List UInt8)(k:Nat):nth (.int .u8) (bytesOf l) (k:Int)=((l.getD k 0).toNat:Int):=by
 show (bytesOf l).getD (k:Int).toNat 0=_;rw[Int.toNat_natCast,bytesOf];simp only[List.getD_eq_getElem?_getD,List.getElem?_map];cases l[k]? <;>simp
theorem E8{s p:List UInt8}(hp:0<p.length):du s p=decide ((aw s p).length<s.length):=by
 unfold aw;split<;>rename_i h;·rw[h];unfold du at h;simp only[Bool.and_eq_true,decide_eq_true_eq] at h;simp;omega
 ·simp only[Bool.not_eq_true] at h;rw[h];simp
theorem gE(a b:List UInt8):numOf (a++b)=numOf a*10^b.length+numOf b:=by
 have key:∀ (b:List UInt8) (x:Nat),b.foldl (fun n c=>n*10+(c.toNat-48)) x=x*10^b.length+b.foldl (fun n c=>n*10+(c.toNat-48)) 0:=by
  intro b;induction b with
  |nil=>intro x;simp
  |cons c b ih=>
   intro x;rw[List.foldl_cons,ih,List.foldl_cons,ih (0*10+(c.toNat-48)),List.length_cons,Nat.pow_succ];rw[Nat.zero_mul,Nat.zero_add,Nat.add_mul,Nat.mul_assoc,Nat.mul_comm 10,Nat.add_assoc]
 unfold numOf;rw[List.foldl_append,key]
def ReadPhi(D:List UInt8)(r:Nat)(out:List Int):Prop:=
 out.length=r/\Lim out/\valL out=(numOf (D.drop (D.length-9*r)):Int)/\9*r<D.length+9
theorem read_start{D:List UInt8}:ReadPhi D 0 []:=by
 refine⟨rfl,fun x hx=>by simp at hx,?_,by omega⟩;simp[valL,numOf]
theorem Qs(r:Nat):(LB^r:Int)=((10^(9*r):Nat):Int):=by
 rw[Nat.pow_mul];show (1000000000:Int)^r=((1000000000^r:Nat):Int);rw[Int.natCast_pow];rfl
theorem read_next{D:List UInt8}{r:Nat}{out:List Int}(hd:dL D)(h:ReadPhi D r out)(hr:0<(D.length:Int)-9*(r:Int)){c:List UInt8}
  (hc:c=(D.take (D.length-9*r)).drop (D.length-9*(r+1))):
  c≠ []/\dL c/\c.length<=9/\ReadPhi D (r+1) (out++ [IntKind.u32.wrap (numOf c)])/\D.length-9*(r+1)<=D.length-9*r:=by
 obtain⟨h1,h2,h3,h4⟩:=h;have hl:c.length=(D.length-9*r)-(D.length-9*(r+1)):=by rw[hc,List.length_drop,List.length_take];omega
 have hdc:dL c:=fun x hx=>hd x (by rw[hc] at hx;exact List.mem_of_mem_take (List.mem_of_mem_drop hx));have hn:=ix hdc;have hn9:10^c.length<=10^9:=Nat.pow_le_pow_right (by omega) (by omega);have e:D.drop (D.length-9*(r+1))=c++D.drop (D.length-9*r):=by
  rw[hc];have hle:D.length-9*(r+1)<=D.length-9*r:=by omega
  have hle2:D.length-9*r<=D.length:=by omega
  generalize D.length-9*(r+1)=j at hle;generalize D.length-9*r=i at hle hle2;conv=>lhs;rw[<- List.take_append_drop i D]
  rw[List.drop_append_of_le_length (by rw[List.length_take];omega)]
 have hB:LB=1000000000:=rfl;have hw:IntKind.u32.wrap (numOf c:Int)=(numOf c:Int):=w32 (by omega) (by omega);refine⟨fun h0=>by rw[h0] at hl;simp at hl;omega,hdc,by omega,⟨by simp[h1],?_,?_,by omega⟩,by omega⟩;·rw[hw];exact h2.append (Lim.one (by omega) (by omega))
 ·rw[hw,valL_append,valL_one,h3,h1,e,gE,Qs,show (D.drop (D.length-9*r)).length=9*r by rw[List.length_drop];omega];rw[Int.natCast_add,Int.natCast_mul,Int.mul_comm,Int.add_comm]
theorem read_end{s:List UInt8}{r:Nat}{out:List Int}(h:ReadPhi (aw s [45]) r out)(hr: ¬0<((aw s [45]).length:Int)-9*(r:Int)):
  dec (decide ((aw s [45]).length<s.length),out)=al s:=by
 obtain⟨h1,h2,h3,h4⟩:=h;rw[show (aw s [45]).length-9*r=0 by omega,List.drop_zero] at h3;unfold dec al;rw[E8 (by simp)];simp only[h3]
def oM(s:List UInt8):Prop:=s.length<70368744177664
theorem MN(D:List UInt8):((!D== [])=true->(!D== [])=true/\(0:Int)<=0/\(0:Int)<(D.length:Int))/\((!D== [])=true->(!D== [])=true)/\((D== [])=false->(!D== [])=true):=by
 cases D with
 |nil=>simp
 |cons c l=>exact⟨fun h=>⟨h,by omega,by simp⟩,fun h=>h,fun h=>by rw[h];rfl⟩
theorem je(D:List UInt8):(D== []||((D.getD (Int.toNat 0) 0).toNat:Int)==48)=true↔(D= []∨D.getD 0 0=48):=by
 have e:∀ c:UInt8,((c.toNat:Int)==48)=true↔c=48:=fun c=>by
  rw[beq_iff_eq];constructor;·intro h;exact UInt8.toNat.inj (by show c.toNat=48;omega)
  ·rintro rfl;rfl
 rw[Bool.or_eq_true,e];simp
theorem eC{D:List UInt8}(h:(D== []||((D.getD (Int.toNat 0) 0).toNat:Int)==48)=false): ¬ (D= []∨D.getD 0 0=48):=by
 rw[<- je,h];decide
theorem lZ{D:List UInt8}{k:Nat}(h:(decide (nth (Ty.int IntKind.u8) (bytesOf D) (k:Int)<48)||decide (57<nth (Ty.int IntKind.u8) (bytesOf D) (k:Int)))=true):
  (D.getD k 0).toNat<48∨57<(D.getD k 0).toNat:=by
 rw[xr] at h;simp only[Bool.or_eq_true,decide_eq_true_eq] at h;refine h.imp (fun h=> ?_) (fun h=> ?_);·have h':((D.getD k 0).toNat:Int)<48:=h;omega
 ·have h':(57:Int)<((D.getD k 0).toNat:Int):=h;omega
theorem JF{D:List UInt8}{k:Nat}(h:(decide (nth (Ty.int IntKind.u8) (bytesOf D) (k:Int)<48)||decide (57<nth (Ty.int IntKind.u8) (bytesOf D) (k:Int)))=false):fY (D.getD k 0)=true:=by
 rw[xr] at h;simp only[Bool.or_eq_false_iff,decide_eq_false_iff_not] at h;exact Bn h.1 h.2
def put(xs:List Int)(k:Nat)(v:Int):List Int:=padL (v%LB^k).toNat k++xs.drop k
theorem lbpos(k:Nat):0<LB^k:=Int.pow_pos (by decide)
theorem GZ(v:Int)(k:Nat):valL (padL (v%LB^k).toNat k)=v%LB^k:=by
 have h0:=Int.emod_nonneg v (Int.ne_of_gt (lbpos k));have h1:=Int.emod_lt_of_pos v (lbpos k);rw[padL_val _ _ (by omega)];omega
theorem za{xs:List Int}{k:Nat}(v:Int)(h:k<=xs.length):(put xs k v).length=xs.length:=by
 unfold put;rw[List.length_append,padL_len,List.length_drop];omega
theorem G0{xs:List Int}(h:Lim xs)(k:Nat)(v:Int):Lim (put xs k v):=(padL_lim _ _).append fun x hx=>h x (List.mem_of_mem_drop hx)
theorem MO{xs:List Int}{k:Nat}(v:Int):(put xs k v).take k=padL (v%LB^k).toNat k:=by
 unfold put;rw[List.take_append_of_le_length (by rw[padL_len];omega),List.take_of_length_le (by rw[padL_len];omega)]
theorem MP{xs:List Int}{k:Nat}(v:Int):(put xs k v).drop k=xs.drop k:=by
 unfold put;rw[List.drop_append,padL_len,List.drop_eq_nil_of_le (by rw[padL_len];omega),Nat.sub_self];rfl
theorem Qt{xs:List Int}{k:Nat}(v u:Int):put (put xs k v) k (valL ((put xs k v).take k)+u)=put xs k (v+u):=by
 rw[MO,GZ];have:(v%LB^k+u)%LB^k=(v+u)%LB^k:=by rw[Int.emod_add_emod]
 rw[put,this,MP,put]
theorem MQ{xs xs0:List Int}{k:Nat}{v b:Int}(h:Lim xs)(hl:k<=xs.length)(hd:xs.drop k=xs0.drop k)(hv:valL (xs.take k)=v+LB^k*b):xs=put xs0 k v:=by
 have hlim:Lim (xs.take k):=fun x hx=>h x (List.mem_of_mem_take hx);have hlen:(xs.take k).length=k:=by rw[List.length_take];omega
 have h0:=valL_nonneg hlim;have h1:=valL_lt hlim;rw[hlen] at h1;have e:v%LB^k=valL (xs.take k):=by
  rw[show v=valL (xs.take k)+LB^k*(-b) by rw[Int.mul_neg,hv];omega,Int.add_mul_emod_self_left,Int.emod_eq_of_lt h0 h1]
 have e2:=hlim.pad hlen (v:=(v%LB^k).toNat) (by rw[e];omega);unfold put;rw[<- e2,<- hd,List.take_append_drop]
def kR(xs0 o:List Int)(q:Int)(i:Nat)(c b:Int)(xs:List Int):Prop:=
 i<=o.length+1/\xs.length=xs0.length/\Lim xs/\xs.drop i=xs0.drop i/\(0<=c/\c<LB)/\(i=o.length+1->c=0)/\(0<=b/\b<=1)/\
  valL (xs.take i)+q*valL (o.take i)=valL (xs0.take i)+LB^i*(c+b)
theorem E9{xs o:List Int}{q:Int}(h:Lim xs):kR xs o q 0 0 0 xs:=
 ⟨by omega,rfl,h,rfl,⟨by decide,by decide⟩,fun _=>rfl,⟨by decide,by decide⟩,by simp[valL]⟩
theorem xt{xs xs0:List Int}{i:Nat}(h:xs.drop i=xs0.drop i):xs.getD i 0=xs0.getD i 0:=by
 have e:∀ l:List Int,l.getD i 0=(l.drop i).getD 0 0:=fun l=>by simp[List.getD_eq_getElem?_getD]
 rw[e,e,h]
theorem Fa{o:List Int}{q c:Int}(i:Nat)(ho:Lim o)(hq:0<=q/\q<LB)(hc:0<=c/\c<LB):0<=c+q*o.getD i 0/\c+q*o.getD i 0<LB*LB/\0<=q*o.getD i 0/\q*o.getD i 0<=LB*LB:=by
 have hb:=mul_bound hq (ho.getD i) (a:=0) (c:=c) ⟨by decide,by decide⟩ hc;omega
theorem qQ{xs:List Int}{i:Nat}{v:Int}:(xs.set i v).take i=xs.take i:=by
 rw[List.take_set,List.set_eq_of_length_le (by rw[List.length_take];omega)]
theorem Bo{xs:List Int}{i:Nat}{v:Int}(h:i<xs.length):(xs.set i v).getD i 0=v:=by
 simp[List.getD_eq_getElem?_getD,h]
theorem Fb{xs0 o xs:List Int}{q c b n v b2:Int}{i:Nat}(ho:Lim o)(hq:0<=q/\q<LB)(hlen:o.length+1<=xs0.length)(h:kR xs0 o q i c b xs)(hi:i<o.length+1)(hn:n=c+q*o.getD i 0)
  (hv:0<=v/\v<LB) (hb2:0<=b2/\b2<=1) (he:v-LB*b2=xs.getD i 0-n%LB-b):kR xs0 o q (i+1) (n/LB) b2 (xs.set i v):=by
 obtain⟨g1,g2,g3,g4,g5,g6,g7,g8⟩:=h;obtain⟨n0,n1,n2,n3⟩:=Fa i ho hq g5;rw[<- hn] at n0 n1;have hm:n%LB+LB*(n/LB)=n:=Int.emod_add_mul_ediv n LB;refine⟨by omega,by rw[List.length_set,g2],set_lim g3 hv.1 hv.2,?_,⟨Int.ediv_nonneg n0 (by decide),Int.ediv_lt_of_lt_mul (by decide) n1⟩,fun h=> ?_,hb2,?_⟩;·rw[qP (by omega),<- List.drop_drop,g4,List.drop_drop]
 ·have hz:o.getD i 0=0:=by rw[List.getD_eq_getElem?_getD,List.getElem?_eq_none (by omega)];rfl
  rw[hn,hz,Int.mul_zero,Int.add_zero];exact Int.ediv_eq_zero_of_lt g5.1 g5.2
 ·rw[take_val,take_val,take_val,qQ,Bo (by omega),<- xt g4,Int.mul_add,Int.pow_succ];have e1:q*(LB^i*o.getD i 0)=LB^i*(q*o.getD i 0):=by rw[<- Int.mul_assoc,Int.mul_comm q,Int.mul_assoc]
  have e2:LB^i*v+LB^i*(q*o.getD i 0)+LB^i*(c+b)=LB^i*(v+q*o.getD i 0+(c+b)):=by simp only[Int.mul_add]
  have e3:LB^i*LB*(n/LB+b2)+LB^i*xs.getD i 0=LB^i*(LB*(n/LB+b2)+xs.getD i 0):=by simp only[Int.mul_add,Int.mul_assoc]
  have e4:v+q*o.getD i 0+(c+b)=LB*(n/LB+b2)+xs.getD i 0:=by rw[Int.mul_add];omega
  rw[e4] at e2;rw[e1];omega
theorem Bp{xs0 o xs:List Int}{q c b:Int}{i:Nat}(hlen:o.length+1<=xs0.length)(h:kR xs0 o q i c b xs)(hi: ¬i<o.length+1):
  xs=put xs0 (o.length+1) (valL (xs0.take (o.length+1))-q*valL o)/\decide (0<b)=decide (valL (xs0.take (o.length+1))<q*valL o):=by
 obtain⟨g1,g2,g3,g4,g5,g6,g7,g8⟩:=h;have:i=o.length+1:=by omega
 subst this;rw[g6 rfl,Int.zero_add,List.take_of_length_le (l:=o) (by omega)] at g8;refine⟨MQ (b:=b) g3 (by omega) g4 (by omega),?_⟩;have hlim:Lim (xs.take (o.length+1)):=fun x hx=>g3 x (List.mem_of_mem_take hx);have h0:=valL_nonneg hlim;have h1:=valL_lt hlim;rw[show (xs.take (o.length+1)).length=o.length+1 by rw[List.length_take];omega] at h1;congr 1;by_cases hb:b=0;·subst hb;simp only[Int.mul_zero] at g8;exact propext ⟨fun h=>by omega,fun h=>by omega⟩
 ·have:b=1:=by omega
  subst this;simp only[Int.mul_one] at g8;exact propext ⟨fun h=>by omega,fun h=>by omega⟩
def kS(xs0 o:List Int)(i:Nat)(c:Int)(xs:List Int):Prop:=
 i<=o.length+1/\xs.length=xs0.length/\Lim xs/\xs.drop i=xs0.drop i/\(0<=c/\c<=1)/\valL (xs.take i)+LB^i*c=valL (xs0.take i)+valL (o.take i)
theorem Fc{xs o:List Int}(h:Lim xs):kS xs o 0 0 xs:=⟨by omega,rfl,h,rfl,⟨by decide,by decide⟩,by simp[valL]⟩
theorem Fe{xs0 o xs:List Int}{c n:Int}{i:Nat}(ho:Lim o)(hlen:o.length+1<=xs0.length)(h:kS xs0 o i c xs)(hi:i<o.length+1)(hn:n=xs.getD i 0+c+o.getD i 0):
  kS xs0 o (i+1) (IntKind.u32.wrap (n.tdiv 1000000000)) (xs.set i (IntKind.u32.wrap (n.tmod 1000000000))):=by
 obtain⟨g1,g2,g3,g4,g5,g6⟩:=h;have hx:=g3.getD i;have ho:=ho.getD i;have hB:LB=1000000000:=rfl;have n0:0<=n:=by omega
 have hm:n%LB+LB*(n/LB)=n:=Int.emod_add_mul_ediv n LB;have hr:0<=n%LB/\n%LB<LB:=⟨Int.emod_nonneg _ (by decide),Int.emod_lt_of_pos _ (by decide)⟩;have hq0:0<=n/LB:=Int.ediv_nonneg n0 (by decide);have hq1:n/LB<=1:=by rw[hB] at hx ho ⊢;omega
 rw[(tdiv_nn n0).1,(tdiv_nn n0).2,w32 hr.1 (by omega),w32 (x:=n/LB) (by omega) (by omega)];refine⟨by omega,by rw[List.length_set,g2],set_lim g3 hr.1 hr.2,?_,⟨hq0,hq1⟩,?_⟩;·rw[qP (by omega),<- List.drop_drop,g4,List.drop_drop]
 ·rw[take_val,take_val,take_val,qQ,Bo (by omega),<- xt g4,Int.pow_succ];have e2:LB^i*(n%LB)+LB^i*LB*(n/LB)=LB^i*n:=by rw[Int.mul_assoc,<- Int.mul_add,hm]
  have e3:LB^i*n=LB^i*xs.getD i 0+LB^i*c+LB^i*o.getD i 0:=by rw[hn,Int.mul_add,Int.mul_add]
  omega
theorem MR{xs0 o xs:List Int}{c:Int}{i:Nat}(hlen:o.length+1<=xs0.length)(h:kS xs0 o i c xs)(hi: ¬i<o.length+1):
  xs=put xs0 (o.length+1) (valL (xs0.take (o.length+1))+valL o):=by
 obtain⟨g1,g2,g3,g4,g5,g6⟩:=h;have:i=o.length+1:=by omega
 subst this;rw[List.take_of_length_le (l:=o) (by omega)] at g6;exact MQ (b:= -c) g3 (by omega) g4 (by rw[Int.mul_neg];omega)
end Go.Cm
end
section
namespace Go.Cm
open Go.Proofs
structure qR (X V P top t2 D1 D2:Int):Prop where
 hP:0<P
 hX0:(top*LB+t2)*P<=X
 hX1:X<(top*LB+t2)*P+P
 ht:0<=t2/\t2<LB
 htop:0<=top
 hV0:(D1*LB+D2)*P<=V
 hV1:V<(D1*LB+D2)*P+P
 hD1:1<=D1
 hD2:0<=D2/\D2<LB
 hXV:X<V*LB
namespace qR
variable {X V P top t2 D1 D2:Int} (g:qR X V P top t2 D1 D2)
include g
theorem vpos:0<V:=by
 have h1:0<D1*LB+D2:=by
  have:=Int.mul_le_mul_of_nonneg_right g.hD1 (show (0:Int)<=LB by decide);have:=g.hD2.1;have:(0:Int)<LB:=by decide
  omega
 have:=Int.mul_pos h1 g.hP;have:=g.hV0;omega
theorem xpos:0<=X:=by
 have h1:0<=top*LB+t2:=by
  have:=Int.mul_nonneg g.htop (show (0:Int)<=LB by decide);have:=g.ht.1;omega
 have:=Int.mul_nonneg h1 (Int.le_of_lt g.hP);have:=g.hX0;omega
theorem qnn:0<=X/V:=Int.ediv_nonneg g.xpos (Int.le_of_lt g.vpos)
theorem qlt:X/V<LB:=Int.ediv_lt_of_lt_mul g.vpos (by rw[Int.mul_comm];exact g.hXV)
theorem qle:X/V*V<=X:=Int.ediv_mul_le _ (Int.ne_of_gt g.vpos)
theorem mulV{q:Int}(h0:0<=q)(h:q*V<=X){t:Int}(ht:t*P<=q*((D1*LB+D2)*P)):t<=top*LB+t2:=by
 have h1:=Int.mul_le_mul_of_nonneg_left g.hV0 h0;have h2:=g.hX1;by_cases hc:t<=top*LB+t2;·exact hc
 ·have h3:(top*LB+t2+1)*P<=t*P:=Int.mul_le_mul_of_nonneg_right (by omega) (Int.le_of_lt g.hP);rw[Int.add_mul (top*LB+t2) 1 P,Int.one_mul] at h3;omega
theorem first{q:Int}(h0:0<=q)(h:q*V<=X):q*D1<=top:=by
 have h1:=g.mulV h0 h (t:=q*(D1*LB+D2)) (by rw[Int.mul_assoc];omega);rw[Int.mul_add,<- Int.mul_assoc] at h1;have h2:=Int.mul_nonneg h0 g.hD2.1;have h3:=g.ht.2;by_cases hc:q*D1<=top;·exact hc
 ·have h4:(top+1)*LB<=q*D1*LB:=Int.mul_le_mul_of_nonneg_right (by omega) (by decide);rw[Int.add_mul,Int.one_mul] at h4;omega
theorem start:X/V<=min (top/D1) 999999999:=by
 have h1:=g.first g.qnn g.qle;have h2:X/V<=top/D1:=(Int.le_ediv_iff_mul_le (by have:=g.hD1;omega)).2 h1;have h3:=g.qlt;have hB:LB=1000000000:=rfl;omega
theorem step{q:Int}(hq:X/V<=q)(h:q*D2>(top-q*D1)*LB+t2):X/V<=q-1:=by
 by_cases hc:X/V=q
 ·exfalso;subst hc;have h1:=g.mulV g.qnn g.qle (t:=X/V*(D1*LB+D2)) (by rw[Int.mul_assoc];omega);rw[Int.mul_add,<- Int.mul_assoc] at h1;rw[Int.sub_mul] at h;omega
 ·omega
theorem stop{q:Int}(hq0:0<=q)(hq1:q<LB)(h: ¬ (q*D2>(top-q*D1)*LB+t2)∨ ¬ (top-q*D1<LB)):(q-1)*V<=X:=by
 have hv:=g.hV1;have hx:=g.hX0;have hP:=Int.le_of_lt g.hP;rw[Int.sub_mul,Int.one_mul];have h1:q*V<=q*((D1*LB+D2)*P+P):=Int.mul_le_mul_of_nonneg_left (Int.le_of_lt hv) hq0;rw[Int.mul_add,<- Int.mul_assoc] at h1;rcases h with h|h
 ·have h2:q*(D1*LB+D2)<=top*LB+t2:=by
   rw[Int.sub_mul] at h;rw[Int.mul_add,<- Int.mul_assoc];omega
  have h3:=Int.mul_le_mul_of_nonneg_right h2 hP;have h4:q*P<=LB*P:=Int.mul_le_mul_of_nonneg_right (Int.le_of_lt hq1) hP;have h5:LB*P<=(D1*LB+D2)*P:=Int.mul_le_mul_of_nonneg_right (by
   have:=Int.mul_le_mul_of_nonneg_right g.hD1 (show (0:Int)<=LB by decide);have:=g.hD2.1;omega) hP
  have h6:=g.hV0;omega
 ·have h2:(q*(D1*LB+D2)+q)*P<=top*LB*P:=Int.mul_le_mul_of_nonneg_right (by
   have h3:q*(D2+1)<=q*LB:=Int.mul_le_mul_of_nonneg_left (by have:=g.hD2.2;omega) hq0;have h4:(q*D1+q)*LB<=top*LB:=Int.mul_le_mul_of_nonneg_right (by omega) (by decide);rw[Int.mul_add,Int.mul_one] at h3;rw[Int.add_mul] at h4;rw[Int.mul_add,<- Int.mul_assoc];omega) hP
  rw[Int.add_mul] at h2;have h3:top*LB*P<=(top*LB+t2)*P:=Int.mul_le_mul_of_nonneg_right (by have:=g.ht.1;omega) hP;have:=g.vpos;omega
theorem last{q:Int}(hq:X/V<=q)(h:(q-1)*V<=X):(X<q*V->q-1=X/V)/\(¬X<q*V->q=X/V):=by
 have hv:=g.vpos;have h1:q-1<=X/V:=(Int.le_ediv_iff_mul_le hv).2 h;refine⟨fun hl=> ?_,fun hl=> ?_⟩;·have:X/V<q:=Int.ediv_lt_of_lt_mul hv hl;omega
 ·have:q<=X/V:=(Int.le_ediv_iff_mul_le hv).2 (by omega);omega
end qR
end Go.Cm
end
section
namespace Go.Cm
open Go.Proofs
theorem MS{o:List Int}{q c:Int}(i:Nat)(ho:Lim o)(hq:Bk q)(hc:0<=c/\c<LB):
  IntKind.u64.wrap (c+IntKind.u64.wrap (q*IntKind.u64.wrap (nth (Ty.int IntKind.u32) o (i:Int))))=c+q*o.getD i 0:=by
 obtain⟨n0,n1,n2,n3⟩:=Fa i ho hq hc;have hx:=ho.getD i;have h4:LB*LB=1000000000000000000:=rfl;have hB:LB=1000000000:=rfl;rw[gB,w64 (x:=o.getD i 0) hx.1 (by omega),w64 n2 (by omega),w64 n0 (by omega)]
theorem xu{o:List Int}{q c:Int}{i:Nat}(h: ¬ (i:Int)<(o.length:Int)):c=c+q*o.getD i 0:=by
 rw[List.getD_eq_getElem?_getD,List.getElem?_eq_none (by omega)];simp
theorem SW{ys:List Int}{n b:Int}{i:Nat}(hy:Lim ys)(hn:0<=n/\n<LB*LB)(hb:0<=b/\b<=1):
  IntKind.i64.wrap (IntKind.i64.wrap (IntKind.i64.wrap (nth (Ty.int IntKind.u32) ys (((i:Int).toNat:Nat):Int))-IntKind.i64.wrap (n.tmod 1000000000))-b)=ys.getD i 0-n%LB-b/\IntKind.u64.wrap (n.tdiv 1000000000)=n/LB/\
   -LB<=ys.getD i 0-n%LB-b/\ys.getD i 0-n%LB-b<LB:=by
 have hx:=hy.getD i;have hB:LB=1000000000:=rfl;have hr:0<=n%LB/\n%LB<LB:=⟨Int.emod_nonneg _ (by decide),Int.emod_lt_of_pos _ (by decide)⟩;rw[Int.toNat_natCast,gB,(tdiv_nn hn.1).2,wi (x:=ys.getD i 0) (by omega) (by omega),wi (x:=n%LB) (by omega) (by omega),wi (x:=ys.getD i 0-n%LB) (by omega) (by omega),wo];exact⟨rfl,(pJ hn.1 hn.2).2.2,by omega,by omega⟩
theorem oN{ys:List Int}{n b:Int}{i:Nat}(hy:Lim ys)(hn:0<=n/\n<LB*LB)(hb:0<=b/\b<=1){r:Int}
  (hr:r=IntKind.i64.wrap (IntKind.i64.wrap (IntKind.i64.wrap (nth (Ty.int IntKind.u32) ys (((i:Int).toNat:Nat):Int))-IntKind.i64.wrap (n.tmod 1000000000))-b)):
  (r<0->IntKind.u64.wrap (n.tdiv 1000000000)=n/LB/\0<=IntKind.i64.wrap (r+1000000000)/\IntKind.i64.wrap (r+1000000000)<LB/\(0:Int)<=1/\(1:Int)<=1/\IntKind.i64.wrap (r+1000000000)-LB*1=ys.getD i 0-n%LB-b)/\
  (¬r<0->IntKind.u64.wrap (n.tdiv 1000000000)=n/LB/\0<=r/\r<LB/\(0:Int)<=0/\(0:Int)<=1/\r-LB*0=ys.getD i 0-n%LB-b):=by
 obtain⟨h1,h2,h3,h4⟩:=SW (i:=i) hy hn hb;rw[h1] at hr;have hB:LB=1000000000:=rfl;refine⟨fun h=> ?_,fun h=>⟨h2,by omega,by omega,by omega,by omega,by omega⟩⟩;rw[wo];exact⟨h2,by omega,by omega,by omega,by omega,by omega⟩
theorem JG{xs0 o xs:List Int}{q c b n v b2:Int}{i:Nat}(ho:Lim o)(hq:Bk q)(hlen:o.length+1<=xs0.length)(hc:o.length<CAP)(h:kR xs0 o q i c b xs)(hi:(i:Int)<((o.length+1:Nat):Int))(hn:n=c+q*o.getD i 0)
  (hv:(0<=v/\v<LB)/\(0<=b2/\b2<=1)/\v-LB*b2=xs.getD i 0-n%LB-b):
  ∃ a:Nat,IntKind.i64.wrap ((i:Int)+1)=(a:Int)/\kR xs0 o q a (n/LB) b2 (xs.set (i:Int).toNat (IntKind.u32.wrap v))/\o.length+1-a<o.length+1-i:=by
 have hC:o.length<1000000000000:=hc;have hB:LB=1000000000:=rfl;refine⟨i+1,by rw[wo];simp,?_,by omega⟩;rw[Int.toNat_natCast,w32 hv.1.1 (by omega)];exact Fb ho hq hlen h (by omega) hn hv.1 hv.2.1 hv.2.2
theorem JH{xs0 o xs:List Int}{c n:Int}{i:Nat}(ho:Lim o)(hlen:o.length+1<=xs0.length)(hc:o.length<CAP)(h:kS xs0 o i c xs)(hi:(i:Int)<((o.length+1:Nat):Int))(hn:n=xs.getD i 0+c+o.getD i 0):
  ∃ a:Nat,IntKind.i64.wrap ((i:Int)+1)=(a:Int)/\kS xs0 o a (IntKind.u32.wrap (n.tdiv 1000000000)) (xs.set (i:Int).toNat (n.tmod 1000000000))/\o.length+1-a<o.length+1-i:=by
 have hC:o.length<1000000000000:=hc;have hB:LB=1000000000:=rfl;have hx:=h.2.2.1.getD i;have ho':=ho.getD i;have hcc:=h.2.2.2.2.1;have e:n.tmod 1000000000=IntKind.u32.wrap (n.tmod 1000000000):=by
  rw[(tdiv_nn (by omega)).2];have hr:0<=n%LB/\n%LB<LB:=⟨Int.emod_nonneg _ (by decide),Int.emod_lt_of_pos _ (by decide)⟩;rw[w32 hr.1 (by omega)]
 rw[e];refine⟨i+1,by rw[wo];simp,?_,by omega⟩;rw[Int.toNat_natCast];exact Fe ho hlen h (by omega) hn
theorem zb{ys o:List Int}{c:Int}(i:Nat)(hy:Lim ys)(ho:Lim o)(hc:0<=c/\c<=1):
  IntKind.u32.wrap (IntKind.u32.wrap (nth (Ty.int IntKind.u32) ys (((i:Int).toNat:Nat):Int)+c)+nth (Ty.int IntKind.u32) o (i:Int))=ys.getD i 0+c+o.getD i 0/\
  (¬ (i:Int)<(o.length:Int)->IntKind.u32.wrap (nth (Ty.int IntKind.u32) ys (((i:Int).toNat:Nat):Int)+c)=ys.getD i 0+c+o.getD i 0):=by
 have hx:=hy.getD i;have hz:=ho.getD i;have hB:LB=1000000000:=rfl;rw[Int.toNat_natCast,gB,gB,w32 (x:=ys.getD i 0+c) (by omega) (by omega)];refine⟨w32 (by omega) (by omega),fun h=> ?_⟩;rw[List.getD_eq_getElem?_getD (l:=o),List.getElem?_eq_none (by omega)];simp
theorem pL(l:List Int)(j i:Nat):(l.drop j).getD i 0=l.getD (j+i) 0:=by
 simp[List.getD_eq_getElem?_getD]
theorem Lim.drop{l:List Int}(h:Lim l)(j:Nat):Lim (l.drop j):=fun x hx=>h x (List.mem_of_mem_drop hx)
theorem Lim.take{l:List Int}(h:Lim l)(j:Nat):Lim (l.take j):=fun x hx=>h x (List.mem_of_mem_take hx)
theorem kT{l:List Int}(h:Lim l)(k:Nat):0<=valL (l.take k)/\valL (l.take k)<LB^k:=by
 refine⟨valL_nonneg (h.take k),Int.lt_of_lt_of_le (valL_lt (h.take k)) (pow_mono ?_)⟩;rw[List.length_take];omega
theorem MT(l:List Int)(k:Nat):valL l=valL (l.take k)+LB^(l.take k).length*valL (l.drop k):=by
 have h:=valL_append (l.take k) (l.drop k);rw[List.take_append_drop] at h;exact h
theorem oO{l:List Int}{k:Nat}(hk:k<=l.length):valL l=valL (l.take k)+LB^k*valL (l.drop k):=by
 have h:=MT l k;rw[show (l.take k).length=k by rw[List.length_take];omega] at h;exact h
theorem G1{l:List Int}(p:Nat):valL (l.take (p+2))=(l.getD (p+1) 0*LB+l.getD p 0)*LB^p+valL (l.take p):=by
 rw[take_val,take_val,Int.pow_succ];have e:LB^p*LB*l.getD (p+1) 0=l.getD (p+1) 0*LB*LB^p:=by rw[Int.mul_comm (LB^p) LB,Int.mul_comm (LB*LB^p),<- Int.mul_assoc]
 rw[e,Int.add_mul,Int.mul_comm (l.getD p 0)];omega
theorem JI{l:List Int}(p:Nat):valL (l.take (p+3))=((l.getD (p+2) 0*LB+l.getD (p+1) 0)*LB+l.getD p 0)*LB^p+valL (l.take p):=by
 rw[take_val,G1,Int.pow_succ,Int.pow_succ];have e:LB^p*LB*LB*l.getD (p+2) 0=l.getD (p+2) 0*LB*LB*LB^p:=by
  rw[Int.mul_assoc (LB^p),Int.mul_comm (LB^p),Int.mul_comm (LB*LB*LB^p),<- Int.mul_assoc,<- Int.mul_assoc]
 rw[e];simp only[Int.add_mul];omega
theorem xv{T:List Int}{k:Nat}(hT:Lim T)(hk:k<=T.length)(h:valL T<LB^k):valL (T.drop k)=0/\valL T=valL (T.take k):=by
 have h1:=oO hk;have h0:=valL_nonneg (hT.drop k);have h2:=(kT hT k).1;have h3:valL (T.drop k)=0:=by
  by_cases hz:valL (T.drop k)=0
  ·exact hz
  ·have:LB^k*1<=LB^k*valL (T.drop k):=Int.mul_le_mul_of_nonneg_left (by omega) (Int.le_of_lt (lbpos k));omega
 rw[h3] at h1;exact⟨h3,by omega⟩
theorem MU{T D:List Int}{j p:Nat}(hT:Lim T)(hD:Lim D)(hDl:D.length=p+2)(hTl:j+(p+3)<=T.length)(hlt:valL T<valL D*LB^(j+1)):
  valL T=valL (T.take j)+LB^j*valL ((T.drop j).take (p+3))/\valL ((T.drop j).drop (p+3))=0:=by
 have hV:=valL_lt hD;rw[hDl] at hV;have h1:valL T<LB^(j+(p+3)):=by
  have h2:valL D*LB^(j+1)<=LB^(p+2)*LB^(j+1):=Int.mul_le_mul_of_nonneg_right (Int.le_of_lt hV) (Int.le_of_lt (lbpos _));rw[<- Int.pow_add,show p+2+(j+1)=j+(p+3) by omega] at h2;omega
 obtain⟨hz,-⟩:=xv hT hTl h1;have h3:valL ((T.drop j).drop (p+3))=0:=by rw[List.drop_drop];exact hz
 refine⟨?_,h3⟩;have h4:=oO (l:=T) (k:=j) (by omega);have h5:=oO (l:=T.drop j) (k:=p+3) (by rw[List.length_drop];omega);rw[h3] at h5;rw[h4,h5];simp
theorem Bq{T D:List Int}{j p:Nat}(hT:Lim T)(hD:Lim D)(hDl:D.length=p+2)(hVp:LB^(p+1)<=valL D)(hTl:j+(p+3)<=T.length)(hlt:valL T<valL D*LB^(j+1)):
  qR (valL ((T.drop j).take (p+3))) (valL D) (LB^p) (T.getD (j+(p+2)) 0*LB+T.getD (j+(p+1)) 0) (T.getD (j+p) 0) (D.getD (p+1) 0) (D.getD p 0):=by
 have hX:=JI (l:=T.drop j) p;rw[pL,pL,pL] at hX;have hx:=kT (hT.drop j) p;have hV:=G1 (l:=D) p;rw[List.take_of_length_le (by omega)] at hV;have hv:=kT hD p;have hT0:=hT.getD (j+(p+2));have hT1:=hT.getD (j+(p+1));obtain⟨hw,-⟩:=MU hT hD hDl hTl hlt;have h0:=(kT hT j).1;refine⟨lbpos p,by omega,by omega,hT.getD _,?_,by omega,by omega,?_,hD.getD _,?_⟩;·have:=Int.mul_nonneg hT0.1 (show (0:Int)<=LB by decide);omega
 ·by_cases h:1<=D.getD (p+1) 0
  ·exact h
  ·exfalso;(have hz:D.getD (p+1) 0=0:=by have:=(hD.getD (p+1)).1;omega);rw[hz,Int.zero_mul,Int.zero_add] at hV;have h1:(D.getD p 0+1)*LB^p<=LB*LB^p:=Int.mul_le_mul_of_nonneg_right (by have:=(hD.getD p).2;omega) (Int.le_of_lt (lbpos p));rw[Int.add_mul,Int.one_mul] at h1;rw[Int.pow_succ,Int.mul_comm] at hVp;omega
 ·have h1:LB^j*valL ((T.drop j).take (p+3))<LB^j*(valL D*LB):=by
   (have e:LB^j*(valL D*LB)=valL D*LB^(j+1):=by rw[Int.pow_succ,Int.mul_comm (LB^j),Int.mul_assoc,Int.mul_comm LB]);rw[e];omega
  exact Int.lt_of_mul_lt_mul_left h1 (Int.le_of_lt (lbpos j))
def kU(M V:Int)(lm n:Nat)(k:Nat)(T Q:List Int):Prop:=
 T.length=lm+1/\Lim T/\Q.length=lm+1-n/\Lim Q/\k<=lm+1-n/\valL T+V*(LB^k*valL (Q.drop k))=M/\valL T<V*LB^k
theorem JJ{M:Int}{D T Q:List Int}{lm j p:Nat}{q:Int}(hD:Lim D)(hDl:D.length=p+2)(hVp:LB^(p+1)<=valL D)(hlm:p+2<=lm)(h:kU M (valL D) lm (p+2) (j+1) T Q)
  (hq:q=valL ((T.drop j).take (p+3))/valL D):
  kU M (valL D) lm (p+2) j (T.take j++put (T.drop j) (p+3) (valL ((T.drop j).take (p+3))-q*valL D)) (Q.set j q):=by
 obtain⟨h1,h2,h3,h4,h5,h6,h7⟩:=h;have hTl:j+(p+3)<=T.length:=by omega
 have g:=Bq h2 hD hDl hVp hTl h7;obtain⟨hw,hz⟩:=MU h2 hD hDl hTl h7;have hq0:=g.qnn;have hq1:=g.qlt;have hv:=g.vpos;have hx:=g.xpos;rw[<- hq] at hq0 hq1;have hr:valL ((T.drop j).take (p+3))-q*valL D=valL ((T.drop j).take (p+3))%valL D:=by
  rw[hq,Int.emod_def,Int.mul_comm]
 have hr0:=Int.emod_nonneg (valL ((T.drop j).take (p+3))) (Int.ne_of_gt hv);have hr1:=Int.emod_lt_of_pos (valL ((T.drop j).take (p+3))) hv;have hVl:=valL_lt hD;rw[hDl] at hVl;have hml:valL D<=LB^(p+3):=Int.le_trans (Int.le_of_lt hVl) (pow_mono (by omega));have hdl:p+3<=(T.drop j).length:=by rw[List.length_drop];omega
 have hput:valL (put (T.drop j) (p+3) (valL ((T.drop j).take (p+3))-q*valL D))=valL ((T.drop j).take (p+3))-q*valL D:=by
  unfold put;rw[valL_append,GZ,hz,Int.mul_zero,Int.add_zero,Int.emod_eq_of_lt (by omega) (by omega)]
 have htl:(T.take j).length=j:=by rw[List.length_take];omega
 have hval:valL (T.take j++put (T.drop j) (p+3) (valL ((T.drop j).take (p+3))-q*valL D))=valL (T.take j)+LB^j*(valL ((T.drop j).take (p+3))-q*valL D):=by
  rw[valL_append,hput,htl]
 refine⟨?_,(h2.take j).append (G0 (h2.drop j) _ _),by rw[List.length_set,h3],set_lim h4 hq0 hq1,by omega,?_,?_⟩;·rw[List.length_append,za _ hdl,htl,List.length_drop];omega
 ·rw[hval,set_drop (by omega),valL];rw[hw] at h6;have e1:valL D*(LB^j*(q+LB*valL (Q.drop (j+1))))=LB^j*(q*valL D)+valL D*(LB^(j+1)*valL (Q.drop (j+1))):=by
   (have e2:valL D*(LB^j*q)=LB^j*(q*valL D):=by rw[<- Int.mul_assoc,Int.mul_comm (valL D),Int.mul_assoc,Int.mul_comm (valL D)]);rw[Int.mul_add,Int.mul_add,e2,Int.pow_succ,Int.mul_assoc (LB^j) LB]
  rw[e1,Int.mul_sub];omega
 ·rw[hval,hr];have h8:LB^j*(valL ((T.drop j).take (p+3))%valL D+1)<=LB^j*valL D:=Int.mul_le_mul_of_nonneg_left (by omega) (Int.le_of_lt (lbpos j));rw[Int.mul_add,Int.mul_one] at h8;have h9:=(kT h2 j).2;rw[Int.mul_comm (valL D)];omega
theorem xw:∀ (v k j:Nat),j<=k->(padL v k).take j=padL v j
 |_,_,0,_=>by simp[padL]
 |_,0,j+1,h=>by omega
 |v,k+1,j+1,h=>by rw[padL,List.take_succ_cons,xw _ k j (by omega),padL]
def aO(o:List Int):Int:=1000000000/(o.getD (o.length-1) 0+1)
def jG(m o:List Int):List Int:=
 if valL m<valL o then [] else if o.length=1 then padL (valL m/valL o).toNat m.length else padL (valL m/valL o).toNat (m.length+1-o.length)
def eu(m o:List Int):List Int:=
 if valL m<valL o then m else if o.length=1 then [valL m%valL o] else padL (valL m%valL o).toNat (limbs (valL m%valL o*aO o).toNat).length
theorem JK{l:List Int}(h:l≠ []):l.getLastD 1=l.getD (l.length-1) 0:=by
 rw[List.getD_eq_getElem?_getD,<- List.getLast?_eq_getElem?,List.getLast?_eq_some_getLast h,List.getLastD_eq_getLast?,List.getLast?_eq_some_getLast h];rfl
theorem vj{o:List Int}(ho:Cano o){p:Nat}(hp:o.length=p+2):
  (1<=aO o/\aO o<LB)/\valL o*aO o<LB^(p+2)/\LB^(p+1)<=valL o*aO o/\0<valL o:=by
 have hne:o≠ []:=by rintro rfl;simp at hp
 have hl:=ho.1.getD (p+1);have h0:o.getD (p+1) 0≠0:=by
  have:=ho.2;rw[JK hne,hp] at this;exact this
 have hB:LB=1000000000:=rfl;have hs:aO o=1000000000/(o.getD (p+1) 0+1):=by unfold aO;rw[hp];rfl
 have hs1:1<=aO o:=by rw[hs];exact(Int.le_ediv_iff_mul_le (by omega)).2 (by omega)
 have hs2:aO o*(o.getD (p+1) 0+1)<=LB:=by rw[hs];exact Int.ediv_mul_le _ (by omega)
 have hge:=valL_ge ho hne;rw[hp] at hge;have hpos:=lbpos (p+1);have hvp:0<valL o:=by have:LB^(p+2-1)=LB^(p+1):=rfl;omega
 have hv:valL o<LB^(p+1)*(o.getD (p+1) 0+1):=by
  have h:=oO (l:=o) (k:=p+1) (by omega);have h1:=take_val o (p+1);rw[List.take_of_length_le (by omega)] at h1;have h2:=(kT ho.1 (p+1)).2;rw[Int.mul_add,Int.mul_one];omega
 refine⟨⟨hs1,?_⟩,?_,?_,hvp⟩;·have h2:aO o*2<=aO o*(o.getD (p+1) 0+1):=Int.mul_le_mul_of_nonneg_left (by omega) (by omega);omega
 ·have h1:valL o*aO o<LB^(p+1)*(o.getD (p+1) 0+1)*aO o:=Int.mul_lt_mul_of_pos_right hv (by omega);have h2:LB^(p+1)*(o.getD (p+1) 0+1)*aO o<=LB^(p+1)*LB:=by
   rw[Int.mul_assoc,Int.mul_comm (o.getD (p+1) 0+1)];exact Int.mul_le_mul_of_nonneg_left hs2 (Int.le_of_lt hpos)
  have h3:LB^(p+2)=LB^(p+1)*LB:=Int.pow_succ LB (p+1);omega
 ·have h1:valL o*1<=valL o*aO o:=Int.mul_le_mul_of_nonneg_left hs1 (by omega);have h2:LB^(p+2-1)=LB^(p+1):=rfl;omega
theorem qS{o:List Int}(h0:o≠ [])(h1: ¬ (o.length:Int)=1):∃ p,o.length=p+2:=by
 match o,h0 with
 | [],h=>exact absurd rfl h
 | [x],_=>simp at h1
 |x::y::l,_=>exact⟨l.length,rfl⟩
theorem G2{T:List Int}{j n:Nat}(v:Int)(h:j+n<=T.length):(List.take j T++put (List.drop j T) n v).length=T.length:=by
 rw[List.length_append,za _ (by rw[List.length_drop];omega),List.length_take,List.length_drop];omega
structure iH (m o D:List Int) (p:Nat):Prop where
 hm:Cano m
 ho:Cano o
 hp:o.length=p+2
 hle:valL o<=valL m
 hc:m.length+o.length+1<1000000000000
 hD:D=padL (valL o*aO o).toNat o.length
 hDl:D.length=p+2
 hDl3:D.length+1=p+3
 hL:Lim D
 hV:valL D=valL o*aO o
 hVp:LB^(p+1)<=valL D
 hlm:p+2<=m.length
 hs:1<=aO o/\aO o<LB
 hvo:0<valL o
 en1:IntKind.i64.wrap ((o.length:Int)-1)=((p+1:Nat):Int)
 en2:IntKind.i64.wrap ((o.length:Int)-2)=((p:Nat):Int)
theorem iH.mk'{m o:List Int}{p:Nat}(hm:Cano m)(ho:Cano o)(hp:o.length=p+2)(hle:valL o<=valL m)(hc:m.length+o.length+1<CAP):iH m o (padL (valL o*aO o).toNat o.length) p:=by
 have hC:m.length+o.length+1<1000000000000:=hc;obtain⟨h1,h2,h3,h4⟩:=vj ho hp;have hv0:0<=valL o*aO o:=Int.mul_nonneg (by omega) (by omega);have hv:valL (padL (valL o*aO o).toNat o.length)=valL o*aO o:=by
  rw[padL_val _ _ (by rw[hp];omega)];omega
 have hll:=len_le ho hm hle;exact⟨hm,ho,hp,hle,hC,rfl,by rw[padL_len,hp],by rw[padL_len,hp],padL_lim _ _,hv,by rw[hv];exact h3,by omega,h1,h4,by rw[wo];omega,by rw[wo];omega⟩
theorem vk{o:List Int}{p:Nat}(ho:Cano o)(hp:o.length=p+2)(hc:o.length<1000000000000):
  (0<=IntKind.i64.wrap ((o.length:Int)-1)/\IntKind.i64.wrap ((o.length:Int)-1)<(o.length:Int))/\
  IntKind.u64.wrap (IntKind.u64.wrap (nth (Ty.int IntKind.u32) o (IntKind.i64.wrap ((o.length:Int)-1)))+1)≠0/\
  IntKind.u32.wrap (IntKind.u64.wrap (Int.tdiv 1000000000 (IntKind.u64.wrap (IntKind.u64.wrap (nth (Ty.int IntKind.u32) o (IntKind.i64.wrap ((o.length:Int)-1)))+1))))=aO o:=by
 have e:IntKind.i64.wrap ((o.length:Int)-1)=((o.length-1:Nat):Int):=by rw[wo];omega
 have hx:=ho.1.getD (o.length-1);have hB:LB=1000000000:=rfl;obtain⟨h1,-⟩:=vj ho hp;have hs:aO o=1000000000/(o.getD (o.length-1) 0+1):=rfl;rw[e,gB,w64 (x:=o.getD (o.length-1) 0) hx.1 (by omega),w64 (x:=o.getD (o.length-1) 0+1) (by omega) (by omega),Int.tdiv_eq_ediv_of_nonneg (by decide),<- hs,w64 (by omega) (by omega),w32 (by omega) (by omega)];exact⟨⟨by omega,by omega⟩,by omega,rfl⟩
theorem MV{a b:Int}(ha:0<=a/\a<LB)(hb:0<=b/\b<LB):
  IntKind.u64.wrap (IntKind.u64.wrap (IntKind.u64.wrap a*1000000000)+IntKind.u64.wrap b)=a*LB+b/\a*LB+b<LB*LB/\0<=a*LB+b:=by
 have hB:LB=1000000000:=rfl;rw[hB] at ha hb ⊢;rw[w64 ha.1 (by omega),w64 hb.1 (by omega),w64 (x:=a*1000000000) (by omega) (by omega),w64 (by omega) (by omega)];omega
theorem Br{top D1:Int}(h0:0<=top)(h1:top<LB*LB)(hD:1<=D1)(hD2:D1<LB):IntKind.u64.wrap (top.tdiv (IntKind.u64.wrap D1))=top/D1/\IntKind.u64.wrap D1≠0:=by
 have hB:LB=1000000000:=rfl;have h4:LB*LB=1000000000000000000:=rfl;have h2:top/D1<=top:=Int.ediv_le_self _ h0;have h3:0<=top/D1:=Int.ediv_nonneg h0 (by omega);rw[w64 (x:=D1) (by omega) (by omega),Int.tdiv_eq_ediv_of_nonneg h0,w64 h3 (by omega)];exact⟨rfl,by omega⟩
def JL(X V top D1 q:Int):Prop:=X/V<=q/\q<LB/\q*D1<=top/\0<=q
theorem Qu{X V P top t2 D1 D2 gs:Int}(g:qR X V P top t2 D1 D2)(h:gs=min (top/D1) 999999999):JL X V top D1 gs:=by
 have h1:=g.start;have hB:LB=1000000000:=rfl;have hD:=g.hD1;refine⟨by omega,by omega,?_,?_⟩;·have h2:gs*D1<=top/D1*D1:=Int.mul_le_mul_of_nonneg_right (by omega) (by omega);have h3:=Int.ediv_mul_le top (b:=D1) (by omega);omega
 ·have h2:0<=top/D1:=Int.ediv_nonneg g.htop (by omega);omega
theorem MW{X V P top t2 D1 D2 q:Int}(g:qR X V P top t2 D1 D2)(ht:top<LB*LB)(hD1:D1<LB)(h:JL X V top D1 q):
  IntKind.u64.wrap (top-IntKind.u64.wrap (q*IntKind.u64.wrap D1))=top-q*D1/\IntKind.u64.wrap (q*IntKind.u64.wrap D2)=q*D2/\
   (IntKind.u64.wrap (top-IntKind.u64.wrap (q*IntKind.u64.wrap D1))<1000000000->IntKind.u64.wrap (IntKind.u64.wrap (IntKind.u64.wrap (top-IntKind.u64.wrap (q*IntKind.u64.wrap D1))*1000000000)+IntKind.u64.wrap t2)=(top-q*D1)*LB+t2):=by
 obtain⟨h1,h2,h3,h4⟩:=h;have hB:LB=1000000000:=rfl;have h5:LB*LB=1000000000000000000:=rfl;have hD:=g.hD1;have hd2:=g.hD2;have hq0:0<=q*D1:=Int.mul_nonneg h4 (by omega);have hb:=mul_bound (x:=q) (y:=D2) (a:=0) (c:=0) ⟨h4,h2⟩ hd2 ⟨by decide,by decide⟩ ⟨by decide,by decide⟩;have ht2:=g.ht;rw[w64 (x:=D1) (by omega) (by omega),w64 (x:=q*D1) hq0 (by omega),w64 (x:=top-q*D1) (by omega) (by omega),w64 (x:=D2) hd2.1 (by omega),w64 hb.1 (by omega)];refine⟨rfl,rfl,fun hC=> ?_⟩;rw[hB] at ht2 ⊢;rw[w64 (x:=t2) ht2.1 (by omega),w64 (x:=(top-q*D1)*1000000000) (by omega) (by omega),w64 (by omega) (by omega)]
theorem SX{X V P top t2 D1 D2 q:Int}(g:qR X V P top t2 D1 D2)(ht:top<LB*LB)(hD1:D1<LB)(h:JL X V top D1 q)
  (hb:IntKind.u64.wrap (IntKind.u64.wrap (IntKind.u64.wrap (top-IntKind.u64.wrap (q*IntKind.u64.wrap D1))*1000000000)+IntKind.u64.wrap t2)<IntKind.u64.wrap (q*IntKind.u64.wrap D2)/\IntKind.u64.wrap (top-IntKind.u64.wrap (q*IntKind.u64.wrap D1))<1000000000):
  JL X V top D1 (IntKind.u64.wrap (q-1))/\(IntKind.u64.wrap (q-1)).toNat<q.toNat:=by
 obtain⟨c1,c2,c3⟩:=MW g ht hD1 h;rw[c3 hb.2,c2] at hb;obtain⟨h1,h2,h3,h4⟩:=h;have hs:=g.step h1 hb.1;have hq:=g.qnn;have hB:LB=1000000000:=rfl;have hD:=g.hD1;rw[w64 (by omega) (by omega)];refine⟨⟨hs,by omega,?_,by omega⟩,by omega⟩;rw[Int.sub_mul,Int.one_mul];omega
theorem MX{X V P top t2 D1 D2 q:Int}(g:qR X V P top t2 D1 D2)(ht:top<LB*LB)(hD1:D1<LB)(h:JL X V top D1 q)
  (hb:IntKind.u64.wrap (IntKind.u64.wrap (IntKind.u64.wrap (top-IntKind.u64.wrap (q*IntKind.u64.wrap D1))*1000000000)+IntKind.u64.wrap t2)<IntKind.u64.wrap (q*IntKind.u64.wrap D2)-> ¬IntKind.u64.wrap (top-IntKind.u64.wrap (q*IntKind.u64.wrap D1))<1000000000):
  (X<q*V->q-1=X/V)/\(¬X<q*V->q=X/V):=by
 obtain⟨c1,c2,c3⟩:=MW g ht hD1 h;have hB:LB=1000000000:=rfl;refine g.last h.1 (g.stop h.2.2.2 h.2.1 ?_);by_cases hC:IntKind.u64.wrap (top-IntKind.u64.wrap (q*IntKind.u64.wrap D1))<1000000000;·rw[c3 hC,c2] at hb;left;intro h';exact hb h' hC
 ·right;rw[c1] at hC;rw[hB];exact hC
theorem vl{T:List Int}{j n:Nat}(v:Int)(h:j+n<=T.length):List.take j (List.take j T++put (List.drop j T) n v)=List.take j T/\List.drop j (List.take j T++put (List.drop j T) n v)=put (List.drop j T) n v:=by
 have hl:(List.take j T).length=j:=by rw[List.length_take];omega
 refine⟨?_,?_⟩;·rw[List.take_append_of_le_length (by omega),List.take_of_length_le (by omega)]
 ·rw[List.drop_append,hl,List.drop_eq_nil_of_le (by omega),Nat.sub_self];rfl
theorem xx{T:List Int}{j n:Nat}{X q V:Int}(h:j+n<=T.length):
  List.take j (List.take j T++put (List.drop j T) n (X-q*V))++put (List.drop j (List.take j T++put (List.drop j T) n (X-q*V))) n (valL (List.take n (List.drop j (List.take j T++put (List.drop j T) n (X-q*V))))+V)=
   List.take j T++put (List.drop j T) n (X-(q-1)*V):=by
 obtain⟨h1,h2⟩:=vl (X-q*V) h;rw[h1,h2,Qt,Int.sub_mul,Int.one_mul];congr 2;omega
theorem Ff{m o D:List Int}{p:Nat}(f:iH m o D p):kU (valL m*aO o) (valL D) m.length (p+2) (m.length+1-o.length) (padL (valL m*aO o).toNat (m.length+1)) (List.replicate (m.length+1-o.length) 0):=by
 have hm0:=valL_nonneg f.hm.1;have hm1:=valL_lt f.hm.1;have hs:=f.hs;have hp:=f.hp;have hlm:=f.hlm;have h0:0<=valL m*aO o:=Int.mul_nonneg hm0 (by omega);have h1:valL m*aO o<LB^m.length*aO o:=Int.mul_lt_mul_of_pos_right hm1 (by omega);have h2:LB^m.length*aO o<=LB^m.length*LB:=Int.mul_le_mul_of_nonneg_left (by omega) (Int.le_of_lt (lbpos _));have h3:LB^(m.length+1)=LB^m.length*LB:=Int.pow_succ _ _;have hv:valL (padL (valL m*aO o).toNat (m.length+1))=valL m*aO o:=by
  rw[padL_val _ _ (by omega)];omega
 refine⟨padL_len _ _,padL_lim _ _,by rw[List.length_replicate,f.hp],(replicate_zero _).1,by omega,?_,?_⟩;·rw[List.drop_eq_nil_of_le (by rw[List.length_replicate];omega),hv];simp[valL]
 ·rw[hv];have hge:=valL_ge f.ho (by rintro h;have:=f.hp;rw[h] at this;simp at this);rw[hp] at hge;have h4:LB^(p+1)*aO o<=valL D:=by
   rw[f.hV];exact Int.mul_le_mul_of_nonneg_right hge (by omega)
  have h5:LB^(p+1)*aO o*LB^(m.length+1-o.length)<=valL D*LB^(m.length+1-o.length):=Int.mul_le_mul_of_nonneg_right h4 (Int.le_of_lt (lbpos _));have h6:LB^(p+1)*aO o*LB^(m.length+1-o.length)=LB^m.length*aO o:=by
   rw[Int.mul_comm (LB^(p+1)),Int.mul_assoc,<- Int.pow_add,show p+1+(m.length+1-o.length)=m.length by omega,Int.mul_comm]
  omega
theorem MY{m o D T Q:List Int}{p:Nat}(f:iH m o D p)(h:kU (valL m*aO o) (valL D) m.length (p+2) 0 T Q):
  valL Q=valL m/valL o/\valL T=valL m%valL o*aO o/\valL (T.take o.length)=valL T:=by
 obtain⟨h1,h2,h3,h4,h5,h6,h7⟩:=h;have hs:=f.hs;have hvo:=f.hvo;rw[List.drop_zero,Int.pow_zero,Int.one_mul] at h6;rw[Int.pow_zero,Int.mul_one] at h7;have h0:=valL_nonneg h2;have hVl:=valL_lt f.hL;rw[f.hDl] at hVl;have h8:valL T=(valL m-valL o*valL Q)*aO o:=by
  rw[Int.sub_mul,Int.mul_assoc,Int.mul_comm (valL Q),<- Int.mul_assoc,<- f.hV];omega
 rw[f.hV] at h7;have h9:0<=valL m-valL o*valL Q:=by
  by_cases hc:0<=valL m-valL o*valL Q
  ·exact hc
  ·have:=Int.mul_le_mul_of_nonneg_right (show valL m-valL o*valL Q<= -1 by omega) (show 0<=aO o by omega);omega
 have h10:valL m-valL o*valL Q<valL o:=Int.lt_of_mul_lt_mul_right (a:=aO o) (by rw[<- h8];exact h7) (by omega);have e1:valL m/valL o=valL Q:=by
  rw[show valL m=(valL m-valL o*valL Q)+valL Q*valL o by rw[Int.mul_comm (valL Q)];omega,Int.add_mul_ediv_right _ _ (by omega),Int.ediv_eq_zero_of_lt h9 h10,Int.zero_add]
 refine⟨e1.symm,?_,?_⟩;·rw[h8,Int.emod_def,e1]
 ·have:=f.hp;have:=f.hlm;exact(xv h2 (by omega) (by rw[f.hp];have:=f.hV;omega)).2.symm
theorem Qv{m o D T Q:List Int}{p:Nat}(f:iH m o D p)(h:kU (valL m*aO o) (valL D) m.length (p+2) 0 T Q):
  Q=jG m o/\padL (valL (enc (dec (false,T.take o.length))).2/aO o).toNat (enc (dec (false,T.take o.length))).2.length=eu m o:=by
 obtain⟨e1,e2,e3⟩:=MY f h;have hs:=f.hs;have hp:=f.hp;have hv0:=Int.emod_nonneg (valL m) (Int.ne_of_gt f.hvo);have ed:dec (false,T.take o.length)=valL m%valL o*aO o:=by
  show valL (T.take o.length)=_;rw[e3,e2]
 have hr:0<=valL m%valL o*aO o:=Int.mul_nonneg hv0 (by omega);refine⟨?_,?_⟩;·unfold jG;rw[if_neg (by have:=f.hle;omega),if_neg (by omega)];refine h.2.2.2.1.pad (by rw[h.2.2.1,f.hp]) ?_;rw[e1];have:=Int.ediv_nonneg (valL_nonneg f.hm.1) (Int.le_of_lt f.hvo);omega
 ·unfold eu;rw[if_neg (by have:=f.hle;omega),if_neg (by omega),ed];show padL (valL (limbs (valL m%valL o*aO o).natAbs)/aO o).toNat (limbs (valL m%valL o*aO o).natAbs).length=_;rw[limbs_val,show ((valL m%valL o*aO o).natAbs:Int)=valL m%valL o*aO o by omega,Int.mul_ediv_cancel _ (by omega)];rw[show (valL m%valL o*aO o).natAbs=(valL m%valL o*aO o).toNat by omega]
theorem MZ{m o:List Int}(h:bg (valL m) (valL o)<0): []=jG m o/\m=eu m o:=by
 have h':valL m<valL o:=by
  unfold bg at h;split at h;·assumption
  ·split at h<;>omega
 unfold jG eu;rw[if_pos h',if_pos h'];exact⟨rfl,rfl⟩
theorem M0{a b:Int}(h: ¬bg a b<0):b<=a:=by
 unfold bg at h;split at h<;>omega
theorem div_one{m o:List Int}(ho:Cano o)(h0: ¬bg (valL m) (valL o)<0)(h1:(o.length:Int)=1):
  Bj (nth (Ty.int IntKind.u32) o 0)/\padL (valL m/nth (Ty.int IntKind.u32) o 0).toNat m.length=jG m o/\ [valL m%nth (Ty.int IntKind.u32) o 0]=eu m o:=by
 have hge:=M0 h0;match o,ho,h1 with
 | [x],ho,_=>
  have hx:=ho.1 x (by simp);have hx0:x≠0:=ho.2;have e:valL [x]=x:=valL_one x;rw[e] at hge;show Bj x/\padL (valL m/x).toNat m.length=_/\ [valL m%x]=_;unfold jG eu;rw[e,if_neg (by omega),if_pos (by rfl),if_neg (by omega),if_pos (by rfl)];exact⟨⟨by omega,hx.2⟩,rfl,rfl⟩
 | [],_,h1=>simp at h1
 |_::_::_,_,h1=>simp at h1;omega
theorem JM{m o D:List Int}{p:Nat}(f:iH m o D p):(Lim m/\Bk (aO o)/\m.length<CAP)/\(Lim o/\Bk (aO o)/\o.length<CAP)/\(0:Int)<=0/\(0:Int)<=(o.length:Int)/\(o.length:Int)<=((padL (valL o*aO o).toNat (o.length+1)).length:Int):=by
 have hc:=f.hc;have hs:=f.hs;rw[padL_len];exact⟨⟨f.hm.1,⟨by omega,hs.2⟩,by unfold CAP;omega⟩,⟨f.ho.1,⟨by omega,hs.2⟩,by unfold CAP;omega⟩,by omega,by omega,by omega⟩
theorem G3{m o D:List Int}{p:Nat}(f:iH m o D p):List.drop (Int.toNat 0) (List.take (o.length:Int).toNat (padL (valL o*aO o).toNat (o.length+1)))=D:=by
 rw[Int.toNat_natCast,xw _ _ _ (by omega),f.hD];rfl
theorem JN{m o D:List Int}{p:Nat}(f:iH m o D p){n:Int}(hn:n=IntKind.i64.wrap (((padL (valL m*aO o).toNat (m.length+1)).length:Int)-((List.drop (Int.toNat 0) (List.take (o.length:Int).toNat (padL (valL o*aO o).toNat (o.length+1)))).length:Int)):=by rfl):
  0<=n/\n<=n/\Cm.Roomy 1 n.toNat:=by
 have hc:=f.hc;have hlm:=f.hlm;have hp:=f.hp;rw[G3 f,padL_len,f.hDl,wo] at hn;exact⟨by omega,by omega,by unfold Cm.Roomy;omega⟩
theorem Qw{m o D:List Int}{p:Nat}(f:iH m o D p):List.drop (Int.toNat 0) (List.take (o.length:Int).toNat (padL (valL o*aO o).toNat (o.length+1)))=D/\
  ((List.drop (Int.toNat 0) (List.take (o.length:Int).toNat (padL (valL o*aO o).toNat (o.length+1)))).length:Int)=(o.length:Int)/\
  IntKind.i64.wrap (IntKind.i64.wrap (((padL (valL m*aO o).toNat (m.length+1)).length:Int)-((List.drop (Int.toNat 0) (List.take (o.length:Int).toNat (padL (valL o*aO o).toNat (o.length+1)))).length:Int))-1)=((m.length+1-o.length:Nat):Int)-1/\
  List.replicate (IntKind.i64.wrap (((padL (valL m*aO o).toNat (m.length+1)).length:Int)-((List.drop (Int.toNat 0) (List.take (o.length:Int).toNat (padL (valL o*aO o).toNat (o.length+1)))).length:Int))).toNat (0:Int)=List.replicate (m.length+1-o.length) 0:=by
 have hc:=f.hc;have hlm:=f.hlm;have hp:=f.hp;have hD:=f.hDl;rw[G3 f,padL_len,f.hDl,wi (x:=((m.length+1:Nat):Int)-((p+2:Nat):Int)) (by omega) (by omega),wo];exact⟨rfl,by omega,by omega,by congr 1;omega⟩
theorem Fg{m o D T Q:List Int}{p k:Nat}(f:iH m o D p)(h:kU (valL m*aO o) (valL D) m.length (p+2) k T Q)(hk:k=0):
  ((0:Int)<=0/\(0:Int)<=(o.length:Int)/\(o.length:Int)<=(T.length:Int))/\(Lim (List.drop (Int.toNat 0) (List.take (o.length:Int).toNat T))/\(List.drop (Int.toNat 0) (List.take (o.length:Int).toNat T)).length<CAP)/\
   Lim (enc (dec (false,List.drop (Int.toNat 0) (List.take (o.length:Int).toNat T)))).2/\Bj (aO o)/\(enc (dec (false,List.drop (Int.toNat 0) (List.take (o.length:Int).toNat T)))).2.length<CAP:=by
 have hc:=f.hc;have hlm:=f.hlm;have hp:=f.hp;have h1:=h.1;rw[Int.toNat_natCast];show _/\(Lim (List.take o.length T)/\(List.take o.length T).length<CAP)/\Lim (limbs (dec (false,List.take o.length T)).natAbs)/\_/\(limbs (dec (false,List.take o.length T)).natAbs).length<CAP;have hl:(List.take o.length T).length=o.length:=by rw[List.length_take];omega
 have h2:(limbs (dec (false,List.take o.length T)).natAbs).length<=o.length:=limbs_len (by
  have h3:=kT h.2.1 o.length;show ((valL (List.take o.length T)).natAbs:Int)<_;omega)
 refine⟨⟨by omega,by omega,by omega⟩,⟨h.2.1.take _,by rw[hl];unfold CAP;omega⟩,(limbs_can _).1,⟨by have:=f.hs;omega,f.hs.2⟩,by unfold CAP;omega⟩
def bN(x y:Int):Int:=if 0<y then x/y else (-x)/(-y)
def kc(x y:Int):Int:=x-y*bN x y
theorem l4{m o:List Int}(hm:Cano m)(ho:Cano o)(hne:o≠ []):
  valL (jG m o)=valL m/valL o/\valL (eu m o)=valL m%valL o/\Lim (jG m o)/\Lim (eu m o)/\(jG m o).length<=m.length/\(eu m o).length<=m.length+1:=by
 have hm0:=valL_nonneg hm.1;have hvo:0<valL o:=(valL_pos ho).2 hne;have hml:=valL_lt hm.1;have hd0:0<=valL m/valL o:=Int.ediv_nonneg hm0 (by omega);have hd1:valL m/valL o<=valL m:=Int.ediv_le_self _ hm0;have hr0:=Int.emod_nonneg (valL m) (Int.ne_of_gt hvo);have hr1:=Int.emod_lt_of_pos (valL m) hvo;by_cases hlt:valL m<valL o;·have e1:valL m/valL o=0:=Int.ediv_eq_zero_of_lt hm0 hlt;have e2:valL m%valL o=valL m:=Int.emod_eq_of_lt hm0 hlt;unfold jG eu;rw[if_pos hlt,if_pos hlt,e1,e2];exact⟨rfl,rfl,fun x hx=>by simp at hx,hm.1,by simp,by omega⟩
 ·have hle:=len_le ho hm (by omega);by_cases h1:o.length=1;·unfold jG eu;rw[if_neg hlt,if_neg hlt,if_pos h1,if_pos h1];(have hx:valL o<LB:=by have h:=valL_lt ho.1;rw[h1,Int.pow_succ,Int.pow_zero,Int.one_mul] at h;exact h);refine⟨by rw[padL_val _ _ (by omega)];omega,valL_one _,padL_lim _ _,Lim.one hr0 (by omega),by rw[padL_len];omega,by simp⟩
  ·obtain⟨p,hp⟩:=qS hne (by omega);have hs:=vj ho hp;unfold jG eu;rw[if_neg hlt,if_neg hlt,if_neg h1,if_neg h1];have hr2:valL m%valL o<=valL m%valL o*aO o:=by
    have:=Int.mul_le_mul_of_nonneg_left hs.1.1 hr0;omega
   have hr3:valL m%valL o*aO o<LB^(p+2):=by
    have:=Int.mul_le_mul_of_nonneg_right (Int.le_of_lt hr1) (show 0<=aO o by omega);omega
   have hr4:=limbs_len (n:=(valL m%valL o*aO o).toNat) (k:=p+2) (by omega);have hr5:=valL_lt (limbs_can (valL m%valL o*aO o).toNat).1;rw[limbs_val] at hr5;have hge:=valL_ge ho hne;refine⟨?_,?_,padL_lim _ _,padL_lim _ _,by rw[padL_len];omega,by rw[padL_len];omega⟩
   ·rw[padL_val];·omega
    ·have h2:valL m/valL o<LB^(m.length+1-o.length):=by
      refine Int.ediv_lt_of_lt_mul hvo ?_;have h3:LB^(m.length+1-o.length)*LB^(o.length-1)<=LB^(m.length+1-o.length)*valL o:=Int.mul_le_mul_of_nonneg_left hge (Int.le_of_lt (lbpos _));rw[<- Int.pow_add,show m.length+1-o.length+(o.length-1)=m.length by omega] at h3;omega
     omega
   ·rw[padL_val _ _ (by omega)];omega
theorem Qx{a b:Int}(hb:0<b):(a%b=0->(-a)/b= -(a/b))/\(a%b≠0->(-a)/b= -(a/b)-1):=by
 have h:=Int.emod_add_mul_ediv a b;have h0:=Int.emod_nonneg a (Int.ne_of_gt hb);have h1:=Int.emod_lt_of_pos a hb;refine⟨fun hz=> ?_,fun hz=> ?_⟩;·refine((Int.ediv_emod_unique (r:=0) hb).2 ⟨?_,by omega,hb⟩).1;rw[Int.mul_neg];omega
 ·refine((Int.ediv_emod_unique (r:=b-a%b) hb).2 ⟨?_,by omega,by omega⟩).1;rw[Int.mul_sub,Int.mul_neg,Int.mul_one];omega
theorem rz{x:Bool×List Int}(h:WOK x):valL x.2=(dec x).natAbs/\(x.1=true->dec x<0)/\(x.1=false->0<=dec x):=by
 have h0:=valL_nonneg h.1.1;unfold dec;refine⟨by split<;>omega,fun e=> ?_,fun e=>by rw[if_neg (by rw[e];decide)];exact h0⟩;rw[if_pos e];have hne:x.2≠ []:=fun hn=>by rw[h.2 hn] at e;cases e
 have:=(valL_pos h.1).2 hne;omega
theorem xy{x y:Bool×List Int}(hx:WOK x)(hy:WOK y)(hne:dec y≠0):
  (dec (x.1,eu x.2 y.2)≠0/\(x.1 !=y.1)=true->dec (x.1 !=y.1,jG x.2 y.2)-1=bN (dec x) (dec y)/\dec (x.1,eu x.2 y.2)+dec y=kc (dec x) (dec y))/\
  (¬ (dec (x.1,eu x.2 y.2)≠0/\(x.1 !=y.1)=true)->dec (x.1 !=y.1,jG x.2 y.2)=bN (dec x) (dec y)/\dec (x.1,eu x.2 y.2)=kc (dec x) (dec y)):=by
 have hyne:y.2≠ []:=fun h=>hne (by unfold dec;rw[h];simp[valL]);obtain⟨v1,v2,-⟩:=l4 hx.1 hy.1 hyne;obtain⟨x1,x2,x3⟩:=rz hx;obtain⟨y1,y2,y3⟩:=rz hy;obtain⟨sx,mx⟩:=x;obtain⟨sy,my⟩:=y;simp only at*;have hb:0<valL my:=(valL_pos hy.1).2 hyne;have h:=Int.emod_add_mul_ediv (valL mx) (valL my);obtain⟨n1,n2⟩:=Qx (a:=valL mx) hb;have ex:dec (sx,mx)=if sx=true then-valL mx else valL mx:=rfl
 have ey:dec (sy,my)=if sy=true then-valL my else valL my:=rfl
 have er:dec (sx,eu mx my)=if sx=true then-(valL mx%valL my) else valL mx%valL my:=by unfold dec;rw[v2]
 have eq:dec (sx !=sy,jG mx my)=if (sx !=sy)=true then-(valL mx/valL my) else valL mx/valL my:=by unfold dec;rw[v1]
 unfold kc bN;rw[er,eq,ex,ey];cases sx<;>cases sy;·simp only[Bool.false_eq_true,if_false,bne_self_eq_false,and_false,false_implies,not_false_eq_true,true_implies,true_and,if_pos hb];omega
 ·simp only[Bool.false_eq_true,if_false,if_true,Bool.false_bne,and_true,Int.neg_neg,if_neg (show ¬0< -valL my by omega)];refine⟨fun hr=> ?_,fun hr=> ?_⟩;·rw[n2 hr];refine⟨rfl,?_⟩;rw[Int.neg_mul,Int.mul_sub,Int.mul_neg,Int.mul_one];omega
  ·(have hr0:valL mx%valL my=0:=by omega);rw[n1 hr0];refine⟨rfl,?_⟩;rw[Int.neg_mul,Int.mul_neg];omega
 ·simp only[Bool.false_eq_true,if_false,if_true,Bool.true_bne,Bool.not_false,and_true,if_pos hb];refine⟨fun hr=> ?_,fun hr=> ?_⟩;·rw[n2 (by omega)];refine⟨rfl,?_⟩;rw[Int.mul_sub,Int.mul_neg,Int.mul_one];omega
  ·(have hr0:valL mx%valL my=0:=by omega);rw[n1 hr0];refine⟨rfl,?_⟩;rw[Int.mul_neg];omega
 ·simp only[Bool.false_eq_true,if_false,if_true,bne_self_eq_false,and_false,false_implies,not_false_eq_true,true_implies,true_and,Int.neg_neg,if_neg (show ¬0< -valL my by omega)];rw[Int.neg_mul];omega
end Go.Cm
end
section
namespace Go.Cm
open Go.Proofs
theorem G4{s:Bool}{l:List Int}(h:Lim l):(enc (dec (s,l))).2.length<=l.length:=by
 show (limbs (dec (s,l)).natAbs).length<=_;refine limbs_len ?_;have h0:=valL_nonneg h;have h1:=valL_lt h;unfold dec;split<;>simp only<;>omega
structure pM (x y:Bool×List Int):Prop where
 hx:WOK x
 hy:WOK y
 hne:dec y≠0
 hc:x.2.length+y.2.length+3<CAP
namespace pM
variable {x y:Bool×List Int} (h:pM x y)
include h
theorem ne:y.2≠ []:=fun e=>h.hne (by unfold dec;rw[e];simp[valL])
theorem side1:Cano x.2/\Cano y.2/\y.2≠ []/\x.2.length+y.2.length+1<CAP:=⟨h.hx.1,h.hy.1,h.ne,by have:=h.hc;omega⟩
theorem side2:(Lim (jG x.2 y.2)/\(jG x.2 y.2).length<CAP)/\Lim (eu x.2 y.2)/\(eu x.2 y.2).length<CAP:=by
 obtain⟨v1,v2,v3,v4,v5,v6⟩:=l4 h.hx.1 h.hy.1 h.ne;have:=h.hc;exact⟨⟨v3,by omega⟩,v4,by omega⟩
theorem cond:(bg (dec (enc (dec (x.1,eu x.2 y.2)))) 0≠0/\x.1≠y.1)↔(dec (x.1,eu x.2 y.2)≠0/\(x.1 !=y.1)=true):=by
 rw[b5,ne_eq,oJ,bne_iff_ne]
theorem side4:I64 1/\(WOK (enc (dec (x.1 !=y.1,jG x.2 y.2)))/\WOK (enc 1)/\(enc (dec (x.1 !=y.1,jG x.2 y.2))).2.length+(enc 1).2.length<CAP)/\WOK (enc (dec (x.1,eu x.2 y.2)))/\WOK y/\(enc (dec (x.1,eu x.2 y.2))).2.length+y.2.length<CAP:=by
 obtain⟨v1,v2,v3,v4,v5,v6⟩:=l4 h.hx.1 h.hy.1 h.ne;have e1:=G4 (s:=x.1 !=y.1) v3;have e2:=G4 (s:=x.1) v4;have e3:=mM (n:=1) (by unfold I64;omega);have:=h.hc;exact⟨by unfold I64;omega,⟨enc_ok _,e3.1,by omega⟩,enc_ok _,h.hy,by omega⟩
theorem fin1(hb:bg (dec (enc (dec (x.1,eu x.2 y.2)))) 0≠0/\x.1≠y.1):
  enc (dec (enc (dec (x.1 !=y.1,jG x.2 y.2)))-dec (enc 1))=enc (bN (dec x) (dec y))/\enc (dec (enc (dec (x.1,eu x.2 y.2)))+dec y)=enc (kc (dec x) (dec y)):=by
 obtain⟨h1,h2⟩:=(xy h.hx h.hy h.hne).1 (h.cond.1 hb);rw[b5,b5,b5,h1,h2];exact⟨rfl,rfl⟩
theorem fin2(hb:(bg (dec (enc (dec (x.1,eu x.2 y.2)))) 0 !=0)=true->x.1=y.1):
  enc (dec (x.1 !=y.1,jG x.2 y.2))=enc (bN (dec x) (dec y))/\enc (dec (x.1,eu x.2 y.2))=enc (kc (dec x) (dec y)):=by
 obtain⟨h1,h2⟩:=(xy h.hx h.hy h.hne).2 (fun hc=>by
  obtain⟨h3,h4⟩:=h.cond.2 hc;exact h4 (hb (by rw[bne_iff_ne];exact h3)))
 rw[h1,h2];exact⟨rfl,rfl⟩
end pM
end Go.Cm
end
section
namespace Go.Cm
open Go.Proofs
def cg(a b:Int):Int:=(Nat.gcd a.natAbs b.natAbs:Nat)
theorem Bt(u v:Nat):Nat.gcd v (u%v)=Nat.gcd u v:=(Nat.gcd_comm _ _).trans ((Nat.gcd_rec v u).symm.trans (Nat.gcd_comm _ _))
theorem ic{l:List Int}(h:0<l.length):l≠ []:=by rintro rfl;simp at h
theorem Fh{l:List Int}(h:l.length=0):l= []:=List.eq_nil_of_length_eq_zero h
structure pN (x y:Bool×List Int):Prop where
 hx:WOK x
 hy:WOK y
 hc:2*(x.2.length+y.2.length)+4<CAP
structure zc (x y:Bool×List Int) (u v:List Int):Prop where
 hu:Cano u
 hv:Cano v
 hul:u.length<=x.2.length+y.2.length
 hvl:v.length<=x.2.length+y.2.length
 hg:Nat.gcd (valL u).toNat (valL v).toNat=Nat.gcd (dec x).natAbs (dec y).natAbs
theorem zc.start{x y:Bool×List Int}(h:pN x y):zc x y x.2 y.2:=by
 refine⟨h.hx.1,h.hy.1,by omega,by omega,?_⟩;rw[(rz h.hx).1,(rz h.hy).1,Int.toNat_natCast,Int.toNat_natCast]
namespace zc
variable {x y:Bool×List Int} {u v:List Int} (h:zc x y u v) (hp:pN x y)
include h hp
theorem side3(hne:v≠ []):Cano u/\Cano v/\v≠ []/\u.length+v.length+1<CAP:=⟨h.hu,h.hv,hne,by have:=hp.hc;have:=h.hul;have:=h.hvl;omega⟩
theorem side4(hne:v≠ []):Lim (eu u v)/\(eu u v).length<CAP:=by
 obtain⟨v1,v2,v3,v4,v5,v6⟩:=l4 h.hu h.hv hne;exact⟨v4,by have:=hp.hc;have:=h.hul;omega⟩
omit hp in
theorem rest(hne:v≠ []):Cano (enc (dec (false,eu u v))).2/\valL (enc (dec (false,eu u v))).2=valL u%valL v/\(enc (dec (false,eu u v))).2.length<=v.length/\0<=valL u%valL v/\valL u%valL v<valL v:=by
 obtain⟨v1,v2,v3,v4,v5,v6⟩:=l4 h.hu h.hv hne;have hvo:0<valL v:=(valL_pos h.hv).2 hne;have hr0:=Int.emod_nonneg (valL u) (Int.ne_of_gt hvo);have hr1:=Int.emod_lt_of_pos (valL u) hvo;have e:dec (false,eu u v)=valL u%valL v:=v2;rw[e];have hl:=valL_lt h.hv.1;refine⟨limbs_can _,?_,limbs_len (by omega),hr0,hr1⟩;show valL (limbs (valL u%valL v).natAbs)=_;rw[limbs_val];omega
theorem next(hne:v≠ []):zc x y v (enc (dec (false,eu u v))).2/\(valL (enc (dec (false,eu u v))).2).toNat<(valL v).toNat:=by
 obtain⟨r1,r2,r3,r4,r5⟩:=h.rest hne;have hu0:=valL_nonneg h.hu.1;have hv0:=valL_nonneg h.hv.1;refine⟨⟨h.hv,r1,h.hvl,by have:=h.hvl;omega,?_⟩,by rw[r2];omega⟩;rw[<- h.hg,r2,Int.toNat_emod hu0 hv0];exact Bt _ _
omit hp in
theorem stop(he:v= []):enc (dec (false,u))=enc (cg (dec x) (dec y)):=by
 have hg:=h.hg;subst he;have hu0:=valL_nonneg h.hu.1;show enc (valL u)=_;unfold cg;rw[<- hg];congr 1;simp[valL];omega
end zc
structure zd (x y:Bool×List Int) (a b:Int):Prop where
 a0:0<=a
 a1:a<18446744073709551616
 b0:0<=b
 b1:b<18446744073709551616
 hg:Nat.gcd a.toNat b.toNat=Nat.gcd (dec x).natAbs (dec y).natAbs
theorem M1{l:List Int}(h:Lim l)(hl:l.length<=2):valL l<18446744073709551616:=by
 have h1:=valL_lt h;have h2:=pow_mono hl;have h3:LB^2=1000000000000000000:=rfl;omega
theorem zd.start{x y:Bool×List Int}{u v:List Int}(h:zc x y u v)(hp:pN x y)(hne:v≠ [])(hl:v.length<=2):zd x y (valL v) (valL (enc (dec (false,eu u v))).2):=by
 obtain⟨r1,r2,r3,r4,r5⟩:=h.rest hne;exact⟨valL_nonneg h.hv.1,M1 h.hv.1 hl,valL_nonneg r1.1,M1 r1.1 (by omega),(h.next hp hne).1.hg⟩
theorem zd.next{x y:Bool×List Int}{a b:Int}(h:zd x y a b)(hb:0<b):zd x y b (a.tmod b)/\(a.tmod b).toNat<b.toNat:=by
 rw[Int.tmod_eq_emod_of_nonneg h.a0];have h0:=Int.emod_nonneg a (Int.ne_of_gt hb);have h1:=Int.emod_lt_of_pos a hb;have:=h.b1;refine⟨⟨h.b0,h.b1,h0,by omega,?_⟩,by omega⟩;rw[<- h.hg,Int.toNat_emod h.a0 h.b0];exact Bt _ _
theorem zd.stop{x y:Bool×List Int}{a b:Int}(h:zd x y a b)(hb: ¬0<b):a=((cg (dec x) (dec y)).toNat:Int)/\(cg (dec x) (dec y)).toNat<18446744073709551616:=by
 have hg:=h.hg;have:=h.b0;obtain rfl:b=0:=by omega
 have:(0:Int).toNat=0:=rfl;rw[this,Nat.gcd_zero_right] at hg;have h0:=h.a0;have h1:=h.a1;unfold cg;rw[Int.toNat_natCast,<- hg];omega
theorem Qy(a b:Int):(false,limbs (cg a b).toNat)=enc (cg a b):=by
 unfold enc cg;simp
end Go.Cm
end
section
namespace Go.Cm
open Go.Proofs
abbrev WT:Ty:= .st (.pair .bool (.slice (.int .u32)))
theorem vm(n:Int){k:Nat}(h:(enc n).2.length<=k):(n.natAbs:Int)<LB^k:=by
 have h1:=valL_lt (limbs_can n.natAbs).1;rw[limbs_val] at h1;exact Int.lt_of_lt_of_le h1 (pow_mono h)
theorem I64.b{n:Int}(h:I64 n): -9223372036854775808<=n/\n<=9223372036854775807:=h
theorem vn{d:Nat}(h:d<10):(UInt8.ofNat (48+d)).toNat=48+d:=by
 rw[UInt8.toNat_ofNat'];exact Nat.mod_eq_of_lt (by omega)
theorem kV:∀ (u:Nat),dL (Lib.decDigits u)/\numOf (Lib.decDigits u)=u/\(Lib.decDigits u)≠ []/\(0<u->(Lib.decDigits u).getD 0 0≠48):=by
 intro u;induction u using Nat.strongRecOn with
 |ind u ih=>
  rw[Lib.decDigits];split
  ·(rename_i h;have hc:=vn h;refine⟨fun c hc'=> ?_,?_,by simp,fun hp=> ?_⟩;·simp only[List.mem_singleton] at hc';rw[hc',hc];omega);·simp only[numOf,List.foldl_cons,List.foldl_nil,hc];omega
   ·simp only[List.getD_cons_zero];intro e;have:=congrArg UInt8.toNat e;rw[hc] at this;have h48:(48:UInt8).toNat=48:=rfl;omega
  ·rename_i h;have hc:=vn (d:=u%10) (by omega);obtain⟨h1,h2,h3,h4⟩:=ih (u/10) (by omega);refine⟨fun c hc'=> ?_,?_,by simp,fun _=> ?_⟩
   ·(rcases List.mem_append.1 hc' with hc'|hc';·exact h1 c hc');·simp only[List.mem_singleton] at hc';rw[hc',hc];omega
   ·rw[gE,h2];simp only[numOf,List.foldl_cons,List.foldl_nil,hc,List.length_cons,List.length_nil];omega
   ·match hq:Lib.decDigits (u/10),h3 with
    |a::l,_=>rw[hq] at h4;simpa using h4 (by omega)
theorem kW{D:List UInt8}(h:dL D)(hne:D≠ [])(h0:D.getD 0 0≠48∨D.length=1):Lib.decDigits (numOf D)=D:=by
 have key:∀ (n:Nat) (D:List UInt8),D.length=n+1->dL D->(D.getD 0 0≠48∨D.length=1)->Lib.decDigits (numOf D)=D:=by
  intro n;induction n with
  |zero=>
   intro D hl hd _;match D,hl with
   | [c],_=>
    have hc:=hd c (by simp);(have e:numOf [c]=c.toNat-48:=by simp[numOf]);rw[e,Lib.decDigits,dif_pos (by omega),show 48+(c.toNat-48)=c.toNat by omega,UInt8.ofNat_toNat]
  |succ n ih=>
   intro D hl hd h0;(have hne:D≠ []:=by rintro rfl;simp at hl);have e:=List.dropLast_concat_getLast hne;generalize hP:D.dropLast=P at e;generalize D.getLast hne=c at e;(have hPl:P.length=n+1:=by rw[<- hP,List.length_dropLast];omega);have hdP:dL P:=fun x hx=>hd x (by rw[<- e];simp[hx]);have hc:=hd c (by rw[<- e];simp);have hg:P.getD 0 0=D.getD 0 0:=by
    rw[<- e];match P,hPl with
    |a::l,_=>simp
   have h0D:D.getD 0 0≠48:=by
    (rcases h0 with h|h;·exact h);·omega
   (have h0P:P.getD 0 0≠48:=by rw[hg];exact h0D);have hi:=ih P hPl hdP (.inl h0P);have hpos:0<numOf P:=by
    by_cases hz:numOf P=0
    ·exfalso;rw[hz] at hi;(have h5:Lib.decDigits 0= [48]:=by rw[Lib.decDigits];rfl);rw[h5] at hi;rw[<- hi] at h0P;exact h0P rfl
    ·omega
   have hv:numOf D=numOf P*10+(c.toNat-48):=by
    rw[<- e,gE];simp[numOf]
   rw[hv,Lib.decDigits,dif_neg (by omega),show (numOf P*10+(c.toNat-48))/10=numOf P by omega,show (numOf P*10+(c.toNat-48))%10=c.toNat-48 by omega,hi,
    show 48+(c.toNat-48)=c.toNat by omega,UInt8.ofNat_toNat,e]
 match D,hne with
 |a::l,_=>exact key l.length (a::l) (by simp) h h0
theorem qT(l:List UInt8):du (45::l) [45]=true/\aw (45::l) [45]=l:=by
 have h:du (45::l) [45]=true:=by simp[du]
 refine⟨h,?_⟩;unfold aw;rw[if_pos h];rfl
theorem vo{D:List UInt8}(h:dL D):du D [45]=false/\aw D [45]=D:=by
 have h1:du D [45]=false:=by
  rw[Bool.eq_false_iff];intro hp;unfold du at hp;simp only[Bool.and_eq_true,decide_eq_true_eq,beq_iff_eq] at hp;match D,hp.2 with
  |c::l,e=>
   simp at e;have:=h c (by simp);rw[e] at this;exact absurd this.1 (by decide)
  | [],e=>simp at e
 refine⟨h1,?_⟩;unfold aw;rw[if_neg (by rw[h1];decide)]
theorem vp{s D:List UInt8}(ht:aw s [45]=D)(h:dL D)(hne:D≠ [])(h0:D.getD 0 0≠48∨s= [48]):chk s=if 2000<D.length then 6 else 0:=by
 by_cases h48:s= [48]
 ·rw[h48] at ht ⊢;have:D= [48]:=by rw[<- ht];decide
  rw[this];decide
 ·refine(jq h48 (by
   rw[ht];rintro(h1|h1);·exact hne h1
   ·(rcases h0 with h0|h0;·exact h0 h1);·exact h48 h0) (by
   rw[ht,List.all_eq_true];intro c hc;have:=h c hc;simp[fY];omega)).trans ?_
  rw[ht]
theorem eD(n:Int):c7 n=((Lib.decDigits n.natAbs).length:Int):=by
 unfold c7 Lib.itoa;rw[if_neg (by omega)];simp
theorem vq(n:Int):chk (Lib.itoa n)=(if 2000<c7 n then 6 else 0)/\al (Lib.itoa n)=n:=by
 obtain⟨d1,d2,d3,d4⟩:=kV n.natAbs;by_cases hn:n<0
 ·have e:Lib.itoa n=45::Lib.decDigits n.natAbs:=by unfold Lib.itoa;rw[if_pos hn]
  obtain⟨p1,p2⟩:=qT (Lib.decDigits n.natAbs);rw[e,vp p2 d1 d3 (.inl (d4 (by omega))),eD];refine⟨?_,?_⟩
  ·by_cases h:2000<(Lib.decDigits n.natAbs).length
   ·rw[if_pos h,if_pos (by omega)]
   ·rw[if_neg h,if_neg (by omega)]
  ·unfold al;rw[if_pos p1,p2,d2];omega
 ·have e:Lib.itoa n=Lib.decDigits n.natAbs:=by
   unfold Lib.itoa;rw[if_neg hn];congr 1;omega
  obtain⟨p1,p2⟩:=vo d1;have h0:(Lib.decDigits n.natAbs).getD 0 0≠48∨Lib.decDigits n.natAbs= [48]:=by
   by_cases hz:n.natAbs=0
   ·right;rw[hz,Lib.decDigits];rfl
   ·exact .inl (d4 (by omega))
  rw[e,vp p2 d1 d3 h0,eD];refine⟨?_,?_⟩
  ·by_cases h:2000<(Lib.decDigits n.natAbs).length
   ·rw[if_pos h,if_pos (by omega)]
   ·rw[if_neg h,if_neg (by omega)]
  ·unfold al;rw[if_neg (by rw[p1];decide),p2,d2];omega
theorem xz{s:List UInt8}(h:chk s=0):Lib.itoa (al s)=s/\c7 (al s)<=2000:=by
 obtain⟨c1,c2,c3,c4⟩:=E4 h;have hne:aw s [45]≠ []:=by intro e;rw[e] at c2;simp at c2
 by_cases h48:s= [48]
 ·subst h48;have e:al [48]=0:=by decide
  rw[e];refine⟨by simp[Lib.itoa,Lib.decDigits],by rw[xq];decide⟩
 ·have h0:=c4 h48;have hd:=kW c1 hne (.inl h0);have hpos:0<numOf (aw s [45]):=by
   by_cases hz:numOf (aw s [45])=0
   ·exfalso;rw[hz] at hd;(have h5:Lib.decDigits 0= [48]:=by rw[Lib.decDigits];rfl);rw[h5] at hd;rw[<- hd] at h0;exact h0 rfl
   ·omega
  have habs:(al s).natAbs=numOf (aw s [45]):=by unfold al;split<;>omega
  refine⟨?_,by rw[eD,habs,hd];omega⟩;unfold al Lib.itoa;by_cases hp:du s [45]=true
  ·rw[if_pos hp,if_pos (by omega),show (-(numOf (aw s [45]):Int)).natAbs=numOf (aw s [45]) by omega,hd];unfold aw;rw[if_pos hp];unfold du at hp;simp only[Bool.and_eq_true,decide_eq_true_eq,beq_iff_eq] at hp;match s,hp.2 with
   |c::l,e=>simp at e;rw[e];rfl
   | [],e=>simp at e
  ·rw[if_neg hp,if_neg (by omega),Int.toNat_natCast,hd];unfold aw;rw[if_neg hp]
theorem G5{n:Int}{k:Nat}(hk:0<k)(h:n.natAbs<10^k):c7 n<=k:=by
 have:=kQ h hk;rw[eD];omega
theorem Bu{s:List UInt8}(h:chk s=0):oM s:=by
 obtain⟨d1,d2,d3,d4⟩:=E4 h;unfold oM;have:s.length<=(aw s [45]).length+1:=by
  unfold aw;split;·rw[List.length_drop,show ([45]:List UInt8).length=1 from rfl];omega
  ·omega
 omega
structure OKT (s:List UInt8) (v:Int):Prop where
 c:chk s=0
 v:al s=v
def Bnd(v:Int)(k:Nat):Prop:=v.natAbs<10^k
theorem Bnd.add{a b:Int}{k:Nat}(ha:Bnd a k)(hb:Bnd b k):Bnd (a+b) (k+1):=by
 unfold Bnd at*;rw[Nat.pow_succ];omega
theorem Bnd.sub{a b:Int}{k:Nat}(ha:Bnd a k)(hb:Bnd b k):Bnd (a-b) (k+1):=by
 unfold Bnd at*;rw[Nat.pow_succ];omega
theorem Bnd.mul{a b:Int}{k l:Nat}(ha:Bnd a k)(hb:Bnd b l):Bnd (a*b) (k+l):=by
 unfold Bnd at*;rw[Int.natAbs_mul,Nat.pow_add];exact Nat.mul_lt_mul_of_lt_of_le ha (Nat.le_of_lt hb) (Nat.pow_pos (by decide))
theorem Bnd.mono{a:Int}{k l:Nat}(ha:Bnd a k)(h:k<=l):Bnd a l:=Nat.lt_of_lt_of_le ha (Nat.pow_le_pow_right (by decide) h)
theorem OKT.short{s:List UInt8}{v:Int}(h:OKT s v):oM s:=Bu h.c
theorem OKT.eq{a b:List UInt8}{x y:Int}(ha:OKT a x)(hb:OKT b y):x=y↔a=b:=by
 constructor;·intro h;rw[<- (xz ha.c).1,<- (xz hb.c).1,ha.v,hb.v,h]
 ·rintro rfl;rw[<- ha.v,<- hb.v]
end Go.Cm
end
section
namespace Go.Proofs
open Go.RowKit Go.Cm Go.Shelf
attribute [local go_sem] Oper.semAt_some
def vr(xs:List Int)(k:Nat):List LV:= [.z (.int .i64) ((xs.length:Int)-1-k),.z (.int .u32) (xs.getD (xs.length-1-k) 0)]
def de(xs:List Int):List (List LV):=(List.range xs.length).map (vr xs)
set_option maxRecDepth 100000 in
set_option maxHeartbeats 2000000 in
theorem Qz(F:Fence)(h7:F.fn 208)(hro:F.round=none)(l Bs oB b off len cap:Nat)(xs:List Int)(hlen:xs.length=len)(hbig:len<=maxLen)(J:Nat->World->Prop)(Jx:World->Prop)(Kp:World->World->Prop)
  (W:World) (hBs:W.cell? ⟨Bs,oB,none⟩=some (.slice (some ⟨b,off,none⟩) len cap)) (hc:∀ j,j<len->W.cell? ⟨b,off+j,none⟩=some (.int .u32 (xs.getD j 0)))
  (hKp:∀ A B,Kp A B->(∃ o:Obj,A.heap[Bs]? =some o/\o.isCells=true)->((0<len)->∃ o:Obj,A.heap[b]? =some o/\o.isCells=true)->B.heap[Bs]? =A.heap[Bs]? /\(0<len->B.heap[b]? =A.heap[b]?))
  (hY:∀ k W1,J k W1->k<len->YieldAt F 0 Tryz.prog l #[.int .i64 ((len:Int)-1-k),.int .u32 (xs.getD (len-1-k) 0)] W1 fun e W'=>(e= .returned (.bool true)/\J (k+1) W'/\Kp W1 W')∨(e= .returned (.bool false)/\Jx W'))
  (h0:J 0 W):
  CallsIn F 1 Tryz.prog 208 #[.func (.yield l) #[] #[],.pointer (some ⟨Bs,oB,none⟩)] W fun e W'=>(∃ v,e= .returned v)/\(J len W'∨Jx W'):=by
 unfold maxLen at hbig;refine callsIn_of_wp Tryz.func208 rfl h7 ?_ hro;simp only[Tryz.ntmps208,List.size_toArray,List.length_cons,List.length_nil,Nat.reduceAdd,Nat.reduceSub,Array.replicate_succ,Array.replicate_zero,List.push_toArray,List.append_toArray,List.nil_append,List.cons_append]
 gi_wp2
 gi_loopw [3] (fun i wr=>∃ k:Nat,k<=len/\i= .int .i64 ((len:Int)-1-k)/\J k wr/\wr.heap[Bs]? =W.heap[Bs]? /\(0<len->wr.heap[b]? =W.heap[b]?))
  (fun i _=>(intOf i+1).toNat)
 case atStart=>exact⟨0,Nat.zero_le _,by simp,h0,rfl,fun _=>rfl⟩
 case round=>
  obtain⟨k,hk,rfl,hJs,hn1,hn2⟩:=hrel;have hB1:wr.cell? ⟨Bs,oB,none⟩=some (.slice (some ⟨b,off,none⟩) len cap):=(World.cell?_of_block (a:=⟨Bs,oB,none⟩) hn1).trans hBs;by_cases hlt:k<len
  ·(have hge:0<=(len:Int)-1-k:=by omega);(have htn:((len:Int)-1-k).toNat=len-1-k:=by omega);(have hup:(len:Int)-1-k<len:=by omega);have hcx:wr.cell? ⟨b,off+(len-1-k),none⟩=some (.int .u32 (xs.getD (len-1-k) 0)):=(World.cell?_of_block (a:=⟨b,off+(len-1-k),none⟩) (hn2 (by omega))).trans (hc _ (by omega));have hcB:∃ o:Obj,wr.heap[Bs]? =some o/\o.isCells=true:=cells_of_cell hB1;have hcb:∃ o:Obj,wr.heap[b]? =some o/\o.isCells=true:=cells_of_cell hcx;obtain⟨fn,tmps,assign,body,hy,hR⟩:=hY k wr hJs hlt;generalize xs.getD (len-1-k) 0=x at*
   gi_wp2
   refine hR.mono ?_;rintro e W3 (⟨rfl,hJ3,hk3⟩|⟨rfl,hJx3⟩)
   ·obtain⟨e1,e2⟩:=hKp _ _ hk3 hcB (fun _=>hcb)
    gi_wp2
    go_roundw
    (case rel=>exact⟨k+1,by omega,by congr 1;omega,hJ3,e1.trans hn1,fun h=>(e2 h).trans (hn2 h)⟩);case measure=>simp[intOf];omega
   ·gi_wp2
    refine bodyPost_ret (results_none rfl _ _ _) rfl ?_;exact⟨⟨_,rfl⟩,.inr hJx3⟩
  ·(have hk2:k=len:=by omega);(have hng: ¬0<=(len:Int)-1-k:=by omega);rw[hk2] at hJs;clear hk2
   gi_wp2
   go_end0
   exact⟨⟨_,rfl⟩,.inl hJs⟩
set_option maxRecDepth 100000 in
set_option maxHeartbeats 2000000 in
theorem Bv(F:Fence)(h7:F.fn 208)(hro:F.round=none)(l Bs oB:Nat)(J:World->Prop)(W:World)(a:Option Addr)(cap:Nat)(hBs:W.cell? ⟨Bs,oB,none⟩=some (.slice a 0 cap))(h0:J W):
  CallsIn F 1 Tryz.prog 208 #[.func (.yield l) #[] #[],.pointer (some ⟨Bs,oB,none⟩)] W fun e W'=>(∃ v,e= .returned v)/\J W':=by
 refine callsIn_of_wp Tryz.func208 rfl h7 ?_ hro;simp only[Tryz.ntmps208,List.size_toArray,List.length_cons,List.length_nil,Nat.reduceAdd,Nat.reduceSub,Array.replicate_succ,Array.replicate_zero,List.push_toArray,List.append_toArray,List.nil_append,List.cons_append]
 gi_wp2
 gi_loopw [3] (fun i wr=>i= .int .i64 (-1)/\wr=W) (fun i _=>(intOf i+1).toNat)
 case atStart=>exact⟨rfl,rfl⟩
 case round=>
  obtain⟨rfl,rfl⟩:=hrel
  gi_wp2
  go_end0
  exact⟨⟨_,rfl⟩,h0⟩
theorem nD{H:Nat->Prop}{w:World}{b o:Nat}{c:Value}(h:dH H w b o [c]):w.cell? ⟨b,o,none⟩=some c/\b<w.heap.size/\ ¬H b:=
 ⟨by have:=h.2 0 (by simp);simpa using this,h.lt (by simp),h.1 (by simp)⟩
theorem Bw(xs:List Int):oH Tryz.prog 208 2 [.z (.ptr (.slice (.int .u32))) xs] (de xs):=by
 refine⟨enters_of Tryz.func208 (by kernel_rfl) rfl,?_,?_⟩;·intro it hit;obtain⟨k,_,rfl⟩:=List.mem_map.1 hit;exact⟨rfl,rfl⟩
 ·intro H w lb hH hcap;obtain⟨v,rfl⟩:∃ v,lb= [v]:=by
   match lb,hcap with
   | [v],_=>exact⟨v,rfl⟩
   |_::_::_,h=>exact h.2.elim
  obtain⟨hag,bB,oB,cells,hv,hsl,hlies⟩:=hcap.1;have hv2:v= .pointer (some ⟨bB,oB,none⟩):=by
   have hone:=cE (v:=v) (by cases v<;>first|rfl|(simp[Ty.isAgg] at hag));rw[hone] at hv;simpa using hv
  subst hv2;refine⟨fun k=> #[.int .i64 ((xs.length:Int)-1-k),.int .u32 (xs.getD (xs.length-1-k) 0)],fun k hk=> ?_,?_⟩;·simp only[de,List.getElem_map,List.getElem_range];exact⟨b4 (ρ:=fun _=>undef),b4 (ρ:=fun _=>undef),trivial⟩
  ·(intro l J Jx W hb _ _ _ _ hY h0;(have hlen:(de xs).length=xs.length:=by simp[de]);rw[hlen] at hY ⊢;rcases hsl with⟨rfl,rfl⟩|⟨b,o,p,cap,cs,rfl,hp,h1,h2,h3,h4⟩);·obtain⟨c1,c2,c3⟩:=nD hlies;exact(Bv (fw none) trivial rfl l bB oB (J 0) W none 0 ((hb.cell (p:=⟨bB,oB,none⟩) c2).trans c1) h0).mono (fun e W' h=>⟨h.1,.inl h.2⟩)
   ·(obtain⟨c1,c2,c3⟩:=nD hlies;by_cases hnil:xs= [];·subst hnil;exact(Bv (fw none) trivial rfl l bB oB (J 0) W (some ⟨b,o,p⟩) cap ((hb.cell (p:=⟨bB,oB,none⟩) c2).trans c1) h0).mono (fun e W' h=>⟨h.1,.inl h.2⟩));obtain rfl:=hp hnil;have hcs:=ox h3;(have hne:0<xs.length->cs≠ []:=fun h e=>by rw[hcs] at e;simp at e;subst e;simp at h);refine Qz (fw none) trivial rfl l bB oB b o xs.length cap xs rfl (Nat.le_trans h1 h2) J Jx (A8 H w.heap.size) W ((hb.cell (p:=⟨bB,oB,none⟩) c2).trans c1) (fun j hj=> ?_) (fun A B hk hA1 hA2=>⟨hk bB c2 c3 hA1,fun h=>hk b (h4.lt (hne h)) (h4.1 (hne h)) (hA2 h)⟩) hY h0;(have hj':j<cs.length:=by rw[hcs];simpa using hj);rw[hb.cell (p:=⟨b,o+j,none⟩) (h4.lt (hne (by omega))),h4.2 j hj',hcs,List.getElem?_map,List.getElem?_eq_getElem hj];simp[List.getD_eq_getElem?_getD,List.getElem?_eq_getElem hj]
end Go.Proofs
end
section
namespace Go.Proofs.YtdojbabpnaifoaaGreatDoor
open Go Go.Cm Go.Proofs
theorem ty2:cZ Tryz.prog 2 (.int .i64):=nR (by kernel_rfl) (by kernel_rfl)
theorem ty3:cZ Tryz.prog 3 (.int .i64):=nR (by kernel_rfl) (by kernel_rfl)
theorem ty4:cZ Tryz.prog 4 .bool:=Qi (by kernel_rfl) (by kernel_rfl)
theorem ty5:cZ Tryz.prog 5 (.int .u8):=nR (by kernel_rfl) (by kernel_rfl)
theorem ty9:cZ Tryz.prog 9 .str:=Mp (by kernel_rfl) (by kernel_rfl)
theorem dZ:cZ Tryz.prog 22 (.slice .str):=fz (E:=46) (by kernel_rfl) (by kernel_rfl) (by kernel_rfl) (by kernel_rfl) (.inr rfl)
theorem Ux:cZ Tryz.prog 23 (.slice (.int .i8)):=fz (E:=71) (by kernel_rfl) (by kernel_rfl) (by kernel_rfl) (by kernel_rfl) (.inr rfl)
theorem SY:cZ Tryz.prog 25 (.st (.pair (.slice (.int .i8)) (.pair (.int .u8) (.slice (.int .i8))))):=GE (by kernel_rfl) (by kernel_rfl)
theorem TU:cZ Tryz.prog 27 (.arr 2 (.slice .str)):=Mq (E:=22) (by kernel_rfl) (by kernel_rfl) (by kernel_rfl) (by kernel_rfl) (.inr rfl)
theorem TV:cZ Tryz.prog 28 (.arr 4 (.arr 2 (.slice .str))):=Mq (E:=27) (by kernel_rfl) (by kernel_rfl) (by kernel_rfl) (by kernel_rfl) (.inl rfl)
theorem kq:cZ Tryz.prog 31 (.int .i64):=nR (by kernel_rfl) (by kernel_rfl)
theorem pO:cZ Tryz.prog 44 (.slice (.slice .str)):=fz (E:=22) (by kernel_rfl) (by kernel_rfl) (by kernel_rfl) (by kernel_rfl) (.inr rfl)
theorem iI:cZ Tryz.prog 46 .str:=Mp (by kernel_rfl) (by kernel_rfl)
theorem TW:cZ Tryz.prog 47 (.slice (.int .u8)):=fz (E:=5) (by kernel_rfl) (by kernel_rfl) (by kernel_rfl) (by kernel_rfl) (.inr rfl)
theorem Uy:cZ Tryz.prog 71 (.int .i8):=nR (by kernel_rfl) (by kernel_rfl)
theorem QA:cZ Tryz.prog 78 tyP:=fz (E:=91) (by kernel_rfl) (by kernel_rfl) (by kernel_rfl) (by kernel_rfl) (.inl rfl)
theorem gF:cZ Tryz.prog 79 tyP:=fz (E:=91) (by kernel_rfl) (by kernel_rfl) (by kernel_rfl) (by kernel_rfl) (.inl rfl)
theorem js:cZ Tryz.prog 87 (.slice (.int .u32)):=fz (E:=161) (by kernel_rfl) (by kernel_rfl) (by kernel_rfl) (by kernel_rfl) (.inr rfl)
theorem iJ:cZ Tryz.prog 89 tyW:=GE (by kernel_rfl) (by kernel_rfl)
theorem ty91:cZ Tryz.prog 91 tyN:=GE (by kernel_rfl) (by kernel_rfl)
theorem wX:cZ Tryz.prog 98 (.slice tyP):=fz (E:=79) (by kernel_rfl) (by kernel_rfl) (by kernel_rfl) (by kernel_rfl) (.inr rfl)
theorem G6:cZ Tryz.prog 104 (.slice .str):=fz (E:=9) (by kernel_rfl) (by kernel_rfl) (by kernel_rfl) (by kernel_rfl) (.inr rfl)
theorem SC:cZ Tryz.prog 151 (.st (.pair tyN (.int .i64))):=GE (by kernel_rfl) (by kernel_rfl)
theorem gG:cZ Tryz.prog 161 (.int .u32):=nR (by kernel_rfl) (by kernel_rfl)
theorem oP:cZ Tryz.prog 164 (.int .u64):=nR (by kernel_rfl) (by kernel_rfl)
theorem jV:cZ Tryz.prog 181 (.slice (.int .i64)):=fz (E:=3) (by kernel_rfl) (by kernel_rfl) (by kernel_rfl) (by kernel_rfl) (.inr rfl)
end Go.Proofs.YtdojbabpnaifoaaGreatDoor
end
section
namespace Go.Cm
open Go.Proofs
theorem I64.w{a:Int}(h:I64 a):IntKind.i64.wrap a=a:=wi h.1 (by have:=h.2;omega)
end Go.Cm
end
section
namespace Go.Cm.D
open Go.Cm
def LB:Int:=10000
def valL:List Int->Int
 | []=>0
 |x::r=>x+LB*valL r
def Lim(l:List Int):Prop:=∀ x∈l,0<=x/\x<LB
def Cano(l:List Int):Prop:=Lim l/\l.getLastD 1≠0
theorem valL_append(a b:List Int):valL (a++b)=valL a+LB^a.length*valL b:=by
 induction a with
 |nil=>simp[valL]
 |cons x r ih=>simp only[List.cons_append,valL,ih,List.length_cons,Int.pow_succ];rw[Int.mul_add,Int.add_assoc,Int.mul_comm (LB^r.length) LB,Int.mul_assoc]
theorem valL_one(x:Int):valL [x]=x:=by simp[valL]
theorem Lim.append{a b:List Int}(ha:Lim a)(hb:Lim b):Lim (a++b):=fun x hx=>(List.mem_append.1 hx).elim (ha x) (hb x)
theorem Lim.one{x:Int}(h0:0<=x)(h1:x<LB):Lim [x]:=fun y hy=>by simp at hy;subst hy;exact⟨h0,h1⟩
theorem valL_nonneg{l:List Int}(h:Lim l):0<=valL l:=by
 induction l with
 |nil=>simp[valL]
 |cons x r ih=>
  have h1:=h x (by simp);have h2:=ih fun y hy=>h y (by simp[hy]);have:0<=LB*valL r:=Int.mul_nonneg (by decide) h2;simp only[valL];omega
theorem valL_lt{l:List Int}(h:Lim l):valL l<LB^l.length:=by
 induction l with
 |nil=>simp[valL]
 |cons x r ih=>
  have h1:=h x (by simp);have h2:=ih fun y hy=>h y (by simp[hy]);simp only[valL,List.length_cons,Int.pow_succ];have h3:LB*valL r<=LB*(LB^r.length-1):=Int.mul_le_mul_of_nonneg_left (by omega) (by decide);rw[Int.mul_sub,Int.mul_one] at h3;rw[Int.mul_comm (LB^r.length)];omega
theorem valL_inj:∀ {a b:List Int},Lim a->Lim b->a.length=b.length->valL a=valL b->a=b
 | [],[],_,_,_,_=>rfl
 |x::r,y::s,ha,hb,hl,hv=>by
  have h1:=ha x (by simp);have h2:=hb y (by simp);simp only[valL] at hv;have hm:x%LB=y%LB:=by
   (have:(x+LB*valL r)%LB=(y+LB*valL s)%LB:=by rw[hv]);rwa [Int.add_mul_emod_self_left,Int.add_mul_emod_self_left] at this
  rw[Int.emod_eq_of_lt h1.1 h1.2,Int.emod_eq_of_lt h2.1 h2.2] at hm;subst hm;have hv2:valL r=valL s:=Int.eq_of_mul_eq_mul_left (a:=LB) (by decide) (by omega);rw[valL_inj (fun z hz=>ha z (by simp[hz])) (fun z hz=>hb z (by simp[hz])) (by simpa using hl) hv2]
 | [],_::_,_,_,hl,_=>by simp at hl
 |_::_,[],_,_,hl,_=>by simp at hl
theorem getLastD_append{a b:List Int}{d:Int}(hb:b≠ []):(a++b).getLastD d=b.getLastD d:=by
 cases b with
 |nil=>exact absurd rfl hb
 |cons x r=>simp[List.getLastD_eq_getLast?,List.getLast?_append,List.getLast?_eq_some_getLast hb]
theorem valL_ge{l:List Int}(h:Cano l)(hne:l≠ []):LB^(l.length-1)<=valL l:=by
 obtain⟨h1,h2⟩:=h;have hl:=List.dropLast_concat_getLast hne;have hlast:l.getLastD 1=l.getLast hne:=by rw[List.getLastD_eq_getLast?,List.getLast?_eq_some_getLast hne];rfl
 rw[hlast] at h2;have h3:=h1 (l.getLast hne) (List.getLast_mem hne);have h4:Lim l.dropLast:=fun x hx=>h1 x (List.dropLast_subset l hx);have h5:=valL_nonneg h4;have h6:valL l=valL l.dropLast+LB^l.dropLast.length*l.getLast hne:=by
  conv=>lhs;rw[<- hl]
  rw[valL_append,valL_one]
 rw[h6,List.length_dropLast];have h7:0<=LB^(l.length-1):=Int.pow_nonneg (by decide);have h8:LB^(l.length-1)*1<=LB^(l.length-1)*l.getLast hne:=Int.mul_le_mul_of_nonneg_left (by omega) h7;omega
theorem pow_mono{a b:Nat}(h:a<=b):LB^a<=LB^b:=by
 induction h with
 |refl=>exact Int.le_refl _
 | @step m h ih=>
  rw[Int.pow_succ];have:0<=LB^m:=Int.pow_nonneg (show (0:Int)<=LB by decide);have h2:LB^m*1<=LB^m*LB:=Int.mul_le_mul_of_nonneg_left (by decide) this;omega
theorem Cano.eq{a b:List Int}(ha:Cano a)(hb:Cano b)(h:valL a=valL b):a=b:=by
 have key:∀ {a b:List Int},Cano a->Cano b->valL a=valL b-> ¬a.length<b.length:=by
  intro a b ha hb h hlt;have hne:b≠ []:=by intro e;subst e;simp at hlt
  have h1:=valL_lt ha.1;have h2:=valL_ge hb hne;have h3:=pow_mono (show a.length<=b.length-1 by omega);omega
 exact valL_inj ha.1 hb.1 (by have:=key ha hb h;have:=key hb ha h.symm;omega) h
def limbs(n:Nat):List Int:=if h:n=0 then [] else ((n%10000:Nat):Int)::limbs (n/10000)
termination_by n
decreasing_by omega
theorem limbs_val(n:Nat):valL (limbs n)=n:=by
 induction n using limbs.induct with
 |case1=>simp[limbs,valL]
 |case2 n h ih=>
  rw[limbs,dif_neg h,valL,ih];unfold LB;omega
theorem limbs_nil{n:Nat}:limbs n= []↔n=0:=by
 rw[limbs];split;·simp[*]
 ·simp[*]
theorem limbs_can(n:Nat):Cano (limbs n):=by
 induction n using limbs.induct with
 |case1=>simp[limbs,Cano,Lim]
 |case2 n h ih=>
  rw[limbs,dif_neg h];refine⟨fun x hx=> ?_,?_⟩
  ·(rcases List.mem_cons.1 hx with rfl|hx;·unfold LB;omega);·exact ih.1 x hx
  ·by_cases e:limbs (n/10000)= []
   ·have:=limbs_nil.1 e;rw[e];simp;omega
   ·have:=getLastD_append (a:= [((n%10000:Nat):Int)]) (d:=1) e;rw[List.singleton_append] at this;rw[this];exact ih.2
theorem Cano.limbs{a:List Int}(h:Cano a){n:Nat}(hv:valL a=n):a=limbs n:=h.eq (limbs_can n) (by rw[hv,limbs_val])
theorem limbs_len{n k:Nat}(h:(n:Int)<LB^k):(limbs n).length<=k:=by
 by_cases e:limbs n= []
 ·simp[e]
 ·have h1:=valL_ge (limbs_can n) e;rw[limbs_val] at h1;by_cases hk:(limbs n).length<=k;·exact hk
  ·have:=pow_mono (show k<=(limbs n).length-1 by omega);omega
theorem take_succ_val{l:List Int}{k:Nat}(h:k<l.length):valL (l.take (k+1))=valL (l.take k)+LB^k*l.getD k 0:=by
 rw[List.take_add_one,valL_append];simp only[List.length_take,Nat.min_eq_left (Nat.le_of_lt h),List.getElem?_eq_getElem h,Option.toList_some,valL_one,List.getD_eq_getElem?_getD,Option.getD_some]
theorem Lim.getD{l:List Int}(h:Lim l)(k:Nat):0<=l.getD k 0/\l.getD k 0<LB:=by
 rw[List.getD_eq_getElem?_getD];by_cases hk:k<l.length;·rw[List.getElem?_eq_getElem hk];exact h _ (List.getElem_mem hk)
 ·rw[List.getElem?_eq_none (by omega)];exact⟨by simp,by simp;decide⟩
theorem take_val(l:List Int)(k:Nat):valL (l.take (k+1))=valL (l.take k)+LB^k*l.getD k 0:=by
 by_cases h:k<l.length
 ·exact take_succ_val h
 ·rw[List.take_of_length_le (by omega),List.take_of_length_le (by omega),List.getD_eq_getElem?_getD,List.getElem?_eq_none (by omega)];simp
theorem cano_of_ge{l:List Int}(h:Lim l)(hv:l≠ []->LB^(l.length-1)<=valL l):Cano l:=by
 refine⟨h,fun h0=> ?_⟩;by_cases hne:l= [];·subst hne;simp at h0
 ·have hl:=List.dropLast_concat_getLast hne;have hlast:l.getLastD 1=l.getLast hne:=by rw[List.getLastD_eq_getLast?,List.getLast?_eq_some_getLast hne];rfl
  rw[hlast] at h0;have h4:Lim l.dropLast:=fun x hx=>h x (List.dropLast_subset l hx);have h6:valL l=valL l.dropLast+LB^l.dropLast.length*l.getLast hne:=by
   conv=>lhs;rw[<- hl]
   rw[valL_append,valL_one]
  rw[h0,Int.mul_zero,Int.add_zero] at h6;have h7:=valL_lt h4;rw[List.length_dropLast] at h7;have:=hv hne;omega
theorem tdiv_nn{n:Int}(h:0<=n):n.tdiv 10000=n/LB/\n.tmod 10000=n%LB:=
 ⟨Int.tdiv_eq_ediv_of_nonneg h,Int.tmod_eq_emod_of_nonneg h⟩
theorem valL_pos{l:List Int}(h:Cano l):0<valL l↔l≠ []:=by
 constructor;·rintro h1 rfl;simp[valL] at h1
 ·intro hne;have h1:=valL_ge h hne;have h2:0<LB^(l.length-1):=Int.pow_pos (by decide);omega
theorem last_eq{l:List Int}(h:0<l.length):nth (.int .i64) l ((l.length:Int)-1)=l.getLastD 1:=by
 have hne:l≠ []:=by intro e;subst e;simp at h
 have e:((l.length:Int)-1).toNat=l.length-1:=by omega
 show l.getD _ _=_;rw[e,List.getD_eq_getElem?_getD,List.getElem?_eq_getElem (by omega),List.getLastD_eq_getLast?,List.getLast?_eq_getElem?,List.getElem?_eq_getElem (by omega)];rfl
theorem drop_zero_val{l:List Int}(hl:Lim l)(h:0<l.length)(h0:l.getLastD 1=0):valL l.dropLast=valL l/\Lim l.dropLast:=by
 have hne:l≠ []:=by intro e;subst e;simp at h
 have hd:=List.dropLast_concat_getLast hne;have hlast:l.getLastD 1=l.getLast hne:=by rw[List.getLastD_eq_getLast?,List.getLast?_eq_some_getLast hne];rfl
 refine⟨?_,fun x hx=>hl x (List.dropLast_subset l hx)⟩;conv=>rhs;rw[<- hd]
 rw[valL_append,valL_one,<- hlast,h0];omega
theorem take_last{l:List Int}(h:0<l.length):List.take (IntKind.i64.wrap ((l.length:Int)-1)).toNat l=l.dropLast∨ ¬ (l.length:Int)<9223372036854775808:=by
 by_cases hb:(l.length:Int)<9223372036854775808
 ·left;rw[wo];have e:((l.length:Int)-1).toNat=l.length-1:=by omega
  rw[e,List.dropLast_eq_take]
 ·exact .inr hb
theorem whole_round{m z:List Int}(g1:Lim z)(g2:valL z=valL m)(g3:z.length<=m.length)(hz:(0:Int)<(z.length:Int))(hb:z.length<1000000000000)(h0:nth (.int .i64) z (IntKind.i64.wrap ((z.length:Int)-1))=0):
  Lim (List.drop (Int.toNat 0) (List.take (IntKind.i64.wrap ((z.length:Int)-1)).toNat z))/\valL (List.drop (Int.toNat 0) (List.take (IntKind.i64.wrap ((z.length:Int)-1)).toNat z))=valL m/\
   (List.drop (Int.toNat 0) (List.take (IntKind.i64.wrap ((z.length:Int)-1)).toNat z)).length<=m.length/\(List.drop (Int.toNat 0) (List.take (IntKind.i64.wrap ((z.length:Int)-1)).toNat z)).length<z.length:=by
 have hz':0<z.length:=by omega
 have e:=(take_last hz').resolve_right (by omega);rw[wo,last_eq hz'] at h0;obtain⟨d1,d2⟩:=drop_zero_val g1 hz' h0;rw[show Int.toNat 0=0 from rfl,List.drop_zero,e];exact⟨d2,by rw[d1,g2],by simp;omega,by simp;omega⟩
theorem cmp_len{a b:List Int}(ha:Cano a)(hb:Cano b)(h:a.length<b.length):valL a<valL b:=by
 have hne:b≠ []:=by intro e;subst e;simp at h
 have h1:=valL_lt ha.1;have h2:=valL_ge hb hne;have h3:=pow_mono (show a.length<=b.length-1 by omega);omega
theorem cmp_at{a b:List Int}(ha:Lim a)(hb:Lim b)(hl:a.length=b.length){k:Nat}(hk:k<a.length)(h:a.drop (k+1)=b.drop (k+1))(hlt:a.getD k 0<b.getD k 0):valL a<valL b:=by
 have e1:valL a=valL (a.take (k+1))+LB^(k+1)*valL (a.drop (k+1)):=by
  conv=>lhs;rw[<- List.take_append_drop (k+1) a]
  rw[valL_append,List.length_take,Nat.min_eq_left (by omega)]
 have e2:valL b=valL (b.take (k+1))+LB^(k+1)*valL (b.drop (k+1)):=by
  conv=>lhs;rw[<- List.take_append_drop (k+1) b]
  rw[valL_append,List.length_take,Nat.min_eq_left (by omega)]
 rw[e1,e2,h,take_val,take_val];have h1:=valL_lt (l:=a.take k) (fun x hx=>ha x (List.mem_of_mem_take hx));have h2:=valL_nonneg (l:=b.take k) (fun x hx=>hb x (List.mem_of_mem_take hx));rw[List.length_take,Nat.min_eq_left (by omega)] at h1;have h3:LB^k*(a.getD k 0+1)<=LB^k*b.getD k 0:=Int.mul_le_mul_of_nonneg_left (by omega) (Int.pow_nonneg (by decide));rw[Int.mul_add,Int.mul_one] at h3;omega
def padL:Nat->Nat->List Int
 |_,0=> []
 |v,k+1=>((v%10000:Nat):Int)::padL (v/10000) k
theorem padL_len:∀ (v k:Nat),(padL v k).length=k
 |_,0=>rfl
 |v,k+1=>by simp[padL,padL_len]
theorem padL_lim:∀ (v k:Nat),Lim (padL v k)
 |_,0=>fun x hx=>by simp[padL] at hx
 |v,k+1=>fun x hx=>by
  rcases List.mem_cons.1 hx with rfl|hx;·unfold LB;omega
  ·exact padL_lim _ k x hx
theorem padL_val:∀ (v k:Nat),(v:Int)<LB^k->valL (padL v k)=v
 |v,0,h=>by
  have:v=0:=by simp at h;omega
  subst this;rfl
 |v,k+1,h=>by
  have:((v/10000:Nat):Int)<LB^k:=by
   rw[Int.pow_succ] at h;(have e:((v/10000:Nat):Int)=(v:Int)/LB:=by unfold LB;omega);rw[e];exact Int.ediv_lt_of_lt_mul (by decide) h
  rw[padL,valL,padL_val _ k this];unfold LB;omega
theorem Lim.pad{l:List Int}(h:Lim l){v k:Nat}(hl:l.length=k)(hv:valL l=v):l=padL v k:=
 valL_inj h (padL_lim v k) (by rw[hl,padL_len]) (by rw[hv,padL_val];rw[<- hv,<- hl];exact valL_lt h)
theorem len_le{a b:List Int}(ha:Cano a)(hb:Cano b)(h:valL a<=valL b):a.length<=b.length:=by
 by_cases hl:b.length<a.length
 ·have:=cmp_len hb ha hl;omega
 ·omega
theorem minus_round{m o out:List Int}{k:Nat}{b n b':Int}(g2:out.length=k)(g3:Lim out)(g6:valL out+valL (o.take k)=valL (m.take k)+LB^k*b)(hn:0<=n)(hn2:n<LB)(he:n=m.getD k 0-b-o.getD k 0+LB*b'):
  Lim (out++ [n])/\valL (out++ [n])+valL (o.take (k+1))=valL (m.take (k+1))+LB^(k+1)*b':=by
 refine⟨g3.append (Lim.one hn hn2),?_⟩;rw[valL_append,valL_one,g2,take_val,take_val,Int.pow_succ];have h1:LB^k*n=LB^k*m.getD k 0-LB^k*b-LB^k*o.getD k 0+LB^k*LB*b':=by
  rw[he,Int.mul_add,Int.mul_sub,Int.mul_sub,Int.mul_assoc]
 omega
theorem minus_end{m o out:List Int}{b:Int}(hm:Cano m)(ho:Cano o)(hle:valL o<=valL m)(g2:out.length=m.length)(g3:Lim out)(g4:0<=b)(g6:valL out+valL (o.take m.length)=valL m+LB^m.length*b):out=padL (valL m-valL o).toNat m.length:=by
 rw[List.take_of_length_le (len_le ho hm hle)] at g6;have h1:=valL_lt g3;rw[g2] at h1;have h2:0<LB^m.length:=Int.pow_pos (by decide);have hb:b=0:=by
  by_cases hb:b=0
  ·exact hb
  ·have:LB^m.length*1<=LB^m.length*b:=Int.mul_le_mul_of_nonneg_left (by omega) (by omega);omega
 subst hb;exact g3.pad g2 (by omega)
theorem plus_len{m o:List Int}(hm:Cano m)(ho:Cano o):(limbs (valL m+valL o).toNat).length<=m.length+o.length:=by
 have h1:=valL_lt hm.1;have h2:=valL_lt ho.1;have h3:=valL_nonneg hm.1;have h4:=valL_nonneg ho.1;have hpos:∀ k,1<=LB^k:=fun k=>(Int.pow_pos (show (0:Int)<LB by decide):0<LB^k);by_cases e1:m= [];·subst e1;rw[show valL ([]:List Int)=0 from rfl,Int.zero_add];exact limbs_len (by rw[Int.toNat_of_nonneg h4];simpa using h2)
 ·by_cases e2:o= []
  ·subst e2;rw[show valL ([]:List Int)=0 from rfl,Int.add_zero];exact limbs_len (by rw[Int.toNat_of_nonneg h3];simpa using h1)
  ·have l1:=List.length_pos_iff.2 e1;have l2:=List.length_pos_iff.2 e2;refine limbs_len ?_;rw[Int.toNat_of_nonneg (by omega)];have p1:=pow_mono (show m.length<=m.length+o.length-1 by omega);have p2:=pow_mono (show o.length<=m.length+o.length-1 by omega);have p3:LB^(m.length+o.length)=LB^(m.length+o.length-1)*LB:=by
    rw[<- Int.pow_succ];congr 1;omega
   have p4:=hpos (m.length+o.length-1);have p5:LB^(m.length+o.length-1)*2<=LB^(m.length+o.length-1)*LB:=Int.mul_le_mul_of_nonneg_left (by decide) (by omega);omega
theorem minus_val{m o:List Int}(hm:Cano m)(ho:Cano o)(hle:valL o<=valL m):valL (padL (valL m-valL o).toNat m.length)=valL m-valL o:=by
 have h1:=valL_lt hm.1;have h2:=valL_nonneg ho.1;rw[padL_val _ _ (by rw[Int.toNat_of_nonneg (by omega)];omega),Int.toNat_of_nonneg (by omega)]
theorem cmp_lens{m o:List Int}(hm:Cano m)(ho:Cano o)(h:bg (m.length:Int) (o.length:Int)≠0):bg (m.length:Int) (o.length:Int)=bg (valL m) (valL o):=by
 unfold bg at h ⊢;by_cases h1:m.length<o.length;·have:=cmp_len hm ho h1;rw[if_pos (by omega),if_pos this]
 ·by_cases h2:o.length<m.length
  ·have:=cmp_len ho hm h2;rw[if_neg (by omega),if_pos (by omega),if_neg (by omega),if_pos this]
  ·rw[if_neg (by omega),if_neg (by omega)] at h;exact absurd rfl h
theorem cmp_place{m o:List Int}(hm:Cano m)(ho:Cano o)(hl:m.length=o.length){k:Nat}(hk:k<m.length)(hd:m.drop (k+1)=o.drop (k+1))(h:bg (m.getD k 0) (o.getD k 0)≠0):bg (m.getD k 0) (o.getD k 0)=bg (valL m) (valL o):=by
 unfold bg at h ⊢;by_cases h1:m.getD k 0<o.getD k 0;·have:=cmp_at hm.1 ho.1 hl hk hd h1;rw[if_pos h1,if_pos this]
 ·by_cases h2:o.getD k 0<m.getD k 0
  ·have:=cmp_at ho.1 hm.1 hl.symm (by omega) hd.symm h2;rw[if_neg h1,if_pos h2,if_neg (by omega),if_pos this]
  ·rw[if_neg h1,if_neg h2] at h;exact absurd rfl h
theorem drop_step{m o:List Int}{k:Nat}(hl:m.length=o.length)(hk:k<m.length)(hd:m.drop (k+1)=o.drop (k+1))(h:m.getD k 0=o.getD k 0):m.drop k=o.drop k:=by
 rw[List.drop_eq_getElem_cons hk,List.drop_eq_getElem_cons (show k<o.length by omega),hd];rw[List.getD_eq_getElem?_getD,List.getD_eq_getElem?_getD,List.getElem?_eq_getElem hk,List.getElem?_eq_getElem (show k<o.length by omega)] at h;simp at h;rw[h]
theorem set_val:∀ {l:List Int} {j:Nat} {v:Int},j<l.length->valL (l.set j v)=valL l+LB^j*(v-l.getD j 0)
 |x::r,0,v,_=>by simp[valL];omega
 |x::r,j+1,v,h=>by
  have ih:=set_val (l:=r) (j:=j) (v:=v) (by simpa using h);simp only[List.set_cons_succ,valL,ih,List.getD_cons_succ,Int.pow_succ];rw[Int.mul_add,Int.mul_comm (LB^j) LB,Int.mul_assoc];omega
 | [],_,_,h=>by simp at h
theorem set_lim{l:List Int}{j:Nat}{v:Int}(h:Lim l)(h0:0<=v)(h1:v<LB):Lim (l.set j v):=fun x hx=>by
 rcases List.mem_or_eq_of_mem_set hx with h2|rfl;·exact h x h2
 ·exact⟨h0,h1⟩
theorem getD_set_ne{l:List Int}{j k:Nat}{v:Int}(h:j≠k):(l.set j v).getD k 0=l.getD k 0:=by
 rw[List.getD_eq_getElem?_getD,List.getD_eq_getElem?_getD,List.getElem?_set_ne h]
theorem mul_bound{x y a c:Int}(hx:0<=x/\x<LB)(hy:0<=y/\y<LB)(ha:0<=a/\a<LB)(hc:0<=c/\c<LB):0<=x*y/\x*y+a+c<LB*LB/\x*y<=LB*LB:=by
 have h1:0<=x*y:=Int.mul_nonneg hx.1 hy.1;have h2:x*y<=(LB-1)*(LB-1):=Int.mul_le_mul (by omega) (by omega) hy.1 (by decide);have hB:LB=10000:=rfl;have h3:(LB-1)*(LB-1)=99980001:=rfl;have h4:LB*LB=100000000:=rfl;omega
theorem mul_step{x y out:List Int}{i k:Nat}{c p n:Int}(hx:Lim x)(hy:Lim y)(h1:out.length=x.length+y.length)(h2:Lim out)(h3:0<=c)(h4:c<LB)(hi:i<x.length)(hk:k<y.length)
  (h6:valL out+LB^(i+k)*c=p+LB^i*(x.getD i 0*valL (y.take k))) (hz:∀ j,i+y.length<=j->out.getD j 0=0) (hn:n=x.getD i 0*y.getD k 0+out.getD (i+k) 0+c):
  0<=n/\n<LB*LB/\(out.set (i+k) (n%LB)).length=x.length+y.length/\Lim (out.set (i+k) (n%LB))/\0<=n/LB/\n/LB<LB/\
   valL (out.set (i+k) (n%LB))+LB^(i+(k+1))*(n/LB)=p+LB^i*(x.getD i 0*valL (y.take (k+1)))/\∀ j,i+y.length<=j->(out.set (i+k) (n%LB)).getD j 0=0:=by
 have hb:=mul_bound (hx.getD i) (hy.getD k) (h2.getD (i+k)) ⟨h3,h4⟩;have ha:=h2.getD (i+k);have hB:LB=10000:=rfl;have hn0:0<=n:=by omega
 have hn1:n<LB*LB:=by omega
 have hm:0<=n%LB/\n%LB<LB:=⟨Int.emod_nonneg _ (by decide),Int.emod_lt_of_pos _ (by decide)⟩;refine⟨hn0,hn1,by simp[h1],set_lim h2 hm.1 hm.2,Int.ediv_nonneg hn0 (by decide),Int.ediv_lt_of_lt_mul (by decide) hn1,?_,fun j hj=> ?_⟩
 ·rw[set_val (by omega),take_val,<- Nat.add_assoc,Int.pow_succ];have e1:n%LB+LB*(n/LB)=n:=Int.emod_add_mul_ediv n LB;have e2:LB^(i+k)*(n%LB-out.getD (i+k) 0)+LB^(i+k)*LB*(n/LB)=LB^(i+k)*(n-out.getD (i+k) 0):=by
   rw[Int.mul_assoc,<- Int.mul_add];congr 1;omega
  have e3:n-out.getD (i+k) 0=x.getD i 0*y.getD k 0+c:=by omega
  have e4:LB^(i+k)=LB^i*LB^k:=Int.pow_add ..;have e5:LB^i*(x.getD i 0*(valL (y.take k)+LB^k*y.getD k 0))=LB^i*(x.getD i 0*valL (y.take k))+LB^(i+k)*(x.getD i 0*y.getD k 0):=by
   rw[Int.mul_add,Int.mul_add,e4];congr 1;rw[Int.mul_assoc,Int.mul_left_comm (x.getD i 0)]
  rw[e3,Int.mul_add] at e2;omega
 ·rw[getD_set_ne (by omega)];exact hz j hj
theorem mul_row{x y out:List Int}{i:Nat}{c p:Int}(h1:out.length=x.length+y.length)(h2:Lim out)(h3:0<=c)(h4:c<LB)(hi:i<x.length)(hp:p=valL (x.take i)*valL y)
  (h6:valL out+LB^(i+y.length)*c=p+LB^i*(x.getD i 0*valL y)) (hz:∀ j,i+y.length<=j->out.getD j 0=0):
  (out.set (i+y.length) c).length=x.length+y.length/\Lim (out.set (i+y.length) c)/\valL (out.set (i+y.length) c)=valL (x.take (i+1))*valL y/\∀ j,i+1+y.length<=j->(out.set (i+y.length) c).getD j 0=0:=by
 refine⟨by simp[h1],set_lim h2 h3 h4,?_,fun j hj=> ?_⟩;·rw[set_val (by omega),hz _ (Nat.le_refl _),take_val,Int.add_mul,Int.sub_zero,h6,hp,Int.mul_assoc]
 ·rw[getD_set_ne (by omega)];exact hz j (by omega)
theorem replicate_zero(n:Nat):Lim (List.replicate n 0)/\valL (List.replicate n 0)=0/\∀ j,(List.replicate n (0:Int)).getD j 0=0:=by
 refine⟨fun x hx=> ?_,?_,fun j=> ?_⟩;·have:=List.eq_of_mem_replicate hx;subst this;exact⟨by decide,by decide⟩
 ·induction n with
  |zero=>rfl
  |succ n ih=>rw[List.replicate_succ,valL,ih];rfl
 ·rw[List.getD_eq_getElem?_getD,List.getElem?_replicate];split<;>rfl
theorem hB:LB=10000:=rfl
theorem gt_of{a b:Int}(h1: ¬a<b)(h2:a≠b):b<a:=by omega
theorem lbpos(k:Nat):0<LB^k:=Int.pow_pos (by decide)
theorem cut_fin{m z:List Int}(g1:Lim z)(g2:valL z=valL m)(h:0<z.length->z.getLastD 1≠0):z=limbs (valL m).toNat:=by
 have h0:=valL_nonneg g1;refine Cano.limbs ⟨g1,?_⟩ (by omega);by_cases e:0<z.length;·exact h e
 ·have:z= []:=List.eq_nil_of_length_eq_zero (by omega);subst this;simp
theorem getD_none{l:List Int}{k:Nat}(h:l.length<=k):l.getD k 0=0:=by
 rw[List.getD_eq_getElem?_getD,List.getElem?_eq_none h];rfl
theorem digit{n:Int}(h0:0<=n)(h1:n<9223372036854775808):n.tmod 10000=n%LB/\IntKind.i64.wrap (n.tdiv 10000)=n/LB/\0<=n%LB/\n%LB<LB/\0<=n/LB/\n%LB+LB*(n/LB)=n:=by
 obtain⟨e1,e2⟩:=tdiv_nn h0;have h2:0<=n/LB:=Int.ediv_nonneg h0 (by decide);have h3:n/LB<=n:=by rw[hB];omega
 exact⟨e2,by rw[e1];exact wo,Int.emod_nonneg _ (by decide),Int.emod_lt_of_pos _ (by decide),h2,Int.emod_add_mul_ediv n LB⟩
theorem cmp_less{m o:List Int}(hm:Cano m)(ho:Cano o)(hl:m.length=o.length){k:Nat}(hk:k<m.length)(hd:m.drop (k+1)=o.drop (k+1))(h:m.getD k 0<o.getD k 0):bg (valL m) (valL o)= -1:=by
 unfold bg;rw[if_pos (cmp_at hm.1 ho.1 hl hk hd h)]
theorem cmp_more{m o:List Int}(hm:Cano m)(ho:Cano o)(hl:m.length=o.length){k:Nat}(hk:k<m.length)(hd:m.drop (k+1)=o.drop (k+1))(h:o.getD k 0<m.getD k 0):bg (valL m) (valL o)=1:=by
 have:=cmp_at ho.1 hm.1 hl.symm (by omega) hd.symm h;unfold bg;rw[if_neg (by omega),if_pos this]
structure PlusPhi (m o:List Int) (k:Nat) (c:Int) (out:List Int):Prop where
 hk:out.length=k
 hl:Lim out
 hc:0<=c/\c<=1
 hv:valL out+LB^k*c=valL (m.take k)+valL (o.take k)
 hs:k<=max m.length o.length∨(c=0/\LB^(k-1)<=valL out)
theorem plus_start{m o:List Int}:PlusPhi m o 0 0 []:=⟨rfl,fun x hx=>by simp at hx,by omega,by simp[valL],.inl (by omega)⟩
theorem plus_n{m o:List Int}{k:Nat}{c:Int}{out:List Int}(hm:Lim m)(ho:Lim o)(h:PlusPhi m o k c out):
  IntKind.i64.wrap (c+m.getD k 0)=c+m.getD k 0/\IntKind.i64.wrap (c+m.getD k 0+o.getD k 0)=c+m.getD k 0+o.getD k 0/\IntKind.i64.wrap (c+o.getD k 0)=c+o.getD k 0:=by
 have h1:=hm.getD k;have h2:=ho.getD k;have h3:=h.hc;have e:=hB;exact⟨wo,wo,wo⟩
theorem plus_next{m o:List Int}{k:Nat}{c n:Int}{out:List Int}(hm:Lim m)(ho:Lim o)(h:PlusPhi m o k c out)(hb:(k<m.length∨k<o.length)∨0<c)(hn:n=c+m.getD k 0+o.getD k 0):
  PlusPhi m o (k+1) (IntKind.i64.wrap (n.tdiv 10000)) (out++ [n.tmod 10000])/\2*(max m.length o.length-(k+1))+(IntKind.i64.wrap (n.tdiv 10000)).toNat<2*(max m.length o.length-k)+c.toNat:=by
 have h1:=hm.getD k;have h2:=ho.getD k;obtain⟨hk,hl,hc,hv,hs⟩:=h;have e:=hB;obtain⟨d1,d2,d3,d4,d5,d6⟩:=digit (n:=n) (by omega) (by omega);have hq:n/LB<=1:=by rw[hB] at h1 h2 ⊢;omega
 rw[d1,d2];have hval:valL (out++ [n%LB])+LB^(k+1)*(n/LB)=valL (m.take (k+1))+valL (o.take (k+1)):=by
  rw[valL_append,valL_one,hk,take_val,take_val,Int.pow_succ];have h3:LB^k*(n%LB)+LB^k*LB*(n/LB)=LB^k*n:=by rw[Int.mul_assoc,<- Int.mul_add,d6]
  have h4:LB^k*n=LB^k*c+LB^k*m.getD k 0+LB^k*o.getD k 0:=by rw[hn,Int.mul_add,Int.mul_add]
  omega
 by_cases hM:k+1<=max m.length o.length
 ·exact⟨⟨by simp[hk],hl.append (Lim.one d3 d4),⟨d5,hq⟩,hval,.inl hM⟩,by omega⟩
 ·have hkM:k=max m.length o.length:=by
   (rcases hs with hs|⟨hs,-⟩;·omega);·omega
  have g1:m.getD k 0=0:=getD_none (by omega);have g2:o.getD k 0=0:=getD_none (by omega);have hc1:c=1:=by omega
  have hn1:n=1:=by omega
  have q0:n/LB=0:=by rw[hn1];rfl
  have r1:n%LB=1:=by rw[hn1];rfl
  refine⟨⟨by simp[hk],hl.append (Lim.one d3 d4),⟨d5,hq⟩,hval,.inr ⟨q0,?_⟩⟩,by rw[q0];omega⟩;rw[valL_append,valL_one,hk,r1,Nat.add_sub_cancel];have:=valL_nonneg hl;omega
theorem plus_k{m o:List Int}{k:Nat}{c:Int}{out:List Int}(h:PlusPhi m o k c out)(hb:(k<m.length∨k<o.length)∨0<c):k<=max m.length o.length:=by
 rcases h.hs with hs|⟨hs,-⟩;·exact hs
 ·omega
theorem plus_fin{m o:List Int}{k:Nat}{c:Int}{out:List Int}(hm:Cano m)(ho:Cano o)(h:PlusPhi m o k c out)(hb: ¬ ((k<m.length∨k<o.length)∨0<c)):out=limbs (valL m+valL o).toNat:=by
 obtain⟨hk,hl,hc,hv,hs⟩:=h;have hc0:c=0:=by omega
 rw[hc0,Int.mul_zero,Int.add_zero,List.take_of_length_le (by omega),List.take_of_length_le (by omega)] at hv;have h1:=valL_nonneg hm.1;have h2:=valL_nonneg ho.1;refine Cano.limbs (cano_of_ge hl fun hne=> ?_) (by omega);rw[hk];rcases hs with hs|⟨-,hs⟩
 ·rw[hv];by_cases hlt:m.length<o.length
  ·(have hone:o≠ []:=by intro e;rw[e] at hlt;simp at hlt);have:=valL_ge ho hone;(have e:k=o.length:=by omega);rw[e];omega
  ·have hmne:m≠ []:=by
    intro e;(have hm0:m.length=0:=by rw[e];rfl);(have:k=0:=by omega);rw[this] at hk;exact hne (List.eq_nil_of_length_eq_zero hk)
   have:=valL_ge hm hmne;(have e:k=m.length:=by omega);rw[e];omega
 ·exact hs
structure MinusPhi (m o:List Int) (k:Nat) (b:Int) (out:List Int):Prop where
 hk:out.length=k
 hkm:k<=m.length
 hl:Lim out
 hb:0<=b/\b<=1
 hv:valL out+valL (o.take k)=valL (m.take k)+LB^k*b
theorem minus_start{m o:List Int}:MinusPhi m o 0 0 []:=⟨rfl,Nat.zero_le _,fun x hx=>by simp at hx,by omega,by simp[valL]⟩
def borrowed(n:Int):Int:=if n<0 then 1 else 0
theorem nth64{l:List Int}{k:Nat}:nth (.int .i64) l (k:Int)=l.getD k 0:=rfl
theorem borrow_t{n:Int}(h:n<0)(hw:IntKind.i64.wrap (n+10000)=n+10000):1=borrowed n/\IntKind.i64.wrap (n+10000)=n+10000*borrowed n:=by
 unfold borrowed;rw[if_pos h,hw];exact⟨rfl,rfl⟩
theorem borrow_f{n:Int}(h: ¬n<0):0=borrowed n/\n=n+10000*borrowed n:=by
 unfold borrowed;rw[if_neg h];exact⟨rfl,by omega⟩
theorem len_wrap{x y:List Int}(h:x.length+y.length<CAP):IntKind.i64.wrap ((x.length:Int)+(y.length:Int))=((x.length+y.length:Nat):Int):=by
 have h:x.length+y.length<1000000000000:=h;rw[wo];omega
theorem minus_w{m o:List Int}{k:Nat}{b:Int}{out:List Int}(hm:Lim m)(ho:Lim o)(h:MinusPhi m o k b out):
  IntKind.i64.wrap (m.getD k 0-b)=m.getD k 0-b/\IntKind.i64.wrap (m.getD k 0-b-o.getD k 0)=m.getD k 0-b-o.getD k 0/\IntKind.i64.wrap (m.getD k 0-b-o.getD k 0+10000)=m.getD k 0-b-o.getD k 0+10000:=by
 have h1:=hm.getD k;have h2:=ho.getD k;have h3:=h.hb;have e:=hB;exact⟨wo,wo,wo⟩
theorem minus_next{m o:List Int}{k:Nat}{b n:Int}{out:List Int}(hm:Lim m)(ho:Lim o)(h:MinusPhi m o k b out)(hk1:k<m.length)(hn:n=m.getD k 0-b-o.getD k 0):
  MinusPhi m o (k+1) (borrowed n) (out++ [n+10000*borrowed n]):=by
 have h1:=hm.getD k;have h2:=ho.getD k;obtain⟨hk,hkm,hl,hb,hv⟩:=h;have e:=hB;have hbb:0<=borrowed n/\borrowed n<=1/\0<=n+10000*borrowed n/\n+10000*borrowed n<LB:=by
  unfold borrowed;split<;>omega
 obtain⟨m1,m2⟩:=minus_round (out:=out) (b:=b) (n:=n+10000*borrowed n) (b':=borrowed n) hk hl hv hbb.2.2.1 hbb.2.2.2 (by rw[hn,e]);exact⟨by simp[hk],hk1,m1,⟨hbb.1,hbb.2.1⟩,m2⟩
theorem minus_fin{m o:List Int}{k:Nat}{b:Int}{out:List Int}(hm:Cano m)(ho:Cano o)(hle:valL o<=valL m)(h:MinusPhi m o k b out)(hk2: ¬k<m.length):valL out=valL m-valL o/\Lim out:=by
 obtain⟨hk,hkm,hl,hb,hv⟩:=h;have hk3:k=m.length:=by omega
 subst hk3;have:=minus_end hm ho hle hk hl hb.1 (by rw[List.take_length] at hv;exact hv);exact⟨by rw[this,minus_val hm ho hle],hl⟩
structure TimesPhi (x y:List Int) (i:Nat) (out:List Int):Prop where
 h1:i<=x.length
 h2:out.length=x.length+y.length
 h3:Lim out
 h4:valL out=valL (x.take i)*valL y
 h5:∀ j,i+y.length<=j->out.getD j 0=0
theorem times_start{x y:List Int}:TimesPhi x y 0 (List.replicate (x.length+y.length) 0):=by
 obtain⟨r1,r2,r3⟩:=replicate_zero (x.length+y.length);exact⟨by simp,by simp,r1,by simp[r2,valL],fun j _=>r3 j⟩
def Wid(y:List Int):Prop:=(∀ v∈y,0<=v/\v<=LB)/\valL y<=LB^y.length
theorem Lim.wid{y:List Int}(h:Lim y):Wid y:=⟨fun v hv=>⟨(h v hv).1,Int.le_of_lt (h v hv).2⟩,Int.le_of_lt (valL_lt h)⟩
theorem wid_one{v:Int}(h0:0<=v)(h1:v<=LB):Wid [v]:=⟨fun x hx=>by simp at hx;subst hx;exact⟨h0,h1⟩,by rw[valL_one];show v<=LB^1;rw[Int.pow_succ,Int.pow_zero,Int.one_mul];exact h1⟩
theorem Wid.getD{y:List Int}(h:Wid y)(k:Nat):0<=y.getD k 0/\y.getD k 0<=LB:=by
 rw[List.getD_eq_getElem?_getD];by_cases hk:k<y.length;·rw[List.getElem?_eq_getElem hk];exact h.1 _ (List.getElem_mem hk)
 ·rw[List.getElem?_eq_none (by omega)];exact⟨by simp,by simp;decide⟩
structure RowPhi (x y:List Int) (i k:Nat) (c:Int) (out:List Int):Prop where
 h1:k<=y.length∨(k=y.length+1/\c=0)
 h2:out.length=x.length+y.length
 h3:Lim out
 h4:0<=c/\c<=LB
 h6:valL out+LB^(i+k)*c=valL (x.take i)*valL y+LB^i*(x.getD i 0*valL (y.take k))
 h7:∀ j,i+max k y.length<=j->out.getD j 0=0
theorem row_start{x y out:List Int}{i:Nat}(h:TimesPhi x y i out):RowPhi x y i 0 0 out:=
 ⟨.inl (Nat.zero_le _),h.h2,h.h3,⟨by decide,by decide⟩,by rw[h.h4];simp[valL],fun j hj=>h.h5 j (by omega)⟩
theorem row_bound{x y a c:Int}(hx:0<=x/\x<LB)(hy:0<=y/\y<=LB)(ha:0<=a/\a<LB)(hc:0<=c/\c<=LB):
  IntKind.i64.wrap (a+c)=a+c/\IntKind.i64.wrap (x*y)=x*y/\IntKind.i64.wrap (a+c+x*y)=a+c+x*y/\0<=a+c+x*y/\a+c+x*y<100010000:=by
 have h1:0<=x*y:=Int.mul_nonneg hx.1 hy.1;have h2:x*y<=(LB-1)*LB:=Int.mul_le_mul (by omega) hy.2 hy.1 (by decide);have e:=hB;have e2:(LB-1)*LB=99990000:=rfl;exact⟨wo,wo,wo,by omega,by omega⟩
theorem JO{x y out:List Int}{i k:Nat}{c:Int}(hx:Lim x)(hy:Wid y)(h:RowPhi x y i k c out)(hk:k=y.length):c<LB:=by
 obtain⟨h1,h2,h3,h4,h6,h7⟩:=h;rw[hk,List.take_length] at h6;have a1:valL (x.take i)*valL y+LB^i*(x.getD i 0*valL y)=valL (x.take (i+1))*valL y:=by
  rw[take_val,Int.add_mul,Int.mul_assoc]
 rw[a1] at h6;have a2:=valL_nonneg h3;have hxt:Lim (x.take (i+1)):=fun z hz=>hx z (List.mem_of_mem_take hz);have a3:=valL_lt hxt;have a4:=valL_nonneg hxt;have a5:=pow_mono (show (x.take (i+1)).length<=i+1 by rw[List.length_take];omega);have hy0:0<=valL y:=by
  have key:∀ l:List Int,(∀ v∈l,0<=v)->0<=valL l:=by
   intro l;induction l with
   |nil=>intro _;simp[valL]
   |cons z l ih=>
    intro hz;have e1:=hz z (by simp);have e2:=ih fun v hv=>hz v (by simp[hv]);have:0<=LB*valL l:=Int.mul_nonneg (by decide) e2;simp only[valL];omega
  exact key y fun v hv=>(hy.1 v hv).1
 have a6:valL (x.take (i+1))*valL y<=(LB^(i+1)-1)*LB^y.length:=Int.mul_le_mul (by omega) hy.2 hy0 (by have:=lbpos (i+1);omega);have a7:(LB^(i+1)-1)*LB^y.length=LB^(i+y.length)*LB-LB^y.length:=by
  rw[Int.sub_mul,Int.one_mul,Int.pow_succ,Int.pow_add];congr 1;rw[Int.mul_assoc,Int.mul_assoc,Int.mul_comm LB]
 have a8:=lbpos y.length;by_cases hc:c<LB;·exact hc
 ·exfalso;have a9:LB^(i+y.length)*LB<=LB^(i+y.length)*c:=Int.mul_le_mul_of_nonneg_left (by omega) (Int.le_of_lt (lbpos _));omega
theorem row_next{x y out:List Int}{i k:Nat}{c n:Int}(hx:Lim x)(hy:Wid y)(hi:i<x.length)(h:RowPhi x y i k c out)(hb:k<y.length∨0<c)(hn:n=out.getD (i+k) 0+c+x.getD i 0*y.getD k 0):
  i+k<x.length+y.length/\RowPhi x y i (k+1) (IntKind.i64.wrap (n.tdiv 10000)) (out.set (i+k) (n.tmod 10000)):=by
 have hcar:=JO hx hy h;obtain⟨h1,h2,h3,h4,h6,h7⟩:=h;have ek:=row_bound (hx.getD i) (hy.getD k) (h3.getD (i+k)) h4;obtain⟨d1,d2,d3,d4,d5,d6⟩:=digit (n:=n) (by omega) (by omega);have e:=hB;have hq:n/LB<=LB:=by rw[hB];omega
 rw[d1,d2];have hkl:k<=y.length:=by
  rcases h1 with h1|⟨h1,h0⟩;·exact h1
  ·omega
 have hin:i+k<x.length+y.length:=by omega
 have hval:valL (out.set (i+k) (n%LB))+LB^(i+(k+1))*(n/LB)=valL (x.take i)*valL y+LB^i*(x.getD i 0*valL (y.take (k+1))):=by
  rw[set_val (by omega),take_val,<- Nat.add_assoc,Int.pow_succ];have a1:LB^(i+k)*(n%LB-out.getD (i+k) 0)+LB^(i+k)*LB*(n/LB)=LB^(i+k)*(n-out.getD (i+k) 0):=by
   rw[Int.mul_assoc,<- Int.mul_add];congr 1;omega
  have a2:n-out.getD (i+k) 0=c+x.getD i 0*y.getD k 0:=by omega
  have a3:LB^(i+k)=LB^i*LB^k:=Int.pow_add ..;have a4:LB^i*(x.getD i 0*(valL (y.take k)+LB^k*y.getD k 0))=LB^i*(x.getD i 0*valL (y.take k))+LB^(i+k)*(x.getD i 0*y.getD k 0):=by
   rw[Int.mul_add,Int.mul_add,a3];congr 1;rw[Int.mul_assoc,Int.mul_left_comm (x.getD i 0)]
  rw[a2,Int.mul_add] at a1;omega
 refine⟨hin,?_,by simp[h2],set_lim h3 d3 d4,⟨d5,hq⟩,hval,fun j hj=> ?_⟩
 ·by_cases hlt:k<y.length
  ·exact .inl (by omega)
  ·refine .inr ⟨by omega,?_⟩;have g1:y.getD k 0=0:=getD_none (by omega);have g2:out.getD (i+k) 0=0:=h7 _ (by omega);rw[g1,g2] at hn;(have hnc:n=c:=by rw[hn];omega);rw[hnc];exact Int.ediv_eq_zero_of_lt h4.1 (hcar (by omega))
 ·rw[getD_set_ne (by omega)];exact h7 j (by omega)
theorem row_end{x y out:List Int}{i k:Nat}{c:Int}(hi:i<x.length)(h:RowPhi x y i k c out)(hb: ¬ (k<y.length∨0<c)):TimesPhi x y (i+1) out:=by
 obtain⟨h1,h2,h3,h4,h6,h7⟩:=h;have hc:c=0:=by omega
 rw[hc,Int.mul_zero,Int.add_zero,List.take_of_length_le (l:=y) (by omega)] at h6;refine⟨by omega,h2,h3,?_,fun j hj=>h7 j (by omega)⟩;rw[h6,take_val,Int.add_mul,Int.mul_assoc]
theorem times_fin{x y out:List Int}{i:Nat}(h:TimesPhi x y i out)(hi: ¬i<x.length):valL out=valL x*valL y:=by
 have:i=x.length:=by have:=h.h1;omega
 rw[h.h4,this,List.take_length]
end Go.Cm.D
end
section
namespace Go.Cm
open Go.Proofs
def RF(s:List UInt8):Prop:=chk s≠5
theorem iW{s:List UInt8}(h:RF s):dL (aw s [45])/\0<(aw s [45]).length/\(s≠ [48]->(aw s [45]).getD 0 0≠48):=by
 unfold RF chk at h;by_cases h0:s= [48]
 ·subst h0;refine⟨?_,by decide,fun h=>absurd rfl h⟩;intro c hc;have:aw [48] [45]= [48]:=by decide
  rw[this] at hc;simp at hc;subst hc;decide
 ·rw[if_neg h0] at h;by_cases h1:(aw s [45]).length=0∨(aw s [45]).getD 0 0=48;·rw[if_pos h1] at h;exact absurd rfl h
  ·(rw[if_neg h1] at h;by_cases h2:(aw s [45]).all fY=false;·rw[if_pos h2] at h;exact absurd rfl h);·simp only[not_or] at h1;refine⟨fun c hc=> ?_,by omega,fun _=>h1.2⟩;(have h3:(aw s [45]).all fY=true:=by simpa using h2);have:=List.all_eq_true.1 h3 c hc;simpa [fY] using this
theorem kr{s:List UInt8}(h:RF s):Lib.itoa (al s)=s:=by
 obtain⟨c1,c2,c4⟩:=iW h;have hne:aw s [45]≠ []:=by intro e;rw[e] at c2;simp at c2
 by_cases h48:s= [48]
 ·subst h48;have e:al [48]=0:=by decide
  rw[e];simp[Lib.itoa,Lib.decDigits]
 ·have h0:=c4 h48;have hd:=kW c1 hne (.inl h0);have hpos:0<numOf (aw s [45]):=by
   by_cases hz:numOf (aw s [45])=0
   ·exfalso;rw[hz] at hd;(have h5:Lib.decDigits 0= [48]:=by rw[Lib.decDigits];rfl);rw[h5] at hd;rw[<- hd] at h0;exact h0 rfl
   ·omega
  unfold al Lib.itoa;by_cases hp:du s [45]=true
  ·rw[if_pos hp,if_pos (by omega),show (-(numOf (aw s [45]):Int)).natAbs=numOf (aw s [45]) by omega,hd];unfold aw;rw[if_pos hp];unfold du at hp;simp only[Bool.and_eq_true,decide_eq_true_eq,beq_iff_eq] at hp;match s,hp.2 with
   |c::l,e=>simp at e;rw[e];rfl
   | [],e=>simp at e
  ·rw[if_neg hp,if_neg (by omega),Int.toNat_natCast,hd];unfold aw;rw[if_neg hp]
theorem aJ(v:Int):RF (Lib.itoa v)/\al (Lib.itoa v)=v:=by
 have h:=vq v;refine⟨?_,h.2⟩;unfold RF;rw[h.1];split<;>decide
theorem rA{s:List UInt8}(h:RF s):s≠ []:=by rintro rfl;exact h (by decide)
theorem iy{s:List UInt8}(h:s≠ []):((s.getD 0 0).toNat:Int)=45↔du s [45]=true:=by
 match s,h with
 |c::l,_=>
  show ((c.toNat:Nat):Int)=45↔_;unfold du;constructor
  ·intro h;have:c=45:=by
    apply UInt8.toNat_inj.1;show c.toNat=45;omega
   subst this;simp
  ·intro h;simp at h;subst h;rfl
theorem M3{s:List UInt8}(h:RF s):du s [45]=true↔al s<0:=by
 obtain⟨c1,c2,c4⟩:=iW h;by_cases h48:s= [48];·subst h48;decide
 have h0:=c4 h48;have hne:aw s [45]≠ []:=by intro e;rw[e] at c2;simp at c2
 have hd:=kW c1 hne (.inl h0);have hpos:0<numOf (aw s [45]):=by
  by_cases hz:numOf (aw s [45])=0
  ·exfalso;rw[hz] at hd;(have h5:Lib.decDigits 0= [48]:=by rw[Lib.decDigits];rfl);rw[h5] at hd;rw[<- hd] at h0;exact h0 rfl
  ·omega
 unfold al;constructor;·intro hp;rw[if_pos hp];omega
 ·intro hl;by_cases hp:du s [45]=true;·exact hp
  ·rw[if_neg hp] at hl;omega
theorem jf(s:List UInt8):(al s).natAbs=numOf (aw s [45]):=by unfold al;split<;>omega
namespace D
def ReadPhi(D:List UInt8)(r:Nat)(out:List Int):Prop:=
 out.length=r/\Lim out/\valL out=(numOf (D.drop (D.length-4*r)):Int)/\4*r<D.length+4
theorem read_start{D:List UInt8}:ReadPhi D 0 []:=by
 refine⟨rfl,fun x hx=>by simp at hx,?_,by omega⟩;simp[valL,numOf]
theorem pow4(r:Nat):(LB^r:Int)=((10^(4*r):Nat):Int):=by
 rw[Nat.pow_mul];show (10000:Int)^r=((10000^r:Nat):Int);rw[Int.natCast_pow];rfl
def part(D:List UInt8)(lo i:Nat):Int:=(numOf ((D.take i).drop lo):Int)
theorem Fi(D:List UInt8)(lo:Nat):part D lo lo=0:=by
 unfold part;rw[List.drop_of_length_le (by rw[List.length_take];omega)];rfl
theorem G7{D:List UInt8}(hd:dL D)(lo i:Nat)(h:i<=lo+4):0<=part D lo i/\part D lo i<LB:=by
 have hdc:dL ((D.take i).drop lo):=fun x hx=>hd x (List.mem_of_mem_take (List.mem_of_mem_drop hx));have h1:=ix hdc;have h2:10^((D.take i).drop lo).length<=10^4:=Nat.pow_le_pow_right (by omega) (by rw[List.length_drop,List.length_take];omega);unfold part;rw[hB];omega
theorem part_next{D:List UInt8}(hd:dL D){lo i:Nat}(hlo:lo<=i)(hi:i<D.length)(h4:i<lo+4):
  IntKind.i64.wrap (IntKind.i64.wrap (10*part D lo i)+IntKind.i64.wrap (IntKind.u8.wrap (((D.getD i 0).toNat:Int)-48)))=part D lo (i+1):=by
 have hc:=hd (D.getD i 0) (by rw[List.getD_eq_getElem?_getD,List.getElem?_eq_getElem hi];exact List.getElem_mem hi);have hb:=G7 hd lo i (by omega);have e:=hB;have e1:IntKind.u8.wrap (((D.getD i 0).toNat:Int)-48)=((D.getD i 0).toNat:Int)-48:=IntWalk.u8_in _ (by omega);rw[e1,wi (x:=10*part D lo i) (by omega) (by omega),wi (x:=((D.getD i 0).toNat:Int)-48) (by omega) (by omega),wo];unfold part at hb ⊢;have h2:(D.take (i+1)).drop lo=(D.take i).drop lo++ [D.getD i 0]:=by
  rw[List.take_add_one,List.drop_append,List.length_take,Nat.min_eq_left (by omega),show lo-i=0 by omega,List.drop_zero,List.getElem?_eq_getElem hi];simp[List.getD_eq_getElem?_getD,List.getElem?_eq_getElem hi]
 rw[h2,gE];have h3:numOf [D.getD i 0]=(D.getD i 0).toNat-48:=by simp[numOf]
 have h6: [D.getD i 0].length=1:=rfl;rw[h3,h6,Nat.pow_one];omega
theorem read_next{D:List UInt8}{r:Nat}{out:List Int}(hd:dL D)(h:ReadPhi D r out)(hr:4*r<D.length):
  ReadPhi D (r+1) (out++ [part D (D.length-4*(r+1)) (D.length-4*r)]):=by
 obtain⟨h1,h2,h3,h4⟩:=h;have hb:=G7 hd (D.length-4*(r+1)) (D.length-4*r) (by omega);refine⟨by simp[h1],h2.append (Lim.one hb.1 hb.2),?_,by omega⟩;rw[valL_append,valL_one,h1,h3,pow4];unfold part;have e:D.drop (D.length-4*(r+1))=(D.take (D.length-4*r)).drop (D.length-4*(r+1))++D.drop (D.length-4*r):=by
  have e0:D.drop (D.length-4*(r+1))=(D.take (D.length-4*r)++D.drop (D.length-4*r)).drop (D.length-4*(r+1)):=by rw[List.take_append_drop]
  rw[e0,List.drop_append,List.length_take,Nat.min_eq_left (by omega),show D.length-4*(r+1)-(D.length-4*r)=0 by omega,List.drop_zero]
 rw[e,gE,List.length_drop,show D.length-(D.length-4*r)=4*r by omega];rw[Int.natCast_add,Int.natCast_mul,Int.add_comm,Int.mul_comm]
theorem read_end{s:List UInt8}{r:Nat}{out:List Int}(h:ReadPhi (aw s [45]) r out)(hr: ¬4*r<(aw s [45]).length):(valL out).toNat=(al s).natAbs/\Lim out:=by
 obtain⟨h1,h2,h3,h4⟩:=h;rw[show (aw s [45]).length-4*r=0 by omega,List.drop_zero] at h3;rw[h3,jf];exact⟨by simp,h2⟩
def dd(a:Nat):List UInt8:=if a=0 then [] else Lib.decDigits a
theorem QB(a c:Nat)(hc:c<10):dd (10*a+c)=if a=0/\c=0 then [] else dd a++ [UInt8.ofNat (48+c)]:=by
 unfold dd;by_cases ha:a=0
 ·subst ha;by_cases h0:c=0;·subst h0;simp
  ·rw[if_neg (by omega),if_neg (by omega),if_pos rfl,Lib.decDigits,dif_pos (by omega)];simp
 ·rw[if_neg (by omega),if_neg (by omega),if_neg ha,Lib.decDigits,dif_neg (by omega),show (10*a+c)/10=a by omega,show (10*a+c)%10=c by omega]
def wr(d:List Int)(i j:Nat):Nat:=(valL (d.drop (i+1))).toNat*10^j+(d.getD i 0).toNat/10^(4-j)
def unit(j:Nat):Int:=if j<4 then ((10^(3-j):Nat):Int) else 0
theorem unit_next{j:Nat}(h:j<4):IntKind.i64.wrap ((unit j).tdiv 10)=unit (j+1)/\0<unit j:=by
 have:j=0∨j=1∨j=2∨j=3:=by omega
 rcases this with rfl|rfl|rfl|rfl<;>decide
def decimal(x:Int)(j:Nat):Nat:=x.toNat/10^(3-j)%10
theorem decimal_code{x:Int}{j:Nat}(hx:0<=x/\x<LB)(h:j<4):IntKind.u8.wrap (IntKind.i64.wrap (48+(IntKind.i64.wrap (x.tdiv (unit j))).tmod 10))=((48+decimal x j:Nat):Int):=by
 have e:=hB;have hu:=(unit_next h).2;have h1:x.tdiv (unit j)=((x.toNat/10^(3-j):Nat):Int):=by
  unfold unit;rw[if_pos h,Int.tdiv_eq_ediv_of_nonneg hx.1];conv=>lhs;rw[<- Int.toNat_of_nonneg hx.1]
  rfl
 have h2:x.toNat/10^(3-j)<=x.toNat:=Nat.div_le_self _ _;have h3:((x.toNat/10^(3-j):Nat):Int).tmod 10=((decimal x j:Nat):Int):=by
  unfold decimal;rw[Int.tmod_eq_emod_of_nonneg (Int.natCast_nonneg _)];rfl
 obtain⟨q,hq⟩:∃ q,q=x.toNat/10^(3-j):=⟨_,rfl⟩;rw[<- hq] at h1 h2 h3;rw[h1,wi (x:=(q:Int)) (by omega) (by omega)];have h4:decimal x j<10:=Nat.mod_lt _ (by decide);rw[h3,wo];have:IntKind.u8.wrap (48+((decimal x j:Nat):Int))=48+((decimal x j:Nat):Int):=IntWalk.u8_in _ (by omega);rw[this];omega
theorem ze{d:List Int}(hd:Lim d)(i:Nat){j:Nat}(h:j<4):wr d i (j+1)=10*wr d i j+decimal (d.getD i 0) j:=by
 have hx:=hd.getD i;have e:=hB;unfold wr decimal;generalize (valL (d.drop (i+1))).toNat=v;generalize hX:(d.getD i 0).toNat=X;have:j=0∨j=1∨j=2∨j=3:=by omega
 rcases this with rfl|rfl|rfl|rfl<;>simp<;>omega
theorem M4{d:List Int}(hd:Lim d)(i:Nat):wr d i 0=(valL (d.drop (i+1))).toNat:=by
 have hx:=hd.getD i;have e:=hB;unfold wr;have:(d.getD i 0).toNat/10^4=0:=Nat.div_eq_of_lt (by omega);simp at this ⊢;exact this
theorem G8{d:List Int}(hd:Lim d){i:Nat}(hi:i<d.length):wr d i 4=(valL (d.drop i)).toNat:=by
 have hx:=hd.getD i;have hv:=valL_nonneg (l:=d.drop (i+1)) (fun x hx=>hd x (List.mem_of_mem_drop hx));have e:=hB;have e2:d.drop i=d.getD i 0::d.drop (i+1):=by
  rw[List.drop_eq_getElem_cons hi,List.getD_eq_getElem?_getD,List.getElem?_eq_getElem hi];rfl
 rw[e2];unfold wr;simp only[valL];rw[e];generalize valL (d.drop (i+1))=v at hv;have e5:(d.getD i 0).toNat/10^(4-4)=(d.getD i 0).toNat:=Nat.div_one _;have e6:(10:Nat)^4=10000:=rfl;rw[e5,e6];omega
structure WritePhi (d:List Int) (i j:Nat) (out:List Int):Prop where
 hj:j<=4
 ho:out=(dd (wr d i j)).map fun b=>(b.toNat:Int)
theorem write_start{d:List Int}(hd:Lim d){i:Nat}{out:List Int}(h:out=(dd (valL (d.drop (i+1))).toNat).map fun b=>(b.toNat:Int)):WritePhi d i 0 out:=
 ⟨by omega,by rw[M4 hd];exact h⟩
theorem M5{a:Nat}:dd a= []↔a=0:=by
 unfold dd;constructor
 ·intro h;by_cases h0:a=0;·exact h0
  ·rw[if_neg h0] at h;exact absurd h (kV a).2.2.1
 ·intro h;rw[if_pos h]
theorem write_take{d:List Int}(hd:Lim d){i j:Nat}{out:List Int}(h:WritePhi d i j out)(hj:j<4)(hb:0<out.length∨((48+decimal (d.getD i 0) j:Nat):Int)≠48):
  WritePhi d i (j+1) (out++ [((48+decimal (d.getD i 0) j:Nat):Int)]):=by
 have hc:decimal (d.getD i 0) j<10:=Nat.mod_lt _ (by decide);refine⟨hj,?_⟩;rw[ze hd i hj,QB _ _ hc,h.ho,if_neg];·rw[List.map_append];congr 1;simp only[List.map_cons,List.map_nil,List.cons.injEq,and_true];rw[vn hc]
 ·rintro⟨h1,h2⟩;rcases hb with hb|hb;·rw[h.ho,h1] at hb;simp[dd] at hb
  ·rw[h2] at hb;exact hb rfl
theorem write_leave{d:List Int}(hd:Lim d){i j:Nat}{out:List Int}(h:WritePhi d i j out)(hj:j<4)(hb: ¬ (0<out.length∨((48+decimal (d.getD i 0) j:Nat):Int)≠48)):
  WritePhi d i (j+1) out:=by
 have hc:decimal (d.getD i 0) j<10:=Nat.mod_lt _ (by decide);simp only[not_or] at hb;have h0:out= []:=List.eq_nil_of_length_eq_zero (by omega);have h1:wr d i j=0:=by
  have:=h.ho;rw[h0] at this;exact M5.1 (List.map_eq_nil_iff.1 this.symm)
 have h2:decimal (d.getD i 0) j=0:=by omega
 refine⟨hj,?_⟩;rw[ze hd i hj,h1,h2,h0];rfl
theorem write_round{d:List Int}(hd:Lim d){i:Nat}(hi:i<d.length){out:List Int}(h:WritePhi d i 4 out):out=(dd (valL (d.drop i)).toNat).map fun b=>(b.toNat:Int):=by
 rw[<- G8 hd hi];exact h.ho
theorem str_of_map(l:List UInt8):strOf (l.map fun b=>(b.toNat:Int))=l:=by
 unfold strOf;rw[List.map_map];conv=>rhs;rw[<- List.map_id l]
 apply List.map_congr_left;intro b _;show UInt8.ofNat ((b.toNat:Int).toNat)=b;rw[Int.toNat_natCast,UInt8.ofNat_toNat]
theorem write_text{d:List Int}(hd:Cano d)(hne:d≠ []):dd (valL d).toNat=Lib.itoa (valL d):=by
 have hp:=(valL_pos hd).2 hne;unfold dd Lib.itoa;rw[if_neg (by omega),if_neg (by omega)]
theorem write_minus{d:List Int}(hd:Cano d)(hne:d≠ []):45::dd (valL d).toNat=Lib.itoa (-valL d):=by
 have hp:=(valL_pos hd).2 hne;unfold dd Lib.itoa;rw[if_neg (by omega),if_pos (by omega)];congr 2;omega
theorem dd_len{d:List Int}(hd:Lim d):(dd (valL d).toNat).length<=4*d.length:=by
 by_cases h0:(valL d).toNat=0
 ·rw[M5.2 h0];simp
 ·have h1:=valL_lt hd;have h2:=valL_nonneg hd;rw[pow4] at h1;have:=G5 (n:=valL d) (k:=4*d.length) (by
   cases d with
   |nil=>simp[valL] at h0
   |cons x l=>simp) (by omega)
  rw[eD] at this;unfold dd;rw[if_neg h0];have e:(valL d).natAbs=(valL d).toNat:=by omega
  rw[e] at this;omega
end D
end Go.Cm
end
section
namespace Go.Cm
open Go.Proofs
theorem l5{s:List UInt8}(h:RF s):(0:Int)<(s.length:Int):=by
 have:=rA h;have:=List.length_pos_iff.2 this;omega
theorem Fj{s:List UInt8}(h:RF s):(((s.getD (Int.toNat 0) 0).toNat:Int)==45)=decide (al s<0):=by
 have h1:=iy (rA h);have h2:=M3 h;have e:Int.toNat 0=0:=rfl;rw[e,Bool.eq_iff_iff,beq_iff_eq,decide_eq_true_eq];exact h1.trans h2
theorem vu{s:List UInt8}(h:RF s)(h0:((s.getD (Int.toNat 0) 0).toNat:Int)=45):List.drop (Int.toNat 1) (List.take ((s.length:Int)).toNat s)=aw s [45]/\(aw s [45]).length+1=s.length:=by
 have h1:=(iy (rA h)).1 h0;have hl:=l5 h;unfold aw;rw[if_pos h1,Int.toNat_natCast,List.take_length];exact⟨rfl,by rw[List.length_drop];show s.length-1+1=_;omega⟩
theorem vv{s:List UInt8}(h:RF s)(h0:((s.getD (Int.toNat 0) 0).toNat:Int)≠45):s=aw s [45]:=by
 unfold aw;rw[if_neg (fun h1=>h0 ((iy (rA h)).2 h1))]
theorem pP{s:List UInt8}(h:RF s):c7 (al s)=((aw s [45]).length:Int):=by
 obtain⟨c1,c2,c4⟩:=iW h;have hne:aw s [45]≠ []:=by intro e;rw[e] at c2;simp at c2
 rw[eD,jf];by_cases h48:s= [48]
 ·subst h48;have e1:aw [48] [45]= [48]:=by decide
  have e2:numOf [48]=0:=by decide
  rw[e1,e2,Lib.decDigits];rfl
 ·rw[kW c1 hne (.inl (c4 h48))]
namespace D
theorem unit_pos{j:Nat}(h:0<unit j):j<4:=by
 by_cases hj:j<4
 ·exact hj
 ·unfold unit at h;rw[if_neg hj] at h;exact absurd h (by decide)
theorem unit_end{j:Nat}(h: ¬0<unit j): ¬j<4:=fun hj=>h (unit_next hj).2
theorem write_phi0(d:List Int):d.length<=d.length/\([]:List Int)=(dd (valL (d.drop d.length)).toNat).map fun b=>(b.toNat:Int):=by
 refine⟨Nat.le_refl _,?_⟩;rw[List.drop_length];rfl
theorem write_nil{d:List Int}{neg:Bool}(h:(d.length:Int)=0): [48]=Lib.itoa (if neg=true then-valL d else valL d):=by
 have:d= []:=List.eq_nil_of_length_eq_zero (by omega);subst this;have e:Lib.itoa 0= [48]:=by rw[Lib.itoa,if_neg (by decide)];show Lib.decDigits 0=_;rw[Lib.decDigits];rfl
 cases neg<;>simp[valL,e]
theorem cond_t{out:List Int}{x:Int}(h:(decide ((0:Int)<(out.length:Int))||x !=48)=true):0<out.length∨x≠48:=by
 simp only[Bool.or_eq_true,decide_eq_true_eq,bne_iff_ne] at h;rcases h with h|h;·exact .inl (by omega)
 ·exact .inr h
theorem cond_f{out:List Int}{x:Int}(h:(decide ((0:Int)<(out.length:Int))||x !=48)=false): ¬ (0<out.length∨x≠48):=by
 simp only[Bool.or_eq_false_iff,decide_eq_false_iff_not,bne_eq_false_iff_eq] at h;rintro(h1|h1);·omega
 ·exact h1 h.2
theorem G9{d:List Int}(hd:Lim d)(i:Nat):∀ n j,j+n=4->wr d i j<=wr d i 4
 |0,j,h=>by rw[show j=4 by omega];exact Nat.le_refl _
 |n+1,j,h=>by
  have h1:=G9 hd i n (j+1) (by omega);have h2:=ze hd i (j:=j) (by omega);omega
theorem dd_lt{a k:Nat}(h:a<10^k):(dd a).length<=k:=by
 unfold dd;by_cases h0:a=0;·rw[if_pos h0];simp
 ·rw[if_neg h0];have hk:0<k:=by
   (rcases Nat.eq_zero_or_pos k with e|e;·rw[e] at h;simp at h;omega);·exact e
  have:=G5 (n:=(a:Int)) (k:=k) hk (by simpa using h);rw[eD,Int.natAbs_natCast] at this;omega
theorem write_len{d:List Int}(hd:Lim d){i j:Nat}{out:List Int}(h:WritePhi d i j out)(hi:i<d.length):out.length<=4*d.length:=by
 have h1:=G9 hd i (4-j) j (by have:=h.hj;omega);rw[G8 hd hi] at h1;have hl:Lim (d.drop i):=fun x hx=>hd x (List.mem_of_mem_drop hx);have h2:=valL_lt hl;have h3:=valL_nonneg hl;rw[pow4] at h2;have h4:wr d i j<10^(4*(d.drop i).length):=by omega
 have h5:=dd_lt h4;rw[h.ho,List.length_map];rw[List.length_drop] at h5;omega
theorem read_le0{D:List UInt8}{r:Nat}(hr:4*r<D.length)(hl:D.length<1000000000000):0=part D (D.length-4*(r+1)) (D.length-4*(r+1))/\max 0 (IntKind.i64.wrap ((D.length:Int)-4*(r:Int)-4))=((D.length-4*(r+1):Nat):Int):=by
 refine⟨(Fi _ _).symm,?_⟩;rw[wo];omega
theorem valL_limbs{s:List UInt8}{r:Nat}{out:List Int}(h:ReadPhi (aw s [45]) r out)(hr: ¬4*r<(aw s [45]).length):limbs (valL out).toNat=limbs (al s).natAbs:=by
 rw[(read_end h hr).1]
end D
end Go.Cm
end
section
namespace Go.Cm
open Go.Proofs
theorem xA{s:List UInt8}(h:(0:Int)<(s.length:Int)/\((s.getD (Int.toNat 0) 0).toNat:Int)=45):List.drop (Int.toNat 1) (List.take ((s.length:Int)).toNat s)=aw s [45]:=by
 have hne:s≠ []:=by rintro rfl;simp at h
 have h1:=(iy hne).1 h.2;unfold aw;rw[if_pos h1,Int.toNat_natCast,List.take_length];rfl
theorem xB{s:List UInt8}(h:(0:Int)<(s.length:Int)->((s.getD (Int.toNat 0) 0).toNat:Int)≠45):s=aw s [45]:=by
 unfold aw;by_cases hne:s= [];·subst hne;rfl
 ·rw[if_neg (fun h1=>h (by have:=List.length_pos_iff.2 hne;omega) ((iy hne).2 h1))]
theorem M6{s:List UInt8}(h:s= [48]):true=decide (chk s≠5):=by subst h;decide
theorem Bx{D:List UInt8}:(((D.length:Int)==0)||(((D.getD (Int.toNat 0) 0).toNat:Int)==48))=true↔(D= []∨D.getD 0 0=48):=by
 simp only[Bool.or_eq_true,beq_iff_eq];have e:Int.toNat 0=0:=rfl;rw[e];constructor
 ·rintro(h|h);·exact .inl (List.eq_nil_of_length_eq_zero (by omega))
  ·right;apply UInt8.toNat_inj.1;show (D.getD 0 0).toNat=48;omega
 ·rintro(h|h);·left;subst h;rfl
  ·right;rw[h];rfl
theorem Bz{s:List UInt8}(h0:s≠ [48])(h:((((aw s [45]).length:Int)==0)||((((aw s [45]).getD (Int.toNat 0) 0).toNat:Int)==48))=true):false=decide (chk s≠5):=by
 rw[jd h0 (Bx.1 h)];decide
theorem JP{s:List UInt8}(h:((((aw s [45]).length:Int)==0)||((((aw s [45]).getD (Int.toNat 0) 0).toNat:Int)==48))=false): ¬ (aw s [45]= []∨(aw s [45]).getD 0 0=48):=by
 intro h1;rw[Bx.2 h1] at h;cases h
theorem QE(D:List UInt8):((!((D.length:Int)==0))=true->(!((D.length:Int)==0))=true/\(0:Int)<=0/\(0:Int)<(D.length:Int))/\((!((D.length:Int)==0))=true->(!((D.length:Int)==0))=true)/\(((D.length:Int)==0)=false->(!((D.length:Int)==0))=true):=by
 refine⟨fun h=>⟨h,by omega,?_⟩,fun h=>h,fun h=>by rw[h];rfl⟩;simp only[Bool.not_eq_true',beq_eq_false_iff_ne,ne_eq] at h;omega
theorem BA{x:Int}:(decide (x<48)||decide (57<x))=true↔(x<48∨57<x):=by simp
theorem JQ{s:List UInt8}{k:Nat}(h0:s≠ [48])(h1: ¬ (aw s [45]= []∨(aw s [45]).getD 0 0=48))(hk:(k:Int)<((aw s [45]).length:Int))
  (h:(decide ((((aw s [45]).getD ((k:Int)).toNat 0).toNat:Int)<48)||decide ((57:Int)<(((aw s [45]).getD ((k:Int)).toNat 0).toNat:Int)))=true):false=decide (chk s≠5):=by
 rw[Int.toNat_natCast,BA] at h;rw[mN h0 h1 (k:=k) (by omega) (by omega)];decide
theorem Fk{D:List UInt8}{k:Nat}(hk:(k:Int)<(D.length:Int))(h:(decide (((D.getD ((k:Int)).toNat 0).toNat:Int)<48)||decide ((57:Int)<((D.getD ((k:Int)).toNat 0).toNat:Int)))=false)(g:(D.take k).all fY=true):(D.take (k+1)).all fY=true:=by
 rw[Int.toNat_natCast] at h;have h2: ¬ (((D.getD k 0).toNat:Int)<48∨(57:Int)<((D.getD k 0).toNat:Int)):=by
  intro h3;rw[BA.2 h3] at h;cases h
 exact nC g (Bn (fun h3=>h2 (.inl h3)) (fun h3=>h2 (.inr h3)))
theorem JR{s:List UInt8}{k:Nat}(h0:s≠ [48])(h1: ¬ (aw s [45]= []∨(aw s [45]).getD 0 0=48))(hk: ¬ (k:Int)<((aw s [45]).length:Int))(g:((aw s [45]).take k).all fY=true):true=decide (chk s≠5):=by
 rw[List.take_of_length_le (by omega)] at g;rw[jq h0 h1 g];split<;>decide
theorem M7{s:List UInt8}(h:RF s):chk s=if 2000<c7 (al s) then 6 else 0:=by
 have h1:=vq (al s);rw[kr h] at h1;exact h1.1
theorem kt{s:List UInt8}(h:RF s):(D.limbs (al s).natAbs).length<=s.length:=by
 have h1:=ix (iW h).1;rw[<- jf] at h1;have hl:=fA s [45];refine D.limbs_len ?_;rw[D.pow4];have h2:10^(aw s [45]).length<=10^(4*s.length):=Nat.pow_le_pow_right (by omega) (by omega);omega
theorem Ha{s:List UInt8}(h:RF s):al s=0↔s= [48]:=by
 constructor;·intro h0;have h1:=kr h;rw[h0] at h1;rw[<- h1,Lib.itoa,if_neg (by decide)];show Lib.decDigits 0=_;rw[Lib.decDigits];rfl
 ·rintro rfl;decide
theorem QF(v:Int):Lib.itoa (if (!decide (v<0))=true then-D.valL (D.limbs v.natAbs) else D.valL (D.limbs v.natAbs))=Lib.itoa (-v):=by
 rw[D.limbs_val];congr 1;by_cases h:v<0;·simp[h];omega
 ·simp[h];omega
theorem fB{x:Int}(h:x<0):bg x 0= -1:=by unfold bg;rw[if_pos h]
theorem e8{x:Int}(h:0<x):bg x 0=1:=by unfold bg;rw[if_neg (by omega),if_pos h]
theorem Fl{x y:Int}(h:x<y):bg x y= -1:=by unfold bg;rw[if_pos h]
theorem M8{x y:Int}(h:y<x):bg x y=1:=by unfold bg;rw[if_neg (by omega),if_pos h]
theorem iz:bg 0 0=0:=rfl
theorem BB{x y:Int}(h:bg x 0≠bg y 0):(bg x 0<bg y 0-> -1=bg x y)/\(¬bg x 0<bg y 0->1=bg x y):=by
 rcases Int.lt_trichotomy x 0 with hx|hx|hx<;>rcases Int.lt_trichotomy y 0 with hy|hy|hy
 ·rw[fB hx,fB hy] at h;exact absurd rfl h
 ·subst hy;rw[fB hx,iz];exact⟨fun _=>rfl,fun h=>absurd (by decide) h⟩
 ·rw[fB hx,e8 hy];exact⟨fun _=>(Fl (by omega)).symm,fun h=>absurd (by decide) h⟩
 ·subst hx;rw[fB hy,iz];exact⟨fun h=>absurd h (by decide),fun _=>(M8 hy).symm⟩
 ·subst hx hy;exact absurd rfl h
 ·subst hx;rw[e8 hy,iz];exact⟨fun _=>(Fl hy).symm,fun h=>absurd (by decide) h⟩
 ·rw[e8 hx,fB hy];exact⟨fun h=>absurd h (by decide),fun _=>(M8 (by omega)).symm⟩
 ·subst hy;rw[e8 hx,iz];exact⟨fun h=>absurd h (by decide),fun _=>rfl⟩
 ·rw[e8 hx,e8 hy] at h;exact absurd rfl h
theorem Hb{x y:Int}(h:bg x 0=bg y 0):(x<0->bg (D.valL (D.limbs y.natAbs)) (D.valL (D.limbs x.natAbs))=bg x y)/\(¬x<0->bg (D.valL (D.limbs x.natAbs)) (D.valL (D.limbs y.natAbs))=bg x y):=by
 rw[D.limbs_val,D.limbs_val];have hs:(x<0↔y<0)/\(x=0↔y=0):=by
  rcases Int.lt_trichotomy x 0 with hx|hx|hx<;>rcases Int.lt_trichotomy y 0 with hy|hy|hy
  ·omega
  ·subst hy;rw[fB hx,iz] at h;cases h
  ·rw[fB hx,e8 hy] at h;cases h
  ·subst hx;rw[fB hy,iz] at h;cases h
  ·omega
  ·subst hx;rw[e8 hy,iz] at h;cases h
  ·rw[e8 hx,fB hy] at h;cases h
  ·subst hy;rw[e8 hx,iz] at h;cases h
  ·omega
 constructor
 ·intro h1;unfold bg;by_cases h2:x<y;·rw[if_pos (by omega),if_pos h2]
  ·by_cases h3:y<x
   ·rw[if_neg (by omega),if_pos (by omega),if_neg h2,if_pos h3]
   ·rw[if_neg (by omega),if_neg (by omega),if_neg h2,if_neg h3]
 ·intro h1;unfold bg;by_cases h2:x<y;·rw[if_pos (by omega),if_pos h2]
  ·by_cases h3:y<x
   ·rw[if_neg (by omega),if_pos (by omega),if_neg h2,if_pos h3]
   ·rw[if_neg (by omega),if_neg (by omega),if_neg h2,if_neg h3]
theorem BC{s:List UInt8}(h:RF s)(hl:s.length<=9):chk s=0:=by
 have h1:=M7 h;rw[pP h] at h1;have:=fA s [45];rw[if_neg (by omega)] at h1;exact h1
theorem vw{s:List UInt8}(h:RF s):(s= [48]->0=bg (al s) 0)/\(s≠ [48]->al s<0-> -1=bg (al s) 0)/\(s≠ [48]-> ¬al s<0->1=bg (al s) 0):=by
 refine⟨fun h0=> ?_,fun h0 h1=> ?_,fun h0 h1=> ?_⟩;·rw[(Ha h).2 h0];rfl
 ·unfold bg;rw[if_pos h1]
 ·have hne:al s≠0:=fun e=>h0 ((Ha h).1 e);exact(e8 (by omega)).symm
theorem jg{s:List UInt8}(h:RF s)(hl:s.length<=9): -1000000000<al s/\al s<1000000000:=by
 have h1:=ix (iW h).1;rw[<- jf] at h1;have hl:=fA s [45];have h2:10^(aw s [45]).length<=10^9:=Nat.pow_le_pow_right (by omega) (by omega);omega
end Go.Cm
end
section
namespace Go.Cm.D
open Go.Cm
theorem BD{l:List Int}(h:Lim l)(k:Nat):Lim (l.drop k):=fun x hx=>h x (List.mem_of_mem_drop hx)
theorem BE{l:List Int}(h:Cano l)(k:Nat):Cano (l.drop k):=by
 refine⟨BD h.1 k,?_⟩;by_cases hk:k<l.length
 ·have hne:l.drop k≠ []:=by
   intro e;have:=congrArg List.length e;rw[List.length_drop] at this;simp at this;omega
  have:=getLastD_append (a:=l.take k) (d:=1) hne;rw[List.take_append_drop] at this;rw[<- this];exact h.2
 ·rw[List.drop_of_length_le (by omega)];simp
theorem M9{l:List Int}{k:Nat}(h:k<l.length):valL (l.drop k)=l.getD k 0+LB*valL (l.drop (k+1)):=by
 rw[List.drop_eq_getElem_cons h,List.getD_eq_getElem?_getD,List.getElem?_eq_getElem h];rfl
theorem pQ{l:List Int}(k:Nat):valL (l.drop k)=l.getD k 0+LB*valL (l.drop (k+1)):=by
 by_cases h:k<l.length
 ·exact M9 h
 ·rw[List.drop_of_length_le (by omega),List.drop_of_length_le (by omega),getD_none (by omega)];simp[valL]
structure DivPhi (a b:List Int) (k:Nat) (q rest:List Int):Prop where
 hk:k<=q.length
 hq:q.length+b.length=a.length+1
 hl:Lim q
 hr:rest=limbs (valL (a.drop k)%valL b).toNat
 hv:valL (q.drop k)=valL (a.drop k)/valL b
theorem div_start{a b:List Int}{n:Nat}(ha:Cano a)(hb:Cano b)(hne:b≠ [])(hn:b.length=n+1)(hlt:n<a.length):DivPhi a b (a.length-n) (List.replicate (a.length-n) 0) (a.drop (a.length-n)):=by
 have hbge:=valL_ge hb hne;rw[hn,Nat.add_sub_cancel] at hbge;have hac:=BE ha (a.length-n);have hal:=valL_lt hac.1;have ha0:=valL_nonneg hac.1;have hlen:(a.drop (a.length-n)).length=n:=by rw[List.length_drop];omega
 rw[hlen] at hal;refine⟨by simp,by simp;omega,(replicate_zero _).1,?_,?_⟩;·rw[Int.emod_eq_of_lt ha0 (by omega)];exact hac.limbs (by omega)
 ·rw[List.drop_of_length_le (by simp),Int.ediv_eq_zero_of_lt ha0 (by omega)];rfl
theorem mod_bounds{x y:Int}(h:0<y):0<=x%y/\x%y<y:=⟨Int.emod_nonneg _ (by omega),Int.emod_lt_of_pos _ h⟩
def R1(a b:List Int)(i:Nat):Int:=a.getD i 0+LB*(valL (a.drop (i+1))%valL b)
theorem r1_facts{a b:List Int}{i:Nat}(ha:Lim a)(hb:0<valL b):0<=R1 a b i/\R1 a b i<LB*valL b/\R1 a b i%valL b=valL (a.drop i)%valL b/\valL (a.drop i)/valL b=LB*(valL (a.drop (i+1))/valL b)+R1 a b i/valL b:=by
 have hx:=ha.getD i;have hm:=mod_bounds (x:=valL (a.drop (i+1))) hb;have e:=hB;have e1:LB*(valL (a.drop (i+1))%valL b)<=LB*(valL b-1):=Int.mul_le_mul_of_nonneg_left (by omega) (by decide);have e0:0<=LB*(valL (a.drop (i+1))%valL b):=Int.mul_nonneg (by decide) hm.1;rw[Int.mul_sub,Int.mul_one] at e1;have hd:=Int.emod_add_mul_ediv (valL (a.drop (i+1))) (valL b);have hv:valL (a.drop i)=R1 a b i+valL b*(LB*(valL (a.drop (i+1))/valL b)):=by
  rw[pQ,R1];have:LB*valL (a.drop (i+1))=LB*(valL (a.drop (i+1))%valL b)+LB*(valL b*(valL (a.drop (i+1))/valL b)):=by rw[<- Int.mul_add,hd]
  rw[this,Int.mul_left_comm (valL b) LB];omega
 refine⟨by unfold R1;omega,by unfold R1;omega,?_,?_⟩;·rw[hv,Int.add_mul_emod_self_left]
 ·rw[hv,Int.add_mul_ediv_left _ _ (by omega)];omega
theorem cons_limbs{a b rest:List Int}{i:Nat}(ha:Lim a)(hb:0<valL b)(hr:rest=limbs (valL (a.drop (i+1))%valL b).toNat):Lim (a.getD i 0::rest)/\valL (a.getD i 0::rest)=R1 a b i:=by
 have hm:=mod_bounds (x:=valL (a.drop (i+1))) hb;have hc:=limbs_can (valL (a.drop (i+1))%valL b).toNat;refine⟨fun x hx=> ?_,?_⟩
 ·rcases List.mem_cons.1 hx with rfl|hx;·exact ha.getD i
  ·rw[hr] at hx;exact hc.1 x hx
 ·rw[hr];simp only[valL,limbs_val,R1];rw[Int.toNat_of_nonneg hm.1]
theorem vx{l:List Int}(h:Lim l)(m:Nat):LB^m*valL (l.drop m)<=valL l/\valL l<LB^m*(valL (l.drop m)+1):=by
 have e1:valL l=valL (l.take m)+LB^m*valL (l.drop m):=by
  by_cases hm:m<=l.length
  ·conv=>lhs;rw[<- List.take_append_drop m l]
   rw[valL_append,List.length_take,Nat.min_eq_left hm]
  ·rw[List.take_of_length_le (by omega),List.drop_of_length_le (by omega)];simp[valL]
 have h1:Lim (l.take m):=fun x hx=>h x (List.mem_of_mem_take hx);have h2:=valL_nonneg h1;have h3:=valL_lt h1;have h4:=pow_mono (show (l.take m).length<=m by rw[List.length_take];omega);rw[Int.mul_add,Int.mul_one];omega
theorem oQ{l:List Int}(h:Lim l){m d:Nat}(hd:l.length<=m+d):0<=valL (l.drop m)/\valL (l.drop m)<LB^d:=by
 have h1:=BD h m;have h2:=valL_lt h1;have h3:=pow_mono (show (l.drop m).length<=d by rw[List.length_drop];omega);exact⟨valL_nonneg h1,by omega⟩
theorem r1_len{a b:List Int}{n i:Nat}(ha:Lim a)(hb:Cano b)(hne:b≠ [])(hn:b.length=n+1):(limbs (R1 a b i).toNat).length<=n+2:=by
 have hp:=(valL_pos hb).2 hne;obtain⟨f1,f2,-,-⟩:=r1_facts (i:=i) ha hp;have h1:=valL_lt hb.1;refine limbs_len ?_;rw[Int.toNat_of_nonneg f1,Int.pow_succ];rw[hn] at h1;have:LB*valL b<=LB*LB^(n+1):=Int.mul_le_mul_of_nonneg_left (by omega) (by decide);rw[Int.mul_comm (LB^(n+1)) LB];omega
structure TopPhi (r b:List Int) (n j:Nat) (top first:Int):Prop where
 hj:max 0 (n-1)<=j/\j<=n+2
 ht:top=valL (b.drop j)
 hf:first=valL (r.drop j)
theorem top_start{r b:List Int}{n:Nat}(hr:r.length<=n+2)(hb:b.length=n+1):TopPhi r b n (n+2) 0 0:=
 ⟨by omega,by rw[List.drop_of_length_le (by omega)];rfl,by rw[List.drop_of_length_le (by omega)];rfl⟩
theorem top_vals{r b:List Int}{n j:Nat}{top first:Int}(hr:Lim r)(hrl:r.length<=n+2)(hb:Lim b)(hbl:b.length=n+1)(h:TopPhi r b n (j+1) top first)(hj:n-1<=j):
  IntKind.i64.wrap (first*10000)=first*10000/\IntKind.i64.wrap (first*10000+r.getD j 0)=first*10000+r.getD j 0/\IntKind.i64.wrap (top*10000)=top*10000/\IntKind.i64.wrap (top*10000+b.getD j 0)=top*10000+b.getD j 0/\
   first*10000+r.getD j 0=valL (r.drop j)/\(j<=n->top*10000+b.getD j 0=valL (b.drop j))/\(¬j<=n->top=valL (b.drop j)):=by
 obtain⟨h1,h2,h3⟩:=h;have f1:=oQ hr (m:=j+1) (d:=2) (by omega);have f2:=oQ hb (m:=j+1) (d:=2) (by omega);have g1:=hr.getD j;have g2:=hb.getD j;have e:=hB;have e2:LB^2=100000000:=rfl;rw[<- h3] at f1;rw[<- h2] at f2;refine⟨wo,wo,wo,wo,?_,fun _=> ?_,fun hjn=> ?_⟩;·rw[pQ j,<- h3,e];omega
 ·rw[pQ j,<- h2,e];omega
 ·rw[h2,List.drop_of_length_le (by omega),List.drop_of_length_le (by omega)]
structure HalfPhi (q low high:Int):Prop where
 h0:0<=low
 h1:low<=q
 h2:q<=high
 h3:high<=LB
theorem half_start{a b:List Int}{n i:Nat}{top first:Int}(ha:Lim a)(hb:Cano b)(hne:b≠ [])(hn:b.length=n+1)
  (ht:top=valL (b.drop (n-1))) (hf:first=valL ((limbs (R1 a b i).toNat).drop (n-1))):
  0<top/\top<LB*LB/\0<=first/\first<LB*LB*LB/\HalfPhi (R1 a b i/valL b) (first/(top+1)) (first/top):=by
 have hp:=(valL_pos hb).2 hne;obtain⟨f1,f2,-,-⟩:=r1_facts (i:=i) ha hp;have hrc:=limbs_can (R1 a b i).toNat;have hrv:valL (limbs (R1 a b i).toNat)=R1 a b i:=by rw[limbs_val];omega
 have hrl:=r1_len (i:=i) ha hb hne hn;have t1:=vx hb.1 (n-1);have t2:=vx hrc.1 (n-1);rw[<- ht] at t1;rw[<- hf,hrv] at t2;have b1:=oQ hb.1 (m:=n-1) (d:=2) (by omega);have b2:=oQ hrc.1 (m:=n-1) (d:=3) (by omega);rw[<- ht] at b1;rw[<- hf] at b2;have e2:LB^2=LB*LB:=by decide
 have e3:LB^3=LB*LB*LB:=by decide
 rw[e2] at b1;rw[e3] at b2;have hP:0<LB^(n-1):=lbpos _;have hbc:=BE hb (n-1);have hdne:b.drop (n-1)≠ []:=by
  intro e;have:=congrArg List.length e;rw[List.length_drop] at this;simp at this;omega
 have htop:0<top:=by rw[ht];exact(valL_pos hbc).2 hdne
 have hq0:0<=R1 a b i/valL b:=Int.ediv_nonneg f1 (by omega);refine⟨htop,b1.2,b2.1,b2.2,⟨Int.ediv_nonneg b2.1 (by omega),?_,?_,?_⟩⟩
 ·
  rw[Int.le_ediv_iff_mul_le hp];have c1:first/(top+1)*(top+1)<=first:=Int.ediv_mul_le _ (by omega)
  have c0:0<=first/(top+1):=Int.ediv_nonneg b2.1 (by omega)
  have c2:first/(top+1)*valL b<=first/(top+1)*(LB^(n-1)*(top+1)):=Int.mul_le_mul_of_nonneg_left (by omega) c0
  have c3:first/(top+1)*(LB^(n-1)*(top+1))=LB^(n-1)*(first/(top+1)*(top+1)):=by
   rw[Int.mul_left_comm]
  have c4:LB^(n-1)*(first/(top+1)*(top+1))<=LB^(n-1)*first:=Int.mul_le_mul_of_nonneg_left c1 (by omega)
  omega
 ·
  rw[Int.le_ediv_iff_mul_le htop];have c1:R1 a b i/valL b*valL b<=R1 a b i:=Int.ediv_mul_le _ (by omega);have c2:R1 a b i/valL b*(LB^(n-1)*top)<=R1 a b i/valL b*valL b:=Int.mul_le_mul_of_nonneg_left t1.1 hq0;have c3:R1 a b i/valL b*(LB^(n-1)*top)=LB^(n-1)*(R1 a b i/valL b*top):=by rw[Int.mul_left_comm]
  have c4:LB^(n-1)*(R1 a b i/valL b*top)<LB^(n-1)*(first+1):=by omega
  have:=Int.lt_of_mul_lt_mul_left c4 (by omega);omega
 ·
  by_cases hn0:n=0
  ·subst hn0;simp only[Nat.zero_sub,Int.pow_zero,Int.one_mul] at t1 t2;(have hbt:valL b=top:=by omega);(have hrf:R1 a b i=first:=by omega);(have:first<LB*top:=by rw[<- hbt,<- hrf];exact f2);exact Int.le_of_lt (Int.ediv_lt_of_lt_mul htop this)
  ·have hge:LB<=top:=by
    have:=valL_ge hbc hdne;rw[<- ht,List.length_drop] at this;(have e5:b.length-(n-1)-1=1:=by omega);rw[e5,Int.pow_succ,Int.pow_zero,Int.one_mul] at this;exact this
   have c1:LB^(n-1)*first<LB^(n-1)*(LB*(top+1)):=by
    have c2:LB*valL b<=LB*(LB^(n-1)*(top+1)):=Int.mul_le_mul_of_nonneg_left (by omega) (by decide);rw[Int.mul_left_comm (LB^(n-1)) LB];omega
   have c3:=Int.lt_of_mul_lt_mul_left c1 (by omega);have c4:first/top<LB+1:=by
    refine Int.ediv_lt_of_lt_mul htop ?_;rw[Int.mul_add,Int.mul_one] at c3;rw[Int.add_mul,Int.one_mul];omega
   omega
theorem half_mid{q low high:Int}(h:HalfPhi q low high)(hlt:low<high):
  IntKind.i64.wrap ((IntKind.i64.wrap (IntKind.i64.wrap (low+high)+1)).tdiv 2)=(low+high+1)/2/\low<(low+high+1)/2/\(low+high+1)/2<=high/\IntKind.i64.wrap ((low+high+1)/2-1)=(low+high+1)/2-1:=by
 obtain⟨h0,h1,h2,h3⟩:=h;have e:=hB;rw[wi (x:=low+high) (by omega) (by omega),wi (x:=low+high+1) (by omega) (by omega),Int.tdiv_eq_ediv_of_nonneg (by omega)];exact⟨wo,by omega,by omega,wo⟩
theorem half_up{q low high mid:Int}(h:HalfPhi q low high)(hm:low<mid/\mid<=high)(hq:mid<=q):HalfPhi q mid high/\(high-mid).toNat<(high-low).toNat:=by
 obtain⟨h0,h1,h2,h3⟩:=h;exact⟨⟨by omega,hq,h2,h3⟩,by omega⟩
theorem half_down{q low high mid:Int}(h:HalfPhi q low high)(hm:low<mid/\mid<=high)(hq: ¬mid<=q):HalfPhi q low (mid-1)/\(mid-1-low).toNat<(high-low).toNat:=by
 obtain⟨h0,h1,h2,h3⟩:=h;exact⟨⟨h0,h1,by omega,by omega⟩,by omega⟩
theorem SZ{x y:Int}:bg x y<=0↔x<=y:=by
 unfold bg;by_cases h1:x<y;·rw[if_pos h1];omega
 ·rw[if_neg h1];by_cases h2:y<x;·rw[if_pos h2];omega
  ·rw[if_neg h2];omega
theorem half_test{v mid:Int}{b:List Int}(hb:Lim b)(hp:0<valL b)(hv:0<=v)(hm:0<=mid):bg (valL (limbs (valL b*valL [mid]).toNat)) (valL (limbs v.toNat))<=0↔mid<=v/valL b:=by
 have h0:0<=valL b*mid:=Int.mul_nonneg (by omega) hm;rw[SZ,limbs_val,limbs_val,valL_one,Int.toNat_of_nonneg h0,Int.toNat_of_nonneg hv,Int.le_ediv_iff_mul_le hp,Int.mul_comm]
theorem div_next{a b q rest:List Int}{i:Nat}{d:Int}(ha:Lim a)(hb:Cano b)(hne:b≠ [])(h:DivPhi a b (i+1) q rest)(hd:d=R1 a b i/valL b):
  0<=d/\d<LB/\DivPhi a b i (q.set i d) (limbs (R1 a b i%valL b).toNat):=by
 have hp:=(valL_pos hb).2 hne;obtain⟨f1,f2,f3,f4⟩:=r1_facts (i:=i) ha hp;obtain⟨g1,g2,g3,g4,g5⟩:=h;have d0:0<=d:=by rw[hd];exact Int.ediv_nonneg f1 (by omega)
 have d1:d<LB:=by rw[hd];exact Int.ediv_lt_of_lt_mul hp f2
 refine⟨d0,d1,by simp;omega,by simpa using g2,set_lim g3 d0 d1,by rw[f3],?_⟩;have e1:(q.set i d).drop i=d::q.drop (i+1):=by
  rw[List.drop_eq_getElem_cons (by simp;omega)];simp[List.drop_set]
 rw[e1,f4];simp only[valL];rw[g5,hd];omega
theorem rest_minus{a b:List Int}{i:Nat}(ha:Lim a)(hb:Cano b)(hne:b≠ []):
  valL (limbs (valL b*valL [R1 a b i/valL b]).toNat)<=valL (limbs (R1 a b i).toNat)/\
   (valL (limbs (R1 a b i).toNat)-valL (limbs (valL b*valL [R1 a b i/valL b]).toNat))=R1 a b i%valL b:=by
 have hp:=(valL_pos hb).2 hne;obtain⟨f1,f2,f3,f4⟩:=r1_facts (i:=i) ha hp;have h0:0<=valL b*(R1 a b i/valL b):=Int.mul_nonneg (by omega) (Int.ediv_nonneg f1 (by omega));have hm:=mod_bounds (x:=R1 a b i) hp;have hd:=Int.emod_add_mul_ediv (R1 a b i) (valL b);rw[limbs_val,limbs_val,valL_one,Int.toNat_of_nonneg h0,Int.toNat_of_nonneg f1];omega
theorem rest_zero{a b:List Int}{i:Nat}(ha:Lim a)(hb:Cano b)(hne:b≠ [])(h: ¬0<R1 a b i/valL b):R1 a b i=R1 a b i%valL b:=by
 have hp:=(valL_pos hb).2 hne;obtain⟨f1,f2,f3,f4⟩:=r1_facts (i:=i) ha hp;have hq:R1 a b i/valL b=0:=by have:=Int.ediv_nonneg f1 (Int.le_of_lt hp);omega
 have hd:=Int.emod_add_mul_ediv (R1 a b i) (valL b);rw[hq,Int.mul_zero] at hd;omega
theorem div_small{a b:List Int}{n:Nat}(ha:Cano a)(hb:Cano b)(hne:b≠ [])(hn:b.length=n+1)(h:a.length<=n): []=limbs (valL a/valL b).toNat/\a=limbs (valL a%valL b).toNat:=by
 have h1:=cmp_len ha hb (by omega);have h0:=valL_nonneg ha.1;rw[Int.ediv_eq_zero_of_lt h0 h1,Int.emod_eq_of_lt h0 h1];exact⟨(limbs_nil.2 rfl).symm,ha.limbs (by omega)⟩
theorem div_end{a b q rest:List Int}(h:DivPhi a b 0 q rest):limbs (valL q).toNat=limbs (valL a/valL b).toNat/\rest=limbs (valL a%valL b).toNat:=by
 have h1:=h.hv;have h2:=h.hr;rw[List.drop_zero,List.drop_zero] at h1;rw[List.drop_zero] at h2;exact⟨by rw[h1],h2⟩
theorem len_pred{a b:List Int}(h:b≠ [])(hl:a.length+b.length+2<CAP):∃ z:Nat,IntKind.i64.wrap ((b.length:Int)-1)=(z:Int)/\b.length=z+1:=by
 have h1:=List.length_pos_iff.2 h;have hl:a.length+b.length+2<1000000000000:=hl;exact⟨b.length-1,by rw[wo];omega,by omega⟩
theorem rest_len{a b rest:List Int}{k:Nat}(hb:Cano b)(hne:b≠ [])(hr:rest=limbs (valL (a.drop k)%valL b).toNat):rest.length<=b.length:=by
 have hp:=(valL_pos hb).2 hne;have hm:=mod_bounds (x:=valL (a.drop k)) hp;have h1:=valL_lt hb.1;rw[hr];refine limbs_len ?_;rw[Int.toNat_of_nonneg hm.1];omega
theorem quo_facts{top first:Int}(h1:0<top)(h2:top<LB*LB)(h3:0<=first)(h4:first<LB*LB*LB):
  IntKind.i64.wrap (top+1)=top+1/\top+1≠0/\top≠0/\IntKind.i64.wrap (first.tdiv (top+1))=first/(top+1)/\IntKind.i64.wrap (first.tdiv top)=first/top:=by
 have e2:LB*LB=100000000:=rfl;have e3:LB*LB*LB=1000000000000:=rfl;have d1:first/(top+1)<=first:=Int.ediv_le_self _ h3
 have d2:first/top<=first:=Int.ediv_le_self _ h3
 have d3:0<=first/(top+1):=Int.ediv_nonneg h3 (by omega)
 have d4:0<=first/top:=Int.ediv_nonneg h3 (by omega)
 rw[Int.tdiv_eq_ediv_of_nonneg h3,Int.tdiv_eq_ediv_of_nonneg h3];exact⟨wo,by omega,by omega,wo,wo⟩
theorem one_len{b:List Int}{d:Int}(hb:Lim b)(h0:0<=d)(h1:d<=LB):(limbs (valL b*valL [d]).toNat).length<=b.length+1:=by
 have g0:=valL_nonneg hb;have g1:=valL_lt hb;refine limbs_len ?_;rw[valL_one,Int.toNat_of_nonneg (Int.mul_nonneg g0 h0),Int.pow_succ];have:valL b*d<=valL b*LB:=Int.mul_le_mul_of_nonneg_left h1 g0;have h2:valL b*LB<LB^b.length*LB:=Int.mul_lt_mul_of_pos_right g1 (by decide);omega
theorem half_end{q low high:Int}(h:HalfPhi q low high)(hlt: ¬low<high):low=q:=by
 have:=h.h1;have:=h.h2;omega
end Go.Cm.D
end
section
namespace Go.Cm
open Go.Proofs
def RS(n:Nat)(s:List UInt8):Prop:=RF s/\s.length<=n
theorem RS.up{n m:Nat}{s:List UInt8}(h:RS n s)(hn:n<=m):RS m s:=⟨h.1,Nat.le_trans h.2 hn⟩
theorem RS.cap{n:Nat}{s:List UInt8}(h:RS n s)(hn:n<1000000000000):RF s/\s.length<CAP:=⟨h.1,Nat.lt_of_le_of_lt h.2 hn⟩
theorem Na{s:List UInt8}(h:RF s):(al s).natAbs<10^s.length:=by
 have h1:=ix (iW h).1;rw[<- jf] at h1;exact Nat.lt_of_lt_of_le h1 (Nat.pow_le_pow_right (by omega) (fA s [45]))
theorem mO{n:Nat}{s:List UInt8}(h:RS n s):(al s).natAbs<10^n:=
 Nat.lt_of_lt_of_le (Na h.1) (Nat.pow_le_pow_right (by omega) h.2)
theorem zf{a k:Nat}(h:a<10^k):(Lib.decDigits a).length<=k+1:=by
 by_cases h0:a=0
 ·subst h0;rw[Lib.decDigits];simp
 ·have h1:=D.dd_lt h;unfold D.dd at h1;rw[if_neg h0] at h1;omega
theorem Nb{v:Int}{k:Nat}(h:v.natAbs<10^k):(Lib.itoa v).length<=k+2:=by
 have h1:=zf h;unfold Lib.itoa;by_cases hv:v<0;·rw[if_pos hv];simp only[List.length_cons];omega
 ·rw[if_neg hv,show v.toNat=v.natAbs by omega];omega
theorem oR{v:Int}{k n:Nat}(h:v.natAbs<10^k)(hk:k+2<=n):RS n (Lib.itoa v)/\al (Lib.itoa v)=v:=
 ⟨⟨(aJ v).1,Nat.le_trans (Nb h) hk⟩,(aJ v).2⟩
theorem Fm:RS 2 [49]/\al [49]=1:=⟨⟨by unfold RF;decide,by decide⟩,by decide⟩
namespace D
theorem lim_len{k:Nat}{v:Int}(h0:0<=v)(h:v<LB^k):(limbs v.toNat).length<=k:=limbs_len (by rw[Int.toNat_of_nonneg h0];exact h)
theorem plus_ln{d e:List Int}(hd:Lim d)(he:Lim e):(limbs (valL d+valL e).toNat).length<=d.length+e.length+1:=by
 have h1:=valL_lt hd;have h2:=valL_lt he;have h3:=valL_nonneg hd;have h4:=valL_nonneg he;have h5:LB^d.length<=LB^(d.length+e.length):=pow_mono (by omega);have h6:LB^e.length<=LB^(d.length+e.length):=pow_mono (by omega);have h7:=lbpos (d.length+e.length);refine lim_len (by omega) ?_;rw[Int.pow_succ,hB] at*;omega
theorem minus_ln{d e:List Int}(hd:Lim d)(he:Lim e):(limbs (valL d-valL e).toNat).length<=d.length:=by
 have h1:=valL_lt hd;have h4:=valL_nonneg he;have h7:=lbpos d.length;exact limbs_len (by omega)
theorem times_ln{d e:List Int}(hd:Lim d)(he:Lim e):(limbs (valL d*valL e).toNat).length<=d.length+e.length:=by
 have h1:=valL_lt hd;have h2:=valL_lt he;have h3:=valL_nonneg hd;have h4:=valL_nonneg he;refine lim_len (Int.mul_nonneg h3 h4) ?_;rw[Int.pow_add];exact Int.mul_lt_mul' (Int.le_of_lt h1) h2 h4 (lbpos _)
theorem ne_limbs{v:Int}(h:v≠0):limbs v.natAbs≠ []:=by
 intro e;have:=limbs_val v.natAbs;rw[e] at this;simp[valL] at this;omega
end D
def lm(s:List UInt8):List Int:=D.limbs (al s).natAbs
theorem ev{n:Nat}{s:List UInt8}(h:RS n s):D.Cano (D.limbs (al s).natAbs)/\(D.limbs (al s).natAbs).length<=n:=
 ⟨D.limbs_can _,Nat.le_trans (kt h.1) h.2⟩
theorem Hc{a b:List UInt8}(ha:RS 20000000000 a)(hb:RS 20000000000 b):
  4*(D.limbs (D.valL (D.limbs (al a).natAbs)+D.valL (D.limbs (al b).natAbs)).toNat).length<1000000000000/\
  4*(D.limbs (D.valL (D.limbs (al a).natAbs)-D.valL (D.limbs (al b).natAbs)).toNat).length<1000000000000/\
  4*(D.limbs (D.valL (D.limbs (al b).natAbs)-D.valL (D.limbs (al a).natAbs)).toNat).length<1000000000000/\
  4*(D.limbs (D.valL (D.limbs (al a).natAbs)*D.valL (D.limbs (al b).natAbs)).toNat).length<1000000000000:=by
 obtain⟨a1,a2⟩:=ev ha;obtain⟨b1,b2⟩:=ev hb;have h1:=D.plus_ln a1.1 b1.1;have h2:=D.minus_ln a1.1 b1.1;have h3:=D.minus_ln b1.1 a1.1;have h4:=D.times_ln a1.1 b1.1;exact⟨by omega,by omega,by omega,by omega⟩
theorem vy{a b:List UInt8}(ha:RF a)(hb:RF b)(h:a.length<=9/\b.length<=9):IntKind.i64.wrap (al a+al b)=al a+al b/\I64 (al a+al b)/\IntKind.i64.wrap (al a*al b)=al a*al b/\I64 (al a*al b):=by
 have h1:=jg ha h.1;have h2:=jg hb h.2;have h3:(al a*al b).natAbs<=1000000000*1000000000:=by rw[Int.natAbs_mul];exact Nat.mul_le_mul (by omega) (by omega)
 refine⟨wo,by unfold I64;omega,wo,by unfold I64;omega⟩
theorem JS{x y:Int}(h:decide (x<0)=decide (y<0)):Lib.itoa (if decide (x<0)=true then-D.valL (D.limbs (D.valL (D.limbs x.natAbs)+D.valL (D.limbs y.natAbs)).toNat) else D.valL (D.limbs (D.valL (D.limbs x.natAbs)+D.valL (D.limbs y.natAbs)).toNat))=Lib.itoa (x+y):=by
 rw[decide_eq_decide] at h;congr 1;simp only[D.limbs_val,decide_eq_true_eq];split<;>omega
theorem Hd{x y:Int}(h: ¬decide (x<0)=decide (y<0))(hc:0<=bg (D.valL (D.limbs x.natAbs)) (D.valL (D.limbs y.natAbs))):D.valL (D.limbs y.natAbs)<=D.valL (D.limbs x.natAbs)/\Lib.itoa (if decide (x<0)=true then-D.valL (D.limbs (D.valL (D.limbs x.natAbs)-D.valL (D.limbs y.natAbs)).toNat) else D.valL (D.limbs (D.valL (D.limbs x.natAbs)-D.valL (D.limbs y.natAbs)).toNat))=Lib.itoa (x+y):=by
 rw[decide_eq_decide] at h;simp only[D.limbs_val] at hc ⊢;have h2: ¬ ((x.natAbs:Nat):Int)<((y.natAbs:Nat):Int):=by
  intro h3;rw[Fl h3] at hc;exact absurd hc (by decide)
 refine⟨by omega,?_⟩;congr 1;simp only[decide_eq_true_eq];split<;>omega
theorem He{x y:Int}(h: ¬decide (x<0)=decide (y<0))(hc: ¬0<=bg (D.valL (D.limbs x.natAbs)) (D.valL (D.limbs y.natAbs))):D.valL (D.limbs x.natAbs)<=D.valL (D.limbs y.natAbs)/\Lib.itoa (if decide (y<0)=true then-D.valL (D.limbs (D.valL (D.limbs y.natAbs)-D.valL (D.limbs x.natAbs)).toNat) else D.valL (D.limbs (D.valL (D.limbs y.natAbs)-D.valL (D.limbs x.natAbs)).toNat))=Lib.itoa (x+y):=by
 rw[decide_eq_decide] at h;simp only[D.limbs_val] at hc ⊢;have h2:((x.natAbs:Nat):Int)<((y.natAbs:Nat):Int):=by
  refine Decidable.byContradiction fun h3=>hc ?_;unfold bg;rw[if_neg h3];split<;>decide
 refine⟨by omega,?_⟩;congr 1;simp only[decide_eq_true_eq];split<;>omega
theorem S0{s:List UInt8}{n:Nat}(h:RS n s):RS (n+2) (Lib.itoa (-al s))/\al (Lib.itoa (-al s))= -al s:=
 oR (k:=n) (by rw[Int.natAbs_neg];exact mO h) (Nat.le_refl _)
theorem QG{a b:List UInt8}:Lib.itoa (al a+al (Lib.itoa (-al b)))=Lib.itoa (al a-al b):=by rw[(aJ _).2];congr 1
theorem QI{x y:Int}:Lib.itoa (if (decide (x<0) !=decide (y<0))=true then-D.valL (D.limbs (D.valL (D.limbs x.natAbs)*D.valL (D.limbs y.natAbs)).toNat) else D.valL (D.limbs (D.valL (D.limbs x.natAbs)*D.valL (D.limbs y.natAbs)).toNat))=Lib.itoa (x*y):=by
 congr 1;simp only[D.limbs_val];rw[<- Int.natCast_mul,Int.toNat_natCast,<- Int.natAbs_mul];have hm:x*y<0∨0<=x*y:=by omega
 by_cases hx:x<0<;>by_cases hy:y<0<;>simp only[hx,hy,decide_true,decide_false,bne_self_eq_false,Bool.false_eq_true,if_false,Bool.true_bne,Bool.false_bne,Bool.not_false,if_true]
 ·have:=Int.mul_pos_of_neg_of_neg hx hy;omega
 ·have:x*y<=0:=Int.mul_nonpos_of_nonpos_of_nonneg (by omega) (by omega);omega
 ·have:x*y<=0:=Int.mul_nonpos_of_nonneg_of_nonpos (by omega) (by omega);omega
 ·have:=Int.mul_nonneg (show 0<=x by omega) (show 0<=y by omega);omega
end Go.Cm
end
section
namespace Go.Cm
open Go.Proofs
theorem jW{x y q:Int}(h1:0<y->0<=x-y*q/\x-y*q<y)(h2:y<0->y<x-y*q/\x-y*q<=0)(h0:y≠0):q=bN x y:=by
 unfold bN;by_cases hy:0<y;·rw[if_pos hy];obtain⟨g1,g2⟩:=h1 hy;exact(Int.ediv_emod_unique hy).2 ⟨show x-y*q+y*q=x by omega,g1,g2⟩|>.1.symm
 ·rw[if_neg hy];obtain⟨g1,g2⟩:=h2 (by omega);refine((Int.ediv_emod_unique (r:= -(x-y*q)) (show 0< -y by omega)).2 ⟨?_,by omega,by omega⟩).1.symm;rw[Int.neg_mul];omega
theorem mP{x y:Int}(h0:y≠0):(bN x y).natAbs<=x.natAbs/\(y*bN x y).natAbs<=x.natAbs+y.natAbs:=by
 have key:∀ u v:Int,0<v->(u/v).natAbs<=u.natAbs/\0<=u-v*(u/v)/\u-v*(u/v)<v:=by
  intro u v hv;have e:=Int.emod_add_mul_ediv u v;have m0:=Int.emod_nonneg u (show v≠0 by omega);have m1:=Int.emod_lt_of_pos u hv;refine⟨?_,by omega,by omega⟩;by_cases hu:0<=u;·have d0:=Int.ediv_nonneg hu (Int.le_of_lt hv);have d1:=Int.ediv_le_self v hu;omega
  ·have d0:u/v<0:=Int.ediv_neg_of_neg_of_pos (by omega) hv;have d1:u<=u/v:=by
    have:u/v*v<=u/v*1:=by
     refine Int.mul_le_mul_of_nonpos_left ?_ (by omega);omega
    refine(Int.le_ediv_iff_mul_le hv).2 ?_;have h3:u*v<=u*1:=Int.mul_le_mul_of_nonpos_left (by omega) (by omega);omega
   omega
 unfold bN;by_cases hy:0<y;·rw[if_pos hy];obtain⟨k1,k2,k3⟩:=key x y hy;exact⟨k1,by omega⟩
 ·rw[if_neg hy];obtain⟨k1,k2,k3⟩:=key (-x) (-y) (by omega);rw[Int.neg_mul] at k2 k3;exact⟨by omega,by omega⟩
theorem Fo{a b:List UInt8}(ha:RF a)(hb:RF b)(h:a.length<=9/\b.length<=9)(h0:al b≠0):
  (((al a).tmod (al b)≠0/\decide (al a<0)≠decide (al b<0))->IntKind.i64.wrap (IntKind.i64.wrap ((al a).tdiv (al b))-1)=bN (al a) (al b))/\
  ((((al a).tmod (al b) !=0)=true->decide (al a<0)=decide (al b<0))->IntKind.i64.wrap ((al a).tdiv (al b))=bN (al a) (al b))/\
  I64 (bN (al a) (al b))/\IntKind.i64.wrap (al a-IntKind.i64.wrap (al b*bN (al a) (al b)))=kc (al a) (al b)/\I64 (kc (al a) (al b)):=by
 have h1:=jg ha h.1;have h2:=jg hb h.2;have hf:=mP (x:=al a) h0;unfold kc;generalize al a=x at*;generalize al b=y at*;have e:=Int.mul_tdiv_add_tmod x y;have hq:(x.tdiv y).natAbs<=x.natAbs:=by rw[Int.natAbs_tdiv];exact Nat.div_le_self _ _
 have hlt:(x.tmod y).natAbs<y.natAbs:=by rw[Int.natAbs_tmod];exact Nat.mod_lt _ (by omega)
 have hs1:0<=x->0<=x.tmod y:=fun hx=>Int.tmod_nonneg y hx;have hs2:x<0->x.tmod y<=0:=fun hx=>by
  have:=Int.tmod_nonneg (a:= -x) y (by omega);rw[Int.neg_tmod] at this;omega
 have hw:IntKind.i64.wrap (x.tdiv y)=x.tdiv y:=wo;rw[hw];refine⟨fun hc=> ?_,fun hc=> ?_,by unfold I64;omega,?_,by unfold I64;omega⟩;·rw[wo];have hc2: ¬ (x<0↔y<0):=fun h=>hc.2 (by rw[decide_eq_decide];exact h);have hc1:=hc.1;refine jW (fun hy=> ?_) (fun hy=> ?_) h0<;>rw[Int.mul_sub,Int.mul_one]<;>omega
 ·have hc2:x.tmod y≠0->(x<0↔y<0):=fun hm=>by
   rw[<- decide_eq_decide];exact hc (by simpa using hm)
  refine jW (fun hy=> ?_) (fun hy=> ?_) h0
  ·by_cases hm:x.tmod y=0
   ·omega
   ·have:=hc2 hm;omega
  ·by_cases hm:x.tmod y=0
   ·omega
   ·have:=hc2 hm;omega
 ·rw[wi (x:=y*bN x y) (by omega) (by omega),wo]
def JT(x y:Int):Int:=if (decide (x<0) !=decide (y<0))=true then-D.valL (D.limbs (D.valL (D.limbs x.natAbs)/D.valL (D.limbs y.natAbs)).toNat) else D.valL (D.limbs (D.valL (D.limbs x.natAbs)/D.valL (D.limbs y.natAbs)).toNat)
theorem Nc{x y:Int}:JT x y=if (x<0↔y<0) then ((x.natAbs/y.natAbs:Nat):Int) else-((x.natAbs/y.natAbs:Nat):Int):=by
 unfold JT;simp only[D.limbs_val];rw[<- Int.natCast_ediv,Int.toNat_natCast];by_cases hx:x<0<;>by_cases hy:y<0<;>simp[hx,hy]
theorem xC{x y:Int}:(0:Int)<((D.limbs (D.valL (D.limbs x.natAbs)%D.valL (D.limbs y.natAbs)).toNat).length:Int)↔x.natAbs%y.natAbs≠0:=by
 simp only[D.limbs_val];rw[<- Int.natCast_emod,Int.toNat_natCast];have hc:=D.limbs_can (x.natAbs%y.natAbs);have hp:=D.valL_pos hc;rw[D.limbs_val] at hp;constructor
 ·intro h;have:D.limbs (x.natAbs%y.natAbs)≠ []:=by
   intro e;rw[e] at h;simp at h
  have:=hp.2 this;omega
 ·intro h;have:=hp.1 (by omega);have:=List.length_pos_iff.2 this;omega
theorem vz{x y:Int}(h0:y≠0):(JT x y).natAbs<=x.natAbs/\((x.natAbs%y.natAbs≠0/\decide (x<0)≠decide (y<0))->JT x y-1=bN x y)/\((x.natAbs%y.natAbs≠0->decide (x<0)=decide (y<0))->JT x y=bN x y):=by
 have e:=Nat.mod_add_div x.natAbs y.natAbs;have hlt:=Nat.mod_lt x.natAbs (show y.natAbs>0 by omega);have hle:=Nat.div_le_self x.natAbs y.natAbs;have e2:((x.natAbs%y.natAbs:Nat):Int)+((y.natAbs:Nat):Int)*((x.natAbs/y.natAbs:Nat):Int)=((x.natAbs:Nat):Int):=by exact_mod_cast e
 rw[Nc];generalize hq:x.natAbs/y.natAbs=q at*;generalize hr:x.natAbs%y.natAbs=r at*;have hyq:((y.natAbs:Nat):Int)*(q:Int)=if y<0 then-(y*q) else y*q:=by
  split;·rw[show ((y.natAbs:Nat):Int)= -y by omega,Int.neg_mul]
  ·rw[show ((y.natAbs:Nat):Int)=y by omega]
 refine⟨by split<;>omega,fun hc=> ?_,fun hc=> ?_⟩
 ·have hc2: ¬ (x<0↔y<0):=fun h=>hc.2 (by rw[decide_eq_decide];exact h);rw[if_neg hc2];refine jW (fun hy=> ?_) (fun hy=> ?_) h0<;>rw[Int.mul_sub,Int.mul_one,Int.mul_neg];·rw[if_neg (by omega)] at hyq;omega
  ·rw[if_pos (by omega)] at hyq;omega
 ·have hc2:r≠0->(x<0↔y<0):=fun hm=>by rw[<- decide_eq_decide];exact hc hm
  refine jW (fun hy=> ?_) (fun hy=> ?_) h0
  ·(rw[if_neg (by omega)] at hyq;by_cases hs:(x<0↔y<0);·rw[if_pos hs];omega);·rw[if_neg hs,Int.mul_neg];have:r=0:=Decidable.byContradiction fun h=>hs (hc2 h);omega
  ·(rw[if_pos (by omega)] at hyq;by_cases hs:(x<0↔y<0);·rw[if_pos hs];omega);·rw[if_neg hs,Int.mul_neg];have:r=0:=Decidable.byContradiction fun h=>hs (hc2 h);omega
theorem Nd(x y:Int):(D.limbs (D.valL (D.limbs x.natAbs)/D.valL (D.limbs y.natAbs)).toNat).length<=(D.limbs x.natAbs).length:=by
 have h1:=D.valL_lt (D.limbs_can x.natAbs).1;have h2:=D.valL_nonneg (D.limbs_can x.natAbs).1;have h3:=D.valL_nonneg (D.limbs_can y.natAbs).1;have h4:=Int.ediv_le_self (D.valL (D.limbs y.natAbs)) h2;have h5:=Int.ediv_nonneg h2 h3;exact D.lim_len h5 (by omega)
theorem Nf{v x:Int}{n:Nat}(h:v.natAbs<=x.natAbs)(hx:x.natAbs<10^n):v.natAbs<10^n:=Nat.lt_of_le_of_lt h hx
theorem pow_two{n:Nat}{u v:Nat}(hu:u<10^n)(hv:v<10^n):u+v<10^(n+1):=by rw[Nat.pow_succ];omega
theorem TX{a b:List UInt8}{n:Nat}(ha:RS n a)(h0:al b≠0):RS (n+2) (Lib.itoa (JT (al a) (al b)))/\RS (n+2) (Lib.itoa (bN (al a) (al b))):=
 ⟨(oR (Nf (vz h0).1 (mO ha)) (Nat.le_refl _)).1,(oR (Nf (mP h0).1 (mO ha)) (Nat.le_refl _)).1⟩
theorem TY{a b:List UInt8}{n:Nat}(ha:RS n a)(hb:RS n b)(h0:al b≠0):RS (n+3) (Lib.itoa (bN (al a) (al b)*al b)):=by
 have h1:=(mP (x:=al a) h0).2;rw[Int.mul_comm] at h1;exact(oR (k:=n+1) (Nat.lt_of_le_of_lt h1 (pow_two (mO ha) (mO hb))) (by omega)).1
structure xD (g x y:Int):Prop where
 hg:cg x y=g
 hx:x.natAbs<1000000000
 hy:y.natAbs<1000000000
theorem Ng{x y:Int}(ha: -1000000000<x/\x<1000000000)(hb: -1000000000<y/\y<1000000000):xD (cg x y) x y:=⟨rfl,by omega,by omega⟩
theorem BF(x y:Nat):Nat.gcd y (x%y)=Nat.gcd x y:=by
 rw[Nat.gcd_comm,<- Nat.gcd_rec,Nat.gcd_comm]
theorem QJ{g x y:Int}(h:xD g x y)(hy:y≠0):xD g y (x.tmod y)/\(x.tmod y).natAbs<y.natAbs:=by
 have h1:(x.tmod y).natAbs=x.natAbs%y.natAbs:=Int.natAbs_tmod x y;have h2:=Nat.mod_lt x.natAbs (show y.natAbs>0 by omega);have h3:=h.hy;refine⟨⟨?_,h3,by omega⟩,by omega⟩;rw[<- h.hg];unfold cg;rw[h1,BF]
theorem S1{g x:Int}(h:xD g x 0):IntKind.i64.wrap (-x)= -x/\I64 g/\((x.natAbs:Nat):Int)=g:=by
 have hx:=h.hx;have hg:=h.hg;unfold cg at hg;simp at hg;exact⟨wo,by unfold I64;omega,by omega⟩
structure BG (g:Int) (x y:List Int):Prop where
 hx:D.Cano x
 hy:D.Cano y
 hg:cg (D.valL x) (D.valL y)=g
 lx:x.length<=1000000000
 ly:y.length<=1000000000
theorem Nh{a b:List UInt8}(ha:RS 1000000000 a)(hb:RS 1000000000 b):BG (cg (al a) (al b)) (D.limbs (al a).natAbs) (D.limbs (al b).natAbs):=by
 have la:=ev ha;have lb:=ev hb;refine⟨la.1,lb.1,?_,la.2,lb.2⟩;unfold cg;rw[D.limbs_val,D.limbs_val,Int.natAbs_natCast,Int.natAbs_natCast]
theorem QN{g:Int}{x y:List Int}(h:BG g x y)(hy:(0:Int)<(y.length:Int)):BG g y (D.limbs (D.valL x%D.valL y).toNat)/\(D.valL (D.limbs (D.valL x%D.valL y).toNat)).natAbs<(D.valL y).natAbs:=by
 have hne:y≠ []:=by rintro rfl;simp at hy
 have hp:=(D.valL_pos h.hy).2 hne;have hx0:=D.valL_nonneg h.hx.1;have hm:=D.mod_bounds (x:=D.valL x) hp;have hv:(D.valL (D.limbs (D.valL x%D.valL y).toNat))=D.valL x%D.valL y:=by rw[D.limbs_val];omega
 have hl:=D.valL_lt h.hy.1;have hlen:(D.limbs (D.valL x%D.valL y).toNat).length<=y.length:=D.lim_len hm.1 (by omega);have hly:=h.ly;refine⟨⟨h.hy,D.limbs_can _,?_,h.ly,by omega⟩,by rw[hv];omega⟩;rw[<- h.hg];unfold cg;rw[hv,Int.natAbs_emod_of_nonneg hx0,BF]
theorem S2{g:Int}{x y:List Int}(h:BG g x y)(hy: ¬ (0:Int)<(y.length:Int)):D.valL x=g:=by
 have hne:y= []:=List.eq_nil_of_length_eq_zero (by omega);subst hne;have hx0:=D.valL_nonneg h.hx.1;have hg:=h.hg;unfold cg at hg;simp[D.valL] at hg;omega
theorem Ni{g x:Int}(h:xD g x 0):I64 (max x (IntKind.i64.wrap (0-x)))/\max x (IntKind.i64.wrap (0-x))=g:=by
 have e:=S1 h;rw[show (0-x:Int)= -x by omega,e.1];have:=e.2.2;have e2:max x (-x)=g:=by omega
 rw[e2];exact⟨e.2.1,rfl⟩
theorem Nj{s:List UInt8}{n:Nat}(h:s.length<=n)(hn:n<70368744177664):oM s:=Nat.lt_of_le_of_lt h hn
def S3k(s:List UInt8):Prop:=s.length<=3000
theorem S3k.short{s:List UInt8}(h:S3k s):oM s:=Nj h (by decide)
theorem S3k.cap{s:List UInt8}(h:S3k s):s.length<CAP:=Nat.lt_of_le_of_lt h (by decide)
abbrev NT:Ty:= .st (.pair WT WT)
abbrev ND:=(Bool×List Int)×(Bool×List Int)
def br(q:Rat):ND:=(enc q.num,enc (q.den:Int))
def bF(x:ND):Rat:=Rat.divInt (dec x.1) (dec x.2)
def NOK(x:ND):Prop:=br (bF x)=x
def lw(n:Int):Nat:=(enc n).2.length
def lq(q:Rat):Nat:=max (lw q.num) (lw (q.den:Int))
def QC:Nat:=100000000000
theorem aQ(q:Rat):bF (br q)=q:=by
 simp only[bF,br,b5];exact Rat.num_divInt_den q
theorem cd(q:Rat):NOK (br q):=by simp only[NOK,aQ]
theorem NOK.parts{x:ND}(h:NOK x):x.1=enc (bF x).num/\x.2=enc ((bF x).den:Int):=by
 have:=h.symm;exact⟨congrArg Prod.fst this,congrArg Prod.snd this⟩
theorem NOK.w1{x:ND}(h:NOK x):WOK x.1:=by rw[h.parts.1];exact enc_ok _
theorem NOK.w2{x:ND}(h:NOK x):WOK x.2:=by rw[h.parts.2];exact enc_ok _
theorem NOK.d1{x:ND}(h:NOK x):dec x.1=(bF x).num:=by rw[h.parts.1,b5]
theorem NOK.d2{x:ND}(h:NOK x):dec x.2=((bF x).den:Int):=by rw[h.parts.2,b5]
theorem NOK.pos{x:ND}(h:NOK x):0<dec x.2:=by rw[h.d2];have:=(bF x).den_pos;omega
theorem NOK.l1{x:ND}(h:NOK x):x.1.2.length<=lq (bF x):=by rw[h.parts.1];exact Nat.le_max_left _ _
theorem NOK.l2{x:ND}(h:NOK x):x.2.2.length<=lq (bF x):=by rw[h.parts.2];exact Nat.le_max_right _ _
theorem WOK.lw{x:Bool×List Int}(h:WOK x):x.2.length=lw (dec x):=by unfold Cm.lw;rw[h.enc]
theorem qU(n:Int):(n.natAbs:Int)<LB^lw n:=vm n (Nat.le_refl _)
theorem l6{n:Int}{k:Nat}(h:(n.natAbs:Int)<LB^k):lw n<=k:=limbs_len h
theorem gH{a b:Int}(h:a.natAbs<=b.natAbs):lw a<=lw b:=l6 (by have:=qU b;omega)
theorem Nk(a:Int):lw (-a)=lw a:=by unfold lw enc;rw[Int.natAbs_neg]
theorem eN:lw 0=0:=by
 have:lw 0<=0:=l6 (by simp);omega
theorem kX:lw 1=1:=by
 have h1:lw 1<=1:=l6 (by simp[LB]);have h2:lw 1≠0:=fun h=>by have:=qU 1;rw[h] at this;simp at this
 omega
theorem bZ(a b:Int):lw (a*b)<=lw a+lw b:=by
 refine l6 ?_;have h1:=qU a;have h2:=qU b;rw[Int.natAbs_mul,Int.natCast_mul,Int.pow_add];have h5:(a.natAbs:Int)*(b.natAbs:Int)<=(a.natAbs:Int)*LB^lw b:=Int.mul_le_mul_of_nonneg_left (by omega) (by omega);have h6:(a.natAbs:Int)*LB^lw b<LB^lw a*LB^lw b:=Int.mul_lt_mul_of_pos_right h1 (lbpos _);omega
theorem vA(a b:Int):lw (a+b)<=max (lw a) (lw b)+1:=by
 have h1:=vm a (k:=max (lw a) (lw b)) (Nat.le_max_left _ _);have h2:=vm b (k:=max (lw a) (lw b)) (Nat.le_max_right _ _);refine l6 ?_;have h3:LB^(max (lw a) (lw b)+1)=LB^max (lw a) (lw b)*LB:=Int.pow_succ _ _;have h4:LB^max (lw a) (lw b)*2<=LB^max (lw a) (lw b)*LB:=Int.mul_le_mul_of_nonneg_left (by decide) (Int.le_of_lt (lbpos _));omega
theorem Fp{n:Int}(h:I64 n):lw n<=3:=(mM h).2.2
theorem dN(q:Rat):lw q.num<=lq q:=Nat.le_max_left _ _
theorem dO(q:Rat):lw (q.den:Int)<=lq q:=Nat.le_max_right _ _
theorem l7(n d:Int)(hd:d≠0):lq (Rat.divInt n d)<=max (lw n) (lw d):=by
 have hg:0<Int.gcd d n:=Int.gcd_pos_of_ne_zero_left n hd;refine Nat.max_le.2 ⟨Nat.le_trans (gH ?_) (Nat.le_max_left _ _),Nat.le_trans (gH ?_) (Nat.le_max_right _ _)⟩
 ·rw[Rat.num_divInt,Int.natAbs_ediv_of_dvd (Int.dvd_trans (Int.gcd_dvd_right ..) (Int.dvd_mul_left _ _)),Int.natAbs_mul];rw[Int.natAbs_natCast];have:d.sign.natAbs=1:=by rw[Int.natAbs_sign,if_neg hd]
  rw[this,Nat.one_mul];exact Nat.div_le_self _ _
 ·rw[Rat.den_divInt,if_neg hd,Int.natAbs_natCast];exact Nat.div_le_self _ _
theorem nU(x y:Rat):x+y=Rat.divInt (x.num*y.den+y.num*x.den) (x.den*y.den):=by
 have hx:(x.den:Int)≠0:=by have:=x.den_pos;omega
 have hy:(y.den:Int)≠0:=by have:=y.den_pos;omega
 conv=>lhs;rw[<- Rat.num_divInt_den x,<- Rat.num_divInt_den y]
 rw[Rat.divInt_add_divInt _ _ hx hy]
theorem nV(x y:Rat):x*y=Rat.divInt (x.num*y.num) (x.den*y.den):=by
 conv=>lhs;rw[<- Rat.num_divInt_den x,<- Rat.num_divInt_den y]
 rw[Rat.divInt_mul_divInt]
theorem vB(x y:Rat):x/y=Rat.divInt (x.num*y.den) (x.den*y.num):=by
 rw[Rat.div_def,Rat.inv_def];conv=>lhs;arg 1;rw[<- Rat.num_divInt_den x]
 rw[Rat.divInt_mul_divInt]
theorem fv(x:Rat):(x.den:Int)≠0:=by have:=x.den_pos;omega
theorem zg{x:Rat}(h:x≠0):x.num≠0:=fun e=>h (Rat.num_eq_zero.1 e)
theorem pR(x y:Rat):lq (x+y)<=lq x+lq y+1:=by
 rw[nU];refine Nat.le_trans (l7 _ _ (Int.mul_ne_zero (fv x) (fv y))) ?_;have h1:=vA (x.num*y.den) (y.num*x.den);have h2:=bZ x.num y.den;have h3:=bZ y.num x.den;have h4:=bZ x.den y.den;have:=dN x;have:=dN y;have:=dO x;have:=dO y;omega
theorem vC(x:Rat):lq (-x)=lq x:=by unfold lq;rw[Rat.neg_num,Rat.neg_den,Nk]
theorem S3(x y:Rat):lq (x-y)<=lq x+lq y+1:=by
 rw[Rat.sub_eq_add_neg];have:=pR x (-y);rw[vC] at this;exact this
theorem l8(x y:Rat):lq (x*y)<=lq x+lq y:=by
 rw[nV];refine Nat.le_trans (l7 _ _ (Int.mul_ne_zero (fv x) (fv y))) ?_;have h2:=bZ x.num y.num;have h4:=bZ x.den y.den;have:=dN x;have:=dN y;have:=dO x;have:=dO y;omega
theorem pS(x y:Rat):lq (x/y)<=lq x+lq y:=by
 by_cases hy:y=0
 ·subst hy;rw[Rat.div_def,Rat.inv_zero,Rat.mul_zero];have:lq 0<=1:=by unfold lq;rw[show (0:Rat).num=0 from rfl,show (0:Rat).den=1 from rfl,eN];show max 0 (lw 1)<=1;rw[kX];decide
  have h1:1<=lq x:=by
   have:=dO x;(have h2:lw (x.den:Int)≠0:=fun h=>by have:=qU (x.den:Int);rw[h] at this;have:=x.den_pos;simp at*;omega);omega
  omega
 rw[vB];refine Nat.le_trans (l7 _ _ (Int.mul_ne_zero (fv x) (zg hy))) ?_;have h2:=bZ x.num y.den;have h4:=bZ x.den y.num;have:=dN x;have:=dN y;have:=dO x;have:=dO y;omega
def dP(n d:Int):Int:=if d<0 then-cg n d else cg n d
theorem vD{n d:Int}(hd:d≠0):0<cg n d:=by
 unfold cg;have:0<Nat.gcd n.natAbs d.natAbs:=Nat.gcd_pos_of_pos_right _ (by omega);omega
theorem oS{n d:Int}(hd:d≠0):(cg n d).natAbs<=d.natAbs:=by
 unfold cg;exact Nat.le_of_dvd (by omega) (Nat.gcd_dvd_right _ _)
theorem l9(n d:Int):(Int.gcd d n:Int)=cg n d:=by
 unfold cg Int.gcd;rw[Nat.gcd_comm]
theorem nW{n d:Int}(hd:d≠0):br (Rat.divInt n d)=(enc (bN n (dP n d)),enc (bN d (dP n d))):=by
 have hg:=vD (n:=n) hd;have hdv:(cg n d)∣d:=by rw[<- l9];exact Int.gcd_dvd_left ..
 have hnv:(cg n d)∣n:=by rw[<- l9];exact Int.gcd_dvd_right ..
 unfold br;rw[Rat.num_divInt,Rat.den_divInt,if_neg hd,l9];have hden:((d.natAbs/Int.gcd d n:Nat):Int)=(d.natAbs:Int)/cg n d:=by rw[<- l9,Int.natCast_ediv]
 rw[hden];unfold dP bN;by_cases hn:d<0
 ·rw[if_pos hn,if_neg (by omega),if_neg (by omega),Int.neg_neg,Int.sign_eq_neg_one_of_neg hn];have:(d.natAbs:Int)= -d:=by omega
  rw[this];congr 2;rw[Int.neg_one_mul]
 ·rw[if_neg hn,if_pos hg,if_pos hg,Int.sign_eq_one_of_pos (by omega),Int.one_mul];have:(d.natAbs:Int)=d:=by omega
  rw[this]
theorem vE(n:Int):bN n 1=n:=by unfold bN;simp
theorem BH{n d:Int}(hd:d≠0)(h:dP n d=1):br (Rat.divInt n d)=(enc n,enc d):=by
 rw[nW hd,h,vE,vE]
theorem Fq{g:Int}(h1: ¬1<(enc g).2.length)(h2:(enc g).1=false)(h3:(enc g).2.getD 0 0=1):g=1:=by
 have hw:=enc_ok g;have hne:(enc g).2≠ []:=by intro e;rw[e] at h3;simp at h3
 obtain⟨a,ha⟩:∃ a,(enc g).2= [a]:=by
  match h:(enc g).2,h1,hne with
  | [a],_,_=>exact⟨a,rfl⟩
  |a::b::l,h1,_=>simp at h1
 rw[ha] at h3;simp at h3;have:=b5 g;rw[show enc g=(false,[1]) from Prod.ext h2 (by rw[ha,h3])] at this;rw[<- this];simp[dec,valL]
theorem pe(x:Bool×List Int):(x.1,x.2)=x:=rfl
theorem Hf{d:Bool×List Int}(h:WOK d):d.1=decide (dec d<0):=congrArg Prod.fst h.enc.symm
def iO(n d:Bool×List Int):Prop:=WOK n/\WOK d/\dec d≠0/\n.2.length+d.2.length<=4*QC
theorem ma{n d:Int}(hd:d≠0):(dP n d).natAbs<=d.natAbs/\dP n d≠0:=by
 have h1:=oS (n:=n) hd;have h2:=vD (n:=n) hd;unfold dP;split<;>omega
theorem TZ{n d:Bool×List Int}(h:iO n d)(hb:d.1=true): -cg (dec n) (dec d)=dP (dec n) (dec d):=by
 rw[Hf h.2.1,decide_eq_true_eq] at hb;unfold dP;rw[if_pos hb]
theorem T1{n d:Bool×List Int}(h:iO n d)(hb:d.1=false):cg (dec n) (dec d)=dP (dec n) (dec d):=by
 rw[Hf h.2.1,decide_eq_false_iff_not] at hb;unfold dP;rw[if_neg hb]
theorem S4{n d:Bool×List Int}(h:iO n d):pN n d:=by
 obtain⟨h1,h2,h3,h4⟩:=h;refine⟨h1,h2,?_⟩;unfold QC at h4;unfold CAP;omega
theorem Nl{n d:Bool×List Int}(h:iO n d):lw (cg (dec n) (dec d))<=d.2.length/\lw (dP (dec n) (dec d))<=d.2.length:=by
 obtain⟨h1,h2,h3,h4⟩:=h;rw[h2.lw];exact⟨gH (oS h3),gH (ma h3).1⟩
theorem S5{n d:Bool×List Int}(h:iO n d):Lim (enc (cg (dec n) (dec d))).2/\(enc (cg (dec n) (dec d))).2.length<CAP:=by
 refine⟨(enc_ok _).1.1,?_⟩;have h1:=(Nl h).1;have h4:=h.2.2.2;unfold lw at h1;unfold QC at h4;unfold CAP;omega
theorem mk_pos{n d:Bool×List Int}(h:iO n d):(0:Int)<((enc (dP (dec n) (dec d))).2.length:Int):=by
 have h1:=(gC (enc_ok (dP (dec n) (dec d)))).1;rw[b5] at h1;have h2:=(ma (n:=dec n) h.2.2.1).2;have:=mt h1.1 h2;omega
theorem Nm{n d:Bool×List Int}(h:iO n d):pM n (enc (dP (dec n) (dec d)))/\pM d (enc (dP (dec n) (dec d))):=by
 have h1:=(Nl h).2;have h2:=(ma (n:=dec n) h.2.2.1).2;obtain⟨h3,h4,h5,h6⟩:=h;unfold lw at h1;unfold QC at h6;exact⟨⟨h3,enc_ok _,by rw[b5];exact h2,by unfold CAP;omega⟩,⟨h4,enc_ok _,by rw[b5];exact h2,by unfold CAP;omega⟩⟩
theorem S6{n d:Bool×List Int}(h:iO n d)(hb:(decide ((1:Int)<((enc (dP (dec n) (dec d))).2.length:Int))||(enc (dP (dec n) (dec d))).1||nth (.int .u32) (enc (dP (dec n) (dec d))).2 0 !=1)=false):(n,d)=br (Rat.divInt (dec n) (dec d)):=by
 simp only[Bool.or_eq_false_iff,decide_eq_false_iff_not,bne_eq_false_iff_eq] at hb;obtain⟨⟨h1,h2⟩,h3⟩:=hb;have:=Fq (by omega) h2 h3;rw[BH h.2.2.1 this,h.1.enc,h.2.1.enc]
def ie(x y:ND):Prop:=NOK x/\NOK y/\lq (bF x)+lq (bF y)<=QC
theorem lwl(a:Int):(enc a).2.length=lw a:=rfl
theorem NOK.ex{x:ND}(h:NOK x):∃ q,x=br q:=⟨bF x,h.symm⟩
theorem pe2(x:ND):((x.1.1,x.1.2),x.2.1,x.2.2)=x:=rfl
theorem vF:4*QC+4<CAP:=by unfold QC CAP;decide
theorem JU{x y:ND}(h:ie x y):(WOK x.1/\WOK y.2/\List.length x.1.2+List.length y.2.2<CAP)/\
  (WOK y.1/\WOK x.2/\List.length y.1.2+List.length x.2.2<CAP)/\
   (WOK (enc (dec x.1*dec y.2))/\WOK (enc (dec y.1*dec x.2))/\List.length (enc (dec x.1*dec y.2)).2+List.length (enc (dec y.1*dec x.2)).2<CAP)/\
    (WOK x.2/\WOK y.2/\List.length x.2.2+List.length y.2.2<CAP)/\
     iO (enc (dec (enc (dec x.1*dec y.2))+dec (enc (dec y.1*dec x.2)))) (enc (dec x.2*dec y.2)):=by
 obtain⟨h1,h2,h3⟩:=h;obtain⟨p,rfl⟩:=h1.ex;obtain⟨q,rfl⟩:=h2.ex;rw[aQ,aQ] at h3;simp only[br,iO,b5,lwl];have a1:=dN p;have a2:=dO p;have a3:=dN q;have a4:=dO q;have m1:=bZ p.num q.den;have m2:=bZ q.num p.den;have m3:=bZ p.den q.den;have m4:=vA (p.num*q.den) (q.num*p.den);have hc:=vF;refine⟨⟨enc_ok _,enc_ok _,by omega⟩,⟨enc_ok _,enc_ok _,by omega⟩,⟨enc_ok _,enc_ok _,by omega⟩,⟨enc_ok _,enc_ok _,by omega⟩,enc_ok _,enc_ok _,Int.mul_ne_zero (fv p) (fv q),?_⟩;have:QC=100000000000:=rfl;omega
theorem Nn{x y:ND}(h:ie x y):br (Rat.divInt (dec (enc (dec (enc (dec x.1*dec y.2))+dec (enc (dec y.1*dec x.2))))) (dec (enc (dec x.2*dec y.2))))=br (bF x+bF y):=by
 obtain⟨h1,h2,h3⟩:=h;simp only[b5,h1.d1,h1.d2,h2.d1,h2.d2];rw[nU]
theorem JV{x:ND}(h:NOK x/\lq (bF x)<=QC):Lim x.1.2/\List.length x.1.2<CAP:=
 ⟨h.1.w1.1.1,by have:=h.1.l1;have:=h.2;have:=vF;omega⟩
theorem Np{x:ND}(h:NOK x):((enc (-dec x.1)),x.2)=br (-bF x):=by
 obtain⟨p,rfl⟩:=h.ex;rw[aQ];simp only[br,b5,Rat.neg_num,Rat.neg_den]
theorem JW{x y:ND}(h:ie x y):(NOK y/\lq (bF y)<=QC)/\ie x (br (-bF y)):=by
 obtain⟨h1,h2,h3⟩:=h;exact⟨⟨h2,by omega⟩,h1,cd _,by rw[aQ,vC];exact h3⟩
theorem Nq(x y:ND):br (bF x+bF (br (-bF y)))=br (bF x-bF y):=by
 rw[aQ,Rat.sub_eq_add_neg]
theorem JX{x y:ND}(h:ie x y):(WOK x.1/\WOK y.1/\List.length x.1.2+List.length y.1.2<CAP)/\
  (WOK x.2/\WOK y.2/\List.length x.2.2+List.length y.2.2<CAP)/\iO (enc (dec x.1*dec y.1)) (enc (dec x.2*dec y.2)):=by
 obtain⟨h1,h2,h3⟩:=h;obtain⟨p,rfl⟩:=h1.ex;obtain⟨q,rfl⟩:=h2.ex;rw[aQ,aQ] at h3;simp only[br,iO,b5,lwl];have a1:=dN p;have a2:=dO p;have a3:=dN q;have a4:=dO q;have m1:=bZ p.num q.num;have m3:=bZ p.den q.den;have hc:=vF;exact⟨⟨enc_ok _,enc_ok _,by omega⟩,⟨enc_ok _,enc_ok _,by omega⟩,enc_ok _,enc_ok _,Int.mul_ne_zero (fv p) (fv q),by omega⟩
theorem Nr{x y:ND}(h:ie x y):br (Rat.divInt (dec (enc (dec x.1*dec y.1))) (dec (enc (dec x.2*dec y.2))))=br (bF x*bF y):=by
 obtain⟨h1,h2,h3⟩:=h;simp only[b5,h1.d1,h1.d2,h2.d1,h2.d2];rw[nV]
theorem JY{x y:ND}(h:ie x y/\bF y≠0):(WOK x.1/\WOK y.2/\List.length x.1.2+List.length y.2.2<CAP)/\
  (WOK x.2/\WOK y.1/\List.length x.2.2+List.length y.1.2<CAP)/\iO (enc (dec x.1*dec y.2)) (enc (dec x.2*dec y.1)):=by
 obtain⟨⟨h1,h2,h3⟩,h0⟩:=h;obtain⟨p,rfl⟩:=h1.ex;obtain⟨q,rfl⟩:=h2.ex;rw[aQ,aQ] at h3;rw[aQ] at h0;simp only[br,iO,b5,lwl];have a1:=dN p;have a2:=dO p;have a3:=dN q;have a4:=dO q;have m1:=bZ p.num q.den;have m3:=bZ p.den q.num;have hc:=vF;exact⟨⟨enc_ok _,enc_ok _,by omega⟩,⟨enc_ok _,enc_ok _,by omega⟩,enc_ok _,enc_ok _,Int.mul_ne_zero (fv p) (zg h0),by omega⟩
theorem Ns{x y:ND}(h:ie x y):br (Rat.divInt (dec (enc (dec x.1*dec y.2))) (dec (enc (dec x.2*dec y.1))))=br (bF x/bF y):=by
 obtain⟨h1,h2,h3⟩:=h;simp only[b5,h1.d1,h1.d2,h2.d1,h2.d2];rw[vB]
theorem Nt{n d:Int}(h:I64 n/\I64 d/\d≠0):I64 n/\I64 d/\iO (enc n) (enc d):=by
 refine⟨h.1,h.2.1,enc_ok _,enc_ok _,by rw[b5];exact h.2.2,?_⟩;have:=(mM h.1).2.2;have:=(mM h.2.1).2.2;unfold QC;omega
theorem QO(n d:Int):br (Rat.divInt (dec (enc n)) (dec (enc d)))=br (Rat.divInt n d):=by rw[b5,b5]
theorem zero_divInt:Rat.divInt 0 1=0:=by decide
theorem Nu{n:Nat}(h:0<n):((limbs n).length=1/\(limbs n).getD 0 0=1)↔n=1:=by
 constructor
 ·rintro⟨h1,h2⟩;match hl:limbs n,h1 with
  | [a],_=>
   rw[hl] at h2;simp at h2;have:=limbs_val n;rw[hl,h2] at this;simp[valL] at this;omega
 ·rintro rfl;have:limbs 1= [1]:=by decide+kernel
  rw[this];simp
theorem Fs{x:ND}(h:NOK x):(((List.length x.2.2:Int)==1)&&(nth (.int .u32) x.2.2 0==1))=decide ((bF x).den=1):=by
 obtain⟨p,rfl⟩:=h.ex;rw[aQ];have h1:=Nu p.den_pos;rw[Bool.eq_iff_iff,Bool.and_eq_true,decide_eq_true_eq,<- h1];have e:(br p).2.2=limbs p.den:=by show limbs ((p.den:Int).natAbs)=_;rw[Int.natAbs_natCast]
 rw[e];constructor;·rintro⟨h2,h3⟩;simp only[beq_iff_eq] at h2;have h4:=beq_iff_eq.1 h3;exact⟨by omega,h4⟩
 ·rintro⟨h2,h3⟩;refine⟨by simp only[beq_iff_eq];omega,?_⟩;rw[beq_iff_eq];exact h3
theorem kY{x:ND}(h:NOK x/\lq (bF x)<=QC):(WOK x.1/\List.length x.1.2<CAP)/\(WOK x.2/\List.length x.2.2<CAP):=by
 have:=h.1.l1;have:=h.1.l2;have:=h.2;have:=vF;exact⟨⟨h.1.w1,by omega⟩,h.1.w2,by omega⟩
theorem JZ{x:ND}(k:Int)(h:NOK x):(decide (c7 (dec x.1)<=k)&&decide (c7 (dec x.2)<=k))=decide (c7 (bF x).num<=k/\c7 ((bF x).den:Int)<=k):=by
 rw[h.d1,h.d2,Bool.decide_and]
def aU(q:Rat):List UInt8:=if q.den=1 then Lib.itoa q.num else Lib.itoa q.num++ [47]++Lib.itoa (q.den:Int)
theorem gI(n:Int):(Lib.itoa n).length<=9*lw n+2:=by
 have h1:=qU n;rw[Qs] at h1;have h2:=zf (a:=n.natAbs) (k:=9*lw n) (by omega);have h3:(Lib.itoa n).length<=(Lib.decDigits n.natAbs).length+1:=by
  unfold Lib.itoa;split
  ·(have:(-n).toNat=n.natAbs:=by omega);simp[this]
  ·(have:n.toNat=n.natAbs:=by omega);simp[this]
 omega
theorem BI{x:ND}(h:NOK x/\lq (bF x)<=QC):WOK x.1/\List.length x.1.2<CAP:=(kY h).1
theorem BJ{x:ND}(h:NOK x/\lq (bF x)<=QC):(WOK x.1/\List.length x.1.2<CAP)/\(Lib.itoa (dec x.1)).length+1<=maxLen/\(WOK x.2/\List.length x.2.2<CAP)/\(Lib.itoa (dec x.1)++ [47]).length+(Lib.itoa (dec x.2)).length<=maxLen:=by
 obtain⟨h1,h2⟩:=kY h;have e1:=gI (dec x.1);have e2:=gI (dec x.2);have e3:=h.1.l1;have e4:=h.1.l2;have e5:=h.2;rw[h1.1.lw] at e3;rw[h2.1.lw] at e4;have e6:QC=100000000000:=rfl;have e7:maxLen=9223372036854775807:=rfl;refine⟨h1,by omega,h2,?_⟩;simp only[List.length_append,List.length_cons,List.length_nil];omega
theorem J0{x:ND}(h:NOK x)(hb:(bF x).den=1):Lib.itoa (dec x.1)=aU (bF x):=by
 unfold aU;rw[if_pos hb,h.d1]
theorem J1{x:ND}(h:NOK x)(hb: ¬ (bF x).den=1):Lib.itoa (dec x.1)++ [47]++Lib.itoa (dec x.2)=aU (bF x):=by
 unfold aU;rw[if_neg hb,h.d1,h.d2]
def tN(q:List UInt8):List UInt8:=q.takeWhile (· !=47)
def bJ(q:List UInt8):Bool:=q.any (· ==47)
def tR(q:List UInt8):List UInt8:=q.drop ((tN q).length+1)
def tD(q:List UInt8):List UInt8:=if bJ q=true then tR q else [49]
theorem qV:∀ q:List UInt8,Lib.index q [47]=if bJ q=true then ((tN q).length:Int) else-1
 | []=>by simp[Lib.index,bJ]
 |b::l=>by
  have ih:=qV l;unfold Lib.index;by_cases hb:b=47;·subst hb;simp[bJ,tN]
  ·(have h1: [47].isPrefixOf (b::l)=false:=by simp[List.isPrefixOf,Ne.symm hb]);(have h2:bJ (b::l)=bJ l:=by simp[bJ,hb]);(have h3:(tN (b::l)).length=(tN l).length+1:=by simp[tN,hb]);rw[h1,ih,h2,h3];cases hs:bJ l;·simp
   ·simp only[if_true,Bool.false_eq_true,if_false];rw[if_neg (by intro e;have:=beq_iff_eq.1 e;omega)];omega
theorem vG{q:List UInt8}(h:bJ q=false):tN q=q:=by
 unfold tN;induction q with
 |nil=>rfl
 |cons c l ih=>
  simp only[bJ,List.any_cons,Bool.or_eq_false_iff,beq_eq_false_iff_ne] at h;rw[List.takeWhile_cons,if_pos (by simp[h.1]),ih h.2]
theorem J2(q:List UInt8):Lib.cut q [47]=(tN q,if bJ q=true then tR q else [],bJ q):=by
 unfold Lib.cut;rw[qV];cases hs:bJ q;·rw[vG hs];simp
 ·simp only[if_true];rw[if_pos (by omega),Int.toNat_natCast];have:q.take (tN q).length=tN q:=by
   unfold tN;exact(List.prefix_iff_eq_take.1 (List.takeWhile_prefix _)).symm
  rw[this];rfl
theorem nX(q:List UInt8):(tN q).length<=q.length:=(List.takeWhile_prefix _).length_le
theorem S7(q:List UInt8):(tR q).length<=q.length:=by unfold tR;simp
theorem nY(q:List UInt8):(tD q).length<=q.length+1:=by
 unfold tD;split;·have:=S7 q;omega
 ·simp
def QL:Nat:=1000000000
def e9(q:List UInt8):Prop:=RF (tN q)/\RF (tD q)/\q.length<=QL
def iA(q:List UInt8):ND:=(enc (al (tN q)),enc (al (tD q)))
def cx(q:List UInt8):Int:=
 if chk (tN q)=5∨chk (tD q)=5 then 5
 else if bJ q=true/\(al (tD q)<=1∨cg (al (tN q)) (al (tD q))≠1) then 5
 else if 2000<c7 (al (tN q))∨2000<c7 (al (tD q)) then 6 else 0
def bm(q:List UInt8):Rat:=Rat.divInt (al (tN q)) (al (tD q))
def RQ(q:List UInt8):Prop:=cx q≠5/\q.length<=QL
theorem RQ.form{q:List UInt8}(h:RQ q):e9 q:=by
 have h1:=h.1;unfold cx at h1;split at h1;·exact absurd rfl h1
 ·rename_i h2;exact⟨fun e=>h2 (.inl e),fun e=>h2 (.inr e),h.2⟩
theorem mQ:al [49]=1:=by decide
theorem RQ.red{q:List UInt8}(h:RQ q):0<al (tD q)/\cg (al (tN q)) (al (tD q))=1:=by
 have h1:=h.1;unfold cx at h1;split at h1;·exact absurd rfl h1
 ·split at h1;·exact absurd rfl h1
  ·rename_i h2 h3;cases hs:bJ q
   ·(have:tD q= [49]:=by unfold tD;rw[hs];rfl);rw[this,mQ];exact⟨by decide,by unfold cg;simp⟩
   ·rw[hs] at h3;have h4: ¬al (tD q)<=1:=fun e=>h3 ⟨rfl,.inl e⟩;have h5:cg (al (tN q)) (al (tD q))=1:=Decidable.not_not.1 fun e=>h3 ⟨rfl,.inr e⟩;exact⟨by omega,h5⟩
theorem RQ.raw{q:List UInt8}(h:RQ q):iA q=br (bm q):=by
 obtain⟨h1,h2⟩:=h.red;unfold iA bm;have hd:al (tD q)≠0:=by omega
 rw[BH hd];unfold dP;rw[if_neg (by omega),h2]
theorem RQ.parts{q:List UInt8}(h:RQ q):(bm q).num=al (tN q)/\((bm q).den:Int)=al (tD q):=by
 have h1:=h.raw;unfold iA br at h1;have h2:=congrArg (fun x:ND=>dec x.1) h1;have h3:=congrArg (fun x:ND=>dec x.2) h1;simp only[b5] at h2 h3;exact⟨h2.symm,h3.symm⟩
theorem Ft{s:List UInt8}(h:RF s):lw (al s)<=s.length:=by
 obtain⟨h1,_,_⟩:=iW h;refine l6 ?_;rw[jf];have h2:=ix h1;have h3:(10:Nat)^(aw s [45]).length<=10^s.length:=Nat.pow_le_pow_right (by omega) (fA s _);have h4:(10:Nat)^s.length<=1000000000^s.length:=Nat.pow_le_pow_left (by omega) _;have h5:(LB^s.length:Int)=((1000000000^s.length:Nat):Int):=by rw[Int.natCast_pow];rfl
 rw[h5];omega
theorem e9.lens{q:List UInt8}(h:e9 q):lw (al (tN q))<=QL/\lw (al (tD q))<=QL+1:=by
 have h1:=Ft h.1;have h2:=Ft h.2.1;have h3:=nX q;have h4:=nY q;have h5:=h.2.2;omega
def mb(q:List UInt8):ND×Int:=if cx q=0 then (br (bm q),0) else (((false,[]),(false,[])),cx q)
theorem QP{a:Int}:bg a 1<=0↔a<=1:=by
 unfold bg;split;·constructor<;>omega
 ·split;·constructor<;>omega
  ·constructor<;>omega
theorem Nv{a b:Int}:bg a b≠0↔a≠b:=by
 unfold bg;split;·constructor<;>omega
 ·split;·constructor<;>omega
  ·constructor<;>omega
theorem xE{D:List UInt8}{r:Nat}(hr:0<(D.length:Int)-9*(r:Int))(hl:D.length<1000000000000):
  IntKind.i64.wrap ((D.length:Int)-9*(r:Int)-9)=(D.length:Int)-9*(r:Int)-9/\Int.toNat (max 0 ((D.length:Int)-9*(r:Int)-9))=D.length-9*(r+1)/\Int.toNat ((D.length:Int)-9*(r:Int))=D.length-9*r:=
 ⟨wo,by omega,by omega⟩
theorem mc{q:List UInt8}(h:bJ q=true):(if bJ q=true then tR q else [])=tD q:=by unfold tD;rw[if_pos h,if_pos h]
theorem zh{q:List UInt8}(h:bJ q=false): [49]=tD q:=by unfold tD;rw[if_neg (by rw[h];decide)]
theorem pT{q:List UInt8}(h:e9 q):q.length<4294967281/\(RF (tN q)/\(tN q).length<CAP)/\(RF (tD q)/\(tD q).length<CAP):=by
 obtain⟨h1,h2,h3⟩:=h;have h4:=nX q;have h5:=nY q;have e1:QL=1000000000:=rfl;have e2:CAP=1000000000000:=rfl;exact⟨by omega,⟨h1,by omega⟩,h2,by omega⟩
theorem Nw{q:List UInt8}(h:bJ q=false):(((enc (al (tN q))).1,(enc (al (tN q))).2),(enc 1).1,(enc 1).2)=iA q:=by
 unfold iA;rw[<- zh h,mQ]
theorem Nx{q:List UInt8}(h:q.length<=QL):oM (tN q)/\oM (tD q):=by
 have h4:=nX q;have h5:=nY q;have e1:QL=1000000000:=rfl;unfold oM;exact⟨by omega,by omega⟩
theorem lone:(enc 1).2.length=1:=kX
theorem T2{q:List UInt8}(h:e9 q):List.length (enc (al (tD q))).2+List.length (enc 1).2<CAP:=by
 have:=h.lens;have e1:QL=1000000000:=rfl;have e2:CAP=1000000000000:=rfl;rw[lwl,lone];omega
theorem S8{q:List UInt8}(h:e9 q):pN (enc (al (tN q))) (enc (al (tD q))):=by
 have:=h.lens;have e1:QL=1000000000:=rfl;refine⟨enc_ok _,enc_ok _,?_⟩;rw[lwl,lwl];unfold CAP;omega
theorem T3{q:List UInt8}(h:e9 q):List.length (enc (cg (al (tN q)) (al (tD q)))).2+List.length (enc 1).2<CAP:=by
 have h1:=h.lens;have e1:QL=1000000000:=rfl;have e2:CAP=1000000000000:=rfl;rw[lwl,lone];have h2:lw (cg (al (tN q)) (al (tD q)))<=lw (al (tN q))+lw (al (tD q)):=by
  by_cases hd:al (tD q)=0
  ·(have:cg (al (tN q)) (al (tD q))=((al (tN q)).natAbs:Int):=by unfold cg;rw[hd];simp);rw[this];have:=gH (a:=((al (tN q)).natAbs:Int)) (b:=al (tN q)) (by simp);omega
  ·have:=gH (oS (n:=al (tN q)) hd);omega
 omega
theorem QQ{q:List UInt8}(h:q.length<=QL)(hb:(chk (tN q)==5||chk (tD q)==5)=false):e9 q:=by
 simp only[Bool.or_eq_false_iff,beq_eq_false_iff_ne] at hb;exact⟨hb.1,hb.2,h⟩
theorem QR{q:List UInt8}(hb:(chk (tN q)==5||chk (tD q)==5)=true):((((false,[]),false,[]),5):ND×Int)=mb q:=by
 simp only[Bool.or_eq_true,beq_iff_eq] at hb;have:cx q=5:=by unfold cx;rw[if_pos hb]
 unfold mb;rw[this];rfl
theorem e9.not{q:List UInt8}(h:e9 q): ¬ (chk (tN q)=5∨chk (tD q)=5):=fun e=>e.elim h.1 h.2.1
theorem Hg(q:List UInt8):(decide (bg (al (tD q)) 1<=0)||bg (cg (al (tN q)) (al (tD q))) 1 !=0)=true↔(al (tD q)<=1∨cg (al (tN q)) (al (tD q))≠1):=by
 rw[Bool.or_eq_true,decide_eq_true_eq,bne_iff_ne,QP,Nv]
theorem QS{q:List UInt8}(h:e9 q)(hb:bJ q=true/\(decide (bg (al (tD q)) 1<=0)||bg (cg (al (tN q)) (al (tD q))) 1 !=0)=true):((((false,[]),false,[]),5):ND×Int)=mb q:=by
 rw[Hg] at hb;have:cx q=5:=by unfold cx;rw[if_neg h.not,if_pos hb]
 unfold mb;rw[this];rfl
theorem T4{q:List UInt8}(h:e9 q)(hb:bJ q=true->(decide (bg (al (tD q)) 1<=0)||bg (cg (al (tN q)) (al (tD q))) 1 !=0)=false):RQ q:=by
 refine⟨?_,h.2.2⟩;unfold cx;rw[if_neg h.not,if_neg (fun e=>by have:=hb e.1;rw[(Hg q).2 e.2] at this;cases this)];split<;>decide
theorem S9{q:List UInt8}(h:RQ q):lq (bm q)<=QC:=by
 have h1:=h.form.lens;have h2:=h.parts;unfold lq;rw[h2.1,h2.2];have e1:QL=1000000000:=rfl;have e2:QC=100000000000:=rfl;omega
theorem Fu{q:List UInt8}(h:RQ q):bF (iA q)=bm q:=by rw[h.raw,aQ]
theorem QT{q:List UInt8}(h:RQ q):NOK (iA q)/\lq (bF (iA q))<=QC:=by
 rw[Fu h,h.raw];exact⟨cd _,S9 h⟩
theorem RQ.chk{q:List UInt8}(h:RQ q):cx q=if 2000<c7 (al (tN q))∨2000<c7 (al (tD q)) then 6 else 0:=by
 have h1:=h.1;revert h1;unfold cx;split;·intro h1;exact absurd rfl h1
 ·split;·intro h1;exact absurd rfl h1
  ·intro _;rfl
theorem T5{q:List UInt8}(h:RQ q)(hb:c7 (bF (iA q)).num<=2000/\c7 ((bF (iA q)).den:Int)<=2000):(iA q,(0:Int))=mb q:=by
 rw[Fu h,h.parts.1,h.parts.2] at hb;have:cx q=0:=by rw[h.chk,if_neg (by omega)]
 unfold mb;rw[if_pos this,h.raw]
theorem Ta{q:List UInt8}(h:RQ q)(hb: ¬ (c7 (bF (iA q)).num<=2000/\c7 ((bF (iA q)).den:Int)<=2000)):((((false,[]),false,[]),6):ND×Int)=mb q:=by
 rw[Fu h,h.parts.1,h.parts.2] at hb;have:cx q=6:=by rw[h.chk,if_pos (by omega)]
 unfold mb;rw[this];rfl
theorem J3(q:List UInt8):(mb q).2=cx q:=by
 unfold mb;split;·rename_i h;exact h.symm
 ·rfl
def gJ(q:Rat):Bool:=decide (c7 q.num<=2000/\c7 (q.den:Int)<=2000)
def qW(q:Rat):Int:=if gJ q=true then 0 else 6
def dS(l:List ND):Bool:=l.all fun x=>gJ (bF x)
theorem ea{t:Ty}{l:List t.D}{k:Nat}(h:k<l.length):nth t l (k:Int)=l[k]:=by
 unfold nth;simp[h]
theorem eH{t:Ty}{l:List t.D}{k:Nat}(h:k<l.length):nth t l (k:Int)∈l:=by rw[ea h];exact List.getElem_mem h
theorem BK{t:Ty}{β:Type}(f:t.D->β){l:List t.D}{k:Nat}(h:k<l.length):(l.take k).map f++ [f (nth t l (k:Int))]=(l.take (k+1)).map f:=by
 rw[ea h,List.take_succ_eq_append_getElem h,List.map_append];rfl
theorem vH{n:Nat}(h:n<=1000000001):Cm.Roomy 4 n:=by unfold Cm.Roomy;omega
theorem zi{n:Nat}(h:n<=1000000001):Cm.Roomy 1 n:=by unfold Cm.Roomy;omega
theorem list_round{l:List (List UInt8)}{k:Nat}(h:k<l.length)(hl:l.length<QL):∃ z:Nat,IntKind.i64.wrap ((k:Int)+1)=(z:Int)/\List.map iA (l.take k)++ [iA (nth .str l (k:Int))]=List.map iA (l.take z)/\z<=l.length/\l.length-z<l.length-k:=by
 have e1:QL=1000000000:=rfl;exact⟨k+1,by rw[wo];omega,BK (t:= .str) iA h,by omega,by omega⟩
theorem J4{l:List ND}{k:Nat}(h:k<l.length)(hk:dS (l.take k)=true):dS (l.take (k+1))=gJ (bF (nth NT l (k:Int))):=by
 rw[List.take_succ_eq_append_getElem h];unfold dS at hk ⊢;rw[List.all_append,hk,ea (t:=NT) h];simp
theorem BL{l:List ND}{k:Nat}(h:k<l.length)(hl:l.length<QL)(hk:dS (l.take k)=true)(hb:c7 (bF (nth NT l (k:Int))).num<=2000/\c7 ((bF (nth NT l (k:Int))).den:Int)<=2000):
  ∃ z:Nat,IntKind.i64.wrap ((k:Int)+1)=(z:Int)/\List.map (fun x=>aU (bF x)) (l.take k)++ [aU (bF (nth NT l (k:Int)))]=List.map (fun x=>aU (bF x)) (l.take z)/\z<=l.length/\dS (l.take z)=true/\l.length-z<l.length-k:=by
 have e1:QL=1000000000:=rfl;exact⟨k+1,by rw[wo];omega,BK (t:=NT) (fun x=>aU (bF x)) h,by omega,by rw[J4 h hk];exact decide_eq_true hb,by omega⟩
theorem J5{l:List ND}{k:Nat}(h:k<l.length)(hb: ¬ (c7 (bF (nth NT l (k:Int))).num<=2000/\c7 ((bF (nth NT l (k:Int))).den:Int)<=2000)):
  ([]=if dS l=true then List.map (fun x=>aU (bF x)) l else [])/\false=dS l:=by
 have:dS l=false:=by
  unfold dS;rw[List.all_eq_false];exact⟨_,eH (t:=NT) h,by unfold gJ;simpa using hb⟩
 rw[this];exact⟨rfl,rfl⟩
theorem J6{l:List ND}{k:Nat}(h: ¬k<l.length)(hk:dS (l.take k)=true):
  (List.map (fun x=>aU (bF x)) (l.take k)=if dS l=true then List.map (fun x=>aU (bF x)) l else [])/\true=dS l:=by
 rw[List.take_of_length_le (by omega)] at hk ⊢;rw[hk];exact⟨rfl,rfl⟩
def aL(l:List Rat):List ND:=l.map br
def ax(p:List ND):List Rat:=p.map bF
def Sz(k:Nat)(p:List ND):Prop:=∀ x∈p,NOK x/\lq (bF x)<=k
theorem aM(l:List Rat):ax (aL l)=l:=by
 simp only[ax,aL,List.map_map];conv=>rhs;rw[<- List.map_id l]
 exact List.map_congr_left fun x _=>aQ x
theorem Sz.enc{k:Nat}{p:List ND}(h:Sz k p):aL (ax p)=p:=by
 simp only[ax,aL,List.map_map];conv=>rhs;rw[<- List.map_id p]
 exact List.map_congr_left fun x hx=>(h x hx).1
theorem Sz.ex{k:Nat}{p:List ND}(h:Sz k p):∃ l,p=aL l/\∀ x∈l,lq x<=k:=by
 refine⟨ax p,h.enc.symm,fun x hx=> ?_⟩;obtain⟨y,hy,rfl⟩:=List.mem_map.1 hx;exact(h y hy).2
theorem fQ{k:Nat}{l:List Rat}(h:∀ x∈l,lq x<=k):Sz k (aL l):=by
 intro x hx;obtain⟨y,hy,rfl⟩:=List.mem_map.1 hx;exact⟨cd y,by rw[aQ];exact h y hy⟩
theorem Sz.mono{k m:Nat}{p:List ND}(h:Sz k p)(hm:k<=m):Sz m p:=fun x hx=>⟨(h x hx).1,Nat.le_trans (h x hx).2 hm⟩
theorem aH(l:List Rat):(aL l).length=l.length:=by simp[aL]
theorem aN(p:List ND):(ax p).length=p.length:=by simp[ax]
def aP:List Rat->List Rat
 | []=> []
 |x::l=>match aP l with
  | []=>if x=0 then [] else [x]
  |y::m=>x::y::m
theorem rp(l:List Rat):aP (l++ [0])=aP l:=by
 induction l with
 |nil=>simp[aP]
 |cons x l ih=>simp only[List.cons_append,aP,ih]
theorem Fv{l:List Rat}{x:Rat}(h:x≠0):aP (l++ [x])=l++ [x]:=by
 induction l with
 |nil=>simp[aP,h]
 |cons y l ih=>
  simp only[List.cons_append,aP,ih];cases hl:l++ [x] with
  |nil=>simp at hl
  |cons z m=>rfl
theorem nZ{l:List Rat}(h:l≠ [])(h0:l.getLastD 0≠0):aP l=l:=by
 obtain⟨m,x,rfl⟩:∃ m x,l=m++ [x]:=⟨l.dropLast,l.getLast h,(List.dropLast_concat_getLast h).symm⟩;refine Fv ?_;simpa using h0
theorem n9{l:List Rat}(h:l≠ [])(h0:l.getLastD 0=0):aP l=aP l.dropLast:=by
 obtain⟨m,x,rfl⟩:∃ m x,l=m++ [x]:=⟨l.dropLast,l.getLast h,(List.dropLast_concat_getLast h).symm⟩;have:x=0:=by simpa using h0
 subst this;rw[rp,List.dropLast_concat]
theorem sign_zero(q:Rat):bg q.num 0=0↔q=0:=by
 have:bg q.num 0=0↔q.num=0:=by
  have:=Nv (a:=q.num) (b:=0);constructor;·intro h;exact Decidable.not_not.1 fun e=>(this.2 e) h
  ·intro h;exact Decidable.not_not.1 fun e=>(this.1 e) h
 rw[this,Rat.num_eq_zero]
theorem rB{l:List Rat}{k:Nat}(h:k<l.length):nth NT (aL l) (k:Int)=br l[k]:=by
 rw[ea (t:=NT) (by rw[aH];exact h)];simp[aL]
theorem BM{l:List Rat}(h:0<l.length):bF (nth NT (aL l) ((l.length:Int)-1))=l.getLastD 0:=by
 have e:(l.length:Int)-1=((l.length-1:Nat):Int):=by omega
 rw[e,rB (by omega),aQ];rw[List.getLastD_eq_getLast?,List.getLast?_eq_getElem?,List.getElem?_eq_getElem (by omega)];rfl
theorem Fw{l:List Rat}:(aL l).take (l.length-1)=aL l.dropLast:=by
 simp only[aL,<- List.map_take,List.dropLast_eq_take]
theorem bW{n:Nat}(h:n<=1000000000):IntKind.i64.wrap ((n:Int)-1)=(n:Int)-1:=wo
theorem xF{l:List Rat}(hl:l.length<=1000000000):(decide ((0:Int)<((aL l).length:Int))=true->decide ((0:Int)<((aL l).length:Int))=true/\NOK (nth NT (aL l) (IntKind.i64.wrap (((aL l).length:Int)-1))))/\
  (decide ((0:Int)<((aL l).length:Int))=true->decide ((0:Int)<((aL l).length:Int))=true/\0<=IntKind.i64.wrap (((aL l).length:Int)-1)/\IntKind.i64.wrap (((aL l).length:Int)-1)<((aL l).length:Int)):=by
 rw[aH,bW hl];constructor
 ·intro h;have h1:=of_decide_eq_true h;have e:(l.length:Int)-1=((l.length-1:Nat):Int):=by omega
  exact⟨h,by rw[e,rB (by omega)];exact cd _⟩
 ·intro h;have h1:=of_decide_eq_true h;exact⟨h,by omega,by omega⟩
theorem Ny{l:List Rat}(hl:l.length<=1000000000)(hb:(0:Int)<((aL l).length:Int))(hc:bg (bF (nth NT (aL l) (IntKind.i64.wrap (((aL l).length:Int)-1)))).num 0=0):0<l.length/\l.getLastD 0=0:=by
 rw[aH] at hb hc;rw[bW hl,BM (by omega),sign_zero] at hc;exact⟨by omega,hc⟩
theorem Nz{l:List Rat}(hl:l.length<=1000000000)(hb:(0:Int)<((aL l).length:Int)-> ¬bg (bF (nth NT (aL l) (IntKind.i64.wrap (((aL l).length:Int)-1)))).num 0=0):aP l=l:=by
 rw[aH] at hb;by_cases h:l= [];·subst h;rfl
 ·have h1:=List.length_pos_iff.2 h;have h2:=hb (by omega);rw[bW hl,BM (by omega),sign_zero] at h2;exact nZ h h2
theorem xG{l l0:List Rat}(hl:l.length<=1000000000)(g1:l.length<=l0.length)(g2:∀ x∈l,lq x<=QC)(g3:aP l=aP l0)(h:0<l.length/\l.getLastD 0=0):
  List.take (IntKind.i64.wrap (((aL l).length:Int)-1)).toNat (aL l)=aL l.dropLast/\l.dropLast.length<=l0.length/\(∀ x∈l.dropLast,lq x<=QC)/\aP l.dropLast=aP l0/\l.dropLast.length<l.length:=by
 rw[aH,bW hl,show ((l.length:Int)-1).toNat=l.length-1 by omega];refine⟨Fw,by rw[List.length_dropLast];omega,fun x hx=>g2 x (List.dropLast_subset _ hx),?_,by rw[List.length_dropLast];omega⟩;rw[<- g3,n9 (List.length_pos_iff.1 h.1) h.2]
theorem QU{free fr:List Nat}(h:(free.all fun k=>fr.contains (k-ioB))=true):∀ k,ioB<=k->free.contains k=true->fr.contains (k-ioB)=true:=fun k _ hk=>
 List.all_eq_true.1 h k (by simpa using hk)
theorem NA{B:aj}{P:Program}{f:FuncId}{c:Con}{fr:List Nat}(h:Valid B P f c):Valid B P f c fr:=by
 intro args os C rs os' hc hC O w vals ρ0 hOn hIo hO hOI hargs hown hap;refine(h args os C rs os' hc hC O w vals ρ0 hOn hIo hO hOI hargs hown hap).mono ?_;rintro e w' ⟨vs,ρ1,h1,h2,h3,h4,h5⟩;exact⟨vs,ρ1,h1,h2,h3,fun k _=>h4 k (fun e=>by simp at e),h5⟩
def QH:Nat:=40000000000
def cf(l:List Rat)(i:Nat):Rat:=l.getD i 0
theorem gK{p:List ND}{k:Nat}{i:Nat}(h:Sz k p)(hi:i<p.length):nth NT p (i:Int)=br (cf (ax p) i):=by
 obtain⟨l,rfl,hl⟩:=h.ex;rw[aH] at hi;rw[rB hi,aM];unfold cf;rw[List.getD_eq_getElem?_getD,List.getElem?_eq_getElem hi];rfl
theorem NB{p:List ND}{i:Nat}(hi: ¬i<p.length):cf (ax p) i=0:=by
 unfold cf;rw[List.getD_eq_getElem?_getD,List.getElem?_eq_none (by rw[aN];omega)];rfl
theorem iX:lq 0<=1:=by
 unfold lq;rw[show (0:Rat).num=0 from rfl,show (0:Rat).den=1 from rfl,eN];show max 0 (lw 1)<=1;rw[kX];decide
theorem Sz.cf{p:List ND}{k:Nat}(h:Sz k p)(hk:1<=k)(i:Nat):lq (cf (ax p) i)<=k:=by
 by_cases hi:i<p.length
 ·have h1:=gK h hi;have h2:=(h _ (eH (t:=NT) hi)).2;rw[h1,aQ] at h2;exact h2
 ·rw[NB hi];exact Nat.le_trans iX hk
def bU(op:Rat->Rat->Rat)(l m:List Rat)(n:Nat):List Rat:=(List.range n).map fun i=>op (cf l i) (cf m i)
def bq(op:Rat->Rat->Rat)(l m:List Rat):List Rat:=aP (bU op l m (max l.length m.length))
theorem oT(op:Rat->Rat->Rat)(l m:List Rat)(k:Nat):bU op l m (k+1)=bU op l m k++ [op (cf l k) (cf m k)]:=by
 unfold bU;rw[List.range_succ,List.map_append];rfl
theorem pU(l:List Rat)(x:Rat):aL (l++ [x])=aL l++ [br x]:=by simp[aL]
theorem dn(op:Rat->Rat->Rat)(l m:List Rat)(k:Nat):(bU op l m k).length=k:=by simp[bU]
def QV(op:Rat->Rat->Rat):Prop:=∀ x y,lq (op x y)<=lq x+lq y+1
theorem BN:QV (· + ·):=pR
theorem BO:QV (· - ·):=S3
theorem zj{op:Rat->Rat->Rat}(ht:QV op){p q:List ND}(hp:Sz QH p)(hq:Sz QH q)(n:Nat):Sz QC (aL (bU op (ax p) (ax q) n)):=by
 refine fQ fun x hx=> ?_;obtain⟨i,_,rfl⟩:=List.mem_map.1 hx;have h1:=ht (cf (ax p) i) (cf (ax q) i);have h2:=hp.cf (by unfold QH;omega) i;have h3:=hq.cf (by unfold QH;omega) i;unfold QH at h2 h3;unfold QC;omega
theorem NC{p q:List ND}(hp:Sz QH p)(hq:Sz QH q)(i:Nat):ie (br (cf (ax p) i)) (br (cf (ax q) i)):=by
 refine⟨cd _,cd _,?_⟩;rw[aQ,aQ];have h2:=hp.cf (by unfold QH;omega) i;have h3:=hq.cf (by unfold QH;omega) i;unfold QH at h2 h3;unfold QC;omega
theorem SD:QH<=QC:=by unfold QH QC;omega
theorem Hh(p q:List ND)(hl:True):max ((p.length:Nat):Int) (q.length:Int)=((max p.length q.length:Nat):Int):=by omega
theorem xH{p q:List ND}(hp:Sz QH p)(hq:Sz QH q){k:Nat}(hk:k<=1000)(op:Rat->Rat->Rat):(Sz QC p/\(0:Int)<=(k:Int))/\(Sz QC q/\(0:Int)<=(k:Int))/\ie (br (cf (ax p) (k:Int).toNat)) (br (cf (ax q) (k:Int).toNat))/\Cm.Roomy 4 ((aL (bU op (ax p) (ax q) k)).length+1):=by
 rw[Int.toNat_natCast];exact⟨⟨hp.mono SD,by omega⟩,⟨hq.mono SD,by omega⟩,NC hp hq k,vH (by rw[aH,dn];omega)⟩
theorem vI{op:Rat->Rat->Rat}{p q:List ND}{k n:Nat}(h:k<n)(hn:n<=1000):∃ z:Nat,IntKind.i64.wrap ((k:Int)+1)=(z:Int)/\aL (bU op (ax p) (ax q) k)++ [br (op (bF (br (cf (ax p) (k:Int).toNat))) (bF (br (cf (ax q) (k:Int).toNat))))]=aL (bU op (ax p) (ax q) z)/\z<=n/\n-z<n-k:=by
 refine⟨k+1,by rw[wo];omega,?_,by omega,by omega⟩;rw[Int.toNat_natCast,aQ,aQ,oT,pU]
theorem vJ{op:Rat->Rat->Rat}(ht:QV op){p q:List ND}(hp:Sz QH p)(hq:Sz QH q){k:Nat}(hk:k<=1000):Sz QC (aL (bU op (ax p) (ax q) k))/\(aL (bU op (ax p) (ax q) k)).length<=QL:=
 ⟨zj ht hp hq k,by rw[aH,dn];unfold QL;omega⟩
theorem BP{op:Rat->Rat->Rat}{p q:List ND}{k:Nat}(h1:k<=max p.length q.length)(h: ¬ (k:Int)<((max p.length q.length:Nat):Int)):aL (aP (ax (aL (bU op (ax p) (ax q) k))))=aL (bq op (ax p) (ax q)):=by
 have e:k=max p.length q.length:=by omega
 unfold bq;rw[aM,aN,aN,<- e]
def QM:Nat:=400000000
def cL(out:List Rat)(i:Nat)(a:Rat)(q:List Rat):Nat->List Rat
 |0=>out
 |k+1=>(cL out i a q k).set (i+k) (cf (cL out i a q k) (i+k)+a*cf q k)
def mulN(p q:List Rat):Nat->List Rat
 |0=>List.replicate (p.length+q.length-1) 0
 |i+1=>cL (mulN p q i) i (cf p i) q q.length
def cu(p q:List Rat):List Rat:=if p= []∨q= [] then [] else mulN p q p.length
theorem jt(out:List Rat)(i:Nat)(a:Rat)(q:List Rat)(k:Nat):(cL out i a q k).length=out.length:=by
 induction k with
 |zero=>rfl
 |succ k ih=>rw[cL,List.length_set,ih]
theorem ew(p q:List Rat)(i:Nat):(mulN p q i).length=p.length+q.length-1:=by
 induction i with
 |zero=>simp[mulN]
 |succ i ih=>rw[mulN,jt,ih]
theorem NF(l:List Rat)(i j:Nat)(x:Rat):cf (l.set i x) j=if i=j/\i<l.length then x else cf l j:=by
 unfold cf;simp only[List.getD_eq_getElem?_getD,List.getElem?_set];by_cases h:i=j
 ·subst h;by_cases h2:i<l.length;·simp[h2]
  ·simp[h2,List.getElem?_eq_none (by omega:l.length<=i)]
 ·simp[h]
theorem vK{l:List Rat}{i:Nat}(h:i<l.length):cf l i∈l:=by
 unfold cf;rw[List.getD_eq_getElem?_getD,List.getElem?_eq_getElem h];exact List.getElem_mem h
theorem gL{l:List Rat}{k:Nat}(h:∀ x∈l,lq x<=k)(hk:1<=k)(i:Nat):lq (cf l i)<=k:=by
 by_cases hi:i<l.length
 ·exact h _ (vK hi)
 ·unfold cf;rw[List.getD_eq_getElem?_getD,List.getElem?_eq_none (by omega)];exact Nat.le_trans iX hk
theorem Tb{l:List Rat}{k:Nat}(h:∀ i,i<l.length->lq (cf l i)<=k):∀ x∈l,lq x<=k:=by
 intro x hx;obtain⟨i,hi,rfl⟩:=List.getElem_of_mem hx;have:=h i hi;unfold cf at this;rw[List.getD_eq_getElem?_getD,List.getElem?_eq_getElem hi] at this;exact this
theorem kZ(out:List Rat)(i:Nat)(a:Rat)(q:List Rat)(k n:Nat)(hl:i+k<=out.length):cf (cL out i a q k) n=if i<=n/\n<i+k then cf out n+a*cf q (n-i) else cf out n:=by
 induction k with
 |zero=>simp[cL];intro h1 h2;omega
 |succ k ih=>
  have ih:=ih (by omega);rw[cL,NF,jt];by_cases h:i+k=n
  ·rw[if_pos ⟨h,by omega⟩];have e:cf (cL out i a q k) (i+k)=cf out (i+k):=by
    have h2:∀ n,n=i+k->cf (cL out i a q k) n=cf out n:=by
     intro n hn;have:=ih;clear this;rw[show cf (cL out i a q k) n=cf (cL out i a q k) n from rfl];subst hn;subst h;rw[ih,if_neg (by omega)]
    exact h2 _ rfl
   rw[e,h,if_pos (by omega),show n-i=k by omega]
  ·(rw[if_neg (by omega),ih];by_cases h2:i<=n/\n<i+k;·rw[if_pos h2,if_pos (by omega)]);·rw[if_neg h2,if_neg (by omega)]
theorem zn{out:List Rat}{i:Nat}{a:Rat}{q:List Rat}{k m K:Nat}(hl:i+k<=out.length)(h:∀ x∈out,lq x<=m)(hm:1<=m)(ha:lq a<=K)(hq:∀ n,lq (cf q n)<=K):∀ x∈cL out i a q k,lq x<=m+(2*K+1):=by
 refine Tb fun n hn=> ?_;rw[kZ _ _ _ _ _ _ hl];have h1:=gL h hm n;split;·have h2:=pR (cf out n) (a*cf q (n-i));have h3:=l8 a (cf q (n-i));have h4:=hq (n-i);omega
 ·omega
theorem NG{p q:List Rat}{K:Nat}(hp:∀ n,lq (cf p n)<=K)(hq:∀ n,lq (cf q n)<=K):∀ i,i<=p.length->∀ x∈mulN p q i,lq x<=1+i*(2*K+1):=by
 intro i;induction i with
 |zero=>
  intro _ x hx;rw[mulN] at hx;rw[(List.mem_replicate.1 hx).2];exact Nat.le_trans iX (by omega)
 |succ i ih=>
  intro hi x hx;rw[mulN] at hx;by_cases hq0:q= [];·subst hq0;have:=ih (by omega) x hx;rw[Nat.succ_mul];omega
  ·have hql:=List.length_pos_iff.2 hq0;have:=zn (by rw[ew];omega) (ih (by omega)) (by omega) (hp i) hq x hx;rw[Nat.succ_mul];omega
theorem BQ(n:Nat)(x:Rat):aL (List.replicate n x)=List.replicate n (br x):=by simp[aL]
theorem vL(l:List Rat)(i:Nat)(x:Rat):(aL l).set i (br x)=aL (l.set i x):=by simp[aL,List.map_set]
theorem NH{p q:List ND}(h:(((p.length:Int)==0)||((q.length:Int)==0))=false):0<p.length/\0<q.length:=by
 simp only[Bool.or_eq_false_iff,beq_eq_false_iff_ne] at h;omega
theorem J7{p q:List ND}(h:(((p.length:Int)==0)||((q.length:Int)==0))=true): []=aL (cu (ax p) (ax q)):=by
 simp only[Bool.or_eq_true,beq_iff_eq] at h;unfold cu;rw[if_pos (h.imp (fun h=>List.eq_nil_of_length_eq_zero (by rw[aN];omega)) (fun h=>List.eq_nil_of_length_eq_zero (by rw[aN];omega)))];rfl
theorem xI{p q:List ND}(hl1:p.length<=100)(hl2:q.length<=100)(h:0<p.length/\0<q.length):IntKind.i64.wrap (IntKind.i64.wrap ((p.length:Int)+(q.length:Int))-1)=((p.length+q.length-1:Nat):Int):=by
 rw[wi (x:=(p.length:Int)+(q.length:Int)) (by omega) (by omega),wo];omega
theorem times_start(p q:List ND):List.replicate (p.length+q.length-1) (br 0)=aL (mulN (ax p) (ax q) 0):=by
 rw[mulN,BQ,aN,aN]
theorem pV{p q:List ND}(hp:Sz QM p)(hq:Sz QM q)(hl:p.length<=100)(h0:0<p.length/\0<q.length){i k:Nat}(hi:i<p.length)(hk:k<=q.length):∀ x∈cL (mulN (ax p) (ax q) i) i (cf (ax p) i) (ax q) k,lq x<=81000000000:=by
 intro x hx;have e:QM=400000000:=rfl;have h1:=NG (p:=ax p) (q:=ax q) (K:=QM) (fun n=>hp.cf (by omega) n) (fun n=>hq.cf (by omega) n) i (by rw[aN];omega);have h2:=zn (q:=ax q) (k:=k) (by rw[ew,aN,aN];omega) h1 (by omega) (hp.cf (by omega) i) (fun n=>hq.cf (by omega) n) x hx;have h3:i*(2*QM+1)<=99*(2*QM+1):=Nat.mul_le_mul_right _ (by omega);omega
theorem Fx{p q:List ND}(hp:Sz QM p)(hq:Sz QM q)(hl:p.length<=100)(hl2:q.length<=100)(h0:0<p.length/\0<q.length){i k:Nat}(hi:i<p.length)(hk:k<q.length):
  IntKind.i64.wrap ((i:Int)+(k:Int))=((i+k:Nat):Int)/\i+k<(aL (cL (mulN (ax p) (ax q) i) i (cf (ax p) i) (ax q) k)).length/\ie (br (cf (ax p) i)) (br (cf (ax q) k))/\
  ie (nth NT (aL (cL (mulN (ax p) (ax q) i) i (cf (ax p) i) (ax q) k)) ((i+k:Nat):Int)) (br (cf (ax p) i*cf (ax q) k)):=by
 have hlen:(cL (mulN (ax p) (ax q) i) i (cf (ax p) i) (ax q) k).length=p.length+q.length-1:=by rw[jt,ew,aN,aN]
 have e:QM=400000000:=rfl;have e2:QC=100000000000:=rfl;have ha:=hp.cf (by omega) i;have hb:=hq.cf (by omega) k;have hm:=l8 (cf (ax p) i) (cf (ax q) k);have hx:=pV hp hq hl h0 hi (Nat.le_of_lt hk) _ (vK (by rw[hlen];omega:i+k<(cL (mulN (ax p) (ax q) i) i (cf (ax p) i) (ax q) k).length));refine⟨by rw[wo];omega,by rw[aH,hlen];omega,⟨cd _,cd _,by rw[aQ,aQ];omega⟩,?_⟩;have hn:nth NT (aL (cL (mulN (ax p) (ax q) i) i (cf (ax p) i) (ax q) k)) ((i+k:Nat):Int)=br (cf (cL (mulN (ax p) (ax q) i) i (cf (ax p) i) (ax q) k) (i+k)):=by
  have:=gK (p:=aL (cL (mulN (ax p) (ax q) i) i (cf (ax p) i) (ax q) k)) (i:=i+k) (fQ (pV hp hq hl h0 hi (Nat.le_of_lt hk))) (by rw[aH,hlen];omega);rw[aM] at this;exact this
 rw[hn];exact⟨cd _,cd _,by rw[aQ,aQ];omega⟩
theorem vM{p q:List ND}(hp:Sz QM p)(hq:Sz QM q)(hl:p.length<=100)(hl2:q.length<=100)(h0:0<p.length/\0<q.length){i k:Nat}(hi:i<p.length)(hk:k<q.length):
  ∃ z:Nat,IntKind.i64.wrap ((k:Int)+1)=(z:Int)/\
   (aL (cL (mulN (ax p) (ax q) i) i (cf (ax p) i) (ax q) k)).set (i+k) (br (bF (nth NT (aL (cL (mulN (ax p) (ax q) i) i (cf (ax p) i) (ax q) k)) ((i+k:Nat):Int))+cf (ax p) i*cf (ax q) k))=aL (cL (mulN (ax p) (ax q) i) i (cf (ax p) i) (ax q) z)/\z<=q.length/\q.length-z<q.length-k:=by
 have hlen:(cL (mulN (ax p) (ax q) i) i (cf (ax p) i) (ax q) k).length=p.length+q.length-1:=by rw[jt,ew,aN,aN]
 have hn:nth NT (aL (cL (mulN (ax p) (ax q) i) i (cf (ax p) i) (ax q) k)) ((i+k:Nat):Int)=br (cf (cL (mulN (ax p) (ax q) i) i (cf (ax p) i) (ax q) k) (i+k)):=by
  have:=gK (p:=aL (cL (mulN (ax p) (ax q) i) i (cf (ax p) i) (ax q) k)) (i:=i+k) (fQ (pV hp hq hl h0 hi (Nat.le_of_lt hk))) (by rw[aH,hlen];omega);rw[aM] at this;exact this
 refine⟨k+1,by rw[wo];omega,?_,by omega,by omega⟩;rw[hn,aQ,vL,cL]
theorem NI(l:List Rat)(i:Nat):l.set i (cf l i)=l:=by
 apply List.ext_getElem?;intro j;rw[List.getElem?_set];by_cases h:i=j
 ·subst h;rw[if_pos rfl];unfold cf;by_cases h2:i<l.length;·rw[if_pos h2,List.getD_eq_getElem?_getD,List.getElem?_eq_getElem h2];rfl
  ·rw[if_neg h2,List.getElem?_eq_none (by omega)]
 ·rw[if_neg h]
theorem vN{p q:List ND}(hl2:q.length<=100){i k:Nat}(hk:k<q.length)(hz:cf (ax p) i*cf (ax q) k=0):
  ∃ z:Nat,IntKind.i64.wrap ((k:Int)+1)=(z:Int)/\aL (cL (mulN (ax p) (ax q) i) i (cf (ax p) i) (ax q) k)=aL (cL (mulN (ax p) (ax q) i) i (cf (ax p) i) (ax q) z)/\z<=q.length/\q.length-z<q.length-k:=by
 refine⟨k+1,by rw[wo];omega,?_,by omega,by omega⟩;rw[cL,hz,Rat.add_zero,NI]
theorem vO{a b:Rat}(h:(bg a.num 0 !=0)=true->bg b.num 0=0):a*b=0:=by
 by_cases ha:a=0
 ·rw[ha,Rat.zero_mul]
 ·have h1:bg a.num 0≠0:=fun e=>ha ((sign_zero a).1 e);have:=h (by rw[bne_iff_ne];exact h1);rw[(sign_zero b).1 this,Rat.mul_zero]
theorem J8{p q:List ND}(hl:p.length<=100){i k:Nat}(hi:i<p.length)(hk:k=q.length):∃ z:Nat,IntKind.i64.wrap ((i:Int)+1)=(z:Int)/\aL (cL (mulN (ax p) (ax q) i) i (cf (ax p) i) (ax q) k)=aL (mulN (ax p) (ax q) z)/\z<=p.length/\p.length-z<p.length-i:=by
 refine⟨i+1,by rw[wo];omega,?_,by omega,by omega⟩;rw[mulN,aN,hk]
theorem times_fin{p q:List ND}(h0:0<p.length/\0<q.length){i:Nat}(hi:i=p.length):aL (mulN (ax p) (ax q) i)=aL (cu (ax p) (ax q)):=by
 unfold cu;rw[if_neg,aN,hi];rintro(h|h);·have:=congrArg List.length h;rw[aN,List.length_nil] at this;omega
 ·have:=congrArg List.length h;rw[aN,List.length_nil] at this;omega
theorem QW{p q:List ND}(hl1:p.length<=100)(hl2:q.length<=100):(0:Int)<=((p.length+q.length-1:Nat):Int)/\((p.length+q.length-1:Nat):Int)<=1000:=by omega
def aE(l:List Rat):Rat:=l.getLastD 0
def cC(l:List Rat):List Rat:=l.map fun c=>c/aE l
theorem bG{l:List Rat}(h:0<l.length):aE l=cf l (l.length-1):=by
 unfold aE cf;rw[List.getLastD_eq_getLast?,List.getLast?_eq_getElem?,List.getD_eq_getElem?_getD]
theorem BR{p:List ND}{k:Nat}(h:Sz k p)(hp:0<p.length)(hl:p.length<=1000000000):nth NT p (IntKind.i64.wrap ((p.length:Int)-1))=br (aE (ax p)):=by
 rw[bW hl,show (p.length:Int)-1=((p.length-1:Nat):Int) by omega,gK h (by omega),bG (by rw[aN];omega),aN]
theorem rC{p:List ND}{k:Nat}(h:Sz k p)(hk:1<=k)(hp:0<p.length):lq (aE (ax p))<=k:=by
 rw[bG (by rw[aN];omega)];exact h.cf hk _
def pW(p:List ND):Prop:=Sz QH p/\p.length<=1000/\(p≠ []->aE (ax p)≠0)
theorem NJ{p:List ND}(h:pW p){k:Nat}(hk:k<p.length):nth NT p (k:Int)=br (cf (ax p) k)/\nth NT p (IntKind.i64.wrap ((p.length:Int)-1))=br (aE (ax p))/\(0<=IntKind.i64.wrap ((p.length:Int)-1)/\IntKind.i64.wrap ((p.length:Int)-1)<(p.length:Int))/\
  ie (br (cf (ax p) k)) (br (aE (ax p)))/\aE (ax p)≠0/\Cm.Roomy 4 ((aL ((ax p).take k|>.map fun c=>c/aE (ax p))).length+1):=by
 obtain⟨h1,h2,h3⟩:=h;have e:QH=40000000000:=rfl;have e2:QC=100000000000:=rfl;have h4:=h1.cf (by omega) k;have h5:=rC h1 (by omega) (by omega);refine⟨gK h1 hk,BR h1 (by omega) (by omega),by rw[bW (by omega)];omega,⟨cd _,cd _,by rw[aQ,aQ];omega⟩,h3 (by intro e;rw[e] at hk;simp at hk),?_⟩;refine vH ?_;rw[aH,List.length_map,List.length_take,aN];omega
theorem J9{p:List ND}(h:pW p){k:Nat}(hk:k<p.length):∃ z:Nat,IntKind.i64.wrap ((k:Int)+1)=(z:Int)/\aL ((ax p).take k|>.map fun c=>c/aE (ax p))++ [br (cf (ax p) k/aE (ax p))]=aL ((ax p).take z|>.map fun c=>c/aE (ax p))/\z<=p.length/\p.length-z<p.length-k:=by
 have hl:=h.2.1;refine⟨k+1,by rw[wo];omega,?_,by omega,by omega⟩;rw[<- pU,List.take_succ_eq_append_getElem (by rw[aN];exact hk),List.map_append];congr 2;unfold cf;rw[List.getD_eq_getElem?_getD,List.getElem?_eq_getElem (by rw[aN];exact hk)];rfl
theorem QX{p:List ND}{k:Nat}(hk:k=p.length):aL ((ax p).take k|>.map fun c=>c/aE (ax p))=aL (cC (ax p)):=by
 rw[List.take_of_length_le (by rw[aN];omega)];rfl
def nu(l:List Rat)(n:Nat):List Rat:=(List.range (n-1)).map fun i=>cf l (i+1)*Rat.divInt ((i+1:Nat):Int) 1
def bS(l:List Rat):List Rat:=nu l l.length
theorem Ka(l:List Rat)(k:Nat):nu l (k+1+1)=nu l (k+1)++ [cf l (k+1)*Rat.divInt ((k+1:Nat):Int) 1]:=by
 unfold nu;rw[show k+1+1-1=k+1 by omega,show k+1-1=k by omega,List.range_succ,List.map_append];rfl
theorem Tc{n:Int}(h:I64 n):lq (Rat.divInt n 1)<=3:=by
 have:=l7 n 1 (by decide);have h2:=Fp h;rw[kX] at this;omega
theorem NK{p:List ND}(h1:Sz QH p)(hl:p.length<=1000){k:Nat}(hk:k<p.length):(I64 (k:Int)/\I64 1/\(1:Int)≠0)/\nth NT p (k:Int)=br (cf (ax p) k)/\ie (br (cf (ax p) k)) (br (Rat.divInt (k:Int) 1))/\Cm.Roomy 4 ((aL (nu (ax p) k)).length+1):=by
 have hi:I64 (k:Int):=by unfold I64;omega
 have e:QH=40000000000:=rfl;have e2:QC=100000000000:=rfl;have h4:=h1.cf (by omega) k;have h5:=Tc hi;refine⟨⟨hi,by unfold I64;omega,by decide⟩,gK h1 hk,⟨cd _,cd _,by rw[aQ,aQ];omega⟩,vH ?_⟩;rw[aH];simp[nu];omega
theorem xJ{p:List ND}(hl:p.length<=1000){k:Nat}(hk:k<p.length)(h0:0<k):∃ z:Nat,IntKind.i64.wrap ((k:Int)+1)=(z:Int)/\aL (nu (ax p) k)++ [br (cf (ax p) k*Rat.divInt (k:Int) 1)]=aL (nu (ax p) z)/\z<=p.length/\p.length-z<p.length-k:=by
 refine⟨k+1,by rw[wo];omega,?_,by omega,by omega⟩;obtain⟨j,rfl⟩:∃ j,k=j+1:=⟨k-1,by omega⟩;rw[Ka,pU]
theorem BS{p:List ND}(hl:p.length<=1000){k:Nat}(hk:k<p.length)(h0:k=0):∃ z:Nat,IntKind.i64.wrap ((k:Int)+1)=(z:Int)/\aL (nu (ax p) k)=aL (nu (ax p) z)/\z<=p.length/\p.length-z<p.length-k:=by
 subst h0;exact⟨1,by rw[wo];omega,rfl,by omega,by omega⟩
def aF(l:List Rat)(x:Rat):Rat:=l.foldr (fun c v=>v*x+c) 0
theorem Hi{l:List Rat}{x:Rat}{K:Nat}(hl:∀ c∈l,lq c<=K)(hx:lq x<=K):lq (aF l x)<=1+l.length*(2*K+1):=by
 induction l with
 |nil=>exact Nat.le_trans iX (by omega)
 |cons c l ih=>
  have h1:=ih (fun d hd=>hl d (List.mem_cons_of_mem _ hd));have h2:=hl c (List.mem_cons_self ..);have e:aF (c::l) x=aF l x*x+c:=rfl;have h3:=pR (aF l x*x) c;have h4:=l8 (aF l x) x;rw[e,List.length_cons,Nat.succ_mul];omega
def QD:Nat:=10000000000
def cA(q r:List Rat):List Rat:=cL r (r.length-q.length) (-(aE r/aE q)) q q.length
def fq(q:List Rat):Nat->List Rat->List Rat->List Rat×List Rat
 |0,r,s=>(s,r)
 |n+1,r,s=>if q.length<=r.length then fq q n (aP (cA q r)) (s.set (r.length-q.length) (aE r/aE q)) else (s,r)
def divN(p q:List Rat):List Rat×List Rat:=fq q (p.length+1) p (List.replicate (p.length+1-q.length) 0)
def vP(q:List Rat):Nat->List Rat->Prop
 |0,_=>True
 |n+1,r=>(∀ x∈r,lq x<=QD)/\(q.length<=r.length->vP q n (aP (cA q r)))
structure fZ (p q:List ND):Prop where
 hp:∀ x∈p,NOK x
 hq:Sz QD q
 l1:p.length<=900
 l2:q.length<=900
 h0:0<q.length
 hl:aE (ax q)≠0
 safe:vP (ax q) (p.length+1) (ax p)
end Go.Cm
end