/- Merged by a program out of several texts. -/
import Derived.Test.YtdojbabpnaifoaaGreatDoorK2
import Derived.Lib.ItoaNum
import Derived.Shelf.Strings.BuilderK
import Derived.Shelf.Strconv.Itoa3
import Derived.Shelf.Pu.ParseUintPublic10
import Derived.Shelf.Strings.Repeat
import Derived.Test.YtdojbabpnaifoaaGreatDoorProg
import Derived.WalkKit
import Derived.BigCall
import Derived.Lib.Hide
import Derived.Shelf.Abstract
import Derived.RangeFuncBox
import Derived.OwnWalkIn
import Derived.TacticsInMore
import Derived.LoopNIn
import Derived.LoopIn
import Derived.Lib.IndexMore
import Derived.Laws.CopyOwn
import Derived.Deep.RegionLaw
import Derived.Shelf.Strings.Builder2
import Derived.Shelf.Small.Wraps
import Derived.Shelf.Strings.Builder2Cap
import Derived.Shelf.Strconv.Atoi
import Derived.Shelf.Strconv.AtoiErrFast
import Derived.Shelf.Strconv.ParseIntEmpty
import Derived.Shelf.Strconv.AtoiFail
import Derived.Shelf.Strconv.Clone
import Derived.Shelf.Strconv.SyntaxError
import Derived.Shelf.Strconv.Lower
import Derived.Shelf.Strconv.ParseUint10
import Derived.Shelf.Strconv.ParseUint10Empty
import Derived.Shelf.Strconv.RangeError
import Derived.Shelf.Strconv.ParseUintEmpty
import Derived.Shelf.Strconv.ParseUint10b64
import Derived.Shelf.Strconv.ParseUint10b32
import Derived.Shelf.Strconv.ParseUint10b16
import Derived.Shelf.Strconv.ParseUint10b8
import Derived.Shelf.Strings.Search1
import Derived.Shelf.Strings.Search2
import Derived.Shelf.Strings.Cut
import Derived.Shelf.Strings.Shaped
import Derived.Shelf.Bits.Mul64
import Derived.BigQuiet
set_option linter.all false
set_option linter.unusedSimpArgs false
set_option linter.unusedVariables false
set_option maxRecDepth 100000
section
namespace Go.Cm
def dec(x:Bool×List Int):Int:=if x.1=true then-valL x.2 else valL x.2
def enc(n:Int):Bool×List Int:=(decide (n<0),limbs n.natAbs)
def WOK(x:Bool×List Int):Prop:=Cano x.2/\(x.2= []->x.1=false)
theorem valL_pos{l:List Int}(h:Cano l):0<valL l↔l≠ []:=by
 constructor;·rintro h1 rfl;simp[valL] at h1
 ·intro hne;have h1:=valL_ge h hne;have h2:0<LB^(l.length-1):=Int.pow_pos (by decide);omega
theorem bG(n:Int):dec (enc n)=n:=by
 unfold dec enc;simp only[decide_eq_true_eq,limbs_val];split<;>omega
theorem enc_ok(n:Int):WOK (enc n):=by
 refine⟨limbs_can _,fun h=> ?_⟩;have:=limbs_nil.1 h;simp[enc];omega
theorem WOK.enc{x:Bool×List Int}(h:WOK x):enc (dec x)=x:=by
 obtain⟨s,l⟩:=x;obtain⟨h1,h2⟩:=h;simp only at h1 h2;have h3:=valL_nonneg h1.1;have h4:=valL_pos h1;unfold Cm.enc dec;cases s with
 |true=>
  have hne:l≠ []:=fun e=>by have:=h2 e;cases this
  have:=h4.2 hne;simp only[if_true];have e1:decide (-valL l<0)=true:=by simp;omega
  rw[e1,<- h1.limbs (n:=(-valL l).natAbs) (by omega)]
 |false=>
  simp only[Bool.false_eq_true,if_false];have e1:decide (valL l<0)=false:=by simp;omega
  rw[e1,<- h1.limbs (n:=(valL l).natAbs) (by omega)]
theorem WOK.eq{x y:Bool×List Int}(hx:WOK x)(hy:WOK y)(h:dec x=dec y):x=y:=by rw[<- hx.enc,<- hy.enc,h]
theorem EC{s:Bool}{l:List Int}(h:Lim l):WOK (s&&decide (0<valL l),limbs (valL l).toNat)/\dec (s&&decide (0<valL l),limbs (valL l).toNat)=dec (s,l):=by
 have h1:=valL_nonneg h;refine⟨⟨limbs_can _,fun e=> ?_⟩,?_⟩
 ·have:=limbs_nil.1 e;have: ¬0<valL l:=by omega
  simp[this]
 ·unfold dec;simp only[limbs_val];cases s<;>simp;·omega
  ·split<;>omega
theorem so{s:Bool}{l:List Int}(h:Lim l):(s&&decide (0<valL l),limbs (valL l).toNat)=enc (dec (s,l)):=by
 obtain⟨h1,h2⟩:=EC (s:=s) h;rw[<- h2,h1.enc]
theorem last_eq{l:List Int}(h:0<l.length):nth (.int .u32) l ((l.length:Int)-1)=l.getLastD 1:=by
 have hne:l≠ []:=by intro e;subst e;simp at h
 have e:((l.length:Int)-1).toNat=l.length-1:=by omega
 show l.getD _ _=_;rw[e,List.getD_eq_getElem?_getD,List.getElem?_eq_getElem (by omega),List.getLastD_eq_getLast?,List.getLast?_eq_getElem?,List.getElem?_eq_getElem (by omega)];rfl
theorem drop_zero_val{l:List Int}(hl:Lim l)(h:0<l.length)(h0:l.getLastD 1=0):valL l.dropLast=valL l/\Lim l.dropLast:=by
 have hne:l≠ []:=by intro e;subst e;simp at h
 have hd:=List.dropLast_concat_getLast hne;have hlast:l.getLastD 1=l.getLast hne:=by rw[List.getLastD_eq_getLast?,List.getLast?_eq_some_getLast hne];rfl
 refine⟨?_,fun x hx=>hl x (List.dropLast_subset l hx)⟩;conv=>rhs;rw[<- hd]
 rw[valL_append,valL_one,<- hlast,h0];omega
theorem take_last{l:List Int}(h:0<l.length):List.take (IntKind.i64.wrap ((l.length:Int)-1)).toNat l=l.dropLast∨ ¬ (l.length:Int)<9223372036854775808:=by
 by_cases hb:(l.length:Int)<9223372036854775808
 ·left;rw[wo];have e:((l.length:Int)-1).toNat=l.length-1:=by omega
  rw[e,List.dropLast_eq_take]
 ·exact .inr hb
theorem Co{s:Bool}{m z:List Int}(g1:Lim z)(g2:valL z=valL m)(h:0<z.length->z.getLastD 1≠0):(s&&decide ((0:Int)<(z.length:Int)),z)=enc (dec (s,m)):=by
 have hz:Cano z:=⟨g1,by
  by_cases e:0<z.length
  ·exact h e
  ·have:z= []:=List.eq_nil_of_length_eq_zero (by omega);subst this;simp⟩
 have e:dec (s,m)=dec (s,z):=by simp[dec,g2]
 have h0:=valL_nonneg g1;have h1:decide ((0:Int)<(z.length:Int))=decide (0<valL z):=by
  have:=valL_pos hz;by_cases hl:z= [];·subst hl;simp[valL]
  ·have h2:0<z.length:=List.length_pos_iff.2 hl;have h3:=this.2 hl;simp[h2,h3]
 have h2:limbs (valL z).toNat=z:=(hz.limbs (by omega)).symm;rw[e,<- so g1,h1,h2]
theorem whole_round{m z:List Int}(g1:Lim z)(g2:valL z=valL m)(g3:z.length<=m.length)(hz:(0:Int)<(z.length:Int))(hb:z.length<1000000000000)(h0:nth (.int .u32) z (IntKind.i64.wrap ((z.length:Int)-1))=0):
  Lim (List.drop (Int.toNat 0) (List.take (IntKind.i64.wrap ((z.length:Int)-1)).toNat z))/\valL (List.drop (Int.toNat 0) (List.take (IntKind.i64.wrap ((z.length:Int)-1)).toNat z))=valL m/\
   (List.drop (Int.toNat 0) (List.take (IntKind.i64.wrap ((z.length:Int)-1)).toNat z)).length<=m.length/\(List.drop (Int.toNat 0) (List.take (IntKind.i64.wrap ((z.length:Int)-1)).toNat z)).length<z.length:=by
 have hz':0<z.length:=by omega
 have e:=(take_last hz').resolve_right (by omega);rw[wo,last_eq hz'] at h0;obtain⟨d1,d2⟩:=drop_zero_val g1 hz' h0;rw[show Int.toNat 0=0 from rfl,List.drop_zero,e];exact⟨d2,by rw[d1,g2],by simp;omega,by simp;omega⟩
theorem AD(s:Bool)(l:List Int):dec (!s,l)= -dec (s,l):=by
 cases s<;>simp[dec]
theorem fb{x:Bool×List Int}(h:WOK x):((x.2.length:Int)=0↔dec x=0)/\(¬ (x.2.length:Int)=0->(x.1=true->dec x<0)/\(x.1=false->0<dec x)):=by
 obtain⟨h1,h2⟩:=h;have h3:=valL_pos h1;have h4:=valL_nonneg h1.1;have h5:(x.2.length:Int)=0↔x.2= []:=by
  constructor;·intro h;exact List.eq_nil_of_length_eq_zero (by omega)
  ·intro h;rw[h];rfl
 rw[h5];refine⟨⟨fun e=> ?_,fun e=> ?_⟩,fun hne=> ?_⟩;·simp[dec,e,valL]
 ·by_cases hne:x.2= []
  ·exact hne
  ·have:=h3.2 hne;unfold dec at e;split at e<;>omega
 ·have:=h3.2 hne;refine⟨fun e=> ?_,fun e=> ?_⟩;·rw[dec,if_pos e];omega
  ·rw[dec,if_neg (by simp[e])];exact this
def bq(a b:Int):Int:=if a<b then-1 else if b<a then 1 else 0
theorem lG{a b:Int}:bq a b=0↔a=b:=by
 unfold bq;by_cases h1:a<b;·rw[if_pos h1];exact⟨fun h=>(by cases h),fun h=>by omega⟩
 ·rw[if_neg h1];by_cases h2:b<a;·rw[if_pos h2];exact⟨fun h=>(by cases h),fun h=>by omega⟩
  ·rw[if_neg h2];exact⟨fun _=>by omega,fun _=>rfl⟩
theorem cmp_len{a b:List Int}(ha:Cano a)(hb:Cano b)(h:a.length<b.length):valL a<valL b:=by
 have hne:b≠ []:=by intro e;subst e;simp at h
 have h1:=valL_lt ha.1;have h2:=valL_ge hb hne;have h3:=pow_mono (show a.length<=b.length-1 by omega);omega
theorem cmp_at{a b:List Int}(ha:Lim a)(hb:Lim b)(hl:a.length=b.length){k:Nat}(hk:k<a.length)(h:a.drop (k+1)=b.drop (k+1))(hlt:a.getD k 0<b.getD k 0):valL a<valL b:=by
 have e1:valL a=valL (a.take (k+1))+LB^(k+1)*valL (a.drop (k+1)):=by
  conv=>lhs;rw[<- List.take_append_drop (k+1) a]
  rw[valL_append,List.length_take,Nat.min_eq_left (by omega)]
 have e2:valL b=valL (b.take (k+1))+LB^(k+1)*valL (b.drop (k+1)):=by
  conv=>lhs;rw[<- List.take_append_drop (k+1) b]
  rw[valL_append,List.length_take,Nat.min_eq_left (by omega)]
 rw[e1,e2,h,take_val,take_val];have h1:=valL_lt (l:=a.take k) (fun x hx=>ha x (List.mem_of_mem_take hx));have h2:=valL_nonneg (l:=b.take k) (fun x hx=>hb x (List.mem_of_mem_take hx));rw[List.length_take,Nat.min_eq_left (by omega)] at h1;have h3:LB^k*(a.getD k 0+1)<=LB^k*b.getD k 0:=Int.mul_le_mul_of_nonneg_left (by omega) (Int.pow_nonneg (by decide));rw[Int.mul_add,Int.mul_one] at h3;omega
def padL:Nat->Nat->List Int
 |_,0=> []
 |v,k+1=>((v%1000000000:Nat):Int)::padL (v/1000000000) k
theorem padL_len:∀ (v k:Nat),(padL v k).length=k
 |_,0=>rfl
 |v,k+1=>by simp[padL,padL_len]
theorem padL_lim:∀ (v k:Nat),Lim (padL v k)
 |_,0=>fun x hx=>by simp[padL] at hx
 |v,k+1=>fun x hx=>by
  rcases List.mem_cons.1 hx with rfl|hx;·unfold LB;omega
  ·exact padL_lim _ k x hx
theorem padL_val:∀ (v k:Nat),(v:Int)<LB^k->valL (padL v k)=v
 |v,0,h=>by
  have:v=0:=by simp at h;omega
  subst this;rfl
 |v,k+1,h=>by
  have:((v/1000000000:Nat):Int)<LB^k:=by
   rw[Int.pow_succ] at h;(have e:((v/1000000000:Nat):Int)=(v:Int)/LB:=by unfold LB;omega);rw[e];exact Int.ediv_lt_of_lt_mul (by decide) h
  rw[padL,valL,padL_val _ k this];unfold LB;omega
theorem Lim.pad{l:List Int}(h:Lim l){v k:Nat}(hl:l.length=k)(hv:valL l=v):l=padL v k:=
 valL_inj h (padL_lim v k) (by rw[hl,padL_len]) (by rw[hv,padL_val];rw[<- hv,<- hl];exact valL_lt h)
theorem len_le{a b:List Int}(ha:Cano a)(hb:Cano b)(h:valL a<=valL b):a.length<=b.length:=by
 by_cases hl:b.length<a.length
 ·have:=cmp_len hb ha hl;omega
 ·omega
theorem minus_round{m o out:List Int}{k:Nat}{b n b':Int}(g2:out.length=k)(g3:Lim out)(g6:valL out+valL (o.take k)=valL (m.take k)+LB^k*b)(hn:0<=n)(hn2:n<LB)(he:n=m.getD k 0-b-o.getD k 0+LB*b'):
  Lim (out++ [n])/\valL (out++ [n])+valL (o.take (k+1))=valL (m.take (k+1))+LB^(k+1)*b':=by
 refine⟨g3.append (Lim.one hn hn2),?_⟩;rw[valL_append,valL_one,g2,take_val,take_val,Int.pow_succ];have h1:LB^k*n=LB^k*m.getD k 0-LB^k*b-LB^k*o.getD k 0+LB^k*LB*b':=by
  rw[he,Int.mul_add,Int.mul_sub,Int.mul_sub,Int.mul_assoc]
 omega
theorem minus_end{m o out:List Int}{b:Int}(hm:Cano m)(ho:Cano o)(hle:valL o<=valL m)(g2:out.length=m.length)(g3:Lim out)(g4:0<=b)(g6:valL out+valL (o.take m.length)=valL m+LB^m.length*b):out=padL (valL m-valL o).toNat m.length:=by
 rw[List.take_of_length_le (len_le ho hm hle)] at g6;have h1:=valL_lt g3;rw[g2] at h1;have h2:0<LB^m.length:=Int.pow_pos (by decide);have hb:b=0:=by
  by_cases hb:b=0
  ·exact hb
  ·have:LB^m.length*1<=LB^m.length*b:=Int.mul_le_mul_of_nonneg_left (by omega) (by omega);omega
 subst hb;exact g3.pad g2 (by omega)
theorem plus_len{m o:List Int}(hm:Cano m)(ho:Cano o):(limbs (valL m+valL o).toNat).length<=m.length+o.length:=by
 have h1:=valL_lt hm.1;have h2:=valL_lt ho.1;have h3:=valL_nonneg hm.1;have h4:=valL_nonneg ho.1;have hpos:∀ k,1<=LB^k:=fun k=>(Int.pow_pos (show (0:Int)<LB by decide):0<LB^k);by_cases e1:m= [];·subst e1;rw[show valL ([]:List Int)=0 from rfl,Int.zero_add];exact limbs_len (by rw[Int.toNat_of_nonneg h4];simpa using h2)
 ·by_cases e2:o= []
  ·subst e2;rw[show valL ([]:List Int)=0 from rfl,Int.add_zero];exact limbs_len (by rw[Int.toNat_of_nonneg h3];simpa using h1)
  ·have l1:=List.length_pos_iff.2 e1;have l2:=List.length_pos_iff.2 e2;refine limbs_len ?_;rw[Int.toNat_of_nonneg (by omega)];have p1:=pow_mono (show m.length<=m.length+o.length-1 by omega);have p2:=pow_mono (show o.length<=m.length+o.length-1 by omega);have p3:LB^(m.length+o.length)=LB^(m.length+o.length-1)*LB:=by
    rw[<- Int.pow_succ];congr 1;omega
   have p4:=hpos (m.length+o.length-1);have p5:LB^(m.length+o.length-1)*2<=LB^(m.length+o.length-1)*LB:=Int.mul_le_mul_of_nonneg_left (by decide) (by omega);omega
theorem qp(s:Bool)(l:List Int):dec (s,l)=if s=true then-valL l else valL l:=rfl
theorem add_same{x y:Bool×List Int}(hx:WOK x)(hy:WOK y)(h:x.1=y.1):enc (dec (x.1,limbs (valL x.2+valL y.2).toNat))=enc (dec x+dec y):=by
 have h1:=valL_nonneg hx.1.1;have h2:=valL_nonneg hy.1.1;congr 1;rw[qp,limbs_val,Int.toNat_of_nonneg (by omega)];unfold dec;rw[<- h];split<;>omega
theorem wh{x y:Bool×List Int}(h: ¬x.1=y.1){v:List Int}(hv:valL v=valL x.2-valL y.2):enc (dec (x.1,v))=enc (dec x+dec y):=by
 congr 1;rw[qp,hv];unfold dec;cases h1:x.1<;>cases h2:y.1<;>simp[h1,h2] at h ⊢<;>omega
theorem minus_val{m o:List Int}(hm:Cano m)(ho:Cano o)(hle:valL o<=valL m):valL (padL (valL m-valL o).toNat m.length)=valL m-valL o:=by
 have h1:=valL_lt hm.1;have h2:=valL_nonneg ho.1;rw[padL_val _ _ (by rw[Int.toNat_of_nonneg (by omega)];omega),Int.toNat_of_nonneg (by omega)]
theorem Hh{x:Bool×List Int}(h:WOK x):(enc (-dec x)).2.length=x.2.length:=by
 have:enc (-dec x)=((!x.1)&&decide (0<valL x.2),x.2):=by
  have h1:=so (s:= !x.1) h.1.1;rw[AD] at h1;rw[show dec x=dec (x.1,x.2) from rfl,<- h1];congr 1;exact(h.1.limbs (by have:=valL_nonneg h.1.1;omega)).symm
 rw[this]
theorem lH{a b:Int}:bq a b<0↔a<b:=by
 unfold bq;by_cases h1:a<b;·rw[if_pos h1];exact⟨fun _=>h1,fun _=>by omega⟩
 ·rw[if_neg h1];by_cases h2:b<a;·rw[if_pos h2];exact⟨fun h=>by omega,fun h=>by omega⟩
  ·rw[if_neg h2];exact⟨fun h=>by omega,fun h=>by omega⟩
theorem cmp_lens{m o:List Int}(hm:Cano m)(ho:Cano o)(h:bq (m.length:Int) (o.length:Int)≠0):bq (m.length:Int) (o.length:Int)=bq (valL m) (valL o):=by
 unfold bq at h ⊢;by_cases h1:m.length<o.length;·have:=cmp_len hm ho h1;rw[if_pos (by omega),if_pos this]
 ·by_cases h2:o.length<m.length
  ·have:=cmp_len ho hm h2;rw[if_neg (by omega),if_pos (by omega),if_neg (by omega),if_pos this]
  ·rw[if_neg (by omega),if_neg (by omega)] at h;exact absurd rfl h
theorem cmp_place{m o:List Int}(hm:Cano m)(ho:Cano o)(hl:m.length=o.length){k:Nat}(hk:k<m.length)(hd:m.drop (k+1)=o.drop (k+1))(h:bq (m.getD k 0) (o.getD k 0)≠0):bq (m.getD k 0) (o.getD k 0)=bq (valL m) (valL o):=by
 unfold bq at h ⊢;by_cases h1:m.getD k 0<o.getD k 0;·have:=cmp_at hm.1 ho.1 hl hk hd h1;rw[if_pos h1,if_pos this]
 ·by_cases h2:o.getD k 0<m.getD k 0
  ·have:=cmp_at ho.1 hm.1 hl.symm (by omega) hd.symm h2;rw[if_neg h1,if_pos h2,if_neg (by omega),if_pos this]
  ·rw[if_neg h1,if_neg h2] at h;exact absurd rfl h
theorem drop_step{m o:List Int}{k:Nat}(hl:m.length=o.length)(hk:k<m.length)(hd:m.drop (k+1)=o.drop (k+1))(h:m.getD k 0=o.getD k 0):m.drop k=o.drop k:=by
 rw[List.drop_eq_getElem_cons hk,List.drop_eq_getElem_cons (show k<o.length by omega),hd];rw[List.getD_eq_getElem?_getD,List.getD_eq_getElem?_getD,List.getElem?_eq_getElem hk,List.getElem?_eq_getElem (show k<o.length by omega)] at h;simp at h;rw[h]
theorem set_val:∀ {l:List Int} {j:Nat} {v:Int},j<l.length->valL (l.set j v)=valL l+LB^j*(v-l.getD j 0)
 |x::r,0,v,_=>by simp[valL];omega
 |x::r,j+1,v,h=>by
  have ih:=set_val (l:=r) (j:=j) (v:=v) (by simpa using h);simp only[List.set_cons_succ,valL,ih,List.getD_cons_succ,Int.pow_succ];rw[Int.mul_add,Int.mul_comm (LB^j) LB,Int.mul_assoc];omega
 | [],_,_,h=>by simp at h
theorem set_lim{l:List Int}{j:Nat}{v:Int}(h:Lim l)(h0:0<=v)(h1:v<LB):Lim (l.set j v):=fun x hx=>by
 rcases List.mem_or_eq_of_mem_set hx with h2|rfl;·exact h x h2
 ·exact⟨h0,h1⟩
theorem getD_set_ne{l:List Int}{j k:Nat}{v:Int}(h:j≠k):(l.set j v).getD k 0=l.getD k 0:=by
 rw[List.getD_eq_getElem?_getD,List.getD_eq_getElem?_getD,List.getElem?_set_ne h]
theorem mul_bound{x y a c:Int}(hx:0<=x/\x<LB)(hy:0<=y/\y<LB)(ha:0<=a/\a<LB)(hc:0<=c/\c<LB):0<=x*y/\x*y+a+c<LB*LB/\x*y<=LB*LB:=by
 have h1:0<=x*y:=Int.mul_nonneg hx.1 hy.1;have h2:x*y<=(LB-1)*(LB-1):=Int.mul_le_mul (by omega) (by omega) hy.1 (by decide);have hB:LB=1000000000:=rfl;have h3:(LB-1)*(LB-1)=999999998000000001:=rfl;have h4:LB*LB=1000000000000000000:=rfl;omega
theorem mul_step{x y out:List Int}{i k:Nat}{c p n:Int}(hx:Lim x)(hy:Lim y)(h1:out.length=x.length+y.length)(h2:Lim out)(h3:0<=c)(h4:c<LB)(hi:i<x.length)(hk:k<y.length)
  (h6:valL out+LB^(i+k)*c=p+LB^i*(x.getD i 0*valL (y.take k))) (hz:∀ j,i+y.length<=j->out.getD j 0=0) (hn:n=x.getD i 0*y.getD k 0+out.getD (i+k) 0+c):
  0<=n/\n<LB*LB/\(out.set (i+k) (n%LB)).length=x.length+y.length/\Lim (out.set (i+k) (n%LB))/\0<=n/LB/\n/LB<LB/\
   valL (out.set (i+k) (n%LB))+LB^(i+(k+1))*(n/LB)=p+LB^i*(x.getD i 0*valL (y.take (k+1)))/\∀ j,i+y.length<=j->(out.set (i+k) (n%LB)).getD j 0=0:=by
 have hb:=mul_bound (hx.getD i) (hy.getD k) (h2.getD (i+k)) ⟨h3,h4⟩;have ha:=h2.getD (i+k);have hB:LB=1000000000:=rfl;have hn0:0<=n:=by omega
 have hn1:n<LB*LB:=by omega
 have hm:0<=n%LB/\n%LB<LB:=⟨Int.emod_nonneg _ (by decide),Int.emod_lt_of_pos _ (by decide)⟩;refine⟨hn0,hn1,by simp[h1],set_lim h2 hm.1 hm.2,Int.ediv_nonneg hn0 (by decide),Int.ediv_lt_of_lt_mul (by decide) hn1,?_,fun j hj=> ?_⟩
 ·rw[set_val (by omega),take_val,<- Nat.add_assoc,Int.pow_succ];have e1:n%LB+LB*(n/LB)=n:=Int.emod_add_mul_ediv n LB;have e2:LB^(i+k)*(n%LB-out.getD (i+k) 0)+LB^(i+k)*LB*(n/LB)=LB^(i+k)*(n-out.getD (i+k) 0):=by
   rw[Int.mul_assoc,<- Int.mul_add];congr 1;omega
  have e3:n-out.getD (i+k) 0=x.getD i 0*y.getD k 0+c:=by omega
  have e4:LB^(i+k)=LB^i*LB^k:=Int.pow_add ..;have e5:LB^i*(x.getD i 0*(valL (y.take k)+LB^k*y.getD k 0))=LB^i*(x.getD i 0*valL (y.take k))+LB^(i+k)*(x.getD i 0*y.getD k 0):=by
   rw[Int.mul_add,Int.mul_add,e4];congr 1;rw[Int.mul_assoc,Int.mul_left_comm (x.getD i 0)]
  rw[e3,Int.mul_add] at e2;omega
 ·rw[getD_set_ne (by omega)];exact hz j hj
theorem mul_row{x y out:List Int}{i:Nat}{c p:Int}(h1:out.length=x.length+y.length)(h2:Lim out)(h3:0<=c)(h4:c<LB)(hi:i<x.length)(hp:p=valL (x.take i)*valL y)
  (h6:valL out+LB^(i+y.length)*c=p+LB^i*(x.getD i 0*valL y)) (hz:∀ j,i+y.length<=j->out.getD j 0=0):
  (out.set (i+y.length) c).length=x.length+y.length/\Lim (out.set (i+y.length) c)/\valL (out.set (i+y.length) c)=valL (x.take (i+1))*valL y/\∀ j,i+1+y.length<=j->(out.set (i+y.length) c).getD j 0=0:=by
 refine⟨by simp[h1],set_lim h2 h3 h4,?_,fun j hj=> ?_⟩;·rw[set_val (by omega),hz _ (Nat.le_refl _),take_val,Int.add_mul,Int.sub_zero,h6,hp,Int.mul_assoc]
 ·rw[getD_set_ne (by omega)];exact hz j (by omega)
theorem replicate_zero(n:Nat):Lim (List.replicate n 0)/\valL (List.replicate n 0)=0/\∀ j,(List.replicate n (0:Int)).getD j 0=0:=by
 refine⟨fun x hx=> ?_,?_,fun j=> ?_⟩;·have:=List.eq_of_mem_replicate hx;subst this;exact⟨by decide,by decide⟩
 ·induction n with
  |zero=>rfl
  |succ n ih=>rw[List.replicate_succ,valL,ih];rfl
 ·rw[List.getD_eq_getElem?_getD,List.getElem?_replicate];split<;>rfl
theorem Hi{x y:Bool×List Int}{out:List Int}(h:valL out=valL x.2*valL y.2):dec (x.1 !=y.1,out)=dec x*dec y:=by
 rw[qp,h];unfold dec;cases x.1<;>cases y.1<;>simp[Int.neg_mul,Int.mul_neg]
theorem JH{x y a c:Int}(hx:0<=x/\x<LB)(hy:0<=y/\y<LB)(ha:0<=a/\a<LB)(hc:0<=c/\c<LB):
  IntKind.u64.wrap (IntKind.u64.wrap (IntKind.u64.wrap (IntKind.u64.wrap x*IntKind.u64.wrap y)+IntKind.u64.wrap a)+c)=x*y+a+c:=by
 have hb:=mul_bound hx hy ha hc;have hB:LB=1000000000:=rfl;have h4:LB*LB=1000000000000000000:=rfl;rw[w64 hx.1 (by omega),w64 hy.1 (by omega),w64 ha.1 (by omega),w64 hb.1 (by omega),w64 (x:=x*y+a) (by omega) (by omega),w64 (by omega) (by omega)]
theorem mi{n:Int}(h0:0<=n)(h1:n<LB*LB):IntKind.u64.wrap n=n/\IntKind.u32.wrap (n.tmod 1000000000)=n%LB/\IntKind.u64.wrap (n.tdiv 1000000000)=n/LB:=by
 have hB:LB=1000000000:=rfl;obtain⟨e1,e2⟩:=tdiv_nn h0;rw[e1,e2];have h2:0<=n%LB/\n%LB<LB:=⟨Int.emod_nonneg _ (by decide),Int.emod_lt_of_pos _ (by decide)⟩;have h3:0<=n/LB:=Int.ediv_nonneg h0 (by decide);have h4:n/LB<LB:=Int.ediv_lt_of_lt_mul (by decide) h1;rw[hB] at h1;exact⟨w64 h0 (by omega),w32 h2.1 (by omega),w64 h3 (by omega)⟩
end Go.Cm
end
section
namespace Go.Cm
open Go.Lib
def eD(s:Bool)(xs:List Int):Nat->List UInt8
 |0=>if s=true then [45] else []
 |k+1=>eD s xs k++((if k=0 then [] else List.replicate (9-(itoa (xs.getD (xs.length-1-k) 0)).length) 48)++itoa (xs.getD (xs.length-1-k) 0))
theorem iW{u k:Nat}(h:u<10^k)(hk:0<k):(decDigits u).length<=k:=by
 induction k generalizing u with
 |zero=>omega
 |succ k ih=>
  rw[decDigits];split;·simp
  ·(rename_i h10;by_cases h0:k=0;·subst h0;omega);·have:=ih (u:=u/10) (by rw[Nat.pow_succ] at h;omega) (by omega);simp;omega
theorem nM{x:Int}(h0:0<=x)(h1:x<LB):1<=(itoa x).length/\(itoa x).length<=9:=by
 have hB:LB=1000000000:=rfl;unfold itoa;rw[if_neg (by omega)];refine⟨?_,iW (k:=9) (by omega) (by omega)⟩;rw[decDigits];split<;>simp
theorem mj{s:Bool}{xs:List Int}(h:Lim xs):∀ k,(eD s xs k).length<=1+9*k
 |0=>by unfold eD;split<;>simp
 |k+1=>by
  have:=mj (s:=s) h k;have h2:=h.getD (xs.length-1-k);have h3:=nM h2.1 h2.2;rw[eD];split<;>simp only[List.length_append,List.length_replicate,List.length_nil]<;>omega
end Go.Cm
end
section
namespace Go.Proofs
open Go.Shelf
def Tryz.lays166_ren:Go.Shelf.Ren:=⟨fun|166=>98|240=>140|276=>174|n=>n,fun|37=>47|70=>126|72=>128|75=>131|80=>135|164=>193|n=>n,fun|n=>n⟩
theorem Tryz.lays166:Go.Proofs.Lays.n166 Tryz.prog Tryz.lays166_ren:={
 mixed:=by kernel_rfl
 f166:=Tryz.func98.trans (congrArg some (by kernel_rfl))
 f240:=Tryz.func140.trans (congrArg some (by kernel_rfl))
 f276:=Tryz.func174.trans (congrArg some (by kernel_rfl))
 t0:=Tryz.underlying0
 a0:=Tryz.isAgg0
 z0:=Tryz.sizeOf0
 v0:=Tryz.zeroValue0
 t3:=Tryz.underlying3
 a3:=Tryz.isAgg3
 z3:=Tryz.sizeOf3
 v3:=Tryz.zeroValue3
 t4:=Tryz.underlying4
 a4:=Tryz.isAgg4
 z4:=Tryz.sizeOf4
 v4:=Tryz.zeroValue4
 t9:=Tryz.underlying9
 a9:=Tryz.isAgg9
 z9:=Tryz.sizeOf9
 v9:=Tryz.zeroValue9
 t20:=Tryz.underlying20
 a20:=Tryz.isAgg20
 z20:=Tryz.sizeOf20
 v20:=Tryz.zeroValue20
 t37:=Tryz.underlying47
 a37:=Tryz.isAgg47
 z37:=Tryz.sizeOf47
 v37:=Tryz.zeroValue47
 t70:=Tryz.underlying126
 a70:=Tryz.isAgg126
 z70:=Tryz.sizeOf126
 v70:=Tryz.zeroValue126
 t72:=Tryz.underlying128
 a72:=Tryz.isAgg128
 z72:=Tryz.sizeOf128
 v72:=Tryz.zeroValue128
 t75:=Tryz.underlying131
 a75:=Tryz.isAgg131
 z75:=Tryz.sizeOf131
 v75:=Tryz.zeroValue131
 t164:=Tryz.underlying193
 a164:=Tryz.isAgg193
 z164:=Tryz.sizeOf193
 v164:=Tryz.zeroValue193}
theorem Tryz.Builder_Extra_166:Builder.Extra Tryz.prog Tryz.lays166_ren:={
 sizeBuilder:=by kernel_rfl
 liesBuilder:=by kernel_rfl
 t5:=Tryz.underlying5
 a5:=Tryz.isAgg5
 z5:=Tryz.sizeOf5
 v5:=Tryz.zeroValue5
 infoByte:=by kernel_rfl
 cellsByte:=by kernel_rfl
 sizeByte:=by kernel_rfl
 neB5:=by decide}
def Tryz.lays167_ren:Go.Shelf.Ren:=⟨fun|167=>176|240=>140|276=>174|n=>n,fun|37=>47|70=>126|72=>128|75=>131|80=>135|164=>193|n=>n,fun|n=>n⟩
theorem Tryz.lays167:Go.Proofs.Lays.n167 Tryz.prog Tryz.lays167_ren:={
 mixed:=by kernel_rfl
 f167:=Tryz.func176.trans (congrArg some (by kernel_rfl))
 f240:=Tryz.func140.trans (congrArg some (by kernel_rfl))
 f276:=Tryz.func174.trans (congrArg some (by kernel_rfl))
 t0:=Tryz.underlying0
 a0:=Tryz.isAgg0
 z0:=Tryz.sizeOf0
 v0:=Tryz.zeroValue0
 t4:=Tryz.underlying4
 a4:=Tryz.isAgg4
 z4:=Tryz.sizeOf4
 v4:=Tryz.zeroValue4
 t5:=Tryz.underlying5
 a5:=Tryz.isAgg5
 z5:=Tryz.sizeOf5
 v5:=Tryz.zeroValue5
 t9:=Tryz.underlying9
 a9:=Tryz.isAgg9
 z9:=Tryz.sizeOf9
 v9:=Tryz.zeroValue9
 t20:=Tryz.underlying20
 a20:=Tryz.isAgg20
 z20:=Tryz.sizeOf20
 v20:=Tryz.zeroValue20
 t37:=Tryz.underlying47
 a37:=Tryz.isAgg47
 z37:=Tryz.sizeOf47
 v37:=Tryz.zeroValue47
 t70:=Tryz.underlying126
 a70:=Tryz.isAgg126
 z70:=Tryz.sizeOf126
 v70:=Tryz.zeroValue126
 t72:=Tryz.underlying128
 a72:=Tryz.isAgg128
 z72:=Tryz.sizeOf128
 v72:=Tryz.zeroValue128
 t75:=Tryz.underlying131
 a75:=Tryz.isAgg131
 z75:=Tryz.sizeOf131
 v75:=Tryz.zeroValue131
 t164:=Tryz.underlying193
 a164:=Tryz.isAgg193
 z164:=Tryz.sizeOf193
 v164:=Tryz.zeroValue193}
theorem Tryz.Builder_Extra_167:Builder.Extra Tryz.prog Tryz.lays167_ren:={
 sizeBuilder:=by kernel_rfl
 liesBuilder:=by kernel_rfl
 t5:=Tryz.underlying5
 a5:=Tryz.isAgg5
 z5:=Tryz.sizeOf5
 v5:=Tryz.zeroValue5
 infoByte:=by kernel_rfl
 cellsByte:=by kernel_rfl
 sizeByte:=by kernel_rfl
 neB5:=by decide}
def Tryz.lays169_ren:Go.Shelf.Ren:=⟨fun|169=>100|n=>n,fun|37=>47|70=>126|72=>128|127=>167|n=>n,fun|n=>n⟩
theorem Tryz.lays169:Go.Proofs.Lays.n169 Tryz.prog Tryz.lays169_ren:={
 mixed:=by kernel_rfl
 f169:=Tryz.func100.trans (congrArg some (by kernel_rfl))
 t0:=Tryz.underlying0
 a0:=Tryz.isAgg0
 z0:=Tryz.sizeOf0
 v0:=Tryz.zeroValue0
 t3:=Tryz.underlying3
 a3:=Tryz.isAgg3
 z3:=Tryz.sizeOf3
 v3:=Tryz.zeroValue3
 t9:=Tryz.underlying9
 a9:=Tryz.isAgg9
 z9:=Tryz.sizeOf9
 v9:=Tryz.zeroValue9
 t37:=Tryz.underlying47
 a37:=Tryz.isAgg47
 z37:=Tryz.sizeOf47
 v37:=Tryz.zeroValue47
 t70:=Tryz.underlying126
 a70:=Tryz.isAgg126
 z70:=Tryz.sizeOf126
 v70:=Tryz.zeroValue126
 t72:=Tryz.underlying128
 a72:=Tryz.isAgg128
 z72:=Tryz.sizeOf128
 v72:=Tryz.zeroValue128
 t127:=Tryz.underlying167
 a127:=Tryz.isAgg167
 z127:=Tryz.sizeOf167
 v127:=Tryz.zeroValue167}
theorem Tryz.Builder_Extra_169:Builder.Extra Tryz.prog Tryz.lays169_ren:={
 sizeBuilder:=by kernel_rfl
 liesBuilder:=by kernel_rfl
 t5:=Tryz.underlying5
 a5:=Tryz.isAgg5
 z5:=Tryz.sizeOf5
 v5:=Tryz.zeroValue5
 infoByte:=by kernel_rfl
 cellsByte:=by kernel_rfl
 sizeByte:=by kernel_rfl
 neB5:=by decide}
def Tryz.laysM171_ren:Go.Shelf.Ren:=⟨fun|129=>219|171=>166|243=>184|246=>197|283=>210|284=>211|285=>212|286=>213|317=>218|318=>220|319=>221|320=>222|337=>223|338=>224|n=>n,fun|37=>47|46=>122|51=>161|53=>164|171=>224|173=>227|212=>234|213=>235|232=>241|233=>242|n=>n,fun|17=>3|18=>4|19=>5|n=>n⟩
theorem Tryz.laysM171:Go.Proofs.LaysM.n171 Tryz.prog Tryz.laysM171_ren:={
 mixed:=by kernel_rfl
 f129:=Tryz.func219.trans (congrArg some (by kernel_rfl))
 f171:=Tryz.func166.trans (congrArg some (by kernel_rfl))
 f243:=Tryz.func184.trans (congrArg some (by kernel_rfl))
 f246:=Tryz.func197.trans (congrArg some (by kernel_rfl))
 f283:=Tryz.func210.trans (congrArg some (by kernel_rfl))
 f284:=Tryz.func211.trans (congrArg some (by kernel_rfl))
 f285:=Tryz.func212.trans (congrArg some (by kernel_rfl))
 f286:=Tryz.func213.trans (congrArg some (by kernel_rfl))
 f317:=Tryz.func218.trans (congrArg some (by kernel_rfl))
 f318:=Tryz.func220.trans (congrArg some (by kernel_rfl))
 f319:=Tryz.func221.trans (congrArg some (by kernel_rfl))
 f320:=Tryz.func222.trans (congrArg some (by kernel_rfl))
 f337:=Tryz.func223.trans (congrArg some (by kernel_rfl))
 f338:=Tryz.func224.trans (congrArg some (by kernel_rfl))
 t0:=Tryz.underlying0
 a0:=Tryz.isAgg0
 z0:=Tryz.sizeOf0
 v0:=Tryz.zeroValue0
 t2:=Tryz.underlying2
 a2:=Tryz.isAgg2
 z2:=Tryz.sizeOf2
 v2:=Tryz.zeroValue2
 t3:=Tryz.underlying3
 a3:=Tryz.isAgg3
 z3:=Tryz.sizeOf3
 v3:=Tryz.zeroValue3
 t4:=Tryz.underlying4
 a4:=Tryz.isAgg4
 z4:=Tryz.sizeOf4
 v4:=Tryz.zeroValue4
 t5:=Tryz.underlying5
 a5:=Tryz.isAgg5
 z5:=Tryz.sizeOf5
 v5:=Tryz.zeroValue5
 t9:=Tryz.underlying9
 a9:=Tryz.isAgg9
 z9:=Tryz.sizeOf9
 v9:=Tryz.zeroValue9
 t20:=Tryz.underlying20
 a20:=Tryz.isAgg20
 z20:=Tryz.sizeOf20
 v20:=Tryz.zeroValue20
 t37:=Tryz.underlying47
 a37:=Tryz.isAgg47
 z37:=Tryz.sizeOf47
 v37:=Tryz.zeroValue47
 t46:=Tryz.underlying122
 a46:=Tryz.isAgg122
 z46:=Tryz.sizeOf122
 v46:=Tryz.zeroValue122
 t51:=Tryz.underlying161
 a51:=Tryz.isAgg161
 z51:=Tryz.sizeOf161
 v51:=Tryz.zeroValue161
 t53:=Tryz.underlying164
 a53:=Tryz.isAgg164
 z53:=Tryz.sizeOf164
 v53:=Tryz.zeroValue164
 t171:=Tryz.underlying224
 a171:=Tryz.isAgg224
 z171:=Tryz.sizeOf224
 v171:=Tryz.zeroValue224
 t173:=Tryz.underlying227
 a173:=Tryz.isAgg227
 z173:=Tryz.sizeOf227
 v173:=Tryz.zeroValue227
 t212:=Tryz.underlying234
 a212:=Tryz.isAgg234
 z212:=Tryz.sizeOf234
 v212:=Tryz.zeroValue234
 t213:=Tryz.underlying235
 a213:=Tryz.isAgg235
 z213:=Tryz.sizeOf235
 t232:=Tryz.underlying241
 a232:=Tryz.isAgg241
 z232:=Tryz.sizeOf241
 v232:=Tryz.zeroValue241
 t233:=Tryz.underlying242
 a233:=Tryz.isAgg242
 z233:=Tryz.sizeOf242
 v233:=Tryz.zeroValue242
 g17:=by kernel_rfl
 g18:=by kernel_rfl
 g19:=by kernel_rfl
 i0:=by kernel_rfl
 i2:=by kernel_rfl
 i3:=by kernel_rfl
 i4:=by kernel_rfl
 i5:=by kernel_rfl
 i9:=by kernel_rfl
 i20:=by kernel_rfl
 i37:=by kernel_rfl
 i46:=by kernel_rfl
 i51:=by kernel_rfl
 i53:=by kernel_rfl
 i171:=by kernel_rfl
 i173:=by kernel_rfl
 i212:=by kernel_rfl
 i232:=by kernel_rfl
 i233:=by kernel_rfl
 m17:=by kernel_rfl
 m18:=by kernel_rfl
 m19:=by kernel_rfl}
open Go.RowKit Go.Sort Go.Lib in
theorem Tryz.strconv_Itoa(n:Int)(h0: -9223372036854775808<=n)(h1:n<=9223372036854775807)(w:World)(htab:Lib.TabIs Tryz.prog w "internal/strconv.uint64pow10" .u64 Lib.pow10Tab):
  Calls Tryz.prog 166 #[.int .i64 n] w fun e w'=>e= .returned (.string ⟨(Lib.itoa n).toArray⟩)/\∃ k os,w'=grow (w.drewN k) os:=Any.strconv_Itoa Tryz.laysM171 n h0 h1 w htab
def Tryz.laysPu14_ren:Go.Shelf.Ren:=⟨fun|14=>173|16=>187|17=>188|19=>202|20=>203|21=>204|22=>205|23=>206|24=>207|25=>216|26=>217|27=>166|28=>184|29=>197|30=>210|31=>211|32=>212|33=>213|34=>218|35=>219|36=>220|37=>221|38=>222|39=>223|40=>224|n=>n,fun|22=>164|24=>131|25=>191|34=>216|36=>122|37=>47|39=>218|44=>231|47=>167|48=>237|50=>239|52=>224|55=>227|59=>234|60=>161|61=>235|65=>241|66=>242|67=>135|n=>n,fun|0=>1|1=>2|2=>3|3=>4|4=>5|n=>n⟩
theorem Tryz.laysPu14:Go.Proofs.LaysPu.n14 Tryz.prog Tryz.laysPu14_ren:={
 mixed:=by kernel_rfl
 f14:=Tryz.func173.trans (congrArg some (by kernel_rfl))
 f16:=Tryz.func187.trans (congrArg some (by kernel_rfl))
 f17:=Tryz.func188.trans (congrArg some (by kernel_rfl))
 f19:=Tryz.func202.trans (congrArg some (by kernel_rfl))
 f20:=Tryz.func203.trans (congrArg some (by kernel_rfl))
 f21:=Tryz.func204.trans (congrArg some (by kernel_rfl))
 f22:=Tryz.func205.trans (congrArg some (by kernel_rfl))
 f23:=Tryz.func206.trans (congrArg some (by kernel_rfl))
 f24:=Tryz.func207.trans (congrArg some (by kernel_rfl))
 f25:=Tryz.func216.trans (congrArg some (by kernel_rfl))
 f26:=Tryz.func217.trans (congrArg some (by kernel_rfl))
 f27:=Tryz.func166.trans (congrArg some (by kernel_rfl))
 f28:=Tryz.func184.trans (congrArg some (by kernel_rfl))
 f29:=Tryz.func197.trans (congrArg some (by kernel_rfl))
 f30:=Tryz.func210.trans (congrArg some (by kernel_rfl))
 f31:=Tryz.func211.trans (congrArg some (by kernel_rfl))
 f32:=Tryz.func212.trans (congrArg some (by kernel_rfl))
 f33:=Tryz.func213.trans (congrArg some (by kernel_rfl))
 f34:=Tryz.func218.trans (congrArg some (by kernel_rfl))
 f35:=Tryz.func219.trans (congrArg some (by kernel_rfl))
 f36:=Tryz.func220.trans (congrArg some (by kernel_rfl))
 f37:=Tryz.func221.trans (congrArg some (by kernel_rfl))
 f38:=Tryz.func222.trans (congrArg some (by kernel_rfl))
 f39:=Tryz.func223.trans (congrArg some (by kernel_rfl))
 f40:=Tryz.func224.trans (congrArg some (by kernel_rfl))
 t0:=Tryz.underlying0
 a0:=Tryz.isAgg0
 z0:=Tryz.sizeOf0
 v0:=Tryz.zeroValue0
 i0:=by kernel_rfl
 t2:=Tryz.underlying2
 a2:=Tryz.isAgg2
 z2:=Tryz.sizeOf2
 v2:=Tryz.zeroValue2
 i2:=by kernel_rfl
 t3:=Tryz.underlying3
 a3:=Tryz.isAgg3
 z3:=Tryz.sizeOf3
 v3:=Tryz.zeroValue3
 i3:=by kernel_rfl
 t4:=Tryz.underlying4
 a4:=Tryz.isAgg4
 z4:=Tryz.sizeOf4
 v4:=Tryz.zeroValue4
 i4:=by kernel_rfl
 t5:=Tryz.underlying5
 a5:=Tryz.isAgg5
 z5:=Tryz.sizeOf5
 v5:=Tryz.zeroValue5
 i5:=by kernel_rfl
 t9:=Tryz.underlying9
 a9:=Tryz.isAgg9
 z9:=Tryz.sizeOf9
 v9:=Tryz.zeroValue9
 i9:=by kernel_rfl
 t20:=Tryz.underlying20
 a20:=Tryz.isAgg20
 z20:=Tryz.sizeOf20
 v20:=Tryz.zeroValue20
 i20:=by kernel_rfl
 t21:=Tryz.underlying21
 a21:=Tryz.isAgg21
 z21:=Tryz.sizeOf21
 v21:=Tryz.zeroValue21
 i21:=by kernel_rfl
 t22:=Tryz.underlying164
 a22:=Tryz.isAgg164
 z22:=Tryz.sizeOf164
 v22:=Tryz.zeroValue164
 i22:=by kernel_rfl
 t24:=Tryz.underlying131
 a24:=Tryz.isAgg131
 z24:=Tryz.sizeOf131
 v24:=Tryz.zeroValue131
 i24:=by kernel_rfl
 t25:=Tryz.underlying191
 a25:=Tryz.isAgg191
 z25:=Tryz.sizeOf191
 v25:=Tryz.zeroValue191
 i25:=by kernel_rfl
 t34:=Tryz.underlying216
 a34:=Tryz.isAgg216
 z34:=Tryz.sizeOf216
 v34:=Tryz.zeroValue216
 i34:=by kernel_rfl
 c34:=by kernel_rfl
 t36:=Tryz.underlying122
 a36:=Tryz.isAgg122
 z36:=Tryz.sizeOf122
 v36:=Tryz.zeroValue122
 i36:=by kernel_rfl
 t37:=Tryz.underlying47
 a37:=Tryz.isAgg47
 z37:=Tryz.sizeOf47
 v37:=Tryz.zeroValue47
 i37:=by kernel_rfl
 t39:=Tryz.underlying218
 a39:=Tryz.isAgg218
 z39:=Tryz.sizeOf218
 v39:=Tryz.zeroValue218
 i39:=by kernel_rfl
 t44:=Tryz.underlying231
 a44:=Tryz.isAgg231
 z44:=Tryz.sizeOf231
 v44:=Tryz.zeroValue231
 i44:=by kernel_rfl
 t47:=Tryz.underlying167
 a47:=Tryz.isAgg167
 z47:=Tryz.sizeOf167
 v47:=Tryz.zeroValue167
 i47:=by kernel_rfl
 t48:=Tryz.underlying237
 a48:=Tryz.isAgg237
 z48:=Tryz.sizeOf237
 v48:=Tryz.zeroValue237
 i48:=by kernel_rfl
 t50:=Tryz.underlying239
 a50:=Tryz.isAgg239
 z50:=Tryz.sizeOf239
 v50:=Tryz.zeroValue239
 i50:=by kernel_rfl
 t52:=Tryz.underlying224
 a52:=Tryz.isAgg224
 z52:=Tryz.sizeOf224
 v52:=Tryz.zeroValue224
 i52:=by kernel_rfl
 t55:=Tryz.underlying227
 a55:=Tryz.isAgg227
 z55:=Tryz.sizeOf227
 v55:=Tryz.zeroValue227
 i55:=by kernel_rfl
 t59:=Tryz.underlying234
 a59:=Tryz.isAgg234
 z59:=Tryz.sizeOf234
 v59:=Tryz.zeroValue234
 i59:=by kernel_rfl
 t60:=Tryz.underlying161
 a60:=Tryz.isAgg161
 z60:=Tryz.sizeOf161
 v60:=Tryz.zeroValue161
 i60:=by kernel_rfl
 t61:=Tryz.underlying235
 a61:=Tryz.isAgg235
 z61:=Tryz.sizeOf235
 t65:=Tryz.underlying241
 a65:=Tryz.isAgg241
 z65:=Tryz.sizeOf241
 v65:=Tryz.zeroValue241
 i65:=by kernel_rfl
 t66:=Tryz.underlying242
 a66:=Tryz.isAgg242
 z66:=Tryz.sizeOf242
 v66:=Tryz.zeroValue242
 i66:=by kernel_rfl
 t67:=Tryz.underlying135
 a67:=Tryz.isAgg135
 z67:=Tryz.sizeOf135
 v67:=Tryz.zeroValue135
 i67:=by kernel_rfl
 g0:=by kernel_rfl
 m0:=by kernel_rfl
 g1:=by kernel_rfl
 m1:=by kernel_rfl
 g2:=by kernel_rfl
 m2:=by kernel_rfl
 g3:=by kernel_rfl
 m3:=by kernel_rfl
 g4:=by kernel_rfl
 m4:=by kernel_rfl}
open Go.RowKit in
theorem Tryz.strconv_ParseUint_10_at32_ok(s:ByteArray)(hmax:s.size<=9223372036854775806)(u:Nat)(h:Lib.parseUintB 32 s.data.toList= .ok u)(w:World):
  Calls Tryz.prog 173 #[.string s,.int .i64 10,.int .i64 32] w fun e w'=>e= .returned (.tuple #[.int .u64 u,.nilIface])/\(w'=w∨w'=Lib.bytesWorld w 5 s):=Any.strconv_ParseUint_10_at32_ok Tryz.laysPu14 s hmax u h w
def Tryz.lays105_ren:Go.Shelf.Ren:=⟨fun|99=>96|105=>43|165=>97|166=>98|169=>100|170=>99|206=>139|212=>95|240=>140|241=>141|263=>137|264=>138|276=>174|277=>175|n=>n,fun|37=>47|46=>122|51=>161|53=>164|70=>126|72=>128|75=>131|76=>132|80=>135|109=>123|127=>167|146=>162|148=>165|164=>193|n=>n,fun|n=>n⟩
theorem Tryz.lays105:Go.Proofs.Lays.n105 Tryz.prog Tryz.lays105_ren:={
 mixed:=by kernel_rfl
 f99:=Tryz.func96.trans (congrArg some (by kernel_rfl))
 f105:=Tryz.func43.trans (congrArg some (by kernel_rfl))
 f165:=Tryz.func97.trans (congrArg some (by kernel_rfl))
 f166:=Tryz.func98.trans (congrArg some (by kernel_rfl))
 f169:=Tryz.func100.trans (congrArg some (by kernel_rfl))
 f170:=Tryz.func99.trans (congrArg some (by kernel_rfl))
 f206:=Tryz.func139.trans (congrArg some (by kernel_rfl))
 f212:=Tryz.func95.trans (congrArg some (by kernel_rfl))
 f240:=Tryz.func140.trans (congrArg some (by kernel_rfl))
 f241:=Tryz.func141.trans (congrArg some (by kernel_rfl))
 f263:=Tryz.func137.trans (congrArg some (by kernel_rfl))
 f264:=Tryz.func138.trans (congrArg some (by kernel_rfl))
 f276:=Tryz.func174.trans (congrArg some (by kernel_rfl))
 f277:=Tryz.func175.trans (congrArg some (by kernel_rfl))
 t0:=Tryz.underlying0
 a0:=Tryz.isAgg0
 z0:=Tryz.sizeOf0
 v0:=Tryz.zeroValue0
 t3:=Tryz.underlying3
 a3:=Tryz.isAgg3
 z3:=Tryz.sizeOf3
 v3:=Tryz.zeroValue3
 t4:=Tryz.underlying4
 a4:=Tryz.isAgg4
 z4:=Tryz.sizeOf4
 v4:=Tryz.zeroValue4
 t5:=Tryz.underlying5
 a5:=Tryz.isAgg5
 z5:=Tryz.sizeOf5
 v5:=Tryz.zeroValue5
 t9:=Tryz.underlying9
 a9:=Tryz.isAgg9
 z9:=Tryz.sizeOf9
 v9:=Tryz.zeroValue9
 t20:=Tryz.underlying20
 a20:=Tryz.isAgg20
 z20:=Tryz.sizeOf20
 v20:=Tryz.zeroValue20
 t37:=Tryz.underlying47
 a37:=Tryz.isAgg47
 z37:=Tryz.sizeOf47
 v37:=Tryz.zeroValue47
 t46:=Tryz.underlying122
 a46:=Tryz.isAgg122
 z46:=Tryz.sizeOf122
 v46:=Tryz.zeroValue122
 t51:=Tryz.underlying161
 a51:=Tryz.isAgg161
 z51:=Tryz.sizeOf161
 v51:=Tryz.zeroValue161
 t53:=Tryz.underlying164
 a53:=Tryz.isAgg164
 z53:=Tryz.sizeOf164
 v53:=Tryz.zeroValue164
 t70:=Tryz.underlying126
 a70:=Tryz.isAgg126
 z70:=Tryz.sizeOf126
 v70:=Tryz.zeroValue126
 t72:=Tryz.underlying128
 a72:=Tryz.isAgg128
 z72:=Tryz.sizeOf128
 v72:=Tryz.zeroValue128
 t75:=Tryz.underlying131
 a75:=Tryz.isAgg131
 z75:=Tryz.sizeOf131
 v75:=Tryz.zeroValue131
 t76:=Tryz.underlying132
 a76:=Tryz.isAgg132
 z76:=Tryz.sizeOf132
 v76:=Tryz.zeroValue132
 t109:=Tryz.underlying123
 a109:=Tryz.isAgg123
 z109:=Tryz.sizeOf123
 v109:=Tryz.zeroValue123
 t127:=Tryz.underlying167
 a127:=Tryz.isAgg167
 z127:=Tryz.sizeOf167
 v127:=Tryz.zeroValue167
 t146:=Tryz.underlying162
 a146:=Tryz.isAgg162
 z146:=Tryz.sizeOf162
 v146:=Tryz.zeroValue162
 t148:=Tryz.underlying165
 a148:=Tryz.isAgg165
 z148:=Tryz.sizeOf165
 v148:=Tryz.zeroValue165
 t164:=Tryz.underlying193
 a164:=Tryz.isAgg193
 z164:=Tryz.sizeOf193
 v164:=Tryz.zeroValue193}
theorem Tryz.Builder_Extra_105:Builder.Extra Tryz.prog Tryz.lays105_ren:={
 sizeBuilder:=by kernel_rfl
 liesBuilder:=by kernel_rfl
 t5:=Tryz.underlying5
 a5:=Tryz.isAgg5
 z5:=Tryz.sizeOf5
 v5:=Tryz.zeroValue5
 infoByte:=by kernel_rfl
 cellsByte:=by kernel_rfl
 sizeByte:=by kernel_rfl
 neB5:=by decide}
open Go.RowKit Go.Lib in
theorem Tryz.strings_Repeat_main(s:ByteArray)(c:Nat)(w:World)(hc2:2<=c)(hc:c<=9223372036854775807)(hlen:s.size*c<=140737488355328)(h0:0<s.size):
  Calls Tryz.prog 43 #[.string s,.int .i64 c] w fun e w'=>e= .returned (.string ⟨(Lib.repeatL s.data.toList c).toArray⟩)/\Below w.heap.size w w':=Any.strings_Repeat_main Tryz.lays105 Tryz.Builder_Extra_105 s c w hc2 hc hlen h0
open Go.RowKit Go.Lib in
theorem Tryz.strings_Repeat_zero(s:ByteArray)(w:World):
  Calls Tryz.prog 43 #[.string s,.int .i64 0] w fun e w'=>e= .returned (.string ⟨#[]⟩)/\w'=w:=Any.strings_Repeat_zero Tryz.lays105 s w
open Go.RowKit Go.Lib in
theorem Tryz.strings_Repeat_one(s:ByteArray)(w:World):
  Calls Tryz.prog 43 #[.string s,.int .i64 1] w fun e w'=>e= .returned (.string s)/\w'=w:=Any.strings_Repeat_one Tryz.lays105 s w
open Go.RowKit Go.Lib in
theorem Tryz.strings_Repeat_empty(s:ByteArray)(c:Nat)(w:World)(hc2:2<=c)(hc:c<=9223372036854775807)(h0:s.size=0):
  Calls Tryz.prog 43 #[.string s,.int .i64 c] w fun e w'=>e= .returned (.string ⟨#[]⟩)/\w'=w:=Any.strings_Repeat_empty Tryz.lays105 s c w hc2 hc h0
end Go.Proofs
end
section
namespace Go.Proofs
open Go.RowKit Go.Cm Go.Sort
theorem lI{T e:TypeId}{B b:Nat}{bs:List Value}{w w':World}(h:Lib.IsBuilder T e B b bs w)(hg:w.grownBy w' none):Lib.IsBuilder T e B b bs w':=by
 have key:∀ p,Lib.BuilderAt T e B b p bs w->Lib.BuilderAt T e B b p bs w':=by
  rintro p ⟨h1,v,h2,h3,h4⟩;exact⟨h1,v,(hg.block b (Array.getElem?_eq_some_iff.1 h2).1 (by simp)).trans h2,h3.kept hg (by cases v.ownBlock<;>simp),h4⟩
 exact h.imp (key _) (key _)
theorem ED{n:Nat}(h:n<=9):(⟨#[48,48,48,48,48,48,48,48,48]⟩:ByteArray).extract n 9=⟨(List.replicate (9-n) (48:UInt8)).toArray⟩:=by
 have:∀ n:Fin 10,(⟨#[48,48,48,48,48,48,48,48,48]⟩:ByteArray).extract n.1 9=⟨(List.replicate (9-n.1) (48:UInt8)).toArray⟩:=by decide
 exact this ⟨n,by omega⟩
theorem gX(B:Nat)(w:World)(hB:B<=w.heap.size)(k:Nat)(os:Array Obj):Below B w (grow (w.drewN k) os):=by
 refine⟨rfl,rfl,rfl,?_,fun i hi=> ?_⟩;·show w.heap.size<=(w.heap++os).size;simp
 ·show (w.heap++os)[i]? =w.heap[i]?;rw[Array.getElem?_append_left (by omega)]
theorem qq(w:World)(k:Nat)(os:Array Obj):w.grownBy (grow (w.drewN k) os) none:=by
 have:=gX w.heap.size w (Nat.le_refl _) k os;exact⟨this.os,this.tape,this.output,this.size,fun i hi _=>this.block i hi⟩
set_option maxRecDepth 100000 in
set_option maxHeartbeats 1000000 in
theorem Cp(s:Bool)(xs:List Int)(b o cap:Nat)(w:World)(hne:0<xs.length)(hl:Lim xs)(hlen:xs.length<=1000000000000)(hb:b<w.heap.size)(hc:∀ j,j<xs.length->w.cell? ⟨b,o+j,none⟩=some (.int .u32 (xs.getD j 0)))
  (hT:∀ W,Below w.heap.size w W->Lib.TabIs Tryz.prog W "internal/strconv.uint64pow10" .u64 Lib.pow10Tab):
  Calls Tryz.prog 144 #[.agg #[.bool s,.slice (some ⟨b,o,none⟩) xs.length cap]] w fun e w'=>e= .returned (.string ⟨(eD s xs xs.length).toArray⟩)/\Below w.heap.size w w':=by
 have h0:((xs.length:Int)==0)=false:=beq_eq_false_iff_ne.2 (by omega);obtain⟨W0,hW0⟩:∃ W0,W0=w.alloc (.cells #[.bool s,.slice (some ⟨b,o,none⟩) xs.length cap] 89):=⟨_,rfl⟩;cases s
 ·go_enter Tryz.func144,Tryz.ntmps144
  go_wp2_with fail
  go_loopw [4] (fun i wr=>∃ k:Nat,k<=xs.length/\i= .int .i64 ((xs.length:Int)-1-k)/\Lib.IsBuilder 128 5 (w.heap.size+1) (w.heap.size+1) (Lib.byteCells (eD false xs k)) wr/\Below (w.heap.size+1) W0 wr) (fun i _=>(intOf i+1).toNat)
  case atStart=>
   (refine⟨0,Nat.zero_le _,by simp,?_,?_⟩;·have:=Lib.fresh_isBuilder 128 5 (w.alloc (.cells #[.bool false,.slice (some ⟨b,o,none⟩) xs.length cap] 89));rw[World.size_alloc] at this;exact this);·rw[hW0];exact(Below.refl _ _).alloc (by simp) _
  case round=>
   obtain⟨k,hk,rfl,hI,hbw⟩:=hrel;have hB0:Below w.heap.size w wr:=(((Below.refl _ _).alloc (Nat.le_refl _) _).trans ((by rw[hW0] at hbw;exact hbw.mono (by omega))));have g0:wr.cell? ⟨w.heap.size,0,none⟩=some (.bool false):=by
    rw[hbw.cell (p:=⟨w.heap.size,0,none⟩) (by simp),hW0];exact cell_of_row _ _ 0 _ _ _ (heap_alloc_new w _)
   have g1:wr.cell? ⟨w.heap.size,1,none⟩=some (.slice (some ⟨b,o,none⟩) xs.length cap):=by
    rw[hbw.cell (p:=⟨w.heap.size,1,none⟩) (by simp),hW0];exact cell_of_row _ _ 1 _ _ _ (heap_alloc_new w _)
   by_cases hlt:k<xs.length
   ·(have hge:0<=(xs.length:Int)-1-k:=by omega);(have htn:((xs.length:Int)-1-k).toNat=xs.length-1-k:=by omega);(have hup:(xs.length:Int)-1-k<xs.length:=by omega);obtain⟨x,hx⟩:∃ x,x=xs.getD (xs.length-1-k) 0:=⟨_,rfl⟩;have hc1:wr.cell? ⟨b,o+(xs.length-1-k),none⟩=some (.int .u32 x):=by
     rw[hB0.cell (p:=⟨b,o+(xs.length-1-k),none⟩) hb,hx];exact hc _ (by omega)
    have hxl:=hl.getD (xs.length-1-k);rw[<- hx] at hxl;have hB:LB=1000000000:=rfl;obtain⟨hx0,hx1⟩:=hxl;rw[hB] at hx1;have HX:=Lib.hid hx;clear hx hB;have hil:=nM hx0 (by rw[show LB=1000000000 from rfl];exact hx1)
    go_wp2_with fail
    refine(Tryz.strconv_Itoa x (by omega) (by omega) wr (hT wr hB0)).mono ?_;rintro e W1 ⟨rfl,q,os,hW1⟩;have hg:=qq wr q os;have hb1:=gX wr.heap.size wr (Nat.le_refl _) q os;rw[<- hW1] at hg hb1;have hI1:=lI hI hg;clear hg;have hsz:w.heap.size+1<wr.heap.size:=by
     rcases hI with h|h<;>exact h.lt
    clear hI hW1;have hbw1:Below (w.heap.size+1) W0 W1:=hbw.trans (hb1.mono (by omega));have f0:W1.cell? ⟨w.heap.size,0,none⟩=some (.bool false):=(hb1.cell (p:=⟨w.heap.size,0,none⟩) (by simp only;omega)).trans g0;have f1:W1.cell? ⟨w.heap.size,1,none⟩=some (.slice (some ⟨b,o,none⟩) xs.length cap):=(hb1.cell (p:=⟨w.heap.size,1,none⟩) (by simp only;omega)).trans g1;(have hszw:w.heap.size+1<=W1.heap.size:=by have:=hb1.size;omega);have hacc:=mj (s:=false) hl k;(have hacc2:eD false xs (k+1)=eD false xs k++((if k=0 then [] else List.replicate (9-(Lib.itoa x).length) 48)++Lib.itoa x):=by rw[HX.out];rfl);have HA:=Lib.hid hacc2;clear hacc2 HX;generalize hl1:Lib.itoa x=l at*;clear hl1;obtain⟨hil1,hil2⟩:=hil;by_cases hk0:k=0
    ·have HK:=Lib.hid hk0;(have hnl: ¬ ((xs.length:Int)-1-k<(xs.length:Int)-1):=by omega);clear hk0
     go_wp2_with fail
     refine(Any.Builder_WriteString Tryz.lays166 Tryz.Builder_Extra_166 (w.heap.size+1) (w.heap.size+1) _ ⟨l.toArray⟩ _ hI1 (by rw[Lib.byteCells_length];simp only[ByteArray.size,List.size_toArray];omega) hszw).mono ?_;rintro e W2 ⟨rfl,h2,b2⟩
     go_wp2
     go_roundw
     case rel=>
      refine⟨k+1,by omega,by congr 1;omega,?_,hbw1.trans b2⟩;have e:=HA.out;rw[if_pos HK.out,List.nil_append] at e;rw[e,Lib.byteCells_append];exact .inr h2
     case measure=>simp[intOf];omega
    ·(have hnl:(xs.length:Int)-1-k<(xs.length:Int)-1:=by omega);(have hl9:(l.length:Int)<=9:=by omega);have HK:=Lib.hid hk0;clear hk0
     go_wp2_with fail
     rw[ED hil2];refine(Any.Builder_WriteString Tryz.lays166 Tryz.Builder_Extra_166 (w.heap.size+1) (w.heap.size+1) _ ⟨(List.replicate (9-l.length) (48:UInt8)).toArray⟩ _ hI1 (by rw[Lib.byteCells_length];simp only[ByteArray.size,List.size_toArray,List.length_replicate];omega) hszw).mono ?_;rintro e W2 ⟨rfl,h2,b2⟩;(have hszw2:w.heap.size+1<=W2.heap.size:=by have:=b2.size;omega);clear hI1
     go_wp2_with fail
     refine(Any.Builder_WriteString Tryz.lays166 Tryz.Builder_Extra_166 (w.heap.size+1) (w.heap.size+1) _ ⟨l.toArray⟩ _ (.inr h2) (by rw[List.length_append,Lib.strCells_length,Lib.byteCells_length];simp only[ByteArray.size,List.size_toArray,List.length_replicate];omega) hszw2).mono ?_;rintro e W3 ⟨rfl,h3,b3⟩
     go_wp2
     go_roundw
     case rel=>
      refine⟨k+1,by omega,by congr 1;omega,?_,(hbw1.trans b2).trans b3⟩;have e:=HA.out;rw[if_neg HK.out,<- List.append_assoc] at e;rw[e,Lib.byteCells_append,Lib.byteCells_append];exact .inr h3
     case measure=>simp[intOf];omega
   ·(have hk2:k=xs.length:=by omega);(have hnl: ¬ (0<=(xs.length:Int)-1-k):=by omega);have HK:=Lib.hid hk2;clear hk2;have hszw:w.heap.size+1<=wr.heap.size:=by
     rcases hI with h|h<;>exact Nat.le_of_lt h.lt
    go_wp2_with fail
    refine(Any.Builder_String_any Tryz.lays169 Tryz.Builder_Extra_169 (w.heap.size+1) (w.heap.size+1) _ _ hI hszw).mono ?_;rintro e W2 ⟨rfl,b2⟩
    go_wp2
    go_ret
    exact⟨by rw[HK.out];rfl,hB0.trans (b2.mono (by omega))⟩
 ·go_enter Tryz.func144,Tryz.ntmps144
  go_wp2_with fail
  have hf:=Lib.fresh_isBuilder 128 5 (w.alloc (.cells #[.bool true,.slice (some ⟨b,o,none⟩) xs.length cap] 89));rw[World.size_alloc] at hf;refine(Any.Builder_WriteByte Tryz.lays167 Tryz.Builder_Extra_167 (w.heap.size+1) (w.heap.size+1) [] 45 _ hf (by simp) (by simp)).mono ?_;rintro e W1 ⟨rfl,h1,b1⟩;have hb1:Below (w.heap.size+1) W0 W1:=by rw[hW0];exact((Below.refl _ _).alloc (by simp) _).trans b1
  have f0:W1.cell? ⟨w.heap.size,0,none⟩=some (.bool true):=by
   rw[hb1.cell (p:=⟨w.heap.size,0,none⟩) (by simp),hW0];exact cell_of_row _ _ 0 _ _ _ (heap_alloc_new w _)
  have f1:W1.cell? ⟨w.heap.size,1,none⟩=some (.slice (some ⟨b,o,none⟩) xs.length cap):=by
   rw[hb1.cell (p:=⟨w.heap.size,1,none⟩) (by simp),hW0];exact cell_of_row _ _ 1 _ _ _ (heap_alloc_new w _)
  go_wp2_with fail
  go_loopw [4] (fun i wr=>∃ k:Nat,k<=xs.length/\i= .int .i64 ((xs.length:Int)-1-k)/\Lib.IsBuilder 128 5 (w.heap.size+1) (w.heap.size+1) (Lib.byteCells (eD true xs k)) wr/\Below (w.heap.size+1) W0 wr) (fun i _=>(intOf i+1).toNat)
  case atStart=>exact⟨0,Nat.zero_le _,by simp,.inr h1,hb1⟩
  case round=>
   obtain⟨k,hk,rfl,hI,hbw⟩:=hrel;have hB0:Below w.heap.size w wr:=(((Below.refl _ _).alloc (Nat.le_refl _) _).trans ((by rw[hW0] at hbw;exact hbw.mono (by omega))));have g0:wr.cell? ⟨w.heap.size,0,none⟩=some (.bool true):=by
    rw[hbw.cell (p:=⟨w.heap.size,0,none⟩) (by simp),hW0];exact cell_of_row _ _ 0 _ _ _ (heap_alloc_new w _)
   have g1:wr.cell? ⟨w.heap.size,1,none⟩=some (.slice (some ⟨b,o,none⟩) xs.length cap):=by
    rw[hbw.cell (p:=⟨w.heap.size,1,none⟩) (by simp),hW0];exact cell_of_row _ _ 1 _ _ _ (heap_alloc_new w _)
   by_cases hlt:k<xs.length
   ·(have hge:0<=(xs.length:Int)-1-k:=by omega);(have htn:((xs.length:Int)-1-k).toNat=xs.length-1-k:=by omega);(have hup:(xs.length:Int)-1-k<xs.length:=by omega);obtain⟨x,hx⟩:∃ x,x=xs.getD (xs.length-1-k) 0:=⟨_,rfl⟩;have hc1:wr.cell? ⟨b,o+(xs.length-1-k),none⟩=some (.int .u32 x):=by
     rw[hB0.cell (p:=⟨b,o+(xs.length-1-k),none⟩) hb,hx];exact hc _ (by omega)
    have hxl:=hl.getD (xs.length-1-k);rw[<- hx] at hxl;have hB:LB=1000000000:=rfl;obtain⟨hx0,hx1⟩:=hxl;rw[hB] at hx1;have HX:=Lib.hid hx;clear hx hB;have hil:=nM hx0 (by rw[show LB=1000000000 from rfl];exact hx1)
    go_wp2_with fail
    refine(Tryz.strconv_Itoa x (by omega) (by omega) wr (hT wr hB0)).mono ?_;rintro e W1 ⟨rfl,q,os,hW1⟩;have hg:=qq wr q os;have hb1:=gX wr.heap.size wr (Nat.le_refl _) q os;rw[<- hW1] at hg hb1;have hI1:=lI hI hg;clear hg;have hsz:w.heap.size+1<wr.heap.size:=by
     rcases hI with h|h<;>exact h.lt
    clear hI hW1;have hbw1:Below (w.heap.size+1) W0 W1:=hbw.trans (hb1.mono (by omega));have f0:W1.cell? ⟨w.heap.size,0,none⟩=some (.bool true):=(hb1.cell (p:=⟨w.heap.size,0,none⟩) (by simp only;omega)).trans g0;have f1:W1.cell? ⟨w.heap.size,1,none⟩=some (.slice (some ⟨b,o,none⟩) xs.length cap):=(hb1.cell (p:=⟨w.heap.size,1,none⟩) (by simp only;omega)).trans g1;(have hszw:w.heap.size+1<=W1.heap.size:=by have:=hb1.size;omega);have hacc:=mj (s:=true) hl k;(have hacc2:eD true xs (k+1)=eD true xs k++((if k=0 then [] else List.replicate (9-(Lib.itoa x).length) 48)++Lib.itoa x):=by rw[HX.out];rfl);have HA:=Lib.hid hacc2;clear hacc2 HX;generalize hl1:Lib.itoa x=l at*;clear hl1;obtain⟨hil1,hil2⟩:=hil;by_cases hk0:k=0
    ·have HK:=Lib.hid hk0;(have hnl: ¬ ((xs.length:Int)-1-k<(xs.length:Int)-1):=by omega);clear hk0
     go_wp2_with fail
     refine(Any.Builder_WriteString Tryz.lays166 Tryz.Builder_Extra_166 (w.heap.size+1) (w.heap.size+1) _ ⟨l.toArray⟩ _ hI1 (by rw[Lib.byteCells_length];simp only[ByteArray.size,List.size_toArray];omega) hszw).mono ?_;rintro e W2 ⟨rfl,h2,b2⟩
     go_wp2
     go_roundw
     case rel=>
      refine⟨k+1,by omega,by congr 1;omega,?_,hbw1.trans b2⟩;have e:=HA.out;rw[if_pos HK.out,List.nil_append] at e;rw[e,Lib.byteCells_append];exact .inr h2
     case measure=>simp[intOf];omega
    ·(have hnl:(xs.length:Int)-1-k<(xs.length:Int)-1:=by omega);(have hl9:(l.length:Int)<=9:=by omega);have HK:=Lib.hid hk0;clear hk0
     go_wp2_with fail
     rw[ED hil2];refine(Any.Builder_WriteString Tryz.lays166 Tryz.Builder_Extra_166 (w.heap.size+1) (w.heap.size+1) _ ⟨(List.replicate (9-l.length) (48:UInt8)).toArray⟩ _ hI1 (by rw[Lib.byteCells_length];simp only[ByteArray.size,List.size_toArray,List.length_replicate];omega) hszw).mono ?_;rintro e W2 ⟨rfl,h2,b2⟩;(have hszw2:w.heap.size+1<=W2.heap.size:=by have:=b2.size;omega);clear hI1
     go_wp2_with fail
     refine(Any.Builder_WriteString Tryz.lays166 Tryz.Builder_Extra_166 (w.heap.size+1) (w.heap.size+1) _ ⟨l.toArray⟩ _ (.inr h2) (by rw[List.length_append,Lib.strCells_length,Lib.byteCells_length];simp only[ByteArray.size,List.size_toArray,List.length_replicate];omega) hszw2).mono ?_;rintro e W3 ⟨rfl,h3,b3⟩
     go_wp2
     go_roundw
     case rel=>
      refine⟨k+1,by omega,by congr 1;omega,?_,(hbw1.trans b2).trans b3⟩;have e:=HA.out;rw[if_neg HK.out,<- List.append_assoc] at e;rw[e,Lib.byteCells_append,Lib.byteCells_append];exact .inr h3
     case measure=>simp[intOf];omega
   ·(have hk2:k=xs.length:=by omega);(have hnl: ¬ (0<=(xs.length:Int)-1-k):=by omega);have HK:=Lib.hid hk2;clear hk2;have hszw:w.heap.size+1<=wr.heap.size:=by
     rcases hI with h|h<;>exact Nat.le_of_lt h.lt
    go_wp2_with fail
    refine(Any.Builder_String_any Tryz.lays169 Tryz.Builder_Extra_169 (w.heap.size+1) (w.heap.size+1) _ _ hI hszw).mono ?_;rintro e W2 ⟨rfl,b2⟩
    go_wp2
    go_ret
    exact⟨by rw[HK.out];rfl,hB0.trans (b2.mono (by omega))⟩
end Go.Proofs
end
section
namespace Go.Proofs
open Go.RowKit Go.Cm
def Hj(B:ah):Prop:=∀ w,B.On w->Lib.TabIs Tryz.prog w "internal/strconv.uint64pow10" .u64 Lib.pow10Tab
def JI(B:ah):Prop:=∀ w,B.On w->∃ m,w.cell? ⟨0,0,none⟩=some (.int .i64 m)
def aA(B:ah):Prop:=Hj B/\JI B
def AE:Con:=fun l os=>match l,os with
 | [.z (.int .i64) n],[]=>some (I64 n,[.z .str (Lib.itoa n)],[])
 |_,_=>none
theorem Hk{B:ah}(hB:aA B):Valid B Tryz.prog 166 AE:=by
 intro args os C rs os' hc hC O w vals ρ0 hOn hIo hO hOI hargs hown hap;unfold AE at hc;split at hc;case h_2=>cases hc
 cases hc;obtain⟨v,rfl,hv⟩:=uj hargs;rw[bg hv];exact ui ((Tryz.strconv_Itoa _ hC.1 hC.2 w (hB.1 w hOn)).mono fun e w' ⟨he,k,os,hw⟩=>⟨he,by rw[hw];exact gX _ _ (Nat.le_refl _) _ _⟩) (fun H w=>eb (ρ:=fun _=>undef))
def numOf(l:List UInt8):Nat:=l.foldl (fun n c=>n*10+(c.toNat-48)) 0
def cR(l:List UInt8):Prop:=∀ c∈l,48<=c.toNat/\c.toNat<=57
def uk:Con:=fun l os=>match l,os with
 | [.z .str s,.z (.int .i64) 10,.z (.int .i64) 32],[]=>some (s≠ []/\cR s/\s.length<=9,[.z (.int .u64) (numOf s),.val .nilIface],[])
 |_,_=>none
theorem wj:∀ (l:List UInt8) (a:Nat),a<=l.foldl (fun n c=>n*10+(c.toNat-48)) a
 | [],_=>Nat.le_refl _
 |c::l,a=>Nat.le_trans (by omega) (wj l (a*10+(c.toNat-48)))
theorem EE:∀ (l:List UInt8) (a k:Nat),cR l->a<10^k->l.foldl (fun n c=>n*10+(c.toNat-48)) a<10^(k+l.length)
 | [],_,_,_,h=>h
 |c::l,a,k,hd,h=>by
  have h1:=hd c (by simp);have:=EE l (a*10+(c.toNat-48)) (k+1) (fun x hx=>hd x (by simp[hx])) (by rw[Nat.pow_succ];omega);rw[List.foldl_cons,List.length_cons,show k+(l.length+1)=k+1+l.length by omega];exact this
theorem jK{l:List UInt8}(hd:cR l):numOf l<10^l.length:=by
 have:=EE l 0 0 hd (by simp);rw[Nat.zero_add] at this;exact this
theorem wk:∀ (l:List UInt8) (a:Nat),cR l->l.foldl (fun n c=>n*10+(c.toNat-48)) a<=4294967295->Lib.parseUintM (2^32-1) a l= .ok (l.foldl (fun n c=>n*10+(c.toNat-48)) a)
 | [],_,_,_=>rfl
 |c::l,a,hd,h=>by
  have h1:=hd c (by simp);have h2:=wj l (a*10+(c.toNat-48));rw[List.foldl_cons] at h;rw[Lib.parseUintM,if_pos h1,if_neg (by omega),if_neg (by omega),wk l _ (fun x hx=>hd x (by simp[hx])) h,List.foldl_cons]
theorem Hl{B:ah}(hB:aA B):Valid B Tryz.prog 173 uk:=by
 intro args os C rs os' hc hC O w vals ρ0 hOn hIo hO hOI hargs hown hap;unfold uk at hc;split at hc;case h_2=>cases hc
 rename_i s;cases hc;obtain⟨u,v,t,rfl,hu,hv,ht⟩:=zd hargs;rw[bg hv,bg ht,eV hu];obtain⟨h0,h1,h2⟩:=hC;have hsz:(⟨s.toArray⟩:ByteArray).size=s.length:=by simp[ByteArray.size]
 have hlt:=jK h1;have h9:numOf s<10^9:=Nat.lt_of_lt_of_le hlt (Nat.pow_le_pow_right (by omega) h2);have hp:Lib.parseUintB 32 s= .ok (numOf s):=by
  rw[Lib.parseUintB,if_neg h0];exact wk s 0 h1 (by unfold numOf at h9;omega)
 refine(Tryz.strconv_ParseUint_10_at32_ok ⟨s.toArray⟩ (by rw[hsz];omega) (numOf s) hp w).mono fun e w' ⟨he,hw⟩=> ?_;have hb:Below w.heap.size w w':=by
  rcases hw with hw|hw;·rw[hw];exact Below.refl _ _
  ·rw[hw];exact⟨rfl,rfl,rfl,by rw[Lib.bytesWorld_size];omega,fun k hk=>Lib.bytesWorld_at_old w _ _ k hk⟩
 subst he;exact qn (vs:= [.int .u64 (numOf s),.nilIface]) hb (fun H M=>⟨bE (ρ:=fun _=>undef),rfl,trivial⟩)
theorem fc{xs:List Int}{k:Nat}(hk:k<xs.length):valL (xs.drop (xs.length-1-k))=xs.getD (xs.length-1-k) 0+LB*valL (xs.drop (xs.length-k)):=by
 rw[List.drop_eq_getElem_cons (by omega),valL,show xs.length-1-k+1=xs.length-k by omega,List.getD_eq_getElem?_getD,List.getElem?_eq_getElem (by omega)];rfl
def qs(k u:Nat):List UInt8:=if k=0 then [] else List.replicate (k-(Lib.decDigits u).length) 48++Lib.decDigits u
theorem EF{k u:Nat}(hu:u<10^(k+1)):qs k (u/10)++ [UInt8.ofNat (48+u%10)]=qs (k+1) u:=by
 unfold qs;rw[if_neg (show ¬k+1=0 by omega)];by_cases hk:k=0
 ·subst hk;have hu10:u<10:=by simpa using hu
  rw[if_pos rfl,show Lib.decDigits u= [UInt8.ofNat (48+u)] by rw[Lib.decDigits,dif_pos hu10]];simp[Nat.mod_eq_of_lt hu10]
 ·rw[if_neg hk];by_cases hu10:u<10
  ·(have:u/10=0:=by omega);rw[this,show Lib.decDigits 0= [48] by rw[Lib.decDigits,dif_pos (by omega)];rfl,show Lib.decDigits u= [UInt8.ofNat (48+u)] by rw[Lib.decDigits,dif_pos hu10]];simp only[List.length_cons,List.length_nil,Nat.mod_eq_of_lt hu10,List.append_assoc];rw[show k+1-(0+1)=(k-(0+1))+1 by omega,List.replicate_succ'];simp
  ·(have e:Lib.decDigits u=Lib.decDigits (u/10)++ [UInt8.ofNat (48+u%10)]:=by conv=>lhs;rw[Lib.decDigits,dif_neg hu10]);rw[e];simp only[List.length_append,List.length_cons,List.length_nil,List.append_assoc];rw[show k+1-((Lib.decDigits (u/10)).length+(0+1))=k-(Lib.decDigits (u/10)).length by omega]
theorem ij:∀ (k u:Nat) (v:Nat),0<v->u<10^k->Lib.decDigits (u+10^k*v)=Lib.decDigits v++qs k u
 |0,u,v,hv,hu=>by
  have:u=0:=by omega
  subst this;simp[qs]
 |k+1,u,v,hv,hu=>by
  have h1:0<10^k:=Nat.pow_pos (by omega);have h2:10^(k+1)*1<=10^(k+1)*v:=Nat.mul_le_mul_left _ hv;have h3:10^(k+1)=10^k*10:=Nat.pow_succ ..;have e1:(u+10^(k+1)*v)/10=u/10+10^k*v:=by
   rw[h3,Nat.mul_right_comm,Nat.add_mul_div_right _ _ (by omega)]
  have e2:(u+10^(k+1)*v)%10=u%10:=by
   rw[h3,Nat.mul_right_comm,Nat.add_mul_mod_self_right]
  rw[Lib.decDigits,dif_neg (by omega),e1,e2,ij k (u/10) v hv (by omega),List.append_assoc,EF hu]
theorem EG{s:Bool}{xs:List Int}(h:Cano xs):∀ k,k<xs.length->eD s xs (k+1)=(if s=true then [45] else [])++Lib.decDigits (valL (xs.drop (xs.length-1-k))).toNat
 |0,hk=>by
  have hx:=h.1.getD (xs.length-1);have e:valL (xs.drop (xs.length-1-0))=xs.getD (xs.length-1) 0:=by
   rw[fc hk,Nat.sub_zero,Nat.sub_zero,List.drop_of_length_le (Nat.le_refl _)];simp[valL]
  rw[e];simp only[eD,Nat.sub_zero,if_true,List.nil_append];unfold Lib.itoa;rw[if_neg (show ¬xs.getD (xs.length-1) 0<0 by omega)]
 |k+1,hk=>by
  have hx:=h.1.getD (xs.length-1-(k+1));have ih:=EG (s:=s) h k (by omega);have hB:LB=1000000000:=rfl;have hd:Cano (xs.drop (xs.length-1-k)):=⟨fun x hx=>h.1 x (List.mem_of_mem_drop hx),by
   (have hne:xs.drop (xs.length-1-k)≠ []:=by intro e;have:=congrArg List.length e;simp at this;omega);have:=h.2;rw[<- List.take_append_drop (xs.length-1-k) xs,getLastD_append hne] at this;exact this⟩
  have hpos:=(valL_pos hd).2 (by intro e;have:=congrArg List.length e;simp at this;omega);rw[eD,ih,if_neg (show ¬k+1=0 by omega),fc hk,show xs.length-(k+1)=xs.length-1-k by omega,List.append_assoc];congr 1;obtain⟨u,hu⟩:=Int.eq_ofNat_of_zero_le hx.1;obtain⟨v,hv⟩:=Int.eq_ofNat_of_zero_le (Int.le_of_lt hpos);rw[hu,hv];have hun:u<10^9:=by have:=hx.2;rw[hu] at this;omega
  have e:((u:Int)+LB*(v:Int)).toNat=u+10^9*v:=by rw[hB];omega
  rw[e,ij 9 u v (by omega) hun,qs,if_neg (show ¬ (9:Nat)=0 by omega)];unfold Lib.itoa;rw[if_neg (show ¬ (u:Int)<0 by omega)];simp only[Int.toNat_natCast]
theorem Hm{x:Bool×List Int}(h:WOK x)(hne:0<x.2.length):eD x.1 x.2 x.2.length=Lib.itoa (dec x):=by
 have:=EG (s:=x.1) h.1 (x.2.length-1) (by omega);rw[show x.2.length-1+1=x.2.length by omega,show x.2.length-1-(x.2.length-1)=0 by omega,List.drop_zero] at this;have hp:=(valL_pos h.1).2 (by intro e;rw[e] at hne;simp at hne);rw[this];unfold Lib.itoa dec;split;·rename_i hs;rw[if_pos (by omega)];simp;congr 1;omega
 ·rename_i hs;rw[if_neg (by omega)];simp
set_option maxRecDepth 100000 in
set_option maxHeartbeats 1000000 in
theorem sr(s:Bool)(p:Option Addr)(cap:Nat)(w:World):Calls Tryz.prog 144 #[.agg #[.bool s,.slice p 0 cap]] w fun e w'=>e= .returned (.string ⟨#[48]⟩)/\Below w.heap.size w w':=by
 go_enter Tryz.func144,Tryz.ntmps144
 go_wp2
 go_ret
 exact⟨rfl,(Below.refl _ _).alloc (Nat.le_refl _) _⟩
def AF:Con:=fun l os=>match l,os with
 | [.z (.st (.pair .bool (.slice (.int .u32)))) x],[]=>some (WOK x/\x.2.length<CAP,[.z .str (Lib.itoa (dec x))],[])
 |_,_=>none
theorem Hn{B:ah}(hB:aA B):Valid B Tryz.prog 144 AF:=by
 intro args os C rs os' hc hC O w vals ρ0 hOn hIo hO hOI hargs hown hap;unfold AF at hc;split at hc;case h_2=>cases hc
 rename_i x;cases hc;obtain⟨v,rfl,hv⟩:=uj hargs;obtain⟨s,xs⟩:=x;obtain⟨hw,hcap⟩:=hC;have hcap:xs.length<1000000000000:=hcap;obtain⟨cs,rfl,hr⟩:=Ea hv;obtain⟨c,d,rfl,h1,h2⟩:=hr;have h1:c= [.bool s]:=h1;subst h1;refine ui ?_ (fun H w=>eb (ρ:=fun _=>undef));by_cases hne:xs.length=0
 ·have:xs= []:=List.eq_nil_of_length_eq_zero hne;subst this;have hs:s=false:=hw.2 rfl;subst hs;have e:Lib.itoa (dec (false,[]))= [48]:=by
   simp[dec,valL,Lib.itoa];rw[Lib.decDigits,dif_pos (by omega)];rfl
  rw[e];rcases h2 with⟨rfl,_⟩|⟨b,o,p,cap,cells,rfl,_⟩;·exact sr false none 0 w
  ·exact sr false _ cap w
 ·rw[<- Hm hw (by simp only;omega)];rcases h2 with⟨rfl,h3⟩|⟨b,o,p,cap,cells,rfl,hp,h3,h4,h5,h6⟩;·simp only at h3;rw[h3] at hne;exact absurd rfl hne
  ·obtain rfl:=hp (fun e=>hne (by have e:xs= []:=e;rw[e];rfl));have hcs:=lu h5;(have hcn:cells≠ []:=fun e=>by rw[hcs] at e;simp at e;rw[e] at hne;exact hne rfl);refine Cp s xs b o cap w (by omega) hw.1.1 (by omega) (h6.lt hcn) (fun j hj=> ?_) (fun W hW=>hB.1 W (EB hOn hW));(have hj':j<cells.length:=by rw[hcs];simpa using hj);rw[h6.2 j hj',hcs,List.getElem?_map,List.getElem?_eq_getElem hj];simp[List.getD_eq_getElem?_getD,List.getElem?_eq_getElem hj]
end Go.Proofs
end
section
namespace Go.Cm
open Go.Proofs
def dD(s p:List UInt8):Bool:=decide (p.length<=s.length)&&(s.take p.length==p)
def aw(s p:List UInt8):List UInt8:=if dD s p=true then s.drop p.length else s
theorem Cq(s p:List UInt8):(decide ((p.length:Int)<=(s.length:Int))&&(List.drop (Int.toNat 0) (List.take (Int.toNat (p.length:Int)) s)==p))=dD s p:=by
 simp[dD]
def fW(c:UInt8):Bool:=48<=c.toNat&&c.toNat<=57
def chk(s:List UInt8):Int:=
 if s= [48] then 0
 else if (aw s [45]).length=0∨(aw s [45]).getD 0 0=48 then 5
 else if (aw s [45]).all fW=false then 5
 else if 2000<(aw s [45]).length then 6
 else 0
def bu(s:List UInt8):Int:=if dD s [45]=true then-(numOf (aw s [45]):Int) else (numOf (aw s [45]):Int)
theorem EH{s:List UInt8}(h:chk s=0):cR (aw s [45])/\0<(aw s [45]).length/\(aw s [45]).length<=2000/\(s≠ [48]->(aw s [45]).getD 0 0≠48):=by
 unfold chk at h;split at h
 ·rename_i h0;subst h0;refine⟨?_,by decide,by decide,fun h=>absurd rfl h⟩;intro c hc;have:aw [48] [45]= [48]:=by decide
  rw[this] at hc;simp at hc;subst hc;decide
 ·split at h;·cases h
  ·rename_i h0 h1;simp only[not_or] at h1;split at h;·cases h
   ·(rename_i h2;split at h;·cases h);·refine⟨fun c hc=> ?_,by omega,by omega,fun _=>h1.2⟩;(have h3:(aw s [45]).all fW=true:=by simpa using h2);have:=List.all_eq_true.1 h3 c hc;simpa [fW] using this
theorem AG{a b:Int}(h:a<b):bq a b= -1:=by rw[bq,if_pos h]
theorem AH{a b:Int}(h:b<a):bq a b=1:=by rw[bq,if_neg (by omega),if_pos h]
theorem Cr(a:Int):bq a a=0:=by rw[bq,if_neg (by omega),if_neg (by omega)]
theorem Ct{x y:Bool×List Int}(hx:WOK x)(h:(bq (bq (dec x) 0) (bq (dec y) 0) !=0||((x.2.length:Int)==0))=true):bq (bq (dec x) 0) (bq (dec y) 0)=bq (dec x) (dec y):=by
 have h0:=(fb hx).1;simp only[Bool.or_eq_true,bne_iff_ne,beq_iff_eq] at h;rcases h with h|h
 ·unfold bq at h ⊢;split at h<;>split at h<;>(repeat' split)<;>first|omega|(exfalso;revert h;simp;done)|(exfalso;apply h;simp;done)|rfl
 ·have:=h0.1 h;rw[this];unfold bq
  (repeat' split)<;>first|omega|rfl
theorem qt{x y:Bool×List Int}(hx:WOK x)(hy:WOK y)(h:(bq (bq (dec x) 0) (bq (dec y) 0) !=0||((x.2.length:Int)==0))=false):
  (x.1=true->bq (valL y.2) (valL x.2)=bq (dec x) (dec y))/\(x.1=false->bq (valL x.2) (valL y.2)=bq (dec x) (dec y)):=by
 obtain⟨h1,h2⟩:=fb hx;obtain⟨h3,h4⟩:=fb hy;simp only[Bool.or_eq_false_iff,bne_eq_false_iff_eq,beq_eq_false_iff_ne] at h;obtain⟨h5,h6⟩:=h;have h5:=lG.1 h5;have hne:=h2 h6;have hy0:dec y≠0:=fun e=>by
  rw[e,Cr] at h5;exact h6 (h1.2 (lG.1 h5))
 have hyl: ¬ (y.2.length:Int)=0:=fun e=>hy0 (h3.1 e);have hne2:=h4 hyl;refine⟨fun e=> ?_,fun e=> ?_⟩
 ·have hxn:=hne.1 e;have hyn:y.1=true:=by
   cases hy1:y.1 with
   |true=>rfl
   |false=>have:=hne2.2 hy1;rw[AG hxn,AH this] at h5;cases h5
  simp only[dec,e,hyn,if_true];unfold bq
  (repeat' split)<;>first|omega|rfl
 ·have hxp:=hne.2 e;have hyn:y.1=false:=by
   cases hy1:y.1 with
   |false=>rfl
   |true=>have:=hne2.1 hy1;rw[AH hxp,AG this] at h5;cases h5
  simp only[dec,e,hyn,Bool.false_eq_true,if_false]
def dv(n:Int):Int:=((Lib.itoa n.natAbs).length:Int)
theorem ss:dv 0=1:=by
 unfold dv;simp[Lib.itoa];rw[Lib.decDigits,dif_pos (by omega)];rfl
theorem kH{u:Nat}{k v:Nat}(hv:0<v)(hu:u<10^k):(Lib.decDigits (u+10^k*v)).length=(Lib.decDigits v).length+k:=by
 rw[ij k u v hv hu,List.length_append];unfold qs;split;·simp[*]
 ·rename_i hk;have:=iW hu (by omega);simp;omega
theorem wm:∀ (l:List Int),Lim l->0<l.length->0<l.getLastD 1->((Lib.decDigits (valL l).toNat).length:Int)=9*((l.length:Int)-1)+((Lib.itoa (l.getLastD 1)).length:Int)
 | [x],h,_,hx=>by
  simp only[List.getLastD_cons,List.getLastD_nil] at hx ⊢;simp only[valL,Int.mul_zero,Int.add_zero,List.length_cons,List.length_nil];unfold Lib.itoa;rw[if_neg (by omega)];omega
 |x::y::r,h,_,hx=>by
  have h2:Lim (y::r):=fun z hz=>h z (by simp[hz]);have hxx:=h x (by simp);have hB:LB=1000000000:=rfl;have hlast:(x::y::r).getLastD 1=(y::r).getLastD 1:=by simp[List.getLastD_cons]
  rw[hlast] at hx ⊢;have ih:=wm (y::r) h2 (by simp) hx;have hpos:0<valL (y::r):=(valL_pos ⟨h2,by omega⟩).2 (by simp);obtain⟨u,hu⟩:=Int.eq_ofNat_of_zero_le hxx.1;obtain⟨v,hv⟩:=Int.eq_ofNat_of_zero_le (Int.le_of_lt hpos);have e:(valL (x::y::r)).toNat=u+10^9*v:=by
   rw[valL,hu,hv,hB];omega
  have hul:u<10^9:=by have:=hxx.2;rw[hu,hB] at this;omega
  rw[e,kH (by omega) hul];rw[hv,Int.toNat_natCast] at ih;simp only[List.length_cons] at ih ⊢;omega
theorem Cu{x:Bool×List Int}(h:WOK x)(hne: ¬ (x.2.length:Int)=0):dv (dec x)=9*((x.2.length:Int)-1)+((Lib.itoa (x.2.getLastD 1)).length:Int):=by
 have hl:0<x.2.length:=by omega
 have hlast:0<x.2.getLastD 1:=by
  have h1:=h.1.2;have h2:x.2.getLastD 1∈x.2:=by
   rw[List.getLastD_eq_getLast?,List.getLast?_eq_some_getLast (by intro e;rw[e] at hl;simp at hl)];exact List.getLast_mem _
  have:=(h.1.1 _ h2).1;omega
 rw[<- wm x.2 h.1.1 hl hlast];unfold dv Lib.itoa dec;rw[if_neg (by omega)];have hv:=valL_nonneg h.1.1;split<;> · congr 3;omega
theorem wq{x:List Int}(h:Lim x)(hl:0<x.length):0<=x.getLastD 1/\x.getLastD 1<LB:=by
 have h2:x.getLastD 1∈x:=by
  rw[List.getLastD_eq_getLast?,List.getLast?_eq_some_getLast (by intro e;rw[e] at hl;simp at hl)];exact List.getLast_mem _
 exact h _ h2
theorem wt{x:Bool×List Int}(h:WOK x)(hc:x.2.length<CAP)(hne: ¬ (x.2.length:Int)=0):
  (0<=IntKind.i64.wrap ((x.2.length:Int)-1)/\IntKind.i64.wrap ((x.2.length:Int)-1)<(x.2.length:Int))/\nth (.int .u32) x.2 (IntKind.i64.wrap ((x.2.length:Int)-1))=x.2.getLastD 1/\
   IntKind.i64.wrap (x.2.getLastD 1)=x.2.getLastD 1/\IntKind.i64.wrap (IntKind.i64.wrap (9*IntKind.i64.wrap ((x.2.length:Int)-1))+((Lib.itoa (x.2.getLastD 1)).length:Int))=dv (dec x):=by
 have hc:x.2.length<1000000000000:=hc;have hl:0<x.2.length:=by omega
 have h1:=wq h.1.1 hl;have h2:=nM h1.1 h1.2;have hB:LB=1000000000:=rfl;rw[wo,last_eq hl,wi (x:=9*_) (by omega) (by omega),wi (x:=x.2.getLastD 1) (by omega) (by omega),wo,Cu h hne];exact⟨⟨by omega,by omega⟩,rfl,rfl,rfl⟩
theorem AJ(x:Int):IntKind.u64.wrap x=x%18446744073709551616:=by
 simp[IntKind.wrap,IntKind.signed,IntKind.bits]
theorem ke{n:Int}(h:I64 n):(n<0->IntKind.u64.wrap (0-IntKind.u64.wrap n)=(n.natAbs:Int))/\(¬n<0->IntKind.u64.wrap n=(n.natAbs:Int)):=by
 unfold I64 at h;refine⟨fun hn=> ?_,fun hn=> ?_⟩;·rw[AJ,AJ];omega
 ·rw[w64 (by omega) (by omega)];omega
theorem nn{u:Nat}{m:List Int}{n:Nat}(g1:m++limbs u=limbs n)(g2:u<18446744073709551616)(h:0<(u:Int)):
  ∃ a:Nat,IntKind.u64.wrap ((u:Int).tdiv 1000000000)=(a:Int)/\m++ [IntKind.u32.wrap ((u:Int).tmod 1000000000)]++limbs a=limbs n/\a<18446744073709551616/\a<u:=by
 have hB:LB=1000000000:=rfl;obtain⟨e1,e2⟩:=tdiv_nn (n:=(u:Int)) (by omega);rw[e1,e2,hB];refine⟨u/1000000000,?_,?_,by omega,by omega⟩;·rw[w64 (by omega) (by omega)];omega
 ·rw[w32 (by omega) (by omega),<- g1];conv=>rhs;rw[limbs,dif_neg (by omega)]
  simp
theorem kU{n:Nat}(h:n<18446744073709551616):(limbs n).length<=3:=limbs_len (k:=3) (by
 have:LB^3=1000000000000000000000000000:=rfl;rw[this];omega)
theorem kf{n:Int}(h:I64 n):WOK (enc n)/\(enc n).2.length<CAP/\(enc n).2.length<=3:=by
 unfold I64 at h;have:=kU (n:=n.natAbs) (by omega);exact⟨enc_ok n,Nat.lt_of_le_of_lt this (by unfold CAP;omega),this⟩
theorem EI{l:List Int}:l.drop (l.length-0)= []:=by simp
theorem wu{m:List Int}{k:Nat}{z:Int}(hm:Lim m)(h2:m.length<=2)(hk:k<m.length)(hz:z=valL (m.drop (m.length-k))):
  IntKind.u64.wrap (IntKind.u64.wrap (z*1000000000)+IntKind.u64.wrap (m.getD (m.length-1-k) 0))=valL (m.drop (m.length-(k+1))):=by
 have hB:LB=1000000000:=rfl;have hx:=hm.getD (m.length-1-k);have hs:=fc hk;have hl:Lim (m.drop (m.length-k)):=fun x hx=>hm x (List.mem_of_mem_drop hx);have h0:=valL_nonneg hl;have h1:=valL_lt hl;have h3:(m.drop (m.length-k)).length=k:=by simp;omega
 rw[h3] at h1;have h4:LB^k<=LB^1:=pow_mono (by omega);have h5:LB^1=1000000000:=rfl;rw[<- hz] at h0 h1 hs;rw[show m.length-(k+1)=m.length-1-k by omega,hs];rw[hB] at hx ⊢;rw[w64 hx.1 (by omega),w64 (x:=z*1000000000) (by omega) (by omega),w64 (by omega) (by omega)];omega
theorem set_drop{l:List Int}{j:Nat}{v:Int}(h:j<l.length):(l.set j v).drop j=v::l.drop (j+1):=by
 rw[List.set_eq_take_append_cons_drop,if_pos h,List.drop_append_of_le_length (by simp;omega)];simp[List.drop_take]
theorem np{l:List Int}{i j:Nat}{v:Int}(h:i<j):(l.set i v).drop j=l.drop j:=by
 rw[List.drop_set];simp;omega
theorem wv{m out:List Int}{k:Nat}{r b:Int}(hm:Lim m)(hb0:0<b)(hb1:b<LB)(hk:k<m.length)(g1:out.length=m.length)(g2:Lim out)(g3:0<=r)(g4:r<b)
  (g5:valL (out.drop (m.length-k))*b+r=valL (m.drop (m.length-k))) {n:Int} (hn:n=r*1000000000+m.getD (m.length-1-k) 0):
  0<=n/\n<18446744073709551616/\0<=n/b/\n/b<LB/\(out.set (m.length-1-k) (n/b)).length=m.length/\Lim (out.set (m.length-1-k) (n/b))/\0<=n%b/\n%b<b/\
   valL ((out.set (m.length-1-k) (n/b)).drop (m.length-(k+1)))*b+n%b=valL (m.drop (m.length-(k+1))):=by
 have hB:LB=1000000000:=rfl;have hx:=hm.getD (m.length-1-k);have hs:=fc hk;have h0:0<=r*1000000000:=by omega
 have hq:n/b<LB:=Int.ediv_lt_of_lt_mul hb0 (by
  have:r*LB+LB<=b*LB:=by
   have h:=Int.mul_le_mul_of_nonneg_right (show r+1<=b by omega) (show (0:Int)<=LB by decide);rw[Int.add_mul,Int.one_mul] at h;exact h
  rw[hB] at this hx ⊢;rw[Int.mul_comm];omega)
 have hq0:0<=n/b:=Int.ediv_nonneg (by omega) (by omega);have e:n%b+b*(n/b)=n:=Int.emod_add_mul_ediv n b;refine⟨by omega,by rw[hB] at hx hb1;omega,hq0,hq,by simp[g1],set_lim g2 hq0 hq,Int.emod_nonneg _ (by omega),Int.emod_lt_of_pos _ hb0,?_⟩;rw[show m.length-(k+1)=m.length-1-k by omega,hs,set_drop (by omega),valL,show m.length-1-k+1=m.length-k by omega,<- g5,Int.add_mul,Int.mul_assoc,Int.mul_add,Int.mul_comm (n/b)];have hLr:LB*r=r*1000000000:=by rw[hB,Int.mul_comm]
 omega
def wx(b:Int):Prop:=0<b/\b<LB
def wy(b:Int):Prop:=0<=b/\b<LB
def jL(m:List Int)(b:Int)(k:Nat)(r:Int)(out:List Int):Prop:=
 out.length=m.length/\Lim out/\0<=r/\r<b/\valL (out.drop (m.length-k))*b+r=valL (m.drop (m.length-k))
def iA(m:List Int)(b:Int)(k:Nat)(c:Int)(out:List Int):Prop:=
 k<=m.length/\out.length=k/\Lim out/\0<=c/\c<LB/\valL out+LB^k*c=valL (m.take k)*b
theorem Cv{m out:List Int}{r b:Int}(hm:Lim m)(hb0:0<b)(g1:out.length=m.length)(g2:Lim out)(g3:0<=r)(g4:r<b)(g5:valL out*b+r=valL m):
  out=padL (valL m/b).toNat m.length/\r=valL m%b:=by
 have h0:=valL_nonneg g2;have e1:valL m/b=valL out:=by
  rw[<- g5,Int.add_comm,Int.add_mul_ediv_right _ _ (by omega),Int.ediv_eq_zero_of_lt g3 g4,Int.zero_add]
 have e2:valL m%b=r:=by
  rw[<- g5,Int.add_comm,Int.add_mul_emod_self_right,Int.emod_eq_of_lt g3 g4]
 exact⟨g2.pad g1 (by rw[e1];omega),e2.symm⟩
theorem um{m out:List Int}{k:Nat}{c b:Int}(hm:Lim m)(hb0:0<=b)(hb1:b<LB)(g2:out.length=k)(g3:Lim out)(g4:0<=c)(g5:c<LB)(g6:valL out+LB^k*c=valL (m.take k)*b):
  IntKind.u64.wrap (IntKind.u64.wrap (IntKind.u64.wrap (m.getD k 0)*IntKind.u64.wrap b)+c)=m.getD k 0*b+c/\IntKind.u32.wrap ((m.getD k 0*b+c).tmod 1000000000)=(m.getD k 0*b+c)%LB/\IntKind.u64.wrap ((m.getD k 0*b+c).tdiv 1000000000)=(m.getD k 0*b+c)/LB/\
   Lim (out++ [(m.getD k 0*b+c)%LB])/\0<=(m.getD k 0*b+c)/LB/\(m.getD k 0*b+c)/LB<LB/\valL (out++ [(m.getD k 0*b+c)%LB])+LB^(k+1)*((m.getD k 0*b+c)/LB)=valL (m.take (k+1))*b:=by
 have hx:=hm.getD k;have hbd:=mul_bound hx ⟨hb0,hb1⟩ (a:=0) (c:=c) ⟨by omega,by decide⟩ ⟨g4,g5⟩;have hB:LB=1000000000:=rfl;have h4:LB*LB=1000000000000000000:=rfl;obtain⟨n,hn⟩:∃ n,n=m.getD k 0*b+c:=⟨_,rfl⟩;have hn0:0<=n:=by omega
 have hn1:n<LB*LB:=by omega
 obtain⟨e1,e2,e3⟩:=mi hn0 hn1;have hr:0<=n%LB/\n%LB<LB:=⟨Int.emod_nonneg _ (by decide),Int.emod_lt_of_pos _ (by decide)⟩;rw[w64 hx.1 (by omega),w64 hb0 (by omega),w64 hbd.1 (by omega),<- hn];refine⟨e1,e2,e3,g3.append (Lim.one hr.1 hr.2),Int.ediv_nonneg hn0 (by decide),Int.ediv_lt_of_lt_mul (by decide) hn1,?_⟩;rw[valL_append,valL_one,g2,take_val,Int.pow_succ];have h1:n%LB+LB*(n/LB)=n:=Int.emod_add_mul_ediv n LB;have h2:LB^k*(n%LB)+LB^k*LB*(n/LB)=LB^k*n:=by rw[Int.mul_assoc,<- Int.mul_add,h1]
 have h3:LB^k*n=LB^k*m.getD k 0*b+LB^k*c:=by rw[hn,Int.mul_add,Int.mul_assoc]
 rw[Int.add_mul];omega
theorem zf{m out:List Int}{c b:Int}(hm:Lim m)(hb0:0<=b)(g2:out.length=m.length)(g3:Lim out)(g4:0<=c)(g5:c<LB)(g6:valL out+LB^m.length*c=valL m*b):
  out++ [IntKind.u32.wrap c]=padL (valL m*b).toNat (m.length+1):=by
 have hB:LB=1000000000:=rfl;rw[w32 g4 (by omega)];refine(g3.append (Lim.one g4 g5)).pad (by simp[g2]) ?_;have h0:0<=valL m*b:=Int.mul_nonneg (valL_nonneg hm) hb0;rw[valL_append,valL_one,g2,g6];omega
theorem wz{m:List Int}{b:Int}(hb:wx b):jL m b 0 0 (List.replicate m.length 0):=by
 obtain⟨r1,r2,r3⟩:=replicate_zero m.length;refine⟨by simp,r1,Int.le_refl _,hb.1,?_⟩;simp[valL]
theorem Cw{len k:Nat}(h:k<len):((len:Int)-1-(k:Int)).toNat=len-1-k:=by omega
theorem zg{m out:List Int}{k:Nat}{r b:Int}(hm:Lim m)(hb:wx b)(hk:k<m.length)(h:jL m b k r out):
  jL m b (k+1) ((IntKind.u64.wrap (IntKind.u64.wrap (r*1000000000)+IntKind.u64.wrap (m.getD (m.length-1-k) 0))).tmod (IntKind.u64.wrap b))
   (out.set ((m.length:Int)-1-(k:Int)).toNat (IntKind.u32.wrap (IntKind.u64.wrap ((IntKind.u64.wrap (IntKind.u64.wrap (r*1000000000)+IntKind.u64.wrap (m.getD (m.length-1-k) 0))).tdiv (IntKind.u64.wrap b))))):=by
 obtain⟨g1,g2,g3,g4,g5⟩:=h;obtain⟨b0,b1⟩:=hb;obtain⟨n0,n1,n2,n3,n4,n5,n6,n7,n8⟩:=wv hm b0 b1 hk g1 g2 g3 g4 g5 rfl;have hx:=hm.getD (m.length-1-k);have hB:LB=1000000000:=rfl;have e1:r*1000000000<=1000000000*1000000000:=Int.mul_le_mul_of_nonneg_right (by omega) (by decide);rw[w64 hx.1 (by omega),w64 (x:=r*1000000000) (by omega) (by omega),w64 (x:=b) (by omega) (by omega),w64 n0 n1,Int.tdiv_eq_ediv_of_nonneg n0,Int.tmod_eq_emod_of_nonneg n0,w64 n2 (by omega),w32 n2 (by omega),Cw hk];exact⟨n4,n5,n6,n7,n8⟩
theorem AK{b:Int}(hb:wx b):IntKind.u64.wrap b≠0:=by
 obtain⟨b0,b1⟩:=hb;have hB:LB=1000000000:=rfl;rw[w64 (by omega) (by omega)];omega
theorem Cy{m out:List Int}{r b:Int}(hm:Lim m)(hb:wx b)(h:jL m b m.length r out):
  out=padL (valL m/b).toNat m.length/\IntKind.u32.wrap r=valL m%b:=by
 obtain⟨g1,g2,g3,g4,g5⟩:=h;have hB:LB=1000000000:=rfl;obtain⟨b0,b1⟩:=hb;rw[Nat.sub_self,List.drop_zero,List.drop_zero] at g5;obtain⟨h1,h2⟩:=Cv hm b0 g1 g2 g3 g4 g5;rw[w32 g3 (by omega)];exact⟨h1,h2⟩
theorem uo{m:List Int}{b:Int}:iA m b 0 0 []:=by
 refine⟨by omega,rfl,fun x hx=>by simp at hx,by decide,by decide,by simp[valL]⟩
theorem wA{m out:List Int}{k:Nat}{c b:Int}(hm:Lim m)(hl:m.length<CAP)(hb:wy b)(hk:(k:Int)<(m.length:Int))(h:iA m b k c out):
  ∃ a:Nat,IntKind.i64.wrap ((k:Int)+1)=(a:Int)/\iA m b a
   (IntKind.u64.wrap ((IntKind.u64.wrap (IntKind.u64.wrap (IntKind.u64.wrap (nth (Ty.int IntKind.u32) m (k:Int))*IntKind.u64.wrap b)+c)).tdiv 1000000000))
   (out++ [IntKind.u32.wrap ((IntKind.u64.wrap (IntKind.u64.wrap (IntKind.u64.wrap (nth (Ty.int IntKind.u32) m (k:Int))*IntKind.u64.wrap b)+c)).tmod 1000000000)])/\m.length-a<m.length-k:=by
 obtain⟨g1,g2,g3,g4,g5,g6⟩:=h;have hC:CAP=1000000000000:=rfl;obtain⟨q1,q2,q3,q4,q5,q6,q7⟩:=um hm hb.1 hb.2 g2 g3 g4 g5 g6;refine⟨k+1,by rw[wo];simp,?_,by omega⟩;rw[fa,q1,q2,q3];exact⟨by omega,by simp[g2],q4,q5,q6,q7⟩
theorem zh{m out:List Int}{k:Nat}{c b:Int}(hm:Lim m)(hb:wy b)(hk: ¬ (k:Int)<(m.length:Int))(h:iA m b k c out):
  out++ [IntKind.u32.wrap c]=padL (valL m*b).toNat (m.length+1):=by
 obtain⟨g1,g2,g3,g4,g5,g6⟩:=h;have:k=m.length:=by omega
 subst this;rw[List.take_length] at g6;exact zf hm hb.1 g2 g3 g4 g5 g6
theorem lJ(s p:List UInt8):(aw s p).length<=s.length:=by
 unfold aw;split<;>simp
theorem jM:chk [48]=0:=by decide
theorem iB{s:List UInt8}(h0:s≠ [48])(h:aw s [45]= []∨(aw s [45]).getD 0 0=48):chk s=5:=by
 unfold chk;rw[if_neg h0,if_pos (h.imp (fun h=>by rw[h];rfl) id)]
theorem EJ{c:UInt8}(h1: ¬ (c.toNat:Int)<48)(h2: ¬ (57:Int)<(c.toNat:Int)):fW c=true:=by
 unfold fW;simp;omega
theorem lK{s:List UInt8}{k:Nat}(h0:s≠ [48])(h: ¬ (aw s [45]= []∨(aw s [45]).getD 0 0=48))(hk:k<(aw s [45]).length)
  (hb:((aw s [45]).getD k 0).toNat<48∨57<((aw s [45]).getD k 0).toNat):chk s=5:=by
 unfold chk;rw[if_neg h0,if_neg (fun h'=>h (h'.imp (fun h=>List.eq_nil_of_length_eq_zero h) id)),if_pos];rw[Bool.eq_false_iff];intro ha;have:=List.all_eq_true.1 ha ((aw s [45]).getD k 0) (by
  rw[List.getD_eq_getElem?_getD,List.getElem?_eq_getElem hk];exact List.getElem_mem hk)
 unfold fW at this;simp only[Bool.and_eq_true,decide_eq_true_eq] at this;omega
theorem iC{s:List UInt8}(h0:s≠ [48])(h: ¬ (aw s [45]= []∨(aw s [45]).getD 0 0=48))(ha:(aw s [45]).all fW=true):
  chk s=if 2000<(aw s [45]).length then 6 else 0:=by
 unfold chk;rw[if_neg h0,if_neg (fun h'=>h (h'.imp (fun h=>List.eq_nil_of_length_eq_zero h) id)),if_neg (by rw[ha];decide)]
theorem rQ{l:List UInt8}{k:Nat}(h:(l.take k).all fW=true)(hd:fW (l.getD k 0)=true):(l.take (k+1)).all fW=true:=by
 by_cases hk:k<l.length
 ·rw[List.take_add_one,List.all_append,h,List.getElem?_eq_getElem hk];rw[List.getD_eq_getElem?_getD,List.getElem?_eq_getElem hk] at hd;simpa using hd
 ·rw[List.take_of_length_le (by omega)] at h ⊢;exact h
theorem c9(l:List UInt8):(bytesOf l).length=l.length:=by simp[bytesOf]
theorem su(l:List UInt8)(k:Nat):nth (.int .u8) (bytesOf l) (k:Int)=((l.getD k 0).toNat:Int):=by
 show (bytesOf l).getD (k:Int).toNat 0=_;rw[Int.toNat_natCast,bytesOf];simp only[List.getD_eq_getElem?_getD,List.getElem?_map];cases l[k]? <;>simp
theorem zi{s p:List UInt8}(hp:0<p.length):dD s p=decide ((aw s p).length<s.length):=by
 unfold aw;split<;>rename_i h;·rw[h];unfold dD at h;simp only[Bool.and_eq_true,decide_eq_true_eq] at h;simp;omega
 ·simp only[Bool.not_eq_true] at h;rw[h];simp
theorem dm(a b:List UInt8):numOf (a++b)=numOf a*10^b.length+numOf b:=by
 have key:∀ (b:List UInt8) (x:Nat),b.foldl (fun n c=>n*10+(c.toNat-48)) x=x*10^b.length+b.foldl (fun n c=>n*10+(c.toNat-48)) 0:=by
  intro b;induction b with
  |nil=>intro x;simp
  |cons c b ih=>
   intro x;rw[List.foldl_cons,ih,List.foldl_cons,ih (0*10+(c.toNat-48)),List.length_cons,Nat.pow_succ];rw[Nat.zero_mul,Nat.zero_add,Nat.add_mul,Nat.mul_assoc,Nat.mul_comm 10,Nat.add_assoc]
 unfold numOf;rw[List.foldl_append,key]
def ReadPhi(D:List UInt8)(r:Nat)(out:List Int):Prop:=
 out.length=r/\Lim out/\valL out=(numOf (D.drop (D.length-9*r)):Int)/\9*r<D.length+9
theorem read_start{D:List UInt8}:ReadPhi D 0 []:=by
 refine⟨rfl,fun x hx=>by simp at hx,?_,by omega⟩;simp[valL,numOf]
theorem Ho(r:Nat):(LB^r:Int)=((10^(9*r):Nat):Int):=by
 rw[Nat.pow_mul];show (1000000000:Int)^r=((1000000000^r:Nat):Int);rw[Int.natCast_pow];rfl
theorem read_next{D:List UInt8}{r:Nat}{out:List Int}(hd:cR D)(h:ReadPhi D r out)(hr:0<(D.length:Int)-9*(r:Int)){c:List UInt8}
  (hc:c=(D.take (D.length-9*r)).drop (D.length-9*(r+1))):
  c≠ []/\cR c/\c.length<=9/\ReadPhi D (r+1) (out++ [IntKind.u32.wrap (numOf c)])/\D.length-9*(r+1)<=D.length-9*r:=by
 obtain⟨h1,h2,h3,h4⟩:=h;have hl:c.length=(D.length-9*r)-(D.length-9*(r+1)):=by rw[hc,List.length_drop,List.length_take];omega
 have hdc:cR c:=fun x hx=>hd x (by rw[hc] at hx;exact List.mem_of_mem_take (List.mem_of_mem_drop hx));have hn:=jK hdc;have hn9:10^c.length<=10^9:=Nat.pow_le_pow_right (by omega) (by omega);have e:D.drop (D.length-9*(r+1))=c++D.drop (D.length-9*r):=by
  rw[hc];have hle:D.length-9*(r+1)<=D.length-9*r:=by omega
  have hle2:D.length-9*r<=D.length:=by omega
  generalize D.length-9*(r+1)=j at hle;generalize D.length-9*r=i at hle hle2;conv=>lhs;rw[<- List.take_append_drop i D]
  rw[List.drop_append_of_le_length (by rw[List.length_take];omega)]
 have hB:LB=1000000000:=rfl;have hw:IntKind.u32.wrap (numOf c:Int)=(numOf c:Int):=w32 (by omega) (by omega);refine⟨fun h0=>by rw[h0] at hl;simp at hl;omega,hdc,by omega,⟨by simp[h1],?_,?_,by omega⟩,by omega⟩;·rw[hw];exact h2.append (Lim.one (by omega) (by omega))
 ·rw[hw,valL_append,valL_one,h3,h1,e,dm,Ho,show (D.drop (D.length-9*r)).length=9*r by rw[List.length_drop];omega];rw[Int.natCast_add,Int.natCast_mul,Int.mul_comm,Int.add_comm]
theorem read_end{s:List UInt8}{r:Nat}{out:List Int}(h:ReadPhi (aw s [45]) r out)(hr: ¬0<((aw s [45]).length:Int)-9*(r:Int)):
  dec (decide ((aw s [45]).length<s.length),out)=bu s:=by
 obtain⟨h1,h2,h3,h4⟩:=h;rw[show (aw s [45]).length-9*r=0 by omega,List.drop_zero] at h3;unfold dec bu;rw[zi (by simp)];simp only[h3]
def lL(s:List UInt8):Prop:=s.length<70368744177664
theorem EK(D:List UInt8):((!D== [])=true->(!D== [])=true/\(0:Int)<=0/\(0:Int)<(D.length:Int))/\((!D== [])=true->(!D== [])=true)/\((D== [])=false->(!D== [])=true):=by
 cases D with
 |nil=>simp
 |cons c l=>exact⟨fun h=>⟨h,by omega,by simp⟩,fun h=>h,fun h=>by rw[h];rfl⟩
theorem gp(D:List UInt8):(D== []||((D.getD (Int.toNat 0) 0).toNat:Int)==48)=true↔(D= []∨D.getD 0 0=48):=by
 have e:∀ c:UInt8,((c.toNat:Int)==48)=true↔c=48:=fun c=>by
  rw[beq_iff_eq];constructor;·intro h;exact UInt8.toNat.inj (by show c.toNat=48;omega)
  ·rintro rfl;rfl
 rw[Bool.or_eq_true,e];simp
theorem dB{D:List UInt8}(h:(D== []||((D.getD (Int.toNat 0) 0).toNat:Int)==48)=false): ¬ (D= []∨D.getD 0 0=48):=by
 rw[<- gp,h];decide
theorem jN{D:List UInt8}{k:Nat}(h:(decide (nth (Ty.int IntKind.u8) (bytesOf D) (k:Int)<48)||decide (57<nth (Ty.int IntKind.u8) (bytesOf D) (k:Int)))=true):
  (D.getD k 0).toNat<48∨57<(D.getD k 0).toNat:=by
 rw[su] at h;simp only[Bool.or_eq_true,decide_eq_true_eq] at h;refine h.imp (fun h=> ?_) (fun h=> ?_);·have h':((D.getD k 0).toNat:Int)<48:=h;omega
 ·have h':(57:Int)<((D.getD k 0).toNat:Int):=h;omega
theorem Cz{D:List UInt8}{k:Nat}(h:(decide (nth (Ty.int IntKind.u8) (bytesOf D) (k:Int)<48)||decide (57<nth (Ty.int IntKind.u8) (bytesOf D) (k:Int)))=false):fW (D.getD k 0)=true:=by
 rw[su] at h;simp only[Bool.or_eq_false_iff,decide_eq_false_iff_not] at h;exact EJ h.1 h.2
def put(xs:List Int)(k:Nat)(v:Int):List Int:=padL (v%LB^k).toNat k++xs.drop k
theorem lbpos(k:Nat):0<LB^k:=Int.pow_pos (by decide)
theorem AL(v:Int)(k:Nat):valL (padL (v%LB^k).toNat k)=v%LB^k:=by
 have h0:=Int.emod_nonneg v (Int.ne_of_gt (lbpos k));have h1:=Int.emod_lt_of_pos v (lbpos k);rw[padL_val _ _ (by omega)];omega
theorem uq{xs:List Int}{k:Nat}(v:Int)(h:k<=xs.length):(put xs k v).length=xs.length:=by
 unfold put;rw[List.length_append,padL_len,List.length_drop];omega
theorem AM{xs:List Int}(h:Lim xs)(k:Nat)(v:Int):Lim (put xs k v):=(padL_lim _ _).append fun x hx=>h x (List.mem_of_mem_drop hx)
theorem EL{xs:List Int}{k:Nat}(v:Int):(put xs k v).take k=padL (v%LB^k).toNat k:=by
 unfold put;rw[List.take_append_of_le_length (by rw[padL_len];omega),List.take_of_length_le (by rw[padL_len];omega)]
theorem EM{xs:List Int}{k:Nat}(v:Int):(put xs k v).drop k=xs.drop k:=by
 unfold put;rw[List.drop_append,padL_len,List.drop_eq_nil_of_le (by rw[padL_len];omega),Nat.sub_self];rfl
theorem Hp{xs:List Int}{k:Nat}(v u:Int):put (put xs k v) k (valL ((put xs k v).take k)+u)=put xs k (v+u):=by
 rw[EL,AL];have:(v%LB^k+u)%LB^k=(v+u)%LB^k:=by rw[Int.emod_add_emod]
 rw[put,this,EM,put]
theorem EN{xs xs0:List Int}{k:Nat}{v b:Int}(h:Lim xs)(hl:k<=xs.length)(hd:xs.drop k=xs0.drop k)(hv:valL (xs.take k)=v+LB^k*b):xs=put xs0 k v:=by
 have hlim:Lim (xs.take k):=fun x hx=>h x (List.mem_of_mem_take hx);have hlen:(xs.take k).length=k:=by rw[List.length_take];omega
 have h0:=valL_nonneg hlim;have h1:=valL_lt hlim;rw[hlen] at h1;have e:v%LB^k=valL (xs.take k):=by
  rw[show v=valL (xs.take k)+LB^k*(-b) by rw[Int.mul_neg,hv];omega,Int.add_mul_emod_self_left,Int.emod_eq_of_lt h0 h1]
 have e2:=hlim.pad hlen (v:=(v%LB^k).toNat) (by rw[e];omega);unfold put;rw[<- e2,<- hd,List.take_append_drop]
def iX(xs0 o:List Int)(q:Int)(i:Nat)(c b:Int)(xs:List Int):Prop:=
 i<=o.length+1/\xs.length=xs0.length/\Lim xs/\xs.drop i=xs0.drop i/\(0<=c/\c<LB)/\(i=o.length+1->c=0)/\(0<=b/\b<=1)/\
  valL (xs.take i)+q*valL (o.take i)=valL (xs0.take i)+LB^i*(c+b)
theorem zj{xs o:List Int}{q:Int}(h:Lim xs):iX xs o q 0 0 0 xs:=
 ⟨by omega,rfl,h,rfl,⟨by decide,by decide⟩,fun _=>rfl,⟨by decide,by decide⟩,by simp[valL]⟩
theorem sv{xs xs0:List Int}{i:Nat}(h:xs.drop i=xs0.drop i):xs.getD i 0=xs0.getD i 0:=by
 have e:∀ l:List Int,l.getD i 0=(l.drop i).getD 0 0:=fun l=>by simp[List.getD_eq_getElem?_getD]
 rw[e,e,h]
theorem zk{o:List Int}{q c:Int}(i:Nat)(ho:Lim o)(hq:0<=q/\q<LB)(hc:0<=c/\c<LB):0<=c+q*o.getD i 0/\c+q*o.getD i 0<LB*LB/\0<=q*o.getD i 0/\q*o.getD i 0<=LB*LB:=by
 have hb:=mul_bound hq (ho.getD i) (a:=0) (c:=c) ⟨by decide,by decide⟩ hc;omega
theorem nq{xs:List Int}{i:Nat}{v:Int}:(xs.set i v).take i=xs.take i:=by
 rw[List.take_set,List.set_eq_of_length_le (by rw[List.length_take];omega)]
theorem wB{xs:List Int}{i:Nat}{v:Int}(h:i<xs.length):(xs.set i v).getD i 0=v:=by
 simp[List.getD_eq_getElem?_getD,h]
theorem zl{xs0 o xs:List Int}{q c b n v b2:Int}{i:Nat}(ho:Lim o)(hq:0<=q/\q<LB)(hlen:o.length+1<=xs0.length)(h:iX xs0 o q i c b xs)(hi:i<o.length+1)(hn:n=c+q*o.getD i 0)
  (hv:0<=v/\v<LB) (hb2:0<=b2/\b2<=1) (he:v-LB*b2=xs.getD i 0-n%LB-b):iX xs0 o q (i+1) (n/LB) b2 (xs.set i v):=by
 obtain⟨g1,g2,g3,g4,g5,g6,g7,g8⟩:=h;obtain⟨n0,n1,n2,n3⟩:=zk i ho hq g5;rw[<- hn] at n0 n1;have hm:n%LB+LB*(n/LB)=n:=Int.emod_add_mul_ediv n LB;refine⟨by omega,by rw[List.length_set,g2],set_lim g3 hv.1 hv.2,?_,⟨Int.ediv_nonneg n0 (by decide),Int.ediv_lt_of_lt_mul (by decide) n1⟩,fun h=> ?_,hb2,?_⟩;·rw[np (by omega),<- List.drop_drop,g4,List.drop_drop]
 ·have hz:o.getD i 0=0:=by rw[List.getD_eq_getElem?_getD,List.getElem?_eq_none (by omega)];rfl
  rw[hn,hz,Int.mul_zero,Int.add_zero];exact Int.ediv_eq_zero_of_lt g5.1 g5.2
 ·rw[take_val,take_val,take_val,nq,wB (by omega),<- sv g4,Int.mul_add,Int.pow_succ];have e1:q*(LB^i*o.getD i 0)=LB^i*(q*o.getD i 0):=by rw[<- Int.mul_assoc,Int.mul_comm q,Int.mul_assoc]
  have e2:LB^i*v+LB^i*(q*o.getD i 0)+LB^i*(c+b)=LB^i*(v+q*o.getD i 0+(c+b)):=by simp only[Int.mul_add]
  have e3:LB^i*LB*(n/LB+b2)+LB^i*xs.getD i 0=LB^i*(LB*(n/LB+b2)+xs.getD i 0):=by simp only[Int.mul_add,Int.mul_assoc]
  have e4:v+q*o.getD i 0+(c+b)=LB*(n/LB+b2)+xs.getD i 0:=by rw[Int.mul_add];omega
  rw[e4] at e2;rw[e1];omega
theorem wC{xs0 o xs:List Int}{q c b:Int}{i:Nat}(hlen:o.length+1<=xs0.length)(h:iX xs0 o q i c b xs)(hi: ¬i<o.length+1):
  xs=put xs0 (o.length+1) (valL (xs0.take (o.length+1))-q*valL o)/\decide (0<b)=decide (valL (xs0.take (o.length+1))<q*valL o):=by
 obtain⟨g1,g2,g3,g4,g5,g6,g7,g8⟩:=h;have:i=o.length+1:=by omega
 subst this;rw[g6 rfl,Int.zero_add,List.take_of_length_le (l:=o) (by omega)] at g8;refine⟨EN (b:=b) g3 (by omega) g4 (by omega),?_⟩;have hlim:Lim (xs.take (o.length+1)):=fun x hx=>g3 x (List.mem_of_mem_take hx);have h0:=valL_nonneg hlim;have h1:=valL_lt hlim;rw[show (xs.take (o.length+1)).length=o.length+1 by rw[List.length_take];omega] at h1;congr 1;by_cases hb:b=0;·subst hb;simp only[Int.mul_zero] at g8;exact propext ⟨fun h=>by omega,fun h=>by omega⟩
 ·have:b=1:=by omega
  subst this;simp only[Int.mul_one] at g8;exact propext ⟨fun h=>by omega,fun h=>by omega⟩
def iY(xs0 o:List Int)(i:Nat)(c:Int)(xs:List Int):Prop:=
 i<=o.length+1/\xs.length=xs0.length/\Lim xs/\xs.drop i=xs0.drop i/\(0<=c/\c<=1)/\valL (xs.take i)+LB^i*c=valL (xs0.take i)+valL (o.take i)
theorem zm{xs o:List Int}(h:Lim xs):iY xs o 0 0 xs:=⟨by omega,rfl,h,rfl,⟨by decide,by decide⟩,by simp[valL]⟩
theorem zn{xs0 o xs:List Int}{c n:Int}{i:Nat}(ho:Lim o)(hlen:o.length+1<=xs0.length)(h:iY xs0 o i c xs)(hi:i<o.length+1)(hn:n=xs.getD i 0+c+o.getD i 0):
  iY xs0 o (i+1) (IntKind.u32.wrap (n.tdiv 1000000000)) (xs.set i (IntKind.u32.wrap (n.tmod 1000000000))):=by
 obtain⟨g1,g2,g3,g4,g5,g6⟩:=h;have hx:=g3.getD i;have ho:=ho.getD i;have hB:LB=1000000000:=rfl;have n0:0<=n:=by omega
 have hm:n%LB+LB*(n/LB)=n:=Int.emod_add_mul_ediv n LB;have hr:0<=n%LB/\n%LB<LB:=⟨Int.emod_nonneg _ (by decide),Int.emod_lt_of_pos _ (by decide)⟩;have hq0:0<=n/LB:=Int.ediv_nonneg n0 (by decide);have hq1:n/LB<=1:=by rw[hB] at hx ho ⊢;omega
 rw[(tdiv_nn n0).1,(tdiv_nn n0).2,w32 hr.1 (by omega),w32 (x:=n/LB) (by omega) (by omega)];refine⟨by omega,by rw[List.length_set,g2],set_lim g3 hr.1 hr.2,?_,⟨hq0,hq1⟩,?_⟩;·rw[np (by omega),<- List.drop_drop,g4,List.drop_drop]
 ·rw[take_val,take_val,take_val,nq,wB (by omega),<- sv g4,Int.pow_succ];have e2:LB^i*(n%LB)+LB^i*LB*(n/LB)=LB^i*n:=by rw[Int.mul_assoc,<- Int.mul_add,hm]
  have e3:LB^i*n=LB^i*xs.getD i 0+LB^i*c+LB^i*o.getD i 0:=by rw[hn,Int.mul_add,Int.mul_add]
  omega
theorem EO{xs0 o xs:List Int}{c:Int}{i:Nat}(hlen:o.length+1<=xs0.length)(h:iY xs0 o i c xs)(hi: ¬i<o.length+1):
  xs=put xs0 (o.length+1) (valL (xs0.take (o.length+1))+valL o):=by
 obtain⟨g1,g2,g3,g4,g5,g6⟩:=h;have:i=o.length+1:=by omega
 subst this;rw[List.take_of_length_le (l:=o) (by omega)] at g6;exact EN (b:= -c) g3 (by omega) g4 (by rw[Int.mul_neg];omega)
end Go.Cm
end
section
namespace Go.Cm
open Go.Proofs
structure nr (X V P top t2 D1 D2:Int):Prop where
 hP:0<P
 hX0:(top*LB+t2)*P<=X
 hX1:X<(top*LB+t2)*P+P
 ht:0<=t2/\t2<LB
 htop:0<=top
 hV0:(D1*LB+D2)*P<=V
 hV1:V<(D1*LB+D2)*P+P
 hD1:1<=D1
 hD2:0<=D2/\D2<LB
 hXV:X<V*LB
namespace nr
variable {X V P top t2 D1 D2:Int} (g:nr X V P top t2 D1 D2)
include g
theorem vpos:0<V:=by
 have h1:0<D1*LB+D2:=by
  have:=Int.mul_le_mul_of_nonneg_right g.hD1 (show (0:Int)<=LB by decide);have:=g.hD2.1;have:(0:Int)<LB:=by decide
  omega
 have:=Int.mul_pos h1 g.hP;have:=g.hV0;omega
theorem xpos:0<=X:=by
 have h1:0<=top*LB+t2:=by
  have:=Int.mul_nonneg g.htop (show (0:Int)<=LB by decide);have:=g.ht.1;omega
 have:=Int.mul_nonneg h1 (Int.le_of_lt g.hP);have:=g.hX0;omega
theorem qnn:0<=X/V:=Int.ediv_nonneg g.xpos (Int.le_of_lt g.vpos)
theorem qlt:X/V<LB:=Int.ediv_lt_of_lt_mul g.vpos (by rw[Int.mul_comm];exact g.hXV)
theorem qle:X/V*V<=X:=Int.ediv_mul_le _ (Int.ne_of_gt g.vpos)
theorem mulV{q:Int}(h0:0<=q)(h:q*V<=X){t:Int}(ht:t*P<=q*((D1*LB+D2)*P)):t<=top*LB+t2:=by
 have h1:=Int.mul_le_mul_of_nonneg_left g.hV0 h0;have h2:=g.hX1;by_cases hc:t<=top*LB+t2;·exact hc
 ·have h3:(top*LB+t2+1)*P<=t*P:=Int.mul_le_mul_of_nonneg_right (by omega) (Int.le_of_lt g.hP);rw[Int.add_mul (top*LB+t2) 1 P,Int.one_mul] at h3;omega
theorem first{q:Int}(h0:0<=q)(h:q*V<=X):q*D1<=top:=by
 have h1:=g.mulV h0 h (t:=q*(D1*LB+D2)) (by rw[Int.mul_assoc];omega);rw[Int.mul_add,<- Int.mul_assoc] at h1;have h2:=Int.mul_nonneg h0 g.hD2.1;have h3:=g.ht.2;by_cases hc:q*D1<=top;·exact hc
 ·have h4:(top+1)*LB<=q*D1*LB:=Int.mul_le_mul_of_nonneg_right (by omega) (by decide);rw[Int.add_mul,Int.one_mul] at h4;omega
theorem start:X/V<=min (top/D1) 999999999:=by
 have h1:=g.first g.qnn g.qle;have h2:X/V<=top/D1:=(Int.le_ediv_iff_mul_le (by have:=g.hD1;omega)).2 h1;have h3:=g.qlt;have hB:LB=1000000000:=rfl;omega
theorem step{q:Int}(hq:X/V<=q)(h:q*D2>(top-q*D1)*LB+t2):X/V<=q-1:=by
 by_cases hc:X/V=q
 ·exfalso;subst hc;have h1:=g.mulV g.qnn g.qle (t:=X/V*(D1*LB+D2)) (by rw[Int.mul_assoc];omega);rw[Int.mul_add,<- Int.mul_assoc] at h1;rw[Int.sub_mul] at h;omega
 ·omega
theorem stop{q:Int}(hq0:0<=q)(hq1:q<LB)(h: ¬ (q*D2>(top-q*D1)*LB+t2)∨ ¬ (top-q*D1<LB)):(q-1)*V<=X:=by
 have hv:=g.hV1;have hx:=g.hX0;have hP:=Int.le_of_lt g.hP;rw[Int.sub_mul,Int.one_mul];have h1:q*V<=q*((D1*LB+D2)*P+P):=Int.mul_le_mul_of_nonneg_left (Int.le_of_lt hv) hq0;rw[Int.mul_add,<- Int.mul_assoc] at h1;rcases h with h|h
 ·have h2:q*(D1*LB+D2)<=top*LB+t2:=by
   rw[Int.sub_mul] at h;rw[Int.mul_add,<- Int.mul_assoc];omega
  have h3:=Int.mul_le_mul_of_nonneg_right h2 hP;have h4:q*P<=LB*P:=Int.mul_le_mul_of_nonneg_right (Int.le_of_lt hq1) hP;have h5:LB*P<=(D1*LB+D2)*P:=Int.mul_le_mul_of_nonneg_right (by
   have:=Int.mul_le_mul_of_nonneg_right g.hD1 (show (0:Int)<=LB by decide);have:=g.hD2.1;omega) hP
  have h6:=g.hV0;omega
 ·have h2:(q*(D1*LB+D2)+q)*P<=top*LB*P:=Int.mul_le_mul_of_nonneg_right (by
   have h3:q*(D2+1)<=q*LB:=Int.mul_le_mul_of_nonneg_left (by have:=g.hD2.2;omega) hq0;have h4:(q*D1+q)*LB<=top*LB:=Int.mul_le_mul_of_nonneg_right (by omega) (by decide);rw[Int.mul_add,Int.mul_one] at h3;rw[Int.add_mul] at h4;rw[Int.mul_add,<- Int.mul_assoc];omega) hP
  rw[Int.add_mul] at h2;have h3:top*LB*P<=(top*LB+t2)*P:=Int.mul_le_mul_of_nonneg_right (by have:=g.ht.1;omega) hP;have:=g.vpos;omega
theorem last{q:Int}(hq:X/V<=q)(h:(q-1)*V<=X):(X<q*V->q-1=X/V)/\(¬X<q*V->q=X/V):=by
 have hv:=g.vpos;have h1:q-1<=X/V:=(Int.le_ediv_iff_mul_le hv).2 h;refine⟨fun hl=> ?_,fun hl=> ?_⟩;·have:X/V<q:=Int.ediv_lt_of_lt_mul hv hl;omega
 ·have:q<=X/V:=(Int.le_ediv_iff_mul_le hv).2 (by omega);omega
end nr
end Go.Cm
end
section
namespace Go.Cm
open Go.Proofs
theorem EP{o:List Int}{q c:Int}(i:Nat)(ho:Lim o)(hq:wy q)(hc:0<=c/\c<LB):
  IntKind.u64.wrap (c+IntKind.u64.wrap (q*IntKind.u64.wrap (nth (Ty.int IntKind.u32) o (i:Int))))=c+q*o.getD i 0:=by
 obtain⟨n0,n1,n2,n3⟩:=zk i ho hq hc;have hx:=ho.getD i;have h4:LB*LB=1000000000000000000:=rfl;have hB:LB=1000000000:=rfl;rw[fa,w64 (x:=o.getD i 0) hx.1 (by omega),w64 n2 (by omega),w64 n0 (by omega)]
theorem sw{o:List Int}{q c:Int}{i:Nat}(h: ¬ (i:Int)<(o.length:Int)):c=c+q*o.getD i 0:=by
 rw[List.getD_eq_getElem?_getD,List.getElem?_eq_none (by omega)];simp
theorem I9{ys:List Int}{n b:Int}{i:Nat}(hy:Lim ys)(hn:0<=n/\n<LB*LB)(hb:0<=b/\b<=1):
  IntKind.i64.wrap (IntKind.i64.wrap (IntKind.i64.wrap (nth (Ty.int IntKind.u32) ys (((i:Int).toNat:Nat):Int))-IntKind.i64.wrap (n.tmod 1000000000))-b)=ys.getD i 0-n%LB-b/\IntKind.u64.wrap (n.tdiv 1000000000)=n/LB/\
   -LB<=ys.getD i 0-n%LB-b/\ys.getD i 0-n%LB-b<LB:=by
 have hx:=hy.getD i;have hB:LB=1000000000:=rfl;have hr:0<=n%LB/\n%LB<LB:=⟨Int.emod_nonneg _ (by decide),Int.emod_lt_of_pos _ (by decide)⟩;rw[Int.toNat_natCast,fa,(tdiv_nn hn.1).2,wi (x:=ys.getD i 0) (by omega) (by omega),wi (x:=n%LB) (by omega) (by omega),wi (x:=ys.getD i 0-n%LB) (by omega) (by omega),wo];exact⟨rfl,(mi hn.1 hn.2).2.2,by omega,by omega⟩
theorem lM{ys:List Int}{n b:Int}{i:Nat}(hy:Lim ys)(hn:0<=n/\n<LB*LB)(hb:0<=b/\b<=1){r:Int}
  (hr:r=IntKind.i64.wrap (IntKind.i64.wrap (IntKind.i64.wrap (nth (Ty.int IntKind.u32) ys (((i:Int).toNat:Nat):Int))-IntKind.i64.wrap (n.tmod 1000000000))-b)):
  (r<0->IntKind.u64.wrap (n.tdiv 1000000000)=n/LB/\0<=IntKind.i64.wrap (r+1000000000)/\IntKind.i64.wrap (r+1000000000)<LB/\(0:Int)<=1/\(1:Int)<=1/\IntKind.i64.wrap (r+1000000000)-LB*1=ys.getD i 0-n%LB-b)/\
  (¬r<0->IntKind.u64.wrap (n.tdiv 1000000000)=n/LB/\0<=r/\r<LB/\(0:Int)<=0/\(0:Int)<=1/\r-LB*0=ys.getD i 0-n%LB-b):=by
 obtain⟨h1,h2,h3,h4⟩:=I9 (i:=i) hy hn hb;rw[h1] at hr;have hB:LB=1000000000:=rfl;refine⟨fun h=> ?_,fun h=>⟨h2,by omega,by omega,by omega,by omega,by omega⟩⟩;rw[wo];exact⟨h2,by omega,by omega,by omega,by omega,by omega⟩
theorem CA{xs0 o xs:List Int}{q c b n v b2:Int}{i:Nat}(ho:Lim o)(hq:wy q)(hlen:o.length+1<=xs0.length)(hc:o.length<CAP)(h:iX xs0 o q i c b xs)(hi:(i:Int)<((o.length+1:Nat):Int))(hn:n=c+q*o.getD i 0)
  (hv:(0<=v/\v<LB)/\(0<=b2/\b2<=1)/\v-LB*b2=xs.getD i 0-n%LB-b):
  ∃ a:Nat,IntKind.i64.wrap ((i:Int)+1)=(a:Int)/\iX xs0 o q a (n/LB) b2 (xs.set (i:Int).toNat (IntKind.u32.wrap v))/\o.length+1-a<o.length+1-i:=by
 have hC:o.length<1000000000000:=hc;have hB:LB=1000000000:=rfl;refine⟨i+1,by rw[wo];simp,?_,by omega⟩;rw[Int.toNat_natCast,w32 hv.1.1 (by omega)];exact zl ho hq hlen h (by omega) hn hv.1 hv.2.1 hv.2.2
theorem CB{xs0 o xs:List Int}{c n:Int}{i:Nat}(ho:Lim o)(hlen:o.length+1<=xs0.length)(hc:o.length<CAP)(h:iY xs0 o i c xs)(hi:(i:Int)<((o.length+1:Nat):Int))(hn:n=xs.getD i 0+c+o.getD i 0):
  ∃ a:Nat,IntKind.i64.wrap ((i:Int)+1)=(a:Int)/\iY xs0 o a (IntKind.u32.wrap (n.tdiv 1000000000)) (xs.set (i:Int).toNat (n.tmod 1000000000))/\o.length+1-a<o.length+1-i:=by
 have hC:o.length<1000000000000:=hc;have hB:LB=1000000000:=rfl;have hx:=h.2.2.1.getD i;have ho':=ho.getD i;have hcc:=h.2.2.2.2.1;have e:n.tmod 1000000000=IntKind.u32.wrap (n.tmod 1000000000):=by
  rw[(tdiv_nn (by omega)).2];have hr:0<=n%LB/\n%LB<LB:=⟨Int.emod_nonneg _ (by decide),Int.emod_lt_of_pos _ (by decide)⟩;rw[w32 hr.1 (by omega)]
 rw[e];refine⟨i+1,by rw[wo];simp,?_,by omega⟩;rw[Int.toNat_natCast];exact zn ho hlen h (by omega) hn
theorem ur{ys o:List Int}{c:Int}(i:Nat)(hy:Lim ys)(ho:Lim o)(hc:0<=c/\c<=1):
  IntKind.u32.wrap (IntKind.u32.wrap (nth (Ty.int IntKind.u32) ys (((i:Int).toNat:Nat):Int)+c)+nth (Ty.int IntKind.u32) o (i:Int))=ys.getD i 0+c+o.getD i 0/\
  (¬ (i:Int)<(o.length:Int)->IntKind.u32.wrap (nth (Ty.int IntKind.u32) ys (((i:Int).toNat:Nat):Int)+c)=ys.getD i 0+c+o.getD i 0):=by
 have hx:=hy.getD i;have hz:=ho.getD i;have hB:LB=1000000000:=rfl;rw[Int.toNat_natCast,fa,fa,w32 (x:=ys.getD i 0+c) (by omega) (by omega)];refine⟨w32 (by omega) (by omega),fun h=> ?_⟩;rw[List.getD_eq_getElem?_getD (l:=o),List.getElem?_eq_none (by omega)];simp
theorem ml(l:List Int)(j i:Nat):(l.drop j).getD i 0=l.getD (j+i) 0:=by
 simp[List.getD_eq_getElem?_getD]
theorem Lim.drop{l:List Int}(h:Lim l)(j:Nat):Lim (l.drop j):=fun x hx=>h x (List.mem_of_mem_drop hx)
theorem Lim.take{l:List Int}(h:Lim l)(j:Nat):Lim (l.take j):=fun x hx=>h x (List.mem_of_mem_take hx)
theorem iZ{l:List Int}(h:Lim l)(k:Nat):0<=valL (l.take k)/\valL (l.take k)<LB^k:=by
 refine⟨valL_nonneg (h.take k),Int.lt_of_lt_of_le (valL_lt (h.take k)) (pow_mono ?_)⟩;rw[List.length_take];omega
theorem ER(l:List Int)(k:Nat):valL l=valL (l.take k)+LB^(l.take k).length*valL (l.drop k):=by
 have h:=valL_append (l.take k) (l.drop k);rw[List.take_append_drop] at h;exact h
theorem lN{l:List Int}{k:Nat}(hk:k<=l.length):valL l=valL (l.take k)+LB^k*valL (l.drop k):=by
 have h:=ER l k;rw[show (l.take k).length=k by rw[List.length_take];omega] at h;exact h
theorem AN{l:List Int}(p:Nat):valL (l.take (p+2))=(l.getD (p+1) 0*LB+l.getD p 0)*LB^p+valL (l.take p):=by
 rw[take_val,take_val,Int.pow_succ];have e:LB^p*LB*l.getD (p+1) 0=l.getD (p+1) 0*LB*LB^p:=by rw[Int.mul_comm (LB^p) LB,Int.mul_comm (LB*LB^p),<- Int.mul_assoc]
 rw[e,Int.add_mul,Int.mul_comm (l.getD p 0)];omega
theorem CC{l:List Int}(p:Nat):valL (l.take (p+3))=((l.getD (p+2) 0*LB+l.getD (p+1) 0)*LB+l.getD p 0)*LB^p+valL (l.take p):=by
 rw[take_val,AN,Int.pow_succ,Int.pow_succ];have e:LB^p*LB*LB*l.getD (p+2) 0=l.getD (p+2) 0*LB*LB*LB^p:=by
  rw[Int.mul_assoc (LB^p),Int.mul_comm (LB^p),Int.mul_comm (LB*LB*LB^p),<- Int.mul_assoc,<- Int.mul_assoc]
 rw[e];simp only[Int.add_mul];omega
theorem sA{T:List Int}{k:Nat}(hT:Lim T)(hk:k<=T.length)(h:valL T<LB^k):valL (T.drop k)=0/\valL T=valL (T.take k):=by
 have h1:=lN hk;have h0:=valL_nonneg (hT.drop k);have h2:=(iZ hT k).1;have h3:valL (T.drop k)=0:=by
  by_cases hz:valL (T.drop k)=0
  ·exact hz
  ·have:LB^k*1<=LB^k*valL (T.drop k):=Int.mul_le_mul_of_nonneg_left (by omega) (Int.le_of_lt (lbpos k));omega
 rw[h3] at h1;exact⟨h3,by omega⟩
theorem ES{T D:List Int}{j p:Nat}(hT:Lim T)(hD:Lim D)(hDl:D.length=p+2)(hTl:j+(p+3)<=T.length)(hlt:valL T<valL D*LB^(j+1)):
  valL T=valL (T.take j)+LB^j*valL ((T.drop j).take (p+3))/\valL ((T.drop j).drop (p+3))=0:=by
 have hV:=valL_lt hD;rw[hDl] at hV;have h1:valL T<LB^(j+(p+3)):=by
  have h2:valL D*LB^(j+1)<=LB^(p+2)*LB^(j+1):=Int.mul_le_mul_of_nonneg_right (Int.le_of_lt hV) (Int.le_of_lt (lbpos _));rw[<- Int.pow_add,show p+2+(j+1)=j+(p+3) by omega] at h2;omega
 obtain⟨hz,-⟩:=sA hT hTl h1;have h3:valL ((T.drop j).drop (p+3))=0:=by rw[List.drop_drop];exact hz
 refine⟨?_,h3⟩;have h4:=lN (l:=T) (k:=j) (by omega);have h5:=lN (l:=T.drop j) (k:=p+3) (by rw[List.length_drop];omega);rw[h3] at h5;rw[h4,h5];simp
theorem wD{T D:List Int}{j p:Nat}(hT:Lim T)(hD:Lim D)(hDl:D.length=p+2)(hVp:LB^(p+1)<=valL D)(hTl:j+(p+3)<=T.length)(hlt:valL T<valL D*LB^(j+1)):
  nr (valL ((T.drop j).take (p+3))) (valL D) (LB^p) (T.getD (j+(p+2)) 0*LB+T.getD (j+(p+1)) 0) (T.getD (j+p) 0) (D.getD (p+1) 0) (D.getD p 0):=by
 have hX:=CC (l:=T.drop j) p;rw[ml,ml,ml] at hX;have hx:=iZ (hT.drop j) p;have hV:=AN (l:=D) p;rw[List.take_of_length_le (by omega)] at hV;have hv:=iZ hD p;have hT0:=hT.getD (j+(p+2));have hT1:=hT.getD (j+(p+1));obtain⟨hw,-⟩:=ES hT hD hDl hTl hlt;have h0:=(iZ hT j).1;refine⟨lbpos p,by omega,by omega,hT.getD _,?_,by omega,by omega,?_,hD.getD _,?_⟩;·have:=Int.mul_nonneg hT0.1 (show (0:Int)<=LB by decide);omega
 ·by_cases h:1<=D.getD (p+1) 0
  ·exact h
  ·exfalso;(have hz:D.getD (p+1) 0=0:=by have:=(hD.getD (p+1)).1;omega);rw[hz,Int.zero_mul,Int.zero_add] at hV;have h1:(D.getD p 0+1)*LB^p<=LB*LB^p:=Int.mul_le_mul_of_nonneg_right (by have:=(hD.getD p).2;omega) (Int.le_of_lt (lbpos p));rw[Int.add_mul,Int.one_mul] at h1;rw[Int.pow_succ,Int.mul_comm] at hVp;omega
 ·have h1:LB^j*valL ((T.drop j).take (p+3))<LB^j*(valL D*LB):=by
   (have e:LB^j*(valL D*LB)=valL D*LB^(j+1):=by rw[Int.pow_succ,Int.mul_comm (LB^j),Int.mul_assoc,Int.mul_comm LB]);rw[e];omega
  exact Int.lt_of_mul_lt_mul_left h1 (Int.le_of_lt (lbpos j))
def i6(M V:Int)(lm n:Nat)(k:Nat)(T Q:List Int):Prop:=
 T.length=lm+1/\Lim T/\Q.length=lm+1-n/\Lim Q/\k<=lm+1-n/\valL T+V*(LB^k*valL (Q.drop k))=M/\valL T<V*LB^k
theorem CD{M:Int}{D T Q:List Int}{lm j p:Nat}{q:Int}(hD:Lim D)(hDl:D.length=p+2)(hVp:LB^(p+1)<=valL D)(hlm:p+2<=lm)(h:i6 M (valL D) lm (p+2) (j+1) T Q)
  (hq:q=valL ((T.drop j).take (p+3))/valL D):
  i6 M (valL D) lm (p+2) j (T.take j++put (T.drop j) (p+3) (valL ((T.drop j).take (p+3))-q*valL D)) (Q.set j q):=by
 obtain⟨h1,h2,h3,h4,h5,h6,h7⟩:=h;have hTl:j+(p+3)<=T.length:=by omega
 have g:=wD h2 hD hDl hVp hTl h7;obtain⟨hw,hz⟩:=ES h2 hD hDl hTl h7;have hq0:=g.qnn;have hq1:=g.qlt;have hv:=g.vpos;have hx:=g.xpos;rw[<- hq] at hq0 hq1;have hr:valL ((T.drop j).take (p+3))-q*valL D=valL ((T.drop j).take (p+3))%valL D:=by
  rw[hq,Int.emod_def,Int.mul_comm]
 have hr0:=Int.emod_nonneg (valL ((T.drop j).take (p+3))) (Int.ne_of_gt hv);have hr1:=Int.emod_lt_of_pos (valL ((T.drop j).take (p+3))) hv;have hVl:=valL_lt hD;rw[hDl] at hVl;have hml:valL D<=LB^(p+3):=Int.le_trans (Int.le_of_lt hVl) (pow_mono (by omega));have hdl:p+3<=(T.drop j).length:=by rw[List.length_drop];omega
 have hput:valL (put (T.drop j) (p+3) (valL ((T.drop j).take (p+3))-q*valL D))=valL ((T.drop j).take (p+3))-q*valL D:=by
  unfold put;rw[valL_append,AL,hz,Int.mul_zero,Int.add_zero,Int.emod_eq_of_lt (by omega) (by omega)]
 have htl:(T.take j).length=j:=by rw[List.length_take];omega
 have hval:valL (T.take j++put (T.drop j) (p+3) (valL ((T.drop j).take (p+3))-q*valL D))=valL (T.take j)+LB^j*(valL ((T.drop j).take (p+3))-q*valL D):=by
  rw[valL_append,hput,htl]
 refine⟨?_,(h2.take j).append (AM (h2.drop j) _ _),by rw[List.length_set,h3],set_lim h4 hq0 hq1,by omega,?_,?_⟩;·rw[List.length_append,uq _ hdl,htl,List.length_drop];omega
 ·rw[hval,set_drop (by omega),valL];rw[hw] at h6;have e1:valL D*(LB^j*(q+LB*valL (Q.drop (j+1))))=LB^j*(q*valL D)+valL D*(LB^(j+1)*valL (Q.drop (j+1))):=by
   (have e2:valL D*(LB^j*q)=LB^j*(q*valL D):=by rw[<- Int.mul_assoc,Int.mul_comm (valL D),Int.mul_assoc,Int.mul_comm (valL D)]);rw[Int.mul_add,Int.mul_add,e2,Int.pow_succ,Int.mul_assoc (LB^j) LB]
  rw[e1,Int.mul_sub];omega
 ·rw[hval,hr];have h8:LB^j*(valL ((T.drop j).take (p+3))%valL D+1)<=LB^j*valL D:=Int.mul_le_mul_of_nonneg_left (by omega) (Int.le_of_lt (lbpos j));rw[Int.mul_add,Int.mul_one] at h8;have h9:=(iZ h2 j).2;rw[Int.mul_comm (valL D)];omega
theorem sB:∀ (v k j:Nat),j<=k->(padL v k).take j=padL v j
 |_,_,0,_=>by simp[padL]
 |_,0,j+1,h=>by omega
 |v,k+1,j+1,h=>by rw[padL,List.take_succ_cons,sB _ k j (by omega),padL]
def aE(o:List Int):Int:=1000000000/(o.getD (o.length-1) 0+1)
def gK(m o:List Int):List Int:=
 if valL m<valL o then [] else if o.length=1 then padL (valL m/valL o).toNat m.length else padL (valL m/valL o).toNat (m.length+1-o.length)
def dw(m o:List Int):List Int:=
 if valL m<valL o then m else if o.length=1 then [valL m%valL o] else padL (valL m%valL o).toNat (limbs (valL m%valL o*aE o).toNat).length
theorem CE{l:List Int}(h:l≠ []):l.getLastD 1=l.getD (l.length-1) 0:=by
 rw[List.getD_eq_getElem?_getD,<- List.getLast?_eq_getElem?,List.getLast?_eq_some_getLast h,List.getLastD_eq_getLast?,List.getLast?_eq_some_getLast h];rfl
theorem qu{o:List Int}(ho:Cano o){p:Nat}(hp:o.length=p+2):
  (1<=aE o/\aE o<LB)/\valL o*aE o<LB^(p+2)/\LB^(p+1)<=valL o*aE o/\0<valL o:=by
 have hne:o≠ []:=by rintro rfl;simp at hp
 have hl:=ho.1.getD (p+1);have h0:o.getD (p+1) 0≠0:=by
  have:=ho.2;rw[CE hne,hp] at this;exact this
 have hB:LB=1000000000:=rfl;have hs:aE o=1000000000/(o.getD (p+1) 0+1):=by unfold aE;rw[hp];rfl
 have hs1:1<=aE o:=by rw[hs];exact(Int.le_ediv_iff_mul_le (by omega)).2 (by omega)
 have hs2:aE o*(o.getD (p+1) 0+1)<=LB:=by rw[hs];exact Int.ediv_mul_le _ (by omega)
 have hge:=valL_ge ho hne;rw[hp] at hge;have hpos:=lbpos (p+1);have hvp:0<valL o:=by have:LB^(p+2-1)=LB^(p+1):=rfl;omega
 have hv:valL o<LB^(p+1)*(o.getD (p+1) 0+1):=by
  have h:=lN (l:=o) (k:=p+1) (by omega);have h1:=take_val o (p+1);rw[List.take_of_length_le (by omega)] at h1;have h2:=(iZ ho.1 (p+1)).2;rw[Int.mul_add,Int.mul_one];omega
 refine⟨⟨hs1,?_⟩,?_,?_,hvp⟩;·have h2:aE o*2<=aE o*(o.getD (p+1) 0+1):=Int.mul_le_mul_of_nonneg_left (by omega) (by omega);omega
 ·have h1:valL o*aE o<LB^(p+1)*(o.getD (p+1) 0+1)*aE o:=Int.mul_lt_mul_of_pos_right hv (by omega);have h2:LB^(p+1)*(o.getD (p+1) 0+1)*aE o<=LB^(p+1)*LB:=by
   rw[Int.mul_assoc,Int.mul_comm (o.getD (p+1) 0+1)];exact Int.mul_le_mul_of_nonneg_left hs2 (Int.le_of_lt hpos)
  have h3:LB^(p+2)=LB^(p+1)*LB:=Int.pow_succ LB (p+1);omega
 ·have h1:valL o*1<=valL o*aE o:=Int.mul_le_mul_of_nonneg_left hs1 (by omega);have h2:LB^(p+2-1)=LB^(p+1):=rfl;omega
theorem ns{o:List Int}(h0:o≠ [])(h1: ¬ (o.length:Int)=1):∃ p,o.length=p+2:=by
 match o,h0 with
 | [],h=>exact absurd rfl h
 | [x],_=>simp at h1
 |x::y::l,_=>exact⟨l.length,rfl⟩
theorem AO{T:List Int}{j n:Nat}(v:Int)(h:j+n<=T.length):(List.take j T++put (List.drop j T) n v).length=T.length:=by
 rw[List.length_append,uq _ (by rw[List.length_drop];omega),List.length_take,List.length_drop];omega
structure fQ (m o D:List Int) (p:Nat):Prop where
 hm:Cano m
 ho:Cano o
 hp:o.length=p+2
 hle:valL o<=valL m
 hc:m.length+o.length+1<1000000000000
 hD:D=padL (valL o*aE o).toNat o.length
 hDl:D.length=p+2
 hDl3:D.length+1=p+3
 hL:Lim D
 hV:valL D=valL o*aE o
 hVp:LB^(p+1)<=valL D
 hlm:p+2<=m.length
 hs:1<=aE o/\aE o<LB
 hvo:0<valL o
 en1:IntKind.i64.wrap ((o.length:Int)-1)=((p+1:Nat):Int)
 en2:IntKind.i64.wrap ((o.length:Int)-2)=((p:Nat):Int)
theorem fQ.mk'{m o:List Int}{p:Nat}(hm:Cano m)(ho:Cano o)(hp:o.length=p+2)(hle:valL o<=valL m)(hc:m.length+o.length+1<CAP):fQ m o (padL (valL o*aE o).toNat o.length) p:=by
 have hC:m.length+o.length+1<1000000000000:=hc;obtain⟨h1,h2,h3,h4⟩:=qu ho hp;have hv0:0<=valL o*aE o:=Int.mul_nonneg (by omega) (by omega);have hv:valL (padL (valL o*aE o).toNat o.length)=valL o*aE o:=by
  rw[padL_val _ _ (by rw[hp];omega)];omega
 have hll:=len_le ho hm hle;exact⟨hm,ho,hp,hle,hC,rfl,by rw[padL_len,hp],by rw[padL_len,hp],padL_lim _ _,hv,by rw[hv];exact h3,by omega,h1,h4,by rw[wo];omega,by rw[wo];omega⟩
theorem qv{o:List Int}{p:Nat}(ho:Cano o)(hp:o.length=p+2)(hc:o.length<1000000000000):
  (0<=IntKind.i64.wrap ((o.length:Int)-1)/\IntKind.i64.wrap ((o.length:Int)-1)<(o.length:Int))/\
  IntKind.u64.wrap (IntKind.u64.wrap (nth (Ty.int IntKind.u32) o (IntKind.i64.wrap ((o.length:Int)-1)))+1)≠0/\
  IntKind.u32.wrap (IntKind.u64.wrap (Int.tdiv 1000000000 (IntKind.u64.wrap (IntKind.u64.wrap (nth (Ty.int IntKind.u32) o (IntKind.i64.wrap ((o.length:Int)-1)))+1))))=aE o:=by
 have e:IntKind.i64.wrap ((o.length:Int)-1)=((o.length-1:Nat):Int):=by rw[wo];omega
 have hx:=ho.1.getD (o.length-1);have hB:LB=1000000000:=rfl;obtain⟨h1,-⟩:=qu ho hp;have hs:aE o=1000000000/(o.getD (o.length-1) 0+1):=rfl;rw[e,fa,w64 (x:=o.getD (o.length-1) 0) hx.1 (by omega),w64 (x:=o.getD (o.length-1) 0+1) (by omega) (by omega),Int.tdiv_eq_ediv_of_nonneg (by decide),<- hs,w64 (by omega) (by omega),w32 (by omega) (by omega)];exact⟨⟨by omega,by omega⟩,by omega,rfl⟩
theorem ET{a b:Int}(ha:0<=a/\a<LB)(hb:0<=b/\b<LB):
  IntKind.u64.wrap (IntKind.u64.wrap (IntKind.u64.wrap a*1000000000)+IntKind.u64.wrap b)=a*LB+b/\a*LB+b<LB*LB/\0<=a*LB+b:=by
 have hB:LB=1000000000:=rfl;rw[hB] at ha hb ⊢;rw[w64 ha.1 (by omega),w64 hb.1 (by omega),w64 (x:=a*1000000000) (by omega) (by omega),w64 (by omega) (by omega)];omega
theorem wE{top D1:Int}(h0:0<=top)(h1:top<LB*LB)(hD:1<=D1)(hD2:D1<LB):IntKind.u64.wrap (top.tdiv (IntKind.u64.wrap D1))=top/D1/\IntKind.u64.wrap D1≠0:=by
 have hB:LB=1000000000:=rfl;have h4:LB*LB=1000000000000000000:=rfl;have h2:top/D1<=top:=Int.ediv_le_self _ h0;have h3:0<=top/D1:=Int.ediv_nonneg h0 (by omega);rw[w64 (x:=D1) (by omega) (by omega),Int.tdiv_eq_ediv_of_nonneg h0,w64 h3 (by omega)];exact⟨rfl,by omega⟩
def CF(X V top D1 q:Int):Prop:=X/V<=q/\q<LB/\q*D1<=top/\0<=q
theorem Hq{X V P top t2 D1 D2 gs:Int}(g:nr X V P top t2 D1 D2)(h:gs=min (top/D1) 999999999):CF X V top D1 gs:=by
 have h1:=g.start;have hB:LB=1000000000:=rfl;have hD:=g.hD1;refine⟨by omega,by omega,?_,?_⟩;·have h2:gs*D1<=top/D1*D1:=Int.mul_le_mul_of_nonneg_right (by omega) (by omega);have h3:=Int.ediv_mul_le top (b:=D1) (by omega);omega
 ·have h2:0<=top/D1:=Int.ediv_nonneg g.htop (by omega);omega
theorem EU{X V P top t2 D1 D2 q:Int}(g:nr X V P top t2 D1 D2)(ht:top<LB*LB)(hD1:D1<LB)(h:CF X V top D1 q):
  IntKind.u64.wrap (top-IntKind.u64.wrap (q*IntKind.u64.wrap D1))=top-q*D1/\IntKind.u64.wrap (q*IntKind.u64.wrap D2)=q*D2/\
   (IntKind.u64.wrap (top-IntKind.u64.wrap (q*IntKind.u64.wrap D1))<1000000000->IntKind.u64.wrap (IntKind.u64.wrap (IntKind.u64.wrap (top-IntKind.u64.wrap (q*IntKind.u64.wrap D1))*1000000000)+IntKind.u64.wrap t2)=(top-q*D1)*LB+t2):=by
 obtain⟨h1,h2,h3,h4⟩:=h;have hB:LB=1000000000:=rfl;have h5:LB*LB=1000000000000000000:=rfl;have hD:=g.hD1;have hd2:=g.hD2;have hq0:0<=q*D1:=Int.mul_nonneg h4 (by omega);have hb:=mul_bound (x:=q) (y:=D2) (a:=0) (c:=0) ⟨h4,h2⟩ hd2 ⟨by decide,by decide⟩ ⟨by decide,by decide⟩;have ht2:=g.ht;rw[w64 (x:=D1) (by omega) (by omega),w64 (x:=q*D1) hq0 (by omega),w64 (x:=top-q*D1) (by omega) (by omega),w64 (x:=D2) hd2.1 (by omega),w64 hb.1 (by omega)];refine⟨rfl,rfl,fun hC=> ?_⟩;rw[hB] at ht2 ⊢;rw[w64 (x:=t2) ht2.1 (by omega),w64 (x:=(top-q*D1)*1000000000) (by omega) (by omega),w64 (by omega) (by omega)]
theorem Ja{X V P top t2 D1 D2 q:Int}(g:nr X V P top t2 D1 D2)(ht:top<LB*LB)(hD1:D1<LB)(h:CF X V top D1 q)
  (hb:IntKind.u64.wrap (IntKind.u64.wrap (IntKind.u64.wrap (top-IntKind.u64.wrap (q*IntKind.u64.wrap D1))*1000000000)+IntKind.u64.wrap t2)<IntKind.u64.wrap (q*IntKind.u64.wrap D2)/\IntKind.u64.wrap (top-IntKind.u64.wrap (q*IntKind.u64.wrap D1))<1000000000):
  CF X V top D1 (IntKind.u64.wrap (q-1))/\(IntKind.u64.wrap (q-1)).toNat<q.toNat:=by
 obtain⟨c1,c2,c3⟩:=EU g ht hD1 h;rw[c3 hb.2,c2] at hb;obtain⟨h1,h2,h3,h4⟩:=h;have hs:=g.step h1 hb.1;have hq:=g.qnn;have hB:LB=1000000000:=rfl;have hD:=g.hD1;rw[w64 (by omega) (by omega)];refine⟨⟨hs,by omega,?_,by omega⟩,by omega⟩;rw[Int.sub_mul,Int.one_mul];omega
theorem EV{X V P top t2 D1 D2 q:Int}(g:nr X V P top t2 D1 D2)(ht:top<LB*LB)(hD1:D1<LB)(h:CF X V top D1 q)
  (hb:IntKind.u64.wrap (IntKind.u64.wrap (IntKind.u64.wrap (top-IntKind.u64.wrap (q*IntKind.u64.wrap D1))*1000000000)+IntKind.u64.wrap t2)<IntKind.u64.wrap (q*IntKind.u64.wrap D2)-> ¬IntKind.u64.wrap (top-IntKind.u64.wrap (q*IntKind.u64.wrap D1))<1000000000):
  (X<q*V->q-1=X/V)/\(¬X<q*V->q=X/V):=by
 obtain⟨c1,c2,c3⟩:=EU g ht hD1 h;have hB:LB=1000000000:=rfl;refine g.last h.1 (g.stop h.2.2.2 h.2.1 ?_);by_cases hC:IntKind.u64.wrap (top-IntKind.u64.wrap (q*IntKind.u64.wrap D1))<1000000000;·rw[c3 hC,c2] at hb;left;intro h';exact hb h' hC
 ·right;rw[c1] at hC;rw[hB];exact hC
theorem qw{T:List Int}{j n:Nat}(v:Int)(h:j+n<=T.length):List.take j (List.take j T++put (List.drop j T) n v)=List.take j T/\List.drop j (List.take j T++put (List.drop j T) n v)=put (List.drop j T) n v:=by
 have hl:(List.take j T).length=j:=by rw[List.length_take];omega
 refine⟨?_,?_⟩;·rw[List.take_append_of_le_length (by omega),List.take_of_length_le (by omega)]
 ·rw[List.drop_append,hl,List.drop_eq_nil_of_le (by omega),Nat.sub_self];rfl
theorem sC{T:List Int}{j n:Nat}{X q V:Int}(h:j+n<=T.length):
  List.take j (List.take j T++put (List.drop j T) n (X-q*V))++put (List.drop j (List.take j T++put (List.drop j T) n (X-q*V))) n (valL (List.take n (List.drop j (List.take j T++put (List.drop j T) n (X-q*V))))+V)=
   List.take j T++put (List.drop j T) n (X-(q-1)*V):=by
 obtain⟨h1,h2⟩:=qw (X-q*V) h;rw[h1,h2,Hp,Int.sub_mul,Int.one_mul];congr 2;omega
theorem zo{m o D:List Int}{p:Nat}(f:fQ m o D p):i6 (valL m*aE o) (valL D) m.length (p+2) (m.length+1-o.length) (padL (valL m*aE o).toNat (m.length+1)) (List.replicate (m.length+1-o.length) 0):=by
 have hm0:=valL_nonneg f.hm.1;have hm1:=valL_lt f.hm.1;have hs:=f.hs;have hp:=f.hp;have hlm:=f.hlm;have h0:0<=valL m*aE o:=Int.mul_nonneg hm0 (by omega);have h1:valL m*aE o<LB^m.length*aE o:=Int.mul_lt_mul_of_pos_right hm1 (by omega);have h2:LB^m.length*aE o<=LB^m.length*LB:=Int.mul_le_mul_of_nonneg_left (by omega) (Int.le_of_lt (lbpos _));have h3:LB^(m.length+1)=LB^m.length*LB:=Int.pow_succ _ _;have hv:valL (padL (valL m*aE o).toNat (m.length+1))=valL m*aE o:=by
  rw[padL_val _ _ (by omega)];omega
 refine⟨padL_len _ _,padL_lim _ _,by rw[List.length_replicate,f.hp],(replicate_zero _).1,by omega,?_,?_⟩;·rw[List.drop_eq_nil_of_le (by rw[List.length_replicate];omega),hv];simp[valL]
 ·rw[hv];have hge:=valL_ge f.ho (by rintro h;have:=f.hp;rw[h] at this;simp at this);rw[hp] at hge;have h4:LB^(p+1)*aE o<=valL D:=by
   rw[f.hV];exact Int.mul_le_mul_of_nonneg_right hge (by omega)
  have h5:LB^(p+1)*aE o*LB^(m.length+1-o.length)<=valL D*LB^(m.length+1-o.length):=Int.mul_le_mul_of_nonneg_right h4 (Int.le_of_lt (lbpos _));have h6:LB^(p+1)*aE o*LB^(m.length+1-o.length)=LB^m.length*aE o:=by
   rw[Int.mul_comm (LB^(p+1)),Int.mul_assoc,<- Int.pow_add,show p+1+(m.length+1-o.length)=m.length by omega,Int.mul_comm]
  omega
theorem EW{m o D T Q:List Int}{p:Nat}(f:fQ m o D p)(h:i6 (valL m*aE o) (valL D) m.length (p+2) 0 T Q):
  valL Q=valL m/valL o/\valL T=valL m%valL o*aE o/\valL (T.take o.length)=valL T:=by
 obtain⟨h1,h2,h3,h4,h5,h6,h7⟩:=h;have hs:=f.hs;have hvo:=f.hvo;rw[List.drop_zero,Int.pow_zero,Int.one_mul] at h6;rw[Int.pow_zero,Int.mul_one] at h7;have h0:=valL_nonneg h2;have hVl:=valL_lt f.hL;rw[f.hDl] at hVl;have h8:valL T=(valL m-valL o*valL Q)*aE o:=by
  rw[Int.sub_mul,Int.mul_assoc,Int.mul_comm (valL Q),<- Int.mul_assoc,<- f.hV];omega
 rw[f.hV] at h7;have h9:0<=valL m-valL o*valL Q:=by
  by_cases hc:0<=valL m-valL o*valL Q
  ·exact hc
  ·have:=Int.mul_le_mul_of_nonneg_right (show valL m-valL o*valL Q<= -1 by omega) (show 0<=aE o by omega);omega
 have h10:valL m-valL o*valL Q<valL o:=Int.lt_of_mul_lt_mul_right (a:=aE o) (by rw[<- h8];exact h7) (by omega);have e1:valL m/valL o=valL Q:=by
  rw[show valL m=(valL m-valL o*valL Q)+valL Q*valL o by rw[Int.mul_comm (valL Q)];omega,Int.add_mul_ediv_right _ _ (by omega),Int.ediv_eq_zero_of_lt h9 h10,Int.zero_add]
 refine⟨e1.symm,?_,?_⟩;·rw[h8,Int.emod_def,e1]
 ·have:=f.hp;have:=f.hlm;exact(sA h2 (by omega) (by rw[f.hp];have:=f.hV;omega)).2.symm
theorem Hr{m o D T Q:List Int}{p:Nat}(f:fQ m o D p)(h:i6 (valL m*aE o) (valL D) m.length (p+2) 0 T Q):
  Q=gK m o/\padL (valL (enc (dec (false,T.take o.length))).2/aE o).toNat (enc (dec (false,T.take o.length))).2.length=dw m o:=by
 obtain⟨e1,e2,e3⟩:=EW f h;have hs:=f.hs;have hp:=f.hp;have hv0:=Int.emod_nonneg (valL m) (Int.ne_of_gt f.hvo);have ed:dec (false,T.take o.length)=valL m%valL o*aE o:=by
  show valL (T.take o.length)=_;rw[e3,e2]
 have hr:0<=valL m%valL o*aE o:=Int.mul_nonneg hv0 (by omega);refine⟨?_,?_⟩;·unfold gK;rw[if_neg (by have:=f.hle;omega),if_neg (by omega)];refine h.2.2.2.1.pad (by rw[h.2.2.1,f.hp]) ?_;rw[e1];have:=Int.ediv_nonneg (valL_nonneg f.hm.1) (Int.le_of_lt f.hvo);omega
 ·unfold dw;rw[if_neg (by have:=f.hle;omega),if_neg (by omega),ed];show padL (valL (limbs (valL m%valL o*aE o).natAbs)/aE o).toNat (limbs (valL m%valL o*aE o).natAbs).length=_;rw[limbs_val,show ((valL m%valL o*aE o).natAbs:Int)=valL m%valL o*aE o by omega,Int.mul_ediv_cancel _ (by omega)];rw[show (valL m%valL o*aE o).natAbs=(valL m%valL o*aE o).toNat by omega]
theorem EX{m o:List Int}(h:bq (valL m) (valL o)<0): []=gK m o/\m=dw m o:=by
 have h':valL m<valL o:=by
  unfold bq at h;split at h;·assumption
  ·split at h<;>omega
 unfold gK dw;rw[if_pos h',if_pos h'];exact⟨rfl,rfl⟩
theorem EY{a b:Int}(h: ¬bq a b<0):b<=a:=by
 unfold bq at h;split at h<;>omega
theorem div_one{m o:List Int}(ho:Cano o)(h0: ¬bq (valL m) (valL o)<0)(h1:(o.length:Int)=1):
  wx (nth (Ty.int IntKind.u32) o 0)/\padL (valL m/nth (Ty.int IntKind.u32) o 0).toNat m.length=gK m o/\ [valL m%nth (Ty.int IntKind.u32) o 0]=dw m o:=by
 have hge:=EY h0;match o,ho,h1 with
 | [x],ho,_=>
  have hx:=ho.1 x (by simp);have hx0:x≠0:=ho.2;have e:valL [x]=x:=valL_one x;rw[e] at hge;show wx x/\padL (valL m/x).toNat m.length=_/\ [valL m%x]=_;unfold gK dw;rw[e,if_neg (by omega),if_pos (by rfl),if_neg (by omega),if_pos (by rfl)];exact⟨⟨by omega,hx.2⟩,rfl,rfl⟩
 | [],_,h1=>simp at h1
 |_::_::_,_,h1=>simp at h1;omega
theorem CG{m o D:List Int}{p:Nat}(f:fQ m o D p):(Lim m/\wy (aE o)/\m.length<CAP)/\(Lim o/\wy (aE o)/\o.length<CAP)/\(0:Int)<=0/\(0:Int)<=(o.length:Int)/\(o.length:Int)<=((padL (valL o*aE o).toNat (o.length+1)).length:Int):=by
 have hc:=f.hc;have hs:=f.hs;rw[padL_len];exact⟨⟨f.hm.1,⟨by omega,hs.2⟩,by unfold CAP;omega⟩,⟨f.ho.1,⟨by omega,hs.2⟩,by unfold CAP;omega⟩,by omega,by omega,by omega⟩
theorem AP{m o D:List Int}{p:Nat}(f:fQ m o D p):List.drop (Int.toNat 0) (List.take (o.length:Int).toNat (padL (valL o*aE o).toNat (o.length+1)))=D:=by
 rw[Int.toNat_natCast,sB _ _ _ (by omega),f.hD];rfl
theorem CH{m o D:List Int}{p:Nat}(f:fQ m o D p){n:Int}(hn:n=IntKind.i64.wrap (((padL (valL m*aE o).toNat (m.length+1)).length:Int)-((List.drop (Int.toNat 0) (List.take (o.length:Int).toNat (padL (valL o*aE o).toNat (o.length+1)))).length:Int)):=by rfl):
  0<=n/\n<=n/\Cm.Roomy 1 n.toNat:=by
 have hc:=f.hc;have hlm:=f.hlm;have hp:=f.hp;rw[AP f,padL_len,f.hDl,wo] at hn;exact⟨by omega,by omega,by unfold Cm.Roomy;omega⟩
theorem Hs{m o D:List Int}{p:Nat}(f:fQ m o D p):List.drop (Int.toNat 0) (List.take (o.length:Int).toNat (padL (valL o*aE o).toNat (o.length+1)))=D/\
  ((List.drop (Int.toNat 0) (List.take (o.length:Int).toNat (padL (valL o*aE o).toNat (o.length+1)))).length:Int)=(o.length:Int)/\
  IntKind.i64.wrap (IntKind.i64.wrap (((padL (valL m*aE o).toNat (m.length+1)).length:Int)-((List.drop (Int.toNat 0) (List.take (o.length:Int).toNat (padL (valL o*aE o).toNat (o.length+1)))).length:Int))-1)=((m.length+1-o.length:Nat):Int)-1/\
  List.replicate (IntKind.i64.wrap (((padL (valL m*aE o).toNat (m.length+1)).length:Int)-((List.drop (Int.toNat 0) (List.take (o.length:Int).toNat (padL (valL o*aE o).toNat (o.length+1)))).length:Int))).toNat (0:Int)=List.replicate (m.length+1-o.length) 0:=by
 have hc:=f.hc;have hlm:=f.hlm;have hp:=f.hp;have hD:=f.hDl;rw[AP f,padL_len,f.hDl,wi (x:=((m.length+1:Nat):Int)-((p+2:Nat):Int)) (by omega) (by omega),wo];exact⟨rfl,by omega,by omega,by congr 1;omega⟩
theorem zp{m o D T Q:List Int}{p k:Nat}(f:fQ m o D p)(h:i6 (valL m*aE o) (valL D) m.length (p+2) k T Q)(hk:k=0):
  ((0:Int)<=0/\(0:Int)<=(o.length:Int)/\(o.length:Int)<=(T.length:Int))/\(Lim (List.drop (Int.toNat 0) (List.take (o.length:Int).toNat T))/\(List.drop (Int.toNat 0) (List.take (o.length:Int).toNat T)).length<CAP)/\
   Lim (enc (dec (false,List.drop (Int.toNat 0) (List.take (o.length:Int).toNat T)))).2/\wx (aE o)/\(enc (dec (false,List.drop (Int.toNat 0) (List.take (o.length:Int).toNat T)))).2.length<CAP:=by
 have hc:=f.hc;have hlm:=f.hlm;have hp:=f.hp;have h1:=h.1;rw[Int.toNat_natCast];show _/\(Lim (List.take o.length T)/\(List.take o.length T).length<CAP)/\Lim (limbs (dec (false,List.take o.length T)).natAbs)/\_/\(limbs (dec (false,List.take o.length T)).natAbs).length<CAP;have hl:(List.take o.length T).length=o.length:=by rw[List.length_take];omega
 have h2:(limbs (dec (false,List.take o.length T)).natAbs).length<=o.length:=limbs_len (by
  have h3:=iZ h.2.1 o.length;show ((valL (List.take o.length T)).natAbs:Int)<_;omega)
 refine⟨⟨by omega,by omega,by omega⟩,⟨h.2.1.take _,by rw[hl];unfold CAP;omega⟩,(limbs_can _).1,⟨by have:=f.hs;omega,f.hs.2⟩,by unfold CAP;omega⟩
def fR(x y:Int):Int:=if 0<y then x/y else (-x)/(-y)
def mm(x y:Int):Int:=x-y*fR x y
theorem jO{m o:List Int}(hm:Cano m)(ho:Cano o)(hne:o≠ []):
  valL (gK m o)=valL m/valL o/\valL (dw m o)=valL m%valL o/\Lim (gK m o)/\Lim (dw m o)/\(gK m o).length<=m.length/\(dw m o).length<=m.length+1:=by
 have hm0:=valL_nonneg hm.1;have hvo:0<valL o:=(valL_pos ho).2 hne;have hml:=valL_lt hm.1;have hd0:0<=valL m/valL o:=Int.ediv_nonneg hm0 (by omega);have hd1:valL m/valL o<=valL m:=Int.ediv_le_self _ hm0;have hr0:=Int.emod_nonneg (valL m) (Int.ne_of_gt hvo);have hr1:=Int.emod_lt_of_pos (valL m) hvo;by_cases hlt:valL m<valL o;·have e1:valL m/valL o=0:=Int.ediv_eq_zero_of_lt hm0 hlt;have e2:valL m%valL o=valL m:=Int.emod_eq_of_lt hm0 hlt;unfold gK dw;rw[if_pos hlt,if_pos hlt,e1,e2];exact⟨rfl,rfl,fun x hx=>by simp at hx,hm.1,by simp,by omega⟩
 ·have hle:=len_le ho hm (by omega);by_cases h1:o.length=1;·unfold gK dw;rw[if_neg hlt,if_neg hlt,if_pos h1,if_pos h1];(have hx:valL o<LB:=by have h:=valL_lt ho.1;rw[h1,Int.pow_succ,Int.pow_zero,Int.one_mul] at h;exact h);refine⟨by rw[padL_val _ _ (by omega)];omega,valL_one _,padL_lim _ _,Lim.one hr0 (by omega),by rw[padL_len];omega,by simp⟩
  ·obtain⟨p,hp⟩:=ns hne (by omega);have hs:=qu ho hp;unfold gK dw;rw[if_neg hlt,if_neg hlt,if_neg h1,if_neg h1];have hr2:valL m%valL o<=valL m%valL o*aE o:=by
    have:=Int.mul_le_mul_of_nonneg_left hs.1.1 hr0;omega
   have hr3:valL m%valL o*aE o<LB^(p+2):=by
    have:=Int.mul_le_mul_of_nonneg_right (Int.le_of_lt hr1) (show 0<=aE o by omega);omega
   have hr4:=limbs_len (n:=(valL m%valL o*aE o).toNat) (k:=p+2) (by omega);have hr5:=valL_lt (limbs_can (valL m%valL o*aE o).toNat).1;rw[limbs_val] at hr5;have hge:=valL_ge ho hne;refine⟨?_,?_,padL_lim _ _,padL_lim _ _,by rw[padL_len];omega,by rw[padL_len];omega⟩
   ·rw[padL_val];·omega
    ·have h2:valL m/valL o<LB^(m.length+1-o.length):=by
      refine Int.ediv_lt_of_lt_mul hvo ?_;have h3:LB^(m.length+1-o.length)*LB^(o.length-1)<=LB^(m.length+1-o.length)*valL o:=Int.mul_le_mul_of_nonneg_left hge (Int.le_of_lt (lbpos _));rw[<- Int.pow_add,show m.length+1-o.length+(o.length-1)=m.length by omega] at h3;omega
     omega
   ·rw[padL_val _ _ (by omega)];omega
theorem Ht{a b:Int}(hb:0<b):(a%b=0->(-a)/b= -(a/b))/\(a%b≠0->(-a)/b= -(a/b)-1):=by
 have h:=Int.emod_add_mul_ediv a b;have h0:=Int.emod_nonneg a (Int.ne_of_gt hb);have h1:=Int.emod_lt_of_pos a hb;refine⟨fun hz=> ?_,fun hz=> ?_⟩;·refine((Int.ediv_emod_unique (r:=0) hb).2 ⟨?_,by omega,hb⟩).1;rw[Int.mul_neg];omega
 ·refine((Int.ediv_emod_unique (r:=b-a%b) hb).2 ⟨?_,by omega,by omega⟩).1;rw[Int.mul_sub,Int.mul_neg,Int.mul_one];omega
theorem nN{x:Bool×List Int}(h:WOK x):valL x.2=(dec x).natAbs/\(x.1=true->dec x<0)/\(x.1=false->0<=dec x):=by
 have h0:=valL_nonneg h.1.1;unfold dec;refine⟨by split<;>omega,fun e=> ?_,fun e=>by rw[if_neg (by rw[e];decide)];exact h0⟩;rw[if_pos e];have hne:x.2≠ []:=fun hn=>by rw[h.2 hn] at e;cases e
 have:=(valL_pos h.1).2 hne;omega
theorem sD{x y:Bool×List Int}(hx:WOK x)(hy:WOK y)(hne:dec y≠0):
  (dec (x.1,dw x.2 y.2)≠0/\(x.1 !=y.1)=true->dec (x.1 !=y.1,gK x.2 y.2)-1=fR (dec x) (dec y)/\dec (x.1,dw x.2 y.2)+dec y=mm (dec x) (dec y))/\
  (¬ (dec (x.1,dw x.2 y.2)≠0/\(x.1 !=y.1)=true)->dec (x.1 !=y.1,gK x.2 y.2)=fR (dec x) (dec y)/\dec (x.1,dw x.2 y.2)=mm (dec x) (dec y)):=by
 have hyne:y.2≠ []:=fun h=>hne (by unfold dec;rw[h];simp[valL]);obtain⟨v1,v2,-⟩:=jO hx.1 hy.1 hyne;obtain⟨x1,x2,x3⟩:=nN hx;obtain⟨y1,y2,y3⟩:=nN hy;obtain⟨sx,mx⟩:=x;obtain⟨sy,my⟩:=y;simp only at*;have hb:0<valL my:=(valL_pos hy.1).2 hyne;have h:=Int.emod_add_mul_ediv (valL mx) (valL my);obtain⟨n1,n2⟩:=Ht (a:=valL mx) hb;have ex:dec (sx,mx)=if sx=true then-valL mx else valL mx:=rfl
 have ey:dec (sy,my)=if sy=true then-valL my else valL my:=rfl
 have er:dec (sx,dw mx my)=if sx=true then-(valL mx%valL my) else valL mx%valL my:=by unfold dec;rw[v2]
 have eq:dec (sx !=sy,gK mx my)=if (sx !=sy)=true then-(valL mx/valL my) else valL mx/valL my:=by unfold dec;rw[v1]
 unfold mm fR;rw[er,eq,ex,ey];cases sx<;>cases sy;·simp only[Bool.false_eq_true,if_false,bne_self_eq_false,and_false,false_implies,not_false_eq_true,true_implies,true_and,if_pos hb];omega
 ·simp only[Bool.false_eq_true,if_false,if_true,Bool.false_bne,and_true,Int.neg_neg,if_neg (show ¬0< -valL my by omega)];refine⟨fun hr=> ?_,fun hr=> ?_⟩;·rw[n2 hr];refine⟨rfl,?_⟩;rw[Int.neg_mul,Int.mul_sub,Int.mul_neg,Int.mul_one];omega
  ·(have hr0:valL mx%valL my=0:=by omega);rw[n1 hr0];refine⟨rfl,?_⟩;rw[Int.neg_mul,Int.mul_neg];omega
 ·simp only[Bool.false_eq_true,if_false,if_true,Bool.true_bne,Bool.not_false,and_true,if_pos hb];refine⟨fun hr=> ?_,fun hr=> ?_⟩;·rw[n2 (by omega)];refine⟨rfl,?_⟩;rw[Int.mul_sub,Int.mul_neg,Int.mul_one];omega
  ·(have hr0:valL mx%valL my=0:=by omega);rw[n1 hr0];refine⟨rfl,?_⟩;rw[Int.mul_neg];omega
 ·simp only[Bool.false_eq_true,if_false,if_true,bne_self_eq_false,and_false,false_implies,not_false_eq_true,true_implies,true_and,Int.neg_neg,if_neg (show ¬0< -valL my by omega)];rw[Int.neg_mul];omega
end Go.Cm
end
section
namespace Go.Cm
open Go.Proofs
theorem AQ{s:Bool}{l:List Int}(h:Lim l):(enc (dec (s,l))).2.length<=l.length:=by
 show (limbs (dec (s,l)).natAbs).length<=_;refine limbs_len ?_;have h0:=valL_nonneg h;have h1:=valL_lt h;unfold dec;split<;>simp only<;>omega
structure mn (x y:Bool×List Int):Prop where
 hx:WOK x
 hy:WOK y
 hne:dec y≠0
 hc:x.2.length+y.2.length+3<CAP
namespace mn
variable {x y:Bool×List Int} (h:mn x y)
include h
theorem ne:y.2≠ []:=fun e=>h.hne (by unfold dec;rw[e];simp[valL])
theorem side1:Cano x.2/\Cano y.2/\y.2≠ []/\x.2.length+y.2.length+1<CAP:=⟨h.hx.1,h.hy.1,h.ne,by have:=h.hc;omega⟩
theorem side2:(Lim (gK x.2 y.2)/\(gK x.2 y.2).length<CAP)/\Lim (dw x.2 y.2)/\(dw x.2 y.2).length<CAP:=by
 obtain⟨v1,v2,v3,v4,v5,v6⟩:=jO h.hx.1 h.hy.1 h.ne;have:=h.hc;exact⟨⟨v3,by omega⟩,v4,by omega⟩
theorem cond:(bq (dec (enc (dec (x.1,dw x.2 y.2)))) 0≠0/\x.1≠y.1)↔(dec (x.1,dw x.2 y.2)≠0/\(x.1 !=y.1)=true):=by
 rw[bG,ne_eq,lG,bne_iff_ne]
theorem side4:I64 1/\(WOK (enc (dec (x.1 !=y.1,gK x.2 y.2)))/\WOK (enc 1)/\(enc (dec (x.1 !=y.1,gK x.2 y.2))).2.length+(enc 1).2.length<CAP)/\WOK (enc (dec (x.1,dw x.2 y.2)))/\WOK y/\(enc (dec (x.1,dw x.2 y.2))).2.length+y.2.length<CAP:=by
 obtain⟨v1,v2,v3,v4,v5,v6⟩:=jO h.hx.1 h.hy.1 h.ne;have e1:=AQ (s:=x.1 !=y.1) v3;have e2:=AQ (s:=x.1) v4;have e3:=kf (n:=1) (by unfold I64;omega);have:=h.hc;exact⟨by unfold I64;omega,⟨enc_ok _,e3.1,by omega⟩,enc_ok _,h.hy,by omega⟩
theorem fin1(hb:bq (dec (enc (dec (x.1,dw x.2 y.2)))) 0≠0/\x.1≠y.1):
  enc (dec (enc (dec (x.1 !=y.1,gK x.2 y.2)))-dec (enc 1))=enc (fR (dec x) (dec y))/\enc (dec (enc (dec (x.1,dw x.2 y.2)))+dec y)=enc (mm (dec x) (dec y)):=by
 obtain⟨h1,h2⟩:=(sD h.hx h.hy h.hne).1 (h.cond.1 hb);rw[bG,bG,bG,h1,h2];exact⟨rfl,rfl⟩
theorem fin2(hb:(bq (dec (enc (dec (x.1,dw x.2 y.2)))) 0 !=0)=true->x.1=y.1):
  enc (dec (x.1 !=y.1,gK x.2 y.2))=enc (fR (dec x) (dec y))/\enc (dec (x.1,dw x.2 y.2))=enc (mm (dec x) (dec y)):=by
 obtain⟨h1,h2⟩:=(sD h.hx h.hy h.hne).2 (fun hc=>by
  obtain⟨h3,h4⟩:=h.cond.2 hc;exact h4 (hb (by rw[bne_iff_ne];exact h3)))
 rw[h1,h2];exact⟨rfl,rfl⟩
end mn
end Go.Cm
end
section
namespace Go.Cm
open Go.Proofs
def db(a b:Int):Int:=(Nat.gcd a.natAbs b.natAbs:Nat)
theorem wF(u v:Nat):Nat.gcd v (u%v)=Nat.gcd u v:=(Nat.gcd_comm _ _).trans ((Nat.gcd_rec v u).symm.trans (Nat.gcd_comm _ _))
theorem fz{l:List Int}(h:0<l.length):l≠ []:=by rintro rfl;simp at h
theorem zq{l:List Int}(h:l.length=0):l= []:=List.eq_nil_of_length_eq_zero h
structure mo (x y:Bool×List Int):Prop where
 hx:WOK x
 hy:WOK y
 hc:2*(x.2.length+y.2.length)+4<CAP
structure uu (x y:Bool×List Int) (u v:List Int):Prop where
 hu:Cano u
 hv:Cano v
 hul:u.length<=x.2.length+y.2.length
 hvl:v.length<=x.2.length+y.2.length
 hg:Nat.gcd (valL u).toNat (valL v).toNat=Nat.gcd (dec x).natAbs (dec y).natAbs
theorem uu.start{x y:Bool×List Int}(h:mo x y):uu x y x.2 y.2:=by
 refine⟨h.hx.1,h.hy.1,by omega,by omega,?_⟩;rw[(nN h.hx).1,(nN h.hy).1,Int.toNat_natCast,Int.toNat_natCast]
namespace uu
variable {x y:Bool×List Int} {u v:List Int} (h:uu x y u v) (hp:mo x y)
include h hp
theorem side3(hne:v≠ []):Cano u/\Cano v/\v≠ []/\u.length+v.length+1<CAP:=⟨h.hu,h.hv,hne,by have:=hp.hc;have:=h.hul;have:=h.hvl;omega⟩
theorem side4(hne:v≠ []):Lim (dw u v)/\(dw u v).length<CAP:=by
 obtain⟨v1,v2,v3,v4,v5,v6⟩:=jO h.hu h.hv hne;exact⟨v4,by have:=hp.hc;have:=h.hul;omega⟩
omit hp in
theorem rest(hne:v≠ []):Cano (enc (dec (false,dw u v))).2/\valL (enc (dec (false,dw u v))).2=valL u%valL v/\(enc (dec (false,dw u v))).2.length<=v.length/\0<=valL u%valL v/\valL u%valL v<valL v:=by
 obtain⟨v1,v2,v3,v4,v5,v6⟩:=jO h.hu h.hv hne;have hvo:0<valL v:=(valL_pos h.hv).2 hne;have hr0:=Int.emod_nonneg (valL u) (Int.ne_of_gt hvo);have hr1:=Int.emod_lt_of_pos (valL u) hvo;have e:dec (false,dw u v)=valL u%valL v:=v2;rw[e];have hl:=valL_lt h.hv.1;refine⟨limbs_can _,?_,limbs_len (by omega),hr0,hr1⟩;show valL (limbs (valL u%valL v).natAbs)=_;rw[limbs_val];omega
theorem next(hne:v≠ []):uu x y v (enc (dec (false,dw u v))).2/\(valL (enc (dec (false,dw u v))).2).toNat<(valL v).toNat:=by
 obtain⟨r1,r2,r3,r4,r5⟩:=h.rest hne;have hu0:=valL_nonneg h.hu.1;have hv0:=valL_nonneg h.hv.1;refine⟨⟨h.hv,r1,h.hvl,by have:=h.hvl;omega,?_⟩,by rw[r2];omega⟩;rw[<- h.hg,r2,Int.toNat_emod hu0 hv0];exact wF _ _
omit hp in
theorem stop(he:v= []):enc (dec (false,u))=enc (db (dec x) (dec y)):=by
 have hg:=h.hg;subst he;have hu0:=valL_nonneg h.hu.1;show enc (valL u)=_;unfold db;rw[<- hg];congr 1;simp[valL];omega
end uu
structure uv (x y:Bool×List Int) (a b:Int):Prop where
 a0:0<=a
 a1:a<18446744073709551616
 b0:0<=b
 b1:b<18446744073709551616
 hg:Nat.gcd a.toNat b.toNat=Nat.gcd (dec x).natAbs (dec y).natAbs
theorem EZ{l:List Int}(h:Lim l)(hl:l.length<=2):valL l<18446744073709551616:=by
 have h1:=valL_lt h;have h2:=pow_mono hl;have h3:LB^2=1000000000000000000:=rfl;omega
theorem uv.start{x y:Bool×List Int}{u v:List Int}(h:uu x y u v)(hp:mo x y)(hne:v≠ [])(hl:v.length<=2):uv x y (valL v) (valL (enc (dec (false,dw u v))).2):=by
 obtain⟨r1,r2,r3,r4,r5⟩:=h.rest hne;exact⟨valL_nonneg h.hv.1,EZ h.hv.1 hl,valL_nonneg r1.1,EZ r1.1 (by omega),(h.next hp hne).1.hg⟩
theorem uv.next{x y:Bool×List Int}{a b:Int}(h:uv x y a b)(hb:0<b):uv x y b (a.tmod b)/\(a.tmod b).toNat<b.toNat:=by
 rw[Int.tmod_eq_emod_of_nonneg h.a0];have h0:=Int.emod_nonneg a (Int.ne_of_gt hb);have h1:=Int.emod_lt_of_pos a hb;have:=h.b1;refine⟨⟨h.b0,h.b1,h0,by omega,?_⟩,by omega⟩;rw[<- h.hg,Int.toNat_emod h.a0 h.b0];exact wF _ _
theorem uv.stop{x y:Bool×List Int}{a b:Int}(h:uv x y a b)(hb: ¬0<b):a=((db (dec x) (dec y)).toNat:Int)/\(db (dec x) (dec y)).toNat<18446744073709551616:=by
 have hg:=h.hg;have:=h.b0;obtain rfl:b=0:=by omega
 have:(0:Int).toNat=0:=rfl;rw[this,Nat.gcd_zero_right] at hg;have h0:=h.a0;have h1:=h.a1;unfold db;rw[Int.toNat_natCast,<- hg];omega
theorem Hu(a b:Int):(false,limbs (db a b).toNat)=enc (db a b):=by
 unfold enc db;simp
end Go.Cm
end
section
namespace Go.Cm
open Go.Proofs
abbrev WT:Ty:= .st (.pair .bool (.slice (.int .u32)))
theorem qx(n:Int){k:Nat}(h:(enc n).2.length<=k):(n.natAbs:Int)<LB^k:=by
 have h1:=valL_lt (limbs_can n.natAbs).1;rw[limbs_val] at h1;exact Int.lt_of_lt_of_le h1 (pow_mono h)
theorem I64.b{n:Int}(h:I64 n): -9223372036854775808<=n/\n<=9223372036854775807:=h
theorem wG{d:Nat}(h:d<10):(UInt8.ofNat (48+d)).toNat=48+d:=by
 rw[UInt8.toNat_ofNat'];exact Nat.mod_eq_of_lt (by omega)
theorem i7:∀ (u:Nat),cR (Lib.decDigits u)/\numOf (Lib.decDigits u)=u/\(Lib.decDigits u)≠ []/\(0<u->(Lib.decDigits u).getD 0 0≠48):=by
 intro u;induction u using Nat.strongRecOn with
 |ind u ih=>
  rw[Lib.decDigits];split
  ·(rename_i h;have hc:=wG h;refine⟨fun c hc'=> ?_,?_,by simp,fun hp=> ?_⟩;·simp only[List.mem_singleton] at hc';rw[hc',hc];omega);·simp only[numOf,List.foldl_cons,List.foldl_nil,hc];omega
   ·simp only[List.getD_cons_zero];intro e;have:=congrArg UInt8.toNat e;rw[hc] at this;have h48:(48:UInt8).toNat=48:=rfl;omega
  ·rename_i h;have hc:=wG (d:=u%10) (by omega);obtain⟨h1,h2,h3,h4⟩:=ih (u/10) (by omega);refine⟨fun c hc'=> ?_,?_,by simp,fun _=> ?_⟩
   ·(rcases List.mem_append.1 hc' with hc'|hc';·exact h1 c hc');·simp only[List.mem_singleton] at hc';rw[hc',hc];omega
   ·rw[dm,h2];simp only[numOf,List.foldl_cons,List.foldl_nil,hc,List.length_cons,List.length_nil];omega
   ·match hq:Lib.decDigits (u/10),h3 with
    |a::l,_=>rw[hq] at h4;simpa using h4 (by omega)
theorem qy{D:List UInt8}(h:cR D)(hne:D≠ [])(h0:D.getD 0 0≠48∨D.length=1):Lib.decDigits (numOf D)=D:=by
 have key:∀ (n:Nat) (D:List UInt8),D.length=n+1->cR D->(D.getD 0 0≠48∨D.length=1)->Lib.decDigits (numOf D)=D:=by
  intro n;induction n with
  |zero=>
   intro D hl hd _;match D,hl with
   | [c],_=>
    have hc:=hd c (by simp);(have e:numOf [c]=c.toNat-48:=by simp[numOf]);rw[e,Lib.decDigits,dif_pos (by omega),show 48+(c.toNat-48)=c.toNat by omega,UInt8.ofNat_toNat]
  |succ n ih=>
   intro D hl hd h0;(have hne:D≠ []:=by rintro rfl;simp at hl);have e:=List.dropLast_concat_getLast hne;generalize hP:D.dropLast=P at e;generalize D.getLast hne=c at e;(have hPl:P.length=n+1:=by rw[<- hP,List.length_dropLast];omega);have hdP:cR P:=fun x hx=>hd x (by rw[<- e];simp[hx]);have hc:=hd c (by rw[<- e];simp);have hg:P.getD 0 0=D.getD 0 0:=by
    rw[<- e];match P,hPl with
    |a::l,_=>simp
   have h0D:D.getD 0 0≠48:=by
    (rcases h0 with h|h;·exact h);·omega
   (have h0P:P.getD 0 0≠48:=by rw[hg];exact h0D);have hi:=ih P hPl hdP (.inl h0P);have hpos:0<numOf P:=by
    by_cases hz:numOf P=0
    ·exfalso;rw[hz] at hi;(have h5:Lib.decDigits 0= [48]:=by rw[Lib.decDigits];rfl);rw[h5] at hi;rw[<- hi] at h0P;exact h0P rfl
    ·omega
   have hv:numOf D=numOf P*10+(c.toNat-48):=by
    rw[<- e,dm];simp[numOf]
   rw[hv,Lib.decDigits,dif_neg (by omega),show (numOf P*10+(c.toNat-48))/10=numOf P by omega,show (numOf P*10+(c.toNat-48))%10=c.toNat-48 by omega,hi,
    show 48+(c.toNat-48)=c.toNat by omega,UInt8.ofNat_toNat,e]
 match D,hne with
 |a::l,_=>exact key l.length (a::l) (by simp) h h0
theorem wH(l:List UInt8):dD (45::l) [45]=true/\aw (45::l) [45]=l:=by
 have h:dD (45::l) [45]=true:=by simp[dD]
 refine⟨h,?_⟩;unfold aw;rw[if_pos h];rfl
theorem kV{D:List UInt8}(h:cR D):dD D [45]=false/\aw D [45]=D:=by
 have h1:dD D [45]=false:=by
  rw[Bool.eq_false_iff];intro hp;unfold dD at hp;simp only[Bool.and_eq_true,decide_eq_true_eq,beq_iff_eq] at hp;match D,hp.2 with
  |c::l,e=>
   simp at e;have:=h c (by simp);rw[e] at this;exact absurd this.1 (by decide)
  | [],e=>simp at e
 refine⟨h1,?_⟩;unfold aw;rw[if_neg (by rw[h1];decide)]
theorem kW{s D:List UInt8}(ht:aw s [45]=D)(h:cR D)(hne:D≠ [])(h0:D.getD 0 0≠48∨s= [48]):chk s=if 2000<D.length then 6 else 0:=by
 by_cases h48:s= [48]
 ·rw[h48] at ht ⊢;have:D= [48]:=by rw[<- ht];decide
  rw[this];decide
 ·refine(iC h48 (by
   rw[ht];rintro(h1|h1);·exact hne h1
   ·(rcases h0 with h0|h0;·exact h0 h1);·exact h48 h0) (by
   rw[ht,List.all_eq_true];intro c hc;have:=h c hc;simp[fW];omega)).trans ?_
  rw[ht]
theorem ef(n:Int):dv n=((Lib.decDigits n.natAbs).length:Int):=by
 unfold dv Lib.itoa;rw[if_neg (by omega)];simp
theorem zr(n:Int):chk (Lib.itoa n)=(if 2000<dv n then 6 else 0)/\bu (Lib.itoa n)=n:=by
 obtain⟨d1,d2,d3,d4⟩:=i7 n.natAbs;by_cases hn:n<0
 ·have e:Lib.itoa n=45::Lib.decDigits n.natAbs:=by unfold Lib.itoa;rw[if_pos hn]
  obtain⟨p1,p2⟩:=wH (Lib.decDigits n.natAbs);rw[e,kW p2 d1 d3 (.inl (d4 (by omega))),ef];refine⟨?_,?_⟩
  ·by_cases h:2000<(Lib.decDigits n.natAbs).length
   ·rw[if_pos h,if_pos (by omega)]
   ·rw[if_neg h,if_neg (by omega)]
  ·unfold bu;rw[if_pos p1,p2,d2];omega
 ·have e:Lib.itoa n=Lib.decDigits n.natAbs:=by
   unfold Lib.itoa;rw[if_neg hn];congr 1;omega
  obtain⟨p1,p2⟩:=kV d1;have h0:(Lib.decDigits n.natAbs).getD 0 0≠48∨Lib.decDigits n.natAbs= [48]:=by
   by_cases hz:n.natAbs=0
   ·right;rw[hz,Lib.decDigits];rfl
   ·exact .inl (d4 (by omega))
  rw[e,kW p2 d1 d3 h0,ef];refine⟨?_,?_⟩
  ·by_cases h:2000<(Lib.decDigits n.natAbs).length
   ·rw[if_pos h,if_pos (by omega)]
   ·rw[if_neg h,if_neg (by omega)]
  ·unfold bu;rw[if_neg (by rw[p1];decide),p2,d2];omega
theorem kg{s:List UInt8}(h:chk s=0):Lib.itoa (bu s)=s/\dv (bu s)<=2000:=by
 obtain⟨c1,c2,c3,c4⟩:=EH h;have hne:aw s [45]≠ []:=by intro e;rw[e] at c2;simp at c2
 by_cases h48:s= [48]
 ·subst h48;have e:bu [48]=0:=by decide
  rw[e];refine⟨by simp[Lib.itoa,Lib.decDigits],by rw[ss];decide⟩
 ·have h0:=c4 h48;have hd:=qy c1 hne (.inl h0);have hpos:0<numOf (aw s [45]):=by
   by_cases hz:numOf (aw s [45])=0
   ·exfalso;rw[hz] at hd;(have h5:Lib.decDigits 0= [48]:=by rw[Lib.decDigits];rfl);rw[h5] at hd;rw[<- hd] at h0;exact h0 rfl
   ·omega
  have habs:(bu s).natAbs=numOf (aw s [45]):=by unfold bu;split<;>omega
  refine⟨?_,by rw[ef,habs,hd];omega⟩;unfold bu Lib.itoa;by_cases hp:dD s [45]=true
  ·rw[if_pos hp,if_pos (by omega),show (-(numOf (aw s [45]):Int)).natAbs=numOf (aw s [45]) by omega,hd];unfold aw;rw[if_pos hp];unfold dD at hp;simp only[Bool.and_eq_true,decide_eq_true_eq,beq_iff_eq] at hp;match s,hp.2 with
   |c::l,e=>simp at e;rw[e];rfl
   | [],e=>simp at e
  ·rw[if_neg hp,if_neg (by omega),Int.toNat_natCast,hd];unfold aw;rw[if_neg hp]
theorem Hv{n:Int}{k:Nat}(hk:0<k)(h:n.natAbs<10^k):dv n<=k:=by
 have:=iW h hk;rw[ef];omega
theorem wI{s:List UInt8}(h:chk s=0):lL s:=by
 obtain⟨d1,d2,d3,d4⟩:=EH h;unfold lL;have:s.length<=(aw s [45]).length+1:=by
  unfold aw;split;·rw[List.length_drop,show ([45]:List UInt8).length=1 from rfl];omega
  ·omega
 omega
theorem AR{n:Int}(h:10^2000<=n.natAbs):2000<dv n:=by
 have e:=we n.natAbs 2000;have hpos:0<n.natAbs/10^2000:=Cl _ 2000 h;have hl:=kH (u:=n.natAbs%10^2000) (k:=2000) (v:=n.natAbs/10^2000) hpos (Cn n.natAbs 2000);rw[<- e] at hl;have h3:=(i7 (n.natAbs/10^2000)).2.2.1;have h4:0<(Lib.decDigits (n.natAbs/10^2000)).length:=List.length_pos_iff.2 h3;rw[ef,hl];generalize (Lib.decDigits (n.natAbs/10^2000)).length=z at h4;omega
structure OKT (s:List UInt8) (v:Int):Prop where
 c:chk s=0
 v:bu s=v
def Bnd(v:Int)(k:Nat):Prop:=v.natAbs<10^k
theorem Bnd.add{a b:Int}{k:Nat}(ha:Bnd a k)(hb:Bnd b k):Bnd (a+b) (k+1):=by
 unfold Bnd at*;rw[Nat.pow_succ];omega
theorem Bnd.sub{a b:Int}{k:Nat}(ha:Bnd a k)(hb:Bnd b k):Bnd (a-b) (k+1):=by
 unfold Bnd at*;rw[Nat.pow_succ];omega
theorem Bnd.mul{a b:Int}{k l:Nat}(ha:Bnd a k)(hb:Bnd b l):Bnd (a*b) (k+l):=by
 unfold Bnd at*;rw[Int.natAbs_mul,Nat.pow_add];exact Nat.mul_lt_mul_of_lt_of_le ha (Nat.le_of_lt hb) (Nat.pow_pos (by decide))
theorem Bnd.mono{a:Int}{k l:Nat}(ha:Bnd a k)(h:k<=l):Bnd a l:=Nat.lt_of_lt_of_le ha (Nat.pow_le_pow_right (by decide) h)
theorem OKT.short{s:List UInt8}{v:Int}(h:OKT s v):lL s:=wI h.c
theorem OKT.eq{a b:List UInt8}{x y:Int}(ha:OKT a x)(hb:OKT b y):x=y↔a=b:=by
 constructor;·intro h;rw[<- (kg ha.c).1,<- (kg hb.c).1,ha.v,hb.v,h]
 ·rintro rfl;rw[<- ha.v,<- hb.v]
end Go.Cm
end
section
namespace Go.Proofs
open Go.RowKit Go.Cm Go.Shelf
attribute [local go_sem] Oper.semAt_some
def qA(xs:List Int)(k:Nat):List LV:= [.z (.int .i64) ((xs.length:Int)-1-k),.z (.int .u32) (xs.getD (xs.length-1-k) 0)]
def cG(xs:List Int):List (List LV):=(List.range xs.length).map (qA xs)
set_option maxRecDepth 100000 in
set_option maxHeartbeats 2000000 in
theorem Hw(F:Fence)(h7:F.fn 208)(hro:F.round=none)(l Bs oB b off len cap:Nat)(xs:List Int)(hlen:xs.length=len)(hbig:len<=maxLen)(J:Nat->World->Prop)(Jx:World->Prop)(Kp:World->World->Prop)
  (W:World) (hBs:W.cell? ⟨Bs,oB,none⟩=some (.slice (some ⟨b,off,none⟩) len cap)) (hc:∀ j,j<len->W.cell? ⟨b,off+j,none⟩=some (.int .u32 (xs.getD j 0)))
  (hKp:∀ A B,Kp A B->(∃ o:Obj,A.heap[Bs]? =some o/\o.isCells=true)->((0<len)->∃ o:Obj,A.heap[b]? =some o/\o.isCells=true)->B.heap[Bs]? =A.heap[Bs]? /\(0<len->B.heap[b]? =A.heap[b]?))
  (hY:∀ k W1,J k W1->k<len->YieldAt F 0 Tryz.prog l #[.int .i64 ((len:Int)-1-k),.int .u32 (xs.getD (len-1-k) 0)] W1 fun e W'=>(e= .returned (.bool true)/\J (k+1) W'/\Kp W1 W')∨(e= .returned (.bool false)/\Jx W'))
  (h0:J 0 W):
  CallsIn F 1 Tryz.prog 208 #[.func (.yield l) #[] #[],.pointer (some ⟨Bs,oB,none⟩)] W fun e W'=>(∃ v,e= .returned v)/\(J len W'∨Jx W'):=by
 unfold maxLen at hbig;refine callsIn_of_wp Tryz.func208 rfl h7 ?_ hro;simp only[Tryz.ntmps208,List.size_toArray,List.length_cons,List.length_nil,Nat.reduceAdd,Nat.reduceSub,Array.replicate_succ,Array.replicate_zero,List.push_toArray,List.append_toArray,List.nil_append,List.cons_append]
 gi_wp2
 gi_loopw [3] (fun i wr=>∃ k:Nat,k<=len/\i= .int .i64 ((len:Int)-1-k)/\J k wr/\wr.heap[Bs]? =W.heap[Bs]? /\(0<len->wr.heap[b]? =W.heap[b]?))
  (fun i _=>(intOf i+1).toNat)
 case atStart=>exact⟨0,Nat.zero_le _,by simp,h0,rfl,fun _=>rfl⟩
 case round=>
  obtain⟨k,hk,rfl,hJs,hn1,hn2⟩:=hrel;have hB1:wr.cell? ⟨Bs,oB,none⟩=some (.slice (some ⟨b,off,none⟩) len cap):=(World.cell?_of_block (a:=⟨Bs,oB,none⟩) hn1).trans hBs;by_cases hlt:k<len
  ·(have hge:0<=(len:Int)-1-k:=by omega);(have htn:((len:Int)-1-k).toNat=len-1-k:=by omega);(have hup:(len:Int)-1-k<len:=by omega);have hcx:wr.cell? ⟨b,off+(len-1-k),none⟩=some (.int .u32 (xs.getD (len-1-k) 0)):=(World.cell?_of_block (a:=⟨b,off+(len-1-k),none⟩) (hn2 (by omega))).trans (hc _ (by omega));have hcB:∃ o:Obj,wr.heap[Bs]? =some o/\o.isCells=true:=cells_of_cell hB1;have hcb:∃ o:Obj,wr.heap[b]? =some o/\o.isCells=true:=cells_of_cell hcx;obtain⟨fn,tmps,assign,body,hy,hR⟩:=hY k wr hJs hlt;generalize xs.getD (len-1-k) 0=x at*
   gi_wp2
   refine hR.mono ?_;rintro e W3 (⟨rfl,hJ3,hk3⟩|⟨rfl,hJx3⟩)
   ·obtain⟨e1,e2⟩:=hKp _ _ hk3 hcB (fun _=>hcb)
    gi_wp2
    go_roundw
    (case rel=>exact⟨k+1,by omega,by congr 1;omega,hJ3,e1.trans hn1,fun h=>(e2 h).trans (hn2 h)⟩);case measure=>simp[intOf];omega
   ·gi_wp2
    refine bodyPost_ret (results_none rfl _ _ _) rfl ?_;exact⟨⟨_,rfl⟩,.inr hJx3⟩
  ·(have hk2:k=len:=by omega);(have hng: ¬0<=(len:Int)-1-k:=by omega);rw[hk2] at hJs;clear hk2
   gi_wp2
   go_end0
   exact⟨⟨_,rfl⟩,.inl hJs⟩
set_option maxRecDepth 100000 in
set_option maxHeartbeats 2000000 in
theorem wJ(F:Fence)(h7:F.fn 208)(hro:F.round=none)(l Bs oB:Nat)(J:World->Prop)(W:World)(a:Option Addr)(cap:Nat)(hBs:W.cell? ⟨Bs,oB,none⟩=some (.slice a 0 cap))(h0:J W):
  CallsIn F 1 Tryz.prog 208 #[.func (.yield l) #[] #[],.pointer (some ⟨Bs,oB,none⟩)] W fun e W'=>(∃ v,e= .returned v)/\J W':=by
 refine callsIn_of_wp Tryz.func208 rfl h7 ?_ hro;simp only[Tryz.ntmps208,List.size_toArray,List.length_cons,List.length_nil,Nat.reduceAdd,Nat.reduceSub,Array.replicate_succ,Array.replicate_zero,List.push_toArray,List.append_toArray,List.nil_append,List.cons_append]
 gi_wp2
 gi_loopw [3] (fun i wr=>i= .int .i64 (-1)/\wr=W) (fun i _=>(intOf i+1).toNat)
 case atStart=>exact⟨rfl,rfl⟩
 case round=>
  obtain⟨rfl,rfl⟩:=hrel
  gi_wp2
  go_end0
  exact⟨⟨_,rfl⟩,h0⟩
theorem kI{H:Nat->Prop}{w:World}{b o:Nat}{c:Value}(h:cY H w b o [c]):w.cell? ⟨b,o,none⟩=some c/\b<w.heap.size/\ ¬H b:=
 ⟨by have:=h.2 0 (by simp);simpa using this,h.lt (by simp),h.1 (by simp)⟩
theorem wK(xs:List Int):lF Tryz.prog 208 2 [.z (.ptr (.slice (.int .u32))) xs] (cG xs):=by
 refine⟨enters_of Tryz.func208 (by kernel_rfl) rfl,?_,?_⟩;·intro it hit;obtain⟨k,_,rfl⟩:=List.mem_map.1 hit;exact⟨rfl,rfl⟩
 ·intro H w lb hH hcap;obtain⟨v,rfl⟩:∃ v,lb= [v]:=by
   match lb,hcap with
   | [v],_=>exact⟨v,rfl⟩
   |_::_::_,h=>exact h.2.elim
  obtain⟨hag,bB,oB,cells,hv,hsl,hlies⟩:=hcap.1;have hv2:v= .pointer (some ⟨bB,oB,none⟩):=by
   have hone:=b6 (v:=v) (by cases v<;>first|rfl|(simp[Ty.isAgg] at hag));rw[hone] at hv;simpa using hv
  subst hv2;refine⟨fun k=> #[.int .i64 ((xs.length:Int)-1-k),.int .u32 (xs.getD (xs.length-1-k) 0)],fun k hk=> ?_,?_⟩;·simp only[cG,List.getElem_map,List.getElem_range];exact⟨bE (ρ:=fun _=>undef),bE (ρ:=fun _=>undef),trivial⟩
  ·(intro l J Jx W hb _ _ _ _ hY h0;(have hlen:(cG xs).length=xs.length:=by simp[cG]);rw[hlen] at hY ⊢;rcases hsl with⟨rfl,rfl⟩|⟨b,o,p,cap,cs,rfl,hp,h1,h2,h3,h4⟩);·obtain⟨c1,c2,c3⟩:=kI hlies;exact(wJ (fw none) trivial rfl l bB oB (J 0) W none 0 ((hb.cell (p:=⟨bB,oB,none⟩) c2).trans c1) h0).mono (fun e W' h=>⟨h.1,.inl h.2⟩)
   ·(obtain⟨c1,c2,c3⟩:=kI hlies;by_cases hnil:xs= [];·subst hnil;exact(wJ (fw none) trivial rfl l bB oB (J 0) W (some ⟨b,o,p⟩) cap ((hb.cell (p:=⟨bB,oB,none⟩) c2).trans c1) h0).mono (fun e W' h=>⟨h.1,.inl h.2⟩));obtain rfl:=hp hnil;have hcs:=lu h3;(have hne:0<xs.length->cs≠ []:=fun h e=>by rw[hcs] at e;simp at e;subst e;simp at h);refine Hw (fw none) trivial rfl l bB oB b o xs.length cap xs rfl (Nat.le_trans h1 h2) J Jx (wc H w.heap.size) W ((hb.cell (p:=⟨bB,oB,none⟩) c2).trans c1) (fun j hj=> ?_) (fun A B hk hA1 hA2=>⟨hk bB c2 c3 hA1,fun h=>hk b (h4.lt (hne h)) (h4.1 (hne h)) (hA2 h)⟩) hY h0;(have hj':j<cs.length:=by rw[hcs];simpa using hj);rw[hb.cell (p:=⟨b,o+j,none⟩) (h4.lt (hne (by omega))),h4.2 j hj',hcs,List.getElem?_map,List.getElem?_eq_getElem hj];simp[List.getD_eq_getElem?_getD,List.getElem?_eq_getElem hj]
end Go.Proofs
end
section
namespace Go.Proofs.YtdojbabpnaifoaaGreatDoor
open Go Go.Cm Go.Proofs
theorem ty2:cQ Tryz.prog 2 (.int .i64):=me (by kernel_rfl) (by kernel_rfl)
theorem ty3:cQ Tryz.prog 3 (.int .i64):=me (by kernel_rfl) (by kernel_rfl)
theorem ty4:cQ Tryz.prog 4 .bool:=Hd (by kernel_rfl) (by kernel_rfl)
theorem ty5:cQ Tryz.prog 5 (.int .u8):=me (by kernel_rfl) (by kernel_rfl)
theorem ty9:cQ Tryz.prog 9 .str:=Ej (by kernel_rfl) (by kernel_rfl)
theorem iD:cQ Tryz.prog 22 (.slice .str):=gC (E:=46) (by kernel_rfl) (by kernel_rfl) (by kernel_rfl) (by kernel_rfl) (.inr rfl)
theorem jv:cQ Tryz.prog 31 (.int .i64):=me (by kernel_rfl) (by kernel_rfl)
theorem rR:cQ Tryz.prog 44 (.slice (.slice .str)):=gC (E:=22) (by kernel_rfl) (by kernel_rfl) (by kernel_rfl) (by kernel_rfl) (.inr rfl)
theorem wL:cQ Tryz.prog 46 .str:=Ej (by kernel_rfl) (by kernel_rfl)
theorem J8:cQ Tryz.prog 47 (.slice (.int .u8)):=gC (E:=5) (by kernel_rfl) (by kernel_rfl) (by kernel_rfl) (by kernel_rfl) (.inr rfl)
theorem Hx:cQ Tryz.prog 78 tyP:=gC (E:=91) (by kernel_rfl) (by kernel_rfl) (by kernel_rfl) (by kernel_rfl) (.inl rfl)
theorem fe:cQ Tryz.prog 79 tyP:=gC (E:=91) (by kernel_rfl) (by kernel_rfl) (by kernel_rfl) (by kernel_rfl) (.inl rfl)
theorem gD:cQ Tryz.prog 87 (.slice (.int .u32)):=gC (E:=161) (by kernel_rfl) (by kernel_rfl) (by kernel_rfl) (by kernel_rfl) (.inr rfl)
theorem fS:cQ Tryz.prog 89 tyW:=Ek (by kernel_rfl) (by kernel_rfl)
theorem ty91:cQ Tryz.prog 91 tyN:=Ek (by kernel_rfl) (by kernel_rfl)
theorem rS:cQ Tryz.prog 98 (.slice tyP):=gC (E:=79) (by kernel_rfl) (by kernel_rfl) (by kernel_rfl) (by kernel_rfl) (.inr rfl)
theorem IR:cQ Tryz.prog 151 (.st (.pair tyN (.int .i64))):=Ek (by kernel_rfl) (by kernel_rfl)
theorem ff:cQ Tryz.prog 161 (.int .u32):=me (by kernel_rfl) (by kernel_rfl)
theorem lO:cQ Tryz.prog 164 (.int .u64):=me (by kernel_rfl) (by kernel_rfl)
end Go.Proofs.YtdojbabpnaifoaaGreatDoor
end
section
namespace Go.Cm
open Go.Proofs
theorem I64.w{a:Int}(h:I64 a):IntKind.i64.wrap a=a:=wi h.1 (by have:=h.2;omega)
end Go.Cm
end
section
namespace Go.Cm.D
open Go.Cm
def LB:Int:=10000
def valL:List Int->Int
 | []=>0
 |x::r=>x+LB*valL r
def Lim(l:List Int):Prop:=∀ x∈l,0<=x/\x<LB
def Cano(l:List Int):Prop:=Lim l/\l.getLastD 1≠0
theorem valL_append(a b:List Int):valL (a++b)=valL a+LB^a.length*valL b:=by
 induction a with
 |nil=>simp[valL]
 |cons x r ih=>simp only[List.cons_append,valL,ih,List.length_cons,Int.pow_succ];rw[Int.mul_add,Int.add_assoc,Int.mul_comm (LB^r.length) LB,Int.mul_assoc]
theorem valL_one(x:Int):valL [x]=x:=by simp[valL]
theorem Lim.append{a b:List Int}(ha:Lim a)(hb:Lim b):Lim (a++b):=fun x hx=>(List.mem_append.1 hx).elim (ha x) (hb x)
theorem Lim.one{x:Int}(h0:0<=x)(h1:x<LB):Lim [x]:=fun y hy=>by simp at hy;subst hy;exact⟨h0,h1⟩
theorem valL_nonneg{l:List Int}(h:Lim l):0<=valL l:=by
 induction l with
 |nil=>simp[valL]
 |cons x r ih=>
  have h1:=h x (by simp);have h2:=ih fun y hy=>h y (by simp[hy]);have:0<=LB*valL r:=Int.mul_nonneg (by decide) h2;simp only[valL];omega
theorem valL_lt{l:List Int}(h:Lim l):valL l<LB^l.length:=by
 induction l with
 |nil=>simp[valL]
 |cons x r ih=>
  have h1:=h x (by simp);have h2:=ih fun y hy=>h y (by simp[hy]);simp only[valL,List.length_cons,Int.pow_succ];have h3:LB*valL r<=LB*(LB^r.length-1):=Int.mul_le_mul_of_nonneg_left (by omega) (by decide);rw[Int.mul_sub,Int.mul_one] at h3;rw[Int.mul_comm (LB^r.length)];omega
theorem valL_inj:∀ {a b:List Int},Lim a->Lim b->a.length=b.length->valL a=valL b->a=b
 | [],[],_,_,_,_=>rfl
 |x::r,y::s,ha,hb,hl,hv=>by
  have h1:=ha x (by simp);have h2:=hb y (by simp);simp only[valL] at hv;have hm:x%LB=y%LB:=by
   (have:(x+LB*valL r)%LB=(y+LB*valL s)%LB:=by rw[hv]);rwa [Int.add_mul_emod_self_left,Int.add_mul_emod_self_left] at this
  rw[Int.emod_eq_of_lt h1.1 h1.2,Int.emod_eq_of_lt h2.1 h2.2] at hm;subst hm;have hv2:valL r=valL s:=Int.eq_of_mul_eq_mul_left (a:=LB) (by decide) (by omega);rw[valL_inj (fun z hz=>ha z (by simp[hz])) (fun z hz=>hb z (by simp[hz])) (by simpa using hl) hv2]
 | [],_::_,_,_,hl,_=>by simp at hl
 |_::_,[],_,_,hl,_=>by simp at hl
theorem getLastD_append{a b:List Int}{d:Int}(hb:b≠ []):(a++b).getLastD d=b.getLastD d:=by
 cases b with
 |nil=>exact absurd rfl hb
 |cons x r=>simp[List.getLastD_eq_getLast?,List.getLast?_append,List.getLast?_eq_some_getLast hb]
theorem valL_ge{l:List Int}(h:Cano l)(hne:l≠ []):LB^(l.length-1)<=valL l:=by
 obtain⟨h1,h2⟩:=h;have hl:=List.dropLast_concat_getLast hne;have hlast:l.getLastD 1=l.getLast hne:=by rw[List.getLastD_eq_getLast?,List.getLast?_eq_some_getLast hne];rfl
 rw[hlast] at h2;have h3:=h1 (l.getLast hne) (List.getLast_mem hne);have h4:Lim l.dropLast:=fun x hx=>h1 x (List.dropLast_subset l hx);have h5:=valL_nonneg h4;have h6:valL l=valL l.dropLast+LB^l.dropLast.length*l.getLast hne:=by
  conv=>lhs;rw[<- hl]
  rw[valL_append,valL_one]
 rw[h6,List.length_dropLast];have h7:0<=LB^(l.length-1):=Int.pow_nonneg (by decide);have h8:LB^(l.length-1)*1<=LB^(l.length-1)*l.getLast hne:=Int.mul_le_mul_of_nonneg_left (by omega) h7;omega
theorem pow_mono{a b:Nat}(h:a<=b):LB^a<=LB^b:=by
 induction h with
 |refl=>exact Int.le_refl _
 | @step m h ih=>
  rw[Int.pow_succ];have:0<=LB^m:=Int.pow_nonneg (show (0:Int)<=LB by decide);have h2:LB^m*1<=LB^m*LB:=Int.mul_le_mul_of_nonneg_left (by decide) this;omega
theorem Cano.eq{a b:List Int}(ha:Cano a)(hb:Cano b)(h:valL a=valL b):a=b:=by
 have key:∀ {a b:List Int},Cano a->Cano b->valL a=valL b-> ¬a.length<b.length:=by
  intro a b ha hb h hlt;have hne:b≠ []:=by intro e;subst e;simp at hlt
  have h1:=valL_lt ha.1;have h2:=valL_ge hb hne;have h3:=pow_mono (show a.length<=b.length-1 by omega);omega
 exact valL_inj ha.1 hb.1 (by have:=key ha hb h;have:=key hb ha h.symm;omega) h
def limbs(n:Nat):List Int:=if h:n=0 then [] else ((n%10000:Nat):Int)::limbs (n/10000)
termination_by n
decreasing_by omega
theorem limbs_val(n:Nat):valL (limbs n)=n:=by
 induction n using limbs.induct with
 |case1=>simp[limbs,valL]
 |case2 n h ih=>
  rw[limbs,dif_neg h,valL,ih];unfold LB;omega
theorem limbs_nil{n:Nat}:limbs n= []↔n=0:=by
 rw[limbs];split;·simp[*]
 ·simp[*]
theorem limbs_can(n:Nat):Cano (limbs n):=by
 induction n using limbs.induct with
 |case1=>simp[limbs,Cano,Lim]
 |case2 n h ih=>
  rw[limbs,dif_neg h];refine⟨fun x hx=> ?_,?_⟩
  ·(rcases List.mem_cons.1 hx with rfl|hx;·unfold LB;omega);·exact ih.1 x hx
  ·by_cases e:limbs (n/10000)= []
   ·have:=limbs_nil.1 e;rw[e];simp;omega
   ·have:=getLastD_append (a:= [((n%10000:Nat):Int)]) (d:=1) e;rw[List.singleton_append] at this;rw[this];exact ih.2
theorem Cano.limbs{a:List Int}(h:Cano a){n:Nat}(hv:valL a=n):a=limbs n:=h.eq (limbs_can n) (by rw[hv,limbs_val])
theorem limbs_len{n k:Nat}(h:(n:Int)<LB^k):(limbs n).length<=k:=by
 by_cases e:limbs n= []
 ·simp[e]
 ·have h1:=valL_ge (limbs_can n) e;rw[limbs_val] at h1;by_cases hk:(limbs n).length<=k;·exact hk
  ·have:=pow_mono (show k<=(limbs n).length-1 by omega);omega
theorem take_succ_val{l:List Int}{k:Nat}(h:k<l.length):valL (l.take (k+1))=valL (l.take k)+LB^k*l.getD k 0:=by
 rw[List.take_add_one,valL_append];simp only[List.length_take,Nat.min_eq_left (Nat.le_of_lt h),List.getElem?_eq_getElem h,Option.toList_some,valL_one,List.getD_eq_getElem?_getD,Option.getD_some]
theorem Lim.getD{l:List Int}(h:Lim l)(k:Nat):0<=l.getD k 0/\l.getD k 0<LB:=by
 rw[List.getD_eq_getElem?_getD];by_cases hk:k<l.length;·rw[List.getElem?_eq_getElem hk];exact h _ (List.getElem_mem hk)
 ·rw[List.getElem?_eq_none (by omega)];exact⟨by simp,by simp;decide⟩
theorem take_val(l:List Int)(k:Nat):valL (l.take (k+1))=valL (l.take k)+LB^k*l.getD k 0:=by
 by_cases h:k<l.length
 ·exact take_succ_val h
 ·rw[List.take_of_length_le (by omega),List.take_of_length_le (by omega),List.getD_eq_getElem?_getD,List.getElem?_eq_none (by omega)];simp
theorem cano_of_ge{l:List Int}(h:Lim l)(hv:l≠ []->LB^(l.length-1)<=valL l):Cano l:=by
 refine⟨h,fun h0=> ?_⟩;by_cases hne:l= [];·subst hne;simp at h0
 ·have hl:=List.dropLast_concat_getLast hne;have hlast:l.getLastD 1=l.getLast hne:=by rw[List.getLastD_eq_getLast?,List.getLast?_eq_some_getLast hne];rfl
  rw[hlast] at h0;have h4:Lim l.dropLast:=fun x hx=>h x (List.dropLast_subset l hx);have h6:valL l=valL l.dropLast+LB^l.dropLast.length*l.getLast hne:=by
   conv=>lhs;rw[<- hl]
   rw[valL_append,valL_one]
  rw[h0,Int.mul_zero,Int.add_zero] at h6;have h7:=valL_lt h4;rw[List.length_dropLast] at h7;have:=hv hne;omega
theorem tdiv_nn{n:Int}(h:0<=n):n.tdiv 10000=n/LB/\n.tmod 10000=n%LB:=
 ⟨Int.tdiv_eq_ediv_of_nonneg h,Int.tmod_eq_emod_of_nonneg h⟩
theorem valL_pos{l:List Int}(h:Cano l):0<valL l↔l≠ []:=by
 constructor;·rintro h1 rfl;simp[valL] at h1
 ·intro hne;have h1:=valL_ge h hne;have h2:0<LB^(l.length-1):=Int.pow_pos (by decide);omega
theorem last_eq{l:List Int}(h:0<l.length):nth (.int .i64) l ((l.length:Int)-1)=l.getLastD 1:=by
 have hne:l≠ []:=by intro e;subst e;simp at h
 have e:((l.length:Int)-1).toNat=l.length-1:=by omega
 show l.getD _ _=_;rw[e,List.getD_eq_getElem?_getD,List.getElem?_eq_getElem (by omega),List.getLastD_eq_getLast?,List.getLast?_eq_getElem?,List.getElem?_eq_getElem (by omega)];rfl
theorem drop_zero_val{l:List Int}(hl:Lim l)(h:0<l.length)(h0:l.getLastD 1=0):valL l.dropLast=valL l/\Lim l.dropLast:=by
 have hne:l≠ []:=by intro e;subst e;simp at h
 have hd:=List.dropLast_concat_getLast hne;have hlast:l.getLastD 1=l.getLast hne:=by rw[List.getLastD_eq_getLast?,List.getLast?_eq_some_getLast hne];rfl
 refine⟨?_,fun x hx=>hl x (List.dropLast_subset l hx)⟩;conv=>rhs;rw[<- hd]
 rw[valL_append,valL_one,<- hlast,h0];omega
theorem take_last{l:List Int}(h:0<l.length):List.take (IntKind.i64.wrap ((l.length:Int)-1)).toNat l=l.dropLast∨ ¬ (l.length:Int)<9223372036854775808:=by
 by_cases hb:(l.length:Int)<9223372036854775808
 ·left;rw[wo];have e:((l.length:Int)-1).toNat=l.length-1:=by omega
  rw[e,List.dropLast_eq_take]
 ·exact .inr hb
theorem whole_round{m z:List Int}(g1:Lim z)(g2:valL z=valL m)(g3:z.length<=m.length)(hz:(0:Int)<(z.length:Int))(hb:z.length<1000000000000)(h0:nth (.int .i64) z (IntKind.i64.wrap ((z.length:Int)-1))=0):
  Lim (List.drop (Int.toNat 0) (List.take (IntKind.i64.wrap ((z.length:Int)-1)).toNat z))/\valL (List.drop (Int.toNat 0) (List.take (IntKind.i64.wrap ((z.length:Int)-1)).toNat z))=valL m/\
   (List.drop (Int.toNat 0) (List.take (IntKind.i64.wrap ((z.length:Int)-1)).toNat z)).length<=m.length/\(List.drop (Int.toNat 0) (List.take (IntKind.i64.wrap ((z.length:Int)-1)).toNat z)).length<z.length:=by
 have hz':0<z.length:=by omega
 have e:=(take_last hz').resolve_right (by omega);rw[wo,last_eq hz'] at h0;obtain⟨d1,d2⟩:=drop_zero_val g1 hz' h0;rw[show Int.toNat 0=0 from rfl,List.drop_zero,e];exact⟨d2,by rw[d1,g2],by simp;omega,by simp;omega⟩
theorem cmp_len{a b:List Int}(ha:Cano a)(hb:Cano b)(h:a.length<b.length):valL a<valL b:=by
 have hne:b≠ []:=by intro e;subst e;simp at h
 have h1:=valL_lt ha.1;have h2:=valL_ge hb hne;have h3:=pow_mono (show a.length<=b.length-1 by omega);omega
theorem cmp_at{a b:List Int}(ha:Lim a)(hb:Lim b)(hl:a.length=b.length){k:Nat}(hk:k<a.length)(h:a.drop (k+1)=b.drop (k+1))(hlt:a.getD k 0<b.getD k 0):valL a<valL b:=by
 have e1:valL a=valL (a.take (k+1))+LB^(k+1)*valL (a.drop (k+1)):=by
  conv=>lhs;rw[<- List.take_append_drop (k+1) a]
  rw[valL_append,List.length_take,Nat.min_eq_left (by omega)]
 have e2:valL b=valL (b.take (k+1))+LB^(k+1)*valL (b.drop (k+1)):=by
  conv=>lhs;rw[<- List.take_append_drop (k+1) b]
  rw[valL_append,List.length_take,Nat.min_eq_left (by omega)]
 rw[e1,e2,h,take_val,take_val];have h1:=valL_lt (l:=a.take k) (fun x hx=>ha x (List.mem_of_mem_take hx));have h2:=valL_nonneg (l:=b.take k) (fun x hx=>hb x (List.mem_of_mem_take hx));rw[List.length_take,Nat.min_eq_left (by omega)] at h1;have h3:LB^k*(a.getD k 0+1)<=LB^k*b.getD k 0:=Int.mul_le_mul_of_nonneg_left (by omega) (Int.pow_nonneg (by decide));rw[Int.mul_add,Int.mul_one] at h3;omega
def padL:Nat->Nat->List Int
 |_,0=> []
 |v,k+1=>((v%10000:Nat):Int)::padL (v/10000) k
theorem padL_len:∀ (v k:Nat),(padL v k).length=k
 |_,0=>rfl
 |v,k+1=>by simp[padL,padL_len]
theorem padL_lim:∀ (v k:Nat),Lim (padL v k)
 |_,0=>fun x hx=>by simp[padL] at hx
 |v,k+1=>fun x hx=>by
  rcases List.mem_cons.1 hx with rfl|hx;·unfold LB;omega
  ·exact padL_lim _ k x hx
theorem padL_val:∀ (v k:Nat),(v:Int)<LB^k->valL (padL v k)=v
 |v,0,h=>by
  have:v=0:=by simp at h;omega
  subst this;rfl
 |v,k+1,h=>by
  have:((v/10000:Nat):Int)<LB^k:=by
   rw[Int.pow_succ] at h;(have e:((v/10000:Nat):Int)=(v:Int)/LB:=by unfold LB;omega);rw[e];exact Int.ediv_lt_of_lt_mul (by decide) h
  rw[padL,valL,padL_val _ k this];unfold LB;omega
theorem Lim.pad{l:List Int}(h:Lim l){v k:Nat}(hl:l.length=k)(hv:valL l=v):l=padL v k:=
 valL_inj h (padL_lim v k) (by rw[hl,padL_len]) (by rw[hv,padL_val];rw[<- hv,<- hl];exact valL_lt h)
theorem len_le{a b:List Int}(ha:Cano a)(hb:Cano b)(h:valL a<=valL b):a.length<=b.length:=by
 by_cases hl:b.length<a.length
 ·have:=cmp_len hb ha hl;omega
 ·omega
theorem minus_round{m o out:List Int}{k:Nat}{b n b':Int}(g2:out.length=k)(g3:Lim out)(g6:valL out+valL (o.take k)=valL (m.take k)+LB^k*b)(hn:0<=n)(hn2:n<LB)(he:n=m.getD k 0-b-o.getD k 0+LB*b'):
  Lim (out++ [n])/\valL (out++ [n])+valL (o.take (k+1))=valL (m.take (k+1))+LB^(k+1)*b':=by
 refine⟨g3.append (Lim.one hn hn2),?_⟩;rw[valL_append,valL_one,g2,take_val,take_val,Int.pow_succ];have h1:LB^k*n=LB^k*m.getD k 0-LB^k*b-LB^k*o.getD k 0+LB^k*LB*b':=by
  rw[he,Int.mul_add,Int.mul_sub,Int.mul_sub,Int.mul_assoc]
 omega
theorem minus_end{m o out:List Int}{b:Int}(hm:Cano m)(ho:Cano o)(hle:valL o<=valL m)(g2:out.length=m.length)(g3:Lim out)(g4:0<=b)(g6:valL out+valL (o.take m.length)=valL m+LB^m.length*b):out=padL (valL m-valL o).toNat m.length:=by
 rw[List.take_of_length_le (len_le ho hm hle)] at g6;have h1:=valL_lt g3;rw[g2] at h1;have h2:0<LB^m.length:=Int.pow_pos (by decide);have hb:b=0:=by
  by_cases hb:b=0
  ·exact hb
  ·have:LB^m.length*1<=LB^m.length*b:=Int.mul_le_mul_of_nonneg_left (by omega) (by omega);omega
 subst hb;exact g3.pad g2 (by omega)
theorem plus_len{m o:List Int}(hm:Cano m)(ho:Cano o):(limbs (valL m+valL o).toNat).length<=m.length+o.length:=by
 have h1:=valL_lt hm.1;have h2:=valL_lt ho.1;have h3:=valL_nonneg hm.1;have h4:=valL_nonneg ho.1;have hpos:∀ k,1<=LB^k:=fun k=>(Int.pow_pos (show (0:Int)<LB by decide):0<LB^k);by_cases e1:m= [];·subst e1;rw[show valL ([]:List Int)=0 from rfl,Int.zero_add];exact limbs_len (by rw[Int.toNat_of_nonneg h4];simpa using h2)
 ·by_cases e2:o= []
  ·subst e2;rw[show valL ([]:List Int)=0 from rfl,Int.add_zero];exact limbs_len (by rw[Int.toNat_of_nonneg h3];simpa using h1)
  ·have l1:=List.length_pos_iff.2 e1;have l2:=List.length_pos_iff.2 e2;refine limbs_len ?_;rw[Int.toNat_of_nonneg (by omega)];have p1:=pow_mono (show m.length<=m.length+o.length-1 by omega);have p2:=pow_mono (show o.length<=m.length+o.length-1 by omega);have p3:LB^(m.length+o.length)=LB^(m.length+o.length-1)*LB:=by
    rw[<- Int.pow_succ];congr 1;omega
   have p4:=hpos (m.length+o.length-1);have p5:LB^(m.length+o.length-1)*2<=LB^(m.length+o.length-1)*LB:=Int.mul_le_mul_of_nonneg_left (by decide) (by omega);omega
theorem minus_val{m o:List Int}(hm:Cano m)(ho:Cano o)(hle:valL o<=valL m):valL (padL (valL m-valL o).toNat m.length)=valL m-valL o:=by
 have h1:=valL_lt hm.1;have h2:=valL_nonneg ho.1;rw[padL_val _ _ (by rw[Int.toNat_of_nonneg (by omega)];omega),Int.toNat_of_nonneg (by omega)]
theorem cmp_lens{m o:List Int}(hm:Cano m)(ho:Cano o)(h:bq (m.length:Int) (o.length:Int)≠0):bq (m.length:Int) (o.length:Int)=bq (valL m) (valL o):=by
 unfold bq at h ⊢;by_cases h1:m.length<o.length;·have:=cmp_len hm ho h1;rw[if_pos (by omega),if_pos this]
 ·by_cases h2:o.length<m.length
  ·have:=cmp_len ho hm h2;rw[if_neg (by omega),if_pos (by omega),if_neg (by omega),if_pos this]
  ·rw[if_neg (by omega),if_neg (by omega)] at h;exact absurd rfl h
theorem cmp_place{m o:List Int}(hm:Cano m)(ho:Cano o)(hl:m.length=o.length){k:Nat}(hk:k<m.length)(hd:m.drop (k+1)=o.drop (k+1))(h:bq (m.getD k 0) (o.getD k 0)≠0):bq (m.getD k 0) (o.getD k 0)=bq (valL m) (valL o):=by
 unfold bq at h ⊢;by_cases h1:m.getD k 0<o.getD k 0;·have:=cmp_at hm.1 ho.1 hl hk hd h1;rw[if_pos h1,if_pos this]
 ·by_cases h2:o.getD k 0<m.getD k 0
  ·have:=cmp_at ho.1 hm.1 hl.symm (by omega) hd.symm h2;rw[if_neg h1,if_pos h2,if_neg (by omega),if_pos this]
  ·rw[if_neg h1,if_neg h2] at h;exact absurd rfl h
theorem drop_step{m o:List Int}{k:Nat}(hl:m.length=o.length)(hk:k<m.length)(hd:m.drop (k+1)=o.drop (k+1))(h:m.getD k 0=o.getD k 0):m.drop k=o.drop k:=by
 rw[List.drop_eq_getElem_cons hk,List.drop_eq_getElem_cons (show k<o.length by omega),hd];rw[List.getD_eq_getElem?_getD,List.getD_eq_getElem?_getD,List.getElem?_eq_getElem hk,List.getElem?_eq_getElem (show k<o.length by omega)] at h;simp at h;rw[h]
theorem set_val:∀ {l:List Int} {j:Nat} {v:Int},j<l.length->valL (l.set j v)=valL l+LB^j*(v-l.getD j 0)
 |x::r,0,v,_=>by simp[valL];omega
 |x::r,j+1,v,h=>by
  have ih:=set_val (l:=r) (j:=j) (v:=v) (by simpa using h);simp only[List.set_cons_succ,valL,ih,List.getD_cons_succ,Int.pow_succ];rw[Int.mul_add,Int.mul_comm (LB^j) LB,Int.mul_assoc];omega
 | [],_,_,h=>by simp at h
theorem set_lim{l:List Int}{j:Nat}{v:Int}(h:Lim l)(h0:0<=v)(h1:v<LB):Lim (l.set j v):=fun x hx=>by
 rcases List.mem_or_eq_of_mem_set hx with h2|rfl;·exact h x h2
 ·exact⟨h0,h1⟩
theorem getD_set_ne{l:List Int}{j k:Nat}{v:Int}(h:j≠k):(l.set j v).getD k 0=l.getD k 0:=by
 rw[List.getD_eq_getElem?_getD,List.getD_eq_getElem?_getD,List.getElem?_set_ne h]
theorem mul_bound{x y a c:Int}(hx:0<=x/\x<LB)(hy:0<=y/\y<LB)(ha:0<=a/\a<LB)(hc:0<=c/\c<LB):0<=x*y/\x*y+a+c<LB*LB/\x*y<=LB*LB:=by
 have h1:0<=x*y:=Int.mul_nonneg hx.1 hy.1;have h2:x*y<=(LB-1)*(LB-1):=Int.mul_le_mul (by omega) (by omega) hy.1 (by decide);have hB:LB=10000:=rfl;have h3:(LB-1)*(LB-1)=99980001:=rfl;have h4:LB*LB=100000000:=rfl;omega
theorem mul_step{x y out:List Int}{i k:Nat}{c p n:Int}(hx:Lim x)(hy:Lim y)(h1:out.length=x.length+y.length)(h2:Lim out)(h3:0<=c)(h4:c<LB)(hi:i<x.length)(hk:k<y.length)
  (h6:valL out+LB^(i+k)*c=p+LB^i*(x.getD i 0*valL (y.take k))) (hz:∀ j,i+y.length<=j->out.getD j 0=0) (hn:n=x.getD i 0*y.getD k 0+out.getD (i+k) 0+c):
  0<=n/\n<LB*LB/\(out.set (i+k) (n%LB)).length=x.length+y.length/\Lim (out.set (i+k) (n%LB))/\0<=n/LB/\n/LB<LB/\
   valL (out.set (i+k) (n%LB))+LB^(i+(k+1))*(n/LB)=p+LB^i*(x.getD i 0*valL (y.take (k+1)))/\∀ j,i+y.length<=j->(out.set (i+k) (n%LB)).getD j 0=0:=by
 have hb:=mul_bound (hx.getD i) (hy.getD k) (h2.getD (i+k)) ⟨h3,h4⟩;have ha:=h2.getD (i+k);have hB:LB=10000:=rfl;have hn0:0<=n:=by omega
 have hn1:n<LB*LB:=by omega
 have hm:0<=n%LB/\n%LB<LB:=⟨Int.emod_nonneg _ (by decide),Int.emod_lt_of_pos _ (by decide)⟩;refine⟨hn0,hn1,by simp[h1],set_lim h2 hm.1 hm.2,Int.ediv_nonneg hn0 (by decide),Int.ediv_lt_of_lt_mul (by decide) hn1,?_,fun j hj=> ?_⟩
 ·rw[set_val (by omega),take_val,<- Nat.add_assoc,Int.pow_succ];have e1:n%LB+LB*(n/LB)=n:=Int.emod_add_mul_ediv n LB;have e2:LB^(i+k)*(n%LB-out.getD (i+k) 0)+LB^(i+k)*LB*(n/LB)=LB^(i+k)*(n-out.getD (i+k) 0):=by
   rw[Int.mul_assoc,<- Int.mul_add];congr 1;omega
  have e3:n-out.getD (i+k) 0=x.getD i 0*y.getD k 0+c:=by omega
  have e4:LB^(i+k)=LB^i*LB^k:=Int.pow_add ..;have e5:LB^i*(x.getD i 0*(valL (y.take k)+LB^k*y.getD k 0))=LB^i*(x.getD i 0*valL (y.take k))+LB^(i+k)*(x.getD i 0*y.getD k 0):=by
   rw[Int.mul_add,Int.mul_add,e4];congr 1;rw[Int.mul_assoc,Int.mul_left_comm (x.getD i 0)]
  rw[e3,Int.mul_add] at e2;omega
 ·rw[getD_set_ne (by omega)];exact hz j hj
theorem mul_row{x y out:List Int}{i:Nat}{c p:Int}(h1:out.length=x.length+y.length)(h2:Lim out)(h3:0<=c)(h4:c<LB)(hi:i<x.length)(hp:p=valL (x.take i)*valL y)
  (h6:valL out+LB^(i+y.length)*c=p+LB^i*(x.getD i 0*valL y)) (hz:∀ j,i+y.length<=j->out.getD j 0=0):
  (out.set (i+y.length) c).length=x.length+y.length/\Lim (out.set (i+y.length) c)/\valL (out.set (i+y.length) c)=valL (x.take (i+1))*valL y/\∀ j,i+1+y.length<=j->(out.set (i+y.length) c).getD j 0=0:=by
 refine⟨by simp[h1],set_lim h2 h3 h4,?_,fun j hj=> ?_⟩;·rw[set_val (by omega),hz _ (Nat.le_refl _),take_val,Int.add_mul,Int.sub_zero,h6,hp,Int.mul_assoc]
 ·rw[getD_set_ne (by omega)];exact hz j (by omega)
theorem replicate_zero(n:Nat):Lim (List.replicate n 0)/\valL (List.replicate n 0)=0/\∀ j,(List.replicate n (0:Int)).getD j 0=0:=by
 refine⟨fun x hx=> ?_,?_,fun j=> ?_⟩;·have:=List.eq_of_mem_replicate hx;subst this;exact⟨by decide,by decide⟩
 ·induction n with
  |zero=>rfl
  |succ n ih=>rw[List.replicate_succ,valL,ih];rfl
 ·rw[List.getD_eq_getElem?_getD,List.getElem?_replicate];split<;>rfl
theorem hB:LB=10000:=rfl
theorem lbpos(k:Nat):0<LB^k:=Int.pow_pos (by decide)
theorem getD_none{l:List Int}{k:Nat}(h:l.length<=k):l.getD k 0=0:=by
 rw[List.getD_eq_getElem?_getD,List.getElem?_eq_none h];rfl
structure wM (x y:List Int) (i:Nat) (out:List Int):Prop where
 h1:i<=x.length
 h2:out.length=x.length+y.length
 h3:Lim out
 h4:valL out=valL (x.take i)*valL y
 h5:∀ j,i+y.length<=j->out.getD j 0=0
theorem times_start{x y:List Int}:wM x y 0 (List.replicate (x.length+y.length) 0):=by
 obtain⟨r1,r2,r3⟩:=replicate_zero (x.length+y.length);exact⟨by simp,by simp,r1,by simp[r2,valL],fun j _=>r3 j⟩
def Wid(y:List Int):Prop:=(∀ v∈y,0<=v/\v<=LB)/\valL y<=LB^y.length
theorem Wid.getD{y:List Int}(h:Wid y)(k:Nat):0<=y.getD k 0/\y.getD k 0<=LB:=by
 rw[List.getD_eq_getElem?_getD];by_cases hk:k<y.length;·rw[List.getElem?_eq_getElem hk];exact h.1 _ (List.getElem_mem hk)
 ·rw[List.getElem?_eq_none (by omega)];exact⟨by simp,by simp;decide⟩
theorem times_fin{x y out:List Int}{i:Nat}(h:wM x y i out)(hi: ¬i<x.length):valL out=valL x*valL y:=by
 have:i=x.length:=by have:=h.h1;omega
 rw[h.h4,this,List.take_length]
end Go.Cm.D
end
section
namespace Go.Cm
open Go.Proofs
def RF(s:List UInt8):Prop:=chk s≠5
theorem uw{s:List UInt8}(h:RF s):cR (aw s [45])/\0<(aw s [45]).length/\(s≠ [48]->(aw s [45]).getD 0 0≠48):=by
 unfold RF chk at h;by_cases h0:s= [48]
 ·subst h0;refine⟨?_,by decide,fun h=>absurd rfl h⟩;intro c hc;have:aw [48] [45]= [48]:=by decide
  rw[this] at hc;simp at hc;subst hc;decide
 ·rw[if_neg h0] at h;by_cases h1:(aw s [45]).length=0∨(aw s [45]).getD 0 0=48;·rw[if_pos h1] at h;exact absurd rfl h
  ·(rw[if_neg h1] at h;by_cases h2:(aw s [45]).all fW=false;·rw[if_pos h2] at h;exact absurd rfl h);·simp only[not_or] at h1;refine⟨fun c hc=> ?_,by omega,fun _=>h1.2⟩;(have h3:(aw s [45]).all fW=true:=by simpa using h2);have:=List.all_eq_true.1 h3 c hc;simpa [fW] using this
theorem mq{s:List UInt8}(h:RF s):Lib.itoa (bu s)=s:=by
 obtain⟨c1,c2,c4⟩:=uw h;have hne:aw s [45]≠ []:=by intro e;rw[e] at c2;simp at c2
 by_cases h48:s= [48]
 ·subst h48;have e:bu [48]=0:=by decide
  rw[e];simp[Lib.itoa,Lib.decDigits]
 ·have h0:=c4 h48;have hd:=qy c1 hne (.inl h0);have hpos:0<numOf (aw s [45]):=by
   by_cases hz:numOf (aw s [45])=0
   ·exfalso;rw[hz] at hd;(have h5:Lib.decDigits 0= [48]:=by rw[Lib.decDigits];rfl);rw[h5] at hd;rw[<- hd] at h0;exact h0 rfl
   ·omega
  unfold bu Lib.itoa;by_cases hp:dD s [45]=true
  ·rw[if_pos hp,if_pos (by omega),show (-(numOf (aw s [45]):Int)).natAbs=numOf (aw s [45]) by omega,hd];unfold aw;rw[if_pos hp];unfold dD at hp;simp only[Bool.and_eq_true,decide_eq_true_eq,beq_iff_eq] at hp;match s,hp.2 with
   |c::l,e=>simp at e;rw[e];rfl
   | [],e=>simp at e
  ·rw[if_neg hp,if_neg (by omega),Int.toNat_natCast,hd];unfold aw;rw[if_neg hp]
theorem eK(v:Int):RF (Lib.itoa v)/\bu (Lib.itoa v)=v:=by
 have h:=zr v;refine⟨?_,h.2⟩;unfold RF;rw[h.1];split<;>decide
theorem sE(s:List UInt8):(bu s).natAbs=numOf (aw s [45]):=by unfold bu;split<;>omega
namespace D
def ReadPhi(D:List UInt8)(r:Nat)(out:List Int):Prop:=
 out.length=r/\Lim out/\valL out=(numOf (D.drop (D.length-4*r)):Int)/\4*r<D.length+4
theorem read_start{D:List UInt8}:ReadPhi D 0 []:=by
 refine⟨rfl,fun x hx=>by simp at hx,?_,by omega⟩;simp[valL,numOf]
theorem J9(r:Nat):(LB^r:Int)=((10^(4*r):Nat):Int):=by
 rw[Nat.pow_mul];show (10000:Int)^r=((10000^r:Nat):Int);rw[Int.natCast_pow];rfl
def part(D:List UInt8)(lo i:Nat):Int:=(numOf ((D.take i).drop lo):Int)
theorem Hy{D:List UInt8}(hd:cR D)(lo i:Nat)(h:i<=lo+4):0<=part D lo i/\part D lo i<LB:=by
 have hdc:cR ((D.take i).drop lo):=fun x hx=>hd x (List.mem_of_mem_take (List.mem_of_mem_drop hx));have h1:=jK hdc;have h2:10^((D.take i).drop lo).length<=10^4:=Nat.pow_le_pow_right (by omega) (by rw[List.length_drop,List.length_take];omega);unfold part;rw[hB];omega
theorem read_next{D:List UInt8}{r:Nat}{out:List Int}(hd:cR D)(h:ReadPhi D r out)(hr:4*r<D.length):
  ReadPhi D (r+1) (out++ [part D (D.length-4*(r+1)) (D.length-4*r)]):=by
 obtain⟨h1,h2,h3,h4⟩:=h;have hb:=Hy hd (D.length-4*(r+1)) (D.length-4*r) (by omega);refine⟨by simp[h1],h2.append (Lim.one hb.1 hb.2),?_,by omega⟩;rw[valL_append,valL_one,h1,h3,J9];unfold part;have e:D.drop (D.length-4*(r+1))=(D.take (D.length-4*r)).drop (D.length-4*(r+1))++D.drop (D.length-4*r):=by
  have e0:D.drop (D.length-4*(r+1))=(D.take (D.length-4*r)++D.drop (D.length-4*r)).drop (D.length-4*(r+1)):=by rw[List.take_append_drop]
  rw[e0,List.drop_append,List.length_take,Nat.min_eq_left (by omega),show D.length-4*(r+1)-(D.length-4*r)=0 by omega,List.drop_zero]
 rw[e,dm,List.length_drop,show D.length-(D.length-4*r)=4*r by omega];rw[Int.natCast_add,Int.natCast_mul,Int.add_comm,Int.mul_comm]
theorem read_end{s:List UInt8}{r:Nat}{out:List Int}(h:ReadPhi (aw s [45]) r out)(hr: ¬4*r<(aw s [45]).length):(valL out).toNat=(bu s).natAbs/\Lim out:=by
 obtain⟨h1,h2,h3,h4⟩:=h;rw[show (aw s [45]).length-4*r=0 by omega,List.drop_zero] at h3;rw[h3,sE];exact⟨by simp,h2⟩
def dd(a:Nat):List UInt8:=if a=0 then [] else Lib.decDigits a
def wr(d:List Int)(i j:Nat):Nat:=(valL (d.drop (i+1))).toNat*10^j+(d.getD i 0).toNat/10^(4-j)
def unit(j:Nat):Int:=if j<4 then ((10^(3-j):Nat):Int) else 0
end D
end Go.Cm
end
section
namespace Go.Cm
open Go.Proofs
namespace D
theorem dd_lt{a k:Nat}(h:a<10^k):(dd a).length<=k:=by
 unfold dd;by_cases h0:a=0;·rw[if_pos h0];simp
 ·rw[if_neg h0];have hk:0<k:=by
   (rcases Nat.eq_zero_or_pos k with e|e;·rw[e] at h;simp at h;omega);·exact e
  have:=Hv (n:=(a:Int)) (k:=k) hk (by simpa using h);rw[ef,Int.natAbs_natCast] at this;omega
end D
end Go.Cm
end
section
namespace Go.Cm.D
open Go.Cm
theorem E0{l:List Int}(h:Lim l)(k:Nat):Lim (l.drop k):=fun x hx=>h x (List.mem_of_mem_drop hx)
theorem E1{l:List Int}(h:Cano l)(k:Nat):Cano (l.drop k):=by
 refine⟨E0 h.1 k,?_⟩;by_cases hk:k<l.length
 ·have hne:l.drop k≠ []:=by
   intro e;have:=congrArg List.length e;rw[List.length_drop] at this;simp at this;omega
  have:=getLastD_append (a:=l.take k) (d:=1) hne;rw[List.take_append_drop] at this;rw[<- this];exact h.2
 ·rw[List.drop_of_length_le (by omega)];simp
theorem E2{l:List Int}{k:Nat}(h:k<l.length):valL (l.drop k)=l.getD k 0+LB*valL (l.drop (k+1)):=by
 rw[List.drop_eq_getElem_cons h,List.getD_eq_getElem?_getD,List.getElem?_eq_getElem h];rfl
theorem CI{l:List Int}(k:Nat):valL (l.drop k)=l.getD k 0+LB*valL (l.drop (k+1)):=by
 by_cases h:k<l.length
 ·exact E2 h
 ·rw[List.drop_of_length_le (by omega),List.drop_of_length_le (by omega),getD_none (by omega)];simp[valL]
structure DivPhi (a b:List Int) (k:Nat) (q rest:List Int):Prop where
 hk:k<=q.length
 hq:q.length+b.length=a.length+1
 hl:Lim q
 hr:rest=limbs (valL (a.drop k)%valL b).toNat
 hv:valL (q.drop k)=valL (a.drop k)/valL b
theorem div_start{a b:List Int}{n:Nat}(ha:Cano a)(hb:Cano b)(hne:b≠ [])(hn:b.length=n+1)(hlt:n<a.length):DivPhi a b (a.length-n) (List.replicate (a.length-n) 0) (a.drop (a.length-n)):=by
 have hbge:=valL_ge hb hne;rw[hn,Nat.add_sub_cancel] at hbge;have hac:=E1 ha (a.length-n);have hal:=valL_lt hac.1;have ha0:=valL_nonneg hac.1;have hlen:(a.drop (a.length-n)).length=n:=by rw[List.length_drop];omega
 rw[hlen] at hal;refine⟨by simp,by simp;omega,(replicate_zero _).1,?_,?_⟩;·rw[Int.emod_eq_of_lt ha0 (by omega)];exact hac.limbs (by omega)
 ·rw[List.drop_of_length_le (by simp),Int.ediv_eq_zero_of_lt ha0 (by omega)];rfl
theorem zt{x y:Int}(h:0<y):0<=x%y/\x%y<y:=⟨Int.emod_nonneg _ (by omega),Int.emod_lt_of_pos _ h⟩
def R1(a b:List Int)(i:Nat):Int:=a.getD i 0+LB*(valL (a.drop (i+1))%valL b)
theorem E3{a b:List Int}{i:Nat}(ha:Lim a)(hb:0<valL b):0<=R1 a b i/\R1 a b i<LB*valL b/\R1 a b i%valL b=valL (a.drop i)%valL b/\valL (a.drop i)/valL b=LB*(valL (a.drop (i+1))/valL b)+R1 a b i/valL b:=by
 have hx:=ha.getD i;have hm:=zt (x:=valL (a.drop (i+1))) hb;have e:=hB;have e1:LB*(valL (a.drop (i+1))%valL b)<=LB*(valL b-1):=Int.mul_le_mul_of_nonneg_left (by omega) (by decide);have e0:0<=LB*(valL (a.drop (i+1))%valL b):=Int.mul_nonneg (by decide) hm.1;rw[Int.mul_sub,Int.mul_one] at e1;have hd:=Int.emod_add_mul_ediv (valL (a.drop (i+1))) (valL b);have hv:valL (a.drop i)=R1 a b i+valL b*(LB*(valL (a.drop (i+1))/valL b)):=by
  rw[CI,R1];have:LB*valL (a.drop (i+1))=LB*(valL (a.drop (i+1))%valL b)+LB*(valL b*(valL (a.drop (i+1))/valL b)):=by rw[<- Int.mul_add,hd]
  rw[this,Int.mul_left_comm (valL b) LB];omega
 refine⟨by unfold R1;omega,by unfold R1;omega,?_,?_⟩;·rw[hv,Int.add_mul_emod_self_left]
 ·rw[hv,Int.add_mul_ediv_left _ _ (by omega)];omega
theorem div_next{a b q rest:List Int}{i:Nat}{d:Int}(ha:Lim a)(hb:Cano b)(hne:b≠ [])(h:DivPhi a b (i+1) q rest)(hd:d=R1 a b i/valL b):
  0<=d/\d<LB/\DivPhi a b i (q.set i d) (limbs (R1 a b i%valL b).toNat):=by
 have hp:=(valL_pos hb).2 hne;obtain⟨f1,f2,f3,f4⟩:=E3 (i:=i) ha hp;obtain⟨g1,g2,g3,g4,g5⟩:=h;have d0:0<=d:=by rw[hd];exact Int.ediv_nonneg f1 (by omega)
 have d1:d<LB:=by rw[hd];exact Int.ediv_lt_of_lt_mul hp f2
 refine⟨d0,d1,by simp;omega,by simpa using g2,set_lim g3 d0 d1,by rw[f3],?_⟩;have e1:(q.set i d).drop i=d::q.drop (i+1):=by
  rw[List.drop_eq_getElem_cons (by simp;omega)];simp[List.drop_set]
 rw[e1,f4];simp only[valL];rw[g5,hd];omega
theorem div_end{a b q rest:List Int}(h:DivPhi a b 0 q rest):limbs (valL q).toNat=limbs (valL a/valL b).toNat/\rest=limbs (valL a%valL b).toNat:=by
 have h1:=h.hv;have h2:=h.hr;rw[List.drop_zero,List.drop_zero] at h1;rw[List.drop_zero] at h2;exact⟨by rw[h1],h2⟩
end Go.Cm.D
end
section
namespace Go.Cm
open Go.Proofs
def RS(n:Nat)(s:List UInt8):Prop:=RF s/\s.length<=n
theorem RS.cap{n:Nat}{s:List UInt8}(h:RS n s)(hn:n<1000000000000):RF s/\s.length<CAP:=⟨h.1,Nat.lt_of_le_of_lt h.2 hn⟩
theorem AU{a k:Nat}(h:a<10^k):(Lib.decDigits a).length<=k+1:=by
 by_cases h0:a=0
 ·subst h0;rw[Lib.decDigits];simp
 ·have h1:=D.dd_lt h;unfold D.dd at h1;rw[if_neg h0] at h1;omega
namespace D
end D
def lm(s:List UInt8):List Int:=D.limbs (bu s).natAbs
end Go.Cm
end
section
namespace Go.Cm
open Go.Proofs
theorem E4{s:List UInt8}{n:Nat}(h:s.length<=n)(hn:n<70368744177664):lL s:=Nat.lt_of_le_of_lt h hn
def S3k(s:List UInt8):Prop:=s.length<=3000
theorem S3k.short{s:List UInt8}(h:S3k s):lL s:=E4 h (by decide)
theorem S3k.cap{s:List UInt8}(h:S3k s):s.length<CAP:=Nat.lt_of_le_of_lt h (by decide)
abbrev NT:Ty:= .st (.pair WT WT)
abbrev ND:=(Bool×List Int)×(Bool×List Int)
def a8(q:Rat):ND:=(enc q.num,enc (q.den:Int))
def bj(x:ND):Rat:=Rat.divInt (dec x.1) (dec x.2)
def NOK(x:ND):Prop:=a8 (bj x)=x
def lw(n:Int):Nat:=(enc n).2.length
def lq(q:Rat):Nat:=max (lw q.num) (lw (q.den:Int))
def QC:Nat:=100000000000
theorem aF(q:Rat):bj (a8 q)=q:=by
 simp only[bj,a8,bG];exact Rat.num_divInt_den q
theorem bH(q:Rat):NOK (a8 q):=by simp only[NOK,aF]
theorem NOK.parts{x:ND}(h:NOK x):x.1=enc (bj x).num/\x.2=enc ((bj x).den:Int):=by
 have:=h.symm;exact⟨congrArg Prod.fst this,congrArg Prod.snd this⟩
theorem NOK.w1{x:ND}(h:NOK x):WOK x.1:=by rw[h.parts.1];exact enc_ok _
theorem NOK.w2{x:ND}(h:NOK x):WOK x.2:=by rw[h.parts.2];exact enc_ok _
theorem NOK.d1{x:ND}(h:NOK x):dec x.1=(bj x).num:=by rw[h.parts.1,bG]
theorem NOK.d2{x:ND}(h:NOK x):dec x.2=((bj x).den:Int):=by rw[h.parts.2,bG]
theorem NOK.pos{x:ND}(h:NOK x):0<dec x.2:=by rw[h.d2];have:=(bj x).den_pos;omega
theorem NOK.l1{x:ND}(h:NOK x):x.1.2.length<=lq (bj x):=by rw[h.parts.1];exact Nat.le_max_left _ _
theorem NOK.l2{x:ND}(h:NOK x):x.2.2.length<=lq (bj x):=by rw[h.parts.2];exact Nat.le_max_right _ _
theorem WOK.lw{x:Bool×List Int}(h:WOK x):x.2.length=lw (dec x):=by unfold Cm.lw;rw[h.enc]
theorem nt(n:Int):(n.natAbs:Int)<LB^lw n:=qx n (Nat.le_refl _)
theorem lP{n:Int}{k:Nat}(h:(n.natAbs:Int)<LB^k):lw n<=k:=limbs_len h
theorem kh{a b:Int}(h:a.natAbs<=b.natAbs):lw a<=lw b:=lP (by have:=nt b;omega)
theorem E5(a:Int):lw (-a)=lw a:=by unfold lw enc;rw[Int.natAbs_neg]
theorem ja:lw 0=0:=by
 have:lw 0<=0:=lP (by simp);omega
theorem qB:lw 1=1:=by
 have h1:lw 1<=1:=lP (by simp[LB]);have h2:lw 1≠0:=fun h=>by have:=nt 1;rw[h] at this;simp at this
 omega
theorem cj(a b:Int):lw (a*b)<=lw a+lw b:=by
 refine lP ?_;have h1:=nt a;have h2:=nt b;rw[Int.natAbs_mul,Int.natCast_mul,Int.pow_add];have h5:(a.natAbs:Int)*(b.natAbs:Int)<=(a.natAbs:Int)*LB^lw b:=Int.mul_le_mul_of_nonneg_left (by omega) (by omega);have h6:(a.natAbs:Int)*LB^lw b<LB^lw a*LB^lw b:=Int.mul_lt_mul_of_pos_right h1 (lbpos _);omega
theorem ux(a b:Int):lw (a+b)<=max (lw a) (lw b)+1:=by
 have h1:=qx a (k:=max (lw a) (lw b)) (Nat.le_max_left _ _);have h2:=qx b (k:=max (lw a) (lw b)) (Nat.le_max_right _ _);refine lP ?_;have h3:LB^(max (lw a) (lw b)+1)=LB^max (lw a) (lw b)*LB:=Int.pow_succ _ _;have h4:LB^max (lw a) (lw b)*2<=LB^max (lw a) (lw b)*LB:=Int.mul_le_mul_of_nonneg_left (by decide) (Int.le_of_lt (lbpos _));omega
theorem Jb{n:Int}(h:I64 n):lw n<=3:=(kf h).2.2
theorem ep(q:Rat):lw q.num<=lq q:=Nat.le_max_left _ _
theorem dU(q:Rat):lw (q.den:Int)<=lq q:=Nat.le_max_right _ _
theorem qC(n d:Int)(hd:d≠0):lq (Rat.divInt n d)<=max (lw n) (lw d):=by
 have hg:0<Int.gcd d n:=Int.gcd_pos_of_ne_zero_left n hd;refine Nat.max_le.2 ⟨Nat.le_trans (kh ?_) (Nat.le_max_left _ _),Nat.le_trans (kh ?_) (Nat.le_max_right _ _)⟩
 ·rw[Rat.num_divInt,Int.natAbs_ediv_of_dvd (Int.dvd_trans (Int.gcd_dvd_right ..) (Int.dvd_mul_left _ _)),Int.natAbs_mul];rw[Int.natAbs_natCast];have:d.sign.natAbs=1:=by rw[Int.natAbs_sign,if_neg hd]
  rw[this,Nat.one_mul];exact Nat.div_le_self _ _
 ·rw[Rat.den_divInt,if_neg hd,Int.natAbs_natCast];exact Nat.div_le_self _ _
theorem qD(x y:Rat):x+y=Rat.divInt (x.num*y.den+y.num*x.den) (x.den*y.den):=by
 have hx:(x.den:Int)≠0:=by have:=x.den_pos;omega
 have hy:(y.den:Int)≠0:=by have:=y.den_pos;omega
 conv=>lhs;rw[<- Rat.num_divInt_den x,<- Rat.num_divInt_den y]
 rw[Rat.divInt_add_divInt _ _ hx hy]
theorem qE(x y:Rat):x*y=Rat.divInt (x.num*y.num) (x.den*y.den):=by
 conv=>lhs;rw[<- Rat.num_divInt_den x,<- Rat.num_divInt_den y]
 rw[Rat.divInt_mul_divInt]
theorem qF(x y:Rat):x/y=Rat.divInt (x.num*y.den) (x.den*y.num):=by
 rw[Rat.div_def,Rat.inv_def];conv=>lhs;arg 1;rw[<- Rat.num_divInt_den x]
 rw[Rat.divInt_mul_divInt]
theorem fT(x:Rat):(x.den:Int)≠0:=by have:=x.den_pos;omega
theorem E6{x:Rat}(h:x≠0):x.num≠0:=fun e=>h (Rat.num_eq_zero.1 e)
theorem uy(x y:Rat):lq (x+y)<=lq x+lq y+1:=by
 rw[qD];refine Nat.le_trans (qC _ _ (Int.mul_ne_zero (fT x) (fT y))) ?_;have h1:=ux (x.num*y.den) (y.num*x.den);have h2:=cj x.num y.den;have h3:=cj y.num x.den;have h4:=cj x.den y.den;have:=ep x;have:=ep y;have:=dU x;have:=dU y;omega
theorem uz(x:Rat):lq (-x)=lq x:=by unfold lq;rw[Rat.neg_num,Rat.neg_den,E5]
theorem Jc(x y:Rat):lq (x-y)<=lq x+lq y+1:=by
 rw[Rat.sub_eq_add_neg];have:=uy x (-y);rw[uz] at this;exact this
theorem qG(x y:Rat):lq (x*y)<=lq x+lq y:=by
 rw[qE];refine Nat.le_trans (qC _ _ (Int.mul_ne_zero (fT x) (fT y))) ?_;have h2:=cj x.num y.num;have h4:=cj x.den y.den;have:=ep x;have:=ep y;have:=dU x;have:=dU y;omega
theorem uA(x y:Rat):lq (x/y)<=lq x+lq y:=by
 by_cases hy:y=0
 ·subst hy;rw[Rat.div_def,Rat.inv_zero,Rat.mul_zero];have:lq 0<=1:=by unfold lq;rw[show (0:Rat).num=0 from rfl,show (0:Rat).den=1 from rfl,ja];show max 0 (lw 1)<=1;rw[qB];decide
  have h1:1<=lq x:=by
   have:=dU x;(have h2:lw (x.den:Int)≠0:=fun h=>by have:=nt (x.den:Int);rw[h] at this;have:=x.den_pos;simp at*;omega);omega
  omega
 rw[qF];refine Nat.le_trans (qC _ _ (Int.mul_ne_zero (fT x) (E6 hy))) ?_;have h2:=cj x.num y.den;have h4:=cj x.den y.num;have:=ep x;have:=ep y;have:=dU x;have:=dU y;omega
def ik(n d:Int):Int:=if d<0 then-db n d else db n d
theorem wN{n d:Int}(hd:d≠0):0<db n d:=by
 unfold db;have:0<Nat.gcd n.natAbs d.natAbs:=Nat.gcd_pos_of_pos_right _ (by omega);omega
theorem uB{n d:Int}(hd:d≠0):(db n d).natAbs<=d.natAbs:=by
 unfold db;exact Nat.le_of_dvd (by omega) (Nat.gcd_dvd_right _ _)
theorem jP(n d:Int):(Int.gcd d n:Int)=db n d:=by
 unfold db Int.gcd;rw[Nat.gcd_comm]
theorem qH{n d:Int}(hd:d≠0):a8 (Rat.divInt n d)=(enc (fR n (ik n d)),enc (fR d (ik n d))):=by
 have hg:=wN (n:=n) hd;have hdv:(db n d)∣d:=by rw[<- jP];exact Int.gcd_dvd_left ..
 have hnv:(db n d)∣n:=by rw[<- jP];exact Int.gcd_dvd_right ..
 unfold a8;rw[Rat.num_divInt,Rat.den_divInt,if_neg hd,jP];have hden:((d.natAbs/Int.gcd d n:Nat):Int)=(d.natAbs:Int)/db n d:=by rw[<- jP,Int.natCast_ediv]
 rw[hden];unfold ik fR;by_cases hn:d<0
 ·rw[if_pos hn,if_neg (by omega),if_neg (by omega),Int.neg_neg,Int.sign_eq_neg_one_of_neg hn];have:(d.natAbs:Int)= -d:=by omega
  rw[this];congr 2;rw[Int.neg_one_mul]
 ·rw[if_neg hn,if_pos hg,if_pos hg,Int.sign_eq_one_of_pos (by omega),Int.one_mul];have:(d.natAbs:Int)=d:=by omega
  rw[this]
theorem qI(n:Int):fR n 1=n:=by unfold fR;simp
theorem wO{n d:Int}(hd:d≠0)(h:ik n d=1):a8 (Rat.divInt n d)=(enc n,enc d):=by
 rw[qH hd,h,qI,qI]
theorem zu{g:Int}(h1: ¬1<(enc g).2.length)(h2:(enc g).1=false)(h3:(enc g).2.getD 0 0=1):g=1:=by
 have hw:=enc_ok g;have hne:(enc g).2≠ []:=by intro e;rw[e] at h3;simp at h3
 obtain⟨a,ha⟩:∃ a,(enc g).2= [a]:=by
  match h:(enc g).2,h1,hne with
  | [a],_,_=>exact⟨a,rfl⟩
  |a::b::l,h1,_=>simp at h1
 rw[ha] at h3;simp at h3;have:=bG g;rw[show enc g=(false,[1]) from Prod.ext h2 (by rw[ha,h3])] at this;rw[<- this];simp[dec,valL]
theorem pe(x:Bool×List Int):(x.1,x.2)=x:=rfl
theorem AW{d:Bool×List Int}(h:WOK d):d.1=decide (dec d<0):=congrArg Prod.fst h.enc.symm
def fX(n d:Bool×List Int):Prop:=WOK n/\WOK d/\dec d≠0/\n.2.length+d.2.length<=4*QC
theorem qJ{n d:Int}(hd:d≠0):(ik n d).natAbs<=d.natAbs/\ik n d≠0:=by
 have h1:=uB (n:=n) hd;have h2:=wN (n:=n) hd;unfold ik;split<;>omega
theorem JJ{n d:Bool×List Int}(h:fX n d)(hb:d.1=true): -db (dec n) (dec d)=ik (dec n) (dec d):=by
 rw[AW h.2.1,decide_eq_true_eq] at hb;unfold ik;rw[if_pos hb]
theorem JK{n d:Bool×List Int}(h:fX n d)(hb:d.1=false):db (dec n) (dec d)=ik (dec n) (dec d):=by
 rw[AW h.2.1,decide_eq_false_iff_not] at hb;unfold ik;rw[if_neg hb]
theorem Jd{n d:Bool×List Int}(h:fX n d):mo n d:=by
 obtain⟨h1,h2,h3,h4⟩:=h;refine⟨h1,h2,?_⟩;unfold QC at h4;unfold CAP;omega
theorem E7{n d:Bool×List Int}(h:fX n d):lw (db (dec n) (dec d))<=d.2.length/\lw (ik (dec n) (dec d))<=d.2.length:=by
 obtain⟨h1,h2,h3,h4⟩:=h;rw[h2.lw];exact⟨kh (uB h3),kh (qJ h3).1⟩
theorem Je{n d:Bool×List Int}(h:fX n d):Lim (enc (db (dec n) (dec d))).2/\(enc (db (dec n) (dec d))).2.length<CAP:=by
 refine⟨(enc_ok _).1.1,?_⟩;have h1:=(E7 h).1;have h4:=h.2.2.2;unfold lw at h1;unfold QC at h4;unfold CAP;omega
theorem mk_pos{n d:Bool×List Int}(h:fX n d):(0:Int)<((enc (ik (dec n) (dec d))).2.length:Int):=by
 have h1:=(fb (enc_ok (ik (dec n) (dec d)))).1;rw[bG] at h1;have h2:=(qJ (n:=dec n) h.2.2.1).2;have:=mt h1.1 h2;omega
theorem E8{n d:Bool×List Int}(h:fX n d):mn n (enc (ik (dec n) (dec d)))/\mn d (enc (ik (dec n) (dec d))):=by
 have h1:=(E7 h).2;have h2:=(qJ (n:=dec n) h.2.2.1).2;obtain⟨h3,h4,h5,h6⟩:=h;unfold lw at h1;unfold QC at h6;exact⟨⟨h3,enc_ok _,by rw[bG];exact h2,by unfold CAP;omega⟩,⟨h4,enc_ok _,by rw[bG];exact h2,by unfold CAP;omega⟩⟩
theorem Jf{n d:Bool×List Int}(h:fX n d)(hb:(decide ((1:Int)<((enc (ik (dec n) (dec d))).2.length:Int))||(enc (ik (dec n) (dec d))).1||nth (.int .u32) (enc (ik (dec n) (dec d))).2 0 !=1)=false):(n,d)=a8 (Rat.divInt (dec n) (dec d)):=by
 simp only[Bool.or_eq_false_iff,decide_eq_false_iff_not,bne_eq_false_iff_eq] at hb;obtain⟨⟨h1,h2⟩,h3⟩:=hb;have:=zu (by omega) h2 h3;rw[wO h.2.2.1 this,h.1.enc,h.2.1.enc]
def fA(x y:ND):Prop:=NOK x/\NOK y/\lq (bj x)+lq (bj y)<=QC
theorem lwl(a:Int):(enc a).2.length=lw a:=rfl
theorem NOK.ex{x:ND}(h:NOK x):∃ q,x=a8 q:=⟨bj x,h.symm⟩
theorem pe2(x:ND):((x.1.1,x.1.2),x.2.1,x.2.2)=x:=rfl
theorem qK:4*QC+4<CAP:=by unfold QC CAP;decide
theorem CJ{x y:ND}(h:fA x y):(WOK x.1/\WOK y.2/\List.length x.1.2+List.length y.2.2<CAP)/\
  (WOK y.1/\WOK x.2/\List.length y.1.2+List.length x.2.2<CAP)/\
   (WOK (enc (dec x.1*dec y.2))/\WOK (enc (dec y.1*dec x.2))/\List.length (enc (dec x.1*dec y.2)).2+List.length (enc (dec y.1*dec x.2)).2<CAP)/\
    (WOK x.2/\WOK y.2/\List.length x.2.2+List.length y.2.2<CAP)/\
     fX (enc (dec (enc (dec x.1*dec y.2))+dec (enc (dec y.1*dec x.2)))) (enc (dec x.2*dec y.2)):=by
 obtain⟨h1,h2,h3⟩:=h;obtain⟨p,rfl⟩:=h1.ex;obtain⟨q,rfl⟩:=h2.ex;rw[aF,aF] at h3;simp only[a8,fX,bG,lwl];have a1:=ep p;have a2:=dU p;have a3:=ep q;have a4:=dU q;have m1:=cj p.num q.den;have m2:=cj q.num p.den;have m3:=cj p.den q.den;have m4:=ux (p.num*q.den) (q.num*p.den);have hc:=qK;refine⟨⟨enc_ok _,enc_ok _,by omega⟩,⟨enc_ok _,enc_ok _,by omega⟩,⟨enc_ok _,enc_ok _,by omega⟩,⟨enc_ok _,enc_ok _,by omega⟩,enc_ok _,enc_ok _,Int.mul_ne_zero (fT p) (fT q),?_⟩;have:QC=100000000000:=rfl;omega
theorem E9{x y:ND}(h:fA x y):a8 (Rat.divInt (dec (enc (dec (enc (dec x.1*dec y.2))+dec (enc (dec y.1*dec x.2))))) (dec (enc (dec x.2*dec y.2))))=a8 (bj x+bj y):=by
 obtain⟨h1,h2,h3⟩:=h;simp only[bG,h1.d1,h1.d2,h2.d1,h2.d2];rw[qD]
theorem CK{x:ND}(h:NOK x/\lq (bj x)<=QC):Lim x.1.2/\List.length x.1.2<CAP:=
 ⟨h.1.w1.1.1,by have:=h.1.l1;have:=h.2;have:=qK;omega⟩
theorem Fa{x:ND}(h:NOK x):((enc (-dec x.1)),x.2)=a8 (-bj x):=by
 obtain⟨p,rfl⟩:=h.ex;rw[aF];simp only[a8,bG,Rat.neg_num,Rat.neg_den]
theorem CL{x y:ND}(h:fA x y):(NOK y/\lq (bj y)<=QC)/\fA x (a8 (-bj y)):=by
 obtain⟨h1,h2,h3⟩:=h;exact⟨⟨h2,by omega⟩,h1,bH _,by rw[aF,uz];exact h3⟩
theorem Fb(x y:ND):a8 (bj x+bj (a8 (-bj y)))=a8 (bj x-bj y):=by
 rw[aF,Rat.sub_eq_add_neg]
theorem CM{x y:ND}(h:fA x y):(WOK x.1/\WOK y.1/\List.length x.1.2+List.length y.1.2<CAP)/\
  (WOK x.2/\WOK y.2/\List.length x.2.2+List.length y.2.2<CAP)/\fX (enc (dec x.1*dec y.1)) (enc (dec x.2*dec y.2)):=by
 obtain⟨h1,h2,h3⟩:=h;obtain⟨p,rfl⟩:=h1.ex;obtain⟨q,rfl⟩:=h2.ex;rw[aF,aF] at h3;simp only[a8,fX,bG,lwl];have a1:=ep p;have a2:=dU p;have a3:=ep q;have a4:=dU q;have m1:=cj p.num q.num;have m3:=cj p.den q.den;have hc:=qK;exact⟨⟨enc_ok _,enc_ok _,by omega⟩,⟨enc_ok _,enc_ok _,by omega⟩,enc_ok _,enc_ok _,Int.mul_ne_zero (fT p) (fT q),by omega⟩
theorem Fc{x y:ND}(h:fA x y):a8 (Rat.divInt (dec (enc (dec x.1*dec y.1))) (dec (enc (dec x.2*dec y.2))))=a8 (bj x*bj y):=by
 obtain⟨h1,h2,h3⟩:=h;simp only[bG,h1.d1,h1.d2,h2.d1,h2.d2];rw[qE]
theorem CN{x y:ND}(h:fA x y/\bj y≠0):(WOK x.1/\WOK y.2/\List.length x.1.2+List.length y.2.2<CAP)/\
  (WOK x.2/\WOK y.1/\List.length x.2.2+List.length y.1.2<CAP)/\fX (enc (dec x.1*dec y.2)) (enc (dec x.2*dec y.1)):=by
 obtain⟨⟨h1,h2,h3⟩,h0⟩:=h;obtain⟨p,rfl⟩:=h1.ex;obtain⟨q,rfl⟩:=h2.ex;rw[aF,aF] at h3;rw[aF] at h0;simp only[a8,fX,bG,lwl];have a1:=ep p;have a2:=dU p;have a3:=ep q;have a4:=dU q;have m1:=cj p.num q.den;have m3:=cj p.den q.num;have hc:=qK;exact⟨⟨enc_ok _,enc_ok _,by omega⟩,⟨enc_ok _,enc_ok _,by omega⟩,enc_ok _,enc_ok _,Int.mul_ne_zero (fT p) (E6 h0),by omega⟩
theorem Fe{x y:ND}(h:fA x y):a8 (Rat.divInt (dec (enc (dec x.1*dec y.2))) (dec (enc (dec x.2*dec y.1))))=a8 (bj x/bj y):=by
 obtain⟨h1,h2,h3⟩:=h;simp only[bG,h1.d1,h1.d2,h2.d1,h2.d2];rw[qF]
theorem Ff{n d:Int}(h:I64 n/\I64 d/\d≠0):I64 n/\I64 d/\fX (enc n) (enc d):=by
 refine⟨h.1,h.2.1,enc_ok _,enc_ok _,by rw[bG];exact h.2.2,?_⟩;have:=(kf h.1).2.2;have:=(kf h.2.1).2.2;unfold QC;omega
theorem Hz(n d:Int):a8 (Rat.divInt (dec (enc n)) (dec (enc d)))=a8 (Rat.divInt n d):=by rw[bG,bG]
theorem zero_divInt:Rat.divInt 0 1=0:=by decide
theorem Fg{n:Nat}(h:0<n):((limbs n).length=1/\(limbs n).getD 0 0=1)↔n=1:=by
 constructor
 ·rintro⟨h1,h2⟩;match hl:limbs n,h1 with
  | [a],_=>
   rw[hl] at h2;simp at h2;have:=limbs_val n;rw[hl,h2] at this;simp[valL] at this;omega
 ·rintro rfl;have:limbs 1= [1]:=by decide+kernel
  rw[this];simp
theorem zv{x:ND}(h:NOK x):(((List.length x.2.2:Int)==1)&&(nth (.int .u32) x.2.2 0==1))=decide ((bj x).den=1):=by
 obtain⟨p,rfl⟩:=h.ex;rw[aF];have h1:=Fg p.den_pos;rw[Bool.eq_iff_iff,Bool.and_eq_true,decide_eq_true_eq,<- h1];have e:(a8 p).2.2=limbs p.den:=by show limbs ((p.den:Int).natAbs)=_;rw[Int.natAbs_natCast]
 rw[e];constructor;·rintro⟨h2,h3⟩;simp only[beq_iff_eq] at h2;have h4:=beq_iff_eq.1 h3;exact⟨by omega,h4⟩
 ·rintro⟨h2,h3⟩;refine⟨by simp only[beq_iff_eq];omega,?_⟩;rw[beq_iff_eq];exact h3
theorem jb{x:ND}(h:NOK x/\lq (bj x)<=QC):(WOK x.1/\List.length x.1.2<CAP)/\(WOK x.2/\List.length x.2.2<CAP):=by
 have:=h.1.l1;have:=h.1.l2;have:=h.2;have:=qK;exact⟨⟨h.1.w1,by omega⟩,h.1.w2,by omega⟩
theorem CO{x:ND}(k:Int)(h:NOK x):(decide (dv (dec x.1)<=k)&&decide (dv (dec x.2)<=k))=decide (dv (bj x).num<=k/\dv ((bj x).den:Int)<=k):=by
 rw[h.d1,h.d2,Bool.decide_and]
def bS(q:Rat):List UInt8:=if q.den=1 then Lib.itoa q.num else Lib.itoa q.num++ [47]++Lib.itoa (q.den:Int)
theorem ki(n:Int):(Lib.itoa n).length<=9*lw n+2:=by
 have h1:=nt n;rw[Ho] at h1;have h2:=AU (a:=n.natAbs) (k:=9*lw n) (by omega);have h3:(Lib.itoa n).length<=(Lib.decDigits n.natAbs).length+1:=by
  unfold Lib.itoa;split
  ·(have:(-n).toNat=n.natAbs:=by omega);simp[this]
  ·(have:n.toNat=n.natAbs:=by omega);simp[this]
 omega
theorem wP{x:ND}(h:NOK x/\lq (bj x)<=QC):WOK x.1/\List.length x.1.2<CAP:=(jb h).1
theorem wQ{x:ND}(h:NOK x/\lq (bj x)<=QC):(WOK x.1/\List.length x.1.2<CAP)/\(Lib.itoa (dec x.1)).length+1<=maxLen/\(WOK x.2/\List.length x.2.2<CAP)/\(Lib.itoa (dec x.1)++ [47]).length+(Lib.itoa (dec x.2)).length<=maxLen:=by
 obtain⟨h1,h2⟩:=jb h;have e1:=ki (dec x.1);have e2:=ki (dec x.2);have e3:=h.1.l1;have e4:=h.1.l2;have e5:=h.2;rw[h1.1.lw] at e3;rw[h2.1.lw] at e4;have e6:QC=100000000000:=rfl;have e7:maxLen=9223372036854775807:=rfl;refine⟨h1,by omega,h2,?_⟩;simp only[List.length_append,List.length_cons,List.length_nil];omega
theorem CP{x:ND}(h:NOK x)(hb:(bj x).den=1):Lib.itoa (dec x.1)=bS (bj x):=by
 unfold bS;rw[if_pos hb,h.d1]
theorem CQ{x:ND}(h:NOK x)(hb: ¬ (bj x).den=1):Lib.itoa (dec x.1)++ [47]++Lib.itoa (dec x.2)=bS (bj x):=by
 unfold bS;rw[if_neg hb,h.d1,h.d2]
def tN(q:List UInt8):List UInt8:=q.takeWhile (· !=47)
def cb(q:List UInt8):Bool:=q.any (· ==47)
def tR(q:List UInt8):List UInt8:=q.drop ((tN q).length+1)
def tD(q:List UInt8):List UInt8:=if cb q=true then tR q else [49]
theorem nu:∀ q:List UInt8,Lib.index q [47]=if cb q=true then ((tN q).length:Int) else-1
 | []=>by simp[Lib.index,cb]
 |b::l=>by
  have ih:=nu l;unfold Lib.index;by_cases hb:b=47;·subst hb;simp[cb,tN]
  ·(have h1: [47].isPrefixOf (b::l)=false:=by simp[List.isPrefixOf,Ne.symm hb]);(have h2:cb (b::l)=cb l:=by simp[cb,hb]);(have h3:(tN (b::l)).length=(tN l).length+1:=by simp[tN,hb]);rw[h1,ih,h2,h3];cases hs:cb l;·simp
   ·simp only[if_true,Bool.false_eq_true,if_false];rw[if_neg (by intro e;have:=beq_iff_eq.1 e;omega)];omega
theorem qL{q:List UInt8}(h:cb q=false):tN q=q:=by
 unfold tN;induction q with
 |nil=>rfl
 |cons c l ih=>
  simp only[cb,List.any_cons,Bool.or_eq_false_iff,beq_eq_false_iff_ne] at h;rw[List.takeWhile_cons,if_pos (by simp[h.1]),ih h.2]
theorem CR(q:List UInt8):Lib.cut q [47]=(tN q,if cb q=true then tR q else [],cb q):=by
 unfold Lib.cut;rw[nu];cases hs:cb q;·rw[qL hs];simp
 ·simp only[if_true];rw[if_pos (by omega),Int.toNat_natCast];have:q.take (tN q).length=tN q:=by
   unfold tN;exact(List.prefix_iff_eq_take.1 (List.takeWhile_prefix _)).symm
  rw[this];rfl
theorem zw(q:List UInt8):(tN q).length<=q.length:=(List.takeWhile_prefix _).length_le
theorem Jg(q:List UInt8):(tR q).length<=q.length:=by unfold tR;simp
theorem zx(q:List UInt8):(tD q).length<=q.length+1:=by
 unfold tD;split;·have:=Jg q;omega
 ·simp
def QL:Nat:=1000000000
def fj(q:List UInt8):Prop:=RF (tN q)/\RF (tD q)/\q.length<=QL
def fK(q:List UInt8):ND:=(enc (bu (tN q)),enc (bu (tD q)))
def cS(q:List UInt8):Int:=
 if chk (tN q)=5∨chk (tD q)=5 then 5
 else if cb q=true/\(bu (tD q)<=1∨db (bu (tN q)) (bu (tD q))≠1) then 5
 else if 2000<dv (bu (tN q))∨2000<dv (bu (tD q)) then 6 else 0
def dx(q:List UInt8):Rat:=Rat.divInt (bu (tN q)) (bu (tD q))
def RQ(q:List UInt8):Prop:=cS q≠5/\q.length<=QL
theorem RQ.form{q:List UInt8}(h:RQ q):fj q:=by
 have h1:=h.1;unfold cS at h1;split at h1;·exact absurd rfl h1
 ·rename_i h2;exact⟨fun e=>h2 (.inl e),fun e=>h2 (.inr e),h.2⟩
theorem uC:bu [49]=1:=by decide
theorem RQ.red{q:List UInt8}(h:RQ q):0<bu (tD q)/\db (bu (tN q)) (bu (tD q))=1:=by
 have h1:=h.1;unfold cS at h1;split at h1;·exact absurd rfl h1
 ·split at h1;·exact absurd rfl h1
  ·rename_i h2 h3;cases hs:cb q
   ·(have:tD q= [49]:=by unfold tD;rw[hs];rfl);rw[this,uC];exact⟨by decide,by unfold db;simp⟩
   ·rw[hs] at h3;have h4: ¬bu (tD q)<=1:=fun e=>h3 ⟨rfl,.inl e⟩;have h5:db (bu (tN q)) (bu (tD q))=1:=Decidable.not_not.1 fun e=>h3 ⟨rfl,.inr e⟩;exact⟨by omega,h5⟩
theorem RQ.raw{q:List UInt8}(h:RQ q):fK q=a8 (dx q):=by
 obtain⟨h1,h2⟩:=h.red;unfold fK dx;have hd:bu (tD q)≠0:=by omega
 rw[wO hd];unfold ik;rw[if_neg (by omega),h2]
theorem RQ.parts{q:List UInt8}(h:RQ q):(dx q).num=bu (tN q)/\((dx q).den:Int)=bu (tD q):=by
 have h1:=h.raw;unfold fK a8 at h1;have h2:=congrArg (fun x:ND=>dec x.1) h1;have h3:=congrArg (fun x:ND=>dec x.2) h1;simp only[bG] at h2 h3;exact⟨h2.symm,h3.symm⟩
theorem Fh{s:List UInt8}(h:RF s):lw (bu s)<=s.length:=by
 obtain⟨h1,_,_⟩:=uw h;refine lP ?_;rw[sE];have h2:=jK h1;have h3:(10:Nat)^(aw s [45]).length<=10^s.length:=Nat.pow_le_pow_right (by omega) (lJ s _);have h4:(10:Nat)^s.length<=1000000000^s.length:=Nat.pow_le_pow_left (by omega) _;have h5:(LB^s.length:Int)=((1000000000^s.length:Nat):Int):=by rw[Int.natCast_pow];rfl
 rw[h5];omega
theorem fj.lens{q:List UInt8}(h:fj q):lw (bu (tN q))<=QL/\lw (bu (tD q))<=QL+1:=by
 have h1:=Fh h.1;have h2:=Fh h.2.1;have h3:=zw q;have h4:=zx q;have h5:=h.2.2;omega
def jQ(q:List UInt8):ND×Int:=if cS q=0 then (a8 (dx q),0) else (((false,[]),(false,[])),cS q)
theorem HB{a:Int}:bq a 1<=0↔a<=1:=by
 unfold bq;split;·constructor<;>omega
 ·split;·constructor<;>omega
  ·constructor<;>omega
theorem Fi{a b:Int}:bq a b≠0↔a≠b:=by
 unfold bq;split;·constructor<;>omega
 ·split;·constructor<;>omega
  ·constructor<;>omega
theorem sF{D:List UInt8}{r:Nat}(hr:0<(D.length:Int)-9*(r:Int))(hl:D.length<1000000000000):
  IntKind.i64.wrap ((D.length:Int)-9*(r:Int)-9)=(D.length:Int)-9*(r:Int)-9/\Int.toNat (max 0 ((D.length:Int)-9*(r:Int)-9))=D.length-9*(r+1)/\Int.toNat ((D.length:Int)-9*(r:Int))=D.length-9*r:=
 ⟨wo,by omega,by omega⟩
theorem jR{q:List UInt8}(h:cb q=true):(if cb q=true then tR q else [])=tD q:=by unfold tD;rw[if_pos h,if_pos h]
theorem uD{q:List UInt8}(h:cb q=false): [49]=tD q:=by unfold tD;rw[if_neg (by rw[h];decide)]
theorem mr{q:List UInt8}(h:fj q):q.length<4294967281/\(RF (tN q)/\(tN q).length<CAP)/\(RF (tD q)/\(tD q).length<CAP):=by
 obtain⟨h1,h2,h3⟩:=h;have h4:=zw q;have h5:=zx q;have e1:QL=1000000000:=rfl;have e2:CAP=1000000000000:=rfl;exact⟨by omega,⟨h1,by omega⟩,h2,by omega⟩
theorem Fj{q:List UInt8}(h:cb q=false):(((enc (bu (tN q))).1,(enc (bu (tN q))).2),(enc 1).1,(enc 1).2)=fK q:=by
 unfold fK;rw[<- uD h,uC]
theorem Fk{q:List UInt8}(h:q.length<=QL):lL (tN q)/\lL (tD q):=by
 have h4:=zw q;have h5:=zx q;have e1:QL=1000000000:=rfl;unfold lL;exact⟨by omega,by omega⟩
theorem lone:(enc 1).2.length=1:=qB
theorem JL{q:List UInt8}(h:fj q):List.length (enc (bu (tD q))).2+List.length (enc 1).2<CAP:=by
 have:=h.lens;have e1:QL=1000000000:=rfl;have e2:CAP=1000000000000:=rfl;rw[lwl,lone];omega
theorem Jh{q:List UInt8}(h:fj q):mo (enc (bu (tN q))) (enc (bu (tD q))):=by
 have:=h.lens;have e1:QL=1000000000:=rfl;refine⟨enc_ok _,enc_ok _,?_⟩;rw[lwl,lwl];unfold CAP;omega
theorem JM{q:List UInt8}(h:fj q):List.length (enc (db (bu (tN q)) (bu (tD q)))).2+List.length (enc 1).2<CAP:=by
 have h1:=h.lens;have e1:QL=1000000000:=rfl;have e2:CAP=1000000000000:=rfl;rw[lwl,lone];have h2:lw (db (bu (tN q)) (bu (tD q)))<=lw (bu (tN q))+lw (bu (tD q)):=by
  by_cases hd:bu (tD q)=0
  ·(have:db (bu (tN q)) (bu (tD q))=((bu (tN q)).natAbs:Int):=by unfold db;rw[hd];simp);rw[this];have:=kh (a:=((bu (tN q)).natAbs:Int)) (b:=bu (tN q)) (by simp);omega
  ·have:=kh (uB (n:=bu (tN q)) hd);omega
 omega
theorem HC{q:List UInt8}(h:q.length<=QL)(hb:(chk (tN q)==5||chk (tD q)==5)=false):fj q:=by
 simp only[Bool.or_eq_false_iff,beq_eq_false_iff_ne] at hb;exact⟨hb.1,hb.2,h⟩
theorem HD{q:List UInt8}(hb:(chk (tN q)==5||chk (tD q)==5)=true):((((false,[]),false,[]),5):ND×Int)=jQ q:=by
 simp only[Bool.or_eq_true,beq_iff_eq] at hb;have:cS q=5:=by unfold cS;rw[if_pos hb]
 unfold jQ;rw[this];rfl
theorem fj.not{q:List UInt8}(h:fj q): ¬ (chk (tN q)=5∨chk (tD q)=5):=fun e=>e.elim h.1 h.2.1
theorem AX(q:List UInt8):(decide (bq (bu (tD q)) 1<=0)||bq (db (bu (tN q)) (bu (tD q))) 1 !=0)=true↔(bu (tD q)<=1∨db (bu (tN q)) (bu (tD q))≠1):=by
 rw[Bool.or_eq_true,decide_eq_true_eq,bne_iff_ne,HB,Fi]
theorem HE{q:List UInt8}(h:fj q)(hb:cb q=true/\(decide (bq (bu (tD q)) 1<=0)||bq (db (bu (tN q)) (bu (tD q))) 1 !=0)=true):((((false,[]),false,[]),5):ND×Int)=jQ q:=by
 rw[AX] at hb;have:cS q=5:=by unfold cS;rw[if_neg h.not,if_pos hb]
 unfold jQ;rw[this];rfl
theorem JN{q:List UInt8}(h:fj q)(hb:cb q=true->(decide (bq (bu (tD q)) 1<=0)||bq (db (bu (tN q)) (bu (tD q))) 1 !=0)=false):RQ q:=by
 refine⟨?_,h.2.2⟩;unfold cS;rw[if_neg h.not,if_neg (fun e=>by have:=hb e.1;rw[(AX q).2 e.2] at this;cases this)];split<;>decide
theorem Ji{q:List UInt8}(h:RQ q):lq (dx q)<=QC:=by
 have h1:=h.form.lens;have h2:=h.parts;unfold lq;rw[h2.1,h2.2];have e1:QL=1000000000:=rfl;have e2:QC=100000000000:=rfl;omega
theorem zy{q:List UInt8}(h:RQ q):bj (fK q)=dx q:=by rw[h.raw,aF]
theorem HF{q:List UInt8}(h:RQ q):NOK (fK q)/\lq (bj (fK q))<=QC:=by
 rw[zy h,h.raw];exact⟨bH _,Ji h⟩
theorem RQ.chk{q:List UInt8}(h:RQ q):cS q=if 2000<dv (bu (tN q))∨2000<dv (bu (tD q)) then 6 else 0:=by
 have h1:=h.1;revert h1;unfold cS;split;·intro h1;exact absurd rfl h1
 ·split;·intro h1;exact absurd rfl h1
  ·intro _;rfl
theorem JO{q:List UInt8}(h:RQ q)(hb:dv (bj (fK q)).num<=2000/\dv ((bj (fK q)).den:Int)<=2000):(fK q,(0:Int))=jQ q:=by
 rw[zy h,h.parts.1,h.parts.2] at hb;have:cS q=0:=by rw[h.chk,if_neg (by omega)]
 unfold jQ;rw[if_pos this,h.raw]
theorem Jj{q:List UInt8}(h:RQ q)(hb: ¬ (dv (bj (fK q)).num<=2000/\dv ((bj (fK q)).den:Int)<=2000)):((((false,[]),false,[]),6):ND×Int)=jQ q:=by
 rw[zy h,h.parts.1,h.parts.2] at hb;have:cS q=6:=by rw[h.chk,if_pos (by omega)]
 unfold jQ;rw[this];rfl
theorem CS(q:List UInt8):(jQ q).2=cS q:=by
 unfold jQ;split;·rename_i h;exact h.symm
 ·rfl
def cO(q:Rat):Bool:=decide (dv q.num<=2000/\dv (q.den:Int)<=2000)
def IU(q:Rat):List UInt8:=if cO q=true then bS q else []
def kJ(q:Rat):Int:=if cO q=true then 0 else 6
def dc(l:List ND):Bool:=l.all fun x=>cO (bj x)
theorem fU{t:Ty}{l:List t.D}{k:Nat}(h:k<l.length):nth t l (k:Int)=l[k]:=by
 unfold nth;simp[h]
theorem gE{t:Ty}{l:List t.D}{k:Nat}(h:k<l.length):nth t l (k:Int)∈l:=by rw[fU h];exact List.getElem_mem h
theorem wR{t:Ty}{β:Type}(f:t.D->β){l:List t.D}{k:Nat}(h:k<l.length):(l.take k).map f++ [f (nth t l (k:Int))]=(l.take (k+1)).map f:=by
 rw[fU h,List.take_succ_eq_append_getElem h,List.map_append];rfl
theorem qM{n:Nat}(h:n<=1000000001):Cm.Roomy 4 n:=by unfold Cm.Roomy;omega
theorem uE{n:Nat}(h:n<=1000000001):Cm.Roomy 1 n:=by unfold Cm.Roomy;omega
theorem list_round{l:List (List UInt8)}{k:Nat}(h:k<l.length)(hl:l.length<QL):∃ z:Nat,IntKind.i64.wrap ((k:Int)+1)=(z:Int)/\List.map fK (l.take k)++ [fK (nth .str l (k:Int))]=List.map fK (l.take z)/\z<=l.length/\l.length-z<l.length-k:=by
 have e1:QL=1000000000:=rfl;exact⟨k+1,by rw[wo];omega,wR (t:= .str) fK h,by omega,by omega⟩
theorem CT{l:List ND}{k:Nat}(h:k<l.length)(hk:dc (l.take k)=true):dc (l.take (k+1))=cO (bj (nth NT l (k:Int))):=by
 rw[List.take_succ_eq_append_getElem h];unfold dc at hk ⊢;rw[List.all_append,hk,fU (t:=NT) h];simp
theorem wS{l:List ND}{k:Nat}(h:k<l.length)(hl:l.length<QL)(hk:dc (l.take k)=true)(hb:dv (bj (nth NT l (k:Int))).num<=2000/\dv ((bj (nth NT l (k:Int))).den:Int)<=2000):
  ∃ z:Nat,IntKind.i64.wrap ((k:Int)+1)=(z:Int)/\List.map (fun x=>bS (bj x)) (l.take k)++ [bS (bj (nth NT l (k:Int)))]=List.map (fun x=>bS (bj x)) (l.take z)/\z<=l.length/\dc (l.take z)=true/\l.length-z<l.length-k:=by
 have e1:QL=1000000000:=rfl;exact⟨k+1,by rw[wo];omega,wR (t:=NT) (fun x=>bS (bj x)) h,by omega,by rw[CT h hk];exact decide_eq_true hb,by omega⟩
theorem CU{l:List ND}{k:Nat}(h:k<l.length)(hb: ¬ (dv (bj (nth NT l (k:Int))).num<=2000/\dv ((bj (nth NT l (k:Int))).den:Int)<=2000)):
  ([]=if dc l=true then List.map (fun x=>bS (bj x)) l else [])/\false=dc l:=by
 have:dc l=false:=by
  unfold dc;rw[List.all_eq_false];exact⟨_,gE (t:=NT) h,by unfold cO;simpa using hb⟩
 rw[this];exact⟨rfl,rfl⟩
theorem CW{l:List ND}{k:Nat}(h: ¬k<l.length)(hk:dc (l.take k)=true):
  (List.map (fun x=>bS (bj x)) (l.take k)=if dc l=true then List.map (fun x=>bS (bj x)) l else [])/\true=dc l:=by
 rw[List.take_of_length_le (by omega)] at hk ⊢;rw[hk];exact⟨rfl,rfl⟩
def ar(l:List Rat):List ND:=l.map a8
def ae(p:List ND):List Rat:=p.map bj
def Sz(k:Nat)(p:List ND):Prop:=∀ x∈p,NOK x/\lq (bj x)<=k
theorem ax(l:List Rat):ae (ar l)=l:=by
 simp only[ae,ar,List.map_map];conv=>rhs;rw[<- List.map_id l]
 exact List.map_congr_left fun x _=>aF x
theorem Sz.enc{k:Nat}{p:List ND}(h:Sz k p):ar (ae p)=p:=by
 simp only[ae,ar,List.map_map];conv=>rhs;rw[<- List.map_id p]
 exact List.map_congr_left fun x hx=>(h x hx).1
theorem Sz.ex{k:Nat}{p:List ND}(h:Sz k p):∃ l,p=ar l/\∀ x∈l,lq x<=k:=by
 refine⟨ae p,h.enc.symm,fun x hx=> ?_⟩;obtain⟨y,hy,rfl⟩:=List.mem_map.1 hx;exact(h y hy).2
theorem eE{k:Nat}{l:List Rat}(h:∀ x∈l,lq x<=k):Sz k (ar l):=by
 intro x hx;obtain⟨y,hy,rfl⟩:=List.mem_map.1 hx;exact⟨bH y,by rw[aF];exact h y hy⟩
theorem Sz.mono{k m:Nat}{p:List ND}(h:Sz k p)(hm:k<=m):Sz m p:=fun x hx=>⟨(h x hx).1,Nat.le_trans (h x hx).2 hm⟩
theorem ao(l:List Rat):(ar l).length=l.length:=by simp[ar]
theorem aD(p:List ND):(ae p).length=p.length:=by simp[ae]
def aS:List Rat->List Rat
 | []=> []
 |x::l=>match aS l with
  | []=>if x=0 then [] else [x]
  |y::m=>x::y::m
theorem nK(l:List Rat):aS (l++ [0])=aS l:=by
 induction l with
 |nil=>simp[aS]
 |cons x l ih=>simp only[List.cons_append,aS,ih]
theorem zz{l:List Rat}{x:Rat}(h:x≠0):aS (l++ [x])=l++ [x]:=by
 induction l with
 |nil=>simp[aS,h]
 |cons y l ih=>
  simp only[List.cons_append,aS,ih];cases hl:l++ [x] with
  |nil=>simp at hl
  |cons z m=>rfl
theorem qN{l:List Rat}(h:l≠ [])(h0:l.getLastD 0≠0):aS l=l:=by
 obtain⟨m,x,rfl⟩:∃ m x,l=m++ [x]:=⟨l.dropLast,l.getLast h,(List.dropLast_concat_getLast h).symm⟩;refine zz ?_;simpa using h0
theorem qO{l:List Rat}(h:l≠ [])(h0:l.getLastD 0=0):aS l=aS l.dropLast:=by
 obtain⟨m,x,rfl⟩:∃ m x,l=m++ [x]:=⟨l.dropLast,l.getLast h,(List.dropLast_concat_getLast h).symm⟩;have:x=0:=by simpa using h0
 subst this;rw[nK,List.dropLast_concat]
theorem sign_zero(q:Rat):bq q.num 0=0↔q=0:=by
 have:bq q.num 0=0↔q.num=0:=by
  have:=Fi (a:=q.num) (b:=0);constructor;·intro h;exact Decidable.not_not.1 fun e=>(this.2 e) h
  ·intro h;exact Decidable.not_not.1 fun e=>(this.1 e) h
 rw[this,Rat.num_eq_zero]
theorem nO{l:List Rat}{k:Nat}(h:k<l.length):nth NT (ar l) (k:Int)=a8 l[k]:=by
 rw[fU (t:=NT) (by rw[ao];exact h)];simp[ar]
theorem wT{l:List Rat}(h:0<l.length):bj (nth NT (ar l) ((l.length:Int)-1))=l.getLastD 0:=by
 have e:(l.length:Int)-1=((l.length-1:Nat):Int):=by omega
 rw[e,nO (by omega),aF];rw[List.getLastD_eq_getLast?,List.getLast?_eq_getElem?,List.getElem?_eq_getElem (by omega)];rfl
theorem zA{l:List Rat}:(ar l).take (l.length-1)=ar l.dropLast:=by
 simp only[ar,<- List.map_take,List.dropLast_eq_take]
theorem cC{n:Nat}(h:n<=1000000000):IntKind.i64.wrap ((n:Int)-1)=(n:Int)-1:=wo
theorem sG{l:List Rat}(hl:l.length<=1000000000):(decide ((0:Int)<((ar l).length:Int))=true->decide ((0:Int)<((ar l).length:Int))=true/\NOK (nth NT (ar l) (IntKind.i64.wrap (((ar l).length:Int)-1))))/\
  (decide ((0:Int)<((ar l).length:Int))=true->decide ((0:Int)<((ar l).length:Int))=true/\0<=IntKind.i64.wrap (((ar l).length:Int)-1)/\IntKind.i64.wrap (((ar l).length:Int)-1)<((ar l).length:Int)):=by
 rw[ao,cC hl];constructor
 ·intro h;have h1:=of_decide_eq_true h;have e:(l.length:Int)-1=((l.length-1:Nat):Int):=by omega
  exact⟨h,by rw[e,nO (by omega)];exact bH _⟩
 ·intro h;have h1:=of_decide_eq_true h;exact⟨h,by omega,by omega⟩
theorem Fl{l:List Rat}(hl:l.length<=1000000000)(hb:(0:Int)<((ar l).length:Int))(hc:bq (bj (nth NT (ar l) (IntKind.i64.wrap (((ar l).length:Int)-1)))).num 0=0):0<l.length/\l.getLastD 0=0:=by
 rw[ao] at hb hc;rw[cC hl,wT (by omega),sign_zero] at hc;exact⟨by omega,hc⟩
theorem Fm{l:List Rat}(hl:l.length<=1000000000)(hb:(0:Int)<((ar l).length:Int)-> ¬bq (bj (nth NT (ar l) (IntKind.i64.wrap (((ar l).length:Int)-1)))).num 0=0):aS l=l:=by
 rw[ao] at hb;by_cases h:l= [];·subst h;rfl
 ·have h1:=List.length_pos_iff.2 h;have h2:=hb (by omega);rw[cC hl,wT (by omega),sign_zero] at h2;exact qN h h2
theorem sH{l l0:List Rat}(hl:l.length<=1000000000)(g1:l.length<=l0.length)(g2:∀ x∈l,lq x<=QC)(g3:aS l=aS l0)(h:0<l.length/\l.getLastD 0=0):
  List.take (IntKind.i64.wrap (((ar l).length:Int)-1)).toNat (ar l)=ar l.dropLast/\l.dropLast.length<=l0.length/\(∀ x∈l.dropLast,lq x<=QC)/\aS l.dropLast=aS l0/\l.dropLast.length<l.length:=by
 rw[ao,cC hl,show ((l.length:Int)-1).toNat=l.length-1 by omega];refine⟨zA,by rw[List.length_dropLast];omega,fun x hx=>g2 x (List.dropLast_subset _ hx),?_,by rw[List.length_dropLast];omega⟩;rw[<- g3,qO (List.length_pos_iff.1 h.1) h.2]
theorem HG{free fr:List Nat}(h:(free.all fun k=>fr.contains (k-ioB))=true):∀ k,ioB<=k->free.contains k=true->fr.contains (k-ioB)=true:=fun k _ hk=>
 List.all_eq_true.1 h k (by simpa using hk)
theorem Fo{B:ah}{P:Program}{f:FuncId}{c:Con}{fr:List Nat}(h:Valid B P f c):Valid B P f c fr:=by
 intro args os C rs os' hc hC O w vals ρ0 hOn hIo hO hOI hargs hown hap;refine(h args os C rs os' hc hC O w vals ρ0 hOn hIo hO hOI hargs hown hap).mono ?_;rintro e w' ⟨vs,ρ1,h1,h2,h3,h4,h5⟩;exact⟨vs,ρ1,h1,h2,h3,fun k _=>h4 k (fun e=>by simp at e),h5⟩
def QH:Nat:=40000000000
def cf(l:List Rat)(i:Nat):Rat:=l.getD i 0
theorem fg{p:List ND}{k:Nat}{i:Nat}(h:Sz k p)(hi:i<p.length):nth NT p (i:Int)=a8 (cf (ae p) i):=by
 obtain⟨l,rfl,hl⟩:=h.ex;rw[ao] at hi;rw[nO hi,ax];unfold cf;rw[List.getD_eq_getElem?_getD,List.getElem?_eq_getElem hi];rfl
theorem Fp{p:List ND}{i:Nat}(hi: ¬i<p.length):cf (ae p) i=0:=by
 unfold cf;rw[List.getD_eq_getElem?_getD,List.getElem?_eq_none (by rw[aD];omega)];rfl
theorem kj:lq 0<=1:=by
 unfold lq;rw[show (0:Rat).num=0 from rfl,show (0:Rat).den=1 from rfl,ja];show max 0 (lw 1)<=1;rw[qB];decide
theorem Sz.cf{p:List ND}{k:Nat}(h:Sz k p)(hk:1<=k)(i:Nat):lq (cf (ae p) i)<=k:=by
 by_cases hi:i<p.length
 ·have h1:=fg h hi;have h2:=(h _ (gE (t:=NT) hi)).2;rw[h1,aF] at h2;exact h2
 ·rw[Fp hi];exact Nat.le_trans kj hk
def bT(op:Rat->Rat->Rat)(l m:List Rat)(n:Nat):List Rat:=(List.range n).map fun i=>op (cf l i) (cf m i)
def bw(op:Rat->Rat->Rat)(l m:List Rat):List Rat:=aS (bT op l m (max l.length m.length))
theorem uF(op:Rat->Rat->Rat)(l m:List Rat)(k:Nat):bT op l m (k+1)=bT op l m k++ [op (cf l k) (cf m k)]:=by
 unfold bT;rw[List.range_succ,List.map_append];rfl
theorem mu(l:List Rat)(x:Rat):ar (l++ [x])=ar l++ [a8 x]:=by simp[ar]
theorem fL(op:Rat->Rat->Rat)(l m:List Rat)(k:Nat):(bT op l m k).length=k:=by simp[bT]
def HH(op:Rat->Rat->Rat):Prop:=∀ x y,lq (op x y)<=lq x+lq y+1
theorem wU:HH (· + ·):=uy
theorem wV:HH (· - ·):=Jc
theorem uG{op:Rat->Rat->Rat}(ht:HH op){p q:List ND}(hp:Sz QH p)(hq:Sz QH q)(n:Nat):Sz QC (ar (bT op (ae p) (ae q) n)):=by
 refine eE fun x hx=> ?_;obtain⟨i,_,rfl⟩:=List.mem_map.1 hx;have h1:=ht (cf (ae p) i) (cf (ae q) i);have h2:=hp.cf (by unfold QH;omega) i;have h3:=hq.cf (by unfold QH;omega) i;unfold QH at h2 h3;unfold QC;omega
theorem Fq{p q:List ND}(hp:Sz QH p)(hq:Sz QH q)(i:Nat):fA (a8 (cf (ae p) i)) (a8 (cf (ae q) i)):=by
 refine⟨bH _,bH _,?_⟩;rw[aF,aF];have h2:=hp.cf (by unfold QH;omega) i;have h3:=hq.cf (by unfold QH;omega) i;unfold QH at h2 h3;unfold QC;omega
theorem IV:QH<=QC:=by unfold QH QC;omega
theorem AY(p q:List ND)(hl:True):max ((p.length:Nat):Int) (q.length:Int)=((max p.length q.length:Nat):Int):=by omega
theorem sI{p q:List ND}(hp:Sz QH p)(hq:Sz QH q){k:Nat}(hk:k<=1000)(op:Rat->Rat->Rat):(Sz QC p/\(0:Int)<=(k:Int))/\(Sz QC q/\(0:Int)<=(k:Int))/\fA (a8 (cf (ae p) (k:Int).toNat)) (a8 (cf (ae q) (k:Int).toNat))/\Cm.Roomy 4 ((ar (bT op (ae p) (ae q) k)).length+1):=by
 rw[Int.toNat_natCast];exact⟨⟨hp.mono IV,by omega⟩,⟨hq.mono IV,by omega⟩,Fq hp hq k,qM (by rw[ao,fL];omega)⟩
theorem qP{op:Rat->Rat->Rat}{p q:List ND}{k n:Nat}(h:k<n)(hn:n<=1000):∃ z:Nat,IntKind.i64.wrap ((k:Int)+1)=(z:Int)/\ar (bT op (ae p) (ae q) k)++ [a8 (op (bj (a8 (cf (ae p) (k:Int).toNat))) (bj (a8 (cf (ae q) (k:Int).toNat))))]=ar (bT op (ae p) (ae q) z)/\z<=n/\n-z<n-k:=by
 refine⟨k+1,by rw[wo];omega,?_,by omega,by omega⟩;rw[Int.toNat_natCast,aF,aF,uF,mu]
theorem qQ{op:Rat->Rat->Rat}(ht:HH op){p q:List ND}(hp:Sz QH p)(hq:Sz QH q){k:Nat}(hk:k<=1000):Sz QC (ar (bT op (ae p) (ae q) k))/\(ar (bT op (ae p) (ae q) k)).length<=QL:=
 ⟨uG ht hp hq k,by rw[ao,fL];unfold QL;omega⟩
theorem wW{op:Rat->Rat->Rat}{p q:List ND}{k:Nat}(h1:k<=max p.length q.length)(h: ¬ (k:Int)<((max p.length q.length:Nat):Int)):ar (aS (ae (ar (bT op (ae p) (ae q) k))))=ar (bw op (ae p) (ae q)):=by
 have e:k=max p.length q.length:=by omega
 unfold bw;rw[ax,aD,aD,<- e]
def QM:Nat:=400000000
def ck(out:List Rat)(i:Nat)(a:Rat)(q:List Rat):Nat->List Rat
 |0=>out
 |k+1=>(ck out i a q k).set (i+k) (cf (ck out i a q k) (i+k)+a*cf q k)
def mulN(p q:List Rat):Nat->List Rat
 |0=>List.replicate (p.length+q.length-1) 0
 |i+1=>ck (mulN p q i) i (cf p i) q q.length
def b9(p q:List Rat):List Rat:=if p= []∨q= [] then [] else mulN p q p.length
theorem gF(out:List Rat)(i:Nat)(a:Rat)(q:List Rat)(k:Nat):(ck out i a q k).length=out.length:=by
 induction k with
 |zero=>rfl
 |succ k ih=>rw[ck,List.length_set,ih]
theorem dy(p q:List Rat)(i:Nat):(mulN p q i).length=p.length+q.length-1:=by
 induction i with
 |zero=>simp[mulN]
 |succ i ih=>rw[mulN,gF,ih]
theorem Fs(l:List Rat)(i j:Nat)(x:Rat):cf (l.set i x) j=if i=j/\i<l.length then x else cf l j:=by
 unfold cf;simp only[List.getD_eq_getElem?_getD,List.getElem?_set];by_cases h:i=j
 ·subst h;by_cases h2:i<l.length;·simp[h2]
  ·simp[h2,List.getElem?_eq_none (by omega:l.length<=i)]
 ·simp[h]
theorem qR{l:List Rat}{i:Nat}(h:i<l.length):cf l i∈l:=by
 unfold cf;rw[List.getD_eq_getElem?_getD,List.getElem?_eq_getElem h];exact List.getElem_mem h
theorem nv{l:List Rat}{k:Nat}(h:∀ x∈l,lq x<=k)(hk:1<=k)(i:Nat):lq (cf l i)<=k:=by
 by_cases hi:i<l.length
 ·exact h _ (qR hi)
 ·unfold cf;rw[List.getD_eq_getElem?_getD,List.getElem?_eq_none (by omega)];exact Nat.le_trans kj hk
theorem Jk{l:List Rat}{k:Nat}(h:∀ i,i<l.length->lq (cf l i)<=k):∀ x∈l,lq x<=k:=by
 intro x hx;obtain⟨i,hi,rfl⟩:=List.getElem_of_mem hx;have:=h i hi;unfold cf at this;rw[List.getD_eq_getElem?_getD,List.getElem?_eq_getElem hi] at this;exact this
theorem jc(out:List Rat)(i:Nat)(a:Rat)(q:List Rat)(k n:Nat)(hl:i+k<=out.length):cf (ck out i a q k) n=if i<=n/\n<i+k then cf out n+a*cf q (n-i) else cf out n:=by
 induction k with
 |zero=>simp[ck];intro h1 h2;omega
 |succ k ih=>
  have ih:=ih (by omega);rw[ck,Fs,gF];by_cases h:i+k=n
  ·rw[if_pos ⟨h,by omega⟩];have e:cf (ck out i a q k) (i+k)=cf out (i+k):=by
    have h2:∀ n,n=i+k->cf (ck out i a q k) n=cf out n:=by
     intro n hn;have:=ih;clear this;rw[show cf (ck out i a q k) n=cf (ck out i a q k) n from rfl];subst hn;subst h;rw[ih,if_neg (by omega)]
    exact h2 _ rfl
   rw[e,h,if_pos (by omega),show n-i=k by omega]
  ·(rw[if_neg (by omega),ih];by_cases h2:i<=n/\n<i+k;·rw[if_pos h2,if_pos (by omega)]);·rw[if_neg h2,if_neg (by omega)]
theorem uH{out:List Rat}{i:Nat}{a:Rat}{q:List Rat}{k m K:Nat}(hl:i+k<=out.length)(h:∀ x∈out,lq x<=m)(hm:1<=m)(ha:lq a<=K)(hq:∀ n,lq (cf q n)<=K):∀ x∈ck out i a q k,lq x<=m+(2*K+1):=by
 refine Jk fun n hn=> ?_;rw[jc _ _ _ _ _ _ hl];have h1:=nv h hm n;split;·have h2:=uy (cf out n) (a*cf q (n-i));have h3:=qG a (cf q (n-i));have h4:=hq (n-i);omega
 ·omega
theorem Ft{p q:List Rat}{K:Nat}(hp:∀ n,lq (cf p n)<=K)(hq:∀ n,lq (cf q n)<=K):∀ i,i<=p.length->∀ x∈mulN p q i,lq x<=1+i*(2*K+1):=by
 intro i;induction i with
 |zero=>
  intro _ x hx;rw[mulN] at hx;rw[(List.mem_replicate.1 hx).2];exact Nat.le_trans kj (by omega)
 |succ i ih=>
  intro hi x hx;rw[mulN] at hx;by_cases hq0:q= [];·subst hq0;have:=ih (by omega) x hx;rw[Nat.succ_mul];omega
  ·have hql:=List.length_pos_iff.2 hq0;have:=uH (by rw[dy];omega) (ih (by omega)) (by omega) (hp i) hq x hx;rw[Nat.succ_mul];omega
theorem wX(n:Nat)(x:Rat):ar (List.replicate n x)=List.replicate n (a8 x):=by simp[ar]
theorem qS(l:List Rat)(i:Nat)(x:Rat):(ar l).set i (a8 x)=ar (l.set i x):=by simp[ar,List.map_set]
theorem Fu{p q:List ND}(h:(((p.length:Int)==0)||((q.length:Int)==0))=false):0<p.length/\0<q.length:=by
 simp only[Bool.or_eq_false_iff,beq_eq_false_iff_ne] at h;omega
theorem CX{p q:List ND}(h:(((p.length:Int)==0)||((q.length:Int)==0))=true): []=ar (b9 (ae p) (ae q)):=by
 simp only[Bool.or_eq_true,beq_iff_eq] at h;unfold b9;rw[if_pos (h.imp (fun h=>List.eq_nil_of_length_eq_zero (by rw[aD];omega)) (fun h=>List.eq_nil_of_length_eq_zero (by rw[aD];omega)))];rfl
theorem sJ{p q:List ND}(hl1:p.length<=100)(hl2:q.length<=100)(h:0<p.length/\0<q.length):IntKind.i64.wrap (IntKind.i64.wrap ((p.length:Int)+(q.length:Int))-1)=((p.length+q.length-1:Nat):Int):=by
 rw[wi (x:=(p.length:Int)+(q.length:Int)) (by omega) (by omega),wo];omega
theorem times_start(p q:List ND):List.replicate (p.length+q.length-1) (a8 0)=ar (mulN (ae p) (ae q) 0):=by
 rw[mulN,wX,aD,aD]
theorem mv{p q:List ND}(hp:Sz QM p)(hq:Sz QM q)(hl:p.length<=100)(h0:0<p.length/\0<q.length){i k:Nat}(hi:i<p.length)(hk:k<=q.length):∀ x∈ck (mulN (ae p) (ae q) i) i (cf (ae p) i) (ae q) k,lq x<=81000000000:=by
 intro x hx;have e:QM=400000000:=rfl;have h1:=Ft (p:=ae p) (q:=ae q) (K:=QM) (fun n=>hp.cf (by omega) n) (fun n=>hq.cf (by omega) n) i (by rw[aD];omega);have h2:=uH (q:=ae q) (k:=k) (by rw[dy,aD,aD];omega) h1 (by omega) (hp.cf (by omega) i) (fun n=>hq.cf (by omega) n) x hx;have h3:i*(2*QM+1)<=99*(2*QM+1):=Nat.mul_le_mul_right _ (by omega);omega
theorem zB{p q:List ND}(hp:Sz QM p)(hq:Sz QM q)(hl:p.length<=100)(hl2:q.length<=100)(h0:0<p.length/\0<q.length){i k:Nat}(hi:i<p.length)(hk:k<q.length):
  IntKind.i64.wrap ((i:Int)+(k:Int))=((i+k:Nat):Int)/\i+k<(ar (ck (mulN (ae p) (ae q) i) i (cf (ae p) i) (ae q) k)).length/\fA (a8 (cf (ae p) i)) (a8 (cf (ae q) k))/\
  fA (nth NT (ar (ck (mulN (ae p) (ae q) i) i (cf (ae p) i) (ae q) k)) ((i+k:Nat):Int)) (a8 (cf (ae p) i*cf (ae q) k)):=by
 have hlen:(ck (mulN (ae p) (ae q) i) i (cf (ae p) i) (ae q) k).length=p.length+q.length-1:=by rw[gF,dy,aD,aD]
 have e:QM=400000000:=rfl;have e2:QC=100000000000:=rfl;have ha:=hp.cf (by omega) i;have hb:=hq.cf (by omega) k;have hm:=qG (cf (ae p) i) (cf (ae q) k);have hx:=mv hp hq hl h0 hi (Nat.le_of_lt hk) _ (qR (by rw[hlen];omega:i+k<(ck (mulN (ae p) (ae q) i) i (cf (ae p) i) (ae q) k).length));refine⟨by rw[wo];omega,by rw[ao,hlen];omega,⟨bH _,bH _,by rw[aF,aF];omega⟩,?_⟩;have hn:nth NT (ar (ck (mulN (ae p) (ae q) i) i (cf (ae p) i) (ae q) k)) ((i+k:Nat):Int)=a8 (cf (ck (mulN (ae p) (ae q) i) i (cf (ae p) i) (ae q) k) (i+k)):=by
  have:=fg (p:=ar (ck (mulN (ae p) (ae q) i) i (cf (ae p) i) (ae q) k)) (i:=i+k) (eE (mv hp hq hl h0 hi (Nat.le_of_lt hk))) (by rw[ao,hlen];omega);rw[ax] at this;exact this
 rw[hn];exact⟨bH _,bH _,by rw[aF,aF];omega⟩
theorem qT{p q:List ND}(hp:Sz QM p)(hq:Sz QM q)(hl:p.length<=100)(hl2:q.length<=100)(h0:0<p.length/\0<q.length){i k:Nat}(hi:i<p.length)(hk:k<q.length):
  ∃ z:Nat,IntKind.i64.wrap ((k:Int)+1)=(z:Int)/\
   (ar (ck (mulN (ae p) (ae q) i) i (cf (ae p) i) (ae q) k)).set (i+k) (a8 (bj (nth NT (ar (ck (mulN (ae p) (ae q) i) i (cf (ae p) i) (ae q) k)) ((i+k:Nat):Int))+cf (ae p) i*cf (ae q) k))=ar (ck (mulN (ae p) (ae q) i) i (cf (ae p) i) (ae q) z)/\z<=q.length/\q.length-z<q.length-k:=by
 have hlen:(ck (mulN (ae p) (ae q) i) i (cf (ae p) i) (ae q) k).length=p.length+q.length-1:=by rw[gF,dy,aD,aD]
 have hn:nth NT (ar (ck (mulN (ae p) (ae q) i) i (cf (ae p) i) (ae q) k)) ((i+k:Nat):Int)=a8 (cf (ck (mulN (ae p) (ae q) i) i (cf (ae p) i) (ae q) k) (i+k)):=by
  have:=fg (p:=ar (ck (mulN (ae p) (ae q) i) i (cf (ae p) i) (ae q) k)) (i:=i+k) (eE (mv hp hq hl h0 hi (Nat.le_of_lt hk))) (by rw[ao,hlen];omega);rw[ax] at this;exact this
 refine⟨k+1,by rw[wo];omega,?_,by omega,by omega⟩;rw[hn,aF,qS,ck]
theorem Fv(l:List Rat)(i:Nat):l.set i (cf l i)=l:=by
 apply List.ext_getElem?;intro j;rw[List.getElem?_set];by_cases h:i=j
 ·subst h;rw[if_pos rfl];unfold cf;by_cases h2:i<l.length;·rw[if_pos h2,List.getD_eq_getElem?_getD,List.getElem?_eq_getElem h2];rfl
  ·rw[if_neg h2,List.getElem?_eq_none (by omega)]
 ·rw[if_neg h]
theorem qU{p q:List ND}(hl2:q.length<=100){i k:Nat}(hk:k<q.length)(hz:cf (ae p) i*cf (ae q) k=0):
  ∃ z:Nat,IntKind.i64.wrap ((k:Int)+1)=(z:Int)/\ar (ck (mulN (ae p) (ae q) i) i (cf (ae p) i) (ae q) k)=ar (ck (mulN (ae p) (ae q) i) i (cf (ae p) i) (ae q) z)/\z<=q.length/\q.length-z<q.length-k:=by
 refine⟨k+1,by rw[wo];omega,?_,by omega,by omega⟩;rw[ck,hz,Rat.add_zero,Fv]
theorem qV{a b:Rat}(h:(bq a.num 0 !=0)=true->bq b.num 0=0):a*b=0:=by
 by_cases ha:a=0
 ·rw[ha,Rat.zero_mul]
 ·have h1:bq a.num 0≠0:=fun e=>ha ((sign_zero a).1 e);have:=h (by rw[bne_iff_ne];exact h1);rw[(sign_zero b).1 this,Rat.mul_zero]
theorem CY{p q:List ND}(hl:p.length<=100){i k:Nat}(hi:i<p.length)(hk:k=q.length):∃ z:Nat,IntKind.i64.wrap ((i:Int)+1)=(z:Int)/\ar (ck (mulN (ae p) (ae q) i) i (cf (ae p) i) (ae q) k)=ar (mulN (ae p) (ae q) z)/\z<=p.length/\p.length-z<p.length-i:=by
 refine⟨i+1,by rw[wo];omega,?_,by omega,by omega⟩;rw[mulN,aD,hk]
theorem times_fin{p q:List ND}(h0:0<p.length/\0<q.length){i:Nat}(hi:i=p.length):ar (mulN (ae p) (ae q) i)=ar (b9 (ae p) (ae q)):=by
 unfold b9;rw[if_neg,aD,hi];rintro(h|h);·have:=congrArg List.length h;rw[aD,List.length_nil] at this;omega
 ·have:=congrArg List.length h;rw[aD,List.length_nil] at this;omega
theorem HI{p q:List ND}(hl1:p.length<=100)(hl2:q.length<=100):(0:Int)<=((p.length+q.length-1:Nat):Int)/\((p.length+q.length-1:Nat):Int)<=1000:=by omega
def ay(l:List Rat):Rat:=l.getLastD 0
def cD(l:List Rat):List Rat:=l.map fun c=>c/ay l
theorem b4{l:List Rat}(h:0<l.length):ay l=cf l (l.length-1):=by
 unfold ay cf;rw[List.getLastD_eq_getLast?,List.getLast?_eq_getElem?,List.getD_eq_getElem?_getD]
theorem wY{p:List ND}{k:Nat}(h:Sz k p)(hp:0<p.length)(hl:p.length<=1000000000):nth NT p (IntKind.i64.wrap ((p.length:Int)-1))=a8 (ay (ae p)):=by
 rw[cC hl,show (p.length:Int)-1=((p.length-1:Nat):Int) by omega,fg h (by omega),b4 (by rw[aD];omega),aD]
theorem nP{p:List ND}{k:Nat}(h:Sz k p)(hk:1<=k)(hp:0<p.length):lq (ay (ae p))<=k:=by
 rw[b4 (by rw[aD];omega)];exact h.cf hk _
def mw(p:List ND):Prop:=Sz QH p/\p.length<=1000/\(p≠ []->ay (ae p)≠0)
theorem Fw{p:List ND}(h:mw p){k:Nat}(hk:k<p.length):nth NT p (k:Int)=a8 (cf (ae p) k)/\nth NT p (IntKind.i64.wrap ((p.length:Int)-1))=a8 (ay (ae p))/\(0<=IntKind.i64.wrap ((p.length:Int)-1)/\IntKind.i64.wrap ((p.length:Int)-1)<(p.length:Int))/\
  fA (a8 (cf (ae p) k)) (a8 (ay (ae p)))/\ay (ae p)≠0/\Cm.Roomy 4 ((ar ((ae p).take k|>.map fun c=>c/ay (ae p))).length+1):=by
 obtain⟨h1,h2,h3⟩:=h;have e:QH=40000000000:=rfl;have e2:QC=100000000000:=rfl;have h4:=h1.cf (by omega) k;have h5:=nP h1 (by omega) (by omega);refine⟨fg h1 hk,wY h1 (by omega) (by omega),by rw[cC (by omega)];omega,⟨bH _,bH _,by rw[aF,aF];omega⟩,h3 (by intro e;rw[e] at hk;simp at hk),?_⟩;refine qM ?_;rw[ao,List.length_map,List.length_take,aD];omega
theorem CZ{p:List ND}(h:mw p){k:Nat}(hk:k<p.length):∃ z:Nat,IntKind.i64.wrap ((k:Int)+1)=(z:Int)/\ar ((ae p).take k|>.map fun c=>c/ay (ae p))++ [a8 (cf (ae p) k/ay (ae p))]=ar ((ae p).take z|>.map fun c=>c/ay (ae p))/\z<=p.length/\p.length-z<p.length-k:=by
 have hl:=h.2.1;refine⟨k+1,by rw[wo];omega,?_,by omega,by omega⟩;rw[<- mu,List.take_succ_eq_append_getElem (by rw[aD];exact hk),List.map_append];congr 2;unfold cf;rw[List.getD_eq_getElem?_getD,List.getElem?_eq_getElem (by rw[aD];exact hk)];rfl
theorem HJ{p:List ND}{k:Nat}(hk:k=p.length):ar ((ae p).take k|>.map fun c=>c/ay (ae p))=ar (cD (ae p)):=by
 rw[List.take_of_length_le (by rw[aD];omega)];rfl
def kB(l:List Rat)(n:Nat):List Rat:=(List.range (n-1)).map fun i=>cf l (i+1)*Rat.divInt ((i+1:Nat):Int) 1
def bK(l:List Rat):List Rat:=kB l l.length
theorem C3(l:List Rat)(k:Nat):kB l (k+1+1)=kB l (k+1)++ [cf l (k+1)*Rat.divInt ((k+1:Nat):Int) 1]:=by
 unfold kB;rw[show k+1+1-1=k+1 by omega,show k+1-1=k by omega,List.range_succ,List.map_append];rfl
theorem Jl{n:Int}(h:I64 n):lq (Rat.divInt n 1)<=3:=by
 have:=qC n 1 (by decide);have h2:=Jb h;rw[qB] at this;omega
theorem Fx{p:List ND}(h1:Sz QH p)(hl:p.length<=1000){k:Nat}(hk:k<p.length):(I64 (k:Int)/\I64 1/\(1:Int)≠0)/\nth NT p (k:Int)=a8 (cf (ae p) k)/\fA (a8 (cf (ae p) k)) (a8 (Rat.divInt (k:Int) 1))/\Cm.Roomy 4 ((ar (kB (ae p) k)).length+1):=by
 have hi:I64 (k:Int):=by unfold I64;omega
 have e:QH=40000000000:=rfl;have e2:QC=100000000000:=rfl;have h4:=h1.cf (by omega) k;have h5:=Jl hi;refine⟨⟨hi,by unfold I64;omega,by decide⟩,fg h1 hk,⟨bH _,bH _,by rw[aF,aF];omega⟩,qM ?_⟩;rw[ao];simp[kB];omega
theorem sK{p:List ND}(hl:p.length<=1000){k:Nat}(hk:k<p.length)(h0:0<k):∃ z:Nat,IntKind.i64.wrap ((k:Int)+1)=(z:Int)/\ar (kB (ae p) k)++ [a8 (cf (ae p) k*Rat.divInt (k:Int) 1)]=ar (kB (ae p) z)/\z<=p.length/\p.length-z<p.length-k:=by
 refine⟨k+1,by rw[wo];omega,?_,by omega,by omega⟩;obtain⟨j,rfl⟩:∃ j,k=j+1:=⟨k-1,by omega⟩;rw[C3,mu]
theorem wZ{p:List ND}(hl:p.length<=1000){k:Nat}(hk:k<p.length)(h0:k=0):∃ z:Nat,IntKind.i64.wrap ((k:Int)+1)=(z:Int)/\ar (kB (ae p) k)=ar (kB (ae p) z)/\z<=p.length/\p.length-z<p.length-k:=by
 subst h0;exact⟨1,by rw[wo];omega,rfl,by omega,by omega⟩
def aO(l:List Rat)(x:Rat):Rat:=l.foldr (fun c v=>v*x+c) 0
theorem uI{l:List Rat}{x:Rat}{K:Nat}(hl:∀ c∈l,lq c<=K)(hx:lq x<=K):lq (aO l x)<=1+l.length*(2*K+1):=by
 induction l with
 |nil=>exact Nat.le_trans kj (by omega)
 |cons c l ih=>
  have h1:=ih (fun d hd=>hl d (List.mem_cons_of_mem _ hd));have h2:=hl c (List.mem_cons_self ..);have e:aO (c::l) x=aO l x*x+c:=rfl;have h3:=uy (aO l x*x) c;have h4:=qG (aO l x) x;rw[e,List.length_cons,Nat.succ_mul];omega
def QD:Nat:=10000000000
def b8(q r:List Rat):List Rat:=ck r (r.length-q.length) (-(ay r/ay q)) q q.length
def en(q:List Rat):Nat->List Rat->List Rat->List Rat×List Rat
 |0,r,s=>(s,r)
 |n+1,r,s=>if q.length<=r.length then en q n (aS (b8 q r)) (s.set (r.length-q.length) (ay r/ay q)) else (s,r)
def divN(p q:List Rat):List Rat×List Rat:=en q (p.length+1) p (List.replicate (p.length+1-q.length) 0)
def qW(q:List Rat):Nat->List Rat->Prop
 |0,_=>True
 |n+1,r=>(∀ x∈r,lq x<=QD)/\(q.length<=r.length->qW q n (aS (b8 q r)))
structure fh (p q:List ND):Prop where
 hp:∀ x∈p,NOK x
 hq:Sz QD q
 l1:p.length<=900
 l2:q.length<=900
 h0:0<q.length
 hl:ay (ae q)≠0
 safe:qW (ae q) (p.length+1) (ae p)
theorem gq(l:List Rat):(aS l).length<=l.length:=by
 induction l with
 |nil=>simp[aS]
 |cons x l ih=>
  simp only[aS];split;·split<;>simp
  ·rename_i y m h;rw[h] at ih;simp only[List.length_cons] at ih ⊢;omega
theorem nw{l:List Rat}(h:0<l.length)(h0:ay l=0):(aS l).length<l.length:=by
 rw[qO (List.length_pos_iff.1 h) h0];have:=gq l.dropLast;rw[List.length_dropLast] at this;omega
theorem dV(q r:List Rat):(b8 q r).length=r.length:=gF _ _ _ _ _
theorem uJ{q r:List Rat}(hq:0<q.length)(h:q.length<=r.length)(h0:ay q≠0):ay (b8 q r)=0:=by
 rw[b4 (by rw[dV];omega),dV];unfold b8;rw[jc _ _ _ _ _ _ (by omega),if_pos (by omega),show r.length-1-(r.length-q.length)=q.length-1 by omega,<- b4 hq,<- b4 (by omega)];grind
theorem eF{q r:List Rat}(hq:0<q.length)(h:q.length<=r.length)(h0:ay q≠0):(aS (b8 q r)).length<r.length:=by
 have:=nw (l:=b8 q r) (by rw[dV];omega) (uJ hq h h0);rwa [dV] at this
structure DivPhi (p q:List ND) (n:Nat) (r s:List Rat):Prop where
 eq:en (ae q) n r s=divN (ae p) (ae q)
 fuel:r.length<n
 safe:qW (ae q) n r
 lr:r.length<=p.length
 ls:s.length=p.length+1-q.length
theorem div_start{p q:List ND}(h:fh p q):DivPhi p q (p.length+1) (ae p) (List.replicate (p.length+1-q.length) 0):=by
 refine⟨?_,by rw[aD];omega,h.safe,by rw[aD];exact Nat.le_refl _,by simp⟩;unfold divN;rw[aD,aD]
theorem fh.enc{p q:List ND}(h:fh p q):ar (ae p)=p:=by
 simp only[ae,ar,List.map_map];conv=>rhs;rw[<- List.map_id p]
 exact List.map_congr_left fun x hx=>h.hp x hx
theorem DivPhi.bound{p q:List ND}{n:Nat}{r s:List Rat}(h:DivPhi p q n r s):∀ x∈r,lq x<=QD:=by
 have h1:=h.safe;have h2:=h.fuel;match n,h1 with
 |n+1,h1=>exact h1.1
theorem div_next{p q:List ND}{n:Nat}{r s:List Rat}(ho:fh p q)(h:DivPhi p q n r s)(hl:q.length<=r.length):
  ∃ m,DivPhi p q m (aS (b8 (ae q) r)) (s.set (r.length-q.length) (ay r/ay (ae q))):=by
 have h2:=h.fuel;have h1:=h.safe;have he:=h.eq;have hs:=eF (q:=ae q) (r:=r) (by rw[aD];exact ho.h0) (by rw[aD];exact hl) ho.hl;match n,h1,he,h2 with
 |n+1,h1,he,h2=>
  rw[en,if_pos (by rw[aD];exact hl),aD] at he;exact⟨n,he,by omega,h1.2 (by rw[aD];exact hl),by have:=h.lr;omega,by rw[List.length_set];exact h.ls⟩
theorem div_end{p q:List ND}{n:Nat}{r s:List Rat}(h:DivPhi p q n r s)(hl: ¬q.length<=r.length):(s,r)=divN (ae p) (ae q):=by
 have h2:=h.fuel;have he:=h.eq;match n,he,h2 with
 |n+1,he,h2=>
  rw[en,if_neg (by rw[aD];exact hl)] at he;exact he
theorem zC{l:List Rat}{k:Nat}(hk:k<l.length):nth NT (ar l) (k:Int)=a8 (cf l k):=by
 rw[nO hk];unfold cf;rw[List.getD_eq_getElem?_getD,List.getElem?_eq_getElem hk];rfl
theorem HM{l:List Rat}(h:0<l.length)(hl:l.length<=1000000000):nth NT (ar l) (IntKind.i64.wrap (((ar l).length:Int)-1))=a8 (ay l):=by
 rw[ao,cC hl,show (l.length:Int)-1=((l.length-1:Nat):Int) by omega,zC (by omega),<- b4 h]
theorem JP{p q:List ND}{n:Nat}{r s:List Rat}(ho:fh p q)(h:DivPhi p q n r s)(hl:q.length<=r.length):IntKind.i64.wrap (((ar r).length:Int)-(q.length:Int))=((r.length-q.length:Nat):Int):=by
 have h1:=h.lr;have h2:=ho.l1;rw[ao,wo];omega
theorem JQ{p q:List ND}{n:Nat}{r s:List Rat}(ho:fh p q)(h:DivPhi p q n r s)(hl:q.length<=r.length):
  (0<=IntKind.i64.wrap (((ar r).length:Int)-1)/\IntKind.i64.wrap (((ar r).length:Int)-1)<((ar r).length:Int))/\(IntKind.i64.wrap (((ar r).length:Int)-1)).toNat<(ar r).length/\
  (0<=IntKind.i64.wrap ((q.length:Int)-1)/\IntKind.i64.wrap ((q.length:Int)-1)<(q.length:Int))/\nth NT (ar r) (IntKind.i64.wrap (((ar r).length:Int)-1))=a8 (ay r)/\nth NT q (IntKind.i64.wrap ((q.length:Int)-1))=a8 (ay (ae q))/\
  fA (a8 (ay r)) (a8 (ay (ae q))):=by
 have h1:=h.lr;have h2:=ho.l1;have h3:=ho.h0;have h4:=ho.l2;have e:QD=10000000000:=rfl;have e2:QC=100000000000:=rfl;have hb:=nv h.bound (by omega) (r.length-1);rw[<- b4 (by omega)] at hb;have hc:=nP ho.hq (by omega) h3;have hw:IntKind.i64.wrap (((ar r).length:Int)-1)=(r.length:Int)-1:=by rw[ao,cC (by omega)]
 refine⟨by rw[hw,ao];omega,by rw[hw,ao];omega,by rw[cC (by omega)];omega,HM (by omega) (by omega),wY ho.hq h3 (by omega),bH _,bH _,?_⟩;rw[aF,aF];omega
theorem Fy{p q:List ND}{n:Nat}{r s:List Rat}(ho:fh p q)(h:DivPhi p q n r s)(hl:q.length<=r.length){i:Nat}(hi:i<q.length):
  IntKind.i64.wrap (((r.length-q.length:Nat):Int)+(i:Int))=((r.length-q.length+i:Nat):Int)/\r.length-q.length+i<(ar (ck r (r.length-q.length) (-(ay r/ay (ae q))) (ae q) i)).length/\nth NT q (i:Int)=a8 (cf (ae q) i)/\
  nth NT (ar (ck r (r.length-q.length) (-(ay r/ay (ae q))) (ae q) i)) ((r.length-q.length+i:Nat):Int)=a8 (cf (ck r (r.length-q.length) (-(ay r/ay (ae q))) (ae q) i) (r.length-q.length+i))/\
  fA (a8 (ay r/ay (ae q))) (a8 (cf (ae q) i))/\fA (a8 (cf (ck r (r.length-q.length) (-(ay r/ay (ae q))) (ae q) i) (r.length-q.length+i))) (a8 (ay r/ay (ae q)*cf (ae q) i)):=by
 have h1:=h.lr;have h2:=ho.l1;have h3:=ho.h0;have h4:=ho.l2;have e:QD=10000000000:=rfl;have e2:QC=100000000000:=rfl;have hb:=nv h.bound (by omega) (r.length-1);rw[<- b4 (by omega)] at hb;have hc:=nP ho.hq (by omega) h3;have hd:=uA (ay r) (ay (ae q));have hqi:=ho.hq.cf (by omega) i;have hm:=qG (ay r/ay (ae q)) (cf (ae q) i);have hrow:=uH (out:=r) (i:=r.length-q.length) (a:= -(ay r/ay (ae q))) (q:=ae q) (k:=i) (m:=QD) (K:=2*QD) (by omega) h.bound (by omega) (by rw[uz];omega) (fun n=>Nat.le_trans (ho.hq.cf (by omega) n) (by omega));have hlen:(ck r (r.length-q.length) (-(ay r/ay (ae q))) (ae q) i).length=r.length:=gF _ _ _ _ _;have hcur:lq (cf (ck r (r.length-q.length) (-(ay r/ay (ae q))) (ae q) i) (r.length-q.length+i))<=QD:=by
  rw[jc _ _ _ _ _ _ (by omega),if_neg (by omega)];exact nv h.bound (by omega) _
 refine⟨by rw[wo];omega,by rw[ao,hlen];omega,fg ho.hq hi,zC (by rw[hlen];omega),⟨bH _,bH _,by rw[aF,aF];omega⟩,bH _,bH _,by rw[aF,aF];omega⟩
theorem HN(r:List Rat)(k:Nat)(c:Rat)(q:List Rat)(i:Nat):(ar (ck r k (-c) q i)).set (k+i) (a8 (cf (ck r k (-c) q i) (k+i)-c*cf q i))=ar (ck r k (-c) q (i+1)):=by
 rw[qS,ck,Rat.sub_eq_add_neg,Rat.neg_mul]
theorem Fz{p q:List ND}{n:Nat}{r s:List Rat}(ho:fh p q)(h:DivPhi p q n r s)(hl:q.length<=r.length):Sz QC (ar (b8 (ae q) r))/\(ar (b8 (ae q) r)).length<=QL:=by
 have h1:=h.lr;have h2:=ho.l1;have h3:=ho.h0;have h4:=ho.l2;have e:QD=10000000000:=rfl;have e2:QC=100000000000:=rfl;have hb:=nv h.bound (by omega) (r.length-1);rw[<- b4 (by omega)] at hb;have hc:=nP ho.hq (by omega) h3;have hd:=uA (ay r) (ay (ae q));refine⟨eE fun x hx=> ?_,by rw[ao,dV];unfold QL;omega⟩;have hrow:=uH (out:=r) (i:=r.length-(ae q).length) (a:= -(ay r/ay (ae q))) (q:=ae q) (k:=(ae q).length) (m:=QD) (K:=2*QD) (by rw[aD];omega) h.bound (by omega) (by rw[uz];omega) (fun n=>Nat.le_trans (ho.hq.cf (by omega) n) (by omega)) x hx;omega
theorem FA{p q:List ND}{n:Nat}{r s:List Rat}(ho:fh p q)(h:DivPhi p q n r s)(hl:q.length<=r.length):
  IntKind.i64.wrap (((ar r).length:Int)-1)=((r.length-1:Nat):Int)/\IntKind.i64.wrap ((q.length:Int)-1)=((q.length-1:Nat):Int)/\nth NT (ar r) ((r.length-1:Nat):Int)=a8 (ay r)/\nth NT q ((q.length-1:Nat):Int)=a8 (ay (ae q))/\fA (a8 (ay r)) (a8 (ay (ae q))):=by
 have h1:=h.lr;have h2:=ho.l1;have h3:=ho.h0;have h4:=ho.l2;obtain⟨_,_,_,_,_,h5⟩:=JQ ho h hl;refine⟨by rw[ao,cC (by omega)];omega,by rw[cC (by omega)];omega,?_,?_,h5⟩;·rw[zC (by omega),<- b4 (by omega)]
 ·rw[fg ho.hq (by omega),b4 (by rw[aD];omega),aD]
theorem Jm{p q:List ND}(ho:fh p q):max 0 (IntKind.i64.wrap (IntKind.i64.wrap ((p.length:Int)-(q.length:Int))+1))=((p.length+1-q.length:Nat):Int)/\(0:Int)<=((p.length+1-q.length:Nat):Int)/\((p.length+1-q.length:Nat):Int)<=1000:=by
 have h2:=ho.l1;have h4:=ho.l2;rw[wi (x:=(p.length:Int)-(q.length:Int)) (by omega) (by omega),wo];omega
theorem uK{p q:List ND}{n:Nat}{r s:List Rat}(ho:fh p q)(h:DivPhi p q n r s)(hl:q.length<=r.length):(0:Int)<=((r.length-q.length:Nat):Int)/\((r.length-q.length:Nat):Int)<((ar s).length:Int)/\r.length-q.length<(ar s).length:=by
 have h1:=h.lr;have h2:=h.ls;rw[ao,h2];omega
theorem C4{p q:List ND}{n:Nat}{r s:List Rat}(ho:fh p q)(h:DivPhi p q n r s)(hl:q.length<=r.length):((0:Int)<=((r.length-1:Nat):Int)/\((r.length-1:Nat):Int)<((ar r).length:Int))/\r.length-1<(ar r).length/\((0:Int)<=((q.length-1:Nat):Int)/\((q.length-1:Nat):Int)<(q.length:Int))/\fA (a8 (ay r)) (a8 (ay (ae q)))/\bj (a8 (ay (ae q)))≠0:=by
 have h3:=ho.h0;obtain⟨_,_,_,_,h5⟩:=FA ho h hl;rw[ao,aF];exact⟨by omega,by omega,by omega,h5,ho.hl⟩
theorem C5{p q:List ND}{n:Nat}{r s:List Rat}(ho:fh p q)(h:DivPhi p q n r s)(hl:q.length<=r.length){i:Nat}(hi:i<q.length):((0:Int)<=((r.length-q.length+i:Nat):Int)/\((r.length-q.length+i:Nat):Int)<((ar (ck r (r.length-q.length) (-(ay r/ay (ae q))) (ae q) i)).length:Int))/\r.length-q.length+i<(ar (ck r (r.length-q.length) (-(ay r/ay (ae q))) (ae q) i)).length/\
  fA (a8 (ay r/ay (ae q))) (a8 (cf (ae q) i))/\fA (a8 (cf (ck r (r.length-q.length) (-(ay r/ay (ae q))) (ae q) i) (r.length-q.length+i))) (a8 (ay r/ay (ae q)*cf (ae q) i))/\((0:Int)<=((r.length-q.length+i:Nat):Int)/\((r.length-q.length+i:Nat):Int)<((ar (ck r (r.length-q.length) (-(ay r/ay (ae q))) (ae q) i)).length:Int))/\r.length-q.length+i<(ar (ck r (r.length-q.length) (-(ay r/ay (ae q))) (ae q) i)).length:=by
 obtain⟨_,h2,_,_,h5,h6⟩:=Fy ho h hl hi;exact⟨⟨by omega,by omega⟩,h2,h5,h6,⟨by omega,by omega⟩,h2⟩
theorem FB{p q:List ND}{n:Nat}{r s:List Rat}(ho:fh p q){i:Nat}(hi:i<q.length):∃ z:Nat,IntKind.i64.wrap ((i:Int)+1)=(z:Int)/\ar (ck r (r.length-q.length) (-(ay r/ay (ae q))) (ae q) (i+1))=ar (ck r (r.length-q.length) (-(ay r/ay (ae q))) (ae q) z)/\z<=q.length/\q.length-z<q.length-i:=by
 have h4:=ho.l2;exact⟨i+1,by rw[wo];omega,rfl,by omega,by omega⟩
theorem AZ{p q:List ND}{n:Nat}{r s:List Rat}{i:Nat}(hi:i=q.length):ck r (r.length-q.length) (-(ay r/ay (ae q))) (ae q) i=b8 (ae q) r:=by
 unfold b8;rw[aD,hi]
def de:Nat->List Rat->List Rat->List Rat
 |0,p,_=>cD p
 |n+1,p,q=>if q= [] then cD p else de n q (cD (divN p q).2)
def bX(p q:List Rat):List Rat:=de (q.length+1) p q
def Trm(l:List Rat):Prop:=l≠ []->ay l≠0
def qX:Nat->List Rat->List Rat->Prop
 |0,_,_=>True
 |n+1,p,q=>if q= [] then ∀ x∈p,lq x<=QH else qW q (p.length+1) p/\(∀ x∈q,lq x<=QD)/\(∀ x∈(divN p q).2,lq x<=QH)/\qX n q (cD (divN p q).2)
theorem jS:∀ l:List Rat,Trm (aS l)
 | []=>fun h=>absurd rfl h
 |x::l=>by
  intro h;have ih:=jS l;simp only[aS] at h ⊢;split
  ·(rename_i hl;rw[hl] at h;split;·rename_i hx;simp only[hx,if_true,ne_eq,not_true] at h);·rename_i hx;simpa [ay] using hx
  ·rename_i y m hl;rw[hl] at ih;have:=ih (by simp);simpa [ay] using this
theorem qY(q:List Rat):∀ (n:Nat) (r s:List Rat),Trm r->Trm (en q n r s).2
 |0,r,s,h=>h
 |n+1,r,s,h=>by
  rw[en];split;·exact qY q n _ _ (jS _)
  ·exact h
theorem gr{p q:List Rat}(h:Trm p):Trm (divN p q).2:=qY _ _ _ _ h
theorem nx{q:List Rat}(hq:0<q.length)(h0:ay q≠0):∀ (n:Nat) (r s:List Rat),r.length<n->(en q n r s).2.length<q.length
 |0,r,s,h=>absurd h (by omega)
 |n+1,r,s,h=>by
  rw[en];split;·rename_i hl;have:=eF hq hl h0;exact nx hq h0 n _ _ (by omega)
  ·rename_i hl;simp only;omega
theorem dW{p q:List Rat}(hq:0<q.length)(h0:ay q≠0):(divN p q).2.length<q.length:=nx hq h0 _ _ _ (Nat.lt_succ_self _)
theorem bN(l:List Rat):(cD l).length=l.length:=by simp[cD]
theorem zD{l:List Rat}(h:0<l.length):ay (cD l)=ay l/ay l:=by
 rw[b4 (by rw[bN];exact h),bN];conv=>rhs;arg 1;rw[b4 h]
 unfold cD cf;simp only[List.getD_eq_getElem?_getD,List.getElem?_map];rw[List.getElem?_eq_getElem (by omega)];rfl
theorem gu{l:List Rat}(h:Trm l):Trm (cD l):=by
 intro hne;have hl:0<l.length:=by rw[<- bN];exact List.length_pos_iff.2 hne
 have h1:=h (List.length_pos_iff.1 hl);rw[zD hl];grind
structure gG (p q:List ND):Prop where
 hp:∀ x∈p,NOK x
 hq:∀ x∈q,NOK x
 l1:p.length<=900
 l2:q.length<=900
 tp:Trm (ae p)
 tq:Trm (ae q)
 safe:qX (q.length+1) (ae p) (ae q)
structure qZ (p q:List ND) (n:Nat) (a b:List Rat):Prop where
 eq:de n a b=bX (ae p) (ae q)
 fuel:b.length<n
 safe:qX n a b
 ta:Trm a
 tb:Trm b
 la:a.length<=900
 lb:b.length<=900
theorem uL{p:List ND}(h:∀ x∈p,NOK x):ar (ae p)=p:=by
 simp only[ae,ar,List.map_map];conv=>rhs;rw[<- List.map_id p]
 exact List.map_congr_left fun x hx=>h x hx
theorem C6{p q:List ND}(h:gG p q):qZ p q (q.length+1) (ae p) (ae q):=by
 refine⟨?_,by rw[aD];omega,h.safe,h.tp,h.tq,by rw[aD];exact h.l1,by rw[aD];exact h.l2⟩;unfold bX;rw[aD]
theorem gi(l:List Rat):∀ x∈ar l,NOK x:=by
 intro x hx;obtain⟨y,_,rfl⟩:=List.mem_map.1 hx;exact bH y
theorem FC{p q:List ND}{n:Nat}{a b:List Rat}(h:qZ p q n a b)(hb:0<b.length):
  fh (ar a) (ar b)/\mw (ar (divN a b).2)/\(∃ m,qZ p q m b (cD (divN a b).2))/\(cD (divN a b).2).length<b.length:=by
 have hbn:=List.length_pos_iff.1 hb;have h1:=h.safe;have h2:=h.eq;have h3:=h.fuel;have hl:=h.tb hbn;have hs:=dW (p:=a) hb hl;match n,h1,h2,h3 with
 |n+1,h1,h2,h3=>
  rw[qX,if_neg hbn] at h1;rw[de,if_neg hbn] at h2;obtain⟨s1,s2,s3,s4⟩:=h1;have hlb:=h.lb;refine⟨⟨gi _,eE s2,by rw[ao];exact h.la,by rw[ao];exact h.lb,by rw[ao];exact hb,by rw[ax];exact hl,by rw[ax,ax,ao];exact s1⟩,
   ⟨eE s3,by rw[ao];omega,fun hne=> ?_⟩,⟨n,h2,by rw[bN];omega,s4,h.tb,gu (gr h.ta),h.lb,by rw[bN];omega⟩,by rw[bN];exact hs⟩
  rw[ax];exact gr h.ta (fun e=>hne (by rw[e];rfl))
theorem HO{p q:List ND}{n:Nat}{a b:List Rat}(h:qZ p q n a b)(hb: ¬0<b.length):mw (ar a)/\cD a=bX (ae p) (ae q):=by
 have hbn:b= []:=List.eq_nil_of_length_eq_zero (by omega);have h1:=h.safe;have h2:=h.eq;have h3:=h.fuel;match n,h1,h2,h3 with
 |n+1,h1,h2,h3=>
  rw[qX,if_pos hbn] at h1;rw[de,if_pos hbn] at h2;have hla:=h.la;refine⟨⟨eE h1,by rw[ao];omega,fun hne=> ?_⟩,h2⟩;rw[ax];exact h.ta (fun e=>hne (by rw[e];rfl))
def bO(l:List Rat):List Rat:=if l= [] then [] else cD (divN l (bX l (bK l))).1
def jT(p:List ND):Prop:=p≠ []->Sz QH p/\p.length<=900/\gG p (ar (bK (ae p)))/\fh p (ar (bX (ae p) (bK (ae p))))/\mw (ar (divN (ae p) (bX (ae p) (bK (ae p)))).1)
end Go.Cm
end
section
namespace Go.Cm
open Go Go.RowKit
theorem rT{P:Program}(w:World)(dT sT ty elem:TypeId)(g o dLen dCap:Nat)(a:Addr)(sLen sCap:Nat)(cur:Array Value)(t:TypeId)(cs:List Value)(size n:Nat)
  (hu:P.underlying dT=some (.slice elem)) (hs:(P.info? elem).map (·.size)=some size)
  (hg:w.heap[g]? =some (.cells cur t (0,0))) (hn:n=Nat.min sLen dLen) (hl0:cs.length=n*size)
  (hsrc:∀ j v,cs[j]? =some v->w.cell? (a.add j)=some v) (hfit:o+cs.length<=cur.size) (h1:∀ v∈cs,v.oneCell'=true):
  (Builtin.copy_ #[dT,sT] ty #[.slice (some ⟨g,o,none⟩) dLen dCap,.slice (some a) sLen sCap]).run P w=
   .ok (goInt n) (w.setRow g (cur.toList.take o++cs++cur.toList.drop (o+cs.length)).toArray):=by
 have hl:=run_loadCells_list (P:=P) w a cs hsrc;rw[hl0] at hl;have hst:=run_storeCells_at P g o t cs 0 cur w hg (by simpa using hfit) h1;cases hq:P.info? elem with
 |none=>simp[hq] at hs
 |some i=>
  have hi:i.size=size:=by simpa [hq] using hs
  simp[Builtin.copy_,run_underlying hu,Builtin.lenOf,Builtin.firstCells,sizeOf,typeInfo,hq,hi,<- hn,hl,hst]
theorem q0{P:Program}(w:World)(dT sT ty elem:TypeId)(d a:Option Addr)(dLen dCap sLen sCap:Nat)(size:Nat)(hu:P.underlying dT=some (.slice elem))(hs:(P.info? elem).map (·.size)=some size)(hn:Nat.min sLen dLen=0):
  (Builtin.copy_ #[dT,sT] ty #[.slice d dLen dCap,.slice a sLen sCap]).run P w= .ok (goInt 0) w:=by
 cases hq:P.info? elem with
 |none=>simp[hq] at hs
 |some i=>
  have hl:∀ (x:Addr),(loadCells x 0).run P w= .ok #[] w:=fun x=>by simpa using run_loadCells_list (P:=P) w x [] (by simp)
  cases d<;>cases a<;>simp[Builtin.copy_,run_underlying hu,Builtin.lenOf,Builtin.firstCells,sizeOf,typeInfo,hq,hn,storeCells,hl]
theorem sL{P:Program}{w:World}(dT sT ty elem:TypeId)(size:Nat)(hu:P.underlying dT=some (.slice elem))(hsz:(P.info? elem).map (·.size)=some size)
  (dp sp:Option Addr) (dLen dCap sLen sCap n:Nat) (g off:Nat) (cur:List Value) (t:TypeId) (hg:w.heap[g]? =some (.cells cur.toArray t (0,0))) (cs:List Value) (hn:n=Nat.min sLen dLen) (hl:cs.length=n*size)
  (hpos:0<n->dp=some ⟨g,off,none⟩/\∃ ad,sp=some ad/\∀ j v,cs[j]? =some v->w.cell? (ad.add j)=some v)
  (hfit:off+cs.length<=cur.length) (h1:∀ v∈cs,v.oneCell'=true) (B:Nat) (w0:World) (hb:Below B w0 w) (hBg:B<=g):
  ∃ w',(Builtin.copy_ #[dT,sT] ty #[.slice dp dLen dCap,.slice sp sLen sCap]).run P w= .ok (goInt n) w'/\w'.heap[g]? =some (.cells (splice cur off cs).toArray t (0,0))/\Below B w0 w':=by
 by_cases h0:n=0
 ·subst h0;obtain rfl:cs= []:=List.eq_nil_of_length_eq_zero (by simpa using hl);exact⟨w,q0 w dT sT ty elem dp sp dLen dCap sLen sCap size hu hsz hn.symm,by simpa [splice] using hg,hb⟩
 ·obtain⟨rfl,ad,rfl,hsrc⟩:=hpos (by omega);refine⟨_,rT w dT sT ty elem g off dLen dCap ad sLen sCap cur.toArray t cs size n hu hsz hg hn hl hsrc (by simpa using hfit) h1,?_,below_setRow hb hBg _⟩;simpa [splice] using setRow_heap w g _ _ t _ hg
theorem uM{P:Program}{w:World}{ops:Array Oper}{rest:List Oper}{o:Oper}{a:Act}{Q:Exit->Act->World->Prop}(hgd:o.guard=none)(d s:Operand)(dT sT:TypeId)
  (ho:o.op= .call {callee:= .builtin .copy,args:= #[d,s],argTypes:= #[dT,sT]}) (elem:TypeId) (size:Nat) (hu:P.underlying dT=some (.slice elem)) (hsz:(P.info? elem).map (·.size)=some size)
  (dp sp:Option Addr) (dLen dCap sLen sCap n:Nat) (hd:a.eval d= .slice dp dLen dCap) (hs:a.eval s= .slice sp sLen sCap)
  (g off:Nat) (cur:List Value) (t:TypeId) (hg:w.heap[g]? =some (.cells cur.toArray t (0,0))) (cs:List Value) (hn:n=Nat.min sLen dLen) (hl:cs.length=n*size)
  (hpos:0<n->dp=some ⟨g,off,none⟩/\∃ ad,sp=some ad/\∀ j v,cs[j]? =some v->w.cell? (ad.add j)=some v)
  (hfit:off+cs.length<=cur.length) (h1:∀ v∈cs,v.oneCell'=true) (B:Nat) (w0:World) (hb:Below B w0 w) (hBg:B<=g)
  (h:∀ w',Hid (w'.heap[g]? =some (.cells (splice cur off cs).toArray t (0,0)))->Below B w0 w'->wpList P ops Q rest (a.put o.dst (goInt n)) w'):
  wpList P ops Q (o::rest) a w:=by
 refine wpList_plain hgd fun K hK=> ?_;obtain⟨w',hrun,hg',hb'⟩:=sL dT sT o.type elem size hu hsz dp sp dLen dCap sLen sCap n g off cur t hg cs hn hl hpos hfit h1 B w0 hb hBg;unfold Oper.wp;simp[execOp,ho,resolve,invoke,builtin,hd,hs,hrun,Result.andThen];exact hK _ _ (h w' hg' hb')
theorem zE{P:Program}{ops:Array Oper}{o:Oper}{a:Act}{w:World}{K:Act->World->Prop}{Q:Exit->Act->World->Prop}{E:Prop}(hgd:o.guard=none)(d s:Operand)(dT sT:TypeId)
  (ho:o.op= .call {callee:= .builtin .copy,args:= #[d,s],argTypes:= #[dT,sT]}) (elem:TypeId) (size:Nat) (hu:P.underlying dT=some (.slice elem)) (hsz:(P.info? elem).map (·.size)=some size)
  (dp sp:Option Addr) (dLen dCap sLen sCap n:Nat) (hd:a.eval d= .slice dp dLen dCap) (hs:a.eval s= .slice sp sLen sCap)
  (g off:Nat) (cur:List Value) (t:TypeId) (hg:w.heap[g]? =some (.cells cur.toArray t (0,0))) (cs:List Value) (hn:n=Nat.min sLen dLen) (hl:cs.length=n*size)
  (hpos:0<n->dp=some ⟨g,off,none⟩/\∃ ad,sp=some ad/\∀ j v,cs[j]? =some v->w.cell? (ad.add j)=some v)
  (hfit:off+cs.length<=cur.length) (h1:∀ v∈cs,v.oneCell'=true) (B:Nat) (w0:World) (hb:RowKit.Below B w0 w) (hBg:B<=g)
  (h:∀ w',RowKit.Hid (w'.heap[g]? =some (.cells (splice cur off cs).toArray t (0,0)))->RowKit.Below B w0 w'->K (a.put o.dst (goInt n)) w'):
  if Region.wanted o (yielded ops a.tmps)=true then Oper.wp P o a w K Q else E:=by
 have hw:Region.wanted o (yielded ops a.tmps)=true:=by simp[Region.wanted,hgd]
 rw[if_pos hw];obtain⟨w',hrun,hg',hb'⟩:=sL dT sT o.type elem size hu hsz dp sp dLen dCap sLen sCap n g off cur t hg cs hn hl hpos hfit h1 B w0 hb hBg;unfold Oper.wp;simp[execOp,ho,resolve,invoke,builtin,hd,hs,hrun,Result.andThen];exact h w' hg' hb'
def cw(n:Nat)(l:List Value):List Value:=(List.replicate n l).flatten
theorem dX(n:Nat)(l:List Value):(cw n l).length=n*l.length:=by simp[cw]
theorem q8(m n:Nat)(l:List Value):cw (m+n) l=cw m l++cw n l:=by simp only[cw,<- List.flatten_append,List.replicate_append_replicate]
theorem w6{n:Nat}{l:List Value}{v:Value}(h:v∈cw n l):v∈l:=by
 obtain⟨x,hx,hv⟩:=List.mem_flatten.1 h;rw[(List.mem_replicate.1 hx).2] at hv;exact hv
theorem ny{A B:List Value}(hAB:A.length=B.length){n k m:Nat}(hm:m<=n-k):splice (cw k A++cw (n-k) B) (k*A.length) (cw m A)=cw (k+m) A++cw (n-(k+m)) B:=by
 have hl:(cw k A).length=k*A.length:=dX _ _;have e1:(cw k A++cw (n-k) B).take (k*A.length)=cw k A:=by rw[<- hl,List.take_left]
 have e2:(cw k A++cw (n-k) B).drop (k*A.length+(cw m A).length)=cw (n-(k+m)) B:=by
  rw[<- List.drop_drop,<- hl,List.drop_left,dX,show n-k=m+(n-(k+m)) by omega,q8,hAB,<- dX m B,List.drop_left]
 simp only[splice,e1,e2];rw[<- List.append_assoc,<- q8]
end Go.Cm
end
section
namespace Go.Proofs
open Go.Shelf
open Go.RowKit in
def Tryz.laysB145_ren:Go.Shelf.Ren:=⟨fun|145=>131|220=>171|219=>185|217=>198|225=>199|224=>200|267=>201|266=>214|314=>215|n=>n,fun|9=>9|4=>4|59=>154|3=>3|5=>5|46=>122|146=>162|51=>161|n=>n,fun|1=>0|n=>n⟩
theorem Tryz.laysB145:Go.Proofs.Lays.n145 Tryz.prog Tryz.laysB145_ren:={
 mixed:=by kernel_rfl
 f145:=Tryz.func131.trans (congrArg some (by kernel_rfl))
 f217:=Tryz.func198.trans (congrArg some (by kernel_rfl))
 f219:=Tryz.func185.trans (congrArg some (by kernel_rfl))
 f220:=Tryz.func171.trans (congrArg some (by kernel_rfl))
 f224:=Tryz.func200.trans (congrArg some (by kernel_rfl))
 f225:=Tryz.func199.trans (congrArg some (by kernel_rfl))
 f266:=Tryz.func214.trans (congrArg some (by kernel_rfl))
 f267:=Tryz.func201.trans (congrArg some (by kernel_rfl))
 f314:=Tryz.func215.trans (congrArg some (by kernel_rfl))
 t3:=Tryz.underlying3
 a3:=Tryz.isAgg3
 z3:=Tryz.sizeOf3
 v3:=Tryz.zeroValue3
 t4:=Tryz.underlying4
 a4:=Tryz.isAgg4
 z4:=Tryz.sizeOf4
 v4:=Tryz.zeroValue4
 t5:=Tryz.underlying5
 a5:=Tryz.isAgg5
 z5:=Tryz.sizeOf5
 v5:=Tryz.zeroValue5
 t9:=Tryz.underlying9
 a9:=Tryz.isAgg9
 z9:=Tryz.sizeOf9
 v9:=Tryz.zeroValue9
 t46:=Tryz.underlying122
 a46:=Tryz.isAgg122
 z46:=Tryz.sizeOf122
 v46:=Tryz.zeroValue122
 t51:=Tryz.underlying161
 a51:=Tryz.isAgg161
 z51:=Tryz.sizeOf161
 v51:=Tryz.zeroValue161
 t59:=Tryz.underlying154
 a59:=Tryz.isAgg154
 z59:=Tryz.sizeOf154
 v59:=Tryz.zeroValue154
 t146:=Tryz.underlying162
 a146:=Tryz.isAgg162
 z146:=Tryz.sizeOf162
 v146:=Tryz.zeroValue162
 g1:=by kernel_rfl}
open Go.RowKit Go.Lib in
theorem Tryz.strings_Cut(s sep:ByteArray)(m:Int)(w:World)(hs:s.size<4294967281)(hm:w.cell? ⟨0,0,none⟩=some (.int .i64 m)):
  Calls Tryz.prog 131 #[.string s,.string sep] w fun e w'=>e= .returned (.tuple #[.string ⟨(Lib.cut s.data.toList sep.data.toList).1.toArray⟩,.string ⟨(Lib.cut s.data.toList sep.data.toList).2.1.toArray⟩,.bool (Lib.cut s.data.toList sep.data.toList).2.2])/\∃ n,w'=w.drewN n:=Any.strings_Cut Tryz.laysB145 s sep m w hs hm
open Go.RowKit Go.Lib in
open Go.RowKit Go.Lib in
def Tryz.laysB212_ren:Go.Shelf.Ren:=⟨fun|212=>95|263=>137|264=>138|n=>n,fun|46=>122|51=>161|146=>162|53=>164|148=>165|n=>n,fun|n=>n⟩
theorem Tryz.laysB212:Go.Proofs.Lays.n212 Tryz.prog Tryz.laysB212_ren:={
 mixed:=by kernel_rfl
 f212:=Tryz.func95.trans (congrArg some (by kernel_rfl))
 f263:=Tryz.func137.trans (congrArg some (by kernel_rfl))
 f264:=Tryz.func138.trans (congrArg some (by kernel_rfl))
 t46:=Tryz.underlying122
 a46:=Tryz.isAgg122
 z46:=Tryz.sizeOf122
 v46:=Tryz.zeroValue122
 t51:=Tryz.underlying161
 a51:=Tryz.isAgg161
 z51:=Tryz.sizeOf161
 v51:=Tryz.zeroValue161
 t53:=Tryz.underlying164
 a53:=Tryz.isAgg164
 z53:=Tryz.sizeOf164
 v53:=Tryz.zeroValue164
 t146:=Tryz.underlying162
 a146:=Tryz.isAgg162
 z146:=Tryz.sizeOf162
 v146:=Tryz.zeroValue162
 t148:=Tryz.underlying165
 a148:=Tryz.isAgg165
 z148:=Tryz.sizeOf165
 v148:=Tryz.zeroValue165}
open Go.RowKit Go.Lib in
theorem Tryz.bits_Mul(x y:Nat)(hx:x<18446744073709551616)(hy:y<18446744073709551616)(w:World):
  Calls Tryz.prog 95 #[.int .u64 x,.int .u64 y] w fun e w'=>e= .returned (.tuple #[.int .u64 ((x*y/18446744073709551616:Nat):Int),.int .u64 ((x*y%18446744073709551616:Nat):Int)])/\w'=w:=Any.bits_Mul Tryz.laysB212 x y hx hy w
end Go.Proofs
end
section
namespace Go.Proofs
open Go.RowKit Go.Cm Go.Shelf
attribute [local go_sem] Oper.semAt_some
def zc4:List Value:= [.bool false,.slice none 0 0,.bool false,.slice none 0 0]
theorem JR(n:Nat):madeCells (Value.agg zc4.toArray).cells (n*4)=(cw n zc4).toArray:=
 gd (t:=NT) (by decide) (by decide) n
theorem u46{n:Nat}(h:n<=1000):IntKind.u64.wrap (n:Int)=(n:Int):=by
 have h1:(n:Int)<=1000:=by omega
 unfold IntKind.wrap;have e:IntKind.u64.signed=false:=rfl;rw[e];simp only[Bool.false_and,Bool.false_eq_true,if_false];exact Int.emod_eq_of_lt (by omega) (Int.lt_of_le_of_lt h1 (by decide))
set_option maxRecDepth 100000 in
set_option maxHeartbeats 1000000 in
theorem FD(xs:List Value)(h4:xs.length=4)(h1:∀ u∈xs,u.oneCell'=true)(n:Nat)(hn:n<=1000)(b o c:Nat)(w:World)(hc:∀ j v,xs[j]? =some v->w.cell? ⟨b,o+j,none⟩=some v):
  Calls Tryz.prog 112 #[.slice (some ⟨b,o,none⟩) 1 c,.int .i64 n] w fun e w'=>e= .returned (.slice (some ⟨w.heap.size,0,none⟩) n n)/\w'.heap[w.heap.size]? =some (.cells (cw n xs).toArray 91 (0,0))/\Below w.heap.size w w':=by
 have t36:=Tryz.underlying79;have a36:=Tryz.isAgg79;have z36:=Tryz.sizeOf79;have v36:=Tryz.zeroValue79;have t3:=Tryz.underlying3;have a3:=Tryz.isAgg3;have z3:=Tryz.sizeOf3;have v3:=Tryz.zeroValue3;have t84:=Tryz.underlying122;have a84:=Tryz.isAgg122;have z84:=Tryz.sizeOf122;have v84:=Tryz.zeroValue122;have hmul:=fun w=>Tryz.bits_Mul 1 n (by omega) (by omega) w;have e1:1*n/18446744073709551616=0:=by omega
 have e2:1*n%18446744073709551616=n:=by omega
 rw[e1,e2] at hmul;have e64:∀ args w,(callFunc 95 args).run Tryz.prog w= .ok (.enter 95 args) w:=enters_of Tryz.func95 (by kernel_rfl) rfl;have w1:IntKind.u64.wrap (n:Int)=(n:Int):=u46 hn;have w2:IntKind.i64.wrap (n:Int)=(n:Int):=wo;have c1: ¬ (n:Int)<0:=by omega
 have c2: ¬ (9223372036854775807:Int)<(n:Int):=by omega
 obtain⟨i0,hi,hz0,hz1,hz2⟩:=info_parts (show (Tryz.prog.info? 91).map (fun i=>(i.zero,i.size,i.bytes))=some (some (.agg zc4.toArray),4,64) by kernel_rfl);have hs3:(Tryz.prog.info? 91).map (·.size)=some 4:=by rw[hi];simp[hz1]
 have hmk:=run_make (P:=Tryz.prog) w 79 91 i0 (.agg zc4.toArray) t36 hi hz0 .i64 .i64 (n:Int) (n:Int) (by omega) (Int.le_refl _) (by rw[hz2];omega) (by omega);have hmc:madeCells (Value.agg zc4.toArray).cells ((n:Int).toNat*i0.size)=(cw n zc4).toArray:=by
  rw[hz1,Int.toNat_natCast];exact JR n
 rw[hmc,Int.toNat_natCast] at hmk;have hg:(w.alloc (.cells (cw n zc4).toArray 91)).heap[w.heap.size]? =some (.cells (cw n zc4).toArray 91 (0,0)):=by rw[World.alloc_heap_new]
 have hb1:Below w.heap.size w (w.alloc (.cells (cw n zc4).toArray 91)):=(Below.refl _ _).alloc (Nat.le_refl _) _;obtain⟨m0,hm0⟩:∃ m0,m0=min 1 n:=⟨_,rfl⟩;have hm01:m0<=1/\m0<=n/\(m0=0->n=0):=by omega
 have hrl:(cw n zc4).length=n*4:=dX n zc4;have hml:(cw m0 xs).length=m0*4:=by rw[dX,h4]
 have hsrc:∀ j u,(cw m0 xs)[j]? =some u->(w.alloc (.cells (cw n zc4).toArray 91)).cell? (Addr.add ⟨b,o,none⟩ j)=some u:=by
  intro j u hj;have hj1:=(List.getElem?_eq_some_iff.1 hj).1;have hm1:m0=1:=by omega
  rw[hm1,show cw 1 xs=xs by simp[cw]] at hj;have hcj:=hc j u hj;obtain⟨o1,ho1,_⟩:=cells_of_cell hcj;rw[Addr.add_mid];exact(World.cell?_alloc_lt (a:=⟨b,o+j,none⟩) _ _ (Array.getElem?_eq_some_iff.1 ho1).1).trans hcj
 go_enter Tryz.func112,Tryz.ntmps112
 go_wp2_with (first|(go_at_fn 95;refine(hmul _).mono ?_;rintro e w' ⟨rfl,hw'⟩;rw[hw'])|refine uM rfl (.tmp 31) (.tmp 32) 79 79 rfl 91 4 t36 hs3 (some ⟨w.heap.size,0,none⟩) (some ⟨b,o,none⟩) n n 1 c m0 rfl rfl w.heap.size 0 (cw n zc4) 91 hg (cw m0 xs) (by exact hm0) hml (fun _=>⟨rfl,_,rfl,hsrc⟩) (by rw[hml,hrl];omega) (fun u hu=>h1 u (w6 hu)) w.heap.size w hb1 (Nat.le_refl _) ?_;intro w4 hg4 hb4)
 go_loopw [8] (fun s wr=>∃ k:Nat,s= .int .i64 k/\(k=0->n=0)/\k<=n/\wr.heap[w.heap.size]? =some (.cells (cw k xs++cw (n-k) zc4).toArray 91 (0,0))/\Below w.heap.size w wr)
  (fun s _=>n-(intOf s).toNat)
 case atStart=>exact⟨m0,by first|rfl|rw[hm0],hm01.2.2,hm01.2.1,by
  have e:splice (cw 0 xs++cw (n-0) zc4) (0*xs.length) (cw m0 xs)=_:=ny (by rw[h4];rfl) (by omega);simp only[show cw 0 xs= [] by simp[cw],List.nil_append,Nat.sub_zero,Nat.zero_mul,Nat.zero_add] at e;rw[<- e];exact hg4.out,hb4⟩
 case round=>
  obtain⟨k,rfl,hk1,hkn,hgk,hbk⟩:=hrel;by_cases hlt:k<n
  ·(have d1:(k:Int)<(n:Int):=by omega);obtain⟨m,hm⟩:∃ m,m=Nat.min k (n-k):=⟨_,rfl⟩;(have hm2:m<=k/\m<=n-k/\(m=k∨m=n-k):=by rw[hm];show min k (n-k)<=k/\min k (n-k)<=n-k/\(min k (n-k)=k∨min k (n-k)=n-k);omega);(have hkl:(cw k xs).length=k*4:=by rw[dX,h4]);have hzl:(cw (n-k) zc4).length=(n-k)*4:=dX _ _;(have hmm:(cw m xs).length=m*4:=by rw[dX,h4]);have hcp:∀ j u,(cw m xs)[j]? =some u->wr.cell? (Addr.add ⟨w.heap.size,0,none⟩ j)=some u:=by
    intro j u hj;have hj1:=(List.getElem?_eq_some_iff.1 hj).1;have hpre:(cw k xs)[j]? =some u:=by
     rw[show k=m+(k-m) by omega,q8,List.getElem?_append_left hj1];exact hj
    rw[Addr.add_mid,Nat.zero_add];(have hjk:j<(cw k xs).length:=by omega);simp only[World.cell?,hgk];simp[List.getElem?_append_left hjk,hpre]
   (have hfit:k*4+(cw m xs).length<=(cw k xs++cw (n-k) zc4).length:=by rw[List.length_append,hkl,hzl,hmm];omega);have hnk: ¬n=k:=by omega
   go_wp2
   go_region_law (refine zE rfl (.tmp 41) (.tmp 44) 79 79 rfl 91 4 t36 hs3 (some ⟨w.heap.size,k*4,none⟩) (some ⟨w.heap.size,0,none⟩) (n-k) (n-k) k n m (by simp[Act.eval,Act.put]) (by simp[Act.eval,Act.put]) w.heap.size (k*4) _ 91 hgk (cw m xs) hm hmm (fun _=>⟨rfl,_,rfl,hcp⟩) hfit (fun u hu=>h1 u (w6 hu)) w.heap.size w (show Below w.heap.size w wr.drew from⟨hbk.os,hbk.tape,hbk.output,hbk.size,hbk.block⟩) (Nat.le_refl _) ?_;intro w5 hg5 hb5)
   (have hw3:IntKind.i64.wrap ((k:Int)+((k.min (n-k):Nat):Int))=((k+m:Nat):Int):=by rw[<- hm,wo];omega);rw[hw3];simp only[Act.put,List.setIfInBounds_toArray,List.set_cons_succ,List.set_cons_zero,List.getElem_toArray,List.getElem_cons_succ,List.getElem_cons_zero]
   go_roundw
   case rel=>
    refine⟨_,_,_,_,_,_,_,_,_,_,_,_,_,_,⟨k+m,rfl,by omega,by omega,?_,hb5⟩,rfl⟩;have e:splice (cw k xs++cw (n-k) zc4) (k*xs.length) (cw m xs)=_:=ny (by rw[h4];rfl) hm2.2.1;rw[h4] at e;rw[<- e];exact hg5.out
   case measure=>simp[intOf];omega
  ·(have hkk:k=n:=by omega);subst hkk;have d1: ¬ (k:Int)<(k:Int):=by omega
   go_wp2
   go_ret
   exact⟨rfl,by simpa [cw] using hgk,hbk⟩
theorem uN{w w':World}{O:Nat->Prop}{ρ0:Nat->Value}{fr:List Nat}{t:Ty}{T:TypeId}{xs:List t.D}{v:Value}{cells:List Value}(hO:∀ b,O b->b<w.heap.size)(hb:Below w.heap.size w w')(hs:∃ a n c,v= .slice a n c)(hr:∀ H:Nat->Prop,(∀ b,b<w.heap.size->H b->O b)->cq (fun c x=>t.rep H w' c x) cells xs)(hrow:Cm.rowAt (fun b=>w.heap.size<=b) w' T t.w v xs.length cells):
  ∃ (vs':List Value) (ρ1:Nat->Value),Ending.returned v= .returned (ua vs')/\([]:List aG).length=([]:List aG).length/\Bel (fun b=>w.heap.size<=b∨bc ρ0 [] b) w w'/\
   (∀ k,¬ (ioB<=k/\k<ioB+([]:List aG).length/\fr.contains (k-ioB)=true)->ρ1 k=ρ0 k)/\
   bd (ju (cy (hot O ρ1 (aj ioB [])) [RV.own t T xs] vs') w' (fun b=>w.heap.size<=b∨bc ρ0 [] b)) [RV.own t T xs] vs'/\eC [RV.own t T xs] vs'/\
   (∀ p∈aj ioB ([]:List aG),bL (cy (hot O ρ1 (aj ioB [])) [RV.own t T xs] vs') w' ρ1 (fun b=>w.heap.size<=b∨bc ρ0 [] b) p)/\
   ly ρ1 (aj ioB [])/\∀ b,bc ρ1 [] b-> ¬cy (fun _=>False) [RV.own t T xs] vs' b:=by
 have hnew:∀ b,Blk v b->w.heap.size<=b:=by
  intro b hbl;obtain⟨_,⟨rfl,_⟩|⟨g,cap,cur,rfl,hg,_⟩⟩:=hrow;·simp[Blk] at hbl
  ·simp[Blk] at hbl;exact hbl▸hg
 refine⟨[v],ρ0,rfl,rfl,⟨hb.os,hb.tape,hb.output,hb.size,fun k hk _=>hb.block k hk⟩,fun _ _=>rfl,⟨⟨hs,cells,hr _ ?_,?_⟩,trivial⟩,⟨fun _ b _ h=>h,trivial⟩,fun p hp=>by simp[aj] at hp,List.Pairwise.nil,fun b hb=>by simp[bc,aj] at hb⟩
 ·rintro b hlt (⟨_,h⟩|(h|⟨p,hp,_⟩));·have:=hnew b h;omega
  ·exact h
  ·simp[aj] at hp
 ·obtain⟨h1,h2⟩:=hrow;refine⟨h1,h2.imp_right ?_⟩;rintro⟨g,cap,cur,e1,e2,e3⟩;exact⟨g,cap,cur,e1,.inl e2,e3⟩
def eL:Con:=fun l os=>match l,os with
 | [.z (.slice (.st (.pair (.st (.pair .bool (.slice (.int .u32)))) (.st (.pair .bool (.slice (.int .u32))))))) [x],.z (.int .i64) n],[]=>some (0<=n/\n<=1000,[.own tyN 91 (List.replicate n.toNat x)],[])
 |_,_=>none
theorem HP{n:Int}(h:0<=n/\n<=1000):∃ m:Nat,n=m/\m<=1000:=⟨n.toNat,by omega,by omega⟩
theorem sM{B:ah}(hB:aA B):Valid B Tryz.prog 112 eL:=by
 intro args os C rs os' hc hC O w vals ρ0 hOn hIo hO hOI hargs hown hap;unfold eL at hc;split at hc;case h_2=>cases hc
 rename_i x n;cases hc;obtain⟨u,z,rfl,hu,hz⟩:=qo hargs;rw[bg hz];obtain⟨m,rfl,h2⟩:=HP hC;obtain⟨cells,hr,h⟩:=gn hu;have hl:=bm (fun c x h=>NT.rep_length h) hr;rcases h with⟨_,h0,_⟩|⟨ad,c,rfl,hc⟩;·simp at h0
 have h4:cells.length=4:=hl;obtain⟨c0,d0,rfl,hr0,hd0⟩:=hr;obtain rfl:d0= []:=hd0;rw[List.append_nil] at h4 hc;obtain⟨b,o,sp⟩:=ad;have hcell:w.cell? ⟨b,o,sp⟩=some (c0[0]'(by omega)):=by
  have:=hc 0 (c0[0]'(by omega)) (by simp);simpa [Addr.add] using this
 obtain rfl:sp=none:=by
  cases sp with
  |none=>rfl
  |some _=>simp only[World.cell?] at hcell;split at hcell<;>simp at hcell
 refine(FD c0 h4 (Ty.rep_oneCell NT hr0) m h2 b o c w (fun j v hj=>by have:=hc j v hj;rwa [Addr.add_mid] at this)).mono fun e w' ⟨he,hw,hb⟩=> ?_;subst he;rw[Int.toNat_natCast];refine uN hO hb ⟨_,_,_,rfl⟩ (cells:=cw m c0) (fun H hH=>dL ?_ m) ?_;·exact Ty.rep_move (t:=NT) (fun b hlt hb=> .inl (hH b hlt hb)) (fun b _ hlt=>hb.block b (cH hlt)) hr0
 ·rw[List.length_replicate];refine⟨by rw[dX,h4];rfl,.inr ⟨_,m,_,rfl,Nat.le_refl _,hw,Nat.le_refl _,by unfold maxLen;omega,?_,?_⟩⟩;·simp[dX,h4];exact Nat.le_refl _
  ·rw[List.toList_toArray];exact List.take_of_length_le (by rw[dX,h4];exact Nat.le_refl _)
attribute [local go_sem] Oper.semAt_some
def zN:ND:=((false,[]),(false,[]))
def iE(xs:List ND)(k:Nat):List LV:= [.z (.int .i64) ((xs.length:Int)-1-k),.z NT (xs.getD (xs.length-1-k) zN)]
def bC(xs:List ND):List (List LV):=(List.range xs.length).map (iE xs)
set_option maxRecDepth 100000 in
set_option maxHeartbeats 2000000 in
theorem FE(F:Fence)(h7:F.fn 125)(hro:F.round=none)(l Bs oB b off len cap:Nat)(cs:Nat->List Value)(h4:∀ j,j<len->(cs j).length=4)(hbig:len<=maxLen)(J:Nat->World->Prop)(Jx:World->Prop)(Kp:World->World->Prop)
  (W:World) (hBs:W.cell? ⟨Bs,oB,none⟩=some (.slice (some ⟨b,off,none⟩) len cap)) (hc:∀ j,j<len->∀ i,i<4->W.cell? ⟨b,off+j*4+i,none⟩=(cs j)[i]?)
  (hKp:∀ A B,Kp A B->(∃ o:Obj,A.heap[Bs]? =some o/\o.isCells=true)->((0<len)->∃ o:Obj,A.heap[b]? =some o/\o.isCells=true)->B.heap[Bs]? =A.heap[Bs]? /\(0<len->B.heap[b]? =A.heap[b]?))
  (hY:∀ k W1,J k W1->k<len->YieldAt F 0 Tryz.prog l #[.int .i64 ((len:Int)-1-k),.agg (cs (len-1-k)).toArray] W1 fun e W'=>(e= .returned (.bool true)/\J (k+1) W'/\Kp W1 W')∨(e= .returned (.bool false)/\Jx W'))
  (h0:J 0 W):
  CallsIn F 1 Tryz.prog 125 #[.func (.yield l) #[] #[],.pointer (some ⟨Bs,oB,none⟩)] W fun e W'=>(∃ v,e= .returned v)/\(J len W'∨Jx W'):=by
 unfold maxLen at hbig;refine callsIn_of_wp Tryz.func125 rfl h7 ?_ hro;simp only[Tryz.ntmps125,List.size_toArray,List.length_cons,List.length_nil,Nat.reduceAdd,Nat.reduceSub,Array.replicate_succ,Array.replicate_zero,List.push_toArray,List.append_toArray,List.nil_append,List.cons_append]
 gi_wp2
 gi_loopw [3] (fun i wr=>∃ k:Nat,k<=len/\i= .int .i64 ((len:Int)-1-k)/\J k wr/\wr.heap[Bs]? =W.heap[Bs]? /\(0<len->wr.heap[b]? =W.heap[b]?))
  (fun i _=>(intOf i+1).toNat)
 case atStart=>exact⟨0,Nat.zero_le _,by simp,h0,rfl,fun _=>rfl⟩
 case round=>
  obtain⟨k,hk,rfl,hJs,hn1,hn2⟩:=hrel;have hB1:wr.cell? ⟨Bs,oB,none⟩=some (.slice (some ⟨b,off,none⟩) len cap):=(World.cell?_of_block (a:=⟨Bs,oB,none⟩) hn1).trans hBs;by_cases hlt:k<len
  ·(have hge:0<=(len:Int)-1-k:=by omega);(have htn:((len:Int)-1-k).toNat=len-1-k:=by omega);(have hup:(len:Int)-1-k<len:=by omega);have hci:∀ i,i<4->wr.cell? ⟨b,off+(len-1-k)*4+i,none⟩=(cs (len-1-k))[i]? :=fun i hi=>(World.cell?_of_block (a:=⟨b,off+(len-1-k)*4+i,none⟩) (hn2 (by omega))).trans (hc _ (by omega) i hi);have hlk:=h4 (len-1-k) (by omega);obtain⟨x0,x1,x2,x3,hx⟩:∃ x0 x1 x2 x3,cs (len-1-k)= [x0,x1,x2,x3]:=by
    match h:cs (len-1-k),hlk with
    | [x0,x1,x2,x3],_=>exact⟨_,_,_,_,rfl⟩
   have hc0:wr.cell? ⟨b,off+(len-1-k)*4+0,none⟩=some x0:=(hci 0 (by omega)).trans (by rw[hx];rfl);have hcx:=hc0;have hload:=cW (P:=Tryz.prog) (Go.Proofs.YtdojbabpnaifoaaGreatDoor.ty91) (w:=wr) (b:=b) (o:=off+(len-1-k)*4) (cells:=cs (len-1-k)) (by rw[hlk];rfl) (fun j hj=>hci j (by omega));have hcB:∃ o:Obj,wr.heap[Bs]? =some o/\o.isCells=true:=cells_of_cell hB1;have hcb:∃ o:Obj,wr.heap[b]? =some o/\o.isCells=true:=cells_of_cell hcx;have hYk:=hY k wr hJs hlt;rw[hx] at hYk hload;obtain⟨fn,tmps,assign,body,hy,hR⟩:=hYk
   gi_wp2
   refine hR.mono ?_;rintro e W3 (⟨rfl,hJ3,hk3⟩|⟨rfl,hJx3⟩)
   ·obtain⟨e1,e2⟩:=hKp _ _ hk3 hcB (fun _=>hcb)
    gi_wp2
    go_roundw
    (case rel=>exact⟨k+1,by omega,by congr 1;omega,hJ3,e1.trans hn1,fun h=>(e2 h).trans (hn2 h)⟩);case measure=>simp[intOf];omega
   ·gi_wp2
    refine bodyPost_ret (results_none rfl _ _ _) rfl ?_;exact⟨⟨_,rfl⟩,.inr hJx3⟩
  ·(have hk2:k=len:=by omega);(have hng: ¬0<=(len:Int)-1-k:=by omega);rw[hk2] at hJs;clear hk2
   gi_wp2
   go_end0
   exact⟨⟨_,rfl⟩,.inl hJs⟩
set_option maxRecDepth 100000 in
set_option maxHeartbeats 2000000 in
theorem sN(F:Fence)(h7:F.fn 125)(hro:F.round=none)(l Bs oB:Nat)(J:World->Prop)(W:World)(a:Option Addr)(cap:Nat)(hBs:W.cell? ⟨Bs,oB,none⟩=some (.slice a 0 cap))(h0:J W):
  CallsIn F 1 Tryz.prog 125 #[.func (.yield l) #[] #[],.pointer (some ⟨Bs,oB,none⟩)] W fun e W'=>(∃ v,e= .returned v)/\J W':=by
 refine callsIn_of_wp Tryz.func125 rfl h7 ?_ hro;simp only[Tryz.ntmps125,List.size_toArray,List.length_cons,List.length_nil,Nat.reduceAdd,Nat.reduceSub,Array.replicate_succ,Array.replicate_zero,List.push_toArray,List.append_toArray,List.nil_append,List.cons_append]
 gi_wp2
 gi_loopw [3] (fun i wr=>i= .int .i64 (-1)/\wr=W) (fun i _=>(intOf i+1).toNat)
 case atStart=>exact⟨rfl,rfl⟩
 case round=>
  obtain⟨rfl,rfl⟩:=hrel
  gi_wp2
  go_end0
  exact⟨⟨_,rfl⟩,h0⟩
theorem jU{H:Nat->Prop}{w:World}{b o:Nat}{c:Value}(h:cY H w b o [c]):w.cell? ⟨b,o,none⟩=some c/\b<w.heap.size/\ ¬H b:=
 ⟨by have:=h.2 0 (by simp);simpa using this,h.lt (by simp),h.1 (by simp)⟩
theorem sO(xs:List ND):lF Tryz.prog 125 2 [.z (.ptr (.slice NT)) xs] (bC xs):=by
 refine⟨enters_of Tryz.func125 (by kernel_rfl) rfl,?_,?_⟩;·intro it hit;obtain⟨k,_,rfl⟩:=List.mem_map.1 hit;exact⟨rfl,rfl⟩
 ·intro H w lb hH hcap;obtain⟨v,rfl⟩:∃ v,lb= [v]:=by
   match lb,hcap with
   | [v],_=>exact⟨v,rfl⟩
   |_::_::_,h=>exact h.2.elim
  obtain⟨hag,bB,oB,cells,hv,hsl,hlies⟩:=hcap.1;have hv2:v= .pointer (some ⟨bB,oB,none⟩):=by
   have hone:=b6 (v:=v) (by cases v<;>first|rfl|(simp[Ty.isAgg] at hag));rw[hone] at hv;simpa using hv
  subst hv2;have hlen:(bC xs).length=xs.length:=by simp[bC]
  rcases hsl with⟨rfl,rfl⟩|⟨b,o,p,cap,cs,rfl,hp,h1,h2,h3,h4⟩;·refine⟨fun k=> #[],fun k hk=>by simp[bC] at hk,?_⟩;intro l J Jx W hb _ _ _ _ hY h0;obtain⟨c1,c2,c3⟩:=jU hlies;exact(sN (fw none) trivial rfl l bB oB (J 0) W none 0 ((hb.cell (p:=⟨bB,oB,none⟩) c2).trans c1) h0).mono (fun e W' h=>⟨h.1,.inl h.2⟩)
  ·have hcl:cs.length=xs.length*4:=bm (fun c x h=>NT.rep_length h) h3;have hone:∀ j,j<xs.length->((cs.drop (j*4)).take 4).length=4:=by
    intro j hj;rw[List.length_take,List.length_drop,hcl];omega
   refine⟨fun k=> #[.int .i64 ((xs.length:Int)-1-k),.agg ((cs.drop ((xs.length-1-k)*4)).take 4).toArray],fun k hk=> ?_,?_⟩
   ·rw[hlen] at hk;have hg:=eR (fun c x h=>NT.rep_length h) h3 (xs.length-1-k) (by omega);simp only[bC,List.getElem_map,List.getElem_range];refine⟨bE (ρ:=fun _=>undef),?_,trivial⟩;have hx:xs.getD (xs.length-1-k) zN=xs[xs.length-1-k]'(by omega):=by
     rw[List.getD_eq_getElem?_getD,List.getElem?_eq_getElem (by omega)];rfl
    rw[hx];exact fD (t:=NT) hg (fun h=>by cases h) (fun h=>by cases h)
   ·(intro l J Jx W hb _ _ _ _ hY h0;rw[hlen] at hY ⊢;obtain⟨c1,c2,c3⟩:=jU hlies;by_cases hnil:xs= [];·subst hnil;exact(sN (fw none) trivial rfl l bB oB (J 0) W (some ⟨b,o,p⟩) cap ((hb.cell (p:=⟨bB,oB,none⟩) c2).trans c1) h0).mono (fun e W' h=>⟨h.1,.inl h.2⟩));obtain rfl:=hp hnil;(have hne:0<xs.length->cs≠ []:=fun h e=>by rw[e] at hcl;simp at hcl;omega);refine FE (fw none) trivial rfl l bB oB b o xs.length cap (fun j=>(cs.drop (j*4)).take 4) hone (Nat.le_trans h1 h2) J Jx (wc H w.heap.size) W ((hb.cell (p:=⟨bB,oB,none⟩) c2).trans c1) (fun j hj i hi=> ?_) (fun A B hk hA1 hA2=>⟨hk bB c2 c3 hA1,fun h=>hk b (h4.lt (hne h)) (h4.1 (hne h)) (hA2 h)⟩) hY h0;(have hj':j*4+i<cs.length:=by rw[hcl];omega);rw[Nat.add_assoc,hb.cell (p:=⟨b,o+(j*4+i),none⟩) (h4.lt (hne (by omega))),h4.2 (j*4+i) hj'];rw[List.getElem?_take,if_pos hi,List.getElem?_drop]
end Go.Proofs
end
section
namespace Go.Cm
open Go.Proofs
theorem w7{p:List ND}{k i:Nat}(h:Sz k p)(hi:i<p.length):p.getD i zN=a8 (cf (ae p) i):=by
 rw[<- fg h hi,fU (t:=NT) hi,List.getD_eq_getElem?_getD,List.getElem?_eq_getElem hi];rfl
theorem w8{p:List ND}{k:Nat}(hk:k<p.length):p.length-1-k<p.length:=by omega
theorem zF(p:List ND)(x:Rat):0=aO (List.drop (p.length-0) (ae p)) x:=by
 rw[Nat.sub_zero,List.drop_of_length_le (by rw[aD];exact Nat.le_refl _)];rfl
theorem zG{p:List ND}{x:Rat}{k:Nat}(hk:k<p.length):aO (List.drop (p.length-(k+1)) (ae p)) x=aO (List.drop (p.length-k) (ae p)) x*x+cf (ae p) (p.length-1-k):=by
 rw[List.drop_eq_getElem_cons (by rw[aD];omega),show p.length-(k+1)+1=p.length-k by omega];have e:(ae p)[p.length-(k+1)]'(by rw[aD];omega)=cf (ae p) (p.length-1-k):=by
  unfold cf;rw[List.getD_eq_getElem?_getD,show p.length-1-k=p.length-(k+1) by omega,List.getElem?_eq_getElem (by rw[aD];omega)];rfl
 rw[e];rfl
theorem C7{p:List ND}{x:ND}{k:Nat}(hC:Sz QM p/\p.length<=100/\NOK x/\lq (bj x)<=QM)(hk:k<p.length){v:Rat}(hz:v=aO (List.drop (p.length-k) (ae p)) (bj x)):fA (a8 v) x/\fA (a8 (v*bj x)) (a8 (cf (ae p) (p.length-1-k))):=by
 obtain⟨h1,h2,h3,h4⟩:=hC;have e:QM=400000000:=rfl;have e2:QC=100000000000:=rfl;have hl:=uI (l:=List.drop (p.length-k) (ae p)) (x:=bj x) (K:=QM) (fun c hc=>by
  have hc':=List.mem_of_mem_drop hc;obtain⟨y,hy,rfl⟩:=List.mem_map.1 hc';exact(h1 y hy).2) h4
 rw[<- hz,List.length_drop,aD] at hl;have hm:=qG v (bj x);have hc:=h1.cf (by omega) (p.length-1-k);have h5:(p.length-(p.length-k))*(2*QM+1)<=100*(2*QM+1):=Nat.mul_le_mul_right _ (by omega);exact⟨⟨bH _,h3,by rw[aF];omega⟩,bH _,bH _,by rw[aF,aF];omega⟩
theorem FF(p:List ND)(x:Rat):aO (List.drop (p.length-(bC p).length) (ae p)) x=aO (ae p) x:=by
 rw[show (bC p).length=p.length by simp[bC],Nat.sub_self,List.drop_zero]
def q9(s b:List Rat)(c:Rat):List Rat:=bw (· + ·) (b9 s b) (aS [c])
def fY(p b:List Rat):Nat->List Rat
 |0=> []
 |k+1=>q9 (fY p b k) b (cf p (p.length-1-k))
def jt(p b:List Rat):List Rat:=fY p b p.length
def zH(s b:List ND)(c:ND):Prop:=Sz QM s/\Sz QM b/\s.length<=100/\b.length<=100/\NOK c/\lq (bj c)<=QM/\Sz QH (ar (b9 (ae s) (ae b)))
def uO(p b:List ND):Prop:=Sz QM p/\p.length<=100/\∀ k,k<p.length->zH (ar (fY (ae p) (ae b) k)) b (a8 (cf (ae p) (p.length-1-k)))
theorem ra(p q:List Rat):(b9 p q).length<=p.length+q.length:=by
 unfold b9;split;·simp
 ·rw[dy];omega
theorem C8{s b:List ND}{c:ND}(h:zH s b c):(Sz QM s/\Sz QM b/\s.length<=100/\b.length<=100)/\(Sz QC [c]/\ [c].length<=QL)/\Sz QH (ar (b9 (ae s) (ae b)))/\Sz QH (ar (aS (ae [c])))/\(ar (b9 (ae s) (ae b))).length<=1000/\(ar (aS (ae [c]))).length<=1000:=by
 obtain⟨h1,h2,h3,h4,h5,h6,h7⟩:=h;have e:QM=400000000:=rfl;have e2:QC=100000000000:=rfl;have e3:QH=40000000000:=rfl;refine⟨⟨h1,h2,h3,h4⟩,⟨fun x hx=> ?_,by simp[QL]⟩,h7,eE fun x hx=> ?_,?_,?_⟩;·simp only[List.mem_singleton] at hx;subst hx;exact⟨h5,by omega⟩
 ·have:x=bj c:=by
   (simp only[ae,List.map_cons,List.map_nil,aS] at hx;split at hx;·simp at hx);·simpa using hx
  rw[this];omega
 ·rw[ao];have:=ra (ae s) (ae b);rw[aD,aD] at this;omega
 ·rw[ao];have:=gq (ae [c]);rw[aD] at this;simp only[List.length_cons,List.length_nil] at this;omega
theorem FG(x:Rat)(i k:Nat):x^(i+k)=x^i*x^k:=by
 induction k with
 |zero=>rw[Nat.add_zero,Rat.pow_zero,Rat.mul_one]
 |succ k ih=>rw[<- Nat.add_assoc,Rat.pow_succ,Rat.pow_succ,ih,Rat.mul_assoc]
theorem dY(x:Rat):aO [] x=0:=rfl
theorem cB(c:Rat)(l:List Rat)(x:Rat):aO (c::l) x=aO l x*x+c:=rfl
theorem uP(c x:Rat):aO [c] x=c:=by rw[cB,dY];grind
theorem sP(l m:List Rat)(x:Rat):aO (l++m) x=aO l x+x^l.length*aO m x:=by
 induction l with
 |nil=>simp only[List.nil_append,dY,List.length_nil];grind
 |cons c l ih=>simp only[List.cons_append,cB,ih,List.length_cons];grind
theorem FH(n:Nat)(x:Rat):aO (List.replicate n 0) x=0:=by
 induction n with
 |zero=>rfl
 |succ n ih=>rw[List.replicate_succ,cB,ih];grind
theorem lQ(l:List Rat)(x:Rat):aO (aS l) x=aO l x:=by
 induction l with
 |nil=>rfl
 |cons c l ih=>
  rw[cB,<- ih];simp only[aS];split
  ·(rename_i h;rw[h];split;·rename_i h0;rw[h0,dY];grind);·rw[uP,dY];grind
  ·rename_i y m h;rw[h,cB]
theorem FI(l:List Rat)(j:Nat)(y x:Rat)(h:j<l.length):aO (l.set j y) x=aO l x+(y-cf l j)*x^j:=by
 induction l generalizing j with
 |nil=>simp at h
 |cons c l ih=>
  cases j with
  |zero=>simp only[List.set_cons_zero,cB,cf,List.getD_cons_zero];grind
  |succ j=>
   simp only[List.set_cons_succ,cB];rw[ih j (by simpa using h)];(have:cf (c::l) (j+1)=cf l j:=by simp[cf]);rw[this];grind
theorem uQ(l:List Rat)(k:Nat)(x:Rat)(h:k<l.length):aO (l.take (k+1)) x=aO (l.take k) x+cf l k*x^k:=by
 rw[List.take_succ_eq_append_getElem h,sP,uP,List.length_take,Nat.min_eq_left (by omega)];unfold cf;rw[List.getD_eq_getElem?_getD,List.getElem?_eq_getElem h];simp only[Option.getD_some];grind
theorem FJ(out:List Rat)(i:Nat)(a:Rat)(q:List Rat)(x:Rat):∀ k,k<=q.length->i+k<=out.length->aO (ck out i a q k) x=aO out x+a*x^i*aO (q.take k) x
 |0,_,_=>by simp only[ck,List.take_zero,dY];grind
 |k+1,hk,h=>by
  rw[ck,FI _ _ _ _ (by rw[gF];omega),FJ out i a q x k (by omega) (by omega),uQ q k x (by omega)];have:x^(i+k)=x^i*x^k:=FG _ _ _;rw[this];grind
theorem rb(out:List Rat)(i:Nat)(a:Rat)(q:List Rat)(x:Rat)(h:i+q.length<=out.length):aO (ck out i a q q.length) x=aO out x+a*x^i*aO q x:=by
 rw[FJ _ _ _ _ _ _ (Nat.le_refl _) h,List.take_length]
theorem A0(p q:List Rat)(x:Rat)(hq:0<q.length):∀ i,i<=p.length->aO (mulN p q i) x=aO (p.take i) x*aO q x
 |0,_=>by rw[mulN,FH,List.take_zero,dY];grind
 |i+1,h=>by
  rw[mulN,rb _ _ _ _ _ (by rw[dy];omega),A0 p q x hq i (by omega),uQ p i x (by omega)];grind
theorem zI(p q:List Rat)(x:Rat):aO (b9 p q) x=aO p x*aO q x:=by
 unfold b9;split;·rename_i h;rcases h with h|h<;>(subst h;simp only[dY];grind)
 ·rename_i h;have hq:0<q.length:=List.length_pos_iff.2 fun e=>h (.inr e);rw[A0 p q x hq _ (Nat.le_refl _),List.take_length]
theorem jV(f:Nat->Rat)(x:Rat):∀ n,aO ((List.range (n+1)).map f) x=aO ((List.range n).map f) x+f n*x^n:=by
 intro n;rw[List.range_succ,List.map_append,sP];simp only[List.map_cons,List.map_nil,uP,List.length_map,List.length_range];grind
theorem eg{l:List Rat}{i:Nat}(h:l.length<=i):cf l i=0:=by
 unfold cf;rw[List.getD_eq_getElem?_getD,List.getElem?_eq_none h];rfl
theorem lR(l:List Rat)(x:Rat):∀ n,l.length<=n->aO ((List.range n).map (cf l)) x=aO l x:=by
 have h0:∀ n,n<=l.length->aO ((List.range n).map (cf l)) x=aO (l.take n) x:=by
  intro n;induction n with
  |zero=>intro _;rfl
  |succ n ih=>intro h;rw[jV,ih (by omega),uQ l n x (by omega)]
 intro n;induction n with
 |zero=>intro h;rw[h0 0 (by omega),show l= [] from List.eq_nil_of_length_eq_zero (by omega)];rfl
 |succ n ih=>
  intro h;by_cases h2:l.length<=n;·rw[jV,ih h2,eg h2];grind
  ·rw[h0 _ (by omega),List.take_of_length_le (by omega)]
theorem sQ(l m:List Rat)(x:Rat):∀ n,aO (bT (· + ·) l m n) x=aO ((List.range n).map (cf l)) x+aO ((List.range n).map (cf m)) x
 |0=>by simp only[bT,List.range_zero,List.map_nil,dY];grind
 |n+1=>by
  have:=sQ l m x n;unfold bT at this ⊢;rw[jV,jV,jV,this];grind
theorem sR(l m:List Rat)(x:Rat):∀ n,aO (bT (· - ·) l m n) x=aO ((List.range n).map (cf l)) x-aO ((List.range n).map (cf m)) x
 |0=>by simp only[bT,List.range_zero,List.map_nil,dY];grind
 |n+1=>by
  have:=sR l m x n;unfold bT at this ⊢;rw[jV,jV,jV,this];grind
theorem FK(l m:List Rat)(x:Rat):aO (bw (· + ·) l m) x=aO l x+aO m x:=by
 rw[bw,lQ,sQ,lR _ _ _ (by omega),lR _ _ _ (by omega)]
theorem uR(l m:List Rat)(x:Rat):aO (bw (· - ·) l m) x=aO l x-aO m x:=by
 rw[bw,lQ,sR,lR _ _ _ (by omega),lR _ _ _ (by omega)]
theorem FL:∀ {l:List Rat},l≠ []->ay l≠0->∃ d X:Rat,0<d/\1<=X/\∀ x,X<=x->d<=(aO l x).abs
 | [],h,_=>absurd rfl h
 | [c],_,h=>by
  refine⟨c.abs,1,?_,by grind,fun x _=>by rw[uP];grind⟩;have:ay [c]=c:=rfl;rw[this] at h;unfold Rat.abs;split<;>grind
 |c::a::l,_,h=>by
  obtain⟨d,X,h1,h2,h3⟩:=FL (l:=a::l) (by simp) (by simpa [ay] using h);refine⟨d,max X ((d+c.abs)/d),h1,by grind,fun x hx=> ?_⟩;have h4:=h3 x (by grind);have h5:(d+c.abs)/d<=x:=by grind
  have h6:d+c.abs<=x*d:=by
   have:=Rat.mul_le_mul_of_nonneg_right h5 (Rat.le_of_lt h1);rwa [Rat.div_mul_cancel (by grind)] at this
  have h7:1<=x:=by grind
  have h8:x*d<=x*(aO (a::l) x).abs:=Rat.mul_le_mul_of_nonneg_left h4 (by grind);rw[cB];generalize aO (a::l) x=v at*;have h9:(v*x).abs=x*v.abs:=by
   by_cases hv:0<=v
   ·rw[Rat.abs_of_nonneg hv,Rat.abs_of_nonneg (Rat.mul_nonneg hv (by grind))];grind
   ·have h11:0<= -v*x:=Rat.mul_nonneg (by grind) (by grind);rw[Rat.abs_of_nonpos (by grind),Rat.abs_of_nonpos (by grind)];grind
  have h10:(v*x).abs<=(v*x+c).abs+c.abs:=by
   unfold Rat.abs;split<;>split<;>split<;>grind
  grind
theorem HQ{l:List Rat}(h:Trm l)(h0:∀ x,aO l x=0):l= []:=by
 by_cases hn:l= []
 ·exact hn
 ·obtain⟨d,X,h1,h2,h3⟩:=FL hn (h hn);have:=h3 X (by grind);rw[h0 X] at this;rw[Rat.abs_zero] at this;grind
theorem kX(op:Rat->Rat->Rat)(l m:List Rat)(n i:Nat)(h:i<n):cf (bT op l m n) i=op (cf l i) (cf m i):=by
 unfold bT;conv=>lhs;unfold cf
 rw[List.getD_eq_getElem?_getD,List.getElem?_map,List.getElem?_range h];rfl
theorem A1(l:List Rat)(i:Nat):cf (aS l) i=cf l i:=by
 induction l generalizing i with
 |nil=>rfl
 |cons c l ih=>
  simp only[aS];split
  ·rename_i h;rw[h] at ih;(have h0:∀ j,cf l j=0:=fun j=>by rw[<- ih j];simp[cf]);split
   ·rename_i hc;cases i with
    |zero=>simp[cf,hc]
    |succ i=>have:=h0 i;simp only[cf,List.getD_cons_succ] at this ⊢;rw[this];simp
   ·cases i with
    |zero=>simp[cf]
    |succ i=>have:=h0 i;simp only[cf,List.getD_cons_succ] at this ⊢;rw[this];simp
  ·rename_i y m h;rw[h] at ih;cases i with
   |zero=>simp[cf]
   |succ i=>have:=ih i;simp only[cf,List.getD_cons_succ] at this ⊢;exact this
theorem Jn{l m:List Rat}(hl:Trm l)(hm:Trm m)(h:∀ i,cf l i=cf m i):l=m:=by
 have hlen:∀ {l m:List Rat},Trm l->(∀ i,cf l i=cf m i)->l.length<=m.length:=by
  intro l m hl h;by_cases hn:l= [];·subst hn;simp
  ·have hp:=List.length_pos_iff.2 hn;have h1:=hl hn;rw[b4 hp,h] at h1;have: ¬m.length<=l.length-1:=fun e=>h1 (eg e);omega
 have e:l.length=m.length:=Nat.le_antisymm (hlen hl h) (hlen hm fun i=>(h i).symm);apply List.ext_getElem e;intro i h1 h2;have:=h i;unfold cf at this;rw[List.getD_eq_getElem?_getD,List.getD_eq_getElem?_getD,List.getElem?_eq_getElem h1,List.getElem?_eq_getElem h2] at this;exact this
theorem mz{l m:List Rat}(hl:Trm l)(hm:Trm m)(h:∀ x,aO l x=aO m x):l=m:=by
 have h0:bw (· - ·) l m= []:=HQ (jS _) fun x=>by rw[uR,h];grind
 refine Jn hl hm fun i=> ?_;by_cases hi:i<max l.length m.length
 ·have h1:=A1 (bT (· - ·) l m (max l.length m.length)) i;rw[show aS (bT (· - ·) l m (max l.length m.length))= [] from h0,kX _ _ _ _ _ hi] at h1;have:cf [] i=0:=by simp[cf]
  rw[this] at h1;grind
 ·rw[eg (by omega),eg (by omega)]
theorem uS:Trm []:=fun h=>absurd rfl h
theorem iF{l:List Rat}(h:Trm l):aS l=l:=by
 by_cases hn:l= []
 ·subst hn;rfl
 ·exact qN hn (h hn)
theorem gv(op:Rat->Rat->Rat)(l m:List Rat):Trm (bw op l m):=jS _
theorem fB(op:Rat->Rat->Rat)(l m:List Rat):(bw op l m).length<=max l.length m.length:=by
 have:=gq (bT op l m (max l.length m.length));rw[fL] at this;exact this
theorem sS(p q:List Rat)(hq:0<q.length):∀ i,i<=p.length->∀ n,i+q.length<=n+1->cf (mulN p q i) n=0
 |0,_,n,_=>by
  rw[mulN];unfold cf;rw[List.getD_eq_getElem?_getD];by_cases h:n<p.length+q.length-1;·rw[List.getElem?_replicate,if_pos h];rfl
  ·rw[List.getElem?_eq_none (by simp;omega)];rfl
 |i+1,h,n,hn=>by
  rw[mulN,jc _ _ _ _ _ _ (by rw[dy];omega),if_neg (by omega)];exact sS p q hq i (by omega) n (by omega)
theorem FM{p q:List Rat}(hp:0<p.length)(hq:0<q.length):ay (mulN p q p.length)=ay p*ay q:=by
 obtain⟨n,hn⟩:∃ n,p.length=n+1:=⟨p.length-1,by omega⟩;rw[b4 (by rw[dy];omega),dy,hn,mulN,jc _ _ _ _ _ _ (by rw[dy];omega),if_pos (by omega),sS p q hq n (by omega) _ (by omega:n+q.length<=(n+1+q.length-1-1)+1)];rw[b4 hp,b4 hq,hn];have e1:n+1+q.length-1-1-n=q.length-1:=by omega
 have e2:n+1-1=n:=by omega
 rw[e1,e2];grind
theorem uT{p q:List Rat}(hp:p≠ [])(hq:q≠ []):b9 p q=mulN p q p.length:=by
 unfold b9;rw[if_neg];rintro(h|h);·exact hp h
 ·exact hq h
theorem gY{p q:List Rat}(hp:p≠ [])(hq:q≠ []):(b9 p q).length=p.length+q.length-1:=by
 rw[uT hp hq,dy]
theorem fC(q:List Rat):b9 [] q= []:=by unfold b9;rw[if_pos (.inl rfl)]
theorem kY(p:List Rat):b9 p []= []:=by unfold b9;rw[if_pos (.inr rfl)]
theorem C9{p q:List Rat}(hp:p≠ [])(hq:q≠ []):ay (b9 p q)=ay p*ay q:=by
 rw[uT hp hq,FM (List.length_pos_iff.2 hp) (List.length_pos_iff.2 hq)]
theorem lS{p q:List Rat}(hp:Trm p)(hq:Trm q):Trm (b9 p q):=by
 intro h;by_cases h1:p= [];·subst h1;exact absurd (fC q) h
 by_cases h2:q= []
 ·subst h2;exact absurd (kY p) h
 rw[C9 h1 h2];have:=hp h1;have:=hq h2;grind
theorem zJ{q r:List Rat}(h:q.length<=r.length)(x:Rat):aO (aS (b8 q r)) x=aO r x-(ay r/ay q)*x^(r.length-q.length)*aO q x:=by
 rw[lQ,b8,rb _ _ _ _ _ (by omega)];grind
theorem w9{q:List Rat}(hq:0<q.length)(h0:ay q≠0)(x:Rat):∀ (n:Nat) (r s:List Rat),r.length<n->(∀ i,i+q.length<=r.length->cf s i=0)->r.length+1-q.length<=s.length->
  aO (en q n r s).1 x*aO q x+aO (en q n r s).2 x=aO s x*aO q x+aO r x
 |0,r,s,h,_,_=>absurd h (by omega)
 |n+1,r,s,h,hz,hs=>by
  rw[en];split;·rename_i hl;have h1:=eF hq hl h0;rw[w9 hq h0 x n _ _ (by omega) (fun i hi=>by rw[Fs,if_neg (by omega)];exact hz i (by omega)) (by rw[List.length_set];omega)];rw[zJ hl,FI _ _ _ _ (by omega),hz _ (by omega)];grind
  ·rfl
theorem A2{p q:List Rat}(hq:q≠ [])(h0:Trm q)(x:Rat):aO (divN p q).1 x*aO q x+aO (divN p q).2 x=aO p x:=by
 unfold divN;rw[w9 (List.length_pos_iff.2 hq) (h0 hq) x _ _ _ (Nat.lt_succ_self _) (fun i _=> ?_) (by simp),FH];·grind
 ·unfold cf;rw[List.getD_eq_getElem?_getD,List.getElem?_replicate];split<;>rfl
theorem zK{q s t r u:List Rat}(hq:q≠ [])(tq:Trm q)(ts:Trm s)(tt:Trm t)(tr:Trm r)(tu:Trm u)(hr:r.length<q.length)(hu:u.length<q.length)
  (h:∀ x,aO s x*aO q x+aO r x=aO t x*aO q x+aO u x):s=t/\r=u:=by
 have h1:b9 (bw (· - ·) s t) q=bw (· - ·) u r:=mz (lS (gv _ _ _) tq) (gv _ _ _) fun x=>by
  rw[zI,uR,uR];have:=h x;grind
 have h2:bw (· - ·) s t= []:=by
  by_cases hd:bw (· - ·) s t= []
  ·exact hd
  ·have:=gY hd hq;rw[h1] at this;have h3:=fB (· - ·) u r;have h4:=List.length_pos_iff.2 hd;omega
 have h3:s=t:=mz ts tt fun x=>by have:=uR s t x;rw[h2,dY] at this;grind
 refine⟨h3,mz tr tu fun x=> ?_⟩;have:=h x;rw[h3] at this;grind
theorem xb{p q s r:List Rat}(hq:q≠ [])(tp:Trm p)(tq:Trm q)(ts:Trm s)(tr:Trm r)(hr:r.length<q.length)(h:∀ x,aO s x*aO q x+aO r x=aO p x):
  aS (divN p q).1=s/\(divN p q).2=r:=
 zK hq tq (jS _) ts (gr tp) tr (dW (List.length_pos_iff.2 hq) (tq hq)) hr fun x=>by rw[lQ,A2 hq tq,h]
end Go.Cm
end