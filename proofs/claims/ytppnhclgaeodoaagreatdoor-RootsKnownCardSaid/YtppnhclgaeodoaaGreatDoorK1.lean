/- Merged by a program out of several texts. -/
import Derived.WalkKit
import Derived.WalkSpells
import Derived.RangeFuncFrom
import Derived.RangeFuncLeaves
import Derived.OrdersIn
import Derived.TacticsIn
import Derived.Deep.LoopGhost
import Derived.Deep.MidRow
import Derived.Laws.IdiomStrings
import Derived.Great.BuildSlice
import Derived.Deep.AppendSrc
set_option linter.all false
set_option linter.unusedSimpArgs false
set_option linter.unusedVariables false
set_option maxRecDepth 100000
open Array renaming getElem?_eq_some_iff→BY,getD_eq_getD_getElem?→O1,length_toList→PT,ext'→Qk,getElem?_setIfInBounds→QS,size_append→Sh,toList_append→SL
open Array.mk renaming injEq→Q0
open Bool renaming and_eq_true→N9,or_eq_true→OT,or_false→RC
open Go.IntKind renaming i64→IN
open Int renaming toNat_of_nonneg→OL,natCast_mul→Q7
open List renaming getElem?_eq_getElem→AI,mem_cons→IS,replicate→N6,eq_nil_of_length_eq_zero→N7,length_take→Of,getElem?_eq_some_iff→Oh,take_of_length_le→Oj,length_append→Ol,length_drop→Om,length_cons→Oo,mem_append→Oq,drop_zero→Oy,getElem?_eq_none→OA,take_length→OD,mem_cons_of_mem→OF,length_nil→OO,size_toArray→OQ,getElem?_append_left→OU,pairwise_cons→OW,nil_append→OY,drop_eq_getElem_cons→O0,append_assoc→O4,map_cons→O6,mem_of_getElem?→O9,range→Pa,mem_singleton→Ph,take_succ_cons→Pn,getElem?_map→Pp,getElem?_take_of_lt→PD,mem_cons_self→PE,drop_drop→PH,foldl_cons→PQ,length_set→PR,getD→PY,mem_replicate→P0,getElem_cons_zero→P8,getElem_cons_succ→P9,replicate_succ→Qd,getElem?_drop→Qj,set_eq_take_append_cons_drop→Qq,drop_eq_nil_of_le→Qs,take_zero→Qt,getElem?_append_right→Qu,replicate_append_replicate→QE,getElem?_set→Ra,take_left→Rh,drop_append→Rj,any_cons→RB,drop_left→RH,drop_take→RI,flatten_append→R5,flatten_cons→Sf,take_append→Su,take_take→TC,range'→Ua
open List.cons renaming injEq→P5
open Nat renaming le_refl→Oa,mul_le_mul_right→Oc,le_trans→Og,zero_add→Oz,lt_of_lt_of_le→OC,succ_mul→O7,mul_le_mul_left→Po,min_eq_left→Pq,add_mul→PS,add_sub_cancel_left→PZ,add_zero→Qr,add_assoc→QX,zero_mul→Q8,mul_comm→Q9,lt_irrefl→Rc,not_le→SU,add_comm→Tk
open Option renaming isSome_iff_exists→OR,map_some→Pj,map_eq_some_iff→Se,map→TU
open Option.some renaming injEq→PV
section
namespace Go.Cm
open Go.RowKit
inductive Ty where
 |int (k:IntKind)
 |bool
 |str
 |unit
 |pair (a b:Ty)
 |st (t:Ty)
 |arr (n:Nat) (t:Ty)
 |slice (t:Ty)
 |ptr (t:Ty)
 |opt (t:Ty)
 |func
 deriving DecidableEq
@[reducible] def Ty.D:Ty->Type
 | .int _=>Int
 | .bool=>Bool
 | .str=>List UInt8
 | .unit=>Unit
 | .pair a b=>a.D×b.D
 | .st t=>t.D
 | .arr _ t=>List t.D
 | .slice t=>List t.D
 | .ptr t=>t.D
 | .opt t=>Option t.D
 | .func=>Unit
def Ty.w:Ty->Nat
 | .unit=>0
 | .pair a b=>a.w+b.w
 | .st t=>t.w
 | .arr n t=>n*t.w
 |_=>1
def Ty.isAgg:Ty->Bool
 | .st _| .arr _ _=>true
 |_=>false
def cC{α:Type}(R:List Value->α->Prop):List Value->List α->Prop
 |cs,[]=>cs=[]
 |cs,x::xs=>∃c d,cs=c++d/\R c x/\cC R d xs
def dB(H:Nat->Prop)(w:World)(b o:Nat)(cells:List Value):Prop:=
 (cells≠[]-> ¬H b)/\∀j,j<cells.length->w.cell? ⟨b,o+j,none⟩=cells[j]?
def Ty.rep(H:Nat->Prop)(w:World):(t:Ty)->List Value->t.D->Prop
 | .int k,cs,x=>cs=[.int k x]
 | .bool,cs,x=>cs=[.bool x]
 | .str,cs,x=>cs=[.string ⟨x.toArray⟩]
 | .unit,cs,_=>cs=[]
 | .pair a b,cs,x=>∃c d,cs=c++d/\a.rep H w c x.1/\b.rep H w d x.2
 | .st t,cs,x=>t.rep H w cs x
 | .arr n t,cs,x=>x.length=n/\cC (fun c y=>t.rep H w c y) cs x
 | .slice t,cs,xs=>(cs=[.slice none 0 0]/\xs=[])∨
   ∃b o p cap cells,cs=[.slice (some ⟨b,o,p⟩) xs.length cap]/\(xs≠[]->p=none)/\xs.length<=cap/\cap<=maxLen/\
    cC (fun c y=>t.rep H w c y) cells xs/\dB H w b o cells
 | .ptr t,cs,x=>∃b o cells,cs=[.pointer (some ⟨b,o,none⟩)]/\t.rep H w cells x/\dB H w b o cells
 | .func,cs,_=>cs=[.nilFunc]
 | .opt t,cs,x=>match x with
   |none=>cs=[.pointer none]
   |some y=>∃b o cells,cs=[.pointer (some ⟨b,o,none⟩)]/\t.rep H w cells y/\dB H w b o cells
def aW(H:Nat->Prop)(w w':World):Prop:=∀b,¬H b->(∃o:Obj,w.heap[b]? =some o/\o.isCells=true)->w'.heap[b]? =w.heap[b]?
theorem cg{w:World}{b:Nat}(h:∃o:Obj,w.heap[b]? =some o/\o.isCells=true):b<w.heap.size:=by
 obtain⟨o,h,_⟩:=h;exact(BY.1 h).1
theorem aW.refl(H:Nat->Prop)(w:World):aW H w w:=fun _ _ _=>rfl
theorem dB.lt{H:Nat->Prop}{w:World}{b o:Nat}{cells:List Value}(h:dB H w b o cells)(hne:cells≠[]):b<w.heap.size:=by
 cases cells with
 |nil=>exact absurd rfl hne
 |cons c cs=>
  have:=h.2 0 (by simp);exact block_lt_of_cell (a:=⟨b,o+0,none⟩) (v:=c) (by simpa using this)
theorem dB.isCells{H:Nat->Prop}{w:World}{b o:Nat}{cells:List Value}(h:dB H w b o cells)(hne:cells≠[]):∃o:Obj,w.heap[b]? =some o/\o.isCells=true:=by
 cases cells with
 |nil=>exact absurd rfl hne
 |cons c cs=>
  have:=h.2 0 (by simp);exact cells_of_cell (a:=⟨b,o+0,none⟩) (v:=c) (by simpa using this)
theorem dB.stays{H:Nat->Prop}{w w':World}{b o:Nat}{cells:List Value}(h:dB H w b o cells)(hs:aW H w w'):dB H w' b o cells:=by
 refine⟨h.1,fun j hj=>?_⟩;have hne:cells≠[]:=by intro e;simp[e] at hj
 have:=hs b (h.1 hne) (h.isCells hne);rw[<- h.2 j hj];exact World.cell?_of_block (a:=⟨b,o+j,none⟩) this
theorem dB.hot{H H':Nat->Prop}{w:World}{b o:Nat}{cells:List Value}(h:dB H w b o cells)(hh:∀b,b<w.heap.size->H' b->H b):dB H' w b o cells:=
 ⟨fun hne hb=>h.1 hne (hh b (h.lt hne) hb),h.2⟩
theorem iz{α:Type}{R R':List Value->α->Prop}:∀{xs:List α} {cs:List Value},(∀c x,x∈xs->R c x->R' c x)->cC R cs xs->cC R' cs xs
 | [],_,_,h=>h
 |x::xs,_,hR,⟨c,d,e,h1,h2⟩=>⟨c,d,e,hR c x (by simp) h1,iz (fun c y hy=>hR c y (by simp[hy])) h2⟩
theorem Ty.rep_stays{H:Nat->Prop}{w w':World}(hs:aW H w w'):∀(t:Ty) {cs:List Value} {x:t.D},t.rep H w cs x->t.rep H w' cs x
 | .int _,_,_,h=>h
 | .bool,_,_,h=>h
 | .str,_,_,h=>h
 | .func,_,_,h=>h
 | .unit,_,_,h=>h
 | .pair a b,_,_,⟨c,d,e,h1,h2⟩=>⟨c,d,e,a.rep_stays hs h1,b.rep_stays hs h2⟩
 | .st t,_,_,h=>t.rep_stays hs (cs:=_) h
 | .arr _ t,_,_,⟨hl,h⟩=>⟨hl,iz (fun _ _ _ h=>t.rep_stays hs h) h⟩
 | .slice t,_,_,h=>by
  rcases h with h|⟨b,o,p,cap,cells,e,hp,h1,h2,h3,h4⟩;·exact .inl h
  ·exact .inr ⟨b,o,p,cap,cells,e,hp,h1,h2,iz (fun _ _ _ h=>t.rep_stays hs h) h3,h4.stays hs⟩
 | .ptr t,_,_,⟨b,o,cells,e,h1,h2⟩=>⟨b,o,cells,e,t.rep_stays hs h1,h2.stays hs⟩
 | .opt t,_,x,h=>by
  cases x with
  |none=>exact h
  |some y=>obtain⟨b,o,cells,e,h1,h2⟩:=h;exact⟨b,o,cells,e,t.rep_stays hs h1,h2.stays hs⟩
theorem Ty.rep_hot{H H':Nat->Prop}{w:World}(hh:∀b,b<w.heap.size->H' b->H b):∀(t:Ty) {cs:List Value} {x:t.D},t.rep H w cs x->t.rep H' w cs x
 | .int _,_,_,h=>h
 | .bool,_,_,h=>h
 | .str,_,_,h=>h
 | .func,_,_,h=>h
 | .unit,_,_,h=>h
 | .pair a b,_,_,⟨c,d,e,h1,h2⟩=>⟨c,d,e,a.rep_hot hh h1,b.rep_hot hh h2⟩
 | .st t,_,_,h=>t.rep_hot hh (cs:=_) h
 | .arr _ t,_,_,⟨hl,h⟩=>⟨hl,iz (fun _ _ _ h=>t.rep_hot hh h) h⟩
 | .slice t,_,_,h=>by
  rcases h with h|⟨b,o,p,cap,cells,e,hp,h1,h2,h3,h4⟩;·exact .inl h
  ·exact .inr ⟨b,o,p,cap,cells,e,hp,h1,h2,iz (fun _ _ _ h=>t.rep_hot hh h) h3,h4.hot hh⟩
 | .ptr t,_,_,⟨b,o,cells,e,h1,h2⟩=>⟨b,o,cells,e,t.rep_hot hh h1,h2.hot hh⟩
 | .opt t,_,x,h=>by
  cases x with
  |none=>exact h
  |some y=>obtain⟨b,o,cells,e,h1,h2⟩:=h;exact⟨b,o,cells,e,t.rep_hot hh h1,h2.hot hh⟩
theorem bu{α:Type}{R:List Value->α->Prop}{n:Nat}(hR:∀c x,R c x->c.length=n):∀{xs:List α} {cs:List Value},cC R cs xs->cs.length=xs.length*n
 | [],_,h=>by simp[cC] at h;simp[h]
 |x::xs,_,⟨c,d,e,h1,h2⟩=>by
  rw[e,Ol,hR c x h1,bu hR h2,Oo,O7,Tk]
theorem Ty.rep_length{H:Nat->Prop}{w:World}:∀(t:Ty) {cs:List Value} {x:t.D},t.rep H w cs x->cs.length=t.w
 | .int _,_,_,h=>by rw[show _=_ from h];rfl
 | .bool,_,_,h=>by rw[show _=_ from h];rfl
 | .str,_,_,h=>by rw[show _=_ from h];rfl
 | .func,_,_,h=>by rw[show _=_ from h];rfl
 | .unit,_,_,h=>by rw[show _=_ from h];rfl
 | .pair a b,_,_,⟨c,d,e,h1,h2⟩=>by rw[e,Ol,a.rep_length h1,b.rep_length h2];rfl
 | .st t,_,_,h=>t.rep_length (cs:=_) h
 | .arr n t,_,_,⟨hl,h⟩=>by rw[bu (fun _ _ h=>t.rep_length h) h,hl];rfl
 | .slice t,_,_,h=>by
  rcases h with⟨e,_⟩|⟨b,o,p,cap,cells,e,_⟩<;>rw[e]<;>rfl
 | .ptr t,_,_,⟨b,o,cells,e,h1,h2⟩=>by rw[e];rfl
 | .opt t,_,x,h=>by
  cases x with
  |none=>rw[show _=_ from h];rfl
  |some y=>obtain⟨b,o,cells,e,h1,h2⟩:=h;rw[e];rfl
theorem fu{α:Type}{R:List Value->α->Prop}:∀{xs ys:List α} {cs ds:List Value},cC R cs xs->cC R ds ys->cC R (cs++ds) (xs++ys)
 | [],_,_,_,h,h'=>by simp[cC] at h;simpa [h] using h'
 |x::xs,_,_,_,⟨c,d,e,h1,h2⟩,h'=>⟨c,d++_,by rw[e,O4],h1,fu h2 h'⟩
theorem FD{α:Type}{R:List Value->α->Prop}{c:List Value}{x:α}(h:R c x):cC R c [x]:=⟨c,[],by simp,h,rfl⟩
theorem fH{α:Type}{R:List Value->α->Prop}{n:Nat}(hR:∀c x,R c x->c.length=n):∀{xs:List α} {cs:List Value},cC R cs xs->∀i (h:i<xs.length),R ((cs.drop (i*n)).take n) xs[i]
 |x::xs,_,⟨c,d,e,h1,h2⟩,0,_=>by
  rw[e];simp only[Q8,Oy,P8];rw[<- hR c x h1,Rh];exact h1
 |x::xs,_,⟨c,d,e,h1,h2⟩,i+1,h=>by
  have hi:i<xs.length:=by simpa using h
  have:=fH hR h2 i hi;rw[e];simp only[P9];have hd:(c++d).drop ((i+1)*n)=d.drop (i*n):=by
   rw[O7,Tk,<- PH,<- hR c x h1,RH]
  rw[hd];exact this
theorem lz{α:Type}{R:List Value->α->Prop}{n:Nat}(hR:∀c x,R c x->c.length=n):∀(i:Nat) {xs:List α} {cs:List Value},cC R cs xs->cC R (cs.drop (i*n)) (xs.drop i)
 |0,_,_,h=>by simpa using h
 |i+1,[],_,h=>by simp[cC] at h;simp[h,cC]
 |i+1,x::xs,_,⟨c,d,e,h1,h2⟩=>by
  have:=lz hR i h2;rw[e];have hd:(c++d).drop ((i+1)*n)=d.drop (i*n):=by
   rw[O7,Tk,<- PH,<- hR c x h1,RH]
  rw[hd];simpa using this
theorem ju{α:Type}{R:List Value->α->Prop}{n:Nat}(hR:∀c x,R c x->c.length=n):∀(i:Nat) {xs:List α} {cs:List Value},cC R cs xs->cC R (cs.take (i*n)) (xs.take i)
 |0,_,_,h=>by simp[cC]
 |i+1,[],_,h=>by simp[cC] at h;simp[h,cC]
 |i+1,x::xs,_,⟨c,d,e,h1,h2⟩=>by
  have:=ju hR i h2;rw[e];have hd:(c++d).take ((i+1)*n)=c++d.take (i*n):=by
   rw[O7,Tk,<- hR c x h1,Su];simp[Oj]
  rw[hd];exact⟨c,d.take (i*n),rfl,h1,this⟩
theorem qE{α:Type}{R:List Value->α->Prop}{n:Nat}(hR:∀c x,R c x->c.length=n){xs:List α}{cs:List Value}(h:cC R cs xs)(i:Nat)(hi:i<xs.length){c:List Value}{x:α}(hc:R c x):
  cC R (cs.take (i*n)++(c++cs.drop ((i+1)*n))) (xs.set i x):=by
 rw[Qq];simp only[hi,if_true];exact fu (ju hR i h) ⟨c,_,rfl,hc,lz hR (i+1) h⟩
theorem eC{α:Type}{R:List Value->α->Prop}{c:List Value}{x:α}(h:R c x):∀n,cC R (N6 n c).flatten (N6 n x)
 |0=>rfl
 |n+1=>⟨c,(N6 n c).flatten,by simp[Qd],h,eC h n⟩
abbrev tyW:Ty:=.st (.pair .bool (.slice (.int .u32)))
abbrev tyN:Ty:=.st (.pair tyW tyW)
abbrev tyP:Ty:=.slice tyN
end Go.Cm
end
section
namespace Go.Cm
inductive CV where
 |z (t:Ty) (x:t.D)
 |p (id:Nat)
inductive LV where
 |z (t:Ty) (x:t.D)
 |ownS (id:Nat)
 |ownP (id off:Nat)
 |ownE (id w i:Nat)
 |ownW (id w i:Nat)
 |ownM (id:Nat)
 |ownA (id i:Nat)
 |ownR (id j:Nat)
 |ownB (id j w k:Nat)
 |fn (f:FuncId) (caps:List CV)
 |val (v:Value)
 |junk
def ioB:Nat:=10000000
inductive AV where
 |l (x:LV)
 |agg (cs:List LV)
 |tup (xs:List LV)
 |g (φ:Bool) (x:LV)
 |gt (φ:Bool) (xs:List LV)
inductive aB where
 |box (T:TypeId) (cs:List LV)
 |arr (t:Ty) (T:TypeId) (xs:List t.D)
 |win (t:Ty) (T:TypeId) (pre xs post:List t.D)
 |que (t:Ty) (T:TypeId) (xs:List t.D)
 |mat (t:Ty) (T E:TypeId) (rows:List (Option (List t.D))) (idx:List (Option Nat))
structure aa where
 env:List (Nat×AV)
 own:List (Nat×aB)
inductive RV where
 |z (t:Ty) (x:t.D)
 |val (v:Value)
 |own (t:Ty) (T:TypeId) (xs:List t.D)
 |fn (f:FuncId) (caps:List CV)
abbrev Con:=List LV->List aB->Option (Prop×List RV×List aB)
structure av where
 n:Nat
 heap:Nat->Option Obj
structure Tab where
 types:List (TypeId×Ty)
 elems:List (TypeId×TypeId)
 cons:List (FuncId×Con)
 io:List (FuncId×List Nat):=[]
 hint:List Nat
 N:Nat
 keep:List Nat:=[]
 free:List Nat:=[]
 frees:List (FuncId×List Nat):=[]
 base:av:=⟨0,fun _=>none⟩
 globs:List (Nat×List Int):=[]
 pins:List (Nat×(Value×TypeId)):=[]
def Tab.mayMove(T:Tab)(id:Nat):Bool:=id<ioB||T.free.contains id
def Tab.ok(T:Tab)(d:Nat):Bool:=d<T.N&& !T.keep.contains d
theorem Tab.ok_lt{T:Tab}{d:Nat}(h:T.ok d=true):d<T.N:=by
 simp only[Tab.ok,N9,decide_eq_true_eq] at h;exact h.1
def get?{α:Type}:List (Nat×α)->Nat->Option α
 | [],_=>none
 |(k,x)::r,n=>if k=n then some x else get? r n
def del{α:Type}:List (Nat×α)->Nat->List (Nat×α)
 | [],_=>[]
 |(k,x)::r,n=>if k=n then del r n else (k,x)::del r n
def upd{α:Type}:List (Nat×α)->Nat->α->List (Nat×α)
 | [],_,_=>[]
 |(k,x)::r,n,y=>if k=n then (k,y)::r else (k,x)::upd r n y
def aa.put(s:aa)(d:Nat)(v:AV):aa:={s with env:=(d,v)::del s.env d}
def bytesOf(s:List UInt8):List Int:=s.map fun b=>(b.toNat:Int)
def strOf(xs:List Int):List UInt8:=xs.map fun n=>UInt8.ofNat n.toNat
def ez:Value->LV
 | .int k n=> .z (.int k) n
 | .bool b=> .z .bool b
 | .string s=> .z .str s.data.toList
 |v=> .val v
def aP(s:aa):Operand->Option AV
 | .tmp t=>get? s.env t
 | .const v=>some (.l (ez v))
 | .func f=>some (.l (.val (.func (.func f) #[] #[])))
 | .global g=>some (.l (.val (.pointer (some ⟨g,0,none⟩))))
def Ty.fieldTy:Nat->Ty->Ty
 |0,.pair a _=>a
 |0,t=>t
 |n+1,.pair _ b=>b.fieldTy n
 |_+1,t=>t
def Ty.fieldOf:(n:Nat)->(t:Ty)->t.D->(t.fieldTy n).D
 |0,.pair _ _,x=>x.1
 |0,.int _,x|0,.bool,x|0,.str,x|0,.unit,x|0,.st _,x|0,.arr _ _,x|0,.slice _,x|0,.ptr _,x|0,.opt _,x|0,.func,x=>x
 |n+1,.pair _ b,x=>b.fieldOf n x.2
 |_+1,.int _,x|_+1,.bool,x|_+1,.str,x|_+1,.unit,x|_+1,.st _,x|_+1,.arr _ _,x|_+1,.slice _,x|_+1,.ptr _,x|_+1,.opt _,x|_+1,.func,x=>x
def Ty.fields:Ty->List Ty
 | .pair a b=>a::b.fields
 | .unit=>[]
 |t=>[t]
def Ty.fieldOff:Nat->Ty->Nat
 |n+1,.pair a b=>a.w+b.fieldOff n
 |_,_=>0
def Ty.zero:(t:Ty)->Option t.D
 | .int _=>some (0:Int)
 | .bool=>some false
 | .str=>some []
 | .unit=>some ()
 | .pair a b=>match a.zero,b.zero with
  |some x,some y=>some (x,y)
  |_,_=>none
 | .st t=>t.zero
 | .arr n t=>match t.zero with
  |some x=>some (N6 n x)
  |none=>none
 | .slice _=>some []
 | .ptr _=>none
 | .opt _=>some none
 | .func=>none
def Ty.zeroCells:Ty->List Value
 | .int k=>[.int k 0]
 | .bool=>[.bool false]
 | .str=>[.string ⟨#[]⟩]
 | .unit=>[]
 | .pair a b=>a.zeroCells++b.zeroCells
 | .st t=>t.zeroCells
 | .arr n t=>(N6 n t.zeroCells).flatten
 | .slice _=>[.slice none 0 0]
 | .ptr _=>[.pointer none]
 | .opt _=>[.pointer none]
 | .func=>[.nilFunc]
def Ty.dflt:(t:Ty)->t.D
 | .int _=>(0:Int)
 | .bool=>false
 | .str=>[]
 | .unit=>()
 | .pair a b=>(a.dflt,b.dflt)
 | .st t=>t.dflt
 | .arr _ _=>[]
 | .slice _=>[]
 | .ptr t=>t.dflt
 | .opt _=>none
 | .func=>()
def nth(t:Ty)(xs:List t.D)(i:Int):t.D:=xs.getD i.toNat t.dflt
def Ty.cells:(t:Ty)->t.D->List LV
 | .int k,x=>[.z (.int k) x]
 | .bool,x=>[.z .bool x]
 | .str,x=>[.z .str x]
 | .unit,_=>[]
 | .pair a b,x=>a.cells x.1++b.cells x.2
 | .st t,x=>t.cells x
 | .arr _ t,x=>x.flatMap t.cells
 | .slice t,x=>[.z (.slice t) x]
 | .ptr t,x=>[.z (.ptr t) x]
 | .opt t,x=>[.z (.opt t) x]
 | .func,_=>[.val .nilFunc]
def LV.cells:LV->Option (List LV)
 | .z t x=>some (t.cells x)
 | .val v=>if v.oneCell' then some [.val v] else none
 | .junk=>none
 |v=>some [v]
def AV.cells:AV->Option (List LV)
 | .l x=>x.cells
 | .agg cs=>some cs
 |_=>none
def gO:Value->Bool
 | .slice a n c=>a.isNone&&n==0&&c==0
 |_=>false
def isNilP:Value->Bool
 | .pointer a=>a.isNone
 |_=>false
def LV.get(t:Ty):LV->Option t.D
 | .z u x=>if h:u=t then some (h▸x) else none
 | .val v=>match t with
  | .slice _=>if gO v then some [] else none
  | .opt _=>if isNilP v then some none else none
  |_=>none
 |_=>none
def iU{α:Type}(f:List LV->Option (α×List LV)):Nat->List LV->Option (List α×List LV)
 |0,l=>some ([],l)
 |n+1,l=>match f l with
  |some (x,l)=>match iU f n l with
   |some (xs,l)=>some (x::xs,l)
   |none=>none
  |none=>none
def Ty.join:(t:Ty)->List LV->Option (t.D×List LV)
 | .unit,l=>some ((),l)
 | .pair a b,l=>match a.join l with
  |some (x,l)=>match b.join l with
   |some (y,l)=>some ((x,y),l)
   |none=>none
  |none=>none
 | .st t,l=>t.join l
 | .arr n t,l=>iU t.join n l
 | .func,_=>none
 | .int k,c::l=>match c.get (.int k) with
  |some x=>some (x,l)
  |none=>none
 | .bool,c::l=>match c.get .bool with
  |some x=>some (x,l)
  |none=>none
 | .str,c::l=>match c.get .str with
  |some x=>some (x,l)
  |none=>none
 | .slice t,c::l=>match c.get (.slice t) with
  |some x=>some (x,l)
  |none=>none
 | .ptr t,c::l=>match c.get (.ptr t) with
  |some x=>some (x,l)
  |none=>none
 | .opt t,c::l=>match c.get (.opt t) with
  |some x=>some (x,l)
  |none=>none
 |_,[]=>none
def AV.get(t:Ty):AV->Option t.D
 | .l x=>x.get t
 | .agg cs=>match t.isAgg,t.join cs with
  |true,some (x,[])=>some x
  |_,_=>none
 |_=>none
def LV.names:LV->Bool
 | .z _ _=>false
 |_=>true
def CV.isOf(id:Nat):CV->Bool
 | .p i=>i==id
 | .z _ _=>false
def CV.lv:CV->LV
 | .z t x=> .z t x
 | .p id=> .ownP id 0
def LV.isOf(id:Nat):LV->Bool
 | .ownS i| .ownP i _| .ownE i _ _| .ownW i _ _| .ownM i| .ownA i _| .ownR i _| .ownB i _ _ _=>i==id
 | .fn _ caps=>caps.any (CV.isOf id)
 |_=>false
def dD(t:Ty)(cs:List LV):Option AV:=
 match t.isAgg with
 |true=>match cs.any LV.names,t.join cs with
  |false,some (x,[])=>some (.l (.z t x))
  |_,_=>some (.agg cs)
 |false=>match cs with
  | [c]=>some (.l c)
  |_=>none
def dE(op:BinOp)(k:IntKind)(a:Int)(k':IntKind)(b:Int):Option (Prop×LV):=
 match op with
 | .shl=>some (0<=b,.z (.int k) (k.wrap (a*2^(min b.toNat k.bits))))
 | .shr=>some (0<=b,.z (.int k) (a.fdiv (2^(min b.toNat k.bits))))
 | .add=>if k=k' then some (True,.z (.int k) (k.wrap (a+b))) else none
 | .sub=>if k=k' then some (True,.z (.int k) (k.wrap (a-b))) else none
 | .mul=>if k=k' then some (True,.z (.int k) (k.wrap (a*b))) else none
 | .quo=>if k=k' then some (b≠0,.z (.int k) (k.wrap (a.tdiv b))) else none
 | .rem=>if k=k' then some (b≠0,.z (.int k) (a.tmod b)) else none
 | .and=>if k=k' then some (True,.z (.int k) (k.wrap (BitVec.ofInt k.bits a&&&BitVec.ofInt k.bits b).toNat)) else none
 | .or=>if k=k' then some (True,.z (.int k) (k.wrap (BitVec.ofInt k.bits a|||BitVec.ofInt k.bits b).toNat)) else none
 | .xor=>if k=k' then some (True,.z (.int k) (k.wrap (BitVec.ofInt k.bits a^^^BitVec.ofInt k.bits b).toNat)) else none
 | .andNot=>if k=k' then some (True,.z (.int k) (k.wrap (BitVec.ofInt k.bits a&&& ~~~BitVec.ofInt k.bits b).toNat)) else none
 | .eql=>if k=k' then some (True,.z .bool (a==b)) else none
 | .neq=>if k=k' then some (True,.z .bool (a !=b)) else none
 | .lss=>if k=k' then some (True,.z .bool (a<b)) else none
 | .leq=>if k=k' then some (True,.z .bool (a<=b)) else none
 | .gtr=>if k=k' then some (True,.z .bool (b<a)) else none
 | .geq=>if k=k' then some (True,.z .bool (b<=a)) else none
def me(op:BinOp)(a b:List UInt8):Option (Prop×LV):=
 match op with
 | .add=>some (a.length+b.length<=maxLen,.z .str (a++b))
 | .eql=>some (True,.z .bool (a==b))
 | .neq=>some (True,.z .bool (a !=b))
 |_=>none
def mO(op:BinOp)(a b:Bool):Option (Prop×LV):=
 match op with
 | .eql=>some (True,.z .bool (a==b))
 | .neq=>some (True,.z .bool (a !=b))
 |_=>none
def ky(u:Option Ty)(op:BinOp)(x y:LV):Option (Prop×LV):=
 match x,y with
 | .z (.int k) a,.z (.int k') b=>dE op k a k' b
 | .z .str a,.z .str b=>me op a b
 | .z .bool a,.z .bool b=>match u with
  |some .bool=>mO op a b
  |_=>none
 | .z (.opt _) a,.val v=>match isNilP v,op,u with
  |true,.eql,some (.opt _)=>some (True,.z .bool a.isNone)
  |true,.neq,some (.opt _)=>some (True,.z .bool a.isSome)
  |_,_,_=>none
 |_,_=>none
def DK(op:UnOp)(x:LV):Option LV:=
 match op,x with
 | .neg,.z (.int k) a=>some (.z (.int k) (k.wrap (0-a)))
 | .not,.z .bool b=>some (.z .bool (!b))
 |_,_=>none
def Roomy(w n:Nat):Prop:=n*(24*w)<=70368744177664
def tV(idx:List (Option Nat))(i:Nat):Option Nat:=(idx[i]?).getD none
def rowOf{α:Type}(rows:List (Option (List α)))(j:Nat):List α:=((rows[j]?).getD none).getD []
def live{α:Type}(rows:List (Option (List α)))(j:Nat):Bool:=((rows[j]?).getD none).isSome
def b8(own:List (Nat×aB))(u:Ty):LV->Option LV
 | .z (.slice _) xs=>match u with
  | .slice _=>some (.z (.int .i64) (xs.length:Int))
  |_=>none
 | .z .str s=>match u with
  | .str=>some (.z (.int .i64) (s.length:Int))
  |_=>none
 | .ownS id=>match get? own id,u with
  |some (.arr _ _ xs),.slice _=>some (.z (.int .i64) (xs.length:Int))
  |some (.win _ _ _ xs _),.slice _=>some (.z (.int .i64) (xs.length:Int))
  |some (.que _ _ xs),.slice _=>some (.z (.int .i64) (xs.length:Int))
  |_,_=>none
 | .ownW id _ i=>match get? own id,u with
  |some (.arr _ _ xs),.slice _=>some (.z (.int .i64) ((xs.length-i:Nat):Int))
  |_,_=>none
 | .ownM id=>match get? own id,u with
  |some (.mat _ _ _ _ idx),.slice _=>some (.z (.int .i64) (idx.length:Int))
  |_,_=>none
 | .val v=>match u with
  | .slice _=>if gO v then some (.z (.int .i64) 0) else none
  |_=>none
 |_=>none
def iA(d:Int):Option LV->Option Int
 |none=>some d
 |some (.z (.int _) a)=>some a
 |_=>none
@[reducible] def mP (n:Int)(m:Nat):Prop:=0<=n/\n<m
@[reducible] def FE (l h:Int)(n:Nat):Prop:=0<=l/\l<=h/\h<=n
@[reducible] def FF (l h m:Int)(n:Nat):Prop:=0<=l/\l<=h/\h<=m/\m<=n
def sliceLV(u:Ty)(x:LV)(low high max:Option LV):Option (Prop×LV):=
 match x,u with
 | .z (.slice t) xs,.slice v=>if t=v then
   match iA 0 low,iA xs.length high,max with
   |some l,some h,none=>some (FE l h xs.length,.z (.slice t) ((xs.take h.toNat).drop l.toNat))
   |some l,some h,some (.z (.int _) m)=>match high with
    |some _=>some (FF l h m xs.length,.z (.slice t) ((xs.take h.toNat).drop l.toNat))
    |none=>none
   |_,_,_=>none
  else none
 | .z .str xs,.str=>match iA 0 low,iA xs.length high,max with
  |some l,some h,none=>some (FE l h xs.length,.z .str ((xs.take h.toNat).drop l.toNat))
  |_,_,_=>none
 |_,_=>none
def leaf:Option AV->Option LV
 |some (.l x)=>some x
 |_=>none
def fI(s:aa):Option Operand->Option (Option LV)
 |none=>some none
 |some o=>match leaf (aP s o) with
  |some x=>some (some x)
  |none=>none
def dS(T:Tab)(s:aa)(b:Builtin)(l:List Operand)(types:List TypeId):Option (Prop×AV):=
 match b with
 | .len=>match l,types with
  | [x],[ty]=>match leaf (aP s x),get? T.types ty with
   |some (.ownR id j),some (.slice _)=>match get? s.own id with
    |some (.mat _ _ _ rows _)=>some (live rows j=true,.l (.z (.int .i64) ((rowOf rows j).length:Int)))
    |_=>none
   |some a,some u=>match b8 s.own u a with
    |some v=>some (True,.l v)
    |none=>none
   |_,_=>none
  |_,_=>none
 | .min=>match l with
  | [x,y]=>match leaf (aP s x),leaf (aP s y) with
   |some (.z (.int k) a),some (.z (.int k') b)=>if k=k' then some (True,.l (.z (.int k) (min a b))) else none
   |_,_=>none
  |_=>none
 | .max=>match l with
  | [x,y]=>match leaf (aP s x),leaf (aP s y) with
   |some (.z (.int k) a),some (.z (.int k') b)=>if k=k' then some (True,.l (.z (.int k) (max a b))) else none
   |_,_=>none
  |_=>none
 |_=>none
def jh(s:aa):List Operand->Option (List CV)
 | []=>some []
 |x::r=>match leaf (aP s x),jh s r with
  |some (.z t a),some cs=>some (.z t a::cs)
  |some (.ownP id 0),some cs=>some (.p id::cs)
  |_,_=>none
def mQ(T:Tab)(t:TypeId):Bool:=match get? T.types t,get? T.elems t with
 |some (.slice (.int .u8)),some E=>match get? T.types E with
  |some (.int .u8)=>true
  |_=>false
 |_,_=>false
def iV(own:List (Nat×aB)):LV->Option (List UInt8)
 | .ownS id=>match get? own id with
  |some (.arr (.int .u8) _ xs)=>some (strOf xs)
  |_=>none
 | .z (.slice (.int .u8)) xs=>some (strOf xs)
 |_=>none
def kz(u8:Bool)(l:Option (List UInt8))(src dst:Option Ty)(v:LV):Option (Prop×AV):=
 match dst with
 |some (.int k)=>match v,src with
  | .z (.int _) a,some (.int _)=>some (True,.l (.z (.int k) (k.wrap a)))
  |_,_=>none
 |some .str=>match v,src with
  | .z .str a,some .str=>some (True,.l (.z .str a))
  |_,_=>match u8,l with
   |true,some l=>some (True,.l (.z .str l))
   |_,_=>none
 |_=>none
def tW(T:Tab)(b o:Nat):Ty->Option (Prop×AV)
 | .int .i64=>match get? T.globs b with
  |some xs=>some (o<xs.length,.l (.z (.int .i64) (xs.getD o 0)))
  |none=>none
 | .arr n (.int .i64)=>match get? T.globs b with
  |some xs=>if o=0/\xs.length=n then some (True,.l (.z (.arr n (.int .i64)) xs)) else none
  |none=>none
 | .func=>match get? T.pins b with
  |some p=>if o=0 then some (True,.l (.val p.1)) else none
  |none=>none
 |_=>none
def aT(T:Tab)(s:aa):Op->Option (Prop×AV)
 | .move x| .assign x=>match aP s x with
  |some (.g _ _)=>none
  |some (.gt _ _)=>none
  |some v=>some (True,v)
  |none=>none
 | .binOp op ty x y _=>match leaf (aP s x),leaf (aP s y) with
  |some a,some b=>match ky (get? T.types ty) op a b with
   |some (C,v)=>some (C,.l v)
   |none=>none
  |_,_=>none
 | .unOp op _ x=>match leaf (aP s x) with
  |some a=>match DK op a with
   |some v=>some (True,.l v)
   |none=>none
  |none=>none
 | .convert src dst x=>match leaf (aP s x) with
  |some v=>kz (mQ T src) (iV s.own v) (get? T.types src) (get? T.types dst) v
  |none=>none
 | .load t x=>match leaf (aP s x),get? T.types t with
  |some (.z (.ptr u) a),some v=>if u=v then some (True,.l (.z u a)) else none
  |some (.ownP id off),some v=>match get? s.own id with
   |some (.box _ cs)=>if off+v.w<=cs.length then
     match dD v ((cs.drop off).take v.w) with
     |some r=>some (True,r)
     |none=>none
    else none
   |_=>none
  |some (.ownE id w i),some v=>match get? s.own id with
   |some (.arr u _ xs)=>if u=v/\w=u.w then some (i<xs.length,.l (.z u (nth u xs i))) else none
   |some (.win u _ _ xs _)=>if u=v/\w=u.w then some (i<xs.length,.l (.z u (nth u xs i))) else none
   |some (.que u _ xs)=>if u=v/\w=u.w then some (i<xs.length,.l (.z u (nth u xs i))) else none
   |_=>none
  |some (.ownA id i),some (.slice v)=>match get? s.own id with
   |some (.mat u _ _ rows idx)=>if u=v then some ((tV idx i).isSome=true,.l (.ownR id ((tV idx i).getD 0))) else none
   |_=>none
  |some (.ownB id j w k),some v=>match get? s.own id with
   |some (.mat u _ _ rows _)=>if u=v/\w=u.w then some (live rows j=true/\k<(rowOf rows j).length,.l (.z u (nth u (rowOf rows j) k))) else none
   |_=>none
  |some (.z (.opt u) a),some v=>if u=v then some (a.isSome=true,.l (.z u (a.getD u.dflt))) else none
  |some (.val (.pointer (some ⟨b,o,none⟩))),some v=>tW T b o v
  |_,_=>none
 | .nilCheck x=>match leaf (aP s x) with
  |some (.z (.ptr t) a)=>some (True,.l (.z (.ptr t) a))
  |some (.z (.opt t) a)=>some (a.isSome=true,.l (.z (.ptr t) (a.getD t.dflt)))
  |some (.ownP id off)=>some (True,.l (.ownP id off))
  |_=>none
 | .fieldAddr st x k=>match leaf (aP s x),get? T.types st with
  |some (.z (.ptr (.st t)) a),some (.st u)=>if t=u/\k<u.fields.length then some (True,.l (.z (.ptr (t.fieldTy k)) (t.fieldOf k a))) else none
  |some (.z (.opt (.st t)) a),some (.st u)=>if t=u/\k<u.fields.length then some (a.isSome=true,.l (.z (.ptr (t.fieldTy k)) (t.fieldOf k (a.getD t.dflt)))) else none
  |some (.ownP id off),some (.st u)=>if k<u.fields.length then some (True,.l (.ownP id (off+u.fieldOff k))) else none
  |_,_=>none
 | .field st x k=>match aP s x,get? T.types st with
  |some (.l (.z (.st t) a)),some (.st u)=>if t=u/\k<u.fields.length then some (True,.l (.z (t.fieldTy k) (t.fieldOf k a))) else none
  |some (.agg cs),some (.st u)=>if k<u.fields.length/\u.fieldOff k+(u.fieldTy k).w<=cs.length then
    match dD (u.fieldTy k) ((cs.drop (u.fieldOff k)).take (u.fieldTy k).w) with
    |some r=>some (True,r)
    |none=>none
   else none
  |_,_=>none
 | .indexAddr ty x i=>match leaf (aP s x),leaf (aP s i),get? T.types ty with
  |some (.z (.slice t) xs),some (.z (.int _) n),some (.slice u)=>if t=u then some (mP n xs.length,.l (.z (.ptr t) (nth t xs n))) else none
  |some (.ownS id),some (.z (.int _) n),some (.slice u)=>match get? s.own id with
   |some (.arr t _ xs)=>if t=u then some (mP n xs.length,.l (.ownE id t.w n.toNat)) else none
   |some (.win t _ _ xs _)=>if t=u then some (mP n xs.length,.l (.ownE id t.w n.toNat)) else none
   |some (.que t _ xs)=>if t=u then some (mP n xs.length,.l (.ownE id t.w n.toNat)) else none
   |_=>none
  |some (.ownW id w i),some (.z (.int _) n),some (.slice u)=>match get? s.own id with
   |some (.arr t _ xs)=>if t=u/\w=t.w then some (mP n (xs.length-i),.l (.ownE id t.w (i+n.toNat))) else none
   |_=>none
  |some (.ownM id),some (.z (.int _) n),some (.slice (.slice u))=>match get? s.own id with
   |some (.mat t _ _ _ idx)=>if t=u then some (mP n idx.length,.l (.ownA id n.toNat)) else none
   |_=>none
  |some (.ownR id j),some (.z (.int _) n),some (.slice u)=>match get? s.own id with
   |some (.mat t _ _ rows _)=>if t=u then some (live rows j=true/\mP n (rowOf rows j).length,.l (.ownB id j t.w n.toNat)) else none
   |_=>none
  |some (.ownP id off),some (.z (.int _) n),some (.arr m u)=>some (mP n m,.l (.ownP id (off+n.toNat*u.w)))
  |some (.z (.ptr (.arr m t)) xs),some (.z (.int _) n),some (.arr m' u)=>if m=m'/\t=u then some (mP n m,.l (.z (.ptr t) (nth t xs n))) else none
  |some (.val (.pointer (some ⟨b,o,none⟩))),some (.z (.int _) n),some (.arr m u)=>some (mP n m,.l (.val (.pointer (some ⟨b,o+n.toNat*u.w,none⟩))))
  |_,_,_=>none
 | .index ty x i=>match leaf (aP s x),leaf (aP s i),get? T.types ty with
  |some (.z .str xs),some (.z (.int _) n),some .str=>some (mP n xs.length,.l (.z (.int .u8) ((xs.getD n.toNat 0).toNat:Int)))
  |some (.z (.arr m t) xs),some (.z (.int _) n),some (.arr m' u)=>if m=m'/\t=u then some (mP n m,.l (.z t (nth t xs n))) else none
  |_,_,_=>none
 | .slice ty x lo hi mx=>match leaf (aP s x),fI s lo,fI s hi,fI s mx,get? T.types ty with
  |some a,some l,some h,some m,some u=>match sliceLV u a l h m with
   |some (C,v)=>some (C,.l v)
   |none=>none
  |_,_,_,_,_=>none
 | .extract x n=>match aP s x with
  |some (.tup l)=>match l[n]? with
   |some v=>some (True,.l v)
   |none=>none
  |_=>none
 | .makeFunc (.func f) first caps=>match first.toList,jh s caps.toList with
  | [],some cs=>some (True,.l (.fn f cs))
  |_,_=>none
 | .call c=>match c.callee,c.args.toList with
  | .builtin b,l=>dS T s b l c.argTypes.toList
  |_,_=>none
 |_=>none
def LV.kill(id:Nat)(v:LV):LV:=if v.isOf id then .junk else v
def AV.map(f:LV->LV):AV->AV
 | .l x=> .l (f x)
 | .agg cs=> .agg (cs.map f)
 | .tup xs=> .tup (xs.map f)
 | .g φ x=> .g φ (f x)
 | .gt φ xs=> .gt φ (xs.map f)
def aB.map(f:LV->LV):aB->aB
 | .box T cs=> .box T (cs.map f)
 | .arr t T xs=> .arr t T xs
 | .win t T pre xs post=> .win t T pre xs post
 | .mat t T E rows idx=> .mat t T E rows idx
 | .que t T xs=> .que t T xs
def bH(f:LV->LV):List (Nat×AV)->List (Nat×AV)
 | []=>[]
 |(k,v)::r=>(k,v.map f)::bH f r
def bg(f:LV->LV):List (Nat×aB)->List (Nat×aB)
 | []=>[]
 |(k,v)::r=>(k,v.map f)::bg f r
def aa.kill(s:aa)(id:Nat):aa:={env:=bH (LV.kill id) s.env,own:=bg (LV.kill id) (del s.own id)}
def aa.hush(s:aa)(id:Nat):aa:={env:=bH (LV.kill id) s.env,own:=bg (LV.kill id) s.own}
def LV.thaw(id:Nat)(t:Ty)(xs:List t.D):LV->LV
 | .ownS i=>if i=id then .z (.slice t) xs else .ownS i
 |v=>v.kill id
def aa.freeze(s:aa)(id:Nat):aa:=
 match get? s.own id with
 |some (.arr t _ xs)=>{env:=bH (LV.thaw id t xs) s.env,own:=bg (LV.thaw id t xs) (del s.own id)}
 |_=>s
def LV.ids:LV->List Nat
 | .ownS i=>[i]
 |_=>[]
def AV.ids:AV->List Nat
 | .l x=>x.ids
 | .agg cs=>cs.flatMap LV.ids
 |_=>[]
def aa.freezeAll(s:aa):List Nat->aa
 | []=>s
 |i::r=>(s.freeze i).freezeAll r
def frozenAt(s:aa)(x:Operand):aa:=
 match aP s x with
 |some v=>s.freezeAll v.ids
 |none=>s
def dL(s:aa)(t:Ty)(x:Operand):Option (t.D×aa):=
 match aP (frozenAt s x) x with
 |some v=>match v.get t with
  |some a=>some (a,frozenAt s x)
  |none=>none
 |none=>none
def iW(T:Tab)(s:aa)(t:TypeId)(x:Operand):Option (LV×aa):=
 match aP (frozenAt s x) x with
 |some (.l (.ownP id 0))=>some (.ownP id 0,frozenAt s x)
 |some (.l (.fn f caps))=>some (.fn f caps,frozenAt s x)
 |some (.l (.z u a))=>some (.z u a,frozenAt s x)
 |some (.l (.val v))=>some (.val v,frozenAt s x)
 |some (.agg cs)=>match get? T.types t with
  |some u=>match AV.get u (.agg cs) with
   |some a=>some (.z u a,frozenAt s x)
   |none=>none
  |none=>none
 |_=>none
def bO(T:Tab)(io:Bool)(s:aa)(t:TypeId)(x:Operand):Option (LV×aa):=
 match io,aP s x with
 |true,some (.l (.ownS id))=>some (.ownS id,s)
 |true,some (.l (.ownW id w i))=>some (.ownW id w i,s)
 |_,_=>iW T s t x
def dU(T:Tab)(io:List Nat):Nat->aa->List TypeId->List Operand->Option (List LV×aa)
 |_,s,_,[]=>some ([],s)
 |k,s,t::ts,x::xs=>match bO T (io.contains k) s t x with
  |some (v,s)=>match dU T io (k+1) s ts xs with
   |some (vs,s)=>some (v::vs,s)
   |none=>none
  |none=>none
 |_,_,[],_::_=>none
def dw(t:Ty):(n i:Nat)->List (Nat×Operand)->aa->Option (List t.D×aa)
 |0,_,[],s=>some ([],s)
 |0,_,_::_,_=>none
 |n+1,i,[],s=>match t.zero with
  |some a=>match dw t n (i+1) [] s with
   |some (r,s)=>some (a::r,s)
   |none=>none
  |none=>none
 |n+1,i,(j,x)::ps,s=>
  if j=i then
   match dL s t x with
   |some (a,s)=>match dw t n (i+1) ps s with
    |some (r,s)=>some (a::r,s)
    |none=>none
   |none=>none
  else match t.zero with
   |some a=>match dw t n (i+1) ((j,x)::ps) s with
    |some (r,s)=>some (a::r,s)
    |none=>none
   |none=>none
def bL(s:aa):List Ty->Nat->List (Nat×Operand)->Option (List LV)
 | [],_,[]=>some []
 | [],_,_::_=>none
 |t::ts,i,[]=>match bL s ts (i+1) [] with
  |some r=>some (t.zeroCells.map ez++r)
  |none=>none
 |t::ts,i,(j,x)::ps=>
  if j=i then
   match aP s x with
   |some v=>match v.cells with
    |some cs=>if cs.length=t.w then
      match bL s ts (i+1) ps with
      |some r=>some (cs++r)
      |none=>none
     else none
    |none=>none
   |none=>none
  else match bL s ts (i+1) ((j,x)::ps) with
   |some r=>some (t.zeroCells.map ez++r)
   |none=>none
def RV.give(id:Nat):RV->LV×List (Nat×aB)
 | .z t x=>(.z t x,[])
 | .own t T xs=>(.ownS id,[(id,.arr t T xs)])
 | .fn f caps=>(.fn f caps,[])
 | .val v=>(.val v,[])
def bF:Nat->List RV->List LV×List (Nat×aB)
 |_,[]=>([],[])
 |i,r::rs=>((r.give i).1::(bF (i+1) rs).1,(r.give i).2++(bF (i+1) rs).2)
abbrev bV:=Nat×Option (Nat×Nat)
def fh:List bV->Nat->bV->Option Nat
 | [],_,_=>none
 |i::r,k,x=>if i=x then some k else fh r (k+1) x
def CV.lends:CV->List bV
 | .p id=>[(id,none)]
 | .z _ _=>[]
def LV.lends:LV->List bV
 | .ownS id=>[(id,none)]
 | .ownP id 0=>[(id,none)]
 | .ownW id w i=>[(id,some (w,i))]
 | .ownM id=>[(id,none)]
 | .ownR id _=>[(id,none)]
 | .fn _ caps=>caps.flatMap CV.lends
 |_=>[]
def aB.lends:aB->List bV
 | .box _ cs=>cs.flatMap LV.lends
 |_=>[]
def once:List bV->List bV->List bV
 |l,[]=>l
 |l,x::r=>if l.contains x then once l r else once (l++ [x]) r
def iB(own:List (Nat×aB)):List bV->List bV
 | []=>[]
 |(id,none)::r=>(match get? own id with
  |some o=>o.lends
  |none=>[])++iB own r
 |_::r=>iB own r
def CV.ren(l:List bV):CV->Option CV
 | .z t x=>some (.z t x)
 | .p id=>match fh l ioB (id,none) with
  |some k=>some (.p k)
  |none=>none
def gX(l:List bV):List CV->Option (List CV)
 | []=>some []
 |c::r=>match c.ren l,gX l r with
  |some c,some r=>some (c::r)
  |_,_=>none
def LV.ren(l:List bV):LV->LV
 | .z t x=> .z t x
 | .val v=> .val v
 | .ownP id off=>match fh l ioB (id,none) with
  |some k=> .ownP k off
  |none=> .junk
 | .ownS id=>match fh l ioB (id,none) with
  |some k=> .ownS k
  |none=> .junk
 | .ownW id w i=>match fh l ioB (id,some (w,i)) with
  |some k=> .ownS k
  |none=> .junk
 | .ownM id=>match fh l ioB (id,none) with
  |some k=> .ownM k
  |none=> .junk
 | .ownR id j=>match fh l ioB (id,none) with
  |some k=> .ownR k j
  |none=> .junk
 | .fn f caps=>match gX l caps with
  |some cs=> .fn f cs
  |none=> .junk
 |_=> .junk
def kA(l:List bV)(k:Nat):Option Nat:=
 if k<ioB then none else match l[k-ioB]? with
  |some (id,none)=>some id
  |_=>none
def CV.back(l:List bV):CV->Option CV
 | .z t x=>some (.z t x)
 | .p k=>match kA l k with
  |some id=>some (.p id)
  |none=>none
def iC(l:List bV):List CV->Option (List CV)
 | []=>some []
 |c::r=>match c.back l,iC l r with
  |some c,some r=>some (c::r)
  |_,_=>none
def LV.back(l:List bV):LV->LV
 | .z t x=> .z t x
 | .val v=> .val v
 | .ownP k off=>match kA l k with
  |some id=> .ownP id off
  |none=> .junk
 | .ownS k=>match kA l k with
  |some id=> .ownS id
  |none=> .junk
 | .ownM k=>match kA l k with
  |some id=> .ownM id
  |none=> .junk
 | .ownR k j=>match kA l k with
  |some id=> .ownR id j
  |none=> .junk
 | .fn f caps=>match iC l caps with
  |some cs=> .fn f cs
  |none=> .junk
 |_=> .junk
def c8(own:List (Nat×aB))(l:List bV):bV->Option aB
 |(id,none)=>match get? own id with
  |some o=>some (o.map (LV.ren l))
  |none=>none
 |(id,some (w,i))=>match get? own id with
  |some (.arr t T xs)=>if i<xs.length/\w=t.w then some (.win t T (xs.take i) (xs.drop i) []) else none
  |_=>none
def iX(own:List (Nat×aB))(l:List bV):List bV->Option (List aB)
 | []=>some []
 |x::r=>match c8 own l x,iX own l r with
  |some o,some os=>some (o::os)
  |_,_=>none
def iY(l:List bV):bV->aB->Option (Prop×aB)
 |(_,none),o=>some (True,o.map (LV.back l))
 |(_,some (w,i)),.win t T pre xs post=>some (t.w=w/\pre.length=i/\post=[],.arr t T (pre++xs))
 |_,_=>none
def fJ(l:List bV):List bV->List aB->List (Nat×aB)->Option (Prop×List (Nat×aB))
 | [],[],own=>some (True,own)
 |x::r,o::os,own=>match iY l x o with
  |some (C,o)=>match fJ l r os (upd own x.1 o) with
   |some (C',own)=>some (C/\C',own)
   |none=>none
  |none=>none
 |_,_,_=>none
def distinct:List Nat->Bool
 | []=>true
 |a::r=> !r.contains a&&distinct r
def eA(s:aa):List Nat->aa
 | []=>s
 |i::r=>eA (s.kill i) r
def cD:Nat->List RV->List Nat
 |_,[]=>[]
 |i,.own ..::rs=>i::cD (i+1) rs
 |i,_::rs=>cD (i+1) rs
def endCall(s:aa)(d:Nat)(rs:List RV):aa:=
 let s:=eA s (cD (1000+8*d) rs)
 let gs:=bF (1000+8*d) rs
 {env:=(d,match gs.1 with
   | [x]=>AV.l x
   |l=>AV.tup l)::del s.env d,
  own:=gs.2++s.own}
def appendOp(T:Tab)(s:aa)(d:Option Nat)(args:List Operand)(types:List TypeId):Option (Prop×aa):=
 match d,args,types with
 |some d,[x,y],[t,u]=>match leaf (aP s x),get? T.types t,get? T.elems t with
  |some (.ownS id),some (.slice v),some E=>if t=u/\0<v.w then
    match dL s (.slice v) y with
    |some (ys,s)=>match get? s.own id with
     |some (.arr t' e xs)=>if h:t'=v then
       if e=E/\T.mayMove id=true then
        let s:=s.hush id
        some (Roomy v.w (xs.length+ys.length),{env:=(d,.l (.ownS id))::del s.env d,own:=upd s.own id (.arr v E ((h▸xs:List v.D)++ys))})
       else none
      else none
     |some (.que t' e xs)=>if h:t'=v then
       if e=E/\id<ioB then
        let s:=s.hush id
        some (Roomy v.w (xs.length+ys.length),{env:=(d,.l (.ownS id))::del s.env d,own:=upd s.own id (.que v E ((h▸xs:List v.D)++ys))})
       else none
      else none
     |_=>none
    |none=>none
   else none
  |some (.ownR id j),some (.slice v),some E=>if t=u/\0<v.w then
    match dL s (.slice v) y with
    |some (ys,s)=>match get? s.own id with
     |some (.mat t' T' e rows idx)=>if h:t'=v then
       if e=E/\id<ioB then
        some (live rows j=true/\Roomy v.w ((rowOf rows j).length+ys.length),{env:=(d,.l (.ownR id rows.length))::del s.env d,own:=upd s.own id (.mat v T' E ((h▸rows:List (Option (List v.D))).set j none++ [some (rowOf (h▸rows:List (Option (List v.D))) j++ys)]) idx)})
       else none
      else none
     |_=>none
    |none=>none
   else none
  |some (.val n),some (.slice v),some E=>if gO n/\t=u/\0<v.w then
    match dL s (.slice v) y with
    |some (ys,s)=>
     let s:=s.kill d
     some (Roomy v.w ys.length,{env:=(d,.l (.ownS d))::del s.env d,own:=(d,.arr v E ys)::s.own})
    |none=>none
   else none
  |_,_,_=>none
 |_,_,_=>none
def RV.cold:RV->RV
 | .own t _ xs=> .z (.slice t) xs
 | .z t x=> .z t x
 | .val v=> .val v
 | .fn f caps=> .fn f caps
def pY(c:Con):Con:=fun l os=>match c l os with
 |some (C,rs,os)=>some (C,rs.map RV.cold,os)
 |none=>none
def Tab.conAt(T:Tab)(d:Option Nat)(f:FuncId):Option Con:=
 match get? T.cons f with
 |some c=>match d with
  |some d=>match T.hint.contains d with
   |true=>some (pY c)
   |false=>some c
  |none=>some c
 |none=>none
def eD(s:aa)(f:Operand):Option (FuncId×List LV):=
 match aP s f with
 |some (.l (.val (.func (.func g) first caps)))=>if first.size=0/\caps.size=0 then some (g,[]) else none
 |some (.l (.fn g caps))=>some (g,caps.map CV.lv)
 |_=>none
def qF(s:aa)(vs:List LV):List bV:=
 once (once [] (vs.flatMap LV.lends)) (iB s.own (once [] (vs.flatMap LV.lends)))
def kq(l:List bV):List Nat->List Nat
 | []=>[]
 |k::r=>match l[k]? with
  |some (id,_)=>id::kq l r
  |none=>kq l r
def Lb(T:Tab)(l:List bV)(fr:List Nat):Bool:=fr.all fun k=>match l[k]? with
 |some (id,none)=>T.mayMove id
 |none=>true
 |_=>false
def LV.forget(ds:List Nat)(x:LV):LV:=if ds.any (fun i=>x.isOf i) then .junk else x
def aa.forget(s:aa):List Nat->aa
 | []=>s
 |d::ds=>{env:=bH (LV.forget (d::ds)) s.env,own:=bg (LV.forget (d::ds)) s.own}
def callOp(T:Tab)(s:aa)(d:Option Nat)(f:Operand)(args:List Operand)(types:List TypeId):Option (Prop×aa):=
 match eD s f with
 |some (f,caps)=>match T.conAt d f with
  |some con=>match dU T ((get? T.io f).getD []) 0 s types args with
   |some (vs,s)=>
    let l:=qF s (vs++caps)
    let fr:=(get? T.frees f).getD []
    if distinct (l.map Prod.fst) then if Lb T l fr=true then
     match iX s.own l l with
     |some os=>match con ((vs++caps).map (LV.ren l)) os with
      |some (C,rs,os)=>
       let s:=s.forget (kq l fr)
       match fJ l l os s.own with
       |some (C',own)=>match d with
        |some d=>if 1000+8*d+rs.length<=ioB then some (C/\C',endCall {s with own:=own} d rs) else none
        |none=>match rs with
         | []=>some (C/\C',{s with own:=own})
         |_=>none
       |none=>none
      |none=>none
     |none=>none
    else none
    else none
   |none=>none
  |none=>none
 |_=>none
def LV.plain:LV->Bool
 | .z _ _| .val _=>true
 | .fn _ caps=>caps.all fun c=>match c with
  | .z _ _=>true
  | .p _=>false
 |_=>false
def dV(T:Tab)(s:aa)(t:TypeId)(x:Operand):Option LV:=
 match aP s x with
 |some (.l v)=>if v.plain=true then some v else none
 |some (.agg cs)=>match get? T.types t with
  |some u=>match AV.get u (.agg cs) with
   |some a=>some (.z u a)
   |none=>none
  |none=>none
 |_=>none
def cj(T:Tab)(s:aa):List TypeId->List Operand->Option (List LV)
 |_,[]=>some []
 |t::ts,x::xs=>match dV T s t x,cj T s ts xs with
  |some v,some vs=>some (v::vs)
  |_,_=>none
 | [],_::_=>none
def cS(T:Tab)(d:Nat)(s:aa)(f:Operand)(args:List Operand)(types:List TypeId):Option (Prop×List RV):=
 match eD s f with
 |some (g,caps)=>if caps.all LV.plain=true/\(get? T.frees g).isNone=true then
   match T.conAt (some d) g,cj T s types args with
   |some con,some vs=>match con (vs++caps) [] with
    |some (C,rs,[])=>some (C,rs)
    |_=>none
   |_,_=>none
  else none
 |none=>none
@[reducible] def mkC (l c:Int)(w:Nat):Prop:=0<=l/\l<=c/\Roomy w c.toNat
def effOp(T:Tab)(s:aa)(d:Option Nat):Op->Option (Prop×aa)
 | .alloc e=>match d,get? T.types e with
  |some d,some t=>
   let s:=s.kill d
   some (True,{env:=(d,.l (.ownP d 0))::del s.env d,own:=(d,.box e (t.zeroCells.map ez))::s.own})
  |_,_=>none
 | .box e x=>match d,get? T.types e with
  |some d,some t=>if T.hint.contains d then
    match aP s x with
    |some v=>match v.cells with
     |some cs=>if cs.length=t.w/\cs.all (fun c=> !c.isOf d) then
       let s:=s.kill d
       some (True,{env:=(d,.l (.ownP d 0))::del s.env d,own:=(d,.box e cs)::s.own})
      else none
     |none=>none
    |none=>none
   else match dL s t x with
    |some (a,s)=>if T.hint.contains (3000000+d) then some (True,s.put d (.l (.z (.opt t) (some a)))) else some (True,s.put d (.l (.z (.ptr t) a)))
    |none=>none
  |_,_=>none
 | .build e parts=>match d,get? T.types e with
  |some d,some (.st t)=>match bL s t.fields 0 parts.toList with
   |some cs=>match dD (.st t) cs with
    |some v=>some (True,s.put d v)
    |none=>none
   |none=>none
  |some d,some (.arr n t)=>match dw t n 0 parts.toList s with
   |some (xs,s)=>some (True,s.put d (.l (.z (.arr n t) xs)))
   |none=>none
  |_,_=>none
 | .buildSlice e n parts=>match d,get? T.types e,get? T.elems e with
  |some d,some (.slice t),some E=>match dw t n 0 parts.toList s with
   |some (xs,s)=>if n*t.w<=16777216/\0<t.w then
     if T.hint.contains d then
      let s:=s.kill d
      some (True,{env:=(d,.l (.ownS d))::del s.env d,own:=(d,.arr t E xs)::s.own})
     else some (True,s.put d (.l (.z (.slice t) xs)))
    else none
   |none=>none
  |_,_,_=>none
 | .makeSlice e l c=>match d,get? T.types e,get? T.elems e,leaf (aP s l),leaf (aP s c) with
  |some d,some (.slice t),some E,some (.z (.int _) l),some (.z (.int _) c)=>match t.zero with
   |some x=>if 0<t.w then
     if T.hint.contains (1000000+d) then match t,get? T.elems E with
      | .slice u,some E'=>
       let s:=s.kill d
       some (mkC l c 1,{env:=(d,.l (.ownM d))::del s.env d,own:=(d,.mat u E E' (N6 l.toNat (some [])) ((Pa l.toNat).map some))::s.own})
      |_,_=>none
     else
     let s:=s.kill d
     some (mkC l c t.w,{env:=(d,.l (.ownS d))::del s.env d,own:=(d,.arr t E (N6 l.toNat x))::s.own})
    else none
   |none=>none
  |_,_,_,_,_=>none
 | .slice ty x lo hi mx=>match d,leaf (aP s x),get? T.types ty with
  |some d,some (.ownS id),some (.slice u)=>if T.hint.contains (2000000+d) then
    match get? s.own id,lo,hi,mx with
    |some (.que t E xs),some lo,none,none=>match leaf (aP s lo) with
     |some (.z (.int _) l)=>if t=u/\id<ioB then
       let s:=s.hush id
       some (FE 0 l xs.length,{env:=(d,.l (.ownS id))::del s.env d,own:=upd s.own id (.que t E (xs.drop l.toNat))})
      else none
     |_=>none
    |_,_,_,_=>none
   else if T.hint.contains d then
    match get? s.own id,lo,hi,mx with
    |some (.arr t _ xs),some lo,none,none=>match leaf (aP s lo) with
     |some (.z (.int _) l)=>if t=u then some (mP l xs.length,s.put d (.l (.ownW id t.w l.toNat))) else none
     |_=>none
    |some (.arr t E xs),none,some hi,none=>match leaf (aP s hi) with
     |some (.z (.int _) h)=>if t=u/\T.mayMove id=true then
       let s:=s.hush id
       some (FE 0 h xs.length,{env:=(d,.l (.ownS id))::del s.env d,own:=upd s.own id (.arr t E (xs.take h.toNat))})
      else none
     |_=>none
    |some (.arr t E xs),none,some hi,some mx=>match leaf (aP s hi),leaf (aP s mx) with
     |some (.z (.int _) h),some (.z (.int _) m)=>if t=u/\T.mayMove id=true then
       let s:=s.hush id
       some (FF 0 h m xs.length,{env:=(d,.l (.ownS id))::del s.env d,own:=upd s.own id (.arr t E (xs.take h.toNat))})
      else none
     |_,_=>none
    |_,_,_,_=>none
   else match aT T (frozenAt s x) (.slice ty x lo hi mx) with
    |some (C,v)=>some (C,(frozenAt s x).put d v)
    |none=>none
  |_,_,_=>none
 | .store t x y=>if d.isSome then none else match leaf (aP s x),get? T.types t with
  |some (.ownP id off),some u=>match get? s.own id,aP s y with
   |some (.box e cs),some v=>match v.cells with
    |some new=>if new.length=u.w/\off+u.w<=cs.length then
      some (True,{s with own:=upd s.own id (.box e (cs.take off++(new++cs.drop (off+u.w))))})
     else none
    |none=>none
   |_,_=>none
  |some (.ownE id w i),some u=>match dL s u y with
   |some (a,s)=>match get? s.own id with
    |some (.arr t e xs)=>if h:u=t then
      if w=t.w then some (i<xs.length,{s with own:=upd s.own id (.arr t e (xs.set i (h▸a)))}) else none
     else none
    |some (.win t e pre xs post)=>if h:u=t then
      if w=t.w then some (i<xs.length,{s with own:=upd s.own id (.win t e pre (xs.set i (h▸a)) post)}) else none
     else none
    |_=>none
   |none=>none
  |some (.ownA id i),some (.slice u)=>match get? s.own id,aP s y with
   |some (.mat t T' e rows idx),some (.l (.ownR id' j))=>if u=t/\id'=id then
     some (i<idx.length/\j<rows.length,{s with own:=upd s.own id (.mat t T' e rows (idx.set i (some j)))})
    else none
   |_,_=>none
  |some (.ownB id j w k),some u=>match dL s u y with
   |some (a,s)=>match get? s.own id with
    |some (.mat t T' e rows idx)=>if h:u=t then
      if w=t.w then some (live rows j=true/\k<(rowOf rows j).length,{s with own:=upd s.own id (.mat t T' e (rows.set j (some ((rowOf rows j).set k (h▸a)))) idx)}) else none
     else none
    |_=>none
   |none=>none
  |_,_=>none
 | .convert src dst x=>match d,leaf (aP s x),get? T.types src,get? T.types dst with
  |some d,some (.z .str a),some .str,some (.slice (.int .u8))=>if mQ T dst=true then some (a.length<=70368744177664,s.put d (.l (.z (.slice (.int .u8)) (bytesOf a)))) else none
  |_,_,_,_=>none
 | .call c=>match c.callee with
  | .builtin .append=>appendOp T s d c.args.toList c.argTypes.toList
  | .value f=>callOp T s d f c.args.toList c.argTypes.toList
  |_=>none
 |_=>none
def guardOf(ops:List Oper)(s:aa)(j:Nat)(want:Bool):Option Bool:=
 match ops[j]? with
 |some o=>match o.dst with
  |some t=>match get? s.env t with
   |some (.l (.z .bool b))=>some (match want with|true=>b|false=> !b)
   |some (.g φ (.z .bool b))=>some (φ&&(match want with|true=>b|false=> !b))
   |_=>none
  |none=>none
 |none=>none
def tmpsOf:List Operand->List Nat
 | []=>[]
 | .tmp t::r=>t::tmpsOf r
 |_::r=>tmpsOf r
def AV.plain:AV->AV
 | .g _ x=> .l x
 | .gt _ xs=> .tup xs
 |v=>v
def cw(env:List (Nat×AV)):List Nat->List (Nat×AV)
 | []=>[]
 |t::r=>match get? env t with
  |some v=>(t,v.plain)::cw env r
  |none=>cw env r
def asks(env:List (Nat×AV)):List Nat->Prop
 | []=>True
 |t::r=>match get? env t with
  |some (.g ψ _)=>ψ=true/\asks env r
  |some (.gt ψ _)=>ψ=true/\asks env r
  |_=>asks env r
def eR:Option AV->Option LV
 |some (.l x)=>some x
 |some (.g _ x)=>some x
 |_=>none
def CV.data:CV->Bool
 | .z _ _=>true
 | .p _=>false
def rvs? :List RV->Option (List LV)
 | []=>some []
 | .z t x::r=>match rvs? r with
  |some l=>some (.z t x::l)
  |none=>none
 | .fn f caps::r=>match caps.all CV.data,rvs? r with
  |true,some l=>some (.fn f caps::l)
  |_,_=>none
 | .val v::r=>match rvs? r with
  |some l=>some (.val v::l)
  |none=>none
 | .own ..::_=>none
def zt(φ:Bool)(rs:List RV):Option AV:=
 match rvs? rs with
 |some [x]=>some (.g φ x)
 |some l=>some (.gt φ l)
 |none=>none
def ji(s:aa)(c x y:Operand):Option (Prop×LV):=
 match eR (aP s c) with
 |some (.z .bool b)=>
  match x,y with
  | .const (.bool true),y=>match y,aP s y with
   |_,some (.l (.z .bool v))=>some (True,.z .bool (b||v))
   |_,some (.g ψ (.z .bool v))=>some (b=false->ψ=true,.z .bool (b||v))
   |_,_=>none
  |x,.const (.bool false)=>match aP s x with
   |some (.l (.z .bool v))=>some (True,.z .bool (b&&v))
   |some (.g ψ (.z .bool v))=>some (b=true->ψ=true,.z .bool (b&&v))
   |_=>none
  |_,_=>none
 |_=>none
def cy(s:aa)(t:Ty):(n i:Nat)->List (Nat×Operand)->Option (List t.D)
 |0,_,[]=>some []
 |0,_,_::_=>none
 |n+1,i,[]=>match t.zero with
  |some a=>match cy s t n (i+1) [] with
   |some r=>some (a::r)
   |none=>none
  |none=>none
 |n+1,i,(j,x)::ps=>
  if j=i then
   match aP s x with
   |some v=>if v.ids=[] then match v.get t with
    |some a=>match cy s t n (i+1) ps with
     |some r=>some (a::r)
     |none=>none
    |none=>none
    else none
   |none=>none
  else match t.zero with
   |some a=>match cy s t n (i+1) ((j,x)::ps) with
    |some r=>some (a::r)
    |none=>none
   |none=>none
def tE(T:Tab)(s:aa):Op->Option (Prop×LV)
 | .buildSlice e n parts=>match get? T.types e,get? T.elems e with
  |some (.slice t),some _=>match cy s t n 0 parts.toList with
   |some xs=>if n*t.w<=16777216/\0<t.w then some (True,.z (.slice t) xs) else none
   |none=>none
  |_,_=>none
 | .makeSlice e l c=>match get? T.types e,get? T.elems e,leaf (aP s l),leaf (aP s c) with
  |some (.slice t),some _,some (.z (.int _) l),some (.z (.int _) c)=>match t.zero with
   |some x=>if 0<t.w then some (mkC l c t.w,.z (.slice t) (N6 l.toNat x)) else none
   |none=>none
  |_,_,_,_=>none
 |_=>none
def c9(T:Tab)(ops:List Oper)(o:Oper)(s:aa):Option (Prop×aa):=
 match o.guard with
 |none=>match o.op with
  | .pick c x y=>match o.dst,ji s c x y with
   |some d,some (C,v)=>if T.ok d then some (asks s.env (tmpsOf [c])/\C,s.put d (.l v)) else none
   |_,_=>none
  |op=>match aT T s op with
   |some (C,v)=>match o.dst with
    |some d=>if T.ok d then some (C,s.put d v) else none
    |none=>none
   |none=>match o.dst with
    |some d=>if T.ok d then effOp T s (some d) op else none
    |none=>effOp T s none op
 |some (j,want)=>match guardOf ops s j want,o.dst with
  |some φ,some d=>if T.ok d then
    match o.op with
    | .pick c x y=>match ji s c x y with
     |some (C,v)=>some (φ=true->(asks s.env (tmpsOf [c])/\C),s.put d (.g φ v))
     |none=>none
    |op=>match aT T {s with env:=cw s.env (tmpsOf op.operands.toList)} op with
     |some (C,.l v)=>some (φ=true->(asks s.env (tmpsOf op.operands.toList)/\C),s.put d (.g φ v))
     |_=>match op with
      | .call c=>match c.callee with
       | .value f=>match cS T d {s with env:=cw s.env (tmpsOf op.operands.toList)} f c.args.toList c.argTypes.toList with
        |some (C,rs)=>match zt φ rs with
         |some v=>if 1000+8*d+rs.length<=ioB then some (φ=true->(asks s.env (tmpsOf op.operands.toList)/\C),s.put d v) else none
         |none=>none
        |_=>none
       |_=>none
      |op=>match tE T {s with env:=cw s.env (tmpsOf op.operands.toList)} op with
       |some (C,v)=>some (φ=true->(asks s.env (tmpsOf op.operands.toList)/\C),s.put d (.g φ v))
       |none=>none
   else none
  |_,_=>none
def exec(T:Tab)(ops:List Oper):List Oper->aa->Option (Prop×aa)
 | [],s=>some (True,s)
 |o::r,s=>match c9 T ops o s with
  |some (C,s1)=>match exec T ops r s1 with
   |some (C',s2)=>some (C/\C',s2)
   |none=>none
  |none=>none
end Go.Cm
end
section
namespace Go.Cm
open Go.RowKit
def aY{α β:Type}(R:α->β->Prop):List α->List β->Prop
 | [],[]=>True
 |a::as,b::bs=>R a b/\aY R as bs
 |_,_=>False
structure Cx where
 P:Program
 T:Tab
 O:Nat->Prop
 I:Nat->Prop
 ρ0:Nat->Value
 w0:World
 r:Option Nat
 tm:Nat->Value
 q:Bool
def Cx.calm(X:Cx):Prop:=X.r=none/\X.q=false
def fw(r:Option Nat):Fence:={Fence.wide with round:=r}
structure Marks (q:Bool) (B:Nat) (ds:List Deferred) (w:World):Prop where
 quiet:q=true->ds=[]
 each:∀d∈ds,∃D,d={target:= .collected D,args:= #[]}/\B<=D/\w.heap[D]? =some (.deferred (some []))
 apart:ds.Pairwise (· ≠ ·)
def Cx.M(X:Cx)(b:Nat):Prop:=X.w0.heap.size<=b∨X.I b
structure Bel (M:Nat->Prop) (w w':World):Prop where
 os:w'.os=w.os
 tape:w'.tape=w.tape
 output:w'.output=w.output
 size:w.heap.size<=w'.heap.size
 block:∀k,k<w.heap.size-> ¬M k->w'.heap[k]? =w.heap[k]?
def eY(H:Nat->Prop)(w:World)(ρ:Nat->Value):CV->Value->Prop
 | .z t x,v=>(match v with| .agg _=>true|_=>false)=t.isAgg/\t.rep H w v.cells.toList x
 | .p id,v=>∃b,ρ id= .pointer (some ⟨b,0,none⟩)/\v= .pointer (some ⟨b,0,none⟩)
def aJ(H:Nat->Prop)(w:World)(ρ:Nat->Value):LV->Value->Prop
 | .z t x,v=>(match v with| .agg _=>true|_=>false)=t.isAgg/\t.rep H w v.cells.toList x
 | .ownS id,v=>v=ρ id/\∃a n c,v= .slice a n c
 | .ownP id off,v=>∃b,ρ id= .pointer (some ⟨b,0,none⟩)/\v= .pointer (some ⟨b,off,none⟩)
 | .ownE id w i,v=>∃b o n c,ρ id= .slice (some ⟨b,o,none⟩) n c/\v= .pointer (some ⟨b,o+i*w,none⟩)
 | .ownW id w i,v=>∃b n c,ρ id= .slice (some ⟨b,0,none⟩) n c/\i<n/\v= .slice (some ⟨b,i*w,none⟩) (n-i) (c-i)
 | .ownM id,v=>∃a n c vs,ρ id= .tuple ⟨.slice a n c::vs⟩/\v= .slice a n c
 | .ownA id i,v=>∃b n c vs,ρ id= .tuple ⟨.slice (some ⟨b,0,none⟩) n c::vs⟩/\v= .pointer (some ⟨b,i,none⟩)
 | .ownR id j,v=>∃h vs a n c,ρ id= .tuple ⟨h::vs⟩/\vs[j]? =some v/\v= .slice a n c
 | .ownB id j w k,v=>∃h vs b n c,ρ id= .tuple ⟨h::vs⟩/\vs[j]? =some (.slice (some ⟨b,0,none⟩) n c)/\v= .pointer (some ⟨b,k*w,none⟩)
 | .fn f caps,v=>∃vs:List Value,v= .func (.func f) #[] vs.toArray/\aY (eY H w ρ) caps vs
 | .val u,v=>v=u
 | .junk,_=>True
def fK(H:Nat->Prop)(w:World)(ρ:Nat->Value)(x:LV)(v:Value):Prop:=
 aJ H w ρ x v/\v.oneCell'=true
def fL(H:Nat->Prop)(w:World)(ρ:Nat->Value):AV->Value->Prop
 | .l x,v=>aJ H w ρ x v
 | .agg cs,v=>∃vs:List Value,v= .agg vs.toArray/\aY (fK H w ρ) cs vs
 | .tup xs,v=>∃vs:List Value,v= .tuple vs.toArray/\aY (aJ H w ρ) xs vs
 | .g φ x,v=>(φ=true->aJ H w ρ x v)/\(φ=false->v=undef)
 | .gt φ xs,v=>(φ=true->∃vs:List Value,v= .tuple vs.toArray/\aY (aJ H w ρ) xs vs)/\(φ=false->v=undef)
def blk:Value->Option Nat
 | .slice (some a) _ _=>some a.block
 | .pointer (some a)=>some a.block
 |_=>none
def Blk:Value->Nat->Prop
 | .slice (some a) _ _,b=>a.block=b
 | .pointer (some a),b=>a.block=b
 | .tuple vs,b=>∃u∈vs.toList,blk u=some b
 |_,_=>False
def rowAt(M:Nat->Prop)(w:World)(e:TypeId)(size:Nat)(v:Value)(n:Nat)(xs:List Value):Prop:=
 xs.length=n*size/\
 ((v= .slice none 0 0/\n=0)∨
  ∃g cap cur,v= .slice (some ⟨g,0,none⟩) n cap/\M g/\w.heap[g]? =some (.cells cur e (0,0))/\n<=cap/\cap<=maxLen/\cap*size<=cur.size/\cur.toList.take (n*size)=xs)
def mR(M:Nat->Prop)(w:World)(e:TypeId)(size:Nat)(v:Value)(n:Nat)(xs:List Value):Prop:=
 xs.length=n*size/\
 ((v= .slice none 0 0/\n=0)∨
  ∃g off cap cur,v= .slice (some ⟨g,off*size,none⟩) n cap/\M g/\w.heap[g]? =some (.cells cur e (0,0))/\n<=cap/\off+cap<=maxLen/\(off+cap)*size<=cur.size/\(cur.toList.drop (off*size)).take (n*size)=xs)
structure qG {α:Type} (R:List Value->α->Prop) (size:Nat) (M:Nat->Prop) (w:World) (T E:TypeId) (rows:List (Option (List α))) (idx:List (Option Nat)) (h:Value) (vs cells:List Value):Prop where
 len:vs.length=rows.length
 hdr:rowAt M w T 1 h idx.length cells
 one:∀c∈cells,c.oneCell'=true
 at_:∀(i j:Nat),idx[i]? =some (some j)->j<rows.length/\cells[i]? =vs[j]?
 shape:∀v∈vs,(∃a n c,v= .slice a n c)/\∀b,blk v=some b->blk h≠some b/\M b/\∃o:Obj,w.heap[b]? =some o/\o.isCells=true
 row:∀(j:Nat) (xs:List α) (v:Value),rows[j]? =some (some xs)->vs[j]? =some v->∃cs,cC R cs xs/\rowAt M w E size v xs.length cs
 apart:∀(i j:Nat) (xs ys:List α) (u v:Value),i≠j->rows[i]? =some (some xs)->rows[j]? =some (some ys)->vs[i]? =some u->vs[j]? =some v->∀b,blk u=some b->blk v≠some b
def bW(H:Nat->Prop)(w:World)(ρ:Nat->Value)(M:Nat->Prop):Nat×aB->Prop
 |(id,.box T cs)=>∃(b:Nat) (vs:List Value),ρ id= .pointer (some ⟨b,0,none⟩)/\M b/\w.heap[b]? =some (.cells vs.toArray T (0,0))/\aY (fK H w ρ) cs vs
 |(id,.arr t T xs)=>∃cells,cC (fun c x=>t.rep H w c x) cells xs/\rowAt M w T t.w (ρ id) xs.length cells
 |(id,.win t T pre xs post)=>∃g cap cells cur,cC (fun c x=>t.rep H w c x) cells (pre++(xs++post))/\ρ id= .slice (some ⟨g,pre.length*t.w,none⟩) xs.length cap/\M g/\
   w.heap[g]? =some (.cells cur T (0,0))/\xs.length<=cap/\cap<=maxLen/\pre.length+cap<=maxLen/\(pre.length+cap)*t.w<=cur.size/\post.length+xs.length<=cap/\cur.toList.take ((pre++(xs++post)).length*t.w)=cells
 |(id,.que t T xs)=>∃cells,cC (fun c x=>t.rep H w c x) cells xs/\mR M w T t.w (ρ id) xs.length cells
 |(id,.mat t T E rows idx)=>∃(h:Value) (vs cells:List Value),ρ id= .tuple ⟨h::vs⟩/\qG (fun c x=>t.rep H w c x) t.w M w T E rows idx h vs cells
def hot(O:Nat->Prop)(ρ:Nat->Value)(own:List (Nat×aB))(b:Nat):Prop:=O b∨∃p∈own,Blk (ρ p.1) b
structure Fits (X:Cx) (s:aa) (a:Act) (w:World) (ρ:Nat->Value):Prop where
 env:∀e∈s.env,fL (hot X.O ρ s.own) w ρ e.2 (a.tmps.getD e.1 undef)
 own:∀p∈s.own,bW (hot X.O ρ s.own) w ρ X.M p
 io:∀p∈s.own,ioB<=p.1->X.T.free.contains p.1=false->ρ p.1=X.ρ0 p.1
 apart:s.own.Pairwise fun p q=>p.1≠q.1/\∀b,Blk (ρ p.1) b-> ¬Blk (ρ q.1) b
def av.On(B:av)(w:World):Prop:=B.n<=w.heap.size/\∀b,b<B.n->w.heap[b]? =B.heap b
structure Sm (X:Cx):Prop where
 n:X.T.N<=ioB
 on:X.T.base.On X.w0
 io:∀b,X.I b->X.T.base.n<=b
 pin:∀b v t,get? X.T.pins b=some (v,t)->b<X.w0.heap.size/\ ¬X.I b/\ ¬X.O b/\X.w0.heap[b]? =some (.cells #[v] t (0,0))
structure St (X:Cx) (s:aa) (a:Act) (w:World):Prop where
 marks:Marks X.q X.w0.heap.size a.defers w
 kept:∀t∈X.T.keep,a.tmps.getD t undef=X.tm t
 size:a.tmps.size=X.T.N
 below:Bel X.M X.w0 w
 others:∀b,X.O b-> ¬X.M b
 small:Sm X
 fits:∃ ρ,Fits X s a w ρ
def post(X:Cx)(K:Exit->aa->Prop)(e:Exit)(a:Act)(w:World):Prop:=∃s,K e s/\St X s a w
def J(X:Cx)(c:Code)(s:aa)(K:Exit->aa->Prop):Prop:=∀a w,St X s a w->c.wpIn (fw X.r) 2 X.P (post X K) a w
section
variable {M:Nat->Prop} {a b c w:World}
theorem Bel.refl(M:Nat->Prop)(w:World):Bel M w w:=⟨rfl,rfl,rfl,Oa _,fun _ _ _=>rfl⟩
theorem Bel.trans{M':Nat->Prop}(h:Bel M a b)(k:Bel M' b c)(hM:∀j,j<a.heap.size->M' j->M j):Bel M a c:=
 ⟨k.os.trans h.os,k.tape.trans h.tape,k.output.trans h.output,Og h.size k.size,fun i hi hn=>(k.block i (OC hi h.size) (fun hm=>hn (hM i hi hm))).trans (h.block i hi hn)⟩
theorem Bel.drew(h:Bel M a w):Bel M a w.drew:=⟨h.os,h.tape,h.output,h.size,h.block⟩
theorem Bel.alloc(h:Bel M a w)(o:Obj):Bel M a (w.alloc o):=
 ⟨h.os,h.tape,h.output,by show a.heap.size<=(w.heap.push o).size;rw[Array.size_push];exact Nat.le_succ_of_le h.size,fun k hk hn=>(Below.heap_alloc w o k (OC hk h.size)).trans (h.block k hk hn)⟩
theorem Bel.setCell{p:Addr}(hp:M p.block)(h:Bel M a w)(v:Value):Bel M a (w.setCell p v):=
 ⟨h.os,h.tape,h.output,by simpa [World.setCell] using h.size,fun k hk hn=>(Below.heap_setCell w p v k (fun e=>hn (e▸hp))).trans (h.block k hk hn)⟩
theorem Cx.M_new{X:Cx}{w:World}(h:Bel X.M X.w0 w):X.M w.heap.size:= .inl h.size
theorem jv(M:Nat->Prop)(w:World)(e:TypeId)(size:Nat):rowAt M w e size (.slice none 0 0) 0 []:=⟨by simp,.inl ⟨rfl,rfl⟩⟩
end
theorem St.on{X:Cx}{s:aa}{a:Act}{w:World}(h:St X s a w):X.T.base.On w:=by
 have hs:=h.below.size;refine⟨Og h.small.on.1 hs,fun b hb=>?_⟩;have h1:=h.small.on.1;rw[<- h.small.on.2 b hb];refine h.below.block b (by omega) ?_;rintro(hm|hm);·omega
 ·have:=h.small.io b hm;omega
def Tab.On(T:Tab)(w:World):Prop:=T.base.On w/\∀b v t,get? T.pins b=some (v,t)->w.heap[b]? =some (.cells #[v] t (0,0))
theorem St.onT{X:Cx}{s:aa}{a:Act}{w:World}(h:St X s a w):X.T.On w:=by
 refine⟨h.on,fun b v t hp=>?_⟩;obtain⟨h1,h2,h3,h4⟩:=h.small.pin b v t hp;rw[<- h4];refine h.below.block b h1 ?_;rintro(hm|hm);·omega
 ·exact h2 hm
theorem Marks.nil(q:Bool)(B:Nat)(w:World):Marks q B [] w:=⟨fun _=>rfl,fun d hd=>by simp at hd,.nil⟩
theorem Marks.keep{q:Bool}{B:Nat}{ds:List Deferred}{w w':World}(h:Marks q B ds w)(hk:KeepsOthers w w'):Marks q B ds w':=
 ⟨h.quiet,fun d hd=>by obtain⟨D,h1,h2,h3⟩:=h.each d hd;exact⟨D,h1,h2,hk.same D _ h3 rfl⟩,h.apart⟩
theorem KeepsOthers.of_bel{M:Nat->Prop}{w w':World}(h:Bel M w w')(hM:∀b,b<w.heap.size->M b->∃o:Obj,w.heap[b]? =some o/\o.isCells=true):KeepsOthers w w':=by
 refine⟨h.size,fun k o hk ho=>?_⟩;have hlt:=(BY.1 hk).1;refine(h.block k hlt fun hm=>?_).trans hk;obtain⟨o',h1,h2⟩:=hM k hlt hm;rw[hk] at h1;cases h1;rw[h2] at ho;cases ho
end Go.Cm
end
section
namespace Go.Cm
open Go.RowKit
theorem aY.length{α β:Type}{R:α->β->Prop}:∀{as:List α} {bs:List β},aY R as bs->as.length=bs.length
 | [],[],_=>rfl
 |_::_,_::_,h=>by simp[aY.length h.2]
 | [],_::_,h=>h.elim
 |_::_,[],h=>h.elim
theorem aY.imp{α β:Type}{R R':α->β->Prop}:∀{as:List α} {bs:List β},(∀a b,a∈as->R a b->R' a b)->aY R as bs->aY R' as bs
 | [],[],_,_=>trivial
 |a::as,b::bs,h,h'=>⟨h a b (by simp) h'.1,h'.2.imp (fun a b ha=>h a b (by simp[ha]))⟩
 | [],_::_,_,h=>h.elim
 |_::_,[],_,h=>h.elim
theorem aY.append{α β:Type}{R:α->β->Prop}:∀{as as':List α} {bs bs':List β},aY R as bs->aY R as' bs'->aY R (as++as') (bs++bs')
 | [],_,[],_,_,h=>h
 |_::_,_,_::_,_,h,h'=>⟨h.1,h.2.append h'⟩
 | [],_,_::_,_,h,_=>h.elim
 |_::_,_,[],_,h,_=>h.elim
theorem aY.take{α β:Type}{R:α->β->Prop}:∀(n:Nat) {as:List α} {bs:List β},aY R as bs->aY R (as.take n) (bs.take n)
 |0,_,_,_=>by simp[aY]
 |n+1,[],[],_=>by simp[aY]
 |n+1,_::_,_::_,h=>⟨h.1,h.2.take n⟩
 |_+1,[],_::_,h=>h.elim
 |_+1,_::_,[],h=>h.elim
theorem aY.drop{α β:Type}{R:α->β->Prop}:∀(n:Nat) {as:List α} {bs:List β},aY R as bs->aY R (as.drop n) (bs.drop n)
 |0,_,_,h=>by simpa using h
 |n+1,[],[],_=>by simp[aY]
 |n+1,_::_,_::_,h=>h.2.drop n
 |_+1,[],_::_,h=>h.elim
 |_+1,_::_,[],h=>h.elim
theorem aY.get{α β:Type}{R:α->β->Prop}:∀{as:List α} {bs:List β},aY R as bs->∀{i:Nat} {a:α},as[i]? =some a->∃b,bs[i]? =some b/\R a b
 |a::_,b::_,h,0,_,e=>by simp at e;subst e;exact⟨b,rfl,h.1⟩
 |_::_,_::_,h,i+1,_,e=>by simpa using h.2.get (by simpa using e)
 | [],_,_,_,_,e=>by simp at e
 |_::_,[],h,_,_,_=>h.elim
theorem get?_mem{α:Type}:∀{l:List (Nat×α)} {n:Nat} {x:α},get? l n=some x->(n,x)∈l
 |(k,y)::r,n,x,h=>by
  simp only[get?] at h;split at h;·rename_i e;simp at h;simp[e,h]
  ·exact OF _ (get?_mem h)
theorem bC{α:Type}:∀{l:List (Nat×α)} {n:Nat} {p:Nat×α},p∈del l n↔p∈l/\p.1≠n
 | [],_,_=>by simp[del]
 |(k,y)::r,n,p=>by
  simp only[del];split
  ·rename_i e;rw[bC];constructor;·rintro⟨h,h'⟩;exact⟨OF _ h,h'⟩
   ·(rintro⟨h,h'⟩;rcases IS.1 h with rfl|h;·exact absurd e h');·exact⟨h,h'⟩
  ·rename_i e;rw[IS,bC,IS];constructor
   ·(rintro(rfl|⟨h,h'⟩);·exact⟨.inl rfl,e⟩);·exact⟨.inr h,h'⟩
   ·(rintro⟨rfl|h,h'⟩;·exact .inl rfl);·exact .inr ⟨h,h'⟩
theorem Ty.rep_zero(H:Nat->Prop)(w:World):∀(t:Ty) {x:t.D},t.zero=some x->t.rep H w t.zeroCells x
 | .int _,_,h=>by simp[Ty.zero] at h;subst h;rfl
 | .bool,_,h=>by simp[Ty.zero] at h;subst h;rfl
 | .str,_,h=>by simp[Ty.zero] at h;subst h;rfl
 | .unit,_,_=>rfl
 | .pair a b,x,h=>by
  simp only[Ty.zero] at h;split at h;·rename_i y z hy hz;simp at h;subst h;exact⟨_,_,rfl,a.rep_zero H w hy,b.rep_zero H w hz⟩
  ·simp at h
 | .st t,_,h=>t.rep_zero H w (x:=_) h
 | .arr n t,x,h=>by
  simp only[Ty.zero] at h;split at h;·rename_i y hy;simp at h;subst h;exact⟨by simp,eC (t.rep_zero H w hy) n⟩
  ·simp at h
 | .slice _,_,h=>by simp[Ty.zero] at h;subst h;exact .inl ⟨rfl,rfl⟩
 | .ptr _,_,h=>by simp[Ty.zero] at h
 | .opt _,_,h=>by simp[Ty.zero] at h;subst h;rfl
 | .func,_,h=>by simp[Ty.zero] at h
def mkV(agg:Bool)(cs:List Value):Value:=
 match agg with
 |true=> .agg cs.toArray
 |false=>cs.headD undef
def Shape(P:Program)(d:TypeDesc):Ty->Prop
 | .int k=>d= .int k
 | .bool=>d= .bool
 | .str=>d= .string
 | .unit=>False
 | .pair _ _=>False
 | .st t=>∃fs,d= .struct fs/\fs.size=t.fields.length/\∀k,k<t.fields.length->∃f j e,fs[k]? =some f/\f.offset=t.fieldOff k/\P.info? f.type=some j/\j.size=(t.fieldTy k).w/\j.size≠0/\P.underlying f.type=some e/\e.isRow=(t.fieldTy k).isAgg/\((t.fieldTy k).isAgg=false->(t.fieldTy k).w=1)
 | .arr n t=>∃e j d',d= .array n e/\P.info? e=some j/\j.size=t.w/\P.underlying e=some d'/\d'.isRow=t.isAgg/\(t.isAgg=false->t.w=1)
 | .slice t=>∃e j,d= .slice e/\P.info? e=some j/\j.size=t.w/\j.bytes<=24*t.w/\j.zero=some (mkV t.isAgg t.zeroCells)/\(t.isAgg=false->t.w=1)
 | .ptr _| .opt _=>∃e,d= .pointer e
 | .func=>∃a b c,d= .func a b c
def cE(P:Program)(T:TypeId)(t:Ty):Prop:=
 ∃i d,P.info? T=some i/\P.underlying T=some d/\i.size=t.w/\d.isRow=t.isAgg/\i.zero=some (mkV t.isAgg t.zeroCells)/\Shape P d t
structure cT (P:Program) (T:Tab):Prop where
 types:∀t u,get? T.types t=some u->cE P t u
 elems:∀t e,get? T.elems t=some e->P.underlying t=some (.slice e)
 small:T.N<=ioB
 globs:∀g xs,get? T.globs g=some xs->∀w,T.base.On w->∀j (h:j<xs.length),w.cell? ⟨g,j,none⟩=some (.int .i64 xs[j]):=by intro _ _ h;cases h
def eE:Value->Bool
 | .agg _=>true
 |_=>false
theorem qH{H:Nat->Prop}{w:World}{ρ:Nat->Value}{t:Ty}{x:t.D}{v:Value}:aJ H w ρ (.z t x) v↔eE v=t.isAgg/\t.rep H w v.cells.toList x:=Iff.rfl
theorem gz{H:Nat->Prop}{w:World}{ρ:Nat->Value}{t:Ty}{x:t.D}{cs:List Value}(h:t.rep H w cs x)(hw:t.isAgg=false->t.w=1)(h1:t.isAgg=false->∀c∈cs,c.oneCell'=true):aJ H w ρ (.z t x) (mkV t.isAgg cs):=by
 rw[qH];cases ha:t.isAgg with
 |true=>exact⟨rfl,by simpa [mkV,Value.cells] using h⟩
 |false=>
  have hl:=t.rep_length h;rw[hw ha] at hl;match cs,hl with
  | [c],_=>
   have hc:=h1 ha c (by simp);cases c<;>first
    |(simp[Value.oneCell'] at hc;done)
    |exact⟨rfl,h⟩
theorem Ty.w_of_leaf{t:Ty}(h:t.isAgg=false)(hu:t≠ .unit)(hp:∀a b,t≠ .pair a b):t.w=1:=by
 cases t<;>first
  |rfl
  |exact absurd rfl hu
  |exact absurd rfl (hp _ _)
  |simp[Ty.isAgg] at h
theorem Ty.rep_oneCell{H:Nat->Prop}{w:World}:∀(t:Ty) {cs:List Value} {x:t.D},t.rep H w cs x->∀c∈cs,c.oneCell'=true
 | .int _,_,_,h=>by rw[show _=_ from h];simp[Value.oneCell']
 | .bool,_,_,h=>by rw[show _=_ from h];simp[Value.oneCell']
 | .str,_,_,h=>by rw[show _=_ from h];simp[Value.oneCell']
 | .func,_,_,h=>by rw[show _=_ from h];simp[Value.oneCell']
 | .unit,_,_,h=>by rw[show _=_ from h];simp
 | .pair a b,_,_,⟨c,d,e,h1,h2⟩=>by
  intro v hv;rw[e] at hv;rcases Oq.1 hv with hv|hv;·exact a.rep_oneCell h1 v hv
  ·exact b.rep_oneCell h2 v hv
 | .st t,_,_,h=>t.rep_oneCell (cs:=_) h
 | .arr n t,cs,x,⟨_,h⟩=>by
  have key:∀{xs:List t.D} {cs:List Value},cC (fun c y=>t.rep H w c y) cs xs->∀c∈cs,c.oneCell'=true:=by
   intro xs;induction xs with
   |nil=>intro cs h;simp[cC] at h;simp[h]
   |cons y ys ih=>
    (rintro cs ⟨c,d,e,h1,h2⟩ v hv;rw[e] at hv;rcases Oq.1 hv with hv|hv;·exact t.rep_oneCell h1 v hv);·exact ih h2 v hv
  exact key h
 | .slice t,_,_,h=>by
  rcases h with⟨e,_⟩|⟨b,o,p,cap,cells,e,_⟩<;>rw[e]<;>simp[Value.oneCell']
 | .ptr t,_,_,⟨b,o,cells,e,h1,h2⟩=>by rw[e];simp[Value.oneCell']
 | .opt t,_,x,h=>by
  cases x with
  |none=>rw[show _=_ from h];simp[Value.oneCell']
  |some y=>obtain⟨b,o,cells,e,h1,h2⟩:=h;rw[e];simp[Value.oneCell']
theorem eS{H:Nat->Prop}{w:World}{t:Ty}:∀{xs:List t.D} {cs:List Value},cC (fun c y=>t.rep H w c y) cs xs->∀c∈cs,c.oneCell'=true
 | [],_,h=>by simp[cC] at h;simp[h]
 |y::ys,_,⟨c,d,e,h1,h2⟩=>by
  intro v hv;rw[e] at hv;rcases Oq.1 hv with hv|hv;·exact t.rep_oneCell h1 v hv
  ·exact eS h2 v hv
theorem gG{H:Nat->Prop}{w:World}{ρ:Nat->Value}{P:Program}{T:TypeId}{t:Ty}(ht:cE P T t){x:t.D}{cs:List Value}(h:t.rep H w cs x):aJ H w ρ (.z t x) (mkV t.isAgg cs):=by
 obtain⟨i,d,_,_,_,_,_,hs⟩:=ht;refine gz h (fun ha=>Ty.w_of_leaf ha ?_ ?_) (fun _=>t.rep_oneCell h);·rintro rfl;exact hs
 ·rintro a b rfl;exact hs
theorem qI{H:Nat->Prop}{w:World}{ρ:Nat->Value}(v:Value):aJ H w ρ (ez v) v:=by
 cases v<;>first
  |exact⟨rfl,rfl⟩
  |(refine⟨rfl,?_⟩;simp[Value.cells,Ty.rep];done)
  |rfl
theorem bJ{X:Cx}{s:aa}{a:Act}{w:World}{ρ:Nat->Value}(h:Fits X s a w ρ){x:Operand}{v:AV}(he:aP s x=some v):fL (hot X.O ρ s.own) w ρ v (a.eval x):=by
 cases x with
 |tmp t=>exact h.env (t,v) (get?_mem he)
 |const c=>simp[aP] at he;subst he;exact qI c
 |global g=>simp[aP] at he;subst he;rfl
 |func f=>simp[aP] at he;subst he;rfl
theorem ax{X:Cx}{s:aa}{a:Act}{w:World}{ρ:Nat->Value}(h:Fits X s a w ρ){x:Operand}{v:LV}(he:leaf (aP s x)=some v):aJ (hot X.O ρ s.own) w ρ v (a.eval x):=by
 cases ho:aP s x with
 |none=>simp[ho,leaf] at he
 |some u=>
  have:=bJ h ho;cases u<;>simp[ho,leaf] at he;subst he;exact this
theorem DL{P:Program}{T:TypeId}{t:Ty}(ht:cE P T t)(w:World):(isAgg T).run P w= .ok t.isAgg w:=by
 obtain⟨i,d,hi,hu,_,hr,_⟩:=ht;unfold isAgg;rw[Sem.run_bind,run_underlying hu w];rw[<- hr];cases d<;>simp[TypeDesc.isRow]
theorem cI{P:Program}{T:TypeId}{t:Ty}(ht:cE P T t){w:World}{b o:Nat}{cells:List Value}(hl:cells.length=t.w)(hc:∀j,j<cells.length->w.cell? ⟨b,o+j,none⟩=cells[j]?):
  (Instr.loadAt T (.pointer (some ⟨b,o,none⟩))).run P w= .ok (mkV t.isAgg cells) w:=by
 have hagg:=DL ht w;have ht':=ht;obtain⟨i,d,hi,hu,hsz,hr,_,hs⟩:=ht;cases ha:t.isAgg with
 |true=>
  refine run_loadAt_mid w b o T cells d (fun j v hv=>?_) hu (by rw[hr,ha]) (by simp[hi,hsz,hl]);rw[hc j (Oh.1 hv).1,hv]
 |false=>
  have hw:t.w=1:=Ty.w_of_leaf ha (by rintro rfl;exact hs) (by rintro a b rfl;exact hs);rw[hw] at hl;match cells,hl with
  | [c],_=>
   have h0:=hc 0 (by simp);simp only[Qr,List.getElem?_cons_zero] at h0;rw[ha] at hagg;simp[Instr.loadAt,Instr.sureAddr,loadVar,Sem.run_bind,hagg,h0,mkV]
theorem zu(t:Ty)(xs:List t.D)(i:Int)(h0:0<=i)(h:i<xs.length):∃hi:i.toNat<xs.length,nth t xs i=xs[i.toNat]:=by
 have hi:i.toNat<xs.length:=by omega
 exact⟨hi,by simp[nth,PY,hi]⟩
theorem dB.sub{H:Nat->Prop}{w:World}{b o:Nat}{cells:List Value}(h:dB H w b o cells)(i n:Nat):dB H w b (o+i) ((cells.drop i).take n):=by
 refine⟨fun hne=>h.1 (by rintro rfl;simp at hne),fun j hj=>?_⟩;have hj':j<n/\i+j<cells.length:=by
  simp only[Of,Om] at hj;omega
 rw[QX,h.2 (i+j) hj'.2,PD hj'.1,Qj]
theorem FG{H:Nat->Prop}{w:World}{t:Ty}{xs:List t.D}{v:Value}{ρ:Nat->Value}(h:aJ H w ρ (.z (.slice t) xs) v){i:Int}(h0:0<=i)(hi:i<xs.length):
  ∃b o cap,v= .slice (some ⟨b,o,none⟩) xs.length cap/\aJ H w ρ (.z (.ptr t) (nth t xs i)) (.pointer (some ⟨b,o+i.toNat*t.w,none⟩)):=by
 rw[qH] at h;obtain⟨ha,h⟩:=h;have hv:v.cells.toList=[v]:=by
  cases v<;>simp[eE,Ty.isAgg] at ha<;>rfl
 rw[hv] at h;rcases h with⟨_,he⟩|⟨b,o,p,cap,cells,he,hp,h1,h2,h3,h4⟩;·subst he;simp at hi;omega
 ·simp at he;obtain rfl:=hp (by intro e;subst e;simp at hi;omega);obtain⟨hlt,hn⟩:=zu t xs i h0 hi;refine⟨b,o,cap,he,?_⟩;rw[qH];refine⟨rfl,b,o+i.toNat*t.w,(cells.drop (i.toNat*t.w)).take t.w,rfl,?_,h4.sub _ _⟩;rw[hn];exact fH (fun c x h=>t.rep_length h) h3 i.toNat hlt
theorem tX{H:Nat->Prop}{w:World}{t:Ty}{xs:List t.D}{v:Value}{ρ:Nat->Value}(h:aJ H w ρ (.z (.slice t) xs) v):∃a cap,v= .slice a xs.length cap/\xs.length<=cap/\cap<=maxLen:=by
 rw[qH] at h;obtain⟨ha,h⟩:=h;have hv:v.cells.toList=[v]:=by
  cases v<;>simp[eE,Ty.isAgg] at ha<;>rfl
 rw[hv] at h;rcases h with⟨he,hx⟩|⟨b,o,p,cap,cells,he,hp,h1,h2,h3,h4⟩;·simp at he;subst hx;exact⟨none,0,he,by simp,by simp⟩
 ·simp at he;exact⟨_,cap,he,h1,h2⟩
theorem bm{H:Nat->Prop}{w:World}{k:IntKind}{x:Int}{v:Value}{ρ:Nat->Value}(h:aJ H w ρ (.z (.int k) x) v):v= .int k x:=by
 obtain⟨ha,h⟩:=h;cases v<;>simp[Ty.isAgg,Value.cells,Ty.rep] at ha h ⊢<;>exact h
theorem cO{H:Nat->Prop}{w:World}{x:Bool}{v:Value}{ρ:Nat->Value}(h:aJ H w ρ (.z .bool x) v):v= .bool x:=by
 obtain⟨ha,h⟩:=h;cases v<;>simp[Ty.isAgg,Value.cells,Ty.rep] at ha h ⊢<;>exact h
theorem gA{H:Nat->Prop}{w:World}{x:List UInt8}{v:Value}{ρ:Nat->Value}(h:aJ H w ρ (.z .str x) v):v= .string ⟨x.toArray⟩:=by
 obtain⟨ha,h⟩:=h;cases v<;>simp[Ty.isAgg,Value.cells,Ty.rep] at ha h ⊢<;>exact h
theorem lA{H:Nat->Prop}{w:World}{t:Ty}{x:t.D}{v:Value}{ρ:Nat->Value}(h:aJ H w ρ (.z (.ptr t) x) v):∃b o cells,v= .pointer (some ⟨b,o,none⟩)/\t.rep H w cells x/\dB H w b o cells:=by
 obtain⟨ha,h⟩:=h;cases v<;>simp[Ty.isAgg,Value.cells,Ty.rep] at ha h;obtain⟨b,o,he,cells,h1,h2⟩:=h;exact⟨b,o,cells,by rw[he],h1,h2⟩
theorem IX{H:Nat->Prop}{w:World}{n:Nat}{t:Ty}{x:List t.D}{v:Value}{ρ:Nat->Value}(h:aJ H w ρ (.z (.arr n t) x) v):∃cs:List Value,v= .agg cs.toArray/\x.length=n/\cC (fun c y=>t.rep H w c y) cs x:=by
 obtain⟨ha,h⟩:=h;cases v<;>simp[Ty.isAgg] at ha;rename_i cs;obtain⟨h1,h2⟩:=h;exact⟨cs.toList,by simp,h1,by simpa [Value.cells] using h2⟩
theorem vO{H:Nat->Prop}{w:World}{t:Ty}{x:t.D}{v:Value}{ρ:Nat->Value}(h:aJ H w ρ (.z (.st t) x) v):∃cs:List Value,v= .agg cs.toArray/\t.rep H w cs x:=by
 obtain⟨ha,h⟩:=h;cases v<;>simp[Ty.isAgg] at ha;rename_i cs;exact⟨cs.toList,by simp,by simpa [Value.cells,Ty.rep] using h⟩
theorem bP{H:Nat->Prop}{w:World}{ρ:Nat->Value}{k:IntKind}{n:Int}:aJ H w ρ (.z (.int k) n) (.int k n):=⟨rfl,rfl⟩
theorem bQ{H:Nat->Prop}{w:World}{ρ:Nat->Value}{b:Bool}:aJ H w ρ (.z .bool b) (.bool b):=⟨rfl,rfl⟩
theorem fb{H:Nat->Prop}{w:World}{ρ:Nat->Value}{l:List UInt8}:aJ H w ρ (.z .str l) (.string ⟨l.toArray⟩):=⟨rfl,rfl⟩
theorem zv{P:Program}{w:World}{op:BinOp}{k k':IntKind}{a b:Int}{ty:TypeId}{C:Prop}{v:LV}(h:dE op k a k' b=some (C,v))(hC:C)(H:Nat->Prop)(ρ:Nat->Value):
  ∃val,(binOp op ty (.int k a) (.int k' b)).run P w= .ok val w/\aJ H w ρ v val:=by
 cases op<;>simp only[dE] at h<;>(first|(split at h;rotate_left;(· simp at h);(try subst_vars))|skip)<;>simp only[PV,Prod.mk.injEq] at h<;>obtain⟨rfl,rfl⟩:=h;case shl=>
  exact⟨_,by simp[binOp,Op.shift,show ¬b<0 by omega],bP⟩
 case shr=>
  exact⟨_,by simp[binOp,Op.shift,show ¬b<0 by omega],bP⟩
 case add=>exact⟨_,by simp[binOp,Op.intArith],bP⟩
 case sub=>exact⟨_,by simp[binOp,Op.intArith],bP⟩
 case mul=>exact⟨_,by simp[binOp,Op.intArith],bP⟩
 case quo=>exact⟨_,by simp[binOp,Op.intDiv,hC],bP⟩
 case rem=>exact⟨_,by simp[binOp,Op.intDiv,hC],bP⟩
 case and=>exact⟨_,by simp[binOp,Op.intBits],bP⟩
 case or=>exact⟨_,by simp[binOp,Op.intBits],bP⟩
 case xor=>exact⟨_,by simp[binOp,Op.intBits],bP⟩
 case andNot=>exact⟨_,by simp[binOp,Op.intBits],bP⟩
 case eql=>exact⟨_,by simp[binOp,Op.intCmp],bQ⟩
 case neq=>exact⟨_,by simp[binOp,Op.intCmp],bQ⟩
 case lss=>exact⟨_,by simp[binOp,Op.intCmp],bQ⟩
 case leq=>exact⟨_,by simp[binOp,Op.intCmp],bQ⟩
 case gtr=>exact⟨_,by simp[binOp,Op.intCmp],bQ⟩
 case geq=>exact⟨_,by simp[binOp,Op.intCmp],bQ⟩
theorem zw{P:Program}{w:World}{op:BinOp}{a b:List UInt8}{ty:TypeId}{C:Prop}{v:LV}(h:me op a b=some (C,v))(hC:C)(H:Nat->Prop)(ρ:Nat->Value):
  ∃val,(binOp op ty (.string ⟨a.toArray⟩) (.string ⟨b.toArray⟩)).run P w= .ok val w/\aJ H w ρ v val:=by
 have e1:(⟨a.toArray⟩:ByteArray).toList=a:=by rw[ByteArray.toList_eq]
 have e2:(⟨b.toArray⟩:ByteArray).toList=b:=by rw[ByteArray.toList_eq]
 cases op<;>simp only[me] at h<;>(first|(simp at h;done)|skip)<;>simp only[PV,Prod.mk.injEq] at h<;>obtain⟨rfl,rfl⟩:=h;case add=>
  have hle:¬((((⟨a.toArray⟩:ByteArray).size+(⟨b.toArray⟩:ByteArray).size:Nat):Int)>IN.max):=by
   (have:IN.max=9223372036854775807:=by decide);have hm:maxLen=9223372036854775807:=rfl;(have s1:(⟨a.toArray⟩:ByteArray).size=a.length:=by simp[ByteArray.size]);(have s2:(⟨b.toArray⟩:ByteArray).size=b.length:=by simp[ByteArray.size]);rw[this,s1,s2];omega
  refine⟨_,by simp only[binOp,Op.stringOp,hle,if_false];rfl,?_⟩;have:(⟨a.toArray⟩:ByteArray)++⟨b.toArray⟩=⟨(a++b).toArray⟩:=by
   ext1;simp
  rw[this];exact fb
 case eql=>exact⟨_,by simp only[binOp,Op.stringOp,e1,e2];rfl,bQ⟩
 case neq=>
  refine⟨_,by simp only[binOp,Op.stringOp,e1,e2];rfl,?_⟩;exact bQ
theorem ck{v:Value}(h:eE v=false):v.cells.toList=[v]:=by
 cases v<;>simp[eE] at h<;>rfl
theorem bz{v:Value}(h:v.oneCell'=true):eE v=false:=by
 cases v<;>simp[Value.oneCell',eE] at h ⊢
theorem LV.get_ok{H:Nat->Prop}{w:World}{ρ:Nat->Value}{t:Ty}{c:LV}{x:t.D}{v:Value}(hg:c.get t=some x)(h:aJ H w ρ c v):aJ H w ρ (.z t x) v:=by
 cases c with
 |z u y=>
  simp only[LV.get] at hg;split at hg;·rename_i e;subst e;simp at hg;subst hg;exact h
  ·simp at hg
 |val u=>
  have hv:v=u:=h;subst hv;cases t<;>simp[LV.get] at hg;case slice t=>
   obtain⟨hn,hx⟩:=hg;cases v<;>simp[gO] at hn;rename_i a n c;obtain⟨⟨rfl,rfl⟩,rfl⟩:=hn;refine⟨rfl,.inl ⟨rfl,hx⟩⟩
  case opt t=>
   obtain⟨hn,hx⟩:=hg;cases v<;>simp[isNilP] at hn;subst hn;refine⟨rfl,?_⟩;subst hx;rfl
 |ownS=>simp[LV.get] at hg
 |ownP=>simp[LV.get] at hg
 |ownE=>simp[LV.get] at hg
 |ownW=>simp[LV.get] at hg
 |ownM=>simp[LV.get] at hg
 |ownA=>simp[LV.get] at hg
 |ownR=>simp[LV.get] at hg
 |ownB=>simp[LV.get] at hg
 |fn=>simp[LV.get] at hg
 |junk=>simp[LV.get] at hg
theorem xi{α:Type}{H:Nat->Prop}{w:World}{ρ:Nat->Value}{f:List LV->Option (α×List LV)}{R:List Value->α->Prop}(hf:∀{cs r:List LV} {x:α} {vs:List Value},f cs=some (x,r)->aY (fK H w ρ) cs vs->∃v1 v2,vs=v1++v2/\R v1 x/\aY (fK H w ρ) r v2):∀(n:Nat) {cs r:List LV} {xs:List α} {vs:List Value},iU f n cs=some (xs,r)->aY (fK H w ρ) cs vs->∃v1 v2,vs=v1++v2/\(xs.length=n/\cC R v1 xs)/\aY (fK H w ρ) r v2
 |0,cs,r,xs,vs,hj,h=>by
  simp only[iU,PV,Prod.mk.injEq] at hj;obtain⟨rfl,rfl⟩:=hj;exact⟨[],vs,rfl,⟨rfl,rfl⟩,h⟩
 |n+1,cs,r,xs,vs,hj,h=>by
  simp only[iU] at hj;split at hj
  ·(rename_i x l hx;split at hj;·rename_i ys l' hy;simp only[PV,Prod.mk.injEq] at hj;obtain⟨rfl,rfl⟩:=hj;obtain⟨v1,v2,rfl,h1,h2⟩:=hf hx h;obtain⟨v3,v4,rfl,⟨h3,h4⟩,h5⟩:=xi hf n hy h2;exact⟨v1++v3,v4,by simp,⟨by simp[h3],v1,v3,rfl,h1,h4⟩,h5⟩);·cases hj
  ·cases hj
theorem Ty.join_ok{H:Nat->Prop}{w:World}{ρ:Nat->Value}:∀(t:Ty) {cs r:List LV} {x:t.D} {vs:List Value},t.join cs=some (x,r)->aY (fK H w ρ) cs vs->∃v1 v2,vs=v1++v2/\t.rep H w v1 x/\aY (fK H w ρ) r v2:=by
 have one:∀(t:Ty),t.isAgg=false->∀{c:LV} {cs r:List LV} {x:t.D} {vs:List Value},(c.get t).map (fun y=>(y,cs))=some (x,r)->aY (fK H w ρ) (c::cs) vs->∃v1 v2,vs=v1++v2/\t.rep H w v1 x/\aY (fK H w ρ) r v2:=by
  intro t ha c cs r x vs hj h;obtain⟨y,hy,hj⟩:=Se.1 hj;simp at hj;obtain⟨rfl,rfl⟩:=hj;match vs,h with
  |v::vs,h=>
   have:=LV.get_ok hy h.1.1;have hc:=ck (bz h.1.2);refine⟨[v],vs,rfl,?_,h.2⟩;have h2:=this.2;rw[hc] at h2;exact h2
 intro t;induction t with
 |unit=>intro cs r x vs hj h;simp[Ty.join] at hj;subst hj;exact⟨[],vs,rfl,rfl,h⟩
 |pair a b iha ihb=>
  intro cs r x vs hj h;simp only[Ty.join] at hj;split at hj
  ·(rename_i y l hy;split at hj;·rename_i z l' hz;simp at hj;obtain⟨rfl,rfl⟩:=hj;obtain⟨v1,v2,rfl,h1,h2⟩:=iha hy h;obtain⟨v3,v4,rfl,h3,h4⟩:=ihb hz h2;exact⟨v1++v3,v4,by simp,⟨v1,v3,rfl,h1,h3⟩,h4⟩);·simp at hj
  ·simp at hj
 |st t ih=>intro cs r x vs hj h;exact ih (by simpa [Ty.join] using hj) h
 |arr n t ih=>
  intro cs r x vs hj h;simp only[Ty.join] at hj;exact xi (fun a b=>ih a b) n hj h
 |func=>intro cs r x vs hj h;simp[Ty.join] at hj
 |int k=>intro cs r x vs hj h;cases cs with
  |nil=>simp[Ty.join] at hj
  |cons c cs=>exact one (.int k) rfl (by rw[<- hj];simp only[Ty.join];cases LV.get (.int k) c<;>rfl) h
 |bool=>intro cs r x vs hj h;cases cs with
  |nil=>simp[Ty.join] at hj
  |cons c cs=>exact one .bool rfl (by rw[<- hj];simp only[Ty.join];cases LV.get .bool c<;>rfl) h
 |str=>intro cs r x vs hj h;cases cs with
  |nil=>simp[Ty.join] at hj
  |cons c cs=>exact one .str rfl (by rw[<- hj];simp only[Ty.join];cases LV.get .str c<;>rfl) h
 |slice t=>intro cs r x vs hj h;cases cs with
  |nil=>simp[Ty.join] at hj
  |cons c cs=>exact one (.slice t) rfl (by rw[<- hj];simp only[Ty.join];cases LV.get (.slice t) c<;>rfl) h
 |ptr t=>intro cs r x vs hj h;cases cs with
  |nil=>simp[Ty.join] at hj
  |cons c cs=>exact one (.ptr t) rfl (by rw[<- hj];simp only[Ty.join];cases LV.get (.ptr t) c<;>rfl) h
 |opt t=>intro cs r x vs hj h;cases cs with
  |nil=>simp[Ty.join] at hj
  |cons c cs=>exact one (.opt t) rfl (by rw[<- hj];simp only[Ty.join];cases LV.get (.opt t) c<;>rfl) h
theorem AV.get_ok{H:Nat->Prop}{w:World}{ρ:Nat->Value}{t:Ty}{c:AV}{x:t.D}{v:Value}(hg:c.get t=some x)(h:fL H w ρ c v):aJ H w ρ (.z t x) v:=by
 cases c with
 |l c=>exact LV.get_ok (by simpa [AV.get] using hg) h
 |agg cs=>
  simp only[AV.get] at hg;split at hg
  ·rename_i y ha hj;simp at hg;subst hg;obtain⟨vs,rfl,hvs⟩:=h;obtain⟨v1,v2,rfl,h1,h2⟩:=t.join_ok hj hvs;have:v2=[]:=by cases v2 with
    |nil=>rfl
    |cons _ _=>exact h2.elim
   subst this;refine⟨ha.symm,?_⟩;simpa [Value.cells] using h1
  ·simp at hg
 |tup=>simp[AV.get] at hg
 |g=>simp[AV.get] at hg
 |gt=>simp[AV.get] at hg
theorem gY{H:Nat->Prop}{w:World}{ρ:Nat->Value}{t:Ty}{cs:List LV}{r:AV}{vs:List Value}(hr:dD t cs=some r)(h:aY (fK H w ρ) cs vs):fL H w ρ r (mkV t.isAgg vs):=by
 unfold dD at hr;split at hr
 ·rename_i ha;rw[ha];split at hr
  ·rename_i y _ hj;simp at hr;subst hr;obtain⟨v1,v2,rfl,h1,h2⟩:=t.join_ok hj h;have:v2=[]:=by cases v2 with
    |nil=>rfl
    |cons _ _=>exact h2.elim
   subst this;exact⟨by simp[mkV,ha],by simpa [mkV,Value.cells] using h1⟩
  ·simp at hr;subst hr;exact⟨vs,rfl,h⟩
 ·rename_i ha;rw[ha];split at hr
  ·simp at hr;subst hr;match vs,h with
   | [v],h=>exact h.1.1
  ·simp at hr
theorem Ty.rep_field{H:Nat->Prop}{w:World}:∀(k:Nat) (t:Ty) {cs:List Value} {x:t.D},t.rep H w cs x->k<t.fields.length->(t.fieldTy k).rep H w ((cs.drop (t.fieldOff k)).take (t.fieldTy k).w) (t.fieldOf k x)/\t.fieldOff k+(t.fieldTy k).w<=cs.length
 |0,.pair a b,cs,x,⟨c,d,e,h1,h2⟩,_=>by
  subst e;have hl:=a.rep_length h1;simp only[Ty.fieldOff,Ty.fieldTy,Ty.fieldOf,Oy,<- hl,Rh,Ol];exact⟨h1,by omega⟩
 |n+1,.pair a b,cs,x,⟨c,d,e,h1,h2⟩,hk=>by
  subst e;have hl:=a.rep_length h1;have:=b.rep_field n h2 (by simpa [Ty.fields] using hk);simp only[Ty.fieldOff,Ty.fieldTy,Ty.fieldOf,<- hl,<- PH,RH,Ol];exact⟨this.1,by omega⟩
 |0,.int k,cs,x,h,_=>by have hl:=Ty.rep_length (.int k) h;simp only[Ty.fieldOff,Ty.fieldTy,Ty.fieldOf,Oy,<- hl,OD];exact⟨h,by omega⟩
 |0,.bool,cs,x,h,_=>by have hl:=Ty.rep_length .bool h;simp only[Ty.fieldOff,Ty.fieldTy,Ty.fieldOf,Oy,<- hl,OD];exact⟨h,by omega⟩
 |0,.str,cs,x,h,_=>by have hl:=Ty.rep_length .str h;simp only[Ty.fieldOff,Ty.fieldTy,Ty.fieldOf,Oy,<- hl,OD];exact⟨h,by omega⟩
 |0,.func,cs,x,h,_=>by have hl:=Ty.rep_length .func h;simp only[Ty.fieldOff,Ty.fieldTy,Ty.fieldOf,Oy,<- hl,OD];exact⟨h,by omega⟩
 |0,.st t,cs,x,h,_=>by have hl:=Ty.rep_length (.st t) h;simp only[Ty.fieldOff,Ty.fieldTy,Ty.fieldOf,Oy,<- hl,OD];exact⟨h,by omega⟩
 |0,.arr n t,cs,x,h,_=>by have hl:=Ty.rep_length (.arr n t) h;simp only[Ty.fieldOff,Ty.fieldTy,Ty.fieldOf,Oy,<- hl,OD];exact⟨h,by omega⟩
 |0,.slice t,cs,x,h,_=>by have hl:=Ty.rep_length (.slice t) h;simp only[Ty.fieldOff,Ty.fieldTy,Ty.fieldOf,Oy,<- hl,OD];exact⟨h,by omega⟩
 |0,.ptr t,cs,x,h,_=>by have hl:=Ty.rep_length (.ptr t) h;simp only[Ty.fieldOff,Ty.fieldTy,Ty.fieldOf,Oy,<- hl,OD];exact⟨h,by omega⟩
 |0,.opt t,cs,x,h,_=>by have hl:=Ty.rep_length (.opt t) h;simp only[Ty.fieldOff,Ty.fieldTy,Ty.fieldOf,Oy,<- hl,OD];exact⟨h,by omega⟩
 |_,.unit,_,_,_,hk=>by simp[Ty.fields] at hk
 |n+1,.int _,_,_,_,hk|n+1,.bool,_,_,_,hk|n+1,.str,_,_,_,hk|n+1,.st _,_,_,_,hk|n+1,.arr _ _,_,_,_,hk|n+1,.slice _,_,_,_,hk|n+1,.ptr _,_,_,_,hk|n+1,.opt _,_,_,_,hk|n+1,.func,_,_,_,hk=>by
  simp[Ty.fields] at hk
theorem FH{P:Program}{w:World}{op:UnOp}{a v:LV}{val:Value}{H:Nat->Prop}{ρ:Nat->Value}(h:DK op a=some v)(ha:aJ H w ρ a val):
  ∃r,(Op.unary op val).run P w= .ok r w/\aJ H w ρ v r:=by
 unfold DK at h;split at h<;>simp at h<;>subst h;·rw[bm ha];exact⟨_,by simp[Op.unary,Op.intArith],bP⟩
 ·rw[cO ha];exact⟨_,by simp[Op.unary],bQ⟩
theorem run_equalIn_bool{P:Program}{w:World}{ty:TypeId}(hu:P.underlying ty=some .bool)(d:Nat)(a b:Bool):(Op.equalIn (d+1) ty (.bool a) (.bool b)).run P w= .ok (a==b) w:=by
 simp[Op.equalIn,run_underlying hu]
theorem kr{P:Program}{w:World}{ty e:TypeId}(hu:P.underlying ty=some (.pointer e))(d:Nat)(a:Option Addr):(Op.equalIn (d+1) ty (.pointer a) (.pointer none)).run P w= .ok a.isNone w:=by
 cases a<;>simp[Op.equalIn,run_underlying hu]
theorem run_eql_bool{P:Program}{w:World}{ty:TypeId}(hu:P.underlying ty=some .bool)(a b:Bool):(binOp .eql ty (.bool a) (.bool b)).run P w= .ok (.bool (a==b)) w:=by
 simp only[binOp];simp[Op.equal,Op.maxDepth,run_equalIn_bool (w:=w) hu 9999 a b]
theorem run_neq_bool{P:Program}{w:World}{ty:TypeId}(hu:P.underlying ty=some .bool)(a b:Bool):(binOp .neq ty (.bool a) (.bool b)).run P w= .ok (.bool (a !=b)) w:=by
 simp only[binOp];simp[Op.equal,Op.maxDepth,run_equalIn_bool (w:=w) hu 9999 a b,bne]
theorem o8{P:Program}{w:World}{ty e:TypeId}(hu:P.underlying ty=some (.pointer e))(a:Option Addr):(binOp .eql ty (.pointer a) (.pointer none)).run P w= .ok (.bool a.isNone) w:=by
 simp only[binOp];simp[Op.equal,Op.maxDepth,kr (w:=w) hu 9999 a]
theorem o9{P:Program}{w:World}{ty e:TypeId}(hu:P.underlying ty=some (.pointer e))(a:Option Addr):(binOp .neq ty (.pointer a) (.pointer none)).run P w= .ok (.bool a.isSome) w:=by
 simp only[binOp];simp[Op.equal,Op.maxDepth,kr (w:=w) hu 9999 a]
theorem DM{P:Program}{T:Tab}(hT:cT P T){w:World}{op:BinOp}{ty:TypeId}{x y:Operand}{a b v:LV}{va vb:Value}{C:Prop}{H:Nat->Prop}{ρ:Nat->Value}(h:ky (get? T.types ty) op a b=some (C,v))(hC:C)(ha:aJ H w ρ a va)(hb:aJ H w ρ b vb):
  ∃r,(do eqGuard op ty x y va vb;binOp op ty va vb:Sem Value).run P w= .ok r w/\aJ H w ρ v r:=by
 have guard:∀{va vb:Value},eE va=false->(va≠ .nilIface)->(eqGuard op ty x y va vb).run P w= .ok () w:=by
  intro va vb h1 h2;unfold eqGuard;cases op<;>first
   |rfl
   |(cases va<;>first
     |(simp[eE] at h1;done)
     |exact absurd rfl h2
     |rfl)
 have step:∀{va vb:Value} {r:Value},eE va=false->va≠ .nilIface->(binOp op ty va vb).run P w= .ok r w->(do eqGuard op ty x y va vb;binOp op ty va vb:Sem Value).run P w= .ok r w:=by
  intro va vb r h1 h2 h3;rw[Sem.run_bind,guard h1 h2];exact h3
 unfold ky at h;split at h;·rw[bm ha,bm hb];obtain⟨r,h1,h2⟩:=zv (P:=P) (w:=w) (ty:=ty) h hC H ρ;exact⟨r,step rfl (by simp) h1,h2⟩
 ·rw[gA ha,gA hb];obtain⟨r,h1,h2⟩:=zw (P:=P) (w:=w) (ty:=ty) h hC H ρ;exact⟨r,step rfl (by simp) h1,h2⟩
 ·split at h
  ·(rename_i hty;rw[cO ha,cO hb];obtain⟨i,d,-,hu,-,-,-,hs⟩:=hT.types _ _ hty;have hd:d= .bool:=hs;subst hd;cases op<;>simp only[mO] at h<;>cases h;·exact⟨_,step rfl (by simp) (run_eql_bool hu _ _),bQ⟩);·exact⟨_,step rfl (by simp) (run_neq_bool hu _ _),bQ⟩
  ·simp at h
 ·rename_i t a v;have hv:vb=v:=hb;subst hv;obtain⟨ha1,ha2⟩:=ha;split at h
  ·(rename_i u hn hty;cases h;obtain⟨i,d,-,hu,-,-,-,hs⟩:=hT.types _ _ hty;obtain⟨e,hd⟩:=hs;subst hd;cases vb<;>simp[isNilP] at hn;subst hn;cases va<;>simp[Ty.isAgg,Value.cells,Ty.rep] at ha1 ha2;all_goals cases a<;>simp at ha2);·subst ha2;exact⟨_,step rfl (by simp) (o8 hu _),bQ⟩
   ·obtain⟨b,o,he,_⟩:=ha2;subst he;exact⟨_,step rfl (by simp) (o8 hu _),bQ⟩
  ·(rename_i u hn hty;cases h;obtain⟨i,d,-,hu,-,-,-,hs⟩:=hT.types _ _ hty;obtain⟨e,hd⟩:=hs;subst hd;cases vb<;>simp[isNilP] at hn;subst hn;cases va<;>simp[Ty.isAgg,Value.cells,Ty.rep] at ha1 ha2;all_goals cases a<;>simp at ha2);·subst ha2;exact⟨_,step rfl (by simp) (o9 hu _),bQ⟩
   ·obtain⟨b,o,he,_⟩:=ha2;subst he;exact⟨_,step rfl (by simp) (o9 hu _),bQ⟩
  ·simp at h
 ·simp at h
theorem kB{v:Value}(h:gO v=true):v= .slice none 0 0:=by
 cases v<;>simp[gO] at h;obtain⟨⟨rfl,rfl⟩,rfl⟩:=h;rfl
theorem iq{M:Nat->Prop}{w:World}{e:TypeId}{size n m c:Nat}{v:Value}{xs:List Value}{a:Option Addr}(h:rowAt M w e size v n xs)(hv:v= .slice a m c):m=n:=by
 obtain⟨_,⟨h,hn⟩|⟨g,cap,cur,h,_⟩⟩:=h<;>(rw[hv] at h;simp at h;omega)
theorem IY{P:Program}{T:Tab}(hT:cT P T){w:World}{ty t:TypeId}{u:Ty}(hu:get? T.types ty=some u){own:List (Nat×aB)}{a v:LV}{val:Value}{H:Nat->Prop}{ρ:Nat->Value}{M:Nat->Prop}
  (hown:∀p∈own,bW H w ρ M p) (h:b8 own u a=some v) (ha:aJ H w ρ a val):
  ∃r,(Builtin.len_ #[ty] t #[val]).run P w= .ok r w/\aJ H w ρ v r:=by
 obtain⟨i,d,-,hud,-,-,-,hs⟩:=hT.types _ _ hu;unfold b8 at h;split at h
 ·split at h;·simp at h;subst h;obtain⟨e,j,rfl,_⟩:=hs;obtain⟨p,cap,rfl,_⟩:=tX ha;exact⟨_,by simp[Builtin.len_,run_underlying hud,goInt],bP⟩
  ·simp at h
 ·split at h;·simp at h;subst h;have hd:d= .string:=hs;subst hd;rw[gA ha];rename_i l _;(have:(⟨l.toArray⟩:ByteArray).size=l.length:=by show l.toArray.size=_;simp);exact⟨.int .i64 l.length,by rw[<- this];simp[Builtin.len_,run_underlying hud,goInt],bP⟩
  ·simp at h
 ·split at h
  ·rename_i t' T' xs t0 hg;simp at h;subst h;obtain⟨e,j,rfl,-⟩:=hs;obtain⟨hv,b,n,c,hv2⟩:=ha;obtain⟨cells,-,hrow⟩:=hown _ (get?_mem hg);have hn:n=xs.length:=by
    (rw[<- hv,hv2] at hrow;obtain⟨_,hr⟩:=hrow;rcases hr with⟨he,hn⟩|⟨g,cap,cur,he,_⟩;·simp at he;omega);·simp at he;omega
   subst hv2;subst hn;exact⟨_,by simp[Builtin.len_,run_underlying hud,goInt],bP⟩
  ·rename_i t' T' pre xs post t0 hg;simp at h;subst h;obtain⟨e,j,rfl,-⟩:=hs;obtain⟨hv,b,n,c,hv2⟩:=ha;obtain⟨g,cap,cells,cur,-,hρ,-⟩:=hown _ (get?_mem hg);rw[hv,hρ];exact⟨_,by simp[Builtin.len_,run_underlying hud,goInt],bP⟩
  ·rename_i t' T' xs t0 hg;simp at h;subst h;obtain⟨e,j,rfl,-⟩:=hs;obtain⟨hv,b,n,c,hv2⟩:=ha;obtain⟨cells,-,-,hr⟩:=hown _ (get?_mem hg);have hn:n=xs.length:=by
    (rw[<- hv,hv2] at hr;rcases hr with⟨he,hn⟩|⟨g,off,cap,cur,he,_⟩;·simp at he;omega);·simp at he;omega
   subst hv2;subst hn;exact⟨_,by simp[Builtin.len_,run_underlying hud,goInt],bP⟩
  ·simp at h
 ·split at h;·rename_i hg;simp only[PV] at h;subst h;obtain⟨e,j,rfl,-⟩:=hs;obtain⟨b,n,c,hv,hi,rfl⟩:=ha;obtain⟨cells,-,hrow⟩:=hown _ (get?_mem hg);have hn:=iq hrow hv;subst hn;exact⟨_,by simp[Builtin.len_,run_underlying hud,goInt],bP⟩
  ·simp at h
 ·split at h;·rename_i hg;simp at h;subst h;obtain⟨e,j,rfl,-⟩:=hs;obtain⟨p,n,c,vs,hv,rfl⟩:=ha;obtain⟨h0,vs',cells,h1,h2⟩:=hown _ (get?_mem hg);rw[hv] at h1;simp only[Value.tuple.injEq,Q0,P5] at h1;have hn:=iq h2.hdr h1.1.symm;subst hn;exact⟨_,by simp[Builtin.len_,run_underlying hud,goInt],bP⟩
  ·simp at h
 ·split at h
  ·(split at h;·rename_i hn;simp at h;subst h;obtain⟨e,j,rfl,_⟩:=hs;have hv:val=_:=ha;rw[hv,kB hn];exact⟨_,by simp[Builtin.len_,run_underlying hud,goInt],bP⟩);·simp at h
  ·simp at h
 ·simp at h
theorem lB{d:Int}{l:Option LV}{n:Int}(h:iA d l=some n):(l=none/\n=d)∨∃k,l=some (.z (.int k) n):=by
 unfold iA at h;split at h;·simp at h;exact .inl ⟨rfl,h.symm⟩
 ·rename_i k a;simp at h;subst h;exact .inr ⟨k,rfl⟩
 ·simp at h
def mf(H:Nat->Prop)(w:World)(ρ:Nat->Value):Option LV->Option Value->Prop
 |none,none=>True
 |some x,some v=>aJ H w ρ x v
 |_,_=>False
theorem mh{X:Cx}{s:aa}{a:Act}{w:World}{ρ:Nat->Value}(h:Fits X s a w ρ){x:Option Operand}{l:Option LV}(he:fI s x=some l):mf (hot X.O ρ s.own) w ρ l (x.map a.eval):=by
 cases x with
 |none=>simp[fI] at he;subst he;trivial
 |some x=>
  simp only[fI] at he;split at he;·rename_i v hv;simp at he;subst he;exact ax h hv
  ·simp at he
theorem cU{P:Program}{w:World}{k:IntKind}{n:Int}{m:Nat}{c:BoundsCode}(h0:0<=n)(h:n<=m):(Instr.sliceBound (.int k n) m c).run P w= .ok n.toNat w:=by
 simp[Instr.sliceBound,asIntOf,h0,h]
theorem qJ{P:Program}{w:World}{isSlice:Bool}{len cap:Nat}{H:Nat->Prop}{ρ:Nat->Value}{lo hi:Option LV}{vlo vhi:Option Value}(hlo:mf H w ρ lo vlo)(hhi:mf H w ρ hi vhi){l h:Int}
  (e1:iA 0 lo=some l) (e2:iA len hi=some h) (h0:0<=l) (h1:l<=h) (h2:h<=len) (hc:len<=cap):
  (Instr.sliceBounds isSlice len cap vlo vhi none).run P w= .ok (l.toNat,h.toNat,cap) w:=by
 rcases lB e1 with⟨rfl,rfl⟩|⟨k,rfl⟩<;>rcases lB e2 with⟨rfl,rfl⟩|⟨k',rfl⟩
 ·cases vlo<;>cases vhi<;>simp[mf] at hlo hhi;simp[Instr.sliceBounds]
 ·cases vlo<;>cases vhi<;>simp only[mf] at hlo hhi;rw[bm hhi];simp[Instr.sliceBounds,cU (P:=P) (w:=w) (show 0<=h by omega) (show h<=(cap:Int) by omega)]
 ·cases vlo<;>cases vhi<;>simp only[mf] at hlo hhi;rw[bm hlo];simp[Instr.sliceBounds,cU (P:=P) (w:=w) (show 0<=l by omega) (show l<=(len:Int) by omega)]
 ·cases vlo<;>cases vhi<;>simp only[mf] at hlo hhi;rw[bm hlo,bm hhi];have:l<=((h.toNat:Nat):Int):=by omega
  simp[Instr.sliceBounds,cU (P:=P) (w:=w) (show 0<=h by omega) (show h<=(cap:Int) by omega),cU (P:=P) (w:=w) (show 0<=l by omega) this]
theorem addr_add(b o:Nat)(p:Option Nat)(k:Nat):(⟨b,o,p⟩:Addr).add k=⟨b,o+k,if k=0 then p else none⟩:=by
 unfold Addr.add;split;·rename_i h;subst h;rfl
 ·rfl
theorem mS{H:Nat->Prop}{w:World}{ρ:Nat->Value}{t:Ty}{xs:List t.D}{b o cap:Nat}{p:Option Nat}(h:aJ H w ρ (.z (.slice t) xs) (.slice (some ⟨b,o,p⟩) xs.length cap)){l m n:Nat}(hlm:l<=n)(hn:n<=xs.length)(hm:n<=m)(hc:m<=cap)(o':Nat)(ho:l<m->o'=o+l*t.w)(p':Option Nat)(hp':p'=p∨p'=none):
  aJ H w ρ (.z (.slice t) ((xs.take n).drop l)) (.slice (some ⟨b,o',p'⟩) (n-l) (m-l)):=by
 rw[qH] at h ⊢;refine⟨rfl,.inr ?_⟩;have h2:Ty.rep H w (.slice t) [.slice (some ⟨b,o,p⟩) xs.length cap] xs:=h.2;rcases h2 with⟨he,_⟩|⟨b',o'',p2,cap',cells,he,hxp,hx1,hx2,hx3,hx4⟩;·simp at he
 ·simp at he;obtain⟨⟨rfl,rfl,rfl⟩,rfl⟩:=he;have hR:∀(c:List Value) (x:t.D),t.rep H w c x->c.length=t.w:=fun c x h=>t.rep_length h;have hlen:((xs.take n).drop l).length=n-l:=by simp;omega
  have hcut:=lz hR l (ju hR n hx3);refine⟨b,o',p',m-l,(cells.take (n*t.w)).drop (l*t.w),by rw[hlen];rfl,fun hne=>by
   (have hq:=hxp (fun e=>hne (by rw[e];simp));rcases hp' with h|h;·rw[h,hq]);·exact h,by rw[hlen];omega,by omega,hcut,?_⟩
  by_cases hlt:l<n
  ·have:=ho (by omega);subst this;have hcl:=bu hR hx3;have:=hx4.sub (l*t.w) (n*t.w-l*t.w);rwa [<- RI] at this
  ·have:(cells.take (n*t.w)).drop (l*t.w)=[]:=by
    apply Qs;rw[Of];have:=Oc t.w (show n<=l by omega);omega
   rw[this];exact⟨fun h=>absurd rfl h,fun j hj=>by simp at hj⟩
theorem bl{P:Program}{w w':World}{s:Sem Value}{r:Value}(h:s.run P w= .ok r w'):(do pure (.value (<- s)):Sem Next).run P w= .ok (.value r) w':=by
 rw[Sem.run_bind,h];rfl
theorem fc{H:Nat->Prop}{w:World}{ρ:Nat->Value}{M:Nat->Prop}{own:List (Nat×aB)}(hown:∀p∈own,bW H w ρ M p){id T:Nat}{t:Ty}{xs:List t.D}(hg:get? own id=some (.arr t T xs)){a:Option Addr}{n c:Nat}(hv:ρ id= .slice a n c):
  n=xs.length/\∃cells,cC (fun c x=>t.rep H w c x) cells xs/\cells.length=xs.length*t.w/\
   ((a=none/\xs=[]/\c=0)∨∃g,a=some ⟨g,0,none⟩/\M g/\xs.length<=c/\c<=maxLen/\∃cur:Array Value,w.heap[g]? =some (.cells cur T (0,0))/\c*t.w<=cur.size/\cur.toList.take (xs.length*t.w)=cells):=by
 obtain⟨cells,hr,hrow⟩:=hown _ (get?_mem hg);simp only[hv] at hrow;obtain⟨hl,hrow⟩:=hrow;rcases hrow with⟨he,hn⟩|⟨g,cap,cur,he,hb,hh,h1,h2,h3,h4⟩;·simp at he;obtain⟨rfl,rfl,rfl⟩:=he;have hx:xs=[]:=N7 hn;exact⟨hn.symm,cells,hr,hl,.inl ⟨rfl,hx,rfl⟩⟩
 ·simp at he;obtain⟨rfl,rfl,rfl⟩:=he;exact⟨rfl,cells,hr,hl,.inr ⟨g,rfl,hb,h1,h2,cur,hh,h3,h4⟩⟩
theorem Bk{H:Nat->Prop}{w:World}{ρ:Nat->Value}{M:Nat->Prop}{own:List (Nat×aB)}(hown:∀p∈own,bW H w ρ M p){id T:Nat}{t:Ty}{pre xs post:List t.D}(hg:get? own id=some (.win t T pre xs post)){b o n c:Nat}(hv:ρ id= .slice (some ⟨b,o,none⟩) n c):
  n=xs.length/\o=pre.length*t.w/\M b/\∃cells,cC (fun c x=>t.rep H w c x) cells (pre++(xs++post))/\cells.length=(pre++(xs++post)).length*t.w/\xs.length<=c/\c<=maxLen/\pre.length+c<=maxLen/\post.length+xs.length<=c/\
   ∃cur:Array Value,w.heap[b]? =some (.cells cur T (0,0))/\(pre.length+c)*t.w<=cur.size/\cur.toList.take ((pre++(xs++post)).length*t.w)=cells:=by
 obtain⟨g,cap,cells,cur,hr,h1,h2,h3,h4,h5,h6,h7,h8,h9⟩:=hown _ (get?_mem hg);rw[hv] at h1;simp at h1;obtain⟨⟨rfl,rfl⟩,rfl,rfl⟩:=h1;exact⟨rfl,rfl,h2,cells,hr,bu (fun c x h=>t.rep_length h) hr,h4,h5,h6,h8,cur,h3,h7,h9⟩
theorem fv{w:World}{g T:Nat}{cur:Array Value}{n:Nat}{cells:List Value}(hh:w.heap[g]? =some (.cells cur T (0,0)))(ht:cur.toList.take n=cells){j:Nat}(hj:j<cells.length):w.cell? ⟨g,0+j,none⟩=cells[j]? :=by
 rw[Oz,cell_of_row w g j cur T (0,0) hh];subst ht;have:j<n:=by simp only[Of] at hj;omega
 rw[PD this];simp
theorem vP{H:Nat->Prop}{w:World}{ρ:Nat->Value}{M:Nat->Prop}{own:List (Nat×aB)}(hown:∀p∈own,bW H w ρ M p){id T:Nat}{t:Ty}{xs:List t.D}(hg:get? own id=some (.que t T xs)){a:Option Addr}{n c:Nat}(hv:ρ id= .slice a n c):
  n=xs.length/\∃cells,cC (fun c x=>t.rep H w c x) cells xs/\cells.length=xs.length*t.w/\
   ((a=none/\xs=[]/\c=0)∨∃g off,a=some ⟨g,off*t.w,none⟩/\M g/\xs.length<=c/\off+c<=maxLen/\∃cur:Array Value,w.heap[g]? =some (.cells cur T (0,0))/\(off+c)*t.w<=cur.size/\(cur.toList.drop (off*t.w)).take (xs.length*t.w)=cells):=by
 obtain⟨cells,hr,hrow⟩:=hown _ (get?_mem hg);simp only[hv] at hrow;obtain⟨hl,hrow⟩:=hrow;rcases hrow with⟨he,hn⟩|⟨g,off,cap,cur,he,hb,hh,h1,h2,h3,h4⟩;·simp at he;obtain⟨rfl,rfl,rfl⟩:=he;have hx:xs=[]:=N7 hn;exact⟨hn.symm,cells,hr,hl,.inl ⟨rfl,hx,rfl⟩⟩
 ·simp at he;obtain⟨rfl,rfl,rfl⟩:=he;exact⟨rfl,cells,hr,hl,.inr ⟨g,off,rfl,hb,h1,h2,cur,hh,h3,h4⟩⟩
theorem xj{w:World}{g T:Nat}{cur:Array Value}{o n:Nat}{cells:List Value}(hh:w.heap[g]? =some (.cells cur T (0,0)))(ht:(cur.toList.drop o).take n=cells){j:Nat}(hj:j<cells.length):w.cell? ⟨g,o+j,none⟩=cells[j]? :=by
 rw[cell_of_row w g (o+j) cur T (0,0) hh];subst ht;have:j<n:=by simp only[Of] at hj;omega
 rw[PD this,Qj];simp
theorem Bl{H:Nat->Prop}{w:World}{t:Ty}{x:t.D}{v:Value}{ρ:Nat->Value}(h:aJ H w ρ (.z (.opt t) (some x)) v):∃b o cells,v= .pointer (some ⟨b,o,none⟩)/\t.rep H w cells x/\dB H w b o cells:=
 lA (t:=t) (x:=x) (ρ:=ρ) h
theorem qK{M:Nat->Prop}{w:World}{e:TypeId}{size n m c b:Nat}{v:Value}{xs:List Value}(h:rowAt M w e size v n xs)(hv:v= .slice (some ⟨b,0,none⟩) m c){j:Nat}(hj:j<xs.length):w.cell? ⟨b,0+j,none⟩=xs[j]? :=by
 obtain⟨_,⟨h,hn⟩|⟨g,cap,cur,h,hM,hh,_,_,_,ht⟩⟩:=h;·rw[hv] at h;simp at h
 ·rw[hv] at h;simp at h;obtain⟨rfl,rfl,rfl⟩:=h;exact fv hh ht hj
theorem iZ{H:Nat->Prop}{w:World}{ρ:Nat->Value}{M:Nat->Prop}{own:List (Nat×aB)}(hown:∀p∈own,bW H w ρ M p){id:Nat}{t:Ty}{T E:TypeId}{rows:List (Option (List t.D))}{idx:List (Option Nat)}(hg:get? own id=some (.mat t T E rows idx)){h:Value}{vs:List Value}(hv:ρ id= .tuple ⟨h::vs⟩):
  ∃cells:List Value,qG (fun c x=>t.rep H w c x) t.w M w T E rows idx h vs cells:=by
 obtain⟨h0,vs',cells,h1,h2⟩:=hown _ (get?_mem hg);rw[hv] at h1;simp only[Value.tuple.injEq,Q0,P5] at h1;obtain⟨rfl,rfl⟩:=h1;exact⟨cells,h2⟩
theorem jw{α:Type}{rows:List (Option (List α))}{j:Nat}(h:live rows j=true):rows[j]? =some (some (rowOf rows j))/\j<rows.length:=by
 unfold live at h;unfold rowOf;cases hj:rows[j]? with
 |none=>rw[hj] at h;simp at h
 |some o=>cases o with
  |none=>rw[hj] at h;simp at h
  |some xs=>exact⟨rfl,(Oh.1 hj).1⟩
theorem zx{idx:List (Option Nat)}{i:Nat}(h:(tV idx i).isSome=true):idx[i]? =some (some ((tV idx i).getD 0)):=by
 unfold tV at*;cases hi:idx[i]? with
 |none=>rw[hi] at h;simp at h
 |some o=>cases o with
  |none=>rw[hi] at h;simp at h
  |some j=>simp
theorem tY{k:IntKind}:∀(xs:List Int),cC (fun c (y:Int)=>c=[Value.int k y]) (xs.map (Value.int k)) xs
 | []=>rfl
 |x::xs=>⟨[.int k x],xs.map (Value.int k),rfl,rfl,tY xs⟩
theorem DN{X:Cx}(hT:cT X.P X.T){H:Nat->Prop}{w:World}{ρ:Nat->Value}(hon:X.T.On w){t:TypeId}{b o:Nat}{u:Ty}(ht:get? X.T.types t=some u){C:Prop}{v:AV}(he:tW X.T b o u=some (C,v))(hC:C):
  ∃val,(Instr.loadAt t (.pointer (some ⟨b,o,none⟩))).run X.P w= .ok val w/\fL H w ρ v val:=by
 unfold tW at he;split at he
 ·split at he
  ·rename_i xs hg;cases he;have hc:=hT.globs _ _ hg w hon.1 o hC;refine⟨_,cI (hT.types _ _ ht) (cells:=[.int .i64 xs[o]]) rfl (fun j hj=>?_),?_⟩
   ·(obtain rfl:j=0:=by simpa using hj);exact hc
   ·(have hd:xs.getD o 0=xs[o]:=by simp[PY,hC]);rw[hd];exact gG (ρ:=ρ) (hT.types _ _ ht) (x:=xs[o]) rfl
  ·cases he
 ·split at he
  ·rename_i n xs hg;split at he
   ·rename_i e;obtain⟨rfl,rfl⟩:=e;cases he;refine⟨_,cI (hT.types _ _ ht) (cells:=xs.map (Value.int .i64)) (by simp[Ty.w]) (fun j hj=>?_),?_⟩
    ·(have hj':j<xs.length:=by simpa using hj);rw[Oz,hT.globs _ _ hg w hon.1 j hj',Pp,AI hj'];rfl
    ·exact gG (ρ:=ρ) (hT.types _ _ ht) (t:= .arr xs.length (.int .i64)) (x:=xs) ⟨rfl,tY xs⟩
   ·cases he
  ·cases he
 ·split at he
  ·(rename_i p hg;split at he;·rename_i e;subst e;cases he;have hc:=hon.2 b p.1 p.2 hg;refine⟨_,cI (hT.types _ _ ht) (cells:=[p.1]) rfl (fun j hj=>?_),rfl⟩;(obtain rfl:j=0:=by simpa using hj);rw[Oz,cell_of_row w b 0 #[p.1] p.2 (0,0) hc];rfl);·cases he
  ·cases he
 ·cases he
theorem run_load{X:Cx}(hT:cT X.P X.T){s:aa}{a:Act}{w:World}{ρ:Nat->Value}(hon:X.T.On w)(h:Fits X s a w ρ){t:TypeId}{x:Operand}{C:Prop}{v:AV}(he:aT X.T s (.load t x)=some (C,v))(hC:C):
  ∃val,(Instr.loadAt t (a.eval x)).run X.P w= .ok val w/\fL (hot X.O ρ s.own) w ρ v val:=by
 simp only[aT] at he;split at he
 ·rename_i u y vt hx ht;split at he;·rename_i e;subst e;cases he;obtain⟨b,o,cells,hv,h1,h2⟩:=lA (ax h hx);rw[hv];exact⟨_,cI (hT.types _ _ ht) (u.rep_length h1) h2.2,gG (ρ:=ρ) (hT.types _ _ ht) h1⟩
  ·cases he
 ·rename_i id off vt hx ht;split at he
  ·rename_i T cs hg;split at he
   ·(rename_i hle;split at he;·rename_i r hr;cases he;obtain⟨b,hb,hv⟩:=ax h hx;obtain⟨b',vs,hb',hbase,hh,hcs⟩:=h.own _ (get?_mem hg);rw[hb] at hb';simp at hb';subst hb';have hlen:=hcs.length;have hsub:=aY.take vt.w (aY.drop off hcs);(have hl:((vs.drop off).take vt.w).length=vt.w:=by simp;omega);rw[hv];refine⟨_,cI (hT.types _ _ ht) hl (fun j hj=>?_),gY hr hsub⟩;rw[cell_of_row w b _ vs.toArray T (0,0) hh];rw[hl] at hj;rw[PD hj,Qj];simp);·cases he
   ·cases he
  ·cases he
 ·rename_i id wd i vt hx ht;split at he
  ·rename_i u T xs hg;split at he
   ·rename_i e;obtain⟨rfl,rfl⟩:=e;cases he;obtain⟨b,o',n,c,hb,hv⟩:=ax h hx;obtain⟨_,cells,hr,hl,hor⟩:=fc h.own hg hb;rcases hor with⟨hno,_⟩|⟨g,hg',hbase,h1,h2,cur,hh,h3,h4⟩;·cases hno
    ·simp at hg';obtain⟨rfl,rfl⟩:=hg';have hel:=fH (fun c x h=>u.rep_length h) hr i hC;rw[hv,Oz];have hle:=u.rep_length hel;(have hn:nth u xs i=xs[i]:=by simp[nth,PY,hC]);refine⟨_,cI (hT.types _ _ ht) hle (fun j hj=>?_),?_⟩
     ·have hj':i*u.w+j<cells.length:=by
       rw[hle] at hj;have:(i+1)*u.w<=xs.length*u.w:=Oc _ hC;rw[O7] at this;omega
      have:=fv hh h4 hj';rw[Oz] at this;rw[this];rw[hle] at hj;rw[PD hj,Qj]
     ·have:=gG (ρ:=ρ) (hT.types _ _ ht) hel;rw[<- hn] at this;exact this
   ·cases he
  ·rename_i u T pre xs post hg;split at he
   ·rename_i e;obtain⟨rfl,rfl⟩:=e;cases he;obtain⟨b,o',n,c,hb,hv⟩:=ax h hx;obtain⟨_,rfl,_,cells,hr,hl,h1,h2,h2',h2'',cur,hh,h3,h4⟩:=Bk h.own hg hb;(have hi:pre.length+i<(pre++(xs++post)).length:=by simp;omega);have hel:=fH (fun c x h=>u.rep_length h) hr (pre.length+i) hi;have e2:pre.length*u.w+i*u.w=(pre.length+i)*u.w:=(PS ..).symm;rw[hv,e2];have hle:=u.rep_length hel;have hn:nth u xs i=(pre++(xs++post))[pre.length+i]:=by
     rw[List.getElem_append_right (Nat.le_add_right _ _)];simp only[PZ];rw[List.getElem_append_left hC];simp[nth,PY,hC]
    refine⟨_,cI (hT.types _ _ ht) hle (fun j hj=>?_),?_⟩
    ·have hj':(pre.length+i)*u.w+j<cells.length:=by
      rw[hle] at hj;have:(pre.length+i+1)*u.w<=(pre++(xs++post)).length*u.w:=Oc _ hi;rw[O7] at this;omega
     have:=fv hh h4 hj';rw[Oz] at this;rw[this];rw[hle] at hj;rw[PD hj,Qj]
    ·have:=gG (ρ:=ρ) (hT.types _ _ ht) hel;rw[<- hn] at this;exact this
   ·cases he
  ·rename_i u T xs hg;split at he
   ·rename_i e;obtain⟨rfl,rfl⟩:=e;cases he;obtain⟨b,o',n,c,hb,hv⟩:=ax h hx;obtain⟨_,cells,hr,hl,hor⟩:=vP h.own hg hb;rcases hor with⟨hno,_⟩|⟨g,off,hg',hbase,h1,h2,cur,hh,h3,h4⟩;·cases hno
    ·simp at hg';obtain⟨rfl,rfl⟩:=hg';have hel:=fH (fun c x h=>u.rep_length h) hr i hC;rw[hv];have hle:=u.rep_length hel;(have hn:nth u xs i=xs[i]:=by simp[nth,PY,hC]);refine⟨_,cI (hT.types _ _ ht) hle (fun j hj=>?_),?_⟩
     ·have hj':i*u.w+j<cells.length:=by
       rw[hle] at hj;have:(i+1)*u.w<=xs.length*u.w:=Oc _ hC;rw[O7] at this;omega
      have:=xj hh h4 hj';rw[<- QX] at this;rw[this];rw[hle] at hj;rw[PD hj,Qj]
     ·have:=gG (ρ:=ρ) (hT.types _ _ ht) hel;rw[<- hn] at this;exact this
   ·cases he
  ·cases he
 ·rename_i id i u hx ht;split at he
  ·rename_i u' T E rows idx hg;split at he
   ·rename_i e;subst e;cases he;obtain⟨b,n,c,vs,hb,hv⟩:=ax h hx;obtain⟨cells,hm⟩:=iZ h.own hg hb;have h1:=hm.hdr;have hl:=hm.len;have hi:=zx hC;obtain⟨hj,hc⟩:=hm.at_ _ _ hi;generalize (tV idx i).getD 0=j at*;have hjv:=AI (l:=vs) (i:=j) (by omega);obtain⟨⟨p,q,m,hs⟩,-⟩:=hm.shape (vs[j]'(by omega)) (List.getElem_mem (by omega));have hil:i<cells.length:=by
     rw[hjv] at hc;exact(Oh.1 hc).1
    have hcell:=qK h1 rfl hil;rw[hc,hjv,Oz] at hcell;rw[hv];refine⟨_,cI (hT.types _ _ ht) (cells:=[vs[j]]) rfl (fun k hk=>?_),_,vs,p,q,m,hb,hjv,hs⟩;(obtain rfl:k=0:=by simpa using hk);exact hcell
   ·cases he
  ·cases he
 ·rename_i id j wd k u hx ht;split at he
  ·rename_i u' T E rows idx hg;split at he
   ·rename_i e;obtain⟨rfl,rfl⟩:=e;cases he;obtain⟨h0,vs,b,n,c,hb,hjv,hv⟩:=ax h hx;obtain⟨cells,hm⟩:=iZ h.own hg hb;obtain⟨hj,hk⟩:=hC;obtain⟨hj1,hj2⟩:=jw hj;generalize rowOf rows j=xs at*;obtain⟨cs,hr,h5⟩:=hm.row j _ _ hj1 hjv;have hcl:=h5.1;have hel:=fH (fun c x h=>u'.rep_length h) hr k hk;have hle:=u'.rep_length hel;(have hn:nth u' xs k=xs[k]:=by simp[nth,PY,hk]);rw[hv];refine⟨_,cI (hT.types _ _ ht) hle (fun q hq=>?_),?_⟩
    ·have hj':k*u'.w+q<cs.length:=by
      rw[hle] at hq;have:(k+1)*u'.w<=xs.length*u'.w:=Oc _ hk;rw[O7] at this;omega
     have:=qK h5 rfl hj';rw[Oz] at this;rw[this];rw[hle] at hq;rw[PD hq,Qj]
    ·have:=gG (ρ:=ρ) (hT.types _ _ ht) hel;rw[<- hn] at this;exact this
   ·cases he
  ·cases he
 ·rename_i u y vt hx ht;split at he;·rename_i e;subst e;cases he;obtain⟨z,rfl⟩:=OR.1 hC;obtain⟨b,o,cells,hv,h1,h2⟩:=Bl (ax h hx);rw[hv];exact⟨_,cI (hT.types _ _ ht) (u.rep_length h1) h2.2,gG (ρ:=ρ) (hT.types _ _ ht) h1⟩
  ·cases he
 ·rename_i b o vt hx ht;have hv:a.eval x=_:=ax h hx;rw[hv];exact DN hT hon ht he hC
 ·cases he
theorem tF{X:Cx}(hT:cT X.P X.T){s:aa}{a:Act}{w:World}{ρ:Nat->Value}(h:Fits X s a w ρ){t:TypeId}{x:Operand}{k:Nat}{C:Prop}{v:AV}(he:aT X.T s (.fieldAddr t x k)=some (C,v))(hC:C):
  ∃val,(Instr.fieldAt t (a.eval x) k).run X.P w= .ok val w/\fL (hot X.O ρ s.own) w ρ v val:=by
 have key:∀{u:Ty} {b o:Nat},get? X.T.types t=some (.st u)->k<u.fields.length->(Instr.fieldAt t (.pointer (some ⟨b,o,none⟩)) k).run X.P w= .ok (.pointer (some ⟨b,o+u.fieldOff k,none⟩)) w:=by
  intro u b o ht hk;obtain⟨i,d,_,hu,_,_,_,fs,rfl,_,hf⟩:=hT.types _ _ ht;obtain⟨f,j,e,h1,h2,h3,h4,h5,h6,h7,h8⟩:=hf k hk;simp[Instr.fieldAt,run_underlying hu,h1,Instr.sureAddr,fieldPlace,sizeOf,typeInfo,h3,h5,h2,Addr.add_mid]
 simp only[aT] at he;split at he
 ·rename_i u y vt hx ht;split at he;·rename_i e;obtain⟨rfl,hk⟩:=e;cases he;obtain⟨b,o,cells,hv,h1,h2⟩:=lA (ax h hx);rw[hv];have h1':Ty.rep (hot X.O ρ s.own) w u cells y:=h1;have hf:=u.rep_field k h1' hk;exact⟨_,key ht hk,rfl,b,o+u.fieldOff k,_,rfl,hf.1,h2.sub _ _⟩
  ·cases he
 ·rename_i u y vt hx ht;split at he;·rename_i e;obtain⟨rfl,hk⟩:=e;cases he;obtain⟨z,rfl⟩:=OR.1 hC;obtain⟨b,o,cells,hv,h1,h2⟩:=Bl (ax h hx);rw[hv];have h1':Ty.rep (hot X.O ρ s.own) w u cells z:=h1;have hf:=u.rep_field k h1' hk;exact⟨_,key ht hk,rfl,b,o+u.fieldOff k,_,rfl,hf.1,h2.sub _ _⟩
  ·cases he
 ·rename_i id off u hx ht;split at he;·rename_i hk;cases he;obtain⟨b,hb,hv⟩:=ax h hx;rw[hv];exact⟨_,key ht hk,b,hb,rfl⟩
  ·cases he
 ·cases he
theorem DO{X:Cx}(hT:cT X.P X.T){s:aa}{a:Act}{w:World}{ρ:Nat->Value}(h:Fits X s a w ρ){t:TypeId}{x:Operand}{k:Nat}{C:Prop}{v:AV}(he:aT X.T s (.field t x k)=some (C,v)):
  ∃val,(Instr.field t (a.eval x) k).run X.P w= .ok val w/\fL (hot X.O ρ s.own) w ρ v val:=by
 have key:∀{u:Ty} {cs:List Value},get? X.T.types t=some (.st u)->k<u.fields.length->u.fieldOff k+(u.fieldTy k).w<=cs.length->(Instr.field t (.agg cs.toArray) k).run X.P w= .ok (mkV (u.fieldTy k).isAgg ((cs.drop (u.fieldOff k)).take (u.fieldTy k).w)) w:=by
  intro u cs ht hk hle;obtain⟨i,d,_,hu,_,_,_,fs,rfl,_,hf⟩:=hT.types _ _ ht;obtain⟨f,j,e,h1,h2,h3,h4,h5,h6,h7,h8⟩:=hf k hk;have hagg:(isAgg f.type).run X.P w= .ok (u.fieldTy k).isAgg w:=by
   unfold isAgg;rw[Sem.run_bind,run_underlying h6 w,<- h7];cases e<;>simp[TypeDesc.isRow]
  cases hb:(u.fieldTy k).isAgg with
  |true=>
   rw[hb] at hagg;simp[Instr.field,run_underlying hu,h1,asAgg,part,Sem.run_bind,hagg,sizeOf,typeInfo,h3,h4,h2,mkV]
  |false=>
   rw[hb] at hagg;(have h0:0<(u.fieldTy k).w:=by omega);(have hlt:u.fieldOff k<cs.length:=by omega);simp[Instr.field,run_underlying hu,h1,asAgg,part,Sem.run_bind,hagg,h2,mkV,hlt];cases hw:(u.fieldTy k).w with
   |zero=>omega
   |succ n=>
    have:(List.drop (u.fieldOff k) cs).take (n+1)=cs[u.fieldOff k]::((cs.drop (u.fieldOff k+1)).take n):=by
     rw[O0 hlt,Pn]
    rw[this];rfl
 simp only[aT] at he;split at he
 ·rename_i u y vt hx ht;split at he
  ·rename_i e;obtain⟨rfl,hk⟩:=e;cases he;have hx':aJ (hot X.O ρ s.own) w ρ (.z (.st u) y) (a.eval x):=bJ h hx;obtain⟨cs,hv,h1⟩:=vO hx';rw[hv];have hf:=u.rep_field k h1 hk;refine⟨_,key ht hk hf.2,?_⟩;have hl:(u.fieldTy k).isAgg=false->(u.fieldTy k).w=1:=by
    intro hb;have:=Ty.rep_length _ hf.1;obtain⟨i,d,_,hu,_,_,_,fs,rfl,_,hff⟩:=hT.types _ _ ht;obtain⟨f,j,e,h1,h2,h3,h4,h5,h6,h7,h8⟩:=hff k hk;exact h8 hb
   exact gz (ρ:=ρ) hf.1 hl (fun _=>Ty.rep_oneCell _ hf.1)
  ·cases he
 ·rename_i cs u hx ht;split at he
  ·(rename_i hk;split at he;·rename_i r hr;cases he;obtain⟨vs,hv,hvs⟩:fL (hot X.O ρ s.own) w ρ (.agg cs) (a.eval x):=bJ h hx;rw[hv];have hlen:=hvs.length;exact⟨_,key ht hk.1 (by omega),gY hr (aY.take _ (aY.drop _ hvs))⟩);·cases he
  ·cases he
 ·cases he
theorem qL{n:Int}{m:Nat}(h:0<=n/\n<m):n.toNat<m:=by omega
theorem take_one{α:Type}(cs:List α)(n:Nat)(h:n<cs.length):(cs.drop n).take 1=[cs[n]]:=by
 rw[O0 h,Pn,Qt]
theorem tG{X:Cx}(hT:cT X.P X.T){s:aa}{a:Act}{w:World}{ρ:Nat->Value}(h:Fits X s a w ρ){t:TypeId}{x i:Operand}{C:Prop}{v:AV}(he:aT X.T s (.indexAddr t x i)=some (C,v))(hC:C):
  ∃val,(Instr.indexAt t (a.eval x) (a.eval i)).run X.P w= .ok val w/\fL (hot X.O ρ s.own) w ρ v val:=by
 have key:∀{u:Ty} {k:IntKind} {b o len cap:Nat} {n:Int},get? X.T.types t=some (.slice u)->0<=n->n<len->(Instr.indexAt t (.slice (some ⟨b,o,none⟩) len cap) (.int k n)).run X.P w= .ok (.pointer (some ⟨b,o+n.toNat*u.w,none⟩)) w:=by
  intro u k b o len cap n ht h0 h1;obtain⟨_,d,-,hu,-,-,-,e,j,rfl,h2,h3,-⟩:=hT.types _ _ ht;simp[Instr.indexAt,run_underlying hu,asIntOf,h0,h1,sizeOf,typeInfo,h2,h3,Addr.add_mid]
 simp only[aT] at he;split at he
 ·rename_i u xs k n vt hx hi ht;split at he;·rename_i e;subst e;cases he;obtain⟨b,o,cap,hv,hr⟩:=FG (ax h hx) hC.1 hC.2;rw[hv,bm (ax h hi)];exact⟨_,key ht hC.1 hC.2,hr⟩
  ·cases he
 ·rename_i id k n u hx hi ht;split at he
  ·rename_i u' T xs hg;split at he
   ·(rename_i e;subst e;cases he;obtain⟨hv,p,m,c,hv2⟩:=ax h hx;rw[hv] at hv2;obtain⟨hm,cells,hr,hl,hor⟩:=fc h.own hg hv2;subst hm;rcases hor with⟨_,hx0,_⟩|⟨g,hg',hbase,h1,h2,cur,hh,h3,h4⟩;·subst hx0;exact absurd (qL hC) (Nat.not_lt_zero _));·subst hg';rw[hv,hv2,bm (ax h hi)];exact⟨_,key ht hC.1 hC.2,g,0,xs.length,c,hv2,rfl⟩
   ·cases he
  ·(rename_i u' T pre xs post hg;split at he;·rename_i e;subst e;cases he;obtain⟨hv,p,m,c,hv2⟩:=ax h hx;obtain⟨g,cap,cells,cur,-,hρ,-⟩:=h.own _ (get?_mem hg);rw[hv,hρ,bm (ax h hi)];exact⟨_,key ht hC.1 hC.2,g,_,xs.length,cap,hρ,rfl⟩);·cases he
  ·rename_i u' T xs hg;split at he
   ·(rename_i e;subst e;cases he;obtain⟨hv,p,m,c,hv2⟩:=ax h hx;rw[hv] at hv2;obtain⟨hm,cells,hr,hl,hor⟩:=vP h.own hg hv2;subst hm;rcases hor with⟨_,hx0,_⟩|⟨g,off,hg',-⟩;·subst hx0;exact absurd (qL hC) (Nat.not_lt_zero _));·subst hg';rw[hv,hv2,bm (ax h hi)];exact⟨_,key ht hC.1 hC.2,g,_,xs.length,c,hv2,rfl⟩
   ·cases he
  ·cases he
 ·rename_i id wd i0 k n u hx hi ht;split at he
  ·(rename_i u' T xs hg;split at he;·rename_i e;obtain⟨rfl,rfl⟩:=e;cases he;obtain⟨b,m,c,hb,him,hv⟩:=ax h hx;obtain⟨hm,-⟩:=fc h.own hg hb;subst hm;rw[hv,bm (ax h hi)];have:=key (k:=k) (b:=b) (o:=i0*u'.w) (len:=xs.length-i0) (cap:=c-i0) ht hC.1 hC.2;exact⟨_,this,b,0,xs.length,c,hb,by rw[Oz,PS]⟩);·cases he
  ·cases he
 ·rename_i id k n u hx hi ht;split at he
  ·rename_i u' T E rows idx hg;split at he
   ·(rename_i e;subst e;cases he;obtain⟨p,m,c,vs,hb,hv⟩:=ax h hx;obtain⟨cells,hm⟩:=iZ h.own hg hb;have h1:=hm.hdr;have hm:=iq h1 rfl;subst hm;obtain⟨-,⟨h2,hn⟩|⟨g,cap,cur,h2,-⟩⟩:=h1;·have:=qL hC;omega);·simp at h2;obtain⟨rfl,rfl⟩:=h2;rw[hv,bm (ax h hi)];have:=key (k:=k) (b:=g) (o:=0) (cap:=c) ht hC.1 hC.2;rw[show (0:Nat)+n.toNat*(Ty.slice u').w=n.toNat by simp[Ty.w]] at this;exact⟨_,this,g,idx.length,c,vs,hb,rfl⟩
   ·cases he
  ·cases he
 ·rename_i id j k n u hx hi ht;split at he
  ·rename_i u' T E rows idx hg;split at he
   ·(rename_i e;subst e;cases he;obtain⟨h0,vs,p,m,c,hb,hjv,hv⟩:=ax h hx;obtain⟨cells,hm⟩:=iZ h.own hg hb;obtain⟨hj,hn⟩:=hC;obtain⟨hj1,hj2⟩:=jw hj;generalize rowOf rows j=xs at*;obtain⟨cs,hr,h5⟩:=hm.row j _ _ hj1 hjv;have hm:=iq h5 hv;subst hm;obtain⟨-,⟨h2,hn'⟩|⟨g,cap,cur,h2,-⟩⟩:=h5;·have:=qL hn;omega);·rw[h2,bm (ax h hi)];rw[h2] at hjv;have:=key (k:=k) (b:=g) (o:=0) (cap:=cap) ht hn.1 hn.2;rw[Oz] at this;exact⟨_,this,h0,vs,g,xs.length,cap,hb,hjv,rfl⟩
   ·cases he
  ·cases he
 ·rename_i id off k n m u hx hi ht;cases he;obtain⟨_,d,-,hu,-,-,-,e,j,d',rfl,h2,h3,h4,h5,h6⟩:=hT.types _ _ ht;obtain⟨b,hb,hv⟩:=ax h hx;rw[hv,bm (ax h hi)];obtain⟨c1,c2⟩:=hC;exact⟨.pointer (some ⟨b,off+n.toNat*u.w,none⟩),by simp[Instr.indexAt,run_underlying hu,asIntOf,c1,c2,Instr.sureAddr,sizeOf,typeInfo,h2,h3,Addr.add_mid],b,hb,rfl⟩
 ·rename_i m' t' xs k n m u hx hi ht;split at he;·rename_i e;obtain⟨rfl,rfl⟩:=e;cases he;obtain⟨_,d,-,hu,-,-,-,e,j,d',rfl,h2,h3,h4,h5,h6⟩:=hT.types _ _ ht;obtain⟨b,o,cells,hv,hr,hl⟩:=lA (ax h hx);obtain⟨hlen,hr⟩:xs.length=m'/\cC (fun c y=>t'.rep (hot X.O ρ s.own) w c y) cells xs:=hr;rw[hv,bm (ax h hi)];obtain⟨c1,c2⟩:=hC;obtain⟨hlt,hn⟩:=zu t' xs n c1 (by rw[hlen];exact c2);refine⟨.pointer (some ⟨b,o+n.toNat*t'.w,none⟩),by simp[Instr.indexAt,run_underlying hu,asIntOf,c1,c2,Instr.sureAddr,sizeOf,typeInfo,h2,h3,Addr.add_mid],rfl,b,o+n.toNat*t'.w,(cells.drop (n.toNat*t'.w)).take t'.w,rfl,?_,hl.sub _ _⟩;rw[hn];exact fH (fun c x h=>t'.rep_length h) hr n.toNat hlt
  ·cases he
 ·rename_i b o k n m u hx hi ht;cases he;obtain⟨_,d,-,hu,-,-,-,e,j,d',rfl,h2,h3,h4,h5,h6⟩:=hT.types _ _ ht;have hv:a.eval x=_:=ax h hx;rw[hv,bm (ax h hi)];obtain⟨c1,c2⟩:=hC;exact⟨.pointer (some ⟨b,o+n.toNat*u.w,none⟩),by simp[Instr.indexAt,run_underlying hu,asIntOf,c1,c2,Instr.sureAddr,sizeOf,typeInfo,h2,h3,Addr.add_mid],rfl⟩
 ·cases he
theorem DP{X:Cx}(hT:cT X.P X.T){s:aa}{a:Act}{w:World}{ρ:Nat->Value}(h:Fits X s a w ρ){t:TypeId}{x i:Operand}{C:Prop}{v:AV}(he:aT X.T s (.index t x i)=some (C,v))(hC:C):
  ∃val,(Instr.index t (a.eval x) (a.eval i)).run X.P w= .ok val w/\fL (hot X.O ρ s.own) w ρ v val:=by
 simp only[aT] at he;split at he
 ·rename_i xs k n hx hi ht;cases he;obtain⟨_,d,-,hu,-,-,-,hd⟩:=hT.types _ _ ht;have hd:d= .string:=hd;subst hd;rw[gA (ax h hx),bm (ax h hi)];have hlt:n.toNat<xs.length:=qL hC;have hsz:(⟨xs.toArray⟩:ByteArray).size=xs.length:=by show xs.toArray.size=_;simp
  have hg:(⟨xs.toArray⟩:ByteArray)[n.toNat]? =some (xs.getD n.toNat 0):=by
   rw[getElem?_pos _ _ (by rw[hsz];exact hlt)];have:(⟨xs.toArray⟩:ByteArray)[n.toNat]'(by rw[hsz];exact hlt)=xs[n.toNat]:=rfl;rw[this];simp[PY,hlt]
  exact⟨.int .u8 ((xs.getD n.toNat 0).toNat:Int),by simp[Instr.index,run_underlying hu,asIntOf,hC.1,hg],bP (ρ:=ρ)⟩
 ·rename_i m u xs k n m' u' hx hi ht;split at he
  ·rename_i e;obtain⟨rfl,rfl⟩:=e;cases he;obtain⟨_,d,-,hu,-,-,-,e,j,d',rfl,h2,h3,h4,h5,h6⟩:=hT.types _ _ ht;obtain⟨cs,hv,hlen,hr⟩:=IX (ax h hx);rw[hv,bm (ax h hi)];(have hlt:n<xs.length:=by rw[hlen];exact hC.2);obtain⟨hi',hn⟩:=zu u xs n hC.1 hlt;have hel:=fH (fun c x h=>u.rep_length h) hr n.toNat hi';have hcl:=bu (fun c x h=>u.rep_length h) hr;have hagg:(isAgg e).run X.P w= .ok u.isAgg w:=by
    unfold isAgg;rw[Sem.run_bind,run_underlying h4 w,<- h5];cases d'<;>simp[TypeDesc.isRow]
   have hrun:(Instr.index t (.agg cs.toArray) (.int k n)).run X.P w= .ok (mkV u.isAgg ((cs.drop (n.toNat*u.w)).take u.w)) w:=by
    cases hb:u.isAgg with
    |true=>
     rw[hb] at hagg;simp[Instr.index,run_underlying hu,asIntOf,hC.1,hC.2,part,Sem.run_bind,hagg,sizeOf,typeInfo,h2,h3,mkV]
    |false=>
     rw[hb] at hagg;have hw:=h6 hb;(have hlt2:n.toNat<cs.length:=by rw[hcl,hw];omega);simp[Instr.index,run_underlying hu,asIntOf,hC.1,hC.2,part,Sem.run_bind,hagg,sizeOf,typeInfo,h2,h3,mkV,hw,hlt2];rw[take_one cs _ hlt2];rfl
   refine⟨_,hrun,?_⟩;have:=gz (ρ:=ρ) hel h6 (fun _=>Ty.rep_oneCell _ hel);rw[<- hn] at this;exact this
  ·cases he
 ·cases he
theorem tZ{X:Cx}(hT:cT X.P X.T){s:aa}{a:Act}{w:World}{ρ:Nat->Value}(h:Fits X s a w ρ){t:TypeId}{x:Operand}{lo hi mx:Option Operand}{C:Prop}{v:AV}(he:aT X.T s (.slice t x lo hi mx)=some (C,v))(hC:C):
  ∃val,(Instr.sliceAt t (a.eval x) (lo.map a.eval) (hi.map a.eval) (mx.map a.eval)).run X.P w= .ok val w/\fL (hot X.O ρ s.own) w ρ v val:=by
 simp only[aT] at he;split at he
 ·rename_i xa l hh m u hx hlo hhi hmx ht;have hlo':=mh h hlo;have hhi':=mh h hhi;have hmx':=mh h hmx;split at he
  ·rename_i C' v' hs;cases he;unfold sliceLV at hs;split at hs
   ·rename_i t' xs u';split at hs
    ·rename_i e;subst e;obtain⟨_,d,-,hu,-,-,-,e,j,rfl,h2,h3,-⟩:=hT.types _ _ ht;have hrep:=ax h hx;obtain⟨p,cap,hv,hle,hcap⟩:=tX hrep;have hb:(p=none/\xs=[]/\cap=0)∨∃b o p2,p=some ⟨b,o,p2⟩:=by
      (rw[hv] at hrep;rcases hrep.2 with⟨he,hx0⟩|⟨b,o,p2,cap',cells,he,_⟩);·simp[Value.cells] at he;exact .inl ⟨he.1,hx0,he.2.2⟩
      ·simp[Value.cells] at he;exact .inr ⟨b,o,p2,he.1⟩
     split at hs
     ·rename_i n1 n2 e1 e2;cases hs;obtain⟨c0,c1,c2⟩:=hC;cases mx with
      |some _=>exact hmx'.elim
      |none=>
       have hbd:=qJ (P:=X.P) (w:=w) (isSlice:=true) (cap:=cap) hlo' hhi' e1 e2 c0 c1 c2 hle;rw[hv] at hrep ⊢;have hrun:∀q,(Instr.sliceAt t (.slice q xs.length cap) (lo.map a.eval) (hi.map a.eval) (TU a.eval none)).run X.P w= .ok (.slice (if cap=n1.toNat then q else q.map (·.add (n1.toNat*t'.w))) (n2.toNat-n1.toNat) (cap-n1.toNat)) w:=by
        intro q;simp[Instr.sliceAt,run_underlying hu,Instr.slice,hbd,sizeOf,typeInfo,h2,h3]
       (refine⟨_,hrun p,?_⟩;rcases hb with⟨rfl,rfl,rfl⟩|⟨b,o,p2,rfl⟩);·simp at c2;(have e0:n2.toNat=0:=by omega);(have e3:n1.toNat=0:=by omega);rw[e0,e3];exact⟨rfl,.inl ⟨by simp[Value.cells],by simp⟩⟩
       ·by_cases hm:cap=n1.toNat
        ·have:=mS (l:=n1.toNat) (m:=cap) (n:=n2.toNat) hrep (by omega) (by omega) (by omega) (Oa _) o (by omega) p2 (.inl rfl);rw[if_pos hm];exact this
        ·have:=mS (l:=n1.toNat) (m:=cap) (n:=n2.toNat) hrep (by omega) (by omega) (by omega) (Oa _) (o+n1.toNat*t'.w) (fun _=>rfl) (if n1.toNat*t'.w=0 then p2 else none) (by split<;>simp);rw[if_neg hm,Pj,addr_add];exact this
     ·rename_i n1 n2 k m0 e1 e2;obtain⟨m',rfl⟩:∃m':Int,m'=m0:=⟨m0,rfl⟩;split at hs
      ·rename_i hv3;cases hs;obtain⟨c0,c1,c2,c3⟩:=hC;have c2':n2<=m':=c2;have c3':m'<=((List.length xs:Nat):Int):=c3;clear c2 c3;cases mx with
       |none=>exact hmx'.elim
       |some mx=>
        have hmv:=bm (H:=hot X.O ρ s.own) (w:=w) (ρ:=ρ) hmx';rename_i hl3;cases hi with
        |none=>exact hhi'.elim
        |some hi=>
        rcases lB e2 with⟨e4,_⟩|⟨k',e4⟩;·cases e4
        ·cases e4;have hhv:=bm (H:=hot X.O ρ s.own) (w:=w) (ρ:=ρ) hhi';have hlv:(lo=none/\n1=0)∨∃k,lo.map a.eval=some (.int k n1):=by
          rcases lB e1 with⟨rfl,e5⟩|⟨k',rfl⟩
          ·cases lo with
           |none=>exact .inl ⟨rfl,e5⟩
           |some lo=>exact hlo'.elim
          ·cases lo with
           |none=>exact hlo'.elim
           |some lo=>exact .inr ⟨k',by simpa using bm (H:=hot X.O ρ s.own) (w:=w) (ρ:=ρ) hlo'⟩
         (have q1:n2<=((m'.toNat:Nat):Int):=by omega);(have q2:n1<=((n2.toNat:Nat):Int):=by omega);(have q3:m'<=(cap:Int):=by omega);have hbd:(Instr.sliceBounds true xs.length cap (lo.map a.eval) (some (a.eval hi)) (some (a.eval mx))).run X.P w= .ok (n1.toNat,n2.toNat,m'.toNat) w:=by
          (rw[hhv,hmv];rcases hlv with⟨rfl,rfl⟩|⟨k5,hl5⟩;·simp[Instr.sliceBounds,cU (P:=X.P) (w:=w) (show 0<=m' by omega) q3,cU (P:=X.P) (w:=w) (show 0<=n2 by omega) q1]);·rw[hl5];simp[Instr.sliceBounds,cU (P:=X.P) (w:=w) (show 0<=m' by omega) q3,cU (P:=X.P) (w:=w) (show 0<=n2 by omega) q1,cU (P:=X.P) (w:=w) c0 q2]
         rw[hv] at hrep ⊢;have hrun:∀q,(Instr.sliceAt t (.slice q xs.length cap) (lo.map a.eval) (TU a.eval (some hi)) (TU a.eval (some mx))).run X.P w= .ok (.slice (if m'.toNat=n1.toNat then q else q.map (·.add (n1.toNat*t'.w))) (n2.toNat-n1.toNat) (m'.toNat-n1.toNat)) w:=by
          intro q;simp[Instr.sliceAt,run_underlying hu,Instr.slice,hbd,sizeOf,typeInfo,h2,h3]
         (refine⟨_,hrun p,?_⟩;rcases hb with⟨rfl,rfl,rfl⟩|⟨b,o,p2,rfl⟩);·simp at c3';(have e0:n2.toNat=0:=by omega);(have e3:n1.toNat=0:=by omega);(have e6:m'.toNat=0:=by omega);rw[e0,e3,e6];exact⟨rfl,.inl ⟨by simp[Value.cells],by simp⟩⟩
         ·by_cases hm:m'.toNat=n1.toNat
          ·have:=mS (l:=n1.toNat) (m:=m'.toNat) (n:=n2.toNat) hrep (by omega) (by omega) (by omega) (by omega) o (by omega) p2 (.inl rfl);rw[if_pos hm];exact this
          ·have:=mS (l:=n1.toNat) (m:=m'.toNat) (n:=n2.toNat) hrep (by omega) (by omega) (by omega) (by omega) (o+n1.toNat*t'.w) (fun _=>rfl) (if n1.toNat*t'.w=0 then p2 else none) (by split<;>simp);rw[if_neg hm,Pj,addr_add];exact this
      ·cases hs
     ·cases hs
    ·cases hs
   ·rename_i xs;split at hs
    ·rename_i n1 n2 e1 e2;cases hs;obtain⟨c0,c1,c2⟩:=hC;obtain⟨_,d,-,hu,-,-,-,hd⟩:=hT.types _ _ ht;have hd:d= .string:=hd;subst hd;(have hsz:(⟨xs.toArray⟩:ByteArray).size=xs.length:=by show xs.toArray.size=_;simp);cases mx with
     |some _=>exact hmx'.elim
     |none=>
      have hbd:=qJ (P:=X.P) (w:=w) (isSlice:=false) (cap:=xs.length) hlo' hhi' e1 e2 c0 c1 c2 (Oa _);rw[gA (ax h hx)];have hrun:(Instr.sliceAt t (.string ⟨xs.toArray⟩) (lo.map a.eval) (hi.map a.eval) (TU a.eval none)).run X.P w= .ok (.string ((⟨xs.toArray⟩:ByteArray).extract n1.toNat n2.toNat)) w:=by
       simp[Instr.sliceAt,run_underlying hu,Instr.slice,hsz,hbd]
      refine⟨_,hrun,?_⟩;have:(⟨xs.toArray⟩:ByteArray).extract n1.toNat n2.toNat=⟨((xs.take n2.toNat).drop n1.toNat).toArray⟩:=by
       ext1
       rw[ByteArray.data_extract];apply Qk;simp[List.extract_eq_take_drop,RI]
      rw[this];exact fb (ρ:=ρ)
    ·cases hs
   ·cases hs
  ·cases he
 ·cases he
theorem qM{P:Program}{w:World}{k k':IntKind}{a b:Int}{at_:Array TypeId}{ty:TypeId}:
  (Builtin.min_ at_ ty #[.int k a,.int k' b]).run P w= .ok (.int k (min a b)) w/\(Builtin.max_ at_ ty #[.int k a,.int k' b]).run P w= .ok (.int k (max a b)) w:=by
 constructor
 ·have:(if b<a then b else a)=min a b:=by split<;>omega
  simp[Builtin.min_,Builtin.min2,this]
 ·have:(if a<b then b else a)=max a b:=by split<;>omega
  simp[Builtin.max_,Builtin.max2,this]
theorem oa{X:Cx}{s:aa}{a:Act}{w:World}{ρ:Nat->Value}(h:Fits X s a w ρ):∀(xs:List Operand) {cs:List CV},jh s xs=some cs->aY (eY (hot X.O ρ s.own) w ρ) cs (xs.map a.eval)
 | [],cs,he=>by simp[jh] at he;subst he;trivial
 |x::xs,cs,he=>by
  simp only[jh] at he;split at he;·rename_i t y cs' hx hr;cases he;exact⟨ax h hx,oa h xs hr⟩
  ·rename_i id cs' hx hr;cases he;exact⟨ax h hx,oa h xs hr⟩
  ·cases he
theorem KD{P:Program}{T:Tab}(hT:cT P T){t:TypeId}(h:mQ T t=true):∃E,P.underlying t=some (.slice E)/\P.underlying E=some (.int .u8):=by
 unfold mQ at h;split at h
 ·rename_i E h1 h2;split at h;·rename_i h3;obtain⟨_,d,-,hu,-,-,-,e⟩:=hT.types _ _ h3;have e:d=_:=e;subst e;exact⟨E,hT.elems _ _ h2,hu⟩
  ·cases h
 ·cases h
theorem mU{H:Nat->Prop}{w:World}{k:IntKind}:∀{xs:List Int} {cells:List Value},cC (fun c (y:Int)=>(Ty.int k).rep H w c y) cells xs->cells=xs.map (Value.int k)
 | [],_,h=>h
 |x::xs,_,⟨c,d,e,h1,h2⟩=>by
  have h1:c=[.int k x]:=h1;rw[e,h1,mU h2];rfl
theorem qN{P:Program}{w:World}{H:Nat->Prop}{src dst e:TypeId}{b o cap:Nat}{xs:List Int}{cells:List Value}(hs:P.underlying src=some (.slice e))(he:P.underlying e=some (.int .u8))(hd:P.underlying dst=some .string)
  (hc:∀j,j<cells.length->w.cell? ⟨b,o+j,none⟩=cells[j]?) (hr:cC (fun c (y:Int)=>(Ty.int .u8).rep H w c y) cells xs):
  (convert src dst (.slice (some ⟨b,o,none⟩) xs.length cap)).run P w= .ok (.string ⟨(strOf xs).toArray⟩) w:=by
 have hcs:=mU hr;subst hcs;rw[run_convert_bytes_string w src dst e _ _ _ hs he hd];have hl:=run_loadCells_list (P:=P) w ⟨b,o,none⟩ (xs.map (Value.int .u8)) (fun j v hj=>by
  have hj':j<(xs.map (Value.int .u8)).length:=(Oh.1 hj).1;have:=hc j hj';rw[hj] at this;by_cases h0:j=0;·subst h0;simpa [Addr.add] using this
  ·simpa [Addr.add,h0] using this)
 simp only[List.length_map] at hl;rw[run_bytesToString w _ _ _ xs hl];have:∀(l:List Int) (r:ByteArray),l.foldl (fun r n=>r.push (UInt8.ofNat n.toNat)) r=⟨r.data++(strOf l).toArray⟩:=by
  intro l;induction l with
  |nil=>intro r;simp[strOf]
  |cons n l ih=>intro r;rw[PQ,ih];simp[strOf,ByteArray.push]
 rw[this];simp
theorem ua{X:Cx}(hT:cT X.P X.T){s:aa}{a:Act}{w:World}{ρ:Nat->Value}(hon:X.T.On w)(h:Fits X s a w ρ){o:Oper}{C:Prop}{v:AV}(he:aT X.T s o.op=some (C,v))(hC:C):
  ∃val,(execOp a.eval o).run X.P w= .ok (.value val) w/\fL (hot X.O ρ s.own) w ρ v val:=by
 unfold execOp;cases hop:o.op with
 |move x=>
  rw[hop] at he;simp only[aT] at he;dsimp only;split at he;·cases he
  ·cases he
  ·rename_i v' hv;cases he;exact⟨_,rfl,bJ h hv⟩
  ·cases he
 |assign x=>
  rw[hop] at he;simp only[aT] at he;dsimp only;split at he;·cases he
  ·cases he
  ·rename_i v' hv;cases he;exact⟨_,rfl,bJ h hv⟩
  ·cases he
 |binOp op ty x y ty'=>
  rw[hop] at he;simp only[aT] at he;dsimp only;split at he
  ·(rename_i va vb hx hy;split at he;·rename_i C' v' hb;cases he;obtain⟨r,h1,h2⟩:=DM hT (x:=x) (y:=y) hb hC (ax h hx) (ax h hy);exact⟨r,bl h1,h2⟩);·cases he
  ·cases he
 |unOp op ty x=>
  rw[hop] at he;simp only[aT] at he;dsimp only;split at he
  ·(rename_i va hx;split at he;·rename_i v' hb;cases he;obtain⟨r,h1,h2⟩:=FH (P:=X.P) hb (ax h hx);exact⟨r,bl h1,h2⟩);·cases he
  ·cases he
 |convert src dst x=>
  rw[hop] at he;simp only[aT] at he;dsimp only;split at he;case h_2=>cases he
  rename_i v' hx;unfold kz at he;split at he
  ·(rename_i k'' hd;split at he;·rename_i k n k' hs;cases he;obtain⟨_,d1,-,hu1,-,-,-,e1⟩:=hT.types _ _ hs;obtain⟨_,d2,-,hu2,-,-,-,e2⟩:=hT.types _ _ hd;have e1:d1=_:=e1;have e2:d2=_:=e2;subst e1;subst e2;rw[bm (ax h hx)];exact⟨.int k'' (k''.wrap n),bl (by simp[convert,run_underlying hu1,run_underlying hu2,Conv.intToInt]),bP (ρ:=ρ)⟩);·cases he
  ·rename_i hd;split at he;·rename_i xs hs;cases he;obtain⟨_,d1,-,hu1,-,-,-,e1⟩:=hT.types _ _ hs;obtain⟨_,d2,-,hu2,-,-,-,e2⟩:=hT.types _ _ hd;have e1:d1=_:=e1;have e2:d2=_:=e2;subst e1;subst e2;rw[gA (ax h hx)];exact⟨.string ⟨xs.toArray⟩,bl (by simp[convert,run_underlying hu1,run_underlying hu2]),fb (ρ:=ρ)⟩
   ·split at he;(case h_2=>cases he);rename_i l hu8 hl;cases he;obtain⟨E,hu1,hE⟩:=KD hT hu8;obtain⟨_,d2,-,hu2,-,-,-,e2⟩:=hT.types _ _ hd;have e2:d2=_:=e2;subst e2;unfold iV at hl;split at hl
    ·rename_i id;split at hl
     ·(rename_i T' xs hg;cases hl;obtain⟨h1,ad,n,c,h2⟩:=ax h hx;rw[h1] at h2;obtain⟨rfl,cells,h3,h4,h5⟩:=fc h.own hg h2;rw[h1,h2];rcases h5 with⟨rfl,rfl,rfl⟩|⟨g,rfl,_,_,_,cur,h6,_,h7⟩;·exact⟨.string ⟨#[]⟩,bl (by rw[run_convert_bytes_string _ _ _ _ _ _ _ hu1 hE hu2];simp[Conv.bytesToString,Sem.run_pure];rfl),fb (ρ:=ρ) (l:=[])⟩);·exact⟨.string ⟨(strOf xs).toArray⟩,bl (qN hu1 hE hu2 (fun j hj=>fv h6 h7 hj) h3),fb (ρ:=ρ)⟩
     ·cases hl
    ·(rename_i xs _;cases hl;obtain⟨hag,hr⟩:=ax h hx;have hone:=ck (v:=a.eval x) (by cases hv:a.eval x<;>rw[hv] at hag<;>first|rfl|(simp[Ty.isAgg] at hag));rcases hr with⟨hv,hnil⟩|⟨b,o,p,cap,cells,hv,hp,hlen,hcap,hcells,hlies⟩);·rw[hone] at hv;(have:a.eval x= .slice none 0 0:=by simpa using hv);rw[this];subst hnil;exact⟨.string ⟨#[]⟩,bl (by rw[run_convert_bytes_string _ _ _ _ _ _ _ hu1 hE hu2];simp[Conv.bytesToString,Sem.run_pure];rfl),fb (ρ:=ρ) (l:=[])⟩
     ·(rw[hone] at hv;(have:a.eval x= .slice (some ⟨b,o,p⟩) xs.length cap:=by simpa using hv);rw[this];by_cases hnil:xs=[];·subst hnil;exact⟨.string ⟨#[]⟩,bl (by rw[run_convert_bytes_string _ _ _ _ _ _ _ hu1 hE hu2];simp[Conv.bytesToString,Sem.run_pure];rfl),fb (ρ:=ρ) (l:=[])⟩);obtain rfl:=hp hnil;refine⟨.string ⟨(strOf xs).toArray⟩,bl (qN hu1 hE hu2 ?_ hcells),fb (ρ:=ρ)⟩;exact hlies.2
    ·cases hl
  ·cases he
 |load t x=>
  rw[hop] at he;obtain⟨r,h1,h2⟩:=run_load hT hon h he hC;exact⟨r,bl h1,h2⟩
 |nilCheck x=>
  rw[hop] at he;simp only[aT] at he;dsimp only;split at he;·rename_i t y hx;cases he;have hr:=ax h hx;obtain⟨b,o',cells,hv,h1,h2⟩:=lA hr;rw[hv] at hr ⊢;exact⟨_,rfl,hr⟩
  ·rename_i t y hx;cases he;obtain⟨z,rfl⟩:=OR.1 hC;have hr0:=ax h hx;have hr:aJ (hot X.O ρ s.own) w ρ (.z (.ptr t) z) (a.eval x):=hr0;obtain⟨b,o',cells,hv,h1,h2⟩:=lA hr;rw[hv] at hr ⊢;exact⟨_,rfl,hr⟩
  ·rename_i id off hx;cases he;have hr:=ax h hx;obtain⟨b,hb,hv⟩:=hr;simp only[hv];exact⟨_,rfl,b,hb,rfl⟩
  ·cases he
 |fieldAddr t x k=>
  rw[hop] at he;obtain⟨r,h1,h2⟩:=tF hT h he hC;exact⟨r,bl h1,h2⟩
 |field t x k=>
  rw[hop] at he;obtain⟨r,h1,h2⟩:=DO hT h he;exact⟨r,bl h1,h2⟩
 |indexAddr t x i=>
  rw[hop] at he;obtain⟨r,h1,h2⟩:=tG hT h he hC;exact⟨r,bl h1,h2⟩
 |index t x i=>
  rw[hop] at he;obtain⟨r,h1,h2⟩:=DP hT h he hC;exact⟨r,bl h1,h2⟩
 |slice t x lo hi mx=>
  rw[hop] at he;obtain⟨r,h1,h2⟩:=tZ hT h he hC;exact⟨r,bl h1,h2⟩
 |extract x n=>
  rw[hop] at he;simp only[aT] at he;dsimp only;split at he
  ·(rename_i l hx;split at he;·rename_i v' hl;cases he;obtain⟨vs,hv,hvs⟩:=bJ h hx;obtain⟨u,hu,hr⟩:=hvs.get hl;rw[hv];exact⟨u,bl (by simp[Instr.extract,hu]),hr⟩);·cases he
  ·cases he
 |makeFunc fn first caps=>
  rw[hop] at he;cases fn with
  |func f=>
   (simp only[aT] at he;dsimp only;split at he;·rename_i cs hf hcs;cases he;(have hf':first= #[]:=by apply Qk;simpa using hf);subst hf';refine⟨_,bl (w':=w) rfl,caps.toList.map a.eval,?_,oa h _ hcs⟩;(have:Array.map a.eval caps=(List.map a.eval caps.toList).toArray:=by apply Qk;simp);rw[<- this];simp);·cases he
  |_=>simp only[aT] at he;cases he
 |call c=>
  rw[hop] at he;simp only[aT] at he;dsimp only;split at he
  ·rename_i l b hcal;obtain⟨callee,args,argTypes⟩:=c;simp only at hcal he;subst hcal;obtain⟨args⟩:=args;obtain⟨argTypes⟩:=argTypes;simp only[dS] at he;cases b<;>simp only at he;case len=>
    split at he
    ·rename_i x ty _ _;split at he
     ·(rename_i id j u hx ht;split at he;·rename_i u' T E rows idx hg;cases he;obtain⟨i,d,-,hud,-,-,-,hs⟩:=hT.types _ _ ht;obtain⟨e,jj,rfl,-⟩:=hs;obtain⟨h0,vs,p,n,c,hb,hjv,hv⟩:=ax h hx;obtain⟨cells,hm⟩:=iZ h.own hg hb;obtain⟨hj1,hj2⟩:=jw hC;obtain⟨cs,hr,h5⟩:=hm.row j _ _ hj1 hjv;have hn:=iq h5 hv;subst hn;refine⟨.int .i64 ((rowOf rows j).length:Int),?_,bP (ρ:=ρ)⟩;simp[resolve,invoke,builtin,hv,Builtin.len_,run_underlying hud,goInt]);·cases he
     ·(rename_i va u _ hx ht;split at he;·rename_i v' hl;cases he;obtain⟨r,h1,h2⟩:=IY (t:=o.type) hT ht h.own hl (ax h hx);refine⟨r,?_,h2⟩;simp[resolve,invoke,builtin,h1]);·cases he
     ·cases he
    ·cases he
   case min=>
    split at he
    ·rename_i x y;split at he
     ·(rename_i k n k' m hx hy;split at he;·rename_i e;subst e;cases he;have h1:=bm (ax h hx);have h2:=bm (ax h hy);refine⟨.int k (min n m),?_,bP (ρ:=ρ)⟩;simp[resolve,invoke,builtin,h1,h2,(qM (P:=X.P) (w:=w) (k:=k) (k':=k) (a:=n) (b:=m)).1]);·cases he
     ·cases he
    ·cases he
   case max=>
    split at he
    ·rename_i x y;split at he
     ·(rename_i k n k' m hx hy;split at he;·rename_i e;subst e;cases he;have h1:=bm (ax h hx);have h2:=bm (ax h hy);refine⟨.int k (max n m),?_,bP (ρ:=ρ)⟩;simp[resolve,invoke,builtin,h1,h2,(qM (P:=X.P) (w:=w) (k:=k) (k':=k) (a:=n) (b:=m)).2]);·cases he
     ·cases he
    ·cases he
   all_goals cases he
  ·cases he
 |_=>rw[hop] at he;simp only[aT] at he;cases he
theorem Ty.rep_move{H H':Nat->Prop}{w w':World}(hh:∀b,b<w.heap.size->H' b->H b)(hs:aW H w w'){t:Ty}{cs:List Value}{x:t.D}(h:t.rep H w cs x):t.rep H' w' cs x:=by
 have h1:t.rep (fun b=>H b∨H' b) w cs x:=t.rep_hot (fun b hb h=>h.elim id (hh b hb)) h;have h2:t.rep (fun b=>H b∨H' b) w' cs x:=t.rep_stays (fun b hb hlt=>hs b (fun h=>hb (.inl h)) hlt) h1;exact t.rep_hot (fun _ _ h=> .inr h) h2
theorem aS{H H':Nat->Prop}{w w':World}(hh:∀b,b<w.heap.size->H' b->H b)(hs:aW H w w'){t:Ty}{xs:List t.D}{cs:List Value}(h:cC (fun c x=>t.rep H w c x) cs xs):cC (fun c x=>t.rep H' w' c x) cs xs:=
 iz (fun _ _ _ h=>Ty.rep_move hh hs h) h
theorem aN{H H':Nat->Prop}{w w':World}{ρ ρ':Nat->Value}(hh:∀b,b<w.heap.size->H' b->H b)(hs:aW H w w'){x:LV}(hρ:∀id,x.isOf id=true->ρ' id=ρ id){v:Value}(h:aJ H w ρ x v):aJ H' w' ρ' x v:=by
 cases x with
 |z t y=>exact⟨h.1,Ty.rep_move hh hs h.2⟩
 |ownS id=>rw[aJ,hρ id (by simp[LV.isOf])];exact h
 |ownP id off=>rw[aJ,hρ id (by simp[LV.isOf])];exact h
 |ownE id wd i=>rw[aJ,hρ id (by simp[LV.isOf])];exact h
 |ownW id wd i=>rw[aJ,hρ id (by simp[LV.isOf])];exact h
 |ownM id=>rw[aJ,hρ id (by simp[LV.isOf])];exact h
 |ownA id i=>rw[aJ,hρ id (by simp[LV.isOf])];exact h
 |ownR id j=>rw[aJ,hρ id (by simp[LV.isOf])];exact h
 |ownB id j wd i=>rw[aJ,hρ id (by simp[LV.isOf])];exact h
 |fn f caps=>
  obtain⟨vs,hv,h⟩:=h;refine⟨vs,hv,?_⟩;clear hv;induction caps generalizing vs with
  |nil=>cases vs with
   |nil=>trivial
   |cons _ _=>exact h.elim
  |cons c caps ih=>cases vs with
   |nil=>exact h.elim
   |cons u vs=>
    refine⟨?_,ih (fun id hi=>hρ id (by
     simp only[LV.isOf,RB,OT] at hi ⊢;exact .inr hi)) vs h.2⟩
    have h1:=h.1;cases c with
    |z t y=>exact⟨h1.1,Ty.rep_move hh hs h1.2⟩
    |p id=>rw[eY,hρ id (by simp[LV.isOf,CV.isOf])];exact h1
 |val u=>exact h
 |junk=>trivial
theorem aZ{H H':Nat->Prop}{w w':World}{ρ ρ':Nat->Value}{id:Nat}(hh:∀b,b<w.heap.size->H' b->H b)(hs:aW H w w')(hρ:∀i,i≠id->ρ' i=ρ i){x:LV}{v:Value}(h:aJ H w ρ x v):aJ H' w' ρ' (x.kill id) v:=by
 unfold LV.kill;split;·trivial
 ·rename_i hno;refine aN hh hs (fun i hi=>hρ i ?_) h;rintro rfl;exact hno hi
theorem qO{H H':Nat->Prop}{w w':World}{ρ ρ':Nat->Value}{f:LV->LV}(hf:∀x v,aJ H w ρ x v->aJ H' w' ρ' (f x) v){x:LV}{v:Value}(h:fK H w ρ x v):fK H' w' ρ' (f x) v:=⟨hf _ _ h.1,h.2⟩
theorem aY.map_left{α β:Type}{R R':α->β->Prop}{f:α->α}(hf:∀a b,R a b->R' (f a) b):∀{l1:List α} {bs:List β},aY R l1 bs->aY R' (l1.map f) bs
 | [],[],_=>trivial
 |_::_,_::_,h=>⟨hf _ _ h.1,h.2.map_left hf⟩
 | [],_::_,h=>h.elim
 |_::_,[],h=>h.elim
theorem eF{H H':Nat->Prop}{w w':World}{ρ ρ':Nat->Value}{f:LV->LV}(hf:∀x v,aJ H w ρ x v->aJ H' w' ρ' (f x) v){x:AV}{v:Value}(h:fL H w ρ x v):fL H' w' ρ' (x.map f) v:=by
 cases x with
 |l x=>exact hf _ _ h
 |agg cs=>obtain⟨vs,e,h⟩:=h;exact⟨vs,e,h.map_left (fun _ _ h=>qO hf h)⟩
 |tup xs=>obtain⟨vs,e,h⟩:=h;exact⟨vs,e,h.map_left hf⟩
 |g φ x=>exact⟨fun hφ=>hf _ _ (h.1 hφ),h.2⟩
 |gt φ xs=>exact⟨fun hφ=>by obtain⟨vs,e,h⟩:=h.1 hφ;exact⟨vs,e,h.map_left hf⟩,h.2⟩
theorem gh{f:LV->LV}:∀{l:List (Nat×AV)} {e:Nat×AV},e∈bH f l->∃v,(e.1,v)∈l/\e.2=v.map f
 |(k,v)::r,e,h=>by
  simp only[bH,IS] at h;rcases h with rfl|h;·exact⟨v,by simp,rfl⟩
  ·obtain⟨u,h1,h2⟩:=gh h;exact⟨u,by simp[h1],h2⟩
theorem a8{f:LV->LV}:∀{l:List (Nat×aB)} {e:Nat×aB},e∈bg f l->∃v,(e.1,v)∈l/\e.2=v.map f
 |(k,v)::r,e,h=>by
  simp only[bg,IS] at h;rcases h with rfl|h;·exact⟨v,by simp,rfl⟩
  ·obtain⟨u,h1,h2⟩:=a8 h;exact⟨u,by simp[h1],h2⟩
theorem cA{f:LV->LV}(R:Nat->Nat->Prop):∀{l:List (Nat×aB)},l.Pairwise (fun p q=>R p.1 q.1)->(bg f l).Pairwise (fun p q=>R p.1 q.1)
 | [],_=> .nil
 |(k,v)::r,h=>by
  simp only[bg];rw[OW] at h ⊢;exact⟨fun q hq=>by obtain⟨u,h1,_⟩:=a8 hq;exact h.1 (q.1,u) h1,cA R h.2⟩
theorem da(R:Nat->Nat->Prop){α:Type}:∀{l:List (Nat×α)} {n:Nat},l.Pairwise (fun p q=>R p.1 q.1)->(del l n).Pairwise (fun p q=>R p.1 q.1)
 | [],_,_=> .nil
 |(k,v)::r,n,h=>by
  rw[OW] at h;simp only[del];split;·exact da R h.2
  ·rw[OW];exact⟨fun q hq=>h.1 _ (bC.1 hq).1,da R h.2⟩
theorem jx{M:Nat->Prop}{w:World}{e:TypeId}{size n:Nat}{v:Value}{xs:List Value}(h:rowAt M w e size v n xs){b:Nat}(hb:blk v=some b):M b/\∃cur,w.heap[b]? =some (.cells cur e (0,0)):=by
 obtain⟨_,⟨h,_⟩|⟨g,cap,cur,h,hM,hh,_⟩⟩:=h;·rw[h] at hb;simp[blk] at hb
 ·rw[h] at hb;simp[blk] at hb;subst hb;exact⟨hM,cur,hh⟩
theorem uc{M:Nat->Prop}{w:World}{e:TypeId}{size n:Nat}{v:Value}{xs:List Value}(h:mR M w e size v n xs){b:Nat}(hb:Blk v b):M b/\∃cur,w.heap[b]? =some (.cells cur e (0,0)):=by
 obtain⟨_,⟨h,_⟩|⟨g,off,cap,cur,h,hM,hh,_⟩⟩:=h;·rw[h] at hb;simp[Blk] at hb
 ·rw[h] at hb;simp[Blk] at hb;subst hb;exact⟨hM,cur,hh⟩
theorem mi{M M':Nat->Prop}{w w':World}{e:TypeId}{size n:Nat}{v:Value}{xs:List Value}(h:mR M w e size v n xs)(hb:∀b,Blk v b->M' b/\w'.heap[b]? =w.heap[b]?):mR M' w' e size v n xs:=by
 obtain⟨hl,h|⟨g,off,cap,cur,h,hM,hh,h1⟩⟩:=h;·exact⟨hl,.inl h⟩
 ·have:=hb g (by rw[h];rfl);exact⟨hl,.inr ⟨g,off,cap,cur,h,this.1,by rw[this.2];exact hh,h1⟩⟩
theorem fi{M:Nat->Prop}{w w':World}{e:TypeId}{size n:Nat}{v:Value}{xs:List Value}(h:rowAt M w e size v n xs)(hb:∀b,blk v=some b->w'.heap[b]? =w.heap[b]?):rowAt M w' e size v n xs:=by
 obtain⟨hl,h|⟨g,cap,cur,h,hM,hh,h1⟩⟩:=h;·exact⟨hl,.inl h⟩
 ·exact⟨hl,.inr ⟨g,cap,cur,h,hM,by rw[hb g (by rw[h];rfl)];exact hh,h1⟩⟩
theorem Bm{M M':Nat->Prop}{w:World}{e:TypeId}{size n:Nat}{v:Value}{xs:List Value}(h:rowAt M w e size v n xs)(hb:∀b,blk v=some b->M' b):rowAt M' w e size v n xs:=by
 obtain⟨hl,h|⟨g,cap,cur,h,hM,h1⟩⟩:=h;·exact⟨hl,.inl h⟩
 ·exact⟨hl,.inr ⟨g,cap,cur,h,hb g (by rw[h];rfl),h1⟩⟩
theorem bW.matBlk{H:Nat->Prop}{w:World}{ρ:Nat->Value}{M:Nat->Prop}{id:Nat}{t:Ty}{T E:TypeId}{rows:List (Option (List t.D))}{idx:List (Option Nat)}(h:bW H w ρ M (id,.mat t T E rows idx)){b:Nat}(hb:Blk (ρ id) b):M b/\∃o:Obj,w.heap[b]? =some o/\o.isCells=true:=by
 obtain⟨h0,vs,cells,h1,h2⟩:=h;rw[h1] at hb;obtain⟨u,hu,hub⟩:=hb;rcases IS.1 hu with rfl|hu;·obtain⟨hM,cur,hc⟩:=jx h2.hdr hub;exact⟨hM,_,hc,rfl⟩
 ·exact((h2.shape u hu).2 b hub).2
theorem qG.move{α:Type}{R R':List Value->α->Prop}{size:Nat}{M M':Nat->Prop}{w w':World}{T E:TypeId}{rows:List (Option (List α))}{idx:List (Option Nat)}{h:Value}{vs cells:List Value}(hm:qG R size M w T E rows idx h vs cells)
  (hR:∀c x,R c x->R' c x) (hb:∀u∈h::vs,∀b,blk u=some b->M' b/\w'.heap[b]? =w.heap[b]?):qG R' size M' w' T E rows idx h vs cells:=by
 refine⟨hm.len,fi (Bm hm.hdr fun b e=>(hb h (PE ..) b e).1) (fun b e=>(hb h (PE ..) b e).2),hm.one,hm.at_,fun v hv=>⟨(hm.shape v hv).1,fun b e=>⟨((hm.shape v hv).2 b e).1,?_⟩⟩,fun j xs v hx hv=>?_,hm.apart⟩;·obtain⟨q1,q2⟩:=hb v (OF _ hv) b e;rw[q2];exact⟨q1,((hm.shape v hv).2 b e).2.2⟩
 ·obtain⟨cs,h8,h9⟩:=hm.row j xs v hx hv;have hq:=hb v (OF _ (O9 hv));exact⟨cs,iz (fun c x _ h=>hR c x h) h8,fi (Bm h9 fun b e=>(hq b e).1) (fun b e=>(hq b e).2)⟩
theorem qG.Mof{α:Type}{R:List Value->α->Prop}{size:Nat}{M:Nat->Prop}{w:World}{T E:TypeId}{rows:List (Option (List α))}{idx:List (Option Nat)}{h:Value}{vs cells:List Value}(hm:qG R size M w T E rows idx h vs cells){u:Value}(hu:u∈h::vs){b:Nat}(hb:blk u=some b):M b/\∃o:Obj,w.heap[b]? =some o/\o.isCells=true:=by
 rcases IS.1 hu with rfl|hu;·obtain⟨hM,cur,hc⟩:=jx hm.hdr hb;exact⟨hM,_,hc,rfl⟩
 ·exact((hm.shape u hu).2 b hb).2
theorem bW.lt{H:Nat->Prop}{w:World}{ρ:Nat->Value}{M:Nat->Prop}{p:Nat×aB}(h:bW H w ρ M p){b:Nat}(hb:Blk (ρ p.1) b):M b/\b<w.heap.size:=by
 have key:∀{g:Nat} {o:Obj},w.heap[g]? =some o->g<w.heap.size:=fun h=>(BY.1 h).1;obtain⟨id,obj⟩:=p;cases obj with
 |box T cs=>
  obtain⟨g,vs,h1,h2,h3,h4⟩:=h;simp only at hb;rw[h1] at hb;simp[Blk] at hb;subst hb;exact⟨h2,key h3⟩
 |arr t T xs=>
  obtain⟨cells,h1,h2,h3⟩:=h;simp only at hb;rcases h3 with⟨h3,_⟩|⟨g,cap,cur,h3,h4,h5,_⟩;·rw[h3] at hb;simp[Blk] at hb
  ·rw[h3] at hb;simp[Blk] at hb;subst hb;exact⟨h4,key h5⟩
 |win t T pre xs post=>
  obtain⟨g,cap,cells,cur,_,h3,h4,h5,_⟩:=h;simp only at hb;rw[h3] at hb;simp[Blk] at hb;subst hb;exact⟨h4,key h5⟩
 |mat t T E rows idx=>
  obtain⟨h1,o,h2,-⟩:=h.matBlk hb;exact⟨h1,key h2⟩
 |que t T xs=>
  obtain⟨cells,h1,h2⟩:=h;obtain⟨h3,cur,h4⟩:=uc h2 hb;exact⟨h3,key h4⟩
theorem bW.cells{H:Nat->Prop}{w:World}{ρ:Nat->Value}{M:Nat->Prop}{p:Nat×aB}(h:bW H w ρ M p){b:Nat}(hb:Blk (ρ p.1) b):∃o:Obj,w.heap[b]? =some o/\o.isCells=true:=by
 obtain⟨id,obj⟩:=p;cases obj with
 |box T cs=>
  obtain⟨g,vs,h1,h2,h3,h4⟩:=h;simp only at hb;rw[h1] at hb;simp[Blk] at hb;subst hb;exact⟨_,h3,rfl⟩
 |arr t T xs=>
  obtain⟨cells,h1,h2,h3⟩:=h;simp only at hb;rcases h3 with⟨h3,_⟩|⟨g,cap,cur,h3,h4,h5,_⟩;·rw[h3] at hb;simp[Blk] at hb
  ·rw[h3] at hb;simp[Blk] at hb;subst hb;exact⟨_,h5,rfl⟩
 |win t T pre xs post=>
  obtain⟨g,cap,cells,cur,_,h3,h4,h5,_⟩:=h;simp only at hb;rw[h3] at hb;simp[Blk] at hb;subst hb;exact⟨_,h5,rfl⟩
 |mat t T E rows idx=>
  exact(h.matBlk hb).2
 |que t T xs=>
  obtain⟨cells,h1,h2⟩:=h;obtain⟨h3,cur,h4⟩:=uc h2 hb;exact⟨_,h4,rfl⟩
theorem bW.move{H H':Nat->Prop}{w w':World}{ρ ρ':Nat->Value}{M:Nat->Prop}{p:Nat×aB}{f:LV->LV}(h:bW H w ρ M p)(hh:∀b,b<w.heap.size->H' b->H b)(hs:aW H w w')
  (hf:∀x v,aJ H w ρ x v->aJ H' w' ρ' (f x) v) (hρ:ρ' p.1=ρ p.1) (hb:∀b,Blk (ρ p.1) b->w'.heap[b]? =w.heap[b]?):bW H' w' ρ' M (p.1,p.2.map f):=by
 obtain⟨id,obj⟩:=p;cases obj with
 |box T cs=>
  obtain⟨g,vs,h1,h2,h3,h4⟩:=h;exact⟨g,vs,by rw[hρ];exact h1,h2,by rw[hb g (by rw[h1];rfl)];exact h3,h4.map_left (fun _ _ h=>qO hf h)⟩
 |arr t T xs=>
  obtain⟨cells,h1,h2,h3⟩:=h;refine⟨cells,aS hh hs h1,h2,?_⟩;rw[hρ];rcases h3 with h3|⟨g,cap,cur,h3,h4,h5,h6⟩;·exact .inl h3
  ·exact .inr ⟨g,cap,cur,h3,h4,by rw[hb g (by rw[h3];rfl)];exact h5,h6⟩
 |win t T pre xs post=>
  obtain⟨g,cap,cells,cur,hr,h3,h4,h5,h6⟩:=h;exact⟨g,cap,cells,cur,aS hh hs hr,by rw[hρ];exact h3,h4,by rw[hb g (by rw[h3];rfl)];exact h5,h6⟩
 |mat t T E rows idx=>
  obtain⟨h0,vs,cells,h1,h2⟩:=h;refine⟨h0,vs,cells,by rw[hρ];exact h1,h2.move (fun c x h=>Ty.rep_move hh hs h) fun u hu b e=>⟨(h2.Mof hu e).1,hb b ?_⟩⟩;show Blk (ρ id) b;rw[h1];exact⟨u,hu,e⟩
 |que t T xs=>
  have hlt:∀b,Blk (ρ id) b->M b:=fun b hb=>(bW.lt h hb).1;obtain⟨cells,h1,h2⟩:=h;refine⟨cells,aS hh hs h1,?_⟩;rw[hρ];exact mi h2 fun b e=>⟨hlt b e,hb b e⟩
theorem aB.map_id(o:aB):o.map id=o:=by cases o<;>simp[aB.map]
theorem bW.move_id{H H':Nat->Prop}{w w':World}{ρ:Nat->Value}{M:Nat->Prop}{p:Nat×aB}(h:bW H w ρ M p)(hh:∀b,b<w.heap.size->H' b->H b)(hs:aW H w w')
  (hb:∀b,Blk (ρ p.1) b->w'.heap[b]? =w.heap[b]?):bW H' w' ρ M p:=by
 have:=h.move (f:=id) (ρ':=ρ) hh hs (fun x v h=>aN hh hs (fun _ _=>rfl) h) rfl hb;rwa [aB.map_id] at this
theorem Act.getD_put{a:Act}{d t:Nat}{v:Value}(hd:d<a.tmps.size):(a.put (some d) v).tmps.getD t undef=if t=d then v else a.tmps.getD t undef:=by
 simp only[Act.put,O1];rw[QS];by_cases h:t=d;·subst h;simp[hd]
 ·rw[if_neg h,if_neg (fun e=>h e.symm)]
theorem Act.size_put{a:Act}{d:Option Nat}{v:Value}:(a.put d v).tmps.size=a.tmps.size:=by cases d<;>simp[Act.put]
theorem Act.defers_put{a:Act}{d:Option Nat}{v:Value}:(a.put d v).defers=a.defers:=by cases d<;>rfl
theorem Fits.put{X:Cx}{s:aa}{a:Act}{w:World}{ρ:Nat->Value}(h:Fits X s a w ρ){d:Nat}(hd:d<a.tmps.size){v:AV}{val:Value}(hv:fL (hot X.O ρ s.own) w ρ v val):Fits X (s.put d v) (a.put (some d) val) w ρ:=by
 refine⟨fun e he=>?_,h.own,h.io,h.apart⟩;simp only[aa.put,IS,bC] at he;rw[Act.getD_put hd];rcases he with rfl|⟨he,hne⟩;·simp only[if_true];exact hv
 ·rw[if_neg hne];exact h.env e he
theorem Act.getD_put_ne{a:Act}{d t:Nat}{v:Value}(h:t≠d):(a.put (some d) v).tmps.getD t undef=a.tmps.getD t undef:=by
 simp only[Act.put,O1];rw[QS,if_neg (fun e=>h e.symm)]
theorem FI{X:Cx}{a:Act}{d:Nat}{v:Value}(hd:X.T.ok d=true)(h:∀t∈X.T.keep,a.tmps.getD t undef=X.tm t):∀t∈X.T.keep,(a.put (some d) v).tmps.getD t undef=X.tm t:=by
 intro t ht;rw[Act.getD_put_ne];·exact h t ht
 ·rintro rfl;simp only[Tab.ok,N9,Bool.not_eq_true',List.contains_eq_mem,decide_eq_false_iff_not] at hd;exact hd.2 ht
theorem St.next{X:Cx}{s s':aa}{a:Act}{w w':World}(h:St X s a w){d:Nat}{v:Value}{ρ:Nat->Value}(hd:X.T.ok d=true)(hk:KeepsOthers w w')(hb:Bel X.M X.w0 w')(hf:Fits X s' (a.put (some d) v) w' ρ):St X s' (a.put (some d) v) w':=
 ⟨by rw[Act.defers_put];exact h.marks.keep hk,FI hd h.kept,by rw[Act.size_put];exact h.size,hb,h.others,h.small,ρ,hf⟩
theorem St.next0{X:Cx}{s s':aa}{a:Act}{w w':World}(h:St X s a w){ρ:Nat->Value}(hk:KeepsOthers w w')(hb:Bel X.M X.w0 w')(hf:Fits X s' a w' ρ):St X s' a w':=
 ⟨h.marks.keep hk,h.kept,h.size,hb,h.others,h.small,ρ,hf⟩
theorem St.put{X:Cx}{s:aa}{a:Act}{w:World}(h:St X s a w){ρ:Nat->Value}(hf:Fits X s a w ρ){d:Nat}(hd:X.T.ok d=true){v:AV}{val:Value}(hv:fL (hot X.O ρ s.own) w ρ v val):St X (s.put d v) (a.put (some d) val) w:=
 h.next hd (KeepsOthers.refl _) h.below (hf.put (by rw[h.size];exact Tab.ok_lt hd) hv)
theorem Fits.env_map{X:Cx}{s:aa}{a:Act}{w w':World}{ρ ρ':Nat->Value}(h:Fits X s a w ρ){f:LV->LV}{own':List (Nat×aB)}(hf:∀x v,aJ (hot X.O ρ s.own) w ρ x v->aJ (hot X.O ρ' own') w' ρ' (f x) v)
  (hown:∀p∈own',bW (hot X.O ρ' own') w' ρ' X.M p) (hio:∀p∈own',ioB<=p.1->X.T.free.contains p.1=false->ρ' p.1=X.ρ0 p.1) (hap:own'.Pairwise fun p q=>p.1≠q.1/\∀b,Blk (ρ' p.1) b-> ¬Blk (ρ' q.1) b):Fits X {env:=bH f s.env,own:=own'} a w' ρ':=by
 refine⟨fun e he=>?_,hown,hio,hap⟩;obtain⟨v,h1,h2⟩:=gh he;rw[h2];exact eF hf (h.env _ h1)
def lZ(ρ:Nat->Value)(id:Nat)(v:Value)(i:Nat):Value:=if i=id then v else ρ i
theorem cJ(ρ:Nat->Value)(id:Nat)(v:Value):lZ ρ id v id=v:=by simp[lZ]
theorem dA(ρ:Nat->Value){id i:Nat}(v:Value)(h:i≠id):lZ ρ id v i=ρ i:=by simp[lZ,h]
theorem db{O:Nat->Prop}{ρ:Nat->Value}{own:List (Nat×aB)}{p:Nat×aB}{b:Nat}(hp:p∈own)(hb:Blk (ρ p.1) b):hot O ρ own b:= .inr ⟨p,hp,hb⟩
theorem Fits.fresh'{X:Cx}{s:aa}{a:Act}{w w':World}{d:Nat}{obj:aB}{val:Value}{ρ:Nat->Value}(hf:Fits X s a w ρ)(hdB:d<ioB)
  (hkeep:∀k,k<w.heap.size->w'.heap[k]? =w.heap[k]?) (hval:∀b,Blk val b->w.heap.size<=b)
  (hobj:∀H' ρ',(∀b,b<w.heap.size->H' b->hot X.O ρ s.own b)->aW (hot X.O ρ s.own) w w'->(∀i,i≠d->ρ' i=ρ i)->ρ' d=val->bW H' w' ρ' X.M (d,obj)):
  ∃ ρ',ρ' d=val/\Fits X {env:=bH (LV.kill d) s.env,own:=(d,obj)::bg (LV.kill d) (del s.own d)} a w' ρ':=by
 have hlt:=fun p hp b hb=>((hf.own p hp).lt (b:=b) hb).2;have hs:aW (hot X.O ρ s.own) w w':=fun b _ hb=>hkeep b (cg hb);have hh:∀b,b<w.heap.size->hot X.O (lZ ρ d val) ((d,obj)::bg (LV.kill d) (del s.own d)) b->hot X.O ρ s.own b:=by
  intro b hb h;rcases h with h|⟨p,hp,hp2⟩;·exact .inl h
  ·(rcases IS.1 hp with rfl|hp;·simp only[cJ] at hp2;have:=hval b hp2;omega);·obtain⟨u,h1,_⟩:=a8 hp;have h2:=bC.1 h1;rw[dA _ _ h2.2] at hp2;exact db h2.1 hp2
 have hρ:∀i,i≠d->lZ ρ d val i=ρ i:=fun i hi=>dA _ _ hi;refine⟨lZ ρ d val,cJ _ _ _,hf.env_map (fun x v hx=>aZ hh hs hρ hx) ?_ ?_ ?_⟩
 ·intro p hp;rcases IS.1 hp with rfl|hp;·exact hobj _ _ hh hs hρ (cJ _ _ _)
  ·obtain⟨u,h1,h2⟩:=a8 hp;have h3:=bC.1 h1;have:=(hf.own _ h3.1).move (f:=LV.kill d) (ρ':=lZ ρ d val) hh hs (fun x v hx=>aZ hh hs hρ hx) (hρ _ h3.2) (fun b hb=>hkeep b (hlt _ h3.1 b hb));rw[<- h2] at this;exact this
 ·intro p hp hB hF;rcases IS.1 hp with rfl|hp;·exact absurd hB (SU.2 hdB)
  ·obtain⟨u,h1,_⟩:=a8 hp;have h3:=bC.1 h1;rw[hρ _ h3.2];exact hf.io _ h3.1 hB hF
 ·rw[OW];constructor;·intro q hq;obtain⟨u,h1,_⟩:=a8 hq;have h3:=bC.1 h1;refine⟨fun e=>h3.2 e.symm,fun b hb hq2=>?_⟩;rw[dA _ _ h3.2] at hq2;simp only[cJ] at hb;have h4:=hval b hb;have:=hlt _ h3.1 b hq2;omega
  ·have hap:=cA (f:=LV.kill d) (fun i j=>i≠j/\∀b,Blk (ρ i) b-> ¬Blk (ρ j) b) (da (fun i j=>i≠j/\∀b,Blk (ρ i) b-> ¬Blk (ρ j) b) (n:=d) hf.apart);refine hap.imp_of_mem fun {p q} hp hq hpq=>?_;obtain⟨_,h1,_⟩:=a8 hp;obtain⟨_,h2,_⟩:=a8 hq;rw[dA _ _ (bC.1 h1).2,dA _ _ (bC.1 h2).2];exact hpq
theorem Fits.fresh{X:Cx}{s:aa}{a:Act}{w w':World}{d:Nat}{obj:aB}{val:Value}{ρ:Nat->Value}(hf:Fits X s a w ρ)(hdB:d<ioB)
  (hkeep:∀k,k<w.heap.size->w'.heap[k]? =w.heap[k]?) (hval:∀b,Blk val b->b=w.heap.size)
  (hobj:∀H' ρ',(∀b,b<w.heap.size->H' b->hot X.O ρ s.own b)->aW (hot X.O ρ s.own) w w'->(∀i,i≠d->ρ' i=ρ i)->ρ' d=val->bW H' w' ρ' X.M (d,obj)):
  ∃ ρ',ρ' d=val/\Fits X {env:=bH (LV.kill d) s.env,own:=(d,obj)::bg (LV.kill d) (del s.own d)} a w' ρ':=
 hf.fresh' hdB hkeep (fun b hb=>Nat.le_of_eq (hval b hb).symm) hobj
theorem Fits.two{X:Cx}{s:aa}{a:Act}{w:World}{ρ:Nat->Value}(h:Fits X s a w ρ){p q:Nat×aB}(hp:p∈s.own)(hq:q∈s.own)(hne:p.1≠q.1){b:Nat}(hb:Blk (ρ p.1) b):¬Blk (ρ q.1) b:=by
 have key:∀{l:List (Nat×aB)},l.Pairwise (fun p q=>p.1≠q.1/\∀b,Blk (ρ p.1) b-> ¬Blk (ρ q.1) b)->p∈l->q∈l-> ¬Blk (ρ q.1) b:=by
  intro l;induction l with
  |nil=>intro _ h _;cases h
  |cons x l ih=>
   (intro h1 h2 h3;rw[OW] at h1;(rcases IS.1 h2 with e2|h4<;>rcases IS.1 h3 with e3|h5);·exact absurd (by rw[e2,e3]) hne);·rw[e2] at hb;exact(h1.1 _ h5).2 b hb
   ·intro e;rw[e3] at e;exact(h1.1 _ h4).2 b e hb
   ·exact ih h1.2 h4 h5
 exact key h.apart hp hq
theorem jN{O:Nat->Prop}{ρ:Nat->Value}{own own':List (Nat×aB)}(h:∀p∈own',∃o,(p.1,o)∈own){b:Nat}(hb:hot O ρ own' b):hot O ρ own b:=by
 rcases hb with hb|⟨p,hp,hb⟩;·exact .inl hb
 ·obtain⟨o,ho⟩:=h p hp;exact .inr ⟨_,ho,hb⟩
theorem Fits.freeze{X:Cx}{s:aa}{a:Act}{w:World}{ρ:Nat->Value}(h:Fits X s a w ρ)(hO:∀b,X.O b-> ¬X.M b)(id:Nat):Fits X (s.freeze id) a w ρ:=by
 unfold aa.freeze;split
 ·rename_i t T xs hg;have hmem:=get?_mem hg;have hs:aW (hot X.O ρ s.own) w w:=aW.refl _ _;have hsub:∀p∈bg (LV.thaw id t xs) (del s.own id),∃o,(p.1,o)∈s.own:=fun p hp=>by
   obtain⟨u,h1,_⟩:=a8 hp;exact⟨u,(bC.1 h1).1⟩
  have hh:∀b,b<w.heap.size->hot X.O ρ (bg (LV.thaw id t xs) (del s.own id)) b->hot X.O ρ s.own b:=fun b _ hb=>jN hsub hb;have hthaw:∀x v,aJ (hot X.O ρ s.own) w ρ x v->aJ (hot X.O ρ (bg (LV.thaw id t xs) (del s.own id))) w ρ (x.thaw id t xs) v:=by
   intro x v hx;have hk:=aZ (id:=id) hh hs (fun _ _=>rfl) hx;cases x with
   |ownS i=>
    simp only[LV.thaw];split
    ·rename_i e;subst e;obtain⟨hv,p,n,c,hv2⟩:=hx;obtain⟨hn,cells,hr,hl,hor⟩:=fc h.own hg (by rw[<- hv];exact hv2);subst hn;refine⟨by rw[hv2];rfl,?_⟩;rw[hv2];rcases hor with⟨rfl,hx0,rfl⟩|⟨g,rfl,hb,h1,h2,cur,hh',h3,h4⟩;·subst hx0;exact .inl ⟨rfl,rfl⟩
     ·(refine .inr ⟨g,0,none,c,cells,rfl,fun _=>rfl,h1,h2,aS hh hs hr,?_,fun j hj=>fv hh' h4 hj⟩;rintro _ (hg1|⟨p,hp,hg2⟩);·exact hO g hg1 hb);·obtain⟨u,hu1,_⟩:=a8 hp;have hd:=bC.1 hu1;have hne:i≠p.1:=fun e=>hd.2 e.symm;(have hrb:Blk (ρ i) g:=by rw[<- hv,hv2];rfl);exact h.two (p:=(i,.arr t T xs)) (q:=(p.1,u)) hmem hd.1 hne hrb hg2
    ·rename_i hne;simpa [LV.kill,LV.isOf,hne] using hk
   |z t y=>exact hk
   |ownP i off=>exact hk
   |ownE i wd j=>exact hk
   |ownW i wd j=>exact hk
   |ownM i=>exact hk
   |ownA i j=>exact hk
   |ownR i j=>exact hk
   |ownB i j wd k=>exact hk
   |fn f caps=>exact hk
   |val u=>exact hk
   |junk=>exact hk
  refine h.env_map hthaw ?_ (fun p hp hB hF=>by obtain⟨o,ho⟩:=hsub p hp;exact h.io (p.1,o) ho hB hF) ?_;·intro p hp;obtain⟨u,h1,h2⟩:=a8 hp;have h3:=bC.1 h1;have:=(h.own _ h3.1).move (f:=LV.thaw id t xs) (ρ':=ρ) hh hs hthaw rfl (fun _ _=>rfl);rw[<- h2] at this;exact this
  ·exact cA (fun i j=>i≠j/\∀b,Blk (ρ i) b-> ¬Blk (ρ j) b) (da (fun i j=>i≠j/\∀b,Blk (ρ i) b-> ¬Blk (ρ j) b) h.apart)
 ·exact h
theorem Fits.freezeAll{X:Cx}{a:Act}{w:World}{ρ:Nat->Value}(hO:∀b,X.O b-> ¬X.M b):∀(l:List Nat) {s:aa},Fits X s a w ρ->Fits X (s.freezeAll l) a w ρ
 | [],_,h=>h
 |i::r,_,h=>Fits.freezeAll hO r (h.freeze hO i)
theorem Fits.frozenAt{X:Cx}{s:aa}{a:Act}{w:World}{ρ:Nat->Value}(h:Fits X s a w ρ)(hO:∀b,X.O b-> ¬X.M b)(x:Operand):Fits X (frozenAt s x) a w ρ:=by
 unfold Go.Cm.frozenAt;split;·exact h.freezeAll hO _
 ·exact h
theorem eG{X:Cx}{s s':aa}{a:Act}{w:World}{ρ:Nat->Value}(h:Fits X s a w ρ)(hO:∀b,X.O b-> ¬X.M b){t:Ty}{x:Operand}{y:t.D}(he:dL s t x=some (y,s')):Fits X s' a w ρ/\aJ (hot X.O ρ s'.own) w ρ (.z t y) (a.eval x):=by
 unfold dL at he;have hf:=h.frozenAt hO x;split at he
 ·rename_i v hv;split at he;·rename_i y' hy;cases he;exact⟨hf,AV.get_ok hy (bJ hf hv)⟩
  ·cases he
 ·cases he
theorem Bn{α:Type}:∀{l:List (Nat×α)} {n:Nat} {y:α} {p:Nat×α},p∈upd l n y->p∈l/\p.1≠n∨p=(n,y)∨(p∈l)
 |(k,x)::r,n,y,p,h=>by
  simp only[upd] at h;split at h
  ·(rename_i e;subst e;rcases IS.1 h with rfl|h;·exact .inr (.inl rfl));·exact .inr (.inr (by simp[h]))
  ·rename_i e;rcases IS.1 h with rfl|h;·exact .inl ⟨by simp,e⟩
   ·(rcases Bn h with⟨h1,h2⟩|h1|h1;·exact .inl ⟨by simp[h1],h2⟩);·exact .inr (.inl h1)
    ·exact .inr (.inr (by simp[h1]))
theorem qP{α:Type}{R:Nat->Nat->Prop}:∀{l:List (Nat×α)} {n:Nat} {y:α} {p:Nat×α},l.Pairwise (fun p q=>p.1≠q.1/\R p.1 q.1)->p∈upd l n y->p=(n,y)∨(p∈l/\p.1≠n)
 |(k,x)::r,n,y,p,hp,h=>by
  rw[OW] at hp;simp only[upd] at h;split at h
  ·(rename_i e;subst e;rcases IS.1 h with rfl|h;·exact .inl rfl);·exact .inr ⟨by simp[h],fun e=>(hp.1 _ h).1 e.symm⟩
  ·rename_i e;rcases IS.1 h with rfl|h;·exact .inr ⟨by simp,e⟩
   ·(rcases qP hp.2 h with h1|⟨h1,h2⟩;·exact .inl h1);·exact .inr ⟨by simp[h1],h2⟩
theorem mV{α:Type}{R:Nat->Nat->Prop}:∀{l:List (Nat×α)} {n:Nat} {y:α},l.Pairwise (fun p q=>R p.1 q.1)->(upd l n y).Pairwise (fun p q=>R p.1 q.1)
 | [],_,_,_=> .nil
 |(k,x)::r,n,y,h=>by
  rw[OW] at h;simp only[upd];split;·rename_i e;subst e;rw[OW];exact⟨fun q hq=>h.1 q hq,h.2⟩
  ·rw[OW];refine⟨fun q hq=>?_,mV h.2⟩;rcases Bn hq with⟨h1,_⟩|h1|h1;·exact h.1 q h1
   ·have:∃z,(n,z)∈r:=by
     have key:∀{l:List (Nat×α)},(n,y)∈upd l n y->∃z,(n,z)∈l:=by
      intro l;induction l with
      |nil=>intro h;simp[upd] at h
      |cons c l ih=>
       intro h;obtain⟨k',x'⟩:=c;simp only[upd] at h;split at h;·rename_i e;subst e;exact⟨x',by simp⟩
       ·(rcases IS.1 h with h|h;·simp at h;obtain⟨rfl,rfl⟩:=h;exact⟨y,PE ..⟩);·obtain⟨z,hz⟩:=ih h;exact⟨z,by simp[hz]⟩
     exact key (h1▸hq)
    obtain⟨z,hz⟩:=this;rw[h1];exact h.1 (n,z) hz
   ·exact h.1 q h1
theorem Fits.renew{X:Cx}{s:aa}{a:Act}{w w':World}{ρ:Nat->Value}(h:Fits X s a w ρ){id:Nat}{obj obj':aB}(hg:get? s.own id=some obj){f:LV->LV}{val:Value}
  (hf:∀H' ρ',(∀b,b<w.heap.size->H' b->hot X.O ρ s.own b)->aW (hot X.O ρ s.own) w w'->(∀i,i≠id->ρ' i=ρ i)->ρ' id=val->∀x v,aJ (hot X.O ρ s.own) w ρ x v->aJ H' w' ρ' (f x) v)
  (hkeep:∀k,k<w.heap.size-> ¬Blk (ρ id) k->w'.heap[k]? =w.heap[k]?) (hval:∀b,Blk val b->Blk (ρ id) b∨w.heap.size<=b)
  (hobj:∀H' ρ',(∀b,b<w.heap.size->H' b->hot X.O ρ s.own b)->aW (hot X.O ρ s.own) w w'->(∀i,i≠id->ρ' i=ρ i)->ρ' id=val->bW H' w' ρ' X.M (id,obj')) (hid:ioB<=id->X.T.free.contains id=false->val=ρ id):
  ∃ ρ',ρ' id=val/\Fits X {env:=bH f s.env,own:=upd (bg f s.own) id obj'} a w' ρ':=by
 have hmem:=get?_mem hg;have hlt:=fun p hp b hb=>((h.own p hp).lt (b:=b) hb).2;have hs:aW (hot X.O ρ s.own) w w':=fun b hb hlt'=>hkeep b (cg hlt') (fun e=>hb (db hmem e));have hρ:∀i,i≠id->lZ ρ id val i=ρ i:=fun i hi=>dA _ _ hi;have hap:=cA (f:=f) (fun i j=>i≠j/\∀b,Blk (ρ i) b-> ¬Blk (ρ j) b) h.apart;have hold:∀p∈upd (bg f s.own) id obj',p=(id,obj')∨∃u,(p.1,u)∈s.own/\p.2=u.map f/\p.1≠id:=by
  intro p hp;rcases qP (R:=fun i j=>∀b,Blk (ρ i) b-> ¬Blk (ρ j) b) hap hp with h1|⟨h1,h2⟩;·exact .inl h1
  ·obtain⟨u,h3,h4⟩:=a8 h1;exact .inr ⟨u,h3,h4,h2⟩
 have hh:∀b,b<w.heap.size->hot X.O (lZ ρ id val) (upd (bg f s.own) id obj') b->hot X.O ρ s.own b:=by
  intro b hb h;rcases h with h|⟨p,hp,hp2⟩;·exact .inl h
  ·rcases hold p hp with rfl|⟨u,h1,_,h2⟩
   ·(simp only[cJ] at hp2;rcases hval b hp2 with h3|h3;·exact db hmem h3);·omega
   ·rw[dA _ _ h2] at hp2;exact db h1 hp2
 have hff:=hf _ _ hh hs hρ (cJ _ _ _);refine⟨lZ ρ id val,cJ _ _ _,h.env_map hff ?_ ?_ ?_⟩
 ·intro p hp;rcases hold p hp with rfl|⟨u,h1,h2,h3⟩;·exact hobj _ _ hh hs hρ (cJ _ _ _)
  ·have:=(h.own _ h1).move (f:=f) (ρ':=lZ ρ id val) hh hs hff (hρ _ h3) (fun b hb=>hkeep b (hlt _ h1 b hb) (fun e=>h.two (p:=(id,obj)) (q:=(p.1,u)) hmem h1 (fun e=>h3 e.symm) e hb));rw[<- h2] at this;exact this
 ·intro p hp hB hF;rcases hold p hp with rfl|⟨u,h1,_,h3⟩
  ·simp only[cJ] at hB hF ⊢;rw[hid hB hF];exact h.io _ hmem hB hF
  ·rw[hρ _ h3];exact h.io (p.1,u) h1 hB hF
 ·have hpw:=mV (n:=id) (y:=obj') (R:=fun i j=>i≠j/\∀b,Blk (ρ i) b-> ¬Blk (ρ j) b) hap;refine hpw.imp_of_mem fun {p q} hp hq hpq=>⟨hpq.1,fun b hb hqb=>?_⟩;rcases hold p hp with rfl|⟨u,h1,h2,h3⟩<;>rcases hold q hq with rfl|⟨u',h1',h2',h3'⟩
  ·exact absurd rfl hpq.1
  ·(rw[dA _ _ h3'] at hqb;simp only[cJ] at hb;rcases hval b hb with h4|h4;·exact h.two (p:=(id,obj)) (q:=(q.1,u')) hmem h1' (fun e=>h3' e.symm) h4 hqb);·have:=hlt _ h1' b hqb;omega
  ·(rw[dA _ _ h3] at hb;simp only[cJ] at hqb;rcases hval b hqb with h4|h4;·exact h.two (p:=(id,obj)) (q:=(p.1,u)) hmem h1 (fun e=>h3 e.symm) h4 hb);·have:=hlt _ h1 b hb;omega
  ·rw[dA _ _ h3] at hb;rw[dA _ _ h3'] at hqb;exact hpq.2 b hb hqb
theorem Ty.zeroCells_length:∀(t:Ty),t.zeroCells.length=t.w
 | .int _| .bool| .str| .unit| .slice _| .ptr _| .opt _| .func=>rfl
 | .pair a b=>by simp[zeroCells,w,a.zeroCells_length,b.zeroCells_length]
 | .st t=>by simp[zeroCells,w,t.zeroCells_length]
 | .arr n t=>by simp[zeroCells,w,t.zeroCells_length]
theorem gi{t:Ty}(h:t.isAgg=false->t.w=1)(cs:List Value)(hl:cs.length=t.w)(h1:∀c∈cs,c.oneCell'=true):(mkV t.isAgg cs).cells.toList=cs:=by
 cases ha:t.isAgg with
 |true=>simp[mkV,Value.cells]
 |false=>
  rw[h ha] at hl;match cs,hl with
  | [c],_=>exact ck (bz (h1 c (by simp)))
theorem Ty.zeroCells_one:∀(t:Ty),∀c∈t.zeroCells,c.oneCell'=true
 | .int _| .bool| .str| .unit| .slice _| .ptr _| .opt _| .func=>by simp[zeroCells,Value.oneCell']
 | .pair a b=>by
  intro c hc;rcases Oq.1 hc with h|h;·exact a.zeroCells_one c h
  ·exact b.zeroCells_one c h
 | .st t=>t.zeroCells_one
 | .arr n t=>by
  intro c hc;obtain⟨l,h1,h2⟩:=List.mem_flatten.1 hc;rw[List.eq_of_mem_replicate h1] at h2;exact t.zeroCells_one c h2
theorem foldl_set:∀(vs:List Value) (k:Nat) (cur done old rest:List Value),cur=done++old++rest->old.length=vs.length->
  ∀(off:Nat),done.length=off+k->((vs.zipIdx k).foldl (fun(cs:Array Value) (p:Value×Nat)=>cs.setIfInBounds (off+p.2) p.1) cur.toArray).toList=done++vs++rest
 | [],k,cur,done,old,rest,e,hl,off,hd=>by
  have:old=[]:=N7 (by simpa using hl);subst this;simp[e]
 |v::vs,k,cur,done,old,rest,e,hl,off,hd=>by
  match old,hl with
  |u::old,hl=>
   have hset:(cur.toArray.setIfInBounds (off+k) v)=(done++ [v]++old++rest).toArray:=by
    apply Qk;rw[Array.toList_setIfInBounds];simp only[e,<- hd];simp
   rw[List.zipIdx_cons,PQ];simp only[hset];have:=foldl_set vs (k+1) (done++ [v]++old++rest) (done++ [v]) old rest rfl (by simpa using hl) off (by simp;omega);rw[this];simp
def kC:List (Nat×Value)->List (List Value)->Nat->Option (List (List Value))
 | [],zs,_=>some zs
 |_::_,[],_=>none
 |(j,v)::ps,z::zs,i=>if j=i then
   if v.cells.size=z.length then (kC ps zs (i+1)).map (v.cells.toList:: ·) else none
  else (kC ((j,v)::ps) zs (i+1)).map (z:: ·)
theorem ir(place:Nat->Option (Nat×Nat)):∀(zs:List (List Value)) (ps:List (Nat×Value)) (i:Nat) (done:List Value) (r:List (List Value)),
  (∀k (h:k<zs.length),place (i+k)=some (done.length+(zs.take k).flatten.length,zs[k].length))->kC ps zs i=some r->Instr.fill place (done++zs.flatten).toArray ps=some (done++r.flatten).toArray
 |zs,[],i,done,r,_,h=>by simp[kC] at h;subst h;rfl
 | [],_::_,i,done,r,_,h=>by simp[kC] at h
 |z::zs,(j,v)::ps,i,done,r,hp,h=>by
  simp only[kC] at h;have hp0:=hp 0 (by simp);simp only[Qr,Qt,List.flatten_nil,OO,P8] at hp0;have hps:∀(seg:List Value),seg.length=z.length->∀k (h:k<zs.length),place (i+1+k)=some ((done++seg).length+(zs.take k).flatten.length,zs[k].length):=by
   intro seg hseg k hk;have:=hp (k+1) (by simpa using hk);simp only[Pn,Sf,Ol,P9] at this;rw[show i+1+k=i+(k+1) by omega,this];simp[hseg,QX]
  split at h
  ·rename_i e;subst e;split at h
   ·rename_i hs;obtain⟨r',hr,rfl⟩:=Se.1 h;unfold Instr.fill;simp only[hp0];have hbound:¬((decide (v.cells.size≠z.length)||decide (done.length+v.cells.size>(done++(z::zs).flatten).toArray.size))=true):=by
     simp[hs]
    rw[if_neg hbound];have hf:=foldl_set v.cells.toList 0 (done++(z::zs).flatten) done z zs.flatten (by simp) (by simp[hs]) done.length (by omega);have hz:(v.cells.zipIdx.foldl (fun cs (c,j)=>cs.setIfInBounds (done.length+j) c) (done++(z::zs).flatten).toArray)=(done++v.cells.toList++zs.flatten).toArray:=by
     apply Qk;rw[<- hf,<- Array.foldl_toList,Array.toList_zipIdx]
    rw[hz,ir place zs ps (j+1) (done++v.cells.toList) r' (hps _ (by simp[hs])) hr];simp
   ·cases h
  ·obtain⟨r',hr,rfl⟩:=Se.1 h;have:=ir place zs ((j,v)::ps) (i+1) (done++z) r' (hps z rfl) hr;simpa using this
theorem Ty.cells_ok{H:Nat->Prop}{w:World}(ρ:Nat->Value):∀(t:Ty) {cs:List Value} {x:t.D},t.rep H w cs x->aY (fK H w ρ) (t.cells x) cs:=by
 have one:∀(t:Ty),t.isAgg=false->∀{cs:List Value} {x:t.D},cs.length=1->t.rep H w cs x->aY (fK H w ρ) [LV.z t x] cs:=by
  intro t ha cs x hl h;match cs,hl with
  | [c],_=>
   have h1:=t.rep_oneCell h c (by simp);refine⟨⟨⟨by rw[ha];exact bz h1,?_⟩,h1⟩,trivial⟩;rw[ck (bz h1)];exact h
 intro t;induction t with
 |unit=>intro cs x h;rw[show cs=[] from h];trivial
 |pair a b iha ihb=>
  rintro cs x ⟨c,d,rfl,h1,h2⟩;exact(iha h1).append (ihb h2)
 |st t ih=>intro cs x h;exact ih h
 |arr n t ih=>
  rintro cs x ⟨_,h⟩;have key:∀{xs:List t.D} {cs:List Value},cC (fun c y=>t.rep H w c y) cs xs->aY (fK H w ρ) (xs.flatMap t.cells) cs:=by
   intro xs;induction xs with
   |nil=>intro cs h;simp[cC] at h;subst h;trivial
   |cons y ys ih2=>
    rintro cs ⟨c,d,rfl,h1,h2⟩;exact(ih h1).append (ih2 h2)
  exact key h
 |int k=>intro cs x h;exact one (.int k) rfl (Ty.rep_length _ h) h
 |bool=>intro cs x h;exact one .bool rfl (Ty.rep_length _ h) h
 |str=>intro cs x h;exact one .str rfl (Ty.rep_length _ h) h
 |slice t=>intro cs x h;exact one (.slice t) rfl (Ty.rep_length _ h) h
 |ptr t=>intro cs x h;exact one (.ptr t) rfl (Ty.rep_length _ h) h
 |opt t=>intro cs x h;exact one (.opt t) rfl (Ty.rep_length _ h) h
 |func=>intro cs x h;rw[show cs=[.nilFunc] from h];exact⟨⟨rfl,rfl⟩,trivial⟩
theorem LV.cells_ok{H:Nat->Prop}{w:World}{ρ:Nat->Value}{x:LV}{cs:List LV}{v:Value}(he:x.cells=some cs)(h:aJ H w ρ x v):aY (fK H w ρ) cs v.cells.toList:=by
 cases x with
 |z t y=>simp[LV.cells] at he;subst he;exact t.cells_ok ρ h.2
 |ownS id=>
  simp[LV.cells] at he;subst he;obtain⟨hv,a,n,c,hv2⟩:=h;have:v.oneCell'=true:=by rw[hv2];rfl
  rw[ck (bz this)];exact⟨⟨⟨hv,a,n,c,hv2⟩,this⟩,trivial⟩
 |ownP id off=>
  simp[LV.cells] at he;subst he;obtain⟨b,hb,hv⟩:=h;have:v.oneCell'=true:=by rw[hv];rfl
  rw[ck (bz this)];exact⟨⟨⟨b,hb,hv⟩,this⟩,trivial⟩
 |ownE id wd i=>
  simp[LV.cells] at he;subst he;obtain⟨b,o,n,c,hb,hv⟩:=h;have:v.oneCell'=true:=by rw[hv];rfl
  rw[ck (bz this)];exact⟨⟨⟨b,o,n,c,hb,hv⟩,this⟩,trivial⟩
 |ownW id wd i=>
  simp[LV.cells] at he;subst he;obtain⟨b,n,c,hb,hi,hv⟩:=h;have:v.oneCell'=true:=by rw[hv];rfl
  rw[ck (bz this)];exact⟨⟨⟨b,n,c,hb,hi,hv⟩,this⟩,trivial⟩
 |ownM id=>
  simp[LV.cells] at he;subst he;have h':=h;obtain⟨a,n,c,vs,hb,hv⟩:=h;have:v.oneCell'=true:=by rw[hv];rfl
  rw[ck (bz this)];exact⟨⟨h',this⟩,trivial⟩
 |ownA id i=>
  simp[LV.cells] at he;subst he;have h':=h;obtain⟨b,n,c,vs,hb,hv⟩:=h;have:v.oneCell'=true:=by rw[hv];rfl
  rw[ck (bz this)];exact⟨⟨h',this⟩,trivial⟩
 |ownR id j=>
  simp[LV.cells] at he;subst he;have h':=h;obtain⟨h0,vs,a,n,c,hb,hj,hv⟩:=h;have:v.oneCell'=true:=by rw[hv];rfl
  rw[ck (bz this)];exact⟨⟨h',this⟩,trivial⟩
 |ownB id j wd i=>
  simp[LV.cells] at he;subst he;have h':=h;obtain⟨h0,vs,b,n,c,hb,hj,hv⟩:=h;have:v.oneCell'=true:=by rw[hv];rfl
  rw[ck (bz this)];exact⟨⟨h',this⟩,trivial⟩
 |fn f caps=>
  simp[LV.cells] at he;subst he;obtain⟨vs,hv,hc⟩:=h;have:v.oneCell'=true:=by rw[hv];rfl
  rw[ck (bz this)];exact⟨⟨⟨vs,hv,hc⟩,this⟩,trivial⟩
 |val u=>
  simp only[LV.cells] at he;split at he;·rename_i h1;cases he;have hv:v=u:=h;subst hv;rw[ck (bz h1)];exact⟨⟨rfl,h1⟩,trivial⟩
  ·cases he
 |junk=>simp[LV.cells] at he
theorem AV.cells_ok{H:Nat->Prop}{w:World}{ρ:Nat->Value}{x:AV}{cs:List LV}{v:Value}(he:x.cells=some cs)(h:fL H w ρ x v):aY (fK H w ρ) cs v.cells.toList:=by
 cases x with
 |l x=>exact LV.cells_ok he h
 |agg l=>simp[AV.cells] at he;subst he;obtain⟨vs,rfl,h⟩:=h;simpa [Value.cells] using h
 |tup=>simp[AV.cells] at he
 |g=>simp[AV.cells] at he
 |gt=>simp[AV.cells] at he
theorem mj{H:Nat->Prop}{w:World}{ρ:Nat->Value}(t:Ty):aY (fK H w ρ) (t.zeroCells.map ez) t.zeroCells:=by
 have key:∀l:List Value,(∀c∈l,c.oneCell'=true)->aY (fK H w ρ) (l.map ez) l:=by
  intro l;induction l with
  |nil=>intro _;trivial
  |cons c l ih=>exact fun h=>⟨⟨qI c,h c (by simp)⟩,ih (fun c hc=>h c (by simp[hc]))⟩
 exact key _ t.zeroCells_one
theorem gB{X:Cx}{s:aa}{a:Act}{w:World}{ρ:Nat->Value}(h:Fits X s a w ρ):∀(ts:List Ty) (i:Nat) (ps:List (Nat×Operand)) {cs:List LV},bL s ts i ps=some cs->
  ∃r,kC (ps.map fun(p:Nat×Operand)=>(p.1,a.eval p.2)) (ts.map Ty.zeroCells) i=some r/\aY (fK (hot X.O ρ s.own) w ρ) cs r.flatten
 | [],i,[],cs,he=>by simp[bL] at he;subst he;exact⟨[],rfl,trivial⟩
 | [],i,_::_,cs,he=>by simp[bL] at he
 |t::ts,i,[],cs,he=>by
  simp only[bL] at he;split at he;·rename_i r hr;cases he;obtain⟨r',h1,h2⟩:=gB h ts (i+1) [] hr;simp[kC] at h1;subst h1;exact⟨_,rfl,(mj t).append h2⟩
  ·cases he
 |t::ts,i,(j,x)::ps,cs,he=>by
  simp only[bL] at he;simp only[O6,kC];split at he
  ·rename_i e;subst e;rw[if_pos rfl];split at he
   ·rename_i v hv;split at he
    ·rename_i c hc;split at he
     ·rename_i hl;split at he
      ·rename_i r hr;cases he;have hok:=AV.cells_ok hc (bJ h hv);obtain⟨r',h1,h2⟩:=gB h ts (j+1) ps hr;have hlen:=hok.length;have hsz:(a.eval x).cells.size=t.zeroCells.length:=by
        rw[t.zeroCells_length,<- hl,hlen];simp
       rw[if_pos hsz,h1];exact⟨_,rfl,hok.append h2⟩
      ·cases he
     ·cases he
    ·cases he
   ·cases he
  ·(rename_i hne;rw[if_neg hne];split at he;·rename_i r hr;cases he;obtain⟨r',h1,h2⟩:=gB h ts (i+1) ((j,x)::ps) hr;simp only[O6] at h1;rw[h1];exact⟨_,rfl,(mj t).append h2⟩);·cases he
theorem Ty.fields_flat:∀(t:Ty),(t.fields.map Ty.zeroCells).flatten=t.zeroCells
 | .pair a b=>by simp[fields,zeroCells,b.fields_flat]
 | .int _| .bool| .str| .unit| .st _| .arr _ _| .slice _| .ptr _| .opt _| .func=>by simp[fields,zeroCells]
theorem Ty.fields_at:∀(t:Ty) (k:Nat) (h:k<t.fields.length),t.fields[k]=t.fieldTy k/\((t.fields.map Ty.zeroCells).take k).flatten.length=t.fieldOff k
 | .pair a b,0,_=>by simp[fields,fieldTy,fieldOff]
 | .pair a b,k+1,h=>by
  have:=b.fields_at k (by simpa [fields] using h);simp only[fields,P9,fieldTy,fieldOff,O6,Pn,Sf,Ol,this.1,this.2,a.zeroCells_length];exact⟨trivial,trivial⟩
 | .unit,k,h=>by simp[fields] at h
 | .int _,0,_| .bool,0,_| .str,0,_| .st _,0,_| .arr _ _,0,_| .slice _,0,_| .ptr _,0,_| .opt _,0,_| .func,0,_=>by simp[fields,fieldTy,fieldOff]
 | .int _,k+1,h| .bool,k+1,h| .str,k+1,h| .st _,k+1,h| .arr _ _,k+1,h| .slice _,k+1,h| .ptr _,k+1,h| .opt _,k+1,h| .func,k+1,h=>by simp[fields] at h
theorem mapM_some{α β:Type}(f:α->Option β)(g:Nat->β):∀(l:List α) (k:Nat),(∀i (h:i<l.length),f l[i]=some (g (k+i)))->l.mapM f=some ((Ua k l.length).map g)
 | [],_,_=>rfl
 |x::l,k,h=>by
  have h0:=h 0 (by simp);have:=mapM_some f g l (k+1) (fun i hi=>by
   have:=h (i+1) (by simpa using hi);rw[show k+1+i=k+(i+1) by omega];simpa using this)
  simp only[P8,Qr] at h0;simp[List.mapM_cons,h0,this,List.range'_succ]
theorem vQ{P:Program}{T:TypeId}{t:Ty}(ht:cE P T (.st t)){w:World}{ps:Array (Nat×Value)}{r:List (List Value)}(hr:kC ps.toList (t.fields.map Ty.zeroCells) 0=some r):
  (Instr.build T ps).run P w= .ok (.agg r.flatten.toArray) w:=by
 obtain⟨i,d,hi,hu,hsz,hrow,hz,fs,rfl,hn,hf⟩:=ht;refine run_build w T ps _ ?_;unfold Program.built;simp only[hi,hu,hz];have hplaces:fs.toList.mapM (fun f=>(P.info? f.type).map fun i=>(f.offset,i.size))=some ((Ua 0 fs.toList.length).map fun k=>(t.fieldOff k,(t.fieldTy k).w)):=by
  refine mapM_some _ _ _ _ (fun k hk=>?_);obtain⟨f,j,e,h1,h2,h3,h4,_⟩:=hf k (by rw[<- hn];simpa using hk);have hfk:fs.toList[k]=f:=by
   have h1':=h1;rw[Array.getElem?_eq_getElem (by simpa using hk)] at h1';simpa using h1'
  rw[hfk,h3];simp[h2,h4]
 rw[hplaces];simp only[];have hfill:=ir (((Ua 0 fs.toList.length).map fun k=>(t.fieldOff k,(t.fieldTy k).w)).toArray[·]?) (t.fields.map Ty.zeroCells) ps.toList 0 [] r (fun k hk=>by
  have hk':k<t.fields.length:=by simpa using hk
  have hfa:=t.fields_at k hk';have hk2:k<fs.size:=by omega
  simp only[Oz,OO,List.getElem_map,hfa.1,Ty.zeroCells_length,hfa.2];simp[hk2]) hr
 rw[t.fields_flat] at hfill;simpa [mkV,Ty.isAgg,Value.cells,Ty.zeroCells] using hfill
theorem gj{X:Cx}{a:Act}{w:World}{ρ:Nat->Value}(hO:∀b,X.O b-> ¬X.M b){t:Ty}(ht:t.isAgg=false->t.w=1):∀(n i:Nat) (ps:List (Nat×Operand)) {s s':aa} {xs:List t.D},Fits X s a w ρ->dw t n i ps s=some (xs,s')->
  Fits X s' a w ρ/\xs.length=n/\(∀b,hot X.O ρ s'.own b->hot X.O ρ s.own b)/\∃r,kC (ps.map fun(p:Nat×Operand)=>(p.1,a.eval p.2)) (N6 n t.zeroCells) i=some r/\cC (fun c x=>t.rep (hot X.O ρ s'.own) w c x) r.flatten xs
 |0,i,[],s,s',xs,h,he=>by simp[dw] at he;obtain⟨rfl,rfl⟩:=he;exact⟨h,rfl,fun _ h=>h,[],rfl,rfl⟩
 |0,i,_::_,s,s',xs,h,he=>by simp[dw] at he
 |n+1,i,[],s,s',xs,h,he=>by
  simp only[dw] at he;split at he
  ·(rename_i y hy;split at he;·rename_i r s2 hr;cases he;obtain⟨h1,h2,h3,r',h4,h5⟩:=gj hO ht n (i+1) [] h hr;simp[kC] at h4;subst h4;exact⟨h1,by simp[h2],h3,_,rfl,t.zeroCells,_,by simp[Qd],t.rep_zero _ w hy,h5⟩);·cases he
  ·cases he
 |n+1,i,(j,x)::ps,s,s',xs,h,he=>by
  simp only[dw] at he;simp only[O6,Qd,kC];split at he
  ·rename_i e;subst e;rw[if_pos rfl];split at he
   ·rename_i y s1 hy;split at he
    ·rename_i r s2 hr;cases he;obtain⟨g1,g2⟩:=eG h hO hy;obtain⟨h1,h2,h3,r',h4,h5⟩:=gj hO ht n (j+1) ps g1 hr;have hsub:∀b,hot X.O ρ s1.own b->hot X.O ρ s.own b:=by
      intro b hb;unfold dL at hy;have hfz:s1=frozenAt s x:=by
       split at hy
       ·(split at hy;·cases hy;rfl);·cases hy
       ·cases hy
      subst hfz;unfold frozenAt at hb;split at hb
      ·rename_i v hv;clear hv hy hr g1 g2 h1 h2 h3 h4 h5;have key:∀(l:List Nat) (s:aa),hot X.O ρ (s.freezeAll l).own b->hot X.O ρ s.own b:=by
        intro l;induction l with
        |nil=>intro s h;exact h
        |cons k l ih=>
         (intro s h;have:=ih (s.freeze k) h;unfold aa.freeze at this;split at this;·refine jN (fun p hp=>?_) this;obtain⟨u,h1,_⟩:=a8 hp;exact⟨u,(bC.1 h1).1⟩);·exact this
       exact key _ _ hb
      ·exact hb
     have g2':=aN (x:= .z t y) (fun b _ hb=>h3 b hb) (aW.refl _ w) (fun _ _=>rfl) g2;have hlen:=t.rep_length g2'.2;(have hsz:(a.eval x).cells.size=t.zeroCells.length:=by rw[t.zeroCells_length,<- hlen];simp);rw[if_pos hsz,h4];exact⟨h1,by simp[h2],fun b hb=>hsub b (h3 b hb),_,rfl,_,_,rfl,g2'.2,h5⟩
    ·cases he
   ·cases he
  ·rename_i hne;rw[if_neg hne];split at he
   ·(rename_i y hy;split at he;·rename_i r s2 hr;cases he;obtain⟨h1,h2,h3,r',h4,h5⟩:=gj hO ht n (i+1) ((j,x)::ps) h hr;simp only[O6] at h4;rw[h4];exact⟨h1,by simp[h2],h3,_,rfl,t.zeroCells,_,rfl,t.rep_zero _ w hy,h5⟩);·cases he
   ·cases he
theorem range_zero(n:Nat){z:List Value}(hz:0<z.length):(Array.range (n*z.length)).map (fun i=>z.toArray[i%z.toArray.size]!)=(N6 n z).flatten.toArray:=by
 apply Qk;apply List.ext_getElem?;intro i;by_cases hi:i<n*z.length
 ·have hm:i%z.length<z.length:=Nat.mod_lt _ hz;have hl:(N6 n z).flatten[i]? =z[i%z.length]? :=by
   clear hm;induction n generalizing i with
   |zero=>simp at hi
   |succ n ih=>
    rw[Qd,Sf];by_cases h2:i<z.length;·rw[OU h2,Nat.mod_eq_of_lt h2]
    ·(have h3:i-z.length<n*z.length:=by rw[O7] at hi;omega);rw[Qu (by omega),ih _ h3];congr 1;rw[Nat.mod_eq_sub_mod (by omega:i≥z.length)]
  have hlen:i<(N6 n z).flatten.length:=by simpa using hi
  rw[AI hlen,AI hm] at hl;simp[hi,hm];simpa using hl.symm
 ·simp[hi]
theorem range_zero'(n:Nat){t:Ty}(ht:t.isAgg=false->t.w=1)(hw:0<t.w):(Array.range (n*t.w)).map (fun i=>(mkV t.isAgg t.zeroCells).cells[i%(mkV t.isAgg t.zeroCells).cells.size]!)=(N6 n t.zeroCells).flatten.toArray:=by
 have hc:=gi ht t.zeroCells t.zeroCells_length t.zeroCells_one;have hc':(mkV t.isAgg t.zeroCells).cells=t.zeroCells.toArray:=by apply Qk;simpa using hc
 rw[hc',<- range_zero n (by rw[t.zeroCells_length];exact hw),t.zeroCells_length]
theorem gk(n:Nat)(l:List Value)(k:Nat)(h:k<(N6 n l).length):some (k*l.length,l.length)=some (([]:List Value).length+((N6 n l).take k).flatten.length,(N6 n l)[k].length):=by
 have hk:k<=n:=by simp at h;omega
 simp[List.take_replicate,Pq hk]
theorem mW{P:Program}{o:Oper}{ρ:Operand->Value}{w w':World}{x:Next}(h:(execOp ρ o).run P w= .ok x w')(hx:∀d,x≠ .defer d):∀c,o.op≠ .defer c:=by
 intro c hc;unfold execOp at h;rw[hc] at h;simp only[Sem.run_bind] at h;cases hr:(resolve ρ c o.type).run P w with
 |ok d w1=>
  rw[hr] at h;simp at h;exact hx _ h.1.symm
 |halt e w1=>rw[hr] at h;simp at h
theorem a6{P:Program}{o:Oper}{a:Act}{w w':World}{v:Value}{r:Option Nat}{n:Nat}{K:Act->World->Prop}{Q:Exit->Act->World->Prop}(h:(execOp a.eval o).run P w= .ok (.value v) w')(hk:K (a.put o.dst v) w'):o.wpIn (fw r) n P a w K Q:=by
 refine⟨fun _ _=>trivial,?_⟩;rw[Oper.semAt_eq _ _ _ (mW h (by simp)),h];exact hk
theorem gl{P:Program}{o:Oper}{a:Act}{w w':World}{r:Option Nat}{n:Nat}{K:Act->World->Prop}{Q:Exit->Act->World->Prop}(h:(execOp a.eval o).run P w= .ok .skip w')(hk:K (a.put o.dst undef) w'):o.wpIn (fw r) n P a w K Q:=by
 refine⟨fun _ _=>trivial,?_⟩;rw[Oper.semAt_eq _ _ _ (mW h (by simp)),h];exact hk
theorem qQ{P:Program}{r:Option Nat}{n:Nat}{f:FuncId}{args:Array Value}{w:World}{R:Ending->World->Prop}(h:Calls P f args w R):CallsIn (fw r) n P f args w R:=(callsIn_wide (n:=n)).2 h
theorem pb{P:Program}{o:Oper}{a:Act}{w w':World}{f:FuncId}{args:Array Value}{r:Option Nat}{n:Nat}{K:Act->World->Prop}{Q:Exit->Act->World->Prop}(h:(execOp a.eval o).run P w= .ok (.enter f args) w')(hk:Calls P f args w' fun e w''=>∃v,e= .returned v/\K (a.put o.dst v) w''):o.wpIn (fw r) n P a w K Q:=by
 refine⟨fun _ _=>trivial,?_⟩;rw[Oper.semAt_eq _ _ _ (mW h (by simp)),h,Oper.uponIn_enter];refine⟨fun hd=>by simp[fw,Fence.wide] at hd,(qQ hk).mono ?_⟩;rintro e w'' ⟨v,rfl,hk⟩;exact hk
theorem Fits.hot_lt{X:Cx}{s:aa}{a:Act}{w:World}{ρ:Nat->Value}(h:Fits X s a w ρ)(hO:∀b,X.O b-> ¬X.M b)(hb:Bel X.M X.w0 w){b:Nat}(hh:hot X.O ρ s.own b):b<w.heap.size:=by
 rcases hh with hh|⟨p,hp,hp2⟩;·exact OC (Nat.lt_of_not_le fun hle=>hO b hh (.inl hle)) hb.size
 ·exact((h.own p hp).lt hp2).2
theorem Fits.keep{X:Cx}{s:aa}{a:Act}{w w':World}{ρ:Nat->Value}(h:Fits X s a w ρ)(hk:∀k,k<w.heap.size->w'.heap[k]? =w.heap[k]?):Fits X s a w' ρ:=by
 have hs:aW (hot X.O ρ s.own) w w':=fun b _ hb=>hk b (cg hb);refine⟨fun e he=>?_,fun p hp=>?_,h.io,h.apart⟩
 ·have:=eF (f:=id) (fun x v hx=>aN (fun _ _ h=>h) hs (fun _ _=>rfl) hx) (h.env e he);have e2:e.2.map id=e.2:=by cases e.2<;>simp[AV.map]
  rwa [e2] at this
 ·exact(h.own p hp).move_id (fun _ _ h=>h) hs (fun b hb=>hk b ((h.own p hp).lt hb).2)
theorem b4(w:World)(o:Obj)(k:Nat)(h:k<w.heap.size):(w.alloc o).heap[k]? =w.heap[k]? :=Below.heap_alloc w o k h
theorem DQ{H:Nat->Prop}{w w':World}{ρ:Nat->Value}(hk:∀k,k<w.heap.size->w'.heap[k]? =w.heap[k]?){x:LV}{v:Value}(h:aJ H w ρ x v):aJ H w' ρ x v:=
 aN (fun _ _ h=>h) (fun b _ hb=>hk b (cg hb)) (fun _ _=>rfl) h
theorem IZ{H:Nat->Prop}{w:World}{ρ:Nat->Value}{t:Ty}{y:t.D}{v:Value}{e:TypeId}(hH:¬H w.heap.size)(h:aJ H w ρ (.z t y) v):aJ H (w.alloc (.cells v.cells e)) ρ (.z (.ptr t) y) (.pointer (some ⟨w.heap.size,0,none⟩)):=by
 have h2:=DQ (fun k hk=>b4 w (.cells v.cells e) k hk) h;refine⟨rfl,w.heap.size,0,v.cells.toList,rfl,h2.2,fun _=>hH,fun j hj=>?_⟩;rw[Oz,cell_of_row _ _ j v.cells e (0,0) (heap_alloc_new w _)];simp
theorem ud{P:Program}{T:TypeId}{t:Ty}(ht:cE P T t)(w:World):(Instr.alloc T true (.tuple #[])).run P w= .ok (.pointer (some ⟨w.heap.size,0,none⟩)) (w.alloc (.cells (mkV t.isAgg t.zeroCells).cells T)):=by
 obtain⟨i,d,hi,hu,hsz,hrow,hz,_⟩:=ht;simp[Instr.alloc,zeroValue,typeInfo,hi,hz,newVar,newRow]
theorem cE.leaf{P:Program}{T:TypeId}{t:Ty}(ht:cE P T t):t.isAgg=false->t.w=1:=by
 obtain⟨_,_,_,_,_,_,_,hs⟩:=ht;intro ha;refine Ty.w_of_leaf ha ?_ ?_;·rintro rfl;exact hs
 ·rintro a b rfl;exact hs
theorem xk{X:Cx}(hT:cT X.P X.T){s s':aa}{a:Act}{w:World}(h:St X s a w){o:Oper}{d:Nat}{e:TypeId}(hop:o.op= .alloc e)(hd:o.dst=some d)(hdN:X.T.ok d=true){C:Prop}(he:effOp X.T s (some d) (.alloc e)=some (C,s'))
  {K:Act->World->Prop} {Q:Exit->Act->World->Prop} (hK:∀a' w',St X s' a' w'->K a' w'):o.wpIn (fw X.r) 2 X.P a w K Q:=by
 simp only[effOp] at he;split at he
 ·rename_i d' t hdd ht;cases hdd
  ·cases he;obtain⟨ρ,hf⟩:=h.fits;have hty:=hT.types _ _ ht;refine a6 (v:= .pointer (some ⟨w.heap.size,0,none⟩)) (w':=w.alloc (.cells (mkV t.isAgg t.zeroCells).cells e)) ?_ (hK _ _ ?_);·unfold execOp;rw[hop];exact bl (ud hty w)
   ·have hc:=gi hty.leaf t.zeroCells t.zeroCells_length t.zeroCells_one;have hb:Bel X.M X.w0 (w.alloc (.cells (mkV t.isAgg t.zeroCells).cells e)):=h.below.alloc _;obtain⟨ρ',h1,h2⟩:=hf.fresh (OC (Tab.ok_lt hdN) h.small.n) (w':=w.alloc (.cells (mkV t.isAgg t.zeroCells).cells e)) (d:=d) (obj:= .box e (t.zeroCells.map ez)) (val:= .pointer (some ⟨w.heap.size,0,none⟩)) (fun k hk=>b4 _ _ k hk) (fun b hb=>by simp[Blk] at hb;exact hb.symm)
     (fun H' ρ' _ _ _ hρd=>⟨w.heap.size,t.zeroCells,hρd,Cx.M_new h.below,by
      rw[heap_alloc_new];congr 2;apply Qk;simpa using hc,mj t⟩)
    rw[hd];have h3:=h2.put (d:=d) (by rw[h.size];exact Tab.ok_lt hdN) (v:= .l (.ownP d 0)) (val:= .pointer (some ⟨w.heap.size,0,none⟩)) ⟨w.heap.size,h1,rfl⟩;exact h.next hdN (KeepsOthers.alloc _ _) hb h3
 ·cases he
theorem aY.kill{H H':Nat->Prop}{w w':World}{ρ ρ':Nat->Value}{d:Nat}(hh:∀b,b<w.heap.size->H' b->H b)(hs:aW H w w')(hρ:∀i,i≠d->ρ' i=ρ i){cs:List LV}{vs:List Value}(hno:∀c∈cs,c.isOf d=false)(h:aY (fK H w ρ) cs vs):aY (fK H' w' ρ') cs vs:=
 h.imp fun c v hc hr=>⟨aN hh hs (fun i hi=>hρ i (fun e=>by rw[e] at hi;rw[hno c hc] at hi;cases hi)) hr.1,hr.2⟩
theorem DR{X:Cx}{s s':aa}{a:Act}{w:World}(h:St X s a w){o:Oper}{d:Nat}{e:TypeId}{x:Operand}(hop:o.op= .box e x)(hd:o.dst=some d)(hdN:X.T.ok d=true){C:Prop}(he:effOp X.T s (some d) (.box e x)=some (C,s'))
  {K:Act->World->Prop} {Q:Exit->Act->World->Prop} (hK:∀a' w',St X s' a' w'->K a' w'):o.wpIn (fw X.r) 2 X.P a w K Q:=by
 simp only[effOp] at he;obtain⟨ρ,hf⟩:=h.fits;have hrun:(execOp a.eval o).run X.P w= .ok (.value (.pointer (some ⟨w.heap.size,0,none⟩))) (w.alloc (.cells (a.eval x).cells e)):=by
  unfold execOp;rw[hop];exact bl (by simp[Instr.box,newVar,newRow])
 have hb:Bel X.M X.w0 (w.alloc (.cells (a.eval x).cells e)):=h.below.alloc _;split at he
 ·rename_i d' t hdd ht;cases hdd;split at he
  ·split at he
   ·rename_i v hv;split at he
    ·rename_i cs hcs;split at he
     ·rename_i hc;cases he;have hok:=AV.cells_ok hcs (bJ hf hv);have hno:∀c∈cs,c.isOf d=false:=by
       intro c hc';have:=List.all_eq_true.1 hc.2 c hc';simpa using this
      refine a6 hrun (hK _ _ ?_);obtain⟨ρ',h1,h2⟩:=hf.fresh (OC (Tab.ok_lt hdN) h.small.n) (w':=w.alloc (.cells (a.eval x).cells e)) (d:=d) (obj:= .box e cs) (val:= .pointer (some ⟨w.heap.size,0,none⟩)) (fun k hk=>b4 _ _ k hk) (fun b hb=>by simp[Blk] at hb;exact hb.symm)
       (fun H' ρ' hh hs hρ hρd=>⟨w.heap.size,(a.eval x).cells.toList,hρd,Cx.M_new h.below,by rw[heap_alloc_new],hok.kill hh hs hρ hno⟩)
      rw[hd];have h3:=h2.put (d:=d) (by rw[h.size];exact Tab.ok_lt hdN) (v:= .l (.ownP d 0)) (val:= .pointer (some ⟨w.heap.size,0,none⟩)) ⟨w.heap.size,h1,rfl⟩;exact h.next hdN (KeepsOthers.alloc _ _) hb h3
     ·cases he
    ·cases he
   ·cases he
  ·split at he
   ·(rename_i y s1 hy;obtain⟨g1,g2⟩:=eG hf h.others hy;refine a6 hrun (hK _ _ ?_);have hH:¬hot X.O ρ s1.own w.heap.size:=fun hh=>Rc _ (g1.hot_lt h.others h.below hh);have g3:=g1.keep (w':=w.alloc (.cells (a.eval x).cells e)) (fun k hk=>b4 _ _ k hk);have h4:=IZ (e:=e) hH g2;rw[hd];split at he;·cases he;have h3:=g3.put (d:=d) (by rw[h.size];exact Tab.ok_lt hdN) (v:= .l (.z (.opt t) (some y))) (val:= .pointer (some ⟨w.heap.size,0,none⟩)) h4;exact h.next hdN (KeepsOthers.alloc _ _) hb h3);·cases he;have h3:=g3.put (d:=d) (by rw[h.size];exact Tab.ok_lt hdN) (v:= .l (.z (.ptr t) y)) (val:= .pointer (some ⟨w.heap.size,0,none⟩)) h4;exact h.next hdN (KeepsOthers.alloc _ _) hb h3
   ·cases he
 ·cases he
theorem fe(a:Act)(ps:Array (Nat×Operand)):(ps.map fun(i,x)=>(i,a.eval x)).toList=ps.toList.map fun(p:Nat×Operand)=>(p.1,a.eval p.2):=by
 simp
theorem xl{X:Cx}(hT:cT X.P X.T){s s':aa}{a:Act}{w:World}(h:St X s a w){o:Oper}{d:Nat}{e:TypeId}{ps:Array (Nat×Operand)}(hop:o.op= .build e ps)(hd:o.dst=some d)(hdN:X.T.ok d=true){C:Prop}(he:effOp X.T s (some d) (.build e ps)=some (C,s'))
  {K:Act->World->Prop} {Q:Exit->Act->World->Prop} (hK:∀a' w',St X s' a' w'->K a' w'):o.wpIn (fw X.r) 2 X.P a w K Q:=by
 simp only[effOp] at he;obtain⟨ρ,hf⟩:=h.fits;split at he
 ·rename_i d' t hdd ht;cases hdd;split at he
  ·(rename_i cs hcs;split at he;·rename_i v hv;cases he;obtain⟨r,h1,h2⟩:=gB hf t.fields 0 ps.toList hcs;have hrun:=vQ (hT.types _ _ ht) (w:=w) (ps:=ps.map fun(i,x)=>(i,a.eval x)) (r:=r) (by rw[fe];exact h1);have hr:=gY hv h2;refine a6 (by unfold execOp;rw[hop];exact bl hrun) (hK _ _ ?_);rw[hd];exact h.put hf hdN (by simpa [mkV,Ty.isAgg] using hr));·cases he
  ·cases he
 ·rename_i d' n t hdd ht;cases hdd;split at he
  ·rename_i xs s1 hxs;cases he;have hty:=hT.types _ _ ht;obtain⟨i,dd,hi,hu,hsz,hrow,hz,el,j,d',rfl,h2,h3,h4,h5,h6⟩:=hty;obtain⟨g1,g2,g3,r,g4,g5⟩:=gj h.others h6 n 0 ps.toList hf hxs;have hrun:(Instr.build e (ps.map fun(i,x)=>(i,a.eval x))).run X.P w= .ok (.agg r.flatten.toArray) w:=by
    refine run_build w e _ _ ?_;unfold Program.built;simp only[hi,hu,hz,h2,fe];have:=ir (fun i=>some (i*j.size,j.size)) (N6 n t.zeroCells) _ 0 [] r (fun k hk=>by
     have:=gk n t.zeroCells k hk;rw[Oz,h3,<- t.zeroCells_length];exact this) g4
    simpa [mkV,Ty.isAgg,Value.cells,Ty.zeroCells] using this
   refine a6 (by unfold execOp;rw[hop];exact bl hrun) (hK _ _ ?_);rw[hd];have h8:=g1.put (d:=d) (by rw[h.size];exact Tab.ok_lt hdN) (v:= .l (.z (.arr n t) xs)) (val:= .agg r.flatten.toArray) ⟨rfl,g2,by simpa [Value.cells] using g5⟩;exact h.next hdN (KeepsOthers.refl _) h.below h8
  ·cases he
 ·cases he
theorem oc{X:Cx}(hT:cT X.P X.T){s s':aa}{a:Act}{w:World}(h:St X s a w){o:Oper}{d:Nat}{e:TypeId}{n:Nat}{ps:Array (Nat×Operand)}(hop:o.op= .buildSlice e n ps)(hd:o.dst=some d)(hdN:X.T.ok d=true){C:Prop}(he:effOp X.T s (some d) (.buildSlice e n ps)=some (C,s'))
  {K:Act->World->Prop} {Q:Exit->Act->World->Prop} (hK:∀a' w',St X s' a' w'->K a' w'):o.wpIn (fw X.r) 2 X.P a w K Q:=by
 simp only[effOp] at he;obtain⟨ρ,hf⟩:=h.fits;split at he
 ·rename_i d' t E hdd ht hE;cases hdd;split at he
  ·rename_i xs s1 hxs;split at he
   ·rename_i hc;have hty:=hT.types _ _ ht;have hel:=hT.elems _ _ hE;obtain⟨i,dd,hi,hu,hsz,hrow,hz,el,j,rfl,h2,h3,h4,h5,h6⟩:=hty;(have hEe:E=el:=by rw[hel] at hu;cases hu;rfl);subst hEe;obtain⟨g1,g2,g3,r,g4,g5⟩:=gj h.others h6 n 0 ps.toList hf hxs;have hrun:¬n=0->(Instr.buildSlice e n (ps.map fun(i,x)=>(i,a.eval x))).run X.P w= .ok (.slice (some ⟨w.heap.size,0,none⟩) n n) (w.alloc (.cells r.flatten.toArray E)):=by
     intro hn;refine run_buildSlice w e E n _ _ j _ hel h2 h5 (by rw[h3];have:=hc.1;omega) (by rw[h3];intro h0;rcases Nat.mul_eq_zero.1 h0 with h0|h0;exact hn h0;have:=hc.2;omega) ?_;rw[fe];have:=ir (fun i=>some (i*j.size,j.size)) (N6 n t.zeroCells) _ 0 [] r (fun k hk=>by
      have:=gk n t.zeroCells k hk;rw[Oz,h3,<- t.zeroCells_length];exact this) g4
     rw[h3] at this ⊢;rw[range_zero' n h6 hc.2];simpa using this
    have hrun0:n=0->(Instr.buildSlice e n (ps.map fun(i,x)=>(i,a.eval x))).run X.P w= .ok (.slice (some ⟨w.heap.size,0,none⟩) n n) (w.alloc (.cells r.flatten.toArray E)):=by
     intro hn;subst hn;have hps:ps.toList=[]:=by
      cases hl:ps.toList with
      |nil=>rfl
      |cons p l=>rw[hl] at g4;simp[kC] at g4
     (have hps':ps= #[]:=by apply Qk;simpa using hps);subst hps';simp[kC] at g4;subst g4;simp[Instr.buildSlice,run_underlying hel,sizeOf,typeInfo,h2,newRow,Instr.fill,Array.range_zero']
    (have hrun':=if hn:n=0 then hrun0 hn else hrun hn);have hb:Bel X.M X.w0 (w.alloc (.cells r.flatten.toArray E)):=h.below.alloc _;have hrl:=bu (fun c x h=>t.rep_length h) g5;have hn63:n<=maxLen:=by
     have hm:maxLen=9223372036854775807:=rfl;have:n*1<=n*t.w:=Po _ hc.2;have:=hc.1;omega
    refine a6 (by unfold execOp;rw[hop];exact bl hrun') ?_;rw[hd];split at he
    ·cases he;refine hK _ _ ?_;obtain⟨ρ',q1,q2⟩:=g1.fresh (OC (Tab.ok_lt hdN) h.small.n) (w':=w.alloc (.cells r.flatten.toArray E)) (d:=d) (obj:= .arr t E xs) (val:= .slice (some ⟨w.heap.size,0,none⟩) n n) (fun k hk=>b4 _ _ k hk) (fun b hb=>by simp[Blk] at hb;exact hb.symm)
      (fun H' ρ' hh hs hρ hρd=>by
       (refine⟨r.flatten,aS hh hs g5,hrl,.inr ⟨w.heap.size,n,r.flatten.toArray,?_,Cx.M_new h.below,heap_alloc_new _ _,by rw[g2];exact Oa _,hn63,by simpa [g2] using Nat.le_of_eq hrl.symm,?_⟩⟩;·rw[hρd,g2]);·rw[<- hrl,List.toList_toArray,OD])
     have q3:=q2.put (d:=d) (by rw[h.size];exact Tab.ok_lt hdN) (v:= .l (.ownS d)) (val:= .slice (some ⟨w.heap.size,0,none⟩) n n) ⟨q1.symm,_,_,_,rfl⟩;exact h.next hdN (KeepsOthers.alloc _ _) hb q3
    ·cases he;refine hK _ _ ?_;have hH:¬hot X.O ρ s1.own w.heap.size:=fun hh=>Rc _ (g1.hot_lt h.others h.below hh);have q2:=g1.keep (w':=w.alloc (.cells r.flatten.toArray E)) (fun k hk=>b4 _ _ k hk);have hs:aW (hot X.O ρ s1.own) w (w.alloc (.cells r.flatten.toArray E)):=fun b _ hb=>b4 _ _ b (cg hb);have q3:=q2.put (d:=d) (by rw[h.size];exact Tab.ok_lt hdN) (v:= .l (.z (.slice t) xs)) (val:= .slice (some ⟨w.heap.size,0,none⟩) n n) (by
      (refine⟨rfl,.inr ⟨w.heap.size,0,none,n,r.flatten,?_,fun _=>rfl,by rw[g2];exact Oa _,hn63,aS (fun _ _ h=>h) hs g5,fun _=>hH,fun j hj=>?_⟩⟩;·show [_]=[_];rw[g2]);·rw[Oz,cell_of_row _ _ j r.flatten.toArray E (0,0) (heap_alloc_new w _)];simp)
     exact h.next hdN (KeepsOthers.alloc _ _) hb q3
   ·cases he
  ·cases he
 ·cases he
theorem fj{w n:Nat}(h:Roomy w n)(hw:0<w):n<=maxLen/\n*(24*w)<=70368744177664:=by
 refine⟨?_,h⟩;have hm:maxLen=9223372036854775807:=rfl;unfold Roomy at h;have:n*1<=n*(24*w):=Po _ (by omega);omega
theorem gZ{t:Ty}(ht:t.isAgg=false->t.w=1)(hw:0<t.w)(n:Nat):madeCells (mkV t.isAgg t.zeroCells).cells (n*t.w)=(N6 n t.zeroCells).flatten.toArray:=by
 rw[<- range_zero' n ht hw];rfl
theorem pU{X:Cx}(hT:cT X.P X.T){s s':aa}{a:Act}{w:World}(h:St X s a w){o:Oper}{d:Nat}{e:TypeId}{l c:Operand}(hop:o.op= .makeSlice e l c)(hd:o.dst=some d)(hdN:X.T.ok d=true){C:Prop}(he:effOp X.T s (some d) (.makeSlice e l c)=some (C,s'))(hC:C)
  {K:Act->World->Prop} {Q:Exit->Act->World->Prop} (hK:∀a' w',St X s' a' w'->K a' w'):o.wpIn (fw X.r) 2 X.P a w K Q:=by
 simp only[effOp] at he;obtain⟨ρ,hf⟩:=h.fits;split at he
 ·rename_i d' t E k1 l1 k2 c1 hdd ht hE hl hc;cases hdd;split at he
  ·rename_i x hx;split at he
   ·rename_i hw;split at he
    ·split at he
     ·rename_i u E' _ hE' _;cases he;obtain⟨ln,hln⟩:∃ln:Int,ln=l1:=⟨_,rfl⟩;subst hln;obtain⟨cn,hcn⟩:∃cn:Int,cn=c1:=⟨_,rfl⟩;subst hcn;have c0:0<=ln:=hC.1;have c2:ln<=cn:=hC.2.1;have c3:Roomy 1 cn.toNat:=hC.2.2;have hty:=hT.types _ _ ht;have hel:=hT.elems _ _ hE;obtain⟨i,dd,hi,hu,hsz,hrow,hz,el,j,rfl,h2,h3,h4,h5,h6⟩:=hty;(have hEe:E=el:=by rw[hel] at hu;cases hu;rfl);subst hEe;obtain⟨r1,r2⟩:=fj c3 (by omega);have hm:maxLen=9223372036854775807:=rfl;have hbytes:(j.bytes:Int)*cn<=281474976710656:=by
       have:j.bytes*cn.toNat<=24*1*cn.toNat:=Oc _ h4;rw[Q9 (24*1)] at this;(have h7:((j.bytes*cn.toNat:Nat):Int)<=281474976710656:=by omega);rw[Q7,OL (by omega)] at h7;exact h7
      have hrun:=run_make (P:=X.P) w e E j _ hel h2 h5 k1 k2 ln cn c0 c2 hbytes (by omega);rw[h3,gZ h6 hw] at hrun;refine a6 (by unfold execOp;rw[hop];simp only[bm (ax hf hl),bm (ax hf hc)];exact bl hrun) (hK _ _ ?_);rw[hd];have hz1:(N6 ln.toNat (Ty.slice u).zeroCells).flatten=N6 ln.toNat (.slice none 0 0):=by
       simp[Ty.zeroCells,List.flatten_replicate_singleton]
      obtain⟨ρ',q1,q2⟩:=hf.fresh (OC (Tab.ok_lt hdN) h.small.n) (w':=w.alloc (.cells (N6 cn.toNat (Ty.slice u).zeroCells).flatten.toArray E)) (d:=d) (obj:= .mat u E E' (N6 ln.toNat (some [])) ((Pa ln.toNat).map some)) (val:= .tuple ⟨.slice (some ⟨w.heap.size,0,none⟩) ln.toNat cn.toNat::N6 ln.toNat (.slice none 0 0)⟩) (fun k hk=>b4 _ _ k hk) (fun b hb=>by
        (obtain⟨v,hv,hb⟩:=hb;rcases IS.1 hv with rfl|hv;·simp[blk] at hb;exact hb.symm);·rw[(P0.1 hv).2] at hb;simp[blk] at hb)
       (fun H' ρ' hh hs hρ hρd=>by
        refine⟨_,_,N6 ln.toNat (.slice none 0 0),hρd,⟨by simp,⟨by simp,.inr ⟨w.heap.size,cn.toNat,_,by simp,Cx.M_new h.below,heap_alloc_new _ _,by simp;omega,r1,by simp[Ty.zeroCells,Ty.w],?_⟩⟩,fun c hc=>by rw[(P0.1 hc).2];rfl,fun i k hik=>?_,fun v hv=>?_,fun k xs v hx hv=>?_,fun i k xs ys u v _ _ _ hu _ b hb=>?_⟩⟩
        ·(have:cn.toNat=ln.toNat+(cn.toNat-ln.toNat):=by omega);rw[this,<- QE,R5,hz1];simp
        ·simp only[Pp] at hik;have hil:i<ln.toNat:=by
          (rcases Nat.lt_or_ge i ln.toNat with h8|h8;·exact h8);·rw[OA (by rw[List.length_range];exact h8)] at hik;simp at hik
         rw[List.getElem?_range hil] at hik;simp at hik;subst hik;exact⟨by simpa using hil,rfl⟩
        ·rw[(P0.1 hv).2];exact⟨⟨none,0,0,rfl⟩,fun b hb=>by simp[blk] at hb⟩
        ·have hx':=(P0.1 (O9 hx)).2;have hv':=(P0.1 (O9 hv)).2;cases hx';subst hv';exact⟨[],rfl,jv _ _ _ _⟩
        ·have hu':=(P0.1 (O9 hu)).2;subst hu';simp[blk] at hb)
      have q3:=q2.put (d:=d) (by rw[h.size];exact Tab.ok_lt hdN) (v:= .l (.ownM d)) (val:= .slice (some ⟨w.heap.size,0,none⟩) ln.toNat cn.toNat) ⟨_,_,_,_,q1,rfl⟩;exact h.next hdN (KeepsOthers.alloc _ _) (h.below.alloc _) q3
     ·cases he
    cases he;obtain⟨ln,hln⟩:∃ln:Int,ln=l1:=⟨_,rfl⟩;subst hln;obtain⟨cn,hcn⟩:∃cn:Int,cn=c1:=⟨_,rfl⟩;subst hcn;have c0:0<=ln:=hC.1;have c2:ln<=cn:=hC.2.1;have c3:Roomy t.w cn.toNat:=hC.2.2;have hty:=hT.types _ _ ht;have hel:=hT.elems _ _ hE;obtain⟨i,dd,hi,hu,hsz,hrow,hz,el,j,rfl,h2,h3,h4,h5,h6⟩:=hty;(have hEe:E=el:=by rw[hel] at hu;cases hu;rfl);subst hEe;obtain⟨r1,r2⟩:=fj c3 hw;have hm:maxLen=9223372036854775807:=rfl;have hbytes:(j.bytes:Int)*cn<=281474976710656:=by
     have:j.bytes*cn.toNat<=24*t.w*cn.toNat:=Oc _ h4;rw[Q9 (24*t.w)] at this;(have h7:((j.bytes*cn.toNat:Nat):Int)<=281474976710656:=by omega);rw[Q7,OL (by omega)] at h7;exact h7
    have hrun:=run_make (P:=X.P) w e E j _ hel h2 h5 k1 k2 ln cn c0 c2 hbytes (by omega);rw[h3,gZ h6 hw] at hrun;have hb:Bel X.M X.w0 (w.alloc (.cells (N6 cn.toNat t.zeroCells).flatten.toArray E)):=h.below.alloc _;refine a6 (by unfold execOp;rw[hop];simp only[bm (ax hf hl),bm (ax hf hc)];exact bl hrun) (hK _ _ ?_);rw[hd];have hrep:∀H' w',cC (fun c x=>t.rep H' w' c x) (N6 ln.toNat t.zeroCells).flatten (N6 ln.toNat x):=fun H' w'=>eC (t.rep_zero H' w' hx) _;obtain⟨ρ',q1,q2⟩:=hf.fresh (OC (Tab.ok_lt hdN) h.small.n) (w':=w.alloc (.cells (N6 cn.toNat t.zeroCells).flatten.toArray E)) (d:=d) (obj:= .arr t E (N6 ln.toNat x)) (val:= .slice (some ⟨w.heap.size,0,none⟩) ln.toNat cn.toNat) (fun k hk=>b4 _ _ k hk) (fun b hb=>by simp[Blk] at hb;exact hb.symm)
     (fun H' ρ' hh hs hρ hρd=>by
      refine⟨(N6 ln.toNat t.zeroCells).flatten,hrep _ _,by simp[t.zeroCells_length],.inr ⟨w.heap.size,cn.toNat,_,?_,Cx.M_new h.below,heap_alloc_new _ _,by simp;omega,r1,by simp[t.zeroCells_length],?_⟩⟩;·rw[hρd];simp
      ·(have:cn.toNat=ln.toNat+(cn.toNat-ln.toNat):=by omega);rw[this,<- QE,R5];(have hlen:(N6 ln.toNat x).length*t.w=(N6 ln.toNat t.zeroCells).flatten.length:=by simp[t.zeroCells_length]);rw[hlen];simp)
    have q3:=q2.put (d:=d) (by rw[h.size];exact Tab.ok_lt hdN) (v:= .l (.ownS d)) (val:= .slice (some ⟨w.heap.size,0,none⟩) ln.toNat cn.toNat) ⟨q1.symm,_,_,_,rfl⟩;exact h.next hdN (KeepsOthers.alloc _ _) hb q3
   ·cases he
  ·cases he
 ·cases he
theorem kD{α:Type}(C N:List α)(p q L:Nat)(h:p+N.length=q)(hq:q<=L)(hL:L<=C.length):(C.take p++(N++C.drop q)).take L=(C.take L).take p++(N++(C.take L).drop q):=by
 have a1:(C.take p).length=p:=by simp only[Of];omega
 rw[Su,a1,Oj (by omega),Su,Oj (by omega:N.length<=L-p),TC,Pq (by omega),RI];congr 3;omega
theorem dM{w:World}{b T:Nat}{vs:List Value}{off:Nat}{new:List Value}(hh:w.heap[b]? =some (.cells vs.toArray T (0,0)))(hle:off+new.length<=vs.length):
  (w.setCells b off new).heap[b]? =some (.cells (vs.take off++(new++vs.drop (off+new.length))).toArray T (0,0)):=by
 induction new generalizing w vs off with
 |nil=>simpa [World.setCells] using hh
 |cons v new ih=>
  simp only[Oo] at hle;have h1:=heap_setCell_same w b off vs.toArray T v hh;have hset:vs.toArray.setIfInBounds off v=(vs.set off v).toArray:=by apply Qk;simp
  rw[hset] at h1;have:=ih (w:=w.setCell ⟨b,off,none⟩ v) (off:=off+1) h1 (by simp;omega);simp only[World.setCells];rw[this];congr 2;have hlt:off<vs.length:=by omega
  apply Qk;simp only[Oo];rw[Qq,if_pos hlt];have e1:(vs.take off++v::vs.drop (off+1)).take (off+1)=vs.take off++ [v]:=by
   (have hA:(vs.take off).length=off:=by simp;omega);rw[Su,hA,Oj (by omega),show off+1-off=1 by omega,Pn,Qt]
  have e2:(vs.take off++v::vs.drop (off+1)).drop (off+1+new.length)=vs.drop (off+(new.length+1)):=by
   rw[Rj];(have:(vs.take off).length=off:=by simp;omega);rw[this,Qs (by omega)];(have e3:off+1+new.length-off=new.length+1:=by omega);rw[e3,List.drop_succ_cons,PH,OY];congr 1;omega
  rw[e1,e2];simp
theorem b9{b:Nat}:∀(new:List Value) (off:Nat) (w:World) (k:Nat),k≠b->(w.setCells b off new).heap[k]? =w.heap[k]?
 | [],_,_,_,_=>rfl
 |v::new,off,w,k,h=>by
  simp only[World.setCells];rw[b9 new (off+1) _ k h,heap_setCell_other w ⟨b,off,none⟩ k v h]
theorem l7{b:Nat}:∀(new:List Value) (off:Nat) (w:World),(w.setCells b off new).heap.size=w.heap.size
 | [],_,_=>rfl
 |v::new,off,w=>by
  simp only[World.setCells];rw[l7 new (off+1) _];simp[World.setCell]
theorem dG{b:Nat}:∀(new:List Value) (off:Nat) (w:World),KeepsOthers w (w.setCells b off new)
 | [],_,w=>KeepsOthers.refl w
 |v::new,off,w=>(KeepsOthers.setCell w ⟨b,off,none⟩ v).trans (dG new (off+1) _)
theorem Bel.setCells{M:Nat->Prop}{a:World}{b:Nat}(hB:M b):∀(new:List Value) (off:Nat) {w:World},Bel M a w->Bel M a (w.setCells b off new)
 | [],_,_,h=>h
 |v::new,off,w,h=>by
  simp only[World.setCells];exact Bel.setCells hB new (off+1) (h.setCell (p:=⟨b,off,none⟩) hB v)
theorem fx{P:Program}{T:TypeId}{t:Ty}(ht:cE P T t){w:World}{b o e:Nat}{vs:List Value}{v:Value}(hh:w.heap[b]? =some (.cells vs.toArray e (0,0)))(hl:v.cells.toList.length=t.w)(h1:∀c∈v.cells.toList,c.oneCell'=true)(hle:o+t.w<=vs.length):
  (Instr.storeAt T (.pointer (some ⟨b,o,none⟩)) v).run P w= .ok () (w.setCells b o v.cells.toList):=by
 obtain⟨i,d,hi,hu,hsz,hrow,hz,_⟩:=ht;have hth:w.there b o v.cells.size:=by
  intro j hj;have hj':o+j<vs.length:=by
   (have:v.cells.size=t.w:=by rw[<- hl];simp);omega
  refine⟨?_,frozen_of_row w b _ _ e hh⟩;rw[cell_of_row w b _ vs.toArray e (0,0) hh];simp[hj']
 have hsize:v.cells.size=i.size:=by rw[hsz,<- hl];simp
 have hst:=run_storeCells_cells (P:=P) b o v.cells.toList 0 w (fun j hj=>by simpa using(hth j (by simpa using hj)).1) (fun j hj=>by simpa using(hth j (by simpa using hj)).2) h1;simp only[Qr] at hst;simp[Instr.storeAt,Instr.sureAddr,storeVar,sizeOf,typeInfo,hi,hsize,hst]
theorem od{v:Value}{a:Option Addr}{n c:Nat}(h:v= .slice a n c){b:Nat}:Blk v b↔blk v=some b:=by
 subst h;cases a<;>simp[Blk,blk]
theorem pf{M:Nat->Prop}{w:World}{e:TypeId}{size n m c g:Nat}{v:Value}{xs:List Value}(h:rowAt M w e size v n xs)(hv:v= .slice (some ⟨g,0,none⟩) m c){k:Nat}(hk:k<n){new:List Value}(hn:new.length=size):
  M g/\(∃vs:List Value,w.heap[g]? =some (.cells vs.toArray e (0,0))/\k*size+size<=vs.length)/\
  rowAt M (w.setCells g (k*size) new) e size v n (xs.take (k*size)++(new++xs.drop ((k+1)*size))):=by
 obtain⟨hl,⟨h0,h1⟩|⟨g',cap,cur,h0,hM,hh,h1,h2,h3,h4⟩⟩:=h;·omega
 ·rw[hv] at h0;simp at h0;obtain⟨rfl,rfl,rfl⟩:=h0;have hcur:cur.toList.toArray=cur:=by simp
  have hh':w.heap[g]? =some (.cells cur.toList.toArray e (0,0)):=by rw[hcur];exact hh
  have hcl:c*size<=cur.toList.length:=by simpa using h3
  have hle:k*size+size<=cur.toList.length:=by
   have:(k+1)*size<=c*size:=Oc _ (by omega);rw[O7] at this;omega
  have hsplit:k*size+size<=m*size:=by
   have:(k+1)*size<=m*size:=Oc _ hk;rw[O7] at this;exact this
  refine⟨hM,⟨_,hh',hle⟩,?_,.inr ⟨g,c,_,hv,hM,dM hh' (by rw[hn];exact hle),h1,h2,?_,?_⟩⟩;·simp only[Ol,Of,Om,hn,hl,O7];omega
  ·simp only[OQ,Ol,Of,Om,hn];omega
  ·rw[<- h4,O7,hn];exact kD _ _ _ _ _ (by rw[hn]) hsplit (Og (Oc _ h1) hcl)
theorem oe(l:List (Nat×AV)):bH _root_.id l=l:=by
 induction l with
 |nil=>rfl
 |cons p l ih=>obtain⟨k,v⟩:=p;simp only[bH,ih];cases v<;>simp[AV.map]
theorem og(l:List (Nat×aB)):bg _root_.id l=l:=by
 induction l with
 |nil=>rfl
 |cons p l ih=>obtain⟨k,v⟩:=p;simp only[bg,ih];cases v<;>simp[aB.map]
theorem xm{X:Cx}(hT:cT X.P X.T){s s':aa}{a:Act}{w:World}(h:St X s a w){o:Oper}{t:TypeId}{x y:Operand}(hop:o.op= .store t x y)(hd:o.dst=none){C:Prop}(he:effOp X.T s none (.store t x y)=some (C,s'))(hC:C)
  {K:Act->World->Prop} {Q:Exit->Act->World->Prop} (hK:∀a' w',St X s' a' w'->K a' w'):o.wpIn (fw X.r) 2 X.P a w K Q:=by
 simp only[effOp] at he;rw[if_neg (by simp)] at he;obtain⟨ρ,hf⟩:=h.fits;split at he
 ·rename_i id off u hx ht;split at he
  ·rename_i e cs v hg hv;split at he
   ·rename_i new hnew;split at he
    ·rename_i hc;cases he;obtain⟨b,hb,hva⟩:=ax hf hx;obtain⟨b',vs,hb',hbase,hh,hcs⟩:=hf.own _ (get?_mem hg);rw[hb] at hb';simp at hb';subst hb';have hok:=AV.cells_ok hnew (bJ hf hv);have hlen:=hok.length;have hcl:=hcs.length;have h1:∀c∈(a.eval y).cells.toList,c.oneCell'=true:=by
      have key:∀{cs:List LV} {vs:List Value},aY (fK (hot X.O ρ s.own) w ρ) cs vs->∀c∈vs,c.oneCell'=true:=by
       intro cs;induction cs with
       |nil=>intro vs h;cases vs with
        |nil=>simp
        |cons _ _=>exact h.elim
       |cons x cs ih=>intro vs h;cases vs with
        |nil=>exact h.elim
        |cons v vs=>
         (intro c hc;rcases IS.1 hc with rfl|hc;·exact h.1.2);·exact ih h.2 c hc
      exact key hok
     have hrun:=fx (hT.types _ _ ht) (o:=off) hh (v:=a.eval y) (by rw[<- hlen];exact hc.1) h1 (by omega);refine gl (w':=w.setCells b off (a.eval y).cells.toList) (by unfold execOp;rw[hop];simp only[hva,Sem.run_bind,hrun,Result.andThen_ok];rfl) (hK _ _ ?_);rw[hd];obtain⟨ρ',q1,q2⟩:=hf.renew (w':=w.setCells b off (a.eval y).cells.toList) hg (f:=_root_.id) (val:=ρ id) (obj':= .box e (cs.take off++(new++cs.drop (off+u.w))))
      (fun H' ρ' hh hs hρ hρd x v hx=>aN hh hs (fun i _=>by
       by_cases hi:i=id
       ·rw[hi];exact hρd
       ·exact hρ i hi) hx)
      (fun k hk hne=>b9 _ _ _ _ (fun e=>hne (by rw[hb,e];rfl)))
      (fun b hb=> .inl hb)
      (fun H' ρ' hh' hs hρ hρd=>by
       have hmv:∀{cs:List LV} {vs:List Value},aY (fK (hot X.O ρ s.own) w ρ) cs vs->aY (fK H' (w.setCells b off (a.eval y).cells.toList) ρ') cs vs:=fun h=>h.imp (fun c v _ hr=>⟨aN hh' hs (fun i _=>by
        by_cases hi:i=id
        ·rw[hi];exact hρd
        ·exact hρ i hi) hr.1,hr.2⟩)
       refine⟨b,vs.take off++((a.eval y).cells.toList++vs.drop (off+(a.eval y).cells.toList.length)),by rw[hρd];exact hb,hbase,dM hh (by omega),?_⟩;rw[<- hlen,hc.1];exact(hmv (hcs.take off)).append ((hmv hok).append (hmv (hcs.drop (off+u.w)))))
      (fun _ _=>rfl)
     have e1:bH _root_.id s.env=s.env:=by
      have:∀l:List (Nat×AV),bH _root_.id l=l:=by
       intro l;induction l with
       |nil=>rfl
       |cons p l ih=>obtain⟨k,v⟩:=p;simp only[bH,ih];cases v<;>simp[AV.map]
      exact this _
     have e2:bg _root_.id s.own=s.own:=by
      have:∀l:List (Nat×aB),bg _root_.id l=l:=by
       intro l;induction l with
       |nil=>rfl
       |cons p l ih=>obtain⟨k,v⟩:=p;simp only[bg,ih];cases v<;>simp[aB.map]
      exact this _
     rw[e1,e2] at q2;exact h.next0 (dG _ _ _) (Bel.setCells hbase _ _ h.below) q2
    ·cases he
   ·cases he
  ·cases he
 ·rename_i id wd i u hx ht;split at he
  ·rename_i y' s1 hy;split at he
   ·rename_i t' e xs hg;split at he
    ·rename_i hut;subst hut;split at he
     ·rename_i hwd;subst hwd;cases he;obtain⟨g1,g2⟩:=eG hf h.others hy;obtain⟨b,o',n,c,hb,hva⟩:=ax hf hx;obtain⟨hn,cells,hr,hl,hor⟩:=fc g1.own hg hb;rcases hor with⟨hno,_⟩|⟨g,hg',hbase,h1,h2,cur,hh,h3,h4⟩;·cases hno
      ·simp at hg';obtain⟨rfl,rfl⟩:=hg';rw[Oz] at hva;subst hn;have hlen:=u.rep_length g2.2;(have hcur:cur.toList.toArray=cur:=by simp);(have hh':w.heap[b]? =some (.cells cur.toList.toArray e (0,0)):=by rw[hcur];exact hh);have hle:i*u.w+u.w<=cur.toList.length:=by
        have:(i+1)*u.w<=c*u.w:=Oc _ (Og hC h1);rw[O7] at this;simp;omega
       have hrun:=fx (hT.types _ _ ht) (o:=i*u.w) hh' (v:=a.eval y) hlen (u.rep_oneCell g2.2) hle;refine gl (w':=w.setCells b (i*u.w) (a.eval y).cells.toList) (by unfold execOp;rw[hop];simp only[hva,Sem.run_bind,hrun,Result.andThen_ok];rfl) (hK _ _ ?_);rw[hd];obtain⟨ρ',q1,q2⟩:=g1.renew (w':=w.setCells b (i*u.w) (a.eval y).cells.toList) hg (f:=_root_.id) (val:=ρ id) (obj':= .arr u e (xs.set i y'))
        (fun H' ρ' hh hs hρ hρd x v hx=>aN hh hs (fun i _=>by
         by_cases hi:i=id
         ·rw[hi];exact hρd
         ·exact hρ i hi) hx)
        (fun k hk hne=>b9 _ _ _ _ (fun e=>hne (by rw[hb,e];rfl)))
        (fun b hb=> .inl hb)
        (fun H' ρ' hh'' hs hρ hρd=>by
         (have hel:=(aN (ρ':=ρ) (x:= .z u y') hh'' hs (fun _ _=>rfl) g2).2;have hset:=qE (fun c x h=>u.rep_length h) (aS hh'' hs hr) i hC hel;have hrow:=dM hh' (new:=(a.eval y).cells.toList) (off:=i*u.w) (by rw[hlen];exact hle);refine⟨_,hset,?_,.inr ⟨b,c,_,by rw[hρd,hb];simp,hbase,hrow,by simpa using h1,h2,?_,?_⟩⟩;·have:=bu (fun c x h=>u.rep_length h) hset;exact this);·simp only[OQ,Ol,Of,Om,hlen];(have:c*u.w<=cur.toList.length:=by simpa using h3);omega
         ·simp only[PR,hlen];have hsplit:i*u.w+u.w<=xs.length*u.w:=by
           have:(i+1)*u.w<=xs.length*u.w:=Oc _ hC;rw[O7] at this;exact this
          rw[<- h4,O7];refine kD _ _ _ _ _ (by rw[hlen]) hsplit ?_;(have:c*u.w<=cur.toList.length:=by simpa using h3);exact Og (Oc _ h1) this)
        (fun _ _=>rfl)
       have e1:bH _root_.id s1.env=s1.env:=by
        have:∀l:List (Nat×AV),bH _root_.id l=l:=by
         intro l;induction l with
         |nil=>rfl
         |cons p l ih=>obtain⟨k,v⟩:=p;simp only[bH,ih];cases v<;>simp[AV.map]
        exact this _
       have e2:bg _root_.id s1.own=s1.own:=by
        have:∀l:List (Nat×aB),bg _root_.id l=l:=by
         intro l;induction l with
         |nil=>rfl
         |cons p l ih=>obtain⟨k,v⟩:=p;simp only[bg,ih];cases v<;>simp[aB.map]
        exact this _
       rw[e1,e2] at q2;exact h.next0 (dG _ _ _) (Bel.setCells hbase _ _ h.below) q2
     ·cases he
    ·cases he
   ·rename_i t' e pre xs post hg;split at he
    ·rename_i hut;subst hut;split at he
     ·rename_i hwd;subst hwd;cases he;obtain⟨g1,g2⟩:=eG hf h.others hy;obtain⟨b,o',n,c,hb,hva⟩:=ax hf hx;obtain⟨hn,ho,hbase,cells,hr,hl,h1,h2,h2',h2'',cur,hh,h3,h4⟩:=Bk g1.own hg hb;subst hn;subst ho;have e0:pre.length*u.w+i*u.w=(pre.length+i)*u.w:=(PS ..).symm;rw[e0] at hva;have hlen:=u.rep_length g2.2;(have hcur:cur.toList.toArray=cur:=by simp);(have hh':w.heap[b]? =some (.cells cur.toList.toArray e (0,0)):=by rw[hcur];exact hh);(have hcl:(pre.length+c)*u.w<=cur.toList.length:=by simpa using h3);have hle:(pre.length+i)*u.w+u.w<=cur.toList.length:=by
       have:(pre.length+i+1)*u.w<=(pre.length+c)*u.w:=Oc _ (by omega);rw[O7] at this;omega
      have hrun:=fx (hT.types _ _ ht) (o:=(pre.length+i)*u.w) hh' (v:=a.eval y) hlen (u.rep_oneCell g2.2) hle;refine gl (w':=w.setCells b ((pre.length+i)*u.w) (a.eval y).cells.toList) (by unfold execOp;rw[hop];simp only[hva,Sem.run_bind,hrun,Result.andThen_ok];rfl) (hK _ _ ?_);rw[hd];(have hi:pre.length+i<(pre++(xs++post)).length:=by simp;omega);have hsetl:(pre++(xs++post)).set (pre.length+i) y'=pre++(xs.set i y'++post):=by
       rw[List.set_append_right _ _ (Nat.le_add_right _ _),PZ,List.set_append_left _ _ hC]
      obtain⟨ρ',q1,q2⟩:=g1.renew (w':=w.setCells b ((pre.length+i)*u.w) (a.eval y).cells.toList) hg (f:=_root_.id) (val:=ρ id) (obj':= .win u e pre (xs.set i y') post)
       (fun H' ρ' hh hs hρ hρd x v hx=>aN hh hs (fun i _=>by
        by_cases hi:i=id
        ·rw[hi];exact hρd
        ·exact hρ i hi) hx)
       (fun k hk hne=>b9 _ _ _ _ (fun e=>hne (by rw[hb,e];rfl)))
       (fun b hb=> .inl hb)
       (fun H' ρ' hh'' hs hρ hρd=>by
        have hel:=(aN (ρ':=ρ) (x:= .z u y') hh'' hs (fun _ _=>rfl) g2).2;have hset:=qE (fun c x h=>u.rep_length h) (aS hh'' hs hr) (pre.length+i) hi hel;rw[hsetl] at hset;have hrow:=dM hh' (new:=(a.eval y).cells.toList) (off:=(pre.length+i)*u.w) (by rw[hlen];exact hle);refine⟨b,c,_,_,hset,by rw[hρd,hb];simp,hbase,hrow,by simpa using h1,h2,h2',?_,by simpa using h2'',?_⟩;·simp only[OQ,Ol,Of,Om,hlen];omega
        ·simp only[PR,Ol,hlen];have hsplit:(pre.length+i)*u.w+u.w<=(pre.length+(xs.length+post.length))*u.w:=by
          have:(pre.length+i+1)*u.w<=(pre.length+(xs.length+post.length))*u.w:=Oc _ (by omega);rw[O7] at this;exact this
         simp only[Ol] at h4;rw[<- h4,O7];refine kD _ _ _ _ _ (by rw[hlen]) hsplit ?_;exact Og (Oc _ (by omega)) hcl)
       (fun _ _=>rfl)
      have e1:bH _root_.id s1.env=s1.env:=by
       have:∀l:List (Nat×AV),bH _root_.id l=l:=by
        intro l;induction l with
        |nil=>rfl
        |cons p l ih=>obtain⟨k,v⟩:=p;simp only[bH,ih];cases v<;>simp[AV.map]
       exact this _
      have e2:bg _root_.id s1.own=s1.own:=by
       have:∀l:List (Nat×aB),bg _root_.id l=l:=by
        intro l;induction l with
        |nil=>rfl
        |cons p l ih=>obtain⟨k,v⟩:=p;simp only[bg,ih];cases v<;>simp[aB.map]
       exact this _
      rw[e1,e2] at q2;exact h.next0 (dG _ _ _) (Bel.setCells hbase _ _ h.below) q2
     ·cases he
    ·cases he
   ·cases he
  ·cases he
 ·rename_i id i u hx ht;split at he
  ·rename_i t' T' e rows idx id' j hg hy;split at he
   ·rename_i hc;obtain⟨rfl,rfl⟩:=hc;cases he;obtain⟨hC1,hC2⟩:=hC;obtain⟨b,n,c,vs,hb,hva⟩:=ax hf hx;have hy':aJ (hot X.O ρ s.own) w ρ (.ownR id' j) (a.eval y):=bJ hf hy;obtain⟨h0,vs',p,m,c',hb',hjv,hys⟩:=hy';rw[hb] at hb';simp only[Value.tuple.injEq,Q0,P5] at hb';obtain⟨rfl,rfl⟩:=hb';obtain⟨cells,hm⟩:=iZ hf.own hg hb;have h1:=hm.hdr;have hl:=hm.len;have hn:=iq h1 rfl;subst hn;have hone:(a.eval y).cells.toList=[a.eval y]:=ck (bz (by rw[hys];rfl));obtain⟨hbase,⟨cv,hh,hle⟩,hw1⟩:=pf h1 rfl hC1 (new:=[a.eval y]) rfl;rw[Nat.mul_one] at hle hw1;have hrun:=fx (hT.types _ _ ht) (o:=i) hh (v:=a.eval y) (by rw[hone];rfl) (by rw[hone];intro c hc;rw[Ph.1 hc,hys];rfl) (by simpa [Ty.w] using hle);rw[hone] at hrun;refine gl (w':=w.setCells b i [a.eval y]) (by unfold execOp;rw[hop];simp only[hva,Sem.run_bind,hrun,Result.andThen_ok];rfl) (hK _ _ ?_);rw[hd];obtain⟨ρ',q1,q2⟩:=hf.renew (w':=w.setCells b i [a.eval y]) hg (f:=_root_.id) (val:=ρ id') (obj':= .mat u T' e rows (idx.set i (some j)))
     (fun H' ρ' hh hs hρ hρd x v hx=>aN hh hs (fun i _=>by
      by_cases hi:i=id'
      ·rw[hi];exact hρd
      ·exact hρ i hi) hx)
     (fun k hk hne=>b9 _ _ _ _ (fun e=>hne (by rw[hb,e];exact⟨_,PE ..,rfl⟩)))
     (fun b hb=> .inl hb)
     (fun H' ρ' hh'' hs hρ hρd=>by
      have hcl:=h1.1;have hoth:∀v∈vs,∀b',blk v=some b'->(w.setCells b i [a.eval y]).heap[b']? =w.heap[b']? :=fun v hv b' hb'=>b9 _ _ _ _ fun e=>by
       subst e;exact((hm.shape v hv).2 _ hb').1 rfl
      refine⟨_,vs,_,by rw[hρd];exact hb,⟨hl,by rw[PR];exact hw1,fun c hc=>?_,fun k q hkq=>?_,fun v hv=>⟨(hm.shape v hv).1,fun b' hb'=>⟨((hm.shape v hv).2 b' hb').1,((hm.shape v hv).2 b' hb').2.1,by rw[hoth v hv b' hb'];exact((hm.shape v hv).2 b' hb').2.2⟩⟩,fun k xs v hx hv=>?_,hm.apart⟩⟩
      ·rcases Oq.1 hc with hc|hc;·exact hm.one c (List.mem_of_mem_take hc)
       ·(rcases Oq.1 hc with hc|hc;·rw[Ph.1 hc,hys];rfl);·exact hm.one c (List.mem_of_mem_drop hc)
      ·have hset:cells.take i++([a.eval y]++cells.drop ((i+1)*1))=cells.set i (a.eval y):=by
        rw[Qq,if_pos (by omega),Nat.mul_one];rfl
       (rw[hset];rw[Ra] at hkq ⊢;split at hkq;·rename_i e;subst e;simp at hkq;subst hkq;rw[if_pos rfl,if_pos (by omega)];exact⟨hC2,hjv.symm⟩);·rename_i e;rw[if_neg e];exact hm.at_ k q hkq
      ·obtain⟨cs,h6,h7⟩:=hm.row k xs v hx hv;exact⟨cs,aS hh'' hs h6,fi h7 (hoth v (O9 hv))⟩)
     (fun _ _=>rfl)
    rw[oe,og] at q2;exact h.next0 (dG _ _ _) (Bel.setCells hbase _ _ h.below) q2
   ·cases he
  ·cases he
 ·rename_i id j wd k u hx ht;split at he
  ·rename_i y' s1 hy;split at he
   ·rename_i t' T' e rows idx hg;split at he
    ·rename_i hut;subst hut;split at he
     ·rename_i hwd;subst hwd;cases he;obtain⟨hj,hk⟩:=hC;obtain⟨g1,g2⟩:=eG hf h.others hy;obtain⟨h0,vs,b,n,c,hb,hjv,hva⟩:=ax hf hx;obtain⟨cells,hm⟩:=iZ g1.own hg hb;have hl:=hm.len;obtain⟨hj1,hj2⟩:=jw hj;generalize rowOf rows j=xs at*;obtain⟨cs,hr,h6⟩:=hm.row j _ _ hj1 hjv;have hlen:=u.rep_length g2.2;obtain⟨hbase,⟨cv,hh,hle⟩,hw1⟩:=pf h6 rfl hk (new:=(a.eval y).cells.toList) hlen;have hrun:=fx (hT.types _ _ ht) (o:=k*u.w) hh (v:=a.eval y) hlen (u.rep_oneCell g2.2) hle;refine gl (w':=w.setCells b (k*u.w) (a.eval y).cells.toList) (by unfold execOp;rw[hop];simp only[hva,Sem.run_bind,hrun,Result.andThen_ok];rfl) (hK _ _ ?_);rw[hd];obtain⟨ρ',q1,q2⟩:=g1.renew (w':=w.setCells b (k*u.w) (a.eval y).cells.toList) hg (f:=_root_.id) (val:=ρ id) (obj':= .mat u T' e (rows.set j (some (xs.set k y'))) idx)
       (fun H' ρ' hh hs hρ hρd x v hx=>aN hh hs (fun i _=>by
        by_cases hi:i=id
        ·rw[hi];exact hρd
        ·exact hρ i hi) hx)
       (fun k hk hne=>b9 _ _ _ _ (fun e=>hne (by rw[hb,e];exact⟨_,OF _ (O9 hjv),rfl⟩)))
       (fun b hb=> .inl hb)
       (fun H' ρ' hh'' hs hρ hρd=>by
        have hel:=(aN (ρ':=ρ) (x:= .z u y') hh'' hs (fun _ _=>rfl) g2).2;have hmem:=O9 hjv;have hoth:∀b',b'≠b->(w.setCells b (k*u.w) (a.eval y).cells.toList).heap[b']? =w.heap[b']? :=fun b' hb'=>b9 _ _ _ _ hb';refine⟨h0,vs,cells,by rw[hρd];exact hb,⟨by simpa using hl,fi hm.hdr (fun b' hb'=>hoth b' fun e=>?_),hm.one,fun i q hiq=>by rw[PR];exact hm.at_ i q hiq,fun v hv=>⟨(hm.shape v hv).1,fun b' hb'=>⟨((hm.shape v hv).2 b' hb').1,((hm.shape v hv).2 b' hb').2.1,?_⟩⟩,fun q zs v hx hv=>?_,fun i q zs ys u' v hne hi1 hi2 hu hv=>?_⟩⟩;·subst e;exact((hm.shape _ hmem).2 b' rfl).1 hb'
        ·by_cases e:b'=b
         ·subst e;exact⟨_,dM hh (by rw[hlen];exact hle),rfl⟩
         ·rw[hoth b' e];exact((hm.shape v hv).2 b' hb').2.2
        ·(rw[Ra] at hx;split at hx;·rename_i e;subst e;simp at hx;subst hx;rw[hjv] at hv;cases hv;refine⟨_,qE (fun c x h=>u.rep_length h) (aS hh'' hs hr) k hk hel,?_⟩;simpa using hw1);·rename_i e;obtain⟨cs',h7,h8⟩:=hm.row q zs v hx hv;refine⟨cs',aS hh'' hs h7,fi h8 (fun b' hb'=>hoth b' fun e2=>?_)⟩;subst e2;exact hm.apart q j zs xs v _ (fun e3=>e e3.symm) hx hj1 hv hjv b' hb' rfl
        ·have hback:∀(i:Nat) (zs:List u.D),(rows.set j (some (xs.set k y')))[i]? =some (some zs)->∃zs':List u.D,rows[i]? =some (some zs'):=by
          (intro i zs hi;rw[Ra] at hi;split at hi;·rename_i e;subst e;exact⟨xs,hj1⟩);·exact⟨zs,hi⟩
         obtain⟨z1,hz1⟩:=hback i zs hi1;obtain⟨z2,hz2⟩:=hback q ys hi2;exact hm.apart i q z1 z2 u' v hne hz1 hz2 hu hv)
       (fun _ _=>rfl)
      rw[oe,og] at q2;exact h.next0 (dG _ _ _) (Bel.setCells hbase _ _ h.below) q2
     ·cases he
    ·cases he
   ·cases he
  ·cases he
 ·cases he
theorem jO{P:Program}{w:World}{M:Nat->Prop}{t ty e size:Nat}{i:TypeInfo}{z:Value}(ht:P.underlying t=some (.slice e))(hi:P.info? e=some i)(hz:i.zero=some z)(hsize:i.size=size)(hzs:z.cells.size=size)
  {v:Value} {n:Nat} {xs:List Value} (hown:rowAt M w e size v n xs) (hncap:∀a l c,v= .slice a l c->l<=c)
  {y:Value} {m:Nat} {news:List Value} (hy:(y= .slice none 0 0/\m=0/\news=[])∨∃ad c,y= .slice (some ad) m c/\(∀j u,news[j]? =some u->w.cell? (ad.add j)=some u)) (hl:news.length=m*size) (h1:∀u∈news,u.oneCell'=true)
  (h63:n+m<=maxLen) (hbytes:(n+m)*i.bytes<=140737488355328) (hbase:M w.heap.size):
  ∃v' w',(Builtin.append_ #[t,t] ty #[v,y]).run P w= .ok v' w'/\rowAt M w' e size v' (n+m) (xs++news)/\(∀k,k<w.heap.size-> ¬(Blk v k/\Blk v' k)->w'.heap[k]? =w.heap[k]?)/\Bel M w w'/\
   (∀b,Blk v' b->Blk v b∨w.heap.size<=b)/\∃a l c,v'= .slice a l c:=by
 have hsmall:n+m<=9223372036854775807:=by simp only[maxLen] at h63;omega
 rcases hy with⟨rfl,rfl,rfl⟩|⟨ad,c,rfl,hnews⟩
 ·have hv:∃a c,v= .slice a n c:=by
   (rcases hown.2 with⟨rfl,rfl⟩|⟨g,cap,cur,rfl,_⟩;·exact⟨_,_,rfl⟩);·exact⟨_,_,rfl⟩
  obtain⟨a,c,rfl⟩:=hv;have hnc:=hncap _ _ _ rfl;refine⟨.slice a n c,w,?_,by simpa using hown,fun _ _ _=>rfl,Bel.refl _ _,fun b hb=> .inl hb,_,_,_,rfl⟩;cases a with
  |none=>simp[Builtin.append_,run_underlying ht,sizeOf,typeInfo,hi,Builtin.lenOf,hnc,Builtin.firstCells]
  |some a=>simp[Builtin.append_,run_underlying ht,sizeOf,typeInfo,hi,Builtin.lenOf,hnc,Builtin.firstCells,storeCells]
 ·obtain⟨hlen,hor⟩:=hown;have hxn:(xs++news).length=(n+m)*size:=by rw[Ol,hlen,hl,PS]
  have grown:∀(old:Nat),old<n+m->
    rowAt M (w.drew.alloc (.cells (xs.toArray++news.toArray++Builtin.zeroCells z.cells (grownCap w (n+m) old e-(n+m))) e)) e size (.slice (some ⟨w.heap.size,0,none⟩) (n+m) (grownCap w (n+m) old e)) (n+m) (xs++news):=by
   (intro old ho;have hge:=grownCap_ge w (n+m) old e;have hcm:grownCap w (n+m) old e<=maxLen:=grownCap_le_maxLen w (n+m) old e h63;refine⟨hxn,.inr ⟨w.heap.size,_,_,rfl,hbase,heap_alloc_new w.drew _,hge,hcm,?_,?_⟩⟩;·simp only[Sh,OQ,size_zeroCells,hzs,hlen,hl,<- PS];exact Oc _ (by omega));·simp only[SL,O4];rw[<- O4,<- hxn];exact Rh
  have hbelow:∀o,Bel M w (w.drew.alloc o):=fun o=>((Bel.refl M w).drew).alloc o;rcases hor with⟨rfl,rfl⟩|⟨g,cap,cur,rfl,hbg,hg,hnc,hcm,hcs,htake⟩
  ·(have hx:xs=[]:=N7 (by simpa using hlen);subst hx;by_cases hm:m=0;·subst hm;have hn:news=[]:=N7 (by simpa using hl);subst hn;refine⟨.slice none 0 0,w,?_,jv M w e size,fun _ _ _=>rfl,Bel.refl _ _,fun b hb=> .inl hb,_,_,_,rfl⟩;simp[Builtin.append_,run_underlying ht,sizeOf,typeInfo,hi,Builtin.lenOf,Builtin.firstCells,loadCells,loadCellsFrom]);·have hr:=run_append_nil (P:=P) w t ty e i z ht hi hz ad m c news (by rw[hsize];exact hl) hnews (by omega) (by omega) (by have hb:=hbytes;simp only[Oz] at hb;omega);have hgr:=grown 0 (by omega);simp only[Oz,OY,Array.empty_append] at hgr ⊢;exact⟨_,_,hr,hgr,fun k hk _=>b4 w.drew _ k hk,hbelow _,fun b hb=> .inr (by simp[Blk] at hb;omega),_,_,_,rfl⟩
  ·by_cases hroom:n+m<=cap
   ·(have hfit:n*i.size+news.length<=cur.size:=by rw[hl,hsize,<- PS];exact Og (Oc _ hroom) hcs);have hr:=run_append_room (P:=P) w t ty e i ht hi g n cap cur hg ad m c news (by rw[hsize];exact hl) hnews h1 hroom hfit;refine⟨_,_,hr,⟨hxn,.inr ⟨g,cap,_,rfl,hbg,setRow_heap w g cur _ e _ hg,hroom,hcm,?_,?_⟩⟩,?_,?_,fun b hb=> .inl hb,_,_,_,rfl⟩
    ·rw[hsize] at hfit ⊢;simp only[OQ,Ol,Of,Om,PT];omega
    ·rw[hsize,htake,<- hxn];exact Rh
    ·intro k _ hk;exact setRow_other w g k _ (fun e=>hk (by simp[Blk,e]))
    ·exact⟨rfl,rfl,rfl,by simp,fun k hk hn=>setRow_other w g k _ (fun e=>hn (e▸hbg))⟩
   ·have holds:∀j u,xs[j]? =some u->w.cell? ((⟨g,0,none⟩:Addr).add j)=some u:=by
     intro j u hu;rw[Addr.add_mid];have hj:=(Oh.1 hu).1;rw[fv hg htake hj,hu]
    have hr:=run_append_grow (P:=P) w t ty e i z ht hi hz ⟨g,0,none⟩ n cap xs (by rw[hsize];exact hlen) holds ad m c news (by rw[hsize];exact hl) hnews (by omega) (by omega) (growslice_fits (by omega) hbytes);have hgr:=grown cap (by omega);exact⟨_,_,hr,hgr,fun k hk _=>b4 w.drew _ k hk,hbelow _,fun b hb=> .inr (by simp[Blk] at hb;omega),_,_,_,rfl⟩
theorem lC{M:Nat->Prop}{w:World}{e:TypeId}{size n:Nat}{v:Value}{xs:List Value}(h:rowAt M w e size v n xs):mR M w e size v n xs:=by
 obtain⟨hl,h|⟨g,cap,cur,h,hM,hh,h1,h2,h3,h4⟩⟩:=h;·exact⟨hl,.inl h⟩
 ·exact⟨hl,.inr ⟨g,0,cap,cur,by rw[h,Q8],hM,hh,h1,by omega,by rw[Oz];exact h3,by rw[Q8,Oy];exact h4⟩⟩
theorem qR{P:Program}{w:World}{M:Nat->Prop}{t ty e size:Nat}{i:TypeInfo}{z:Value}(ht:P.underlying t=some (.slice e))(hi:P.info? e=some i)(hz:i.zero=some z)(hsize:i.size=size)(hzs:z.cells.size=size)
  {v:Value} {n:Nat} {xs:List Value} (hown:mR M w e size v n xs)
  {y:Value} {m:Nat} {news:List Value} (hy:(y= .slice none 0 0/\m=0/\news=[])∨∃ad c,y= .slice (some ad) m c/\(∀j u,news[j]? =some u->w.cell? (ad.add j)=some u)) (hl:news.length=m*size) (h1:∀u∈news,u.oneCell'=true)
  (h63:n+m<=maxLen) (hbytes:(n+m)*i.bytes<=140737488355328) (hbase:M w.heap.size):
  ∃v' w',(Builtin.append_ #[t,t] ty #[v,y]).run P w= .ok v' w'/\mR M w' e size v' (n+m) (xs++news)/\(∀k,k<w.heap.size-> ¬Blk v k->w'.heap[k]? =w.heap[k]?)/\Bel M w w'/\
   (∀b,Blk v' b->Blk v b∨w.heap.size<=b)/\∃a l c,v'= .slice a l c:=by
 rcases hown with⟨hlen,⟨rfl,rfl⟩|⟨g,off,cap,cur,rfl,hbg,hg,hnc,hcm,hcs,htake⟩⟩;·obtain⟨v',w',h2,h3,h4,h5,h6,h7⟩:=jO (ty:=ty) ht hi hz hsize hzs (v:= .slice none 0 0) (n:=0) (xs:=xs) ⟨hlen,.inl ⟨rfl,rfl⟩⟩ (by intro a l c he;cases he;exact Oa _) hy hl h1 h63 hbytes hbase;exact⟨v',w',h2,lC h3,fun k hk hn=>h4 k hk (fun e=>hn e.1),h5,h6,h7⟩
 ·rcases hy with⟨rfl,rfl,rfl⟩|⟨ad,c,rfl,hnews⟩;·refine⟨.slice (some ⟨g,off*size,none⟩) n cap,w,?_,⟨by simpa using hlen,.inr ⟨g,off,cap,cur,rfl,hbg,hg,hnc,hcm,hcs,by simpa using htake⟩⟩,fun _ _ _=>rfl,Bel.refl _ _,fun b hb=> .inl hb,_,_,_,rfl⟩;simp[Builtin.append_,run_underlying ht,sizeOf,typeInfo,hi,Builtin.lenOf,hnc,Builtin.firstCells,storeCells]
  ·(have hxn:(xs++news).length=(n+m)*size:=by rw[Ol,hlen,hl,PS]);have hm:maxLen=9223372036854775807:=rfl;by_cases hroom:n+m<=cap
   ·have hle:off*size+n*size+news.length<=cur.toList.length:=by
     rw[hl];have:(off+(n+m))*size<=(off+cap)*size:=Oc _ (by omega);rw[PS,PS] at this;simp only[PT];omega
    (have hcur:cur.toList.toArray=cur:=by simp);(have hh':w.heap[g]? =some (.cells cur.toList.toArray e (0,0)):=by rw[hcur];exact hg);have hr:=run_append_room_src (P:=P) w t t ty e i ht hi g (off*size) n cap _ m news (Src.ofSlice w ht ad m c news (by rw[hsize];exact hl) hnews h1) hroom (fun j hj=>by
      rw[hsize,cell_of_row w g _ cur e (0,0) hg];(have:off*size+n*size+j<cur.size:=by simp only[PT] at hle;omega);simp[this]) (fun j hj=>frozen_of_row w g _ _ e hg)
    rw[hsize] at hr;refine⟨_,_,hr,⟨hxn,.inr ⟨g,off,cap,_,rfl,hbg,dM hh' hle,hroom,hcm,?_,?_⟩⟩,fun k _ hk=>b9 _ _ _ _ (fun e=>hk (by subst e;rfl)),Bel.setCells hbg _ _ (Bel.refl _ _),fun b hb=> .inl hb,_,_,_,rfl⟩;·simp only[OQ,Ol,Of,Om,PT] at hle ⊢;omega
    ·(have e1:(cur.toList.take (off*size+n*size)).length=off*size+n*size:=by simp only[Of,PT] at hle ⊢;omega);simp only[];rw[Rj,e1,RI,PZ];(have e2:off*size-(off*size+n*size)=0:=by omega);rw[e2,Oy,htake,<- hxn,<- O4];exact Rh
   ·have holds:∀j u,xs[j]? =some u->w.cell? ((⟨g,off*size,none⟩:Addr).add j)=some u:=by
     intro j u hu;rw[Addr.add_mid,xj hg htake (Oh.1 hu).1,hu]
    (have hr:=run_append_grow (P:=P) w t ty e i z ht hi hz ⟨g,off*size,none⟩ n cap xs (by rw[hsize];exact hlen) holds ad m c news (by rw[hsize];exact hl) hnews (by omega) (by omega) (growslice_fits (by omega) hbytes);have hge:=grownCap_ge w (n+m) cap e;have hcm:grownCap w (n+m) cap e<=maxLen:=grownCap_le_maxLen w (n+m) cap e h63;refine⟨_,_,hr,lC ⟨hxn,.inr ⟨w.heap.size,_,_,rfl,hbase,heap_alloc_new w.drew _,hge,hcm,?_,?_⟩⟩,fun k hk _=>b4 w.drew _ k hk,((Bel.refl M w).drew).alloc _,fun b hb=> .inr (by simp[Blk] at hb;omega),_,_,_,rfl⟩;·simp only[Sh,OQ,size_zeroCells,hzs,hlen,hl,<- PS];exact Oc _ (by omega));·simp only[SL,O4];rw[<- O4,<- hxn];exact Rh
theorem iu{H:Nat->Prop}{w:World}{ρ:Nat->Value}{t:Ty}{ys:List t.D}{v:Value}(h:aJ H w ρ (.z (.slice t) ys) v):
  ∃cells,cC (fun c x=>t.rep H w c x) cells ys/\((v= .slice none 0 0/\ys.length=0/\cells=[])∨∃ad c,v= .slice (some ad) ys.length c/\(∀j u,cells[j]? =some u->w.cell? (ad.add j)=some u)):=by
 obtain⟨ha,h⟩:=h;have hv:v.cells.toList=[v]:=by
  cases v<;>simp[Ty.isAgg] at ha<;>rfl
 rw[hv] at h;rcases h with⟨he,hx⟩|⟨b,o,p,cap,cells,he,hp,h1,h2,h3,h4⟩;·simp at he;subst hx;exact⟨[],rfl,.inl ⟨he,rfl,rfl⟩⟩
 ·simp at he;refine⟨cells,h3,.inr ⟨⟨b,o,p⟩,cap,he,fun j u hu=>?_⟩⟩;have hne:ys≠[]:=by
   intro e;subst e;have:cells=[]:=h3;subst this;simp at hu
  obtain rfl:=hp hne;rw[Addr.add_mid,h4.2 j (Oh.1 hu).1,hu]
theorem lD{P:Program}{T:Tab}(hT:cT P T){t E:TypeId}{v:Ty}(ht:get? T.types t=some (.slice v))(hE:get? T.elems t=some E):
  P.underlying t=some (.slice E)/\∃j,P.info? E=some j/\j.size=v.w/\j.bytes<=24*v.w/\j.zero=some (mkV v.isAgg v.zeroCells)/\(v.isAgg=false->v.w=1):=by
 have hel:=hT.elems _ _ hE;obtain⟨i,dd,hi,hu,hsz,hrow,hz,el,j,rfl,h2,h3,h4,h5,h6⟩:=hT.types _ _ ht;have hEe:E=el:=by rw[hel] at hu;cases hu;rfl
 subst hEe;exact⟨hel,j,h2,h3,h4,h5,h6⟩
theorem ue{H:Nat->Prop}{w:World}{ρ:Nat->Value}{id:Nat}{l:List Value}(h1:ρ id= .tuple ⟨l⟩):(∀x v,x= .ownS id∨(∃o,x= .ownP id o)∨(∃a b,x= .ownE id a b)∨(∃a b,x= .ownW id a b)-> ¬aJ H w ρ x v)/\∀f caps v,(LV.fn f caps).isOf id=true-> ¬aJ H w ρ (.fn f caps) v:=by
 constructor
 ·rintro x v (rfl|⟨o,rfl⟩|⟨a,b,rfl⟩|⟨a,b,rfl⟩) h;·obtain⟨h2,a,n,c,h3⟩:=h;rw[h1,h3] at h2;cases h2
  ·obtain⟨b,h2,_⟩:=h;rw[h1] at h2;cases h2
  ·obtain⟨_,_,_,_,h2,_⟩:=h;rw[h1] at h2;cases h2
  ·obtain⟨_,_,_,h2,_⟩:=h;rw[h1] at h2;cases h2
 ·intro f caps v hof h;obtain⟨vs,_,h⟩:=h;simp only[LV.isOf] at hof;have key:∀{caps:List CV} {vs:List Value},caps.any (CV.isOf id)=true-> ¬aY (eY H w ρ) caps vs:=by
   intro caps;induction caps with
   |nil=>intro vs h;simp at h
   |cons c caps ih=>
    intro vs h h2;cases vs with
    |nil=>exact h2
    |cons v vs=>
     simp only[RB,OT] at h;rcases h with h|h
     ·cases c with
      |z t x=>simp[CV.isOf] at h
      |p i=>
       simp[CV.isOf] at h;subst h;obtain⟨b,h3,_⟩:=h2.1;rw[h1] at h3;cases h3
     ·exact ih h h2.2
  exact key hof h
theorem vR{H H':Nat->Prop}{w w':World}{ρ ρ':Nat->Value}{id:Nat}{h:Value}{vs us:List Value}(hh:∀b,b<w.heap.size->H' b->H b)(hs:aW H w w')(hρ:∀i,i≠id->ρ' i=ρ i)(h1:ρ id= .tuple ⟨h::vs⟩)(h2:ρ' id= .tuple ⟨h::(vs++us)⟩)
  (hS:∀x v,x= .ownS id∨(∃o,x= .ownP id o)∨(∃a b,x= .ownE id a b)∨(∃a b,x= .ownW id a b)-> ¬aJ H w ρ x v) (hF:∀f caps v,(LV.fn f caps).isOf id=true-> ¬aJ H w ρ (.fn f caps) v) {x:LV} {v:Value} (hx:aJ H w ρ x v):aJ H' w' ρ' x v:=by
 by_cases hof:x.isOf id=true
 ·have hv:∀k u,vs[k]? =some u->(vs++us)[k]? =some u:=fun k u hk=>by
   rw[OU (Oh.1 hk).1];exact hk
  cases x with
  |z t y=>cases hof
  |val u=>cases hof
  |junk=>cases hof
  |ownS i=>simp[LV.isOf] at hof;subst hof;exact absurd hx (hS _ _ (.inl rfl))
  |ownP i o=>simp[LV.isOf] at hof;subst hof;exact absurd hx (hS _ _ (.inr (.inl ⟨o,rfl⟩)))
  |ownE i a b=>simp[LV.isOf] at hof;subst hof;exact absurd hx (hS _ _ (.inr (.inr (.inl ⟨a,b,rfl⟩))))
  |ownW i a b=>simp[LV.isOf] at hof;subst hof;exact absurd hx (hS _ _ (.inr (.inr (.inr ⟨a,b,rfl⟩))))
  |fn f caps=>exact absurd hx (hF _ _ _ hof)
  |ownM i=>
   simp[LV.isOf] at hof;subst hof;obtain⟨a,n,c,vs',hb,hv'⟩:=hx;rw[h1] at hb;simp only[Value.tuple.injEq,Q0,P5] at hb;exact⟨a,n,c,_,by rw[h2,hb.1],hv'⟩
  |ownA i k=>
   simp[LV.isOf] at hof;subst hof;obtain⟨b,n,c,vs',hb,hv'⟩:=hx;rw[h1] at hb;simp only[Value.tuple.injEq,Q0,P5] at hb;exact⟨b,n,c,_,by rw[h2,hb.1],hv'⟩
  |ownR i k=>
   simp[LV.isOf] at hof;subst hof;obtain⟨h0,vs',a,n,c,hb,hk,hv'⟩:=hx;rw[h1] at hb;simp only[Value.tuple.injEq,Q0,P5] at hb;obtain⟨rfl,rfl⟩:=hb;exact⟨_,_,a,n,c,h2,hv _ _ hk,hv'⟩
  |ownB i k wd q=>
   simp[LV.isOf] at hof;subst hof;obtain⟨h0,vs',b,n,c,hb,hk,hv'⟩:=hx;rw[h1] at hb;simp only[Value.tuple.injEq,Q0,P5] at hb;obtain⟨rfl,rfl⟩:=hb;exact⟨_,_,b,n,c,h2,hv _ _ hk,hv'⟩
 ·exact aN hh hs (fun i hi=>hρ i (fun e=>by subst e;exact hof hi)) hx
theorem vS{X:Cx}(hT:cT X.P X.T){s s':aa}{a:Act}{w:World}(h:St X s a w){o:Oper}{d:Nat}{c:Call}(hcal:c.callee= .builtin .append)(hop:o.op= .call c)(hd:o.dst=some d)(hdN:X.T.ok d=true){C:Prop}(he:appendOp X.T s (some d) c.args.toList c.argTypes.toList=some (C,s'))(hC:C)
  {K:Act->World->Prop} {Q:Exit->Act->World->Prop} (hK:∀a' w',St X s' a' w'->K a' w'):o.wpIn (fw X.r) 2 X.P a w K Q:=by
 obtain⟨callee,⟨args⟩,⟨types⟩⟩:=c;simp only at hcal he;subst hcal;unfold appendOp at he;obtain⟨ρ,hf⟩:=h.fits;split at he
 ·rename_i d' x y t u hdd;cases hdd;have hexec:∀{v':Value} {w':World},(Builtin.append_ #[t,u] o.type #[a.eval x,a.eval y]).run X.P w= .ok v' w'->(execOp a.eval o).run X.P w= .ok (.value v') w':=by
   intro v' w' hr;unfold execOp;rw[hop];simp[resolve,invoke,builtin,hr]
  split at he
  ·rename_i id v E hx ht hE;split at he
   ·rename_i hc;obtain⟨htu,hw⟩:=hc;subst htu;split at he
    ·rename_i ys s1 hys;obtain⟨g1,g2⟩:=eG hf h.others hys;split at he
     ·rename_i t' e xs hg;split at he
      ·rename_i htv;subst htv;split at he
       ·rename_i hee;obtain⟨hee,hidB⟩:=hee;subst hee;cases he;obtain⟨hu,j,j1,j2,j3,j4,j5⟩:=lD hT ht hE;obtain⟨hv,pa,pn,pc,hv2⟩:=ax hf hx;obtain⟨cells,hr,hrow⟩:=g1.own _ (get?_mem hg);obtain⟨ycells,hyr,hy⟩:=iu g2;have hxl:=bu (fun c x h=>t'.rep_length h) hr;have hyl:=bu (fun c x h=>t'.rep_length h) hyr;obtain⟨r1,r2⟩:=fj hC hw;have hbytes:(xs.length+ys.length)*j.bytes<=140737488355328:=by
         have:(xs.length+ys.length)*j.bytes<=(xs.length+ys.length)*(24*t'.w):=Po _ j3;omega
        have hcs:=gi j5 t'.zeroCells t'.zeroCells_length t'.zeroCells_one;have hzs:(mkV t'.isAgg t'.zeroCells).cells.size=t'.w:=by
         rw[<- PT,hcs,t'.zeroCells_length]
        have hnc:∀a l c,ρ id= .slice a l c->l<=c:=by
         (intro a l c he;obtain⟨q1,_,_,_,q2⟩:=fc g1.own hg he;rcases q2 with⟨_,q2,_⟩|⟨_,_,_,q2,_⟩;·rw[q1,q2];exact Nat.zero_le _);·rw[q1];exact q2
        have hcell:∀b,Blk (ρ id) b->∃o:Obj,w.heap[b]? =some o/\o.isCells=true:=fun b hb=>(g1.own _ (get?_mem hg)).cells hb;obtain⟨v',w',hrun,hrow',hkeep0,hbel,hval,hshape⟩:=jO (ty:=o.type) hu j1 j4 j2 hzs hrow hnc (m:=ys.length) (by
         (rcases hy with⟨q1,q2,q3⟩|hy;·exact .inl ⟨q1,q2,q3⟩);·exact .inr hy) (by rw[hyl]) (eS hyr) r1 hbytes (Cx.M_new h.below)
        have hkeep:∀k,k<w.heap.size-> ¬Blk (ρ id) k->w'.heap[k]? =w.heap[k]? :=fun k hk hn=>hkeep0 k hk (fun e=>hn e.1);have hko:KeepsOthers w w':=⟨hbel.size,fun k o' hk ho=>(hkeep k (BY.1 hk).1 (fun e=>by
         obtain⟨o2,q1,q2⟩:=hcell k e;rw[hk] at q1;cases q1;rw[q2] at ho;cases ho)).trans hk⟩
        refine a6 (hexec (by rw[hv];exact hrun)) (hK _ _ ?_);rw[hd];obtain⟨ρ',q1,q2⟩:=g1.renew (w':=w') hg (f:=LV.kill id) (val:=v') (obj':= .arr t' e (xs++ys))
         (fun H' ρ' hh hs hρ _ x v hx=>aZ hh hs hρ hx) hkeep hval
         (fun H' ρ' hh hs hρ hρd=>⟨cells++ycells,fu (aS hh hs hr) (aS hh hs hyr),by rw[hρd];simpa using hrow'⟩) (fun hB hF=>absurd hidB (by simp only[Tab.mayMove,hF,RC,decide_eq_true_eq];omega))
        have q3:=q2.put (d:=d) (by rw[h.size];exact Tab.ok_lt hdN) (v:= .l (.ownS id)) (val:=v') ⟨q1.symm,hshape⟩;exact h.next hdN hko (h.below.trans hbel (fun _ _ h=>h)) q3
       ·cases he
      ·cases he
     ·rename_i t' e xs hg;split at he
      ·rename_i htv;subst htv;split at he
       ·rename_i hee;obtain⟨hee,hidB⟩:=hee;subst hee;cases he;obtain⟨hu,j,j1,j2,j3,j4,j5⟩:=lD hT ht hE;obtain⟨hv,pa,pn,pc,hv2⟩:=ax hf hx;obtain⟨cells,hr,hrow⟩:=g1.own _ (get?_mem hg);obtain⟨ycells,hyr,hy⟩:=iu g2;have hxl:=bu (fun c x h=>t'.rep_length h) hr;have hyl:=bu (fun c x h=>t'.rep_length h) hyr;obtain⟨r1,r2⟩:=fj hC hw;have hbytes:(xs.length+ys.length)*j.bytes<=140737488355328:=by
         have:(xs.length+ys.length)*j.bytes<=(xs.length+ys.length)*(24*t'.w):=Po _ j3;omega
        have hcs:=gi j5 t'.zeroCells t'.zeroCells_length t'.zeroCells_one;have hzs:(mkV t'.isAgg t'.zeroCells).cells.size=t'.w:=by
         rw[<- PT,hcs,t'.zeroCells_length]
        have hcell:∀b,Blk (ρ id) b->∃o:Obj,w.heap[b]? =some o/\o.isCells=true:=fun b hb=>(g1.own _ (get?_mem hg)).cells hb;obtain⟨v',w',hrun,hrow',hkeep,hbel,hval,hshape⟩:=qR (ty:=o.type) hu j1 j4 j2 hzs hrow (m:=ys.length) (by
         (rcases hy with⟨q1,q2,q3⟩|hy;·exact .inl ⟨q1,q2,q3⟩);·exact .inr hy) (by rw[hyl]) (eS hyr) r1 hbytes (Cx.M_new h.below)
        have hko:KeepsOthers w w':=⟨hbel.size,fun k o' hk ho=>(hkeep k (BY.1 hk).1 (fun e=>by
         obtain⟨o2,q1,q2⟩:=hcell k e;rw[hk] at q1;cases q1;rw[q2] at ho;cases ho)).trans hk⟩
        refine a6 (hexec (by rw[hv];exact hrun)) (hK _ _ ?_);rw[hd];obtain⟨ρ',q1,q2⟩:=g1.renew (w':=w') hg (f:=LV.kill id) (val:=v') (obj':= .que t' e (xs++ys))
         (fun H' ρ' hh hs hρ _ x v hx=>aZ hh hs hρ hx) hkeep hval
         (fun H' ρ' hh hs hρ hρd=>⟨cells++ycells,fu (aS hh hs hr) (aS hh hs hyr),by rw[hρd];simpa using hrow'⟩) (fun hB _=>absurd hB (SU.2 hidB))
        have q3:=q2.put (d:=d) (by rw[h.size];exact Tab.ok_lt hdN) (v:= .l (.ownS id)) (val:=v') ⟨q1.symm,hshape⟩;exact h.next hdN hko (h.below.trans hbel (fun _ _ h=>h)) q3
       ·cases he
      ·cases he
     ·cases he
    ·cases he
   ·cases he
  ·rename_i id jr v E hx ht hE;split at he
   ·rename_i hc;obtain⟨htu,hw⟩:=hc;subst htu;split at he
    ·rename_i ys s1 hys;obtain⟨g1,g2⟩:=eG hf h.others hys;split at he
     ·rename_i t' T' e rows idx hg;split at he
      ·rename_i htv;subst htv;split at he
       ·rename_i hee;obtain⟨hee,hidB⟩:=hee;subst hee;cases he;obtain⟨hjr,hC⟩:=hC;obtain⟨hu,j,j1,j2,j3,j4,j5⟩:=lD hT ht hE;obtain⟨h0,vs,pa,pn,pc,hρv,hjv,hv2⟩:=ax hf hx;obtain⟨hcells,hm⟩:=iZ g1.own hg hρv;obtain⟨hj1,hj2⟩:=jw hjr;have hl:=hm.len;generalize hxs:rowOf rows jr=xs at*;obtain⟨cells,hr,hrow⟩:=hm.row jr _ _ hj1 hjv;obtain⟨ycells,hyr,hy⟩:=iu g2;have hxl:=bu (fun c x h=>t'.rep_length h) hr;have hyl:=bu (fun c x h=>t'.rep_length h) hyr;obtain⟨r1,r2⟩:=fj hC hw;have hbytes:(xs.length+ys.length)*j.bytes<=140737488355328:=by
         have:(xs.length+ys.length)*j.bytes<=(xs.length+ys.length)*(24*t'.w):=Po _ j3;omega
        have hcs:=gi j5 t'.zeroCells t'.zeroCells_length t'.zeroCells_one;have hzs:(mkV t'.isAgg t'.zeroCells).cells.size=t'.w:=by
         rw[<- PT,hcs,t'.zeroCells_length]
        have hnc:∀p l c,a.eval x= .slice p l c->l<=c:=by
         (intro p l c he;obtain⟨_,⟨q1,q2⟩|⟨g,cap,cur,q1,_,_,q2,_⟩⟩:=hrow;·rw[he] at q1;cases q1;exact Oa _);·rw[he] at q1;cases q1;exact q2
        obtain⟨v',w',hrun,hrow',hkeep0,hbel,hval,hshape⟩:=jO (ty:=o.type) hu j1 j4 j2 hzs hrow hnc (m:=ys.length) (by
         (rcases hy with⟨q1,q2,q3⟩|hy;·exact .inl ⟨q1,q2,q3⟩);·exact .inr hy) (by rw[hyl]) (eS hyr) r1 hbytes (Cx.M_new h.below)
        have hkeep:∀k,k<w.heap.size-> ¬Blk (a.eval x) k->w'.heap[k]? =w.heap[k]? :=fun k hk hn=>hkeep0 k hk (fun e=>hn e.1);have hBv:∀b,Blk (a.eval x) b->blk (a.eval x)=some b:=fun b hb=>(od hv2).1 hb;obtain⟨p1,p2,p3,p4⟩:=hshape;have hBv':∀b,blk v'=some b->blk (a.eval x)=some b∨w.heap.size<=b:=fun b hb=>by
         (rcases hval b ((od p4).2 hb) with q5|q5;·exact .inl (hBv b q5));·exact .inr q5
        have hmem:=O9 hjv;have hlt:∀u∈h0::vs,∀b,blk u=some b->b<w.heap.size:=fun u hu b hb=>cg (hm.Mof hu hb).2;have hko:KeepsOthers w w':=⟨hbel.size,fun k o' hk ho=>(hkeep k (BY.1 hk).1 (fun e=>by
         obtain⟨_,cur,q1⟩:=jx hrow (hBv k e);rw[hk] at q1;cases q1;cases ho)).trans hk⟩
        refine a6 (hexec hrun) (hK _ _ ?_);rw[hd];have hoth:∀u∈h0::vs,∀b,blk u=some b->blk (a.eval x)≠some b->w'.heap[b]? =w.heap[b]? :=fun u hu b hb hne=>hkeep b (hlt u hu b hb) (fun e=>hne (hBv b e));have hgone:∀b,blk (a.eval x)=some b->∃o:Obj,w'.heap[b]? =some o/\o.isCells=true:=fun b hb=>by
         by_cases hb':blk v'=some b
         ·obtain⟨_,cur,q⟩:=jx hrow' hb';exact⟨_,q,rfl⟩
         ·obtain⟨o1,o2,o3⟩:=(hm.Mof (OF _ hmem) hb).2;exact⟨o1,by rw[hkeep0 b (cg ⟨o1,o2,o3⟩) (fun e=>hb' ((od p4).1 e.2))];exact o2,o3⟩
        obtain⟨ρ',q1,q2⟩:=g1.renew (w':=w') hg (f:=_root_.id) (val:= .tuple ⟨h0::(vs++ [v'])⟩) (obj':= .mat t' T' e (rows.set jr none++ [some (xs++ys)]) idx)
         (fun H' ρ' hh hs hρ hρd x v hx=>vR hh hs hρ hρv hρd (ue hρv).1 (ue hρv).2 hx)
         (fun k hk hne=>hkeep k hk (fun e=>hne (by rw[hρv];exact⟨_,OF _ hmem,hBv k e⟩)))
         (fun b hb=>by
          obtain⟨u,hu,hub⟩:=hb;rw[hρv];rcases IS.1 hu with rfl|hu;·exact .inl ⟨_,PE ..,hub⟩
          ·rcases Oq.1 hu with hu|hu;·exact .inl ⟨_,OF _ hu,hub⟩
           ·(rw[Ph.1 hu] at hub;rcases hBv' b hub with q|q;·exact .inl ⟨_,OF _ hmem,q⟩);·exact .inr q)
         (fun H' ρ' hh hs hρ hρd=>by
          have hset:∀k zs,(rows.set jr none++ [some (xs++ys)])[k]? =some (some zs)->(k≠jr/\k<rows.length/\rows[k]? =some (some zs))∨(k=rows.length/\zs=xs++ys):=by
           intro k zs hk;by_cases hkl:k<rows.length
           ·(rw[OU (by simpa using hkl),Ra] at hk;by_cases e1:jr=k;·rw[if_pos e1] at hk;simp[hj2] at hk);·rw[if_neg e1] at hk;exact .inl ⟨fun e2=>e1 e2.symm,hkl,hk⟩
           ·(rw[Qu (by simpa using hkl),PR] at hk;by_cases e1:k-rows.length=0;·rw[e1] at hk;simp at hk;exact .inr ⟨by omega,hk.symm⟩);·rw[OA (by simp;omega)] at hk;cases hk
          have hvs:∀k v,(vs++ [v'])[k]? =some v->(k<vs.length/\vs[k]? =some v)∨(k=vs.length/\v=v'):=by
           intro k v hk;by_cases hkl:k<vs.length;·rw[OU hkl] at hk;exact .inl ⟨hkl,hk⟩
           ·(rw[Qu (by omega)] at hk;by_cases e1:k-vs.length=0;·rw[e1] at hk;simp at hk;exact .inr ⟨by omega,hk.symm⟩);·rw[OA (by simp;omega)] at hk;cases hk
          have hnew:∀u∈h0::vs,∀b,blk u=some b->blk (a.eval x)≠some b->blk v'≠some b:=fun u hu b hb hne e1=>by
           (rcases hBv' b e1 with q|q;·exact hne q);·have:=hlt u hu b hb;omega
          have hhead:∀b,blk h0=some b->blk (a.eval x)≠some b:=fun b hb e1=>((hm.shape _ hmem).2 b e1).1 hb;refine⟨h0,vs++ [v'],hcells,hρd,⟨by simp[hl],fi hm.hdr (fun b hb=>hoth h0 (PE ..) b hb (hhead b hb)),hm.one,fun i k hik=>?_,fun v hv=>?_,fun k zs v hxk hvk=>?_,fun i k zs us u v hne hik1 hik2 hu hv b hub=>?_⟩⟩;·obtain⟨q1,q2⟩:=hm.at_ i k hik;exact⟨by simp;omega,by rw[OU (by omega)];exact q2⟩
          ·rcases Oq.1 hv with hv|hv
           ·(refine⟨(hm.shape v hv).1,fun b hb=>⟨((hm.shape v hv).2 b hb).1,((hm.shape v hv).2 b hb).2.1,?_⟩⟩;by_cases e1:blk (a.eval x)=some b;·exact hgone b e1);·rw[hoth v (OF _ hv) b hb e1];exact((hm.shape v hv).2 b hb).2.2
           ·rw[Ph.1 hv];refine⟨⟨p1,p2,p3,p4⟩,fun b hb=>⟨fun e1=>hnew h0 (PE ..) b e1 (hhead b e1) hb,?_⟩⟩;obtain⟨q3,cur,q4⟩:=jx hrow' hb;exact⟨q3,_,q4,rfl⟩
          ·(rcases hset k zs hxk with⟨q1,q2,q3⟩|⟨q1,rfl⟩<;>rcases hvs k v hvk with⟨q4,q5⟩|⟨q4,rfl⟩);·obtain⟨cs,q6,q7⟩:=hm.row k zs v q3 q5;refine⟨cs,aS hh hs q6,fi q7 (fun b hb=>hoth v (OF _ (O9 q5)) b hb (hm.apart k jr zs xs v _ q1 q3 hj1 q5 hjv b hb))⟩
           ·omega
           ·omega
           ·exact⟨cells++ycells,fu (aS hh hs hr) (aS hh hs hyr),by simpa using hrow'⟩
          ·(rcases hset i zs hik1 with⟨q1,q2,q3⟩|⟨q1,rfl⟩<;>rcases hset k us hik2 with⟨q1',q2',q3'⟩|⟨q1',rfl⟩);·rw[OU (by omega)] at hu hv;exact hm.apart i k zs us u v hne q3 q3' hu hv b hub
           ·(rw[OU (by omega)] at hu;rcases hvs k v hv with⟨q4,_⟩|⟨_,rfl⟩;·omega);·exact hnew u (OF _ (O9 hu)) b hub (hm.apart i jr zs xs u _ q1 q3 hj1 hu hjv b hub)
           ·(rw[OU (by omega)] at hv;rcases hvs i u hu with⟨q4,_⟩|⟨_,rfl⟩;·omega);·exact fun e1=>hnew v (OF _ (O9 hv)) b e1 (hm.apart k jr us xs v _ q1' q3' hj1 hv hjv b e1) hub
           ·omega)
         (fun hB _=>absurd hB (SU.2 hidB))
        rw[oe,og] at q2;have q3:=q2.put (d:=d) (by rw[h.size];exact Tab.ok_lt hdN) (v:= .l (.ownR id rows.length)) (val:=v') ⟨_,_,p1,p2,p3,q1,by rw[<- hl];simp,p4⟩;exact h.next hdN hko (h.below.trans hbel (fun _ _ h=>h)) q3
       ·cases he
      ·cases he
     ·cases he
    ·cases he
   ·cases he
  ·rename_i n v E hx ht hE;split at he
   ·rename_i hc;obtain⟨hnil,htu,hw⟩:=hc;subst htu;split at he
    ·rename_i ys s1 hys;obtain⟨g1,g2⟩:=eG hf h.others hys;cases he;obtain⟨hu,j,j1,j2,j3,j4,j5⟩:=lD hT ht hE;have hv:a.eval x=n:=ax hf hx;have hv:=hv.trans (kB hnil);obtain⟨ycells,hyr,hy⟩:=iu g2;have hyl:=bu (fun c x h=>v.rep_length h) hyr;obtain⟨r1,r2⟩:=fj hC hw;have hbytes:(0+ys.length)*j.bytes<=140737488355328:=by
      have:ys.length*j.bytes<=ys.length*(24*v.w):=Po _ j3;rw[Oz];omega
     have hcs:=gi j5 v.zeroCells v.zeroCells_length v.zeroCells_one;have hzs:(mkV v.isAgg v.zeroCells).cells.size=v.w:=by
      rw[<- PT,hcs,v.zeroCells_length]
     obtain⟨v',w',hrun,hrow',hkeep0,hbel,hval,hshape⟩:=jO (ty:=o.type) hu j1 j4 j2 hzs (jv X.M w E v.w) (by intro a l c he;cases he;exact Oa _) (m:=ys.length) (by
      (rcases hy with⟨q1,q2,q3⟩|hy;·exact .inl ⟨q1,q2,q3⟩);·exact .inr hy) (by rw[hyl]) (eS hyr) (by omega) hbytes (Cx.M_new h.below)
     have hkeep:∀k,k<w.heap.size-> ¬Blk (.slice none 0 0) k->w'.heap[k]? =w.heap[k]? :=fun k hk hn=>hkeep0 k hk (fun e=>hn e.1);refine a6 (hexec (by rw[hv];exact hrun)) (hK _ _ ?_);rw[hd];have hko:KeepsOthers w w':=⟨hbel.size,fun k o' hk _=>(hkeep k (BY.1 hk).1 (by simp[Blk])).trans hk⟩;have hkeep':∀k,k<w.heap.size->w'.heap[k]? =w.heap[k]? :=fun k hk=>hkeep k hk (by simp[Blk]);obtain⟨ρ',q1,q2⟩:∃ ρ',ρ' d=v'/\Fits X {env:=bH (LV.kill d) s1.env,own:=(d,.arr v E ys)::bg (LV.kill d) (del s1.own d)} a w' ρ':=by
      (refine g1.fresh' (OC (Tab.ok_lt hdN) h.small.n) (w':=w') (d:=d) (obj:= .arr v E ys) (val:=v') hkeep' (fun b hb=>?_) (fun H' ρ' hh hs hρ hρd=>⟨ycells,aS hh hs hyr,by rw[hρd];simpa using hrow'⟩);rcases hval b hb with h0|h0;·simp[Blk] at h0);·exact h0
     have q3:=q2.put (d:=d) (by rw[h.size];exact Tab.ok_lt hdN) (v:= .l (.ownS d)) (val:=v') ⟨q1.symm,hshape⟩;exact h.next hdN hko (h.below.trans hbel (fun _ _ h=>h)) q3
    ·cases he
   ·cases he
  ·cases he
 ·cases he
theorem xn{X:Cx}(hT:cT X.P X.T){s s':aa}{a:Act}{w:World}(h:St X s a w){o:Oper}{d:Nat}{ty:TypeId}{x:Operand}{lo hi mx:Option Operand}(hop:o.op= .slice ty x lo hi mx)(hd:o.dst=some d)(hdN:X.T.ok d=true){C:Prop}(he:effOp X.T s (some d) (.slice ty x lo hi mx)=some (C,s'))(hC:C)
  {K:Act->World->Prop} {Q:Exit->Act->World->Prop} (hK:∀a' w',St X s' a' w'->K a' w'):o.wpIn (fw X.r) 2 X.P a w K Q:=by
 simp only[effOp] at he;obtain⟨ρ,hf⟩:=h.fits;have hexec:∀{v:Value},(Instr.sliceAt ty (a.eval x) (lo.map a.eval) (hi.map a.eval) (mx.map a.eval)).run X.P w= .ok v w->(execOp a.eval o).run X.P w= .ok (.value v) w:=by
  intro v hr;unfold execOp;rw[hop];exact bl hr
 split at he
 ·rename_i d' id u hdd hx ht;cases hdd;have hty:=hT.types _ _ ht;obtain⟨_,dd,-,hu,-,-,-,e,j,rfl,h2,h3,-⟩:=hty;obtain⟨hv,p,m,c,hv2⟩:=ax hf hx;rw[hv] at hv2;split at he
  ·split at he
   ·rename_i t E xs lo hg;split at he
    ·rename_i k l0 hl;obtain⟨l,rfl⟩:∃l':Int,l'=l0:=⟨l0,rfl⟩;split at he
     ·rename_i e0;obtain⟨e0,hidB⟩:=e0;subst e0;cases he;have hC1:0<=l:=hC.2.1;have hC2:l<=(xs.length:Int):=hC.2.2;obtain⟨hm,cells,hr,hcl,hor⟩:=vP hf.own hg hv2;subst hm;have hlv:=bm (ax hf hl);have hb:=cU (P:=X.P) (w:=w) (k:=k) (n:=l) (m:=xs.length) (c:= .sliceB) hC1 hC2;obtain⟨v',hrun,hq,hblk',hsh⟩:∃v',(Instr.sliceAt ty (a.eval x) ((some lo).map a.eval) ((none:Option Operand).map a.eval) ((none:Option Operand).map a.eval)).run X.P w= .ok v' w/\
        mR X.M w E t.w v' (xs.drop l.toNat).length (cells.drop (l.toNat*t.w))/\(∀b,Blk v' b->Blk (ρ id) b)/\∃a l c,v'= .slice a l c:=by
       have hdl:(cells.drop (l.toNat*t.w)).length=(xs.drop l.toNat).length*t.w:=by
        rw[Om,Om,hcl,Nat.sub_mul]
       rcases hor with⟨rfl,hx0,hc0⟩|⟨g,off,rfl,hM,h5,h6,cur,hh,h7,h8⟩;·subst hx0;subst hc0;(have hl0:l=0:=by simp at hC2;omega);subst hl0;refine⟨.slice none 0 0,?_,⟨hdl,.inl ⟨rfl,by simp⟩⟩,fun b hb=>by simp[Blk] at hb,_,_,_,rfl⟩;rw[hv,hv2];simp only[OO] at hb;simp[Instr.sliceAt,run_underlying hu,Instr.slice,Instr.sliceBounds,hlv,hb,sizeOf,typeInfo,h2,h3]
       ·by_cases hne:c=l.toNat
        ·(refine⟨.slice (some ⟨g,off*t.w,none⟩) (xs.length-l.toNat) (c-l.toNat),?_,⟨hdl,.inr ⟨g,off,c-l.toNat,cur,by rw[Om],hM,hh,by rw[Om];omega,by omega,?_,?_⟩⟩,fun b hb=>by rw[hv2];exact hb,_,_,_,rfl⟩;·rw[hv,hv2];simp[Instr.sliceAt,run_underlying hu,Instr.slice,Instr.sliceBounds,hlv,hb,sizeOf,typeInfo,h2,h3,hne]);·exact Og (Oc _ (by omega)) h7
         ·(have e0:(xs.drop l.toNat).length=0:=by rw[Om];omega);have e1:cells.drop (l.toNat*t.w)=[]:=N7 (by rw[hdl,e0,Q8]);rw[e0,e1];simp
        ·refine⟨.slice (some ⟨g,(off+l.toNat)*t.w,none⟩) (xs.length-l.toNat) (c-l.toNat),?_,⟨hdl,.inr ⟨g,off+l.toNat,c-l.toNat,cur,by rw[Om],hM,hh,by rw[Om];omega,by omega,?_,?_⟩⟩,fun b hb=>by rw[hv2];exact hb,_,_,_,rfl⟩;·rw[hv,hv2];simp[Instr.sliceAt,run_underlying hu,Instr.slice,Instr.sliceBounds,hlv,hb,sizeOf,typeInfo,h2,h3,hne,Addr.add_mid,PS]
         ·(have e1:off+l.toNat+(c-l.toNat)=off+c:=by omega);rw[e1];exact h7
         ·rw[<- h8,PS,<- PH,Om,Nat.sub_mul,RI]
      refine a6 (hexec hrun) (hK _ _ ?_);rw[hd];obtain⟨ρ',q1,q2⟩:=hf.renew (w':=w) hg (f:=LV.kill id) (val:=v') (obj':= .que t E (xs.drop l.toNat))
       (fun H' ρ' hh hs hρ _ x v hx=>aZ hh hs hρ hx) (fun k hk _=>rfl) (fun b hb=> .inl (hblk' b hb))
       (fun H' ρ' hh hs hρ hρd=>⟨_,lz (fun c x h=>t.rep_length h) _ (aS hh hs hr),by rw[hρd];exact hq⟩)
       (fun hB _=>absurd hB (SU.2 hidB))
      have q3:=q2.put (d:=d) (by rw[h.size];exact Tab.ok_lt hdN) (v:= .l (.ownS id)) (val:=v') ⟨q1.symm,hsh⟩;exact h.next hdN (KeepsOthers.refl _) h.below q3
     ·cases he
    ·cases he
   ·cases he
  split at he
  ·split at he
   ·rename_i t E xs lo hg;split at he
    ·rename_i k l0 hl;obtain⟨l,rfl⟩:∃l':Int,l'=l0:=⟨l0,rfl⟩;split at he
     ·rename_i e0;subst e0;cases he;have hC1:0<=l:=hC.1;have hC2:l<(xs.length:Int):=hC.2;obtain⟨hm,cells,hr,hcl,hor⟩:=fc hf.own hg hv2;subst hm;rcases hor with⟨_,hx0,_⟩|⟨g,rfl,hM,h5,h6,cur,hh,h7,h8⟩;·subst hx0;simp at hC2;omega
      ·have hlv:=bm (ax hf hl);have hb:=cU (P:=X.P) (w:=w) (k:=k) (n:=l) (m:=xs.length) (c:= .sliceB) hC1 (by omega);have hrun:(Instr.sliceAt ty (a.eval x) ((some lo).map a.eval) ((none:Option Operand).map a.eval) ((none:Option Operand).map a.eval)).run X.P w= .ok (.slice (some ⟨g,l.toNat*t.w,none⟩) (xs.length-l.toNat) (c-l.toNat)) w:=by
        (have hne:¬c=l.toNat:=by omega);rw[hv,hv2];simp[Instr.sliceAt,run_underlying hu,Instr.slice,Instr.sliceBounds,hlv,hb,sizeOf,typeInfo,h2,h3,hne,Addr.add_mid]
       refine a6 (hexec hrun) (hK _ _ ?_);rw[hd];exact h.put hf hdN (v:= .l (.ownW id t.w l.toNat)) ⟨g,xs.length,c,hv2,by omega,rfl⟩
     ·cases he
    ·cases he
   ·rename_i t E xs hi hg;split at he
    ·rename_i k n0 hl;obtain⟨n,rfl⟩:∃n':Int,n'=n0:=⟨n0,rfl⟩;split at he
     ·rename_i e0;obtain⟨e0,hidB⟩:=e0;subst e0;cases he;have hC1:0<=n:=hC.2.1;have hC2:n<=(xs.length:Int):=hC.2.2;obtain⟨hm,cells,hr,hcl,hor⟩:=fc hf.own hg hv2;subst hm;have hlv:=bm (ax hf hl);have hcc:n<=(c:Int):=by
       (rcases hor with⟨_,hx0,hc0⟩|⟨g,_,_,h5,_⟩;·subst hx0;simp at hC2;omega);·omega
      have hb:=cU (P:=X.P) (w:=w) (k:=k) (n:=n) (m:=c) (c:= .sliceAcap) hC1 hcc;have hrun:(Instr.sliceAt ty (a.eval x) ((none:Option Operand).map a.eval) ((some hi).map a.eval) ((none:Option Operand).map a.eval)).run X.P w= .ok (.slice p n.toNat c) w:=by
       rw[hv,hv2];have e1:p.map (fun b:Addr=>b.add (0*t.w))=p:=by
        cases p<;>simp[Addr.add]
       simp[Instr.sliceAt,run_underlying hu,Instr.slice,Instr.sliceBounds,hlv,hb,sizeOf,typeInfo,h2];intro _;simpa using e1
      refine a6 (hexec hrun) (hK _ _ ?_);rw[hd];obtain⟨ρ',q1,q2⟩:=hf.renew (w':=w) hg (f:=LV.kill id) (val:= .slice p n.toNat c) (obj':= .arr t E (xs.take n.toNat))
       (fun H' ρ' hh hs hρ _ x v hx=>aZ hh hs hρ hx) (fun k hk _=>rfl)
       (fun b hb=> .inl (by
        rw[hv2];cases p<;>simp[Blk] at hb ⊢;exact hb))
       (fun H' ρ' hh hs hρ hρd=>by
        (have hlen:(xs.take n.toNat).length=n.toNat:=by simp only[Of];omega);refine⟨cells.take (n.toNat*t.w),ju (fun c x h=>t.rep_length h) _ (aS hh hs hr),?_,?_⟩
        ·simp only[Of,hcl,hlen];have:n.toNat*t.w<=xs.length*t.w:=Oc _ (by omega);omega
        ·(rw[hρd,hlen];rcases hor with⟨rfl,hx0,hc0⟩|⟨g,rfl,hM,h5,h6,cur,hh',h7,h8⟩);·subst hx0;subst hc0;(have:n.toNat=0:=by simp at hC2;omega);rw[this];exact .inl ⟨rfl,rfl⟩
         ·refine .inr ⟨g,c,cur,rfl,hM,hh',by omega,h6,h7,?_⟩;have:n.toNat*t.w<=xs.length*t.w:=Oc _ (by omega);rw[<- h8,TC,Pq this])
       (fun hB hF=>absurd hidB (by simp only[Tab.mayMove,hF,RC,decide_eq_true_eq];omega))
      have q3:=q2.put (d:=d) (by rw[h.size];exact Tab.ok_lt hdN) (v:= .l (.ownS id)) (val:= .slice p n.toNat c) ⟨q1.symm,_,_,_,rfl⟩;exact h.next hdN (KeepsOthers.refl _) h.below q3
     ·cases he
    ·cases he
   ·rename_i t E xs hi mx hg;split at he
    ·rename_i k n0 k2 m0 hl hl2;obtain⟨n,rfl⟩:∃n':Int,n'=n0:=⟨n0,rfl⟩;obtain⟨m,rfl⟩:∃m':Int,m'=m0:=⟨m0,rfl⟩;split at he
     ·rename_i e0;obtain⟨e0,hidB⟩:=e0;subst e0;cases he;have hC1:0<=n:=hC.2.1;have hC3:n<=m:=hC.2.2.1;have hC4:m<=(xs.length:Int):=hC.2.2.2;(have hC2:n<=(xs.length:Int):=by omega);obtain⟨hm,cells,hr,hcl,hor⟩:=fc hf.own hg hv2;subst hm;have hlv:=bm (ax hf hl);have hlv2:=bm (ax hf hl2);have hcc:m<=(c:Int):=by
       (rcases hor with⟨_,hx0,hc0⟩|⟨g,_,_,h5,_⟩;·subst hx0;simp at hC4;omega);·omega
      have hb:=fun c=>cU (P:=X.P) (w:=w) (k:=k) (n:=n) (m:=m.toNat) (c:=c) hC1 (by omega);have hb2:=fun c1=>cU (P:=X.P) (w:=w) (k:=k2) (n:=m) (m:=c) (c:=c1) (by omega) hcc;have hrun:(Instr.sliceAt ty (a.eval x) ((none:Option Operand).map a.eval) ((some hi).map a.eval) ((some mx).map a.eval)).run X.P w= .ok (.slice p n.toNat m.toNat) w:=by
       rw[hv,hv2];have e1:p.map (fun b:Addr=>b.add (0*t.w))=p:=by
        cases p<;>simp[Addr.add]
       simp[Instr.sliceAt,run_underlying hu,Instr.slice,Instr.sliceBounds,hlv,hlv2,hb,hb2,sizeOf,typeInfo,h2];intro _;simpa using e1
      refine a6 (hexec hrun) (hK _ _ ?_);rw[hd];obtain⟨ρ',q1,q2⟩:=hf.renew (w':=w) hg (f:=LV.kill id) (val:= .slice p n.toNat m.toNat) (obj':= .arr t E (xs.take n.toNat))
       (fun H' ρ' hh hs hρ _ x v hx=>aZ hh hs hρ hx) (fun k hk _=>rfl)
       (fun b hb=> .inl (by
        rw[hv2];cases p<;>simp[Blk] at hb ⊢;exact hb))
       (fun H' ρ' hh hs hρ hρd=>by
        (have hlen:(xs.take n.toNat).length=n.toNat:=by simp only[Of];omega);refine⟨cells.take (n.toNat*t.w),ju (fun c x h=>t.rep_length h) _ (aS hh hs hr),?_,?_⟩
        ·simp only[Of,hcl,hlen];have:n.toNat*t.w<=xs.length*t.w:=Oc _ (by omega);omega
        ·(rw[hρd,hlen];rcases hor with⟨rfl,hx0,hc0⟩|⟨g,rfl,hM,h5,h6,cur,hh',h7,h8⟩);·subst hx0;subst hc0;(have:n.toNat=0:=by simp at hC2;omega);(have h9:m.toNat=0:=by simp at hC4;omega);rw[this,h9];exact .inl ⟨rfl,rfl⟩
         ·refine .inr ⟨g,m.toNat,cur,rfl,hM,hh',by omega,by omega,Og (Oc _ (by omega)) h7,?_⟩;have:n.toNat*t.w<=xs.length*t.w:=Oc _ (by omega);rw[<- h8,TC,Pq this])
       (fun hB hF=>absurd hidB (by simp only[Tab.mayMove,hF,RC,decide_eq_true_eq];omega))
      have q3:=q2.put (d:=d) (by rw[h.size];exact Tab.ok_lt hdN) (v:= .l (.ownS id)) (val:= .slice p n.toNat m.toNat) ⟨q1.symm,_,_,_,rfl⟩;exact h.next hdN (KeepsOthers.refl _) h.below q3
     ·cases he
    ·cases he
   ·cases he
  ·(split at he;·rename_i C' v' hp;cases he;have hf':=hf.frozenAt h.others x;obtain⟨r,h1,h2⟩:=tZ hT hf' hp hC;refine a6 (hexec h1) (hK _ _ ?_);rw[hd];have q3:=hf'.put (d:=d) (by rw[h.size];exact Tab.ok_lt hdN) h2;exact h.next hdN (KeepsOthers.refl _) h.below q3);·cases he
 ·cases he
theorem tH{X:Cx}(hT:cT X.P X.T){s s':aa}{a:Act}{w:World}(h:St X s a w){o:Oper}{d:Nat}{src dst:TypeId}{x:Operand}(hop:o.op= .convert src dst x)(hd:o.dst=some d)(hdN:X.T.ok d=true){C:Prop}(he:effOp X.T s (some d) (.convert src dst x)=some (C,s'))(hC:C)
  {K:Act->World->Prop} {Q:Exit->Act->World->Prop} (hK:∀a' w',St X s' a' w'->K a' w'):o.wpIn (fw X.r) 2 X.P a w K Q:=by
 obtain⟨ρ,hf⟩:=h.fits;simp only[effOp] at he;split at he;case h_2=>cases he
 rename_i d' l hd' hx hs hdt;cases hd';split at he;case isFalse=>cases he
 rename_i hu8;cases he;obtain⟨E,hu2,hE⟩:=KD hT hu8;obtain⟨_,d1,-,hu1,-,-,-,e1⟩:=hT.types _ _ hs;have e1:d1=_:=e1;subst e1;have hv:=gA (ax hf hx);obtain⟨cap,hcap⟩:∃c,c=grownCap w l.length 0 E:=⟨_,rfl⟩;have hc1:l.length<=cap:=by rw[hcap];exact grownCap_ge _ _ _ _
 have hc2:cap<=maxLen:=by rw[hcap];exact grownCap_le_maxLen _ _ _ _ (by unfold maxLen;omega)
 obtain⟨row,hrow⟩:∃r,r=bytesRow ⟨l.toArray⟩ cap:=⟨_,rfl⟩;have hrun:(execOp a.eval o).run X.P w= .ok (.value (.slice (some ⟨w.heap.size,0,none⟩) l.length cap)) (w.drew.alloc (.cells row E (row.size,row.size+1))):=by
  unfold execOp;rw[hop];dsimp only;rw[hv];have:=run_bytes_of_string (P:=X.P) w src dst E ⟨l.toArray⟩ hu1 hu2 hE;have e:(⟨l.toArray⟩:ByteArray).size=l.length:=by simp[ByteArray.size]
  rw[e,<- hcap,<- hrow] at this;exact bl this
 have hkeep:∀k,k<w.heap.size->(w.drew.alloc (.cells row E (row.size,row.size+1))).heap[k]? =w.heap[k]? :=fun k hk=>b4 w.drew _ k hk;have hH:¬hot X.O ρ s.own w.heap.size:=fun hh=>Rc _ (hf.hot_lt h.others h.below hh);have hf2:=hf.keep hkeep;have hrep:aJ (hot X.O ρ s.own) (w.drew.alloc (.cells row E (row.size,row.size+1))) ρ (.z (.slice (.int .u8)) (bytesOf l)) (.slice (some ⟨w.heap.size,0,none⟩) l.length cap):=by
  refine⟨rfl,.inr ⟨w.heap.size,0,none,cap,(bytesOf l).map (Value.int .u8),?_,fun _=>rfl,by simpa [bytesOf] using hc1,hc2,?_,fun _=>hH,fun j hj=>?_⟩⟩;·simp[Value.cells,bytesOf]
  ·have:∀xs:List Int,cC (fun c (y:Int)=>(Ty.int .u8).rep (hot X.O ρ s.own) (w.drew.alloc (.cells row E (row.size,row.size+1))) c y) (xs.map (Value.int .u8)) xs:=by
    intro xs;induction xs with
    |nil=>rfl
    |cons x xs ih=>exact⟨[.int .u8 x],xs.map (Value.int .u8),rfl,rfl,ih⟩
   exact this _
  ·(have hj':j<l.length:=by simpa [bytesOf] using hj);rw[Oz,cell_of_row _ _ j row E (row.size,row.size+1) (by exact heap_alloc_new w.drew _)];rw[hrow];simp[bytesRow,bytesOf,Array.getElem?_append,hj']
 refine a6 hrun (hK _ _ ?_);rw[hd];exact h.next hdN (KeepsOthers.trans (B:=w.drew) ⟨Oa _,fun _ _ h _=>h⟩ (KeepsOthers.alloc w.drew _)) ((h.below.drew).alloc _) (hf2.put (d:=d) (by rw[h.size];exact Tab.ok_lt hdN) hrep)
end Go.Cm
end