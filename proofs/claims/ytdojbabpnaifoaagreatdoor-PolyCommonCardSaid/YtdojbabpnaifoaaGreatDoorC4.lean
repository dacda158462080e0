/- Merged by a program out of several texts. -/
import Derived.Test.YtdojbabpnaifoaaGreatDoorC3
import Derived.Test.YtdojbabpnaifoaaGreatDoorC2
import Derived.Laws.CopyOwn
import Derived.Deep.RegionLaw
import Derived.Shelf.Strings.Builder2
import Derived.Shelf.Small.Wraps
import Derived.Shelf.Strings.BuilderK
import Derived.Shelf.Strings.Builder2Cap
import Derived.Shelf.Strconv.Atoi
import Derived.Shelf.Strconv.Itoa3
import Derived.Shelf.Strconv.AtoiErrFast
import Derived.Shelf.Strconv.ParseIntEmpty
import Derived.Shelf.Strconv.AtoiFail
import Derived.Shelf.Strconv.Clone
import Derived.Shelf.Strconv.SyntaxError
import Derived.Shelf.Strconv.Lower
import Derived.Shelf.Strconv.ParseUint10
import Derived.Shelf.Strconv.ParseUint10Empty
import Derived.Shelf.Strconv.RangeError
import Derived.Shelf.Strconv.ParseUintEmpty
import Derived.Shelf.Strconv.ParseUint10b64
import Derived.Shelf.Strconv.ParseUint10b32
import Derived.Shelf.Strconv.ParseUint10b16
import Derived.Shelf.Strconv.ParseUint10b8
import Derived.Shelf.Strings.Search1
import Derived.Shelf.Strings.Search2
import Derived.Shelf.Strings.Cut
import Derived.Shelf.Strings.Shaped
import Derived.Shelf.Bits.Mul64
import Derived.Shelf.Strings.Repeat
import Derived.Test.YtdojbabpnaifoaaGreatDoorProg
import Derived.WalkKit
import Derived.BigQuiet
import Derived.Shelf.Abstract
import Derived.RangeFuncBox
import Derived.OwnWalkIn
import Derived.TacticsInMore
import Derived.LoopNIn
import Derived.LoopIn
set_option linter.all false
set_option linter.unusedSimpArgs false
set_option linter.unusedVariables false
set_option maxRecDepth 100000
section
namespace Go.Cm
open Go.Proofs
def da:Nat->List Rat->List Rat->List Rat
 |0,p,_=>cx p
 |n+1,p,q=>if q= [] then cx p else da n q (cx (divN p q).2)
def bw(p q:List Rat):List Rat:=da (q.length+1) p q
def Trm(l:List Rat):Prop:=l≠ []->aG l≠0
def tK:Nat->List Rat->List Rat->Prop
 |0,_,_=>True
 |n+1,p,q=>if q= [] then ∀ x∈p,lq x<=QH else tJ q (p.length+1) p/\(∀ x∈q,lq x<=QD)/\(∀ x∈(divN p q).2,lq x<=QH)/\tK n q (cx (divN p q).2)
theorem jA:∀ l:List Rat,Trm (aS l)
 | []=>fun h=>absurd rfl h
 |x::l=>by
  intro h
  have ih:=jA l
  simp only[aS] at h ⊢
  split
  ·rename_i hl
   rw[hl] at h
   split
   ·rename_i hx;simp only[hx,if_true,ne_eq,not_true] at h
   ·rename_i hx;simpa [aG] using hx
  ·rename_i y m hl
   rw[hl] at ih
   have:=ih (by simp)
   simpa [aG] using this
theorem tL(q:List Rat):∀ (n:Nat) (r s:List Rat),Trm r->Trm (eS q n r s).2
 |0,r,s,h=>h
 |n+1,r,s,h=>by
  rw[eS]
  split
  ·exact tL q n _ _ (jA _)
  ·exact h
theorem eQ{p q:List Rat}(h:Trm p):Trm (divN p q).2:=tL _ _ _ _ h
theorem pD{q:List Rat}(hq:0<q.length)(h0:aG q≠0):∀ (n:Nat) (r s:List Rat),r.length<n->(eS q n r s).2.length<q.length
 |0,r,s,h=>absurd h (by omega)
 |n+1,r,s,h=>by
  rw[eS]
  split
  ·rename_i hl
   have:=fg hq hl h0
   exact pD hq h0 n _ _ (by omega)
  ·rename_i hl;simp only;omega
theorem dK{p q:List Rat}(hq:0<q.length)(h0:aG q≠0):(divN p q).2.length<q.length:=pD hq h0 _ _ _ (Nat.lt_succ_self _)
theorem b7(l:List Rat):(cx l).length=l.length:=by simp[cx]
theorem j7{l:List Rat}(h:0<l.length):aG (cx l)=aG l/aG l:=by
 rw[bR (by rw[b7];exact h),b7]
 conv=>rhs;arg 1;rw[bR h]
 unfold cx cf
 simp only[List.getD_eq_getElem?_getD,List.getElem?_map]
 rw[List.getElem?_eq_getElem (by omega)]
 rfl
theorem dW{l:List Rat}(h:Trm l):Trm (cx l):=by
 intro hne
 have hl:0<l.length:=by rw[<- b7];exact List.length_pos_iff.2 hne
 have h1:=h (List.length_pos_iff.1 hl)
 rw[j7 hl]
 grind
structure fX (p q:List ND):Prop where
 hp:∀ x∈p,NOK x
 hq:∀ x∈q,NOK x
 l1:p.length<=900
 l2:q.length<=900
 tp:Trm (an p)
 tq:Trm (an q)
 safe:tK (q.length+1) (an p) (an q)
structure tM (p q:List ND) (n:Nat) (a b:List Rat):Prop where
 eq:da n a b=bw (an p) (an q)
 fuel:b.length<n
 safe:tK n a b
 ta:Trm a
 tb:Trm b
 la:a.length<=900
 lb:b.length<=900
theorem xn{p:List ND}(h:∀ x∈p,NOK x):aI (an p)=p:=by
 simp only[an,aI,List.map_map]
 conv=>rhs;rw[<- List.map_id p]
 exact List.map_congr_left fun x hx=>h x hx
theorem G7{p q:List ND}(h:fX p q):tM p q (q.length+1) (an p) (an q):=by
 refine⟨?_,by rw[aL];omega,h.safe,h.tp,h.tq,by rw[aL];exact h.l1,by rw[aL];exact h.l2⟩
 unfold bw
 rw[aL]
theorem fS(l:List Rat):∀ x∈aI l,NOK x:=by
 intro x hx
 obtain⟨y,_,rfl⟩:=List.mem_map.1 hx
 exact bZ y
theorem Kj{p q:List ND}{n:Nat}{a b:List Rat}(h:tM p q n a b)(hb:0<b.length):
  fo (aI a) (aI b)/\oh (aI (divN a b).2)/\(∃ m,tM p q m b (cx (divN a b).2))/\(cx (divN a b).2).length<b.length:=by
 have hbn:=List.length_pos_iff.1 hb
 have h1:=h.safe;have h2:=h.eq;have h3:=h.fuel
 have hl:=h.tb hbn
 have hs:=dK (p:=a) hb hl
 match n,h1,h2,h3 with
 |n+1,h1,h2,h3=>
  rw[tK,if_neg hbn] at h1
  rw[da,if_neg hbn] at h2
  obtain⟨s1,s2,s3,s4⟩:=h1
  have hlb:=h.lb
  refine⟨⟨fS _,ff s2,by rw[aA];exact h.la,by rw[aA];exact h.lb,by rw[aA];exact hb,by rw[aH];exact hl,by rw[aH,aH,aA];exact s1⟩,
   ⟨ff s3,by rw[aA];omega,fun hne=> ?_⟩,⟨n,h2,by rw[b7];omega,s4,h.tb,dW (eQ h.ta),h.lb,by rw[b7];omega⟩,by rw[b7];exact hs⟩
  rw[aH]
  exact eQ h.ta (fun e=>hne (by rw[e];rfl))
theorem MP{p q:List ND}{n:Nat}{a b:List Rat}(h:tM p q n a b)(hb: ¬0<b.length):oh (aI a)/\cx a=bw (an p) (an q):=by
 have hbn:b= []:=List.eq_nil_of_length_eq_zero (by omega)
 have h1:=h.safe;have h2:=h.eq;have h3:=h.fuel
 match n,h1,h2,h3 with
 |n+1,h1,h2,h3=>
  rw[tK,if_pos hbn] at h1
  rw[da,if_pos hbn] at h2
  have hla:=h.la
  refine⟨⟨ff h1,by rw[aA];omega,fun hne=> ?_⟩,h2⟩
  rw[aH]
  exact h.ta (fun e=>hne (by rw[e];rfl))
def cw(l:List Rat):List Rat:=if l= [] then [] else cx (divN l (bw l (cy l))).1
def me(p:List ND):Prop:=p≠ []->Sz QH p/\p.length<=900/\fX p (aI (cy (an p)))/\fo p (aI (bw (an p) (cy (an p))))/\oh (aI (divN (an p) (bw (an p) (cy (an p)))).1)
end Go.Cm
end
section
namespace Go.Cm
open Go Go.RowKit
theorem uK{P:Program}(w:World)(dT sT ty elem:TypeId)(g o dLen dCap:Nat)(a:Addr)(sLen sCap:Nat)(cur:Array Value)(t:TypeId)(cs:List Value)(size n:Nat)
  (hu:P.underlying dT=some (.slice elem)) (hs:(P.info? elem).map (·.size)=some size)
  (hg:w.heap[g]? =some (.cells cur t (0,0))) (hn:n=Nat.min sLen dLen) (hl0:cs.length=n*size)
  (hsrc:∀ j v,cs[j]? =some v->w.cell? (a.add j)=some v) (hfit:o+cs.length<=cur.size) (h1:∀ v∈cs,v.oneCell'=true):
  (Builtin.copy_ #[dT,sT] ty #[.slice (some ⟨g,o,none⟩) dLen dCap, .slice (some a) sLen sCap]).run P w=
   .ok (goInt n) (w.setRow g (cur.toList.take o++cs++cur.toList.drop (o+cs.length)).toArray):=by
 have hl:=run_loadCells_list (P:=P) w a cs hsrc
 rw[hl0] at hl
 have hst:=run_storeCells_at P g o t cs 0 cur w hg (by simpa using hfit) h1
 cases hq:P.info? elem with
 |none=>simp[hq] at hs
 |some i=>
  have hi:i.size=size:=by simpa [hq] using hs
  simp[Builtin.copy_,run_underlying hu,Builtin.lenOf,Builtin.firstCells,sizeOf,typeInfo,hq,hi,<- hn,hl,hst]
theorem tO{P:Program}(w:World)(dT sT ty elem:TypeId)(d a:Option Addr)(dLen dCap sLen sCap:Nat)(size:Nat)(hu:P.underlying dT=some (.slice elem))(hs:(P.info? elem).map (·.size)=some size)(hn:Nat.min sLen dLen=0):
  (Builtin.copy_ #[dT,sT] ty #[.slice d dLen dCap, .slice a sLen sCap]).run P w= .ok (goInt 0) w:=by
 cases hq:P.info? elem with
 |none=>simp[hq] at hs
 |some i=>
  have hl:∀ (x:Addr),(loadCells x 0).run P w= .ok #[] w:=fun x=>by simpa using run_loadCells_list (P:=P) w x [] (by simp)
  cases d<;>cases a<;>simp[Builtin.copy_,run_underlying hu,Builtin.lenOf,Builtin.firstCells,sizeOf,typeInfo,hq,hn,storeCells,hl]
theorem vx{P:Program}{w:World}(dT sT ty elem:TypeId)(size:Nat)(hu:P.underlying dT=some (.slice elem))(hsz:(P.info? elem).map (·.size)=some size)
  (dp sp:Option Addr) (dLen dCap sLen sCap n:Nat) (g off:Nat) (cur:List Value) (t:TypeId) (hg:w.heap[g]? =some (.cells cur.toArray t (0,0))) (cs:List Value) (hn:n=Nat.min sLen dLen) (hl:cs.length=n*size)
  (hpos:0<n->dp=some ⟨g,off,none⟩/\∃ ad,sp=some ad/\∀ j v,cs[j]? =some v->w.cell? (ad.add j)=some v)
  (hfit:off+cs.length<=cur.length) (h1:∀ v∈cs,v.oneCell'=true) (B:Nat) (w0:World) (hb:Below B w0 w) (hBg:B<=g):
  ∃ w',(Builtin.copy_ #[dT,sT] ty #[.slice dp dLen dCap, .slice sp sLen sCap]).run P w= .ok (goInt n) w'/\w'.heap[g]? =some (.cells (splice cur off cs).toArray t (0,0))/\Below B w0 w':=by
 by_cases h0:n=0
 ·subst h0
  obtain rfl:cs= []:=List.eq_nil_of_length_eq_zero (by simpa using hl)
  exact⟨w,tO w dT sT ty elem dp sp dLen dCap sLen sCap size hu hsz hn.symm,by simpa [splice] using hg,hb⟩
 ·obtain⟨rfl,ad,rfl,hsrc⟩:=hpos (by omega)
  refine⟨_,uK w dT sT ty elem g off dLen dCap ad sLen sCap cur.toArray t cs size n hu hsz hg hn hl hsrc (by simpa using hfit) h1,?_,below_setRow hb hBg _⟩
  simpa [splice] using setRow_heap w g _ _ t _ hg
theorem xo{P:Program}{w:World}{ops:Array Oper}{rest:List Oper}{o:Oper}{a:Act}{Q:Exit->Act->World->Prop}(hgd:o.guard=none)(d s:Operand)(dT sT:TypeId)
  (ho:o.op= .call {callee:= .builtin .copy,args:= #[d,s],argTypes:= #[dT,sT]}) (elem:TypeId) (size:Nat) (hu:P.underlying dT=some (.slice elem)) (hsz:(P.info? elem).map (·.size)=some size)
  (dp sp:Option Addr) (dLen dCap sLen sCap n:Nat) (hd:a.eval d= .slice dp dLen dCap) (hs:a.eval s= .slice sp sLen sCap)
  (g off:Nat) (cur:List Value) (t:TypeId) (hg:w.heap[g]? =some (.cells cur.toArray t (0,0))) (cs:List Value) (hn:n=Nat.min sLen dLen) (hl:cs.length=n*size)
  (hpos:0<n->dp=some ⟨g,off,none⟩/\∃ ad,sp=some ad/\∀ j v,cs[j]? =some v->w.cell? (ad.add j)=some v)
  (hfit:off+cs.length<=cur.length) (h1:∀ v∈cs,v.oneCell'=true) (B:Nat) (w0:World) (hb:Below B w0 w) (hBg:B<=g)
  (h:∀ w',Hid (w'.heap[g]? =some (.cells (splice cur off cs).toArray t (0,0)))->Below B w0 w'->wpList P ops Q rest (a.put o.dst (goInt n)) w'):
  wpList P ops Q (o::rest) a w:=by
 refine wpList_plain hgd fun K hK=> ?_
 obtain⟨w',hrun,hg',hb'⟩:=vx dT sT o.type elem size hu hsz dp sp dLen dCap sLen sCap n g off cur t hg cs hn hl hpos hfit h1 B w0 hb hBg
 unfold Oper.wp
 simp[execOp,ho,resolve,invoke,builtin,hd,hs,hrun,Result.andThen]
 exact hK _ _ (h w' hg' hb')
theorem CX{P:Program}{ops:Array Oper}{o:Oper}{a:Act}{w:World}{K:Act->World->Prop}{Q:Exit->Act->World->Prop}{E:Prop}(hgd:o.guard=none)(d s:Operand)(dT sT:TypeId)
  (ho:o.op= .call {callee:= .builtin .copy,args:= #[d,s],argTypes:= #[dT,sT]}) (elem:TypeId) (size:Nat) (hu:P.underlying dT=some (.slice elem)) (hsz:(P.info? elem).map (·.size)=some size)
  (dp sp:Option Addr) (dLen dCap sLen sCap n:Nat) (hd:a.eval d= .slice dp dLen dCap) (hs:a.eval s= .slice sp sLen sCap)
  (g off:Nat) (cur:List Value) (t:TypeId) (hg:w.heap[g]? =some (.cells cur.toArray t (0,0))) (cs:List Value) (hn:n=Nat.min sLen dLen) (hl:cs.length=n*size)
  (hpos:0<n->dp=some ⟨g,off,none⟩/\∃ ad,sp=some ad/\∀ j v,cs[j]? =some v->w.cell? (ad.add j)=some v)
  (hfit:off+cs.length<=cur.length) (h1:∀ v∈cs,v.oneCell'=true) (B:Nat) (w0:World) (hb:RowKit.Below B w0 w) (hBg:B<=g)
  (h:∀ w',RowKit.Hid (w'.heap[g]? =some (.cells (splice cur off cs).toArray t (0,0)))->RowKit.Below B w0 w'->K (a.put o.dst (goInt n)) w'):
  if Region.wanted o (yielded ops a.tmps)=true then Oper.wp P o a w K Q else E:=by
 have hw:Region.wanted o (yielded ops a.tmps)=true:=by simp[Region.wanted,hgd]
 rw[if_pos hw]
 obtain⟨w',hrun,hg',hb'⟩:=vx dT sT o.type elem size hu hsz dp sp dLen dCap sLen sCap n g off cur t hg cs hn hl hpos hfit h1 B w0 hb hBg
 unfold Oper.wp
 simp[execOp,ho,resolve,invoke,builtin,hd,hs,hrun,Result.andThen]
 exact h w' hg' hb'
def cI(n:Nat)(l:List Value):List Value:=(List.replicate n l).flatten
theorem eI(n:Nat)(l:List Value):(cI n l).length=n*l.length:=by simp[cI]
theorem tP(m n:Nat)(l:List Value):cI (m+n) l=cI m l++cI n l:=by simp only[cI,<- List.flatten_append,List.replicate_append_replicate]
theorem zF{n:Nat}{l:List Value}{v:Value}(h:v∈cI n l):v∈l:=by
 obtain⟨x,hx,hv⟩:=List.mem_flatten.1 h
 rw[(List.mem_replicate.1 hx).2] at hv;exact hv
theorem pE{A B:List Value}(hAB:A.length=B.length){n k m:Nat}(hm:m<=n-k):splice (cI k A++cI (n-k) B) (k*A.length) (cI m A)=cI (k+m) A++cI (n-(k+m)) B:=by
 have hl:(cI k A).length=k*A.length:=eI _ _
 have e1:(cI k A++cI (n-k) B).take (k*A.length)=cI k A:=by rw[<- hl,List.take_left]
 have e2:(cI k A++cI (n-k) B).drop (k*A.length+(cI m A).length)=cI (n-(k+m)) B:=by
  rw[<- List.drop_drop,<- hl,List.drop_left,eI,show n-k=m+(n-(k+m)) by omega,tP,hAB,<- eI m B,List.drop_left]
 simp only[splice,e1,e2]
 rw[<- List.append_assoc,<- tP]
end Go.Cm
end
section
namespace Go.Proofs
open Go.Shelf
def Tryz.laysB172_ren:Go.Shelf.Ren:=⟨fun|172=>182|244=>196|245=>188|247=>209|279=>204|280=>205|281=>206|282=>207|287=>187|316=>216|171=>166|205=>217|321=>202|322=>203|243=>184|246=>197|283=>210|284=>211|285=>212|286=>213|129=>219|317=>218|318=>220|319=>221|320=>222|337=>223|338=>224|n=>n,fun|9=>9|3=>3|75=>131|76=>132|4=>4|5=>5|167=>216|37=>47|0=>0|85=>222|2=>2|168=>218|53=>164|175=>191|46=>122|210=>231|127=>167|145=>239|143=>237|21=>21|171=>224|173=>227|212=>234|51=>161|20=>20|213=>235|232=>241|233=>242|80=>135|n=>n,fun|15=>1|16=>2|17=>3|18=>4|19=>5|n=>n⟩
theorem Tryz.laysB172:Go.Proofs.Lays.n172 Tryz.prog Tryz.laysB172_ren:={
 mixed:=by kernel_rfl
 f129:=Tryz.func219.trans (congrArg some (by kernel_rfl))
 f171:=Tryz.func166.trans (congrArg some (by kernel_rfl))
 f172:=Tryz.func182.trans (congrArg some (by kernel_rfl))
 f205:=Tryz.func217.trans (congrArg some (by kernel_rfl))
 f243:=Tryz.func184.trans (congrArg some (by kernel_rfl))
 f244:=Tryz.func196.trans (congrArg some (by kernel_rfl))
 f245:=Tryz.func188.trans (congrArg some (by kernel_rfl))
 f246:=Tryz.func197.trans (congrArg some (by kernel_rfl))
 f247:=Tryz.func209.trans (congrArg some (by kernel_rfl))
 f279:=Tryz.func204.trans (congrArg some (by kernel_rfl))
 f280:=Tryz.func205.trans (congrArg some (by kernel_rfl))
 f281:=Tryz.func206.trans (congrArg some (by kernel_rfl))
 f282:=Tryz.func207.trans (congrArg some (by kernel_rfl))
 f283:=Tryz.func210.trans (congrArg some (by kernel_rfl))
 f284:=Tryz.func211.trans (congrArg some (by kernel_rfl))
 f285:=Tryz.func212.trans (congrArg some (by kernel_rfl))
 f286:=Tryz.func213.trans (congrArg some (by kernel_rfl))
 f287:=Tryz.func187.trans (congrArg some (by kernel_rfl))
 f316:=Tryz.func216.trans (congrArg some (by kernel_rfl))
 f317:=Tryz.func218.trans (congrArg some (by kernel_rfl))
 f318:=Tryz.func220.trans (congrArg some (by kernel_rfl))
 f319:=Tryz.func221.trans (congrArg some (by kernel_rfl))
 f320:=Tryz.func222.trans (congrArg some (by kernel_rfl))
 f321:=Tryz.func202.trans (congrArg some (by kernel_rfl))
 f322:=Tryz.func203.trans (congrArg some (by kernel_rfl))
 f337:=Tryz.func223.trans (congrArg some (by kernel_rfl))
 f338:=Tryz.func224.trans (congrArg some (by kernel_rfl))
 t0:=Tryz.underlying0
 a0:=Tryz.isAgg0
 z0:=Tryz.sizeOf0
 v0:=Tryz.zeroValue0
 t2:=Tryz.underlying2
 a2:=Tryz.isAgg2
 z2:=Tryz.sizeOf2
 v2:=Tryz.zeroValue2
 t3:=Tryz.underlying3
 a3:=Tryz.isAgg3
 z3:=Tryz.sizeOf3
 v3:=Tryz.zeroValue3
 t4:=Tryz.underlying4
 a4:=Tryz.isAgg4
 z4:=Tryz.sizeOf4
 v4:=Tryz.zeroValue4
 t5:=Tryz.underlying5
 a5:=Tryz.isAgg5
 z5:=Tryz.sizeOf5
 v5:=Tryz.zeroValue5
 t9:=Tryz.underlying9
 a9:=Tryz.isAgg9
 z9:=Tryz.sizeOf9
 v9:=Tryz.zeroValue9
 t20:=Tryz.underlying20
 a20:=Tryz.isAgg20
 z20:=Tryz.sizeOf20
 v20:=Tryz.zeroValue20
 t21:=Tryz.underlying21
 a21:=Tryz.isAgg21
 z21:=Tryz.sizeOf21
 v21:=Tryz.zeroValue21
 t37:=Tryz.underlying47
 a37:=Tryz.isAgg47
 z37:=Tryz.sizeOf47
 v37:=Tryz.zeroValue47
 t46:=Tryz.underlying122
 a46:=Tryz.isAgg122
 z46:=Tryz.sizeOf122
 v46:=Tryz.zeroValue122
 t51:=Tryz.underlying161
 a51:=Tryz.isAgg161
 z51:=Tryz.sizeOf161
 v51:=Tryz.zeroValue161
 t53:=Tryz.underlying164
 a53:=Tryz.isAgg164
 z53:=Tryz.sizeOf164
 v53:=Tryz.zeroValue164
 t75:=Tryz.underlying131
 a75:=Tryz.isAgg131
 z75:=Tryz.sizeOf131
 v75:=Tryz.zeroValue131
 t76:=Tryz.underlying132
 a76:=Tryz.isAgg132
 z76:=Tryz.sizeOf132
 v76:=Tryz.zeroValue132
 t85:=Tryz.underlying222
 a85:=Tryz.isAgg222
 z85:=Tryz.sizeOf222
 v85:=Tryz.zeroValue222
 t127:=Tryz.underlying167
 a127:=Tryz.isAgg167
 z127:=Tryz.sizeOf167
 v127:=Tryz.zeroValue167
 t143:=Tryz.underlying237
 a143:=Tryz.isAgg237
 z143:=Tryz.sizeOf237
 v143:=Tryz.zeroValue237
 t145:=Tryz.underlying239
 a145:=Tryz.isAgg239
 z145:=Tryz.sizeOf239
 v145:=Tryz.zeroValue239
 t167:=Tryz.underlying216
 a167:=Tryz.isAgg216
 z167:=Tryz.sizeOf216
 v167:=Tryz.zeroValue216
 t168:=Tryz.underlying218
 a168:=Tryz.isAgg218
 z168:=Tryz.sizeOf218
 v168:=Tryz.zeroValue218
 t171:=Tryz.underlying224
 a171:=Tryz.isAgg224
 z171:=Tryz.sizeOf224
 v171:=Tryz.zeroValue224
 t173:=Tryz.underlying227
 a173:=Tryz.isAgg227
 z173:=Tryz.sizeOf227
 v173:=Tryz.zeroValue227
 t175:=Tryz.underlying191
 a175:=Tryz.isAgg191
 z175:=Tryz.sizeOf191
 v175:=Tryz.zeroValue191
 t210:=Tryz.underlying231
 a210:=Tryz.isAgg231
 z210:=Tryz.sizeOf231
 v210:=Tryz.zeroValue231
 t212:=Tryz.underlying234
 a212:=Tryz.isAgg234
 z212:=Tryz.sizeOf234
 v212:=Tryz.zeroValue234
 t213:=Tryz.underlying235
 a213:=Tryz.isAgg235
 z213:=Tryz.sizeOf235
 t232:=Tryz.underlying241
 a232:=Tryz.isAgg241
 z232:=Tryz.sizeOf241
 v232:=Tryz.zeroValue241
 t233:=Tryz.underlying242
 a233:=Tryz.isAgg242
 z233:=Tryz.sizeOf242
 v233:=Tryz.zeroValue242
 g15:=by kernel_rfl
 g16:=by kernel_rfl
 g17:=by kernel_rfl
 g18:=by kernel_rfl
 g19:=by kernel_rfl}
open Go.RowKit in
theorem Tryz.strconv_Atoi(s:ByteArray)(n:Int)(hl:s.size<=18)(h:Lib.atoi s.data.toList=some n)(w:World):
  Calls Tryz.prog 182 #[.string s] w fun e w'=>e= .returned (.tuple #[.int .i64 n, .nilIface])/\∃ t,w'=Lib.bytesWorld w 5 t:=Any.strconv_Atoi Tryz.laysB172 s n hl h w
def Tryz.laysB145_ren:Go.Shelf.Ren:=⟨fun|145=>131|220=>171|219=>185|217=>198|225=>199|224=>200|267=>201|266=>214|314=>215|n=>n,fun|9=>9|4=>4|59=>154|3=>3|5=>5|46=>122|146=>162|51=>161|n=>n,fun|1=>0|n=>n⟩
theorem Tryz.laysB145:Go.Proofs.Lays.n145 Tryz.prog Tryz.laysB145_ren:={
 mixed:=by kernel_rfl
 f145:=Tryz.func131.trans (congrArg some (by kernel_rfl))
 f217:=Tryz.func198.trans (congrArg some (by kernel_rfl))
 f219:=Tryz.func185.trans (congrArg some (by kernel_rfl))
 f220:=Tryz.func171.trans (congrArg some (by kernel_rfl))
 f224:=Tryz.func200.trans (congrArg some (by kernel_rfl))
 f225:=Tryz.func199.trans (congrArg some (by kernel_rfl))
 f266:=Tryz.func214.trans (congrArg some (by kernel_rfl))
 f267:=Tryz.func201.trans (congrArg some (by kernel_rfl))
 f314:=Tryz.func215.trans (congrArg some (by kernel_rfl))
 t3:=Tryz.underlying3
 a3:=Tryz.isAgg3
 z3:=Tryz.sizeOf3
 v3:=Tryz.zeroValue3
 t4:=Tryz.underlying4
 a4:=Tryz.isAgg4
 z4:=Tryz.sizeOf4
 v4:=Tryz.zeroValue4
 t5:=Tryz.underlying5
 a5:=Tryz.isAgg5
 z5:=Tryz.sizeOf5
 v5:=Tryz.zeroValue5
 t9:=Tryz.underlying9
 a9:=Tryz.isAgg9
 z9:=Tryz.sizeOf9
 v9:=Tryz.zeroValue9
 t46:=Tryz.underlying122
 a46:=Tryz.isAgg122
 z46:=Tryz.sizeOf122
 v46:=Tryz.zeroValue122
 t51:=Tryz.underlying161
 a51:=Tryz.isAgg161
 z51:=Tryz.sizeOf161
 v51:=Tryz.zeroValue161
 t59:=Tryz.underlying154
 a59:=Tryz.isAgg154
 z59:=Tryz.sizeOf154
 v59:=Tryz.zeroValue154
 t146:=Tryz.underlying162
 a146:=Tryz.isAgg162
 z146:=Tryz.sizeOf162
 v146:=Tryz.zeroValue162
 g1:=by kernel_rfl}
open Go.RowKit Go.Lib in
theorem Tryz.strings_Cut(s sep:ByteArray)(m:Int)(w:World)(hs:s.size<4294967281)(hm:w.cell? ⟨0,0,none⟩=some (.int .i64 m)):
  Calls Tryz.prog 131 #[.string s, .string sep] w fun e w'=>e= .returned (.tuple #[.string ⟨(Lib.cut s.data.toList sep.data.toList).1.toArray⟩, .string ⟨(Lib.cut s.data.toList sep.data.toList).2.1.toArray⟩, .bool (Lib.cut s.data.toList sep.data.toList).2.2])/\∃ n,w'=w.drewN n:=Any.strings_Cut Tryz.laysB145 s sep m w hs hm
open Go.RowKit Go.Lib in
open Go.RowKit Go.Lib in
def Tryz.laysB212_ren:Go.Shelf.Ren:=⟨fun|212=>95|263=>137|264=>138|n=>n,fun|46=>122|51=>161|146=>162|53=>164|148=>165|n=>n,fun|n=>n⟩
theorem Tryz.laysB212:Go.Proofs.Lays.n212 Tryz.prog Tryz.laysB212_ren:={
 mixed:=by kernel_rfl
 f212:=Tryz.func95.trans (congrArg some (by kernel_rfl))
 f263:=Tryz.func137.trans (congrArg some (by kernel_rfl))
 f264:=Tryz.func138.trans (congrArg some (by kernel_rfl))
 t46:=Tryz.underlying122
 a46:=Tryz.isAgg122
 z46:=Tryz.sizeOf122
 v46:=Tryz.zeroValue122
 t51:=Tryz.underlying161
 a51:=Tryz.isAgg161
 z51:=Tryz.sizeOf161
 v51:=Tryz.zeroValue161
 t53:=Tryz.underlying164
 a53:=Tryz.isAgg164
 z53:=Tryz.sizeOf164
 v53:=Tryz.zeroValue164
 t146:=Tryz.underlying162
 a146:=Tryz.isAgg162
 z146:=Tryz.sizeOf162
 v146:=Tryz.zeroValue162
 t148:=Tryz.underlying165
 a148:=Tryz.isAgg165
 z148:=Tryz.sizeOf165
 v148:=Tryz.zeroValue165}
open Go.RowKit Go.Lib in
theorem Tryz.bits_Mul(x y:Nat)(hx:x<18446744073709551616)(hy:y<18446744073709551616)(w:World):
  Calls Tryz.prog 95 #[.int .u64 x, .int .u64 y] w fun e w'=>e= .returned (.tuple #[.int .u64 ((x*y/18446744073709551616:Nat):Int), .int .u64 ((x*y%18446744073709551616:Nat):Int)])/\w'=w:=Any.bits_Mul Tryz.laysB212 x y hx hy w
end Go.Proofs
end
section
namespace Go.Proofs
open Go.RowKit Go.Cm Go.Shelf
attribute [local go_sem] Oper.semAt_some
def zc4:List Value:= [.bool false, .slice none 0 0, .bool false, .slice none 0 0]
theorem Pk(n:Nat):madeCells (Value.agg zc4.toArray).cells (n*4)=(cI n zc4).toArray:=
 gW (t:=NT) (by decide) (by decide) n
theorem u46{n:Nat}(h:n<=1000):IntKind.u64.wrap (n:Int)=(n:Int):=by
 have h1:(n:Int)<=1000:=by omega
 unfold IntKind.wrap
 have e:IntKind.u64.signed=false:=rfl
 rw[e]
 simp only[Bool.false_and,Bool.false_eq_true,if_false]
 exact Int.emod_eq_of_lt (by omega) (Int.lt_of_le_of_lt h1 (by decide))
set_option maxRecDepth 100000 in
set_option maxHeartbeats 1000000 in
theorem Kk(xs:List Value)(h4:xs.length=4)(h1:∀ u∈xs,u.oneCell'=true)(n:Nat)(hn:n<=1000)(b o c:Nat)(w:World)(hc:∀ j v,xs[j]? =some v->w.cell? ⟨b,o+j,none⟩=some v):
  Calls Tryz.prog 112 #[.slice (some ⟨b,o,none⟩) 1 c, .int .i64 n] w fun e w'=>e= .returned (.slice (some ⟨w.heap.size,0,none⟩) n n)/\w'.heap[w.heap.size]? =some (.cells (cI n xs).toArray 91 (0,0))/\Below w.heap.size w w':=by
 have t36:=Tryz.underlying79
 have a36:=Tryz.isAgg79
 have z36:=Tryz.sizeOf79
 have v36:=Tryz.zeroValue79
 have t3:=Tryz.underlying3
 have a3:=Tryz.isAgg3
 have z3:=Tryz.sizeOf3
 have v3:=Tryz.zeroValue3
 have t84:=Tryz.underlying122
 have a84:=Tryz.isAgg122
 have z84:=Tryz.sizeOf122
 have v84:=Tryz.zeroValue122
 have hmul:=fun w=>Tryz.bits_Mul 1 n (by omega) (by omega) w
 have e1:1*n/18446744073709551616=0:=by omega
 have e2:1*n%18446744073709551616=n:=by omega
 rw[e1,e2] at hmul
 have e64:∀ args w,(callFunc 95 args).run Tryz.prog w= .ok (.enter 95 args) w:=enters_of Tryz.func95 (by kernel_rfl) rfl
 have w1:IntKind.u64.wrap (n:Int)=(n:Int):=u46 hn
 have w2:IntKind.i64.wrap (n:Int)=(n:Int):=wi (by omega) (by omega)
 have c1: ¬ (n:Int)<0:=by omega
 have c2: ¬ (9223372036854775807:Int)<(n:Int):=by omega
 obtain⟨i0,hi,hz0,hz1,hz2⟩:=info_parts (show (Tryz.prog.info? 91).map (fun i=>(i.zero,i.size,i.bytes))=some (some (.agg zc4.toArray),4,64) by kernel_rfl)
 have hs3:(Tryz.prog.info? 91).map (·.size)=some 4:=by rw[hi];simp[hz1]
 have hmk:=run_make (P:=Tryz.prog) w 79 91 i0 (.agg zc4.toArray) t36 hi hz0 .i64 .i64 (n:Int) (n:Int) (by omega) (Int.le_refl _) (by rw[hz2];omega) (by omega)
 have hmc:madeCells (Value.agg zc4.toArray).cells ((n:Int).toNat*i0.size)=(cI n zc4).toArray:=by
  rw[hz1,Int.toNat_natCast];exact Pk n
 rw[hmc,Int.toNat_natCast] at hmk
 have hg:(w.alloc (.cells (cI n zc4).toArray 91)).heap[w.heap.size]? =some (.cells (cI n zc4).toArray 91 (0,0)):=by rw[World.alloc_heap_new]
 have hb1:Below w.heap.size w (w.alloc (.cells (cI n zc4).toArray 91)):=(Below.refl _ _).alloc (Nat.le_refl _) _
 obtain⟨m0,hm0⟩:∃ m0,m0=min 1 n:=⟨_,rfl⟩
 have hm01:m0<=1/\m0<=n/\(m0=0->n=0):=by omega
 have hrl:(cI n zc4).length=n*4:=eI n zc4
 have hml:(cI m0 xs).length=m0*4:=by rw[eI,h4]
 have hsrc:∀ j u,(cI m0 xs)[j]? =some u->(w.alloc (.cells (cI n zc4).toArray 91)).cell? (Addr.add ⟨b,o,none⟩ j)=some u:=by
  intro j u hj
  have hj1:=(List.getElem?_eq_some_iff.1 hj).1
  have hm1:m0=1:=by omega
  rw[hm1,show cI 1 xs=xs by simp[cI]] at hj
  have hcj:=hc j u hj
  obtain⟨o1,ho1,_⟩:=cells_of_cell hcj
  rw[Addr.add_mid]
  exact(World.cell?_alloc_lt (a:=⟨b,o+j,none⟩) _ _ (Array.getElem?_eq_some_iff.1 ho1).1).trans hcj
 go_enter Tryz.func112,Tryz.ntmps112
 go_wp2_with (first|(go_at_fn 95;refine(hmul _).mono ?_;rintro e w' ⟨rfl,hw'⟩;rw[hw'])|refine xo rfl (.tmp 31) (.tmp 32) 79 79 rfl 91 4 t36 hs3 (some ⟨w.heap.size,0,none⟩) (some ⟨b,o,none⟩) n n 1 c m0 rfl rfl w.heap.size 0 (cI n zc4) 91 hg (cI m0 xs) (by exact hm0) hml (fun _=>⟨rfl,_,rfl,hsrc⟩) (by rw[hml,hrl];omega) (fun u hu=>h1 u (zF hu)) w.heap.size w hb1 (Nat.le_refl _) ?_;intro w4 hg4 hb4)
 go_loopw [8] (fun s wr=>∃ k:Nat,s= .int .i64 k/\(k=0->n=0)/\k<=n/\wr.heap[w.heap.size]? =some (.cells (cI k xs++cI (n-k) zc4).toArray 91 (0,0))/\Below w.heap.size w wr)
  (fun s _=>n-(intOf s).toNat)
 case atStart=>exact⟨m0,by first|rfl|rw[hm0],hm01.2.2,hm01.2.1,by
  have e:splice (cI 0 xs++cI (n-0) zc4) (0*xs.length) (cI m0 xs)=_:=pE (by rw[h4];rfl) (by omega)
  simp only[show cI 0 xs= [] by simp[cI],List.nil_append,Nat.sub_zero,Nat.zero_mul,Nat.zero_add] at e
  rw[<- e];exact hg4.out,hb4⟩
 case round=>
  obtain⟨k,rfl,hk1,hkn,hgk,hbk⟩:=hrel
  by_cases hlt:k<n
  ·have d1:(k:Int)<(n:Int):=by omega
   obtain⟨m,hm⟩:∃ m,m=Nat.min k (n-k):=⟨_,rfl⟩
   have hm2:m<=k/\m<=n-k/\(m=k∨m=n-k):=by rw[hm];show min k (n-k)<=k/\min k (n-k)<=n-k/\(min k (n-k)=k∨min k (n-k)=n-k);omega
   have hkl:(cI k xs).length=k*4:=by rw[eI,h4]
   have hzl:(cI (n-k) zc4).length=(n-k)*4:=eI _ _
   have hmm:(cI m xs).length=m*4:=by rw[eI,h4]
   have hcp:∀ j u,(cI m xs)[j]? =some u->wr.cell? (Addr.add ⟨w.heap.size,0,none⟩ j)=some u:=by
    intro j u hj
    have hj1:=(List.getElem?_eq_some_iff.1 hj).1
    have hpre:(cI k xs)[j]? =some u:=by
     rw[show k=m+(k-m) by omega,tP,List.getElem?_append_left hj1];exact hj
    rw[Addr.add_mid,Nat.zero_add]
    have hjk:j<(cI k xs).length:=by omega
    simp only[World.cell?,hgk]
    simp[List.getElem?_append_left hjk,hpre]
   have hfit:k*4+(cI m xs).length<=(cI k xs++cI (n-k) zc4).length:=by rw[List.length_append,hkl,hzl,hmm];omega
   have hnk: ¬n=k:=by omega
   go_wp2
   go_region_law (refine CX rfl (.tmp 41) (.tmp 44) 79 79 rfl 91 4 t36 hs3 (some ⟨w.heap.size,k*4,none⟩) (some ⟨w.heap.size,0,none⟩) (n-k) (n-k) k n m (by simp[Act.eval,Act.put]) (by simp[Act.eval,Act.put]) w.heap.size (k*4) _ 91 hgk (cI m xs) hm hmm (fun _=>⟨rfl,_,rfl,hcp⟩) hfit (fun u hu=>h1 u (zF hu)) w.heap.size w (show Below w.heap.size w wr.drew from⟨hbk.os,hbk.tape,hbk.output,hbk.size,hbk.block⟩) (Nat.le_refl _) ?_;intro w5 hg5 hb5)
   have hw3:IntKind.i64.wrap ((k:Int)+((k.min (n-k):Nat):Int))=((k+m:Nat):Int):=by rw[<- hm,wi (by omega) (by omega)];omega
   rw[hw3]
   simp only[Act.put,List.setIfInBounds_toArray,List.set_cons_succ,List.set_cons_zero,List.getElem_toArray,List.getElem_cons_succ,List.getElem_cons_zero]
   go_roundw
   case rel=>
    refine⟨_,_,_,_,_,_,_,_,_,_,_,_,_,_,⟨k+m,rfl,by omega,by omega,?_,hb5⟩,rfl⟩
    have e:splice (cI k xs++cI (n-k) zc4) (k*xs.length) (cI m xs)=_:=pE (by rw[h4];rfl) hm2.2.1
    rw[h4] at e
    rw[<- e];exact hg5.out
   case measure=>simp[intOf];omega
  ·have hkk:k=n:=by omega
   subst hkk
   have d1: ¬ (k:Int)<(k:Int):=by omega
   go_wp2
   go_ret
   exact⟨rfl,by simpa [cI] using hgk,hbk⟩
theorem xp{w w':World}{O:Nat->Prop}{ρ0:Nat->Value}{fr:List Nat}{t:Ty}{T:TypeId}{xs:List t.D}{v:Value}{cells:List Value}(hO:∀ b,O b->b<w.heap.size)(hb:Below w.heap.size w w')(hs:∃ a n c,v= .slice a n c)(hr:∀ H:Nat->Prop,(∀ b,b<w.heap.size->H b->O b)->cJ (fun c x=>t.rep H w' c x) cells xs)(hrow:Cm.rowAt (fun b=>w.heap.size<=b) w' T t.w v xs.length cells):
  ∃ (vs':List Value) (ρ1:Nat->Value),Ending.returned v= .returned (wS vs')/\([]:List aO).length=([]:List aO).length/\Bel (fun b=>w.heap.size<=b∨bq ρ0 [] b) w w'/\
   (∀ k,¬ (ioB<=k/\k<ioB+([]:List aO).length/\fr.contains (k-ioB)=true)->ρ1 k=ρ0 k)/\
   bC (ko (cL (hot O ρ1 (al ioB [])) [RV.own t T xs] vs') w' (fun b=>w.heap.size<=b∨bq ρ0 [] b)) [RV.own t T xs] vs'/\fc [RV.own t T xs] vs'/\
   (∀ p∈al ioB ([]:List aO),ca (cL (hot O ρ1 (al ioB [])) [RV.own t T xs] vs') w' ρ1 (fun b=>w.heap.size<=b∨bq ρ0 [] b) p)/\
   mR ρ1 (al ioB [])/\∀ b,bq ρ1 [] b-> ¬cL (fun _=>False) [RV.own t T xs] vs' b:=by
 have hnew:∀ b,Blk v b->w.heap.size<=b:=by
  intro b hbl
  obtain⟨_,⟨rfl,_⟩|⟨g,cap,cur,rfl,hg,_⟩⟩:=hrow
  ·simp[Blk] at hbl
  ·simp[Blk] at hbl;exact hbl▸hg
 refine⟨[v],ρ0,rfl,rfl,⟨hb.os,hb.tape,hb.output,hb.size,fun k hk _=>hb.block k hk⟩,fun _ _=>rfl,⟨⟨hs,cells,hr _ ?_,?_⟩,trivial⟩,⟨fun _ b _ h=>h,trivial⟩,fun p hp=>by simp[al] at hp,List.Pairwise.nil,fun b hb=>by simp[bq,al] at hb⟩
 ·rintro b hlt (⟨_,h⟩|(h|⟨p,hp,_⟩))
  ·have:=hnew b h;omega
  ·exact h
  ·simp[al] at hp
 ·obtain⟨h1,h2⟩:=hrow
  refine⟨h1,h2.imp_right ?_⟩
  rintro⟨g,cap,cur,e1,e2,e3⟩
  exact⟨g,cap,cur,e1, .inl e2,e3⟩
def fp:Con:=fun l os=>match l,os with
 | [.z (.slice (.st (.pair (.st (.pair .bool (.slice (.int .u32)))) (.st (.pair .bool (.slice (.int .u32))))))) [x], .z (.int .i64) n], []=>some (0<=n/\n<=1000, [.own (.st (.pair (.st (.pair .bool (.slice (.int .u32)))) (.st (.pair .bool (.slice (.int .u32)))))) 91 (List.replicate n.toNat x)], [])
 |_,_=>none
theorem MQ{n:Int}(h:0<=n/\n<=1000):∃ m:Nat,n=m/\m<=1000:=⟨n.toNat,by omega,by omega⟩
theorem vy{B:aj}(hB:aC B):Valid B Tryz.prog 112 fp:=by
 intro args os C rs os' hc hC O w vals ρ0 hOn hIo hO hOI hargs hown hap
 unfold fp at hc
 split at hc
 case h_2=>cases hc
 rename_i x n
 cases hc
 obtain⟨u,z,rfl,hu,hz⟩:=yT hargs
 rw[bx hz]
 obtain⟨m,rfl,h2⟩:=MQ hC
 obtain⟨cells,hr,h⟩:=ig hu
 have hl:=bH (fun c x h=>NT.rep_length h) hr
 rcases h with⟨_,h0,_⟩|⟨ad,c,rfl,hc⟩
 ·simp at h0
 have h4:cells.length=4:=hl
 obtain⟨c0,d0,rfl,hr0,hd0⟩:=hr
 obtain rfl:d0= []:=hd0
 rw[List.append_nil] at h4 hc
 obtain⟨b,o,sp⟩:=ad
 have hcell:w.cell? ⟨b,o,sp⟩=some (c0[0]'(by omega)):=by
  have:=hc 0 (c0[0]'(by omega)) (by simp)
  simpa [Addr.add] using this
 obtain rfl:sp=none:=by
  cases sp with
  |none=>rfl
  |some _=>simp only[World.cell?] at hcell;split at hcell<;>simp at hcell
 refine(Kk c0 h4 (Ty.rep_oneCell NT hr0) m h2 b o c w (fun j v hj=>by have:=hc j v hj;rwa [Addr.add_mid] at this)).mono fun e w' ⟨he,hw,hb⟩=> ?_
 subst he
 rw[Int.toNat_natCast]
 refine xp hO hb ⟨_,_,_,rfl⟩ (cells:=cI m c0) (fun H hH=>ev ?_ m) ?_
 ·exact Ty.rep_move (t:=NT) (fun b hlt hb=> .inl (hH b hlt hb)) (fun b _ hlt=>hb.block b (cV hlt)) hr0
 ·rw[List.length_replicate]
  refine⟨by rw[eI,h4];rfl, .inr ⟨_,m,_,rfl,Nat.le_refl _,hw,Nat.le_refl _,by unfold maxLen;omega,?_,?_⟩⟩
  ·simp[eI,h4];exact Nat.le_refl _
  ·rw[List.toList_toArray];exact List.take_of_length_le (by rw[eI,h4];exact Nat.le_refl _)
attribute [local go_sem] Oper.semAt_some
def zN:ND:=((false, []),(false, []))
def jB(xs:List ND)(k:Nat):List LV:= [.z (.int .i64) ((xs.length:Int)-1-k), .z NT (xs.getD (xs.length-1-k) zN)]
def bW(xs:List ND):List (List LV):=(List.range xs.length).map (jB xs)
set_option maxRecDepth 100000 in
set_option maxHeartbeats 2000000 in
theorem Kl(F:Fence)(h7:F.fn 125)(hro:F.round=none)(l Bs oB b off len cap:Nat)(cs:Nat->List Value)(h4:∀ j,j<len->(cs j).length=4)(hbig:len<=maxLen)(J:Nat->World->Prop)(Jx:World->Prop)(Kp:World->World->Prop)
  (W:World) (hBs:W.cell? ⟨Bs,oB,none⟩=some (.slice (some ⟨b,off,none⟩) len cap)) (hc:∀ j,j<len->∀ i,i<4->W.cell? ⟨b,off+j*4+i,none⟩=(cs j)[i]?)
  (hKp:∀ A B,Kp A B->(∃ o:Obj,A.heap[Bs]? =some o/\o.isCells=true)->((0<len)->∃ o:Obj,A.heap[b]? =some o/\o.isCells=true)->B.heap[Bs]? =A.heap[Bs]? /\(0<len->B.heap[b]? =A.heap[b]?))
  (hY:∀ k W1,J k W1->k<len->YieldAt F 0 Tryz.prog l #[.int .i64 ((len:Int)-1-k), .agg (cs (len-1-k)).toArray] W1 fun e W'=>(e= .returned (.bool true)/\J (k+1) W'/\Kp W1 W')∨(e= .returned (.bool false)/\Jx W'))
  (h0:J 0 W):
  CallsIn F 1 Tryz.prog 125 #[.func (.yield l) #[] #[], .pointer (some ⟨Bs,oB,none⟩)] W fun e W'=>(∃ v,e= .returned v)/\(J len W'∨Jx W'):=by
 unfold maxLen at hbig
 refine callsIn_of_wp Tryz.func125 rfl h7 ?_ hro
 simp only[Tryz.ntmps125,List.size_toArray,List.length_cons,List.length_nil,Nat.reduceAdd,Nat.reduceSub,Array.replicate_succ,Array.replicate_zero,List.push_toArray,List.append_toArray,List.nil_append,List.cons_append]
 gi_wp2
 gi_loopw [3] (fun i wr=>∃ k:Nat,k<=len/\i= .int .i64 ((len:Int)-1-k)/\J k wr/\wr.heap[Bs]? =W.heap[Bs]? /\(0<len->wr.heap[b]? =W.heap[b]?))
  (fun i _=>(intOf i+1).toNat)
 case atStart=>exact⟨0,Nat.zero_le _,by simp,h0,rfl,fun _=>rfl⟩
 case round=>
  obtain⟨k,hk,rfl,hJs,hn1,hn2⟩:=hrel
  have hB1:wr.cell? ⟨Bs,oB,none⟩=some (.slice (some ⟨b,off,none⟩) len cap):=(World.cell?_of_block (a:=⟨Bs,oB,none⟩) hn1).trans hBs
  by_cases hlt:k<len
  ·have hge:0<=(len:Int)-1-k:=by omega
   have htn:((len:Int)-1-k).toNat=len-1-k:=by omega
   have hup:(len:Int)-1-k<len:=by omega
   have hci:∀ i,i<4->wr.cell? ⟨b,off+(len-1-k)*4+i,none⟩=(cs (len-1-k))[i]? :=fun i hi=>(World.cell?_of_block (a:=⟨b,off+(len-1-k)*4+i,none⟩) (hn2 (by omega))).trans (hc _ (by omega) i hi)
   have hlk:=h4 (len-1-k) (by omega)
   obtain⟨x0,x1,x2,x3,hx⟩:∃ x0 x1 x2 x3,cs (len-1-k)= [x0,x1,x2,x3]:=by
    match h:cs (len-1-k),hlk with
    | [x0,x1,x2,x3],_=>exact⟨_,_,_,_,rfl⟩
   have hc0:wr.cell? ⟨b,off+(len-1-k)*4+0,none⟩=some x0:=(hci 0 (by omega)).trans (by rw[hx];rfl)
   have hcx:=hc0
   have hload:=dm (P:=Tryz.prog) (Go.Proofs.YtdojbabpnaifoaaGreatDoor.ty91) (w:=wr) (b:=b) (o:=off+(len-1-k)*4) (cells:=cs (len-1-k)) (by rw[hlk];rfl) (fun j hj=>hci j (by omega))
   have hcB:∃ o:Obj,wr.heap[Bs]? =some o/\o.isCells=true:=cells_of_cell hB1
   have hcb:∃ o:Obj,wr.heap[b]? =some o/\o.isCells=true:=cells_of_cell hcx
   have hYk:=hY k wr hJs hlt
   rw[hx] at hYk hload
   obtain⟨fn,tmps,assign,body,hy,hR⟩:=hYk
   gi_wp2
   refine hR.mono ?_
   rintro e W3 (⟨rfl,hJ3,hk3⟩|⟨rfl,hJx3⟩)
   ·obtain⟨e1,e2⟩:=hKp _ _ hk3 hcB (fun _=>hcb)
    gi_wp2
    go_roundw
    case rel=>exact⟨k+1,by omega,by congr 1;omega,hJ3,e1.trans hn1,fun h=>(e2 h).trans (hn2 h)⟩
    case measure=>simp[intOf];omega
   ·gi_wp2
    refine bodyPost_ret (results_none rfl _ _ _) rfl ?_
    exact⟨⟨_,rfl⟩, .inr hJx3⟩
  ·have hk2:k=len:=by omega
   have hng: ¬0<=(len:Int)-1-k:=by omega
   rw[hk2] at hJs
   clear hk2
   gi_wp2
   go_end0
   exact⟨⟨_,rfl⟩, .inl hJs⟩
set_option maxRecDepth 100000 in
set_option maxHeartbeats 2000000 in
theorem vz(F:Fence)(h7:F.fn 125)(hro:F.round=none)(l Bs oB:Nat)(J:World->Prop)(W:World)(a:Option Addr)(cap:Nat)(hBs:W.cell? ⟨Bs,oB,none⟩=some (.slice a 0 cap))(h0:J W):
  CallsIn F 1 Tryz.prog 125 #[.func (.yield l) #[] #[], .pointer (some ⟨Bs,oB,none⟩)] W fun e W'=>(∃ v,e= .returned v)/\J W':=by
 refine callsIn_of_wp Tryz.func125 rfl h7 ?_ hro
 simp only[Tryz.ntmps125,List.size_toArray,List.length_cons,List.length_nil,Nat.reduceAdd,Nat.reduceSub,Array.replicate_succ,Array.replicate_zero,List.push_toArray,List.append_toArray,List.nil_append,List.cons_append]
 gi_wp2
 gi_loopw [3] (fun i wr=>i= .int .i64 (-1)/\wr=W) (fun i _=>(intOf i+1).toNat)
 case atStart=>exact⟨rfl,rfl⟩
 case round=>
  obtain⟨rfl,rfl⟩:=hrel
  gi_wp2
  go_end0
  exact⟨⟨_,rfl⟩,h0⟩
theorem kQ{H:Nat->Prop}{w:World}{b o:Nat}{c:Value}(h:du H w b o [c]):w.cell? ⟨b,o,none⟩=some c/\b<w.heap.size/\ ¬H b:=
 ⟨by have:=h.2 0 (by simp);simpa using this,h.lt (by simp),h.1 (by simp)⟩
theorem vA(xs:List ND):mY Tryz.prog 125 2 [.z (.ptr (.slice NT)) xs] (bW xs):=by
 refine⟨enters_of Tryz.func125 (by kernel_rfl) rfl,?_,?_⟩
 ·intro it hit
  obtain⟨k,_,rfl⟩:=List.mem_map.1 hit
  exact⟨rfl,rfl⟩
 ·intro H w lb hH hcap
  obtain⟨v,rfl⟩:∃ v,lb= [v]:=by
   match lb,hcap with
   | [v],_=>exact⟨v,rfl⟩
   |_::_::_,h=>exact h.2.elim
  obtain⟨hag,bB,oB,cells,hv,hsl,hlies⟩:=hcap.1
  have hv2:v= .pointer (some ⟨bB,oB,none⟩):=by
   have hone:=cq (v:=v) (by cases v<;>first|rfl|(simp[Ty.isAgg] at hag))
   rw[hone] at hv;simpa using hv
  subst hv2
  have hlen:(bW xs).length=xs.length:=by simp[bW]
  rcases hsl with⟨rfl,rfl⟩|⟨b,o,p,cap,cs,rfl,hp,h1,h2,h3,h4⟩
  ·refine⟨fun k=> #[],fun k hk=>by simp[bW] at hk,?_⟩
   intro l J Jx W hb _ _ _ _ hY h0
   obtain⟨c1,c2,c3⟩:=kQ hlies
   exact(vz (fw none) trivial rfl l bB oB (J 0) W none 0 ((hb.cell (p:=⟨bB,oB,none⟩) c2).trans c1) h0).mono (fun e W' h=>⟨h.1, .inl h.2⟩)
  ·have hcl:cs.length=xs.length*4:=bH (fun c x h=>NT.rep_length h) h3
   have hone:∀ j,j<xs.length->((cs.drop (j*4)).take 4).length=4:=by
    intro j hj
    rw[List.length_take,List.length_drop,hcl];omega
   refine⟨fun k=> #[.int .i64 ((xs.length:Int)-1-k), .agg ((cs.drop ((xs.length-1-k)*4)).take 4).toArray],fun k hk=> ?_,?_⟩
   ·rw[hlen] at hk
    have hg:=fz (fun c x h=>NT.rep_length h) h3 (xs.length-1-k) (by omega)
    simp only[bW,List.getElem_map,List.getElem_range]
    refine⟨bS (ρ:=fun _=>undef),?_,trivial⟩
    have hx:xs.getD (xs.length-1-k) zN=xs[xs.length-1-k]'(by omega):=by
     rw[List.getD_eq_getElem?_getD,List.getElem?_eq_getElem (by omega)];rfl
    rw[hx]
    exact gv (t:=NT) hg (fun h=>by cases h) (fun h=>by cases h)
   ·intro l J Jx W hb _ _ _ _ hY h0
    rw[hlen] at hY ⊢
    obtain⟨c1,c2,c3⟩:=kQ hlies
    by_cases hnil:xs= []
    ·subst hnil
     exact(vz (fw none) trivial rfl l bB oB (J 0) W (some ⟨b,o,p⟩) cap ((hb.cell (p:=⟨bB,oB,none⟩) c2).trans c1) h0).mono (fun e W' h=>⟨h.1, .inl h.2⟩)
    obtain rfl:=hp hnil
    have hne:0<xs.length->cs≠ []:=fun h e=>by rw[e] at hcl;simp at hcl;omega
    refine Kl (fw none) trivial rfl l bB oB b o xs.length cap (fun j=>(cs.drop (j*4)).take 4) hone (Nat.le_trans h1 h2) J Jx (yS H w.heap.size) W ((hb.cell (p:=⟨bB,oB,none⟩) c2).trans c1) (fun j hj i hi=> ?_) (fun A B hk hA1 hA2=>⟨hk bB c2 c3 hA1,fun h=>hk b (h4.lt (hne h)) (h4.1 (hne h)) (hA2 h)⟩) hY h0
    have hj':j*4+i<cs.length:=by rw[hcl];omega
    rw[Nat.add_assoc,hb.cell (p:=⟨b,o+(j*4+i),none⟩) (h4.lt (hne (by omega))),h4.2 (j*4+i) hj']
    rw[List.getElem?_take,if_pos hi,List.getElem?_drop]
end Go.Proofs
end
section
namespace Go.Cm
open Go.Proofs
theorem zG{p:List ND}{k i:Nat}(h:Sz k p)(hi:i<p.length):p.getD i zN=bk (cf (an p) i):=by
 rw[<- fR h hi,fQ (t:=NT) hi,List.getD_eq_getElem?_getD,List.getElem?_eq_getElem hi];rfl
theorem zH{p:List ND}{k:Nat}(hk:k<p.length):p.length-1-k<p.length:=by omega
theorem CY(p:List ND)(x:Rat):0=aJ (List.drop (p.length-0) (an p)) x:=by
 rw[Nat.sub_zero,List.drop_of_length_le (by rw[aL];exact Nat.le_refl _)];rfl
theorem CZ{p:List ND}{x:Rat}{k:Nat}(hk:k<p.length):aJ (List.drop (p.length-(k+1)) (an p)) x=aJ (List.drop (p.length-k) (an p)) x*x+cf (an p) (p.length-1-k):=by
 rw[List.drop_eq_getElem_cons (by rw[aL];omega),show p.length-(k+1)+1=p.length-k by omega]
 have e:(an p)[p.length-(k+1)]'(by rw[aL];omega)=cf (an p) (p.length-1-k):=by
  unfold cf
  rw[List.getD_eq_getElem?_getD,show p.length-1-k=p.length-(k+1) by omega,List.getElem?_eq_getElem (by rw[aL];omega)];rfl
 rw[e];rfl
theorem G8{p:List ND}{x:ND}{k:Nat}(hC:Sz QM p/\p.length<=100/\NOK x/\lq (bD x)<=QM)(hk:k<p.length){v:Rat}(hz:v=aJ (List.drop (p.length-k) (an p)) (bD x)):gq (bk v) x/\gq (bk (v*bD x)) (bk (cf (an p) (p.length-1-k))):=by
 obtain⟨h1,h2,h3,h4⟩:=hC
 have e:QM=400000000:=rfl
 have e2:QC=100000000000:=rfl
 have hl:=Er (l:=List.drop (p.length-k) (an p)) (x:=bD x) (K:=QM) (fun c hc=>by
  have hc':=List.mem_of_mem_drop hc
  obtain⟨y,hy,rfl⟩:=List.mem_map.1 hc'
  exact(h1 y hy).2) h4
 rw[<- hz,List.length_drop,aL] at hl
 have hm:=mB v (bD x)
 have hc:=h1.cf (by omega) (p.length-1-k)
 have h5:(p.length-(p.length-k))*(2*QM+1)<=100*(2*QM+1):=Nat.mul_le_mul_right _ (by omega)
 exact⟨⟨bZ _,h3,by rw[aN];omega⟩,bZ _,bZ _,by rw[aN,aN];omega⟩
theorem Km(p:List ND)(x:Rat):aJ (List.drop (p.length-(bW p).length) (an p)) x=aJ (an p) x:=by
 rw[show (bW p).length=p.length by simp[bW],Nat.sub_self,List.drop_zero]
def tQ(s b:List Rat)(c:Rat):List Rat:=bL (· + ·) (b6 s b) (aS [c])
def gR(p b:List Rat):Nat->List Rat
 |0=> []
 |k+1=>tQ (gR p b k) b (cf p (p.length-1-k))
def km(p b:List Rat):List Rat:=gR p b p.length
def C3(s b:List ND)(c:ND):Prop:=Sz QM s/\Sz QM b/\s.length<=100/\b.length<=100/\NOK c/\lq (bD c)<=QM/\Sz QH (aI (b6 (an s) (an b)))
def xq(p b:List ND):Prop:=Sz QM p/\p.length<=100/\∀ k,k<p.length->C3 (aI (gR (an p) (an b) k)) b (bk (cf (an p) (p.length-1-k)))
theorem tS(p q:List Rat):(b6 p q).length<=p.length+q.length:=by
 unfold b6
 split
 ·simp
 ·rw[dC];omega
theorem G9{s b:List ND}{c:ND}(h:C3 s b c):(Sz QM s/\Sz QM b/\s.length<=100/\b.length<=100)/\(Sz QC [c]/\ [c].length<=QL)/\Sz QH (aI (b6 (an s) (an b)))/\Sz QH (aI (aS (an [c])))/\(aI (b6 (an s) (an b))).length<=1000/\(aI (aS (an [c]))).length<=1000:=by
 obtain⟨h1,h2,h3,h4,h5,h6,h7⟩:=h
 have e:QM=400000000:=rfl
 have e2:QC=100000000000:=rfl
 have e3:QH=40000000000:=rfl
 refine⟨⟨h1,h2,h3,h4⟩,⟨fun x hx=> ?_,by simp[QL]⟩,h7,ff fun x hx=> ?_,?_,?_⟩
 ·simp only[List.mem_singleton] at hx
  subst hx;exact⟨h5,by omega⟩
 ·have:x=bD c:=by
   simp only[an,List.map_cons,List.map_nil,aS] at hx
   split at hx
   ·simp at hx
   ·simpa using hx
  rw[this];omega
 ·rw[aA]
  have:=tS (an s) (an b)
  rw[aL,aL] at this;omega
 ·rw[aA]
  have:=eP (an [c])
  rw[aL] at this
  simp only[List.length_cons,List.length_nil] at this;omega
theorem zI(x:Rat)(i k:Nat):x^(i+k)=x^i*x^k:=by
 induction k with
 |zero=>rw[Nat.add_zero,Rat.pow_zero,Rat.mul_one]
 |succ k ih=>rw[<- Nat.add_assoc,Rat.pow_succ,Rat.pow_succ,ih,Rat.mul_assoc]
theorem cN(x:Rat):aJ [] x=0:=rfl
theorem c8(c:Rat)(l:List Rat)(x:Rat):aJ (c::l) x=aJ l x*x+c:=rfl
theorem j8(c x:Rat):aJ [c] x=c:=by rw[c8,cN];grind
theorem om(l m:List Rat)(x:Rat):aJ (l++m) x=aJ l x+x^l.length*aJ m x:=by
 induction l with
 |nil=>simp only[List.nil_append,cN,List.length_nil];grind
 |cons c l ih=>simp only[List.cons_append,c8,ih,List.length_cons];grind
theorem C4(n:Nat)(x:Rat):aJ (List.replicate n 0) x=0:=by
 induction n with
 |zero=>rfl
 |succ n ih=>rw[List.replicate_succ,c8,ih];grind
theorem j9(l:List Rat)(x:Rat):aJ (aS l) x=aJ l x:=by
 induction l with
 |nil=>rfl
 |cons c l ih=>
  rw[c8,<- ih]
  simp only[aS]
  split
  ·rename_i h
   rw[h]
   split
   ·rename_i h0;rw[h0,cN];grind
   ·rw[j8,cN];grind
  ·rename_i y m h
   rw[h,c8]
theorem Kn(l:List Rat)(j:Nat)(y x:Rat)(h:j<l.length):aJ (l.set j y) x=aJ l x+(y-cf l j)*x^j:=by
 induction l generalizing j with
 |nil=>simp at h
 |cons c l ih=>
  cases j with
  |zero=>simp only[List.set_cons_zero,c8,cf,List.getD_cons_zero];grind
  |succ j=>
   simp only[List.set_cons_succ,c8]
   rw[ih j (by simpa using h)]
   have:cf (c::l) (j+1)=cf l j:=by simp[cf]
   rw[this]
   grind
theorem p6(l:List Rat)(k:Nat)(x:Rat)(h:k<l.length):aJ (l.take (k+1)) x=aJ (l.take k) x+cf l k*x^k:=by
 rw[List.take_succ_eq_append_getElem h,om,j8,List.length_take,Nat.min_eq_left (by omega)]
 unfold cf
 rw[List.getD_eq_getElem?_getD,List.getElem?_eq_getElem h]
 simp only[Option.getD_some]
 grind
theorem Ko(out:List Rat)(i:Nat)(a:Rat)(q:List Rat)(x:Rat):∀ k,k<=q.length->i+k<=out.length->aJ (cB out i a q k) x=aJ out x+a*x^i*aJ (q.take k) x
 |0,_,_=>by simp only[cB,List.take_zero,cN];grind
 |k+1,hk,h=>by
  rw[cB,Kn _ _ _ _ (by rw[iy];omega),Ko out i a q x k (by omega) (by omega),p6 q k x (by omega)]
  have:x^(i+k)=x^i*x^k:=zI _ _ _
  rw[this]
  grind
theorem tT(out:List Rat)(i:Nat)(a:Rat)(q:List Rat)(x:Rat)(h:i+q.length<=out.length):aJ (cB out i a q q.length) x=aJ out x+a*x^i*aJ q x:=by
 rw[Ko _ _ _ _ _ _ (Nat.le_refl _) h,List.take_length]
theorem Eu(p q:List Rat)(x:Rat)(hq:0<q.length):∀ i,i<=p.length->aJ (mulN p q i) x=aJ (p.take i) x*aJ q x
 |0,_=>by rw[mulN,C4,List.take_zero,cN];grind
 |i+1,h=>by
  rw[mulN,tT _ _ _ _ _ (by rw[dC];omega),Eu p q x hq i (by omega),p6 p i x (by omega)]
  grind
theorem dn(p q:List Rat)(x:Rat):aJ (b6 p q) x=aJ p x*aJ q x:=by
 unfold b6
 split
 ·rename_i h
  rcases h with h|h<;>(subst h;simp only[cN];grind)
 ·rename_i h
  have hq:0<q.length:=List.length_pos_iff.2 fun e=>h (.inr e)
  rw[Eu p q x hq _ (Nat.le_refl _),List.take_length]
theorem kR(f:Nat->Rat)(x:Rat):∀ n,aJ ((List.range (n+1)).map f) x=aJ ((List.range n).map f) x+f n*x^n:=by
 intro n
 rw[List.range_succ,List.map_append,om]
 simp only[List.map_cons,List.map_nil,j8,List.length_map,List.length_range]
 grind
theorem bF{l:List Rat}{i:Nat}(h:l.length<=i):cf l i=0:=by
 unfold cf
 rw[List.getD_eq_getElem?_getD,List.getElem?_eq_none h];rfl
theorem ns(l:List Rat)(x:Rat):∀ n,l.length<=n->aJ ((List.range n).map (cf l)) x=aJ l x:=by
 have h0:∀ n,n<=l.length->aJ ((List.range n).map (cf l)) x=aJ (l.take n) x:=by
  intro n
  induction n with
  |zero=>intro _;rfl
  |succ n ih=>intro h;rw[kR,ih (by omega),p6 l n x (by omega)]
 intro n
 induction n with
 |zero=>intro h;rw[h0 0 (by omega),show l= [] from List.eq_nil_of_length_eq_zero (by omega)];rfl
 |succ n ih=>
  intro h
  by_cases h2:l.length<=n
  ·rw[kR,ih h2,bF h2];grind
  ·rw[h0 _ (by omega),List.take_of_length_le (by omega)]
theorem vB(l m:List Rat)(x:Rat):∀ n,aJ (bO (· + ·) l m n) x=aJ ((List.range n).map (cf l)) x+aJ ((List.range n).map (cf m)) x
 |0=>by simp only[bO,List.range_zero,List.map_nil,cN];grind
 |n+1=>by
  have:=vB l m x n
  unfold bO at this ⊢
  rw[kR,kR,kR,this]
  grind
theorem vC(l m:List Rat)(x:Rat):∀ n,aJ (bO (· - ·) l m n) x=aJ ((List.range n).map (cf l)) x-aJ ((List.range n).map (cf m)) x
 |0=>by simp only[bO,List.range_zero,List.map_nil,cN];grind
 |n+1=>by
  have:=vC l m x n
  unfold bO at this ⊢
  rw[kR,kR,kR,this]
  grind
theorem C5(l m:List Rat)(x:Rat):aJ (bL (· + ·) l m) x=aJ l x+aJ m x:=by
 rw[bL,j9,vB,ns _ _ _ (by omega),ns _ _ _ (by omega)]
theorem tU(l m:List Rat)(x:Rat):aJ (bL (· - ·) l m) x=aJ l x-aJ m x:=by
 rw[bL,j9,vC,ns _ _ _ (by omega),ns _ _ _ (by omega)]
theorem tV(l:List Rat)(x:Rat):aJ (cx l) x=aJ l x/aG l:=by
 have:∀ (c:Rat) (l:List Rat),aJ (l.map fun a=>a/c) x=aJ l x/c:=by
  intro c l
  induction l with
  |nil=>simp only[List.map_nil,cN];grind
  |cons a l ih=>simp only[List.map_cons,c8,ih];grind
 exact this _ _
theorem Kq:∀ {l:List Rat},l≠ []->aG l≠0->∃ d X:Rat,0<d/\1<=X/\∀ x,X<=x->d<=(aJ l x).abs
 | [],h,_=>absurd rfl h
 | [c],_,h=>by
  refine⟨c.abs,1,?_,by grind,fun x _=>by rw[j8];grind⟩
  have:aG [c]=c:=rfl
  rw[this] at h
  unfold Rat.abs
  split<;>grind
 |c::a::l,_,h=>by
  obtain⟨d,X,h1,h2,h3⟩:=Kq (l:=a::l) (by simp) (by simpa [aG] using h)
  refine⟨d,max X ((d+c.abs)/d),h1,by grind,fun x hx=> ?_⟩
  have h4:=h3 x (by grind)
  have h5:(d+c.abs)/d<=x:=by grind
  have h6:d+c.abs<=x*d:=by
   have:=Rat.mul_le_mul_of_nonneg_right h5 (Rat.le_of_lt h1)
   rwa [Rat.div_mul_cancel (by grind)] at this
  have h7:1<=x:=by grind
  have h8:x*d<=x*(aJ (a::l) x).abs:=Rat.mul_le_mul_of_nonneg_left h4 (by grind)
  rw[c8]
  generalize aJ (a::l) x=v at*
  have h9:(v*x).abs=x*v.abs:=by
   by_cases hv:0<=v
   ·rw[Rat.abs_of_nonneg hv,Rat.abs_of_nonneg (Rat.mul_nonneg hv (by grind))];grind
   ·have h11:0<= -v*x:=Rat.mul_nonneg (by grind) (by grind)
    rw[Rat.abs_of_nonpos (by grind),Rat.abs_of_nonpos (by grind)];grind
  have h10:(v*x).abs<=(v*x+c).abs+c.abs:=by
   unfold Rat.abs
   split<;>split<;>split<;>grind
  grind
theorem xr{l:List Rat}(h:Trm l)(h0:∀ x,aJ l x=0):l= []:=by
 by_cases hn:l= []
 ·exact hn
 ·obtain⟨d,X,h1,h2,h3⟩:=Kq hn (h hn)
  have:=h3 X (by grind)
  rw[h0 X] at this
  rw[Rat.abs_zero] at this
  grind
theorem mG(op:Rat->Rat->Rat)(l m:List Rat)(n i:Nat)(h:i<n):cf (bO op l m n) i=op (cf l i) (cf m i):=by
 unfold bO
 conv=>lhs;unfold cf
 rw[List.getD_eq_getElem?_getD,List.getElem?_map,List.getElem?_range h];rfl
theorem xt(l:List Rat)(i:Nat):cf (aS l) i=cf l i:=by
 induction l generalizing i with
 |nil=>rfl
 |cons c l ih=>
  simp only[aS]
  split
  ·rename_i h
   rw[h] at ih
   have h0:∀ j,cf l j=0:=fun j=>by rw[<- ih j];simp[cf]
   split
   ·rename_i hc
    cases i with
    |zero=>simp[cf,hc]
    |succ i=>have:=h0 i;simp only[cf,List.getD_cons_succ] at this ⊢;rw[this];simp
   ·cases i with
    |zero=>simp[cf]
    |succ i=>have:=h0 i;simp only[cf,List.getD_cons_succ] at this ⊢;rw[this];simp
  ·rename_i y m h
   rw[h] at ih
   cases i with
   |zero=>simp[cf]
   |succ i=>have:=ih i;simp only[cf,List.getD_cons_succ] at this ⊢;exact this
theorem OE{l m:List Rat}(hl:Trm l)(hm:Trm m)(h:∀ i,cf l i=cf m i):l=m:=by
 have hlen:∀ {l m:List Rat},Trm l->(∀ i,cf l i=cf m i)->l.length<=m.length:=by
  intro l m hl h
  by_cases hn:l= []
  ·subst hn;simp
  ·have hp:=List.length_pos_iff.2 hn
   have h1:=hl hn
   rw[bR hp,h] at h1
   have: ¬m.length<=l.length-1:=fun e=>h1 (bF e)
   omega
 have e:l.length=m.length:=Nat.le_antisymm (hlen hl h) (hlen hm fun i=>(h i).symm)
 apply List.ext_getElem e
 intro i h1 h2
 have:=h i
 unfold cf at this
 rw[List.getD_eq_getElem?_getD,List.getD_eq_getElem?_getD,List.getElem?_eq_getElem h1,List.getElem?_eq_getElem h2] at this
 exact this
theorem kS{l m:List Rat}(hl:Trm l)(hm:Trm m)(h:∀ x,aJ l x=aJ m x):l=m:=by
 have h0:bL (· - ·) l m= []:=xr (jA _) fun x=>by rw[tU,h];grind
 refine OE hl hm fun i=> ?_
 by_cases hi:i<max l.length m.length
 ·have h1:=xt (bO (· - ·) l m (max l.length m.length)) i
  rw[show aS (bO (· - ·) l m (max l.length m.length))= [] from h0,mG _ _ _ _ _ hi] at h1
  have:cf [] i=0:=by simp[cf]
  rw[this] at h1
  grind
 ·rw[bF (by omega),bF (by omega)]
theorem lK:Trm []:=fun h=>absurd rfl h
theorem jC{l:List Rat}(h:Trm l):aS l=l:=by
 by_cases hn:l= []
 ·subst hn;rfl
 ·exact mD hn (h hn)
theorem fq(op:Rat->Rat->Rat)(l m:List Rat):Trm (bL op l m):=jA _
theorem ft(op:Rat->Rat->Rat)(l m:List Rat):(bL op l m).length<=max l.length m.length:=by
 have:=eP (bO op l m (max l.length m.length))
 rw[eG] at this
 exact this
theorem vD(p q:List Rat)(hq:0<q.length):∀ i,i<=p.length->∀ n,i+q.length<=n+1->cf (mulN p q i) n=0
 |0,_,n,_=>by
  rw[mulN]
  unfold cf
  rw[List.getD_eq_getElem?_getD]
  by_cases h:n<p.length+q.length-1
  ·rw[List.getElem?_replicate,if_pos h];rfl
  ·rw[List.getElem?_eq_none (by simp;omega)];rfl
 |i+1,h,n,hn=>by
  rw[mulN,iW _ _ _ _ _ _ (by rw[dC];omega),if_neg (by omega)]
  exact vD p q hq i (by omega) n (by omega)
theorem Kr{p q:List Rat}(hp:0<p.length)(hq:0<q.length):aG (mulN p q p.length)=aG p*aG q:=by
 obtain⟨n,hn⟩:∃ n,p.length=n+1:=⟨p.length-1,by omega⟩
 rw[bR (by rw[dC];omega),dC,hn,mulN,iW _ _ _ _ _ _ (by rw[dC];omega),if_pos (by omega),vD p q hq n (by omega) _ (by omega:n+q.length<=(n+1+q.length-1-1)+1)]
 rw[bR hp,bR hq,hn]
 have e1:n+1+q.length-1-1-n=q.length-1:=by omega
 have e2:n+1-1=n:=by omega
 rw[e1,e2]
 grind
theorem p7{p q:List Rat}(hp:p≠ [])(hq:q≠ []):b6 p q=mulN p q p.length:=by
 unfold b6;rw[if_neg];rintro(h|h)
 ·exact hp h
 ·exact hq h
theorem cP{p q:List Rat}(hp:p≠ [])(hq:q≠ []):(b6 p q).length=p.length+q.length-1:=by
 rw[p7 hp hq,dC]
theorem eJ(q:List Rat):b6 [] q= []:=by unfold b6;rw[if_pos (.inl rfl)]
theorem c7(p:List Rat):b6 p []= []:=by unfold b6;rw[if_pos (.inr rfl)]
theorem oo{p q:List Rat}(hp:p≠ [])(hq:q≠ []):aG (b6 p q)=aG p*aG q:=by
 rw[p7 hp hq,Kr (List.length_pos_iff.2 hp) (List.length_pos_iff.2 hq)]
theorem iz{p q:List Rat}(hp:Trm p)(hq:Trm q):Trm (b6 p q):=by
 intro h
 by_cases h1:p= []
 ·subst h1;exact absurd (eJ q) h
 by_cases h2:q= []
 ·subst h2;exact absurd (c7 p) h
 rw[oo h1 h2]
 have:=hp h1;have:=hq h2
 grind
theorem pF{p q:List Rat}(h:b6 p q= []):p= []∨q= []:=by
 by_cases h1:p= []
 ·exact .inl h1
 by_cases h2:q= []
 ·exact .inr h2
 have:=cP h1 h2
 rw[h] at this
 have:=List.length_pos_iff.2 h1;have:=List.length_pos_iff.2 h2
 simp only[List.length_nil] at*
 omega
theorem C6{q r:List Rat}(h:q.length<=r.length)(x:Rat):aJ (aS (cu q r)) x=aJ r x-(aG r/aG q)*x^(r.length-q.length)*aJ q x:=by
 rw[j9,cu,tT _ _ _ _ _ (by omega)]
 grind
theorem zJ{q:List Rat}(hq:0<q.length)(h0:aG q≠0)(x:Rat):∀ (n:Nat) (r s:List Rat),r.length<n->(∀ i,i+q.length<=r.length->cf s i=0)->r.length+1-q.length<=s.length->
  aJ (eS q n r s).1 x*aJ q x+aJ (eS q n r s).2 x=aJ s x*aJ q x+aJ r x
 |0,r,s,h,_,_=>absurd h (by omega)
 |n+1,r,s,h,hz,hs=>by
  rw[eS]
  split
  ·rename_i hl
   have h1:=fg hq hl h0
   rw[zJ hq h0 x n _ _ (by omega) (fun i hi=>by rw[J9,if_neg (by omega)];exact hz i (by omega)) (by rw[List.length_set];omega)]
   rw[C6 hl,Kn _ _ _ _ (by omega),hz _ (by omega)]
   grind
  ·rfl
theorem xu{p q:List Rat}(hq:q≠ [])(h0:Trm q)(x:Rat):aJ (divN p q).1 x*aJ q x+aJ (divN p q).2 x=aJ p x:=by
 unfold divN
 rw[zJ (List.length_pos_iff.2 hq) (h0 hq) x _ _ _ (Nat.lt_succ_self _) (fun i _=> ?_) (by simp),C4]
 ·grind
 ·unfold cf
  rw[List.getD_eq_getElem?_getD,List.getElem?_replicate]
  split<;>rfl
theorem C7{q s t r u:List Rat}(hq:q≠ [])(tq:Trm q)(ts:Trm s)(tt:Trm t)(tr:Trm r)(tu:Trm u)(hr:r.length<q.length)(hu:u.length<q.length)
  (h:∀ x,aJ s x*aJ q x+aJ r x=aJ t x*aJ q x+aJ u x):s=t/\r=u:=by
 have h1:b6 (bL (· - ·) s t) q=bL (· - ·) u r:=kS (iz (fq _ _ _) tq) (fq _ _ _) fun x=>by
  rw[dn,tU,tU];have:=h x;grind
 have h2:bL (· - ·) s t= []:=by
  by_cases hd:bL (· - ·) s t= []
  ·exact hd
  ·have:=cP hd hq
   rw[h1] at this
   have h3:=ft (· - ·) u r
   have h4:=List.length_pos_iff.2 hd
   omega
 have h3:s=t:=kS ts tt fun x=>by have:=tU s t x;rw[h2,cN] at this;grind
 refine⟨h3,kS tr tu fun x=> ?_⟩
 have:=h x
 rw[h3] at this
 grind
theorem pG{p q s r:List Rat}(hq:q≠ [])(tp:Trm p)(tq:Trm q)(ts:Trm s)(tr:Trm r)(hr:r.length<q.length)(h:∀ x,aJ s x*aJ q x+aJ r x=aJ p x):
  aS (divN p q).1=s/\(divN p q).2=r:=
 C7 hq tq (jA _) ts (eQ tp) tr (dK (List.length_pos_iff.2 hq) (tq hq)) hr fun x=>by rw[j9,xu hq tq,h]
def Den(b:Nat)(l:List Rat):Prop:=∃ D:Int,D≠0/\lw D<=b/\∀ i,∃ n:Int,lw n<=b/\cf l i=Rat.divInt n D
theorem Den.mono{b c:Nat}{l:List Rat}(h:Den b l)(hc:b<=c):Den c l:=by
 obtain⟨D,h1,h2,h3⟩:=h
 exact⟨D,h1,by omega,fun i=>by obtain⟨n,a,e⟩:=h3 i;exact⟨n,by omega,e⟩⟩
theorem Den.lq{b:Nat}{l:List Rat}(h:Den b l):∀ x∈l,lq x<=b:=by
 obtain⟨D,h1,h2,h3⟩:=h
 intro x hx
 obtain⟨i,hi,rfl⟩:=List.getElem_of_mem hx
 obtain⟨n,a,e⟩:=h3 i
 unfold cf at e
 rw[List.getD_eq_getElem?_getD,List.getElem?_eq_getElem hi] at e
 simp only[Option.getD_some] at e
 rw[e]
 have:=n9 n D h1
 omega
theorem Den.sz{b k:Nat}{l:List Rat}(h:Den b l)(hk:b<=k):Sz k (aI l):=ff fun x hx=>Nat.le_trans (h.lq x hx) hk
theorem Ha{b:Nat}{l m:List Rat}(h:Den b l)(he:∀ i,cf m i=cf l i):Den b m:=by
 obtain⟨D,h1,h2,h3⟩:=h
 exact⟨D,h1,h2,fun i=>by rw[he];exact h3 i⟩
theorem kT{b:Nat}{l:List Rat}(h:Den b l):Den b (aS l):=Ha h fun i=>xt l i
theorem lL{b:Nat}(hb:1<=b):Den b []:=⟨1,by decide,by rw[ti];exact hb,fun i=>⟨0,by rw[hZ];omega,by rw[Rat.zero_divInt];simp[cf]⟩⟩
theorem Den.pos{b:Nat}{l:List Rat}(h:Den b l):1<=b:=by
 obtain⟨D,h1,h2,_⟩:=h
 have:lw D≠0:=fun e=>by have:=pA D;rw[e] at this;simp at this;omega
 omega
theorem vE{n D:Int}(hD:D≠0)(h:Rat.divInt n D≠0):n≠0:=fun e=>h (by rw[e,Rat.zero_divInt])
theorem Ks(a b:Int):lw (a-b)<=max (lw a) (lw b)+1:=by
 have:=tj a (-b)
 rw[JR] at this
 exact this
theorem tW{b c:Nat}{q r:List Rat}(hr:Den b r)(hq:Den c q)(hl:q.length<=r.length)(h0:aG q≠0)(hp:0<q.length):Den (b+c+1) (aS (cu q r)):=by
 refine kT ?_
 obtain⟨D,d1,d2,d3⟩:=hr
 obtain⟨E,e1,e2,e3⟩:=hq
 obtain⟨R,r1,r2⟩:=d3 (r.length-1)
 obtain⟨Q,q1,q2⟩:=e3 (q.length-1)
 rw[<- bR (by omega)] at r2
 rw[<- bR hp] at q2
 have hQ:Q≠0:=vE e1 (by rw[<- q2];exact h0)
 have hDQ:D*Q≠0:=Int.mul_ne_zero d1 hQ
 refine⟨D*Q,hDQ,by have:=b5 D Q;omega,fun i=> ?_⟩
 unfold cu
 rw[iW _ _ _ _ _ _ (by omega)]
 obtain⟨n,n1,n2⟩:=d3 i
 split
 ·obtain⟨m,m1,m2⟩:=e3 (i-(r.length-q.length))
  refine⟨n*Q-R*m,?_,?_⟩
  ·have:=b5 n Q;have:=b5 R m;have:=Ks (n*Q) (R*m);omega
  ·rw[n2,m2,r2,q2]
   simp only[Rat.divInt_eq_div,Rat.intCast_mul,Rat.intCast_sub]
   have f1:(D:Rat)≠0:=by simpa using d1
   have f2:(E:Rat)≠0:=by simpa using e1
   have f3:(Q:Rat)≠0:=by simpa using hQ
   generalize (D:Rat)=D' at*;generalize (E:Rat)=E' at*;generalize (Q:Rat)=Q' at*
   grind
 ·refine⟨n*Q,by have:=b5 n Q;omega,?_⟩
  rw[n2,Rat.divInt_mul_right hQ]
theorem vF{b:Nat}{l:List Rat}(h:Den b l)(ht:Trm l):Den b (cx l):=by
 by_cases hn:l= []
 ·subst hn;exact h
 have hp:=List.length_pos_iff.2 hn
 obtain⟨D,d1,d2,d3⟩:=h
 obtain⟨R,r1,r2⟩:=d3 (l.length-1)
 rw[<- bR hp] at r2
 have hR:R≠0:=vE d1 (by rw[<- r2];exact ht hn)
 refine⟨R,hR,r1,fun i=> ?_⟩
 obtain⟨n,n1,n2⟩:=d3 i
 refine⟨n,n1,?_⟩
 have:cf (cx l) i=cf l i/aG l:=by
  unfold cx cf
  simp only[List.getD_eq_getElem?_getD,List.getElem?_map]
  cases l[i]? with
  |none=>simp;grind
  |some x=>rfl
 rw[this,n2,r2]
 simp only[Rat.divInt_eq_div]
 have f1:(D:Rat)≠0:=by simpa using d1
 have f3:(R:Rat)≠0:=by simpa using hR
 generalize (D:Rat)=D' at*;generalize (R:Rat)=R' at*
 grind
theorem zK{c:Nat}{q:List Rat}(hq:Den c q)(hp:0<q.length)(h0:aG q≠0):∀ (n:Nat) (r s:List Rat) (b:Nat),Den b r->Den (b+(r.length+1-q.length)*(c+1)) (eS q n r s).2
 |0,r,s,b,h=>h.mono (by omega)
 |n+1,r,s,b,h=>by
  rw[eS]
  split
  ·rename_i hl
   have h1:=fg hp hl h0
   refine(zK hq hp h0 n _ _ _ (tW h hq hl h0 hp)).mono ?_
   have h2:(aS (cu q r)).length+1-q.length+1<=r.length+1-q.length:=by omega
   have h3:=Nat.mul_le_mul_right (c+1) h2
   rw[Nat.add_mul] at h3
   omega
  ·exact h.mono (by omega)
theorem xv{c:Nat}{q:List Rat}(hq:Den c q)(hp:0<q.length)(h0:aG q≠0):∀ (n:Nat) (r:List Rat) (b:Nat),Den b r->b+(r.length+1-q.length)*(c+1)<=QD->tJ q n r
 |0,r,b,h,hb=>trivial
 |n+1,r,b,h,hb=>by
  refine⟨fun x hx=>by have:=h.lq x hx;omega,fun hl=> ?_⟩
  have h1:=fg hp hl h0
  refine xv hq hp h0 n _ _ (tW h hq hl h0 hp) ?_
  have h2:(aS (cu q r)).length+1-q.length+1<=r.length+1-q.length:=by omega
  have h3:=Nat.mul_le_mul_right (c+1) h2
  rw[Nat.add_mul] at h3
  omega
theorem Kt{c K:Nat}{q:List Rat}(hq:Den c q)(hp:0<q.length)(h0:aG q≠0):∀ (n:Nat) (r s:List Rat) (b:Nat),Den b r->(∀ x∈s,lq x<=K)->b+(r.length+1-q.length)*(c+1)<=K->∀ x∈(eS q n r s).1,lq x<=K
 |0,r,s,b,h,hs,hb=>hs
 |n+1,r,s,b,h,hs,hb=>by
  rw[eS]
  split
  ·rename_i hl
   have h1:=fg hp hl h0
   have h2:(aS (cu q r)).length+1-q.length+1<=r.length+1-q.length:=by omega
   have h3:=Nat.mul_le_mul_right (c+1) h2
   rw[Nat.add_mul] at h3
   refine Kt hq hp h0 n _ _ _ (tW h hq hl h0 hp) ?_ (by omega)
   intro x hx
   rcases List.mem_or_eq_of_mem_set hx with hx|rfl
   ·exact hs x hx
   ·have h4:=xg (aG r) (aG q)
    have h5:=h.lq (aG r) (by rw[bR (by omega)];exact oe (by omega))
    have h6:=hq.lq (aG q) (by rw[bR hp];exact oe (by omega))
    omega
  ·exact hs
theorem C8{p q:List ND}{b c:Nat}(hp:∀ x∈p,NOK x)(hq:∀ x∈q,NOK x)(dp:Den b (an p))(dq:Den c (an q))(l1:p.length<=900)(l2:q.length<=900)(hn:0<q.length)(tq:Trm (an q))
  (hb:b+(p.length+1-q.length)*(c+1)<=QD) (hc:c<=QD):fo p q:=by
 have hQ:QD<=QC:=by unfold QD QC;omega
 have hne:an q≠ []:=fun e=>by have:=congrArg List.length e;rw[aL,List.length_nil] at this;omega
 have hln:0<(an q).length:=by rw[aL];exact hn
 refine⟨hp,?_,l1,l2,hn,tq hne,xv dq hln (tq hne) _ _ _ dp (by rw[aL,aL];exact hb)⟩
 have:=dq.sz hc
 rwa [xn hq] at this
theorem nt{p q:List Rat}{b c K:Nat}(dp:Den b p)(dq:Den c q)(hn:q≠ [])(tq:Trm q)(hb:b+(p.length+1-q.length)*(c+1)<=K)(hK:1<=K):(∀ x∈(divN p q).1,lq x<=K)/\Den K (divN p q).2:=by
 unfold divN
 refine⟨Kt dq (List.length_pos_iff.2 hn) (tq hn) _ _ _ _ dp (fun x hx=> ?_) hb,(zK dq (List.length_pos_iff.2 hn) (tq hn) _ _ _ _ dp).mono hb⟩
 rw[(List.mem_replicate.1 hx).2];exact Nat.le_trans iV hK
theorem tX(q:List Rat):∀ (n:Nat) (r s:List Rat),(eS q n r s).1.length=s.length
 |0,_,_=>rfl
 |n+1,r,s=>by
  rw[eS]
  split
  ·rw[tX q n,List.length_set]
  ·rfl
theorem jD(p q:List Rat):(divN p q).1.length=p.length+1-q.length:=by
 unfold divN;rw[tX];simp
theorem vG:∀ t:Nat,t+3<=3^(t+1)
 |0=>by decide
 |t+1=>by have:=vG t;rw[Nat.pow_succ];omega
theorem zL:∀ (n:Nat) (p q:List Rat) (b:Nat),Den b p->Den b q->Trm p->Trm q->q.length<n->(b+1)*(p.length+1-q.length+1)*3^q.length<=QD->tK n p q/\Den ((b+1)*(p.length+1-q.length+1)*3^q.length) (da n p q)
 |0,p,q,b,_,_,_,_,h,_=>absurd h (by omega)
 |n+1,p,q,b,dp,dq,tp,tq,hn,hb=>by
  have hpow:0<3^q.length:=Nat.pow_pos (by decide)
  have hb1:(b+1)*(p.length+1-q.length+1)<=QD:=Nat.le_trans (Nat.le_mul_of_pos_right _ hpow) hb
  have hb2:b+(p.length+1-q.length)*(b+1)+1=(b+1)*(p.length+1-q.length+1):=by
   have e:=Nat.mul_add (b+1) (p.length+1-q.length) 1
   rw[Nat.mul_one,Nat.mul_comm (b+1) (p.length+1-q.length)] at e
   omega
  have hb3:b<=QD:=by
   have:0<=(p.length+1-q.length)*(b+1):=Nat.zero_le _
   omega
  have hqh:QD<=QH:=by unfold QD QH;omega
  rw[tK,da]
  by_cases hq:q= []
  ·rw[if_pos hq,if_pos hq]
   exact⟨fun x hx=>by have:=dp.lq x hx;omega,(vF dp tp).mono (Nat.le_trans (by omega:b<=(b+1)*(p.length+1-q.length+1)) (Nat.le_mul_of_pos_right _ hpow))⟩
  ·rw[if_neg hq,if_neg hq]
   have hl:=List.length_pos_iff.2 hq
   have hs:=dK (p:=p) hl (tq hq)
   obtain⟨k1,k2⟩:=nt (K:=b+(p.length+1-q.length)*(b+1)) dp dq hq tq (Nat.le_refl _) (by have:=dp.pos;omega)
   have tr:=eQ (q:=q) tp
   have hm:=vF k2 tr
   have hphi:(b+(p.length+1-q.length)*(b+1)+1)*(q.length+1-(cx (divN p q).2).length+1)*3^(cx (divN p q).2).length<=(b+1)*(p.length+1-q.length+1)*3^q.length:=by
    rw[hb2,b7]
    rw[Nat.mul_assoc]
    refine Nat.mul_le_mul_left _ ?_
    obtain⟨t,ht⟩:∃ t,q.length=(divN p q).2.length+(t+1):=⟨q.length-(divN p q).2.length-1,by omega⟩
    rw[ht,Nat.pow_add,Nat.mul_comm]
    refine Nat.mul_le_mul_left _ ?_
    have:=vG t
    omega
   obtain⟨g1,g2⟩:=zL n q (cx (divN p q).2) _ (dq.mono (by omega)) hm tq (dW tr) (by rw[b7];omega) (Nat.le_trans hphi hb)
   exact⟨⟨xv dq hl (tq hq) _ _ _ dp (by omega),fun x hx=>by have:=dq.lq x hx;omega,fun x hx=>by have:=k2.lq x hx;omega,g1⟩,g2.mono hphi⟩
theorem Ku{p q:List ND}{b:Nat}(hp:∀ x∈p,NOK x)(hq:∀ x∈q,NOK x)(dp:Den b (an p))(dq:Den b (an q))(l1:p.length<=900)(l2:q.length<=900)(tp:Trm (an p))(tq:Trm (an q))
  (hb:(b+1)*(p.length+1-q.length+1)*3^q.length<=QD):fX p q/\Den ((b+1)*(p.length+1-q.length+1)*3^q.length) (bw (an p) (an q)):=by
 obtain⟨h1,h2⟩:=zL (q.length+1) (an p) (an q) b dp dq tp tq (by rw[aL];omega) (by rw[aL,aL];exact hb)
 refine⟨⟨hp,hq,l1,l2,tp,tq,h1⟩,?_⟩
 rw[aL,aL] at h2
 unfold bw;rw[aL];exact h2
theorem den_add{b c:Nat}{l m:List Rat}(hl:Den b l)(hm:Den c m):Den (b+c+1) (bL (· + ·) l m):=by
 refine kT ?_
 obtain⟨D,d1,d2,d3⟩:=hl
 obtain⟨E,e1,e2,e3⟩:=hm
 refine⟨D*E,Int.mul_ne_zero d1 e1,by have:=b5 D E;omega,fun i=> ?_⟩
 by_cases hi:i<max l.length m.length
 ·rw[mG _ _ _ _ _ hi]
  obtain⟨n,n1,n2⟩:=d3 i
  obtain⟨k,k1,k2⟩:=e3 i
  refine⟨n*E+k*D,by have:=b5 n E;have:=b5 k D;have:=tj (n*E) (k*D);omega,?_⟩
  rw[n2,k2,Rat.divInt_add_divInt _ _ d1 e1]
 ·refine⟨0,by rw[hZ];omega,?_⟩
  rw[bF (by rw[eG];omega),Rat.zero_divInt]
theorem MR{b c:Nat}{l m:List Rat}(hl:Den b l)(hm:Den c m):Den (b+c+1) (bL (· - ·) l m):=by
 refine kT ?_
 obtain⟨D,d1,d2,d3⟩:=hl
 obtain⟨E,e1,e2,e3⟩:=hm
 refine⟨D*E,Int.mul_ne_zero d1 e1,by have:=b5 D E;omega,fun i=> ?_⟩
 by_cases hi:i<max l.length m.length
 ·rw[mG _ _ _ _ _ hi]
  obtain⟨n,n1,n2⟩:=d3 i
  obtain⟨k,k1,k2⟩:=e3 i
  refine⟨n*E-k*D,by have:=b5 n E;have:=b5 k D;have:=Ks (n*E) (k*D);omega,?_⟩
  rw[n2,k2,Rat.divInt_sub_divInt _ _ d1 e1]
 ·refine⟨0,by rw[hZ];omega,?_⟩
  rw[bF (by rw[eG];omega),Rat.zero_divInt]
theorem Ev{a:Int}{b:Nat}(h:lw a<=b):(a.natAbs:Int)<=LB^b:=by
 have:=sX a h
 omega
theorem zM{b c:Nat}{p q:List Rat}{D E:Int}(d1:D≠0)(e1:E≠0)(hp:∀ i,∃ n:Int,lw n<=b/\cf p i=Rat.divInt n D)(hq:∀ i,∃ n:Int,lw n<=c/\cf q i=Rat.divInt n E)(hl:0<q.length):
  ∀ i,i<=p.length->∀ n,∃ N:Int,(N.natAbs:Int)<=i*(LB^b*LB^c)/\cf (mulN p q i) n=Rat.divInt N (D*E)
 |0,_,n=>⟨0,by simp,by
   rw[Rat.zero_divInt]
   by_cases h:n<(mulN p q 0).length
   ·unfold mulN cf
    rw[List.getD_eq_getElem?_getD,List.getElem?_replicate]
    split<;>rfl
   ·exact bF (by omega)⟩
 |i+1,h,n=>by
  obtain⟨N,h1,h2⟩:=zM d1 e1 hp hq hl i (by omega) n
  rw[mulN,iW _ _ _ _ _ _ (by rw[dC];omega)]
  have hpos:(0:Int)<=LB^b*LB^c:=Int.mul_nonneg (Int.le_of_lt (lbpos _)) (Int.le_of_lt (lbpos _))
  have e:((i+1:Nat):Int)*(LB^b*LB^c)=(i:Int)*(LB^b*LB^c)+LB^b*LB^c:=by rw[Int.natCast_add,Int.add_mul];simp
  rw[e]
  split
  ·obtain⟨x,x1,x2⟩:=hp i
   obtain⟨y,y1,y2⟩:=hq (n-i)
   refine⟨N+x*y,?_,?_⟩
   ·have h3:=Ev x1
    have h4:=Ev y1
    have h5:(x.natAbs:Int)*(y.natAbs:Int)<=LB^b*LB^c:=by
     have h6:(x.natAbs:Int)*(y.natAbs:Int)<=LB^b*(y.natAbs:Int):=Int.mul_le_mul_of_nonneg_right h3 (by omega)
     have h7:LB^b*(y.natAbs:Int)<=LB^b*LB^c:=Int.mul_le_mul_of_nonneg_left h4 (Int.le_of_lt (lbpos _))
     omega
    have h8:(N+x*y).natAbs<=N.natAbs+(x*y).natAbs:=Int.natAbs_add_le _ _
    rw[Int.natAbs_mul] at h8
    have h9:((N+x*y).natAbs:Int)<=(N.natAbs:Int)+(x.natAbs:Int)*(y.natAbs:Int):=by
     rw[<- Int.natCast_mul];omega
    omega
   ·rw[h2,x2,y2,Rat.divInt_mul_divInt,Rat.divInt_add_divInt _ _ (Int.mul_ne_zero d1 e1) (Int.mul_ne_zero d1 e1),<- Int.add_mul,Rat.divInt_mul_right (Int.mul_ne_zero d1 e1)]
  ·exact⟨N,by omega,h2⟩
theorem den_mul{b c:Nat}{p q:List Rat}(hp:Den b p)(hq:Den c q)(hl:p.length<1000000000):Den (b+c+1) (b6 p q):=by
 have hb:=hp.pos
 by_cases h1:p= []
 ·subst h1;rw[eJ];exact lL (by omega)
 by_cases h2:q= []
 ·subst h2;rw[c7];exact lL (by omega)
 rw[p7 h1 h2]
 obtain⟨D,d1,d2,d3⟩:=hp
 obtain⟨E,e1,e2,e3⟩:=hq
 refine⟨D*E,Int.mul_ne_zero d1 e1,by have:=b5 D E;omega,fun n=> ?_⟩
 obtain⟨N,k1,k2⟩:=zM d1 e1 d3 e3 (List.length_pos_iff.2 h2) _ (Nat.le_refl _) n
 refine⟨N,kL ?_,k2⟩
 have k3:(0:Int)<LB^b*LB^c:=Int.mul_pos (lbpos _) (lbpos _)
 have k4:(p.length:Int)*(LB^b*LB^c)<LB*(LB^b*LB^c):=Int.mul_lt_mul_of_pos_right (by show (p.length:Int)<1000000000;omega) k3
 have k5:(LB:Int)^(b+c+1)=LB*(LB^b*LB^c):=by rw[Int.pow_succ,Int.pow_add,Int.mul_comm]
 omega
theorem Ew{b:Nat}{l:List Rat}(h:Den b l):(l.length<1000000000)->Den (b+1) (cy l):=by
 intro hl
 obtain⟨D,d1,d2,d3⟩:=h
 refine⟨D,d1,by omega,fun i=> ?_⟩
 by_cases hi:i<l.length-1
 ·obtain⟨n,n1,n2⟩:=d3 (i+1)
  have:cf (cy l) i=cf l (i+1)*Rat.divInt ((i+1:Nat):Int) 1:=by
   unfold cy mF
   conv=>lhs;unfold cf
   rw[List.getD_eq_getElem?_getD,List.getElem?_map,List.getElem?_range hi];rfl
  refine⟨n*((i+1:Nat):Int),?_,?_⟩
  ·have h1:lw (((i+1:Nat):Int))<=1:=kL (by show _<(1000000000:Int)^1;omega)
   have:=b5 n ((i+1:Nat):Int)
   omega
  ·rw[this,n2,Rat.divInt_mul_divInt,Int.mul_one]
 ·refine⟨0,by rw[hZ];omega,?_⟩
  rw[Rat.zero_divInt,bF]
  unfold cy mF
  simp;omega
end Go.Cm
end
section
namespace Go.Cm
open Go.Proofs
def cQ(p:List (List UInt8)):Int:=
 if 41<p.length then 40 else if p.all (fun q=>decide (dr q=0))=false then 40
 else if p≠ []/\p.getLastD []= [48] then 40 else 0
def bc(p:List (List UInt8)):List Rat:=if cQ p=0 then p.map bG else []
def de(p:List (List UInt8)):Prop:=p.length<=QL/\∀ q∈p,q.length<=QL
theorem oq{q:List UInt8}(h:dr q=0)(hl:q.length<=QL):fW q/\gB q=bk (bG q):=by
 have:RQ q:=⟨by rw[h];decide,hl⟩
 exact⟨this.form,this.raw⟩
theorem C9{p:List (List UInt8)}{k:Nat}(hk:k<p.length)(h:(p.take k).all (fun q=>decide (dr q=0))=true)(hb:dr (nth .str p (k:Int))=0):(p.take (k+1)).all (fun q=>decide (dr q=0))=true:=by
 have e:nth .str p (k:Int)=p[k]:=fQ (t:= .str) hk
 rw[List.take_succ_eq_append_getElem hk,List.all_append,h]
 rw[e] at hb
 simp[hb]
theorem Hb{p:List (List UInt8)}{k:Nat}(hk:k<p.length)(h41:p.length<=41)(hb: ¬dr (nth .str p (k:Int))=0):cQ p=40:=by
 have e:nth .str p (k:Int)=p[k]:=fQ (t:= .str) hk
 rw[e] at hb
 unfold cQ
 rw[if_neg (by omega),if_pos]
 rw[List.all_eq_false]
 exact⟨p[k],List.getElem_mem hk,by simpa using hb⟩
theorem tY{p:List (List UInt8)}(hs:de p)(h:p.all (fun q=>decide (dr q=0))=true):(∀ q∈p,fW q)/\p.map gB=aI (p.map bG):=by
 rw[List.all_eq_true] at h
 refine⟨fun q hq=>(oq (by simpa using h q hq) (hs.2 q hq)).1,?_⟩
 unfold aI
 rw[List.map_map]
 exact List.map_congr_left fun q hq=>(oq (by simpa using h q hq) (hs.2 q hq)).2
theorem Da{p:List (List UInt8)}(hl:p.length<=41):(decide ((0:Int)<(p.length:Int))=true->decide ((0:Int)<(p.length:Int))=true)/\(decide ((0:Int)<(p.length:Int))=true->decide ((0:Int)<(p.length:Int))=true)/\(decide ((0:Int)<(p.length:Int))=true->decide ((0:Int)<(p.length:Int))=true/\0<=IntKind.i64.wrap ((p.length:Int)-1)/\IntKind.i64.wrap ((p.length:Int)-1)<(p.length:Int))/\(decide ((0:Int)<(p.length:Int))=true->decide ((0:Int)<(p.length:Int))=true):=by
 refine⟨id,id,fun h=> ?_,id⟩
 have h2:=of_decide_eq_true h
 rw[cd (by omega)]
 exact⟨h,by omega,by omega⟩
theorem tZ{p:List (List UInt8)}(h:cQ p=40): []=aI (bc p)/\40=cQ p:=by
 refine⟨?_,h.symm⟩
 unfold bc;rw[if_neg (by rw[h];decide)];rfl
theorem Db{p:List (List UInt8)}(h:41<p.length):cQ p=40:=by unfold cQ;rw[if_pos h]
theorem pH{p:List (List UInt8)}(hl:p.length<=41)(h:0<p.length):nth .str p (IntKind.i64.wrap ((p.length:Int)-1))=p.getLastD []:=by
 rw[cd (by omega),show (p.length:Int)-1=((p.length-1:Nat):Int) by omega,fQ (t:= .str) (by omega)]
 rw[List.getLastD_eq_getLast?,List.getLast?_eq_getElem?,List.getElem?_eq_getElem (by omega)];rfl
theorem Dc{p:List (List UInt8)}(hl:p.length<=41)(ha:p.all (fun q=>decide (dr q=0))=true)(h:0<(p.length:Int)/\nth .str p (IntKind.i64.wrap ((p.length:Int)-1))= [48]):cQ p=40:=by
 rw[pH hl (by omega)] at h
 unfold cQ
 rw[if_neg (by omega),if_neg (by rw[ha];decide),if_pos]
 refine⟨fun e=> ?_,h.2⟩
 rw[e] at h;exact absurd h.1 (by decide)
theorem Kv{p:List (List UInt8)}(hs:de p)(hl:p.length<=41)(ha:p.all (fun q=>decide (dr q=0))=true)(h:0<(p.length:Int)-> ¬nth .str p (IntKind.i64.wrap ((p.length:Int)-1))= [48]):p.map gB=aI (bc p)/\0=cQ p:=by
 have hc:cQ p=0:=by
  unfold cQ
  rw[if_neg (by omega),if_neg (by rw[ha];decide),if_neg]
  intro h2
  have h3:0<p.length:=by cases p with|nil=>exact absurd rfl h2.1|cons=>simp
  exact h (by omega) (by rw[pH hl h3];exact h2.2)
 refine⟨?_,hc.symm⟩
 unfold bc;rw[if_pos hc]
 exact(tY hs ha).2
end Go.Cm
namespace Go.Cm
open Go.Proofs
def b4:List (List (List UInt8))->Int
 | []=>0
 |p::l=>if cQ p=0 then b4 l else cQ p
def gS(l:List (List (List UInt8))):List (List ND):=if b4 l=0 then l.map fun p=>aI (bc p) else []
theorem Kw{l:List (List (List UInt8))}(h:∀ p∈l,cQ p=0):b4 l=0:=by
 induction l with
 |nil=>rfl
 |cons a l ih=>
  unfold b4
  rw[if_pos (h a (by simp))]
  exact ih fun p hp=>h p (by simp[hp])
theorem Hc{l:List (List (List UInt8))}{k:Nat}(hk:k<l.length)(h:(l.take k).all (fun p=>decide (cQ p=0))=true)(hb: ¬cQ l[k]=0):b4 l=cQ l[k]:=by
 induction l generalizing k with
 |nil=>simp at hk
 |cons a l ih=>
  unfold b4
  cases k with
  |zero=>exact if_neg hb
  |succ k=>
   simp only[List.take_succ_cons,List.all_cons,Bool.and_eq_true,decide_eq_true_eq] at h
   rw[if_pos h.1]
   exact ih (by simpa using hk) h.2 (by simpa using hb)
end Go.Cm
namespace Go.Cm
open Go.Proofs
theorem ua{l:List (List (List UInt8))}{k:Nat}(hl:l.length<=1000)(hk:k<l.length)(g:(l.take k).all (fun p=>decide (cQ p=0))=true)(hb:cQ (nth (.slice .str) l (k:Int))=0):
  IntKind.i64.wrap ((k:Int)+1)=((k+1:Nat):Int)/\(l.take k).map (fun p=>aI (bc p))++ [aI (bc (nth (.slice .str) l (k:Int)))]=(l.take (k+1)).map (fun p=>aI (bc p))/\k+1<=l.length/\(l.take (k+1)).all (fun p=>decide (cQ p=0))=true/\l.length-(k+1)<l.length-k:=by
 have e:nth (.slice .str) l (k:Int)=l[k]:=fQ (t:= .slice .str) hk
 rw[e] at hb ⊢
 refine⟨wi (by omega) (by omega),?_,hk,?_,by omega⟩
 ·rw[List.take_succ_eq_append_getElem hk,List.map_append];rfl
 ·rw[List.take_succ_eq_append_getElem hk,List.all_append,g]
  simp[hb]
theorem zO{l:List (List (List UInt8))}{k:Nat}(hk:k<l.length)(g:(l.take k).all (fun p=>decide (cQ p=0))=true)(hb: ¬cQ (nth (.slice .str) l (k:Int))=0): []=gS l/\cQ (nth (.slice .str) l (k:Int))=b4 l:=by
 have e:nth (.slice .str) l (k:Int)=l[k]:=fQ (t:= .slice .str) hk
 rw[e] at hb ⊢
 have h:=Hc hk g hb
 refine⟨?_,h.symm⟩
 unfold gS;rw[if_neg (by rw[h];exact hb)]
theorem Kx{l:List (List (List UInt8))}(g:l.all (fun p=>decide (cQ p=0))=true):l.map (fun p=>aI (bc p))=gS l/\0=b4 l:=by
 have h:b4 l=0:=Kw fun p hp=>by
  rw[List.all_eq_true] at g
  simpa using g p hp
 refine⟨?_,h.symm⟩
 unfold gS;rw[if_pos h]
end Go.Cm
namespace Go.Cm
open Go.Proofs
theorem zP{l:List (List (List UInt8))}(hl:l.length<=1000)(hk:0<l.length)(hb:cQ (nth (.slice .str) l 0)=0):
  IntKind.i64.wrap (0+1)=((1:Nat):Int)/\ [aI (bc (nth (.slice .str) l 0))]=(l.take 1).map (fun p=>aI (bc p))/\1<=l.length/\(l.take 1).all (fun p=>decide (cQ p=0))=true/\l.length-1<l.length+1:=by
 have h:=ua (k:=0) hl hk rfl hb
 exact⟨h.1,h.2.1,hk,h.2.2.2.1,by omega⟩
theorem Hd{l:List (List (List UInt8))}(hk:0<l.length)(hb: ¬cQ (nth (.slice .str) l 0)=0): []=gS l/\cQ (nth (.slice .str) l 0)=b4 l:=zO (k:=0) hk rfl hb
theorem He{l:List (List (List UInt8))}(h: ¬0<l.length): []=gS l/\0=b4 l:=by
 cases l with
 |nil=>exact⟨rfl,rfl⟩
 |cons=>simp at h
end Go.Cm
namespace Go.Cm
open Go.Proofs
def cm(l:List Rat):Int:=if 41<l.length then 3 else if dD (aI l)=true then 0 else 6
def gT(l:List Rat):List (List UInt8):=if cm l=0 then l.map bo else []
theorem Dd{l:List Rat}(h:41<l.length): []=gT l/\3=cm l:=by
 have e:cm l=3:=by unfold cm;rw[if_pos h]
 exact⟨by unfold gT;rw[if_neg (by rw[e];decide)],e.symm⟩
theorem Hf{l:List Rat}(h: ¬41<l.length)(hf:dD (aI l)=false): []=gT l/\6=cm l:=by
 have e:cm l=6:=by unfold cm;rw[if_neg h,if_neg (by rw[hf];decide)]
 exact⟨by unfold gT;rw[if_neg (by rw[e];decide)],e.symm⟩
theorem Ky{l:List Rat}(h: ¬41<l.length)(hf:dD (aI l)=true):(if dD (aI l)=true then (aI l).map fun x=>bo (bD x) else [])=gT l/\0=cm l:=by
 have e:cm l=0:=by unfold cm;rw[if_neg h,if_pos hf]
 refine⟨?_,e.symm⟩
 unfold gT;rw[if_pos e,if_pos hf,aI,List.map_map]
 exact List.map_congr_left fun x _=>by simp only[Function.comp,aN]
end Go.Cm
namespace Go.Cm
open Go.Proofs
theorem gu{l:List Rat}:∀ x∈aS l,x∈l:=by
 induction l with
 |nil=>intro x hx;exact hx
 |cons a l ih=>
  intro x hx
  unfold aS at hx
  split at hx
  ·split at hx
   ·simp at hx
   ·simp at hx;simp[hx]
  ·rename_i h
   rcases List.mem_cons.1 hx with h2|h2
   ·simp[h2]
   ·exact List.mem_cons_of_mem _ (ih x (by rw[h];exact h2))
theorem Hg{p:List ND}(h:Sz QC p/\p.length<=QL)(hl: ¬41<(aS (an p)).length):(aI (aS (an p))).length<QL/\∀ x∈aI (aS (an p)),NOK x/\lq (bD x)<=QC:=by
 refine⟨by rw[aA];unfold QL;omega,?_⟩
 refine ff (k:=QC) fun x hx=> ?_
 obtain⟨y,hy,rfl⟩:=List.mem_map.1 (gu x hx)
 exact(h.1 y hy).2
end Go.Cm
end
section
namespace Go.Cm
open Go.Proofs
def db(f:List Rat->List Rat->List Rat)(p q:List (List UInt8)):Int:=if b4 [p,q]=0 then cm (aS (f (bc p) (bc q))) else b4 [p,q]
def dc(f:List Rat->List Rat->List Rat)(p q:List (List UInt8)):List (List UInt8):=if b4 [p,q]=0 then gT (aS (f (bc p) (bc q))) else []
def bK(D:List ND->List ND->Prop)(f:List Rat->List Rat->List Rat)(p q:List (List UInt8)):Prop:=
 de p/\de q/\(b4 [p,q]=0->D (aI (bc p)) (aI (bc q))/\Sz QC (aI (f (bc p) (bc q)))/\(f (bc p) (bc q)).length<=QL)
theorem ot{p q:List (List UInt8)}(h:b4 [p,q]=0):gS [p,q]= [aI (bc p),aI (bc q)]:=by
 unfold gS;rw[if_pos h];rfl
theorem iA{f:List Rat->List Rat->List Rat}{p q:List (List UInt8)}(h: ¬b4 [p,q]=0): []=dc f p q/\b4 [p,q]=db f p q:=by
 unfold dc db;rw[if_neg h,if_neg h];exact⟨rfl,rfl⟩
theorem ka{f:List Rat->List Rat->List Rat}{p q:List (List UInt8)}(h:b4 [p,q]=0):gT (aS (f (bc p) (bc q)))=dc f p q/\cm (aS (f (bc p) (bc q)))=db f p q:=by
 unfold dc db;rw[if_pos h,if_pos h];exact⟨rfl,rfl⟩
end Go.Cm
namespace Go.Cm
open Go.Proofs
theorem iX{p q:List (List UInt8)}(h:b4 [p,q]=0):nth (.slice NT) (gS [p,q]) 0=aI (bc p):=by rw[ot h];rfl
theorem iY{p q:List (List UInt8)}(h:b4 [p,q]=0):nth (.slice NT) (gS [p,q]) 1=aI (bc q):=by rw[ot h];rfl
theorem gD{p q:List (List UInt8)}(h:b4 [p,q]=0):(gS [p,q]).length=2:=by rw[ot h];rfl
end Go.Cm
namespace Go.Cm
open Go.Proofs
theorem gE{p q:List (List UInt8)}(hp:de p)(hq:de q): [p,q].length<=1000/\∀ x∈ [p,q],de x:=by
 refine⟨by simp,fun x hx=> ?_⟩
 simp only[List.mem_cons,List.not_mem_nil,or_false] at hx
 rcases hx with rfl|rfl
 ·exact hp
 ·exact hq
end Go.Cm
end
section
namespace Go.Cm
open Go.Proofs
theorem zQ(n:Int):∀ c∈Lib.itoa n,c≠47:=by
 obtain⟨d1,_,_,_⟩:=jY n.natAbs
 intro c hc
 unfold Lib.itoa at hc
 split at hc
 ·rcases List.mem_cons.1 hc with h|h
  ·rw[h];decide
  ·have:=d1 c h
   intro hc
   rw[hc] at this
   revert this;decide
 ·have e:n.toNat=n.natAbs:=by omega
  rw[e] at hc
  have:=d1 c hc
  intro hc
  rw[hc] at this
  revert this;decide
theorem Kz{a b:List UInt8}(h:∀ c∈a,c≠47):tN (a++47::b)=a/\cl (a++47::b)=true:=by
 constructor
 ·unfold tN
  induction a with
  |nil=>simp
  |cons c l ih=>
   have:=h c (by simp)
   rw[List.cons_append,List.takeWhile_cons,if_pos (by simpa using this),ih fun d hd=>h d (by simp[hd])]
 ·unfold cl;simp
theorem uc{a:List UInt8}(h:∀ c∈a,c≠47):cl a=false:=by
 unfold cl
 rw[List.any_eq_false]
 intro c hc
 simpa using h c hc
theorem kU(x:Rat):tN (bo x)=Lib.itoa x.num/\tD (bo x)=Lib.itoa (x.den:Int)/\cl (bo x)= !decide (x.den=1):=by
 unfold bo
 by_cases h:x.den=1
 ·rw[if_pos h]
  have hs:=uc (zQ x.num)
  refine⟨tz hs,?_,by rw[hs,h];rfl⟩
  unfold tD;rw[hs,h,if_neg (by decide)]
  have h0: [49]=Lib.itoa ((1:Nat):Int):=by decide+kernel
  exact h0
 ·rw[if_neg h,List.append_assoc]
  obtain⟨h1,h2⟩:=Kz (b:=Lib.itoa (x.den:Int)) (zQ x.num)
  rw[show [47]++Lib.itoa (x.den:Int)=47::Lib.itoa (x.den:Int) from rfl]
  refine⟨h1,?_,by rw[h2];simp[h]⟩
  unfold tD
  rw[if_pos h2]
  unfold tR
  rw[h1,List.drop_append,List.drop_of_length_le (by omega)]
  simp
theorem dX(x:Rat):bG (bo x)=x:=by
 obtain⟨h1,h2,_⟩:=kU x
 unfold bG
 rw[h1,h2,(bb _).2,(bb _).2]
 exact Rat.num_divInt_den x
theorem Hh(x:Rat):dr (bo x)=tA x:=by
 obtain⟨h1,h2,h3⟩:=kU x
 unfold dr
 rw[h1,h2,(bb _).2,(bb _).2,if_neg,if_neg]
 ·unfold tA gC
  by_cases h:eu x.num<=2000/\eu (x.den:Int)<=2000
  ·rw[if_neg (by omega),if_pos (decide_eq_true h)]
  ·rw[if_pos (by omega),if_neg (by simpa using h)]
 ·rintro⟨hs,h⟩
  have hg:cE x.num (x.den:Int)=1:=by
   rw[<- kM,Int.gcd_comm]
   have:=x.reduced
   unfold Nat.Coprime at this
   unfold Int.gcd
   rw[Int.natAbs_natCast,this];rfl
  rw[h3] at hs
  have h4: ¬x.den=1:=by simpa using hs
  have:=x.den_pos
  rcases h with h|h
  ·omega
  ·exact h hg
 ·rintro(h|h)
  ·exact(bb x.num).1 h
  ·exact(bb (x.den:Int)).1 h
theorem De{x:Rat}:tA x=0↔gC x=true:=by
 unfold tA
 split
 ·rename_i h;simp[h]
 ·rename_i h;simp[h]
theorem vH{q:List UInt8}(h:dr q=0)(hl:q.length<=QL):bo (bG q)=q/\gC (bG q)=true:=by
 have hr:RQ q:=⟨by rw[h];decide,hl⟩
 obtain⟨p1,p2⟩:=hr.parts
 obtain⟨f1,f2,_⟩:=hr.form
 have hc:=hr.chk
 rw[h] at hc
 constructor
 ·unfold bo
  cases hs:cl q
  ·have e:tD q= [49]:=by unfold tD;rw[hs];rfl
   rw[e,nq] at p2
   rw[if_pos (by omega),p1,tz hs]
   rw[tz hs] at f1
   exact jz f1
  ·have h5: ¬ao (tD q)<=1:=by
    intro hle
    unfold dr at h
    split at h
    ·exact absurd h (by decide)
    ·rw[if_pos ⟨hs, .inl hle⟩] at h;exact absurd h (by decide)
   rw[if_neg (by omega),p1,p2,jz f1,jz f2]
   have h6:=kP hs
   rw[if_pos hs] at h6
   rw[<- h6]
   have hcut:∀ q:List UInt8,cl q=true->tN q++ [47]++tR q=q:=by
    intro q hq
    induction q with
    |nil=>simp[cl] at hq
    |cons c l ih=>
     by_cases hc:c=47
     ·subst hc;simp[tN,tR]
     ·have h2:cl l=true:=by simpa [cl,hc] using hq
      have h3:tN (c::l)=c::tN l:=by simp[tN,hc]
      have h4:tR (c::l)=tR l:=by unfold tR;rw[h3];simp
      rw[h3,h4]
      have:=ih h2
      simpa using this
   exact hcut q hs
 ·unfold gC
  rw[decide_eq_true_eq,p1,p2]
  split at hc
  ·exact absurd hc (by decide)
  ·omega
theorem iB{x:Rat}:bo x= [48]↔x=0:=by
 have h0:bo 0= [48]:=by decide+kernel
 constructor
 ·intro h
  have:=dX x
  rw[h,<- h0,dX] at this
  exact this.symm
 ·rintro rfl;exact h0
def txP(l:List Rat):List (List UInt8):=l.map bo
def kn(l:List Rat):Bool:=l.all gC
theorem ou(l:List Rat):dD (aI l)=kn l:=by
 unfold dD kn aI
 rw[List.all_map]
 congr 1
 funext x
 simp[aN]
theorem cb(l:List Rat):(txP l).length=l.length:=by simp[txP]
theorem Ex(l:List Rat):(txP l).map bG=l:=by
 unfold txP
 rw[List.map_map]
 conv=>rhs;rw[<- List.map_id l]
 exact List.map_congr_left fun x _=>dX x
theorem zR{l:List Rat}(h:l≠ []):(txP l).getLastD []=bo (aG l):=by
 unfold txP aG
 rw[List.getLastD_eq_getLast?,List.getLastD_eq_getLast?,List.getLast?_map,List.getLast?_eq_some_getLast h];rfl
theorem Ey(l:List Rat):(txP l).all (fun q=>decide (dr q=0))=kn l:=by
 unfold txP kn
 rw[List.all_map]
 congr 1
 funext x
 simp only[Function.comp,Hh]
 rw[Bool.eq_iff_iff,decide_eq_true_iff,De]
theorem Ez{l:List Rat}(hl:l.length<=41)(ht:Trm l)(hf:kn l=true):cQ (txP l)=0/\bc (txP l)=l:=by
 have hc:cQ (txP l)=0:=by
  unfold cQ
  rw[if_neg (by rw[cb];omega),if_neg (by rw[Ey,hf];decide),if_neg]
  rintro⟨h1,h2⟩
  have hn:l≠ []:=fun e=>h1 (by rw[e];rfl)
  rw[zR hn,iB] at h2
  exact ht hn h2
 refine⟨hc,?_⟩
 unfold bc
 rw[if_pos hc,Ex]
theorem MS{p:List (List UInt8)}(hs:de p)(h:cQ p=0):txP (bc p)=p/\(bc p).length<=41/\Trm (bc p)/\kn (bc p)=true:=by
 unfold cQ at h
 split at h
 ·exact absurd h (by decide)
 rename_i h1
 split at h
 ·exact absurd h (by decide)
 rename_i h2
 split at h
 ·exact absurd h (by decide)
 rename_i h3
 have h2:p.all (fun q=>decide (dr q=0))=true:=by simpa using h2
 have hn:bc p=p.map bG:=by
  unfold bc
  rw[if_pos]
  unfold cQ
  rw[if_neg h1,if_neg (by rw[h2];decide),if_neg h3]
 have ht:txP (p.map bG)=p:=by
  unfold txP
  rw[List.map_map]
  conv=>rhs;rw[<- List.map_id p]
  rw[List.all_eq_true] at h2
  exact List.map_congr_left fun q hq=>(vH (by simpa using h2 q hq) (hs.2 q hq)).1
 rw[hn]
 refine⟨ht,by rw[List.length_map];omega,fun hne hl=>h3 ⟨fun e=>hne (by rw[e];rfl),?_⟩,?_⟩
 ·rw[<- ht,zR hne,iB];exact hl
 ·rw[<- Ey,ht,h2]
theorem EA{n:Int}{k:Nat}(h:lw n<=k)(hk:9*k+1<=2000):eu n<=2000:=by
 have h1:=Ev h
 rw[Mo] at h1
 have h0:=pA n
 rw[dV]
 have h2:n.natAbs<10^(9*k):=by
  have:=sX n h
  rw[Mo] at this
  omega
 have:=xe h2
 omega
theorem EB{x:Rat}(h:lq x<=222):gC x=true:=by
 have:=dJ x;have:=dA x
 exact decide_eq_true ⟨EA (k:=222) (by omega) (by omega),EA (k:=222) (by omega) (by omega)⟩
theorem KA{l:List Rat}{b:Nat}(h:Den b l)(hb:b<=222):kn l=true:=by
 unfold kn
 rw[List.all_eq_true]
 exact fun x hx=>EB (Nat.le_trans (h.lq x hx) hb)
theorem KB{l:List Rat}(h:∀ x∈l,lq x<=222):kn l=true:=by
 unfold kn
 rw[List.all_eq_true]
 exact fun x hx=>EB (h x hx)
structure Pol (l:List Rat):Prop where
 len:l.length<=41
 trm:Trm l
 fit:kn l=true
theorem Pol.chk{l:List Rat}(h:Pol l):cQ (txP l)=0:=(Ez h.len h.trm h.fit).1
theorem Pol.num{l:List Rat}(h:Pol l):bc (txP l)=l:=(Ez h.len h.trm h.fit).2
theorem vI{x:Rat}{k:Nat}(h:lq x<=k):(bo x).length<=18*k+5:=by
 have h1:=fP x.num
 have h2:=fP (x.den:Int)
 have:=dJ x;have:=dA x
 unfold bo
 split
 ·omega
 ·simp only[List.length_append,List.length_cons,List.length_nil];omega
theorem KC{n:Int}{K:Nat}(hn:((Lib.decDigits n.natAbs).length:Int)<=(K:Int)):lw n<=K:=by
 refine kL ?_
 obtain⟨d1,d2,_,_⟩:=jY n.natAbs
 have h2:=gz d1
 rw[d2] at h2
 have h3:(10:Nat)^(Lib.decDigits n.natAbs).length<=10^K:=Nat.pow_le_pow_right (by omega) (by omega)
 have h4:(10:Nat)^K<=1000000000^K:=Nat.pow_le_pow_left (by omega) _
 have h5:(LB^K:Int)=((1000000000^K:Nat):Int):=by rw[Int.natCast_pow];rfl
 rw[h5]
 exact_mod_cast Nat.lt_of_lt_of_le h2 (Nat.le_trans h3 h4)
theorem EC{x:Rat}(h:gC x=true):lq x<=2000:=by
 unfold gC at h
 rw[decide_eq_true_eq,dV,dV] at h
 exact Nat.max_le.2 ⟨KC h.1,KC h.2⟩
theorem Pol.lq{l:List Rat}(h:Pol l):∀ x∈l,lq x<=2000:=by
 have:=h.fit
 unfold kn at this
 rw[List.all_eq_true] at this
 exact fun x hx=>EC (this x hx)
theorem Pol.short{l:List Rat}(h:Pol l):de (txP l):=by
 have e:QL=1000000000:=rfl
 refine⟨by rw[cb];have:=h.len;omega,fun q hq=> ?_⟩
 obtain⟨x,hx,rfl⟩:=List.mem_map.1 hq
 have:=vI (h.lq x hx)
 omega
theorem nu:Pol []:=⟨by simp,lK,rfl⟩
theorem ov{l m:List Rat}(hl:Pol l)(hm:Pol m):b4 [txP l,txP m]=0:=by
 simp only[b4,hl.chk,hm.chk,if_true]
theorem kV{f:List Rat->List Rat->List Rat}{l m:List Rat}(hl:Pol l)(hm:Pol m){r:List Rat}(hr:aS (f l m)=r)(hp:Pol r):dc f (txP l) (txP m)=txP r/\db f (txP l) (txP m)=0:=by
 have he:cm r=0:=by
  unfold cm
  rw[if_neg (by have:=hp.len;omega),if_pos (by rw[ou];exact hp.fit)]
 unfold dc db
 rw[if_pos (ov hl hm),if_pos (ov hl hm),hl.num,hm.num,hr]
 unfold gT
 rw[if_pos he]
 exact⟨rfl,he⟩
theorem gF{D:List ND->List ND->Prop}{f:List Rat->List Rat->List Rat}{l m:List Rat}(hl:Pol l)(hm:Pol m)(hD:D (aI l) (aI m))(hs:∀ x∈f l m,Cm.lq x<=QC)(hn:(f l m).length<=QL):bK D f (txP l) (txP m):=by
 refine⟨hl.short,hm.short,fun _=> ?_⟩
 rw[hl.num,hm.num]
 exact⟨hD,ff hs,hn⟩
theorem Pol.enc_ok{l:List Rat}{k:Nat}(h:Pol l)(hk:2000<=k):Sz k (aI l):=ff fun x hx=>Nat.le_trans (h.lq x hx) hk
theorem MT{l m:List Rat}(hl:Pol l)(hm:Pol m):bK (fun p q=>Sz QH p/\Sz QH q/\p.length<=1000/\q.length<=1000) (bL (· + ·)) (txP l) (txP m):=by
 have e1:QH=40000000000:=rfl
 have e2:QL=1000000000:=rfl
 have h1:=hl.len;have h2:=hm.len
 have hs1:=hl.enc_ok (k:=QH) (by omega)
 have hs2:=hm.enc_ok (k:=QH) (by omega)
 refine gF hl hm ⟨hs1,hs2,by rw[aA];omega,by rw[aA];omega⟩ ?_ (by have:=ft (· + ·) l m;omega)
 intro x hx
 have h3:=xj zz hs1 hs2 (max l.length m.length)
 rw[aH,aH] at h3
 have h4:=gu x hx
 have h5:=(h3 (bk x) (List.mem_map.2 ⟨x,h4,rfl⟩)).2
 rwa [aN] at h5
theorem MU{l m:List Rat}(hl:Pol l)(hm:Pol m):bK (fun p q=>Sz QH p/\Sz QH q/\p.length<=1000/\q.length<=1000) (bL (· - ·)) (txP l) (txP m):=by
 have e1:QH=40000000000:=rfl
 have e2:QL=1000000000:=rfl
 have h1:=hl.len;have h2:=hm.len
 have hs1:=hl.enc_ok (k:=QH) (by omega)
 have hs2:=hm.enc_ok (k:=QH) (by omega)
 refine gF hl hm ⟨hs1,hs2,by rw[aA];omega,by rw[aA];omega⟩ ?_ (by have:=ft (· - ·) l m;omega)
 intro x hx
 have h3:=xj zA hs1 hs2 (max l.length m.length)
 rw[aH,aH] at h3
 have h4:=gu x hx
 have h5:=(h3 (bk x) (List.mem_map.2 ⟨x,h4,rfl⟩)).2
 rwa [aN] at h5
theorem xw{l m:List Rat}(hl:Pol l)(hm:Pol m):bK (fun p q=>Sz QM p/\Sz QM q/\p.length<=100/\q.length<=100) b6 (txP l) (txP m):=by
 have e1:QM=400000000:=rfl
 have e2:QL=1000000000:=rfl
 have e3:QC=100000000000:=rfl
 have h1:=hl.len;have h2:=hm.len
 refine gF hl hm ⟨hl.enc_ok (by omega),hm.enc_ok (by omega),by rw[aA];omega,by rw[aA];omega⟩ ?_ (by have:=tS l m;omega)
 intro x hx
 unfold b6 at hx
 split at hx
 ·simp at hx
 ·have h3:=Ka (K:=2000) (fun n=>kl hl.lq (by omega) n) (fun n=>kl hm.lq (by omega) n) l.length (Nat.le_refl _) x hx
  have h4:l.length*(2*2000+1)<=41*(2*2000+1):=Nat.mul_le_mul_right _ h1
  omega
def dvE(p q:List (List UInt8)):Int:=
 if b4 [p,q]=0 then
  if bc q= [] then 2
  else if cm (aS (divN (bc p) (bc q)).1)=0 then cm (aS (divN (bc p) (bc q)).2) else cm (aS (divN (bc p) (bc q)).1)
 else b4 [p,q]
def dvS(p q:List (List UInt8)):List (List UInt8):=if dvE p q=0 then gT (aS (divN (bc p) (bc q)).1) else []
def dvR(p q:List (List UInt8)):List (List UInt8):=if dvE p q=0 then gT (aS (divN (bc p) (bc q)).2) else []
structure mH (p q:List (List UInt8)):Prop where
 sp:de p
 sq:de q
 ok:b4 [p,q]=0->bc q≠ []->fo (aI (bc p)) (aI (bc q))/\(Sz QC (aI (divN (bc p) (bc q)).1)/\(aI (divN (bc p) (bc q)).1).length<=QL)/\(Sz QC (aI (divN (bc p) (bc q)).2)/\(aI (divN (bc p) (bc q)).2).length<=QL)
theorem KD{p q:List (List UInt8)}(h: ¬b4 [p,q]=0): []=dvS p q/\ []=dvR p q/\b4 [p,q]=dvE p q:=by
 have e:dvE p q=b4 [p,q]:=if_neg h
 refine⟨?_,?_,e.symm⟩
 ·unfold dvS;rw[if_neg (by rw[e];exact h)]
 ·unfold dvR;rw[if_neg (by rw[e];exact h)]
theorem KE{p q:List (List UInt8)}(h:b4 [p,q]=0)(h2:(aI (bc q)).length=0): []=dvS p q/\ []=dvR p q/\2=dvE p q:=by
 have hq:bc q= []:=by rw[aA] at h2;exact List.eq_nil_of_length_eq_zero h2
 have e:dvE p q=2:=by unfold dvE;rw[if_pos h,if_pos hq]
 refine⟨?_,?_,e.symm⟩
 ·unfold dvS;rw[if_neg (by rw[e];decide)]
 ·unfold dvR;rw[if_neg (by rw[e];decide)]
theorem MV{q:List (List UInt8)}(h2: ¬ (aI (bc q)).length=0):bc q≠ []:=by
 intro h;rw[h] at h2;exact h2 rfl
theorem MW{p q:List (List UInt8)}(h:b4 [p,q]=0)(h2:bc q≠ [])(h3: ¬cm (aS (divN (bc p) (bc q)).1)=0): []=dvS p q/\ []=dvR p q/\cm (aS (divN (bc p) (bc q)).1)=dvE p q:=by
 have e:dvE p q=cm (aS (divN (bc p) (bc q)).1):=by unfold dvE;rw[if_pos h,if_neg h2,if_neg h3]
 refine⟨?_,?_,e.symm⟩
 ·unfold dvS;rw[if_neg (by rw[e];exact h3)]
 ·unfold dvR;rw[if_neg (by rw[e];exact h3)]
theorem KF{p q:List (List UInt8)}(h:b4 [p,q]=0)(h2:bc q≠ [])(h3:cm (aS (divN (bc p) (bc q)).1)=0):dvE p q=cm (aS (divN (bc p) (bc q)).2):=by
 unfold dvE;rw[if_pos h,if_neg h2,if_pos h3]
theorem MX{p q:List (List UInt8)}(h:b4 [p,q]=0)(h2:bc q≠ [])(h3:cm (aS (divN (bc p) (bc q)).1)=0)(h4: ¬cm (aS (divN (bc p) (bc q)).2)=0): []=dvS p q/\ []=dvR p q/\cm (aS (divN (bc p) (bc q)).2)=dvE p q:=by
 have e:=KF h h2 h3
 refine⟨?_,?_,e.symm⟩
 ·unfold dvS;rw[if_neg (by rw[e];exact h4)]
 ·unfold dvR;rw[if_neg (by rw[e];exact h4)]
theorem MY{p q:List (List UInt8)}(h:b4 [p,q]=0)(h2:bc q≠ [])(h3:cm (aS (divN (bc p) (bc q)).1)=0)(h4:cm (aS (divN (bc p) (bc q)).2)=0):
  gT (aS (divN (bc p) (bc q)).1)=dvS p q/\gT (aS (divN (bc p) (bc q)).2)=dvR p q/\0=dvE p q:=by
 have e:=KF h h2 h3
 rw[h4] at e
 refine⟨?_,?_,e.symm⟩
 ·unfold dvS;rw[if_pos e]
 ·unfold dvR;rw[if_pos e]
def nv(p q:List (List UInt8)):Prop:=cQ p=0/\cQ q=0/\0<p.length/\0<q.length/\40<(p.length-1)*(q.length-1)
instance (p q:List (List UInt8)):Decidable (nv p q):=by unfold nv;infer_instance
def vJ(p q:List (List UInt8)):Int:=if nv p q then 3 else db km p q
def vK(p q:List (List UInt8)):List (List UInt8):=if nv p q then [] else dc km p q
structure xx (p q:List (List UInt8)):Prop where
 sp:de p
 sq:de q
 ok: ¬nv p q->bK xq km p q
theorem Hi{p q:List (List UInt8)}(hp:cQ p=0)(hq:cQ q=0)(h1:0<p.length)(h2:0<q.length):IntKind.i64.wrap (IntKind.i64.wrap ((p.length:Int)-1)*IntKind.i64.wrap ((q.length:Int)-1))=(((p.length-1)*(q.length-1):Nat):Int):=by
 have k1:p.length<=41:=by
  unfold cQ at hp;split at hp
  ·exact absurd hp (by decide)
  ·omega
 have k2:q.length<=41:=by
  unfold cQ at hq;split at hq
  ·exact absurd hq (by decide)
  ·omega
 rw[cd (by omega),cd (by omega)]
 have e1:(p.length:Int)-1=((p.length-1:Nat):Int):=by omega
 have e2:(q.length:Int)-1=((q.length-1:Nat):Int):=by omega
 rw[e1,e2,<- Int.natCast_mul]
 have h3:(p.length-1)*(q.length-1)<=40*40:=Nat.mul_le_mul (by omega) (by omega)
 generalize (p.length-1)*(q.length-1)=n at*
 exact wi (by omega) (by omega)
theorem KG{p q:List (List UInt8)}{b:Bool}(h:(cQ p==0&&cQ q==0&&decide ((0:Int)<(p.length:Int))&&decide ((0:Int)<(q.length:Int))&&decide ((40:Int)<IntKind.i64.wrap (IntKind.i64.wrap ((p.length:Int)-1)*IntKind.i64.wrap ((q.length:Int)-1))))=b):decide (nv p q)=b:=by
 rw[<- h]
 clear h
 unfold nv
 by_cases h1:cQ p=0
 ·by_cases h2:cQ q=0
  ·by_cases h3:0<p.length
   ·by_cases h4:0<q.length
    ·rw[Hi h1 h2 h3 h4,Bool.eq_iff_iff]
     simp only[h1,h2,h3,h4,true_and,decide_eq_true_eq,Bool.and_eq_true,beq_self_eq_true]
     generalize (p.length-1)*(q.length-1)=n
     omega
    ·have: ¬ (0:Int)<(q.length:Int):=by omega
     simp[h4]
   ·have: ¬ (0:Int)<(p.length:Int):=by omega
    simp[h3]
  ·simp[h2]
 ·simp[h1]
theorem OG{p q:List (List UInt8)}(h:nv p q): []=vK p q/\3=vJ p q:=by
 unfold vK vJ;rw[if_pos h,if_pos h];exact⟨rfl,rfl⟩
theorem OH{p q:List (List UInt8)}(h: ¬nv p q):dc km p q=vK p q/\db km p q=vJ p q:=by
 unfold vK vJ;rw[if_neg h,if_neg h];exact⟨rfl,rfl⟩
def evE(p:List (List UInt8))(x:List UInt8):Int:=if b4 [p]=0 then if dr x=0 then tA (aJ (bc p) (bG x)) else dr x else b4 [p]
def evS(p:List (List UInt8))(x:List UInt8):List UInt8:=if evE p x=0 then bo (aJ (bc p) (bG x)) else []
structure KH (p:List (List UInt8)) (x:List UInt8):Prop where
 sp:de p
 sx:x.length<=QL
 ok:b4 [p]=0->dr x=0->Sz QM (aI (bc p))/\(bc p).length<=100/\lq (bG x)<=QM/\lq (aJ (bc p) (bG x))<=QC
theorem KI{p:List (List UInt8)}(h:b4 [p]=0):gS [p]= [aI (bc p)]:=by
 unfold gS;rw[if_pos h];rfl
theorem Pm{p:List (List UInt8)}(h:b4 [p]=0):nth (.slice NT) (gS [p]) 0=aI (bc p):=by rw[KI h];rfl
theorem OI{p:List (List UInt8)}(h:b4 [p]=0):(gS [p]).length=1:=by rw[KI h];rfl
theorem KJ{p:List (List UInt8)}{x:List UInt8}(h:KH p x): [p].length<=1000/\∀ y∈ [p],de y:=
 ⟨by simp,fun y hy=>by rw[List.mem_singleton] at hy;subst hy;exact h.sp⟩
theorem OJ{p:List (List UInt8)}{x:List UInt8}(h: ¬b4 [p]=0): []=evS p x/\b4 [p]=evE p x:=by
 have e:evE p x=b4 [p]:=if_neg h
 exact⟨by unfold evS;rw[if_neg (by rw[e];exact h)],e.symm⟩
theorem MZ{p:List (List UInt8)}{x:List UInt8}(h:b4 [p]=0)(h2: ¬dr x=0): []=evS p x/\dr x=evE p x:=by
 have e:evE p x=dr x:=by unfold evE;rw[if_pos h,if_neg h2]
 exact⟨by unfold evS;rw[if_neg (by rw[e];exact h2)],e.symm⟩
theorem OK{p:List (List UInt8)}{x:List UInt8}(h:b4 [p]=0)(h2:dr x=0)(h3:gC (aJ (bc p) (bG x))=false): []=evS p x/\6=evE p x:=by
 have e:evE p x=6:=by unfold evE;rw[if_pos h,if_pos h2];unfold tA;rw[h3];rfl
 exact⟨by unfold evS;rw[if_neg (by rw[e];decide)],e.symm⟩
theorem M0{p:List (List UInt8)}{x:List UInt8}(h:b4 [p]=0)(h2:dr x=0)(h3:gC (aJ (bc p) (bG x))=true):bo (aJ (bc p) (bG x))=evS p x/\0=evE p x:=by
 have e:evE p x=0:=by unfold evE;rw[if_pos h,if_pos h2];unfold tA;rw[h3];rfl
 exact⟨by unfold evS;rw[if_pos e],e.symm⟩
theorem KK{p:List Rat}{x:Rat}{y:List UInt8}(c1:fW y)(k1:Sz QM (aI p))(k2:p.length<=100)(k3:lq x<=QM)(k4:lq (aJ p x)<=QC):
  ((0:Int)<=0/\(0:Int)<((1:Nat):Int))/\fW y/\(Sz QM (aI p)/\(aI p).length<=100/\NOK (bk x)/\lq x<=QM)/\1<QL/\∀ z:ND,z∈ [bk (aJ p x)]->NOK z/\lq (bD z)<=QC:=by
 refine⟨by decide,c1,⟨k1,by rw[aA];exact k2,bZ _,k3⟩,by unfold QL;decide,fun z hz=> ?_⟩
 rw[List.mem_singleton] at hz
 subst hz
 rw[aN]
 exact⟨bZ _,k4⟩
theorem Hj{x:Rat}(h:dD [bk x]=true)(y:List UInt8):(0:Int)<=0/\(0:Int)<((if dD [bk x]=true then [y] else []).length:Int):=by
 rw[if_pos h];simp
theorem M1{p:List (List UInt8)}{x:List UInt8}(h:b4 [p]=0)(h2:dr x=0)(h3:gC (aJ (bc p) (bG x))=true):nth Ty.str (if gC (aJ (bc p) (bG x))=true then [bo (aJ (bc p) (bG x))] else []) 0=evS p x/\0=evE p x:=by
 rw[if_pos h3];exact M0 h h2 h3
theorem zS(q:Rat):dD [bk q]=gC q:=by unfold dD;simp[aN]
structure Sml (n b:Nat) (l:List Rat):Prop where
 len:l.length<=n
 trm:Trm l
 den:Den b l
theorem Sml.pol{n b:Nat}{l:List Rat}(h:Sml n b l)(hn:n<=41)(hb:b<=222):Pol l:=⟨Nat.le_trans h.len hn,h.trm,KA h.den hb⟩
theorem Sml.mul{n m k b c:Nat}{l l2:List Rat}(h:Sml n b l)(h2:Sml m c l2)(hn:n<1000)(hk:n+m<=k+1)(hm:1<=m)(hn1:1<=n):Sml k (b+c+1) (b6 l l2):=by
 refine⟨?_,iz h.trm h2.trm,den_mul h.den h2.den (by have:=h.len;omega)⟩
 by_cases h3:l= []
 ·rw[h3,eJ];simp
 by_cases h4:l2= []
 ·rw[h4,c7];simp
 rw[cP h3 h4]
 have:=h.len;have:=h2.len
 omega
theorem Sml.add{n m b c:Nat}{l l2:List Rat}(h:Sml n b l)(h2:Sml m c l2):Sml (max n m) (b+c+1) (bL (· + ·) l l2):=
 ⟨by have:=ft (· + ·) l l2;have:=h.len;have:=h2.len;omega,fq _ _ _,den_add h.den h2.den⟩
theorem Sml.sub{n m b c:Nat}{l l2:List Rat}(h:Sml n b l)(h2:Sml m c l2):Sml (max n m) (b+c+1) (bL (· - ·) l l2):=
 ⟨by have:=ft (· - ·) l l2;have:=h.len;have:=h2.len;omega,fq _ _ _,MR h.den h2.den⟩
theorem xy{n b m c:Nat}{p q:List Rat}(hp:Sml n b p)(hq:Sml m c q)(hn:n<=41)(hm:m<=41)(hb:b<=200)(hc:c<=200)(h0:q≠ []){s r:List Rat}(ps:Pol s)(pr:Pol r)(hl:r.length<q.length)
  (h:∀ x,aJ s x*aJ q x+aJ r x=aJ p x):mH (txP p) (txP q)/\dvE (txP p) (txP q)=0/\dvS (txP p) (txP q)=txP s/\dvR (txP p) (txP q)=txP r:=by
 have e1:QD=10000000000:=rfl
 have e2:QC=100000000000:=rfl
 have e3:QL=1000000000:=rfl
 have pp:=hp.pol hn (by omega)
 have pq:=hq.pol hm (by omega)
 have hlp:=hp.len
 have hlq:=hq.len
 have hbd:b+(p.length+1-q.length)*(c+1)<=10000:=by
  have:(p.length+1-q.length)*(c+1)<=42*201:=Nat.mul_le_mul (by omega) (by omega)
  omega
 obtain⟨u1,u2⟩:=pG h0 hp.trm hq.trm ps.trm pr.trm hl h
 obtain⟨k1,k2⟩:=nt (K:=10000) hp.den hq.den h0 hq.trm hbd (by omega)
 have hok:fo (aI p) (aI q):=C8 (b:=b) (c:=c) (fS _) (fS _) (by rw[aH];exact hp.den) (by rw[aH];exact hq.den) (by rw[aA];omega) (by rw[aA];omega)
  (by rw[aA];exact List.length_pos_iff.2 h0) (by rw[aH];exact hq.trm) (by rw[aA,aA];omega) (by omega)
 have t1:cm s=0:=by unfold cm;rw[if_neg (by have:=ps.len;omega),if_pos (by rw[ou];exact ps.fit)]
 have t2:cm r=0:=by unfold cm;rw[if_neg (by have:=pr.len;omega),if_pos (by rw[ou];exact pr.fit)]
 have hrt:aS (divN p q).2=r:=by rw[u2,jC pr.trm]
 have hc2:=ov pp pq
 have hE:dvE (txP p) (txP q)=0:=by
  unfold dvE
  rw[if_pos hc2,pp.num,pq.num,if_neg h0,u1,hrt,if_pos t1,t2]
 refine⟨⟨pp.short,pq.short,fun _ _=> ?_⟩,hE,?_,?_⟩
 ·rw[pp.num,pq.num]
  refine⟨hok,⟨ff fun x hx=> ?_,?_⟩,k2.sz (by omega),?_⟩
  ·have:=k1 x hx;omega
  ·rw[aA,jD];omega
  ·rw[aA,u2];have:=pr.len;omega
 ·unfold dvS
  rw[if_pos hE,pp.num,pq.num,u1];unfold gT;rw[if_pos t1];rfl
 ·unfold dvR
  rw[if_pos hE,pp.num,pq.num,hrt];unfold gT;rw[if_pos t2];rfl
theorem Sml.div{n b m c k:Nat}{p q:List Rat}(hp:Sml n b p)(hq:Sml m c q)(h0:q≠ [])(hk:b+(n+1)*(c+1)<=k):(∀ x∈(divN p q).1,lq x<=k)/\Sml m k (divN p q).2/\(divN p q).2.length<q.length:=by
 have hlp:=hp.len
 have hbd:b+(p.length+1-q.length)*(c+1)<=k:=by
  have:(p.length+1-q.length)*(c+1)<=(n+1)*(c+1):=Nat.mul_le_mul (by omega) (Nat.le_refl _)
  omega
 obtain⟨k1,k2⟩:=nt (K:=k) hp.den hq.den h0 hq.trm hbd (by have:=hp.den.pos;omega)
 have hs:=dK (p:=p) (List.length_pos_iff.2 h0) (hq.trm h0)
 exact⟨k1,⟨by have:=hq.len;omega,eQ hp.trm,k2⟩,hs⟩
theorem xz{q:List Rat}:(((txP q).length:Nat):Int)=0↔q= []:=by
 rw[cb]
 constructor
 ·intro h;exact List.eq_nil_of_length_eq_zero (by omega)
 ·intro h;rw[h];rfl
theorem OL{l:List Rat}(h:Pol l):(txP l).length<=QL:=by
 rw[cb];have:=h.len;unfold QL;omega
theorem nw{K:Nat}(hK:1<=K):∀ l:List Rat,(∀ x∈l,lq x<=K)->Den (l.length*K+1) l
 | [],_=>lL (by omega)
 |a::l,h=>by
  obtain⟨D,d1,d2,d3⟩:=nw hK l fun x hx=>h x (List.mem_cons_of_mem _ hx)
  have ha:=h a (List.mem_cons_self ..)
  have h1:=dJ a;have h2:=dA a
  have e:(a::l).length*K+1=l.length*K+1+K:=by rw[List.length_cons,Nat.add_mul];omega
  refine⟨D*a.den,Int.mul_ne_zero d1 (dZ a),by rw[e];have:=b5 D a.den;omega,fun i=> ?_⟩
  cases i with
  |zero=>
   refine⟨a.num*D,by rw[e];have:=b5 a.num D;omega,?_⟩
   have e1:cf (a::l) 0=a:=by simp[cf]
   rw[e1,Int.mul_comm D,Rat.divInt_mul_right d1]
   exact(Rat.num_divInt_den a).symm
  |succ i=>
   obtain⟨n,n1,n2⟩:=d3 i
   refine⟨n*a.den,by rw[e];have:=b5 n a.den;omega,?_⟩
   have e1:cf (a::l) (i+1)=cf l i:=by simp[cf]
   rw[e1,n2,Rat.divInt_mul_right (dZ a)]
theorem OM{l:List Rat}{n K:Nat}(hn:l.length<=n)(ht:Trm l)(hK:1<=K)(h:∀ x∈l,lq x<=K):Sml n (n*K+1) l:=
 ⟨hn,ht,(nw hK l h).mono (by have:=Nat.mul_le_mul_right K hn;omega)⟩
theorem ED{n b m c:Nat}{l q:List Rat}(hl:Sml n b l)(hq:Sml m c q)(pl:Pol l)(pq:Pol q)(hb:(max b c+1)*(n+2)*3^m<=QD):bK fX bw (txP l) (txP q)/\fX (aI l) (aI q)/\Den ((max b c+1)*(n+2)*3^m) (bw l q):=by
 have e1:QD=10000000000:=rfl
 have e2:QC=100000000000:=rfl
 have e3:QL=1000000000:=rfl
 have hll:=hl.len;have hlq:=hq.len
 have pl1:=pl.len;have pq1:=pq.len
 have hbd:(max b c+1)*(l.length+1-q.length+1)*3^q.length<=QD:=by
  refine Nat.le_trans (Nat.mul_le_mul (Nat.mul_le_mul (Nat.le_refl _) (by omega:_<=n+2)) (Nat.pow_le_pow_right (by omega) hlq)) hb
 obtain⟨g1,g2⟩:=Ku (p:=aI l) (q:=aI q) (b:=max b c) (fS _) (fS _) (by rw[aH];exact hl.den.mono (by omega)) (by rw[aH];exact hq.den.mono (by omega)) (by rw[aA];omega) (by rw[aA];omega) (by rw[aH];exact hl.trm) (by rw[aH];exact hq.trm) (by rw[aA,aA];exact hbd)
 rw[aH,aH,aA,aA] at g2
 have g2:=g2.mono (Nat.le_refl _)
 refine⟨gF pl pq g1 (fun x hx=>by have:=g2.lq x hx;omega) ?_,g1,g2.mono (Nat.mul_le_mul (Nat.mul_le_mul (Nat.le_refl _) (by omega:_<=n+2)) (Nat.pow_le_pow_right (by omega) hlq))⟩
 have key:∀ (k:Nat) (a b:List Rat),a.length<=900->b.length<=900->Trm b->(da k a b).length<=900:=by
  intro k
  induction k with
  |zero=>intro a b ha _ _;rw[da,b7];exact ha
  |succ k ih=>
   intro a b ha hb tb
   rw[da]
   split
   ·rw[b7];exact ha
   ·rename_i hne
    by_cases hta:Trm a
    ·have:=dK (p:=a) (List.length_pos_iff.2 hne) (tb hne)
     exact ih _ _ hb (by rw[b7];omega) (dW (eQ hta))
    ·have h3:=dK (p:=a) (List.length_pos_iff.2 hne) (tb hne)

     have:∀ (k:Nat) (a b:List Rat),a.length<=900->b.length<=900->(da k a b).length<=900:=by
      intro k
      induction k with
      |zero=>intro a b ha _;rw[da,b7];exact ha
      |succ k ih2=>
       intro a b ha hb
       rw[da]
       split
       ·rw[b7];exact ha
       ·refine ih2 _ _ hb ?_
        rw[b7]
        have hlen:∀ (q:List Rat) (n:Nat) (r s:List Rat),(eS q n r s).2.length<=r.length:=by
         intro q n
         induction n with
         |zero=>intro r s;exact Nat.le_refl _
         |succ n ih3=>
          intro r s
          rw[eS]
          split
          ·have h5:=ih3 (aS (cu q r)) (s.set (r.length-q.length) (aG r/aG q))
           have h6:=eP (cu q r)
           rw[eH] at h6
           omega
          ·exact Nat.le_refl _
        have:=hlen b (a.length+1) a (List.replicate (a.length+1-b.length) 0)
        unfold divN;omega
     exact this _ _ _ hb (by rw[b7];omega)
 have:=key (q.length+1) l q (by omega) (by omega) hq.trm
 unfold bw;omega
theorem lM(l:List Rat):(cy l).length=l.length-1:=by unfold cy mF;simp
theorem ON{l:List Rat}{i:Nat}(h:i<l.length-1):cf (cy l) i=cf l (i+1)*((i+1:Nat):Rat):=by
 unfold cy mF
 conv=>lhs;unfold cf
 rw[List.getD_eq_getElem?_getD,List.getElem?_map,List.getElem?_range h]
 show cf l (i+1)*Rat.divInt ((i+1:Nat):Int) 1=_
 rw[Rat.divInt_eq_div,Rat.intCast_natCast]
 rw[show ((1:Int):Rat)=1 from rfl]
 grind
theorem EE{l:List Rat}(h:Trm l):Trm (cy l):=by
 intro hn
 have h1:=List.length_pos_iff.2 hn
 rw[lM] at h1
 have h2:l≠ []:=fun e=>by rw[e] at h1;simp at h1
 have h3:=h h2
 rw[bR (by omega)] at h3
 rw[bR (by rw[lM];omega),lM,ON (by omega),show l.length-1-1+1=l.length-1 by omega]
 have h4:((l.length-1:Nat):Rat)≠0:=by
  intro e
  have:(l.length-1:Nat)=0:=by exact_mod_cast e
  omega
 intro e
 rcases Rat.mul_eq_zero.1 e with e|e
 ·exact h3 e
 ·exact h4 e
theorem Sml.der{n b:Nat}{l:List Rat}(h:Sml n b l)(hn:n<1000000000):Sml (n-1) (b+1) (cy l):=
 ⟨by rw[lM];have:=h.len;omega,EE h.trm,Ew h.den (by have:=h.len;omega)⟩
theorem M3{l:List Rat}(hl:Pol l):bK (fun p _=>Sz QH p/\p.length<=1000) (fun a _=>cy a) (txP l) []:=by
 have e1:QH=40000000000:=rfl
 have e2:QL=1000000000:=rfl
 have e3:QC=100000000000:=rfl
 have hln:=hl.len
 refine gF (m:= []) hl nu ⟨hl.enc_ok (by omega),by rw[aA];omega⟩ ?_ (by show (cy l).length<=_;rw[lM];omega)
 intro x hx
 have hd:=Ew (nw (K:=2000) (by omega) l hl.lq) (by omega)
 have:=hd.lq x hx
 have h4:l.length*2000<=41*2000:=Nat.mul_le_mul_right _ hln
 omega
theorem vL:∀ (n:Nat) (p q:List Rat),Trm p->Trm q->Trm (da n p q)
 |0,p,q,tp,tq=>by rw[da];exact dW tp
 |n+1,p,q,tp,tq=>by
  rw[da]
  split
  ·exact dW tp
  ·exact vL n _ _ tq (dW (eQ tp))
theorem kW{p q:List Rat}(tp:Trm p)(tq:Trm q):Trm (bw p q):=vL _ _ _ tp tq
theorem ud(q:List Rat):∀ (n:Nat) (r s:List Rat),(eS q n r s).2.length<=r.length
 |0,r,s=>Nat.le_refl _
 |n+1,r,s=>by
  rw[eS]
  split
  ·have h5:=ud q n (aS (cu q r)) (s.set (r.length-q.length) (aG r/aG q))
   have h6:=eP (cu q r)
   rw[eH] at h6
   omega
  ·exact Nat.le_refl _
theorem vM:∀ (n:Nat) (p q:List Rat),(da n p q).length<=max p.length q.length
 |0,p,q=>by rw[da,b7];omega
 |n+1,p,q=>by
  rw[da]
  split
  ·rw[b7];omega
  ·have h1:=vM n q (cx (divN p q).2)
   have h2:=ud q (p.length+1) p (List.replicate (p.length+1-q.length) 0)
   rw[b7] at h1
   unfold divN at h1 ⊢
   omega
theorem nx(p q:List Rat):(bw p q).length<=max p.length q.length:=vM _ _ _
theorem ow{l:List Rat}:cx l= []↔l= []:=by
 unfold cx;simp
theorem vN:∀ (n:Nat) (p q:List Rat),q.length<n->(p≠ []∨q≠ [])->da n p q≠ []
 |0,p,q,h,_=>absurd h (by omega)
 |n+1,p,q,h,hne=>by
  rw[da]
  split
  ·rename_i hq
   intro e
   rw[ow] at e
   rcases hne with h1|h1
   ·exact h1 e
   ·exact h1 hq
  ·rename_i hq
   by_cases ht:(cx (divN p q).2).length<n
   ·exact vN n _ _ ht (.inl hq)
   ·
    have key:∀ (k:Nat) (a b:List Rat),a≠ []->da k a b≠ []:=by
     intro k
     induction k with
     |zero=>intro a b ha e;rw[da,ow] at e;exact ha e
     |succ k ih=>
      intro a b ha
      rw[da]
      split
      ·intro e;rw[ow] at e;exact ha e
      ·rename_i hb;exact ih _ _ hb
    exact key n _ _ hq
theorem iZ{p q:List Rat}(h:p≠ []∨q≠ []):bw p q≠ []:=vN _ _ _ (Nat.lt_succ_self _) h
theorem OO{n b c:Nat}{l:List Rat}(hl:Sml n b l)(pl:Pol l)(hg:fX (aI l) (aI (cy l)))(dg:Den c (bw l (cy l)))(hK:b+(n+1)*(c+1)<=QD):me (aI l)/\(∀ x∈(divN l (bw l (cy l))).1,lq x<=QD):=by
 have e1:QD=10000000000:=rfl
 have e2:QH=40000000000:=rfl
 have hll:=hl.len
 have pl1:=pl.len
 have hcK:c<=QD:=by
  have:1*(c+1)<=(n+1)*(c+1):=Nat.mul_le_mul_right _ (by omega)
  omega
 have hgl:=nx l (cy l)
 rw[lM] at hgl
 have tg:=kW hl.trm (EE hl.trm)
 have hq1:l≠ []->∀ x∈(divN l (bw l (cy l))).1,lq x<=QD:=by
  intro h
  have hbd:b+(l.length+1-(bw l (cy l)).length)*(c+1)<=QD:=by
   have:(l.length+1-(bw l (cy l)).length)*(c+1)<=(n+1)*(c+1):=Nat.mul_le_mul_right _ (by omega)
   omega
  exact(nt hl.den dg (iZ (.inl h)) tg hbd (by omega)).1
 refine⟨fun hne=> ?_,?_⟩
 ·have h:l≠ []:=fun e=>hne (by rw[e];rfl)
  rw[aH,aA]
  have hgn:=iZ (q:=cy l) (.inl h)
  have hbd:b+(l.length+1-(bw l (cy l)).length)*(c+1)<=QD:=by
   have:(l.length+1-(bw l (cy l)).length)*(c+1)<=(n+1)*(c+1):=Nat.mul_le_mul_right _ (by omega)
   omega
  refine⟨pl.enc_ok (by omega),by omega,hg,C8 (b:=b) (c:=c) (fS _) (fS _) (by rw[aH];exact hl.den) (by rw[aH];exact dg) (by rw[aA];omega) (by rw[aA];omega) (by rw[aA];exact List.length_pos_iff.2 hgn) (by rw[aH];exact tg) (by rw[aA,aA];exact hbd) hcK,?_⟩
  refine⟨ff fun x hx=>by have:=hq1 h x hx;omega,by rw[aA,jD];omega,fun hq=> ?_⟩
  rw[aH]

  have hlen:=jD l (bw l (cy l))
  have hsn:(divN l (bw l (cy l))).1≠ []:=fun e=>hq (by rw[e];rfl)
  have hgp:=List.length_pos_iff.2 hgn
  have hlong:(bw l (cy l)).length<=l.length:=by omega
  intro h0
  have hev:∀ x,aJ (aS (divN l (bw l (cy l))).1) x*aJ (bw l (cy l)) x+aJ (divN l (bw l (cy l))).2 x=aJ l x:=fun x=>by rw[j9];exact xu hgn tg x
  have hmul:bL (· + ·) (b6 (aS (divN l (bw l (cy l))).1) (bw l (cy l))) (divN l (bw l (cy l))).2=l:=kS (fq _ _ _) hl.trm fun x=>by rw[C5,dn];exact hev x
  have hs:=dK (p:=l) hgp (tg hgn)
  have h1:=ft (· + ·) (b6 (aS (divN l (bw l (cy l))).1) (bw l (cy l))) (divN l (bw l (cy l))).2
  rw[hmul] at h1
  have h2:=pC (l:=(divN l (bw l (cy l))).1) (List.length_pos_iff.2 hsn) h0
  by_cases hz:aS (divN l (bw l (cy l))).1= []
  ·rw[hz,eJ] at h1
   simp only[List.length_nil] at h1
   omega
  ·rw[cP hz hgn] at h1
   omega
 ·intro x hx
  by_cases h:l= []
  ·subst h
   have e0:(divN [] (bw [] (cy []))).1= [0]:=by decide+kernel
   rw[e0,List.mem_singleton] at hx
   rw[hx]
   exact Nat.le_trans iV (by omega)
  ·exact hq1 h x hx
theorem Hk{l:List Rat}(h:∀ x∈(divN l (bw l (cy l))).1,lq x<=QD):∀ x∈cw l,lq x<=2*QD:=by
 intro x hx
 unfold cw at hx
 split at hx
 ·simp at hx
 ·obtain⟨y,hy,rfl⟩:=List.mem_map.1 hx
  have h1:=h y hy
  have h2:=xg y (aG (divN l (bw l (cy l))).1)
  have hp:0<(divN l (bw l (cy l))).1.length:=List.length_pos_of_mem hy
  have h3:=h (aG (divN l (bw l (cy l))).1) (by rw[bR hp];exact oe (by omega))
  omega
theorem Df(l:List Rat):(cw l).length<=l.length+1:=by
 unfold cw
 split
 ·simp
 ·rw[b7,jD];omega
theorem M4{n b c:Nat}{l:List Rat}(hl:Sml n b l)(pl:Pol l)(hg:fX (aI l) (aI (cy l)))(dg:Den c (bw l (cy l)))(hK:b+(n+1)*(c+1)<=QD):bK (fun p _=>me p) (fun a _=>cw a) (txP l) []:=by
 have e1:QD=10000000000:=rfl
 have e2:QC=100000000000:=rfl
 have e3:QL=1000000000:=rfl
 obtain⟨h1,h2⟩:=OO hl pl hg dg hK
 refine gF (m:= []) pl nu h1 (fun x hx=> ?_) ?_
 ·have:=Hk h2 x hx;omega
 ·show (cw l).length<=_
  have:=Df l;have:=pl.len;omega
theorem M5{b:Nat}{l:List Rat}(h:Den b l)(i:Nat):Den b (aS [cf l i]):=by
 refine kT ?_
 obtain⟨D,d1,d2,d3⟩:=h
 refine⟨D,d1,d2,fun j=> ?_⟩
 cases j with
 |zero=>obtain⟨n,n1,n2⟩:=d3 i;exact⟨n,n1,by rw[<- n2];simp[cf]⟩
 |succ j=>exact⟨0,by rw[hZ];omega,by rw[Rat.zero_divInt,bF (by simp)]⟩
theorem zT{n b m c:Nat}{p q:List Rat}(hp:Sml n b p)(hq:Sml m c q)(hnm:n*m<=1000):∀ k,k<=n->Den (1+k*(b+c+2)) (gR p q k)/\(gR p q k).length<=1+k*m
 |0,_=>⟨lL (by omega),by simp[gR]⟩
 |k+1,hk=>by
  obtain⟨h1,h2⟩:=zT hp hq hnm k (by omega)
  have hkm:k*m<=n*m:=Nat.mul_le_mul_right _ (by omega)
  have hl:(gR p q k).length<1000000000:=by omega
  rw[gR,tQ,Nat.add_mul,Nat.add_mul]
  refine⟨(den_add (den_mul h1 hq.den hl) (M5 hp.den _)).mono (by omega),?_⟩
  have h3:=ft (· + ·) (b6 (gR p q k) q) (aS [cf p (p.length-1-k)])
  have h4:=tS (gR p q k) q
  have h5:=eP [cf p (p.length-1-k)]
  simp only[List.length_cons,List.length_nil] at h5
  have h6:=hq.len
  by_cases hz:gR p q k= []
  ·rw[hz,eJ] at h3
   simp only[List.length_nil] at h3
   rw[hz,eJ]
   omega
  ·omega
theorem KL{n b m c:Nat}{p q:List Rat}(hp:Sml n b p)(hq:Sml m c q)(pp:Pol p)(pq:Pol q)(hnm:n*m<=98)(hb:b<=100000)(hc:c<=100000)(hn:n<=98)(hm:m<=98):bK xq km (txP p) (txP q):=by
 have e1:QM=400000000:=rfl
 have e2:QC=100000000000:=rfl
 have e3:QL=1000000000:=rfl
 have e4:QH=40000000000:=rfl
 have hlp:=hp.len;have hlq:=hq.len
 have key:∀ k,k<=n->Den 19700000 (gR p q k)/\(gR p q k).length<=99:=by
  intro k hk
  obtain⟨h1,h2⟩:=zT hp hq (by omega) k hk
  have h3:k*(b+c+2)<=98*200002:=Nat.mul_le_mul (by omega) (by omega)
  have h4:k*m<=n*m:=Nat.mul_le_mul_right _ hk
  exact⟨h1.mono (by omega),by omega⟩
 refine gF pp pq ⟨pp.enc_ok (by omega),by rw[aA];omega,fun k hk=> ?_⟩ ?_ ?_
 ·rw[aA] at hk ⊢
  rw[aH,aH]
  obtain⟨h1,h2⟩:=key k (by omega)
  have h5:=den_mul h1 hq.den (by omega)
  refine⟨h1.sz (by omega),pq.enc_ok (by omega),by rw[aA];omega,by rw[aA];omega,bZ _,?_,?_⟩
  ·rw[aN];exact Nat.le_trans (kl pp.lq (by omega) _) (by omega)
  ·rw[aH,aH];exact h5.sz (by omega)
 ·intro x hx
  have:=(key p.length (by omega)).1.lq x hx
  omega
 ·have:=(key p.length (by omega)).2
  show (gR p q p.length).length<=_
  omega
def smB(n K:Nat)(p:List (List UInt8)):Bool:=decide (cQ p=0)&&decide (p.length<=n)&&p.all (fun q=>decide (q.length<=10000))&&(bc p).all fun x=>decide (lq x<=K)
theorem cO{n K:Nat}{p:List (List UInt8)}(h:smB n K p=true)(hn:n<=41)(hK:1<=K):Pol (bc p)/\txP (bc p)=p/\Sml n (n*K+1) (bc p):=by
 unfold smB at h
 simp only[Bool.and_eq_true,decide_eq_true_iff,List.all_eq_true] at h
 obtain⟨⟨⟨h1,h2⟩,h3⟩,h4⟩:=h
 have hs:de p:=⟨by unfold QL;omega,fun q hq=>by have:=h3 q hq;unfold QL;omega⟩
 obtain⟨t1,t2,t3,t4⟩:=MS hs h1
 have hl:(bc p).length=p.length:=by rw[<- t1,cb,t1]
 exact⟨⟨t2,t3,t4⟩,t1,OM (by omega) t3 hK h4⟩
theorem Pn{n K:Nat}{p q:List (List UInt8)}(hp:smB n K p=true)(hq:smB n K q=true)(hn:n<=41:=by decide)(hK:1<=K:=by decide):bK (fun p q=>Sz QH p/\Sz QH q/\p.length<=1000/\q.length<=1000) (bL (· + ·)) p q:=by
 have h:=MT (cO hp hn hK).1 (cO hq hn hK).1
 rwa [(cO hp hn hK).2.1,(cO hq hn hK).2.1] at h
theorem Po{n K:Nat}{p q:List (List UInt8)}(hp:smB n K p=true)(hq:smB n K q=true)(hn:n<=41:=by decide)(hK:1<=K:=by decide):bK (fun p q=>Sz QH p/\Sz QH q/\p.length<=1000/\q.length<=1000) (bL (· - ·)) p q:=by
 have h:=MU (cO hp hn hK).1 (cO hq hn hK).1
 rwa [(cO hp hn hK).2.1,(cO hq hn hK).2.1] at h
theorem Pp{n K:Nat}{p q:List (List UInt8)}(hp:smB n K p=true)(hq:smB n K q=true)(hn:n<=41:=by decide)(hK:1<=K:=by decide):bK (fun p q=>Sz QM p/\Sz QM q/\p.length<=100/\q.length<=100) b6 p q:=by
 have h:=xw (cO hp hn hK).1 (cO hq hn hK).1
 rwa [(cO hp hn hK).2.1,(cO hq hn hK).2.1] at h
theorem KM{n K:Nat}{p q:List (List UInt8)}(hp:smB n K p=true)(hq:smB n K q=true)(hb:(max (n*K+1) (n*K+1)+1)*(n+2)*3^n<=QD:=by decide)(hn:n<=41:=by decide)(hK:1<=K:=by decide):bK fX bw p q:=by
 have h:=(ED (cO hp hn hK).2.2 (cO hq hn hK).2.2 (cO hp hn hK).1 (cO hq hn hK).1 hb).1
 rwa [(cO hp hn hK).2.1,(cO hq hn hK).2.1] at h
theorem Pq{n K:Nat}{p:List (List UInt8)}(hp:smB n K p=true)(hn:n<=41:=by decide)(hK:1<=K:=by decide):bK (fun p _=>Sz QH p/\p.length<=1000) (fun a _=>cy a) p []:=by
 have h:=M3 (cO hp hn hK).1
 rwa [(cO hp hn hK).2.1] at h
theorem M6{l:List Rat}{n b:Nat}(h:Sml n b l)(hn:n<=41)(hb:b<=220):Pol (cy l):=(h.der (by omega)).pol (by omega) (by omega)
theorem M7{n b:Nat}{l:List Rat}(hl:Sml n b l)(hn:n<=41)(hb:b<=220)(hK:b+(n+1)*((b+2)*(n+2)*3^(n-1)+1)<=QD):bK (fun p _=>me p) (fun a _=>cw a) (txP l) []:=by
 have pl:=hl.pol hn (by omega)
 have pd:=M6 hl hn hb
 have e:max b (b+1)+1=b+2:=by omega
 have hle:(b+2)*(n+2)*3^(n-1)<=QD:=by
  have:1*((b+2)*(n+2)*3^(n-1)+1)<=(n+1)*((b+2)*(n+2)*3^(n-1)+1):=Nat.mul_le_mul_right _ (by omega)
  omega
 obtain⟨_,g1,g2⟩:=ED hl (hl.der (by omega)) pl pd (by rw[e];exact hle)
 rw[e] at g2
 exact M4 hl pl g1 g2 hK
theorem NZ{n K:Nat}{p:List (List UInt8)}(hp:smB n K p=true)(hb:n*K+1<=220:=by decide)(hq:(n*K+1)+(n+1)*((n*K+1+2)*(n+2)*3^(n-1)+1)<=QD:=by decide)(hn:n<=41:=by decide)(hK:1<=K:=by decide):bK (fun p _=>me p) (fun a _=>cw a) p []:=by
 have h:=M7 (cO hp hn hK).2.2 hn hb hq
 rwa [(cO hp hn hK).2.1] at h
theorem OP{n m K:Nat}{p q:List (List UInt8)}(hp:smB n K p=true)(hq:smB m K q=true)(hnm:n*m<=98:=by decide)(hb:n*K+1<=100000:=by decide)(hc:m*K+1<=100000:=by decide)(hn:n<=41:=by decide)(hm:m<=41:=by decide)(hK:1<=K:=by decide):xx p q:=by
 have h1:=cO hp hn hK
 have h2:=cO hq hm hK
 have h:=KL h1.2.2 h2.2.2 h1.1 h2.1 hnm hb hc (by omega) (by omega)
 rw[h1.2.1,h2.2.1] at h
 have s1:=h1.1.short;have s2:=h2.1.short
 rw[h1.2.1] at s1
 rw[h2.2.1] at s2
 exact⟨s1,s2,fun _=>h⟩
theorem Dg{n K:Nat}{p q:List (List UInt8)}(hp:smB n K p=true)(hq:smB n K q=true)(hn:n<=41:=by decide)(hK:1<=K:=by decide)(hb:K<=2000:=by decide):mH p q:=by
 have e1:QD=10000000000:=rfl
 have e2:QC=100000000000:=rfl
 have e3:QL=1000000000:=rfl
 obtain⟨p1,p2,p3⟩:=cO hp hn hK
 obtain⟨q1,q2,q3⟩:=cO hq hn hK
 have s1:=p1.short;have s2:=q1.short
 rw[p2] at s1
 rw[q2] at s2
 refine⟨s1,s2,fun _ h0=> ?_⟩
 have hlp:=p3.len;have hlq:=q3.len
 have hnK:n*K<=41*2000:=Nat.mul_le_mul hn hb
 have hbd:n*K+1+((bc p).length+1-(bc q).length)*(n*K+1+1)<=4000000:=by
  have:((bc p).length+1-(bc q).length)*(n*K+1+1)<=42*82002:=Nat.mul_le_mul (by omega) (by omega)
  omega
 obtain⟨k1,k2⟩:=nt (K:=4000000) p3.den q3.den h0 q3.trm hbd (by omega)
 have hs:=dK (p:=bc p) (List.length_pos_iff.2 h0) (q3.trm h0)
 refine⟨C8 (b:=n*K+1) (c:=n*K+1) (fS _) (fS _) (by rw[aH];exact p3.den) (by rw[aH];exact q3.den) (by rw[aA];omega) (by rw[aA];omega) (by rw[aA];exact List.length_pos_iff.2 h0) (by rw[aH];exact q3.trm) (by rw[aA,aA];omega) (by omega),⟨ff fun x hx=>by have:=k1 x hx;omega,by rw[aA,jD];omega⟩,k2.sz (by omega),by rw[aA];omega⟩
theorem KN{n K:Nat}{p:List (List UInt8)}{x:List UInt8}(hp:smB n K p=true)(hx:x.length<=3000)(hn:n<=41:=by decide)(hK:1<=K:=by decide):KH p x:=by
 have e1:QM=400000000:=rfl
 have e2:QL=1000000000:=rfl
 have e3:QC=100000000000:=rfl
 obtain⟨p1,p2,p3⟩:=cO hp hn hK
 have s1:=p1.short
 rw[p2] at s1
 refine⟨s1,by omega,fun h1 h2=> ?_⟩
 have hxl:lq (bG x)<=2000:=EC (vH h2 (by omega)).2
 have h3:=Er p1.lq hxl
 have h4:(bc p).length*(2*2000+1)<=41*(2*2000+1):=Nat.mul_le_mul_right _ p1.len
 exact⟨p1.enc_ok (by omega),by have:=p1.len;omega,by omega,by omega⟩
end Go.Cm
end
section
namespace Go.Cm
open Go.Proofs
def eK(f:Nat->Rat):Nat->Rat
 |0=>0
 |n+1=>eK f n+f n
theorem mI{f g:Nat->Rat}:∀ n,(∀ i,i<n->f i=g i)->eK f n=eK g n
 |0,_=>rfl
 |n+1,h=>by rw[eK,eK,mI n fun i hi=>h i (by omega),h n (by omega)]
theorem EF(p q:List Rat)(hq:0<q.length)(n:Nat):∀ i,i<=p.length->cf (mulN p q i) n=eK (fun k=>if k<=n then cf p k*cf q (n-k) else 0) i
 |0,_=>by
  rw[mulN,eK]
  unfold cf
  rw[List.getD_eq_getElem?_getD,List.getElem?_replicate]
  split<;>rfl
 |i+1,h=>by
  rw[mulN,iW _ _ _ _ _ _ (by rw[dC];omega),eK,<- EF p q hq n i (by omega)]
  by_cases h1:i<=n/\n<i+q.length
  ·rw[if_pos h1,if_pos h1.1]
  ·rw[if_neg h1]
   by_cases h2:i<=n
   ·rw[if_pos h2,bF (l:=q) (by omega)];grind
   ·rw[if_neg h2];grind
theorem M8(p q:List Rat)(n:Nat):cf (b6 p q) n=eK (fun k=>if k<=n then cf p k*cf q (n-k) else 0) p.length:=by
 by_cases hp:p= []
 ·subst hp;rw[eJ];rfl
 by_cases hq:q= []
 ·subst hq
  rw[c7,bF (by simp)]
  have:∀ m,eK (fun k=>if k<=n then cf p k*cf [] (n-k) else 0) m=0:=by
   intro m
   induction m with
   |zero=>rfl
   |succ m ih=>
    rw[eK,ih]
    split
    ·rw[bF (l:= []) (by simp)];grind
    ·grind
  exact(this _).symm
 ·rw[p7 hp hq,EF p q (List.length_pos_iff.2 hq) n _ (Nat.le_refl _)]
def Prm(P:Int):Prop:=1<P/\∀ a b:Int,P∣a*b->P∣a∨P∣b
theorem OQ{K:Nat}(h:1<K):∃ P:Int,Prm P/\P∣(K:Int):=by

 have hex:∃ d,1<d/\d∣K:=⟨K,h,Nat.dvd_refl K⟩
 obtain⟨d,⟨h1,h2⟩,hmin⟩:∃ d,(1<d/\d∣K)/\∀ e,e<d-> ¬ (1<e/\e∣K):=by
  have key:∀ n,(∃ d,d<=n/\1<d/\d∣K)->∃ d,(1<d/\d∣K)/\∀ e,e<d-> ¬ (1<e/\e∣K):=by
   intro n
   induction n with
   |zero=>rintro⟨d,hd,h1,_⟩;omega
   |succ n ih=>
    rintro⟨d,hd,h1,h2⟩
    by_cases hl:∃ d,d<=n/\1<d/\d∣K
    ·exact ih hl
    ·exact⟨d,⟨h1,h2⟩,fun e he hc=>hl ⟨e,by omega,hc⟩⟩
  exact key K ⟨K,Nat.le_refl K,h,Nat.dvd_refl K⟩
 refine⟨(d:Int),⟨by omega,fun a b hab=> ?_⟩,Int.natCast_dvd_natCast.2 h2⟩
 by_cases ha:(d:Int)∣a
 ·exact .inl ha
 ·right
  have hab':d∣a.natAbs*b.natAbs:=by
   have:=Int.natAbs_dvd_natAbs.2 hab
   rwa [Int.natAbs_natCast,Int.natAbs_mul] at this
  have hg:Nat.gcd d a.natAbs=1:=by
   have g1:Nat.gcd d a.natAbs∣d:=Nat.gcd_dvd_left _ _
   have g2:Nat.gcd d a.natAbs∣a.natAbs:=Nat.gcd_dvd_right _ _
   have g3:0<Nat.gcd d a.natAbs:=Nat.gcd_pos_of_pos_left _ (by omega)
   by_cases hlt:Nat.gcd d a.natAbs<d
   ·have:=hmin _ hlt
    by_cases h1g:1<Nat.gcd d a.natAbs
    ·exact absurd ⟨h1g,Nat.dvd_trans g1 h2⟩ this
    ·omega
   ·exfalso
    have e:Nat.gcd d a.natAbs=d:=by have:=Nat.le_of_dvd (by omega) g1;omega
    rw[e] at g2
    exact ha (Int.natAbs_dvd_natAbs.1 (by rwa [Int.natAbs_natCast]))
  have hcop:Nat.Coprime d a.natAbs:=hg
  have:=hcop.dvd_of_dvd_mul_left hab'
  exact Int.natAbs_dvd_natAbs.1 (by rwa [Int.natAbs_natCast])
def l6(f:Nat->Int):Nat->Int
 |0=>0
 |n+1=>l6 f n+f n
def conv(M S:Nat->Int)(n:Nat):Int:=l6 (fun k=>M k*S (n-k)) (n+1)
theorem zU{P:Int}{f:Nat->Int}:∀ n,(∀ i,i<n->P∣f i)->P∣l6 f n
 |0,_=>⟨0,by rw[l6];simp⟩
 |n+1,h=>Int.dvd_add (zU n fun i hi=>h i (by omega)) (h n (by omega))
theorem zV{P:Int}{f:Nat->Int}{i0:Nat}:∀ n,i0<n->(∀ i,i<n->i≠i0->P∣f i)->P∣l6 f n->P∣f i0
 |0,h,_,_=>absurd h (by omega)
 |n+1,h,hd,hs=>by
  rw[l6] at hs
  by_cases e:i0=n
  ·subst e
   have h1:P∣l6 f i0:=zU _ fun i hi=>hd i (by omega) (by omega)
   exact(Int.dvd_add_right h1).1 hs
  ·have h1:=hd n (by omega) (fun e2=>e e2.symm)
   exact zV n (by omega) (fun i hi hne=>hd i (by omega) hne) ((Int.dvd_add_left h1).1 hs)
theorem vO{p:Nat->Prop}(h: ¬ ∀ i,p i):∃ i,¬p i/\∀ j,j<i->p j:=by
 obtain⟨n,hn⟩:=Classical.not_forall.1 h
 have key:∀ n,(∃ i,i<=n/\ ¬p i)->∃ i,¬p i/\∀ j,j<i->p j:=by
  intro n
  induction n with
  |zero=>rintro⟨i,hi,h⟩;exact⟨i,h,fun j hj=>by omega⟩
  |succ n ih=>
   rintro⟨i,hi,h⟩
   by_cases hl:∃ i,i<=n/\ ¬p i
   ·exact ih hl
   ·exact⟨i,h,fun j hj=>Classical.not_not.1 fun e=>hl ⟨j,by omega,e⟩⟩
 exact key n ⟨n,Nat.le_refl n,hn⟩
theorem Pr{P:Int}(hP:Prm P){M S:Nat->Int}(h:∀ n,P∣conv M S n):(∀ i,P∣M i)∨∀ i,P∣S i:=by
 by_cases hM:∀ i,P∣M i
 ·exact .inl hM
 by_cases hS:∀ i,P∣S i
 ·exact .inr hS
 exfalso
 obtain⟨i0,a1,a2⟩:=vO hM
 obtain⟨j0,b1,b2⟩:=vO hS
 have h1:=h (i0+j0)
 unfold conv at h1
 have h2:=zV (i0:=i0) (i0+j0+1) (by omega) (fun i hi hne=>by
  by_cases hl:i<i0
  ·obtain⟨c,hc⟩:=a2 i hl
   exact⟨c*S (i0+j0-i),by rw[hc];grind⟩
  ·obtain⟨c,hc⟩:=b2 (i0+j0-i) (by omega)
   exact⟨M i*c,by rw[hc];grind⟩) h1
 simp only[show i0+j0-i0=j0 by omega] at h2
 rcases hP.2 _ _ h2 with h3|h3
 ·exact a1 h3
 ·exact b1 h3
def ue(M:Nat->Int):Prop:=∀ P,Prm P-> ¬ ∀ i,P∣M i
theorem zW(c:Int)(f:Nat->Int):∀ n,l6 (fun k=>c*f k) n=c*l6 f n
 |0=>by simp[l6]
 |n+1=>by rw[l6,l6,zW c f n];grind
theorem mJ(c:Int)(M S:Nat->Int)(n:Nat):conv M (fun i=>c*S i) n=c*conv M S n:=by
 unfold conv
 rw[<- zW]
 congr 1
 funext k;grind
theorem zX{M:Nat->Int}(hM:ue M):∀ (K:Nat),0<K->∀ (S A:Nat->Int),(∀ n,conv M S n=(K:Int)*A n)->∃ T:Nat->Int,(∀ n,conv M T n=A n)/\∀ i,(K:Int)*T i=S i:=by
 intro K
 induction K using Nat.strongRecOn with
 |ind K ih=>
  intro hK S A h
  by_cases h1:K=1
  ·subst h1;exact⟨S,fun n=>by rw[h];simp,fun i=>by simp⟩
  ·obtain⟨P,hP,hd⟩:=OQ (show 1<K by omega)
   have hS:∀ i,P∣S i:=by
    rcases Pr hP (fun n=>by rw[h];exact Int.dvd_trans hd (Int.dvd_mul_right _ _)) with h2|h2
    ·exact absurd h2 (hM P hP)
    ·exact h2
   obtain⟨c,hc⟩:=hd
   have hP0:P≠0:=by have:=hP.1;omega
   have hcp:0<c:=by
    have:0<P*c:=by omega
    exact Int.pos_of_mul_pos_right this (by have:=hP.1;omega)|>fun h=>h
   have hcK:c.toNat<K:=by
    have h4:c<P*c:=by
     have:=Int.mul_lt_mul_of_pos_right hP.1 hcp
     omega
    omega
   suffices hT:∃ T:Nat->Int,(∀ n,conv M T n=A n)/\∀ i,(c.toNat:Int)*T i=S i/P by
    obtain⟨T,t1,t2⟩:=hT
    refine⟨T,t1,fun i=> ?_⟩
    have t3:=t2 i
    rw[Int.toNat_of_nonneg (by omega)] at t3
    rw[hc,Int.mul_assoc,t3]
    exact Int.mul_ediv_cancel' (hS i)
   refine ih c.toNat hcK (by omega) (fun i=>S i/P) A fun n=> ?_
   have h5:conv M (fun i=>P*(S i/P)) n=conv M S n:=by
    congr 1
    funext i
    exact Int.mul_ediv_cancel' (hS i)
   rw[mJ,h,hc] at h5
   have h6:P*conv M (fun i=>S i/P) n=P*(c*A n):=by rw[h5];grind
   have h7:=Int.eq_of_mul_eq_mul_left hP0 h6
   rw[h7,Int.toNat_of_nonneg (by omega)]
end Go.Cm
namespace Go.Cm
open Go.Proofs
theorem M9{n:Int}{D:Int}:Rat.divInt n D*(D:Rat)=(n:Rat)∨D=0:=by
 by_cases h:D=0
 ·exact .inr h
 ·left
  rw[Rat.divInt_eq_div]
  have:(D:Rat)≠0:=by simpa using h
  grind
theorem xA{b:Nat}{l:List Rat}(h:Den b l):∃ (D:Int) (A:Nat->Int),D≠0/\lw D<=b/\(∀ i,lw (A i)<=b)/\∀ i,cf l i*(D:Rat)=(A i:Rat):=by
 obtain⟨D,d1,d2,d3⟩:=h
 refine⟨D,fun i=>Classical.choose (d3 i),d1,d2,fun i=>(Classical.choose_spec (d3 i)).1,fun i=> ?_⟩
 rw[(Classical.choose_spec (d3 i)).2]
 rcases M9 (n:=Classical.choose (d3 i)) (D:=D) with h|h
 ·exact h
 ·exact absurd h d1
theorem vP(f:Nat->Int)(g:Nat->Rat):∀ n,(∀ i,i<n->g i=(f i:Rat))->eK g n=(l6 f n:Rat)
 |0,_=>by simp[eK,l6]
 |n+1,h=>by rw[eK,l6,vP f g n fun i hi=>h i (by omega),h n (by omega)];simp
theorem zY(c:Rat)(f:Nat->Rat):∀ n,eK (fun k=>c*f k) n=c*eK f n
 |0=>by simp[eK]
 |n+1=>by rw[eK,eK,zY c f n];grind
theorem vQ{f:Nat->Rat}:∀ n,(∀ i,i<n->f i=0)->eK f n=0
 |0,_=>rfl
 |n+1,h=>by rw[eK,vQ n fun i hi=>h i (by omega),h n (by omega)];grind
theorem ox(f:Nat->Rat){n:Nat}:∀ m,n<=m->(∀ i,n<=i->f i=0)->eK f m=eK f n
 |0,h,_=>by rw[show n=0 by omega]
 |m+1,h,h0=>by
  by_cases e:n=m+1
  ·rw[e]
  ·rw[eK,ox f m (by omega) h0,h0 m (by omega)];grind
theorem vR(p q:List Rat)(n:Nat):cf (b6 p q) n=eK (fun k=>cf p k*cf q (n-k)) (n+1):=by
 rw[M8]
 have e1:eK (fun k=>if k<=n then cf p k*cf q (n-k) else 0) p.length=eK (fun k=>if k<=n then cf p k*cf q (n-k) else 0) (max p.length (n+1)):=by
  refine(ox _ _ (by omega) fun i hi=> ?_).symm
  rw[bF (l:=p) hi];split<;>grind
 have e2:eK (fun k=>if k<=n then cf p k*cf q (n-k) else 0) (n+1)=eK (fun k=>if k<=n then cf p k*cf q (n-k) else 0) (max p.length (n+1)):=by
  refine(ox _ _ (by omega) fun i hi=> ?_).symm
  rw[if_neg (by omega)]
 rw[e1,<- e2]
 exact mI _ fun i hi=>by rw[if_pos (by omega)]
theorem Na{m:List Rat}(hm:m≠ [])(tm:Trm m):∃ (c:Rat) (M:Nat->Int),c≠0/\ue M/\∀ i,cf m i*c=(M i:Rat):=by
 have hp:=List.length_pos_iff.2 hm
 have hl:=tm hm
 rw[bR hp] at hl
 have hK:∃ K,1<=K/\∀ x∈m,Cm.lq x<=K:=by
  refine⟨m.foldr (fun x k=>max (lq x) k) 1,?_,?_⟩
  ·clear hm tm hp hl
   induction m with
   |nil=>simp
   |cons x l ih=>simp only[List.foldr_cons];omega
  ·clear hm tm hp hl
   induction m with
   |nil=>simp
   |cons x l ih=>
    intro y hy
    simp only[List.foldr_cons]
    rcases List.mem_cons.1 hy with rfl|hy
    ·omega
    ·have:=ih y hy;omega
 obtain⟨K,k1,k2⟩:=hK
 obtain⟨D,A,d1,_,_,d4⟩:=xA (nw k1 m k2)
 have hD:(D:Rat)≠0:=by simpa using d1
 have key:∀ (N:Nat) (c:Rat) (A:Nat->Int),c≠0->(∀ i,cf m i*c=(A i:Rat))->(A (m.length-1)).natAbs<=N->∃ (c:Rat) (M:Nat->Int),c≠0/\ue M/\∀ i,cf m i*c=(M i:Rat):=by
  intro N
  induction N with
  |zero=>
   intro c A hc hA h0
   exfalso
   have h1:=hA (m.length-1)
   rw[show A (m.length-1)=0 by omega] at h1
   rcases Rat.mul_eq_zero.1 h1 with h2|h2
   ·exact hl h2
   ·exact hc h2
  |succ N ih=>
   intro c A hc hA hN
   by_cases hP:ue A
   ·exact⟨c,A,hc,hP,hA⟩
   ·obtain⟨P,h1⟩:=Classical.not_forall.1 hP
    have h2:Prm P/\∀ i,P∣A i:=by
     constructor
     ·exact Classical.not_not.1 fun e=>h1 fun h=>absurd h e
     ·exact Classical.not_not.1 fun e=>h1 fun _=>e
    obtain⟨h2,h3⟩:=h2
    have hP0:P≠0:=by have:=h2.1;omega
    have hPr:(P:Rat)≠0:=by simpa using hP0
    refine ih (c/P) (fun i=>A i/P) (by intro e;exact hc (by grind)) (fun i=> ?_) ?_
    ·have h4:P*(A i/P)=A i:=Int.mul_ediv_cancel' (h3 i)
     have h5:(P:Rat)*((A i/P:Int):Rat)=(A i:Rat):=by rw[<- Rat.intCast_mul,h4]
     have h6:=hA i
     have h7:cf m i*(c/P)*P=((A i/P:Int):Rat)*P:=by grind
     grind
    ·have hne:A (m.length-1)≠0:=by
      intro e
      have h8:=hA (m.length-1)
      rw[e] at h8
      rcases Rat.mul_eq_zero.1 h8 with h9|h9
      ·exact hl h9
      ·exact hc h9
     have h4:P*(A (m.length-1)/P)=A (m.length-1):=Int.mul_ediv_cancel' (h3 _)
     have h5:P.natAbs*(A (m.length-1)/P).natAbs=(A (m.length-1)).natAbs:=by rw[<- Int.natAbs_mul,h4]
     have h6:2<=P.natAbs:=by have:=h2.1;omega
     have h7:2*(A (m.length-1)/P).natAbs<=P.natAbs*(A (m.length-1)/P).natAbs:=Nat.mul_le_mul_right _ h6
     show (A (m.length-1)/P).natAbs<=N
     omega
 exact key _ (D:Rat) A hD d4 (Nat.le_refl _)
theorem Hl{m s a:List Rat}(ha:b6 m s=a){c:Rat}{M:Nat->Int}(hc:c≠0)(hM:ue M)(hm:∀ i,cf m i*c=(M i:Rat)){D:Int}(hD:D≠0){A:Nat->Int}(hA:∀ i,cf a i*(D:Rat)=(A i:Rat)):∃ T:Nat->Int,∀ i,cf s i*(D:Rat)=c*(T i:Rat):=by
 have hK:∃ K,1<=K/\∀ x∈s,Cm.lq x<=K:=by
  refine⟨s.foldr (fun x k=>max (lq x) k) 1,?_,?_⟩
  ·clear ha
   induction s with
   |nil=>simp
   |cons x l ih=>simp only[List.foldr_cons];omega
  ·clear ha
   induction s with
   |nil=>simp
   |cons x l ih=>
    intro y hy
    simp only[List.foldr_cons]
    rcases List.mem_cons.1 hy with rfl|hy
    ·omega
    ·have:=ih y hy;omega
 obtain⟨K,k1,k2⟩:=hK
 obtain⟨E,S,e1,_,_,e4⟩:=xA (nw k1 s k2)

 have h1:∀ n,(conv M S n:Rat)=cf a n*(c*E):=by
  intro n
  have h2:eK (fun k=>cf m k*c*(cf s (n-k)*E)) (n+1)=((l6 (fun k=>M k*S (n-k)) (n+1):Int):Rat):=vP (fun k=>M k*S (n-k)) _ _ fun i _=>by rw[hm,e4,Rat.intCast_mul]
  have h3:eK (fun k=>cf m k*c*(cf s (n-k)*E)) (n+1)=(c*E)*eK (fun k=>cf m k*cf s (n-k)) (n+1):=by
   rw[<- zY];exact mI _ fun i _=>by grind
  rw[<- vR,ha] at h3
  unfold conv
  rw[<- h2,h3];grind

 have hE:(E:Rat)≠0:=by simpa using e1
 have hDr:(D:Rat)≠0:=by simpa using hD
 have hv:=dZ c
 have hu:=CL hc
 have h4:∀ n,conv M (fun i=>(D*c.den)*S i) n=(c.num*E)*A n:=by
  intro n
  rw[mJ]
  have h5:(((D*c.den)*conv M S n:Int):Rat)=(((c.num*E)*A n:Int):Rat):=by
   rw[Rat.intCast_mul,Rat.intCast_mul,Rat.intCast_mul,Rat.intCast_mul,h1,<- hA]
   have h6:c*((c.den:Int):Rat)=(c.num:Rat):=by
    have:=Rat.num_divInt_den c
    rw[Rat.divInt_eq_div] at this
    have hvr:((c.den:Int):Rat)≠0:=by simpa using hv
    conv=>lhs;arg 1;rw[<- this]
    grind
   rw[<- h6];grind
  exact_mod_cast h5
 have hKE:c.num*E≠0:=Int.mul_ne_zero hu e1

 have h6:c*((c.den:Int):Rat)=(c.num:Rat):=by
  have:=Rat.num_divInt_den c
  rw[Rat.divInt_eq_div] at this
  have hvr:((c.den:Int):Rat)≠0:=by simpa using hv
  conv=>lhs;arg 1;rw[<- this]
  grind
 have hvr:((c.den:Int):Rat)≠0:=by simpa using hv
 have fin:∀ T:Nat->Int,(∀ i,(c.num*E)*T i=(D*c.den)*S i)->∀ i,cf s i*(D:Rat)=c*(T i:Rat):=by
  intro T hT i
  have h7:(((c.num*E)*T i:Int):Rat)=(((D*c.den)*S i:Int):Rat):=by rw[hT]
  rw[Rat.intCast_mul,Rat.intCast_mul,Rat.intCast_mul,Rat.intCast_mul,<- e4 i,<- h6] at h7
  have h8:((c.den:Int):Rat)*(E:Rat)*(cf s i*(D:Rat)-c*(T i:Rat))=0:=by grind
  rcases Rat.mul_eq_zero.1 h8 with h9|h9
  ·rcases Rat.mul_eq_zero.1 h9 with h10|h10
   ·exact absurd h10 hvr
   ·exact absurd h10 hE
  ·grind
 by_cases hpos:0<c.num*E
 ·obtain⟨T,_,t2⟩:=zX hM (c.num*E).toNat (by omega) _ A fun n=>by rw[h4 n,Int.toNat_of_nonneg (by omega)]
  refine⟨T,fin T fun i=> ?_⟩
  have:=t2 i
  rwa [Int.toNat_of_nonneg (by omega)] at this
 ·obtain⟨T,_,t2⟩:=zX hM (-(c.num*E)).toNat (by omega) (fun i=>(-1)*((D*c.den)*S i)) A fun n=>by
   rw[mJ (-1) M (fun i=>(D*c.den)*S i),h4 n,Int.toNat_of_nonneg (by omega)];grind
  refine⟨T,fin T fun i=> ?_⟩
  have:=t2 i
  rw[Int.toNat_of_nonneg (by omega)] at this
  grind
end Go.Cm
end
section
namespace Go.Cm
open Go.Proofs
def sdQ(x0:Rat):List Rat->List Rat
 | []=> []
 |_:: []=> []
 |_::a::l=>aJ (a::l) x0::sdQ x0 (a::l)
theorem Dh(x0:Rat):∀ l:List Rat,(sdQ x0 l).length=l.length-1
 | []=>rfl
 | [_]=>rfl
 |c::a::l=>by
  have:=Dh x0 (a::l)
  simp only[sdQ,List.length_cons] at this ⊢
  omega
theorem KO(x0 x:Rat):∀ l:List Rat,aJ l x-aJ l x0=(x-x0)*aJ (sdQ x0 l) x
 | []=>by simp only[sdQ,cN];grind
 | [c]=>by simp only[sdQ,j8,cN];grind
 |c::a::l=>by
  have:=KO x0 x (a::l)
  rw[c8 c (a::l) x,c8 c (a::l) x0,sdQ,c8 (aJ (a::l) x0)]
  grind
theorem EG(x0:Rat):∀ l:List Rat,2<=l.length->aG (sdQ x0 l)=aG l
 | [],h=>by simp at h
 | [_],h=>by simp at h
 | [c,a],_=>by simp[sdQ,aG,aJ];grind
 |c::a::b::l,_=>by
  have:=EG x0 (a::b::l) (by simp)
  have h2:sdQ x0 (a::b::l)≠ []:=by simp[sdQ]
  have e1:aG (sdQ x0 (c::a::b::l))=aG (sdQ x0 (a::b::l)):=by
   rw[sdQ];unfold aG
   cases h3:sdQ x0 (a::b::l) with
   |nil=>exact absurd h3 h2
   |cons y m=>simp
  rw[e1,this]
  unfold aG;simp
theorem N0(x0:Rat):∀ (l:List Rat) (i:Nat),cf l (i+1)=cf (sdQ x0 l) i-x0*cf (sdQ x0 l) (i+1)
 | [],i=>by simp only[sdQ];have:∀ j,cf [] j=0:=fun j=>bF (by simp);simp only[this];grind
 | [c],i=>by simp only[sdQ];rw[bF (l:= [c]) (by simp),bF (l:= []) (by simp),bF (l:= []) (by simp)];grind
 |c::a::l,i=>by
  have e1:cf (c::a::l) (i+1)=cf (a::l) i:=by simp[cf]
  have e2:cf (sdQ x0 (c::a::l)) (i+1)=cf (sdQ x0 (a::l)) i:=by simp[sdQ,cf]
  rw[e1,e2]
  cases i with
  |zero=>
   have e3:cf (sdQ x0 (c::a::l)) 0=aJ (a::l) x0:=by simp[sdQ,cf]
   have e4:cf (a::l) 0=a:=by simp[cf]
   rw[e3,e4,c8]
   cases l with
   |nil=>simp only[sdQ,cN];rw[bF (l:= []) (by simp)];grind
   |cons b l=>
    have e5:cf (sdQ x0 (a::b::l)) 0=aJ (b::l) x0:=by simp[sdQ,cf]
    rw[e5];grind
  |succ i=>
   have e3:cf (sdQ x0 (c::a::l)) (i+1)=cf (sdQ x0 (a::l)) i:=by simp[sdQ,cf]
   rw[e3]
   exact N0 x0 (a::l) i
theorem OR(x0:Rat)(l:List Rat):cf l 0=aJ l x0-x0*cf (sdQ x0 l) 0:=by
 match l with
 | []=>simp only[sdQ,cN];rw[bF (l:= []) (by simp)];grind
 | [c]=>simp only[sdQ,j8];rw[bF (l:= []) (by simp)];simp[cf];grind
 |c::a::l=>
  have e1:cf (c::a::l) 0=c:=by simp[cf]
  have e2:cf (sdQ x0 (c::a::l)) 0=aJ (a::l) x0:=by simp[sdQ,cf]
  rw[e1,e2,c8];grind
theorem vS:∀ (n:Nat) (l:List Rat),l.length=n->l≠ []->Trm l->∀ xs:List Nat,xs.Nodup->(∀ x∈xs,aJ l (x:Rat)=0)->xs.length<l.length
 |0,l,hn,h,_,_,_,_=>absurd (List.eq_nil_of_length_eq_zero hn) h
 |n+1,l,hn,h,t,xs,hd,hr=>by
  cases xs with
  |nil=>simp only[List.length_nil];omega
  |cons x0 xs=>
   have h0:=hr x0 (by simp)
   have hnd:=List.nodup_cons.1 hd
   by_cases h1:l.length=1
   ·exfalso
    match l,h1 with
    | [c],_=>
     rw[j8] at h0
     exact t (by simp) (by simpa [aG] using h0)
   ·have h2:2<=l.length:=by omega
    have hsl:=Dh (x0:Rat) l
    have hsn:sdQ (x0:Rat) l≠ []:=fun e=>by rw[e] at hsl;simp at hsl;omega
    have hst:Trm (sdQ (x0:Rat) l):=fun _=>by rw[EG _ _ h2];exact t h
    have:=vS n (sdQ (x0:Rat) l) (by omega) hsn hst xs hnd.2 fun x hx=>by
     have e:=KO (x0:Rat) (x:Rat) l
     rw[hr x (by simp[hx]),h0] at e
     have hne:((x:Rat)-(x0:Rat))≠0:=by
      intro e2
      have:(x:Rat)=(x0:Rat):=by grind
      have:x=x0:=by exact_mod_cast this
      exact hnd.1 (this▸hx)
     have e3:((x:Rat)-(x0:Rat))*aJ (sdQ (x0:Rat) l) x=0:=by grind
     rcases Rat.mul_eq_zero.1 e3 with e4|e4
     ·exact absurd e4 hne
     ·exact e4
    simp only[List.length_cons];omega
theorem Nb(a b:Rat):(a+b).abs<=a.abs+b.abs:=by unfold Rat.abs;split<;>split<;>split<;>grind
theorem xB(a b:Rat):(a-b).abs<=a.abs+b.abs:=by unfold Rat.abs;split<;>split<;>split<;>grind
theorem ny(a b:Rat):(a*b).abs=a.abs*b.abs:=by
 by_cases ha:0<=a
 ·by_cases hb:0<=b
  ·rw[Rat.abs_of_nonneg ha,Rat.abs_of_nonneg hb,Rat.abs_of_nonneg (Rat.mul_nonneg ha hb)]
  ·have:=Rat.mul_nonneg ha (show 0<= -b by grind)
   rw[Rat.abs_of_nonneg ha,Rat.abs_of_nonpos (by grind:b<=0),Rat.abs_of_nonpos (by grind)];grind
 ·by_cases hb:0<=b
  ·have:=Rat.mul_nonneg (show 0<= -a by grind) hb
   rw[Rat.abs_of_nonpos (by grind:a<=0),Rat.abs_of_nonneg hb,Rat.abs_of_nonpos (by grind)];grind
  ·have:=Rat.mul_nonneg (show 0<= -a by grind) (show 0<= -b by grind)
   rw[Rat.abs_of_nonpos (by grind:a<=0),Rat.abs_of_nonpos (by grind:b<=0),Rat.abs_of_nonneg (by grind)];grind
theorem KP:∀ (n:Nat) (l:List Rat) (B:Rat) (xs:List Nat),0<=B->l.length<=n->n<=xs.length->xs.Nodup->(∀ x∈xs,x<=32)->(∀ x∈xs,(aJ l (x:Rat)).abs<=B)->∀ i,(cf l i).abs<=(67:Rat)^n*B
 |0,l,B,xs,hB,hl,_,_,_,_,i=>by
  rw[bF (by omega),Rat.abs_zero,Rat.pow_zero];grind
 |n+1,l,B,xs,hB,hl,hx,hd,h32,hv,i=>by
  cases xs with
  |nil=>simp at hx
  |cons x0 xs=>
   have hnd:=List.nodup_cons.1 hd
   have h0:=hv x0 (by simp)
   have hx0:=h32 x0 (by simp)
   have hx0r:(x0:Rat)<=32:=by exact_mod_cast hx0
   have hx0p:(0:Rat)<=(x0:Rat):=by exact_mod_cast Nat.zero_le x0
   have ih:=KP n (sdQ (x0:Rat) l) (2*B) xs (by grind) (by rw[Dh];omega) (by simpa using hx) hnd.2 (fun x hx=>h32 x (by simp[hx])) (fun x hx=>by
    have e:=KO (x0:Rat) (x:Rat) l
    have h1:=hv x (by simp[hx])
    have h2:=xB (aJ l (x:Rat)) (aJ l (x0:Rat))
    rw[e,ny] at h2
    have h3:(1:Rat)<=((x:Rat)-(x0:Rat)).abs:=by
     have hne:x≠x0:=fun e2=>hnd.1 (e2▸hx)
     rcases Nat.lt_or_gt_of_ne hne with h4|h4
     ·have:(x:Rat)+1<=(x0:Rat):=by exact_mod_cast h4
      rw[Rat.abs_of_nonpos (by grind)];grind
     ·have:(x0:Rat)+1<=(x:Rat):=by exact_mod_cast h4
      rw[Rat.abs_of_nonneg (by grind)];grind
    have h5:(0:Rat)<=(aJ (sdQ (x0:Rat) l) (x:Rat)).abs:=Rat.abs_nonneg
    have h6:=Rat.mul_le_mul_of_nonneg_right h3 h5
    grind)
   have hp:(1:Rat)<=(67:Rat)^n:=by
    have:∀ n:Nat,(1:Rat)<=(67:Rat)^n:=by
     intro n
     induction n with
     |zero=>rw[Rat.pow_zero];grind
     |succ n ih=>rw[Rat.pow_succ];grind
    exact this n
   have hpB:B<=(67:Rat)^n*B:=by
    have:=Rat.mul_le_mul_of_nonneg_right hp hB;grind
   have key:∀ (u v:Rat),u.abs<=(67:Rat)^n*(2*B)->v.abs<=(67:Rat)^n*(2*B)->(u-(x0:Rat)*v).abs<=(67:Rat)^(n+1)*B-B:=by
    intro u v hu hv'
    have h1:=xB u ((x0:Rat)*v)
    rw[ny,Rat.abs_of_nonneg hx0p] at h1
    have h2:(x0:Rat)*v.abs<=32*((67:Rat)^n*(2*B)):=by
     have a1:=Rat.mul_le_mul_of_nonneg_right hx0r (Rat.abs_nonneg (x:=v))
     have a2:=Rat.mul_le_mul_of_nonneg_left hv' (show (0:Rat)<=32 by grind)
     grind
    rw[Rat.pow_succ]
    generalize (67:Rat)^n=w at*
    grind
   cases i with
   |zero=>
    rw[OR (x0:Rat) l]
    have h1:=xB (aJ l (x0:Rat)) ((x0:Rat)*cf (sdQ (x0:Rat) l) 0)
    have h2:=key 0 (cf (sdQ (x0:Rat) l) 0) (by rw[Rat.abs_zero];grind) (ih 0)
    have h3:((0:Rat)-(x0:Rat)*cf (sdQ (x0:Rat) l) 0).abs=((x0:Rat)*cf (sdQ (x0:Rat) l) 0).abs:=by
     rw[show (0:Rat)-(x0:Rat)*cf (sdQ (x0:Rat) l) 0= -((x0:Rat)*cf (sdQ (x0:Rat) l) 0) by grind,Rat.abs_neg]
    grind
   |succ i=>
    rw[N0 (x0:Rat) l i]
    have:=key _ _ (ih i) (ih (i+1))
    grind
def IsI(x:Rat):Prop:=∃ n:Int,x=(n:Rat)
theorem KQ{l:List Rat}(h:∀ c∈l,IsI c)(x:Nat):IsI (aJ l (x:Rat)):=by
 induction l with
 |nil=>exact⟨0,by rw[cN];rfl⟩
 |cons c l ih=>
  obtain⟨a,ha⟩:=ih fun d hd=>h d (List.mem_cons_of_mem _ hd)
  obtain⟨b,hb⟩:=h c (List.mem_cons_self ..)
  refine⟨a*(x:Int)+b,?_⟩
  rw[c8,ha,hb,Rat.intCast_add,Rat.intCast_mul,Rat.intCast_natCast]
theorem KR{l:List Rat}{K:Rat}(hK:0<=K)(h:∀ c∈l,c.abs<=K){x:Nat}(hx:x<=32):(aJ l (x:Rat)).abs<=K*(33:Rat)^l.length:=by
 have hxr:(x:Rat)<=32:=by exact_mod_cast hx
 have hxp:(0:Rat)<=(x:Rat):=by exact_mod_cast Nat.zero_le x
 induction l with
 |nil=>rw[cN,Rat.abs_zero];simp;grind
 |cons c l ih=>
  have h1:=ih fun d hd=>h d (List.mem_cons_of_mem _ hd)
  have h2:=h c (List.mem_cons_self ..)
  have hp:∀ n:Nat,(1:Rat)<=(33:Rat)^n:=by
   intro n
   induction n with
   |zero=>rw[Rat.pow_zero];grind
   |succ n ih=>rw[Rat.pow_succ];grind
  have h3:=hp l.length
  have h4:K<=K*(33:Rat)^l.length:=by
   have:=Rat.mul_le_mul_of_nonneg_left h3 hK;grind
  rw[c8,List.length_cons,Rat.pow_succ]
  have h5:=Nb (aJ l (x:Rat)*(x:Rat)) c
  rw[ny,Rat.abs_of_nonneg hxp] at h5
  have h6:=Rat.mul_le_mul_of_nonneg_left hxr (Rat.abs_nonneg (x:=aJ l (x:Rat)))
  generalize (33:Rat)^l.length=w at*
  generalize (aJ l (x:Rat)).abs=v at*
  have h7:v*(x:Rat)<=(K*w)*32:=by grind
  grind
theorem xC(n:Int):(n:Rat).abs=((n.natAbs:Nat):Rat):=by
 by_cases h:0<=n
 ·rw[Rat.abs_of_nonneg (by exact_mod_cast h)]
  have:n=(n.natAbs:Int):=by omega
  conv=>lhs;rw[this]
  rfl
 ·rw[Rat.abs_of_nonpos (by exact_mod_cast (by omega:n<=0))]
  have: -n=(n.natAbs:Int):=by omega
  rw[<- Rat.intCast_neg,this];rfl
theorem jE(c:Rat)(l:List Rat)(i:Nat):cf (l.map fun x=>x*c) i=cf l i*c:=by
 unfold cf
 simp only[List.getD_eq_getElem?_getD,List.getElem?_map]
 cases l[i]? with
 |none=>simp
 |some x=>rfl
theorem iC(c:Rat)(l:List Rat)(x:Rat):aJ (l.map fun y=>y*c) x=aJ l x*c:=by
 induction l with
 |nil=>simp only[List.map_nil,cN];grind
 |cons a l ih=>simp only[List.map_cons,c8,ih];grind
theorem Di{l:List Rat}{y:Rat}(h:y∈l):∃ i,i<l.length/\y=cf l i:=by
 obtain⟨i,hi,rfl⟩:=List.getElem_of_mem h
 refine⟨i,hi,?_⟩
 unfold cf
 rw[List.getD_eq_getElem?_getD,List.getElem?_eq_getElem hi];rfl
theorem uf(p:Nat->Bool):∀ l:List Nat,(l.filter p).length+(l.filter fun x=> !p x).length=l.length
 | []=>rfl
 |a::l=>by
  have:=uf p l
  cases h:p a<;>simp[h]<;>omega
theorem lbr(k:Nat):(((LB^k:Int)):Rat)=(1000000000:Rat)^k:=by
 induction k with
 |zero=>simp
 |succ k ih=>rw[Int.pow_succ,Rat.intCast_mul,ih,Rat.pow_succ];rfl
theorem kX{a m s:List Rat}{b:Nat}(ha:Sml 17 b a)(ha0:a≠ [])(hm:b6 m s=a)(tm:Trm m)(m1:aG m=1):Den (b+8) m:=by
 have hm0:m≠ []:=by rintro rfl;rw[eJ] at hm;exact ha0 hm.symm
 have hs0:s≠ []:=by rintro rfl;rw[c7] at hm;exact ha0 hm.symm
 have hmp:=List.length_pos_iff.2 hm0
 have hsp:=List.length_pos_iff.2 hs0
 have hlen:m.length<=17:=by
  have:=cP hm0 hs0
  rw[hm] at this
  have:=ha.len
  omega
 obtain⟨c,M,hc,hM,hMc⟩:=Na hm0 tm
 obtain⟨D,A,hD,_,hAb,hA⟩:=xA ha.den
 obtain⟨T,hT⟩:=Hl hm hc hM hMc hD hA
 have hDr:(D:Rat)≠0:=by simpa using hD

 have iL:∀ y∈m.map (fun y=>y*c),IsI y:=by
  intro y hy
  obtain⟨i,_,rfl⟩:=Di hy
  exact⟨M i,by rw[jE,hMc]⟩
 have iT:∀ y∈s.map (fun y=>y*((D:Rat)/c)),IsI y:=by
  intro y hy
  obtain⟨i,_,rfl⟩:=Di hy
  refine⟨T i,?_⟩
  rw[jE]
  have:=hT i
  grind
 have bA:∀ y∈a.map (fun y=>y*(D:Rat)),y.abs<=(1000000000:Rat)^b:=by
  intro y hy
  obtain⟨i,_,rfl⟩:=Di hy
  rw[jE,hA,xC,<- lbr]
  have:=Ev (hAb i)
  exact_mod_cast this

 have hroots:=vS a.length a rfl ha0 ha.trm ((List.range 33).filter fun x=>decide (aJ a (x:Rat)=0)) (List.nodup_range.filter _) (fun x hx=>by simpa using(List.mem_filter.1 hx).2)
 have hsum:=uf (fun x=>decide (aJ a (x:Rat)=0)) (List.range 33)
 have hal:=ha.len
 rw[List.length_range] at hsum
 have hK:(0:Rat)<=(1000000000:Rat)^b:=Rat.pow_nonneg (by grind)
 have h33:(0:Rat)<=(33:Rat)^17:=Rat.pow_nonneg (by grind)
 have hbd:=KP m.length (m.map fun y=>y*c) ((1000000000:Rat)^b*(33:Rat)^17) ((List.range 33).filter fun x=> !decide (aJ a (x:Rat)=0)) (Rat.mul_nonneg hK h33) (by simp) (by omega) (List.nodup_range.filter _)
  (fun x hx=>by have:=List.mem_range.1 (List.mem_filter.1 hx).1;omega) (fun x hx=>by
   have hx32:x<=32:=by have:=List.mem_range.1 (List.mem_filter.1 hx).1;omega
   have hne:aJ a (x:Rat)≠0:=by simpa using(List.mem_filter.1 hx).2
   obtain⟨u,hu⟩:=KQ iL x
   obtain⟨v,hv⟩:=KQ iT x
   have e1:(u:Rat)*(v:Rat)=aJ (a.map fun y=>y*(D:Rat)) (x:Rat):=by
    rw[<- hu,<- hv,iC,iC,iC,<- hm,dn];grind
   have hv0:v≠0:=by
    rintro rfl
    rw[iC] at e1
    have:aJ a (x:Rat)*(D:Rat)=0:=by rw[<- e1];simp
    rcases Rat.mul_eq_zero.1 this with h|h
    ·exact hne h
    ·exact hDr h
   have h1:=KR hK bA hx32
   rw[<- e1,ny] at h1
   have h2:(1:Rat)<=(v:Rat).abs:=by
    rw[xC]
    have:1<=v.natAbs:=by omega
    exact_mod_cast this
   have h3:=Rat.mul_le_mul_of_nonneg_left h2 (Rat.abs_nonneg (x:=(u:Rat)))
   have h4:(33:Rat)^(a.map fun y=>y*(D:Rat)).length<=(33:Rat)^17:=by
    have hmono:∀ (n k:Nat),n<=k->(33:Rat)^n<=(33:Rat)^k:=by
     intro n k hnk
     induction k with
     |zero=>rw[show n=0 by omega];grind
     |succ k ih=>
      by_cases e:n=k+1
      ·rw[e];grind
      ·have:=ih (by omega)
       have hp:(0:Rat)<=(33:Rat)^k:=Rat.pow_nonneg (by grind)
       rw[Rat.pow_succ];grind
    exact hmono _ _ (by rw[List.length_map];omega)
   have h5:=Rat.mul_le_mul_of_nonneg_left h4 hK
   rw[hu]
   grind)

 have hlw:∀ i,lw (M i)<=b+8:=by
  intro i
  have h1:=hbd i
  rw[jE,hMc,xC] at h1
  have h67:(67:Rat)^m.length<=(67:Rat)^17:=by
   have hmono:∀ (n k:Nat),n<=k->(67:Rat)^n<=(67:Rat)^k:=by
    intro n k hnk
    induction k with
    |zero=>rw[show n=0 by omega];grind
    |succ k ih=>
     by_cases e:n=k+1
     ·rw[e];grind
     ·have:=ih (by omega)
      have hp:(0:Rat)<=(67:Rat)^k:=Rat.pow_nonneg (by grind)
      rw[Rat.pow_succ];grind
   exact hmono _ _ hlen
  have h2:=Rat.mul_le_mul_of_nonneg_right h67 (Rat.mul_nonneg hK h33)
  have h3:(67:Rat)^17*(33:Rat)^17<=(1000000000:Rat)^7:=by decide+kernel
  have h4:=Rat.mul_le_mul_of_nonneg_left h3 hK
  have h5:(((M i).natAbs:Nat):Rat)<=(((LB^(b+7):Int)):Rat):=by
   rw[lbr,zI]
   generalize (67:Rat)^m.length=w1 at*
   generalize (67:Rat)^17=w2 at*
   generalize (33:Rat)^17=w3 at*
   generalize (1000000000:Rat)^7=w4 at*
   generalize (1000000000:Rat)^b=w5 at*
   grind
  have h6:((M i).natAbs:Int)<=LB^(b+7):=by exact_mod_cast h5
  refine kL ?_
  have h7:(LB:Int)^(b+8)=LB^(b+7)*LB:=Int.pow_succ _ _
  have h8:=lbpos (b+7)
  have h9:LB^(b+7)<LB^(b+7)*LB:=by
   have:=Int.mul_lt_mul_of_pos_left (show (1:Int)<LB by decide) h8
   simpa using this
  omega

 have hlast:=hMc (m.length-1)
 rw[<- bR hmp,m1] at hlast
 have hM0:M (m.length-1)≠0:=by
  intro e
  rw[e] at hlast
  apply hc
  grind
 refine⟨M (m.length-1),hM0,hlw _,fun i=>⟨M i,hlw i,?_⟩⟩
 have h1:=hMc i
 have hc2:c=(M (m.length-1):Rat):=by grind
 rw[Rat.divInt_eq_div,<- hc2,<- h1]
 grind
theorem Dj{s:List UInt8}{i:Nat}(hi:i<s.length)(h:(s.take i).all (· !=47)=true)(hb:s.getD i 0=47):s.take i=tN s/\s.drop (i+1)=tD s/\true=cl s:=by
 have e:s=s.take i++47::s.drop (i+1):=by
  rw[<- hb,List.getD_eq_getElem?_getD,List.getElem?_eq_getElem hi]
  simp only[Option.getD_some]
  rw[<- List.drop_eq_getElem_cons hi,List.take_append_drop]
 have hc:∀ c∈s.take i,c≠47:=by
  rw[List.all_eq_true] at h
  intro c hc
  simpa using h c hc
 have k:=Kz (b:=s.drop (i+1)) hc
 rw[<- e] at k
 refine⟨k.1.symm,?_,k.2.symm⟩
 unfold tD tR
 rw[if_pos k.2,k.1,List.length_take,Nat.min_eq_left (by omega)]
theorem Hm{s:List UInt8}{i:Nat}(hi:i<s.length)(h:(s.take i).all (· !=47)=true)(hb: ¬s.getD i 0=47):(s.take (i+1)).all (· !=47)=true:=by
 rw[List.take_succ_eq_append_getElem hi,List.all_append,h]
 rw[List.getD_eq_getElem?_getD,List.getElem?_eq_getElem hi] at hb
 simpa using hb
theorem KS{s:List UInt8}{i:Nat}(hi: ¬i<s.length)(h:(s.take i).all (· !=47)=true):s=tN s/\ [49]=tD s/\false=cl s:=by
 rw[List.take_of_length_le (by omega)] at h
 have hs:cl s=false:=uc fun c hc=>by
  rw[List.all_eq_true] at h
  simpa using h c hc
 exact⟨(tz hs).symm,by unfold tD;rw[hs];rfl,hs.symm⟩
def QK:Nat:=10000000
def GQ(K:Nat)(a:List UInt8):Prop:=bo (bG a)=a/\lq (bG a)<=K
theorem GQ.parts{K:Nat}{a:List UInt8}(h:GQ K a):tN a=Lib.itoa (bG a).num/\tD a=Lib.itoa ((bG a).den:Int):=by
 have:=kU (bG a)
 rw[h.1] at this
 exact⟨this.1,this.2.1⟩
theorem GQ.nums{K:Nat}{a:List UInt8}(h:GQ K a):ao (tN a)=(bG a).num/\ao (tD a)=((bG a).den:Int):=by
 rw[h.parts.1,h.parts.2]
 exact⟨(bb _).2,(bb _).2⟩
theorem GQ.rs{K:Nat}{a:List UInt8}(h:GQ K a):RS (9*K+2) (tN a)/\RS (9*K+2) (tD a):=by
 rw[h.parts.1,h.parts.2]
 have h1:=fP (bG a).num
 have h2:=fP ((bG a).den:Int)
 have h3:=dJ (bG a)
 have h4:=dA (bG a)
 have h5:=h.2
 exact⟨⟨(bb _).1,by omega⟩,(bb _).1,by omega⟩
theorem GQ.len{K:Nat}{a:List UInt8}(h:GQ K a):a.length<=18*K+5:=by
 rw[<- h.1];exact vI h.2
theorem RS.mono'{n m:Nat}{s:List UInt8}(h:RS n s)(hm:n<=m):RS m s:=⟨h.1,Nat.le_trans h.2 hm⟩
theorem lN{x:Rat}{K:Nat}(h:lq x<=K):GQ K (bo x):=⟨by rw[dX],by rw[dX];exact h⟩
theorem zZ{v:Int}:Lib.itoa v= [49]↔v=1:=by
 have h1:Lib.itoa 1= [49]:=by decide+kernel
 constructor
 ·intro h
  have:=(bb v).2
  rw[h,<- h1,(bb 1).2] at this
  exact this.symm
 ·rintro rfl;exact h1
theorem oy{n d:Int}(hd:d≠0):(Rat.divInt n d).num=bQ n (dB n d)/\(((Rat.divInt n d).den:Nat):Int)=bQ d (dB n d):=by
 have h:=mC (n:=n) hd
 unfold bk at h
 have h1:=congrArg (fun x:ND=>dec x.1) h
 have h2:=congrArg (fun x:ND=>dec x.2) h
 simp only[bT] at h1 h2
 exact⟨h1,h2⟩
theorem z6{s:List UInt8}{k:Nat}(hl:s.length<=1000000000)(hi:k<s.length)(h:(s.take k).all (· !=47)=true)(hb:s.getD k 0=47):
  List.drop (Int.toNat 0) (List.take ((k:Int)).toNat s)=tN s/\List.drop (IntKind.i64.wrap ((k:Int)+1)).toNat (List.take (((s.length:Nat):Int)).toNat s)=tD s/\true=cl s:=by
 have h1:=Dj hi h hb
 rw[wi (by omega) (by omega),Int.toNat_natCast,Int.toNat_natCast,show ((k:Int)+1).toNat=k+1 by omega,List.take_length]
 exact h1
def MkR(n d:List UInt8):Prop:=RS 200000000 n/\RS 200000000 d/\ao d≠0
theorem N1{n:Nat}{s:List UInt8}(h:RS n s):lw (ao s)<=n:=Nat.le_trans (CQ h.1) h.2
theorem Nc{n:Nat}{s:List UInt8}(h:RS n s):(ao s).natAbs<10^n:=lI h
theorem pI{v w:Int}{n:Nat}(h:w.natAbs<10^n)(hv:v.natAbs<=w.natAbs):RS (n+2) (Lib.itoa v):=(np (k:=n) (by omega) (Nat.le_refl _)).1
theorem N2{n d:List UInt8}(h:MkR n d):RS 200000002 (Lib.itoa (cE (ao n) (ao d)))/\RS 200000002 (Lib.itoa (dB (ao n) (ao d))):=by
 have h1:=Nc h.2.1
 exact⟨pI h1 (pX h.2.2),pI h1 (kN h.2.2).1⟩
theorem oz{n d:List UInt8}(h:MkR n d):RS 1000000000 n/\RS 1000000000 d:=⟨h.1.mono' (by omega),h.2.1.mono' (by omega)⟩
theorem Hn{n d:List UInt8}(h:MkR n d):RF (Lib.itoa (cE (ao n) (ao d)))/\4*(Lib.itoa (cE (ao n) (ao d))).length<CAP:=by
 have:=(N2 h).1
 have h2:=this.2
 exact⟨this.1,by unfold CAP;omega⟩
theorem EH{n d:List UInt8}(h:ao d<0):Lib.itoa (-ao (Lib.itoa (cE (ao n) (ao d))))=Lib.itoa (dB (ao n) (ao d)):=by
 rw[(bb _).2];unfold dB;rw[if_pos h]
theorem EI{n d:List UInt8}(h: ¬ao d<0):Lib.itoa (cE (ao n) (ao d))=Lib.itoa (dB (ao n) (ao d)):=by
 unfold dB;rw[if_neg h]
theorem p8{a b:Int}:bu a b<0↔a<b:=by
 unfold bu
 split
 ·constructor<;>omega
 ·split
  ·constructor<;>omega
  ·constructor<;>omega
theorem vT{n d:List UInt8}(h:MkR n d):RS 1000000000 n/\RS 1000000000 (Lib.itoa (dB (ao n) (ao d)))/\ao (Lib.itoa (dB (ao n) (ao d)))≠0:=by
 rw[(bb _).2]
 exact⟨(oz h).1,(N2 h).2.mono' (by omega),(kN h.2.2).2⟩
theorem Ho{n d:List UInt8}(h:MkR n d):RS 1000000000 d/\RS 1000000000 (Lib.itoa (dB (ao n) (ao d)))/\ao (Lib.itoa (dB (ao n) (ao d)))≠0:=⟨(oz h).2,(vT h).2⟩
theorem Nd{n d:List UInt8}(h:MkR n d)(hb:Lib.itoa (bQ (ao d) (ao (Lib.itoa (dB (ao n) (ao d)))))= [49]):Lib.itoa (bQ (ao n) (ao (Lib.itoa (dB (ao n) (ao d)))))=bo (Rat.divInt (ao n) (ao d)):=by
 rw[(bb _).2] at hb ⊢
 obtain⟨h1,h2⟩:=oy (n:=ao n) h.2.2
 rw[<- h2,zZ] at hb
 unfold bo
 rw[if_pos (by omega),h1]
theorem Nf{n d:List UInt8}(h:MkR n d)(hb: ¬Lib.itoa (bQ (ao d) (ao (Lib.itoa (dB (ao n) (ao d)))))= [49]):Lib.itoa (bQ (ao n) (ao (Lib.itoa (dB (ao n) (ao d)))))++ [47]++Lib.itoa (bQ (ao d) (ao (Lib.itoa (dB (ao n) (ao d)))))=bo (Rat.divInt (ao n) (ao d)):=by
 rw[(bb _).2] at hb ⊢
 obtain⟨h1,h2⟩:=oy (n:=ao n) h.2.2
 rw[<- h2,zZ] at hb
 unfold bo
 rw[if_neg (by omega),h1,h2]
theorem Hp{n d:List UInt8}(h:MkR n d):(Lib.itoa (bQ (ao n) (ao (Lib.itoa (dB (ao n) (ao d)))))).length+1<=maxLen/\
  (Lib.itoa (bQ (ao n) (ao (Lib.itoa (dB (ao n) (ao d)))))++ [47]).length+(Lib.itoa (bQ (ao d) (ao (Lib.itoa (dB (ao n) (ao d)))))).length<=maxLen:=by
 rw[(bb _).2]
 obtain⟨h1,h2⟩:=oy (n:=ao n) h.2.2
 have h3:=n9 (ao n) (ao d) h.2.2
 have h4:=N1 h.1
 have h5:=N1 h.2.1
 have h6:=fP (Rat.divInt (ao n) (ao d)).num
 have h7:=fP (((Rat.divInt (ao n) (ao d)).den:Nat):Int)
 have h8:=dJ (Rat.divInt (ao n) (ao d))
 have h9:=dA (Rat.divInt (ao n) (ao d))
 rw[h1] at h6
 rw[h2] at h7
 rw[h1] at h8
 rw[h2] at h9
 have e7:maxLen=9223372036854775807:=rfl
 simp only[List.length_append,List.length_cons,List.length_nil]
 omega
theorem KT{n d:Int}(h:I64 n/\I64 d/\d≠0):I64 n/\I64 d/\RS 200000000 (Lib.itoa n)/\RS 200000000 (Lib.itoa d)/\ao (Lib.itoa d)≠0:=by
 have h1:=fP n;have h2:=fP d
 have h3:=CK h.1;have h4:=CK h.2.1
 rw[(bb d).2]
 exact⟨h.1,h.2.1,⟨(bb n).1,by omega⟩,⟨(bb d).1,by omega⟩,h.2.2⟩
theorem Ng{n d:Int}:bo (Rat.divInt (ao (Lib.itoa n)) (ao (Lib.itoa d)))=bo (Rat.divInt n d):=by
 rw[(bb n).2,(bb d).2]
theorem EJ{a:List UInt8}(h:GQ QK a):a.length<=QL:=by
 have:=h.len
 have e:QK=10000000:=rfl
 have e2:QL=1000000000:=rfl
 omega
theorem N3{a:List UInt8}(h:GQ QK a):RS 200000000 (tN a)/\RS 200000000 (tD a):=by
 have e:QK=10000000:=rfl
 exact⟨h.rs.1.mono' (by omega),h.rs.2.mono' (by omega)⟩
theorem fT{a:List UInt8}(h:GQ QK a):RS 20000000000 (tN a)/\RS 20000000000 (tD a):=⟨(N3 h).1.mono' (by omega),(N3 h).2.mono' (by omega)⟩
theorem z7{a b:List UInt8}(ha:GQ QK a)(hb:GQ QK b)(h1:tD a= [49])(h2:tD b= [49]):(bG a).den=1/\(bG b).den=1:=by
 have k1:=ha.nums.2
 have k2:=hb.nums.2
 rw[h1,nq] at k1
 rw[h2,nq] at k2
 omega
theorem nz{x:Rat}(h:x.den=1):x=(x.num:Rat):=by
 have:=Rat.num_divInt_den x
 rw[h,Rat.divInt_eq_div] at this
 rw[show (((1:Nat):Int):Rat)=1 from rfl] at this
 grind
theorem ug(n:Int):bo (n:Rat)=Lib.itoa n:=by unfold bo;rw[if_pos (Rat.den_intCast n),Rat.num_intCast]
theorem KU{a b:List UInt8}(ha:GQ QK a)(hb:GQ QK b)(h:tD a= [49]/\tD b= [49]):Lib.itoa (ao (tN a)+ao (tN b))=bo (bG a+bG b):=by
 obtain⟨k1,k2⟩:=z7 ha hb h.1 h.2
 rw[ha.nums.1,hb.nums.1,nz k1,nz k2,<- Rat.intCast_add,ug,Rat.num_intCast,Rat.num_intCast]
theorem KV{a b:List UInt8}(ha:GQ QK a)(hb:GQ QK b)(h:tD a= [49]/\tD b= [49]):Lib.itoa (ao (tN a)*ao (tN b))=bo (bG a*bG b):=by
 obtain⟨k1,k2⟩:=z7 ha hb h.1 h.2
 rw[ha.nums.1,hb.nums.1,nz k1,nz k2,<- Rat.intCast_mul,ug,Rat.num_intCast,Rat.num_intCast]
theorem vU{v:Int}{k:Nat}(h:lw v<=k):RS (9*k+2) (Lib.itoa v):=⟨(bb v).1,by have:=fP v;omega⟩
theorem EK{a:List UInt8}(h:GQ QK a):lw (bG a).num<=QK/\lw ((bG a).den:Int)<=QK:=by
 have:=dJ (bG a);have:=dA (bG a);have:=h.2
 omega
theorem Hq{a b:List UInt8}(ha:GQ QK a)(hb:GQ QK b):(RS 20000000000 (tN a)/\RS 20000000000 (tD b))/\
  (RS 20000000000 (tN b)/\RS 20000000000 (tD a))/\
   (RS 20000000000 (Lib.itoa (ao (tN a)*ao (tD b)))/\RS 20000000000 (Lib.itoa (ao (tN b)*ao (tD a))))/\
    (RS 20000000000 (tD a)/\RS 20000000000 (tD b))/\
     RS 200000000 (Lib.itoa (ao (Lib.itoa (ao (tN a)*ao (tD b)))+ao (Lib.itoa (ao (tN b)*ao (tD a)))))/\
      RS 200000000 (Lib.itoa (ao (tD a)*ao (tD b)))/\ao (Lib.itoa (ao (tD a)*ao (tD b)))≠0:=by
 have e:QK=10000000:=rfl
 simp only[(bb _).2]
 have k1:=EK ha;have k2:=EK hb
 rw[ha.nums.1,ha.nums.2,hb.nums.1,hb.nums.2]
 have m1:=b5 (bG a).num (bG b).den
 have m2:=b5 (bG b).num (bG a).den
 have m3:=b5 ((bG a).den:Int) (bG b).den
 have m4:=tj ((bG a).num*(bG b).den) ((bG b).num*(bG a).den)
 exact⟨⟨(fT ha).1,(fT hb).2⟩,⟨(fT hb).1,(fT ha).2⟩,⟨(vU (k:=20000000) (by omega)).mono' (by omega),(vU (k:=20000000) (by omega)).mono' (by omega)⟩,⟨(fT ha).2,(fT hb).2⟩,
  (vU (k:=20000001) (by omega)).mono' (by omega),(vU (k:=20000001) (by omega)).mono' (by omega),Int.mul_ne_zero (dZ _) (dZ _)⟩
theorem KW{a b:List UInt8}(ha:GQ QK a)(hb:GQ QK b):bo (Rat.divInt (ao (Lib.itoa (ao (Lib.itoa (ao (tN a)*ao (tD b)))+ao (Lib.itoa (ao (tN b)*ao (tD a)))))) (ao (Lib.itoa (ao (tD a)*ao (tD b)))))=bo (bG a+bG b):=by
 simp only[(bb _).2]
 rw[ha.nums.1,ha.nums.2,hb.nums.1,hb.nums.2,<- mz]
theorem Hr{a b:List UInt8}(ha:GQ QK a)(hb:GQ QK b):(RS 20000000000 (tN a)/\RS 20000000000 (tN b))/\
  (RS 20000000000 (tD a)/\RS 20000000000 (tD b))/\
   RS 200000000 (Lib.itoa (ao (tN a)*ao (tN b)))/\
    RS 200000000 (Lib.itoa (ao (tD a)*ao (tD b)))/\ao (Lib.itoa (ao (tD a)*ao (tD b)))≠0:=by
 have e:QK=10000000:=rfl
 simp only[(bb _).2]
 have k1:=EK ha;have k2:=EK hb
 rw[ha.nums.1,ha.nums.2,hb.nums.1,hb.nums.2]
 have m1:=b5 (bG a).num (bG b).num
 have m3:=b5 ((bG a).den:Int) (bG b).den
 exact⟨⟨(fT ha).1,(fT hb).1⟩,⟨(fT ha).2,(fT hb).2⟩,(vU (k:=20000001) (by omega)).mono' (by omega),(vU (k:=20000001) (by omega)).mono' (by omega),Int.mul_ne_zero (dZ _) (dZ _)⟩
theorem KX{a b:List UInt8}(ha:GQ QK a)(hb:GQ QK b):bo (Rat.divInt (ao (Lib.itoa (ao (tN a)*ao (tN b)))) (ao (Lib.itoa (ao (tD a)*ao (tD b)))))=bo (bG a*bG b):=by
 simp only[(bb _).2]
 rw[ha.nums.1,ha.nums.2,hb.nums.1,hb.nums.2,<- mA]
theorem KY{p q:List (List UInt8)}(h: ¬ (p.length:Int)=(q.length:Int)):false=decide (p=q):=by
 symm
 rw[decide_eq_false_iff_not]
 rintro rfl
 exact h rfl
theorem Hs{p q:List (List UInt8)}{k:Nat}(he:p.length=q.length)(hk:k<p.length)(h:p.take k=q.take k)(hb:nth .str p (k:Int)=nth .str q (k:Int)):p.take (k+1)=q.take (k+1):=by
 rw[fQ (t:= .str) hk,fQ (t:= .str) (by omega:k<q.length)] at hb
 rw[List.take_succ_eq_append_getElem hk,List.take_succ_eq_append_getElem (by omega:k<q.length),h,hb]
theorem KZ{p q:List (List UInt8)}{k:Nat}(hb: ¬nth .str p (k:Int)=nth .str q (k:Int)):false=decide (p=q):=by
 symm
 rw[decide_eq_false_iff_not]
 rintro rfl
 exact hb rfl
theorem K0{p q:List (List UInt8)}{k:Nat}(he:p.length=q.length)(hk: ¬k<p.length)(h:p.take k=q.take k):true=decide (p=q):=by
 symm
 rw[decide_eq_true_iff]
 rwa [List.take_of_length_le (by omega),List.take_of_length_le (by omega)] at h
theorem EL{s:List UInt8}{k:Nat}:(((s.getD (k:Int).toNat 0).toNat:Nat):Int)=47↔s.getD k 0=47:=by
 rw[Int.toNat_natCast]
 constructor
 ·intro h
  exact UInt8.toNat_inj.1 (by show _=47;omega)
 ·intro h;rw[h];rfl
theorem Ht{s:List UInt8}{k:Nat}(hl:s.length<=1000000000)(hk:k<s.length):((0:Int)<=0/\(0:Int)<=(k:Int)/\(k:Int)<=((s.length:Nat):Int))/\
  (0:Int)<=IntKind.i64.wrap ((k:Int)+1)/\IntKind.i64.wrap ((k:Int)+1)<=((s.length:Nat):Int)/\((s.length:Nat):Int)<=((s.length:Nat):Int):=by
 rw[wi (by omega) (by omega)];omega
def nl(p:List (List UInt8)):List Rat:=p.map bG
def GL(K:Nat)(p:List (List UInt8)):Prop:=∀ q∈p,GQ K q
theorem GL.tx{K:Nat}{p:List (List UInt8)}(h:GL K p):txP (nl p)=p:=by
 unfold txP nl
 rw[List.map_map]
 conv=>rhs;rw[<- List.map_id p]
 exact List.map_congr_left fun q hq=>(h q hq).1
theorem GL.lq{K:Nat}{p:List (List UInt8)}(h:GL K p):∀ x∈nl p,lq x<=K:=by
 intro x hx
 obtain⟨q,hq,rfl⟩:=List.mem_map.1 hx
 exact(h q hq).2
theorem pJ{K:Nat}{l:List Rat}(h:∀ x∈l,lq x<=K):GL K (txP l):=by
 intro q hq
 obtain⟨x,hx,rfl⟩:=List.mem_map.1 hq
 exact lN (h x hx)
theorem kY(l:List Rat):nl (txP l)=l:=Ex l
theorem jg(p:List (List UInt8)):(nl p).length=p.length:=by simp[nl]
theorem GL.mono{K m:Nat}{p:List (List UInt8)}(h:GL K p)(hm:K<=m):GL m p:=fun q hq=>⟨(h q hq).1,Nat.le_trans (h q hq).2 hm⟩
theorem GL.ex{K:Nat}{p:List (List UInt8)}(h:GL K p):∃ l,p=txP l/\∀ x∈l,Cm.lq x<=K:=⟨nl p,h.tx.symm,h.lq⟩
theorem K1{l:List Rat}{k:Nat}(h:k<l.length):nth .str (txP l) (k:Int)=bo (cf l k):=by
 rw[fQ (t:= .str) (by rw[cb];exact h)]
 unfold txP cf
 rw[List.getElem_map,List.getD_eq_getElem?_getD,List.getElem?_eq_getElem h];rfl
theorem oA:bo 0= [48]:=iB.2 rfl
theorem nA{p:List (List UInt8)}{K:Nat}(h:GL K p){k:Nat}(hk:k<p.length):nth .str p (k:Int)=bo (cf (nl p) k):=by
 have:=K1 (l:=nl p) (k:=k) (by rw[jg];exact hk)
 rwa [h.tx] at this
theorem K2{p:List (List UInt8)}{k:Nat}(hk: ¬k<p.length): [48]=bo (cf (nl p) k):=by
 rw[bF (by rw[jg];omega),oA]
theorem xD{l:List Rat}(h:0<l.length)(hl:l.length<=1000000000):nth .str (txP l) (IntKind.i64.wrap ((l.length:Int)-1))=bo (aG l):=by
 rw[cd hl,show (l.length:Int)-1=((l.length-1:Nat):Int) by omega,K1 (by omega),bR h]
theorem Nh{l:List Rat}(hl:l.length<=1000000000)(hb:(0:Int)<((txP l).length:Int))(hc:nth .str (txP l) (IntKind.i64.wrap (((txP l).length:Int)-1))= [48]):0<l.length/\aG l=0:=by
 rw[cb] at hb hc
 rw[xD (by omega) hl,iB] at hc
 exact⟨by omega,hc⟩
theorem Ni{l:List Rat}(hl:l.length<=1000000000)(hb:(0:Int)<((txP l).length:Int)-> ¬nth .str (txP l) (IntKind.i64.wrap (((txP l).length:Int)-1))= [48]):aS l=l:=by
 rw[cb] at hb
 by_cases h:l= []
 ·subst h;rfl
 ·have h1:=List.length_pos_iff.2 h
  have h2:=hb (by omega)
  rw[xD h1 hl,iB] at h2
  exact mD h h2
theorem Dk{l:List Rat}(hl:l.length<=1000000000)(h:decide ((0:Int)<((txP l).length:Int))=true):decide ((0:Int)<((txP l).length:Int))=true/\0<=IntKind.i64.wrap (((txP l).length:Int)-1)/\IntKind.i64.wrap (((txP l).length:Int)-1)<((txP l).length:Int):=by
 have h1:=of_decide_eq_true h
 refine⟨h,?_⟩
 rw[cb] at h1 ⊢
 rw[cd hl];omega
theorem Dl{l l0:List Rat}{K:Nat}(hl:l.length<=1000000000)(g1:l.length<=l0.length)(g2:∀ x∈l,lq x<=K)(g3:aS l=aS l0)(h:0<l.length/\aG l=0):
  List.take (IntKind.i64.wrap (((txP l).length:Int)-1)).toNat (txP l)=txP l.dropLast/\l.dropLast.length<=l0.length/\(∀ x∈l.dropLast,lq x<=K)/\aS l.dropLast=aS l0/\l.dropLast.length<l.length:=by
 rw[cb,cd hl,show ((l.length:Int)-1).toNat=l.length-1 by omega]
 refine⟨?_,by rw[List.length_dropLast];omega,fun x hx=>g2 x (List.dropLast_subset _ hx),?_,by rw[List.length_dropLast];omega⟩
 ·unfold txP;rw[<- List.map_take,List.dropLast_eq_take]
 ·rw[<- g3,mE (List.length_pos_iff.1 h.1) h.2]
def QK2:Nat:=4000000
theorem uh(l:List Rat)(x:Rat):txP (l++ [x])=txP l++ [bo x]:=by simp[txP]
theorem vV{K:Nat}{p:List (List UInt8)}(h:GL K p)(hK:1<=K)(i:Nat):lq (cf (nl p) i)<=K:=kl h.lq hK i
theorem oC{p q:List (List UInt8)}(hp:GL QK2 p)(hq:GL QK2 q)(k:Nat):(GL QK p/\(0:Int)<=(k:Int))/\(GL QK q/\(0:Int)<=(k:Int))/\GQ QK (bo (cf (nl p) (k:Int).toNat))/\GQ QK (bo (cf (nl q) (k:Int).toNat)):=by
 have e:QK=10000000:=rfl
 have e2:QK2=4000000:=rfl
 rw[Int.toNat_natCast]
 have h1:=vV hp (by omega) k
 have h2:=vV hq (by omega) k
 exact⟨⟨hp.mono (by omega),by omega⟩,⟨hq.mono (by omega),by omega⟩,lN (by omega),lN (by omega)⟩
theorem Dm{p q:List (List UInt8)}{k n:Nat}(h:k<n)(hn:n<=1000000):∃ z:Nat,IntKind.i64.wrap ((k:Int)+1)=(z:Int)/\txP (bO (· + ·) (nl p) (nl q) k)++ [bo (bG (bo (cf (nl p) (k:Int).toNat))+bG (bo (cf (nl q) (k:Int).toNat)))]=txP (bO (· + ·) (nl p) (nl q) z)/\z<=n/\n-z<n-k:=by
 refine⟨k+1,by rw[wi (by omega) (by omega)];omega,?_,by omega,by omega⟩
 rw[Int.toNat_natCast,dX,dX,nr,uh]
theorem Hu{p q:List (List UInt8)}(hp:GL QK2 p)(hq:GL QK2 q)(k:Nat):GL QK (txP (bO (· + ·) (nl p) (nl q) k)):=by
 refine pJ fun x hx=> ?_
 obtain⟨i,_,rfl⟩:=List.mem_map.1 hx
 have e:QK=10000000:=rfl
 have e2:QK2=4000000:=rfl
 have h1:=vV hp (by omega) i
 have h2:=vV hq (by omega) i
 have:=oa (cf (nl p) i) (cf (nl q) i)
 show lq (cf (nl p) i+cf (nl q) i)<=_
 omega
theorem K3{p q:List (List UInt8)}{k:Nat}(h1:k<=max p.length q.length)(h: ¬k<max p.length q.length):txP (aS (nl (txP (bO (· + ·) (nl p) (nl q) k))))=txP (bL (· + ·) (nl p) (nl q)):=by
 have e:k=max p.length q.length:=by omega
 unfold bL
 rw[kY,jg,jg,<- e]
def fh(c:Rat)(l:List Rat):List Rat:=aS (l.map fun x=>c*x)
def iD(k:Nat)(l:List Rat):List Rat:=aS (List.replicate k 0++l)
theorem z8{c:List UInt8}{p:List (List UInt8)}{K:Nat}(hp:GL K p){k:Nat}(h:k<p.length)(hn:p.length<=1000000):∃ z:Nat,IntKind.i64.wrap ((k:Int)+1)=(z:Int)/\txP (((nl p).take k).map fun x=>bG c*x)++ [bo (bG c*bG (nth .str p (k:Int)))]=txP (((nl p).take z).map fun x=>bG c*x)/\z<=p.length/\p.length-z<p.length-k:=by
 refine⟨k+1,by rw[wi (by omega) (by omega)];omega,?_,by omega,by omega⟩
 rw[nA hp h,dX,List.take_succ_eq_append_getElem (by rw[jg];exact h),List.map_append,<- uh]
 congr 2
 unfold cf
 rw[List.getD_eq_getElem?_getD,List.getElem?_eq_getElem (by rw[jg];exact h)];rfl
theorem Dn{c:List UInt8}{p:List (List UInt8)}(hc:GQ QK2 c)(hp:GL QK2 p)(k:Nat):GL QK (txP (((nl p).take k).map fun x=>bG c*x)):=by
 refine pJ fun x hx=> ?_
 obtain⟨y,hy,rfl⟩:=List.mem_map.1 hx
 have e:QK=10000000:=rfl
 have e2:QK2=4000000:=rfl
 have:=mB (bG c) y
 have:=hc.2
 have:=hp.lq y (List.mem_of_mem_take hy)
 omega
theorem Hv{c:List UInt8}{p:List (List UInt8)}{k:Nat}(h: ¬k<p.length):txP (aS (nl (txP (((nl p).take k).map fun x=>bG c*x))))=txP (fh (bG c) (nl p)):=by
 rw[kY,List.take_of_length_le (by rw[jg];omega)];rfl
theorem K4(k:Nat):List.replicate k [48]++ [[48]]=List.replicate (k+1) ([48]:List UInt8):=(List.replicate_succ' ..).symm
theorem Nj(k:Nat):txP (List.replicate k 0)=List.replicate k [48]:=by unfold txP;rw[List.map_replicate,oA]
theorem Do{p:List (List UInt8)}(hp:GL QK p)(k:Nat):GL QK (List.replicate k [48]++p):=by
 intro q hq
 rcases List.mem_append.1 hq with h|h
 ·rw[(List.mem_replicate.1 h).2,<- oA]
  exact lN (Nat.le_trans iV (by unfold QK;decide))
 ·exact hp q h
theorem Hw(p q:List (List UInt8)):nl (p++q)=nl p++nl q:=by simp[nl]
theorem OS(k:Nat):nl (List.replicate k [48])=List.replicate k 0:=by rw[<- Nj,kY]
theorem Hx{p:List (List UInt8)}{k:Nat}:txP (aS (nl (List.replicate k [48]++p)))=txP (iD k (nl p)):=by
 rw[Hw,OS];rfl
def eT(l m:List Rat):Nat->List Rat
 |0=> []
 |i+1=>bL (· + ·) (eT l m i) (iD i (fh (cf l i) m))
theorem K5(c:Rat)(l:List Rat)(x:Rat):aJ (fh c l) x=c*aJ l x:=by
 unfold fh
 rw[j9]
 induction l with
 |nil=>simp only[List.map_nil,cN];grind
 |cons a l ih=>simp only[List.map_cons,c8,ih];grind
theorem K6(k:Nat)(l:List Rat)(x:Rat):aJ (iD k l) x=x^k*aJ l x:=by
 unfold iD
 rw[j9,om,C4,List.length_replicate];grind
theorem EM(l m:List Rat)(x:Rat):∀ i,i<=l.length->aJ (eT l m i) x=aJ (l.take i) x*aJ m x
 |0,_=>by simp only[eT,List.take_zero,cN];grind
 |i+1,h=>by
  rw[eT,C5,K6,K5,EM l m x i (by omega),p6 l i x (by omega)]
  grind
theorem K7(l m:List Rat):∀ i,Trm (eT l m i)
 |0=>lK
 |i+1=>fq _ _ _
theorem Nk{l m:List Rat}(hl:Trm l)(hm:Trm m):eT l m l.length=b6 l m:=
 kS (K7 _ _ _) (iz hl hm) fun x=>by rw[EM l m x _ (Nat.le_refl _),List.take_length,dn]
theorem Aa{c:Rat}{l:List Rat}{K:Nat}(hc:lq c<=K)(hl:∀ x∈l,lq x<=K):∀ x∈fh c l,lq x<=2*K:=by
 intro x hx
 obtain⟨y,hy,rfl⟩:=List.mem_map.1 (gu x hx)
 have:=mB c y
 have:=hl y hy
 omega
theorem Ab{k:Nat}{l:List Rat}{K:Nat}(hK:1<=K)(hl:∀ x∈l,lq x<=K):∀ x∈iD k l,lq x<=K:=by
 intro x hx
 rcases List.mem_append.1 (gu x hx) with h|h
 ·rw[(List.mem_replicate.1 h).2];exact Nat.le_trans iV hK
 ·exact hl x h
theorem OT{l m:List Rat}{K M:Nat}(hK:1<=K)(hM:1<=M)(hl:∀ x∈l,lq x<=K)(hm:∀ x∈m,lq x<=M):∀ x∈bL (· + ·) l m,lq x<=K+M+1:=by
 intro x hx
 obtain⟨i,_,rfl⟩:=List.mem_map.1 (gu x hx)
 have h1:=kl hl hK i
 have h2:=kl hm hM i
 have:=oa (cf l i) (cf m i)
 show lq (cf l i+cf m i)<=_
 omega
theorem EN{l m:List Rat}{K:Nat}(hK:1<=K)(hl:∀ x∈l,lq x<=K)(hm:∀ x∈m,lq x<=K):∀ i,∀ x∈eT l m i,lq x<=1+i*(2*K+1)
 |0=>by intro x hx;simp[eT] at hx
 |i+1=>by
  intro x hx
  have h1:=OT (by omega) (by omega:1<=2*K) (EN hK hl hm i) (Ab (k:=i) (by omega) (Aa (kl hl hK i) hm)) x hx
  rw[Nat.add_mul]
  omega
theorem vW(c:Rat)(l:List Rat):(fh c l).length<=l.length:=by
 have:=eP (l.map fun x=>c*x)
 rwa [List.length_map] at this
theorem vX(k:Nat)(l:List Rat):(iD k l).length<=k+l.length:=by
 have:=eP (List.replicate k 0++l)
 rw[List.length_append,List.length_replicate] at this
 exact this
theorem Ac(l m:List Rat):∀ i,(eT l m i).length<=i+m.length
 |0=>by simp[eT]
 |i+1=>by
  have h1:=Ac l m i
  have h2:=ft (· + ·) (eT l m i) (iD i (fh (cf l i) m))
  have h3:=vX i (fh (cf l i) m)
  have h4:=vW (cf l i) m
  rw[eT];omega
def K8(p q:List (List UInt8)):Prop:=GL 10000 p/\GL 10000 q/\p.length<=100/\q.length<=100
theorem Hy{p q:List (List UInt8)}(h:K8 p q){k:Nat}(hk:k<p.length):(GQ QK2 (nth .str p (k:Int))/\GL QK2 q/\q.length<=1000000)/\(GL QK (txP (fh (bG (nth .str p (k:Int))) (nl q)))/\(0:Int)<=(k:Int)/\(k:Int)<=1000000/\(txP (fh (bG (nth .str p (k:Int))) (nl q))).length<=1000000)/\
  GL QK2 (txP (eT (nl p) (nl q) k))/\GL QK2 (txP (iD (k:Int).toNat (nl (txP (fh (bG (nth .str p (k:Int))) (nl q))))))/\(txP (eT (nl p) (nl q) k)).length<=1000000/\(txP (iD (k:Int).toNat (nl (txP (fh (bG (nth .str p (k:Int))) (nl q)))))).length<=1000000:=by
 obtain⟨hp,hq,hl,hl2⟩:=h
 have e:QK=10000000:=rfl
 have e2:QK2=4000000:=rfl
 rw[nA hp hk,dX,kY,Int.toNat_natCast]
 have h1:=vV hp (by omega) k
 have s1:=Aa h1 hq.lq
 have s2:=Ab (k:=k) (by omega) s1
 have s3:=EN (by omega) hp.lq hq.lq k
 have l1:=vW (cf (nl p) k) (nl q)
 have l2:=vX k (fh (cf (nl p) k) (nl q))
 have l3:=Ac (nl p) (nl q) k
 rw[jg] at l1 l3
 refine⟨⟨lN (by omega),hq.mono (by omega),by omega⟩,⟨pJ fun x hx=>by have:=s1 x hx;omega,by omega,by omega,by rw[cb];omega⟩,pJ fun x hx=> ?_,pJ fun x hx=>by have:=s2 x hx;omega,by rw[cb];omega,by rw[cb];omega⟩
 have:=s3 x hx
 have h9:k*(2*10000+1)<=100*(2*10000+1):=Nat.mul_le_mul_right _ (by omega)
 omega
theorem Dp{p q:List (List UInt8)}(h:K8 p q){k:Nat}(hk:k<p.length):∃ z:Nat,IntKind.i64.wrap ((k:Int)+1)=(z:Int)/\txP (bL (· + ·) (nl (txP (eT (nl p) (nl q) k))) (nl (txP (iD (k:Int).toNat (nl (txP (fh (bG (nth .str p (k:Int))) (nl q))))))))=txP (eT (nl p) (nl q) z)/\z<=p.length/\p.length-z<p.length-k:=by
 have hl:=h.2.2.1
 refine⟨k+1,by rw[wi (by omega) (by omega)];omega,?_,by omega,by omega⟩
 rw[nA h.1 hk,dX,kY,kY,kY,Int.toNat_natCast];rfl
theorem K9{p q:List (List UInt8)}{k:Nat}(h1:k<=p.length)(h: ¬k<p.length):txP (eT (nl p) (nl q) k)=txP (eT (nl p) (nl q) p.length):=by
 rw[show k=p.length by omega]
theorem Ps{k a b:Nat}(h:(decide ((k:Int)<(a:Int))||decide ((k:Int)<(b:Int)))=true):k<max a b:=by
 rw[Bool.or_eq_true,decide_eq_true_iff,decide_eq_true_iff] at h;omega
theorem Pt{k a b:Nat}(h:(decide ((k:Int)<(a:Int))||decide ((k:Int)<(b:Int)))=false): ¬k<max a b:=by
 rw[Bool.or_eq_false_iff,decide_eq_false_iff_not,decide_eq_false_iff_not] at h;omega
theorem ui{n:Nat}(h:n<=3000000):Cm.Roomy 1 n:=xi (by omega)
theorem Dq{p q:List (List UInt8)}(hp:GL QK2 p)(hq:GL QK2 q){k:Nat}(hk:k<=1000000):(GL QK p/\(0:Int)<=(k:Int))/\(GL QK q/\(0:Int)<=(k:Int))/\(GQ QK (bo (cf (nl p) (k:Int).toNat))/\GQ QK (bo (cf (nl q) (k:Int).toNat)))/\Cm.Roomy 1 ((txP (bO (· + ·) (nl p) (nl q) k)).length+1):=
 ⟨(oC hp hq k).1,(oC hp hq k).2.1,(oC hp hq k).2.2,ui (by rw[cb,eG];omega)⟩
theorem Ad{c:List UInt8}{p:List (List UInt8)}(hc:GQ QK2 c)(hp:GL QK2 p)(hl:p.length<=1000000){k:Nat}(hk:k<p.length):((0:Int)<=(k:Int)/\(k:Int)<((p.length:Nat):Int))/\(GQ QK c/\GQ QK (nth .str p (k:Int)))/\Cm.Roomy 1 ((txP (List.map (fun x=>bG c*x) (List.take k (nl p)))).length+1):=by
 have e:QK=10000000:=rfl
 have e2:QK2=4000000:=rfl
 have h1:=vV hp (by omega) k
 refine⟨by omega,⟨⟨hc.1,by have:=hc.2;omega⟩,by rw[nA hp hk];exact lN (by omega)⟩,ui ?_⟩
 rw[cb,List.length_map,List.length_take,jg];omega
abbrev DPD:=List Int×Int×List Int
def jF(d:DPD):Prop:=(∀ n∈d.1, -128<=n/\n<128)/\(0<=d.2.1/\d.2.1<256)/\∀ n∈d.2.2, -128<=n/\n<128
def OU(d:DPD)(n:Int):Rat:=Rat.divInt (n.tmod 10) (1+d.2.1.tmod 4)
def gG(d:DPD)(k:Nat):List Rat:=(d.1.take k).map (OU d)
def gH(r:Int):List Rat:= [Rat.divInt (-r.tmod 8) 2,1]
def kb(d:DPD):Nat->List Rat
 |0=>aS (gG d 5)
 |i+1=>b6 (kb d i) (gH (d.2.2.getD i 0))
def nB(d:DPD):List Rat:=kb d (min d.2.2.length 4)
theorem fU(n:Int)(m:Int)(hm:0<m): -m<n.tmod m/\n.tmod m<m:=by
 have h1:=Int.tmod_lt_of_pos n hm
 have h2:=Int.tmod_lt_of_pos (-n) hm
 rw[Int.neg_tmod] at h2
 omega
theorem iE{n:Int}(h:n.natAbs<1000000000):lw n<=1:=kL (by show _<(1000000000:Int)^1;omega)
theorem EO{d:DPD}(h:jF d)(l:List Int):Den 1 (l.map (OU d)):=by
 obtain⟨_,⟨h1,h2⟩,_⟩:=h
 have hD:=fU d.2.1 4 (by decide)
 have h0:0<=d.2.1.tmod 4:=Int.tmod_nonneg _ h1
 refine⟨1+d.2.1.tmod 4,by omega,iE (by omega),fun i=> ?_⟩
 by_cases hi:i<l.length
 ·refine⟨l[i].tmod 10,iE (by have:=fU l[i] 10 (by decide);omega),?_⟩
  unfold cf
  rw[List.getD_eq_getElem?_getD,List.getElem?_map,List.getElem?_eq_getElem hi];rfl
 ·exact⟨0,by rw[hZ];omega,by rw[bF (by rw[List.length_map];omega),Rat.zero_divInt]⟩
theorem vY(r:Int):Trm (gH r):=fun _=>by unfold gH aG;show (1:Rat)≠0;decide
theorem Ae(r:Int):Den 1 (gH r):=by
 have h:=fU r 8 (by decide)
 refine⟨2,by decide,iE (by decide),fun i=> ?_⟩
 match i with
 |0=>exact⟨-r.tmod 8,iE (by omega),rfl⟩
 |1=>exact⟨2,iE (by decide),by show (1:Rat)=_;decide+kernel⟩
 |i+2=>exact⟨0,by rw[hZ];omega,by rw[bF (by unfold gH;simp),Rat.zero_divInt]⟩
theorem nC{d:DPD}(h:jF d):∀ i,i<=4->Sml (5+i) (1+2*i) (kb d i)
 |0,_=>⟨by
   have:=eP (gG d 5)
   unfold kb
   have h2:(gG d 5).length<=5:=by unfold gG;rw[List.length_map,List.length_take];omega
   omega,jA _,kT (EO h _)⟩
 |i+1,hi=>by
  have ih:=nC h i (by omega)
  have:=ih.mul (l2:=gH (d.2.2.getD i 0)) (m:=2) (c:=1) (k:=5+(i+1)) ⟨by unfold gH;simp,vY _,Ae _⟩ (by omega) (by omega) (by omega) (by omega)
  exact⟨this.len,this.trm,this.den.mono (by omega)⟩
theorem Hz{d:DPD}(h:jF d):Sml 9 9 (nB d):=by
 have:=nC h (min d.2.2.length 4) (by omega)
 exact⟨by have:=this.len;unfold nB;omega,this.trm,this.den.mono (by omega)⟩
abbrev I8:Ty:= .int .i8
theorem La{l:List Int}{k:Nat}(hk:k<l.length):nth I8 l (k:Int)=l[k]:=fQ (t:=I8) hk
theorem OV{d:DPD}{k:Nat}(hk:k<d.1.length):txP (gG d k)++ [bo (OU d (nth I8 d.1 (k:Int)))]=txP (gG d (k+1)):=by
 rw[<- uh]
 unfold gG
 rw[La hk,List.take_succ_eq_append_getElem hk,List.map_append];rfl
theorem Lb{d:DPD}{k:Nat}(h: ¬ (k<d.1.length/\k<5))(hk:k<=d.1.length/\k<=5):gG d k=gG d 5:=by
 unfold gG
 by_cases h5:k=5
 ·rw[h5]
 ·rw[List.take_of_length_le (by omega),List.take_of_length_le (by omega)]
theorem EP{d:DPD}(h:jF d)(k:Nat):GL QK (txP (gG d k))/\(txP (gG d k)).length<=k:=by
 refine⟨pJ fun x hx=>Nat.le_trans ((EO h (d.1.take k)).lq x hx) (by unfold QK;decide),?_⟩
 rw[cb];unfold gG;rw[List.length_map,List.length_take];omega
theorem OW{d:DPD}{k:Nat}(h:(txP (gG d k)).length<=k)(hk:k<=d.1.length/\k<=5):(txP (gG d k)).length<=1000000000:=by omega
theorem Af(r:Int):txP (gH r)= [bo (Rat.divInt (-r.tmod 8) 2), [49]]:=by
 have h1:bo 1= [49]:=by decide+kernel
 unfold gH txP
 simp[h1]
theorem Nl{d:DPD}(h:jF d){i:Nat}(hi:i<=4)(r:Int):K8 (txP (kb d i)) [bo (Rat.divInt (-r.tmod 8) 2), [49]]:=by
 have hs:=nC h i hi
 rw[<- Af]
 refine⟨pJ fun x hx=>Nat.le_trans (hs.den.lq x hx) (by omega),pJ fun x hx=>Nat.le_trans ((Ae r).lq x hx) (by omega),by rw[cb];have:=hs.len;omega,by rw[cb];unfold gH;simp⟩
theorem OX{d:DPD}(h:jF d){i:Nat}(hi:i<d.2.2.length)(hi4:i<4):txP (eT (nl (txP (kb d i))) (nl [bo (Rat.divInt (-(nth I8 d.2.2 (i:Int)).tmod 8) 2), [49]]) (txP (kb d i)).length)=txP (kb d (i+1)):=by
 rw[<- Af,kY,kY,cb,Nk (nC h i (by omega)).trm (vY _),kb,La hi]
 congr 3
 rw[List.getD_eq_getElem?_getD,List.getElem?_eq_getElem hi];rfl
theorem OY{d:DPD}{i:Nat}(h: ¬ (i<d.2.2.length/\i<4))(hk:i<=d.2.2.length/\i<=4):txP (kb d i)=txP (nB d):=by
 unfold nB
 rw[show min d.2.2.length 4=i by omega]
theorem N4{k a n:Nat}(h:(decide ((k:Int)<(a:Int))&&decide ((k:Int)<(n:Int)))=true):k<a/\k<n:=by
 rw[Bool.and_eq_true,decide_eq_true_iff,decide_eq_true_iff] at h;omega
theorem N5{k a n:Nat}(h:(decide ((k:Int)<(a:Int))&&decide ((k:Int)<(n:Int)))=false): ¬ (k<a/\k<n):=by
 rw[Bool.and_eq_false_iff,decide_eq_false_iff_not,decide_eq_false_iff_not] at h;omega
theorem Pu{d:DPD}(h:jF d){k:Nat}(hk:k<d.2.2.length):IntKind.i64.wrap (0-(IntKind.i64.wrap (nth I8 d.2.2 (k:Int))).tmod 8)= -(nth I8 d.2.2 (k:Int)).tmod 8:=by
 have h1:=h.2.2 (nth I8 d.2.2 (k:Int)) (gr (t:=I8) hk)
 rw[wi (x:=nth I8 d.2.2 (k:Int)) (by omega) (by omega)]
 have h2:=fU (nth I8 d.2.2 (k:Int)) 8 (by decide)
 rw[wi (by omega) (by omega)];omega
theorem Pv{d:DPD}(h:jF d){k:Nat}(hk:k<d.1.length):IntKind.i64.wrap (nth I8 d.1 (k:Int))=nth I8 d.1 (k:Int):=by
 have h1:=h.1 (nth I8 d.1 (k:Int)) (gr (t:=I8) hk)
 exact wi (by omega) (by omega)
theorem HB{d:DPD}(h:jF d){k:Nat}(hk:k<d.2.2.length/\k<4):((0:Int)<=(k:Int)/\(k:Int)<((d.2.2.length:Nat):Int))/\(8:Int)≠0/\
  (I64 (IntKind.i64.wrap (0-(IntKind.i64.wrap (nth I8 d.2.2 (k:Int))).tmod 8))/\I64 2/\(2:Int)≠0)/\
   K8 (txP (kb d k)) [bo (Rat.divInt (IntKind.i64.wrap (0-(IntKind.i64.wrap (nth I8 d.2.2 (k:Int))).tmod 8)) 2), [49]]:=by
 rw[Pu h hk.1]
 have h2:=fU (nth I8 d.2.2 (k:Int)) 8 (by decide)
 exact⟨by omega,by decide,⟨by unfold I64;omega,by unfold I64;omega,by decide⟩,Nl h (by omega) _⟩
theorem HC{d:DPD}(h:jF d){k:Nat}(hk:k<d.2.2.length/\k<4):∃ z:Nat,txP (eT (nl (txP (kb d k))) (nl [bo (Rat.divInt (IntKind.i64.wrap (0-(IntKind.i64.wrap (nth I8 d.2.2 (k:Int))).tmod 8)) 2), [49]]) (txP (kb d k)).length)=txP (kb d z)/\
   IntKind.i64.wrap ((k:Int)+1)=(z:Int)/\z<=d.2.2.length/\z<=4/\4-z<4-k:=by
 rw[Pu h hk.1]
 exact⟨k+1,OX h hk.1 hk.2,wi (by omega) (by omega),by omega,by omega,by omega⟩
theorem OZ{d:DPD}{k:Nat}(h: ¬ (k<d.1.length/\k<5))(hk:k<=d.1.length/\k<=5):txP (aS (nl (txP (gG d k))))=txP (kb d 0):=by
 rw[kY,Lb h hk];rfl
theorem Pw{d:DPD}(h:jF d):IntKind.i64.wrap (1+IntKind.i64.wrap (Int.tmod d.2.1 4))=1+d.2.1.tmod 4:=by
 have hD:=fU d.2.1 4 (by decide)
 have h0:0<=d.2.1.tmod 4:=Int.tmod_nonneg _ h.2.1.1
 rw[wi (x:=d.2.1.tmod 4) (by omega) (by omega),wi (by omega) (by omega)]
theorem HD{d:DPD}(h:jF d){k:Nat}(hk:k<d.1.length/\k<5):((0:Int)<=(k:Int)/\(k:Int)<((d.1.length:Nat):Int))/\(10:Int)≠0/\(4:Int)≠0/\
    (I64 ((IntKind.i64.wrap (nth I8 d.1 (k:Int))).tmod 10)/\
      I64 (IntKind.i64.wrap (1+IntKind.i64.wrap (Int.tmod d.2.1 4)))/\
       IntKind.i64.wrap (1+IntKind.i64.wrap (Int.tmod d.2.1 4))≠0)/\
     live [some (txP (gG d k))] 0=true/\Cm.Roomy 1 ((rowOf [some (txP (gG d k))] 0).length+1):=by
 rw[Pw h,Pv h hk.1]
 have hD:=fU d.2.1 4 (by decide)
 have h0:0<=d.2.1.tmod 4:=Int.tmod_nonneg _ h.2.1.1
 have hn:=fU (nth I8 d.1 (k:Int)) 10 (by decide)
 refine⟨by omega,by decide,by decide,⟨by unfold I64;omega,by unfold I64;omega,by omega⟩,rfl,ui ?_⟩
 show (txP (gG d k)).length+1<=_
 rw[cb];unfold gG;rw[List.length_map,List.length_take];omega
theorem HE{d:DPD}(h:jF d){k:Nat}(hk:k<d.1.length/\k<5):∃ z:Nat,IntKind.i64.wrap ((k:Int)+1)=(z:Int)/\
   rowOf [some (txP (gG d k))] 0++ [bo (Rat.divInt ((IntKind.i64.wrap (nth I8 d.1 (k:Int))).tmod 10) (IntKind.i64.wrap (1+IntKind.i64.wrap (Int.tmod d.2.1 4))))]=txP (gG d z)/\
    z<=d.1.length/\z<=5/\5-z<5-k:=by
 rw[Pw h,Pv h hk.1]
 exact⟨k+1,wi (by omega) (by omega),OV hk.1,by omega,by omega,by omega⟩
theorem HF(l:List Rat)(r:Int)(j:Nat):cf (b6 l (gH r)) j=cf l j*Rat.divInt (-r.tmod 8) 2+(if j=0 then 0 else cf l (j-1)):=by
 rw[vR]
 have h0:cf (gH r) 0=Rat.divInt (-r.tmod 8) 2:=by simp[gH,cf]
 have h1:cf (gH r) 1=1:=by simp[gH,cf]
 have h2:∀ i,cf (gH r) (i+2)=0:=fun i=>bF (by simp[gH])
 cases j with
 |zero=>simp only[eK,Nat.sub_self,h0,if_true];grind
 |succ j=>
  rw[eK,eK,Nat.sub_self,h0,show j+1-j=1 by omega,h1,if_neg (by omega),show j+1-1=j by omega]
  rw[vQ j fun i hi=>by rw[show j+1-i=(j+1-i-2)+2 by omega,h2];grind]
  grind
theorem Ag{d:DPD}(h:jF d):∀ i,i<=4->∃ D:Int,D≠0/\D.natAbs<=4*2^i/\∀ j,∃ n:Int,n.natAbs<=9*10^i/\cf (kb d i) j=Rat.divInt n D
 |0,_=>by
  obtain⟨_,⟨h1,h2⟩,_⟩:=h
  have hD:=fU d.2.1 4 (by decide)
  have h0:0<=d.2.1.tmod 4:=Int.tmod_nonneg _ h1
  refine⟨1+d.2.1.tmod 4,by omega,by simp;omega,fun j=> ?_⟩
  rw[kb,xt]
  by_cases hj:j<(gG d 5).length
  ·unfold gG at hj
   rw[List.length_map] at hj
   refine⟨((d.1.take 5)[j]).tmod 10,by have:=fU ((d.1.take 5)[j]) 10 (by decide);simp;omega,?_⟩
   unfold cf gG
   rw[List.getD_eq_getElem?_getD,List.getElem?_map,List.getElem?_eq_getElem hj];rfl
  ·exact⟨0,by simp,by rw[bF (by omega),Rat.zero_divInt]⟩
 |i+1,hi=>by
  obtain⟨D,d1,d2,d3⟩:=Ag h i (by omega)
  have hr:=fU (d.2.2.getD i 0) 8 (by decide)
  refine⟨D*2,by omega,by rw[Int.natAbs_mul,Nat.pow_succ];simp only[show (2:Int).natAbs=2 from rfl];omega,fun j=> ?_⟩
  rw[kb,HF]
  obtain⟨n,n1,n2⟩:=d3 j
  generalize hrr:(d.2.2.getD i 0).tmod 8=r at*
  have hnr:(n* -r).natAbs<=9*10^i*7:=by
   rw[Int.natAbs_mul]
   exact Nat.mul_le_mul n1 (by omega)
  by_cases hj:j=0
  ·refine⟨n* -r,by rw[Nat.pow_succ];omega,?_⟩
   rw[if_pos hj,n2,Rat.divInt_mul_divInt];grind
  ·obtain⟨m,m1,m2⟩:=d3 (j-1)
   refine⟨n* -r+m*2,?_,?_⟩
   ·have h1:=Int.natAbs_add_le (n* -r) (m*2)
    have h2:(m*2).natAbs=m.natAbs*2:=Int.natAbs_mul ..
    rw[Nat.pow_succ];omega
   ·rw[if_neg hj,n2,m2,Rat.divInt_mul_divInt,<- Rat.divInt_mul_right (n:=m) (d:=D) (show (2:Int)≠0 by decide),Rat.divInt_add_divInt _ _ (by omega) (by omega),<- Int.add_mul,Rat.divInt_mul_right (by omega)]
theorem oD{d:DPD}(h:jF d):Sml 9 1 (nB d):=by
 have hs:=Hz h
 refine⟨hs.len,hs.trm,?_⟩
 obtain⟨D,d1,d2,d3⟩:=Ag h (min d.2.2.length 4) (by omega)
 have hp:2^(min d.2.2.length 4)<=2^4:=Nat.pow_le_pow_right (by decide) (by omega)
 have ht:10^(min d.2.2.length 4)<=10^4:=Nat.pow_le_pow_right (by decide) (by omega)
 exact⟨D,d1,iE (by omega),fun i=>by obtain⟨n,n1,n2⟩:=d3 i;exact⟨n,iE (by omega),n2⟩⟩
def Dv(d p:List Rat):Prop:=∃ s,Trm s/\∀ x,aJ d x*aJ s x=aJ p x
theorem Dv.refl(d:List Rat):Dv d d:=⟨[1],fun _=>by show (1:Rat)≠0;decide,fun x=>by rw[j8];grind⟩
theorem Dv.nil(d:List Rat):Dv d []:=⟨[],lK,fun x=>by rw[cN];grind⟩
theorem Dv.trans{d e p:List Rat}(h:Dv d e)(h2:Dv e p):Dv d p:=by
 obtain⟨s,s1,s2⟩:=h
 obtain⟨t,t1,t2⟩:=h2
 exact⟨b6 s t,iz s1 t1,fun x=>by rw[dn];have:=s2 x;have:=t2 x;grind⟩
theorem oE{l:List Rat}{c:Rat}(h:Trm l)(hc:c≠0):Trm (l.map fun y=>y*c):=by
 intro hn
 have hl:l≠ []:=fun e=>hn (by rw[e];rfl)
 have hp:=List.length_pos_iff.2 hl
 have h1:=h hl
 rw[bR hp] at h1
 rw[bR (by rw[List.length_map];exact hp),List.length_map,jE]
 intro e
 rcases Rat.mul_eq_zero.1 e with e|e
 ·exact h1 e
 ·exact hc e
theorem Ah{d p:List Rat}(tp:Trm p):Dv d (cx p)↔Dv d p:=by
 by_cases hp:p= []
 ·subst hp;exact Iff.rfl
 have hl:=tp hp
 constructor
 ·rintro⟨s,s1,s2⟩
  refine⟨s.map fun y=>y*aG p,oE s1 hl,fun x=> ?_⟩
  have:=s2 x
  rw[tV] at this
  rw[iC];grind
 ·rintro⟨s,s1,s2⟩
  refine⟨s.map fun y=>y*(1/aG p),oE s1 (by intro e;apply hl;grind),fun x=> ?_⟩
  have:=s2 x
  rw[iC,tV];grind
theorem Ai:∀ (n:Nat) (p q:List Rat),q.length<n->Trm p->Trm q->∀ d,Dv d (da n p q)↔(Dv d p/\Dv d q)
 |0,p,q,h,_,_,_=>absurd h (by omega)
 |n+1,p,q,h,tp,tq,d=>by
  rw[da]
  split
  ·rename_i hq
   subst hq
   rw[Ah tp]
   exact⟨fun h=>⟨h,Dv.nil d⟩,fun h=>h.1⟩
  ·rename_i hq
   have hs:=dK (p:=p) (List.length_pos_iff.2 hq) (tq hq)
   have tr:=eQ (q:=q) tp
   rw[Ai n q _ (by rw[b7];omega) tq (dW tr) d,Ah tr]
   have hev:=fun x=>xu (p:=p) hq tq x
   constructor
   ·rintro⟨⟨s,s1,s2⟩,t,t1,t2⟩
    refine⟨⟨bL (· + ·) (b6 s (divN p q).1) t,fq _ _ _,fun x=> ?_⟩,s,s1,s2⟩
    rw[C5,dn]
    have:=s2 x;have:=t2 x;have:=hev x
    grind
   ·rintro⟨⟨s,s1,s2⟩,t,t1,t2⟩
    refine⟨⟨t,t1,t2⟩,bL (· - ·) s (b6 t (divN p q).1),fq _ _ _,fun x=> ?_⟩
    rw[tU,dn]
    have:=s2 x;have:=t2 x;have:=hev x
    grind
theorem i6{p q:List Rat}(tp:Trm p)(tq:Trm q)(d:List Rat):Dv d (bw p q)↔(Dv d p/\Dv d q):=Ai _ _ _ (Nat.lt_succ_self _) tp tq d
theorem vZ:∀ (n:Nat) (p q:List Rat),Trm p->Trm q->da n p q≠ []->aG (da n p q)=1
 |0,p,q,tp,_,h=>by
  rw[da] at h ⊢
  have hp:p≠ []:=fun e=>h (by rw[e];rfl)
  rw[j7 (List.length_pos_iff.2 hp)]
  have:=tp hp;grind
 |n+1,p,q,tp,tq,h=>by
  rw[da] at h ⊢
  split
  ·rename_i hq
   rw[if_pos hq] at h
   have hp:p≠ []:=fun e=>h (by rw[e];rfl)
   rw[j7 (List.length_pos_iff.2 hp)]
   have:=tp hp;grind
  ·rename_i hq
   rw[if_neg hq] at h
   exact vZ n _ _ tq (dW (eQ tp)) h
theorem jG{p q:List Rat}(tp:Trm p)(tq:Trm q)(h:bw p q≠ []):aG (bw p q)=1:=vZ _ _ _ tp tq h
theorem Lc:bw [] []= []:=by
 have:=nx [] []
 exact List.eq_nil_of_length_eq_zero (by simpa using this)
theorem kZ{d p:List Rat}(td:Trm d)(tp:Trm p)(h:Dv d p):∃ s,Trm s/\b6 d s=p:=by
 obtain⟨s,s1,s2⟩:=h
 exact⟨s,s1,kS (iz td s1) tp fun x=>by rw[dn];exact s2 x⟩
theorem Nm{d e:List Rat}(td:Trm d)(te:Trm e)(hd:d≠ [])(he:e≠ [])(d1:aG d=1)(e1:aG e=1)(h:Dv d e)(h2:Dv e d):d=e:=by
 obtain⟨s,s1,s2⟩:=kZ td te h
 obtain⟨t,t1,t2⟩:=kZ te td h2
 have hs:s≠ []:=by rintro rfl;rw[c7] at s2;exact he s2.symm
 have ht:t≠ []:=by rintro rfl;rw[c7] at t2;exact hd t2.symm
 have l1:=cP hd hs
 have l2:=cP he ht
 rw[s2] at l1
 rw[t2] at l2
 have:=List.length_pos_iff.2 hs;have:=List.length_pos_iff.2 ht;have:=List.length_pos_iff.2 hd;have:=List.length_pos_iff.2 he
 have hl:s.length=1:=by omega
 have la:=oo hd hs
 rw[s2,e1,d1] at la
 match s,hl with
 | [c],_=>
  have hc:c=1:=by
   have:aG [c]=c:=rfl
   rw[this] at la;grind
  subst hc
  refine kS td te fun x=> ?_
  rw[<- s2,dn,j8];grind
theorem HG{p q:List Rat}(tp:Trm p)(tq:Trm q):bw p q=bw q p:=by
 by_cases h:p= []/\q= []
 ·rw[h.1,h.2]
 ·have hn:p≠ []∨q≠ []:=by
   by_cases hp:p= []
   ·exact .inr fun e=>h ⟨hp,e⟩
   ·exact .inl hp
  have g1:=iZ hn
  have g2:=iZ (p:=q) (q:=p) hn.symm
  refine Nm (kW tp tq) (kW tq tp) g1 g2 (jG tp tq g1) (jG tq tp g2) ?_ ?_
  ·rw[i6 tq tp]
   have:=(i6 tp tq _).1 (Dv.refl _)
   exact⟨this.2,this.1⟩
  ·rw[i6 tp tq]
   have:=(i6 tq tp _).1 (Dv.refl _)
   exact⟨this.2,this.1⟩
theorem Px{α:Type}(l:List α):(((l.length:Nat):Int)==0)=decide (l= []):=by
 rw[Bool.eq_iff_iff,beq_iff_eq,decide_eq_true_iff]
 constructor
 ·intro h;exact List.eq_nil_of_length_eq_zero (by omega)
 ·intro h;rw[h];rfl
theorem Py(a b:Int):(a==b)=decide (a=b):=by rw[Bool.eq_iff_iff,beq_iff_eq,decide_eq_true_iff]
theorem O0(e:Int)(p q:List (List UInt8)):(e==0&&decide (p=q))=decide (e=0/\p=q):=by rw[Py];exact(Bool.decide_and _ _).symm
theorem Aj(e:Int)(p:List (List UInt8)):(e==0&&((p.length:Nat):Int)==0)=decide (e=0/\p= []):=by rw[Px,Py];exact(Bool.decide_and _ _).symm
def L(l:List (List UInt8)):List (List UInt8):=l
theorem wp1:dvS [[45,49], [48], [48], [49]] [[45,49], [49]]= [[49], [49], [49]]/\dvR [[45,49], [48], [48], [49]] [[45,49], [49]]= []/\dvE [[45,49], [48], [48], [49]] [[45,49], [49]]=0:=by decide+kernel
theorem wp2:dvS [[49], [48], [49]] [[48], [50]]= [[48], [49,47,50]]/\dvR [[49], [48], [49]] [[48], [50]]= [[49]]/\dvE [[49], [48], [49]] [[48], [50]]=0:=by decide+kernel
theorem wp3:dvE [[49]] []=2:=by decide+kernel
theorem wp4:evS [[49], [48], [49]] [49,47,50]= [53,47,52]/\evE [[49], [48], [49]] [49,47,50]=0:=by decide+kernel
theorem wp5:evE [[49]] [50,47,50]=5:=by decide+kernel
theorem wp6:dc b6 [[49], [49]] [[45,49], [49]]= [[45,49], [48], [49]]/\db b6 [[49], [49]] [[45,49], [49]]=0:=by decide+kernel
theorem wp7:dc (bL (· + ·)) [[49], [50]] [[49], [45,50]]= [[50]]/\db (bL (· + ·)) [[49], [50]] [[49], [45,50]]=0:=by decide+kernel
theorem wp8:dc (bL (· - ·)) [[49], [50]] [[49], [50]]= []/\db (bL (· - ·)) [[49], [50]] [[49], [50]]=0:=by decide+kernel
theorem wp9:dc bw [[45,49], [48], [49]] [[49], [50], [49]]= [[49], [49]]/\db bw [[45,49], [48], [49]] [[49], [50], [49]]=0:=by decide+kernel
theorem Nn:dc bw [[50]] []= [[49]]/\db bw [[50]] []=0:=by decide+kernel
theorem Np:dc bw [] []= []/\db bw [] []=0:=by decide+kernel
theorem Nq:vK [[49], [48], [49]] [[49], [49]]= [[50], [50], [49]]/\vJ [[49], [48], [49]] [[49], [49]]=0:=by decide+kernel
theorem Nr:dc (fun a _=>cy a) [[53], [51], [48], [50]] []= [[51], [48], [54]]/\db (fun a _=>cy a) [[53], [51], [48], [50]] []=0:=by decide+kernel
theorem Ns:dc (fun a _=>cw a) [[50], [45,51], [48], [49]] []= [[45,50], [49], [49]]/\db (fun a _=>cw a) [[50], [45,51], [48], [49]] []=0:=by decide+kernel
theorem Nt:dc (fun a _=>cw a) [[55]] []= [[49]]/\db (fun a _=>cw a) [[55]] []=0:=by decide+kernel
theorem Nu:cQ [[49], [48]]=40/\cQ [[49,47,48]]=40:=by decide+kernel
theorem wsq:3<=QL/\((((0:Nat):Int)==0)=true->(((0:Nat):Int)==0)=true)/\((((0:Nat):Int)==0)=true->(((0:Nat):Int)==0)=true/\2<=QL)/\((((0:Nat):Int)==0)=true->(((0:Nat):Int)==0)=true)/\
  ((((0:Nat):Int)==0)=true->(((0:Nat):Int)==0)=true)/\((((0:Nat):Int)==0)=true->(((0:Nat):Int)==0)=true/\1<=QL)/\((((0:Nat):Int)==0)=true->(((0:Nat):Int)==0)=true):=by
 unfold QL;decide
theorem ok6:bK (fun p q=>Sz QM p/\Sz QM q/\p.length<=100/\q.length<=100) b6 [[49], [49]] [[45,49], [49]]:=Pp (n:=4) (K:=1) (by decide+kernel) (by decide+kernel)
theorem ok7:bK (fun p q=>Sz QH p/\Sz QH q/\p.length<=1000/\q.length<=1000) (bL (· + ·)) [[49], [50]] [[49], [45,50]]:=Pn (n:=4) (K:=1) (by decide+kernel) (by decide+kernel)
theorem ok8:bK (fun p q=>Sz QH p/\Sz QH q/\p.length<=1000/\q.length<=1000) (bL (· - ·)) [[49], [50]] [[49], [50]]:=Po (n:=4) (K:=1) (by decide+kernel) (by decide+kernel)
theorem ok9:bK fX bw [[45,49], [48], [49]] [[49], [50], [49]]:=KM (n:=4) (K:=1) (by decide+kernel) (by decide+kernel)
theorem PN:bK fX bw [[50]] []:=KM (n:=4) (K:=1) (by decide+kernel) (by decide+kernel)
theorem PO:bK fX bw [] []:=KM (n:=4) (K:=1) (by decide+kernel) (by decide+kernel)
theorem PP:xx [[49], [48], [49]] [[49], [49]]:=OP (n:=4) (m:=4) (K:=1) (by decide+kernel) (by decide+kernel)
theorem PQ:bK (fun p _=>Sz QH p/\p.length<=1000) (fun a _=>cy a) [[53], [51], [48], [50]] []:=Pq (n:=4) (K:=1) (by decide+kernel)
theorem PR:bK (fun p _=>me p) (fun a _=>cw a) [[50], [45,51], [48], [49]] []:=NZ (n:=4) (K:=1) (by decide+kernel)
theorem PS:bK (fun p _=>me p) (fun a _=>cw a) [[55]] []:=NZ (n:=4) (K:=1) (by decide+kernel)
theorem Pz:de [[49], [48]]/\de [[49,47,48]]:=by unfold de QL;decide
theorem N6{n:Nat}(h:n<=1000):n<=QL:=by unfold QL;omega
end Go.Cm
end
section
namespace Go.Cm
open Go.Proofs
theorem Ak:∀ t:Nat,t+2<=2*3^t
 |0=>by decide
 |t+1=>by have:=Ak t;rw[Nat.pow_succ];omega
theorem uj{n b:Nat}{l q:List Rat}(hl:Sml n b l)(hq:Sml n b q)(pl:Pol l)(pq:Pol q)(hb:(b+1)*(2*3^n)<=QD):bK fX bw (txP l) (txP q):=by
 have e1:QD=10000000000:=rfl
 have e2:QC=100000000000:=rfl
 have e3:QL=1000000000:=rfl
 have hll:=hl.len;have hlq:=hq.len
 have pl1:=pl.len;have pq1:=pq.len
 have hbd:(b+1)*(l.length+1-q.length+1)*3^q.length<=QD:=by
  refine Nat.le_trans ?_ hb
  rw[Nat.mul_assoc]
  refine Nat.mul_le_mul_left _ ?_
  obtain⟨t,ht⟩:∃ t,n=q.length+t:=⟨n-q.length,by omega⟩
  rw[ht,Nat.pow_add]
  have h1:l.length+1-q.length+1<=2*3^t:=Nat.le_trans (by omega) (Ak t)
  have h2:=Nat.mul_le_mul_right (3^q.length) h1
  have h3:2*3^t*3^q.length=2*(3^q.length*3^t):=by rw[Nat.mul_assoc,Nat.mul_comm (3^t)]
  omega
 obtain⟨g1,g2⟩:=Ku (p:=aI l) (q:=aI q) (b:=b) (fS _) (fS _) (by rw[aH];exact hl.den) (by rw[aH];exact hq.den) (by rw[aA];omega) (by rw[aA];omega) (by rw[aH];exact hl.trm) (by rw[aH];exact hq.trm) (by rw[aA,aA];exact hbd)
 rw[aH,aH,aA,aA] at g2
 refine gF pl pq g1 (fun x hx=>by have:=(g2.mono hbd).lq x hx;omega) ?_
 have:=nx l q
 omega
theorem HH{b k:Nat}{l:List Rat}{c:Rat}(h:Den b l)(hc:lq c<=k):Den (b+k) (l.map fun y=>y*c):=by
 obtain⟨D,d1,d2,d3⟩:=h
 refine⟨D*c.den,Int.mul_ne_zero d1 (dZ c),by have:=b5 D c.den;have:=dA c;omega,fun i=> ?_⟩
 obtain⟨n,n1,n2⟩:=d3 i
 refine⟨n*c.num,by have:=b5 n c.num;have:=dJ c;omega,?_⟩
 rw[jE,n2]
 conv=>lhs;arg 2;rw[<- Rat.num_divInt_den c]
 rw[Rat.divInt_mul_divInt]
theorem Al{a g x:List Rat}{b:Nat}(ha:Sml 17 b a)(tg:Trm g)(tx:Trm x)(g0:g≠ [])(g1:aG g=1)(h:b6 g x=a):Sml 17 (b+8+b) x:=by
 have hb:=ha.den.pos
 by_cases hx:x= []
 ·subst hx;exact⟨by simp,lK,lL (by omega)⟩
 have ha0:a≠ []:=by
  rintro rfl
  rcases pF h with h|h
  ·exact g0 h
  ·exact hx h
 have hl:=cP g0 hx
 rw[h] at hl
 have hgl:=List.length_pos_iff.2 g0
 have hxl:=List.length_pos_iff.2 hx
 have hla:=oo g0 hx
 rw[h,g1] at hla
 have hlx:aG x=aG a:=by grind
 have hx0:=tx hx
 have hm:b6 (cx x) (g.map fun y=>y*aG x)=a:=by
  refine kS (iz (dW tx) (oE tg hx0)) ha.trm fun z=> ?_
  rw[dn,tV,iC,<- h,dn];grind
 have hd:=kX ha ha0 hm (dW tx) (by rw[j7 hxl];grind)
 have hlq:lq (aG x)<=b:=by
  rw[hlx,bR (by have:=List.length_pos_iff.2 ha0;omega)]
  exact ha.den.lq _ (oe (by have:=List.length_pos_iff.2 ha0;omega))
 have he:(cx x).map (fun y=>y*aG x)=x:=by
  unfold cx
  rw[List.map_map]
  conv=>rhs;rw[<- List.map_id x]
  exact List.map_congr_left fun y _=>by simp only[Function.comp,id];grind
 have:=HH hd hlq
 rw[he] at this
 exact⟨by have:=ha.len;omega,tx,this⟩
structure Ld (p q k a b:List Rat):Prop where
 pp:Pol p
 pq:Pol q
 pk:Pol k
 pa:Pol a
 pb:Pol b
 g1:bK fX bw (txP a) (txP b)
 g2:bK fX bw (txP b) (txP a)
 pg:Pol (bw a b)
 comm:bw b a=bw a b
 nil:a= []->b= []->bw a b= []
 rest: ¬ (a= []/\b= [])->bw a b≠ []/\aG (bw a b)=1/\∃ x y,Pol x/\Pol y/\
  (mH (txP a) (txP (bw a b))/\dvE (txP a) (txP (bw a b))=0/\dvS (txP a) (txP (bw a b))=txP x/\dvR (txP a) (txP (bw a b))= [])/\
  (mH (txP b) (txP (bw a b))/\dvE (txP b) (txP (bw a b))=0/\dvS (txP b) (txP (bw a b))=txP y/\dvR (txP b) (txP (bw a b))= [])/\
  (mH (txP (bw a b)) (txP k)/\dvE (txP (bw a b)) (txP k)=0/\dvR (txP (bw a b)) (txP k)= [])/\
  bK fX bw (txP x) (txP y)/\bw x y= [1]
theorem xE{p q k:List Rat}(hp:Sml 9 1 p)(hq:Sml 9 1 q)(hk:Sml 9 1 k):Ld p q k (b6 p k) (b6 q k):=by
 have pp:=hp.pol (by decide) (by decide)
 have pq:=hq.pol (by decide) (by decide)
 have pk:=hk.pol (by decide) (by decide)
 have sa:Sml 17 3 (b6 p k):=hp.mul hk (by decide) (by decide) (by decide) (by decide)
 have sb:Sml 17 3 (b6 q k):=hq.mul hk (by decide) (by decide) (by decide) (by decide)
 have dka:Dv k (b6 p k):=⟨p,hp.trm,fun x=>by rw[dn];grind⟩
 have dkb:Dv k (b6 q k):=⟨q,hq.trm,fun x=>by rw[dn];grind⟩
 have hz:b6 p k= []->b6 q k= []->bw (b6 p k) (b6 q k)= []:=fun h1 h2=>by rw[h1,h2,Lc]
 generalize b6 p k=a at*
 generalize b6 q k=b at*
 have pa:=sa.pol (by decide) (by decide)
 have pb:=sb.pol (by decide) (by decide)
 have ta:=sa.trm;have tb:=sb.trm
 have tg:=kW ta tb
 have hgl:=nx a b
 have hla:=sa.len;have hlb:=sb.len

 have hgd:Dv (bw a b) a/\Dv (bw a b) b:=(i6 ta tb _).1 (Dv.refl _)
 have sg:Sml 17 11 (bw a b):=by
  by_cases h0:a= []/\b= []
  ·rw[hz h0.1 h0.2];exact⟨by simp,lK,lL (by omega)⟩
  ·refine⟨by omega,tg,?_⟩
   by_cases h1:a= []
   ·have h2:b≠ []:=fun e=>h0 ⟨h1,e⟩
    obtain⟨s,s1,s2⟩:=kZ tg tb hgd.2
    exact kX sb h2 s2 tg (jG ta tb (iZ (.inr h2)))
   ·obtain⟨s,s1,s2⟩:=kZ tg ta hgd.1
    exact kX sa h1 s2 tg (jG ta tb (iZ (.inl h1)))
 have pg:=sg.pol (by decide) (by decide)
 have okab:=uj sa sb pa pb (by decide)
 have okba:=uj sb sa pb pa (by decide)
 have hcomm:=HG tb ta
 refine⟨pp,pq,pk,pa,pb,okab,okba,pg,hcomm,hz,fun h0=> ?_⟩
 have hne:a≠ []∨b≠ []:=by
  by_cases h1:a= []
  ·exact .inr fun e=>h0 ⟨h1,e⟩
  ·exact .inl h1
 have g0:=iZ hne
 have g1:=jG ta tb g0
 obtain⟨x,tx,hx⟩:=kZ tg ta hgd.1
 obtain⟨y,ty,hy⟩:=kZ tg tb hgd.2
 have sx:=Al sa tg tx g0 g1 hx
 have sy:=Al sb tg ty g0 g1 hy
 have px:=sx.pol (by decide) (by decide)
 have py:=sy.pol (by decide) (by decide)
 have hgp:=List.length_pos_iff.2 g0
 have k0:k≠ []:=by
  rintro rfl
  obtain⟨s,_,s2⟩:=dka
  obtain⟨t,_,t2⟩:=dkb
  have ea:a= []:=xr ta fun z=>by have:=s2 z;rw[cN] at this;grind
  have eb:b= []:=xr tb fun z=>by have:=t2 z;rw[cN] at this;grind
  exact h0 ⟨ea,eb⟩
 have dkg:Dv k (bw a b):=(i6 ta tb k).2 ⟨dka,dkb⟩
 obtain⟨w,tw,hw⟩:=kZ hk.trm tg dkg

 have pw:Pol w:=by
  have hwn:w≠ []:=by rintro rfl;rw[c7] at hw;exact g0 hw.symm
  have hl:=cP k0 hwn
  rw[hw] at hl
  have hkp:=List.length_pos_iff.2 k0
  have hgl2:=sg.len
  obtain⟨k1,_,_⟩:=Sml.div sg hk k0 (k:=50) (by decide)
  obtain⟨u1,_⟩:=pG (p:=bw a b) k0 tg hk.trm tw lK (by simpa using hkp) fun z=>by rw[cN,<- hw,dn];grind
  exact⟨by omega,tw,KB fun z hz=>by rw[<- u1] at hz;have:=k1 z (gu z hz);omega⟩
 refine⟨g0,g1,x,y,px,py,xy sa sg (by decide) (by decide) (by decide) (by decide) g0 px nu (by simpa using hgp) fun z=>by rw[cN,<- hx,dn];grind,
  xy sb sg (by decide) (by decide) (by decide) (by decide) g0 py nu (by simpa using hgp) fun z=>by rw[cN,<- hy,dn];grind,?_,uj sx sy px py (by decide),?_⟩
 ·obtain⟨q0,q1,_,q3⟩:=xy sg hk (by decide) (by decide) (by decide) (by decide) k0 pw nu (by simpa using List.length_pos_iff.2 k0) fun z=>by rw[cN,<- hw,dn];grind
  exact⟨q0,q1,q3⟩
 ·have hxy:x≠ []∨y≠ []:=by
   rcases hne with h|h
   ·exact .inl fun e=>h (by rw[<- hx,e,c7])
   ·exact .inr fun e=>h (by rw[<- hy,e,c7])
  have e0:=iZ hxy
  have te:=kW tx ty
  have e1:=jG tx ty e0
  obtain⟨⟨s,s1,s2⟩,t,t1,t2⟩:=(i6 tx ty _).1 (Dv.refl (bw x y))
  have hd:Dv (b6 (bw x y) (bw a b)) (bw a b):=(i6 ta tb _).2
   ⟨⟨s,s1,fun z=>by rw[dn,<- hx,dn];have:=s2 z;grind⟩,t,t1,fun z=>by rw[dn,<- hy,dn];have:=t2 z;grind⟩
  obtain⟨v,tv,hv⟩:=kZ (iz te tg) tg hd
  have hvn:v≠ []:=by rintro rfl;rw[c7] at hv;exact g0 hv.symm
  have hm0:b6 (bw x y) (bw a b)≠ []:=fun e=>by
   rcases pF e with e|e
   ·exact e0 e
   ·exact g0 e
  have l1:=cP hm0 hvn
  have l2:=cP e0 g0
  rw[hv] at l1
  have:=List.length_pos_iff.2 hvn;have:=List.length_pos_iff.2 e0
  have hl:(bw x y).length=1:=by omega
  match hxg:bw x y,hl with
  | [c],_=>
   rw[hxg] at e1
   have:aG [c]=c:=rfl
   rw[this] at e1
   rw[e1]
end Go.Cm
namespace Go.Cm
open Go.Proofs
theorem PA{a b:List Rat}(h:((((txP a).length:Nat):Int)==0&&(((txP b).length:Nat):Int)==0)=true):a= []/\b= []:=by
 rw[Bool.and_eq_true,beq_iff_eq,beq_iff_eq,xz,xz] at h
 exact h
theorem PB{a b:List Rat}(h:((((txP a).length:Nat):Int)==0&&(((txP b).length:Nat):Int)==0)=false): ¬ (a= []/\b= []):=by
 rw[Bool.and_eq_false_iff,beq_eq_false_iff_ne,beq_eq_false_iff_ne,Ne,Ne,xz,xz] at h
 rintro⟨h1,h2⟩
 rcases h with h|h
 ·exact h h1
 ·exact h h2
theorem PC:bo 1= [49]:=by decide+kernel
theorem Nv:Pol [1]:=⟨by simp,fun _=>by show (1:Rat)≠0;decide,by decide+kernel⟩
theorem ER:txP [1]= [[49]]:=by unfold txP;simp[PC]
theorem Le{g:List Rat}(h:Pol g)(h0:g≠ [])(h1:aG g=1):nth .str (txP g) (IntKind.i64.wrap ((((txP g).length:Nat):Int)-1))= [49]:=by
 rw[cb,xD (List.length_pos_iff.2 h0) (by have:=h.len;omega),h1,PC]
theorem Lf{g:List Rat}(h:Pol g)(h0:g≠ []):0<=IntKind.i64.wrap ((((txP g).length:Nat):Int)-1)/\IntKind.i64.wrap ((((txP g).length:Nat):Int)-1)<(((txP g).length:Nat):Int):=by
 have h1:=List.length_pos_iff.2 h0
 have h2:=h.len
 rw[cb,cd (by omega)];omega
end Go.Cm
end
section
namespace Go.Proofs.YtdojbabpnaifoaaGreatDoor
open Go Go.Cm Go.Proofs
theorem O1:cW Tryz.prog 84 .func:=DN (by kernel_rfl) ⟨_,_,_,Tryz.underlying84⟩
theorem PD:cW Tryz.prog 109 .func:=DN (by kernel_rfl) ⟨_,_,_,Tryz.underlying109⟩
def xF(B:aj):Tab:={types:= [(3,(.int .i64)),(181,(.slice (.int .i64)))],elems:= [],cons:= [],hint:= [],N:=21,base:=B}
theorem ES{B:aj}(hB:aC B):aK Tryz.prog (xF B):=⟨⟨tc ty3 (tc jy (ae)),af,by simp only[xF,ioB];omega⟩,bP rfl,by kernel_rfl⟩
def mf:Con:=fun l os=>match l,os with
 | [.z (.slice (.int .i64)) d], []=>some (D.Lim d/\d.length<CAP, [.z (.slice (.int .i64)) (D.limbs (D.valL d).toNat)], [])
 |_,_=>none
theorem nD{B:aj}(hB:aC B):Valid B Tryz.prog 183 mf:=by
 refine ab (ES hB).tab Tryz.func183 rfl rfl rfl ?_
 intro args os C rs os' hc hC
 unfold mf at hc
 split at hc
 case h_2=>cases hc
 rename_i d
 cases hc
 refine v_h (ES hB) fun X hP hT hr hG=> ?_
 have hU:=xF.eq_1
 unfold xF at hT
 have hX:=Bool.not_true
 simp only[Tryz.f183,aD,al,ioB]
 refine s_g hG ?_
 refine ak ?_
 refine au ?_
 refine br (fun(z:List Int)=>(⟨[(0, .l (.z (.slice (.int .i64)) z))], []⟩:aa)) (fun z=>D.Lim z/\D.valL z=D.valL d/\z.length<=d.length) (fun z=>z.length) d ?_ ?_ ?_
 ·simp only[ml0,ml1,Nat.reduceLT,Nat.reduceEqDiff,Nat.reduceAdd,Nat.reduceMul,Nat.reduceSub,Nat.reduceLeDiff,Nat.reduceBEq,Nat.reduceBNe,reduceIte,reduceDIte,reduceCtorEq]
 ·exact⟨hC.1,rfl,Nat.le_refl _⟩
 ·rintro z ⟨g1,g2,g3⟩
  try dsimp only at g1 g2 g3
  have h4:z.length<1000000000000:=Nat.lt_of_le_of_lt g3 hC.2
  refine ak ?_
  refine s_q hG ?_ ?_
  ·try simp only[ba]
   exact⟨id,id,fun h=>⟨h,by simp only[decide_eq_true_eq] at h;rw[wi (by omega) (by omega)];omega⟩,id⟩
  refine aq ?_ ?_
  ·intro hb0
   try simp only[bt] at hb0
   refine ar ?_
   refine ah ?_
   refine au ?_
   refine ag hG ?_ ?_
   ·try simp only[ba]
    rw[wi (by omega) (by omega)];omega
   refine aQ ?_
   show ∃ z,_
   refine q_l ?_
   exact D.whole_round g1 g2 g3 hb0.1 h4 hb0.2
  ·intro hb0
   try simp only[bf] at hb0
   refine bg ?_
   refine aE ?_
   refine ax ?_
   refine aw ?_
   refine ah ?_
   refine s_g hG ?_
   refine az ?_
   refine q_e [] ?_
   refine D.cut_fin g1 g2 fun hz h0=> ?_
   have:=hb0 (by simp;omega)
   rw[wi (by omega) (by omega),D.last_eq hz] at this
   exact this h0
def xG(B:aj):Tab:={types:= [(3,(.int .i64)),(181,(.slice (.int .i64)))],elems:= [],cons:= [],hint:= [],N:=41,base:=B}
theorem ET{B:aj}(hB:aC B):aK Tryz.prog (xG B):=⟨⟨tc ty3 (tc jy (ae)),af,by simp only[xG,ioB];omega⟩,bP rfl,by kernel_rfl⟩
def im:Con:=fun l os=>match l,os with
 | [.z (.slice (.int .i64)) m, .z (.slice (.int .i64)) o], []=>some (D.Cano m/\D.Cano o/\m.length<CAP/\o.length<CAP, [.z (.int .i64) (bu (D.valL m) (D.valL o))], [])
 |_,_=>none
theorem Am{B:aj}(hB:aC B):Valid B Tryz.prog 160 im:=by
 refine ab (ET hB).tab Tryz.func160 rfl rfl rfl ?_
 intro args os C rs os' hc hC
 unfold im at hc
 split at hc
 case h_2=>cases hc
 rename_i m o
 cases hc
 refine v_h (ET hB) fun X hP hT hr hG=> ?_
 have hU:=xG.eq_1
 unfold xG at hT
 have hX:=Bool.not_true
 simp only[Tryz.f160,aD,al,ioB]
 refine s_g hG ?_
 refine ak ?_
 refine s_g hG ?_
 refine aq ?_ ?_
 ·intro hb0
  try simp only[bt] at hb0
  refine ak ?_
  refine s_g hG ?_
  refine aq ?_ ?_
  ·intro hb1
   try simp only[bt] at hb1
   refine s_g hG ?_
   refine az ?_
   refine aB ?_
   refine aB ?_
   refine q_e [] ?_
   unfold bu
   rw[if_pos (D.cmp_len hC.1 hC.2.1 (by omega))]
  ·intro hb1
   try simp only[bf] at hb1
   refine ar ?_
   refine ah ?_
   refine s_g hG ?_
   refine az ?_
   refine aB ?_
   refine q_e [] ?_
   have:=D.cmp_len hC.2.1 hC.1 (by omega)
   unfold bu
   rw[if_neg (by omega),if_pos this]
 ·intro hb0
  simp only[bne_eq_false_iff_eq] at hb0
  obtain⟨c1,c2,c3,c4⟩:=hC
  have c3:List.length m<1000000000000:=c3
  have hl:List.length m=List.length o:=by omega
  refine ar ?_
  refine ah ?_
  refine ak ?_
  refine s_g hG ?_
  refine au ?_
  refine br (fun(z:Nat)=>(⟨[(0, .l (.z (.slice (.int .i64)) m)),(1, .l (.z (.slice (.int .i64)) o)),(5, .l (.z (.int .i64) ((z:Int)-1)))], []⟩:aa)) (fun z=>z<=List.length m/\List.drop z m=List.drop z o) (fun z=>z) (List.length m) ?_ ?_ ?_
  ·refine q_l ?_
   exact wi (by omega) (by omega)
  ·exact⟨Nat.le_refl _,by rw[List.drop_length,List.drop_of_length_le (by omega)]⟩
  ·rintro k ⟨g1,g2⟩
   try dsimp only at g1 g2
   refine ak ?_
   refine s_g hG ?_
   refine aq ?_ ?_
   ·intro hb2
    try simp only[bt] at hb2
    refine ar ?_
    refine ah ?_
    refine ak ?_
    refine au ?_
    refine s_d hG ?_ ?_
    ·try simp only[ba]
     exact⟨⟨by omega,by omega⟩,by omega,by omega⟩
    refine aq ?_ ?_
    ·intro hb3
     try simp only[bt] at hb3
     refine ak ?_
     refine s_d hG ?_ ?_
     ·try simp only[ba]
      exact⟨⟨by omega,by omega⟩,by omega,by omega⟩
     refine aq ?_ ?_
     ·intro hb4
      try simp only[bt] at hb4
      refine s_g hG ?_
      refine az ?_
      refine aB ?_
      refine bE ?_
      refine aB ?_
      refine eE ?_
      refine bE ?_
      refine aB ?_
      refine q_e [] ?_
      obtain⟨j,rfl⟩:∃ j,k=j+1:=⟨k-1,by omega⟩
      have hk:((j+1:Nat):Int)-1=(j:Int):=by omega
      rw[hk] at hb4
      exact(D.cmp_less c1 c2 hl (by omega) g2 hb4).symm
     ·intro hb4
      try simp only[bf] at hb4
      refine ar ?_
      refine ah ?_
      refine s_g hG ?_
      refine az ?_
      refine bE ?_
      refine aB ?_
      refine eE ?_
      refine bE ?_
      refine aB ?_
      refine q_e [] ?_
      obtain⟨j,rfl⟩:∃ j,k=j+1:=⟨k-1,by omega⟩
      have hk:((j+1:Nat):Int)-1=(j:Int):=by omega
      rw[hk] at hb3 hb4
      have hb5:List.getD o j 0<List.getD m j 0:=D.gt_of hb4 hb3
      exact(D.cmp_more c1 c2 hl (by omega) g2 hb5).symm
    ·intro hb3
     try simp only[bf] at hb3
     refine ar ?_
     refine aQ ?_
     refine ah ?_
     refine ag hG ?_ ?_
     ·first|trivial|omega|(simp;done)|(simp;omega)
     show ∃ z,_
     refine q_l ?_
     obtain⟨j,rfl⟩:∃ j,k=j+1:=⟨k-1,by omega⟩
     have hk:((j+1:Nat):Int)-1=(j:Int):=by omega
     rw[hk] at hb3 ⊢
     exact⟨j,wi (by omega) (by omega),by omega,D.drop_step hl (by omega) g2 hb3,by omega⟩
   ·intro hb2
    try simp only[bf] at hb2
    refine bg ?_
    refine aE ?_
    refine ax ?_
    refine aw ?_
    refine ah ?_
    refine s_g hG ?_
    refine az ?_
    refine q_e [] ?_
    have:k=0:=by omega
    subst this
    simp only[List.drop_zero] at g2
    rw[g2];simp[bu]
def xH(B:aj):Tab:={types:= [(3,(.int .i64)),(181,(.slice (.int .i64)))],elems:= [(181,3)],cons:= [],hint:= [],N:=54,base:=B}
theorem EU{B:aj}(hB:aC B):aK Tryz.prog (xH B):=⟨⟨tc ty3 (tc jy (ae)),aR (by kernel_rfl) (af),by simp only[xH,ioB];omega⟩,bP rfl,by kernel_rfl⟩
def xI:Con:=fun l os=>match l,os with
 | [.z (.slice (.int .i64)) m, .z (.slice (.int .i64)) o], []=>some (D.Cano m/\D.Cano o/\m.length<CAP/\o.length<CAP, [.z (.slice (.int .i64)) (D.limbs (D.valL m+D.valL o).toNat)], [])
 |_,_=>none
theorem Lg{B:aj}(hB:aC B):Valid B Tryz.prog 159 xI:=by
 refine ab (EU hB).tab Tryz.func159 rfl rfl rfl ?_
 intro args os C rs os' hc hC
 unfold xI at hc
 split at hc
 case h_2=>cases hc
 rename_i m o
 cases hc
 refine v_h (EU hB) fun X hP hT hr hG=> ?_
 have hU:=xH.eq_1
 unfold xH at hT
 have hX:=Bool.not_true
 simp only[Tryz.f159,aD,al,ioB]
 refine s_g hG ?_
 refine s_g hG ?_
 refine s_g hG ?_
 refine ak ?_
 refine s_g hG ?_
 refine au ?_
 refine br (fun(z:Nat×Int×List Int)=>(⟨[(0, .l (.z (.slice (.int .i64)) m)),(1, .l (.z (.slice (.int .i64)) o)),(5, .l (.ownS 50)),(6, .l (.z (.int .i64) z.2.1)),(7, .l (.z (.int .i64) (z.1:Int)))], [(50, .arr (.int .i64) 3 z.2.2)]⟩:aa)) (fun z=>D.PlusPhi m o z.1 z.2.1 z.2.2) (fun z=>2*(max (List.length m) (List.length o)-z.1)+z.2.1.toNat) (0,0, []) ?_ ?_ ?_
 ·refine q_l ?_
  exact⟨rfl,by unfold ioB;omega⟩
 ·exact D.plus_start
 ·rintro⟨k,c,out⟩ hz
  try dsimp only at hz
  obtain⟨c1,c2,c3,c4⟩:=hC
  have c3:List.length m<1000000000000:=c3
  have c4:List.length o<1000000000000:=c4
  have hw:=D.plus_n c1.1 c2.1 hz
  have hk:=hz.hk
  refine ak ?_
  refine s_q hG ?_ ?_
  ·try simp only[ba]
   (repeat' (first|apply And.intro|intro _))<;>(try simp only[decide_eq_true_eq,decide_eq_false_iff_not,Bool.not_eq_true',beq_iff_eq,Int.toNat_natCast] at*)<;>first|assumption|omega|trivial|(simp_all;done)|(simp_all;omega)
  refine aq ?_ ?_
  ·intro hb0
   simp only[Bool.or_eq_true,decide_eq_true_eq] at hb0
   have hkk:k<List.length m∨k<List.length o∨(0:Int)<c:=by omega
   have hks:=hz.hs
   have hkM:k<=max (List.length m) (List.length o):=D.plus_k hz (by omega)
   have hb0:(k<List.length m∨k<List.length o)∨(0:Int)<c:=by omega
   refine ar ?_
   refine ah ?_
   refine ak ?_
   refine au ?_
   refine s_g hG ?_
   refine ct (fun(z:Int)=>(⟨[(0, .l (.z (.slice (.int .i64)) m)),(1, .l (.z (.slice (.int .i64)) o)),(5, .l (.ownS 50)),(6, .l (.z (.int .i64) c)),(7, .l (.z (.int .i64) (k:Int))),(8, .l (.z (.int .i64) z))], [(50, .arr (.int .i64) 3 out)]⟩:aa)) (fun z=>z=c+m.getD k 0) ?_ ?_
   ·refine s_g hG ?_
    refine aq ?_ ?_
    ·intro hb1
     try simp only[bt] at hb1
     refine ag hG ?_ ?_
     ·try simp only[ba]
      exact⟨by omega,by omega⟩
     show ∃ z,_
     refine q_l ?_
     first|exact hw.1|(rw[D.getD_none (by omega)];exact(Int.add_zero _).symm)
    ·intro hb1
     try simp only[bf] at hb1
     refine ar ?_
     show ∃ z,_
     refine q_l ?_
     first|exact hw.1|(rw[D.getD_none (by omega)];exact(Int.add_zero _).symm)
   rintro n1 hn1
   try dsimp only at hn1
   refine ct (fun(z:Int)=>(⟨[(0, .l (.z (.slice (.int .i64)) m)),(1, .l (.z (.slice (.int .i64)) o)),(5, .l (.ownS 50)),(6, .l (.z (.int .i64) c)),(7, .l (.z (.int .i64) (k:Int))),(8, .l (.z (.int .i64) z))], [(50, .arr (.int .i64) 3 out)]⟩:aa)) (fun z=>z=c+m.getD k 0+o.getD k 0) ?_ ?_
   ·refine s_g hG ?_
    refine aq ?_ ?_
    ·intro hb2
     try simp only[bt] at hb2
     refine ag hG ?_ ?_
     ·try simp only[ba]
      exact⟨by omega,by omega⟩
     show ∃ z,_
     refine q_l ?_
     subst hn1
     first|exact hw.2.1|(rw[D.getD_none (l:=o) (by omega)];exact(Int.add_zero _).symm)
    ·intro hb2
     try simp only[bf] at hb2
     refine ar ?_
     show ∃ z,_
     refine q_l ?_
     subst hn1
     first|exact hw.2.1|(rw[D.getD_none (l:=o) (by omega)];exact(Int.add_zero _).symm)
   rintro n hn
   try dsimp only at hn
   refine s_q hG ?_ ?_
   ·try simp only[ba]
    exact⟨by decide,by unfold Cm.Roomy;omega⟩
   refine ag hG ?_ ?_
   ·try simp only[ba]
    decide
   refine aQ ?_
   refine ah ?_
   refine ag hG ?_ ?_
   ·first|trivial|omega|(simp;done)|(simp;omega)
   show ∃ z,_
   refine q_l ?_
   obtain⟨q1,q2⟩:=D.plus_next c1.1 c2.1 hz hb0 hn
   exact⟨k+1,by rw[wi (by omega) (by omega)];simp,q1,q2⟩
  ·intro hb0
   simp only[Bool.or_eq_false_iff,decide_eq_false_iff_not] at hb0
   refine bg ?_
   refine aE ?_
   refine ax ?_
   refine aw ?_
   refine ah ?_
   refine s_g hG ?_
   refine az ?_
   refine q_e [50] ?_
   exact D.plus_fin c1 c2 hz (by omega)
def xJ(B:aj):Tab:={types:= [(3,(.int .i64)),(181,(.slice (.int .i64)))],elems:= [(181,3)],cons:= [(183,mf)],hint:= [],N:=41,base:=B}
theorem EV{B:aj}(hB:aC B):aK Tryz.prog (xJ B):=⟨⟨tc ty3 (tc jy (ae)),aR (by kernel_rfl) (af),by simp only[xJ,ioB];omega⟩,aF (cc Tryz.func183 (nD hB) (ay)),by kernel_rfl⟩
def lO:Con:=fun l os=>match l,os with
 | [.z (.slice (.int .i64)) m, .z (.slice (.int .i64)) o], []=>some (D.Cano m/\D.Cano o/\D.valL o<=D.valL m/\m.length<CAP, [.z (.slice (.int .i64)) (D.limbs (D.valL m-D.valL o).toNat)], [])
 |_,_=>none
theorem An{B:aj}(hB:aC B):Valid B Tryz.prog 161 lO:=by
 refine ab (EV hB).tab Tryz.func161 rfl rfl rfl ?_
 intro args os C rs os' hc hC
 unfold lO at hc
 split at hc
 case h_2=>cases hc
 rename_i m o
 cases hc
 refine v_h (EV hB) fun X hP hT hr hG=> ?_
 have hU:=xJ.eq_1
 unfold xJ at hT
 have hX:= @mf.eq_1
 simp only[Tryz.f161,aD,al,ioB]
 refine s_g hG ?_
 refine s_g hG ?_
 refine s_g hG ?_
 refine ak ?_
 refine s_g hG ?_
 refine au ?_
 refine br (fun(z:Nat×Int×List Int)=>(⟨[(0, .l (.z (.slice (.int .i64)) m)),(1, .l (.z (.slice (.int .i64)) o)),(5, .l (.ownS 38)),(6, .l (.z (.int .i64) z.2.1)),(7, .l (.z (.int .i64) (z.1:Int)))], [(38, .arr (.int .i64) 3 z.2.2)]⟩:aa)) (fun z=>D.MinusPhi m o z.1 z.2.1 z.2.2) (fun z=>List.length m-z.1) (0,0, []) ?_ ?_ ?_
 ·refine q_l ?_
  exact⟨rfl,by unfold ioB;omega⟩
 ·exact D.minus_start
 ·rintro⟨k,b,out⟩ hz
  try dsimp only at hz
  obtain⟨c1,c2,c3,c4⟩:=hC
  have c4:List.length m<1000000000000:=c4
  have hw:=D.minus_w c1.1 c2.1 hz
  have hkm:=hz.hkm
  have hk:=hz.hk
  refine ak ?_
  refine s_g hG ?_
  refine aq ?_ ?_
  ·intro hb0
   try simp only[bt] at hb0
   refine ar ?_
   refine ah ?_
   refine ak ?_
   refine au ?_
   refine s_q hG ?_ ?_
   ·try simp only[ba]
    exact⟨by omega,by omega⟩
   refine ct (fun(z:Int)=>(⟨[(0, .l (.z (.slice (.int .i64)) m)),(1, .l (.z (.slice (.int .i64)) o)),(5, .l (.ownS 38)),(6, .l (.z (.int .i64) b)),(7, .l (.z (.int .i64) (k:Int))),(8, .l (.z (.int .i64) z))], [(38, .arr (.int .i64) 3 out)]⟩:aa)) (fun z=>z=m.getD k 0-b-o.getD k 0) ?_ ?_
   ·refine s_g hG ?_
    refine aq ?_ ?_
    ·intro hb1
     try simp only[bt] at hb1
     refine ag hG ?_ ?_
     ·try simp only[ba]
      exact⟨by omega,by omega⟩
     show ∃ z,_
     refine q_l ?_
     first|(rw[D.nth64,hw.1];exact hw.2.1)|(rw[D.nth64,hw.1,D.getD_none (l:=o) (by omega)];exact(Int.sub_zero _).symm)
    ·intro hb1
     try simp only[bf] at hb1
     refine ar ?_
     show ∃ z,_
     refine q_l ?_
     first|(rw[D.nth64,hw.1];exact hw.2.1)|(rw[D.nth64,hw.1,D.getD_none (l:=o) (by omega)];exact(Int.sub_zero _).symm)
   rintro n hn
   try dsimp only at hn
   refine s_g hG ?_
   refine ct (fun(z:Unit)=>(⟨[(0, .l (.z (.slice (.int .i64)) m)),(1, .l (.z (.slice (.int .i64)) o)),(5, .l (.ownS 38)),(6, .l (.z (.int .i64) (D.borrowed n))),(7, .l (.z (.int .i64) (k:Int))),(8, .l (.z (.int .i64) (n+10000*D.borrowed n)))], [(38, .arr (.int .i64) 3 out)]⟩:aa)) (fun z=>True) ?_ ?_
   ·refine s_g hG ?_
    refine aq ?_ ?_
    ·intro hb2
     try simp only[bt] at hb2
     refine s_g hG ?_
     refine ag hG ?_ ?_
     ·first|trivial|omega|(simp;done)|(simp;omega)
     show ∃ z,_
     refine q_l ?_
     first|exact D.borrow_t hb2 (by rw[hn];exact hw.2.2)|exact D.borrow_f hb2
    ·intro hb2
     try simp only[bf] at hb2
     refine ar ?_
     show ∃ z,_
     refine q_l ?_
     first|exact D.borrow_t hb2 (by rw[hn];exact hw.2.2)|exact D.borrow_f hb2
   rintro⟨⟩ hu
   try dsimp only at hu
   refine ag hG ?_ ?_
   ·try simp only[ba]
    unfold Cm.Roomy;omega
   refine aQ ?_
   refine ah ?_
   refine ag hG ?_ ?_
   ·first|trivial|omega|(simp;done)|(simp;omega)
   show ∃ z,_
   refine q_l ?_
   exact⟨k+1,by rw[wi (by omega) (by omega)];simp,D.minus_next c1.1 c2.1 hz (by omega) hn,by omega⟩
  ·intro hb0
   try simp only[bf] at hb0
   refine bg ?_
   refine aE ?_
   refine ax ?_
   refine aw ?_
   refine ah ?_
   refine s_q hG ?_ ?_
   ·try simp only[ba]
    exact⟨hz.hl,by unfold CAP;omega⟩
   refine az ?_
   refine q_e [] ?_
   rw[(D.minus_fin c1 c2 c3 hz (by omega)).1]
def xK(B:aj):Tab:={types:= [(3,(.int .i64)),(181,(.slice (.int .i64)))],elems:= [(181,3)],cons:= [(183,mf)],hint:= [],N:=66,base:=B}
theorem EW{B:aj}(hB:aC B):aK Tryz.prog (xK B):=⟨⟨tc ty3 (tc jy (ae)),aR (by kernel_rfl) (af),by simp only[xK,ioB];omega⟩,aF (cc Tryz.func183 (nD hB) (ay)),by kernel_rfl⟩
def lP:Con:=fun l os=>match l,os with
 | [.z (.slice (.int .i64)) x, .z (.slice (.int .i64)) y], []=>some (D.Lim x/\D.Wid y/\x.length+y.length<CAP, [.z (.slice (.int .i64)) (D.limbs (D.valL x*D.valL y).toNat)], [])
 |_,_=>none
theorem Ao{B:aj}(hB:aC B):Valid B Tryz.prog 164 lP:=by
 refine ab (EW hB).tab Tryz.func164 rfl rfl rfl ?_
 intro args os C rs os' hc hC
 unfold lP at hc
 split at hc
 case h_2=>cases hc
 rename_i x y
 cases hc
 refine v_h (EW hB) fun X hP hT hr hG=> ?_
 have hU:=xK.eq_1
 unfold xK at hT
 have hX:= @mf.eq_1
 simp only[Tryz.f164,aD,al,ioB]
 refine s_g hG ?_
 refine s_q hG ?_ ?_
 ·try simp only[ba]
  rw[D.len_wrap hC.2.2]
  have c3:List.length x+List.length y<1000000000000:=hC.2.2
  exact⟨by omega,by omega,by unfold Cm.Roomy;omega⟩
 refine ak ?_
 refine s_g hG ?_
 refine au ?_
 refine br (fun(z:Nat×List Int)=>(⟨[(0, .l (.z (.slice (.int .i64)) x)),(1, .l (.z (.slice (.int .i64)) y)),(5, .l (.ownS 15)),(6, .l (.z (.int .i64) (z.1:Int)))], [(15, .arr (.int .i64) 3 z.2)]⟩:aa)) (fun z=>D.TimesPhi x y z.1 z.2) (fun z=>List.length x-z.1) (0,List.replicate (List.length x+List.length y) 0) ?_ ?_ ?_
 ·refine q_l ?_
  exact⟨rfl,by rw[D.len_wrap hC.2.2,Int.toNat_natCast]⟩
 ·exact D.times_start
 ·rintro⟨i,out⟩ hz
  try dsimp only at hz
  obtain⟨c1,c2,c3⟩:=hC
  have c3:List.length x+List.length y<1000000000000:=c3
  have hix:=hz.h1
  have hil:=hz.h2
  refine ak ?_
  refine s_g hG ?_
  refine aq ?_ ?_
  ·intro hb0
   try simp only[bt] at hb0
   refine ar ?_
   refine ah ?_
   refine ak ?_
   refine au ?_
   refine s_g hG ?_
   refine s_g hG ?_
   refine au ?_
   refine br (fun(z:Nat×Int×List Int)=>(⟨[(0, .l (.z (.slice (.int .i64)) x)),(1, .l (.z (.slice (.int .i64)) y)),(5, .l (.ownS 15)),(6, .l (.z (.int .i64) (i:Int))),(7, .l (.z (.int .i64) z.2.1)),(8, .l (.z (.int .i64) (z.1:Int)))], [(15, .arr (.int .i64) 3 z.2.2)]⟩:aa)) (fun z=>D.RowPhi x y i z.1 z.2.1 z.2.2) (fun z=>List.length y+1-z.1) (0,0,out) ?_ ?_ ?_
   ·refine q_l ?_
    rfl
   ·exact D.row_start hz
   ·rintro⟨k,c,out2⟩ hk
    try dsimp only at hk
    have hrb:=D.row_bound (c1.getD i) (c2.getD k) (hk.h3.getD (i+k)) hk.h4
    have hk1:=hk.h1
    have hk2:=hk.h2
    have hik:IntKind.i64.wrap ((i:Int)+(k:Int))=((i+k:Nat):Int):=by rw[wi (by omega) (by omega)];omega
    refine ak ?_
    refine s_q hG ?_ ?_
    ·try simp only[ba]
     (repeat' (first|apply And.intro|intro _))<;>(try simp only[decide_eq_true_eq,decide_eq_false_iff_not,Bool.not_eq_true',beq_iff_eq,Int.toNat_natCast] at*)<;>first|assumption|omega|trivial|(simp_all;done)|(simp_all;omega)
    refine aq ?_ ?_
    ·intro hb1
     simp only[Bool.or_eq_true,decide_eq_true_eq] at hb1
     have hb1:k<List.length y∨0<c:=by omega
     have hin:=(D.row_next c1 c2 (by omega) hk hb1 rfl).1
     refine ar ?_
     refine ah ?_
     refine ak ?_
     refine au ?_
     refine ct (fun(z:Unit)=>(⟨[(0, .l (.z (.slice (.int .i64)) x)),(1, .l (.z (.slice (.int .i64)) y)),(5, .l (.ownS 15)),(6, .l (.z (.int .i64) (i:Int))),(7, .l (.z (.int .i64) c)),(8, .l (.z (.int .i64) (k:Int))),(9, .l (.z (.int .i64) (out2.getD (i+k) 0+c)))], [(15, .arr (.int .i64) 3 out2)]⟩:aa)) (fun z=>True) ?_ ?_
     ·refine ag hG ?_ ?_
      ·try simp only[ba]
       rw[hik];omega
      show ∃ z,_
      refine q_l ?_
      rw[hik,Int.toNat_natCast]
      exact hrb.1
     rintro⟨⟩ hu
     try dsimp only at hu
     refine ct (fun(z:Int)=>(⟨[(0, .l (.z (.slice (.int .i64)) x)),(1, .l (.z (.slice (.int .i64)) y)),(5, .l (.ownS 15)),(6, .l (.z (.int .i64) (i:Int))),(7, .l (.z (.int .i64) c)),(8, .l (.z (.int .i64) (k:Int))),(9, .l (.z (.int .i64) z))], [(15, .arr (.int .i64) 3 out2)]⟩:aa)) (fun z=>z=out2.getD (i+k) 0+c+x.getD i 0*y.getD k 0) ?_ ?_
     ·refine s_g hG ?_
      refine aq ?_ ?_
      ·intro hb2
       try simp only[bt] at hb2
       refine gL hG ?_ ?_
       ·try simp only[ba]
        exact⟨⟨by omega,by omega⟩,by omega,by omega⟩
       show ∃ z,_
       refine q_l ?_
       first|(rw[D.nth64,D.nth64,hrb.2.1];exact hrb.2.2.1)|(rw[D.getD_none (l:=y) (by omega),Int.mul_zero];exact(Int.add_zero _).symm)
      ·intro hb2
       try simp only[bf] at hb2
       refine ar ?_
       show ∃ z,_
       refine q_l ?_
       first|(rw[D.nth64,D.nth64,hrb.2.1];exact hrb.2.2.1)|(rw[D.getD_none (l:=y) (by omega),Int.mul_zero];exact(Int.add_zero _).symm)
     rintro n hn
     try dsimp only at hn
     refine s_q hG ?_ ?_
     ·try simp only[ba]
      rw[hik];exact⟨by decide,by omega⟩
     refine ag hG ?_ ?_
     ·try simp only[ba]
      decide
     refine aQ ?_
     refine ah ?_
     refine ag hG ?_ ?_
     ·first|trivial|omega|(simp;done)|(simp;omega)
     show ∃ z,_
     refine q_l ?_
     obtain⟨q1,q2⟩:=D.row_next c1 c2 (by omega) hk hb1 hn
     rw[hik,Int.toNat_natCast]
     exact⟨k+1,by rw[wi (by omega) (by omega)];simp,q2,by omega⟩
    ·intro hb1
     simp only[Bool.or_eq_false_iff,decide_eq_false_iff_not] at hb1
     refine bg ?_
     refine aE ?_
     refine ax ?_
     refine aw ?_
     refine aQ ?_
     refine ah ?_
     refine ag hG ?_ ?_
     ·first|trivial|omega|(simp;done)|(simp;omega)
     show ∃ z,_
     refine q_l ?_
     exact⟨i+1,by rw[wi (by omega) (by omega)];simp,D.row_end (by omega) hk (by omega),by omega⟩
  ·intro hb0
   try simp only[bf] at hb0
   refine bg ?_
   refine aE ?_
   refine ax ?_
   refine aw ?_
   refine ah ?_
   refine s_q hG ?_ ?_
   ·try simp only[ba]
    exact⟨hz.h3,by unfold CAP;omega⟩
   refine az ?_
   refine q_e [] ?_
   rw[D.times_fin hz (by omega)]
def xL(B:aj):Tab:={types:= [(5,(.int .u8)),(9, .str)],elems:= [],cons:= [],hint:= [],N:=6,base:=B}
theorem EX{B:aj}(hB:aC B):aK Tryz.prog (xL B):=⟨⟨tc ty5 (tc ty9 (ae)),af,by simp only[xL,ioB];omega⟩,bP rfl,by kernel_rfl⟩
def cU:Con:=fun l os=>match l,os with
 | [.z .str s], []=>some (RF s, [.z .bool (decide (ao s<0))], [])
 |_,_=>none
theorem k8{B:aj}(hB:aC B):Valid B Tryz.prog 157 cU:=by
 refine ab (EX hB).tab Tryz.func157 rfl rfl rfl ?_
 intro args os C rs os' hc hC
 unfold cU at hc
 split at hc
 case h_2=>cases hc
 rename_i s
 cases hc
 refine v_h (EX hB) fun X hP hT hr hG=> ?_
 have hU:=xL.eq_1
 unfold xL at hT
 have hX:=Bool.not_true
 simp only[Tryz.f157,aD,al,ioB]
 refine s_g hG ?_
 refine s_q hG ?_ ?_
 ·try simp only[ba]
  exact⟨by omega,nm hC⟩
 refine az ?_
 refine q_e [] ?_
 exact CH hC
def xM(B:aj):Tab:={types:= [(3,(.int .i64)),(5,(.int .u8)),(9, .str),(181,(.slice (.int .i64)))],elems:= [(181,3)],cons:= [(183,mf)],hint:= [],N:=40,base:=B}
theorem EY{B:aj}(hB:aC B):aK Tryz.prog (xM B):=⟨⟨tc ty3 (tc ty5 (tc ty9 (tc jy (ae)))),aR (by kernel_rfl) (af),by simp only[xM,ioB];omega⟩,aF (cc Tryz.func183 (nD hB) (ay)),by kernel_rfl⟩
def gO:Con:=fun l os=>match l,os with
 | [.z .str s], []=>some (RF s/\s.length<CAP, [.z (.slice (.int .i64)) (D.limbs (ao s).natAbs)], [])
 |_,_=>none
theorem k9{B:aj}(hB:aC B):Valid B Tryz.prog 156 gO:=by
 refine ab (EY hB).tab Tryz.func156 rfl rfl rfl ?_
 intro args os C rs os' hc hC
 unfold gO at hc
 split at hc
 case h_2=>cases hc
 rename_i s
 cases hc
 refine v_h (EY hB) fun X hP hT hr hG=> ?_
 have hU:=xM.eq_1
 unfold xM at hT
 have hX:= @mf.eq_1
 simp only[Tryz.f156,aD,al,ioB]
 refine s_g hG ?_
 refine ct (fun(z:Unit)=>(⟨[(0, .l (.z .str (av s [45])))], []⟩:aa)) (fun z=>True) ?_ ?_
 ·refine s_q hG ?_ ?_
  ·try simp only[ba]
   exact⟨by omega,nm hC.1⟩
  refine aq ?_ ?_
  ·intro hb0
   try simp only[bt] at hb0
   refine ag hG ?_ ?_
   ·try simp only[ba]
    have:=nm hC.1
    omega
   show ∃ z,_
   refine q_l ?_
   first|exact(zj hC.1 hb0).1|exact zk hC.1 hb0
  ·intro hb0
   try simp only[bf] at hb0
   refine ar ?_
   show ∃ z,_
   refine q_l ?_
   first|exact(zj hC.1 hb0).1|exact zk hC.1 hb0
 rintro⟨⟩ hu
 try dsimp only at hu
 obtain⟨d1,d2,d3⟩:=gZ hC.1
 have hl:=fL s [45]
 have hc:List.length s<1000000000000:=hC.2
 refine s_g hG ?_
 refine ak ?_
 refine s_g hG ?_
 refine au ?_
 refine br (fun(z:Nat×List Int)=>(⟨[(0, .l (.z .str (av s [45]))),(3, .l (.ownS 37)),(4, .l (.z (.int .i64) (((av s [45]).length:Int)-4*(z.1:Int))))], [(37, .arr (.int .i64) 3 z.2)]⟩:aa)) (fun z=>D.ReadPhi (av s [45]) z.1 z.2) (fun z=>(av s [45]).length+4-4*z.1) (0, []) ?_ ?_ ?_
 ·refine q_l ?_
  exact⟨by show ((av s [45]).length:Int)=((av s [45]).length:Int)-4*((0:Nat):Int);omega,by unfold ioB;omega⟩
 ·exact D.read_start
 ·rintro⟨r,out⟩ hz
  try dsimp only at hz
  have hz1:=hz.1
  have hz4:=hz.2.2.2
  refine ak ?_
  refine s_g hG ?_
  refine aq ?_ ?_
  ·intro hb1
   try simp only[bt] at hb1
   refine ar ?_
   refine ah ?_
   refine ak ?_
   refine au ?_
   refine s_g hG ?_
   refine ak ?_
   refine s_g hG ?_
   refine au ?_
   refine br (fun(z:Nat)=>(⟨[(0, .l (.z .str (av s [45]))),(3, .l (.ownS 37)),(4, .l (.z (.int .i64) (((av s [45]).length:Int)-4*(r:Int)))),(5, .l (.z (.int .i64) (D.part (av s [45]) ((av s [45]).length-4*(r+1)) z))),(6, .l (.z (.int .i64) (z:Int)))], [(37, .arr (.int .i64) 3 out)]⟩:aa)) (fun z=>(av s [45]).length-4*(r+1)<=z/\z<=(av s [45]).length-4*r) (fun z=>(av s [45]).length-z) ((av s [45]).length-4*(r+1)) ?_ ?_ ?_
   ·refine q_l ?_
    exact D.read_le0 (by omega) (by omega)
   ·omega
   ·rintro i hi
    try dsimp only at hi
    refine ak ?_
    refine s_g hG ?_
    refine aq ?_ ?_
    ·intro hb2
     try simp only[bt] at hb2
     refine ar ?_
     refine ah ?_
     refine ak ?_
     refine au ?_
     refine ag hG ?_ ?_
     ·try simp only[ba]
      exact⟨by omega,by omega⟩
     refine aQ ?_
     refine ah ?_
     refine ag hG ?_ ?_
     ·first|trivial|omega|(simp;done)|(simp;omega)
     show ∃ z,_
     refine q_l ?_
     rw[Int.toNat_natCast]
     exact⟨i+1,D.part_next d1 (by omega) (by omega) (by omega),by rw[wi (by omega) (by omega)];simp,by omega,by omega,by omega⟩
    ·intro hb2
     try simp only[bf] at hb2
     refine bg ?_
     refine aE ?_
     refine ax ?_
     refine aw ?_
     refine ah ?_
     refine ag hG ?_ ?_
     ·try simp only[ba]
      unfold Cm.Roomy;omega
     refine aQ ?_
     refine ah ?_
     refine ag hG ?_ ?_
     ·first|trivial|omega|(simp;done)|(simp;omega)
     show ∃ z,_
     refine q_l ?_
     have hie:i=(av s [45]).length-4*r:=by omega
     subst hie
     exact⟨r+1,by rw[wi (by omega) (by omega)];show ((av s [45]).length:Int)-4*(r:Int)-4=((av s [45]).length:Int)-4*((r+1:Nat):Int);omega,D.read_next d1 hz (by omega),by omega⟩
  ·intro hb1
   try simp only[bf] at hb1
   refine bg ?_
   refine aE ?_
   refine ax ?_
   refine aw ?_
   refine ah ?_
   refine s_q hG ?_ ?_
   ·try simp only[ba]
    exact⟨hz.2.1,by unfold CAP;omega⟩
   refine az ?_
   refine q_e [] ?_
   exact D.valL_limbs hz (by omega)
def xN(B:aj):Tab:={types:= [(3,(.int .i64)),(5,(.int .u8)),(9, .str),(47,(.slice (.int .u8))),(181,(.slice (.int .i64)))],elems:= [(47,5)],cons:= [],hint:= [],N:=49,base:=B}
theorem EZ{B:aj}(hB:aC B):aK Tryz.prog (xN B):=⟨⟨tc ty3 (tc ty5 (tc ty9 (tc O9 (tc jy (ae))))),aR (by kernel_rfl) (af),by simp only[xN,ioB];omega⟩,bP rfl,by kernel_rfl⟩
def e8:Con:=fun l os=>match l,os with
 | [.z .bool neg, .z (.slice (.int .i64)) d], []=>some (D.Cano d/\4*d.length<CAP, [.z .str (Lib.itoa (if neg=true then-D.valL d else D.valL d))], [])
 |_,_=>none
theorem ld{B:aj}(hB:aC B):Valid B Tryz.prog 158 e8:=by
 refine ab (EZ hB).tab Tryz.func158 rfl rfl rfl ?_
 intro args os C rs os' hc hC
 unfold e8 at hc
 split at hc
 case h_2=>cases hc
 rename_i neg d
 cases hc
 refine v_h (EZ hB) fun X hP hT hr hG=> ?_
 have hU:=xN.eq_1
 unfold xN at hT
 have hX:=Bool.not_true
 simp only[Tryz.f158,aD,al,ioB]
 refine s_g hG ?_
 refine ak ?_
 refine s_g hG ?_
 refine aq ?_ ?_
 ·intro hb0
  try simp only[bt] at hb0
  refine s_g hG ?_
  refine az ?_
  refine aB ?_
  refine q_e [] ?_
  exact D.write_nil hb0
 ·intro hb0
  simp only[beq_eq_false_iff_ne,ne_eq] at hb0
  have hne:d≠ []:=by intro e;subst e;exact hb0 rfl
  obtain⟨c1,c2⟩:=hC
  have c2:4*List.length d<1000000000000:=c2
  have hbg:4000000000001<=maxLen:=by decide
  refine ar ?_
  refine ah ?_
  refine s_g hG ?_
  refine ak ?_
  refine s_g hG ?_
  refine au ?_
  refine br (fun(z:Nat×List Int)=>(⟨[(0, .l (.z .bool neg)),(1, .l (.z (.slice (.int .i64)) d)),(5, .l (.ownS 42)),(6, .l (.z (.int .i64) ((z.1:Int)-1)))], [(42, .arr (.int .u8) 5 z.2)]⟩:aa)) (fun z=>z.1<=List.length d/\z.2=(D.dd (D.valL (List.drop z.1 d)).toNat).map fun b=>(b.toNat:Int)) (fun z=>z.1) (List.length d, []) ?_ ?_ ?_
  ·refine q_l ?_
   exact⟨wi (by omega) (by omega),by unfold ioB;omega⟩
  ·exact D.write_phi0 d
  ·rintro⟨k,out⟩ hz
   try dsimp only at hz
   have hz1:=hz.1
   refine ak ?_
   refine s_g hG ?_
   refine aq ?_ ?_
   ·intro hb1
    try simp only[decide_eq_true_eq] at hb1
    obtain⟨i,rfl⟩:∃ i,k=i+1:=⟨k-1,by omega⟩
    have ei:((i+1:Nat):Int)-1=(i:Int):=by omega
    rw[ei]
    refine ar ?_
    refine ah ?_
    refine ak ?_
    refine au ?_
    refine s_g hG ?_
    refine au ?_
    refine br (fun(z:Nat×List Int)=>(⟨[(0, .l (.z .bool neg)),(1, .l (.z (.slice (.int .i64)) d)),(5, .l (.ownS 42)),(6, .l (.z (.int .i64) (i:Int))),(7, .l (.z (.int .i64) (D.unit z.1)))], [(42, .arr (.int .u8) 5 z.2)]⟩:aa)) (fun z=>D.WritePhi d i z.1 z.2) (fun z=>4-z.1) (0,out) ?_ ?_ ?_
    ·refine q_l ?_
     decide
    ·exact D.write_start c1.1 hz.2
    ·rintro⟨j,out2⟩ hj
     try dsimp only at hj
     refine ak ?_
     refine s_g hG ?_
     refine aq ?_ ?_
     ·intro hb2
      try simp only[decide_eq_true_eq] at hb2
      have hj4:=D.unit_pos hb2
      refine ar ?_
      refine ah ?_
      refine ak ?_
      refine au ?_
      refine ct (fun(z:Unit)=>(⟨[(0, .l (.z .bool neg)),(1, .l (.z (.slice (.int .i64)) d)),(5, .l (.ownS 42)),(6, .l (.z (.int .i64) (i:Int))),(7, .l (.z (.int .i64) (D.unit j))),(8, .l (.z (.int .u8) ((48+D.decimal (d.getD i 0) j:Nat):Int)))], [(42, .arr (.int .u8) 5 out2)]⟩:aa)) (fun z=>True) ?_ ?_
      ·refine ag hG ?_ ?_
       ·try simp only[ba]
        exact⟨⟨by omega,by omega⟩,fun h=>by rw[h] at hb2;exact absurd hb2 (by decide),by decide⟩
       show ∃ z,_
       refine q_l ?_
       exact D.decimal_code (c1.1.getD i) hj4
      rintro⟨⟩ hu
      try dsimp only at hu
      refine s_q hG ?_ ?_
      ·try simp only[ba]
       simp[get?,del]
      refine aq ?_ ?_
      ·intro hb3
       have hwl:=D.write_len c1.1 hj (by omega)
       refine ag hG ?_ ?_
       ·try simp only[ba]
        unfold Cm.Roomy;omega
       refine aQ ?_
       refine ah ?_
       refine ag hG ?_ ?_
       ·first|trivial|omega|(simp;done)|(simp;omega)
       show ∃ z,_
       refine q_l ?_
       exact⟨j+1,(D.unit_next hj4).1,by first|exact D.write_take c1.1 hj hj4 (D.cond_t hb3)|exact D.write_leave c1.1 hj hj4 (D.cond_f hb3),by omega⟩
      ·intro hb3
       refine ar ?_
       refine aQ ?_
       refine ah ?_
       refine ag hG ?_ ?_
       ·first|trivial|omega|(simp;done)|(simp;omega)
       show ∃ z,_
       refine q_l ?_
       exact⟨j+1,(D.unit_next hj4).1,by first|exact D.write_take c1.1 hj hj4 (D.cond_t hb3)|exact D.write_leave c1.1 hj hj4 (D.cond_f hb3),by omega⟩
     ·intro hb2
      try simp only[bf] at hb2
      refine bg ?_
      refine aE ?_
      refine ax ?_
      refine aw ?_
      refine aQ ?_
      refine ah ?_
      refine ag hG ?_ ?_
      ·first|trivial|omega|(simp;done)|(simp;omega)
      show ∃ z,_
      refine q_l ?_
      obtain rfl:j=4:=by have:=D.unit_end hb2;have:=hj.hj;omega
      exact⟨i,wi (by omega) (by omega),by omega,D.write_round c1.1 (by omega) hj,by omega⟩
   ·intro hb1
    simp only[decide_eq_false_iff_not] at hb1
    obtain rfl:k=0:=by omega
    have hz2:=hz.2
    rw[List.drop_zero] at hz2
    have hdl:=D.dd_len c1.1
    subst hz2
    refine bg ?_
    refine aE ?_
    refine ax ?_
    refine aw ?_
    refine ah ?_
    refine ak ?_
    refine s_g hG ?_
    refine aq ?_ ?_
    ·intro hb4
     refine s_q hG ?_ ?_
     ·try simp only[ba]
      rw[D.str_of_map]
      omega
     refine az ?_
     refine aB ?_
     refine q_e [] ?_
     rw[D.str_of_map,if_pos hb4]
     exact D.write_minus c1 hne
    ·intro hb4
     refine ar ?_
     refine ah ?_
     refine s_g hG ?_
     refine az ?_
     refine q_e [] ?_
     rw[D.str_of_map,if_neg (by rw[hb4];decide)]
     exact D.write_text c1 hne
end Go.Proofs.YtdojbabpnaifoaaGreatDoor
end
section
namespace Go.Proofs
open Go.RowKit Go.Cm
def E0:Con:=fun l os=>match l,os with
 | [.z .str s], []=>some (chk s=0/\s.length<=9, [.z (.int .i64) (ao s), .val .nilIface], [])
 |_,_=>none
theorem uk:∀ (l:List UInt8) (a:Nat),dy l->Lib.decFrom a l=some (l.foldl (fun n c=>n*10+(c.toNat-48)) a)
 | [],_,_=>rfl
 |c::l,a,hd=>by
  have h1:=hd c (by simp)
  rw[Lib.decFrom,Lib.digitVal,if_pos h1,List.foldl_cons]
  exact uk l _ (fun x hx=>hd x (by simp[hx]))
theorem Lh{s:List UInt8}(h:chk s=0):Lib.atoi s=some (ao s):=by
 obtain⟨d1,d2,d3,d4⟩:=Cr h
 cases s with
 |nil=>exact absurd h (by decide)
 |cons b r=>
  unfold Lib.atoi
  dsimp only
  by_cases hb:b=45
  ·subst hb
   obtain⟨p1,p2⟩:=pz r
   rw[p2] at d1 d2
   have hne:r.isEmpty=false:=by cases r<;>simp at d2 ⊢
   simp only[beq_self_eq_true,if_true,Lib.decNat,hne,Bool.false_eq_true,if_false,uk r 0 d1,Option.map_some]
   unfold ao
   rw[p1,p2]
   rfl
  ·have ht:av (b::r) [45]=b::r:=by
    unfold av c6
    rw[if_neg]
    intro e
    simp at e
    exact hb e
   rw[ht] at d1
   obtain⟨p1,p2⟩:=sZ d1
   have h43:b≠43:=by
    intro e;subst e
    have:=d1 43 (by simp)
    exact absurd this (by decide)
   rw[if_neg (by simpa using hb),if_neg (by simpa using h43),Lib.decNat,if_neg (by simp),uk _ 0 d1,Option.map_some]
   unfold ao
   rw[p1,p2]
   rfl
theorem Li{B:aj}(hB:aC B):Valid B Tryz.prog 182 E0:=by
 intro args os C rs os' hc hC O w vals ρ0 hOn hIo hO hOI hargs hown hap
 unfold E0 at hc
 split at hc
 case h_2=>cases hc
 rename_i s
 cases hc
 obtain⟨u,rfl,hu⟩:=pT hargs
 rw[fC hu]
 obtain⟨h0,h1⟩:=hC
 have hsz:(⟨s.toArray⟩:ByteArray).size=s.length:=by simp[ByteArray.size]
 refine(Tryz.strconv_Atoi ⟨s.toArray⟩ (ao s) (by rw[hsz];omega) (by simpa using Lh h0) w).mono fun e w' ⟨he,t,hw⟩=> ?_
 have hb:Below w.heap.size w w':=by
  rw[hw];exact⟨rfl,rfl,rfl,by rw[Lib.bytesWorld_size];omega,fun k hk=>Lib.bytesWorld_at_old w _ _ k hk⟩
 subst he;exact mZ (vs:= [.int .i64 (ao s), .nilIface]) hb (fun H M=>⟨bS (ρ:=fun _=>undef),rfl,trivial⟩)
end Go.Proofs
end
section
namespace Go.Proofs.YtdojbabpnaifoaaGreatDoor
open Go Go.Cm Go.Proofs
def E1(B:aj):Tab:={types:= [(3,(.int .i64)),(87,(.slice (.int .u32))),(161,(.int .u32))],elems:= [(87,161)],cons:= [],hint:= [],N:=56,base:=B}
theorem Lj{B:aj}(hB:aC B):aK Tryz.prog (E1 B):=⟨⟨tc ty3 (tc ix (tc fO (ae))),aR (by kernel_rfl) (af),by simp only[E1,ioB];omega⟩,bP rfl,by kernel_rfl⟩
def E2:Con:=fun l os=>match l,os with
 | [.z (.slice (.int .u32)) m, .z (.slice (.int .u32)) o], []=>some (Cano m/\Cano o/\m.length+o.length<CAP, [.z (.slice (.int .u32)) (limbs (valL m+valL o).toNat)], [])
 |_,_=>none
theorem Nw{B:aj}(hB:aC B):Valid B Tryz.prog 151 E2:=by
 refine ab (Lj hB).tab Tryz.func151 rfl rfl rfl ?_
 intro args os C rs os' hc hC
 unfold E2 at hc
 split at hc
 case h_2=>cases hc
 rename_i m o
 cases hc
 refine v_h (Lj hB) fun X hP hT hr hG=> ?_
 have hU:=E1.eq_1
 unfold E1 at hT
 have hX:=Bool.not_true
 simp only[Tryz.f151,aD,al,ioB]
 refine s_g hG ?_
 refine ct (fun(z:List Int×List Int)=>(⟨[(0, .l (.z (.slice (.int .u32)) z.1)),(1, .l (.z (.slice (.int .u32)) z.2))], []⟩:aa)) (fun z=>Cano z.1/\Cano z.2/\z.2.length<=z.1.length/\z.1.length<CAP/\valL z.1+valL z.2=valL m+valL o) ?_ ?_
 ·refine s_g hG ?_
  refine aq ?_ ?_
  ·intro hb0
   try simp only[bt] at hb0
   refine ag hG ?_ ?_
   ·first|trivial|omega|(simp;done)|(simp;omega)
   show ∃ z,_
   refine q_l ?_
   obtain⟨c1,c2,c3⟩:=hC
   first|exact⟨c2,c1,by omega,by omega,Int.add_comm _ _⟩|exact⟨c1,c2,by omega,by omega⟩
  ·intro hb0
   try simp only[bf] at hb0
   refine ar ?_
   show ∃ z,_
   refine q_l ?_
   obtain⟨c1,c2,c3⟩:=hC
   first|exact⟨c2,c1,by omega,by omega,Int.add_comm _ _⟩|exact⟨c1,c2,by omega,by omega⟩
 rintro⟨m,o⟩ ⟨h1,h2,h3,h4,h5⟩
 try dsimp only at h1 h2 h3 h4 h5
 have h4:m.length<1000000000000:=h4
 refine s_q hG ?_ ?_
 ·try simp only[ba]
  rw[wi (by omega) (by omega)]
  exact⟨by omega,by omega,by unfold Cm.Roomy;omega⟩
 refine s_g hG ?_
 refine ak ?_
 refine s_g hG ?_
 refine au ?_
 refine br (fun(z:Nat×Int×List Int)=>(⟨[(0, .l (.z (.slice (.int .u32)) m)),(1, .l (.z (.slice (.int .u32)) o)),(5, .l (.ownS 20)),(6, .l (.z (.int .u32) z.2.1)),(21, .l (.z (.slice (.int .u32)) m)),(22, .l (.z (.int .i64) (m.length:Int))),(23, .l (.z (.int .i64) (z.1:Int)))], [(20, .arr (.int .u32) 161 z.2.2)]⟩:aa)) (fun z=>z.1<=m.length/\z.2.2.length=z.1/\Lim z.2.2/\0<=z.2.1/\z.2.1<=1/\valL z.2.2+LB^z.1*z.2.1=valL (m.take z.1)+valL (o.take z.1)) (fun z=>m.length-z.1) (0,0, []) ?_ ?_ ?_
 ·refine q_l ?_
  exact⟨rfl,rfl⟩
 ·simp[Lim,valL]
 ·rintro⟨k,c,out⟩ ⟨g1,g2,g3,g4,g5,g6⟩
  try dsimp only at g1 g2 g3 g4 g5 g6
  refine s_g hG ?_
  refine ak ?_
  refine aq ?_ ?_
  ·intro hb1
   try simp only[bt] at hb1
   refine ar ?_
   refine ah ?_
   refine ak ?_
   refine au ?_
   refine s_q hG ?_ ?_
   ·try simp only[ba]
    exact⟨by omega,hb1⟩
   refine s_g hG ?_
   refine ct (fun(z:Int)=>(⟨[(0, .l (.z (.slice (.int .u32)) m)),(1, .l (.z (.slice (.int .u32)) o)),(5, .l (.ownS 20)),(9, .l (.z (.int .u32) z)),(21, .l (.z (.slice (.int .u32)) m)),(22, .l (.z (.int .i64) (m.length:Int))),(23, .l (.z (.int .i64) (k:Int)))], [(20, .arr (.int .u32) 161 out)]⟩:aa)) (fun z=>z=m.getD k 0+c+o.getD k 0) ?_ ?_
   ·refine s_g hG ?_
    refine aq ?_ ?_
    ·intro hb2
     try simp only[bt] at hb2
     refine ag hG ?_ ?_
     ·try simp only[ba]
      exact⟨by omega,hb2⟩
     show ∃ z,_
     refine q_l ?_
     have hw:=u0 (h1.1.getD k) (h2.1.getD k) ⟨g4,g5⟩
     first|exact hw.2|(rw[fI,hw.1,List.getD_eq_getElem?_getD (l:=o),List.getElem?_eq_none (by omega)];simp)
    ·intro hb2
     try simp only[bf] at hb2
     refine ar ?_
     show ∃ z,_
     refine q_l ?_
     have hw:=u0 (h1.1.getD k) (h2.1.getD k) ⟨g4,g5⟩
     first|exact hw.2|(rw[fI,hw.1,List.getD_eq_getElem?_getD (l:=o),List.getElem?_eq_none (by omega)];simp)
   rintro n hn
   try dsimp only at hn
   refine s_g hG ?_
   refine ag hG ?_ ?_
   ·try simp only[ba]
    exact⟨by omega,by unfold Cm.Roomy;omega⟩
   refine aQ ?_
   refine ah ?_
   refine ag hG ?_ ?_
   ·first|trivial|omega|(simp;done)|(simp;omega)
   show ∃ z,_
   refine q_l ?_
   obtain⟨q1,q2,q3,q4⟩:=Cq h1.1 h2.1 g2 g3 g4 g5 g6 hn
   exact⟨k+1,by rw[wi (by omega) (by omega)];simp,by omega,by simp[g2],q1,q2,q3,q4,by omega⟩
  ·intro hb1
   try simp only[bf] at hb1
   refine bg ?_
   refine aE ?_
   refine ax ?_
   refine aw ?_
   refine ah ?_
   refine ct (fun(z:List Int)=>(⟨[(5, .l (.ownS 20))], [(20, .arr (.int .u32) 161 z)]⟩:aa)) (fun z=>z=limbs (valL m+valL o).toNat) ?_ ?_
   ·refine s_g hG ?_
    refine aq ?_ ?_
    ·intro hb3
     try simp only[bt] at hb3
     refine ag hG ?_ ?_
     ·try simp only[ba]
      unfold Cm.Roomy;omega
     show ∃ z,_
     refine q_l ?_
     have he:=yU (out:=out) (c:=c) h1 h2 h3 (by omega) g3 g4 g5 (by rw[show k=m.length by omega,List.take_length,List.take_of_length_le h3] at g6;exact g6)
     first|exact he.1 hb3|exact he.2 hb3
    ·intro hb3
     try simp only[bf] at hb3
     refine ar ?_
     show ∃ z,_
     refine q_l ?_
     have he:=yU (out:=out) (c:=c) h1 h2 h3 (by omega) g3 g4 g5 (by rw[show k=m.length by omega,List.take_length,List.take_of_length_le h3] at g6;exact g6)
     first|exact he.1 hb3|exact he.2 hb3
   rintro out2 hout
   try dsimp only at hout
   refine s_g hG ?_
   refine az ?_
   refine q_e [] ?_
   rw[hout,h5]
def E3(B:aj):Tab:={types:= [(3,(.int .i64))],elems:= [],cons:= [],hint:= [],N:=6,base:=B}
theorem Lk{B:aj}(hB:aC B):aK Tryz.prog (E3 B):=⟨⟨tc ty3 (ae),af,by simp only[E3,ioB];omega⟩,bP rfl,by kernel_rfl⟩
def E4:Con:=fun l os=>match l,os with
 | [.z (.int .i64) a], []=>some (True, [.z .bool false], [])
 |_,_=>none
theorem Nx{B:aj}(hB:aC B):Valid B Tryz.prog 194 E4:=by
 refine ab (Lk hB).tab Tryz.func194 rfl rfl rfl ?_
 intro args os C rs os' hc hC
 unfold E4 at hc
 split at hc
 case h_2=>cases hc
 rename_i a
 cases hc
 refine v_h (Lk hB) fun X hP hT hr hG=> ?_
 have hU:=E3.eq_1
 unfold E3 at hT
 have hX:=Bool.not_true
 simp only[Tryz.f194,aD,al,ioB]
 refine s_g hG ?_
 refine s_g hG ?_
 refine az ?_
 refine q_e [] ?_
 trivial
def E5(B:aj):Tab:={types:= [(161,(.int .u32))],elems:= [],cons:= [],hint:= [],N:=6,base:=B}
theorem Ll{B:aj}(hB:aC B):aK Tryz.prog (E5 B):=⟨⟨tc fO (ae),af,by simp only[E5,ioB];omega⟩,bP rfl,by kernel_rfl⟩
def E6:Con:=fun l os=>match l,os with
 | [.z (.int .u32) a], []=>some (True, [.z .bool false], [])
 |_,_=>none
theorem Ny{B:aj}(hB:aC B):Valid B Tryz.prog 195 E6:=by
 refine ab (Ll hB).tab Tryz.func195 rfl rfl rfl ?_
 intro args os C rs os' hc hC
 unfold E6 at hc
 split at hc
 case h_2=>cases hc
 rename_i a
 cases hc
 refine v_h (Ll hB) fun X hP hT hr hG=> ?_
 have hU:=E5.eq_1
 unfold E5 at hT
 have hX:=Bool.not_true
 simp only[Tryz.f195,aD,al,ioB]
 refine s_g hG ?_
 refine s_g hG ?_
 refine az ?_
 refine q_e [] ?_
 trivial
def E7(B:aj):Tab:={types:= [(3,(.int .i64))],elems:= [],cons:= [(194,E4)],hint:= [],N:=20,base:=B}
theorem Lm{B:aj}(hB:aC B):aK Tryz.prog (E7 B):=⟨⟨tc ty3 (ae),af,by simp only[E7,ioB];omega⟩,aF (cc Tryz.func194 (Nx hB) (ay)),by kernel_rfl⟩
def v7:Con:=fun l os=>match l,os with
 | [.z (.int .i64) a, .z (.int .i64) b], []=>some (True, [.z (.int .i64) (bu a b)], [])
 |_,_=>none
theorem E8{B:aj}(hB:aC B):Valid B Tryz.prog 180 v7:=by
 refine ab (Lm hB).tab Tryz.func180 rfl rfl rfl ?_
 intro args os C rs os' hc hC
 unfold v7 at hc
 split at hc
 case h_2=>cases hc
 rename_i a b
 cases hc
 refine v_h (Lm hB) fun X hP hT hr hG=> ?_
 have hU:=E7.eq_1
 unfold E7 at hT
 have hX:= @E4.eq_1
 simp only[Tryz.f180,aD,al,ioB]
 refine s_g hG ?_
 refine s_g hG ?_
 refine s_g hG ?_
 refine ak ?_
 refine s_g hG ?_
 refine aq ?_ ?_
 ·intro hb0
  cases hb0
 ·intro hb0
  try simp only[bf] at hb0
  refine ar ?_
  refine ah ?_
  refine ak ?_
  refine s_g hG ?_
  refine aq ?_ ?_
  ·intro hb1
   cases hb1
  ·intro hb1
   try simp only[bf] at hb1
   refine ar ?_
   refine ah ?_
   refine ak ?_
   refine s_g hG ?_
   refine aq ?_ ?_
   ·intro hb2
    try simp only[bt] at hb2
    refine s_g hG ?_
    refine az ?_
    refine aB ?_
    refine q_e [] ?_
    rw[bu,if_pos hb2]
   ·intro hb2
    try simp only[bf] at hb2
    refine ar ?_
    refine ah ?_
    refine ak ?_
    refine s_g hG ?_
    refine aq ?_ ?_
    ·intro hb3
     try simp only[bt] at hb3
     refine s_g hG ?_
     refine az ?_
     refine aB ?_
     refine q_e [] ?_
     rw[bu,if_neg (by omega),if_pos hb3]
    ·intro hb3
     try simp only[bf] at hb3
     refine ar ?_
     refine ah ?_
     refine s_g hG ?_
     refine az ?_
     refine q_e [] ?_
     rw[bu,if_neg hb2,if_neg hb3]
def E9(B:aj):Tab:={types:= [(161,(.int .u32))],elems:= [],cons:= [(195,E6)],hint:= [],N:=20,base:=B}
theorem Ln{B:aj}(hB:aC B):aK Tryz.prog (E9 B):=⟨⟨tc fO (ae),af,by simp only[E9,ioB];omega⟩,aF (cc Tryz.func195 (Ny hB) (ay)),by kernel_rfl⟩
def Fa:Con:=fun l os=>match l,os with
 | [.z (.int .u32) a, .z (.int .u32) b], []=>some (True, [.z (.int .i64) (bu a b)], [])
 |_,_=>none
theorem Nz{B:aj}(hB:aC B):Valid B Tryz.prog 181 Fa:=by
 refine ab (Ln hB).tab Tryz.func181 rfl rfl rfl ?_
 intro args os C rs os' hc hC
 unfold Fa at hc
 split at hc
 case h_2=>cases hc
 rename_i a b
 cases hc
 refine v_h (Ln hB) fun X hP hT hr hG=> ?_
 have hU:=E9.eq_1
 unfold E9 at hT
 have hX:= @E6.eq_1
 simp only[Tryz.f181,aD,al,ioB]
 refine s_g hG ?_
 refine s_g hG ?_
 refine s_g hG ?_
 refine ak ?_
 refine s_g hG ?_
 refine aq ?_ ?_
 ·intro hb0
  cases hb0
 ·intro hb0
  try simp only[bf] at hb0
  refine ar ?_
  refine ah ?_
  refine ak ?_
  refine s_g hG ?_
  refine aq ?_ ?_
  ·intro hb1
   cases hb1
  ·intro hb1
   try simp only[bf] at hb1
   refine ar ?_
   refine ah ?_
   refine ak ?_
   refine s_g hG ?_
   refine aq ?_ ?_
   ·intro hb2
    try simp only[bt] at hb2
    refine s_g hG ?_
    refine az ?_
    refine aB ?_
    refine q_e [] ?_
    rw[bu,if_pos hb2]
   ·intro hb2
    try simp only[bf] at hb2
    refine ar ?_
    refine ah ?_
    refine ak ?_
    refine s_g hG ?_
    refine aq ?_ ?_
    ·intro hb3
     try simp only[bt] at hb3
     refine s_g hG ?_
     refine az ?_
     refine aB ?_
     refine q_e [] ?_
     rw[bu,if_neg (by omega),if_pos hb3]
    ·intro hb3
     try simp only[bf] at hb3
     refine ar ?_
     refine ah ?_
     refine s_g hG ?_
     refine az ?_
     refine q_e [] ?_
     rw[bu,if_neg hb2,if_neg hb3]
def Fb(B:aj):Tab:={types:= [(3,(.int .i64)),(87,(.slice (.int .u32))),(89,(.st (.pair .bool (.slice (.int .u32))))),(161,(.int .u32))],elems:= [],cons:= [],hint:= [],N:=30,base:=B}
theorem Lo{B:aj}(hB:aC B):aK Tryz.prog (Fb B):=⟨⟨tc ty3 (tc ix (tc gN (tc fO (ae)))),af,by simp only[Fb,ioB];omega⟩,bP rfl,by kernel_rfl⟩
def ec:Con:=fun l os=>match l,os with
 | [.z .bool s, .z (.slice (.int .u32)) m], []=>some (Lim m/\m.length<CAP, [.z (.st (.pair .bool (.slice (.int .u32)))) (enc (dec (s,m)))], [])
 |_,_=>none
theorem kc{B:aj}(hB:aC B):Valid B Tryz.prog 150 ec:=by
 refine ab (Lo hB).tab Tryz.func150 rfl rfl rfl ?_
 intro args os C rs os' hc hC
 unfold ec at hc
 split at hc
 case h_2=>cases hc
 rename_i s m
 cases hc
 refine v_h (Lo hB) fun X hP hT hr hG=> ?_
 have hU:=Fb.eq_1
 unfold Fb at hT
 have hX:=Bool.not_true
 simp only[Tryz.f150,aD,al,ioB]
 refine s_g hG ?_
 refine ak ?_
 refine au ?_
 refine br (fun(z:List Int)=>(⟨[(0, .l (.z .bool s)),(1, .l (.z (.slice (.int .u32)) z)),(4, .l (.ownP 4 0))], [(4, .box 89 [.z .bool false, .val (.slice none 0 0)])]⟩:aa)) (fun z=>Lim z/\valL z=valL m/\z.length<=m.length) (fun z=>z.length) m ?_ ?_ ?_
 ·simp only[ml0,ml1,Nat.reduceLT,Nat.reduceEqDiff,Nat.reduceAdd,Nat.reduceMul,Nat.reduceSub,Nat.reduceLeDiff,Nat.reduceBEq,Nat.reduceBNe,reduceIte,reduceDIte,reduceCtorEq]
 ·exact⟨hC.1,rfl,Nat.le_refl _⟩
 ·rintro z ⟨g1,g2,g3⟩
  try dsimp only at g1 g2 g3
  have h4:z.length<1000000000000:=Nat.lt_of_le_of_lt g3 hC.2
  refine ak ?_
  refine s_q hG ?_ ?_
  ·try simp only[ba]
   exact⟨id,id,fun h=>⟨h,by simp only[decide_eq_true_eq] at h;rw[wi (by omega) (by omega)];omega⟩,id⟩
  refine aq ?_ ?_
  ·intro hb0
   try simp only[bt] at hb0
   refine ar ?_
   refine ah ?_
   refine au ?_
   refine ag hG ?_ ?_
   ·try simp only[ba]
    rw[wi (by omega) (by omega)];omega
   refine aQ ?_
   show ∃ z,_
   refine q_l ?_
   exact whole_round g1 g2 g3 hb0.1 h4 hb0.2
  ·intro hb0
   try simp only[bf] at hb0
   refine bg ?_
   refine aE ?_
   refine ax ?_
   refine aw ?_
   refine ah ?_
   refine s_q hG ?_ ?_
   ·try simp only[ba]
    exact id
   refine az ?_
   refine q_e [] ?_
   refine Gq g1 g2 fun hz h0=> ?_
   have:=hb0 (by simp;omega)
   rw[wi (by omega) (by omega),last_eq hz] at this
   exact this h0
def Fc(B:aj):Tab:={types:= [(4, .bool),(87,(.slice (.int .u32))),(89,(.st (.pair .bool (.slice (.int .u32)))))],elems:= [],cons:= [(150,ec)],hint:= [],N:=9,base:=B}
theorem Lp{B:aj}(hB:aC B):aK Tryz.prog (Fc B):=⟨⟨tc ty4 (tc ix (tc gN (ae))),af,by simp only[Fc,ioB];omega⟩,aF (cc Tryz.func150 (kc hB) (ay)),by kernel_rfl⟩
def Ap:Con:=fun l os=>match l,os with
 | [.z (.st (.pair .bool (.slice (.int .u32)))) x], []=>some (Lim x.2/\x.2.length<CAP, [.z (.st (.pair .bool (.slice (.int .u32)))) (enc (-dec x))], [])
 |_,_=>none
theorem xO{B:aj}(hB:aC B):Valid B Tryz.prog 148 Ap:=by
 refine ab (Lp hB).tab Tryz.func148 rfl rfl rfl ?_
 intro args os C rs os' hc hC
 unfold Ap at hc
 split at hc
 case h_2=>cases hc
 rename_i x
 cases hc
 refine v_h (Lp hB) fun X hP hT hr hG=> ?_
 have hU:=Fc.eq_1
 unfold Fc at hT
 have hX:= @ec.eq_1
 simp only[Tryz.f148,aD,al,ioB]
 refine s_g hG ?_
 refine s_q hG ?_ ?_
 ·try simp only[ba]
  exact hC
 refine az ?_
 refine q_e [] ?_
 rw[D0]
def Fe(B:aj):Tab:={types:= [(3,(.int .i64)),(4, .bool),(87,(.slice (.int .u32))),(89,(.st (.pair .bool (.slice (.int .u32)))))],elems:= [],cons:= [],hint:= [],N:=11,base:=B}
theorem Lq{B:aj}(hB:aC B):aK Tryz.prog (Fe B):=⟨⟨tc ty3 (tc ty4 (tc ix (tc gN (ae)))),af,by simp only[Fe,ioB];omega⟩,bP rfl,by kernel_rfl⟩
def pK:Con:=fun l os=>match l,os with
 | [.z (.st (.pair .bool (.slice (.int .u32)))) x], []=>some (WOK x, [.z (.int .i64) (bu (dec x) 0)], [])
 |_,_=>none
theorem xP{B:aj}(hB:aC B):Valid B Tryz.prog 154 pK:=by
 refine ab (Lq hB).tab Tryz.func154 rfl rfl rfl ?_
 intro args os C rs os' hc hC
 unfold pK at hc
 split at hc
 case h_2=>cases hc
 rename_i x
 cases hc
 refine v_h (Lq hB) fun X hP hT hr hG=> ?_
 have hU:=Fe.eq_1
 unfold Fe at hT
 have hX:=Bool.not_true
 simp only[Tryz.f154,aD,al,ioB]
 refine s_g hG ?_
 refine ak ?_
 refine au ?_
 refine s_g hG ?_
 refine aq ?_ ?_
 ·intro hb0
  try simp only[bt] at hb0
  refine s_g hG ?_
  refine az ?_
  refine bE ?_
  refine aB ?_
  refine q_e [] ?_
  rw[bu,if_neg (by have:=(fJ hC).1.1 hb0;omega),if_neg (by have:=(fJ hC).1.1 hb0;omega)]
 ·intro hb0
  try simp only[bf] at hb0
  refine s_g hG ?_
  refine aq ?_ ?_
  ·intro hb1
   try simp only[bt] at hb1
   refine s_g hG ?_
   refine az ?_
   refine bE ?_
   refine aB ?_
   refine q_e [] ?_
   rw[bu,if_pos (((fJ hC).2 hb0).1 hb1)]
  ·intro hb1
   try simp only[bf] at hb1
   refine ar ?_
   refine aQ ?_
   refine ah ?_
   refine s_g hG ?_
   refine az ?_
   refine q_e [] ?_
   have:=((fJ hC).2 hb0).2 hb1
   rw[bu,if_neg (by omega),if_pos this]
def Ff(B:aj):Tab:={types:= [(3,(.int .i64)),(87,(.slice (.int .u32))),(161,(.int .u32))],elems:= [],cons:= [(180,v7),(181,Fa)],hint:= [],N:=35,base:=B}
theorem Lr{B:aj}(hB:aC B):aK Tryz.prog (Ff B):=⟨⟨tc ty3 (tc ix (tc fO (ae))),af,by simp only[Ff,ioB];omega⟩,aF (cc Tryz.func180 (E8 hB) (cc Tryz.func181 (Nz hB) (ay))),by kernel_rfl⟩
def eU:Con:=fun l os=>match l,os with
 | [.z (.slice (.int .u32)) m, .z (.slice (.int .u32)) o], []=>some (Cano m/\Cano o/\m.length+o.length<CAP, [.z (.int .i64) (bu (valL m) (valL o))], [])
 |_,_=>none
theorem xQ{B:aj}(hB:aC B):Valid B Tryz.prog 152 eU:=by
 refine ab (Lr hB).tab Tryz.func152 rfl rfl rfl ?_
 intro args os C rs os' hc hC
 unfold eU at hc
 split at hc
 case h_2=>cases hc
 rename_i m o
 cases hc
 refine v_h (Lr hB) fun X hP hT hr hG=> ?_
 have hU:=Ff.eq_1
 unfold Ff at hT
 have hX:=ai @v7.eq_1<| @Fa.eq_1
 simp only[Tryz.f152,aD,al,ioB]
 refine s_g hG ?_
 refine ak ?_
 refine s_g hG ?_
 refine s_g hG ?_
 refine aq ?_ ?_
 ·intro hb0
  try simp only[bt] at hb0
  refine s_g hG ?_
  refine az ?_
  refine aB ?_
  refine q_e [] ?_
  exact cmp_lens hC.1 hC.2.1 hb0
 ·intro hb0
  try simp only[decide_eq_true_eq,decide_eq_false_iff_not,bne_eq_false_iff_eq] at hb0
  obtain⟨c1,c2,c3⟩:=hC
  have c3:List.length m+List.length o<1000000000000:=c3
  have hl:List.length m=List.length o:=by have:=na.1 hb0;omega
  refine ar ?_
  refine ah ?_
  refine ak ?_
  refine s_g hG ?_
  refine au ?_
  refine br (fun(z:Nat)=>(⟨[(0, .l (.z (.slice (.int .u32)) m)),(1, .l (.z (.slice (.int .u32)) o)),(6, .l (.z (.int .i64) ((z:Int)-1)))], []⟩:aa)) (fun z=>z<=List.length m/\List.drop z m=List.drop z o) (fun z=>z) (List.length m) ?_ ?_ ?_
  ·refine q_l ?_
   exact wi (by omega) (by omega)
  ·exact⟨Nat.le_refl _,by rw[List.drop_length,List.drop_of_length_le (by omega)]⟩
  ·rintro k ⟨g1,g2⟩
   try dsimp only at g1 g2
   refine ak ?_
   refine s_g hG ?_
   refine aq ?_ ?_
   ·intro hb1
    try simp only[bt] at hb1
    refine ar ?_
    refine ah ?_
    refine ak ?_
    refine au ?_
    refine s_d hG ?_ ?_
    ·try simp only[ba]
     omega
    refine s_g hG ?_
    refine aq ?_ ?_
    ·intro hb2
     try simp only[bt] at hb2
     refine s_g hG ?_
     refine az ?_
     refine bE ?_
     refine aB ?_
     refine eE ?_
     refine bE ?_
     refine aB ?_
     refine q_e [] ?_
     obtain⟨j,rfl⟩:∃ j,k=j+1:=⟨k-1,by omega⟩
     have hk:((j+1:Nat):Int)-1=(j:Int):=by omega
     rw[hk] at hb2 ⊢
     exact cmp_place (k:=j) c1 c2 hl (by omega) g2 hb2
    ·intro hb2
     try simp only[bf] at hb2
     refine ar ?_
     refine aQ ?_
     refine ah ?_
     refine ag hG ?_ ?_
     ·first|trivial|omega|(simp;done)|(simp;omega)
     show ∃ z,_
     refine q_l ?_
     have hk:(k:Int)-1=((k-1:Nat):Int):=by omega
     refine⟨k-1,by rw[hk,wi (by omega) (by omega)],by omega,?_,by omega⟩
     refine drop_step (k:=k-1) hl (by omega) (by rw[show k-1+1=k by omega];exact g2) ?_
     rw[hk] at hb2
     exact na.1 hb2
   ·intro hb1
    try simp only[bf] at hb1
    refine bg ?_
    refine aE ?_
    refine ax ?_
    refine aw ?_
    refine ah ?_
    refine s_g hG ?_
    refine az ?_
    refine q_e [] ?_
    have:k=0:=by omega
    subst this
    simp only[List.drop_zero] at g2
    rw[g2];simp[bu]
def Fg(B:aj):Tab:={types:= [(2,(.int .i64)),(3,(.int .i64)),(87,(.slice (.int .u32))),(161,(.int .u32))],elems:= [(87,161)],cons:= [],hint:= [],N:=46,base:=B}
theorem Ls{B:aj}(hB:aC B):aK Tryz.prog (Fg B):=⟨⟨tc ty2 (tc ty3 (tc ix (tc fO (ae)))),aR (by kernel_rfl) (af),by simp only[Fg,ioB];omega⟩,bP rfl,by kernel_rfl⟩
def xR:Con:=fun l os=>match l,os with
 | [.z (.slice (.int .u32)) m, .z (.slice (.int .u32)) o], []=>some (Cano m/\Cano o/\valL o<=valL m/\m.length<CAP, [.z (.slice (.int .u32)) (padL (valL m-valL o).toNat m.length)], [])
 |_,_=>none
theorem NA{B:aj}(hB:aC B):Valid B Tryz.prog 153 xR:=by
 refine ab (Ls hB).tab Tryz.func153 rfl rfl rfl ?_
 intro args os C rs os' hc hC
 unfold xR at hc
 split at hc
 case h_2=>cases hc
 rename_i m o
 cases hc
 refine v_h (Ls hB) fun X hP hT hr hG=> ?_
 have hU:=Fg.eq_1
 unfold Fg at hT
 have hX:=Bool.not_true
 simp only[Tryz.f153,aD,al,ioB]
 refine s_g hG ?_
 refine s_q hG ?_ ?_
 ·try simp only[ba]
  exact⟨by omega,by omega,by have:List.length m<1000000000000:=hC.2.2.2;unfold Cm.Roomy;omega⟩
 refine s_g hG ?_
 refine ak ?_
 refine s_g hG ?_
 refine au ?_
 refine br (fun(z:Nat×Int×List Int)=>(⟨[(1, .l (.z (.slice (.int .u32)) o)),(5, .l (.ownS 12)),(6, .l (.z (.int .i64) z.2.1)),(13, .l (.z (.slice (.int .u32)) m)),(14, .l (.z (.int .i64) (List.length m:Int))),(15, .l (.z (.int .i64) (z.1:Int)))], [(12, .arr (.int .u32) 161 z.2.2)]⟩:aa)) (fun z=>z.1<=List.length m/\z.2.2.length=z.1/\Lim z.2.2/\0<=z.2.1/\z.2.1<=1/\valL z.2.2+valL (List.take z.1 o)=valL (List.take z.1 m)+LB^z.1*z.2.1) (fun z=>List.length m-z.1) (0,0, []) ?_ ?_ ?_
 ·refine q_l ?_
  exact⟨rfl,rfl⟩
 ·simp[Lim,valL]
 ·rintro⟨k,b,out⟩ ⟨g1,g2,g3,g4,g5,g6⟩
  try dsimp only at g1 g2 g3 g4 g5 g6
  obtain⟨c1,c2,c3,c4⟩:=hC
  have c4:List.length m<1000000000000:=c4
  have hx:=c1.1.getD k
  have hy:=c2.1.getD k
  have hB:LB=1000000000:=rfl
  refine s_g hG ?_
  refine ak ?_
  refine aq ?_ ?_
  ·intro hb0
   try simp only[bt] at hb0
   refine ar ?_
   refine ah ?_
   refine ak ?_
   refine au ?_
   refine s_q hG ?_ ?_
   ·try simp only[ba]
    exact⟨by omega,by omega⟩
   refine s_g hG ?_
   refine ct (fun(z:Int)=>(⟨[(1, .l (.z (.slice (.int .u32)) o)),(5, .l (.ownS 12)),(9, .l (.z (.int .i64) z)),(13, .l (.z (.slice (.int .u32)) m)),(14, .l (.z (.int .i64) (List.length m:Int))),(15, .l (.z (.int .i64) (k:Int)))], [(12, .arr (.int .u32) 161 out)]⟩:aa)) (fun z=>z=List.getD m k 0-b-List.getD o k 0) ?_ ?_
   ·refine s_g hG ?_
    refine aq ?_ ?_
    ·intro hb1
     try simp only[bt] at hb1
     refine ag hG ?_ ?_
     ·try simp only[ba]
      exact⟨by omega,by omega⟩
     show ∃ z,_
     refine q_l ?_
     rw[fI,wi (x:=List.getD m k 0) (by omega) (by omega),wi (x:=List.getD m k 0-b) (by omega) (by omega)]
     first|(rw[fI,wi (x:=List.getD o k 0) (by omega) (by omega)];exact wi (by omega) (by omega))|(rw[List.getD_eq_getElem?_getD (l:=o),List.getElem?_eq_none (by omega)];simp)
    ·intro hb1
     try simp only[bf] at hb1
     refine ar ?_
     show ∃ z,_
     refine q_l ?_
     rw[fI,wi (x:=List.getD m k 0) (by omega) (by omega),wi (x:=List.getD m k 0-b) (by omega) (by omega)]
     first|(rw[fI,wi (x:=List.getD o k 0) (by omega) (by omega)];exact wi (by omega) (by omega))|(rw[List.getD_eq_getElem?_getD (l:=o),List.getElem?_eq_none (by omega)];simp)
   rintro n hn
   try dsimp only at hn
   refine s_g hG ?_
   refine ct (fun(z:Int×Int)=>(⟨[(1, .l (.z (.slice (.int .u32)) o)),(5, .l (.ownS 12)),(6, .l (.z (.int .i64) z.2)),(9, .l (.z (.int .i64) z.1)),(13, .l (.z (.slice (.int .u32)) m)),(14, .l (.z (.int .i64) (List.length m:Int))),(15, .l (.z (.int .i64) (k:Int)))], [(12, .arr (.int .u32) 161 out)]⟩:aa)) (fun z=>0<=z.1/\z.1<LB/\0<=z.2/\z.2<=1/\z.1-LB*z.2=n) ?_ ?_
   ·refine s_g hG ?_
    refine aq ?_ ?_
    ·intro hb2
     try simp only[bt] at hb2
     refine ag hG ?_ ?_
     ·first|trivial|omega|(simp;done)|(simp;omega)
     show ∃ z,_
     refine q_l ?_
     first|(rw[wi (by omega) (by omega)];exact⟨by omega,by omega,by omega,by omega,by omega⟩)|exact⟨by omega,by omega,by omega,by omega,by omega⟩
    ·intro hb2
     try simp only[bf] at hb2
     refine ar ?_
     show ∃ z,_
     refine q_l ?_
     first|(rw[wi (by omega) (by omega)];exact⟨by omega,by omega,by omega,by omega,by omega⟩)|exact⟨by omega,by omega,by omega,by omega,by omega⟩
   rintro⟨n2,b2⟩ hn2
   try dsimp only at hn2
   refine ag hG ?_ ?_
   ·try simp only[ba]
    unfold Cm.Roomy;omega
   refine aQ ?_
   refine ah ?_
   refine ag hG ?_ ?_
   ·first|trivial|omega|(simp;done)|(simp;omega)
   show ∃ z,_
   refine q_l ?_
   obtain⟨hn1,hn2,hn3,hn4,hn5⟩:=hn2
   rw[w32 hn1 (by omega)]
   obtain⟨q1,q2⟩:=minus_round (b:=b) g2 g3 g6 hn1 hn2 (b':=b2) (by omega)
   exact⟨k+1,by rw[wi (by omega) (by omega)];simp,by omega,by simp[g2],q1,hn3,hn4,q2,by omega⟩
  ·intro hb0
   try simp only[bf] at hb0
   refine bg ?_
   refine aE ?_
   refine ax ?_
   refine aw ?_
   refine ah ?_
   refine s_g hG ?_
   refine az ?_
   refine q_e [] ?_
   have hk:k=List.length m:=by omega
   subst hk
   exact minus_end c1 c2 c3 g2 g3 g4 (by rw[List.take_length] at g6;exact g6)
def Fh(B:aj):Tab:={types:= [(3,(.int .i64)),(4, .bool),(87,(.slice (.int .u32))),(89,(.st (.pair .bool (.slice (.int .u32)))))],elems:= [],cons:= [(150,ec),(151,E2),(152,eU),(153,xR)],hint:= [],N:=42,base:=B}
theorem Lt{B:aj}(hB:aC B):aK Tryz.prog (Fh B):=⟨⟨tc ty3 (tc ty4 (tc ix (tc gN (ae)))),af,by simp only[Fh,ioB];omega⟩,aF (cc Tryz.func150 (kc hB) (cc Tryz.func151 (Nw hB) (cc Tryz.func152 (xQ hB) (cc Tryz.func153 (NA hB) (ay))))),by kernel_rfl⟩
def Aq:Con:=fun l os=>match l,os with
 | [.z (.st (.pair .bool (.slice (.int .u32)))) x, .z (.st (.pair .bool (.slice (.int .u32)))) y], []=>some (WOK x/\WOK y/\x.2.length+y.2.length<CAP, [.z (.st (.pair .bool (.slice (.int .u32)))) (enc (dec x+dec y))], [])
 |_,_=>none
theorem xS{B:aj}(hB:aC B):Valid B Tryz.prog 110 Aq:=by
 refine ab (Lt hB).tab Tryz.func110 rfl rfl rfl ?_
 intro args os C rs os' hc hC
 unfold Aq at hc
 split at hc
 case h_2=>cases hc
 rename_i x y
 cases hc
 refine v_h (Lt hB) fun X hP hT hr hG=> ?_
 have hU:=Fh.eq_1
 unfold Fh at hT
 have hX:=ai @eU.eq_1<|ai @xR.eq_1<|ai @E2.eq_1<| @ec.eq_1
 simp only[Tryz.f110,aD,al,ioB]
 refine s_g hG ?_
 refine ak ?_
 refine au ?_
 refine s_g hG ?_
 refine aq ?_ ?_
 ·intro hb0
  try simp only[bt] at hb0
  refine s_d hG ?_ ?_
  ·try simp only[ba]
   obtain⟨c1,c2,c3⟩:=hC
   exact⟨⟨c1.1,c2.1,c3⟩,(limbs_can _).1,Nat.lt_of_le_of_lt (plus_len c1.1 c2.1) c3⟩
  refine az ?_
  refine bE ?_
  refine aB ?_
  refine q_e [] ?_
  exact add_same hC.1 hC.2.1 hb0
 ·intro hb0
  try simp only[bf] at hb0
  refine s_q hG ?_ ?_
  ·try simp only[ba]
   obtain⟨c1,c2,c3⟩:=hC
   exact⟨c1.1,c2.1,c3⟩
  refine aq ?_ ?_
  ·intro hb1
   try simp only[bt] at hb1
   refine s_d hG ?_ ?_
   ·try simp only[ba]
    obtain⟨c1,c2,c3⟩:=hC
    rw[nb] at hb1
    exact⟨⟨c2.1,c1.1,by omega,by omega⟩,padL_lim _ _,by rw[padL_len];omega⟩
   refine az ?_
   refine bE ?_
   refine aB ?_
   refine q_e [] ?_
   rw[nb] at hb1
   rw[yV (fun e=>hb0 e.symm) (minus_val hC.2.1.1 hC.1.1 (by omega)),Int.add_comm]
  ·intro hb1
   try simp only[bf] at hb1
   refine ar ?_
   refine aQ ?_
   refine ah ?_
   refine s_d hG ?_ ?_
   ·try simp only[ba]
    obtain⟨c1,c2,c3⟩:=hC
    rw[nb] at hb1
    exact⟨⟨c1.1,c2.1,by omega,by omega⟩,padL_lim _ _,by rw[padL_len];omega⟩
   refine az ?_
   refine q_e [] ?_
   rw[nb] at hb1
   exact yV hb0 (minus_val hC.1.1 hC.2.1.1 (by omega))
def Fi(B:aj):Tab:={types:= [(89,(.st (.pair .bool (.slice (.int .u32)))))],elems:= [],cons:= [(110,Aq),(148,Ap)],hint:= [],N:=9,base:=B}
theorem Lu{B:aj}(hB:aC B):aK Tryz.prog (Fi B):=⟨⟨tc gN (ae),af,by simp only[Fi,ioB];omega⟩,aF (cc Tryz.func110 (xS hB) (cc Tryz.func148 (xO hB) (ay))),by kernel_rfl⟩
def NB:Con:=fun l os=>match l,os with
 | [.z (.st (.pair .bool (.slice (.int .u32)))) x, .z (.st (.pair .bool (.slice (.int .u32)))) y], []=>some (WOK x/\WOK y/\x.2.length+y.2.length<CAP, [.z (.st (.pair .bool (.slice (.int .u32)))) (enc (dec x-dec y))], [])
 |_,_=>none
theorem NC{B:aj}(hB:aC B):Valid B Tryz.prog 179 NB:=by
 refine ab (Lu hB).tab Tryz.func179 rfl rfl rfl ?_
 intro args os C rs os' hc hC
 unfold NB at hc
 split at hc
 case h_2=>cases hc
 rename_i x y
 cases hc
 refine v_h (Lu hB) fun X hP hT hr hG=> ?_
 have hU:=Fi.eq_1
 unfold Fi at hT
 have hX:=ai @Aq.eq_1<| @Ap.eq_1
 simp only[Tryz.f179,aD,al,ioB]
 refine s_g hG ?_
 refine s_d hG ?_ ?_
 ·try simp only[ba]
  obtain⟨c1,c2,c3⟩:=hC
  exact⟨⟨c2.1.1,by omega⟩,c1,enc_ok _,by rw[Mi c2];exact c3⟩
 refine az ?_
 refine q_e [] ?_
 rw[bT];rfl
def Fj(B:aj):Tab:={types:= [(3,(.int .i64)),(4, .bool),(87,(.slice (.int .u32))),(89,(.st (.pair .bool (.slice (.int .u32))))),(161,(.int .u32)),(164,(.int .u64))],elems:= [(87,161)],cons:= [(150,ec)],hint:= [],N:=79,base:=B}
theorem Lv{B:aj}(hB:aC B):aK Tryz.prog (Fj B):=⟨⟨tc ty3 (tc ty4 (tc ix (tc gN (tc fO (tc nk (ae)))))),aR (by kernel_rfl) (af),by simp only[Fj,ioB];omega⟩,aF (cc Tryz.func150 (kc hB) (ay)),by kernel_rfl⟩
def Ar:Con:=fun l os=>match l,os with
 | [.z (.st (.pair .bool (.slice (.int .u32)))) x, .z (.st (.pair .bool (.slice (.int .u32)))) y], []=>some (WOK x/\WOK y/\x.2.length+y.2.length<CAP, [.z (.st (.pair .bool (.slice (.int .u32)))) (enc (dec x*dec y))], [])
 |_,_=>none
theorem xT{B:aj}(hB:aC B):Valid B Tryz.prog 109 Ar:=by
 refine ab (Lv hB).tab Tryz.func109 rfl rfl rfl ?_
 intro args os C rs os' hc hC
 unfold Ar at hc
 split at hc
 case h_2=>cases hc
 rename_i x y
 cases hc
 refine v_h (Lv hB) fun X hP hT hr hG=> ?_
 have hU:=Fj.eq_1
 unfold Fj at hT
 have hX:= @ec.eq_1
 simp only[Tryz.f109,aD,al,ioB]
 refine s_g hG ?_
 refine s_q hG ?_ ?_
 ·try simp only[ba]
  have c3:List.length x.2+List.length y.2<1000000000000:=hC.2.2
  rw[wi (by omega) (by omega)]
  exact⟨by omega,by omega,by unfold Cm.Roomy;omega⟩
 refine ak ?_
 refine s_g hG ?_
 refine au ?_
 refine br (fun(z:Nat×List Int)=>(⟨[(2, .l (.z (.ptr (.st (.pair .bool (.slice (.int .u32))))) x)),(3, .l (.z (.ptr (.st (.pair .bool (.slice (.int .u32))))) y)),(4, .l (.ownP 4 0)),(5, .l (.ownS 19)),(21, .l (.z (.slice (.int .u32)) x.2)),(22, .l (.z (.int .i64) (List.length x.2:Int))),(23, .l (.z (.int .i64) (z.1:Int)))], [(19, .arr (.int .u32) 161 z.2),(4, .box 89 [.z .bool false, .val (.slice none 0 0)])]⟩:aa)) (fun z=>z.1<=List.length x.2/\z.2.length=List.length x.2+List.length y.2/\Lim z.2/\valL z.2=valL (List.take z.1 x.2)*valL y.2/\∀ j,z.1+List.length y.2<=j->z.2.getD j 0=0) (fun z=>List.length x.2-z.1) (0,List.replicate (List.length x.2+List.length y.2) 0) ?_ ?_ ?_
 ·refine q_l ?_
  have c3:List.length x.2+List.length y.2<1000000000000:=hC.2.2
  rw[wi (by omega) (by omega)]
  exact⟨rfl,by congr 1⟩
 ·obtain⟨r1,r2,r3⟩:=replicate_zero (List.length x.2+List.length y.2)
  exact⟨by simp,by simp,r1,by simp[r2,valL],fun j _=>r3 j⟩
 ·rintro⟨i,out⟩ ⟨g1,g2,g3,g4,g5⟩
  try dsimp only at g1 g2 g3 g4 g5
  obtain⟨c1,c2,c3⟩:=hC
  have c3:List.length x.2+List.length y.2<1000000000000:=c3
  have hB:LB=1000000000:=rfl
  refine s_g hG ?_
  refine ak ?_
  refine aq ?_ ?_
  ·intro hb0
   try simp only[bt] at hb0
   refine ar ?_
   refine ah ?_
   refine ak ?_
   refine au ?_
   refine s_q hG ?_ ?_
   ·try simp only[ba]
    omega
   refine s_g hG ?_
   refine ak ?_
   refine s_g hG ?_
   refine au ?_
   refine br (fun(z:Nat×Int×List Int)=>(⟨[(2, .l (.z (.ptr (.st (.pair .bool (.slice (.int .u32))))) x)),(3, .l (.z (.ptr (.st (.pair .bool (.slice (.int .u32))))) y)),(4, .l (.ownP 4 0)),(5, .l (.ownS 19)),(6, .l (.z (.int .i64) (i:Int))),(7, .l (.z (.int .u32) (List.getD x.2 i 0))),(8, .l (.z (.int .u64) z.2.1)),(21, .l (.z (.slice (.int .u32)) x.2)),(22, .l (.z (.int .i64) (List.length x.2:Int))),(23, .l (.z (.int .i64) (i:Int))),(29, .l (.z (.slice (.int .u32)) y.2)),(30, .l (.z (.int .i64) (List.length y.2:Int))),(31, .l (.z (.int .i64) (z.1:Int)))], [(19, .arr (.int .u32) 161 z.2.2),(4, .box 89 [.z .bool false, .val (.slice none 0 0)])]⟩:aa)) (fun z=>z.1<=List.length y.2/\z.2.2.length=List.length x.2+List.length y.2/\Lim z.2.2/\0<=z.2.1/\z.2.1<LB/\valL z.2.2+LB^(i+z.1)*z.2.1=valL (List.take i x.2)*valL y.2+LB^i*(List.getD x.2 i 0*valL (List.take z.1 y.2))/\∀ j,i+List.length y.2<=j->z.2.2.getD j 0=0) (fun z=>List.length y.2-z.1) (0,0,out) ?_ ?_ ?_
   ·refine q_l ?_
    exact⟨rfl,rfl⟩
   ·exact⟨by simp,g2,g3,by simp,by simp;decide,by simp[valL,g4],g5⟩
   ·rintro⟨k,c,out2⟩ ⟨k1,k2,k3,k4,k5,k6,k7⟩
    try dsimp only at k1 k2 k3 k4 k5 k6 k7
    have e1:IntKind.i64.wrap ((i:Int)+(k:Int))=((i+k:Nat):Int):=by rw[wi (by omega) (by omega)];omega
    refine s_g hG ?_
    refine ak ?_
    refine aq ?_ ?_
    ·intro hb1
     try simp only[bt] at hb1
     refine ar ?_
     refine ah ?_
     refine ak ?_
     refine au ?_
     refine s_q hG ?_ ?_
     ·try simp only[ba]
      omega
     refine ct (fun(z:Int)=>(⟨[(2, .l (.z (.ptr (.st (.pair .bool (.slice (.int .u32))))) x)),(3, .l (.z (.ptr (.st (.pair .bool (.slice (.int .u32))))) y)),(4, .l (.ownP 4 0)),(5, .l (.ownS 19)),(6, .l (.z (.int .i64) (i:Int))),(7, .l (.z (.int .u32) (List.getD x.2 i 0))),(9, .l (.z (.int .i64) (k:Int))),(11, .l (.z (.int .u64) z)),(21, .l (.z (.slice (.int .u32)) x.2)),(22, .l (.z (.int .i64) (List.length x.2:Int))),(23, .l (.z (.int .i64) (i:Int))),(29, .l (.z (.slice (.int .u32)) y.2)),(30, .l (.z (.int .i64) (List.length y.2:Int))),(31, .l (.z (.int .i64) (k:Int)))], [(19, .arr (.int .u32) 161 out2),(4, .box 89 [.z .bool false, .val (.slice none 0 0)])]⟩:aa)) (fun z=>z=List.getD x.2 i 0*List.getD y.2 k 0+out2.getD (i+k) 0+c) ?_ ?_
     ·refine ag hG ?_ ?_
      ·try simp only[ba]
       rw[e1];omega
      show ∃ z,_
      refine q_l ?_
      rw[e1]
      exact O6 (c1.1.1.getD i) (c2.1.1.getD k) (k3.getD (i+k)) ⟨k4,k5⟩
     rintro n hn
     try dsimp only at hn
     refine ag hG ?_ ?_
     ·try simp only[ba]
      rw[e1];omega
     refine aQ ?_
     refine ah ?_
     refine ag hG ?_ ?_
     ·first|trivial|omega|(simp;done)|(simp;omega)
     show ∃ z,_
     refine q_l ?_
     obtain⟨m0,m1,m2,m3,m4,m5,m6,m7⟩:=mul_step c1.1.1 c2.1.1 k2 k3 k4 k5 (by omega) (by omega) k6 k7 hn
     obtain⟨t1,t2,t3⟩:=nT m0 m1
     rw[e1,t2,t3,Int.toNat_natCast]
     exact⟨k+1,by rw[wi (by omega) (by omega)];simp,by omega,m2,m3,m4,m5,m6,m7,by omega⟩
    ·intro hb1
     try simp only[bf] at hb1
     refine bg ?_
     refine aE ?_
     refine ax ?_
     refine aw ?_
     refine ah ?_
     refine ag hG ?_ ?_
     ·try simp only[ba]
      rw[wi (by omega) (by omega)];omega
     refine aQ ?_
     refine ah ?_
     refine ag hG ?_ ?_
     ·first|trivial|omega|(simp;done)|(simp;omega)
     show ∃ z,_
     refine q_l ?_
     have e1:IntKind.i64.wrap ((i:Int)+(List.length y.2:Int))=((i+List.length y.2:Nat):Int):=by rw[wi (by omega) (by omega)];omega
     have hk:k=List.length y.2:=by omega
     subst hk
     rw[List.take_length] at k6
     obtain⟨f1,f2,f3,f4⟩:=mul_row k2 k3 k4 k5 (by omega) rfl k6 k7
     rw[e1,w32 k4 (by omega),Int.toNat_natCast]
     exact⟨i+1,by rw[wi (by omega) (by omega)];simp,by omega,f1,f2,f3,f4,by omega⟩
  ·intro hb0
   try simp only[bf] at hb0
   refine bg ?_
   refine aE ?_
   refine ax ?_
   refine aw ?_
   refine ah ?_
   refine s_q hG ?_ ?_
   ·try simp only[ba]
    exact⟨g3,by unfold CAP;omega⟩
   refine az ?_
   refine q_e [] ?_
   have hi:i=List.length x.2:=by omega
   subst hi
   rw[List.take_length] at g4
   rw[<- Mj g4]
def Fk(B:aj):Tab:={types:= [(3,(.int .i64)),(9, .str)],elems:= [],cons:= [],hint:= [],N:=18,base:=B}
theorem Lw{B:aj}(hB:aC B):aK Tryz.prog (Fk B):=⟨⟨tc ty3 (tc ty9 (ae)),af,by simp only[Fk,ioB];omega⟩,bP rfl,by kernel_rfl⟩
def p9:Con:=fun l os=>match l,os with
 | [.z .str s, .z .str p], []=>some (True, [.z .bool (c6 s p)], [])
 |_,_=>none
theorem NF{B:aj}(hB:aC B):Valid B Tryz.prog 139 p9:=by
 refine ab (Lw hB).tab Tryz.func139 rfl rfl rfl ?_
 intro args os C rs os' hc hC
 unfold p9 at hc
 split at hc
 case h_2=>cases hc
 rename_i s p
 cases hc
 refine v_h (Lw hB) fun X hP hT hr hG=> ?_
 have hU:=Fk.eq_1
 unfold Fk at hT
 have hX:=Bool.not_true
 simp only[Tryz.f139,aD,al,ioB]
 refine s_g hG ?_
 refine s_q hG ?_ ?_
 ·try simp only[ba]
  (repeat' (first|apply And.intro|intro _))<;>(try simp only[decide_eq_true_eq,decide_eq_false_iff_not,Bool.not_eq_true',beq_iff_eq,Int.toNat_natCast] at*)<;>first|assumption|omega|trivial|(simp_all;done)|(simp_all;omega)
 refine az ?_
 refine q_e [] ?_
 exact Gs s p
def Fl(B:aj):Tab:={types:= [(9, .str)],elems:= [],cons:= [(139,p9)],hint:= [],N:=13,base:=B}
theorem Lx{B:aj}(hB:aC B):aK Tryz.prog (Fl B):=⟨⟨tc ty9 (ae),af,by simp only[Fl,ioB];omega⟩,aF (cc Tryz.func139 (NF hB) (ay)),by kernel_rfl⟩
def eV:Con:=fun l os=>match l,os with
 | [.z .str s, .z .str p], []=>some (True, [.z .str (av s p)], [])
 |_,_=>none
theorem NG{B:aj}(hB:aC B):Valid B Tryz.prog 186 eV:=by
 refine ab (Lx hB).tab Tryz.func186 rfl rfl rfl ?_
 intro args os C rs os' hc hC
 unfold eV at hc
 split at hc
 case h_2=>cases hc
 rename_i s p
 cases hc
 refine v_h (Lx hB) fun X hP hT hr hG=> ?_
 have hU:=Fl.eq_1
 unfold Fl at hT
 have hX:= @p9.eq_1
 simp only[Tryz.f186,aD,al,ioB]
 refine s_g hG ?_
 refine ak ?_
 refine s_g hG ?_
 refine aq ?_ ?_
 ·intro hb0
  try simp only[bt] at hb0
  refine s_q hG ?_ ?_
  ·try simp only[ba]
   have h:=hb0
   unfold c6 at h
   simp only[Bool.and_eq_true,decide_eq_true_eq] at h
   exact⟨by omega,by omega,by omega⟩
  refine az ?_
  refine aB ?_
  refine q_e [] ?_
  simp[av,hb0]
 ·intro hb0
  try simp only[bf] at hb0
  refine ar ?_
  refine ah ?_
  refine s_g hG ?_
  refine az ?_
  refine q_e [] ?_
  simp[av,hb0]
def Fm(B:aj):Tab:={types:= [(9, .str)],elems:= [],cons:= [(186,eV)],hint:= [],N:=8,base:=B}
theorem Ly{B:aj}(hB:aC B):aK Tryz.prog (Fm B):=⟨⟨tc ty9 (ae),af,by simp only[Fm,ioB];omega⟩,aF (cc Tryz.func186 (NG hB) (ay)),by kernel_rfl⟩
theorem Fo{B:aj}(hB:aC B):Valid B Tryz.prog 172 eV:=by
 refine ab (Ly hB).tab Tryz.func172 rfl rfl rfl ?_
 intro args os C rs os' hc hC
 unfold eV at hc
 split at hc
 case h_2=>cases hc
 rename_i s p
 cases hc
 refine v_h (Ly hB) fun X hP hT hr hG=> ?_
 have hU:=Fm.eq_1
 unfold Fm at hT
 have hX:= @eV.eq_1
 simp only[Tryz.f172,aD,al,ioB]
 refine s_g hG ?_
 refine s_g hG ?_
 refine az ?_
 refine q_e [] ?_
 trivial
def Fp(B:aj):Tab:={types:= [(87,(.slice (.int .u32)))],elems:= [],cons:= [],hint:= [],N:=4,base:=B}
theorem Lz{B:aj}(hB:aC B):aK Tryz.prog (Fp B):=⟨⟨tc ix (ae),af,by simp only[Fp,ioB];omega⟩,bP rfl,by kernel_rfl⟩
def v8:Con:=fun l os=>match l,os with
 | [.z (.slice (.int .u32)) xs], []=>some (True, [.fn 208 [.z (.ptr (.slice (.int .u32))) xs]], [])
 |_,_=>none
theorem Fq{B:aj}(hB:aC B):Valid B Tryz.prog 193 v8:=by
 refine ab (Lz hB).tab Tryz.func193 rfl rfl rfl ?_
 intro args os C rs os' hc hC
 unfold v8 at hc
 split at hc
 case h_2=>cases hc
 rename_i xs
 cases hc
 refine v_h (Lz hB) fun X hP hT hr hG=> ?_
 have hU:=Fp.eq_1
 unfold Fp at hT
 have hX:=Bool.not_true
 simp only[Tryz.f193,aD,al,ioB]
 refine s_g hG ?_
 refine s_g hG ?_
 refine az ?_
 refine q_e [] ?_
 rfl
def Fs(B:aj):Tab:={types:= [(3,(.int .i64)),(4, .bool),(87,(.slice (.int .u32))),(89,(.st (.pair .bool (.slice (.int .u32)))))],elems:= [],cons:= [(152,eU),(154,pK),(180,v7)],hint:= [],N:=32,base:=B}
theorem LA{B:aj}(hB:aC B):aK Tryz.prog (Fs B):=⟨⟨tc ty3 (tc ty4 (tc ix (tc gN (ae)))),af,by simp only[Fs,ioB];omega⟩,aF (cc Tryz.func152 (xQ hB) (cc Tryz.func154 (xP hB) (cc Tryz.func180 (E8 hB) (ay)))),by kernel_rfl⟩
def NH:Con:=fun l os=>match l,os with
 | [.z (.st (.pair .bool (.slice (.int .u32)))) x, .z (.st (.pair .bool (.slice (.int .u32)))) y], []=>some (WOK x/\WOK y/\x.2.length+y.2.length<CAP, [.z (.int .i64) (bu (dec x) (dec y))], [])
 |_,_=>none
theorem NI{B:aj}(hB:aC B):Valid B Tryz.prog 168 NH:=by
 refine ab (LA hB).tab Tryz.func168 rfl rfl rfl ?_
 intro args os C rs os' hc hC
 unfold NH at hc
 split at hc
 case h_2=>cases hc
 rename_i x y
 cases hc
 refine v_h (LA hB) fun X hP hT hr hG=> ?_
 have hU:=Fs.eq_1
 unfold Fs at hT
 have hX:=ai @v7.eq_1<|ai @eU.eq_1<| @pK.eq_1
 simp only[Tryz.f168,aD,al,ioB]
 refine s_g hG ?_
 refine ak ?_
 refine s_d hG ?_ ?_
 ·try simp only[ba]
  exact⟨hC.1,hC.2.1⟩
 refine s_q hG ?_ ?_
 ·try simp only[ba]
  (repeat' (first|apply And.intro|intro _))<;>(try simp only[decide_eq_true_eq,decide_eq_false_iff_not,Bool.not_eq_true',beq_iff_eq,Int.toNat_natCast] at*)<;>first|assumption|omega|trivial|(simp_all;done)|(simp_all;omega)
 refine aq ?_ ?_
 ·intro hb0
  try simp only[bt] at hb0
  refine s_g hG ?_
  refine az ?_
  refine aB ?_
  refine q_e [] ?_
  exact Gu hC.1 hb0
 ·intro hb0
  try simp only[bf] at hb0
  refine ar ?_
  refine ah ?_
  refine ak ?_
  refine s_g hG ?_
  refine aq ?_ ?_
  ·intro hb1
   try simp only[bt] at hb1
   refine s_q hG ?_ ?_
   ·try simp only[ba]
    exact⟨hC.2.1.1,hC.1.1,by omega⟩
   refine az ?_
   refine aB ?_
   refine q_e [] ?_
   exact(sS hC.1 hC.2.1 hb0).1 hb1
  ·intro hb1
   try simp only[bf] at hb1
   refine ar ?_
   refine ah ?_
   refine s_q hG ?_ ?_
   ·try simp only[ba]
    exact⟨hC.1.1,hC.2.1.1,by omega⟩
   refine az ?_
   refine q_e [] ?_
   exact(sS hC.1 hC.2.1 hb0).2 hb1
def Ft(B:aj):Tab:={types:= [(3,(.int .i64)),(9, .str),(87,(.slice (.int .u32))),(89,(.st (.pair .bool (.slice (.int .u32))))),(161,(.int .u32))],elems:= [],cons:= [(166,u9)],hint:= [],N:=22,base:=B}
theorem LC{B:aj}(hB:aC B):aK Tryz.prog (Ft B):=⟨⟨tc ty3 (tc ty9 (tc ix (tc gN (tc fO (ae))))),af,by simp only[Ft,ioB];omega⟩,aF (cc Tryz.func166 (D3 hB) (ay)),by kernel_rfl⟩
def qa:Con:=fun l os=>match l,os with
 | [.z (.st (.pair .bool (.slice (.int .u32)))) x], []=>some (WOK x/\x.2.length<CAP, [.z (.int .i64) (eu (dec x))], [])
 |_,_=>none
theorem NJ{B:aj}(hB:aC B):Valid B Tryz.prog 169 qa:=by
 refine ab (LC hB).tab Tryz.func169 rfl rfl rfl ?_
 intro args os C rs os' hc hC
 unfold qa at hc
 split at hc
 case h_2=>cases hc
 rename_i x
 cases hc
 refine v_h (LC hB) fun X hP hT hr hG=> ?_
 have hU:=Ft.eq_1
 unfold Ft at hT
 have hX:= @u9.eq_1
 simp only[Tryz.f169,aD,al,ioB]
 refine s_g hG ?_
 refine s_g hG ?_
 refine ak ?_
 refine s_g hG ?_
 refine aq ?_ ?_
 ·intro hb0
  try simp only[bt] at hb0
  refine s_g hG ?_
  refine az ?_
  refine aB ?_
  refine q_e [] ?_
  rw[(fJ hC.1).1.1 hb0,ve]
 ·intro hb0
  try simp only[bf] at hb0
  refine ar ?_
  refine ah ?_
  refine s_q hG ?_ ?_
  ·try simp only[ba]
   obtain⟨d1,d2,d3,d4⟩:=y4 hC.1 hC.2 hb0
   have d5:=yZ hC.1.1.1 (by omega)
   have hB:LB=1000000000:=rfl
   rw[d2,d3]
   exact⟨d1,by unfold I64;omega⟩
  refine az ?_
  refine q_e [] ?_
  obtain⟨d1,d2,d3,d4⟩:=y4 hC.1 hC.2 hb0
  rw[d2,d3]
  exact d4
def Fu(B:aj):Tab:={types:= [(3,(.int .i64)),(87,(.slice (.int .u32))),(89,(.st (.pair .bool (.slice (.int .u32))))),(161,(.int .u32)),(164,(.int .u64))],elems:= [(87,161)],cons:= [],hint:= [],N:=27,base:=B}
theorem LD{B:aj}(hB:aC B):aK Tryz.prog (Fu B):=⟨⟨tc ty3 (tc ix (tc gN (tc fO (tc nk (ae))))),aR (by kernel_rfl) (af),by simp only[Fu,ioB];omega⟩,bP rfl,by kernel_rfl⟩
def jh:Con:=fun l os=>match l,os with
 | [.z (.int .i64) n], []=>some (I64 n, [.z (.st (.pair .bool (.slice (.int .u32)))) (enc n)], [])
 |_,_=>none
theorem qb{B:aj}(hB:aC B):Valid B Tryz.prog 133 jh:=by
 refine ab (LD hB).tab Tryz.func133 rfl rfl rfl ?_
 intro args os C rs os' hc hC
 unfold jh at hc
 split at hc
 case h_2=>cases hc
 rename_i n
 cases hc
 refine v_h (LD hB) fun X hP hT hr hG=> ?_
 have hU:=Fu.eq_1
 unfold Fu at hT
 have hX:=Bool.not_true
 simp only[Tryz.f133,aD,al,ioB]
 refine s_g hG ?_
 refine s_g hG ?_
 refine s_g hG ?_
 refine ct (fun(z:Int)=>(⟨[(4, .l (.z (.int .u64) z)),(3, .l (.ownP 3 0)),(2, .l (.ownP 2 0))], [(3, .box 89 [.z .bool (decide (n<0)), .val (.slice none 0 0)]),(2, .box 89 [.z .bool false, .val (.slice none 0 0)])]⟩:aa)) (fun z=>z=n.natAbs) ?_ ?_
 ·refine s_g hG ?_
  refine aq ?_ ?_
  ·intro hb0
   try simp only[bt] at hb0
   refine ag hG ?_ ?_
   ·first|trivial|omega|(simp;done)|(simp;omega)
   show ∃ z,_
   refine q_l ?_
   first|exact(lG hC).1 hb0|exact(lG hC).2 hb0
  ·intro hb0
   try simp only[bf] at hb0
   refine ar ?_
   show ∃ z,_
   refine q_l ?_
   first|exact(lG hC).1 hb0|exact(lG hC).2 hb0
 rintro z hz
 try dsimp only at hz
 refine ak ?_
 refine au ?_
 refine br (fun(z:Nat×List Int)=>(⟨[(4, .l (.z (.int .u64) (z.1:Int))),(3, .l (.ownP 3 0)),(2, .l (.ownP 2 0))], [(3, .box 89 [.z .bool (decide (n<0)), .ownS 24]),(24, .arr (.int .u32) 161 z.2),(2, .box 89 [.z .bool false, .val (.slice none 0 0)])]⟩:aa)) (fun z=>z.2++limbs z.1=limbs n.natAbs/\z.1<18446744073709551616) (fun z=>z.1) (n.natAbs, []) ?_ ?_ ?_
 ·refine q_l ?_
  exact⟨hz,by unfold ioB;omega⟩
 ·exact⟨by simp,by have hC:I64 n:=hC;unfold I64 at hC;omega⟩
 ·rintro⟨u,m⟩ ⟨g1,g2⟩
  try dsimp only at g1 g2
  refine ak ?_
  refine s_g hG ?_
  refine aq ?_ ?_
  ·intro hb1
   try simp only[bt] at hb1
   refine ar ?_
   refine ah ?_
   refine ak ?_
   refine au ?_
   refine ag hG ?_ ?_
   ·try simp only[ba]
    have h3:=mv (n:=n.natAbs) (by have hC:I64 n:=hC;unfold I64 at hC;omega)
    have h4:=congrArg List.length g1
    simp only[List.length_append] at h4
    exact⟨by omega,by unfold Cm.Roomy;omega⟩
   refine aQ ?_
   refine ah ?_
   refine ag hG ?_ ?_
   ·first|trivial|omega|(simp;done)|(simp;omega)
   show ∃ z,_
   refine q_l ?_
   exact o9 g1 g2 hb1
  ·intro hb1
   try simp only[bf] at hb1
   refine bg ?_
   refine aE ?_
   refine ax ?_
   refine aw ?_
   refine ah ?_
   refine s_g hG ?_
   refine az ?_
   refine q_e [24] ?_
   have h0:u=0:=by omega
   subst h0
   rw[show limbs 0= [] by simp[limbs],List.append_nil] at g1
   rw[g1];rfl
def xU(B:aj):Tab:={types:= [(4, .bool),(9, .str),(181,(.slice (.int .i64)))],elems:= [],cons:= [(156,gO),(157,cU),(158,e8)],hint:= [],N:=9,base:=B}
theorem Fv{B:aj}(hB:aC B):aK Tryz.prog (xU B):=⟨⟨tc ty4 (tc ty9 (tc jy (ae))),af,by simp only[xU,ioB];omega⟩,aF (cc Tryz.func156 (k9 hB) (cc Tryz.func157 (k8 hB) (cc Tryz.func158 (ld hB) (ay)))),by kernel_rfl⟩
def wa:Con:=fun l os=>match l,os with
 | [.z .str s], []=>some (RF s/\4*s.length<CAP, [.z .str (Lib.itoa (-ao s))], [])
 |_,_=>none
theorem As{B:aj}(hB:aC B):Valid B Tryz.prog 163 wa:=by
 refine ab (Fv hB).tab Tryz.func163 rfl rfl rfl ?_
 intro args os C rs os' hc hC
 unfold wa at hc
 split at hc
 case h_2=>cases hc
 rename_i s
 cases hc
 refine v_h (Fv hB) fun X hP hT hr hG=> ?_
 have hU:=xU.eq_1
 unfold xU at hT
 have hX:=ai @cU.eq_1<|ai @gO.eq_1<| @e8.eq_1
 simp only[Tryz.f163,aD,al,ioB]
 refine s_g hG ?_
 refine s_q hG ?_ ?_
 ·try simp only[ba]
  have h1:=zl hC.1
  have h2:=hC.2
  exact⟨hC.1,⟨hC.1,by omega⟩,D.limbs_can _,by omega⟩
 refine az ?_
 refine q_e [] ?_
 exact My _
def xV(B:aj):Tab:={types:= [(9, .str)],elems:= [],cons:= [(157,cU)],hint:= [],N:=7,base:=B}
theorem Fw{B:aj}(hB:aC B):aK Tryz.prog (xV B):=⟨⟨tc ty9 (ae),af,by simp only[xV,ioB];omega⟩,aF (cc Tryz.func157 (k8 hB) (ay)),by kernel_rfl⟩
def xW:Con:=fun l os=>match l,os with
 | [.z .str s], []=>some (RF s, [.z (.int .i64) (bu (ao s) 0)], [])
 |_,_=>none
theorem LF{B:aj}(hB:aC B):Valid B Tryz.prog 162 xW:=by
 refine ab (Fw hB).tab Tryz.func162 rfl rfl rfl ?_
 intro args os C rs os' hc hC
 unfold xW at hc
 split at hc
 case h_2=>cases hc
 rename_i s
 cases hc
 refine v_h (Fw hB) fun X hP hT hr hG=> ?_
 have hU:=xV.eq_1
 unfold xV at hT
 have hX:= @cU.eq_1
 simp only[Tryz.f162,aD,al,ioB]
 refine s_g hG ?_
 refine ak ?_
 refine s_g hG ?_
 refine aq ?_ ?_
 ·intro hb0
  try simp only[bt] at hb0
  refine s_g hG ?_
  refine az ?_
  refine aB ?_
  refine q_e [] ?_
  exact(s8 hC).1 hb0
 ·intro hb0
  try simp only[bf] at hb0
  refine ar ?_
  refine ah ?_
  refine ak ?_
  refine s_q hG ?_ ?_
  ·try simp only[ba]
   exact hC
  refine aq ?_ ?_
  ·intro hb1
   try simp only[bt] at hb1
   refine s_g hG ?_
   refine az ?_
   refine aB ?_
   refine q_e [] ?_
   exact(s8 hC).2.1 hb0 hb1
  ·intro hb1
   try simp only[bf] at hb1
   refine ar ?_
   refine ah ?_
   refine s_g hG ?_
   refine az ?_
   refine q_e [] ?_
   exact(s8 hC).2.2 hb0 hb1
def xX(B:aj):Tab:={types:= [(3,(.int .i64)),(9, .str)],elems:= [],cons:= [(182,E0)],hint:= [],N:=31,base:=B}
theorem Fx{B:aj}(hB:aC B):aK Tryz.prog (xX B):=⟨⟨tc ty3 (tc ty9 (ae)),af,by simp only[xX,ioB];omega⟩,aF (cc Tryz.func182 (Li hB) (ay)),by kernel_rfl⟩
def eW:Con:=fun l os=>match l,os with
 | [.z .str a, .z .str b], []=>some (RF a/\RF b/\a.length<CAP/\b.length<CAP, [.z (.int .i64) (if a.length<=9/\b.length<=9 then ao a else 0), .z (.int .i64) (if a.length<=9/\b.length<=9 then ao b else 0), .z .bool (decide (a.length<=9/\b.length<=9))], [])
 |_,_=>none
theorem nE{B:aj}(hB:aC B):Valid B Tryz.prog 155 eW:=by
 refine ab (Fx hB).tab Tryz.func155 rfl rfl rfl ?_
 intro args os C rs os' hc hC
 unfold eW at hc
 split at hc
 case h_2=>cases hc
 rename_i a b
 cases hc
 refine v_h (Fx hB) fun X hP hT hr hG=> ?_
 have hU:=xX.eq_1
 unfold xX at hT
 have hX:= @E0.eq_1
 simp only[Tryz.f155,aD,al,ioB]
 refine s_g hG ?_
 refine ak ?_
 refine s_q hG ?_ ?_
 ·try simp only[ba]
  (repeat' (first|apply And.intro|intro _))<;>(try simp only[decide_eq_true_eq,decide_eq_false_iff_not,Bool.not_eq_true',beq_iff_eq,Int.toNat_natCast] at*)<;>first|assumption|omega|trivial|(simp_all;done)|(simp_all;omega)
 refine aq ?_ ?_
 ·intro hb0
  simp only[Bool.or_eq_true,decide_eq_true_eq] at hb0
  have hl: ¬ (List.length a<=9/\List.length b<=9):=by omega
  refine s_g hG ?_
  refine az ?_
  refine aB ?_
  refine q_e [] ?_
  rw[if_neg hl,if_neg hl,decide_eq_false hl];exact⟨rfl,rfl,rfl⟩
 ·intro hb0
  simp only[Bool.or_eq_false_iff,decide_eq_false_iff_not] at hb0
  have hl:List.length a<=9/\List.length b<=9:=by omega
  refine ar ?_
  refine ah ?_
  refine s_q hG ?_ ?_
  ·try simp only[ba]
   exact⟨zm hC.1 hl.1,hl.1⟩
  refine s_q hG ?_ ?_
  ·try simp only[ba]
   exact⟨zm hC.2.1 hl.2,hl.2⟩
  refine s_g hG ?_
  refine az ?_
  refine q_e [] ?_
  rw[if_pos hl,if_pos hl,decide_eq_true hl];exact⟨rfl,rfl,rfl⟩
def xY(B:aj):Tab:={types:= [(3,(.int .i64))],elems:= [],cons:= [(166,u9)],hint:= [],N:=5,base:=B}
theorem Fy{B:aj}(hB:aC B):aK Tryz.prog (xY B):=⟨⟨tc ty3 (ae),af,by simp only[xY,ioB];omega⟩,aF (cc Tryz.func166 (D3 hB) (ay)),by kernel_rfl⟩
def pR:Con:=fun l os=>match l,os with
 | [.z (.int .i64) n], []=>some (I64 n, [.z .str (Lib.itoa n)], [])
 |_,_=>none
theorem lf{B:aj}(hB:aC B):Valid B Tryz.prog 126 pR:=by
 refine ab (Fy hB).tab Tryz.func126 rfl rfl rfl ?_
 intro args os C rs os' hc hC
 unfold pR at hc
 split at hc
 case h_2=>cases hc
 rename_i n
 cases hc
 refine v_h (Fy hB) fun X hP hT hr hG=> ?_
 have hU:=xY.eq_1
 unfold xY at hT
 have hX:= @u9.eq_1
 simp only[Tryz.f126,aD,al,ioB]
 refine s_g hG ?_
 refine s_q hG ?_ ?_
 ·try simp only[ba]
  exact hC
 refine az ?_
 refine q_e [] ?_
 trivial
end Go.Proofs.YtdojbabpnaifoaaGreatDoor
end
