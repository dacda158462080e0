/- Merged by a program out of several texts. -/
import Derived.Test.YtdojbabpnaifoaaGreatDoorQ3
import Derived.Test.YtdojbabpnaifoaaGreatDoorQ2
import Derived.Laws.CopyOwn
import Derived.Deep.RegionLaw
import Derived.Shelf.Strings.Builder2
import Derived.Shelf.Small.Wraps
import Derived.Shelf.Strings.BuilderK
import Derived.Shelf.Strings.Builder2Cap
import Derived.Shelf.Strconv.Atoi
import Derived.Shelf.Strconv.Itoa3
import Derived.Shelf.Strconv.AtoiErrFast
import Derived.Shelf.Strconv.ParseIntEmpty
import Derived.Shelf.Strconv.AtoiFail
import Derived.Shelf.Strconv.Clone
import Derived.Shelf.Strconv.SyntaxError
import Derived.Shelf.Strconv.Lower
import Derived.Shelf.Strconv.ParseUint10
import Derived.Shelf.Strconv.ParseUint10Empty
import Derived.Shelf.Strconv.RangeError
import Derived.Shelf.Strconv.ParseUintEmpty
import Derived.Shelf.Strconv.ParseUint10b64
import Derived.Shelf.Strconv.ParseUint10b32
import Derived.Shelf.Strconv.ParseUint10b16
import Derived.Shelf.Strconv.ParseUint10b8
import Derived.Shelf.Strings.Search1
import Derived.Shelf.Strings.Search2
import Derived.Shelf.Strings.Cut
import Derived.Shelf.Strings.Shaped
import Derived.Shelf.Bits.Mul64
import Derived.Shelf.Strings.Repeat
import Derived.Test.YtdojbabpnaifoaaGreatDoorProg
import Derived.WalkKit
import Derived.BigQuiet
import Derived.Shelf.Abstract
import Derived.RangeFuncBox
import Derived.OwnWalkIn
import Derived.TacticsInMore
import Derived.LoopNIn
import Derived.LoopIn
set_option linter.all false
set_option linter.unusedSimpArgs false
set_option linter.unusedVariables false
set_option maxRecDepth 100000
section
namespace Go.Cm
open Go.Proofs
def dW:Nat->List Rat->List Rat->List Rat
 |0,p,_=>cP p
 |n+1,p,q=>if q= [] then cP p else dW n q (cP (divN p q).2)
def cx(p q:List Rat):List Rat:=dW (q.length+1) p q
def Trm(l:List Rat):Prop:=l≠ []->aJ l≠0
def sA:Nat->List Rat->List Rat->Prop
 |0,_,_=>True
 |n+1,p,q=>if q= [] then ∀ x∈p,lq x<=QH else sw q (p.length+1) p/\(∀ x∈q,lq x<=QD)/\(∀ x∈(divN p q).2,lq x<=QH)/\sA n q (cP (divN p q).2)
theorem ib:∀ l:List Rat,Trm (aR l)
 | []=>fun h=>absurd rfl h
 |x::l=>by
  intro h
  have ih:=ib l
  simp only[aR] at h ⊢
  split
  ·rename_i hl
   rw[hl] at h
   split
   ·rename_i hx;simp only[hx,if_true,ne_eq,not_true] at h
   ·rename_i hx;simpa [aJ] using hx
  ·rename_i y m hl
   rw[hl] at ih
   have:=ih (by simp)
   simpa [aJ] using this
theorem sB(q:List Rat):∀ (n:Nat) (r s:List Rat),Trm r->Trm (eF q n r s).2
 |0,r,s,h=>h
 |n+1,r,s,h=>by
  rw[eF]
  split
  ·exact sB q n _ _ (ib _)
  ·exact h
theorem fV{p q:List Rat}(h:Trm p):Trm (divN p q).2:=sB _ _ _ _ h
theorem oD{q:List Rat}(hq:0<q.length)(h0:aJ q≠0):∀ (n:Nat) (r s:List Rat),r.length<n->(eF q n r s).2.length<q.length
 |0,r,s,h=>absurd h (by omega)
 |n+1,r,s,h=>by
  rw[eF]
  split
  ·rename_i hl
   have:=eV hq hl h0
   exact oD hq h0 n _ _ (by omega)
  ·rename_i hl;simp only;omega
theorem ev{p q:List Rat}(hq:0<q.length)(h0:aJ q≠0):(divN p q).2.length<q.length:=oD hq h0 _ _ _ (Nat.lt_succ_self _)
theorem b6(l:List Rat):(cP l).length=l.length:=by simp[cP]
theorem BC{l:List Rat}(h:0<l.length):aJ (cP l)=aJ l/aJ l:=by
 rw[b8 (by rw[b6];exact h),b6]
 conv=>rhs;arg 1;rw[b8 h]
 unfold cP cf
 simp only[List.getD_eq_getElem?_getD,List.getElem?_map]
 rw[List.getElem?_eq_getElem (by omega)]
 rfl
theorem gS{l:List Rat}(h:Trm l):Trm (cP l):=by
 intro hne
 have hl:0<l.length:=by rw[<- b6];exact List.length_pos_iff.2 hne
 have h1:=h (List.length_pos_iff.1 hl)
 rw[BC hl]
 grind
structure iF (p q:List ND):Prop where
 hp:∀ x∈p,NOK x
 hq:∀ x∈q,NOK x
 l1:p.length<=900
 l2:q.length<=900
 tp:Trm (an p)
 tq:Trm (an q)
 safe:sA (q.length+1) (an p) (an q)
structure sC (p q:List ND) (n:Nat) (a b:List Rat):Prop where
 eq:dW n a b=cx (an p) (an q)
 fuel:b.length<n
 safe:sA n a b
 ta:Trm a
 tb:Trm b
 la:a.length<=900
 lb:b.length<=900
theorem wb{p:List ND}(h:∀ x∈p,NOK x):aG (an p)=p:=by
 simp only[an,aG,List.map_map]
 conv=>rhs;rw[<- List.map_id p]
 exact List.map_congr_left fun x hx=>h x hx
theorem FQ{p q:List ND}(h:iF p q):sC p q (q.length+1) (an p) (an q):=by
 refine⟨?_,by rw[aK];omega,h.safe,h.tp,h.tq,by rw[aK];exact h.l1,by rw[aK];exact h.l2⟩
 unfold cx
 rw[aK]
theorem gI(l:List Rat):∀ x∈aG l,NOK x:=by
 intro x hx
 obtain⟨y,_,rfl⟩:=List.mem_map.1 hx
 exact bV y
theorem IZ{p q:List ND}{n:Nat}{a b:List Rat}(h:sC p q n a b)(hb:0<b.length):
  fa (aG a) (aG b)/\nz (aG (divN a b).2)/\(∃ m,sC p q m b (cP (divN a b).2))/\(cP (divN a b).2).length<b.length:=by
 have hbn:=List.length_pos_iff.1 hb
 have h1:=h.safe;have h2:=h.eq;have h3:=h.fuel
 have hl:=h.tb hbn
 have hs:=ev (p:=a) hb hl
 match n,h1,h2,h3 with
 |n+1,h1,h2,h3=>
  rw[sA,if_neg hbn] at h1
  rw[dW,if_neg hbn] at h2
  obtain⟨s1,s2,s3,s4⟩:=h1
  have hlb:=h.lb
  refine⟨⟨gI _,eU s2,by rw[aB];exact h.la,by rw[aB];exact h.lb,by rw[aB];exact hb,by rw[aI];exact hl,by rw[aI,aI,aB];exact s1⟩,
   ⟨eU s3,by rw[aB];omega,fun hne=> ?_⟩,⟨n,h2,by rw[b6];omega,s4,h.tb,gS (fV h.ta),h.lb,by rw[b6];omega⟩,by rw[b6];exact hs⟩
  rw[aI]
  exact fV h.ta (fun e=>hne (by rw[e];rfl))
theorem Lq{p q:List ND}{n:Nat}{a b:List Rat}(h:sC p q n a b)(hb: ¬0<b.length):nz (aG a)/\cP a=cx (an p) (an q):=by
 have hbn:b= []:=List.eq_nil_of_length_eq_zero (by omega)
 have h1:=h.safe;have h2:=h.eq;have h3:=h.fuel
 match n,h1,h2,h3 with
 |n+1,h1,h2,h3=>
  rw[sA,if_pos hbn] at h1
  rw[dW,if_pos hbn] at h2
  have hla:=h.la
  refine⟨⟨eU h1,by rw[aB];omega,fun hne=> ?_⟩,h2⟩
  rw[aI]
  exact h.ta (fun e=>hne (by rw[e];rfl))
def cq(l:List Rat):List Rat:=if l= [] then [] else cP (divN l (cx l (cr l))).1
def lF(p:List ND):Prop:=p≠ []->Sz QH p/\p.length<=900/\iF p (aG (cr (an p)))/\fa p (aG (cx (an p) (cr (an p))))/\nz (aG (divN (an p) (cx (an p) (cr (an p)))).1)
end Go.Cm
end
section
namespace Go.Cm
open Go Go.RowKit
theorem tw{P:Program}(w:World)(dT sT ty elem:TypeId)(g o dLen dCap:Nat)(a:Addr)(sLen sCap:Nat)(cur:Array Value)(t:TypeId)(cs:List Value)(size n:Nat)
  (hu:P.underlying dT=some (.slice elem)) (hs:(P.info? elem).map (·.size)=some size)
  (hg:w.heap[g]? =some (.cells cur t (0,0))) (hn:n=Nat.min sLen dLen) (hl0:cs.length=n*size)
  (hsrc:∀ j v,cs[j]? =some v->w.cell? (a.add j)=some v) (hfit:o+cs.length<=cur.size) (h1:∀ v∈cs,v.oneCell'=true):
  (Builtin.copy_ #[dT,sT] ty #[.slice (some ⟨g,o,none⟩) dLen dCap, .slice (some a) sLen sCap]).run P w=
   .ok (goInt n) (w.setRow g (cur.toList.take o++cs++cur.toList.drop (o+cs.length)).toArray):=by
 have hl:=run_loadCells_list (P:=P) w a cs hsrc
 rw[hl0] at hl
 have hst:=run_storeCells_at P g o t cs 0 cur w hg (by simpa using hfit) h1
 cases hq:P.info? elem with
 |none=>simp[hq] at hs
 |some i=>
  have hi:i.size=size:=by simpa [hq] using hs
  simp[Builtin.copy_,run_underlying hu,Builtin.lenOf,Builtin.firstCells,sizeOf,typeInfo,hq,hi,<- hn,hl,hst]
theorem sD{P:Program}(w:World)(dT sT ty elem:TypeId)(d a:Option Addr)(dLen dCap sLen sCap:Nat)(size:Nat)(hu:P.underlying dT=some (.slice elem))(hs:(P.info? elem).map (·.size)=some size)(hn:Nat.min sLen dLen=0):
  (Builtin.copy_ #[dT,sT] ty #[.slice d dLen dCap, .slice a sLen sCap]).run P w= .ok (goInt 0) w:=by
 cases hq:P.info? elem with
 |none=>simp[hq] at hs
 |some i=>
  have hl:∀ (x:Addr),(loadCells x 0).run P w= .ok #[] w:=fun x=>by simpa using run_loadCells_list (P:=P) w x [] (by simp)
  cases d<;>cases a<;>simp[Builtin.copy_,run_underlying hu,Builtin.lenOf,Builtin.firstCells,sizeOf,typeInfo,hq,hn,storeCells,hl]
theorem uq{P:Program}{w:World}(dT sT ty elem:TypeId)(size:Nat)(hu:P.underlying dT=some (.slice elem))(hsz:(P.info? elem).map (·.size)=some size)
  (dp sp:Option Addr) (dLen dCap sLen sCap n:Nat) (g off:Nat) (cur:List Value) (t:TypeId) (hg:w.heap[g]? =some (.cells cur.toArray t (0,0))) (cs:List Value) (hn:n=Nat.min sLen dLen) (hl:cs.length=n*size)
  (hpos:0<n->dp=some ⟨g,off,none⟩/\∃ ad,sp=some ad/\∀ j v,cs[j]? =some v->w.cell? (ad.add j)=some v)
  (hfit:off+cs.length<=cur.length) (h1:∀ v∈cs,v.oneCell'=true) (B:Nat) (w0:World) (hb:Below B w0 w) (hBg:B<=g):
  ∃ w',(Builtin.copy_ #[dT,sT] ty #[.slice dp dLen dCap, .slice sp sLen sCap]).run P w= .ok (goInt n) w'/\w'.heap[g]? =some (.cells (splice cur off cs).toArray t (0,0))/\Below B w0 w':=by
 by_cases h0:n=0
 ·subst h0
  obtain rfl:cs= []:=List.eq_nil_of_length_eq_zero (by simpa using hl)
  exact⟨w,sD w dT sT ty elem dp sp dLen dCap sLen sCap size hu hsz hn.symm,by simpa [splice] using hg,hb⟩
 ·obtain⟨rfl,ad,rfl,hsrc⟩:=hpos (by omega)
  refine⟨_,tw w dT sT ty elem g off dLen dCap ad sLen sCap cur.toArray t cs size n hu hsz hg hn hl hsrc (by simpa using hfit) h1,?_,below_setRow hb hBg _⟩
  simpa [splice] using setRow_heap w g _ _ t _ hg
theorem wc{P:Program}{w:World}{ops:Array Oper}{rest:List Oper}{o:Oper}{a:Act}{Q:Exit->Act->World->Prop}(hgd:o.guard=none)(d s:Operand)(dT sT:TypeId)
  (ho:o.op= .call {callee:= .builtin .copy,args:= #[d,s],argTypes:= #[dT,sT]}) (elem:TypeId) (size:Nat) (hu:P.underlying dT=some (.slice elem)) (hsz:(P.info? elem).map (·.size)=some size)
  (dp sp:Option Addr) (dLen dCap sLen sCap n:Nat) (hd:a.eval d= .slice dp dLen dCap) (hs:a.eval s= .slice sp sLen sCap)
  (g off:Nat) (cur:List Value) (t:TypeId) (hg:w.heap[g]? =some (.cells cur.toArray t (0,0))) (cs:List Value) (hn:n=Nat.min sLen dLen) (hl:cs.length=n*size)
  (hpos:0<n->dp=some ⟨g,off,none⟩/\∃ ad,sp=some ad/\∀ j v,cs[j]? =some v->w.cell? (ad.add j)=some v)
  (hfit:off+cs.length<=cur.length) (h1:∀ v∈cs,v.oneCell'=true) (B:Nat) (w0:World) (hb:Below B w0 w) (hBg:B<=g)
  (h:∀ w',Hid (w'.heap[g]? =some (.cells (splice cur off cs).toArray t (0,0)))->Below B w0 w'->wpList P ops Q rest (a.put o.dst (goInt n)) w'):
  wpList P ops Q (o::rest) a w:=by
 refine wpList_plain hgd fun K hK=> ?_
 obtain⟨w',hrun,hg',hb'⟩:=uq dT sT o.type elem size hu hsz dp sp dLen dCap sLen sCap n g off cur t hg cs hn hl hpos hfit h1 B w0 hb hBg
 unfold Oper.wp
 simp[execOp,ho,resolve,invoke,builtin,hd,hs,hrun,Result.andThen]
 exact hK _ _ (h w' hg' hb')
theorem BD{P:Program}{ops:Array Oper}{o:Oper}{a:Act}{w:World}{K:Act->World->Prop}{Q:Exit->Act->World->Prop}{E:Prop}(hgd:o.guard=none)(d s:Operand)(dT sT:TypeId)
  (ho:o.op= .call {callee:= .builtin .copy,args:= #[d,s],argTypes:= #[dT,sT]}) (elem:TypeId) (size:Nat) (hu:P.underlying dT=some (.slice elem)) (hsz:(P.info? elem).map (·.size)=some size)
  (dp sp:Option Addr) (dLen dCap sLen sCap n:Nat) (hd:a.eval d= .slice dp dLen dCap) (hs:a.eval s= .slice sp sLen sCap)
  (g off:Nat) (cur:List Value) (t:TypeId) (hg:w.heap[g]? =some (.cells cur.toArray t (0,0))) (cs:List Value) (hn:n=Nat.min sLen dLen) (hl:cs.length=n*size)
  (hpos:0<n->dp=some ⟨g,off,none⟩/\∃ ad,sp=some ad/\∀ j v,cs[j]? =some v->w.cell? (ad.add j)=some v)
  (hfit:off+cs.length<=cur.length) (h1:∀ v∈cs,v.oneCell'=true) (B:Nat) (w0:World) (hb:RowKit.Below B w0 w) (hBg:B<=g)
  (h:∀ w',RowKit.Hid (w'.heap[g]? =some (.cells (splice cur off cs).toArray t (0,0)))->RowKit.Below B w0 w'->K (a.put o.dst (goInt n)) w'):
  if Region.wanted o (yielded ops a.tmps)=true then Oper.wp P o a w K Q else E:=by
 have hw:Region.wanted o (yielded ops a.tmps)=true:=by simp[Region.wanted,hgd]
 rw[if_pos hw]
 obtain⟨w',hrun,hg',hb'⟩:=uq dT sT o.type elem size hu hsz dp sp dLen dCap sLen sCap n g off cur t hg cs hn hl hpos hfit h1 B w0 hb hBg
 unfold Oper.wp
 simp[execOp,ho,resolve,invoke,builtin,hd,hs,hrun,Result.andThen]
 exact h w' hg' hb'
def cF(n:Nat)(l:List Value):List Value:=(List.replicate n l).flatten
theorem ew(n:Nat)(l:List Value):(cF n l).length=n*l.length:=by simp[cF]
theorem sE(m n:Nat)(l:List Value):cF (m+n) l=cF m l++cF n l:=by simp only[cF,<- List.flatten_append,List.replicate_append_replicate]
theorem yy{n:Nat}{l:List Value}{v:Value}(h:v∈cF n l):v∈l:=by
 obtain⟨x,hx,hv⟩:=List.mem_flatten.1 h
 rw[(List.mem_replicate.1 hx).2] at hv;exact hv
theorem oE{A B:List Value}(hAB:A.length=B.length){n k m:Nat}(hm:m<=n-k):splice (cF k A++cF (n-k) B) (k*A.length) (cF m A)=cF (k+m) A++cF (n-(k+m)) B:=by
 have hl:(cF k A).length=k*A.length:=ew _ _
 have e1:(cF k A++cF (n-k) B).take (k*A.length)=cF k A:=by rw[<- hl,List.take_left]
 have e2:(cF k A++cF (n-k) B).drop (k*A.length+(cF m A).length)=cF (n-(k+m)) B:=by
  rw[<- List.drop_drop,<- hl,List.drop_left,ew,show n-k=m+(n-(k+m)) by omega,sE,hAB,<- ew m B,List.drop_left]
 simp only[splice,e1,e2]
 rw[<- List.append_assoc,<- sE]
end Go.Cm
end
section
namespace Go.Proofs
open Go.Shelf
def Tryz.laysB172_ren:Go.Shelf.Ren:=⟨fun|172=>182|244=>196|245=>188|247=>209|279=>204|280=>205|281=>206|282=>207|287=>187|316=>216|171=>166|205=>217|321=>202|322=>203|243=>184|246=>197|283=>210|284=>211|285=>212|286=>213|129=>219|317=>218|318=>220|319=>221|320=>222|337=>223|338=>224|n=>n,fun|9=>9|3=>3|75=>131|76=>132|4=>4|5=>5|167=>216|37=>47|0=>0|85=>222|2=>2|168=>218|53=>164|175=>191|46=>122|210=>231|127=>167|145=>239|143=>237|21=>21|171=>224|173=>227|212=>234|51=>161|20=>20|213=>235|232=>241|233=>242|80=>135|n=>n,fun|15=>1|16=>2|17=>3|18=>4|19=>5|n=>n⟩
theorem Tryz.laysB172:Go.Proofs.Lays.n172 Tryz.prog Tryz.laysB172_ren:={
 mixed:=by kernel_rfl
 f129:=Tryz.func219.trans (congrArg some (by kernel_rfl))
 f171:=Tryz.func166.trans (congrArg some (by kernel_rfl))
 f172:=Tryz.func182.trans (congrArg some (by kernel_rfl))
 f205:=Tryz.func217.trans (congrArg some (by kernel_rfl))
 f243:=Tryz.func184.trans (congrArg some (by kernel_rfl))
 f244:=Tryz.func196.trans (congrArg some (by kernel_rfl))
 f245:=Tryz.func188.trans (congrArg some (by kernel_rfl))
 f246:=Tryz.func197.trans (congrArg some (by kernel_rfl))
 f247:=Tryz.func209.trans (congrArg some (by kernel_rfl))
 f279:=Tryz.func204.trans (congrArg some (by kernel_rfl))
 f280:=Tryz.func205.trans (congrArg some (by kernel_rfl))
 f281:=Tryz.func206.trans (congrArg some (by kernel_rfl))
 f282:=Tryz.func207.trans (congrArg some (by kernel_rfl))
 f283:=Tryz.func210.trans (congrArg some (by kernel_rfl))
 f284:=Tryz.func211.trans (congrArg some (by kernel_rfl))
 f285:=Tryz.func212.trans (congrArg some (by kernel_rfl))
 f286:=Tryz.func213.trans (congrArg some (by kernel_rfl))
 f287:=Tryz.func187.trans (congrArg some (by kernel_rfl))
 f316:=Tryz.func216.trans (congrArg some (by kernel_rfl))
 f317:=Tryz.func218.trans (congrArg some (by kernel_rfl))
 f318:=Tryz.func220.trans (congrArg some (by kernel_rfl))
 f319:=Tryz.func221.trans (congrArg some (by kernel_rfl))
 f320:=Tryz.func222.trans (congrArg some (by kernel_rfl))
 f321:=Tryz.func202.trans (congrArg some (by kernel_rfl))
 f322:=Tryz.func203.trans (congrArg some (by kernel_rfl))
 f337:=Tryz.func223.trans (congrArg some (by kernel_rfl))
 f338:=Tryz.func224.trans (congrArg some (by kernel_rfl))
 t0:=Tryz.underlying0
 a0:=Tryz.isAgg0
 z0:=Tryz.sizeOf0
 v0:=Tryz.zeroValue0
 t2:=Tryz.underlying2
 a2:=Tryz.isAgg2
 z2:=Tryz.sizeOf2
 v2:=Tryz.zeroValue2
 t3:=Tryz.underlying3
 a3:=Tryz.isAgg3
 z3:=Tryz.sizeOf3
 v3:=Tryz.zeroValue3
 t4:=Tryz.underlying4
 a4:=Tryz.isAgg4
 z4:=Tryz.sizeOf4
 v4:=Tryz.zeroValue4
 t5:=Tryz.underlying5
 a5:=Tryz.isAgg5
 z5:=Tryz.sizeOf5
 v5:=Tryz.zeroValue5
 t9:=Tryz.underlying9
 a9:=Tryz.isAgg9
 z9:=Tryz.sizeOf9
 v9:=Tryz.zeroValue9
 t20:=Tryz.underlying20
 a20:=Tryz.isAgg20
 z20:=Tryz.sizeOf20
 v20:=Tryz.zeroValue20
 t21:=Tryz.underlying21
 a21:=Tryz.isAgg21
 z21:=Tryz.sizeOf21
 v21:=Tryz.zeroValue21
 t37:=Tryz.underlying47
 a37:=Tryz.isAgg47
 z37:=Tryz.sizeOf47
 v37:=Tryz.zeroValue47
 t46:=Tryz.underlying122
 a46:=Tryz.isAgg122
 z46:=Tryz.sizeOf122
 v46:=Tryz.zeroValue122
 t51:=Tryz.underlying161
 a51:=Tryz.isAgg161
 z51:=Tryz.sizeOf161
 v51:=Tryz.zeroValue161
 t53:=Tryz.underlying164
 a53:=Tryz.isAgg164
 z53:=Tryz.sizeOf164
 v53:=Tryz.zeroValue164
 t75:=Tryz.underlying131
 a75:=Tryz.isAgg131
 z75:=Tryz.sizeOf131
 v75:=Tryz.zeroValue131
 t76:=Tryz.underlying132
 a76:=Tryz.isAgg132
 z76:=Tryz.sizeOf132
 v76:=Tryz.zeroValue132
 t85:=Tryz.underlying222
 a85:=Tryz.isAgg222
 z85:=Tryz.sizeOf222
 v85:=Tryz.zeroValue222
 t127:=Tryz.underlying167
 a127:=Tryz.isAgg167
 z127:=Tryz.sizeOf167
 v127:=Tryz.zeroValue167
 t143:=Tryz.underlying237
 a143:=Tryz.isAgg237
 z143:=Tryz.sizeOf237
 v143:=Tryz.zeroValue237
 t145:=Tryz.underlying239
 a145:=Tryz.isAgg239
 z145:=Tryz.sizeOf239
 v145:=Tryz.zeroValue239
 t167:=Tryz.underlying216
 a167:=Tryz.isAgg216
 z167:=Tryz.sizeOf216
 v167:=Tryz.zeroValue216
 t168:=Tryz.underlying218
 a168:=Tryz.isAgg218
 z168:=Tryz.sizeOf218
 v168:=Tryz.zeroValue218
 t171:=Tryz.underlying224
 a171:=Tryz.isAgg224
 z171:=Tryz.sizeOf224
 v171:=Tryz.zeroValue224
 t173:=Tryz.underlying227
 a173:=Tryz.isAgg227
 z173:=Tryz.sizeOf227
 v173:=Tryz.zeroValue227
 t175:=Tryz.underlying191
 a175:=Tryz.isAgg191
 z175:=Tryz.sizeOf191
 v175:=Tryz.zeroValue191
 t210:=Tryz.underlying231
 a210:=Tryz.isAgg231
 z210:=Tryz.sizeOf231
 v210:=Tryz.zeroValue231
 t212:=Tryz.underlying234
 a212:=Tryz.isAgg234
 z212:=Tryz.sizeOf234
 v212:=Tryz.zeroValue234
 t213:=Tryz.underlying235
 a213:=Tryz.isAgg235
 z213:=Tryz.sizeOf235
 t232:=Tryz.underlying241
 a232:=Tryz.isAgg241
 z232:=Tryz.sizeOf241
 v232:=Tryz.zeroValue241
 t233:=Tryz.underlying242
 a233:=Tryz.isAgg242
 z233:=Tryz.sizeOf242
 v233:=Tryz.zeroValue242
 g15:=by kernel_rfl
 g16:=by kernel_rfl
 g17:=by kernel_rfl
 g18:=by kernel_rfl
 g19:=by kernel_rfl}
open Go.RowKit in
theorem Tryz.strconv_Atoi(s:ByteArray)(n:Int)(hl:s.size<=18)(h:Lib.atoi s.data.toList=some n)(w:World):
  Calls Tryz.prog 182 #[.string s] w fun e w'=>e= .returned (.tuple #[.int .i64 n, .nilIface])/\∃ t,w'=Lib.bytesWorld w 5 t:=Any.strconv_Atoi Tryz.laysB172 s n hl h w
def Tryz.laysB145_ren:Go.Shelf.Ren:=⟨fun|145=>131|220=>171|219=>185|217=>198|225=>199|224=>200|267=>201|266=>214|314=>215|n=>n,fun|9=>9|4=>4|59=>154|3=>3|5=>5|46=>122|146=>162|51=>161|n=>n,fun|1=>0|n=>n⟩
theorem Tryz.laysB145:Go.Proofs.Lays.n145 Tryz.prog Tryz.laysB145_ren:={
 mixed:=by kernel_rfl
 f145:=Tryz.func131.trans (congrArg some (by kernel_rfl))
 f217:=Tryz.func198.trans (congrArg some (by kernel_rfl))
 f219:=Tryz.func185.trans (congrArg some (by kernel_rfl))
 f220:=Tryz.func171.trans (congrArg some (by kernel_rfl))
 f224:=Tryz.func200.trans (congrArg some (by kernel_rfl))
 f225:=Tryz.func199.trans (congrArg some (by kernel_rfl))
 f266:=Tryz.func214.trans (congrArg some (by kernel_rfl))
 f267:=Tryz.func201.trans (congrArg some (by kernel_rfl))
 f314:=Tryz.func215.trans (congrArg some (by kernel_rfl))
 t3:=Tryz.underlying3
 a3:=Tryz.isAgg3
 z3:=Tryz.sizeOf3
 v3:=Tryz.zeroValue3
 t4:=Tryz.underlying4
 a4:=Tryz.isAgg4
 z4:=Tryz.sizeOf4
 v4:=Tryz.zeroValue4
 t5:=Tryz.underlying5
 a5:=Tryz.isAgg5
 z5:=Tryz.sizeOf5
 v5:=Tryz.zeroValue5
 t9:=Tryz.underlying9
 a9:=Tryz.isAgg9
 z9:=Tryz.sizeOf9
 v9:=Tryz.zeroValue9
 t46:=Tryz.underlying122
 a46:=Tryz.isAgg122
 z46:=Tryz.sizeOf122
 v46:=Tryz.zeroValue122
 t51:=Tryz.underlying161
 a51:=Tryz.isAgg161
 z51:=Tryz.sizeOf161
 v51:=Tryz.zeroValue161
 t59:=Tryz.underlying154
 a59:=Tryz.isAgg154
 z59:=Tryz.sizeOf154
 v59:=Tryz.zeroValue154
 t146:=Tryz.underlying162
 a146:=Tryz.isAgg162
 z146:=Tryz.sizeOf162
 v146:=Tryz.zeroValue162
 g1:=by kernel_rfl}
open Go.RowKit Go.Lib in
theorem Tryz.strings_Cut(s sep:ByteArray)(m:Int)(w:World)(hs:s.size<4294967281)(hm:w.cell? ⟨0,0,none⟩=some (.int .i64 m)):
  Calls Tryz.prog 131 #[.string s, .string sep] w fun e w'=>e= .returned (.tuple #[.string ⟨(Lib.cut s.data.toList sep.data.toList).1.toArray⟩, .string ⟨(Lib.cut s.data.toList sep.data.toList).2.1.toArray⟩, .bool (Lib.cut s.data.toList sep.data.toList).2.2])/\∃ n,w'=w.drewN n:=Any.strings_Cut Tryz.laysB145 s sep m w hs hm
open Go.RowKit Go.Lib in
open Go.RowKit Go.Lib in
def Tryz.laysB212_ren:Go.Shelf.Ren:=⟨fun|212=>95|263=>137|264=>138|n=>n,fun|46=>122|51=>161|146=>162|53=>164|148=>165|n=>n,fun|n=>n⟩
theorem Tryz.laysB212:Go.Proofs.Lays.n212 Tryz.prog Tryz.laysB212_ren:={
 mixed:=by kernel_rfl
 f212:=Tryz.func95.trans (congrArg some (by kernel_rfl))
 f263:=Tryz.func137.trans (congrArg some (by kernel_rfl))
 f264:=Tryz.func138.trans (congrArg some (by kernel_rfl))
 t46:=Tryz.underlying122
 a46:=Tryz.isAgg122
 z46:=Tryz.sizeOf122
 v46:=Tryz.zeroValue122
 t51:=Tryz.underlying161
 a51:=Tryz.isAgg161
 z51:=Tryz.sizeOf161
 v51:=Tryz.zeroValue161
 t53:=Tryz.underlying164
 a53:=Tryz.isAgg164
 z53:=Tryz.sizeOf164
 v53:=Tryz.zeroValue164
 t146:=Tryz.underlying162
 a146:=Tryz.isAgg162
 z146:=Tryz.sizeOf162
 v146:=Tryz.zeroValue162
 t148:=Tryz.underlying165
 a148:=Tryz.isAgg165
 z148:=Tryz.sizeOf165
 v148:=Tryz.zeroValue165}
open Go.RowKit Go.Lib in
theorem Tryz.bits_Mul(x y:Nat)(hx:x<18446744073709551616)(hy:y<18446744073709551616)(w:World):
  Calls Tryz.prog 95 #[.int .u64 x, .int .u64 y] w fun e w'=>e= .returned (.tuple #[.int .u64 ((x*y/18446744073709551616:Nat):Int), .int .u64 ((x*y%18446744073709551616:Nat):Int)])/\w'=w:=Any.bits_Mul Tryz.laysB212 x y hx hy w
end Go.Proofs
end
section
namespace Go.Proofs
open Go.RowKit Go.Cm Go.Shelf
attribute [local go_sem] Oper.semAt_some
def zc4:List Value:= [.bool false, .slice none 0 0, .bool false, .slice none 0 0]
theorem NK(n:Nat):madeCells (Value.agg zc4.toArray).cells (n*4)=(cF n zc4).toArray:=
 gD (t:=NT) (by decide) (by decide) n
theorem u46{n:Nat}(h:n<=1000):IntKind.u64.wrap (n:Int)=(n:Int):=by
 have h1:(n:Int)<=1000:=by omega
 unfold IntKind.wrap
 have e:IntKind.u64.signed=false:=rfl
 rw[e]
 simp only[Bool.false_and,Bool.false_eq_true,if_false]
 exact Int.emod_eq_of_lt (by omega) (Int.lt_of_le_of_lt h1 (by decide))
set_option maxRecDepth 100000 in
set_option maxHeartbeats 1000000 in
theorem I0(xs:List Value)(h4:xs.length=4)(h1:∀ u∈xs,u.oneCell'=true)(n:Nat)(hn:n<=1000)(b o c:Nat)(w:World)(hc:∀ j v,xs[j]? =some v->w.cell? ⟨b,o+j,none⟩=some v):
  Calls Tryz.prog 112 #[.slice (some ⟨b,o,none⟩) 1 c, .int .i64 n] w fun e w'=>e= .returned (.slice (some ⟨w.heap.size,0,none⟩) n n)/\w'.heap[w.heap.size]? =some (.cells (cF n xs).toArray 91 (0,0))/\Below w.heap.size w w':=by
 have t36:=Tryz.underlying79
 have a36:=Tryz.isAgg79
 have z36:=Tryz.sizeOf79
 have v36:=Tryz.zeroValue79
 have t3:=Tryz.underlying3
 have a3:=Tryz.isAgg3
 have z3:=Tryz.sizeOf3
 have v3:=Tryz.zeroValue3
 have t84:=Tryz.underlying122
 have a84:=Tryz.isAgg122
 have z84:=Tryz.sizeOf122
 have v84:=Tryz.zeroValue122
 have hmul:=fun w=>Tryz.bits_Mul 1 n (by omega) (by omega) w
 have e1:1*n/18446744073709551616=0:=by omega
 have e2:1*n%18446744073709551616=n:=by omega
 rw[e1,e2] at hmul
 have e64:∀ args w,(callFunc 95 args).run Tryz.prog w= .ok (.enter 95 args) w:=enters_of Tryz.func95 (by kernel_rfl) rfl
 have w1:IntKind.u64.wrap (n:Int)=(n:Int):=u46 hn
 have w2:IntKind.i64.wrap (n:Int)=(n:Int):=wi (by omega) (by omega)
 have c1: ¬ (n:Int)<0:=by omega
 have c2: ¬ (9223372036854775807:Int)<(n:Int):=by omega
 obtain⟨i0,hi,hz0,hz1,hz2⟩:=info_parts (show (Tryz.prog.info? 91).map (fun i=>(i.zero,i.size,i.bytes))=some (some (.agg zc4.toArray),4,64) by kernel_rfl)
 have hs3:(Tryz.prog.info? 91).map (·.size)=some 4:=by rw[hi];simp[hz1]
 have hmk:=run_make (P:=Tryz.prog) w 79 91 i0 (.agg zc4.toArray) t36 hi hz0 .i64 .i64 (n:Int) (n:Int) (by omega) (Int.le_refl _) (by rw[hz2];omega) (by omega)
 have hmc:madeCells (Value.agg zc4.toArray).cells ((n:Int).toNat*i0.size)=(cF n zc4).toArray:=by
  rw[hz1,Int.toNat_natCast];exact NK n
 rw[hmc,Int.toNat_natCast] at hmk
 have hg:(w.alloc (.cells (cF n zc4).toArray 91)).heap[w.heap.size]? =some (.cells (cF n zc4).toArray 91 (0,0)):=by rw[World.alloc_heap_new]
 have hb1:Below w.heap.size w (w.alloc (.cells (cF n zc4).toArray 91)):=(Below.refl _ _).alloc (Nat.le_refl _) _
 obtain⟨m0,hm0⟩:∃ m0,m0=min 1 n:=⟨_,rfl⟩
 have hm01:m0<=1/\m0<=n/\(m0=0->n=0):=by omega
 have hrl:(cF n zc4).length=n*4:=ew n zc4
 have hml:(cF m0 xs).length=m0*4:=by rw[ew,h4]
 have hsrc:∀ j u,(cF m0 xs)[j]? =some u->(w.alloc (.cells (cF n zc4).toArray 91)).cell? (Addr.add ⟨b,o,none⟩ j)=some u:=by
  intro j u hj
  have hj1:=(List.getElem?_eq_some_iff.1 hj).1
  have hm1:m0=1:=by omega
  rw[hm1,show cF 1 xs=xs by simp[cF]] at hj
  have hcj:=hc j u hj
  obtain⟨o1,ho1,_⟩:=cells_of_cell hcj
  rw[Addr.add_mid]
  exact(World.cell?_alloc_lt (a:=⟨b,o+j,none⟩) _ _ (Array.getElem?_eq_some_iff.1 ho1).1).trans hcj
 go_enter Tryz.func112,Tryz.ntmps112
 go_wp2_with (first|(go_at_fn 95;refine(hmul _).mono ?_;rintro e w' ⟨rfl,hw'⟩;rw[hw'])|refine wc rfl (.tmp 31) (.tmp 32) 79 79 rfl 91 4 t36 hs3 (some ⟨w.heap.size,0,none⟩) (some ⟨b,o,none⟩) n n 1 c m0 rfl rfl w.heap.size 0 (cF n zc4) 91 hg (cF m0 xs) (by exact hm0) hml (fun _=>⟨rfl,_,rfl,hsrc⟩) (by rw[hml,hrl];omega) (fun u hu=>h1 u (yy hu)) w.heap.size w hb1 (Nat.le_refl _) ?_;intro w4 hg4 hb4)
 go_loopw [8] (fun s wr=>∃ k:Nat,s= .int .i64 k/\(k=0->n=0)/\k<=n/\wr.heap[w.heap.size]? =some (.cells (cF k xs++cF (n-k) zc4).toArray 91 (0,0))/\Below w.heap.size w wr)
  (fun s _=>n-(intOf s).toNat)
 case atStart=>exact⟨m0,by first|rfl|rw[hm0],hm01.2.2,hm01.2.1,by
  have e:splice (cF 0 xs++cF (n-0) zc4) (0*xs.length) (cF m0 xs)=_:=oE (by rw[h4];rfl) (by omega)
  simp only[show cF 0 xs= [] by simp[cF],List.nil_append,Nat.sub_zero,Nat.zero_mul,Nat.zero_add] at e
  rw[<- e];exact hg4.out,hb4⟩
 case round=>
  obtain⟨k,rfl,hk1,hkn,hgk,hbk⟩:=hrel
  by_cases hlt:k<n
  ·have d1:(k:Int)<(n:Int):=by omega
   obtain⟨m,hm⟩:∃ m,m=Nat.min k (n-k):=⟨_,rfl⟩
   have hm2:m<=k/\m<=n-k/\(m=k∨m=n-k):=by rw[hm];show min k (n-k)<=k/\min k (n-k)<=n-k/\(min k (n-k)=k∨min k (n-k)=n-k);omega
   have hkl:(cF k xs).length=k*4:=by rw[ew,h4]
   have hzl:(cF (n-k) zc4).length=(n-k)*4:=ew _ _
   have hmm:(cF m xs).length=m*4:=by rw[ew,h4]
   have hcp:∀ j u,(cF m xs)[j]? =some u->wr.cell? (Addr.add ⟨w.heap.size,0,none⟩ j)=some u:=by
    intro j u hj
    have hj1:=(List.getElem?_eq_some_iff.1 hj).1
    have hpre:(cF k xs)[j]? =some u:=by
     rw[show k=m+(k-m) by omega,sE,List.getElem?_append_left hj1];exact hj
    rw[Addr.add_mid,Nat.zero_add]
    have hjk:j<(cF k xs).length:=by omega
    simp only[World.cell?,hgk]
    simp[List.getElem?_append_left hjk,hpre]
   have hfit:k*4+(cF m xs).length<=(cF k xs++cF (n-k) zc4).length:=by rw[List.length_append,hkl,hzl,hmm];omega
   have hnk: ¬n=k:=by omega
   go_wp2
   go_region_law (refine BD rfl (.tmp 41) (.tmp 44) 79 79 rfl 91 4 t36 hs3 (some ⟨w.heap.size,k*4,none⟩) (some ⟨w.heap.size,0,none⟩) (n-k) (n-k) k n m (by simp[Act.eval,Act.put]) (by simp[Act.eval,Act.put]) w.heap.size (k*4) _ 91 hgk (cF m xs) hm hmm (fun _=>⟨rfl,_,rfl,hcp⟩) hfit (fun u hu=>h1 u (yy hu)) w.heap.size w (show Below w.heap.size w wr.drew from⟨hbk.os,hbk.tape,hbk.output,hbk.size,hbk.block⟩) (Nat.le_refl _) ?_;intro w5 hg5 hb5)
   have hw3:IntKind.i64.wrap ((k:Int)+((k.min (n-k):Nat):Int))=((k+m:Nat):Int):=by rw[<- hm,wi (by omega) (by omega)];omega
   rw[hw3]
   simp only[Act.put,List.setIfInBounds_toArray,List.set_cons_succ,List.set_cons_zero,List.getElem_toArray,List.getElem_cons_succ,List.getElem_cons_zero]
   go_roundw
   case rel=>
    refine⟨_,_,_,_,_,_,_,_,_,_,_,_,_,_,⟨k+m,rfl,by omega,by omega,?_,hb5⟩,rfl⟩
    have e:splice (cF k xs++cF (n-k) zc4) (k*xs.length) (cF m xs)=_:=oE (by rw[h4];rfl) hm2.2.1
    rw[h4] at e
    rw[<- e];exact hg5.out
   case measure=>simp[intOf];omega
  ·have hkk:k=n:=by omega
   subst hkk
   have d1: ¬ (k:Int)<(k:Int):=by omega
   go_wp2
   go_ret
   exact⟨rfl,by simpa [cF] using hgk,hbk⟩
theorem we{w w':World}{O:Nat->Prop}{ρ0:Nat->Value}{fr:List Nat}{t:Ty}{T:TypeId}{xs:List t.D}{v:Value}{cells:List Value}(hO:∀ b,O b->b<w.heap.size)(hb:Below w.heap.size w w')(hs:∃ a n c,v= .slice a n c)(hr:∀ H:Nat->Prop,(∀ b,b<w.heap.size->H b->O b)->cG (fun c x=>t.rep H w' c x) cells xs)(hrow:Cm.rowAt (fun b=>w.heap.size<=b) w' T t.w v xs.length cells):
  ∃ (vs':List Value) (ρ1:Nat->Value),Ending.returned v= .returned (vF vs')/\([]:List aN).length=([]:List aN).length/\Bel (fun b=>w.heap.size<=b∨bq ρ0 [] b) w w'/\
   (∀ k,¬ (ioB<=k/\k<ioB+([]:List aN).length/\fr.contains (k-ioB)=true)->ρ1 k=ρ0 k)/\
   bz (jT (cI (hot O ρ1 (al ioB [])) [RV.own t T xs] vs') w' (fun b=>w.heap.size<=b∨bq ρ0 [] b)) [RV.own t T xs] vs'/\eS [RV.own t T xs] vs'/\
   (∀ p∈al ioB ([]:List aN),b4 (cI (hot O ρ1 (al ioB [])) [RV.own t T xs] vs') w' ρ1 (fun b=>w.heap.size<=b∨bq ρ0 [] b) p)/\
   mh ρ1 (al ioB [])/\∀ b,bq ρ1 [] b-> ¬cI (fun _=>False) [RV.own t T xs] vs' b:=by
 have hnew:∀ b,Blk v b->w.heap.size<=b:=by
  intro b hbl
  obtain⟨_,⟨rfl,_⟩|⟨g,cap,cur,rfl,hg,_⟩⟩:=hrow
  ·simp[Blk] at hbl
  ·simp[Blk] at hbl;exact hbl▸hg
 refine⟨[v],ρ0,rfl,rfl,⟨hb.os,hb.tape,hb.output,hb.size,fun k hk _=>hb.block k hk⟩,fun _ _=>rfl,⟨⟨hs,cells,hr _ ?_,?_⟩,trivial⟩,⟨fun _ b _ h=>h,trivial⟩,fun p hp=>by simp[al] at hp,List.Pairwise.nil,fun b hb=>by simp[bq,al] at hb⟩
 ·rintro b hlt (⟨_,h⟩|(h|⟨p,hp,_⟩))
  ·have:=hnew b h;omega
  ·exact h
  ·simp[al] at hp
 ·obtain⟨h1,h2⟩:=hrow
  refine⟨h1,h2.imp_right ?_⟩
  rintro⟨g,cap,cur,e1,e2,e3⟩
  exact⟨g,cap,cur,e1, .inl e2,e3⟩
def fb:Con:=fun l os=>match l,os with
 | [.z (.slice (.st (.pair (.st (.pair .bool (.slice (.int .u32)))) (.st (.pair .bool (.slice (.int .u32))))))) [x], .z (.int .i64) n], []=>some (0<=n/\n<=1000, [.own (.st (.pair (.st (.pair .bool (.slice (.int .u32)))) (.st (.pair .bool (.slice (.int .u32)))))) 91 (List.replicate n.toNat x)], [])
 |_,_=>none
theorem Lr{n:Int}(h:0<=n/\n<=1000):∃ m:Nat,n=m/\m<=1000:=⟨n.toNat,by omega,by omega⟩
theorem ur{B:aj}(hB:aC B):Valid B Tryz.prog 112 fb:=by
 intro args os C rs os' hc hC O w vals ρ0 hOn hIo hO hOI hargs hown hap
 unfold fb at hc
 split at hc
 case h_2=>cases hc
 rename_i x n
 cases hc
 obtain⟨u,z,rfl,hu,hz⟩:=xM hargs
 rw[bw hz]
 obtain⟨m,rfl,h2⟩:=Lr hC
 obtain⟨cells,hr,h⟩:=gO hu
 have hl:=bE (fun c x h=>NT.rep_length h) hr
 rcases h with⟨_,h0,_⟩|⟨ad,c,rfl,hc⟩
 ·simp at h0
 have h4:cells.length=4:=hl
 obtain⟨c0,d0,rfl,hr0,hd0⟩:=hr
 obtain rfl:d0= []:=hd0
 rw[List.append_nil] at h4 hc
 obtain⟨b,o,sp⟩:=ad
 have hcell:w.cell? ⟨b,o,sp⟩=some (c0[0]'(by omega)):=by
  have:=hc 0 (c0[0]'(by omega)) (by simp)
  simpa [Addr.add] using this
 obtain rfl:sp=none:=by
  cases sp with
  |none=>rfl
  |some _=>simp only[World.cell?] at hcell;split at hcell<;>simp at hcell
 refine(I0 c0 h4 (Ty.rep_oneCell NT hr0) m h2 b o c w (fun j v hj=>by have:=hc j v hj;rwa [Addr.add_mid] at this)).mono fun e w' ⟨he,hw,hb⟩=> ?_
 subst he
 rw[Int.toNat_natCast]
 refine we hO hb ⟨_,_,_,rfl⟩ (cells:=cF m c0) (fun H hH=>ea ?_ m) ?_
 ·exact Ty.rep_move (t:=NT) (fun b hlt hb=> .inl (hH b hlt hb)) (fun b _ hlt=>hb.block b (cR hlt)) hr0
 ·rw[List.length_replicate]
  refine⟨by rw[ew,h4];rfl, .inr ⟨_,m,_,rfl,Nat.le_refl _,hw,Nat.le_refl _,by unfold maxLen;omega,?_,?_⟩⟩
  ·simp[ew,h4];exact Nat.le_refl _
  ·rw[List.toList_toArray];exact List.take_of_length_le (by rw[ew,h4];exact Nat.le_refl _)
attribute [local go_sem] Oper.semAt_some
def zN:ND:=((false, []),(false, []))
def jg(xs:List ND)(k:Nat):List LV:= [.z (.int .i64) ((xs.length:Int)-1-k), .z NT (xs.getD (xs.length-1-k) zN)]
def bS(xs:List ND):List (List LV):=(List.range xs.length).map (jg xs)
set_option maxRecDepth 100000 in
set_option maxHeartbeats 2000000 in
theorem I1(F:Fence)(h7:F.fn 125)(hro:F.round=none)(l Bs oB b off len cap:Nat)(cs:Nat->List Value)(h4:∀ j,j<len->(cs j).length=4)(hbig:len<=maxLen)(J:Nat->World->Prop)(Jx:World->Prop)(Kp:World->World->Prop)
  (W:World) (hBs:W.cell? ⟨Bs,oB,none⟩=some (.slice (some ⟨b,off,none⟩) len cap)) (hc:∀ j,j<len->∀ i,i<4->W.cell? ⟨b,off+j*4+i,none⟩=(cs j)[i]?)
  (hKp:∀ A B,Kp A B->(∃ o:Obj,A.heap[Bs]? =some o/\o.isCells=true)->((0<len)->∃ o:Obj,A.heap[b]? =some o/\o.isCells=true)->B.heap[Bs]? =A.heap[Bs]? /\(0<len->B.heap[b]? =A.heap[b]?))
  (hY:∀ k W1,J k W1->k<len->YieldAt F 0 Tryz.prog l #[.int .i64 ((len:Int)-1-k), .agg (cs (len-1-k)).toArray] W1 fun e W'=>(e= .returned (.bool true)/\J (k+1) W'/\Kp W1 W')∨(e= .returned (.bool false)/\Jx W'))
  (h0:J 0 W):
  CallsIn F 1 Tryz.prog 125 #[.func (.yield l) #[] #[], .pointer (some ⟨Bs,oB,none⟩)] W fun e W'=>(∃ v,e= .returned v)/\(J len W'∨Jx W'):=by
 unfold maxLen at hbig
 refine callsIn_of_wp Tryz.func125 rfl h7 ?_ hro
 simp only[Tryz.ntmps125,List.size_toArray,List.length_cons,List.length_nil,Nat.reduceAdd,Nat.reduceSub,Array.replicate_succ,Array.replicate_zero,List.push_toArray,List.append_toArray,List.nil_append,List.cons_append]
 gi_wp2
 gi_loopw [3] (fun i wr=>∃ k:Nat,k<=len/\i= .int .i64 ((len:Int)-1-k)/\J k wr/\wr.heap[Bs]? =W.heap[Bs]? /\(0<len->wr.heap[b]? =W.heap[b]?))
  (fun i _=>(intOf i+1).toNat)
 case atStart=>exact⟨0,Nat.zero_le _,by simp,h0,rfl,fun _=>rfl⟩
 case round=>
  obtain⟨k,hk,rfl,hJs,hn1,hn2⟩:=hrel
  have hB1:wr.cell? ⟨Bs,oB,none⟩=some (.slice (some ⟨b,off,none⟩) len cap):=(World.cell?_of_block (a:=⟨Bs,oB,none⟩) hn1).trans hBs
  by_cases hlt:k<len
  ·have hge:0<=(len:Int)-1-k:=by omega
   have htn:((len:Int)-1-k).toNat=len-1-k:=by omega
   have hup:(len:Int)-1-k<len:=by omega
   have hci:∀ i,i<4->wr.cell? ⟨b,off+(len-1-k)*4+i,none⟩=(cs (len-1-k))[i]? :=fun i hi=>(World.cell?_of_block (a:=⟨b,off+(len-1-k)*4+i,none⟩) (hn2 (by omega))).trans (hc _ (by omega) i hi)
   have hlk:=h4 (len-1-k) (by omega)
   obtain⟨x0,x1,x2,x3,hx⟩:∃ x0 x1 x2 x3,cs (len-1-k)= [x0,x1,x2,x3]:=by
    match h:cs (len-1-k),hlk with
    | [x0,x1,x2,x3],_=>exact⟨_,_,_,_,rfl⟩
   have hc0:wr.cell? ⟨b,off+(len-1-k)*4+0,none⟩=some x0:=(hci 0 (by omega)).trans (by rw[hx];rfl)
   have hcx:=hc0
   have hload:=de (P:=Tryz.prog) (Go.Proofs.YtdojbabpnaifoaaGreatDoor.ty91) (w:=wr) (b:=b) (o:=off+(len-1-k)*4) (cells:=cs (len-1-k)) (by rw[hlk];rfl) (fun j hj=>hci j (by omega))
   have hcB:∃ o:Obj,wr.heap[Bs]? =some o/\o.isCells=true:=cells_of_cell hB1
   have hcb:∃ o:Obj,wr.heap[b]? =some o/\o.isCells=true:=cells_of_cell hcx
   have hYk:=hY k wr hJs hlt
   rw[hx] at hYk hload
   obtain⟨fn,tmps,assign,body,hy,hR⟩:=hYk
   gi_wp2
   refine hR.mono ?_
   rintro e W3 (⟨rfl,hJ3,hk3⟩|⟨rfl,hJx3⟩)
   ·obtain⟨e1,e2⟩:=hKp _ _ hk3 hcB (fun _=>hcb)
    gi_wp2
    go_roundw
    case rel=>exact⟨k+1,by omega,by congr 1;omega,hJ3,e1.trans hn1,fun h=>(e2 h).trans (hn2 h)⟩
    case measure=>simp[intOf];omega
   ·gi_wp2
    refine bodyPost_ret (results_none rfl _ _ _) rfl ?_
    exact⟨⟨_,rfl⟩, .inr hJx3⟩
  ·have hk2:k=len:=by omega
   have hng: ¬0<=(len:Int)-1-k:=by omega
   rw[hk2] at hJs
   clear hk2
   gi_wp2
   go_end0
   exact⟨⟨_,rfl⟩, .inl hJs⟩
set_option maxRecDepth 100000 in
set_option maxHeartbeats 2000000 in
theorem uu(F:Fence)(h7:F.fn 125)(hro:F.round=none)(l Bs oB:Nat)(J:World->Prop)(W:World)(a:Option Addr)(cap:Nat)(hBs:W.cell? ⟨Bs,oB,none⟩=some (.slice a 0 cap))(h0:J W):
  CallsIn F 1 Tryz.prog 125 #[.func (.yield l) #[] #[], .pointer (some ⟨Bs,oB,none⟩)] W fun e W'=>(∃ v,e= .returned v)/\J W':=by
 refine callsIn_of_wp Tryz.func125 rfl h7 ?_ hro
 simp only[Tryz.ntmps125,List.size_toArray,List.length_cons,List.length_nil,Nat.reduceAdd,Nat.reduceSub,Array.replicate_succ,Array.replicate_zero,List.push_toArray,List.append_toArray,List.nil_append,List.cons_append]
 gi_wp2
 gi_loopw [3] (fun i wr=>i= .int .i64 (-1)/\wr=W) (fun i _=>(intOf i+1).toNat)
 case atStart=>exact⟨rfl,rfl⟩
 case round=>
  obtain⟨rfl,rfl⟩:=hrel
  gi_wp2
  go_end0
  exact⟨⟨_,rfl⟩,h0⟩
theorem kl{H:Nat->Prop}{w:World}{b o:Nat}{c:Value}(h:di H w b o [c]):w.cell? ⟨b,o,none⟩=some c/\b<w.heap.size/\ ¬H b:=
 ⟨by have:=h.2 0 (by simp);simpa using this,h.lt (by simp),h.1 (by simp)⟩
theorem uv(xs:List ND):mq Tryz.prog 125 2 [.z (.ptr (.slice NT)) xs] (bS xs):=by
 refine⟨enters_of Tryz.func125 (by kernel_rfl) rfl,?_,?_⟩
 ·intro it hit
  obtain⟨k,_,rfl⟩:=List.mem_map.1 hit
  exact⟨rfl,rfl⟩
 ·intro H w lb hH hcap
  obtain⟨v,rfl⟩:∃ v,lb= [v]:=by
   match lb,hcap with
   | [v],_=>exact⟨v,rfl⟩
   |_::_::_,h=>exact h.2.elim
  obtain⟨hag,bB,oB,cells,hv,hsl,hlies⟩:=hcap.1
  have hv2:v= .pointer (some ⟨bB,oB,none⟩):=by
   have hone:=ck (v:=v) (by cases v<;>first|rfl|(simp[Ty.isAgg] at hag))
   rw[hone] at hv;simpa using hv
  subst hv2
  have hlen:(bS xs).length=xs.length:=by simp[bS]
  rcases hsl with⟨rfl,rfl⟩|⟨b,o,p,cap,cs,rfl,hp,h1,h2,h3,h4⟩
  ·refine⟨fun k=> #[],fun k hk=>by simp[bS] at hk,?_⟩
   intro l J Jx W hb _ _ _ _ hY h0
   obtain⟨c1,c2,c3⟩:=kl hlies
   exact(uu (fw none) trivial rfl l bB oB (J 0) W none 0 ((hb.cell (p:=⟨bB,oB,none⟩) c2).trans c1) h0).mono (fun e W' h=>⟨h.1, .inl h.2⟩)
  ·have hcl:cs.length=xs.length*4:=bE (fun c x h=>NT.rep_length h) h3
   have hone:∀ j,j<xs.length->((cs.drop (j*4)).take 4).length=4:=by
    intro j hj
    rw[List.length_take,List.length_drop,hcl];omega
   refine⟨fun k=> #[.int .i64 ((xs.length:Int)-1-k), .agg ((cs.drop ((xs.length-1-k)*4)).take 4).toArray],fun k hk=> ?_,?_⟩
   ·rw[hlen] at hk
    have hg:=fi (fun c x h=>NT.rep_length h) h3 (xs.length-1-k) (by omega)
    simp only[bS,List.getElem_map,List.getElem_range]
    refine⟨bO (ρ:=fun _=>undef),?_,trivial⟩
    have hx:xs.getD (xs.length-1-k) zN=xs[xs.length-1-k]'(by omega):=by
     rw[List.getD_eq_getElem?_getD,List.getElem?_eq_getElem (by omega)];rfl
    rw[hx]
    exact fZ (t:=NT) hg (fun h=>by cases h) (fun h=>by cases h)
   ·intro l J Jx W hb _ _ _ _ hY h0
    rw[hlen] at hY ⊢
    obtain⟨c1,c2,c3⟩:=kl hlies
    by_cases hnil:xs= []
    ·subst hnil
     exact(uu (fw none) trivial rfl l bB oB (J 0) W (some ⟨b,o,p⟩) cap ((hb.cell (p:=⟨bB,oB,none⟩) c2).trans c1) h0).mono (fun e W' h=>⟨h.1, .inl h.2⟩)
    obtain rfl:=hp hnil
    have hne:0<xs.length->cs≠ []:=fun h e=>by rw[e] at hcl;simp at hcl;omega
    refine I1 (fw none) trivial rfl l bB oB b o xs.length cap (fun j=>(cs.drop (j*4)).take 4) hone (Nat.le_trans h1 h2) J Jx (xL H w.heap.size) W ((hb.cell (p:=⟨bB,oB,none⟩) c2).trans c1) (fun j hj i hi=> ?_) (fun A B hk hA1 hA2=>⟨hk bB c2 c3 hA1,fun h=>hk b (h4.lt (hne h)) (h4.1 (hne h)) (hA2 h)⟩) hY h0
    have hj':j*4+i<cs.length:=by rw[hcl];omega
    rw[Nat.add_assoc,hb.cell (p:=⟨b,o+(j*4+i),none⟩) (h4.lt (hne (by omega))),h4.2 (j*4+i) hj']
    rw[List.getElem?_take,if_pos hi,List.getElem?_drop]
end Go.Proofs
end
section
namespace Go.Cm
open Go.Proofs
theorem yz{p:List ND}{k i:Nat}(h:Sz k p)(hi:i<p.length):p.getD i zN=bk (cf (an p) i):=by
 rw[<- fE h hi,fD (t:=NT) hi,List.getD_eq_getElem?_getD,List.getElem?_eq_getElem hi];rfl
theorem yA{p:List ND}{k:Nat}(hk:k<p.length):p.length-1-k<p.length:=by omega
theorem BE(p:List ND)(x:Rat):0=aQ (List.drop (p.length-0) (an p)) x:=by
 rw[Nat.sub_zero,List.drop_of_length_le (by rw[aK];exact Nat.le_refl _)];rfl
theorem BF{p:List ND}{x:Rat}{k:Nat}(hk:k<p.length):aQ (List.drop (p.length-(k+1)) (an p)) x=aQ (List.drop (p.length-k) (an p)) x*x+cf (an p) (p.length-1-k):=by
 rw[List.drop_eq_getElem_cons (by rw[aK];omega),show p.length-(k+1)+1=p.length-k by omega]
 have e:(an p)[p.length-(k+1)]'(by rw[aK];omega)=cf (an p) (p.length-1-k):=by
  unfold cf
  rw[List.getD_eq_getElem?_getD,show p.length-1-k=p.length-(k+1) by omega,List.getElem?_eq_getElem (by rw[aK];omega)];rfl
 rw[e];rfl
theorem FR{p:List ND}{x:ND}{k:Nat}(hC:Sz QM p/\p.length<=100/\NOK x/\lq (bA x)<=QM)(hk:k<p.length){v:Rat}(hz:v=aQ (List.drop (p.length-k) (an p)) (bA x)):fT (bk v) x/\fT (bk (v*bA x)) (bk (cf (an p) (p.length-1-k))):=by
 obtain⟨h1,h2,h3,h4⟩:=hC
 have e:QM=400000000:=rfl
 have e2:QC=100000000000:=rfl
 have hl:=C7 (l:=List.drop (p.length-k) (an p)) (x:=bA x) (K:=QM) (fun c hc=>by
  have hc':=List.mem_of_mem_drop hc
  obtain⟨y,hy,rfl⟩:=List.mem_map.1 hc'
  exact(h1 y hy).2) h4
 rw[<- hz,List.length_drop,aK] at hl
 have hm:=lW v (bA x)
 have hc:=h1.cf (by omega) (p.length-1-k)
 have h5:(p.length-(p.length-k))*(2*QM+1)<=100*(2*QM+1):=Nat.mul_le_mul_right _ (by omega)
 exact⟨⟨bV _,h3,by rw[aM];omega⟩,bV _,bV _,by rw[aM,aM];omega⟩
theorem I2(p:List ND)(x:Rat):aQ (List.drop (p.length-(bS p).length) (an p)) x=aQ (an p) x:=by
 rw[show (bS p).length=p.length by simp[bS],Nat.sub_self,List.drop_zero]
def sF(s b:List Rat)(c:Rat):List Rat:=bH (· + ·) (cE s b) (aR [c])
def gy(p b:List Rat):Nat->List Rat
 |0=> []
 |k+1=>sF (gy p b k) b (cf p (p.length-1-k))
def jR(p b:List Rat):List Rat:=gy p b p.length
def BG(s b:List ND)(c:ND):Prop:=Sz QM s/\Sz QM b/\s.length<=100/\b.length<=100/\NOK c/\lq (bA c)<=QM/\Sz QH (aG (cE (an s) (an b)))
def wg(p b:List ND):Prop:=Sz QM p/\p.length<=100/\∀ k,k<p.length->BG (aG (gy (an p) (an b) k)) b (bk (cf (an p) (p.length-1-k)))
theorem sG(p q:List Rat):(cE p q).length<=p.length+q.length:=by
 unfold cE
 split
 ·simp
 ·rw[dH];omega
theorem FS{s b:List ND}{c:ND}(h:BG s b c):(Sz QM s/\Sz QM b/\s.length<=100/\b.length<=100)/\(Sz QC [c]/\ [c].length<=QL)/\Sz QH (aG (cE (an s) (an b)))/\Sz QH (aG (aR (an [c])))/\(aG (cE (an s) (an b))).length<=1000/\(aG (aR (an [c]))).length<=1000:=by
 obtain⟨h1,h2,h3,h4,h5,h6,h7⟩:=h
 have e:QM=400000000:=rfl
 have e2:QC=100000000000:=rfl
 have e3:QH=40000000000:=rfl
 refine⟨⟨h1,h2,h3,h4⟩,⟨fun x hx=> ?_,by simp[QL]⟩,h7,eU fun x hx=> ?_,?_,?_⟩
 ·simp only[List.mem_singleton] at hx
  subst hx;exact⟨h5,by omega⟩
 ·have:x=bA c:=by
   simp only[an,List.map_cons,List.map_nil,aR] at hx
   split at hx
   ·simp at hx
   ·simpa using hx
  rw[this];omega
 ·rw[aB]
  have:=sG (an s) (an b)
  rw[aK,aK] at this;omega
 ·rw[aB]
  have:=dM (an [c])
  rw[aK] at this
  simp only[List.length_cons,List.length_nil] at this;omega
theorem I3(x:Rat)(i k:Nat):x^(i+k)=x^i*x^k:=by
 induction k with
 |zero=>rw[Nat.add_zero,Rat.pow_zero,Rat.mul_one]
 |succ k ih=>rw[<- Nat.add_assoc,Rat.pow_succ,Rat.pow_succ,ih,Rat.mul_assoc]
theorem fW(x:Rat):aQ [] x=0:=rfl
theorem gJ(c:Rat)(l:List Rat)(x:Rat):aQ (c::l) x=aQ l x*x+c:=rfl
theorem wh(c x:Rat):aQ [c] x=c:=by rw[gJ,fW];grind
theorem nA(l m:List Rat)(x:Rat):aQ (l++m) x=aQ l x+x^l.length*aQ m x:=by
 induction l with
 |nil=>simp only[List.nil_append,fW,List.length_nil];grind
 |cons c l ih=>simp only[List.cons_append,gJ,ih,List.length_cons];grind
theorem BH(n:Nat)(x:Rat):aQ (List.replicate n 0) x=0:=by
 induction n with
 |zero=>rfl
 |succ n ih=>rw[List.replicate_succ,gJ,ih];grind
theorem iG(l:List Rat)(x:Rat):aQ (aR l) x=aQ l x:=by
 induction l with
 |nil=>rfl
 |cons c l ih=>
  rw[gJ,<- ih]
  simp only[aR]
  split
  ·rename_i h
   rw[h]
   split
   ·rename_i h0;rw[h0,fW];grind
   ·rw[wh,fW];grind
  ·rename_i y m h
   rw[h,gJ]
theorem I4(l:List Rat)(j:Nat)(y x:Rat)(h:j<l.length):aQ (l.set j y) x=aQ l x+(y-cf l j)*x^j:=by
 induction l generalizing j with
 |nil=>simp at h
 |cons c l ih=>
  cases j with
  |zero=>simp only[List.set_cons_zero,gJ,cf,List.getD_cons_zero];grind
  |succ j=>
   simp only[List.set_cons_succ,gJ]
   rw[ih j (by simpa using h)]
   have:cf (c::l) (j+1)=cf l j:=by simp[cf]
   rw[this]
   grind
theorem oZ(l:List Rat)(k:Nat)(x:Rat)(h:k<l.length):aQ (l.take (k+1)) x=aQ (l.take k) x+cf l k*x^k:=by
 rw[List.take_succ_eq_append_getElem h,nA,wh,List.length_take,Nat.min_eq_left (by omega)]
 unfold cf
 rw[List.getD_eq_getElem?_getD,List.getElem?_eq_getElem h]
 simp only[Option.getD_some]
 grind
theorem I5(out:List Rat)(i:Nat)(a:Rat)(q:List Rat)(x:Rat):∀ k,k<=q.length->i+k<=out.length->aQ (cw out i a q k) x=aQ out x+a*x^i*aQ (q.take k) x
 |0,_,_=>by simp only[cw,List.take_zero,fW];grind
 |k+1,hk,h=>by
  rw[cw,I4 _ _ _ _ (by rw[ia];omega),I5 out i a q x k (by omega) (by omega),oZ q k x (by omega)]
  have:x^(i+k)=x^i*x^k:=I3 _ _ _
  rw[this]
  grind
theorem sH(out:List Rat)(i:Nat)(a:Rat)(q:List Rat)(x:Rat)(h:i+q.length<=out.length):aQ (cw out i a q q.length) x=aQ out x+a*x^i*aQ q x:=by
 rw[I5 _ _ _ _ _ _ (Nat.le_refl _) h,List.take_length]
theorem C9(p q:List Rat)(x:Rat)(hq:0<q.length):∀ i,i<=p.length->aQ (mulN p q i) x=aQ (p.take i) x*aQ q x
 |0,_=>by rw[mulN,BH,List.take_zero,fW];grind
 |i+1,h=>by
  rw[mulN,sH _ _ _ _ _ (by rw[dH];omega),C9 p q x hq i (by omega),oZ p i x (by omega)]
  grind
theorem nB(p q:List Rat)(x:Rat):aQ (cE p q) x=aQ p x*aQ q x:=by
 unfold cE
 split
 ·rename_i h
  rcases h with h|h<;>(subst h;simp only[fW];grind)
 ·rename_i h
  have hq:0<q.length:=List.length_pos_iff.2 fun e=>h (.inr e)
  rw[C9 p q x hq _ (Nat.le_refl _),List.take_length]
theorem km(f:Nat->Rat)(x:Rat):∀ n,aQ ((List.range (n+1)).map f) x=aQ ((List.range n).map f) x+f n*x^n:=by
 intro n
 rw[List.range_succ,List.map_append,nA]
 simp only[List.map_cons,List.map_nil,wh,List.length_map,List.length_range]
 grind
theorem c7{l:List Rat}{i:Nat}(h:l.length<=i):cf l i=0:=by
 unfold cf
 rw[List.getD_eq_getElem?_getD,List.getElem?_eq_none h];rfl
theorem mK(l:List Rat)(x:Rat):∀ n,l.length<=n->aQ ((List.range n).map (cf l)) x=aQ l x:=by
 have h0:∀ n,n<=l.length->aQ ((List.range n).map (cf l)) x=aQ (l.take n) x:=by
  intro n
  induction n with
  |zero=>intro _;rfl
  |succ n ih=>intro h;rw[km,ih (by omega),oZ l n x (by omega)]
 intro n
 induction n with
 |zero=>intro h;rw[h0 0 (by omega),show l= [] from List.eq_nil_of_length_eq_zero (by omega)];rfl
 |succ n ih=>
  intro h
  by_cases h2:l.length<=n
  ·rw[km,ih h2,c7 h2];grind
  ·rw[h0 _ (by omega),List.take_of_length_le (by omega)]
theorem uw(l m:List Rat)(x:Rat):∀ n,aQ (bK (· + ·) l m n) x=aQ ((List.range n).map (cf l)) x+aQ ((List.range n).map (cf m)) x
 |0=>by simp only[bK,List.range_zero,List.map_nil,fW];grind
 |n+1=>by
  have:=uw l m x n
  unfold bK at this ⊢
  rw[km,km,km,this]
  grind
theorem ux(l m:List Rat)(x:Rat):∀ n,aQ (bK (· - ·) l m n) x=aQ ((List.range n).map (cf l)) x-aQ ((List.range n).map (cf m)) x
 |0=>by simp only[bK,List.range_zero,List.map_nil,fW];grind
 |n+1=>by
  have:=ux l m x n
  unfold bK at this ⊢
  rw[km,km,km,this]
  grind
theorem BI(l m:List Rat)(x:Rat):aQ (bH (· + ·) l m) x=aQ l x+aQ m x:=by
 rw[bH,iG,uw,mK _ _ _ (by omega),mK _ _ _ (by omega)]
theorem sI(l m:List Rat)(x:Rat):aQ (bH (· - ·) l m) x=aQ l x-aQ m x:=by
 rw[bH,iG,ux,mK _ _ _ (by omega),mK _ _ _ (by omega)]
theorem I6:∀ {l:List Rat},l≠ []->aJ l≠0->∃ d X:Rat,0<d/\1<=X/\∀ x,X<=x->d<=(aQ l x).abs
 | [],h,_=>absurd rfl h
 | [c],_,h=>by
  refine⟨c.abs,1,?_,by grind,fun x _=>by rw[wh];grind⟩
  have:aJ [c]=c:=rfl
  rw[this] at h
  unfold Rat.abs
  split<;>grind
 |c::a::l,_,h=>by
  obtain⟨d,X,h1,h2,h3⟩:=I6 (l:=a::l) (by simp) (by simpa [aJ] using h)
  refine⟨d,max X ((d+c.abs)/d),h1,by grind,fun x hx=> ?_⟩
  have h4:=h3 x (by grind)
  have h5:(d+c.abs)/d<=x:=by grind
  have h6:d+c.abs<=x*d:=by
   have:=Rat.mul_le_mul_of_nonneg_right h5 (Rat.le_of_lt h1)
   rwa [Rat.div_mul_cancel (by grind)] at this
  have h7:1<=x:=by grind
  have h8:x*d<=x*(aQ (a::l) x).abs:=Rat.mul_le_mul_of_nonneg_left h4 (by grind)
  rw[gJ]
  generalize aQ (a::l) x=v at*
  have h9:(v*x).abs=x*v.abs:=by
   by_cases hv:0<=v
   ·rw[Rat.abs_of_nonneg hv,Rat.abs_of_nonneg (Rat.mul_nonneg hv (by grind))];grind
   ·have h11:0<= -v*x:=Rat.mul_nonneg (by grind) (by grind)
    rw[Rat.abs_of_nonpos (by grind),Rat.abs_of_nonpos (by grind)];grind
  have h10:(v*x).abs<=(v*x+c).abs+c.abs:=by
   unfold Rat.abs
   split<;>split<;>split<;>grind
  grind
theorem Ls{l:List Rat}(h:Trm l)(h0:∀ x,aQ l x=0):l= []:=by
 by_cases hn:l= []
 ·exact hn
 ·obtain⟨d,X,h1,h2,h3⟩:=I6 hn (h hn)
  have:=h3 X (by grind)
  rw[h0 X] at this
  rw[Rat.abs_zero] at this
  grind
theorem l5(op:Rat->Rat->Rat)(l m:List Rat)(n i:Nat)(h:i<n):cf (bK op l m n) i=op (cf l i) (cf m i):=by
 unfold bK
 conv=>lhs;unfold cf
 rw[List.getD_eq_getElem?_getD,List.getElem?_map,List.getElem?_range h];rfl
theorem Da(l:List Rat)(i:Nat):cf (aR l) i=cf l i:=by
 induction l generalizing i with
 |nil=>rfl
 |cons c l ih=>
  simp only[aR]
  split
  ·rename_i h
   rw[h] at ih
   have h0:∀ j,cf l j=0:=fun j=>by rw[<- ih j];simp[cf]
   split
   ·rename_i hc
    cases i with
    |zero=>simp[cf,hc]
    |succ i=>have:=h0 i;simp only[cf,List.getD_cons_succ] at this ⊢;rw[this];simp
   ·cases i with
    |zero=>simp[cf]
    |succ i=>have:=h0 i;simp only[cf,List.getD_cons_succ] at this ⊢;rw[this];simp
  ·rename_i y m h
   rw[h] at ih
   cases i with
   |zero=>simp[cf]
   |succ i=>have:=ih i;simp only[cf,List.getD_cons_succ] at this ⊢;exact this
theorem M1{l m:List Rat}(hl:Trm l)(hm:Trm m)(h:∀ i,cf l i=cf m i):l=m:=by
 have hlen:∀ {l m:List Rat},Trm l->(∀ i,cf l i=cf m i)->l.length<=m.length:=by
  intro l m hl h
  by_cases hn:l= []
  ·subst hn;simp
  ·have hp:=List.length_pos_iff.2 hn
   have h1:=hl hn
   rw[b8 hp,h] at h1
   have: ¬m.length<=l.length-1:=fun e=>h1 (c7 e)
   omega
 have e:l.length=m.length:=Nat.le_antisymm (hlen hl h) (hlen hm fun i=>(h i).symm)
 apply List.ext_getElem e
 intro i h1 h2
 have:=h i
 unfold cf at this
 rw[List.getD_eq_getElem?_getD,List.getD_eq_getElem?_getD,List.getElem?_eq_getElem h1,List.getElem?_eq_getElem h2] at this
 exact this
theorem l6{l m:List Rat}(hl:Trm l)(hm:Trm m)(h:∀ x,aQ l x=aQ m x):l=m:=by
 have h0:bH (· - ·) l m= []:=Ls (ib _) fun x=>by rw[sI,h];grind
 refine M1 hl hm fun i=> ?_
 by_cases hi:i<max l.length m.length
 ·have h1:=Da (bK (· - ·) l m (max l.length m.length)) i
  rw[show aR (bK (· - ·) l m (max l.length m.length))= [] from h0,l5 _ _ _ _ _ hi] at h1
  have:cf [] i=0:=by simp[cf]
  rw[this] at h1
  grind
 ·rw[c7 (by omega),c7 (by omega)]
theorem Db:Trm []:=fun h=>absurd rfl h
theorem kR{l:List Rat}(h:Trm l):aR l=l:=by
 by_cases hn:l= []
 ·subst hn;rfl
 ·exact lY hn (h hn)
theorem eD(op:Rat->Rat->Rat)(l m:List Rat):Trm (bH op l m):=ib _
theorem fc(op:Rat->Rat->Rat)(l m:List Rat):(bH op l m).length<=max l.length m.length:=by
 have:=dM (bK op l m (max l.length m.length))
 rw[et] at this
 exact this
theorem uy(p q:List Rat)(hq:0<q.length):∀ i,i<=p.length->∀ n,i+q.length<=n+1->cf (mulN p q i) n=0
 |0,_,n,_=>by
  rw[mulN]
  unfold cf
  rw[List.getD_eq_getElem?_getD]
  by_cases h:n<p.length+q.length-1
  ·rw[List.getElem?_replicate,if_pos h];rfl
  ·rw[List.getElem?_eq_none (by simp;omega)];rfl
 |i+1,h,n,hn=>by
  rw[mulN,jE _ _ _ _ _ _ (by rw[dH];omega),if_neg (by omega)]
  exact uy p q hq i (by omega) n (by omega)
theorem I7{p q:List Rat}(hp:0<p.length)(hq:0<q.length):aJ (mulN p q p.length)=aJ p*aJ q:=by
 obtain⟨n,hn⟩:∃ n,p.length=n+1:=⟨p.length-1,by omega⟩
 rw[b8 (by rw[dH];omega),dH,hn,mulN,jE _ _ _ _ _ _ (by rw[dH];omega),if_pos (by omega),uy p q hq n (by omega) _ (by omega:n+q.length<=(n+1+q.length-1-1)+1)]
 rw[b8 hp,b8 hq,hn]
 have e1:n+1+q.length-1-1-n=q.length-1:=by omega
 have e2:n+1-1=n:=by omega
 rw[e1,e2]
 grind
theorem wj{p q:List Rat}(hp:p≠ [])(hq:q≠ []):cE p q=mulN p q p.length:=by
 unfold cE;rw[if_neg];rintro(h|h)
 ·exact hp h
 ·exact hq h
theorem kn{p q:List Rat}(hp:p≠ [])(hq:q≠ []):(cE p q).length=p.length+q.length-1:=by
 rw[wj hp hq,dH]
theorem fX(q:List Rat):cE [] q= []:=by unfold cE;rw[if_pos (.inl rfl)]
theorem l7(p:List Rat):cE p []= []:=by unfold cE;rw[if_pos (.inr rfl)]
theorem FT{p q:List Rat}(hp:p≠ [])(hq:q≠ []):aJ (cE p q)=aJ p*aJ q:=by
 rw[wj hp hq,I7 (List.length_pos_iff.2 hp) (List.length_pos_iff.2 hq)]
theorem mL{p q:List Rat}(hp:Trm p)(hq:Trm q):Trm (cE p q):=by
 intro h
 by_cases h1:p= []
 ·subst h1;exact absurd (fX q) h
 by_cases h2:q= []
 ·subst h2;exact absurd (l7 p) h
 rw[FT h1 h2]
 have:=hp h1;have:=hq h2
 grind
theorem BJ{q r:List Rat}(h:q.length<=r.length)(x:Rat):aQ (aR (cp q r)) x=aQ r x-(aJ r/aJ q)*x^(r.length-q.length)*aQ q x:=by
 rw[iG,cp,sH _ _ _ _ _ (by omega)]
 grind
theorem yB{q:List Rat}(hq:0<q.length)(h0:aJ q≠0)(x:Rat):∀ (n:Nat) (r s:List Rat),r.length<n->(∀ i,i+q.length<=r.length->cf s i=0)->r.length+1-q.length<=s.length->
  aQ (eF q n r s).1 x*aQ q x+aQ (eF q n r s).2 x=aQ s x*aQ q x+aQ r x
 |0,r,s,h,_,_=>absurd h (by omega)
 |n+1,r,s,h,hz,hs=>by
  rw[eF]
  split
  ·rename_i hl
   have h1:=eV hq hl h0
   rw[yB hq h0 x n _ _ (by omega) (fun i hi=>by rw[IL,if_neg (by omega)];exact hz i (by omega)) (by rw[List.length_set];omega)]
   rw[BJ hl,I4 _ _ _ _ (by omega),hz _ (by omega)]
   grind
  ·rfl
theorem wk{p q:List Rat}(hq:q≠ [])(h0:Trm q)(x:Rat):aQ (divN p q).1 x*aQ q x+aQ (divN p q).2 x=aQ p x:=by
 unfold divN
 rw[yB (List.length_pos_iff.2 hq) (h0 hq) x _ _ _ (Nat.lt_succ_self _) (fun i _=> ?_) (by simp),BH]
 ·grind
 ·unfold cf
  rw[List.getD_eq_getElem?_getD,List.getElem?_replicate]
  split<;>rfl
theorem BK{q s t r u:List Rat}(hq:q≠ [])(tq:Trm q)(ts:Trm s)(tt:Trm t)(tr:Trm r)(tu:Trm u)(hr:r.length<q.length)(hu:u.length<q.length)
  (h:∀ x,aQ s x*aQ q x+aQ r x=aQ t x*aQ q x+aQ u x):s=t/\r=u:=by
 have h1:cE (bH (· - ·) s t) q=bH (· - ·) u r:=l6 (mL (eD _ _ _) tq) (eD _ _ _) fun x=>by
  rw[nB,sI,sI];have:=h x;grind
 have h2:bH (· - ·) s t= []:=by
  by_cases hd:bH (· - ·) s t= []
  ·exact hd
  ·have:=kn hd hq
   rw[h1] at this
   have h3:=fc (· - ·) u r
   have h4:=List.length_pos_iff.2 hd
   omega
 have h3:s=t:=l6 ts tt fun x=>by have:=sI s t x;rw[h2,fW] at this;grind
 refine⟨h3,l6 tr tu fun x=> ?_⟩
 have:=h x
 rw[h3] at this
 grind
theorem yC{p q s r:List Rat}(hq:q≠ [])(tp:Trm p)(tq:Trm q)(ts:Trm s)(tr:Trm r)(hr:r.length<q.length)(h:∀ x,aQ s x*aQ q x+aQ r x=aQ p x):
  aR (divN p q).1=s/\(divN p q).2=r:=
 BK hq tq (ib _) ts (fV tp) tr (ev (List.length_pos_iff.2 hq) (tq hq)) hr fun x=>by rw[iG,wk hq tq,h]
def Den(b:Nat)(l:List Rat):Prop:=∃ D:Int,D≠0/\lw D<=b/\∀ i,∃ n:Int,lw n<=b/\cf l i=Rat.divInt n D
theorem Den.mono{b c:Nat}{l:List Rat}(h:Den b l)(hc:b<=c):Den c l:=by
 obtain⟨D,h1,h2,h3⟩:=h
 exact⟨D,h1,by omega,fun i=>by obtain⟨n,a,e⟩:=h3 i;exact⟨n,by omega,e⟩⟩
theorem Den.lq{b:Nat}{l:List Rat}(h:Den b l):∀ x∈l,lq x<=b:=by
 obtain⟨D,h1,h2,h3⟩:=h
 intro x hx
 obtain⟨i,hi,rfl⟩:=List.getElem_of_mem hx
 obtain⟨n,a,e⟩:=h3 i
 unfold cf at e
 rw[List.getD_eq_getElem?_getD,List.getElem?_eq_getElem hi] at e
 simp only[Option.getD_some] at e
 rw[e]
 have:=nu n D h1
 omega
theorem Den.sz{b k:Nat}{l:List Rat}(h:Den b l)(hk:b<=k):Sz k (aG l):=eU fun x hx=>Nat.le_trans (h.lq x hx) hk
theorem FU{b:Nat}{l m:List Rat}(h:Den b l)(he:∀ i,cf m i=cf l i):Den b m:=by
 obtain⟨D,h1,h2,h3⟩:=h
 exact⟨D,h1,h2,fun i=>by rw[he];exact h3 i⟩
theorem ko{b:Nat}{l:List Rat}(h:Den b l):Den b (aR l):=FU h fun i=>Da l i
theorem o4{b:Nat}(hb:1<=b):Den b []:=⟨1,by decide,by rw[sc];exact hb,fun i=>⟨0,by rw[gH];omega,by rw[Rat.zero_divInt];simp[cf]⟩⟩
theorem Den.pos{b:Nat}{l:List Rat}(h:Den b l):1<=b:=by
 obtain⟨D,h1,h2,_⟩:=h
 have:lw D≠0:=fun e=>by have:=oz D;rw[e] at this;simp at this;omega
 omega
theorem uz{n D:Int}(hD:D≠0)(h:Rat.divInt n D≠0):n≠0:=fun e=>h (by rw[e,Rat.zero_divInt])
theorem I9(a b:Int):lw (a-b)<=max (lw a) (lw b)+1:=by
 have:=sd a (-b)
 rw[Is] at this
 exact this
theorem sJ{b c:Nat}{q r:List Rat}(hr:Den b r)(hq:Den c q)(hl:q.length<=r.length)(h0:aJ q≠0)(hp:0<q.length):Den (b+c+1) (aR (cp q r)):=by
 refine ko ?_
 obtain⟨D,d1,d2,d3⟩:=hr
 obtain⟨E,e1,e2,e3⟩:=hq
 obtain⟨R,r1,r2⟩:=d3 (r.length-1)
 obtain⟨Q,q1,q2⟩:=e3 (q.length-1)
 rw[<- b8 (by omega)] at r2
 rw[<- b8 hp] at q2
 have hQ:Q≠0:=uz e1 (by rw[<- q2];exact h0)
 have hDQ:D*Q≠0:=Int.mul_ne_zero d1 hQ
 refine⟨D*Q,hDQ,by have:=b5 D Q;omega,fun i=> ?_⟩
 unfold cp
 rw[jE _ _ _ _ _ _ (by omega)]
 obtain⟨n,n1,n2⟩:=d3 i
 split
 ·obtain⟨m,m1,m2⟩:=e3 (i-(r.length-q.length))
  refine⟨n*Q-R*m,?_,?_⟩
  ·have:=b5 n Q;have:=b5 R m;have:=I9 (n*Q) (R*m);omega
  ·rw[n2,m2,r2,q2]
   simp only[Rat.divInt_eq_div,Rat.intCast_mul,Rat.intCast_sub]
   have f1:(D:Rat)≠0:=by simpa using d1
   have f2:(E:Rat)≠0:=by simpa using e1
   have f3:(Q:Rat)≠0:=by simpa using hQ
   generalize (D:Rat)=D' at*;generalize (E:Rat)=E' at*;generalize (Q:Rat)=Q' at*
   grind
 ·refine⟨n*Q,by have:=b5 n Q;omega,?_⟩
  rw[n2,Rat.divInt_mul_right hQ]
theorem uA{b:Nat}{l:List Rat}(h:Den b l)(ht:Trm l):Den b (cP l):=by
 by_cases hn:l= []
 ·subst hn;exact h
 have hp:=List.length_pos_iff.2 hn
 obtain⟨D,d1,d2,d3⟩:=h
 obtain⟨R,r1,r2⟩:=d3 (l.length-1)
 rw[<- b8 hp] at r2
 have hR:R≠0:=uz d1 (by rw[<- r2];exact ht hn)
 refine⟨R,hR,r1,fun i=> ?_⟩
 obtain⟨n,n1,n2⟩:=d3 i
 refine⟨n,n1,?_⟩
 have:cf (cP l) i=cf l i/aJ l:=by
  unfold cP cf
  simp only[List.getD_eq_getElem?_getD,List.getElem?_map]
  cases l[i]? with
  |none=>simp;grind
  |some x=>rfl
 rw[this,n2,r2]
 simp only[Rat.divInt_eq_div]
 have f1:(D:Rat)≠0:=by simpa using d1
 have f3:(R:Rat)≠0:=by simpa using hR
 generalize (D:Rat)=D' at*;generalize (R:Rat)=R' at*
 grind
theorem yD{c:Nat}{q:List Rat}(hq:Den c q)(hp:0<q.length)(h0:aJ q≠0):∀ (n:Nat) (r s:List Rat) (b:Nat),Den b r->Den (b+(r.length+1-q.length)*(c+1)) (eF q n r s).2
 |0,r,s,b,h=>h.mono (by omega)
 |n+1,r,s,b,h=>by
  rw[eF]
  split
  ·rename_i hl
   have h1:=eV hp hl h0
   refine(yD hq hp h0 n _ _ _ (sJ h hq hl h0 hp)).mono ?_
   have h2:(aR (cp q r)).length+1-q.length+1<=r.length+1-q.length:=by omega
   have h3:=Nat.mul_le_mul_right (c+1) h2
   rw[Nat.add_mul] at h3
   omega
  ·exact h.mono (by omega)
theorem wm{c:Nat}{q:List Rat}(hq:Den c q)(hp:0<q.length)(h0:aJ q≠0):∀ (n:Nat) (r:List Rat) (b:Nat),Den b r->b+(r.length+1-q.length)*(c+1)<=QD->sw q n r
 |0,r,b,h,hb=>trivial
 |n+1,r,b,h,hb=>by
  refine⟨fun x hx=>by have:=h.lq x hx;omega,fun hl=> ?_⟩
  have h1:=eV hp hl h0
  refine wm hq hp h0 n _ _ (sJ h hq hl h0 hp) ?_
  have h2:(aR (cp q r)).length+1-q.length+1<=r.length+1-q.length:=by omega
  have h3:=Nat.mul_le_mul_right (c+1) h2
  rw[Nat.add_mul] at h3
  omega
theorem Ja{c K:Nat}{q:List Rat}(hq:Den c q)(hp:0<q.length)(h0:aJ q≠0):∀ (n:Nat) (r s:List Rat) (b:Nat),Den b r->(∀ x∈s,lq x<=K)->b+(r.length+1-q.length)*(c+1)<=K->∀ x∈(eF q n r s).1,lq x<=K
 |0,r,s,b,h,hs,hb=>hs
 |n+1,r,s,b,h,hs,hb=>by
  rw[eF]
  split
  ·rename_i hl
   have h1:=eV hp hl h0
   have h2:(aR (cp q r)).length+1-q.length+1<=r.length+1-q.length:=by omega
   have h3:=Nat.mul_le_mul_right (c+1) h2
   rw[Nat.add_mul] at h3
   refine Ja hq hp h0 n _ _ _ (sJ h hq hl h0 hp) ?_ (by omega)
   intro x hx
   rcases List.mem_or_eq_of_mem_set hx with hx|rfl
   ·exact hs x hx
   ·have h4:=vW (aJ r) (aJ q)
    have h5:=h.lq (aJ r) (by rw[b8 (by omega)];exact so (by omega))
    have h6:=hq.lq (aJ q) (by rw[b8 hp];exact so (by omega))
    omega
  ·exact hs
theorem BL{p q:List ND}{b c:Nat}(hp:∀ x∈p,NOK x)(hq:∀ x∈q,NOK x)(dp:Den b (an p))(dq:Den c (an q))(l1:p.length<=900)(l2:q.length<=900)(hn:0<q.length)(tq:Trm (an q))
  (hb:b+(p.length+1-q.length)*(c+1)<=QD) (hc:c<=QD):fa p q:=by
 have hQ:QD<=QC:=by unfold QD QC;omega
 have hne:an q≠ []:=fun e=>by have:=congrArg List.length e;rw[aK,List.length_nil] at this;omega
 have hln:0<(an q).length:=by rw[aK];exact hn
 refine⟨hp,?_,l1,l2,hn,tq hne,wm dq hln (tq hne) _ _ _ dp (by rw[aK,aK];exact hb)⟩
 have:=dq.sz hc
 rwa [wb hq] at this
theorem mM{p q:List Rat}{b c K:Nat}(dp:Den b p)(dq:Den c q)(hn:q≠ [])(tq:Trm q)(hb:b+(p.length+1-q.length)*(c+1)<=K)(hK:1<=K):(∀ x∈(divN p q).1,lq x<=K)/\Den K (divN p q).2:=by
 unfold divN
 refine⟨Ja dq (List.length_pos_iff.2 hn) (tq hn) _ _ _ _ dp (fun x hx=> ?_) hb,(yD dq (List.length_pos_iff.2 hn) (tq hn) _ _ _ _ dp).mono hb⟩
 rw[(List.mem_replicate.1 hx).2];exact Nat.le_trans iE hK
theorem sK(q:List Rat):∀ (n:Nat) (r s:List Rat),(eF q n r s).1.length=s.length
 |0,_,_=>rfl
 |n+1,r,s=>by
  rw[eF]
  split
  ·rw[sK q n,List.length_set]
  ·rfl
theorem gT(p q:List Rat):(divN p q).1.length=p.length+1-q.length:=by
 unfold divN;rw[sK];simp
theorem uB:∀ t:Nat,t+3<=3^(t+1)
 |0=>by decide
 |t+1=>by have:=uB t;rw[Nat.pow_succ];omega
theorem yE:∀ (n:Nat) (p q:List Rat) (b:Nat),Den b p->Den b q->Trm p->Trm q->q.length<n->(b+1)*(p.length+1-q.length+1)*3^q.length<=QD->sA n p q/\Den ((b+1)*(p.length+1-q.length+1)*3^q.length) (dW n p q)
 |0,p,q,b,_,_,_,_,h,_=>absurd h (by omega)
 |n+1,p,q,b,dp,dq,tp,tq,hn,hb=>by
  have hpow:0<3^q.length:=Nat.pow_pos (by decide)
  have hb1:(b+1)*(p.length+1-q.length+1)<=QD:=Nat.le_trans (Nat.le_mul_of_pos_right _ hpow) hb
  have hb2:b+(p.length+1-q.length)*(b+1)+1=(b+1)*(p.length+1-q.length+1):=by
   have e:=Nat.mul_add (b+1) (p.length+1-q.length) 1
   rw[Nat.mul_one,Nat.mul_comm (b+1) (p.length+1-q.length)] at e
   omega
  have hb3:b<=QD:=by
   have:0<=(p.length+1-q.length)*(b+1):=Nat.zero_le _
   omega
  have hqh:QD<=QH:=by unfold QD QH;omega
  rw[sA,dW]
  by_cases hq:q= []
  ·rw[if_pos hq,if_pos hq]
   exact⟨fun x hx=>by have:=dp.lq x hx;omega,(uA dp tp).mono (Nat.le_trans (by omega:b<=(b+1)*(p.length+1-q.length+1)) (Nat.le_mul_of_pos_right _ hpow))⟩
  ·rw[if_neg hq,if_neg hq]
   have hl:=List.length_pos_iff.2 hq
   have hs:=ev (p:=p) hl (tq hq)
   obtain⟨k1,k2⟩:=mM (K:=b+(p.length+1-q.length)*(b+1)) dp dq hq tq (Nat.le_refl _) (by have:=dp.pos;omega)
   have tr:=fV (q:=q) tp
   have hm:=uA k2 tr
   have hphi:(b+(p.length+1-q.length)*(b+1)+1)*(q.length+1-(cP (divN p q).2).length+1)*3^(cP (divN p q).2).length<=(b+1)*(p.length+1-q.length+1)*3^q.length:=by
    rw[hb2,b6]
    rw[Nat.mul_assoc]
    refine Nat.mul_le_mul_left _ ?_
    obtain⟨t,ht⟩:∃ t,q.length=(divN p q).2.length+(t+1):=⟨q.length-(divN p q).2.length-1,by omega⟩
    rw[ht,Nat.pow_add,Nat.mul_comm]
    refine Nat.mul_le_mul_left _ ?_
    have:=uB t
    omega
   obtain⟨g1,g2⟩:=yE n q (cP (divN p q).2) _ (dq.mono (by omega)) hm tq (gS tr) (by rw[b6];omega) (Nat.le_trans hphi hb)
   exact⟨⟨wm dq hl (tq hq) _ _ _ dp (by omega),fun x hx=>by have:=dq.lq x hx;omega,fun x hx=>by have:=k2.lq x hx;omega,g1⟩,g2.mono hphi⟩
theorem M3{p q:List ND}{b:Nat}(hp:∀ x∈p,NOK x)(hq:∀ x∈q,NOK x)(dp:Den b (an p))(dq:Den b (an q))(l1:p.length<=900)(l2:q.length<=900)(tp:Trm (an p))(tq:Trm (an q))
  (hb:(b+1)*(p.length+1-q.length+1)*3^q.length<=QD):iF p q/\Den ((b+1)*(p.length+1-q.length+1)*3^q.length) (cx (an p) (an q)):=by
 obtain⟨h1,h2⟩:=yE (q.length+1) (an p) (an q) b dp dq tp tq (by rw[aK];omega) (by rw[aK,aK];exact hb)
 refine⟨⟨hp,hq,l1,l2,tp,tq,h1⟩,?_⟩
 rw[aK,aK] at h2
 unfold cx;rw[aK];exact h2
theorem den_add{b c:Nat}{l m:List Rat}(hl:Den b l)(hm:Den c m):Den (b+c+1) (bH (· + ·) l m):=by
 refine ko ?_
 obtain⟨D,d1,d2,d3⟩:=hl
 obtain⟨E,e1,e2,e3⟩:=hm
 refine⟨D*E,Int.mul_ne_zero d1 e1,by have:=b5 D E;omega,fun i=> ?_⟩
 by_cases hi:i<max l.length m.length
 ·rw[l5 _ _ _ _ _ hi]
  obtain⟨n,n1,n2⟩:=d3 i
  obtain⟨k,k1,k2⟩:=e3 i
  refine⟨n*E+k*D,by have:=b5 n E;have:=b5 k D;have:=sd (n*E) (k*D);omega,?_⟩
  rw[n2,k2,Rat.divInt_add_divInt _ _ d1 e1]
 ·refine⟨0,by rw[gH];omega,?_⟩
  rw[c7 (by rw[et];omega),Rat.zero_divInt]
theorem Lt{b c:Nat}{l m:List Rat}(hl:Den b l)(hm:Den c m):Den (b+c+1) (bH (· - ·) l m):=by
 refine ko ?_
 obtain⟨D,d1,d2,d3⟩:=hl
 obtain⟨E,e1,e2,e3⟩:=hm
 refine⟨D*E,Int.mul_ne_zero d1 e1,by have:=b5 D E;omega,fun i=> ?_⟩
 by_cases hi:i<max l.length m.length
 ·rw[l5 _ _ _ _ _ hi]
  obtain⟨n,n1,n2⟩:=d3 i
  obtain⟨k,k1,k2⟩:=e3 i
  refine⟨n*E-k*D,by have:=b5 n E;have:=b5 k D;have:=I9 (n*E) (k*D);omega,?_⟩
  rw[n2,k2,Rat.divInt_sub_divInt _ _ d1 e1]
 ·refine⟨0,by rw[gH];omega,?_⟩
  rw[c7 (by rw[et];omega),Rat.zero_divInt]
theorem Jb{a:Int}{b:Nat}(h:lw a<=b):(a.natAbs:Int)<=LB^b:=by
 have:=rS a h
 omega
theorem yF{b c:Nat}{p q:List Rat}{D E:Int}(d1:D≠0)(e1:E≠0)(hp:∀ i,∃ n:Int,lw n<=b/\cf p i=Rat.divInt n D)(hq:∀ i,∃ n:Int,lw n<=c/\cf q i=Rat.divInt n E)(hl:0<q.length):
  ∀ i,i<=p.length->∀ n,∃ N:Int,(N.natAbs:Int)<=i*(LB^b*LB^c)/\cf (mulN p q i) n=Rat.divInt N (D*E)
 |0,_,n=>⟨0,by simp,by
   rw[Rat.zero_divInt]
   by_cases h:n<(mulN p q 0).length
   ·unfold mulN cf
    rw[List.getD_eq_getElem?_getD,List.getElem?_replicate]
    split<;>rfl
   ·exact c7 (by omega)⟩
 |i+1,h,n=>by
  obtain⟨N,h1,h2⟩:=yF d1 e1 hp hq hl i (by omega) n
  rw[mulN,jE _ _ _ _ _ _ (by rw[dH];omega)]
  have hpos:(0:Int)<=LB^b*LB^c:=Int.mul_nonneg (Int.le_of_lt (lbpos _)) (Int.le_of_lt (lbpos _))
  have e:((i+1:Nat):Int)*(LB^b*LB^c)=(i:Int)*(LB^b*LB^c)+LB^b*LB^c:=by rw[Int.natCast_add,Int.add_mul];simp
  rw[e]
  split
  ·obtain⟨x,x1,x2⟩:=hp i
   obtain⟨y,y1,y2⟩:=hq (n-i)
   refine⟨N+x*y,?_,?_⟩
   ·have h3:=Jb x1
    have h4:=Jb y1
    have h5:(x.natAbs:Int)*(y.natAbs:Int)<=LB^b*LB^c:=by
     have h6:(x.natAbs:Int)*(y.natAbs:Int)<=LB^b*(y.natAbs:Int):=Int.mul_le_mul_of_nonneg_right h3 (by omega)
     have h7:LB^b*(y.natAbs:Int)<=LB^b*LB^c:=Int.mul_le_mul_of_nonneg_left h4 (Int.le_of_lt (lbpos _))
     omega
    have h8:(N+x*y).natAbs<=N.natAbs+(x*y).natAbs:=Int.natAbs_add_le _ _
    rw[Int.natAbs_mul] at h8
    have h9:((N+x*y).natAbs:Int)<=(N.natAbs:Int)+(x.natAbs:Int)*(y.natAbs:Int):=by
     rw[<- Int.natCast_mul];omega
    omega
   ·rw[h2,x2,y2,Rat.divInt_mul_divInt,Rat.divInt_add_divInt _ _ (Int.mul_ne_zero d1 e1) (Int.mul_ne_zero d1 e1),<- Int.add_mul,Rat.divInt_mul_right (Int.mul_ne_zero d1 e1)]
  ·exact⟨N,by omega,h2⟩
theorem den_mul{b c:Nat}{p q:List Rat}(hp:Den b p)(hq:Den c q)(hl:p.length<1000000000):Den (b+c+1) (cE p q):=by
 have hb:=hp.pos
 by_cases h1:p= []
 ·subst h1;rw[fX];exact o4 (by omega)
 by_cases h2:q= []
 ·subst h2;rw[l7];exact o4 (by omega)
 rw[wj h1 h2]
 obtain⟨D,d1,d2,d3⟩:=hp
 obtain⟨E,e1,e2,e3⟩:=hq
 refine⟨D*E,Int.mul_ne_zero d1 e1,by have:=b5 D E;omega,fun n=> ?_⟩
 obtain⟨N,k1,k2⟩:=yF d1 e1 d3 e3 (List.length_pos_iff.2 h2) _ (Nat.le_refl _) n
 refine⟨N,lE ?_,k2⟩
 have k3:(0:Int)<LB^b*LB^c:=Int.mul_pos (lbpos _) (lbpos _)
 have k4:(p.length:Int)*(LB^b*LB^c)<LB*(LB^b*LB^c):=Int.mul_lt_mul_of_pos_right (by show (p.length:Int)<1000000000;omega) k3
 have k5:(LB:Int)^(b+c+1)=LB*(LB^b*LB^c):=by rw[Int.pow_succ,Int.pow_add,Int.mul_comm]
 omega
theorem Dc{b:Nat}{l:List Rat}(h:Den b l):(l.length<1000000000)->Den (b+1) (cr l):=by
 intro hl
 obtain⟨D,d1,d2,d3⟩:=h
 refine⟨D,d1,by omega,fun i=> ?_⟩
 by_cases hi:i<l.length-1
 ·obtain⟨n,n1,n2⟩:=d3 (i+1)
  have:cf (cr l) i=cf l (i+1)*Rat.divInt ((i+1:Nat):Int) 1:=by
   unfold cr l4
   conv=>lhs;unfold cf
   rw[List.getD_eq_getElem?_getD,List.getElem?_map,List.getElem?_range hi];rfl
  refine⟨n*((i+1:Nat):Int),?_,?_⟩
  ·have h1:lw (((i+1:Nat):Int))<=1:=lE (by show _<(1000000000:Int)^1;omega)
   have:=b5 n ((i+1:Nat):Int)
   omega
  ·rw[this,n2,Rat.divInt_mul_divInt,Int.mul_one]
 ·refine⟨0,by rw[gH];omega,?_⟩
  rw[Rat.zero_divInt,c7]
  unfold cr l4
  simp;omega
end Go.Cm
end
section
namespace Go.Cm
open Go.Proofs
def cL(p:List (List UInt8)):Int:=
 if 41<p.length then 40 else if p.all (fun q=>decide (df q=0))=false then 40
 else if p≠ []/\p.getLastD []= [48] then 40 else 0
def bc(p:List (List UInt8)):List Rat:=if cL p=0 then p.map bD else []
def c6(p:List (List UInt8)):Prop:=p.length<=QL/\∀ q∈p,q.length<=QL
theorem nC{q:List UInt8}(h:df q=0)(hl:q.length<=QL):fH q/\gh q=bk (bD q):=by
 have:RQ q:=⟨by rw[h];decide,hl⟩
 exact⟨this.form,this.raw⟩
theorem BM{p:List (List UInt8)}{k:Nat}(hk:k<p.length)(h:(p.take k).all (fun q=>decide (df q=0))=true)(hb:df (nth .str p (k:Int))=0):(p.take (k+1)).all (fun q=>decide (df q=0))=true:=by
 have e:nth .str p (k:Int)=p[k]:=fD (t:= .str) hk
 rw[List.take_succ_eq_append_getElem hk,List.all_append,h]
 rw[e] at hb
 simp[hb]
theorem FV{p:List (List UInt8)}{k:Nat}(hk:k<p.length)(h41:p.length<=41)(hb: ¬df (nth .str p (k:Int))=0):cL p=40:=by
 have e:nth .str p (k:Int)=p[k]:=fD (t:= .str) hk
 rw[e] at hb
 unfold cL
 rw[if_neg (by omega),if_pos]
 rw[List.all_eq_false]
 exact⟨p[k],List.getElem_mem hk,by simpa using hb⟩
theorem sL{p:List (List UInt8)}(hs:c6 p)(h:p.all (fun q=>decide (df q=0))=true):(∀ q∈p,fH q)/\p.map gh=aG (p.map bD):=by
 rw[List.all_eq_true] at h
 refine⟨fun q hq=>(nC (by simpa using h q hq) (hs.2 q hq)).1,?_⟩
 unfold aG
 rw[List.map_map]
 exact List.map_congr_left fun q hq=>(nC (by simpa using h q hq) (hs.2 q hq)).2
theorem BN{p:List (List UInt8)}(hl:p.length<=41):(decide ((0:Int)<(p.length:Int))=true->decide ((0:Int)<(p.length:Int))=true)/\(decide ((0:Int)<(p.length:Int))=true->decide ((0:Int)<(p.length:Int))=true)/\(decide ((0:Int)<(p.length:Int))=true->decide ((0:Int)<(p.length:Int))=true/\0<=IntKind.i64.wrap ((p.length:Int)-1)/\IntKind.i64.wrap ((p.length:Int)-1)<(p.length:Int))/\(decide ((0:Int)<(p.length:Int))=true->decide ((0:Int)<(p.length:Int))=true):=by
 refine⟨id,id,fun h=> ?_,id⟩
 have h2:=of_decide_eq_true h
 rw[cd (by omega)]
 exact⟨h,by omega,by omega⟩
theorem sM{p:List (List UInt8)}(h:cL p=40): []=aG (bc p)/\40=cL p:=by
 refine⟨?_,h.symm⟩
 unfold bc;rw[if_neg (by rw[h];decide)];rfl
theorem BO{p:List (List UInt8)}(h:41<p.length):cL p=40:=by unfold cL;rw[if_pos h]
theorem oF{p:List (List UInt8)}(hl:p.length<=41)(h:0<p.length):nth .str p (IntKind.i64.wrap ((p.length:Int)-1))=p.getLastD []:=by
 rw[cd (by omega),show (p.length:Int)-1=((p.length-1:Nat):Int) by omega,fD (t:= .str) (by omega)]
 rw[List.getLastD_eq_getLast?,List.getLast?_eq_getElem?,List.getElem?_eq_getElem (by omega)];rfl
theorem BP{p:List (List UInt8)}(hl:p.length<=41)(ha:p.all (fun q=>decide (df q=0))=true)(h:0<(p.length:Int)/\nth .str p (IntKind.i64.wrap ((p.length:Int)-1))= [48]):cL p=40:=by
 rw[oF hl (by omega)] at h
 unfold cL
 rw[if_neg (by omega),if_neg (by rw[ha];decide),if_pos]
 refine⟨fun e=> ?_,h.2⟩
 rw[e] at h;exact absurd h.1 (by decide)
theorem Jc{p:List (List UInt8)}(hs:c6 p)(hl:p.length<=41)(ha:p.all (fun q=>decide (df q=0))=true)(h:0<(p.length:Int)-> ¬nth .str p (IntKind.i64.wrap ((p.length:Int)-1))= [48]):p.map gh=aG (bc p)/\0=cL p:=by
 have hc:cL p=0:=by
  unfold cL
  rw[if_neg (by omega),if_neg (by rw[ha];decide),if_neg]
  intro h2
  have h3:0<p.length:=by cases p with|nil=>exact absurd rfl h2.1|cons=>simp
  exact h (by omega) (by rw[oF hl h3];exact h2.2)
 refine⟨?_,hc.symm⟩
 unfold bc;rw[if_pos hc]
 exact(sL hs ha).2
end Go.Cm
namespace Go.Cm
open Go.Proofs
def bW:List (List (List UInt8))->Int
 | []=>0
 |p::l=>if cL p=0 then bW l else cL p
def gz(l:List (List (List UInt8))):List (List ND):=if bW l=0 then l.map fun p=>aG (bc p) else []
theorem Jd{l:List (List (List UInt8))}(h:∀ p∈l,cL p=0):bW l=0:=by
 induction l with
 |nil=>rfl
 |cons a l ih=>
  unfold bW
  rw[if_pos (h a (by simp))]
  exact ih fun p hp=>h p (by simp[hp])
theorem FW{l:List (List (List UInt8))}{k:Nat}(hk:k<l.length)(h:(l.take k).all (fun p=>decide (cL p=0))=true)(hb: ¬cL l[k]=0):bW l=cL l[k]:=by
 induction l generalizing k with
 |nil=>simp at hk
 |cons a l ih=>
  unfold bW
  cases k with
  |zero=>exact if_neg hb
  |succ k=>
   simp only[List.take_succ_cons,List.all_cons,Bool.and_eq_true,decide_eq_true_eq] at h
   rw[if_pos h.1]
   exact ih (by simpa using hk) h.2 (by simpa using hb)
end Go.Cm
namespace Go.Cm
open Go.Proofs
theorem sN{l:List (List (List UInt8))}{k:Nat}(hl:l.length<=1000)(hk:k<l.length)(g:(l.take k).all (fun p=>decide (cL p=0))=true)(hb:cL (nth (.slice .str) l (k:Int))=0):
  IntKind.i64.wrap ((k:Int)+1)=((k+1:Nat):Int)/\(l.take k).map (fun p=>aG (bc p))++ [aG (bc (nth (.slice .str) l (k:Int)))]=(l.take (k+1)).map (fun p=>aG (bc p))/\k+1<=l.length/\(l.take (k+1)).all (fun p=>decide (cL p=0))=true/\l.length-(k+1)<l.length-k:=by
 have e:nth (.slice .str) l (k:Int)=l[k]:=fD (t:= .slice .str) hk
 rw[e] at hb ⊢
 refine⟨wi (by omega) (by omega),?_,hk,?_,by omega⟩
 ·rw[List.take_succ_eq_append_getElem hk,List.map_append];rfl
 ·rw[List.take_succ_eq_append_getElem hk,List.all_append,g]
  simp[hb]
theorem yG{l:List (List (List UInt8))}{k:Nat}(hk:k<l.length)(g:(l.take k).all (fun p=>decide (cL p=0))=true)(hb: ¬cL (nth (.slice .str) l (k:Int))=0): []=gz l/\cL (nth (.slice .str) l (k:Int))=bW l:=by
 have e:nth (.slice .str) l (k:Int)=l[k]:=fD (t:= .slice .str) hk
 rw[e] at hb ⊢
 have h:=FW hk g hb
 refine⟨?_,h.symm⟩
 unfold gz;rw[if_neg (by rw[h];exact hb)]
theorem Je{l:List (List (List UInt8))}(g:l.all (fun p=>decide (cL p=0))=true):l.map (fun p=>aG (bc p))=gz l/\0=bW l:=by
 have h:bW l=0:=Jd fun p hp=>by
  rw[List.all_eq_true] at g
  simpa using g p hp
 refine⟨?_,h.symm⟩
 unfold gz;rw[if_pos h]
end Go.Cm
namespace Go.Cm
open Go.Proofs
theorem yH{l:List (List (List UInt8))}(hl:l.length<=1000)(hk:0<l.length)(hb:cL (nth (.slice .str) l 0)=0):
  IntKind.i64.wrap (0+1)=((1:Nat):Int)/\ [aG (bc (nth (.slice .str) l 0))]=(l.take 1).map (fun p=>aG (bc p))/\1<=l.length/\(l.take 1).all (fun p=>decide (cL p=0))=true/\l.length-1<l.length+1:=by
 have h:=sN (k:=0) hl hk rfl hb
 exact⟨h.1,h.2.1,hk,h.2.2.2.1,by omega⟩
theorem FX{l:List (List (List UInt8))}(hk:0<l.length)(hb: ¬cL (nth (.slice .str) l 0)=0): []=gz l/\cL (nth (.slice .str) l 0)=bW l:=yG (k:=0) hk rfl hb
theorem FY{l:List (List (List UInt8))}(h: ¬0<l.length): []=gz l/\0=bW l:=by
 cases l with
 |nil=>exact⟨rfl,rfl⟩
 |cons=>simp at h
end Go.Cm
namespace Go.Cm
open Go.Proofs
def cg(l:List Rat):Int:=if 41<l.length then 3 else if du (aG l)=true then 0 else 6
def gA(l:List Rat):List (List UInt8):=if cg l=0 then l.map bp else []
theorem BQ{l:List Rat}(h:41<l.length): []=gA l/\3=cg l:=by
 have e:cg l=3:=by unfold cg;rw[if_pos h]
 exact⟨by unfold gA;rw[if_neg (by rw[e];decide)],e.symm⟩
theorem FZ{l:List Rat}(h: ¬41<l.length)(hf:du (aG l)=false): []=gA l/\6=cg l:=by
 have e:cg l=6:=by unfold cg;rw[if_neg h,if_neg (by rw[hf];decide)]
 exact⟨by unfold gA;rw[if_neg (by rw[e];decide)],e.symm⟩
theorem Jf{l:List Rat}(h: ¬41<l.length)(hf:du (aG l)=true):(if du (aG l)=true then (aG l).map fun x=>bp (bA x) else [])=gA l/\0=cg l:=by
 have e:cg l=0:=by unfold cg;rw[if_neg h,if_pos hf]
 refine⟨?_,e.symm⟩
 unfold gA;rw[if_pos e,if_pos hf,aG,List.map_map]
 exact List.map_congr_left fun x _=>by simp only[Function.comp,aM]
end Go.Cm
namespace Go.Cm
open Go.Proofs
theorem fY{l:List Rat}:∀ x∈aR l,x∈l:=by
 induction l with
 |nil=>intro x hx;exact hx
 |cons a l ih=>
  intro x hx
  unfold aR at hx
  split at hx
  ·split at hx
   ·simp at hx
   ·simp at hx;simp[hx]
  ·rename_i h
   rcases List.mem_cons.1 hx with h2|h2
   ·simp[h2]
   ·exact List.mem_cons_of_mem _ (ih x (by rw[h];exact h2))
theorem F0{p:List ND}(h:Sz QC p/\p.length<=QL)(hl: ¬41<(aR (an p)).length):(aG (aR (an p))).length<QL/\∀ x∈aG (aR (an p)),NOK x/\lq (bA x)<=QC:=by
 refine⟨by rw[aB];unfold QL;omega,?_⟩
 refine eU (k:=QC) fun x hx=> ?_
 obtain⟨y,hy,rfl⟩:=List.mem_map.1 (fY x hx)
 exact(h.1 y hy).2
end Go.Cm
end
section
namespace Go.Cm
open Go.Proofs
def cT(f:List Rat->List Rat->List Rat)(p q:List (List UInt8)):Int:=if bW [p,q]=0 then cg (aR (f (bc p) (bc q))) else bW [p,q]
def cU(f:List Rat->List Rat->List Rat)(p q:List (List UInt8)):List (List UInt8):=if bW [p,q]=0 then gA (aR (f (bc p) (bc q))) else []
def bN(D:List ND->List ND->Prop)(f:List Rat->List Rat->List Rat)(p q:List (List UInt8)):Prop:=
 c6 p/\c6 q/\(bW [p,q]=0->D (aG (bc p)) (aG (bc q))/\Sz QC (aG (f (bc p) (bc q)))/\(f (bc p) (bc q)).length<=QL)
theorem nD{p q:List (List UInt8)}(h:bW [p,q]=0):gz [p,q]= [aG (bc p),aG (bc q)]:=by
 unfold gz;rw[if_pos h];rfl
theorem ic{f:List Rat->List Rat->List Rat}{p q:List (List UInt8)}(h: ¬bW [p,q]=0): []=cU f p q/\bW [p,q]=cT f p q:=by
 unfold cU cT;rw[if_neg h,if_neg h];exact⟨rfl,rfl⟩
theorem jF{f:List Rat->List Rat->List Rat}{p q:List (List UInt8)}(h:bW [p,q]=0):gA (aR (f (bc p) (bc q)))=cU f p q/\cg (aR (f (bc p) (bc q)))=cT f p q:=by
 unfold cU cT;rw[if_pos h,if_pos h];exact⟨rfl,rfl⟩
end Go.Cm
namespace Go.Cm
open Go.Proofs
theorem iH{p q:List (List UInt8)}(h:bW [p,q]=0):nth (.slice NT) (gz [p,q]) 0=aG (bc p):=by rw[nD h];rfl
theorem iI{p q:List (List UInt8)}(h:bW [p,q]=0):nth (.slice NT) (gz [p,q]) 1=aG (bc q):=by rw[nD h];rfl
theorem gj{p q:List (List UInt8)}(h:bW [p,q]=0):(gz [p,q]).length=2:=by rw[nD h];rfl
end Go.Cm
namespace Go.Cm
open Go.Proofs
theorem gk{p q:List (List UInt8)}(hp:c6 p)(hq:c6 q): [p,q].length<=1000/\∀ x∈ [p,q],c6 x:=by
 refine⟨by simp,fun x hx=> ?_⟩
 simp only[List.mem_cons,List.not_mem_nil,or_false] at hx
 rcases hx with rfl|rfl
 ·exact hp
 ·exact hq
end Go.Cm
end
section
namespace Go.Cm
open Go.Proofs
theorem yI(n:Int):∀ c∈Lib.itoa n,c≠47:=by
 obtain⟨d1,_,_,_⟩:=jB n.natAbs
 intro c hc
 unfold Lib.itoa at hc
 split at hc
 ·rcases List.mem_cons.1 hc with h|h
  ·rw[h];decide
  ·have:=d1 c h
   intro hc
   rw[hc] at this
   revert this;decide
 ·have e:n.toNat=n.natAbs:=by omega
  rw[e] at hc
  have:=d1 c hc
  intro hc
  rw[hc] at this
  revert this;decide
theorem Jg{a b:List UInt8}(h:∀ c∈a,c≠47):tN (a++47::b)=a/\cb (a++47::b)=true:=by
 constructor
 ·unfold tN
  induction a with
  |nil=>simp
  |cons c l ih=>
   have:=h c (by simp)
   rw[List.cons_append,List.takeWhile_cons,if_pos (by simpa using this),ih fun d hd=>h d (by simp[hd])]
 ·unfold cb;simp
theorem sO{a:List UInt8}(h:∀ c∈a,c≠47):cb a=false:=by
 unfold cb
 rw[List.any_eq_false]
 intro c hc
 simpa using h c hc
theorem kq(x:Rat):tN (bp x)=Lib.itoa x.num/\tD (bp x)=Lib.itoa (x.den:Int)/\cb (bp x)= !decide (x.den=1):=by
 unfold bp
 by_cases h:x.den=1
 ·rw[if_pos h]
  have hs:=sO (yI x.num)
  refine⟨si hs,?_,by rw[hs,h];rfl⟩
  unfold tD;rw[hs,h,if_neg (by decide)]
  have h0: [49]=Lib.itoa ((1:Nat):Int):=by decide+kernel
  exact h0
 ·rw[if_neg h,List.append_assoc]
  obtain⟨h1,h2⟩:=Jg (b:=Lib.itoa (x.den:Int)) (yI x.num)
  rw[show [47]++Lib.itoa (x.den:Int)=47::Lib.itoa (x.den:Int) from rfl]
  refine⟨h1,?_,by rw[h2];simp[h]⟩
  unfold tD
  rw[if_pos h2]
  unfold tR
  rw[h1,List.drop_append,List.drop_of_length_le (by omega)]
  simp
theorem dN(x:Rat):bD (bp x)=x:=by
 obtain⟨h1,h2,_⟩:=kq x
 unfold bD
 rw[h1,h2,(bb _).2,(bb _).2]
 exact Rat.num_divInt_den x
theorem F1(x:Rat):df (bp x)=sj x:=by
 obtain⟨h1,h2,h3⟩:=kq x
 unfold df
 rw[h1,h2,(bb _).2,(bb _).2,if_neg,if_neg]
 ·unfold sj gi
  by_cases h:dZ x.num<=2000/\dZ (x.den:Int)<=2000
  ·rw[if_neg (by omega),if_pos (decide_eq_true h)]
  ·rw[if_pos (by omega),if_neg (by simpa using h)]
 ·rintro⟨hs,h⟩
  have hg:cA x.num (x.den:Int)=1:=by
   rw[<- kh,Int.gcd_comm]
   have:=x.reduced
   unfold Nat.Coprime at this
   unfold Int.gcd
   rw[Int.natAbs_natCast,this];rfl
  rw[h3] at hs
  have h4: ¬x.den=1:=by simpa using hs
  have:=x.den_pos
  rcases h with h|h
  ·omega
  ·exact h hg
 ·rintro(h|h)
  ·exact(bb x.num).1 h
  ·exact(bb (x.den:Int)).1 h
theorem BR{x:Rat}:sj x=0↔gi x=true:=by
 unfold sj
 split
 ·rename_i h;simp[h]
 ·rename_i h;simp[h]
theorem uC{q:List UInt8}(h:df q=0)(hl:q.length<=QL):bp (bD q)=q/\gi (bD q)=true:=by
 have hr:RQ q:=⟨by rw[h];decide,hl⟩
 obtain⟨p1,p2⟩:=hr.parts
 obtain⟨f1,f2,_⟩:=hr.form
 have hc:=hr.chk
 rw[h] at hc
 constructor
 ·unfold bp
  cases hs:cb q
  ·have e:tD q= [49]:=by unfold tD;rw[hs];rfl
   rw[e,mI] at p2
   rw[if_pos (by omega),p1,si hs]
   rw[si hs] at f1
   exact jf f1
  ·have h5: ¬ao (tD q)<=1:=by
    intro hle
    unfold df at h
    split at h
    ·exact absurd h (by decide)
    ·rw[if_pos ⟨hs, .inl hle⟩] at h;exact absurd h (by decide)
   rw[if_neg (by omega),p1,p2,jf f1,jf f2]
   have h6:=kk hs
   rw[if_pos hs] at h6
   rw[<- h6]
   have hcut:∀ q:List UInt8,cb q=true->tN q++ [47]++tR q=q:=by
    intro q hq
    induction q with
    |nil=>simp[cb] at hq
    |cons c l ih=>
     by_cases hc:c=47
     ·subst hc;simp[tN,tR]
     ·have h2:cb l=true:=by simpa [cb,hc] using hq
      have h3:tN (c::l)=c::tN l:=by simp[tN,hc]
      have h4:tR (c::l)=tR l:=by unfold tR;rw[h3];simp
      rw[h3,h4]
      have:=ih h2
      simpa using this
   exact hcut q hs
 ·unfold gi
  rw[decide_eq_true_eq,p1,p2]
  split at hc
  ·exact absurd hc (by decide)
  ·omega
theorem ie{x:Rat}:bp x= [48]↔x=0:=by
 have h0:bp 0= [48]:=by decide+kernel
 constructor
 ·intro h
  have:=dN x
  rw[h,<- h0,dN] at this
  exact this.symm
 ·rintro rfl;exact h0
def txP(l:List Rat):List (List UInt8):=l.map bp
def jS(l:List Rat):Bool:=l.all gi
theorem nE(l:List Rat):du (aG l)=jS l:=by
 unfold du jS aG
 rw[List.all_map]
 congr 1
 funext x
 simp[aM]
theorem bY(l:List Rat):(txP l).length=l.length:=by simp[txP]
theorem Dd(l:List Rat):(txP l).map bD=l:=by
 unfold txP
 rw[List.map_map]
 conv=>rhs;rw[<- List.map_id l]
 exact List.map_congr_left fun x _=>dN x
theorem yJ{l:List Rat}(h:l≠ []):(txP l).getLastD []=bp (aJ l):=by
 unfold txP aJ
 rw[List.getLastD_eq_getLast?,List.getLastD_eq_getLast?,List.getLast?_map,List.getLast?_eq_some_getLast h];rfl
theorem De(l:List Rat):(txP l).all (fun q=>decide (df q=0))=jS l:=by
 unfold txP jS
 rw[List.all_map]
 congr 1
 funext x
 simp only[Function.comp,F1]
 rw[Bool.eq_iff_iff,decide_eq_true_iff,BR]
theorem Df{l:List Rat}(hl:l.length<=41)(ht:Trm l)(hf:jS l=true):cL (txP l)=0/\bc (txP l)=l:=by
 have hc:cL (txP l)=0:=by
  unfold cL
  rw[if_neg (by rw[bY];omega),if_neg (by rw[De,hf];decide),if_neg]
  rintro⟨h1,h2⟩
  have hn:l≠ []:=fun e=>h1 (by rw[e];rfl)
  rw[yJ hn,ie] at h2
  exact ht hn h2
 refine⟨hc,?_⟩
 unfold bc
 rw[if_pos hc,Dd]
theorem Lu{p:List (List UInt8)}(hs:c6 p)(h:cL p=0):txP (bc p)=p/\(bc p).length<=41/\Trm (bc p)/\jS (bc p)=true:=by
 unfold cL at h
 split at h
 ·exact absurd h (by decide)
 rename_i h1
 split at h
 ·exact absurd h (by decide)
 rename_i h2
 split at h
 ·exact absurd h (by decide)
 rename_i h3
 have h2:p.all (fun q=>decide (df q=0))=true:=by simpa using h2
 have hn:bc p=p.map bD:=by
  unfold bc
  rw[if_pos]
  unfold cL
  rw[if_neg h1,if_neg (by rw[h2];decide),if_neg h3]
 have ht:txP (p.map bD)=p:=by
  unfold txP
  rw[List.map_map]
  conv=>rhs;rw[<- List.map_id p]
  rw[List.all_eq_true] at h2
  exact List.map_congr_left fun q hq=>(uC (by simpa using h2 q hq) (hs.2 q hq)).1
 rw[hn]
 refine⟨ht,by rw[List.length_map];omega,fun hne hl=>h3 ⟨fun e=>hne (by rw[e];rfl),?_⟩,?_⟩
 ·rw[<- ht,yJ hne,ie];exact hl
 ·rw[<- De,ht,h2]
theorem Dg{n:Int}{k:Nat}(h:lw n<=k)(hk:9*k+1<=2000):dZ n<=2000:=by
 have h1:=Jb h
 rw[KZ] at h1
 have h0:=oz n
 rw[dL]
 have h2:n.natAbs<10^(9*k):=by
  have:=rS n h
  rw[KZ] at this
  omega
 have:=vU h2
 omega
theorem Dh{x:Rat}(h:lq x<=222):gi x=true:=by
 have:=dP x;have:=dA x
 exact decide_eq_true ⟨Dg (k:=222) (by omega) (by omega),Dg (k:=222) (by omega) (by omega)⟩
theorem Jh{l:List Rat}{b:Nat}(h:Den b l)(hb:b<=222):jS l=true:=by
 unfold jS
 rw[List.all_eq_true]
 exact fun x hx=>Dh (Nat.le_trans (h.lq x hx) hb)
theorem Ji{l:List Rat}(h:∀ x∈l,lq x<=222):jS l=true:=by
 unfold jS
 rw[List.all_eq_true]
 exact fun x hx=>Dh (h x hx)
structure Pol (l:List Rat):Prop where
 len:l.length<=41
 trm:Trm l
 fit:jS l=true
theorem Pol.chk{l:List Rat}(h:Pol l):cL (txP l)=0:=(Df h.len h.trm h.fit).1
theorem Pol.num{l:List Rat}(h:Pol l):bc (txP l)=l:=(Df h.len h.trm h.fit).2
theorem uD{x:Rat}{k:Nat}(h:lq x<=k):(bp x).length<=18*k+5:=by
 have h1:=fC x.num
 have h2:=fC (x.den:Int)
 have:=dP x;have:=dA x
 unfold bp
 split
 ·omega
 ·simp only[List.length_append,List.length_cons,List.length_nil];omega
theorem Jj{n:Int}{K:Nat}(hn:((Lib.decDigits n.natAbs).length:Int)<=(K:Int)):lw n<=K:=by
 refine lE ?_
 obtain⟨d1,d2,_,_⟩:=jB n.natAbs
 have h2:=gg d1
 rw[d2] at h2
 have h3:(10:Nat)^(Lib.decDigits n.natAbs).length<=10^K:=Nat.pow_le_pow_right (by omega) (by omega)
 have h4:(10:Nat)^K<=1000000000^K:=Nat.pow_le_pow_left (by omega) _
 have h5:(LB^K:Int)=((1000000000^K:Nat):Int):=by rw[Int.natCast_pow];rfl
 rw[h5]
 exact_mod_cast Nat.lt_of_lt_of_le h2 (Nat.le_trans h3 h4)
theorem Di{x:Rat}(h:gi x=true):lq x<=2000:=by
 unfold gi at h
 rw[decide_eq_true_eq,dL,dL] at h
 exact Nat.max_le.2 ⟨Jj h.1,Jj h.2⟩
theorem Pol.lq{l:List Rat}(h:Pol l):∀ x∈l,lq x<=2000:=by
 have:=h.fit
 unfold jS at this
 rw[List.all_eq_true] at this
 exact fun x hx=>Di (this x hx)
theorem Pol.short{l:List Rat}(h:Pol l):c6 (txP l):=by
 have e:QL=1000000000:=rfl
 refine⟨by rw[bY];have:=h.len;omega,fun q hq=> ?_⟩
 obtain⟨x,hx,rfl⟩:=List.mem_map.1 hq
 have:=uD (h.lq x hx)
 omega
theorem jG:Pol []:=⟨by simp,Db,rfl⟩
theorem kS{l m:List Rat}(hl:Pol l)(hm:Pol m):bW [txP l,txP m]=0:=by
 simp only[bW,hl.chk,hm.chk,if_true]
theorem sP{f:List Rat->List Rat->List Rat}{l m:List Rat}(hl:Pol l)(hm:Pol m){r:List Rat}(hr:aR (f l m)=r)(hp:Pol r):cU f (txP l) (txP m)=txP r/\cT f (txP l) (txP m)=0:=by
 have he:cg r=0:=by
  unfold cg
  rw[if_neg (by have:=hp.len;omega),if_pos (by rw[nE];exact hp.fit)]
 unfold cU cT
 rw[if_pos (kS hl hm),if_pos (kS hl hm),hl.num,hm.num,hr]
 unfold gA
 rw[if_pos he]
 exact⟨rfl,he⟩
theorem ig{D:List ND->List ND->Prop}{f:List Rat->List Rat->List Rat}{l m:List Rat}(hl:Pol l)(hm:Pol m)(hD:D (aG l) (aG m))(hs:∀ x∈f l m,Cm.lq x<=QC)(hn:(f l m).length<=QL):bN D f (txP l) (txP m):=by
 refine⟨hl.short,hm.short,fun _=> ?_⟩
 rw[hl.num,hm.num]
 exact⟨hD,eU hs,hn⟩
theorem Pol.enc_ok{l:List Rat}{k:Nat}(h:Pol l)(hk:2000<=k):Sz k (aG l):=eU fun x hx=>Nat.le_trans (h.lq x hx) hk
theorem Dj{l m:List Rat}(hl:Pol l)(hm:Pol m):bN (fun p q=>Sz QH p/\Sz QH q/\p.length<=1000/\q.length<=1000) (bH (· + ·)) (txP l) (txP m):=by
 have e1:QH=40000000000:=rfl
 have e2:QL=1000000000:=rfl
 have h1:=hl.len;have h2:=hm.len
 have hs1:=hl.enc_ok (k:=QH) (by omega)
 have hs2:=hm.enc_ok (k:=QH) (by omega)
 refine ig hl hm ⟨hs1,hs2,by rw[aB];omega,by rw[aB];omega⟩ ?_ (by have:=fc (· + ·) l m;omega)
 intro x hx
 have h3:=vZ yr hs1 hs2 (max l.length m.length)
 rw[aI,aI] at h3
 have h4:=fY x hx
 have h5:=(h3 (bk x) (List.mem_map.2 ⟨x,h4,rfl⟩)).2
 rwa [aM] at h5
theorem Lv{l m:List Rat}(hl:Pol l)(hm:Pol m):bN (fun p q=>Sz QH p/\Sz QH q/\p.length<=1000/\q.length<=1000) (bH (· - ·)) (txP l) (txP m):=by
 have e1:QH=40000000000:=rfl
 have e2:QL=1000000000:=rfl
 have h1:=hl.len;have h2:=hm.len
 have hs1:=hl.enc_ok (k:=QH) (by omega)
 have hs2:=hm.enc_ok (k:=QH) (by omega)
 refine ig hl hm ⟨hs1,hs2,by rw[aB];omega,by rw[aB];omega⟩ ?_ (by have:=fc (· - ·) l m;omega)
 intro x hx
 have h3:=vZ yt hs1 hs2 (max l.length m.length)
 rw[aI,aI] at h3
 have h4:=fY x hx
 have h5:=(h3 (bk x) (List.mem_map.2 ⟨x,h4,rfl⟩)).2
 rwa [aM] at h5
theorem wo{l m:List Rat}(hl:Pol l)(hm:Pol m):bN (fun p q=>Sz QM p/\Sz QM q/\p.length<=100/\q.length<=100) cE (txP l) (txP m):=by
 have e1:QM=400000000:=rfl
 have e2:QL=1000000000:=rfl
 have e3:QC=100000000000:=rfl
 have h1:=hl.len;have h2:=hm.len
 refine ig hl hm ⟨hl.enc_ok (by omega),hm.enc_ok (by omega),by rw[aB];omega,by rw[aB];omega⟩ ?_ (by have:=sG l m;omega)
 intro x hx
 unfold cE at hx
 split at hx
 ·simp at hx
 ·have h3:=IM (K:=2000) (fun n=>jQ hl.lq (by omega) n) (fun n=>jQ hm.lq (by omega) n) l.length (Nat.le_refl _) x hx
  have h4:l.length*(2*2000+1)<=41*(2*2000+1):=Nat.mul_le_mul_right _ h1
  omega
def dvE(p q:List (List UInt8)):Int:=
 if bW [p,q]=0 then
  if bc q= [] then 2
  else if cg (aR (divN (bc p) (bc q)).1)=0 then cg (aR (divN (bc p) (bc q)).2) else cg (aR (divN (bc p) (bc q)).1)
 else bW [p,q]
def dvS(p q:List (List UInt8)):List (List UInt8):=if dvE p q=0 then gA (aR (divN (bc p) (bc q)).1) else []
def dvR(p q:List (List UInt8)):List (List UInt8):=if dvE p q=0 then gA (aR (divN (bc p) (bc q)).2) else []
structure l8 (p q:List (List UInt8)):Prop where
 sp:c6 p
 sq:c6 q
 ok:bW [p,q]=0->bc q≠ []->fa (aG (bc p)) (aG (bc q))/\(Sz QC (aG (divN (bc p) (bc q)).1)/\(aG (divN (bc p) (bc q)).1).length<=QL)/\(Sz QC (aG (divN (bc p) (bc q)).2)/\(aG (divN (bc p) (bc q)).2).length<=QL)
theorem Jk{p q:List (List UInt8)}(h: ¬bW [p,q]=0): []=dvS p q/\ []=dvR p q/\bW [p,q]=dvE p q:=by
 have e:dvE p q=bW [p,q]:=if_neg h
 refine⟨?_,?_,e.symm⟩
 ·unfold dvS;rw[if_neg (by rw[e];exact h)]
 ·unfold dvR;rw[if_neg (by rw[e];exact h)]
theorem Jl{p q:List (List UInt8)}(h:bW [p,q]=0)(h2:(aG (bc q)).length=0): []=dvS p q/\ []=dvR p q/\2=dvE p q:=by
 have hq:bc q= []:=by rw[aB] at h2;exact List.eq_nil_of_length_eq_zero h2
 have e:dvE p q=2:=by unfold dvE;rw[if_pos h,if_pos hq]
 refine⟨?_,?_,e.symm⟩
 ·unfold dvS;rw[if_neg (by rw[e];decide)]
 ·unfold dvR;rw[if_neg (by rw[e];decide)]
theorem Lw{q:List (List UInt8)}(h2: ¬ (aG (bc q)).length=0):bc q≠ []:=by
 intro h;rw[h] at h2;exact h2 rfl
theorem Lx{p q:List (List UInt8)}(h:bW [p,q]=0)(h2:bc q≠ [])(h3: ¬cg (aR (divN (bc p) (bc q)).1)=0): []=dvS p q/\ []=dvR p q/\cg (aR (divN (bc p) (bc q)).1)=dvE p q:=by
 have e:dvE p q=cg (aR (divN (bc p) (bc q)).1):=by unfold dvE;rw[if_pos h,if_neg h2,if_neg h3]
 refine⟨?_,?_,e.symm⟩
 ·unfold dvS;rw[if_neg (by rw[e];exact h3)]
 ·unfold dvR;rw[if_neg (by rw[e];exact h3)]
theorem Jm{p q:List (List UInt8)}(h:bW [p,q]=0)(h2:bc q≠ [])(h3:cg (aR (divN (bc p) (bc q)).1)=0):dvE p q=cg (aR (divN (bc p) (bc q)).2):=by
 unfold dvE;rw[if_pos h,if_neg h2,if_pos h3]
theorem Ly{p q:List (List UInt8)}(h:bW [p,q]=0)(h2:bc q≠ [])(h3:cg (aR (divN (bc p) (bc q)).1)=0)(h4: ¬cg (aR (divN (bc p) (bc q)).2)=0): []=dvS p q/\ []=dvR p q/\cg (aR (divN (bc p) (bc q)).2)=dvE p q:=by
 have e:=Jm h h2 h3
 refine⟨?_,?_,e.symm⟩
 ·unfold dvS;rw[if_neg (by rw[e];exact h4)]
 ·unfold dvR;rw[if_neg (by rw[e];exact h4)]
theorem Lz{p q:List (List UInt8)}(h:bW [p,q]=0)(h2:bc q≠ [])(h3:cg (aR (divN (bc p) (bc q)).1)=0)(h4:cg (aR (divN (bc p) (bc q)).2)=0):
  gA (aR (divN (bc p) (bc q)).1)=dvS p q/\gA (aR (divN (bc p) (bc q)).2)=dvR p q/\0=dvE p q:=by
 have e:=Jm h h2 h3
 rw[h4] at e
 refine⟨?_,?_,e.symm⟩
 ·unfold dvS;rw[if_pos e]
 ·unfold dvR;rw[if_pos e]
def mN(p q:List (List UInt8)):Prop:=cL p=0/\cL q=0/\0<p.length/\0<q.length/\40<(p.length-1)*(q.length-1)
instance (p q:List (List UInt8)):Decidable (mN p q):=by unfold mN;infer_instance
def uE(p q:List (List UInt8)):Int:=if mN p q then 3 else cT jR p q
def uF(p q:List (List UInt8)):List (List UInt8):=if mN p q then [] else cU jR p q
structure wq (p q:List (List UInt8)):Prop where
 sp:c6 p
 sq:c6 q
 ok: ¬mN p q->bN wg jR p q
theorem F2{p q:List (List UInt8)}(hp:cL p=0)(hq:cL q=0)(h1:0<p.length)(h2:0<q.length):IntKind.i64.wrap (IntKind.i64.wrap ((p.length:Int)-1)*IntKind.i64.wrap ((q.length:Int)-1))=(((p.length-1)*(q.length-1):Nat):Int):=by
 have k1:p.length<=41:=by
  unfold cL at hp;split at hp
  ·exact absurd hp (by decide)
  ·omega
 have k2:q.length<=41:=by
  unfold cL at hq;split at hq
  ·exact absurd hq (by decide)
  ·omega
 rw[cd (by omega),cd (by omega)]
 have e1:(p.length:Int)-1=((p.length-1:Nat):Int):=by omega
 have e2:(q.length:Int)-1=((q.length-1:Nat):Int):=by omega
 rw[e1,e2,<- Int.natCast_mul]
 have h3:(p.length-1)*(q.length-1)<=40*40:=Nat.mul_le_mul (by omega) (by omega)
 generalize (p.length-1)*(q.length-1)=n at*
 exact wi (by omega) (by omega)
theorem Jn{p q:List (List UInt8)}{b:Bool}(h:(cL p==0&&cL q==0&&decide ((0:Int)<(p.length:Int))&&decide ((0:Int)<(q.length:Int))&&decide ((40:Int)<IntKind.i64.wrap (IntKind.i64.wrap ((p.length:Int)-1)*IntKind.i64.wrap ((q.length:Int)-1))))=b):decide (mN p q)=b:=by
 rw[<- h]
 clear h
 unfold mN
 by_cases h1:cL p=0
 ·by_cases h2:cL q=0
  ·by_cases h3:0<p.length
   ·by_cases h4:0<q.length
    ·rw[F2 h1 h2 h3 h4,Bool.eq_iff_iff]
     simp only[h1,h2,h3,h4,true_and,decide_eq_true_eq,Bool.and_eq_true,beq_self_eq_true]
     generalize (p.length-1)*(q.length-1)=n
     omega
    ·have: ¬ (0:Int)<(q.length:Int):=by omega
     simp[h4]
   ·have: ¬ (0:Int)<(p.length:Int):=by omega
    simp[h3]
  ·simp[h2]
 ·simp[h1]
theorem M4{p q:List (List UInt8)}(h:mN p q): []=uF p q/\3=uE p q:=by
 unfold uF uE;rw[if_pos h,if_pos h];exact⟨rfl,rfl⟩
theorem M5{p q:List (List UInt8)}(h: ¬mN p q):cU jR p q=uF p q/\cT jR p q=uE p q:=by
 unfold uF uE;rw[if_neg h,if_neg h];exact⟨rfl,rfl⟩
def evE(p:List (List UInt8))(x:List UInt8):Int:=if bW [p]=0 then if df x=0 then sj (aQ (bc p) (bD x)) else df x else bW [p]
def evS(p:List (List UInt8))(x:List UInt8):List UInt8:=if evE p x=0 then bp (aQ (bc p) (bD x)) else []
structure Jo (p:List (List UInt8)) (x:List UInt8):Prop where
 sp:c6 p
 sx:x.length<=QL
 ok:bW [p]=0->df x=0->Sz QM (aG (bc p))/\(bc p).length<=100/\lq (bD x)<=QM/\lq (aQ (bc p) (bD x))<=QC
theorem Jp{p:List (List UInt8)}(h:bW [p]=0):gz [p]= [aG (bc p)]:=by
 unfold gz;rw[if_pos h];rfl
theorem NL{p:List (List UInt8)}(h:bW [p]=0):nth (.slice NT) (gz [p]) 0=aG (bc p):=by rw[Jp h];rfl
theorem M6{p:List (List UInt8)}(h:bW [p]=0):(gz [p]).length=1:=by rw[Jp h];rfl
theorem Jq{p:List (List UInt8)}{x:List UInt8}(h:Jo p x): [p].length<=1000/\∀ y∈ [p],c6 y:=
 ⟨by simp,fun y hy=>by rw[List.mem_singleton] at hy;subst hy;exact h.sp⟩
theorem M7{p:List (List UInt8)}{x:List UInt8}(h: ¬bW [p]=0): []=evS p x/\bW [p]=evE p x:=by
 have e:evE p x=bW [p]:=if_neg h
 exact⟨by unfold evS;rw[if_neg (by rw[e];exact h)],e.symm⟩
theorem LA{p:List (List UInt8)}{x:List UInt8}(h:bW [p]=0)(h2: ¬df x=0): []=evS p x/\df x=evE p x:=by
 have e:evE p x=df x:=by unfold evE;rw[if_pos h,if_neg h2]
 exact⟨by unfold evS;rw[if_neg (by rw[e];exact h2)],e.symm⟩
theorem M8{p:List (List UInt8)}{x:List UInt8}(h:bW [p]=0)(h2:df x=0)(h3:gi (aQ (bc p) (bD x))=false): []=evS p x/\6=evE p x:=by
 have e:evE p x=6:=by unfold evE;rw[if_pos h,if_pos h2];unfold sj;rw[h3];rfl
 exact⟨by unfold evS;rw[if_neg (by rw[e];decide)],e.symm⟩
theorem LC{p:List (List UInt8)}{x:List UInt8}(h:bW [p]=0)(h2:df x=0)(h3:gi (aQ (bc p) (bD x))=true):bp (aQ (bc p) (bD x))=evS p x/\0=evE p x:=by
 have e:evE p x=0:=by unfold evE;rw[if_pos h,if_pos h2];unfold sj;rw[h3];rfl
 exact⟨by unfold evS;rw[if_pos e],e.symm⟩
theorem Jr{p:List Rat}{x:Rat}{y:List UInt8}(c1:fH y)(k1:Sz QM (aG p))(k2:p.length<=100)(k3:lq x<=QM)(k4:lq (aQ p x)<=QC):
  ((0:Int)<=0/\(0:Int)<((1:Nat):Int))/\fH y/\(Sz QM (aG p)/\(aG p).length<=100/\NOK (bk x)/\lq x<=QM)/\1<QL/\∀ z:ND,z∈ [bk (aQ p x)]->NOK z/\lq (bA z)<=QC:=by
 refine⟨by decide,c1,⟨k1,by rw[aB];exact k2,bV _,k3⟩,by unfold QL;decide,fun z hz=> ?_⟩
 rw[List.mem_singleton] at hz
 subst hz
 rw[aM]
 exact⟨bV _,k4⟩
theorem F3{x:Rat}(h:du [bk x]=true)(y:List UInt8):(0:Int)<=0/\(0:Int)<((if du [bk x]=true then [y] else []).length:Int):=by
 rw[if_pos h];simp
theorem LD{p:List (List UInt8)}{x:List UInt8}(h:bW [p]=0)(h2:df x=0)(h3:gi (aQ (bc p) (bD x))=true):nth Ty.str (if gi (aQ (bc p) (bD x))=true then [bp (aQ (bc p) (bD x))] else []) 0=evS p x/\0=evE p x:=by
 rw[if_pos h3];exact LC h h2 h3
theorem yK(q:Rat):du [bk q]=gi q:=by unfold du;simp[aM]
structure Sml (n b:Nat) (l:List Rat):Prop where
 len:l.length<=n
 trm:Trm l
 den:Den b l
theorem Sml.pol{n b:Nat}{l:List Rat}(h:Sml n b l)(hn:n<=41)(hb:b<=222):Pol l:=⟨Nat.le_trans h.len hn,h.trm,Jh h.den hb⟩
theorem Sml.mul{n m k b c:Nat}{l l2:List Rat}(h:Sml n b l)(h2:Sml m c l2)(hn:n<1000)(hk:n+m<=k+1)(hm:1<=m)(hn1:1<=n):Sml k (b+c+1) (cE l l2):=by
 refine⟨?_,mL h.trm h2.trm,den_mul h.den h2.den (by have:=h.len;omega)⟩
 by_cases h3:l= []
 ·rw[h3,fX];simp
 by_cases h4:l2= []
 ·rw[h4,l7];simp
 rw[kn h3 h4]
 have:=h.len;have:=h2.len
 omega
theorem Sml.add{n m b c:Nat}{l l2:List Rat}(h:Sml n b l)(h2:Sml m c l2):Sml (max n m) (b+c+1) (bH (· + ·) l l2):=
 ⟨by have:=fc (· + ·) l l2;have:=h.len;have:=h2.len;omega,eD _ _ _,den_add h.den h2.den⟩
theorem Sml.sub{n m b c:Nat}{l l2:List Rat}(h:Sml n b l)(h2:Sml m c l2):Sml (max n m) (b+c+1) (bH (· - ·) l l2):=
 ⟨by have:=fc (· - ·) l l2;have:=h.len;have:=h2.len;omega,eD _ _ _,Lt h.den h2.den⟩
theorem Dk{n b m c:Nat}{p q:List Rat}(hp:Sml n b p)(hq:Sml m c q)(hn:n<=41)(hm:m<=41)(hb:b<=200)(hc:c<=200)(h0:q≠ []){s r:List Rat}(ps:Pol s)(pr:Pol r)(hl:r.length<q.length)
  (h:∀ x,aQ s x*aQ q x+aQ r x=aQ p x):l8 (txP p) (txP q)/\dvE (txP p) (txP q)=0/\dvS (txP p) (txP q)=txP s/\dvR (txP p) (txP q)=txP r:=by
 have e1:QD=10000000000:=rfl
 have e2:QC=100000000000:=rfl
 have e3:QL=1000000000:=rfl
 have pp:=hp.pol hn (by omega)
 have pq:=hq.pol hm (by omega)
 have hlp:=hp.len
 have hlq:=hq.len
 have hbd:b+(p.length+1-q.length)*(c+1)<=10000:=by
  have:(p.length+1-q.length)*(c+1)<=42*201:=Nat.mul_le_mul (by omega) (by omega)
  omega
 obtain⟨u1,u2⟩:=yC h0 hp.trm hq.trm ps.trm pr.trm hl h
 obtain⟨k1,k2⟩:=mM (K:=10000) hp.den hq.den h0 hq.trm hbd (by omega)
 have hok:fa (aG p) (aG q):=BL (b:=b) (c:=c) (gI _) (gI _) (by rw[aI];exact hp.den) (by rw[aI];exact hq.den) (by rw[aB];omega) (by rw[aB];omega)
  (by rw[aB];exact List.length_pos_iff.2 h0) (by rw[aI];exact hq.trm) (by rw[aB,aB];omega) (by omega)
 have t1:cg s=0:=by unfold cg;rw[if_neg (by have:=ps.len;omega),if_pos (by rw[nE];exact ps.fit)]
 have t2:cg r=0:=by unfold cg;rw[if_neg (by have:=pr.len;omega),if_pos (by rw[nE];exact pr.fit)]
 have hrt:aR (divN p q).2=r:=by rw[u2,kR pr.trm]
 have hc2:=kS pp pq
 have hE:dvE (txP p) (txP q)=0:=by
  unfold dvE
  rw[if_pos hc2,pp.num,pq.num,if_neg h0,u1,hrt,if_pos t1,t2]
 refine⟨⟨pp.short,pq.short,fun _ _=> ?_⟩,hE,?_,?_⟩
 ·rw[pp.num,pq.num]
  refine⟨hok,⟨eU fun x hx=> ?_,?_⟩,k2.sz (by omega),?_⟩
  ·have:=k1 x hx;omega
  ·rw[aB,gT];omega
  ·rw[aB,u2];have:=pr.len;omega
 ·unfold dvS
  rw[if_pos hE,pp.num,pq.num,u1];unfold gA;rw[if_pos t1];rfl
 ·unfold dvR
  rw[if_pos hE,pp.num,pq.num,hrt];unfold gA;rw[if_pos t2];rfl
theorem Sml.div{n b m c k:Nat}{p q:List Rat}(hp:Sml n b p)(hq:Sml m c q)(h0:q≠ [])(hk:b+(n+1)*(c+1)<=k):(∀ x∈(divN p q).1,lq x<=k)/\Sml m k (divN p q).2/\(divN p q).2.length<q.length:=by
 have hlp:=hp.len
 have hbd:b+(p.length+1-q.length)*(c+1)<=k:=by
  have:(p.length+1-q.length)*(c+1)<=(n+1)*(c+1):=Nat.mul_le_mul (by omega) (Nat.le_refl _)
  omega
 obtain⟨k1,k2⟩:=mM (K:=k) hp.den hq.den h0 hq.trm hbd (by have:=hp.den.pos;omega)
 have hs:=ev (p:=p) (List.length_pos_iff.2 h0) (hq.trm h0)
 exact⟨k1,⟨by have:=hq.len;omega,fV hp.trm,k2⟩,hs⟩
theorem yL{p:List Rat}(hp:Pol p):l8 (txP p) []/\dvE (txP p) []=2/\dvS (txP p) []= []/\dvR (txP p) []= []:=by
 have hc:=kS hp jG
 have e:dvE (txP p) (txP [])=2:=by unfold dvE;rw[if_pos hc,jG.num,if_pos rfl]
 refine⟨⟨hp.short,jG.short,fun _ h=>absurd jG.num h⟩,e,?_,?_⟩
 ·show dvS (txP p) (txP [])= []
  unfold dvS;rw[if_neg (by rw[e];decide)]
 ·show dvR (txP p) (txP [])= []
  unfold dvR;rw[if_neg (by rw[e];decide)]
theorem oG{p q:List Rat}(hp:Sml 9 9 p)(hq:Sml 9 9 q)(h0:q≠ []):∃ s r m,Pol s/\Pol r/\Pol m/\r.length<q.length/\
  (l8 (txP p) (txP q)/\dvE (txP p) (txP q)=0/\dvS (txP p) (txP q)=txP s/\dvR (txP p) (txP q)=txP r)/\
  (cU cE (txP q) (txP s)=txP m/\cT cE (txP q) (txP s)=0)/\(cU cE (txP p) (txP q)=txP (cE p q)/\cT cE (txP p) (txP q)=0)/\Pol (cE p q)/\
  (cU (bH (· + ·)) (txP m) (txP r)=txP p/\cT (bH (· + ·)) (txP m) (txP r)=0)/\
  (l8 (txP (cE p q)) (txP q)/\dvE (txP (cE p q)) (txP q)=0/\dvS (txP (cE p q)) (txP q)=txP p/\dvR (txP (cE p q)) (txP q)= []):=by
 obtain⟨k1,k2,k3⟩:=Sml.div hp hq h0 (k:=109) (by decide)
 have pp:=hp.pol (by decide) (by decide)
 have pq:=hq.pol (by decide) (by decide)
 have hlp:=hp.len
 have ps:Pol (aR (divN p q).1):=⟨by have:=dM (divN p q).1;rw[gT] at this;omega,ib _,Ji fun x hx=>by have:=k1 x (fY x hx);omega⟩
 have pr:Pol (divN p q).2:=k2.pol (by decide) (by decide)
 have hev:∀ x,aQ (aR (divN p q).1) x*aQ q x+aQ (divN p q).2 x=aQ p x:=fun x=>by rw[iG];exact wk h0 hq.trm x
 have hm:cE q (aR (divN p q).1)=bH (· - ·) p (divN p q).2:=l6 (mL hq.trm ps.trm) (eD _ _ _) fun x=>by
  rw[nB,sI];have:=hev x;grind
 have pm:Pol (cE q (aR (divN p q).1)):=by rw[hm];exact(hp.sub k2).pol (by decide) (by decide)
 have st:Sml 17 19 (cE p q):=hp.mul hq (by decide) (by decide) (by decide) (by decide)
 have pt:=st.pol (by decide) (by decide)
 refine⟨_,_,_,ps,pr,pm,k3,Dk hp hq (by decide) (by decide) (by decide) (by decide) h0 ps pr k3 hev,sP pq ps (kR pm.trm) pm,sP pp pq (kR pt.trm) pt,pt,sP pm pr ?_ pp,
  Dk st hq (by decide) (by decide) (by decide) (by decide) h0 pp jG (by simpa using List.length_pos_iff.2 h0) fun x=>by rw[nB,fW];grind⟩
 rw[kR (eD _ _ _)]
 exact l6 (eD _ _ _) hp.trm fun x=>by rw[BI,nB];have:=hev x;grind
theorem Js{p q:List Rat}(hp:Sml 9 9 p)(hq:Sml 9 9 q):l8 (txP p) (txP q):=by
 by_cases h:q= []
 ·subst h;exact(yL (hp.pol (by decide) (by decide))).1
 ·obtain⟨s,r,m,_,_,_,_,h2,_⟩:=oG hp hq h
  exact h2.1
theorem Jt{q:List Rat}:(((txP q).length:Nat):Int)=0↔q= []:=by
 rw[bY]
 constructor
 ·intro h;exact List.eq_nil_of_length_eq_zero (by omega)
 ·intro h;rw[h];rfl
theorem M9{l:List Rat}(h:Pol l):(txP l).length<=QL:=by
 rw[bY];have:=h.len;unfold QL;omega
theorem wt{K:Nat}(hK:1<=K):∀ l:List Rat,(∀ x∈l,lq x<=K)->Den (l.length*K+1) l
 | [],_=>o4 (by omega)
 |a::l,h=>by
  obtain⟨D,d1,d2,d3⟩:=wt hK l fun x hx=>h x (List.mem_cons_of_mem _ hx)
  have ha:=h a (List.mem_cons_self ..)
  have h1:=dP a;have h2:=dA a
  have e:(a::l).length*K+1=l.length*K+1+K:=by rw[List.length_cons,Nat.add_mul];omega
  refine⟨D*a.den,Int.mul_ne_zero d1 (eH a),by rw[e];have:=b5 D a.den;omega,fun i=> ?_⟩
  cases i with
  |zero=>
   refine⟨a.num*D,by rw[e];have:=b5 a.num D;omega,?_⟩
   have e1:cf (a::l) 0=a:=by simp[cf]
   rw[e1,Int.mul_comm D,Rat.divInt_mul_right d1]
   exact(Rat.num_divInt_den a).symm
  |succ i=>
   obtain⟨n,n1,n2⟩:=d3 i
   refine⟨n*a.den,by rw[e];have:=b5 n a.den;omega,?_⟩
   have e1:cf (a::l) (i+1)=cf l i:=by simp[cf]
   rw[e1,n2,Rat.divInt_mul_right (eH a)]
theorem Na{l:List Rat}{n K:Nat}(hn:l.length<=n)(ht:Trm l)(hK:1<=K)(h:∀ x∈l,lq x<=K):Sml n (n*K+1) l:=
 ⟨hn,ht,(wt hK l h).mono (by have:=Nat.mul_le_mul_right K hn;omega)⟩
theorem Dl{n b m c:Nat}{l q:List Rat}(hl:Sml n b l)(hq:Sml m c q)(pl:Pol l)(pq:Pol q)(hb:(max b c+1)*(n+2)*3^m<=QD):bN iF cx (txP l) (txP q)/\iF (aG l) (aG q)/\Den ((max b c+1)*(n+2)*3^m) (cx l q):=by
 have e1:QD=10000000000:=rfl
 have e2:QC=100000000000:=rfl
 have e3:QL=1000000000:=rfl
 have hll:=hl.len;have hlq:=hq.len
 have pl1:=pl.len;have pq1:=pq.len
 have hbd:(max b c+1)*(l.length+1-q.length+1)*3^q.length<=QD:=by
  refine Nat.le_trans (Nat.mul_le_mul (Nat.mul_le_mul (Nat.le_refl _) (by omega:_<=n+2)) (Nat.pow_le_pow_right (by omega) hlq)) hb
 obtain⟨g1,g2⟩:=M3 (p:=aG l) (q:=aG q) (b:=max b c) (gI _) (gI _) (by rw[aI];exact hl.den.mono (by omega)) (by rw[aI];exact hq.den.mono (by omega)) (by rw[aB];omega) (by rw[aB];omega) (by rw[aI];exact hl.trm) (by rw[aI];exact hq.trm) (by rw[aB,aB];exact hbd)
 rw[aI,aI,aB,aB] at g2
 have g2:=g2.mono (Nat.le_refl _)
 refine⟨ig pl pq g1 (fun x hx=>by have:=g2.lq x hx;omega) ?_,g1,g2.mono (Nat.mul_le_mul (Nat.mul_le_mul (Nat.le_refl _) (by omega:_<=n+2)) (Nat.pow_le_pow_right (by omega) hlq))⟩
 have key:∀ (k:Nat) (a b:List Rat),a.length<=900->b.length<=900->Trm b->(dW k a b).length<=900:=by
  intro k
  induction k with
  |zero=>intro a b ha _ _;rw[dW,b6];exact ha
  |succ k ih=>
   intro a b ha hb tb
   rw[dW]
   split
   ·rw[b6];exact ha
   ·rename_i hne
    by_cases hta:Trm a
    ·have:=ev (p:=a) (List.length_pos_iff.2 hne) (tb hne)
     exact ih _ _ hb (by rw[b6];omega) (gS (fV hta))
    ·have h3:=ev (p:=a) (List.length_pos_iff.2 hne) (tb hne)

     have:∀ (k:Nat) (a b:List Rat),a.length<=900->b.length<=900->(dW k a b).length<=900:=by
      intro k
      induction k with
      |zero=>intro a b ha _;rw[dW,b6];exact ha
      |succ k ih2=>
       intro a b ha hb
       rw[dW]
       split
       ·rw[b6];exact ha
       ·refine ih2 _ _ hb ?_
        rw[b6]
        have hlen:∀ (q:List Rat) (n:Nat) (r s:List Rat),(eF q n r s).2.length<=r.length:=by
         intro q n
         induction n with
         |zero=>intro r s;exact Nat.le_refl _
         |succ n ih3=>
          intro r s
          rw[eF]
          split
          ·have h5:=ih3 (aR (cp q r)) (s.set (r.length-q.length) (aJ r/aJ q))
           have h6:=dM (cp q r)
           rw[eu] at h6
           omega
          ·exact Nat.le_refl _
        have:=hlen b (a.length+1) a (List.replicate (a.length+1-b.length) 0)
        unfold divN;omega
     exact this _ _ _ hb (by rw[b6];omega)
 have:=key (q.length+1) l q (by omega) (by omega) hq.trm
 unfold cx;omega
theorem kT(l:List Rat):(cr l).length=l.length-1:=by unfold cr l4;simp
theorem Nb{l:List Rat}{i:Nat}(h:i<l.length-1):cf (cr l) i=cf l (i+1)*((i+1:Nat):Rat):=by
 unfold cr l4
 conv=>lhs;unfold cf
 rw[List.getD_eq_getElem?_getD,List.getElem?_map,List.getElem?_range h]
 show cf l (i+1)*Rat.divInt ((i+1:Nat):Int) 1=_
 rw[Rat.divInt_eq_div,Rat.intCast_natCast]
 rw[show ((1:Int):Rat)=1 from rfl]
 grind
theorem Dm{l:List Rat}(h:Trm l):Trm (cr l):=by
 intro hn
 have h1:=List.length_pos_iff.2 hn
 rw[kT] at h1
 have h2:l≠ []:=fun e=>by rw[e] at h1;simp at h1
 have h3:=h h2
 rw[b8 (by omega)] at h3
 rw[b8 (by rw[kT];omega),kT,Nb (by omega),show l.length-1-1+1=l.length-1 by omega]
 have h4:((l.length-1:Nat):Rat)≠0:=by
  intro e
  have:(l.length-1:Nat)=0:=by exact_mod_cast e
  omega
 intro e
 rcases Rat.mul_eq_zero.1 e with e|e
 ·exact h3 e
 ·exact h4 e
theorem Sml.der{n b:Nat}{l:List Rat}(h:Sml n b l)(hn:n<1000000000):Sml (n-1) (b+1) (cr l):=
 ⟨by rw[kT];have:=h.len;omega,Dm h.trm,Dc h.den (by have:=h.len;omega)⟩
theorem LF{l:List Rat}(hl:Pol l):bN (fun p _=>Sz QH p/\p.length<=1000) (fun a _=>cr a) (txP l) []:=by
 have e1:QH=40000000000:=rfl
 have e2:QL=1000000000:=rfl
 have e3:QC=100000000000:=rfl
 have hln:=hl.len
 refine ig (m:= []) hl jG ⟨hl.enc_ok (by omega),by rw[aB];omega⟩ ?_ (by show (cr l).length<=_;rw[kT];omega)
 intro x hx
 have hd:=Dc (wt (K:=2000) (by omega) l hl.lq) (by omega)
 have:=hd.lq x hx
 have h4:l.length*2000<=41*2000:=Nat.mul_le_mul_right _ hln
 omega
theorem uG:∀ (n:Nat) (p q:List Rat),Trm p->Trm q->Trm (dW n p q)
 |0,p,q,tp,tq=>by rw[dW];exact gS tp
 |n+1,p,q,tp,tq=>by
  rw[dW]
  split
  ·exact gS tp
  ·exact uG n _ _ tq (gS (fV tp))
theorem Ju{p q:List Rat}(tp:Trm p)(tq:Trm q):Trm (cx p q):=uG _ _ _ tp tq
theorem sQ(q:List Rat):∀ (n:Nat) (r s:List Rat),(eF q n r s).2.length<=r.length
 |0,r,s=>Nat.le_refl _
 |n+1,r,s=>by
  rw[eF]
  split
  ·have h5:=sQ q n (aR (cp q r)) (s.set (r.length-q.length) (aJ r/aJ q))
   have h6:=dM (cp q r)
   rw[eu] at h6
   omega
  ·exact Nat.le_refl _
theorem uH:∀ (n:Nat) (p q:List Rat),(dW n p q).length<=max p.length q.length
 |0,p,q=>by rw[dW,b6];omega
 |n+1,p,q=>by
  rw[dW]
  split
  ·rw[b6];omega
  ·have h1:=uH n q (cP (divN p q).2)
   have h2:=sQ q (p.length+1) p (List.replicate (p.length+1-q.length) 0)
   rw[b6] at h1
   unfold divN at h1 ⊢
   omega
theorem Jv(p q:List Rat):(cx p q).length<=max p.length q.length:=uH _ _ _
theorem nF{l:List Rat}:cP l= []↔l= []:=by
 unfold cP;simp
theorem uI:∀ (n:Nat) (p q:List Rat),q.length<n->(p≠ []∨q≠ [])->dW n p q≠ []
 |0,p,q,h,_=>absurd h (by omega)
 |n+1,p,q,h,hne=>by
  rw[dW]
  split
  ·rename_i hq
   intro e
   rw[nF] at e
   rcases hne with h1|h1
   ·exact h1 e
   ·exact h1 hq
  ·rename_i hq
   by_cases ht:(cP (divN p q).2).length<n
   ·exact uI n _ _ ht (.inl hq)
   ·
    have key:∀ (k:Nat) (a b:List Rat),a≠ []->dW k a b≠ []:=by
     intro k
     induction k with
     |zero=>intro a b ha e;rw[dW,nF] at e;exact ha e
     |succ k ih=>
      intro a b ha
      rw[dW]
      split
      ·intro e;rw[nF] at e;exact ha e
      ·rename_i hb;exact ih _ _ hb
    exact key n _ _ hq
theorem Dn{p q:List Rat}(h:p≠ []∨q≠ []):cx p q≠ []:=uI _ _ _ (Nat.lt_succ_self _) h
theorem Nc{n b c:Nat}{l:List Rat}(hl:Sml n b l)(pl:Pol l)(hg:iF (aG l) (aG (cr l)))(dg:Den c (cx l (cr l)))(hK:b+(n+1)*(c+1)<=QD):lF (aG l)/\(∀ x∈(divN l (cx l (cr l))).1,lq x<=QD):=by
 have e1:QD=10000000000:=rfl
 have e2:QH=40000000000:=rfl
 have hll:=hl.len
 have pl1:=pl.len
 have hcK:c<=QD:=by
  have:1*(c+1)<=(n+1)*(c+1):=Nat.mul_le_mul_right _ (by omega)
  omega
 have hgl:=Jv l (cr l)
 rw[kT] at hgl
 have tg:=Ju hl.trm (Dm hl.trm)
 have hq1:l≠ []->∀ x∈(divN l (cx l (cr l))).1,lq x<=QD:=by
  intro h
  have hbd:b+(l.length+1-(cx l (cr l)).length)*(c+1)<=QD:=by
   have:(l.length+1-(cx l (cr l)).length)*(c+1)<=(n+1)*(c+1):=Nat.mul_le_mul_right _ (by omega)
   omega
  exact(mM hl.den dg (Dn (.inl h)) tg hbd (by omega)).1
 refine⟨fun hne=> ?_,?_⟩
 ·have h:l≠ []:=fun e=>hne (by rw[e];rfl)
  rw[aI,aB]
  have hgn:=Dn (q:=cr l) (.inl h)
  have hbd:b+(l.length+1-(cx l (cr l)).length)*(c+1)<=QD:=by
   have:(l.length+1-(cx l (cr l)).length)*(c+1)<=(n+1)*(c+1):=Nat.mul_le_mul_right _ (by omega)
   omega
  refine⟨pl.enc_ok (by omega),by omega,hg,BL (b:=b) (c:=c) (gI _) (gI _) (by rw[aI];exact hl.den) (by rw[aI];exact dg) (by rw[aB];omega) (by rw[aB];omega) (by rw[aB];exact List.length_pos_iff.2 hgn) (by rw[aI];exact tg) (by rw[aB,aB];exact hbd) hcK,?_⟩
  refine⟨eU fun x hx=>by have:=hq1 h x hx;omega,by rw[aB,gT];omega,fun hq=> ?_⟩
  rw[aI]

  have hlen:=gT l (cx l (cr l))
  have hsn:(divN l (cx l (cr l))).1≠ []:=fun e=>hq (by rw[e];rfl)
  have hgp:=List.length_pos_iff.2 hgn
  have hlong:(cx l (cr l)).length<=l.length:=by omega
  intro h0
  have hev:∀ x,aQ (aR (divN l (cx l (cr l))).1) x*aQ (cx l (cr l)) x+aQ (divN l (cx l (cr l))).2 x=aQ l x:=fun x=>by rw[iG];exact wk hgn tg x
  have hmul:bH (· + ·) (cE (aR (divN l (cx l (cr l))).1) (cx l (cr l))) (divN l (cx l (cr l))).2=l:=l6 (eD _ _ _) hl.trm fun x=>by rw[BI,nB];exact hev x
  have hs:=ev (p:=l) hgp (tg hgn)
  have h1:=fc (· + ·) (cE (aR (divN l (cx l (cr l))).1) (cx l (cr l))) (divN l (cx l (cr l))).2
  rw[hmul] at h1
  have h2:=oC (l:=(divN l (cx l (cr l))).1) (List.length_pos_iff.2 hsn) h0
  by_cases hz:aR (divN l (cx l (cr l))).1= []
  ·rw[hz,fX] at h1
   simp only[List.length_nil] at h1
   omega
  ·rw[kn hz hgn] at h1
   omega
 ·intro x hx
  by_cases h:l= []
  ·subst h
   have e0:(divN [] (cx [] (cr []))).1= [0]:=by decide+kernel
   rw[e0,List.mem_singleton] at hx
   rw[hx]
   exact Nat.le_trans iE (by omega)
  ·exact hq1 h x hx
theorem F4{l:List Rat}(h:∀ x∈(divN l (cx l (cr l))).1,lq x<=QD):∀ x∈cq l,lq x<=2*QD:=by
 intro x hx
 unfold cq at hx
 split at hx
 ·simp at hx
 ·obtain⟨y,hy,rfl⟩:=List.mem_map.1 hx
  have h1:=h y hy
  have h2:=vW y (aJ (divN l (cx l (cr l))).1)
  have hp:0<(divN l (cx l (cr l))).1.length:=List.length_pos_of_mem hy
  have h3:=h (aJ (divN l (cx l (cr l))).1) (by rw[b8 hp];exact so (by omega))
  omega
theorem BS(l:List Rat):(cq l).length<=l.length+1:=by
 unfold cq
 split
 ·simp
 ·rw[b6,gT];omega
theorem LG{n b c:Nat}{l:List Rat}(hl:Sml n b l)(pl:Pol l)(hg:iF (aG l) (aG (cr l)))(dg:Den c (cx l (cr l)))(hK:b+(n+1)*(c+1)<=QD):bN (fun p _=>lF p) (fun a _=>cq a) (txP l) []:=by
 have e1:QD=10000000000:=rfl
 have e2:QC=100000000000:=rfl
 have e3:QL=1000000000:=rfl
 obtain⟨h1,h2⟩:=Nc hl pl hg dg hK
 refine ig (m:= []) pl jG h1 (fun x hx=> ?_) ?_
 ·have:=F4 h2 x hx;omega
 ·show (cq l).length<=_
  have:=BS l;have:=pl.len;omega
theorem LH{b:Nat}{l:List Rat}(h:Den b l)(i:Nat):Den b (aR [cf l i]):=by
 refine ko ?_
 obtain⟨D,d1,d2,d3⟩:=h
 refine⟨D,d1,d2,fun j=> ?_⟩
 cases j with
 |zero=>obtain⟨n,n1,n2⟩:=d3 i;exact⟨n,n1,by rw[<- n2];simp[cf]⟩
 |succ j=>exact⟨0,by rw[gH];omega,by rw[Rat.zero_divInt,c7 (by simp)]⟩
theorem yM{n b m c:Nat}{p q:List Rat}(hp:Sml n b p)(hq:Sml m c q)(hnm:n*m<=1000):∀ k,k<=n->Den (1+k*(b+c+2)) (gy p q k)/\(gy p q k).length<=1+k*m
 |0,_=>⟨o4 (by omega),by simp[gy]⟩
 |k+1,hk=>by
  obtain⟨h1,h2⟩:=yM hp hq hnm k (by omega)
  have hkm:k*m<=n*m:=Nat.mul_le_mul_right _ (by omega)
  have hl:(gy p q k).length<1000000000:=by omega
  rw[gy,sF,Nat.add_mul,Nat.add_mul]
  refine⟨(den_add (den_mul h1 hq.den hl) (LH hp.den _)).mono (by omega),?_⟩
  have h3:=fc (· + ·) (cE (gy p q k) q) (aR [cf p (p.length-1-k)])
  have h4:=sG (gy p q k) q
  have h5:=dM [cf p (p.length-1-k)]
  simp only[List.length_cons,List.length_nil] at h5
  have h6:=hq.len
  by_cases hz:gy p q k= []
  ·rw[hz,fX] at h3
   simp only[List.length_nil] at h3
   rw[hz,fX]
   omega
  ·omega
theorem Jw{n b m c:Nat}{p q:List Rat}(hp:Sml n b p)(hq:Sml m c q)(pp:Pol p)(pq:Pol q)(hnm:n*m<=98)(hb:b<=100000)(hc:c<=100000)(hn:n<=98)(hm:m<=98):bN wg jR (txP p) (txP q):=by
 have e1:QM=400000000:=rfl
 have e2:QC=100000000000:=rfl
 have e3:QL=1000000000:=rfl
 have e4:QH=40000000000:=rfl
 have hlp:=hp.len;have hlq:=hq.len
 have key:∀ k,k<=n->Den 19700000 (gy p q k)/\(gy p q k).length<=99:=by
  intro k hk
  obtain⟨h1,h2⟩:=yM hp hq (by omega) k hk
  have h3:k*(b+c+2)<=98*200002:=Nat.mul_le_mul (by omega) (by omega)
  have h4:k*m<=n*m:=Nat.mul_le_mul_right _ hk
  exact⟨h1.mono (by omega),by omega⟩
 refine ig pp pq ⟨pp.enc_ok (by omega),by rw[aB];omega,fun k hk=> ?_⟩ ?_ ?_
 ·rw[aB] at hk ⊢
  rw[aI,aI]
  obtain⟨h1,h2⟩:=key k (by omega)
  have h5:=den_mul h1 hq.den (by omega)
  refine⟨h1.sz (by omega),pq.enc_ok (by omega),by rw[aB];omega,by rw[aB];omega,bV _,?_,?_⟩
  ·rw[aM];exact Nat.le_trans (jQ pp.lq (by omega) _) (by omega)
  ·rw[aI,aI];exact h5.sz (by omega)
 ·intro x hx
  have:=(key p.length (by omega)).1.lq x hx
  omega
 ·have:=(key p.length (by omega)).2
  show (gy p q p.length).length<=_
  omega
def smB(n K:Nat)(p:List (List UInt8)):Bool:=decide (cL p=0)&&decide (p.length<=n)&&p.all (fun q=>decide (q.length<=10000))&&(bc p).all fun x=>decide (lq x<=K)
theorem cK{n K:Nat}{p:List (List UInt8)}(h:smB n K p=true)(hn:n<=41)(hK:1<=K):Pol (bc p)/\txP (bc p)=p/\Sml n (n*K+1) (bc p):=by
 unfold smB at h
 simp only[Bool.and_eq_true,decide_eq_true_iff,List.all_eq_true] at h
 obtain⟨⟨⟨h1,h2⟩,h3⟩,h4⟩:=h
 have hs:c6 p:=⟨by unfold QL;omega,fun q hq=>by have:=h3 q hq;unfold QL;omega⟩
 obtain⟨t1,t2,t3,t4⟩:=Lu hs h1
 have hl:(bc p).length=p.length:=by rw[<- t1,bY,t1]
 exact⟨⟨t2,t3,t4⟩,t1,Na (by omega) t3 hK h4⟩
theorem NM{n K:Nat}{p q:List (List UInt8)}(hp:smB n K p=true)(hq:smB n K q=true)(hn:n<=41:=by decide)(hK:1<=K:=by decide):bN (fun p q=>Sz QH p/\Sz QH q/\p.length<=1000/\q.length<=1000) (bH (· + ·)) p q:=by
 have h:=Dj (cK hp hn hK).1 (cK hq hn hK).1
 rwa [(cK hp hn hK).2.1,(cK hq hn hK).2.1] at h
theorem NN{n K:Nat}{p q:List (List UInt8)}(hp:smB n K p=true)(hq:smB n K q=true)(hn:n<=41:=by decide)(hK:1<=K:=by decide):bN (fun p q=>Sz QH p/\Sz QH q/\p.length<=1000/\q.length<=1000) (bH (· - ·)) p q:=by
 have h:=Lv (cK hp hn hK).1 (cK hq hn hK).1
 rwa [(cK hp hn hK).2.1,(cK hq hn hK).2.1] at h
theorem NO{n K:Nat}{p q:List (List UInt8)}(hp:smB n K p=true)(hq:smB n K q=true)(hn:n<=41:=by decide)(hK:1<=K:=by decide):bN (fun p q=>Sz QM p/\Sz QM q/\p.length<=100/\q.length<=100) cE p q:=by
 have h:=wo (cK hp hn hK).1 (cK hq hn hK).1
 rwa [(cK hp hn hK).2.1,(cK hq hn hK).2.1] at h
theorem Jy{n K:Nat}{p q:List (List UInt8)}(hp:smB n K p=true)(hq:smB n K q=true)(hb:(max (n*K+1) (n*K+1)+1)*(n+2)*3^n<=QD:=by decide)(hn:n<=41:=by decide)(hK:1<=K:=by decide):bN iF cx p q:=by
 have h:=(Dl (cK hp hn hK).2.2 (cK hq hn hK).2.2 (cK hp hn hK).1 (cK hq hn hK).1 hb).1
 rwa [(cK hp hn hK).2.1,(cK hq hn hK).2.1] at h
theorem NP{n K:Nat}{p:List (List UInt8)}(hp:smB n K p=true)(hn:n<=41:=by decide)(hK:1<=K:=by decide):bN (fun p _=>Sz QH p/\p.length<=1000) (fun a _=>cr a) p []:=by
 have h:=LF (cK hp hn hK).1
 rwa [(cK hp hn hK).2.1] at h
theorem LI{l:List Rat}{n b:Nat}(h:Sml n b l)(hn:n<=41)(hb:b<=220):Pol (cr l):=(h.der (by omega)).pol (by omega) (by omega)
theorem LJ{n b:Nat}{l:List Rat}(hl:Sml n b l)(hn:n<=41)(hb:b<=220)(hK:b+(n+1)*((b+2)*(n+2)*3^(n-1)+1)<=QD):bN (fun p _=>lF p) (fun a _=>cq a) (txP l) []:=by
 have pl:=hl.pol hn (by omega)
 have pd:=LI hl hn hb
 have e:max b (b+1)+1=b+2:=by omega
 have hle:(b+2)*(n+2)*3^(n-1)<=QD:=by
  have:1*((b+2)*(n+2)*3^(n-1)+1)<=(n+1)*((b+2)*(n+2)*3^(n-1)+1):=Nat.mul_le_mul_right _ (by omega)
  omega
 obtain⟨_,g1,g2⟩:=Dl hl (hl.der (by omega)) pl pd (by rw[e];exact hle)
 rw[e] at g2
 exact LG hl pl g1 g2 hK
theorem Ms{n K:Nat}{p:List (List UInt8)}(hp:smB n K p=true)(hb:n*K+1<=220:=by decide)(hq:(n*K+1)+(n+1)*((n*K+1+2)*(n+2)*3^(n-1)+1)<=QD:=by decide)(hn:n<=41:=by decide)(hK:1<=K:=by decide):bN (fun p _=>lF p) (fun a _=>cq a) p []:=by
 have h:=LJ (cK hp hn hK).2.2 hn hb hq
 rwa [(cK hp hn hK).2.1] at h
theorem Nd{n m K:Nat}{p q:List (List UInt8)}(hp:smB n K p=true)(hq:smB m K q=true)(hnm:n*m<=98:=by decide)(hb:n*K+1<=100000:=by decide)(hc:m*K+1<=100000:=by decide)(hn:n<=41:=by decide)(hm:m<=41:=by decide)(hK:1<=K:=by decide):wq p q:=by
 have h1:=cK hp hn hK
 have h2:=cK hq hm hK
 have h:=Jw h1.2.2 h2.2.2 h1.1 h2.1 hnm hb hc (by omega) (by omega)
 rw[h1.2.1,h2.2.1] at h
 have s1:=h1.1.short;have s2:=h2.1.short
 rw[h1.2.1] at s1
 rw[h2.2.1] at s2
 exact⟨s1,s2,fun _=>h⟩
theorem BU{n K:Nat}{p q:List (List UInt8)}(hp:smB n K p=true)(hq:smB n K q=true)(hn:n<=41:=by decide)(hK:1<=K:=by decide)(hb:K<=2000:=by decide):l8 p q:=by
 have e1:QD=10000000000:=rfl
 have e2:QC=100000000000:=rfl
 have e3:QL=1000000000:=rfl
 obtain⟨p1,p2,p3⟩:=cK hp hn hK
 obtain⟨q1,q2,q3⟩:=cK hq hn hK
 have s1:=p1.short;have s2:=q1.short
 rw[p2] at s1
 rw[q2] at s2
 refine⟨s1,s2,fun _ h0=> ?_⟩
 have hlp:=p3.len;have hlq:=q3.len
 have hnK:n*K<=41*2000:=Nat.mul_le_mul hn hb
 have hbd:n*K+1+((bc p).length+1-(bc q).length)*(n*K+1+1)<=4000000:=by
  have:((bc p).length+1-(bc q).length)*(n*K+1+1)<=42*82002:=Nat.mul_le_mul (by omega) (by omega)
  omega
 obtain⟨k1,k2⟩:=mM (K:=4000000) p3.den q3.den h0 q3.trm hbd (by omega)
 have hs:=ev (p:=bc p) (List.length_pos_iff.2 h0) (q3.trm h0)
 refine⟨BL (b:=n*K+1) (c:=n*K+1) (gI _) (gI _) (by rw[aI];exact p3.den) (by rw[aI];exact q3.den) (by rw[aB];omega) (by rw[aB];omega) (by rw[aB];exact List.length_pos_iff.2 h0) (by rw[aI];exact q3.trm) (by rw[aB,aB];omega) (by omega),⟨eU fun x hx=>by have:=k1 x hx;omega,by rw[aB,gT];omega⟩,k2.sz (by omega),by rw[aB];omega⟩
theorem Jz{n K:Nat}{p:List (List UInt8)}{x:List UInt8}(hp:smB n K p=true)(hx:x.length<=3000)(hn:n<=41:=by decide)(hK:1<=K:=by decide):Jo p x:=by
 have e1:QM=400000000:=rfl
 have e2:QL=1000000000:=rfl
 have e3:QC=100000000000:=rfl
 obtain⟨p1,p2,p3⟩:=cK hp hn hK
 have s1:=p1.short
 rw[p2] at s1
 refine⟨s1,by omega,fun h1 h2=> ?_⟩
 have hxl:lq (bD x)<=2000:=Di (uC h2 (by omega)).2
 have h3:=C7 p1.lq hxl
 have h4:(bc p).length*(2*2000+1)<=41*(2*2000+1):=Nat.mul_le_mul_right _ p1.len
 exact⟨p1.enc_ok (by omega),by have:=p1.len;omega,by omega,by omega⟩
theorem BV{s:List UInt8}{i:Nat}(hi:i<s.length)(h:(s.take i).all (· !=47)=true)(hb:s.getD i 0=47):s.take i=tN s/\s.drop (i+1)=tD s/\true=cb s:=by
 have e:s=s.take i++47::s.drop (i+1):=by
  rw[<- hb,List.getD_eq_getElem?_getD,List.getElem?_eq_getElem hi]
  simp only[Option.getD_some]
  rw[<- List.drop_eq_getElem_cons hi,List.take_append_drop]
 have hc:∀ c∈s.take i,c≠47:=by
  rw[List.all_eq_true] at h
  intro c hc
  simpa using h c hc
 have k:=Jg (b:=s.drop (i+1)) hc
 rw[<- e] at k
 refine⟨k.1.symm,?_,k.2.symm⟩
 unfold tD tR
 rw[if_pos k.2,k.1,List.length_take,Nat.min_eq_left (by omega)]
theorem F5{s:List UInt8}{i:Nat}(hi:i<s.length)(h:(s.take i).all (· !=47)=true)(hb: ¬s.getD i 0=47):(s.take (i+1)).all (· !=47)=true:=by
 rw[List.take_succ_eq_append_getElem hi,List.all_append,h]
 rw[List.getD_eq_getElem?_getD,List.getElem?_eq_getElem hi] at hb
 simpa using hb
theorem JA{s:List UInt8}{i:Nat}(hi: ¬i<s.length)(h:(s.take i).all (· !=47)=true):s=tN s/\ [49]=tD s/\false=cb s:=by
 rw[List.take_of_length_le (by omega)] at h
 have hs:cb s=false:=sO fun c hc=>by
  rw[List.all_eq_true] at h
  simpa using h c hc
 exact⟨(si hs).symm,by unfold tD;rw[hs];rfl,hs.symm⟩
def QK:Nat:=10000000
def GQ(K:Nat)(a:List UInt8):Prop:=bp (bD a)=a/\lq (bD a)<=K
theorem GQ.parts{K:Nat}{a:List UInt8}(h:GQ K a):tN a=Lib.itoa (bD a).num/\tD a=Lib.itoa ((bD a).den:Int):=by
 have:=kq (bD a)
 rw[h.1] at this
 exact⟨this.1,this.2.1⟩
theorem GQ.nums{K:Nat}{a:List UInt8}(h:GQ K a):ao (tN a)=(bD a).num/\ao (tD a)=((bD a).den:Int):=by
 rw[h.parts.1,h.parts.2]
 exact⟨(bb _).2,(bb _).2⟩
theorem GQ.rs{K:Nat}{a:List UInt8}(h:GQ K a):RS (9*K+2) (tN a)/\RS (9*K+2) (tD a):=by
 rw[h.parts.1,h.parts.2]
 have h1:=fC (bD a).num
 have h2:=fC ((bD a).den:Int)
 have h3:=dP (bD a)
 have h4:=dA (bD a)
 have h5:=h.2
 exact⟨⟨(bb _).1,by omega⟩,(bb _).1,by omega⟩
theorem GQ.len{K:Nat}{a:List UInt8}(h:GQ K a):a.length<=18*K+5:=by
 rw[<- h.1];exact uD h.2
theorem RS.mono'{n m:Nat}{s:List UInt8}(h:RS n s)(hm:n<=m):RS m s:=⟨h.1,Nat.le_trans h.2 hm⟩
theorem kU{x:Rat}{K:Nat}(h:lq x<=K):GQ K (bp x):=⟨by rw[dN],by rw[dN];exact h⟩
theorem yN{v:Int}:Lib.itoa v= [49]↔v=1:=by
 have h1:Lib.itoa 1= [49]:=by decide+kernel
 constructor
 ·intro h
  have:=(bb v).2
  rw[h,<- h1,(bb 1).2] at this
  exact this.symm
 ·rintro rfl;exact h1
theorem nG{n d:Int}(hd:d≠0):(Rat.divInt n d).num=bM n (dt n d)/\(((Rat.divInt n d).den:Nat):Int)=bM d (dt n d):=by
 have h:=lX (n:=n) hd
 unfold bk at h
 have h1:=congrArg (fun x:ND=>dec x.1) h
 have h2:=congrArg (fun x:ND=>dec x.2) h
 simp only[bP] at h1 h2
 exact⟨h1,h2⟩
theorem yO{s:List UInt8}{k:Nat}(hl:s.length<=1000000000)(hi:k<s.length)(h:(s.take k).all (· !=47)=true)(hb:s.getD k 0=47):
  List.drop (Int.toNat 0) (List.take ((k:Int)).toNat s)=tN s/\List.drop (IntKind.i64.wrap ((k:Int)+1)).toNat (List.take (((s.length:Nat):Int)).toNat s)=tD s/\true=cb s:=by
 have h1:=BV hi h hb
 rw[wi (by omega) (by omega),Int.toNat_natCast,Int.toNat_natCast,show ((k:Int)+1).toNat=k+1 by omega,List.take_length]
 exact h1
def MkR(n d:List UInt8):Prop:=RS 200000000 n/\RS 200000000 d/\ao d≠0
theorem Mt{n:Nat}{s:List UInt8}(h:RS n s):lw (ao s)<=n:=Nat.le_trans (Bv h.1) h.2
theorem LK{n:Nat}{s:List UInt8}(h:RS n s):(ao s).natAbs<10^n:=kP h
theorem oH{v w:Int}{n:Nat}(h:w.natAbs<10^n)(hv:v.natAbs<=w.natAbs):RS (n+2) (Lib.itoa v):=(mH (k:=n) (by omega) (Nat.le_refl _)).1
theorem Mu{n d:List UInt8}(h:MkR n d):RS 200000002 (Lib.itoa (cA (ao n) (ao d)))/\RS 200000002 (Lib.itoa (dt (ao n) (ao d))):=by
 have h1:=LK h.2.1
 exact⟨oH h1 (oW h.2.2),oH h1 (ki h.2.2).1⟩
theorem nH{n d:List UInt8}(h:MkR n d):RS 1000000000 n/\RS 1000000000 d:=⟨h.1.mono' (by omega),h.2.1.mono' (by omega)⟩
theorem F6{n d:List UInt8}(h:MkR n d):RF (Lib.itoa (cA (ao n) (ao d)))/\4*(Lib.itoa (cA (ao n) (ao d))).length<CAP:=by
 have:=(Mu h).1
 have h2:=this.2
 exact⟨this.1,by unfold CAP;omega⟩
theorem Do{n d:List UInt8}(h:ao d<0):Lib.itoa (-ao (Lib.itoa (cA (ao n) (ao d))))=Lib.itoa (dt (ao n) (ao d)):=by
 rw[(bb _).2];unfold dt;rw[if_pos h]
theorem Dp{n d:List UInt8}(h: ¬ao d<0):Lib.itoa (cA (ao n) (ao d))=Lib.itoa (dt (ao n) (ao d)):=by
 unfold dt;rw[if_neg h]
theorem o5{a b:Int}:bu a b<0↔a<b:=by
 unfold bu
 split
 ·constructor<;>omega
 ·split
  ·constructor<;>omega
  ·constructor<;>omega
theorem uJ{n d:List UInt8}(h:MkR n d):RS 1000000000 n/\RS 1000000000 (Lib.itoa (dt (ao n) (ao d)))/\ao (Lib.itoa (dt (ao n) (ao d)))≠0:=by
 rw[(bb _).2]
 exact⟨(nH h).1,(Mu h).2.mono' (by omega),(ki h.2.2).2⟩
theorem F7{n d:List UInt8}(h:MkR n d):RS 1000000000 d/\RS 1000000000 (Lib.itoa (dt (ao n) (ao d)))/\ao (Lib.itoa (dt (ao n) (ao d)))≠0:=⟨(nH h).2,(uJ h).2⟩
theorem LL{n d:List UInt8}(h:MkR n d)(hb:Lib.itoa (bM (ao d) (ao (Lib.itoa (dt (ao n) (ao d)))))= [49]):Lib.itoa (bM (ao n) (ao (Lib.itoa (dt (ao n) (ao d)))))=bp (Rat.divInt (ao n) (ao d)):=by
 rw[(bb _).2] at hb ⊢
 obtain⟨h1,h2⟩:=nG (n:=ao n) h.2.2
 rw[<- h2,yN] at hb
 unfold bp
 rw[if_pos (by omega),h1]
theorem LM{n d:List UInt8}(h:MkR n d)(hb: ¬Lib.itoa (bM (ao d) (ao (Lib.itoa (dt (ao n) (ao d)))))= [49]):Lib.itoa (bM (ao n) (ao (Lib.itoa (dt (ao n) (ao d)))))++ [47]++Lib.itoa (bM (ao d) (ao (Lib.itoa (dt (ao n) (ao d)))))=bp (Rat.divInt (ao n) (ao d)):=by
 rw[(bb _).2] at hb ⊢
 obtain⟨h1,h2⟩:=nG (n:=ao n) h.2.2
 rw[<- h2,yN] at hb
 unfold bp
 rw[if_neg (by omega),h1,h2]
theorem F8{n d:List UInt8}(h:MkR n d):(Lib.itoa (bM (ao n) (ao (Lib.itoa (dt (ao n) (ao d)))))).length+1<=maxLen/\
  (Lib.itoa (bM (ao n) (ao (Lib.itoa (dt (ao n) (ao d)))))++ [47]).length+(Lib.itoa (bM (ao d) (ao (Lib.itoa (dt (ao n) (ao d)))))).length<=maxLen:=by
 rw[(bb _).2]
 obtain⟨h1,h2⟩:=nG (n:=ao n) h.2.2
 have h3:=nu (ao n) (ao d) h.2.2
 have h4:=Mt h.1
 have h5:=Mt h.2.1
 have h6:=fC (Rat.divInt (ao n) (ao d)).num
 have h7:=fC (((Rat.divInt (ao n) (ao d)).den:Nat):Int)
 have h8:=dP (Rat.divInt (ao n) (ao d))
 have h9:=dA (Rat.divInt (ao n) (ao d))
 rw[h1] at h6
 rw[h2] at h7
 rw[h1] at h8
 rw[h2] at h9
 have e7:maxLen=9223372036854775807:=rfl
 simp only[List.length_append,List.length_cons,List.length_nil]
 omega
theorem JB{n d:Int}(h:I64 n/\I64 d/\d≠0):I64 n/\I64 d/\RS 200000000 (Lib.itoa n)/\RS 200000000 (Lib.itoa d)/\ao (Lib.itoa d)≠0:=by
 have h1:=fC n;have h2:=fC d
 have h3:=Bp h.1;have h4:=Bp h.2.1
 rw[(bb d).2]
 exact⟨h.1,h.2.1,⟨(bb n).1,by omega⟩,⟨(bb d).1,by omega⟩,h.2.2⟩
theorem LN{n d:Int}:bp (Rat.divInt (ao (Lib.itoa n)) (ao (Lib.itoa d)))=bp (Rat.divInt n d):=by
 rw[(bb n).2,(bb d).2]
theorem Dq{a:List UInt8}(h:GQ QK a):a.length<=QL:=by
 have:=h.len
 have e:QK=10000000:=rfl
 have e2:QL=1000000000:=rfl
 omega
theorem Mv{a:List UInt8}(h:GQ QK a):RS 200000000 (tN a)/\RS 200000000 (tD a):=by
 have e:QK=10000000:=rfl
 exact⟨h.rs.1.mono' (by omega),h.rs.2.mono' (by omega)⟩
theorem fF{a:List UInt8}(h:GQ QK a):RS 20000000000 (tN a)/\RS 20000000000 (tD a):=⟨(Mv h).1.mono' (by omega),(Mv h).2.mono' (by omega)⟩
theorem yP{a b:List UInt8}(ha:GQ QK a)(hb:GQ QK b)(h1:tD a= [49])(h2:tD b= [49]):(bD a).den=1/\(bD b).den=1:=by
 have k1:=ha.nums.2
 have k2:=hb.nums.2
 rw[h1,mI] at k1
 rw[h2,mI] at k2
 omega
theorem mO{x:Rat}(h:x.den=1):x=(x.num:Rat):=by
 have:=Rat.num_divInt_den x
 rw[h,Rat.divInt_eq_div] at this
 rw[show (((1:Nat):Int):Rat)=1 from rfl] at this
 grind
theorem sR(n:Int):bp (n:Rat)=Lib.itoa n:=by unfold bp;rw[if_pos (Rat.den_intCast n),Rat.num_intCast]
theorem JC{a b:List UInt8}(ha:GQ QK a)(hb:GQ QK b)(h:tD a= [49]/\tD b= [49]):Lib.itoa (ao (tN a)+ao (tN b))=bp (bD a+bD b):=by
 obtain⟨k1,k2⟩:=yP ha hb h.1 h.2
 rw[ha.nums.1,hb.nums.1,mO k1,mO k2,<- Rat.intCast_add,sR,Rat.num_intCast,Rat.num_intCast]
theorem JD{a b:List UInt8}(ha:GQ QK a)(hb:GQ QK b)(h:tD a= [49]/\tD b= [49]):Lib.itoa (ao (tN a)*ao (tN b))=bp (bD a*bD b):=by
 obtain⟨k1,k2⟩:=yP ha hb h.1 h.2
 rw[ha.nums.1,hb.nums.1,mO k1,mO k2,<- Rat.intCast_mul,sR,Rat.num_intCast,Rat.num_intCast]
theorem uK{v:Int}{k:Nat}(h:lw v<=k):RS (9*k+2) (Lib.itoa v):=⟨(bb v).1,by have:=fC v;omega⟩
theorem Dr{a:List UInt8}(h:GQ QK a):lw (bD a).num<=QK/\lw ((bD a).den:Int)<=QK:=by
 have:=dP (bD a);have:=dA (bD a);have:=h.2
 omega
theorem F9{a b:List UInt8}(ha:GQ QK a)(hb:GQ QK b):(RS 20000000000 (tN a)/\RS 20000000000 (tD b))/\
  (RS 20000000000 (tN b)/\RS 20000000000 (tD a))/\
   (RS 20000000000 (Lib.itoa (ao (tN a)*ao (tD b)))/\RS 20000000000 (Lib.itoa (ao (tN b)*ao (tD a))))/\
    (RS 20000000000 (tD a)/\RS 20000000000 (tD b))/\
     RS 200000000 (Lib.itoa (ao (Lib.itoa (ao (tN a)*ao (tD b)))+ao (Lib.itoa (ao (tN b)*ao (tD a)))))/\
      RS 200000000 (Lib.itoa (ao (tD a)*ao (tD b)))/\ao (Lib.itoa (ao (tD a)*ao (tD b)))≠0:=by
 have e:QK=10000000:=rfl
 simp only[(bb _).2]
 have k1:=Dr ha;have k2:=Dr hb
 rw[ha.nums.1,ha.nums.2,hb.nums.1,hb.nums.2]
 have m1:=b5 (bD a).num (bD b).den
 have m2:=b5 (bD b).num (bD a).den
 have m3:=b5 ((bD a).den:Int) (bD b).den
 have m4:=sd ((bD a).num*(bD b).den) ((bD b).num*(bD a).den)
 exact⟨⟨(fF ha).1,(fF hb).2⟩,⟨(fF hb).1,(fF ha).2⟩,⟨(uK (k:=20000000) (by omega)).mono' (by omega),(uK (k:=20000000) (by omega)).mono' (by omega)⟩,⟨(fF ha).2,(fF hb).2⟩,
  (uK (k:=20000001) (by omega)).mono' (by omega),(uK (k:=20000001) (by omega)).mono' (by omega),Int.mul_ne_zero (eH _) (eH _)⟩
theorem JE{a b:List UInt8}(ha:GQ QK a)(hb:GQ QK b):bp (Rat.divInt (ao (Lib.itoa (ao (Lib.itoa (ao (tN a)*ao (tD b)))+ao (Lib.itoa (ao (tN b)*ao (tD a)))))) (ao (Lib.itoa (ao (tD a)*ao (tD b)))))=bp (bD a+bD b):=by
 simp only[(bb _).2]
 rw[ha.nums.1,ha.nums.2,hb.nums.1,hb.nums.2,<- lU]
theorem Ga{a b:List UInt8}(ha:GQ QK a)(hb:GQ QK b):(RS 20000000000 (tN a)/\RS 20000000000 (tN b))/\
  (RS 20000000000 (tD a)/\RS 20000000000 (tD b))/\
   RS 200000000 (Lib.itoa (ao (tN a)*ao (tN b)))/\
    RS 200000000 (Lib.itoa (ao (tD a)*ao (tD b)))/\ao (Lib.itoa (ao (tD a)*ao (tD b)))≠0:=by
 have e:QK=10000000:=rfl
 simp only[(bb _).2]
 have k1:=Dr ha;have k2:=Dr hb
 rw[ha.nums.1,ha.nums.2,hb.nums.1,hb.nums.2]
 have m1:=b5 (bD a).num (bD b).num
 have m3:=b5 ((bD a).den:Int) (bD b).den
 exact⟨⟨(fF ha).1,(fF hb).1⟩,⟨(fF ha).2,(fF hb).2⟩,(uK (k:=20000001) (by omega)).mono' (by omega),(uK (k:=20000001) (by omega)).mono' (by omega),Int.mul_ne_zero (eH _) (eH _)⟩
theorem JF{a b:List UInt8}(ha:GQ QK a)(hb:GQ QK b):bp (Rat.divInt (ao (Lib.itoa (ao (tN a)*ao (tN b)))) (ao (Lib.itoa (ao (tD a)*ao (tD b)))))=bp (bD a*bD b):=by
 simp only[(bb _).2]
 rw[ha.nums.1,ha.nums.2,hb.nums.1,hb.nums.2,<- lV]
theorem JG{p q:List (List UInt8)}(h: ¬ (p.length:Int)=(q.length:Int)):false=decide (p=q):=by
 symm
 rw[decide_eq_false_iff_not]
 rintro rfl
 exact h rfl
theorem Gb{p q:List (List UInt8)}{k:Nat}(he:p.length=q.length)(hk:k<p.length)(h:p.take k=q.take k)(hb:nth .str p (k:Int)=nth .str q (k:Int)):p.take (k+1)=q.take (k+1):=by
 rw[fD (t:= .str) hk,fD (t:= .str) (by omega:k<q.length)] at hb
 rw[List.take_succ_eq_append_getElem hk,List.take_succ_eq_append_getElem (by omega:k<q.length),h,hb]
theorem JH{p q:List (List UInt8)}{k:Nat}(hb: ¬nth .str p (k:Int)=nth .str q (k:Int)):false=decide (p=q):=by
 symm
 rw[decide_eq_false_iff_not]
 rintro rfl
 exact hb rfl
theorem JI{p q:List (List UInt8)}{k:Nat}(he:p.length=q.length)(hk: ¬k<p.length)(h:p.take k=q.take k):true=decide (p=q):=by
 symm
 rw[decide_eq_true_iff]
 rwa [List.take_of_length_le (by omega),List.take_of_length_le (by omega)] at h
theorem Ds{s:List UInt8}{k:Nat}:(((s.getD (k:Int).toNat 0).toNat:Nat):Int)=47↔s.getD k 0=47:=by
 rw[Int.toNat_natCast]
 constructor
 ·intro h
  exact UInt8.toNat_inj.1 (by show _=47;omega)
 ·intro h;rw[h];rfl
theorem Gc{s:List UInt8}{k:Nat}(hl:s.length<=1000000000)(hk:k<s.length):((0:Int)<=0/\(0:Int)<=(k:Int)/\(k:Int)<=((s.length:Nat):Int))/\
  (0:Int)<=IntKind.i64.wrap ((k:Int)+1)/\IntKind.i64.wrap ((k:Int)+1)<=((s.length:Nat):Int)/\((s.length:Nat):Int)<=((s.length:Nat):Int):=by
 rw[wi (by omega) (by omega)];omega
def nl(p:List (List UInt8)):List Rat:=p.map bD
def GL(K:Nat)(p:List (List UInt8)):Prop:=∀ q∈p,GQ K q
theorem GL.tx{K:Nat}{p:List (List UInt8)}(h:GL K p):txP (nl p)=p:=by
 unfold txP nl
 rw[List.map_map]
 conv=>rhs;rw[<- List.map_id p]
 exact List.map_congr_left fun q hq=>(h q hq).1
theorem GL.lq{K:Nat}{p:List (List UInt8)}(h:GL K p):∀ x∈nl p,lq x<=K:=by
 intro x hx
 obtain⟨q,hq,rfl⟩:=List.mem_map.1 hx
 exact(h q hq).2
theorem oI{K:Nat}{l:List Rat}(h:∀ x∈l,lq x<=K):GL K (txP l):=by
 intro q hq
 obtain⟨x,hx,rfl⟩:=List.mem_map.1 hq
 exact kU (h x hx)
theorem kr(l:List Rat):nl (txP l)=l:=Dd l
theorem iR(p:List (List UInt8)):(nl p).length=p.length:=by simp[nl]
theorem GL.mono{K m:Nat}{p:List (List UInt8)}(h:GL K p)(hm:K<=m):GL m p:=fun q hq=>⟨(h q hq).1,Nat.le_trans (h q hq).2 hm⟩
theorem GL.ex{K:Nat}{p:List (List UInt8)}(h:GL K p):∃ l,p=txP l/\∀ x∈l,Cm.lq x<=K:=⟨nl p,h.tx.symm,h.lq⟩
theorem JJ{l:List Rat}{k:Nat}(h:k<l.length):nth .str (txP l) (k:Int)=bp (cf l k):=by
 rw[fD (t:= .str) (by rw[bY];exact h)]
 unfold txP cf
 rw[List.getElem_map,List.getD_eq_getElem?_getD,List.getElem?_eq_getElem h];rfl
theorem nI:bp 0= [48]:=ie.2 rfl
theorem mP{p:List (List UInt8)}{K:Nat}(h:GL K p){k:Nat}(hk:k<p.length):nth .str p (k:Int)=bp (cf (nl p) k):=by
 have:=JJ (l:=nl p) (k:=k) (by rw[iR];exact hk)
 rwa [h.tx] at this
theorem JK{p:List (List UInt8)}{k:Nat}(hk: ¬k<p.length): [48]=bp (cf (nl p) k):=by
 rw[c7 (by rw[iR];omega),nI]
theorem Dt{l:List Rat}(h:0<l.length)(hl:l.length<=1000000000):nth .str (txP l) (IntKind.i64.wrap ((l.length:Int)-1))=bp (aJ l):=by
 rw[cd hl,show (l.length:Int)-1=((l.length-1:Nat):Int) by omega,JJ (by omega),b8 h]
theorem LO{l:List Rat}(hl:l.length<=1000000000)(hb:(0:Int)<((txP l).length:Int))(hc:nth .str (txP l) (IntKind.i64.wrap (((txP l).length:Int)-1))= [48]):0<l.length/\aJ l=0:=by
 rw[bY] at hb hc
 rw[Dt (by omega) hl,ie] at hc
 exact⟨by omega,hc⟩
theorem LP{l:List Rat}(hl:l.length<=1000000000)(hb:(0:Int)<((txP l).length:Int)-> ¬nth .str (txP l) (IntKind.i64.wrap (((txP l).length:Int)-1))= [48]):aR l=l:=by
 rw[bY] at hb
 by_cases h:l= []
 ·subst h;rfl
 ·have h1:=List.length_pos_iff.2 h
  have h2:=hb (by omega)
  rw[Dt h1 hl,ie] at h2
  exact lY h h2
theorem BW{l:List Rat}(hl:l.length<=1000000000)(h:decide ((0:Int)<((txP l).length:Int))=true):decide ((0:Int)<((txP l).length:Int))=true/\0<=IntKind.i64.wrap (((txP l).length:Int)-1)/\IntKind.i64.wrap (((txP l).length:Int)-1)<((txP l).length:Int):=by
 have h1:=of_decide_eq_true h
 refine⟨h,?_⟩
 rw[bY] at h1 ⊢
 rw[cd hl];omega
theorem BX{l l0:List Rat}{K:Nat}(hl:l.length<=1000000000)(g1:l.length<=l0.length)(g2:∀ x∈l,lq x<=K)(g3:aR l=aR l0)(h:0<l.length/\aJ l=0):
  List.take (IntKind.i64.wrap (((txP l).length:Int)-1)).toNat (txP l)=txP l.dropLast/\l.dropLast.length<=l0.length/\(∀ x∈l.dropLast,lq x<=K)/\aR l.dropLast=aR l0/\l.dropLast.length<l.length:=by
 rw[bY,cd hl,show ((l.length:Int)-1).toNat=l.length-1 by omega]
 refine⟨?_,by rw[List.length_dropLast];omega,fun x hx=>g2 x (List.dropLast_subset _ hx),?_,by rw[List.length_dropLast];omega⟩
 ·unfold txP;rw[<- List.map_take,List.dropLast_eq_take]
 ·rw[<- g3,lZ (List.length_pos_iff.1 h.1) h.2]
def QK2:Nat:=4000000
theorem sS(l:List Rat)(x:Rat):txP (l++ [x])=txP l++ [bp x]:=by simp[txP]
theorem uL{K:Nat}{p:List (List UInt8)}(h:GL K p)(hK:1<=K)(i:Nat):lq (cf (nl p) i)<=K:=jQ h.lq hK i
theorem nJ{p q:List (List UInt8)}(hp:GL QK2 p)(hq:GL QK2 q)(k:Nat):(GL QK p/\(0:Int)<=(k:Int))/\(GL QK q/\(0:Int)<=(k:Int))/\GQ QK (bp (cf (nl p) (k:Int).toNat))/\GQ QK (bp (cf (nl q) (k:Int).toNat)):=by
 have e:QK=10000000:=rfl
 have e2:QK2=4000000:=rfl
 rw[Int.toNat_natCast]
 have h1:=uL hp (by omega) k
 have h2:=uL hq (by omega) k
 exact⟨⟨hp.mono (by omega),by omega⟩,⟨hq.mono (by omega),by omega⟩,kU (by omega),kU (by omega)⟩
theorem BZ{p q:List (List UInt8)}{k n:Nat}(h:k<n)(hn:n<=1000000):∃ z:Nat,IntKind.i64.wrap ((k:Int)+1)=(z:Int)/\txP (bK (· + ·) (nl p) (nl q) k)++ [bp (bD (bp (cf (nl p) (k:Int).toNat))+bD (bp (cf (nl q) (k:Int).toNat)))]=txP (bK (· + ·) (nl p) (nl q) z)/\z<=n/\n-z<n-k:=by
 refine⟨k+1,by rw[wi (by omega) (by omega)];omega,?_,by omega,by omega⟩
 rw[Int.toNat_natCast,dN,dN,mJ,sS]
theorem Gd{p q:List (List UInt8)}(hp:GL QK2 p)(hq:GL QK2 q)(k:Nat):GL QK (txP (bK (· + ·) (nl p) (nl q) k)):=by
 refine oI fun x hx=> ?_
 obtain⟨i,_,rfl⟩:=List.mem_map.1 hx
 have e:QK=10000000:=rfl
 have e2:QK2=4000000:=rfl
 have h1:=uL hp (by omega) i
 have h2:=uL hq (by omega) i
 have:=nv (cf (nl p) i) (cf (nl q) i)
 show lq (cf (nl p) i+cf (nl q) i)<=_
 omega
theorem JL{p q:List (List UInt8)}{k:Nat}(h1:k<=max p.length q.length)(h: ¬k<max p.length q.length):txP (aR (nl (txP (bK (· + ·) (nl p) (nl q) k))))=txP (bH (· + ·) (nl p) (nl q)):=by
 have e:k=max p.length q.length:=by omega
 unfold bH
 rw[kr,iR,iR,<- e]
def eW(c:Rat)(l:List Rat):List Rat:=aR (l.map fun x=>c*x)
def ij(k:Nat)(l:List Rat):List Rat:=aR (List.replicate k 0++l)
theorem yQ{c:List UInt8}{p:List (List UInt8)}{K:Nat}(hp:GL K p){k:Nat}(h:k<p.length)(hn:p.length<=1000000):∃ z:Nat,IntKind.i64.wrap ((k:Int)+1)=(z:Int)/\txP (((nl p).take k).map fun x=>bD c*x)++ [bp (bD c*bD (nth .str p (k:Int)))]=txP (((nl p).take z).map fun x=>bD c*x)/\z<=p.length/\p.length-z<p.length-k:=by
 refine⟨k+1,by rw[wi (by omega) (by omega)];omega,?_,by omega,by omega⟩
 rw[mP hp h,dN,List.take_succ_eq_append_getElem (by rw[iR];exact h),List.map_append,<- sS]
 congr 2
 unfold cf
 rw[List.getD_eq_getElem?_getD,List.getElem?_eq_getElem (by rw[iR];exact h)];rfl
theorem B0{c:List UInt8}{p:List (List UInt8)}(hc:GQ QK2 c)(hp:GL QK2 p)(k:Nat):GL QK (txP (((nl p).take k).map fun x=>bD c*x)):=by
 refine oI fun x hx=> ?_
 obtain⟨y,hy,rfl⟩:=List.mem_map.1 hx
 have e:QK=10000000:=rfl
 have e2:QK2=4000000:=rfl
 have:=lW (bD c) y
 have:=hc.2
 have:=hp.lq y (List.mem_of_mem_take hy)
 omega
theorem Ge{c:List UInt8}{p:List (List UInt8)}{k:Nat}(h: ¬k<p.length):txP (aR (nl (txP (((nl p).take k).map fun x=>bD c*x))))=txP (eW (bD c) (nl p)):=by
 rw[kr,List.take_of_length_le (by rw[iR];omega)];rfl
theorem JM(k:Nat):List.replicate k [48]++ [[48]]=List.replicate (k+1) ([48]:List UInt8):=(List.replicate_succ' ..).symm
theorem LQ(k:Nat):txP (List.replicate k 0)=List.replicate k [48]:=by unfold txP;rw[List.map_replicate,nI]
theorem B1{p:List (List UInt8)}(hp:GL QK p)(k:Nat):GL QK (List.replicate k [48]++p):=by
 intro q hq
 rcases List.mem_append.1 hq with h|h
 ·rw[(List.mem_replicate.1 h).2,<- nI]
  exact kU (Nat.le_trans iE (by unfold QK;decide))
 ·exact hp q h
theorem Gf(p q:List (List UInt8)):nl (p++q)=nl p++nl q:=by simp[nl]
theorem Nf(k:Nat):nl (List.replicate k [48])=List.replicate k 0:=by rw[<- LQ,kr]
theorem Gg{p:List (List UInt8)}{k:Nat}:txP (aR (nl (List.replicate k [48]++p)))=txP (ij k (nl p)):=by
 rw[Gf,Nf];rfl
def eG(l m:List Rat):Nat->List Rat
 |0=> []
 |i+1=>bH (· + ·) (eG l m i) (ij i (eW (cf l i) m))
theorem JN(c:Rat)(l:List Rat)(x:Rat):aQ (eW c l) x=c*aQ l x:=by
 unfold eW
 rw[iG]
 induction l with
 |nil=>simp only[List.map_nil,fW];grind
 |cons a l ih=>simp only[List.map_cons,gJ,ih];grind
theorem JO(k:Nat)(l:List Rat)(x:Rat):aQ (ij k l) x=x^k*aQ l x:=by
 unfold ij
 rw[iG,nA,BH,List.length_replicate];grind
theorem Du(l m:List Rat)(x:Rat):∀ i,i<=l.length->aQ (eG l m i) x=aQ (l.take i) x*aQ m x
 |0,_=>by simp only[eG,List.take_zero,fW];grind
 |i+1,h=>by
  rw[eG,BI,JO,JN,Du l m x i (by omega),oZ l i x (by omega)]
  grind
theorem JP(l m:List Rat):∀ i,Trm (eG l m i)
 |0=>Db
 |i+1=>eD _ _ _
theorem LR{l m:List Rat}(hl:Trm l)(hm:Trm m):eG l m l.length=cE l m:=
 l6 (JP _ _ _) (mL hl hm) fun x=>by rw[Du l m x _ (Nat.le_refl _),List.take_length,nB]
theorem yR{c:Rat}{l:List Rat}{K:Nat}(hc:lq c<=K)(hl:∀ x∈l,lq x<=K):∀ x∈eW c l,lq x<=2*K:=by
 intro x hx
 obtain⟨y,hy,rfl⟩:=List.mem_map.1 (fY x hx)
 have:=lW c y
 have:=hl y hy
 omega
theorem yS{k:Nat}{l:List Rat}{K:Nat}(hK:1<=K)(hl:∀ x∈l,lq x<=K):∀ x∈ij k l,lq x<=K:=by
 intro x hx
 rcases List.mem_append.1 (fY x hx) with h|h
 ·rw[(List.mem_replicate.1 h).2];exact Nat.le_trans iE hK
 ·exact hl x h
theorem Ng{l m:List Rat}{K M:Nat}(hK:1<=K)(hM:1<=M)(hl:∀ x∈l,lq x<=K)(hm:∀ x∈m,lq x<=M):∀ x∈bH (· + ·) l m,lq x<=K+M+1:=by
 intro x hx
 obtain⟨i,_,rfl⟩:=List.mem_map.1 (fY x hx)
 have h1:=jQ hl hK i
 have h2:=jQ hm hM i
 have:=nv (cf l i) (cf m i)
 show lq (cf l i+cf m i)<=_
 omega
theorem Dv{l m:List Rat}{K:Nat}(hK:1<=K)(hl:∀ x∈l,lq x<=K)(hm:∀ x∈m,lq x<=K):∀ i,∀ x∈eG l m i,lq x<=1+i*(2*K+1)
 |0=>by intro x hx;simp[eG] at hx
 |i+1=>by
  intro x hx
  have h1:=Ng (by omega) (by omega:1<=2*K) (Dv hK hl hm i) (yS (k:=i) (by omega) (yR (jQ hl hK i) hm)) x hx
  rw[Nat.add_mul]
  omega
theorem uM(c:Rat)(l:List Rat):(eW c l).length<=l.length:=by
 have:=dM (l.map fun x=>c*x)
 rwa [List.length_map] at this
theorem uN(k:Nat)(l:List Rat):(ij k l).length<=k+l.length:=by
 have:=dM (List.replicate k 0++l)
 rw[List.length_append,List.length_replicate] at this
 exact this
theorem yT(l m:List Rat):∀ i,(eG l m i).length<=i+m.length
 |0=>by simp[eG]
 |i+1=>by
  have h1:=yT l m i
  have h2:=fc (· + ·) (eG l m i) (ij i (eW (cf l i) m))
  have h3:=uN i (eW (cf l i) m)
  have h4:=uM (cf l i) m
  rw[eG];omega
def JQ(p q:List (List UInt8)):Prop:=GL 10000 p/\GL 10000 q/\p.length<=100/\q.length<=100
theorem Gh{p q:List (List UInt8)}(h:JQ p q){k:Nat}(hk:k<p.length):(GQ QK2 (nth .str p (k:Int))/\GL QK2 q/\q.length<=1000000)/\(GL QK (txP (eW (bD (nth .str p (k:Int))) (nl q)))/\(0:Int)<=(k:Int)/\(k:Int)<=1000000/\(txP (eW (bD (nth .str p (k:Int))) (nl q))).length<=1000000)/\
  GL QK2 (txP (eG (nl p) (nl q) k))/\GL QK2 (txP (ij (k:Int).toNat (nl (txP (eW (bD (nth .str p (k:Int))) (nl q))))))/\(txP (eG (nl p) (nl q) k)).length<=1000000/\(txP (ij (k:Int).toNat (nl (txP (eW (bD (nth .str p (k:Int))) (nl q)))))).length<=1000000:=by
 obtain⟨hp,hq,hl,hl2⟩:=h
 have e:QK=10000000:=rfl
 have e2:QK2=4000000:=rfl
 rw[mP hp hk,dN,kr,Int.toNat_natCast]
 have h1:=uL hp (by omega) k
 have s1:=yR h1 hq.lq
 have s2:=yS (k:=k) (by omega) s1
 have s3:=Dv (by omega) hp.lq hq.lq k
 have l1:=uM (cf (nl p) k) (nl q)
 have l2:=uN k (eW (cf (nl p) k) (nl q))
 have l3:=yT (nl p) (nl q) k
 rw[iR] at l1 l3
 refine⟨⟨kU (by omega),hq.mono (by omega),by omega⟩,⟨oI fun x hx=>by have:=s1 x hx;omega,by omega,by omega,by rw[bY];omega⟩,oI fun x hx=> ?_,oI fun x hx=>by have:=s2 x hx;omega,by rw[bY];omega,by rw[bY];omega⟩
 have:=s3 x hx
 have h9:k*(2*10000+1)<=100*(2*10000+1):=Nat.mul_le_mul_right _ (by omega)
 omega
theorem B2{p q:List (List UInt8)}(h:JQ p q){k:Nat}(hk:k<p.length):∃ z:Nat,IntKind.i64.wrap ((k:Int)+1)=(z:Int)/\txP (bH (· + ·) (nl (txP (eG (nl p) (nl q) k))) (nl (txP (ij (k:Int).toNat (nl (txP (eW (bD (nth .str p (k:Int))) (nl q))))))))=txP (eG (nl p) (nl q) z)/\z<=p.length/\p.length-z<p.length-k:=by
 have hl:=h.2.2.1
 refine⟨k+1,by rw[wi (by omega) (by omega)];omega,?_,by omega,by omega⟩
 rw[mP h.1 hk,dN,kr,kr,kr,Int.toNat_natCast];rfl
theorem JR{p q:List (List UInt8)}{k:Nat}(h1:k<=p.length)(h: ¬k<p.length):txP (eG (nl p) (nl q) k)=txP (eG (nl p) (nl q) p.length):=by
 rw[show k=p.length by omega]
theorem NQ{k a b:Nat}(h:(decide ((k:Int)<(a:Int))||decide ((k:Int)<(b:Int)))=true):k<max a b:=by
 rw[Bool.or_eq_true,decide_eq_true_iff,decide_eq_true_iff] at h;omega
theorem NR{k a b:Nat}(h:(decide ((k:Int)<(a:Int))||decide ((k:Int)<(b:Int)))=false): ¬k<max a b:=by
 rw[Bool.or_eq_false_iff,decide_eq_false_iff_not,decide_eq_false_iff_not] at h;omega
theorem sU{n:Nat}(h:n<=3000000):Cm.Roomy 1 n:=vY (by omega)
theorem B3{p q:List (List UInt8)}(hp:GL QK2 p)(hq:GL QK2 q){k:Nat}(hk:k<=1000000):(GL QK p/\(0:Int)<=(k:Int))/\(GL QK q/\(0:Int)<=(k:Int))/\(GQ QK (bp (cf (nl p) (k:Int).toNat))/\GQ QK (bp (cf (nl q) (k:Int).toNat)))/\Cm.Roomy 1 ((txP (bK (· + ·) (nl p) (nl q) k)).length+1):=
 ⟨(nJ hp hq k).1,(nJ hp hq k).2.1,(nJ hp hq k).2.2,sU (by rw[bY,et];omega)⟩
theorem yU{c:List UInt8}{p:List (List UInt8)}(hc:GQ QK2 c)(hp:GL QK2 p)(hl:p.length<=1000000){k:Nat}(hk:k<p.length):((0:Int)<=(k:Int)/\(k:Int)<((p.length:Nat):Int))/\(GQ QK c/\GQ QK (nth .str p (k:Int)))/\Cm.Roomy 1 ((txP (List.map (fun x=>bD c*x) (List.take k (nl p)))).length+1):=by
 have e:QK=10000000:=rfl
 have e2:QK2=4000000:=rfl
 have h1:=uL hp (by omega) k
 refine⟨by omega,⟨⟨hc.1,by have:=hc.2;omega⟩,by rw[mP hp hk];exact kU (by omega)⟩,sU ?_⟩
 rw[bY,List.length_map,List.length_take,iR];omega
abbrev DPD:=List Int×Int×List Int
def kt(d:DPD):Prop:=(∀ n∈d.1, -128<=n/\n<128)/\(0<=d.2.1/\d.2.1<256)/\∀ n∈d.2.2, -128<=n/\n<128
def Nh(d:DPD)(n:Int):Rat:=Rat.divInt (n.tmod 10) (1+d.2.1.tmod 4)
def ik(d:DPD)(k:Nat):List Rat:=(d.1.take k).map (Nh d)
def lG(r:Int):List Rat:= [Rat.divInt (-r.tmod 8) 2,1]
def lp(d:DPD):Nat->List Rat
 |0=>aR (ik d 5)
 |i+1=>cE (lp d i) (lG (d.2.2.getD i 0))
def mQ(d:DPD):List Rat:=lp d (min d.2.2.length 4)
theorem iJ(n:Int)(m:Int)(hm:0<m): -m<n.tmod m/\n.tmod m<m:=by
 have h1:=Int.tmod_lt_of_pos n hm
 have h2:=Int.tmod_lt_of_pos (-n) hm
 rw[Int.neg_tmod] at h2
 omega
theorem ku{n:Int}(h:n.natAbs<1000000000):lw n<=1:=lE (by show _<(1000000000:Int)^1;omega)
theorem Dw{d:DPD}(h:kt d)(l:List Int):Den 1 (l.map (Nh d)):=by
 obtain⟨_,⟨h1,h2⟩,_⟩:=h
 have hD:=iJ d.2.1 4 (by decide)
 have h0:0<=d.2.1.tmod 4:=Int.tmod_nonneg _ h1
 refine⟨1+d.2.1.tmod 4,by omega,ku (by omega),fun i=> ?_⟩
 by_cases hi:i<l.length
 ·refine⟨l[i].tmod 10,ku (by have:=iJ l[i] 10 (by decide);omega),?_⟩
  unfold cf
  rw[List.getD_eq_getElem?_getD,List.getElem?_map,List.getElem?_eq_getElem hi];rfl
 ·exact⟨0,by rw[gH];omega,by rw[c7 (by rw[List.length_map];omega),Rat.zero_divInt]⟩
theorem uO(r:Int):Trm (lG r):=fun _=>by unfold lG aJ;show (1:Rat)≠0;decide
theorem yV(r:Int):Den 1 (lG r):=by
 have h:=iJ r 8 (by decide)
 refine⟨2,by decide,ku (by decide),fun i=> ?_⟩
 match i with
 |0=>exact⟨-r.tmod 8,ku (by omega),rfl⟩
 |1=>exact⟨2,ku (by decide),by show (1:Rat)=_;decide+kernel⟩
 |i+2=>exact⟨0,by rw[gH];omega,by rw[c7 (by unfold lG;simp),Rat.zero_divInt]⟩
theorem mR{d:DPD}(h:kt d):∀ i,i<=4->Sml (5+i) (1+2*i) (lp d i)
 |0,_=>⟨by
   have:=dM (ik d 5)
   unfold lp
   have h2:(ik d 5).length<=5:=by unfold ik;rw[List.length_map,List.length_take];omega
   omega,ib _,ko (Dw h _)⟩
 |i+1,hi=>by
  have ih:=mR h i (by omega)
  have:=ih.mul (l2:=lG (d.2.2.getD i 0)) (m:=2) (c:=1) (k:=5+(i+1)) ⟨by unfold lG;simp,uO _,yV _⟩ (by omega) (by omega) (by omega) (by omega)
  exact⟨this.len,this.trm,this.den.mono (by omega)⟩
theorem uP{d:DPD}(h:kt d):Sml 9 9 (mQ d):=by
 have:=mR h (min d.2.2.length 4) (by omega)
 exact⟨by have:=this.len;unfold mQ;omega,this.trm,this.den.mono (by omega)⟩
abbrev I8:Ty:= .int .i8
theorem JS{l:List Int}{k:Nat}(hk:k<l.length):nth I8 l (k:Int)=l[k]:=fD (t:=I8) hk
theorem Ni{d:DPD}{k:Nat}(hk:k<d.1.length):txP (ik d k)++ [bp (Nh d (nth I8 d.1 (k:Int)))]=txP (ik d (k+1)):=by
 rw[<- sS]
 unfold ik
 rw[JS hk,List.take_succ_eq_append_getElem hk,List.map_append];rfl
theorem JT{d:DPD}{k:Nat}(h: ¬ (k<d.1.length/\k<5))(hk:k<=d.1.length/\k<=5):ik d k=ik d 5:=by
 unfold ik
 by_cases h5:k=5
 ·rw[h5]
 ·rw[List.take_of_length_le (by omega),List.take_of_length_le (by omega)]
theorem Dx{d:DPD}(h:kt d)(k:Nat):GL QK (txP (ik d k))/\(txP (ik d k)).length<=k:=by
 refine⟨oI fun x hx=>Nat.le_trans ((Dw h (d.1.take k)).lq x hx) (by unfold QK;decide),?_⟩
 rw[bY];unfold ik;rw[List.length_map,List.length_take];omega
theorem Nj{d:DPD}{k:Nat}(h:(txP (ik d k)).length<=k)(hk:k<=d.1.length/\k<=5):(txP (ik d k)).length<=1000000000:=by omega
theorem yW(r:Int):txP (lG r)= [bp (Rat.divInt (-r.tmod 8) 2), [49]]:=by
 have h1:bp 1= [49]:=by decide+kernel
 unfold lG txP
 simp[h1]
theorem LS{d:DPD}(h:kt d){i:Nat}(hi:i<=4)(r:Int):JQ (txP (lp d i)) [bp (Rat.divInt (-r.tmod 8) 2), [49]]:=by
 have hs:=mR h i hi
 rw[<- yW]
 refine⟨oI fun x hx=>Nat.le_trans (hs.den.lq x hx) (by omega),oI fun x hx=>Nat.le_trans ((yV r).lq x hx) (by omega),by rw[bY];have:=hs.len;omega,by rw[bY];unfold lG;simp⟩
theorem Nk{d:DPD}(h:kt d){i:Nat}(hi:i<d.2.2.length)(hi4:i<4):txP (eG (nl (txP (lp d i))) (nl [bp (Rat.divInt (-(nth I8 d.2.2 (i:Int)).tmod 8) 2), [49]]) (txP (lp d i)).length)=txP (lp d (i+1)):=by
 rw[<- yW,kr,kr,bY,LR (mR h i (by omega)).trm (uO _),lp,JS hi]
 congr 3
 rw[List.getD_eq_getElem?_getD,List.getElem?_eq_getElem hi];rfl
theorem Nl{d:DPD}{i:Nat}(h: ¬ (i<d.2.2.length/\i<4))(hk:i<=d.2.2.length/\i<=4):txP (lp d i)=txP (mQ d):=by
 unfold mQ
 rw[show min d.2.2.length 4=i by omega]
theorem Mw{k a n:Nat}(h:(decide ((k:Int)<(a:Int))&&decide ((k:Int)<(n:Int)))=true):k<a/\k<n:=by
 rw[Bool.and_eq_true,decide_eq_true_iff,decide_eq_true_iff] at h;omega
theorem Mx{k a n:Nat}(h:(decide ((k:Int)<(a:Int))&&decide ((k:Int)<(n:Int)))=false): ¬ (k<a/\k<n):=by
 rw[Bool.and_eq_false_iff,decide_eq_false_iff_not,decide_eq_false_iff_not] at h;omega
theorem NS{d:DPD}(h:kt d){k:Nat}(hk:k<d.2.2.length):IntKind.i64.wrap (0-(IntKind.i64.wrap (nth I8 d.2.2 (k:Int))).tmod 8)= -(nth I8 d.2.2 (k:Int)).tmod 8:=by
 have h1:=h.2.2 (nth I8 d.2.2 (k:Int)) (fU (t:=I8) hk)
 rw[wi (x:=nth I8 d.2.2 (k:Int)) (by omega) (by omega)]
 have h2:=iJ (nth I8 d.2.2 (k:Int)) 8 (by decide)
 rw[wi (by omega) (by omega)];omega
theorem NU{d:DPD}(h:kt d){k:Nat}(hk:k<d.1.length):IntKind.i64.wrap (nth I8 d.1 (k:Int))=nth I8 d.1 (k:Int):=by
 have h1:=h.1 (nth I8 d.1 (k:Int)) (fU (t:=I8) hk)
 exact wi (by omega) (by omega)
theorem Gi{d:DPD}(h:kt d){k:Nat}(hk:k<d.2.2.length/\k<4):((0:Int)<=(k:Int)/\(k:Int)<((d.2.2.length:Nat):Int))/\(8:Int)≠0/\
  (I64 (IntKind.i64.wrap (0-(IntKind.i64.wrap (nth I8 d.2.2 (k:Int))).tmod 8))/\I64 2/\(2:Int)≠0)/\
   JQ (txP (lp d k)) [bp (Rat.divInt (IntKind.i64.wrap (0-(IntKind.i64.wrap (nth I8 d.2.2 (k:Int))).tmod 8)) 2), [49]]:=by
 rw[NS h hk.1]
 have h2:=iJ (nth I8 d.2.2 (k:Int)) 8 (by decide)
 exact⟨by omega,by decide,⟨by unfold I64;omega,by unfold I64;omega,by decide⟩,LS h (by omega) _⟩
theorem Gj{d:DPD}(h:kt d){k:Nat}(hk:k<d.2.2.length/\k<4):∃ z:Nat,txP (eG (nl (txP (lp d k))) (nl [bp (Rat.divInt (IntKind.i64.wrap (0-(IntKind.i64.wrap (nth I8 d.2.2 (k:Int))).tmod 8)) 2), [49]]) (txP (lp d k)).length)=txP (lp d z)/\
   IntKind.i64.wrap ((k:Int)+1)=(z:Int)/\z<=d.2.2.length/\z<=4/\4-z<4-k:=by
 rw[NS h hk.1]
 exact⟨k+1,Nk h hk.1 hk.2,wi (by omega) (by omega),by omega,by omega,by omega⟩
theorem Nm{d:DPD}{k:Nat}(h: ¬ (k<d.1.length/\k<5))(hk:k<=d.1.length/\k<=5):txP (aR (nl (txP (ik d k))))=txP (lp d 0):=by
 rw[kr,JT h hk];rfl
theorem NV{d:DPD}(h:kt d):IntKind.i64.wrap (1+IntKind.i64.wrap (Int.tmod d.2.1 4))=1+d.2.1.tmod 4:=by
 have hD:=iJ d.2.1 4 (by decide)
 have h0:0<=d.2.1.tmod 4:=Int.tmod_nonneg _ h.2.1.1
 rw[wi (x:=d.2.1.tmod 4) (by omega) (by omega),wi (by omega) (by omega)]
theorem Gk{d:DPD}(h:kt d){k:Nat}(hk:k<d.1.length/\k<5):((0:Int)<=(k:Int)/\(k:Int)<((d.1.length:Nat):Int))/\(10:Int)≠0/\(4:Int)≠0/\
    (I64 ((IntKind.i64.wrap (nth I8 d.1 (k:Int))).tmod 10)/\
      I64 (IntKind.i64.wrap (1+IntKind.i64.wrap (Int.tmod d.2.1 4)))/\
       IntKind.i64.wrap (1+IntKind.i64.wrap (Int.tmod d.2.1 4))≠0)/\
     live [some (txP (ik d k))] 0=true/\Cm.Roomy 1 ((rowOf [some (txP (ik d k))] 0).length+1):=by
 rw[NV h,NU h hk.1]
 have hD:=iJ d.2.1 4 (by decide)
 have h0:0<=d.2.1.tmod 4:=Int.tmod_nonneg _ h.2.1.1
 have hn:=iJ (nth I8 d.1 (k:Int)) 10 (by decide)
 refine⟨by omega,by decide,by decide,⟨by unfold I64;omega,by unfold I64;omega,by omega⟩,rfl,sU ?_⟩
 show (txP (ik d k)).length+1<=_
 rw[bY];unfold ik;rw[List.length_map,List.length_take];omega
theorem Gl{d:DPD}(h:kt d){k:Nat}(hk:k<d.1.length/\k<5):∃ z:Nat,IntKind.i64.wrap ((k:Int)+1)=(z:Int)/\
   rowOf [some (txP (ik d k))] 0++ [bp (Rat.divInt ((IntKind.i64.wrap (nth I8 d.1 (k:Int))).tmod 10) (IntKind.i64.wrap (1+IntKind.i64.wrap (Int.tmod d.2.1 4))))]=txP (ik d z)/\
    z<=d.1.length/\z<=5/\5-z<5-k:=by
 rw[NV h,NU h hk.1]
 exact⟨k+1,wi (by omega) (by omega),Ni hk.1,by omega,by omega,by omega⟩
theorem N7(a b:Int):(a==b)=decide (a=b):=by rw[Bool.eq_iff_iff,beq_iff_eq,decide_eq_true_iff]
theorem Nn(e:Int)(p q:List (List UInt8)):(e==0&&decide (p=q))=decide (e=0/\p=q):=by rw[N7];exact(Bool.decide_and _ _).symm
def L(l:List (List UInt8)):List (List UInt8):=l
theorem wp1:dvS [[45,49], [48], [48], [49]] [[45,49], [49]]= [[49], [49], [49]]/\dvR [[45,49], [48], [48], [49]] [[45,49], [49]]= []/\dvE [[45,49], [48], [48], [49]] [[45,49], [49]]=0:=by decide+kernel
theorem wp2:dvS [[49], [48], [49]] [[48], [50]]= [[48], [49,47,50]]/\dvR [[49], [48], [49]] [[48], [50]]= [[49]]/\dvE [[49], [48], [49]] [[48], [50]]=0:=by decide+kernel
theorem wp3:dvE [[49]] []=2:=by decide+kernel
theorem wp4:evS [[49], [48], [49]] [49,47,50]= [53,47,52]/\evE [[49], [48], [49]] [49,47,50]=0:=by decide+kernel
theorem wp5:evE [[49]] [50,47,50]=5:=by decide+kernel
theorem wp6:cU cE [[49], [49]] [[45,49], [49]]= [[45,49], [48], [49]]/\cT cE [[49], [49]] [[45,49], [49]]=0:=by decide+kernel
theorem wp7:cU (bH (· + ·)) [[49], [50]] [[49], [45,50]]= [[50]]/\cT (bH (· + ·)) [[49], [50]] [[49], [45,50]]=0:=by decide+kernel
theorem wp8:cU (bH (· - ·)) [[49], [50]] [[49], [50]]= []/\cT (bH (· - ·)) [[49], [50]] [[49], [50]]=0:=by decide+kernel
theorem wp9:cU cx [[45,49], [48], [49]] [[49], [50], [49]]= [[49], [49]]/\cT cx [[45,49], [48], [49]] [[49], [50], [49]]=0:=by decide+kernel
theorem LU:cU cx [[50]] []= [[49]]/\cT cx [[50]] []=0:=by decide+kernel
theorem LW:cU cx [] []= []/\cT cx [] []=0:=by decide+kernel
theorem LX:uF [[49], [48], [49]] [[49], [49]]= [[50], [50], [49]]/\uE [[49], [48], [49]] [[49], [49]]=0:=by decide+kernel
theorem LY:cU (fun a _=>cr a) [[53], [51], [48], [50]] []= [[51], [48], [54]]/\cT (fun a _=>cr a) [[53], [51], [48], [50]] []=0:=by decide+kernel
theorem LZ:cU (fun a _=>cq a) [[50], [45,51], [48], [49]] []= [[45,50], [49], [49]]/\cT (fun a _=>cq a) [[50], [45,51], [48], [49]] []=0:=by decide+kernel
theorem L0:cU (fun a _=>cq a) [[55]] []= [[49]]/\cT (fun a _=>cq a) [[55]] []=0:=by decide+kernel
theorem L1:cL [[49], [48]]=40/\cL [[49,47,48]]=40:=by decide+kernel
theorem wsq:3<=QL/\((((0:Nat):Int)==0)=true->(((0:Nat):Int)==0)=true)/\((((0:Nat):Int)==0)=true->(((0:Nat):Int)==0)=true/\2<=QL)/\((((0:Nat):Int)==0)=true->(((0:Nat):Int)==0)=true)/\
  ((((0:Nat):Int)==0)=true->(((0:Nat):Int)==0)=true)/\((((0:Nat):Int)==0)=true->(((0:Nat):Int)==0)=true/\1<=QL)/\((((0:Nat):Int)==0)=true->(((0:Nat):Int)==0)=true):=by
 unfold QL;decide
theorem ok6:bN (fun p q=>Sz QM p/\Sz QM q/\p.length<=100/\q.length<=100) cE [[49], [49]] [[45,49], [49]]:=NO (n:=4) (K:=1) (by decide+kernel) (by decide+kernel)
theorem ok7:bN (fun p q=>Sz QH p/\Sz QH q/\p.length<=1000/\q.length<=1000) (bH (· + ·)) [[49], [50]] [[49], [45,50]]:=NM (n:=4) (K:=1) (by decide+kernel) (by decide+kernel)
theorem ok8:bN (fun p q=>Sz QH p/\Sz QH q/\p.length<=1000/\q.length<=1000) (bH (· - ·)) [[49], [50]] [[49], [50]]:=NN (n:=4) (K:=1) (by decide+kernel) (by decide+kernel)
theorem ok9:bN iF cx [[45,49], [48], [49]] [[49], [50], [49]]:=Jy (n:=4) (K:=1) (by decide+kernel) (by decide+kernel)
theorem N8:bN iF cx [[50]] []:=Jy (n:=4) (K:=1) (by decide+kernel) (by decide+kernel)
theorem N9:bN iF cx [] []:=Jy (n:=4) (K:=1) (by decide+kernel) (by decide+kernel)
theorem Oa:wq [[49], [48], [49]] [[49], [49]]:=Nd (n:=4) (m:=4) (K:=1) (by decide+kernel) (by decide+kernel)
theorem Ob:bN (fun p _=>Sz QH p/\p.length<=1000) (fun a _=>cr a) [[53], [51], [48], [50]] []:=NP (n:=4) (K:=1) (by decide+kernel)
theorem Oc:bN (fun p _=>lF p) (fun a _=>cq a) [[50], [45,51], [48], [49]] []:=Ms (n:=4) (K:=1) (by decide+kernel)
theorem Od:bN (fun p _=>lF p) (fun a _=>cq a) [[55]] []:=Ms (n:=4) (K:=1) (by decide+kernel)
theorem NW:c6 [[49], [48]]/\c6 [[49,47,48]]:=by unfold c6 QL;decide
end Go.Cm
end
section
namespace Go.Proofs.YtdojbabpnaifoaaGreatDoor
open Go Go.Cm Go.Proofs
theorem Np:cS Tryz.prog 84 .func:=Cq (by kernel_rfl) ⟨_,_,_,Tryz.underlying84⟩
theorem NX:cS Tryz.prog 109 .func:=Cq (by kernel_rfl) ⟨_,_,_,Tryz.underlying109⟩
def wu(B:aj):Tab:={types:= [(3,(.int .i64)),(181,(.slice (.int .i64)))],elems:= [],cons:= [],hint:= [],N:=21,base:=B}
theorem Dy{B:aj}(hB:aC B):aH Tryz.prog (wu B):=⟨⟨tc ty3 (tc je (ae)),af,by simp only[wu,ioB];omega⟩,bL rfl,by kernel_rfl⟩
def lH:Con:=fun l os=>match l,os with
 | [.z (.slice (.int .i64)) d], []=>some (D.Lim d/\d.length<CAP, [.z (.slice (.int .i64)) (D.limbs (D.valL d).toNat)], [])
 |_,_=>none
theorem mS{B:aj}(hB:aC B):Valid B Tryz.prog 183 lH:=by
 refine ab (Dy hB).tab Tryz.func183 rfl rfl rfl ?_
 intro args os C rs os' hc hC
 unfold lH at hc
 split at hc
 case h_2=>cases hc
 rename_i d
 cases hc
 refine v_h (Dy hB) fun X hP hT hr hG=> ?_
 have hU:=wu.eq_1
 unfold wu at hT
 have hX:=Bool.not_true
 simp only[Tryz.f183,aD,al,ioB]
 refine s_g hG ?_
 refine ak ?_
 refine au ?_
 refine br (fun(z:List Int)=>(⟨[(0, .l (.z (.slice (.int .i64)) z))], []⟩:aa)) (fun z=>D.Lim z/\D.valL z=D.valL d/\z.length<=d.length) (fun z=>z.length) d ?_ ?_ ?_
 ·simp only[ml0,ml1,Nat.reduceLT,Nat.reduceEqDiff,Nat.reduceAdd,Nat.reduceMul,Nat.reduceSub,Nat.reduceLeDiff,Nat.reduceBEq,Nat.reduceBNe,reduceIte,reduceDIte,reduceCtorEq]
 ·exact⟨hC.1,rfl,Nat.le_refl _⟩
 ·rintro z ⟨g1,g2,g3⟩
  try dsimp only at g1 g2 g3
  have h4:z.length<1000000000000:=Nat.lt_of_le_of_lt g3 hC.2
  refine ak ?_
  refine s_q hG ?_ ?_
  ·try simp only[ba]
   exact⟨id,id,fun h=>⟨h,by simp only[decide_eq_true_eq] at h;rw[wi (by omega) (by omega)];omega⟩,id⟩
  refine aq ?_ ?_
  ·intro hb0
   try simp only[bt] at hb0
   refine ar ?_
   refine ah ?_
   refine au ?_
   refine ag hG ?_ ?_
   ·try simp only[ba]
    rw[wi (by omega) (by omega)];omega
   refine aP ?_
   show ∃ z,_
   refine q_l ?_
   exact D.whole_round g1 g2 g3 hb0.1 h4 hb0.2
  ·intro hb0
   try simp only[bf] at hb0
   refine bg ?_
   refine aE ?_
   refine ax ?_
   refine aw ?_
   refine ah ?_
   refine s_g hG ?_
   refine az ?_
   refine q_e [] ?_
   refine D.cut_fin g1 g2 fun hz h0=> ?_
   have:=hb0 (by simp;omega)
   rw[wi (by omega) (by omega),D.last_eq hz] at this
   exact this h0
def wv(B:aj):Tab:={types:= [(3,(.int .i64)),(181,(.slice (.int .i64)))],elems:= [],cons:= [],hint:= [],N:=41,base:=B}
theorem Dz{B:aj}(hB:aC B):aH Tryz.prog (wv B):=⟨⟨tc ty3 (tc je (ae)),af,by simp only[wv,ioB];omega⟩,bL rfl,by kernel_rfl⟩
def gU:Con:=fun l os=>match l,os with
 | [.z (.slice (.int .i64)) m, .z (.slice (.int .i64)) o], []=>some (D.Cano m/\D.Cano o/\m.length<CAP/\o.length<CAP, [.z (.int .i64) (bu (D.valL m) (D.valL o))], [])
 |_,_=>none
theorem yX{B:aj}(hB:aC B):Valid B Tryz.prog 160 gU:=by
 refine ab (Dz hB).tab Tryz.func160 rfl rfl rfl ?_
 intro args os C rs os' hc hC
 unfold gU at hc
 split at hc
 case h_2=>cases hc
 rename_i m o
 cases hc
 refine v_h (Dz hB) fun X hP hT hr hG=> ?_
 have hU:=wv.eq_1
 unfold wv at hT
 have hX:=Bool.not_true
 simp only[Tryz.f160,aD,al,ioB]
 refine s_g hG ?_
 refine ak ?_
 refine s_g hG ?_
 refine aq ?_ ?_
 ·intro hb0
  try simp only[bt] at hb0
  refine ak ?_
  refine s_g hG ?_
  refine aq ?_ ?_
  ·intro hb1
   try simp only[bt] at hb1
   refine s_g hG ?_
   refine az ?_
   refine aA ?_
   refine aA ?_
   refine q_e [] ?_
   unfold bu
   rw[if_pos (D.cmp_len hC.1 hC.2.1 (by omega))]
  ·intro hb1
   try simp only[bf] at hb1
   refine ar ?_
   refine ah ?_
   refine s_g hG ?_
   refine az ?_
   refine aA ?_
   refine q_e [] ?_
   have:=D.cmp_len hC.2.1 hC.1 (by omega)
   unfold bu
   rw[if_neg (by omega),if_pos this]
 ·intro hb0
  simp only[bne_eq_false_iff_eq] at hb0
  obtain⟨c1,c2,c3,c4⟩:=hC
  have c3:List.length m<1000000000000:=c3
  have hl:List.length m=List.length o:=by omega
  refine ar ?_
  refine ah ?_
  refine ak ?_
  refine s_g hG ?_
  refine au ?_
  refine br (fun(z:Nat)=>(⟨[(0, .l (.z (.slice (.int .i64)) m)),(1, .l (.z (.slice (.int .i64)) o)),(5, .l (.z (.int .i64) ((z:Int)-1)))], []⟩:aa)) (fun z=>z<=List.length m/\List.drop z m=List.drop z o) (fun z=>z) (List.length m) ?_ ?_ ?_
  ·refine q_l ?_
   exact wi (by omega) (by omega)
  ·exact⟨Nat.le_refl _,by rw[List.drop_length,List.drop_of_length_le (by omega)]⟩
  ·rintro k ⟨g1,g2⟩
   try dsimp only at g1 g2
   refine ak ?_
   refine s_g hG ?_
   refine aq ?_ ?_
   ·intro hb2
    try simp only[bt] at hb2
    refine ar ?_
    refine ah ?_
    refine ak ?_
    refine au ?_
    refine s_d hG ?_ ?_
    ·try simp only[ba]
     exact⟨⟨by omega,by omega⟩,by omega,by omega⟩
    refine aq ?_ ?_
    ·intro hb3
     try simp only[bt] at hb3
     refine ak ?_
     refine s_d hG ?_ ?_
     ·try simp only[ba]
      exact⟨⟨by omega,by omega⟩,by omega,by omega⟩
     refine aq ?_ ?_
     ·intro hb4
      try simp only[bt] at hb4
      refine s_g hG ?_
      refine az ?_
      refine aA ?_
      refine bC ?_
      refine aA ?_
      refine en ?_
      refine bC ?_
      refine aA ?_
      refine q_e [] ?_
      obtain⟨j,rfl⟩:∃ j,k=j+1:=⟨k-1,by omega⟩
      have hk:((j+1:Nat):Int)-1=(j:Int):=by omega
      rw[hk] at hb4
      exact(D.cmp_less c1 c2 hl (by omega) g2 hb4).symm
     ·intro hb4
      try simp only[bf] at hb4
      refine ar ?_
      refine ah ?_
      refine s_g hG ?_
      refine az ?_
      refine bC ?_
      refine aA ?_
      refine en ?_
      refine bC ?_
      refine aA ?_
      refine q_e [] ?_
      obtain⟨j,rfl⟩:∃ j,k=j+1:=⟨k-1,by omega⟩
      have hk:((j+1:Nat):Int)-1=(j:Int):=by omega
      rw[hk] at hb3 hb4
      have hb5:List.getD o j 0<List.getD m j 0:=D.gt_of hb4 hb3
      exact(D.cmp_more c1 c2 hl (by omega) g2 hb5).symm
    ·intro hb3
     try simp only[bf] at hb3
     refine ar ?_
     refine aP ?_
     refine ah ?_
     refine ag hG ?_ ?_
     ·first|trivial|omega|(simp;done)|(simp;omega)
     show ∃ z,_
     refine q_l ?_
     obtain⟨j,rfl⟩:∃ j,k=j+1:=⟨k-1,by omega⟩
     have hk:((j+1:Nat):Int)-1=(j:Int):=by omega
     rw[hk] at hb3 ⊢
     exact⟨j,wi (by omega) (by omega),by omega,D.drop_step hl (by omega) g2 hb3,by omega⟩
   ·intro hb2
    try simp only[bf] at hb2
    refine bg ?_
    refine aE ?_
    refine ax ?_
    refine aw ?_
    refine ah ?_
    refine s_g hG ?_
    refine az ?_
    refine q_e [] ?_
    have:k=0:=by omega
    subst this
    simp only[List.drop_zero] at g2
    rw[g2];simp[bu]
def wx(B:aj):Tab:={types:= [(3,(.int .i64)),(181,(.slice (.int .i64)))],elems:= [(181,3)],cons:= [],hint:= [],N:=54,base:=B}
theorem DA{B:aj}(hB:aC B):aH Tryz.prog (wx B):=⟨⟨tc ty3 (tc je (ae)),aS (by kernel_rfl) (af),by simp only[wx,ioB];omega⟩,bL rfl,by kernel_rfl⟩
def wy:Con:=fun l os=>match l,os with
 | [.z (.slice (.int .i64)) m, .z (.slice (.int .i64)) o], []=>some (D.Cano m/\D.Cano o/\m.length<CAP/\o.length<CAP, [.z (.slice (.int .i64)) (D.limbs (D.valL m+D.valL o).toNat)], [])
 |_,_=>none
theorem JU{B:aj}(hB:aC B):Valid B Tryz.prog 159 wy:=by
 refine ab (DA hB).tab Tryz.func159 rfl rfl rfl ?_
 intro args os C rs os' hc hC
 unfold wy at hc
 split at hc
 case h_2=>cases hc
 rename_i m o
 cases hc
 refine v_h (DA hB) fun X hP hT hr hG=> ?_
 have hU:=wx.eq_1
 unfold wx at hT
 have hX:=Bool.not_true
 simp only[Tryz.f159,aD,al,ioB]
 refine s_g hG ?_
 refine s_g hG ?_
 refine s_g hG ?_
 refine ak ?_
 refine s_g hG ?_
 refine au ?_
 refine br (fun(z:Nat×Int×List Int)=>(⟨[(0, .l (.z (.slice (.int .i64)) m)),(1, .l (.z (.slice (.int .i64)) o)),(5, .l (.ownS 50)),(6, .l (.z (.int .i64) z.2.1)),(7, .l (.z (.int .i64) (z.1:Int)))], [(50, .arr (.int .i64) 3 z.2.2)]⟩:aa)) (fun z=>D.PlusPhi m o z.1 z.2.1 z.2.2) (fun z=>2*(max (List.length m) (List.length o)-z.1)+z.2.1.toNat) (0,0, []) ?_ ?_ ?_
 ·refine q_l ?_
  exact⟨rfl,by unfold ioB;omega⟩
 ·exact D.plus_start
 ·rintro⟨k,c,out⟩ hz
  try dsimp only at hz
  obtain⟨c1,c2,c3,c4⟩:=hC
  have c3:List.length m<1000000000000:=c3
  have c4:List.length o<1000000000000:=c4
  have hw:=D.plus_n c1.1 c2.1 hz
  have hk:=hz.hk
  refine ak ?_
  refine s_q hG ?_ ?_
  ·try simp only[ba]
   (repeat' (first|apply And.intro|intro _))<;>(try simp only[decide_eq_true_eq,decide_eq_false_iff_not,Bool.not_eq_true',beq_iff_eq,Int.toNat_natCast] at*)<;>first|assumption|omega|trivial|(simp_all;done)|(simp_all;omega)
  refine aq ?_ ?_
  ·intro hb0
   simp only[Bool.or_eq_true,decide_eq_true_eq] at hb0
   have hkk:k<List.length m∨k<List.length o∨(0:Int)<c:=by omega
   have hks:=hz.hs
   have hkM:k<=max (List.length m) (List.length o):=D.plus_k hz (by omega)
   have hb0:(k<List.length m∨k<List.length o)∨(0:Int)<c:=by omega
   refine ar ?_
   refine ah ?_
   refine ak ?_
   refine au ?_
   refine s_g hG ?_
   refine cm (fun(z:Int)=>(⟨[(0, .l (.z (.slice (.int .i64)) m)),(1, .l (.z (.slice (.int .i64)) o)),(5, .l (.ownS 50)),(6, .l (.z (.int .i64) c)),(7, .l (.z (.int .i64) (k:Int))),(8, .l (.z (.int .i64) z))], [(50, .arr (.int .i64) 3 out)]⟩:aa)) (fun z=>z=c+m.getD k 0) ?_ ?_
   ·refine s_g hG ?_
    refine aq ?_ ?_
    ·intro hb1
     try simp only[bt] at hb1
     refine ag hG ?_ ?_
     ·try simp only[ba]
      exact⟨by omega,by omega⟩
     show ∃ z,_
     refine q_l ?_
     first|exact hw.1|(rw[D.getD_none (by omega)];exact(Int.add_zero _).symm)
    ·intro hb1
     try simp only[bf] at hb1
     refine ar ?_
     show ∃ z,_
     refine q_l ?_
     first|exact hw.1|(rw[D.getD_none (by omega)];exact(Int.add_zero _).symm)
   rintro n1 hn1
   try dsimp only at hn1
   refine cm (fun(z:Int)=>(⟨[(0, .l (.z (.slice (.int .i64)) m)),(1, .l (.z (.slice (.int .i64)) o)),(5, .l (.ownS 50)),(6, .l (.z (.int .i64) c)),(7, .l (.z (.int .i64) (k:Int))),(8, .l (.z (.int .i64) z))], [(50, .arr (.int .i64) 3 out)]⟩:aa)) (fun z=>z=c+m.getD k 0+o.getD k 0) ?_ ?_
   ·refine s_g hG ?_
    refine aq ?_ ?_
    ·intro hb2
     try simp only[bt] at hb2
     refine ag hG ?_ ?_
     ·try simp only[ba]
      exact⟨by omega,by omega⟩
     show ∃ z,_
     refine q_l ?_
     subst hn1
     first|exact hw.2.1|(rw[D.getD_none (l:=o) (by omega)];exact(Int.add_zero _).symm)
    ·intro hb2
     try simp only[bf] at hb2
     refine ar ?_
     show ∃ z,_
     refine q_l ?_
     subst hn1
     first|exact hw.2.1|(rw[D.getD_none (l:=o) (by omega)];exact(Int.add_zero _).symm)
   rintro n hn
   try dsimp only at hn
   refine s_q hG ?_ ?_
   ·try simp only[ba]
    exact⟨by decide,by unfold Cm.Roomy;omega⟩
   refine ag hG ?_ ?_
   ·try simp only[ba]
    decide
   refine aP ?_
   refine ah ?_
   refine ag hG ?_ ?_
   ·first|trivial|omega|(simp;done)|(simp;omega)
   show ∃ z,_
   refine q_l ?_
   obtain⟨q1,q2⟩:=D.plus_next c1.1 c2.1 hz hb0 hn
   exact⟨k+1,by rw[wi (by omega) (by omega)];simp,q1,q2⟩
  ·intro hb0
   simp only[Bool.or_eq_false_iff,decide_eq_false_iff_not] at hb0
   refine bg ?_
   refine aE ?_
   refine ax ?_
   refine aw ?_
   refine ah ?_
   refine s_g hG ?_
   refine az ?_
   refine q_e [50] ?_
   exact D.plus_fin c1 c2 hz (by omega)
def wz(B:aj):Tab:={types:= [(3,(.int .i64)),(181,(.slice (.int .i64)))],elems:= [(181,3)],cons:= [(183,lH)],hint:= [],N:=41,base:=B}
theorem DB{B:aj}(hB:aC B):aH Tryz.prog (wz B):=⟨⟨tc ty3 (tc je (ae)),aS (by kernel_rfl) (af),by simp only[wz,ioB];omega⟩,aF (cc Tryz.func183 (mS hB) (ay)),by kernel_rfl⟩
def kV:Con:=fun l os=>match l,os with
 | [.z (.slice (.int .i64)) m, .z (.slice (.int .i64)) o], []=>some (D.Cano m/\D.Cano o/\D.valL o<=D.valL m/\m.length<CAP, [.z (.slice (.int .i64)) (D.limbs (D.valL m-D.valL o).toNat)], [])
 |_,_=>none
theorem yY{B:aj}(hB:aC B):Valid B Tryz.prog 161 kV:=by
 refine ab (DB hB).tab Tryz.func161 rfl rfl rfl ?_
 intro args os C rs os' hc hC
 unfold kV at hc
 split at hc
 case h_2=>cases hc
 rename_i m o
 cases hc
 refine v_h (DB hB) fun X hP hT hr hG=> ?_
 have hU:=wz.eq_1
 unfold wz at hT
 have hX:= @lH.eq_1
 simp only[Tryz.f161,aD,al,ioB]
 refine s_g hG ?_
 refine s_g hG ?_
 refine s_g hG ?_
 refine ak ?_
 refine s_g hG ?_
 refine au ?_
 refine br (fun(z:Nat×Int×List Int)=>(⟨[(0, .l (.z (.slice (.int .i64)) m)),(1, .l (.z (.slice (.int .i64)) o)),(5, .l (.ownS 38)),(6, .l (.z (.int .i64) z.2.1)),(7, .l (.z (.int .i64) (z.1:Int)))], [(38, .arr (.int .i64) 3 z.2.2)]⟩:aa)) (fun z=>D.MinusPhi m o z.1 z.2.1 z.2.2) (fun z=>List.length m-z.1) (0,0, []) ?_ ?_ ?_
 ·refine q_l ?_
  exact⟨rfl,by unfold ioB;omega⟩
 ·exact D.minus_start
 ·rintro⟨k,b,out⟩ hz
  try dsimp only at hz
  obtain⟨c1,c2,c3,c4⟩:=hC
  have c4:List.length m<1000000000000:=c4
  have hw:=D.minus_w c1.1 c2.1 hz
  have hkm:=hz.hkm
  have hk:=hz.hk
  refine ak ?_
  refine s_g hG ?_
  refine aq ?_ ?_
  ·intro hb0
   try simp only[bt] at hb0
   refine ar ?_
   refine ah ?_
   refine ak ?_
   refine au ?_
   refine s_q hG ?_ ?_
   ·try simp only[ba]
    exact⟨by omega,by omega⟩
   refine cm (fun(z:Int)=>(⟨[(0, .l (.z (.slice (.int .i64)) m)),(1, .l (.z (.slice (.int .i64)) o)),(5, .l (.ownS 38)),(6, .l (.z (.int .i64) b)),(7, .l (.z (.int .i64) (k:Int))),(8, .l (.z (.int .i64) z))], [(38, .arr (.int .i64) 3 out)]⟩:aa)) (fun z=>z=m.getD k 0-b-o.getD k 0) ?_ ?_
   ·refine s_g hG ?_
    refine aq ?_ ?_
    ·intro hb1
     try simp only[bt] at hb1
     refine ag hG ?_ ?_
     ·try simp only[ba]
      exact⟨by omega,by omega⟩
     show ∃ z,_
     refine q_l ?_
     first|(rw[D.nth64,hw.1];exact hw.2.1)|(rw[D.nth64,hw.1,D.getD_none (l:=o) (by omega)];exact(Int.sub_zero _).symm)
    ·intro hb1
     try simp only[bf] at hb1
     refine ar ?_
     show ∃ z,_
     refine q_l ?_
     first|(rw[D.nth64,hw.1];exact hw.2.1)|(rw[D.nth64,hw.1,D.getD_none (l:=o) (by omega)];exact(Int.sub_zero _).symm)
   rintro n hn
   try dsimp only at hn
   refine s_g hG ?_
   refine cm (fun(z:Unit)=>(⟨[(0, .l (.z (.slice (.int .i64)) m)),(1, .l (.z (.slice (.int .i64)) o)),(5, .l (.ownS 38)),(6, .l (.z (.int .i64) (D.borrowed n))),(7, .l (.z (.int .i64) (k:Int))),(8, .l (.z (.int .i64) (n+10000*D.borrowed n)))], [(38, .arr (.int .i64) 3 out)]⟩:aa)) (fun z=>True) ?_ ?_
   ·refine s_g hG ?_
    refine aq ?_ ?_
    ·intro hb2
     try simp only[bt] at hb2
     refine s_g hG ?_
     refine ag hG ?_ ?_
     ·first|trivial|omega|(simp;done)|(simp;omega)
     show ∃ z,_
     refine q_l ?_
     first|exact D.borrow_t hb2 (by rw[hn];exact hw.2.2)|exact D.borrow_f hb2
    ·intro hb2
     try simp only[bf] at hb2
     refine ar ?_
     show ∃ z,_
     refine q_l ?_
     first|exact D.borrow_t hb2 (by rw[hn];exact hw.2.2)|exact D.borrow_f hb2
   rintro⟨⟩ hu
   try dsimp only at hu
   refine ag hG ?_ ?_
   ·try simp only[ba]
    unfold Cm.Roomy;omega
   refine aP ?_
   refine ah ?_
   refine ag hG ?_ ?_
   ·first|trivial|omega|(simp;done)|(simp;omega)
   show ∃ z,_
   refine q_l ?_
   exact⟨k+1,by rw[wi (by omega) (by omega)];simp,D.minus_next c1.1 c2.1 hz (by omega) hn,by omega⟩
  ·intro hb0
   try simp only[bf] at hb0
   refine bg ?_
   refine aE ?_
   refine ax ?_
   refine aw ?_
   refine ah ?_
   refine s_q hG ?_ ?_
   ·try simp only[ba]
    exact⟨hz.hl,by unfold CAP;omega⟩
   refine az ?_
   refine q_e [] ?_
   rw[(D.minus_fin c1 c2 c3 hz (by omega)).1]
def wA(B:aj):Tab:={types:= [(3,(.int .i64)),(181,(.slice (.int .i64)))],elems:= [(181,3)],cons:= [(183,lH)],hint:= [],N:=66,base:=B}
theorem DC{B:aj}(hB:aC B):aH Tryz.prog (wA B):=⟨⟨tc ty3 (tc je (ae)),aS (by kernel_rfl) (af),by simp only[wA,ioB];omega⟩,aF (cc Tryz.func183 (mS hB) (ay)),by kernel_rfl⟩
def kW:Con:=fun l os=>match l,os with
 | [.z (.slice (.int .i64)) x, .z (.slice (.int .i64)) y], []=>some (D.Lim x/\D.Wid y/\x.length+y.length<CAP, [.z (.slice (.int .i64)) (D.limbs (D.valL x*D.valL y).toNat)], [])
 |_,_=>none
theorem yZ{B:aj}(hB:aC B):Valid B Tryz.prog 164 kW:=by
 refine ab (DC hB).tab Tryz.func164 rfl rfl rfl ?_
 intro args os C rs os' hc hC
 unfold kW at hc
 split at hc
 case h_2=>cases hc
 rename_i x y
 cases hc
 refine v_h (DC hB) fun X hP hT hr hG=> ?_
 have hU:=wA.eq_1
 unfold wA at hT
 have hX:= @lH.eq_1
 simp only[Tryz.f164,aD,al,ioB]
 refine s_g hG ?_
 refine s_q hG ?_ ?_
 ·try simp only[ba]
  rw[D.len_wrap hC.2.2]
  have c3:List.length x+List.length y<1000000000000:=hC.2.2
  exact⟨by omega,by omega,by unfold Cm.Roomy;omega⟩
 refine ak ?_
 refine s_g hG ?_
 refine au ?_
 refine br (fun(z:Nat×List Int)=>(⟨[(0, .l (.z (.slice (.int .i64)) x)),(1, .l (.z (.slice (.int .i64)) y)),(5, .l (.ownS 15)),(6, .l (.z (.int .i64) (z.1:Int)))], [(15, .arr (.int .i64) 3 z.2)]⟩:aa)) (fun z=>D.TimesPhi x y z.1 z.2) (fun z=>List.length x-z.1) (0,List.replicate (List.length x+List.length y) 0) ?_ ?_ ?_
 ·refine q_l ?_
  exact⟨rfl,by rw[D.len_wrap hC.2.2,Int.toNat_natCast]⟩
 ·exact D.times_start
 ·rintro⟨i,out⟩ hz
  try dsimp only at hz
  obtain⟨c1,c2,c3⟩:=hC
  have c3:List.length x+List.length y<1000000000000:=c3
  have hix:=hz.h1
  have hil:=hz.h2
  refine ak ?_
  refine s_g hG ?_
  refine aq ?_ ?_
  ·intro hb0
   try simp only[bt] at hb0
   refine ar ?_
   refine ah ?_
   refine ak ?_
   refine au ?_
   refine s_g hG ?_
   refine s_g hG ?_
   refine au ?_
   refine br (fun(z:Nat×Int×List Int)=>(⟨[(0, .l (.z (.slice (.int .i64)) x)),(1, .l (.z (.slice (.int .i64)) y)),(5, .l (.ownS 15)),(6, .l (.z (.int .i64) (i:Int))),(7, .l (.z (.int .i64) z.2.1)),(8, .l (.z (.int .i64) (z.1:Int)))], [(15, .arr (.int .i64) 3 z.2.2)]⟩:aa)) (fun z=>D.RowPhi x y i z.1 z.2.1 z.2.2) (fun z=>List.length y+1-z.1) (0,0,out) ?_ ?_ ?_
   ·refine q_l ?_
    rfl
   ·exact D.row_start hz
   ·rintro⟨k,c,out2⟩ hk
    try dsimp only at hk
    have hrb:=D.row_bound (c1.getD i) (c2.getD k) (hk.h3.getD (i+k)) hk.h4
    have hk1:=hk.h1
    have hk2:=hk.h2
    have hik:IntKind.i64.wrap ((i:Int)+(k:Int))=((i+k:Nat):Int):=by rw[wi (by omega) (by omega)];omega
    refine ak ?_
    refine s_q hG ?_ ?_
    ·try simp only[ba]
     (repeat' (first|apply And.intro|intro _))<;>(try simp only[decide_eq_true_eq,decide_eq_false_iff_not,Bool.not_eq_true',beq_iff_eq,Int.toNat_natCast] at*)<;>first|assumption|omega|trivial|(simp_all;done)|(simp_all;omega)
    refine aq ?_ ?_
    ·intro hb1
     simp only[Bool.or_eq_true,decide_eq_true_eq] at hb1
     have hb1:k<List.length y∨0<c:=by omega
     have hin:=(D.row_next c1 c2 (by omega) hk hb1 rfl).1
     refine ar ?_
     refine ah ?_
     refine ak ?_
     refine au ?_
     refine cm (fun(z:Unit)=>(⟨[(0, .l (.z (.slice (.int .i64)) x)),(1, .l (.z (.slice (.int .i64)) y)),(5, .l (.ownS 15)),(6, .l (.z (.int .i64) (i:Int))),(7, .l (.z (.int .i64) c)),(8, .l (.z (.int .i64) (k:Int))),(9, .l (.z (.int .i64) (out2.getD (i+k) 0+c)))], [(15, .arr (.int .i64) 3 out2)]⟩:aa)) (fun z=>True) ?_ ?_
     ·refine ag hG ?_ ?_
      ·try simp only[ba]
       rw[hik];omega
      show ∃ z,_
      refine q_l ?_
      rw[hik,Int.toNat_natCast]
      exact hrb.1
     rintro⟨⟩ hu
     try dsimp only at hu
     refine cm (fun(z:Int)=>(⟨[(0, .l (.z (.slice (.int .i64)) x)),(1, .l (.z (.slice (.int .i64)) y)),(5, .l (.ownS 15)),(6, .l (.z (.int .i64) (i:Int))),(7, .l (.z (.int .i64) c)),(8, .l (.z (.int .i64) (k:Int))),(9, .l (.z (.int .i64) z))], [(15, .arr (.int .i64) 3 out2)]⟩:aa)) (fun z=>z=out2.getD (i+k) 0+c+x.getD i 0*y.getD k 0) ?_ ?_
     ·refine s_g hG ?_
      refine aq ?_ ?_
      ·intro hb2
       try simp only[bt] at hb2
       refine gp hG ?_ ?_
       ·try simp only[ba]
        exact⟨⟨by omega,by omega⟩,by omega,by omega⟩
       show ∃ z,_
       refine q_l ?_
       first|(rw[D.nth64,D.nth64,hrb.2.1];exact hrb.2.2.1)|(rw[D.getD_none (l:=y) (by omega),Int.mul_zero];exact(Int.add_zero _).symm)
      ·intro hb2
       try simp only[bf] at hb2
       refine ar ?_
       show ∃ z,_
       refine q_l ?_
       first|(rw[D.nth64,D.nth64,hrb.2.1];exact hrb.2.2.1)|(rw[D.getD_none (l:=y) (by omega),Int.mul_zero];exact(Int.add_zero _).symm)
     rintro n hn
     try dsimp only at hn
     refine s_q hG ?_ ?_
     ·try simp only[ba]
      rw[hik];exact⟨by decide,by omega⟩
     refine ag hG ?_ ?_
     ·try simp only[ba]
      decide
     refine aP ?_
     refine ah ?_
     refine ag hG ?_ ?_
     ·first|trivial|omega|(simp;done)|(simp;omega)
     show ∃ z,_
     refine q_l ?_
     obtain⟨q1,q2⟩:=D.row_next c1 c2 (by omega) hk hb1 hn
     rw[hik,Int.toNat_natCast]
     exact⟨k+1,by rw[wi (by omega) (by omega)];simp,q2,by omega⟩
    ·intro hb1
     simp only[Bool.or_eq_false_iff,decide_eq_false_iff_not] at hb1
     refine bg ?_
     refine aE ?_
     refine ax ?_
     refine aw ?_
     refine aP ?_
     refine ah ?_
     refine ag hG ?_ ?_
     ·first|trivial|omega|(simp;done)|(simp;omega)
     show ∃ z,_
     refine q_l ?_
     exact⟨i+1,by rw[wi (by omega) (by omega)];simp,D.row_end (by omega) hk (by omega),by omega⟩
  ·intro hb0
   try simp only[bf] at hb0
   refine bg ?_
   refine aE ?_
   refine ax ?_
   refine aw ?_
   refine ah ?_
   refine s_q hG ?_ ?_
   ·try simp only[ba]
    exact⟨hz.h3,by unfold CAP;omega⟩
   refine az ?_
   refine q_e [] ?_
   rw[D.times_fin hz (by omega)]
def wB(B:aj):Tab:={types:= [(5,(.int .u8)),(9, .str)],elems:= [],cons:= [],hint:= [],N:=6,base:=B}
theorem DD{B:aj}(hB:aC B):aH Tryz.prog (wB B):=⟨⟨tc ty5 (tc ty9 (ae)),af,by simp only[wB,ioB];omega⟩,bL rfl,by kernel_rfl⟩
def cQ:Con:=fun l os=>match l,os with
 | [.z .str s], []=>some (RF s, [.z .bool (decide (ao s<0))], [])
 |_,_=>none
theorem kv{B:aj}(hB:aC B):Valid B Tryz.prog 157 cQ:=by
 refine ab (DD hB).tab Tryz.func157 rfl rfl rfl ?_
 intro args os C rs os' hc hC
 unfold cQ at hc
 split at hc
 case h_2=>cases hc
 rename_i s
 cases hc
 refine v_h (DD hB) fun X hP hT hr hG=> ?_
 have hU:=wB.eq_1
 unfold wB at hT
 have hX:=Bool.not_true
 simp only[Tryz.f157,aD,al,ioB]
 refine s_g hG ?_
 refine s_q hG ?_ ?_
 ·try simp only[ba]
  exact⟨by omega,mF hC⟩
 refine az ?_
 refine q_e [] ?_
 exact Bm hC
def wC(B:aj):Tab:={types:= [(3,(.int .i64)),(5,(.int .u8)),(9, .str),(181,(.slice (.int .i64)))],elems:= [(181,3)],cons:= [(183,lH)],hint:= [],N:=40,base:=B}
theorem DE{B:aj}(hB:aC B):aH Tryz.prog (wC B):=⟨⟨tc ty3 (tc ty5 (tc ty9 (tc je (ae)))),aS (by kernel_rfl) (af),by simp only[wC,ioB];omega⟩,aF (cc Tryz.func183 (mS hB) (ay)),by kernel_rfl⟩
def gv:Con:=fun l os=>match l,os with
 | [.z .str s], []=>some (RF s/\s.length<CAP, [.z (.slice (.int .i64)) (D.limbs (ao s).natAbs)], [])
 |_,_=>none
theorem kx{B:aj}(hB:aC B):Valid B Tryz.prog 156 gv:=by
 refine ab (DE hB).tab Tryz.func156 rfl rfl rfl ?_
 intro args os C rs os' hc hC
 unfold gv at hc
 split at hc
 case h_2=>cases hc
 rename_i s
 cases hc
 refine v_h (DE hB) fun X hP hT hr hG=> ?_
 have hU:=wC.eq_1
 unfold wC at hT
 have hX:= @lH.eq_1
 simp only[Tryz.f156,aD,al,ioB]
 refine s_g hG ?_
 refine cm (fun(z:Unit)=>(⟨[(0, .l (.z .str (av s [45])))], []⟩:aa)) (fun z=>True) ?_ ?_
 ·refine s_q hG ?_ ?_
  ·try simp only[ba]
   exact⟨by omega,mF hC.1⟩
  refine aq ?_ ?_
  ·intro hb0
   try simp only[bt] at hb0
   refine ag hG ?_ ?_
   ·try simp only[ba]
    have:=mF hC.1
    omega
   show ∃ z,_
   refine q_l ?_
   first|exact(yc hC.1 hb0).1|exact yd hC.1 hb0
  ·intro hb0
   try simp only[bf] at hb0
   refine ar ?_
   show ∃ z,_
   refine q_l ?_
   first|exact(yc hC.1 hb0).1|exact yd hC.1 hb0
 rintro⟨⟩ hu
 try dsimp only at hu
 obtain⟨d1,d2,d3⟩:=gG hC.1
 have hl:=fy s [45]
 have hc:List.length s<1000000000000:=hC.2
 refine s_g hG ?_
 refine ak ?_
 refine s_g hG ?_
 refine au ?_
 refine br (fun(z:Nat×List Int)=>(⟨[(0, .l (.z .str (av s [45]))),(3, .l (.ownS 37)),(4, .l (.z (.int .i64) (((av s [45]).length:Int)-4*(z.1:Int))))], [(37, .arr (.int .i64) 3 z.2)]⟩:aa)) (fun z=>D.ReadPhi (av s [45]) z.1 z.2) (fun z=>(av s [45]).length+4-4*z.1) (0, []) ?_ ?_ ?_
 ·refine q_l ?_
  exact⟨by show ((av s [45]).length:Int)=((av s [45]).length:Int)-4*((0:Nat):Int);omega,by unfold ioB;omega⟩
 ·exact D.read_start
 ·rintro⟨r,out⟩ hz
  try dsimp only at hz
  have hz1:=hz.1
  have hz4:=hz.2.2.2
  refine ak ?_
  refine s_g hG ?_
  refine aq ?_ ?_
  ·intro hb1
   try simp only[bt] at hb1
   refine ar ?_
   refine ah ?_
   refine ak ?_
   refine au ?_
   refine s_g hG ?_
   refine ak ?_
   refine s_g hG ?_
   refine au ?_
   refine br (fun(z:Nat)=>(⟨[(0, .l (.z .str (av s [45]))),(3, .l (.ownS 37)),(4, .l (.z (.int .i64) (((av s [45]).length:Int)-4*(r:Int)))),(5, .l (.z (.int .i64) (D.part (av s [45]) ((av s [45]).length-4*(r+1)) z))),(6, .l (.z (.int .i64) (z:Int)))], [(37, .arr (.int .i64) 3 out)]⟩:aa)) (fun z=>(av s [45]).length-4*(r+1)<=z/\z<=(av s [45]).length-4*r) (fun z=>(av s [45]).length-z) ((av s [45]).length-4*(r+1)) ?_ ?_ ?_
   ·refine q_l ?_
    exact D.read_le0 (by omega) (by omega)
   ·omega
   ·rintro i hi
    try dsimp only at hi
    refine ak ?_
    refine s_g hG ?_
    refine aq ?_ ?_
    ·intro hb2
     try simp only[bt] at hb2
     refine ar ?_
     refine ah ?_
     refine ak ?_
     refine au ?_
     refine ag hG ?_ ?_
     ·try simp only[ba]
      exact⟨by omega,by omega⟩
     refine aP ?_
     refine ah ?_
     refine ag hG ?_ ?_
     ·first|trivial|omega|(simp;done)|(simp;omega)
     show ∃ z,_
     refine q_l ?_
     rw[Int.toNat_natCast]
     exact⟨i+1,D.part_next d1 (by omega) (by omega) (by omega),by rw[wi (by omega) (by omega)];simp,by omega,by omega,by omega⟩
    ·intro hb2
     try simp only[bf] at hb2
     refine bg ?_
     refine aE ?_
     refine ax ?_
     refine aw ?_
     refine ah ?_
     refine ag hG ?_ ?_
     ·try simp only[ba]
      unfold Cm.Roomy;omega
     refine aP ?_
     refine ah ?_
     refine ag hG ?_ ?_
     ·first|trivial|omega|(simp;done)|(simp;omega)
     show ∃ z,_
     refine q_l ?_
     have hie:i=(av s [45]).length-4*r:=by omega
     subst hie
     exact⟨r+1,by rw[wi (by omega) (by omega)];show ((av s [45]).length:Int)-4*(r:Int)-4=((av s [45]).length:Int)-4*((r+1:Nat):Int);omega,D.read_next d1 hz (by omega),by omega⟩
  ·intro hb1
   try simp only[bf] at hb1
   refine bg ?_
   refine aE ?_
   refine ax ?_
   refine aw ?_
   refine ah ?_
   refine s_q hG ?_ ?_
   ·try simp only[ba]
    exact⟨hz.2.1,by unfold CAP;omega⟩
   refine az ?_
   refine q_e [] ?_
   exact D.valL_limbs hz (by omega)
def wD(B:aj):Tab:={types:= [(3,(.int .i64)),(5,(.int .u8)),(9, .str),(47,(.slice (.int .u8))),(181,(.slice (.int .i64)))],elems:= [(47,5)],cons:= [],hint:= [],N:=49,base:=B}
theorem DF{B:aj}(hB:aC B):aH Tryz.prog (wD B):=⟨⟨tc ty3 (tc ty5 (tc ty9 (tc Nx (tc je (ae))))),aS (by kernel_rfl) (af),by simp only[wD,ioB];omega⟩,bL rfl,by kernel_rfl⟩
def eO:Con:=fun l os=>match l,os with
 | [.z .bool neg, .z (.slice (.int .i64)) d], []=>some (D.Cano d/\4*d.length<CAP, [.z .str (Lib.itoa (if neg=true then-D.valL d else D.valL d))], [])
 |_,_=>none
theorem ky{B:aj}(hB:aC B):Valid B Tryz.prog 158 eO:=by
 refine ab (DF hB).tab Tryz.func158 rfl rfl rfl ?_
 intro args os C rs os' hc hC
 unfold eO at hc
 split at hc
 case h_2=>cases hc
 rename_i neg d
 cases hc
 refine v_h (DF hB) fun X hP hT hr hG=> ?_
 have hU:=wD.eq_1
 unfold wD at hT
 have hX:=Bool.not_true
 simp only[Tryz.f158,aD,al,ioB]
 refine s_g hG ?_
 refine ak ?_
 refine s_g hG ?_
 refine aq ?_ ?_
 ·intro hb0
  try simp only[bt] at hb0
  refine s_g hG ?_
  refine az ?_
  refine aA ?_
  refine q_e [] ?_
  exact D.write_nil hb0
 ·intro hb0
  simp only[beq_eq_false_iff_ne,ne_eq] at hb0
  have hne:d≠ []:=by intro e;subst e;exact hb0 rfl
  obtain⟨c1,c2⟩:=hC
  have c2:4*List.length d<1000000000000:=c2
  have hbg:4000000000001<=maxLen:=by decide
  refine ar ?_
  refine ah ?_
  refine s_g hG ?_
  refine ak ?_
  refine s_g hG ?_
  refine au ?_
  refine br (fun(z:Nat×List Int)=>(⟨[(0, .l (.z .bool neg)),(1, .l (.z (.slice (.int .i64)) d)),(5, .l (.ownS 42)),(6, .l (.z (.int .i64) ((z.1:Int)-1)))], [(42, .arr (.int .u8) 5 z.2)]⟩:aa)) (fun z=>z.1<=List.length d/\z.2=(D.dd (D.valL (List.drop z.1 d)).toNat).map fun b=>(b.toNat:Int)) (fun z=>z.1) (List.length d, []) ?_ ?_ ?_
  ·refine q_l ?_
   exact⟨wi (by omega) (by omega),by unfold ioB;omega⟩
  ·exact D.write_phi0 d
  ·rintro⟨k,out⟩ hz
   try dsimp only at hz
   have hz1:=hz.1
   refine ak ?_
   refine s_g hG ?_
   refine aq ?_ ?_
   ·intro hb1
    try simp only[decide_eq_true_eq] at hb1
    obtain⟨i,rfl⟩:∃ i,k=i+1:=⟨k-1,by omega⟩
    have ei:((i+1:Nat):Int)-1=(i:Int):=by omega
    rw[ei]
    refine ar ?_
    refine ah ?_
    refine ak ?_
    refine au ?_
    refine s_g hG ?_
    refine au ?_
    refine br (fun(z:Nat×List Int)=>(⟨[(0, .l (.z .bool neg)),(1, .l (.z (.slice (.int .i64)) d)),(5, .l (.ownS 42)),(6, .l (.z (.int .i64) (i:Int))),(7, .l (.z (.int .i64) (D.unit z.1)))], [(42, .arr (.int .u8) 5 z.2)]⟩:aa)) (fun z=>D.WritePhi d i z.1 z.2) (fun z=>4-z.1) (0,out) ?_ ?_ ?_
    ·refine q_l ?_
     decide
    ·exact D.write_start c1.1 hz.2
    ·rintro⟨j,out2⟩ hj
     try dsimp only at hj
     refine ak ?_
     refine s_g hG ?_
     refine aq ?_ ?_
     ·intro hb2
      try simp only[decide_eq_true_eq] at hb2
      have hj4:=D.unit_pos hb2
      refine ar ?_
      refine ah ?_
      refine ak ?_
      refine au ?_
      refine cm (fun(z:Unit)=>(⟨[(0, .l (.z .bool neg)),(1, .l (.z (.slice (.int .i64)) d)),(5, .l (.ownS 42)),(6, .l (.z (.int .i64) (i:Int))),(7, .l (.z (.int .i64) (D.unit j))),(8, .l (.z (.int .u8) ((48+D.decimal (d.getD i 0) j:Nat):Int)))], [(42, .arr (.int .u8) 5 out2)]⟩:aa)) (fun z=>True) ?_ ?_
      ·refine ag hG ?_ ?_
       ·try simp only[ba]
        exact⟨⟨by omega,by omega⟩,fun h=>by rw[h] at hb2;exact absurd hb2 (by decide),by decide⟩
       show ∃ z,_
       refine q_l ?_
       exact D.decimal_code (c1.1.getD i) hj4
      rintro⟨⟩ hu
      try dsimp only at hu
      refine s_q hG ?_ ?_
      ·try simp only[ba]
       simp[get?,del]
      refine aq ?_ ?_
      ·intro hb3
       have hwl:=D.write_len c1.1 hj (by omega)
       refine ag hG ?_ ?_
       ·try simp only[ba]
        unfold Cm.Roomy;omega
       refine aP ?_
       refine ah ?_
       refine ag hG ?_ ?_
       ·first|trivial|omega|(simp;done)|(simp;omega)
       show ∃ z,_
       refine q_l ?_
       exact⟨j+1,(D.unit_next hj4).1,by first|exact D.write_take c1.1 hj hj4 (D.cond_t hb3)|exact D.write_leave c1.1 hj hj4 (D.cond_f hb3),by omega⟩
      ·intro hb3
       refine ar ?_
       refine aP ?_
       refine ah ?_
       refine ag hG ?_ ?_
       ·first|trivial|omega|(simp;done)|(simp;omega)
       show ∃ z,_
       refine q_l ?_
       exact⟨j+1,(D.unit_next hj4).1,by first|exact D.write_take c1.1 hj hj4 (D.cond_t hb3)|exact D.write_leave c1.1 hj hj4 (D.cond_f hb3),by omega⟩
     ·intro hb2
      try simp only[bf] at hb2
      refine bg ?_
      refine aE ?_
      refine ax ?_
      refine aw ?_
      refine aP ?_
      refine ah ?_
      refine ag hG ?_ ?_
      ·first|trivial|omega|(simp;done)|(simp;omega)
      show ∃ z,_
      refine q_l ?_
      obtain rfl:j=4:=by have:=D.unit_end hb2;have:=hj.hj;omega
      exact⟨i,wi (by omega) (by omega),by omega,D.write_round c1.1 (by omega) hj,by omega⟩
   ·intro hb1
    simp only[decide_eq_false_iff_not] at hb1
    obtain rfl:k=0:=by omega
    have hz2:=hz.2
    rw[List.drop_zero] at hz2
    have hdl:=D.dd_len c1.1
    subst hz2
    refine bg ?_
    refine aE ?_
    refine ax ?_
    refine aw ?_
    refine ah ?_
    refine ak ?_
    refine s_g hG ?_
    refine aq ?_ ?_
    ·intro hb4
     refine s_q hG ?_ ?_
     ·try simp only[ba]
      rw[D.str_of_map]
      omega
     refine az ?_
     refine aA ?_
     refine q_e [] ?_
     rw[D.str_of_map,if_pos hb4]
     exact D.write_minus c1 hne
    ·intro hb4
     refine ar ?_
     refine ah ?_
     refine s_g hG ?_
     refine az ?_
     refine q_e [] ?_
     rw[D.str_of_map,if_neg (by rw[hb4];decide)]
     exact D.write_text c1 hne
end Go.Proofs.YtdojbabpnaifoaaGreatDoor
end
section
namespace Go.Proofs
open Go.RowKit Go.Cm
def DG:Con:=fun l os=>match l,os with
 | [.z .str s], []=>some (chk s=0/\s.length<=9, [.z (.int .i64) (ao s), .val .nilIface], [])
 |_,_=>none
theorem sV:∀ (l:List UInt8) (a:Nat),dn l->Lib.decFrom a l=some (l.foldl (fun n c=>n*10+(c.toNat-48)) a)
 | [],_,_=>rfl
 |c::l,a,hd=>by
  have h1:=hd c (by simp)
  rw[Lib.decFrom,Lib.digitVal,if_pos h1,List.foldl_cons]
  exact sV l _ (fun x hx=>hd x (by simp[hx]))
theorem JV{s:List UInt8}(h:chk s=0):Lib.atoi s=some (ao s):=by
 obtain⟨d1,d2,d3,d4⟩:=A8 h
 cases s with
 |nil=>exact absurd h (by decide)
 |cons b r=>
  unfold Lib.atoi
  dsimp only
  by_cases hb:b=45
  ·subst hb
   obtain⟨p1,p2⟩:=oy r
   rw[p2] at d1 d2
   have hne:r.isEmpty=false:=by cases r<;>simp at d2 ⊢
   simp only[beq_self_eq_true,if_true,Lib.decNat,hne,Bool.false_eq_true,if_false,sV r 0 d1,Option.map_some]
   unfold ao
   rw[p1,p2]
   rfl
  ·have ht:av (b::r) [45]=b::r:=by
    unfold av cY
    rw[if_neg]
    intro e
    simp at e
    exact hb e
   rw[ht] at d1
   obtain⟨p1,p2⟩:=rU d1
   have h43:b≠43:=by
    intro e;subst e
    have:=d1 43 (by simp)
    exact absurd this (by decide)
   rw[if_neg (by simpa using hb),if_neg (by simpa using h43),Lib.decNat,if_neg (by simp),sV _ 0 d1,Option.map_some]
   unfold ao
   rw[p1,p2]
   rfl
theorem JW{B:aj}(hB:aC B):Valid B Tryz.prog 182 DG:=by
 intro args os C rs os' hc hC O w vals ρ0 hOn hIo hO hOI hargs hown hap
 unfold DG at hc
 split at hc
 case h_2=>cases hc
 rename_i s
 cases hc
 obtain⟨u,rfl,hu⟩:=oS hargs
 rw[fl hu]
 obtain⟨h0,h1⟩:=hC
 have hsz:(⟨s.toArray⟩:ByteArray).size=s.length:=by simp[ByteArray.size]
 refine(Tryz.strconv_Atoi ⟨s.toArray⟩ (ao s) (by rw[hsz];omega) (by simpa using JV h0) w).mono fun e w' ⟨he,t,hw⟩=> ?_
 have hb:Below w.heap.size w w':=by
  rw[hw];exact⟨rfl,rfl,rfl,by rw[Lib.bytesWorld_size];omega,fun k hk=>Lib.bytesWorld_at_old w _ _ k hk⟩
 subst he;exact mr (vs:= [.int .i64 (ao s), .nilIface]) hb (fun H M=>⟨bO (ρ:=fun _=>undef),rfl,trivial⟩)
end Go.Proofs
end
section
namespace Go.Proofs.YtdojbabpnaifoaaGreatDoor
open Go Go.Cm Go.Proofs
def DH(B:aj):Tab:={types:= [(3,(.int .i64)),(87,(.slice (.int .u32))),(161,(.int .u32))],elems:= [(87,161)],cons:= [],hint:= [],N:=56,base:=B}
theorem JX{B:aj}(hB:aC B):aH Tryz.prog (DH B):=⟨⟨tc ty3 (tc hZ (tc fB (ae))),aS (by kernel_rfl) (af),by simp only[DH,ioB];omega⟩,bL rfl,by kernel_rfl⟩
def DI:Con:=fun l os=>match l,os with
 | [.z (.slice (.int .u32)) m, .z (.slice (.int .u32)) o], []=>some (Cano m/\Cano o/\m.length+o.length<CAP, [.z (.slice (.int .u32)) (limbs (valL m+valL o).toNat)], [])
 |_,_=>none
theorem L2{B:aj}(hB:aC B):Valid B Tryz.prog 151 DI:=by
 refine ab (JX hB).tab Tryz.func151 rfl rfl rfl ?_
 intro args os C rs os' hc hC
 unfold DI at hc
 split at hc
 case h_2=>cases hc
 rename_i m o
 cases hc
 refine v_h (JX hB) fun X hP hT hr hG=> ?_
 have hU:=DH.eq_1
 unfold DH at hT
 have hX:=Bool.not_true
 simp only[Tryz.f151,aD,al,ioB]
 refine s_g hG ?_
 refine cm (fun(z:List Int×List Int)=>(⟨[(0, .l (.z (.slice (.int .u32)) z.1)),(1, .l (.z (.slice (.int .u32)) z.2))], []⟩:aa)) (fun z=>Cano z.1/\Cano z.2/\z.2.length<=z.1.length/\z.1.length<CAP/\valL z.1+valL z.2=valL m+valL o) ?_ ?_
 ·refine s_g hG ?_
  refine aq ?_ ?_
  ·intro hb0
   try simp only[bt] at hb0
   refine ag hG ?_ ?_
   ·first|trivial|omega|(simp;done)|(simp;omega)
   show ∃ z,_
   refine q_l ?_
   obtain⟨c1,c2,c3⟩:=hC
   first|exact⟨c2,c1,by omega,by omega,Int.add_comm _ _⟩|exact⟨c1,c2,by omega,by omega⟩
  ·intro hb0
   try simp only[bf] at hb0
   refine ar ?_
   show ∃ z,_
   refine q_l ?_
   obtain⟨c1,c2,c3⟩:=hC
   first|exact⟨c2,c1,by omega,by omega,Int.add_comm _ _⟩|exact⟨c1,c2,by omega,by omega⟩
 rintro⟨m,o⟩ ⟨h1,h2,h3,h4,h5⟩
 try dsimp only at h1 h2 h3 h4 h5
 have h4:m.length<1000000000000:=h4
 refine s_q hG ?_ ?_
 ·try simp only[ba]
  rw[wi (by omega) (by omega)]
  exact⟨by omega,by omega,by unfold Cm.Roomy;omega⟩
 refine s_g hG ?_
 refine ak ?_
 refine s_g hG ?_
 refine au ?_
 refine br (fun(z:Nat×Int×List Int)=>(⟨[(0, .l (.z (.slice (.int .u32)) m)),(1, .l (.z (.slice (.int .u32)) o)),(5, .l (.ownS 20)),(6, .l (.z (.int .u32) z.2.1)),(21, .l (.z (.slice (.int .u32)) m)),(22, .l (.z (.int .i64) (m.length:Int))),(23, .l (.z (.int .i64) (z.1:Int)))], [(20, .arr (.int .u32) 161 z.2.2)]⟩:aa)) (fun z=>z.1<=m.length/\z.2.2.length=z.1/\Lim z.2.2/\0<=z.2.1/\z.2.1<=1/\valL z.2.2+LB^z.1*z.2.1=valL (m.take z.1)+valL (o.take z.1)) (fun z=>m.length-z.1) (0,0, []) ?_ ?_ ?_
 ·refine q_l ?_
  exact⟨rfl,rfl⟩
 ·simp[Lim,valL]
 ·rintro⟨k,c,out⟩ ⟨g1,g2,g3,g4,g5,g6⟩
  try dsimp only at g1 g2 g3 g4 g5 g6
  refine s_g hG ?_
  refine ak ?_
  refine aq ?_ ?_
  ·intro hb1
   try simp only[bt] at hb1
   refine ar ?_
   refine ah ?_
   refine ak ?_
   refine au ?_
   refine s_q hG ?_ ?_
   ·try simp only[ba]
    exact⟨by omega,hb1⟩
   refine s_g hG ?_
   refine cm (fun(z:Int)=>(⟨[(0, .l (.z (.slice (.int .u32)) m)),(1, .l (.z (.slice (.int .u32)) o)),(5, .l (.ownS 20)),(9, .l (.z (.int .u32) z)),(21, .l (.z (.slice (.int .u32)) m)),(22, .l (.z (.int .i64) (m.length:Int))),(23, .l (.z (.int .i64) (k:Int)))], [(20, .arr (.int .u32) 161 out)]⟩:aa)) (fun z=>z=m.getD k 0+c+o.getD k 0) ?_ ?_
   ·refine s_g hG ?_
    refine aq ?_ ?_
    ·intro hb2
     try simp only[bt] at hb2
     refine ag hG ?_ ?_
     ·try simp only[ba]
      exact⟨by omega,hb2⟩
     show ∃ z,_
     refine q_l ?_
     have hw:=tQ (h1.1.getD k) (h2.1.getD k) ⟨g4,g5⟩
     first|exact hw.2|(rw[fu,hw.1,List.getD_eq_getElem?_getD (l:=o),List.getElem?_eq_none (by omega)];simp)
    ·intro hb2
     try simp only[bf] at hb2
     refine ar ?_
     show ∃ z,_
     refine q_l ?_
     have hw:=tQ (h1.1.getD k) (h2.1.getD k) ⟨g4,g5⟩
     first|exact hw.2|(rw[fu,hw.1,List.getD_eq_getElem?_getD (l:=o),List.getElem?_eq_none (by omega)];simp)
   rintro n hn
   try dsimp only at hn
   refine s_g hG ?_
   refine ag hG ?_ ?_
   ·try simp only[ba]
    exact⟨by omega,by unfold Cm.Roomy;omega⟩
   refine aP ?_
   refine ah ?_
   refine ag hG ?_ ?_
   ·first|trivial|omega|(simp;done)|(simp;omega)
   show ∃ z,_
   refine q_l ?_
   obtain⟨q1,q2,q3,q4⟩:=A7 h1.1 h2.1 g2 g3 g4 g5 g6 hn
   exact⟨k+1,by rw[wi (by omega) (by omega)];simp,by omega,by simp[g2],q1,q2,q3,q4,by omega⟩
  ·intro hb1
   try simp only[bf] at hb1
   refine bg ?_
   refine aE ?_
   refine ax ?_
   refine aw ?_
   refine ah ?_
   refine cm (fun(z:List Int)=>(⟨[(5, .l (.ownS 20))], [(20, .arr (.int .u32) 161 z)]⟩:aa)) (fun z=>z=limbs (valL m+valL o).toNat) ?_ ?_
   ·refine s_g hG ?_
    refine aq ?_ ?_
    ·intro hb3
     try simp only[bt] at hb3
     refine ag hG ?_ ?_
     ·try simp only[ba]
      unfold Cm.Roomy;omega
     show ∃ z,_
     refine q_l ?_
     have he:=xN (out:=out) (c:=c) h1 h2 h3 (by omega) g3 g4 g5 (by rw[show k=m.length by omega,List.take_length,List.take_of_length_le h3] at g6;exact g6)
     first|exact he.1 hb3|exact he.2 hb3
    ·intro hb3
     try simp only[bf] at hb3
     refine ar ?_
     show ∃ z,_
     refine q_l ?_
     have he:=xN (out:=out) (c:=c) h1 h2 h3 (by omega) g3 g4 g5 (by rw[show k=m.length by omega,List.take_length,List.take_of_length_le h3] at g6;exact g6)
     first|exact he.1 hb3|exact he.2 hb3
   rintro out2 hout
   try dsimp only at hout
   refine s_g hG ?_
   refine az ?_
   refine q_e [] ?_
   rw[hout,h5]
def DJ(B:aj):Tab:={types:= [(3,(.int .i64))],elems:= [],cons:= [],hint:= [],N:=6,base:=B}
theorem JY{B:aj}(hB:aC B):aH Tryz.prog (DJ B):=⟨⟨tc ty3 (ae),af,by simp only[DJ,ioB];omega⟩,bL rfl,by kernel_rfl⟩
def DK:Con:=fun l os=>match l,os with
 | [.z (.int .i64) a], []=>some (True, [.z .bool false], [])
 |_,_=>none
theorem L3{B:aj}(hB:aC B):Valid B Tryz.prog 194 DK:=by
 refine ab (JY hB).tab Tryz.func194 rfl rfl rfl ?_
 intro args os C rs os' hc hC
 unfold DK at hc
 split at hc
 case h_2=>cases hc
 rename_i a
 cases hc
 refine v_h (JY hB) fun X hP hT hr hG=> ?_
 have hU:=DJ.eq_1
 unfold DJ at hT
 have hX:=Bool.not_true
 simp only[Tryz.f194,aD,al,ioB]
 refine s_g hG ?_
 refine s_g hG ?_
 refine az ?_
 refine q_e [] ?_
 trivial
def DL(B:aj):Tab:={types:= [(161,(.int .u32))],elems:= [],cons:= [],hint:= [],N:=6,base:=B}
theorem JZ{B:aj}(hB:aC B):aH Tryz.prog (DL B):=⟨⟨tc fB (ae),af,by simp only[DL,ioB];omega⟩,bL rfl,by kernel_rfl⟩
def DM:Con:=fun l os=>match l,os with
 | [.z (.int .u32) a], []=>some (True, [.z .bool false], [])
 |_,_=>none
theorem L4{B:aj}(hB:aC B):Valid B Tryz.prog 195 DM:=by
 refine ab (JZ hB).tab Tryz.func195 rfl rfl rfl ?_
 intro args os C rs os' hc hC
 unfold DM at hc
 split at hc
 case h_2=>cases hc
 rename_i a
 cases hc
 refine v_h (JZ hB) fun X hP hT hr hG=> ?_
 have hU:=DL.eq_1
 unfold DL at hT
 have hX:=Bool.not_true
 simp only[Tryz.f195,aD,al,ioB]
 refine s_g hG ?_
 refine s_g hG ?_
 refine az ?_
 refine q_e [] ?_
 trivial
def DN(B:aj):Tab:={types:= [(3,(.int .i64))],elems:= [],cons:= [(194,DK)],hint:= [],N:=20,base:=B}
theorem J0{B:aj}(hB:aC B):aH Tryz.prog (DN B):=⟨⟨tc ty3 (ae),af,by simp only[DN,ioB];omega⟩,aF (cc Tryz.func194 (L3 hB) (ay)),by kernel_rfl⟩
def uQ:Con:=fun l os=>match l,os with
 | [.z (.int .i64) a, .z (.int .i64) b], []=>some (True, [.z (.int .i64) (bu a b)], [])
 |_,_=>none
theorem DO{B:aj}(hB:aC B):Valid B Tryz.prog 180 uQ:=by
 refine ab (J0 hB).tab Tryz.func180 rfl rfl rfl ?_
 intro args os C rs os' hc hC
 unfold uQ at hc
 split at hc
 case h_2=>cases hc
 rename_i a b
 cases hc
 refine v_h (J0 hB) fun X hP hT hr hG=> ?_
 have hU:=DN.eq_1
 unfold DN at hT
 have hX:= @DK.eq_1
 simp only[Tryz.f180,aD,al,ioB]
 refine s_g hG ?_
 refine s_g hG ?_
 refine s_g hG ?_
 refine ak ?_
 refine s_g hG ?_
 refine aq ?_ ?_
 ·intro hb0
  cases hb0
 ·intro hb0
  try simp only[bf] at hb0
  refine ar ?_
  refine ah ?_
  refine ak ?_
  refine s_g hG ?_
  refine aq ?_ ?_
  ·intro hb1
   cases hb1
  ·intro hb1
   try simp only[bf] at hb1
   refine ar ?_
   refine ah ?_
   refine ak ?_
   refine s_g hG ?_
   refine aq ?_ ?_
   ·intro hb2
    try simp only[bt] at hb2
    refine s_g hG ?_
    refine az ?_
    refine aA ?_
    refine q_e [] ?_
    rw[bu,if_pos hb2]
   ·intro hb2
    try simp only[bf] at hb2
    refine ar ?_
    refine ah ?_
    refine ak ?_
    refine s_g hG ?_
    refine aq ?_ ?_
    ·intro hb3
     try simp only[bt] at hb3
     refine s_g hG ?_
     refine az ?_
     refine aA ?_
     refine q_e [] ?_
     rw[bu,if_neg (by omega),if_pos hb3]
    ·intro hb3
     try simp only[bf] at hb3
     refine ar ?_
     refine ah ?_
     refine s_g hG ?_
     refine az ?_
     refine q_e [] ?_
     rw[bu,if_neg hb2,if_neg hb3]
def DP(B:aj):Tab:={types:= [(161,(.int .u32))],elems:= [],cons:= [(195,DM)],hint:= [],N:=20,base:=B}
theorem J1{B:aj}(hB:aC B):aH Tryz.prog (DP B):=⟨⟨tc fB (ae),af,by simp only[DP,ioB];omega⟩,aF (cc Tryz.func195 (L4 hB) (ay)),by kernel_rfl⟩
def DQ:Con:=fun l os=>match l,os with
 | [.z (.int .u32) a, .z (.int .u32) b], []=>some (True, [.z (.int .i64) (bu a b)], [])
 |_,_=>none
theorem L5{B:aj}(hB:aC B):Valid B Tryz.prog 181 DQ:=by
 refine ab (J1 hB).tab Tryz.func181 rfl rfl rfl ?_
 intro args os C rs os' hc hC
 unfold DQ at hc
 split at hc
 case h_2=>cases hc
 rename_i a b
 cases hc
 refine v_h (J1 hB) fun X hP hT hr hG=> ?_
 have hU:=DP.eq_1
 unfold DP at hT
 have hX:= @DM.eq_1
 simp only[Tryz.f181,aD,al,ioB]
 refine s_g hG ?_
 refine s_g hG ?_
 refine s_g hG ?_
 refine ak ?_
 refine s_g hG ?_
 refine aq ?_ ?_
 ·intro hb0
  cases hb0
 ·intro hb0
  try simp only[bf] at hb0
  refine ar ?_
  refine ah ?_
  refine ak ?_
  refine s_g hG ?_
  refine aq ?_ ?_
  ·intro hb1
   cases hb1
  ·intro hb1
   try simp only[bf] at hb1
   refine ar ?_
   refine ah ?_
   refine ak ?_
   refine s_g hG ?_
   refine aq ?_ ?_
   ·intro hb2
    try simp only[bt] at hb2
    refine s_g hG ?_
    refine az ?_
    refine aA ?_
    refine q_e [] ?_
    rw[bu,if_pos hb2]
   ·intro hb2
    try simp only[bf] at hb2
    refine ar ?_
    refine ah ?_
    refine ak ?_
    refine s_g hG ?_
    refine aq ?_ ?_
    ·intro hb3
     try simp only[bt] at hb3
     refine s_g hG ?_
     refine az ?_
     refine aA ?_
     refine q_e [] ?_
     rw[bu,if_neg (by omega),if_pos hb3]
    ·intro hb3
     try simp only[bf] at hb3
     refine ar ?_
     refine ah ?_
     refine s_g hG ?_
     refine az ?_
     refine q_e [] ?_
     rw[bu,if_neg hb2,if_neg hb3]
def DR(B:aj):Tab:={types:= [(3,(.int .i64)),(87,(.slice (.int .u32))),(89,(.st (.pair .bool (.slice (.int .u32))))),(161,(.int .u32))],elems:= [],cons:= [],hint:= [],N:=30,base:=B}
theorem J2{B:aj}(hB:aC B):aH Tryz.prog (DR B):=⟨⟨tc ty3 (tc hZ (tc gu (tc fB (ae)))),af,by simp only[DR,ioB];omega⟩,bL rfl,by kernel_rfl⟩
def dQ:Con:=fun l os=>match l,os with
 | [.z .bool s, .z (.slice (.int .u32)) m], []=>some (Lim m/\m.length<CAP, [.z (.st (.pair .bool (.slice (.int .u32)))) (enc (dec (s,m)))], [])
 |_,_=>none
theorem jH{B:aj}(hB:aC B):Valid B Tryz.prog 150 dQ:=by
 refine ab (J2 hB).tab Tryz.func150 rfl rfl rfl ?_
 intro args os C rs os' hc hC
 unfold dQ at hc
 split at hc
 case h_2=>cases hc
 rename_i s m
 cases hc
 refine v_h (J2 hB) fun X hP hT hr hG=> ?_
 have hU:=DR.eq_1
 unfold DR at hT
 have hX:=Bool.not_true
 simp only[Tryz.f150,aD,al,ioB]
 refine s_g hG ?_
 refine ak ?_
 refine au ?_
 refine br (fun(z:List Int)=>(⟨[(0, .l (.z .bool s)),(1, .l (.z (.slice (.int .u32)) z)),(4, .l (.ownP 4 0))], [(4, .box 89 [.z .bool false, .val (.slice none 0 0)])]⟩:aa)) (fun z=>Lim z/\valL z=valL m/\z.length<=m.length) (fun z=>z.length) m ?_ ?_ ?_
 ·simp only[ml0,ml1,Nat.reduceLT,Nat.reduceEqDiff,Nat.reduceAdd,Nat.reduceMul,Nat.reduceSub,Nat.reduceLeDiff,Nat.reduceBEq,Nat.reduceBNe,reduceIte,reduceDIte,reduceCtorEq]
 ·exact⟨hC.1,rfl,Nat.le_refl _⟩
 ·rintro z ⟨g1,g2,g3⟩
  try dsimp only at g1 g2 g3
  have h4:z.length<1000000000000:=Nat.lt_of_le_of_lt g3 hC.2
  refine ak ?_
  refine s_q hG ?_ ?_
  ·try simp only[ba]
   exact⟨id,id,fun h=>⟨h,by simp only[decide_eq_true_eq] at h;rw[wi (by omega) (by omega)];omega⟩,id⟩
  refine aq ?_ ?_
  ·intro hb0
   try simp only[bt] at hb0
   refine ar ?_
   refine ah ?_
   refine au ?_
   refine ag hG ?_ ?_
   ·try simp only[ba]
    rw[wi (by omega) (by omega)];omega
   refine aP ?_
   show ∃ z,_
   refine q_l ?_
   exact whole_round g1 g2 g3 hb0.1 h4 hb0.2
  ·intro hb0
   try simp only[bf] at hb0
   refine bg ?_
   refine aE ?_
   refine ax ?_
   refine aw ?_
   refine ah ?_
   refine s_q hG ?_ ?_
   ·try simp only[ba]
    exact id
   refine az ?_
   refine q_e [] ?_
   refine E8 g1 g2 fun hz h0=> ?_
   have:=hb0 (by simp;omega)
   rw[wi (by omega) (by omega),last_eq hz] at this
   exact this h0
def DS(B:aj):Tab:={types:= [(4, .bool),(87,(.slice (.int .u32))),(89,(.st (.pair .bool (.slice (.int .u32)))))],elems:= [],cons:= [(150,dQ)],hint:= [],N:=9,base:=B}
theorem J3{B:aj}(hB:aC B):aH Tryz.prog (DS B):=⟨⟨tc ty4 (tc hZ (tc gu (ae))),af,by simp only[DS,ioB];omega⟩,aF (cc Tryz.func150 (jH hB) (ay)),by kernel_rfl⟩
def y0:Con:=fun l os=>match l,os with
 | [.z (.st (.pair .bool (.slice (.int .u32)))) x], []=>some (Lim x.2/\x.2.length<CAP, [.z (.st (.pair .bool (.slice (.int .u32)))) (enc (-dec x))], [])
 |_,_=>none
theorem wE{B:aj}(hB:aC B):Valid B Tryz.prog 148 y0:=by
 refine ab (J3 hB).tab Tryz.func148 rfl rfl rfl ?_
 intro args os C rs os' hc hC
 unfold y0 at hc
 split at hc
 case h_2=>cases hc
 rename_i x
 cases hc
 refine v_h (J3 hB) fun X hP hT hr hG=> ?_
 have hU:=DS.eq_1
 unfold DS at hT
 have hX:= @dQ.eq_1
 simp only[Tryz.f148,aD,al,ioB]
 refine s_g hG ?_
 refine s_q hG ?_ ?_
 ·try simp only[ba]
  exact hC
 refine az ?_
 refine q_e [] ?_
 rw[CF]
def DT(B:aj):Tab:={types:= [(3,(.int .i64)),(4, .bool),(87,(.slice (.int .u32))),(89,(.st (.pair .bool (.slice (.int .u32)))))],elems:= [],cons:= [],hint:= [],N:=11,base:=B}
theorem J4{B:aj}(hB:aC B):aH Tryz.prog (DT B):=⟨⟨tc ty3 (tc ty4 (tc hZ (tc gu (ae)))),af,by simp only[DT,ioB];omega⟩,bL rfl,by kernel_rfl⟩
def oJ:Con:=fun l os=>match l,os with
 | [.z (.st (.pair .bool (.slice (.int .u32)))) x], []=>some (WOK x, [.z (.int .i64) (bu (dec x) 0)], [])
 |_,_=>none
theorem wF{B:aj}(hB:aC B):Valid B Tryz.prog 154 oJ:=by
 refine ab (J4 hB).tab Tryz.func154 rfl rfl rfl ?_
 intro args os C rs os' hc hC
 unfold oJ at hc
 split at hc
 case h_2=>cases hc
 rename_i x
 cases hc
 refine v_h (J4 hB) fun X hP hT hr hG=> ?_
 have hU:=DT.eq_1
 unfold DT at hT
 have hX:=Bool.not_true
 simp only[Tryz.f154,aD,al,ioB]
 refine s_g hG ?_
 refine ak ?_
 refine au ?_
 refine s_g hG ?_
 refine aq ?_ ?_
 ·intro hb0
  try simp only[bt] at hb0
  refine s_g hG ?_
  refine az ?_
  refine bC ?_
  refine aA ?_
  refine q_e [] ?_
  rw[bu,if_neg (by have:=(fv hC).1.1 hb0;omega),if_neg (by have:=(fv hC).1.1 hb0;omega)]
 ·intro hb0
  try simp only[bf] at hb0
  refine s_g hG ?_
  refine aq ?_ ?_
  ·intro hb1
   try simp only[bt] at hb1
   refine s_g hG ?_
   refine az ?_
   refine bC ?_
   refine aA ?_
   refine q_e [] ?_
   rw[bu,if_pos (((fv hC).2 hb0).1 hb1)]
  ·intro hb1
   try simp only[bf] at hb1
   refine ar ?_
   refine aP ?_
   refine ah ?_
   refine s_g hG ?_
   refine az ?_
   refine q_e [] ?_
   have:=((fv hC).2 hb0).2 hb1
   rw[bu,if_neg (by omega),if_pos this]
def DU(B:aj):Tab:={types:= [(3,(.int .i64)),(87,(.slice (.int .u32))),(161,(.int .u32))],elems:= [],cons:= [(180,uQ),(181,DQ)],hint:= [],N:=35,base:=B}
theorem J5{B:aj}(hB:aC B):aH Tryz.prog (DU B):=⟨⟨tc ty3 (tc hZ (tc fB (ae))),af,by simp only[DU,ioB];omega⟩,aF (cc Tryz.func180 (DO hB) (cc Tryz.func181 (L5 hB) (ay))),by kernel_rfl⟩
def eI:Con:=fun l os=>match l,os with
 | [.z (.slice (.int .u32)) m, .z (.slice (.int .u32)) o], []=>some (Cano m/\Cano o/\m.length+o.length<CAP, [.z (.int .i64) (bu (valL m) (valL o))], [])
 |_,_=>none
theorem wG{B:aj}(hB:aC B):Valid B Tryz.prog 152 eI:=by
 refine ab (J5 hB).tab Tryz.func152 rfl rfl rfl ?_
 intro args os C rs os' hc hC
 unfold eI at hc
 split at hc
 case h_2=>cases hc
 rename_i m o
 cases hc
 refine v_h (J5 hB) fun X hP hT hr hG=> ?_
 have hU:=DU.eq_1
 unfold DU at hT
 have hX:=ai @uQ.eq_1<| @DQ.eq_1
 simp only[Tryz.f152,aD,al,ioB]
 refine s_g hG ?_
 refine ak ?_
 refine s_g hG ?_
 refine s_g hG ?_
 refine aq ?_ ?_
 ·intro hb0
  try simp only[bt] at hb0
  refine s_g hG ?_
  refine az ?_
  refine aA ?_
  refine q_e [] ?_
  exact cmp_lens hC.1 hC.2.1 hb0
 ·intro hb0
  try simp only[decide_eq_true_eq,decide_eq_false_iff_not,bne_eq_false_iff_eq] at hb0
  obtain⟨c1,c2,c3⟩:=hC
  have c3:List.length m+List.length o<1000000000000:=c3
  have hl:List.length m=List.length o:=by have:=mu.1 hb0;omega
  refine ar ?_
  refine ah ?_
  refine ak ?_
  refine s_g hG ?_
  refine au ?_
  refine br (fun(z:Nat)=>(⟨[(0, .l (.z (.slice (.int .u32)) m)),(1, .l (.z (.slice (.int .u32)) o)),(6, .l (.z (.int .i64) ((z:Int)-1)))], []⟩:aa)) (fun z=>z<=List.length m/\List.drop z m=List.drop z o) (fun z=>z) (List.length m) ?_ ?_ ?_
  ·refine q_l ?_
   exact wi (by omega) (by omega)
  ·exact⟨Nat.le_refl _,by rw[List.drop_length,List.drop_of_length_le (by omega)]⟩
  ·rintro k ⟨g1,g2⟩
   try dsimp only at g1 g2
   refine ak ?_
   refine s_g hG ?_
   refine aq ?_ ?_
   ·intro hb1
    try simp only[bt] at hb1
    refine ar ?_
    refine ah ?_
    refine ak ?_
    refine au ?_
    refine s_d hG ?_ ?_
    ·try simp only[ba]
     omega
    refine s_g hG ?_
    refine aq ?_ ?_
    ·intro hb2
     try simp only[bt] at hb2
     refine s_g hG ?_
     refine az ?_
     refine bC ?_
     refine aA ?_
     refine en ?_
     refine bC ?_
     refine aA ?_
     refine q_e [] ?_
     obtain⟨j,rfl⟩:∃ j,k=j+1:=⟨k-1,by omega⟩
     have hk:((j+1:Nat):Int)-1=(j:Int):=by omega
     rw[hk] at hb2 ⊢
     exact cmp_place (k:=j) c1 c2 hl (by omega) g2 hb2
    ·intro hb2
     try simp only[bf] at hb2
     refine ar ?_
     refine aP ?_
     refine ah ?_
     refine ag hG ?_ ?_
     ·first|trivial|omega|(simp;done)|(simp;omega)
     show ∃ z,_
     refine q_l ?_
     have hk:(k:Int)-1=((k-1:Nat):Int):=by omega
     refine⟨k-1,by rw[hk,wi (by omega) (by omega)],by omega,?_,by omega⟩
     refine drop_step (k:=k-1) hl (by omega) (by rw[show k-1+1=k by omega];exact g2) ?_
     rw[hk] at hb2
     exact mu.1 hb2
   ·intro hb1
    try simp only[bf] at hb1
    refine bg ?_
    refine aE ?_
    refine ax ?_
    refine aw ?_
    refine ah ?_
    refine s_g hG ?_
    refine az ?_
    refine q_e [] ?_
    have:k=0:=by omega
    subst this
    simp only[List.drop_zero] at g2
    rw[g2];simp[bu]
def DV(B:aj):Tab:={types:= [(2,(.int .i64)),(3,(.int .i64)),(87,(.slice (.int .u32))),(161,(.int .u32))],elems:= [(87,161)],cons:= [],hint:= [],N:=46,base:=B}
theorem J6{B:aj}(hB:aC B):aH Tryz.prog (DV B):=⟨⟨tc ty2 (tc ty3 (tc hZ (tc fB (ae)))),aS (by kernel_rfl) (af),by simp only[DV,ioB];omega⟩,bL rfl,by kernel_rfl⟩
def wH:Con:=fun l os=>match l,os with
 | [.z (.slice (.int .u32)) m, .z (.slice (.int .u32)) o], []=>some (Cano m/\Cano o/\valL o<=valL m/\m.length<CAP, [.z (.slice (.int .u32)) (padL (valL m-valL o).toNat m.length)], [])
 |_,_=>none
theorem L6{B:aj}(hB:aC B):Valid B Tryz.prog 153 wH:=by
 refine ab (J6 hB).tab Tryz.func153 rfl rfl rfl ?_
 intro args os C rs os' hc hC
 unfold wH at hc
 split at hc
 case h_2=>cases hc
 rename_i m o
 cases hc
 refine v_h (J6 hB) fun X hP hT hr hG=> ?_
 have hU:=DV.eq_1
 unfold DV at hT
 have hX:=Bool.not_true
 simp only[Tryz.f153,aD,al,ioB]
 refine s_g hG ?_
 refine s_q hG ?_ ?_
 ·try simp only[ba]
  exact⟨by omega,by omega,by have:List.length m<1000000000000:=hC.2.2.2;unfold Cm.Roomy;omega⟩
 refine s_g hG ?_
 refine ak ?_
 refine s_g hG ?_
 refine au ?_
 refine br (fun(z:Nat×Int×List Int)=>(⟨[(1, .l (.z (.slice (.int .u32)) o)),(5, .l (.ownS 12)),(6, .l (.z (.int .i64) z.2.1)),(13, .l (.z (.slice (.int .u32)) m)),(14, .l (.z (.int .i64) (List.length m:Int))),(15, .l (.z (.int .i64) (z.1:Int)))], [(12, .arr (.int .u32) 161 z.2.2)]⟩:aa)) (fun z=>z.1<=List.length m/\z.2.2.length=z.1/\Lim z.2.2/\0<=z.2.1/\z.2.1<=1/\valL z.2.2+valL (List.take z.1 o)=valL (List.take z.1 m)+LB^z.1*z.2.1) (fun z=>List.length m-z.1) (0,0, []) ?_ ?_ ?_
 ·refine q_l ?_
  exact⟨rfl,rfl⟩
 ·simp[Lim,valL]
 ·rintro⟨k,b,out⟩ ⟨g1,g2,g3,g4,g5,g6⟩
  try dsimp only at g1 g2 g3 g4 g5 g6
  obtain⟨c1,c2,c3,c4⟩:=hC
  have c4:List.length m<1000000000000:=c4
  have hx:=c1.1.getD k
  have hy:=c2.1.getD k
  have hB:LB=1000000000:=rfl
  refine s_g hG ?_
  refine ak ?_
  refine aq ?_ ?_
  ·intro hb0
   try simp only[bt] at hb0
   refine ar ?_
   refine ah ?_
   refine ak ?_
   refine au ?_
   refine s_q hG ?_ ?_
   ·try simp only[ba]
    exact⟨by omega,by omega⟩
   refine s_g hG ?_
   refine cm (fun(z:Int)=>(⟨[(1, .l (.z (.slice (.int .u32)) o)),(5, .l (.ownS 12)),(9, .l (.z (.int .i64) z)),(13, .l (.z (.slice (.int .u32)) m)),(14, .l (.z (.int .i64) (List.length m:Int))),(15, .l (.z (.int .i64) (k:Int)))], [(12, .arr (.int .u32) 161 out)]⟩:aa)) (fun z=>z=List.getD m k 0-b-List.getD o k 0) ?_ ?_
   ·refine s_g hG ?_
    refine aq ?_ ?_
    ·intro hb1
     try simp only[bt] at hb1
     refine ag hG ?_ ?_
     ·try simp only[ba]
      exact⟨by omega,by omega⟩
     show ∃ z,_
     refine q_l ?_
     rw[fu,wi (x:=List.getD m k 0) (by omega) (by omega),wi (x:=List.getD m k 0-b) (by omega) (by omega)]
     first|(rw[fu,wi (x:=List.getD o k 0) (by omega) (by omega)];exact wi (by omega) (by omega))|(rw[List.getD_eq_getElem?_getD (l:=o),List.getElem?_eq_none (by omega)];simp)
    ·intro hb1
     try simp only[bf] at hb1
     refine ar ?_
     show ∃ z,_
     refine q_l ?_
     rw[fu,wi (x:=List.getD m k 0) (by omega) (by omega),wi (x:=List.getD m k 0-b) (by omega) (by omega)]
     first|(rw[fu,wi (x:=List.getD o k 0) (by omega) (by omega)];exact wi (by omega) (by omega))|(rw[List.getD_eq_getElem?_getD (l:=o),List.getElem?_eq_none (by omega)];simp)
   rintro n hn
   try dsimp only at hn
   refine s_g hG ?_
   refine cm (fun(z:Int×Int)=>(⟨[(1, .l (.z (.slice (.int .u32)) o)),(5, .l (.ownS 12)),(6, .l (.z (.int .i64) z.2)),(9, .l (.z (.int .i64) z.1)),(13, .l (.z (.slice (.int .u32)) m)),(14, .l (.z (.int .i64) (List.length m:Int))),(15, .l (.z (.int .i64) (k:Int)))], [(12, .arr (.int .u32) 161 out)]⟩:aa)) (fun z=>0<=z.1/\z.1<LB/\0<=z.2/\z.2<=1/\z.1-LB*z.2=n) ?_ ?_
   ·refine s_g hG ?_
    refine aq ?_ ?_
    ·intro hb2
     try simp only[bt] at hb2
     refine ag hG ?_ ?_
     ·first|trivial|omega|(simp;done)|(simp;omega)
     show ∃ z,_
     refine q_l ?_
     first|(rw[wi (by omega) (by omega)];exact⟨by omega,by omega,by omega,by omega,by omega⟩)|exact⟨by omega,by omega,by omega,by omega,by omega⟩
    ·intro hb2
     try simp only[bf] at hb2
     refine ar ?_
     show ∃ z,_
     refine q_l ?_
     first|(rw[wi (by omega) (by omega)];exact⟨by omega,by omega,by omega,by omega,by omega⟩)|exact⟨by omega,by omega,by omega,by omega,by omega⟩
   rintro⟨n2,b2⟩ hn2
   try dsimp only at hn2
   refine ag hG ?_ ?_
   ·try simp only[ba]
    unfold Cm.Roomy;omega
   refine aP ?_
   refine ah ?_
   refine ag hG ?_ ?_
   ·first|trivial|omega|(simp;done)|(simp;omega)
   show ∃ z,_
   refine q_l ?_
   obtain⟨hn1,hn2,hn3,hn4,hn5⟩:=hn2
   rw[w32 hn1 (by omega)]
   obtain⟨q1,q2⟩:=minus_round (b:=b) g2 g3 g6 hn1 hn2 (b':=b2) (by omega)
   exact⟨k+1,by rw[wi (by omega) (by omega)];simp,by omega,by simp[g2],q1,hn3,hn4,q2,by omega⟩
  ·intro hb0
   try simp only[bf] at hb0
   refine bg ?_
   refine aE ?_
   refine ax ?_
   refine aw ?_
   refine ah ?_
   refine s_g hG ?_
   refine az ?_
   refine q_e [] ?_
   have hk:k=List.length m:=by omega
   subst hk
   exact minus_end c1 c2 c3 g2 g3 g4 (by rw[List.take_length] at g6;exact g6)
def DW(B:aj):Tab:={types:= [(3,(.int .i64)),(4, .bool),(87,(.slice (.int .u32))),(89,(.st (.pair .bool (.slice (.int .u32)))))],elems:= [],cons:= [(150,dQ),(151,DI),(152,eI),(153,wH)],hint:= [],N:=42,base:=B}
theorem J7{B:aj}(hB:aC B):aH Tryz.prog (DW B):=⟨⟨tc ty3 (tc ty4 (tc hZ (tc gu (ae)))),af,by simp only[DW,ioB];omega⟩,aF (cc Tryz.func150 (jH hB) (cc Tryz.func151 (L2 hB) (cc Tryz.func152 (wG hB) (cc Tryz.func153 (L6 hB) (ay))))),by kernel_rfl⟩
def y4:Con:=fun l os=>match l,os with
 | [.z (.st (.pair .bool (.slice (.int .u32)))) x, .z (.st (.pair .bool (.slice (.int .u32)))) y], []=>some (WOK x/\WOK y/\x.2.length+y.2.length<CAP, [.z (.st (.pair .bool (.slice (.int .u32)))) (enc (dec x+dec y))], [])
 |_,_=>none
theorem wI{B:aj}(hB:aC B):Valid B Tryz.prog 110 y4:=by
 refine ab (J7 hB).tab Tryz.func110 rfl rfl rfl ?_
 intro args os C rs os' hc hC
 unfold y4 at hc
 split at hc
 case h_2=>cases hc
 rename_i x y
 cases hc
 refine v_h (J7 hB) fun X hP hT hr hG=> ?_
 have hU:=DW.eq_1
 unfold DW at hT
 have hX:=ai @eI.eq_1<|ai @wH.eq_1<|ai @DI.eq_1<| @dQ.eq_1
 simp only[Tryz.f110,aD,al,ioB]
 refine s_g hG ?_
 refine ak ?_
 refine au ?_
 refine s_g hG ?_
 refine aq ?_ ?_
 ·intro hb0
  try simp only[bt] at hb0
  refine s_d hG ?_ ?_
  ·try simp only[ba]
   obtain⟨c1,c2,c3⟩:=hC
   exact⟨⟨c1.1,c2.1,c3⟩,(limbs_can _).1,Nat.lt_of_le_of_lt (plus_len c1.1 c2.1) c3⟩
  refine az ?_
  refine bC ?_
  refine aA ?_
  refine q_e [] ?_
  exact add_same hC.1 hC.2.1 hb0
 ·intro hb0
  try simp only[bf] at hb0
  refine s_q hG ?_ ?_
  ·try simp only[ba]
   obtain⟨c1,c2,c3⟩:=hC
   exact⟨c1.1,c2.1,c3⟩
  refine aq ?_ ?_
  ·intro hb1
   try simp only[bt] at hb1
   refine s_d hG ?_ ?_
   ·try simp only[ba]
    obtain⟨c1,c2,c3⟩:=hC
    rw[mv] at hb1
    exact⟨⟨c2.1,c1.1,by omega,by omega⟩,padL_lim _ _,by rw[padL_len];omega⟩
   refine az ?_
   refine bC ?_
   refine aA ?_
   refine q_e [] ?_
   rw[mv] at hb1
   rw[xO (fun e=>hb0 e.symm) (minus_val hC.2.1.1 hC.1.1 (by omega)),Int.add_comm]
  ·intro hb1
   try simp only[bf] at hb1
   refine ar ?_
   refine aP ?_
   refine ah ?_
   refine s_d hG ?_ ?_
   ·try simp only[ba]
    obtain⟨c1,c2,c3⟩:=hC
    rw[mv] at hb1
    exact⟨⟨c1.1,c2.1,by omega,by omega⟩,padL_lim _ _,by rw[padL_len];omega⟩
   refine az ?_
   refine q_e [] ?_
   rw[mv] at hb1
   exact xO hb0 (minus_val hC.1.1 hC.2.1.1 (by omega))
def DX(B:aj):Tab:={types:= [(89,(.st (.pair .bool (.slice (.int .u32)))))],elems:= [],cons:= [(110,y4),(148,y0)],hint:= [],N:=9,base:=B}
theorem J8{B:aj}(hB:aC B):aH Tryz.prog (DX B):=⟨⟨tc gu (ae),af,by simp only[DX,ioB];omega⟩,aF (cc Tryz.func110 (wI hB) (cc Tryz.func148 (wE hB) (ay))),by kernel_rfl⟩
def L7:Con:=fun l os=>match l,os with
 | [.z (.st (.pair .bool (.slice (.int .u32)))) x, .z (.st (.pair .bool (.slice (.int .u32)))) y], []=>some (WOK x/\WOK y/\x.2.length+y.2.length<CAP, [.z (.st (.pair .bool (.slice (.int .u32)))) (enc (dec x-dec y))], [])
 |_,_=>none
theorem L8{B:aj}(hB:aC B):Valid B Tryz.prog 179 L7:=by
 refine ab (J8 hB).tab Tryz.func179 rfl rfl rfl ?_
 intro args os C rs os' hc hC
 unfold L7 at hc
 split at hc
 case h_2=>cases hc
 rename_i x y
 cases hc
 refine v_h (J8 hB) fun X hP hT hr hG=> ?_
 have hU:=DX.eq_1
 unfold DX at hT
 have hX:=ai @y4.eq_1<| @y0.eq_1
 simp only[Tryz.f179,aD,al,ioB]
 refine s_g hG ?_
 refine s_d hG ?_ ?_
 ·try simp only[ba]
  obtain⟨c1,c2,c3⟩:=hC
  exact⟨⟨c2.1.1,by omega⟩,c1,enc_ok _,by rw[KT c2];exact c3⟩
 refine az ?_
 refine q_e [] ?_
 rw[bP];rfl
def DY(B:aj):Tab:={types:= [(3,(.int .i64)),(4, .bool),(87,(.slice (.int .u32))),(89,(.st (.pair .bool (.slice (.int .u32))))),(161,(.int .u32)),(164,(.int .u64))],elems:= [(87,161)],cons:= [(150,dQ)],hint:= [],N:=79,base:=B}
theorem J9{B:aj}(hB:aC B):aH Tryz.prog (DY B):=⟨⟨tc ty3 (tc ty4 (tc hZ (tc gu (tc fB (tc mE (ae)))))),aS (by kernel_rfl) (af),by simp only[DY,ioB];omega⟩,aF (cc Tryz.func150 (jH hB) (ay)),by kernel_rfl⟩
def y5:Con:=fun l os=>match l,os with
 | [.z (.st (.pair .bool (.slice (.int .u32)))) x, .z (.st (.pair .bool (.slice (.int .u32)))) y], []=>some (WOK x/\WOK y/\x.2.length+y.2.length<CAP, [.z (.st (.pair .bool (.slice (.int .u32)))) (enc (dec x*dec y))], [])
 |_,_=>none
theorem wJ{B:aj}(hB:aC B):Valid B Tryz.prog 109 y5:=by
 refine ab (J9 hB).tab Tryz.func109 rfl rfl rfl ?_
 intro args os C rs os' hc hC
 unfold y5 at hc
 split at hc
 case h_2=>cases hc
 rename_i x y
 cases hc
 refine v_h (J9 hB) fun X hP hT hr hG=> ?_
 have hU:=DY.eq_1
 unfold DY at hT
 have hX:= @dQ.eq_1
 simp only[Tryz.f109,aD,al,ioB]
 refine s_g hG ?_
 refine s_q hG ?_ ?_
 ·try simp only[ba]
  have c3:List.length x.2+List.length y.2<1000000000000:=hC.2.2
  rw[wi (by omega) (by omega)]
  exact⟨by omega,by omega,by unfold Cm.Roomy;omega⟩
 refine ak ?_
 refine s_g hG ?_
 refine au ?_
 refine br (fun(z:Nat×List Int)=>(⟨[(2, .l (.z (.ptr (.st (.pair .bool (.slice (.int .u32))))) x)),(3, .l (.z (.ptr (.st (.pair .bool (.slice (.int .u32))))) y)),(4, .l (.ownP 4 0)),(5, .l (.ownS 19)),(21, .l (.z (.slice (.int .u32)) x.2)),(22, .l (.z (.int .i64) (List.length x.2:Int))),(23, .l (.z (.int .i64) (z.1:Int)))], [(19, .arr (.int .u32) 161 z.2),(4, .box 89 [.z .bool false, .val (.slice none 0 0)])]⟩:aa)) (fun z=>z.1<=List.length x.2/\z.2.length=List.length x.2+List.length y.2/\Lim z.2/\valL z.2=valL (List.take z.1 x.2)*valL y.2/\∀ j,z.1+List.length y.2<=j->z.2.getD j 0=0) (fun z=>List.length x.2-z.1) (0,List.replicate (List.length x.2+List.length y.2) 0) ?_ ?_ ?_
 ·refine q_l ?_
  have c3:List.length x.2+List.length y.2<1000000000000:=hC.2.2
  rw[wi (by omega) (by omega)]
  exact⟨rfl,by congr 1⟩
 ·obtain⟨r1,r2,r3⟩:=replicate_zero (List.length x.2+List.length y.2)
  exact⟨by simp,by simp,r1,by simp[r2,valL],fun j _=>r3 j⟩
 ·rintro⟨i,out⟩ ⟨g1,g2,g3,g4,g5⟩
  try dsimp only at g1 g2 g3 g4 g5
  obtain⟨c1,c2,c3⟩:=hC
  have c3:List.length x.2+List.length y.2<1000000000000:=c3
  have hB:LB=1000000000:=rfl
  refine s_g hG ?_
  refine ak ?_
  refine aq ?_ ?_
  ·intro hb0
   try simp only[bt] at hb0
   refine ar ?_
   refine ah ?_
   refine ak ?_
   refine au ?_
   refine s_q hG ?_ ?_
   ·try simp only[ba]
    omega
   refine s_g hG ?_
   refine ak ?_
   refine s_g hG ?_
   refine au ?_
   refine br (fun(z:Nat×Int×List Int)=>(⟨[(2, .l (.z (.ptr (.st (.pair .bool (.slice (.int .u32))))) x)),(3, .l (.z (.ptr (.st (.pair .bool (.slice (.int .u32))))) y)),(4, .l (.ownP 4 0)),(5, .l (.ownS 19)),(6, .l (.z (.int .i64) (i:Int))),(7, .l (.z (.int .u32) (List.getD x.2 i 0))),(8, .l (.z (.int .u64) z.2.1)),(21, .l (.z (.slice (.int .u32)) x.2)),(22, .l (.z (.int .i64) (List.length x.2:Int))),(23, .l (.z (.int .i64) (i:Int))),(29, .l (.z (.slice (.int .u32)) y.2)),(30, .l (.z (.int .i64) (List.length y.2:Int))),(31, .l (.z (.int .i64) (z.1:Int)))], [(19, .arr (.int .u32) 161 z.2.2),(4, .box 89 [.z .bool false, .val (.slice none 0 0)])]⟩:aa)) (fun z=>z.1<=List.length y.2/\z.2.2.length=List.length x.2+List.length y.2/\Lim z.2.2/\0<=z.2.1/\z.2.1<LB/\valL z.2.2+LB^(i+z.1)*z.2.1=valL (List.take i x.2)*valL y.2+LB^i*(List.getD x.2 i 0*valL (List.take z.1 y.2))/\∀ j,i+List.length y.2<=j->z.2.2.getD j 0=0) (fun z=>List.length y.2-z.1) (0,0,out) ?_ ?_ ?_
   ·refine q_l ?_
    exact⟨rfl,rfl⟩
   ·exact⟨by simp,g2,g3,by simp,by simp;decide,by simp[valL,g4],g5⟩
   ·rintro⟨k,c,out2⟩ ⟨k1,k2,k3,k4,k5,k6,k7⟩
    try dsimp only at k1 k2 k3 k4 k5 k6 k7
    have e1:IntKind.i64.wrap ((i:Int)+(k:Int))=((i+k:Nat):Int):=by rw[wi (by omega) (by omega)];omega
    refine s_g hG ?_
    refine ak ?_
    refine aq ?_ ?_
    ·intro hb1
     try simp only[bt] at hb1
     refine ar ?_
     refine ah ?_
     refine ak ?_
     refine au ?_
     refine s_q hG ?_ ?_
     ·try simp only[ba]
      omega
     refine cm (fun(z:Int)=>(⟨[(2, .l (.z (.ptr (.st (.pair .bool (.slice (.int .u32))))) x)),(3, .l (.z (.ptr (.st (.pair .bool (.slice (.int .u32))))) y)),(4, .l (.ownP 4 0)),(5, .l (.ownS 19)),(6, .l (.z (.int .i64) (i:Int))),(7, .l (.z (.int .u32) (List.getD x.2 i 0))),(9, .l (.z (.int .i64) (k:Int))),(11, .l (.z (.int .u64) z)),(21, .l (.z (.slice (.int .u32)) x.2)),(22, .l (.z (.int .i64) (List.length x.2:Int))),(23, .l (.z (.int .i64) (i:Int))),(29, .l (.z (.slice (.int .u32)) y.2)),(30, .l (.z (.int .i64) (List.length y.2:Int))),(31, .l (.z (.int .i64) (k:Int)))], [(19, .arr (.int .u32) 161 out2),(4, .box 89 [.z .bool false, .val (.slice none 0 0)])]⟩:aa)) (fun z=>z=List.getD x.2 i 0*List.getD y.2 k 0+out2.getD (i+k) 0+c) ?_ ?_
     ·refine ag hG ?_ ?_
      ·try simp only[ba]
       rw[e1];omega
      show ∃ z,_
      refine q_l ?_
      rw[e1]
      exact Nu (c1.1.1.getD i) (c2.1.1.getD k) (k3.getD (i+k)) ⟨k4,k5⟩
     rintro n hn
     try dsimp only at hn
     refine ag hG ?_ ?_
     ·try simp only[ba]
      rw[e1];omega
     refine aP ?_
     refine ah ?_
     refine ag hG ?_ ?_
     ·first|trivial|omega|(simp;done)|(simp;omega)
     show ∃ z,_
     refine q_l ?_
     obtain⟨m0,m1,m2,m3,m4,m5,m6,m7⟩:=mul_step c1.1.1 c2.1.1 k2 k3 k4 k5 (by omega) (by omega) k6 k7 hn
     obtain⟨t1,t2,t3⟩:=nm m0 m1
     rw[e1,t2,t3,Int.toNat_natCast]
     exact⟨k+1,by rw[wi (by omega) (by omega)];simp,by omega,m2,m3,m4,m5,m6,m7,by omega⟩
    ·intro hb1
     try simp only[bf] at hb1
     refine bg ?_
     refine aE ?_
     refine ax ?_
     refine aw ?_
     refine ah ?_
     refine ag hG ?_ ?_
     ·try simp only[ba]
      rw[wi (by omega) (by omega)];omega
     refine aP ?_
     refine ah ?_
     refine ag hG ?_ ?_
     ·first|trivial|omega|(simp;done)|(simp;omega)
     show ∃ z,_
     refine q_l ?_
     have e1:IntKind.i64.wrap ((i:Int)+(List.length y.2:Int))=((i+List.length y.2:Nat):Int):=by rw[wi (by omega) (by omega)];omega
     have hk:k=List.length y.2:=by omega
     subst hk
     rw[List.take_length] at k6
     obtain⟨f1,f2,f3,f4⟩:=mul_row k2 k3 k4 k5 (by omega) rfl k6 k7
     rw[e1,w32 k4 (by omega),Int.toNat_natCast]
     exact⟨i+1,by rw[wi (by omega) (by omega)];simp,by omega,f1,f2,f3,f4,by omega⟩
  ·intro hb0
   try simp only[bf] at hb0
   refine bg ?_
   refine aE ?_
   refine ax ?_
   refine aw ?_
   refine ah ?_
   refine s_q hG ?_ ?_
   ·try simp only[ba]
    exact⟨g3,by unfold CAP;omega⟩
   refine az ?_
   refine q_e [] ?_
   have hi:i=List.length x.2:=by omega
   subst hi
   rw[List.take_length] at g4
   rw[<- KU g4]
def DZ(B:aj):Tab:={types:= [(3,(.int .i64)),(9, .str)],elems:= [],cons:= [],hint:= [],N:=18,base:=B}
theorem Ka{B:aj}(hB:aC B):aH Tryz.prog (DZ B):=⟨⟨tc ty3 (tc ty9 (ae)),af,by simp only[DZ,ioB];omega⟩,bL rfl,by kernel_rfl⟩
def o6:Con:=fun l os=>match l,os with
 | [.z .str s, .z .str p], []=>some (True, [.z .bool (cY s p)], [])
 |_,_=>none
theorem L9{B:aj}(hB:aC B):Valid B Tryz.prog 139 o6:=by
 refine ab (Ka hB).tab Tryz.func139 rfl rfl rfl ?_
 intro args os C rs os' hc hC
 unfold o6 at hc
 split at hc
 case h_2=>cases hc
 rename_i s p
 cases hc
 refine v_h (Ka hB) fun X hP hT hr hG=> ?_
 have hU:=DZ.eq_1
 unfold DZ at hT
 have hX:=Bool.not_true
 simp only[Tryz.f139,aD,al,ioB]
 refine s_g hG ?_
 refine s_q hG ?_ ?_
 ·try simp only[ba]
  (repeat' (first|apply And.intro|intro _))<;>(try simp only[decide_eq_true_eq,decide_eq_false_iff_not,Bool.not_eq_true',beq_iff_eq,Int.toNat_natCast] at*)<;>first|assumption|omega|trivial|(simp_all;done)|(simp_all;omega)
 refine az ?_
 refine q_e [] ?_
 exact Fa s p
def D0(B:aj):Tab:={types:= [(9, .str)],elems:= [],cons:= [(139,o6)],hint:= [],N:=13,base:=B}
theorem Kb{B:aj}(hB:aC B):aH Tryz.prog (D0 B):=⟨⟨tc ty9 (ae),af,by simp only[D0,ioB];omega⟩,aF (cc Tryz.func139 (L9 hB) (ay)),by kernel_rfl⟩
def eJ:Con:=fun l os=>match l,os with
 | [.z .str s, .z .str p], []=>some (True, [.z .str (av s p)], [])
 |_,_=>none
theorem Ma{B:aj}(hB:aC B):Valid B Tryz.prog 186 eJ:=by
 refine ab (Kb hB).tab Tryz.func186 rfl rfl rfl ?_
 intro args os C rs os' hc hC
 unfold eJ at hc
 split at hc
 case h_2=>cases hc
 rename_i s p
 cases hc
 refine v_h (Kb hB) fun X hP hT hr hG=> ?_
 have hU:=D0.eq_1
 unfold D0 at hT
 have hX:= @o6.eq_1
 simp only[Tryz.f186,aD,al,ioB]
 refine s_g hG ?_
 refine ak ?_
 refine s_g hG ?_
 refine aq ?_ ?_
 ·intro hb0
  try simp only[bt] at hb0
  refine s_q hG ?_ ?_
  ·try simp only[ba]
   have h:=hb0
   unfold cY at h
   simp only[Bool.and_eq_true,decide_eq_true_eq] at h
   exact⟨by omega,by omega,by omega⟩
  refine az ?_
  refine aA ?_
  refine q_e [] ?_
  simp[av,hb0]
 ·intro hb0
  try simp only[bf] at hb0
  refine ar ?_
  refine ah ?_
  refine s_g hG ?_
  refine az ?_
  refine q_e [] ?_
  simp[av,hb0]
def D3(B:aj):Tab:={types:= [(9, .str)],elems:= [],cons:= [(186,eJ)],hint:= [],N:=8,base:=B}
theorem Kc{B:aj}(hB:aC B):aH Tryz.prog (D3 B):=⟨⟨tc ty9 (ae),af,by simp only[D3,ioB];omega⟩,aF (cc Tryz.func186 (Ma hB) (ay)),by kernel_rfl⟩
theorem D4{B:aj}(hB:aC B):Valid B Tryz.prog 172 eJ:=by
 refine ab (Kc hB).tab Tryz.func172 rfl rfl rfl ?_
 intro args os C rs os' hc hC
 unfold eJ at hc
 split at hc
 case h_2=>cases hc
 rename_i s p
 cases hc
 refine v_h (Kc hB) fun X hP hT hr hG=> ?_
 have hU:=D3.eq_1
 unfold D3 at hT
 have hX:= @eJ.eq_1
 simp only[Tryz.f172,aD,al,ioB]
 refine s_g hG ?_
 refine s_g hG ?_
 refine az ?_
 refine q_e [] ?_
 trivial
def D5(B:aj):Tab:={types:= [(87,(.slice (.int .u32)))],elems:= [],cons:= [],hint:= [],N:=4,base:=B}
theorem Kd{B:aj}(hB:aC B):aH Tryz.prog (D5 B):=⟨⟨tc hZ (ae),af,by simp only[D5,ioB];omega⟩,bL rfl,by kernel_rfl⟩
def uR:Con:=fun l os=>match l,os with
 | [.z (.slice (.int .u32)) xs], []=>some (True, [.fn 208 [.z (.ptr (.slice (.int .u32))) xs]], [])
 |_,_=>none
theorem D6{B:aj}(hB:aC B):Valid B Tryz.prog 193 uR:=by
 refine ab (Kd hB).tab Tryz.func193 rfl rfl rfl ?_
 intro args os C rs os' hc hC
 unfold uR at hc
 split at hc
 case h_2=>cases hc
 rename_i xs
 cases hc
 refine v_h (Kd hB) fun X hP hT hr hG=> ?_
 have hU:=D5.eq_1
 unfold D5 at hT
 have hX:=Bool.not_true
 simp only[Tryz.f193,aD,al,ioB]
 refine s_g hG ?_
 refine s_g hG ?_
 refine az ?_
 refine q_e [] ?_
 rfl
def D7(B:aj):Tab:={types:= [(3,(.int .i64)),(4, .bool),(87,(.slice (.int .u32))),(89,(.st (.pair .bool (.slice (.int .u32)))))],elems:= [],cons:= [(152,eI),(154,oJ),(180,uQ)],hint:= [],N:=32,base:=B}
theorem Ke{B:aj}(hB:aC B):aH Tryz.prog (D7 B):=⟨⟨tc ty3 (tc ty4 (tc hZ (tc gu (ae)))),af,by simp only[D7,ioB];omega⟩,aF (cc Tryz.func152 (wG hB) (cc Tryz.func154 (wF hB) (cc Tryz.func180 (DO hB) (ay)))),by kernel_rfl⟩
def Mb:Con:=fun l os=>match l,os with
 | [.z (.st (.pair .bool (.slice (.int .u32)))) x, .z (.st (.pair .bool (.slice (.int .u32)))) y], []=>some (WOK x/\WOK y/\x.2.length+y.2.length<CAP, [.z (.int .i64) (bu (dec x) (dec y))], [])
 |_,_=>none
theorem Mc{B:aj}(hB:aC B):Valid B Tryz.prog 168 Mb:=by
 refine ab (Ke hB).tab Tryz.func168 rfl rfl rfl ?_
 intro args os C rs os' hc hC
 unfold Mb at hc
 split at hc
 case h_2=>cases hc
 rename_i x y
 cases hc
 refine v_h (Ke hB) fun X hP hT hr hG=> ?_
 have hU:=D7.eq_1
 unfold D7 at hT
 have hX:=ai @uQ.eq_1<|ai @eI.eq_1<| @oJ.eq_1
 simp only[Tryz.f168,aD,al,ioB]
 refine s_g hG ?_
 refine ak ?_
 refine s_d hG ?_ ?_
 ·try simp only[ba]
  exact⟨hC.1,hC.2.1⟩
 refine s_q hG ?_ ?_
 ·try simp only[ba]
  (repeat' (first|apply And.intro|intro _))<;>(try simp only[decide_eq_true_eq,decide_eq_false_iff_not,Bool.not_eq_true',beq_iff_eq,Int.toNat_natCast] at*)<;>first|assumption|omega|trivial|(simp_all;done)|(simp_all;omega)
 refine aq ?_ ?_
 ·intro hb0
  try simp only[bt] at hb0
  refine s_g hG ?_
  refine az ?_
  refine aA ?_
  refine q_e [] ?_
  exact Fc hC.1 hb0
 ·intro hb0
  try simp only[bf] at hb0
  refine ar ?_
  refine ah ?_
  refine ak ?_
  refine s_g hG ?_
  refine aq ?_ ?_
  ·intro hb1
   try simp only[bt] at hb1
   refine s_q hG ?_ ?_
   ·try simp only[ba]
    exact⟨hC.2.1.1,hC.1.1,by omega⟩
   refine az ?_
   refine aA ?_
   refine q_e [] ?_
   exact(rO hC.1 hC.2.1 hb0).1 hb1
  ·intro hb1
   try simp only[bf] at hb1
   refine ar ?_
   refine ah ?_
   refine s_q hG ?_ ?_
   ·try simp only[ba]
    exact⟨hC.1.1,hC.2.1.1,by omega⟩
   refine az ?_
   refine q_e [] ?_
   exact(rO hC.1 hC.2.1 hb0).2 hb1
def D8(B:aj):Tab:={types:= [(3,(.int .i64)),(9, .str),(87,(.slice (.int .u32))),(89,(.st (.pair .bool (.slice (.int .u32))))),(161,(.int .u32))],elems:= [],cons:= [(166,tT)],hint:= [],N:=22,base:=B}
theorem Kf{B:aj}(hB:aC B):aH Tryz.prog (D8 B):=⟨⟨tc ty3 (tc ty9 (tc hZ (tc gu (tc fB (ae))))),af,by simp only[D8,ioB];omega⟩,aF (cc Tryz.func166 (CG hB) (ay)),by kernel_rfl⟩
def o7:Con:=fun l os=>match l,os with
 | [.z (.st (.pair .bool (.slice (.int .u32)))) x], []=>some (WOK x/\x.2.length<CAP, [.z (.int .i64) (dZ (dec x))], [])
 |_,_=>none
theorem Md{B:aj}(hB:aC B):Valid B Tryz.prog 169 o7:=by
 refine ab (Kf hB).tab Tryz.func169 rfl rfl rfl ?_
 intro args os C rs os' hc hC
 unfold o7 at hc
 split at hc
 case h_2=>cases hc
 rename_i x
 cases hc
 refine v_h (Kf hB) fun X hP hT hr hG=> ?_
 have hU:=D8.eq_1
 unfold D8 at hT
 have hX:= @tT.eq_1
 simp only[Tryz.f169,aD,al,ioB]
 refine s_g hG ?_
 refine s_g hG ?_
 refine ak ?_
 refine s_g hG ?_
 refine aq ?_ ?_
 ·intro hb0
  try simp only[bt] at hb0
  refine s_g hG ?_
  refine az ?_
  refine aA ?_
  refine q_e [] ?_
  rw[(fv hC.1).1.1 hb0,tV]
 ·intro hb0
  try simp only[bf] at hb0
  refine ar ?_
  refine ah ?_
  refine s_q hG ?_ ?_
  ·try simp only[ba]
   obtain⟨d1,d2,d3,d4⟩:=xT hC.1 hC.2 hb0
   have d5:=xS hC.1.1.1 (by omega)
   have hB:LB=1000000000:=rfl
   rw[d2,d3]
   exact⟨d1,by unfold I64;omega⟩
  refine az ?_
  refine q_e [] ?_
  obtain⟨d1,d2,d3,d4⟩:=xT hC.1 hC.2 hb0
  rw[d2,d3]
  exact d4
def D9(B:aj):Tab:={types:= [(3,(.int .i64)),(87,(.slice (.int .u32))),(89,(.st (.pair .bool (.slice (.int .u32))))),(161,(.int .u32)),(164,(.int .u64))],elems:= [(87,161)],cons:= [],hint:= [],N:=27,base:=B}
theorem Kg{B:aj}(hB:aC B):aH Tryz.prog (D9 B):=⟨⟨tc ty3 (tc hZ (tc gu (tc fB (tc mE (ae))))),aS (by kernel_rfl) (af),by simp only[D9,ioB];omega⟩,bL rfl,by kernel_rfl⟩
def iS:Con:=fun l os=>match l,os with
 | [.z (.int .i64) n], []=>some (I64 n, [.z (.st (.pair .bool (.slice (.int .u32)))) (enc n)], [])
 |_,_=>none
theorem o8{B:aj}(hB:aC B):Valid B Tryz.prog 133 iS:=by
 refine ab (Kg hB).tab Tryz.func133 rfl rfl rfl ?_
 intro args os C rs os' hc hC
 unfold iS at hc
 split at hc
 case h_2=>cases hc
 rename_i n
 cases hc
 refine v_h (Kg hB) fun X hP hT hr hG=> ?_
 have hU:=D9.eq_1
 unfold D9 at hT
 have hX:=Bool.not_true
 simp only[Tryz.f133,aD,al,ioB]
 refine s_g hG ?_
 refine s_g hG ?_
 refine s_g hG ?_
 refine cm (fun(z:Int)=>(⟨[(4, .l (.z (.int .u64) z)),(3, .l (.ownP 3 0)),(2, .l (.ownP 2 0))], [(3, .box 89 [.z .bool (decide (n<0)), .val (.slice none 0 0)]),(2, .box 89 [.z .bool false, .val (.slice none 0 0)])]⟩:aa)) (fun z=>z=n.natAbs) ?_ ?_
 ·refine s_g hG ?_
  refine aq ?_ ?_
  ·intro hb0
   try simp only[bt] at hb0
   refine ag hG ?_ ?_
   ·first|trivial|omega|(simp;done)|(simp;omega)
   show ∃ z,_
   refine q_l ?_
   first|exact(kN hC).1 hb0|exact(kN hC).2 hb0
  ·intro hb0
   try simp only[bf] at hb0
   refine ar ?_
   show ∃ z,_
   refine q_l ?_
   first|exact(kN hC).1 hb0|exact(kN hC).2 hb0
 rintro z hz
 try dsimp only at hz
 refine ak ?_
 refine au ?_
 refine br (fun(z:Nat×List Int)=>(⟨[(4, .l (.z (.int .u64) (z.1:Int))),(3, .l (.ownP 3 0)),(2, .l (.ownP 2 0))], [(3, .box 89 [.z .bool (decide (n<0)), .ownS 24]),(24, .arr (.int .u32) 161 z.2),(2, .box 89 [.z .bool false, .val (.slice none 0 0)])]⟩:aa)) (fun z=>z.2++limbs z.1=limbs n.natAbs/\z.1<18446744073709551616) (fun z=>z.1) (n.natAbs, []) ?_ ?_ ?_
 ·refine q_l ?_
  exact⟨hz,by unfold ioB;omega⟩
 ·exact⟨by simp,by have hC:I64 n:=hC;unfold I64 at hC;omega⟩
 ·rintro⟨u,m⟩ ⟨g1,g2⟩
  try dsimp only at g1 g2
  refine ak ?_
  refine s_g hG ?_
  refine aq ?_ ?_
  ·intro hb1
   try simp only[bt] at hb1
   refine ar ?_
   refine ah ?_
   refine ak ?_
   refine au ?_
   refine ag hG ?_ ?_
   ·try simp only[ba]
    have h3:=lT (n:=n.natAbs) (by have hC:I64 n:=hC;unfold I64 at hC;omega)
    have h4:=congrArg List.length g1
    simp only[List.length_append] at h4
    exact⟨by omega,by unfold Cm.Roomy;omega⟩
   refine aP ?_
   refine ah ?_
   refine ag hG ?_ ?_
   ·first|trivial|omega|(simp;done)|(simp;omega)
   show ∃ z,_
   refine q_l ?_
   exact ot g1 g2 hb1
  ·intro hb1
   try simp only[bf] at hb1
   refine bg ?_
   refine aE ?_
   refine ax ?_
   refine aw ?_
   refine ah ?_
   refine s_g hG ?_
   refine az ?_
   refine q_e [24] ?_
   have h0:u=0:=by omega
   subst h0
   rw[show limbs 0= [] by simp[limbs],List.append_nil] at g1
   rw[g1];rfl
def wK(B:aj):Tab:={types:= [(4, .bool),(9, .str),(181,(.slice (.int .i64)))],elems:= [],cons:= [(156,gv),(157,cQ),(158,eO)],hint:= [],N:=9,base:=B}
theorem Ea{B:aj}(hB:aC B):aH Tryz.prog (wK B):=⟨⟨tc ty4 (tc ty9 (tc je (ae))),af,by simp only[wK,ioB];omega⟩,aF (cc Tryz.func156 (kx hB) (cc Tryz.func157 (kv hB) (cc Tryz.func158 (ky hB) (ay)))),by kernel_rfl⟩
def uS:Con:=fun l os=>match l,os with
 | [.z .str s], []=>some (RF s/\4*s.length<CAP, [.z .str (Lib.itoa (-ao s))], [])
 |_,_=>none
theorem y6{B:aj}(hB:aC B):Valid B Tryz.prog 163 uS:=by
 refine ab (Ea hB).tab Tryz.func163 rfl rfl rfl ?_
 intro args os C rs os' hc hC
 unfold uS at hc
 split at hc
 case h_2=>cases hc
 rename_i s
 cases hc
 refine v_h (Ea hB) fun X hP hT hr hG=> ?_
 have hU:=wK.eq_1
 unfold wK at hT
 have hX:=ai @cQ.eq_1<|ai @gv.eq_1<| @eO.eq_1
 simp only[Tryz.f163,aD,al,ioB]
 refine s_g hG ?_
 refine s_q hG ?_ ?_
 ·try simp only[ba]
  have h1:=ye hC.1
  have h2:=hC.2
  exact⟨hC.1,⟨hC.1,by omega⟩,D.limbs_can _,by omega⟩
 refine az ?_
 refine q_e [] ?_
 exact K9 _
def wL(B:aj):Tab:={types:= [(9, .str)],elems:= [],cons:= [(157,cQ)],hint:= [],N:=7,base:=B}
theorem Eb{B:aj}(hB:aC B):aH Tryz.prog (wL B):=⟨⟨tc ty9 (ae),af,by simp only[wL,ioB];omega⟩,aF (cc Tryz.func157 (kv hB) (ay)),by kernel_rfl⟩
def wM:Con:=fun l os=>match l,os with
 | [.z .str s], []=>some (RF s, [.z (.int .i64) (bu (ao s) 0)], [])
 |_,_=>none
theorem Kh{B:aj}(hB:aC B):Valid B Tryz.prog 162 wM:=by
 refine ab (Eb hB).tab Tryz.func162 rfl rfl rfl ?_
 intro args os C rs os' hc hC
 unfold wM at hc
 split at hc
 case h_2=>cases hc
 rename_i s
 cases hc
 refine v_h (Eb hB) fun X hP hT hr hG=> ?_
 have hU:=wL.eq_1
 unfold wL at hT
 have hX:= @cQ.eq_1
 simp only[Tryz.f162,aD,al,ioB]
 refine s_g hG ?_
 refine ak ?_
 refine s_g hG ?_
 refine aq ?_ ?_
 ·intro hb0
  try simp only[bt] at hb0
  refine s_g hG ?_
  refine az ?_
  refine aA ?_
  refine q_e [] ?_
  exact(rY hC).1 hb0
 ·intro hb0
  try simp only[bf] at hb0
  refine ar ?_
  refine ah ?_
  refine ak ?_
  refine s_q hG ?_ ?_
  ·try simp only[ba]
   exact hC
  refine aq ?_ ?_
  ·intro hb1
   try simp only[bt] at hb1
   refine s_g hG ?_
   refine az ?_
   refine aA ?_
   refine q_e [] ?_
   exact(rY hC).2.1 hb0 hb1
  ·intro hb1
   try simp only[bf] at hb1
   refine ar ?_
   refine ah ?_
   refine s_g hG ?_
   refine az ?_
   refine q_e [] ?_
   exact(rY hC).2.2 hb0 hb1
def wN(B:aj):Tab:={types:= [(3,(.int .i64)),(9, .str)],elems:= [],cons:= [(182,DG)],hint:= [],N:=31,base:=B}
theorem Ec{B:aj}(hB:aC B):aH Tryz.prog (wN B):=⟨⟨tc ty3 (tc ty9 (ae)),af,by simp only[wN,ioB];omega⟩,aF (cc Tryz.func182 (JW hB) (ay)),by kernel_rfl⟩
def eK:Con:=fun l os=>match l,os with
 | [.z .str a, .z .str b], []=>some (RF a/\RF b/\a.length<CAP/\b.length<CAP, [.z (.int .i64) (if a.length<=9/\b.length<=9 then ao a else 0), .z (.int .i64) (if a.length<=9/\b.length<=9 then ao b else 0), .z .bool (decide (a.length<=9/\b.length<=9))], [])
 |_,_=>none
theorem mT{B:aj}(hB:aC B):Valid B Tryz.prog 155 eK:=by
 refine ab (Ec hB).tab Tryz.func155 rfl rfl rfl ?_
 intro args os C rs os' hc hC
 unfold eK at hc
 split at hc
 case h_2=>cases hc
 rename_i a b
 cases hc
 refine v_h (Ec hB) fun X hP hT hr hG=> ?_
 have hU:=wN.eq_1
 unfold wN at hT
 have hX:= @DG.eq_1
 simp only[Tryz.f155,aD,al,ioB]
 refine s_g hG ?_
 refine ak ?_
 refine s_q hG ?_ ?_
 ·try simp only[ba]
  (repeat' (first|apply And.intro|intro _))<;>(try simp only[decide_eq_true_eq,decide_eq_false_iff_not,Bool.not_eq_true',beq_iff_eq,Int.toNat_natCast] at*)<;>first|assumption|omega|trivial|(simp_all;done)|(simp_all;omega)
 refine aq ?_ ?_
 ·intro hb0
  simp only[Bool.or_eq_true,decide_eq_true_eq] at hb0
  have hl: ¬ (List.length a<=9/\List.length b<=9):=by omega
  refine s_g hG ?_
  refine az ?_
  refine aA ?_
  refine q_e [] ?_
  rw[if_neg hl,if_neg hl,decide_eq_false hl];exact⟨rfl,rfl,rfl⟩
 ·intro hb0
  simp only[Bool.or_eq_false_iff,decide_eq_false_iff_not] at hb0
  have hl:List.length a<=9/\List.length b<=9:=by omega
  refine ar ?_
  refine ah ?_
  refine s_q hG ?_ ?_
  ·try simp only[ba]
   exact⟨yf hC.1 hl.1,hl.1⟩
  refine s_q hG ?_ ?_
  ·try simp only[ba]
   exact⟨yf hC.2.1 hl.2,hl.2⟩
  refine s_g hG ?_
  refine az ?_
  refine q_e [] ?_
  rw[if_pos hl,if_pos hl,decide_eq_true hl];exact⟨rfl,rfl,rfl⟩
def wO(B:aj):Tab:={types:= [(3,(.int .i64))],elems:= [],cons:= [(166,tT)],hint:= [],N:=5,base:=B}
theorem Ed{B:aj}(hB:aC B):aH Tryz.prog (wO B):=⟨⟨tc ty3 (ae),af,by simp only[wO,ioB];omega⟩,aF (cc Tryz.func166 (CG hB) (ay)),by kernel_rfl⟩
def oQ:Con:=fun l os=>match l,os with
 | [.z (.int .i64) n], []=>some (I64 n, [.z .str (Lib.itoa n)], [])
 |_,_=>none
theorem kz{B:aj}(hB:aC B):Valid B Tryz.prog 126 oQ:=by
 refine ab (Ed hB).tab Tryz.func126 rfl rfl rfl ?_
 intro args os C rs os' hc hC
 unfold oQ at hc
 split at hc
 case h_2=>cases hc
 rename_i n
 cases hc
 refine v_h (Ed hB) fun X hP hT hr hG=> ?_
 have hU:=wO.eq_1
 unfold wO at hT
 have hX:= @tT.eq_1
 simp only[Tryz.f126,aD,al,ioB]
 refine s_g hG ?_
 refine s_q hG ?_ ?_
 ·try simp only[ba]
  exact hC
 refine az ?_
 refine q_e [] ?_
 trivial
def sW(B:aj):Tab:={types:= [(3,(.int .i64)),(181,(.slice (.int .i64)))],elems:= [(181,3)],cons:= [(160,gU),(161,kV),(164,kW),(183,lH)],hint:= [23,31,50],N:=125,base:=B}
theorem Ee{B:aj}(hB:aC B):aH Tryz.prog (sW B):=⟨⟨tc ty3 (tc je (ae)),aS (by kernel_rfl) (af),by simp only[sW,ioB];omega⟩,aF (cc Tryz.func160 (yX hB) (cc Tryz.func161 (yY hB) (cc Tryz.func164 (yZ hB) (cc Tryz.func183 (mS hB) (ay))))),by kernel_rfl⟩
def jh:Con:=fun l os=>match l,os with
 | [.z (.slice (.int .i64)) a, .z (.slice (.int .i64)) b], []=>some (D.Cano a/\D.Cano b/\b≠ []/\a.length+b.length+2<CAP, [.z (.slice (.int .i64)) (D.limbs (D.valL a/D.valL b).toNat), .z (.slice (.int .i64)) (D.limbs (D.valL a%D.valL b).toNat)], [])
 |_,_=>none
set_option maxHeartbeats 1000000 in
theorem y7{B:aj}(hB:aC B):Valid B Tryz.prog 165 jh:=by
 refine ab (Ee hB).tab Tryz.func165 rfl rfl rfl ?_
 intro args os C rs os' hc hC
 unfold jh at hc
 split at hc
 case h_2=>cases hc
 rename_i a b
 cases hc
 refine v_h (Ee hB) fun X hP hT hr hG=> ?_
 have hU:=sW.eq_1
 unfold sW at hT
 have hX:=ai @gU.eq_1<|ai @lH.eq_1<|ai @kV.eq_1<| @kW.eq_1
 simp only[Tryz.f165,aD,al,ioB]
 refine s_g hG ?_
 refine cm (fun(z:Nat)=>(⟨[(0, .l (.z (.slice (.int .i64)) a)),(1, .l (.z (.slice (.int .i64)) b)),(6, .l (.z (.int .i64) (z:Int)))], []⟩:aa)) (fun z=>b.length=z+1) ?_ ?_
 ·refine ag hG ?_ ?_
  ·first|trivial|omega|(simp;done)|(simp;omega)
  show ∃ z,_
  refine q_l ?_
  exact D.len_pred hC.2.2.1 hC.2.2.2
 rintro n hn
 try dsimp only at hn
 obtain⟨c1,c2,c3,c4⟩:=hC
 have c4:List.length a+List.length b+2<1000000000000:=c4
 have hp:=(D.valL_pos c2).2 c3
 have hwn:IntKind.i64.wrap ((n:Int)-1)=(n:Int)-1:=wi (by omega) (by omega)
 refine ak ?_
 refine s_g hG ?_
 refine aq ?_ ?_
 ·intro hb0
  try simp only[decide_eq_true_eq] at hb0
  refine s_q hG ?_ ?_
  ·try simp only[ba]
   unfold Cm.Roomy;omega
  refine az ?_
  refine aA ?_
  refine q_e [23] ?_
  exact D.div_small c1 c2 c3 hn (by omega)
 ·intro hb0
  simp only[decide_eq_false_iff_not] at hb0
  have hwl:IntKind.i64.wrap ((List.length a:Int)-(n:Int))=((List.length a-n:Nat):Int):=by rw[wi (by omega) (by omega)];omega
  refine ar ?_
  refine ah ?_
  refine s_q hG ?_ ?_
  ·try simp only[ba]
   rw[hwl]
   exact⟨by omega,by omega,by unfold Cm.Roomy;omega⟩
  refine s_q hG ?_ ?_
  ·try simp only[ba]
   rw[hwl,Int.toNat_natCast,Int.toNat_natCast,List.take_length,List.length_drop]
   exact⟨⟨by omega,by omega,Int.le_refl _⟩,by unfold Cm.Roomy;omega⟩
  refine ak ?_
  refine s_g hG ?_
  refine au ?_
  refine HH [31] (by simp only[hT,sW,mr0,mr1,mr2,jl,Nat.reduceLT,Nat.reduceEqDiff,Nat.reduceAdd,Nat.reduceMul,Nat.reduceSub,Nat.reduceLeDiff,Nat.reduceBEq,Nat.reduceBNe,reduceIte,reduceDIte,reduceCtorEq];rfl) ?_
  refine br (fun(z:Nat×List Int×List Int)=>(⟨[(0, .l (.z (.slice (.int .i64)) a)),(1, .l (.z (.slice (.int .i64)) b)),(6, .l (.z (.int .i64) (n:Int))),(7, .l (.ownS 30)),(8, .l (.z (.slice (.int .i64)) z.2.2)),(9, .l (.z (.int .i64) ((z.1:Int)-1)))], [(30, .arr (.int .i64) 3 z.2.1)]⟩:aa)) (fun z=>D.DivPhi a b z.1 z.2.1 z.2.2) (fun z=>z.1) (List.length a-n,List.replicate (List.length a-n) 0,List.drop (List.length a-n) a) ?_ ?_ ?_
  ·refine q_l ?_
   rw[hwl,Int.toNat_natCast,Int.toNat_natCast,List.take_length,List.length_replicate]
   exact⟨rfl,wi (by omega) (by omega),rfl⟩
  ·exact D.div_start c1 c2 c3 hn (by omega)
  ·rintro⟨k,q,rest⟩ hz
   try dsimp only at hz
   have hz1:=hz.hk
   have hz2:=hz.hq
   refine ak ?_
   refine s_g hG ?_
   refine aq ?_ ?_
   ·intro hb1
    try simp only[decide_eq_true_eq] at hb1
    obtain⟨i,rfl⟩:∃ i,k=i+1:=⟨k-1,by omega⟩
    have ei:((i+1:Nat):Int)-1=(i:Int):=by omega
    rw[ei]
    have hrsl:=D.rest_len c2 c3 hz.hr
    refine ar ?_
    refine ah ?_
    refine ak ?_
    refine au ?_
    refine cm (fun(z:Unit)=>(⟨[(0, .l (.z (.slice (.int .i64)) a)),(1, .l (.z (.slice (.int .i64)) b)),(6, .l (.z (.int .i64) (n:Int))),(7, .l (.ownS 30)),(8, .l (.z (.slice (.int .i64)) (D.limbs (D.R1 a b i).toNat))),(9, .l (.z (.int .i64) (i:Int)))], [(30, .arr (.int .i64) 3 q)]⟩:aa)) (fun z=>True) ?_ ?_
    ·refine ag hG ?_ ?_
     ·try simp only[ba]
      exact⟨⟨by omega,by omega⟩,by unfold Cm.Roomy;omega,(D.cons_limbs c1.1 hp hz.hr).1,by unfold CAP;omega⟩
     show ∃ z,_
     refine q_l ?_
     rw[D.nth64,(D.cons_limbs c1.1 hp hz.hr).2]
    rintro⟨⟩ hu
    try dsimp only at hu
    have hrl:=D.r1_len (i:=i) c1.1 c2 c3 hn
    have hrf:=D.r1_facts (i:=i) c1.1 hp
    have hrc:=D.limbs_can (D.R1 a b i).toNat
    have hdn:=D.div_next (d:=(D.R1 a b i/D.valL b)) c1.1 c2 c3 hz rfl
    refine s_g hG ?_
    refine ak ?_
    refine s_g hG ?_
    refine au ?_
    refine br (fun(z:Nat×Int×Int)=>(⟨[(0, .l (.z (.slice (.int .i64)) a)),(1, .l (.z (.slice (.int .i64)) b)),(6, .l (.z (.int .i64) (n:Int))),(7, .l (.ownS 30)),(8, .l (.z (.slice (.int .i64)) (D.limbs (D.R1 a b i).toNat))),(9, .l (.z (.int .i64) (i:Int))),(10, .l (.z (.int .i64) z.2.1)),(11, .l (.z (.int .i64) z.2.2)),(12, .l (.z (.int .i64) ((z.1:Int)-1)))], [(30, .arr (.int .i64) 3 q)]⟩:aa)) (fun z=>D.TopPhi (D.limbs (D.R1 a b i).toNat) b n z.1 z.2.1 z.2.2) (fun z=>z.1) (n+2,0,0) ?_ ?_ ?_
    ·refine q_l ?_
     rw[wi (by omega) (by omega)]
     show (n:Int)+1=((n+2:Nat):Int)-1
     omega
    ·exact D.top_start hrl hn
    ·rintro⟨j,top,first⟩ hj
     try dsimp only at hj
     have hj1:=hj.hj
     refine ak ?_
     refine s_g hG ?_
     refine aq ?_ ?_
     ·intro hb2
      simp only[decide_eq_true_eq] at hb2
      rw[hwn] at hb2
      obtain⟨j,rfl⟩:∃ j2,j=j2+1:=⟨j-1,by omega⟩
      have ej:((j+1:Nat):Int)-1=(j:Int):=by omega
      rw[ej]
      have htv:=D.top_vals hrc.1 hrl c2.1 hn hj (by omega)
      refine ar ?_
      refine ah ?_
      refine ak ?_
      refine au ?_
      refine s_g hG ?_
      refine cm (fun(z:Unit)=>(⟨[(0, .l (.z (.slice (.int .i64)) a)),(1, .l (.z (.slice (.int .i64)) b)),(6, .l (.z (.int .i64) (n:Int))),(7, .l (.ownS 30)),(8, .l (.z (.slice (.int .i64)) (D.limbs (D.R1 a b i).toNat))),(9, .l (.z (.int .i64) (i:Int))),(10, .l (.z (.int .i64) top)),(11, .l (.z (.int .i64) (D.valL (List.drop j (D.limbs (D.R1 a b i).toNat))))),(12, .l (.z (.int .i64) (j:Int)))], [(30, .arr (.int .i64) 3 q)]⟩:aa)) (fun z=>True) ?_ ?_
      ·refine s_g hG ?_
       refine aq ?_ ?_
       ·intro hb3
        try simp only[bt] at hb3
        refine ag hG ?_ ?_
        ·try simp only[ba]
         exact⟨by omega,hb3⟩
        show ∃ z,_
        refine q_l ?_
        first|(rw[D.nth64,htv.1,htv.2.1];exact htv.2.2.2.2.1)|(rw[htv.1];have h9:=htv.2.2.2.2.1;rw[D.getD_none (by omega),Int.add_zero] at h9;exact h9)
       ·intro hb3
        try simp only[bf] at hb3
        refine ar ?_
        show ∃ z,_
        refine q_l ?_
        first|(rw[D.nth64,htv.1,htv.2.1];exact htv.2.2.2.2.1)|(rw[htv.1];have h9:=htv.2.2.2.2.1;rw[D.getD_none (by omega),Int.add_zero] at h9;exact h9)
      rintro⟨⟩ hu2
      try dsimp only at hu2
      refine s_g hG ?_
      refine aq ?_ ?_
      ·intro hb4
       try simp only[bt] at hb4
       refine ag hG ?_ ?_
       ·try simp only[ba]
        exact⟨by omega,by omega⟩
       refine aP ?_
       refine ah ?_
       refine ag hG ?_ ?_
       ·first|trivial|omega|(simp;done)|(simp;omega)
       show ∃ z,_
       refine q_l ?_
       first|exact⟨j,wi (by omega) (by omega),⟨by omega,by rw[D.nth64,htv.2.2.1,htv.2.2.2.1];exact htv.2.2.2.2.2.1 (by omega),rfl⟩,by omega⟩|exact⟨j,wi (by omega) (by omega),⟨by omega,htv.2.2.2.2.2.2 (by omega),rfl⟩,by omega⟩
      ·intro hb4
       try simp only[bf] at hb4
       refine ar ?_
       refine aP ?_
       refine ah ?_
       refine ag hG ?_ ?_
       ·first|trivial|omega|(simp;done)|(simp;omega)
       show ∃ z,_
       refine q_l ?_
       first|exact⟨j,wi (by omega) (by omega),⟨by omega,by rw[D.nth64,htv.2.2.1,htv.2.2.2.1];exact htv.2.2.2.2.2.1 (by omega),rfl⟩,by omega⟩|exact⟨j,wi (by omega) (by omega),⟨by omega,htv.2.2.2.2.2.2 (by omega),rfl⟩,by omega⟩
     ·intro hb2
      simp only[decide_eq_false_iff_not] at hb2
      rw[hwn] at hb2
      obtain rfl:j=n-1:=by omega
      obtain⟨hs1,hs2,hs3,hs4,hs5⟩:=D.half_start c1.1 c2 c3 hn hj.ht hj.hf
      have hqf:=D.quo_facts hs1 hs2 hs3 hs4
      refine bg ?_
      refine aE ?_
      refine ax ?_
      refine aw ?_
      refine ah ?_
      refine cm (fun(z:Unit)=>(⟨[(0, .l (.z (.slice (.int .i64)) a)),(1, .l (.z (.slice (.int .i64)) b)),(6, .l (.z (.int .i64) (n:Int))),(7, .l (.ownS 30)),(8, .l (.z (.slice (.int .i64)) (D.limbs (D.R1 a b i).toNat))),(9, .l (.z (.int .i64) (i:Int))),(13, .l (.z (.int .i64) (first/(top+1)))),(14, .l (.z (.int .i64) (first/top)))], [(30, .arr (.int .i64) 3 q)]⟩:aa)) (fun z=>True) ?_ ?_
      ·refine gp hG ?_ ?_
       ·try simp only[ba]
        rw[hqf.1]
        exact⟨hqf.2.1,hqf.2.2.1⟩
       show ∃ z,_
       refine q_l ?_
       rw[hqf.1]
       exact⟨hqf.2.2.2.1,hqf.2.2.2.2⟩
      rintro⟨⟩ hu3
      try dsimp only at hu3
      refine ak ?_
      refine au ?_
      refine br (fun(z:Int×Int)=>(⟨[(0, .l (.z (.slice (.int .i64)) a)),(1, .l (.z (.slice (.int .i64)) b)),(6, .l (.z (.int .i64) (n:Int))),(7, .l (.ownS 30)),(8, .l (.z (.slice (.int .i64)) (D.limbs (D.R1 a b i).toNat))),(9, .l (.z (.int .i64) (i:Int))),(13, .l (.z (.int .i64) z.1)),(14, .l (.z (.int .i64) z.2))], [(30, .arr (.int .i64) 3 q)]⟩:aa)) (fun z=>D.HalfPhi (D.R1 a b i/D.valL b) z.1 z.2) (fun z=>(z.2-z.1).toNat) (first/(top+1),first/top) ?_ ?_ ?_
      ·simp only[ml0,ml1,Nat.reduceLT,Nat.reduceEqDiff,Nat.reduceAdd,Nat.reduceMul,Nat.reduceSub,Nat.reduceLeDiff,Nat.reduceBEq,Nat.reduceBNe,reduceIte,reduceDIte,reduceCtorEq]
      ·exact hs5
      ·rintro⟨low,high⟩ hh
       try dsimp only at hh
       refine ak ?_
       refine s_g hG ?_
       refine aq ?_ ?_
       ·intro hb5
        try simp only[decide_eq_true_eq] at hb5
        have hhm:=D.half_mid hh hb5
        refine ar ?_
        refine ah ?_
        refine au ?_
        refine cm (fun(z:Int)=>(⟨[(0, .l (.z (.slice (.int .i64)) a)),(1, .l (.z (.slice (.int .i64)) b)),(6, .l (.z (.int .i64) (n:Int))),(7, .l (.ownS 30)),(8, .l (.z (.slice (.int .i64)) (D.limbs (D.R1 a b i).toNat))),(9, .l (.z (.int .i64) (i:Int))),(13, .l (.z (.int .i64) low)),(14, .l (.z (.int .i64) high)),(15, .l (.z (.int .i64) z))], [(30, .arr (.int .i64) 3 q)]⟩:aa)) (fun z=>z=(low+high+1)/2) ?_ ?_
        ·refine ag hG ?_ ?_
         ·try simp only[ba]
          decide
         show ∃ z,_
         refine q_l ?_
         exact hhm.1
        rintro mid hmid
        try dsimp only at hmid
        have hmm:low<mid/\mid<=high:=by rw[hmid];exact⟨hhm.2.1,hhm.2.2.1⟩
        have hm0:0<=mid:=Int.le_trans hh.h0 (Int.le_of_lt hmm.1)
        have hmB:mid<=D.LB:=Int.le_trans hmm.2 hh.h3
        have hht:=D.half_test (v:=D.R1 a b i) (mid:=mid) c2.1 hp hrf.1 hm0
        have hol:=D.one_len c2.1 hm0 hmB
        refine s_q hG ?_ ?_
        ·try simp only[ba]
         exact⟨⟨c2.1,D.wid_one hm0 hmB,by unfold CAP;omega⟩,D.limbs_can _,hrc,by unfold CAP;omega,by unfold CAP;omega⟩
        refine aq ?_ ?_
        ·intro hb6
         try simp only[bt] at hb6
         refine ag hG ?_ ?_
         ·first|trivial|omega|(simp;done)|(simp;omega)
         refine aP ?_
         show ∃ z,_
         refine q_l ?_
         first|exact D.half_up hh hmm (hht.1 hb6)|(rw[show IntKind.i64.wrap (mid-1)=mid-1 by rw[hmid];exact hhm.2.2.2];exact D.half_down hh hmm (fun h=>hb6 (hht.2 h)))
        ·intro hb6
         try simp only[bf] at hb6
         refine ag hG ?_ ?_
         ·first|trivial|omega|(simp;done)|(simp;omega)
         refine aP ?_
         show ∃ z,_
         refine q_l ?_
         first|exact D.half_up hh hmm (hht.1 hb6)|(rw[show IntKind.i64.wrap (mid-1)=mid-1 by rw[hmid];exact hhm.2.2.2];exact D.half_down hh hmm (fun h=>hb6 (hht.2 h)))
       ·intro hb5
        simp only[decide_eq_false_iff_not] at hb5
        have hle:=D.half_end hh hb5
        subst hle
        have hol:=D.one_len c2.1 hdn.1 (Int.le_of_lt hdn.2.1)
        have hrm:=D.rest_minus (i:=i) c1.1 c2 c3
        refine bg ?_
        refine aE ?_
        refine ax ?_
        refine aw ?_
        refine ah ?_
        refine s_q hG ?_ ?_
        ·try simp only[ba]
         exact⟨⟨by omega,by omega⟩,by omega⟩
        refine s_g hG ?_
        refine aq ?_ ?_
        ·intro hb7
         try simp only[bt] at hb7
         refine ag hG ?_ ?_
         ·try simp only[ba]
          exact⟨⟨c2.1,D.wid_one hdn.1 (Int.le_of_lt hdn.2.1),by unfold CAP;omega⟩,hrc,D.limbs_can _,hrm.1,by unfold CAP;omega⟩
         refine aP ?_
         refine ah ?_
         refine ag hG ?_ ?_
         ·first|trivial|omega|(simp;done)|(simp;omega)
         show ∃ z,_
         refine q_l ?_
         have hdx:=hdn.2.2
         first|(rw[<- hrm.2] at hdx;exact⟨i,wi (by omega) (by omega),by rw[Int.toNat_natCast];exact hdx,by omega⟩)|(rw[<- D.rest_zero c1.1 c2 c3 hb7] at hdx;exact⟨i,wi (by omega) (by omega),by rw[Int.toNat_natCast];exact hdx,by omega⟩)
        ·intro hb7
         try simp only[bf] at hb7
         refine ar ?_
         refine aP ?_
         refine ah ?_
         refine ag hG ?_ ?_
         ·first|trivial|omega|(simp;done)|(simp;omega)
         show ∃ z,_
         refine q_l ?_
         have hdx:=hdn.2.2
         first|(rw[<- hrm.2] at hdx;exact⟨i,wi (by omega) (by omega),by rw[Int.toNat_natCast];exact hdx,by omega⟩)|(rw[<- D.rest_zero c1.1 c2 c3 hb7] at hdx;exact⟨i,wi (by omega) (by omega),by rw[Int.toNat_natCast];exact hdx,by omega⟩)
   ·intro hb1
    simp only[decide_eq_false_iff_not] at hb1
    obtain rfl:k=0:=by omega
    have hde:=D.div_end hz
    refine bg ?_
    refine aE ?_
    refine ax ?_
    refine aw ?_
    refine ah ?_
    refine s_q hG ?_ ?_
    ·try simp only[ba]
     exact⟨hz.hl,by unfold CAP;omega⟩
    refine az ?_
    refine q_e [23] ?_
    exact hde
def wP(B:aj):Tab:={types:= [(3,(.int .i64)),(4, .bool),(9, .str),(181,(.slice (.int .i64)))],elems:= [],cons:= [(126,oQ),(155,eK),(156,gv),(157,cQ),(158,eO),(159,wy),(160,gU),(161,kV)],hint:= [],N:=53,base:=B}
theorem Ef{B:aj}(hB:aC B):aH Tryz.prog (wP B):=⟨⟨tc ty3 (tc ty4 (tc ty9 (tc je (ae)))),af,by simp only[wP,ioB];omega⟩,aF (cc Tryz.func126 (kz hB) (cc Tryz.func155 (mT hB) (cc Tryz.func156 (kx hB) (cc Tryz.func157 (kv hB) (cc Tryz.func158 (ky hB) (cc Tryz.func159 (JU hB) (cc Tryz.func160 (yX hB) (cc Tryz.func161 (yY hB) (ay))))))))),by kernel_rfl⟩
def uT:Con:=fun l os=>match l,os with
 | [.z .str a, .z .str b], []=>some (RS 20000000000 a/\RS 20000000000 b, [.z .str (Lib.itoa (ao a+ao b))], [])
 |_,_=>none
theorem y8{B:aj}(hB:aC B):Valid B Tryz.prog 115 uT:=by
 refine ab (Ef hB).tab Tryz.func115 rfl rfl rfl ?_
 intro args os C rs os' hc hC
 unfold uT at hc
 split at hc
 case h_2=>cases hc
 rename_i a b
 cases hc
 refine v_h (Ef hB) fun X hP hT hr hG=> ?_
 have hU:=wP.eq_1
 unfold wP at hT
 have hX:=ai @gU.eq_1<|ai @eK.eq_1<|ai @kV.eq_1<|ai @cQ.eq_1<|ai @oQ.eq_1<|ai @wy.eq_1<|ai @gv.eq_1<| @eO.eq_1
 simp only[Tryz.f115,aD,al,ioB]
 refine s_g hG ?_
 refine ak ?_
 refine s_q hG ?_ ?_
 ·try simp only[ba]
  exact⟨hC.1.1,hC.2.1,(hC.1.cap (by omega)).2,(hC.2.cap (by omega)).2⟩
 refine s_g hG ?_
 refine aq ?_ ?_
 ·intro hb0
  simp only[decide_eq_true_eq] at hb0
  have hsm:=r0 hC.1.1 hC.2.1 hb0
  rw[if_pos hb0,if_pos hb0]
  refine s_q hG ?_ ?_
  ·try simp only[ba]
   rw[hsm.1];exact hsm.2.1
  refine az ?_
  refine aA ?_
  refine q_e [] ?_
  rw[hsm.1]
 ·intro hb0
  have ha:=hC.1.cap (by omega)
  have hb:=hC.2.cap (by omega)
  have la:=dG hC.1
  have lb:=dG hC.2
  have hle:=CY hC.1 hC.2
  have hcap:CAP=1000000000000:=rfl
  refine ar ?_
  refine ah ?_
  refine s_q hG ?_ ?_
  ·try simp only[ba]
   exact⟨ha,hb⟩
  refine ak ?_
  refine s_q hG ?_ ?_
  ·try simp only[ba]
   exact⟨ha.1,hb.1⟩
  refine aq ?_ ?_
  ·intro hb1
   try simp only[bt] at hb1
   refine s_q hG ?_ ?_
   ·try simp only[ba]
    exact⟨ha.1,⟨la.1,lb.1,by omega,by omega⟩,D.limbs_can _,hle.1⟩
   refine az ?_
   refine aA ?_
   refine q_e [] ?_
   exact Fv hb1
  ·intro hb1
   try simp only[bf] at hb1
   refine ar ?_
   refine ah ?_
   refine ak ?_
   refine s_q hG ?_ ?_
   ·try simp only[ba]
    exact⟨la.1,lb.1,by omega,by omega⟩
   refine aq ?_ ?_
   ·intro hb2
    try simp only[bt] at hb2
    refine s_q hG ?_ ?_
    ·try simp only[ba]
     have hge:=CZ hb1 hb2
     exact⟨ha.1,⟨la.1,lb.1,hge.1,by omega⟩,D.limbs_can _,hle.2.1⟩
    refine az ?_
    refine aA ?_
    refine q_e [] ?_
    exact(CZ hb1 hb2).2
   ·intro hb2
    try simp only[bf] at hb2
    refine ar ?_
    refine ah ?_
    refine s_q hG ?_ ?_
    ·try simp only[ba]
     have hlt:=C3 hb1 hb2
     exact⟨hb.1,⟨lb.1,la.1,hlt.1,by omega⟩,D.limbs_can _,hle.2.2.1⟩
    refine az ?_
    refine q_e [] ?_
    exact(C3 hb1 hb2).2
def wQ(B:aj):Tab:={types:= [(9, .str)],elems:= [],cons:= [(115,uT),(163,uS)],hint:= [],N:=9,base:=B}
theorem Eg{B:aj}(hB:aC B):aH Tryz.prog (wQ B):=⟨⟨tc ty9 (ae),af,by simp only[wQ,ioB];omega⟩,aF (cc Tryz.func115 (y8 hB) (cc Tryz.func163 (y6 hB) (ay))),by kernel_rfl⟩
def Eh:Con:=fun l os=>match l,os with
 | [.z .str a, .z .str b], []=>some (RS 10000000000 a/\RS 10000000000 b, [.z .str (Lib.itoa (ao a-ao b))], [])
 |_,_=>none
theorem Ki{B:aj}(hB:aC B):Valid B Tryz.prog 123 Eh:=by
 refine ab (Eg hB).tab Tryz.func123 rfl rfl rfl ?_
 intro args os C rs os' hc hC
 unfold Eh at hc
 split at hc
 case h_2=>cases hc
 rename_i a b
 cases hc
 refine v_h (Eg hB) fun X hP hT hr hG=> ?_
 have hU:=wQ.eq_1
 unfold wQ at hT
 have hX:=ai @uT.eq_1<| @uS.eq_1
 simp only[Tryz.f123,aD,al,ioB]
 refine s_g hG ?_
 refine s_q hG ?_ ?_
 ·try simp only[ba]
  have h2:=hC.2.2
  exact⟨⟨hC.2.1,by have hcap:CAP=1000000000000:=rfl;omega⟩,hC.1.up (by omega),(MN hC.2).1.up (by omega)⟩
 refine az ?_
 refine q_e [] ?_
 exact La
def wR(B:aj):Tab:={types:= [(3,(.int .i64)),(4, .bool),(9, .str),(181,(.slice (.int .i64)))],elems:= [],cons:= [(126,oQ),(155,eK),(156,gv),(157,cQ),(158,eO),(164,kW)],hint:= [],N:=31,base:=B}
theorem Ei{B:aj}(hB:aC B):aH Tryz.prog (wR B):=⟨⟨tc ty3 (tc ty4 (tc ty9 (tc je (ae)))),af,by simp only[wR,ioB];omega⟩,aF (cc Tryz.func126 (kz hB) (cc Tryz.func155 (mT hB) (cc Tryz.func156 (kx hB) (cc Tryz.func157 (kv hB) (cc Tryz.func158 (ky hB) (cc Tryz.func164 (yZ hB) (ay))))))),by kernel_rfl⟩
def oK:Con:=fun l os=>match l,os with
 | [.z .str a, .z .str b], []=>some (RS 20000000000 a/\RS 20000000000 b, [.z .str (Lib.itoa (ao a*ao b))], [])
 |_,_=>none
theorem sX{B:aj}(hB:aC B):Valid B Tryz.prog 117 oK:=by
 refine ab (Ei hB).tab Tryz.func117 rfl rfl rfl ?_
 intro args os C rs os' hc hC
 unfold oK at hc
 split at hc
 case h_2=>cases hc
 rename_i a b
 cases hc
 refine v_h (Ei hB) fun X hP hT hr hG=> ?_
 have hU:=wR.eq_1
 unfold wR at hT
 have hX:=ai @eK.eq_1<|ai @cQ.eq_1<|ai @oQ.eq_1<|ai @gv.eq_1<|ai @kW.eq_1<| @eO.eq_1
 simp only[Tryz.f117,aD,al,ioB]
 refine s_g hG ?_
 refine ak ?_
 refine s_q hG ?_ ?_
 ·try simp only[ba]
  exact⟨hC.1.1,hC.2.1,(hC.1.cap (by omega)).2,(hC.2.cap (by omega)).2⟩
 refine s_g hG ?_
 refine aq ?_ ?_
 ·intro hb0
  simp only[decide_eq_true_eq] at hb0
  have hsm:=r0 hC.1.1 hC.2.1 hb0
  rw[if_pos hb0,if_pos hb0]
  refine s_q hG ?_ ?_
  ·try simp only[ba]
   rw[hsm.2.2.1];exact hsm.2.2.2
  refine az ?_
  refine aA ?_
  refine q_e [] ?_
  rw[hsm.2.2.1]
 ·intro hb0
  have ha:=hC.1.cap (by omega)
  have hb:=hC.2.cap (by omega)
  have la:=dG hC.1
  have lb:=dG hC.2
  have hle:=CY hC.1 hC.2
  have hcap:CAP=1000000000000:=rfl
  refine ar ?_
  refine ah ?_
  refine s_q hG ?_ ?_
  ·try simp only[ba]
   exact⟨ha.1,hb.1,ha,hb,⟨la.1.1,lb.1.1.wid,by omega⟩,D.limbs_can _,hle.2.2.2⟩
  refine az ?_
  refine q_e [] ?_
  exact Lb
def wS(B:aj):Tab:={types:= [(3,(.int .i64)),(4, .bool),(9, .str),(181,(.slice (.int .i64)))],elems:= [],cons:= [(117,oK),(123,Eh),(126,oQ),(155,eK),(156,gv),(157,cQ),(158,eO),(165,jh)],hint:= [],N:=78,base:=B}
theorem Ej{B:aj}(hB:aC B):aH Tryz.prog (wS B):=⟨⟨tc ty3 (tc ty4 (tc ty9 (tc je (ae)))),af,by simp only[wS,ioB];omega⟩,aF (cc Tryz.func117 (sX hB) (cc Tryz.func123 (Ki hB) (cc Tryz.func126 (kz hB) (cc Tryz.func155 (mT hB) (cc Tryz.func156 (kx hB) (cc Tryz.func157 (kv hB) (cc Tryz.func158 (ky hB) (cc Tryz.func165 (y7 hB) (ay))))))))),by kernel_rfl⟩
def Ek:Con:=fun l os=>match l,os with
 | [.z .str a, .z .str b], []=>some (RS 1000000000 a/\RS 1000000000 b/\ao b≠0, [.z .str (Lib.itoa (bM (ao a) (ao b))), .z .str (Lib.itoa (iQ (ao a) (ao b)))], [])
 |_,_=>none
theorem Kj{B:aj}(hB:aC B):Valid B Tryz.prog 121 Ek:=by
 refine ab (Ej hB).tab Tryz.func121 rfl rfl rfl ?_
 intro args os C rs os' hc hC
 unfold Ek at hc
 split at hc
 case h_2=>cases hc
 rename_i a b
 cases hc
 refine v_h (Ej hB) fun X hP hT hr hG=> ?_
 have hU:=wS.eq_1
 unfold wS at hT
 have hX:=ai @jh.eq_1<|ai @eK.eq_1<|ai @oK.eq_1<|ai @cQ.eq_1<|ai @oQ.eq_1<|ai @gv.eq_1<|ai @Eh.eq_1<| @eO.eq_1
 simp only[Tryz.f121,aD,al,ioB]
 refine s_g hG ?_
 refine ak ?_
 refine s_q hG ?_ ?_
 ·try simp only[ba]
  exact⟨hC.1.1,hC.2.1.1,(hC.1.cap (by omega)).2,(hC.2.1.cap (by omega)).2⟩
 refine s_g hG ?_
 refine aq ?_ ?_
 ·intro hb0
  simp only[decide_eq_true_eq] at hb0
  rw[if_pos hb0,if_pos hb0]
  have hsm:=Bo hC.1.1 hC.2.1.1 hb0 hC.2.2
  refine s_q hG ?_ ?_
  ·try simp only[ba]
   exact hC.2.2
  refine cm (fun(z:Unit)=>(⟨[(0, .l (.z .str a)),(1, .l (.z .str b)),(6, .l (.z (.int .i64) (ao a))),(7, .l (.z (.int .i64) (ao b))),(9, .l (.z (.int .i64) (bM (ao a) (ao b))))], []⟩:aa)) (fun z=>True) ?_ ?_
  ·refine s_q hG ?_ ?_
   ·try simp only[ba]
    exact⟨hC.2.2,fun h=>h⟩
   refine aq ?_ ?_
   ·intro hb1
    try simp only[bt] at hb1
    refine ag hG ?_ ?_
    ·first|trivial|omega|(simp;done)|(simp;omega)
    show ∃ z,_
    refine q_l ?_
    first|exact hsm.1 hb1|exact hsm.2.1 hb1
   ·intro hb1
    try simp only[bf] at hb1
    refine ar ?_
    show ∃ z,_
    refine q_l ?_
    first|exact hsm.1 hb1|exact hsm.2.1 hb1
  rintro⟨⟩ hu
  try dsimp only at hu
  refine s_q hG ?_ ?_
  ·try simp only[ba]
   rw[hsm.2.2.2.1];exact⟨hsm.2.2.1,hsm.2.2.2.2⟩
  refine az ?_
  refine aA ?_
  refine q_e [] ?_
  rw[hsm.2.2.2.1]
 ·intro hb0
  obtain⟨c1,c2,c3⟩:=hC
  have ha:=c1.cap (by omega)
  have hb:=c2.cap (by omega)
  have la:=dG c1
  have lb:=dG c2
  have hln:=Il (ao a) (ao b)
  have hrq:=Ny (b:=b) c1 c3
  have hrm:=Nz c1 c2 c3
  have hcap:CAP=1000000000000:=rfl
  have hqf:=sa (x:=ao a) c3
  refine ar ?_
  refine ah ?_
  refine s_q hG ?_ ?_
  ·try simp only[ba]
   exact⟨ha,hb,la.1,lb.1,D.ne_limbs c3,by omega⟩
  refine s_q hG ?_ ?_
  ·try simp only[ba]
   exact⟨ha.1,hb.1,D.limbs_can _,by omega⟩
  refine cm (fun(z:Unit)=>(⟨[(0, .l (.z .str a)),(1, .l (.z .str b)),(12, .l (.z .str (Lib.itoa (bM (ao a) (ao b)))))], []⟩:aa)) (fun z=>True) ?_ ?_
  ·refine s_q hG ?_ ?_
   ·try simp only[ba]
    exact⟨fun h=>⟨h,c1.1⟩,fun h=>⟨h,c2.1⟩,fun h=>h⟩
   refine aq ?_ ?_
   ·intro hb2
    try simp only[bt] at hb2
    refine ag hG ?_ ?_
    ·try simp only[ba]
     exact⟨hrq.1.up (by omega),Bn.1.up (by omega)⟩
    show ∃ z,_
    refine q_l ?_
    rw[uf] at hb2
    first|(rw[<- hqf.2.1 hb2,Bn.2,(bb _).2];rfl)|(rw[<- hqf.2.2 hb2];rfl)
   ·intro hb2
    try simp only[bf] at hb2
    refine ar ?_
    show ∃ z,_
    refine q_l ?_
    rw[uf] at hb2
    first|(rw[<- hqf.2.1 hb2,Bn.2,(bb _).2];rfl)|(rw[<- hqf.2.2 hb2];rfl)
  rintro⟨⟩ hu2
  try dsimp only at hu2
  refine s_q hG ?_ ?_
  ·try simp only[ba]
   rw[(bb _).2]
   exact⟨⟨hrq.2.up (by omega),c2.up (by omega)⟩,c1.up (by omega),hrm.up (by omega)⟩
  refine az ?_
  refine q_e [] ?_
  rw[(bb _).2,(bb _).2,Int.mul_comm];rfl
def wT(B:aj):Tab:={types:= [(3,(.int .i64)),(4, .bool),(9, .str),(181,(.slice (.int .i64)))],elems:= [],cons:= [(126,oQ),(155,eK),(156,gv),(158,eO),(165,jh)],hint:= [],N:=50,base:=B}
theorem El{B:aj}(hB:aC B):aH Tryz.prog (wT B):=⟨⟨tc ty3 (tc ty4 (tc ty9 (tc je (ae)))),af,by simp only[wT,ioB];omega⟩,aF (cc Tryz.func126 (kz hB) (cc Tryz.func155 (mT hB) (cc Tryz.func156 (kx hB) (cc Tryz.func158 (ky hB) (cc Tryz.func165 (y7 hB) (ay)))))),by kernel_rfl⟩
def Em:Con:=fun l os=>match l,os with
 | [.z .str a, .z .str b], []=>some (RS 1000000000 a/\RS 1000000000 b, [.z .str (Lib.itoa (cA (ao a) (ao b)))], [])
 |_,_=>none
theorem Kk{B:aj}(hB:aC B):Valid B Tryz.prog 122 Em:=by
 refine ab (El hB).tab Tryz.func122 rfl rfl rfl ?_
 intro args os C rs os' hc hC
 unfold Em at hc
 split at hc
 case h_2=>cases hc
 rename_i a b
 cases hc
 refine v_h (El hB) fun X hP hT hr hG=> ?_
 have hU:=wT.eq_1
 unfold wT at hT
 have hX:=ai @jh.eq_1<|ai @eK.eq_1<|ai @oQ.eq_1<|ai @gv.eq_1<| @eO.eq_1
 simp only[Tryz.f122,aD,al,ioB]
 refine s_g hG ?_
 refine ak ?_
 refine s_q hG ?_ ?_
 ·try simp only[ba]
  exact⟨hC.1.1,hC.2.1,(hC.1.cap (by omega)).2,(hC.2.cap (by omega)).2⟩
 refine s_g hG ?_
 refine aq ?_ ?_
 ·intro hb0
  simp only[decide_eq_true_eq] at hb0
  rw[if_pos hb0,if_pos hb0]
  have ha:=gR hC.1.1 hb0.1
  have hb:=gR hC.2.1 hb0.2
  refine ak ?_
  refine au ?_
  refine br (fun(z:Int×Int)=>(⟨[(0, .l (.z .str a)),(1, .l (.z .str b)),(5, .l (.z (.int .i64) z.1)),(6, .l (.z (.int .i64) z.2))], []⟩:aa)) (fun z=>ug (cA (ao a) (ao b)) z.1 z.2) (fun z=>z.2.natAbs) (ao a,ao b) ?_ ?_ ?_
  ·simp only[ml0,ml1,Nat.reduceLT,Nat.reduceEqDiff,Nat.reduceAdd,Nat.reduceMul,Nat.reduceSub,Nat.reduceLeDiff,Nat.reduceBEq,Nat.reduceBNe,reduceIte,reduceDIte,reduceCtorEq]
  ·exact Io ha hb
  ·rintro⟨x,y⟩ hz
   try dsimp only at hz
   refine ak ?_
   refine s_g hG ?_
   refine aq ?_ ?_
   ·intro hb1
    try simp only[bt] at hb1
    refine ar ?_
    refine ah ?_
    refine au ?_
    refine s_q hG ?_ ?_
    ·try simp only[ba]
     exact hb1
    refine s_g hG ?_
    refine ag hG ?_ ?_
    ·first|trivial|omega|(simp;done)|(simp;omega)
    refine aP ?_
    show ∃ z,_
    refine q_l ?_
    exact Lc hz hb1
   ·intro hb1
    try simp only[bf] at hb1
    refine bg ?_
    refine aE ?_
    refine ax ?_
    refine aw ?_
    refine ah ?_
    refine s_q hG ?_ ?_
    ·try simp only[ba]
     subst hb1
     exact(Iq hz).1
    refine az ?_
    refine aA ?_
    refine q_e [] ?_
    subst hb1
    rw[(Iq hz).2]
 ·intro hb0
  obtain⟨c1,c2⟩:=hC
  have ha:=c1.cap (by omega)
  have hb:=c2.cap (by omega)
  have la:=dG c1
  have lb:=dG c2
  have hcap:CAP=1000000000000:=rfl
  refine ar ?_
  refine ah ?_
  refine s_q hG ?_ ?_
  ·try simp only[ba]
   exact⟨ha,hb⟩
  refine ak ?_
  refine au ?_
  refine br (fun(z:List Int×List Int)=>(⟨[(9, .l (.z (.slice (.int .i64)) z.1)),(10, .l (.z (.slice (.int .i64)) z.2))], []⟩:aa)) (fun z=>yj (cA (ao a) (ao b)) z.1 z.2) (fun z=>(D.valL z.2).natAbs) (D.limbs (ao a).natAbs,D.limbs (ao b).natAbs) ?_ ?_ ?_
  ·simp only[ml0,ml1,Nat.reduceLT,Nat.reduceEqDiff,Nat.reduceAdd,Nat.reduceMul,Nat.reduceSub,Nat.reduceLeDiff,Nat.reduceBEq,Nat.reduceBNe,reduceIte,reduceDIte,reduceCtorEq]
  ·exact Ip c1 c2
  ·rintro⟨x,y⟩ hz
   try dsimp only at hz
   refine ak ?_
   refine s_g hG ?_
   refine aq ?_ ?_
   ·intro hb2
    try simp only[bt] at hb2
    refine ar ?_
    refine ah ?_
    refine au ?_
    refine s_q hG ?_ ?_
    ·try simp only[ba]
     have lx:=hz.lx
     have ly:=hz.ly
     exact⟨hz.hx,hz.hy,(by rintro rfl;simp at hb2),by omega⟩
    refine s_g hG ?_
    refine ag hG ?_ ?_
    ·first|trivial|omega|(simp;done)|(simp;omega)
    refine aP ?_
    show ∃ z,_
    refine q_l ?_
    exact Ld hz hb2
   ·intro hb2
    try simp only[bf] at hb2
    refine bg ?_
    refine aE ?_
    refine ax ?_
    refine aw ?_
    refine ah ?_
    refine s_q hG ?_ ?_
    ·try simp only[ba]
     have lx:=hz.lx
     exact⟨hz.hx,by omega⟩
    refine az ?_
    refine q_e [] ?_
    rw[MP hz hb2]
def o9(B:aj):Tab:={types:= [(3,(.int .i64)),(5,(.int .u8)),(9, .str)],elems:= [],cons:= [],hint:= [],N:=24,base:=B}
theorem y9{B:aj}(hB:aC B):aH Tryz.prog (o9 B):=⟨⟨tc ty3 (tc ty5 (tc ty9 (ae))),af,by simp only[o9,ioB];omega⟩,bL rfl,by kernel_rfl⟩
def En:Con:=fun l os=>match l,os with
 | [.z .str s], []=>some (s.length<=QL, [.z .str (tN s), .z .str (tD s), .z .bool (cb s)], [])
 |_,_=>none
theorem Gm{B:aj}(hB:aC B):Valid B Tryz.prog 134 En:=by
 refine ab (y9 hB).tab Tryz.func134 rfl rfl rfl ?_
 intro args os C rs os' hc hC
 unfold En at hc
 split at hc
 case h_2=>cases hc
 rename_i s
 cases hc
 refine v_h (y9 hB) fun X hP hT hr hG=> ?_
 have hU:=o9.eq_1
 unfold o9 at hT
 have hX:=Bool.not_true
 simp only[Tryz.f134,aD,al,ioB]
 have hl:s.length<=1000000000:=hC
 refine s_g hG ?_
 refine ak ?_
 refine s_g hG ?_
 refine au ?_
 refine br (fun(z:Nat)=>(⟨[(0, .l (.z .str s)),(2, .l (.z .str [])),(3, .l (.z .str [])),(4, .l (.z .bool false)),(5, .l (.z (.int .i64) (z:Int)))], []⟩:aa)) (fun z=>z<=s.length/\(s.take z).all (· !=47)=true) (fun z=>s.length-z) 0 ?_ ?_ ?_
 ·refine q_l ?_
  rfl
 ·exact⟨by omega,by simp⟩
 ·rintro k ⟨g1,g2⟩
  try dsimp only at g1 g2
  refine ak ?_
  refine s_g hG ?_
  refine aq ?_ ?_
  ·intro hb0
   try simp only[bt] at hb0
   have hk:k<s.length:=by have h9:(k:Int)<(s.length:Int):=hb0;omega
   refine ar ?_
   refine ah ?_
   refine ak ?_
   refine au ?_
   refine s_g hG ?_
   refine aq ?_ ?_
   ·intro hb1
    try simp only[bt] at hb1
    refine s_d hG ?_ ?_
    ·try simp only[ba]
     exact Gc hl hk
    refine az ?_
    refine bC ?_
    refine aA ?_
    refine en ?_
    refine bC ?_
    refine aA ?_
    refine q_e [] ?_
    exact yO hl hk g2 (Ds.1 hb1)
   ·intro hb1
    try simp only[bf] at hb1
    refine ar ?_
    refine aP ?_
    refine ah ?_
    refine ag hG ?_ ?_
    ·first|trivial|omega|(simp;done)|(simp;omega)
    show ∃ z,_
    refine q_l ?_
    exact⟨k+1,wi (by omega) (by omega),hk,F5 hk g2 (fun e=>hb1 (Ds.2 e)),by omega⟩
  ·intro hb0
   try simp only[bf] at hb0
   have hk: ¬k<s.length:=by have h9: ¬ (k:Int)<(s.length:Int):=hb0;omega
   refine bg ?_
   refine aE ?_
   refine ax ?_
   refine aw ?_
   refine ah ?_
   refine s_g hG ?_
   refine az ?_
   refine q_e [] ?_
   exact JA hk g2
def pb(B:aj):Tab:={types:= [(9, .str)],elems:= [],cons:= [(134,En)],hint:= [],N:=15,base:=B}
theorem za{B:aj}(hB:aC B):aH Tryz.prog (pb B):=⟨⟨tc ty9 (ae),af,by simp only[pb,ioB];omega⟩,aF (cc Tryz.func134 (Gm hB) (ay)),by kernel_rfl⟩
def kX:Con:=fun l os=>match l,os with
 | [.z .str q], []=>some (q.length<=QL, [.z .str (tN q), .z .str (tD q)], [])
 |_,_=>none
theorem uU{B:aj}(hB:aC B):Valid B Tryz.prog 92 kX:=by
 refine ab (za hB).tab Tryz.func92 rfl rfl rfl ?_
 intro args os C rs os' hc hC
 unfold kX at hc
 split at hc
 case h_2=>cases hc
 rename_i q
 cases hc
 refine v_h (za hB) fun X hP hT hr hG=> ?_
 have hU:=pb.eq_1
 unfold pb at hT
 have hX:= @En.eq_1
 simp only[Tryz.f92,aD,al,ioB]
 refine s_g hG ?_
 refine s_q hG ?_ ?_
 ·try simp only[ba]
  exact hC
 refine s_g hG ?_
 refine az ?_
 refine q_e [] ?_
 trivial
def pf(B:aj):Tab:={types:= [(3,(.int .i64)),(9, .str)],elems:= [],cons:= [(121,Ek),(122,Em),(162,wM),(163,uS)],hint:= [],N:=33,base:=B}
theorem zb{B:aj}(hB:aC B):aH Tryz.prog (pf B):=⟨⟨tc ty3 (tc ty9 (ae)),af,by simp only[pf,ioB];omega⟩,aF (cc Tryz.func121 (Kj hB) (cc Tryz.func122 (Kk hB) (cc Tryz.func162 (Kh hB) (cc Tryz.func163 (y6 hB) (ay))))),by kernel_rfl⟩
def kA:Con:=fun l os=>match l,os with
 | [.z .str n, .z .str d], []=>some (MkR n d, [.z .str (bp (Rat.divInt (ao n) (ao d)))], [])
 |_,_=>none
theorem nK{B:aj}(hB:aC B):Valid B Tryz.prog 116 kA:=by
 refine ab (zb hB).tab Tryz.func116 rfl rfl rfl ?_
 intro args os C rs os' hc hC
 unfold kA at hc
 split at hc
 case h_2=>cases hc
 rename_i n d
 cases hc
 refine v_h (zb hB) fun X hP hT hr hG=> ?_
 have hU:=pf.eq_1
 unfold pf at hT
 have hX:=ai @Ek.eq_1<|ai @Em.eq_1<|ai @uS.eq_1<| @wM.eq_1
 simp only[Tryz.f116,aD,al,ioB]
 refine s_g hG ?_
 refine s_q hG ?_ ?_
 ·try simp only[ba]
  exact nH hC
 refine cm (fun(z:Unit)=>(⟨[(0, .l (.z .str n)),(1, .l (.z .str d)),(4, .l (.z .str [])),(5, .l (.z .str (Lib.itoa (dt (ao n) (ao d)))))], []⟩:aa)) (fun z=>True) ?_ ?_
 ·refine s_q hG ?_ ?_
  ·try simp only[ba]
   exact hC.2.1.1
  refine aq ?_ ?_
  ·intro hb0
   try simp only[bt] at hb0
   refine ag hG ?_ ?_
   ·try simp only[ba]
    exact F6 hC
   show ∃ z,_
   refine q_l ?_
   first|exact Do (o5.1 hb0)|exact Dp (fun e=>hb0 (o5.2 e))
  ·intro hb0
   try simp only[bf] at hb0
   refine ar ?_
   show ∃ z,_
   refine q_l ?_
   first|exact Do (o5.1 hb0)|exact Dp (fun e=>hb0 (o5.2 e))
 rintro⟨⟩-
 refine s_q hG ?_ ?_
 ·try simp only[ba]
  exact uJ hC
 refine s_q hG ?_ ?_
 ·try simp only[ba]
  exact F7 hC
 refine ak ?_
 refine s_g hG ?_
 refine aq ?_ ?_
 ·intro hb1
  try simp only[bt] at hb1
  refine s_g hG ?_
  refine az ?_
  refine aA ?_
  refine q_e [] ?_
  exact LL hC hb1
 ·intro hb1
  try simp only[bf] at hb1
  refine ar ?_
  refine ah ?_
  refine s_q hG ?_ ?_
  ·try simp only[ba]
   exact F8 hC
  refine az ?_
  refine q_e [] ?_
  exact LM hC hb1
def pg(B:aj):Tab:={types:= [(3,(.int .i64)),(9, .str)],elems:= [],cons:= [(116,kA),(126,oQ)],hint:= [],N:=10,base:=B}
theorem zc{B:aj}(hB:aC B):aH Tryz.prog (pg B):=⟨⟨tc ty3 (tc ty9 (ae)),af,by simp only[pg,ioB];omega⟩,aF (cc Tryz.func116 (nK hB) (cc Tryz.func126 (kz hB) (ay))),by kernel_rfl⟩
def Me:Con:=fun l os=>match l,os with
 | [.z (.int .i64) n, .z (.int .i64) d], []=>some (I64 n/\I64 d/\d≠0, [.z .str (bp (Rat.divInt n d))], [])
 |_,_=>none
theorem Gn{B:aj}(hB:aC B):Valid B Tryz.prog 85 Me:=by
 refine ab (zc hB).tab Tryz.func85 rfl rfl rfl ?_
 intro args os C rs os' hc hC
 unfold Me at hc
 split at hc
 case h_2=>cases hc
 rename_i n d
 cases hc
 refine v_h (zc hB) fun X hP hT hr hG=> ?_
 have hU:=pg.eq_1
 unfold pg at hT
 have hX:=ai @kA.eq_1<| @oQ.eq_1
 simp only[Tryz.f85,aD,al,ioB]
 refine s_g hG ?_
 refine s_q hG ?_ ?_
 ·try simp only[ba]
  exact JB hC
 refine az ?_
 refine q_e [] ?_
 exact LN
def ph(B:aj):Tab:={types:= [(9, .str),(46, .str)],elems:= [],cons:= [(92,kX),(115,uT),(116,kA),(117,oK)],hint:= [],N:=39,base:=B}
theorem zd{B:aj}(hB:aC B):aH Tryz.prog (ph B):=⟨⟨tc ty9 (tc mD (ae)),af,by simp only[ph,ioB];omega⟩,aF (cc Tryz.func92 (uU hB) (cc Tryz.func115 (y8 hB) (cc Tryz.func116 (nK hB) (cc Tryz.func117 (sX hB) (ay))))),by kernel_rfl⟩
def Eo:Con:=fun l os=>match l,os with
 | [.z .str a, .z .str b], []=>some (GQ QK a/\GQ QK b, [.z .str (bp (bD a+bD b))], [])
 |_,_=>none
theorem Gp{B:aj}(hB:aC B):Valid B Tryz.prog 62 Eo:=by
 refine ab (zd hB).tab Tryz.func62 rfl rfl rfl ?_
 intro args os C rs os' hc hC
 unfold Eo at hc
 split at hc
 case h_2=>cases hc
 rename_i a b
 cases hc
 refine v_h (zd hB) fun X hP hT hr hG=> ?_
 have hU:=ph.eq_1
 unfold ph at hT
 have hX:=ai @kA.eq_1<|ai @kX.eq_1<|ai @uT.eq_1<| @oK.eq_1
 simp only[Tryz.f62,aD,al,ioB]
 refine s_g hG ?_
 refine s_q hG ?_ ?_
 ·try simp only[ba]
  exact Dq hC.1
 refine s_q hG ?_ ?_
 ·try simp only[ba]
  exact Dq hC.2
 refine ak ?_
 refine s_g hG ?_
 refine aq ?_ ?_
 ·intro hb0
  try simp only[bt] at hb0
  refine s_q hG ?_ ?_
  ·try simp only[ba]
   exact⟨(fF hC.1).1,(fF hC.2).1⟩
  refine az ?_
  refine aA ?_
  refine q_e [] ?_
  exact JC hC.1 hC.2 hb0
 ·intro hb0
  try simp only[bf] at hb0
  refine ar ?_
  refine ah ?_
  refine s_q hG ?_ ?_
  ·try simp only[ba]
   exact F9 hC.1 hC.2
  refine az ?_
  refine q_e [] ?_
  exact JE hC.1 hC.2
def pj(B:aj):Tab:={types:= [(9, .str),(46, .str)],elems:= [],cons:= [(92,kX),(116,kA),(117,oK)],hint:= [],N:=35,base:=B}
theorem ze{B:aj}(hB:aC B):aH Tryz.prog (pj B):=⟨⟨tc ty9 (tc mD (ae)),af,by simp only[pj,ioB];omega⟩,aF (cc Tryz.func92 (uU hB) (cc Tryz.func116 (nK hB) (cc Tryz.func117 (sX hB) (ay)))),by kernel_rfl⟩
def Ep:Con:=fun l os=>match l,os with
 | [.z .str a, .z .str b], []=>some (GQ QK a/\GQ QK b, [.z .str (bp (bD a*bD b))], [])
 |_,_=>none
theorem Gq{B:aj}(hB:aC B):Valid B Tryz.prog 84 Ep:=by
 refine ab (ze hB).tab Tryz.func84 rfl rfl rfl ?_
 intro args os C rs os' hc hC
 unfold Ep at hc
 split at hc
 case h_2=>cases hc
 rename_i a b
 cases hc
 refine v_h (ze hB) fun X hP hT hr hG=> ?_
 have hU:=pj.eq_1
 unfold pj at hT
 have hX:=ai @kA.eq_1<|ai @kX.eq_1<| @oK.eq_1
 simp only[Tryz.f84,aD,al,ioB]
 refine s_g hG ?_
 refine s_q hG ?_ ?_
 ·try simp only[ba]
  exact Dq hC.1
 refine s_q hG ?_ ?_
 ·try simp only[ba]
  exact Dq hC.2
 refine ak ?_
 refine s_g hG ?_
 refine aq ?_ ?_
 ·intro hb0
  try simp only[bt] at hb0
  refine s_q hG ?_ ?_
  ·try simp only[ba]
   exact⟨(fF hC.1).1,(fF hC.2).1⟩
  refine az ?_
  refine aA ?_
  refine q_e [] ?_
  exact JD hC.1 hC.2 hb0
 ·intro hb0
  try simp only[bf] at hb0
  refine ar ?_
  refine ah ?_
  refine s_q hG ?_ ?_
  ·try simp only[ba]
   exact Ga hC.1 hC.2
  refine az ?_
  refine q_e [] ?_
  exact JF hC.1 hC.2
def pk(B:aj):Tab:={types:= [(3,(.int .i64)),(22,(.slice .str)),(46, .str)],elems:= [],cons:= [],hint:= [],N:=26,base:=B}
theorem zf{B:aj}(hB:aC B):aH Tryz.prog (pk B):=⟨⟨tc ty3 (tc gr (tc mD (ae))),af,by simp only[pk,ioB];omega⟩,bL rfl,by kernel_rfl⟩
def kB:Con:=fun l os=>match l,os with
 | [.z (.slice .str) p, .z (.slice .str) q], []=>some (p.length<=QL/\q.length<=QL, [.z .bool (decide (p=q))], [])
 |_,_=>none
theorem nL{B:aj}(hB:aC B):Valid B Tryz.prog 28 kB:=by
 refine ab (zf hB).tab Tryz.func28 rfl rfl rfl ?_
 intro args os C rs os' hc hC
 unfold kB at hc
 split at hc
 case h_2=>cases hc
 rename_i p q
 cases hc
 refine v_h (zf hB) fun X hP hT hr hG=> ?_
 have hU:=pk.eq_1
 unfold pk at hT
 have hX:=Bool.not_true
 simp only[Tryz.f28,aD,al,ioB]
 have hl:p.length<=1000000000:=hC.1
 refine s_g hG ?_
 refine ak ?_
 refine s_g hG ?_
 refine aq ?_ ?_
 ·intro hb0
  try simp only[bt] at hb0
  refine s_g hG ?_
  refine az ?_
  refine aA ?_
  refine q_e [] ?_
  exact JG hb0
 ·intro hb0
  try simp only[bf] at hb0
  have he:p.length=q.length:=by have h9:(p.length:Int)=(q.length:Int):=hb0;omega
  refine ar ?_
  refine ah ?_
  refine ak ?_
  refine s_g hG ?_
  refine au ?_
  refine br (fun(z:Nat)=>(⟨[(0, .l (.z (.slice .str) p)),(1, .l (.z (.slice .str) q)),(4, .l (.z .bool false)),(5, .l (.z (.int .i64) (z:Int)))], []⟩:aa)) (fun z=>z<=p.length/\p.take z=q.take z) (fun z=>p.length-z) 0 ?_ ?_ ?_
  ·refine q_l ?_
   rfl
  ·exact⟨by omega,rfl⟩
  ·rintro k ⟨g1,g2⟩
   try dsimp only at g1 g2
   refine ak ?_
   refine s_g hG ?_
   refine aq ?_ ?_
   ·intro hb1
    try simp only[bt] at hb1
    have hk:k<p.length:=by have h9:(k:Int)<(p.length:Int):=hb1;omega
    refine ar ?_
    refine ah ?_
    refine ak ?_
    refine au ?_
    refine s_d hG ?_ ?_
    ·try simp only[ba]
     rw[<- he]
     exact⟨⟨by omega,hb1⟩,by omega,hb1⟩
    refine aq ?_ ?_
    ·intro hb2
     try simp only[bt] at hb2
     refine s_g hG ?_
     refine az ?_
     refine bC ?_
     refine aA ?_
     refine en ?_
     refine bC ?_
     refine aA ?_
     refine q_e [] ?_
     exact JH hb2
    ·intro hb2
     try simp only[bf] at hb2
     refine ar ?_
     refine aP ?_
     refine ah ?_
     refine ag hG ?_ ?_
     ·first|trivial|omega|(simp;done)|(simp;omega)
     show ∃ z,_
     refine q_l ?_
     exact⟨k+1,wi (by omega) (by omega),hk,Gb he hk g2 hb2,by omega⟩
   ·intro hb1
    try simp only[bf] at hb1
    have hk: ¬k<p.length:=by have h9: ¬ (k:Int)<(p.length:Int):=hb1;omega
    refine bg ?_
    refine aE ?_
    refine ax ?_
    refine aw ?_
    refine ah ?_
    refine s_g hG ?_
    refine az ?_
    refine q_e [] ?_
    exact JI he hk g2
def wU:Con:=iO [some (.slice .str),some (.slice .str)] kB
theorem B4{B:aj}(hB:aC B):Valid B Tryz.prog 28 wU:=e9 _ (nL hB)
def sY(B:aj):Tab:={types:= [(87,(.slice (.int .u32))),(161,(.int .u32)),(164,(.int .u64))],elems:= [(87,161)],cons:= [(193,uR)],hint:= [],N:=38,base:=B}
theorem Kl{B:aj}(hB:aC B):aH Tryz.prog (sY B):=⟨⟨tc hZ (tc fB (tc mE (ae))),aS (by kernel_rfl) (af),by simp only[sY,ioB];omega⟩,aF (cc Tryz.func193 (D6 hB) (ay)),by kernel_rfl⟩
def nM:Con:=fun l os=>match l,os with
 | [.z (.slice (.int .u32)) m, .z (.int .u32) b], []=>some (Lim m/\xW b/\m.length<CAP, [.z (.slice (.int .u32)) (padL (valL m/b).toNat m.length), .z (.int .u32) (valL m%b)], [])
 |_,_=>none
theorem Mf{B:aj}(hB:aC B):Valid B Tryz.prog 189 nM:=by
 refine ab (Kl hB).tab Tryz.func189 rfl rfl rfl ?_
 intro args os C rs os' hc hC
 unfold nM at hc
 split at hc
 case h_2=>cases hc
 rename_i m b
 cases hc
 refine v_h (Kl hB) fun X hP hT hr hG=> ?_
 have hU:=sY.eq_1
 unfold sY at hT
 have hX:= @uR.eq_1
 simp only[Tryz.f189,aD,al,ioB]
 refine s_g hG ?_
 refine s_q hG ?_ ?_
 ·try simp only[ba]
  exact⟨by omega,by omega,by have:=hC.2.2;unfold CAP at this;unfold Cm.Roomy;omega⟩
 refine s_g hG ?_
 refine ak ?_
 refine s_g hG ?_
 refine au ?_
 refine CC hr (gf:=208) (caps:= [.z (.ptr (.slice (.int .u32))) m]) (items:=cO m) (by simp only[hT,sY,mx0,mx1,mx2,mx3,mx4,mx5,mx6,aU,bm,bF,aY,bl,Ty.fieldTy,Ty.fieldOf,Nat.reduceLT,Nat.reduceEqDiff,Nat.reduceAdd,Nat.reduceMul,Nat.reduceSub,Nat.reduceLeDiff,Nat.reduceBEq,Nat.reduceBNe,reduceIte,reduceDIte,reduceCtorEq];try rfl) (by rfl) (by rw[hP];exact yb m) (by rfl) [3,6,7] (by rfl) (by simp only[hT,sY];try rfl) (fun(k:Nat) (z:Int×List Int)=>(⟨[(3, .l (.z (.ptr (.int .u32)) b)),(6, .l (.ownP 6 0)),(7, .l (.ownP 7 0))], [(6, .box 87 [.ownS 13]),(7, .box 164 [.z (.int .u64) z.1]),(13, .arr (.int .u32) 161 z.2)]⟩:aa)) (fun(k:Nat) (z:Int×List Int)=>kc m b k z.1 z.2) (0,List.replicate (List.length m) 0) ?_ ?_ ?_ ?_ ?_
 ·simp only[ml0,ml1,Nat.reduceLT,Nat.reduceEqDiff,Nat.reduceAdd,Nat.reduceMul,Nat.reduceSub,Nat.reduceLeDiff,Nat.reduceBEq,Nat.reduceBNe,reduceIte,reduceDIte,reduceCtorEq]
  simp
 ·exact xY hC.2.1
 ·intro k z;rfl
 ·intro k hk
  rintro⟨r,out⟩ hz
  try dsimp only at hz
  have hk:k<List.length m:=by simpa [cO] using hk
  refine⟨_,by simp only[hT,sY,cO,rX,mx0,mx1,mx2,mx3,mx4,mx5,mx6,aU,bm,bF,aY,bl,Ty.fieldTy,Ty.fieldOf,Nat.reduceLT,Nat.reduceEqDiff,Nat.reduceAdd,Nat.reduceMul,Nat.reduceSub,Nat.reduceLeDiff,Nat.reduceBEq,Nat.reduceBNe,reduceIte,reduceDIte,reduceCtorEq,List.getElem_map,List.getElem_range];rfl,?_⟩
  intro X' hP' hT'
  have hG':aH X'.P X'.T:=by rw[hP',hT'];exact hG.keep _
  rw[hT] at hT'
  refine au ?_
  refine ak ?_
  refine nk hG' ?_ ?_
  ·first|trivial|omega|(simp;done)|(simp;omega)
  refine ah ?_
  refine CD hG' ?_ ?_
  ·try simp only[ba]
   have hl:=hz.1
   exact⟨CL hC.2.1,CL hC.2.1,by omega,by omega⟩
  refine aP ?_
  show ∃ z,_
  simp only[ml0,ml1,Nat.reduceLT,Nat.reduceEqDiff,Nat.reduceAdd,Nat.reduceMul,Nat.reduceSub,Nat.reduceLeDiff,Nat.reduceBEq,Nat.reduceBNe,reduceIte,reduceDIte,reduceCtorEq]
  exact Ba hC.1 hC.2.1 hk hz
 ·rintro⟨r,out⟩ hz
  try dsimp only at hz
  rw[show List.length (cO m)=List.length m by simp[cO]] at hz
  refine aP ?_
  refine ah ?_
  refine s_d hG ?_ ?_
  ·first|trivial|omega|(simp;done)|(simp;omega)
  refine az ?_
  refine q_e [13] ?_
  exact Fh hC.1 hC.2.1 hz
def Er(B:aj):Tab:={types:= [(3,(.int .i64)),(87,(.slice (.int .u32))),(161,(.int .u32)),(164,(.int .u64))],elems:= [(87,161)],cons:= [],hint:= [],N:=41,base:=B}
theorem Km{B:aj}(hB:aC B):aH Tryz.prog (Er B):=⟨⟨tc ty3 (tc hZ (tc fB (tc mE (ae)))),aS (by kernel_rfl) (af),by simp only[Er,ioB];omega⟩,bL rfl,by kernel_rfl⟩
def kY:Con:=fun l os=>match l,os with
 | [.z (.slice (.int .u32)) m, .z (.int .u32) b], []=>some (Lim m/\xX b/\m.length<CAP, [.own (.int .u32) 161 (padL (valL m*b).toNat (m.length+1))], [])
 |_,_=>none
theorem Mg{B:aj}(hB:aC B):Valid B Tryz.prog 190 kY:=by
 refine ab (Km hB).tab Tryz.func190 rfl rfl rfl ?_
 intro args os C rs os' hc hC
 unfold kY at hc
 split at hc
 case h_2=>cases hc
 rename_i m b
 cases hc
 refine v_h (Km hB) fun X hP hT hr hG=> ?_
 have hU:=Er.eq_1
 unfold Er at hT
 have hX:=Bool.not_true
 simp only[Tryz.f190,aD,al,ioB]
 refine s_g hG ?_
 refine s_q hG ?_ ?_
 ·try simp only[ba]
  have h1:List.length m<1000000000000:=hC.2.2
  rw[wi (by omega) (by omega)]
  exact⟨by omega,by omega,by unfold Cm.Roomy;omega⟩
 refine s_g hG ?_
 refine ak ?_
 refine s_g hG ?_
 refine au ?_
 refine br (fun(z:Nat×Int×List Int)=>(⟨[(1, .l (.z (.int .u32) b)),(5, .l (.ownS 13)),(6, .l (.z (.int .u64) z.2.1)),(14, .l (.z (.slice (.int .u32)) m)),(15, .l (.z (.int .i64) (List.length m:Int))),(16, .l (.z (.int .i64) (z.1:Int)))], [(13, .arr (.int .u32) 161 z.2.2)]⟩:aa)) (fun z=>jb m b z.1 z.2.1 z.2.2) (fun z=>List.length m-z.1) (0,0, []) ?_ ?_ ?_
 ·refine q_l ?_
  exact⟨rfl,rfl⟩
 ·exact vO
 ·rintro⟨k,c,out⟩ hz
  try dsimp only at hz
  refine s_g hG ?_
  refine ak ?_
  refine aq ?_ ?_
  ·intro hb0
   try simp only[bt] at hb0
   refine ar ?_
   refine ah ?_
   refine ak ?_
   refine au ?_
   refine s_q hG ?_ ?_
   ·try simp only[ba]
    exact⟨by omega,hb0⟩
   refine s_g hG ?_
   refine ag hG ?_ ?_
   ·try simp only[ba]
    have h1:List.length m<1000000000000:=hC.2.2
    have h2:=hz.2.1
    exact⟨by decide,by unfold Cm.Roomy;omega,by decide⟩
   refine aP ?_
   refine ah ?_
   refine ag hG ?_ ?_
   ·first|trivial|omega|(simp;done)|(simp;omega)
   show ∃ z,_
   refine q_l ?_
   exact xZ hC.1 hC.2.2 hC.2.1 hb0 hz
  ·intro hb0
   try simp only[bf] at hb0
   refine bg ?_
   refine aE ?_
   refine ax ?_
   refine aw ?_
   refine ah ?_
   refine s_q hG ?_ ?_
   ·try simp only[ba]
    have h1:List.length m<1000000000000:=hC.2.2
    have h2:=hz.2.1
    have h3:=hz.1
    unfold Cm.Roomy;omega
   refine az ?_
   refine q_e [] ?_
   exact⟨trivial,Bb hC.1 hC.2.1 hb0 hz⟩
end Go.Proofs.YtdojbabpnaifoaaGreatDoor
end
