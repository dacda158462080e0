/- Merged by a program out of several texts. -/
import Derived.Test.YtdojbabpnaifoaaGreatDoorS3
import Derived.Test.YtdojbabpnaifoaaGreatDoorS2
import Derived.Laws.CopyOwn
import Derived.Deep.RegionLaw
import Derived.Shelf.Strings.Builder2
import Derived.Shelf.Small.Wraps
import Derived.Shelf.Strings.BuilderK
import Derived.Shelf.Strings.Builder2Cap
import Derived.Shelf.Strconv.Atoi
import Derived.Shelf.Strconv.Itoa3
import Derived.Shelf.Strconv.AtoiErrFast
import Derived.Shelf.Strconv.ParseIntEmpty
import Derived.Shelf.Strconv.AtoiFail
import Derived.Shelf.Strconv.Clone
import Derived.Shelf.Strconv.SyntaxError
import Derived.Shelf.Strconv.Lower
import Derived.Shelf.Strconv.ParseUint10
import Derived.Shelf.Strconv.ParseUint10Empty
import Derived.Shelf.Strconv.RangeError
import Derived.Shelf.Strconv.ParseUintEmpty
import Derived.Shelf.Strconv.ParseUint10b64
import Derived.Shelf.Strconv.ParseUint10b32
import Derived.Shelf.Strconv.ParseUint10b16
import Derived.Shelf.Strconv.ParseUint10b8
import Derived.Shelf.Strings.Search1
import Derived.Shelf.Strings.Search2
import Derived.Shelf.Strings.Cut
import Derived.Shelf.Strings.Shaped
import Derived.Shelf.Bits.Mul64
import Derived.Shelf.Strings.Repeat
import Derived.Test.YtdojbabpnaifoaaGreatDoorProg
import Derived.WalkKit
import Derived.BigQuiet
import Derived.Shelf.Abstract
import Derived.RangeFuncBox
import Derived.OwnWalkIn
import Derived.TacticsInMore
import Derived.LoopNIn
import Derived.LoopIn
set_option linter.all false
set_option linter.unusedSimpArgs false
set_option linter.unusedVariables false
set_option maxRecDepth 100000
section
namespace Go.Cm
open Go.Proofs
def de:Nat->List Rat->List Rat->List Rat
 |0,p,_=>cx p
 |n+1,p,q=>if q= [] then cx p else de n q (cx (divN p q).2)
def bJ(p q:List Rat):List Rat:=de (q.length+1) p q
def Trm(l:List Rat):Prop:=l≠ []->aH l≠0
def uy:Nat->List Rat->List Rat->Prop
 |0,_,_=>True
 |n+1,p,q=>if q= [] then ∀ x∈p,lq x<=QH else ux q (p.length+1) p/\(∀ x∈q,lq x<=QD)/\(∀ x∈(divN p q).2,lq x<=QH)/\uy n q (cx (divN p q).2)
theorem eR:∀ l:List Rat,Trm (aS l)
 | []=>fun h=>absurd rfl h
 |x::l=>by
  intro h;have ih:=eR l;simp only[aS] at h ⊢;split
  ·(rename_i hl;rw[hl] at h;split;·rename_i hx;simp only[hx,if_true,ne_eq,not_true] at h);·rename_i hx;simpa [aH] using hx
  ·rename_i y m hl;rw[hl] at ih;have:=ih (by simp);simpa [aH] using this
theorem uz(q:List Rat):∀ (n:Nat) (r s:List Rat),Trm r->Trm (fb q n r s).2
 |0,r,s,h=>h
 |n+1,r,s,h=>by
  rw[fb];split;·exact uz q n _ _ (eR _)
  ·exact h
theorem eZ{p q:List Rat}(h:Trm p):Trm (divN p q).2:=uz _ _ _ _ h
theorem pY{q:List Rat}(hq:0<q.length)(h0:aH q≠0):∀ (n:Nat) (r s:List Rat),r.length<n->(fb q n r s).2.length<q.length
 |0,r,s,h=>absurd h (by omega)
 |n+1,r,s,h=>by
  rw[fb];split;·rename_i hl;have:=fy hq hl h0;exact pY hq h0 n _ _ (by omega)
  ·rename_i hl;simp only;omega
theorem dW{p q:List Rat}(hq:0<q.length)(h0:aH q≠0):(divN p q).2.length<q.length:=pY hq h0 _ _ _ (Nat.lt_succ_self _)
theorem b5(l:List Rat):(cx l).length=l.length:=by simp[cx]
theorem iR{l:List Rat}(h:0<l.length):aH (cx l)=aH l/aH l:=by
 rw[bX (by rw[b5];exact h),b5];conv=>rhs;arg 1;rw[bX h]
 unfold cx cf;simp only[List.getD_eq_getElem?_getD,List.getElem?_map];rw[List.getElem?_eq_getElem (by omega)];rfl
theorem dn{l:List Rat}(h:Trm l):Trm (cx l):=by
 intro hne;have hl:0<l.length:=by rw[<- b5];exact List.length_pos_iff.2 hne
 have h1:=h (List.length_pos_iff.1 hl);rw[iR hl];grind
structure iS (p q:List ND):Prop where
 hp:∀ x∈p,NOK x
 hq:∀ x∈q,NOK x
 l1:p.length<=900
 l2:q.length<=900
 tp:Trm (aq p)
 tq:Trm (aq q)
 safe:uy (q.length+1) (aq p) (aq q)
structure uA (p q:List ND) (n:Nat) (a b:List Rat):Prop where
 eq:de n a b=bJ (aq p) (aq q)
 fuel:b.length<n
 safe:uy n a b
 ta:Trm a
 tb:Trm b
 la:a.length<=900
 lb:b.length<=900
theorem yj{p:List ND}(h:∀ x∈p,NOK x):aI (aq p)=p:=by
 simp only[aq,aI,List.map_map];conv=>rhs;rw[<- List.map_id p]
 exact List.map_congr_left fun x hx=>h x hx
theorem H6{p q:List ND}(h:iS p q):uA p q (q.length+1) (aq p) (aq q):=by
 refine⟨?_,by rw[aM];omega,h.safe,h.tp,h.tq,by rw[aM];exact h.l1,by rw[aM];exact h.l2⟩;unfold bJ;rw[aM]
theorem ix(l:List Rat):∀ x∈aI l,NOK x:=by
 intro x hx;obtain⟨y,_,rfl⟩:=List.mem_map.1 hx;exact b4 y
theorem Lh{p q:List ND}{n:Nat}{a b:List Rat}(h:uA p q n a b)(hb:0<b.length):
  fG (aI a) (aI b)/\oO (aI (divN a b).2)/\(∃ m,uA p q m b (cx (divN a b).2))/\(cx (divN a b).2).length<b.length:=by
 have hbn:=List.length_pos_iff.1 hb;have h1:=h.safe;have h2:=h.eq;have h3:=h.fuel;have hl:=h.tb hbn;have hs:=dW (p:=a) hb hl;match n,h1,h2,h3 with
 |n+1,h1,h2,h3=>
  rw[uy,if_neg hbn] at h1;rw[de,if_neg hbn] at h2;obtain⟨s1,s2,s3,s4⟩:=h1;have hlb:=h.lb;refine⟨⟨ix _,fx s2,by rw[aE];exact h.la,by rw[aE];exact h.lb,by rw[aE];exact hb,by rw[aK];exact hl,by rw[aK,aK,aE];exact s1⟩,
   ⟨fx s3,by rw[aE];omega,fun hne=> ?_⟩,⟨n,h2,by rw[b5];omega,s4,h.tb,dn (eZ h.ta),h.lb,by rw[b5];omega⟩,by rw[b5];exact hs⟩
  rw[aK];exact eZ h.ta (fun e=>hne (by rw[e];rfl))
theorem NW{p q:List ND}{n:Nat}{a b:List Rat}(h:uA p q n a b)(hb: ¬0<b.length):oO (aI a)/\cx a=bJ (aq p) (aq q):=by
 have hbn:b= []:=List.eq_nil_of_length_eq_zero (by omega);have h1:=h.safe;have h2:=h.eq;have h3:=h.fuel;match n,h1,h2,h3 with
 |n+1,h1,h2,h3=>
  rw[uy,if_pos hbn] at h1;rw[de,if_pos hbn] at h2;have hla:=h.la;refine⟨⟨fx h1,by rw[aE];omega,fun hne=> ?_⟩,h2⟩;rw[aK];exact h.ta (fun e=>hne (by rw[e];rfl))
def bC(l:List Rat):List Rat:=if l= [] then [] else cx (divN l (bJ l (aZ l))).1
def kN(p:List ND):Prop:=p≠ []->Sz QH p/\p.length<=900/\iS p (aI (aZ (aq p)))/\fG p (aI (bJ (aq p) (aZ (aq p))))/\oO (aI (divN (aq p) (bJ (aq p) (aZ (aq p)))).1)
end Go.Cm
end
section
namespace Go.Cm
open Go Go.RowKit
theorem vy{P:Program}(w:World)(dT sT ty elem:TypeId)(g o dLen dCap:Nat)(a:Addr)(sLen sCap:Nat)(cur:Array Value)(t:TypeId)(cs:List Value)(size n:Nat)
  (hu:P.underlying dT=some (.slice elem)) (hs:(P.info? elem).map (·.size)=some size)
  (hg:w.heap[g]? =some (.cells cur t (0,0))) (hn:n=Nat.min sLen dLen) (hl0:cs.length=n*size)
  (hsrc:∀ j v,cs[j]? =some v->w.cell? (a.add j)=some v) (hfit:o+cs.length<=cur.size) (h1:∀ v∈cs,v.oneCell'=true):
  (Builtin.copy_ #[dT,sT] ty #[.slice (some ⟨g,o,none⟩) dLen dCap, .slice (some a) sLen sCap]).run P w=
   .ok (goInt n) (w.setRow g (cur.toList.take o++cs++cur.toList.drop (o+cs.length)).toArray):=by
 have hl:=run_loadCells_list (P:=P) w a cs hsrc;rw[hl0] at hl;have hst:=run_storeCells_at P g o t cs 0 cur w hg (by simpa using hfit) h1;cases hq:P.info? elem with
 |none=>simp[hq] at hs
 |some i=>
  have hi:i.size=size:=by simpa [hq] using hs
  simp[Builtin.copy_,run_underlying hu,Builtin.lenOf,Builtin.firstCells,sizeOf,typeInfo,hq,hi,<- hn,hl,hst]
theorem uB{P:Program}(w:World)(dT sT ty elem:TypeId)(d a:Option Addr)(dLen dCap sLen sCap:Nat)(size:Nat)(hu:P.underlying dT=some (.slice elem))(hs:(P.info? elem).map (·.size)=some size)(hn:Nat.min sLen dLen=0):
  (Builtin.copy_ #[dT,sT] ty #[.slice d dLen dCap, .slice a sLen sCap]).run P w= .ok (goInt 0) w:=by
 cases hq:P.info? elem with
 |none=>simp[hq] at hs
 |some i=>
  have hl:∀ (x:Addr),(loadCells x 0).run P w= .ok #[] w:=fun x=>by simpa using run_loadCells_list (P:=P) w x [] (by simp)
  cases d<;>cases a<;>simp[Builtin.copy_,run_underlying hu,Builtin.lenOf,Builtin.firstCells,sizeOf,typeInfo,hq,hn,storeCells,hl]
theorem wo{P:Program}{w:World}(dT sT ty elem:TypeId)(size:Nat)(hu:P.underlying dT=some (.slice elem))(hsz:(P.info? elem).map (·.size)=some size)
  (dp sp:Option Addr) (dLen dCap sLen sCap n:Nat) (g off:Nat) (cur:List Value) (t:TypeId) (hg:w.heap[g]? =some (.cells cur.toArray t (0,0))) (cs:List Value) (hn:n=Nat.min sLen dLen) (hl:cs.length=n*size)
  (hpos:0<n->dp=some ⟨g,off,none⟩/\∃ ad,sp=some ad/\∀ j v,cs[j]? =some v->w.cell? (ad.add j)=some v)
  (hfit:off+cs.length<=cur.length) (h1:∀ v∈cs,v.oneCell'=true) (B:Nat) (w0:World) (hb:Below B w0 w) (hBg:B<=g):
  ∃ w',(Builtin.copy_ #[dT,sT] ty #[.slice dp dLen dCap, .slice sp sLen sCap]).run P w= .ok (goInt n) w'/\w'.heap[g]? =some (.cells (splice cur off cs).toArray t (0,0))/\Below B w0 w':=by
 by_cases h0:n=0
 ·subst h0;obtain rfl:cs= []:=List.eq_nil_of_length_eq_zero (by simpa using hl);exact⟨w,uB w dT sT ty elem dp sp dLen dCap sLen sCap size hu hsz hn.symm,by simpa [splice] using hg,hb⟩
 ·obtain⟨rfl,ad,rfl,hsrc⟩:=hpos (by omega);refine⟨_,vy w dT sT ty elem g off dLen dCap ad sLen sCap cur.toArray t cs size n hu hsz hg hn hl hsrc (by simpa using hfit) h1,?_,below_setRow hb hBg _⟩;simpa [splice] using setRow_heap w g _ _ t _ hg
theorem yk{P:Program}{w:World}{ops:Array Oper}{rest:List Oper}{o:Oper}{a:Act}{Q:Exit->Act->World->Prop}(hgd:o.guard=none)(d s:Operand)(dT sT:TypeId)
  (ho:o.op= .call {callee:= .builtin .copy,args:= #[d,s],argTypes:= #[dT,sT]}) (elem:TypeId) (size:Nat) (hu:P.underlying dT=some (.slice elem)) (hsz:(P.info? elem).map (·.size)=some size)
  (dp sp:Option Addr) (dLen dCap sLen sCap n:Nat) (hd:a.eval d= .slice dp dLen dCap) (hs:a.eval s= .slice sp sLen sCap)
  (g off:Nat) (cur:List Value) (t:TypeId) (hg:w.heap[g]? =some (.cells cur.toArray t (0,0))) (cs:List Value) (hn:n=Nat.min sLen dLen) (hl:cs.length=n*size)
  (hpos:0<n->dp=some ⟨g,off,none⟩/\∃ ad,sp=some ad/\∀ j v,cs[j]? =some v->w.cell? (ad.add j)=some v)
  (hfit:off+cs.length<=cur.length) (h1:∀ v∈cs,v.oneCell'=true) (B:Nat) (w0:World) (hb:Below B w0 w) (hBg:B<=g)
  (h:∀ w',Hid (w'.heap[g]? =some (.cells (splice cur off cs).toArray t (0,0)))->Below B w0 w'->wpList P ops Q rest (a.put o.dst (goInt n)) w'):
  wpList P ops Q (o::rest) a w:=by
 refine wpList_plain hgd fun K hK=> ?_;obtain⟨w',hrun,hg',hb'⟩:=wo dT sT o.type elem size hu hsz dp sp dLen dCap sLen sCap n g off cur t hg cs hn hl hpos hfit h1 B w0 hb hBg;unfold Oper.wp;simp[execOp,ho,resolve,invoke,builtin,hd,hs,hrun,Result.andThen];exact hK _ _ (h w' hg' hb')
theorem DS{P:Program}{ops:Array Oper}{o:Oper}{a:Act}{w:World}{K:Act->World->Prop}{Q:Exit->Act->World->Prop}{E:Prop}(hgd:o.guard=none)(d s:Operand)(dT sT:TypeId)
  (ho:o.op= .call {callee:= .builtin .copy,args:= #[d,s],argTypes:= #[dT,sT]}) (elem:TypeId) (size:Nat) (hu:P.underlying dT=some (.slice elem)) (hsz:(P.info? elem).map (·.size)=some size)
  (dp sp:Option Addr) (dLen dCap sLen sCap n:Nat) (hd:a.eval d= .slice dp dLen dCap) (hs:a.eval s= .slice sp sLen sCap)
  (g off:Nat) (cur:List Value) (t:TypeId) (hg:w.heap[g]? =some (.cells cur.toArray t (0,0))) (cs:List Value) (hn:n=Nat.min sLen dLen) (hl:cs.length=n*size)
  (hpos:0<n->dp=some ⟨g,off,none⟩/\∃ ad,sp=some ad/\∀ j v,cs[j]? =some v->w.cell? (ad.add j)=some v)
  (hfit:off+cs.length<=cur.length) (h1:∀ v∈cs,v.oneCell'=true) (B:Nat) (w0:World) (hb:RowKit.Below B w0 w) (hBg:B<=g)
  (h:∀ w',RowKit.Hid (w'.heap[g]? =some (.cells (splice cur off cs).toArray t (0,0)))->RowKit.Below B w0 w'->K (a.put o.dst (goInt n)) w'):
  if Region.wanted o (yielded ops a.tmps)=true then Oper.wp P o a w K Q else E:=by
 have hw:Region.wanted o (yielded ops a.tmps)=true:=by simp[Region.wanted,hgd]
 rw[if_pos hw];obtain⟨w',hrun,hg',hb'⟩:=wo dT sT o.type elem size hu hsz dp sp dLen dCap sLen sCap n g off cur t hg cs hn hl hpos hfit h1 B w0 hb hBg;unfold Oper.wp;simp[execOp,ho,resolve,invoke,builtin,hd,hs,hrun,Result.andThen];exact h w' hg' hb'
def cO(n:Nat)(l:List Value):List Value:=(List.replicate n l).flatten
theorem eS(n:Nat)(l:List Value):(cO n l).length=n*l.length:=by simp[cO]
theorem uC(m n:Nat)(l:List Value):cO (m+n) l=cO m l++cO n l:=by simp only[cO,<- List.flatten_append,List.replicate_append_replicate]
theorem AA{n:Nat}{l:List Value}{v:Value}(h:v∈cO n l):v∈l:=by
 obtain⟨x,hx,hv⟩:=List.mem_flatten.1 h;rw[(List.mem_replicate.1 hx).2] at hv;exact hv
theorem pZ{A B:List Value}(hAB:A.length=B.length){n k m:Nat}(hm:m<=n-k):splice (cO k A++cO (n-k) B) (k*A.length) (cO m A)=cO (k+m) A++cO (n-(k+m)) B:=by
 have hl:(cO k A).length=k*A.length:=eS _ _;have e1:(cO k A++cO (n-k) B).take (k*A.length)=cO k A:=by rw[<- hl,List.take_left]
 have e2:(cO k A++cO (n-k) B).drop (k*A.length+(cO m A).length)=cO (n-(k+m)) B:=by
  rw[<- List.drop_drop,<- hl,List.drop_left,eS,show n-k=m+(n-(k+m)) by omega,uC,hAB,<- eS m B,List.drop_left]
 simp only[splice,e1,e2];rw[<- List.append_assoc,<- uC]
end Go.Cm
end
section
namespace Go.Proofs
open Go.Shelf
def Tryz.laysB172_ren:Go.Shelf.Ren:=⟨fun|172=>182|244=>196|245=>188|247=>209|279=>204|280=>205|281=>206|282=>207|287=>187|316=>216|171=>166|205=>217|321=>202|322=>203|243=>184|246=>197|283=>210|284=>211|285=>212|286=>213|129=>219|317=>218|318=>220|319=>221|320=>222|337=>223|338=>224|n=>n,fun|9=>9|3=>3|75=>131|76=>132|4=>4|5=>5|167=>216|37=>47|0=>0|85=>222|2=>2|168=>218|53=>164|175=>191|46=>122|210=>231|127=>167|145=>239|143=>237|21=>21|171=>224|173=>227|212=>234|51=>161|20=>20|213=>235|232=>241|233=>242|80=>135|n=>n,fun|15=>1|16=>2|17=>3|18=>4|19=>5|n=>n⟩
theorem Tryz.laysB172:Go.Proofs.Lays.n172 Tryz.prog Tryz.laysB172_ren:={
 mixed:=by kernel_rfl
 f129:=Tryz.func219.trans (congrArg some (by kernel_rfl))
 f171:=Tryz.func166.trans (congrArg some (by kernel_rfl))
 f172:=Tryz.func182.trans (congrArg some (by kernel_rfl))
 f205:=Tryz.func217.trans (congrArg some (by kernel_rfl))
 f243:=Tryz.func184.trans (congrArg some (by kernel_rfl))
 f244:=Tryz.func196.trans (congrArg some (by kernel_rfl))
 f245:=Tryz.func188.trans (congrArg some (by kernel_rfl))
 f246:=Tryz.func197.trans (congrArg some (by kernel_rfl))
 f247:=Tryz.func209.trans (congrArg some (by kernel_rfl))
 f279:=Tryz.func204.trans (congrArg some (by kernel_rfl))
 f280:=Tryz.func205.trans (congrArg some (by kernel_rfl))
 f281:=Tryz.func206.trans (congrArg some (by kernel_rfl))
 f282:=Tryz.func207.trans (congrArg some (by kernel_rfl))
 f283:=Tryz.func210.trans (congrArg some (by kernel_rfl))
 f284:=Tryz.func211.trans (congrArg some (by kernel_rfl))
 f285:=Tryz.func212.trans (congrArg some (by kernel_rfl))
 f286:=Tryz.func213.trans (congrArg some (by kernel_rfl))
 f287:=Tryz.func187.trans (congrArg some (by kernel_rfl))
 f316:=Tryz.func216.trans (congrArg some (by kernel_rfl))
 f317:=Tryz.func218.trans (congrArg some (by kernel_rfl))
 f318:=Tryz.func220.trans (congrArg some (by kernel_rfl))
 f319:=Tryz.func221.trans (congrArg some (by kernel_rfl))
 f320:=Tryz.func222.trans (congrArg some (by kernel_rfl))
 f321:=Tryz.func202.trans (congrArg some (by kernel_rfl))
 f322:=Tryz.func203.trans (congrArg some (by kernel_rfl))
 f337:=Tryz.func223.trans (congrArg some (by kernel_rfl))
 f338:=Tryz.func224.trans (congrArg some (by kernel_rfl))
 t0:=Tryz.underlying0
 a0:=Tryz.isAgg0
 z0:=Tryz.sizeOf0
 v0:=Tryz.zeroValue0
 t2:=Tryz.underlying2
 a2:=Tryz.isAgg2
 z2:=Tryz.sizeOf2
 v2:=Tryz.zeroValue2
 t3:=Tryz.underlying3
 a3:=Tryz.isAgg3
 z3:=Tryz.sizeOf3
 v3:=Tryz.zeroValue3
 t4:=Tryz.underlying4
 a4:=Tryz.isAgg4
 z4:=Tryz.sizeOf4
 v4:=Tryz.zeroValue4
 t5:=Tryz.underlying5
 a5:=Tryz.isAgg5
 z5:=Tryz.sizeOf5
 v5:=Tryz.zeroValue5
 t9:=Tryz.underlying9
 a9:=Tryz.isAgg9
 z9:=Tryz.sizeOf9
 v9:=Tryz.zeroValue9
 t20:=Tryz.underlying20
 a20:=Tryz.isAgg20
 z20:=Tryz.sizeOf20
 v20:=Tryz.zeroValue20
 t21:=Tryz.underlying21
 a21:=Tryz.isAgg21
 z21:=Tryz.sizeOf21
 v21:=Tryz.zeroValue21
 t37:=Tryz.underlying47
 a37:=Tryz.isAgg47
 z37:=Tryz.sizeOf47
 v37:=Tryz.zeroValue47
 t46:=Tryz.underlying122
 a46:=Tryz.isAgg122
 z46:=Tryz.sizeOf122
 v46:=Tryz.zeroValue122
 t51:=Tryz.underlying161
 a51:=Tryz.isAgg161
 z51:=Tryz.sizeOf161
 v51:=Tryz.zeroValue161
 t53:=Tryz.underlying164
 a53:=Tryz.isAgg164
 z53:=Tryz.sizeOf164
 v53:=Tryz.zeroValue164
 t75:=Tryz.underlying131
 a75:=Tryz.isAgg131
 z75:=Tryz.sizeOf131
 v75:=Tryz.zeroValue131
 t76:=Tryz.underlying132
 a76:=Tryz.isAgg132
 z76:=Tryz.sizeOf132
 v76:=Tryz.zeroValue132
 t85:=Tryz.underlying222
 a85:=Tryz.isAgg222
 z85:=Tryz.sizeOf222
 v85:=Tryz.zeroValue222
 t127:=Tryz.underlying167
 a127:=Tryz.isAgg167
 z127:=Tryz.sizeOf167
 v127:=Tryz.zeroValue167
 t143:=Tryz.underlying237
 a143:=Tryz.isAgg237
 z143:=Tryz.sizeOf237
 v143:=Tryz.zeroValue237
 t145:=Tryz.underlying239
 a145:=Tryz.isAgg239
 z145:=Tryz.sizeOf239
 v145:=Tryz.zeroValue239
 t167:=Tryz.underlying216
 a167:=Tryz.isAgg216
 z167:=Tryz.sizeOf216
 v167:=Tryz.zeroValue216
 t168:=Tryz.underlying218
 a168:=Tryz.isAgg218
 z168:=Tryz.sizeOf218
 v168:=Tryz.zeroValue218
 t171:=Tryz.underlying224
 a171:=Tryz.isAgg224
 z171:=Tryz.sizeOf224
 v171:=Tryz.zeroValue224
 t173:=Tryz.underlying227
 a173:=Tryz.isAgg227
 z173:=Tryz.sizeOf227
 v173:=Tryz.zeroValue227
 t175:=Tryz.underlying191
 a175:=Tryz.isAgg191
 z175:=Tryz.sizeOf191
 v175:=Tryz.zeroValue191
 t210:=Tryz.underlying231
 a210:=Tryz.isAgg231
 z210:=Tryz.sizeOf231
 v210:=Tryz.zeroValue231
 t212:=Tryz.underlying234
 a212:=Tryz.isAgg234
 z212:=Tryz.sizeOf234
 v212:=Tryz.zeroValue234
 t213:=Tryz.underlying235
 a213:=Tryz.isAgg235
 z213:=Tryz.sizeOf235
 t232:=Tryz.underlying241
 a232:=Tryz.isAgg241
 z232:=Tryz.sizeOf241
 v232:=Tryz.zeroValue241
 t233:=Tryz.underlying242
 a233:=Tryz.isAgg242
 z233:=Tryz.sizeOf242
 v233:=Tryz.zeroValue242
 g15:=by kernel_rfl
 g16:=by kernel_rfl
 g17:=by kernel_rfl
 g18:=by kernel_rfl
 g19:=by kernel_rfl}
open Go.RowKit in
theorem Tryz.strconv_Atoi(s:ByteArray)(n:Int)(hl:s.size<=18)(h:Lib.atoi s.data.toList=some n)(w:World):
  Calls Tryz.prog 182 #[.string s] w fun e w'=>e= .returned (.tuple #[.int .i64 n, .nilIface])/\∃ t,w'=Lib.bytesWorld w 5 t:=Any.strconv_Atoi Tryz.laysB172 s n hl h w
def Tryz.laysB145_ren:Go.Shelf.Ren:=⟨fun|145=>131|220=>171|219=>185|217=>198|225=>199|224=>200|267=>201|266=>214|314=>215|n=>n,fun|9=>9|4=>4|59=>154|3=>3|5=>5|46=>122|146=>162|51=>161|n=>n,fun|1=>0|n=>n⟩
theorem Tryz.laysB145:Go.Proofs.Lays.n145 Tryz.prog Tryz.laysB145_ren:={
 mixed:=by kernel_rfl
 f145:=Tryz.func131.trans (congrArg some (by kernel_rfl))
 f217:=Tryz.func198.trans (congrArg some (by kernel_rfl))
 f219:=Tryz.func185.trans (congrArg some (by kernel_rfl))
 f220:=Tryz.func171.trans (congrArg some (by kernel_rfl))
 f224:=Tryz.func200.trans (congrArg some (by kernel_rfl))
 f225:=Tryz.func199.trans (congrArg some (by kernel_rfl))
 f266:=Tryz.func214.trans (congrArg some (by kernel_rfl))
 f267:=Tryz.func201.trans (congrArg some (by kernel_rfl))
 f314:=Tryz.func215.trans (congrArg some (by kernel_rfl))
 t3:=Tryz.underlying3
 a3:=Tryz.isAgg3
 z3:=Tryz.sizeOf3
 v3:=Tryz.zeroValue3
 t4:=Tryz.underlying4
 a4:=Tryz.isAgg4
 z4:=Tryz.sizeOf4
 v4:=Tryz.zeroValue4
 t5:=Tryz.underlying5
 a5:=Tryz.isAgg5
 z5:=Tryz.sizeOf5
 v5:=Tryz.zeroValue5
 t9:=Tryz.underlying9
 a9:=Tryz.isAgg9
 z9:=Tryz.sizeOf9
 v9:=Tryz.zeroValue9
 t46:=Tryz.underlying122
 a46:=Tryz.isAgg122
 z46:=Tryz.sizeOf122
 v46:=Tryz.zeroValue122
 t51:=Tryz.underlying161
 a51:=Tryz.isAgg161
 z51:=Tryz.sizeOf161
 v51:=Tryz.zeroValue161
 t59:=Tryz.underlying154
 a59:=Tryz.isAgg154
 z59:=Tryz.sizeOf154
 v59:=Tryz.zeroValue154
 t146:=Tryz.underlying162
 a146:=Tryz.isAgg162
 z146:=Tryz.sizeOf162
 v146:=Tryz.zeroValue162
 g1:=by kernel_rfl}
open Go.RowKit Go.Lib in
theorem Tryz.strings_Cut(s sep:ByteArray)(m:Int)(w:World)(hs:s.size<4294967281)(hm:w.cell? ⟨0,0,none⟩=some (.int .i64 m)):
  Calls Tryz.prog 131 #[.string s, .string sep] w fun e w'=>e= .returned (.tuple #[.string ⟨(Lib.cut s.data.toList sep.data.toList).1.toArray⟩, .string ⟨(Lib.cut s.data.toList sep.data.toList).2.1.toArray⟩, .bool (Lib.cut s.data.toList sep.data.toList).2.2])/\∃ n,w'=w.drewN n:=Any.strings_Cut Tryz.laysB145 s sep m w hs hm
open Go.RowKit Go.Lib in
open Go.RowKit Go.Lib in
def Tryz.laysB212_ren:Go.Shelf.Ren:=⟨fun|212=>95|263=>137|264=>138|n=>n,fun|46=>122|51=>161|146=>162|53=>164|148=>165|n=>n,fun|n=>n⟩
theorem Tryz.laysB212:Go.Proofs.Lays.n212 Tryz.prog Tryz.laysB212_ren:={
 mixed:=by kernel_rfl
 f212:=Tryz.func95.trans (congrArg some (by kernel_rfl))
 f263:=Tryz.func137.trans (congrArg some (by kernel_rfl))
 f264:=Tryz.func138.trans (congrArg some (by kernel_rfl))
 t46:=Tryz.underlying122
 a46:=Tryz.isAgg122
 z46:=Tryz.sizeOf122
 v46:=Tryz.zeroValue122
 t51:=Tryz.underlying161
 a51:=Tryz.isAgg161
 z51:=Tryz.sizeOf161
 v51:=Tryz.zeroValue161
 t53:=Tryz.underlying164
 a53:=Tryz.isAgg164
 z53:=Tryz.sizeOf164
 v53:=Tryz.zeroValue164
 t146:=Tryz.underlying162
 a146:=Tryz.isAgg162
 z146:=Tryz.sizeOf162
 v146:=Tryz.zeroValue162
 t148:=Tryz.underlying165
 a148:=Tryz.isAgg165
 z148:=Tryz.sizeOf165
 v148:=Tryz.zeroValue165}
open Go.RowKit Go.Lib in
theorem Tryz.bits_Mul(x y:Nat)(hx:x<18446744073709551616)(hy:y<18446744073709551616)(w:World):
  Calls Tryz.prog 95 #[.int .u64 x, .int .u64 y] w fun e w'=>e= .returned (.tuple #[.int .u64 ((x*y/18446744073709551616:Nat):Int), .int .u64 ((x*y%18446744073709551616:Nat):Int)])/\w'=w:=Any.bits_Mul Tryz.laysB212 x y hx hy w
end Go.Proofs
end
section
namespace Go.Proofs
open Go.RowKit Go.Cm Go.Shelf
attribute [local go_sem] Oper.semAt_some
def zc4:List Value:= [.bool false, .slice none 0 0, .bool false, .slice none 0 0]
theorem QE(n:Nat):madeCells (Value.agg zc4.toArray).cells (n*4)=(cO n zc4).toArray:=
 im (t:=NT) (by decide) (by decide) n
theorem u46{n:Nat}(h:n<=1000):IntKind.u64.wrap (n:Int)=(n:Int):=by
 have h1:(n:Int)<=1000:=by omega
 unfold IntKind.wrap;have e:IntKind.u64.signed=false:=rfl;rw[e];simp only[Bool.false_and,Bool.false_eq_true,if_false];exact Int.emod_eq_of_lt (by omega) (Int.lt_of_le_of_lt h1 (by decide))
set_option maxRecDepth 100000 in
set_option maxHeartbeats 1000000 in
theorem Li(xs:List Value)(h4:xs.length=4)(h1:∀ u∈xs,u.oneCell'=true)(n:Nat)(hn:n<=1000)(b o c:Nat)(w:World)(hc:∀ j v,xs[j]? =some v->w.cell? ⟨b,o+j,none⟩=some v):
  Calls Tryz.prog 112 #[.slice (some ⟨b,o,none⟩) 1 c, .int .i64 n] w fun e w'=>e= .returned (.slice (some ⟨w.heap.size,0,none⟩) n n)/\w'.heap[w.heap.size]? =some (.cells (cO n xs).toArray 91 (0,0))/\Below w.heap.size w w':=by
 have t36:=Tryz.underlying79;have a36:=Tryz.isAgg79;have z36:=Tryz.sizeOf79;have v36:=Tryz.zeroValue79;have t3:=Tryz.underlying3;have a3:=Tryz.isAgg3;have z3:=Tryz.sizeOf3;have v3:=Tryz.zeroValue3;have t84:=Tryz.underlying122;have a84:=Tryz.isAgg122;have z84:=Tryz.sizeOf122;have v84:=Tryz.zeroValue122;have hmul:=fun w=>Tryz.bits_Mul 1 n (by omega) (by omega) w;have e1:1*n/18446744073709551616=0:=by omega
 have e2:1*n%18446744073709551616=n:=by omega
 rw[e1,e2] at hmul;have e64:∀ args w,(callFunc 95 args).run Tryz.prog w= .ok (.enter 95 args) w:=enters_of Tryz.func95 (by kernel_rfl) rfl;have w1:IntKind.u64.wrap (n:Int)=(n:Int):=u46 hn;have w2:IntKind.i64.wrap (n:Int)=(n:Int):=wi (by omega) (by omega);have c1: ¬ (n:Int)<0:=by omega
 have c2: ¬ (9223372036854775807:Int)<(n:Int):=by omega
 obtain⟨i0,hi,hz0,hz1,hz2⟩:=info_parts (show (Tryz.prog.info? 91).map (fun i=>(i.zero,i.size,i.bytes))=some (some (.agg zc4.toArray),4,64) by kernel_rfl);have hs3:(Tryz.prog.info? 91).map (·.size)=some 4:=by rw[hi];simp[hz1]
 have hmk:=run_make (P:=Tryz.prog) w 79 91 i0 (.agg zc4.toArray) t36 hi hz0 .i64 .i64 (n:Int) (n:Int) (by omega) (Int.le_refl _) (by rw[hz2];omega) (by omega);have hmc:madeCells (Value.agg zc4.toArray).cells ((n:Int).toNat*i0.size)=(cO n zc4).toArray:=by
  rw[hz1,Int.toNat_natCast];exact QE n
 rw[hmc,Int.toNat_natCast] at hmk;have hg:(w.alloc (.cells (cO n zc4).toArray 91)).heap[w.heap.size]? =some (.cells (cO n zc4).toArray 91 (0,0)):=by rw[World.alloc_heap_new]
 have hb1:Below w.heap.size w (w.alloc (.cells (cO n zc4).toArray 91)):=(Below.refl _ _).alloc (Nat.le_refl _) _;obtain⟨m0,hm0⟩:∃ m0,m0=min 1 n:=⟨_,rfl⟩;have hm01:m0<=1/\m0<=n/\(m0=0->n=0):=by omega
 have hrl:(cO n zc4).length=n*4:=eS n zc4;have hml:(cO m0 xs).length=m0*4:=by rw[eS,h4]
 have hsrc:∀ j u,(cO m0 xs)[j]? =some u->(w.alloc (.cells (cO n zc4).toArray 91)).cell? (Addr.add ⟨b,o,none⟩ j)=some u:=by
  intro j u hj;have hj1:=(List.getElem?_eq_some_iff.1 hj).1;have hm1:m0=1:=by omega
  rw[hm1,show cO 1 xs=xs by simp[cO]] at hj;have hcj:=hc j u hj;obtain⟨o1,ho1,_⟩:=cells_of_cell hcj;rw[Addr.add_mid];exact(World.cell?_alloc_lt (a:=⟨b,o+j,none⟩) _ _ (Array.getElem?_eq_some_iff.1 ho1).1).trans hcj
 go_enter Tryz.func112,Tryz.ntmps112
 go_wp2_with (first|(go_at_fn 95;refine(hmul _).mono ?_;rintro e w' ⟨rfl,hw'⟩;rw[hw'])|refine yk rfl (.tmp 31) (.tmp 32) 79 79 rfl 91 4 t36 hs3 (some ⟨w.heap.size,0,none⟩) (some ⟨b,o,none⟩) n n 1 c m0 rfl rfl w.heap.size 0 (cO n zc4) 91 hg (cO m0 xs) (by exact hm0) hml (fun _=>⟨rfl,_,rfl,hsrc⟩) (by rw[hml,hrl];omega) (fun u hu=>h1 u (AA hu)) w.heap.size w hb1 (Nat.le_refl _) ?_;intro w4 hg4 hb4)
 go_loopw [8] (fun s wr=>∃ k:Nat,s= .int .i64 k/\(k=0->n=0)/\k<=n/\wr.heap[w.heap.size]? =some (.cells (cO k xs++cO (n-k) zc4).toArray 91 (0,0))/\Below w.heap.size w wr)
  (fun s _=>n-(intOf s).toNat)
 case atStart=>exact⟨m0,by first|rfl|rw[hm0],hm01.2.2,hm01.2.1,by
  have e:splice (cO 0 xs++cO (n-0) zc4) (0*xs.length) (cO m0 xs)=_:=pZ (by rw[h4];rfl) (by omega);simp only[show cO 0 xs= [] by simp[cO],List.nil_append,Nat.sub_zero,Nat.zero_mul,Nat.zero_add] at e;rw[<- e];exact hg4.out,hb4⟩
 case round=>
  obtain⟨k,rfl,hk1,hkn,hgk,hbk⟩:=hrel;by_cases hlt:k<n
  ·(have d1:(k:Int)<(n:Int):=by omega);obtain⟨m,hm⟩:∃ m,m=Nat.min k (n-k):=⟨_,rfl⟩;(have hm2:m<=k/\m<=n-k/\(m=k∨m=n-k):=by rw[hm];show min k (n-k)<=k/\min k (n-k)<=n-k/\(min k (n-k)=k∨min k (n-k)=n-k);omega);(have hkl:(cO k xs).length=k*4:=by rw[eS,h4]);have hzl:(cO (n-k) zc4).length=(n-k)*4:=eS _ _;(have hmm:(cO m xs).length=m*4:=by rw[eS,h4]);have hcp:∀ j u,(cO m xs)[j]? =some u->wr.cell? (Addr.add ⟨w.heap.size,0,none⟩ j)=some u:=by
    intro j u hj;have hj1:=(List.getElem?_eq_some_iff.1 hj).1;have hpre:(cO k xs)[j]? =some u:=by
     rw[show k=m+(k-m) by omega,uC,List.getElem?_append_left hj1];exact hj
    rw[Addr.add_mid,Nat.zero_add];(have hjk:j<(cO k xs).length:=by omega);simp only[World.cell?,hgk];simp[List.getElem?_append_left hjk,hpre]
   (have hfit:k*4+(cO m xs).length<=(cO k xs++cO (n-k) zc4).length:=by rw[List.length_append,hkl,hzl,hmm];omega);have hnk: ¬n=k:=by omega
   go_wp2
   go_region_law (refine DS rfl (.tmp 41) (.tmp 44) 79 79 rfl 91 4 t36 hs3 (some ⟨w.heap.size,k*4,none⟩) (some ⟨w.heap.size,0,none⟩) (n-k) (n-k) k n m (by simp[Act.eval,Act.put]) (by simp[Act.eval,Act.put]) w.heap.size (k*4) _ 91 hgk (cO m xs) hm hmm (fun _=>⟨rfl,_,rfl,hcp⟩) hfit (fun u hu=>h1 u (AA hu)) w.heap.size w (show Below w.heap.size w wr.drew from⟨hbk.os,hbk.tape,hbk.output,hbk.size,hbk.block⟩) (Nat.le_refl _) ?_;intro w5 hg5 hb5)
   (have hw3:IntKind.i64.wrap ((k:Int)+((k.min (n-k):Nat):Int))=((k+m:Nat):Int):=by rw[<- hm,wi (by omega) (by omega)];omega);rw[hw3];simp only[Act.put,List.setIfInBounds_toArray,List.set_cons_succ,List.set_cons_zero,List.getElem_toArray,List.getElem_cons_succ,List.getElem_cons_zero]
   go_roundw
   case rel=>
    refine⟨_,_,_,_,_,_,_,_,_,_,_,_,_,_,⟨k+m,rfl,by omega,by omega,?_,hb5⟩,rfl⟩;have e:splice (cO k xs++cO (n-k) zc4) (k*xs.length) (cO m xs)=_:=pZ (by rw[h4];rfl) hm2.2.1;rw[h4] at e;rw[<- e];exact hg5.out
   case measure=>simp[intOf];omega
  ·(have hkk:k=n:=by omega);subst hkk;have d1: ¬ (k:Int)<(k:Int):=by omega
   go_wp2
   go_ret
   exact⟨rfl,by simpa [cO] using hgk,hbk⟩
theorem yl{w w':World}{O:Nat->Prop}{ρ0:Nat->Value}{fr:List Nat}{t:Ty}{T:TypeId}{xs:List t.D}{v:Value}{cells:List Value}(hO:∀ b,O b->b<w.heap.size)(hb:Below w.heap.size w w')(hs:∃ a n c,v= .slice a n c)(hr:∀ H:Nat->Prop,(∀ b,b<w.heap.size->H b->O b)->cK (fun c x=>t.rep H w' c x) cells xs)(hrow:Cm.rowAt (fun b=>w.heap.size<=b) w' T t.w v xs.length cells):
  ∃ (vs':List Value) (ρ1:Nat->Value),Ending.returned v= .returned (xQ vs')/\([]:List aP).length=([]:List aP).length/\Bel (fun b=>w.heap.size<=b∨bz ρ0 [] b) w w'/\
   (∀ k,¬ (ioB<=k/\k<ioB+([]:List aP).length/\fr.contains (k-ioB)=true)->ρ1 k=ρ0 k)/\
   bF (kQ (cQ (hot O ρ1 (an ioB [])) [RV.own t T xs] vs') w' (fun b=>w.heap.size<=b∨bz ρ0 [] b)) [RV.own t T xs] vs'/\fu [RV.own t T xs] vs'/\
   (∀ p∈an ioB ([]:List aP),cl (cQ (hot O ρ1 (an ioB [])) [RV.own t T xs] vs') w' ρ1 (fun b=>w.heap.size<=b∨bz ρ0 [] b) p)/\
   ns ρ1 (an ioB [])/\∀ b,bz ρ1 [] b-> ¬cQ (fun _=>False) [RV.own t T xs] vs' b:=by
 have hnew:∀ b,Blk v b->w.heap.size<=b:=by
  intro b hbl;obtain⟨_,⟨rfl,_⟩|⟨g,cap,cur,rfl,hg,_⟩⟩:=hrow;·simp[Blk] at hbl
  ·simp[Blk] at hbl;exact hbl▸hg
 refine⟨[v],ρ0,rfl,rfl,⟨hb.os,hb.tape,hb.output,hb.size,fun k hk _=>hb.block k hk⟩,fun _ _=>rfl,⟨⟨hs,cells,hr _ ?_,?_⟩,trivial⟩,⟨fun _ b _ h=>h,trivial⟩,fun p hp=>by simp[an] at hp,List.Pairwise.nil,fun b hb=>by simp[bz,an] at hb⟩
 ·rintro b hlt (⟨_,h⟩|(h|⟨p,hp,_⟩));·have:=hnew b h;omega
  ·exact h
  ·simp[an] at hp
 ·obtain⟨h1,h2⟩:=hrow;refine⟨h1,h2.imp_right ?_⟩;rintro⟨g,cap,cur,e1,e2,e3⟩;exact⟨g,cap,cur,e1, .inl e2,e3⟩
def fH:Con:=fun l os=>match l,os with
 | [.z (.slice (.st (.pair (.st (.pair .bool (.slice (.int .u32)))) (.st (.pair .bool (.slice (.int .u32))))))) [x], .z (.int .i64) n], []=>some (0<=n/\n<=1000, [.own (.st (.pair (.st (.pair .bool (.slice (.int .u32)))) (.st (.pair .bool (.slice (.int .u32)))))) 91 (List.replicate n.toNat x)], [])
 |_,_=>none
theorem NX{n:Int}(h:0<=n/\n<=1000):∃ m:Nat,n=m/\m<=1000:=⟨n.toNat,by omega,by omega⟩
theorem wq{B:ah}(hB:aC B):Valid B Tryz.prog 112 fH:=by
 intro args os C rs os' hc hC O w vals ρ0 hOn hIo hO hOI hargs hown hap;unfold fH at hc;split at hc;case h_2=>cases hc
 rename_i x n;cases hc;obtain⟨u,z,rfl,hu,hz⟩:=zL hargs;rw[bH hz];obtain⟨m,rfl,h2⟩:=NX hC;obtain⟨cells,hr,h⟩:=iC hu;have hl:=bM (fun c x h=>NT.rep_length h) hr;rcases h with⟨_,h0,_⟩|⟨ad,c,rfl,hc⟩;·simp at h0
 have h4:cells.length=4:=hl;obtain⟨c0,d0,rfl,hr0,hd0⟩:=hr;obtain rfl:d0= []:=hd0;rw[List.append_nil] at h4 hc;obtain⟨b,o,sp⟩:=ad;have hcell:w.cell? ⟨b,o,sp⟩=some (c0[0]'(by omega)):=by
  have:=hc 0 (c0[0]'(by omega)) (by simp);simpa [Addr.add] using this
 obtain rfl:sp=none:=by
  cases sp with
  |none=>rfl
  |some _=>simp only[World.cell?] at hcell;split at hcell<;>simp at hcell
 refine(Li c0 h4 (Ty.rep_oneCell NT hr0) m h2 b o c w (fun j v hj=>by have:=hc j v hj;rwa [Addr.add_mid] at this)).mono fun e w' ⟨he,hw,hb⟩=> ?_;subst he;rw[Int.toNat_natCast];refine yl hO hb ⟨_,_,_,rfl⟩ (cells:=cO m c0) (fun H hH=>eH ?_ m) ?_;·exact Ty.rep_move (t:=NT) (fun b hlt hb=> .inl (hH b hlt hb)) (fun b _ hlt=>hb.block b (c8 hlt)) hr0
 ·rw[List.length_replicate];refine⟨by rw[eS,h4];rfl, .inr ⟨_,m,_,rfl,Nat.le_refl _,hw,Nat.le_refl _,by unfold maxLen;omega,?_,?_⟩⟩;·simp[eS,h4];exact Nat.le_refl _
  ·rw[List.toList_toArray];exact List.take_of_length_le (by rw[eS,h4];exact Nat.le_refl _)
attribute [local go_sem] Oper.semAt_some
def zN:ND:=((false, []),(false, []))
def jV(xs:List ND)(k:Nat):List LV:= [.z (.int .i64) ((xs.length:Int)-1-k), .z NT (xs.getD (xs.length-1-k) zN)]
def b8(xs:List ND):List (List LV):=(List.range xs.length).map (jV xs)
set_option maxRecDepth 100000 in
set_option maxHeartbeats 2000000 in
theorem Lj(F:Fence)(h7:F.fn 125)(hro:F.round=none)(l Bs oB b off len cap:Nat)(cs:Nat->List Value)(h4:∀ j,j<len->(cs j).length=4)(hbig:len<=maxLen)(J:Nat->World->Prop)(Jx:World->Prop)(Kp:World->World->Prop)
  (W:World) (hBs:W.cell? ⟨Bs,oB,none⟩=some (.slice (some ⟨b,off,none⟩) len cap)) (hc:∀ j,j<len->∀ i,i<4->W.cell? ⟨b,off+j*4+i,none⟩=(cs j)[i]?)
  (hKp:∀ A B,Kp A B->(∃ o:Obj,A.heap[Bs]? =some o/\o.isCells=true)->((0<len)->∃ o:Obj,A.heap[b]? =some o/\o.isCells=true)->B.heap[Bs]? =A.heap[Bs]? /\(0<len->B.heap[b]? =A.heap[b]?))
  (hY:∀ k W1,J k W1->k<len->YieldAt F 0 Tryz.prog l #[.int .i64 ((len:Int)-1-k), .agg (cs (len-1-k)).toArray] W1 fun e W'=>(e= .returned (.bool true)/\J (k+1) W'/\Kp W1 W')∨(e= .returned (.bool false)/\Jx W'))
  (h0:J 0 W):
  CallsIn F 1 Tryz.prog 125 #[.func (.yield l) #[] #[], .pointer (some ⟨Bs,oB,none⟩)] W fun e W'=>(∃ v,e= .returned v)/\(J len W'∨Jx W'):=by
 unfold maxLen at hbig;refine callsIn_of_wp Tryz.func125 rfl h7 ?_ hro;simp only[Tryz.ntmps125,List.size_toArray,List.length_cons,List.length_nil,Nat.reduceAdd,Nat.reduceSub,Array.replicate_succ,Array.replicate_zero,List.push_toArray,List.append_toArray,List.nil_append,List.cons_append]
 gi_wp2
 gi_loopw [3] (fun i wr=>∃ k:Nat,k<=len/\i= .int .i64 ((len:Int)-1-k)/\J k wr/\wr.heap[Bs]? =W.heap[Bs]? /\(0<len->wr.heap[b]? =W.heap[b]?))
  (fun i _=>(intOf i+1).toNat)
 case atStart=>exact⟨0,Nat.zero_le _,by simp,h0,rfl,fun _=>rfl⟩
 case round=>
  obtain⟨k,hk,rfl,hJs,hn1,hn2⟩:=hrel;have hB1:wr.cell? ⟨Bs,oB,none⟩=some (.slice (some ⟨b,off,none⟩) len cap):=(World.cell?_of_block (a:=⟨Bs,oB,none⟩) hn1).trans hBs;by_cases hlt:k<len
  ·(have hge:0<=(len:Int)-1-k:=by omega);(have htn:((len:Int)-1-k).toNat=len-1-k:=by omega);(have hup:(len:Int)-1-k<len:=by omega);have hci:∀ i,i<4->wr.cell? ⟨b,off+(len-1-k)*4+i,none⟩=(cs (len-1-k))[i]? :=fun i hi=>(World.cell?_of_block (a:=⟨b,off+(len-1-k)*4+i,none⟩) (hn2 (by omega))).trans (hc _ (by omega) i hi);have hlk:=h4 (len-1-k) (by omega);obtain⟨x0,x1,x2,x3,hx⟩:∃ x0 x1 x2 x3,cs (len-1-k)= [x0,x1,x2,x3]:=by
    match h:cs (len-1-k),hlk with
    | [x0,x1,x2,x3],_=>exact⟨_,_,_,_,rfl⟩
   have hc0:wr.cell? ⟨b,off+(len-1-k)*4+0,none⟩=some x0:=(hci 0 (by omega)).trans (by rw[hx];rfl);have hcx:=hc0;have hload:=dz (P:=Tryz.prog) (Go.Proofs.YtdojbabpnaifoaaGreatDoor.ty91) (w:=wr) (b:=b) (o:=off+(len-1-k)*4) (cells:=cs (len-1-k)) (by rw[hlk];rfl) (fun j hj=>hci j (by omega));have hcB:∃ o:Obj,wr.heap[Bs]? =some o/\o.isCells=true:=cells_of_cell hB1;have hcb:∃ o:Obj,wr.heap[b]? =some o/\o.isCells=true:=cells_of_cell hcx;have hYk:=hY k wr hJs hlt;rw[hx] at hYk hload;obtain⟨fn,tmps,assign,body,hy,hR⟩:=hYk
   gi_wp2
   refine hR.mono ?_;rintro e W3 (⟨rfl,hJ3,hk3⟩|⟨rfl,hJx3⟩)
   ·obtain⟨e1,e2⟩:=hKp _ _ hk3 hcB (fun _=>hcb)
    gi_wp2
    go_roundw
    (case rel=>exact⟨k+1,by omega,by congr 1;omega,hJ3,e1.trans hn1,fun h=>(e2 h).trans (hn2 h)⟩);case measure=>simp[intOf];omega
   ·gi_wp2
    refine bodyPost_ret (results_none rfl _ _ _) rfl ?_;exact⟨⟨_,rfl⟩, .inr hJx3⟩
  ·(have hk2:k=len:=by omega);(have hng: ¬0<=(len:Int)-1-k:=by omega);rw[hk2] at hJs;clear hk2
   gi_wp2
   go_end0
   exact⟨⟨_,rfl⟩, .inl hJs⟩
set_option maxRecDepth 100000 in
set_option maxHeartbeats 2000000 in
theorem wt(F:Fence)(h7:F.fn 125)(hro:F.round=none)(l Bs oB:Nat)(J:World->Prop)(W:World)(a:Option Addr)(cap:Nat)(hBs:W.cell? ⟨Bs,oB,none⟩=some (.slice a 0 cap))(h0:J W):
  CallsIn F 1 Tryz.prog 125 #[.func (.yield l) #[] #[], .pointer (some ⟨Bs,oB,none⟩)] W fun e W'=>(∃ v,e= .returned v)/\J W':=by
 refine callsIn_of_wp Tryz.func125 rfl h7 ?_ hro;simp only[Tryz.ntmps125,List.size_toArray,List.length_cons,List.length_nil,Nat.reduceAdd,Nat.reduceSub,Array.replicate_succ,Array.replicate_zero,List.push_toArray,List.append_toArray,List.nil_append,List.cons_append]
 gi_wp2
 gi_loopw [3] (fun i wr=>i= .int .i64 (-1)/\wr=W) (fun i _=>(intOf i+1).toNat)
 case atStart=>exact⟨rfl,rfl⟩
 case round=>
  obtain⟨rfl,rfl⟩:=hrel
  gi_wp2
  go_end0
  exact⟨⟨_,rfl⟩,h0⟩
theorem lD{H:Nat->Prop}{w:World}{b o:Nat}{c:Value}(h:dD H w b o [c]):w.cell? ⟨b,o,none⟩=some c/\b<w.heap.size/\ ¬H b:=
 ⟨by have:=h.2 0 (by simp);simpa using this,h.lt (by simp),h.1 (by simp)⟩
theorem wu(xs:List ND):nz Tryz.prog 125 2 [.z (.ptr (.slice NT)) xs] (b8 xs):=by
 refine⟨enters_of Tryz.func125 (by kernel_rfl) rfl,?_,?_⟩;·intro it hit;obtain⟨k,_,rfl⟩:=List.mem_map.1 hit;exact⟨rfl,rfl⟩
 ·intro H w lb hH hcap;obtain⟨v,rfl⟩:∃ v,lb= [v]:=by
   match lb,hcap with
   | [v],_=>exact⟨v,rfl⟩
   |_::_::_,h=>exact h.2.elim
  obtain⟨hag,bB,oB,cells,hv,hsl,hlies⟩:=hcap.1;have hv2:v= .pointer (some ⟨bB,oB,none⟩):=by
   have hone:=cz (v:=v) (by cases v<;>first|rfl|(simp[Ty.isAgg] at hag));rw[hone] at hv;simpa using hv
  subst hv2;have hlen:(b8 xs).length=xs.length:=by simp[b8]
  rcases hsl with⟨rfl,rfl⟩|⟨b,o,p,cap,cs,rfl,hp,h1,h2,h3,h4⟩;·refine⟨fun k=> #[],fun k hk=>by simp[b8] at hk,?_⟩;intro l J Jx W hb _ _ _ _ hY h0;obtain⟨c1,c2,c3⟩:=lD hlies;exact(wt (fw none) trivial rfl l bB oB (J 0) W none 0 ((hb.cell (p:=⟨bB,oB,none⟩) c2).trans c1) h0).mono (fun e W' h=>⟨h.1, .inl h.2⟩)
  ·have hcl:cs.length=xs.length*4:=bM (fun c x h=>NT.rep_length h) h3;have hone:∀ j,j<xs.length->((cs.drop (j*4)).take 4).length=4:=by
    intro j hj;rw[List.length_take,List.length_drop,hcl];omega
   refine⟨fun k=> #[.int .i64 ((xs.length:Int)-1-k), .agg ((cs.drop ((xs.length-1-k)*4)).take 4).toArray],fun k hk=> ?_,?_⟩
   ·rw[hlen] at hk;have hg:=fN (fun c x h=>NT.rep_length h) h3 (xs.length-1-k) (by omega);simp only[b8,List.getElem_map,List.getElem_range];refine⟨bZ (ρ:=fun _=>undef),?_,trivial⟩;have hx:xs.getD (xs.length-1-k) zN=xs[xs.length-1-k]'(by omega):=by
     rw[List.getD_eq_getElem?_getD,List.getElem?_eq_getElem (by omega)];rfl
    rw[hx];exact gK (t:=NT) hg (fun h=>by cases h) (fun h=>by cases h)
   ·(intro l J Jx W hb _ _ _ _ hY h0;rw[hlen] at hY ⊢;obtain⟨c1,c2,c3⟩:=lD hlies;by_cases hnil:xs= [];·subst hnil;exact(wt (fw none) trivial rfl l bB oB (J 0) W (some ⟨b,o,p⟩) cap ((hb.cell (p:=⟨bB,oB,none⟩) c2).trans c1) h0).mono (fun e W' h=>⟨h.1, .inl h.2⟩));obtain rfl:=hp hnil;(have hne:0<xs.length->cs≠ []:=fun h e=>by rw[e] at hcl;simp at hcl;omega);refine Lj (fw none) trivial rfl l bB oB b o xs.length cap (fun j=>(cs.drop (j*4)).take 4) hone (Nat.le_trans h1 h2) J Jx (zK H w.heap.size) W ((hb.cell (p:=⟨bB,oB,none⟩) c2).trans c1) (fun j hj i hi=> ?_) (fun A B hk hA1 hA2=>⟨hk bB c2 c3 hA1,fun h=>hk b (h4.lt (hne h)) (h4.1 (hne h)) (hA2 h)⟩) hY h0;(have hj':j*4+i<cs.length:=by rw[hcl];omega);rw[Nat.add_assoc,hb.cell (p:=⟨b,o+(j*4+i),none⟩) (h4.lt (hne (by omega))),h4.2 (j*4+i) hj'];rw[List.getElem?_take,if_pos hi,List.getElem?_drop]
end Go.Proofs
end
section
namespace Go.Cm
open Go.Proofs
theorem AB{p:List ND}{k i:Nat}(h:Sz k p)(hi:i<p.length):p.getD i zN=bk (cf (aq p) i):=by
 rw[<- gk h hi,gh (t:=NT) hi,List.getD_eq_getElem?_getD,List.getElem?_eq_getElem hi];rfl
theorem AC{p:List ND}{k:Nat}(hk:k<p.length):p.length-1-k<p.length:=by omega
theorem DT(p:List ND)(x:Rat):0=ak (List.drop (p.length-0) (aq p)) x:=by
 rw[Nat.sub_zero,List.drop_of_length_le (by rw[aM];exact Nat.le_refl _)];rfl
theorem DU{p:List ND}{x:Rat}{k:Nat}(hk:k<p.length):ak (List.drop (p.length-(k+1)) (aq p)) x=ak (List.drop (p.length-k) (aq p)) x*x+cf (aq p) (p.length-1-k):=by
 rw[List.drop_eq_getElem_cons (by rw[aM];omega),show p.length-(k+1)+1=p.length-k by omega];have e:(aq p)[p.length-(k+1)]'(by rw[aM];omega)=cf (aq p) (p.length-1-k):=by
  unfold cf;rw[List.getD_eq_getElem?_getD,show p.length-1-k=p.length-(k+1) by omega,List.getElem?_eq_getElem (by rw[aM];omega)];rfl
 rw[e];rfl
theorem H7{p:List ND}{x:ND}{k:Nat}(hC:Sz QM p/\p.length<=100/\NOK x/\lq (bG x)<=QM)(hk:k<p.length){v:Rat}(hz:v=ak (List.drop (p.length-k) (aq p)) (bG x)):gI (bk v) x/\gI (bk (v*bG x)) (bk (cf (aq p) (p.length-1-k))):=by
 obtain⟨h1,h2,h3,h4⟩:=hC;have e:QM=400000000:=rfl;have e2:QC=100000000000:=rfl;have hl:=yg (l:=List.drop (p.length-k) (aq p)) (x:=bG x) (K:=QM) (fun c hc=>by
  have hc':=List.mem_of_mem_drop hc;obtain⟨y,hy,rfl⟩:=List.mem_map.1 hc';exact(h1 y hy).2) h4
 rw[<- hz,List.length_drop,aM] at hl;have hm:=nc v (bG x);have hc:=h1.cf (by omega) (p.length-1-k);have h5:(p.length-(p.length-k))*(2*QM+1)<=100*(2*QM+1):=Nat.mul_le_mul_right _ (by omega);exact⟨⟨b4 _,h3,by rw[aL];omega⟩,b4 _,b4 _,by rw[aL,aL];omega⟩
theorem Lk(p:List ND)(x:Rat):ak (List.drop (p.length-(b8 p).length) (aq p)) x=ak (aq p) x:=by
 rw[show (b8 p).length=p.length by simp[b8],Nat.sub_self,List.drop_zero]
def uD(s b:List Rat)(c:Rat):List Rat:=bl (· + ·) (bh s b) (aS [c])
def ie(p b:List Rat):Nat->List Rat
 |0=> []
 |k+1=>uD (ie p b k) b (cf p (p.length-1-k))
def kO(p b:List Rat):List Rat:=ie p b p.length
def DV(s b:List ND)(c:ND):Prop:=Sz QM s/\Sz QM b/\s.length<=100/\b.length<=100/\NOK c/\lq (bG c)<=QM/\Sz QH (aI (bh (aq s) (aq b)))
def ym(p b:List ND):Prop:=Sz QM p/\p.length<=100/\∀ k,k<p.length->DV (aI (ie (aq p) (aq b) k)) b (bk (cf (aq p) (p.length-1-k)))
theorem uE(p q:List Rat):(bh p q).length<=p.length+q.length:=by
 unfold bh;split;·simp
 ·rw[dM];omega
theorem H8{s b:List ND}{c:ND}(h:DV s b c):(Sz QM s/\Sz QM b/\s.length<=100/\b.length<=100)/\(Sz QC [c]/\ [c].length<=QL)/\Sz QH (aI (bh (aq s) (aq b)))/\Sz QH (aI (aS (aq [c])))/\(aI (bh (aq s) (aq b))).length<=1000/\(aI (aS (aq [c]))).length<=1000:=by
 obtain⟨h1,h2,h3,h4,h5,h6,h7⟩:=h;have e:QM=400000000:=rfl;have e2:QC=100000000000:=rfl;have e3:QH=40000000000:=rfl;refine⟨⟨h1,h2,h3,h4⟩,⟨fun x hx=> ?_,by simp[QL]⟩,h7,fx fun x hx=> ?_,?_,?_⟩;·simp only[List.mem_singleton] at hx;subst hx;exact⟨h5,by omega⟩
 ·have:x=bG c:=by
   (simp only[aq,List.map_cons,List.map_nil,aS] at hx;split at hx;·simp at hx);·simpa using hx
  rw[this];omega
 ·rw[aE];have:=uE (aq s) (aq b);rw[aM,aM] at this;omega
 ·rw[aE];have:=eu (aq [c]);rw[aM] at this;simp only[List.length_cons,List.length_nil] at this;omega
theorem AD(x:Rat)(i k:Nat):x^(i+k)=x^i*x^k:=by
 induction k with
 |zero=>rw[Nat.add_zero,Rat.pow_zero,Rat.mul_one]
 |succ k ih=>rw[<- Nat.add_assoc,Rat.pow_succ,Rat.pow_succ,ih,Rat.mul_assoc]
theorem cb(x:Rat):ak [] x=0:=rfl
theorem cg(c:Rat)(l:List Rat)(x:Rat):ak (c::l) x=ak l x*x+c:=rfl
theorem db(c x:Rat):ak [c] x=c:=by rw[cg,cb];grind
theorem oP(l m:List Rat)(x:Rat):ak (l++m) x=ak l x+x^l.length*ak m x:=by
 induction l with
 |nil=>simp only[List.nil_append,cb,List.length_nil];grind
 |cons c l ih=>simp only[List.cons_append,cg,ih,List.length_cons];grind
theorem DW(n:Nat)(x:Rat):ak (List.replicate n 0) x=0:=by
 induction n with
 |zero=>rfl
 |succ n ih=>rw[List.replicate_succ,cg,ih];grind
theorem eE(l:List Rat)(x:Rat):ak (aS l) x=ak l x:=by
 induction l with
 |nil=>rfl
 |cons c l ih=>
  rw[cg,<- ih];simp only[aS];split
  ·(rename_i h;rw[h];split;·rename_i h0;rw[h0,cb];grind);·rw[db,cb];grind
  ·rename_i y m h;rw[h,cg]
theorem Ll(l:List Rat)(j:Nat)(y x:Rat)(h:j<l.length):ak (l.set j y) x=ak l x+(y-cf l j)*x^j:=by
 induction l generalizing j with
 |nil=>simp at h
 |cons c l ih=>
  cases j with
  |zero=>simp only[List.set_cons_zero,cg,cf,List.getD_cons_zero];grind
  |succ j=>
   simp only[List.set_cons_succ,cg];rw[ih j (by simpa using h)];(have:cf (c::l) (j+1)=cf l j:=by simp[cf]);rw[this];grind
theorem qw(l:List Rat)(k:Nat)(x:Rat)(h:k<l.length):ak (l.take (k+1)) x=ak (l.take k) x+cf l k*x^k:=by
 rw[List.take_succ_eq_append_getElem h,oP,db,List.length_take,Nat.min_eq_left (by omega)];unfold cf;rw[List.getD_eq_getElem?_getD,List.getElem?_eq_getElem h];simp only[Option.getD_some];grind
theorem Lm(out:List Rat)(i:Nat)(a:Rat)(q:List Rat)(x:Rat):∀ k,k<=q.length->i+k<=out.length->ak (cF out i a q k) x=ak out x+a*x^i*ak (q.take k) x
 |0,_,_=>by simp only[cF,List.take_zero,cb];grind
 |k+1,hk,h=>by
  rw[cF,Ll _ _ _ _ (by rw[iQ];omega),Lm out i a q x k (by omega) (by omega),qw q k x (by omega)];have:x^(i+k)=x^i*x^k:=AD _ _ _;rw[this];grind
theorem uF(out:List Rat)(i:Nat)(a:Rat)(q:List Rat)(x:Rat)(h:i+q.length<=out.length):ak (cF out i a q q.length) x=ak out x+a*x^i*ak q x:=by
 rw[Lm _ _ _ _ _ _ (Nat.le_refl _) h,List.take_length]
theorem Fs(p q:List Rat)(x:Rat)(hq:0<q.length):∀ i,i<=p.length->ak (mulN p q i) x=ak (p.take i) x*ak q x
 |0,_=>by rw[mulN,DW,List.take_zero,cb];grind
 |i+1,h=>by
  rw[mulN,uF _ _ _ _ _ (by rw[dM];omega),Fs p q x hq i (by omega),qw p i x (by omega)];grind
theorem aR(p q:List Rat)(x:Rat):ak (bh p q) x=ak p x*ak q x:=by
 unfold bh;split;·rename_i h;rcases h with h|h<;>(subst h;simp only[cb];grind)
 ·rename_i h;have hq:0<q.length:=List.length_pos_iff.2 fun e=>h (.inr e);rw[Fs p q x hq _ (Nat.le_refl _),List.take_length]
theorem kr(f:Nat->Rat)(x:Rat):∀ n,ak ((List.range (n+1)).map f) x=ak ((List.range n).map f) x+f n*x^n:=by
 intro n;rw[List.range_succ,List.map_append,oP];simp only[List.map_cons,List.map_nil,db,List.length_map,List.length_range];grind
theorem bE{l:List Rat}{i:Nat}(h:l.length<=i):cf l i=0:=by
 unfold cf;rw[List.getD_eq_getElem?_getD,List.getElem?_eq_none h];rfl
theorem lE(l:List Rat)(x:Rat):∀ n,l.length<=n->ak ((List.range n).map (cf l)) x=ak l x:=by
 have h0:∀ n,n<=l.length->ak ((List.range n).map (cf l)) x=ak (l.take n) x:=by
  intro n;induction n with
  |zero=>intro _;rfl
  |succ n ih=>intro h;rw[kr,ih (by omega),qw l n x (by omega)]
 intro n;induction n with
 |zero=>intro h;rw[h0 0 (by omega),show l= [] from List.eq_nil_of_length_eq_zero (by omega)];rfl
 |succ n ih=>
  intro h;by_cases h2:l.length<=n;·rw[kr,ih h2,bE h2];grind
  ·rw[h0 _ (by omega),List.take_of_length_le (by omega)]
theorem wv(l m:List Rat)(x:Rat):∀ n,ak (bT (· + ·) l m n) x=ak ((List.range n).map (cf l)) x+ak ((List.range n).map (cf m)) x
 |0=>by simp only[bT,List.range_zero,List.map_nil,cb];grind
 |n+1=>by
  have:=wv l m x n;unfold bT at this ⊢;rw[kr,kr,kr,this];grind
theorem wx(l m:List Rat)(x:Rat):∀ n,ak (bT (· - ·) l m n) x=ak ((List.range n).map (cf l)) x-ak ((List.range n).map (cf m)) x
 |0=>by simp only[bT,List.range_zero,List.map_nil,cb];grind
 |n+1=>by
  have:=wx l m x n;unfold bT at this ⊢;rw[kr,kr,kr,this];grind
theorem ew(l m:List Rat)(x:Rat):ak (bl (· + ·) l m) x=ak l x+ak m x:=by
 rw[bl,eE,wv,lE _ _ _ (by omega),lE _ _ _ (by omega)]
theorem fz(l m:List Rat)(x:Rat):ak (bl (· - ·) l m) x=ak l x-ak m x:=by
 rw[bl,eE,wx,lE _ _ _ (by omega),lE _ _ _ (by omega)]
theorem gT(l:List Rat)(x:Rat):ak (cx l) x=ak l x/aH l:=by
 have:∀ (c:Rat) (l:List Rat),ak (l.map fun a=>a/c) x=ak l x/c:=by
  intro c l;induction l with
  |nil=>simp only[List.map_nil,cb];grind
  |cons a l ih=>simp only[List.map_cons,cg,ih];grind
 exact this _ _
theorem Ln:∀ {l:List Rat},l≠ []->aH l≠0->∃ d X:Rat,0<d/\1<=X/\∀ x,X<=x->d<=(ak l x).abs
 | [],h,_=>absurd rfl h
 | [c],_,h=>by
  refine⟨c.abs,1,?_,by grind,fun x _=>by rw[db];grind⟩;have:aH [c]=c:=rfl;rw[this] at h;unfold Rat.abs;split<;>grind
 |c::a::l,_,h=>by
  obtain⟨d,X,h1,h2,h3⟩:=Ln (l:=a::l) (by simp) (by simpa [aH] using h);refine⟨d,max X ((d+c.abs)/d),h1,by grind,fun x hx=> ?_⟩;have h4:=h3 x (by grind);have h5:(d+c.abs)/d<=x:=by grind
  have h6:d+c.abs<=x*d:=by
   have:=Rat.mul_le_mul_of_nonneg_right h5 (Rat.le_of_lt h1);rwa [Rat.div_mul_cancel (by grind)] at this
  have h7:1<=x:=by grind
  have h8:x*d<=x*(ak (a::l) x).abs:=Rat.mul_le_mul_of_nonneg_left h4 (by grind);rw[cg];generalize ak (a::l) x=v at*;have h9:(v*x).abs=x*v.abs:=by
   by_cases hv:0<=v
   ·rw[Rat.abs_of_nonneg hv,Rat.abs_of_nonneg (Rat.mul_nonneg hv (by grind))];grind
   ·have h11:0<= -v*x:=Rat.mul_nonneg (by grind) (by grind);rw[Rat.abs_of_nonpos (by grind),Rat.abs_of_nonpos (by grind)];grind
  have h10:(v*x).abs<=(v*x+c).abs+c.abs:=by
   unfold Rat.abs;split<;>split<;>split<;>grind
  grind
theorem nN{l:List Rat}(h:Trm l)(h0:∀ x,ak l x=0):l= []:=by
 by_cases hn:l= []
 ·exact hn
 ·obtain⟨d,X,h1,h2,h3⟩:=Ln hn (h hn);have:=h3 X (by grind);rw[h0 X] at this;rw[Rat.abs_zero] at this;grind
theorem kt(op:Rat->Rat->Rat)(l m:List Rat)(n i:Nat)(h:i<n):cf (bT op l m n) i=op (cf l i) (cf m i):=by
 unfold bT;conv=>lhs;unfold cf
 rw[List.getD_eq_getElem?_getD,List.getElem?_map,List.getElem?_range h];rfl
theorem mc(l:List Rat)(i:Nat):cf (aS l) i=cf l i:=by
 induction l generalizing i with
 |nil=>rfl
 |cons c l ih=>
  simp only[aS];split
  ·rename_i h;rw[h] at ih;(have h0:∀ j,cf l j=0:=fun j=>by rw[<- ih j];simp[cf]);split
   ·rename_i hc;cases i with
    |zero=>simp[cf,hc]
    |succ i=>have:=h0 i;simp only[cf,List.getD_cons_succ] at this ⊢;rw[this];simp
   ·cases i with
    |zero=>simp[cf]
    |succ i=>have:=h0 i;simp only[cf,List.getD_cons_succ] at this ⊢;rw[this];simp
  ·rename_i y m h;rw[h] at ih;cases i with
   |zero=>simp[cf]
   |succ i=>have:=ih i;simp only[cf,List.getD_cons_succ] at this ⊢;exact this
theorem PO{l m:List Rat}(hl:Trm l)(hm:Trm m)(h:∀ i,cf l i=cf m i):l=m:=by
 have hlen:∀ {l m:List Rat},Trm l->(∀ i,cf l i=cf m i)->l.length<=m.length:=by
  intro l m hl h;by_cases hn:l= [];·subst hn;simp
  ·have hp:=List.length_pos_iff.2 hn;have h1:=hl hn;rw[bX hp,h] at h1;have: ¬m.length<=l.length-1:=fun e=>h1 (bE e);omega
 have e:l.length=m.length:=Nat.le_antisymm (hlen hl h) (hlen hm fun i=>(h i).symm);apply List.ext_getElem e;intro i h1 h2;have:=h i;unfold cf at this;rw[List.getD_eq_getElem?_getD,List.getD_eq_getElem?_getD,List.getElem?_eq_getElem h1,List.getElem?_eq_getElem h2] at this;exact this
theorem gJ{l m:List Rat}(hl:Trm l)(hm:Trm m)(h:∀ x,ak l x=ak m x):l=m:=by
 have h0:bl (· - ·) l m= []:=nN (eR _) fun x=>by rw[fz,h];grind
 refine PO hl hm fun i=> ?_;by_cases hi:i<max l.length m.length
 ·have h1:=mc (bT (· - ·) l m (max l.length m.length)) i;rw[show aS (bT (· - ·) l m (max l.length m.length))= [] from h0,kt _ _ _ _ _ hi] at h1;have:cf [] i=0:=by simp[cf]
  rw[this] at h1;grind
 ·rw[bE (by omega),bE (by omega)]
theorem me:Trm []:=fun h=>absurd rfl h
theorem jW{l:List Rat}(h:Trm l):aS l=l:=by
 by_cases hn:l= []
 ·subst hn;rfl
 ·exact ko hn (h hn)
theorem e8(op:Rat->Rat->Rat)(l m:List Rat):Trm (bl op l m):=eR _
theorem e9(op:Rat->Rat->Rat)(l m:List Rat):(bl op l m).length<=max l.length m.length:=by
 have:=eu (bT op l m (max l.length m.length));rw[dP] at this;exact this
theorem wy(p q:List Rat)(hq:0<q.length):∀ i,i<=p.length->∀ n,i+q.length<=n+1->cf (mulN p q i) n=0
 |0,_,n,_=>by
  rw[mulN];unfold cf;rw[List.getD_eq_getElem?_getD];by_cases h:n<p.length+q.length-1;·rw[List.getElem?_replicate,if_pos h];rfl
  ·rw[List.getElem?_eq_none (by simp;omega)];rfl
 |i+1,h,n,hn=>by
  rw[mulN,jo _ _ _ _ _ _ (by rw[dM];omega),if_neg (by omega)];exact wy p q hq i (by omega) n (by omega)
theorem Lo{p q:List Rat}(hp:0<p.length)(hq:0<q.length):aH (mulN p q p.length)=aH p*aH q:=by
 obtain⟨n,hn⟩:∃ n,p.length=n+1:=⟨p.length-1,by omega⟩;rw[bX (by rw[dM];omega),dM,hn,mulN,jo _ _ _ _ _ _ (by rw[dM];omega),if_pos (by omega),wy p q hq n (by omega) _ (by omega:n+q.length<=(n+1+q.length-1-1)+1)];rw[bX hp,bX hq,hn];have e1:n+1+q.length-1-1-n=q.length-1:=by omega
 have e2:n+1-1=n:=by omega
 rw[e1,e2];grind
theorem qx{p q:List Rat}(hp:p≠ [])(hq:q≠ []):bh p q=mulN p q p.length:=by
 unfold bh;rw[if_neg];rintro(h|h);·exact hp h
 ·exact hq h
theorem cj{p q:List Rat}(hp:p≠ [])(hq:q≠ []):(bh p q).length=p.length+q.length-1:=by
 rw[qx hp hq,dM]
theorem dB(q:List Rat):bh [] q= []:=by unfold bh;rw[if_pos (.inl rfl)]
theorem di(p:List Rat):bh p []= []:=by unfold bh;rw[if_pos (.inr rfl)]
theorem oQ{p q:List Rat}(hp:p≠ [])(hq:q≠ []):aH (bh p q)=aH p*aH q:=by
 rw[qx hp hq,Lo (List.length_pos_iff.2 hp) (List.length_pos_iff.2 hq)]
theorem eg{p q:List Rat}(hp:Trm p)(hq:Trm q):Trm (bh p q):=by
 intro h;by_cases h1:p= [];·subst h1;exact absurd (dB q) h
 by_cases h2:q= []
 ·subst h2;exact absurd (di p) h
 rw[oQ h1 h2];have:=hp h1;have:=hq h2;grind
theorem jq{p q:List Rat}(h:bh p q= []):p= []∨q= []:=by
 by_cases h1:p= []
 ·exact .inl h1
 by_cases h2:q= []
 ·exact .inr h2
 have:=cj h1 h2;rw[h] at this;have:=List.length_pos_iff.2 h1;have:=List.length_pos_iff.2 h2;simp only[List.length_nil] at*;omega
theorem AE{p q r:List Rat}(hp:Trm p)(hq:Trm q)(hr:Trm r)(h0:r≠ [])(h:∀ x,ak p x*ak r x=ak q x*ak r x):p=q:=by
 have h1:bh (bl (· - ·) p q) r= []:=nN (eg (e8 _ _ _) hr) fun x=>by rw[aR,fz];have:=h x;grind
 rcases jq h1 with h2|h2;·exact gJ hp hq fun x=>by have:=fz p q x;rw[h2,cb] at this;grind
 ·exact absurd h2 h0
theorem DX{q r:List Rat}(h:q.length<=r.length)(x:Rat):ak (aS (cC q r)) x=ak r x-(aH r/aH q)*x^(r.length-q.length)*ak q x:=by
 rw[eE,cC,uF _ _ _ _ _ (by omega)];grind
theorem AF{q:List Rat}(hq:0<q.length)(h0:aH q≠0)(x:Rat):∀ (n:Nat) (r s:List Rat),r.length<n->(∀ i,i+q.length<=r.length->cf s i=0)->r.length+1-q.length<=s.length->
  ak (fb q n r s).1 x*ak q x+ak (fb q n r s).2 x=ak s x*ak q x+ak r x
 |0,r,s,h,_,_=>absurd h (by omega)
 |n+1,r,s,h,hz,hs=>by
  rw[fb];split;·rename_i hl;have h1:=fy hq hl h0;rw[AF hq h0 x n _ _ (by omega) (fun i hi=>by rw[K7,if_neg (by omega)];exact hz i (by omega)) (by rw[List.length_set];omega)];rw[DX hl,Ll _ _ _ _ (by omega),hz _ (by omega)];grind
  ·rfl
theorem qy{p q:List Rat}(hq:q≠ [])(h0:Trm q)(x:Rat):ak (divN p q).1 x*ak q x+ak (divN p q).2 x=ak p x:=by
 unfold divN;rw[AF (List.length_pos_iff.2 hq) (h0 hq) x _ _ _ (Nat.lt_succ_self _) (fun i _=> ?_) (by simp),DW];·grind
 ·unfold cf;rw[List.getD_eq_getElem?_getD,List.getElem?_replicate];split<;>rfl
theorem DY{q s t r u:List Rat}(hq:q≠ [])(tq:Trm q)(ts:Trm s)(tt:Trm t)(tr:Trm r)(tu:Trm u)(hr:r.length<q.length)(hu:u.length<q.length)
  (h:∀ x,ak s x*ak q x+ak r x=ak t x*ak q x+ak u x):s=t/\r=u:=by
 have h1:bh (bl (· - ·) s t) q=bl (· - ·) u r:=gJ (eg (e8 _ _ _) tq) (e8 _ _ _) fun x=>by
  rw[aR,fz,fz];have:=h x;grind
 have h2:bl (· - ·) s t= []:=by
  by_cases hd:bl (· - ·) s t= []
  ·exact hd
  ·have:=cj hd hq;rw[h1] at this;have h3:=e9 (· - ·) u r;have h4:=List.length_pos_iff.2 hd;omega
 have h3:s=t:=gJ ts tt fun x=>by have:=fz s t x;rw[h2,cb] at this;grind
 refine⟨h3,gJ tr tu fun x=> ?_⟩;have:=h x;rw[h3] at this;grind
theorem p6{p q s r:List Rat}(hq:q≠ [])(tp:Trm p)(tq:Trm q)(ts:Trm s)(tr:Trm r)(hr:r.length<q.length)(h:∀ x,ak s x*ak q x+ak r x=ak p x):
  aS (divN p q).1=s/\(divN p q).2=r:=
 DY hq tq (eR _) ts (eZ tp) tr (dW (List.length_pos_iff.2 hq) (tq hq)) hr fun x=>by rw[eE,qy hq tq,h]
def Den(b:Nat)(l:List Rat):Prop:=∃ D:Int,D≠0/\lw D<=b/\∀ i,∃ n:Int,lw n<=b/\cf l i=Rat.divInt n D
theorem Den.mono{b c:Nat}{l:List Rat}(h:Den b l)(hc:b<=c):Den c l:=by
 obtain⟨D,h1,h2,h3⟩:=h;exact⟨D,h1,by omega,fun i=>by obtain⟨n,a,e⟩:=h3 i;exact⟨n,by omega,e⟩⟩
theorem Den.lq{b:Nat}{l:List Rat}(h:Den b l):∀ x∈l,lq x<=b:=by
 obtain⟨D,h1,h2,h3⟩:=h;intro x hx;obtain⟨i,hi,rfl⟩:=List.getElem_of_mem hx;obtain⟨n,a,e⟩:=h3 i;unfold cf at e;rw[List.getD_eq_getElem?_getD,List.getElem?_eq_getElem hi] at e;simp only[Option.getD_some] at e;rw[e];have:=jB n D h1;omega
theorem Den.sz{b k:Nat}{l:List Rat}(h:Den b l)(hk:b<=k):Sz k (aI l):=fx fun x hx=>Nat.le_trans (h.lq x hx) hk
theorem H9{b:Nat}{l m:List Rat}(h:Den b l)(he:∀ i,cf m i=cf l i):Den b m:=by
 obtain⟨D,h1,h2,h3⟩:=h;exact⟨D,h1,h2,fun i=>by rw[he];exact h3 i⟩
theorem lF{b:Nat}{l:List Rat}(h:Den b l):Den b (aS l):=H9 h fun i=>mc l i
theorem ku{b:Nat}(hb:1<=b):Den b []:=⟨1,by decide,by rw[oH];exact hb,fun i=>⟨0,by rw[iv];omega,by rw[Rat.zero_divInt];simp[cf]⟩⟩
theorem Den.pos{b:Nat}{l:List Rat}(h:Den b l):1<=b:=by
 obtain⟨D,h1,h2,_⟩:=h;have:lw D≠0:=fun e=>by have:=pV D;rw[e] at this;simp at this;omega
 omega
theorem wz{n D:Int}(hD:D≠0)(h:Rat.divInt n D≠0):n≠0:=fun e=>h (by rw[e,Rat.zero_divInt])
theorem Lp(a b:Int):lw (a-b)<=max (lw a) (lw b)+1:=by
 have:=uf a (-b);rw[KP] at this;exact this
theorem uG{b c:Nat}{q r:List Rat}(hr:Den b r)(hq:Den c q)(hl:q.length<=r.length)(h0:aH q≠0)(hp:0<q.length):Den (b+c+1) (aS (cC q r)):=by
 refine lF ?_;obtain⟨D,d1,d2,d3⟩:=hr;obtain⟨E,e1,e2,e3⟩:=hq;obtain⟨R,r1,r2⟩:=d3 (r.length-1);obtain⟨Q,q1,q2⟩:=e3 (q.length-1);rw[<- bX (by omega)] at r2;rw[<- bX hp] at q2;have hQ:Q≠0:=wz e1 (by rw[<- q2];exact h0);have hDQ:D*Q≠0:=Int.mul_ne_zero d1 hQ;refine⟨D*Q,hDQ,by have:=bW D Q;omega,fun i=> ?_⟩;unfold cC;rw[jo _ _ _ _ _ _ (by omega)];obtain⟨n,n1,n2⟩:=d3 i;split
 ·obtain⟨m,m1,m2⟩:=e3 (i-(r.length-q.length));refine⟨n*Q-R*m,?_,?_⟩;·have:=bW n Q;have:=bW R m;have:=Lp (n*Q) (R*m);omega
  ·rw[n2,m2,r2,q2];simp only[Rat.divInt_eq_div,Rat.intCast_mul,Rat.intCast_sub];(have f1:(D:Rat)≠0:=by simpa using d1);(have f2:(E:Rat)≠0:=by simpa using e1);(have f3:(Q:Rat)≠0:=by simpa using hQ);generalize (D:Rat)=D' at*;generalize (E:Rat)=E' at*;generalize (Q:Rat)=Q' at*;grind
 ·refine⟨n*Q,by have:=bW n Q;omega,?_⟩;rw[n2,Rat.divInt_mul_right hQ]
theorem wA{b:Nat}{l:List Rat}(h:Den b l)(ht:Trm l):Den b (cx l):=by
 by_cases hn:l= []
 ·subst hn;exact h
 have hp:=List.length_pos_iff.2 hn;obtain⟨D,d1,d2,d3⟩:=h;obtain⟨R,r1,r2⟩:=d3 (l.length-1);rw[<- bX hp] at r2;have hR:R≠0:=wz d1 (by rw[<- r2];exact ht hn);refine⟨R,hR,r1,fun i=> ?_⟩;obtain⟨n,n1,n2⟩:=d3 i;refine⟨n,n1,?_⟩;have:cf (cx l) i=cf l i/aH l:=by
  unfold cx cf;simp only[List.getD_eq_getElem?_getD,List.getElem?_map];cases l[i]? with
  |none=>simp;grind
  |some x=>rfl
 rw[this,n2,r2];simp only[Rat.divInt_eq_div];have f1:(D:Rat)≠0:=by simpa using d1
 have f3:(R:Rat)≠0:=by simpa using hR
 generalize (D:Rat)=D' at*;generalize (R:Rat)=R' at*;grind
theorem AG{c:Nat}{q:List Rat}(hq:Den c q)(hp:0<q.length)(h0:aH q≠0):∀ (n:Nat) (r s:List Rat) (b:Nat),Den b r->Den (b+(r.length+1-q.length)*(c+1)) (fb q n r s).2
 |0,r,s,b,h=>h.mono (by omega)
 |n+1,r,s,b,h=>by
  rw[fb];split;·rename_i hl;have h1:=fy hp hl h0;refine(AG hq hp h0 n _ _ _ (uG h hq hl h0 hp)).mono ?_;(have h2:(aS (cC q r)).length+1-q.length+1<=r.length+1-q.length:=by omega);have h3:=Nat.mul_le_mul_right (c+1) h2;rw[Nat.add_mul] at h3;omega
  ·exact h.mono (by omega)
theorem yn{c:Nat}{q:List Rat}(hq:Den c q)(hp:0<q.length)(h0:aH q≠0):∀ (n:Nat) (r:List Rat) (b:Nat),Den b r->b+(r.length+1-q.length)*(c+1)<=QD->ux q n r
 |0,r,b,h,hb=>trivial
 |n+1,r,b,h,hb=>by
  refine⟨fun x hx=>by have:=h.lq x hx;omega,fun hl=> ?_⟩;have h1:=fy hp hl h0;refine yn hq hp h0 n _ _ (uG h hq hl h0 hp) ?_;have h2:(aS (cC q r)).length+1-q.length+1<=r.length+1-q.length:=by omega
  have h3:=Nat.mul_le_mul_right (c+1) h2;rw[Nat.add_mul] at h3;omega
theorem Lq{c K:Nat}{q:List Rat}(hq:Den c q)(hp:0<q.length)(h0:aH q≠0):∀ (n:Nat) (r s:List Rat) (b:Nat),Den b r->(∀ x∈s,lq x<=K)->b+(r.length+1-q.length)*(c+1)<=K->∀ x∈(fb q n r s).1,lq x<=K
 |0,r,s,b,h,hs,hb=>hs
 |n+1,r,s,b,h,hs,hb=>by
  rw[fb];split
  ·(rename_i hl;have h1:=fy hp hl h0;(have h2:(aS (cC q r)).length+1-q.length+1<=r.length+1-q.length:=by omega);have h3:=Nat.mul_le_mul_right (c+1) h2;rw[Nat.add_mul] at h3;refine Lq hq hp h0 n _ _ _ (uG h hq hl h0 hp) ?_ (by omega);intro x hx;rcases List.mem_or_eq_of_mem_set hx with hx|rfl;·exact hs x hx);·have h4:=yb (aH r) (aH q);have h5:=h.lq (aH r) (by rw[bX (by omega)];exact oM (by omega));have h6:=hq.lq (aH q) (by rw[bX hp];exact oM (by omega));omega
  ·exact hs
theorem DZ{p q:List ND}{b c:Nat}(hp:∀ x∈p,NOK x)(hq:∀ x∈q,NOK x)(dp:Den b (aq p))(dq:Den c (aq q))(l1:p.length<=900)(l2:q.length<=900)(hn:0<q.length)(tq:Trm (aq q))
  (hb:b+(p.length+1-q.length)*(c+1)<=QD) (hc:c<=QD):fG p q:=by
 have hQ:QD<=QC:=by unfold QD QC;omega
 have hne:aq q≠ []:=fun e=>by have:=congrArg List.length e;rw[aM,List.length_nil] at this;omega
 have hln:0<(aq q).length:=by rw[aM];exact hn
 refine⟨hp,?_,l1,l2,hn,tq hne,yn dq hln (tq hne) _ _ _ dp (by rw[aM,aM];exact hb)⟩;have:=dq.sz hc;rwa [yj hq] at this
theorem qz{p q:List Rat}{b c K:Nat}(dp:Den b p)(dq:Den c q)(hn:q≠ [])(tq:Trm q)(hb:b+(p.length+1-q.length)*(c+1)<=K)(hK:1<=K):(∀ x∈(divN p q).1,lq x<=K)/\Den K (divN p q).2:=by
 unfold divN;refine⟨Lq dq (List.length_pos_iff.2 hn) (tq hn) _ _ _ _ dp (fun x hx=> ?_) hb,(AG dq (List.length_pos_iff.2 hn) (tq hn) _ _ _ _ dp).mono hb⟩;rw[(List.mem_replicate.1 hx).2];exact Nat.le_trans iw hK
theorem uH(q:List Rat):∀ (n:Nat) (r s:List Rat),(fb q n r s).1.length=s.length
 |0,_,_=>rfl
 |n+1,r,s=>by
  rw[fb];split;·rw[uH q n,List.length_set]
  ·rfl
theorem iG(p q:List Rat):(divN p q).1.length=p.length+1-q.length:=by
 unfold divN;rw[uH];simp
theorem wB:∀ t:Nat,t+3<=3^(t+1)
 |0=>by decide
 |t+1=>by have:=wB t;rw[Nat.pow_succ];omega
theorem AH:∀ (n:Nat) (p q:List Rat) (b:Nat),Den b p->Den b q->Trm p->Trm q->q.length<n->(b+1)*(p.length+1-q.length+1)*3^q.length<=QD->uy n p q/\Den ((b+1)*(p.length+1-q.length+1)*3^q.length) (de n p q)
 |0,p,q,b,_,_,_,_,h,_=>absurd h (by omega)
 |n+1,p,q,b,dp,dq,tp,tq,hn,hb=>by
  have hpow:0<3^q.length:=Nat.pow_pos (by decide);have hb1:(b+1)*(p.length+1-q.length+1)<=QD:=Nat.le_trans (Nat.le_mul_of_pos_right _ hpow) hb;have hb2:b+(p.length+1-q.length)*(b+1)+1=(b+1)*(p.length+1-q.length+1):=by
   have e:=Nat.mul_add (b+1) (p.length+1-q.length) 1;rw[Nat.mul_one,Nat.mul_comm (b+1) (p.length+1-q.length)] at e;omega
  have hb3:b<=QD:=by
   have:0<=(p.length+1-q.length)*(b+1):=Nat.zero_le _;omega
  have hqh:QD<=QH:=by unfold QD QH;omega
  rw[uy,de];by_cases hq:q= [];·rw[if_pos hq,if_pos hq];exact⟨fun x hx=>by have:=dp.lq x hx;omega,(wA dp tp).mono (Nat.le_trans (by omega:b<=(b+1)*(p.length+1-q.length+1)) (Nat.le_mul_of_pos_right _ hpow))⟩
  ·rw[if_neg hq,if_neg hq];have hl:=List.length_pos_iff.2 hq;have hs:=dW (p:=p) hl (tq hq);obtain⟨k1,k2⟩:=qz (K:=b+(p.length+1-q.length)*(b+1)) dp dq hq tq (Nat.le_refl _) (by have:=dp.pos;omega);have tr:=eZ (q:=q) tp;have hm:=wA k2 tr;have hphi:(b+(p.length+1-q.length)*(b+1)+1)*(q.length+1-(cx (divN p q).2).length+1)*3^(cx (divN p q).2).length<=(b+1)*(p.length+1-q.length+1)*3^q.length:=by
    rw[hb2,b5];rw[Nat.mul_assoc];refine Nat.mul_le_mul_left _ ?_;obtain⟨t,ht⟩:∃ t,q.length=(divN p q).2.length+(t+1):=⟨q.length-(divN p q).2.length-1,by omega⟩;rw[ht,Nat.pow_add,Nat.mul_comm];refine Nat.mul_le_mul_left _ ?_;have:=wB t;omega
   obtain⟨g1,g2⟩:=AH n q (cx (divN p q).2) _ (dq.mono (by omega)) hm tq (dn tr) (by rw[b5];omega) (Nat.le_trans hphi hb);exact⟨⟨yn dq hl (tq hq) _ _ _ dp (by omega),fun x hx=>by have:=dq.lq x hx;omega,fun x hx=>by have:=k2.lq x hx;omega,g1⟩,g2.mono hphi⟩
theorem PP{p q:List ND}{b:Nat}(hp:∀ x∈p,NOK x)(hq:∀ x∈q,NOK x)(dp:Den b (aq p))(dq:Den b (aq q))(l1:p.length<=900)(l2:q.length<=900)(tp:Trm (aq p))(tq:Trm (aq q))
  (hb:(b+1)*(p.length+1-q.length+1)*3^q.length<=QD):iS p q/\Den ((b+1)*(p.length+1-q.length+1)*3^q.length) (bJ (aq p) (aq q)):=by
 obtain⟨h1,h2⟩:=AH (q.length+1) (aq p) (aq q) b dp dq tp tq (by rw[aM];omega) (by rw[aM,aM];exact hb);refine⟨⟨hp,hq,l1,l2,tp,tq,h1⟩,?_⟩;rw[aM,aM] at h2;unfold bJ;rw[aM];exact h2
theorem den_add{b c:Nat}{l m:List Rat}(hl:Den b l)(hm:Den c m):Den (b+c+1) (bl (· + ·) l m):=by
 refine lF ?_;obtain⟨D,d1,d2,d3⟩:=hl;obtain⟨E,e1,e2,e3⟩:=hm;refine⟨D*E,Int.mul_ne_zero d1 e1,by have:=bW D E;omega,fun i=> ?_⟩;by_cases hi:i<max l.length m.length;·rw[kt _ _ _ _ _ hi];obtain⟨n,n1,n2⟩:=d3 i;obtain⟨k,k1,k2⟩:=e3 i;refine⟨n*E+k*D,by have:=bW n E;have:=bW k D;have:=uf (n*E) (k*D);omega,?_⟩;rw[n2,k2,Rat.divInt_add_divInt _ _ d1 e1]
 ·refine⟨0,by rw[iv];omega,?_⟩;rw[bE (by rw[dP];omega),Rat.zero_divInt]
theorem NY{b c:Nat}{l m:List Rat}(hl:Den b l)(hm:Den c m):Den (b+c+1) (bl (· - ·) l m):=by
 refine lF ?_;obtain⟨D,d1,d2,d3⟩:=hl;obtain⟨E,e1,e2,e3⟩:=hm;refine⟨D*E,Int.mul_ne_zero d1 e1,by have:=bW D E;omega,fun i=> ?_⟩;by_cases hi:i<max l.length m.length;·rw[kt _ _ _ _ _ hi];obtain⟨n,n1,n2⟩:=d3 i;obtain⟨k,k1,k2⟩:=e3 i;refine⟨n*E-k*D,by have:=bW n E;have:=bW k D;have:=Lp (n*E) (k*D);omega,?_⟩;rw[n2,k2,Rat.divInt_sub_divInt _ _ d1 e1]
 ·refine⟨0,by rw[iv];omega,?_⟩;rw[bE (by rw[dP];omega),Rat.zero_divInt]
theorem p7{a:Int}{b:Nat}(h:lw a<=b):(a.natAbs:Int)<=LB^b:=by
 have:=tV a h;omega
theorem AJ{b c:Nat}{p q:List Rat}{D E:Int}(d1:D≠0)(e1:E≠0)(hp:∀ i,∃ n:Int,lw n<=b/\cf p i=Rat.divInt n D)(hq:∀ i,∃ n:Int,lw n<=c/\cf q i=Rat.divInt n E)(hl:0<q.length):
  ∀ i,i<=p.length->∀ n,∃ N:Int,(N.natAbs:Int)<=i*(LB^b*LB^c)/\cf (mulN p q i) n=Rat.divInt N (D*E)
 |0,_,n=>⟨0,by simp,by
   (rw[Rat.zero_divInt];by_cases h:n<(mulN p q 0).length;·unfold mulN cf;rw[List.getD_eq_getElem?_getD,List.getElem?_replicate];split<;>rfl);·exact bE (by omega)⟩
 |i+1,h,n=>by
  obtain⟨N,h1,h2⟩:=AJ d1 e1 hp hq hl i (by omega) n;rw[mulN,jo _ _ _ _ _ _ (by rw[dM];omega)];have hpos:(0:Int)<=LB^b*LB^c:=Int.mul_nonneg (Int.le_of_lt (lbpos _)) (Int.le_of_lt (lbpos _));have e:((i+1:Nat):Int)*(LB^b*LB^c)=(i:Int)*(LB^b*LB^c)+LB^b*LB^c:=by rw[Int.natCast_add,Int.add_mul];simp
  rw[e];split
  ·obtain⟨x,x1,x2⟩:=hp i;obtain⟨y,y1,y2⟩:=hq (n-i);refine⟨N+x*y,?_,?_⟩
   ·have h3:=p7 x1;have h4:=p7 y1;have h5:(x.natAbs:Int)*(y.natAbs:Int)<=LB^b*LB^c:=by
     have h6:(x.natAbs:Int)*(y.natAbs:Int)<=LB^b*(y.natAbs:Int):=Int.mul_le_mul_of_nonneg_right h3 (by omega);have h7:LB^b*(y.natAbs:Int)<=LB^b*LB^c:=Int.mul_le_mul_of_nonneg_left h4 (Int.le_of_lt (lbpos _));omega
    have h8:(N+x*y).natAbs<=N.natAbs+(x*y).natAbs:=Int.natAbs_add_le _ _;rw[Int.natAbs_mul] at h8;have h9:((N+x*y).natAbs:Int)<=(N.natAbs:Int)+(x.natAbs:Int)*(y.natAbs:Int):=by
     rw[<- Int.natCast_mul];omega
    omega
   ·rw[h2,x2,y2,Rat.divInt_mul_divInt,Rat.divInt_add_divInt _ _ (Int.mul_ne_zero d1 e1) (Int.mul_ne_zero d1 e1),<- Int.add_mul,Rat.divInt_mul_right (Int.mul_ne_zero d1 e1)]
  ·exact⟨N,by omega,h2⟩
theorem den_mul{b c:Nat}{p q:List Rat}(hp:Den b p)(hq:Den c q)(hl:p.length<1000000000):Den (b+c+1) (bh p q):=by
 have hb:=hp.pos;by_cases h1:p= [];·subst h1;rw[dB];exact ku (by omega)
 by_cases h2:q= []
 ·subst h2;rw[di];exact ku (by omega)
 rw[qx h1 h2];obtain⟨D,d1,d2,d3⟩:=hp;obtain⟨E,e1,e2,e3⟩:=hq;refine⟨D*E,Int.mul_ne_zero d1 e1,by have:=bW D E;omega,fun n=> ?_⟩;obtain⟨N,k1,k2⟩:=AJ d1 e1 d3 e3 (List.length_pos_iff.2 h2) _ (Nat.le_refl _) n;refine⟨N,kL ?_,k2⟩;have k3:(0:Int)<LB^b*LB^c:=Int.mul_pos (lbpos _) (lbpos _);have k4:(p.length:Int)*(LB^b*LB^c)<LB*(LB^b*LB^c):=Int.mul_lt_mul_of_pos_right (by show (p.length:Int)<1000000000;omega) k3;have k5:(LB:Int)^(b+c+1)=LB*(LB^b*LB^c):=by rw[Int.pow_succ,Int.pow_add,Int.mul_comm]
 omega
theorem Ft{b:Nat}{l:List Rat}(h:Den b l):(l.length<1000000000)->Den (b+1) (aZ l):=by
 intro hl;obtain⟨D,d1,d2,d3⟩:=h;refine⟨D,d1,by omega,fun i=> ?_⟩;by_cases hi:i<l.length-1
 ·obtain⟨n,n1,n2⟩:=d3 (i+1);have:cf (aZ l) i=cf l (i+1)*Rat.divInt ((i+1:Nat):Int) 1:=by
   (unfold aZ lC;conv=>lhs;unfold cf);rw[List.getD_eq_getElem?_getD,List.getElem?_map,List.getElem?_range hi];rfl
  refine⟨n*((i+1:Nat):Int),?_,?_⟩;·have h1:lw (((i+1:Nat):Int))<=1:=kL (by show _<(1000000000:Int)^1;omega);have:=bW n ((i+1:Nat):Int);omega
  ·rw[this,n2,Rat.divInt_mul_divInt,Int.mul_one]
 ·refine⟨0,by rw[iv];omega,?_⟩;rw[Rat.zero_divInt,bE];unfold aZ lC;simp;omega
theorem PQ(a:Int):∀ n:Nat,lw (a^n)<=lw a*n+1
 |0=>by rw[Int.pow_zero,oH];omega
 |n+1=>by
  by_cases hn:n=0
  ·subst hn;(have e:a^(0+1)=a:=by rw[Int.pow_succ,Int.pow_zero,Int.one_mul]);rw[e];omega
  ·have:=lw_pow' a n hn;rw[Int.pow_succ];have h2:=bW (a^n) a;rw[Nat.mul_succ];omega
where lw_pow' (a:Int):∀ n:Nat,n≠0->lw (a^n)<=lw a*n
 |0,h=>absurd rfl h
 |1,_=>by
  have e:a^1=a:=by rw[show (1:Nat)=0+1 from rfl,Int.pow_succ,Int.pow_zero,Int.one_mul]
  rw[e];omega
 |n+2,_=>by
  have h1:=lw_pow' a (n+1) (by omega);rw[Int.pow_succ];have h2:=bW (a^(n+1)) a;rw[Nat.mul_succ];omega
end Go.Cm
end
section
namespace Go.Cm
open Go.Proofs
def cV(p:List (List UInt8)):Int:=
 if 41<p.length then 40 else if p.all (fun q=>decide (dA q=0))=false then 40
 else if p≠ []/\p.getLastD []= [48] then 40 else 0
def bm(p:List (List UInt8)):List Rat:=if cV p=0 then p.map bL else []
def dm(p:List (List UInt8)):Prop:=p.length<=QL/\∀ q∈p,q.length<=QL
theorem oR{q:List UInt8}(h:dA q=0)(hl:q.length<=QL):gu q/\gR q=bk (bL q):=by
 have:RQ q:=⟨by rw[h];decide,hl⟩;exact⟨this.form,this.raw⟩
theorem D0{p:List (List UInt8)}{k:Nat}(hk:k<p.length)(h:(p.take k).all (fun q=>decide (dA q=0))=true)(hb:dA (nth .str p (k:Int))=0):(p.take (k+1)).all (fun q=>decide (dA q=0))=true:=by
 have e:nth .str p (k:Int)=p[k]:=gh (t:= .str) hk;rw[List.take_succ_eq_append_getElem hk,List.all_append,h];rw[e] at hb;simp[hb]
theorem Ia{p:List (List UInt8)}{k:Nat}(hk:k<p.length)(h41:p.length<=41)(hb: ¬dA (nth .str p (k:Int))=0):cV p=40:=by
 have e:nth .str p (k:Int)=p[k]:=gh (t:= .str) hk;rw[e] at hb;unfold cV;rw[if_neg (by omega),if_pos];rw[List.all_eq_false];exact⟨p[k],List.getElem_mem hk,by simpa using hb⟩
theorem uI{p:List (List UInt8)}(hs:dm p)(h:p.all (fun q=>decide (dA q=0))=true):(∀ q∈p,gu q)/\p.map gR=aI (p.map bL):=by
 rw[List.all_eq_true] at h;refine⟨fun q hq=>(oR (by simpa using h q hq) (hs.2 q hq)).1,?_⟩;unfold aI;rw[List.map_map];exact List.map_congr_left fun q hq=>(oR (by simpa using h q hq) (hs.2 q hq)).2
theorem D3{p:List (List UInt8)}(hl:p.length<=41):(decide ((0:Int)<(p.length:Int))=true->decide ((0:Int)<(p.length:Int))=true)/\(decide ((0:Int)<(p.length:Int))=true->decide ((0:Int)<(p.length:Int))=true)/\(decide ((0:Int)<(p.length:Int))=true->decide ((0:Int)<(p.length:Int))=true/\0<=IntKind.i64.wrap ((p.length:Int)-1)/\IntKind.i64.wrap ((p.length:Int)-1)<(p.length:Int))/\(decide ((0:Int)<(p.length:Int))=true->decide ((0:Int)<(p.length:Int))=true):=by
 refine⟨id,id,fun h=> ?_,id⟩;have h2:=of_decide_eq_true h;rw[cp (by omega)];exact⟨h,by omega,by omega⟩
theorem uJ{p:List (List UInt8)}(h:cV p=40): []=aI (bm p)/\40=cV p:=by
 refine⟨?_,h.symm⟩;unfold bm;rw[if_neg (by rw[h];decide)];rfl
theorem D4{p:List (List UInt8)}(h:41<p.length):cV p=40:=by unfold cV;rw[if_pos h]
theorem p8{p:List (List UInt8)}(hl:p.length<=41)(h:0<p.length):nth .str p (IntKind.i64.wrap ((p.length:Int)-1))=p.getLastD []:=by
 rw[cp (by omega),show (p.length:Int)-1=((p.length-1:Nat):Int) by omega,gh (t:= .str) (by omega)];rw[List.getLastD_eq_getLast?,List.getLast?_eq_getElem?,List.getElem?_eq_getElem (by omega)];rfl
theorem D5{p:List (List UInt8)}(hl:p.length<=41)(ha:p.all (fun q=>decide (dA q=0))=true)(h:0<(p.length:Int)/\nth .str p (IntKind.i64.wrap ((p.length:Int)-1))= [48]):cV p=40:=by
 rw[p8 hl (by omega)] at h;unfold cV;rw[if_neg (by omega),if_neg (by rw[ha];decide),if_pos];refine⟨fun e=> ?_,h.2⟩;rw[e] at h;exact absurd h.1 (by decide)
theorem Lr{p:List (List UInt8)}(hs:dm p)(hl:p.length<=41)(ha:p.all (fun q=>decide (dA q=0))=true)(h:0<(p.length:Int)-> ¬nth .str p (IntKind.i64.wrap ((p.length:Int)-1))= [48]):p.map gR=aI (bm p)/\0=cV p:=by
 have hc:cV p=0:=by
  unfold cV;rw[if_neg (by omega),if_neg (by rw[ha];decide),if_neg];intro h2;have h3:0<p.length:=by cases p with|nil=>exact absurd rfl h2.1|cons=>simp
  exact h (by omega) (by rw[p8 hl h3];exact h2.2)
 refine⟨?_,hc.symm⟩;unfold bm;rw[if_pos hc];exact(uI hs ha).2
end Go.Cm
namespace Go.Cm
open Go.Proofs
def bY:List (List (List UInt8))->Int
 | []=>0
 |p::l=>if cV p=0 then bY l else cV p
def ig(l:List (List (List UInt8))):List (List ND):=if bY l=0 then l.map fun p=>aI (bm p) else []
theorem Ls{l:List (List (List UInt8))}(h:∀ p∈l,cV p=0):bY l=0:=by
 induction l with
 |nil=>rfl
 |cons a l ih=>
  unfold bY;rw[if_pos (h a (by simp))];exact ih fun p hp=>h p (by simp[hp])
theorem Ib{l:List (List (List UInt8))}{k:Nat}(hk:k<l.length)(h:(l.take k).all (fun p=>decide (cV p=0))=true)(hb: ¬cV l[k]=0):bY l=cV l[k]:=by
 induction l generalizing k with
 |nil=>simp at hk
 |cons a l ih=>
  unfold bY;cases k with
  |zero=>exact if_neg hb
  |succ k=>
   simp only[List.take_succ_cons,List.all_cons,Bool.and_eq_true,decide_eq_true_eq] at h;rw[if_pos h.1];exact ih (by simpa using hk) h.2 (by simpa using hb)
end Go.Cm
namespace Go.Cm
open Go.Proofs
theorem uK{l:List (List (List UInt8))}{k:Nat}(hl:l.length<=1000)(hk:k<l.length)(g:(l.take k).all (fun p=>decide (cV p=0))=true)(hb:cV (nth (.slice .str) l (k:Int))=0):
  IntKind.i64.wrap ((k:Int)+1)=((k+1:Nat):Int)/\(l.take k).map (fun p=>aI (bm p))++ [aI (bm (nth (.slice .str) l (k:Int)))]=(l.take (k+1)).map (fun p=>aI (bm p))/\k+1<=l.length/\(l.take (k+1)).all (fun p=>decide (cV p=0))=true/\l.length-(k+1)<l.length-k:=by
 have e:nth (.slice .str) l (k:Int)=l[k]:=gh (t:= .slice .str) hk;rw[e] at hb ⊢;refine⟨wi (by omega) (by omega),?_,hk,?_,by omega⟩;·rw[List.take_succ_eq_append_getElem hk,List.map_append];rfl
 ·rw[List.take_succ_eq_append_getElem hk,List.all_append,g];simp[hb]
theorem AK{l:List (List (List UInt8))}{k:Nat}(hk:k<l.length)(g:(l.take k).all (fun p=>decide (cV p=0))=true)(hb: ¬cV (nth (.slice .str) l (k:Int))=0): []=ig l/\cV (nth (.slice .str) l (k:Int))=bY l:=by
 have e:nth (.slice .str) l (k:Int)=l[k]:=gh (t:= .slice .str) hk;rw[e] at hb ⊢;have h:=Ib hk g hb;refine⟨?_,h.symm⟩;unfold ig;rw[if_neg (by rw[h];exact hb)]
theorem Lt{l:List (List (List UInt8))}(g:l.all (fun p=>decide (cV p=0))=true):l.map (fun p=>aI (bm p))=ig l/\0=bY l:=by
 have h:bY l=0:=Ls fun p hp=>by
  rw[List.all_eq_true] at g;simpa using g p hp
 refine⟨?_,h.symm⟩;unfold ig;rw[if_pos h]
end Go.Cm
namespace Go.Cm
open Go.Proofs
theorem AL{l:List (List (List UInt8))}(hl:l.length<=1000)(hk:0<l.length)(hb:cV (nth (.slice .str) l 0)=0):
  IntKind.i64.wrap (0+1)=((1:Nat):Int)/\ [aI (bm (nth (.slice .str) l 0))]=(l.take 1).map (fun p=>aI (bm p))/\1<=l.length/\(l.take 1).all (fun p=>decide (cV p=0))=true/\l.length-1<l.length+1:=by
 have h:=uK (k:=0) hl hk rfl hb;exact⟨h.1,h.2.1,hk,h.2.2.2.1,by omega⟩
theorem Ic{l:List (List (List UInt8))}(hk:0<l.length)(hb: ¬cV (nth (.slice .str) l 0)=0): []=ig l/\cV (nth (.slice .str) l 0)=bY l:=AK (k:=0) hk rfl hb
theorem Ie{l:List (List (List UInt8))}(h: ¬0<l.length): []=ig l/\0=bY l:=by
 cases l with
 |nil=>exact⟨rfl,rfl⟩
 |cons=>simp at h
end Go.Cm
namespace Go.Cm
open Go.Proofs
def cw(l:List Rat):Int:=if 41<l.length then 3 else if dO (aI l)=true then 0 else 6
def ij(l:List Rat):List (List UInt8):=if cw l=0 then l.map aX else []
theorem D6{l:List Rat}(h:41<l.length): []=ij l/\3=cw l:=by
 have e:cw l=3:=by unfold cw;rw[if_pos h]
 exact⟨by unfold ij;rw[if_neg (by rw[e];decide)],e.symm⟩
theorem Ig{l:List Rat}(h: ¬41<l.length)(hf:dO (aI l)=false): []=ij l/\6=cw l:=by
 have e:cw l=6:=by unfold cw;rw[if_neg h,if_neg (by rw[hf];decide)]
 exact⟨by unfold ij;rw[if_neg (by rw[e];decide)],e.symm⟩
theorem Lu{l:List Rat}(h: ¬41<l.length)(hf:dO (aI l)=true):(if dO (aI l)=true then (aI l).map fun x=>aX (bG x) else [])=ij l/\0=cw l:=by
 have e:cw l=0:=by unfold cw;rw[if_neg h,if_pos hf]
 refine⟨?_,e.symm⟩;unfold ij;rw[if_pos e,if_pos hf,aI,List.map_map];exact List.map_congr_left fun x _=>by simp only[Function.comp,aL]
end Go.Cm
namespace Go.Cm
open Go.Proofs
theorem iH{l:List Rat}:∀ x∈aS l,x∈l:=by
 induction l with
 |nil=>intro x hx;exact hx
 |cons a l ih=>
  intro x hx;unfold aS at hx;split at hx
  ·(split at hx;·simp at hx);·simp at hx;simp[hx]
  ·(rename_i h;rcases List.mem_cons.1 hx with h2|h2;·simp[h2]);·exact List.mem_cons_of_mem _ (ih x (by rw[h];exact h2))
theorem Ih{p:List ND}(h:Sz QC p/\p.length<=QL)(hl: ¬41<(aS (aq p)).length):(aI (aS (aq p))).length<QL/\∀ x∈aI (aS (aq p)),NOK x/\lq (bG x)<=QC:=by
 refine⟨by rw[aE];unfold QL;omega,?_⟩;refine fx (k:=QC) fun x hx=> ?_;obtain⟨y,hy,rfl⟩:=List.mem_map.1 (iH x hx);exact(h.1 y hy).2
end Go.Cm
end
section
namespace Go.Cm
open Go.Proofs
def cZ(f:List Rat->List Rat->List Rat)(p q:List (List UInt8)):Int:=if bY [p,q]=0 then cw (aS (f (bm p) (bm q))) else bY [p,q]
def c6(f:List Rat->List Rat->List Rat)(p q:List (List UInt8)):List (List UInt8):=if bY [p,q]=0 then ij (aS (f (bm p) (bm q))) else []
def bS(D:List ND->List ND->Prop)(f:List Rat->List Rat->List Rat)(p q:List (List UInt8)):Prop:=
 dm p/\dm q/\(bY [p,q]=0->D (aI (bm p)) (aI (bm q))/\Sz QC (aI (f (bm p) (bm q)))/\(f (bm p) (bm q)).length<=QL)
theorem oS{p q:List (List UInt8)}(h:bY [p,q]=0):ig [p,q]= [aI (bm p),aI (bm q)]:=by
 unfold ig;rw[if_pos h];rfl
theorem iU{f:List Rat->List Rat->List Rat}{p q:List (List UInt8)}(h: ¬bY [p,q]=0): []=c6 f p q/\bY [p,q]=cZ f p q:=by
 unfold c6 cZ;rw[if_neg h,if_neg h];exact⟨rfl,rfl⟩
theorem kv{f:List Rat->List Rat->List Rat}{p q:List (List UInt8)}(h:bY [p,q]=0):ij (aS (f (bm p) (bm q)))=c6 f p q/\cw (aS (f (bm p) (bm q)))=cZ f p q:=by
 unfold c6 cZ;rw[if_pos h,if_pos h];exact⟨rfl,rfl⟩
end Go.Cm
namespace Go.Cm
open Go.Proofs
theorem js{p q:List (List UInt8)}(h:bY [p,q]=0):nth (.slice NT) (ig [p,q]) 0=aI (bm p):=by rw[oS h];rfl
theorem jt{p q:List (List UInt8)}(h:bY [p,q]=0):nth (.slice NT) (ig [p,q]) 1=aI (bm q):=by rw[oS h];rfl
theorem gU{p q:List (List UInt8)}(h:bY [p,q]=0):(ig [p,q]).length=2:=by rw[oS h];rfl
end Go.Cm
namespace Go.Cm
open Go.Proofs
theorem gV{p q:List (List UInt8)}(hp:dm p)(hq:dm q): [p,q].length<=1000/\∀ x∈ [p,q],dm x:=by
 refine⟨by simp,fun x hx=> ?_⟩;simp only[List.mem_cons,List.not_mem_nil,or_false] at hx;rcases hx with rfl|rfl;·exact hp
 ·exact hq
end Go.Cm
end
section
namespace Go.Cm
open Go.Proofs
theorem AM(n:Int):∀ c∈Lib.itoa n,c≠47:=by
 obtain⟨d1,_,_,_⟩:=kk n.natAbs;intro c hc;unfold Lib.itoa at hc;split at hc
 ·rcases List.mem_cons.1 hc with h|h;·rw[h];decide
  ·have:=d1 c h;intro hc;rw[hc] at this;revert this;decide
 ·have e:n.toNat=n.natAbs:=by omega
  rw[e] at hc;have:=d1 c hc;intro hc;rw[hc] at this;revert this;decide
theorem Lv{a b:List UInt8}(h:∀ c∈a,c≠47):tN (a++47::b)=a/\cu (a++47::b)=true:=by
 constructor
 ·unfold tN;induction a with
  |nil=>simp
  |cons c l ih=>
   have:=h c (by simp);rw[List.cons_append,List.takeWhile_cons,if_pos (by simpa using this),ih fun d hd=>h d (by simp[hd])]
 ·unfold cu;simp
theorem uL{a:List UInt8}(h:∀ c∈a,c≠47):cu a=false:=by
 unfold cu;rw[List.any_eq_false];intro c hc;simpa using h c hc
theorem lG(x:Rat):tN (aX x)=Lib.itoa x.num/\tD (aX x)=Lib.itoa (x.den:Int)/\cu (aX x)= !decide (x.den=1):=by
 unfold aX;by_cases h:x.den=1
 ·rw[if_pos h];have hs:=uL (AM x.num);refine⟨uj hs,?_,by rw[hs,h];rfl⟩;unfold tD;rw[hs,h,if_neg (by decide)];have h0: [49]=Lib.itoa ((1:Nat):Int):=by decide+kernel
  exact h0
 ·rw[if_neg h,List.append_assoc];obtain⟨h1,h2⟩:=Lv (b:=Lib.itoa (x.den:Int)) (AM x.num);rw[show [47]++Lib.itoa (x.den:Int)=47::Lib.itoa (x.den:Int) from rfl];refine⟨h1,?_,by rw[h2];simp[h]⟩;unfold tD;rw[if_pos h2];unfold tR;rw[h1,List.drop_append,List.drop_of_length_le (by omega)];simp
theorem df(x:Rat):bL (aX x)=x:=by
 obtain⟨h1,h2,_⟩:=lG x;unfold bL;rw[h1,h2,(bg _).2,(bg _).2];exact Rat.num_divInt_den x
theorem wC(x:Rat):dA (aX x)=gS x:=by
 obtain⟨h1,h2,h3⟩:=lG x;unfold dA;rw[h1,h2,(bg _).2,(bg _).2,if_neg,if_neg]
 ·unfold gS dx;by_cases h:dN x.num<=2000/\dN (x.den:Int)<=2000;·rw[if_neg (by omega),if_pos (decide_eq_true h)]
  ·rw[if_pos (by omega),if_neg (by simpa using h)]
 ·rintro⟨hs,h⟩;have hg:cJ x.num (x.den:Int)=1:=by
   rw[<- lp,Int.gcd_comm];have:=x.reduced;unfold Nat.Coprime at this;unfold Int.gcd;rw[Int.natAbs_natCast,this];rfl
  rw[h3] at hs;have h4: ¬x.den=1:=by simpa using hs
  have:=x.den_pos;rcases h with h|h;·omega
  ·exact h hg
 ·rintro(h|h);·exact(bg x.num).1 h
  ·exact(bg (x.den:Int)).1 h
theorem iV{x:Rat}:gS x=0↔dx x=true:=by
 unfold gS;split;·rename_i h;simp[h]
 ·rename_i h;simp[h]
theorem wD{q:List UInt8}(h:dA q=0)(hl:q.length<=QL):aX (bL q)=q/\dx (bL q)=true:=by
 have hr:RQ q:=⟨by rw[h];decide,hl⟩;obtain⟨p1,p2⟩:=hr.parts;obtain⟨f1,f2,_⟩:=hr.form;have hc:=hr.chk;rw[h] at hc;constructor
 ·unfold aX;cases hs:cu q
  ·(have e:tD q= [49]:=by unfold tD;rw[hs];rfl);rw[e,nL] at p2;rw[if_pos (by omega),p1,uj hs];rw[uj hs] at f1;exact jU f1
  ·have h5: ¬ao (tD q)<=1:=by
    (intro hle;unfold dA at h;split at h;·exact absurd h (by decide));·rw[if_pos ⟨hs, .inl hle⟩] at h;exact absurd h (by decide)
   rw[if_neg (by omega),p1,p2,jU f1,jU f2];have h6:=lA hs;rw[if_pos hs] at h6;rw[<- h6];have hcut:∀ q:List UInt8,cu q=true->tN q++ [47]++tR q=q:=by
    intro q hq;induction q with
    |nil=>simp[cu] at hq
    |cons c l ih=>
     by_cases hc:c=47
     ·subst hc;simp[tN,tR]
     ·(have h2:cu l=true:=by simpa [cu,hc] using hq);(have h3:tN (c::l)=c::tN l:=by simp[tN,hc]);(have h4:tR (c::l)=tR l:=by unfold tR;rw[h3];simp);rw[h3,h4];have:=ih h2;simpa using this
   exact hcut q hs
 ·unfold dx;rw[decide_eq_true_eq,p1,p2];split at hc;·exact absurd hc (by decide)
  ·omega
theorem eT{x:Rat}:aX x= [48]↔x=0:=by
 have h0:aX 0= [48]:=by decide+kernel
 constructor;·intro h;have:=df x;rw[h,<- h0,df] at this;exact this.symm
 ·rintro rfl;exact h0
def txP(l:List Rat):List (List UInt8):=l.map aX
def mM(l:List Rat):Bool:=l.all dx
theorem oT(l:List Rat):dO (aI l)=mM l:=by
 unfold dO mM aI;rw[List.all_map];congr 1;funext x;simp[aL]
theorem cm(l:List Rat):(txP l).length=l.length:=by simp[txP]
theorem Fu(l:List Rat):(txP l).map bL=l:=by
 unfold txP;rw[List.map_map];conv=>rhs;rw[<- List.map_id l]
 exact List.map_congr_left fun x _=>df x
theorem AN{l:List Rat}(h:l≠ []):(txP l).getLastD []=aX (aH l):=by
 unfold txP aH;rw[List.getLastD_eq_getLast?,List.getLastD_eq_getLast?,List.getLast?_map,List.getLast?_eq_some_getLast h];rfl
theorem Fv(l:List Rat):(txP l).all (fun q=>decide (dA q=0))=mM l:=by
 unfold txP mM;rw[List.all_map];congr 1;funext x;simp only[Function.comp,wC];rw[Bool.eq_iff_iff,decide_eq_true_iff,iV]
theorem Fw{l:List Rat}(hl:l.length<=41)(ht:Trm l)(hf:mM l=true):cV (txP l)=0/\bm (txP l)=l:=by
 have hc:cV (txP l)=0:=by
  unfold cV;rw[if_neg (by rw[cm];omega),if_neg (by rw[Fv,hf];decide),if_neg];rintro⟨h1,h2⟩;have hn:l≠ []:=fun e=>h1 (by rw[e];rfl);rw[AN hn,eT] at h2;exact ht hn h2
 refine⟨hc,?_⟩;unfold bm;rw[if_pos hc,Fu]
theorem NZ{p:List (List UInt8)}(hs:dm p)(h:cV p=0):txP (bm p)=p/\(bm p).length<=41/\Trm (bm p)/\mM (bm p)=true:=by
 unfold cV at h;split at h;·exact absurd h (by decide)
 rename_i h1;split at h;·exact absurd h (by decide)
 rename_i h2;split at h;·exact absurd h (by decide)
 rename_i h3;have h2:p.all (fun q=>decide (dA q=0))=true:=by simpa using h2
 have hn:bm p=p.map bL:=by
  unfold bm;rw[if_pos];unfold cV;rw[if_neg h1,if_neg (by rw[h2];decide),if_neg h3]
 have ht:txP (p.map bL)=p:=by
  unfold txP;rw[List.map_map];conv=>rhs;rw[<- List.map_id p]
  rw[List.all_eq_true] at h2;exact List.map_congr_left fun q hq=>(wD (by simpa using h2 q hq) (hs.2 q hq)).1
 rw[hn];refine⟨ht,by rw[List.length_map];omega,fun hne hl=>h3 ⟨fun e=>hne (by rw[e];rfl),?_⟩,?_⟩;·rw[<- ht,AN hne,eT];exact hl
 ·rw[<- Fv,ht,h2]
theorem yo{n:Int}{k:Nat}(h:lw n<=k)(hk:9*k+1<=2000):dN n<=2000:=by
 have h1:=p7 h;rw[Ns] at h1;have h0:=pV n;rw[et];have h2:n.natAbs<10^(9*k):=by
  have:=tV n h;rw[Ns] at this;omega
 have:=x9 h2;omega
theorem nO{x:Rat}(h:lq x<=222):dx x=true:=by
 have:=dJ x;have:=dk x;exact decide_eq_true ⟨yo (k:=222) (by omega) (by omega),yo (k:=222) (by omega) (by omega)⟩
theorem Lw{l:List Rat}{b:Nat}(h:Den b l)(hb:b<=222):mM l=true:=by
 unfold mM;rw[List.all_eq_true];exact fun x hx=>nO (Nat.le_trans (h.lq x hx) hb)
structure Pol (l:List Rat):Prop where
 len:l.length<=41
 trm:Trm l
 fit:mM l=true
theorem Pol.chk{l:List Rat}(h:Pol l):cV (txP l)=0:=(Fw h.len h.trm h.fit).1
theorem Pol.num{l:List Rat}(h:Pol l):bm (txP l)=l:=(Fw h.len h.trm h.fit).2
theorem oU{x:Rat}{k:Nat}(h:lq x<=k):(aX x).length<=18*k+5:=by
 have h1:=fk x.num;have h2:=fk (x.den:Int);have:=dJ x;have:=dk x;unfold aX;split;·omega
 ·simp only[List.length_append,List.length_cons,List.length_nil];omega
theorem Lx{n:Int}{K:Nat}(hn:((Lib.decDigits n.natAbs).length:Int)<=(K:Int)):lw n<=K:=by
 refine kL ?_;obtain⟨d1,d2,_,_⟩:=kk n.natAbs;have h2:=gP d1;rw[d2] at h2;have h3:(10:Nat)^(Lib.decDigits n.natAbs).length<=10^K:=Nat.pow_le_pow_right (by omega) (by omega);have h4:(10:Nat)^K<=1000000000^K:=Nat.pow_le_pow_left (by omega) _;have h5:(LB^K:Int)=((1000000000^K:Nat):Int):=by rw[Int.natCast_pow];rfl
 rw[h5];exact_mod_cast Nat.lt_of_lt_of_le h2 (Nat.le_trans h3 h4)
theorem yp{x:Rat}(h:dx x=true):lq x<=2000:=by
 unfold dx at h;rw[decide_eq_true_eq,et,et] at h;exact Nat.max_le.2 ⟨Lx h.1,Lx h.2⟩
theorem Pol.lq{l:List Rat}(h:Pol l):∀ x∈l,lq x<=2000:=by
 have:=h.fit;unfold mM at this;rw[List.all_eq_true] at this;exact fun x hx=>yp (this x hx)
theorem Pol.short{l:List Rat}(h:Pol l):dm (txP l):=by
 have e:QL=1000000000:=rfl;refine⟨by rw[cm];have:=h.len;omega,fun q hq=> ?_⟩;obtain⟨x,hx,rfl⟩:=List.mem_map.1 hq;have:=oU (h.lq x hx);omega
theorem mf:Pol []:=⟨by simp,me,rfl⟩
theorem oV{l m:List Rat}(hl:Pol l)(hm:Pol m):bY [txP l,txP m]=0:=by
 simp only[bY,hl.chk,hm.chk,if_true]
theorem lH{f:List Rat->List Rat->List Rat}{l m:List Rat}(hl:Pol l)(hm:Pol m){r:List Rat}(hr:aS (f l m)=r)(hp:Pol r):c6 f (txP l) (txP m)=txP r/\cZ f (txP l) (txP m)=0:=by
 have he:cw r=0:=by
  unfold cw;rw[if_neg (by have:=hp.len;omega),if_pos (by rw[oT];exact hp.fit)]
 unfold c6 cZ;rw[if_pos (oV hl hm),if_pos (oV hl hm),hl.num,hm.num,hr];unfold ij;rw[if_pos he];exact⟨rfl,he⟩
theorem iW{D:List ND->List ND->Prop}{f:List Rat->List Rat->List Rat}{l m:List Rat}(hl:Pol l)(hm:Pol m)(hD:D (aI l) (aI m))(hs:∀ x∈f l m,Cm.lq x<=QC)(hn:(f l m).length<=QL):bS D f (txP l) (txP m):=by
 refine⟨hl.short,hm.short,fun _=> ?_⟩;rw[hl.num,hm.num];exact⟨hD,fx hs,hn⟩
theorem Pol.enc_ok{l:List Rat}{k:Nat}(h:Pol l)(hk:2000<=k):Sz k (aI l):=fx fun x hx=>Nat.le_trans (h.lq x hx) hk
theorem N0{l m:List Rat}(hl:Pol l)(hm:Pol m):bS (fun p q=>Sz QH p/\Sz QH q/\p.length<=1000/\q.length<=1000) (bl (· + ·)) (txP l) (txP m):=by
 have e1:QH=40000000000:=rfl;have e2:QL=1000000000:=rfl;have h1:=hl.len;have h2:=hm.len;have hs1:=hl.enc_ok (k:=QH) (by omega);have hs2:=hm.enc_ok (k:=QH) (by omega);refine iW hl hm ⟨hs1,hs2,by rw[aE];omega,by rw[aE];omega⟩ ?_ (by have:=e9 (· + ·) l m;omega);intro x hx;have h3:=ye Au hs1 hs2 (max l.length m.length);rw[aK,aK] at h3;have h4:=iH x hx;have h5:=(h3 (bk x) (List.mem_map.2 ⟨x,h4,rfl⟩)).2;rwa [aL] at h5
theorem N1{l m:List Rat}(hl:Pol l)(hm:Pol m):bS (fun p q=>Sz QH p/\Sz QH q/\p.length<=1000/\q.length<=1000) (bl (· - ·)) (txP l) (txP m):=by
 have e1:QH=40000000000:=rfl;have e2:QL=1000000000:=rfl;have h1:=hl.len;have h2:=hm.len;have hs1:=hl.enc_ok (k:=QH) (by omega);have hs2:=hm.enc_ok (k:=QH) (by omega);refine iW hl hm ⟨hs1,hs2,by rw[aE];omega,by rw[aE];omega⟩ ?_ (by have:=e9 (· - ·) l m;omega);intro x hx;have h3:=ye Av hs1 hs2 (max l.length m.length);rw[aK,aK] at h3;have h4:=iH x hx;have h5:=(h3 (bk x) (List.mem_map.2 ⟨x,h4,rfl⟩)).2;rwa [aL] at h5
theorem Fx{l m:List Rat}(hl:Pol l)(hm:Pol m):bS (fun p q=>Sz QM p/\Sz QM q/\p.length<=100/\q.length<=100) bh (txP l) (txP m):=by
 have e1:QM=400000000:=rfl;have e2:QL=1000000000:=rfl;have e3:QC=100000000000:=rfl;have h1:=hl.len;have h2:=hm.len;refine iW hl hm ⟨hl.enc_ok (by omega),hm.enc_ok (by omega),by rw[aE];omega,by rw[aE];omega⟩ ?_ (by have:=uE l m;omega);intro x hx;unfold bh at hx;split at hx;·simp at hx
 ·have h3:=K8 (K:=2000) (fun n=>kM hl.lq (by omega) n) (fun n=>kM hm.lq (by omega) n) l.length (Nat.le_refl _) x hx;have h4:l.length*(2*2000+1)<=41*(2*2000+1):=Nat.mul_le_mul_right _ h1;omega
def dvE(p q:List (List UInt8)):Int:=
 if bY [p,q]=0 then
  if bm q= [] then 2
  else if cw (aS (divN (bm p) (bm q)).1)=0 then cw (aS (divN (bm p) (bm q)).2) else cw (aS (divN (bm p) (bm q)).1)
 else bY [p,q]
def dvS(p q:List (List UInt8)):List (List UInt8):=if dvE p q=0 then ij (aS (divN (bm p) (bm q)).1) else []
def dvR(p q:List (List UInt8)):List (List UInt8):=if dvE p q=0 then ij (aS (divN (bm p) (bm q)).2) else []
structure uM (p q:List (List UInt8)):Prop where
 sp:dm p
 sq:dm q
 ok:bY [p,q]=0->bm q≠ []->fG (aI (bm p)) (aI (bm q))/\(Sz QC (aI (divN (bm p) (bm q)).1)/\(aI (divN (bm p) (bm q)).1).length<=QL)/\(Sz QC (aI (divN (bm p) (bm q)).2)/\(aI (divN (bm p) (bm q)).2).length<=QL)
theorem Ly{p q:List (List UInt8)}(h: ¬bY [p,q]=0): []=dvS p q/\ []=dvR p q/\bY [p,q]=dvE p q:=by
 have e:dvE p q=bY [p,q]:=if_neg h;refine⟨?_,?_,e.symm⟩;·unfold dvS;rw[if_neg (by rw[e];exact h)]
 ·unfold dvR;rw[if_neg (by rw[e];exact h)]
theorem Lz{p q:List (List UInt8)}(h:bY [p,q]=0)(h2:(aI (bm q)).length=0): []=dvS p q/\ []=dvR p q/\2=dvE p q:=by
 have hq:bm q= []:=by rw[aE] at h2;exact List.eq_nil_of_length_eq_zero h2
 have e:dvE p q=2:=by unfold dvE;rw[if_pos h,if_pos hq]
 refine⟨?_,?_,e.symm⟩;·unfold dvS;rw[if_neg (by rw[e];decide)]
 ·unfold dvR;rw[if_neg (by rw[e];decide)]
theorem N2{q:List (List UInt8)}(h2: ¬ (aI (bm q)).length=0):bm q≠ []:=by
 intro h;rw[h] at h2;exact h2 rfl
theorem N3{p q:List (List UInt8)}(h:bY [p,q]=0)(h2:bm q≠ [])(h3: ¬cw (aS (divN (bm p) (bm q)).1)=0): []=dvS p q/\ []=dvR p q/\cw (aS (divN (bm p) (bm q)).1)=dvE p q:=by
 have e:dvE p q=cw (aS (divN (bm p) (bm q)).1):=by unfold dvE;rw[if_pos h,if_neg h2,if_neg h3]
 refine⟨?_,?_,e.symm⟩;·unfold dvS;rw[if_neg (by rw[e];exact h3)]
 ·unfold dvR;rw[if_neg (by rw[e];exact h3)]
theorem LA{p q:List (List UInt8)}(h:bY [p,q]=0)(h2:bm q≠ [])(h3:cw (aS (divN (bm p) (bm q)).1)=0):dvE p q=cw (aS (divN (bm p) (bm q)).2):=by
 unfold dvE;rw[if_pos h,if_neg h2,if_pos h3]
theorem N4{p q:List (List UInt8)}(h:bY [p,q]=0)(h2:bm q≠ [])(h3:cw (aS (divN (bm p) (bm q)).1)=0)(h4: ¬cw (aS (divN (bm p) (bm q)).2)=0): []=dvS p q/\ []=dvR p q/\cw (aS (divN (bm p) (bm q)).2)=dvE p q:=by
 have e:=LA h h2 h3;refine⟨?_,?_,e.symm⟩;·unfold dvS;rw[if_neg (by rw[e];exact h4)]
 ·unfold dvR;rw[if_neg (by rw[e];exact h4)]
theorem N5{p q:List (List UInt8)}(h:bY [p,q]=0)(h2:bm q≠ [])(h3:cw (aS (divN (bm p) (bm q)).1)=0)(h4:cw (aS (divN (bm p) (bm q)).2)=0):
  ij (aS (divN (bm p) (bm q)).1)=dvS p q/\ij (aS (divN (bm p) (bm q)).2)=dvR p q/\0=dvE p q:=by
 have e:=LA h h2 h3;rw[h4] at e;refine⟨?_,?_,e.symm⟩;·unfold dvS;rw[if_pos e]
 ·unfold dvR;rw[if_pos e]
def nP(p q:List (List UInt8)):Prop:=cV p=0/\cV q=0/\0<p.length/\0<q.length/\40<(p.length-1)*(q.length-1)
instance (p q:List (List UInt8)):Decidable (nP p q):=by unfold nP;infer_instance
def wE(p q:List (List UInt8)):Int:=if nP p q then 3 else cZ kO p q
def wF(p q:List (List UInt8)):List (List UInt8):=if nP p q then [] else c6 kO p q
structure yq (p q:List (List UInt8)):Prop where
 sp:dm p
 sq:dm q
 ok: ¬nP p q->bS ym kO p q
theorem Ii{p q:List (List UInt8)}(hp:cV p=0)(hq:cV q=0)(h1:0<p.length)(h2:0<q.length):IntKind.i64.wrap (IntKind.i64.wrap ((p.length:Int)-1)*IntKind.i64.wrap ((q.length:Int)-1))=(((p.length-1)*(q.length-1):Nat):Int):=by
 have k1:p.length<=41:=by
  unfold cV at hp;split at hp;·exact absurd hp (by decide)
  ·omega
 have k2:q.length<=41:=by
  unfold cV at hq;split at hq;·exact absurd hq (by decide)
  ·omega
 rw[cp (by omega),cp (by omega)];have e1:(p.length:Int)-1=((p.length-1:Nat):Int):=by omega
 have e2:(q.length:Int)-1=((q.length-1:Nat):Int):=by omega
 rw[e1,e2,<- Int.natCast_mul];have h3:(p.length-1)*(q.length-1)<=40*40:=Nat.mul_le_mul (by omega) (by omega);generalize (p.length-1)*(q.length-1)=n at*;exact wi (by omega) (by omega)
theorem LC{p q:List (List UInt8)}{b:Bool}(h:(cV p==0&&cV q==0&&decide ((0:Int)<(p.length:Int))&&decide ((0:Int)<(q.length:Int))&&decide ((40:Int)<IntKind.i64.wrap (IntKind.i64.wrap ((p.length:Int)-1)*IntKind.i64.wrap ((q.length:Int)-1))))=b):decide (nP p q)=b:=by
 rw[<- h];clear h;unfold nP;by_cases h1:cV p=0
 ·by_cases h2:cV q=0
  ·by_cases h3:0<p.length
   ·by_cases h4:0<q.length
    ·rw[Ii h1 h2 h3 h4,Bool.eq_iff_iff];simp only[h1,h2,h3,h4,true_and,decide_eq_true_eq,Bool.and_eq_true,beq_self_eq_true];generalize (p.length-1)*(q.length-1)=n;omega
    ·(have: ¬ (0:Int)<(q.length:Int):=by omega);simp[h4]
   ·(have: ¬ (0:Int)<(p.length:Int):=by omega);simp[h3]
  ·simp[h2]
 ·simp[h1]
theorem PR{p q:List (List UInt8)}(h:nP p q): []=wF p q/\3=wE p q:=by
 unfold wF wE;rw[if_pos h,if_pos h];exact⟨rfl,rfl⟩
theorem PS{p q:List (List UInt8)}(h: ¬nP p q):c6 kO p q=wF p q/\cZ kO p q=wE p q:=by
 unfold wF wE;rw[if_neg h,if_neg h];exact⟨rfl,rfl⟩
def evE(p:List (List UInt8))(x:List UInt8):Int:=if bY [p]=0 then if dA x=0 then gS (ak (bm p) (bL x)) else dA x else bY [p]
def evS(p:List (List UInt8))(x:List UInt8):List UInt8:=if evE p x=0 then aX (ak (bm p) (bL x)) else []
structure p9 (p:List (List UInt8)) (x:List UInt8):Prop where
 sp:dm p
 sx:x.length<=QL
 ok:bY [p]=0->dA x=0->Sz QM (aI (bm p))/\(bm p).length<=100/\lq (bL x)<=QM/\lq (ak (bm p) (bL x))<=QC
theorem LD{p:List (List UInt8)}(h:bY [p]=0):ig [p]= [aI (bm p)]:=by
 unfold ig;rw[if_pos h];rfl
theorem QF{p:List (List UInt8)}(h:bY [p]=0):nth (.slice NT) (ig [p]) 0=aI (bm p):=by rw[LD h];rfl
theorem PT{p:List (List UInt8)}(h:bY [p]=0):(ig [p]).length=1:=by rw[LD h];rfl
theorem LF{p:List (List UInt8)}{x:List UInt8}(h:p9 p x): [p].length<=1000/\∀ y∈ [p],dm y:=
 ⟨by simp,fun y hy=>by rw[List.mem_singleton] at hy;subst hy;exact h.sp⟩
theorem PU{p:List (List UInt8)}{x:List UInt8}(h: ¬bY [p]=0): []=evS p x/\bY [p]=evE p x:=by
 have e:evE p x=bY [p]:=if_neg h;exact⟨by unfold evS;rw[if_neg (by rw[e];exact h)],e.symm⟩
theorem N6{p:List (List UInt8)}{x:List UInt8}(h:bY [p]=0)(h2: ¬dA x=0): []=evS p x/\dA x=evE p x:=by
 have e:evE p x=dA x:=by unfold evE;rw[if_pos h,if_neg h2]
 exact⟨by unfold evS;rw[if_neg (by rw[e];exact h2)],e.symm⟩
theorem PV{p:List (List UInt8)}{x:List UInt8}(h:bY [p]=0)(h2:dA x=0)(h3:dx (ak (bm p) (bL x))=false): []=evS p x/\6=evE p x:=by
 have e:evE p x=6:=by unfold evE;rw[if_pos h,if_pos h2];unfold gS;rw[h3];rfl
 exact⟨by unfold evS;rw[if_neg (by rw[e];decide)],e.symm⟩
theorem N7{p:List (List UInt8)}{x:List UInt8}(h:bY [p]=0)(h2:dA x=0)(h3:dx (ak (bm p) (bL x))=true):aX (ak (bm p) (bL x))=evS p x/\0=evE p x:=by
 have e:evE p x=0:=by unfold evE;rw[if_pos h,if_pos h2];unfold gS;rw[h3];rfl
 exact⟨by unfold evS;rw[if_pos e],e.symm⟩
theorem LG{p:List Rat}{x:Rat}{y:List UInt8}(c1:gu y)(k1:Sz QM (aI p))(k2:p.length<=100)(k3:lq x<=QM)(k4:lq (ak p x)<=QC):
  ((0:Int)<=0/\(0:Int)<((1:Nat):Int))/\gu y/\(Sz QM (aI p)/\(aI p).length<=100/\NOK (bk x)/\lq x<=QM)/\1<QL/\∀ z:ND,z∈ [bk (ak p x)]->NOK z/\lq (bG z)<=QC:=by
 refine⟨by decide,c1,⟨k1,by rw[aE];exact k2,b4 _,k3⟩,by unfold QL;decide,fun z hz=> ?_⟩;rw[List.mem_singleton] at hz;subst hz;rw[aL];exact⟨b4 _,k4⟩
theorem Ij{x:Rat}(h:dO [bk x]=true)(y:List UInt8):(0:Int)<=0/\(0:Int)<((if dO [bk x]=true then [y] else []).length:Int):=by
 rw[if_pos h];simp
theorem N8{p:List (List UInt8)}{x:List UInt8}(h:bY [p]=0)(h2:dA x=0)(h3:dx (ak (bm p) (bL x))=true):nth Ty.str (if dx (ak (bm p) (bL x))=true then [aX (ak (bm p) (bL x))] else []) 0=evS p x/\0=evE p x:=by
 rw[if_pos h3];exact N7 h h2 h3
theorem AO(q:Rat):dO [bk q]=dx q:=by unfold dO;simp[aL]
structure Sml (n b:Nat) (l:List Rat):Prop where
 len:l.length<=n
 trm:Trm l
 den:Den b l
theorem Sml.pol{n b:Nat}{l:List Rat}(h:Sml n b l)(hn:n<=41)(hb:b<=222):Pol l:=⟨Nat.le_trans h.len hn,h.trm,Lw h.den hb⟩
theorem Sml.mul{n m k b c:Nat}{l l2:List Rat}(h:Sml n b l)(h2:Sml m c l2)(hn:n<1000)(hk:n+m<=k+1)(hm:1<=m)(hn1:1<=n):Sml k (b+c+1) (bh l l2):=by
 refine⟨?_,eg h.trm h2.trm,den_mul h.den h2.den (by have:=h.len;omega)⟩;by_cases h3:l= [];·rw[h3,dB];simp
 by_cases h4:l2= []
 ·rw[h4,di];simp
 rw[cj h3 h4];have:=h.len;have:=h2.len;omega
theorem Sml.add{n m b c:Nat}{l l2:List Rat}(h:Sml n b l)(h2:Sml m c l2):Sml (max n m) (b+c+1) (bl (· + ·) l l2):=
 ⟨by have:=e9 (· + ·) l l2;have:=h.len;have:=h2.len;omega,e8 _ _ _,den_add h.den h2.den⟩
theorem Sml.sub{n m b c:Nat}{l l2:List Rat}(h:Sml n b l)(h2:Sml m c l2):Sml (max n m) (b+c+1) (bl (· - ·) l l2):=
 ⟨by have:=e9 (· - ·) l l2;have:=h.len;have:=h2.len;omega,e8 _ _ _,NY h.den h2.den⟩
theorem N9{n b m c:Nat}{p q:List Rat}(hp:Sml n b p)(hq:Sml m c q)(hn:n<=41)(hm:m<=41)(hb:b<=200)(hc:c<=200)(h0:q≠ []){s r:List Rat}(ps:Pol s)(pr:Pol r)(hl:r.length<q.length)
  (h:∀ x,ak s x*ak q x+ak r x=ak p x):uM (txP p) (txP q)/\dvE (txP p) (txP q)=0/\dvS (txP p) (txP q)=txP s/\dvR (txP p) (txP q)=txP r:=by
 have e1:QD=10000000000:=rfl;have e2:QC=100000000000:=rfl;have e3:QL=1000000000:=rfl;have pp:=hp.pol hn (by omega);have pq:=hq.pol hm (by omega);have hlp:=hp.len;have hlq:=hq.len;have hbd:b+(p.length+1-q.length)*(c+1)<=10000:=by
  have:(p.length+1-q.length)*(c+1)<=42*201:=Nat.mul_le_mul (by omega) (by omega);omega
 obtain⟨u1,u2⟩:=p6 h0 hp.trm hq.trm ps.trm pr.trm hl h;obtain⟨k1,k2⟩:=qz (K:=10000) hp.den hq.den h0 hq.trm hbd (by omega);have hok:fG (aI p) (aI q):=DZ (b:=b) (c:=c) (ix _) (ix _) (by rw[aK];exact hp.den) (by rw[aK];exact hq.den) (by rw[aE];omega) (by rw[aE];omega)
  (by rw[aE];exact List.length_pos_iff.2 h0) (by rw[aK];exact hq.trm) (by rw[aE,aE];omega) (by omega)
 have t1:cw s=0:=by unfold cw;rw[if_neg (by have:=ps.len;omega),if_pos (by rw[oT];exact ps.fit)]
 have t2:cw r=0:=by unfold cw;rw[if_neg (by have:=pr.len;omega),if_pos (by rw[oT];exact pr.fit)]
 have hrt:aS (divN p q).2=r:=by rw[u2,jW pr.trm]
 have hc2:=oV pp pq;have hE:dvE (txP p) (txP q)=0:=by
  unfold dvE;rw[if_pos hc2,pp.num,pq.num,if_neg h0,u1,hrt,if_pos t1,t2]
 refine⟨⟨pp.short,pq.short,fun _ _=> ?_⟩,hE,?_,?_⟩
 ·rw[pp.num,pq.num];refine⟨hok,⟨fx fun x hx=> ?_,?_⟩,k2.sz (by omega),?_⟩;·have:=k1 x hx;omega
  ·rw[aE,iG];omega
  ·rw[aE,u2];have:=pr.len;omega
 ·unfold dvS;rw[if_pos hE,pp.num,pq.num,u1];unfold ij;rw[if_pos t1];rfl
 ·unfold dvR;rw[if_pos hE,pp.num,pq.num,hrt];unfold ij;rw[if_pos t2];rfl
theorem LH{q:List Rat}:(((txP q).length:Nat):Int)=0↔q= []:=by
 rw[cm];constructor;·intro h;exact List.eq_nil_of_length_eq_zero (by omega)
 ·intro h;rw[h];rfl
theorem PW{l:List Rat}(h:Pol l):(txP l).length<=QL:=by
 rw[cm];have:=h.len;unfold QL;omega
theorem nQ{K:Nat}(hK:1<=K):∀ l:List Rat,(∀ x∈l,lq x<=K)->Den (l.length*K+1) l
 | [],_=>ku (by omega)
 |a::l,h=>by
  obtain⟨D,d1,d2,d3⟩:=nQ hK l fun x hx=>h x (List.mem_cons_of_mem _ hx);have ha:=h a (List.mem_cons_self ..);have h1:=dJ a;have h2:=dk a;have e:(a::l).length*K+1=l.length*K+1+K:=by rw[List.length_cons,Nat.add_mul];omega
  refine⟨D*a.den,Int.mul_ne_zero d1 (dK a),by rw[e];have:=bW D a.den;omega,fun i=> ?_⟩;cases i with
  |zero=>
   refine⟨a.num*D,by rw[e];have:=bW a.num D;omega,?_⟩;(have e1:cf (a::l) 0=a:=by simp[cf]);rw[e1,Int.mul_comm D,Rat.divInt_mul_right d1];exact(Rat.num_divInt_den a).symm
  |succ i=>
   obtain⟨n,n1,n2⟩:=d3 i;refine⟨n*a.den,by rw[e];have:=bW n a.den;omega,?_⟩;(have e1:cf (a::l) (i+1)=cf l i:=by simp[cf]);rw[e1,n2,Rat.divInt_mul_right (dK a)]
theorem PX{l:List Rat}{n K:Nat}(hn:l.length<=n)(ht:Trm l)(hK:1<=K)(h:∀ x∈l,lq x<=K):Sml n (n*K+1) l:=
 ⟨hn,ht,(nQ hK l h).mono (by have:=Nat.mul_le_mul_right K hn;omega)⟩
theorem qA{n b m c:Nat}{l q:List Rat}(hl:Sml n b l)(hq:Sml m c q)(pl:Pol l)(pq:Pol q)(hb:(max b c+1)*(n+2)*3^m<=QD):bS iS bJ (txP l) (txP q)/\iS (aI l) (aI q)/\Den ((max b c+1)*(n+2)*3^m) (bJ l q):=by
 have e1:QD=10000000000:=rfl;have e2:QC=100000000000:=rfl;have e3:QL=1000000000:=rfl;have hll:=hl.len;have hlq:=hq.len;have pl1:=pl.len;have pq1:=pq.len;have hbd:(max b c+1)*(l.length+1-q.length+1)*3^q.length<=QD:=by
  refine Nat.le_trans (Nat.mul_le_mul (Nat.mul_le_mul (Nat.le_refl _) (by omega:_<=n+2)) (Nat.pow_le_pow_right (by omega) hlq)) hb
 obtain⟨g1,g2⟩:=PP (p:=aI l) (q:=aI q) (b:=max b c) (ix _) (ix _) (by rw[aK];exact hl.den.mono (by omega)) (by rw[aK];exact hq.den.mono (by omega)) (by rw[aE];omega) (by rw[aE];omega) (by rw[aK];exact hl.trm) (by rw[aK];exact hq.trm) (by rw[aE,aE];exact hbd);rw[aK,aK,aE,aE] at g2;have g2:=g2.mono (Nat.le_refl _);refine⟨iW pl pq g1 (fun x hx=>by have:=g2.lq x hx;omega) ?_,g1,g2.mono (Nat.mul_le_mul (Nat.mul_le_mul (Nat.le_refl _) (by omega:_<=n+2)) (Nat.pow_le_pow_right (by omega) hlq))⟩;have key:∀ (k:Nat) (a b:List Rat),a.length<=900->b.length<=900->Trm b->(de k a b).length<=900:=by
  intro k;induction k with
  |zero=>intro a b ha _ _;rw[de,b5];exact ha
  |succ k ih=>
   intro a b ha hb tb;rw[de];split;·rw[b5];exact ha
   ·rename_i hne;by_cases hta:Trm a;·have:=dW (p:=a) (List.length_pos_iff.2 hne) (tb hne);exact ih _ _ hb (by rw[b5];omega) (dn (eZ hta))
    ·have h3:=dW (p:=a) (List.length_pos_iff.2 hne) (tb hne);have:∀ (k:Nat) (a b:List Rat),a.length<=900->b.length<=900->(de k a b).length<=900:=by
      intro k;induction k with
      |zero=>intro a b ha _;rw[de,b5];exact ha
      |succ k ih2=>
       intro a b ha hb;rw[de];split;·rw[b5];exact ha
       ·refine ih2 _ _ hb ?_;rw[b5];have hlen:∀ (q:List Rat) (n:Nat) (r s:List Rat),(fb q n r s).2.length<=r.length:=by
         intro q n;induction n with
         |zero=>intro r s;exact Nat.le_refl _
         |succ n ih3=>
          (intro r s;rw[fb];split;·have h5:=ih3 (aS (cC q r)) (s.set (r.length-q.length) (aH r/aH q));have h6:=eu (cC q r);rw[eQ] at h6;omega);·exact Nat.le_refl _
        have:=hlen b (a.length+1) a (List.replicate (a.length+1-b.length) 0);unfold divN;omega
     exact this _ _ _ hb (by rw[b5];omega)
 have:=key (q.length+1) l q (by omega) (by omega) hq.trm;unfold bJ;omega
theorem gM(l:List Rat):(aZ l).length=l.length-1:=by unfold aZ lC;simp
theorem PY{l:List Rat}{i:Nat}(h:i<l.length-1):cf (aZ l) i=cf l (i+1)*((i+1:Nat):Rat):=by
 unfold aZ lC;conv=>lhs;unfold cf
 rw[List.getD_eq_getElem?_getD,List.getElem?_map,List.getElem?_range h];show cf l (i+1)*Rat.divInt ((i+1:Nat):Int) 1=_;rw[Rat.divInt_eq_div,Rat.intCast_natCast];rw[show ((1:Int):Rat)=1 from rfl];grind
theorem mg{l:List Rat}(h:Trm l):Trm (aZ l):=by
 intro hn;have h1:=List.length_pos_iff.2 hn;rw[gM] at h1;have h2:l≠ []:=fun e=>by rw[e] at h1;simp at h1
 have h3:=h h2;rw[bX (by omega)] at h3;rw[bX (by rw[gM];omega),gM,PY (by omega),show l.length-1-1+1=l.length-1 by omega];have h4:((l.length-1:Nat):Rat)≠0:=by
  intro e;have:(l.length-1:Nat)=0:=by exact_mod_cast e
  omega
 intro e;rcases Rat.mul_eq_zero.1 e with e|e;·exact h3 e
 ·exact h4 e
theorem Sml.der{n b:Nat}{l:List Rat}(h:Sml n b l)(hn:n<1000000000):Sml (n-1) (b+1) (aZ l):=
 ⟨by rw[gM];have:=h.len;omega,mg h.trm,Ft h.den (by have:=h.len;omega)⟩
theorem Fy{l:List Rat}(hl:Pol l):bS (fun p _=>Sz QH p/\p.length<=1000) (fun a _=>aZ a) (txP l) []:=by
 have e1:QH=40000000000:=rfl;have e2:QL=1000000000:=rfl;have e3:QC=100000000000:=rfl;have hln:=hl.len;refine iW (m:= []) hl mf ⟨hl.enc_ok (by omega),by rw[aE];omega⟩ ?_ (by show (aZ l).length<=_;rw[gM];omega);intro x hx;have hd:=Ft (nQ (K:=2000) (by omega) l hl.lq) (by omega);have:=hd.lq x hx;have h4:l.length*2000<=41*2000:=Nat.mul_le_mul_right _ hln;omega
theorem LI{l:List Rat}(hl:Pol l){x:Rat}(hx:dx x=true):p9 (txP l) (aX x):=by
 have e1:QM=400000000:=rfl;have e2:QL=1000000000:=rfl;have e3:QC=100000000000:=rfl;have hln:=hl.len;have hxl:=yp hx;refine⟨hl.short,by have:=oU hxl;omega,fun _ _=> ?_⟩;rw[hl.num,df];refine⟨hl.enc_ok (by omega),by omega,by omega,?_⟩;have h1:=yg hl.lq hxl;have h4:l.length*(2*2000+1)<=41*(2*2000+1):=Nat.mul_le_mul_right _ hln;omega
theorem LJ{l:List Rat}(hl:Pol l){x:Rat}(hx:dx x=true):evE (txP l) (aX x)=gS (ak l x)/\evS (txP l) (aX x)=lB (ak l x):=by
 have hc:bY [txP l]=0:=by unfold bY;rw[if_pos hl.chk];rfl
 have hq:dA (aX x)=0:=by rw[wC,iV];exact hx
 have e:evE (txP l) (aX x)=gS (ak l x):=by unfold evE;rw[if_pos hc,if_pos hq,hl.num,df]
 refine⟨e,?_⟩;unfold evS;rw[e,hl.num,df];unfold lB;by_cases h:dx (ak l x)=true;·rw[if_pos h,if_pos (iV.2 h)]
 ·rw[if_neg h,if_neg (fun e=>h (iV.1 e))]
theorem wG:∀ (n:Nat) (p q:List Rat),Trm p->Trm q->Trm (de n p q)
 |0,p,q,tp,tq=>by rw[de];exact dn tp
 |n+1,p,q,tp,tq=>by
  rw[de];split;·exact dn tp
  ·exact wG n _ _ tq (dn (eZ tp))
theorem lI{p q:List Rat}(tp:Trm p)(tq:Trm q):Trm (bJ p q):=wG _ _ _ tp tq
theorem uN(q:List Rat):∀ (n:Nat) (r s:List Rat),(fb q n r s).2.length<=r.length
 |0,r,s=>Nat.le_refl _
 |n+1,r,s=>by
  rw[fb];split;·have h5:=uN q n (aS (cC q r)) (s.set (r.length-q.length) (aH r/aH q));have h6:=eu (cC q r);rw[eQ] at h6;omega
  ·exact Nat.le_refl _
theorem wH:∀ (n:Nat) (p q:List Rat),(de n p q).length<=max p.length q.length
 |0,p,q=>by rw[de,b5];omega
 |n+1,p,q=>by
  rw[de];split;·rw[b5];omega
  ·have h1:=wH n q (cx (divN p q).2);have h2:=uN q (p.length+1) p (List.replicate (p.length+1-q.length) 0);rw[b5] at h1;unfold divN at h1 ⊢;omega
theorem uO(p q:List Rat):(bJ p q).length<=max p.length q.length:=wH _ _ _
theorem mh{l:List Rat}:cx l= []↔l= []:=by
 unfold cx;simp
theorem wI:∀ (n:Nat) (p q:List Rat),q.length<n->(p≠ []∨q≠ [])->de n p q≠ []
 |0,p,q,h,_=>absurd h (by omega)
 |n+1,p,q,h,hne=>by
  rw[de];split
  ·(rename_i hq;intro e;rw[mh] at e;rcases hne with h1|h1;·exact h1 e);·exact h1 hq
  ·rename_i hq;by_cases ht:(cx (divN p q).2).length<n;·exact wI n _ _ ht (.inl hq)
   ·
    have key:∀ (k:Nat) (a b:List Rat),a≠ []->de k a b≠ []:=by
     intro k;induction k with
     |zero=>intro a b ha e;rw[de,mh] at e;exact ha e
     |succ k ih=>
      (intro a b ha;rw[de];split;·intro e;rw[mh] at e;exact ha e);·rename_i hb;exact ih _ _ hb
    exact key n _ _ hq
theorem mi{p q:List Rat}(h:p≠ []∨q≠ []):bJ p q≠ []:=wI _ _ _ (Nat.lt_succ_self _) h
theorem PZ{n b c:Nat}{l:List Rat}(hl:Sml n b l)(pl:Pol l)(hg:iS (aI l) (aI (aZ l)))(dg:Den c (bJ l (aZ l)))(hK:b+(n+1)*(c+1)<=QD):kN (aI l)/\(∀ x∈(divN l (bJ l (aZ l))).1,lq x<=QD):=by
 have e1:QD=10000000000:=rfl;have e2:QH=40000000000:=rfl;have hll:=hl.len;have pl1:=pl.len;have hcK:c<=QD:=by
  have:1*(c+1)<=(n+1)*(c+1):=Nat.mul_le_mul_right _ (by omega);omega
 have hgl:=uO l (aZ l);rw[gM] at hgl;have tg:=lI hl.trm (mg hl.trm);have hq1:l≠ []->∀ x∈(divN l (bJ l (aZ l))).1,lq x<=QD:=by
  intro h;have hbd:b+(l.length+1-(bJ l (aZ l)).length)*(c+1)<=QD:=by
   have:(l.length+1-(bJ l (aZ l)).length)*(c+1)<=(n+1)*(c+1):=Nat.mul_le_mul_right _ (by omega);omega
  exact(qz hl.den dg (mi (.inl h)) tg hbd (by omega)).1
 refine⟨fun hne=> ?_,?_⟩
 ·have h:l≠ []:=fun e=>hne (by rw[e];rfl);rw[aK,aE];have hgn:=mi (q:=aZ l) (.inl h);have hbd:b+(l.length+1-(bJ l (aZ l)).length)*(c+1)<=QD:=by
   have:(l.length+1-(bJ l (aZ l)).length)*(c+1)<=(n+1)*(c+1):=Nat.mul_le_mul_right _ (by omega);omega
  refine⟨pl.enc_ok (by omega),by omega,hg,DZ (b:=b) (c:=c) (ix _) (ix _) (by rw[aK];exact hl.den) (by rw[aK];exact dg) (by rw[aE];omega) (by rw[aE];omega) (by rw[aE];exact List.length_pos_iff.2 hgn) (by rw[aK];exact tg) (by rw[aE,aE];exact hbd) hcK,?_⟩;refine⟨fx fun x hx=>by have:=hq1 h x hx;omega,by rw[aE,iG];omega,fun hq=> ?_⟩;rw[aK];have hlen:=iG l (bJ l (aZ l));have hsn:(divN l (bJ l (aZ l))).1≠ []:=fun e=>hq (by rw[e];rfl);have hgp:=List.length_pos_iff.2 hgn;have hlong:(bJ l (aZ l)).length<=l.length:=by omega
  intro h0;have hev:∀ x,ak (aS (divN l (bJ l (aZ l))).1) x*ak (bJ l (aZ l)) x+ak (divN l (bJ l (aZ l))).2 x=ak l x:=fun x=>by rw[eE];exact qy hgn tg x
  have hmul:bl (· + ·) (bh (aS (divN l (bJ l (aZ l))).1) (bJ l (aZ l))) (divN l (bJ l (aZ l))).2=l:=gJ (e8 _ _ _) hl.trm fun x=>by rw[ew,aR];exact hev x
  have hs:=dW (p:=l) hgp (tg hgn);have h1:=e9 (· + ·) (bh (aS (divN l (bJ l (aZ l))).1) (bJ l (aZ l))) (divN l (bJ l (aZ l))).2;rw[hmul] at h1;have h2:=pX (l:=(divN l (bJ l (aZ l))).1) (List.length_pos_iff.2 hsn) h0;by_cases hz:aS (divN l (bJ l (aZ l))).1= [];·rw[hz,dB] at h1;simp only[List.length_nil] at h1;omega
  ·rw[cj hz hgn] at h1;omega
 ·intro x hx;by_cases h:l= [];·subst h;(have e0:(divN [] (bJ [] (aZ []))).1= [0]:=by decide+kernel);rw[e0,List.mem_singleton] at hx;rw[hx];exact Nat.le_trans iw (by omega)
  ·exact hq1 h x hx
theorem Ik{l:List Rat}(h:∀ x∈(divN l (bJ l (aZ l))).1,lq x<=QD):∀ x∈bC l,lq x<=2*QD:=by
 intro x hx;unfold bC at hx;split at hx;·simp at hx
 ·obtain⟨y,hy,rfl⟩:=List.mem_map.1 hx;have h1:=h y hy;have h2:=yb y (aH (divN l (bJ l (aZ l))).1);have hp:0<(divN l (bJ l (aZ l))).1.length:=List.length_pos_of_mem hy;have h3:=h (aH (divN l (bJ l (aZ l))).1) (by rw[bX hp];exact oM (by omega));omega
theorem D7(l:List Rat):(bC l).length<=l.length+1:=by
 unfold bC;split;·simp
 ·rw[b5,iG];omega
theorem Fz{n b c:Nat}{l:List Rat}(hl:Sml n b l)(pl:Pol l)(hg:iS (aI l) (aI (aZ l)))(dg:Den c (bJ l (aZ l)))(hK:b+(n+1)*(c+1)<=QD):bS (fun p _=>kN p) (fun a _=>bC a) (txP l) []:=by
 have e1:QD=10000000000:=rfl;have e2:QC=100000000000:=rfl;have e3:QL=1000000000:=rfl;obtain⟨h1,h2⟩:=PZ hl pl hg dg hK;refine iW (m:= []) pl mf h1 (fun x hx=> ?_) ?_;·have:=Ik h2 x hx;omega
 ·show (bC l).length<=_;have:=D7 l;have:=pl.len;omega
theorem Oa{b:Nat}{l:List Rat}(h:Den b l)(i:Nat):Den b (aS [cf l i]):=by
 refine lF ?_;obtain⟨D,d1,d2,d3⟩:=h;refine⟨D,d1,d2,fun j=> ?_⟩;cases j with
 |zero=>obtain⟨n,n1,n2⟩:=d3 i;exact⟨n,n1,by rw[<- n2];simp[cf]⟩
 |succ j=>exact⟨0,by rw[iv];omega,by rw[Rat.zero_divInt,bE (by simp)]⟩
theorem AP{n b m c:Nat}{p q:List Rat}(hp:Sml n b p)(hq:Sml m c q)(hnm:n*m<=1000):∀ k,k<=n->Den (1+k*(b+c+2)) (ie p q k)/\(ie p q k).length<=1+k*m
 |0,_=>⟨ku (by omega),by simp[ie]⟩
 |k+1,hk=>by
  obtain⟨h1,h2⟩:=AP hp hq hnm k (by omega);have hkm:k*m<=n*m:=Nat.mul_le_mul_right _ (by omega);have hl:(ie p q k).length<1000000000:=by omega
  rw[ie,uD,Nat.add_mul,Nat.add_mul];refine⟨(den_add (den_mul h1 hq.den hl) (Oa hp.den _)).mono (by omega),?_⟩;have h3:=e9 (· + ·) (bh (ie p q k) q) (aS [cf p (p.length-1-k)]);have h4:=uE (ie p q k) q;have h5:=eu [cf p (p.length-1-k)];simp only[List.length_cons,List.length_nil] at h5;have h6:=hq.len;by_cases hz:ie p q k= [];·rw[hz,dB] at h3;simp only[List.length_nil] at h3;rw[hz,dB];omega
  ·omega
theorem LK{n b m c:Nat}{p q:List Rat}(hp:Sml n b p)(hq:Sml m c q)(pp:Pol p)(pq:Pol q)(hnm:n*m<=98)(hb:b<=100000)(hc:c<=100000)(hn:n<=98)(hm:m<=98):bS ym kO (txP p) (txP q):=by
 have e1:QM=400000000:=rfl;have e2:QC=100000000000:=rfl;have e3:QL=1000000000:=rfl;have e4:QH=40000000000:=rfl;have hlp:=hp.len;have hlq:=hq.len;have key:∀ k,k<=n->Den 19700000 (ie p q k)/\(ie p q k).length<=99:=by
  intro k hk;obtain⟨h1,h2⟩:=AP hp hq (by omega) k hk;have h3:k*(b+c+2)<=98*200002:=Nat.mul_le_mul (by omega) (by omega);have h4:k*m<=n*m:=Nat.mul_le_mul_right _ hk;exact⟨h1.mono (by omega),by omega⟩
 refine iW pp pq ⟨pp.enc_ok (by omega),by rw[aE];omega,fun k hk=> ?_⟩ ?_ ?_
 ·rw[aE] at hk ⊢;rw[aK,aK];obtain⟨h1,h2⟩:=key k (by omega);have h5:=den_mul h1 hq.den (by omega);refine⟨h1.sz (by omega),pq.enc_ok (by omega),by rw[aE];omega,by rw[aE];omega,b4 _,?_,?_⟩;·rw[aL];exact Nat.le_trans (kM pp.lq (by omega) _) (by omega)
  ·rw[aK,aK];exact h5.sz (by omega)
 ·intro x hx;have:=(key p.length (by omega)).1.lq x hx;omega
 ·have:=(key p.length (by omega)).2;show (ie p q p.length).length<=_;omega
def smB(n K:Nat)(p:List (List UInt8)):Bool:=decide (cV p=0)&&decide (p.length<=n)&&p.all (fun q=>decide (q.length<=10000))&&(bm p).all fun x=>decide (lq x<=K)
theorem cS{n K:Nat}{p:List (List UInt8)}(h:smB n K p=true)(hn:n<=41)(hK:1<=K):Pol (bm p)/\txP (bm p)=p/\Sml n (n*K+1) (bm p):=by
 unfold smB at h;simp only[Bool.and_eq_true,decide_eq_true_iff,List.all_eq_true] at h;obtain⟨⟨⟨h1,h2⟩,h3⟩,h4⟩:=h;have hs:dm p:=⟨by unfold QL;omega,fun q hq=>by have:=h3 q hq;unfold QL;omega⟩;obtain⟨t1,t2,t3,t4⟩:=NZ hs h1;have hl:(bm p).length=p.length:=by rw[<- t1,cm,t1]
 exact⟨⟨t2,t3,t4⟩,t1,PX (by omega) t3 hK h4⟩
theorem QG{n K:Nat}{p q:List (List UInt8)}(hp:smB n K p=true)(hq:smB n K q=true)(hn:n<=41:=by decide)(hK:1<=K:=by decide):bS (fun p q=>Sz QH p/\Sz QH q/\p.length<=1000/\q.length<=1000) (bl (· + ·)) p q:=by
 have h:=N0 (cS hp hn hK).1 (cS hq hn hK).1;rwa [(cS hp hn hK).2.1,(cS hq hn hK).2.1] at h
theorem QI{n K:Nat}{p q:List (List UInt8)}(hp:smB n K p=true)(hq:smB n K q=true)(hn:n<=41:=by decide)(hK:1<=K:=by decide):bS (fun p q=>Sz QH p/\Sz QH q/\p.length<=1000/\q.length<=1000) (bl (· - ·)) p q:=by
 have h:=N1 (cS hp hn hK).1 (cS hq hn hK).1;rwa [(cS hp hn hK).2.1,(cS hq hn hK).2.1] at h
theorem QJ{n K:Nat}{p q:List (List UInt8)}(hp:smB n K p=true)(hq:smB n K q=true)(hn:n<=41:=by decide)(hK:1<=K:=by decide):bS (fun p q=>Sz QM p/\Sz QM q/\p.length<=100/\q.length<=100) bh p q:=by
 have h:=Fx (cS hp hn hK).1 (cS hq hn hK).1;rwa [(cS hp hn hK).2.1,(cS hq hn hK).2.1] at h
theorem LL{n K:Nat}{p q:List (List UInt8)}(hp:smB n K p=true)(hq:smB n K q=true)(hb:(max (n*K+1) (n*K+1)+1)*(n+2)*3^n<=QD:=by decide)(hn:n<=41:=by decide)(hK:1<=K:=by decide):bS iS bJ p q:=by
 have h:=(qA (cS hp hn hK).2.2 (cS hq hn hK).2.2 (cS hp hn hK).1 (cS hq hn hK).1 hb).1;rwa [(cS hp hn hK).2.1,(cS hq hn hK).2.1] at h
theorem QN{n K:Nat}{p:List (List UInt8)}(hp:smB n K p=true)(hn:n<=41:=by decide)(hK:1<=K:=by decide):bS (fun p _=>Sz QH p/\p.length<=1000) (fun a _=>aZ a) p []:=by
 have h:=Fy (cS hp hn hK).1;rwa [(cS hp hn hK).2.1] at h
theorem Ob{l:List Rat}{n b:Nat}(h:Sml n b l)(hn:n<=41)(hb:b<=220):Pol (aZ l):=(h.der (by omega)).pol (by omega) (by omega)
theorem FA{n b:Nat}{l:List Rat}(hl:Sml n b l)(hn:n<=41)(hb:b<=220)(hK:b+(n+1)*((b+2)*(n+2)*3^(n-1)+1)<=QD):bS (fun p _=>kN p) (fun a _=>bC a) (txP l) []:=by
 have pl:=hl.pol hn (by omega);have pd:=Ob hl hn hb;have e:max b (b+1)+1=b+2:=by omega
 have hle:(b+2)*(n+2)*3^(n-1)<=QD:=by
  have:1*((b+2)*(n+2)*3^(n-1)+1)<=(n+1)*((b+2)*(n+2)*3^(n-1)+1):=Nat.mul_le_mul_right _ (by omega);omega
 obtain⟨_,g1,g2⟩:=qA hl (hl.der (by omega)) pl pd (by rw[e];exact hle);rw[e] at g2;exact Fz hl pl g1 g2 hK
theorem O9{n K:Nat}{p:List (List UInt8)}(hp:smB n K p=true)(hb:n*K+1<=220:=by decide)(hq:(n*K+1)+(n+1)*((n*K+1+2)*(n+2)*3^(n-1)+1)<=QD:=by decide)(hn:n<=41:=by decide)(hK:1<=K:=by decide):bS (fun p _=>kN p) (fun a _=>bC a) p []:=by
 have h:=FA (cS hp hn hK).2.2 hn hb hq;rwa [(cS hp hn hK).2.1] at h
theorem P0{n m K:Nat}{p q:List (List UInt8)}(hp:smB n K p=true)(hq:smB m K q=true)(hnm:n*m<=98:=by decide)(hb:n*K+1<=100000:=by decide)(hc:m*K+1<=100000:=by decide)(hn:n<=41:=by decide)(hm:m<=41:=by decide)(hK:1<=K:=by decide):yq p q:=by
 have h1:=cS hp hn hK;have h2:=cS hq hm hK;have h:=LK h1.2.2 h2.2.2 h1.1 h2.1 hnm hb hc (by omega) (by omega);rw[h1.2.1,h2.2.1] at h;have s1:=h1.1.short;have s2:=h2.1.short;rw[h1.2.1] at s1;rw[h2.2.1] at s2;exact⟨s1,s2,fun _=>h⟩
theorem D8{n K:Nat}{p q:List (List UInt8)}(hp:smB n K p=true)(hq:smB n K q=true)(hn:n<=41:=by decide)(hK:1<=K:=by decide)(hb:K<=2000:=by decide):uM p q:=by
 have e1:QD=10000000000:=rfl;have e2:QC=100000000000:=rfl;have e3:QL=1000000000:=rfl;obtain⟨p1,p2,p3⟩:=cS hp hn hK;obtain⟨q1,q2,q3⟩:=cS hq hn hK;have s1:=p1.short;have s2:=q1.short;rw[p2] at s1;rw[q2] at s2;refine⟨s1,s2,fun _ h0=> ?_⟩;have hlp:=p3.len;have hlq:=q3.len;have hnK:n*K<=41*2000:=Nat.mul_le_mul hn hb;have hbd:n*K+1+((bm p).length+1-(bm q).length)*(n*K+1+1)<=4000000:=by
  have:((bm p).length+1-(bm q).length)*(n*K+1+1)<=42*82002:=Nat.mul_le_mul (by omega) (by omega);omega
 obtain⟨k1,k2⟩:=qz (K:=4000000) p3.den q3.den h0 q3.trm hbd (by omega);have hs:=dW (p:=bm p) (List.length_pos_iff.2 h0) (q3.trm h0);refine⟨DZ (b:=n*K+1) (c:=n*K+1) (ix _) (ix _) (by rw[aK];exact p3.den) (by rw[aK];exact q3.den) (by rw[aE];omega) (by rw[aE];omega) (by rw[aE];exact List.length_pos_iff.2 h0) (by rw[aK];exact q3.trm) (by rw[aE,aE];omega) (by omega),⟨fx fun x hx=>by have:=k1 x hx;omega,by rw[aE,iG];omega⟩,k2.sz (by omega),by rw[aE];omega⟩
theorem LM{n K:Nat}{p:List (List UInt8)}{x:List UInt8}(hp:smB n K p=true)(hx:x.length<=3000)(hn:n<=41:=by decide)(hK:1<=K:=by decide):p9 p x:=by
 have e1:QM=400000000:=rfl;have e2:QL=1000000000:=rfl;have e3:QC=100000000000:=rfl;obtain⟨p1,p2,p3⟩:=cS hp hn hK;have s1:=p1.short;rw[p2] at s1;refine⟨s1,by omega,fun h1 h2=> ?_⟩;have hxl:lq (bL x)<=2000:=yp (wD h2 (by omega)).2;have h3:=yg p1.lq hxl;have h4:(bm p).length*(2*2000+1)<=41*(2*2000+1):=Nat.mul_le_mul_right _ p1.len;exact⟨p1.enc_ok (by omega),by have:=p1.len;omega,by omega,by omega⟩
end Go.Cm
end
section
namespace Go.Cm
open Go.Proofs
def cT(f:Nat->Rat):Nat->Rat
 |0=>0
 |n+1=>cT f n+f n
theorem eU{f g:Nat->Rat}:∀ n,(∀ i,i<n->f i=g i)->cT f n=cT g n
 |0,_=>rfl
 |n+1,h=>by rw[cT,cT,eU n fun i hi=>h i (by omega),h n (by omega)]
theorem FB(p q:List Rat)(hq:0<q.length)(n:Nat):∀ i,i<=p.length->cf (mulN p q i) n=cT (fun k=>if k<=n then cf p k*cf q (n-k) else 0) i
 |0,_=>by
  rw[mulN,cT];unfold cf;rw[List.getD_eq_getElem?_getD,List.getElem?_replicate];split<;>rfl
 |i+1,h=>by
  rw[mulN,jo _ _ _ _ _ _ (by rw[dM];omega),cT,<- FB p q hq n i (by omega)];by_cases h1:i<=n/\n<i+q.length;·rw[if_pos h1,if_pos h1.1]
  ·(rw[if_neg h1];by_cases h2:i<=n;·rw[if_pos h2,bE (l:=q) (by omega)];grind);·rw[if_neg h2];grind
theorem Oc(p q:List Rat)(n:Nat):cf (bh p q) n=cT (fun k=>if k<=n then cf p k*cf q (n-k) else 0) p.length:=by
 by_cases hp:p= []
 ·subst hp;rw[dB];rfl
 by_cases hq:q= []
 ·subst hq;rw[di,bE (by simp)];have:∀ m,cT (fun k=>if k<=n then cf p k*cf [] (n-k) else 0) m=0:=by
   intro m;induction m with
   |zero=>rfl
   |succ m ih=>
    (rw[cT,ih];split;·rw[bE (l:= []) (by simp)];grind);·grind
  exact(this _).symm
 ·rw[qx hp hq,FB p q (List.length_pos_iff.2 hq) n _ (Nat.le_refl _)]
def Prm(P:Int):Prop:=1<P/\∀ a b:Int,P∣a*b->P∣a∨P∣b
theorem P1{K:Nat}(h:1<K):∃ P:Int,Prm P/\P∣(K:Int):=by
 have hex:∃ d,1<d/\d∣K:=⟨K,h,Nat.dvd_refl K⟩;obtain⟨d,⟨h1,h2⟩,hmin⟩:∃ d,(1<d/\d∣K)/\∀ e,e<d-> ¬ (1<e/\e∣K):=by
  have key:∀ n,(∃ d,d<=n/\1<d/\d∣K)->∃ d,(1<d/\d∣K)/\∀ e,e<d-> ¬ (1<e/\e∣K):=by
   intro n;induction n with
   |zero=>rintro⟨d,hd,h1,_⟩;omega
   |succ n ih=>
    (rintro⟨d,hd,h1,h2⟩;by_cases hl:∃ d,d<=n/\1<d/\d∣K;·exact ih hl);·exact⟨d,⟨h1,h2⟩,fun e he hc=>hl ⟨e,by omega,hc⟩⟩
  exact key K ⟨K,Nat.le_refl K,h,Nat.dvd_refl K⟩
 refine⟨(d:Int),⟨by omega,fun a b hab=> ?_⟩,Int.natCast_dvd_natCast.2 h2⟩;by_cases ha:(d:Int)∣a;·exact .inl ha
 ·right;have hab':d∣a.natAbs*b.natAbs:=by
   have:=Int.natAbs_dvd_natAbs.2 hab;rwa [Int.natAbs_natCast,Int.natAbs_mul] at this
  have hg:Nat.gcd d a.natAbs=1:=by
   have g1:Nat.gcd d a.natAbs∣d:=Nat.gcd_dvd_left _ _;have g2:Nat.gcd d a.natAbs∣a.natAbs:=Nat.gcd_dvd_right _ _;have g3:0<Nat.gcd d a.natAbs:=Nat.gcd_pos_of_pos_left _ (by omega);by_cases hlt:Nat.gcd d a.natAbs<d
   ·(have:=hmin _ hlt;by_cases h1g:1<Nat.gcd d a.natAbs;·exact absurd ⟨h1g,Nat.dvd_trans g1 h2⟩ this);·omega
   ·exfalso;(have e:Nat.gcd d a.natAbs=d:=by have:=Nat.le_of_dvd (by omega) g1;omega);rw[e] at g2;exact ha (Int.natAbs_dvd_natAbs.1 (by rwa [Int.natAbs_natCast]))
  have hcop:Nat.Coprime d a.natAbs:=hg;have:=hcop.dvd_of_dvd_mul_left hab';exact Int.natAbs_dvd_natAbs.1 (by rwa [Int.natAbs_natCast])
def mF(f:Nat->Int):Nat->Int
 |0=>0
 |n+1=>mF f n+f n
def conv(M S:Nat->Int)(n:Nat):Int:=mF (fun k=>M k*S (n-k)) (n+1)
theorem AQ{P:Int}{f:Nat->Int}:∀ n,(∀ i,i<n->P∣f i)->P∣mF f n
 |0,_=>⟨0,by rw[mF];simp⟩
 |n+1,h=>Int.dvd_add (AQ n fun i hi=>h i (by omega)) (h n (by omega))
theorem AR{P:Int}{f:Nat->Int}{i0:Nat}:∀ n,i0<n->(∀ i,i<n->i≠i0->P∣f i)->P∣mF f n->P∣f i0
 |0,h,_,_=>absurd h (by omega)
 |n+1,h,hd,hs=>by
  rw[mF] at hs;by_cases e:i0=n;·subst e;have h1:P∣mF f i0:=AQ _ fun i hi=>hd i (by omega) (by omega);exact(Int.dvd_add_right h1).1 hs
  ·have h1:=hd n (by omega) (fun e2=>e e2.symm);exact AR n (by omega) (fun i hi hne=>hd i (by omega) hne) ((Int.dvd_add_left h1).1 hs)
theorem wJ{p:Nat->Prop}(h: ¬ ∀ i,p i):∃ i,¬p i/\∀ j,j<i->p j:=by
 obtain⟨n,hn⟩:=Classical.not_forall.1 h;have key:∀ n,(∃ i,i<=n/\ ¬p i)->∃ i,¬p i/\∀ j,j<i->p j:=by
  intro n;induction n with
  |zero=>rintro⟨i,hi,h⟩;exact⟨i,h,fun j hj=>by omega⟩
  |succ n ih=>
   (rintro⟨i,hi,h⟩;by_cases hl:∃ i,i<=n/\ ¬p i;·exact ih hl);·exact⟨i,h,fun j hj=>Classical.not_not.1 fun e=>hl ⟨j,by omega,e⟩⟩
 exact key n ⟨n,Nat.le_refl n,hn⟩
theorem QO{P:Int}(hP:Prm P){M S:Nat->Int}(h:∀ n,P∣conv M S n):(∀ i,P∣M i)∨∀ i,P∣S i:=by
 by_cases hM:∀ i,P∣M i
 ·exact .inl hM
 by_cases hS:∀ i,P∣S i
 ·exact .inr hS
 exfalso;obtain⟨i0,a1,a2⟩:=wJ hM;obtain⟨j0,b1,b2⟩:=wJ hS;have h1:=h (i0+j0);unfold conv at h1
 have h2:=AR (i0:=i0) (i0+j0+1) (by omega) (fun i hi hne=>by
  by_cases hl:i<i0
  ·obtain⟨c,hc⟩:=a2 i hl;exact⟨c*S (i0+j0-i),by rw[hc];grind⟩
  ·obtain⟨c,hc⟩:=b2 (i0+j0-i) (by omega);exact⟨M i*c,by rw[hc];grind⟩) h1
 simp only[show i0+j0-i0=j0 by omega] at h2;rcases hP.2 _ _ h2 with h3|h3;·exact a1 h3
 ·exact b1 h3
def uP(M:Nat->Int):Prop:=∀ P,Prm P-> ¬ ∀ i,P∣M i
theorem AU(c:Int)(f:Nat->Int):∀ n,mF (fun k=>c*f k) n=c*mF f n
 |0=>by simp[mF]
 |n+1=>by rw[mF,mF,AU c f n];grind
theorem nf(c:Int)(M S:Nat->Int)(n:Nat):conv M (fun i=>c*S i) n=c*conv M S n:=by
 unfold conv
 rw[<- AU];congr 1;funext k;grind
theorem AW{M:Nat->Int}(hM:uP M):∀ (K:Nat),0<K->∀ (S A:Nat->Int),(∀ n,conv M S n=(K:Int)*A n)->∃ T:Nat->Int,(∀ n,conv M T n=A n)/\∀ i,(K:Int)*T i=S i:=by
 intro K;induction K using Nat.strongRecOn with
 |ind K ih=>
  intro hK S A h;by_cases h1:K=1;·subst h1;exact⟨S,fun n=>by rw[h];simp,fun i=>by simp⟩
  ·obtain⟨P,hP,hd⟩:=P1 (show 1<K by omega);have hS:∀ i,P∣S i:=by
    (rcases QO hP (fun n=>by rw[h];exact Int.dvd_trans hd (Int.dvd_mul_right _ _)) with h2|h2;·exact absurd h2 (hM P hP));·exact h2
   obtain⟨c,hc⟩:=hd;(have hP0:P≠0:=by have:=hP.1;omega);have hcp:0<c:=by
    (have:0<P*c:=by omega);exact Int.pos_of_mul_pos_right this (by have:=hP.1;omega)|>fun h=>h
   have hcK:c.toNat<K:=by
    have h4:c<P*c:=by
     have:=Int.mul_lt_mul_of_pos_right hP.1 hcp;omega
    omega
   suffices hT:∃ T:Nat->Int,(∀ n,conv M T n=A n)/\∀ i,(c.toNat:Int)*T i=S i/P by
    obtain⟨T,t1,t2⟩:=hT;refine⟨T,t1,fun i=> ?_⟩;have t3:=t2 i;rw[Int.toNat_of_nonneg (by omega)] at t3;rw[hc,Int.mul_assoc,t3];exact Int.mul_ediv_cancel' (hS i)
   refine ih c.toNat hcK (by omega) (fun i=>S i/P) A fun n=> ?_;have h5:conv M (fun i=>P*(S i/P)) n=conv M S n:=by
    congr 1;funext i;exact Int.mul_ediv_cancel' (hS i)
   rw[nf,h,hc] at h5;(have h6:P*conv M (fun i=>S i/P) n=P*(c*A n):=by rw[h5];grind);have h7:=Int.eq_of_mul_eq_mul_left hP0 h6;rw[h7,Int.toNat_of_nonneg (by omega)]
end Go.Cm
namespace Go.Cm
open Go.Proofs
theorem Od{n:Int}{D:Int}:Rat.divInt n D*(D:Rat)=(n:Rat)∨D=0:=by
 by_cases h:D=0
 ·exact .inr h
 ·left;rw[Rat.divInt_eq_div];have:(D:Rat)≠0:=by simpa using h
  grind
theorem yr{b:Nat}{l:List Rat}(h:Den b l):∃ (D:Int) (A:Nat->Int),D≠0/\lw D<=b/\(∀ i,lw (A i)<=b)/\∀ i,cf l i*(D:Rat)=(A i:Rat):=by
 obtain⟨D,d1,d2,d3⟩:=h;refine⟨D,fun i=>Classical.choose (d3 i),d1,d2,fun i=>(Classical.choose_spec (d3 i)).1,fun i=> ?_⟩;rw[(Classical.choose_spec (d3 i)).2];rcases Od (n:=Classical.choose (d3 i)) (D:=D) with h|h;·exact h
 ·exact absurd h d1
theorem wK(f:Nat->Int)(g:Nat->Rat):∀ n,(∀ i,i<n->g i=(f i:Rat))->cT g n=(mF f n:Rat)
 |0,_=>by simp[cT,mF]
 |n+1,h=>by rw[cT,mF,wK f g n fun i hi=>h i (by omega),h n (by omega)];simp
theorem nR(c:Rat)(f:Nat->Rat):∀ n,cT (fun k=>c*f k) n=c*cT f n
 |0=>by simp[cT]
 |n+1=>by rw[cT,cT,nR c f n];grind
theorem wL{f:Nat->Rat}:∀ n,(∀ i,i<n->f i=0)->cT f n=0
 |0,_=>rfl
 |n+1,h=>by rw[cT,wL n fun i hi=>h i (by omega),h n (by omega)];grind
theorem mj(f:Nat->Rat){n:Nat}:∀ m,n<=m->(∀ i,n<=i->f i=0)->cT f m=cT f n
 |0,h,_=>by rw[show n=0 by omega]
 |m+1,h,h0=>by
  by_cases e:n=m+1
  ·rw[e]
  ·rw[cT,mj f m (by omega) h0,h0 m (by omega)];grind
theorem wM(p q:List Rat)(n:Nat):cf (bh p q) n=cT (fun k=>cf p k*cf q (n-k)) (n+1):=by
 rw[Oc];have e1:cT (fun k=>if k<=n then cf p k*cf q (n-k) else 0) p.length=cT (fun k=>if k<=n then cf p k*cf q (n-k) else 0) (max p.length (n+1)):=by
  refine(mj _ _ (by omega) fun i hi=> ?_).symm;rw[bE (l:=p) hi];split<;>grind
 have e2:cT (fun k=>if k<=n then cf p k*cf q (n-k) else 0) (n+1)=cT (fun k=>if k<=n then cf p k*cf q (n-k) else 0) (max p.length (n+1)):=by
  refine(mj _ _ (by omega) fun i hi=> ?_).symm;rw[if_neg (by omega)]
 rw[e1,<- e2];exact eU _ fun i hi=>by rw[if_pos (by omega)]
theorem Oe{m:List Rat}(hm:m≠ [])(tm:Trm m):∃ (c:Rat) (M:Nat->Int),c≠0/\uP M/\∀ i,cf m i*c=(M i:Rat):=by
 have hp:=List.length_pos_iff.2 hm;have hl:=tm hm;rw[bX hp] at hl;have hK:∃ K,1<=K/\∀ x∈m,Cm.lq x<=K:=by
  refine⟨m.foldr (fun x k=>max (lq x) k) 1,?_,?_⟩
  ·clear hm tm hp hl;induction m with
   |nil=>simp
   |cons x l ih=>simp only[List.foldr_cons];omega
  ·clear hm tm hp hl;induction m with
   |nil=>simp
   |cons x l ih=>
    (intro y hy;simp only[List.foldr_cons];rcases List.mem_cons.1 hy with rfl|hy;·omega);·have:=ih y hy;omega
 obtain⟨K,k1,k2⟩:=hK;obtain⟨D,A,d1,_,_,d4⟩:=yr (nQ k1 m k2);have hD:(D:Rat)≠0:=by simpa using d1
 have key:∀ (N:Nat) (c:Rat) (A:Nat->Int),c≠0->(∀ i,cf m i*c=(A i:Rat))->(A (m.length-1)).natAbs<=N->∃ (c:Rat) (M:Nat->Int),c≠0/\uP M/\∀ i,cf m i*c=(M i:Rat):=by
  intro N;induction N with
  |zero=>
   (intro c A hc hA h0;exfalso;have h1:=hA (m.length-1);rw[show A (m.length-1)=0 by omega] at h1;rcases Rat.mul_eq_zero.1 h1 with h2|h2;·exact hl h2);·exact hc h2
  |succ N ih=>
   intro c A hc hA hN;by_cases hP:uP A;·exact⟨c,A,hc,hP,hA⟩
   ·obtain⟨P,h1⟩:=Classical.not_forall.1 hP;have h2:Prm P/\∀ i,P∣A i:=by
     (constructor;·exact Classical.not_not.1 fun e=>h1 fun h=>absurd h e);·exact Classical.not_not.1 fun e=>h1 fun _=>e
    obtain⟨h2,h3⟩:=h2;(have hP0:P≠0:=by have:=h2.1;omega);(have hPr:(P:Rat)≠0:=by simpa using hP0);refine ih (c/P) (fun i=>A i/P) (by intro e;exact hc (by grind)) (fun i=> ?_) ?_;·have h4:P*(A i/P)=A i:=Int.mul_ediv_cancel' (h3 i);(have h5:(P:Rat)*((A i/P:Int):Rat)=(A i:Rat):=by rw[<- Rat.intCast_mul,h4]);have h6:=hA i;(have h7:cf m i*(c/P)*P=((A i/P:Int):Rat)*P:=by grind);grind
    ·have hne:A (m.length-1)≠0:=by
      (intro e;have h8:=hA (m.length-1);rw[e] at h8;rcases Rat.mul_eq_zero.1 h8 with h9|h9;·exact hl h9);·exact hc h9
     have h4:P*(A (m.length-1)/P)=A (m.length-1):=Int.mul_ediv_cancel' (h3 _);(have h5:P.natAbs*(A (m.length-1)/P).natAbs=(A (m.length-1)).natAbs:=by rw[<- Int.natAbs_mul,h4]);(have h6:2<=P.natAbs:=by have:=h2.1;omega);have h7:2*(A (m.length-1)/P).natAbs<=P.natAbs*(A (m.length-1)/P).natAbs:=Nat.mul_le_mul_right _ h6;show (A (m.length-1)/P).natAbs<=N;omega
 exact key _ (D:Rat) A hD d4 (Nat.le_refl _)
theorem Il{m s a:List Rat}(ha:bh m s=a){c:Rat}{M:Nat->Int}(hc:c≠0)(hM:uP M)(hm:∀ i,cf m i*c=(M i:Rat)){D:Int}(hD:D≠0){A:Nat->Int}(hA:∀ i,cf a i*(D:Rat)=(A i:Rat)):∃ T:Nat->Int,∀ i,cf s i*(D:Rat)=c*(T i:Rat):=by
 have hK:∃ K,1<=K/\∀ x∈s,Cm.lq x<=K:=by
  refine⟨s.foldr (fun x k=>max (lq x) k) 1,?_,?_⟩
  ·clear ha;induction s with
   |nil=>simp
   |cons x l ih=>simp only[List.foldr_cons];omega
  ·clear ha;induction s with
   |nil=>simp
   |cons x l ih=>
    (intro y hy;simp only[List.foldr_cons];rcases List.mem_cons.1 hy with rfl|hy;·omega);·have:=ih y hy;omega
 obtain⟨K,k1,k2⟩:=hK;obtain⟨E,S,e1,_,_,e4⟩:=yr (nQ k1 s k2);have h1:∀ n,(conv M S n:Rat)=cf a n*(c*E):=by
  intro n;have h2:cT (fun k=>cf m k*c*(cf s (n-k)*E)) (n+1)=((mF (fun k=>M k*S (n-k)) (n+1):Int):Rat):=wK (fun k=>M k*S (n-k)) _ _ fun i _=>by rw[hm,e4,Rat.intCast_mul]
  have h3:cT (fun k=>cf m k*c*(cf s (n-k)*E)) (n+1)=(c*E)*cT (fun k=>cf m k*cf s (n-k)) (n+1):=by
   rw[<- nR];exact eU _ fun i _=>by grind
  rw[<- wM,ha] at h3;unfold conv
  rw[<- h2,h3];grind
 have hE:(E:Rat)≠0:=by simpa using e1
 have hDr:(D:Rat)≠0:=by simpa using hD
 have hv:=dK c;have hu:=DI hc;have h4:∀ n,conv M (fun i=>(D*c.den)*S i) n=(c.num*E)*A n:=by
  intro n;rw[nf];have h5:(((D*c.den)*conv M S n:Int):Rat)=(((c.num*E)*A n:Int):Rat):=by
   rw[Rat.intCast_mul,Rat.intCast_mul,Rat.intCast_mul,Rat.intCast_mul,h1,<- hA];have h6:c*((c.den:Int):Rat)=(c.num:Rat):=by
    (have:=Rat.num_divInt_den c;rw[Rat.divInt_eq_div] at this;(have hvr:((c.den:Int):Rat)≠0:=by simpa using hv);conv=>lhs;arg 1;rw[<- this]);grind
   rw[<- h6];grind
  exact_mod_cast h5
 have hKE:c.num*E≠0:=Int.mul_ne_zero hu e1;have h6:c*((c.den:Int):Rat)=(c.num:Rat):=by
  have:=Rat.num_divInt_den c;rw[Rat.divInt_eq_div] at this;have hvr:((c.den:Int):Rat)≠0:=by simpa using hv
  conv=>lhs;arg 1;rw[<- this]
  grind
 have hvr:((c.den:Int):Rat)≠0:=by simpa using hv
 have fin:∀ T:Nat->Int,(∀ i,(c.num*E)*T i=(D*c.den)*S i)->∀ i,cf s i*(D:Rat)=c*(T i:Rat):=by
  intro T hT i;have h7:(((c.num*E)*T i:Int):Rat)=(((D*c.den)*S i:Int):Rat):=by rw[hT]
  rw[Rat.intCast_mul,Rat.intCast_mul,Rat.intCast_mul,Rat.intCast_mul,<- e4 i,<- h6] at h7;have h8:((c.den:Int):Rat)*(E:Rat)*(cf s i*(D:Rat)-c*(T i:Rat))=0:=by grind
  rcases Rat.mul_eq_zero.1 h8 with h9|h9
  ·(rcases Rat.mul_eq_zero.1 h9 with h10|h10;·exact absurd h10 hvr);·exact absurd h10 hE
  ·grind
 by_cases hpos:0<c.num*E
 ·obtain⟨T,_,t2⟩:=AW hM (c.num*E).toNat (by omega) _ A fun n=>by rw[h4 n,Int.toNat_of_nonneg (by omega)]
  refine⟨T,fin T fun i=> ?_⟩;have:=t2 i;rwa [Int.toNat_of_nonneg (by omega)] at this
 ·obtain⟨T,_,t2⟩:=AW hM (-(c.num*E)).toNat (by omega) (fun i=>(-1)*((D*c.den)*S i)) A fun n=>by
   rw[nf (-1) M (fun i=>(D*c.den)*S i),h4 n,Int.toNat_of_nonneg (by omega)];grind
  refine⟨T,fin T fun i=> ?_⟩;have:=t2 i;rw[Int.toNat_of_nonneg (by omega)] at this;grind
end Go.Cm
end
section
namespace Go.Cm
open Go.Proofs
def sdQ(x0:Rat):List Rat->List Rat
 | []=> []
 |_:: []=> []
 |_::a::l=>ak (a::l) x0::sdQ x0 (a::l)
theorem D9(x0:Rat):∀ l:List Rat,(sdQ x0 l).length=l.length-1
 | []=>rfl
 | [_]=>rfl
 |c::a::l=>by
  have:=D9 x0 (a::l);simp only[sdQ,List.length_cons] at this ⊢;omega
theorem FC(x0 x:Rat):∀ l:List Rat,ak l x-ak l x0=(x-x0)*ak (sdQ x0 l) x
 | []=>by simp only[sdQ,cb];grind
 | [c]=>by simp only[sdQ,db,cb];grind
 |c::a::l=>by
  have:=FC x0 x (a::l);rw[cg c (a::l) x,cg c (a::l) x0,sdQ,cg (ak (a::l) x0)];grind
theorem FD(x0:Rat):∀ l:List Rat,2<=l.length->aH (sdQ x0 l)=aH l
 | [],h=>by simp at h
 | [_],h=>by simp at h
 | [c,a],_=>by simp[sdQ,aH,ak];grind
 |c::a::b::l,_=>by
  have:=FD x0 (a::b::l) (by simp);have h2:sdQ x0 (a::b::l)≠ []:=by simp[sdQ]
  have e1:aH (sdQ x0 (c::a::b::l))=aH (sdQ x0 (a::b::l)):=by
   rw[sdQ];unfold aH;cases h3:sdQ x0 (a::b::l) with
   |nil=>exact absurd h3 h2
   |cons y m=>simp
  rw[e1,this];unfold aH;simp
theorem Pa(x0:Rat):∀ (l:List Rat) (i:Nat),cf l (i+1)=cf (sdQ x0 l) i-x0*cf (sdQ x0 l) (i+1)
 | [],i=>by simp only[sdQ];have:∀ j,cf [] j=0:=fun j=>bE (by simp);simp only[this];grind
 | [c],i=>by simp only[sdQ];rw[bE (l:= [c]) (by simp),bE (l:= []) (by simp),bE (l:= []) (by simp)];grind
 |c::a::l,i=>by
  have e1:cf (c::a::l) (i+1)=cf (a::l) i:=by simp[cf]
  have e2:cf (sdQ x0 (c::a::l)) (i+1)=cf (sdQ x0 (a::l)) i:=by simp[sdQ,cf]
  rw[e1,e2];cases i with
  |zero=>
   (have e3:cf (sdQ x0 (c::a::l)) 0=ak (a::l) x0:=by simp[sdQ,cf]);(have e4:cf (a::l) 0=a:=by simp[cf]);rw[e3,e4,cg];cases l with
   |nil=>simp only[sdQ,cb];rw[bE (l:= []) (by simp)];grind
   |cons b l=>
    (have e5:cf (sdQ x0 (a::b::l)) 0=ak (b::l) x0:=by simp[sdQ,cf]);rw[e5];grind
  |succ i=>
   (have e3:cf (sdQ x0 (c::a::l)) (i+1)=cf (sdQ x0 (a::l)) i:=by simp[sdQ,cf]);rw[e3];exact Pa x0 (a::l) i
theorem P2(x0:Rat)(l:List Rat):cf l 0=ak l x0-x0*cf (sdQ x0 l) 0:=by
 match l with
 | []=>simp only[sdQ,cb];rw[bE (l:= []) (by simp)];grind
 | [c]=>simp only[sdQ,db];rw[bE (l:= []) (by simp)];simp[cf];grind
 |c::a::l=>
  have e1:cf (c::a::l) 0=c:=by simp[cf]
  have e2:cf (sdQ x0 (c::a::l)) 0=ak (a::l) x0:=by simp[sdQ,cf]
  rw[e1,e2,cg];grind
theorem wN:∀ (n:Nat) (l:List Rat),l.length=n->l≠ []->Trm l->∀ xs:List Nat,xs.Nodup->(∀ x∈xs,ak l (x:Rat)=0)->xs.length<l.length
 |0,l,hn,h,_,_,_,_=>absurd (List.eq_nil_of_length_eq_zero hn) h
 |n+1,l,hn,h,t,xs,hd,hr=>by
  cases xs with
  |nil=>simp only[List.length_nil];omega
  |cons x0 xs=>
   have h0:=hr x0 (by simp);have hnd:=List.nodup_cons.1 hd;by_cases h1:l.length=1
   ·exfalso;match l,h1 with
    | [c],_=>
     rw[db] at h0;exact t (by simp) (by simpa [aH] using h0)
   ·(have h2:2<=l.length:=by omega);have hsl:=D9 (x0:Rat) l;(have hsn:sdQ (x0:Rat) l≠ []:=fun e=>by rw[e] at hsl;simp at hsl;omega);(have hst:Trm (sdQ (x0:Rat) l):=fun _=>by rw[FD _ _ h2];exact t h);have:=wN n (sdQ (x0:Rat) l) (by omega) hsn hst xs hnd.2 fun x hx=>by
     have e:=FC (x0:Rat) (x:Rat) l;rw[hr x (by simp[hx]),h0] at e;have hne:((x:Rat)-(x0:Rat))≠0:=by
      intro e2;(have:(x:Rat)=(x0:Rat):=by grind);(have:x=x0:=by exact_mod_cast this);exact hnd.1 (this▸hx)
     (have e3:((x:Rat)-(x0:Rat))*ak (sdQ (x0:Rat) l) x=0:=by grind);rcases Rat.mul_eq_zero.1 e3 with e4|e4;·exact absurd e4 hne
     ·exact e4
    simp only[List.length_cons];omega
theorem Of(a b:Rat):(a+b).abs<=a.abs+b.abs:=by unfold Rat.abs;split<;>split<;>split<;>grind
theorem yt(a b:Rat):(a-b).abs<=a.abs+b.abs:=by unfold Rat.abs;split<;>split<;>split<;>grind
theorem nS(a b:Rat):(a*b).abs=a.abs*b.abs:=by
 by_cases ha:0<=a
 ·by_cases hb:0<=b
  ·rw[Rat.abs_of_nonneg ha,Rat.abs_of_nonneg hb,Rat.abs_of_nonneg (Rat.mul_nonneg ha hb)]
  ·have:=Rat.mul_nonneg ha (show 0<= -b by grind);rw[Rat.abs_of_nonneg ha,Rat.abs_of_nonpos (by grind:b<=0),Rat.abs_of_nonpos (by grind)];grind
 ·by_cases hb:0<=b
  ·have:=Rat.mul_nonneg (show 0<= -a by grind) hb;rw[Rat.abs_of_nonpos (by grind:a<=0),Rat.abs_of_nonneg hb,Rat.abs_of_nonpos (by grind)];grind
  ·have:=Rat.mul_nonneg (show 0<= -a by grind) (show 0<= -b by grind);rw[Rat.abs_of_nonpos (by grind:a<=0),Rat.abs_of_nonpos (by grind:b<=0),Rat.abs_of_nonneg (by grind)];grind
theorem LN:∀ (n:Nat) (l:List Rat) (B:Rat) (xs:List Nat),0<=B->l.length<=n->n<=xs.length->xs.Nodup->(∀ x∈xs,x<=32)->(∀ x∈xs,(ak l (x:Rat)).abs<=B)->∀ i,(cf l i).abs<=(67:Rat)^n*B
 |0,l,B,xs,hB,hl,_,_,_,_,i=>by
  rw[bE (by omega),Rat.abs_zero,Rat.pow_zero];grind
 |n+1,l,B,xs,hB,hl,hx,hd,h32,hv,i=>by
  cases xs with
  |nil=>simp at hx
  |cons x0 xs=>
   have hnd:=List.nodup_cons.1 hd;have h0:=hv x0 (by simp);have hx0:=h32 x0 (by simp);(have hx0r:(x0:Rat)<=32:=by exact_mod_cast hx0);(have hx0p:(0:Rat)<=(x0:Rat):=by exact_mod_cast Nat.zero_le x0);have ih:=LN n (sdQ (x0:Rat) l) (2*B) xs (by grind) (by rw[D9];omega) (by simpa using hx) hnd.2 (fun x hx=>h32 x (by simp[hx])) (fun x hx=>by
    have e:=FC (x0:Rat) (x:Rat) l;have h1:=hv x (by simp[hx]);have h2:=yt (ak l (x:Rat)) (ak l (x0:Rat));rw[e,nS] at h2;have h3:(1:Rat)<=((x:Rat)-(x0:Rat)).abs:=by
     have hne:x≠x0:=fun e2=>hnd.1 (e2▸hx);rcases Nat.lt_or_gt_of_ne hne with h4|h4
     ·(have:(x:Rat)+1<=(x0:Rat):=by exact_mod_cast h4);rw[Rat.abs_of_nonpos (by grind)];grind
     ·(have:(x0:Rat)+1<=(x:Rat):=by exact_mod_cast h4);rw[Rat.abs_of_nonneg (by grind)];grind
    have h5:(0:Rat)<=(ak (sdQ (x0:Rat) l) (x:Rat)).abs:=Rat.abs_nonneg;have h6:=Rat.mul_le_mul_of_nonneg_right h3 h5;grind)
   have hp:(1:Rat)<=(67:Rat)^n:=by
    have:∀ n:Nat,(1:Rat)<=(67:Rat)^n:=by
     intro n;induction n with
     |zero=>rw[Rat.pow_zero];grind
     |succ n ih=>rw[Rat.pow_succ];grind
    exact this n
   have hpB:B<=(67:Rat)^n*B:=by
    have:=Rat.mul_le_mul_of_nonneg_right hp hB;grind
   have key:∀ (u v:Rat),u.abs<=(67:Rat)^n*(2*B)->v.abs<=(67:Rat)^n*(2*B)->(u-(x0:Rat)*v).abs<=(67:Rat)^(n+1)*B-B:=by
    intro u v hu hv';have h1:=yt u ((x0:Rat)*v);rw[nS,Rat.abs_of_nonneg hx0p] at h1;have h2:(x0:Rat)*v.abs<=32*((67:Rat)^n*(2*B)):=by
     have a1:=Rat.mul_le_mul_of_nonneg_right hx0r (Rat.abs_nonneg (x:=v));have a2:=Rat.mul_le_mul_of_nonneg_left hv' (show (0:Rat)<=32 by grind);grind
    rw[Rat.pow_succ];generalize (67:Rat)^n=w at*;grind
   cases i with
   |zero=>
    rw[P2 (x0:Rat) l];have h1:=yt (ak l (x0:Rat)) ((x0:Rat)*cf (sdQ (x0:Rat) l) 0);have h2:=key 0 (cf (sdQ (x0:Rat) l) 0) (by rw[Rat.abs_zero];grind) (ih 0);have h3:((0:Rat)-(x0:Rat)*cf (sdQ (x0:Rat) l) 0).abs=((x0:Rat)*cf (sdQ (x0:Rat) l) 0).abs:=by
     rw[show (0:Rat)-(x0:Rat)*cf (sdQ (x0:Rat) l) 0= -((x0:Rat)*cf (sdQ (x0:Rat) l) 0) by grind,Rat.abs_neg]
    grind
   |succ i=>
    rw[Pa (x0:Rat) l i];have:=key _ _ (ih i) (ih (i+1));grind
def IsI(x:Rat):Prop:=∃ n:Int,x=(n:Rat)
theorem LO{l:List Rat}(h:∀ c∈l,IsI c)(x:Nat):IsI (ak l (x:Rat)):=by
 induction l with
 |nil=>exact⟨0,by rw[cb];rfl⟩
 |cons c l ih=>
  obtain⟨a,ha⟩:=ih fun d hd=>h d (List.mem_cons_of_mem _ hd);obtain⟨b,hb⟩:=h c (List.mem_cons_self ..);refine⟨a*(x:Int)+b,?_⟩;rw[cg,ha,hb,Rat.intCast_add,Rat.intCast_mul,Rat.intCast_natCast]
theorem LP{l:List Rat}{K:Rat}(hK:0<=K)(h:∀ c∈l,c.abs<=K){x:Nat}(hx:x<=32):(ak l (x:Rat)).abs<=K*(33:Rat)^l.length:=by
 have hxr:(x:Rat)<=32:=by exact_mod_cast hx
 have hxp:(0:Rat)<=(x:Rat):=by exact_mod_cast Nat.zero_le x
 induction l with
 |nil=>rw[cb,Rat.abs_zero];simp;grind
 |cons c l ih=>
  have h1:=ih fun d hd=>h d (List.mem_cons_of_mem _ hd);have h2:=h c (List.mem_cons_self ..);have hp:∀ n:Nat,(1:Rat)<=(33:Rat)^n:=by
   intro n;induction n with
   |zero=>rw[Rat.pow_zero];grind
   |succ n ih=>rw[Rat.pow_succ];grind
  have h3:=hp l.length;have h4:K<=K*(33:Rat)^l.length:=by
   have:=Rat.mul_le_mul_of_nonneg_left h3 hK;grind
  rw[cg,List.length_cons,Rat.pow_succ];have h5:=Of (ak l (x:Rat)*(x:Rat)) c;rw[nS,Rat.abs_of_nonneg hxp] at h5;have h6:=Rat.mul_le_mul_of_nonneg_left hxr (Rat.abs_nonneg (x:=ak l (x:Rat)));generalize (33:Rat)^l.length=w at*;generalize (ak l (x:Rat)).abs=v at*;have h7:v*(x:Rat)<=(K*w)*32:=by grind
  grind
theorem yu(n:Int):(n:Rat).abs=((n.natAbs:Nat):Rat):=by
 by_cases h:0<=n
 ·rw[Rat.abs_of_nonneg (by exact_mod_cast h)];have:n=(n.natAbs:Int):=by omega
  conv=>lhs;rw[this]
  rfl
 ·rw[Rat.abs_of_nonpos (by exact_mod_cast (by omega:n<=0))];have: -n=(n.natAbs:Int):=by omega
  rw[<- Rat.intCast_neg,this];rfl
theorem iX(c:Rat)(l:List Rat)(i:Nat):cf (l.map fun x=>x*c) i=cf l i*c:=by
 unfold cf;simp only[List.getD_eq_getElem?_getD,List.getElem?_map];cases l[i]? with
 |none=>simp
 |some x=>rfl
theorem cG(c:Rat)(l:List Rat)(x:Rat):ak (l.map fun y=>y*c) x=ak l x*c:=by
 induction l with
 |nil=>simp only[List.map_nil,cb];grind
 |cons a l ih=>simp only[List.map_cons,cg,ih];grind
theorem Ea{l:List Rat}{y:Rat}(h:y∈l):∃ i,i<l.length/\y=cf l i:=by
 obtain⟨i,hi,rfl⟩:=List.getElem_of_mem h;refine⟨i,hi,?_⟩;unfold cf;rw[List.getD_eq_getElem?_getD,List.getElem?_eq_getElem hi];rfl
theorem uQ(p:Nat->Bool):∀ l:List Nat,(l.filter p).length+(l.filter fun x=> !p x).length=l.length
 | []=>rfl
 |a::l=>by
  have:=uQ p l;cases h:p a<;>simp[h]<;>omega
theorem lbr(k:Nat):(((LB^k:Int)):Rat)=(1000000000:Rat)^k:=by
 induction k with
 |zero=>simp
 |succ k ih=>rw[Int.pow_succ,Rat.intCast_mul,ih,Rat.pow_succ];rfl
theorem lJ{a m s:List Rat}{b:Nat}(ha:Sml 17 b a)(ha0:a≠ [])(hm:bh m s=a)(tm:Trm m)(m1:aH m=1):Den (b+8) m:=by
 have hm0:m≠ []:=by rintro rfl;rw[dB] at hm;exact ha0 hm.symm
 have hs0:s≠ []:=by rintro rfl;rw[di] at hm;exact ha0 hm.symm
 have hmp:=List.length_pos_iff.2 hm0;have hsp:=List.length_pos_iff.2 hs0;have hlen:m.length<=17:=by
  have:=cj hm0 hs0;rw[hm] at this;have:=ha.len;omega
 obtain⟨c,M,hc,hM,hMc⟩:=Oe hm0 tm;obtain⟨D,A,hD,_,hAb,hA⟩:=yr ha.den;obtain⟨T,hT⟩:=Il hm hc hM hMc hD hA;have hDr:(D:Rat)≠0:=by simpa using hD
 have iL:∀ y∈m.map (fun y=>y*c),IsI y:=by
  intro y hy;obtain⟨i,_,rfl⟩:=Ea hy;exact⟨M i,by rw[iX,hMc]⟩
 have iT:∀ y∈s.map (fun y=>y*((D:Rat)/c)),IsI y:=by
  intro y hy;obtain⟨i,_,rfl⟩:=Ea hy;refine⟨T i,?_⟩;rw[iX];have:=hT i;grind
 have bA:∀ y∈a.map (fun y=>y*(D:Rat)),y.abs<=(1000000000:Rat)^b:=by
  intro y hy;obtain⟨i,_,rfl⟩:=Ea hy;rw[iX,hA,yu,<- lbr];have:=p7 (hAb i);exact_mod_cast this
 have hroots:=wN a.length a rfl ha0 ha.trm ((List.range 33).filter fun x=>decide (ak a (x:Rat)=0)) (List.nodup_range.filter _) (fun x hx=>by simpa using(List.mem_filter.1 hx).2);have hsum:=uQ (fun x=>decide (ak a (x:Rat)=0)) (List.range 33);have hal:=ha.len;rw[List.length_range] at hsum;have hK:(0:Rat)<=(1000000000:Rat)^b:=Rat.pow_nonneg (by grind);have h33:(0:Rat)<=(33:Rat)^17:=Rat.pow_nonneg (by grind);have hbd:=LN m.length (m.map fun y=>y*c) ((1000000000:Rat)^b*(33:Rat)^17) ((List.range 33).filter fun x=> !decide (ak a (x:Rat)=0)) (Rat.mul_nonneg hK h33) (by simp) (by omega) (List.nodup_range.filter _)
  (fun x hx=>by have:=List.mem_range.1 (List.mem_filter.1 hx).1;omega) (fun x hx=>by
   (have hx32:x<=32:=by have:=List.mem_range.1 (List.mem_filter.1 hx).1;omega);(have hne:ak a (x:Rat)≠0:=by simpa using(List.mem_filter.1 hx).2);obtain⟨u,hu⟩:=LO iL x;obtain⟨v,hv⟩:=LO iT x;have e1:(u:Rat)*(v:Rat)=ak (a.map fun y=>y*(D:Rat)) (x:Rat):=by
    rw[<- hu,<- hv,cG,cG,cG,<- hm,aR];grind
   have hv0:v≠0:=by
    (rintro rfl;rw[cG] at e1;(have:ak a (x:Rat)*(D:Rat)=0:=by rw[<- e1];simp);rcases Rat.mul_eq_zero.1 this with h|h;·exact hne h);·exact hDr h
   have h1:=LP hK bA hx32;rw[<- e1,nS] at h1;have h2:(1:Rat)<=(v:Rat).abs:=by
    rw[yu];(have:1<=v.natAbs:=by omega);exact_mod_cast this
   have h3:=Rat.mul_le_mul_of_nonneg_left h2 (Rat.abs_nonneg (x:=(u:Rat)));have h4:(33:Rat)^(a.map fun y=>y*(D:Rat)).length<=(33:Rat)^17:=by
    have hmono:∀ (n k:Nat),n<=k->(33:Rat)^n<=(33:Rat)^k:=by
     intro n k hnk;induction k with
     |zero=>rw[show n=0 by omega];grind
     |succ k ih=>
      by_cases e:n=k+1
      ·rw[e];grind
      ·have:=ih (by omega);have hp:(0:Rat)<=(33:Rat)^k:=Rat.pow_nonneg (by grind);rw[Rat.pow_succ];grind
    exact hmono _ _ (by rw[List.length_map];omega)
   have h5:=Rat.mul_le_mul_of_nonneg_left h4 hK;rw[hu];grind)
 have hlw:∀ i,lw (M i)<=b+8:=by
  intro i;have h1:=hbd i;rw[iX,hMc,yu] at h1;have h67:(67:Rat)^m.length<=(67:Rat)^17:=by
   have hmono:∀ (n k:Nat),n<=k->(67:Rat)^n<=(67:Rat)^k:=by
    intro n k hnk;induction k with
    |zero=>rw[show n=0 by omega];grind
    |succ k ih=>
     by_cases e:n=k+1
     ·rw[e];grind
     ·have:=ih (by omega);have hp:(0:Rat)<=(67:Rat)^k:=Rat.pow_nonneg (by grind);rw[Rat.pow_succ];grind
   exact hmono _ _ hlen
  have h2:=Rat.mul_le_mul_of_nonneg_right h67 (Rat.mul_nonneg hK h33);have h3:(67:Rat)^17*(33:Rat)^17<=(1000000000:Rat)^7:=by decide+kernel
  have h4:=Rat.mul_le_mul_of_nonneg_left h3 hK;have h5:(((M i).natAbs:Nat):Rat)<=(((LB^(b+7):Int)):Rat):=by
   rw[lbr,AD];generalize (67:Rat)^m.length=w1 at*;generalize (67:Rat)^17=w2 at*;generalize (33:Rat)^17=w3 at*;generalize (1000000000:Rat)^7=w4 at*;generalize (1000000000:Rat)^b=w5 at*;grind
  have h6:((M i).natAbs:Int)<=LB^(b+7):=by exact_mod_cast h5
  refine kL ?_;have h7:(LB:Int)^(b+8)=LB^(b+7)*LB:=Int.pow_succ _ _;have h8:=lbpos (b+7);have h9:LB^(b+7)<LB^(b+7)*LB:=by
   have:=Int.mul_lt_mul_of_pos_left (show (1:Int)<LB by decide) h8;simpa using this
  omega
 have hlast:=hMc (m.length-1);rw[<- bX hmp,m1] at hlast;have hM0:M (m.length-1)≠0:=by
  intro e;rw[e] at hlast;apply hc;grind
 refine⟨M (m.length-1),hM0,hlw _,fun i=>⟨M i,hlw i,?_⟩⟩;have h1:=hMc i;have hc2:c=(M (m.length-1):Rat):=by grind
 rw[Rat.divInt_eq_div,<- hc2,<- h1];grind
theorem Eb{s:List UInt8}{i:Nat}(hi:i<s.length)(h:(s.take i).all (· !=47)=true)(hb:s.getD i 0=47):s.take i=tN s/\s.drop (i+1)=tD s/\true=cu s:=by
 have e:s=s.take i++47::s.drop (i+1):=by
  rw[<- hb,List.getD_eq_getElem?_getD,List.getElem?_eq_getElem hi];simp only[Option.getD_some];rw[<- List.drop_eq_getElem_cons hi,List.take_append_drop]
 have hc:∀ c∈s.take i,c≠47:=by
  rw[List.all_eq_true] at h;intro c hc;simpa using h c hc
 have k:=Lv (b:=s.drop (i+1)) hc;rw[<- e] at k;refine⟨k.1.symm,?_,k.2.symm⟩;unfold tD tR;rw[if_pos k.2,k.1,List.length_take,Nat.min_eq_left (by omega)]
theorem Im{s:List UInt8}{i:Nat}(hi:i<s.length)(h:(s.take i).all (· !=47)=true)(hb: ¬s.getD i 0=47):(s.take (i+1)).all (· !=47)=true:=by
 rw[List.take_succ_eq_append_getElem hi,List.all_append,h];rw[List.getD_eq_getElem?_getD,List.getElem?_eq_getElem hi] at hb;simpa using hb
theorem LQ{s:List UInt8}{i:Nat}(hi: ¬i<s.length)(h:(s.take i).all (· !=47)=true):s=tN s/\ [49]=tD s/\false=cu s:=by
 rw[List.take_of_length_le (by omega)] at h;have hs:cu s=false:=uL fun c hc=>by
  rw[List.all_eq_true] at h;simpa using h c hc
 exact⟨(uj hs).symm,by unfold tD;rw[hs];rfl,hs.symm⟩
def QK:Nat:=10000000
def GQ(K:Nat)(a:List UInt8):Prop:=aX (bL a)=a/\lq (bL a)<=K
theorem GQ.parts{K:Nat}{a:List UInt8}(h:GQ K a):tN a=Lib.itoa (bL a).num/\tD a=Lib.itoa ((bL a).den:Int):=by
 have:=lG (bL a);rw[h.1] at this;exact⟨this.1,this.2.1⟩
theorem GQ.nums{K:Nat}{a:List UInt8}(h:GQ K a):ao (tN a)=(bL a).num/\ao (tD a)=((bL a).den:Int):=by
 rw[h.parts.1,h.parts.2];exact⟨(bg _).2,(bg _).2⟩
theorem GQ.rs{K:Nat}{a:List UInt8}(h:GQ K a):RS (9*K+2) (tN a)/\RS (9*K+2) (tD a):=by
 rw[h.parts.1,h.parts.2];have h1:=fk (bL a).num;have h2:=fk ((bL a).den:Int);have h3:=dJ (bL a);have h4:=dk (bL a);have h5:=h.2;exact⟨⟨(bg _).1,by omega⟩,(bg _).1,by omega⟩
theorem GQ.len{K:Nat}{a:List UInt8}(h:GQ K a):a.length<=18*K+5:=by
 rw[<- h.1];exact oU h.2
theorem RS.mono'{n m:Nat}{s:List UInt8}(h:RS n s)(hm:n<=m):RS m s:=⟨h.1,Nat.le_trans h.2 hm⟩
theorem ml{x:Rat}{K:Nat}(h:lq x<=K):GQ K (aX x):=⟨by rw[df],by rw[df];exact h⟩
theorem AX{v:Int}:Lib.itoa v= [49]↔v=1:=by
 have h1:Lib.itoa 1= [49]:=by decide+kernel
 constructor;·intro h;have:=(bg v).2;rw[h,<- h1,(bg 1).2] at this;exact this.symm
 ·rintro rfl;exact h1
theorem oW{n d:Int}(hd:d≠0):(Rat.divInt n d).num=bV n (dL n d)/\(((Rat.divInt n d).den:Nat):Int)=bV d (dL n d):=by
 have h:=nd (n:=n) hd;unfold bk at h;have h1:=congrArg (fun x:ND=>dec x.1) h;have h2:=congrArg (fun x:ND=>dec x.2) h;simp only[bO] at h1 h2;exact⟨h1,h2⟩
theorem AY{s:List UInt8}{k:Nat}(hl:s.length<=1000000000)(hi:k<s.length)(h:(s.take k).all (· !=47)=true)(hb:s.getD k 0=47):
  List.drop (Int.toNat 0) (List.take ((k:Int)).toNat s)=tN s/\List.drop (IntKind.i64.wrap ((k:Int)+1)).toNat (List.take (((s.length:Nat):Int)).toNat s)=tD s/\true=cu s:=by
 have h1:=Eb hi h hb;rw[wi (by omega) (by omega),Int.toNat_natCast,Int.toNat_natCast,show ((k:Int)+1).toNat=k+1 by omega,List.take_length];exact h1
def MkR(n d:List UInt8):Prop:=RS 200000000 n/\RS 200000000 d/\ao d≠0
theorem Pb{n:Nat}{s:List UInt8}(h:RS n s):lw (ao s)<=n:=Nat.le_trans (uk h.1) h.2
theorem Og{n:Nat}{s:List UInt8}(h:RS n s):(ao s).natAbs<10^n:=ma h
theorem qa{v w:Int}{n:Nat}(h:w.natAbs<10^n)(hv:v.natAbs<=w.natAbs):RS (n+2) (Lib.itoa v):=(nK (k:=n) (by omega) (Nat.le_refl _)).1
theorem Pc{n d:List UInt8}(h:MkR n d):RS 200000002 (Lib.itoa (cJ (ao n) (ao d)))/\RS 200000002 (Lib.itoa (dL (ao n) (ao d))):=by
 have h1:=Og h.2.1;exact⟨qa h1 (qt h.2.2),qa h1 (lu h.2.2).1⟩
theorem oX{n d:List UInt8}(h:MkR n d):RS 1000000000 n/\RS 1000000000 d:=⟨h.1.mono' (by omega),h.2.1.mono' (by omega)⟩
theorem Io{n d:List UInt8}(h:MkR n d):RF (Lib.itoa (cJ (ao n) (ao d)))/\4*(Lib.itoa (cJ (ao n) (ao d))).length<CAP:=by
 have:=(Pc h).1;have h2:=this.2;exact⟨this.1,by unfold CAP;omega⟩
theorem FE{n d:List UInt8}(h:ao d<0):Lib.itoa (-ao (Lib.itoa (cJ (ao n) (ao d))))=Lib.itoa (dL (ao n) (ao d)):=by
 rw[(bg _).2];unfold dL;rw[if_pos h]
theorem FF{n d:List UInt8}(h: ¬ao d<0):Lib.itoa (cJ (ao n) (ao d))=Lib.itoa (dL (ao n) (ao d)):=by
 unfold dL;rw[if_neg h]
theorem qB{a b:Int}:bD a b<0↔a<b:=by
 unfold bD;split;·constructor<;>omega
 ·split;·constructor<;>omega
  ·constructor<;>omega
theorem wO{n d:List UInt8}(h:MkR n d):RS 1000000000 n/\RS 1000000000 (Lib.itoa (dL (ao n) (ao d)))/\ao (Lib.itoa (dL (ao n) (ao d)))≠0:=by
 rw[(bg _).2];exact⟨(oX h).1,(Pc h).2.mono' (by omega),(lu h.2.2).2⟩
theorem Ip{n d:List UInt8}(h:MkR n d):RS 1000000000 d/\RS 1000000000 (Lib.itoa (dL (ao n) (ao d)))/\ao (Lib.itoa (dL (ao n) (ao d)))≠0:=⟨(oX h).2,(wO h).2⟩
theorem Oh{n d:List UInt8}(h:MkR n d)(hb:Lib.itoa (bV (ao d) (ao (Lib.itoa (dL (ao n) (ao d)))))= [49]):Lib.itoa (bV (ao n) (ao (Lib.itoa (dL (ao n) (ao d)))))=aX (Rat.divInt (ao n) (ao d)):=by
 rw[(bg _).2] at hb ⊢;obtain⟨h1,h2⟩:=oW (n:=ao n) h.2.2;rw[<- h2,AX] at hb;unfold aX;rw[if_pos (by omega),h1]
theorem Oi{n d:List UInt8}(h:MkR n d)(hb: ¬Lib.itoa (bV (ao d) (ao (Lib.itoa (dL (ao n) (ao d)))))= [49]):Lib.itoa (bV (ao n) (ao (Lib.itoa (dL (ao n) (ao d)))))++ [47]++Lib.itoa (bV (ao d) (ao (Lib.itoa (dL (ao n) (ao d)))))=aX (Rat.divInt (ao n) (ao d)):=by
 rw[(bg _).2] at hb ⊢;obtain⟨h1,h2⟩:=oW (n:=ao n) h.2.2;rw[<- h2,AX] at hb;unfold aX;rw[if_neg (by omega),h1,h2]
theorem Iq{n d:List UInt8}(h:MkR n d):(Lib.itoa (bV (ao n) (ao (Lib.itoa (dL (ao n) (ao d)))))).length+1<=maxLen/\
  (Lib.itoa (bV (ao n) (ao (Lib.itoa (dL (ao n) (ao d)))))++ [47]).length+(Lib.itoa (bV (ao d) (ao (Lib.itoa (dL (ao n) (ao d)))))).length<=maxLen:=by
 rw[(bg _).2];obtain⟨h1,h2⟩:=oW (n:=ao n) h.2.2;have h3:=jB (ao n) (ao d) h.2.2;have h4:=Pb h.1;have h5:=Pb h.2.1;have h6:=fk (Rat.divInt (ao n) (ao d)).num;have h7:=fk (((Rat.divInt (ao n) (ao d)).den:Nat):Int);have h8:=dJ (Rat.divInt (ao n) (ao d));have h9:=dk (Rat.divInt (ao n) (ao d));rw[h1] at h6;rw[h2] at h7;rw[h1] at h8;rw[h2] at h9;have e7:maxLen=9223372036854775807:=rfl;simp only[List.length_append,List.length_cons,List.length_nil];omega
theorem LR{n d:Int}(h:I64 n/\I64 d/\d≠0):I64 n/\I64 d/\RS 200000000 (Lib.itoa n)/\RS 200000000 (Lib.itoa d)/\ao (Lib.itoa d)≠0:=by
 have h1:=fk n;have h2:=fk d;have h3:=oI h.1;have h4:=oI h.2.1;rw[(bg d).2];exact⟨h.1,h.2.1,⟨(bg n).1,by omega⟩,⟨(bg d).1,by omega⟩,h.2.2⟩
theorem Oj{n d:Int}:aX (Rat.divInt (ao (Lib.itoa n)) (ao (Lib.itoa d)))=aX (Rat.divInt n d):=by
 rw[(bg n).2,(bg d).2]
theorem FG{a:List UInt8}(h:GQ QK a):a.length<=QL:=by
 have:=h.len;have e:QK=10000000:=rfl;have e2:QL=1000000000:=rfl;omega
theorem Pd{a:List UInt8}(h:GQ QK a):RS 200000000 (tN a)/\RS 200000000 (tD a):=by
 have e:QK=10000000:=rfl;exact⟨h.rs.1.mono' (by omega),h.rs.2.mono' (by omega)⟩
theorem gl{a:List UInt8}(h:GQ QK a):RS 20000000000 (tN a)/\RS 20000000000 (tD a):=⟨(Pd h).1.mono' (by omega),(Pd h).2.mono' (by omega)⟩
theorem AZ{a b:List UInt8}(ha:GQ QK a)(hb:GQ QK b)(h1:tD a= [49])(h2:tD b= [49]):(bL a).den=1/\(bL b).den=1:=by
 have k1:=ha.nums.2;have k2:=hb.nums.2;rw[h1,nL] at k1;rw[h2,nL] at k2;omega
theorem nT{x:Rat}(h:x.den=1):x=(x.num:Rat):=by
 have:=Rat.num_divInt_den x;rw[h,Rat.divInt_eq_div] at this;rw[show (((1:Nat):Int):Rat)=1 from rfl] at this;grind
theorem uR(n:Int):aX (n:Rat)=Lib.itoa n:=by unfold aX;rw[if_pos (Rat.den_intCast n),Rat.num_intCast]
theorem LS{a b:List UInt8}(ha:GQ QK a)(hb:GQ QK b)(h:tD a= [49]/\tD b= [49]):Lib.itoa (ao (tN a)+ao (tN b))=aX (bL a+bL b):=by
 obtain⟨k1,k2⟩:=AZ ha hb h.1 h.2;rw[ha.nums.1,hb.nums.1,nT k1,nT k2,<- Rat.intCast_add,uR,Rat.num_intCast,Rat.num_intCast]
theorem LU{a b:List UInt8}(ha:GQ QK a)(hb:GQ QK b)(h:tD a= [49]/\tD b= [49]):Lib.itoa (ao (tN a)*ao (tN b))=aX (bL a*bL b):=by
 obtain⟨k1,k2⟩:=AZ ha hb h.1 h.2;rw[ha.nums.1,hb.nums.1,nT k1,nT k2,<- Rat.intCast_mul,uR,Rat.num_intCast,Rat.num_intCast]
theorem wP{v:Int}{k:Nat}(h:lw v<=k):RS (9*k+2) (Lib.itoa v):=⟨(bg v).1,by have:=fk v;omega⟩
theorem FH{a:List UInt8}(h:GQ QK a):lw (bL a).num<=QK/\lw ((bL a).den:Int)<=QK:=by
 have:=dJ (bL a);have:=dk (bL a);have:=h.2;omega
theorem Ir{a b:List UInt8}(ha:GQ QK a)(hb:GQ QK b):(RS 20000000000 (tN a)/\RS 20000000000 (tD b))/\
  (RS 20000000000 (tN b)/\RS 20000000000 (tD a))/\
   (RS 20000000000 (Lib.itoa (ao (tN a)*ao (tD b)))/\RS 20000000000 (Lib.itoa (ao (tN b)*ao (tD a))))/\
    (RS 20000000000 (tD a)/\RS 20000000000 (tD b))/\
     RS 200000000 (Lib.itoa (ao (Lib.itoa (ao (tN a)*ao (tD b)))+ao (Lib.itoa (ao (tN b)*ao (tD a)))))/\
      RS 200000000 (Lib.itoa (ao (tD a)*ao (tD b)))/\ao (Lib.itoa (ao (tD a)*ao (tD b)))≠0:=by
 have e:QK=10000000:=rfl;simp only[(bg _).2];have k1:=FH ha;have k2:=FH hb;rw[ha.nums.1,ha.nums.2,hb.nums.1,hb.nums.2];have m1:=bW (bL a).num (bL b).den;have m2:=bW (bL b).num (bL a).den;have m3:=bW ((bL a).den:Int) (bL b).den;have m4:=uf ((bL a).num*(bL b).den) ((bL b).num*(bL a).den);exact⟨⟨(gl ha).1,(gl hb).2⟩,⟨(gl hb).1,(gl ha).2⟩,⟨(wP (k:=20000000) (by omega)).mono' (by omega),(wP (k:=20000000) (by omega)).mono' (by omega)⟩,⟨(gl ha).2,(gl hb).2⟩,
  (wP (k:=20000001) (by omega)).mono' (by omega),(wP (k:=20000001) (by omega)).mono' (by omega),Int.mul_ne_zero (dK _) (dK _)⟩
theorem LW{a b:List UInt8}(ha:GQ QK a)(hb:GQ QK b):aX (Rat.divInt (ao (Lib.itoa (ao (Lib.itoa (ao (tN a)*ao (tD b)))+ao (Lib.itoa (ao (tN b)*ao (tD a)))))) (ao (Lib.itoa (ao (tD a)*ao (tD b)))))=aX (bL a+bL b):=by
 simp only[(bg _).2];rw[ha.nums.1,ha.nums.2,hb.nums.1,hb.nums.2,<- na]
theorem Is{a b:List UInt8}(ha:GQ QK a)(hb:GQ QK b):(RS 20000000000 (tN a)/\RS 20000000000 (tN b))/\
  (RS 20000000000 (tD a)/\RS 20000000000 (tD b))/\
   RS 200000000 (Lib.itoa (ao (tN a)*ao (tN b)))/\
    RS 200000000 (Lib.itoa (ao (tD a)*ao (tD b)))/\ao (Lib.itoa (ao (tD a)*ao (tD b)))≠0:=by
 have e:QK=10000000:=rfl;simp only[(bg _).2];have k1:=FH ha;have k2:=FH hb;rw[ha.nums.1,ha.nums.2,hb.nums.1,hb.nums.2];have m1:=bW (bL a).num (bL b).num;have m3:=bW ((bL a).den:Int) (bL b).den;exact⟨⟨(gl ha).1,(gl hb).1⟩,⟨(gl ha).2,(gl hb).2⟩,(wP (k:=20000001) (by omega)).mono' (by omega),(wP (k:=20000001) (by omega)).mono' (by omega),Int.mul_ne_zero (dK _) (dK _)⟩
theorem LX{a b:List UInt8}(ha:GQ QK a)(hb:GQ QK b):aX (Rat.divInt (ao (Lib.itoa (ao (tN a)*ao (tN b)))) (ao (Lib.itoa (ao (tD a)*ao (tD b)))))=aX (bL a*bL b):=by
 simp only[(bg _).2];rw[ha.nums.1,ha.nums.2,hb.nums.1,hb.nums.2,<- nb]
theorem LY{p q:List (List UInt8)}(h: ¬ (p.length:Int)=(q.length:Int)):false=decide (p=q):=by
 symm
 rw[decide_eq_false_iff_not];rintro rfl;exact h rfl
theorem It{p q:List (List UInt8)}{k:Nat}(he:p.length=q.length)(hk:k<p.length)(h:p.take k=q.take k)(hb:nth .str p (k:Int)=nth .str q (k:Int)):p.take (k+1)=q.take (k+1):=by
 rw[gh (t:= .str) hk,gh (t:= .str) (by omega:k<q.length)] at hb;rw[List.take_succ_eq_append_getElem hk,List.take_succ_eq_append_getElem (by omega:k<q.length),h,hb]
theorem LZ{p q:List (List UInt8)}{k:Nat}(hb: ¬nth .str p (k:Int)=nth .str q (k:Int)):false=decide (p=q):=by
 symm
 rw[decide_eq_false_iff_not];rintro rfl;exact hb rfl
theorem L0{p q:List (List UInt8)}{k:Nat}(he:p.length=q.length)(hk: ¬k<p.length)(h:p.take k=q.take k):true=decide (p=q):=by
 symm
 rw[decide_eq_true_iff];rwa [List.take_of_length_le (by omega),List.take_of_length_le (by omega)] at h
theorem FI{s:List UInt8}{k:Nat}:(((s.getD (k:Int).toNat 0).toNat:Nat):Int)=47↔s.getD k 0=47:=by
 rw[Int.toNat_natCast];constructor;·intro h;exact UInt8.toNat_inj.1 (by show _=47;omega)
 ·intro h;rw[h];rfl
theorem Iu{s:List UInt8}{k:Nat}(hl:s.length<=1000000000)(hk:k<s.length):((0:Int)<=0/\(0:Int)<=(k:Int)/\(k:Int)<=((s.length:Nat):Int))/\
  (0:Int)<=IntKind.i64.wrap ((k:Int)+1)/\IntKind.i64.wrap ((k:Int)+1)<=((s.length:Nat):Int)/\((s.length:Nat):Int)<=((s.length:Nat):Int):=by
 rw[wi (by omega) (by omega)];omega
def nl(p:List (List UInt8)):List Rat:=p.map bL
def GL(K:Nat)(p:List (List UInt8)):Prop:=∀ q∈p,GQ K q
theorem GL.tx{K:Nat}{p:List (List UInt8)}(h:GL K p):txP (nl p)=p:=by
 unfold txP nl;rw[List.map_map];conv=>rhs;rw[<- List.map_id p]
 exact List.map_congr_left fun q hq=>(h q hq).1
theorem GL.lq{K:Nat}{p:List (List UInt8)}(h:GL K p):∀ x∈nl p,lq x<=K:=by
 intro x hx;obtain⟨q,hq,rfl⟩:=List.mem_map.1 hx;exact(h q hq).2
theorem qb{K:Nat}{l:List Rat}(h:∀ x∈l,lq x<=K):GL K (txP l):=by
 intro q hq;obtain⟨x,hx,rfl⟩:=List.mem_map.1 hq;exact ml (h x hx)
theorem lK(l:List Rat):nl (txP l)=l:=Fu l
theorem jC(p:List (List UInt8)):(nl p).length=p.length:=by simp[nl]
theorem GL.mono{K m:Nat}{p:List (List UInt8)}(h:GL K p)(hm:K<=m):GL m p:=fun q hq=>⟨(h q hq).1,Nat.le_trans (h q hq).2 hm⟩
theorem GL.ex{K:Nat}{p:List (List UInt8)}(h:GL K p):∃ l,p=txP l/\∀ x∈l,Cm.lq x<=K:=⟨nl p,h.tx.symm,h.lq⟩
theorem L1{l:List Rat}{k:Nat}(h:k<l.length):nth .str (txP l) (k:Int)=aX (cf l k):=by
 rw[gh (t:= .str) (by rw[cm];exact h)];unfold txP cf;rw[List.getElem_map,List.getD_eq_getElem?_getD,List.getElem?_eq_getElem h];rfl
theorem oY:aX 0= [48]:=eT.2 rfl
theorem nU{p:List (List UInt8)}{K:Nat}(h:GL K p){k:Nat}(hk:k<p.length):nth .str p (k:Int)=aX (cf (nl p) k):=by
 have:=L1 (l:=nl p) (k:=k) (by rw[jC];exact hk);rwa [h.tx] at this
theorem L2{p:List (List UInt8)}{k:Nat}(hk: ¬k<p.length): [48]=aX (cf (nl p) k):=by
 rw[bE (by rw[jC];omega),oY]
theorem yv{l:List Rat}(h:0<l.length)(hl:l.length<=1000000000):nth .str (txP l) (IntKind.i64.wrap ((l.length:Int)-1))=aX (aH l):=by
 rw[cp hl,show (l.length:Int)-1=((l.length-1:Nat):Int) by omega,L1 (by omega),bX h]
theorem Ok{l:List Rat}(hl:l.length<=1000000000)(hb:(0:Int)<((txP l).length:Int))(hc:nth .str (txP l) (IntKind.i64.wrap (((txP l).length:Int)-1))= [48]):0<l.length/\aH l=0:=by
 rw[cm] at hb hc;rw[yv (by omega) hl,eT] at hc;exact⟨by omega,hc⟩
theorem Ol{l:List Rat}(hl:l.length<=1000000000)(hb:(0:Int)<((txP l).length:Int)-> ¬nth .str (txP l) (IntKind.i64.wrap (((txP l).length:Int)-1))= [48]):aS l=l:=by
 rw[cm] at hb;by_cases h:l= [];·subst h;rfl
 ·have h1:=List.length_pos_iff.2 h;have h2:=hb (by omega);rw[yv h1 hl,eT] at h2;exact ko h h2
theorem Ec{l:List Rat}(hl:l.length<=1000000000)(h:decide ((0:Int)<((txP l).length:Int))=true):decide ((0:Int)<((txP l).length:Int))=true/\0<=IntKind.i64.wrap (((txP l).length:Int)-1)/\IntKind.i64.wrap (((txP l).length:Int)-1)<((txP l).length:Int):=by
 have h1:=of_decide_eq_true h;refine⟨h,?_⟩;rw[cm] at h1 ⊢;rw[cp hl];omega
theorem Ed{l l0:List Rat}{K:Nat}(hl:l.length<=1000000000)(g1:l.length<=l0.length)(g2:∀ x∈l,lq x<=K)(g3:aS l=aS l0)(h:0<l.length/\aH l=0):
  List.take (IntKind.i64.wrap (((txP l).length:Int)-1)).toNat (txP l)=txP l.dropLast/\l.dropLast.length<=l0.length/\(∀ x∈l.dropLast,lq x<=K)/\aS l.dropLast=aS l0/\l.dropLast.length<l.length:=by
 rw[cm,cp hl,show ((l.length:Int)-1).toNat=l.length-1 by omega];refine⟨?_,by rw[List.length_dropLast];omega,fun x hx=>g2 x (List.dropLast_subset _ hx),?_,by rw[List.length_dropLast];omega⟩;·unfold txP;rw[<- List.map_take,List.dropLast_eq_take]
 ·rw[<- g3,kq (List.length_pos_iff.1 h.1) h.2]
def QK2:Nat:=4000000
theorem uS(l:List Rat)(x:Rat):txP (l++ [x])=txP l++ [aX x]:=by simp[txP]
theorem wQ{K:Nat}{p:List (List UInt8)}(h:GL K p)(hK:1<=K)(i:Nat):lq (cf (nl p) i)<=K:=kM h.lq hK i
theorem oZ{p q:List (List UInt8)}(hp:GL QK2 p)(hq:GL QK2 q)(k:Nat):(GL QK p/\(0:Int)<=(k:Int))/\(GL QK q/\(0:Int)<=(k:Int))/\GQ QK (aX (cf (nl p) (k:Int).toNat))/\GQ QK (aX (cf (nl q) (k:Int).toNat)):=by
 have e:QK=10000000:=rfl;have e2:QK2=4000000:=rfl;rw[Int.toNat_natCast];have h1:=wQ hp (by omega) k;have h2:=wQ hq (by omega) k;exact⟨⟨hp.mono (by omega),by omega⟩,⟨hq.mono (by omega),by omega⟩,ml (by omega),ml (by omega)⟩
theorem Ee{p q:List (List UInt8)}{k n:Nat}(h:k<n)(hn:n<=1000000):∃ z:Nat,IntKind.i64.wrap ((k:Int)+1)=(z:Int)/\txP (bT (· + ·) (nl p) (nl q) k)++ [aX (bL (aX (cf (nl p) (k:Int).toNat))+bL (aX (cf (nl q) (k:Int).toNat)))]=txP (bT (· + ·) (nl p) (nl q) z)/\z<=n/\n-z<n-k:=by
 refine⟨k+1,by rw[wi (by omega) (by omega)];omega,?_,by omega,by omega⟩;rw[Int.toNat_natCast,df,df,nM,uS]
theorem Iv{p q:List (List UInt8)}(hp:GL QK2 p)(hq:GL QK2 q)(k:Nat):GL QK (txP (bT (· + ·) (nl p) (nl q) k)):=by
 refine qb fun x hx=> ?_;obtain⟨i,_,rfl⟩:=List.mem_map.1 hx;have e:QK=10000000:=rfl;have e2:QK2=4000000:=rfl;have h1:=wQ hp (by omega) i;have h2:=wQ hq (by omega) i;have:=oJ (cf (nl p) i) (cf (nl q) i);show lq (cf (nl p) i+cf (nl q) i)<=_;omega
theorem L3{p q:List (List UInt8)}{k:Nat}(h1:k<=max p.length q.length)(h: ¬k<max p.length q.length):txP (aS (nl (txP (bT (· + ·) (nl p) (nl q) k))))=txP (bl (· + ·) (nl p) (nl q)):=by
 have e:k=max p.length q.length:=by omega
 unfold bl;rw[lK,jC,jC,<- e]
def fA(c:Rat)(l:List Rat):List Rat:=aS (l.map fun x=>c*x)
def iY(k:Nat)(l:List Rat):List Rat:=aS (List.replicate k 0++l)
theorem A0{c:List UInt8}{p:List (List UInt8)}{K:Nat}(hp:GL K p){k:Nat}(h:k<p.length)(hn:p.length<=1000000):∃ z:Nat,IntKind.i64.wrap ((k:Int)+1)=(z:Int)/\txP (((nl p).take k).map fun x=>bL c*x)++ [aX (bL c*bL (nth .str p (k:Int)))]=txP (((nl p).take z).map fun x=>bL c*x)/\z<=p.length/\p.length-z<p.length-k:=by
 refine⟨k+1,by rw[wi (by omega) (by omega)];omega,?_,by omega,by omega⟩;rw[nU hp h,df,List.take_succ_eq_append_getElem (by rw[jC];exact h),List.map_append,<- uS];congr 2;unfold cf;rw[List.getD_eq_getElem?_getD,List.getElem?_eq_getElem (by rw[jC];exact h)];rfl
theorem Ef{c:List UInt8}{p:List (List UInt8)}(hc:GQ QK2 c)(hp:GL QK2 p)(k:Nat):GL QK (txP (((nl p).take k).map fun x=>bL c*x)):=by
 refine qb fun x hx=> ?_;obtain⟨y,hy,rfl⟩:=List.mem_map.1 hx;have e:QK=10000000:=rfl;have e2:QK2=4000000:=rfl;have:=nc (bL c) y;have:=hc.2;have:=hp.lq y (List.mem_of_mem_take hy);omega
theorem Iw{c:List UInt8}{p:List (List UInt8)}{k:Nat}(h: ¬k<p.length):txP (aS (nl (txP (((nl p).take k).map fun x=>bL c*x))))=txP (fA (bL c) (nl p)):=by
 rw[lK,List.take_of_length_le (by rw[jC];omega)];rfl
theorem L4(k:Nat):List.replicate k [48]++ [[48]]=List.replicate (k+1) ([48]:List UInt8):=(List.replicate_succ' ..).symm
theorem Om(k:Nat):txP (List.replicate k 0)=List.replicate k [48]:=by unfold txP;rw[List.map_replicate,oY]
theorem Eg{p:List (List UInt8)}(hp:GL QK p)(k:Nat):GL QK (List.replicate k [48]++p):=by
 intro q hq;rcases List.mem_append.1 hq with h|h
 ·rw[(List.mem_replicate.1 h).2,<- oY];exact ml (Nat.le_trans iw (by unfold QK;decide))
 ·exact hp q h
theorem Ix(p q:List (List UInt8)):nl (p++q)=nl p++nl q:=by simp[nl]
theorem P3(k:Nat):nl (List.replicate k [48])=List.replicate k 0:=by rw[<- Om,lK]
theorem Iy{p:List (List UInt8)}{k:Nat}:txP (aS (nl (List.replicate k [48]++p)))=txP (iY k (nl p)):=by
 rw[Ix,P3];rfl
def fc(l m:List Rat):Nat->List Rat
 |0=> []
 |i+1=>bl (· + ·) (fc l m i) (iY i (fA (cf l i) m))
theorem L5(c:Rat)(l:List Rat)(x:Rat):ak (fA c l) x=c*ak l x:=by
 unfold fA;rw[eE];induction l with
 |nil=>simp only[List.map_nil,cb];grind
 |cons a l ih=>simp only[List.map_cons,cg,ih];grind
theorem L6(k:Nat)(l:List Rat)(x:Rat):ak (iY k l) x=x^k*ak l x:=by
 unfold iY;rw[eE,oP,DW,List.length_replicate];grind
theorem FJ(l m:List Rat)(x:Rat):∀ i,i<=l.length->ak (fc l m i) x=ak (l.take i) x*ak m x
 |0,_=>by simp only[fc,List.take_zero,cb];grind
 |i+1,h=>by
  rw[fc,ew,L6,L5,FJ l m x i (by omega),qw l i x (by omega)];grind
theorem L7(l m:List Rat):∀ i,Trm (fc l m i)
 |0=>me
 |i+1=>e8 _ _ _
theorem Oo{l m:List Rat}(hl:Trm l)(hm:Trm m):fc l m l.length=bh l m:=
 gJ (L7 _ _ _) (eg hl hm) fun x=>by rw[FJ l m x _ (Nat.le_refl _),List.take_length,aR]
theorem A1{c:Rat}{l:List Rat}{K:Nat}(hc:lq c<=K)(hl:∀ x∈l,lq x<=K):∀ x∈fA c l,lq x<=2*K:=by
 intro x hx;obtain⟨y,hy,rfl⟩:=List.mem_map.1 (iH x hx);have:=nc c y;have:=hl y hy;omega
theorem A2{k:Nat}{l:List Rat}{K:Nat}(hK:1<=K)(hl:∀ x∈l,lq x<=K):∀ x∈iY k l,lq x<=K:=by
 intro x hx;rcases List.mem_append.1 (iH x hx) with h|h;·rw[(List.mem_replicate.1 h).2];exact Nat.le_trans iw hK
 ·exact hl x h
theorem P4{l m:List Rat}{K M:Nat}(hK:1<=K)(hM:1<=M)(hl:∀ x∈l,lq x<=K)(hm:∀ x∈m,lq x<=M):∀ x∈bl (· + ·) l m,lq x<=K+M+1:=by
 intro x hx;obtain⟨i,_,rfl⟩:=List.mem_map.1 (iH x hx);have h1:=kM hl hK i;have h2:=kM hm hM i;have:=oJ (cf l i) (cf m i);show lq (cf l i+cf m i)<=_;omega
theorem FK{l m:List Rat}{K:Nat}(hK:1<=K)(hl:∀ x∈l,lq x<=K)(hm:∀ x∈m,lq x<=K):∀ i,∀ x∈fc l m i,lq x<=1+i*(2*K+1)
 |0=>by intro x hx;simp[fc] at hx
 |i+1=>by
  intro x hx;have h1:=P4 (by omega) (by omega:1<=2*K) (FK hK hl hm i) (A2 (k:=i) (by omega) (A1 (kM hl hK i) hm)) x hx;rw[Nat.add_mul];omega
theorem wR(c:Rat)(l:List Rat):(fA c l).length<=l.length:=by
 have:=eu (l.map fun x=>c*x);rwa [List.length_map] at this
theorem wS(k:Nat)(l:List Rat):(iY k l).length<=k+l.length:=by
 have:=eu (List.replicate k 0++l);rw[List.length_append,List.length_replicate] at this;exact this
theorem A3(l m:List Rat):∀ i,(fc l m i).length<=i+m.length
 |0=>by simp[fc]
 |i+1=>by
  have h1:=A3 l m i;have h2:=e9 (· + ·) (fc l m i) (iY i (fA (cf l i) m));have h3:=wS i (fA (cf l i) m);have h4:=wR (cf l i) m;rw[fc];omega
def L8(p q:List (List UInt8)):Prop:=GL 10000 p/\GL 10000 q/\p.length<=100/\q.length<=100
theorem Iz{p q:List (List UInt8)}(h:L8 p q){k:Nat}(hk:k<p.length):(GQ QK2 (nth .str p (k:Int))/\GL QK2 q/\q.length<=1000000)/\(GL QK (txP (fA (bL (nth .str p (k:Int))) (nl q)))/\(0:Int)<=(k:Int)/\(k:Int)<=1000000/\(txP (fA (bL (nth .str p (k:Int))) (nl q))).length<=1000000)/\
  GL QK2 (txP (fc (nl p) (nl q) k))/\GL QK2 (txP (iY (k:Int).toNat (nl (txP (fA (bL (nth .str p (k:Int))) (nl q))))))/\(txP (fc (nl p) (nl q) k)).length<=1000000/\(txP (iY (k:Int).toNat (nl (txP (fA (bL (nth .str p (k:Int))) (nl q)))))).length<=1000000:=by
 obtain⟨hp,hq,hl,hl2⟩:=h;have e:QK=10000000:=rfl;have e2:QK2=4000000:=rfl;rw[nU hp hk,df,lK,Int.toNat_natCast];have h1:=wQ hp (by omega) k;have s1:=A1 h1 hq.lq;have s2:=A2 (k:=k) (by omega) s1;have s3:=FK (by omega) hp.lq hq.lq k;have l1:=wR (cf (nl p) k) (nl q);have l2:=wS k (fA (cf (nl p) k) (nl q));have l3:=A3 (nl p) (nl q) k;rw[jC] at l1 l3;refine⟨⟨ml (by omega),hq.mono (by omega),by omega⟩,⟨qb fun x hx=>by have:=s1 x hx;omega,by omega,by omega,by rw[cm];omega⟩,qb fun x hx=> ?_,qb fun x hx=>by have:=s2 x hx;omega,by rw[cm];omega,by rw[cm];omega⟩;have:=s3 x hx;have h9:k*(2*10000+1)<=100*(2*10000+1):=Nat.mul_le_mul_right _ (by omega);omega
theorem Eh{p q:List (List UInt8)}(h:L8 p q){k:Nat}(hk:k<p.length):∃ z:Nat,IntKind.i64.wrap ((k:Int)+1)=(z:Int)/\txP (bl (· + ·) (nl (txP (fc (nl p) (nl q) k))) (nl (txP (iY (k:Int).toNat (nl (txP (fA (bL (nth .str p (k:Int))) (nl q))))))))=txP (fc (nl p) (nl q) z)/\z<=p.length/\p.length-z<p.length-k:=by
 have hl:=h.2.2.1;refine⟨k+1,by rw[wi (by omega) (by omega)];omega,?_,by omega,by omega⟩;rw[nU h.1 hk,df,lK,lK,lK,Int.toNat_natCast];rfl
theorem L9{p q:List (List UInt8)}{k:Nat}(h1:k<=p.length)(h: ¬k<p.length):txP (fc (nl p) (nl q) k)=txP (fc (nl p) (nl q) p.length):=by
 rw[show k=p.length by omega]
theorem QP{k a b:Nat}(h:(decide ((k:Int)<(a:Int))||decide ((k:Int)<(b:Int)))=true):k<max a b:=by
 rw[Bool.or_eq_true,decide_eq_true_iff,decide_eq_true_iff] at h;omega
theorem QQ{k a b:Nat}(h:(decide ((k:Int)<(a:Int))||decide ((k:Int)<(b:Int)))=false): ¬k<max a b:=by
 rw[Bool.or_eq_false_iff,decide_eq_false_iff_not,decide_eq_false_iff_not] at h;omega
theorem uT{n:Nat}(h:n<=3000000):Cm.Roomy 1 n:=yd (by omega)
theorem Ei{p q:List (List UInt8)}(hp:GL QK2 p)(hq:GL QK2 q){k:Nat}(hk:k<=1000000):(GL QK p/\(0:Int)<=(k:Int))/\(GL QK q/\(0:Int)<=(k:Int))/\(GQ QK (aX (cf (nl p) (k:Int).toNat))/\GQ QK (aX (cf (nl q) (k:Int).toNat)))/\Cm.Roomy 1 ((txP (bT (· + ·) (nl p) (nl q) k)).length+1):=
 ⟨(oZ hp hq k).1,(oZ hp hq k).2.1,(oZ hp hq k).2.2,uT (by rw[cm,dP];omega)⟩
theorem A4{c:List UInt8}{p:List (List UInt8)}(hc:GQ QK2 c)(hp:GL QK2 p)(hl:p.length<=1000000){k:Nat}(hk:k<p.length):((0:Int)<=(k:Int)/\(k:Int)<((p.length:Nat):Int))/\(GQ QK c/\GQ QK (nth .str p (k:Int)))/\Cm.Roomy 1 ((txP (List.map (fun x=>bL c*x) (List.take k (nl p)))).length+1):=by
 have e:QK=10000000:=rfl;have e2:QK2=4000000:=rfl;have h1:=wQ hp (by omega) k;refine⟨by omega,⟨⟨hc.1,by have:=hc.2;omega⟩,by rw[nU hp hk];exact ml (by omega)⟩,uT ?_⟩;rw[cm,List.length_map,List.length_take,jC];omega
abbrev DPD:=List Int×Int×List Int
def kx(d:DPD):Prop:=(∀ n∈d.1, -128<=n/\n<128)/\(0<=d.2.1/\d.2.1<256)/\∀ n∈d.2.2, -128<=n/\n<128
def P5(d:DPD)(n:Int):Rat:=Rat.divInt (n.tmod 10) (1+d.2.1.tmod 4)
def gW(d:DPD)(k:Nat):List Rat:=(d.1.take k).map (P5 d)
def gm(r:Int):List Rat:= [Rat.divInt (-r.tmod 8) 2,1]
def jD(d:DPD):Nat->List Rat
 |0=>aS (gW d 5)
 |i+1=>bh (jD d i) (gm (d.2.2.getD i 0))
def nV(d:DPD):List Rat:=jD d (min d.2.2.length 4)
theorem fl(n:Int)(m:Int)(hm:0<m): -m<n.tmod m/\n.tmod m<m:=by
 have h1:=Int.tmod_lt_of_pos n hm;have h2:=Int.tmod_lt_of_pos (-n) hm;rw[Int.neg_tmod] at h2;omega
theorem gp{n:Int}(h:n.natAbs<1000000000):lw n<=1:=kL (by show _<(1000000000:Int)^1;omega)
theorem FL{d:DPD}(h:kx d)(l:List Int):Den 1 (l.map (P5 d)):=by
 obtain⟨_,⟨h1,h2⟩,_⟩:=h;have hD:=fl d.2.1 4 (by decide);have h0:0<=d.2.1.tmod 4:=Int.tmod_nonneg _ h1;refine⟨1+d.2.1.tmod 4,by omega,gp (by omega),fun i=> ?_⟩;by_cases hi:i<l.length;·refine⟨l[i].tmod 10,gp (by have:=fl l[i] 10 (by decide);omega),?_⟩;unfold cf;rw[List.getD_eq_getElem?_getD,List.getElem?_map,List.getElem?_eq_getElem hi];rfl
 ·exact⟨0,by rw[iv];omega,by rw[bE (by rw[List.length_map];omega),Rat.zero_divInt]⟩
theorem wT(r:Int):Trm (gm r):=fun _=>by unfold gm aH;show (1:Rat)≠0;decide
theorem A5(r:Int):Den 1 (gm r):=by
 have h:=fl r 8 (by decide);refine⟨2,by decide,gp (by decide),fun i=> ?_⟩;match i with
 |0=>exact⟨-r.tmod 8,gp (by omega),rfl⟩
 |1=>exact⟨2,gp (by decide),by show (1:Rat)=_;decide+kernel⟩
 |i+2=>exact⟨0,by rw[iv];omega,by rw[bE (by unfold gm;simp),Rat.zero_divInt]⟩
theorem nW{d:DPD}(h:kx d):∀ i,i<=4->Sml (5+i) (1+2*i) (jD d i)
 |0,_=>⟨by
   have:=eu (gW d 5);unfold jD;(have h2:(gW d 5).length<=5:=by unfold gW;rw[List.length_map,List.length_take];omega);omega,eR _,lF (FL h _)⟩
 |i+1,hi=>by
  have ih:=nW h i (by omega);have:=ih.mul (l2:=gm (d.2.2.getD i 0)) (m:=2) (c:=1) (k:=5+(i+1)) ⟨by unfold gm;simp,wT _,A5 _⟩ (by omega) (by omega) (by omega) (by omega);exact⟨this.len,this.trm,this.den.mono (by omega)⟩
theorem IA{d:DPD}(h:kx d):Sml 9 9 (nV d):=by
 have:=nW h (min d.2.2.length 4) (by omega);exact⟨by have:=this.len;unfold nV;omega,this.trm,this.den.mono (by omega)⟩
abbrev I8:Ty:= .int .i8
theorem yw{l:List Int}{k:Nat}(hk:k<l.length):nth I8 l (k:Int)=l[k]:=gh (t:=I8) hk
theorem P6{d:DPD}{k:Nat}(hk:k<d.1.length):txP (gW d k)++ [aX (P5 d (nth I8 d.1 (k:Int)))]=txP (gW d (k+1)):=by
 rw[<- uS];unfold gW;rw[yw hk,List.take_succ_eq_append_getElem hk,List.map_append];rfl
theorem Ma{d:DPD}{k:Nat}(h: ¬ (k<d.1.length/\k<5))(hk:k<=d.1.length/\k<=5):gW d k=gW d 5:=by
 unfold gW;by_cases h5:k=5;·rw[h5]
 ·rw[List.take_of_length_le (by omega),List.take_of_length_le (by omega)]
theorem FM{d:DPD}(h:kx d)(k:Nat):GL QK (txP (gW d k))/\(txP (gW d k)).length<=k:=by
 refine⟨qb fun x hx=>Nat.le_trans ((FL h (d.1.take k)).lq x hx) (by unfold QK;decide),?_⟩;rw[cm];unfold gW;rw[List.length_map,List.length_take];omega
theorem P7{d:DPD}{k:Nat}(h:(txP (gW d k)).length<=k)(hk:k<=d.1.length/\k<=5):(txP (gW d k)).length<=1000000000:=by omega
theorem A6(r:Int):txP (gm r)= [aX (Rat.divInt (-r.tmod 8) 2), [49]]:=by
 have h1:aX 1= [49]:=by decide+kernel
 unfold gm txP;simp[h1]
theorem Oq{d:DPD}(h:kx d){i:Nat}(hi:i<=4)(r:Int):L8 (txP (jD d i)) [aX (Rat.divInt (-r.tmod 8) 2), [49]]:=by
 have hs:=nW h i hi;rw[<- A6];refine⟨qb fun x hx=>Nat.le_trans (hs.den.lq x hx) (by omega),qb fun x hx=>Nat.le_trans ((A5 r).lq x hx) (by omega),by rw[cm];have:=hs.len;omega,by rw[cm];unfold gm;simp⟩
theorem P8{d:DPD}(h:kx d){i:Nat}(hi:i<d.2.2.length)(hi4:i<4):txP (fc (nl (txP (jD d i))) (nl [aX (Rat.divInt (-(nth I8 d.2.2 (i:Int)).tmod 8) 2), [49]]) (txP (jD d i)).length)=txP (jD d (i+1)):=by
 rw[<- A6,lK,lK,cm,Oo (nW h i (by omega)).trm (wT _),jD,yw hi];congr 3;rw[List.getD_eq_getElem?_getD,List.getElem?_eq_getElem hi];rfl
theorem P9{d:DPD}{i:Nat}(h: ¬ (i<d.2.2.length/\i<4))(hk:i<=d.2.2.length/\i<=4):txP (jD d i)=txP (nV d):=by
 unfold nV;rw[show min d.2.2.length 4=i by omega]
theorem Pe{k a n:Nat}(h:(decide ((k:Int)<(a:Int))&&decide ((k:Int)<(n:Int)))=true):k<a/\k<n:=by
 rw[Bool.and_eq_true,decide_eq_true_iff,decide_eq_true_iff] at h;omega
theorem Pf{k a n:Nat}(h:(decide ((k:Int)<(a:Int))&&decide ((k:Int)<(n:Int)))=false): ¬ (k<a/\k<n):=by
 rw[Bool.and_eq_false_iff,decide_eq_false_iff_not,decide_eq_false_iff_not] at h;omega
theorem QR{d:DPD}(h:kx d){k:Nat}(hk:k<d.2.2.length):IntKind.i64.wrap (0-(IntKind.i64.wrap (nth I8 d.2.2 (k:Int))).tmod 8)= -(nth I8 d.2.2 (k:Int)).tmod 8:=by
 have h1:=h.2.2 (nth I8 d.2.2 (k:Int)) (gj (t:=I8) hk);rw[wi (x:=nth I8 d.2.2 (k:Int)) (by omega) (by omega)];have h2:=fl (nth I8 d.2.2 (k:Int)) 8 (by decide);rw[wi (by omega) (by omega)];omega
theorem QS{d:DPD}(h:kx d){k:Nat}(hk:k<d.1.length):IntKind.i64.wrap (nth I8 d.1 (k:Int))=nth I8 d.1 (k:Int):=by
 have h1:=h.1 (nth I8 d.1 (k:Int)) (gj (t:=I8) hk);exact wi (by omega) (by omega)
theorem IB{d:DPD}(h:kx d){k:Nat}(hk:k<d.2.2.length/\k<4):((0:Int)<=(k:Int)/\(k:Int)<((d.2.2.length:Nat):Int))/\(8:Int)≠0/\
  (I64 (IntKind.i64.wrap (0-(IntKind.i64.wrap (nth I8 d.2.2 (k:Int))).tmod 8))/\I64 2/\(2:Int)≠0)/\
   L8 (txP (jD d k)) [aX (Rat.divInt (IntKind.i64.wrap (0-(IntKind.i64.wrap (nth I8 d.2.2 (k:Int))).tmod 8)) 2), [49]]:=by
 rw[QR h hk.1];have h2:=fl (nth I8 d.2.2 (k:Int)) 8 (by decide);exact⟨by omega,by decide,⟨by unfold I64;omega,by unfold I64;omega,by decide⟩,Oq h (by omega) _⟩
theorem IC{d:DPD}(h:kx d){k:Nat}(hk:k<d.2.2.length/\k<4):∃ z:Nat,txP (fc (nl (txP (jD d k))) (nl [aX (Rat.divInt (IntKind.i64.wrap (0-(IntKind.i64.wrap (nth I8 d.2.2 (k:Int))).tmod 8)) 2), [49]]) (txP (jD d k)).length)=txP (jD d z)/\
   IntKind.i64.wrap ((k:Int)+1)=(z:Int)/\z<=d.2.2.length/\z<=4/\4-z<4-k:=by
 rw[QR h hk.1];exact⟨k+1,P8 h hk.1 hk.2,wi (by omega) (by omega),by omega,by omega,by omega⟩
theorem Qa{d:DPD}{k:Nat}(h: ¬ (k<d.1.length/\k<5))(hk:k<=d.1.length/\k<=5):txP (aS (nl (txP (gW d k))))=txP (jD d 0):=by
 rw[lK,Ma h hk];rfl
theorem QT{d:DPD}(h:kx d):IntKind.i64.wrap (1+IntKind.i64.wrap (Int.tmod d.2.1 4))=1+d.2.1.tmod 4:=by
 have hD:=fl d.2.1 4 (by decide);have h0:0<=d.2.1.tmod 4:=Int.tmod_nonneg _ h.2.1.1;rw[wi (x:=d.2.1.tmod 4) (by omega) (by omega),wi (by omega) (by omega)]
theorem ID{d:DPD}(h:kx d){k:Nat}(hk:k<d.1.length/\k<5):((0:Int)<=(k:Int)/\(k:Int)<((d.1.length:Nat):Int))/\(10:Int)≠0/\(4:Int)≠0/\
    (I64 ((IntKind.i64.wrap (nth I8 d.1 (k:Int))).tmod 10)/\
      I64 (IntKind.i64.wrap (1+IntKind.i64.wrap (Int.tmod d.2.1 4)))/\
       IntKind.i64.wrap (1+IntKind.i64.wrap (Int.tmod d.2.1 4))≠0)/\
     live [some (txP (gW d k))] 0=true/\Cm.Roomy 1 ((rowOf [some (txP (gW d k))] 0).length+1):=by
 rw[QT h,QS h hk.1];have hD:=fl d.2.1 4 (by decide);have h0:0<=d.2.1.tmod 4:=Int.tmod_nonneg _ h.2.1.1;have hn:=fl (nth I8 d.1 (k:Int)) 10 (by decide);refine⟨by omega,by decide,by decide,⟨by unfold I64;omega,by unfold I64;omega,by omega⟩,rfl,uT ?_⟩;show (txP (gW d k)).length+1<=_;rw[cm];unfold gW;rw[List.length_map,List.length_take];omega
theorem IE{d:DPD}(h:kx d){k:Nat}(hk:k<d.1.length/\k<5):∃ z:Nat,IntKind.i64.wrap ((k:Int)+1)=(z:Int)/\
   rowOf [some (txP (gW d k))] 0++ [aX (Rat.divInt ((IntKind.i64.wrap (nth I8 d.1 (k:Int))).tmod 10) (IntKind.i64.wrap (1+IntKind.i64.wrap (Int.tmod d.2.1 4))))]=txP (gW d z)/\
    z<=d.1.length/\z<=5/\5-z<5-k:=by
 rw[QT h,QS h hk.1];exact⟨k+1,wi (by omega) (by omega),P6 hk.1,by omega,by omega,by omega⟩
theorem IF(l:List Rat)(r:Int)(j:Nat):cf (bh l (gm r)) j=cf l j*Rat.divInt (-r.tmod 8) 2+(if j=0 then 0 else cf l (j-1)):=by
 rw[wM];have h0:cf (gm r) 0=Rat.divInt (-r.tmod 8) 2:=by simp[gm,cf]
 have h1:cf (gm r) 1=1:=by simp[gm,cf]
 have h2:∀ i,cf (gm r) (i+2)=0:=fun i=>bE (by simp[gm]);cases j with
 |zero=>simp only[cT,Nat.sub_self,h0,if_true];grind
 |succ j=>
  rw[cT,cT,Nat.sub_self,h0,show j+1-j=1 by omega,h1,if_neg (by omega),show j+1-1=j by omega];rw[wL j fun i hi=>by rw[show j+1-i=(j+1-i-2)+2 by omega,h2];grind];grind
theorem A7{d:DPD}(h:kx d):∀ i,i<=4->∃ D:Int,D≠0/\D.natAbs<=4*2^i/\∀ j,∃ n:Int,n.natAbs<=9*10^i/\cf (jD d i) j=Rat.divInt n D
 |0,_=>by
  obtain⟨_,⟨h1,h2⟩,_⟩:=h;have hD:=fl d.2.1 4 (by decide);have h0:0<=d.2.1.tmod 4:=Int.tmod_nonneg _ h1;refine⟨1+d.2.1.tmod 4,by omega,by simp;omega,fun j=> ?_⟩;rw[jD,mc];by_cases hj:j<(gW d 5).length;·unfold gW at hj;rw[List.length_map] at hj;refine⟨((d.1.take 5)[j]).tmod 10,by have:=fl ((d.1.take 5)[j]) 10 (by decide);simp;omega,?_⟩;unfold cf gW;rw[List.getD_eq_getElem?_getD,List.getElem?_map,List.getElem?_eq_getElem hj];rfl
  ·exact⟨0,by simp,by rw[bE (by omega),Rat.zero_divInt]⟩
 |i+1,hi=>by
  obtain⟨D,d1,d2,d3⟩:=A7 h i (by omega);have hr:=fl (d.2.2.getD i 0) 8 (by decide);refine⟨D*2,by omega,by rw[Int.natAbs_mul,Nat.pow_succ];simp only[show (2:Int).natAbs=2 from rfl];omega,fun j=> ?_⟩;rw[jD,IF];obtain⟨n,n1,n2⟩:=d3 j;generalize hrr:(d.2.2.getD i 0).tmod 8=r at*;have hnr:(n* -r).natAbs<=9*10^i*7:=by
   rw[Int.natAbs_mul];exact Nat.mul_le_mul n1 (by omega)
  by_cases hj:j=0
  ·refine⟨n* -r,by rw[Nat.pow_succ];omega,?_⟩;rw[if_pos hj,n2,Rat.divInt_mul_divInt];grind
  ·(obtain⟨m,m1,m2⟩:=d3 (j-1);refine⟨n* -r+m*2,?_,?_⟩;·have h1:=Int.natAbs_add_le (n* -r) (m*2);have h2:(m*2).natAbs=m.natAbs*2:=Int.natAbs_mul ..;rw[Nat.pow_succ];omega);·rw[if_neg hj,n2,m2,Rat.divInt_mul_divInt,<- Rat.divInt_mul_right (n:=m) (d:=D) (show (2:Int)≠0 by decide),Rat.divInt_add_divInt _ _ (by omega) (by omega),<- Int.add_mul,Rat.divInt_mul_right (by omega)]
theorem IG{d:DPD}(h:kx d):Sml 9 1 (nV d):=by
 have hs:=IA h;refine⟨hs.len,hs.trm,?_⟩;obtain⟨D,d1,d2,d3⟩:=A7 h (min d.2.2.length 4) (by omega);have hp:2^(min d.2.2.length 4)<=2^4:=Nat.pow_le_pow_right (by decide) (by omega);have ht:10^(min d.2.2.length 4)<=10^4:=Nat.pow_le_pow_right (by decide) (by omega);exact⟨D,d1,gp (by omega),fun i=>by obtain⟨n,n1,n2⟩:=d3 i;exact⟨n,gp (by omega),n2⟩⟩
def Dv(d p:List Rat):Prop:=∃ s,Trm s/\∀ x,ak d x*ak s x=ak p x
theorem Dv.refl(d:List Rat):Dv d d:=⟨[1],fun _=>by show (1:Rat)≠0;decide,fun x=>by rw[db];grind⟩
theorem Dv.nil(d:List Rat):Dv d []:=⟨[],me,fun x=>by rw[cb];grind⟩
theorem Dv.trans{d e p:List Rat}(h:Dv d e)(h2:Dv e p):Dv d p:=by
 obtain⟨s,s1,s2⟩:=h;obtain⟨t,t1,t2⟩:=h2;exact⟨bh s t,eg s1 t1,fun x=>by rw[aR];have:=s2 x;have:=t2 x;grind⟩
theorem o4{l:List Rat}{c:Rat}(h:Trm l)(hc:c≠0):Trm (l.map fun y=>y*c):=by
 intro hn;have hl:l≠ []:=fun e=>hn (by rw[e];rfl);have hp:=List.length_pos_iff.2 hl;have h1:=h hl;rw[bX hp] at h1;rw[bX (by rw[List.length_map];exact hp),List.length_map,iX];intro e;rcases Rat.mul_eq_zero.1 e with e|e;·exact h1 e
 ·exact hc e
theorem A8{d p:List Rat}(tp:Trm p):Dv d (cx p)↔Dv d p:=by
 by_cases hp:p= []
 ·subst hp;exact Iff.rfl
 have hl:=tp hp;constructor;·rintro⟨s,s1,s2⟩;refine⟨s.map fun y=>y*aH p,o4 s1 hl,fun x=> ?_⟩;have:=s2 x;rw[gT] at this;rw[cG];grind
 ·rintro⟨s,s1,s2⟩;refine⟨s.map fun y=>y*(1/aH p),o4 s1 (by intro e;apply hl;grind),fun x=> ?_⟩;have:=s2 x;rw[cG,gT];grind
theorem A9:∀ (n:Nat) (p q:List Rat),q.length<n->Trm p->Trm q->∀ d,Dv d (de n p q)↔(Dv d p/\Dv d q)
 |0,p,q,h,_,_,_=>absurd h (by omega)
 |n+1,p,q,h,tp,tq,d=>by
  rw[de];split;·rename_i hq;subst hq;rw[A8 tp];exact⟨fun h=>⟨h,Dv.nil d⟩,fun h=>h.1⟩
  ·(rename_i hq;have hs:=dW (p:=p) (List.length_pos_iff.2 hq) (tq hq);have tr:=eZ (q:=q) tp;rw[A9 n q _ (by rw[b5];omega) tq (dn tr) d,A8 tr];have hev:=fun x=>qy (p:=p) hq tq x;constructor;·rintro⟨⟨s,s1,s2⟩,t,t1,t2⟩;refine⟨⟨bl (· + ·) (bh s (divN p q).1) t,e8 _ _ _,fun x=> ?_⟩,s,s1,s2⟩;rw[ew,aR];have:=s2 x;have:=t2 x;have:=hev x;grind);·rintro⟨⟨s,s1,s2⟩,t,t1,t2⟩;refine⟨⟨t,t1,t2⟩,bl (· - ·) s (bh t (divN p q).1),e8 _ _ _,fun x=> ?_⟩;rw[fz,aR];have:=s2 x;have:=t2 x;have:=hev x;grind
theorem ky{p q:List Rat}(tp:Trm p)(tq:Trm q)(d:List Rat):Dv d (bJ p q)↔(Dv d p/\Dv d q):=A9 _ _ _ (Nat.lt_succ_self _) tp tq d
theorem wU:∀ (n:Nat) (p q:List Rat),Trm p->Trm q->de n p q≠ []->aH (de n p q)=1
 |0,p,q,tp,_,h=>by
  rw[de] at h ⊢;have hp:p≠ []:=fun e=>h (by rw[e];rfl);rw[iR (List.length_pos_iff.2 hp)];have:=tp hp;grind
 |n+1,p,q,tp,tq,h=>by
  rw[de] at h ⊢;split;·rename_i hq;rw[if_pos hq] at h;have hp:p≠ []:=fun e=>h (by rw[e];rfl);rw[iR (List.length_pos_iff.2 hp)];have:=tp hp;grind
  ·rename_i hq;rw[if_neg hq] at h;exact wU n _ _ tq (dn (eZ tp)) h
theorem uU{p q:List Rat}(tp:Trm p)(tq:Trm q)(h:bJ p q≠ []):aH (bJ p q)=1:=wU _ _ _ tp tq h
theorem Mb:bJ [] []= []:=by
 have:=uO [] [];exact List.eq_nil_of_length_eq_zero (by simpa using this)
theorem kz{d p:List Rat}(td:Trm d)(tp:Trm p)(h:Dv d p):∃ s,Trm s/\bh d s=p:=by
 obtain⟨s,s1,s2⟩:=h;exact⟨s,s1,gJ (eg td s1) tp fun x=>by rw[aR];exact s2 x⟩
theorem FN{d e:List Rat}(td:Trm d)(te:Trm e)(hd:d≠ [])(he:e≠ [])(d1:aH d=1)(e1:aH e=1)(h:Dv d e)(h2:Dv e d):d=e:=by
 obtain⟨s,s1,s2⟩:=kz td te h;obtain⟨t,t1,t2⟩:=kz te td h2;have hs:s≠ []:=by rintro rfl;rw[di] at s2;exact he s2.symm
 have ht:t≠ []:=by rintro rfl;rw[di] at t2;exact hd t2.symm
 have l1:=cj hd hs;have l2:=cj he ht;rw[s2] at l1;rw[t2] at l2;have:=List.length_pos_iff.2 hs;have:=List.length_pos_iff.2 ht;have:=List.length_pos_iff.2 hd;have:=List.length_pos_iff.2 he;have hl:s.length=1:=by omega
 have la:=oQ hd hs;rw[s2,e1,d1] at la;match s,hl with
 | [c],_=>
  have hc:c=1:=by
   have:aH [c]=c:=rfl;rw[this] at la;grind
  subst hc;refine gJ td te fun x=> ?_;rw[<- s2,aR,db];grind
theorem QU{α:Type}(l:List α):(((l.length:Nat):Int)==0)=decide (l= []):=by
 rw[Bool.eq_iff_iff,beq_iff_eq,decide_eq_true_iff];constructor;·intro h;exact List.eq_nil_of_length_eq_zero (by omega)
 ·intro h;rw[h];rfl
theorem Qb(a b:Int):(a==b)=decide (a=b):=by rw[Bool.eq_iff_iff,beq_iff_eq,decide_eq_true_iff]
theorem Qc(e:Int)(p q:List (List UInt8)):(e==0&&decide (p=q))=decide (e=0/\p=q):=by rw[Qb];exact(Bool.decide_and _ _).symm
theorem Ba(e:Int)(p:List (List UInt8)):(e==0&&((p.length:Nat):Int)==0)=decide (e=0/\p= []):=by rw[QU,Qb];exact(Bool.decide_and _ _).symm
def L(l:List (List UInt8)):List (List UInt8):=l
theorem wp1:dvS [[45,49], [48], [48], [49]] [[45,49], [49]]= [[49], [49], [49]]/\dvR [[45,49], [48], [48], [49]] [[45,49], [49]]= []/\dvE [[45,49], [48], [48], [49]] [[45,49], [49]]=0:=by decide+kernel
theorem wp2:dvS [[49], [48], [49]] [[48], [50]]= [[48], [49,47,50]]/\dvR [[49], [48], [49]] [[48], [50]]= [[49]]/\dvE [[49], [48], [49]] [[48], [50]]=0:=by decide+kernel
theorem wp3:dvE [[49]] []=2:=by decide+kernel
theorem wp4:evS [[49], [48], [49]] [49,47,50]= [53,47,52]/\evE [[49], [48], [49]] [49,47,50]=0:=by decide+kernel
theorem wp5:evE [[49]] [50,47,50]=5:=by decide+kernel
theorem wp6:c6 bh [[49], [49]] [[45,49], [49]]= [[45,49], [48], [49]]/\cZ bh [[49], [49]] [[45,49], [49]]=0:=by decide+kernel
theorem wp7:c6 (bl (· + ·)) [[49], [50]] [[49], [45,50]]= [[50]]/\cZ (bl (· + ·)) [[49], [50]] [[49], [45,50]]=0:=by decide+kernel
theorem wp8:c6 (bl (· - ·)) [[49], [50]] [[49], [50]]= []/\cZ (bl (· - ·)) [[49], [50]] [[49], [50]]=0:=by decide+kernel
theorem wp9:c6 bJ [[45,49], [48], [49]] [[49], [50], [49]]= [[49], [49]]/\cZ bJ [[45,49], [48], [49]] [[49], [50], [49]]=0:=by decide+kernel
theorem Ot:c6 bJ [[50]] []= [[49]]/\cZ bJ [[50]] []=0:=by decide+kernel
theorem Ou:c6 bJ [] []= []/\cZ bJ [] []=0:=by decide+kernel
theorem Ov:wF [[49], [48], [49]] [[49], [49]]= [[50], [50], [49]]/\wE [[49], [48], [49]] [[49], [49]]=0:=by decide+kernel
theorem Ow:c6 (fun a _=>aZ a) [[53], [51], [48], [50]] []= [[51], [48], [54]]/\cZ (fun a _=>aZ a) [[53], [51], [48], [50]] []=0:=by decide+kernel
theorem Ox:c6 (fun a _=>bC a) [[50], [45,51], [48], [49]] []= [[45,50], [49], [49]]/\cZ (fun a _=>bC a) [[50], [45,51], [48], [49]] []=0:=by decide+kernel
theorem Oy:c6 (fun a _=>bC a) [[55]] []= [[49]]/\cZ (fun a _=>bC a) [[55]] []=0:=by decide+kernel
theorem Oz:cV [[49], [48]]=40/\cV [[49,47,48]]=40:=by decide+kernel
theorem wsq:3<=QL/\((((0:Nat):Int)==0)=true->(((0:Nat):Int)==0)=true)/\((((0:Nat):Int)==0)=true->(((0:Nat):Int)==0)=true/\2<=QL)/\((((0:Nat):Int)==0)=true->(((0:Nat):Int)==0)=true)/\
  ((((0:Nat):Int)==0)=true->(((0:Nat):Int)==0)=true)/\((((0:Nat):Int)==0)=true->(((0:Nat):Int)==0)=true/\1<=QL)/\((((0:Nat):Int)==0)=true->(((0:Nat):Int)==0)=true):=by
 unfold QL;decide
theorem ok6:bS (fun p q=>Sz QM p/\Sz QM q/\p.length<=100/\q.length<=100) bh [[49], [49]] [[45,49], [49]]:=QJ (n:=4) (K:=1) (by decide+kernel) (by decide+kernel)
theorem ok7:bS (fun p q=>Sz QH p/\Sz QH q/\p.length<=1000/\q.length<=1000) (bl (· + ·)) [[49], [50]] [[49], [45,50]]:=QG (n:=4) (K:=1) (by decide+kernel) (by decide+kernel)
theorem ok8:bS (fun p q=>Sz QH p/\Sz QH q/\p.length<=1000/\q.length<=1000) (bl (· - ·)) [[49], [50]] [[49], [50]]:=QI (n:=4) (K:=1) (by decide+kernel) (by decide+kernel)
theorem ok9:bS iS bJ [[45,49], [48], [49]] [[49], [50], [49]]:=LL (n:=4) (K:=1) (by decide+kernel) (by decide+kernel)
theorem Q5:bS iS bJ [[50]] []:=LL (n:=4) (K:=1) (by decide+kernel) (by decide+kernel)
theorem Q6:bS iS bJ [] []:=LL (n:=4) (K:=1) (by decide+kernel) (by decide+kernel)
theorem Q7:yq [[49], [48], [49]] [[49], [49]]:=P0 (n:=4) (m:=4) (K:=1) (by decide+kernel) (by decide+kernel)
theorem Q8:bS (fun p _=>Sz QH p/\p.length<=1000) (fun a _=>aZ a) [[53], [51], [48], [50]] []:=QN (n:=4) (K:=1) (by decide+kernel)
theorem Q9:bS (fun p _=>kN p) (fun a _=>bC a) [[50], [45,51], [48], [49]] []:=O9 (n:=4) (K:=1) (by decide+kernel)
theorem Ra:bS (fun p _=>kN p) (fun a _=>bC a) [[55]] []:=O9 (n:=4) (K:=1) (by decide+kernel)
theorem QV:dm [[49], [48]]/\dm [[49,47,48]]:=by unfold dm QL;decide
end Go.Cm
end
section
namespace Go.Cm
open Go.Proofs
theorem IH{b k:Nat}{l:List Rat}{c:Rat}(h:Den b l)(hc:lq c<=k):Den (b+k) (l.map fun y=>y*c):=by
 obtain⟨D,d1,d2,d3⟩:=h;refine⟨D*c.den,Int.mul_ne_zero d1 (dK c),by have:=bW D c.den;have:=dk c;omega,fun i=> ?_⟩;obtain⟨n,n1,n2⟩:=d3 i;refine⟨n*c.num,by have:=bW n c.num;have:=dJ c;omega,?_⟩;rw[iX,n2];conv=>lhs;arg 2;rw[<- Rat.num_divInt_den c]
 rw[Rat.divInt_mul_divInt]
theorem Mc{a g x:List Rat}{b:Nat}(ha:Sml 17 b a)(tg:Trm g)(tx:Trm x)(g0:g≠ [])(g1:aH g=1)(h:bh g x=a):Sml 17 (b+8+b) x:=by
 have hb:=ha.den.pos;by_cases hx:x= [];·subst hx;exact⟨by simp,me,ku (by omega)⟩
 have ha0:a≠ []:=by
  rintro rfl;rcases jq h with h|h;·exact g0 h
  ·exact hx h
 have hl:=cj g0 hx;rw[h] at hl;have hgl:=List.length_pos_iff.2 g0;have hxl:=List.length_pos_iff.2 hx;have hla:=oQ g0 hx;rw[h,g1] at hla;have hlx:aH x=aH a:=by grind
 have hx0:=tx hx;have hm:bh (cx x) (g.map fun y=>y*aH x)=a:=by
  refine gJ (eg (dn tx) (o4 tg hx0)) ha.trm fun z=> ?_;rw[aR,gT,cG,<- h,aR];grind
 have hd:=lJ ha ha0 hm (dn tx) (by rw[iR hxl];grind);have hlq:lq (aH x)<=b:=by
  rw[hlx,bX (by have:=List.length_pos_iff.2 ha0;omega)];exact ha.den.lq _ (oM (by have:=List.length_pos_iff.2 ha0;omega))
 have he:(cx x).map (fun y=>y*aH x)=x:=by
  unfold cx;rw[List.map_map];conv=>rhs;rw[<- List.map_id x]
  exact List.map_congr_left fun y _=>by simp only[Function.comp,id];grind
 have:=IH hd hlq;rw[he] at this;exact⟨by have:=ha.len;omega,tx,this⟩
end Go.Cm
namespace Go.Cm
open Go.Proofs
theorem QW:aX 1= [49]:=by decide+kernel
theorem OA:Pol [1]:=⟨by simp,fun _=>by show (1:Rat)≠0;decide,by decide+kernel⟩
theorem FO:txP [1]= [[49]]:=by unfold txP;simp[QW]
theorem Md{g:List Rat}(h:Pol g)(h0:g≠ [])(h1:aH g=1):nth .str (txP g) (IntKind.i64.wrap ((((txP g).length:Nat):Int)-1))= [49]:=by
 rw[cm,yv (List.length_pos_iff.2 h0) (by have:=h.len;omega),h1,QW]
theorem Me{g:List Rat}(h:Pol g)(h0:g≠ []):0<=IntKind.i64.wrap ((((txP g).length:Nat):Int)-1)/\IntKind.i64.wrap ((((txP g).length:Nat):Int)-1)<(((txP g).length:Nat):Int):=by
 have h1:=List.length_pos_iff.2 h0;have h2:=h.len;rw[cm,cp (by omega)];omega
end Go.Cm
end
section
namespace Go.Cm
open Go.Proofs
theorem uV(f g:Nat->Rat):∀ n,cT (fun k=>f k+g k) n=cT f n+cT g n
 |0=>by simp only[cT];grind
 |n+1=>by rw[cT,cT,cT,uV f g n];grind
theorem uW(f:Nat->Rat):∀ n,cT f (n+1)=f 0+cT (fun i=>f (i+1)) n
 |0=>by simp only[cT];grind
 |n+1=>by rw[cT,uW f n,cT];grind
theorem Ej(f:Nat->Rat)(x:Rat):∀ n,ak ((List.range n).map f) x=cT (fun i=>f i*x^i) n
 |0=>rfl
 |n+1=>by rw[kr,Ej f x n,cT]
def Ek(l:List Rat)(x:Rat)(n:Nat):Rat:=cT (fun i=>cf l (i+1)*((i+1:Nat):Rat)*x^i) n
theorem kA(l:List Rat)(x:Rat){n:Nat}(hn:l.length<=n+1):ak (aZ l) x=Ek l x n:=by
 have e:aZ l=(List.range (l.length-1)).map fun i=>cf l (i+1)*((i+1:Nat):Rat):=by
  unfold aZ lC;refine List.map_congr_left fun i _=> ?_;rw[Rat.divInt_eq_div,Rat.intCast_natCast,show ((1:Int):Rat)=1 from rfl];grind
 rw[e,Ej];exact(mj _ _ (by omega) fun i hi=>by rw[bE (by omega)];grind).symm
theorem yx{l m:List Rat}(h:∀ x,ak l x=ak m x)(x:Rat):ak (aZ l) x=ak (aZ m) x:=by
 have e:aS l=aS m:=gJ (eR _) (eR _) fun x=>by rw[eE,eE,h]
 have hc:∀ i,cf l i=cf m i:=fun i=>by rw[<- mc l,<- mc m,e]
 rw[kA l x (n:=max l.length m.length) (by omega),kA m x (n:=max l.length m.length) (by omega)];unfold Ek;exact eU _ fun i _=>by rw[hc]
theorem Qd(a b:List Rat)(i:Nat):cf (bl (· + ·) a b) i=cf a i+cf b i:=by
 unfold bl;rw[mc];by_cases hi:i<max a.length b.length;·exact kt _ _ _ _ _ hi
 ·rw[bE (by rw[dP];omega),bE (l:=a) (by omega),bE (l:=b) (by omega)];grind
theorem OB(a b:List Rat)(x:Rat):ak (aZ (bl (· + ·) a b)) x=ak (aZ a) x+ak (aZ b) x:=by
 have hl:=e9 (· + ·) a b;rw[kA _ x (n:=max a.length b.length) (by omega),kA a x (n:=max a.length b.length) (by omega),kA b x (n:=max a.length b.length) (by omega)];unfold Ek;rw[<- uV];exact eU _ fun i _=>by rw[Qd];grind
theorem wV(c:Rat)(a:List Rat)(x:Rat):ak (aZ (a.map fun y=>y*c)) x=ak (aZ a) x*c:=by
 rw[kA _ x (n:=a.length) (by rw[List.length_map];omega),kA a x (n:=a.length) (by omega)];unfold Ek;rw[Rat.mul_comm,<- nR];exact eU _ fun i _=>by rw[iX];grind
theorem Bb(c:Rat)(l:List Rat)(x:Rat):ak (aZ (c::l)) x=ak l x+x*ak (aZ l) x:=by
 rw[kA (c::l) x (n:=l.length) (by simp)];have e0:∀ i,cf (c::l) (i+1)=cf l i:=fun i=>by simp[cf]
 have h1:Ek (c::l) x l.length=cT (fun i=>cf l i*x^i) l.length+cT (fun i=>cf l i*(i:Rat)*x^i) l.length:=by
  unfold Ek;rw[<- uV];refine eU _ fun i _=> ?_;rw[e0];have:((i+1:Nat):Rat)=(i:Rat)+1:=by simp
  rw[this];grind
 rw[h1,<- Ej (cf l) x,lE l x _ (Nat.le_refl _)];congr 1;cases hl:l.length with
 |zero=>
  rw[List.eq_nil_of_length_eq_zero hl,cT,show aZ []= [] from rfl,cb];grind
 |succ m=>
  rw[uW,kA l x (n:=m) (by omega)];unfold Ek;rw[<- nR];have h0:cf l 0*((0:Nat):Rat)*x^0=0:=by simp
  rw[h0,Rat.zero_add];exact eU _ fun i _=>by rw[Rat.pow_succ];grind
theorem yy(a b:List Rat)(x:Rat):ak (aZ (bh a b)) x=ak (aZ a) x*ak b x+ak a x*ak (aZ b) x:=by
 induction a with
 |nil=>rw[dB,show aZ []= [] from rfl,cb];grind
 |cons c a ih=>
  have h1:∀ z,ak (bh (c::a) b) z=ak (bl (· + ·) (0::bh a b) (b.map fun y=>y*c)) z:=fun z=>by
   rw[aR,cg,ew,cg,aR,cG];grind
  rw[yx h1 x,OB,Bb,wV,ih,aR,Bb,cg];grind
theorem fI{m a b:List Rat}(h:∀ x,ak m x=ak a x*ak b x)(x:Rat):ak (aZ m) x=ak (aZ a) x*ak b x+ak a x*ak (aZ b) x:=by
 rw[yx (m:=bh a b) (fun z=>by rw[aR];exact h z) x,yy]
theorem Dv.of{d p:List Rat}(s:List Rat)(h:∀ x,ak d x*ak s x=ak p x):Dv d p:=⟨aS s,eR _,fun x=>by rw[eE];exact h x⟩
theorem Pg:∀ (n:Nat) (p q:List Rat),q.length<n->Trm p->Trm q->∃ u v:List Rat,∀ x,ak (de n p q) x=ak p x*ak u x+ak q x*ak v x
 |0,p,q,h,_,_=>absurd h (by omega)
 |n+1,p,q,h,tp,tq=>by
  rw[de];split;·exact⟨[1/aH p], [],fun x=>by rw[gT,db,cb];grind⟩
  ·rename_i hq;have hs:=dW (p:=p) (List.length_pos_iff.2 hq) (tq hq);have tr:=eZ (q:=q) tp;obtain⟨u,v,huv⟩:=Pg n q _ (by rw[b5];omega) tq (dn tr);refine⟨v.map fun y=>y*(1/aH (divN p q).2),bl (· - ·) u (bh (divN p q).1 (v.map fun y=>y*(1/aH (divN p q).2))),fun x=> ?_⟩;rw[huv,gT,fz,aR,cG];have:=qy (p:=p) hq tq x;grind
theorem bez{p q:List Rat}(tp:Trm p)(tq:Trm q):∃ u v:List Rat,∀ x,ak (bJ p q) x=ak p x*ak u x+ak q x*ak v x:=Pg _ _ _ (Nat.lt_succ_self _) tp tq
def Cop(a b:List Rat):Prop:=∃ u v:List Rat,∀ x,ak a x*ak u x+ak b x*ak v x=1
theorem Cop.symm{a b:List Rat}(h:Cop a b):Cop b a:=by
 obtain⟨u,v,h⟩:=h;exact⟨v,u,fun x=>by have:=h x;grind⟩
theorem Cop.left{a b d:List Rat}(h:Cop a b)(hd:Dv d a):Cop d b:=by
 obtain⟨u,v,h⟩:=h;obtain⟨s,_,hs⟩:=hd;exact⟨bh s u,v,fun x=>by rw[aR];have:=h x;have:=hs x;grind⟩
theorem Cop.cancel{a b c m:List Rat}(h:Cop a b)(hm:∀ x,ak m x=ak b x*ak c x)(hd:Dv a m):Dv a c:=by
 obtain⟨u,v,h⟩:=h;obtain⟨s,_,hs⟩:=hd;exact Dv.of (bl (· + ·) (bh c u) (bh s v)) fun x=>by
  rw[ew,aR,aR];have:=h x;have:=hs x;have:=hm x;grind
theorem Dv.add{d a b m:List Rat}(ha:Dv d a)(hb:Dv d b)(hm:∀ x,ak m x=ak a x+ak b x):Dv d m:=by
 obtain⟨s,_,hs⟩:=ha;obtain⟨t,_,ht⟩:=hb;exact Dv.of (bl (· + ·) s t) fun x=>by rw[ew,hm];have:=hs x;have:=ht x;grind
theorem Dv.sub{d a b m:List Rat}(ha:Dv d a)(hb:Dv d b)(hm:∀ x,ak m x=ak a x-ak b x):Dv d m:=by
 obtain⟨s,_,hs⟩:=ha;obtain⟨t,_,ht⟩:=hb;exact Dv.of (bl (· - ·) s t) fun x=>by rw[fz,hm];have:=hs x;have:=ht x;grind
theorem Dv.mul{d a b m:List Rat}(ha:Dv d a)(hm:∀ x,ak m x=ak a x*ak b x):Dv d m:=by
 obtain⟨s,_,hs⟩:=ha;exact Dv.of (bh s b) fun x=>by rw[aR,hm];have:=hs x;grind
theorem ng{e a b:List Rat}(te:Trm e)(h0:e≠ [])(h:∀ x,ak e x*ak a x=ak e x*ak b x)(x:Rat):ak a x=ak b x:=by
 have h1:aS a=aS b:=AE (eR _) (eR _) te h0 fun z=>by rw[eE,eE];have:=h z;grind
 rw[<- eE a,h1,eE]
def jE(e:List Rat):Nat->List Rat
 |0=> [1]
 |j+1=>bh e (jE e j)
theorem qC(e:List Rat)(x:Rat):∀ j,ak (jE e j) x=ak e x^j
 |0=>by rw[jE,db,Rat.pow_zero]
 |j+1=>by rw[jE,aR,qC e x j,Rat.pow_succ];grind
theorem uX(e:List Rat)(x:Rat):∀ j,ak (aZ (jE e (j+1))) x=((j+1:Nat):Rat)*ak e x^j*ak (aZ e) x
 |0=>by
  rw[jE,yy,jE,show aZ [(1:Rat)]= [] from rfl,cb,db,Rat.pow_zero];have:((0+1:Nat):Rat)=1:=by simp
  rw[this];grind
 |j+1=>by
  rw[jE,yy,uX e x j,qC,Rat.pow_succ];have:((j+1+1:Nat):Rat)=((j+1:Nat):Rat)+1:=by simp
  rw[this];generalize ((j+1:Nat):Rat)=J;grind
theorem uY{e:List Rat}(te:Trm e):∀ j,Trm (jE e j)
 |0=>fun _=>by show (1:Rat)≠0;decide
 |j+1=>eg te (uY te j)
theorem yz{e:List Rat}(h:e≠ []):∀ j,jE e j≠ []
 |0=>by simp[jE]
 |j+1=>fun e'=>by
  rw[jE] at e';rcases jq e' with e'|e';·exact h e'
  ·exact yz h j e'
theorem mult{e:List Rat}(te:Trm e)(he:2<=e.length):∀ (n:Nat) (g:List Rat),g.length<=n->Trm g->g≠ []->∃ j g1,¬Dv e g1/\∀ x,ak g x=ak (jE e j) x*ak g1 x
 |0,g,hn,_,h0=>absurd (List.eq_nil_of_length_eq_zero (by omega)) h0
 |n+1,g,hn,tg,h0=>by
  by_cases hd:Dv e g
  ·obtain⟨s,ts,hs⟩:=kz te tg hd;(have he0:e≠ []:=by rintro rfl;simp at he);(have hs0:s≠ []:=by rintro rfl;rw[di] at hs;exact h0 hs.symm);have hl:=cj he0 hs0;rw[hs] at hl;obtain⟨j,g1,h1,h2⟩:=mult te he n s (by omega) ts hs0;refine⟨j+1,g1,h1,fun x=> ?_⟩;rw[<- hs,aR,h2,jE,aR];grind
  ·exact⟨0,g,hd,fun x=>by rw[jE,db];grind⟩
theorem Ph{e g:List Rat}(te:Trm e)(he:2<=e.length)(tg:Trm g)(h0:g≠ [])(hd:Dv e g):∃ j g1,¬Dv e g1/\∀ x,ak g x=ak (jE e (j+1)) x*ak g1 x:=by
 obtain⟨j,g1,h1,h2⟩:=mult te he g.length g (Nat.le_refl _) tg h0;cases j with
 |zero=>
  exfalso;apply h1;obtain⟨s,_,hs⟩:=hd;exact Dv.of s fun x=>by rw[hs,h2,jE,db];grind
 |succ j=>exact⟨j,g1,h1,h2⟩
def Sqf(e:List Rat):Prop:=Cop e (aZ e)
structure nX (f s g t:List Rat):Prop where
 tf:Trm f
 f0:f≠ []
 ts:Trm s
 tg:Trm g
 g0:g≠ []
 fs:∀ x,ak f x=ak s x*ak g x
 ft:∀ x,ak (aZ f) x=ak g x*ak t x
 cop:Cop s t
theorem Bc{f:List Rat}(tf:Trm f)(f0:f≠ []):∃ s t,nX f s (bJ f (aZ f)) t:=by
 have td:=mg tf;have tg:=lI tf td;have g0:=mi (q:=aZ f) (.inl f0);obtain⟨h1,h2⟩:=(ky tf td _).1 (Dv.refl (bJ f (aZ f)));obtain⟨s,ts,hs⟩:=h1;obtain⟨t,tt,ht⟩:=h2;obtain⟨u,v,huv⟩:=bez tf td;refine⟨s,t,tf,f0,ts,tg,g0,fun x=>by rw[<- hs];grind,fun x=>(ht x).symm,u,v,fun x=> ?_⟩;refine ng (a:=bl (· + ·) (bh s u) (bh t v)) (b:= [1]) tg g0 (fun z=> ?_) x|>fun h=>by
  rw[ew,aR,aR,db] at h;exact h
 rw[ew,aR,aR,db];have:=huv z;have:=hs z;have:=ht z;grind
theorem nX.s0{f s g t:List Rat}(h:nX f s g t):s≠ []:=by
 rintro rfl;exact h.f0 (nN h.tf fun x=>by rw[h.fs,cb];grind)
theorem nX.key{f s g t:List Rat}(h:nX f s g t)(x:Rat):ak s x*ak (aZ g) x=ak g x*(ak t x-ak (aZ s) x):=by
 have h1:=fI h.fs x;rw[h.ft] at h1;grind
theorem nX.sqf{f s g t:List Rat}(h:nX f s g t){e:List Rat}(te:Trm e)(hq:Sqf e)(hd:Dv e f):Dv e s:=by
 have e0:e≠ []:=by
  rintro rfl;obtain⟨u,hu⟩:=hd;exact h.f0 (nN h.tf fun x=>by rw[<- hu.2,cb];grind)
 obtain⟨⟨w,tw,hw⟩,hs1⟩:=(ky te h.ts _).1 (Dv.refl (bJ e s));obtain⟨a,b,hab⟩:=bez te h.ts;obtain⟨u,v,huv⟩:=hq;have hde:=fI (m:=e) (a:=bJ e s) (b:=w) fun x=>(hw x).symm;have c1:Cop (bJ e s) w:=⟨bl (· + ·) (bh w u) (bh (aZ w) v),bh (aZ (bJ e s)) v,fun x=>by
  rw[ew,aR,aR,aR];have:=huv x;have:=hw x;have:=hde x;grind⟩
 have c2:Cop w (aZ w):=⟨bl (· + ·) (bh (bJ e s) u) (bh (aZ (bJ e s)) v),bh (bJ e s) v,fun x=>by
  rw[ew,aR,aR,aR];have:=huv x;have:=hw x;have:=hde x;grind⟩
 have c3:Cop w s:=by
  obtain⟨m,n,hmn⟩:=c1;exact⟨bl (· + ·) (bh (bJ e s) (bh a m)) n,bh b m,fun x=>by
   rw[ew,aR,aR,aR];have:=hmn x;have:=hab x;have:=hw x;grind⟩
 have hwg:Dv w g:=c3.cancel (m:=f) h.fs (by
  obtain⟨k,tk,hk⟩:=hd;exact Dv.of (bh (bJ e s) k) fun x=>by rw[aR,<- hk,<- hw];grind)
 by_cases hl:2<=w.length
 ·exfalso;obtain⟨j,g1,hn,hg⟩:=Ph tw hl h.tg h.g0 hwg;apply hn;have hdg:=fI hg;have hpw:∀ x,ak (jE w (j+1)) x=ak w x*ak (jE w j) x:=fun x=>by rw[jE,aR]
  have hc:∀ x,ak (bh s (bl (· + ·) ((bh (aZ w) g1).map fun y=>y*((j+1:Nat):Rat)) (bh w (aZ g1)))) x=ak (bh w (bh g1 (bl (· - ·) t (aZ s)))) x:=by
   (have w0:w≠ []:=by rintro rfl;simp at hl);refine ng (uY tw j) (yz w0 j) fun x=> ?_;rw[aR,ew,cG,aR,aR,aR,aR,fz];have k1:=h.key x;have k2:=hdg x;have k3:=hg x;rw[uX,hpw] at k2;rw[hpw] at k3;rw[k2,k3] at k1;rw[<- qC w x j] at k1;grind
  have hJ:((j+1:Nat):Rat)≠0:=by
   intro e2;(have:(j+1:Nat)=0:=by exact_mod_cast e2);omega
  have d1:Dv w (bh s (bh (aZ w) g1)):=by
   refine Dv.of ((bl (· - ·) (bh g1 (bl (· - ·) t (aZ s))) (bh s (aZ g1))).map fun y=>y*(1/((j+1:Nat):Rat))) fun x=> ?_;have:=hc x;rw[aR,ew,cG,aR,aR,aR,aR,fz] at this;rw[cG,fz,aR,aR,aR,aR,fz];generalize ((j+1:Nat):Rat)=J at*;grind
  have d2:Dv w (bh (aZ w) g1):=c3.cancel (fun x=>by rw[aR]) d1;exact c2.cancel (fun x=>by rw[aR]) d2
 ·
  have w0:w≠ []:=by
   rintro rfl;exact e0 (nN te fun x=>by rw[<- hw,cb];grind)
  have hwl:w.length=1:=by have:=List.length_pos_iff.2 w0;omega
  match w,hwl,w0 with
  | [c],_,_=>
   (have hc0:c≠0:=by have:=tw (by simp);simpa [aH] using this);obtain⟨k,tk,hk⟩:=hs1;refine Dv.of (k.map fun y=>y*(1/c)) fun x=> ?_;have:=hw x;rw[db] at this;rw[cG,<- hk];grind
theorem wW:∀ (n:Nat) {f s g t:List Rat},f.length<=n->nX f s g t->Sqf s
 |0,f,s,g,t,hn,h=>absurd (List.eq_nil_of_length_eq_zero (by omega)) h.f0
 |n+1,f,s,g,t,hn,h=>by
  have tds:=mg h.ts;have td:=lI h.ts tds;have d0:=mi (q:=aZ s) (.inl h.s0);have d1:=uU h.ts tds d0;obtain⟨hd1,hd2⟩:=(ky h.ts tds _).1 (Dv.refl (bJ s (aZ s)));by_cases hl:2<=(bJ s (aZ s)).length
  ·exfalso;have hslen:s.length<=f.length:=by
    (have e1:bh s g=f:=gJ (eg h.ts h.tg) h.tf fun x=>by rw[aR,h.fs]);have e2:=cj h.s0 h.g0;rw[e1] at e2;have:=List.length_pos_iff.2 h.g0;omega
   have hdlen:(bJ s (aZ s)).length<s.length:=by
    obtain⟨k,tk,hk⟩:=kz td h.ts hd1;have hds:aZ s≠ []:=by
     intro e;rw[e] at hl hd2;have:(aZ s).length=s.length-1:=gM s;rw[e] at this;have h3:=uO s [];simp only[List.length_nil] at this h3;have hsl:=List.length_pos_iff.2 h.s0;rw[Nat.max_eq_left (by omega)] at h3;omega
    obtain⟨k2,tk2,hk2⟩:=kz td tds hd2;(have hk20:k2≠ []:=by rintro rfl;rw[di] at hk2;exact hds hk2.symm);have:=cj d0 hk20;rw[hk2,gM] at this;have:=List.length_pos_iff.2 hk20;have hsl:=List.length_pos_iff.2 h.s0;omega
   generalize bJ s (aZ s)=d at*;have hdg:Dv d g:=by
    refine(h.cop.left hd1).cancel (b:=t) (m:=bh t g) (fun x=>by rw[aR]) ?_;obtain⟨p,_,hp⟩:=hd1;obtain⟨q,_,hq⟩:=hd2;refine Dv.of (bl (· + ·) (bh p (aZ g)) (bh g q)) fun x=> ?_;rw[ew,aR,aR,aR];have:=h.key x;have:=hp x;have:=hq x;grind
   obtain⟨e,t2,hsp⟩:=Bc td d0;have he:=wW n (by omega) hsp;have hgd:=hsp.g0;have hel:2<=e.length:=by
    (have e1:bh e (bJ d (aZ d))=d:=gJ (eg hsp.ts hsp.tg) td fun x=>by rw[aR,hsp.fs]);have e2:=cj hsp.s0 hgd;rw[e1] at e2;have hdd:aZ d≠ []:=by
     intro e3;have:=gM d;rw[e3] at this;simp at this;omega
    obtain⟨_,hx⟩:=(ky td (mg td) _).1 (Dv.refl (bJ d (aZ d)));obtain⟨k,tk,hk⟩:=kz hsp.tg (mg td) hx;(have hk0:k≠ []:=by rintro rfl;rw[di] at hk;exact hdd hk.symm);have e4:=cj hgd hk0;rw[hk,gM] at e4;have:=List.length_pos_iff.2 hk0;have:=List.length_pos_iff.2 hgd;have:=List.length_pos_iff.2 hsp.s0;omega
   have hed:Dv e d:=Dv.of (bJ d (aZ d)) fun x=>(hsp.fs x).symm;have heg:=hed.trans hdg;have hes:=hed.trans hd1;have hes':=hed.trans hd2;obtain⟨j,g1,hn1,hg⟩:=Ph hsp.ts hel h.tg h.g0 heg;obtain⟨h1,th1,hh1⟩:=hes;have hds:=fI (m:=s) (a:=e) (b:=h1) fun x=>(hh1 x).symm;have deh:Dv e h1:=by
    refine he.cancel (m:=bh (aZ e) h1) (fun x=>by rw[aR]) ?_;refine hes'.sub (b:=bh e (aZ h1)) (Dv.of (aZ h1) fun x=>by rw[aR]) fun x=> ?_;rw[aR,aR,hds];grind
   have hdg1:=fI hg;have hc:∀ x,ak (bh h1 (bl (· + ·) ((bh (aZ e) g1).map fun y=>y*((j+1:Nat):Rat)) (bh e (aZ g1)))) x=ak (bh g1 (bl (· - ·) t (aZ s))) x:=by
    refine ng (uY hsp.ts (j+1)) (yz hsp.s0 (j+1)) fun x=> ?_;rw[aR,ew,cG,aR,aR,aR,fz];have k1:=h.key x;have k2:=hdg1 x;have k3:=hg x;have k4:=hh1 x;(have k5:ak (jE e (j+1)) x=ak e x*ak e x^j:=by rw[qC,Rat.pow_succ];grind);rw[uX,k5] at k2;rw[k5] at k3;rw[k2,k3,<- k4] at k1;rw[k5];grind
   apply hn1;have d5:Dv e (bh t g1):=by
    have d6:Dv e (bh g1 (bl (· - ·) t (aZ s))):=by
     obtain⟨k,tk,hk⟩:=deh;refine Dv.of (bh k (bl (· + ·) ((bh (aZ e) g1).map fun y=>y*((j+1:Nat):Rat)) (bh e (aZ g1)))) fun x=> ?_;have:=hc x;rw[aR] at this;rw[aR,<- this,<- hk];grind
    (have d7:Dv e (bh g1 (aZ s)):=hes'.mul (b:=g1) fun x=>by rw[aR];grind);refine d6.add d7 fun x=> ?_;rw[aR,aR,aR,fz];grind
   exact(h.cop.left ⟨h1,th1,hh1⟩).cancel (fun x=>by rw[aR]) d5
  ·(have hlen:(bJ s (aZ s)).length=1:=by have:=List.length_pos_iff.2 d0;omega);obtain⟨u,v,huv⟩:=bez h.ts tds;refine⟨u,v,fun x=> ?_⟩;rw[<- huv];match hg:bJ s (aZ s),hlen with
   | [c],_=>
    rw[hg] at d1;have:aH [c]=c:=rfl;rw[this] at d1;rw[db,d1]
theorem OC{n d:List UInt8}{k:Nat}(hk:k<2)(hn:chk n=0)(hd:chk d=0)(h1:n.length<=1000000000)(h2:d.length<=1000000000):chk (nth .str [n,d] (k:Int))=0/\kK (nth .str [n,d] (k:Int)):=by
 have:k=0∨k=1:=by omega
 rcases this with rfl|rfl;·exact⟨hn,by unfold kK;exact Nat.lt_of_le_of_lt h1 (by decide)⟩
 ·exact⟨hd,by unfold kK;exact Nat.lt_of_le_of_lt h2 (by decide)⟩
theorem Qe{d:List UInt8}(h:ao d≠0):(d== [48])=false:=by
 rw[beq_eq_false_iff_ne];rintro rfl;exact h (by decide)
theorem nY{n:Int}(h:I64 n):chk (Lib.itoa n)=0/\(Lib.itoa n).length<=QL:=by
 have h1:=oI h;have h2:=fk n;refine⟨?_,by unfold QL;omega⟩;rw[(mZ n).1,if_neg];have:=yo (n:=n) (k:=3) h1 (by decide);omega
theorem Mf{n d:Int}(h:I64 n/\I64 d/\d≠0):I64 n/\I64 d/\chk (Lib.itoa n)=0/\chk (Lib.itoa d)=0/\ao (Lib.itoa d)≠0/\(Lib.itoa n).length<=QL/\(Lib.itoa d).length<=QL:=by
 rw[(bg d).2];exact⟨h.1,h.2.1,(nY h.1).1,(nY h.2.1).1,h.2.2,(nY h.1).2,(nY h.2.1).2⟩
theorem OD{n d:Int}(h:I64 n/\I64 d/\d≠0):lB (Rat.divInt (ao (Lib.itoa n)) (ao (Lib.itoa d)))=aX (Rat.divInt n d)/\gS (Rat.divInt (ao (Lib.itoa n)) (ao (Lib.itoa d)))=0:=by
 rw[(bg n).2,(bg d).2];have h1:=jB n d h.2.2;have h2:=oI h.1;have h3:=oI h.2.1;have h4:=nO (x:=Rat.divInt n d) (by omega);unfold lB gS;rw[if_pos h4,if_pos h4];exact⟨rfl,rfl⟩
theorem Mg{n d:List UInt8}(hn:chk n=0)(hd:chk d=0)(h0:ao d≠0)(h1:n.length<=1000000000)(h2:d.length<=1000000000):(RF n/\List.length n<CAP)/\(RF d/\List.length d<CAP)/\gQ (enc (ao n)) (enc (ao d))/\
  NOK (bk (Rat.divInt (dec (enc (ao n))) (dec (enc (ao d)))))/\lq (bG (bk (Rat.divInt (dec (enc (ao n))) (dec (enc (ao d))))))<=QC:=by
 have f1:RF n:=by unfold RF;rw[hn];decide
 have f2:RF d:=by unfold RF;rw[hd];decide
 have k1:=uk f1;have k2:=uk f2;have e:QC=100000000000:=rfl;have e2:CAP=1000000000000:=rfl;refine⟨⟨f1,by omega⟩,⟨f2,by omega⟩,⟨enc_ok _,enc_ok _,by rw[bO];exact h0,by rw[lwl,lwl];omega⟩,b4 _,?_⟩;rw[aL,bO,bO];have:=jB (ao n) (ao d) h0;omega
end Go.Cm
end
section
namespace Go.Cm
open Go.Proofs
theorem wX{b K:Nat}{x:Rat}(hx:lq x<=K){D:Int}(hD:D≠0):∀ l:List Rat,l≠ []->(∀ i,∃ n:Int,lw n<=b/\cf l i=Rat.divInt n D)->
  ∃ N:Int,ak l x=Rat.divInt N (D*(x.den:Int)^(l.length-1))/\(N.natAbs:Int)<=l.length*(LB^b*LB^(K*(l.length-1)))
 | [],h,_=>absurd rfl h
 | [c],_,h=>by
  obtain⟨n,n1,n2⟩:=h 0;have e:cf [c] 0=c:=by simp[cf]
  refine⟨n,?_,?_⟩;·rw[db,<- e,n2];simp
  ·have:=p7 n1;simp;exact this
 |c::a::l,_,h=>by
  obtain⟨N,h1,h2⟩:=wX hx hD (a::l) (by simp) fun i=>by
   obtain⟨n,n1,n2⟩:=h (i+1);exact⟨n,n1,by rw[<- n2];simp[cf]⟩
  obtain⟨m,m1,m2⟩:=h 0;have e:cf (c::a::l) 0=c:=by simp[cf]
  rw[e] at m2;have hd:=dK x;have hlen:(c::a::l).length-1=(a::l).length-1+1:=by simp
  generalize hk:(a::l).length-1=k at*;have hl1:(a::l).length=k+1:=by simp at hk ⊢;omega
  have hl2:(c::a::l).length=k+2:=by simp at hk ⊢;omega
  have hdk:D*(x.den:Int)^k≠0:=Int.mul_ne_zero hD (Int.pow_ne_zero hd);refine⟨N*x.num+m*(x.den:Int)^(k+1),?_,?_⟩
  ·(rw[hlen,cg,h1,m2];conv=>lhs;arg 1;arg 2;rw[<- Rat.num_divInt_den x]);rw[Rat.divInt_mul_divInt,Rat.divInt_add_divInt _ _ (Int.mul_ne_zero hdk hd) hD];(have e1:N*x.num*D+m*(D*(x.den:Int)^k*(x.den:Int))=(N*x.num+m*(x.den:Int)^(k+1))*D:=by rw[Int.pow_succ];grind);(have e2:D*(x.den:Int)^k*(x.den:Int)*D=D*(x.den:Int)^(k+1)*D:=by rw[Int.pow_succ];grind);rw[e1,e2,Rat.divInt_mul_right hD]
  ·rw[hlen,hl2];rw[hl1] at h2;have q1:(x.num.natAbs:Int)<=LB^K:=p7 (Nat.le_trans (dJ x) hx);have q2:((x.den:Int).natAbs:Int)<=LB^K:=p7 (Nat.le_trans (dk x) hx);have q3:=p7 m1;have p1:(0:Int)<=LB^K:=Int.le_of_lt (lbpos _);have p2:(0:Int)<=LB^b:=Int.le_of_lt (lbpos _);have p3:(0:Int)<=LB^(K*k):=Int.le_of_lt (lbpos _);have q4:(((x.den:Int)^(k+1)).natAbs:Int)<=LB^(K*(k+1)):=by
    have key:∀ j:Nat,(((x.den:Int)^j).natAbs:Int)<=LB^(K*j):=by
     intro j;induction j with
     |zero=>simp
     |succ j ih=>
      rw[Int.pow_succ,Int.natAbs_mul,Int.natCast_mul,Nat.mul_succ,Int.pow_add];exact Int.mul_le_mul ih q2 (by omega) (Int.le_of_lt (lbpos _))
    exact key _
   (have e3:(LB:Int)^(K*(k+1))=LB^(K*k)*LB^K:=by rw[Nat.mul_succ,Int.pow_add]);have t1:((N*x.num).natAbs:Int)<=((k+1:Nat):Int)*(LB^b*LB^(K*(k+1))):=by
    rw[Int.natAbs_mul,Int.natCast_mul,e3];refine Int.le_trans (Int.mul_le_mul h2 q1 (by omega) (Int.mul_nonneg (by omega) (Int.mul_nonneg p2 p3))) (Int.le_of_eq ?_);grind
   have t2:((m*(x.den:Int)^(k+1)).natAbs:Int)<=LB^b*LB^(K*(k+1)):=by
    rw[Int.natAbs_mul,Int.natCast_mul];exact Int.mul_le_mul q3 q4 (by omega) p2
   have t3:(((N*x.num+m*(x.den:Int)^(k+1)).natAbs:Nat):Int)<=((N*x.num).natAbs:Int)+((m*(x.den:Int)^(k+1)).natAbs:Int):=by
    have:=Int.natAbs_add_le (N*x.num) (m*(x.den:Int)^(k+1));omega
   have e4:((k+2:Nat):Int)*(LB^b*LB^(K*(k+1)))=((k+1:Nat):Int)*(LB^b*LB^(K*(k+1)))+LB^b*LB^(K*(k+1)):=by
    rw[show ((k+2:Nat):Int)=((k+1:Nat):Int)+1 by omega,Int.add_mul,Int.one_mul]
   omega
theorem uZ{b K:Nat}{l:List Rat}{x:Rat}(hl:Den b l)(hx:lq x<=K)(hn:l.length<1000000000):lq (ak l x)<=b+K*(l.length-1)+1:=by
 by_cases h:l= []
 ·subst h;rw[cb];exact Nat.le_trans iw (by omega)
 ·obtain⟨D,d1,d2,d3⟩:=hl;obtain⟨N,h1,h2⟩:=wX hx d1 l h d3;rw[h1];have hd:=dK x;refine Nat.le_trans (jB _ _ (Int.mul_ne_zero d1 (Int.pow_ne_zero hd))) (Nat.max_le.2 ⟨kL ?_,?_⟩);·have k3:(0:Int)<LB^b*LB^(K*(l.length-1)):=Int.mul_pos (lbpos _) (lbpos _);have k4:(l.length:Int)*(LB^b*LB^(K*(l.length-1)))<LB*(LB^b*LB^(K*(l.length-1))):=Int.mul_lt_mul_of_pos_right (by show (l.length:Int)<1000000000;omega) k3;(have k5:(LB:Int)^(b+K*(l.length-1)+1)=LB*(LB^b*LB^(K*(l.length-1))):=by rw[Int.pow_succ,Int.pow_add,Int.mul_comm]);omega
  ·have h3:=bW D ((x.den:Int)^(l.length-1));have h4:=PQ (x.den:Int) (l.length-1);have h5:lw (x.den:Int)*(l.length-1)<=K*(l.length-1):=Nat.mul_le_mul_right _ (Nat.le_trans (dk x) hx);omega
theorem FP{l:List Rat}(hl:Pol l){x:Rat}(hx:dx x=true)(hv:dx (ak l x)=true):p9 (txP l) (aX x)/\evE (txP l) (aX x)=0/\evS (txP l) (aX x)=aX (ak l x):=by
 obtain⟨h1,h2⟩:=LJ hl hx;refine⟨LI hl hx,by rw[h1,iV];exact hv,?_⟩;rw[h2];unfold lB;rw[if_pos hv]
end Go.Cm
namespace Go.Cm
open Go.Proofs
end Go.Cm
end
section
namespace Go.Cm
open Go.Proofs
theorem El{q s:List Rat}(h:aS q=s)(hl:q.length=s.length):q=s:=by
 by_cases hn:q= []
 ·subst hn;exact h
 ·by_cases h0:q.getLastD 0=0
  ·have h1:=kq hn h0;have h2:=eu q.dropLast;have h3:=List.length_pos_iff.2 hn;rw[<- h1,h,List.length_dropLast] at h2;omega
  ·rw[<- h,ko hn h0]
theorem II{l s t:List Rat}(h:nX l s (bJ l (aZ l)) t):bC l=cx s:=by
 have e1:bh s (bJ l (aZ l))=l:=gJ (eg h.ts h.tg) h.tf fun x=>by rw[aR,h.fs]
 have e2:=cj h.s0 h.g0;rw[e1] at e2;obtain⟨u1,_⟩:=p6 (p:=l) h.g0 h.tf h.tg h.ts me (by simpa using List.length_pos_iff.2 h.g0) fun z=>by rw[cb,h.fs];grind
 have e3:=iG l (bJ l (aZ l));have hg:=List.length_pos_iff.2 h.g0;have e4:(divN l (bJ l (aZ l))).1=s:=El u1 (by omega);unfold bC;rw[if_neg h.f0,e4]
theorem IJ{a b:List Rat}{c:Rat}(hc:c≠0)(h:∀ x,ak b x=ak a x*c)(ha:Sqf a):Sqf b:=by
 obtain⟨u,v,huv⟩:=ha;have hd:∀ x,ak (aZ b) x=ak (aZ a) x*c:=fun x=>by
  rw[yx (m:=a.map fun y=>y*c) (fun z=>by rw[h,cG]) x,wV]
 exact⟨u.map fun y=>y*(1/c),v.map fun y=>y*(1/c),fun x=>by
  rw[cG,cG,h,hd];have:=huv x;grind⟩
structure Mh (l s:List Rat):Prop where
 tl:Trm l
 l0:l≠ []
 ts:Trm s
 s0:s≠ []
 s1:aH s=1
 sqf:Sqf s
 dv:Dv s l
 max:∀ e,Trm e->Sqf e->Dv e l->Dv e s
theorem gq{l:List Rat}(tl:Trm l)(l0:l≠ []):Mh l (bC l):=by
 obtain⟨s,t,h⟩:=Bc tl l0;rw[II h];have hc:=h.ts h.s0;have hp:=List.length_pos_iff.2 h.s0;refine⟨tl,l0,dn h.ts,fun e=>h.s0 (mh.1 e),by rw[iR hp];grind,?_,?_,fun e te he hd=> ?_⟩;·exact IJ (c:=1/aH s) (by grind) (fun x=>by rw[gT];grind) (wW _ (Nat.le_refl _) h)
 ·exact Dv.of ((bJ l (aZ l)).map fun y=>y*aH s) fun x=>by rw[cG,gT,h.fs];grind
 ·obtain⟨k,_,hk⟩:=h.sqf te he hd;exact Dv.of (k.map fun y=>y*(1/aH s)) fun x=>by rw[cG,gT];have:=hk x;grind
theorem Qf{f p:List Rat}(tf:Trm f)(tp:Trm p)(hq:Sqf f)(hd:Dv f (bh p p)):Dv f p:=by
 obtain⟨⟨w,tw,hw⟩,⟨y,ty,hy⟩⟩:=(ky tf tp _).1 (Dv.refl (bJ f p));obtain⟨a,b,hab⟩:=bez tf tp;obtain⟨u,v,huv⟩:=hq;have hde:=fI (m:=f) (a:=bJ f p) (b:=w) fun x=>(hw x).symm;have c1:Cop (bJ f p) w:=⟨bl (· + ·) (bh w u) (bh (aZ w) v),bh (aZ (bJ f p)) v,fun x=>by
  rw[ew,aR,aR,aR];have:=huv x;have:=hw x;have:=hde x;grind⟩
 have c3:Cop w p:=by
  obtain⟨m,n,hmn⟩:=c1;exact⟨bl (· + ·) (bh (bJ f p) (bh a m)) n,bh b m,fun x=>by
   rw[ew,aR,aR,aR];have:=hmn x;have:=hab x;have:=hw x;grind⟩
 have d1:Dv w (bh p p):=by
  obtain⟨k,tk,hk⟩:=hd;exact Dv.of (bh (bJ f p) k) fun x=>by rw[aR,<- hk,<- hw];grind
 have d2:Dv w p:=c3.cancel (fun x=>aR p p x) d1;have d3:Dv w [1]:=c3.cancel (m:=p) (fun x=>by rw[db];grind) d2;obtain⟨k,tk,hk⟩:=d3;exact Dv.of (bh k y) fun x=>by
  rw[aR];have h1:=hk x;have h2:=hw x;have h3:=hy x;rw[db] at h1;rw[<- h3,<- h2];grind
theorem IK{p:List Rat}(tp:Trm p):bC (bh p p)=bC p:=by
 by_cases h0:p= []
 ·subst h0;rw[dB]
 ·have h1:=gq tp h0;have h2:=gq (eg tp tp) (fun e=>(jq e).elim h0 h0);have hpp:Dv p (bh p p):=Dv.of p fun x=>by rw[aR]
  exact FN h2.ts h1.ts h2.s0 h1.s0 h2.s1 h1.s1 (h1.max _ h2.ts h2.sqf (Qf h2.ts tp h2.sqf h2.dv)) (h2.max _ h1.ts h1.sqf (h1.dv.trans hpp))
theorem Bd{l s:List Rat}(h:Mh l s)(r:Rat):ak l r=0↔ak s r=0:=by
 constructor
 ·intro h0;have te:Trm [-r,1]:=fun _=>by show (1:Rat)≠0;decide
  have hq:Sqf [-r,1]:=by
   have e:aZ [-r,1]= [1]:=by
    unfold aZ lC;simp[cf];decide
   exact⟨[], [1],fun x=>by rw[e,db,cb];grind⟩
  have hd:Dv [-r,1] l:=Dv.of (sdQ r l) fun x=>by
   have:=FC r x l;rw[cg,cg,cb];grind
  obtain⟨k,_,hk⟩:=h.max _ te hq hd;have:=hk r;rw[cg,cg,cb] at this;grind
 ·intro h0;obtain⟨k,_,hk⟩:=h.dv;rw[<- hk,h0];grind
theorem OE{s t:List Rat}(ts:Trm s)(tt:Trm t)(h:Cop s t)(s0:s≠ []):bJ s t= [1]:=by
 have g0:=mi (q:=t) (.inl s0);have tg:=lI ts tt;have g1:=uU ts tt g0;obtain⟨⟨a,_,ha⟩,b,_,hb⟩:=(ky ts tt _).1 (Dv.refl (bJ s t));obtain⟨u,v,huv⟩:=h;have t1:Trm [(1:Rat)]:=fun _=>by show (1:Rat)≠0;decide
 exact FN tg t1 g0 (by simp) g1 rfl (Dv.of (bl (· + ·) (bh a u) (bh b v)) fun x=>by
  rw[ew,aR,aR,db];have:=ha x;have:=hb x;have:=huv x;grind) (Dv.of (bJ s t) fun x=>by rw[db];grind)
structure u0 (p s:List Rat):Prop where
 pp:Pol p
 ps:Pol s
 psq:Pol (bh p p)
 ok:bS (fun p _=>kN p) (fun a _=>bC a) (txP p) []
 okq:bS (fun p _=>kN p) (fun a _=>bC a) (txP (bh p p)) []
 sq:bC (bh p p)=s
 nil:p= []->s= []
 rest:p≠ []->s≠ []/\aH s=1/\Pol (aZ s)/\(uM (txP p) (txP s)/\dvE (txP p) (txP s)=0/\dvR (txP p) (txP s)= [])/\bS iS bJ (txP s) (txP (aZ s))/\bJ s (aZ s)= [1]
 val:∀ x,lq x<=3->dx x=true/\dx (ak p x)=true/\dx (ak s x)=true/\(p≠ []->(ak p x=0↔ak s x=0))
theorem Em{p:List Rat}(hp:Sml 9 1 p):u0 p (bC p):=by
 have e1:QD=10000000000:=rfl;have pp:=hp.pol (by decide) (by decide);have sa:Sml 17 3 (bh p p):=hp.mul hp (by decide) (by decide) (by decide) (by decide);have hp17:Sml 17 1 p:=⟨by have:=hp.len;omega,hp.trm,hp.den⟩;have pa:=sa.pol (by decide) (by decide);have ok:=FA hp (by decide) (by decide) (by decide);have hsq:=IK hp.trm;have sd:Sml 16 4 (aZ (bh p p)):=sa.der (by decide);have pd:=sd.pol (by decide) (by decide);obtain⟨_,gok,_⟩:=qA sa sd pa pd (by decide);have dg:Den 11 (bJ (bh p p) (aZ (bh p p))):=by
  by_cases h0:bh p p= []
  ·rw[h0,show aZ []= [] from rfl,Mb];exact ku (by omega)
  ·have tg:=lI sa.trm sd.trm;obtain⟨s,s1,s2⟩:=kz tg sa.trm ((ky sa.trm sd.trm _).1 (Dv.refl _)).1;exact lJ sa h0 s2 tg (uU sa.trm sd.trm (mi (.inl h0)))
 have okq:=Fz sa pa gok dg (by decide);have hs9:Sml 9 9 (bC p):=by
  by_cases h0:p= []
  ·subst h0;exact⟨by simp[bC],me,ku (by omega)⟩
  ·have h:=gq hp.trm h0;obtain⟨k,tk,hk⟩:=kz h.ts hp.trm h.dv;(have k0:k≠ []:=by rintro rfl;rw[di] at hk;exact h0 hk.symm);have hl:=cj h.s0 k0;rw[hk] at hl;have:=hp.len;have:=List.length_pos_iff.2 k0;exact⟨by omega,h.ts,lJ hp17 h0 hk h.ts h.s1⟩
 have ps:=hs9.pol (by decide) (by decide);refine⟨pp,ps,pa,ok,okq,hsq,fun h=>by subst h;rfl,fun h0=> ?_,fun x hx=> ?_⟩
 ·have h:=gq hp.trm h0;have sds:Sml 8 10 (aZ (bC p)):=hs9.der (by decide);have pds:=sds.pol (by decide) (by decide);obtain⟨k,tk,hk⟩:=kz h.ts hp.trm h.dv;have sk:=Mc hp17 h.ts tk h.s0 h.s1 hk;have pk:=sk.pol (by decide) (by decide);obtain⟨q0,q1,_,q3⟩:=N9 hp hs9 (by decide) (by decide) (by decide) (by decide) h.s0 pk mf (by simpa using List.length_pos_iff.2 h.s0) fun z=>by rw[cb,<- hk,aR];grind
  exact⟨h.s0,h.s1,pds,⟨q0,q1,q3⟩,(qA hs9 sds ps pds (by decide)).1,OE h.ts pds.trm h.sqf h.s0⟩
 ·have hl:=hp.len;have hl2:=hs9.len;have ea:=uZ hp.den hx (by omega);have eb:=uZ hs9.den hx (by omega);exact⟨nO (by omega),nO (by omega),nO (by omega),fun h0=>Bd (gq hp.trm h0) x⟩
theorem En(r:Int):ak (gm r) (Rat.divInt (r.tmod 8) 2)=0:=by
 unfold gm;rw[cg,cg,cb,<- Rat.neg_divInt];grind
theorem wY(d:DPD):∀ i k,i<k->ak (jD d k) (Rat.divInt ((d.2.2.getD i 0).tmod 8) 2)=0
 |i,0,h=>absurd h (by omega)
 |i,k+1,h=>by
  rw[jD,aR];by_cases e:i=k;·subst e;rw[En];grind
  ·rw[wY d i k (by omega)];grind
theorem Eo(d:DPD){i:Nat}(h:i<d.2.2.length)(h4:i<4):ak (nV d) (Rat.divInt ((d.2.2.getD i 0).tmod 8) 2)=0:=wY d i _ (by omega)
theorem OG{n:Int}(h:n.natAbs<=128):lq (Rat.divInt n 2)<=3:=by
 have h1:=jB n 2 (by decide);have h2:lw n<=1:=gp (by omega);have h3:lw 2<=1:=gp (by decide);omega
theorem Mi{p s:List Rat}(hv:u0 p s){n:Int}(h:n.natAbs<=128):
  (p9 (txP p) (aX (Rat.divInt n 2))/\evE (txP p) (aX (Rat.divInt n 2))=0/\evS (txP p) (aX (Rat.divInt n 2))=aX (ak p (Rat.divInt n 2)))/\
  (p9 (txP s) (aX (Rat.divInt n 2))/\evE (txP s) (aX (Rat.divInt n 2))=0/\evS (txP s) (aX (Rat.divInt n 2))=aX (ak s (Rat.divInt n 2)))/\
  (p≠ []->(ak p (Rat.divInt n 2)=0↔ak s (Rat.divInt n 2)=0)):=by
 obtain⟨h1,h2,h3,h4⟩:=hv.val _ (OG h);exact⟨FP hv.pp h1 h2,FP hv.ps h1 h3,h4⟩
theorem Mj{l:List Int}:List.drop (Int.toNat 0) (List.take (Int.toNat (min ((l.length:Nat):Int) 4)) l)=List.take (min l.length 4) l:=by
 rw[show Int.toNat 0=0 from rfl,List.drop_zero];congr 1;omega
theorem OH{d:DPD}(h:kx d){k:Nat}(hk:k<(d.2.2.take (min d.2.2.length 4)).length):
  IntKind.i64.wrap (nth I8 (d.2.2.take (min d.2.2.length 4)) (k:Int))=d.2.2.getD k 0/\((d.2.2.getD k 0).tmod 8).natAbs<=128/\ak (nV d) (Rat.divInt ((d.2.2.getD k 0).tmod 8) 2)=0:=by
 have hk':=hk;rw[List.length_take] at hk';have h1:=h.2.2 (nth I8 d.2.2 (k:Int)) (gj (t:=I8) (by omega));have e1:nth I8 d.2.2 (k:Int)=d.2.2[k]'(by omega):=yw (by omega);have e2:nth I8 (d.2.2.take (min d.2.2.length 4)) (k:Int)=d.2.2[k]'(by omega):=by rw[yw hk,List.getElem_take]
 have e3:d.2.2.getD k 0=d.2.2[k]'(by omega):=by
  rw[List.getD_eq_getElem?_getD,List.getElem?_eq_getElem (by omega)];rfl
 rw[e1] at h1;refine⟨by rw[e2,e3,wi (by omega) (by omega)],?_,Eo d (by omega) (by omega)⟩;have:=fl (d.2.2.getD k 0) 8 (by decide);omega
theorem Mk{p s:List Rat}(hv:u0 p s)(hs:bC p=s):(c6 (fun a _=>bC a) (txP p) []=txP s/\cZ (fun a _=>bC a) (txP p) []=0)/\
  (c6 bh (txP p) (txP p)=txP (bh p p)/\cZ bh (txP p) (txP p)=0)/\(c6 (fun a _=>bC a) (txP (bh p p)) []=txP s/\cZ (fun a _=>bC a) (txP (bh p p)) []=0):=by
 refine⟨lH (f:=fun a _=>bC a) hv.pp mf (by simp only[hs];exact jW hv.ps.trm) hv.ps,lH (f:=bh) hv.pp hv.pp (jW hv.psq.trm) hv.psq,lH (f:=fun a _=>bC a) hv.psq mf (by simp only[hv.sq];exact jW hv.ps.trm) hv.ps⟩
end Go.Cm
end
section
namespace Go.Proofs.YtdojbabpnaifoaaGreatDoor
open Go Go.Cm Go.Proofs
theorem Qg:cU Tryz.prog 84 .func:=EM (by kernel_rfl) ⟨_,_,_,Tryz.underlying84⟩
theorem QX:cU Tryz.prog 109 .func:=EM (by kernel_rfl) ⟨_,_,_,Tryz.underlying109⟩
def yA(B:ah):Tab:={types:= [(3,(.int .i64)),(181,(.slice (.int .i64)))],elems:= [],cons:= [],hint:= [],N:=21,base:=B}
theorem FQ{B:ah}(hB:aC B):aJ Tryz.prog (yA B):=⟨⟨tc ty3 (tc jT (ae)),af,by simp only[yA,ioB];omega⟩,bU rfl,by kernel_rfl⟩
def mN:Con:=fun l os=>match l,os with
 | [.z (.slice (.int .i64)) d], []=>some (D.Lim d/\d.length<CAP, [.z (.slice (.int .i64)) (D.limbs (D.valL d).toNat)], [])
 |_,_=>none
theorem nZ{B:ah}(hB:aC B):Valid B Tryz.prog 183 mN:=by
 refine ab (FQ hB).tab Tryz.func183 rfl rfl rfl ?_;intro args os C rs os' hc hC;unfold mN at hc;split at hc;case h_2=>cases hc
 rename_i d;cases hc;refine v_h (FQ hB) fun X hP hT hr hG=> ?_;have hU:=yA.eq_1;unfold yA at hT;have hX:=Bool.not_true;simp only[Tryz.f183,aD,an,ioB];refine s_g hG ?_;refine al ?_;refine av ?_;refine bw (fun(z:List Int)=>(⟨[(0, .l (.z (.slice (.int .i64)) z))], []⟩:aa)) (fun z=>D.Lim z/\D.valL z=D.valL d/\z.length<=d.length) (fun z=>z.length) d ?_ ?_ ?_;·simp only[ml0,ml1,Nat.reduceLT,Nat.reduceEqDiff,Nat.reduceAdd,Nat.reduceMul,Nat.reduceSub,Nat.reduceLeDiff,Nat.reduceBEq,Nat.reduceBNe,reduceIte,reduceDIte,reduceCtorEq]
 ·exact⟨hC.1,rfl,Nat.le_refl _⟩
 ·rintro z ⟨g1,g2,g3⟩;try dsimp only at g1 g2 g3
  have h4:z.length<1000000000000:=Nat.lt_of_le_of_lt g3 hC.2;refine al ?_;refine s_q hG ?_ ?_
  ·(try simp only[ba]);exact⟨id,id,fun h=>⟨h,by simp only[decide_eq_true_eq] at h;rw[wi (by omega) (by omega)];omega⟩,id⟩
  refine ar ?_ ?_
  ·intro hb0;(try simp only[bt] at hb0);refine au ?_;refine aj ?_;refine av ?_;refine ag hG ?_ ?_
   ·(try simp only[ba]);rw[wi (by omega) (by omega)];omega
   refine aN ?_;show ∃ z,_;refine q_l ?_;exact D.whole_round g1 g2 g3 hb0.1 h4 hb0.2
  ·intro hb0;(try simp only[bf] at hb0);refine bj ?_;refine aG ?_;refine ay ?_;refine ax ?_;refine aj ?_;refine s_g hG ?_;refine az ?_;refine q_e [] ?_;refine D.cut_fin g1 g2 fun hz h0=> ?_;have:=hb0 (by simp;omega);rw[wi (by omega) (by omega),D.last_eq hz] at this;exact this h0
def yB(B:ah):Tab:={types:= [(3,(.int .i64)),(181,(.slice (.int .i64)))],elems:= [],cons:= [],hint:= [],N:=41,base:=B}
theorem FR{B:ah}(hB:aC B):aJ Tryz.prog (yB B):=⟨⟨tc ty3 (tc jT (ae)),af,by simp only[yB,ioB];omega⟩,bU rfl,by kernel_rfl⟩
def iI:Con:=fun l os=>match l,os with
 | [.z (.slice (.int .i64)) m, .z (.slice (.int .i64)) o], []=>some (D.Cano m/\D.Cano o/\m.length<CAP/\o.length<CAP, [.z (.int .i64) (bD (D.valL m) (D.valL o))], [])
 |_,_=>none
theorem Be{B:ah}(hB:aC B):Valid B Tryz.prog 160 iI:=by
 refine ab (FR hB).tab Tryz.func160 rfl rfl rfl ?_;intro args os C rs os' hc hC;unfold iI at hc;split at hc;case h_2=>cases hc
 rename_i m o;cases hc;refine v_h (FR hB) fun X hP hT hr hG=> ?_;have hU:=yB.eq_1;unfold yB at hT;have hX:=Bool.not_true;simp only[Tryz.f160,aD,an,ioB];refine s_g hG ?_;refine al ?_;refine s_g hG ?_;refine ar ?_ ?_
 ·intro hb0;try simp only[bt] at hb0
  refine al ?_;refine s_g hG ?_;refine ar ?_ ?_;·intro hb1;(try simp only[bt] at hb1);refine s_g hG ?_;refine az ?_;refine aB ?_;refine aB ?_;refine q_e [] ?_;unfold bD;rw[if_pos (D.cmp_len hC.1 hC.2.1 (by omega))]
  ·intro hb1;(try simp only[bf] at hb1);refine au ?_;refine aj ?_;refine s_g hG ?_;refine az ?_;refine aB ?_;refine q_e [] ?_;have:=D.cmp_len hC.2.1 hC.1 (by omega);unfold bD;rw[if_neg (by omega),if_pos this]
 ·intro hb0;simp only[bne_eq_false_iff_eq] at hb0;obtain⟨c1,c2,c3,c4⟩:=hC;have c3:List.length m<1000000000000:=c3;have hl:List.length m=List.length o:=by omega
  refine au ?_;refine aj ?_;refine al ?_;refine s_g hG ?_;refine av ?_;refine bw (fun(z:Nat)=>(⟨[(0, .l (.z (.slice (.int .i64)) m)),(1, .l (.z (.slice (.int .i64)) o)),(5, .l (.z (.int .i64) ((z:Int)-1)))], []⟩:aa)) (fun z=>z<=List.length m/\List.drop z m=List.drop z o) (fun z=>z) (List.length m) ?_ ?_ ?_;·refine q_l ?_;exact wi (by omega) (by omega)
  ·exact⟨Nat.le_refl _,by rw[List.drop_length,List.drop_of_length_le (by omega)]⟩
  ·rintro k ⟨g1,g2⟩;(try dsimp only at g1 g2);refine al ?_;refine s_g hG ?_;refine ar ?_ ?_
   ·intro hb2;(try simp only[bt] at hb2);refine au ?_;refine aj ?_;refine al ?_;refine av ?_;refine s_d hG ?_ ?_
    ·(try simp only[ba]);exact⟨⟨by omega,by omega⟩,by omega,by omega⟩
    refine ar ?_ ?_
    ·intro hb3;(try simp only[bt] at hb3);refine al ?_;refine s_d hG ?_ ?_
     ·(try simp only[ba]);exact⟨⟨by omega,by omega⟩,by omega,by omega⟩
     (refine ar ?_ ?_;·intro hb4;(try simp only[bt] at hb4);refine s_g hG ?_;refine az ?_;refine aB ?_;refine bK ?_;refine aB ?_;refine eO ?_;refine bK ?_;refine aB ?_;refine q_e [] ?_;obtain⟨j,rfl⟩:∃ j,k=j+1:=⟨k-1,by omega⟩;(have hk:((j+1:Nat):Int)-1=(j:Int):=by omega);rw[hk] at hb4;exact(D.cmp_less c1 c2 hl (by omega) g2 hb4).symm);·intro hb4;(try simp only[bf] at hb4);refine au ?_;refine aj ?_;refine s_g hG ?_;refine az ?_;refine bK ?_;refine aB ?_;refine eO ?_;refine bK ?_;refine aB ?_;refine q_e [] ?_;obtain⟨j,rfl⟩:∃ j,k=j+1:=⟨k-1,by omega⟩;(have hk:((j+1:Nat):Int)-1=(j:Int):=by omega);rw[hk] at hb3 hb4;have hb5:List.getD o j 0<List.getD m j 0:=D.gt_of hb4 hb3;exact(D.cmp_more c1 c2 hl (by omega) g2 hb5).symm
    ·(intro hb3;(try simp only[bf] at hb3);refine au ?_;refine aN ?_;refine aj ?_;refine ag hG ?_ ?_;·first|trivial|omega|(simp;done)|(simp;omega));show ∃ z,_;refine q_l ?_;obtain⟨j,rfl⟩:∃ j,k=j+1:=⟨k-1,by omega⟩;(have hk:((j+1:Nat):Int)-1=(j:Int):=by omega);rw[hk] at hb3 ⊢;exact⟨j,wi (by omega) (by omega),by omega,D.drop_step hl (by omega) g2 hb3,by omega⟩
   ·intro hb2;(try simp only[bf] at hb2);refine bj ?_;refine aG ?_;refine ay ?_;refine ax ?_;refine aj ?_;refine s_g hG ?_;refine az ?_;refine q_e [] ?_;(have:k=0:=by omega);subst this;simp only[List.drop_zero] at g2;rw[g2];simp[bD]
def yC(B:ah):Tab:={types:= [(3,(.int .i64)),(181,(.slice (.int .i64)))],elems:= [(181,3)],cons:= [],hint:= [],N:=54,base:=B}
theorem FS{B:ah}(hB:aC B):aJ Tryz.prog (yC B):=⟨⟨tc ty3 (tc jT (ae)),aT (by kernel_rfl) (af),by simp only[yC,ioB];omega⟩,bU rfl,by kernel_rfl⟩
def yD:Con:=fun l os=>match l,os with
 | [.z (.slice (.int .i64)) m, .z (.slice (.int .i64)) o], []=>some (D.Cano m/\D.Cano o/\m.length<CAP/\o.length<CAP, [.z (.slice (.int .i64)) (D.limbs (D.valL m+D.valL o).toNat)], [])
 |_,_=>none
theorem Ml{B:ah}(hB:aC B):Valid B Tryz.prog 159 yD:=by
 refine ab (FS hB).tab Tryz.func159 rfl rfl rfl ?_;intro args os C rs os' hc hC;unfold yD at hc;split at hc;case h_2=>cases hc
 rename_i m o;cases hc;refine v_h (FS hB) fun X hP hT hr hG=> ?_;have hU:=yC.eq_1;unfold yC at hT;have hX:=Bool.not_true;simp only[Tryz.f159,aD,an,ioB];refine s_g hG ?_;refine s_g hG ?_;refine s_g hG ?_;refine al ?_;refine s_g hG ?_;refine av ?_;refine bw (fun(z:Nat×Int×List Int)=>(⟨[(0, .l (.z (.slice (.int .i64)) m)),(1, .l (.z (.slice (.int .i64)) o)),(5, .l (.ownS 50)),(6, .l (.z (.int .i64) z.2.1)),(7, .l (.z (.int .i64) (z.1:Int)))], [(50, .arr (.int .i64) 3 z.2.2)]⟩:aa)) (fun z=>D.PlusPhi m o z.1 z.2.1 z.2.2) (fun z=>2*(max (List.length m) (List.length o)-z.1)+z.2.1.toNat) (0,0, []) ?_ ?_ ?_;·refine q_l ?_;exact⟨rfl,by unfold ioB;omega⟩
 ·exact D.plus_start
 ·rintro⟨k,c,out⟩ hz;try dsimp only at hz
  obtain⟨c1,c2,c3,c4⟩:=hC;have c3:List.length m<1000000000000:=c3;have c4:List.length o<1000000000000:=c4;have hw:=D.plus_n c1.1 c2.1 hz;have hk:=hz.hk;refine al ?_;refine s_q hG ?_ ?_
  ·try simp only[ba]
   (repeat' (first|apply And.intro|intro _))<;>(try simp only[decide_eq_true_eq,decide_eq_false_iff_not,Bool.not_eq_true',beq_iff_eq,Int.toNat_natCast] at*)<;>first|assumption|omega|trivial|(simp_all;done)|(simp_all;omega)
  refine ar ?_ ?_
  ·intro hb0;simp only[Bool.or_eq_true,decide_eq_true_eq] at hb0;(have hkk:k<List.length m∨k<List.length o∨(0:Int)<c:=by omega);have hks:=hz.hs;have hkM:k<=max (List.length m) (List.length o):=D.plus_k hz (by omega);(have hb0:(k<List.length m∨k<List.length o)∨(0:Int)<c:=by omega);refine au ?_;refine aj ?_;refine al ?_;refine av ?_;refine s_g hG ?_;refine cB (fun(z:Int)=>(⟨[(0, .l (.z (.slice (.int .i64)) m)),(1, .l (.z (.slice (.int .i64)) o)),(5, .l (.ownS 50)),(6, .l (.z (.int .i64) c)),(7, .l (.z (.int .i64) (k:Int))),(8, .l (.z (.int .i64) z))], [(50, .arr (.int .i64) 3 out)]⟩:aa)) (fun z=>z=c+m.getD k 0) ?_ ?_
   ·refine s_g hG ?_;refine ar ?_ ?_
    ·intro hb1;(try simp only[bt] at hb1);refine ag hG ?_ ?_
     ·(try simp only[ba]);exact⟨by omega,by omega⟩
     show ∃ z,_;refine q_l ?_;first|exact hw.1|(rw[D.getD_none (by omega)];exact(Int.add_zero _).symm)
    ·intro hb1;(try simp only[bf] at hb1);refine au ?_;show ∃ z,_;refine q_l ?_;first|exact hw.1|(rw[D.getD_none (by omega)];exact(Int.add_zero _).symm)
   rintro n1 hn1;(try dsimp only at hn1);refine cB (fun(z:Int)=>(⟨[(0, .l (.z (.slice (.int .i64)) m)),(1, .l (.z (.slice (.int .i64)) o)),(5, .l (.ownS 50)),(6, .l (.z (.int .i64) c)),(7, .l (.z (.int .i64) (k:Int))),(8, .l (.z (.int .i64) z))], [(50, .arr (.int .i64) 3 out)]⟩:aa)) (fun z=>z=c+m.getD k 0+o.getD k 0) ?_ ?_
   ·refine s_g hG ?_;refine ar ?_ ?_
    ·intro hb2;(try simp only[bt] at hb2);refine ag hG ?_ ?_
     ·(try simp only[ba]);exact⟨by omega,by omega⟩
     show ∃ z,_;refine q_l ?_;subst hn1;first|exact hw.2.1|(rw[D.getD_none (l:=o) (by omega)];exact(Int.add_zero _).symm)
    ·intro hb2;(try simp only[bf] at hb2);refine au ?_;show ∃ z,_;refine q_l ?_;subst hn1;first|exact hw.2.1|(rw[D.getD_none (l:=o) (by omega)];exact(Int.add_zero _).symm)
   rintro n hn;(try dsimp only at hn);refine s_q hG ?_ ?_
   ·(try simp only[ba]);exact⟨by decide,by unfold Cm.Roomy;omega⟩
   refine ag hG ?_ ?_
   ·(try simp only[ba]);decide
   (refine aN ?_;refine aj ?_;refine ag hG ?_ ?_;·first|trivial|omega|(simp;done)|(simp;omega));show ∃ z,_;refine q_l ?_;obtain⟨q1,q2⟩:=D.plus_next c1.1 c2.1 hz hb0 hn;exact⟨k+1,by rw[wi (by omega) (by omega)];simp,q1,q2⟩
  ·intro hb0;simp only[Bool.or_eq_false_iff,decide_eq_false_iff_not] at hb0;refine bj ?_;refine aG ?_;refine ay ?_;refine ax ?_;refine aj ?_;refine s_g hG ?_;refine az ?_;refine q_e [50] ?_;exact D.plus_fin c1 c2 hz (by omega)
def yE(B:ah):Tab:={types:= [(3,(.int .i64)),(181,(.slice (.int .i64)))],elems:= [(181,3)],cons:= [(183,mN)],hint:= [],N:=41,base:=B}
theorem FT{B:ah}(hB:aC B):aJ Tryz.prog (yE B):=⟨⟨tc ty3 (tc jT (ae)),aT (by kernel_rfl) (af),by simp only[yE,ioB];omega⟩,aF (cc Tryz.func183 (nZ hB) (aw)),by kernel_rfl⟩
def mm:Con:=fun l os=>match l,os with
 | [.z (.slice (.int .i64)) m, .z (.slice (.int .i64)) o], []=>some (D.Cano m/\D.Cano o/\D.valL o<=D.valL m/\m.length<CAP, [.z (.slice (.int .i64)) (D.limbs (D.valL m-D.valL o).toNat)], [])
 |_,_=>none
theorem Bf{B:ah}(hB:aC B):Valid B Tryz.prog 161 mm:=by
 refine ab (FT hB).tab Tryz.func161 rfl rfl rfl ?_;intro args os C rs os' hc hC;unfold mm at hc;split at hc;case h_2=>cases hc
 rename_i m o;cases hc;refine v_h (FT hB) fun X hP hT hr hG=> ?_;have hU:=yE.eq_1;unfold yE at hT;have hX:= @mN.eq_1;simp only[Tryz.f161,aD,an,ioB];refine s_g hG ?_;refine s_g hG ?_;refine s_g hG ?_;refine al ?_;refine s_g hG ?_;refine av ?_;refine bw (fun(z:Nat×Int×List Int)=>(⟨[(0, .l (.z (.slice (.int .i64)) m)),(1, .l (.z (.slice (.int .i64)) o)),(5, .l (.ownS 38)),(6, .l (.z (.int .i64) z.2.1)),(7, .l (.z (.int .i64) (z.1:Int)))], [(38, .arr (.int .i64) 3 z.2.2)]⟩:aa)) (fun z=>D.MinusPhi m o z.1 z.2.1 z.2.2) (fun z=>List.length m-z.1) (0,0, []) ?_ ?_ ?_;·refine q_l ?_;exact⟨rfl,by unfold ioB;omega⟩
 ·exact D.minus_start
 ·rintro⟨k,b,out⟩ hz;try dsimp only at hz
  obtain⟨c1,c2,c3,c4⟩:=hC;have c4:List.length m<1000000000000:=c4;have hw:=D.minus_w c1.1 c2.1 hz;have hkm:=hz.hkm;have hk:=hz.hk;refine al ?_;refine s_g hG ?_;refine ar ?_ ?_
  ·intro hb0;(try simp only[bt] at hb0);refine au ?_;refine aj ?_;refine al ?_;refine av ?_;refine s_q hG ?_ ?_
   ·(try simp only[ba]);exact⟨by omega,by omega⟩
   refine cB (fun(z:Int)=>(⟨[(0, .l (.z (.slice (.int .i64)) m)),(1, .l (.z (.slice (.int .i64)) o)),(5, .l (.ownS 38)),(6, .l (.z (.int .i64) b)),(7, .l (.z (.int .i64) (k:Int))),(8, .l (.z (.int .i64) z))], [(38, .arr (.int .i64) 3 out)]⟩:aa)) (fun z=>z=m.getD k 0-b-o.getD k 0) ?_ ?_
   ·refine s_g hG ?_;refine ar ?_ ?_
    ·intro hb1;(try simp only[bt] at hb1);refine ag hG ?_ ?_
     ·(try simp only[ba]);exact⟨by omega,by omega⟩
     show ∃ z,_;refine q_l ?_;first|(rw[D.nth64,hw.1];exact hw.2.1)|(rw[D.nth64,hw.1,D.getD_none (l:=o) (by omega)];exact(Int.sub_zero _).symm)
    ·intro hb1;(try simp only[bf] at hb1);refine au ?_;show ∃ z,_;refine q_l ?_;first|(rw[D.nth64,hw.1];exact hw.2.1)|(rw[D.nth64,hw.1,D.getD_none (l:=o) (by omega)];exact(Int.sub_zero _).symm)
   rintro n hn;(try dsimp only at hn);refine s_g hG ?_;refine cB (fun(z:Unit)=>(⟨[(0, .l (.z (.slice (.int .i64)) m)),(1, .l (.z (.slice (.int .i64)) o)),(5, .l (.ownS 38)),(6, .l (.z (.int .i64) (D.borrowed n))),(7, .l (.z (.int .i64) (k:Int))),(8, .l (.z (.int .i64) (n+10000*D.borrowed n)))], [(38, .arr (.int .i64) 3 out)]⟩:aa)) (fun z=>True) ?_ ?_
   ·refine s_g hG ?_;refine ar ?_ ?_
    ·(intro hb2;(try simp only[bt] at hb2);refine s_g hG ?_;refine ag hG ?_ ?_;·first|trivial|omega|(simp;done)|(simp;omega));show ∃ z,_;refine q_l ?_;first|exact D.borrow_t hb2 (by rw[hn];exact hw.2.2)|exact D.borrow_f hb2
    ·intro hb2;(try simp only[bf] at hb2);refine au ?_;show ∃ z,_;refine q_l ?_;first|exact D.borrow_t hb2 (by rw[hn];exact hw.2.2)|exact D.borrow_f hb2
   rintro⟨⟩ hu;(try dsimp only at hu);refine ag hG ?_ ?_
   ·(try simp only[ba]);unfold Cm.Roomy;omega
   (refine aN ?_;refine aj ?_;refine ag hG ?_ ?_;·first|trivial|omega|(simp;done)|(simp;omega));show ∃ z,_;refine q_l ?_;exact⟨k+1,by rw[wi (by omega) (by omega)];simp,D.minus_next c1.1 c2.1 hz (by omega) hn,by omega⟩
  ·intro hb0;(try simp only[bf] at hb0);refine bj ?_;refine aG ?_;refine ay ?_;refine ax ?_;refine aj ?_;refine s_q hG ?_ ?_
   ·(try simp only[ba]);exact⟨hz.hl,by unfold CAP;omega⟩
   refine az ?_;refine q_e [] ?_;rw[(D.minus_fin c1 c2 c3 hz (by omega)).1]
def yF(B:ah):Tab:={types:= [(3,(.int .i64)),(181,(.slice (.int .i64)))],elems:= [(181,3)],cons:= [(183,mN)],hint:= [],N:=66,base:=B}
theorem FU{B:ah}(hB:aC B):aJ Tryz.prog (yF B):=⟨⟨tc ty3 (tc jT (ae)),aT (by kernel_rfl) (af),by simp only[yF,ioB];omega⟩,aF (cc Tryz.func183 (nZ hB) (aw)),by kernel_rfl⟩
def mn:Con:=fun l os=>match l,os with
 | [.z (.slice (.int .i64)) x, .z (.slice (.int .i64)) y], []=>some (D.Lim x/\D.Wid y/\x.length+y.length<CAP, [.z (.slice (.int .i64)) (D.limbs (D.valL x*D.valL y).toNat)], [])
 |_,_=>none
theorem Bg{B:ah}(hB:aC B):Valid B Tryz.prog 164 mn:=by
 refine ab (FU hB).tab Tryz.func164 rfl rfl rfl ?_;intro args os C rs os' hc hC;unfold mn at hc;split at hc;case h_2=>cases hc
 rename_i x y;cases hc;refine v_h (FU hB) fun X hP hT hr hG=> ?_;have hU:=yF.eq_1;unfold yF at hT;have hX:= @mN.eq_1;simp only[Tryz.f164,aD,an,ioB];refine s_g hG ?_;refine s_q hG ?_ ?_
 ·try simp only[ba]
  rw[D.len_wrap hC.2.2];have c3:List.length x+List.length y<1000000000000:=hC.2.2;exact⟨by omega,by omega,by unfold Cm.Roomy;omega⟩
 refine al ?_;refine s_g hG ?_;refine av ?_;refine bw (fun(z:Nat×List Int)=>(⟨[(0, .l (.z (.slice (.int .i64)) x)),(1, .l (.z (.slice (.int .i64)) y)),(5, .l (.ownS 15)),(6, .l (.z (.int .i64) (z.1:Int)))], [(15, .arr (.int .i64) 3 z.2)]⟩:aa)) (fun z=>D.TimesPhi x y z.1 z.2) (fun z=>List.length x-z.1) (0,List.replicate (List.length x+List.length y) 0) ?_ ?_ ?_;·refine q_l ?_;exact⟨rfl,by rw[D.len_wrap hC.2.2,Int.toNat_natCast]⟩
 ·exact D.times_start
 ·rintro⟨i,out⟩ hz;try dsimp only at hz
  obtain⟨c1,c2,c3⟩:=hC;have c3:List.length x+List.length y<1000000000000:=c3;have hix:=hz.h1;have hil:=hz.h2;refine al ?_;refine s_g hG ?_;refine ar ?_ ?_
  ·(intro hb0;(try simp only[bt] at hb0);refine au ?_;refine aj ?_;refine al ?_;refine av ?_;refine s_g hG ?_;refine s_g hG ?_;refine av ?_;refine bw (fun(z:Nat×Int×List Int)=>(⟨[(0, .l (.z (.slice (.int .i64)) x)),(1, .l (.z (.slice (.int .i64)) y)),(5, .l (.ownS 15)),(6, .l (.z (.int .i64) (i:Int))),(7, .l (.z (.int .i64) z.2.1)),(8, .l (.z (.int .i64) (z.1:Int)))], [(15, .arr (.int .i64) 3 z.2.2)]⟩:aa)) (fun z=>D.RowPhi x y i z.1 z.2.1 z.2.2) (fun z=>List.length y+1-z.1) (0,0,out) ?_ ?_ ?_;·refine q_l ?_;rfl);·exact D.row_start hz
   ·rintro⟨k,c,out2⟩ hk;(try dsimp only at hk);have hrb:=D.row_bound (c1.getD i) (c2.getD k) (hk.h3.getD (i+k)) hk.h4;have hk1:=hk.h1;have hk2:=hk.h2;(have hik:IntKind.i64.wrap ((i:Int)+(k:Int))=((i+k:Nat):Int):=by rw[wi (by omega) (by omega)];omega);refine al ?_;refine s_q hG ?_ ?_
    ·try simp only[ba]
     (repeat' (first|apply And.intro|intro _))<;>(try simp only[decide_eq_true_eq,decide_eq_false_iff_not,Bool.not_eq_true',beq_iff_eq,Int.toNat_natCast] at*)<;>first|assumption|omega|trivial|(simp_all;done)|(simp_all;omega)
    refine ar ?_ ?_
    ·intro hb1;simp only[Bool.or_eq_true,decide_eq_true_eq] at hb1;(have hb1:k<List.length y∨0<c:=by omega);have hin:=(D.row_next c1 c2 (by omega) hk hb1 rfl).1;refine au ?_;refine aj ?_;refine al ?_;refine av ?_;refine cB (fun(z:Unit)=>(⟨[(0, .l (.z (.slice (.int .i64)) x)),(1, .l (.z (.slice (.int .i64)) y)),(5, .l (.ownS 15)),(6, .l (.z (.int .i64) (i:Int))),(7, .l (.z (.int .i64) c)),(8, .l (.z (.int .i64) (k:Int))),(9, .l (.z (.int .i64) (out2.getD (i+k) 0+c)))], [(15, .arr (.int .i64) 3 out2)]⟩:aa)) (fun z=>True) ?_ ?_
     ·refine ag hG ?_ ?_
      ·(try simp only[ba]);rw[hik];omega
      show ∃ z,_;refine q_l ?_;rw[hik,Int.toNat_natCast];exact hrb.1
     rintro⟨⟩ hu;(try dsimp only at hu);refine cB (fun(z:Int)=>(⟨[(0, .l (.z (.slice (.int .i64)) x)),(1, .l (.z (.slice (.int .i64)) y)),(5, .l (.ownS 15)),(6, .l (.z (.int .i64) (i:Int))),(7, .l (.z (.int .i64) c)),(8, .l (.z (.int .i64) (k:Int))),(9, .l (.z (.int .i64) z))], [(15, .arr (.int .i64) 3 out2)]⟩:aa)) (fun z=>z=out2.getD (i+k) 0+c+x.getD i 0*y.getD k 0) ?_ ?_
     ·refine s_g hG ?_;refine ar ?_ ?_
      ·intro hb2;(try simp only[bt] at hb2);refine gZ hG ?_ ?_
       ·(try simp only[ba]);exact⟨⟨by omega,by omega⟩,by omega,by omega⟩
       show ∃ z,_;refine q_l ?_;first|(rw[D.nth64,D.nth64,hrb.2.1];exact hrb.2.2.1)|(rw[D.getD_none (l:=y) (by omega),Int.mul_zero];exact(Int.add_zero _).symm)
      ·intro hb2;(try simp only[bf] at hb2);refine au ?_;show ∃ z,_;refine q_l ?_;first|(rw[D.nth64,D.nth64,hrb.2.1];exact hrb.2.2.1)|(rw[D.getD_none (l:=y) (by omega),Int.mul_zero];exact(Int.add_zero _).symm)
     rintro n hn;(try dsimp only at hn);refine s_q hG ?_ ?_
     ·(try simp only[ba]);rw[hik];exact⟨by decide,by omega⟩
     refine ag hG ?_ ?_
     ·(try simp only[ba]);decide
     (refine aN ?_;refine aj ?_;refine ag hG ?_ ?_;·first|trivial|omega|(simp;done)|(simp;omega));show ∃ z,_;refine q_l ?_;obtain⟨q1,q2⟩:=D.row_next c1 c2 (by omega) hk hb1 hn;rw[hik,Int.toNat_natCast];exact⟨k+1,by rw[wi (by omega) (by omega)];simp,q2,by omega⟩
    ·(intro hb1;simp only[Bool.or_eq_false_iff,decide_eq_false_iff_not] at hb1;refine bj ?_;refine aG ?_;refine ay ?_;refine ax ?_;refine aN ?_;refine aj ?_;refine ag hG ?_ ?_;·first|trivial|omega|(simp;done)|(simp;omega));show ∃ z,_;refine q_l ?_;exact⟨i+1,by rw[wi (by omega) (by omega)];simp,D.row_end (by omega) hk (by omega),by omega⟩
  ·intro hb0;(try simp only[bf] at hb0);refine bj ?_;refine aG ?_;refine ay ?_;refine ax ?_;refine aj ?_;refine s_q hG ?_ ?_
   ·(try simp only[ba]);exact⟨hz.h3,by unfold CAP;omega⟩
   refine az ?_;refine q_e [] ?_;rw[D.times_fin hz (by omega)]
def yG(B:ah):Tab:={types:= [(5,(.int .u8)),(9, .str)],elems:= [],cons:= [],hint:= [],N:=6,base:=B}
theorem FV{B:ah}(hB:aC B):aJ Tryz.prog (yG B):=⟨⟨tc ty5 (tc ty9 (ae)),af,by simp only[yG,ioB];omega⟩,bU rfl,by kernel_rfl⟩
def c7:Con:=fun l os=>match l,os with
 | [.z .str s], []=>some (RF s, [.z .bool (decide (ao s<0))], [])
 |_,_=>none
theorem lL{B:ah}(hB:aC B):Valid B Tryz.prog 157 c7:=by
 refine ab (FV hB).tab Tryz.func157 rfl rfl rfl ?_;intro args os C rs os' hc hC;unfold c7 at hc;split at hc;case h_2=>cases hc
 rename_i s;cases hc;refine v_h (FV hB) fun X hP hT hr hG=> ?_;have hU:=yG.eq_1;unfold yG at hT;have hX:=Bool.not_true;simp only[Tryz.f157,aD,an,ioB];refine s_g hG ?_;refine s_q hG ?_ ?_
 ·try simp only[ba]
  exact⟨by omega,nI hC⟩
 refine az ?_;refine q_e [] ?_;exact DF hC
def yH(B:ah):Tab:={types:= [(3,(.int .i64)),(5,(.int .u8)),(9, .str),(181,(.slice (.int .i64)))],elems:= [(181,3)],cons:= [(183,mN)],hint:= [],N:=40,base:=B}
theorem FW{B:ah}(hB:aC B):aJ Tryz.prog (yH B):=⟨⟨tc ty3 (tc ty5 (tc ty9 (tc jT (ae)))),aT (by kernel_rfl) (af),by simp only[yH,ioB];omega⟩,aF (cc Tryz.func183 (nZ hB) (aw)),by kernel_rfl⟩
def ia:Con:=fun l os=>match l,os with
 | [.z .str s], []=>some (RF s/\s.length<CAP, [.z (.slice (.int .i64)) (D.limbs (ao s).natAbs)], [])
 |_,_=>none
theorem lM{B:ah}(hB:aC B):Valid B Tryz.prog 156 ia:=by
 refine ab (FW hB).tab Tryz.func156 rfl rfl rfl ?_;intro args os C rs os' hc hC;unfold ia at hc;split at hc;case h_2=>cases hc
 rename_i s;cases hc;refine v_h (FW hB) fun X hP hT hr hG=> ?_;have hU:=yH.eq_1;unfold yH at hT;have hX:= @mN.eq_1;simp only[Tryz.f156,aD,an,ioB];refine s_g hG ?_;refine cB (fun(z:Unit)=>(⟨[(0, .l (.z .str (aA s [45])))], []⟩:aa)) (fun z=>True) ?_ ?_
 ·refine s_q hG ?_ ?_
  ·(try simp only[ba]);exact⟨by omega,nI hC.1⟩
  refine ar ?_ ?_
  ·intro hb0;(try simp only[bt] at hb0);refine ag hG ?_ ?_
   ·(try simp only[ba]);have:=nI hC.1;omega
   show ∃ z,_;refine q_l ?_;first|exact(Af hC.1 hb0).1|exact Ag hC.1 hb0
  ·intro hb0;(try simp only[bf] at hb0);refine au ?_;show ∃ z,_;refine q_l ?_;first|exact(Af hC.1 hb0).1|exact Ag hC.1 hb0
 rintro⟨⟩ hu;try dsimp only at hu
 obtain⟨d1,d2,d3⟩:=iu hC.1;have hl:=ga s [45];have hc:List.length s<1000000000000:=hC.2;refine s_g hG ?_;refine al ?_;refine s_g hG ?_;refine av ?_;refine bw (fun(z:Nat×List Int)=>(⟨[(0, .l (.z .str (aA s [45]))),(3, .l (.ownS 37)),(4, .l (.z (.int .i64) (((aA s [45]).length:Int)-4*(z.1:Int))))], [(37, .arr (.int .i64) 3 z.2)]⟩:aa)) (fun z=>D.ReadPhi (aA s [45]) z.1 z.2) (fun z=>(aA s [45]).length+4-4*z.1) (0, []) ?_ ?_ ?_;·refine q_l ?_;exact⟨by show ((aA s [45]).length:Int)=((aA s [45]).length:Int)-4*((0:Nat):Int);omega,by unfold ioB;omega⟩
 ·exact D.read_start
 ·rintro⟨r,out⟩ hz;try dsimp only at hz
  have hz1:=hz.1;have hz4:=hz.2.2.2;refine al ?_;refine s_g hG ?_;refine ar ?_ ?_
  ·(intro hb1;(try simp only[bt] at hb1);refine au ?_;refine aj ?_;refine al ?_;refine av ?_;refine s_g hG ?_;refine al ?_;refine s_g hG ?_;refine av ?_;refine bw (fun(z:Nat)=>(⟨[(0, .l (.z .str (aA s [45]))),(3, .l (.ownS 37)),(4, .l (.z (.int .i64) (((aA s [45]).length:Int)-4*(r:Int)))),(5, .l (.z (.int .i64) (D.part (aA s [45]) ((aA s [45]).length-4*(r+1)) z))),(6, .l (.z (.int .i64) (z:Int)))], [(37, .arr (.int .i64) 3 out)]⟩:aa)) (fun z=>(aA s [45]).length-4*(r+1)<=z/\z<=(aA s [45]).length-4*r) (fun z=>(aA s [45]).length-z) ((aA s [45]).length-4*(r+1)) ?_ ?_ ?_;·refine q_l ?_;exact D.read_le0 (by omega) (by omega));·omega
   ·rintro i hi;(try dsimp only at hi);refine al ?_;refine s_g hG ?_;refine ar ?_ ?_
    ·intro hb2;(try simp only[bt] at hb2);refine au ?_;refine aj ?_;refine al ?_;refine av ?_;refine ag hG ?_ ?_
     ·(try simp only[ba]);exact⟨by omega,by omega⟩
     (refine aN ?_;refine aj ?_;refine ag hG ?_ ?_;·first|trivial|omega|(simp;done)|(simp;omega));show ∃ z,_;refine q_l ?_;rw[Int.toNat_natCast];exact⟨i+1,D.part_next d1 (by omega) (by omega) (by omega),by rw[wi (by omega) (by omega)];simp,by omega,by omega,by omega⟩
    ·intro hb2;(try simp only[bf] at hb2);refine bj ?_;refine aG ?_;refine ay ?_;refine ax ?_;refine aj ?_;refine ag hG ?_ ?_
     ·(try simp only[ba]);unfold Cm.Roomy;omega
     (refine aN ?_;refine aj ?_;refine ag hG ?_ ?_;·first|trivial|omega|(simp;done)|(simp;omega));show ∃ z,_;refine q_l ?_;(have hie:i=(aA s [45]).length-4*r:=by omega);subst hie;exact⟨r+1,by rw[wi (by omega) (by omega)];show ((aA s [45]).length:Int)-4*(r:Int)-4=((aA s [45]).length:Int)-4*((r+1:Nat):Int);omega,D.read_next d1 hz (by omega),by omega⟩
  ·intro hb1;(try simp only[bf] at hb1);refine bj ?_;refine aG ?_;refine ay ?_;refine ax ?_;refine aj ?_;refine s_q hG ?_ ?_
   ·(try simp only[ba]);exact⟨hz.2.1,by unfold CAP;omega⟩
   refine az ?_;refine q_e [] ?_;exact D.valL_limbs hz (by omega)
def yI(B:ah):Tab:={types:= [(3,(.int .i64)),(5,(.int .u8)),(9, .str),(47,(.slice (.int .u8))),(181,(.slice (.int .i64)))],elems:= [(47,5)],cons:= [],hint:= [],N:=49,base:=B}
theorem FX{B:ah}(hB:aC B):aJ Tryz.prog (yI B):=⟨⟨tc ty3 (tc ty5 (tc ty9 (tc Qp (tc jT (ae))))),aT (by kernel_rfl) (af),by simp only[yI,ioB];omega⟩,bU rfl,by kernel_rfl⟩
def fm:Con:=fun l os=>match l,os with
 | [.z .bool neg, .z (.slice (.int .i64)) d], []=>some (D.Cano d/\4*d.length<CAP, [.z .str (Lib.itoa (if neg=true then-D.valL d else D.valL d))], [])
 |_,_=>none
theorem lN{B:ah}(hB:aC B):Valid B Tryz.prog 158 fm:=by
 refine ab (FX hB).tab Tryz.func158 rfl rfl rfl ?_;intro args os C rs os' hc hC;unfold fm at hc;split at hc;case h_2=>cases hc
 rename_i neg d;cases hc;refine v_h (FX hB) fun X hP hT hr hG=> ?_;have hU:=yI.eq_1;unfold yI at hT;have hX:=Bool.not_true;simp only[Tryz.f158,aD,an,ioB];refine s_g hG ?_;refine al ?_;refine s_g hG ?_;refine ar ?_ ?_
 ·intro hb0;try simp only[bt] at hb0
  refine s_g hG ?_;refine az ?_;refine aB ?_;refine q_e [] ?_;exact D.write_nil hb0
 ·intro hb0;simp only[beq_eq_false_iff_ne,ne_eq] at hb0;have hne:d≠ []:=by intro e;subst e;exact hb0 rfl
  obtain⟨c1,c2⟩:=hC;have c2:4*List.length d<1000000000000:=c2;have hbg:4000000000001<=maxLen:=by decide
  refine au ?_;refine aj ?_;refine s_g hG ?_;refine al ?_;refine s_g hG ?_;refine av ?_;refine bw (fun(z:Nat×List Int)=>(⟨[(0, .l (.z .bool neg)),(1, .l (.z (.slice (.int .i64)) d)),(5, .l (.ownS 42)),(6, .l (.z (.int .i64) ((z.1:Int)-1)))], [(42, .arr (.int .u8) 5 z.2)]⟩:aa)) (fun z=>z.1<=List.length d/\z.2=(D.dd (D.valL (List.drop z.1 d)).toNat).map fun b=>(b.toNat:Int)) (fun z=>z.1) (List.length d, []) ?_ ?_ ?_;·refine q_l ?_;exact⟨wi (by omega) (by omega),by unfold ioB;omega⟩
  ·exact D.write_phi0 d
  ·rintro⟨k,out⟩ hz;(try dsimp only at hz);have hz1:=hz.1;refine al ?_;refine s_g hG ?_;refine ar ?_ ?_
   ·(intro hb1;(try simp only[decide_eq_true_eq] at hb1);obtain⟨i,rfl⟩:∃ i,k=i+1:=⟨k-1,by omega⟩;(have ei:((i+1:Nat):Int)-1=(i:Int):=by omega);rw[ei];refine au ?_;refine aj ?_;refine al ?_;refine av ?_;refine s_g hG ?_;refine av ?_;refine bw (fun(z:Nat×List Int)=>(⟨[(0, .l (.z .bool neg)),(1, .l (.z (.slice (.int .i64)) d)),(5, .l (.ownS 42)),(6, .l (.z (.int .i64) (i:Int))),(7, .l (.z (.int .i64) (D.unit z.1)))], [(42, .arr (.int .u8) 5 z.2)]⟩:aa)) (fun z=>D.WritePhi d i z.1 z.2) (fun z=>4-z.1) (0,out) ?_ ?_ ?_;·refine q_l ?_;decide);·exact D.write_start c1.1 hz.2
    ·rintro⟨j,out2⟩ hj;(try dsimp only at hj);refine al ?_;refine s_g hG ?_;refine ar ?_ ?_
     ·intro hb2;(try simp only[decide_eq_true_eq] at hb2);have hj4:=D.unit_pos hb2;refine au ?_;refine aj ?_;refine al ?_;refine av ?_;refine cB (fun(z:Unit)=>(⟨[(0, .l (.z .bool neg)),(1, .l (.z (.slice (.int .i64)) d)),(5, .l (.ownS 42)),(6, .l (.z (.int .i64) (i:Int))),(7, .l (.z (.int .i64) (D.unit j))),(8, .l (.z (.int .u8) ((48+D.decimal (d.getD i 0) j:Nat):Int)))], [(42, .arr (.int .u8) 5 out2)]⟩:aa)) (fun z=>True) ?_ ?_
      ·refine ag hG ?_ ?_
       ·(try simp only[ba]);exact⟨⟨by omega,by omega⟩,fun h=>by rw[h] at hb2;exact absurd hb2 (by decide),by decide⟩
       show ∃ z,_;refine q_l ?_;exact D.decimal_code (c1.1.getD i) hj4
      rintro⟨⟩ hu;(try dsimp only at hu);refine s_q hG ?_ ?_
      ·(try simp only[ba]);simp[get?,del]
      refine ar ?_ ?_
      ·intro hb3;have hwl:=D.write_len c1.1 hj (by omega);refine ag hG ?_ ?_
       ·(try simp only[ba]);unfold Cm.Roomy;omega
       (refine aN ?_;refine aj ?_;refine ag hG ?_ ?_;·first|trivial|omega|(simp;done)|(simp;omega));show ∃ z,_;refine q_l ?_;exact⟨j+1,(D.unit_next hj4).1,by first|exact D.write_take c1.1 hj hj4 (D.cond_t hb3)|exact D.write_leave c1.1 hj hj4 (D.cond_f hb3),by omega⟩
      ·(intro hb3;refine au ?_;refine aN ?_;refine aj ?_;refine ag hG ?_ ?_;·first|trivial|omega|(simp;done)|(simp;omega));show ∃ z,_;refine q_l ?_;exact⟨j+1,(D.unit_next hj4).1,by first|exact D.write_take c1.1 hj hj4 (D.cond_t hb3)|exact D.write_leave c1.1 hj hj4 (D.cond_f hb3),by omega⟩
     ·(intro hb2;(try simp only[bf] at hb2);refine bj ?_;refine aG ?_;refine ay ?_;refine ax ?_;refine aN ?_;refine aj ?_;refine ag hG ?_ ?_;·first|trivial|omega|(simp;done)|(simp;omega));show ∃ z,_;refine q_l ?_;(obtain rfl:j=4:=by have:=D.unit_end hb2;have:=hj.hj;omega);exact⟨i,wi (by omega) (by omega),by omega,D.write_round c1.1 (by omega) hj,by omega⟩
   ·intro hb1;simp only[decide_eq_false_iff_not] at hb1;(obtain rfl:k=0:=by omega);have hz2:=hz.2;rw[List.drop_zero] at hz2;have hdl:=D.dd_len c1.1;subst hz2;refine bj ?_;refine aG ?_;refine ay ?_;refine ax ?_;refine aj ?_;refine al ?_;refine s_g hG ?_;refine ar ?_ ?_
    ·intro hb4;refine s_q hG ?_ ?_
     ·(try simp only[ba]);rw[D.str_of_map];omega
     refine az ?_;refine aB ?_;refine q_e [] ?_;rw[D.str_of_map,if_pos hb4];exact D.write_minus c1 hne
    ·intro hb4;refine au ?_;refine aj ?_;refine s_g hG ?_;refine az ?_;refine q_e [] ?_;rw[D.str_of_map,if_neg (by rw[hb4];decide)];exact D.write_text c1 hne
end Go.Proofs.YtdojbabpnaifoaaGreatDoor
end
section
namespace Go.Proofs
open Go.RowKit Go.Cm
def FY:Con:=fun l os=>match l,os with
 | [.z .str s], []=>some (chk s=0/\s.length<=9, [.z (.int .i64) (ao s), .val .nilIface], [])
 |_,_=>none
theorem u7:∀ (l:List UInt8) (a:Nat),dH l->Lib.decFrom a l=some (l.foldl (fun n c=>n*10+(c.toNat-48)) a)
 | [],_,_=>rfl
 |c::l,a,hd=>by
  have h1:=hd c (by simp);rw[Lib.decFrom,Lib.digitVal,if_pos h1,List.foldl_cons];exact u7 l _ (fun x hx=>hd x (by simp[hx]))
theorem Mm{s:List UInt8}(h:chk s=0):Lib.atoi s=some (ao s):=by
 obtain⟨d1,d2,d3,d4⟩:=Dq h;cases s with
 |nil=>exact absurd h (by decide)
 |cons b r=>
  unfold Lib.atoi;dsimp only;by_cases hb:b=45;·subst hb;obtain⟨p1,p2⟩:=pU r;rw[p2] at d1 d2;(have hne:r.isEmpty=false:=by cases r<;>simp at d2 ⊢);simp only[beq_self_eq_true,if_true,Lib.decNat,hne,Bool.false_eq_true,if_false,u7 r 0 d1,Option.map_some];unfold ao;rw[p1,p2];rfl
  ·have ht:aA (b::r) [45]=b::r:=by
    unfold aA dh;rw[if_neg];intro e;simp at e;exact hb e
   rw[ht] at d1;obtain⟨p1,p2⟩:=tX d1;have h43:b≠43:=by
    intro e;subst e;have:=d1 43 (by simp);exact absurd this (by decide)
   rw[if_neg (by simpa using hb),if_neg (by simpa using h43),Lib.decNat,if_neg (by simp),u7 _ 0 d1,Option.map_some];unfold ao;rw[p1,p2];rfl
theorem Mn{B:ah}(hB:aC B):Valid B Tryz.prog 182 FY:=by
 intro args os C rs os' hc hC O w vals ρ0 hOn hIo hO hOI hargs hown hap;unfold FY at hc;split at hc;case h_2=>cases hc
 rename_i s;cases hc;obtain⟨u,rfl,hu⟩:=qn hargs;rw[fR hu];obtain⟨h0,h1⟩:=hC;have hsz:(⟨s.toArray⟩:ByteArray).size=s.length:=by simp[ByteArray.size]
 refine(Tryz.strconv_Atoi ⟨s.toArray⟩ (ao s) (by rw[hsz];omega) (by simpa using Mm h0) w).mono fun e w' ⟨he,t,hw⟩=> ?_;have hb:Below w.heap.size w w':=by
  rw[hw];exact⟨rfl,rfl,rfl,by rw[Lib.bytesWorld_size];omega,fun k hk=>Lib.bytesWorld_at_old w _ _ k hk⟩
 subst he;exact nA (vs:= [.int .i64 (ao s), .nilIface]) hb (fun H M=>⟨bZ (ρ:=fun _=>undef),rfl,trivial⟩)
end Go.Proofs
end
section
namespace Go.Proofs.YtdojbabpnaifoaaGreatDoor
open Go Go.Cm Go.Proofs
def FZ(B:ah):Tab:={types:= [(3,(.int .i64)),(87,(.slice (.int .u32))),(161,(.int .u32))],elems:= [(87,161)],cons:= [],hint:= [],N:=56,base:=B}
theorem Mo{B:ah}(hB:aC B):aJ Tryz.prog (FZ B):=⟨⟨tc ty3 (tc iP (tc gg (ae))),aT (by kernel_rfl) (af),by simp only[FZ,ioB];omega⟩,bU rfl,by kernel_rfl⟩
def F0:Con:=fun l os=>match l,os with
 | [.z (.slice (.int .u32)) m, .z (.slice (.int .u32)) o], []=>some (Cano m/\Cano o/\m.length+o.length<CAP, [.z (.slice (.int .u32)) (limbs (valL m+valL o).toNat)], [])
 |_,_=>none
theorem OI{B:ah}(hB:aC B):Valid B Tryz.prog 151 F0:=by
 refine ab (Mo hB).tab Tryz.func151 rfl rfl rfl ?_;intro args os C rs os' hc hC;unfold F0 at hc;split at hc;case h_2=>cases hc
 rename_i m o;cases hc;refine v_h (Mo hB) fun X hP hT hr hG=> ?_;have hU:=FZ.eq_1;unfold FZ at hT;have hX:=Bool.not_true;simp only[Tryz.f151,aD,an,ioB];refine s_g hG ?_;refine cB (fun(z:List Int×List Int)=>(⟨[(0, .l (.z (.slice (.int .u32)) z.1)),(1, .l (.z (.slice (.int .u32)) z.2))], []⟩:aa)) (fun z=>Cano z.1/\Cano z.2/\z.2.length<=z.1.length/\z.1.length<CAP/\valL z.1+valL z.2=valL m+valL o) ?_ ?_
 ·refine s_g hG ?_;refine ar ?_ ?_
  ·(intro hb0;(try simp only[bt] at hb0);refine ag hG ?_ ?_;·first|trivial|omega|(simp;done)|(simp;omega));show ∃ z,_;refine q_l ?_;obtain⟨c1,c2,c3⟩:=hC;first|exact⟨c2,c1,by omega,by omega,Int.add_comm _ _⟩|exact⟨c1,c2,by omega,by omega⟩
  ·intro hb0;(try simp only[bf] at hb0);refine au ?_;show ∃ z,_;refine q_l ?_;obtain⟨c1,c2,c3⟩:=hC;first|exact⟨c2,c1,by omega,by omega,Int.add_comm _ _⟩|exact⟨c1,c2,by omega,by omega⟩
 rintro⟨m,o⟩ ⟨h1,h2,h3,h4,h5⟩;try dsimp only at h1 h2 h3 h4 h5
 have h4:m.length<1000000000000:=h4;refine s_q hG ?_ ?_
 ·try simp only[ba]
  rw[wi (by omega) (by omega)];exact⟨by omega,by omega,by unfold Cm.Roomy;omega⟩
 refine s_g hG ?_;refine al ?_;refine s_g hG ?_;refine av ?_;refine bw (fun(z:Nat×Int×List Int)=>(⟨[(0, .l (.z (.slice (.int .u32)) m)),(1, .l (.z (.slice (.int .u32)) o)),(5, .l (.ownS 20)),(6, .l (.z (.int .u32) z.2.1)),(21, .l (.z (.slice (.int .u32)) m)),(22, .l (.z (.int .i64) (m.length:Int))),(23, .l (.z (.int .i64) (z.1:Int)))], [(20, .arr (.int .u32) 161 z.2.2)]⟩:aa)) (fun z=>z.1<=m.length/\z.2.2.length=z.1/\Lim z.2.2/\0<=z.2.1/\z.2.1<=1/\valL z.2.2+LB^z.1*z.2.1=valL (m.take z.1)+valL (o.take z.1)) (fun z=>m.length-z.1) (0,0, []) ?_ ?_ ?_;·refine q_l ?_;exact⟨rfl,rfl⟩
 ·simp[Lim,valL]
 ·rintro⟨k,c,out⟩ ⟨g1,g2,g3,g4,g5,g6⟩;try dsimp only at g1 g2 g3 g4 g5 g6
  refine s_g hG ?_;refine al ?_;refine ar ?_ ?_
  ·intro hb1;(try simp only[bt] at hb1);refine au ?_;refine aj ?_;refine al ?_;refine av ?_;refine s_q hG ?_ ?_
   ·(try simp only[ba]);exact⟨by omega,hb1⟩
   refine s_g hG ?_;refine cB (fun(z:Int)=>(⟨[(0, .l (.z (.slice (.int .u32)) m)),(1, .l (.z (.slice (.int .u32)) o)),(5, .l (.ownS 20)),(9, .l (.z (.int .u32) z)),(21, .l (.z (.slice (.int .u32)) m)),(22, .l (.z (.int .i64) (m.length:Int))),(23, .l (.z (.int .i64) (k:Int)))], [(20, .arr (.int .u32) 161 out)]⟩:aa)) (fun z=>z=m.getD k 0+c+o.getD k 0) ?_ ?_
   ·refine s_g hG ?_;refine ar ?_ ?_
    ·intro hb2;(try simp only[bt] at hb2);refine ag hG ?_ ?_
     ·(try simp only[ba]);exact⟨by omega,hb2⟩
     show ∃ z,_;refine q_l ?_;have hw:=vP (h1.1.getD k) (h2.1.getD k) ⟨g4,g5⟩;first|exact hw.2|(rw[fX,hw.1,List.getD_eq_getElem?_getD (l:=o),List.getElem?_eq_none (by omega)];simp)
    ·intro hb2;(try simp only[bf] at hb2);refine au ?_;show ∃ z,_;refine q_l ?_;have hw:=vP (h1.1.getD k) (h2.1.getD k) ⟨g4,g5⟩;first|exact hw.2|(rw[fX,hw.1,List.getD_eq_getElem?_getD (l:=o),List.getElem?_eq_none (by omega)];simp)
   rintro n hn;(try dsimp only at hn);refine s_g hG ?_;refine ag hG ?_ ?_
   ·(try simp only[ba]);exact⟨by omega,by unfold Cm.Roomy;omega⟩
   (refine aN ?_;refine aj ?_;refine ag hG ?_ ?_;·first|trivial|omega|(simp;done)|(simp;omega));show ∃ z,_;refine q_l ?_;obtain⟨q1,q2,q3,q4⟩:=Dp h1.1 h2.1 g2 g3 g4 g5 g6 hn;exact⟨k+1,by rw[wi (by omega) (by omega)];simp,by omega,by simp[g2],q1,q2,q3,q4,by omega⟩
  ·intro hb1;(try simp only[bf] at hb1);refine bj ?_;refine aG ?_;refine ay ?_;refine ax ?_;refine aj ?_;refine cB (fun(z:List Int)=>(⟨[(5, .l (.ownS 20))], [(20, .arr (.int .u32) 161 z)]⟩:aa)) (fun z=>z=limbs (valL m+valL o).toNat) ?_ ?_
   ·refine s_g hG ?_;refine ar ?_ ?_
    ·intro hb3;(try simp only[bt] at hb3);refine ag hG ?_ ?_
     ·(try simp only[ba]);unfold Cm.Roomy;omega
     show ∃ z,_;refine q_l ?_;have he:=zM (out:=out) (c:=c) h1 h2 h3 (by omega) g3 g4 g5 (by rw[show k=m.length by omega,List.take_length,List.take_of_length_le h3] at g6;exact g6);first|exact he.1 hb3|exact he.2 hb3
    ·intro hb3;(try simp only[bf] at hb3);refine au ?_;show ∃ z,_;refine q_l ?_;have he:=zM (out:=out) (c:=c) h1 h2 h3 (by omega) g3 g4 g5 (by rw[show k=m.length by omega,List.take_length,List.take_of_length_le h3] at g6;exact g6);first|exact he.1 hb3|exact he.2 hb3
   rintro out2 hout;(try dsimp only at hout);refine s_g hG ?_;refine az ?_;refine q_e [] ?_;rw[hout,h5]
def F1(B:ah):Tab:={types:= [(3,(.int .i64))],elems:= [],cons:= [],hint:= [],N:=6,base:=B}
theorem Mp{B:ah}(hB:aC B):aJ Tryz.prog (F1 B):=⟨⟨tc ty3 (ae),af,by simp only[F1,ioB];omega⟩,bU rfl,by kernel_rfl⟩
def F2:Con:=fun l os=>match l,os with
 | [.z (.int .i64) a], []=>some (True, [.z .bool false], [])
 |_,_=>none
theorem OJ{B:ah}(hB:aC B):Valid B Tryz.prog 194 F2:=by
 refine ab (Mp hB).tab Tryz.func194 rfl rfl rfl ?_;intro args os C rs os' hc hC;unfold F2 at hc;split at hc;case h_2=>cases hc
 rename_i a;cases hc;refine v_h (Mp hB) fun X hP hT hr hG=> ?_;have hU:=F1.eq_1;unfold F1 at hT;have hX:=Bool.not_true;simp only[Tryz.f194,aD,an,ioB];refine s_g hG ?_;refine s_g hG ?_;refine az ?_;refine q_e [] ?_;trivial
def F3(B:ah):Tab:={types:= [(161,(.int .u32))],elems:= [],cons:= [],hint:= [],N:=6,base:=B}
theorem Mq{B:ah}(hB:aC B):aJ Tryz.prog (F3 B):=⟨⟨tc gg (ae),af,by simp only[F3,ioB];omega⟩,bU rfl,by kernel_rfl⟩
def F4:Con:=fun l os=>match l,os with
 | [.z (.int .u32) a], []=>some (True, [.z .bool false], [])
 |_,_=>none
theorem OK{B:ah}(hB:aC B):Valid B Tryz.prog 195 F4:=by
 refine ab (Mq hB).tab Tryz.func195 rfl rfl rfl ?_;intro args os C rs os' hc hC;unfold F4 at hc;split at hc;case h_2=>cases hc
 rename_i a;cases hc;refine v_h (Mq hB) fun X hP hT hr hG=> ?_;have hU:=F3.eq_1;unfold F3 at hT;have hX:=Bool.not_true;simp only[Tryz.f195,aD,an,ioB];refine s_g hG ?_;refine s_g hG ?_;refine az ?_;refine q_e [] ?_;trivial
def F5(B:ah):Tab:={types:= [(3,(.int .i64))],elems:= [],cons:= [(194,F2)],hint:= [],N:=20,base:=B}
theorem Mr{B:ah}(hB:aC B):aJ Tryz.prog (F5 B):=⟨⟨tc ty3 (ae),af,by simp only[F5,ioB];omega⟩,aF (cc Tryz.func194 (OJ hB) (aw)),by kernel_rfl⟩
def wZ:Con:=fun l os=>match l,os with
 | [.z (.int .i64) a, .z (.int .i64) b], []=>some (True, [.z (.int .i64) (bD a b)], [])
 |_,_=>none
theorem F6{B:ah}(hB:aC B):Valid B Tryz.prog 180 wZ:=by
 refine ab (Mr hB).tab Tryz.func180 rfl rfl rfl ?_;intro args os C rs os' hc hC;unfold wZ at hc;split at hc;case h_2=>cases hc
 rename_i a b;cases hc;refine v_h (Mr hB) fun X hP hT hr hG=> ?_;have hU:=F5.eq_1;unfold F5 at hT;have hX:= @F2.eq_1;simp only[Tryz.f180,aD,an,ioB];refine s_g hG ?_;refine s_g hG ?_;refine s_g hG ?_;refine al ?_;refine s_g hG ?_;refine ar ?_ ?_;·intro hb0;cases hb0
 ·intro hb0;try simp only[bf] at hb0
  refine au ?_;refine aj ?_;refine al ?_;refine s_g hG ?_;refine ar ?_ ?_;·intro hb1;cases hb1
  ·intro hb1;(try simp only[bf] at hb1);refine au ?_;refine aj ?_;refine al ?_;refine s_g hG ?_;refine ar ?_ ?_;·intro hb2;(try simp only[bt] at hb2);refine s_g hG ?_;refine az ?_;refine aB ?_;refine q_e [] ?_;rw[bD,if_pos hb2]
   ·(intro hb2;(try simp only[bf] at hb2);refine au ?_;refine aj ?_;refine al ?_;refine s_g hG ?_;refine ar ?_ ?_;·intro hb3;(try simp only[bt] at hb3);refine s_g hG ?_;refine az ?_;refine aB ?_;refine q_e [] ?_;rw[bD,if_neg (by omega),if_pos hb3]);·intro hb3;(try simp only[bf] at hb3);refine au ?_;refine aj ?_;refine s_g hG ?_;refine az ?_;refine q_e [] ?_;rw[bD,if_neg hb2,if_neg hb3]
def F7(B:ah):Tab:={types:= [(161,(.int .u32))],elems:= [],cons:= [(195,F4)],hint:= [],N:=20,base:=B}
theorem Ms{B:ah}(hB:aC B):aJ Tryz.prog (F7 B):=⟨⟨tc gg (ae),af,by simp only[F7,ioB];omega⟩,aF (cc Tryz.func195 (OK hB) (aw)),by kernel_rfl⟩
def F8:Con:=fun l os=>match l,os with
 | [.z (.int .u32) a, .z (.int .u32) b], []=>some (True, [.z (.int .i64) (bD a b)], [])
 |_,_=>none
theorem OL{B:ah}(hB:aC B):Valid B Tryz.prog 181 F8:=by
 refine ab (Ms hB).tab Tryz.func181 rfl rfl rfl ?_;intro args os C rs os' hc hC;unfold F8 at hc;split at hc;case h_2=>cases hc
 rename_i a b;cases hc;refine v_h (Ms hB) fun X hP hT hr hG=> ?_;have hU:=F7.eq_1;unfold F7 at hT;have hX:= @F4.eq_1;simp only[Tryz.f181,aD,an,ioB];refine s_g hG ?_;refine s_g hG ?_;refine s_g hG ?_;refine al ?_;refine s_g hG ?_;refine ar ?_ ?_;·intro hb0;cases hb0
 ·intro hb0;try simp only[bf] at hb0
  refine au ?_;refine aj ?_;refine al ?_;refine s_g hG ?_;refine ar ?_ ?_;·intro hb1;cases hb1
  ·intro hb1;(try simp only[bf] at hb1);refine au ?_;refine aj ?_;refine al ?_;refine s_g hG ?_;refine ar ?_ ?_;·intro hb2;(try simp only[bt] at hb2);refine s_g hG ?_;refine az ?_;refine aB ?_;refine q_e [] ?_;rw[bD,if_pos hb2]
   ·(intro hb2;(try simp only[bf] at hb2);refine au ?_;refine aj ?_;refine al ?_;refine s_g hG ?_;refine ar ?_ ?_;·intro hb3;(try simp only[bt] at hb3);refine s_g hG ?_;refine az ?_;refine aB ?_;refine q_e [] ?_;rw[bD,if_neg (by omega),if_pos hb3]);·intro hb3;(try simp only[bf] at hb3);refine au ?_;refine aj ?_;refine s_g hG ?_;refine az ?_;refine q_e [] ?_;rw[bD,if_neg hb2,if_neg hb3]
def F9(B:ah):Tab:={types:= [(3,(.int .i64)),(87,(.slice (.int .u32))),(89,(.st (.pair .bool (.slice (.int .u32))))),(161,(.int .u32))],elems:= [],cons:= [],hint:= [],N:=30,base:=B}
theorem Mt{B:ah}(hB:aC B):aJ Tryz.prog (F9 B):=⟨⟨tc ty3 (tc iP (tc gH (tc gg (ae)))),af,by simp only[F9,ioB];omega⟩,bU rfl,by kernel_rfl⟩
def ez:Con:=fun l os=>match l,os with
 | [.z .bool s, .z (.slice (.int .u32)) m], []=>some (Lim m/\m.length<CAP, [.z (.st (.pair .bool (.slice (.int .u32)))) (enc (dec (s,m)))], [])
 |_,_=>none
theorem kB{B:ah}(hB:aC B):Valid B Tryz.prog 150 ez:=by
 refine ab (Mt hB).tab Tryz.func150 rfl rfl rfl ?_;intro args os C rs os' hc hC;unfold ez at hc;split at hc;case h_2=>cases hc
 rename_i s m;cases hc;refine v_h (Mt hB) fun X hP hT hr hG=> ?_;have hU:=F9.eq_1;unfold F9 at hT;have hX:=Bool.not_true;simp only[Tryz.f150,aD,an,ioB];refine s_g hG ?_;refine al ?_;refine av ?_;refine bw (fun(z:List Int)=>(⟨[(0, .l (.z .bool s)),(1, .l (.z (.slice (.int .u32)) z)),(4, .l (.ownP 4 0))], [(4, .box 89 [.z .bool false, .val (.slice none 0 0)])]⟩:aa)) (fun z=>Lim z/\valL z=valL m/\z.length<=m.length) (fun z=>z.length) m ?_ ?_ ?_;·simp only[ml0,ml1,Nat.reduceLT,Nat.reduceEqDiff,Nat.reduceAdd,Nat.reduceMul,Nat.reduceSub,Nat.reduceLeDiff,Nat.reduceBEq,Nat.reduceBNe,reduceIte,reduceDIte,reduceCtorEq]
 ·exact⟨hC.1,rfl,Nat.le_refl _⟩
 ·rintro z ⟨g1,g2,g3⟩;try dsimp only at g1 g2 g3
  have h4:z.length<1000000000000:=Nat.lt_of_le_of_lt g3 hC.2;refine al ?_;refine s_q hG ?_ ?_
  ·(try simp only[ba]);exact⟨id,id,fun h=>⟨h,by simp only[decide_eq_true_eq] at h;rw[wi (by omega) (by omega)];omega⟩,id⟩
  refine ar ?_ ?_
  ·intro hb0;(try simp only[bt] at hb0);refine au ?_;refine aj ?_;refine av ?_;refine ag hG ?_ ?_
   ·(try simp only[ba]);rw[wi (by omega) (by omega)];omega
   refine aN ?_;show ∃ z,_;refine q_l ?_;exact whole_round g1 g2 g3 hb0.1 h4 hb0.2
  ·intro hb0;(try simp only[bf] at hb0);refine bj ?_;refine aG ?_;refine ay ?_;refine ax ?_;refine aj ?_;refine s_q hG ?_ ?_
   ·(try simp only[ba]);exact id
   refine az ?_;refine q_e [] ?_;refine Hn g1 g2 fun hz h0=> ?_;have:=hb0 (by simp;omega);rw[wi (by omega) (by omega),last_eq hz] at this;exact this h0
def Ga(B:ah):Tab:={types:= [(4, .bool),(87,(.slice (.int .u32))),(89,(.st (.pair .bool (.slice (.int .u32)))))],elems:= [],cons:= [(150,ez)],hint:= [],N:=9,base:=B}
theorem Mu{B:ah}(hB:aC B):aJ Tryz.prog (Ga B):=⟨⟨tc ty4 (tc iP (tc gH (ae))),af,by simp only[Ga,ioB];omega⟩,aF (cc Tryz.func150 (kB hB) (aw)),by kernel_rfl⟩
def Bh:Con:=fun l os=>match l,os with
 | [.z (.st (.pair .bool (.slice (.int .u32)))) x], []=>some (Lim x.2/\x.2.length<CAP, [.z (.st (.pair .bool (.slice (.int .u32)))) (enc (-dec x))], [])
 |_,_=>none
theorem yJ{B:ah}(hB:aC B):Valid B Tryz.prog 148 Bh:=by
 refine ab (Mu hB).tab Tryz.func148 rfl rfl rfl ?_;intro args os C rs os' hc hC;unfold Bh at hc;split at hc;case h_2=>cases hc
 rename_i x;cases hc;refine v_h (Mu hB) fun X hP hT hr hG=> ?_;have hU:=Ga.eq_1;unfold Ga at hT;have hX:= @ez.eq_1;simp only[Tryz.f148,aD,an,ioB];refine s_g hG ?_;refine s_q hG ?_ ?_
 ·try simp only[ba]
  exact hC
 refine az ?_;refine q_e [] ?_;rw[E0]
def Gb(B:ah):Tab:={types:= [(3,(.int .i64)),(4, .bool),(87,(.slice (.int .u32))),(89,(.st (.pair .bool (.slice (.int .u32)))))],elems:= [],cons:= [],hint:= [],N:=11,base:=B}
theorem Mv{B:ah}(hB:aC B):aJ Tryz.prog (Gb B):=⟨⟨tc ty3 (tc ty4 (tc iP (tc gH (ae)))),af,by simp only[Gb,ioB];omega⟩,bU rfl,by kernel_rfl⟩
def qc:Con:=fun l os=>match l,os with
 | [.z (.st (.pair .bool (.slice (.int .u32)))) x], []=>some (WOK x, [.z (.int .i64) (bD (dec x) 0)], [])
 |_,_=>none
theorem yK{B:ah}(hB:aC B):Valid B Tryz.prog 154 qc:=by
 refine ab (Mv hB).tab Tryz.func154 rfl rfl rfl ?_;intro args os C rs os' hc hC;unfold qc at hc;split at hc;case h_2=>cases hc
 rename_i x;cases hc;refine v_h (Mv hB) fun X hP hT hr hG=> ?_;have hU:=Gb.eq_1;unfold Gb at hT;have hX:=Bool.not_true;simp only[Tryz.f154,aD,an,ioB];refine s_g hG ?_;refine al ?_;refine av ?_;refine s_g hG ?_;refine ar ?_ ?_
 ·intro hb0;try simp only[bt] at hb0
  refine s_g hG ?_;refine az ?_;refine bK ?_;refine aB ?_;refine q_e [] ?_;rw[bD,if_neg (by have:=(fY hC).1.1 hb0;omega),if_neg (by have:=(fY hC).1.1 hb0;omega)]
 ·intro hb0;try simp only[bf] at hb0
  refine s_g hG ?_;refine ar ?_ ?_;·intro hb1;(try simp only[bt] at hb1);refine s_g hG ?_;refine az ?_;refine bK ?_;refine aB ?_;refine q_e [] ?_;rw[bD,if_pos (((fY hC).2 hb0).1 hb1)]
  ·intro hb1;(try simp only[bf] at hb1);refine au ?_;refine aN ?_;refine aj ?_;refine s_g hG ?_;refine az ?_;refine q_e [] ?_;have:=((fY hC).2 hb0).2 hb1;rw[bD,if_neg (by omega),if_pos this]
def Gc(B:ah):Tab:={types:= [(3,(.int .i64)),(87,(.slice (.int .u32))),(161,(.int .u32))],elems:= [],cons:= [(180,wZ),(181,F8)],hint:= [],N:=35,base:=B}
theorem Mw{B:ah}(hB:aC B):aJ Tryz.prog (Gc B):=⟨⟨tc ty3 (tc iP (tc gg (ae))),af,by simp only[Gc,ioB];omega⟩,aF (cc Tryz.func180 (F6 hB) (cc Tryz.func181 (OL hB) (aw))),by kernel_rfl⟩
def fe:Con:=fun l os=>match l,os with
 | [.z (.slice (.int .u32)) m, .z (.slice (.int .u32)) o], []=>some (Cano m/\Cano o/\m.length+o.length<CAP, [.z (.int .i64) (bD (valL m) (valL o))], [])
 |_,_=>none
theorem yL{B:ah}(hB:aC B):Valid B Tryz.prog 152 fe:=by
 refine ab (Mw hB).tab Tryz.func152 rfl rfl rfl ?_;intro args os C rs os' hc hC;unfold fe at hc;split at hc;case h_2=>cases hc
 rename_i m o;cases hc;refine v_h (Mw hB) fun X hP hT hr hG=> ?_;have hU:=Gc.eq_1;unfold Gc at hT;have hX:=ai @wZ.eq_1<| @F8.eq_1;simp only[Tryz.f152,aD,an,ioB];refine s_g hG ?_;refine al ?_;refine s_g hG ?_;refine s_g hG ?_;refine ar ?_ ?_
 ·intro hb0;try simp only[bt] at hb0
  refine s_g hG ?_;refine az ?_;refine aB ?_;refine q_e [] ?_;exact cmp_lens hC.1 hC.2.1 hb0
 ·intro hb0;try simp only[decide_eq_true_eq,decide_eq_false_iff_not,bne_eq_false_iff_eq] at hb0
  obtain⟨c1,c2,c3⟩:=hC;have c3:List.length m+List.length o<1000000000000:=c3;have hl:List.length m=List.length o:=by have:=nB.1 hb0;omega
  refine au ?_;refine aj ?_;refine al ?_;refine s_g hG ?_;refine av ?_;refine bw (fun(z:Nat)=>(⟨[(0, .l (.z (.slice (.int .u32)) m)),(1, .l (.z (.slice (.int .u32)) o)),(6, .l (.z (.int .i64) ((z:Int)-1)))], []⟩:aa)) (fun z=>z<=List.length m/\List.drop z m=List.drop z o) (fun z=>z) (List.length m) ?_ ?_ ?_;·refine q_l ?_;exact wi (by omega) (by omega)
  ·exact⟨Nat.le_refl _,by rw[List.drop_length,List.drop_of_length_le (by omega)]⟩
  ·rintro k ⟨g1,g2⟩;(try dsimp only at g1 g2);refine al ?_;refine s_g hG ?_;refine ar ?_ ?_
   ·intro hb1;(try simp only[bt] at hb1);refine au ?_;refine aj ?_;refine al ?_;refine av ?_;refine s_d hG ?_ ?_
    ·(try simp only[ba]);omega
    refine s_g hG ?_;refine ar ?_ ?_;·intro hb2;(try simp only[bt] at hb2);refine s_g hG ?_;refine az ?_;refine bK ?_;refine aB ?_;refine eO ?_;refine bK ?_;refine aB ?_;refine q_e [] ?_;obtain⟨j,rfl⟩:∃ j,k=j+1:=⟨k-1,by omega⟩;(have hk:((j+1:Nat):Int)-1=(j:Int):=by omega);rw[hk] at hb2 ⊢;exact cmp_place (k:=j) c1 c2 hl (by omega) g2 hb2
    ·(intro hb2;(try simp only[bf] at hb2);refine au ?_;refine aN ?_;refine aj ?_;refine ag hG ?_ ?_;·first|trivial|omega|(simp;done)|(simp;omega));show ∃ z,_;refine q_l ?_;(have hk:(k:Int)-1=((k-1:Nat):Int):=by omega);refine⟨k-1,by rw[hk,wi (by omega) (by omega)],by omega,?_,by omega⟩;refine drop_step (k:=k-1) hl (by omega) (by rw[show k-1+1=k by omega];exact g2) ?_;rw[hk] at hb2;exact nB.1 hb2
   ·intro hb1;(try simp only[bf] at hb1);refine bj ?_;refine aG ?_;refine ay ?_;refine ax ?_;refine aj ?_;refine s_g hG ?_;refine az ?_;refine q_e [] ?_;(have:k=0:=by omega);subst this;simp only[List.drop_zero] at g2;rw[g2];simp[bD]
def Gd(B:ah):Tab:={types:= [(2,(.int .i64)),(3,(.int .i64)),(87,(.slice (.int .u32))),(161,(.int .u32))],elems:= [(87,161)],cons:= [],hint:= [],N:=46,base:=B}
theorem Mx{B:ah}(hB:aC B):aJ Tryz.prog (Gd B):=⟨⟨tc ty2 (tc ty3 (tc iP (tc gg (ae)))),aT (by kernel_rfl) (af),by simp only[Gd,ioB];omega⟩,bU rfl,by kernel_rfl⟩
def yM:Con:=fun l os=>match l,os with
 | [.z (.slice (.int .u32)) m, .z (.slice (.int .u32)) o], []=>some (Cano m/\Cano o/\valL o<=valL m/\m.length<CAP, [.z (.slice (.int .u32)) (padL (valL m-valL o).toNat m.length)], [])
 |_,_=>none
theorem OM{B:ah}(hB:aC B):Valid B Tryz.prog 153 yM:=by
 refine ab (Mx hB).tab Tryz.func153 rfl rfl rfl ?_;intro args os C rs os' hc hC;unfold yM at hc;split at hc;case h_2=>cases hc
 rename_i m o;cases hc;refine v_h (Mx hB) fun X hP hT hr hG=> ?_;have hU:=Gd.eq_1;unfold Gd at hT;have hX:=Bool.not_true;simp only[Tryz.f153,aD,an,ioB];refine s_g hG ?_;refine s_q hG ?_ ?_
 ·try simp only[ba]
  exact⟨by omega,by omega,by have:List.length m<1000000000000:=hC.2.2.2;unfold Cm.Roomy;omega⟩
 refine s_g hG ?_;refine al ?_;refine s_g hG ?_;refine av ?_;refine bw (fun(z:Nat×Int×List Int)=>(⟨[(1, .l (.z (.slice (.int .u32)) o)),(5, .l (.ownS 12)),(6, .l (.z (.int .i64) z.2.1)),(13, .l (.z (.slice (.int .u32)) m)),(14, .l (.z (.int .i64) (List.length m:Int))),(15, .l (.z (.int .i64) (z.1:Int)))], [(12, .arr (.int .u32) 161 z.2.2)]⟩:aa)) (fun z=>z.1<=List.length m/\z.2.2.length=z.1/\Lim z.2.2/\0<=z.2.1/\z.2.1<=1/\valL z.2.2+valL (List.take z.1 o)=valL (List.take z.1 m)+LB^z.1*z.2.1) (fun z=>List.length m-z.1) (0,0, []) ?_ ?_ ?_;·refine q_l ?_;exact⟨rfl,rfl⟩
 ·simp[Lim,valL]
 ·rintro⟨k,b,out⟩ ⟨g1,g2,g3,g4,g5,g6⟩;try dsimp only at g1 g2 g3 g4 g5 g6
  obtain⟨c1,c2,c3,c4⟩:=hC;have c4:List.length m<1000000000000:=c4;have hx:=c1.1.getD k;have hy:=c2.1.getD k;have hB:LB=1000000000:=rfl;refine s_g hG ?_;refine al ?_;refine ar ?_ ?_
  ·intro hb0;(try simp only[bt] at hb0);refine au ?_;refine aj ?_;refine al ?_;refine av ?_;refine s_q hG ?_ ?_
   ·(try simp only[ba]);exact⟨by omega,by omega⟩
   refine s_g hG ?_;refine cB (fun(z:Int)=>(⟨[(1, .l (.z (.slice (.int .u32)) o)),(5, .l (.ownS 12)),(9, .l (.z (.int .i64) z)),(13, .l (.z (.slice (.int .u32)) m)),(14, .l (.z (.int .i64) (List.length m:Int))),(15, .l (.z (.int .i64) (k:Int)))], [(12, .arr (.int .u32) 161 out)]⟩:aa)) (fun z=>z=List.getD m k 0-b-List.getD o k 0) ?_ ?_
   ·refine s_g hG ?_;refine ar ?_ ?_
    ·intro hb1;(try simp only[bt] at hb1);refine ag hG ?_ ?_
     ·(try simp only[ba]);exact⟨by omega,by omega⟩
     show ∃ z,_;refine q_l ?_;rw[fX,wi (x:=List.getD m k 0) (by omega) (by omega),wi (x:=List.getD m k 0-b) (by omega) (by omega)];first|(rw[fX,wi (x:=List.getD o k 0) (by omega) (by omega)];exact wi (by omega) (by omega))|(rw[List.getD_eq_getElem?_getD (l:=o),List.getElem?_eq_none (by omega)];simp)
    ·intro hb1;(try simp only[bf] at hb1);refine au ?_;show ∃ z,_;refine q_l ?_;rw[fX,wi (x:=List.getD m k 0) (by omega) (by omega),wi (x:=List.getD m k 0-b) (by omega) (by omega)];first|(rw[fX,wi (x:=List.getD o k 0) (by omega) (by omega)];exact wi (by omega) (by omega))|(rw[List.getD_eq_getElem?_getD (l:=o),List.getElem?_eq_none (by omega)];simp)
   rintro n hn;(try dsimp only at hn);refine s_g hG ?_;refine cB (fun(z:Int×Int)=>(⟨[(1, .l (.z (.slice (.int .u32)) o)),(5, .l (.ownS 12)),(6, .l (.z (.int .i64) z.2)),(9, .l (.z (.int .i64) z.1)),(13, .l (.z (.slice (.int .u32)) m)),(14, .l (.z (.int .i64) (List.length m:Int))),(15, .l (.z (.int .i64) (k:Int)))], [(12, .arr (.int .u32) 161 out)]⟩:aa)) (fun z=>0<=z.1/\z.1<LB/\0<=z.2/\z.2<=1/\z.1-LB*z.2=n) ?_ ?_
   ·refine s_g hG ?_;refine ar ?_ ?_
    ·(intro hb2;(try simp only[bt] at hb2);refine ag hG ?_ ?_;·first|trivial|omega|(simp;done)|(simp;omega));show ∃ z,_;refine q_l ?_;first|(rw[wi (by omega) (by omega)];exact⟨by omega,by omega,by omega,by omega,by omega⟩)|exact⟨by omega,by omega,by omega,by omega,by omega⟩
    ·intro hb2;(try simp only[bf] at hb2);refine au ?_;show ∃ z,_;refine q_l ?_;first|(rw[wi (by omega) (by omega)];exact⟨by omega,by omega,by omega,by omega,by omega⟩)|exact⟨by omega,by omega,by omega,by omega,by omega⟩
   rintro⟨n2,b2⟩ hn2;(try dsimp only at hn2);refine ag hG ?_ ?_
   ·(try simp only[ba]);unfold Cm.Roomy;omega
   (refine aN ?_;refine aj ?_;refine ag hG ?_ ?_;·first|trivial|omega|(simp;done)|(simp;omega));show ∃ z,_;refine q_l ?_;obtain⟨hn1,hn2,hn3,hn4,hn5⟩:=hn2;rw[w32 hn1 (by omega)];obtain⟨q1,q2⟩:=minus_round (b:=b) g2 g3 g6 hn1 hn2 (b':=b2) (by omega);exact⟨k+1,by rw[wi (by omega) (by omega)];simp,by omega,by simp[g2],q1,hn3,hn4,q2,by omega⟩
  ·intro hb0;(try simp only[bf] at hb0);refine bj ?_;refine aG ?_;refine ay ?_;refine ax ?_;refine aj ?_;refine s_g hG ?_;refine az ?_;refine q_e [] ?_;(have hk:k=List.length m:=by omega);subst hk;exact minus_end c1 c2 c3 g2 g3 g4 (by rw[List.take_length] at g6;exact g6)
def Ge(B:ah):Tab:={types:= [(3,(.int .i64)),(4, .bool),(87,(.slice (.int .u32))),(89,(.st (.pair .bool (.slice (.int .u32)))))],elems:= [],cons:= [(150,ez),(151,F0),(152,fe),(153,yM)],hint:= [],N:=42,base:=B}
theorem My{B:ah}(hB:aC B):aJ Tryz.prog (Ge B):=⟨⟨tc ty3 (tc ty4 (tc iP (tc gH (ae)))),af,by simp only[Ge,ioB];omega⟩,aF (cc Tryz.func150 (kB hB) (cc Tryz.func151 (OI hB) (cc Tryz.func152 (yL hB) (cc Tryz.func153 (OM hB) (aw))))),by kernel_rfl⟩
def Bi:Con:=fun l os=>match l,os with
 | [.z (.st (.pair .bool (.slice (.int .u32)))) x, .z (.st (.pair .bool (.slice (.int .u32)))) y], []=>some (WOK x/\WOK y/\x.2.length+y.2.length<CAP, [.z (.st (.pair .bool (.slice (.int .u32)))) (enc (dec x+dec y))], [])
 |_,_=>none
theorem yN{B:ah}(hB:aC B):Valid B Tryz.prog 110 Bi:=by
 refine ab (My hB).tab Tryz.func110 rfl rfl rfl ?_;intro args os C rs os' hc hC;unfold Bi at hc;split at hc;case h_2=>cases hc
 rename_i x y;cases hc;refine v_h (My hB) fun X hP hT hr hG=> ?_;have hU:=Ge.eq_1;unfold Ge at hT;have hX:=ai @fe.eq_1<|ai @yM.eq_1<|ai @F0.eq_1<| @ez.eq_1;simp only[Tryz.f110,aD,an,ioB];refine s_g hG ?_;refine al ?_;refine av ?_;refine s_g hG ?_;refine ar ?_ ?_
 ·intro hb0;try simp only[bt] at hb0
  refine s_d hG ?_ ?_
  ·(try simp only[ba]);obtain⟨c1,c2,c3⟩:=hC;exact⟨⟨c1.1,c2.1,c3⟩,(limbs_can _).1,Nat.lt_of_le_of_lt (plus_len c1.1 c2.1) c3⟩
  refine az ?_;refine bK ?_;refine aB ?_;refine q_e [] ?_;exact add_same hC.1 hC.2.1 hb0
 ·intro hb0;try simp only[bf] at hb0
  refine s_q hG ?_ ?_
  ·(try simp only[ba]);obtain⟨c1,c2,c3⟩:=hC;exact⟨c1.1,c2.1,c3⟩
  refine ar ?_ ?_
  ·intro hb1;(try simp only[bt] at hb1);refine s_d hG ?_ ?_
   ·(try simp only[ba]);obtain⟨c1,c2,c3⟩:=hC;rw[nC] at hb1;exact⟨⟨c2.1,c1.1,by omega,by omega⟩,padL_lim _ _,by rw[padL_len];omega⟩
   refine az ?_;refine bK ?_;refine aB ?_;refine q_e [] ?_;rw[nC] at hb1;rw[zO (fun e=>hb0 e.symm) (minus_val hC.2.1.1 hC.1.1 (by omega)),Int.add_comm]
  ·intro hb1;(try simp only[bf] at hb1);refine au ?_;refine aN ?_;refine aj ?_;refine s_d hG ?_ ?_
   ·(try simp only[ba]);obtain⟨c1,c2,c3⟩:=hC;rw[nC] at hb1;exact⟨⟨c1.1,c2.1,by omega,by omega⟩,padL_lim _ _,by rw[padL_len];omega⟩
   refine az ?_;refine q_e [] ?_;rw[nC] at hb1;exact zO hb0 (minus_val hC.1.1 hC.2.1.1 (by omega))
def Gf(B:ah):Tab:={types:= [(89,(.st (.pair .bool (.slice (.int .u32)))))],elems:= [],cons:= [(110,Bi),(148,Bh)],hint:= [],N:=9,base:=B}
theorem Mz{B:ah}(hB:aC B):aJ Tryz.prog (Gf B):=⟨⟨tc gH (ae),af,by simp only[Gf,ioB];omega⟩,aF (cc Tryz.func110 (yN hB) (cc Tryz.func148 (yJ hB) (aw))),by kernel_rfl⟩
def ON:Con:=fun l os=>match l,os with
 | [.z (.st (.pair .bool (.slice (.int .u32)))) x, .z (.st (.pair .bool (.slice (.int .u32)))) y], []=>some (WOK x/\WOK y/\x.2.length+y.2.length<CAP, [.z (.st (.pair .bool (.slice (.int .u32)))) (enc (dec x-dec y))], [])
 |_,_=>none
theorem OO{B:ah}(hB:aC B):Valid B Tryz.prog 179 ON:=by
 refine ab (Mz hB).tab Tryz.func179 rfl rfl rfl ?_;intro args os C rs os' hc hC;unfold ON at hc;split at hc;case h_2=>cases hc
 rename_i x y;cases hc;refine v_h (Mz hB) fun X hP hT hr hG=> ?_;have hU:=Gf.eq_1;unfold Gf at hT;have hX:=ai @Bi.eq_1<| @Bh.eq_1;simp only[Tryz.f179,aD,an,ioB];refine s_g hG ?_;refine s_d hG ?_ ?_
 ·try simp only[ba]
  obtain⟨c1,c2,c3⟩:=hC;exact⟨⟨c2.1.1,by omega⟩,c1,enc_ok _,by rw[Nm c2];exact c3⟩
 refine az ?_;refine q_e [] ?_;rw[bO];rfl
def Gg(B:ah):Tab:={types:= [(3,(.int .i64)),(4, .bool),(87,(.slice (.int .u32))),(89,(.st (.pair .bool (.slice (.int .u32))))),(161,(.int .u32)),(164,(.int .u64))],elems:= [(87,161)],cons:= [(150,ez)],hint:= [],N:=79,base:=B}
theorem MA{B:ah}(hB:aC B):aJ Tryz.prog (Gg B):=⟨⟨tc ty3 (tc ty4 (tc iP (tc gH (tc gg (tc nH (ae)))))),aT (by kernel_rfl) (af),by simp only[Gg,ioB];omega⟩,aF (cc Tryz.func150 (kB hB) (aw)),by kernel_rfl⟩
def Bj:Con:=fun l os=>match l,os with
 | [.z (.st (.pair .bool (.slice (.int .u32)))) x, .z (.st (.pair .bool (.slice (.int .u32)))) y], []=>some (WOK x/\WOK y/\x.2.length+y.2.length<CAP, [.z (.st (.pair .bool (.slice (.int .u32)))) (enc (dec x*dec y))], [])
 |_,_=>none
theorem yO{B:ah}(hB:aC B):Valid B Tryz.prog 109 Bj:=by
 refine ab (MA hB).tab Tryz.func109 rfl rfl rfl ?_;intro args os C rs os' hc hC;unfold Bj at hc;split at hc;case h_2=>cases hc
 rename_i x y;cases hc;refine v_h (MA hB) fun X hP hT hr hG=> ?_;have hU:=Gg.eq_1;unfold Gg at hT;have hX:= @ez.eq_1;simp only[Tryz.f109,aD,an,ioB];refine s_g hG ?_;refine s_q hG ?_ ?_
 ·try simp only[ba]
  have c3:List.length x.2+List.length y.2<1000000000000:=hC.2.2;rw[wi (by omega) (by omega)];exact⟨by omega,by omega,by unfold Cm.Roomy;omega⟩
 refine al ?_;refine s_g hG ?_;refine av ?_;refine bw (fun(z:Nat×List Int)=>(⟨[(2, .l (.z (.ptr (.st (.pair .bool (.slice (.int .u32))))) x)),(3, .l (.z (.ptr (.st (.pair .bool (.slice (.int .u32))))) y)),(4, .l (.ownP 4 0)),(5, .l (.ownS 19)),(21, .l (.z (.slice (.int .u32)) x.2)),(22, .l (.z (.int .i64) (List.length x.2:Int))),(23, .l (.z (.int .i64) (z.1:Int)))], [(19, .arr (.int .u32) 161 z.2),(4, .box 89 [.z .bool false, .val (.slice none 0 0)])]⟩:aa)) (fun z=>z.1<=List.length x.2/\z.2.length=List.length x.2+List.length y.2/\Lim z.2/\valL z.2=valL (List.take z.1 x.2)*valL y.2/\∀ j,z.1+List.length y.2<=j->z.2.getD j 0=0) (fun z=>List.length x.2-z.1) (0,List.replicate (List.length x.2+List.length y.2) 0) ?_ ?_ ?_;·refine q_l ?_;have c3:List.length x.2+List.length y.2<1000000000000:=hC.2.2;rw[wi (by omega) (by omega)];exact⟨rfl,by congr 1⟩
 ·obtain⟨r1,r2,r3⟩:=replicate_zero (List.length x.2+List.length y.2);exact⟨by simp,by simp,r1,by simp[r2,valL],fun j _=>r3 j⟩
 ·rintro⟨i,out⟩ ⟨g1,g2,g3,g4,g5⟩;try dsimp only at g1 g2 g3 g4 g5
  obtain⟨c1,c2,c3⟩:=hC;have c3:List.length x.2+List.length y.2<1000000000000:=c3;have hB:LB=1000000000:=rfl;refine s_g hG ?_;refine al ?_;refine ar ?_ ?_
  ·intro hb0;(try simp only[bt] at hb0);refine au ?_;refine aj ?_;refine al ?_;refine av ?_;refine s_q hG ?_ ?_
   ·(try simp only[ba]);omega
   (refine s_g hG ?_;refine al ?_;refine s_g hG ?_;refine av ?_;refine bw (fun(z:Nat×Int×List Int)=>(⟨[(2, .l (.z (.ptr (.st (.pair .bool (.slice (.int .u32))))) x)),(3, .l (.z (.ptr (.st (.pair .bool (.slice (.int .u32))))) y)),(4, .l (.ownP 4 0)),(5, .l (.ownS 19)),(6, .l (.z (.int .i64) (i:Int))),(7, .l (.z (.int .u32) (List.getD x.2 i 0))),(8, .l (.z (.int .u64) z.2.1)),(21, .l (.z (.slice (.int .u32)) x.2)),(22, .l (.z (.int .i64) (List.length x.2:Int))),(23, .l (.z (.int .i64) (i:Int))),(29, .l (.z (.slice (.int .u32)) y.2)),(30, .l (.z (.int .i64) (List.length y.2:Int))),(31, .l (.z (.int .i64) (z.1:Int)))], [(19, .arr (.int .u32) 161 z.2.2),(4, .box 89 [.z .bool false, .val (.slice none 0 0)])]⟩:aa)) (fun z=>z.1<=List.length y.2/\z.2.2.length=List.length x.2+List.length y.2/\Lim z.2.2/\0<=z.2.1/\z.2.1<LB/\valL z.2.2+LB^(i+z.1)*z.2.1=valL (List.take i x.2)*valL y.2+LB^i*(List.getD x.2 i 0*valL (List.take z.1 y.2))/\∀ j,i+List.length y.2<=j->z.2.2.getD j 0=0) (fun z=>List.length y.2-z.1) (0,0,out) ?_ ?_ ?_;·refine q_l ?_;exact⟨rfl,rfl⟩);·exact⟨by simp,g2,g3,by simp,by simp;decide,by simp[valL,g4],g5⟩
   ·rintro⟨k,c,out2⟩ ⟨k1,k2,k3,k4,k5,k6,k7⟩;(try dsimp only at k1 k2 k3 k4 k5 k6 k7);(have e1:IntKind.i64.wrap ((i:Int)+(k:Int))=((i+k:Nat):Int):=by rw[wi (by omega) (by omega)];omega);refine s_g hG ?_;refine al ?_;refine ar ?_ ?_
    ·intro hb1;(try simp only[bt] at hb1);refine au ?_;refine aj ?_;refine al ?_;refine av ?_;refine s_q hG ?_ ?_
     ·(try simp only[ba]);omega
     refine cB (fun(z:Int)=>(⟨[(2, .l (.z (.ptr (.st (.pair .bool (.slice (.int .u32))))) x)),(3, .l (.z (.ptr (.st (.pair .bool (.slice (.int .u32))))) y)),(4, .l (.ownP 4 0)),(5, .l (.ownS 19)),(6, .l (.z (.int .i64) (i:Int))),(7, .l (.z (.int .u32) (List.getD x.2 i 0))),(9, .l (.z (.int .i64) (k:Int))),(11, .l (.z (.int .u64) z)),(21, .l (.z (.slice (.int .u32)) x.2)),(22, .l (.z (.int .i64) (List.length x.2:Int))),(23, .l (.z (.int .i64) (i:Int))),(29, .l (.z (.slice (.int .u32)) y.2)),(30, .l (.z (.int .i64) (List.length y.2:Int))),(31, .l (.z (.int .i64) (k:Int)))], [(19, .arr (.int .u32) 161 out2),(4, .box 89 [.z .bool false, .val (.slice none 0 0)])]⟩:aa)) (fun z=>z=List.getD x.2 i 0*List.getD y.2 k 0+out2.getD (i+k) 0+c) ?_ ?_
     ·refine ag hG ?_ ?_
      ·(try simp only[ba]);rw[e1];omega
      show ∃ z,_;refine q_l ?_;rw[e1];exact Ql (c1.1.1.getD i) (c2.1.1.getD k) (k3.getD (i+k)) ⟨k4,k5⟩
     rintro n hn;(try dsimp only at hn);refine ag hG ?_ ?_
     ·(try simp only[ba]);rw[e1];omega
     (refine aN ?_;refine aj ?_;refine ag hG ?_ ?_;·first|trivial|omega|(simp;done)|(simp;omega));show ∃ z,_;refine q_l ?_;obtain⟨m0,m1,m2,m3,m4,m5,m6,m7⟩:=mul_step c1.1.1 c2.1.1 k2 k3 k4 k5 (by omega) (by omega) k6 k7 hn;obtain⟨t1,t2,t3⟩:=oz m0 m1;rw[e1,t2,t3,Int.toNat_natCast];exact⟨k+1,by rw[wi (by omega) (by omega)];simp,by omega,m2,m3,m4,m5,m6,m7,by omega⟩
    ·intro hb1;(try simp only[bf] at hb1);refine bj ?_;refine aG ?_;refine ay ?_;refine ax ?_;refine aj ?_;refine ag hG ?_ ?_
     ·(try simp only[ba]);rw[wi (by omega) (by omega)];omega
     (refine aN ?_;refine aj ?_;refine ag hG ?_ ?_;·first|trivial|omega|(simp;done)|(simp;omega));show ∃ z,_;refine q_l ?_;(have e1:IntKind.i64.wrap ((i:Int)+(List.length y.2:Int))=((i+List.length y.2:Nat):Int):=by rw[wi (by omega) (by omega)];omega);(have hk:k=List.length y.2:=by omega);subst hk;rw[List.take_length] at k6;obtain⟨f1,f2,f3,f4⟩:=mul_row k2 k3 k4 k5 (by omega) rfl k6 k7;rw[e1,w32 k4 (by omega),Int.toNat_natCast];exact⟨i+1,by rw[wi (by omega) (by omega)];simp,by omega,f1,f2,f3,f4,by omega⟩
  ·intro hb0;(try simp only[bf] at hb0);refine bj ?_;refine aG ?_;refine ay ?_;refine ax ?_;refine aj ?_;refine s_q hG ?_ ?_
   ·(try simp only[ba]);exact⟨g3,by unfold CAP;omega⟩
   refine az ?_;refine q_e [] ?_;(have hi:i=List.length x.2:=by omega);subst hi;rw[List.take_length] at g4;rw[<- Nn g4]
end Go.Proofs.YtdojbabpnaifoaaGreatDoor
end