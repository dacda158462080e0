/- Merged by a program out of several texts. -/
import Derived.Test.YtppnhclgaeodoaaGreatDoorK1
import Derived.Deep.LoopGhost
import Derived.KernelRfl
import Derived.Scope
import Derived.OpenShut
import Derived.RowKit
import Derived.ChangeArms
import Derived.ChangeSame
import Derived.Deep.Slices
import Derived.ProofKit
import Derived.Deep.DeepHandedRow
set_option linter.all false
set_option linter.unusedSimpArgs false
set_option linter.unusedVariables false
set_option maxRecDepth 100000
open Array renaming getElem?_eq_some_iff→BY,replicate→Ov,getD_eq_getD_getElem?→O1,all_eq_true_iff_forall_mem→Py,eq_empty_of_size_eq_zero→QG,getElem?_replicate→QO,getD→Sw
open Bool renaming and_eq_true→N9,or_eq_true→OT,true_and→Pb,not_eq_true'→Pc,false_eq_true→Pd,not_true→Pv,false_or→QK,false_and→Rk,and_true→SD,or_true→SO
open List renaming getD_eq_getElem?_getD→sh,getElem?_eq_getElem→AI,mem_cons→IS,replicate→N6,eq_nil_of_length_eq_zero→N7,all_eq_true→Ob,getElem?_eq_some_iff→Oh,length_drop→Om,length_cons→Oo,mem_append→Oq,mem_map→Ot,getElem_mem→OE,mem_cons_of_mem→OF,mem_range→OJ,cons_append→OS,getElem?_append_left→OU,pairwise_cons→OW,getElem?_cons_succ→O3,append_assoc→O4,take_append_drop→O5,map_cons→O6,mem_of_getElem?→O9,range→Pa,mem_singleton→Ph,drop_drop→PH,contains_eq_mem→PK,foldl_cons→PQ,nodup_cons→P6,getElem_cons_zero→P8,getElem_cons_succ→P9,all_cons→Qg,mem_filter→Qh,getElem?_append_right→Qu,of_mem_zip→QT,not_mem_nil→QZ,contains_cons→Q1,mem_filterMap→Q3,mapM_cons→Ri,mem_append_right→RD,flatMap_cons→RE,mem_flatMap→RU,getElem?_eq_none_iff→R2,pairwise_map→Si,mem_append_left→SE,any_eq_false→S2,any_eq_true→Tc,getElem?_toArray→Tx,flatMap_append→TO,getElem_inj→T9
open List.Pairwise renaming nil→S3
open Nat renaming le_refl→Oa,mul_le_mul_right→Oc,le_trans→Og,zero_add→Oz,succ_mul→O7,add_sub_cancel_left→PZ,add_zero→Qr,zero_mul→Q8,lt_or_gt_of_ne→Rv
open Option renaming isSome_iff_exists→OR,getD_some→OV,map_some→Pj,isSome_none→Q2,bind_eq_some_iff→Rm,bind_eq_bind→R7
open Option.some renaming injEq→PV
section
namespace Go.Cm
open Go.RowKit
def jP(H:Nat->Prop)(w:World)(M:Nat->Prop):RV->Value->Prop
 | .z t x,v=>aJ H w (fun _=>undef) (.z t x) v
 | .own t T xs,v=>(∃a n c,v= .slice a n c)/\∃cells,cC (fun c x=>t.rep H w c x) cells xs/\rowAt M w T t.w v xs.length cells
 | .fn f caps,v=>aJ H w (fun _=>undef) (.fn f caps) v
 | .val u,v=>v=u
def RV.isOwn:RV->Bool
 | .own ..=>true
 |_=>false
def cK(O:Nat->Prop):List RV->List Value->Nat->Prop
 |r::rs,v::vs,b=>(r.isOwn=true/\Blk v b)∨cK O rs vs b
 |_,_,b=>O b
def fk:List RV->List Value->Prop
 |r::rs,v::vs=>(r.isOwn=true->∀b,Blk v b-> ¬cK (fun _=>False) rs vs b)/\fk rs vs
 |_,_=>True
def pV:List Value->Value
 | [v]=>v
 |vs=> .tuple vs.toArray
def af:Nat->List aB->List (Nat×aB)
 |_,[]=>[]
 |k,o::r=>(k,o)::af (k+1) r
def mX(ρ:Nat->Value)(own:List (Nat×aB)):Prop:=own.Pairwise fun p q=>p.1≠q.1/\∀b,Blk (ρ p.1) b-> ¬Blk (ρ q.1) b
def bj(ρ0:Nat->Value)(os:List aB)(b:Nat):Prop:=∃p∈af ioB os,Blk (ρ0 p.1) b
def Valid(B:av)(P:Program)(f:FuncId)(c:Con)(fr:List Nat:=[]):Prop:=
 ∀(args:List LV) (os:List aB) (C:Prop) (rs:List RV) (os':List aB),c args os=some (C,rs,os')->C->∀(O:Nat->Prop) (w:World) (vals:Array Value) (ρ0:Nat->Value),B.On w->(∀b,bj ρ0 os b->B.n<=b)->
  (∀b,O b->b<w.heap.size)->(∀b,O b-> ¬bj ρ0 os b)->aY (aJ (hot O ρ0 (af ioB os)) w ρ0) args vals.toList->
  (∀p∈af ioB os,bW (hot O ρ0 (af ioB os)) w ρ0 (bj ρ0 os) p)->mX ρ0 (af ioB os)->
  Calls P f vals w fun e w'=>∃(vs:List Value) (ρ1:Nat->Value),e= .returned (pV vs)/\os'.length=os.length/\Bel (fun b=>w.heap.size<=b∨bj ρ0 os b) w w'/\
   (∀k,¬(ioB<=k/\k<ioB+os.length/\fr.contains (k-ioB)=true)->ρ1 k=ρ0 k)/\
   aY (jP (cK (hot O ρ1 (af ioB os')) rs vs) w' (fun b=>w.heap.size<=b∨bj ρ0 os b)) rs vs/\fk rs vs/\
   (∀p∈af ioB os',bW (cK (hot O ρ1 (af ioB os')) rs vs) w' ρ1 (fun b=>w.heap.size<=b∨bj ρ0 os b) p)/\
   mX ρ1 (af ioB os')/\∀b,bj ρ1 os' b-> ¬cK (fun _=>False) rs vs b
structure eX (P:Program) (T:Tab):Prop where
 cons:∀f c,get? T.cons f=some c->Valid T.base P f c ((get? T.frees f).getD [])
 body:∀f c,get? T.cons f=some c->∃fn,P.funcs[f]? =some fn/\(fn.name== "runtime.NumGoroutine")=false/\fn.body.isNone=false
theorem FJ{H H':Nat->Prop}{w:World}{M:Nat->Prop}{t:Ty}{T:TypeId}{xs:List t.D}{v:Value}(h:jP H w M (.own t T xs) v)(hH:∀b,H' b->H b)(hno:∀b,Blk v b-> ¬H' b):
  aJ H' w (fun _=>undef) (.z (.slice t) xs) v:=by
 obtain⟨⟨p,n,c,hv2⟩,cells0,hr0,hrow⟩:=h;have how:∀q∈ [((0:Nat),aB.arr t T xs)],bW H w (fun _=>v) M q:=by
  intro q hq;simp only[Ph] at hq;subst hq;exact⟨cells0,hr0,hrow⟩
 obtain⟨hn,cells,hr,hl,hor⟩:=fc (id:=0) (T:=T) (t:=t) (xs:=xs) how (by simp[get?]) hv2;subst hn;refine⟨by rw[hv2];rfl,?_⟩;rw[hv2];rcases hor with⟨rfl,hx0,rfl⟩|⟨g,rfl,hb,h1,h2,cur,hh',h3,h4⟩;·subst hx0;exact .inl ⟨rfl,rfl⟩
 ·exact .inr ⟨g,0,none,c,cells,rfl,fun _=>rfl,h1,h2,aS (fun b _ hb=>hH b hb) (aW.refl _ _) hr,fun _ hg1=>hno g (by rw[hv2];rfl) hg1,fun j hj=>fv hh' h4 hj⟩
theorem lE{O:Nat->Prop}:∀(rs:List RV) (vs:List Value) {b:Nat},cK O (rs.map RV.cold) vs b->O b
 |r::rs,v::vs,b,h=>by
  simp only[O6,cK] at h;rcases h with⟨h,_⟩|h;·cases r<;>simp[RV.cold,RV.isOwn] at h
  ·exact lE rs vs h
 | [],_,b,h=>by simpa [cK] using h
 |_::_,[],b,h=>by simpa [cK] using h
theorem pg:∀(rs:List RV) (vs:List Value),fk (rs.map RV.cold) vs
 |r::rs,v::vs=>⟨fun h=>by cases r<;>simp[RV.cold,RV.isOwn] at h,pg rs vs⟩
 | [],_=>by simp[fk]
 |_::_,[]=>by simp[fk]
theorem xo{O:Nat->Prop}:∀(rs:List RV) (vs:List Value) {b:Nat},O b->cK O rs vs b
 |r::rs,v::vs,b,h=> .inr (xo rs vs h)
 | [],_,b,h=>by simpa [cK] using h
 |_::_,[],b,h=>by simpa [cK] using h
theorem uf{H H':Nat->Prop}{w:World}{M:Nat->Prop}(hH:∀b,H' b->H b):∀(rs:List RV) (vs:List Value),(∀b,cK (fun _=>False) rs vs b-> ¬H' b)->aY (jP H w M) rs vs->aY (jP H' w M) (rs.map RV.cold) vs
 | [],[],_,_=>trivial
 | [],_::_,_,h=>h.elim
 |_::_,[],_,h=>h.elim
 |r::rs,v::vs,hno,h=>by
  refine⟨?_,uf hH rs vs (fun b hb=>hno b (.inr hb)) h.2⟩;have h1:=h.1;cases r with
  |own t T xs=>exact FJ h1 hH (fun b hb=>hno b (.inl ⟨rfl,hb⟩))
  |z t x=>exact⟨h1.1,Ty.rep_move (fun b _ hb=>hH b hb) (aW.refl _ _) h1.2⟩
  |val u=>exact h1
  |fn f caps=>exact aN (x:= .fn f caps) (fun b _ hb=>hH b hb) (aW.refl _ _) (fun _ _=>rfl) h1
theorem oh{H:Nat->Prop}{w':World}{M:Nat->Prop}{b:Nat}:∀(rs:List RV) (vs:List Value),aY (jP H w' M) rs vs->cK (fun _=>False) rs vs b->M b
 | [],_,_,hb=>hb.elim
 |_::_,[],_,hb=>hb.elim
 |r::rs,v::vs,h,hb=>by
  rcases hb with⟨hb1,hb2⟩|hb
  ·cases r with
   |z t x=>simp[RV.isOwn] at hb1
   |fn f caps=>simp[RV.isOwn] at hb1
   |val u=>simp[RV.isOwn] at hb1
   |own t T xs=>
    (obtain⟨_,cells,_,h2⟩:=h.1;rcases h2.2 with⟨q2,_⟩|⟨g,cap,cur,e1,e2,_⟩;·rw[q2] at hb2;simp[Blk] at hb2);·rw[e1] at hb2;simp[Blk] at hb2;exact hb2▸e2
  ·exact oh rs vs h.2 hb
theorem zy{B:av}{P:Program}{f:FuncId}{c:Con}{fr:List Nat}(hv:Valid B P f c fr):Valid B P f (pY c) fr:=by
 intro args os C rs os' hc hC O w vals ρ0 hOn hIo hO hOI hargs hown hap;unfold pY at hc;split at hc
 ·rename_i C0 rs0 os0 hc0;cases hc;refine(hv args os C rs0 os' hc0 hC O w vals ρ0 hOn hIo hO hOI hargs hown hap).mono ?_;rintro e w' ⟨vs,ρ1,rfl,hlen,hb,hρ1,hr,-,hio,hap1,hdis⟩;have hsub:∀b,cK (hot O ρ1 (af ioB os')) (rs0.map RV.cold) vs b->cK (hot O ρ1 (af ioB os')) rs0 vs b:=fun b h=>xo _ _ (lE _ _ h);refine⟨vs,ρ1,rfl,hlen,hb,hρ1,uf hsub _ _ (fun b hbb h=>?_) hr,pg _ _,fun p hp=>?_,hap1,fun b _ h=>lE _ _ h⟩
  ·rcases lE _ _ h with h|⟨p,hp,h⟩
   ·(rcases oh _ _ hr hbb with h1|h1;·have:=hO b h;omega);·exact hOI b h h1
   ·exact hdis b ⟨p,hp,h⟩ hbb
  ·exact(hio p hp).move_id (fun b _ h=>hsub b h) (aW.refl _ _) (fun _ _=>rfl)
 ·cases hc
theorem eX.at{P:Program}{T:Tab}(h:eX P T){d:Option Nat}{f:FuncId}{c:Con}(hc:T.conAt d f=some c):Valid T.base P f c ((get? T.frees f).getD []):=by
 unfold Tab.conAt at hc;split at hc
 ·rename_i c0 h0;split at hc
  ·(split at hc;·cases hc;exact zy (h.cons _ _ h0));·cases hc;exact h.cons _ _ h0
  ·cases hc;exact h.cons _ _ h0
 ·cases hc
theorem eX.bodyAt{P:Program}{T:Tab}(h:eX P T){d:Option Nat}{f:FuncId}{c:Con}(hc:T.conAt d f=some c):∃fn,P.funcs[f]? =some fn/\(fn.name== "runtime.NumGoroutine")=false/\fn.body.isNone=false:=by
 unfold Tab.conAt at hc;split at hc;·rename_i c0 h0;exact h.body _ _ h0
 ·cases hc
theorem zz{X:Cx}{s s':aa}{a:Act}{w:World}{ρ:Nat->Value}(h:Fits X s a w ρ)(hO:∀b,X.O b-> ¬X.M b){t:TypeId}{x:Operand}{v:LV}(he:iW X.T s t x=some (v,s')):
  Fits X s' a w ρ/\(∀b,hot X.O ρ s'.own b->hot X.O ρ s.own b)/\aJ (hot X.O ρ s'.own) w ρ v (a.eval x):=by
 have hf:=h.frozenAt hO x;have hsub:∀b,hot X.O ρ (frozenAt s x).own b->hot X.O ρ s.own b:=by
  intro b hb;unfold frozenAt at hb;split at hb
  ·rename_i v hv;have key:∀(l:List Nat) (s:aa),hot X.O ρ (s.freezeAll l).own b->hot X.O ρ s.own b:=by
    intro l;induction l with
    |nil=>intro s h;exact h
    |cons k l ih=>
     (intro s h;have:=ih (s.freeze k) h;unfold aa.freeze at this;split at this;·refine jN (fun p hp=>?_) this;obtain⟨u,h1,_⟩:=a8 hp;exact⟨u,(bC.1 h1).1⟩);·exact this
   exact key _ _ hb
  ·exact hb
 unfold iW at he;split at he;·rename_i id hv;cases he;exact⟨hf,hsub,bJ hf hv⟩
 ·rename_i f caps hv;cases he;exact⟨hf,hsub,bJ hf hv⟩
 ·rename_i u y hv;cases he;exact⟨hf,hsub,bJ hf hv⟩
 ·rename_i u hv;cases he;exact⟨hf,hsub,bJ hf hv⟩
 ·rename_i cs hv;split at he
  ·(rename_i u hu;split at he;·rename_i y hy;cases he;have q:aJ _ w ρ (.z u y) (a.eval x):=AV.get_ok hy (bJ hf hv);exact⟨hf,hsub,q⟩);·cases he
  ·cases he
 ·cases he
theorem zA{X:Cx}{s s':aa}{a:Act}{w:World}{ρ:Nat->Value}(h:Fits X s a w ρ)(hO:∀b,X.O b-> ¬X.M b){io:Bool}{t:TypeId}{x:Operand}{v:LV}(he:bO X.T io s t x=some (v,s')):
  Fits X s' a w ρ/\(∀b,hot X.O ρ s'.own b->hot X.O ρ s.own b)/\aJ (hot X.O ρ s'.own) w ρ v (a.eval x):=by
 unfold bO at he;split at he;·rename_i id hx;cases he;exact⟨h,fun _ h=>h,bJ h hx⟩
 ·rename_i id wd i hx;cases he;exact⟨h,fun _ h=>h,bJ h hx⟩
 ·exact zz h hO he
theorem ph{X:Cx}{a:Act}{w:World}{ρ:Nat->Value}(hO:∀b,X.O b-> ¬X.M b)(io:List Nat):∀(xs:List Operand) (ts:List TypeId) (k:Nat) {s s':aa} {vs:List LV},Fits X s a w ρ->dU X.T io k s ts xs=some (vs,s')->
  Fits X s' a w ρ/\(∀b,hot X.O ρ s'.own b->hot X.O ρ s.own b)/\aY (aJ (hot X.O ρ s'.own) w ρ) vs (xs.map a.eval)
 | [],ts,k,s,s',vs,h,he=>by simp[dU] at he;obtain⟨rfl,rfl⟩:=he;exact⟨h,fun _ h=>h,trivial⟩
 |x::xs,[],k,s,s',vs,h,he=>by simp[dU] at he
 |x::xs,t::ts,k,s,s',vs,h,he=>by
  simp only[dU] at he;split at he
  ·(rename_i v s1 hv;split at he;·rename_i vs' s2 hvs;cases he;obtain⟨g1,g2,g3⟩:=zA h hO hv;obtain⟨k1,k2,k3⟩:=ph hO io xs ts (k+1) g1 hvs;exact⟨k1,fun b hb=>g2 b (k2 b hb),aN (fun b _ hb=>k2 b hb) (aW.refl _ _) (fun _ _=>rfl) g3,k3⟩);·cases he
  ·cases he
theorem Fits.kill{X:Cx}{s:aa}{a:Act}{w:World}{ρ:Nat->Value}(h:Fits X s a w ρ)(d:Nat):Fits X (s.kill d) a w ρ:=by
 have hsub:∀p∈bg (LV.kill d) (del s.own d),∃o,(p.1,o)∈s.own:=fun p hp=>by
  obtain⟨u,h1,_⟩:=a8 hp;exact⟨u,(bC.1 h1).1⟩
 have hh:∀b,b<w.heap.size->hot X.O ρ (bg (LV.kill d) (del s.own d)) b->hot X.O ρ s.own b:=fun b _ hb=>jN hsub hb;have hs:=aW.refl (hot X.O ρ s.own) w;have hk:∀x v,aJ (hot X.O ρ s.own) w ρ x v->aJ (hot X.O ρ (bg (LV.kill d) (del s.own d))) w ρ (x.kill d) v:=fun x v hx=>aZ hh hs (fun _ _=>rfl) hx;refine h.env_map hk (fun p hp=>?_) (fun p hp hB hF=>by obtain⟨o,ho⟩:=hsub p hp;exact h.io (p.1,o) ho hB hF) ?_;·obtain⟨u,h1,h2⟩:=a8 hp;have:=(h.own _ (bC.1 h1).1).move (f:=LV.kill d) (ρ':=ρ) hh hs hk rfl (fun _ _=>rfl);rw[<- h2] at this;exact this
 ·exact cA (fun i j=>i≠j/\∀b,Blk (ρ i) b-> ¬Blk (ρ j) b) (da (fun i j=>i≠j/\∀b,Blk (ρ i) b-> ¬Blk (ρ j) b) h.apart)
theorem DS(d i:Nat)(x:LV):(x.kill d).isOf i=true->x.isOf i=true/\i≠d:=by
 unfold LV.kill;split;·intro h;simp[LV.isOf] at h
 ·rename_i hno;intro h;exact⟨h,fun e=>hno (e▸h)⟩
def LV.clear(ds:Nat->Prop)(x:LV):Prop:=∀i,ds i->x.isOf i=false
def AV.clear(ds:Nat->Prop):AV->Prop
 | .l x=>x.clear ds
 | .agg cs=>∀c∈cs,c.clear ds
 | .tup xs=>∀x∈xs,x.clear ds
 | .g _ x=>x.clear ds
 | .gt _ xs=>∀x∈xs,x.clear ds
def aB.clear(ds:Nat->Prop):aB->Prop
 | .box _ cs=>∀c∈cs,c.clear ds
 | .arr _ _ _=>True
 | .win _ _ _ _ _=>True
 | .mat _ _ _ _ _=>True
 | .que _ _ _=>True
def aa.clear(ds:Nat->Prop)(s:aa):Prop:=(∀e∈s.env,e.2.clear ds)/\∀p∈s.own,¬ds p.1/\p.2.clear ds
theorem LV.clear_kill{ds:Nat->Prop}{x:LV}(h:x.clear ds)(d:Nat):(x.kill d).clear fun i=>i=d∨ds i:=by
 intro i hi;cases hk:(x.kill d).isOf i with
 |false=>rfl
 |true=>
  obtain⟨h1,h2⟩:=DS d i x hk;rcases hi with hi|hi;·exact absurd hi h2
  ·rw[h i hi] at h1;cases h1
theorem aa.clear_kill{ds:Nat->Prop}{s:aa}(h:s.clear ds)(d:Nat):(s.kill d).clear fun i=>i=d∨ds i:=by
 constructor
 ·intro e he;obtain⟨v,h1,h2⟩:=gh he;have hv:=h.1 _ h1;rw[h2];cases v with
  |l x=>exact LV.clear_kill hv d
  |agg cs=>intro c hc;obtain⟨c',h3,rfl⟩:=Ot.1 hc;exact LV.clear_kill (hv c' h3) d
  |tup xs=>intro c hc;obtain⟨c',h3,rfl⟩:=Ot.1 hc;exact LV.clear_kill (hv c' h3) d
  |g φ x=>exact LV.clear_kill hv d
  |gt φ xs=>intro c hc;obtain⟨c',h3,rfl⟩:=Ot.1 hc;exact LV.clear_kill (hv c' h3) d
 ·intro p hp;obtain⟨o,h1,h2⟩:=a8 hp;have h3:=bC.1 h1;refine⟨fun hi=>hi.elim (fun e=>h3.2 e) (fun e=>(h.2 _ h3.1).1 e),?_⟩;have ho:=(h.2 _ h3.1).2;rw[h2];cases o with
  |box T cs=>intro c hc;obtain⟨c',h3,rfl⟩:=Ot.1 hc;exact LV.clear_kill (ho c' h3) d
  |arr t T xs=>trivial
  |win t T pre xs post=>trivial
  |mat t T E rows idx=>trivial
  |que t T xs=>trivial
theorem qS{X:Cx}{a:Act}{w:World}{ρ:Nat->Value}:∀(l:List Nat) {s:aa} {ds:Nat->Prop},Fits X s a w ρ->s.clear ds->Fits X (eA s l) a w ρ/\(eA s l).clear fun i=>i∈l∨ds i
 | [],s,ds,h,hc=>⟨h,by simpa [eA] using hc⟩
 |d::l,s,ds,h,hc=>by
  obtain⟨g1,g2⟩:=qS l (h.kill d) (aa.clear_kill hc d);refine⟨g1,?_⟩;have:(fun i=>i∈l∨i=d∨ds i)=(fun i=>i∈d::l∨ds i):=by
   funext i;simp only[IS,eq_iff_iff];constructor
   ·(rintro(h|h|h);·exact .inl (.inr h));·exact .inl (.inl h)
    ·exact .inr h
   ·(rintro((h|h)|h);·exact .inr (.inl h));·exact .inl h
    ·exact .inr (.inr h)
  rwa [<- this]
theorem gm{H H':Nat->Prop}{w w':World}{ρ ρ':Nat->Value}{ds:Nat->Prop}(hh:∀b,b<w.heap.size->H' b->H b)(hs:aW H w w')(hρ:∀i,¬ds i->ρ' i=ρ i){x:LV}(hc:x.clear ds){v:Value}(h:aJ H w ρ x v):aJ H' w' ρ' x v:=
 aN hh hs (fun i hi=>hρ i (fun hd=>by rw[hc i hd] at hi;cases hi)) h
theorem aY.and_mem{α β:Type}{R R':α->β->Prop}{p:α->Prop}(hf:∀a b,p a->R a b->R' a b):∀{l1:List α} {bs:List β},(∀a∈l1,p a)->aY R l1 bs->aY R' l1 bs:=
 fun hp h=>h.imp (fun a b ha hr=>hf a b (hp a ha) hr)
theorem zB{H:Nat->Prop}{w:World}{ρ:Nat->Value}{f:FuncId}{caps:List CV}{v:Value}(h:aJ H w (fun _=>undef) (.fn f caps) v):aJ H w ρ (.fn f caps) v:=by
 obtain⟨vs,hv,h⟩:=h;refine⟨vs,hv,?_⟩;clear hv;induction caps generalizing vs with
 |nil=>cases vs with
  |nil=>trivial
  |cons _ _=>exact h.elim
 |cons c caps ih=>cases vs with
  |nil=>exact h.elim
  |cons u vs=>
   refine⟨?_,ih vs h.2⟩;have h1:=h.1;cases c with
   |z t y=>exact h1
   |p id=>obtain⟨b,hb,_⟩:=h1;simp[undef] at hb
theorem xp{H:Nat->Prop}{w:World}{B:Nat->Prop}(ρ:Nat->Value):∀(rs:List RV) (vs:List Value) (i:Nat),aY (jP H w B) rs vs->(∀k (_:k<vs.length),(∃r,rs[k]? =some r/\r.isOwn=true)->ρ (i+k)=vs[k])->aY (aJ H w ρ) (bF i rs).1 vs
 | [],[],_,_,_=>trivial
 |r::rs,v::vs,i,h,hρ=>by
  have h0:=hρ 0 (by simp);simp only[Qr,P8] at h0;refine⟨?_,xp ρ rs vs (i+1) h.2 (fun k hk ho=>by
   have:=hρ (k+1) (by simpa using hk) (by simpa using ho);simp only[P9] at this;rw[<- this];congr 1;omega)⟩
  cases r with
  |z t x=>exact h.1
  |own t T xs=>
   obtain⟨⟨a,n,c,hv⟩,_⟩:=h.1;exact⟨(h0 ⟨_,rfl,rfl⟩).symm,a,n,c,hv⟩
  |fn f caps=>exact zB h.1
  |val u=>exact h.1
 | [],_::_,_,h,_=>h.elim
 |_::_,[],_,h,_=>h.elim
theorem mY{H:Nat->Prop}{w:World}{B:Nat->Prop}{M:Nat->Prop}(hbb:∀b,B b->M b)(ρ:Nat->Value):∀(rs:List RV) (vs:List Value) (i:Nat),aY (jP H w B) rs vs->(∀k (_:k<vs.length),(∃r,rs[k]? =some r/\r.isOwn=true)->ρ (i+k)=vs[k])->∀p∈(bF i rs).2,(∃k,k<vs.length/\p.1=i+k)/\bW H w ρ M p/\∀b,Blk (ρ p.1) b->B b/\cK (fun _=>False) rs vs b
 | [],[],_,_,_,p,hp=>by simp[bF] at hp
 |r::rs,v::vs,i,h,hρ,p,hp=>by
  have h0:=hρ 0 (by simp);simp only[Qr,P8] at h0;simp only[bF,Oq] at hp;rcases hp with hp|hp
  ·cases r with
   |z t x=>simp[RV.give] at hp
   |fn f caps=>simp[RV.give] at hp
   |val u=>simp[RV.give] at hp
   |own t T xs=>
    simp[RV.give] at hp;subst hp;obtain⟨⟨a,n,c,hv⟩,cells,h1,h2⟩:=h.1;have h0:=h0 ⟨_,rfl,rfl⟩;refine⟨⟨0,by simp,rfl⟩,⟨cells,h1,?_⟩,fun b hb=>?_⟩
    ·(simp only[h0];obtain⟨q1,q2⟩:=h2;refine⟨q1,?_⟩;rcases q2 with q2|⟨g,cap,cur,e1,e2,e3⟩;·exact .inl q2);·exact .inr ⟨g,cap,cur,e1,hbb g e2,e3⟩
    ·(simp only[h0] at hb;refine⟨?_,.inl ⟨rfl,hb⟩⟩;rcases h2.2 with⟨q2,_⟩|⟨g,cap,cur,e1,e2,_⟩;·rw[q2] at hb;simp[Blk] at hb);·rw[e1] at hb;simp[Blk] at hb;exact hb▸e2
  ·obtain⟨⟨k,h1,h2⟩,h3,h4⟩:=mY hbb ρ rs vs (i+1) h.2 (fun k hk ho=>by
    have:=hρ (k+1) (by simpa using hk) (by simpa using ho);simp only[P9] at this;rw[<- this];congr 1;omega) p hp
   exact⟨⟨k+1,by simpa using h1,by omega⟩,h3,fun b hb=>⟨(h4 b hb).1,.inr (h4 b hb).2⟩⟩
 | [],_::_,_,h,_,_,_=>h.elim
 |_::_,[],_,h,_,_,_=>h.elim
theorem qT{H:Nat->Prop}{w:World}{B:Nat->Prop}(ρ:Nat->Value):∀(rs:List RV) (vs:List Value) (i:Nat),aY (jP H w B) rs vs->fk rs vs->(∀k (_:k<vs.length),(∃r,rs[k]? =some r/\r.isOwn=true)->ρ (i+k)=vs[k])->(bF i rs).2.Pairwise fun p q=>p.1≠q.1/\∀b,Blk (ρ p.1) b-> ¬Blk (ρ q.1) b
 | [],[],_,_,_,_=> .nil
 |r::rs,v::vs,i,h,ha,hρ=>by
  have h0:=hρ 0 (by simp);simp only[Qr,P8] at h0;have hρ':∀k (_:k<vs.length),(∃r,rs[k]? =some r/\r.isOwn=true)->ρ (i+1+k)=vs[k]:=fun k hk ho=>by
   have:=hρ (k+1) (by simpa using hk) (by simpa using ho);simp only[P9] at this;rw[<- this];congr 1;omega
  have ih:=qT ρ rs vs (i+1) h.2 ha.2 hρ';cases r with
  |z t x=>simpa [bF,RV.give] using ih
  |fn f caps=>simpa [bF,RV.give] using ih
  |val u=>simpa [bF,RV.give] using ih
  |own t T xs=>
   simp only[bF,RV.give,List.singleton_append];rw[OW];refine⟨fun q hq=>?_,ih⟩;obtain⟨⟨k,_,h2⟩,_,h4⟩:=mY (M:=B) (fun _ h=>h) ρ rs vs (i+1) h.2 hρ' q hq;refine⟨by omega,fun b hb hqb=>?_⟩;rw[h0 ⟨_,rfl,rfl⟩] at hb;exact ha.1 rfl b hb (h4 b hqb).2
 | [],_::_,_,h,_,_=>h.elim
 |_::_,[],_,h,_,_=>h.elim
theorem eH{O:Nat->Prop}:∀(rs:List RV) (vs:List Value) {b:Nat},cK O rs vs b↔O b∨cK (fun _=>False) rs vs b
 |r::rs,v::vs,b=>by
  simp only[cK];rw[eH rs vs];constructor
  ·(rintro(h|h|h);·exact .inr (.inl h));·exact .inl h
   ·exact .inr (.inr h)
  ·(rintro(h|h|h);·exact .inr (.inl h));·exact .inl h
   ·exact .inr (.inr h)
 | [],_,b=>by simp[cK]
 |_::_,[],b=>by simp[cK]
theorem xq{H H':Nat->Prop}{w:World}{B:Nat->Prop}(hh:∀b,b<w.heap.size->H' b->H b){r:RV}{v:Value}(h:jP H w B r v):jP H' w B r v:=by
 cases r with
 |z t x=>exact⟨h.1,Ty.rep_move hh (aW.refl _ _) h.2⟩
 |fn f caps=>exact aN (x:= .fn f caps) hh (aW.refl _ _) (fun _ _=>rfl) h
 |val u=>exact h
 |own t T xs=>
  obtain⟨h1,cells,h2,h3⟩:=h;exact⟨h1,cells,aS hh (aW.refl _ _) h2,h3⟩
theorem zC{H H':Nat->Prop}{w w':World}{ρ ρ':Nat->Value}{ds:Nat->Prop}(hh:∀b,b<w.heap.size->H' b->H b)(hs:aW H w w')(hρ:∀i,¬ds i->ρ' i=ρ i){x:AV}(hc:x.clear ds){v:Value}(h:fL H w ρ x v):fL H' w' ρ' x v:=by
 cases x with
 |l x=>exact gm hh hs hρ hc h
 |agg cs=>obtain⟨vs,e,h⟩:=h;exact⟨vs,e,h.and_mem (p:=LV.clear ds) (fun _ _ hc hr=>⟨gm hh hs hρ hc hr.1,hr.2⟩) hc⟩
 |tup xs=>obtain⟨vs,e,h⟩:=h;exact⟨vs,e,h.and_mem (p:=LV.clear ds) (fun _ _ hc hr=>gm hh hs hρ hc hr) hc⟩
 |g φ x=>exact⟨fun hφ=>gm hh hs hρ hc (h.1 hφ),h.2⟩
 |gt φ xs=>exact⟨fun hφ=>by obtain⟨vs,e,h⟩:=h.1 hφ;exact⟨vs,e,h.and_mem (p:=LV.clear ds) (fun _ _ hc hr=>gm hh hs hρ hc hr) hc⟩,h.2⟩
theorem xr{H H':Nat->Prop}{w w':World}{ρ ρ':Nat->Value}{M:Nat->Prop}{ds:Nat->Prop}{p:Nat×aB}(hh:∀b,b<w.heap.size->H' b->H b)(hs:aW H w w')(hρ:∀i,¬ds i->ρ' i=ρ i)(hc:¬ds p.1/\p.2.clear ds)(hk:∀k,k<w.heap.size->w'.heap[k]? =w.heap[k]?)(h:bW H w ρ M p):bW H' w' ρ' M p:=by
 have hlt:=fun b (hb:Blk (ρ p.1) b)=>(h.lt hb).2;obtain⟨id,obj⟩:=p;have hr:ρ' id=ρ id:=hρ id hc.1;cases obj with
 |box T cs=>
  obtain⟨g,vs,h1,h2,h3,h4⟩:=h;exact⟨g,vs,by rw[hr];exact h1,h2,by rw[hk g (hlt g (by simp only[h1];rfl))];exact h3,h4.and_mem (p:=LV.clear ds) (fun _ _ hc hr=>⟨gm hh hs hρ hc hr.1,hr.2⟩) hc.2⟩
 |arr t T xs=>
  obtain⟨cells,h1,h2,h3⟩:=h;refine⟨cells,aS hh hs h1,h2,?_⟩;rw[hr];rcases h3 with h3|⟨g,cap,cur,h3,h4,h5,h6⟩;·exact .inl h3
  ·exact .inr ⟨g,cap,cur,h3,h4,by rw[hk g (hlt g (by simp only[h3];rfl))];exact h5,h6⟩
 |win t T pre xs post=>
  obtain⟨g,cap,cells,cur,h1,h3,h4,h5,h6⟩:=h;exact⟨g,cap,cells,cur,aS hh hs h1,by rw[hr];exact h3,h4,by rw[hk g (hlt g (by simp only[h3];rfl))];exact h5,h6⟩
 |mat t T E rows idx=>
  have:=h.move (f:=_root_.id) (ρ':=fun i=>if i=id then ρ id else ρ i) hh hs (fun x v hx=>aN hh hs (fun i _=>by
   by_cases e:i=id
   ·subst e;simp
   ·simp[e]) hx) (by simp) (fun b hb=>hk b (hlt b hb))
  obtain⟨h0,vs,cells,h1,h2⟩:=this;exact⟨h0,vs,cells,by rw[hr];simpa using h1,h2⟩
 |que t T xs=>
  have hM:∀b,Blk (ρ id) b->M b:=fun b hb=>(bW.lt h hb).1;obtain⟨cells,h1,h2⟩:=h;refine⟨cells,aS hh hs h1,?_⟩;rw[hr];exact mi h2 fun b e=>⟨hM b e,hk b (hlt b e)⟩
theorem kE:∀(rs:List RV) (i:Nat),∀p∈(bF i rs).2,p.1∈cD i rs
 | [],i,p,h=>by simp[bF] at h
 |r::rs,i,p,h=>by
  simp only[bF,Oq] at h;cases r with
  |own t T xs=>
   (simp only[cD,IS];rcases h with h|h;·simp[RV.give] at h;exact .inl (by rw[h]));·exact .inr (kE rs (i+1) p h)
  |z t x=>simp only[RV.give,QZ,false_or] at h;exact kE rs (i+1) p h
  |fn f caps=>simp only[RV.give,QZ,false_or] at h;exact kE rs (i+1) p h
  |val u=>simp only[RV.give,QZ,false_or] at h;exact kE rs (i+1) p h
theorem qU:∀{rs:List RV} {i k:Nat},k∈cD i rs↔i<=k/\∃r,rs[k-i]? =some r/\r.isOwn=true
 | [],i,k=>by simp[cD]
 |r::rs,i,k=>by
  have ih:=qU (rs:=rs) (i:=i+1) (k:=k);have step:(i+1<=k/\∃r',rs[k-(i+1)]? =some r'/\r'.isOwn=true)↔(i<k/\∃r',(r::rs)[k-i]? =some r'/\r'.isOwn=true):=by
   (constructor;·rintro⟨h1,h2⟩;refine⟨h1,?_⟩;(have:k-i=(k-(i+1))+1:=by omega);rw[this];simpa using h2);·rintro⟨h1,h2⟩;refine⟨h1,?_⟩;(have:k-i=(k-(i+1))+1:=by omega);rw[this] at h2;simpa using h2
  have key:r.isOwn=false->((i<=k/\∃r',(r::rs)[k-i]? =some r'/\r'.isOwn=true)↔(i<k/\∃r',(r::rs)[k-i]? =some r'/\r'.isOwn=true)):=by
   intro hr;refine⟨fun⟨h1,h2⟩=>⟨Nat.lt_of_le_of_ne h1 ?_,h2⟩,fun⟨h1,h2⟩=>⟨by omega,h2⟩⟩;rintro rfl;obtain⟨r',h3,h4⟩:=h2;simp at h3;subst h3;rw[hr] at h4;cases h4
  cases r with
  |own t T xs=>
   simp only[cD,IS];rw[ih,step];constructor
   ·(rintro(rfl|⟨h1,h2⟩);·exact⟨Oa _,_,by rw[Nat.sub_self];rfl,rfl⟩);·exact⟨by omega,h2⟩
   ·(rintro⟨h1,h2⟩;by_cases e:k=i;·exact .inl e);·exact .inr ⟨by omega,h2⟩
  |z t x=>simp only[cD];rw[ih,step,key rfl]
  |fn f caps=>simp only[cD];rw[ih,step,key rfl]
  |val u=>simp only[cD];rw[ih,step,key rfl]
theorem zD{X:Cx}{s:aa}{a:Act}{w':World}{ρ:Nat->Value}{rs:List RV}{vs:List Value}{s0:aa}{w:World}(h0:St X s0 a w)(hko:KeepsOthers w w')(hbel:Bel X.M X.w0 w')(hf:Fits {X with O:=fun b=>X.O b∨cK (fun _=>False) rs vs b} s a w' ρ){B:Nat->Prop}(hB:∀b,hot X.O ρ s.own b-> ¬cK (fun _=>False) rs vs b)(hB0:∀b,B b->X.M b){d:Nat}(hdN:X.T.ok d=true)
  (hid:1000+8*d+rs.length<=ioB) (hr:aY (jP (cK (hot X.O ρ s.own) rs vs) w' B) rs vs) (hap:fk rs vs):St X (endCall s d rs) (a.put (some d) (pV vs)) w':=by
 have hclear0:s.clear fun _=>False:=by
  constructor
  ·intro e _;have:∀x:LV,x.clear fun _=>False:=fun x i hi=>hi.elim;cases e.2 with
   |l x=>exact this x
   |agg cs=>exact fun c _=>this c
   |tup xs=>exact fun c _=>this c
   |g φ x=>exact this x
   |gt φ xs=>exact fun c _=>this c
  ·intro p _;refine⟨id,?_⟩;cases p.2 with
   |box T cs=>exact fun c _ i hi=>hi.elim
   |arr t T xs=>trivial
   |win t T pre xs post=>trivial
   |mat t T E rows idx=>trivial
   |que t T xs=>trivial
 have hlen:=hr.length;obtain⟨g1,g2⟩:=qS (cD (1000+8*d) rs) hf hclear0;unfold endCall;simp only[];generalize hs2:eA s (cD (1000+8*d) rs)=s2 at g1 g2;generalize hi0:1000+8*d=i0 at g2 hs2 hid;let ρ':Nat->Value:=fun i=>if i∈cD i0 rs then vs.getD (i-i0) undef else ρ i
 have hρin:∀k (_:k<vs.length),(∃r,rs[k]? =some r/\r.isOwn=true)->ρ' (i0+k)=vs[k]:=by
  intro k hk ho;have hc:i0+k∈cD i0 rs:=qU.2 ⟨by omega,by rw[PZ];exact ho⟩;show (if i0+k∈cD i0 rs then vs.getD (i0+k-i0) undef else ρ (i0+k))=vs[k];rw[if_pos hc,PZ];simp[List.getD,hk]
 have hρout:∀i,¬(i∈cD i0 rs∨False)->ρ' i=ρ i:=by
  intro i hi;show (if i∈cD i0 rs then vs.getD (i-i0) undef else ρ i)=ρ i;rw[if_neg (fun h=>hi (.inl h))]
 have hsub2:∀b,hot X.O ρ s2.own b->hot X.O ρ s.own b:=by
  intro b hb;rw[<- hs2] at hb;have key:∀(l:List Nat) (s:aa),hot X.O ρ (eA s l).own b->hot X.O ρ s.own b:=by
   intro l;induction l with
   |nil=>intro s h;exact h
   |cons k l ih=>
    intro s h;refine jN (fun p hp=>?_) (ih (s.kill k) h);obtain⟨u,h1,_⟩:=a8 hp;exact⟨u,(bC.1 h1).1⟩
  exact key _ _ hb
 have hown:=mY (H:=cK (hot X.O ρ s.own) rs vs) (w:=w') (B:=B) (M:=X.M) hB0 ρ' rs vs i0 hr hρin;have hH:∀b,hot X.O ρ' ((bF i0 rs).2++s2.own) b->cK (hot X.O ρ s2.own) rs vs b:=by
  intro b hh;rw[eH];rcases hh with hh|⟨p,hp,hpb⟩;·exact .inl (.inl hh)
  ·(rcases Oq.1 hp with hp|hp;·exact .inr ((hown p hp).2.2 b hpb).2);·rw[hρout _ (g2.2 p hp).1] at hpb;exact .inl (.inr ⟨p,hp,hpb⟩)
 have hH':∀b,hot X.O ρ' ((bF i0 rs).2++s2.own) b->cK (hot X.O ρ s.own) rs vs b:=by
  intro b hh;have:=hH b hh;rw[eH] at this ⊢;exact this.imp (hsub2 b) _root_.id
 have hr':=hr.imp (R':=jP (hot X.O ρ' ((bF i0 rs).2++s2.own)) w' B) (fun r v _ hrv=>xq (fun b _ hb=>hH' b hb) hrv);have hfit:Fits X {env:=s2.env,own:=(bF i0 rs).2++s2.own} a w' ρ':=by
  have hh2:∀b,b<w'.heap.size->hot X.O ρ' ((bF i0 rs).2++s2.own) b->hot (fun b=>X.O b∨cK (fun _=>False) rs vs b) ρ s2.own b:=by
   (intro b _ hh;have h1:=hH b hh;rw[eH] at h1;rcases h1 with(h1|h1)|h1;·exact .inl (.inl h1));·exact .inr h1
   ·exact .inl (.inr h1)
  have hs:aW (hot (fun b=>X.O b∨cK (fun _=>False) rs vs b) ρ s2.own) w' w':=aW.refl _ _;refine⟨fun e he=>zC hh2 hs hρout (g2.1 e he) (g1.env e he),fun p hp=>?_,fun p hp hB hF=>?_,?_⟩
  ·(rcases Oq.1 hp with hp|hp;·exact(mY (B:=B) (M:=X.M) hB0 ρ' rs vs i0 hr' hρin p hp).2.1);·exact xr hh2 hs hρout (g2.2 p hp) (fun _ _=>rfl) (g1.own p hp)
  ·(rcases Oq.1 hp with hp|hp;·obtain⟨⟨k,h1,h2⟩,_⟩:=hown p hp;omega);·rw[hρout _ (g2.2 p hp).1];exact g1.io p hp hB hF
  ·rw[List.pairwise_append];refine⟨qT ρ' rs vs i0 hr hap hρin,?_,fun p hp q hq=>?_⟩;·refine g1.apart.imp_of_mem fun {p q} hp hq hpq=>?_;rw[hρout _ (g2.2 p hp).1,hρout _ (g2.2 q hq).1];exact hpq
   ·(obtain⟨⟨k,h1,h2⟩,_,h4⟩:=hown p hp;have hq2:=(g2.2 q hq).1;refine⟨fun e=>hq2 (.inl ?_),fun b hpb hqb=>?_⟩;·rw[<- e];exact kE rs i0 p hp);rw[hρout _ hq2] at hqb;exact hB b (hsub2 b (db hq hqb)) (h4 b hpb).2
 have henv:=xp ρ' rs vs i0 hr' hρin;have hval:fL (hot X.O ρ' ((bF i0 rs).2++s2.own)) w' ρ' (match (bF i0 rs).1 with
   | [x]=>AV.l x
   |l=>AV.tup l) (pV vs):=by
  generalize (bF i0 rs).1=l at henv;match l,vs,henv with
  | [],[],henv=>exact⟨[],rfl,henv⟩
  | [x],[v],henv=>exact henv.1
  |x::y::l,v::u::vs,henv=>exact⟨v::u::vs,rfl,henv⟩
 have hput:=hfit.put (d:=d) (by rw[h0.size];exact Tab.ok_lt hdN) hval;exact h0.next hdN hko hbel hput
theorem gn:∀{l:List bV} {k n:Nat} {x:bV},fh l k x=some n->k<=n/\l[n-k]? =some x
 |i::r,k,n,x,h=>by
  simp only[fh] at h;split at h;·rename_i e;subst e;cases h;exact⟨Oa _,by simp⟩
  ·obtain⟨h1,h2⟩:=gn h;refine⟨by omega,?_⟩;(have:n-k=(n-(k+1))+1:=by omega);rw[this,O3,h2]
def hdr(ρ:Nat->Value):bV->Value
 |(id,none)=>ρ id
 |(id,some (w,i))=>match ρ id with
  | .slice (some a) n c=> .slice (some ⟨a.block,i*w,none⟩) (n-i) (c-i)
  |_=>undef
def cl(ρ:Nat->Value)(l:List bV)(k:Nat):Value:=match (if ioB<=k then l[k-ioB]? else none) with
 |some x=>hdr ρ x
 |none=>undef
theorem cF{ρ:Nat->Value}{l:List bV}{k:Nat}{x:bV}(hk:ioB<=k)(h:l[k-ioB]? =some x):cl ρ l k=hdr ρ x:=by
 simp only[cl,if_pos hk,h]
theorem DT{H:Nat->Prop}{w:World}{ρ:Nat->Value}{l:List bV}{c c':CV}(he:c.ren l=some c'){v:Value}(h:eY H w ρ c v):eY H w (cl ρ l) c' v:=by
 cases c with
 |z t x=>simp[CV.ren] at he;subst he;exact h
 |p id=>
  simp only[CV.ren] at he;split at he;·rename_i k hk;cases he;obtain⟨h1,h2⟩:=gn hk;simp only[eY,cF h1 h2,hdr];exact h
  ·cases he
theorem qV{H:Nat->Prop}{w:World}{ρ:Nat->Value}{l:List bV}:∀{cs cs':List CV} {vs:List Value},gX l cs=some cs'->aY (eY H w ρ) cs vs->aY (eY H w (cl ρ l)) cs' vs
 | [],_,[],he,_=>by simp[gX] at he;subst he;trivial
 | [],_,_::_,_,h=>h.elim
 |_::_,_,[],_,h=>h.elim
 |c::cs,cs',v::vs,he,h=>by
  simp only[gX] at he;split at he;·rename_i c1 r1 h1 h2;cases he;exact⟨DT h1 h.1,qV h2 h.2⟩
  ·cases he
theorem xt{H:Nat->Prop}{w:World}{ρ:Nat->Value}{l:List bV}{x:LV}{v:Value}(h:aJ H w ρ x v):aJ H w (cl ρ l) (x.ren l) v:=by
 cases x with
 |z t x=>exact h
 |val u=>exact h
 |ownP id off=>
  simp only[LV.ren];split;·rename_i k hk;obtain⟨h1,h2⟩:=gn hk;simp only[aJ,cF h1 h2,hdr];exact h
  ·trivial
 |ownS id=>
  simp only[LV.ren];split;·rename_i k hk;obtain⟨h1,h2⟩:=gn hk;simp only[aJ,cF h1 h2,hdr];exact h
  ·trivial
 |ownW id wd i=>
  simp only[LV.ren];split;·rename_i k hk;obtain⟨h1,h2⟩:=gn hk;obtain⟨b,n,c,h3,h4,h5⟩:=h;simp only[aJ,cF h1 h2,hdr,h3];exact⟨h5,_,_,_,h5⟩
  ·trivial
 |ownM id=>
  simp only[LV.ren];split;·rename_i k hk;obtain⟨h1,h2⟩:=gn hk;simp only[aJ,cF h1 h2,hdr];exact h
  ·trivial
 |ownR id j=>
  simp only[LV.ren];split;·rename_i k hk;obtain⟨h1,h2⟩:=gn hk;simp only[aJ,cF h1 h2,hdr];exact h
  ·trivial
 |ownA=>trivial
 |ownB=>trivial
 |fn f caps=>
  simp only[LV.ren];split;·rename_i cs hcs;obtain⟨vs,hv,h⟩:=h;exact⟨vs,hv,qV hcs h⟩
  ·trivial
 |ownE=>trivial
 |junk=>trivial
theorem ef{l:List bV}{k id:Nat}(h:kA l k=some id):ioB<=k/\l[k-ioB]? =some (id,none):=by
 unfold kA at h;split at h;·cases h
 ·rename_i h1;split at h;·rename_i h2;cases h;exact⟨Nat.le_of_not_lt h1,h2⟩
  ·cases h
theorem zE{H:Nat->Prop}{w:World}{ρ:Nat->Value}{l:List bV}{c c':CV}(he:c.back l=some c'){v:Value}(h:eY H w (cl ρ l) c v):eY H w ρ c' v:=by
 cases c with
 |z t x=>simp[CV.back] at he;subst he;exact h
 |p id=>
  simp only[CV.back] at he;split at he;·rename_i k hk;cases he;simp only[eY,cF (ef hk).1 (ef hk).2,hdr] at h;exact h
  ·cases he
theorem pj{H:Nat->Prop}{w:World}{ρ:Nat->Value}{l:List bV}:∀{cs cs':List CV} {vs:List Value},iC l cs=some cs'->aY (eY H w (cl ρ l)) cs vs->aY (eY H w ρ) cs' vs
 | [],_,[],he,_=>by simp[iC] at he;subst he;trivial
 | [],_,_::_,_,h=>h.elim
 |_::_,_,[],_,h=>h.elim
 |c::cs,cs',v::vs,he,h=>by
  simp only[iC] at he;split at he;·rename_i c1 r1 h1 h2;cases he;exact⟨zE h1 h.1,pj h2 h.2⟩
  ·cases he
theorem DU{H:Nat->Prop}{w:World}{ρ:Nat->Value}{l:List bV}{x:LV}{v:Value}(h:aJ H w (cl ρ l) x v):aJ H w ρ (x.back l) v:=by
 cases x with
 |z t x=>exact h
 |val u=>exact h
 |ownP id off=>
  simp only[LV.back];split;·rename_i k hk;simp only[aJ,cF (ef hk).1 (ef hk).2,hdr] at h;exact h
  ·trivial
 |ownS id=>
  simp only[LV.back];split;·rename_i k hk;simp only[aJ,cF (ef hk).1 (ef hk).2,hdr] at h;exact h
  ·trivial
 |fn f caps=>
  simp only[LV.back];split;·rename_i cs hcs;obtain⟨vs,hv,h⟩:=h;exact⟨vs,hv,pj hcs h⟩
  ·trivial
 |ownM id=>
  simp only[LV.back];split;·rename_i k hk;simp only[aJ,cF (ef hk).1 (ef hk).2,hdr] at h;exact h
  ·trivial
 |ownR id j=>
  simp only[LV.back];split;·rename_i k hk;simp only[aJ,cF (ef hk).1 (ef hk).2,hdr] at h;exact h
  ·trivial
 |ownA=>trivial
 |ownB=>trivial
 |ownW=>trivial
 |ownE=>trivial
 |junk=>trivial
theorem bW.moved{H H':Nat->Prop}{w:World}{ρ ρ':Nat->Value}{M M':Nat->Prop}{id k:Nat}{o:aB}{f:LV->LV}(h:bW H w ρ M (id,o))(hh:∀b,b<w.heap.size->H' b->H b)
  (hf:∀x v,aJ H w ρ x v->aJ H' w ρ' (f x) v) (hρ:ρ' k=ρ id) (hM:∀b,Blk (ρ id) b->M' b):bW H' w ρ' M' (k,o.map f):=by
 have hs:=aW.refl H w;cases o with
 |box T cs=>
  obtain⟨g,vs,h1,h2,h3,h4⟩:=h;exact⟨g,vs,by rw[hρ];exact h1,hM g (by rw[h1];rfl),h3,h4.map_left (fun _ _ h=>qO hf h)⟩
 |arr t T xs=>
  obtain⟨cells,h1,h2,h3⟩:=h;refine⟨cells,aS hh hs h1,h2,?_⟩;rw[hρ];rcases h3 with h3|⟨g,cap,cur,h3,h4,h5,h6⟩;·exact .inl h3
  ·exact .inr ⟨g,cap,cur,h3,hM g (by rw[h3];rfl),h5,h6⟩
 |win t T pre xs post=>
  obtain⟨g,cap,cells,cur,hr,h3,h4,h5,h6⟩:=h;exact⟨g,cap,cells,cur,aS hh hs hr,by rw[hρ];exact h3,hM g (by rw[h3];rfl),h5,h6⟩
 |mat t T E rows idx=>
  obtain⟨h0,vs,cells,h1,h2⟩:=h;exact⟨h0,vs,cells,by rw[hρ];exact h1,h2.move (fun c x h=>Ty.rep_move hh hs h) fun u hu b e=>⟨hM b (by rw[h1];exact⟨u,hu,e⟩),rfl⟩⟩
 |que t T xs=>
  obtain⟨cells,h1,h2⟩:=h;refine⟨cells,aS hh hs h1,?_⟩;rw[hρ];exact mi h2 fun b e=>⟨hM b e,rfl⟩
theorem vT{ρ:Nat->Value}{x:bV}{b:Nat}(h:Blk (hdr ρ x) b):Blk (ρ x.1) b:=by
 obtain⟨id,o⟩:=x;cases o with
 |none=>exact h
 |some p=>
  obtain⟨w,i⟩:=p;simp only[hdr] at h;split at h;·rename_i a n c he;simp only[he];simpa [Blk] using h
  ·simp[Blk,undef] at h
theorem zF{H H':Nat->Prop}{w:World}{ρ:Nat->Value}{M M':Nat->Prop}{own:List (Nat×aB)}{l:List bV}(hown:∀p∈own,bW H w ρ M p){x:bV}{o:aB}(he:c8 own l x=some o){k:Nat}(hk:ioB<=k)(hx:l[k-ioB]? =some x)
  (hh:∀b,b<w.heap.size->H' b->H b) (hM:∀b,Blk (ρ x.1) b->M' b):bW H' w (cl ρ l) M' (k,o):=by
 obtain⟨id,q⟩:=x;have hρ:cl ρ l k=hdr ρ (id,q):=cF hk hx;cases q with
 |none=>
  simp only[c8] at he;split at he;·rename_i o' hg;cases he;exact(hown _ (get?_mem hg)).moved hh (fun x v h=>aN hh (aW.refl _ _) (fun _ _=>rfl) (xt h)) hρ hM
  ·cases he
 |some p=>
  obtain⟨wd,i⟩:=p;simp only[c8] at he;split at he
  ·rename_i t T xs hg;split at he
   ·rename_i hc;obtain⟨hi,rfl⟩:=hc;cases he;obtain⟨cells,h1,h2,h3⟩:=hown _ (get?_mem hg);rcases h3 with⟨_,h3⟩|⟨g,cap,cur,h3,h4,h5,h6,h7,h8,h9⟩;·omega
    ·(have hl:(xs.take i).length=i:=by simp;omega);(have hl2:(xs.drop i).length=xs.length-i:=by simp);(have e:xs.take i++(xs.drop i++ [])=xs:=by simp);refine⟨g,cap-i,cells,cur,by rw[e];exact aS hh (aW.refl _ _) h1,?_,hM g (by simp only[h3];rfl),h5,by omega,by omega,by omega,?_,by simp;omega,by rw[e];exact h9⟩;·rw[hρ,hdr,h3,hl,hl2]
     ·exact Og (Oc _ (by rw[hl];omega)) h8
   ·cases he
  ·cases he
theorem qW{own:List (Nat×aB)}{l:List bV}:∀{r:List bV} {os:List aB},iX own l r=some os->os.length=r.length/\∀(j:Nat) (x:bV) (o:aB),r[j]? =some x->os[j]? =some o->c8 own l x=some o
 | [],os,h=>by simp[iX] at h;subst h;exact⟨rfl,fun j x o h=>by simp at h⟩
 |y::r,os,h=>by
  simp only[iX] at h;split at h
  ·rename_i o1 os1 h1 h2;cases h;obtain⟨g1,g2⟩:=qW h2;refine⟨by simp[g1],fun j x o hx ho=>?_⟩;cases j with
   |zero=>simp at hx ho;subst hx;subst ho;exact h1
   |succ j=>exact g2 j x o (by simpa using hx) (by simpa using ho)
  ·cases h
theorem dN:∀{os:List aB} {k:Nat} {p:Nat×aB},p∈af k os↔k<=p.1/\os[p.1-k]? =some p.2
 | [],k,p=>by simp[af]
 |o::os,k,p=>by
  simp only[af,IS];rw[dN];obtain⟨n,q⟩:=p;constructor
  ·(rintro(h|⟨h1,h2⟩);·cases h;simp);·refine⟨by simp only at h1;omega,?_⟩;(have:n-k=(n-(k+1))+1:=by simp only at h1;omega);simp only[this,O3];exact h2
  ·(rintro⟨h1,h2⟩;by_cases e:n=k;·subst e;simp at h2;exact .inl (by rw[h2]));·right;simp only at h1 h2;refine⟨by simp only;omega,?_⟩;(have:n-k=(n-(k+1))+1:=by omega);rw[this,O3] at h2;exact h2
theorem gP(R:Nat->Nat->Prop):∀(os:List aB) (k:Nat),(∀i j,k<=i->i<j->j<k+os.length->R i j)->(af k os).Pairwise fun p q=>R p.1 q.1
 | [],_,_=> .nil
 |o::os,k,h=>by
  simp only[af,OW];refine⟨fun q hq=>?_,gP R os (k+1) fun i j h1 h2 h3=>h i j (by omega) h2 (by simp only[Oo];omega)⟩;obtain⟨h1,h2⟩:=dN.1 hq;have:=(Oh.1 h2).1;exact h k q.1 (Oa _) (by omega) (by simp only[Oo];omega)
theorem fy:∀{l:List Nat},distinct l=true->l.Nodup
 | [],_=> .nil
 |a::r,h=>by
  simp only[distinct,N9,Pc,PK,decide_eq_false_iff_not] at h;exact P6.2 ⟨h.1,fy h.2⟩
theorem vU{α:Type}:∀(l:List (Nat×α)) (n:Nat) (y:α),(upd l n y).map Prod.fst=l.map Prod.fst
 | [],_,_=>rfl
 |(k,x)::r,n,y=>by
  simp only[upd];split;·rfl
  ·simp[vU r n y]
theorem l8{α:Type}:∀{l:List (Nat×α)} {n:Nat} {y:α} {p:Nat×α},(l.map Prod.fst).Nodup->p∈upd l n y->p=(n,y)∨(p∈l/\p.1≠n)
 |(k,x)::r,n,y,p,hp,h=>by
  rw[O6,P6] at hp;simp only[upd] at h;split at h
  ·(rename_i e;subst e;rcases IS.1 h with rfl|h;·exact .inl rfl);·exact .inr ⟨by simp[h],fun e=>hp.1 (by rw[<- e];exact Ot.2 ⟨p,h,rfl⟩)⟩
  ·rename_i e;rcases IS.1 h with rfl|h;·exact .inr ⟨by simp,e⟩
   ·(rcases l8 hp.2 h with h1|⟨h1,h2⟩;·exact .inl h1);·exact .inr ⟨by simp[h1],h2⟩
theorem qX{L:List bV}:∀{r:List bV} {os:List aB} {own own':List (Nat×aB)} {C:Prop},fJ L r os own=some (C,own')->C->(own.map Prod.fst).Nodup->(r.map Prod.fst).Nodup->
  own'.map Prod.fst=own.map Prod.fst/\∀p∈own',(p∈own/\p.1∉r.map Prod.fst)∨∃(j:Nat) (x:bV) (o o':aB) (C':Prop),r[j]? =some x/\os[j]? =some o/\iY L x o=some (C',o')/\C'/\p=(x.1,o')
 | [],[],own,own',C,h,_,_,_=>by simp[fJ] at h;obtain⟨_,rfl⟩:=h;exact⟨rfl,fun p hp=> .inl ⟨hp,by simp⟩⟩
 | [],_::_,_,_,_,h,_,_,_=>by simp[fJ] at h
 |_::_,[],_,_,_,h,_,_,_=>by simp[fJ] at h
 |x::r,o::os,own,own',C,h,hC,hn,hd=>by
  simp only[fJ] at h;split at h
  ·rename_i C1 o1 h1;split at h
   ·rename_i C2 own2 h2;cases h;rw[O6,P6] at hd;(have hn':((upd own x.1 o1).map Prod.fst).Nodup:=by rw[vU];exact hn);obtain⟨g1,g2⟩:=qX h2 hC.2 hn' hd.2;refine⟨by rw[g1,vU],fun p hp=>?_⟩;rcases g2 p hp with⟨h3,h4⟩|⟨j,x',o',o'',C',h3,h4,h5,h6,h7⟩
    ·(rcases l8 hn h3 with rfl|⟨h5,h6⟩;·exact .inr ⟨0,x,o,o1,C1,by simp,by simp,h1,hC.1,rfl⟩);·exact .inl ⟨h5,by simp only[O6,IS,not_or];exact⟨h6,h4⟩⟩
    ·exact .inr ⟨j+1,x',o',o'',C',by simpa using h3,by simpa using h4,h5,h6,h7⟩
   ·cases h
  ·cases h
theorem zG{H H':Nat->Prop}{w w':World}{ρ:Nat->Value}{M M':Nat->Prop}{own:List (Nat×aB)}{l:List bV}{G:Nat->Prop}(hown:∀p∈own,bW G w ρ M p){x:bV}{o0 o o':aB}{C:Prop}(hl:c8 own l x=some o0)(he:iY l x o=some (C,o'))(hC:C){k:Nat}(hk:ioB<=k)(hx:l[k-ioB]? =some x)
  {ρ2:Nat->Value} (hρx:x.2.isSome=true->ρ2 x.1=ρ x.1) (hMM:∀b,M' b->M b) (hh:∀b,b<w'.heap.size->H' b->H b) (h:bW H w' (cl ρ2 l) M' (k,o)):bW H' w' ρ2 M (x.1,o'):=by
 have hρ:cl ρ2 l k=hdr ρ2 x:=cF hk hx;obtain⟨id,q⟩:=x;cases q with
 |none=>
  simp only[iY] at he;cases he;simp only[c8] at hl;split at hl;·exact h.moved hh (fun x v h=>aN hh (aW.refl _ _) (fun _ _=>rfl) (DU h)) hρ.symm (fun b hb=>hMM b (h.lt hb).1)
  ·cases hl
 |some p=>
  obtain⟨wd,i⟩:=p;simp only[c8] at hl;split at hl
  ·rename_i t0 T0 xs0 hg;split at hl
   ·rename_i hc;obtain⟨hi,rfl⟩:=hc;cases hl;unfold iY at he;split at he;·rename_i hq;cases hq
    ·rename_i w1 i1 t T pre xs post hq;cases hq;cases he;obtain⟨c1,c2,c3⟩:=hC;subst c3;obtain⟨g,cap,cells,cur,r1,r2,r3,r4,r5,r6,r7,r8,r9,r10⟩:=h;obtain⟨cells0,_,_,h3⟩:=hown _ (get?_mem hg);rw[<- hρx rfl] at h3;rcases h3 with⟨_,h3⟩|⟨g0,cap0,cur0,h3,h4,h5,h6,h7,h8,h9⟩;·omega
     ·(rw[hρ,hdr,h3] at r2;simp at r2;obtain⟨⟨rfl,q2⟩,q3,q4⟩:=r2;(have hlen:(pre++xs).length=xs0.length:=by simp;omega);(have e:pre++(xs++ [])=pre++xs:=by simp);rw[e] at r1 r10;refine⟨cells,aS hh (aW.refl _ _) r1,?_,.inr ⟨g0,cap0,cur,?_,h4,r4,by omega,h7,?_,r10⟩⟩;·exact bu (fun c x h=>t.rep_length h) r1);·simp only[h3,hlen]
      ·exact Og (Oc _ (by omega)) r8
    ·cases he
   ·cases hl
  ·cases hl
theorem xu{X:Cx}{s:aa}{a:Act}{w:World}{ρ:Nat->Value}(h:Fits X s a w ρ){f:Operand}{g:FuncId}{caps:List LV}(he:eD s f=some (g,caps)):
  ∃vs:List Value,a.eval f= .func (.func g) #[] vs.toArray/\aY (aJ (hot X.O ρ s.own) w ρ) caps vs:=by
 unfold eD at he;split at he
 ·rename_i g' first caps' hx
  split at he;·rename_i hc;cases he;have hv:a.eval f=_:=bJ h hx;(have e1:first= #[]:=QG hc.1);have e2:caps'= #[]:=QG hc.2;exact⟨[],by rw[hv,e1,e2],trivial⟩
  ·cases he
 ·rename_i g' caps' hx;cases he;obtain⟨vs,hv,hc⟩:aJ (hot X.O ρ s.own) w ρ (.fn g caps') (a.eval f):=bJ h hx;refine⟨vs,hv,?_⟩;clear hv hx;induction caps' generalizing vs with
  |nil=>cases vs with
   |nil=>trivial
   |cons _ _=>exact hc.elim
  |cons c cs ih=>cases vs with
   |nil=>exact hc.elim
   |cons v vs=>
    refine⟨?_,ih vs hc.2⟩;have h1:=hc.1;cases c with
    |z t y=>exact h1
    |p id=>exact h1
 ·cases he
theorem jQ{own:List (Nat×aB)}{l:List bV}{os:List aB}(h:∀(j:Nat) (x:bV) (o:aB),l[j]? =some x->os[j]? =some o->c8 own l x=some o)(hl:os.length=l.length){j:Nat}(hj:j<l.length):∃h':j<os.length,c8 own l l[j]=some os[j]:=
 ⟨by omega,h j _ _ (AI hj) (AI (by omega))⟩
theorem DV{ρ:Nat->Value}{own:List (Nat×aB)}(h:mX ρ own){p q:Nat×aB}(hp:p∈own)(hq:q∈own)(hne:p.1≠q.1){b:Nat}(hb:Blk (ρ p.1) b):¬Blk (ρ q.1) b:=by
 unfold mX at h;induction own with
 |nil=>cases hp
 |cons x l ih=>
  rw[OW] at h;rcases IS.1 hp with e2|h4<;>rcases IS.1 hq with e3|h5
  ·exact absurd (by rw[e2,e3]) hne
  ·rw[e2] at hb;exact(h.1 _ h5).2 b hb
  ·intro e;rw[e3] at e;exact(h.1 _ h4).2 b e hb
  ·exact ih h.2 h4 h5
theorem qY{X:Cx}(hC:eX X.P X.T){s s':aa}{a:Act}{w:World}(h:St X s a w){o:Oper}{d:Option Nat}{c:Call}{f:Operand}(hcal:c.callee= .value f)(hop:o.op= .call c)(hd:o.dst=d)(hdN:∀n,d=some n->X.T.ok n=true){C:Prop}(he:callOp X.T s d f c.args.toList c.argTypes.toList=some (C,s'))(hCC:C)
  {K:Act->World->Prop} {Q:Exit->Act->World->Prop} (hK:∀a' w',St X s' a' w'->K a' w'):o.wpIn (fw X.r) 2 X.P a w K Q:=by
 obtain⟨callee,⟨args⟩,⟨types⟩⟩:=c;simp only at hcal he;subst hcal;unfold callOp at he;obtain⟨ρ,hf⟩:=h.fits;split at he;case h_2=>cases he
 rename_i g caps hg;split at he;case h_2=>cases he
 rename_i con hcon;split at he;case h_2=>cases he
 rename_i vs s1 hvs;simp only[] at he;generalize hl:qF s1 (vs++caps)=l at he;generalize hfr:(get? X.T.frees g).getD []=fr at he;split at he;case isFalse=>cases he
 rename_i hdist;split at he;case isFalse=>cases he
 rename_i hex;split at he;case h_2=>cases he
 rename_i os hos;split at he;case h_2=>cases he
 rename_i C1 rs os' hrs;split at he;case h_2=>cases he
 rename_i C2 own' hown';obtain⟨cvals,hcv1,hcv2⟩:=xu hf hg;obtain⟨g1,g2,g3⟩:=ph h.others _ args types 0 hf hvs;obtain⟨fn,hfn,hname,hbody⟩:=hC.bodyAt hcon;have hcv3:aY (aJ (hot X.O ρ s1.own) w ρ) caps cvals:=hcv2.imp (fun x v _ hx=>aN (fun b _ hb=>g2 b hb) (aW.refl _ _) (fun _ _=>rfl) hx);have hvals:=(g3.append hcv3).map_left (R':=aJ (hot X.O ρ s1.own) w (cl ρ l)) (f:=LV.ren l) (fun x v hx=>xt hx);obtain⟨hlen,hlend⟩:=qW hos;have hnd:=fy hdist;have hblk:∀p∈af ioB os,∃x o,l[p.1-ioB]? =some x/\ioB<=p.1/\c8 s1.own l x=some o/\o=p.2/\cl ρ l p.1=hdr ρ x:=by
  intro p hp;obtain⟨h1,h2⟩:=dN.1 hp;have h3:=(Oh.1 h2).1;have h4:p.1-ioB<l.length:=by omega
  refine⟨l[p.1-ioB],p.2,AI h4,h1,hlend _ _ _ (AI h4) h2,rfl,?_⟩;exact cF h1 (AI h4)
 have hlent_own:∀{x:bV} {o:aB},c8 s1.own l x=some o->∃q,(x.1,q)∈s1.own:=by
  intro x o hx;obtain⟨id,q⟩:=x;cases q with
  |none=>
   (simp only[c8] at hx;split at hx;·rename_i o' ho';exact⟨o',get?_mem ho'⟩);·cases hx
  |some p=>
   (obtain⟨wd,i⟩:=p;simp only[c8] at hx;split at hx;·rename_i t T xs ho';exact⟨_,get?_mem ho'⟩);·cases hx
 have hlb:∀b,bj (cl ρ l) os b->∃(x:bV) (q:aB),(x.1,q)∈s1.own/\x∈l/\Blk (ρ x.1) b:=by
  rintro b ⟨p,hp,hb⟩;obtain⟨x,o',h1,h2,h3,h4,h5⟩:=hblk p hp;obtain⟨q,hq⟩:=hlent_own h3;rw[h5] at hb;exact⟨x,q,hq,O9 h1,vT hb⟩
 have hlb_hot:∀b,bj (cl ρ l) os b->hot X.O ρ s1.own b:=fun b hb=>by
  obtain⟨x,q,h1,_,h2⟩:=hlb b hb;exact db h1 h2
 have hlb_M:∀b,bj (cl ρ l) os b->X.M b:=fun b hb=>by
  obtain⟨x,q,h1,_,h2⟩:=hlb b hb;exact((g1.own _ h1).lt h2).1
 have hot_lt:∀b,hot X.O ρ s1.own b->b<w.heap.size:=fun b hb=>g1.hot_lt h.others h.below hb;have hlb_B:∀b,bj (cl ρ l) os b->X.T.base.n<=b:=fun b hb=>(hlb_M b hb).elim (fun h1=>Og h.small.on.1 h1) (fun h1=>h.small.io b h1);let O':Nat->Prop:=fun b=>hot X.O ρ s1.own b/\ ¬bj (cl ρ l) os b;have hOsub:∀b,hot O' (cl ρ l) (af ioB os) b->hot X.O ρ s1.own b:=by
  rintro b (hb|⟨p,hp,hb⟩);·exact hb.1
  ·exact hlb_hot b ⟨p,hp,hb⟩
 have hOsup:∀b,hot X.O ρ s1.own b->hot O' (cl ρ l) (af ioB os) b:=by
  intro b hb;by_cases hlbb:bj (cl ρ l) os b;·exact .inr hlbb
  ·exact .inl ⟨hb,hlbb⟩
 have hownok:∀p∈af ioB os,bW (hot O' (cl ρ l) (af ioB os)) w (cl ρ l) (bj (cl ρ l) os) p:=by
  intro p hp;obtain⟨x,o',h1,h2,h3,h4,h5⟩:=hblk p hp;subst h4;refine zF g1.own h3 h2 h1 (fun b _ hb=>hOsub b hb) (fun b hb=>⟨p,hp,?_⟩);rw[h5];obtain⟨id,q⟩:=x;cases q with
  |none=>exact hb
  |some pr=>
   obtain⟨wd,i⟩:=pr;simp only[hdr];simp only at hb;cases hv:ρ id with
   |slice ad n c=>cases ad with
    |none=>rw[hv] at hb;simp[Blk] at hb
    |some ad=>rw[hv] at hb;simpa [Blk] using hb
   |_=>
    (simp only[c8] at h3;split at h3;·rename_i t T xs hgx;obtain⟨_,_,_,h6⟩:=g1.own _ (get?_mem hgx);rcases h6 with⟨h6,_⟩|⟨_,_,_,h6,_⟩<;> · have h7:ρ id=_:=h6;rw[hv] at h7;cases h7);·cases h3
 have hapio:mX (cl ρ l) (af ioB os):=by
  have hap:=gP (fun i j=>i≠j/\∀b,Blk (cl ρ l i) b-> ¬Blk (cl ρ l j) b) os ioB (fun i j h1 h2 h3=>by
   refine⟨by omega,fun b hb hjb=>?_⟩;obtain⟨ni,hni⟩:∃n,i-ioB=n:=⟨_,rfl⟩;obtain⟨nj,hnj⟩:∃n,j-ioB=n:=⟨_,rfl⟩;(have hi:ni<l.length:=by omega);(have hj:nj<l.length:=by omega);have ei:=jQ hlend hlen hi;have ej:=jQ hlend hlen hj;obtain⟨qi,hqi⟩:=hlent_own ei.2;obtain⟨qj,hqj⟩:=hlent_own ej.2;rw[cF (ρ:=ρ) (l:=l) (x:=l[ni]) h1 (by rw[hni];exact AI hi)] at hb;rw[cF (ρ:=ρ) (l:=l) (x:=l[nj]) (by omega) (by rw[hnj];exact AI hj)] at hjb;have hne:(l[ni]).1≠(l[nj]).1:=by
    intro e;(have e1:(l.map Prod.fst)[ni]'(by simpa using hi)=(l.map Prod.fst)[nj]'(by simpa using hj):=by simpa using e);have:=(T9 hnd).1 e1;omega
   exact g1.two (p:=((l[ni]).1,qi)) (q:=((l[nj]).1,qj)) hqi hqj hne (vT hb) (vT hjb))
  exact hap
 have hc1:C1:=by
  split at he
  ·(split at he;·cases he;exact hCC.1);·cases he
  ·(split at he;·cases he;exact hCC.1);·cases he
 have hc2:C2:=by
  split at he
  ·(split at he;·cases he;exact hCC.2);·cases he
  ·(split at he;·cases he;exact hCC.2);·cases he
 have hv:=hC.at hcon;rw[hfr] at hv;have hv:=hv _ os C1 rs os' hrs hc1 O' w ((args.map a.eval)++cvals).toArray (cl ρ l) h.on hlb_B (fun b hb=>hot_lt b hb.1) (fun b hb=>hb.2) (hvals.imp (fun x v _ hx=>aN (fun b _ hb=>hOsub b hb) (aW.refl _ _) (fun _ _=>rfl) hx)) hownok hapio;have hexec:(execOp a.eval o).run X.P w= .ok (.enter g ((args.map a.eval)++cvals).toArray) w:=by
  unfold execOp;rw[hop];have hn:¬fn.name= "runtime.NumGoroutine":=by simpa using hname
  have hbn:¬fn.body=none:=by intro e;rw[e] at hbody;cases hbody
  simp[resolve,hcv1,Deferred.ofValue,invoke,callFunc,hfn,hn,hbn]
 refine pb hexec (hv.mono ?_);rintro e w' ⟨rvs,ρ1,rfl,hlen',hb,hρ1,hr,hap,hio,hap1,hdis⟩;refine⟨_,rfl,?_⟩;have hko:KeepsOthers w w':=KeepsOthers.of_bel hb (fun b hlt hm=>by
  rcases hm with hm|⟨p,hp,hpb⟩;·omega
  ·exact(hownok p hp).cells hpb)
 have hexk:∀k x,fr.contains k=true->l[k]? =some x->∃id,l[k]? =some (id,none)/\X.T.mayMove id=true:=by
  intro k x hk hx;have:=Ob.1 hex k (by simpa using hk);split at this;·rename_i id he';exact⟨id,he',this⟩
  ·rename_i he';rw[hx] at he';cases he'
  ·cases this
 have hexm:∀{fr:List Nat} {id:Nat},id∈kq l fr->∃k x,fr.contains k=true/\l[k]? =some x/\x.1=id:=by
  intro fr;induction fr with
  |nil=>intro id h;simp[kq] at h
  |cons k fr ih=>
   intro id h;simp only[kq] at h;split at h
   ·(rename_i id' o' hk;rcases IS.1 h with rfl|h;·exact⟨k,_,by simp,hk,rfl⟩);·obtain⟨k',x,h1,h2,h3⟩:=ih h;exact⟨k',x,by simp only[Q1,h1,SO],h2,h3⟩
   ·obtain⟨k',x,h1,h2,h3⟩:=ih h;exact⟨k',x,by simp only[Q1,h1,SO],h2,h3⟩
 have hmex:∀{fr:List Nat} {k:Nat} {x:bV},fr.contains k=true->l[k]? =some x->x.1∈kq l fr:=by
  intro fr;induction fr with
  |nil=>intro k x h;simp at h
  |cons k0 fr ih=>
   intro k x h hx;simp only[Q1,OT,beq_iff_eq] at h;simp only[kq];rcases h with rfl|h;·rw[hx];simp
   ·(split;·exact OF _ (ih h hx));·exact ih h hx
 have huniq:∀{i j:Nat} {x y:bV},l[i]? =some x->l[j]? =some y->x.1=y.1->i=j:=by
  intro i j x y hi hj e;obtain⟨hi1,rfl⟩:=Oh.1 hi;obtain⟨hj1,rfl⟩:=Oh.1 hj;have e1:(l.map Prod.fst)[i]'(by simpa using hi1)=(l.map Prod.fst)[j]'(by simpa using hj1):=by simpa using e
  exact(T9 hnd).1 e1
 obtain⟨ex,hexd⟩:∃ex,kq l fr=ex:=⟨_,rfl⟩;rw[hexd] at hown' he;obtain⟨ρ2,hρ2a,hρ2b⟩:∃ ρ2:Nat->Value,(∀i,i∉ex->ρ2 i=ρ i)/\∀j id,fr.contains j=true->l[j]? =some (id,none)->ρ2 id=ρ1 (ioB+j):=by
  refine⟨fun i=>if i∈ex then (match fh l ioB (i,none) with|some k=>ρ1 k|none=>ρ i) else ρ i,fun i hi=>by simp[hi],fun j id hj hid=>?_⟩;have hin:id∈ex:=by rw[<- hexd];exact hmex hj hid
  have hat:fh l ioB (id,none)=some (ioB+j):=by
   have key:∀(m:List bV) (b j:Nat),(∀i y,m[i]? =some y->y.1=id->i=j)->m[j]? =some (id,none)->fh m b (id,none)=some (b+j):=by
    intro m;induction m with
    |nil=>intro b j _ h;simp at h
    |cons y m ih=>
     intro b j hu hj;simp only[fh];by_cases e:y=(id,none);·rw[if_pos e];have:=hu 0 y rfl (by rw[e]);rw[<- this];rfl
     ·rw[if_neg e];cases j with
      |zero=>simp at hj;exact absurd hj e
      |succ j=>
       rw[ih (b+1) j (fun i z hi hz=>by have:=hu (i+1) z (by simpa using hi) hz;omega) (by simpa using hj)];congr 1;omega
   exact key l ioB j (fun i y hi hy=>huniq hi hid hy) hid
  simp[hin,hat]
 have hnotex:∀{j:Nat} {x:bV},l[j]? =some x->fr.contains j=false->x.1∉ex:=by
  intro j x hj hf he';rw[<- hexd] at he';obtain⟨k,y,h1,h2,h3⟩:=hexm he';have:=huniq h2 hj h3;subst this;rw[h1] at hf;cases hf
 have hhdr:∀{x:bV},x.1∉ex->hdr ρ2 x=hdr ρ x:=by
  intro x hx;obtain⟨id,q⟩:=x;cases q with
  |none=>exact hρ2a id hx
  |some p=>simp only[hdr,hρ2a id hx]
 have hA:∀(j:Nat) (x:bV),l[j]? =some x->hdr ρ2 x=ρ1 (ioB+j):=by
  intro j x hj;cases hf:fr.contains j with
  |true=>
   obtain⟨id,h1,_⟩:=hexk j x hf hj;rw[hj] at h1;cases h1;exact hρ2b j id hf hj
  |false=>
   rw[hhdr (hnotex hj hf),hρ1 (ioB+j) (by rintro⟨_,_,h2⟩;rw[PZ] at h2;rw[h2] at hf;cases hf)];exact(cF (by omega) (by rw[PZ];exact hj)).symm
 have hρe:ρ1=cl ρ2 l:=by
  funext k;by_cases hk:ioB<=k
  ·cases hx:l[k-ioB]? with
   |none=>
    have h0:=R2.1 hx;rw[hρ1 k (by rintro⟨_,h2,_⟩;omega)];simp only[cl,if_pos hk,hx]
   |some x=>
    have:=hA _ x hx;rw[show ioB+(k-ioB)=k by omega] at this;rw[cF hk hx,this]
  ·rw[hρ1 k (fun h=>hk h.1)];simp only[cl,if_neg hk]
 subst hρe;have hnd1:(s1.own.map Prod.fst).Nodup:=by
  have:=g1.apart.imp (S:=fun p q:Nat×aB=>p.1≠q.1) (fun hpq=>hpq.1);exact Si.2 this
 have hforget:∃s2:aa,s1.forget ex=s2/\s2.own.map Prod.fst=s1.own.map Prod.fst/\(∀e∈s2.env,∃v,(e.1,v)∈s1.env/\e.2=v.map (LV.forget ex))/\∀p∈s2.own,∃u,(p.1,u)∈s1.own/\p.2=u.map (LV.forget ex):=by
  have hfst:∀(f:LV->LV) (m:List (Nat×aB)),(bg f m).map Prod.fst=m.map Prod.fst:=by
   intro f m;induction m with
   |nil=>rfl
   |cons p m ih=>obtain⟨k,v⟩:=p;simp only[bg,O6,ih]
  cases hx:ex with
  |nil=>
   (have hid:LV.forget ([]:List Nat)=_root_.id:=by funext x;simp[LV.forget]);refine⟨s1,rfl,rfl,fun e he=>⟨e.2,he,?_⟩,fun p hp=>⟨p.2,hp,?_⟩⟩;·rw[hid];cases e.2<;>simp[AV.map]
   ·rw[hid];cases p.2<;>simp[aB.map]
  |cons i r=>
   exact⟨_,rfl,hfst _ _,fun e he=>gh he,fun p hp=>a8 hp⟩
 obtain⟨s2,hs2,hs2f,hs2e,hs2o⟩:=hforget;rw[hs2] at hown' he;obtain⟨hfst,hmem⟩:=qX hown' hc2 (by rw[hs2f];exact hnd1) hnd;rw[hs2f] at hfst;have hnewR:∀b,cK (fun _=>False) rs rvs b->w.heap.size<=b∨bj (cl ρ l) os b:=fun b hb=>oh rs rvs hr hb;have hwin:∀{x:bV} {o:aB} {b:Nat},c8 s1.own l x=some o->x.2.isSome=true->Blk (ρ x.1) b->Blk (hdr ρ x) b:=by
  intro x o b hx hs hb;obtain⟨id,q⟩:=x;cases q with
  |none=>cases hs
  |some pr=>
   obtain⟨wd,i⟩:=pr;simp only[hdr];simp only at hb;cases hv:ρ id with
   |slice ad n c=>cases ad with
    |none=>rw[hv] at hb;simp[Blk] at hb
    |some ad=>rw[hv] at hb;simpa [Blk] using hb
   |_=>
    (simp only[c8] at hx;split at hx;·rename_i t T xs hgx;obtain⟨_,_,_,h6⟩:=g1.own _ (get?_mem hgx);rcases h6 with⟨h6,_⟩|⟨_,_,_,h6,_⟩<;> · have h7:ρ id=_:=h6;rw[hv] at h7;cases h7);·cases hx
 have hlentB:∀{j:Nat} {x:bV} {b:Nat},l[j]? =some x->Blk (ρ2 x.1) b->Blk (cl ρ2 l (ioB+j)) b:=by
  intro j x b hj hb;rw[<- hA j x hj];have hjl:=(Oh.1 hj).1;have hx:=jQ hlend hlen hjl;have ex':l[j]=x:=(Oh.1 hj).2;rw[ex'] at hx;obtain⟨id,q⟩:=x;cases q with
  |none=>exact hb
  |some p=>
   have hne:id∉ex:=hnotex hj (by
    cases h:fr.contains j with
    |false=>rfl
    |true=>obtain⟨_,h1,_⟩:=hexk j _ h hj;rw[hj] at h1;cases h1)
   rw[hhdr hne];rw[hρ2a id hne] at hb;exact hwin hx.2 rfl hb
 have hosj:∀{j:Nat} {x:bV},l[j]? =some x->∃o,(ioB+j,o)∈af ioB os':=by
  intro j x hj;have hjl:=(Oh.1 hj).1;exact⟨os'[j]'(by omega),dN.2 ⟨by simp,by simp⟩⟩
 have hlentB':∀{j:Nat} {x:bV} {b:Nat},l[j]? =some x->Blk (ρ2 x.1) b->bj (cl ρ2 l) os' b:=by
  intro j x b hj hb;obtain⟨o,ho⟩:=hosj hj;exact⟨_,ho,hlentB hj hb⟩
 have hlentM:∀{b:Nat},bj (cl ρ2 l) os' b->(w.heap.size<=b∨bj (cl ρ l) os b)/\b<w'.heap.size:=by
  rintro b ⟨p,hp,hpb⟩;exact(hio p hp).lt hpb
 have hcase:∀k,k∈s1.own.map Prod.fst->(∃(j:Nat) (x:bV),l[j]? =some x/\x.1=k)∨(k∉l.map Prod.fst/\k∉ex):=by
  intro k _;by_cases hk:k∈l.map Prod.fst;·obtain⟨x,hx,e⟩:=Ot.1 hk;obtain⟨j,hj,rfl⟩:=List.mem_iff_getElem.1 hx;exact .inl ⟨j,_,AI hj,e⟩
  ·refine .inr ⟨hk,fun he'=>hk ?_⟩;rw[<- hexd] at he';obtain⟨j,x,_,h2,h3⟩:=hexm he';exact Ot.2 ⟨x,O9 h2,h3⟩
 have hfree:∀{p:Nat×aB} {b:Nat},p∈s1.own->p.1∉l.map Prod.fst->Blk (ρ p.1) b-> ¬bj (cl ρ l) os b:=by
  intro p b hp hpl hb h3;obtain⟨x,q,hq1,hq2,hq3⟩:=hlb b h3;exact g1.two (p:=p) (q:=(x.1,q)) hp hq1 (fun e=>hpl (by rw[e];exact Ot.2 ⟨x,hq2,rfl⟩)) hb hq3
 have hownkey:∀p∈own',∃q,(p.1,q)∈s1.own:=by
  intro p hp;have:p.1∈s1.own.map Prod.fst:=by rw[<- hfst];exact Ot.2 ⟨p,hp,rfl⟩
  obtain⟨q,hq,e⟩:=Ot.1 this;exact⟨q.2,by rw[<- e];exact hq⟩
 have hHsub:∀b,b<w'.heap.size->hot (fun b=>X.O b∨cK (fun _=>False) rs rvs b) ρ2 own' b->cK (hot O' (cl ρ2 l) (af ioB os')) rs rvs b:=by
  intro b _ hb;rw[eH];rcases hb with(hb|hb)|⟨p,hp,hpb⟩;·exact .inl (.inl ⟨.inl hb,fun hl=>h.others b hb (hlb_M b hl)⟩)
  ·exact .inr hb
  ·(obtain⟨q,hq⟩:=hownkey p hp;rcases hcase p.1 (Ot.2 ⟨_,hq,rfl⟩) with⟨j,x,hj,e⟩|⟨h1,h2⟩;·rw[<- e] at hpb;exact .inl (.inr (hlentB' hj hpb)));·rw[hρ2a _ h2] at hpb;exact .inl (.inl ⟨db hq hpb,hfree hq h1 hpb⟩)
 have hsubw:∀b,b<w.heap.size->hot (fun b=>X.O b∨cK (fun _=>False) rs rvs b) ρ2 own' b->hot X.O ρ s1.own b:=by
  intro b hbw hb;rcases hb with(hb|hb)|⟨p,hp,hpb⟩;·exact .inl hb
  ·exact(hnewR b hb).elim (fun h1=>by omega) (hlb_hot b)
  ·obtain⟨q,hq⟩:=hownkey p hp;rcases hcase p.1 (Ot.2 ⟨_,hq,rfl⟩) with⟨j,x,hj,e⟩|⟨h1,h2⟩
   ·(rw[<- e] at hpb;rcases (hlentM (hlentB' hj hpb)).1 with h3|h3;·omega);·exact hlb_hot b h3
   ·rw[hρ2a _ h2] at hpb;exact db hq hpb
 have hstay:aW (hot X.O ρ s1.own) w w':=fun b hnb hlt=>hb.block b (cg hlt) (fun hm=>hm.elim (fun h1=>by have:=cg hlt;omega) (fun h1=>hnb (hlb_hot b h1)));have hrepf:∀x v,aJ (hot X.O ρ s1.own) w ρ x v->aJ (hot (fun b=>X.O b∨cK (fun _=>False) rs rvs b) ρ2 own') w' ρ2 (LV.forget ex x) v:=by
  intro x v hx;unfold LV.forget;split;·trivial
  ·rename_i hno;refine aN hsubw hstay (fun i hi=>hρ2a i (fun he'=>hno ?_)) hx;exact Tc.2 ⟨i,he',hi⟩
 have hMx:∀b,(w.heap.size<=b∨bj (cl ρ l) os b)->X.M b:=fun b hm=>hm.elim (fun h1=> .inl (Og h.below.size h1)) (hlb_M b);have hfit:Fits {X with O:=fun b=>X.O b∨cK (fun _=>False) rs rvs b} {s2 with own:=own'} a w' ρ2:=by
  refine⟨fun e he=>?_,fun p hp=>?_,fun p hp hB hF=>?_,?_⟩;·obtain⟨v,h1,h2⟩:=hs2e e he;rw[h2];exact eF hrepf (g1.env _ h1)
  ·rcases hmem p hp with⟨h1,h2⟩|⟨j,x,o1,o2,C',h1,h2,h3,h4,rfl⟩
   ·obtain⟨u,hu,e⟩:=hs2o p h1;have hpe:p.1∉ex:=fun he'=>by
     rw[<- hexd] at he';obtain⟨j,x,_,q2,q3⟩:=hexm he';exact h2 (Ot.2 ⟨x,O9 q2,q3⟩)
    have:=(g1.own _ hu).move (f:=LV.forget ex) (ρ':=ρ2) hsubw hstay hrepf (hρ2a _ hpe) (fun b hb1=>hb.block b ((g1.own _ hu).lt hb1).2 (fun hm=>hm.elim (fun h3=>by have:=((g1.own _ hu).lt hb1).2;omega) (hfree hu h2 hb1)));rw[<- e] at this;exact this
   ·have hj:=(Oh.1 h1).1;have hx:=jQ hlend hlen hj;(have ex':l[j]=x:=by have:=(Oh.1 h1).2;exact this);rw[ex'] at hx;(have hk:(ioB+j)-ioB=j:=by omega);have hio1:=hio (ioB+j,o1) (dN.2 ⟨by simp,by simpa [hk] using h2⟩);refine zG g1.own hx.2 h3 h4 (k:=ioB+j) (by omega) (by rw[hk];exact h1) (fun hs=>hρ2a _ (hnotex h1 ?_)) hMx hHsub hio1;cases hf:fr.contains j with
    |false=>rfl
    |true=>obtain⟨_,q1,_⟩:=hexk j _ hf h1;rw[h1] at q1;cases q1;cases hs
  ·obtain⟨q,hq⟩:=hownkey p hp;have hpe:p.1∉ex:=fun he'=>by
    (rw[<- hexd] at he';obtain⟨j,x,q1,q2,q3⟩:=hexm he';obtain⟨id,q4,q5⟩:=hexk j _ q1 q2;rw[q2] at q4;cases q4;simp only at q3;subst q3;simp only[Tab.mayMove,OT,decide_eq_true_eq] at q5;rcases q5 with q5|q5;·omega);·rw[hF] at q5;cases q5
   rw[hρ2a _ hpe];exact g1.io (p.1,q) hq hB hF
  ·have hpw:own'.Pairwise fun p q=>p.1≠q.1:=by
    (have:(own'.map Prod.fst).Nodup:=by rw[hfst];exact hnd1);exact Si.1 this
   (refine hpw.imp_of_mem fun {p q} hp hq hne=>⟨hne,fun b hpb hqb=>?_⟩;obtain⟨u,hu⟩:=hownkey p hp;obtain⟨v,hv'⟩:=hownkey q hq;rcases hcase p.1 (Ot.2 ⟨_,hu,rfl⟩) with⟨j,x,hj,e⟩|⟨h1,h2⟩<;>rcases hcase q.1 (Ot.2 ⟨_,hv',rfl⟩) with⟨j',x',hj',e'⟩|⟨h1',h2'⟩);·rw[<- e] at hpb;rw[<- e'] at hqb;(have hjj:j≠j':=fun ej=>by subst ej;rw[hj] at hj';cases hj';exact hne (e.symm.trans e'));obtain⟨o1,ho1⟩:=hosj hj;obtain⟨o2,ho2⟩:=hosj hj';exact DV hap1 ho1 ho2 (by simp only;omega) (hlentB hj hpb) (hlentB hj' hqb)
   ·(rw[<- e] at hpb;rw[hρ2a _ h2'] at hqb;rcases (hlentM (hlentB' hj hpb)).1 with h3|h3;·have:=((g1.own _ hv').lt hqb).2;omega);·exact hfree hv' h1' hqb h3
   ·(rw[hρ2a _ h2] at hpb;rw[<- e'] at hqb;rcases (hlentM (hlentB' hj' hqb)).1 with h3|h3;·have:=((g1.own _ hu).lt hpb).2;omega);·exact hfree hu h1 hpb h3
   ·rw[hρ2a _ h2] at hpb;rw[hρ2a _ h2'] at hqb;exact g1.two (p:=(p.1,u)) (q:=(q.1,v)) hu hv' hne hpb hqb
 have hbel:Bel X.M X.w0 w':=h.below.trans hb (fun j hj hm=>by
  rcases hm with hm|hm;·have:=h.below.size;omega
  ·exact hlb_M j hm)
 have hRdis:∀b,hot X.O ρ2 own' b-> ¬cK (fun _=>False) rs rvs b:=by
  rintro b (hb1|⟨p,hp,hpb⟩) hbr
  ·(rcases hnewR b hbr with h1|h1;·have:=hot_lt b (.inl hb1);omega);·exact h.others b hb1 (hlb_M b h1)
  ·obtain⟨q,hq⟩:=hownkey p hp;rcases hcase p.1 (Ot.2 ⟨_,hq,rfl⟩) with⟨j,x,hj,e⟩|⟨h1,h2⟩;·rw[<- e] at hpb;exact hdis b (hlentB' hj hpb) hbr
   ·(rw[hρ2a _ h2] at hpb;rcases hnewR b hbr with h3|h3;·have:=hot_lt b (db hq hpb);omega);·exact hfree hq h1 hpb h3
 split at he
 ·rename_i d;split at he
  ·(rename_i hidB;cases he;refine hK _ _ ?_;rw[hd];refine zD h hko hbel hfit (B:=fun b=>w.heap.size<=b∨bj (cl ρ l) os b) hRdis hMx (hdN d rfl) hidB (hr.imp fun r v _ hrv=>xq (fun b hb hh=>?_) hrv) hap;refine hHsub b hb ?_;rw[eH] at hh;rcases hh with(hh|hh)|hh;·exact .inl (.inl hh));·exact .inr hh
   ·exact .inl (.inr hh)
  ·cases he
 ·split at he
  ·cases he;refine hK _ _ ?_;rw[hd];refine h.next0 (ρ:=ρ2) hko hbel ?_;have e:({X with O:=fun b=>X.O b∨cK (fun _=>False) [] rvs b}:Cx)=X:=by
    have:(fun b=>X.O b∨cK (fun _=>False) [] rvs b)=X.O:=by
     funext b;simp[cK]
    rw[this]
   rw[e] at hfit;exact hfit
  ·cases he
theorem qZ{X:Cx}{s:aa}{a:Act}{w:World}{ρ:Nat->Value}(h:Fits X s a w ρ){ops:List Oper}{o:Oper}{j:Nat}{want φ:Bool}(hg:o.guard=some (j,want))(he:guardOf ops s j want=some φ):Region.wanted o (yielded ops.toArray a.tmps)=φ:=by
 have hw:Region.wanted o (yielded ops.toArray a.tmps)=(yielded ops.toArray a.tmps j==some want):=by simp[Region.wanted,hg]
 rw[hw];unfold guardOf at he;split at he
 ·rename_i oj hoj;split at he
  ·rename_i t ht;have hy:yielded ops.toArray a.tmps j=match a.tmps[t]? with
     |some (.bool b)=>some b
     |_=>none:=by
    simp only[yielded,Tx,hoj,Option.bind_some,ht];rfl
   (have hget:a.tmps.getD t undef=(a.tmps[t]?).getD undef:=by simp);split at he
   ·rename_i b hb;cases he;have hr:=h.env _ (get?_mem hb);have hv:=cO (ρ:=ρ) hr;simp only at hv;rw[hget] at hv;cases ht2:a.tmps[t]? with
    |none=>rw[ht2] at hv;simp[undef] at hv
    |some u=>
     rw[ht2] at hv;simp at hv;subst hv;rw[hy,ht2];cases want<;>cases b<;>rfl
   ·rename_i ψ b hb;cases he;have hr:=h.env _ (get?_mem hb);cases hψ:ψ with
    |true=>
     have hv:=cO (ρ:=ρ) (hr.1 hψ);simp only at hv;rw[hget] at hv;cases ht2:a.tmps[t]? with
     |none=>rw[ht2] at hv;simp[undef] at hv
     |some u=>
      rw[ht2] at hv;simp at hv;subst hv;rw[hy,ht2];cases want<;>cases b<;>rfl
    |false=>
     have hv:=hr.2 hψ;simp only at hv;rw[hget] at hv;cases ht2:a.tmps[t]? with
     |none=>rw[hy,ht2];simp
     |some u=>
      rw[ht2] at hv;simp at hv;subst hv;rw[hy,ht2];simp[undef]
   ·cases he
  ·cases he
 ·cases he
theorem FK{H:Nat->Prop}{w:World}{ρ:Nat->Value}{v:AV}{u:Value}(hg:∀ ψ x,v= .g ψ x->ψ=true)(hgt:∀ ψ x,v= .gt ψ x->ψ=true)(h:fL H w ρ v u):fL H w ρ v.plain u:=by
 cases v with
 |l x=>exact h
 |agg cs=>exact h
 |tup xs=>exact h
 |g ψ x=>exact h.1 (hg _ _ rfl)
 |gt ψ x=>exact h.1 (hgt _ _ rfl)
theorem jy{env:List (Nat×AV)}:∀{ts:List Nat},asks env ts->∀t∈ts,∀ ψ x,get? env t=some (.g ψ x)->ψ=true
 |t::ts,h,u,hu,ψ,x,hg=>by
  simp only[asks] at h;rcases IS.1 hu with rfl|hu;·rw[hg] at h;exact h.1
  ·(split at h;·exact jy h.2 u hu ψ x hg);·exact jy h.2 u hu ψ x hg
   ·exact jy h u hu ψ x hg
theorem jR{env:List (Nat×AV)}:∀{ts:List Nat},asks env ts->∀t∈ts,∀ ψ x,get? env t=some (.gt ψ x)->ψ=true
 |t::ts,h,u,hu,ψ,x,hg=>by
  simp only[asks] at h;rcases IS.1 hu with rfl|hu;·rw[hg] at h;exact h.1
  ·(split at h;·exact jR h.2 u hu ψ x hg);·exact jR h.2 u hu ψ x hg
   ·exact jR h u hu ψ x hg
theorem Fits.sub{X:Cx}{s:aa}{a:Act}{w:World}{ρ:Nat->Value}(h:Fits X s a w ρ){ts:List Nat}(hk:asks s.env ts):Fits X {s with env:=cw s.env ts} a w ρ:=by
 refine⟨fun e he=>?_,h.own,h.io,h.apart⟩;have key:∀(l:List Nat),(∀t∈l,t∈ts)->∀e∈cw s.env l,∃v,e.1∈ts/\get? s.env e.1=some v/\e.2=v.plain:=by
  intro l;induction l with
  |nil=>intro _ e he;simp[cw] at he
  |cons t l ih=>
   intro hl e he;simp only[cw] at he;split at he
   ·(rename_i v hv;rcases IS.1 he with rfl|he;·exact⟨v,hl _ (by simp),hv,rfl⟩);·exact ih (fun t ht=>hl t (by simp[ht])) e he
   ·exact ih (fun t ht=>hl t (by simp[ht])) e he
 obtain⟨v,h1,h2,h3⟩:=key ts (fun _ h=>h) e he;rw[h3];refine FK (fun ψ x hv=>jy hk _ h1 ψ x (by rw[h2,hv])) (fun ψ x hv=>jR hk _ h1 ψ x (by rw[h2,hv])) (h.env _ (get?_mem h2))
theorem Bo{X:Cx}{s:aa}{a:Act}{w:World}{ρ:Nat->Value}(h:Fits X s a w ρ){c x y:Operand}{C:Prop}{v:LV}(he:ji s c x y=some (C,v))(hk:asks s.env (tmpsOf [c]))(hC:C){o:Oper}(hop:o.op= .pick c x y):
  ∃val,(execOp a.eval o).run X.P w= .ok (.value val) w/\aJ (hot X.O ρ s.own) w ρ v val:=by
 unfold ji at he;split at he
 ·rename_i b hb;have hcv:a.eval c= .bool b:=by
   cases c with
   |tmp t=>
    cases hg:get? s.env t with
    |none=>simp[aP,hg,eR] at hb
    |some u=>
     have hr:=h.env _ (get?_mem hg);cases u with
     |l x=>simp[aP,hg,eR] at hb;subst hb;exact cO (ρ:=ρ) hr
     |g ψ x=>
      simp[aP,hg,eR] at hb;subst hb;have hψ:ψ=true:=jy hk t (by simp[tmpsOf]) ψ _ hg;exact cO (ρ:=ρ) (hr.1 hψ)
     |agg cs=>simp[aP,hg,eR] at hb
     |tup xs=>simp[aP,hg,eR] at hb
     |gt ψ xs=>simp[aP,hg,eR] at hb
   |const u=>
    simp[aP,eR] at hb;have:=qI (H:=hot X.O ρ s.own) (w:=w) (ρ:=ρ) u;rw[hb] at this;exact cO (ρ:=ρ) this
   |global g=>simp[aP,eR] at hb
   |func f=>simp[aP,eR] at hb
  have hexec:(execOp a.eval o).run X.P w= .ok (.value (if b then a.eval x else a.eval y)) w:=by
   unfold execOp;rw[hop];simp[hcv,asBool]
  split at he
  ·split at he
   ·(rename_i u hu;cases he;have hy:=cO (H:=hot X.O ρ s.own) (w:=w) (ρ:=ρ) (bJ h hu);refine⟨_,hexec,?_⟩;cases b;·simp[hy];exact bQ);·simp[Act.eval];exact bQ
   ·(rename_i ψ u hu;cases he;have hr:=bJ h hu;refine⟨_,hexec,?_⟩;cases b;·have hy:=cO (H:=hot X.O ρ s.own) (w:=w) (ρ:=ρ) (hr.1 (hC rfl));simp[hy];exact bQ);·simp[Act.eval];exact bQ
   ·cases he
  ·split at he
   ·(rename_i u hu;cases he;have hy:=cO (H:=hot X.O ρ s.own) (w:=w) (ρ:=ρ) (bJ h hu);refine⟨_,hexec,?_⟩;cases b;·simp[Act.eval];exact bQ);·simp[hy];exact bQ
   ·(rename_i ψ u hu;cases he;have hr:=bJ h hu;refine⟨_,hexec,?_⟩;cases b;·simp[Act.eval];exact bQ);·have hy:=cO (H:=hot X.O ρ s.own) (w:=w) (ρ:=ρ) (hr.1 (hC rfl));simp[hy];exact bQ
   ·cases he
  ·cases he
 ·cases he
theorem xv{X:Cx}(hT:cT X.P X.T)(hΓ:eX X.P X.T){s s':aa}{a:Act}{w:World}(h:St X s a w){o:Oper}{d:Option Nat}(hd:o.dst=d)(hdN:∀n,d=some n->X.T.ok n=true){C:Prop}(he:effOp X.T s d o.op=some (C,s'))(hC:C)
  {K:Act->World->Prop} {Q:Exit->Act->World->Prop} (hK:∀a' w',St X s' a' w'->K a' w'):o.wpIn (fw X.r) 2 X.P a w K Q:=by
 cases hop:o.op with
 |alloc e=>rw[hop] at he;cases d with
  |none=>simp[effOp] at he
  |some d=>exact xk hT h hop hd (hdN d rfl) he hK
 |box e x=>rw[hop] at he;cases d with
  |none=>simp[effOp] at he
  |some d=>exact DR h hop hd (hdN d rfl) he hK
 |build e ps=>rw[hop] at he;cases d with
  |none=>simp[effOp] at he
  |some d=>exact xl hT h hop hd (hdN d rfl) he hK
 |buildSlice e n ps=>rw[hop] at he;cases d with
  |none=>simp[effOp] at he
  |some d=>exact oc hT h hop hd (hdN d rfl) he hK
 |makeSlice e l c=>rw[hop] at he;cases d with
  |none=>simp[effOp] at he
  |some d=>exact pU hT h hop hd (hdN d rfl) he hC hK
 |slice ty x lo hi mx=>rw[hop] at he;cases d with
  |none=>simp[effOp] at he
  |some d=>exact xn hT h hop hd (hdN d rfl) he hC hK
 |store t x y=>rw[hop] at he;cases d with
  |none=>exact xm hT h hop hd he hC hK
  |some d=>simp[effOp] at he
 |convert src dst x=>rw[hop] at he;cases d with
  |none=>simp[effOp] at he
  |some d=>exact tH hT h hop hd (hdN d rfl) he hC hK
 |call c=>
  rw[hop] at he;simp only[effOp] at he;split at he
  ·rename_i hcal;cases d with
   |none=>simp[appendOp] at he
   |some d=>exact vS hT h hcal hop hd (hdN d rfl) he hC hK
  ·rename_i f hcal;exact qY hΓ h hcal hop hd hdN he hC hK
  ·cases he
 |_=>rw[hop] at he;simp[effOp] at he
theorem lF{t:Ty}{c:LV}{x:t.D}(h:c.get t=some x):c.ids=[]:=by
 cases c<;>first|rfl|simp[LV.get] at h
theorem ug{α:Type}{f:List LV->Option (α×List LV)}(hf:∀{l r:List LV} {x:α},f l=some (x,r)->∃p,l=p++r/\p.flatMap LV.ids=[]):∀(n:Nat) {l r:List LV} {xs:List α},iU f n l=some (xs,r)->∃p,l=p++r/\p.flatMap LV.ids=[]
 |0,l,r,xs,h=>by
  simp only[iU,PV,Prod.mk.injEq] at h;exact⟨[],by simp[h.2],rfl⟩
 |n+1,l,r,xs,h=>by
  simp only[iU] at h;split at h
  ·(rename_i y l1 h1;split at h;·rename_i z l2 h2;cases h;obtain⟨p1,e1,q1⟩:=hf h1;obtain⟨p2,e2,q2⟩:=ug hf n h2;exact⟨p1++p2,by rw[e1,e2,O4],by rw[TO,q1,q2];rfl⟩);·cases h
  ·cases h
theorem FL:∀(t:Ty) {l r:List LV} {x:t.D},t.join l=some (x,r)->∃p,l=p++r/\p.flatMap LV.ids=[]:=by
 intro t;induction t with
 |unit=>intro l r x h;simp[Ty.join] at h;exact⟨[],by simp[h],rfl⟩
 |pair a b iha ihb=>
  intro l r x h;simp only[Ty.join] at h;split at h
  ·(rename_i y l1 h1;split at h;·rename_i z l2 h2;cases h;obtain⟨p1,e1,q1⟩:=iha h1;obtain⟨p2,e2,q2⟩:=ihb h2;exact⟨p1++p2,by rw[e1,e2,O4],by rw[TO,q1,q2];rfl⟩);·cases h
  ·cases h
 |st t ih=>intro l r x h;exact ih h
 |arr n t ih=>intro l r x h;simp only[Ty.join] at h;exact ug (fun a=>ih a) n h
 |func=>intro l r x h;simp[Ty.join] at h
 |int k=>intro l r x h;cases l with
  |nil=>simp[Ty.join] at h
  |cons c l=>
   (simp only[Ty.join] at h;split at h;·rename_i y hy;cases h;exact⟨[c],rfl,by simp[lF hy]⟩);·cases h
 |bool=>intro l r x h;cases l with
  |nil=>simp[Ty.join] at h
  |cons c l=>
   (simp only[Ty.join] at h;split at h;·rename_i y hy;cases h;exact⟨[c],rfl,by simp[lF hy]⟩);·cases h
 |str=>intro l r x h;cases l with
  |nil=>simp[Ty.join] at h
  |cons c l=>
   (simp only[Ty.join] at h;split at h;·rename_i y hy;cases h;exact⟨[c],rfl,by simp[lF hy]⟩);·cases h
 |slice t=>intro l r x h;cases l with
  |nil=>simp[Ty.join] at h
  |cons c l=>
   (simp only[Ty.join] at h;split at h;·rename_i y hy;cases h;exact⟨[c],rfl,by simp[lF hy]⟩);·cases h
 |ptr t=>intro l r x h;cases l with
  |nil=>simp[Ty.join] at h
  |cons c l=>
   (simp only[Ty.join] at h;split at h;·rename_i y hy;cases h;exact⟨[c],rfl,by simp[lF hy]⟩);·cases h
 |opt t=>intro l r x h;cases l with
  |nil=>simp[Ty.join] at h
  |cons c l=>
   (simp only[Ty.join] at h;split at h;·rename_i y hy;cases h;exact⟨[c],rfl,by simp[lF hy]⟩);·cases h
theorem tI{T:Tab}{s:aa}{io:Bool}{t:TypeId}{x:Operand}{v:LV}(h:dV T s t x=some v):bO T io s t x=some (v,s):=by
 unfold dV at h;have fr:∀{u:AV},aP s x=some u->u.ids=[]->frozenAt s x=s:=by
  intro u hu hi;unfold frozenAt;rw[hu];simp only[hi,aa.freezeAll]
 split at h
 ·rename_i u hu;split at h
  ·rename_i hp;(obtain rfl:u=v:=by simpa using h);cases u with
   |z t y=>have:=fr hu rfl;unfold bO iW;rw[this,hu];cases io<;>rfl
   |val y=>have:=fr hu rfl;unfold bO iW;rw[this,hu];cases io<;>rfl
   |fn f caps=>have:=fr hu rfl;unfold bO iW;rw[this,hu];cases io<;>rfl
   |_=>simp[LV.plain] at hp
  ·cases h
 ·rename_i cs hu;split at h
  ·rename_i u ht;split at h
   ·rename_i a ha;cases h;have hi:(AV.agg cs).ids=[]:=by
     (simp only[AV.get] at ha;split at ha;·rename_i y hj;obtain⟨p,e,q⟩:=FL u hj;simp only[List.append_nil] at e;simpa [AV.ids,e] using q);·cases ha
    have:=fr hu hi;unfold bO iW;rw[this,hu];cases io<;>simp only[ht,ha]
   ·cases h
  ·cases h
 ·cases h
theorem q0{T:Tab}{s:aa}{t:TypeId}{x:Operand}{v:LV}(h:dV T s t x=some v):v.plain=true:=by
 unfold dV at h;split at h
 ·split at h;·rename_i hp;cases h;exact hp
  ·cases h
 ·split at h
  ·(split at h;·cases h;rfl);·cases h
  ·cases h
 ·cases h
theorem kF{T:Tab}{s:aa}{io:List Nat}:∀{xs:List Operand} {ts:List TypeId} {k:Nat} {vs:List LV},cj T s ts xs=some vs->dU T io k s ts xs=some (vs,s)/\vs.all LV.plain=true
 | [],ts,k,vs,h=>by cases ts<;>simp[cj] at h<;>subst h<;>exact⟨by simp[dU],rfl⟩
 |x::xs,[],k,vs,h=>by simp[cj] at h
 |x::xs,t::ts,k,vs,h=>by
  simp only[cj] at h;split at h;·rename_i v vs' h1 h2;cases h;obtain⟨g1,g2⟩:=kF (io:=io) (k:=k+1) h2;refine⟨?_,by simp[q0 h1,g2]⟩;simp only[dU,tI h1,g1]
  ·cases h
theorem xw{v:LV}(h:v.plain=true):v.lends=[]/\v.ren []=v:=by
 cases v with
 |z t x=>exact⟨rfl,rfl⟩
 |val u=>exact⟨rfl,rfl⟩
 |fn f caps=>
  have key:∀{cs:List CV},(cs.all fun c=>match c with
    | .z _ _=>true
    | .p _=>false)=true->cs.flatMap CV.lends=[]/\gX [] cs=some cs:=by
   intro cs;induction cs with
   |nil=>intro _;exact⟨rfl,rfl⟩
   |cons c cs ih=>
    intro h;simp only[Qg,N9] at h;obtain⟨h1,h2⟩:=ih h.2;cases c with
    |z t y=>exact⟨by simp[CV.lends,h1],by simp[gX,CV.ren,h2]⟩
    |p id=>simp at h
  obtain⟨h1,h2⟩:=key h;exact⟨h1,by simp[LV.ren,h2]⟩
 |_=>simp[LV.plain] at h
theorem mZ:∀{vs:List LV},vs.all LV.plain=true->vs.flatMap LV.lends=[]/\vs.map (LV.ren [])=vs
 | [],_=>⟨rfl,rfl⟩
 |v::vs,h=>by
  simp only[Qg,N9] at h;obtain⟨h1,h2⟩:=mZ h.2;obtain⟨h3,h4⟩:=xw h.1;exact⟨by simp[h1,h3],by simp[h2,h4]⟩
theorem jz{T:Tab}{s:aa}{f:Operand}{args:List Operand}{types:List TypeId}{C:Prop}{rs:List RV}{d:Nat}(h:cS T d s f args types=some (C,rs))(hid:1000+8*d+rs.length<=ioB):
  callOp T s (some d) f args types=some (C/\True,endCall s d rs):=by
 unfold cS at h;split at h
 ·rename_i g caps hg;split at h
  ·rename_i hp;split at h
   ·rename_i con vs hcon hvs;split at h
    ·rename_i C' rs' hrs;cases h;obtain⟨h1,h2⟩:=kF (io:=(get? T.io g).getD []) (k:=0) hvs;(have hall:(vs++caps).all LV.plain=true:=by rw[List.all_append,h2,hp.1];rfl);have hfr:(get? T.frees g).getD []=[]:=by
      have:=hp.2;cases hq:get? T.frees g with
      |none=>rfl
      |some l=>rw[hq] at this;cases this
     obtain⟨h3,h4⟩:=mZ hall;(have hl:qF s (vs++caps)=[]:=by simp[qF,h3,once,iB]);unfold callOp;simp only[hg,hcon,h1,hl,h4,hfr,Lb,kq,aa.forget,List.all_nil,iX,hrs,fJ,hid,distinct,List.map_nil,if_true]
    ·cases h
   ·cases h
  ·cases h
 ·cases h
theorem q8{T:Tab}{d:Nat}{s s':aa}{f:Operand}{args:List Operand}{types:List TypeId}{r:Prop×List RV}(hs:∀x v,aP s x=some v->aP s' x=some v)(h:cS T d s f args types=some r):cS T d s' f args types=some r:=by
 have harg:∀{t x v},dV T s t x=some v->dV T s' t x=some v:=by
  intro t x v h;unfold dV at h ⊢;cases hx:aP s x with
  |none=>rw[hx] at h;cases h
  |some u=>rw[hx] at h;rw[hs x u hx];exact h
 have hargs:∀{xs ts vs},cj T s ts xs=some vs->cj T s' ts xs=some vs:=by
  intro xs;induction xs with
  |nil=>intro ts vs h;cases ts<;>simpa [cj] using h
  |cons x xs ih=>
   intro ts vs h;cases ts with
   |nil=>simp[cj] at h
   |cons t ts=>
    (simp only[cj] at h ⊢;split at h;·rename_i v vs' h1 h2;rw[harg h1,ih h2];exact h);·cases h
 unfold cS at h ⊢;have hc:∀{r},eD s f=some r->eD s' f=some r:=by
  intro r h;unfold eD at h ⊢;cases hx:aP s f with
  |none=>rw[hx] at h;cases h
  |some u=>rw[hx] at h;rw[hs f u hx];exact h
 split at h
 ·rename_i g caps hg;simp only[hc hg];split at h
  ·(rename_i hp;rw[if_pos hp];split at h;·rename_i con vs hcon hvs;simp only[hcon,hargs hvs];exact h);·cases h
  ·cases h
 ·cases h
theorem get?_append{α:Type}:∀{l m:List (Nat×α)} {n:Nat} {x:α},get? l n=some x->get? (l++m) n=some x
 |(k,y)::r,m,n,x,h=>by
  simp only[get?,OS] at h ⊢;split;·rename_i e;rw[if_pos e] at h;exact h
  ·rename_i e;rw[if_neg e] at h;exact get?_append h
theorem kG:∀{rs:List RV} {l:List LV},rvs? rs=some l->∀i,bF i rs=(l,[])/\cD i rs=[]
 | [],l,h,i=>by simp only[rvs?,PV] at h;subst h;exact⟨rfl,rfl⟩
 | .z t x::r,l,h,i=>by
  simp only[rvs?] at h;split at h;·rename_i l' hl;cases h;obtain⟨h1,h2⟩:=kG hl (i+1);exact⟨by simp[bF,RV.give,h1],by simp[cD,h2]⟩
  ·cases h
 | .fn f caps::r,l,h,i=>by
  simp only[rvs?] at h;split at h;·rename_i l' _ hl;cases h;obtain⟨h1,h2⟩:=kG hl (i+1);exact⟨by simp[bF,RV.give,h1],by simp[cD,h2]⟩
  ·cases h
 | .val u::r,l,h,i=>by
  simp only[rvs?] at h;split at h;·rename_i l' hl;cases h;obtain⟨h1,h2⟩:=kG hl (i+1);exact⟨by simp[bF,RV.give,h1],by simp[cD,h2]⟩
  ·cases h
 | .own ..::_,_,h,_=>by simp[rvs?] at h
theorem FM{φ:Bool}{rs:List RV}{v:AV}(h:zt φ rs=some v)(s:aa)(d:Nat):endCall s d rs={env:=(d,v.plain)::del s.env d,own:=s.own}:=by
 unfold zt at h;split at h;·rename_i x hx;cases h;obtain⟨h1,h2⟩:=kG hx (1000+8*d);simp[endCall,h1,h2,eA,AV.plain]
 ·rename_i l hl hx;cases h;obtain⟨h1,h2⟩:=kG hx (1000+8*d);simp only[endCall,h1,h2,eA,AV.plain,List.nil_append]
 ·cases h
theorem xx{H:Nat->Prop}{w:World}{ρ:Nat->Value}{φ:Bool}{rs:List RV}{v:AV}(h:zt φ rs=some v)(u:Value):(φ=false->u=undef)->(φ=true->fL H w ρ v.plain u)->fL H w ρ v u:=by
 intro h1 h2;unfold zt at h;split at h;·cases h;exact⟨h2,h1⟩
 ·cases h;exact⟨h2,h1⟩
 ·cases h
theorem hZ{s:aa}{x:Operand}{v:AV}(hx:aP s x=some v)(hi:v.ids=[]):frozenAt s x=s:=by
 unfold frozenAt;rw[hx];simp only[hi,aa.freezeAll]
theorem eT{s:aa}{t:Ty}:∀{n i:Nat} {ps:List (Nat×Operand)} {xs:List t.D},cy s t n i ps=some xs->dw t n i ps s=some (xs,s)
 |0,i,[],xs,h=>by simp only[cy] at h;cases h;rfl
 |0,i,_::_,xs,h=>by simp only[cy] at h;cases h
 |n+1,i,[],xs,h=>by
  simp only[cy] at h;split at h
  ·(rename_i a ha;split at h;·rename_i r hr;cases h;simp only[dw,ha,eT hr]);·cases h
  ·cases h
 |n+1,i,(j,x)::ps,xs,h=>by
  simp only[cy] at h;simp only[dw];split at h
  ·rename_i hj;rw[if_pos hj];split at h
   ·rename_i v hv;split at h
    ·rename_i hi;split at h
     ·(rename_i a ha;split at h;·rename_i r hr;cases h;simp only[dL,hZ hv hi,hv,ha,eT hr]);·cases h
     ·cases h
    ·cases h
   ·cases h
  ·rename_i hj;rw[if_neg hj];split at h
   ·(rename_i a ha;split at h;·rename_i r hr;cases h;simp only[ha,eT hr]);·cases h
   ·cases h
theorem I0{X:Cx}(hT:cT X.P X.T){s sb:aa}{a:Act}{w:World}{ρ:Nat->Value}(h:St X s a w)(hf:Fits X s a w ρ)(hsb:Fits X sb a w ρ)(ho:sb.own=s.own){o:Oper}{d:Nat}(hd:o.dst=some d)(hdN:X.T.ok d=true){C:Prop}{v:LV}{φ:Bool}(hb:φ=true)(he:tE X.T sb o.op=some (C,v))(hC:C)
  {K:Act->World->Prop} {Q:Exit->Act->World->Prop} (hK:∀a' w',St X (s.put d (.g φ v)) a' w'->K a' w'):o.wpIn (fw X.r) 2 X.P a w K Q:=by
 have fin:∀{cs:Array Value} {E:TypeId} {t:Ty} {xs:List t.D} {n cap:Nat},xs.length=n->n<=cap->cap<=maxLen->(∃cells:List Value,cC (fun c y=>t.rep (hot X.O ρ s.own) (w.alloc (.cells cs E)) c y) cells xs/\∀j,j<cells.length->cs[j]? =cells[j]?)->v= .z (.slice t) xs->
   K (a.put (some d) (.slice (some ⟨w.heap.size,0,none⟩) n cap)) (w.alloc (.cells cs E)):=by
  rintro cs E t xs n cap hl hn hm ⟨cells,hr,hc⟩ rfl;refine hK _ _ ?_;have hH:¬hot X.O ρ s.own w.heap.size:=fun hh=>Nat.lt_irrefl _ (hf.hot_lt h.others h.below hh);have q2:=hf.keep (w':=w.alloc (.cells cs E)) (fun k hk=>b4 _ _ k hk);have q3:=q2.put (d:=d) (by rw[h.size];exact Tab.ok_lt hdN) (v:= .g φ (.z (.slice t) xs)) (val:= .slice (some ⟨w.heap.size,0,none⟩) n cap) (by
   (refine⟨fun _=>⟨rfl,.inr ⟨w.heap.size,0,none,cap,cells,?_,fun _=>rfl,by rw[hl];exact hn,hm,hr,fun _=>hH,fun j hj=>?_⟩⟩,fun ht=>absurd (hb.symm.trans ht) (by simp)⟩;·show [_]=[_];rw[hl]);·rw[Oz,cell_of_row _ _ j cs E (0,0) (heap_alloc_new w _)];exact hc j hj)
  exact h.next hdN (KeepsOthers.alloc _ _) (h.below.alloc _) q3
 unfold tE at he;split at he
 ·rename_i op e n ps hop;split at he
  ·rename_i t E ht hE;split at he
   ·rename_i xs hxs;split at he
    ·rename_i hc;cases he;have hty:=hT.types _ _ ht;have hel:=hT.elems _ _ hE;obtain⟨i,dd,hi,hu,hsz,hrow,hz,el,j,rfl,h2,h3,h4,h5,h6⟩:=hty;(have hEe:E=el:=by rw[hel] at hu;cases hu;rfl);subst hEe;obtain⟨g1,g2,g3,r,g4,g5⟩:=gj h.others h6 n 0 ps.toList hsb (eT hxs);have hrun:¬n=0->(Instr.buildSlice e n (ps.map fun(i,x)=>(i,a.eval x))).run X.P w= .ok (.slice (some ⟨w.heap.size,0,none⟩) n n) (w.alloc (.cells r.flatten.toArray E)):=by
      intro hn;refine run_buildSlice w e E n _ _ j _ hel h2 h5 (by rw[h3];have:=hc.1;omega) (by rw[h3];intro h0;rcases Nat.mul_eq_zero.1 h0 with h0|h0;exact hn h0;have:=hc.2;omega) ?_;rw[fe];have:=ir (fun i=>some (i*j.size,j.size)) (N6 n t.zeroCells) _ 0 [] r (fun k hk=>by
       have:=gk n t.zeroCells k hk;rw[Oz,h3,<- t.zeroCells_length];exact this) g4
      rw[h3] at this ⊢;rw[range_zero' n h6 hc.2];simpa using this
     have hrun0:n=0->(Instr.buildSlice e n (ps.map fun(i,x)=>(i,a.eval x))).run X.P w= .ok (.slice (some ⟨w.heap.size,0,none⟩) n n) (w.alloc (.cells r.flatten.toArray E)):=by
      intro hn;subst hn;have hps:ps.toList=[]:=by
       cases hl:ps.toList with
       |nil=>rfl
       |cons p l=>rw[hl] at g4;simp[kC] at g4
      (have hps':ps= #[]:=by apply Array.ext';simpa using hps);subst hps';simp[kC] at g4;subst g4;simp[Instr.buildSlice,run_underlying hel,sizeOf,typeInfo,h2,newRow,Instr.fill,Array.range_zero']
     (have hrun':=if hn:n=0 then hrun0 hn else hrun hn);have hrl:=bu (fun c x h=>t.rep_length h) g5;have hn63:n<=maxLen:=by
      have hm:maxLen=9223372036854775807:=rfl;have:n*1<=n*t.w:=Nat.mul_le_mul_left _ hc.2;have:=hc.1;omega
     refine a6 (by unfold execOp;rw[hop];exact bl hrun') ?_;rw[hd];rw[ho] at g5;exact fin g2 (Oa _) hn63 ⟨r.flatten,aS (fun _ _ h=>h) (fun b _ hb=>b4 _ _ b (cg hb)) g5,fun j hj=>by simp⟩ rfl
    ·cases he
   ·cases he
  ·cases he
 ·rename_i op e l c hop;split at he
  ·rename_i t E k1 l1 k2 c1 ht hE hl hcc;split at he
   ·rename_i x hx;split at he
    ·rename_i hw;cases he;obtain⟨ln,hln⟩:∃ln:Int,ln=l1:=⟨_,rfl⟩;subst hln;obtain⟨cn,hcn⟩:∃cn:Int,cn=c1:=⟨_,rfl⟩;subst hcn;have c0:0<=ln:=hC.1;have c2:ln<=cn:=hC.2.1;have c3:Roomy t.w cn.toNat:=hC.2.2;have hty:=hT.types _ _ ht;have hel:=hT.elems _ _ hE;obtain⟨i,dd,hi,hu,hsz,hrow,hz,el,j,rfl,h2,h3,h4,h5,h6⟩:=hty;(have hEe:E=el:=by rw[hel] at hu;cases hu;rfl);subst hEe;obtain⟨r1,r2⟩:=fj c3 hw;have hm:maxLen=9223372036854775807:=rfl;have hbytes:(j.bytes:Int)*cn<=281474976710656:=by
      have:j.bytes*cn.toNat<=24*t.w*cn.toNat:=Oc _ h4;rw[Nat.mul_comm (24*t.w)] at this;(have h7:((j.bytes*cn.toNat:Nat):Int)<=281474976710656:=by omega);rw[Int.natCast_mul,Int.toNat_of_nonneg (by omega)] at h7;exact h7
     have hrun:=run_make (P:=X.P) w e E j _ hel h2 h5 k1 k2 ln cn c0 c2 hbytes (by omega);rw[h3,gZ h6 hw] at hrun;refine a6 (by unfold execOp;rw[hop];simp only[bm (ax hsb hl),bm (ax hsb hcc)];exact bl hrun) ?_;rw[hd];refine fin (by simp) (by omega) r1 ⟨(N6 ln.toNat t.zeroCells).flatten,eC (t.rep_zero _ _ hx) _,fun j hj=>?_⟩ rfl;have e:(N6 cn.toNat t.zeroCells).flatten=(N6 ln.toNat t.zeroCells).flatten++(N6 (cn.toNat-ln.toNat) t.zeroCells).flatten:=by
      rw[<- List.flatten_append,List.replicate_append_replicate];congr 2;omega
     rw[e];simp only[Tx];rw[OU hj]
    ·cases he
   ·cases he
  ·cases he
 ·cases he
theorem jS{X:Cx}(hT:cT X.P X.T)(hΓ:eX X.P X.T){ops:List Oper}{o:Oper}{s s':aa}{a:Act}{w:World}(h:St X s a w){C:Prop}(he:c9 X.T ops o s=some (C,s'))(hC:C)
  {K:Act->World->Prop} {Q:Exit->Act->World->Prop} (hK:∀a' w',St X s' a' w'->K a' w'):
  if Region.wanted o (yielded ops.toArray a.tmps) then o.wpIn (fw X.r) 2 X.P a w K Q else (∀f,o.about X.P w a.eval=some f->(fw X.r).fn f)/\K (a.put o.dst undef) w:=by
 obtain⟨ρ,hf⟩:=h.fits;unfold c9 at he;split at he
 ·rename_i hg;have hw:Region.wanted o (yielded ops.toArray a.tmps)=true:=by simp[Region.wanted,hg]
  rw[if_pos hw];split at he
  ·rename_i c x y hop;split at he
   ·(rename_i d C' v hd hp;split at he;·rename_i hdN;cases he;obtain⟨val,h1,h2⟩:=Bo hf hp hC.1 hC.2 hop;refine a6 h1 (hK _ _ ?_);rw[hd];exact h.put hf hdN h2);·cases he
   ·cases he
  ·split at he
   ·rename_i C' v hp;split at he
    ·(rename_i d hd;split at he;·rename_i hdN;cases he;obtain⟨val,h1,h2⟩:=ua hT h.onT hf hp hC;refine a6 h1 (hK _ _ ?_);rw[hd];exact h.put hf hdN h2);·cases he
    ·cases he
   ·split at he
    ·(rename_i d hd;split at he;·rename_i hdN;exact xv hT hΓ h hd (fun n hn=>by cases hn;exact hdN) he hC hK);·cases he
    ·rename_i hd;exact xv hT hΓ h hd (fun n hn=>by cases hn) he hC hK
 ·rename_i j want hg;split at he
  ·rename_i φ d hφ hd;have hw:=qZ hf hg hφ;split at he
   ·rename_i hdN;have hno:∀v:LV,φ=false->St X (s.put d (.g φ v)) (a.put o.dst undef) w:=by
     intro v hφf;rw[hd];exact h.put hf hdN ⟨fun ht=>absurd (hφf.symm.trans ht) (by simp),fun _=>rfl⟩
    split at he
    ·rename_i c x y hop;split at he
     ·rename_i C' v hp;cases he;cases hb:φ with
      |true=>
       rw[if_pos (hw.trans hb)];obtain⟨val,h1,h2⟩:=Bo hf hp (hC hb).1 (hC hb).2 hop;refine a6 h1 (hK _ _ ?_);rw[hd];exact h.put hf hdN ⟨fun _=>h2,fun ht=>absurd (hb.symm.trans ht) (by simp)⟩
      |false=>
       rw[if_neg (by rw[hw,hb];simp)];exact⟨fun _ _=>trivial,hK _ _ (hno v hb)⟩
     ·cases he
    ·split at he
     ·rename_i C' v hp;cases he;cases hb:φ with
      |true=>
       rw[if_pos (hw.trans hb)];obtain⟨val,h1,h2⟩:=ua hT h.onT (hf.sub (hC hb).1) hp (hC hb).2;refine a6 h1 (hK _ _ ?_);rw[hd];exact h.put hf hdN ⟨fun _=>h2,fun ht=>absurd (hb.symm.trans ht) (by simp)⟩
      |false=>
       rw[if_neg (by rw[hw,hb];simp)];exact⟨fun _ _=>trivial,hK _ _ (hno v hb)⟩
     ·split at he
      ·rename_i op0 c hop;split at he
       ·rename_i f hcal;split at he
        ·rename_i C' rs hp;split at he;(case h_2=>cases he);rename_i v hv;split at he
         ·rename_i hid;cases he;cases hb:φ with
          |true=>
           rw[if_pos (hw.trans hb)];obtain⟨hk,hC'⟩:=hC hb;have hsub:=hf.sub hk;have hplus:St X {env:=cw s.env (tmpsOf o.op.operands.toList)++s.env,own:=s.own} a w:=
            h.next0 (ρ:=ρ) (KeepsOthers.refl _) h.below ⟨fun e he=>(Oq.1 he).elim (hsub.env e) (hf.env e),hf.own,hf.io,hf.apart⟩
           have hp2:=q8 (s':={env:=cw s.env (tmpsOf o.op.operands.toList)++s.env,own:=s.own}) (fun y v hy=>by
            cases y with
            |tmp t=>exact get?_append hy
            |const v=>exact hy
            |func g=>exact hy
            |global g=>exact hy) hp
           (have hcall:=jz (d:=d) hp2 hid;refine qY hΓ hplus hcal hop hd (fun n hn=>by cases hn;exact hdN) hcall ⟨hC',trivial⟩ (fun a' w' hst=>hK a' w' ?_);obtain⟨ρ',hf'⟩:=hst.fits;rw[FM hv] at hf';refine⟨hst.marks,hst.kept,hst.size,hst.below,hst.others,hst.small,ρ',fun e he=>?_,hf'.own,hf'.io,hf'.apart⟩;simp only[aa.put,IS,bC] at he;rcases he with rfl|⟨he,hne⟩);·have:=hf'.env (d,v.plain) (by simp);exact xx hv _ (fun ht=>absurd (hb.symm.trans ht) (by simp)) (fun _=>this)
           ·exact hf'.env e (by simp only[IS,bC,Oq];exact .inr ⟨.inr he,hne⟩)
          |false=>
           rw[if_neg (by rw[hw,hb];simp)];refine⟨fun _ _=>trivial,hK _ _ ?_⟩;rw[hd];exact h.put hf hdN (xx hv _ (fun _=>rfl) (fun ht=>absurd (hb.symm.trans ht) (by simp)))
         ·cases he
        ·cases he
       ·cases he
      ·split at he
       ·rename_i C' v hp;cases he;cases hb:φ with
        |true=>
         rw[if_pos (hw.trans hb)];exact I0 hT h hf (hf.sub (hC hb).1) rfl hd hdN hb hp (hC hb).2 hK
        |false=>
         rw[if_neg (by rw[hw,hb];simp)];exact⟨fun _ _=>trivial,hK _ _ (hno v hb)⟩
       ·cases he
   ·cases he
  ·cases he
theorem Bp{X:Cx}(hT:cT X.P X.T)(hΓ:eX X.P X.T){ops:List Oper}{Q:Exit->Act->World->Prop}:∀(l:List Oper) {s s':aa} {a:Act} {w:World} {C:Prop},St X s a w->exec X.T ops l s=some (C,s')->C->(∀a' w',St X s' a' w'->Q .normal a' w')->wpListIn (fw X.r) 2 X.P ops.toArray Q l a w
 | [],s,s',a,w,C,h,he,hC,hQ=>by simp[exec] at he;obtain⟨_,rfl⟩:=he;exact hQ _ _ h
 |o::r,s,s',a,w,C,h,he,hC,hQ=>by
  simp only[exec] at he;split at he
  ·(rename_i C1 s1 h1;split at he;·rename_i C2 s2 h2;cases he;refine wpListIn_step fun K hK=>?_;exact jS hT hΓ h h1 hC.1 (fun a' w' h'=>hK _ _ (Bp hT hΓ r h' h2 hC.2 hQ)));·cases he
  ·cases he
def CV.known(own:List (Nat×aB)):CV->Bool
 | .z _ _=>true
 | .p id=>(get? own id).isSome
def LV.leq(own:List (Nat×aB))(u:LV):LV->Prop
 | .z t x=>u.get t=some x
 | .ownS id=>match get? own id with
  |some _=>u= .ownS id
  |none=>u= .val (.slice none 0 0)
 | .ownP id off=>(get? own id).isSome=true/\u= .ownP id off
 | .ownE id w i=>(get? own id).isSome=true/\u= .ownE id w i
 | .ownW id w i=>(get? own id).isSome=true/\u= .ownW id w i
 | .ownM id=>(get? own id).isSome=true/\u= .ownM id
 | .ownA id i=>(get? own id).isSome=true/\u= .ownA id i
 | .ownR id j=>(get? own id).isSome=true/\u= .ownR id j
 | .ownB id j w k=>(get? own id).isSome=true/\u= .ownB id j w k
 | .fn f caps=>u= .fn f caps/\caps.all (CV.known own)=true
 | .val v=>u= .val v
 | .junk=>True
def om(own:List (Nat×aB)):List LV->List LV->Prop
 | [],[]=>True
 |u::us,v::vs=>u.leq own v/\om own us vs
 |_,_=>False
def AV.leq(own:List (Nat×aB))(u:AV):AV->Prop
 | .l (.z t x)=>u.get t=some x
 | .l v=>match u with
  | .l u=>u.leq own v
  |_=>False
 | .agg vs=>match u with
  | .agg us=>om own us vs
  | .l (.z t x)=>om own (t.cells x) vs/\t.isAgg=true
  |_=>False
 | .tup vs=>match u with
  | .tup us=>om own us vs
  |_=>False
 | .g φ v=>match u with
  | .g ψ u=>ψ=φ/\u.leq own v
  |_=>False
 | .gt _ _=>False
def aB.leq(own:List (Nat×aB)):aB->aB->Prop
 | .box T us,.box T' vs=>T=T'/\om own us vs
 | .arr t T xs,.arr t' T' ys=>∃h:t=t',T=T'/\h▸xs=ys
 | .win t T pre xs post,.win t' T' pre' xs' post'=>∃h:t=t',T=T'/\h▸pre=pre'/\h▸xs=xs'/\h▸post=post'
 | .que t T xs,.que t' T' ys=>∃h:t=t',T=T'/\h▸xs=ys
 | .arr t T xs,.que t' T' ys=>∃h:t=t',T=T'/\h▸xs=ys
 | .mat t T E rows idx,.mat t' T' E' rows' idx'=>∃h:t=t',T=T'/\E=E'/\h▸rows=rows'/\idx=idx'
 |_,_=>False
def pk(s:aa):List (Nat×AV)->Prop
 | []=>True
 |(t,v)::r=>(match get? s.env t with
  |some u=>u.leq s.own v
  |none=>False)/\pk s r
def l9(s:aa):List (Nat×aB)->Prop
 | []=>True
 |(t,v)::r=>(match get? s.own t with
  |some u=>u.leq s.own v
  |none=>match v with
   | .arr _ _ xs=>t<ioB/\xs=[]
   | .que _ _ xs=>t<ioB/\xs=[]
   |_=>False)/\(get? r t).isNone=true/\l9 s r
def le(s s':aa):Prop:=pk s s'.env/\l9 s s'.own
def bT(ρ:Nat->Value)(own:List (Nat×aB))(i:Nat):Value:=match get? own i with
 |some _=>ρ i
 |none=> .slice none 0 0
theorem LV.leq_ok{H H':Nat->Prop}{w:World}{ρ:Nat->Value}{own:List (Nat×aB)}(hh:∀b,b<w.heap.size->H' b->H b){u v:LV}{val:Value}(hle:u.leq own v)(h:aJ H w ρ u val):aJ H' w (bT ρ own) v val:=by
 cases v with
 |z t x=>
  have:=LV.get_ok hle h;exact⟨this.1,Ty.rep_move hh (aW.refl _ _) this.2⟩
 |ownS id=>
  simp only[LV.leq] at hle;simp only[aJ,bT];split at hle;·rename_i o ho;subst hle;first|(rw[ho];exact h)|exact h
  ·rename_i ho;subst hle;first|(rw[ho];exact⟨h,none,0,0,h⟩)|exact⟨h,none,0,0,h⟩
 |ownP id off=>
  obtain⟨h1,rfl⟩:=hle;obtain⟨o,ho⟩:=OR.1 h1;simp only[aJ,bT,ho];exact h
 |ownE id wd i=>
  obtain⟨h1,rfl⟩:=hle;obtain⟨o,ho⟩:=OR.1 h1;simp only[aJ,bT,ho];exact h
 |ownW id wd i=>
  obtain⟨h1,rfl⟩:=hle;obtain⟨o,ho⟩:=OR.1 h1;simp only[aJ,bT,ho];exact h
 |ownM id=>
  obtain⟨h1,rfl⟩:=hle;obtain⟨o,ho⟩:=OR.1 h1;simp only[aJ,bT,ho];exact h
 |ownA id i=>
  obtain⟨h1,rfl⟩:=hle;obtain⟨o,ho⟩:=OR.1 h1;simp only[aJ,bT,ho];exact h
 |ownR id j=>
  obtain⟨h1,rfl⟩:=hle;obtain⟨o,ho⟩:=OR.1 h1;simp only[aJ,bT,ho];exact h
 |ownB id j wd i=>
  obtain⟨h1,rfl⟩:=hle;obtain⟨o,ho⟩:=OR.1 h1;simp only[aJ,bT,ho];exact h
 |fn f caps=>
  obtain⟨rfl,h1⟩:=hle;obtain⟨vs,hv,h⟩:=h;refine⟨vs,hv,?_⟩;clear hv;induction caps generalizing vs with
  |nil=>cases vs with
   |nil=>trivial
   |cons _ _=>exact h.elim
  |cons c caps ih=>cases vs with
   |nil=>exact h.elim
   |cons u vs=>
    simp only[Qg,N9] at h1;refine⟨?_,ih h1.2 vs h.2⟩;have h2:=h.1;cases c with
    |z t y=>exact⟨h2.1,Ty.rep_move hh (aW.refl _ _) h2.2⟩
    |p id=>
     obtain⟨o,ho⟩:=OR.1 (show (get? own id).isSome=true from h1.1);simp only[eY,bT,ho];exact h2
 |val v=>rw[show u= .val v from hle] at h;exact h
 |junk=>trivial
theorem Bq{H H':Nat->Prop}{w:World}{ρ:Nat->Value}{own:List (Nat×aB)}(hh:∀b,b<w.heap.size->H' b->H b):∀{us vs:List LV} {vals:List Value},om own us vs->aY (aJ H w ρ) us vals->aY (aJ H' w (bT ρ own)) vs vals
 | [],[],[],_,_=>trivial
 |_::_,_::_,_::_,h,h'=>⟨LV.leq_ok hh h.1 h'.1,Bq hh h.2 h'.2⟩
 | [],_::_,_,h,_=>h.elim
 |_::_,[],_,h,_=>h.elim
 | [],[],_::_,_,h=>h.elim
 |_::_,_::_,[],_,h=>h.elim
theorem kH{H H':Nat->Prop}{w:World}{ρ:Nat->Value}{own:List (Nat×aB)}(hh:∀b,b<w.heap.size->H' b->H b):∀{us vs:List LV} {vals:List Value},om own us vs->aY (fK H w ρ) us vals->aY (fK H' w (bT ρ own)) vs vals
 | [],[],[],_,_=>trivial
 |_::_,_::_,_::_,h,h'=>⟨⟨LV.leq_ok hh h.1 h'.1.1,h'.1.2⟩,kH hh h.2 h'.2⟩
 | [],_::_,_,h,_=>h.elim
 |_::_,[],_,h,_=>h.elim
 | [],[],_::_,_,h=>h.elim
 |_::_,_::_,[],_,h=>h.elim
theorem AV.leq_ok{H H':Nat->Prop}{w:World}{ρ:Nat->Value}{own:List (Nat×aB)}(hh:∀b,b<w.heap.size->H' b->H b){u v:AV}{val:Value}(hle:u.leq own v)(h:fL H w ρ u val):fL H' w (bT ρ own) v val:=by
 cases v with
 |l v=>
  cases v with
  |z t x=>
   have:=AV.get_ok (x:=x) (t:=t) hle h;exact⟨this.1,Ty.rep_move hh (aW.refl _ _) this.2⟩
  |_=>
   cases u with
   |l u=>exact LV.leq_ok hh (by simpa only[AV.leq] using hle) h
   |_=>exact hle.elim
 |agg vs=>
  cases u with
  |agg us=>obtain⟨l,e,h⟩:=h;exact⟨l,e,kH hh hle h⟩
  |l u=>
   cases u with
   |z t x=>
    obtain⟨h1,h2⟩:=hle;have ha:eE val=true:=h.1.trans h2;cases val<;>simp[eE] at ha;rename_i cs;exact⟨cs.toList,by simp,kH hh h1 (by simpa [Value.cells] using t.cells_ok ρ h.2)⟩
   |_=>exact hle.elim
  |_=>exact hle.elim
 |tup vs=>
  cases u with
  |tup us=>obtain⟨l,e,h⟩:=h;exact⟨l,e,Bq hh hle h⟩
  |_=>exact hle.elim
 |g φ v=>
  cases u with
  |g ψ u=>obtain⟨rfl,h1⟩:=hle;exact⟨fun hφ=>LV.leq_ok hh h1 (h.1 hφ),h.2⟩
  |_=>exact hle.elim
 |gt φ vs=>simp[AV.leq] at hle
theorem q9{s:aa}:∀{l:List (Nat×AV)},pk s l->∀e∈l,∃u,get? s.env e.1=some u/\u.leq s.own e.2
 |(t,v)::r,h,e,he=>by
  simp only[pk] at h;rcases IS.1 he with rfl|he
  ·(obtain⟨h1,_⟩:=h;split at h1;·rename_i u hu;exact⟨u,hu,h1⟩);·exact h1.elim
  ·exact q9 h.2 e he
theorem get?_none{α:Type}:∀{l:List (Nat×α)} {n:Nat},get? l n=none->∀p∈l,p.1≠n
 |(k,x)::r,n,h,p,hp=>by
  simp only[get?] at h;split at h;·cases h
  ·(rename_i hk;rcases IS.1 hp with rfl|hp;·exact hk);·exact get?_none h p hp
theorem ml{s:aa}:∀{l:List (Nat×aB)},l9 s l->(∀p∈l,(∃o,get? s.own p.1=some o/\o.leq s.own p.2)∨(get? s.own p.1=none/\p.1<ioB/\∃t T,p.2= .arr t T []∨p.2= .que t T []))/\l.Pairwise (fun p q=>p.1≠q.1)
 | [],_=>⟨fun p hp=>by simp at hp,.nil⟩
 |(t,v)::r,h=>by
  simp only[l9] at h;obtain⟨h1,h2,h3⟩:=h;obtain⟨g1,g2⟩:=ml h3;refine⟨fun p hp=>?_,OW.2 ⟨fun q hq e=>get?_none (Option.isNone_iff_eq_none.1 h2) q hq e.symm,g2⟩⟩;rcases IS.1 hp with rfl|hp
  ·split at h1;·rename_i u hu;exact .inl ⟨u,hu,h1⟩
   ·(rename_i hu;refine .inr ⟨hu,?_⟩;split at h1;·obtain⟨h4,h1⟩:=h1;subst h1;exact⟨h4,_,_,.inl rfl⟩);·obtain⟨h4,h1⟩:=h1;subst h1;exact⟨h4,_,_,.inr rfl⟩
    ·exact h1.elim
  ·exact g1 p hp
theorem gp{X:Cx}{s s':aa}(hle:le s s'){ρ:Nat->Value}{b:Nat}(hb:hot X.O (bT ρ s.own) s'.own b):hot X.O ρ s.own b:=by
 obtain⟨hown,hpw⟩:=ml hle.2;rcases hb with hb|⟨p,hp,hb⟩;·exact .inl hb
 ·rcases hown p hp with⟨o,ho,_⟩|⟨ho,_,_⟩;·rw[show bT ρ s.own p.1=ρ p.1 by simp[bT,ho]] at hb;exact db (p:=(p.1,o)) (get?_mem ho) hb
  ·rw[show bT ρ s.own p.1= .slice none 0 0 by simp[bT,ho]] at hb;simp[Blk] at hb
theorem Fits.leO{X:Cx}{O':Nat->Prop}{s s':aa}{a:Act}{w:World}{ρ:Nat->Value}(hle:le s s')(hf:Fits X s a w ρ)(hh:∀b,b<w.heap.size->hot O' (bT ρ s.own) s'.own b->hot X.O ρ s.own b):Fits {X with O:=O'} s' a w (bT ρ s.own):=by
 obtain⟨hown,hpw⟩:=ml hle.2;have hv:∀i o,get? s.own i=some o->bT ρ s.own i=ρ i:=fun i o ho=>by simp[bT,ho]
 have hn:∀i,get? s.own i=none->bT ρ s.own i= .slice none 0 0:=fun i ho=>by simp[bT,ho]
 refine⟨fun e he=>?_,fun p hp=>?_,fun p hp hB hF=>?_,?_⟩;·obtain⟨u,h1,h2⟩:=q9 hle.1 e he;exact AV.leq_ok hh h2 (hf.env _ (get?_mem h1))
 ·rcases hown p hp with⟨o,ho,hl⟩|⟨ho,_,t,T,hp2⟩
  ·have hok:=hf.own _ (get?_mem ho);obtain⟨id,obj⟩:=p;cases o with
   |box T us=>
    cases obj with
    |box T' vs=>
     obtain⟨rfl,hl⟩:=hl;obtain⟨b,l,h1,h2,h3,h4⟩:=hok;exact⟨b,l,by rw[hv _ _ ho];exact h1,h2,h3,kH hh hl h4⟩
    |arr _ _ _=>exact hl.elim
    |win _ _ _ _ _=>exact hl.elim
    |mat _ _ _ _ _=>exact hl.elim
    |que _ _ _=>exact hl.elim
   |que t T xs=>
    cases obj with
    |que t' T' ys=>
     obtain⟨rfl,rfl,rfl⟩:=hl;obtain⟨cells,h1,h2⟩:=hok;exact⟨cells,aS hh (aW.refl _ _) h1,by rw[hv _ _ ho];exact h2⟩
    |mat _ _ _ _ _=>exact hl.elim
    |box _ _=>exact hl.elim
    |arr _ _ _=>exact hl.elim
    |win _ _ _ _ _=>exact hl.elim
   |mat t T E rows idx=>
    cases obj with
    |que _ _ _=>exact hl.elim
    |mat t' T' E' rows' idx'=>
     obtain⟨rfl,rfl,rfl,rfl,rfl⟩:=hl;obtain⟨h0,vs,cells,h1,h2⟩:=hok;exact⟨h0,vs,cells,by rw[hv _ _ ho];exact h1,h2.move (fun c x h=>Ty.rep_move hh (aW.refl _ _) h) fun u hu b e=>⟨(h2.Mof hu e).1,rfl⟩⟩
    |box _ _=>exact hl.elim
    |arr _ _ _=>exact hl.elim
    |win _ _ _ _ _=>exact hl.elim
   |win t T pre xs post=>
    cases obj with
    |mat _ _ _ _ _=>exact hl.elim
    |que _ _ _=>exact hl.elim
    |win t' T' pre' xs' post'=>
     obtain⟨rfl,rfl,rfl,rfl,rfl⟩:=hl;obtain⟨g,cap,cells,cur,h1,h2,h3⟩:=hok;exact⟨g,cap,cells,cur,aS hh (aW.refl _ _) h1,by rw[hv _ _ ho];exact h2,h3⟩
    |box _ _=>exact hl.elim
    |arr _ _ _=>exact hl.elim
   |arr t T xs=>
    cases obj with
    |mat _ _ _ _ _=>exact hl.elim
    |que t' T' ys=>
     obtain⟨rfl,rfl,rfl⟩:=hl;obtain⟨cells,h1,h2⟩:=hok;exact⟨cells,aS hh (aW.refl _ _) h1,by rw[hv _ _ ho];exact lC h2⟩
    |box _ _=>exact hl.elim
    |win _ _ _ _ _=>exact hl.elim
    |arr t' T' ys=>
     obtain⟨rfl,rfl,rfl⟩:=hl;obtain⟨cells,h1,h2⟩:=hok;exact⟨cells,aS hh (aW.refl _ _) h1,by rw[hv _ _ ho];exact h2⟩
  ·(obtain⟨id,obj⟩:=p;simp only at hp2;rcases hp2 with rfl|rfl;·exact⟨[],rfl,by simp[rowAt,hn _ ho]⟩);·exact⟨[],rfl,by simp[mR,hn _ ho]⟩
 ·rcases hown p hp with⟨o,ho,_⟩|⟨_,hlt,_⟩;·rw[hv _ _ ho];exact hf.io (p.1,o) (get?_mem ho) hB hF
  ·exact absurd hB (Nat.not_le.2 hlt)
 ·refine hpw.imp_of_mem fun {p q} hp hq hpq=>⟨hpq,fun b hb hqb=>?_⟩;rcases hown p hp with⟨o,ho,_⟩|⟨ho,_,_⟩
  ·(rcases hown q hq with⟨o',ho',_⟩|⟨ho',_⟩;·rw[hv _ _ ho] at hb;rw[hv _ _ ho'] at hqb;exact hf.two (p:=(p.1,o)) (q:=(q.1,o')) (get?_mem ho) (get?_mem ho') hpq hb hqb);·rw[hn _ ho'] at hqb;simp[Blk] at hqb
  ·rw[hn _ ho] at hb;simp[Blk] at hb
theorem Fits.le{X:Cx}{s s':aa}{a:Act}{w:World}{ρ:Nat->Value}(hle:le s s')(hf:Fits X s a w ρ):Fits X s' a w (bT ρ s.own):=Fits.leO hle hf (fun b _ hb=>gp hle hb)
theorem St.le{X:Cx}{s s':aa}{a:Act}{w:World}(hle:le s s')(h:St X s a w):St X s' a w:=by
 obtain⟨ρ,hf⟩:=h.fits;exact⟨h.marks,h.kept,h.size,h.below,h.others,h.small,_,hf.le hle⟩
theorem ra{F:Fence}{m:Nat}{P:Program}{Q:Exit->Act->World->Prop}{a:Act}{w:World}{c:Code}(I:Nat->Act->World->Prop)(n₀:Nat)(h₀:I n₀ a w)
  (round:∀n a w,I n a w->c.wpIn F m P (Exit.then (fun a' w'=>∃n',n'<n/\I n' a' w') Q) a w):(Code.loop c).wpIn F m P Q a w:=by
 refine wpIn_loop (fun a w=>∃n,I n a w) (fun a w=>leastOf (fun n=>I n a w)) ⟨n₀,h₀⟩ ?_;intro a w hI;refine Code.wpIn_mono ?_ (round _ a w (leastOf_spec hI).1);intro e a' w' hq;cases e with
 |normal=>
  obtain⟨n',hlt,hI'⟩:=hq;exact⟨⟨n',hI'⟩,Nat.lt_of_le_of_lt ((leastOf_spec ⟨n',hI'⟩).2 n' hI') hlt⟩
 |_=>exact hq
def uh(T:Tab)(s:aa):ResultVar->Option AV
 | .tmp t=>get? s.env t
 | .cell t ty=>match get? s.env t,get? T.types ty with
  |some (.l (.ownP id 0)),some u=>match get? s.own id with
   |some (.box _ cs)=>if cs.length=u.w then dD u cs else none
   |_=>none
  |_,_=>none
def dH(T:Tab)(s:aa):List ResultVar->List RV->List Nat
 |rv::r,.own ..::vs=>match uh T s rv with
  |some (.l (.ownS id))=>id::dH T s r vs
  |_=>dH T s r vs
 |_::r,.z ..::vs=>dH T s r vs
 |_::r,.fn ..::vs=>dH T s r vs
 |_::r,.val ..::vs=>dH T s r vs
 |_,_=>[]
def CV.pure:CV->Bool
 | .z _ _=>true
 | .p _=>false
def eI(s:aa)(all later:List Nat):RV->AV->Prop
 | .z t x,u=>match u with
  | .l (.ownS id)=>(id∉all/\id<ioB)/\match get? s.own id with
   |some (.arr u _ xs)=>LV.get t (.z (.slice u) xs)=some x
   |_=>False
  |u=>u.get t=some x
 | .own t T xs,u=>match u with
  | .l (.ownS id)=>(id∉later/\id<ioB)/\match get? s.own id with
   |some (.arr u T' ys)=>T=T'/\∃h:u=t,h▸ys=xs
   |_=>False
  | .l (.val v)=>gO v=true/\xs=[]
  |_=>False
 | .fn f caps,u=>match u with
  | .l (.fn g caps')=>g=f/\caps'=caps/\caps.all CV.pure=true
  | .l (.val (.func (.func g) first caps'))=>g=f/\first.size=0/\caps'.size=0/\caps=[]
  |_=>False
 | .val v,u=>u= .l (.val v)
def nc(T:Tab)(s:aa)(all:List Nat):List ResultVar->List RV->Prop
 | [],[]=>True
 |rv::r,v::vs=>(match uh T s rv with
  |some u=>eI s all (dH T s r vs) v u
  |none=>False)/\nc T s all r vs
 |_,_=>False
def rb(tmps:Array Value):ResultVar->Sem Value
 | .tmp t=>pure (tmps.getD t undef)
 | .cell a t=>do loadVar t (<- asAddr (tmps.getD a undef))
theorem FN{X:Cx}(hT:cT X.P X.T){s:aa}{a:Act}{w:World}{ρ:Nat->Value}(h:Fits X s a w ρ){rv:ResultVar}{u:AV}(he:uh X.T s rv=some u):∃v,(rb a.tmps rv).run X.P w= .ok v w/\fL (hot X.O ρ s.own) w ρ u v:=by
 cases rv with
 |tmp t=>exact⟨_,rfl,h.env (t,u) (get?_mem he)⟩
 |cell t ty=>
  simp only[uh] at he;split at he
  ·rename_i id u' he1 he2;split at he
   ·(rename_i T' cs hg;split at he;·rename_i hl;obtain⟨b,hb,hv⟩:=h.env _ (get?_mem he1);obtain⟨b',vs,hb',hbase,hh,hcs⟩:=h.own _ (get?_mem hg);rw[hb] at hb';simp at hb';subst hb';have hlen:=hcs.length;have hrun:=cI (hT.types _ _ he2) (w:=w) (b:=b) (o:=0) (cells:=vs) (by rw[<- hlen];exact hl) (fun j _=>by rw[Oz,cell_of_row w b j vs.toArray T' (0,0) hh];simp);refine⟨_,?_,gY he hcs⟩;simp only at hv;simp only[rb,hv];exact hrun);·cases he
   ·cases he
  ·cases he
theorem zH{X:Cx}{s:aa}{a:Act}{w:World}{ρ:Nat->Value}(h:Fits X s a w ρ)(hO:∀b,X.O b-> ¬X.M b){id T:Nat}{t:Ty}{xs:List t.D}(hg:get? s.own id=some (.arr t T xs)){v:Value}(hv:v=ρ id)(hsl:∃a n c,v= .slice a n c){H':Nat->Prop}(hH:∀b,H' b->hot X.O ρ s.own b)(hno:∀b,Blk (ρ id) b->H' b->X.O b):aJ H' w (fun _=>undef) (.z (.slice t) xs) v:=by
 obtain⟨p,n,c,hv2⟩:=hsl;obtain⟨hn,cells,hr,hl,hor⟩:=fc h.own hg (by rw[<- hv];exact hv2);subst hn;refine⟨by rw[hv2];rfl,?_⟩;rw[hv2];rcases hor with⟨rfl,hx0,rfl⟩|⟨g,rfl,hb,h1,h2,cur,hh',h3,h4⟩;·subst hx0;exact .inl ⟨rfl,rfl⟩
 ·refine .inr ⟨g,0,none,c,cells,rfl,fun _=>rfl,h1,h2,aS (fun b _ hb=>hH b hb) (aW.refl _ _) hr,?_,fun j hj=>fv hh' h4 hj⟩;intro _ hg1;exact hO g (hno g (by rw[<- hv,hv2];rfl) hg1) hb
theorem i6{H H':Nat->Prop}{w:World}{ρ ρ':Nat->Value}:∀{cs:List CV} {vs:List Value},cs.all CV.pure=true->(∀b,H' b->H b)->aY (eY H w ρ) cs vs->aY (eY H' w ρ') cs vs
 | [],[],_,_,_=>trivial
 | [],_::_,_,_,h=>h.elim
 |_::_,[],_,_,h=>h.elim
 |c::cs,v::vs,hp,hH,h=>by
  simp only[Qg,N9] at hp;refine⟨?_,i6 hp.2 hH h.2⟩;have h3:=h.1;cases c with
  |z t y=>exact⟨h3.1,Ty.rep_move (fun b _ hb=>hH b hb) (aW.refl _ _) h3.2⟩
  |p id=>exact absurd hp.1 (by simp[CV.pure])
theorem re{X:Cx}(hT:cT X.P X.T){s:aa}{a:Act}{w:World}{ρ:Nat->Value}(h:Fits X s a w ρ)(hO:∀b,X.O b-> ¬X.M b)(hw:X.w0.heap.size<=w.heap.size)(all:List Nat):∀(rvs:List ResultVar) (rs:List RV),nc X.T s all rvs rs->
  ∃vs:List Value,(rvs.mapM (rb a.tmps)).run X.P w= .ok vs w/\vs.length=rs.length/\
   (∀b,cK (fun _=>False) rs vs b->∃id∈dH X.T s rvs rs,Blk (ρ id) b/\id<ioB/\∃o,get? s.own id=some o)/\fk rs vs/\
   ∀H',(∀b,H' b->hot X.O ρ s.own b)->(∀id o b,get? s.own id=some o->id∉all->id<ioB->Blk (ρ id) b->H' b->X.O b)->aY (jP H' w X.M) rs vs
 | [],[],_=>⟨[],rfl,rfl,fun b hb=>hb.elim,trivial,fun _ _ _=>trivial⟩
 |rv::rvs,r::rs,hr=>by
  simp only[nc] at hr;obtain⟨h1,h2⟩:=hr;obtain⟨vs,g1,g2,g3,g4,g5⟩:=re hT h hO hw all rvs rs h2;split at h1
  ·rename_i u hu;obtain⟨v,hv1,hv2⟩:=FN hT h hu;refine⟨v::vs,by simp[Ri,hv1,g1],by simp[g2],?_,?_,fun H' hH hno=>⟨?_,g5 H' hH hno⟩⟩
   ·rintro b (⟨hb1,hb2⟩|hb)
    ·cases r with
     |z t x=>simp[RV.isOwn] at hb1
     |fn f caps=>simp[RV.isOwn] at hb1
     |val u=>simp[RV.isOwn] at hb1
     |own t T xs=>
      simp only[eI] at h1;split at h1
      ·rename_i id;refine⟨id,by simp[dH,hu],?_,h1.1.2,?_⟩;·rw[<- hv2.1];exact hb2
       ·(obtain⟨_,h1⟩:=h1;split at h1;·rename_i hg;exact⟨_,hg⟩);·exact h1.elim
      ·have hv:v=_:=hv2;rw[hv,kB h1.1] at hb2;simp[Blk] at hb2
      ·exact h1.elim
    ·obtain⟨id,hid,hb⟩:=g3 b hb;refine⟨id,?_,hb⟩;cases r with
     |z t x=>simpa [dH] using hid
     |fn f caps=>simpa [dH] using hid
     |val u=>simpa [dH] using hid
     |own t T xs=>
      (simp only[dH];split;·exact OF _ hid);·exact hid
   ·refine⟨fun hb1 b hb hr=>?_,g4⟩;cases r with
    |z t x=>simp[RV.isOwn] at hb1
    |fn f caps=>simp[RV.isOwn] at hb1
    |val u=>simp[RV.isOwn] at hb1
    |own t T xs=>
     simp only[eI] at h1;obtain⟨id',hid',hb',_,o',ho'⟩:=g3 b hr;split at h1
     ·(rename_i id;obtain⟨hnot,h1⟩:=h1;split at h1;·rename_i hg;have hne:id≠id':=fun e=>hnot.1 (e▸hid');rw[hv2.1] at hb;exact h.two (p:=(id,_)) (q:=(id',o')) (get?_mem hg) (get?_mem ho') hne hb hb');·exact h1.elim
     ·have hv:v=_:=hv2;rw[hv,kB h1.1] at hb;simp[Blk] at hb
     ·exact h1.elim
   ·cases r with
    |z t x=>
     simp only[eI] at h1;split at h1
     ·(rename_i id;obtain⟨hnot,h1⟩:=h1;split at h1;·rename_i u' T' xs hg;have:=zH h hO hg hv2.1 hv2.2 hH (fun b hb hHb=>hno id _ b hg hnot.1 hnot.2 hb hHb);exact LV.get_ok h1 this);·exact h1.elim
     ·have q:aJ _ w ρ (.z t x) v:=AV.get_ok h1 hv2;exact⟨q.1,Ty.rep_move (fun b _ hb=>hH b hb) (aW.refl _ _) q.2⟩
    |own t T xs=>
     simp only[eI] at h1;split at h1
     ·(rename_i id;obtain⟨⟨_,hlt⟩,h1⟩:=h1;split at h1;·rename_i u' T' ys hg;obtain⟨rfl,rfl,rfl⟩:=h1;obtain⟨cells,q1,q2⟩:=h.own _ (get?_mem hg);refine⟨hv2.2,cells,aS (fun b _ hb=>hH b hb) (aW.refl _ _) q1,?_⟩;rw[hv2.1];exact q2);·exact h1.elim
     ·have hv:v=_:=hv2;obtain⟨hn,rfl⟩:=h1;rw[hv,kB hn];exact⟨⟨_,_,_,rfl⟩,[],rfl,jv _ _ _ _⟩
     ·exact h1.elim
    |fn f caps=>
     simp only[eI] at h1;split at h1;·obtain⟨rfl,rfl,hp⟩:=h1;obtain⟨ws,hv,hc⟩:=hv2;refine⟨ws,hv,i6 hp (fun b hb=>hH b hb) hc⟩
     ·(rename_i first caps');obtain⟨rfl,e1,e2,rfl⟩:=h1;have hv:v=_:=hv2;(have e1:first= #[]:=QG e1);have e2:caps'= #[]:=QG e2;exact⟨[],by rw[hv,e1,e2],trivial⟩
     ·exact h1.elim
    |val u=>
     simp only[eI] at h1;subst h1;exact hv2
  ·exact h1.elim
 | [],_::_,hr=>hr.elim
 |_::_,[],hr=>hr.elim
def aD:Nat->List LV->List (Nat×AV)
 |_,[]=>[]
 |i,a::r=>(i,.l a)::aD (i+1) r
theorem mm:∀{args:List LV} {i:Nat} {e:Nat×AV},e∈aD i args->∃k,∃_:k<args.length,e=(i+k,.l args[k])
 |a::r,i,e,h=>by
  simp only[aD,IS] at h;rcases h with rfl|h;·exact⟨0,by simp,rfl⟩
  ·obtain⟨k,hk,rfl⟩:=mm h;exact⟨k+1,by simpa using hk,by simp;omega⟩
def CV.io(n:Nat):CV->Bool
 | .z _ _=>true
 | .p id=>ioB<=id&&id<ioB+n
def LV.io(n:Nat):LV->Bool
 | .z _ _| .val _| .junk=>true
 | .ownS id| .ownP id _| .ownM id| .ownR id _=>ioB<=id&&id<ioB+n
 | .fn _ caps=>caps.all (CV.io n)
 |_=>false
def aB.io(n:Nat):aB->Bool
 | .box _ cs=>cs.all (LV.io n)
 |_=>true
def DW(s:aa)(n:Nat):Nat->List aB->Prop
 |_,[]=>True
 |k,o::r=>(match get? s.own k with
  |some u=>u.leq s.own o/\o.io n=true
  |none=>False)/\DW s n (k+1) r
def zI(T:Tab)(fn:Func)(rs:List RV)(os:List aB)(s:aa):Prop:=
 ∃l:List Nat,nc T (s.freezeAll l) (dH T (s.freezeAll l) fn.results.toList rs) fn.results.toList rs/\DW (s.freezeAll l) os.length ioB os
theorem St.freezeAll{X:Cx}{s:aa}{a:Act}{w:World}(h:St X s a w)(l:List Nat):St X (s.freezeAll l) a w:=by
 obtain⟨ρ,hf⟩:=h.fits;exact⟨h.marks,h.kept,h.size,h.below,h.others,h.small,ρ,hf.freezeAll h.others l⟩
def Ends(T:Tab)(fn:Func)(rs:List RV)(os:List aB)(e:Exit)(s:aa):Prop:=match e with
 | .normal=>zI T fn rs os s
 | .ret=>zI T fn rs os s
 |_=>False
theorem Br{s:aa}{n:Nat}:∀{os:List aB} {k:Nat},DW s n k os->∀p∈af k os,∃u,get? s.own p.1=some u/\u.leq s.own p.2/\p.2.io n=true
 | [],_,_,p,hp=>by simp[af] at hp
 |o::r,k,h,p,hp=>by
  simp only[af,IS] at hp;rcases hp with rfl|hp
  ·(have h1:=h.1;split at h1;·rename_i u hu;exact⟨u,hu,h1.1,h1.2⟩);·exact h1.elim
  ·exact Br h.2 p hp
theorem I1{H:Nat->Prop}{w:World}{ρ ρ':Nat->Value}{n:Nat}(hρ:∀k,ioB<=k->k<ioB+n->ρ' k=ρ k){x:LV}(hx:x.io n=true){v:Value}(h:aJ H w ρ x v):aJ H w ρ' x v:=by
 refine aN (fun _ _ h=>h) (aW.refl _ _) (fun id hid=>?_) h;cases x with
 |ownS i=>
  simp only[LV.isOf,beq_iff_eq] at hid;subst hid;simp only[LV.io,N9,decide_eq_true_eq] at hx;exact hρ _ hx.1 hx.2
 |ownM i=>
  simp only[LV.isOf,beq_iff_eq] at hid;subst hid;simp only[LV.io,N9,decide_eq_true_eq] at hx;exact hρ _ hx.1 hx.2
 |ownR i j=>
  simp only[LV.isOf,beq_iff_eq] at hid;subst hid;simp only[LV.io,N9,decide_eq_true_eq] at hx;exact hρ _ hx.1 hx.2
 |ownP i off=>
  simp only[LV.isOf,beq_iff_eq] at hid;subst hid;simp only[LV.io,N9,decide_eq_true_eq] at hx;exact hρ _ hx.1 hx.2
 |fn f caps=>
  simp only[LV.isOf,Tc] at hid;obtain⟨c,hc,hci⟩:=hid;have:=Ob.1 hx c hc;cases c with
  |z t y=>simp[CV.isOf] at hci
  |p i=>
   simp only[CV.isOf,beq_iff_eq] at hci;subst hci;simp only[CV.io,N9,decide_eq_true_eq] at this;exact hρ _ this.1 this.2
 |z t y=>simp[LV.isOf] at hid
 |val u=>simp[LV.isOf] at hid
 |junk=>simp[LV.isOf] at hid
 |ownE=>simp[LV.io] at hx
 |ownA=>simp[LV.io] at hx
 |ownB=>simp[LV.io] at hx
 |ownW=>simp[LV.io] at hx
theorem Lc{H:Nat->Prop}{w:World}{ρ ρ0:Nat->Value}{M M':Nat->Prop}{own:List (Nat×aB)}{n k:Nat}{u o:aB}(hg:get? own k=some u)(hle:u.leq own o)(ho:o.io n=true)(h:bW H w ρ M (k,u))(hk:ρ0 k=ρ k)
  (hρ:∀i,ioB<=i->i<ioB+n->ρ0 i=bT ρ own i) (hM:∀b,Blk (ρ k) b->M' b):bW H w ρ0 M' (k,o):=by
 have h:=h.moved (H':=H) (ρ':=ρ) (k:=k) (f:=id) (fun _ _ h=>h) (fun _ _ h=>h) rfl hM;rw[aB.map_id] at h;have e:bT ρ own k=ρ k:=by simp[bT,hg]
 cases u with
 |box T us=>
  cases o with
  |box T' vs=>
   obtain⟨rfl,hl⟩:=hle;obtain⟨b,l,h1,h2,h3,h4⟩:=h;refine⟨b,l,by rw[hk];exact h1,h2,h3,?_⟩;have:=kH (H:=H) (H':=H) (w:=w) (fun _ _ h=>h) hl h4;exact this.imp fun c v hc hr=>⟨I1 hρ (Ob.1 ho c hc) hr.1,hr.2⟩
  |arr _ _ _=>exact hle.elim
  |win _ _ _ _ _=>exact hle.elim
  |mat _ _ _ _ _=>exact hle.elim
  |que _ _ _=>exact hle.elim
 |mat t T E rows idx=>
  cases o with
  |que _ _ _=>exact hle.elim
  |box _ _=>exact hle.elim
  |arr _ _ _=>exact hle.elim
  |win _ _ _ _ _=>exact hle.elim
  |mat t' T' E' rows' idx'=>
   obtain⟨rfl,rfl,rfl,rfl,rfl⟩:=hle;obtain⟨h0,vs,cells,h1,h2⟩:=h;exact⟨h0,vs,cells,by rw[hk];exact h1,h2⟩
 |que t T xs=>
  cases o with
  |que t' T' ys=>
   obtain⟨rfl,rfl,rfl⟩:=hle;obtain⟨cells,h1,h2⟩:=h;exact⟨cells,h1,by rw[hk];exact h2⟩
  |mat _ _ _ _ _=>exact hle.elim
  |box _ _=>exact hle.elim
  |arr _ _ _=>exact hle.elim
  |win _ _ _ _ _=>exact hle.elim
 |arr t T xs=>
  cases o with
  |mat _ _ _ _ _=>exact hle.elim
  |que t' T' ys=>
   obtain⟨rfl,rfl,rfl⟩:=hle;obtain⟨cells,h1,h2⟩:=h;exact⟨cells,h1,by rw[hk];exact lC h2⟩
  |box _ _=>exact hle.elim
  |win _ _ _ _ _=>exact hle.elim
  |arr t' T' ys=>
   obtain⟨rfl,rfl,rfl⟩:=hle;obtain⟨cells,h1,h2⟩:=h;exact⟨cells,h1,by rw[hk];exact h2⟩
 |win t T pre xs post=>
  cases o with
  |mat _ _ _ _ _=>exact hle.elim
  |que _ _ _=>exact hle.elim
  |box _ _=>exact hle.elim
  |arr _ _ _=>exact hle.elim
  |win t' T' pre' xs' post'=>
   obtain⟨rfl,rfl,rfl,rfl,rfl⟩:=hle;obtain⟨g,cap,cells,cur,h1,h2,h3⟩:=h;exact⟨g,cap,cells,cur,h1,by rw[hk];exact h2,h3⟩
theorem po{P:Program}{fn:Func}{tmps:Array Value}{w:World}{vs:List Value}(h:(fn.results.toList.mapM (rb tmps)).run P w= .ok vs w):(results fn tmps).run P w= .ok (pV vs) w:=by
 unfold results;change (do
  let vs <- fn.results.mapM (rb tmps)
  pure (if h:vs.size=1 then vs[0] else .tuple vs):Sem Value).run P w=_
 rw[Sem.run_bind,Array.mapM_eq_mapM_toList];simp[h];match vs with
 | []=>rfl
 | [v]=>rfl
 |v::u::r=>rfl
theorem St.unmark{X:Cx}{s:aa}{a:Act}{w:World}{d:Deferred}{ds:List Deferred}(h:St X s a w)(hd:a.defers=d::ds):
  ∃D w2,d.target= .collected D/\(Instr.takeDeferred D).run X.P w= .ok [] w2/\St X s {a with defers:=ds} w2:=by
 obtain⟨D,rfl,hB,hD⟩:=h.marks.each d (by rw[hd];simp);have hap:=h.marks.apart;rw[hd,OW] at hap;have hother:∀k:Nat,k≠D->(w.putObj D (.deferred none)).heap[k]? =w.heap[k]? :=fun k hk=>World.putObj_heap_other hk;have hcell:∀k:Nat,(∃o:Obj,w.heap[k]? =some o/\o.isCells=true)->(w.putObj D (.deferred none)).heap[k]? =w.heap[k]? :=by
  rintro k ⟨o,h1,h2⟩;refine hother k ?_;rintro rfl;rw[hD] at h1;cases h1;cases h2
 refine⟨D,_,rfl,run_takeDeferred hD,?_⟩;obtain⟨ρ,hf⟩:=h.fits;have hs:aW (hot X.O ρ s.own) w (w.putObj D (.deferred none)):=fun b _ hb=>hcell b hb;refine⟨⟨fun hq=>absurd (h.marks.quiet hq) (by rw[hd];simp),fun d' hd'=>?_,hap.2⟩,h.kept,h.size,?_,h.others,h.small,ρ,fun e he=>?_,fun p hp=>?_,hf.io,hf.apart⟩;·obtain⟨D',rfl,h2,h3⟩:=h.marks.each d' (by rw[hd];exact OF _ hd');refine⟨D',rfl,h2,(hother D' ?_).trans h3⟩;rintro rfl;exact hap.1 _ hd' rfl
 ·exact⟨h.below.os,h.below.tape,h.below.output,by simpa using h.below.size,fun k hk hm=>(hother k (by omega)).trans (h.below.block k hk hm)⟩
 ·have:=eF (f:=id) (fun x v hx=>aN (fun _ _ h=>h) hs (fun _ _=>rfl) hx) (hf.env e he);have e2:e.2.map id=e.2:=by cases e.2<;>simp[AV.map]
  rwa [e2] at this
 ·exact(hf.own p hp).move_id (fun _ _ h=>h) hs (fun b hb=>hcell b ((hf.own p hp).cells hb))
theorem oo{X:Cx}{s:aa}{n:Nat}{fn:Func}{R:Ending->World->Prop}:∀(ds:List Deferred) (a:Act) (w:World),a.defers=ds->St X s a w->
  (∀a' w',a'.tmps=a.tmps->a'.defers=[]->St X s a' w'->∃v,(results fn a'.tmps).run X.P w'= .ok v w'/\R (.returned v) w')->LeavesInM (fw none) n X.P fn a.tmps R ds .returning w
 | [],a,w,hd,h,hfin=>hfin a w rfl hd h
 |d::ds,a,w,hd,h,hfin=>by
  obtain⟨D,w2,h1,h2,h3⟩:=h.unmark hd;exact⟨by simp,.inl ⟨D,w2,h1,h2,oo ds {a with defers:=ds} w2 rfl h3 (fun a' w' ht=>hfin a' w' ht)⟩⟩
theorem px{P:Program}{T:Tab}(hT:cT P T){f:FuncId}{fn:Func}{code:Code}{c:Con}{fr:List Nat}(hf:P.funcs[f]? =some fn)(hb:fn.body=some code)(hN:T.N=fn.ntmps)(hkeep:T.keep=[])(hfr:∀k,ioB<=k->T.free.contains k=true->fr.contains (k-ioB)=true)
  (h:∀(args:List LV) (os:List aB) (C:Prop) (rs:List RV) (os':List aB),c args os=some (C,rs,os')->C->args.length<=T.N/\os'.length=os.length/\∀X:Cx,X.P=P->X.T=T->X.calm->J X code {env:=aD 0 args,own:=af ioB os} (Ends T fn rs os')) (hpins:T.pins=[]:=by rfl):Valid T.base P f c fr:=by
 intro args os C rs os' hc hC O w vals ρ0 hOn hIo hO hOI hargs hown hap;obtain⟨hlen,hlos,hJ⟩:=h args os C rs os' hc hC;have hJ:=hJ {P:=P,T:=T,O:=O,I:=bj ρ0 os,ρ0:=ρ0,w0:=w,r:=none,tm:=fun _=>undef,q:=false} rfl rfl ⟨rfl,rfl⟩;have hal:=hargs.length;refine CallsIn.calls (callsIn_of_wp_marks (F:=fw none) (n:=2) hf hb trivial ?_) (fun k=>room_wide k);have hst:St {P:=P,T:=T,O:=O,I:=bj ρ0 os,ρ0:=ρ0,w0:=w,r:=none,tm:=fun _=>undef,q:=false} {env:=aD 0 args,own:=af ioB os} {tmps:=vals++Ov (fn.ntmps-vals.size) undef,defers:=[]} w:=by
  refine⟨Marks.nil _ _ _,fun t ht=>by rw[hkeep] at ht;simp at ht,?_,Bel.refl _ _,fun b hb hm=>hm.elim (fun h1=>?_) (hOI b hb),⟨hT.small,hOn,hIo,fun b v t hp=>by simp only[hpins] at hp;cases hp⟩,ρ0,fun e he=>?_,fun p hp=>?_,fun _ _ _ _=>rfl,hap⟩;·simp only[Array.size_append,Array.size_replicate];(have:vals.size=args.length:=by rw[hal];simp);rw[hN] at hlen ⊢;omega
  ·have:=hO b hb;simp only at h1;omega
  ·obtain⟨k,hk,rfl⟩:=mm he;obtain⟨v,hv1,hv2⟩:=hargs.get (AI hk);(have hkv:k<vals.size:=by have:=(Oh.1 hv1).1;simpa using this);have hget:(vals++Ov (fn.ntmps-vals.size) undef).getD (0+k) undef=v:=by
    rw[Oz,O1,Array.getElem?_append_left hkv];(have:vals[k]? =some v:=by simpa using hv1);rw[this];rfl
   simp only;rw[hget];exact hv2
  ·have:=(hown p hp).moved (H':=hot O ρ0 (af ioB os)) (ρ':=ρ0) (k:=p.1) (f:=id) (M':=Cx.M {P:=P,T:=T,O:=O,I:=bj ρ0 os,ρ0:=ρ0,w0:=w,r:=none,tm:=fun _=>undef,q:=false}) (fun _ _ h=>h) (fun _ _ h=>h) rfl (fun b hb=> .inr ⟨p,hp,hb⟩);rw[aB.map_id] at this;exact this
 refine Code.wpIn_mono (fun e a w' ⟨s',h1,h2⟩=>?_) (hJ _ _ hst);have fin:∀s':aa,nc T s' (dH T s' fn.results.toList rs) fn.results.toList rs->DW s' os'.length ioB os'->∀a w',a.defers=[]->St {P:=P,T:=T,O:=O,I:=bj ρ0 os,ρ0:=ρ0,w0:=w,r:=none,tm:=fun _=>undef,q:=false} s' a w'->∃v,(results fn a.tmps).run P w'= .ok v w'/\(∃(vs:List Value) (ρ1:Nat->Value),Ending.returned v= .returned (pV vs)/\os'.length=os.length/\Bel (fun b=>w.heap.size<=b∨bj ρ0 os b) w w'/\
   (∀k,¬(ioB<=k/\k<ioB+os.length/\fr.contains (k-ioB)=true)->ρ1 k=ρ0 k)/\
   aY (jP (cK (hot O ρ1 (af ioB os')) rs vs) w' (fun b=>w.heap.size<=b∨bj ρ0 os b)) rs vs/\fk rs vs/\(∀p∈af ioB os',bW (cK (hot O ρ1 (af ioB os')) rs vs) w' ρ1 (fun b=>w.heap.size<=b∨bj ρ0 os b) p)/\
   mX ρ1 (af ioB os')/\∀b,bj ρ1 os' b-> ¬cK (fun _=>False) rs vs b):=by
  intro s' hr hio a w' _ h2;obtain⟨ρ,hfit⟩:=h2.fits;obtain⟨ρ1,hρ1d⟩:∃ ρ1:Nat->Value,ρ1=fun k=>if ioB<=k/\k<ioB+os.length/\T.free.contains k=true then ρ k else ρ0 k:=⟨_,rfl⟩
  have hthere:∀p∈af ioB os',∃u,get? s'.own p.1=some u/\ρ p.1=ρ1 p.1/\ioB<=p.1/\u.leq s'.own p.2/\p.2.io os'.length=true:=by
   (intro p hp;obtain⟨q1,q2⟩:=dN.1 hp;obtain⟨u,hu,hle,hpio⟩:=Br hio p hp;refine⟨u,hu,?_,q1,hle,hpio⟩;rw[hρ1d];by_cases hF:T.free.contains p.1=true;·simp only;rw[if_pos ⟨q1,by have:=(Oh.1 q2).1;omega,hF⟩]);·simp only;rw[if_neg (fun e=>hF e.2.2)];exact hfit.io (p.1,u) (get?_mem hu) q1 (by simpa using hF)
  obtain⟨vs,g1,g2,g3,g4,g5⟩:=re (X:={P:=P,T:=T,O:=O,I:=bj ρ0 os,ρ0:=ρ0,w0:=w,r:=none,tm:=fun _=>undef,q:=false}) hT hfit h2.others h2.below.size _ _ _ hr;have hHs:∀b,cK (hot O ρ1 (af ioB os')) rs vs b->hot O ρ s'.own b:=by
   (intro b hb;rw[eH] at hb;rcases hb with(hb|⟨p,hp,hb⟩)|hb;·exact .inl hb);·obtain⟨u,hu,e,_⟩:=hthere p hp;rw[<- e] at hb;exact db (p:=(p.1,u)) (get?_mem hu) hb
   ·obtain⟨id,_,hb2,_,o,ho⟩:=g3 b hb;exact db (p:=(id,o)) (get?_mem ho) hb2
  refine⟨_,po g1,vs,ρ1,rfl,hlos,h2.below,fun k hk=>?_,g5 _ hHs (fun id o b ho hid hlt hbk hb=>?_),g4,fun p hp=>?_,?_,fun b hb hbr=>?_⟩;·rw[hρ1d];simp only;rw[if_neg (fun e=>hk ⟨e.1,e.2.1,hfr k e.1 e.2.2⟩)]
  ·(rw[eH] at hb;rcases hb with(hb|⟨p,hp,hb⟩)|hb;·exact hb);·obtain⟨u,hu,e,hge,_⟩:=hthere p hp;rw[<- e] at hb;exact absurd hb (hfit.two (p:=(id,o)) (q:=(p.1,u)) (get?_mem ho) (get?_mem hu) (by simp only;omega) hbk)
   ·obtain⟨id',hid',hb2,_,o',ho'⟩:=g3 b hb;have hne:id≠id':=fun e=>hid (e▸hid');exact absurd hb2 (hfit.two (p:=(id,o)) (q:=(id',o')) (get?_mem ho) (get?_mem ho') hne hbk)
  ·obtain⟨u,hu,e,q1,hle,hpio⟩:=hthere p hp;have hρk:∀i,ioB<=i->i<ioB+os'.length->∃u,get? s'.own i=some u/\ρ i=ρ1 i:=by
    intro i hi hi2;obtain⟨u,hu,e,_⟩:=hthere (i,os'[i-ioB]'(by omega)) (dN.2 ⟨hi,by simp⟩);exact⟨u,hu,e⟩
   have hown:=hfit.own (p.1,u) (get?_mem hu);have h5:=hown.moved (H':=cK (hot O ρ1 (af ioB os')) rs vs) (ρ':=ρ) (k:=p.1) (f:=id) (M':=Cx.M {P:=P,T:=T,O:=O,I:=bj ρ0 os,ρ0:=ρ0,w0:=w,r:=none,tm:=fun _=>undef,q:=false}) (fun b _ hb=>hHs b hb) (fun x v hx=>aN (fun b _ hb=>hHs b hb) (aW.refl _ _) (fun _ _=>rfl) hx) rfl (fun b hb=>(hown.lt hb).1);rw[aB.map_id] at h5;refine Lc hu hle hpio h5 e.symm (fun i hi hi2=>?_) (fun b hb=>(hown.lt hb).1);obtain⟨u',hu',e'⟩:=hρk i hi hi2;simp only[bT,hu',e']
  ·exact gP (fun i j=>i≠j/\∀b,Blk (ρ1 i) b-> ¬Blk (ρ1 j) b) os' ioB (fun i j h1 h2 h3=>by
    refine⟨by omega,fun b hb hjb=>?_⟩;obtain⟨u,hu,e,_⟩:=hthere (i,os'[i-ioB]'(by omega)) (dN.2 ⟨h1,by simp⟩);obtain⟨u',hu',e',_⟩:=hthere (j,os'[j-ioB]'(by omega)) (dN.2 ⟨by simp only;omega,by simp⟩);simp only at e e' hu hu';rw[<- e] at hb;rw[<- e'] at hjb;exact hfit.two (p:=(i,u)) (q:=(j,u')) (get?_mem hu) (get?_mem hu') (by simp only;omega) hb hjb)
  ·obtain⟨p,hp,hpb⟩:=hb;obtain⟨u,hu,e,hge,_⟩:=hthere p hp;rw[<- e] at hpb;obtain⟨id,_,hb2,hlt,o,ho⟩:=g3 b hbr;exact hfit.two (p:=(id,o)) (q:=(p.1,u)) (get?_mem ho) (get?_mem hu) (by simp only;omega) hb2 hpb
 cases e with
 |normal=>obtain⟨l,h1,h3⟩:=h1;exact oo _ a w' rfl (h2.freezeAll l) (fun a' w' _ hd hst=>fin _ h1 h3 a' w' hd hst)
 |ret=>obtain⟨l,h1,h3⟩:=h1;exact oo _ a w' rfl (h2.freezeAll l) (fun a' w' _ hd hst=>fin _ h1 h3 a' w' hd hst)
 |exit i=>exact h1.elim
 |goto l=>exact h1.elim
 |panic ch=>exact h1.elim
 |outgrown=>exact h1.elim
theorem bh{P:Program}{T:Tab}(hT:cT P T){f:FuncId}{fn:Func}{code:Code}{c:Con}(hf:P.funcs[f]? =some fn)(hb:fn.body=some code)(hN:T.N=fn.ntmps)(hkeep:T.keep=[])
  (h:∀(args:List LV) (os:List aB) (C:Prop) (rs:List RV) (os':List aB),c args os=some (C,rs,os')->C->args.length<=T.N/\os'.length=os.length/\∀X:Cx,X.P=P->X.T=T->X.calm->J X code {env:=aD 0 args,own:=af ioB os} (Ends T fn rs os')) (hfree:T.free=[]:=by rfl) (hpins:T.pins=[]:=by rfl):Valid T.base P f c:=
 px hT hf hb hN hkeep (fun k _ hk=>by rw[hfree] at hk;simp at hk) (fun args os C rs os' hc hC=>by
  exact h args os C rs os' hc hC) hpins
end Go.Cm
end
section
namespace Go.Cm
open Go.RowKit
theorem ia{P:Program}{T n:Nat}{z:Option Value}(h:(P.info? T).map (fun i=>(i.size,i.zero))=some (n,z)):∃i,P.info? T=some i/\i.size=n/\i.zero=z:=by
 cases hi:P.info? T with
 |none=>simp[hi] at h
 |some i=>simp[hi] at h;exact⟨i,rfl,h.1,h.2⟩
section
variable {P:Program} {T:TypeId}
theorem oq{k:IntKind}(h:(P.info? T).map (fun i=>(i.size,i.zero))=some (1,some (.int k 0)):=by kernel_rfl)(hd:P.underlying T=some (.int k):=by kernel_rfl):cE P T (.int k):=by
 obtain⟨i,h1,h2,h3⟩:=ia h;exact⟨i,_,h1,hd,h2,rfl,h3,rfl⟩
theorem I2(h:(P.info? T).map (fun i=>(i.size,i.zero))=some (1,some (.bool false)):=by kernel_rfl)(hd:P.underlying T=some .bool:=by kernel_rfl):cE P T .bool:=by
 obtain⟨i,h1,h2,h3⟩:=ia h;exact⟨i,_,h1,hd,h2,rfl,h3,rfl⟩
theorem FO(h:(P.info? T).map (fun i=>(i.size,i.zero))=some (1,some (.string ⟨#[]⟩)):=by kernel_rfl)(hd:P.underlying T=some .string:=by kernel_rfl):cE P T .str:=by
 obtain⟨i,h1,h2,h3⟩:=ia h;exact⟨i,_,h1,hd,h2,rfl,h3,rfl⟩
theorem Bt(h:(P.info? T).map (fun i=>(i.size,i.zero))=some (1,some .nilFunc):=by kernel_rfl)(hd:∃a b c,P.underlying T=some (.func a b c)):cE P T .func:=by
 obtain⟨i,h1,h2,h3⟩:=ia h;obtain⟨a,b,c,hd⟩:=hd;exact⟨i,_,h1,hd,h2,rfl,h3,a,b,c,rfl⟩
theorem Ld{E:TypeId}{t:Ty}(h:(P.info? T).map (fun i=>(i.size,i.zero))=some (1,some (.pointer none)):=by kernel_rfl)(hd:P.underlying T=some (.pointer E):=by kernel_rfl):cE P T (.ptr t):=by
 obtain⟨i,h1,h2,h3⟩:=ia h;exact⟨i,_,h1,hd,h2,rfl,h3,E,rfl⟩
theorem iD{E:TypeId}{t:Ty}(h:(P.info? T).map (fun i=>(i.size,i.zero))=some (1,some (.slice none 0 0)):=by kernel_rfl)(hd:P.underlying T=some (.slice E):=by kernel_rfl)
  (he:(P.info? E).map (fun i=>(i.size,i.zero))=some (t.w,some (mkV t.isAgg t.zeroCells)):=by kernel_rfl) (hb:(P.info? E).map (fun i=>decide (i.bytes<=24*t.w))=some true:=by kernel_rfl) (hw:t.isAgg=true∨t.w=1):cE P T (.slice t):=by
 obtain⟨i,h1,h2,h3⟩:=ia h;obtain⟨j,g1,g2,g3⟩:=ia he;rw[g1] at hb;have hb:j.bytes<=24*t.w:=by simpa using hb
 exact⟨i,_,h1,hd,h2,rfl,h3,E,j,rfl,g1,g2,hb,g3,fun h=>hw.resolve_left (by simp[h])⟩
theorem Le{E n:Nat}{t:Ty}(h:(P.info? T).map (fun i=>(i.size,i.zero))=some (n*t.w,some (.agg (N6 n t.zeroCells).flatten.toArray)):=by kernel_rfl)(hd:P.underlying T=some (.array n E):=by kernel_rfl)
  (he:(P.info? E).map (fun i=>i.size)=some t.w:=by kernel_rfl) (hr:(P.underlying E).map TypeDesc.isRow=some t.isAgg:=by kernel_rfl) (hw:t.isAgg=true∨t.w=1):cE P T (.arr n t):=by
 obtain⟨i,h1,h2,h3⟩:=ia h;cases hj:P.info? E with
 |none=>simp[hj] at he
 |some j=>
  cases hu:P.underlying E with
  |none=>simp[hu] at hr
  |some d'=>
   simp[hj] at he;simp[hu] at hr;exact⟨i,_,h1,hd,h2,rfl,h3,E,j,d',rfl,hj,he,hu,hr,fun h=>hw.resolve_left (by simp[h])⟩
def Bu(P:Program)(t:Ty)(fs:Array Field)(k:Nat):Bool:=
 match fs[k]? with
 |some f=>match P.info? f.type,P.underlying f.type with
  |some j,some e=>(f.offset==t.fieldOff k)&&(j.size==(t.fieldTy k).w)&&(j.size !=0)&&(e.isRow==(t.fieldTy k).isAgg)&&((t.fieldTy k).isAgg||((t.fieldTy k).w==1))
  |_,_=>false
 |none=>false
def xy(P:Program)(T:TypeId)(t:Ty):Bool:=
 match P.underlying T with
 |some (.struct fs)=>(fs.size==t.fields.length)&&(Pa t.fields.length).all (Bu P t fs)
 |_=>false
theorem ui{t:Ty}(h:(P.info? T).map (fun i=>(i.size,i.zero))=some (t.w,some (.agg t.zeroCells.toArray)):=by kernel_rfl)(hf:xy P T t=true:=by kernel_rfl):cE P T (.st t):=by
 obtain⟨i,h1,h2,h3⟩:=ia h;unfold xy at hf;split at hf
 ·rename_i fs hd;simp only[N9,beq_iff_eq,Ob,OJ] at hf;refine⟨i,_,h1,hd,h2,rfl,h3,fs,rfl,hf.1,fun k hk=>?_⟩;have:=hf.2 k hk;unfold Bu at this;split at this
  ·(rename_i f hfk;split at this;·rename_i j e hj he;simp only[N9,OT,beq_iff_eq,bne_iff_ne] at this;obtain⟨⟨⟨⟨a1,a2⟩,a3⟩,a4⟩,a5⟩:=this;exact⟨f,j,e,hfk,a1,hj,a2,a3,he,a4,fun h=>a5.resolve_left (by simp[h])⟩);·cases this
  ·cases this
 ·cases hf
end
section
variable {P:Program} {B:av}
theorem ah:∀t u,get? ([]:List (TypeId×Ty)) t=some u->cE P t u:=fun _ _ h=>by simp[get?] at h
theorem zJ{T:TypeId}{t:Ty}{l:List (TypeId×Ty)}(h:cE P T t)(hl:∀t u,get? l t=some u->cE P t u):∀t' u,get? ((T,t)::l) t'=some u->cE P t' u:=by
 intro t' u he;simp only[get?] at he;split at he;·rename_i e;cases he;subst e;exact h
 ·exact hl _ _ he
theorem aj:∀t e,get? ([]:List (TypeId×TypeId)) t=some e->P.underlying t=some (.slice e):=fun _ _ h=>by simp[get?] at h
theorem bo{T E:TypeId}{l:List (TypeId×TypeId)}(h:P.underlying T=some (.slice E))(hl:∀t e,get? l t=some e->P.underlying t=some (.slice e)):∀t e,get? ((T,E)::l) t=some e->P.underlying t=some (.slice e):=by
 intro t' u he;simp only[get?] at he;split at he;·rename_i e;cases he;subst e;exact h
 ·exact hl _ _ he
structure py (B:av) (P:Program) (f:FuncId) (c:Con) (fr:List Nat:=[]):Prop where
 valid:Valid B P f c fr
 body:∃fn,P.funcs[f]? =some fn/\(fn.name== "runtime.NumGoroutine")=false/\fn.body.isNone=false
theorem Lf{f:FuncId}{fn:Func}{c:Con}{fr:List Nat}(hf:P.funcs[f]? =some fn)(hn:(fn.name== "runtime.NumGoroutine")=false)(hb:fn.body.isNone=false)(hv:Valid B P f c fr):py B P f c fr:=⟨hv,fn,hf,hn,hb⟩
theorem aF{F:FuncId->List Nat}:∀f c,get? ([]:List (FuncId×Con)) f=some c->py B P f c (F f):=fun _ _ h=>by simp[get?] at h
theorem DX{F:FuncId->List Nat}{f:FuncId}{c:Con}{l:List (FuncId×Con)}(h:py B P f c (F f))(hl:∀f c,get? l f=some c->py B P f c (F f)):∀f' c',get? ((f,c)::l) f'=some c'->py B P f' c' (F f'):=by
 intro f' c' he;simp only[get?] at he;split at he;·rename_i e;cases he;subst e;exact h
 ·exact hl _ _ he
theorem aM{T:Tab}(h:∀f c,get? T.cons f=some c->py T.base P f c ((get? T.frees f).getD [])):eX P T:=⟨fun f c e=>(h f c e).valid,fun f c e=>(h f c e).body⟩
theorem cZ{T:Tab}(h:T.cons=[]):eX P T:=aM (by rw[h];intro f c hc;simp[get?] at hc)
end
end Go.Cm
end
section
namespace Go.Cm
open Go.RowKit
inductive Eff where
 |put (d:Nat) (v:AV)
 |new (d:Nat) (v:AV) (objs:List (Nat×aB))
 |wr (id:Nat) (o:aB)
 |app (d:Nat) (v:AV) (id:Nat) (o:aB)
def Eff.apply:Eff->aa->aa
 | .put d v,s=>s.put d v
 | .new d v objs,s=>{env:=(d,v)::del s.env d,own:=objs++s.own}
 | .wr id o,s=>{s with own:=upd s.own id o}
 | .app d v id o,s=>{env:=(d,v)::del s.env d,own:=upd s.own id o}
def CV.refs:CV->List Nat
 | .p id=>[id]
 | .z _ _=>[]
def LV.refs:LV->List Nat
 | .ownS i| .ownP i _| .ownE i _ _| .ownW i _ _| .ownM i| .ownA i _| .ownR i _| .ownB i _ _ _=>[i]
 | .fn _ caps=>caps.flatMap CV.refs
 |_=>[]
def AV.refs:AV->List Nat
 | .l x=>x.refs
 | .agg cs=>cs.flatMap LV.refs
 | .tup xs=>xs.flatMap LV.refs
 | .g _ x=>x.refs
 | .gt _ xs=>xs.flatMap LV.refs
def aB.refs:aB->List Nat
 | .box _ cs=>cs.flatMap LV.refs
 |_=>[]
def dO:List (Nat×aB)->List Nat
 | []=>[]
 |(k,o)::r=>k::(o.refs++dO r)
def fM:List (Nat×AV)->List Nat
 | []=>[]
 |(_,v)::r=>v.refs++fM r
def aa.refs(s:aa):List Nat:=fM s.env++dO s.own
def Eff.news:Eff->List Nat
 | .new _ _ objs=>objs.map Prod.fst
 |_=>[]
def Eff.refs:Eff->List Nat
 | .put _ v=>v.refs
 | .new _ v objs=>v.refs++dO objs
 | .wr id o=>id::o.refs
 | .app _ v id o=>v.refs++id::o.refs
abbrev Loc:=Bool×Nat
def Eff.locs:Eff->List Loc
 | .put d _=>[(false,d)]
 | .new d _ objs=>(false,d)::objs.map fun p=>(true,p.1)
 | .wr id _=>[(true,id)]
 | .app d _ id _=>[(false,d),(true,id)]
def vV(ops:List Oper)(o:Oper):List Nat:=
 tmpsOf o.op.operands.toList++match o.guard with
  |some (j,_)=>match ops[j]? with
   |some o'=>match o'.dst with
    |some t=>[t]
    |none=>[]
   |none=>[]
  |none=>[]
def dW:Op->Bool
 | .load ..| .indexAddr ..| .slice ..| .store ..| .call ..| .convert ..=>true
 |_=>false
def gH(s:aa):List Nat->List Nat
 | []=>[]
 |t::r=>(match get? s.env t with
  |some v=>v.refs
  |none=>[])++gH s r
def gQ(ops:List Oper)(s:aa)(o:Oper):List Loc:=
 (vV ops o).map (fun t=>(false,t))++if dW o.op=true then (gH s (tmpsOf o.op.operands.toList)).map (fun i=>(true,i)) else []
def zK:RV->Bool
 | .fn _ caps=>caps.all fun c=>c.refs.isEmpty
 |_=>true
def zL(T:Tab)(ops:List Oper)(s:aa)(o:Oper)(j:Nat)(want:Bool)(d:Nat):Option (Prop×AV):=
 match guardOf ops s j want with
 |some φ=>match o.op with
  | .pick c x y=>match ji s c x y with
   |some (C,v)=>some (φ=true->(asks s.env (tmpsOf [c])/\C),.g φ v)
   |none=>none
  |op=>match aT T {s with env:=cw s.env (tmpsOf op.operands.toList)} op with
   |some (C,.l v)=>some (φ=true->(asks s.env (tmpsOf op.operands.toList)/\C),.g φ v)
   |_=>match op with
    | .call c=>match c.callee with
     | .value f=>match cS T d {s with env:=cw s.env (tmpsOf op.operands.toList)} f c.args.toList c.argTypes.toList with
      |some (C,rs)=>match zt φ rs with
       |some v=>if 1000+8*d+rs.length<=ioB then some (φ=true->(asks s.env (tmpsOf op.operands.toList)/\C),v) else none
       |none=>none
      |_=>none
     |_=>none
    |op=>match tE T {s with env:=cw s.env (tmpsOf op.operands.toList)} op with
     |some (C,v)=>some (φ=true->(asks s.env (tmpsOf op.operands.toList)/\C),.g φ v)
     |none=>none
 |none=>none
def jk(T:Tab)(s:aa)(d:Nat)(args:List Operand)(types:List TypeId):Option (Prop×Eff):=
 match args,types with
 | [x,y],[t,u]=>match leaf (aP s x),get? T.types t,get? T.elems t,aP s y with
  |some (.ownR id j),some (.slice v),some E,some y'=>if t=u/\0<v.w/\y'.ids=[] then match y'.get (.slice v) with
    |some ys=>match get? s.own id with
     |some (.mat t' T' e rows idx)=>if h:t'=v then
       if e=E/\id<ioB then
        some (live rows j=true/\Roomy v.w ((rowOf rows j).length+ys.length),.app d (.l (.ownR id rows.length)) id (.mat v T' E ((h▸rows:List (Option (List v.D))).set j none++ [some (rowOf (h▸rows:List (Option (List v.D))) j++ys)]) idx))
       else none
      else none
     |_=>none
    |none=>none
   else none
  |_,_,_,_=>none
 |_,_=>none
def iE(T:Tab)(ops:List Oper)(s:aa)(o:Oper):Option (Prop×Eff):=
 match o.guard with
 |none=>match o.dst with
  |none=>match o.op with
   | .store t x y=>match leaf (aP s x),get? T.types t with
    |some (.ownP id off),some u=>match get? s.own id,aP s y with
     |some (.box e cs),some v=>match v.cells with
      |some new=>if new.length=u.w/\off+u.w<=cs.length then
        some (True,.wr id (.box e (cs.take off++(new++cs.drop (off+u.w)))))
       else none
      |none=>none
     |_,_=>none
    |some (.ownE id w i),some u=>match aP s y,get? s.own id with
     |some v,some (.arr t e xs)=>if v.ids=[] then match v.get u with
      |some a=>if h:u=t then
        if w=t.w then some (i<xs.length,.wr id (.arr t e (xs.set i (h▸a)))) else none
       else none
      |none=>none
      else none
     |_,_=>none
    |some (.ownA id i),some (.slice u)=>match aP s y,get? s.own id with
     |some (.l (.ownR id' j)),some (.mat t T' e rows idx)=>if u=t/\id'=id then
       some (i<idx.length/\j<rows.length,.wr id (.mat t T' e rows (idx.set i (some j))))
      else none
     |_,_=>none
    |_,_=>none
   |_=>none
  |some d=>if T.ok d then
    match o.op with
    | .pick c x y=>match ji s c x y with
     |some (C,v)=>some (asks s.env (tmpsOf [c])/\C,.put d (.l v))
     |none=>none
    | .call c=>match c.callee with
     | .value f=>match cS T d s f c.args.toList c.argTypes.toList with
      |some (C,rs)=>if 1000+8*d+rs.length<=ioB/\rs.all zK=true then
        some (C,.new d (match (bF (1000+8*d) rs).1 with
         | [x]=>AV.l x
         |l=>AV.tup l) (bF (1000+8*d) rs).2)
       else none
      |none=>none
     | .builtin .append=>jk T s d c.args.toList c.argTypes.toList
     |_=>match aT T s (.call c) with
      |some (C,v)=>some (C,.put d v)
      |none=>none
    | .buildSlice e n parts=>match get? T.types e,get? T.elems e with
     |some (.slice t),some _=>match cy s t n 0 parts.toList with
      |some xs=>if (n*t.w<=16777216/\0<t.w)/\T.hint.contains d=false then some (True,.put d (.l (.z (.slice t) xs))) else none
      |none=>none
     |_,_=>none
    | .alloc e=>match get? T.types e with
     |some t=>some (True,.new d (.l (.ownP d 0)) [(d,.box e (t.zeroCells.map ez))])
     |none=>none
    | .build e parts=>match get? T.types e with
     |some (.st t)=>match bL s t.fields 0 parts.toList with
      |some cs=>match dD (.st t) cs with
       |some v=>some (True,.put d v)
       |none=>none
      |none=>none
     |some (.arr n t)=>match cy s t n 0 parts.toList with
      |some xs=>some (True,.put d (.l (.z (.arr n t) xs)))
      |none=>none
     |_=>none
    | .box e x=>match get? T.types e,aP s x with
     |some t,some v=>if T.hint.contains d then
       match v.cells with
       |some cs=>if cs.length=t.w/\cs.all (fun c=> !c.isOf d) then some (True,.new d (.l (.ownP d 0)) [(d,.box e cs)]) else none
       |none=>none
      else if v.ids=[]/\T.hint.contains (3000000+d)=false then match v.get t with
       |some a=>some (True,.put d (.l (.z (.ptr t) a)))
       |none=>none
      else none
     |_,_=>none
    | .makeSlice e l c=>match get? T.types e,get? T.elems e,leaf (aP s l),leaf (aP s c) with
     |some (.slice t),some E,some (.z (.int _) l),some (.z (.int _) c)=>match t.zero with
      |some x=>if 0<t.w/\T.hint.contains (1000000+d)=false then
        some (mkC l c t.w,.new d (.l (.ownS d)) [(d,.arr t E (N6 l.toNat x))])
       else none
      |none=>none
     |_,_,_,_=>none
    |op=>match aT T s op with
     |some (C,v)=>some (C,.put d v)
     |none=>none
   else none
 |some (j,want)=>match o.dst with
  |some d=>if T.ok d then match zL T ops s o j want d with
    |some (C,v)=>some (C,.put d v)
    |none=>none
   else none
  |none=>none
theorem lG{s:aa}{id:Nat}(h:id∉s.refs):s.kill id=s:=by
 have hc:∀c:CV,id∉c.refs->c.isOf id=false:=by
  intro c hc;cases c with
  |z=>rfl
  |p i=>simp[CV.refs] at hc;simp[CV.isOf];exact fun e=>hc e.symm
 have hl:∀x:LV,id∉x.refs->x.kill id=x:=by
  intro x hx;have:x.isOf id=false:=by
   cases x with
   |fn f caps=>
    simp only[LV.isOf,S2];intro c hcm;simp only[LV.refs,RU,not_exists,not_and] at hx;simp[hc c (hx c hcm)]
   |ownS i=>simp[LV.refs] at hx;simp[LV.isOf];exact fun e=>hx e.symm
   |ownP i _=>simp[LV.refs] at hx;simp[LV.isOf];exact fun e=>hx e.symm
   |ownE i _ _=>simp[LV.refs] at hx;simp[LV.isOf];exact fun e=>hx e.symm
   |ownW i _ _=>simp[LV.refs] at hx;simp[LV.isOf];exact fun e=>hx e.symm
   |ownM i=>simp[LV.refs] at hx;simp[LV.isOf];exact fun e=>hx e.symm
   |ownA i _=>simp[LV.refs] at hx;simp[LV.isOf];exact fun e=>hx e.symm
   |ownR i _=>simp[LV.refs] at hx;simp[LV.isOf];exact fun e=>hx e.symm
   |ownB i _ _ _=>simp[LV.refs] at hx;simp[LV.isOf];exact fun e=>hx e.symm
   |_=>rfl
  simp[LV.kill,this]
 have hls:∀xs:List LV,id∉xs.flatMap LV.refs->xs.map (LV.kill id)=xs:=by
  intro xs;induction xs with
  |nil=>intro _;rfl
  |cons x xs ih=>
   intro h;simp only[RE,Oq,not_or] at h;simp[hl x h.1,ih h.2]
 have ha:∀v:AV,id∉v.refs->v.map (LV.kill id)=v:=by
  intro v hv;cases v with
  |l x=>simp only[AV.map,hl x hv]
  |agg cs=>simp only[AV.map,hls cs hv]
  |tup cs=>simp only[AV.map,hls cs hv]
  |g φ x=>simp only[AV.map,hl x hv]
  |gt φ cs=>simp only[AV.map,hls cs hv]
 have he:∀l:List (Nat×AV),id∉fM l->bH (LV.kill id) l=l:=by
  intro l;induction l with
  |nil=>intro _;rfl
  |cons p l ih=>
   intro h;obtain⟨k,v⟩:=p;simp only[fM,Oq,not_or] at h;simp[bH,ha v h.1,ih h.2]
 have ho:∀l:List (Nat×aB),id∉dO l->bg (LV.kill id) l=l/\del l id=l:=by
  intro l;induction l with
  |nil=>intro _;exact⟨rfl,rfl⟩
  |cons p l ih=>
   intro h;obtain⟨k,v⟩:=p;simp only[dO,IS,Oq,not_or] at h;obtain⟨h1,h2⟩:=ih h.2.2;have hk:¬k=id:=fun e=>h.1 e.symm;refine⟨?_,by simp[del,h2,hk]⟩;cases v with
   |box T cs=>simp[bg,aB.map,hls cs h.2.1,h1]
   |_=>simp[bg,aB.map,h1]
 obtain⟨env,own⟩:=s;simp only[aa.refs,Oq,not_or] at h;simp[aa.kill,he env h.1,(ho own h.2).2,(ho own h.2).1]
theorem nd:∀{l:List Nat} {s:aa},(∀i∈l,i∉s.refs)->eA s l=s
 | [],_,_=>rfl
 |i::l,s,h=>by
  rw[eA,lG (h i (by simp))];exact nd fun j hj=>h j (by simp[hj])
theorem xz:∀(rs:List RV) (i:Nat),(bF i rs).2.map Prod.fst=cD i rs
 | [],_=>rfl
 |r::rs,i=>by
  cases r<;>simp[bF,RV.give,cD,xz rs (i+1)]
theorem xA{T:Tab}{ops:List Oper}{s:aa}{o:Oper}{C:Prop}{j:Nat}{want:Bool}{d:Nat}{v:AV}(hg:o.guard=some (j,want))(hd:o.dst=some d)(hok:T.ok d=true)(hv:zL T ops s o j want d=some (C,v)):c9 T ops o s=some (C,s.put d v):=by
 unfold zL at hv;unfold c9;simp only[hg,hd];cases hφ:guardOf ops s j want with
 |none=>simp only[hφ] at hv;cases hv
 |some φ=>
  simp only[hφ] at hv ⊢;rw[if_pos hok];cases hop:o.op with
  |pick c x y=>
   (simp only[hop] at hv ⊢;split at hv;·rename_i C' v' hp;cases hv;simp only[hp]);·cases hv
  |call c=>
   simp only[hop] at hv ⊢;split at hv;·rename_i C' v' hp;cases hv;simp only[hp]
   ·rename_i hno;split;·rename_i C' v' hp;exact(hno C' v' hp).elim
    ·split at hv
     ·rename_i f hcal;simp only[hcal];split at hv
      ·rename_i C' rs hp;split at hv
       ·(rename_i v' hv';split at hv;·rename_i hid;cases hv;simp only[hp,hv'];rw[if_pos hid]);·cases hv
       ·cases hv
      ·cases hv
     ·cases hv
  |_=>
   simp only[hop] at hv ⊢;split at hv;·rename_i C' v' hp;cases hv;simp only[hp]
   ·rename_i hno;split;·rename_i C' v' hp;exact(hno C' v' hp).elim
    ·first
     |(split at hv
       ·rename_i C' v' hp2;cases hv;simp only[hp2]
       ·cases hv)
     |cases hv
theorem xB{T:Tab}{s:aa}{d:Nat}{l:List Operand}{ts:List TypeId}{C:Prop}{e:Eff}(h:jk T s d l ts=some (C,e)):appendOp T s (some d) l ts=some (C,e.apply s):=by
 unfold jk at h;split at h
 ·rename_i x y t u;split at h
  ·rename_i id j v E y' hx ht hE hy;split at h
   ·rename_i hc;split at h
    ·rename_i ys hys;split at h
     ·rename_i t' T' e' rows idx hg;split at h
      ·(rename_i hv;split at h;·rename_i he;cases h;have hfr:=hZ hy hc.2.2;simp only[appendOp,hx,ht,hE];rw[if_pos ⟨hc.1,hc.2.1⟩];simp only[dL,hfr,hy,hys,hg];rw[dif_pos hv,if_pos he];rfl);·cases h
      ·cases h
     ·cases h
    ·cases h
   ·cases h
  ·cases h
 ·cases h
theorem rf{T:Tab}{ops:List Oper}{s:aa}{o:Oper}{C:Prop}{e:Eff}(h:iE T ops s o=some (C,e))(hf:∀i∈e.news,i∉s.refs):∃C',(C->C')/\c9 T ops o s=some (C',e.apply s):=by
 unfold iE at h;split at h
 ·rename_i hg;split at h
  ·rename_i hd;split at h
   ·rename_i t x y hop;have hst:c9 T ops o s=effOp T s none (.store t x y):=by
     unfold c9;rw[hg,hop,hd];rfl
    split at h
    ·rename_i id off u hx ht;split at h
     ·rename_i e' cs v hid hy;split at h
      ·(rename_i new hn;split at h;·rename_i hc;cases h;exact⟨True,fun h=>h,by rw[hst];simp only[effOp,Q2,hx,ht,hid,hy,hn];rw[if_pos hc];rfl⟩);·cases h
      ·cases h
     ·cases h
    ·rename_i id w i u hx ht;split at h
     ·rename_i v t' e' xs hy hid;split at h
      ·rename_i hi;split at h
       ·rename_i a ha;split at h
        ·(rename_i hu;split at h;·rename_i hw;cases h;refine⟨_,fun h=>h,?_⟩;rw[hst];have hfr:=hZ hy hi;simp only[effOp,Q2,hx,ht,dL,hfr,hy,ha,hid];rw[dif_pos hu,if_pos hw];rfl);·cases h
        ·cases h
       ·cases h
      ·cases h
     ·cases h
    ·rename_i id i u hx ht;split at h
     ·(rename_i id' j t' T' e' rows idx hy hid;split at h;·rename_i hc;cases h;refine⟨_,fun h=>h,?_⟩;rw[hst];simp only[effOp,Q2,hx,ht,hy,hid];rw[if_pos hc];rfl);·cases h
     ·cases h
    ·cases h
   ·cases h
  ·rename_i d hd;split at h
   ·rename_i hok;split at h
    ·(rename_i c x y hop;split at h;·rename_i C' v hp;cases h;exact⟨_,fun h=>h,by unfold c9;rw[hg];simp only[hop,hd,hp];rw[if_pos hok];rfl⟩);·cases h
    ·rename_i c hop;split at h
     ·rename_i f hcal;split at h
      ·(rename_i C' rs hp;split at h;·rename_i hid;cases h;(have hno:aT T s (.call c)=none:=by simp only[aT,hcal]);refine⟨C/\True,fun h=>⟨h,trivial⟩,?_⟩;unfold c9;rw[hg];simp only[hop,hd,hno];rw[if_pos hok];simp only[effOp,hcal,jz (d:=d) hp hid.1];have:eA s (cD (1000+8*d) rs)=s:=nd fun i hi=>hf i (by simp only[Eff.news,xz];exact hi);simp only[endCall,this,Eff.apply];congr 2);·cases h
      ·cases h
     ·rename_i hcal;refine⟨_,fun h=>h,?_⟩;(have hno:aT T s (.call c)=none:=by simp only[aT,hcal];rfl);unfold c9;rw[hg];simp only[hop,hd,hno];rw[if_pos hok];simp only[effOp,hcal,xB h]
     ·(rename_i hcal;split at h;·rename_i C' v hp;cases h;exact⟨_,fun h=>h,by unfold c9;rw[hg];simp only[hop,hd,hp];rw[if_pos hok];rfl⟩);·cases h
    ·rename_i e' n parts hop;split at h
     ·rename_i t E ht hE;split at h
      ·(rename_i xs hxs;split at h;·rename_i hc;cases h;refine⟨True,fun h=>h,?_⟩;unfold c9;rw[hg];simp only[hop,hd,aT];rw[if_pos hok];simp only[effOp,ht,hE,eT hxs];rw[if_pos hc.1,if_neg (by rw[hc.2];simp)];rfl);·cases h
      ·cases h
     ·cases h
    ·(rename_i e' hop;split at h;·rename_i t ht;cases h;refine⟨True,fun h=>h,?_⟩;unfold c9;rw[hg];simp only[hop,hd,aT];rw[if_pos hok];simp only[effOp,ht,lG (hf d (by simp[Eff.news])),Eff.apply];rfl);·cases h
    ·rename_i e' parts hop;split at h
     ·rename_i t ht;split at h
      ·(rename_i cs hcs;split at h;·rename_i v hv;cases h;refine⟨True,fun h=>h,?_⟩;unfold c9;rw[hg];simp only[hop,hd,aT];rw[if_pos hok];simp only[effOp,ht,hcs,hv];rfl);·cases h
      ·cases h
     ·(rename_i n t ht;split at h;·rename_i xs hxs;cases h;refine⟨True,fun h=>h,?_⟩;unfold c9;rw[hg];simp only[hop,hd,aT];rw[if_pos hok];simp only[effOp,ht,eT hxs];rfl);·cases h
     ·cases h
    ·rename_i e' x hop;split at h
     ·rename_i t v ht hx;split at h
      ·rename_i hh;split at h
       ·(rename_i cs hcs;split at h;·rename_i hc;cases h;refine⟨True,fun h=>h,?_⟩;unfold c9;rw[hg];simp only[hop,hd,aT];rw[if_pos hok];simp only[effOp,ht,hx,hcs];rw[if_pos hh,if_pos hc];simp only[lG (hf d (by simp[Eff.news])),Eff.apply];rfl);·cases h
       ·cases h
      ·rename_i hh;split at h
       ·(rename_i hi;split at h;·rename_i a ha;cases h;refine⟨True,fun h=>h,?_⟩;unfold c9;rw[hg];simp only[hop,hd,aT];rw[if_pos hok];simp only[effOp,ht];rw[if_neg hh];simp only[dL,hZ hx hi.1,hx,ha];rw[if_neg (by rw[hi.2];simp)];rfl);·cases h
       ·cases h
     ·cases h
    ·rename_i e' l c hop;split at h
     ·rename_i t E k l' k' c' ht hE hl hc;split at h
      ·(rename_i x hx;split at h;·rename_i hw;cases h;refine⟨_,fun h=>h,?_⟩;unfold c9;rw[hg];simp only[hop,hd,aT];rw[if_pos hok];simp only[effOp,ht,hE,hl,hc,hx];rw[if_pos hw.1,if_neg (by rw[hw.2];simp)];simp only[lG (hf d (by simp[Eff.news])),Eff.apply];rfl);·cases h
      ·cases h
     ·cases h
    ·rename_i op h1 h2 h3 h4 h5 h6;split at h
     ·(rename_i C' v hp;cases h;refine⟨_,fun h=>h,?_⟩;unfold c9;simp only[hg];split;·rename_i C2 v2 hp2;rw[hp] at hp2;cases hp2;simp only[hd];rw[if_pos hok];rfl);·rename_i hp2;rw[hp] at hp2;cases hp2
     ·cases h
   ·cases h
 ·rename_i j want hg;split at h
  ·rename_i d hd;split at h
   ·(rename_i hok;split at h;·rename_i C' v hv;cases h;exact⟨_,fun h=>h,xA hg hd hok hv⟩);·cases h
   ·cases h
  ·cases h
theorem eJ:∀{l:List Operand} {t:Nat},t∈tmpsOf l↔Operand.tmp t∈l
 | [],t=>by simp[tmpsOf]
 |x::r,t=>by
  cases x with
  |tmp u=>simp[tmpsOf,eJ (l:=r)]
  |const v=>simp[tmpsOf,eJ (l:=r)]
  |func f=>simp[tmpsOf,eJ (l:=r)]
  |global g=>simp[tmpsOf,eJ (l:=r)]
theorem jl{s s':aa}{x:Option Operand}(h:∀y,x=some y->aP s y=aP s' y):fI s x=fI s' x:=by
 cases x with
 |none=>rfl
 |some y=>simp only[fI,h y rfl]
theorem nf{s s':aa}:∀{l:List Operand},(∀x∈l,aP s x=aP s' x)->jh s l=jh s' l
 | [],_=>rfl
 |x::r,h=>by simp only[jh,h x (by simp),nf (l:=r) fun y hy=>h y (by simp[hy])]
def lH(s s':aa)(xs:List Operand):Prop:=∀x∈xs,∀v,aP s' x=some v->∀i∈v.refs,get? s.own i=get? s'.own i
theorem xC{own own':List (Nat×aB)}{u:Ty}{v:LV}(h:∀i∈v.refs,get? own i=get? own' i):b8 own u v=b8 own' u v:=by
 cases v with
 |ownS id=>simp only[b8,h id (by simp[LV.refs])]
 |ownM id=>simp only[b8,h id (by simp[LV.refs])]
 |ownW id w i=>simp only[b8,h id (by simp[LV.refs])]
 |ownR id j=>simp only[b8,h id (by simp[LV.refs])]
 |z t x=>cases t<;>rfl
 |_=>rfl
theorem gq{o:Option AV}{x:LV}(h:leaf o=some x):o=some (.l x):=by
 unfold leaf at h;split at h;·cases h;rfl
 ·cases h
theorem rh{T:Tab}{s s':aa}{b:Builtin}{l:List Operand}{types:List TypeId}(he:∀x∈l,aP s x=aP s' x)(ho:lH s s' l):dS T s b l types=dS T s' b l types:=by
 unfold dS;cases b<;>try rfl
 case len=>
  simp only[];split
  ·rename_i x ty;rw[he x (by simp)];cases hx:leaf (aP s' x) with
   |none=>rfl
   |some v=>
    have:=fun u=>xC (own:=s.own) (own':=s'.own) (u:=u) (v:=v) (fun i hi=>ho x (by simp) _ (gq hx) i (by simpa [AV.refs] using hi));have hr:∀id j,v= .ownR id j->get? s.own id=get? s'.own id:=fun id j e=>ho x (by simp) _ (gq hx) id (by subst e;simp[AV.refs,LV.refs]);cases ht:get? T.types ty with
    |none=>cases v<;>rfl
    |some u=>
     cases v with
     |ownR id j=>cases u<;>first|rfl|simp only[hr id j rfl]
     |_=>simp only[this u]
  ·rfl
 case min=>
  simp only[];split;·rename_i x y;rw[he x (by simp),he y (by simp)]
  ·rfl
 case max=>
  simp only[];split;·rename_i x y;rw[he x (by simp),he y (by simp)]
  ·rfl
theorem ib{T:Tab}{s s':aa}{op:Op}(he:∀x∈op.operands.toList,aP s x=aP s' x)(ho:dW op=true->lH s s' op.operands.toList):aT T s op=aT T s' op:=by
 cases op with
 |move x=>simp only[aT,he x (by simp[Op.operands])]
 |assign x=>simp only[aT,he x (by simp[Op.operands])]
 |binOp op ty x y ty'=>simp only[aT,he x (by simp[Op.operands]),he y (by simp[Op.operands])]
 |unOp op ty x=>simp only[aT,he x (by simp[Op.operands])]
 |convert a b x=>
  simp only[aT,he x (by simp[Op.operands])];have ho:=ho rfl x (by simp[Op.operands]);cases hx:leaf (aP s' x) with
  |none=>rfl
  |some v=>
   have ho:=ho _ (gq hx);have e:iV s.own v=iV s'.own v:=by
    cases v with
    |ownS id=>simp only[iV,ho id (by simp[AV.refs,LV.refs])]
    |z t y=>cases t with
     |slice u=>cases u with
      |int k=>cases k<;>rfl
      |_=>rfl
     |_=>rfl
    |_=>rfl
   simp only[e]
 |load t x=>
  simp only[aT,he x (by simp[Op.operands])];have ho:=ho rfl x (by simp[Op.operands]);cases hx:leaf (aP s' x) with
  |none=>rfl
  |some v=>
   have ho:=ho _ (gq hx);cases ht:get? T.types t with
   |none=>
    cases v with
    |z u a=>cases u<;>rfl
    |val p=>cases p<;>first|rfl|(rename_i a;rcases a with _|⟨b,o,m⟩<;>first|rfl|(cases m<;>rfl))
    |_=>rfl
   |some u=>
    cases v with
    |ownP id off=>simp only[ho id (by simp[AV.refs,LV.refs])]
    |ownE id w i=>simp only[ho id (by simp[AV.refs,LV.refs])]
    |ownA id i=>cases u<;>first|rfl|simp only[ho id (by simp[AV.refs,LV.refs])]
    |ownB id j w k=>simp only[ho id (by simp[AV.refs,LV.refs])]
    |z u' a=>cases u'<;>rfl
    |val p=>cases p<;>first|rfl|(rename_i a;rcases a with _|⟨b,o,m⟩<;>first|rfl|(cases m<;>rfl))
    |_=>rfl
 |nilCheck x=>simp only[aT,he x (by simp[Op.operands])]
 |fieldAddr t x k=>simp only[aT,he x (by simp[Op.operands])]
 |field t x k=>simp only[aT,he x (by simp[Op.operands])]
 |indexAddr t x i=>
  simp only[aT,he x (by simp[Op.operands]),he i (by simp[Op.operands])];have ho:=ho rfl x (by simp[Op.operands]);cases hx:leaf (aP s' x) with
  |none=>rfl
  |some v=>
   have ho:=ho _ (gq hx);cases v with
   |ownS id=>
    have ho:=ho id (by simp[AV.refs,LV.refs]);generalize leaf (aP s' i)=li;generalize get? T.types t=u;rcases li with _|li;·rfl
    ·cases li with
     |z v n=>cases v<;>first|rfl|(rcases u with _|u<;>first|rfl|(cases u<;>first|rfl|simp only[ho]))
     |_=>rfl
   |ownM id=>
    have ho:=ho id (by simp[AV.refs,LV.refs]);generalize leaf (aP s' i)=li;generalize get? T.types t=u;rcases li with _|li;·rfl
    ·cases li with
     |z v n=>cases v<;>first|rfl|(rcases u with _|u<;>first|rfl|(cases u<;>first|rfl|(rename_i u;cases u<;>first|rfl|simp only[ho])))
     |_=>rfl
   |ownW id w j=>
    have ho:=ho id (by simp[AV.refs,LV.refs]);generalize leaf (aP s' i)=li;generalize get? T.types t=u;rcases li with _|li;·rfl
    ·cases li with
     |z v n=>cases v<;>first|rfl|(rcases u with _|u<;>first|rfl|(cases u<;>first|rfl|simp only[ho]))
     |_=>rfl
   |ownR id j=>
    have ho:=ho id (by simp[AV.refs,LV.refs]);generalize leaf (aP s' i)=li;generalize get? T.types t=u;rcases li with _|li;·rfl
    ·cases li with
     |z v n=>cases v<;>first|rfl|(rcases u with _|u<;>first|rfl|(cases u<;>first|rfl|simp only[ho]))
     |_=>rfl
   |ownP id off=>
    generalize leaf (aP s' i)=li;generalize get? T.types t=u;rcases li with _|li;·rfl
    ·cases li with
     |z v n=>cases v<;>first|rfl|(rcases u with _|u<;>first|rfl|(cases u<;>rfl))
     |_=>rfl
   |z v n=>
    generalize leaf (aP s' i)=li;generalize get? T.types t=u;cases v with
    |slice t'=>
     rcases li with _|li;·rfl
     ·cases li with
      |z v' n'=>cases v'<;>first|rfl|(rcases u with _|u<;>first|rfl|(cases u<;>rfl))
      |_=>rfl
    |ptr t'=>
     cases t' with
     |arr m' t''=>
      rcases li with _|li;·rfl
      ·cases li with
       |z v' n'=>cases v'<;>first|rfl|(rcases u with _|u<;>first|rfl|(cases u<;>rfl))
       |_=>rfl
     |_=>rfl
    |_=>rfl
   |val p=>
    generalize leaf (aP s' i)=li;generalize get? T.types t=u;cases p with
    |pointer a=>
     rcases a with _|⟨b,o,m⟩;·rfl
     ·cases m with
      |none=>
       rcases li with _|li;·rfl
       ·cases li with
        |z v' n'=>cases v'<;>first|rfl|(rcases u with _|u<;>first|rfl|(cases u<;>rfl))
        |_=>rfl
      |some m=>
       rcases li with _|li;·rfl
       ·cases li with
        |z v' n'=>cases v'<;>first|rfl|(rcases u with _|u<;>first|rfl|(cases u<;>rfl))
        |_=>rfl
    |_=>rfl
   |_=>rfl
 |index t x i=>simp only[aT,he x (by simp[Op.operands]),he i (by simp[Op.operands])]
 |slice t x lo hi mx=>
  simp only[aT,he x (by simp[Op.operands])];rw[jl (s:=s) (s':=s') (x:=lo) (fun y e=>he y (by subst e;simp[Op.operands])),jl (s:=s) (s':=s') (x:=hi) (fun y e=>he y (by subst e;simp[Op.operands])),jl (s:=s) (s':=s') (x:=mx) (fun y e=>he y (by subst e;simp[Op.operands]))]
 |extract x n=>simp only[aT,he x (by simp[Op.operands])]
 |makeFunc fn first caps=>
  cases fn with
  |func f=>
   simp only[aT];rw[nf (s:=s) (s':=s') (l:=caps.toList) (fun y hy=>he y (by simp[Op.operands];exact .inr (by simpa using hy)))]
  |_=>rfl
 |call c=>
  simp only[aT];split;·rename_i b hcal;exact rh (fun x hx=>he x (by simp[Op.operands,Call.operands,hcal];first|exact .inr (by simpa using hx)|simpa using hx)) (fun x hx=>ho rfl x (by simp[Op.operands,Call.operands,hcal];first|exact .inr (by simpa using hx)|simpa using hx))
  ·rfl
 |_=>rfl
theorem jT{s:aa}:∀{l:List Nat} {t:Nat} {v:AV} {i:Nat},t∈l->get? s.env t=some v->i∈v.refs->i∈gH s l
 |u::r,t,v,i,ht,hv,hi=>by
  simp only[gH,Oq];rcases IS.1 ht with rfl|ht;·left;rw[hv];exact hi
  ·right;exact jT ht hv hi
theorem ri(v:Value):(AV.l (ez v)).refs=[]:=by cases v<;>rfl
theorem DY{s:aa}{l:List Operand}{x:Operand}{v:AV}{i:Nat}(hx:x∈l)(hv:aP s x=some v)(hi:i∈v.refs):i∈gH s (tmpsOf l):=by
 cases x with
 |tmp t=>exact jT (eJ.2 hx) hv hi
 |const u=>cases hv;rw[ri] at hi;simp at hi
 |func f=>cases hv;simp[AV.refs,LV.refs] at hi
 |global g=>cases hv;simp[AV.refs,LV.refs] at hi
theorem rj{s s':aa}{f:Operand}(h:aP s f=aP s' f):eD s f=eD s' f:=by unfold eD;rw[h]
theorem kt{T:Tab}{s s':aa}:∀{l:List Operand} {ts:List TypeId},(∀x∈l,aP s x=aP s' x)->cj T s ts l=cj T s' ts l
 | [],ts,_=>by cases ts<;>rfl
 |x::r,[],_=>rfl
 |x::r,t::ts,h=>by
  have:dV T s t x=dV T s' t x:=by unfold dV;rw[h x (by simp)]
  simp only[cj,this,kt (l:=r) (ts:=ts) fun y hy=>h y (by simp[hy])]
theorem ku{T:Tab}{d:Nat}{s s':aa}{f:Operand}{l:List Operand}{ts:List TypeId}(hf:aP s f=aP s' f)(h:∀x∈l,aP s x=aP s' x):cS T d s f l ts=cS T d s' f l ts:=by
 unfold cS;rw[rj hf,kt h]
theorem ng{s s':aa}{c x y:Operand}(hc:aP s c=aP s' c)(hx:aP s x=aP s' x)(hy:aP s y=aP s' y):ji s c x y=ji s' c x y:=by
 unfold ji;rw[hc];split
 ·split;·rw[hy]
  ·rw[hx]
  ·rfl
 ·rfl
theorem jU{env env':List (Nat×AV)}:∀{l:List Nat},(∀t∈l,get? env t=get? env' t)->asks env l=asks env' l
 | [],_=>rfl
 |t::r,h=>by simp only[asks,h t (by simp),jU (l:=r) fun u hu=>h u (by simp[hu])]
theorem nh{env env':List (Nat×AV)}:∀{l:List Nat},(∀t∈l,get? env t=get? env' t)->cw env l=cw env' l
 | [],_=>rfl
 |t::r,h=>by simp only[cw,h t (by simp),nh (l:=r) fun u hu=>h u (by simp[hu])]
theorem eU{s s':aa}:∀{ts:List Ty} {i:Nat} {ps:List (Nat×Operand)},(∀p∈ps,aP s p.2=aP s' p.2)->bL s ts i ps=bL s' ts i ps
 | [],_,[],_=>rfl
 | [],_,_::_,_=>rfl
 |t::ts,i,[],h=>by simp only[bL,eU (ts:=ts) h]
 |t::ts,i,(j,x)::ps,h=>by
  have h1:=eU (s:=s) (s':=s') (ts:=ts) (i:=i+1) (ps:=ps) fun p hp=>h p (by simp[hp]);have h2:=eU (s:=s) (s':=s') (ts:=ts) (i:=i+1) (ps:=(j,x)::ps) h;simp only[bL,h (j,x) (by simp),h1,h2]
theorem eg{s s':aa}{t:Ty}:∀{n i:Nat} {ps:List (Nat×Operand)},(∀p∈ps,aP s p.2=aP s' p.2)->cy s t n i ps=cy s' t n i ps
 |0,_,[],_=>rfl
 |0,_,_::_,_=>rfl
 |n+1,i,[],h=>by simp only[cy,eg (n:=n) h]
 |n+1,i,(j,x)::ps,h=>by
  have h1:=eg (s:=s) (s':=s') (t:=t) (n:=n) (i:=i+1) (ps:=ps) fun p hp=>h p (by simp[hp]);have h2:=eg (s:=s) (s':=s') (t:=t) (n:=n) (i:=i+1) (ps:=(j,x)::ps) h;simp only[cy,h (j,x) (by simp),h1,h2]
theorem zM(v:AV):v.plain.refs=v.refs:=by cases v<;>rfl
theorem get?_sub{env:List (Nat×AV)}:∀{l:List Nat} {t:Nat} {v:AV},get? (cw env l) t=some v->∃u,get? env t=some u/\v=u.plain/\t∈l
 | [],t,v,h=>by simp[cw,get?] at h
 |k::r,t,v,h=>by
  simp only[cw] at h;split at h
  ·(rename_i u hu;simp only[get?] at h;split at h;·rename_i e;subst e;cases h;exact⟨u,hu,rfl,by simp⟩);·obtain⟨u',h1,h2,h3⟩:=get?_sub h;exact⟨u',h1,h2,by simp[h3]⟩
  ·obtain⟨u',h1,h2,h3⟩:=get?_sub h;exact⟨u',h1,h2,by simp[h3]⟩
theorem vX{T:Tab}{s s':aa}{d:Nat}{l:List Operand}{ts:List TypeId}(hop:∀x∈l,aP s x=aP s' x)(hso:lH s s' l):jk T s d l ts=jk T s' d l ts:=by
 unfold jk;split
 ·rename_i x y t u;rw[hop x (by simp),hop y (by simp)];cases hx:leaf (aP s' x) with
  |none=>rfl
  |some v=>
   cases v with
   |ownR id j=>
    (have e:=hso x (by simp) _ (gq hx) id (by simp[AV.refs,LV.refs]);generalize get? T.types t=a;generalize get? T.elems t=b;generalize aP s' y=c;rcases a with _|a;·rfl);·cases a<;>first|rfl|(rcases b with _|b<;>first|rfl|(rcases c with _|c<;>first|rfl|simp only[e]))
   |_=>rfl
 ·rfl
theorem FP{T:Tab}{env:List (Nat×AV)}(own own':List (Nat×aB)){op:Op}:tE T {env:=env,own:=own} op=tE T {env:=env,own:=own'} op:=by
 cases op with
 |buildSlice e n parts=>
  simp only[tE];split;·rename_i t E ht hE;rw[eg (s:=⟨env,own⟩) (s':=⟨env,own'⟩) (fun p _=>by cases p.2<;>rfl)]
  ·rfl
 |makeSlice e l c=>cases l<;>cases c<;>rfl
 |_=>rfl
theorem pz{T:Tab}{ops:List Oper}{s s':aa}{o:Oper}(he:∀t∈vV ops o,get? s.env t=get? s'.env t)
  (ho:dW o.op=true->∀i∈gH s' (tmpsOf o.op.operands.toList),get? s.own i=get? s'.own i):iE T ops s o=iE T ops s' o:=by
 have hsl:∀t∈tmpsOf o.op.operands.toList,get? s.env t=get? s'.env t:=fun t ht=>he t (SE _ ht);have hop:∀x∈o.op.operands.toList,aP s x=aP s' x:=by
  intro x hx;cases x with
  |tmp t=>exact hsl t (eJ.2 hx)
  |_=>rfl
 have hso:dW o.op=true->lH s s' o.op.operands.toList:=fun hr x hx v hv i hi=>ho hr i (DY hx hv hi);unfold iE;cases hg:o.guard with
 |none=>
  simp only[];cases hd:o.dst with
  |none=>
   simp only[];cases hopp:o.op with
   |store t x y=>
    rw[hopp] at hop hso;simp only[hop x (by simp[Op.operands]),hop y (by simp[Op.operands])];have hso:=hso rfl x (by simp[Op.operands]);cases hx:leaf (aP s' x) with
    |none=>rfl
    |some v=>
     have hso:=hso _ (gq hx);cases ht:get? T.types t with
     |none=>cases v<;>rfl
     |some u=>
      cases v with
      |ownP id off=>simp only[hso id (by simp[AV.refs,LV.refs])]
      |ownE id w i=>simp only[hso id (by simp[AV.refs,LV.refs])]
      |ownA id i=>cases u<;>first|rfl|simp only[hso id (by simp[AV.refs,LV.refs])]
      |_=>rfl
   |_=>rfl
  |some d=>
   simp only[];split
   ·cases hopp:o.op with
    |pick c x y=>
     rw[hopp] at hop hsl;simp only[ng (hop c (by simp[Op.operands])) (hop x (by simp[Op.operands])) (hop y (by simp[Op.operands]))];rw[jU (env:=s.env) (env':=s'.env) (fun t ht=>hsl t (by
      rw[eJ] at ht ⊢;simp at ht;subst ht;simp[Op.operands]))]
    |call c=>
     (rw[hopp] at hop hso;simp only[];split;·rename_i f hcal;rw[ku (s:=s) (s':=s') (hop f (by simp[Op.operands,Call.operands,hcal])) (fun x hx=>hop x (by simp[Op.operands,Call.operands,hcal];first|exact .inr (by simpa using hx)|simpa using hx))]);·rename_i hcal;have hop':∀x∈c.args.toList,aP s x=aP s' x:=fun x hx=>hop x (by simp[Op.operands,Call.operands,hcal];first|exact .inr (by simpa using hx)|simpa using hx);have hso':lH s s' c.args.toList:=fun x hx=>hso rfl x (by simp[Op.operands,Call.operands,hcal];first|exact .inr (by simpa using hx)|simpa using hx);exact vX hop' hso'
     ·rw[ib hop hso]
    |alloc e=>rfl
    |buildSlice e n parts=>
     (rw[hopp] at hop;simp only[];split;·rename_i t E ht hE;rw[eg (s:=s) (s':=s') (fun p hp=>hop p.2 (by simp[Op.operands];exact⟨p.1,by simpa using hp⟩))]);·rfl
    |build e parts=>
     (rw[hopp] at hop;simp only[];split;·rename_i t ht;rw[eU (s:=s) (s':=s') (fun p hp=>hop p.2 (by simp[Op.operands];exact⟨p.1,by simpa using hp⟩))]);·rename_i n t ht;rw[eg (s:=s) (s':=s') (fun p hp=>hop p.2 (by simp[Op.operands];exact⟨p.1,by simpa using hp⟩))]
     ·rfl
    |box e x=>
     rw[hopp] at hop;simp only[hop x (by simp[Op.operands])]
    |makeSlice e l c=>
     rw[hopp] at hop;simp only[hop l (by simp[Op.operands]),hop c (by simp[Op.operands])]
    |_=>rw[hopp] at hop hso;simp only[ib (T:=T) hop hso]
   ·rfl
 |some g=>
  obtain⟨j,want⟩:=g;simp only[];cases hd:o.dst with
  |none=>rfl
  |some d=>
   simp only[];split
   ·have hgd:guardOf ops s j want=guardOf ops s' j want:=by
     unfold guardOf;cases ho':ops[j]? with
     |none=>rfl
     |some o'=>
      simp only[];cases hd':o'.dst with
      |none=>rfl
      |some t=>
       have:=he t (RD _ (by simp[hg,ho',hd']));simp only[this]
    have hsub:=nh hsl;have hask:=jU hsl;have hso2:dW o.op=true->lH {s with env:=cw s'.env (tmpsOf o.op.operands.toList)} {s' with env:=cw s'.env (tmpsOf o.op.operands.toList)} o.op.operands.toList:=by
     intro hr x hx v hv i hi;refine ho hr i ?_;cases x with
     |tmp t=>
      obtain⟨u,h1,h2,h3⟩:=get?_sub (show get? (cw s'.env _) t=some v from hv);subst h2;rw[zM] at hi;exact jT h3 h1 hi
     |const u=>cases hv;rw[ri] at hi;simp at hi
     |func f=>cases hv;simp[AV.refs,LV.refs] at hi
     |global g=>cases hv;simp[AV.refs,LV.refs] at hi
    have hgv:zL T ops s o j want d=zL T ops s' o j want d:=by
     unfold zL;rw[hgd];split
     ·rename_i φ hφ;cases hopp:o.op with
      |pick c x y=>
       rw[hopp] at hop hsl;simp only[ng (hop c (by simp[Op.operands])) (hop x (by simp[Op.operands])) (hop y (by simp[Op.operands]))];rw[jU (env:=s.env) (env':=s'.env) (fun t ht=>hsl t (by
        rw[eJ] at ht ⊢;simp at ht;subst ht;simp[Op.operands]))]
      |call c=>
       rw[hopp] at hso2 hsub hask;have hp:=ib (T:=T) (s:={s with env:=cw s'.env (tmpsOf (Op.call c).operands.toList)}) (s':={s' with env:=cw s'.env (tmpsOf (Op.call c).operands.toList)}) (op:= .call c) (fun _ _=>by rename_i x _;cases x<;>rfl) hso2;have hq:∀f,cS T d {s with env:=cw s'.env (tmpsOf (Op.call c).operands.toList)} f c.args.toList c.argTypes.toList=cS T d {s' with env:=cw s'.env (tmpsOf (Op.call c).operands.toList)} f c.args.toList c.argTypes.toList:=fun f=>
        ku (by cases f<;>rfl) (fun x _=>by cases x<;>rfl)
       simp only[hsub,hask,hp,hq]
      |_=>
       rw[hopp] at hso2 hsub hask;simp only[hsub,hask];rw[ib (T:=T) (s:={s with env:=_}) (s':={s' with env:=_}) (fun x _=>by cases x<;>rfl) hso2];rw[FP s.own s'.own]
     ·rfl
    rw[hgv]
   ·rfl
def look(s:aa):Loc->Option (AV ⊕ aB)
 |(false,t)=>(get? s.env t).map .inl
 |(true,i)=>(get? s.own i).map .inr
def Eff.valAt:Eff->Loc->Option (AV ⊕ aB)
 | .put _ v,_=>some (.inl v)
 | .new _ v _,(false,_)=>some (.inl v)
 | .new _ _ objs,(true,i)=>(get? objs i).map .inr
 | .wr _ o,_=>some (.inr o)
 | .app _ v _ _,(false,_)=>some (.inl v)
 | .app _ _ _ o,(true,_)=>some (.inr o)
theorem get?_del{α:Type}:∀(l:List (Nat×α)) (d t:Nat),get? (del l d) t=if t=d then none else get? l t
 | [],d,t=>by simp[del,get?]
 |(k,x)::r,d,t=>by
  simp only[del];split
  ·(rename_i e;subst e;rw[get?_del r k t];by_cases h:t=k;·simp[h]);·have h':¬k=t:=fun e=>h e.symm;simp[get?,h,h']
  ·(rename_i e;simp only[get?];split;·rename_i e2;subst e2;rw[if_neg e]);·exact get?_del r d t
theorem get?_upd{α:Type}:∀(l:List (Nat×α)) (n k:Nat) (y:α),get? (upd l n y) k=if k=n then (get? l n).map (fun _=>y) else get? l k
 | [],n,k,y=>by simp[upd,get?]
 |(j,x)::r,n,k,y=>by
  simp only[upd];split
  ·(rename_i e;subst e;by_cases h:k=j;·subst h;simp[get?]);·have h':¬j=k:=fun e=>h e.symm;simp[get?,h,h']
  ·(rename_i e;simp only[get?];rw[get?_upd r n k y];by_cases h:j=k;·subst h;simp[e]);·simp[h,e]
theorem get?_app{α:Type}:∀(l m:List (Nat×α)) (n:Nat),get? (l++m) n=(get? l n).or (get? m n)
 | [],m,n=>by simp[get?]
 |(k,x)::r,m,n=>by
  simp only[OS,get?];split;·rfl
  ·exact get?_app r m n
theorem get?_isSome{α:Type}:∀(l:List (Nat×α)) (n:Nat),(get? l n).isSome=true↔n∈l.map Prod.fst
 | [],n=>by simp[get?]
 |(k,x)::r,n=>by
  simp only[get?,O6,IS];split;·rename_i e;subst e;simp
  ·rename_i e;rw[get?_isSome r n];exact⟨.inr,fun h=>h.resolve_left (fun e2=>e e2.symm)⟩
theorem zO{e:Eff}{s:aa}(hw:∀id o,(e= .wr id o∨∃d v,e= .app d v id o)->(get? s.own id).isSome=true)(loc:Loc):look (e.apply s) loc=if loc∈e.locs then e.valAt loc else look s loc:=by
 obtain⟨b,n⟩:=loc;cases e with
 |put d v=>
  cases b with
  |false=>
   (simp only[Eff.apply,aa.put,look,get?,get?_del,Eff.locs,Ph,Prod.mk.injEq,true_and,Eff.valAt];by_cases h:n=d;·subst h;simp);·have h':¬d=n:=fun e=>h e.symm;simp[h,h']
  |true=>simp[Eff.apply,aa.put,look,Eff.locs]
 |new d v objs=>
  cases b with
  |false=>
   (simp only[Eff.apply,look,get?,get?_del,Eff.locs,IS,Prod.mk.injEq,true_and,Eff.valAt,Ot];by_cases h:n=d;·subst h;simp);·have h':¬d=n:=fun e=>h e.symm;simp[h,h']
  |true=>
   simp only[Eff.apply,look,get?_app,Eff.locs,IS,Prod.mk.injEq,Eff.valAt,Ot];by_cases h:(get? objs n).isSome=true;·obtain⟨p,hp,e⟩:=Ot.1 ((get?_isSome objs n).1 h);rw[if_pos (.inr ⟨p,hp,trivial,e⟩)];obtain⟨x,hx⟩:=OR.1 h;simp[hx]
   ·rw[if_neg (by
     (rintro(h1|⟨p,hp,e1,e2⟩);·simp at h1);·exact h ((get?_isSome objs n).2 (Ot.2 ⟨p,hp,e2⟩)))]
    (have:get? objs n=none:=by simpa using h);simp[this]
 |wr id o=>
  cases b with
  |false=>simp[Eff.apply,look,Eff.locs]
  |true=>
   (simp only[Eff.apply,look,get?_upd,Eff.locs,Ph,Prod.mk.injEq,true_and,Eff.valAt];by_cases h:n=id;·subst h;obtain⟨x,hx⟩:=OR.1 (hw n o (.inl rfl));simp[hx]);·simp[h]
 |app d v id o=>
  cases b with
  |false=>
   (simp only[Eff.apply,look,get?,get?_del,Eff.locs,IS,QZ,or_false,Prod.mk.injEq,true_and,Pd,false_and,Eff.valAt];by_cases h:n=d;·subst h;simp);·have h':¬d=n:=fun e=>h e.symm;simp[h,h']
  |true=>
   (simp only[Eff.apply,look,get?_upd,Eff.locs,IS,QZ,or_false,Prod.mk.injEq,true_and,Bool.true_eq_false,false_and,false_or,Eff.valAt];by_cases h:n=id;·subst h;obtain⟨x,hx⟩:=OR.1 (hw n o (.inr ⟨d,v,rfl⟩));simp[hx]);·simp[h]
theorem zP{T:Tab}{s:aa}{d:Nat}{l:List Operand}{ts:List TypeId}{C:Prop}{e:Eff}(h:jk T s d l ts=some (C,e)):∃v id o,e= .app d v id o/\(get? s.own id).isSome=true:=by
 unfold jk at h
 (repeat' split at h)<;>first|cases h;done|skip
 all_goals (cases h;rename_i hg _ _;exact⟨_,_,_,rfl,by rw[hg];rfl⟩)
theorem FQ{T:Tab}{ops:List Oper}{s:aa}{o:Oper}{C:Prop}{id:Nat}{ob:aB}{e:Eff}(h:iE T ops s o=some (C,e))(he:e= .wr id ob∨∃d v,e= .app d v id ob):(get? s.own id).isSome=true:=by
 unfold iE at h;split at h
 ·split at h
  ·split at h
   ·split at h
    ·split at h
     ·rename_i hid _;split at h
      ·split at h
       ·(cases h;rcases he with he|⟨_,_,he⟩;·cases he;rw[hid];rfl);·cases he
       ·cases h
      ·cases h
     ·cases h
    ·split at h
     ·rename_i hid;split at h
      ·split at h
       ·split at h
        ·split at h
         ·(cases h;rcases he with he|⟨_,_,he⟩;·cases he;rw[hid];rfl);·cases he
         ·cases h
        ·cases h
       ·cases h
      ·cases h
     ·cases h
    ·split at h
     ·rename_i hid;split at h
      ·(cases h;rcases he with he|⟨_,_,he⟩;·cases he;rw[hid];rfl);·cases he
      ·cases h
     ·cases h
    ·cases h
   ·cases h
  ·split at h
   ·split at h;case h_2=>
     split at h;case h_2=>
      (obtain⟨v,i,o,rfl,h2⟩:=zP h;rcases he with he|⟨_,_,he⟩;·cases he);·cases he;exact h2
     all_goals ((repeat' split at h)<;>cases h<;>rcases he with he|⟨_,_,he⟩<;>cases he)
    all_goals ((repeat' split at h)<;>cases h<;>rcases he with he|⟨_,_,he⟩<;>cases he)
   ·cases h
 ·split at h
  ·(split at h;·split at h<;>cases h;rcases he with he|⟨_,_,he⟩<;>cases he);·cases h
  ·cases h
theorem kI:∀(l:List (Nat×AV)) (d:Nat),∀i∈fM (del l d),i∈fM l
 | [],_,i,h=>h
 |(k,v)::r,d,i,h=>by
  simp only[del] at h;simp only[fM,Oq];split at h;·exact .inr (kI r d i h)
  ·simp only[fM,Oq] at h;exact h.imp id (kI r d i)
theorem pA:∀(l m:List (Nat×aB)),dO (l++m)=dO l++dO m
 | [],_=>rfl
 |(k,o)::r,m=>by simp[dO,pA r m]
theorem kJ:∀(l:List (Nat×aB)) (n:Nat) (o:aB),∀i∈dO (upd l n o),i∈dO l∨i∈o.refs
 | [],_,_,i,h=> .inl h
 |(k,x)::r,n,o,i,h=>by
  simp only[upd] at h;split at h
  ·(simp only[dO,IS,Oq] at h ⊢;rcases h with h|h|h;·exact .inl (.inl h));·exact .inr h
   ·exact .inl (.inr (.inr h))
  ·(simp only[dO,IS,Oq] at h ⊢;rcases h with h|h|h;·exact .inl (.inl h));·exact .inl (.inr (.inl h))
   ·exact(kJ r n o i h).imp (fun h=> .inr (.inr h)) id
theorem rk(e:Eff)(s:aa):∀i∈(e.apply s).refs,i∈s.refs∨i∈e.refs:=by
 intro i h;cases e with
 |put d v=>
  simp only[Eff.apply,aa.put,aa.refs,fM,Oq,Eff.refs] at h ⊢;rcases h with(h|h)|h;·exact .inr h
  ·exact .inl (.inl (kI _ _ _ h))
  ·exact .inl (.inr h)
 |new d v objs=>
  simp only[Eff.apply,aa.refs,fM,pA,Oq,Eff.refs] at h ⊢;rcases h with(h|h)|h|h;·exact .inr (.inl h)
  ·exact .inl (.inl (kI _ _ _ h))
  ·exact .inr (.inr h)
  ·exact .inl (.inr h)
 |wr id o=>
  simp only[Eff.apply,aa.refs,Oq,Eff.refs,IS] at h ⊢;rcases h with h|h;·exact .inl (.inl h)
  ·exact(kJ _ _ _ _ h).imp .inr .inr
 |app d v id o=>
  simp only[Eff.apply,aa.refs,fM,Oq,Eff.refs,IS] at h ⊢;rcases h with(h|h)|h;·exact .inr (.inl h)
  ·exact .inl (.inl (kI _ _ _ h))
  ·exact(kJ _ _ _ _ h).imp .inr (fun h=> .inr (.inr h))
structure Rec where
 rd:List Loc
 wl:List Loc
 news:List Nat
 refs:List Nat
def trace(T:Tab)(ops:List Oper):List Oper->aa->Option (Prop×aa×List Rec)
 | [],s=>some (True,s,[])
 |o::r,s=>match iE T ops s o with
  |some (C,e)=>match trace T ops r (e.apply s) with
   |some (C',s',l)=>some (C/\C',s',⟨gQ ops s o,e.locs,e.news,e.refs⟩::l)
   |none=>none
  |none=>none
def direct(o:Oper):List Nat:=o.after.toList.filterMap fun e=>if Region.binds .any e then some e.on else none
def vY(l m:List Nat):List Nat:=m.foldl (fun l x=>if l.contains x then l else x::l) l
def FR(A:List (List Nat))(d:List Nat):List Nat:=d.foldl (fun l k=>vY l (k::A.getD k [])) []
def I3:List Oper->List (List Nat)->List (List Nat)
 | [],A=>A
 |o::r,A=>I3 r (A++ [FR A (direct o)])
def backward(ops:List Oper):Bool:=(Pa ops.length).all fun j=>(((ops[j]?).map direct).getD []).all fun k=>k<j
def FS(a b:Rec):Bool:=a.wl.any fun x=>b.rd.contains x||b.wl.contains x
def zQ(anc:List Nat)(i:Nat)(a b:Rec):Bool:=
 !(b.news.any fun x=>a.refs.contains x)&&(!(FS a b||FS b a||a.news.any fun x=>b.refs.contains x)||anc.contains i)
def uj:Rec:=⟨[],[],[],[]⟩
def vZ(A:List (List Nat))(recs:List Rec):Bool:=
 (Pa recs.length).all fun j=>(Pa j).all fun i=>zQ (A.getD j []) i (recs.getD i uj) (recs.getD j uj)
def cV(ops:List Oper)(recs:List Rec):Bool:=backward ops&&vZ (I3 ops []) recs
inductive Anc (ops:List Oper):Nat->Nat->Prop
 |one {j k:Nat} {o:Oper} (ho:ops[j]? =some o) (hk:k∈direct o):Anc ops k j
 |more {i j k:Nat} (h:Anc ops i k) (h':Anc ops k j):Anc ops i j
theorem rl:∀{m l:List Nat} {x:Nat},x∈vY l m->x∈l∨x∈m
 | [],l,x,h=> .inl h
 |y::m,l,x,h=>by
  simp only[vY,PQ] at h;have:=rl (m:=m) (l:=if l.contains y then l else y::l) h;rcases this with h1|h1
  ·split at h1;·exact .inl h1
   ·(rcases IS.1 h1 with rfl|h1;·exact .inr (by simp));·exact .inl h1
  ·exact .inr (by simp[h1])
theorem uk{A:List (List Nat)}:∀{d l:List Nat} {x:Nat},x∈d.foldl (fun l k=>vY l (k::A.getD k [])) l->x∈l∨x∈d∨∃k∈d,x∈A.getD k []
 | [],l,x,h=> .inl h
 |k::d,l,x,h=>by
  simp only[PQ] at h;rcases uk h with h1|h1|⟨j,h1,h2⟩
  ·rcases rl h1 with h2|h2;·exact .inl h2
   ·(rcases IS.1 h2 with rfl|h2;·exact .inr (.inl (by simp)));·exact .inr (.inr ⟨k,by simp,h2⟩)
  ·exact .inr (.inl (by simp[h1]))
  ·exact .inr (.inr ⟨j,by simp[h1],h2⟩)
theorem nm{ops:List Oper}:∀(r:List Oper) (A:List (List Nat)),(∀i,r[i]? =ops[A.length+i]?)->(∀j k,k∈A.getD j []->Anc ops k j)->∀j k,k∈(I3 r A).getD j []->Anc ops k j
 | [],A,_,hA=>hA
 |o::r,A,hr,hA=>by
  refine nm r (A++ [FR A (direct o)]) (fun i=>?_) (fun j k h=>?_);·have:=hr (i+1);simp only[O3] at this;rw[this];congr 1;simp;omega
  ·simp only[sh] at h;by_cases hj:j<A.length;·rw[OU hj] at h;exact hA j k (by simpa [sh] using h)
   ·rw[Qu (by omega)] at h;by_cases e:j=A.length
    ·(subst e;simp at h;(have ho:ops[A.length]? =some o:=by have:=hr 0;simp at this;exact this.symm);rcases uk h with h1|h1|⟨i,h1,h2⟩;·simp at h1);·exact .one ho h1
     ·exact .more (hA i k h2) (.one ho h1)
    ·have:([FR A (direct o)]:List (List Nat))[j-A.length]? =none:=by
      rw[R2];simp;omega
     rw[this] at h;simp at h
def eK(f:Nat->Bool):Nat->Option Nat
 |0=>none
 |m+1=>if f m then some m else eK f m
theorem gI{f g:Nat->Bool}:∀{n:Nat},(∀k,k<n->f k=g k)->eK f n=eK g n
 |0,_=>rfl
 |n+1,h=>by simp only[eK,h n (by omega),gI (n:=n) fun k hk=>h k (by omega)]
theorem um{g:Nat->Bool}{i:Nat}:∀{n:Nat},i<=n->eK (fun k=>decide (k<i)&&g k) n=eK g i
 |0,h=>by
  have:i=0:=by omega
  subst this;rfl
 |n+1,h=>by
  simp only[eK];by_cases e:i=n+1;·subst e;(have:eK (fun k=>decide (k<n+1)&&g k) n=eK g n:=gI fun k hk=>by simp;omega);simp[this,eK]
  ·(have hn:¬n<i:=by omega);simp only[hn,decide_false,Rk,Pd,if_false];exact um (by omega)
theorem rm{f:Nat->Bool}{i:Nat}:∀{n:Nat},i<n->f i=true->(∀k,k<n->i<k->f k=false)->eK f n=some i
 |n+1,h,hf,hk=>by
  simp only[eK];by_cases e:i=n;·subst e;rw[hf];rfl
  ·rw[hk n (by omega) (by omega)];exact rm (by omega) hf (fun k h1 h2=>hk k (by omega) h2)
theorem St.look{X:Cx}{s s':aa}{a:Act}{w:World}(h:St X s a w)(hl:∀loc,look s loc=look s' loc)(he:(s'.env.map Prod.fst).Nodup)(ho:(s'.own.map Prod.fst).Nodup):St X s' a w:=by
 have key:∀{α:Type} {l:List (Nat×α)} {p:Nat×α},(l.map Prod.fst).Nodup->p∈l->get? l p.1=some p.2:=by
  intro α l;induction l with
  |nil=>intro p _ h;simp at h
  |cons q l ih=>
   (intro p hn hp;obtain⟨k,x⟩:=q;rw[O6,P6] at hn;simp only[get?];rcases IS.1 hp with rfl|hp;·simp);·have:k≠p.1:=fun e=>hn.1 (by simp only[e];exact Ot.2 ⟨p,hp,rfl⟩);rw[if_neg this];exact ih hn.2 hp
 obtain⟨ρ,hf⟩:=h.fits;have henv:∀e∈s'.env,e∈s.env:=by
  intro e hem;have h1:=key he hem;have h2:=hl (false,e.1);simp only[Go.Cm.look,h1,Pj] at h2;cases h3:get? s.env e.1 with
  |none=>rw[h3] at h2;cases h2
  |some v=>rw[h3] at h2;simp at h2;subst h2;exact get?_mem h3
 have hown:∀e∈s'.own,e∈s.own:=by
  intro e hem;have h1:=key ho hem;have h2:=hl (true,e.1);simp only[Go.Cm.look,h1,Pj] at h2;cases h3:get? s.own e.1 with
  |none=>rw[h3] at h2;cases h2
  |some v=>rw[h3] at h2;simp at h2;subst h2;exact get?_mem h3
 have hh:∀b,hot X.O ρ s'.own b->hot X.O ρ s.own b:=fun b hb=>jN (fun p hp=>⟨p.2,hown p hp⟩) hb;refine⟨h.marks,h.kept,h.size,h.below,h.others,h.small,ρ,fun e hem=>?_,fun p hp=>?_,fun p hp=>hf.io p (hown p hp),?_⟩
 ·have:=eF (f:=id) (fun x v hx=>aN (fun b _ hb=>hh b hb) (aW.refl _ _) (fun _ _=>rfl) hx) (hf.env e (henv e hem));have e2:e.2.map id=e.2:=by cases e.2<;>simp[AV.map]
  rwa [e2] at this
 ·exact(hf.own p (hown p hp)).move_id (fun b _ hb=>hh b hb) (aW.refl _ _) (fun _ _=>rfl)
 ·have hn:s'.own.Pairwise fun p q=>p.1≠q.1:=Si.1 ho;refine hn.imp_of_mem fun {p q} hp hq hpq=>⟨hpq,fun b hb=>hf.two (hown p hp) (hown q hq) hpq hb⟩
end Go.Cm
end
section
namespace Go.Cm
open Go.RowKit
structure Tr (T:Tab) (ops:List Oper) (n:Nat) (S:Nat->aa) (Cs:Nat->Prop) (Es:Nat->Eff):Prop where
 step:∀k,k<n->∃o,ops[k]? =some o/\iE T ops (S k) o=some (Cs k,Es k)/\Cs k
 next:∀k,k<n->S (k+1)=(Es k).apply (S k)
theorem xD{T:Tab}{ops:List Oper}:∀(r:List Oper) (b:Nat) {s s':aa} {C:Prop} {recs:List Rec},(∀i,r[i]? =ops[b+i]?)->trace T ops r s=some (C,s',recs)->C->
  ∃(S:Nat->aa) (Cs:Nat->Prop) (Es:Nat->Eff),S 0=s/\S r.length=s'/\recs.length=r.length/\(∀k,k<r.length->∃o,ops[b+k]? =some o/\iE T ops (S k) o=some (Cs k,Es k)/\Cs k/\recs.getD k uj=⟨gQ ops (S k) o,(Es k).locs,(Es k).news,(Es k).refs⟩)/\(∀k,k<r.length->S (k+1)=(Es k).apply (S k))
 | [],b,s,s',C,recs,hr,h,hC=>by
  simp[trace] at h;obtain⟨_,rfl,rfl⟩:=h;exact⟨fun _=>s,fun _=>True,fun _=> .put 0 (.l .junk),rfl,rfl,rfl,fun k hk=>by simp at hk,fun k hk=>by simp at hk⟩
 |o::r,b,s,s',C,recs,hr,h,hC=>by
  simp only[trace] at h;split at h
  ·rename_i C1 e h1;split at h
   ·rename_i C2 s2 l h2;cases h;obtain⟨S,Cs,Es,g1,g2,g3,g4,g5⟩:=xD r (b+1) (fun i=>by have:=hr (i+1);simp only[O3] at this;rw[this];congr 1;omega) h2 hC.2;refine⟨fun k=>match k with
     |0=>s
     |k+1=>S k,fun k=>match k with
     |0=>C1
     |k+1=>Cs k,fun k=>match k with
     |0=>e
     |k+1=>Es k,rfl,by simpa using g2,by simp[g3],fun k hk=>?_,fun k hk=>?_⟩
    ·cases k with
     |zero=>exact⟨o,by have:=hr 0;simp at this;simpa using this.symm,h1,hC.1,rfl⟩
     |succ k=>
      obtain⟨o',q1,q2,q3,q4⟩:=g4 k (by simpa using hk);exact⟨o',by rw[<- q1];congr 1;omega,q2,q3,by simpa using q4⟩
    ·cases k with
     |zero=>simp only;exact g1
     |succ k=>exact g5 k (by simpa using hk)
   ·cases h
  ·cases h
section
variable {T:Tab} {ops:List Oper} {n:Nat} {S:Nat->aa} {Cs:Nat->Prop} {Es:Nat->Eff}
def wOf(Es:Nat->Eff)(loc:Loc)(k:Nat):Bool:=decide (loc∈(Es k).locs)
def Bv(Es:Nat->Eff)(s0:aa)(o:Option Nat)(loc:Loc):Option (AV ⊕ aB):=match o with
 |some k=>(Es k).valAt loc
 |none=>look s0 loc
theorem ot{s:aa}{i:Nat}{o:Oper}{C:Prop}(hs:iE T ops s o=some (C,Es i))(loc:Loc):look ((Es i).apply s) loc=if wOf Es loc i=true then (Es i).valAt loc else look s loc:=by
 rw[zO (fun id ob e=>FQ hs e)];simp[wOf]
theorem uo(ht:Tr T ops n S Cs Es)(loc:Loc):∀m,m<=n->look (S m) loc=Bv Es (S 0) (eK (wOf Es loc) m) loc
 |0,_=>rfl
 |m+1,h=>by
  obtain⟨o,_,h2,_⟩:=ht.step m (by omega);rw[ht.next m (by omega),ot h2];simp only[eK];split;·rfl
  ·exact uo ht loc m (by omega)
structure FT (ops:List Oper) (n:Nat) (S:Nat->aa) (Es:Nat->Eff) (p:Nat->Bool) (s:aa):Prop where
 down:∀j k,p j=true->Anc ops k j->p k=true
 vals:∀loc,look s loc=Bv Es (S 0) (eK (fun k=>p k&&wOf Es loc k) n) loc
 refs:∀i∈s.refs,i∈(S 0).refs∨∃k,k<n/\p k=true/\i∈(Es k).refs
theorem agree(ht:Tr T ops n S Cs Es){p:Nat->Bool}{s:aa}(hd:FT ops n S Es p s){i:Nat}(hi:i<=n){loc:Loc}(h:∀k,k<n->loc∈(Es k).locs->(p k=true↔k<i)):look s loc=look (S i) loc:=by
 rw[hd.vals,uo ht loc i hi];congr 1;rw[<- um (g:=wOf Es loc) hi];refine gI fun k hk=>?_;by_cases hw:loc∈(Es k).locs
 ·have:=h k hk hw;have hw':wOf Es loc k=true:=by simp[wOf,hw]
  rw[hw',SD,SD];by_cases hp:p k=true;·rw[hp];simp[this.1 hp]
  ·have h2:¬k<i:=fun hlt=>hp (this.2 hlt);simp[hp,h2]
 ·have hw':wOf Es loc k=false:=by simp[wOf,hw]
  simp[hw']
end
theorem v7{X:Cx}{s:aa}{a:Act}{w:World}(h:St X s a w):St X s a {w with drawn:=w.drawn+1}:=by
 obtain⟨ρ,hf⟩:=h.fits;have hb:Bel X.M X.w0 {w with drawn:=w.drawn+1}:=⟨h.below.os,h.below.tape,h.below.output,h.below.size,h.below.block⟩;exact h.next0 (ρ:=ρ) ⟨Oa _,fun _ _ h _=>h⟩ hb (hf.keep (w':={w with drawn:=w.drawn+1}) fun _ _=>rfl)
theorem pB{anc:List Nat}{i:Nat}{a b:Rec}(h:zQ anc i a b=true):(∀x∈b.news,x∉a.refs)/\(((∃x∈a.wl,x∈b.rd∨x∈b.wl)∨(∃x∈b.wl,x∈a.rd∨x∈a.wl)∨∃x∈a.news,x∈b.refs)->i∈anc):=by
 simp only[zQ,N9,Pc,S2,OT,Bool.or_eq_false_iff,FS] at h;refine⟨fun x hx hxa=>by have:=h.1 x hx;simp[hxa] at this,fun hc=>?_⟩;rcases h.2 with⟨⟨h1,h2⟩,h3⟩|h4
 ·rcases hc with⟨x,hx,hy⟩|⟨x,hx,hy⟩|⟨x,hx,hy⟩;·have:=h1 x hx;simp only[PK,decide_eq_true_eq,not_or] at this;exact hy.elim (fun h=>absurd h this.1) (fun h=>absurd h this.2)
  ·have:=h2 x hx;simp only[PK,decide_eq_true_eq,not_or] at this;exact hy.elim (fun h=>absurd h this.1) (fun h=>absurd h this.2)
  ·have:=h3 x hx;simp[hy] at this
 ·simpa using h4
theorem FU{X:Cx}(hT:cT X.P X.T)(hΓ:eX X.P X.T)(hm:X.P.follows .mixedOrders=true){id:Nat}{ops:Array Oper}{s s':aa}{C:Prop}{recs:List Rec}{K:Exit->aa->Prop}
  (h:trace X.T ops.toList ops.toList s=some (C,s',recs)) (hC:C) (hord:cV ops.toList recs=true) (hfresh:(recs.flatMap Rec.news).all (fun x=> !s.refs.contains x)=true)
  (hdist:(distinct (s'.env.map Prod.fst)&&distinct (s'.own.map Prod.fst))=true) (hK:K .normal s'):J X (.region id ops true) s K:=by
 intro a w hst;obtain⟨S,Cs,Es,g1,g2,g3,g4,g5⟩:=xD ops.toList 0 (fun i=>by simp) h hC;subst g1;obtain⟨n,hn⟩:∃n,ops.toList.length=n:=⟨_,rfl⟩;rw[hn] at g2 g3 g4 g5;have hsz:ops.size=n:=by rw[<- hn];simp
 have ht:Tr X.T ops.toList n S Cs Es:=⟨fun k hk=>by obtain⟨o,q1,q2,q3,_⟩:=g4 k hk;exact⟨o,by simpa using q1,q2,q3⟩,g5⟩;simp only[cV,N9] at hord;obtain⟨hback,hpairs⟩:=hord;simp only[N9] at hdist;have hpair:∀i j,i<j->j<n->(∀x∈(Es j).news,x∉(Es i).refs)/\(((∃x∈(Es i).locs,x∈gQ ops.toList (S j) (ops.toList.getD j default)∨x∈(Es j).locs)∨(∃x∈(Es j).locs,x∈gQ ops.toList (S i) (ops.toList.getD i default)∨x∈(Es i).locs)∨∃x∈(Es i).news,x∈(Es j).refs)->Anc ops.toList i j):=by
  intro i j hij hj;unfold vZ at hpairs;rw[g3,Ob] at hpairs;have h1:=hpairs j (OJ.2 hj);rw[Ob] at h1;have h2:=pB (h1 i (OJ.2 hij));obtain⟨oj,qj1,_,_,qj⟩:=g4 j hj;obtain⟨oi,qi1,_,_,qi⟩:=g4 i (by omega);have ej:ops.toList.getD j default=oj:=by rw[sh];simp only[Oz] at qj1;rw[qj1];rfl
  have ei:ops.toList.getD i default=oi:=by rw[sh];simp only[Oz] at qi1;rw[qi1];rfl
  rw[qj,qi] at h2;rw[ej,ei];exact⟨h2.1,fun hc=>nm ops.toList [] (fun i=>by simp) (fun j k hk=>by simp at hk) j i (h2.2 hc)⟩
 have hnews0:∀k,k<n->∀x∈(Es k).news,x∉(S 0).refs:=by
  intro k hk x hx hx0;obtain⟨o,_,_,_,q⟩:=g4 k hk;have hmem:recs.getD k uj∈recs:=by
   rw[sh,AI (by omega)];exact OE _
  have:=Ob.1 hfresh x (RU.2 ⟨_,hmem,by rw[q];exact hx⟩);simp[hx0] at this
 have hdirect:∀j o,ops[j]? =some o->∀k∈direct o,k<j:=by
  intro j o ho k hk;have hjn:j<n:=by rw[<- hsz];exact(BY.1 ho).1
  unfold backward at hback;rw[Ob] at hback;have h1:=hback j (OJ.2 (by omega));have e:ops.toList[j]? =some o:=by simpa using ho
  rw[e] at h1;simpa using Ob.1 h1 k (by simpa using hk)
 have hancn:∀k j,Anc ops.toList k j->k<j:=by
  intro k j h;induction h with
  |one ho hk=>exact hdirect _ _ (by simpa using ho) _ hk
  |more _ _ h1 h2=>omega
 have main:∀(fuel:Nat) (listed:Array Bool) (s:aa) (a:Act) (w:World),listed.size=n->
   (∃l:List Nat,l.Nodup/\n<=fuel+l.length/\∀k∈l,k<n/\listed.getD k true=true)->FT ops.toList n S Es (fun k=>decide (k<n)&&listed.getD k true) s->St X s a w->
   wpAnyIn (fw X.r) 2 X.P .any ops (post X K) fuel listed a w:=by
  have hready:∀(listed:Array Bool),listed.size=n->Region.ready .any ops listed=[]->∀k,k<n->listed.getD k true=true:=by
   intro listed hls hr k;induction k using Nat.strongRecOn with
   |_ k ih=>
    intro hk;cases hp:listed.getD k true with
    |true=>rfl
    |false=>
     obtain⟨o,ho,_⟩:=ht.step k hk;(have ho':ops[k]? =some o:=by simpa using ho);have:k∈Region.ready .any ops listed:=by
      unfold Region.ready;rw[Qh];refine⟨OJ.2 (by omega),?_⟩;simp only[hp,Bool.not_false,Pb,ho',Pj,OV];rw[Py];intro e he;by_cases hb:Region.binds .any e=true
      ·have hd:e.on∈direct o:=by
        unfold direct;rw[Q3];exact⟨e,by simpa using he,by rw[if_pos hb]⟩
       have hlt:=hdirect k o ho' _ hd;have h1:=ih e.on hlt (by omega);rw[hb];simp only[Pv,QK];(have:e.on<listed.size:=by omega);rw[<- h1];simp[Sw,this]
      ·simp[hb]
     rw[hr] at this;simp at this
  have hend:∀(listed:Array Bool) (s:aa) (a:Act) (w:World),(∀k,k<n->listed.getD k true=true)->FT ops.toList n S Es (fun k=>decide (k<n)&&listed.getD k true) s->St X s a w->post X K .normal a w:=by
   (intro listed s a w hall hd hst;refine⟨s',hK,?_⟩;rw[<- g2];refine hst.look (fun loc=>?_) ?_ ?_;·exact agree ht hd (Oa n) (fun k hk _=>⟨fun _=>hk,fun _=>by simp[hk,hall k hk]⟩));·rw[g2];exact fy hdist.1
   ·rw[g2];exact fy hdist.2
  intro fuel;induction fuel with
  |zero=>
   intro listed s a w hls ⟨l,hl1,hl2,hl3⟩ hd hst;have hall:∀k,k<n->listed.getD k true=true:=by
    intro k hk;by_cases hkl:k∈l;·exact(hl3 k hkl).2
    ·have hsub:(k::l).Nodup:=P6.2 ⟨hkl,hl1⟩;have hle:=(List.Nodup.length_le_of_subset hsub (l₂:=Pa n) (fun x hx=>by
      (rcases IS.1 hx with rfl|hx;·exact OJ.2 hk);·exact OJ.2 (hl3 x hx).1))
     simp at hle;omega
   refine⟨?_,hend listed s a w hall hd hst⟩;unfold Region.ready;rw[List.filter_eq_nil_iff];intro k hk;have:=hall k (by rw[<- hsz];exact OJ.1 hk);rw[this];simp
  |succ fuel ih=>
   intro listed s a w hls ⟨l,hl1,hl2,hl3⟩ hd hst;refine⟨fun hr=>hend listed s a w (hready listed hls hr) hd hst,fun i hi=>?_⟩;unfold Region.ready at hi;rw[Qh] at hi;obtain⟨hi1,hi2⟩:=hi;(have hin:i<n:=by rw[<- hsz];exact OJ.1 hi1);obtain⟨o,ho,hfs,hCi⟩:=ht.step i hin;(have ho':ops[i]? =some o:=by simpa using ho);simp only[ho',Pj,OV,N9,Pc] at hi2;obtain⟨hnot,hedges⟩:=hi2;have hdown:∀k,Anc ops.toList k i->(decide (k<n)&&listed.getD k true)=true:=by
    have hd1:∀k∈direct o,(decide (k<n)&&listed.getD k true)=true:=by
     intro k hk;have hlt:=hdirect i o ho' k hk;unfold direct at hk;rw[Q3] at hk;obtain⟨e,he1,he2⟩:=hk;split at he2
     ·rename_i hb;cases he2;rw[Py] at hedges;have:=hedges e (by simpa using he1);rw[hb] at this;simp only[Pv,QK] at this;(have hsize:e.on<listed.size:=by omega);have h2:listed.getD e.on true=true:=by
       simp[Sw,hsize] at this ⊢;exact this
      simp[h2];omega
     ·cases he2
    intro k hk;cases hk with
    |one ho2 hk2=>rw[ho] at ho2;cases ho2;exact hd1 k hk2
    |more h1 h2=>
     rename_i j;have:∀{j},Anc ops.toList j i->(decide (j<n)&&listed.getD j true)=true:=by
      intro j hj;generalize hii:i=i2 at hj;induction hj with
      |one ho2 hk2=>subst hii;rw[ho] at ho2;cases ho2;exact hd1 _ hk2
      |more q1 q2 ih1 ih2=>
       subst hii;exact hd.down _ _ (ih2 rfl) q1
     exact this (.more h1 h2)
   (have hpi:(decide (i<n)&&listed.getD i true)=false:=by rw[hnot];simp);have hnotAfter:∀k,Anc ops.toList i k->(decide (k<n)&&listed.getD k true)=false:=by
    intro k hk;cases hpk:(decide (k<n)&&listed.getD k true) with
    |false=>rfl
    |true=>have:=hd.down k i hpk hk;rw[hpi] at this;cases this
   (have eo:ops.toList.getD i default=o:=by rw[sh,ho];rfl);have hag:∀loc,(loc∈gQ ops.toList (S i) o∨loc∈(Es i).locs)->∀k,k<n->k≠i->loc∈(Es k).locs->((decide (k<n)&&listed.getD k true)=true↔k<i):=by
    (intro loc hloc k hk hne hw;rcases Rv hne with hlt|hlt);·refine⟨fun _=>hlt,fun _=>hdown k ((hpair k i hlt hin).2 (.inl ⟨loc,hw,?_⟩))⟩;rw[eo];exact hloc
    ·have:=hnotAfter k ((hpair i k hlt hk).2 (.inr (.inl ⟨loc,hw,by rw[eo];exact hloc⟩)));rw[this];exact⟨fun h=>(by cases h),fun h=>by omega⟩
   have hfs2:iE X.T ops.toList s o=some (Cs i,Es i):=by
    rw[<- hfs];have hrd:∀loc∈gQ ops.toList (S i) o,look s loc=look (S i) loc:=fun loc hloc=>agree ht hd (Nat.le_of_lt hin) (fun k hk hw=>by
     by_cases e:k=i
     ·subst e;rw[hpi];exact⟨fun h=>(by cases h),fun h=>by omega⟩
     ·exact hag loc (.inl hloc) k hk e hw)
    have inj1:∀t,look s (false,t)=look (S i) (false,t)->get? s.env t=get? (S i).env t:=by
     intro t h;simp only[look] at h;cases h1:get? s.env t<;>cases h2:get? (S i).env t<;>simp[h1,h2] at h ⊢;exact h
    have inj2:∀t,look s (true,t)=look (S i) (true,t)->get? s.own t=get? (S i).own t:=by
     intro t h;simp only[look] at h;cases h1:get? s.own t<;>cases h2:get? (S i).own t<;>simp[h1,h2] at h ⊢;exact h
    (refine pz (fun t ht=>inj1 t (hrd _ ?_)) (fun hr t ht=>inj2 t (hrd _ ?_));·exact SE _ (Ot.2 ⟨t,ht,rfl⟩));·refine RD _ ?_;rw[if_pos hr];exact Ot.2 ⟨t,ht,rfl⟩
   have hfr:∀x∈(Es i).news,x∉s.refs:=by
    intro x hx hxs;rcases hd.refs x hxs with h1|⟨k,hk,hpk,h1⟩;·exact hnews0 i hin x hx h1
    ·by_cases e:k=i
     ·subst e;rw[hpi] at hpk;cases hpk
     ·(rcases Rv e with hlt|hlt;·exact(hpair k i hlt hin).1 x hx h1);·have:=hnotAfter k ((hpair i k hlt hk).2 (.inr (.inr ⟨x,hx,h1⟩)));rw[this] at hpk;cases hpk
   obtain⟨C',hC',hstep⟩:=rf hfs2 hfr;unfold wpOpIn;simp only[ho'];have hgo:=jS hT hΓ (Q:=post X K) (K:=wpAnyIn (fw X.r) 2 X.P .any ops (post X K) fuel (listed.setIfInBounds i true)) hst hstep (hC' hCi) (fun a' w' hst'=>by
    have hget:∀k,k<n->(listed.setIfInBounds i true).getD k true=(if k=i then true else listed.getD k true):=by
     (intro k hk;simp only[O1,Array.getElem?_setIfInBounds];by_cases e:i=k;·subst e;simp[hls,hin]);·have e':¬k=i:=fun h=>e h.symm;simp[e,e']
    refine ih _ _ a' w' (by simpa using hls) ?_ ?_ hst'
    ·(have hil:i∉l:=fun hm=>by have:=(hl3 i hm).2;rw[hnot] at this;cases this);refine⟨i::l,P6.2 ⟨hil,hl1⟩,by simp;omega,fun k hk=>?_⟩;rcases IS.1 hk with rfl|hk;·exact⟨hin,by rw[hget k hin];simp⟩
     ·(have:=hl3 k hk;refine⟨this.1,?_⟩;rw[hget k this.1];split;·rfl);·exact this.2
    ·refine⟨fun j k hj hk=>?_,fun loc=>?_,fun x hx=>?_⟩
     ·have hkj:=hancn k j hk;simp only[N9,decide_eq_true_eq] at hj;(have hkn:k<n:=by omega);simp only[hkn,decide_true,Pb];rw[hget k hkn];split;·rfl
      ·(rw[hget j hj.1] at hj;by_cases e:j=i;·subst e;have:=hdown k hk;simpa [hkn] using this);·rw[if_neg e] at hj;have:=hd.down j k (by simp[hj.1,hj.2]) hk;simpa [hkn] using this
     ·rw[ot hfs2];by_cases hw:wOf Es loc i=true
      ·rw[if_pos hw];(have hloc:loc∈(Es i).locs:=by simpa [wOf] using hw);have:eK (fun k=>(decide (k<n)&&(listed.setIfInBounds i true).getD k true)&&wOf Es loc k) n=some i:=by
        refine rm hin ?_ (fun k hk hik=>?_);·simp only[hin,decide_true,Pb];rw[hget i hin,hw];simp
        ·(simp only[hk,decide_true,Pb];rw[hget k hk,if_neg (by omega)];by_cases hwk:loc∈(Es k).locs;·have:=hag loc (.inr hloc) k hk (by omega) hwk;(have h3:¬(decide (k<n)&&listed.getD k true)=true:=fun h=>by have:=this.1 h;omega);simp[hk] at h3;simp[h3]);·simp[wOf,hwk]
       rw[this];rfl
      ·(rw[if_neg hw,hd.vals];congr 1;refine gI fun k hk=>?_;simp only[hk,decide_true,Pb];rw[hget k hk];by_cases e:k=i;·subst e;(have:wOf Es loc k=false:=by simpa using hw);simp[this]);·rw[if_neg e]
     ·rcases rk _ _ x hx with h1|h1
      ·rcases hd.refs x h1 with h2|⟨k,hk,hpk,h2⟩;·exact .inl h2
       ·(refine .inr ⟨k,hk,?_,h2⟩;simp only[hk,decide_true,Pb] at hpk ⊢;rw[hget k hk];split;·rfl);·exact hpk
      ·refine .inr ⟨i,hin,?_,h1⟩;simp only[hin,decide_true,Pb];rw[hget i hin];simp)
   (have earr:ops.toList.toArray=ops:=by simp);rw[earr] at hgo;exact hgo
 refine wpIn_region_any hm (main ops.size _ (S 0) a _ (by simp[hsz]) ⟨[],.nil,by simp[hsz],fun k hk=>by simp at hk⟩ ⟨fun j k hj _=>?_,fun loc=>?_,fun i hi=> .inl hi⟩ (v7 hst));·simp only[N9,decide_eq_true_eq] at hj;have:=hj.2;rw[O1,QO,if_pos (by omega)] at this;cases this
 ·have:eK (fun k=>(decide (k<n)&&(Ov ops.size false).getD k true)&&wOf Es loc k) n=none:=by
   have key:∀m,m<=n->eK (fun k=>(decide (k<n)&&(Ov ops.size false).getD k true)&&wOf Es loc k) m=none:=by
    intro m;induction m with
    |zero=>intro _;rfl
    |succ m ihm=>
     intro hm;have hg:(Ov ops.size false).getD m true=false:=by
      rw[O1,QO,if_pos (by omega)];rfl
     simp only[eK,hg,Bool.and_false,Rk,Pd,if_false];exact ihm (by omega)
   exact key n (Oa n)
  rw[this];rfl
end Go.Cm
end
section
namespace Go.Cm
open Go.RowKit
structure aV (P:Program) (T:Tab):Prop where
 tab:cT P T
 cons:eX P T
 mixed:P.follows .mixedOrders=true
def MJ(ops:List Oper)(recs:List Rec)(s s':aa):Prop:=
 cV ops recs=true/\(recs.flatMap Rec.news).all (fun x=> !s.refs.contains x)=true/\(distinct (s'.env.map Prod.fst)&&distinct (s'.own.map Prod.fst))=true
def vd(X:Cx):Code->aa->(Exit->aa->Prop)->Prop
 | .skip,s,K=>K .normal s
 | .label _,s,K=>K .normal s
 | .region _ ops false,s,K=>match exec X.T ops.toList ops.toList s with
  |some (C,s')=>C/\K .normal s'
  |none=>False
 | .region _ ops true,s,K=>match trace X.T ops.toList ops.toList s with
  |some (C,s',recs)=>MJ ops.toList recs s s'/\C/\K .normal s'
  |none=>False
 | .seq x y,s,K=>vd X x s fun e s'=>match e with
  | .normal=>vd X y s' K
  |e=>K e s'
 | .cond c x y,s,K=>match leaf (aP s c) with
  |some (.z .bool t)=>(t=true->vd X x s K)/\(t=false->vd X y s K)
  |_=>False
 | .block id c,s,K=>vd X c s fun e s'=>match e with
  | .exit i=>if i=id then K .normal s' else K (.exit i) s'
  |e=>K e s'
 | .loop c,s,K=>J X (.loop c) s K
 | .rangeFunc g ps x c,s,K=>J X (.rangeFunc g ps x c) s K
 | .exit id,s,K=>K (.exit id) s
 | .ret,s,K=>K .ret s
 |_,_,_=>False
theorem MK{X:Cx}(hG:aV X.P X.T):∀(c:Code) {s:aa} {K:Exit->aa->Prop},vd X c s K->J X c s K:=by
 intro c;induction c with
 |skip=>exact fun h a w hst=>wpIn_skip ⟨_,h,hst⟩
 |label l=>exact fun h a w hst=>wpIn_label ⟨_,h,hst⟩
 |region id ops draw=>
  intro s K h;cases draw with
  |true=>
   (simp only[vd] at h;split at h;·rename_i C s' recs he;exact FU hG.tab hG.cons hG.mixed he h.2.1 h.1.1 h.1.2.1 h.1.2.2 h.2.2);·exact h.elim
  |false=>
   (intro a w hst;simp only[vd] at h;split at h;·rename_i C s' he;have:=Bp (Q:=post X K) hG.tab hG.cons ops.toList hst he h.1 (fun a' w' h'=>⟨_,h.2,h'⟩);exact wpIn_region_list (by simpa using this));·exact h.elim
 |seq x y ihx ihy=>
  intro s K h a w hst;refine wpIn_seq (Code.wpIn_mono (fun e a w ⟨s',h1,h2⟩=>?_) (ihx h a w hst));cases e with
  |normal=>exact ihy h1 a w h2
  |_=>exact⟨s',h1,h2⟩
 |cond c x y ihx ihy=>
  intro s K h a w hst;simp only[vd] at h;split at h;·rename_i t ht;obtain⟨ρ,hf⟩:=hst.fits;have hv:=cO (H:=hot X.O ρ s.own) (w:=w) (ρ:=ρ) (ax hf ht);exact wpIn_cond_split hv (fun e=>ihx (h.1 e) a w hst) (fun e=>ihy (h.2 e) a w hst)
  ·exact h.elim
 |block id c ih=>
  intro s K h a w hst;refine wpIn_block (Code.wpIn_mono (fun e a w ⟨s',h1,h2⟩=>?_) (ih h a w hst));cases e with
  |exit i=>
   (simp only[Exit.inBlock];simp only at h1;split at h1;·rename_i e;rw[if_pos e];exact⟨s',h1,h2⟩);·rename_i e;rw[if_neg e];exact⟨s',h1,h2⟩
  |_=>exact⟨s',h1,h2⟩
 |loop c ih=>exact fun h=>h
 |rangeFunc=>exact fun h=>h
 |exit id=>exact fun h a w hst=>wpIn_exit ⟨_,h,hst⟩
 |scope c ih=>exact fun h=>h.elim
 |goto=>exact fun h=>h.elim
 |ret=>exact fun h a w hst=>wpIn_ret ⟨_,h,hst⟩
 |refuse=>exact fun h=>h.elim
section
variable {X:Cx} {s:aa} {K:Exit->aa->Prop}
def FV(X:Cx)(y:Code)(K:Exit->aa->Prop)(e:Exit)(s':aa):Prop:=match e with
 | .normal=>J X y s' K
 |e=>K e s'
theorem Lg{x y:Code}(h:J X x s (FV X y K)):J X (.seq x y) s K:=by
 intro a w hst;refine wpIn_seq (Code.wpIn_mono (fun e a w ⟨s',h1,h2⟩=>?_) (h a w hst));cases e with
 |normal=>exact h1 a w h2
 |_=>exact⟨s',h1,h2⟩
def Lh{ι:Type}(g:ι->aa)(Ψ:ι->Prop)(K:Exit->aa->Prop)(e:Exit)(s':aa):Prop:=match e with
 | .normal=>∃z,le s' (g z)/\Ψ z
 |e=>K e s'
theorem Li{ι:Type}(g:ι->aa)(Ψ:ι->Prop){x y:Code}(h:J X x s (Lh g Ψ K))(h2:∀z,Ψ z->J X y (g z) K):J X (.seq x y) s K:=by
 intro a w hst;refine wpIn_seq (Code.wpIn_mono (fun e a w ⟨s',h1,h3⟩=>?_) (h a w hst));cases e with
 |normal=>obtain⟨z,h4,h5⟩:=h1;exact h2 z h5 a w (h3.le h4)
 |_=>exact⟨s',h1,h3⟩
def zR{ι:Type}(f:ι->aa)(Φ:ι->Prop)(μ:ι->Nat)(x:ι)(K:Exit->aa->Prop)(e:Exit)(s':aa):Prop:=match e with
 | .normal=>∃y,le s' (f y)/\Φ y/\μ y<μ x
 |e=>K e s'
theorem bM{ι:Type}(f:ι->aa)(Φ:ι->Prop)(μ:ι->Nat){c:Code}(x₀:ι)(h₀:le s (f x₀))(hΦ:Φ x₀)(hround:∀x,Φ x->J X c (f x) (zR f Φ μ x K)):J X (.loop c) s K:=by
 intro a w hst;refine ra (fun n a w=>∃x,μ x=n/\Φ x/\St X (f x) a w) (μ x₀) ⟨x₀,rfl,hΦ,hst.le h₀⟩ ?_;rintro n a w ⟨x,rfl,hx,hst⟩;refine Code.wpIn_mono (fun e a w ⟨s',h1,h2⟩=>?_) (hround x hx a w hst);cases e with
 |normal=>
  obtain⟨y,h3,h4,h5⟩:=h1;exact⟨μ y,h5,y,rfl,h4,h2.le h3⟩
 |_=>exact⟨s',h1,h2⟩
def kK(id:Nat)(K:Exit->aa->Prop)(e:Exit)(s':aa):Prop:=match e with
 | .exit i=>if i=id then K .normal s' else K (.exit i) s'
 |e=>K e s'
theorem au{id:Nat}{c:Code}(h:J X c s (kK id K)):J X (.block id c) s K:=by
 intro a w hst;refine wpIn_block (Code.wpIn_mono (fun e a w ⟨s',h1,h2⟩=>?_) (h a w hst));cases e with
 |exit i=>
  simp only[Exit.inBlock];simp only[kK] at h1;split at h1;·rename_i e;rw[if_pos e];exact⟨s',h1,h2⟩
  ·rename_i e;rw[if_neg e];exact⟨s',h1,h2⟩
 |_=>exact⟨s',h1,h2⟩
end
end Go.Cm
end
section
namespace Go.Cm
open Go.RowKit
section
variable {X:Cx} {s s':aa} {K:Exit->aa->Prop}
theorem bZ(hG:aV X.P X.T){id:Nat}{ops:Array Oper}{C:Prop}(he:exec X.T ops.toList ops.toList s=some (C,s'))(hC:C)(hK:K .normal s'):J X (.region id ops false) s K:=
 MK hG _ (by simp only[vd,he];exact⟨hC,hK⟩)
theorem kL(hG:aV X.P X.T){id:Nat}{ops:Array Oper}{C:Prop}{recs:List Rec}(he:trace X.T ops.toList ops.toList s=some (C,s',recs))(ho:cV ops.toList recs=true)
  (hf:(recs.flatMap Rec.news).all (fun x=> !s.refs.contains x)=true) (hd:(distinct (s'.env.map Prod.fst)&&distinct (s'.own.map Prod.fst))=true) (hC:C) (hK:K .normal s'):J X (.region id ops true) s K:=
 FU hG.tab hG.cons hG.mixed he hC ho hf hd hK
theorem al{x y:Code}(h:J X x s (FV X y K)):J X (.seq x y) s K:=Lg h
theorem aC(h:K .normal s):J X .skip s K:=fun _ _ hst=>wpIn_skip ⟨_,h,hst⟩
theorem Bw{l:Nat}(h:K .normal s):J X (.label l) s K:=fun _ _ hst=>wpIn_label ⟨_,h,hst⟩
theorem bN{l:Nat}(h:K (.exit l) s):J X (.exit l) s K:=fun _ _ hst=>wpIn_exit ⟨_,h,hst⟩
theorem aK(h:K .ret s):J X .ret s K:=fun _ _ hst=>wpIn_ret ⟨_,h,hst⟩
theorem FW{c:Operand}{x y:Code}{t:Bool}(hc:leaf (aP s c)=some (.z .bool t))(h1:t=true->J X x s K)(h2:t=false->J X y s K):J X (.cond c x y) s K:=by
 intro a w hst;obtain⟨ρ,hf⟩:=hst.fits;have hv:=cO (H:=hot X.O ρ s.own) (w:=w) (ρ:=ρ) (ax hf hc);exact wpIn_cond_split hv (fun e=>h1 e a w hst) (fun e=>h2 e a w hst)
theorem fz{ι:Type}(g:ι->aa)(Ψ:ι->Prop){x y:Code}(h:J X x s (Lh g Ψ K))(h2:∀z,Ψ z->J X y (g z) K):J X (.seq x y) s K:=Li g Ψ h h2
theorem ag{y:Code}(h:J X y s K):FV X y K .normal s:=h
theorem aR{id:Nat}(h:K .normal s):kK id K .normal s:=h
theorem aH{id:Nat}(h:K .normal s):kK id K (.exit id) s:=by simp only[kK,if_true];exact h
theorem kM{id i:Nat}(hi:(i==id)=false)(h:K (.exit i) s):kK id K (.exit i) s:=by
 have:¬i=id:=by simpa using hi
 simp only[kK,if_neg this];exact h
theorem bn{id:Nat}(h:K .ret s):kK id K .ret s:=h
theorem aQ{y:Code}{i:Nat}(h:K (.exit i) s):FV X y K (.exit i) s:=h
theorem aO{y:Code}(h:K .ret s):FV X y K .ret s:=h
theorem uq{ι:Type}{g:ι->aa}{Ψ:ι->Prop}(h:K .ret s):Lh g Ψ K .ret s:=h
theorem aI{ι:Type}{f:ι->aa}{Φ:ι->Prop}{μ:ι->Nat}{x:ι}{i:Nat}(h:K (.exit i) s):zR f Φ μ x K (.exit i) s:=h
theorem gJ{ι:Type}{f:ι->aa}{Φ:ι->Prop}{μ:ι->Nat}{x:ι}(h:K .ret s):zR f Φ μ x K .ret s:=h
end
theorem LV.get_self(t:Ty)(x:t.D):LV.get t (.z t x)=some x:=by simp[LV.get]
theorem AV.get_self(t:Ty)(x:t.D):AV.get t (.l (.z t x))=some x:=LV.get_self t x
theorem le_iff{s s':aa}:le s s'↔pk s s'.env/\l9 s s'.own:=Iff.rfl
theorem DZ(s:aa):pk s []↔True:=Iff.rfl
theorem D0(s:aa):l9 s []↔True:=Iff.rfl
theorem aB.leq_arr{own:List (Nat×aB)}{t:Ty}{T T':TypeId}{xs ys:List t.D}:aB.leq own (.arr t T xs) (.arr t T' ys)↔T=T'/\xs=ys:=by
 constructor;·rintro⟨_,h1,h2⟩;exact⟨h1,h2⟩
 ·rintro⟨h1,h2⟩;exact⟨rfl,h1,h2⟩
theorem AV.leq_z{own:List (Nat×aB)}{T:Ty}{x y:T.D}:AV.leq own (.l (.z T x)) (.l (.z T y))↔x=y:=by
 show AV.get T (.l (.z T x))=some y↔_;rw[AV.get_self];simp
theorem LV.leq_z{own:List (Nat×aB)}{T:Ty}{x y:T.D}:LV.leq own (.z T x) (.z T y)↔x=y:=by
 show LV.get T (.z T x)=some y↔_;rw[LV.get_self];simp
theorem FX{s:aa}{all later:List Nat}{T:Ty}{x y:T.D}:eI s all later (.z T x) (.l (.z T y))↔y=x:=by
 show AV.get T (.l (.z T y))=some x↔_;rw[AV.get_self];simp
end Go.Cm
end
section
namespace Go.Cm
open Go.RowKit
section
variable {F:Fence} {n:Nat} {P:Program} {Q:Exit->Act->World->Prop} {a:Act} {w:World}
theorem fA{b:Frame}{k:List Item}{cs:List Frame}{c:Code}:step P (lone (b.atR a (.code (.scope c)::k)) cs w)= .next (lone (b.atR a (.code c:: .inScope c::k)) cs w):=
 step_lone_go (by simp[stepG,stepG.exec,Frame.atR])
theorem tJ{b:Frame}{k:List Item}{cs:List Frame}{c:Code}:step P (lone (b.atR a (.inScope c::k)) cs w)= .next (lone (b.atR a k) cs w):=
 step_lone_go (by simp[stepG,stepG.exec,Frame.atR])
theorem zS{c:Code}(h:c.wpIn F n P (Exit.noGoto Q) a w):(Code.scope c).wpIn F n P Q a w:=by
 intro b k cs hro hb hr;have h0:(lone (b.atR a (.code (.scope c)::k)) cs w).fenced P F:=fenced_calm hb hr rfl;obtain⟨e,a₁,w₁,hq,harr⟩:=h b (.inScope c::k) cs hro hb hr;cases e with
 |normal=>exact⟨.normal,a₁,w₁,hq,.head h0 fA (StepsIn.trans harr (.one (fenced_calm hb hr rfl) tJ))⟩
 |exit id=>exact⟨.exit id,a₁,w₁,hq,fun k' hk=> .head h0 fA (harr.1 k' (by simp[exitTo,hk])),fun hr' hk=>by
   obtain⟨k₁,h1,h2⟩:=harr.2 hr' (by simp[exitTo,hk]);exact⟨k₁,h1,.head h0 fA h2⟩⟩
 |goto l=>exact hq.elim
 |ret=>exact⟨_,a₁,w₁,hq,.of_steps (.one h0 fA) harr⟩
 |panic ch=>exact⟨_,a₁,w₁,hq,.of_steps (.one h0 fA) harr⟩
 |outgrown=>exact⟨_,a₁,w₁,hq,.of_steps (.one h0 fA) harr⟩
end
def FY(K:Exit->aa->Prop)(e:Exit)(s:aa):Prop:=match e with
 | .goto _=>False
 |e=>K e s
section
variable {X:Cx} {s:aa} {K:Exit->aa->Prop}
theorem Bx{c:Code}(h:J X c s (FY K)):J X (.scope c) s K:=fun a w hst=>by
 refine zS (Code.wpIn_mono (fun e a w ⟨s',h1,h2⟩=>?_) (h a w hst));cases e with
 |goto l=>exact h1.elim
 |_=>exact⟨s',h1,h2⟩
theorem pC(h:K .ret s):FY K .ret s:=h
end
def rn:List Oper->Option (List (Nat×Operand))
 | []=>some []
 |o::r=>match o.guard,o.dst,o.op,rn r with
  |none,some d,.assign x,some l=>some ((d,x)::l)
  |none,some d,.move x,some l=>some ((d,x)::l)
  |_,_,_,_=>none
def fN:Code->Option (List (Nat×Operand))
 | .skip=>some []
 | .region _ ops false=>rn ops.toList
 | .seq x y=>match fN x,fN y with
  |some l,some m=>some (l++m)
  |_,_=>none
 |_=>none
def bp(a:Act):List (Nat×Operand)->Act
 | []=>a
 |(d,x)::r=>bp (a.put (some d) (a.eval x)) r
theorem kv(m:List (Nat×Operand)):∀(l:List (Nat×Operand)) (a:Act),bp a (l++m)=bp (bp a l) m
 | [],_=>rfl
 |(d,x)::l,a=>kv m l _
theorem ff:∀(l:List (Nat×Operand)) (a:Act),(bp a l).defers=a.defers
 | [],_=>rfl
 |(d,x)::l,a=>by rw[bp,ff l,Act.defers_put]
theorem gC:∀(l:List (Nat×Operand)) (a:Act),(bp a l).tmps.size=a.tmps.size
 | [],_=>rfl
 |(d,x)::l,a=>by rw[bp,gC l,Act.size_put]
theorem gD{t:Nat}:∀(l:List (Nat×Operand)) (a:Act),t∉l.map Prod.fst->(bp a l).tmps.getD t undef=a.tmps.getD t undef
 | [],_,_=>rfl
 |(d,x)::l,a,h=>by
  simp only[O6,IS,not_or] at h;rw[bp,gD l _ h.2,Act.getD_put_ne h.1]
theorem ur{r:Option Nat}{n:Nat}{P:Program}{ops:Array Oper}{Q:Exit->Act->World->Prop}{w:World}:∀(l:List Oper) {ms:List (Nat×Operand)} {a:Act},rn l=some ms->Q .normal (bp a ms) w->wpListIn (fw r) n P ops Q l a w
 | [],ms,a,h,hq=>by cases h;exact hq
 |o::l,ms,a,h,hq=>by
  simp only[rn] at h;have key:∀d x m,o.guard=none->o.dst=some d->(o.op= .assign x∨o.op= .move x)->rn l=some m->ms=(d,x)::m->wpListIn (fw r) n P ops Q (o::l) a w:=by
   (intro d x m h1 h2 h3 h4 h5;subst h5;(have hw:Region.wanted o (yielded ops a.tmps)=true:=by simp[Region.wanted,h1]);simp only[wpListIn,hw,if_true];refine a6 (v:=a.eval x) (w':=w) ?_ ?_;·unfold execOp;rcases h3 with h3|h3<;>rw[h3]<;>rfl);·rw[h2];exact ur l h4 hq
  split at h;·rename_i d x m h1 h2 h3 h4;cases h;exact key d x m h1 h2 (.inl h3) h4 rfl
  ·rename_i d x m h1 h2 h3 h4;cases h;exact key d x m h1 h2 (.inr h3) h4 rfl
  ·cases h
theorem mn{r:Option Nat}{n:Nat}{P:Program}:∀(c:Code) {ms:List (Nat×Operand)} {K:Act->World->Prop} {R:Exit->Act->World->Prop} {a:Act} {w:World},fN c=some ms->K (bp a ms) w->c.wpIn (fw r) n P (Exit.then K R) a w:=by
 intro c;induction c with
 |skip=>intro ms K R a w h hk;cases h;exact wpIn_skip hk
 |region id ops draw=>
  intro ms K R a w h hk;cases draw with
  |true=>simp[fN] at h
  |false=>exact wpIn_region_list (ur _ h hk)
 |seq x y ihx ihy=>
  intro ms K R a w h hk;simp only[fN] at h;split at h;·rename_i l m hl hm;cases h;rw[kv] at hk;exact wpIn_seq (ihx hl (ihy hm hk))
  ·cases h
 |_=>intro ms K R a w h hk;simp[fN] at h
def cP(N:Nat)(s:aa):List (Nat×Operand)->Option aa
 | []=>some s
 |(d,x)::r=>match aP s x with
  |some v=>if d<N then cP N (s.put d v) r else none
  |none=>none
def cq(s:aa):List (Nat×LV)->aa
 | []=>s
 |(p,v)::r=>cq (s.put p (.l v)) r
theorem i7{X:Cx}{w:World}{ρ:Nat->Value}:∀(ms:List (Nat×Operand)) {s s':aa} {a:Act},Fits X s a w ρ->a.tmps.size=X.T.N->cP X.T.N s ms=some s'->Fits X s' (bp a ms) w ρ
 | [],s,s',a,h,_,he=>by cases he;exact h
 |(d,x)::r,s,s',a,h,hs,he=>by
  simp only[cP] at he;split at he
  ·(rename_i v hv;split at he;·rename_i hd;exact i7 r (h.put (d:=d) (by omega) (bJ h hv)) (by rw[Act.size_put,hs]) he);·cases he
  ·cases he
theorem jA{X:Cx}{w:World}{ρ:Nat->Value}{H:Nat->Prop}:∀(l:List (Nat×LV)) (vs:List Value) {s:aa} {a:Act},Fits X s a w ρ->hot X.O ρ s.own=H->a.tmps.size=X.T.N->(∀p∈l,p.1<X.T.N)->aY (aJ H w ρ) (l.map Prod.snd) vs->
  ∃a',a'={a with tmps:=((l.map Prod.fst).zip vs).foldl (fun(t:Array Value) (p:Nat×Value)=>t.setIfInBounds p.1 p.2) a.tmps}/\Fits X (cq s l) a' w ρ/\a'.tmps.size=X.T.N
 | [],[],s,a,h,_,hs,_,_=>⟨a,rfl,h,hs⟩
 |(p,x)::l,v::vs,s,a,h,hH,hs,hl,h2=>by
  have hp:=hl (p,x) (by simp);have h3:=h.put (d:=p) (v:= .l x) (val:=v) (by simp only at hp;omega) (by rw[hH];exact h2.1);obtain⟨a',e,h4,h5⟩:=jA l vs h3 hH (by rw[Act.size_put,hs]) (fun q hq=>hl q (by simp[hq])) h2.2;exact⟨a',by rw[e];rfl,h4,h5⟩
 | [],_::_,_,_,_,_,_,_,h2=>h2.elim
 |_::_,[],_,_,_,_,_,_,h2=>h2.elim
theorem jB{t:Nat}:∀(l:List (Nat×Value)) (tm:Array Value),t∉l.map Prod.fst->(l.foldl (fun(t:Array Value) (p:Nat×Value)=>t.setIfInBounds p.1 p.2) tm).getD t undef=tm.getD t undef
 | [],_,_=>rfl
 |(p,v)::l,tm,h=>by
  simp only[O6,IS,not_or] at h;rw[PQ,jB l _ h.2];have:(tm.setIfInBounds p v)[t]? =tm[t]? :=Array.getElem?_setIfInBounds_ne (Ne.symm h.1);simp only[O1,this]
def LV.isZ:LV->Bool
 | .z _ _=>true
 |_=>false
def xE(H:Nat->Prop)(n:Nat)(A B:World):Prop:=∀b,b<n-> ¬H b->(∃o:Obj,A.heap[b]? =some o/\o.isCells=true)->B.heap[b]? =A.heap[b]?
structure FZ (E:Nat->Prop) (A B:World):Prop where
 os:B.os=A.os
 tape:B.tape=A.tape
 output:B.output=A.output
 size:B.heap.size=A.heap.size
 same:∀b,¬E b->B.heap[b]? =A.heap[b]?
 cells:∀b,E b->∃o:Obj,B.heap[b]? =some o/\o.isCells=true
def uu(P:Program)(gf:FuncId)(lb:Array Value)(enc:Nat->Array Value)(N:Nat)(Kp:World->World->Prop)(w:World)(E:Nat->Prop:=fun _=>False):Prop:=
 ∀(l:Nat) (J:Nat->World->Prop) (Jx:World->Prop) (W:World),Below w.heap.size w W->AbidesFrom W.heap.size J->AbidesFrom W.heap.size (fun(_:Unit)=>Jx)->(∀k A B,J k A->FZ E A B->J k B)->(∀A B,Jx A->FZ E A B->Jx B)->
  (∀k W1,J k W1->k<N->YieldAt (fw none) 0 P l (enc k) W1 fun e W'=>(e= .returned (.bool true)/\J (k+1) W'/\Kp W1 W')∨(e= .returned (.bool false)/\Jx W'))->
  J 0 W->CallsIn (fw none) 1 P gf (#[.func (.yield l) #[] #[]]++lb) W fun e W'=>(∃v,e= .returned v)/\(J N W'∨Jx W')
theorem uu.kp{P:Program}{gf:FuncId}{lb:Array Value}{enc:Nat->Array Value}{N:Nat}{Kp Kp':World->World->Prop}{w:World}{E:Nat->Prop}(h:uu P gf lb enc N Kp w E)(hk:∀A B,Kp' A B->Kp A B):uu P gf lb enc N Kp' w E:=
 fun l J Jx W h1 h2 h3 h4 h5 hY h0=>h l J Jx W h1 h2 h3 h4 h5 (fun k W1 hJ hkN=>by
  obtain⟨fn,tmps,assign,body,hy,hR⟩:=hY k W1 hJ hkN;exact⟨fn,tmps,assign,body,hy,hR.mono (fun e W' hh=>hh.imp (fun h=>⟨h.1,h.2.1,hk _ _ h.2.2⟩) id)⟩) h0
structure nn (P:Program) (gf:FuncId) (m:Nat) (caps:List CV) (items:List (List LV)):Prop where
 enters:∀args w,(callFunc gf args).run P w= .ok (.enter gf args) w
 data:∀it∈items,it.length=m/\it.all LV.isZ=true
 seq:∀(H:Nat->Prop) (w:World) (lb:List Value),(∀b,H b->b<w.heap.size)->aY (eY H w (fun _=>undef)) caps lb->
  ∃enc:Nat->Array Value,(∀k (hk:k<items.length),aY (aJ H w (fun _=>undef)) items[k] (enc k).toList)/\uu P gf lb.toArray enc items.length (xE H w.heap.size) w
def kN{ι:Type}(f:Nat->ι->aa)(Φ:Nat->ι->Prop)(ks:List Nat)(K:Exit->aa->Prop)(k:Nat)(e:Exit)(s:aa):Prop:=match e with
 | .normal=>∃y,le s (f (k+1) y)/\Φ (k+1) y
 | .ret=>∃z,le s z/\z.env.all (fun e=>ks.contains e.1)=true/\K .ret z
 | .exit i=>∃z,le s z/\z.env.all (fun e=>ks.contains e.1)=true/\K (.exit i) z
 |_=>False
def ou(K:Exit->aa->Prop)(z:aa):Code->Prop
 | .ret=>K .ret z
 | .exit i=>K (.exit i) z
 |_=>False
theorem Fits.cells{X:Cx}{s:aa}{a:Act}{A B:World}{ρ:Nat->Value}(h:Fits X s a A ρ)(hk:∀k:Nat,(∃o:Obj,A.heap[k]? =some o/\o.isCells=true)->B.heap[k]? =A.heap[k]?):Fits X s a B ρ:=by
 have hs:aW (hot X.O ρ s.own) A B:=fun b _ hb=>hk b hb;refine⟨fun e he=>?_,fun p hp=>(h.own p hp).move_id (fun _ _ h=>h) hs (fun b hb=>hk b ((h.own p hp).cells hb)),h.io,h.apart⟩;have:=eF (f:=id) (fun x v hx=>aN (fun _ _ h=>h) hs (fun _ _=>rfl) hx) (h.env e he);have e2:e.2.map id=e.2:=by cases e.2<;>simp[AV.map]
 rwa [e2] at this
abbrev XE(X:Cx)(E:Nat->Prop):Cx:={X with O:=fun b=>X.O b∨E b}
structure bX (X:Cx) (a:Act) (w:World) (H E:Nat->Prop) (z:aa) (W:World) (ρ:Nat->Value):Prop where
 fits:Fits (XE X E) z a W ρ
 bel:Bel X.M X.w0 W
 own:∀p∈z.own,∀b,Blk (ρ p.1) b->w.heap.size<=b∨H b
 keeps:KeepsOthers w W
 stays:aW (fun b=>H b∨E b) w W
theorem bX.abide{X:Cx}{a:Act}{w:World}{H E:Nat->Prop}{z:aa}{A B:World}{ρ:Nat->Value}(h:bX X a w H E z A ρ)(hw:X.w0.heap.size<=w.heap.size){row:Option Nat}(hg:A.grownBy B row)(hr:∀r,row=some r->w.heap.size<=r/\∃o:Obj,A.heap[r]? =some o/\o.isCells=false):bX X a w H E z B ρ:=by
 refine⟨h.fits.cells (fun k ⟨o,ho,hc⟩=>hg.block k (BY.1 ho).1 (fun e=>?_)),⟨hg.os.trans h.bel.os,hg.tape.trans h.bel.tape,hg.output.trans h.bel.output,Og h.bel.size hg.size,fun k hk hm=>?_⟩,h.own,⟨Og h.keeps.size hg.size,fun k o hk ho=>?_⟩,fun b hb hc=>?_⟩;·obtain⟨_,o',ho',hc'⟩:=hr k e.symm;rw[ho] at ho';cases ho';rw[hc] at hc';cases hc'
 ·have:=h.bel.size;rw[hg.block k (by omega) (fun e=>by have:=(hr k e.symm).1;omega)];exact h.bel.block k hk hm
 ·have hlt:=(BY.1 hk).1;have:=h.keeps.size;rw[hg.block k (by omega) (fun e=>by have:=(hr k e.symm).1;omega)];exact h.keeps.same k o hk ho
 ·have h1:=h.stays b hb hc;have hlt:=cg hc;have:=h.keeps.size;rw[hg.block b (by omega) (fun e=>by have:=(hr b e.symm).1;omega)];exact h1
theorem bX.turn{X:Cx}{a:Act}{w:World}{H E:Nat->Prop}{z:aa}{A B:World}{ρ:Nat->Value}(h:bX X a w H E z A ρ)(hEM:∀b,E b->X.M b)(hEw:∀b,E b->∃o:Obj,w.heap[b]? =some o/\o.isCells=true)(hEH:∀b,E b-> ¬H b)(ht:FZ E A B):bX X a w H E z B ρ:=by
 have hs:aW (hot (XE X E).O ρ z.own) A B:=fun b hb _=>ht.same b (fun e=>hb (.inl (.inr e)));refine⟨⟨fun e he=>?_,fun p hp=>(h.fits.own p hp).move_id (fun _ _ h=>h) hs (fun b hb=>ht.same b (fun e=>?_)),h.fits.io,h.fits.apart⟩,⟨ht.os.trans h.bel.os,ht.tape.trans h.bel.tape,ht.output.trans h.bel.output,by rw[ht.size];exact h.bel.size,fun k hk hm=>(ht.same k (fun e=>hm (hEM k e))).trans (h.bel.block k hk hm)⟩,h.own,⟨by rw[ht.size];exact h.keeps.size,fun k o hk ho=>?_⟩,fun b hb hc=>(ht.same b (fun e=>hb (.inr e))).trans (h.stays b hb hc)⟩
 ·have:=eF (f:=id) (fun x v hx=>aN (fun _ _ h=>h) hs (fun _ _=>rfl) hx) (h.fits.env e he);have e2:e.2.map id=e.2:=by cases e.2<;>simp[AV.map]
  rwa [e2] at this
 ·rcases h.own p hp b hb with h1|h1;·obtain⟨o,ho,_⟩:=hEw b e;have:=(BY.1 ho).1;omega
  ·exact hEH b e h1
 ·by_cases e:E k
  ·obtain⟨o',ho',hc'⟩:=hEw k e;rw[hk] at ho';cases ho';rw[ho] at hc';cases hc'
  ·rw[ht.same k e];exact h.keeps.same k o hk ho
theorem bX.st{X:Cx}{a:Act}{w:World}{H E:Nat->Prop}{z s:aa}{W:World}{ρ:Nat->Value}(h:bX X a w H E z W ρ)(hq:X.q=false)(hst:St X s a w)(hD:W.heap[w.heap.size]? =some (.deferred (some []))):St X z {a with defers:={target:= .collected w.heap.size,args:= #[]}::a.defers} W:=by
 have hh:∀b,b<W.heap.size->hot X.O ρ z.own b->hot (XE X E).O ρ z.own b:=fun b _ hb=>hb.elim (fun h=> .inl (.inl h)) .inr;refine⟨⟨fun e=>absurd e (by rw[hq];simp),fun d hd=>?_,OW.2 ⟨fun d hd e=>?_,hst.marks.apart⟩⟩,hst.kept,hst.size,h.bel,hst.others,hst.small,ρ,fun e he=>?_,fun p hp=>(h.fits.own p hp).move_id hh (aW.refl _ _) (fun _ _=>rfl),h.fits.io,h.fits.apart⟩
 ·rcases IS.1 hd with rfl|hd;·exact⟨_,rfl,hst.below.size,hD⟩
  ·obtain⟨D,h1,h2,h3⟩:=hst.marks.each d hd;exact⟨D,h1,h2,h.keeps.same _ _ h3 rfl⟩
 ·obtain⟨D,h1,h2,h3⟩:=hst.marks.each d hd;rw[h1] at e;have:w.heap.size=D:=by injection e with e1 e2;injection e1
  have:=(BY.1 h3).1;omega
 ·have:=eF (f:=id) (fun x v hx=>aN hh (aW.refl _ _) (fun _ _=>rfl) hx) (h.fits.env e he);have e2:e.2.map id=e.2:=by cases e.2<;>simp[AV.map]
  rwa [e2] at this
theorem pZ{r:Option Nat}{n m:Nat}{P:Program}{c:Code}{Q:Exit->Act->World->Prop}{a:Act}{w:World}(h:c.wpIn (fw r) n P Q a w):c.wpIn (fw r) m P Q a w:=
 fun b k cs h1 h2 _=>h b k cs h1 h2 (room_wide _)
end Go.Cm
end
section
namespace Go.Cm
open Go.RowKit
theorem aV.keep{P:Program}{T:Tab}(h:aV P T)(ks:List Nat):aV P {T with keep:=ks}:=
 ⟨⟨h.tab.types,h.tab.elems,h.tab.small,h.tab.globs⟩,⟨h.cons.cons,h.cons.body⟩,h.mixed⟩
theorem bX.back{X:Cx}{a:Act}{w:World}{H E:Nat->Prop}{z:aa}{A B:World}{ρ:Nat->Value}{y:aa}{ks:List Nat}{a1 a3:Act}{l:Nat}(h:bX X a w H E y A ρ)
  (hkept:∀t∈ks,a1.tmps.getD t undef=a.tmps.getD t undef) (hz:z.env.all (fun e=>ks.contains e.1)=true) {s:aa} (hle:le s z)
  (h3:St {XE X E with T:={X.T with keep:=ks},I:=fun b=>∃p∈y.own,Blk (ρ p.1) b,w0:=A,r:=some l,tm:=fun t=>a1.tmps.getD t undef} s a3 B):∃ ρ',bX X a w H E z B ρ'/\KeepsOthers A B/\xE H w.heap.size A B:=by
 obtain⟨ρ3,hf3⟩:=h3.fits;have hf4:=hf3.le hle;have hko:KeepsOthers A B:=KeepsOthers.of_bel h3.below (fun b hb hm=>by
  rcases hm with hm|⟨p,hp,hpb⟩;·simp only at hm;omega
  ·exact(h.fits.own p hp).cells hpb)
 have hM:∀b,Cx.M {XE X E with T:={X.T with keep:=ks},I:=fun b=>∃p∈y.own,Blk (ρ p.1) b,w0:=A,r:=some l,tm:=fun t=>a1.tmps.getD t undef} b->X.M b:=by
  rintro b (hb|⟨p,hp,hpb⟩);·have:=h.bel.size;simp only at hb;exact .inl (by omega)
  ·exact((h.fits.own p hp).lt hpb).1
 have hI:∀b,Cx.M {XE X E with T:={X.T with keep:=ks},I:=fun b=>∃p∈y.own,Blk (ρ p.1) b,w0:=A,r:=some l,tm:=fun t=>a1.tmps.getD t undef} b->w.heap.size<=b∨H b:=by
  rintro b (hb|⟨p,hp,hpb⟩);·have:=h.keeps.size;simp only at hb;exact .inl (by omega)
  ·exact h.own p hp b hpb
 refine⟨_,⟨⟨fun e he=>?_,fun p hp=>?_,hf4.io,hf4.apart⟩,h.bel.trans h3.below (fun j _ hm=>hM j hm),fun p hp b hb=>hI b ((hf4.own p hp).lt hb).1,h.keeps.trans hko,fun b hb hc=>?_⟩,hko,fun b hb hnH hc=>?_⟩
 ·have h5:=hf4.env e he;have hmem:e.1∈ks:=by simpa using Ob.1 hz e he
  have h6:=h3.kept e.1 hmem;rw[h6] at h5;simp only at h5;rw[hkept e.1 hmem] at h5;exact h5
 ·have:=(hf4.own p hp).moved (H':=hot (XE X E).O (bT ρ3 s.own) z.own) (ρ':=bT ρ3 s.own) (k:=p.1) (f:=id) (M':=X.M) (fun _ _ h=>h) (fun _ _ h=>h) rfl (fun b hb=>hM b ((hf4.own p hp).lt hb).1);rw[aB.map_id] at this;exact this
 ·have h1:=h.stays b hb hc;have hlt:=cg hc;refine Eq.trans (h3.below.block b ?_ ?_) h1;·have:=h.keeps.size;simp only;omega
  ·(intro hm;rcases hI b hm with h7|h7;·omega);·exact hb (.inl h7)
 ·have hlt:=cg hc;refine h3.below.block b hlt ?_;intro hm;rcases hI b hm with h7|h7;·omega
  ·exact hnH h7
theorem F0{X:Cx}(hr:X.calm){s:aa}{K:Exit->aa->Prop}{g:Operand}{ps:Array Tmp}{assign body:Code}{gf:FuncId}
  {items:List (List LV)} (henters:∀args w,(callFunc gf args).run X.P w= .ok (.enter gf args) w) (hdata:∀it∈items,it.length=ps.size/\it.all LV.isZ=true) {ms:List (Nat×Operand)} (hms:fN assign=some ms) (ks:List Nat)
  (hk1:ks.all (fun t=> !ps.toList.contains t&& !(ms.map Prod.fst).contains t)=true) (hps:ps.toList.all (fun t=>decide (t<X.T.N))=true)
  {ι:Type} (f:Nat->ι->aa) (Φ:Nat->ι->Prop) (x₀:ι) (h₀:le s (f 0 x₀))
  (hseq:∀(a:Act) (w:World) (ρ:Nat->Value),St X s a w->Fits X s a w ρ->(∀b,hot X.O (bT ρ s.own) (f 0 x₀).own b->b<w.heap.size)->∃(lb:List Value) (E:Nat->Prop),a.eval g= .func (.func gf) #[] lb.toArray/\(∀b,E b->X.M b/\(∃o:Obj,w.heap[b]? =some o/\o.isCells=true)/\ ¬hot X.O (bT ρ s.own) (f 0 x₀).own b/\hot X.O ρ s.own b)/\∃enc:Nat->Array Value,
   (∀k (hk:k<items.length),aY (aJ (fun b=>hot X.O (bT ρ s.own) (f 0 x₀).own b∨E b) w (fun _=>undef)) items[k] (enc k).toList)/\uu X.P gf lb.toArray enc items.length (xE (hot (fun _=>False) (bT ρ s.own) (f 0 x₀).own) w.heap.size) w E) (hΦ:Φ 0 x₀) (hks:∀k x,(f k x).env.all (fun e=>ks.contains e.1)=true)
  (hround:∀k (hk:k<items.length) (x:ι),Φ k x->∃s1,cP X.T.N (cq (f k x) (ps.toList.zip items[k])) ms=some s1/\
   ∀X':Cx,X'.P=X.P->X'.T={X.T with keep:=ks}->J X' body s1 (kN f Φ ks K k))
  (hdone:∀x,Φ items.length x->K .normal (f items.length x)):J X (.rangeFunc g ps assign body) s K:=by
 intro a w hst;obtain⟨ρ,hf⟩:=hst.fits;have hHlt':∀b,hot X.O (bT ρ s.own) (f 0 x₀).own b->b<w.heap.size:=fun b hb=>hf.hot_lt hst.others hst.below (gp h₀ hb);have hseq':=hseq a w ρ hst hf hHlt';obtain⟨H,hH⟩:∃H,H=hot (fun _=>False) (bT ρ s.own) (f 0 x₀).own:=⟨_,rfl⟩;have hHX:∀b,H b->hot X.O (bT ρ s.own) (f 0 x₀).own b:=fun b hb=>by rw[hH] at hb;exact hb.elim False.elim .inr
 rw[<- hH] at hseq';obtain⟨lb,E,hlb1,hE,enc,henc,hsq⟩:=hseq';have hEM:=fun b hb=>(hE b hb).1;have hEw:=fun b hb=>(hE b hb).2.1;have hEH:∀b,E b-> ¬H b:=fun b hb h=>(hE b hb).2.2.1 (hHX b h);have hw0:X.w0.heap.size<=w.heap.size:=hst.below.size;have hout0:bX X a w H E (f 0 x₀) w (bT ρ s.own):=by
  have h1:Fits (XE X E) (f 0 x₀) a w (bT ρ s.own):=Fits.leO h₀ hf (fun b _ hb=>by
   (rcases hb with(hb|hb)|hb;·exact .inl hb);·exact(hE b hb).2.2.2
   ·exact gp h₀ (.inr hb))
  exact⟨h1,hst.below,fun p hp b hb=> .inr (by rw[hH];exact db hp hb),KeepsOthers.refl _,aW.refl _ _⟩
 refine wpIn_rangeFunc ?_;intro fn hfn;have hround0:(fw X.r).round=none:=by rw[hr.1];rfl
 rw[hround0];obtain⟨rec,hrec⟩:∃rec:LoopState->Option Code->Loop,rec=fun st pe=>{state:=st,pending:=pe,fn,tmps:=a.tmps,params:=ps,assign,body,defers:=w.heap.size}:=⟨_,rfl⟩;obtain⟨W1,hW1⟩:∃W1,(w.alloc (.deferred (some []))).alloc (.loop (rec .ready none))=W1:=⟨_,rfl⟩;have hsz1:W1.heap.size=w.heap.size+2:=by rw[<- hW1];simp
 have hL1:W1.heap[w.heap.size+1]? =some (.loop (rec .ready none)):=by
  rw[<- hW1];have:=World.alloc_heap_new (w.alloc (.deferred (some []))) (.loop (rec .ready none));rwa [World.size_alloc] at this
 have hD1:W1.heap[w.heap.size]? =some (.deferred (some [])):=by
  rw[<- hW1];exact(Below.heap_alloc _ _ _ (by simp)).trans (World.alloc_heap_new w _)
 have hb1:Below w.heap.size w W1:=by rw[<- hW1];exact((Below.refl _ w).alloc (Oa _) _).alloc (by simp) _
 have hout1:bX X a w H E (f 0 x₀) W1 (bT ρ s.own):=by
  rw[<- hW1];exact(hout0.abide hw0 (World.grownBy_alloc _ _ none) (by simp)).abide hw0 (World.grownBy_alloc _ _ none) (by simp)
 refine⟨w.heap.size+1,[{target:= .collected w.heap.size,args:= #[]}],W1,{target:= .fn (.func gf) lb.toArray,args:= #[.func (.yield (w.heap.size+1)) #[] #[]]},W1,gf,
  #[.func (.yield (w.heap.size+1)) #[] #[]]++lb.toArray,W1,?_,?_,fun _ _=>trivial,?_,fun h=>by simp[fw,Fence.wide] at h,?_⟩
 ·rw[<- hW1,hrec];exact run_enterLoop_outer _ _ _ _ _
 ·simp only[resolve,hlb1];simp[go_sem]
 ·simp[invoke,go_sem,henters]
 have hfw:fw X.r=fw none:=by rw[hr.1]
 rw[hfw];have hkeptA:∀k (act0:Act),act0.tmps=((ps.toList.zip (enc k).toList).foldl (fun(t:Array Value) (p:Nat×Value)=>t.setIfInBounds p.1 p.2) a.tmps)->∀t∈ks,(bp act0 ms).tmps.getD t undef=a.tmps.getD t undef:=by
  intro k act0 h0 t ht;have h1:=Ob.1 hk1 t ht;simp only[N9,Pc,PK,decide_eq_false_iff_not] at h1;rw[gD ms _ h1.2,h0,jB];intro hm;obtain⟨p,hp,rfl⟩:=Ot.1 hm;exact h1.1 (QT hp).1
 have hE1:¬E (w.heap.size+1):=fun e=>by
  obtain⟨o,ho,_⟩:=hEw _ e;have:=(BY.1 ho).1;omega
 have hE2:¬E w.heap.size:=fun e=>by
  obtain⟨o,ho,_⟩:=hEw _ e;have:=(BY.1 ho).1;omega
 refine(hsq (w.heap.size+1)
  (fun k W=>(∃x ρ,Φ k x/\bX X a w H E (f k x) W ρ)/\W.heap[w.heap.size+1]? =some (.loop (rec .ready none))/\W.heap[w.heap.size]? =some (.deferred (some [])))
  (fun W=>∃c,(∃z ρ,ou K z c/\bX X a w H E z W ρ)/\W.heap[w.heap.size+1]? =some (.loop (rec .done (some c)))/\W.heap[w.heap.size]? =some (.deferred (some [])))
  W1 hb1 ?_ ?_ ?_ ?_ ?_ ⟨⟨x₀,_,hΦ,hout1⟩,hL1,hD1⟩).mono ?_
 ·rintro k A B row ⟨⟨x,ρx,hx,ho⟩,hl,hd⟩ hg' hrow;refine⟨⟨x,ρx,hx,ho.abide hw0 hg' (fun r e=>?_)⟩,(grownBy_keeps hg' (fun r e=>(hrow r e).2) hl rfl).trans hl,(grownBy_keeps hg' (fun r e=>(hrow r e).2) hd rfl).trans hd⟩;obtain⟨h1,o,h2,h3⟩:=hrow r e;exact⟨by omega,o,h2,Obj.not_cells_of_walk h3⟩
 ·rintro _ A B row ⟨c,⟨z,ρx,hx,ho⟩,hl,hd⟩ hg' hrow;refine⟨c,⟨z,ρx,hx,ho.abide hw0 hg' (fun r e=>?_)⟩,(grownBy_keeps hg' (fun r e=>(hrow r e).2) hl rfl).trans hl,(grownBy_keeps hg' (fun r e=>(hrow r e).2) hd rfl).trans hd⟩;obtain⟨h1,o,h2,h3⟩:=hrow r e;exact⟨by omega,o,h2,Obj.not_cells_of_walk h3⟩
 ·rintro k A B ⟨⟨x,ρx,hx,ho⟩,hl,hd⟩ ht;exact⟨⟨x,ρx,hx,ho.turn hEM hEw hEH ht⟩,(ht.same _ hE1).trans hl,(ht.same _ hE2).trans hd⟩
 ·rintro A B ⟨c,⟨z,ρx,hx,ho⟩,hl,hd⟩ ht;exact⟨c,⟨z,ρx,hx,ho.turn hEM hEw hEH ht⟩,(ht.same _ hE1).trans hl,(ht.same _ hE2).trans hd⟩
 ·rintro k W ⟨⟨x,ρx,hx,ho⟩,hl,hd⟩ hkN;obtain⟨s1,hs1,hJ⟩:=hround k hkN x hx;have hlt:w.heap.size+1<W.heap.size:=(BY.1 hl).1;have hen:=henc k hkN;have hdat:=hdata _ (OE hkN);have hes:(enc k).size=ps.size:=by have:=hen.length;rw[hdat.1] at this;simpa using this.symm
  have hy:=run_yield (P:=X.P) (args:=enc k) hl (by rw[hrec];exact hes);rw[hrec] at hy;refine⟨fn,_,assign,body,hy,roundIn_of_wpIn (F:=fw none) trivial (mn (r:=some (w.heap.size+1)) assign hms ⟨_,run_beginRound hl (by rw[hrec]),?_⟩)⟩;obtain⟨W2,hW2⟩:∃W2,W.putObj (w.heap.size+1) (.loop {rec .ready none with state:= .busy})=W2:=⟨_,rfl⟩;rw[hW2];have hl2:W2.heap[w.heap.size+1]? =some (.loop {rec .ready none with state:= .busy}):=by rw[<- hW2];exact World.putObj_heap_same hlt
  have hd2:W2.heap[w.heap.size]? =some (.deferred (some [])):=by rw[<- hW2];exact(World.putObj_heap_other (by omega)).trans hd
  have ho2:bX X a w H E (f k x) W2 ρx:=by
   rw[<- hW2];exact ho.abide hw0 (grownBy_putObj' _ _ _) (fun r e=>by cases e;exact⟨by omega,_,hl,rfl⟩)
  have hzip:(ps.zip (enc k)).toList=ps.toList.zip (enc k).toList:=Array.toList_zip;have hfold:(ps.zip (enc k)).foldl (fun(t:Array Value) (p:Nat×Value)=>t.setIfInBounds p.1 p.2) a.tmps=(ps.toList.zip (enc k).toList).foldl (fun(t:Array Value) (p:Nat×Value)=>t.setIfInBounds p.1 p.2) a.tmps:=by
   rw[<- Array.foldl_toList,hzip]
  obtain⟨act0,hact0⟩:∃act0:Act,act0={tmps:=(ps.toList.zip (enc k).toList).foldl (fun(t:Array Value) (p:Nat×Value)=>t.setIfInBounds p.1 p.2) a.tmps,defers:=[]}:=⟨_,rfl⟩;have hfitA:Fits (XE X E) (f k x) {a with defers:=[]} W2 ρx:=⟨ho2.fits.env,ho2.fits.own,ho2.fits.io,ho2.fits.apart⟩;have hHsub:∀b,b<w.heap.size->hot (XE X E).O ρx (f k x).own b->(hot X.O (bT ρ s.own) (f 0 x₀).own b∨E b):=by
   (rintro b hb ((h1|h1)|⟨p,hp,hpb⟩);·exact .inl (.inl h1));·exact .inr h1
   ·(rcases ho2.own p hp b hpb with h2|h2;·omega);·exact .inl (hHX b h2)
  have hvals:aY (aJ (hot (XE X E).O ρx (f k x).own) W2 ρx) ((ps.toList.zip (items[k])).map Prod.snd) (enc k).toList:=by
   have e:(ps.toList.zip (items[k])).map Prod.snd=items[k]:=List.map_snd_zip (by have:=hdat.1;simp;omega);rw[e];refine hen.imp (fun y v hy h=>?_);have hz:=Ob.1 hdat.2 y hy;refine aN hHsub (fun b hb hc=>ho2.stays b (fun e=>hb (e.imp (hHX b) id)) hc) (fun id hid=>?_) h;cases y<;>simp_all [LV.isZ,LV.isOf]
  have hszA:a.tmps.size=X.T.N:=hst.size;have e1:(ps.toList.zip (items[k])).map Prod.fst=ps.toList:=List.map_fst_zip (by have:=hdat.1;simp;omega);obtain⟨actP,hactP,hfitP,hszP⟩:=jA (ps.toList.zip (items[k])) (enc k).toList hfitA rfl hszA (fun p hp=>by
   have:=Ob.1 hps p.1 (QT hp).1;simpa using this) hvals
  rw[e1] at hactP;have hP0:actP=act0:=by rw[hactP,hact0]
  rw[hP0] at hfitP hszP;have hfit1:=i7 ms hfitP hszP hs1;rw[hfold,<- hact0];have hkA:=hkeptA k act0 (by rw[hact0]);have hst1:St {XE X E with T:={X.T with keep:=ks},I:=fun b=>∃p∈(f k x).own,Blk (ρx p.1) b,w0:=W2,r:=some (w.heap.size+1),tm:=fun t=>(bp act0 ms).tmps.getD t undef} s1 (bp act0 ms) W2:=by
   refine⟨?_,fun _ _=>rfl,by rw[gC];exact hszP,Bel.refl _ _,fun b hb hm=>?_,⟨hst.small.n,?_,fun b hb=>?_,fun b v t hp=>?_⟩,ρx,hfit1.env,fun p hp=>?_,hfit1.io,hfit1.apart⟩;·rw[ff,hact0];exact Marks.nil _ _ _
   ·rcases hb with hb|hb
    ·rcases hm with hm|⟨p,hp,hpb⟩
     ·have h1:=hst.others b hb;have h2:b<X.w0.heap.size:=by
       by_cases h3:b<X.w0.heap.size
       ·exact h3
       ·exact absurd (.inl (by omega)) h1
      have:=ho2.bel.size;simp only at hm;omega
     ·exact hst.others b hb ((ho2.fits.own p hp).lt hpb).1
    ·obtain⟨o,ho,_⟩:=hEw b hb;have h2:=(BY.1 ho).1;rcases hm with hm|⟨p,hp,hpb⟩;·have:=ho2.keeps.size;simp only at hm;omega
     ·(rcases ho2.own p hp b hpb with h1|h1;·omega);·exact hEH b hb h1
   ·(have h1:=hst.small.on;refine⟨Og h1.1 ho2.bel.size,fun b hb=>?_⟩;rw[<- h1.2 b hb];refine ho2.bel.block b (Nat.lt_of_lt_of_le hb h1.1) ?_;rintro(hm|hm);·have:=h1.1;simp only at hb;omega);·have:=hst.small.io b hm;simp only at hb;omega
   ·(obtain⟨p,hp,hpb⟩:=hb;rcases ((ho2.fits.own p hp).lt hpb).1 with h1|h1;·exact Og hst.small.on.1 h1);·exact hst.small.io b h1
   ·obtain⟨p1,p2,p3,p4⟩:=hst.small.pin b v t hp;have hnM:¬X.M b:=fun hm=>hm.elim (fun h1=>by omega) p2;refine⟨by have:=ho2.bel.size;simp only;omega,fun⟨q,hq,hqb⟩=>hnM ((ho2.fits.own q hq).lt hqb).1,fun h1=>h1.elim p3 (fun h2=>hnM (hEM b h2)),?_⟩;rw[<- p4];exact ho2.bel.block b p1 hnM
   ·have howns:s1.own=(f k x).own:=by
     have hq:∀(l:List (Nat×LV)) (s:aa),(cq s l).own=s.own:=by
      intro l;induction l with
      |nil=>intro s;rfl
      |cons q l ih=>intro s;exact ih _
     have hm:∀(l:List (Nat×Operand)) (s t:aa),cP X.T.N s l=some t->t.own=s.own:=by
      intro l;induction l with
      |nil=>intro s t h;cases h;rfl
      |cons q l ih=>
       intro s t h;simp only[cP] at h;split at h
       ·(split at h;·rw[ih _ _ h];rfl);·cases h
       ·cases h
     rw[hm _ _ _ hs1,hq]
    have:=(hfit1.own p hp).moved (H':=hot (XE X E).O ρx s1.own) (ρ':=ρx) (k:=p.1) (f:=id) (M':=Cx.M {XE X E with T:={X.T with keep:=ks},I:=fun b=>∃p∈(f k x).own,Blk (ρx p.1) b,w0:=W2,r:=some (w.heap.size+1),tm:=fun t=>(bp act0 ms).tmps.getD t undef}) (fun _ _ h=>h) (fun _ _ h=>h) rfl (fun b hb=> .inr ⟨p,by rw[<- howns];exact hp,hb⟩);rw[aB.map_id] at this;exact this
  have hw:=hJ {XE X E with T:={X.T with keep:=ks},I:=fun b=>∃p∈(f k x).own,Blk (ρx p.1) b,w0:=W2,r:=some (w.heap.size+1),tm:=fun t=>(bp act0 ms).tmps.getD t undef} rfl rfl _ _ hst1;refine pZ (n:=2) (Code.wpIn_mono (fun e a3 W3 hp=>?_) hw);obtain⟨s3,hK3,hst3⟩:=hp;have fin:∀(jump:Option Code) (z:aa),z.env.all (fun e=>ks.contains e.1)=true->le s3 z->∃ ρz,bX X a w H E z (W3.putObj (w.heap.size+1) (.loop (rec (if jump.isNone then .ready else .done) jump))) ρz/\
    (Instr.endRound (w.heap.size+1) jump).run X.P W3= .ok (.bool jump.isNone) (W3.putObj (w.heap.size+1) (.loop (rec (if jump.isNone then .ready else .done) jump)))/\
    (W3.putObj (w.heap.size+1) (.loop (rec (if jump.isNone then .ready else .done) jump))).heap[w.heap.size+1]? =some (.loop (rec (if jump.isNone then .ready else .done) jump))/\
    (W3.putObj (w.heap.size+1) (.loop (rec (if jump.isNone then .ready else .done) jump))).heap[w.heap.size]? =some (.deferred (some []))/\
    xE H w.heap.size W (W3.putObj (w.heap.size+1) (.loop (rec (if jump.isNone then .ready else .done) jump))):=by
   intro jump z hz hle;obtain⟨ρz,h1,h2,h3⟩:=ho2.back hkA hz hle hst3;have hl3:=h2.same _ _ hl2 rfl;have hd3:=h2.same _ _ hd2 rfl;have he:=run_endRound (P:=X.P) jump hl3;rw[hrec] at he ⊢;refine⟨ρz,h1.abide hw0 (grownBy_putObj' _ _ _) (fun r e=>by cases e;exact⟨by omega,_,hl3,rfl⟩),he,World.putObj_heap_same (BY.1 hl3).1,(World.putObj_heap_other (by omega)).trans hd3,fun b hb hnH hc=>?_⟩;(have e1:W2.heap[b]? =W.heap[b]? :=by rw[<- hW2];exact World.putObj_heap_other (by omega));rw[World.putObj_heap_other (by omega),h3 b hb hnH (by rw[e1];exact hc),e1]
  cases e with
  |normal=>
   obtain⟨y,hle,hy'⟩:=hK3;obtain⟨ρz,h1,h2,h3,h4,h5⟩:=fin none _ (hks (k+1) y) hle;exact⟨_,_,h2,.inl ⟨rfl,⟨⟨y,ρz,hy',h1⟩,h3,h4⟩,h5⟩⟩
  |ret=>
   obtain⟨z,hle,hz,hk3⟩:=hK3;obtain⟨ρz,h1,h2,h3,h4,h5⟩:=fin (some .ret) _ hz hle;exact⟨_,_,h2,.inr ⟨rfl,.ret,⟨z,ρz,hk3,h1⟩,h3,h4⟩⟩
  |exit i=>
   obtain⟨z,hle,hz,hk3⟩:=hK3;obtain⟨ρz,h1,h2,h3,h4,h5⟩:=fin (some (.exit i)) _ hz hle;exact⟨_,_,h2,.inr ⟨rfl,.exit i,⟨z,ρz,hk3,h1⟩,h3,h4⟩⟩
  |goto t=>exact hK3.elim
  |panic ch=>exact hK3.elim
  |outgrown=>exact hK3.elim
 ·rintro e W2 ⟨⟨v,rfl⟩,(⟨⟨x,ρx,hx,ho⟩,hl,hd⟩|⟨c,⟨z,ρz,hj,ho⟩,hl,hd⟩)⟩;·have he:=run_endLoop (P:=X.P) hl (by rw[hrec];simp);rw[hrec] at he;refine⟨none,_,he,_,hdone x hx,(ho.abide hw0 (grownBy_putObj' _ _ _) (fun r e=>by cases e;exact⟨by omega,_,hl,rfl⟩)).st hr.2 hst ((World.putObj_heap_other (by omega)).trans hd)⟩
  ·have he:=run_endLoop (P:=X.P) hl (by rw[hrec];simp);rw[hrec] at he;refine⟨some c,_,he,?_⟩;cases c with
   |ret=>exact wpIn_ret ⟨z,hj,(ho.abide hw0 (grownBy_putObj' _ _ _) (fun r e=>by cases e;exact⟨by omega,_,hl,rfl⟩)).st hr.2 hst ((World.putObj_heap_other (by omega)).trans hd)⟩
   |exit i=>exact wpIn_exit ⟨z,hj,(ho.abide hw0 (grownBy_putObj' _ _ _) (fun r e=>by cases e;exact⟨by omega,_,hl,rfl⟩)).st hr.2 hst ((World.putObj_heap_other (by omega)).trans hd)⟩
   |_=>exact hj.elim
theorem Bz{X:Cx}(hr:X.calm){s:aa}{K:Exit->aa->Prop}{g:Operand}{ps:Array Tmp}{assign body:Code}{gf:FuncId}{caps:List CV}
  (hg:aP s g=some (.l (.fn gf caps))) (hcap:caps.all CV.pure=true) {items:List (List LV)} (hseq:nn X.P gf ps.size caps items) {ms:List (Nat×Operand)} (hms:fN assign=some ms) (ks:List Nat)
  (hk1:ks.all (fun t=> !ps.toList.contains t&& !(ms.map Prod.fst).contains t)=true) (hps:ps.toList.all (fun t=>decide (t<X.T.N))=true)
  {ι:Type} (f:Nat->ι->aa) (Φ:Nat->ι->Prop) (x₀:ι) (h₀:le s (f 0 x₀)) (hΦ:Φ 0 x₀) (hks:∀k x,(f k x).env.all (fun e=>ks.contains e.1)=true)
  (hround:∀k (hk:k<items.length) (x:ι),Φ k x->∃s1,cP X.T.N (cq (f k x) (ps.toList.zip items[k])) ms=some s1/\
   ∀X':Cx,X'.P=X.P->X'.T={X.T with keep:=ks}->J X' body s1 (kN f Φ ks K k))
  (hdone:∀x,Φ items.length x->K .normal (f items.length x)):J X (.rangeFunc g ps assign body) s K:=
 F0 hr hseq.enters hseq.data hms ks hk1 hps f Φ x₀ h₀ (fun a w ρ _ hf hlt=>by
  obtain⟨lb,hlb1,hlb2⟩:aJ (hot X.O ρ s.own) w ρ (.fn gf caps) (a.eval g):=bJ hf hg;obtain⟨enc,h1,h2⟩:=hseq.seq _ w lb hlt (i6 hcap (fun b hb=>gp h₀ hb) hlb2);exact⟨lb,fun _=>False,hlb1,fun b hb=>hb.elim,enc,fun k hk=>(h1 k hk).imp (fun x v hx h=>aN (H:=hot X.O (bT ρ s.own) (f 0 x₀).own) (fun b _ hb=>hb.elim id (fun e=>e.elim)) (aW.refl _ _) (fun _ _=>rfl) h),h2.kp (fun A B hk b hb hn hc=>hk b hb (fun e=>hn (e.elim False.elim .inr)) hc)⟩) hΦ hks hround hdone
end Go.Cm
end
section
namespace Go.Cm
open Go.RowKit Go.Deep Go.ChangeShapes Go.WideShapes
def jV(W W':World):Prop:=∀b,b<W.heap.size->W'.heap[b]? =W.heap[b]?
theorem jV.cell{W W':World}(h:jV W W'){a:Addr}{v:Value}(hc:W.cell? a=some v):W'.cell? a=some v:=by
 rw[<- hc];exact World.cell?_of_block (h a.block (block_lt_of_cell hc))
def F1(P:Program)(w:Nat)(r:TypeId->Bool):Nat->List Field->Bool:=fun off fs=>match fs with
 | [f]=>f.offset==off&&P.cellsOf f.type==w&&r f.type
 |_=>false
def ep(P:Program)(w:Nat)(r:TypeId->Bool):(TypeId->Bool)×(Nat->List Field->Bool):=(r,F1 P w r)
def Ty.rd(P:Program):Ty->(TypeId->Bool)×(Nat->List Field->Bool)
 | .int k=>ep P 1 fun T=>match P.underlying T with
  |some (.int k')=>decide (k'=k)
  |_=>false
 | .bool=>ep P 1 fun T=>match P.underlying T with
  |some .bool=>true
  |_=>false
 | .str=>ep P 1 fun T=>match P.underlying T with
  |some .string=>true
  |_=>false
 | .unit=>(fun _=>false,fun _ _=>false)
 | .pair a b=>(fun _=>false,fun off fs=>match fs with
  |f::r=>f.offset==off&&P.cellsOf f.type==a.w&&(a.rd P).1 f.type&&(b.rd P).2 (off+a.w) r
  | []=>false)
 | .st t=>ep P t.w fun T=>match P.underlying T with
  |some (.struct fs)=>P.cellsOf T==t.w&&(t.rd P).2 0 fs.toList
  |_=>false
 | .arr n t=>ep P (n*t.w) fun T=>match P.underlying T with
  |some (.array m E)=>m==n&&P.cellsOf E==t.w&&P.cellsOf T==n*t.w&&(t.rd P).1 E
  |_=>false
 | .slice t=>ep P 1 fun T=>match P.underlying T with
  |some (.slice E)=>P.cellsOf E==t.w&&decide (0<t.w)&&(t.rd P).1 E
  |_=>false
 | .ptr _=>(fun _=>false,fun _ _=>false)
 | .opt _=>(fun _=>false,fun _ _=>false)
 | .func=>(fun _=>false,fun _ _=>false)
def Ty.okD:(t:Ty)->t.D->Prop
 | .int k,x=>k.min<=x/\x<=k.max
 | .bool,_=>True
 | .str,x=>x.length<=maxLen
 | .unit,_=>True
 | .pair a b,x=>a.okD x.1/\b.okD x.2
 | .st t,x=>t.okD x
 | .arr n t,x=>x.length=n/\∀y∈x,t.okD y
 | .slice t,x=>x.length<=maxLen/\∀y∈x,t.okD y
 | .ptr t,x=>t.okD x
 | .opt t,x=>∀y,x=some y->t.okD y
 | .func,_=>True
section
variable {H:Type} (enc:TypeId×Value->H) (P:Program) (W:World)
def kO(t:Ty)(T:TypeId)(cs:List Value)(d:DataW H)(ps:List MemPlace):Prop:=
 ∃x:t.D,t.okD x/\t.rep (fun _=>False) W cs x/\
  ∀(W':World) (sp:Nat->Bool),jV W W'->(∀q∈ps,sp q.block=true)->∃n,DataW.trod enc P W' 0 sp true n T cs=some (d,ps)
theorem mapM_at{α β:Type}{f:α->Option β}:∀{l:List α} {xs:List β},l.mapM f=some xs->xs.length=l.length/\∀(i:Nat) a,l[i]? =some a->f a=xs[i]?
 | [],xs,h=>by simp at h;subst h;simp
 |a::l,xs,h=>by
  simp only[Ri,R7,Rm,Option.pure_def,PV] at h;obtain⟨y,hy,ys,hys,rfl⟩:=h;obtain⟨h1,h2⟩:=mapM_at hys;refine⟨by simp[h1],fun i b hb=>?_⟩;cases i with
  |zero=>simp at hb;subst hb;simpa using hy
  |succ i=>simp at hb ⊢;exact h2 i b hb
theorem np{α β:Type}{f:α->Option β}:∀{l:List α} {xs:List β},xs.length=l.length->(∀(i:Nat) a,l[i]? =some a->f a=xs[i]?)->l.mapM f=some xs
 | [],xs,h,_=>by have:=N7 h;subst this;rfl
 |a::l,[],h,_=>by simp at h
 |a::l,x::xs,h,hf=>by
  have h0:=hf 0 a rfl;simp at h0;have:=np (f:=f) (l:=l) (xs:=xs) (by simpa using h) (fun i b hb=>by have:=hf (i+1) b (by simpa using hb);simpa using this);simp[Ri,h0,this]
theorem BA{α:Type}{R:List Value->α->Prop}{ok:α->Prop}{w:Nat}:∀(n:Nat) (cs:List Value),cs.length=n*w->(∀i,i<n->∃x,ok x/\R ((cs.drop (i*w)).take w) x)->∃xs:List α,xs.length=n/\(∀x∈xs,ok x)/\cC R cs xs
 |0,cs,h,_=>⟨[],rfl,by simp,by simp[cC];exact N7 (by omega)⟩
 |n+1,cs,h,hx=>by
  obtain⟨x,h1,h2⟩:=hx 0 (by omega);simp only[Q8,List.drop_zero] at h2;obtain⟨xs,g1,g2,g3⟩:=BA (R:=R) (ok:=ok) (w:=w) n (cs.drop w) (by rw[Om,h,O7];omega) (fun i hi=>by
   obtain⟨y,k1,k2⟩:=hx (i+1) (by omega);refine⟨y,k1,?_⟩;rw[PH,show w+i*w=(i+1)*w by rw[O7];omega];exact k2)
  refine⟨x::xs,by simp[g1],fun y hy=>?_,cs.take w,cs.drop w,(O5 _ _).symm,h2,g3⟩;rcases IS.1 hy with rfl|hy;·exact h1
  ·exact g2 y hy
theorem BB{α:Type}{R:List Value->α->Prop}{ok:α->Prop}{w:Nat}{a:Addr}:∀(n:Nat),(∀i,i<n->∃c,c.length=w/\(∀j,j<w->W.cell? (a.add (i*w+j))=c[j]?)/\∃x,ok x/\R c x)->
  ∃(cells:List Value) (xs:List α),cells.length=n*w/\xs.length=n/\(∀x∈xs,ok x)/\cC R cells xs/\∀k,k<n*w->W.cell? (a.add k)=cells[k]?
 |0,_=>⟨[],[],by simp,rfl,by simp,rfl,fun k hk=>by simp at hk⟩
 |n+1,h=>by
  obtain⟨cells,xs,h1,h2,h3,h4,h5⟩:=BB n (fun i hi=>h i (by omega));obtain⟨c,g1,g2,x,g3,g4⟩:=h n (by omega);refine⟨cells++c,xs++ [x],by rw[List.length_append,h1,g1,O7],by simp[h2],fun y hy=>?_,fu h4 (FD g4),fun k hk=>?_⟩
  ·(rcases Oq.1 hy with hy|hy;·exact h3 y hy);·simp at hy;subst hy;exact g3
  ·by_cases hlt:k<n*w
   ·rw[h5 k hlt,OU (by omega)]
   ·rw[O7] at hk;rw[Qu (by omega),h1,<- g2 (k-n*w) (by omega),show n*w+(k-n*w)=k by omega]
theorem D3{W:World}{b:Nat}{a:Addr}{n:Nat}{cs:List Value}(h:W.cells? b a n=some cs):cs.length=n/\∀j,j<n->W.cell? (a.add j)=cs[j]? :=by
 unfold World.cells? at h;split at h;·obtain⟨h1,h2⟩:=mapM_at h;refine⟨by simpa using h1,fun j hj=>h2 j j (by simp[hj])⟩
 ·cases h
theorem F2{W:World}{a:Addr}{n:Nat}{cs:List Value}(h:cs.length=n)(hc:∀j,j<n->W.cell? (a.add j)=cs[j]?):W.cells? 0 a n=some cs:=by
 unfold World.cells?;rw[if_pos (Nat.zero_le _)];exact np (by simpa using h) (fun i b hb=>by
  obtain⟨hi,e⟩:=Oh.1 hb;simp at hi e;subst e;exact hc i hi)
theorem F3(t:Ty):(∀T,(t.rd P).1 T=true->∀fuel cs d ps,DataW.trod enc P W 0 (fun _=>true) true fuel T cs=some (d,ps)->kO enc P W t T cs d ps):=by
 have single:∀(u:Ty) (w:Nat),u.w=w->(∀T,(u.rd P).1 T=true->∀fuel cs d ps,DataW.trod enc P W 0 (fun _=>true) true fuel T cs=some (d,ps)->kO enc P W u T cs d ps)->
   ∀off fs,F1 P w (u.rd P).1 off fs=true->∀(fuel:Nat) (cs:List Value) (xs:List (DataW H×List MemPlace)),cs.length=off+u.w->fs.mapM (fun f=>DataW.trod enc P W 0 (fun _=>true) true fuel f.type ((cs.drop f.offset).take (P.cellsOf f.type)))=some xs->
   ∃x:u.D,u.okD x/\u.rep (fun _=>False) W (cs.drop off) x/\∀(W':World) (sp:Nat->Bool),jV W W'->(∀q∈xs.flatMap (·.2),sp q.block=true)->∃n,fs.mapM (fun f=>DataW.trod enc P W' 0 sp true n f.type ((cs.drop f.offset).take (P.cellsOf f.type)))=some xs:=by
  intro u w hw ih off fs hr fuel cs xs hl hm;unfold F1 at hr;split at hr
  ·rename_i f;simp only[N9,beq_iff_eq] at hr;obtain⟨⟨h1,h2⟩,h3⟩:=hr;rw[Ri,R7,Rm] at hm;obtain⟨⟨d,ps⟩,hd,hm⟩:=hm;simp at hm;subst hm;have hcut:(cs.drop f.offset).take (P.cellsOf f.type)=cs.drop off:=by
    rw[h1,h2];exact List.take_of_length_le (by rw[Om];omega)
   rw[hcut] at hd;obtain⟨x,g1,g2,g3⟩:=ih _ h3 _ _ _ _ hd;refine⟨x,g1,g2,fun W' sp hB hq=>?_⟩;obtain⟨n,hn⟩:=g3 W' sp hB (fun q hq'=>hq q (by simpa using hq'));exact⟨n,by simp[hcut,hn]⟩
  ·cases hr
 suffices key:(∀T,(t.rd P).1 T=true->∀fuel cs d ps,DataW.trod enc P W 0 (fun _=>true) true fuel T cs=some (d,ps)->kO enc P W t T cs d ps)/\
   ∀off fs,(t.rd P).2 off fs=true->∀(fuel:Nat) (cs:List Value) (xs:List (DataW H×List MemPlace)),cs.length=off+t.w->fs.mapM (fun f=>DataW.trod enc P W 0 (fun _=>true) true fuel f.type ((cs.drop f.offset).take (P.cellsOf f.type)))=some xs->
   ∃x:t.D,t.okD x/\t.rep (fun _=>False) W (cs.drop off) x/\∀(W':World) (sp:Nat->Bool),jV W W'->(∀q∈xs.flatMap (·.2),sp q.block=true)->∃n,fs.mapM (fun f=>DataW.trod enc P W' 0 sp true n f.type ((cs.drop f.offset).take (P.cellsOf f.type)))=some xs from key.1
 induction t with
 |int k=>
  have h:∀T,((Ty.int k).rd P).1 T=true->∀fuel cs d ps,DataW.trod enc P W 0 (fun _=>true) true fuel T cs=some (d,ps)->kO enc P W (.int k) T cs d ps:=by
   (intro T hT fuel cs d ps h;simp only[Ty.rd,ep] at hT;split at hT;·rename_i k' hu;simp only[decide_eq_true_eq] at hT;subst hT;obtain⟨z,rfl,he,hw⟩:=DataW.trod_int hu h;cases he;(have h2:IntKind.min k'<=z/\z<=IntKind.max k':=by simpa [Lit.wf,IntKind.has] using hw);exact⟨z,h2,rfl,fun W' sp _ _=>⟨1,trod_int_mk 0 hu hw⟩⟩);·cases hT
  exact⟨h,single (.int k) 1 rfl h⟩
 |bool=>
  have h:∀T,(Ty.bool.rd P).1 T=true->∀fuel cs d ps,DataW.trod enc P W 0 (fun _=>true) true fuel T cs=some (d,ps)->kO enc P W .bool T cs d ps:=by
   (intro T hT fuel cs d ps h;simp only[Ty.rd,ep] at hT;split at hT;·rename_i hu;obtain⟨z,rfl,he⟩:=DataW.trod_bool hu h;cases he;exact⟨z,trivial,rfl,fun W' sp _ _=>⟨1,by unfold DataW.trod;rw[hu]⟩⟩);·cases hT
  exact⟨h,single .bool 1 rfl h⟩
 |str=>
  have h:∀T,(Ty.str.rd P).1 T=true->∀fuel cs d ps,DataW.trod enc P W 0 (fun _=>true) true fuel T cs=some (d,ps)->kO enc P W .str T cs d ps:=by
   (intro T hT fuel cs d ps h;simp only[Ty.rd,ep] at hT;split at hT;·rename_i hu;obtain⟨z,rfl,he,hz⟩:=DataW.trod_string hu h;cases he;refine⟨z.data.toList,by simpa [Ty.okD] using hz,rfl,fun W' sp _ _=>shut_string_cell hu hz⟩);·cases hT
  exact⟨h,single .str 1 rfl h⟩
 |unit=>exact⟨fun T h=>by simp[Ty.rd] at h,fun off fs h=>by simp[Ty.rd] at h⟩
 |ptr t _=>exact⟨fun T h=>by simp[Ty.rd] at h,fun off fs h=>by simp[Ty.rd] at h⟩
 |opt t _=>exact⟨fun T h=>by simp[Ty.rd] at h,fun off fs h=>by simp[Ty.rd] at h⟩
 |func=>exact⟨fun T h=>by simp[Ty.rd] at h,fun off fs h=>by simp[Ty.rd] at h⟩
 |pair a b iha ihb=>
  refine⟨fun T h=>by simp[Ty.rd] at h,?_⟩;intro off fs hr fuel cs xs hl hm;simp only[Ty.rd] at hr;split at hr
  ·rename_i f r;simp only[N9,beq_iff_eq] at hr;obtain⟨⟨⟨h1,h2⟩,h3⟩,h4⟩:=hr;rw[Ri,R7,Rm] at hm;obtain⟨⟨d,ps⟩,hd,hm⟩:=hm;rw[R7,Rm] at hm;obtain⟨ys,hys,hm⟩:=hm;simp at hm;subst hm;rw[h1,h2] at hd;simp only[Ty.w] at hl;obtain⟨x,g1,g2,g3⟩:=iha.1 _ h3 _ _ _ _ hd;obtain⟨y,k1,k2,k3⟩:=ihb.2 _ _ h4 _ _ _ (by omega) hys;refine⟨(x,y),⟨g1,k1⟩,⟨(cs.drop off).take a.w,cs.drop (off+a.w),?_,g2,k2⟩,fun W' sp hB hq=>?_⟩;·rw[<- PH,O5]
   ·obtain⟨n,hn⟩:=g3 W' sp hB (fun q hq'=>hq q (by simp[hq']));obtain⟨m,hm⟩:=k3 W' sp hB (fun q hq'=>hq q (by rw[RE];exact RD _ hq'));refine⟨max n m,?_⟩;rw[Ri,h1,h2,DataW.trod_le (Nat.le_max_left n m) hn];have:r.mapM (fun f=>DataW.trod enc P W' 0 sp true (max n m) f.type ((cs.drop f.offset).take (P.cellsOf f.type)))=some ys:=by
     obtain⟨q1,q2⟩:=mapM_at hm;refine np q1 fun i f hf=>?_;(have hi:i<ys.length:=by rw[q1];exact(Oh.1 hf).1);have:=q2 i f hf;rw[AI hi] at this ⊢;exact DataW.trod_le (Nat.le_max_right n m) this
    simp[this]
  ·cases hr
 |st t ih=>
  have h:∀T,((Ty.st t).rd P).1 T=true->∀fuel cs d ps,DataW.trod enc P W 0 (fun _=>true) true fuel T cs=some (d,ps)->kO enc P W (.st t) T cs d ps:=by
   (intro T hT fuel cs d ps h;simp only[Ty.rd,ep] at hT;split at hT;·rename_i fs hu;simp only[N9,beq_iff_eq] at hT;obtain⟨xs,n,rfl,he,hl,hxl,hx⟩:=DataW.trod_struct hu h;cases he;obtain⟨x,g1,g2,g3⟩:=ih.2 0 _ hT.2 n cs xs (by rw[hl,hT.1];omega) (np (by rw[hxl];rfl) (fun i f hf=>hx i f (by simpa using hf)));refine⟨x,g1,(show t.rep (fun _=>False) W cs x by simpa using g2),fun W' sp hB hq=>?_⟩;obtain⟨m,hm⟩:=g3 W' sp hB hq;exact⟨m+1,trod_struct_mk hu hl hm⟩);·cases hT
  exact⟨h,single (.st t) t.w rfl h⟩
 |arr n t ih=>
  have h:∀T,((Ty.arr n t).rd P).1 T=true->∀fuel cs d ps,DataW.trod enc P W 0 (fun _=>true) true fuel T cs=some (d,ps)->kO enc P W (.arr n t) T cs d ps:=by
   intro T hT fuel cs d ps h;simp only[Ty.rd,ep] at hT;split at hT
   ·rename_i m E hu;simp only[N9,beq_iff_eq] at hT;obtain⟨⟨⟨rfl,h2⟩,h3⟩,h4⟩:=hT;obtain⟨xs,k,rfl,he,hl,hxl,hx⟩:=DataW.trod_array hu h;cases he;have each:∀i,i<m->kO enc P W t E ((cs.drop (i*t.w)).take t.w) ((xs.map (·.1)).getD i .nil) ((xs.map (·.2)).getD i []):=by
     intro i hi;have:=hx i hi;rw[h2,AI (by omega)] at this;refine ih.1 E h4 k _ _ _ ?_;rw[this];simp[sh,AI (show i<xs.length by omega)]
    obtain⟨ys,q1,q2,q3⟩:=BA (R:=fun c y=>t.rep (fun _=>False) W c y) (ok:=t.okD) m cs (by rw[hl,h3]) (fun i hi=>by obtain⟨x,e1,e2,_⟩:=each i hi;exact⟨x,e1,e2⟩);refine⟨ys,⟨q1,q2⟩,⟨q1,q3⟩,fun W' sp hB hq=>?_⟩;obtain⟨f,hf⟩:=fuel_lt (n:=m) (q:=fun i f=>DataW.trod enc P W' 0 sp true f E ((cs.drop (i*t.w)).take t.w)=xs[i]? /\i<xs.length) (fun i a b hab hi=>by
      cases hx':xs[i]? with
      |none=>exact absurd hi.2 (by rw[R2] at hx';omega)
      |some y=>rw[hx'] at hi;exact⟨DataW.trod_le hab hi.1,hi.2⟩) (fun i hi=>by
     obtain⟨_,_,_,e3⟩:=each i hi;(have hil:i<xs.length:=by omega);obtain⟨f,hf⟩:=e3 W' sp hB (fun q hq'=>hq q (by
      rw[RU];refine⟨xs[i],OE hil,?_⟩;simpa [sh,AI hil] using hq'))
     refine⟨f,?_,hil⟩;rw[hf,AI hil];simp[sh,AI hil])
    refine⟨f+1,?_⟩;have hmm:(Pa m).mapM (fun i=>DataW.trod enc P W' 0 sp true f E ((cs.drop (i*t.w)).take t.w))=some xs:=np (by simpa using hxl) (fun i b hb=>by
     obtain⟨hi,e⟩:=Oh.1 hb;simp at hi e;subst e;exact(hf i hi).1)
    unfold DataW.trod;rw[hu];simp only[h2,hl,hmm,if_true,Pj]
   ·cases hT
  exact⟨h,single (.arr n t) (n*t.w) rfl h⟩
 |slice t ih=>
  have h:∀T,((Ty.slice t).rd P).1 T=true->∀fuel cs d ps,DataW.trod enc P W 0 (fun _=>true) true fuel T cs=some (d,ps)->kO enc P W (.slice t) T cs d ps:=by
   intro T hT fuel cs d ps h;simp only[Ty.rd,ep] at hT;split at hT
   ·(rename_i E hu;simp only[N9,beq_iff_eq,decide_eq_true_eq] at hT;obtain⟨⟨h1,h2⟩,h3⟩:=hT;rcases open_slice hu h with⟨rfl,he⟩|⟨a,len,cap,m,k,D,Pl,rfl,hb,hl,hm,he1,he,hx⟩);·cases he;exact⟨[],⟨by simp,by simp⟩,.inl ⟨rfl,rfl⟩,fun W' sp _ _=>⟨1,by unfold DataW.trod;rw[hu];rfl⟩⟩
    ·cases he;simp only[if_true] at he1;subst he1;rw[h1] at hx;have each:∀i,i<m->∃c,c.length=t.w/\(∀j,j<t.w->W.cell? (a.add (i*t.w+j))=c[j]?)/\kO enc P W t E c (D i) (Pl i):=by
      intro i hi;obtain⟨c,hc,hd⟩:=hx i hi;obtain⟨g1,g2⟩:=D3 hc;exact⟨c,g1,fun j hj=>by rw[<- g2 j hj,add_add],ih.1 E h3 k _ _ _ hd⟩
     obtain⟨cells,ys,q1,q2,q3,q4,q5⟩:=BB W (R:=fun c y=>t.rep (fun _=>False) W c y) (ok:=t.okD) (a:=a) len (fun i hi=>by
      obtain⟨c,e1,e2,x,e3,e4,_⟩:=each i (by omega);exact⟨c,e1,e2,x,e3,e4⟩)
     obtain⟨b,o,p⟩:=a;have hp:0<m->p=none:=by
      intro hlen;obtain⟨c,e1,e2,_⟩:=each 0 hlen;have:=e2 0 h2;rw[AI (by omega)] at this;simp only[Q8,Qr] at this;unfold World.cell? Addr.add at this;split at this
      ·cases p with
       |none=>rfl
       |some _=>simp at this
      ·cases this
     have hne:ys≠[]->p=none:=fun h=>hp (by cases ys with
      |nil=>exact absurd rfl h
      |cons y ys=>simp at q2;omega)
     refine⟨ys,⟨by omega,q3⟩,.inr ⟨b,o,p,m,cells,by rw[q2],hne,by omega,hm,q4,fun _ h=>h,fun j hj=>?_⟩,fun W' sp hB hq=>?_⟩
     ·have hys:ys≠[]:=by
       intro e;subst e;have e:cells=[]:=q4;subst e;simp at hj
      obtain rfl:=hne hys;have:=q5 j (by omega);rw[<- this,addr_add];simp
     ·by_cases h0:m=0
      ·subst h0;(have hlen:len=0:=by omega);subst hlen;refine⟨1,?_⟩;unfold DataW.trod;rw[hu];simp[MemPlace.row,hm]
      ·have hs:sp b=true:=hq (.cell b o) (by
        simp only[MemPlace.row,Oq,Ot,OJ];exact .inl ⟨0,by rw[h1];exact Nat.mul_pos (by omega) h2,by simp⟩)
       have:=shut_slice_whole_cells (enc:=enc) (w:=W') (base:=0) (spare:=sp) (held:=true) (a:=⟨b,o,p⟩) hu hb hl hm hs D Pl (fun i hi=>by
        obtain⟨c,e1,e2,x,e3,e4,e5⟩:=each i hi;obtain⟨n,hn⟩:=e5 W' sp hB (fun q hq'=>hq q (by
         rw[Oq];right;rw[RU];exact⟨i,by simpa using hi,hq'⟩))
        refine⟨c,n,?_,hn⟩;rw[h1];refine F2 e1 fun j hj=>?_;rw[add_add];have:=e2 j hj;rw[AI (by omega)] at this ⊢;exact hB.cell this)
       exact this
   ·cases hT
  exact⟨h,single (.slice t) 1 rfl h⟩
end
end Go.Cm
end
section
namespace Go.Cm
open Go.RowKit Go.Deep Go.ChangeShapes Go.WideShapes Go.ChangeAt
def HL:List Ty->Type
 | []=>Unit
 |t::ts=>t.D×HL ts
def HL.args:(ts:List Ty)->HL ts->List LV
 | [],_=>[]
 |t::ts,x=> .z t x.1::HL.args ts x.2
def HL.ok:(ts:List Ty)->HL ts->Prop
 | [],_=>True
 |t::ts,x=>t.okD x.1/\HL.ok ts x.2
theorem Lj{P:Program}{W:World}{r:Reach}{b0:Nat}{T:TypeId}{v:Value}(hv:Value.okWide P W r b0 T v):∀{t:Ty},(t.rd P).1 T=true->eE v=t.isAgg
 | .int k,h=>by
  simp only[Ty.rd,ep] at h;split at h;·rename_i hu;unfold Value.okWide at hv;rw[hu] at hv;simp only at hv;unfold Cell.okWide at hv;rw[hu] at hv;cases v<;>simp_all [Cell.ok,eE,Ty.isAgg]
  ·cases h
 | .bool,h=>by
  simp only[Ty.rd,ep] at h;split at h;·rename_i hu;unfold Value.okWide at hv;rw[hu] at hv;simp only at hv;unfold Cell.okWide at hv;rw[hu] at hv;cases v<;>simp_all [Cell.ok,eE,Ty.isAgg]
  ·cases h
 | .str,h=>by
  simp only[Ty.rd,ep] at h;split at h;·rename_i hu;unfold Value.okWide at hv;rw[hu] at hv;simp only at hv;unfold Cell.okWide at hv;rw[hu] at hv;cases v<;>simp_all [Cell.ok,eE,Ty.isAgg]
  ·cases h
 | .slice t,h=>by
  simp only[Ty.rd,ep] at h;split at h;·rename_i hu;unfold Value.okWide at hv;rw[hu] at hv;simp only at hv;unfold Cell.okWide at hv;rw[hu] at hv;cases v<;>simp_all [Cell.ok,eE,Ty.isAgg]
  ·cases h
 | .st t,h=>by
  simp only[Ty.rd,ep] at h;split at h;·rename_i hu;unfold Value.okWide at hv;rw[hu] at hv;simp only at hv;obtain⟨cs,rfl,_⟩:=hv;rfl
  ·cases h
 | .arr n t,h=>by
  simp only[Ty.rd,ep] at h;split at h;·rename_i hu;unfold Value.okWide at hv;rw[hu] at hv;simp only at hv;obtain⟨cs,rfl,_⟩:=hv;rfl
  ·cases h
 | .unit,h=>by simp[Ty.rd] at h
 | .pair _ _,h=>by simp[Ty.rd] at h
 | .ptr _,h=>by simp[Ty.rd] at h
 | .opt _,h=>by simp[Ty.rd] at h
 | .func,h=>by simp[Ty.rd] at h
def rp(P:Program):List Ty->List TypeId->Bool
 | [],[]=>true
 |t::ts,T::Ts=>(t.rd P).1 T&&rp P ts Ts
 |_,_=>false
theorem xF{H:Type}{enc:TypeId×Value->H}{P:Program}{W:World}{b0:Nat}:∀(ts:List Ty) {Ts:List TypeId} {vs:List Value} {ds:List (DataW H)} {p:List MemPlace},rp P ts Ts=true->
  (∀(j:Nat) t v,Ts[j]? =some t->vs[j]? =some v->Value.okWide P W .any b0 t v)->DataW.TrodAll enc P W 0 (fun _=>true) true Ts vs ds p->
  ∃x:HL ts,HL.ok ts x/\aY (aJ (fun _=>False) W (fun _=>undef)) (HL.args ts x) vs/\ds.length=ts.length/\
   ∀(W':World) (sp:Nat->Bool),jV W W'->(∀q∈p,sp q.block=true)->DataW.TrodAll enc P W' 0 sp true Ts vs ds p
 | [],[],vs,ds,p,_,_,h=>by
  obtain⟨rfl,rfl,rfl⟩:=trodAll_nil h;exact⟨(),trivial,trivial,rfl,fun _ _ _ _=>rfl⟩
 |t::ts,T::Ts,vs,ds,p,hr,hv,h=>by
  simp only[rp,N9] at hr;obtain⟨v,vs',d,ds',p0,q,rfl,rfl,rfl,⟨n,h0⟩,hs⟩:=trodAll_cons h;obtain⟨x,g1,g2,g3⟩:=F3 enc P W t T hr.1 n _ _ _ h0;obtain⟨y,k1,k2,k3,k4⟩:=xF ts hr.2 (fun j t v h1 h2=>hv (j+1) t v (by simpa using h1) (by simpa using h2)) hs;refine⟨(x,y),⟨g1,k1⟩,⟨⟨Lj (hv 0 T v rfl rfl) hr.1,g2⟩,k2⟩,by simp[k3],fun W' sp hB hq=>?_⟩;obtain⟨m,hm⟩:=g3 W' sp hB (fun q hq'=>hq q (by simp[hq']));exact trodAll_cons_mk ⟨m,hm⟩ (k4 W' sp hB (fun q hq'=>hq q (by simp[hq'])))
 | [],_::_,_,_,_,hr,_,_=>by simp[rp] at hr
 |_::_,[],_,_,_,hr,_,_=>by simp[rp] at hr
def ic(W:World):av:=⟨W.heap.size,fun b=>W.heap[b]?⟩
theorem zT(W:World):(ic W).On W:=⟨Oa _,fun _ _=>rfl⟩
theorem D4{P:Program}{f:FuncId}{con:Con}{W:World}{args:List LV}{vals:Array Value}(hv:Valid (ic W) P f con){C:Prop}(hc:con args []=some (C,[.z .bool true],[]))(hC:C)
  (ha:aY (aJ (fun _=>False) W (fun _=>undef)) args vals.toList):
  Calls P f vals W fun e W'=>e= .returned (.bool true)/\W'.os=W.os/\W'.output=W.output/\W.heap.size<=W'.heap.size/\jV W W':=by
 refine(hv args [] C _ [] hc hC (fun _=>False) W vals (fun _=>undef) (zT W) (fun b hb=>by obtain⟨p,hp,-⟩:=hb;simp[af] at hp) (fun _ h=>h.elim) (fun _ h=>h.elim) ?_ (fun p hp=>by simp[af] at hp) S3).mono ?_
 ·refine ha.imp fun x v _ hx=>aN (fun b _ hb=>?_) (aW.refl _ _) (fun _ _=>rfl) hx;rcases hb with hb|⟨p,hp,-⟩;·exact hb
  ·simp[af] at hp
 ·rintro e W' ⟨vs,ρ1,rfl,-,hb,-,hr,-⟩;match vs,hr with
  | [v],hr=>
   have h1:aJ _ W' (fun _=>undef) (.z .bool true) v:=hr.1;have h2:v.cells.toList=[.bool true]:=h1.2;have h3:v= .bool true:=by
    cases v with
    |agg cs=>have:=h1.1;cases this
    |_=>simp[Value.cells] at h2<;>simp[h2]
   (subst h3;refine⟨rfl,hb.os,hb.output,hb.size,fun b hlt=>hb.block b hlt fun hm=>?_⟩;rcases hm with hm|⟨p,hp,-⟩;·omega);·simp[af] at hp
theorem F4{H:Type}{enc:TypeId×Value->H}{P:Program}{f:Func}{s:ChangeSpec}{apart fresh handsOn again:Bool}{W W':World}{args:Array Value}{v:Value}{ds gs:List (DataW H)}{before pa pv:List MemPlace}
  (hW:DataW.Whole enc P f.params.toList s.vars apart W args.toList ds gs before)
  (hres:∀(b:Nat) (sp:Nat->Bool) (hd:Bool),DataW.TrodAll enc P W' b sp hd f.resultTypes.toList (v.resultList f.resultTypes.size) (s.fn H (ds++gs)).results [])
  (hargs:∀sp:Nat->Bool,(∀p∈before,sp p.block=true)->DataW.TrodAll enc P W' 0 sp true f.params.toList args.toList (s.fn H (ds++gs)).args pa)
  (hvars:∀sp:Nat->Bool,(∀p∈before,sp p.block=true)->DataW.TrodVars enc P W' sp s.vars (s.fn H (ds++gs)).vars pv)
  (hps:before=pa++pv) (hk:W.keptBut W' (· ∈before)) (hfz:∀a:Addr,a.block<W.heap.size->W'.frozen? a=W.frozen? a)
  (hok:∀(j:Nat) (t:TypeId) (r:Value),f.resultTypes[j]? =some t->(v.resultList f.resultTypes.size)[j]? =some r->Value.okWide P W' .any 0 t r):
  s.post enc P f apart fresh handsOn again W args v W':=by
 have hold:∀p∈before,(fun b=>decide (b<W.heap.size)) p.block=true:=fun p hp=>by simpa using hW.lt p hp
 refine⟨ds,gs,before,[],pa,pv,hW,hres _ _ _,hargs _ hold,hvars _ hold,World.keptBut_mono (fun p hp=>⟨hp,?_⟩) hk,fun _=>?_⟩;·rw[hps,Oq] at hp;exact Or.inr hp
 ·have hlt:=hW.lt;obtain⟨_,_,_,_,_,hz,hn⟩:=hW;refine⟨hok,_,_,([]++pa)++pv,⟨[]++pa,pv,trodAll_append (hargs _ (fun _ _=>rfl)) (hres _ _ _),hvars _ (fun _ _=>rfl),rfl,?_,?_⟩,?_⟩;·intro b off hp;(have hm:MemPlace.cell b off∈before:=by rw[hps];simpa using hp);rw[hfz _ (hlt _ hm)];exact hz b off hm
  ·intro ha;have:=hn ha;rw[hps] at this;simpa using this
  ·intro p hp _;rw[hps];simpa using hp
theorem zU{W W':World}(hB:jV W W')(a:Addr)(h:a.block<W.heap.size):W'.frozen? a=W.frozen? a:=by
 unfold World.frozen?;rw[hB a.block h]
theorem F5{W W':World}{may:MemPlace->Prop}(hos:W'.os=W.os)(hout:W'.output=W.output)(hB:jV W W'):W.keptBut W' may:=by
 have h:=World.keptBut_refl W may;exact⟨hos,hout,fun i hi=>by rw[hB i hi];exact h.2.2 i hi⟩
def xG(s:ChangeSpec)(n:Nat):Prop:=s.vars=[]/\∀(H:Type) (ds:List (DataW H)),ds.length=n->s.fn H (ds++ [])={results:=[.lit (.bool true)],args:=ds}
theorem v8{H:Type}{enc:TypeId×Value->H}{P:Program}{f:FuncId}{fn:Func}{con:Con}{ts:List Ty}{tb:TypeId}{s:ChangeSpec}{W:World}{base:Nat}{args:Array Value}{ds gs:List (DataW H)}{before:List MemPlace}
  (hts:rp P ts fn.params.toList=true) (hrt:fn.resultTypes= #[tb]) (hb:P.underlying tb=some .bool) (hs:xG s ts.length)
  (hcon:∀x:HL ts,HL.ok ts x->∃C,con (HL.args ts x) []=some (C,[.z .bool true],[])/\C) (hv:Valid (ic W) P f con)
  (hval:∀(j:Nat) t v,fn.params[j]? =some t->args[j]? =some v->Value.okWide P W .any base t v)
  (hW:DataW.Whole enc P fn.params.toList s.vars false W args.toList ds gs before):
  Calls P f args W fun e W'=>∃v,e= .returned v/\s.post enc P fn false true false false W args v W':=by
 have hW':=hW;obtain⟨p,q,hA,hV,rfl,hfz,hnd⟩:=hW;rw[hs.1] at hV;obtain⟨rfl,rfl⟩:=trodVars_none hV;obtain⟨x,hx,ha,hl,again⟩:=xF (b0:=base) ts hts (fun j t v h1 h2=>hval j t v (by simpa using h1) (by simpa using h2)) hA;obtain⟨C,hC1,hC2⟩:=hcon x hx;refine(D4 hv hC1 hC2 ha).mono fun e W' ⟨he,hos,hout,hsz,hB⟩=>?_;subst he;have hspec:=hs.2 H ds hl;refine⟨_,rfl,F4 (pa:=p) (pv:=[]) hW' (fun _ _ _=>?_) (fun sp hsp=>?_) (fun _ _=>?_) rfl (F5 hos hout hB) (zU hB) (ok_one hrt rfl (okWide_bool_mk hb _))⟩;·rw[hspec,hrt];exact trodAll_cons_mk (shut_bool hb _) trodAll_mk0
 ·rw[hspec];exact again W' sp hB (fun z hz=>hsp z (by simp[hz]))
 ·rw[hspec,hs.1];rfl
end Go.Cm
end
section
namespace Go.Cm
theorem rr{X:Cx}{c:Code}{s s':aa}{K:Exit->aa->Prop}(l:List Nat)(he:s.freezeAll l=s')(h:J X c s' K):J X c s K:=by
 subst he;exact fun a w hst=>h a w (hst.freezeAll l)
def LV.moveS(a b:Nat):LV->LV
 | .ownS i=>if i=a then .ownS b else if i=b then .junk else .ownS i
 |x=>if x.isOf a||x.isOf b then .junk else x
def aa.moveArr(T:Tab)(s:aa)(a b:Nat):Option aa:=
 match get? s.own a with
 |some (.arr t E xs)=>if (b<ioB/\a≠b)/\T.mayMove a=true then
   some {env:=bH (LV.moveS a b) s.env,own:=(b,.arr t E xs)::(a,.arr t E [])::bg (LV.moveS a b) (del (del s.own b) a)}
  else none
 |_=>none
theorem ru{H H':Nat->Prop}{w:World}{ρ ρ':Nat->Value}{a b:Nat}(hh:∀b,b<w.heap.size->H' b->H b)(hb:ρ' b=ρ a)(ho:∀i,i≠a->i≠b->ρ' i=ρ i){x:LV}{v:Value}(h:aJ H w ρ x v):aJ H' w ρ' (x.moveS a b) v:=by
 have key:∀x:LV,aJ H w ρ x v->aJ H' w ρ' (if x.isOf a||x.isOf b then .junk else x) v:=by
  intro x h;split;·trivial
  ·rename_i hn;simp only[OT,not_or] at hn;exact aN hh (aW.refl _ _) (fun i hi=>ho i (fun e=>hn.1 (e▸hi)) (fun e=>hn.2 (e▸hi))) h
 cases x with
 |ownS i=>
  simp only[LV.moveS];split;·rename_i e;subst e;simp only[aJ,hb];exact h
  ·(split;·trivial);·rename_i h1 h2;simp only[aJ,ho i h1 h2];exact h
 |z t x=>exact key _ h
 |ownP i o=>exact key _ h
 |ownE i w o=>exact key _ h
 |ownW i w o=>exact key _ h
 |ownM i=>exact key _ h
 |ownA i o=>exact key _ h
 |ownR i o=>exact key _ h
 |ownB i o p q=>exact key _ h
 |fn f c=>exact key _ h
 |val u=>exact key _ h
 |junk=>exact key _ h
theorem St.moveArr{X:Cx}{s s':aa}{a b:Nat}(he:s.moveArr X.T a b=some s'){ac:Act}{w:World}(h:St X s ac w):St X s' ac w:=by
 unfold aa.moveArr at he;split at he;case h_2=>cases he
 rename_i t E xs hg;split at he;case isFalse=>cases he
 rename_i hc;cases he;obtain⟨⟨hbB,hab⟩,hmv⟩:=hc;obtain⟨ρ,hf⟩:=h.fits;obtain⟨ρ',hρb,hρa,hρo⟩:∃ ρ':Nat->Value,ρ' b=ρ a/\ρ' a= .slice none 0 0/\∀i,i≠a->i≠b->ρ' i=ρ i:=
  ⟨fun i=>if i=b then ρ a else if i=a then .slice none 0 0 else ρ i,by simp,by simp[hab],fun i h1 h2=>by simp[h1,h2]⟩
 have hga:=get?_mem hg;have hrest:∀p∈bg (LV.moveS a b) (del (del s.own b) a),∃u,(p.1,u)∈s.own/\p.2=u.map (LV.moveS a b)/\p.1≠a/\p.1≠b:=by
  intro p hp;obtain⟨u,h1,h2⟩:=a8 hp;have h3:=bC.1 h1;have h4:=bC.1 h3.1;exact⟨u,h4.1,h2,h3.2,h4.2⟩
 have hh:∀k,hot X.O ρ' ((b,.arr t E xs)::(a,.arr t E [])::bg (LV.moveS a b) (del (del s.own b) a)) k->hot X.O ρ s.own k:=by
  rintro k (hk|⟨p,hp,hk⟩);·exact .inl hk
  ·rcases IS.1 hp with rfl|hp;·simp only[hρb] at hk;exact db hga hk
   ·(rcases IS.1 hp with rfl|hp;·simp only[hρa] at hk;simp[Blk] at hk);·obtain⟨u,h1,_,h2,h3⟩:=hrest p hp;rw[hρo _ h2 h3] at hk;exact db h1 hk
 refine⟨h.marks,h.kept,h.size,h.below,h.others,h.small,ρ',fun e he=>?_,fun p hp=>?_,fun p hp hB hF=>?_,?_⟩;·obtain⟨v,h1,h2⟩:=gh he;rw[h2];exact eF (fun x v hx=>ru (fun k _ hk=>hh k hk) hρb hρo hx) (hf.env _ h1)
 ·rcases IS.1 hp with rfl|hp;·obtain⟨cells,h1,h2⟩:=hf.own _ hga;exact⟨cells,aS (fun k _ hk=>hh k hk) (aW.refl _ _) h1,by rw[hρb];exact h2⟩
  ·(rcases IS.1 hp with rfl|hp;·exact⟨[],rfl,by rw[hρa];exact jv _ _ _ _⟩);·obtain⟨u,h1,h4,h2,h3⟩:=hrest p hp;have:=(hf.own _ h1).move (f:=LV.moveS a b) (ρ':=ρ') (fun k _ hk=>hh k hk) (aW.refl _ _) (fun x v hx=>ru (fun k _ hk=>hh k hk) hρb hρo hx) (hρo _ h2 h3) (fun _ _=>rfl);rw[<- h4] at this;exact this
 ·rcases IS.1 hp with rfl|hp;·simp only at hB;omega
  ·rcases IS.1 hp with rfl|hp
   ·(simp only[Tab.mayMove,OT,decide_eq_true_eq] at hmv;simp only at hB hF;rcases hmv with hmv|hmv;·omega);·rw[hF] at hmv;cases hmv
   ·obtain⟨u,h1,h4,h2,h3⟩:=hrest p hp;rw[hρo _ h2 h3];exact hf.io (p.1,u) h1 hB hF
 ·have hpw:=cA (f:=LV.moveS a b) (fun i j=>i≠j/\∀k,Blk (ρ i) k-> ¬Blk (ρ j) k) (da (fun i j=>i≠j/\∀k,Blk (ρ i) k-> ¬Blk (ρ j) k) (n:=a) (da (fun i j=>i≠j/\∀k,Blk (ρ i) k-> ¬Blk (ρ j) k) (n:=b) hf.apart));rw[OW,OW];refine⟨fun q hq=>?_,fun q hq=>?_,hpw.imp_of_mem fun {p q} hp hq hpq=>?_⟩
  ·(rcases IS.1 hq with rfl|hq;·exact⟨fun e=>hab e.symm,fun k _ hk=>by simp only[hρa] at hk;simp[Blk] at hk⟩);·obtain⟨u,h1,_,h2,h3⟩:=hrest q hq;refine⟨fun e=>h3 e.symm,fun k hk hk2=>?_⟩;simp only[hρb] at hk;rw[hρo _ h2 h3] at hk2;exact hf.two (p:=(a,_)) (q:=(q.1,u)) hga h1 (fun e=>h2 e.symm) hk hk2
  ·obtain⟨u,h1,_,h2,h3⟩:=hrest q hq;exact⟨fun e=>h2 e.symm,fun k hk=>by simp only[hρa] at hk;simp[Blk] at hk⟩
  ·obtain⟨u,_,_,h2,h3⟩:=hrest p hp;obtain⟨u',_,_,h2',h3'⟩:=hrest q hq;rw[hρo _ h2 h3,hρo _ h2' h3'];exact hpq
theorem F6{X:Cx}{c:Code}{s s':aa}{K:Exit->aa->Prop}(a b:Nat)(he:s.moveArr X.T a b=some s')(h:J X c s' K):J X c s K:=
 fun ac w hst=>h ac w (hst.moveArr he)
end Go.Cm
end
section
namespace Go.Cm
open Go.RowKit
theorem Fits.drop{X:Cx}{s:aa}{a:Act}{w:World}{ρ:Nat->Value}(h:Fits X s a w ρ)(hO:∀b,X.O b-> ¬X.M b){id:Nat}{obj:aB}(hg:get? s.own id=some obj){f:LV->LV}
  (hf:∀H',(∀b,H' b->hot X.O ρ s.own b)->(∀b,Blk (ρ id) b-> ¬H' b)->∀x v,aJ (hot X.O ρ s.own) w ρ x v->aJ H' w ρ (f x) v):Fits X {env:=bH f s.env,own:=bg f (del s.own id)} a w ρ:=by
 have hmem:=get?_mem hg;have hs:aW (hot X.O ρ s.own) w w:=aW.refl _ _;have hsub:∀p∈bg f (del s.own id),∃o,(p.1,o)∈s.own/\p.1≠id:=fun p hp=>by
  obtain⟨u,h1,_⟩:=a8 hp;exact⟨u,(bC.1 h1).1,(bC.1 h1).2⟩
 have hh:∀b,hot X.O ρ (bg f (del s.own id)) b->hot X.O ρ s.own b:=fun b hb=>jN (fun p hp=>by obtain⟨o,ho,_⟩:=hsub p hp;exact⟨o,ho⟩) hb;have hff:=hf (hot X.O ρ (bg f (del s.own id))) hh (fun b hb hb'=>by
  rcases hb' with h1|⟨p,hp,hpb⟩;·exact hO b h1 ((h.own _ hmem).lt hb).1
  ·obtain⟨o,ho,hne⟩:=hsub p hp;exact h.two (p:=(id,obj)) (q:=(p.1,o)) hmem ho (fun e=>hne e.symm) hb hpb)
 refine h.env_map hff ?_ (fun p hp hB hF=>by obtain⟨o,ho,_⟩:=hsub p hp;exact h.io (p.1,o) ho hB hF) ?_;·intro p hp;obtain⟨u,h1,h2⟩:=a8 hp;have h3:=bC.1 h1;have:=(h.own _ h3.1).move (f:=f) (ρ':=ρ) (fun b _ hb=>hh b hb) hs hff rfl (fun _ _=>rfl);rw[<- h2] at this;exact this
 ·exact cA (fun i j=>i≠j/\∀b,Blk (ρ i) b-> ¬Blk (ρ j) b) (da (fun i j=>i≠j/\∀b,Blk (ρ i) b-> ¬Blk (ρ j) b) h.apart)
theorem zV{H H':Nat->Prop}{w:World}{ρ:Nat->Value}(id:Nat)(hh:∀b,H' b->H b){x:LV}{v:Value}(h:aJ H w ρ x v):aJ H' w ρ (x.kill id) v:=
 aZ (fun b _ hb=>hh b hb) (aW.refl _ _) (fun _ _=>rfl) h
def LV.thawP(id:Nat)(t:Ty)(x:t.D):LV->LV
 | .ownP i off=>if i=id/\off=0 then .z (.opt t) (some x) else (LV.ownP i off).kill id
 |v=>v.kill id
def aa.thawP(s:aa)(id:Nat)(t:Ty)(x:t.D):aa:={env:=bH (LV.thawP id t x) s.env,own:=bg (LV.thawP id t x) (del s.own id)}
def LV.thawM(id:Nat)(t:Ty)(xss:List (List t.D)):LV->LV
 | .ownM i=>if i=id then .z (.slice (.slice t)) xss else .ownM i
 |v=>v.kill id
def aa.thawM(s:aa)(id:Nat)(t:Ty)(xss:List (List t.D)):aa:={env:=bH (LV.thawM id t xss) s.env,own:=bg (LV.thawM id t xss) (del s.own id)}
def LV.keepM(id:Nat):LV->LV
 | .ownM i=> .ownM i
 | .ownA i k=> .ownA i k
 |v=>v.kill id
def F7:Option Ty->LV->LV
 |some (.slice t),.val v=>if gO v then .z (.slice t) [] else .val v
 |_,x=>x
def asZ:List (Option Ty)->List LV->List LV
 |t::ts,x::xs=>F7 t x::asZ ts xs
 |_,l=>l
def mo(ts:List (Option Ty))(c:Con):Con:=fun l os=>c (asZ ts l) os
theorem I4{H:Nat->Prop}{w:World}{ρ:Nat->Value}{o:Option Ty}{x:LV}{v:Value}(h:aJ H w ρ x v):aJ H w ρ (F7 o x) v:=by
 unfold F7;split
 ·split;·rename_i t u hn;exact LV.get_ok (c:= .val u) (t:= .slice t) (by simp[LV.get,hn]) h
  ·exact h
 ·exact h
theorem F8{H:Nat->Prop}{w:World}{ρ:Nat->Value}:∀{ts:List (Option Ty)} {l:List LV} {vs:List Value},aY (aJ H w ρ) l vs->aY (aJ H w ρ) (asZ ts l) vs
 | [],_,_,h=>by simpa [asZ] using h
 |_::_,[],_,h=>by simpa [asZ] using h
 |t::ts,x::xs,[],h=>h.elim
 |t::ts,x::xs,v::vs,h=>⟨I4 h.1,F8 h.2⟩
theorem jC{B:av}{P:Program}{f:FuncId}{c:Con}(ts:List (Option Ty))(h:Valid B P f c):Valid B P f (mo ts c):=
 fun _ os C rs os' hc hC O w vals ρ0 h1 h2 h3 h4 ha ho hap=>h _ os C rs os' hc hC O w vals ρ0 h1 h2 h3 h4 (F8 ha) ho hap
theorem I5(a b:Nat):(((a,none):bV)==((b,none):bV))=(a==b):=by
 by_cases h:a=b
 ·subst h;simp
 ·have h1:¬((a,none):bV)=(b,none):=fun e=>h (congrArg Prod.fst e);rw[beq_eq_false_iff_ne.2 h1,beq_eq_false_iff_ne.2 h]
end Go.Cm
end