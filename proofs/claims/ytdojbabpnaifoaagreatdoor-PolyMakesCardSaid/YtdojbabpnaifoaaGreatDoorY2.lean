/- Merged by a program out of several texts. -/
import Derived.Test.YtdojbabpnaifoaaGreatDoorY1
import Derived.Deep.LoopGhost
import Derived.KernelRfl
import Derived.Scope
import Derived.IntWalk
set_option linter.all false
set_option linter.unusedSimpArgs false
set_option linter.unusedVariables false
set_option maxRecDepth 100000
section
namespace Go.Cm
open Go.RowKit
def l5(H:Nat->Prop)(w:World)(M:Nat->Prop):RV->Value->Prop
 | .z t x,v=>aV H w (fun _=>undef) (.z t x) v
 | .own t T xs,v=>(∃a n c,v= .slice a n c)/\∃cells,cR (fun c x=>t.rep H w c x) cells xs/\rowAt M w T t.w v xs.length cells
 | .fn f caps,v=>aV H w (fun _=>undef) (.fn f caps) v
 | .val u,v=>v=u
def RV.isOwn:RV->Bool
 | .own ..=>true
 |_=>false
def cX(O:Nat->Prop):List RV->List Value->Nat->Prop
 |r::rs,v::vs,b=>(r.isOwn=true/\Blk v b)∨cX O rs vs b
 |_,_,b=>O b
def fS:List RV->List Value->Prop
 |r::rs,v::vs=>(r.isOwn=true->∀b,Blk v b-> ¬cX (fun _=>False) rs vs b)/\fS rs vs
 |_,_=>True
def yc:List Value->Value
 | [v]=>v
 |vs=> .tuple vs.toArray
def aj:Nat->List aJ->List (Nat×aJ)
 |_,[]=>[]
 |k,o::r=>(k,o)::aj (k+1) r
def oS(ρ:Nat->Value)(own:List (Nat×aJ)):Prop:=own.Pairwise fun p q=>p.1≠q.1/\∀b,Blk (ρ p.1) b-> ¬Blk (ρ q.1) b
def bw(ρ0:Nat->Value)(os:List aJ)(b:Nat):Prop:=∃p∈aj ioB os,Blk (ρ0 p.1) b
def Valid(B:aq)(P:Program)(f:FuncId)(c:Con)(fr:List Nat:=[]):Prop:=
 ∀(args:List LV) (os:List aJ) (C:Prop) (rs:List RV) (os':List aJ),c args os=some (C,rs,os')->C->∀(O:Nat->Prop) (w:World) (vals:Array Value) (ρ0:Nat->Value),B.On w->(∀b,bw ρ0 os b->B.n<=b)->
  (∀b,O b->b<w.heap.size)->(∀b,O b-> ¬bw ρ0 os b)->bC (aV (hot O ρ0 (aj ioB os)) w ρ0) args vals.toList->
  (∀p∈aj ioB os,cl (hot O ρ0 (aj ioB os)) w ρ0 (bw ρ0 os) p)->oS ρ0 (aj ioB os)->
  Calls P f vals w fun e w'=>∃(vs:List Value) (ρ1:Nat->Value),e= .returned (yc vs)/\os'.length=os.length/\Bel (fun b=>w.heap.size<=b∨bw ρ0 os b) w w'/\
   (∀k,¬(ioB<=k/\k<ioB+os.length/\fr.contains (k-ioB)=true)->ρ1 k=ρ0 k)/\
   bC (l5 (cX (hot O ρ1 (aj ioB os')) rs vs) w' (fun b=>w.heap.size<=b∨bw ρ0 os b)) rs vs/\fS rs vs/\
   (∀p∈aj ioB os',cl (cX (hot O ρ1 (aj ioB os')) rs vs) w' ρ1 (fun b=>w.heap.size<=b∨bw ρ0 os b) p)/\
   oS ρ1 (aj ioB os')/\∀b,bw ρ1 os' b-> ¬cX (fun _=>False) rs vs b
structure ig (P:Program) (T:Tab):Prop where
 cons:∀f c,get? T.cons f=some c->Valid T.base P f c ((get? T.frees f).getD [])
 body:∀f c,get? T.cons f=some c->∃fn,P.funcs[f]? =some fn/\(fn.name== "runtime.NumGoroutine")=false/\fn.body.isNone=false
theorem LJ{H H':Nat->Prop}{w:World}{M:Nat->Prop}{t:Ty}{T:TypeId}{xs:List t.D}{v:Value}(h:l5 H w M (.own t T xs) v)(hH:∀b,H' b->H b)(hno:∀b,Blk v b-> ¬H' b):
  aV H' w (fun _=>undef) (.z (.slice t) xs) v:=by
 obtain⟨⟨p,n,c,hv2⟩,cells0,hr0,hrow⟩:=h;have how:∀q∈ [((0:Nat),aJ.arr t T xs)],cl H w (fun _=>v) M q:=by
  intro q hq;simp only[List.mem_singleton] at hq;subst hq;exact⟨cells0,hr0,hrow⟩
 obtain⟨hn,cells,hr,hl,hor⟩:=fM (id:=0) (T:=T) (t:=t) (xs:=xs) how (by simp[get?]) hv2;subst hn;refine⟨by rw[hv2];rfl,?_⟩;rw[hv2];rcases hor with⟨rfl,hx0,rfl⟩|⟨g,rfl,hb,h1,h2,cur,hh',h3,h4⟩;·subst hx0;exact .inl ⟨rfl,rfl⟩
 ·exact .inr ⟨g,0,none,c,cells,rfl,fun _=>rfl,h1,h2,aX (fun b _ hb=>hH b hb) (bn.refl _ _) hr,fun _ hg1=>hno g (by rw[hv2];rfl) hg1,fun j hj=>fV hh' h4 hj⟩
theorem nf{O:Nat->Prop}:∀(rs:List RV) (vs:List Value) {b:Nat},cX O (rs.map RV.cold) vs b->O b
 |r::rs,v::vs,b,h=>by
  simp only[List.map_cons,cX] at h;rcases h with⟨h,_⟩|h;·cases r<;>simp[RV.cold,RV.isOwn] at h
  ·exact nf rs vs h
 | [],_,b,h=>by simpa [cX] using h
 |_::_,[],b,h=>by simpa [cX] using h
theorem rh:∀(rs:List RV) (vs:List Value),fS (rs.map RV.cold) vs
 |r::rs,v::vs=>⟨fun h=>by cases r<;>simp[RV.cold,RV.isOwn] at h,rh rs vs⟩
 | [],_=>by simp[fS]
 |_::_,[]=>by simp[fS]
theorem zz{O:Nat->Prop}:∀(rs:List RV) (vs:List Value) {b:Nat},O b->cX O rs vs b
 |r::rs,v::vs,b,h=> .inr (zz rs vs h)
 | [],_,b,h=>by simpa [cX] using h
 |_::_,[],b,h=>by simpa [cX] using h
theorem vX{H H':Nat->Prop}{w:World}{M:Nat->Prop}(hH:∀b,H' b->H b):∀(rs:List RV) (vs:List Value),(∀b,cX (fun _=>False) rs vs b-> ¬H' b)->bC (l5 H w M) rs vs->bC (l5 H' w M) (rs.map RV.cold) vs
 | [],[],_,_=>trivial
 | [],_::_,_,h=>h.elim
 |_::_,[],_,h=>h.elim
 |r::rs,v::vs,hno,h=>by
  refine⟨?_,vX hH rs vs (fun b hb=>hno b (.inr hb)) h.2⟩;have h1:=h.1;cases r with
  |own t T xs=>exact LJ h1 hH (fun b hb=>hno b (.inl ⟨rfl,hb⟩))
  |z t x=>exact⟨h1.1,Ty.rep_move (fun b _ hb=>hH b hb) (bn.refl _ _) h1.2⟩
  |val u=>exact h1
  |fn f caps=>exact bb (x:= .fn f caps) (fun b _ hb=>hH b hb) (bn.refl _ _) (fun _ _=>rfl) h1
theorem qk{H:Nat->Prop}{w':World}{M:Nat->Prop}{b:Nat}:∀(rs:List RV) (vs:List Value),bC (l5 H w' M) rs vs->cX (fun _=>False) rs vs b->M b
 | [],_,_,hb=>hb.elim
 |_::_,[],_,hb=>hb.elim
 |r::rs,v::vs,h,hb=>by
  rcases hb with⟨hb1,hb2⟩|hb
  ·cases r with
   |z t x=>simp[RV.isOwn] at hb1
   |fn f caps=>simp[RV.isOwn] at hb1
   |val u=>simp[RV.isOwn] at hb1
   |own t T xs=>
    (obtain⟨_,cells,_,h2⟩:=h.1;rcases h2.2 with⟨q2,_⟩|⟨g,cap,cur,e1,e2,_⟩;·rw[q2] at hb2;simp[Blk] at hb2);·rw[e1] at hb2;simp[Blk] at hb2;exact hb2▸e2
  ·exact qk rs vs h.2 hb
theorem Cv{B:aq}{P:Program}{f:FuncId}{c:Con}{fr:List Nat}(hv:Valid B P f c fr):Valid B P f (rT c) fr:=by
 intro args os C rs os' hc hC O w vals ρ0 hOn hIo hO hOI hargs hown hap;unfold rT at hc;split at hc
 ·rename_i C0 rs0 os0 hc0;cases hc;refine(hv args os C rs0 os' hc0 hC O w vals ρ0 hOn hIo hO hOI hargs hown hap).mono ?_;rintro e w' ⟨vs,ρ1,rfl,hlen,hb,hρ1,hr,-,hio,hap1,hdis⟩;have hsub:∀b,cX (hot O ρ1 (aj ioB os')) (rs0.map RV.cold) vs b->cX (hot O ρ1 (aj ioB os')) rs0 vs b:=fun b h=>zz _ _ (nf _ _ h);refine⟨vs,ρ1,rfl,hlen,hb,hρ1,vX hsub _ _ (fun b hbb h=>?_) hr,rh _ _,fun p hp=>?_,hap1,fun b _ h=>nf _ _ h⟩
  ·rcases nf _ _ h with h|⟨p,hp,h⟩
   ·(rcases qk _ _ hr hbb with h1|h1;·have:=hO b h;omega);·exact hOI b h h1
   ·exact hdis b ⟨p,hp,h⟩ hbb
  ·exact(hio p hp).move_id (fun b _ h=>hsub b h) (bn.refl _ _) (fun _ _=>rfl)
 ·cases hc
theorem ig.at{P:Program}{T:Tab}(h:ig P T){d:Option Nat}{f:FuncId}{c:Con}(hc:T.conAt d f=some c):Valid T.base P f c ((get? T.frees f).getD []):=by
 unfold Tab.conAt at hc;split at hc
 ·rename_i c0 h0;split at hc
  ·(split at hc;·cases hc;exact Cv (h.cons _ _ h0));·cases hc;exact h.cons _ _ h0
  ·cases hc;exact h.cons _ _ h0
 ·cases hc
theorem ig.bodyAt{P:Program}{T:Tab}(h:ig P T){d:Option Nat}{f:FuncId}{c:Con}(hc:T.conAt d f=some c):∃fn,P.funcs[f]? =some fn/\(fn.name== "runtime.NumGoroutine")=false/\fn.body.isNone=false:=by
 unfold Tab.conAt at hc;split at hc;·rename_i c0 h0;exact h.body _ _ h0
 ·cases hc
theorem Cw{X:Cx}{s s':aa}{a:Act}{w:World}{ρ:Nat->Value}(h:Fits X s a w ρ)(hO:∀b,X.O b-> ¬X.M b){t:TypeId}{x:Operand}{v:LV}(he:jW X.T s t x=some (v,s')):
  Fits X s' a w ρ/\(∀b,hot X.O ρ s'.own b->hot X.O ρ s.own b)/\aV (hot X.O ρ s'.own) w ρ v (a.eval x):=by
 have hf:=h.frozenAt hO x;have hsub:∀b,hot X.O ρ (frozenAt s x).own b->hot X.O ρ s.own b:=by
  intro b hb;unfold frozenAt at hb;split at hb
  ·rename_i v hv;have key:∀(l:List Nat) (s:aa),hot X.O ρ (s.freezeAll l).own b->hot X.O ρ s.own b:=by
    intro l;induction l with
    |nil=>intro s h;exact h
    |cons k l ih=>
     (intro s h;have:=ih (s.freeze k) h;unfold aa.freeze at this;split at this;·refine kZ (fun p hp=>?_) this;obtain⟨u,h1,_⟩:=bq hp;exact⟨u,(bQ.1 h1).1⟩);·exact this
   exact key _ _ hb
  ·exact hb
 unfold jW at he;split at he;·rename_i id hv;cases he;exact⟨hf,hsub,cg hf hv⟩
 ·rename_i f caps hv;cases he;exact⟨hf,hsub,cg hf hv⟩
 ·rename_i u y hv;cases he;exact⟨hf,hsub,cg hf hv⟩
 ·rename_i u hv;cases he;exact⟨hf,hsub,cg hf hv⟩
 ·rename_i cs hv;split at he
  ·(rename_i u hu;split at he;·rename_i y hy;cases he;have q:aV _ w ρ (.z u y) (a.eval x):=AV.get_ok hy (cg hf hv);exact⟨hf,hsub,q⟩);·cases he
  ·cases he
 ·cases he
theorem Cy{X:Cx}{s s':aa}{a:Act}{w:World}{ρ:Nat->Value}(h:Fits X s a w ρ)(hO:∀b,X.O b-> ¬X.M b){io:Bool}{t:TypeId}{x:Operand}{v:LV}(he:b7 X.T io s t x=some (v,s')):
  Fits X s' a w ρ/\(∀b,hot X.O ρ s'.own b->hot X.O ρ s.own b)/\aV (hot X.O ρ s'.own) w ρ v (a.eval x):=by
 unfold b7 at he;split at he;·rename_i id hx;cases he;exact⟨h,fun _ h=>h,cg h hx⟩
 ·rename_i id wd i hx;cases he;exact⟨h,fun _ h=>h,cg h hx⟩
 ·exact Cw h hO he
theorem ri{X:Cx}{a:Act}{w:World}{ρ:Nat->Value}(hO:∀b,X.O b-> ¬X.M b)(io:List Nat):∀(xs:List Operand) (ts:List TypeId) (k:Nat) {s s':aa} {vs:List LV},Fits X s a w ρ->eB X.T io k s ts xs=some (vs,s')->
  Fits X s' a w ρ/\(∀b,hot X.O ρ s'.own b->hot X.O ρ s.own b)/\bC (aV (hot X.O ρ s'.own) w ρ) vs (xs.map a.eval)
 | [],ts,k,s,s',vs,h,he=>by simp[eB] at he;obtain⟨rfl,rfl⟩:=he;exact⟨h,fun _ h=>h,trivial⟩
 |x::xs,[],k,s,s',vs,h,he=>by simp[eB] at he
 |x::xs,t::ts,k,s,s',vs,h,he=>by
  simp only[eB] at he;split at he
  ·(rename_i v s1 hv;split at he;·rename_i vs' s2 hvs;cases he;obtain⟨g1,g2,g3⟩:=Cy h hO hv;obtain⟨k1,k2,k3⟩:=ri hO io xs ts (k+1) g1 hvs;exact⟨k1,fun b hb=>g2 b (k2 b hb),bb (fun b _ hb=>k2 b hb) (bn.refl _ _) (fun _ _=>rfl) g3,k3⟩);·cases he
  ·cases he
theorem Fits.kill{X:Cx}{s:aa}{a:Act}{w:World}{ρ:Nat->Value}(h:Fits X s a w ρ)(d:Nat):Fits X (s.kill d) a w ρ:=by
 have hsub:∀p∈bu (LV.kill d) (del s.own d),∃o,(p.1,o)∈s.own:=fun p hp=>by
  obtain⟨u,h1,_⟩:=bq hp;exact⟨u,(bQ.1 h1).1⟩
 have hh:∀b,b<w.heap.size->hot X.O ρ (bu (LV.kill d) (del s.own d)) b->hot X.O ρ s.own b:=fun b _ hb=>kZ hsub hb;have hs:=bn.refl (hot X.O ρ s.own) w;have hk:∀x v,aV (hot X.O ρ s.own) w ρ x v->aV (hot X.O ρ (bu (LV.kill d) (del s.own d))) w ρ (x.kill d) v:=fun x v hx=>bm hh hs (fun _ _=>rfl) hx;refine h.env_map hk (fun p hp=>?_) (fun p hp hB hF=>by obtain⟨o,ho⟩:=hsub p hp;exact h.io (p.1,o) ho hB hF) ?_;·obtain⟨u,h1,h2⟩:=bq hp;have:=(h.own _ (bQ.1 h1).1).move (f:=LV.kill d) (ρ':=ρ) hh hs hk rfl (fun _ _=>rfl);rw[<- h2] at this;exact this
 ·exact cP (fun i j=>i≠j/\∀b,Blk (ρ i) b-> ¬Blk (ρ j) b) (dr (fun i j=>i≠j/\∀b,Blk (ρ i) b-> ¬Blk (ρ j) b) h.apart)
theorem IC(d i:Nat)(x:LV):(x.kill d).isOf i=true->x.isOf i=true/\i≠d:=by
 unfold LV.kill;split;·intro h;simp[LV.isOf] at h
 ·rename_i hno;intro h;exact⟨h,fun e=>hno (e▸h)⟩
def LV.clear(ds:Nat->Prop)(x:LV):Prop:=∀i,ds i->x.isOf i=false
def AV.clear(ds:Nat->Prop):AV->Prop
 | .l x=>x.clear ds
 | .agg cs=>∀c∈cs,c.clear ds
 | .tup xs=>∀x∈xs,x.clear ds
 | .g _ x=>x.clear ds
 | .gt _ xs=>∀x∈xs,x.clear ds
def aJ.clear(ds:Nat->Prop):aJ->Prop
 | .box _ cs=>∀c∈cs,c.clear ds
 | .arr _ _ _=>True
 | .win _ _ _ _ _=>True
 | .mat _ _ _ _ _=>True
 | .que _ _ _=>True
def aa.clear(ds:Nat->Prop)(s:aa):Prop:=(∀e∈s.env,e.2.clear ds)/\∀p∈s.own,¬ds p.1/\p.2.clear ds
theorem LV.clear_kill{ds:Nat->Prop}{x:LV}(h:x.clear ds)(d:Nat):(x.kill d).clear fun i=>i=d∨ds i:=by
 intro i hi;cases hk:(x.kill d).isOf i with
 |false=>rfl
 |true=>
  obtain⟨h1,h2⟩:=IC d i x hk;rcases hi with hi|hi;·exact absurd hi h2
  ·rw[h i hi] at h1;cases h1
theorem aa.clear_kill{ds:Nat->Prop}{s:aa}(h:s.clear ds)(d:Nat):(s.kill d).clear fun i=>i=d∨ds i:=by
 constructor
 ·intro e he;obtain⟨v,h1,h2⟩:=jC he;have hv:=h.1 _ h1;rw[h2];cases v with
  |l x=>exact LV.clear_kill hv d
  |agg cs=>intro c hc;obtain⟨c',h3,rfl⟩:=List.mem_map.1 hc;exact LV.clear_kill (hv c' h3) d
  |tup xs=>intro c hc;obtain⟨c',h3,rfl⟩:=List.mem_map.1 hc;exact LV.clear_kill (hv c' h3) d
  |g φ x=>exact LV.clear_kill hv d
  |gt φ xs=>intro c hc;obtain⟨c',h3,rfl⟩:=List.mem_map.1 hc;exact LV.clear_kill (hv c' h3) d
 ·intro p hp;obtain⟨o,h1,h2⟩:=bq hp;have h3:=bQ.1 h1;refine⟨fun hi=>hi.elim (fun e=>h3.2 e) (fun e=>(h.2 _ h3.1).1 e),?_⟩;have ho:=(h.2 _ h3.1).2;rw[h2];cases o with
  |box T cs=>intro c hc;obtain⟨c',h3,rfl⟩:=List.mem_map.1 hc;exact LV.clear_kill (ho c' h3) d
  |arr t T xs=>trivial
  |win t T pre xs post=>trivial
  |mat t T E rows idx=>trivial
  |que t T xs=>trivial
theorem s6{X:Cx}{a:Act}{w:World}{ρ:Nat->Value}:∀(l:List Nat) {s:aa} {ds:Nat->Prop},Fits X s a w ρ->s.clear ds->Fits X (eS s l) a w ρ/\(eS s l).clear fun i=>i∈l∨ds i
 | [],s,ds,h,hc=>⟨h,by simpa [eS] using hc⟩
 |d::l,s,ds,h,hc=>by
  obtain⟨g1,g2⟩:=s6 l (h.kill d) (aa.clear_kill hc d);refine⟨g1,?_⟩;have:(fun i=>i∈l∨i=d∨ds i)=(fun i=>i∈d::l∨ds i):=by
   funext i;simp only[List.mem_cons,eq_iff_iff];constructor
   ·(rintro(h|h|h);·exact .inl (.inr h));·exact .inl (.inl h)
    ·exact .inr h
   ·(rintro((h|h)|h);·exact .inr (.inl h));·exact .inl h
    ·exact .inr (.inr h)
  rwa [<- this]
theorem ij{H H':Nat->Prop}{w w':World}{ρ ρ':Nat->Value}{ds:Nat->Prop}(hh:∀b,b<w.heap.size->H' b->H b)(hs:bn H w w')(hρ:∀i,¬ds i->ρ' i=ρ i){x:LV}(hc:x.clear ds){v:Value}(h:aV H w ρ x v):aV H' w' ρ' x v:=
 bb hh hs (fun i hi=>hρ i (fun hd=>by rw[hc i hd] at hi;cases hi)) h
theorem bC.and_mem{α β:Type}{R R':α->β->Prop}{p:α->Prop}(hf:∀a b,p a->R a b->R' a b):∀{l1:List α} {bs:List β},(∀a∈l1,p a)->bC R l1 bs->bC R' l1 bs:=
 fun hp h=>h.imp (fun a b ha hr=>hf a b (hp a ha) hr)
theorem Cz{H:Nat->Prop}{w:World}{ρ:Nat->Value}{f:FuncId}{caps:List CV}{v:Value}(h:aV H w (fun _=>undef) (.fn f caps) v):aV H w ρ (.fn f caps) v:=by
 obtain⟨vs,hv,h⟩:=h;refine⟨vs,hv,?_⟩;clear hv;induction caps generalizing vs with
 |nil=>cases vs with
  |nil=>trivial
  |cons _ _=>exact h.elim
 |cons c caps ih=>cases vs with
  |nil=>exact h.elim
  |cons u vs=>
   refine⟨?_,ih vs h.2⟩;have h1:=h.1;cases c with
   |z t y=>exact h1
   |p id=>obtain⟨b,hb,_⟩:=h1;simp[undef] at hb
theorem zA{H:Nat->Prop}{w:World}{B:Nat->Prop}(ρ:Nat->Value):∀(rs:List RV) (vs:List Value) (i:Nat),bC (l5 H w B) rs vs->(∀k (_:k<vs.length),(∃r,rs[k]? =some r/\r.isOwn=true)->ρ (i+k)=vs[k])->bC (aV H w ρ) (bP i rs).1 vs
 | [],[],_,_,_=>trivial
 |r::rs,v::vs,i,h,hρ=>by
  have h0:=hρ 0 (by simp);simp only[Nat.add_zero,List.getElem_cons_zero] at h0;refine⟨?_,zA ρ rs vs (i+1) h.2 (fun k hk ho=>by
   have:=hρ (k+1) (by simpa using hk) (by simpa using ho);simp only[List.getElem_cons_succ] at this;rw[<- this];congr 1;omega)⟩
  cases r with
  |z t x=>exact h.1
  |own t T xs=>
   obtain⟨⟨a,n,c,hv⟩,_⟩:=h.1;exact⟨(h0 ⟨_,rfl,rfl⟩).symm,a,n,c,hv⟩
  |fn f caps=>exact Cz h.1
  |val u=>exact h.1
 | [],_::_,_,h,_=>h.elim
 |_::_,[],_,h,_=>h.elim
theorem oT{H:Nat->Prop}{w:World}{B:Nat->Prop}{M:Nat->Prop}(hbb:∀b,B b->M b)(ρ:Nat->Value):∀(rs:List RV) (vs:List Value) (i:Nat),bC (l5 H w B) rs vs->(∀k (_:k<vs.length),(∃r,rs[k]? =some r/\r.isOwn=true)->ρ (i+k)=vs[k])->∀p∈(bP i rs).2,(∃k,k<vs.length/\p.1=i+k)/\cl H w ρ M p/\∀b,Blk (ρ p.1) b->B b/\cX (fun _=>False) rs vs b
 | [],[],_,_,_,p,hp=>by simp[bP] at hp
 |r::rs,v::vs,i,h,hρ,p,hp=>by
  have h0:=hρ 0 (by simp);simp only[Nat.add_zero,List.getElem_cons_zero] at h0;simp only[bP,List.mem_append] at hp;rcases hp with hp|hp
  ·cases r with
   |z t x=>simp[RV.give] at hp
   |fn f caps=>simp[RV.give] at hp
   |val u=>simp[RV.give] at hp
   |own t T xs=>
    simp[RV.give] at hp;subst hp;obtain⟨⟨a,n,c,hv⟩,cells,h1,h2⟩:=h.1;have h0:=h0 ⟨_,rfl,rfl⟩;refine⟨⟨0,by simp,rfl⟩,⟨cells,h1,?_⟩,fun b hb=>?_⟩
    ·(simp only[h0];obtain⟨q1,q2⟩:=h2;refine⟨q1,?_⟩;rcases q2 with q2|⟨g,cap,cur,e1,e2,e3⟩;·exact .inl q2);·exact .inr ⟨g,cap,cur,e1,hbb g e2,e3⟩
    ·(simp only[h0] at hb;refine⟨?_,.inl ⟨rfl,hb⟩⟩;rcases h2.2 with⟨q2,_⟩|⟨g,cap,cur,e1,e2,_⟩;·rw[q2] at hb;simp[Blk] at hb);·rw[e1] at hb;simp[Blk] at hb;exact hb▸e2
  ·obtain⟨⟨k,h1,h2⟩,h3,h4⟩:=oT hbb ρ rs vs (i+1) h.2 (fun k hk ho=>by
    have:=hρ (k+1) (by simpa using hk) (by simpa using ho);simp only[List.getElem_cons_succ] at this;rw[<- this];congr 1;omega) p hp
   exact⟨⟨k+1,by simpa using h1,by omega⟩,h3,fun b hb=>⟨(h4 b hb).1,.inr (h4 b hb).2⟩⟩
 | [],_::_,_,h,_,_,_=>h.elim
 |_::_,[],_,h,_,_,_=>h.elim
theorem s7{H:Nat->Prop}{w:World}{B:Nat->Prop}(ρ:Nat->Value):∀(rs:List RV) (vs:List Value) (i:Nat),bC (l5 H w B) rs vs->fS rs vs->(∀k (_:k<vs.length),(∃r,rs[k]? =some r/\r.isOwn=true)->ρ (i+k)=vs[k])->(bP i rs).2.Pairwise fun p q=>p.1≠q.1/\∀b,Blk (ρ p.1) b-> ¬Blk (ρ q.1) b
 | [],[],_,_,_,_=> .nil
 |r::rs,v::vs,i,h,ha,hρ=>by
  have h0:=hρ 0 (by simp);simp only[Nat.add_zero,List.getElem_cons_zero] at h0;have hρ':∀k (_:k<vs.length),(∃r,rs[k]? =some r/\r.isOwn=true)->ρ (i+1+k)=vs[k]:=fun k hk ho=>by
   have:=hρ (k+1) (by simpa using hk) (by simpa using ho);simp only[List.getElem_cons_succ] at this;rw[<- this];congr 1;omega
  have ih:=s7 ρ rs vs (i+1) h.2 ha.2 hρ';cases r with
  |z t x=>simpa [bP,RV.give] using ih
  |fn f caps=>simpa [bP,RV.give] using ih
  |val u=>simpa [bP,RV.give] using ih
  |own t T xs=>
   simp only[bP,RV.give,List.singleton_append];rw[List.pairwise_cons];refine⟨fun q hq=>?_,ih⟩;obtain⟨⟨k,_,h2⟩,_,h4⟩:=oT (M:=B) (fun _ h=>h) ρ rs vs (i+1) h.2 hρ' q hq;refine⟨by omega,fun b hb hqb=>?_⟩;rw[h0 ⟨_,rfl,rfl⟩] at hb;exact ha.1 rfl b hb (h4 b hqb).2
 | [],_::_,_,h,_,_=>h.elim
 |_::_,[],_,h,_,_=>h.elim
theorem e8{O:Nat->Prop}:∀(rs:List RV) (vs:List Value) {b:Nat},cX O rs vs b↔O b∨cX (fun _=>False) rs vs b
 |r::rs,v::vs,b=>by
  simp only[cX];rw[e8 rs vs];constructor
  ·(rintro(h|h|h);·exact .inr (.inl h));·exact .inl h
   ·exact .inr (.inr h)
  ·(rintro(h|h|h);·exact .inr (.inl h));·exact .inl h
   ·exact .inr (.inr h)
 | [],_,b=>by simp[cX]
 |_::_,[],b=>by simp[cX]
theorem zB{H H':Nat->Prop}{w:World}{B:Nat->Prop}(hh:∀b,b<w.heap.size->H' b->H b){r:RV}{v:Value}(h:l5 H w B r v):l5 H' w B r v:=by
 cases r with
 |z t x=>exact⟨h.1,Ty.rep_move hh (bn.refl _ _) h.2⟩
 |fn f caps=>exact bb (x:= .fn f caps) hh (bn.refl _ _) (fun _ _=>rfl) h
 |val u=>exact h
 |own t T xs=>
  obtain⟨h1,cells,h2,h3⟩:=h;exact⟨h1,cells,aX hh (bn.refl _ _) h2,h3⟩
theorem CA{H H':Nat->Prop}{w w':World}{ρ ρ':Nat->Value}{ds:Nat->Prop}(hh:∀b,b<w.heap.size->H' b->H b)(hs:bn H w w')(hρ:∀i,¬ds i->ρ' i=ρ i){x:AV}(hc:x.clear ds){v:Value}(h:hZ H w ρ x v):hZ H' w' ρ' x v:=by
 cases x with
 |l x=>exact ij hh hs hρ hc h
 |agg cs=>obtain⟨vs,e,h⟩:=h;exact⟨vs,e,h.and_mem (p:=LV.clear ds) (fun _ _ hc hr=>⟨ij hh hs hρ hc hr.1,hr.2⟩) hc⟩
 |tup xs=>obtain⟨vs,e,h⟩:=h;exact⟨vs,e,h.and_mem (p:=LV.clear ds) (fun _ _ hc hr=>ij hh hs hρ hc hr) hc⟩
 |g φ x=>exact⟨fun hφ=>ij hh hs hρ hc (h.1 hφ),h.2⟩
 |gt φ xs=>exact⟨fun hφ=>by obtain⟨vs,e,h⟩:=h.1 hφ;exact⟨vs,e,h.and_mem (p:=LV.clear ds) (fun _ _ hc hr=>ij hh hs hρ hc hr) hc⟩,h.2⟩
theorem zC{H H':Nat->Prop}{w w':World}{ρ ρ':Nat->Value}{M:Nat->Prop}{ds:Nat->Prop}{p:Nat×aJ}(hh:∀b,b<w.heap.size->H' b->H b)(hs:bn H w w')(hρ:∀i,¬ds i->ρ' i=ρ i)(hc:¬ds p.1/\p.2.clear ds)(hk:∀k,k<w.heap.size->w'.heap[k]? =w.heap[k]?)(h:cl H w ρ M p):cl H' w' ρ' M p:=by
 have hlt:=fun b (hb:Blk (ρ p.1) b)=>(h.lt hb).2;obtain⟨id,obj⟩:=p;have hr:ρ' id=ρ id:=hρ id hc.1;cases obj with
 |box T cs=>
  obtain⟨g,vs,h1,h2,h3,h4⟩:=h;exact⟨g,vs,by rw[hr];exact h1,h2,by rw[hk g (hlt g (by simp only[h1];rfl))];exact h3,h4.and_mem (p:=LV.clear ds) (fun _ _ hc hr=>⟨ij hh hs hρ hc hr.1,hr.2⟩) hc.2⟩
 |arr t T xs=>
  obtain⟨cells,h1,h2,h3⟩:=h;refine⟨cells,aX hh hs h1,h2,?_⟩;rw[hr];rcases h3 with h3|⟨g,cap,cur,h3,h4,h5,h6⟩;·exact .inl h3
  ·exact .inr ⟨g,cap,cur,h3,h4,by rw[hk g (hlt g (by simp only[h3];rfl))];exact h5,h6⟩
 |win t T pre xs post=>
  obtain⟨g,cap,cells,cur,h1,h3,h4,h5,h6⟩:=h;exact⟨g,cap,cells,cur,aX hh hs h1,by rw[hr];exact h3,h4,by rw[hk g (hlt g (by simp only[h3];rfl))];exact h5,h6⟩
 |mat t T E rows idx=>
  have:=h.move (f:=_root_.id) (ρ':=fun i=>if i=id then ρ id else ρ i) hh hs (fun x v hx=>bb hh hs (fun i _=>by
   by_cases e:i=id
   ·subst e;simp
   ·simp[e]) hx) (by simp) (fun b hb=>hk b (hlt b hb))
  obtain⟨h0,vs,cells,h1,h2⟩:=this;exact⟨h0,vs,cells,by rw[hr];simpa using h1,h2⟩
 |que t T xs=>
  have hM:∀b,Blk (ρ id) b->M b:=fun b hb=>(cl.lt h hb).1;obtain⟨cells,h1,h2⟩:=h;refine⟨cells,aX hh hs h1,?_⟩;rw[hr];exact oa h2 fun b e=>⟨hM b e,hk b (hlt b e)⟩
theorem mc:∀(rs:List RV) (i:Nat),∀p∈(bP i rs).2,p.1∈cQ i rs
 | [],i,p,h=>by simp[bP] at h
 |r::rs,i,p,h=>by
  simp only[bP,List.mem_append] at h;cases r with
  |own t T xs=>
   (simp only[cQ,List.mem_cons];rcases h with h|h;·simp[RV.give] at h;exact .inl (by rw[h]));·exact .inr (mc rs (i+1) p h)
  |z t x=>simp only[RV.give,List.not_mem_nil,false_or] at h;exact mc rs (i+1) p h
  |fn f caps=>simp only[RV.give,List.not_mem_nil,false_or] at h;exact mc rs (i+1) p h
  |val u=>simp only[RV.give,List.not_mem_nil,false_or] at h;exact mc rs (i+1) p h
theorem s8:∀{rs:List RV} {i k:Nat},k∈cQ i rs↔i<=k/\∃r,rs[k-i]? =some r/\r.isOwn=true
 | [],i,k=>by simp[cQ]
 |r::rs,i,k=>by
  have ih:=s8 (rs:=rs) (i:=i+1) (k:=k);have step:(i+1<=k/\∃r',rs[k-(i+1)]? =some r'/\r'.isOwn=true)↔(i<k/\∃r',(r::rs)[k-i]? =some r'/\r'.isOwn=true):=by
   (constructor;·rintro⟨h1,h2⟩;refine⟨h1,?_⟩;(have:k-i=(k-(i+1))+1:=by omega);rw[this];simpa using h2);·rintro⟨h1,h2⟩;refine⟨h1,?_⟩;(have:k-i=(k-(i+1))+1:=by omega);rw[this] at h2;simpa using h2
  have key:r.isOwn=false->((i<=k/\∃r',(r::rs)[k-i]? =some r'/\r'.isOwn=true)↔(i<k/\∃r',(r::rs)[k-i]? =some r'/\r'.isOwn=true)):=by
   intro hr;refine⟨fun⟨h1,h2⟩=>⟨Nat.lt_of_le_of_ne h1 ?_,h2⟩,fun⟨h1,h2⟩=>⟨by omega,h2⟩⟩;rintro rfl;obtain⟨r',h3,h4⟩:=h2;simp at h3;subst h3;rw[hr] at h4;cases h4
  cases r with
  |own t T xs=>
   simp only[cQ,List.mem_cons];rw[ih,step];constructor
   ·(rintro(rfl|⟨h1,h2⟩);·exact⟨Nat.le_refl _,_,by rw[Nat.sub_self];rfl,rfl⟩);·exact⟨by omega,h2⟩
   ·(rintro⟨h1,h2⟩;by_cases e:k=i;·exact .inl e);·exact .inr ⟨by omega,h2⟩
  |z t x=>simp only[cQ];rw[ih,step,key rfl]
  |fn f caps=>simp only[cQ];rw[ih,step,key rfl]
  |val u=>simp only[cQ];rw[ih,step,key rfl]
theorem CB{X:Cx}{s:aa}{a:Act}{w':World}{ρ:Nat->Value}{rs:List RV}{vs:List Value}{s0:aa}{w:World}(h0:St X s0 a w)(hko:KeepsOthers w w')(hbel:Bel X.M X.w0 w')(hf:Fits {X with O:=fun b=>X.O b∨cX (fun _=>False) rs vs b} s a w' ρ){B:Nat->Prop}(hB:∀b,hot X.O ρ s.own b-> ¬cX (fun _=>False) rs vs b)(hB0:∀b,B b->X.M b){d:Nat}(hdN:X.T.ok d=true)
  (hid:1000+8*d+rs.length<=ioB) (hr:bC (l5 (cX (hot X.O ρ s.own) rs vs) w' B) rs vs) (hap:fS rs vs):St X (endCall s d rs) (a.put (some d) (yc vs)) w':=by
 have hclear0:s.clear fun _=>False:=by
  constructor
  ·intro e _;have:∀x:LV,x.clear fun _=>False:=fun x i hi=>hi.elim;cases e.2 with
   |l x=>exact this x
   |agg cs=>exact fun c _=>this c
   |tup xs=>exact fun c _=>this c
   |g φ x=>exact this x
   |gt φ xs=>exact fun c _=>this c
  ·intro p _;refine⟨id,?_⟩;cases p.2 with
   |box T cs=>exact fun c _ i hi=>hi.elim
   |arr t T xs=>trivial
   |win t T pre xs post=>trivial
   |mat t T E rows idx=>trivial
   |que t T xs=>trivial
 have hlen:=hr.length;obtain⟨g1,g2⟩:=s6 (cQ (1000+8*d) rs) hf hclear0;unfold endCall;simp only[];generalize hs2:eS s (cQ (1000+8*d) rs)=s2 at g1 g2;generalize hi0:1000+8*d=i0 at g2 hs2 hid;let ρ':Nat->Value:=fun i=>if i∈cQ i0 rs then vs.getD (i-i0) undef else ρ i
 have hρin:∀k (_:k<vs.length),(∃r,rs[k]? =some r/\r.isOwn=true)->ρ' (i0+k)=vs[k]:=by
  intro k hk ho;have hc:i0+k∈cQ i0 rs:=s8.2 ⟨by omega,by rw[Nat.add_sub_cancel_left];exact ho⟩;show (if i0+k∈cQ i0 rs then vs.getD (i0+k-i0) undef else ρ (i0+k))=vs[k];rw[if_pos hc,Nat.add_sub_cancel_left];simp[List.getD,hk]
 have hρout:∀i,¬(i∈cQ i0 rs∨False)->ρ' i=ρ i:=by
  intro i hi;show (if i∈cQ i0 rs then vs.getD (i-i0) undef else ρ i)=ρ i;rw[if_neg (fun h=>hi (.inl h))]
 have hsub2:∀b,hot X.O ρ s2.own b->hot X.O ρ s.own b:=by
  intro b hb;rw[<- hs2] at hb;have key:∀(l:List Nat) (s:aa),hot X.O ρ (eS s l).own b->hot X.O ρ s.own b:=by
   intro l;induction l with
   |nil=>intro s h;exact h
   |cons k l ih=>
    intro s h;refine kZ (fun p hp=>?_) (ih (s.kill k) h);obtain⟨u,h1,_⟩:=bq hp;exact⟨u,(bQ.1 h1).1⟩
  exact key _ _ hb
 have hown:=oT (H:=cX (hot X.O ρ s.own) rs vs) (w:=w') (B:=B) (M:=X.M) hB0 ρ' rs vs i0 hr hρin;have hH:∀b,hot X.O ρ' ((bP i0 rs).2++s2.own) b->cX (hot X.O ρ s2.own) rs vs b:=by
  intro b hh;rw[e8];rcases hh with hh|⟨p,hp,hpb⟩;·exact .inl (.inl hh)
  ·(rcases List.mem_append.1 hp with hp|hp;·exact .inr ((hown p hp).2.2 b hpb).2);·rw[hρout _ (g2.2 p hp).1] at hpb;exact .inl (.inr ⟨p,hp,hpb⟩)
 have hH':∀b,hot X.O ρ' ((bP i0 rs).2++s2.own) b->cX (hot X.O ρ s.own) rs vs b:=by
  intro b hh;have:=hH b hh;rw[e8] at this ⊢;exact this.imp (hsub2 b) _root_.id
 have hr':=hr.imp (R':=l5 (hot X.O ρ' ((bP i0 rs).2++s2.own)) w' B) (fun r v _ hrv=>zB (fun b _ hb=>hH' b hb) hrv);have hfit:Fits X {env:=s2.env,own:=(bP i0 rs).2++s2.own} a w' ρ':=by
  have hh2:∀b,b<w'.heap.size->hot X.O ρ' ((bP i0 rs).2++s2.own) b->hot (fun b=>X.O b∨cX (fun _=>False) rs vs b) ρ s2.own b:=by
   (intro b _ hh;have h1:=hH b hh;rw[e8] at h1;rcases h1 with(h1|h1)|h1;·exact .inl (.inl h1));·exact .inr h1
   ·exact .inl (.inr h1)
  have hs:bn (hot (fun b=>X.O b∨cX (fun _=>False) rs vs b) ρ s2.own) w' w':=bn.refl _ _;refine⟨fun e he=>CA hh2 hs hρout (g2.1 e he) (g1.env e he),fun p hp=>?_,fun p hp hB hF=>?_,?_⟩
  ·(rcases List.mem_append.1 hp with hp|hp;·exact(oT (B:=B) (M:=X.M) hB0 ρ' rs vs i0 hr' hρin p hp).2.1);·exact zC hh2 hs hρout (g2.2 p hp) (fun _ _=>rfl) (g1.own p hp)
  ·(rcases List.mem_append.1 hp with hp|hp;·obtain⟨⟨k,h1,h2⟩,_⟩:=hown p hp;omega);·rw[hρout _ (g2.2 p hp).1];exact g1.io p hp hB hF
  ·rw[List.pairwise_append];refine⟨s7 ρ' rs vs i0 hr hap hρin,?_,fun p hp q hq=>?_⟩;·refine g1.apart.imp_of_mem fun {p q} hp hq hpq=>?_;rw[hρout _ (g2.2 p hp).1,hρout _ (g2.2 q hq).1];exact hpq
   ·(obtain⟨⟨k,h1,h2⟩,_,h4⟩:=hown p hp;have hq2:=(g2.2 q hq).1;refine⟨fun e=>hq2 (.inl ?_),fun b hpb hqb=>?_⟩;·rw[<- e];exact mc rs i0 p hp);rw[hρout _ hq2] at hqb;exact hB b (hsub2 b (dH hq hqb)) (h4 b hpb).2
 have henv:=zA ρ' rs vs i0 hr' hρin;have hval:hZ (hot X.O ρ' ((bP i0 rs).2++s2.own)) w' ρ' (match (bP i0 rs).1 with
   | [x]=>AV.l x
   |l=>AV.tup l) (yc vs):=by
  generalize (bP i0 rs).1=l at henv;match l,vs,henv with
  | [],[],henv=>exact⟨[],rfl,henv⟩
  | [x],[v],henv=>exact henv.1
  |x::y::l,v::u::vs,henv=>exact⟨v::u::vs,rfl,henv⟩
 have hput:=hfit.put (d:=d) (by rw[h0.size];exact Tab.ok_lt hdN) hval;exact h0.next hdN hko hbel hput
theorem ik:∀{l:List cj} {k n:Nat} {x:cj},fP l k x=some n->k<=n/\l[n-k]? =some x
 |i::r,k,n,x,h=>by
  simp only[fP] at h;split at h;·rename_i e;subst e;cases h;exact⟨Nat.le_refl _,by simp⟩
  ·obtain⟨h1,h2⟩:=ik h;refine⟨by omega,?_⟩;(have:n-k=(n-(k+1))+1:=by omega);rw[this,List.getElem?_cons_succ,h2]
def hdr(ρ:Nat->Value):cj->Value
 |(id,none)=>ρ id
 |(id,some (w,i))=>match ρ id with
  | .slice (some a) n c=> .slice (some ⟨a.block,i*w,none⟩) (n-i) (c-i)
  |_=>undef
def cE(ρ:Nat->Value)(l:List cj)(k:Nat):Value:=match (if ioB<=k then l[k-ioB]? else none) with
 |some x=>hdr ρ x
 |none=>undef
theorem cS{ρ:Nat->Value}{l:List cj}{k:Nat}{x:cj}(hk:ioB<=k)(h:l[k-ioB]? =some x):cE ρ l k=hdr ρ x:=by
 simp only[cE,if_pos hk,h]
theorem ID{H:Nat->Prop}{w:World}{ρ:Nat->Value}{l:List cj}{c c':CV}(he:c.ren l=some c'){v:Value}(h:gX H w ρ c v):gX H w (cE ρ l) c' v:=by
 cases c with
 |z t x=>simp[CV.ren] at he;subst he;exact h
 |p id=>
  simp only[CV.ren] at he;split at he;·rename_i k hk;cases he;obtain⟨h1,h2⟩:=ik hk;simp only[gX,cS h1 h2,hdr];exact h
  ·cases he
theorem s9{H:Nat->Prop}{w:World}{ρ:Nat->Value}{l:List cj}:∀{cs cs':List CV} {vs:List Value},ja l cs=some cs'->bC (gX H w ρ) cs vs->bC (gX H w (cE ρ l)) cs' vs
 | [],_,[],he,_=>by simp[ja] at he;subst he;trivial
 | [],_,_::_,_,h=>h.elim
 |_::_,_,[],_,h=>h.elim
 |c::cs,cs',v::vs,he,h=>by
  simp only[ja] at he;split at he;·rename_i c1 r1 h1 h2;cases he;exact⟨ID h1 h.1,s9 h2 h.2⟩
  ·cases he
theorem zD{H:Nat->Prop}{w:World}{ρ:Nat->Value}{l:List cj}{x:LV}{v:Value}(h:aV H w ρ x v):aV H w (cE ρ l) (x.ren l) v:=by
 cases x with
 |z t x=>exact h
 |val u=>exact h
 |ownP id off=>
  simp only[LV.ren];split;·rename_i k hk;obtain⟨h1,h2⟩:=ik hk;simp only[aV,cS h1 h2,hdr];exact h
  ·trivial
 |ownS id=>
  simp only[LV.ren];split;·rename_i k hk;obtain⟨h1,h2⟩:=ik hk;simp only[aV,cS h1 h2,hdr];exact h
  ·trivial
 |ownW id wd i=>
  simp only[LV.ren];split;·rename_i k hk;obtain⟨h1,h2⟩:=ik hk;obtain⟨b,n,c,h3,h4,h5⟩:=h;simp only[aV,cS h1 h2,hdr,h3];exact⟨h5,_,_,_,h5⟩
  ·trivial
 |ownM id=>
  simp only[LV.ren];split;·rename_i k hk;obtain⟨h1,h2⟩:=ik hk;simp only[aV,cS h1 h2,hdr];exact h
  ·trivial
 |ownR id j=>
  simp only[LV.ren];split;·rename_i k hk;obtain⟨h1,h2⟩:=ik hk;simp only[aV,cS h1 h2,hdr];exact h
  ·trivial
 |ownA=>trivial
 |ownB=>trivial
 |fn f caps=>
  simp only[LV.ren];split;·rename_i cs hcs;obtain⟨vs,hv,h⟩:=h;exact⟨vs,hv,s9 hcs h⟩
  ·trivial
 |ownE=>trivial
 |junk=>trivial
theorem eJ{l:List cj}{k id:Nat}(h:l8 l k=some id):ioB<=k/\l[k-ioB]? =some (id,none):=by
 unfold l8 at h;split at h;·cases h
 ·rename_i h1;split at h;·rename_i h2;cases h;exact⟨Nat.le_of_not_lt h1,h2⟩
  ·cases h
theorem CC{H:Nat->Prop}{w:World}{ρ:Nat->Value}{l:List cj}{c c':CV}(he:c.back l=some c'){v:Value}(h:gX H w (cE ρ l) c v):gX H w ρ c' v:=by
 cases c with
 |z t x=>simp[CV.back] at he;subst he;exact h
 |p id=>
  simp only[CV.back] at he;split at he;·rename_i k hk;cases he;simp only[gX,cS (eJ hk).1 (eJ hk).2,hdr] at h;exact h
  ·cases he
theorem rj{H:Nat->Prop}{w:World}{ρ:Nat->Value}{l:List cj}:∀{cs cs':List CV} {vs:List Value},jB l cs=some cs'->bC (gX H w (cE ρ l)) cs vs->bC (gX H w ρ) cs' vs
 | [],_,[],he,_=>by simp[jB] at he;subst he;trivial
 | [],_,_::_,_,h=>h.elim
 |_::_,_,[],_,h=>h.elim
 |c::cs,cs',v::vs,he,h=>by
  simp only[jB] at he;split at he;·rename_i c1 r1 h1 h2;cases he;exact⟨CC h1 h.1,rj h2 h.2⟩
  ·cases he
theorem IE{H:Nat->Prop}{w:World}{ρ:Nat->Value}{l:List cj}{x:LV}{v:Value}(h:aV H w (cE ρ l) x v):aV H w ρ (x.back l) v:=by
 cases x with
 |z t x=>exact h
 |val u=>exact h
 |ownP id off=>
  simp only[LV.back];split;·rename_i k hk;simp only[aV,cS (eJ hk).1 (eJ hk).2,hdr] at h;exact h
  ·trivial
 |ownS id=>
  simp only[LV.back];split;·rename_i k hk;simp only[aV,cS (eJ hk).1 (eJ hk).2,hdr] at h;exact h
  ·trivial
 |fn f caps=>
  simp only[LV.back];split;·rename_i cs hcs;obtain⟨vs,hv,h⟩:=h;exact⟨vs,hv,rj hcs h⟩
  ·trivial
 |ownM id=>
  simp only[LV.back];split;·rename_i k hk;simp only[aV,cS (eJ hk).1 (eJ hk).2,hdr] at h;exact h
  ·trivial
 |ownR id j=>
  simp only[LV.back];split;·rename_i k hk;simp only[aV,cS (eJ hk).1 (eJ hk).2,hdr] at h;exact h
  ·trivial
 |ownA=>trivial
 |ownB=>trivial
 |ownW=>trivial
 |ownE=>trivial
 |junk=>trivial
theorem cl.moved{H H':Nat->Prop}{w:World}{ρ ρ':Nat->Value}{M M':Nat->Prop}{id k:Nat}{o:aJ}{f:LV->LV}(h:cl H w ρ M (id,o))(hh:∀b,b<w.heap.size->H' b->H b)
  (hf:∀x v,aV H w ρ x v->aV H' w ρ' (f x) v) (hρ:ρ' k=ρ id) (hM:∀b,Blk (ρ id) b->M' b):cl H' w ρ' M' (k,o.map f):=by
 have hs:=bn.refl H w;cases o with
 |box T cs=>
  obtain⟨g,vs,h1,h2,h3,h4⟩:=h;exact⟨g,vs,by rw[hρ];exact h1,hM g (by rw[h1];rfl),h3,h4.map_left (fun _ _ h=>sX hf h)⟩
 |arr t T xs=>
  obtain⟨cells,h1,h2,h3⟩:=h;refine⟨cells,aX hh hs h1,h2,?_⟩;rw[hρ];rcases h3 with h3|⟨g,cap,cur,h3,h4,h5,h6⟩;·exact .inl h3
  ·exact .inr ⟨g,cap,cur,h3,hM g (by rw[h3];rfl),h5,h6⟩
 |win t T pre xs post=>
  obtain⟨g,cap,cells,cur,hr,h3,h4,h5,h6⟩:=h;exact⟨g,cap,cells,cur,aX hh hs hr,by rw[hρ];exact h3,hM g (by rw[h3];rfl),h5,h6⟩
 |mat t T E rows idx=>
  obtain⟨h0,vs,cells,h1,h2⟩:=h;exact⟨h0,vs,cells,by rw[hρ];exact h1,h2.move (fun c x h=>Ty.rep_move hh hs h) fun u hu b e=>⟨hM b (by rw[h1];exact⟨u,hu,e⟩),rfl⟩⟩
 |que t T xs=>
  obtain⟨cells,h1,h2⟩:=h;refine⟨cells,aX hh hs h1,?_⟩;rw[hρ];exact oa h2 fun b e=>⟨hM b e,rfl⟩
theorem yd{ρ:Nat->Value}{x:cj}{b:Nat}(h:Blk (hdr ρ x) b):Blk (ρ x.1) b:=by
 obtain⟨id,o⟩:=x;cases o with
 |none=>exact h
 |some p=>
  obtain⟨w,i⟩:=p;simp only[hdr] at h;split at h;·rename_i a n c he;simp only[he];simpa [Blk] using h
  ·simp[Blk,undef] at h
theorem CD{H H':Nat->Prop}{w:World}{ρ:Nat->Value}{M M':Nat->Prop}{own:List (Nat×aJ)}{l:List cj}(hown:∀p∈own,cl H w ρ M p){x:cj}{o:aJ}(he:dn own l x=some o){k:Nat}(hk:ioB<=k)(hx:l[k-ioB]? =some x)
  (hh:∀b,b<w.heap.size->H' b->H b) (hM:∀b,Blk (ρ x.1) b->M' b):cl H' w (cE ρ l) M' (k,o):=by
 obtain⟨id,q⟩:=x;have hρ:cE ρ l k=hdr ρ (id,q):=cS hk hx;cases q with
 |none=>
  simp only[dn] at he;split at he;·rename_i o' hg;cases he;exact(hown _ (get?_mem hg)).moved hh (fun x v h=>bb hh (bn.refl _ _) (fun _ _=>rfl) (zD h)) hρ hM
  ·cases he
 |some p=>
  obtain⟨wd,i⟩:=p;simp only[dn] at he;split at he
  ·rename_i t T xs hg;split at he
   ·rename_i hc;obtain⟨hi,rfl⟩:=hc;cases he;obtain⟨cells,h1,h2,h3⟩:=hown _ (get?_mem hg);rcases h3 with⟨_,h3⟩|⟨g,cap,cur,h3,h4,h5,h6,h7,h8,h9⟩;·omega
    ·(have hl:(xs.take i).length=i:=by simp;omega);(have hl2:(xs.drop i).length=xs.length-i:=by simp);(have e:xs.take i++(xs.drop i++ [])=xs:=by simp);refine⟨g,cap-i,cells,cur,by rw[e];exact aX hh (bn.refl _ _) h1,?_,hM g (by simp only[h3];rfl),h5,by omega,by omega,by omega,?_,by simp;omega,by rw[e];exact h9⟩;·rw[hρ,hdr,h3,hl,hl2]
     ·exact Nat.le_trans (Nat.mul_le_mul_right _ (by rw[hl];omega)) h8
   ·cases he
  ·cases he
theorem th{own:List (Nat×aJ)}{l:List cj}:∀{r:List cj} {os:List aJ},jX own l r=some os->os.length=r.length/\∀(j:Nat) (x:cj) (o:aJ),r[j]? =some x->os[j]? =some o->dn own l x=some o
 | [],os,h=>by simp[jX] at h;subst h;exact⟨rfl,fun j x o h=>by simp at h⟩
 |y::r,os,h=>by
  simp only[jX] at h;split at h
  ·rename_i o1 os1 h1 h2;cases h;obtain⟨g1,g2⟩:=th h2;refine⟨by simp[g1],fun j x o hx ho=>?_⟩;cases j with
   |zero=>simp at hx ho;subst hx;subst ho;exact h1
   |succ j=>exact g2 j x o (by simpa using hx) (by simpa using ho)
  ·cases h
theorem eh:∀{os:List aJ} {k:Nat} {p:Nat×aJ},p∈aj k os↔k<=p.1/\os[p.1-k]? =some p.2
 | [],k,p=>by simp[aj]
 |o::os,k,p=>by
  simp only[aj,List.mem_cons];rw[eh];obtain⟨n,q⟩:=p;constructor
  ·(rintro(h|⟨h1,h2⟩);·cases h;simp);·refine⟨by simp only at h1;omega,?_⟩;(have:n-k=(n-(k+1))+1:=by simp only at h1;omega);simp only[this,List.getElem?_cons_succ];exact h2
  ·(rintro⟨h1,h2⟩;by_cases e:n=k;·subst e;simp at h2;exact .inl (by rw[h2]));·right;simp only at h1 h2;refine⟨by simp only;omega,?_⟩;(have:n-k=(n-(k+1))+1:=by omega);rw[this,List.getElem?_cons_succ] at h2;exact h2
theorem iS(R:Nat->Nat->Prop):∀(os:List aJ) (k:Nat),(∀i j,k<=i->i<j->j<k+os.length->R i j)->(aj k os).Pairwise fun p q=>R p.1 q.1
 | [],_,_=> .nil
 |o::os,k,h=>by
  simp only[aj,List.pairwise_cons];refine⟨fun q hq=>?_,iS R os (k+1) fun i j h1 h2 h3=>h i j (by omega) h2 (by simp only[List.length_cons];omega)⟩;obtain⟨h1,h2⟩:=eh.1 hq;have:=(List.getElem?_eq_some_iff.1 h2).1;exact h k q.1 (Nat.le_refl _) (by omega) (by simp only[List.length_cons];omega)
theorem j6:∀{l:List Nat},distinct l=true->l.Nodup
 | [],_=> .nil
 |a::r,h=>by
  simp only[distinct,Bool.and_eq_true,Bool.not_eq_true',List.contains_eq_mem,decide_eq_false_iff_not] at h;exact List.nodup_cons.2 ⟨h.1,j6 h.2⟩
theorem ye{α:Type}:∀(l:List (Nat×α)) (n:Nat) (y:α),(upd l n y).map Prod.fst=l.map Prod.fst
 | [],_,_=>rfl
 |(k,x)::r,n,y=>by
  simp only[upd];split;·rfl
  ·simp[ye r n y]
theorem nN{α:Type}:∀{l:List (Nat×α)} {n:Nat} {y:α} {p:Nat×α},(l.map Prod.fst).Nodup->p∈upd l n y->p=(n,y)∨(p∈l/\p.1≠n)
 |(k,x)::r,n,y,p,hp,h=>by
  rw[List.map_cons,List.nodup_cons] at hp;simp only[upd] at h;split at h
  ·(rename_i e;subst e;rcases List.mem_cons.1 h with rfl|h;·exact .inl rfl);·exact .inr ⟨by simp[h],fun e=>hp.1 (by rw[<- e];exact List.mem_map.2 ⟨p,h,rfl⟩)⟩
  ·rename_i e;rcases List.mem_cons.1 h with rfl|h;·exact .inr ⟨by simp,e⟩
   ·(rcases nN hp.2 h with h1|⟨h1,h2⟩;·exact .inl h1);·exact .inr ⟨by simp[h1],h2⟩
theorem ti{L:List cj}:∀{r:List cj} {os:List aJ} {own own':List (Nat×aJ)} {C:Prop},gu L r os own=some (C,own')->C->(own.map Prod.fst).Nodup->(r.map Prod.fst).Nodup->
  own'.map Prod.fst=own.map Prod.fst/\∀p∈own',(p∈own/\p.1∉r.map Prod.fst)∨∃(j:Nat) (x:cj) (o o':aJ) (C':Prop),r[j]? =some x/\os[j]? =some o/\jY L x o=some (C',o')/\C'/\p=(x.1,o')
 | [],[],own,own',C,h,_,_,_=>by simp[gu] at h;obtain⟨_,rfl⟩:=h;exact⟨rfl,fun p hp=> .inl ⟨hp,by simp⟩⟩
 | [],_::_,_,_,_,h,_,_,_=>by simp[gu] at h
 |_::_,[],_,_,_,h,_,_,_=>by simp[gu] at h
 |x::r,o::os,own,own',C,h,hC,hn,hd=>by
  simp only[gu] at h;split at h
  ·rename_i C1 o1 h1;split at h
   ·rename_i C2 own2 h2;cases h;rw[List.map_cons,List.nodup_cons] at hd;(have hn':((upd own x.1 o1).map Prod.fst).Nodup:=by rw[ye];exact hn);obtain⟨g1,g2⟩:=ti h2 hC.2 hn' hd.2;refine⟨by rw[g1,ye],fun p hp=>?_⟩;rcases g2 p hp with⟨h3,h4⟩|⟨j,x',o',o'',C',h3,h4,h5,h6,h7⟩
    ·(rcases nN hn h3 with rfl|⟨h5,h6⟩;·exact .inr ⟨0,x,o,o1,C1,by simp,by simp,h1,hC.1,rfl⟩);·exact .inl ⟨h5,by simp only[List.map_cons,List.mem_cons,not_or];exact⟨h6,h4⟩⟩
    ·exact .inr ⟨j+1,x',o',o'',C',by simpa using h3,by simpa using h4,h5,h6,h7⟩
   ·cases h
  ·cases h
theorem CE{H H':Nat->Prop}{w w':World}{ρ:Nat->Value}{M M':Nat->Prop}{own:List (Nat×aJ)}{l:List cj}{G:Nat->Prop}(hown:∀p∈own,cl G w ρ M p){x:cj}{o0 o o':aJ}{C:Prop}(hl:dn own l x=some o0)(he:jY l x o=some (C,o'))(hC:C){k:Nat}(hk:ioB<=k)(hx:l[k-ioB]? =some x)
  {ρ2:Nat->Value} (hρx:x.2.isSome=true->ρ2 x.1=ρ x.1) (hMM:∀b,M' b->M b) (hh:∀b,b<w'.heap.size->H' b->H b) (h:cl H w' (cE ρ2 l) M' (k,o)):cl H' w' ρ2 M (x.1,o'):=by
 have hρ:cE ρ2 l k=hdr ρ2 x:=cS hk hx;obtain⟨id,q⟩:=x;cases q with
 |none=>
  simp only[jY] at he;cases he;simp only[dn] at hl;split at hl;·exact h.moved hh (fun x v h=>bb hh (bn.refl _ _) (fun _ _=>rfl) (IE h)) hρ.symm (fun b hb=>hMM b (h.lt hb).1)
  ·cases hl
 |some p=>
  obtain⟨wd,i⟩:=p;simp only[dn] at hl;split at hl
  ·rename_i t0 T0 xs0 hg;split at hl
   ·rename_i hc;obtain⟨hi,rfl⟩:=hc;cases hl;unfold jY at he;split at he;·rename_i hq;cases hq
    ·rename_i w1 i1 t T pre xs post hq;cases hq;cases he;obtain⟨c1,c2,c3⟩:=hC;subst c3;obtain⟨g,cap,cells,cur,r1,r2,r3,r4,r5,r6,r7,r8,r9,r10⟩:=h;obtain⟨cells0,_,_,h3⟩:=hown _ (get?_mem hg);rw[<- hρx rfl] at h3;rcases h3 with⟨_,h3⟩|⟨g0,cap0,cur0,h3,h4,h5,h6,h7,h8,h9⟩;·omega
     ·(rw[hρ,hdr,h3] at r2;simp at r2;obtain⟨⟨rfl,q2⟩,q3,q4⟩:=r2;(have hlen:(pre++xs).length=xs0.length:=by simp;omega);(have e:pre++(xs++ [])=pre++xs:=by simp);rw[e] at r1 r10;refine⟨cells,aX hh (bn.refl _ _) r1,?_,.inr ⟨g0,cap0,cur,?_,h4,r4,by omega,h7,?_,r10⟩⟩;·exact bL (fun c x h=>t.rep_length h) r1);·simp only[h3,hlen]
      ·exact Nat.le_trans (Nat.mul_le_mul_right _ (by omega)) r8
    ·cases he
   ·cases hl
  ·cases hl
theorem zE{X:Cx}{s:aa}{a:Act}{w:World}{ρ:Nat->Value}(h:Fits X s a w ρ){f:Operand}{g:FuncId}{caps:List LV}(he:eX s f=some (g,caps)):
  ∃vs:List Value,a.eval f= .func (.func g) #[] vs.toArray/\bC (aV (hot X.O ρ s.own) w ρ) caps vs:=by
 unfold eX at he;split at he
 ·rename_i g' first caps' hx
  split at he;·rename_i hc;cases he;have hv:a.eval f=_:=cg h hx;(have e1:first= #[]:=Array.eq_empty_of_size_eq_zero hc.1);have e2:caps'= #[]:=Array.eq_empty_of_size_eq_zero hc.2;exact⟨[],by rw[hv,e1,e2],trivial⟩
  ·cases he
 ·rename_i g' caps' hx;cases he;obtain⟨vs,hv,hc⟩:aV (hot X.O ρ s.own) w ρ (.fn g caps') (a.eval f):=cg h hx;refine⟨vs,hv,?_⟩;clear hv hx;induction caps' generalizing vs with
  |nil=>cases vs with
   |nil=>trivial
   |cons _ _=>exact hc.elim
  |cons c cs ih=>cases vs with
   |nil=>exact hc.elim
   |cons v vs=>
    refine⟨?_,ih vs hc.2⟩;have h1:=hc.1;cases c with
    |z t y=>exact h1
    |p id=>exact h1
 ·cases he
theorem k9{own:List (Nat×aJ)}{l:List cj}{os:List aJ}(h:∀(j:Nat) (x:cj) (o:aJ),l[j]? =some x->os[j]? =some o->dn own l x=some o)(hl:os.length=l.length){j:Nat}(hj:j<l.length):∃h':j<os.length,dn own l l[j]=some os[j]:=
 ⟨by omega,h j _ _ (List.getElem?_eq_getElem hj) (List.getElem?_eq_getElem (by omega))⟩
theorem IF{ρ:Nat->Value}{own:List (Nat×aJ)}(h:oS ρ own){p q:Nat×aJ}(hp:p∈own)(hq:q∈own)(hne:p.1≠q.1){b:Nat}(hb:Blk (ρ p.1) b):¬Blk (ρ q.1) b:=by
 unfold oS at h;induction own with
 |nil=>cases hp
 |cons x l ih=>
  rw[List.pairwise_cons] at h;rcases List.mem_cons.1 hp with e2|h4<;>rcases List.mem_cons.1 hq with e3|h5
  ·exact absurd (by rw[e2,e3]) hne
  ·rw[e2] at hb;exact(h.1 _ h5).2 b hb
  ·intro e;rw[e3] at e;exact(h.1 _ h4).2 b e hb
  ·exact ih h.2 h4 h5
theorem tj{X:Cx}(hC:ig X.P X.T){s s':aa}{a:Act}{w:World}(h:St X s a w){o:Oper}{d:Option Nat}{c:Call}{f:Operand}(hcal:c.callee= .value f)(hop:o.op= .call c)(hd:o.dst=d)(hdN:∀n,d=some n->X.T.ok n=true){C:Prop}(he:callOp X.T s d f c.args.toList c.argTypes.toList=some (C,s'))(hCC:C)
  {K:Act->World->Prop} {Q:Exit->Act->World->Prop} (hK:∀a' w',St X s' a' w'->K a' w'):o.wpIn (fw X.r) 2 X.P a w K Q:=by
 obtain⟨callee,⟨args⟩,⟨types⟩⟩:=c;simp only at hcal he;subst hcal;unfold callOp at he;obtain⟨ρ,hf⟩:=h.fits;split at he;case h_2=>cases he
 rename_i g caps hg;split at he;case h_2=>cases he
 rename_i con hcon;split at he;case h_2=>cases he
 rename_i vs s1 hvs;simp only[] at he;generalize hl:sN s1 (vs++caps)=l at he;generalize hfr:(get? X.T.frees g).getD []=fr at he;split at he;case isFalse=>cases he
 rename_i hdist;split at he;case isFalse=>cases he
 rename_i hex;split at he;case h_2=>cases he
 rename_i os hos;split at he;case h_2=>cases he
 rename_i C1 rs os' hrs;split at he;case h_2=>cases he
 rename_i C2 own' hown';obtain⟨cvals,hcv1,hcv2⟩:=zE hf hg;obtain⟨g1,g2,g3⟩:=ri h.others _ args types 0 hf hvs;obtain⟨fn,hfn,hname,hbody⟩:=hC.bodyAt hcon;have hcv3:bC (aV (hot X.O ρ s1.own) w ρ) caps cvals:=hcv2.imp (fun x v _ hx=>bb (fun b _ hb=>g2 b hb) (bn.refl _ _) (fun _ _=>rfl) hx);have hvals:=(g3.append hcv3).map_left (R':=aV (hot X.O ρ s1.own) w (cE ρ l)) (f:=LV.ren l) (fun x v hx=>zD hx);obtain⟨hlen,hlend⟩:=th hos;have hnd:=j6 hdist;have hblk:∀p∈aj ioB os,∃x o,l[p.1-ioB]? =some x/\ioB<=p.1/\dn s1.own l x=some o/\o=p.2/\cE ρ l p.1=hdr ρ x:=by
  intro p hp;obtain⟨h1,h2⟩:=eh.1 hp;have h3:=(List.getElem?_eq_some_iff.1 h2).1;have h4:p.1-ioB<l.length:=by omega
  refine⟨l[p.1-ioB],p.2,List.getElem?_eq_getElem h4,h1,hlend _ _ _ (List.getElem?_eq_getElem h4) h2,rfl,?_⟩;exact cS h1 (List.getElem?_eq_getElem h4)
 have hlent_own:∀{x:cj} {o:aJ},dn s1.own l x=some o->∃q,(x.1,q)∈s1.own:=by
  intro x o hx;obtain⟨id,q⟩:=x;cases q with
  |none=>
   (simp only[dn] at hx;split at hx;·rename_i o' ho';exact⟨o',get?_mem ho'⟩);·cases hx
  |some p=>
   (obtain⟨wd,i⟩:=p;simp only[dn] at hx;split at hx;·rename_i t T xs ho';exact⟨_,get?_mem ho'⟩);·cases hx
 have hlb:∀b,bw (cE ρ l) os b->∃(x:cj) (q:aJ),(x.1,q)∈s1.own/\x∈l/\Blk (ρ x.1) b:=by
  rintro b ⟨p,hp,hb⟩;obtain⟨x,o',h1,h2,h3,h4,h5⟩:=hblk p hp;obtain⟨q,hq⟩:=hlent_own h3;rw[h5] at hb;exact⟨x,q,hq,List.mem_of_getElem? h1,yd hb⟩
 have hlb_hot:∀b,bw (cE ρ l) os b->hot X.O ρ s1.own b:=fun b hb=>by
  obtain⟨x,q,h1,_,h2⟩:=hlb b hb;exact dH h1 h2
 have hlb_M:∀b,bw (cE ρ l) os b->X.M b:=fun b hb=>by
  obtain⟨x,q,h1,_,h2⟩:=hlb b hb;exact((g1.own _ h1).lt h2).1
 have hot_lt:∀b,hot X.O ρ s1.own b->b<w.heap.size:=fun b hb=>g1.hot_lt h.others h.below hb;have hlb_B:∀b,bw (cE ρ l) os b->X.T.base.n<=b:=fun b hb=>(hlb_M b hb).elim (fun h1=>Nat.le_trans h.small.on.1 h1) (fun h1=>h.small.io b h1);let O':Nat->Prop:=fun b=>hot X.O ρ s1.own b/\ ¬bw (cE ρ l) os b;have hOsub:∀b,hot O' (cE ρ l) (aj ioB os) b->hot X.O ρ s1.own b:=by
  rintro b (hb|⟨p,hp,hb⟩);·exact hb.1
  ·exact hlb_hot b ⟨p,hp,hb⟩
 have hOsup:∀b,hot X.O ρ s1.own b->hot O' (cE ρ l) (aj ioB os) b:=by
  intro b hb;by_cases hlbb:bw (cE ρ l) os b;·exact .inr hlbb
  ·exact .inl ⟨hb,hlbb⟩
 have hownok:∀p∈aj ioB os,cl (hot O' (cE ρ l) (aj ioB os)) w (cE ρ l) (bw (cE ρ l) os) p:=by
  intro p hp;obtain⟨x,o',h1,h2,h3,h4,h5⟩:=hblk p hp;subst h4;refine CD g1.own h3 h2 h1 (fun b _ hb=>hOsub b hb) (fun b hb=>⟨p,hp,?_⟩);rw[h5];obtain⟨id,q⟩:=x;cases q with
  |none=>exact hb
  |some pr=>
   obtain⟨wd,i⟩:=pr;simp only[hdr];simp only at hb;cases hv:ρ id with
   |slice ad n c=>cases ad with
    |none=>rw[hv] at hb;simp[Blk] at hb
    |some ad=>rw[hv] at hb;simpa [Blk] using hb
   |_=>
    (simp only[dn] at h3;split at h3;·rename_i t T xs hgx;obtain⟨_,_,_,h6⟩:=g1.own _ (get?_mem hgx);rcases h6 with⟨h6,_⟩|⟨_,_,_,h6,_⟩<;> · have h7:ρ id=_:=h6;rw[hv] at h7;cases h7);·cases h3
 have hapio:oS (cE ρ l) (aj ioB os):=by
  have hap:=iS (fun i j=>i≠j/\∀b,Blk (cE ρ l i) b-> ¬Blk (cE ρ l j) b) os ioB (fun i j h1 h2 h3=>by
   refine⟨by omega,fun b hb hjb=>?_⟩;obtain⟨ni,hni⟩:∃n,i-ioB=n:=⟨_,rfl⟩;obtain⟨nj,hnj⟩:∃n,j-ioB=n:=⟨_,rfl⟩;(have hi:ni<l.length:=by omega);(have hj:nj<l.length:=by omega);have ei:=k9 hlend hlen hi;have ej:=k9 hlend hlen hj;obtain⟨qi,hqi⟩:=hlent_own ei.2;obtain⟨qj,hqj⟩:=hlent_own ej.2;rw[cS (ρ:=ρ) (l:=l) (x:=l[ni]) h1 (by rw[hni];exact List.getElem?_eq_getElem hi)] at hb;rw[cS (ρ:=ρ) (l:=l) (x:=l[nj]) (by omega) (by rw[hnj];exact List.getElem?_eq_getElem hj)] at hjb;have hne:(l[ni]).1≠(l[nj]).1:=by
    intro e;(have e1:(l.map Prod.fst)[ni]'(by simpa using hi)=(l.map Prod.fst)[nj]'(by simpa using hj):=by simpa using e);have:=(List.getElem_inj hnd).1 e1;omega
   exact g1.two (p:=((l[ni]).1,qi)) (q:=((l[nj]).1,qj)) hqi hqj hne (yd hb) (yd hjb))
  exact hap
 have hc1:C1:=by
  split at he
  ·(split at he;·cases he;exact hCC.1);·cases he
  ·(split at he;·cases he;exact hCC.1);·cases he
 have hc2:C2:=by
  split at he
  ·(split at he;·cases he;exact hCC.2);·cases he
  ·(split at he;·cases he;exact hCC.2);·cases he
 have hv:=hC.at hcon;rw[hfr] at hv;have hv:=hv _ os C1 rs os' hrs hc1 O' w ((args.map a.eval)++cvals).toArray (cE ρ l) h.on hlb_B (fun b hb=>hot_lt b hb.1) (fun b hb=>hb.2) (hvals.imp (fun x v _ hx=>bb (fun b _ hb=>hOsub b hb) (bn.refl _ _) (fun _ _=>rfl) hx)) hownok hapio;have hexec:(execOp a.eval o).run X.P w= .ok (.enter g ((args.map a.eval)++cvals).toArray) w:=by
  unfold execOp;rw[hop];have hn:¬fn.name= "runtime.NumGoroutine":=by simpa using hname
  have hbn:¬fn.body=none:=by intro e;rw[e] at hbody;cases hbody
  simp[resolve,hcv1,Deferred.ofValue,invoke,callFunc,hfn,hn,hbn]
 refine zt hexec (hv.mono ?_);rintro e w' ⟨rvs,ρ1,rfl,hlen',hb,hρ1,hr,hap,hio,hap1,hdis⟩;refine⟨_,rfl,?_⟩;have hko:KeepsOthers w w':=KeepsOthers.of_bel hb (fun b hlt hm=>by
  rcases hm with hm|⟨p,hp,hpb⟩;·omega
  ·exact(hownok p hp).cells hpb)
 have hexk:∀k x,fr.contains k=true->l[k]? =some x->∃id,l[k]? =some (id,none)/\X.T.mayMove id=true:=by
  intro k x hk hx;have:=List.all_eq_true.1 hex k (by simpa using hk);split at this;·rename_i id he';exact⟨id,he',this⟩
  ·rename_i he';rw[hx] at he';cases he'
  ·cases this
 have hexm:∀{fr:List Nat} {id:Nat},id∈lT l fr->∃k x,fr.contains k=true/\l[k]? =some x/\x.1=id:=by
  intro fr;induction fr with
  |nil=>intro id h;simp[lT] at h
  |cons k fr ih=>
   intro id h;simp only[lT] at h;split at h
   ·(rename_i id' o' hk;rcases List.mem_cons.1 h with rfl|h;·exact⟨k,_,by simp,hk,rfl⟩);·obtain⟨k',x,h1,h2,h3⟩:=ih h;exact⟨k',x,by simp only[List.contains_cons,h1,Bool.or_true],h2,h3⟩
   ·obtain⟨k',x,h1,h2,h3⟩:=ih h;exact⟨k',x,by simp only[List.contains_cons,h1,Bool.or_true],h2,h3⟩
 have hmex:∀{fr:List Nat} {k:Nat} {x:cj},fr.contains k=true->l[k]? =some x->x.1∈lT l fr:=by
  intro fr;induction fr with
  |nil=>intro k x h;simp at h
  |cons k0 fr ih=>
   intro k x h hx;simp only[List.contains_cons,Bool.or_eq_true,beq_iff_eq] at h;simp only[lT];rcases h with rfl|h;·rw[hx];simp
   ·(split;·exact List.mem_cons_of_mem _ (ih h hx));·exact ih h hx
 have huniq:∀{i j:Nat} {x y:cj},l[i]? =some x->l[j]? =some y->x.1=y.1->i=j:=by
  intro i j x y hi hj e;obtain⟨hi1,rfl⟩:=List.getElem?_eq_some_iff.1 hi;obtain⟨hj1,rfl⟩:=List.getElem?_eq_some_iff.1 hj;have e1:(l.map Prod.fst)[i]'(by simpa using hi1)=(l.map Prod.fst)[j]'(by simpa using hj1):=by simpa using e
  exact(List.getElem_inj hnd).1 e1
 obtain⟨ex,hexd⟩:∃ex,lT l fr=ex:=⟨_,rfl⟩;rw[hexd] at hown' he;obtain⟨ρ2,hρ2a,hρ2b⟩:∃ ρ2:Nat->Value,(∀i,i∉ex->ρ2 i=ρ i)/\∀j id,fr.contains j=true->l[j]? =some (id,none)->ρ2 id=ρ1 (ioB+j):=by
  refine⟨fun i=>if i∈ex then (match fP l ioB (i,none) with|some k=>ρ1 k|none=>ρ i) else ρ i,fun i hi=>by simp[hi],fun j id hj hid=>?_⟩;have hin:id∈ex:=by rw[<- hexd];exact hmex hj hid
  have hat:fP l ioB (id,none)=some (ioB+j):=by
   have key:∀(m:List cj) (b j:Nat),(∀i y,m[i]? =some y->y.1=id->i=j)->m[j]? =some (id,none)->fP m b (id,none)=some (b+j):=by
    intro m;induction m with
    |nil=>intro b j _ h;simp at h
    |cons y m ih=>
     intro b j hu hj;simp only[fP];by_cases e:y=(id,none);·rw[if_pos e];have:=hu 0 y rfl (by rw[e]);rw[<- this];rfl
     ·rw[if_neg e];cases j with
      |zero=>simp at hj;exact absurd hj e
      |succ j=>
       rw[ih (b+1) j (fun i z hi hz=>by have:=hu (i+1) z (by simpa using hi) hz;omega) (by simpa using hj)];congr 1;omega
   exact key l ioB j (fun i y hi hy=>huniq hi hid hy) hid
  simp[hin,hat]
 have hnotex:∀{j:Nat} {x:cj},l[j]? =some x->fr.contains j=false->x.1∉ex:=by
  intro j x hj hf he';rw[<- hexd] at he';obtain⟨k,y,h1,h2,h3⟩:=hexm he';have:=huniq h2 hj h3;subst this;rw[h1] at hf;cases hf
 have hhdr:∀{x:cj},x.1∉ex->hdr ρ2 x=hdr ρ x:=by
  intro x hx;obtain⟨id,q⟩:=x;cases q with
  |none=>exact hρ2a id hx
  |some p=>simp only[hdr,hρ2a id hx]
 have hA:∀(j:Nat) (x:cj),l[j]? =some x->hdr ρ2 x=ρ1 (ioB+j):=by
  intro j x hj;cases hf:fr.contains j with
  |true=>
   obtain⟨id,h1,_⟩:=hexk j x hf hj;rw[hj] at h1;cases h1;exact hρ2b j id hf hj
  |false=>
   rw[hhdr (hnotex hj hf),hρ1 (ioB+j) (by rintro⟨_,_,h2⟩;rw[Nat.add_sub_cancel_left] at h2;rw[h2] at hf;cases hf)];exact(cS (by omega) (by rw[Nat.add_sub_cancel_left];exact hj)).symm
 have hρe:ρ1=cE ρ2 l:=by
  funext k;by_cases hk:ioB<=k
  ·cases hx:l[k-ioB]? with
   |none=>
    have h0:=List.getElem?_eq_none_iff.1 hx;rw[hρ1 k (by rintro⟨_,h2,_⟩;omega)];simp only[cE,if_pos hk,hx]
   |some x=>
    have:=hA _ x hx;rw[show ioB+(k-ioB)=k by omega] at this;rw[cS hk hx,this]
  ·rw[hρ1 k (fun h=>hk h.1)];simp only[cE,if_neg hk]
 subst hρe;have hnd1:(s1.own.map Prod.fst).Nodup:=by
  have:=g1.apart.imp (S:=fun p q:Nat×aJ=>p.1≠q.1) (fun hpq=>hpq.1);exact List.pairwise_map.2 this
 have hforget:∃s2:aa,s1.forget ex=s2/\s2.own.map Prod.fst=s1.own.map Prod.fst/\(∀e∈s2.env,∃v,(e.1,v)∈s1.env/\e.2=v.map (LV.forget ex))/\∀p∈s2.own,∃u,(p.1,u)∈s1.own/\p.2=u.map (LV.forget ex):=by
  have hfst:∀(f:LV->LV) (m:List (Nat×aJ)),(bu f m).map Prod.fst=m.map Prod.fst:=by
   intro f m;induction m with
   |nil=>rfl
   |cons p m ih=>obtain⟨k,v⟩:=p;simp only[bu,List.map_cons,ih]
  cases hx:ex with
  |nil=>
   (have hid:LV.forget ([]:List Nat)=_root_.id:=by funext x;simp[LV.forget]);refine⟨s1,rfl,rfl,fun e he=>⟨e.2,he,?_⟩,fun p hp=>⟨p.2,hp,?_⟩⟩;·rw[hid];cases e.2<;>simp[AV.map]
   ·rw[hid];cases p.2<;>simp[aJ.map]
  |cons i r=>
   exact⟨_,rfl,hfst _ _,fun e he=>jC he,fun p hp=>bq hp⟩
 obtain⟨s2,hs2,hs2f,hs2e,hs2o⟩:=hforget;rw[hs2] at hown' he;obtain⟨hfst,hmem⟩:=ti hown' hc2 (by rw[hs2f];exact hnd1) hnd;rw[hs2f] at hfst;have hnewR:∀b,cX (fun _=>False) rs rvs b->w.heap.size<=b∨bw (cE ρ l) os b:=fun b hb=>qk rs rvs hr hb;have hwin:∀{x:cj} {o:aJ} {b:Nat},dn s1.own l x=some o->x.2.isSome=true->Blk (ρ x.1) b->Blk (hdr ρ x) b:=by
  intro x o b hx hs hb;obtain⟨id,q⟩:=x;cases q with
  |none=>cases hs
  |some pr=>
   obtain⟨wd,i⟩:=pr;simp only[hdr];simp only at hb;cases hv:ρ id with
   |slice ad n c=>cases ad with
    |none=>rw[hv] at hb;simp[Blk] at hb
    |some ad=>rw[hv] at hb;simpa [Blk] using hb
   |_=>
    (simp only[dn] at hx;split at hx;·rename_i t T xs hgx;obtain⟨_,_,_,h6⟩:=g1.own _ (get?_mem hgx);rcases h6 with⟨h6,_⟩|⟨_,_,_,h6,_⟩<;> · have h7:ρ id=_:=h6;rw[hv] at h7;cases h7);·cases hx
 have hlentB:∀{j:Nat} {x:cj} {b:Nat},l[j]? =some x->Blk (ρ2 x.1) b->Blk (cE ρ2 l (ioB+j)) b:=by
  intro j x b hj hb;rw[<- hA j x hj];have hjl:=(List.getElem?_eq_some_iff.1 hj).1;have hx:=k9 hlend hlen hjl;have ex':l[j]=x:=(List.getElem?_eq_some_iff.1 hj).2;rw[ex'] at hx;obtain⟨id,q⟩:=x;cases q with
  |none=>exact hb
  |some p=>
   have hne:id∉ex:=hnotex hj (by
    cases h:fr.contains j with
    |false=>rfl
    |true=>obtain⟨_,h1,_⟩:=hexk j _ h hj;rw[hj] at h1;cases h1)
   rw[hhdr hne];rw[hρ2a id hne] at hb;exact hwin hx.2 rfl hb
 have hosj:∀{j:Nat} {x:cj},l[j]? =some x->∃o,(ioB+j,o)∈aj ioB os':=by
  intro j x hj;have hjl:=(List.getElem?_eq_some_iff.1 hj).1;exact⟨os'[j]'(by omega),eh.2 ⟨by simp,by simp⟩⟩
 have hlentB':∀{j:Nat} {x:cj} {b:Nat},l[j]? =some x->Blk (ρ2 x.1) b->bw (cE ρ2 l) os' b:=by
  intro j x b hj hb;obtain⟨o,ho⟩:=hosj hj;exact⟨_,ho,hlentB hj hb⟩
 have hlentM:∀{b:Nat},bw (cE ρ2 l) os' b->(w.heap.size<=b∨bw (cE ρ l) os b)/\b<w'.heap.size:=by
  rintro b ⟨p,hp,hpb⟩;exact(hio p hp).lt hpb
 have hcase:∀k,k∈s1.own.map Prod.fst->(∃(j:Nat) (x:cj),l[j]? =some x/\x.1=k)∨(k∉l.map Prod.fst/\k∉ex):=by
  intro k _;by_cases hk:k∈l.map Prod.fst;·obtain⟨x,hx,e⟩:=List.mem_map.1 hk;obtain⟨j,hj,rfl⟩:=List.mem_iff_getElem.1 hx;exact .inl ⟨j,_,List.getElem?_eq_getElem hj,e⟩
  ·refine .inr ⟨hk,fun he'=>hk ?_⟩;rw[<- hexd] at he';obtain⟨j,x,_,h2,h3⟩:=hexm he';exact List.mem_map.2 ⟨x,List.mem_of_getElem? h2,h3⟩
 have hfree:∀{p:Nat×aJ} {b:Nat},p∈s1.own->p.1∉l.map Prod.fst->Blk (ρ p.1) b-> ¬bw (cE ρ l) os b:=by
  intro p b hp hpl hb h3;obtain⟨x,q,hq1,hq2,hq3⟩:=hlb b h3;exact g1.two (p:=p) (q:=(x.1,q)) hp hq1 (fun e=>hpl (by rw[e];exact List.mem_map.2 ⟨x,hq2,rfl⟩)) hb hq3
 have hownkey:∀p∈own',∃q,(p.1,q)∈s1.own:=by
  intro p hp;have:p.1∈s1.own.map Prod.fst:=by rw[<- hfst];exact List.mem_map.2 ⟨p,hp,rfl⟩
  obtain⟨q,hq,e⟩:=List.mem_map.1 this;exact⟨q.2,by rw[<- e];exact hq⟩
 have hHsub:∀b,b<w'.heap.size->hot (fun b=>X.O b∨cX (fun _=>False) rs rvs b) ρ2 own' b->cX (hot O' (cE ρ2 l) (aj ioB os')) rs rvs b:=by
  intro b _ hb;rw[e8];rcases hb with(hb|hb)|⟨p,hp,hpb⟩;·exact .inl (.inl ⟨.inl hb,fun hl=>h.others b hb (hlb_M b hl)⟩)
  ·exact .inr hb
  ·(obtain⟨q,hq⟩:=hownkey p hp;rcases hcase p.1 (List.mem_map.2 ⟨_,hq,rfl⟩) with⟨j,x,hj,e⟩|⟨h1,h2⟩;·rw[<- e] at hpb;exact .inl (.inr (hlentB' hj hpb)));·rw[hρ2a _ h2] at hpb;exact .inl (.inl ⟨dH hq hpb,hfree hq h1 hpb⟩)
 have hsubw:∀b,b<w.heap.size->hot (fun b=>X.O b∨cX (fun _=>False) rs rvs b) ρ2 own' b->hot X.O ρ s1.own b:=by
  intro b hbw hb;rcases hb with(hb|hb)|⟨p,hp,hpb⟩;·exact .inl hb
  ·exact(hnewR b hb).elim (fun h1=>by omega) (hlb_hot b)
  ·obtain⟨q,hq⟩:=hownkey p hp;rcases hcase p.1 (List.mem_map.2 ⟨_,hq,rfl⟩) with⟨j,x,hj,e⟩|⟨h1,h2⟩
   ·(rw[<- e] at hpb;rcases (hlentM (hlentB' hj hpb)).1 with h3|h3;·omega);·exact hlb_hot b h3
   ·rw[hρ2a _ h2] at hpb;exact dH hq hpb
 have hstay:bn (hot X.O ρ s1.own) w w':=fun b hnb hlt=>hb.block b (dk hlt) (fun hm=>hm.elim (fun h1=>by have:=dk hlt;omega) (fun h1=>hnb (hlb_hot b h1)));have hrepf:∀x v,aV (hot X.O ρ s1.own) w ρ x v->aV (hot (fun b=>X.O b∨cX (fun _=>False) rs rvs b) ρ2 own') w' ρ2 (LV.forget ex x) v:=by
  intro x v hx;unfold LV.forget;split;·trivial
  ·rename_i hno;refine bb hsubw hstay (fun i hi=>hρ2a i (fun he'=>hno ?_)) hx;exact List.any_eq_true.2 ⟨i,he',hi⟩
 have hMx:∀b,(w.heap.size<=b∨bw (cE ρ l) os b)->X.M b:=fun b hm=>hm.elim (fun h1=> .inl (Nat.le_trans h.below.size h1)) (hlb_M b);have hfit:Fits {X with O:=fun b=>X.O b∨cX (fun _=>False) rs rvs b} {s2 with own:=own'} a w' ρ2:=by
  refine⟨fun e he=>?_,fun p hp=>?_,fun p hp hB hF=>?_,?_⟩;·obtain⟨v,h1,h2⟩:=hs2e e he;rw[h2];exact gx hrepf (g1.env _ h1)
  ·rcases hmem p hp with⟨h1,h2⟩|⟨j,x,o1,o2,C',h1,h2,h3,h4,rfl⟩
   ·obtain⟨u,hu,e⟩:=hs2o p h1;have hpe:p.1∉ex:=fun he'=>by
     rw[<- hexd] at he';obtain⟨j,x,_,q2,q3⟩:=hexm he';exact h2 (List.mem_map.2 ⟨x,List.mem_of_getElem? q2,q3⟩)
    have:=(g1.own _ hu).move (f:=LV.forget ex) (ρ':=ρ2) hsubw hstay hrepf (hρ2a _ hpe) (fun b hb1=>hb.block b ((g1.own _ hu).lt hb1).2 (fun hm=>hm.elim (fun h3=>by have:=((g1.own _ hu).lt hb1).2;omega) (hfree hu h2 hb1)));rw[<- e] at this;exact this
   ·have hj:=(List.getElem?_eq_some_iff.1 h1).1;have hx:=k9 hlend hlen hj;(have ex':l[j]=x:=by have:=(List.getElem?_eq_some_iff.1 h1).2;exact this);rw[ex'] at hx;(have hk:(ioB+j)-ioB=j:=by omega);have hio1:=hio (ioB+j,o1) (eh.2 ⟨by simp,by simpa [hk] using h2⟩);refine CE g1.own hx.2 h3 h4 (k:=ioB+j) (by omega) (by rw[hk];exact h1) (fun hs=>hρ2a _ (hnotex h1 ?_)) hMx hHsub hio1;cases hf:fr.contains j with
    |false=>rfl
    |true=>obtain⟨_,q1,_⟩:=hexk j _ hf h1;rw[h1] at q1;cases q1;cases hs
  ·obtain⟨q,hq⟩:=hownkey p hp;have hpe:p.1∉ex:=fun he'=>by
    (rw[<- hexd] at he';obtain⟨j,x,q1,q2,q3⟩:=hexm he';obtain⟨id,q4,q5⟩:=hexk j _ q1 q2;rw[q2] at q4;cases q4;simp only at q3;subst q3;simp only[Tab.mayMove,Bool.or_eq_true,decide_eq_true_eq] at q5;rcases q5 with q5|q5;·omega);·rw[hF] at q5;cases q5
   rw[hρ2a _ hpe];exact g1.io (p.1,q) hq hB hF
  ·have hpw:own'.Pairwise fun p q=>p.1≠q.1:=by
    (have:(own'.map Prod.fst).Nodup:=by rw[hfst];exact hnd1);exact List.pairwise_map.1 this
   (refine hpw.imp_of_mem fun {p q} hp hq hne=>⟨hne,fun b hpb hqb=>?_⟩;obtain⟨u,hu⟩:=hownkey p hp;obtain⟨v,hv'⟩:=hownkey q hq;rcases hcase p.1 (List.mem_map.2 ⟨_,hu,rfl⟩) with⟨j,x,hj,e⟩|⟨h1,h2⟩<;>rcases hcase q.1 (List.mem_map.2 ⟨_,hv',rfl⟩) with⟨j',x',hj',e'⟩|⟨h1',h2'⟩);·rw[<- e] at hpb;rw[<- e'] at hqb;(have hjj:j≠j':=fun ej=>by subst ej;rw[hj] at hj';cases hj';exact hne (e.symm.trans e'));obtain⟨o1,ho1⟩:=hosj hj;obtain⟨o2,ho2⟩:=hosj hj';exact IF hap1 ho1 ho2 (by simp only;omega) (hlentB hj hpb) (hlentB hj' hqb)
   ·(rw[<- e] at hpb;rw[hρ2a _ h2'] at hqb;rcases (hlentM (hlentB' hj hpb)).1 with h3|h3;·have:=((g1.own _ hv').lt hqb).2;omega);·exact hfree hv' h1' hqb h3
   ·(rw[hρ2a _ h2] at hpb;rw[<- e'] at hqb;rcases (hlentM (hlentB' hj' hqb)).1 with h3|h3;·have:=((g1.own _ hu).lt hpb).2;omega);·exact hfree hu h1 hpb h3
   ·rw[hρ2a _ h2] at hpb;rw[hρ2a _ h2'] at hqb;exact g1.two (p:=(p.1,u)) (q:=(q.1,v)) hu hv' hne hpb hqb
 have hbel:Bel X.M X.w0 w':=h.below.trans hb (fun j hj hm=>by
  rcases hm with hm|hm;·have:=h.below.size;omega
  ·exact hlb_M j hm)
 have hRdis:∀b,hot X.O ρ2 own' b-> ¬cX (fun _=>False) rs rvs b:=by
  rintro b (hb1|⟨p,hp,hpb⟩) hbr
  ·(rcases hnewR b hbr with h1|h1;·have:=hot_lt b (.inl hb1);omega);·exact h.others b hb1 (hlb_M b h1)
  ·obtain⟨q,hq⟩:=hownkey p hp;rcases hcase p.1 (List.mem_map.2 ⟨_,hq,rfl⟩) with⟨j,x,hj,e⟩|⟨h1,h2⟩;·rw[<- e] at hpb;exact hdis b (hlentB' hj hpb) hbr
   ·(rw[hρ2a _ h2] at hpb;rcases hnewR b hbr with h3|h3;·have:=hot_lt b (dH hq hpb);omega);·exact hfree hq h1 hpb h3
 split at he
 ·rename_i d;split at he
  ·(rename_i hidB;cases he;refine hK _ _ ?_;rw[hd];refine CB h hko hbel hfit (B:=fun b=>w.heap.size<=b∨bw (cE ρ l) os b) hRdis hMx (hdN d rfl) hidB (hr.imp fun r v _ hrv=>zB (fun b hb hh=>?_) hrv) hap;refine hHsub b hb ?_;rw[e8] at hh;rcases hh with(hh|hh)|hh;·exact .inl (.inl hh));·exact .inr hh
   ·exact .inl (.inr hh)
  ·cases he
 ·split at he
  ·cases he;refine hK _ _ ?_;rw[hd];refine h.next0 (ρ:=ρ2) hko hbel ?_;have e:({X with O:=fun b=>X.O b∨cX (fun _=>False) [] rvs b}:Cx)=X:=by
    have:(fun b=>X.O b∨cX (fun _=>False) [] rvs b)=X.O:=by
     funext b;simp[cX]
    rw[this]
   rw[e] at hfit;exact hfit
  ·cases he
theorem LK{X:Cx}{s:aa}{a:Act}{w:World}{ρ:Nat->Value}(h:Fits X s a w ρ){ops:List Oper}{o:Oper}{j:Nat}{want φ:Bool}(hg:o.guard=some (j,want))(he:guardOf ops s j want=some φ):Region.wanted o (yielded ops.toArray a.tmps)=φ:=by
 have hw:Region.wanted o (yielded ops.toArray a.tmps)=(yielded ops.toArray a.tmps j==some want):=by simp[Region.wanted,hg]
 rw[hw];unfold guardOf at he;split at he
 ·rename_i oj hoj;split at he
  ·rename_i t ht;have hy:yielded ops.toArray a.tmps j=match a.tmps[t]? with
     |some (.bool b)=>some b
     |_=>none:=by
    simp only[yielded,List.getElem?_toArray,hoj,Option.bind_some,ht];rfl
   (have hget:a.tmps.getD t undef=(a.tmps[t]?).getD undef:=by simp);split at he
   ·rename_i b hb;cases he;have hr:=h.env _ (get?_mem hb);have hv:=dG (ρ:=ρ) hr;simp only at hv;rw[hget] at hv;cases ht2:a.tmps[t]? with
    |none=>rw[ht2] at hv;simp[undef] at hv
    |some u=>
     rw[ht2] at hv;simp at hv;subst hv;rw[hy,ht2];cases want<;>cases b<;>rfl
   ·rename_i ψ b hb;cases he;have hr:=h.env _ (get?_mem hb);cases hψ:ψ with
    |true=>
     have hv:=dG (ρ:=ρ) (hr.1 hψ);simp only at hv;rw[hget] at hv;cases ht2:a.tmps[t]? with
     |none=>rw[ht2] at hv;simp[undef] at hv
     |some u=>
      rw[ht2] at hv;simp at hv;subst hv;rw[hy,ht2];cases want<;>cases b<;>rfl
    |false=>
     have hv:=hr.2 hψ;simp only at hv;rw[hget] at hv;cases ht2:a.tmps[t]? with
     |none=>rw[hy,ht2];simp
     |some u=>
      rw[ht2] at hv;simp at hv;subst hv;rw[hy,ht2];simp[undef]
   ·cases he
  ·cases he
 ·cases he
theorem LL{H:Nat->Prop}{w:World}{ρ:Nat->Value}{v:AV}{u:Value}(hg:∀ ψ x,v= .g ψ x->ψ=true)(hgt:∀ ψ x,v= .gt ψ x->ψ=true)(h:hZ H w ρ v u):hZ H w ρ v.plain u:=by
 cases v with
 |l x=>exact h
 |agg cs=>exact h
 |tup xs=>exact h
 |g ψ x=>exact h.1 (hg _ _ rfl)
 |gt ψ x=>exact h.1 (hgt _ _ rfl)
theorem kG{env:List (Nat×AV)}:∀{ts:List Nat},asks env ts->∀t∈ts,∀ ψ x,get? env t=some (.g ψ x)->ψ=true
 |t::ts,h,u,hu,ψ,x,hg=>by
  simp only[asks] at h;rcases List.mem_cons.1 hu with rfl|hu;·rw[hg] at h;exact h.1
  ·(split at h;·exact kG h.2 u hu ψ x hg);·exact kG h.2 u hu ψ x hg
   ·exact kG h u hu ψ x hg
theorem ld{env:List (Nat×AV)}:∀{ts:List Nat},asks env ts->∀t∈ts,∀ ψ x,get? env t=some (.gt ψ x)->ψ=true
 |t::ts,h,u,hu,ψ,x,hg=>by
  simp only[asks] at h;rcases List.mem_cons.1 hu with rfl|hu;·rw[hg] at h;exact h.1
  ·(split at h;·exact ld h.2 u hu ψ x hg);·exact ld h.2 u hu ψ x hg
   ·exact ld h u hu ψ x hg
theorem Fits.sub{X:Cx}{s:aa}{a:Act}{w:World}{ρ:Nat->Value}(h:Fits X s a w ρ){ts:List Nat}(hk:asks s.env ts):Fits X {s with env:=cI s.env ts} a w ρ:=by
 refine⟨fun e he=>?_,h.own,h.io,h.apart⟩;have key:∀(l:List Nat),(∀t∈l,t∈ts)->∀e∈cI s.env l,∃v,e.1∈ts/\get? s.env e.1=some v/\e.2=v.plain:=by
  intro l;induction l with
  |nil=>intro _ e he;simp[cI] at he
  |cons t l ih=>
   intro hl e he;simp only[cI] at he;split at he
   ·(rename_i v hv;rcases List.mem_cons.1 he with rfl|he;·exact⟨v,hl _ (by simp),hv,rfl⟩);·exact ih (fun t ht=>hl t (by simp[ht])) e he
   ·exact ih (fun t ht=>hl t (by simp[ht])) e he
 obtain⟨v,h1,h2,h3⟩:=key ts (fun _ h=>h) e he;rw[h3];refine LL (fun ψ x hv=>kG hk _ h1 ψ x (by rw[h2,hv])) (fun ψ x hv=>ld hk _ h1 ψ x (by rw[h2,hv])) (h.env _ (get?_mem h2))
theorem EY{X:Cx}{s:aa}{a:Act}{w:World}{ρ:Nat->Value}(h:Fits X s a w ρ){c x y:Operand}{C:Prop}{v:LV}(he:kn s c x y=some (C,v))(hk:asks s.env (tmpsOf [c]))(hC:C){o:Oper}(hop:o.op= .pick c x y):
  ∃val,(execOp a.eval o).run X.P w= .ok (.value val) w/\aV (hot X.O ρ s.own) w ρ v val:=by
 unfold kn at he;split at he
 ·rename_i b hb;have hcv:a.eval c= .bool b:=by
   cases c with
   |tmp t=>
    cases hg:get? s.env t with
    |none=>simp[bc,hg,fp] at hb
    |some u=>
     have hr:=h.env _ (get?_mem hg);cases u with
     |l x=>simp[bc,hg,fp] at hb;subst hb;exact dG (ρ:=ρ) hr
     |g ψ x=>
      simp[bc,hg,fp] at hb;subst hb;have hψ:ψ=true:=kG hk t (by simp[tmpsOf]) ψ _ hg;exact dG (ρ:=ρ) (hr.1 hψ)
     |agg cs=>simp[bc,hg,fp] at hb
     |tup xs=>simp[bc,hg,fp] at hb
     |gt ψ xs=>simp[bc,hg,fp] at hb
   |const u=>
    simp[bc,fp] at hb;have:=sQ (H:=hot X.O ρ s.own) (w:=w) (ρ:=ρ) u;rw[hb] at this;exact dG (ρ:=ρ) this
   |global g=>simp[bc,fp] at hb
   |func f=>simp[bc,fp] at hb
  have hexec:(execOp a.eval o).run X.P w= .ok (.value (if b then a.eval x else a.eval y)) w:=by
   unfold execOp;rw[hop];simp[hcv,asBool]
  split at he
  ·split at he
   ·(rename_i u hu;cases he;have hy:=dG (H:=hot X.O ρ s.own) (w:=w) (ρ:=ρ) (cg h hu);refine⟨_,hexec,?_⟩;cases b;·simp[hy];exact b8);·simp[Act.eval];exact b8
   ·(rename_i ψ u hu;cases he;have hr:=cg h hu;refine⟨_,hexec,?_⟩;cases b;·have hy:=dG (H:=hot X.O ρ s.own) (w:=w) (ρ:=ρ) (hr.1 (hC rfl));simp[hy];exact b8);·simp[Act.eval];exact b8
   ·cases he
  ·split at he
   ·(rename_i u hu;cases he;have hy:=dG (H:=hot X.O ρ s.own) (w:=w) (ρ:=ρ) (cg h hu);refine⟨_,hexec,?_⟩;cases b;·simp[Act.eval];exact b8);·simp[hy];exact b8
   ·(rename_i ψ u hu;cases he;have hr:=cg h hu;refine⟨_,hexec,?_⟩;cases b;·simp[Act.eval];exact b8);·have hy:=dG (H:=hot X.O ρ s.own) (w:=w) (ρ:=ρ) (hr.1 (hC rfl));simp[hy];exact b8
   ·cases he
  ·cases he
 ·cases he
theorem zF{X:Cx}(hT:dF X.P X.T)(hΓ:ig X.P X.T){s s':aa}{a:Act}{w:World}(h:St X s a w){o:Oper}{d:Option Nat}(hd:o.dst=d)(hdN:∀n,d=some n->X.T.ok n=true){C:Prop}(he:effOp X.T s d o.op=some (C,s'))(hC:C)
  {K:Act->World->Prop} {Q:Exit->Act->World->Prop} (hK:∀a' w',St X s' a' w'->K a' w'):o.wpIn (fw X.r) 2 X.P a w K Q:=by
 cases hop:o.op with
 |alloc e=>rw[hop] at he;cases d with
  |none=>simp[effOp] at he
  |some d=>exact zu hT h hop hd (hdN d rfl) he hK
 |box e x=>rw[hop] at he;cases d with
  |none=>simp[effOp] at he
  |some d=>exact IB h hop hd (hdN d rfl) he hK
 |build e ps=>rw[hop] at he;cases d with
  |none=>simp[effOp] at he
  |some d=>exact zv hT h hop hd (hdN d rfl) he hK
 |buildSlice e n ps=>rw[hop] at he;cases d with
  |none=>simp[effOp] at he
  |some d=>exact qd hT h hop hd (hdN d rfl) he hK
 |makeSlice e l c=>rw[hop] at he;cases d with
  |none=>simp[effOp] at he
  |some d=>exact rQ hT h hop hd (hdN d rfl) he hC hK
 |slice ty x lo hi mx=>rw[hop] at he;cases d with
  |none=>simp[effOp] at he
  |some d=>exact zx hT h hop hd (hdN d rfl) he hC hK
 |store t x y=>rw[hop] at he;cases d with
  |none=>exact zw hT h hop hd he hC hK
  |some d=>simp[effOp] at he
 |convert src dst x=>rw[hop] at he;cases d with
  |none=>simp[effOp] at he
  |some d=>exact vK hT h hop hd (hdN d rfl) he hC hK
 |call c=>
  rw[hop] at he;simp only[effOp] at he;split at he
  ·rename_i hcal;cases d with
   |none=>simp[appendOp] at he
   |some d=>exact yb hT h hcal hop hd (hdN d rfl) he hC hK
  ·rename_i f hcal;exact tj hΓ h hcal hop hd hdN he hC hK
  ·cases he
 |_=>rw[hop] at he;simp[effOp] at he
theorem ng{t:Ty}{c:LV}{x:t.D}(h:c.get t=some x):c.ids=[]:=by
 cases c<;>first|rfl|simp[LV.get] at h
theorem vY{α:Type}{f:List LV->Option (α×List LV)}(hf:∀{l r:List LV} {x:α},f l=some (x,r)->∃p,l=p++r/\p.flatMap LV.ids=[]):∀(n:Nat) {l r:List LV} {xs:List α},jU f n l=some (xs,r)->∃p,l=p++r/\p.flatMap LV.ids=[]
 |0,l,r,xs,h=>by
  simp only[jU,Option.some.injEq,Prod.mk.injEq] at h;exact⟨[],by simp[h.2],rfl⟩
 |n+1,l,r,xs,h=>by
  simp only[jU] at h;split at h
  ·(rename_i y l1 h1;split at h;·rename_i z l2 h2;cases h;obtain⟨p1,e1,q1⟩:=hf h1;obtain⟨p2,e2,q2⟩:=vY hf n h2;exact⟨p1++p2,by rw[e1,e2,List.append_assoc],by rw[List.flatMap_append,q1,q2];rfl⟩);·cases h
  ·cases h
theorem LM:∀(t:Ty) {l r:List LV} {x:t.D},t.join l=some (x,r)->∃p,l=p++r/\p.flatMap LV.ids=[]:=by
 intro t;induction t with
 |unit=>intro l r x h;simp[Ty.join] at h;exact⟨[],by simp[h],rfl⟩
 |pair a b iha ihb=>
  intro l r x h;simp only[Ty.join] at h;split at h
  ·(rename_i y l1 h1;split at h;·rename_i z l2 h2;cases h;obtain⟨p1,e1,q1⟩:=iha h1;obtain⟨p2,e2,q2⟩:=ihb h2;exact⟨p1++p2,by rw[e1,e2,List.append_assoc],by rw[List.flatMap_append,q1,q2];rfl⟩);·cases h
  ·cases h
 |st t ih=>intro l r x h;exact ih h
 |arr n t ih=>intro l r x h;simp only[Ty.join] at h;exact vY (fun a=>ih a) n h
 |func=>intro l r x h;simp[Ty.join] at h
 |int k=>intro l r x h;cases l with
  |nil=>simp[Ty.join] at h
  |cons c l=>
   (simp only[Ty.join] at h;split at h;·rename_i y hy;cases h;exact⟨[c],rfl,by simp[ng hy]⟩);·cases h
 |bool=>intro l r x h;cases l with
  |nil=>simp[Ty.join] at h
  |cons c l=>
   (simp only[Ty.join] at h;split at h;·rename_i y hy;cases h;exact⟨[c],rfl,by simp[ng hy]⟩);·cases h
 |str=>intro l r x h;cases l with
  |nil=>simp[Ty.join] at h
  |cons c l=>
   (simp only[Ty.join] at h;split at h;·rename_i y hy;cases h;exact⟨[c],rfl,by simp[ng hy]⟩);·cases h
 |slice t=>intro l r x h;cases l with
  |nil=>simp[Ty.join] at h
  |cons c l=>
   (simp only[Ty.join] at h;split at h;·rename_i y hy;cases h;exact⟨[c],rfl,by simp[ng hy]⟩);·cases h
 |ptr t=>intro l r x h;cases l with
  |nil=>simp[Ty.join] at h
  |cons c l=>
   (simp only[Ty.join] at h;split at h;·rename_i y hy;cases h;exact⟨[c],rfl,by simp[ng hy]⟩);·cases h
 |opt t=>intro l r x h;cases l with
  |nil=>simp[Ty.join] at h
  |cons c l=>
   (simp only[Ty.join] at h;split at h;·rename_i y hy;cases h;exact⟨[c],rfl,by simp[ng hy]⟩);·cases h
theorem vL{T:Tab}{s:aa}{io:Bool}{t:TypeId}{x:Operand}{v:LV}(h:eC T s t x=some v):b7 T io s t x=some (v,s):=by
 unfold eC at h;have fr:∀{u:AV},bc s x=some u->u.ids=[]->frozenAt s x=s:=by
  intro u hu hi;unfold frozenAt;rw[hu];simp only[hi,aa.freezeAll]
 split at h
 ·rename_i u hu;split at h
  ·rename_i hp;(obtain rfl:u=v:=by simpa using h);cases u with
   |z t y=>have:=fr hu rfl;unfold b7 jW;rw[this,hu];cases io<;>rfl
   |val y=>have:=fr hu rfl;unfold b7 jW;rw[this,hu];cases io<;>rfl
   |fn f caps=>have:=fr hu rfl;unfold b7 jW;rw[this,hu];cases io<;>rfl
   |_=>simp[LV.plain] at hp
  ·cases h
 ·rename_i cs hu;split at h
  ·rename_i u ht;split at h
   ·rename_i a ha;cases h;have hi:(AV.agg cs).ids=[]:=by
     (simp only[AV.get] at ha;split at ha;·rename_i y hj;obtain⟨p,e,q⟩:=LM u hj;simp only[List.append_nil] at e;simpa [AV.ids,e] using q);·cases ha
    have:=fr hu hi;unfold b7 jW;rw[this,hu];cases io<;>simp only[ht,ha]
   ·cases h
  ·cases h
 ·cases h
theorem tk{T:Tab}{s:aa}{t:TypeId}{x:Operand}{v:LV}(h:eC T s t x=some v):v.plain=true:=by
 unfold eC at h;split at h
 ·split at h;·rename_i hp;cases h;exact hp
  ·cases h
 ·split at h
  ·(split at h;·cases h;rfl);·cases h
  ·cases h
 ·cases h
theorem me{T:Tab}{s:aa}{io:List Nat}:∀{xs:List Operand} {ts:List TypeId} {k:Nat} {vs:List LV},cC T s ts xs=some vs->eB T io k s ts xs=some (vs,s)/\vs.all LV.plain=true
 | [],ts,k,vs,h=>by cases ts<;>simp[cC] at h<;>subst h<;>exact⟨by simp[eB],rfl⟩
 |x::xs,[],k,vs,h=>by simp[cC] at h
 |x::xs,t::ts,k,vs,h=>by
  simp only[cC] at h;split at h;·rename_i v vs' h1 h2;cases h;obtain⟨g1,g2⟩:=me (io:=io) (k:=k+1) h2;refine⟨?_,by simp[tk h1,g2]⟩;simp only[eB,vL h1,g1]
  ·cases h
theorem zG{v:LV}(h:v.plain=true):v.lends=[]/\v.ren []=v:=by
 cases v with
 |z t x=>exact⟨rfl,rfl⟩
 |val u=>exact⟨rfl,rfl⟩
 |fn f caps=>
  have key:∀{cs:List CV},(cs.all fun c=>match c with
    | .z _ _=>true
    | .p _=>false)=true->cs.flatMap CV.lends=[]/\ja [] cs=some cs:=by
   intro cs;induction cs with
   |nil=>intro _;exact⟨rfl,rfl⟩
   |cons c cs ih=>
    intro h;simp only[List.all_cons,Bool.and_eq_true] at h;obtain⟨h1,h2⟩:=ih h.2;cases c with
    |z t y=>exact⟨by simp[CV.lends,h1],by simp[ja,CV.ren,h2]⟩
    |p id=>simp at h
  obtain⟨h1,h2⟩:=key h;exact⟨h1,by simp[LV.ren,h2]⟩
 |_=>simp[LV.plain] at h
theorem oU:∀{vs:List LV},vs.all LV.plain=true->vs.flatMap LV.lends=[]/\vs.map (LV.ren [])=vs
 | [],_=>⟨rfl,rfl⟩
 |v::vs,h=>by
  simp only[List.all_cons,Bool.and_eq_true] at h;obtain⟨h1,h2⟩:=oU h.2;obtain⟨h3,h4⟩:=zG h.1;exact⟨by simp[h1,h3],by simp[h2,h4]⟩
theorem kH{T:Tab}{s:aa}{f:Operand}{args:List Operand}{types:List TypeId}{C:Prop}{rs:List RV}{d:Nat}(h:df T d s f args types=some (C,rs))(hid:1000+8*d+rs.length<=ioB):
  callOp T s (some d) f args types=some (C/\True,endCall s d rs):=by
 unfold df at h;split at h
 ·rename_i g caps hg;split at h
  ·rename_i hp;split at h
   ·rename_i con vs hcon hvs;split at h
    ·rename_i C' rs' hrs;cases h;obtain⟨h1,h2⟩:=me (io:=(get? T.io g).getD []) (k:=0) hvs;(have hall:(vs++caps).all LV.plain=true:=by rw[List.all_append,h2,hp.1];rfl);have hfr:(get? T.frees g).getD []=[]:=by
      have:=hp.2;cases hq:get? T.frees g with
      |none=>rfl
      |some l=>rw[hq] at this;cases this
     obtain⟨h3,h4⟩:=oU hall;(have hl:sN s (vs++caps)=[]:=by simp[sN,h3,once,jA]);unfold callOp;simp only[hg,hcon,h1,hl,h4,hfr,S4,lT,aa.forget,List.all_nil,jX,hrs,gu,hid,distinct,List.map_nil,if_true]
    ·cases h
   ·cases h
  ·cases h
 ·cases h
theorem tn{T:Tab}{d:Nat}{s s':aa}{f:Operand}{args:List Operand}{types:List TypeId}{r:Prop×List RV}(hs:∀x v,bc s x=some v->bc s' x=some v)(h:df T d s f args types=some r):df T d s' f args types=some r:=by
 have harg:∀{t x v},eC T s t x=some v->eC T s' t x=some v:=by
  intro t x v h;unfold eC at h ⊢;cases hx:bc s x with
  |none=>rw[hx] at h;cases h
  |some u=>rw[hx] at h;rw[hs x u hx];exact h
 have hargs:∀{xs ts vs},cC T s ts xs=some vs->cC T s' ts xs=some vs:=by
  intro xs;induction xs with
  |nil=>intro ts vs h;cases ts<;>simpa [cC] using h
  |cons x xs ih=>
   intro ts vs h;cases ts with
   |nil=>simp[cC] at h
   |cons t ts=>
    (simp only[cC] at h ⊢;split at h;·rename_i v vs' h1 h2;rw[harg h1,ih h2];exact h);·cases h
 unfold df at h ⊢;have hc:∀{r},eX s f=some r->eX s' f=some r:=by
  intro r h;unfold eX at h ⊢;cases hx:bc s f with
  |none=>rw[hx] at h;cases h
  |some u=>rw[hx] at h;rw[hs f u hx];exact h
 split at h
 ·rename_i g caps hg;simp only[hc hg];split at h
  ·(rename_i hp;rw[if_pos hp];split at h;·rename_i con vs hcon hvs;simp only[hcon,hargs hvs];exact h);·cases h
  ·cases h
 ·cases h
theorem get?_append{α:Type}:∀{l m:List (Nat×α)} {n:Nat} {x:α},get? l n=some x->get? (l++m) n=some x
 |(k,y)::r,m,n,x,h=>by
  simp only[get?,List.cons_append] at h ⊢;split;·rename_i e;rw[if_pos e] at h;exact h
  ·rename_i e;rw[if_neg e] at h;exact get?_append h
theorem mf:∀{rs:List RV} {l:List LV},rvs? rs=some l->∀i,bP i rs=(l,[])/\cQ i rs=[]
 | [],l,h,i=>by simp only[rvs?,Option.some.injEq] at h;subst h;exact⟨rfl,rfl⟩
 | .z t x::r,l,h,i=>by
  simp only[rvs?] at h;split at h;·rename_i l' hl;cases h;obtain⟨h1,h2⟩:=mf hl (i+1);exact⟨by simp[bP,RV.give,h1],by simp[cQ,h2]⟩
  ·cases h
 | .fn f caps::r,l,h,i=>by
  simp only[rvs?] at h;split at h;·rename_i l' _ hl;cases h;obtain⟨h1,h2⟩:=mf hl (i+1);exact⟨by simp[bP,RV.give,h1],by simp[cQ,h2]⟩
  ·cases h
 | .val u::r,l,h,i=>by
  simp only[rvs?] at h;split at h;·rename_i l' hl;cases h;obtain⟨h1,h2⟩:=mf hl (i+1);exact⟨by simp[bP,RV.give,h1],by simp[cQ,h2]⟩
  ·cases h
 | .own ..::_,_,h,_=>by simp[rvs?] at h
theorem LN{φ:Bool}{rs:List RV}{v:AV}(h:Cp φ rs=some v)(s:aa)(d:Nat):endCall s d rs={env:=(d,v.plain)::del s.env d,own:=s.own}:=by
 unfold Cp at h;split at h;·rename_i x hx;cases h;obtain⟨h1,h2⟩:=mf hx (1000+8*d);simp[endCall,h1,h2,eS,AV.plain]
 ·rename_i l hl hx;cases h;obtain⟨h1,h2⟩:=mf hx (1000+8*d);simp only[endCall,h1,h2,eS,AV.plain,List.nil_append]
 ·cases h
theorem zH{H:Nat->Prop}{w:World}{ρ:Nat->Value}{φ:Bool}{rs:List RV}{v:AV}(h:Cp φ rs=some v)(u:Value):(φ=false->u=undef)->(φ=true->hZ H w ρ v.plain u)->hZ H w ρ v u:=by
 intro h1 h2;unfold Cp at h;split at h;·cases h;exact⟨h2,h1⟩
 ·cases h;exact⟨h2,h1⟩
 ·cases h
theorem jd{s:aa}{x:Operand}{v:AV}(hx:bc s x=some v)(hi:v.ids=[]):frozenAt s x=s:=by
 unfold frozenAt;rw[hx];simp only[hi,aa.freezeAll]
theorem fu{s:aa}{t:Ty}:∀{n i:Nat} {ps:List (Nat×Operand)} {xs:List t.D},cJ s t n i ps=some xs->dE t n i ps s=some (xs,s)
 |0,i,[],xs,h=>by simp only[cJ] at h;cases h;rfl
 |0,i,_::_,xs,h=>by simp only[cJ] at h;cases h
 |n+1,i,[],xs,h=>by
  simp only[cJ] at h;split at h
  ·(rename_i a ha;split at h;·rename_i r hr;cases h;simp only[dE,ha,fu hr]);·cases h
  ·cases h
 |n+1,i,(j,x)::ps,xs,h=>by
  simp only[cJ] at h;simp only[dE];split at h
  ·rename_i hj;rw[if_pos hj];split at h
   ·rename_i v hv;split at h
    ·rename_i hi;split at h
     ·(rename_i a ha;split at h;·rename_i r hr;cases h;simp only[ee,jd hv hi,hv,ha,fu hr]);·cases h
     ·cases h
    ·cases h
   ·cases h
  ·rename_i hj;rw[if_neg hj];split at h
   ·(rename_i a ha;split at h;·rename_i r hr;cases h;simp only[ha,fu hr]);·cases h
   ·cases h
theorem Qj{X:Cx}(hT:dF X.P X.T){s sb:aa}{a:Act}{w:World}{ρ:Nat->Value}(h:St X s a w)(hf:Fits X s a w ρ)(hsb:Fits X sb a w ρ)(ho:sb.own=s.own){o:Oper}{d:Nat}(hd:o.dst=some d)(hdN:X.T.ok d=true){C:Prop}{v:LV}{φ:Bool}(hb:φ=true)(he:vH X.T sb o.op=some (C,v))(hC:C)
  {K:Act->World->Prop} {Q:Exit->Act->World->Prop} (hK:∀a' w',St X (s.put d (.g φ v)) a' w'->K a' w'):o.wpIn (fw X.r) 2 X.P a w K Q:=by
 have fin:∀{cs:Array Value} {E:TypeId} {t:Ty} {xs:List t.D} {n cap:Nat},xs.length=n->n<=cap->cap<=maxLen->(∃cells:List Value,cR (fun c y=>t.rep (hot X.O ρ s.own) (w.alloc (.cells cs E)) c y) cells xs/\∀j,j<cells.length->cs[j]? =cells[j]?)->v= .z (.slice t) xs->
   K (a.put (some d) (.slice (some ⟨w.heap.size,0,none⟩) n cap)) (w.alloc (.cells cs E)):=by
  rintro cs E t xs n cap hl hn hm ⟨cells,hr,hc⟩ rfl;refine hK _ _ ?_;have hH:¬hot X.O ρ s.own w.heap.size:=fun hh=>Nat.lt_irrefl _ (hf.hot_lt h.others h.below hh);have q2:=hf.keep (w':=w.alloc (.cells cs E)) (fun k hk=>cq _ _ k hk);have q3:=q2.put (d:=d) (by rw[h.size];exact Tab.ok_lt hdN) (v:= .g φ (.z (.slice t) xs)) (val:= .slice (some ⟨w.heap.size,0,none⟩) n cap) (by
   (refine⟨fun _=>⟨rfl,.inr ⟨w.heap.size,0,none,cap,cells,?_,fun _=>rfl,by rw[hl];exact hn,hm,hr,fun _=>hH,fun j hj=>?_⟩⟩,fun ht=>absurd (hb.symm.trans ht) (by simp)⟩;·show [_]=[_];rw[hl]);·rw[Nat.zero_add,cell_of_row _ _ j cs E (0,0) (heap_alloc_new w _)];exact hc j hj)
  exact h.next hdN (KeepsOthers.alloc _ _) (h.below.alloc _) q3
 unfold vH at he;split at he
 ·rename_i op e n ps hop;split at he
  ·rename_i t E ht hE;split at he
   ·rename_i xs hxs;split at he
    ·rename_i hc;cases he;have hty:=hT.types _ _ ht;have hel:=hT.elems _ _ hE;obtain⟨i,dd,hi,hu,hsz,hrow,hz,el,j,rfl,h2,h3,h4,h5,h6⟩:=hty;(have hEe:E=el:=by rw[hel] at hu;cases hu;rfl);subst hEe;obtain⟨g1,g2,g3,r,g4,g5⟩:=ib h.others h6 n 0 ps.toList hsb (fu hxs);have hrun:¬n=0->(Instr.buildSlice e n (ps.map fun(i,x)=>(i,a.eval x))).run X.P w= .ok (.slice (some ⟨w.heap.size,0,none⟩) n n) (w.alloc (.cells r.flatten.toArray E)):=by
      intro hn;refine run_buildSlice w e E n _ _ j _ hel h2 h5 (by rw[h3];have:=hc.1;omega) (by rw[h3];intro h0;rcases Nat.mul_eq_zero.1 h0 with h0|h0;exact hn h0;have:=hc.2;omega) ?_;rw[fN];have:=jn (fun i=>some (i*j.size,j.size)) (List.replicate n t.zeroCells) _ 0 [] r (fun k hk=>by
       have:=ic n t.zeroCells k hk;rw[Nat.zero_add,h3,<- t.zeroCells_length];exact this) g4
      rw[h3] at this ⊢;rw[range_zero' n h6 hc.2];simpa using this
     have hrun0:n=0->(Instr.buildSlice e n (ps.map fun(i,x)=>(i,a.eval x))).run X.P w= .ok (.slice (some ⟨w.heap.size,0,none⟩) n n) (w.alloc (.cells r.flatten.toArray E)):=by
      intro hn;subst hn;have hps:ps.toList=[]:=by
       cases hl:ps.toList with
       |nil=>rfl
       |cons p l=>rw[hl] at g4;simp[ma] at g4
      (have hps':ps= #[]:=by apply Array.ext';simpa using hps);subst hps';simp[ma] at g4;subst g4;simp[Instr.buildSlice,run_underlying hel,sizeOf,typeInfo,h2,newRow,Instr.fill,Array.range_zero']
     (have hrun':=if hn:n=0 then hrun0 hn else hrun hn);have hrl:=bL (fun c x h=>t.rep_length h) g5;have hn63:n<=maxLen:=by
      have hm:maxLen=9223372036854775807:=rfl;have:n*1<=n*t.w:=Nat.mul_le_mul_left _ hc.2;have:=hc.1;omega
     refine bo (by unfold execOp;rw[hop];exact bF hrun') ?_;rw[hd];rw[ho] at g5;exact fin g2 (Nat.le_refl _) hn63 ⟨r.flatten,aX (fun _ _ h=>h) (fun b _ hb=>cq _ _ b (dk hb)) g5,fun j hj=>by simp⟩ rfl
    ·cases he
   ·cases he
  ·cases he
 ·rename_i op e l c hop;split at he
  ·rename_i t E k1 l1 k2 c1 ht hE hl hcc;split at he
   ·rename_i x hx;split at he
    ·rename_i hw;cases he;obtain⟨ln,hln⟩:∃ln:Int,ln=l1:=⟨_,rfl⟩;subst hln;obtain⟨cn,hcn⟩:∃cn:Int,cn=c1:=⟨_,rfl⟩;subst hcn;have c0:0<=ln:=hC.1;have c2:ln<=cn:=hC.2.1;have c3:Roomy t.w cn.toNat:=hC.2.2;have hty:=hT.types _ _ ht;have hel:=hT.elems _ _ hE;obtain⟨i,dd,hi,hu,hsz,hrow,hz,el,j,rfl,h2,h3,h4,h5,h6⟩:=hty;(have hEe:E=el:=by rw[hel] at hu;cases hu;rfl);subst hEe;obtain⟨r1,r2⟩:=fR c3 hw;have hm:maxLen=9223372036854775807:=rfl;have hbytes:(j.bytes:Int)*cn<=281474976710656:=by
      have:j.bytes*cn.toNat<=24*t.w*cn.toNat:=Nat.mul_le_mul_right _ h4;rw[Nat.mul_comm (24*t.w)] at this;(have h7:((j.bytes*cn.toNat:Nat):Int)<=281474976710656:=by omega);rw[Int.natCast_mul,Int.toNat_of_nonneg (by omega)] at h7;exact h7
     have hrun:=run_make (P:=X.P) w e E j _ hel h2 h5 k1 k2 ln cn c0 c2 hbytes (by omega);rw[h3,jc h6 hw] at hrun;refine bo (by unfold execOp;rw[hop];simp only[bE (aQ hsb hl),bE (aQ hsb hcc)];exact bF hrun) ?_;rw[hd];refine fin (by simp) (by omega) r1 ⟨(List.replicate ln.toNat t.zeroCells).flatten,eW (t.rep_zero _ _ hx) _,fun j hj=>?_⟩ rfl;have e:(List.replicate cn.toNat t.zeroCells).flatten=(List.replicate ln.toNat t.zeroCells).flatten++(List.replicate (cn.toNat-ln.toNat) t.zeroCells).flatten:=by
      rw[<- List.flatten_append,List.replicate_append_replicate];congr 2;omega
     rw[e];simp only[List.getElem?_toArray];rw[List.getElem?_append_left hj]
    ·cases he
   ·cases he
  ·cases he
 ·cases he
theorem step_ok{X:Cx}(hT:dF X.P X.T)(hΓ:ig X.P X.T){ops:List Oper}{o:Oper}{s s':aa}{a:Act}{w:World}(h:St X s a w){C:Prop}(he:dK X.T ops o s=some (C,s'))(hC:C)
  {K:Act->World->Prop} {Q:Exit->Act->World->Prop} (hK:∀a' w',St X s' a' w'->K a' w'):
  if Region.wanted o (yielded ops.toArray a.tmps) then o.wpIn (fw X.r) 2 X.P a w K Q else (∀f,o.about X.P w a.eval=some f->(fw X.r).fn f)/\K (a.put o.dst undef) w:=by
 obtain⟨ρ,hf⟩:=h.fits;unfold dK at he;split at he
 ·rename_i hg;have hw:Region.wanted o (yielded ops.toArray a.tmps)=true:=by simp[Region.wanted,hg]
  rw[if_pos hw];split at he
  ·rename_i c x y hop;split at he
   ·(rename_i d C' v hd hp;split at he;·rename_i hdN;cases he;obtain⟨val,h1,h2⟩:=EY hf hp hC.1 hC.2 hop;refine bo h1 (hK _ _ ?_);rw[hd];exact h.put hf hdN h2);·cases he
   ·cases he
  ·split at he
   ·rename_i C' v hp;split at he
    ·(rename_i d hd;split at he;·rename_i hdN;cases he;obtain⟨val,h1,h2⟩:=vT hT hf hp hC;refine bo h1 (hK _ _ ?_);rw[hd];exact h.put hf hdN h2);·cases he
    ·cases he
   ·split at he
    ·(rename_i d hd;split at he;·rename_i hdN;exact zF hT hΓ h hd (fun n hn=>by cases hn;exact hdN) he hC hK);·cases he
    ·rename_i hd;exact zF hT hΓ h hd (fun n hn=>by cases hn) he hC hK
 ·rename_i j want hg;split at he
  ·rename_i φ d hφ hd;have hw:=LK hf hg hφ;split at he
   ·rename_i hdN;have hno:∀v:LV,φ=false->St X (s.put d (.g φ v)) (a.put o.dst undef) w:=by
     intro v hφf;rw[hd];exact h.put hf hdN ⟨fun ht=>absurd (hφf.symm.trans ht) (by simp),fun _=>rfl⟩
    split at he
    ·rename_i c x y hop;split at he
     ·rename_i C' v hp;cases he;cases hb:φ with
      |true=>
       rw[if_pos (hw.trans hb)];obtain⟨val,h1,h2⟩:=EY hf hp (hC hb).1 (hC hb).2 hop;refine bo h1 (hK _ _ ?_);rw[hd];exact h.put hf hdN ⟨fun _=>h2,fun ht=>absurd (hb.symm.trans ht) (by simp)⟩
      |false=>
       rw[if_neg (by rw[hw,hb];simp)];exact⟨fun _ _=>trivial,hK _ _ (hno v hb)⟩
     ·cases he
    ·split at he
     ·rename_i C' v hp;cases he;cases hb:φ with
      |true=>
       rw[if_pos (hw.trans hb)];obtain⟨val,h1,h2⟩:=vT hT (hf.sub (hC hb).1) hp (hC hb).2;refine bo h1 (hK _ _ ?_);rw[hd];exact h.put hf hdN ⟨fun _=>h2,fun ht=>absurd (hb.symm.trans ht) (by simp)⟩
      |false=>
       rw[if_neg (by rw[hw,hb];simp)];exact⟨fun _ _=>trivial,hK _ _ (hno v hb)⟩
     ·split at he
      ·rename_i op0 c hop;split at he
       ·rename_i f hcal;split at he
        ·rename_i C' rs hp;split at he;(case h_2=>cases he);rename_i v hv;split at he
         ·rename_i hid;cases he;cases hb:φ with
          |true=>
           rw[if_pos (hw.trans hb)];obtain⟨hk,hC'⟩:=hC hb;have hsub:=hf.sub hk;have hplus:St X {env:=cI s.env (tmpsOf o.op.operands.toList)++s.env,own:=s.own} a w:=
            h.next0 (ρ:=ρ) (KeepsOthers.refl _) h.below ⟨fun e he=>(List.mem_append.1 he).elim (hsub.env e) (hf.env e),hf.own,hf.io,hf.apart⟩
           have hp2:=tn (s':={env:=cI s.env (tmpsOf o.op.operands.toList)++s.env,own:=s.own}) (fun y v hy=>by
            cases y with
            |tmp t=>exact get?_append hy
            |const v=>exact hy
            |func g=>exact hy
            |global g=>exact hy) hp
           (have hcall:=kH (d:=d) hp2 hid;refine tj hΓ hplus hcal hop hd (fun n hn=>by cases hn;exact hdN) hcall ⟨hC',trivial⟩ (fun a' w' hst=>hK a' w' ?_);obtain⟨ρ',hf'⟩:=hst.fits;rw[LN hv] at hf';refine⟨hst.marks,hst.kept,hst.size,hst.below,hst.others,hst.small,ρ',fun e he=>?_,hf'.own,hf'.io,hf'.apart⟩;simp only[aa.put,List.mem_cons,bQ] at he;rcases he with rfl|⟨he,hne⟩);·have:=hf'.env (d,v.plain) (by simp);exact zH hv _ (fun ht=>absurd (hb.symm.trans ht) (by simp)) (fun _=>this)
           ·exact hf'.env e (by simp only[List.mem_cons,bQ,List.mem_append];exact .inr ⟨.inr he,hne⟩)
          |false=>
           rw[if_neg (by rw[hw,hb];simp)];refine⟨fun _ _=>trivial,hK _ _ ?_⟩;rw[hd];exact h.put hf hdN (zH hv _ (fun _=>rfl) (fun ht=>absurd (hb.symm.trans ht) (by simp)))
         ·cases he
        ·cases he
       ·cases he
      ·split at he
       ·rename_i C' v hp;cases he;cases hb:φ with
        |true=>
         rw[if_pos (hw.trans hb)];exact Qj hT h hf (hf.sub (hC hb).1) rfl hd hdN hb hp (hC hb).2 hK
        |false=>
         rw[if_neg (by rw[hw,hb];simp)];exact⟨fun _ _=>trivial,hK _ _ (hno v hb)⟩
       ·cases he
   ·cases he
  ·cases he
theorem EZ{X:Cx}(hT:dF X.P X.T)(hΓ:ig X.P X.T){ops:List Oper}{Q:Exit->Act->World->Prop}:∀(l:List Oper) {s s':aa} {a:Act} {w:World} {C:Prop},St X s a w->exec X.T ops l s=some (C,s')->C->(∀a' w',St X s' a' w'->Q .normal a' w')->wpListIn (fw X.r) 2 X.P ops.toArray Q l a w
 | [],s,s',a,w,C,h,he,hC,hQ=>by simp[exec] at he;obtain⟨_,rfl⟩:=he;exact hQ _ _ h
 |o::r,s,s',a,w,C,h,he,hC,hQ=>by
  simp only[exec] at he;split at he
  ·(rename_i C1 s1 h1;split at he;·rename_i C2 s2 h2;cases he;refine wpListIn_step fun K hK=>?_;exact step_ok hT hΓ h h1 hC.1 (fun a' w' h'=>hK _ _ (EZ hT hΓ r h' h2 hC.2 hQ)));·cases he
  ·cases he
def CV.known(own:List (Nat×aJ)):CV->Bool
 | .z _ _=>true
 | .p id=>(get? own id).isSome
def LV.leq(own:List (Nat×aJ))(u:LV):LV->Prop
 | .z t x=>u.get t=some x
 | .ownS id=>match get? own id with
  |some _=>u= .ownS id
  |none=>u= .val (.slice none 0 0)
 | .ownP id off=>(get? own id).isSome=true/\u= .ownP id off
 | .ownE id w i=>(get? own id).isSome=true/\u= .ownE id w i
 | .ownW id w i=>(get? own id).isSome=true/\u= .ownW id w i
 | .ownM id=>(get? own id).isSome=true/\u= .ownM id
 | .ownA id i=>(get? own id).isSome=true/\u= .ownA id i
 | .ownR id j=>(get? own id).isSome=true/\u= .ownR id j
 | .ownB id j w k=>(get? own id).isSome=true/\u= .ownB id j w k
 | .fn f caps=>u= .fn f caps/\caps.all (CV.known own)=true
 | .val v=>u= .val v
 | .junk=>True
def ql(own:List (Nat×aJ)):List LV->List LV->Prop
 | [],[]=>True
 |u::us,v::vs=>u.leq own v/\ql own us vs
 |_,_=>False
def AV.leq(own:List (Nat×aJ))(u:AV):AV->Prop
 | .l (.z t x)=>u.get t=some x
 | .l v=>match u with
  | .l u=>u.leq own v
  |_=>False
 | .agg vs=>match u with
  | .agg us=>ql own us vs
  | .l (.z t x)=>ql own (t.cells x) vs/\t.isAgg=true
  |_=>False
 | .tup vs=>match u with
  | .tup us=>ql own us vs
  |_=>False
 | .g φ v=>match u with
  | .g ψ u=>ψ=φ/\u.leq own v
  |_=>False
 | .gt _ _=>False
def aJ.leq(own:List (Nat×aJ)):aJ->aJ->Prop
 | .box T us,.box T' vs=>T=T'/\ql own us vs
 | .arr t T xs,.arr t' T' ys=>∃h:t=t',T=T'/\h▸xs=ys
 | .win t T pre xs post,.win t' T' pre' xs' post'=>∃h:t=t',T=T'/\h▸pre=pre'/\h▸xs=xs'/\h▸post=post'
 | .que t T xs,.que t' T' ys=>∃h:t=t',T=T'/\h▸xs=ys
 | .arr t T xs,.que t' T' ys=>∃h:t=t',T=T'/\h▸xs=ys
 | .mat t T E rows idx,.mat t' T' E' rows' idx'=>∃h:t=t',T=T'/\E=E'/\h▸rows=rows'/\idx=idx'
 |_,_=>False
def rk(s:aa):List (Nat×AV)->Prop
 | []=>True
 |(t,v)::r=>(match get? s.env t with
  |some u=>u.leq s.own v
  |none=>False)/\rk s r
def nO(s:aa):List (Nat×aJ)->Prop
 | []=>True
 |(t,v)::r=>(match get? s.own t with
  |some u=>u.leq s.own v
  |none=>match v with
   | .arr _ _ xs=>t<ioB/\xs=[]
   | .que _ _ xs=>t<ioB/\xs=[]
   |_=>False)/\(get? r t).isNone=true/\nO s r
def le(s s':aa):Prop:=rk s s'.env/\nO s s'.own
def cY(ρ:Nat->Value)(own:List (Nat×aJ))(i:Nat):Value:=match get? own i with
 |some _=>ρ i
 |none=> .slice none 0 0
theorem LV.leq_ok{H H':Nat->Prop}{w:World}{ρ:Nat->Value}{own:List (Nat×aJ)}(hh:∀b,b<w.heap.size->H' b->H b){u v:LV}{val:Value}(hle:u.leq own v)(h:aV H w ρ u val):aV H' w (cY ρ own) v val:=by
 cases v with
 |z t x=>
  have:=LV.get_ok hle h;exact⟨this.1,Ty.rep_move hh (bn.refl _ _) this.2⟩
 |ownS id=>
  simp only[LV.leq] at hle;simp only[aV,cY];split at hle;·rename_i o ho;subst hle;first|(rw[ho];exact h)|exact h
  ·rename_i ho;subst hle;first|(rw[ho];exact⟨h,none,0,0,h⟩)|exact⟨h,none,0,0,h⟩
 |ownP id off=>
  obtain⟨h1,rfl⟩:=hle;obtain⟨o,ho⟩:=Option.isSome_iff_exists.1 h1;simp only[aV,cY,ho];exact h
 |ownE id wd i=>
  obtain⟨h1,rfl⟩:=hle;obtain⟨o,ho⟩:=Option.isSome_iff_exists.1 h1;simp only[aV,cY,ho];exact h
 |ownW id wd i=>
  obtain⟨h1,rfl⟩:=hle;obtain⟨o,ho⟩:=Option.isSome_iff_exists.1 h1;simp only[aV,cY,ho];exact h
 |ownM id=>
  obtain⟨h1,rfl⟩:=hle;obtain⟨o,ho⟩:=Option.isSome_iff_exists.1 h1;simp only[aV,cY,ho];exact h
 |ownA id i=>
  obtain⟨h1,rfl⟩:=hle;obtain⟨o,ho⟩:=Option.isSome_iff_exists.1 h1;simp only[aV,cY,ho];exact h
 |ownR id j=>
  obtain⟨h1,rfl⟩:=hle;obtain⟨o,ho⟩:=Option.isSome_iff_exists.1 h1;simp only[aV,cY,ho];exact h
 |ownB id j wd i=>
  obtain⟨h1,rfl⟩:=hle;obtain⟨o,ho⟩:=Option.isSome_iff_exists.1 h1;simp only[aV,cY,ho];exact h
 |fn f caps=>
  obtain⟨rfl,h1⟩:=hle;obtain⟨vs,hv,h⟩:=h;refine⟨vs,hv,?_⟩;clear hv;induction caps generalizing vs with
  |nil=>cases vs with
   |nil=>trivial
   |cons _ _=>exact h.elim
  |cons c caps ih=>cases vs with
   |nil=>exact h.elim
   |cons u vs=>
    simp only[List.all_cons,Bool.and_eq_true] at h1;refine⟨?_,ih h1.2 vs h.2⟩;have h2:=h.1;cases c with
    |z t y=>exact⟨h2.1,Ty.rep_move hh (bn.refl _ _) h2.2⟩
    |p id=>
     obtain⟨o,ho⟩:=Option.isSome_iff_exists.1 (show (get? own id).isSome=true from h1.1);simp only[gX,cY,ho];exact h2
 |val v=>rw[show u= .val v from hle] at h;exact h
 |junk=>trivial
theorem E0{H H':Nat->Prop}{w:World}{ρ:Nat->Value}{own:List (Nat×aJ)}(hh:∀b,b<w.heap.size->H' b->H b):∀{us vs:List LV} {vals:List Value},ql own us vs->bC (aV H w ρ) us vals->bC (aV H' w (cY ρ own)) vs vals
 | [],[],[],_,_=>trivial
 |_::_,_::_,_::_,h,h'=>⟨LV.leq_ok hh h.1 h'.1,E0 hh h.2 h'.2⟩
 | [],_::_,_,h,_=>h.elim
 |_::_,[],_,h,_=>h.elim
 | [],[],_::_,_,h=>h.elim
 |_::_,_::_,[],_,h=>h.elim
theorem mh{H H':Nat->Prop}{w:World}{ρ:Nat->Value}{own:List (Nat×aJ)}(hh:∀b,b<w.heap.size->H' b->H b):∀{us vs:List LV} {vals:List Value},ql own us vs->bC (gv H w ρ) us vals->bC (gv H' w (cY ρ own)) vs vals
 | [],[],[],_,_=>trivial
 |_::_,_::_,_::_,h,h'=>⟨⟨LV.leq_ok hh h.1 h'.1.1,h'.1.2⟩,mh hh h.2 h'.2⟩
 | [],_::_,_,h,_=>h.elim
 |_::_,[],_,h,_=>h.elim
 | [],[],_::_,_,h=>h.elim
 |_::_,_::_,[],_,h=>h.elim
theorem AV.leq_ok{H H':Nat->Prop}{w:World}{ρ:Nat->Value}{own:List (Nat×aJ)}(hh:∀b,b<w.heap.size->H' b->H b){u v:AV}{val:Value}(hle:u.leq own v)(h:hZ H w ρ u val):hZ H' w (cY ρ own) v val:=by
 cases v with
 |l v=>
  cases v with
  |z t x=>
   have:=AV.get_ok (x:=x) (t:=t) hle h;exact⟨this.1,Ty.rep_move hh (bn.refl _ _) this.2⟩
  |_=>
   cases u with
   |l u=>exact LV.leq_ok hh (by simpa only[AV.leq] using hle) h
   |_=>exact hle.elim
 |agg vs=>
  cases u with
  |agg us=>obtain⟨l,e,h⟩:=h;exact⟨l,e,mh hh hle h⟩
  |l u=>
   cases u with
   |z t x=>
    obtain⟨h1,h2⟩:=hle;have ha:eY val=true:=h.1.trans h2;cases val<;>simp[eY] at ha;rename_i cs;exact⟨cs.toList,by simp,mh hh h1 (by simpa [Value.cells] using t.cells_ok ρ h.2)⟩
   |_=>exact hle.elim
  |_=>exact hle.elim
 |tup vs=>
  cases u with
  |tup us=>obtain⟨l,e,h⟩:=h;exact⟨l,e,E0 hh hle h⟩
  |_=>exact hle.elim
 |g φ v=>
  cases u with
  |g ψ u=>obtain⟨rfl,h1⟩:=hle;exact⟨fun hφ=>LV.leq_ok hh h1 (h.1 hφ),h.2⟩
  |_=>exact hle.elim
 |gt φ vs=>simp[AV.leq] at hle
theorem tv{s:aa}:∀{l:List (Nat×AV)},rk s l->∀e∈l,∃u,get? s.env e.1=some u/\u.leq s.own e.2
 |(t,v)::r,h,e,he=>by
  simp only[rk] at h;rcases List.mem_cons.1 he with rfl|he
  ·(obtain⟨h1,_⟩:=h;split at h1;·rename_i u hu;exact⟨u,hu,h1⟩);·exact h1.elim
  ·exact tv h.2 e he
theorem get?_none{α:Type}:∀{l:List (Nat×α)} {n:Nat},get? l n=none->∀p∈l,p.1≠n
 |(k,x)::r,n,h,p,hp=>by
  simp only[get?] at h;split at h;·cases h
  ·(rename_i hk;rcases List.mem_cons.1 hp with rfl|hp;·exact hk);·exact get?_none h p hp
theorem od{s:aa}:∀{l:List (Nat×aJ)},nO s l->(∀p∈l,(∃o,get? s.own p.1=some o/\o.leq s.own p.2)∨(get? s.own p.1=none/\p.1<ioB/\∃t T,p.2= .arr t T []∨p.2= .que t T []))/\l.Pairwise (fun p q=>p.1≠q.1)
 | [],_=>⟨fun p hp=>by simp at hp,.nil⟩
 |(t,v)::r,h=>by
  simp only[nO] at h;obtain⟨h1,h2,h3⟩:=h;obtain⟨g1,g2⟩:=od h3;refine⟨fun p hp=>?_,List.pairwise_cons.2 ⟨fun q hq e=>get?_none (Option.isNone_iff_eq_none.1 h2) q hq e.symm,g2⟩⟩;rcases List.mem_cons.1 hp with rfl|hp
  ·split at h1;·rename_i u hu;exact .inl ⟨u,hu,h1⟩
   ·(rename_i hu;refine .inr ⟨hu,?_⟩;split at h1;·obtain⟨h4,h1⟩:=h1;subst h1;exact⟨h4,_,_,.inl rfl⟩);·obtain⟨h4,h1⟩:=h1;subst h1;exact⟨h4,_,_,.inr rfl⟩
    ·exact h1.elim
  ·exact g1 p hp
theorem oe{X:Cx}{s s':aa}(hle:le s s'){ρ:Nat->Value}{b:Nat}(hb:hot X.O (cY ρ s.own) s'.own b):hot X.O ρ s.own b:=by
 obtain⟨hown,hpw⟩:=od hle.2;rcases hb with hb|⟨p,hp,hb⟩;·exact .inl hb
 ·rcases hown p hp with⟨o,ho,_⟩|⟨ho,_,_⟩;·rw[show cY ρ s.own p.1=ρ p.1 by simp[cY,ho]] at hb;exact dH (p:=(p.1,o)) (get?_mem ho) hb
  ·rw[show cY ρ s.own p.1= .slice none 0 0 by simp[cY,ho]] at hb;simp[Blk] at hb
theorem Fits.leO{X:Cx}{O':Nat->Prop}{s s':aa}{a:Act}{w:World}{ρ:Nat->Value}(hle:le s s')(hf:Fits X s a w ρ)(hh:∀b,b<w.heap.size->hot O' (cY ρ s.own) s'.own b->hot X.O ρ s.own b):Fits {X with O:=O'} s' a w (cY ρ s.own):=by
 obtain⟨hown,hpw⟩:=od hle.2;have hv:∀i o,get? s.own i=some o->cY ρ s.own i=ρ i:=fun i o ho=>by simp[cY,ho]
 have hn:∀i,get? s.own i=none->cY ρ s.own i= .slice none 0 0:=fun i ho=>by simp[cY,ho]
 refine⟨fun e he=>?_,fun p hp=>?_,fun p hp hB hF=>?_,?_⟩;·obtain⟨u,h1,h2⟩:=tv hle.1 e he;exact AV.leq_ok hh h2 (hf.env _ (get?_mem h1))
 ·rcases hown p hp with⟨o,ho,hl⟩|⟨ho,_,t,T,hp2⟩
  ·have hok:=hf.own _ (get?_mem ho);obtain⟨id,obj⟩:=p;cases o with
   |box T us=>
    cases obj with
    |box T' vs=>
     obtain⟨rfl,hl⟩:=hl;obtain⟨b,l,h1,h2,h3,h4⟩:=hok;exact⟨b,l,by rw[hv _ _ ho];exact h1,h2,h3,mh hh hl h4⟩
    |arr _ _ _=>exact hl.elim
    |win _ _ _ _ _=>exact hl.elim
    |mat _ _ _ _ _=>exact hl.elim
    |que _ _ _=>exact hl.elim
   |que t T xs=>
    cases obj with
    |que t' T' ys=>
     obtain⟨rfl,rfl,rfl⟩:=hl;obtain⟨cells,h1,h2⟩:=hok;exact⟨cells,aX hh (bn.refl _ _) h1,by rw[hv _ _ ho];exact h2⟩
    |mat _ _ _ _ _=>exact hl.elim
    |box _ _=>exact hl.elim
    |arr _ _ _=>exact hl.elim
    |win _ _ _ _ _=>exact hl.elim
   |mat t T E rows idx=>
    cases obj with
    |que _ _ _=>exact hl.elim
    |mat t' T' E' rows' idx'=>
     obtain⟨rfl,rfl,rfl,rfl,rfl⟩:=hl;obtain⟨h0,vs,cells,h1,h2⟩:=hok;exact⟨h0,vs,cells,by rw[hv _ _ ho];exact h1,h2.move (fun c x h=>Ty.rep_move hh (bn.refl _ _) h) fun u hu b e=>⟨(h2.Mof hu e).1,rfl⟩⟩
    |box _ _=>exact hl.elim
    |arr _ _ _=>exact hl.elim
    |win _ _ _ _ _=>exact hl.elim
   |win t T pre xs post=>
    cases obj with
    |mat _ _ _ _ _=>exact hl.elim
    |que _ _ _=>exact hl.elim
    |win t' T' pre' xs' post'=>
     obtain⟨rfl,rfl,rfl,rfl,rfl⟩:=hl;obtain⟨g,cap,cells,cur,h1,h2,h3⟩:=hok;exact⟨g,cap,cells,cur,aX hh (bn.refl _ _) h1,by rw[hv _ _ ho];exact h2,h3⟩
    |box _ _=>exact hl.elim
    |arr _ _ _=>exact hl.elim
   |arr t T xs=>
    cases obj with
    |mat _ _ _ _ _=>exact hl.elim
    |que t' T' ys=>
     obtain⟨rfl,rfl,rfl⟩:=hl;obtain⟨cells,h1,h2⟩:=hok;exact⟨cells,aX hh (bn.refl _ _) h1,by rw[hv _ _ ho];exact nc h2⟩
    |box _ _=>exact hl.elim
    |win _ _ _ _ _=>exact hl.elim
    |arr t' T' ys=>
     obtain⟨rfl,rfl,rfl⟩:=hl;obtain⟨cells,h1,h2⟩:=hok;exact⟨cells,aX hh (bn.refl _ _) h1,by rw[hv _ _ ho];exact h2⟩
  ·(obtain⟨id,obj⟩:=p;simp only at hp2;rcases hp2 with rfl|rfl;·exact⟨[],rfl,by simp[rowAt,hn _ ho]⟩);·exact⟨[],rfl,by simp[oO,hn _ ho]⟩
 ·rcases hown p hp with⟨o,ho,_⟩|⟨_,hlt,_⟩;·rw[hv _ _ ho];exact hf.io (p.1,o) (get?_mem ho) hB hF
  ·exact absurd hB (Nat.not_le.2 hlt)
 ·refine hpw.imp_of_mem fun {p q} hp hq hpq=>⟨hpq,fun b hb hqb=>?_⟩;rcases hown p hp with⟨o,ho,_⟩|⟨ho,_,_⟩
  ·(rcases hown q hq with⟨o',ho',_⟩|⟨ho',_⟩;·rw[hv _ _ ho] at hb;rw[hv _ _ ho'] at hqb;exact hf.two (p:=(p.1,o)) (q:=(q.1,o')) (get?_mem ho) (get?_mem ho') hpq hb hqb);·rw[hn _ ho'] at hqb;simp[Blk] at hqb
  ·rw[hn _ ho] at hb;simp[Blk] at hb
theorem Fits.le{X:Cx}{s s':aa}{a:Act}{w:World}{ρ:Nat->Value}(hle:le s s')(hf:Fits X s a w ρ):Fits X s' a w (cY ρ s.own):=Fits.leO hle hf (fun b _ hb=>oe hle hb)
theorem St.le{X:Cx}{s s':aa}{a:Act}{w:World}(hle:le s s')(h:St X s a w):St X s' a w:=by
 obtain⟨ρ,hf⟩:=h.fits;exact⟨h.marks,h.kept,h.size,h.below,h.others,h.small,_,hf.le hle⟩
theorem CF{F:Fence}{m:Nat}{P:Program}{Q:Exit->Act->World->Prop}{a:Act}{w:World}{c:Code}(I:Nat->Act->World->Prop)(n₀:Nat)(h₀:I n₀ a w)
  (round:∀n a w,I n a w->c.wpIn F m P (Exit.then (fun a' w'=>∃n',n'<n/\I n' a' w') Q) a w):(Code.loop c).wpIn F m P Q a w:=by
 refine wpIn_loop (fun a w=>∃n,I n a w) (fun a w=>leastOf (fun n=>I n a w)) ⟨n₀,h₀⟩ ?_;intro a w hI;refine Code.wpIn_mono ?_ (round _ a w (leastOf_spec hI).1);intro e a' w' hq;cases e with
 |normal=>
  obtain⟨n',hlt,hI'⟩:=hq;exact⟨⟨n',hI'⟩,Nat.lt_of_le_of_lt ((leastOf_spec ⟨n',hI'⟩).2 n' hI') hlt⟩
 |_=>exact hq
def vZ(T:Tab)(s:aa):ResultVar->Option AV
 | .tmp t=>get? s.env t
 | .cell t ty=>match get? s.env t,get? T.types ty with
  |some (.l (.ownP id 0)),some u=>match get? s.own id with
   |some (.box _ cs)=>if cs.length=u.w then dQ u cs else none
   |_=>none
  |_,_=>none
def ep(T:Tab)(s:aa):List ResultVar->List RV->List Nat
 |rv::r,.own ..::vs=>match vZ T s rv with
  |some (.l (.ownS id))=>id::ep T s r vs
  |_=>ep T s r vs
 |_::r,.z ..::vs=>ep T s r vs
 |_::r,.fn ..::vs=>ep T s r vs
 |_::r,.val ..::vs=>ep T s r vs
 |_,_=>[]
def CV.pure:CV->Bool
 | .z _ _=>true
 | .p _=>false
def e9(s:aa)(all later:List Nat):RV->AV->Prop
 | .z t x,u=>match u with
  | .l (.ownS id)=>(id∉all/\id<ioB)/\match get? s.own id with
   |some (.arr u _ xs)=>LV.get t (.z (.slice u) xs)=some x
   |_=>False
  |u=>u.get t=some x
 | .own t T xs,u=>match u with
  | .l (.ownS id)=>(id∉later/\id<ioB)/\match get? s.own id with
   |some (.arr u T' ys)=>T=T'/\∃h:u=t,h▸ys=xs
   |_=>False
  | .l (.val v)=>gm v=true/\xs=[]
  |_=>False
 | .fn f caps,u=>match u with
  | .l (.fn g caps')=>g=f/\caps'=caps/\caps.all CV.pure=true
  | .l (.val (.func (.func g) first caps'))=>g=f/\first.size=0/\caps'.size=0/\caps=[]
  |_=>False
 | .val v,u=>u= .l (.val v)
def rl(T:Tab)(s:aa)(all:List Nat):List ResultVar->List RV->Prop
 | [],[]=>True
 |rv::r,v::vs=>(match vZ T s rv with
  |some u=>e9 s all (ep T s r vs) v u
  |none=>False)/\rl T s all r vs
 |_,_=>False
def tw(tmps:Array Value):ResultVar->Sem Value
 | .tmp t=>pure (tmps.getD t undef)
 | .cell a t=>do loadVar t (<- asAddr (tmps.getD a undef))
theorem LO{X:Cx}(hT:dF X.P X.T){s:aa}{a:Act}{w:World}{ρ:Nat->Value}(h:Fits X s a w ρ){rv:ResultVar}{u:AV}(he:vZ X.T s rv=some u):∃v,(tw a.tmps rv).run X.P w= .ok v w/\hZ (hot X.O ρ s.own) w ρ u v:=by
 cases rv with
 |tmp t=>exact⟨_,rfl,h.env (t,u) (get?_mem he)⟩
 |cell t ty=>
  simp only[vZ] at he;split at he
  ·rename_i id u' he1 he2;split at he
   ·(rename_i T' cs hg;split at he;·rename_i hl;obtain⟨b,hb,hv⟩:=h.env _ (get?_mem he1);obtain⟨b',vs,hb',hbase,hh,hcs⟩:=h.own _ (get?_mem hg);rw[hb] at hb';simp at hb';subst hb';have hlen:=hcs.length;have hrun:=dL (hT.types _ _ he2) (w:=w) (b:=b) (o:=0) (cells:=vs) (by rw[<- hlen];exact hl) (fun j _=>by rw[Nat.zero_add,cell_of_row w b j vs.toArray T' (0,0) hh];simp);refine⟨_,?_,jb he hcs⟩;simp only at hv;simp only[tw,hv];exact hrun);·cases he
   ·cases he
  ·cases he
theorem CG{X:Cx}{s:aa}{a:Act}{w:World}{ρ:Nat->Value}(h:Fits X s a w ρ)(hO:∀b,X.O b-> ¬X.M b){id T:Nat}{t:Ty}{xs:List t.D}(hg:get? s.own id=some (.arr t T xs)){v:Value}(hv:v=ρ id)(hsl:∃a n c,v= .slice a n c){H':Nat->Prop}(hH:∀b,H' b->hot X.O ρ s.own b)(hno:∀b,Blk (ρ id) b->H' b->X.O b):aV H' w (fun _=>undef) (.z (.slice t) xs) v:=by
 obtain⟨p,n,c,hv2⟩:=hsl;obtain⟨hn,cells,hr,hl,hor⟩:=fM h.own hg (by rw[<- hv];exact hv2);subst hn;refine⟨by rw[hv2];rfl,?_⟩;rw[hv2];rcases hor with⟨rfl,hx0,rfl⟩|⟨g,rfl,hb,h1,h2,cur,hh',h3,h4⟩;·subst hx0;exact .inl ⟨rfl,rfl⟩
 ·refine .inr ⟨g,0,none,c,cells,rfl,fun _=>rfl,h1,h2,aX (fun b _ hb=>hH b hb) (bn.refl _ _) hr,?_,fun j hj=>fV hh' h4 hj⟩;intro _ hg1;exact hO g (hno g (by rw[<- hv,hv2];rfl) hg1) hb
theorem j7{H H':Nat->Prop}{w:World}{ρ ρ':Nat->Value}:∀{cs:List CV} {vs:List Value},cs.all CV.pure=true->(∀b,H' b->H b)->bC (gX H w ρ) cs vs->bC (gX H' w ρ') cs vs
 | [],[],_,_,_=>trivial
 | [],_::_,_,_,h=>h.elim
 |_::_,[],_,_,h=>h.elim
 |c::cs,v::vs,hp,hH,h=>by
  simp only[List.all_cons,Bool.and_eq_true] at hp;refine⟨?_,j7 hp.2 hH h.2⟩;have h3:=h.1;cases c with
  |z t y=>exact⟨h3.1,Ty.rep_move (fun b _ hb=>hH b hb) (bn.refl _ _) h3.2⟩
  |p id=>exact absurd hp.1 (by simp[CV.pure])
theorem zI{X:Cx}(hT:dF X.P X.T){s:aa}{a:Act}{w:World}{ρ:Nat->Value}(h:Fits X s a w ρ)(hO:∀b,X.O b-> ¬X.M b)(hw:X.w0.heap.size<=w.heap.size)(all:List Nat):∀(rvs:List ResultVar) (rs:List RV),rl X.T s all rvs rs->
  ∃vs:List Value,(rvs.mapM (tw a.tmps)).run X.P w= .ok vs w/\vs.length=rs.length/\
   (∀b,cX (fun _=>False) rs vs b->∃id∈ep X.T s rvs rs,Blk (ρ id) b/\id<ioB/\∃o,get? s.own id=some o)/\fS rs vs/\
   ∀H',(∀b,H' b->hot X.O ρ s.own b)->(∀id o b,get? s.own id=some o->id∉all->id<ioB->Blk (ρ id) b->H' b->X.O b)->bC (l5 H' w X.M) rs vs
 | [],[],_=>⟨[],rfl,rfl,fun b hb=>hb.elim,trivial,fun _ _ _=>trivial⟩
 |rv::rvs,r::rs,hr=>by
  simp only[rl] at hr;obtain⟨h1,h2⟩:=hr;obtain⟨vs,g1,g2,g3,g4,g5⟩:=zI hT h hO hw all rvs rs h2;split at h1
  ·rename_i u hu;obtain⟨v,hv1,hv2⟩:=LO hT h hu;refine⟨v::vs,by simp[List.mapM_cons,hv1,g1],by simp[g2],?_,?_,fun H' hH hno=>⟨?_,g5 H' hH hno⟩⟩
   ·rintro b (⟨hb1,hb2⟩|hb)
    ·cases r with
     |z t x=>simp[RV.isOwn] at hb1
     |fn f caps=>simp[RV.isOwn] at hb1
     |val u=>simp[RV.isOwn] at hb1
     |own t T xs=>
      simp only[e9] at h1;split at h1
      ·rename_i id;refine⟨id,by simp[ep,hu],?_,h1.1.2,?_⟩;·rw[<- hv2.1];exact hb2
       ·(obtain⟨_,h1⟩:=h1;split at h1;·rename_i hg;exact⟨_,hg⟩);·exact h1.elim
      ·have hv:v=_:=hv2;rw[hv,l9 h1.1] at hb2;simp[Blk] at hb2
      ·exact h1.elim
    ·obtain⟨id,hid,hb⟩:=g3 b hb;refine⟨id,?_,hb⟩;cases r with
     |z t x=>simpa [ep] using hid
     |fn f caps=>simpa [ep] using hid
     |val u=>simpa [ep] using hid
     |own t T xs=>
      (simp only[ep];split;·exact List.mem_cons_of_mem _ hid);·exact hid
   ·refine⟨fun hb1 b hb hr=>?_,g4⟩;cases r with
    |z t x=>simp[RV.isOwn] at hb1
    |fn f caps=>simp[RV.isOwn] at hb1
    |val u=>simp[RV.isOwn] at hb1
    |own t T xs=>
     simp only[e9] at h1;obtain⟨id',hid',hb',_,o',ho'⟩:=g3 b hr;split at h1
     ·(rename_i id;obtain⟨hnot,h1⟩:=h1;split at h1;·rename_i hg;have hne:id≠id':=fun e=>hnot.1 (e▸hid');rw[hv2.1] at hb;exact h.two (p:=(id,_)) (q:=(id',o')) (get?_mem hg) (get?_mem ho') hne hb hb');·exact h1.elim
     ·have hv:v=_:=hv2;rw[hv,l9 h1.1] at hb;simp[Blk] at hb
     ·exact h1.elim
   ·cases r with
    |z t x=>
     simp only[e9] at h1;split at h1
     ·(rename_i id;obtain⟨hnot,h1⟩:=h1;split at h1;·rename_i u' T' xs hg;have:=CG h hO hg hv2.1 hv2.2 hH (fun b hb hHb=>hno id _ b hg hnot.1 hnot.2 hb hHb);exact LV.get_ok h1 this);·exact h1.elim
     ·have q:aV _ w ρ (.z t x) v:=AV.get_ok h1 hv2;exact⟨q.1,Ty.rep_move (fun b _ hb=>hH b hb) (bn.refl _ _) q.2⟩
    |own t T xs=>
     simp only[e9] at h1;split at h1
     ·(rename_i id;obtain⟨⟨_,hlt⟩,h1⟩:=h1;split at h1;·rename_i u' T' ys hg;obtain⟨rfl,rfl,rfl⟩:=h1;obtain⟨cells,q1,q2⟩:=h.own _ (get?_mem hg);refine⟨hv2.2,cells,aX (fun b _ hb=>hH b hb) (bn.refl _ _) q1,?_⟩;rw[hv2.1];exact q2);·exact h1.elim
     ·have hv:v=_:=hv2;obtain⟨hn,rfl⟩:=h1;rw[hv,l9 hn];exact⟨⟨_,_,_,rfl⟩,[],rfl,kC _ _ _ _⟩
     ·exact h1.elim
    |fn f caps=>
     simp only[e9] at h1;split at h1;·obtain⟨rfl,rfl,hp⟩:=h1;obtain⟨ws,hv,hc⟩:=hv2;refine⟨ws,hv,j7 hp (fun b hb=>hH b hb) hc⟩
     ·(rename_i first caps');obtain⟨rfl,e1,e2,rfl⟩:=h1;have hv:v=_:=hv2;(have e1:first= #[]:=Array.eq_empty_of_size_eq_zero e1);have e2:caps'= #[]:=Array.eq_empty_of_size_eq_zero e2;exact⟨[],by rw[hv,e1,e2],trivial⟩
     ·exact h1.elim
    |val u=>
     simp only[e9] at h1;subst h1;exact hv2
  ·exact h1.elim
 | [],_::_,hr=>hr.elim
 |_::_,[],hr=>hr.elim
def az:Nat->List LV->List (Nat×AV)
 |_,[]=>[]
 |i,a::r=>(i,.l a)::az (i+1) r
theorem tz:∀{args:List LV} {i:Nat} {e:Nat×AV},e∈az i args->∃k,∃_:k<args.length,e=(i+k,.l args[k])
 |a::r,i,e,h=>by
  simp only[az,List.mem_cons] at h;rcases h with rfl|h;·exact⟨0,by simp,rfl⟩
  ·obtain⟨k,hk,rfl⟩:=tz h;exact⟨k+1,by simpa using hk,by simp;omega⟩
def CV.io(n:Nat):CV->Bool
 | .z _ _=>true
 | .p id=>ioB<=id&&id<ioB+n
def LV.io(n:Nat):LV->Bool
 | .z _ _| .val _| .junk=>true
 | .ownS id| .ownP id _| .ownM id| .ownR id _=>ioB<=id&&id<ioB+n
 | .fn _ caps=>caps.all (CV.io n)
 |_=>false
def aJ.io(n:Nat):aJ->Bool
 | .box _ cs=>cs.all (LV.io n)
 |_=>true
def IG(s:aa)(n:Nat):Nat->List aJ->Prop
 |_,[]=>True
 |k,o::r=>(match get? s.own k with
  |some u=>u.leq s.own o/\o.io n=true
  |none=>False)/\IG s n (k+1) r
def CH(T:Tab)(fn:Func)(rs:List RV)(os:List aJ)(s:aa):Prop:=
 ∃l:List Nat,rl T (s.freezeAll l) (ep T (s.freezeAll l) fn.results.toList rs) fn.results.toList rs/\IG (s.freezeAll l) os.length ioB os
theorem St.freezeAll{X:Cx}{s:aa}{a:Act}{w:World}(h:St X s a w)(l:List Nat):St X (s.freezeAll l) a w:=by
 obtain⟨ρ,hf⟩:=h.fits;exact⟨h.marks,h.kept,h.size,h.below,h.others,h.small,ρ,hf.freezeAll h.others l⟩
def Ends(T:Tab)(fn:Func)(rs:List RV)(os:List aJ)(e:Exit)(s:aa):Prop:=match e with
 | .normal=>CH T fn rs os s
 | .ret=>CH T fn rs os s
 |_=>False
theorem E1{s:aa}{n:Nat}:∀{os:List aJ} {k:Nat},IG s n k os->∀p∈aj k os,∃u,get? s.own p.1=some u/\u.leq s.own p.2/\p.2.io n=true
 | [],_,_,p,hp=>by simp[aj] at hp
 |o::r,k,h,p,hp=>by
  simp only[aj,List.mem_cons] at hp;rcases hp with rfl|hp
  ·(have h1:=h.1;split at h1;·rename_i u hu;exact⟨u,hu,h1.1,h1.2⟩);·exact h1.elim
  ·exact E1 h.2 p hp
theorem Qk{H:Nat->Prop}{w:World}{ρ ρ':Nat->Value}{n:Nat}(hρ:∀k,ioB<=k->k<ioB+n->ρ' k=ρ k){x:LV}(hx:x.io n=true){v:Value}(h:aV H w ρ x v):aV H w ρ' x v:=by
 refine bb (fun _ _ h=>h) (bn.refl _ _) (fun id hid=>?_) h;cases x with
 |ownS i=>
  simp only[LV.isOf,beq_iff_eq] at hid;subst hid;simp only[LV.io,Bool.and_eq_true,decide_eq_true_eq] at hx;exact hρ _ hx.1 hx.2
 |ownM i=>
  simp only[LV.isOf,beq_iff_eq] at hid;subst hid;simp only[LV.io,Bool.and_eq_true,decide_eq_true_eq] at hx;exact hρ _ hx.1 hx.2
 |ownR i j=>
  simp only[LV.isOf,beq_iff_eq] at hid;subst hid;simp only[LV.io,Bool.and_eq_true,decide_eq_true_eq] at hx;exact hρ _ hx.1 hx.2
 |ownP i off=>
  simp only[LV.isOf,beq_iff_eq] at hid;subst hid;simp only[LV.io,Bool.and_eq_true,decide_eq_true_eq] at hx;exact hρ _ hx.1 hx.2
 |fn f caps=>
  simp only[LV.isOf,List.any_eq_true] at hid;obtain⟨c,hc,hci⟩:=hid;have:=List.all_eq_true.1 hx c hc;cases c with
  |z t y=>simp[CV.isOf] at hci
  |p i=>
   simp only[CV.isOf,beq_iff_eq] at hci;subst hci;simp only[CV.io,Bool.and_eq_true,decide_eq_true_eq] at this;exact hρ _ this.1 this.2
 |z t y=>simp[LV.isOf] at hid
 |val u=>simp[LV.isOf] at hid
 |junk=>simp[LV.isOf] at hid
 |ownE=>simp[LV.io] at hx
 |ownA=>simp[LV.io] at hx
 |ownB=>simp[LV.io] at hx
 |ownW=>simp[LV.io] at hx
theorem S5{H:Nat->Prop}{w:World}{ρ ρ0:Nat->Value}{M M':Nat->Prop}{own:List (Nat×aJ)}{n k:Nat}{u o:aJ}(hg:get? own k=some u)(hle:u.leq own o)(ho:o.io n=true)(h:cl H w ρ M (k,u))(hk:ρ0 k=ρ k)
  (hρ:∀i,ioB<=i->i<ioB+n->ρ0 i=cY ρ own i) (hM:∀b,Blk (ρ k) b->M' b):cl H w ρ0 M' (k,o):=by
 have h:=h.moved (H':=H) (ρ':=ρ) (k:=k) (f:=id) (fun _ _ h=>h) (fun _ _ h=>h) rfl hM;rw[aJ.map_id] at h;have e:cY ρ own k=ρ k:=by simp[cY,hg]
 cases u with
 |box T us=>
  cases o with
  |box T' vs=>
   obtain⟨rfl,hl⟩:=hle;obtain⟨b,l,h1,h2,h3,h4⟩:=h;refine⟨b,l,by rw[hk];exact h1,h2,h3,?_⟩;have:=mh (H:=H) (H':=H) (w:=w) (fun _ _ h=>h) hl h4;exact this.imp fun c v hc hr=>⟨Qk hρ (List.all_eq_true.1 ho c hc) hr.1,hr.2⟩
  |arr _ _ _=>exact hle.elim
  |win _ _ _ _ _=>exact hle.elim
  |mat _ _ _ _ _=>exact hle.elim
  |que _ _ _=>exact hle.elim
 |mat t T E rows idx=>
  cases o with
  |que _ _ _=>exact hle.elim
  |box _ _=>exact hle.elim
  |arr _ _ _=>exact hle.elim
  |win _ _ _ _ _=>exact hle.elim
  |mat t' T' E' rows' idx'=>
   obtain⟨rfl,rfl,rfl,rfl,rfl⟩:=hle;obtain⟨h0,vs,cells,h1,h2⟩:=h;exact⟨h0,vs,cells,by rw[hk];exact h1,h2⟩
 |que t T xs=>
  cases o with
  |que t' T' ys=>
   obtain⟨rfl,rfl,rfl⟩:=hle;obtain⟨cells,h1,h2⟩:=h;exact⟨cells,h1,by rw[hk];exact h2⟩
  |mat _ _ _ _ _=>exact hle.elim
  |box _ _=>exact hle.elim
  |arr _ _ _=>exact hle.elim
  |win _ _ _ _ _=>exact hle.elim
 |arr t T xs=>
  cases o with
  |mat _ _ _ _ _=>exact hle.elim
  |que t' T' ys=>
   obtain⟨rfl,rfl,rfl⟩:=hle;obtain⟨cells,h1,h2⟩:=h;exact⟨cells,h1,by rw[hk];exact nc h2⟩
  |box _ _=>exact hle.elim
  |win _ _ _ _ _=>exact hle.elim
  |arr t' T' ys=>
   obtain⟨rfl,rfl,rfl⟩:=hle;obtain⟨cells,h1,h2⟩:=h;exact⟨cells,h1,by rw[hk];exact h2⟩
 |win t T pre xs post=>
  cases o with
  |mat _ _ _ _ _=>exact hle.elim
  |que _ _ _=>exact hle.elim
  |box _ _=>exact hle.elim
  |arr _ _ _=>exact hle.elim
  |win t' T' pre' xs' post'=>
   obtain⟨rfl,rfl,rfl,rfl,rfl⟩:=hle;obtain⟨g,cap,cells,cur,h1,h2,h3⟩:=h;exact⟨g,cap,cells,cur,h1,by rw[hk];exact h2,h3⟩
theorem zJ{P:Program}{fn:Func}{tmps:Array Value}{w:World}{vs:List Value}(h:(fn.results.toList.mapM (tw tmps)).run P w= .ok vs w):(results fn tmps).run P w= .ok (yc vs) w:=by
 unfold results;change (do
  let vs <- fn.results.mapM (tw tmps)
  pure (if h:vs.size=1 then vs[0] else .tuple vs):Sem Value).run P w=_
 rw[Sem.run_bind,Array.mapM_eq_mapM_toList];simp[h];match vs with
 | []=>rfl
 | [v]=>rfl
 |v::u::r=>rfl
theorem St.unmark{X:Cx}{s:aa}{a:Act}{w:World}{d:Deferred}{ds:List Deferred}(h:St X s a w)(hd:a.defers=d::ds):
  ∃D w2,d.target= .collected D/\(Instr.takeDeferred D).run X.P w= .ok [] w2/\St X s {a with defers:=ds} w2:=by
 obtain⟨D,rfl,hB,hD⟩:=h.marks.each d (by rw[hd];simp);have hap:=h.marks.apart;rw[hd,List.pairwise_cons] at hap;have hother:∀k:Nat,k≠D->(w.putObj D (.deferred none)).heap[k]? =w.heap[k]? :=fun k hk=>World.putObj_heap_other hk;have hcell:∀k:Nat,(∃o:Obj,w.heap[k]? =some o/\o.isCells=true)->(w.putObj D (.deferred none)).heap[k]? =w.heap[k]? :=by
  rintro k ⟨o,h1,h2⟩;refine hother k ?_;rintro rfl;rw[hD] at h1;cases h1;cases h2
 refine⟨D,_,rfl,run_takeDeferred hD,?_⟩;obtain⟨ρ,hf⟩:=h.fits;have hs:bn (hot X.O ρ s.own) w (w.putObj D (.deferred none)):=fun b _ hb=>hcell b hb;refine⟨⟨fun d' hd'=>?_,hap.2⟩,h.kept,h.size,?_,h.others,h.small,ρ,fun e he=>?_,fun p hp=>?_,hf.io,hf.apart⟩;·obtain⟨D',rfl,h2,h3⟩:=h.marks.each d' (by rw[hd];exact List.mem_cons_of_mem _ hd');refine⟨D',rfl,h2,(hother D' ?_).trans h3⟩;rintro rfl;exact hap.1 _ hd' rfl
 ·exact⟨h.below.os,h.below.tape,h.below.output,by simpa using h.below.size,fun k hk hm=>(hother k (by omega)).trans (h.below.block k hk hm)⟩
 ·have:=gx (f:=id) (fun x v hx=>bb (fun _ _ h=>h) hs (fun _ _=>rfl) hx) (hf.env e he);have e2:e.2.map id=e.2:=by cases e.2<;>simp[AV.map]
  rwa [e2] at this
 ·exact(hf.own p hp).move_id (fun _ _ h=>h) hs (fun b hb=>hcell b ((hf.own p hp).cells hb))
theorem qn{X:Cx}{s:aa}{n:Nat}{fn:Func}{R:Ending->World->Prop}:∀(ds:List Deferred) (a:Act) (w:World),a.defers=ds->St X s a w->
  (∀a' w',a'.tmps=a.tmps->a'.defers=[]->St X s a' w'->∃v,(results fn a'.tmps).run X.P w'= .ok v w'/\R (.returned v) w')->LeavesInM (fw none) n X.P fn a.tmps R ds .returning w
 | [],a,w,hd,h,hfin=>hfin a w rfl hd h
 |d::ds,a,w,hd,h,hfin=>by
  obtain⟨D,w2,h1,h2,h3⟩:=h.unmark hd;exact⟨by simp,.inl ⟨D,w2,h1,h2,qn ds {a with defers:=ds} w2 rfl h3 (fun a' w' ht=>hfin a' w' ht)⟩⟩
theorem rm{P:Program}{T:Tab}(hT:dF P T){f:FuncId}{fn:Func}{code:Code}{c:Con}{fr:List Nat}(hf:P.funcs[f]? =some fn)(hb:fn.body=some code)(hN:T.N=fn.ntmps)(hkeep:T.keep=[])(hfr:∀k,ioB<=k->T.free.contains k=true->fr.contains (k-ioB)=true)
  (h:∀(args:List LV) (os:List aJ) (C:Prop) (rs:List RV) (os':List aJ),c args os=some (C,rs,os')->C->args.length<=T.N/\os'.length=os.length/\∀X:Cx,X.P=P->X.T=T->X.r=none->J X code {env:=az 0 args,own:=aj ioB os} (Ends T fn rs os')):Valid T.base P f c fr:=by
 intro args os C rs os' hc hC O w vals ρ0 hOn hIo hO hOI hargs hown hap;obtain⟨hlen,hlos,hJ⟩:=h args os C rs os' hc hC;have hJ:=hJ {P:=P,T:=T,O:=O,I:=bw ρ0 os,ρ0:=ρ0,w0:=w,r:=none,tm:=fun _=>undef} rfl rfl rfl;have hal:=hargs.length;refine CallsIn.calls (callsIn_of_wp_marks (F:=fw none) (n:=2) hf hb trivial ?_) (fun k=>room_wide k);have hst:St {P:=P,T:=T,O:=O,I:=bw ρ0 os,ρ0:=ρ0,w0:=w,r:=none,tm:=fun _=>undef} {env:=az 0 args,own:=aj ioB os} {tmps:=vals++Array.replicate (fn.ntmps-vals.size) undef,defers:=[]} w:=by
  refine⟨Marks.nil _ _,fun t ht=>by rw[hkeep] at ht;simp at ht,?_,Bel.refl _ _,fun b hb hm=>hm.elim (fun h1=>?_) (hOI b hb),⟨hT.small,hOn,hIo⟩,ρ0,fun e he=>?_,fun p hp=>?_,fun _ _ _ _=>rfl,hap⟩;·simp only[Array.size_append,Array.size_replicate];(have:vals.size=args.length:=by rw[hal];simp);rw[hN] at hlen ⊢;omega
  ·have:=hO b hb;simp only at h1;omega
  ·obtain⟨k,hk,rfl⟩:=tz he;obtain⟨v,hv1,hv2⟩:=hargs.get (List.getElem?_eq_getElem hk);(have hkv:k<vals.size:=by have:=(List.getElem?_eq_some_iff.1 hv1).1;simpa using this);have hget:(vals++Array.replicate (fn.ntmps-vals.size) undef).getD (0+k) undef=v:=by
    rw[Nat.zero_add,Array.getD_eq_getD_getElem?,Array.getElem?_append_left hkv];(have:vals[k]? =some v:=by simpa using hv1);rw[this];rfl
   simp only;rw[hget];exact hv2
  ·have:=(hown p hp).moved (H':=hot O ρ0 (aj ioB os)) (ρ':=ρ0) (k:=p.1) (f:=id) (M':=Cx.M {P:=P,T:=T,O:=O,I:=bw ρ0 os,ρ0:=ρ0,w0:=w,r:=none,tm:=fun _=>undef}) (fun _ _ h=>h) (fun _ _ h=>h) rfl (fun b hb=> .inr ⟨p,hp,hb⟩);rw[aJ.map_id] at this;exact this
 refine Code.wpIn_mono (fun e a w' ⟨s',h1,h2⟩=>?_) (hJ _ _ hst);have fin:∀s':aa,rl T s' (ep T s' fn.results.toList rs) fn.results.toList rs->IG s' os'.length ioB os'->∀a w',a.defers=[]->St {P:=P,T:=T,O:=O,I:=bw ρ0 os,ρ0:=ρ0,w0:=w,r:=none,tm:=fun _=>undef} s' a w'->∃v,(results fn a.tmps).run P w'= .ok v w'/\(∃(vs:List Value) (ρ1:Nat->Value),Ending.returned v= .returned (yc vs)/\os'.length=os.length/\Bel (fun b=>w.heap.size<=b∨bw ρ0 os b) w w'/\
   (∀k,¬(ioB<=k/\k<ioB+os.length/\fr.contains (k-ioB)=true)->ρ1 k=ρ0 k)/\
   bC (l5 (cX (hot O ρ1 (aj ioB os')) rs vs) w' (fun b=>w.heap.size<=b∨bw ρ0 os b)) rs vs/\fS rs vs/\(∀p∈aj ioB os',cl (cX (hot O ρ1 (aj ioB os')) rs vs) w' ρ1 (fun b=>w.heap.size<=b∨bw ρ0 os b) p)/\
   oS ρ1 (aj ioB os')/\∀b,bw ρ1 os' b-> ¬cX (fun _=>False) rs vs b):=by
  intro s' hr hio a w' _ h2;obtain⟨ρ,hfit⟩:=h2.fits;obtain⟨ρ1,hρ1d⟩:∃ ρ1:Nat->Value,ρ1=fun k=>if ioB<=k/\k<ioB+os.length/\T.free.contains k=true then ρ k else ρ0 k:=⟨_,rfl⟩
  have hthere:∀p∈aj ioB os',∃u,get? s'.own p.1=some u/\ρ p.1=ρ1 p.1/\ioB<=p.1/\u.leq s'.own p.2/\p.2.io os'.length=true:=by
   (intro p hp;obtain⟨q1,q2⟩:=eh.1 hp;obtain⟨u,hu,hle,hpio⟩:=E1 hio p hp;refine⟨u,hu,?_,q1,hle,hpio⟩;rw[hρ1d];by_cases hF:T.free.contains p.1=true;·simp only;rw[if_pos ⟨q1,by have:=(List.getElem?_eq_some_iff.1 q2).1;omega,hF⟩]);·simp only;rw[if_neg (fun e=>hF e.2.2)];exact hfit.io (p.1,u) (get?_mem hu) q1 (by simpa using hF)
  obtain⟨vs,g1,g2,g3,g4,g5⟩:=zI (X:={P:=P,T:=T,O:=O,I:=bw ρ0 os,ρ0:=ρ0,w0:=w,r:=none,tm:=fun _=>undef}) hT hfit h2.others h2.below.size _ _ _ hr;have hHs:∀b,cX (hot O ρ1 (aj ioB os')) rs vs b->hot O ρ s'.own b:=by
   (intro b hb;rw[e8] at hb;rcases hb with(hb|⟨p,hp,hb⟩)|hb;·exact .inl hb);·obtain⟨u,hu,e,_⟩:=hthere p hp;rw[<- e] at hb;exact dH (p:=(p.1,u)) (get?_mem hu) hb
   ·obtain⟨id,_,hb2,_,o,ho⟩:=g3 b hb;exact dH (p:=(id,o)) (get?_mem ho) hb2
  refine⟨_,zJ g1,vs,ρ1,rfl,hlos,h2.below,fun k hk=>?_,g5 _ hHs (fun id o b ho hid hlt hbk hb=>?_),g4,fun p hp=>?_,?_,fun b hb hbr=>?_⟩;·rw[hρ1d];simp only;rw[if_neg (fun e=>hk ⟨e.1,e.2.1,hfr k e.1 e.2.2⟩)]
  ·(rw[e8] at hb;rcases hb with(hb|⟨p,hp,hb⟩)|hb;·exact hb);·obtain⟨u,hu,e,hge,_⟩:=hthere p hp;rw[<- e] at hb;exact absurd hb (hfit.two (p:=(id,o)) (q:=(p.1,u)) (get?_mem ho) (get?_mem hu) (by simp only;omega) hbk)
   ·obtain⟨id',hid',hb2,_,o',ho'⟩:=g3 b hb;have hne:id≠id':=fun e=>hid (e▸hid');exact absurd hb2 (hfit.two (p:=(id,o)) (q:=(id',o')) (get?_mem ho) (get?_mem ho') hne hbk)
  ·obtain⟨u,hu,e,q1,hle,hpio⟩:=hthere p hp;have hρk:∀i,ioB<=i->i<ioB+os'.length->∃u,get? s'.own i=some u/\ρ i=ρ1 i:=by
    intro i hi hi2;obtain⟨u,hu,e,_⟩:=hthere (i,os'[i-ioB]'(by omega)) (eh.2 ⟨hi,by simp⟩);exact⟨u,hu,e⟩
   have hown:=hfit.own (p.1,u) (get?_mem hu);have h5:=hown.moved (H':=cX (hot O ρ1 (aj ioB os')) rs vs) (ρ':=ρ) (k:=p.1) (f:=id) (M':=Cx.M {P:=P,T:=T,O:=O,I:=bw ρ0 os,ρ0:=ρ0,w0:=w,r:=none,tm:=fun _=>undef}) (fun b _ hb=>hHs b hb) (fun x v hx=>bb (fun b _ hb=>hHs b hb) (bn.refl _ _) (fun _ _=>rfl) hx) rfl (fun b hb=>(hown.lt hb).1);rw[aJ.map_id] at h5;refine S5 hu hle hpio h5 e.symm (fun i hi hi2=>?_) (fun b hb=>(hown.lt hb).1);obtain⟨u',hu',e'⟩:=hρk i hi hi2;simp only[cY,hu',e']
  ·exact iS (fun i j=>i≠j/\∀b,Blk (ρ1 i) b-> ¬Blk (ρ1 j) b) os' ioB (fun i j h1 h2 h3=>by
    refine⟨by omega,fun b hb hjb=>?_⟩;obtain⟨u,hu,e,_⟩:=hthere (i,os'[i-ioB]'(by omega)) (eh.2 ⟨h1,by simp⟩);obtain⟨u',hu',e',_⟩:=hthere (j,os'[j-ioB]'(by omega)) (eh.2 ⟨by simp only;omega,by simp⟩);simp only at e e' hu hu';rw[<- e] at hb;rw[<- e'] at hjb;exact hfit.two (p:=(i,u)) (q:=(j,u')) (get?_mem hu) (get?_mem hu') (by simp only;omega) hb hjb)
  ·obtain⟨p,hp,hpb⟩:=hb;obtain⟨u,hu,e,hge,_⟩:=hthere p hp;rw[<- e] at hpb;obtain⟨id,_,hb2,hlt,o,ho⟩:=g3 b hbr;exact hfit.two (p:=(id,o)) (q:=(p.1,u)) (get?_mem ho) (get?_mem hu) (by simp only;omega) hb2 hpb
 cases e with
 |normal=>obtain⟨l,h1,h3⟩:=h1;exact qn _ a w' rfl (h2.freezeAll l) (fun a' w' _ hd hst=>fin _ h1 h3 a' w' hd hst)
 |ret=>obtain⟨l,h1,h3⟩:=h1;exact qn _ a w' rfl (h2.freezeAll l) (fun a' w' _ hd hst=>fin _ h1 h3 a' w' hd hst)
 |exit i=>exact h1.elim
 |goto l=>exact h1.elim
 |panic ch=>exact h1.elim
 |outgrown=>exact h1.elim
theorem aW{P:Program}{T:Tab}(hT:dF P T){f:FuncId}{fn:Func}{code:Code}{c:Con}(hf:P.funcs[f]? =some fn)(hb:fn.body=some code)(hN:T.N=fn.ntmps)(hkeep:T.keep=[])
  (h:∀(args:List LV) (os:List aJ) (C:Prop) (rs:List RV) (os':List aJ),c args os=some (C,rs,os')->C->args.length<=T.N/\os'.length=os.length/\∀X:Cx,X.P=P->X.T=T->X.r=none->J X code {env:=az 0 args,own:=aj ioB os} (Ends T fn rs os')) (hfree:T.free=[]:=by rfl):Valid T.base P f c:=
 rm hT hf hb hN hkeep (fun k _ hk=>by rw[hfree] at hk;simp at hk) (fun args os C rs os' hc hC=>by
  exact h args os C rs os' hc hC)
end Go.Cm
end
section
namespace Go.Cm
open Go.RowKit
theorem j8{P:Program}{T n:Nat}{z:Option Value}(h:(P.info? T).map (fun i=>(i.size,i.zero))=some (n,z)):∃i,P.info? T=some i/\i.size=n/\i.zero=z:=by
 cases hi:P.info? T with
 |none=>simp[hi] at h
 |some i=>simp[hi] at h;exact⟨i,rfl,h.1,h.2⟩
section
variable {P:Program} {T:TypeId}
theorem og{k:IntKind}(h:(P.info? T).map (fun i=>(i.size,i.zero))=some (1,some (.int k 0)):=by kernel_rfl)(hd:P.underlying T=some (.int k):=by kernel_rfl):cO P T (.int k):=by
 obtain⟨i,h1,h2,h3⟩:=j8 h;exact⟨i,_,h1,hd,h2,rfl,h3,rfl⟩
theorem Ql(h:(P.info? T).map (fun i=>(i.size,i.zero))=some (1,some (.bool false)):=by kernel_rfl)(hd:P.underlying T=some .bool:=by kernel_rfl):cO P T .bool:=by
 obtain⟨i,h1,h2,h3⟩:=j8 h;exact⟨i,_,h1,hd,h2,rfl,h3,rfl⟩
theorem LP(h:(P.info? T).map (fun i=>(i.size,i.zero))=some (1,some (.string ⟨#[]⟩)):=by kernel_rfl)(hd:P.underlying T=some .string:=by kernel_rfl):cO P T .str:=by
 obtain⟨i,h1,h2,h3⟩:=j8 h;exact⟨i,_,h1,hd,h2,rfl,h3,rfl⟩
theorem E2(h:(P.info? T).map (fun i=>(i.size,i.zero))=some (1,some .nilFunc):=by kernel_rfl)(hd:∃a b c,P.underlying T=some (.func a b c)):cO P T .func:=by
 obtain⟨i,h1,h2,h3⟩:=j8 h;obtain⟨a,b,c,hd⟩:=hd;exact⟨i,_,h1,hd,h2,rfl,h3,a,b,c,rfl⟩
theorem fD{E:TypeId}{t:Ty}(h:(P.info? T).map (fun i=>(i.size,i.zero))=some (1,some (.slice none 0 0)):=by kernel_rfl)(hd:P.underlying T=some (.slice E):=by kernel_rfl)
  (he:(P.info? E).map (fun i=>(i.size,i.zero))=some (t.w,some (mkV t.isAgg t.zeroCells)):=by kernel_rfl) (hb:(P.info? E).map (fun i=>decide (i.bytes<=24*t.w))=some true:=by kernel_rfl) (hw:t.isAgg=true∨t.w=1):cO P T (.slice t):=by
 obtain⟨i,h1,h2,h3⟩:=j8 h;obtain⟨j,g1,g2,g3⟩:=j8 he;rw[g1] at hb;have hb:j.bytes<=24*t.w:=by simpa using hb
 exact⟨i,_,h1,hd,h2,rfl,h3,E,j,rfl,g1,g2,hb,g3,fun h=>hw.resolve_left (by simp[h])⟩
theorem CI{E n:Nat}{t:Ty}(h:(P.info? T).map (fun i=>(i.size,i.zero))=some (n*t.w,some (.agg (List.replicate n t.zeroCells).flatten.toArray)):=by kernel_rfl)(hd:P.underlying T=some (.array n E):=by kernel_rfl)
  (he:(P.info? E).map (fun i=>i.size)=some t.w:=by kernel_rfl) (hr:(P.underlying E).map TypeDesc.isRow=some t.isAgg:=by kernel_rfl) (hw:t.isAgg=true∨t.w=1):cO P T (.arr n t):=by
 obtain⟨i,h1,h2,h3⟩:=j8 h;cases hj:P.info? E with
 |none=>simp[hj] at he
 |some j=>
  cases hu:P.underlying E with
  |none=>simp[hu] at hr
  |some d'=>
   simp[hj] at he;simp[hu] at hr;exact⟨i,_,h1,hd,h2,rfl,h3,E,j,d',rfl,hj,he,hu,hr,fun h=>hw.resolve_left (by simp[h])⟩
def E3(P:Program)(t:Ty)(fs:Array Field)(k:Nat):Bool:=
 match fs[k]? with
 |some f=>match P.info? f.type,P.underlying f.type with
  |some j,some e=>(f.offset==t.fieldOff k)&&(j.size==(t.fieldTy k).w)&&(j.size !=0)&&(e.isRow==(t.fieldTy k).isAgg)&&((t.fieldTy k).isAgg||((t.fieldTy k).w==1))
  |_,_=>false
 |none=>false
def zK(P:Program)(T:TypeId)(t:Ty):Bool:=
 match P.underlying T with
 |some (.struct fs)=>(fs.size==t.fields.length)&&(List.range t.fields.length).all (E3 P t fs)
 |_=>false
theorem v7{t:Ty}(h:(P.info? T).map (fun i=>(i.size,i.zero))=some (t.w,some (.agg t.zeroCells.toArray)):=by kernel_rfl)(hf:zK P T t=true:=by kernel_rfl):cO P T (.st t):=by
 obtain⟨i,h1,h2,h3⟩:=j8 h;unfold zK at hf;split at hf
 ·rename_i fs hd;simp only[Bool.and_eq_true,beq_iff_eq,List.all_eq_true,List.mem_range] at hf;refine⟨i,_,h1,hd,h2,rfl,h3,fs,rfl,hf.1,fun k hk=>?_⟩;have:=hf.2 k hk;unfold E3 at this;split at this
  ·(rename_i f hfk;split at this;·rename_i j e hj he;simp only[Bool.and_eq_true,Bool.or_eq_true,beq_iff_eq,bne_iff_ne] at this;obtain⟨⟨⟨⟨a1,a2⟩,a3⟩,a4⟩,a5⟩:=this;exact⟨f,j,e,hfk,a1,hj,a2,a3,he,a4,fun h=>a5.resolve_left (by simp[h])⟩);·cases this
  ·cases this
 ·cases hf
end
section
variable {P:Program} {B:aq}
theorem ab:∀t u,get? ([]:List (TypeId×Ty)) t=some u->cO P t u:=fun _ _ h=>by simp[get?] at h
theorem CJ{T:TypeId}{t:Ty}{l:List (TypeId×Ty)}(h:cO P T t)(hl:∀t u,get? l t=some u->cO P t u):∀t' u,get? ((T,t)::l) t'=some u->cO P t' u:=by
 intro t' u he;simp only[get?] at he;split at he;·rename_i e;cases he;subst e;exact h
 ·exact hl _ _ he
theorem ae:∀t e,get? ([]:List (TypeId×TypeId)) t=some e->P.underlying t=some (.slice e):=fun _ _ h=>by simp[get?] at h
theorem aK{T E:TypeId}{l:List (TypeId×TypeId)}(h:P.underlying T=some (.slice E))(hl:∀t e,get? l t=some e->P.underlying t=some (.slice e)):∀t e,get? ((T,E)::l) t=some e->P.underlying t=some (.slice e):=by
 intro t' u he;simp only[get?] at he;split at he;·rename_i e;cases he;subst e;exact h
 ·exact hl _ _ he
structure rn (B:aq) (P:Program) (f:FuncId) (c:Con) (fr:List Nat:=[]):Prop where
 valid:Valid B P f c fr
 body:∃fn,P.funcs[f]? =some fn/\(fn.name== "runtime.NumGoroutine")=false/\fn.body.isNone=false
theorem S6{f:FuncId}{fn:Func}{c:Con}{fr:List Nat}(hf:P.funcs[f]? =some fn)(hn:(fn.name== "runtime.NumGoroutine")=false)(hb:fn.body.isNone=false)(hv:Valid B P f c fr):rn B P f c fr:=⟨hv,fn,hf,hn,hb⟩
theorem ax{F:FuncId->List Nat}:∀f c,get? ([]:List (FuncId×Con)) f=some c->rn B P f c (F f):=fun _ _ h=>by simp[get?] at h
theorem IH{F:FuncId->List Nat}{f:FuncId}{c:Con}{l:List (FuncId×Con)}(h:rn B P f c (F f))(hl:∀f c,get? l f=some c->rn B P f c (F f)):∀f' c',get? ((f,c)::l) f'=some c'->rn B P f' c' (F f'):=by
 intro f' c' he;simp only[get?] at he;split at he;·rename_i e;cases he;subst e;exact h
 ·exact hl _ _ he
theorem aC{T:Tab}(h:∀f c,get? T.cons f=some c->rn T.base P f c ((get? T.frees f).getD [])):ig P T:=⟨fun f c e=>(h f c e).valid,fun f c e=>(h f c e).body⟩
theorem bI{T:Tab}(h:T.cons=[]):ig P T:=aC (by rw[h];intro f c hc;simp[get?] at hc)
end
end Go.Cm
end
section
namespace Go.Cm
open Go.RowKit
inductive Eff where
 |put (d:Nat) (v:AV)
 |new (d:Nat) (v:AV) (objs:List (Nat×aJ))
 |wr (id:Nat) (o:aJ)
 |app (d:Nat) (v:AV) (id:Nat) (o:aJ)
def Eff.apply:Eff->aa->aa
 | .put d v,s=>s.put d v
 | .new d v objs,s=>{env:=(d,v)::del s.env d,own:=objs++s.own}
 | .wr id o,s=>{s with own:=upd s.own id o}
 | .app d v id o,s=>{env:=(d,v)::del s.env d,own:=upd s.own id o}
def CV.refs:CV->List Nat
 | .p id=>[id]
 | .z _ _=>[]
def LV.refs:LV->List Nat
 | .ownS i| .ownP i _| .ownE i _ _| .ownW i _ _| .ownM i| .ownA i _| .ownR i _| .ownB i _ _ _=>[i]
 | .fn _ caps=>caps.flatMap CV.refs
 |_=>[]
def AV.refs:AV->List Nat
 | .l x=>x.refs
 | .agg cs=>cs.flatMap LV.refs
 | .tup xs=>xs.flatMap LV.refs
 | .g _ x=>x.refs
 | .gt _ xs=>xs.flatMap LV.refs
def aJ.refs:aJ->List Nat
 | .box _ cs=>cs.flatMap LV.refs
 |_=>[]
def et:List (Nat×aJ)->List Nat
 | []=>[]
 |(k,o)::r=>k::(o.refs++et r)
def gy:List (Nat×AV)->List Nat
 | []=>[]
 |(_,v)::r=>v.refs++gy r
def aa.refs(s:aa):List Nat:=gy s.env++et s.own
def Eff.news:Eff->List Nat
 | .new _ _ objs=>objs.map Prod.fst
 |_=>[]
def Eff.refs:Eff->List Nat
 | .put _ v=>v.refs
 | .new _ v objs=>v.refs++et objs
 | .wr id o=>id::o.refs
 | .app _ v id o=>v.refs++id::o.refs
abbrev Loc:=Bool×Nat
def Eff.locs:Eff->List Loc
 | .put d _=>[(false,d)]
 | .new d _ objs=>(false,d)::objs.map fun p=>(true,p.1)
 | .wr id _=>[(true,id)]
 | .app d _ id _=>[(false,d),(true,id)]
def yf(ops:List Oper)(o:Oper):List Nat:=
 tmpsOf o.op.operands.toList++match o.guard with
  |some (j,_)=>match ops[j]? with
   |some o'=>match o'.dst with
    |some t=>[t]
    |none=>[]
   |none=>[]
  |none=>[]
def eD:Op->Bool
 | .load ..| .indexAddr ..| .slice ..| .store ..| .call ..| .convert ..=>true
 |_=>false
def iG(s:aa):List Nat->List Nat
 | []=>[]
 |t::r=>(match get? s.env t with
  |some v=>v.refs
  |none=>[])++iG s r
def oh(ops:List Oper)(s:aa)(o:Oper):List Loc:=
 (yf ops o).map (fun t=>(false,t))++if eD o.op=true then (iG s (tmpsOf o.op.operands.toList)).map (fun i=>(true,i)) else []
def CK:RV->Bool
 | .fn _ caps=>caps.all fun c=>c.refs.isEmpty
 |_=>true
def CL(T:Tab)(ops:List Oper)(s:aa)(o:Oper)(j:Nat)(want:Bool)(d:Nat):Option (Prop×AV):=
 match guardOf ops s j want with
 |some φ=>match o.op with
  | .pick c x y=>match kn s c x y with
   |some (C,v)=>some (φ=true->(asks s.env (tmpsOf [c])/\C),.g φ v)
   |none=>none
  |op=>match aZ T {s with env:=cI s.env (tmpsOf op.operands.toList)} op with
   |some (C,.l v)=>some (φ=true->(asks s.env (tmpsOf op.operands.toList)/\C),.g φ v)
   |_=>match op with
    | .call c=>match c.callee with
     | .value f=>match df T d {s with env:=cI s.env (tmpsOf op.operands.toList)} f c.args.toList c.argTypes.toList with
      |some (C,rs)=>match Cp φ rs with
       |some v=>if 1000+8*d+rs.length<=ioB then some (φ=true->(asks s.env (tmpsOf op.operands.toList)/\C),v) else none
       |none=>none
      |_=>none
     |_=>none
    |op=>match vH T {s with env:=cI s.env (tmpsOf op.operands.toList)} op with
     |some (C,v)=>some (φ=true->(asks s.env (tmpsOf op.operands.toList)/\C),.g φ v)
     |none=>none
 |none=>none
def ko(T:Tab)(s:aa)(d:Nat)(args:List Operand)(types:List TypeId):Option (Prop×Eff):=
 match args,types with
 | [x,y],[t,u]=>match leaf (bc s x),get? T.types t,get? T.elems t,bc s y with
  |some (.ownR id j),some (.slice v),some E,some y'=>if t=u/\0<v.w/\y'.ids=[] then match y'.get (.slice v) with
    |some ys=>match get? s.own id with
     |some (.mat t' T' e rows idx)=>if h:t'=v then
       if e=E/\id<ioB then
        some (live rows j=true/\Roomy v.w ((rowOf rows j).length+ys.length),.app d (.l (.ownR id rows.length)) id (.mat v T' E ((h▸rows:List (Option (List v.D))).set j none++ [some (rowOf (h▸rows:List (Option (List v.D))) j++ys)]) idx))
       else none
      else none
     |_=>none
    |none=>none
   else none
  |_,_,_,_=>none
 |_,_=>none
def kI(T:Tab)(ops:List Oper)(s:aa)(o:Oper):Option (Prop×Eff):=
 match o.guard with
 |none=>match o.dst with
  |none=>match o.op with
   | .store t x y=>match leaf (bc s x),get? T.types t with
    |some (.ownP id off),some u=>match get? s.own id,bc s y with
     |some (.box e cs),some v=>match v.cells with
      |some new=>if new.length=u.w/\off+u.w<=cs.length then
        some (True,.wr id (.box e (cs.take off++(new++cs.drop (off+u.w)))))
       else none
      |none=>none
     |_,_=>none
    |some (.ownE id w i),some u=>match bc s y,get? s.own id with
     |some v,some (.arr t e xs)=>if v.ids=[] then match v.get u with
      |some a=>if h:u=t then
        if w=t.w then some (i<xs.length,.wr id (.arr t e (xs.set i (h▸a)))) else none
       else none
      |none=>none
      else none
     |_,_=>none
    |some (.ownA id i),some (.slice u)=>match bc s y,get? s.own id with
     |some (.l (.ownR id' j)),some (.mat t T' e rows idx)=>if u=t/\id'=id then
       some (i<idx.length/\j<rows.length,.wr id (.mat t T' e rows (idx.set i (some j))))
      else none
     |_,_=>none
    |_,_=>none
   |_=>none
  |some d=>if T.ok d then
    match o.op with
    | .pick c x y=>match kn s c x y with
     |some (C,v)=>some (asks s.env (tmpsOf [c])/\C,.put d (.l v))
     |none=>none
    | .call c=>match c.callee with
     | .value f=>match df T d s f c.args.toList c.argTypes.toList with
      |some (C,rs)=>if 1000+8*d+rs.length<=ioB/\rs.all CK=true then
        some (C,.new d (match (bP (1000+8*d) rs).1 with
         | [x]=>AV.l x
         |l=>AV.tup l) (bP (1000+8*d) rs).2)
       else none
      |none=>none
     | .builtin .append=>ko T s d c.args.toList c.argTypes.toList
     |_=>match aZ T s (.call c) with
      |some (C,v)=>some (C,.put d v)
      |none=>none
    | .buildSlice e n parts=>match get? T.types e,get? T.elems e with
     |some (.slice t),some _=>match cJ s t n 0 parts.toList with
      |some xs=>if (n*t.w<=16777216/\0<t.w)/\T.hint.contains d=false then some (True,.put d (.l (.z (.slice t) xs))) else none
      |none=>none
     |_,_=>none
    | .alloc e=>match get? T.types e with
     |some t=>some (True,.new d (.l (.ownP d 0)) [(d,.box e (t.zeroCells.map eR))])
     |none=>none
    | .build e parts=>match get? T.types e with
     |some (.st t)=>match b4 s t.fields 0 parts.toList with
      |some cs=>match dQ (.st t) cs with
       |some v=>some (True,.put d v)
       |none=>none
      |none=>none
     |some (.arr n t)=>match cJ s t n 0 parts.toList with
      |some xs=>some (True,.put d (.l (.z (.arr n t) xs)))
      |none=>none
     |_=>none
    | .box e x=>match get? T.types e,bc s x with
     |some t,some v=>if T.hint.contains d then
       match v.cells with
       |some cs=>if cs.length=t.w/\cs.all (fun c=> !c.isOf d) then some (True,.new d (.l (.ownP d 0)) [(d,.box e cs)]) else none
       |none=>none
      else if v.ids=[]/\T.hint.contains (3000000+d)=false then match v.get t with
       |some a=>some (True,.put d (.l (.z (.ptr t) a)))
       |none=>none
      else none
     |_,_=>none
    | .makeSlice e l c=>match get? T.types e,get? T.elems e,leaf (bc s l),leaf (bc s c) with
     |some (.slice t),some E,some (.z (.int _) l),some (.z (.int _) c)=>match t.zero with
      |some x=>if 0<t.w/\T.hint.contains (1000000+d)=false then
        some (mkC l c t.w,.new d (.l (.ownS d)) [(d,.arr t E (List.replicate l.toNat x))])
       else none
      |none=>none
     |_,_,_,_=>none
    |op=>match aZ T s op with
     |some (C,v)=>some (C,.put d v)
     |none=>none
   else none
 |some (j,want)=>match o.dst with
  |some d=>if T.ok d then match CL T ops s o j want d with
    |some (C,v)=>some (C,.put d v)
    |none=>none
   else none
  |none=>none
theorem nh{s:aa}{id:Nat}(h:id∉s.refs):s.kill id=s:=by
 have hc:∀c:CV,id∉c.refs->c.isOf id=false:=by
  intro c hc;cases c with
  |z=>rfl
  |p i=>simp[CV.refs] at hc;simp[CV.isOf];exact fun e=>hc e.symm
 have hl:∀x:LV,id∉x.refs->x.kill id=x:=by
  intro x hx;have:x.isOf id=false:=by
   cases x with
   |fn f caps=>
    simp only[LV.isOf,List.any_eq_false];intro c hcm;simp only[LV.refs,List.mem_flatMap,not_exists,not_and] at hx;simp[hc c (hx c hcm)]
   |ownS i=>simp[LV.refs] at hx;simp[LV.isOf];exact fun e=>hx e.symm
   |ownP i _=>simp[LV.refs] at hx;simp[LV.isOf];exact fun e=>hx e.symm
   |ownE i _ _=>simp[LV.refs] at hx;simp[LV.isOf];exact fun e=>hx e.symm
   |ownW i _ _=>simp[LV.refs] at hx;simp[LV.isOf];exact fun e=>hx e.symm
   |ownM i=>simp[LV.refs] at hx;simp[LV.isOf];exact fun e=>hx e.symm
   |ownA i _=>simp[LV.refs] at hx;simp[LV.isOf];exact fun e=>hx e.symm
   |ownR i _=>simp[LV.refs] at hx;simp[LV.isOf];exact fun e=>hx e.symm
   |ownB i _ _ _=>simp[LV.refs] at hx;simp[LV.isOf];exact fun e=>hx e.symm
   |_=>rfl
  simp[LV.kill,this]
 have hls:∀xs:List LV,id∉xs.flatMap LV.refs->xs.map (LV.kill id)=xs:=by
  intro xs;induction xs with
  |nil=>intro _;rfl
  |cons x xs ih=>
   intro h;simp only[List.flatMap_cons,List.mem_append,not_or] at h;simp[hl x h.1,ih h.2]
 have ha:∀v:AV,id∉v.refs->v.map (LV.kill id)=v:=by
  intro v hv;cases v with
  |l x=>simp only[AV.map,hl x hv]
  |agg cs=>simp only[AV.map,hls cs hv]
  |tup cs=>simp only[AV.map,hls cs hv]
  |g φ x=>simp only[AV.map,hl x hv]
  |gt φ cs=>simp only[AV.map,hls cs hv]
 have he:∀l:List (Nat×AV),id∉gy l->bZ (LV.kill id) l=l:=by
  intro l;induction l with
  |nil=>intro _;rfl
  |cons p l ih=>
   intro h;obtain⟨k,v⟩:=p;simp only[gy,List.mem_append,not_or] at h;simp[bZ,ha v h.1,ih h.2]
 have ho:∀l:List (Nat×aJ),id∉et l->bu (LV.kill id) l=l/\del l id=l:=by
  intro l;induction l with
  |nil=>intro _;exact⟨rfl,rfl⟩
  |cons p l ih=>
   intro h;obtain⟨k,v⟩:=p;simp only[et,List.mem_cons,List.mem_append,not_or] at h;obtain⟨h1,h2⟩:=ih h.2.2;have hk:¬k=id:=fun e=>h.1 e.symm;refine⟨?_,by simp[del,h2,hk]⟩;cases v with
   |box T cs=>simp[bu,aJ.map,hls cs h.2.1,h1]
   |_=>simp[bu,aJ.map,h1]
 obtain⟨env,own⟩:=s;simp only[aa.refs,List.mem_append,not_or] at h;simp[aa.kill,he env h.1,(ho own h.2).2,(ho own h.2).1]
theorem oV:∀{l:List Nat} {s:aa},(∀i∈l,i∉s.refs)->eS s l=s
 | [],_,_=>rfl
 |i::l,s,h=>by
  rw[eS,nh (h i (by simp))];exact oV fun j hj=>h j (by simp[hj])
theorem zL:∀(rs:List RV) (i:Nat),(bP i rs).2.map Prod.fst=cQ i rs
 | [],_=>rfl
 |r::rs,i=>by
  cases r<;>simp[bP,RV.give,cQ,zL rs (i+1)]
theorem zM{T:Tab}{ops:List Oper}{s:aa}{o:Oper}{C:Prop}{j:Nat}{want:Bool}{d:Nat}{v:AV}(hg:o.guard=some (j,want))(hd:o.dst=some d)(hok:T.ok d=true)(hv:CL T ops s o j want d=some (C,v)):dK T ops o s=some (C,s.put d v):=by
 unfold CL at hv;unfold dK;simp only[hg,hd];cases hφ:guardOf ops s j want with
 |none=>simp only[hφ] at hv;cases hv
 |some φ=>
  simp only[hφ] at hv ⊢;rw[if_pos hok];cases hop:o.op with
  |pick c x y=>
   (simp only[hop] at hv ⊢;split at hv;·rename_i C' v' hp;cases hv;simp only[hp]);·cases hv
  |call c=>
   simp only[hop] at hv ⊢;split at hv;·rename_i C' v' hp;cases hv;simp only[hp]
   ·rename_i hno;split;·rename_i C' v' hp;exact(hno C' v' hp).elim
    ·split at hv
     ·rename_i f hcal;simp only[hcal];split at hv
      ·rename_i C' rs hp;split at hv
       ·(rename_i v' hv';split at hv;·rename_i hid;cases hv;simp only[hp,hv'];rw[if_pos hid]);·cases hv
       ·cases hv
      ·cases hv
     ·cases hv
  |_=>
   simp only[hop] at hv ⊢;split at hv;·rename_i C' v' hp;cases hv;simp only[hp]
   ·rename_i hno;split;·rename_i C' v' hp;exact(hno C' v' hp).elim
    ·first
     |(split at hv
       ·rename_i C' v' hp2;cases hv;simp only[hp2]
       ·cases hv)
     |cases hv
theorem zO{T:Tab}{s:aa}{d:Nat}{l:List Operand}{ts:List TypeId}{C:Prop}{e:Eff}(h:ko T s d l ts=some (C,e)):appendOp T s (some d) l ts=some (C,e.apply s):=by
 unfold ko at h;split at h
 ·rename_i x y t u;split at h
  ·rename_i id j v E y' hx ht hE hy;split at h
   ·rename_i hc;split at h
    ·rename_i ys hys;split at h
     ·rename_i t' T' e' rows idx hg;split at h
      ·(rename_i hv;split at h;·rename_i he;cases h;have hfr:=jd hy hc.2.2;simp only[appendOp,hx,ht,hE];rw[if_pos ⟨hc.1,hc.2.1⟩];simp only[ee,hfr,hy,hys,hg];rw[dif_pos hv,if_pos he];rfl);·cases h
      ·cases h
     ·cases h
    ·cases h
   ·cases h
  ·cases h
 ·cases h
theorem CM{T:Tab}{ops:List Oper}{s:aa}{o:Oper}{C:Prop}{e:Eff}(h:kI T ops s o=some (C,e))(hf:∀i∈e.news,i∉s.refs):∃C',(C->C')/\dK T ops o s=some (C',e.apply s):=by
 unfold kI at h;split at h
 ·rename_i hg;split at h
  ·rename_i hd;split at h
   ·rename_i t x y hop;have hst:dK T ops o s=effOp T s none (.store t x y):=by
     unfold dK;rw[hg,hop,hd];rfl
    split at h
    ·rename_i id off u hx ht;split at h
     ·rename_i e' cs v hid hy;split at h
      ·(rename_i new hn;split at h;·rename_i hc;cases h;exact⟨True,fun h=>h,by rw[hst];simp only[effOp,Option.isSome_none,hx,ht,hid,hy,hn];rw[if_pos hc];rfl⟩);·cases h
      ·cases h
     ·cases h
    ·rename_i id w i u hx ht;split at h
     ·rename_i v t' e' xs hy hid;split at h
      ·rename_i hi;split at h
       ·rename_i a ha;split at h
        ·(rename_i hu;split at h;·rename_i hw;cases h;refine⟨_,fun h=>h,?_⟩;rw[hst];have hfr:=jd hy hi;simp only[effOp,Option.isSome_none,hx,ht,ee,hfr,hy,ha,hid];rw[dif_pos hu,if_pos hw];rfl);·cases h
        ·cases h
       ·cases h
      ·cases h
     ·cases h
    ·rename_i id i u hx ht;split at h
     ·(rename_i id' j t' T' e' rows idx hy hid;split at h;·rename_i hc;cases h;refine⟨_,fun h=>h,?_⟩;rw[hst];simp only[effOp,Option.isSome_none,hx,ht,hy,hid];rw[if_pos hc];rfl);·cases h
     ·cases h
    ·cases h
   ·cases h
  ·rename_i d hd;split at h
   ·rename_i hok;split at h
    ·(rename_i c x y hop;split at h;·rename_i C' v hp;cases h;exact⟨_,fun h=>h,by unfold dK;rw[hg];simp only[hop,hd,hp];rw[if_pos hok];rfl⟩);·cases h
    ·rename_i c hop;split at h
     ·rename_i f hcal;split at h
      ·(rename_i C' rs hp;split at h;·rename_i hid;cases h;(have hno:aZ T s (.call c)=none:=by simp only[aZ,hcal]);refine⟨C/\True,fun h=>⟨h,trivial⟩,?_⟩;unfold dK;rw[hg];simp only[hop,hd,hno];rw[if_pos hok];simp only[effOp,hcal,kH (d:=d) hp hid.1];have:eS s (cQ (1000+8*d) rs)=s:=oV fun i hi=>hf i (by simp only[Eff.news,zL];exact hi);simp only[endCall,this,Eff.apply];congr 2);·cases h
      ·cases h
     ·rename_i hcal;refine⟨_,fun h=>h,?_⟩;(have hno:aZ T s (.call c)=none:=by simp only[aZ,hcal];rfl);unfold dK;rw[hg];simp only[hop,hd,hno];rw[if_pos hok];simp only[effOp,hcal,zO h]
     ·(rename_i hcal;split at h;·rename_i C' v hp;cases h;exact⟨_,fun h=>h,by unfold dK;rw[hg];simp only[hop,hd,hp];rw[if_pos hok];rfl⟩);·cases h
    ·rename_i e' n parts hop;split at h
     ·rename_i t E ht hE;split at h
      ·(rename_i xs hxs;split at h;·rename_i hc;cases h;refine⟨True,fun h=>h,?_⟩;unfold dK;rw[hg];simp only[hop,hd,aZ];rw[if_pos hok];simp only[effOp,ht,hE,fu hxs];rw[if_pos hc.1,if_neg (by rw[hc.2];simp)];rfl);·cases h
      ·cases h
     ·cases h
    ·(rename_i e' hop;split at h;·rename_i t ht;cases h;refine⟨True,fun h=>h,?_⟩;unfold dK;rw[hg];simp only[hop,hd,aZ];rw[if_pos hok];simp only[effOp,ht,nh (hf d (by simp[Eff.news])),Eff.apply];rfl);·cases h
    ·rename_i e' parts hop;split at h
     ·rename_i t ht;split at h
      ·(rename_i cs hcs;split at h;·rename_i v hv;cases h;refine⟨True,fun h=>h,?_⟩;unfold dK;rw[hg];simp only[hop,hd,aZ];rw[if_pos hok];simp only[effOp,ht,hcs,hv];rfl);·cases h
      ·cases h
     ·(rename_i n t ht;split at h;·rename_i xs hxs;cases h;refine⟨True,fun h=>h,?_⟩;unfold dK;rw[hg];simp only[hop,hd,aZ];rw[if_pos hok];simp only[effOp,ht,fu hxs];rfl);·cases h
     ·cases h
    ·rename_i e' x hop;split at h
     ·rename_i t v ht hx;split at h
      ·rename_i hh;split at h
       ·(rename_i cs hcs;split at h;·rename_i hc;cases h;refine⟨True,fun h=>h,?_⟩;unfold dK;rw[hg];simp only[hop,hd,aZ];rw[if_pos hok];simp only[effOp,ht,hx,hcs];rw[if_pos hh,if_pos hc];simp only[nh (hf d (by simp[Eff.news])),Eff.apply];rfl);·cases h
       ·cases h
      ·rename_i hh;split at h
       ·(rename_i hi;split at h;·rename_i a ha;cases h;refine⟨True,fun h=>h,?_⟩;unfold dK;rw[hg];simp only[hop,hd,aZ];rw[if_pos hok];simp only[effOp,ht];rw[if_neg hh];simp only[ee,jd hx hi.1,hx,ha];rw[if_neg (by rw[hi.2];simp)];rfl);·cases h
       ·cases h
     ·cases h
    ·rename_i e' l c hop;split at h
     ·rename_i t E k l' k' c' ht hE hl hc;split at h
      ·(rename_i x hx;split at h;·rename_i hw;cases h;refine⟨_,fun h=>h,?_⟩;unfold dK;rw[hg];simp only[hop,hd,aZ];rw[if_pos hok];simp only[effOp,ht,hE,hl,hc,hx];rw[if_pos hw.1,if_neg (by rw[hw.2];simp)];simp only[nh (hf d (by simp[Eff.news])),Eff.apply];rfl);·cases h
      ·cases h
     ·cases h
    ·rename_i op h1 h2 h3 h4 h5 h6;split at h
     ·(rename_i C' v hp;cases h;refine⟨_,fun h=>h,?_⟩;unfold dK;simp only[hg];split;·rename_i C2 v2 hp2;rw[hp] at hp2;cases hp2;simp only[hd];rw[if_pos hok];rfl);·rename_i hp2;rw[hp] at hp2;cases hp2
     ·cases h
   ·cases h
 ·rename_i j want hg;split at h
  ·rename_i d hd;split at h
   ·(rename_i hok;split at h;·rename_i C' v hv;cases h;exact⟨_,fun h=>h,zM hg hd hok hv⟩);·cases h
   ·cases h
  ·cases h
theorem fa:∀{l:List Operand} {t:Nat},t∈tmpsOf l↔Operand.tmp t∈l
 | [],t=>by simp[tmpsOf]
 |x::r,t=>by
  cases x with
  |tmp u=>simp[tmpsOf,fa (l:=r)]
  |const v=>simp[tmpsOf,fa (l:=r)]
  |func f=>simp[tmpsOf,fa (l:=r)]
  |global g=>simp[tmpsOf,fa (l:=r)]
theorem kq{s s':aa}{x:Option Operand}(h:∀y,x=some y->bc s y=bc s' y):gq s x=gq s' x:=by
 cases x with
 |none=>rfl
 |some y=>simp only[gq,h y rfl]
theorem oW{s s':aa}:∀{l:List Operand},(∀x∈l,bc s x=bc s' x)->km s l=km s' l
 | [],_=>rfl
 |x::r,h=>by simp only[km,h x (by simp),oW (l:=r) fun y hy=>h y (by simp[hy])]
def nk(s s':aa)(xs:List Operand):Prop:=∀x∈xs,∀v,bc s' x=some v->∀i∈v.refs,get? s.own i=get? s'.own i
theorem zP{own own':List (Nat×aJ)}{u:Ty}{v:LV}(h:∀i∈v.refs,get? own i=get? own' i):cu own u v=cu own' u v:=by
 cases v with
 |ownS id=>simp only[cu,h id (by simp[LV.refs])]
 |ownM id=>simp only[cu,h id (by simp[LV.refs])]
 |ownW id w i=>simp only[cu,h id (by simp[LV.refs])]
 |ownR id j=>simp only[cu,h id (by simp[LV.refs])]
 |z t x=>cases t<;>rfl
 |_=>rfl
theorem il{o:Option AV}{x:LV}(h:leaf o=some x):o=some (.l x):=by
 unfold leaf at h;split at h;·cases h;rfl
 ·cases h
theorem tA{T:Tab}{s s':aa}{b:Builtin}{l:List Operand}{types:List TypeId}(he:∀x∈l,bc s x=bc s' x)(ho:nk s s' l):eA T s b l types=eA T s' b l types:=by
 unfold eA;cases b<;>try rfl
 case len=>
  simp only[];split
  ·rename_i x ty;rw[he x (by simp)];cases hx:leaf (bc s' x) with
   |none=>rfl
   |some v=>
    have:=fun u=>zP (own:=s.own) (own':=s'.own) (u:=u) (v:=v) (fun i hi=>ho x (by simp) _ (il hx) i (by simpa [AV.refs] using hi));have hr:∀id j,v= .ownR id j->get? s.own id=get? s'.own id:=fun id j e=>ho x (by simp) _ (il hx) id (by subst e;simp[AV.refs,LV.refs]);cases ht:get? T.types ty with
    |none=>cases v<;>rfl
    |some u=>
     cases v with
     |ownR id j=>cases u<;>first|rfl|simp only[hr id j rfl]
     |_=>simp only[this u]
  ·rfl
 case min=>
  simp only[];split;·rename_i x y;rw[he x (by simp),he y (by simp)]
  ·rfl
 case max=>
  simp only[];split;·rename_i x y;rw[he x (by simp),he y (by simp)]
  ·rfl
theorem je{T:Tab}{s s':aa}{op:Op}(he:∀x∈op.operands.toList,bc s x=bc s' x)(ho:eD op=true->nk s s' op.operands.toList):aZ T s op=aZ T s' op:=by
 cases op with
 |move x=>simp only[aZ,he x (by simp[Op.operands])]
 |assign x=>simp only[aZ,he x (by simp[Op.operands])]
 |binOp op ty x y ty'=>simp only[aZ,he x (by simp[Op.operands]),he y (by simp[Op.operands])]
 |unOp op ty x=>simp only[aZ,he x (by simp[Op.operands])]
 |convert a b x=>
  simp only[aZ,he x (by simp[Op.operands])];have ho:=ho rfl x (by simp[Op.operands]);cases hx:leaf (bc s' x) with
  |none=>rfl
  |some v=>
   have ho:=ho _ (il hx);have e:jV s.own v=jV s'.own v:=by
    cases v with
    |ownS id=>simp only[jV,ho id (by simp[AV.refs,LV.refs])]
    |z t y=>cases t with
     |slice u=>cases u with
      |int k=>cases k<;>rfl
      |_=>rfl
     |_=>rfl
    |_=>rfl
   simp only[e]
 |load t x=>
  simp only[aZ,he x (by simp[Op.operands])];have ho:=ho rfl x (by simp[Op.operands]);cases hx:leaf (bc s' x) with
  |none=>rfl
  |some v=>
   have ho:=ho _ (il hx);cases ht:get? T.types t with
   |none=>cases v<;>first|rfl|(rename_i u a;cases u<;>rfl)
   |some u=>
    cases v with
    |ownP id off=>simp only[ho id (by simp[AV.refs,LV.refs])]
    |ownE id w i=>simp only[ho id (by simp[AV.refs,LV.refs])]
    |ownA id i=>cases u<;>first|rfl|simp only[ho id (by simp[AV.refs,LV.refs])]
    |ownB id j w k=>simp only[ho id (by simp[AV.refs,LV.refs])]
    |z u' a=>cases u'<;>rfl
    |_=>rfl
 |nilCheck x=>simp only[aZ,he x (by simp[Op.operands])]
 |fieldAddr t x k=>simp only[aZ,he x (by simp[Op.operands])]
 |field t x k=>simp only[aZ,he x (by simp[Op.operands])]
 |indexAddr t x i=>
  simp only[aZ,he x (by simp[Op.operands]),he i (by simp[Op.operands])];have ho:=ho rfl x (by simp[Op.operands]);cases hx:leaf (bc s' x) with
  |none=>rfl
  |some v=>
   have ho:=ho _ (il hx);cases v with
   |ownS id=>
    have ho:=ho id (by simp[AV.refs,LV.refs]);generalize leaf (bc s' i)=li;generalize get? T.types t=u;rcases li with _|li;·rfl
    ·cases li with
     |z v n=>cases v<;>first|rfl|(rcases u with _|u<;>first|rfl|(cases u<;>first|rfl|simp only[ho]))
     |_=>rfl
   |ownM id=>
    have ho:=ho id (by simp[AV.refs,LV.refs]);generalize leaf (bc s' i)=li;generalize get? T.types t=u;rcases li with _|li;·rfl
    ·cases li with
     |z v n=>cases v<;>first|rfl|(rcases u with _|u<;>first|rfl|(cases u<;>first|rfl|(rename_i u;cases u<;>first|rfl|simp only[ho])))
     |_=>rfl
   |ownW id w j=>
    have ho:=ho id (by simp[AV.refs,LV.refs]);generalize leaf (bc s' i)=li;generalize get? T.types t=u;rcases li with _|li;·rfl
    ·cases li with
     |z v n=>cases v<;>first|rfl|(rcases u with _|u<;>first|rfl|(cases u<;>first|rfl|simp only[ho]))
     |_=>rfl
   |ownR id j=>
    have ho:=ho id (by simp[AV.refs,LV.refs]);generalize leaf (bc s' i)=li;generalize get? T.types t=u;rcases li with _|li;·rfl
    ·cases li with
     |z v n=>cases v<;>first|rfl|(rcases u with _|u<;>first|rfl|(cases u<;>first|rfl|simp only[ho]))
     |_=>rfl
   |ownP id off=>
    generalize leaf (bc s' i)=li;generalize get? T.types t=u;rcases li with _|li;·rfl
    ·cases li with
     |z v n=>cases v<;>first|rfl|(rcases u with _|u<;>first|rfl|(cases u<;>rfl))
     |_=>rfl
   |z v n=>
    generalize leaf (bc s' i)=li;generalize get? T.types t=u;cases v with
    |slice t'=>
     rcases li with _|li;·rfl
     ·cases li with
      |z v' n'=>cases v'<;>first|rfl|(rcases u with _|u<;>first|rfl|(cases u<;>rfl))
      |_=>rfl
    |ptr t'=>
     cases t' with
     |arr m' t''=>
      rcases li with _|li;·rfl
      ·cases li with
       |z v' n'=>cases v'<;>first|rfl|(rcases u with _|u<;>first|rfl|(cases u<;>rfl))
       |_=>rfl
     |_=>rfl
    |_=>rfl
   |_=>rfl
 |index t x i=>simp only[aZ,he x (by simp[Op.operands]),he i (by simp[Op.operands])]
 |slice t x lo hi mx=>
  simp only[aZ,he x (by simp[Op.operands])];rw[kq (s:=s) (s':=s') (x:=lo) (fun y e=>he y (by subst e;simp[Op.operands])),kq (s:=s) (s':=s') (x:=hi) (fun y e=>he y (by subst e;simp[Op.operands])),kq (s:=s) (s':=s') (x:=mx) (fun y e=>he y (by subst e;simp[Op.operands]))]
 |extract x n=>simp only[aZ,he x (by simp[Op.operands])]
 |makeFunc fn first caps=>
  cases fn with
  |func f=>
   simp only[aZ];rw[oW (s:=s) (s':=s') (l:=caps.toList) (fun y hy=>he y (by simp[Op.operands];exact .inr (by simpa using hy)))]
  |_=>rfl
 |call c=>
  simp only[aZ];split;·rename_i b hcal;exact tA (fun x hx=>he x (by simp[Op.operands,Call.operands,hcal];first|exact .inr (by simpa using hx)|simpa using hx)) (fun x hx=>ho rfl x (by simp[Op.operands,Call.operands,hcal];first|exact .inr (by simpa using hx)|simpa using hx))
  ·rfl
 |_=>rfl
theorem lf{s:aa}:∀{l:List Nat} {t:Nat} {v:AV} {i:Nat},t∈l->get? s.env t=some v->i∈v.refs->i∈iG s l
 |u::r,t,v,i,ht,hv,hi=>by
  simp only[iG,List.mem_append];rcases List.mem_cons.1 ht with rfl|ht;·left;rw[hv];exact hi
  ·right;exact lf ht hv hi
theorem tB(v:Value):(AV.l (eR v)).refs=[]:=by cases v<;>rfl
theorem II{s:aa}{l:List Operand}{x:Operand}{v:AV}{i:Nat}(hx:x∈l)(hv:bc s x=some v)(hi:i∈v.refs):i∈iG s (tmpsOf l):=by
 cases x with
 |tmp t=>exact lf (fa.2 hx) hv hi
 |const u=>cases hv;rw[tB] at hi;simp at hi
 |func f=>cases hv;simp[AV.refs,LV.refs] at hi
 |global g=>cases hv
theorem tC{s s':aa}{f:Operand}(h:bc s f=bc s' f):eX s f=eX s' f:=by unfold eX;rw[h]
theorem lV{T:Tab}{s s':aa}:∀{l:List Operand} {ts:List TypeId},(∀x∈l,bc s x=bc s' x)->cC T s ts l=cC T s' ts l
 | [],ts,_=>by cases ts<;>rfl
 |x::r,[],_=>rfl
 |x::r,t::ts,h=>by
  have:eC T s t x=eC T s' t x:=by unfold eC;rw[h x (by simp)]
  simp only[cC,this,lV (l:=r) (ts:=ts) fun y hy=>h y (by simp[hy])]
theorem lW{T:Tab}{d:Nat}{s s':aa}{f:Operand}{l:List Operand}{ts:List TypeId}(hf:bc s f=bc s' f)(h:∀x∈l,bc s x=bc s' x):df T d s f l ts=df T d s' f l ts:=by
 unfold df;rw[tC hf,lV h]
theorem oX{s s':aa}{c x y:Operand}(hc:bc s c=bc s' c)(hx:bc s x=bc s' x)(hy:bc s y=bc s' y):kn s c x y=kn s' c x y:=by
 unfold kn;rw[hc];split
 ·split;·rw[hy]
  ·rw[hx]
  ·rfl
 ·rfl
theorem lh{env env':List (Nat×AV)}:∀{l:List Nat},(∀t∈l,get? env t=get? env' t)->asks env l=asks env' l
 | [],_=>rfl
 |t::r,h=>by simp only[asks,h t (by simp),lh (l:=r) fun u hu=>h u (by simp[hu])]
theorem oY{env env':List (Nat×AV)}:∀{l:List Nat},(∀t∈l,get? env t=get? env' t)->cI env l=cI env' l
 | [],_=>rfl
 |t::r,h=>by simp only[cI,h t (by simp),oY (l:=r) fun u hu=>h u (by simp[hu])]
theorem fv{s s':aa}:∀{ts:List Ty} {i:Nat} {ps:List (Nat×Operand)},(∀p∈ps,bc s p.2=bc s' p.2)->b4 s ts i ps=b4 s' ts i ps
 | [],_,[],_=>rfl
 | [],_,_::_,_=>rfl
 |t::ts,i,[],h=>by simp only[b4,fv (ts:=ts) h]
 |t::ts,i,(j,x)::ps,h=>by
  have h1:=fv (s:=s) (s':=s') (ts:=ts) (i:=i+1) (ps:=ps) fun p hp=>h p (by simp[hp]);have h2:=fv (s:=s) (s':=s') (ts:=ts) (i:=i+1) (ps:=(j,x)::ps) h;simp only[b4,h (j,x) (by simp),h1,h2]
theorem eK{s s':aa}{t:Ty}:∀{n i:Nat} {ps:List (Nat×Operand)},(∀p∈ps,bc s p.2=bc s' p.2)->cJ s t n i ps=cJ s' t n i ps
 |0,_,[],_=>rfl
 |0,_,_::_,_=>rfl
 |n+1,i,[],h=>by simp only[cJ,eK (n:=n) h]
 |n+1,i,(j,x)::ps,h=>by
  have h1:=eK (s:=s) (s':=s') (t:=t) (n:=n) (i:=i+1) (ps:=ps) fun p hp=>h p (by simp[hp]);have h2:=eK (s:=s) (s':=s') (t:=t) (n:=n) (i:=i+1) (ps:=(j,x)::ps) h;simp only[cJ,h (j,x) (by simp),h1,h2]
theorem CN(v:AV):v.plain.refs=v.refs:=by cases v<;>rfl
theorem get?_sub{env:List (Nat×AV)}:∀{l:List Nat} {t:Nat} {v:AV},get? (cI env l) t=some v->∃u,get? env t=some u/\v=u.plain/\t∈l
 | [],t,v,h=>by simp[cI,get?] at h
 |k::r,t,v,h=>by
  simp only[cI] at h;split at h
  ·(rename_i u hu;simp only[get?] at h;split at h;·rename_i e;subst e;cases h;exact⟨u,hu,rfl,by simp⟩);·obtain⟨u',h1,h2,h3⟩:=get?_sub h;exact⟨u',h1,h2,by simp[h3]⟩
  ·obtain⟨u',h1,h2,h3⟩:=get?_sub h;exact⟨u',h1,h2,by simp[h3]⟩
theorem yg{T:Tab}{s s':aa}{d:Nat}{l:List Operand}{ts:List TypeId}(hop:∀x∈l,bc s x=bc s' x)(hso:nk s s' l):ko T s d l ts=ko T s' d l ts:=by
 unfold ko;split
 ·rename_i x y t u;rw[hop x (by simp),hop y (by simp)];cases hx:leaf (bc s' x) with
  |none=>rfl
  |some v=>
   cases v with
   |ownR id j=>
    (have e:=hso x (by simp) _ (il hx) id (by simp[AV.refs,LV.refs]);generalize get? T.types t=a;generalize get? T.elems t=b;generalize bc s' y=c;rcases a with _|a;·rfl);·cases a<;>first|rfl|(rcases b with _|b<;>first|rfl|(rcases c with _|c<;>first|rfl|simp only[e]))
   |_=>rfl
 ·rfl
theorem LQ{T:Tab}{env:List (Nat×AV)}(own own':List (Nat×aJ)){op:Op}:vH T {env:=env,own:=own} op=vH T {env:=env,own:=own'} op:=by
 cases op with
 |buildSlice e n parts=>
  simp only[vH];split;·rename_i t E ht hE;rw[eK (s:=⟨env,own⟩) (s':=⟨env,own'⟩) (fun p _=>by cases p.2<;>rfl)]
  ·rfl
 |makeSlice e l c=>cases l<;>cases c<;>rfl
 |_=>rfl
theorem zQ{T:Tab}{ops:List Oper}{s s':aa}{o:Oper}(he:∀t∈yf ops o,get? s.env t=get? s'.env t)
  (ho:eD o.op=true->∀i∈iG s' (tmpsOf o.op.operands.toList),get? s.own i=get? s'.own i):kI T ops s o=kI T ops s' o:=by
 have hsl:∀t∈tmpsOf o.op.operands.toList,get? s.env t=get? s'.env t:=fun t ht=>he t (List.mem_append_left _ ht);have hop:∀x∈o.op.operands.toList,bc s x=bc s' x:=by
  intro x hx;cases x with
  |tmp t=>exact hsl t (fa.2 hx)
  |_=>rfl
 have hso:eD o.op=true->nk s s' o.op.operands.toList:=fun hr x hx v hv i hi=>ho hr i (II hx hv hi);unfold kI;cases hg:o.guard with
 |none=>
  simp only[];cases hd:o.dst with
  |none=>
   simp only[];cases hopp:o.op with
   |store t x y=>
    rw[hopp] at hop hso;simp only[hop x (by simp[Op.operands]),hop y (by simp[Op.operands])];have hso:=hso rfl x (by simp[Op.operands]);cases hx:leaf (bc s' x) with
    |none=>rfl
    |some v=>
     have hso:=hso _ (il hx);cases ht:get? T.types t with
     |none=>cases v<;>rfl
     |some u=>
      cases v with
      |ownP id off=>simp only[hso id (by simp[AV.refs,LV.refs])]
      |ownE id w i=>simp only[hso id (by simp[AV.refs,LV.refs])]
      |ownA id i=>cases u<;>first|rfl|simp only[hso id (by simp[AV.refs,LV.refs])]
      |_=>rfl
   |_=>rfl
  |some d=>
   simp only[];split
   ·cases hopp:o.op with
    |pick c x y=>
     rw[hopp] at hop hsl;simp only[oX (hop c (by simp[Op.operands])) (hop x (by simp[Op.operands])) (hop y (by simp[Op.operands]))];rw[lh (env:=s.env) (env':=s'.env) (fun t ht=>hsl t (by
      rw[fa] at ht ⊢;simp at ht;subst ht;simp[Op.operands]))]
    |call c=>
     (rw[hopp] at hop hso;simp only[];split;·rename_i f hcal;rw[lW (s:=s) (s':=s') (hop f (by simp[Op.operands,Call.operands,hcal])) (fun x hx=>hop x (by simp[Op.operands,Call.operands,hcal];first|exact .inr (by simpa using hx)|simpa using hx))]);·rename_i hcal;have hop':∀x∈c.args.toList,bc s x=bc s' x:=fun x hx=>hop x (by simp[Op.operands,Call.operands,hcal];first|exact .inr (by simpa using hx)|simpa using hx);have hso':nk s s' c.args.toList:=fun x hx=>hso rfl x (by simp[Op.operands,Call.operands,hcal];first|exact .inr (by simpa using hx)|simpa using hx);exact yg hop' hso'
     ·rw[je hop hso]
    |alloc e=>rfl
    |buildSlice e n parts=>
     (rw[hopp] at hop;simp only[];split;·rename_i t E ht hE;rw[eK (s:=s) (s':=s') (fun p hp=>hop p.2 (by simp[Op.operands];exact⟨p.1,by simpa using hp⟩))]);·rfl
    |build e parts=>
     (rw[hopp] at hop;simp only[];split;·rename_i t ht;rw[fv (s:=s) (s':=s') (fun p hp=>hop p.2 (by simp[Op.operands];exact⟨p.1,by simpa using hp⟩))]);·rename_i n t ht;rw[eK (s:=s) (s':=s') (fun p hp=>hop p.2 (by simp[Op.operands];exact⟨p.1,by simpa using hp⟩))]
     ·rfl
    |box e x=>
     rw[hopp] at hop;simp only[hop x (by simp[Op.operands])]
    |makeSlice e l c=>
     rw[hopp] at hop;simp only[hop l (by simp[Op.operands]),hop c (by simp[Op.operands])]
    |_=>rw[hopp] at hop hso;simp only[je (T:=T) hop hso]
   ·rfl
 |some g=>
  obtain⟨j,want⟩:=g;simp only[];cases hd:o.dst with
  |none=>rfl
  |some d=>
   simp only[];split
   ·have hgd:guardOf ops s j want=guardOf ops s' j want:=by
     unfold guardOf;cases ho':ops[j]? with
     |none=>rfl
     |some o'=>
      simp only[];cases hd':o'.dst with
      |none=>rfl
      |some t=>
       have:=he t (List.mem_append_right _ (by simp[hg,ho',hd']));simp only[this]
    have hsub:=oY hsl;have hask:=lh hsl;have hso2:eD o.op=true->nk {s with env:=cI s'.env (tmpsOf o.op.operands.toList)} {s' with env:=cI s'.env (tmpsOf o.op.operands.toList)} o.op.operands.toList:=by
     intro hr x hx v hv i hi;refine ho hr i ?_;cases x with
     |tmp t=>
      obtain⟨u,h1,h2,h3⟩:=get?_sub (show get? (cI s'.env _) t=some v from hv);subst h2;rw[CN] at hi;exact lf h3 h1 hi
     |const u=>cases hv;rw[tB] at hi;simp at hi
     |func f=>cases hv;simp[AV.refs,LV.refs] at hi
     |global g=>cases hv
    have hgv:CL T ops s o j want d=CL T ops s' o j want d:=by
     unfold CL;rw[hgd];split
     ·rename_i φ hφ;cases hopp:o.op with
      |pick c x y=>
       rw[hopp] at hop hsl;simp only[oX (hop c (by simp[Op.operands])) (hop x (by simp[Op.operands])) (hop y (by simp[Op.operands]))];rw[lh (env:=s.env) (env':=s'.env) (fun t ht=>hsl t (by
        rw[fa] at ht ⊢;simp at ht;subst ht;simp[Op.operands]))]
      |call c=>
       rw[hopp] at hso2 hsub hask;have hp:=je (T:=T) (s:={s with env:=cI s'.env (tmpsOf (Op.call c).operands.toList)}) (s':={s' with env:=cI s'.env (tmpsOf (Op.call c).operands.toList)}) (op:= .call c) (fun _ _=>by rename_i x _;cases x<;>rfl) hso2;have hq:∀f,df T d {s with env:=cI s'.env (tmpsOf (Op.call c).operands.toList)} f c.args.toList c.argTypes.toList=df T d {s' with env:=cI s'.env (tmpsOf (Op.call c).operands.toList)} f c.args.toList c.argTypes.toList:=fun f=>
        lW (by cases f<;>rfl) (fun x _=>by cases x<;>rfl)
       simp only[hsub,hask,hp,hq]
      |_=>
       rw[hopp] at hso2 hsub hask;simp only[hsub,hask];rw[je (T:=T) (s:={s with env:=_}) (s':={s' with env:=_}) (fun x _=>by cases x<;>rfl) hso2];rw[LQ s.own s'.own]
     ·rfl
    rw[hgv]
   ·rfl
def look(s:aa):Loc->Option (AV ⊕ aJ)
 |(false,t)=>(get? s.env t).map .inl
 |(true,i)=>(get? s.own i).map .inr
def Eff.valAt:Eff->Loc->Option (AV ⊕ aJ)
 | .put _ v,_=>some (.inl v)
 | .new _ v _,(false,_)=>some (.inl v)
 | .new _ _ objs,(true,i)=>(get? objs i).map .inr
 | .wr _ o,_=>some (.inr o)
 | .app _ v _ _,(false,_)=>some (.inl v)
 | .app _ _ _ o,(true,_)=>some (.inr o)
theorem get?_del{α:Type}:∀(l:List (Nat×α)) (d t:Nat),get? (del l d) t=if t=d then none else get? l t
 | [],d,t=>by simp[del,get?]
 |(k,x)::r,d,t=>by
  simp only[del];split
  ·(rename_i e;subst e;rw[get?_del r k t];by_cases h:t=k;·simp[h]);·have h':¬k=t:=fun e=>h e.symm;simp[get?,h,h']
  ·(rename_i e;simp only[get?];split;·rename_i e2;subst e2;rw[if_neg e]);·exact get?_del r d t
theorem get?_upd{α:Type}:∀(l:List (Nat×α)) (n k:Nat) (y:α),get? (upd l n y) k=if k=n then (get? l n).map (fun _=>y) else get? l k
 | [],n,k,y=>by simp[upd,get?]
 |(j,x)::r,n,k,y=>by
  simp only[upd];split
  ·(rename_i e;subst e;by_cases h:k=j;·subst h;simp[get?]);·have h':¬j=k:=fun e=>h e.symm;simp[get?,h,h']
  ·(rename_i e;simp only[get?];rw[get?_upd r n k y];by_cases h:j=k;·subst h;simp[e]);·simp[h,e]
theorem get?_app{α:Type}:∀(l m:List (Nat×α)) (n:Nat),get? (l++m) n=(get? l n).or (get? m n)
 | [],m,n=>by simp[get?]
 |(k,x)::r,m,n=>by
  simp only[List.cons_append,get?];split;·rfl
  ·exact get?_app r m n
theorem get?_isSome{α:Type}:∀(l:List (Nat×α)) (n:Nat),(get? l n).isSome=true↔n∈l.map Prod.fst
 | [],n=>by simp[get?]
 |(k,x)::r,n=>by
  simp only[get?,List.map_cons,List.mem_cons];split;·rename_i e;subst e;simp
  ·rename_i e;rw[get?_isSome r n];exact⟨.inr,fun h=>h.resolve_left (fun e2=>e e2.symm)⟩
theorem CO{e:Eff}{s:aa}(hw:∀id o,(e= .wr id o∨∃d v,e= .app d v id o)->(get? s.own id).isSome=true)(loc:Loc):look (e.apply s) loc=if loc∈e.locs then e.valAt loc else look s loc:=by
 obtain⟨b,n⟩:=loc;cases e with
 |put d v=>
  cases b with
  |false=>
   (simp only[Eff.apply,aa.put,look,get?,get?_del,Eff.locs,List.mem_singleton,Prod.mk.injEq,true_and,Eff.valAt];by_cases h:n=d;·subst h;simp);·have h':¬d=n:=fun e=>h e.symm;simp[h,h']
  |true=>simp[Eff.apply,aa.put,look,Eff.locs]
 |new d v objs=>
  cases b with
  |false=>
   (simp only[Eff.apply,look,get?,get?_del,Eff.locs,List.mem_cons,Prod.mk.injEq,true_and,Eff.valAt,List.mem_map];by_cases h:n=d;·subst h;simp);·have h':¬d=n:=fun e=>h e.symm;simp[h,h']
  |true=>
   simp only[Eff.apply,look,get?_app,Eff.locs,List.mem_cons,Prod.mk.injEq,Eff.valAt,List.mem_map];by_cases h:(get? objs n).isSome=true;·obtain⟨p,hp,e⟩:=List.mem_map.1 ((get?_isSome objs n).1 h);rw[if_pos (.inr ⟨p,hp,trivial,e⟩)];obtain⟨x,hx⟩:=Option.isSome_iff_exists.1 h;simp[hx]
   ·rw[if_neg (by
     (rintro(h1|⟨p,hp,e1,e2⟩);·simp at h1);·exact h ((get?_isSome objs n).2 (List.mem_map.2 ⟨p,hp,e2⟩)))]
    (have:get? objs n=none:=by simpa using h);simp[this]
 |wr id o=>
  cases b with
  |false=>simp[Eff.apply,look,Eff.locs]
  |true=>
   (simp only[Eff.apply,look,get?_upd,Eff.locs,List.mem_singleton,Prod.mk.injEq,true_and,Eff.valAt];by_cases h:n=id;·subst h;obtain⟨x,hx⟩:=Option.isSome_iff_exists.1 (hw n o (.inl rfl));simp[hx]);·simp[h]
 |app d v id o=>
  cases b with
  |false=>
   (simp only[Eff.apply,look,get?,get?_del,Eff.locs,List.mem_cons,List.not_mem_nil,or_false,Prod.mk.injEq,true_and,Bool.false_eq_true,false_and,Eff.valAt];by_cases h:n=d;·subst h;simp);·have h':¬d=n:=fun e=>h e.symm;simp[h,h']
  |true=>
   (simp only[Eff.apply,look,get?_upd,Eff.locs,List.mem_cons,List.not_mem_nil,or_false,Prod.mk.injEq,true_and,Bool.true_eq_false,false_and,false_or,Eff.valAt];by_cases h:n=id;·subst h;obtain⟨x,hx⟩:=Option.isSome_iff_exists.1 (hw n o (.inr ⟨d,v,rfl⟩));simp[hx]);·simp[h]
theorem CP{T:Tab}{s:aa}{d:Nat}{l:List Operand}{ts:List TypeId}{C:Prop}{e:Eff}(h:ko T s d l ts=some (C,e)):∃v id o,e= .app d v id o/\(get? s.own id).isSome=true:=by
 unfold ko at h
 (repeat' split at h)<;>first|cases h;done|skip
 all_goals (cases h;rename_i hg _ _;exact⟨_,_,_,rfl,by rw[hg];rfl⟩)
theorem LR{T:Tab}{ops:List Oper}{s:aa}{o:Oper}{C:Prop}{id:Nat}{ob:aJ}{e:Eff}(h:kI T ops s o=some (C,e))(he:e= .wr id ob∨∃d v,e= .app d v id ob):(get? s.own id).isSome=true:=by
 unfold kI at h;split at h
 ·split at h
  ·split at h
   ·split at h
    ·split at h
     ·rename_i hid _;split at h
      ·split at h
       ·(cases h;rcases he with he|⟨_,_,he⟩;·cases he;rw[hid];rfl);·cases he
       ·cases h
      ·cases h
     ·cases h
    ·split at h
     ·rename_i hid;split at h
      ·split at h
       ·split at h
        ·split at h
         ·(cases h;rcases he with he|⟨_,_,he⟩;·cases he;rw[hid];rfl);·cases he
         ·cases h
        ·cases h
       ·cases h
      ·cases h
     ·cases h
    ·split at h
     ·rename_i hid;split at h
      ·(cases h;rcases he with he|⟨_,_,he⟩;·cases he;rw[hid];rfl);·cases he
      ·cases h
     ·cases h
    ·cases h
   ·cases h
  ·split at h
   ·split at h;case h_2=>
     split at h;case h_2=>
      (obtain⟨v,i,o,rfl,h2⟩:=CP h;rcases he with he|⟨_,_,he⟩;·cases he);·cases he;exact h2
     all_goals ((repeat' split at h)<;>cases h<;>rcases he with he|⟨_,_,he⟩<;>cases he)
    all_goals ((repeat' split at h)<;>cases h<;>rcases he with he|⟨_,_,he⟩<;>cases he)
   ·cases h
 ·split at h
  ·(split at h;·split at h<;>cases h;rcases he with he|⟨_,_,he⟩<;>cases he);·cases h
  ·cases h
theorem mi:∀(l:List (Nat×AV)) (d:Nat),∀i∈gy (del l d),i∈gy l
 | [],_,i,h=>h
 |(k,v)::r,d,i,h=>by
  simp only[del] at h;simp only[gy,List.mem_append];split at h;·exact .inr (mi r d i h)
  ·simp only[gy,List.mem_append] at h;exact h.imp id (mi r d i)
theorem rp:∀(l m:List (Nat×aJ)),et (l++m)=et l++et m
 | [],_=>rfl
 |(k,o)::r,m=>by simp[et,rp r m]
theorem mj:∀(l:List (Nat×aJ)) (n:Nat) (o:aJ),∀i∈et (upd l n o),i∈et l∨i∈o.refs
 | [],_,_,i,h=> .inl h
 |(k,x)::r,n,o,i,h=>by
  simp only[upd] at h;split at h
  ·(simp only[et,List.mem_cons,List.mem_append] at h ⊢;rcases h with h|h|h;·exact .inl (.inl h));·exact .inr h
   ·exact .inl (.inr (.inr h))
  ·(simp only[et,List.mem_cons,List.mem_append] at h ⊢;rcases h with h|h|h;·exact .inl (.inl h));·exact .inl (.inr (.inl h))
   ·exact(mj r n o i h).imp (fun h=> .inr (.inr h)) id
theorem CQ(e:Eff)(s:aa):∀i∈(e.apply s).refs,i∈s.refs∨i∈e.refs:=by
 intro i h;cases e with
 |put d v=>
  simp only[Eff.apply,aa.put,aa.refs,gy,List.mem_append,Eff.refs] at h ⊢;rcases h with(h|h)|h;·exact .inr h
  ·exact .inl (.inl (mi _ _ _ h))
  ·exact .inl (.inr h)
 |new d v objs=>
  simp only[Eff.apply,aa.refs,gy,rp,List.mem_append,Eff.refs] at h ⊢;rcases h with(h|h)|h|h;·exact .inr (.inl h)
  ·exact .inl (.inl (mi _ _ _ h))
  ·exact .inr (.inr h)
  ·exact .inl (.inr h)
 |wr id o=>
  simp only[Eff.apply,aa.refs,List.mem_append,Eff.refs,List.mem_cons] at h ⊢;rcases h with h|h;·exact .inl (.inl h)
  ·exact(mj _ _ _ _ h).imp .inr .inr
 |app d v id o=>
  simp only[Eff.apply,aa.refs,gy,List.mem_append,Eff.refs,List.mem_cons] at h ⊢;rcases h with(h|h)|h;·exact .inr (.inl h)
  ·exact .inl (.inl (mi _ _ _ h))
  ·exact(mj _ _ _ _ h).imp .inr (fun h=> .inr (.inr h))
structure Rec where
 rd:List Loc
 wl:List Loc
 news:List Nat
 refs:List Nat
def trace(T:Tab)(ops:List Oper):List Oper->aa->Option (Prop×aa×List Rec)
 | [],s=>some (True,s,[])
 |o::r,s=>match kI T ops s o with
  |some (C,e)=>match trace T ops r (e.apply s) with
   |some (C',s',l)=>some (C/\C',s',⟨oh ops s o,e.locs,e.news,e.refs⟩::l)
   |none=>none
  |none=>none
def direct(o:Oper):List Nat:=o.after.toList.filterMap fun e=>if Region.binds .any e then some e.on else none
def yh(l m:List Nat):List Nat:=m.foldl (fun l x=>if l.contains x then l else x::l) l
def LS(A:List (List Nat))(d:List Nat):List Nat:=d.foldl (fun l k=>yh l (k::A.getD k [])) []
def S7:List Oper->List (List Nat)->List (List Nat)
 | [],A=>A
 |o::r,A=>S7 r (A++ [LS A (direct o)])
def backward(ops:List Oper):Bool:=(List.range ops.length).all fun j=>(((ops[j]?).map direct).getD []).all fun k=>k<j
def LU(a b:Rec):Bool:=a.wl.any fun x=>b.rd.contains x||b.wl.contains x
def CR(anc:List Nat)(i:Nat)(a b:Rec):Bool:=
 !(b.news.any fun x=>a.refs.contains x)&&(!(LU a b||LU b a||a.news.any fun x=>b.refs.contains x)||anc.contains i)
def E4:Rec:=⟨[],[],[],[]⟩
def E5(A:List (List Nat))(recs:List Rec):Bool:=
 (List.range recs.length).all fun j=>(List.range j).all fun i=>CR (A.getD j []) i (recs.getD i E4) (recs.getD j E4)
def jf(ops:List Oper)(recs:List Rec):Bool:=backward ops&&E5 (S7 ops []) recs
inductive Anc (ops:List Oper):Nat->Nat->Prop
 |one {j k:Nat} {o:Oper} (ho:ops[j]? =some o) (hk:k∈direct o):Anc ops k j
 |more {i j k:Nat} (h:Anc ops i k) (h':Anc ops k j):Anc ops i j
theorem tE:∀{m l:List Nat} {x:Nat},x∈yh l m->x∈l∨x∈m
 | [],l,x,h=> .inl h
 |y::m,l,x,h=>by
  simp only[yh,List.foldl_cons] at h;have:=tE (m:=m) (l:=if l.contains y then l else y::l) h;rcases this with h1|h1
  ·split at h1;·exact .inl h1
   ·(rcases List.mem_cons.1 h1 with rfl|h1;·exact .inr (by simp));·exact .inl h1
  ·exact .inr (by simp[h1])
theorem v8{A:List (List Nat)}:∀{d l:List Nat} {x:Nat},x∈d.foldl (fun l k=>yh l (k::A.getD k [])) l->x∈l∨x∈d∨∃k∈d,x∈A.getD k []
 | [],l,x,h=> .inl h
 |k::d,l,x,h=>by
  simp only[List.foldl_cons] at h;rcases v8 h with h1|h1|⟨j,h1,h2⟩
  ·rcases tE h1 with h2|h2;·exact .inl h2
   ·(rcases List.mem_cons.1 h2 with rfl|h2;·exact .inr (.inl (by simp)));·exact .inr (.inr ⟨k,by simp,h2⟩)
  ·exact .inr (.inl (by simp[h1]))
  ·exact .inr (.inr ⟨j,by simp[h1],h2⟩)
theorem E6{ops:List Oper}:∀(r:List Oper) (A:List (List Nat)),(∀i,r[i]? =ops[A.length+i]?)->(∀j k,k∈A.getD j []->Anc ops k j)->∀j k,k∈(S7 r A).getD j []->Anc ops k j
 | [],A,_,hA=>hA
 |o::r,A,hr,hA=>by
  refine E6 r (A++ [LS A (direct o)]) (fun i=>?_) (fun j k h=>?_);·have:=hr (i+1);simp only[List.getElem?_cons_succ] at this;rw[this];congr 1;simp;omega
  ·simp only[List.getD_eq_getElem?_getD] at h;by_cases hj:j<A.length;·rw[List.getElem?_append_left hj] at h;exact hA j k (by simpa [List.getD_eq_getElem?_getD] using h)
   ·rw[List.getElem?_append_right (by omega)] at h;by_cases e:j=A.length
    ·(subst e;simp at h;(have ho:ops[A.length]? =some o:=by have:=hr 0;simp at this;exact this.symm);rcases v8 h with h1|h1|⟨i,h1,h2⟩;·simp at h1);·exact .one ho h1
     ·exact .more (hA i k h2) (.one ho h1)
    ·have:([LS A (direct o)]:List (List Nat))[j-A.length]? =none:=by
      rw[List.getElem?_eq_none_iff];simp;omega
     rw[this] at h;simp at h
def gz(f:Nat->Bool):Nat->Option Nat
 |0=>none
 |m+1=>if f m then some m else gz f m
theorem j9{f g:Nat->Bool}:∀{n:Nat},(∀k,k<n->f k=g k)->gz f n=gz g n
 |0,_=>rfl
 |n+1,h=>by simp only[gz,h n (by omega),j9 (n:=n) fun k hk=>h k (by omega)]
theorem wa{g:Nat->Bool}{i:Nat}:∀{n:Nat},i<=n->gz (fun k=>decide (k<i)&&g k) n=gz g i
 |0,h=>by
  have:i=0:=by omega
  subst this;rfl
 |n+1,h=>by
  simp only[gz];by_cases e:i=n+1;·subst e;(have:gz (fun k=>decide (k<n+1)&&g k) n=gz g n:=j9 fun k hk=>by simp;omega);simp[this,gz]
  ·(have hn:¬n<i:=by omega);simp only[hn,decide_false,Bool.false_and,Bool.false_eq_true,if_false];exact wa (by omega)
theorem zR{f:Nat->Bool}{i:Nat}:∀{n:Nat},i<n->f i=true->(∀k,k<n->i<k->f k=false)->gz f n=some i
 |n+1,h,hf,hk=>by
  simp only[gz];by_cases e:i=n;·subst e;rw[hf];rfl
  ·rw[hk n (by omega) (by omega)];exact zR (by omega) hf (fun k h1 h2=>hk k (by omega) h2)
theorem St.look{X:Cx}{s s':aa}{a:Act}{w:World}(h:St X s a w)(hl:∀loc,look s loc=look s' loc)(he:(s'.env.map Prod.fst).Nodup)(ho:(s'.own.map Prod.fst).Nodup):St X s' a w:=by
 have key:∀{α:Type} {l:List (Nat×α)} {p:Nat×α},(l.map Prod.fst).Nodup->p∈l->get? l p.1=some p.2:=by
  intro α l;induction l with
  |nil=>intro p _ h;simp at h
  |cons q l ih=>
   (intro p hn hp;obtain⟨k,x⟩:=q;rw[List.map_cons,List.nodup_cons] at hn;simp only[get?];rcases List.mem_cons.1 hp with rfl|hp;·simp);·have:k≠p.1:=fun e=>hn.1 (by simp only[e];exact List.mem_map.2 ⟨p,hp,rfl⟩);rw[if_neg this];exact ih hn.2 hp
 obtain⟨ρ,hf⟩:=h.fits;have henv:∀e∈s'.env,e∈s.env:=by
  intro e hem;have h1:=key he hem;have h2:=hl (false,e.1);simp only[Go.Cm.look,h1,Option.map_some] at h2;cases h3:get? s.env e.1 with
  |none=>rw[h3] at h2;cases h2
  |some v=>rw[h3] at h2;simp at h2;subst h2;exact get?_mem h3
 have hown:∀e∈s'.own,e∈s.own:=by
  intro e hem;have h1:=key ho hem;have h2:=hl (true,e.1);simp only[Go.Cm.look,h1,Option.map_some] at h2;cases h3:get? s.own e.1 with
  |none=>rw[h3] at h2;cases h2
  |some v=>rw[h3] at h2;simp at h2;subst h2;exact get?_mem h3
 have hh:∀b,hot X.O ρ s'.own b->hot X.O ρ s.own b:=fun b hb=>kZ (fun p hp=>⟨p.2,hown p hp⟩) hb;refine⟨h.marks,h.kept,h.size,h.below,h.others,h.small,ρ,fun e hem=>?_,fun p hp=>?_,fun p hp=>hf.io p (hown p hp),?_⟩
 ·have:=gx (f:=id) (fun x v hx=>bb (fun b _ hb=>hh b hb) (bn.refl _ _) (fun _ _=>rfl) hx) (hf.env e (henv e hem));have e2:e.2.map id=e.2:=by cases e.2<;>simp[AV.map]
  rwa [e2] at this
 ·exact(hf.own p (hown p hp)).move_id (fun b _ hb=>hh b hb) (bn.refl _ _) (fun _ _=>rfl)
 ·have hn:s'.own.Pairwise fun p q=>p.1≠q.1:=List.pairwise_map.1 ho;refine hn.imp_of_mem fun {p q} hp hq hpq=>⟨hpq,fun b hb=>hf.two (hown p hp) (hown q hq) hpq hb⟩
end Go.Cm
end
section
namespace Go.Cm
open Go.RowKit
structure Tr (T:Tab) (ops:List Oper) (n:Nat) (S:Nat->aa) (Cs:Nat->Prop) (Es:Nat->Eff):Prop where
 step:∀k,k<n->∃o,ops[k]? =some o/\kI T ops (S k) o=some (Cs k,Es k)/\Cs k
 next:∀k,k<n->S (k+1)=(Es k).apply (S k)
theorem zS{T:Tab}{ops:List Oper}:∀(r:List Oper) (b:Nat) {s s':aa} {C:Prop} {recs:List Rec},(∀i,r[i]? =ops[b+i]?)->trace T ops r s=some (C,s',recs)->C->
  ∃(S:Nat->aa) (Cs:Nat->Prop) (Es:Nat->Eff),S 0=s/\S r.length=s'/\recs.length=r.length/\(∀k,k<r.length->∃o,ops[b+k]? =some o/\kI T ops (S k) o=some (Cs k,Es k)/\Cs k/\recs.getD k E4=⟨oh ops (S k) o,(Es k).locs,(Es k).news,(Es k).refs⟩)/\(∀k,k<r.length->S (k+1)=(Es k).apply (S k))
 | [],b,s,s',C,recs,hr,h,hC=>by
  simp[trace] at h;obtain⟨_,rfl,rfl⟩:=h;exact⟨fun _=>s,fun _=>True,fun _=> .put 0 (.l .junk),rfl,rfl,rfl,fun k hk=>by simp at hk,fun k hk=>by simp at hk⟩
 |o::r,b,s,s',C,recs,hr,h,hC=>by
  simp only[trace] at h;split at h
  ·rename_i C1 e h1;split at h
   ·rename_i C2 s2 l h2;cases h;obtain⟨S,Cs,Es,g1,g2,g3,g4,g5⟩:=zS r (b+1) (fun i=>by have:=hr (i+1);simp only[List.getElem?_cons_succ] at this;rw[this];congr 1;omega) h2 hC.2;refine⟨fun k=>match k with
     |0=>s
     |k+1=>S k,fun k=>match k with
     |0=>C1
     |k+1=>Cs k,fun k=>match k with
     |0=>e
     |k+1=>Es k,rfl,by simpa using g2,by simp[g3],fun k hk=>?_,fun k hk=>?_⟩
    ·cases k with
     |zero=>exact⟨o,by have:=hr 0;simp at this;simpa using this.symm,h1,hC.1,rfl⟩
     |succ k=>
      obtain⟨o',q1,q2,q3,q4⟩:=g4 k (by simpa using hk);exact⟨o',by rw[<- q1];congr 1;omega,q2,q3,by simpa using q4⟩
    ·cases k with
     |zero=>simp only;exact g1
     |succ k=>exact g5 k (by simpa using hk)
   ·cases h
  ·cases h
section
variable {T:Tab} {ops:List Oper} {n:Nat} {S:Nat->aa} {Cs:Nat->Prop} {Es:Nat->Eff}
def wOf(Es:Nat->Eff)(loc:Loc)(k:Nat):Bool:=decide (loc∈(Es k).locs)
def E7(Es:Nat->Eff)(s0:aa)(o:Option Nat)(loc:Loc):Option (AV ⊕ aJ):=match o with
 |some k=>(Es k).valAt loc
 |none=>look s0 loc
theorem wb{s:aa}{i:Nat}{o:Oper}{C:Prop}(hs:kI T ops s o=some (C,Es i))(loc:Loc):look ((Es i).apply s) loc=if wOf Es loc i=true then (Es i).valAt loc else look s loc:=by
 rw[CO (fun id ob e=>LR hs e)];simp[wOf]
theorem wc(ht:Tr T ops n S Cs Es)(loc:Loc):∀m,m<=n->look (S m) loc=E7 Es (S 0) (gz (wOf Es loc) m) loc
 |0,_=>rfl
 |m+1,h=>by
  obtain⟨o,_,h2,_⟩:=ht.step m (by omega);rw[ht.next m (by omega),wb h2];simp only[gz];split;·rfl
  ·exact wc ht loc m (by omega)
structure S8 (ops:List Oper) (n:Nat) (S:Nat->aa) (Es:Nat->Eff) (p:Nat->Bool) (s:aa):Prop where
 down:∀j k,p j=true->Anc ops k j->p k=true
 vals:∀loc,look s loc=E7 Es (S 0) (gz (fun k=>p k&&wOf Es loc k) n) loc
 refs:∀i∈s.refs,i∈(S 0).refs∨∃k,k<n/\p k=true/\i∈(Es k).refs
theorem agree(ht:Tr T ops n S Cs Es){p:Nat->Bool}{s:aa}(hd:S8 ops n S Es p s){i:Nat}(hi:i<=n){loc:Loc}(h:∀k,k<n->loc∈(Es k).locs->(p k=true↔k<i)):look s loc=look (S i) loc:=by
 rw[hd.vals,wc ht loc i hi];congr 1;rw[<- wa (g:=wOf Es loc) hi];refine j9 fun k hk=>?_;by_cases hw:loc∈(Es k).locs
 ·have:=h k hk hw;have hw':wOf Es loc k=true:=by simp[wOf,hw]
  rw[hw',Bool.and_true,Bool.and_true];by_cases hp:p k=true;·rw[hp];simp[this.1 hp]
  ·have h2:¬k<i:=fun hlt=>hp (this.2 hlt);simp[hp,h2]
 ·have hw':wOf Es loc k=false:=by simp[wOf,hw]
  simp[hw']
end
theorem Qm{X:Cx}{s:aa}{a:Act}{w:World}(h:St X s a w):St X s a {w with drawn:=w.drawn+1}:=by
 obtain⟨ρ,hf⟩:=h.fits;have hb:Bel X.M X.w0 {w with drawn:=w.drawn+1}:=⟨h.below.os,h.below.tape,h.below.output,h.below.size,h.below.block⟩;exact h.next0 (ρ:=ρ) ⟨Nat.le_refl _,fun _ _ h _=>h⟩ hb (hf.keep (w':={w with drawn:=w.drawn+1}) fun _ _=>rfl)
theorem zT{anc:List Nat}{i:Nat}{a b:Rec}(h:CR anc i a b=true):(∀x∈b.news,x∉a.refs)/\(((∃x∈a.wl,x∈b.rd∨x∈b.wl)∨(∃x∈b.wl,x∈a.rd∨x∈a.wl)∨∃x∈a.news,x∈b.refs)->i∈anc):=by
 simp only[CR,Bool.and_eq_true,Bool.not_eq_true',List.any_eq_false,Bool.or_eq_true,Bool.or_eq_false_iff,LU] at h;refine⟨fun x hx hxa=>by have:=h.1 x hx;simp[hxa] at this,fun hc=>?_⟩;rcases h.2 with⟨⟨h1,h2⟩,h3⟩|h4
 ·rcases hc with⟨x,hx,hy⟩|⟨x,hx,hy⟩|⟨x,hx,hy⟩;·have:=h1 x hx;simp only[List.contains_eq_mem,decide_eq_true_eq,not_or] at this;exact hy.elim (fun h=>absurd h this.1) (fun h=>absurd h this.2)
  ·have:=h2 x hx;simp only[List.contains_eq_mem,decide_eq_true_eq,not_or] at this;exact hy.elim (fun h=>absurd h this.1) (fun h=>absurd h this.2)
  ·have:=h3 x hx;simp[hy] at this
 ·simpa using h4
theorem LW{X:Cx}(hT:dF X.P X.T)(hΓ:ig X.P X.T)(hm:X.P.follows .mixedOrders=true){id:Nat}{ops:Array Oper}{s s':aa}{C:Prop}{recs:List Rec}{K:Exit->aa->Prop}
  (h:trace X.T ops.toList ops.toList s=some (C,s',recs)) (hC:C) (hord:jf ops.toList recs=true) (hfresh:(recs.flatMap Rec.news).all (fun x=> !s.refs.contains x)=true)
  (hdist:(distinct (s'.env.map Prod.fst)&&distinct (s'.own.map Prod.fst))=true) (hK:K .normal s'):J X (.region id ops true) s K:=by
 intro a w hst;obtain⟨S,Cs,Es,g1,g2,g3,g4,g5⟩:=zS ops.toList 0 (fun i=>by simp) h hC;subst g1;obtain⟨n,hn⟩:∃n,ops.toList.length=n:=⟨_,rfl⟩;rw[hn] at g2 g3 g4 g5;have hsz:ops.size=n:=by rw[<- hn];simp
 have ht:Tr X.T ops.toList n S Cs Es:=⟨fun k hk=>by obtain⟨o,q1,q2,q3,_⟩:=g4 k hk;exact⟨o,by simpa using q1,q2,q3⟩,g5⟩;simp only[jf,Bool.and_eq_true] at hord;obtain⟨hback,hpairs⟩:=hord;simp only[Bool.and_eq_true] at hdist;have hpair:∀i j,i<j->j<n->(∀x∈(Es j).news,x∉(Es i).refs)/\(((∃x∈(Es i).locs,x∈oh ops.toList (S j) (ops.toList.getD j default)∨x∈(Es j).locs)∨(∃x∈(Es j).locs,x∈oh ops.toList (S i) (ops.toList.getD i default)∨x∈(Es i).locs)∨∃x∈(Es i).news,x∈(Es j).refs)->Anc ops.toList i j):=by
  intro i j hij hj;unfold E5 at hpairs;rw[g3,List.all_eq_true] at hpairs;have h1:=hpairs j (List.mem_range.2 hj);rw[List.all_eq_true] at h1;have h2:=zT (h1 i (List.mem_range.2 hij));obtain⟨oj,qj1,_,_,qj⟩:=g4 j hj;obtain⟨oi,qi1,_,_,qi⟩:=g4 i (by omega);have ej:ops.toList.getD j default=oj:=by rw[List.getD_eq_getElem?_getD];simp only[Nat.zero_add] at qj1;rw[qj1];rfl
  have ei:ops.toList.getD i default=oi:=by rw[List.getD_eq_getElem?_getD];simp only[Nat.zero_add] at qi1;rw[qi1];rfl
  rw[qj,qi] at h2;rw[ej,ei];exact⟨h2.1,fun hc=>E6 ops.toList [] (fun i=>by simp) (fun j k hk=>by simp at hk) j i (h2.2 hc)⟩
 have hnews0:∀k,k<n->∀x∈(Es k).news,x∉(S 0).refs:=by
  intro k hk x hx hx0;obtain⟨o,_,_,_,q⟩:=g4 k hk;have hmem:recs.getD k E4∈recs:=by
   rw[List.getD_eq_getElem?_getD,List.getElem?_eq_getElem (by omega)];exact List.getElem_mem _
  have:=List.all_eq_true.1 hfresh x (List.mem_flatMap.2 ⟨_,hmem,by rw[q];exact hx⟩);simp[hx0] at this
 have hdirect:∀j o,ops[j]? =some o->∀k∈direct o,k<j:=by
  intro j o ho k hk;have hjn:j<n:=by rw[<- hsz];exact(Array.getElem?_eq_some_iff.1 ho).1
  unfold backward at hback;rw[List.all_eq_true] at hback;have h1:=hback j (List.mem_range.2 (by omega));have e:ops.toList[j]? =some o:=by simpa using ho
  rw[e] at h1;simpa using List.all_eq_true.1 h1 k (by simpa using hk)
 have hancn:∀k j,Anc ops.toList k j->k<j:=by
  intro k j h;induction h with
  |one ho hk=>exact hdirect _ _ (by simpa using ho) _ hk
  |more _ _ h1 h2=>omega
 have main:∀(fuel:Nat) (listed:Array Bool) (s:aa) (a:Act) (w:World),listed.size=n->
   (∃l:List Nat,l.Nodup/\n<=fuel+l.length/\∀k∈l,k<n/\listed.getD k true=true)->S8 ops.toList n S Es (fun k=>decide (k<n)&&listed.getD k true) s->St X s a w->
   wpAnyIn (fw X.r) 2 X.P .any ops (post X K) fuel listed a w:=by
  have hready:∀(listed:Array Bool),listed.size=n->Region.ready .any ops listed=[]->∀k,k<n->listed.getD k true=true:=by
   intro listed hls hr k;induction k using Nat.strongRecOn with
   |_ k ih=>
    intro hk;cases hp:listed.getD k true with
    |true=>rfl
    |false=>
     obtain⟨o,ho,_⟩:=ht.step k hk;(have ho':ops[k]? =some o:=by simpa using ho);have:k∈Region.ready .any ops listed:=by
      unfold Region.ready;rw[List.mem_filter];refine⟨List.mem_range.2 (by omega),?_⟩;simp only[hp,Bool.not_false,Bool.true_and,ho',Option.map_some,Option.getD_some];rw[Array.all_eq_true_iff_forall_mem];intro e he;by_cases hb:Region.binds .any e=true
      ·have hd:e.on∈direct o:=by
        unfold direct;rw[List.mem_filterMap];exact⟨e,by simpa using he,by rw[if_pos hb]⟩
       have hlt:=hdirect k o ho' _ hd;have h1:=ih e.on hlt (by omega);rw[hb];simp only[Bool.not_true,Bool.false_or];(have:e.on<listed.size:=by omega);rw[<- h1];simp[Array.getD,this]
      ·simp[hb]
     rw[hr] at this;simp at this
  have hend:∀(listed:Array Bool) (s:aa) (a:Act) (w:World),(∀k,k<n->listed.getD k true=true)->S8 ops.toList n S Es (fun k=>decide (k<n)&&listed.getD k true) s->St X s a w->post X K .normal a w:=by
   (intro listed s a w hall hd hst;refine⟨s',hK,?_⟩;rw[<- g2];refine hst.look (fun loc=>?_) ?_ ?_;·exact agree ht hd (Nat.le_refl n) (fun k hk _=>⟨fun _=>hk,fun _=>by simp[hk,hall k hk]⟩));·rw[g2];exact j6 hdist.1
   ·rw[g2];exact j6 hdist.2
  intro fuel;induction fuel with
  |zero=>
   intro listed s a w hls ⟨l,hl1,hl2,hl3⟩ hd hst;have hall:∀k,k<n->listed.getD k true=true:=by
    intro k hk;by_cases hkl:k∈l;·exact(hl3 k hkl).2
    ·have hsub:(k::l).Nodup:=List.nodup_cons.2 ⟨hkl,hl1⟩;have hle:=(List.Nodup.length_le_of_subset hsub (l₂:=List.range n) (fun x hx=>by
      (rcases List.mem_cons.1 hx with rfl|hx;·exact List.mem_range.2 hk);·exact List.mem_range.2 (hl3 x hx).1))
     simp at hle;omega
   refine⟨?_,hend listed s a w hall hd hst⟩;unfold Region.ready;rw[List.filter_eq_nil_iff];intro k hk;have:=hall k (by rw[<- hsz];exact List.mem_range.1 hk);rw[this];simp
  |succ fuel ih=>
   intro listed s a w hls ⟨l,hl1,hl2,hl3⟩ hd hst;refine⟨fun hr=>hend listed s a w (hready listed hls hr) hd hst,fun i hi=>?_⟩;unfold Region.ready at hi;rw[List.mem_filter] at hi;obtain⟨hi1,hi2⟩:=hi;(have hin:i<n:=by rw[<- hsz];exact List.mem_range.1 hi1);obtain⟨o,ho,hfs,hCi⟩:=ht.step i hin;(have ho':ops[i]? =some o:=by simpa using ho);simp only[ho',Option.map_some,Option.getD_some,Bool.and_eq_true,Bool.not_eq_true'] at hi2;obtain⟨hnot,hedges⟩:=hi2;have hdown:∀k,Anc ops.toList k i->(decide (k<n)&&listed.getD k true)=true:=by
    have hd1:∀k∈direct o,(decide (k<n)&&listed.getD k true)=true:=by
     intro k hk;have hlt:=hdirect i o ho' k hk;unfold direct at hk;rw[List.mem_filterMap] at hk;obtain⟨e,he1,he2⟩:=hk;split at he2
     ·rename_i hb;cases he2;rw[Array.all_eq_true_iff_forall_mem] at hedges;have:=hedges e (by simpa using he1);rw[hb] at this;simp only[Bool.not_true,Bool.false_or] at this;(have hsize:e.on<listed.size:=by omega);have h2:listed.getD e.on true=true:=by
       simp[Array.getD,hsize] at this ⊢;exact this
      simp[h2];omega
     ·cases he2
    intro k hk;cases hk with
    |one ho2 hk2=>rw[ho] at ho2;cases ho2;exact hd1 k hk2
    |more h1 h2=>
     rename_i j;have:∀{j},Anc ops.toList j i->(decide (j<n)&&listed.getD j true)=true:=by
      intro j hj;generalize hii:i=i2 at hj;induction hj with
      |one ho2 hk2=>subst hii;rw[ho] at ho2;cases ho2;exact hd1 _ hk2
      |more q1 q2 ih1 ih2=>
       subst hii;exact hd.down _ _ (ih2 rfl) q1
     exact this (.more h1 h2)
   (have hpi:(decide (i<n)&&listed.getD i true)=false:=by rw[hnot];simp);have hnotAfter:∀k,Anc ops.toList i k->(decide (k<n)&&listed.getD k true)=false:=by
    intro k hk;cases hpk:(decide (k<n)&&listed.getD k true) with
    |false=>rfl
    |true=>have:=hd.down k i hpk hk;rw[hpi] at this;cases this
   (have eo:ops.toList.getD i default=o:=by rw[List.getD_eq_getElem?_getD,ho];rfl);have hag:∀loc,(loc∈oh ops.toList (S i) o∨loc∈(Es i).locs)->∀k,k<n->k≠i->loc∈(Es k).locs->((decide (k<n)&&listed.getD k true)=true↔k<i):=by
    (intro loc hloc k hk hne hw;rcases Nat.lt_or_gt_of_ne hne with hlt|hlt);·refine⟨fun _=>hlt,fun _=>hdown k ((hpair k i hlt hin).2 (.inl ⟨loc,hw,?_⟩))⟩;rw[eo];exact hloc
    ·have:=hnotAfter k ((hpair i k hlt hk).2 (.inr (.inl ⟨loc,hw,by rw[eo];exact hloc⟩)));rw[this];exact⟨fun h=>(by cases h),fun h=>by omega⟩
   have hfs2:kI X.T ops.toList s o=some (Cs i,Es i):=by
    rw[<- hfs];have hrd:∀loc∈oh ops.toList (S i) o,look s loc=look (S i) loc:=fun loc hloc=>agree ht hd (Nat.le_of_lt hin) (fun k hk hw=>by
     by_cases e:k=i
     ·subst e;rw[hpi];exact⟨fun h=>(by cases h),fun h=>by omega⟩
     ·exact hag loc (.inl hloc) k hk e hw)
    have inj1:∀t,look s (false,t)=look (S i) (false,t)->get? s.env t=get? (S i).env t:=by
     intro t h;simp only[look] at h;cases h1:get? s.env t<;>cases h2:get? (S i).env t<;>simp[h1,h2] at h ⊢;exact h
    have inj2:∀t,look s (true,t)=look (S i) (true,t)->get? s.own t=get? (S i).own t:=by
     intro t h;simp only[look] at h;cases h1:get? s.own t<;>cases h2:get? (S i).own t<;>simp[h1,h2] at h ⊢;exact h
    (refine zQ (fun t ht=>inj1 t (hrd _ ?_)) (fun hr t ht=>inj2 t (hrd _ ?_));·exact List.mem_append_left _ (List.mem_map.2 ⟨t,ht,rfl⟩));·refine List.mem_append_right _ ?_;rw[if_pos hr];exact List.mem_map.2 ⟨t,ht,rfl⟩
   have hfr:∀x∈(Es i).news,x∉s.refs:=by
    intro x hx hxs;rcases hd.refs x hxs with h1|⟨k,hk,hpk,h1⟩;·exact hnews0 i hin x hx h1
    ·by_cases e:k=i
     ·subst e;rw[hpi] at hpk;cases hpk
     ·(rcases Nat.lt_or_gt_of_ne e with hlt|hlt;·exact(hpair k i hlt hin).1 x hx h1);·have:=hnotAfter k ((hpair i k hlt hk).2 (.inr (.inr ⟨x,hx,h1⟩)));rw[this] at hpk;cases hpk
   obtain⟨C',hC',hstep⟩:=CM hfs2 hfr;unfold wpOpIn;simp only[ho'];have hgo:=step_ok hT hΓ (Q:=post X K) (K:=wpAnyIn (fw X.r) 2 X.P .any ops (post X K) fuel (listed.setIfInBounds i true)) hst hstep (hC' hCi) (fun a' w' hst'=>by
    have hget:∀k,k<n->(listed.setIfInBounds i true).getD k true=(if k=i then true else listed.getD k true):=by
     (intro k hk;simp only[Array.getD_eq_getD_getElem?,Array.getElem?_setIfInBounds];by_cases e:i=k;·subst e;simp[hls,hin]);·have e':¬k=i:=fun h=>e h.symm;simp[e,e']
    refine ih _ _ a' w' (by simpa using hls) ?_ ?_ hst'
    ·(have hil:i∉l:=fun hm=>by have:=(hl3 i hm).2;rw[hnot] at this;cases this);refine⟨i::l,List.nodup_cons.2 ⟨hil,hl1⟩,by simp;omega,fun k hk=>?_⟩;rcases List.mem_cons.1 hk with rfl|hk;·exact⟨hin,by rw[hget k hin];simp⟩
     ·(have:=hl3 k hk;refine⟨this.1,?_⟩;rw[hget k this.1];split;·rfl);·exact this.2
    ·refine⟨fun j k hj hk=>?_,fun loc=>?_,fun x hx=>?_⟩
     ·have hkj:=hancn k j hk;simp only[Bool.and_eq_true,decide_eq_true_eq] at hj;(have hkn:k<n:=by omega);simp only[hkn,decide_true,Bool.true_and];rw[hget k hkn];split;·rfl
      ·(rw[hget j hj.1] at hj;by_cases e:j=i;·subst e;have:=hdown k hk;simpa [hkn] using this);·rw[if_neg e] at hj;have:=hd.down j k (by simp[hj.1,hj.2]) hk;simpa [hkn] using this
     ·rw[wb hfs2];by_cases hw:wOf Es loc i=true
      ·rw[if_pos hw];(have hloc:loc∈(Es i).locs:=by simpa [wOf] using hw);have:gz (fun k=>(decide (k<n)&&(listed.setIfInBounds i true).getD k true)&&wOf Es loc k) n=some i:=by
        refine zR hin ?_ (fun k hk hik=>?_);·simp only[hin,decide_true,Bool.true_and];rw[hget i hin,hw];simp
        ·(simp only[hk,decide_true,Bool.true_and];rw[hget k hk,if_neg (by omega)];by_cases hwk:loc∈(Es k).locs;·have:=hag loc (.inr hloc) k hk (by omega) hwk;(have h3:¬(decide (k<n)&&listed.getD k true)=true:=fun h=>by have:=this.1 h;omega);simp[hk] at h3;simp[h3]);·simp[wOf,hwk]
       rw[this];rfl
      ·(rw[if_neg hw,hd.vals];congr 1;refine j9 fun k hk=>?_;simp only[hk,decide_true,Bool.true_and];rw[hget k hk];by_cases e:k=i;·subst e;(have:wOf Es loc k=false:=by simpa using hw);simp[this]);·rw[if_neg e]
     ·rcases CQ _ _ x hx with h1|h1
      ·rcases hd.refs x h1 with h2|⟨k,hk,hpk,h2⟩;·exact .inl h2
       ·(refine .inr ⟨k,hk,?_,h2⟩;simp only[hk,decide_true,Bool.true_and] at hpk ⊢;rw[hget k hk];split;·rfl);·exact hpk
      ·refine .inr ⟨i,hin,?_,h1⟩;simp only[hin,decide_true,Bool.true_and];rw[hget i hin];simp)
   (have earr:ops.toList.toArray=ops:=by simp);rw[earr] at hgo;exact hgo
 refine wpIn_region_any hm (main ops.size _ (S 0) a _ (by simp[hsz]) ⟨[],.nil,by simp[hsz],fun k hk=>by simp at hk⟩ ⟨fun j k hj _=>?_,fun loc=>?_,fun i hi=> .inl hi⟩ (Qm hst));·simp only[Bool.and_eq_true,decide_eq_true_eq] at hj;have:=hj.2;rw[Array.getD_eq_getD_getElem?,Array.getElem?_replicate,if_pos (by omega)] at this;cases this
 ·have:gz (fun k=>(decide (k<n)&&(Array.replicate ops.size false).getD k true)&&wOf Es loc k) n=none:=by
   have key:∀m,m<=n->gz (fun k=>(decide (k<n)&&(Array.replicate ops.size false).getD k true)&&wOf Es loc k) m=none:=by
    intro m;induction m with
    |zero=>intro _;rfl
    |succ m ihm=>
     intro hm;have hg:(Array.replicate ops.size false).getD m true=false:=by
      rw[Array.getD_eq_getD_getElem?,Array.getElem?_replicate,if_pos (by omega)];rfl
     simp only[gz,hg,Bool.and_false,Bool.false_and,Bool.false_eq_true,if_false];exact ihm (by omega)
   exact key n (Nat.le_refl n)
  rw[this];rfl
end Go.Cm
end
section
namespace Go.Cm
open Go.RowKit
structure bx (P:Program) (T:Tab):Prop where
 tab:dF P T
 cons:ig P T
 mixed:P.follows .mixedOrders=true
def Up(ops:List Oper)(recs:List Rec)(s s':aa):Prop:=
 jf ops recs=true/\(recs.flatMap Rec.news).all (fun x=> !s.refs.contains x)=true/\(distinct (s'.env.map Prod.fst)&&distinct (s'.own.map Prod.fst))=true
def vd(X:Cx):Code->aa->(Exit->aa->Prop)->Prop
 | .skip,s,K=>K .normal s
 | .label _,s,K=>K .normal s
 | .region _ ops false,s,K=>match exec X.T ops.toList ops.toList s with
  |some (C,s')=>C/\K .normal s'
  |none=>False
 | .region _ ops true,s,K=>match trace X.T ops.toList ops.toList s with
  |some (C,s',recs)=>Up ops.toList recs s s'/\C/\K .normal s'
  |none=>False
 | .seq x y,s,K=>vd X x s fun e s'=>match e with
  | .normal=>vd X y s' K
  |e=>K e s'
 | .cond c x y,s,K=>match leaf (bc s c) with
  |some (.z .bool t)=>(t=true->vd X x s K)/\(t=false->vd X y s K)
  |_=>False
 | .block id c,s,K=>vd X c s fun e s'=>match e with
  | .exit i=>if i=id then K .normal s' else K (.exit i) s'
  |e=>K e s'
 | .loop c,s,K=>J X (.loop c) s K
 | .rangeFunc g ps x c,s,K=>J X (.rangeFunc g ps x c) s K
 | .exit id,s,K=>K (.exit id) s
 | .ret,s,K=>K .ret s
 |_,_,_=>False
theorem Uq{X:Cx}(hG:bx X.P X.T):∀(c:Code) {s:aa} {K:Exit->aa->Prop},vd X c s K->J X c s K:=by
 intro c;induction c with
 |skip=>exact fun h a w hst=>wpIn_skip ⟨_,h,hst⟩
 |label l=>exact fun h a w hst=>wpIn_label ⟨_,h,hst⟩
 |region id ops draw=>
  intro s K h;cases draw with
  |true=>
   (simp only[vd] at h;split at h;·rename_i C s' recs he;exact LW hG.tab hG.cons hG.mixed he h.2.1 h.1.1 h.1.2.1 h.1.2.2 h.2.2);·exact h.elim
  |false=>
   (intro a w hst;simp only[vd] at h;split at h;·rename_i C s' he;have:=EZ (Q:=post X K) hG.tab hG.cons ops.toList hst he h.1 (fun a' w' h'=>⟨_,h.2,h'⟩);exact wpIn_region_list (by simpa using this));·exact h.elim
 |seq x y ihx ihy=>
  intro s K h a w hst;refine wpIn_seq (Code.wpIn_mono (fun e a w ⟨s',h1,h2⟩=>?_) (ihx h a w hst));cases e with
  |normal=>exact ihy h1 a w h2
  |_=>exact⟨s',h1,h2⟩
 |cond c x y ihx ihy=>
  intro s K h a w hst;simp only[vd] at h;split at h;·rename_i t ht;obtain⟨ρ,hf⟩:=hst.fits;have hv:=dG (H:=hot X.O ρ s.own) (w:=w) (ρ:=ρ) (aQ hf ht);exact wpIn_cond_split hv (fun e=>ihx (h.1 e) a w hst) (fun e=>ihy (h.2 e) a w hst)
  ·exact h.elim
 |block id c ih=>
  intro s K h a w hst;refine wpIn_block (Code.wpIn_mono (fun e a w ⟨s',h1,h2⟩=>?_) (ih h a w hst));cases e with
  |exit i=>
   (simp only[Exit.inBlock];simp only at h1;split at h1;·rename_i e;rw[if_pos e];exact⟨s',h1,h2⟩);·rename_i e;rw[if_neg e];exact⟨s',h1,h2⟩
  |_=>exact⟨s',h1,h2⟩
 |loop c ih=>exact fun h=>h
 |rangeFunc=>exact fun h=>h
 |exit id=>exact fun h a w hst=>wpIn_exit ⟨_,h,hst⟩
 |scope c ih=>exact fun h=>h.elim
 |goto=>exact fun h=>h.elim
 |ret=>exact fun h a w hst=>wpIn_ret ⟨_,h,hst⟩
 |refuse=>exact fun h=>h.elim
section
variable {X:Cx} {s:aa} {K:Exit->aa->Prop}
def LX(X:Cx)(y:Code)(K:Exit->aa->Prop)(e:Exit)(s':aa):Prop:=match e with
 | .normal=>J X y s' K
 |e=>K e s'
theorem S9{x y:Code}(h:J X x s (LX X y K)):J X (.seq x y) s K:=by
 intro a w hst;refine wpIn_seq (Code.wpIn_mono (fun e a w ⟨s',h1,h2⟩=>?_) (h a w hst));cases e with
 |normal=>exact h1 a w h2
 |_=>exact⟨s',h1,h2⟩
def Ur{ι:Type}(g:ι->aa)(Ψ:ι->Prop)(K:Exit->aa->Prop)(e:Exit)(s':aa):Prop:=match e with
 | .normal=>∃z,le s' (g z)/\Ψ z
 |e=>K e s'
theorem Ta{ι:Type}(g:ι->aa)(Ψ:ι->Prop){x y:Code}(h:J X x s (Ur g Ψ K))(h2:∀z,Ψ z->J X y (g z) K):J X (.seq x y) s K:=by
 intro a w hst;refine wpIn_seq (Code.wpIn_mono (fun e a w ⟨s',h1,h3⟩=>?_) (h a w hst));cases e with
 |normal=>obtain⟨z,h4,h5⟩:=h1;exact h2 z h5 a w (h3.le h4)
 |_=>exact⟨s',h1,h3⟩
def CS{ι:Type}(f:ι->aa)(Φ:ι->Prop)(μ:ι->Nat)(x:ι)(K:Exit->aa->Prop)(e:Exit)(s':aa):Prop:=match e with
 | .normal=>∃y,le s' (f y)/\Φ y/\μ y<μ x
 |e=>K e s'
theorem aY{ι:Type}(f:ι->aa)(Φ:ι->Prop)(μ:ι->Nat){c:Code}(x₀:ι)(h₀:le s (f x₀))(hΦ:Φ x₀)(hround:∀x,Φ x->J X c (f x) (CS f Φ μ x K)):J X (.loop c) s K:=by
 intro a w hst;refine CF (fun n a w=>∃x,μ x=n/\Φ x/\St X (f x) a w) (μ x₀) ⟨x₀,rfl,hΦ,hst.le h₀⟩ ?_;rintro n a w ⟨x,rfl,hx,hst⟩;refine Code.wpIn_mono (fun e a w ⟨s',h1,h2⟩=>?_) (hround x hx a w hst);cases e with
 |normal=>
  obtain⟨y,h3,h4,h5⟩:=h1;exact⟨μ y,h5,y,rfl,h4,h2.le h3⟩
 |_=>exact⟨s',h1,h2⟩
def ml(id:Nat)(K:Exit->aa->Prop)(e:Exit)(s':aa):Prop:=match e with
 | .exit i=>if i=id then K .normal s' else K (.exit i) s'
 |e=>K e s'
theorem al{id:Nat}{c:Code}(h:J X c s (ml id K)):J X (.block id c) s K:=by
 intro a w hst;refine wpIn_block (Code.wpIn_mono (fun e a w ⟨s',h1,h2⟩=>?_) (h a w hst));cases e with
 |exit i=>
  simp only[Exit.inBlock];simp only[ml] at h1;split at h1;·rename_i e;rw[if_pos e];exact⟨s',h1,h2⟩
  ·rename_i e;rw[if_neg e];exact⟨s',h1,h2⟩
 |_=>exact⟨s',h1,h2⟩
end
end Go.Cm
end
section
namespace Go.Cm
open Go.RowKit
section
variable {X:Cx} {s s':aa} {K:Exit->aa->Prop}
theorem cp(hG:bx X.P X.T){id:Nat}{ops:Array Oper}{C:Prop}(he:exec X.T ops.toList ops.toList s=some (C,s'))(hC:C)(hK:K .normal s'):J X (.region id ops false) s K:=
 Uq hG _ (by simp only[vd,he];exact⟨hC,hK⟩)
theorem om(hG:bx X.P X.T){id:Nat}{ops:Array Oper}{C:Prop}{recs:List Rec}(he:trace X.T ops.toList ops.toList s=some (C,s',recs))(ho:jf ops.toList recs=true)
  (hf:(recs.flatMap Rec.news).all (fun x=> !s.refs.contains x)=true) (hd:(distinct (s'.env.map Prod.fst)&&distinct (s'.own.map Prod.fst))=true) (hC:C) (hK:K .normal s'):J X (.region id ops true) s K:=
 LW hG.tab hG.cons hG.mixed he hC ho hf hd hK
theorem ag{x y:Code}(h:J X x s (LX X y K)):J X (.seq x y) s K:=S9 h
theorem ak(h:K .normal s):J X .skip s K:=fun _ _ hst=>wpIn_skip ⟨_,h,hst⟩
theorem E8{l:Nat}(h:K .normal s):J X (.label l) s K:=fun _ _ hst=>wpIn_label ⟨_,h,hst⟩
theorem aT{l:Nat}(h:K (.exit l) s):J X (.exit l) s K:=fun _ _ hst=>wpIn_exit ⟨_,h,hst⟩
theorem av(h:K .ret s):J X .ret s K:=fun _ _ hst=>wpIn_ret ⟨_,h,hst⟩
theorem LY{c:Operand}{x y:Code}{t:Bool}(hc:leaf (bc s c)=some (.z .bool t))(h1:t=true->J X x s K)(h2:t=false->J X y s K):J X (.cond c x y) s K:=by
 intro a w hst;obtain⟨ρ,hf⟩:=hst.fits;have hv:=dG (H:=hot X.O ρ s.own) (w:=w) (ρ:=ρ) (aQ hf hc);exact wpIn_cond_split hv (fun e=>h1 e a w hst) (fun e=>h2 e a w hst)
theorem cm{ι:Type}(g:ι->aa)(Ψ:ι->Prop){x y:Code}(h:J X x s (Ur g Ψ K))(h2:∀z,Ψ z->J X y (g z) K):J X (.seq x y) s K:=Ta g Ψ h h2
theorem af{y:Code}(h:J X y s K):LX X y K .normal s:=h
theorem aD{id:Nat}(h:K .normal s):ml id K .normal s:=h
theorem an{id:Nat}(h:K .normal s):ml id K (.exit id) s:=by simp only[ml,if_true];exact h
theorem ka{id i:Nat}(hi:(i==id)=false)(h:K (.exit i) s):ml id K (.exit i) s:=by
 have:¬i=id:=by simpa using hi
 simp only[ml,if_neg this];exact h
theorem bk{id:Nat}(h:K .ret s):ml id K .ret s:=h
theorem aA{y:Code}{i:Nat}(h:K (.exit i) s):LX X y K (.exit i) s:=h
theorem aw{y:Code}(h:K .ret s):LX X y K .ret s:=h
theorem ao{ι:Type}{f:ι->aa}{Φ:ι->Prop}{μ:ι->Nat}{x:ι}{i:Nat}(h:K (.exit i) s):CS f Φ μ x K (.exit i) s:=h
theorem dc{ι:Type}{f:ι->aa}{Φ:ι->Prop}{μ:ι->Nat}{x:ι}(h:K .ret s):CS f Φ μ x K .ret s:=h
end
theorem LV.get_self(t:Ty)(x:t.D):LV.get t (.z t x)=some x:=by simp[LV.get]
theorem AV.get_self(t:Ty)(x:t.D):AV.get t (.l (.z t x))=some x:=LV.get_self t x
theorem le_iff{s s':aa}:le s s'↔rk s s'.env/\nO s s'.own:=Iff.rfl
theorem IJ(s:aa):rk s []↔True:=Iff.rfl
theorem IK(s:aa):nO s []↔True:=Iff.rfl
theorem aJ.leq_arr{own:List (Nat×aJ)}{t:Ty}{T T':TypeId}{xs ys:List t.D}:aJ.leq own (.arr t T xs) (.arr t T' ys)↔T=T'/\xs=ys:=by
 constructor;·rintro⟨_,h1,h2⟩;exact⟨h1,h2⟩
 ·rintro⟨h1,h2⟩;exact⟨rfl,h1,h2⟩
theorem AV.leq_z{own:List (Nat×aJ)}{T:Ty}{x y:T.D}:AV.leq own (.l (.z T x)) (.l (.z T y))↔x=y:=by
 show AV.get T (.l (.z T x))=some y↔_;rw[AV.get_self];simp
theorem LV.leq_z{own:List (Nat×aJ)}{T:Ty}{x y:T.D}:LV.leq own (.z T x) (.z T y)↔x=y:=by
 show LV.get T (.z T x)=some y↔_;rw[LV.get_self];simp
theorem LZ{s:aa}{all later:List Nat}{T:Ty}{x y:T.D}:e9 s all later (.z T x) (.l (.z T y))↔y=x:=by
 show AV.get T (.l (.z T y))=some x↔_;rw[AV.get_self];simp
end Go.Cm
end
section
namespace Go.Cm
open Go.RowKit
section
variable {F:Fence} {n:Nat} {P:Program} {Q:Exit->Act->World->Prop} {a:Act} {w:World}
theorem fX{b:Frame}{k:List Item}{cs:List Frame}{c:Code}:step P (lone (b.atR a (.code (.scope c)::k)) cs w)= .next (lone (b.atR a (.code c:: .inScope c::k)) cs w):=
 step_lone_go (by simp[stepG,stepG.exec,Frame.atR])
theorem vM{b:Frame}{k:List Item}{cs:List Frame}{c:Code}:step P (lone (b.atR a (.inScope c::k)) cs w)= .next (lone (b.atR a k) cs w):=
 step_lone_go (by simp[stepG,stepG.exec,Frame.atR])
theorem CT{c:Code}(h:c.wpIn F n P (Exit.noGoto Q) a w):(Code.scope c).wpIn F n P Q a w:=by
 intro b k cs hro hb hr;have h0:(lone (b.atR a (.code (.scope c)::k)) cs w).fenced P F:=fenced_calm hb hr rfl;obtain⟨e,a₁,w₁,hq,harr⟩:=h b (.inScope c::k) cs hro hb hr;cases e with
 |normal=>exact⟨.normal,a₁,w₁,hq,.head h0 fX (StepsIn.trans harr (.one (fenced_calm hb hr rfl) vM))⟩
 |exit id=>exact⟨.exit id,a₁,w₁,hq,fun k' hk=> .head h0 fX (harr.1 k' (by simp[exitTo,hk])),fun hr' hk=>by
   obtain⟨k₁,h1,h2⟩:=harr.2 hr' (by simp[exitTo,hk]);exact⟨k₁,h1,.head h0 fX h2⟩⟩
 |goto l=>exact hq.elim
 |ret=>exact⟨_,a₁,w₁,hq,.of_steps (.one h0 fX) harr⟩
 |panic ch=>exact⟨_,a₁,w₁,hq,.of_steps (.one h0 fX) harr⟩
 |outgrown=>exact⟨_,a₁,w₁,hq,.of_steps (.one h0 fX) harr⟩
end
def L0(K:Exit->aa->Prop)(e:Exit)(s:aa):Prop:=match e with
 | .goto _=>False
 |e=>K e s
section
variable {X:Cx} {s:aa} {K:Exit->aa->Prop}
theorem E9{c:Code}(h:J X c s (L0 K)):J X (.scope c) s K:=fun a w hst=>by
 refine CT (Code.wpIn_mono (fun e a w ⟨s',h1,h2⟩=>?_) (h a w hst));cases e with
 |goto l=>exact h1.elim
 |_=>exact⟨s',h1,h2⟩
theorem iH(h:K .ret s):L0 K .ret s:=h
end
def tF:List Oper->Option (List (Nat×Operand))
 | []=>some []
 |o::r=>match o.guard,o.dst,o.op,tF r with
  |none,some d,.assign x,some l=>some ((d,x)::l)
  |none,some d,.move x,some l=>some ((d,x)::l)
  |_,_,_,_=>none
def kb:Code->Option (List (Nat×Operand))
 | .skip=>some []
 | .region _ ops false=>tF ops.toList
 | .seq x y=>match kb x,kb y with
  |some l,some m=>some (l++m)
  |_,_=>none
 |_=>none
def cT(a:Act):List (Nat×Operand)->Act
 | []=>a
 |(d,x)::r=>cT (a.put (some d) (a.eval x)) r
theorem lX(m:List (Nat×Operand)):∀(l:List (Nat×Operand)) (a:Act),cT a (l++m)=cT (cT a l) m
 | [],_=>rfl
 |(d,x)::l,a=>lX m l _
theorem lY:∀(l:List (Nat×Operand)) (a:Act),(cT a l).defers=a.defers
 | [],_=>rfl
 |(d,x)::l,a=>by rw[cT,lY l,Act.defers_put]
theorem nP:∀(l:List (Nat×Operand)) (a:Act),(cT a l).tmps.size=a.tmps.size
 | [],_=>rfl
 |(d,x)::l,a=>by rw[cT,nP l,Act.size_put]
theorem nQ{t:Nat}:∀(l:List (Nat×Operand)) (a:Act),t∉l.map Prod.fst->(cT a l).tmps.getD t undef=a.tmps.getD t undef
 | [],_,_=>rfl
 |(d,x)::l,a,h=>by
  simp only[List.map_cons,List.mem_cons,not_or] at h;rw[cT,nQ l _ h.2,Act.getD_put_ne h.1]
theorem we{r:Option Nat}{n:Nat}{P:Program}{ops:Array Oper}{Q:Exit->Act->World->Prop}{w:World}:∀(l:List Oper) {ms:List (Nat×Operand)} {a:Act},tF l=some ms->Q .normal (cT a ms) w->wpListIn (fw r) n P ops Q l a w
 | [],ms,a,h,hq=>by cases h;exact hq
 |o::l,ms,a,h,hq=>by
  simp only[tF] at h;have key:∀d x m,o.guard=none->o.dst=some d->(o.op= .assign x∨o.op= .move x)->tF l=some m->ms=(d,x)::m->wpListIn (fw r) n P ops Q (o::l) a w:=by
   (intro d x m h1 h2 h3 h4 h5;subst h5;(have hw:Region.wanted o (yielded ops a.tmps)=true:=by simp[Region.wanted,h1]);simp only[wpListIn,hw,if_true];refine bo (v:=a.eval x) (w':=w) ?_ ?_;·unfold execOp;rcases h3 with h3|h3<;>rw[h3]<;>rfl);·rw[h2];exact we l h4 hq
  split at h;·rename_i d x m h1 h2 h3 h4;cases h;exact key d x m h1 h2 (.inl h3) h4 rfl
  ·rename_i d x m h1 h2 h3 h4;cases h;exact key d x m h1 h2 (.inr h3) h4 rfl
  ·cases h
theorem CU{r:Option Nat}{n:Nat}{P:Program}:∀(c:Code) {ms:List (Nat×Operand)} {K:Act->World->Prop} {R:Exit->Act->World->Prop} {a:Act} {w:World},kb c=some ms->K (cT a ms) w->c.wpIn (fw r) n P (Exit.then K R) a w:=by
 intro c;induction c with
 |skip=>intro ms K R a w h hk;cases h;exact wpIn_skip hk
 |region id ops draw=>
  intro ms K R a w h hk;cases draw with
  |true=>simp[kb] at h
  |false=>exact wpIn_region_list (we _ h hk)
 |seq x y ihx ihy=>
  intro ms K R a w h hk;simp only[kb] at h;split at h;·rename_i l m hl hm;cases h;rw[lX] at hk;exact wpIn_seq (ihx hl (ihy hm hk))
  ·cases h
 |_=>intro ms K R a w h hk;simp[kb] at h
def gA(N:Nat)(s:aa):List (Nat×Operand)->Option aa
 | []=>some s
 |(d,x)::r=>match bc s x with
  |some v=>if d<N then gA N (s.put d v) r else none
  |none=>none
def eM(s:aa):List (Nat×LV)->aa
 | []=>s
 |(p,v)::r=>eM (s.put p (.l v)) r
theorem rr{X:Cx}{w:World}{ρ:Nat->Value}:∀(ms:List (Nat×Operand)) {s s':aa} {a:Act},Fits X s a w ρ->a.tmps.size=X.T.N->gA X.T.N s ms=some s'->Fits X s' (cT a ms) w ρ
 | [],s,s',a,h,_,he=>by cases he;exact h
 |(d,x)::r,s,s',a,h,hs,he=>by
  simp only[gA] at he;split at he
  ·(rename_i v hv;split at he;·rename_i hd;exact rr r (h.put (d:=d) (by omega) (cg h hv)) (by rw[Act.size_put,hs]) he);·cases he
  ·cases he
theorem qo{X:Cx}{w:World}{ρ:Nat->Value}{H:Nat->Prop}:∀(l:List (Nat×LV)) (vs:List Value) {s:aa} {a:Act},Fits X s a w ρ->hot X.O ρ s.own=H->a.tmps.size=X.T.N->(∀p∈l,p.1<X.T.N)->bC (aV H w ρ) (l.map Prod.snd) vs->
  ∃a',a'={a with tmps:=((l.map Prod.fst).zip vs).foldl (fun(t:Array Value) (p:Nat×Value)=>t.setIfInBounds p.1 p.2) a.tmps}/\Fits X (eM s l) a' w ρ/\a'.tmps.size=X.T.N
 | [],[],s,a,h,_,hs,_,_=>⟨a,rfl,h,hs⟩
 |(p,x)::l,v::vs,s,a,h,hH,hs,hl,h2=>by
  have hp:=hl (p,x) (by simp);have h3:=h.put (d:=p) (v:= .l x) (val:=v) (by simp only at hp;omega) (by rw[hH];exact h2.1);obtain⟨a',e,h4,h5⟩:=qo l vs h3 hH (by rw[Act.size_put,hs]) (fun q hq=>hl q (by simp[hq])) h2.2;exact⟨a',by rw[e];rfl,h4,h5⟩
 | [],_::_,_,_,_,_,_,_,h2=>h2.elim
 |_::_,[],_,_,_,_,_,_,h2=>h2.elim
theorem qp{t:Nat}:∀(l:List (Nat×Value)) (tm:Array Value),t∉l.map Prod.fst->(l.foldl (fun(t:Array Value) (p:Nat×Value)=>t.setIfInBounds p.1 p.2) tm).getD t undef=tm.getD t undef
 | [],_,_=>rfl
 |(p,v)::l,tm,h=>by
  simp only[List.map_cons,List.mem_cons,not_or] at h;rw[List.foldl_cons,qp l _ h.2];have:(tm.setIfInBounds p v)[t]? =tm[t]? :=Array.getElem?_setIfInBounds_ne (Ne.symm h.1);simp only[Array.getD_eq_getD_getElem?,this]
def LV.isZ:LV->Bool
 | .z _ _=>true
 |_=>false
def zU(H:Nat->Prop)(n:Nat)(A B:World):Prop:=∀b,b<n-> ¬H b->(∃o:Obj,A.heap[b]? =some o/\o.isCells=true)->B.heap[b]? =A.heap[b]?
structure L1 (E:Nat->Prop) (A B:World):Prop where
 os:B.os=A.os
 tape:B.tape=A.tape
 output:B.output=A.output
 size:B.heap.size=A.heap.size
 same:∀b,¬E b->B.heap[b]? =A.heap[b]?
 cells:∀b,E b->∃o:Obj,B.heap[b]? =some o/\o.isCells=true
def wg(P:Program)(gf:FuncId)(lb:Array Value)(enc:Nat->Array Value)(N:Nat)(Kp:World->World->Prop)(w:World)(E:Nat->Prop:=fun _=>False):Prop:=
 ∀(l:Nat) (J:Nat->World->Prop) (Jx:World->Prop) (W:World),Below w.heap.size w W->AbidesFrom W.heap.size J->AbidesFrom W.heap.size (fun(_:Unit)=>Jx)->(∀k A B,J k A->L1 E A B->J k B)->(∀A B,Jx A->L1 E A B->Jx B)->
  (∀k W1,J k W1->k<N->YieldAt (fw none) 0 P l (enc k) W1 fun e W'=>(e= .returned (.bool true)/\J (k+1) W'/\Kp W1 W')∨(e= .returned (.bool false)/\Jx W'))->
  J 0 W->CallsIn (fw none) 1 P gf (#[.func (.yield l) #[] #[]]++lb) W fun e W'=>(∃v,e= .returned v)/\(J N W'∨Jx W')
theorem wg.kp{P:Program}{gf:FuncId}{lb:Array Value}{enc:Nat->Array Value}{N:Nat}{Kp Kp':World->World->Prop}{w:World}{E:Nat->Prop}(h:wg P gf lb enc N Kp w E)(hk:∀A B,Kp' A B->Kp A B):wg P gf lb enc N Kp' w E:=
 fun l J Jx W h1 h2 h3 h4 h5 hY h0=>h l J Jx W h1 h2 h3 h4 h5 (fun k W1 hJ hkN=>by
  obtain⟨fn,tmps,assign,body,hy,hR⟩:=hY k W1 hJ hkN;exact⟨fn,tmps,assign,body,hy,hR.mono (fun e W' hh=>hh.imp (fun h=>⟨h.1,h.2.1,hk _ _ h.2.2⟩) id)⟩) h0
structure oZ (P:Program) (gf:FuncId) (m:Nat) (caps:List CV) (items:List (List LV)):Prop where
 enters:∀args w,(callFunc gf args).run P w= .ok (.enter gf args) w
 data:∀it∈items,it.length=m/\it.all LV.isZ=true
 seq:∀(H:Nat->Prop) (w:World) (lb:List Value),(∀b,H b->b<w.heap.size)->bC (gX H w (fun _=>undef)) caps lb->
  ∃enc:Nat->Array Value,(∀k (hk:k<items.length),bC (aV H w (fun _=>undef)) items[k] (enc k).toList)/\wg P gf lb.toArray enc items.length (zU H w.heap.size) w
def yi{ι:Type}(f:Nat->ι->aa)(Φ:Nat->ι->Prop)(ks:List Nat)(K:Exit->aa->Prop)(k:Nat)(e:Exit)(s:aa):Prop:=match e with
 | .normal=>∃y,le s (f (k+1) y)/\Φ (k+1) y
 | .ret=>∃z,le s z/\z.env.all (fun e=>ks.contains e.1)=true/\K .ret z
 | .exit i=>∃z,le s z/\z.env.all (fun e=>ks.contains e.1)=true/\K (.exit i) z
 |_=>False
def L2(K:Exit->aa->Prop)(z:aa):Code->Prop
 | .ret=>K .ret z
 | .exit i=>K (.exit i) z
 |_=>False
theorem Fits.cells{X:Cx}{s:aa}{a:Act}{A B:World}{ρ:Nat->Value}(h:Fits X s a A ρ)(hk:∀k:Nat,(∃o:Obj,A.heap[k]? =some o/\o.isCells=true)->B.heap[k]? =A.heap[k]?):Fits X s a B ρ:=by
 have hs:bn (hot X.O ρ s.own) A B:=fun b _ hb=>hk b hb;refine⟨fun e he=>?_,fun p hp=>(h.own p hp).move_id (fun _ _ h=>h) hs (fun b hb=>hk b ((h.own p hp).cells hb)),h.io,h.apart⟩;have:=gx (f:=id) (fun x v hx=>bb (fun _ _ h=>h) hs (fun _ _=>rfl) hx) (h.env e he);have e2:e.2.map id=e.2:=by cases e.2<;>simp[AV.map]
 rwa [e2] at this
abbrev XE(X:Cx)(E:Nat->Prop):Cx:={X with O:=fun b=>X.O b∨E b}
structure fb (X:Cx) (a:Act) (w:World) (H E:Nat->Prop) (z:aa) (W:World) (ρ:Nat->Value):Prop where
 fits:Fits (XE X E) z a W ρ
 bel:Bel X.M X.w0 W
 own:∀p∈z.own,∀b,Blk (ρ p.1) b->w.heap.size<=b∨H b
 keeps:KeepsOthers w W
 stays:bn (fun b=>H b∨E b) w W
theorem fb.abide{X:Cx}{a:Act}{w:World}{H E:Nat->Prop}{z:aa}{A B:World}{ρ:Nat->Value}(h:fb X a w H E z A ρ)(hw:X.w0.heap.size<=w.heap.size){row:Option Nat}(hg:A.grownBy B row)(hr:∀r,row=some r->w.heap.size<=r/\∃o:Obj,A.heap[r]? =some o/\o.isCells=false):fb X a w H E z B ρ:=by
 refine⟨h.fits.cells (fun k ⟨o,ho,hc⟩=>hg.block k (Array.getElem?_eq_some_iff.1 ho).1 (fun e=>?_)),⟨hg.os.trans h.bel.os,hg.tape.trans h.bel.tape,hg.output.trans h.bel.output,Nat.le_trans h.bel.size hg.size,fun k hk hm=>?_⟩,h.own,⟨Nat.le_trans h.keeps.size hg.size,fun k o hk ho=>?_⟩,fun b hb hc=>?_⟩;·obtain⟨_,o',ho',hc'⟩:=hr k e.symm;rw[ho] at ho';cases ho';rw[hc] at hc';cases hc'
 ·have:=h.bel.size;rw[hg.block k (by omega) (fun e=>by have:=(hr k e.symm).1;omega)];exact h.bel.block k hk hm
 ·have hlt:=(Array.getElem?_eq_some_iff.1 hk).1;have:=h.keeps.size;rw[hg.block k (by omega) (fun e=>by have:=(hr k e.symm).1;omega)];exact h.keeps.same k o hk ho
 ·have h1:=h.stays b hb hc;have hlt:=dk hc;have:=h.keeps.size;rw[hg.block b (by omega) (fun e=>by have:=(hr b e.symm).1;omega)];exact h1
theorem fb.turn{X:Cx}{a:Act}{w:World}{H E:Nat->Prop}{z:aa}{A B:World}{ρ:Nat->Value}(h:fb X a w H E z A ρ)(hEM:∀b,E b->X.M b)(hEw:∀b,E b->∃o:Obj,w.heap[b]? =some o/\o.isCells=true)(hEH:∀b,E b-> ¬H b)(ht:L1 E A B):fb X a w H E z B ρ:=by
 have hs:bn (hot (XE X E).O ρ z.own) A B:=fun b hb _=>ht.same b (fun e=>hb (.inl (.inr e)));refine⟨⟨fun e he=>?_,fun p hp=>(h.fits.own p hp).move_id (fun _ _ h=>h) hs (fun b hb=>ht.same b (fun e=>?_)),h.fits.io,h.fits.apart⟩,⟨ht.os.trans h.bel.os,ht.tape.trans h.bel.tape,ht.output.trans h.bel.output,by rw[ht.size];exact h.bel.size,fun k hk hm=>(ht.same k (fun e=>hm (hEM k e))).trans (h.bel.block k hk hm)⟩,h.own,⟨by rw[ht.size];exact h.keeps.size,fun k o hk ho=>?_⟩,fun b hb hc=>(ht.same b (fun e=>hb (.inr e))).trans (h.stays b hb hc)⟩
 ·have:=gx (f:=id) (fun x v hx=>bb (fun _ _ h=>h) hs (fun _ _=>rfl) hx) (h.fits.env e he);have e2:e.2.map id=e.2:=by cases e.2<;>simp[AV.map]
  rwa [e2] at this
 ·rcases h.own p hp b hb with h1|h1;·obtain⟨o,ho,_⟩:=hEw b e;have:=(Array.getElem?_eq_some_iff.1 ho).1;omega
  ·exact hEH b e h1
 ·by_cases e:E k
  ·obtain⟨o',ho',hc'⟩:=hEw k e;rw[hk] at ho';cases ho';rw[ho] at hc';cases hc'
  ·rw[ht.same k e];exact h.keeps.same k o hk ho
theorem fb.st{X:Cx}{a:Act}{w:World}{H E:Nat->Prop}{z s:aa}{W:World}{ρ:Nat->Value}(h:fb X a w H E z W ρ)(hst:St X s a w)(hD:W.heap[w.heap.size]? =some (.deferred (some []))):St X z {a with defers:={target:= .collected w.heap.size,args:= #[]}::a.defers} W:=by
 have hh:∀b,b<W.heap.size->hot X.O ρ z.own b->hot (XE X E).O ρ z.own b:=fun b _ hb=>hb.elim (fun h=> .inl (.inl h)) .inr;refine⟨⟨fun d hd=>?_,List.pairwise_cons.2 ⟨fun d hd e=>?_,hst.marks.apart⟩⟩,hst.kept,hst.size,h.bel,hst.others,hst.small,ρ,fun e he=>?_,fun p hp=>(h.fits.own p hp).move_id hh (bn.refl _ _) (fun _ _=>rfl),h.fits.io,h.fits.apart⟩
 ·rcases List.mem_cons.1 hd with rfl|hd;·exact⟨_,rfl,hst.below.size,hD⟩
  ·obtain⟨D,h1,h2,h3⟩:=hst.marks.each d hd;exact⟨D,h1,h2,h.keeps.same _ _ h3 rfl⟩
 ·obtain⟨D,h1,h2,h3⟩:=hst.marks.each d hd;rw[h1] at e;have:w.heap.size=D:=by injection e with e1 e2;injection e1
  have:=(Array.getElem?_eq_some_iff.1 h3).1;omega
 ·have:=gx (f:=id) (fun x v hx=>bb hh (bn.refl _ _) (fun _ _=>rfl) hx) (h.fits.env e he);have e2:e.2.map id=e.2:=by cases e.2<;>simp[AV.map]
  rwa [e2] at this
theorem Fa{r:Option Nat}{n m:Nat}{P:Program}{c:Code}{Q:Exit->Act->World->Prop}{a:Act}{w:World}(h:c.wpIn (fw r) n P Q a w):c.wpIn (fw r) m P Q a w:=
 fun b k cs h1 h2 _=>h b k cs h1 h2 (room_wide _)
end Go.Cm
end
section
namespace Go.Cm
open Go.RowKit
theorem bx.keep{P:Program}{T:Tab}(h:bx P T)(ks:List Nat):bx P {T with keep:=ks}:=
 ⟨⟨h.tab.types,h.tab.elems,h.tab.small⟩,⟨h.cons.cons,h.cons.body⟩,h.mixed⟩
theorem fb.back{X:Cx}{a:Act}{w:World}{H E:Nat->Prop}{z:aa}{A B:World}{ρ:Nat->Value}{y:aa}{ks:List Nat}{a1 a3:Act}{l:Nat}(h:fb X a w H E y A ρ)
  (hkept:∀t∈ks,a1.tmps.getD t undef=a.tmps.getD t undef) (hz:z.env.all (fun e=>ks.contains e.1)=true) {s:aa} (hle:le s z)
  (h3:St {XE X E with T:={X.T with keep:=ks},I:=fun b=>∃p∈y.own,Blk (ρ p.1) b,w0:=A,r:=some l,tm:=fun t=>a1.tmps.getD t undef} s a3 B):∃ ρ',fb X a w H E z B ρ'/\KeepsOthers A B/\zU H w.heap.size A B:=by
 obtain⟨ρ3,hf3⟩:=h3.fits;have hf4:=hf3.le hle;have hko:KeepsOthers A B:=KeepsOthers.of_bel h3.below (fun b hb hm=>by
  rcases hm with hm|⟨p,hp,hpb⟩;·simp only at hm;omega
  ·exact(h.fits.own p hp).cells hpb)
 have hM:∀b,Cx.M {XE X E with T:={X.T with keep:=ks},I:=fun b=>∃p∈y.own,Blk (ρ p.1) b,w0:=A,r:=some l,tm:=fun t=>a1.tmps.getD t undef} b->X.M b:=by
  rintro b (hb|⟨p,hp,hpb⟩);·have:=h.bel.size;simp only at hb;exact .inl (by omega)
  ·exact((h.fits.own p hp).lt hpb).1
 have hI:∀b,Cx.M {XE X E with T:={X.T with keep:=ks},I:=fun b=>∃p∈y.own,Blk (ρ p.1) b,w0:=A,r:=some l,tm:=fun t=>a1.tmps.getD t undef} b->w.heap.size<=b∨H b:=by
  rintro b (hb|⟨p,hp,hpb⟩);·have:=h.keeps.size;simp only at hb;exact .inl (by omega)
  ·exact h.own p hp b hpb
 refine⟨_,⟨⟨fun e he=>?_,fun p hp=>?_,hf4.io,hf4.apart⟩,h.bel.trans h3.below (fun j _ hm=>hM j hm),fun p hp b hb=>hI b ((hf4.own p hp).lt hb).1,h.keeps.trans hko,fun b hb hc=>?_⟩,hko,fun b hb hnH hc=>?_⟩
 ·have h5:=hf4.env e he;have hmem:e.1∈ks:=by simpa using List.all_eq_true.1 hz e he
  have h6:=h3.kept e.1 hmem;rw[h6] at h5;simp only at h5;rw[hkept e.1 hmem] at h5;exact h5
 ·have:=(hf4.own p hp).moved (H':=hot (XE X E).O (cY ρ3 s.own) z.own) (ρ':=cY ρ3 s.own) (k:=p.1) (f:=id) (M':=X.M) (fun _ _ h=>h) (fun _ _ h=>h) rfl (fun b hb=>hM b ((hf4.own p hp).lt hb).1);rw[aJ.map_id] at this;exact this
 ·have h1:=h.stays b hb hc;have hlt:=dk hc;refine Eq.trans (h3.below.block b ?_ ?_) h1;·have:=h.keeps.size;simp only;omega
  ·(intro hm;rcases hI b hm with h7|h7;·omega);·exact hb (.inl h7)
 ·have hlt:=dk hc;refine h3.below.block b hlt ?_;intro hm;rcases hI b hm with h7|h7;·omega
  ·exact hnH h7
theorem L3{X:Cx}(hr:X.r=none){s:aa}{K:Exit->aa->Prop}{g:Operand}{ps:Array Tmp}{assign body:Code}{gf:FuncId}
  {items:List (List LV)} (henters:∀args w,(callFunc gf args).run X.P w= .ok (.enter gf args) w) (hdata:∀it∈items,it.length=ps.size/\it.all LV.isZ=true) {ms:List (Nat×Operand)} (hms:kb assign=some ms) (ks:List Nat)
  (hk1:ks.all (fun t=> !ps.toList.contains t&& !(ms.map Prod.fst).contains t)=true) (hps:ps.toList.all (fun t=>decide (t<X.T.N))=true)
  {ι:Type} (f:Nat->ι->aa) (Φ:Nat->ι->Prop) (x₀:ι) (h₀:le s (f 0 x₀))
  (hseq:∀(a:Act) (w:World) (ρ:Nat->Value),St X s a w->Fits X s a w ρ->(∀b,hot X.O (cY ρ s.own) (f 0 x₀).own b->b<w.heap.size)->∃(lb:List Value) (E:Nat->Prop),a.eval g= .func (.func gf) #[] lb.toArray/\(∀b,E b->X.M b/\(∃o:Obj,w.heap[b]? =some o/\o.isCells=true)/\ ¬hot X.O (cY ρ s.own) (f 0 x₀).own b/\hot X.O ρ s.own b)/\∃enc:Nat->Array Value,
   (∀k (hk:k<items.length),bC (aV (fun b=>hot X.O (cY ρ s.own) (f 0 x₀).own b∨E b) w (fun _=>undef)) items[k] (enc k).toList)/\wg X.P gf lb.toArray enc items.length (zU (hot (fun _=>False) (cY ρ s.own) (f 0 x₀).own) w.heap.size) w E) (hΦ:Φ 0 x₀) (hks:∀k x,(f k x).env.all (fun e=>ks.contains e.1)=true)
  (hround:∀k (hk:k<items.length) (x:ι),Φ k x->∃s1,gA X.T.N (eM (f k x) (ps.toList.zip items[k])) ms=some s1/\
   ∀X':Cx,X'.P=X.P->X'.T={X.T with keep:=ks}->J X' body s1 (yi f Φ ks K k))
  (hdone:∀x,Φ items.length x->K .normal (f items.length x)):J X (.rangeFunc g ps assign body) s K:=by
 intro a w hst;obtain⟨ρ,hf⟩:=hst.fits;have hHlt':∀b,hot X.O (cY ρ s.own) (f 0 x₀).own b->b<w.heap.size:=fun b hb=>hf.hot_lt hst.others hst.below (oe h₀ hb);have hseq':=hseq a w ρ hst hf hHlt';obtain⟨H,hH⟩:∃H,H=hot (fun _=>False) (cY ρ s.own) (f 0 x₀).own:=⟨_,rfl⟩;have hHX:∀b,H b->hot X.O (cY ρ s.own) (f 0 x₀).own b:=fun b hb=>by rw[hH] at hb;exact hb.elim False.elim .inr
 rw[<- hH] at hseq';obtain⟨lb,E,hlb1,hE,enc,henc,hsq⟩:=hseq';have hEM:=fun b hb=>(hE b hb).1;have hEw:=fun b hb=>(hE b hb).2.1;have hEH:∀b,E b-> ¬H b:=fun b hb h=>(hE b hb).2.2.1 (hHX b h);have hw0:X.w0.heap.size<=w.heap.size:=hst.below.size;have hout0:fb X a w H E (f 0 x₀) w (cY ρ s.own):=by
  have h1:Fits (XE X E) (f 0 x₀) a w (cY ρ s.own):=Fits.leO h₀ hf (fun b _ hb=>by
   (rcases hb with(hb|hb)|hb;·exact .inl hb);·exact(hE b hb).2.2.2
   ·exact oe h₀ (.inr hb))
  exact⟨h1,hst.below,fun p hp b hb=> .inr (by rw[hH];exact dH hp hb),KeepsOthers.refl _,bn.refl _ _⟩
 refine wpIn_rangeFunc ?_;intro fn hfn;have hround0:(fw X.r).round=none:=by rw[hr];rfl
 rw[hround0];obtain⟨rec,hrec⟩:∃rec:LoopState->Option Code->Loop,rec=fun st pe=>{state:=st,pending:=pe,fn,tmps:=a.tmps,params:=ps,assign,body,defers:=w.heap.size}:=⟨_,rfl⟩;obtain⟨W1,hW1⟩:∃W1,(w.alloc (.deferred (some []))).alloc (.loop (rec .ready none))=W1:=⟨_,rfl⟩;have hsz1:W1.heap.size=w.heap.size+2:=by rw[<- hW1];simp
 have hL1:W1.heap[w.heap.size+1]? =some (.loop (rec .ready none)):=by
  rw[<- hW1];have:=World.alloc_heap_new (w.alloc (.deferred (some []))) (.loop (rec .ready none));rwa [World.size_alloc] at this
 have hD1:W1.heap[w.heap.size]? =some (.deferred (some [])):=by
  rw[<- hW1];exact(Below.heap_alloc _ _ _ (by simp)).trans (World.alloc_heap_new w _)
 have hb1:Below w.heap.size w W1:=by rw[<- hW1];exact((Below.refl _ w).alloc (Nat.le_refl _) _).alloc (by simp) _
 have hout1:fb X a w H E (f 0 x₀) W1 (cY ρ s.own):=by
  rw[<- hW1];exact(hout0.abide hw0 (World.grownBy_alloc _ _ none) (by simp)).abide hw0 (World.grownBy_alloc _ _ none) (by simp)
 refine⟨w.heap.size+1,[{target:= .collected w.heap.size,args:= #[]}],W1,{target:= .fn (.func gf) lb.toArray,args:= #[.func (.yield (w.heap.size+1)) #[] #[]]},W1,gf,
  #[.func (.yield (w.heap.size+1)) #[] #[]]++lb.toArray,W1,?_,?_,fun _ _=>trivial,?_,fun h=>by simp[fw,Fence.wide] at h,?_⟩
 ·rw[<- hW1,hrec];exact run_enterLoop_outer _ _ _ _ _
 ·simp only[resolve,hlb1];simp[go_sem]
 ·simp[invoke,go_sem,henters]
 have hfw:fw X.r=fw none:=by rw[hr]
 rw[hfw];have hkeptA:∀k (act0:Act),act0.tmps=((ps.toList.zip (enc k).toList).foldl (fun(t:Array Value) (p:Nat×Value)=>t.setIfInBounds p.1 p.2) a.tmps)->∀t∈ks,(cT act0 ms).tmps.getD t undef=a.tmps.getD t undef:=by
  intro k act0 h0 t ht;have h1:=List.all_eq_true.1 hk1 t ht;simp only[Bool.and_eq_true,Bool.not_eq_true',List.contains_eq_mem,decide_eq_false_iff_not] at h1;rw[nQ ms _ h1.2,h0,qp];intro hm;obtain⟨p,hp,rfl⟩:=List.mem_map.1 hm;exact h1.1 (List.of_mem_zip hp).1
 have hE1:¬E (w.heap.size+1):=fun e=>by
  obtain⟨o,ho,_⟩:=hEw _ e;have:=(Array.getElem?_eq_some_iff.1 ho).1;omega
 have hE2:¬E w.heap.size:=fun e=>by
  obtain⟨o,ho,_⟩:=hEw _ e;have:=(Array.getElem?_eq_some_iff.1 ho).1;omega
 refine(hsq (w.heap.size+1)
  (fun k W=>(∃x ρ,Φ k x/\fb X a w H E (f k x) W ρ)/\W.heap[w.heap.size+1]? =some (.loop (rec .ready none))/\W.heap[w.heap.size]? =some (.deferred (some [])))
  (fun W=>∃c,(∃z ρ,L2 K z c/\fb X a w H E z W ρ)/\W.heap[w.heap.size+1]? =some (.loop (rec .done (some c)))/\W.heap[w.heap.size]? =some (.deferred (some [])))
  W1 hb1 ?_ ?_ ?_ ?_ ?_ ⟨⟨x₀,_,hΦ,hout1⟩,hL1,hD1⟩).mono ?_
 ·rintro k A B row ⟨⟨x,ρx,hx,ho⟩,hl,hd⟩ hg' hrow;refine⟨⟨x,ρx,hx,ho.abide hw0 hg' (fun r e=>?_)⟩,(grownBy_keeps hg' (fun r e=>(hrow r e).2) hl rfl).trans hl,(grownBy_keeps hg' (fun r e=>(hrow r e).2) hd rfl).trans hd⟩;obtain⟨h1,o,h2,h3⟩:=hrow r e;exact⟨by omega,o,h2,Obj.not_cells_of_walk h3⟩
 ·rintro _ A B row ⟨c,⟨z,ρx,hx,ho⟩,hl,hd⟩ hg' hrow;refine⟨c,⟨z,ρx,hx,ho.abide hw0 hg' (fun r e=>?_)⟩,(grownBy_keeps hg' (fun r e=>(hrow r e).2) hl rfl).trans hl,(grownBy_keeps hg' (fun r e=>(hrow r e).2) hd rfl).trans hd⟩;obtain⟨h1,o,h2,h3⟩:=hrow r e;exact⟨by omega,o,h2,Obj.not_cells_of_walk h3⟩
 ·rintro k A B ⟨⟨x,ρx,hx,ho⟩,hl,hd⟩ ht;exact⟨⟨x,ρx,hx,ho.turn hEM hEw hEH ht⟩,(ht.same _ hE1).trans hl,(ht.same _ hE2).trans hd⟩
 ·rintro A B ⟨c,⟨z,ρx,hx,ho⟩,hl,hd⟩ ht;exact⟨c,⟨z,ρx,hx,ho.turn hEM hEw hEH ht⟩,(ht.same _ hE1).trans hl,(ht.same _ hE2).trans hd⟩
 ·rintro k W ⟨⟨x,ρx,hx,ho⟩,hl,hd⟩ hkN;obtain⟨s1,hs1,hJ⟩:=hround k hkN x hx;have hlt:w.heap.size+1<W.heap.size:=(Array.getElem?_eq_some_iff.1 hl).1;have hen:=henc k hkN;have hdat:=hdata _ (List.getElem_mem hkN);have hes:(enc k).size=ps.size:=by have:=hen.length;rw[hdat.1] at this;simpa using this.symm
  have hy:=run_yield (P:=X.P) (args:=enc k) hl (by rw[hrec];exact hes);rw[hrec] at hy;refine⟨fn,_,assign,body,hy,roundIn_of_wpIn (F:=fw none) trivial (CU (r:=some (w.heap.size+1)) assign hms ⟨_,run_beginRound hl (by rw[hrec]),?_⟩)⟩;obtain⟨W2,hW2⟩:∃W2,W.putObj (w.heap.size+1) (.loop {rec .ready none with state:= .busy})=W2:=⟨_,rfl⟩;rw[hW2];have hl2:W2.heap[w.heap.size+1]? =some (.loop {rec .ready none with state:= .busy}):=by rw[<- hW2];exact World.putObj_heap_same hlt
  have hd2:W2.heap[w.heap.size]? =some (.deferred (some [])):=by rw[<- hW2];exact(World.putObj_heap_other (by omega)).trans hd
  have ho2:fb X a w H E (f k x) W2 ρx:=by
   rw[<- hW2];exact ho.abide hw0 (grownBy_putObj' _ _ _) (fun r e=>by cases e;exact⟨by omega,_,hl,rfl⟩)
  have hzip:(ps.zip (enc k)).toList=ps.toList.zip (enc k).toList:=Array.toList_zip;have hfold:(ps.zip (enc k)).foldl (fun(t:Array Value) (p:Nat×Value)=>t.setIfInBounds p.1 p.2) a.tmps=(ps.toList.zip (enc k).toList).foldl (fun(t:Array Value) (p:Nat×Value)=>t.setIfInBounds p.1 p.2) a.tmps:=by
   rw[<- Array.foldl_toList,hzip]
  obtain⟨act0,hact0⟩:∃act0:Act,act0={tmps:=(ps.toList.zip (enc k).toList).foldl (fun(t:Array Value) (p:Nat×Value)=>t.setIfInBounds p.1 p.2) a.tmps,defers:=[]}:=⟨_,rfl⟩;have hfitA:Fits (XE X E) (f k x) {a with defers:=[]} W2 ρx:=⟨ho2.fits.env,ho2.fits.own,ho2.fits.io,ho2.fits.apart⟩;have hHsub:∀b,b<w.heap.size->hot (XE X E).O ρx (f k x).own b->(hot X.O (cY ρ s.own) (f 0 x₀).own b∨E b):=by
   (rintro b hb ((h1|h1)|⟨p,hp,hpb⟩);·exact .inl (.inl h1));·exact .inr h1
   ·(rcases ho2.own p hp b hpb with h2|h2;·omega);·exact .inl (hHX b h2)
  have hvals:bC (aV (hot (XE X E).O ρx (f k x).own) W2 ρx) ((ps.toList.zip (items[k])).map Prod.snd) (enc k).toList:=by
   have e:(ps.toList.zip (items[k])).map Prod.snd=items[k]:=List.map_snd_zip (by have:=hdat.1;simp;omega);rw[e];refine hen.imp (fun y v hy h=>?_);have hz:=List.all_eq_true.1 hdat.2 y hy;refine bb hHsub (fun b hb hc=>ho2.stays b (fun e=>hb (e.imp (hHX b) id)) hc) (fun id hid=>?_) h;cases y<;>simp_all [LV.isZ,LV.isOf]
  have hszA:a.tmps.size=X.T.N:=hst.size;have e1:(ps.toList.zip (items[k])).map Prod.fst=ps.toList:=List.map_fst_zip (by have:=hdat.1;simp;omega);obtain⟨actP,hactP,hfitP,hszP⟩:=qo (ps.toList.zip (items[k])) (enc k).toList hfitA rfl hszA (fun p hp=>by
   have:=List.all_eq_true.1 hps p.1 (List.of_mem_zip hp).1;simpa using this) hvals
  rw[e1] at hactP;have hP0:actP=act0:=by rw[hactP,hact0]
  rw[hP0] at hfitP hszP;have hfit1:=rr ms hfitP hszP hs1;rw[hfold,<- hact0];have hkA:=hkeptA k act0 (by rw[hact0]);have hst1:St {XE X E with T:={X.T with keep:=ks},I:=fun b=>∃p∈(f k x).own,Blk (ρx p.1) b,w0:=W2,r:=some (w.heap.size+1),tm:=fun t=>(cT act0 ms).tmps.getD t undef} s1 (cT act0 ms) W2:=by
   refine⟨?_,fun _ _=>rfl,by rw[nP];exact hszP,Bel.refl _ _,fun b hb hm=>?_,⟨hst.small.n,?_,fun b hb=>?_⟩,ρx,hfit1.env,fun p hp=>?_,hfit1.io,hfit1.apart⟩;·rw[lY,hact0];exact Marks.nil _ _
   ·rcases hb with hb|hb
    ·rcases hm with hm|⟨p,hp,hpb⟩
     ·have h1:=hst.others b hb;have h2:b<X.w0.heap.size:=by
       by_cases h3:b<X.w0.heap.size
       ·exact h3
       ·exact absurd (.inl (by omega)) h1
      have:=ho2.bel.size;simp only at hm;omega
     ·exact hst.others b hb ((ho2.fits.own p hp).lt hpb).1
    ·obtain⟨o,ho,_⟩:=hEw b hb;have h2:=(Array.getElem?_eq_some_iff.1 ho).1;rcases hm with hm|⟨p,hp,hpb⟩;·have:=ho2.keeps.size;simp only at hm;omega
     ·(rcases ho2.own p hp b hpb with h1|h1;·omega);·exact hEH b hb h1
   ·(have h1:=hst.small.on;refine⟨Nat.le_trans h1.1 ho2.bel.size,fun b hb=>?_⟩;rw[<- h1.2 b hb];refine ho2.bel.block b (Nat.lt_of_lt_of_le hb h1.1) ?_;rintro(hm|hm);·have:=h1.1;simp only at hb;omega);·have:=hst.small.io b hm;simp only at hb;omega
   ·(obtain⟨p,hp,hpb⟩:=hb;rcases ((ho2.fits.own p hp).lt hpb).1 with h1|h1;·exact Nat.le_trans hst.small.on.1 h1);·exact hst.small.io b h1
   ·have howns:s1.own=(f k x).own:=by
     have hq:∀(l:List (Nat×LV)) (s:aa),(eM s l).own=s.own:=by
      intro l;induction l with
      |nil=>intro s;rfl
      |cons q l ih=>intro s;exact ih _
     have hm:∀(l:List (Nat×Operand)) (s t:aa),gA X.T.N s l=some t->t.own=s.own:=by
      intro l;induction l with
      |nil=>intro s t h;cases h;rfl
      |cons q l ih=>
       intro s t h;simp only[gA] at h;split at h
       ·(split at h;·rw[ih _ _ h];rfl);·cases h
       ·cases h
     rw[hm _ _ _ hs1,hq]
    have:=(hfit1.own p hp).moved (H':=hot (XE X E).O ρx s1.own) (ρ':=ρx) (k:=p.1) (f:=id) (M':=Cx.M {XE X E with T:={X.T with keep:=ks},I:=fun b=>∃p∈(f k x).own,Blk (ρx p.1) b,w0:=W2,r:=some (w.heap.size+1),tm:=fun t=>(cT act0 ms).tmps.getD t undef}) (fun _ _ h=>h) (fun _ _ h=>h) rfl (fun b hb=> .inr ⟨p,by rw[<- howns];exact hp,hb⟩);rw[aJ.map_id] at this;exact this
  have hw:=hJ {XE X E with T:={X.T with keep:=ks},I:=fun b=>∃p∈(f k x).own,Blk (ρx p.1) b,w0:=W2,r:=some (w.heap.size+1),tm:=fun t=>(cT act0 ms).tmps.getD t undef} rfl rfl _ _ hst1;refine Fa (n:=2) (Code.wpIn_mono (fun e a3 W3 hp=>?_) hw);obtain⟨s3,hK3,hst3⟩:=hp;have fin:∀(jump:Option Code) (z:aa),z.env.all (fun e=>ks.contains e.1)=true->le s3 z->∃ ρz,fb X a w H E z (W3.putObj (w.heap.size+1) (.loop (rec (if jump.isNone then .ready else .done) jump))) ρz/\
    (Instr.endRound (w.heap.size+1) jump).run X.P W3= .ok (.bool jump.isNone) (W3.putObj (w.heap.size+1) (.loop (rec (if jump.isNone then .ready else .done) jump)))/\
    (W3.putObj (w.heap.size+1) (.loop (rec (if jump.isNone then .ready else .done) jump))).heap[w.heap.size+1]? =some (.loop (rec (if jump.isNone then .ready else .done) jump))/\
    (W3.putObj (w.heap.size+1) (.loop (rec (if jump.isNone then .ready else .done) jump))).heap[w.heap.size]? =some (.deferred (some []))/\
    zU H w.heap.size W (W3.putObj (w.heap.size+1) (.loop (rec (if jump.isNone then .ready else .done) jump))):=by
   intro jump z hz hle;obtain⟨ρz,h1,h2,h3⟩:=ho2.back hkA hz hle hst3;have hl3:=h2.same _ _ hl2 rfl;have hd3:=h2.same _ _ hd2 rfl;have he:=run_endRound (P:=X.P) jump hl3;rw[hrec] at he ⊢;refine⟨ρz,h1.abide hw0 (grownBy_putObj' _ _ _) (fun r e=>by cases e;exact⟨by omega,_,hl3,rfl⟩),he,World.putObj_heap_same (Array.getElem?_eq_some_iff.1 hl3).1,(World.putObj_heap_other (by omega)).trans hd3,fun b hb hnH hc=>?_⟩;(have e1:W2.heap[b]? =W.heap[b]? :=by rw[<- hW2];exact World.putObj_heap_other (by omega));rw[World.putObj_heap_other (by omega),h3 b hb hnH (by rw[e1];exact hc),e1]
  cases e with
  |normal=>
   obtain⟨y,hle,hy'⟩:=hK3;obtain⟨ρz,h1,h2,h3,h4,h5⟩:=fin none _ (hks (k+1) y) hle;exact⟨_,_,h2,.inl ⟨rfl,⟨⟨y,ρz,hy',h1⟩,h3,h4⟩,h5⟩⟩
  |ret=>
   obtain⟨z,hle,hz,hk3⟩:=hK3;obtain⟨ρz,h1,h2,h3,h4,h5⟩:=fin (some .ret) _ hz hle;exact⟨_,_,h2,.inr ⟨rfl,.ret,⟨z,ρz,hk3,h1⟩,h3,h4⟩⟩
  |exit i=>
   obtain⟨z,hle,hz,hk3⟩:=hK3;obtain⟨ρz,h1,h2,h3,h4,h5⟩:=fin (some (.exit i)) _ hz hle;exact⟨_,_,h2,.inr ⟨rfl,.exit i,⟨z,ρz,hk3,h1⟩,h3,h4⟩⟩
  |goto t=>exact hK3.elim
  |panic ch=>exact hK3.elim
  |outgrown=>exact hK3.elim
 ·rintro e W2 ⟨⟨v,rfl⟩,(⟨⟨x,ρx,hx,ho⟩,hl,hd⟩|⟨c,⟨z,ρz,hj,ho⟩,hl,hd⟩)⟩;·have he:=run_endLoop (P:=X.P) hl (by rw[hrec];simp);rw[hrec] at he;refine⟨none,_,he,_,hdone x hx,(ho.abide hw0 (grownBy_putObj' _ _ _) (fun r e=>by cases e;exact⟨by omega,_,hl,rfl⟩)).st hst ((World.putObj_heap_other (by omega)).trans hd)⟩
  ·have he:=run_endLoop (P:=X.P) hl (by rw[hrec];simp);rw[hrec] at he;refine⟨some c,_,he,?_⟩;cases c with
   |ret=>exact wpIn_ret ⟨z,hj,(ho.abide hw0 (grownBy_putObj' _ _ _) (fun r e=>by cases e;exact⟨by omega,_,hl,rfl⟩)).st hst ((World.putObj_heap_other (by omega)).trans hd)⟩
   |exit i=>exact wpIn_exit ⟨z,hj,(ho.abide hw0 (grownBy_putObj' _ _ _) (fun r e=>by cases e;exact⟨by omega,_,hl,rfl⟩)).st hst ((World.putObj_heap_other (by omega)).trans hd)⟩
   |_=>exact hj.elim
theorem Fb{X:Cx}(hr:X.r=none){s:aa}{K:Exit->aa->Prop}{g:Operand}{ps:Array Tmp}{assign body:Code}{gf:FuncId}{caps:List CV}
  (hg:bc s g=some (.l (.fn gf caps))) (hcap:caps.all CV.pure=true) {items:List (List LV)} (hseq:oZ X.P gf ps.size caps items) {ms:List (Nat×Operand)} (hms:kb assign=some ms) (ks:List Nat)
  (hk1:ks.all (fun t=> !ps.toList.contains t&& !(ms.map Prod.fst).contains t)=true) (hps:ps.toList.all (fun t=>decide (t<X.T.N))=true)
  {ι:Type} (f:Nat->ι->aa) (Φ:Nat->ι->Prop) (x₀:ι) (h₀:le s (f 0 x₀)) (hΦ:Φ 0 x₀) (hks:∀k x,(f k x).env.all (fun e=>ks.contains e.1)=true)
  (hround:∀k (hk:k<items.length) (x:ι),Φ k x->∃s1,gA X.T.N (eM (f k x) (ps.toList.zip items[k])) ms=some s1/\
   ∀X':Cx,X'.P=X.P->X'.T={X.T with keep:=ks}->J X' body s1 (yi f Φ ks K k))
  (hdone:∀x,Φ items.length x->K .normal (f items.length x)):J X (.rangeFunc g ps assign body) s K:=
 L3 hr hseq.enters hseq.data hms ks hk1 hps f Φ x₀ h₀ (fun a w ρ _ hf hlt=>by
  obtain⟨lb,hlb1,hlb2⟩:aV (hot X.O ρ s.own) w ρ (.fn gf caps) (a.eval g):=cg hf hg;obtain⟨enc,h1,h2⟩:=hseq.seq _ w lb hlt (j7 hcap (fun b hb=>oe h₀ hb) hlb2);exact⟨lb,fun _=>False,hlb1,fun b hb=>hb.elim,enc,fun k hk=>(h1 k hk).imp (fun x v hx h=>bb (H:=hot X.O (cY ρ s.own) (f 0 x₀).own) (fun b _ hb=>hb.elim id (fun e=>e.elim)) (bn.refl _ _) (fun _ _=>rfl) h),h2.kp (fun A B hk b hb hn hc=>hk b hb (fun e=>hn (e.elim False.elim .inr)) hc)⟩) hΦ hks hround hdone
end Go.Cm
end
section
namespace Go.Cm
theorem L4{X:Cx}{c:Code}{s s':aa}{K:Exit->aa->Prop}(l:List Nat)(he:s.freezeAll l=s')(h:J X c s' K):J X c s K:=by
 subst he;exact fun a w hst=>h a w (hst.freezeAll l)
def LV.moveS(a b:Nat):LV->LV
 | .ownS i=>if i=a then .ownS b else if i=b then .junk else .ownS i
 |x=>if x.isOf a||x.isOf b then .junk else x
def aa.moveArr(T:Tab)(s:aa)(a b:Nat):Option aa:=
 match get? s.own a with
 |some (.arr t E xs)=>if (b<ioB/\a≠b)/\T.mayMove a=true then
   some {env:=bZ (LV.moveS a b) s.env,own:=(b,.arr t E xs)::(a,.arr t E [])::bu (LV.moveS a b) (del (del s.own b) a)}
  else none
 |_=>none
theorem tG{H H':Nat->Prop}{w:World}{ρ ρ':Nat->Value}{a b:Nat}(hh:∀b,b<w.heap.size->H' b->H b)(hb:ρ' b=ρ a)(ho:∀i,i≠a->i≠b->ρ' i=ρ i){x:LV}{v:Value}(h:aV H w ρ x v):aV H' w ρ' (x.moveS a b) v:=by
 have key:∀x:LV,aV H w ρ x v->aV H' w ρ' (if x.isOf a||x.isOf b then .junk else x) v:=by
  intro x h;split;·trivial
  ·rename_i hn;simp only[Bool.or_eq_true,not_or] at hn;exact bb hh (bn.refl _ _) (fun i hi=>ho i (fun e=>hn.1 (e▸hi)) (fun e=>hn.2 (e▸hi))) h
 cases x with
 |ownS i=>
  simp only[LV.moveS];split;·rename_i e;subst e;simp only[aV,hb];exact h
  ·(split;·trivial);·rename_i h1 h2;simp only[aV,ho i h1 h2];exact h
 |z t x=>exact key _ h
 |ownP i o=>exact key _ h
 |ownE i w o=>exact key _ h
 |ownW i w o=>exact key _ h
 |ownM i=>exact key _ h
 |ownA i o=>exact key _ h
 |ownR i o=>exact key _ h
 |ownB i o p q=>exact key _ h
 |fn f c=>exact key _ h
 |val u=>exact key _ h
 |junk=>exact key _ h
theorem St.moveArr{X:Cx}{s s':aa}{a b:Nat}(he:s.moveArr X.T a b=some s'){ac:Act}{w:World}(h:St X s ac w):St X s' ac w:=by
 unfold aa.moveArr at he;split at he;case h_2=>cases he
 rename_i t E xs hg;split at he;case isFalse=>cases he
 rename_i hc;cases he;obtain⟨⟨hbB,hab⟩,hmv⟩:=hc;obtain⟨ρ,hf⟩:=h.fits;obtain⟨ρ',hρb,hρa,hρo⟩:∃ ρ':Nat->Value,ρ' b=ρ a/\ρ' a= .slice none 0 0/\∀i,i≠a->i≠b->ρ' i=ρ i:=
  ⟨fun i=>if i=b then ρ a else if i=a then .slice none 0 0 else ρ i,by simp,by simp[hab],fun i h1 h2=>by simp[h1,h2]⟩
 have hga:=get?_mem hg;have hrest:∀p∈bu (LV.moveS a b) (del (del s.own b) a),∃u,(p.1,u)∈s.own/\p.2=u.map (LV.moveS a b)/\p.1≠a/\p.1≠b:=by
  intro p hp;obtain⟨u,h1,h2⟩:=bq hp;have h3:=bQ.1 h1;have h4:=bQ.1 h3.1;exact⟨u,h4.1,h2,h3.2,h4.2⟩
 have hh:∀k,hot X.O ρ' ((b,.arr t E xs)::(a,.arr t E [])::bu (LV.moveS a b) (del (del s.own b) a)) k->hot X.O ρ s.own k:=by
  rintro k (hk|⟨p,hp,hk⟩);·exact .inl hk
  ·rcases List.mem_cons.1 hp with rfl|hp;·simp only[hρb] at hk;exact dH hga hk
   ·(rcases List.mem_cons.1 hp with rfl|hp;·simp only[hρa] at hk;simp[Blk] at hk);·obtain⟨u,h1,_,h2,h3⟩:=hrest p hp;rw[hρo _ h2 h3] at hk;exact dH h1 hk
 refine⟨h.marks,h.kept,h.size,h.below,h.others,h.small,ρ',fun e he=>?_,fun p hp=>?_,fun p hp hB hF=>?_,?_⟩;·obtain⟨v,h1,h2⟩:=jC he;rw[h2];exact gx (fun x v hx=>tG (fun k _ hk=>hh k hk) hρb hρo hx) (hf.env _ h1)
 ·rcases List.mem_cons.1 hp with rfl|hp;·obtain⟨cells,h1,h2⟩:=hf.own _ hga;exact⟨cells,aX (fun k _ hk=>hh k hk) (bn.refl _ _) h1,by rw[hρb];exact h2⟩
  ·(rcases List.mem_cons.1 hp with rfl|hp;·exact⟨[],rfl,by rw[hρa];exact kC _ _ _ _⟩);·obtain⟨u,h1,h4,h2,h3⟩:=hrest p hp;have:=(hf.own _ h1).move (f:=LV.moveS a b) (ρ':=ρ') (fun k _ hk=>hh k hk) (bn.refl _ _) (fun x v hx=>tG (fun k _ hk=>hh k hk) hρb hρo hx) (hρo _ h2 h3) (fun _ _=>rfl);rw[<- h4] at this;exact this
 ·rcases List.mem_cons.1 hp with rfl|hp;·simp only at hB;omega
  ·rcases List.mem_cons.1 hp with rfl|hp
   ·(simp only[Tab.mayMove,Bool.or_eq_true,decide_eq_true_eq] at hmv;simp only at hB hF;rcases hmv with hmv|hmv;·omega);·rw[hF] at hmv;cases hmv
   ·obtain⟨u,h1,h4,h2,h3⟩:=hrest p hp;rw[hρo _ h2 h3];exact hf.io (p.1,u) h1 hB hF
 ·have hpw:=cP (f:=LV.moveS a b) (fun i j=>i≠j/\∀k,Blk (ρ i) k-> ¬Blk (ρ j) k) (dr (fun i j=>i≠j/\∀k,Blk (ρ i) k-> ¬Blk (ρ j) k) (n:=a) (dr (fun i j=>i≠j/\∀k,Blk (ρ i) k-> ¬Blk (ρ j) k) (n:=b) hf.apart));rw[List.pairwise_cons,List.pairwise_cons];refine⟨fun q hq=>?_,fun q hq=>?_,hpw.imp_of_mem fun {p q} hp hq hpq=>?_⟩
  ·(rcases List.mem_cons.1 hq with rfl|hq;·exact⟨fun e=>hab e.symm,fun k _ hk=>by simp only[hρa] at hk;simp[Blk] at hk⟩);·obtain⟨u,h1,_,h2,h3⟩:=hrest q hq;refine⟨fun e=>h3 e.symm,fun k hk hk2=>?_⟩;simp only[hρb] at hk;rw[hρo _ h2 h3] at hk2;exact hf.two (p:=(a,_)) (q:=(q.1,u)) hga h1 (fun e=>h2 e.symm) hk hk2
  ·obtain⟨u,h1,_,h2,h3⟩:=hrest q hq;exact⟨fun e=>h2 e.symm,fun k hk=>by simp only[hρa] at hk;simp[Blk] at hk⟩
  ·obtain⟨u,_,_,h2,h3⟩:=hrest p hp;obtain⟨u',_,_,h2',h3'⟩:=hrest q hq;rw[hρo _ h2 h3,hρo _ h2' h3'];exact hpq
theorem L5{X:Cx}{c:Code}{s s':aa}{K:Exit->aa->Prop}(a b:Nat)(he:s.moveArr X.T a b=some s')(h:J X c s' K):J X c s K:=
 fun ac w hst=>h ac w (hst.moveArr he)
end Go.Cm
end
section
namespace Go.Cm
open Go.RowKit
theorem Fits.drop{X:Cx}{s:aa}{a:Act}{w:World}{ρ:Nat->Value}(h:Fits X s a w ρ)(hO:∀b,X.O b-> ¬X.M b){id:Nat}{obj:aJ}(hg:get? s.own id=some obj){f:LV->LV}
  (hf:∀H',(∀b,H' b->hot X.O ρ s.own b)->(∀b,Blk (ρ id) b-> ¬H' b)->∀x v,aV (hot X.O ρ s.own) w ρ x v->aV H' w ρ (f x) v):Fits X {env:=bZ f s.env,own:=bu f (del s.own id)} a w ρ:=by
 have hmem:=get?_mem hg;have hs:bn (hot X.O ρ s.own) w w:=bn.refl _ _;have hsub:∀p∈bu f (del s.own id),∃o,(p.1,o)∈s.own/\p.1≠id:=fun p hp=>by
  obtain⟨u,h1,_⟩:=bq hp;exact⟨u,(bQ.1 h1).1,(bQ.1 h1).2⟩
 have hh:∀b,hot X.O ρ (bu f (del s.own id)) b->hot X.O ρ s.own b:=fun b hb=>kZ (fun p hp=>by obtain⟨o,ho,_⟩:=hsub p hp;exact⟨o,ho⟩) hb;have hff:=hf (hot X.O ρ (bu f (del s.own id))) hh (fun b hb hb'=>by
  rcases hb' with h1|⟨p,hp,hpb⟩;·exact hO b h1 ((h.own _ hmem).lt hb).1
  ·obtain⟨o,ho,hne⟩:=hsub p hp;exact h.two (p:=(id,obj)) (q:=(p.1,o)) hmem ho (fun e=>hne e.symm) hb hpb)
 refine h.env_map hff ?_ (fun p hp hB hF=>by obtain⟨o,ho,_⟩:=hsub p hp;exact h.io (p.1,o) ho hB hF) ?_;·intro p hp;obtain⟨u,h1,h2⟩:=bq hp;have h3:=bQ.1 h1;have:=(h.own _ h3.1).move (f:=f) (ρ':=ρ) (fun b _ hb=>hh b hb) hs hff rfl (fun _ _=>rfl);rw[<- h2] at this;exact this
 ·exact cP (fun i j=>i≠j/\∀b,Blk (ρ i) b-> ¬Blk (ρ j) b) (dr (fun i j=>i≠j/\∀b,Blk (ρ i) b-> ¬Blk (ρ j) b) h.apart)
def LV.thawP(id:Nat)(t:Ty)(x:t.D):LV->LV
 | .ownP i off=>if i=id/\off=0 then .z (.opt t) (some x) else (LV.ownP i off).kill id
 |v=>v.kill id
def aa.thawP(s:aa)(id:Nat)(t:Ty)(x:t.D):aa:={env:=bZ (LV.thawP id t x) s.env,own:=bu (LV.thawP id t x) (del s.own id)}
def LV.thawM(id:Nat)(t:Ty)(xss:List (List t.D)):LV->LV
 | .ownM i=>if i=id then .z (.slice (.slice t)) xss else .ownM i
 |v=>v.kill id
def aa.thawM(s:aa)(id:Nat)(t:Ty)(xss:List (List t.D)):aa:={env:=bZ (LV.thawM id t xss) s.env,own:=bu (LV.thawM id t xss) (del s.own id)}
def LV.keepM(id:Nat):LV->LV
 | .ownM i=> .ownM i
 | .ownA i k=> .ownA i k
 |v=>v.kill id
def L6:Option Ty->LV->LV
 |some (.slice t),.val v=>if gm v then .z (.slice t) [] else .val v
 |_,x=>x
def asZ:List (Option Ty)->List LV->List LV
 |t::ts,x::xs=>L6 t x::asZ ts xs
 |_,l=>l
def kr(ts:List (Option Ty))(c:Con):Con:=fun l os=>c (asZ ts l) os
theorem Qn{H:Nat->Prop}{w:World}{ρ:Nat->Value}{o:Option Ty}{x:LV}{v:Value}(h:aV H w ρ x v):aV H w ρ (L6 o x) v:=by
 unfold L6;split
 ·split;·rename_i t u hn;exact LV.get_ok (c:= .val u) (t:= .slice t) (by simp[LV.get,hn]) h
  ·exact h
 ·exact h
theorem L7{H:Nat->Prop}{w:World}{ρ:Nat->Value}:∀{ts:List (Option Ty)} {l:List LV} {vs:List Value},bC (aV H w ρ) l vs->bC (aV H w ρ) (asZ ts l) vs
 | [],_,_,h=>by simpa [asZ] using h
 |_::_,[],_,h=>by simpa [asZ] using h
 |t::ts,x::xs,[],h=>h.elim
 |t::ts,x::xs,v::vs,h=>⟨Qn h.1,L7 h.2⟩
theorem fY{B:aq}{P:Program}{f:FuncId}{c:Con}(ts:List (Option Ty))(h:Valid B P f c):Valid B P f (kr ts c):=
 fun _ os C rs os' hc hC O w vals ρ0 h1 h2 h3 h4 ha ho hap=>h _ os C rs os' hc hC O w vals ρ0 h1 h2 h3 h4 (L7 ha) ho hap
theorem Qo(a b:Nat):(((a,none):cj)==((b,none):cj))=(a==b):=by
 by_cases h:a=b
 ·subst h;simp
 ·have h1:¬((a,none):cj)=(b,none):=fun e=>h (congrArg Prod.fst e);rw[beq_eq_false_iff_ne.2 h1,beq_eq_false_iff_ne.2 h]
end Go.Cm
end
section
namespace Go.Cm
theorem ai{a b:Prop}(x:a)(y:b):a/\b:=⟨x,y⟩
def mx0:=ai @aa.moveArr.eq_1<|ai @LV.moveS.eq_1<|ai @LV.moveS.eq_2<|ai @vH.eq_1<|ai @vH.eq_2<|ai @vH.eq_3<|ai @cJ.eq_1<|ai @cJ.eq_2<|ai @cJ.eq_3<|ai @cJ.eq_4<|ai @Qo<|ai @kr.eq_1<|ai @asZ.eq_1<|ai @asZ.eq_2<|ai @L6.eq_1<|ai @L6.eq_2<|ai @S4.eq_1<|ai @lT.eq_1<|ai @lT.eq_2<|ai @aa.forget.eq_1<|ai @aa.forget.eq_2<|ai @LV.forget.eq_1<|ai @Tab.mayMove.eq_1<|ai @LV.thawP.eq_1<|ai @LV.thawP.eq_2<|ai @LV.thawM.eq_1<|ai @LV.thawM.eq_2<|ai @LV.keepM.eq_1<|ai @LV.keepM.eq_2<|ai @LV.keepM.eq_3<|ai @aa.thawP.eq_1<|ai @aa.thawM.eq_1<|ai @Tab.conAt.eq_1<|ai @rT.eq_1<|ai @RV.cold.eq_1<|ai @RV.cold.eq_2<|ai @RV.cold.eq_3<|ai @RV.cold.eq_4<|ai @Cp.eq_1<|ai @rvs?.eq_1<|ai @rvs?.eq_2<|ai @rvs?.eq_3<|ai @rvs?.eq_4<|ai @rvs?.eq_5<|ai @CV.data.eq_1<|ai @CV.data.eq_2<|ai @l7.eq_1<|ai @l7.eq_2<|ai @l7.eq_3<|ai @l7.eq_4<|ai @l7.eq_5<|ai @l7.eq_6<|ai @jV.eq_1<|ai @jV.eq_2<|ai @jV.eq_3<|ai @oN.eq_1<|ai @gA.eq_1<|ai @gA.eq_2<|ai @eM.eq_1<|ai @eM.eq_2<|ai @List.zip_cons_cons.{0,0}<|ai @List.zip_nil_right.{0,0}<|ai @List.zip_nil_left.{0,0}<|ai @Go.Op.operands.eq_1<|ai @Go.Op.operands.eq_2<|ai @Go.Op.operands.eq_3<|ai @Go.Op.operands.eq_4<|ai @Go.Op.operands.eq_5<|ai @Go.Op.operands.eq_6<|ai @Go.Op.operands.eq_7<|ai @Go.Op.operands.eq_8<|ai @Go.Op.operands.eq_9<|ai @Go.Op.operands.eq_10<|ai @Go.Op.operands.eq_11<|ai @Go.Op.operands.eq_12<|ai @Go.Op.operands.eq_13<|ai @Go.Op.operands.eq_14<|ai @Go.Op.operands.eq_15<|ai @Go.Op.operands.eq_16<|ai @Go.Op.operands.eq_17<|ai @Go.Op.operands.eq_18<|ai @Go.Op.operands.eq_19<|ai @Go.Op.operands.eq_20<|ai @Go.Op.operands.eq_21<|ai @Go.Op.operands.eq_22<|ai @Go.Op.operands.eq_23<|ai @Go.Op.operands.eq_24<|ai @Go.Op.operands.eq_25<|ai @Go.Op.operands.eq_26<|ai @Go.Op.operands.eq_27<|ai @Go.Op.operands.eq_28<|ai @Go.Op.operands.eq_29<|ai @Go.Op.operands.eq_30<|ai @Go.Op.operands.eq_31<|ai @Go.Op.operands.eq_32<|ai @Go.Op.operands.eq_33<|ai @Go.Op.operands.eq_34<|ai @Go.Op.operands.eq_35<|ai @Go.Op.operands.eq_36<| @Go.Op.operands.eq_37
def mx1:=ai @Go.Op.operands.eq_38<|ai @Go.Op.operands.eq_39<|ai @Go.Op.operands.eq_40<|ai @Go.Op.operands.eq_41<|ai @Go.Op.operands.eq_42<|ai @Go.Op.operands.eq_43<|ai @Go.Call.operands.eq_1<|ai @Array.toList_append.{0}<|ai @List.append_toArray.{0}<|ai @Array.append_empty.{0}<|ai @Array.empty_append.{0}<|ai @Option.toArray_some.{0}<|ai @Option.toArray_none.{0}<|ai @qa.eq_1<|ai @LA.eq_1<|ai @LC.eq_1<|ai @mkC.eq_1<|ai @exec.eq_1<|ai @exec.eq_2<|ai @dK.eq_1<|ai @aZ.eq_1<|ai @aZ.eq_2<|ai @aZ.eq_3<|ai @aZ.eq_4<|ai @aZ.eq_5<|ai @aZ.eq_6<|ai @aZ.eq_7<|ai @aZ.eq_8<|ai @aZ.eq_9<|ai @aZ.eq_10<|ai @aZ.eq_11<|ai @aZ.eq_12<|ai @aZ.eq_13<|ai @aZ.eq_14<|ai @aZ.eq_15<|ai @aZ.eq_16<|ai @eA.eq_1<|ai @eA.eq_2<|ai @eA.eq_3<|ai @eA.eq_4<|ai @eA.eq_5<|ai @eA.eq_6<|ai @eA.eq_7<|ai @effOp.eq_1<|ai @effOp.eq_2<|ai @effOp.eq_3<|ai @effOp.eq_4<|ai @effOp.eq_5<|ai @effOp.eq_6<|ai @effOp.eq_7<|ai @effOp.eq_8<|ai @effOp.eq_9<|ai @effOp.eq_10<|ai @effOp.eq_11<|ai @effOp.eq_12<|ai @effOp.eq_13<|ai @effOp.eq_14<|ai @effOp.eq_15<|ai @effOp.eq_16<|ai @effOp.eq_17<|ai @effOp.eq_18<|ai @effOp.eq_19<|ai @effOp.eq_20<|ai @effOp.eq_21<|ai @effOp.eq_22<|ai @appendOp.eq_1<|ai @appendOp.eq_2<|ai @bc.eq_1<|ai @bc.eq_2<|ai @bc.eq_3<|ai @bc.eq_4<|ai @eR.eq_1<|ai @eR.eq_2<|ai @eR.eq_3<|ai @eR.eq_4<|ai @leaf.eq_1<|ai @leaf.eq_2<|ai @gq.eq_1<|ai @gq.eq_2<|ai @get?.eq_1<|ai @get?.eq_2<|ai @upd.eq_1<|ai @upd.eq_2<|ai @del.eq_1<|ai @del.eq_2<|ai @Tab.ok.eq_1<|ai @aa.put.eq_1<|ai @aa.kill.eq_1<|ai @aa.hush.eq_1<|ai @aa.freeze.eq_1<|ai @aa.freezeAll.eq_1<|ai @aa.freezeAll.eq_2<|ai @frozenAt.eq_1<|ai @ee.eq_1<|ai @dE.eq_1<|ai @dE.eq_2<|ai @dE.eq_3<|ai @dE.eq_4<|ai @b4.eq_1<| @b4.eq_2
def mx2:=ai @b4.eq_3<|ai @b4.eq_4<|ai @dQ.eq_1<|ai @dQ.eq_2<|ai @bZ.eq_1<|ai @bZ.eq_2<|ai @bu.eq_1<|ai @bu.eq_2<|ai @LV.kill.eq_1<|ai @LV.isOf.eq_1<|ai @LV.isOf.eq_2<|ai @LV.isOf.eq_3<|ai @LV.isOf.eq_4<|ai @LV.isOf.eq_5<|ai @LV.isOf.eq_6<|ai @LV.isOf.eq_7<|ai @LV.isOf.eq_8<|ai @LV.isOf.eq_9<|ai @LV.isOf.eq_10<|ai @LV.thaw.eq_1<|ai @LV.thaw.eq_2<|ai @AV.map.eq_1<|ai @AV.map.eq_2<|ai @AV.map.eq_3<|ai @AV.map.eq_4<|ai @AV.map.eq_5<|ai @aJ.map.eq_1<|ai @aJ.map.eq_2<|ai @aJ.map.eq_3<|ai @aJ.map.eq_4<|ai @aJ.map.eq_5<|ai @cu.eq_1<|ai @cu.eq_2<|ai @cu.eq_3<|ai @cu.eq_4<|ai @cu.eq_5<|ai @cu.eq_6<|ai @cu.eq_7<|ai @cu.eq_8<|ai @cu.eq_9<|ai @cu.eq_10<|ai @cu.eq_11<|ai @cu.eq_12<|ai @cu.eq_13<|ai @cu.eq_14<|ai @cu.eq_15<|ai @l6.eq_1<|ai @l6.eq_2<|ai @l6.eq_3<|ai @l6.eq_4<|ai @l6.eq_5<|ai @l6.eq_6<|ai @l6.eq_7<|ai @l6.eq_8<|ai @dR.eq_1<|ai @dR.eq_2<|ai @dR.eq_3<|ai @dR.eq_4<|ai @dR.eq_5<|ai @dR.eq_6<|ai @dR.eq_7<|ai @dR.eq_8<|ai @dR.eq_9<|ai @dR.eq_10<|ai @dR.eq_11<|ai @dR.eq_12<|ai @dR.eq_13<|ai @dR.eq_14<|ai @dR.eq_15<|ai @dR.eq_16<|ai @dR.eq_17<|ai @oM.eq_1<|ai @oM.eq_2<|ai @oM.eq_3<|ai @nY.eq_1<|ai @nY.eq_2<|ai @nY.eq_3<|ai @nY.eq_4<|ai @Iv.eq_1<|ai @Iv.eq_2<|ai @Iv.eq_3<|ai @sliceLV.eq_1<|ai @sliceLV.eq_2<|ai @sliceLV.eq_3<|ai @sliceLV.eq_4<|ai @sliceLV.eq_5<|ai @sliceLV.eq_6<|ai @sliceLV.eq_7<|ai @jz.eq_1<|ai @jz.eq_2<|ai @jz.eq_3<|ai @LV.get_self<|ai @AV.get_self<|ai @LV.get.eq_1<|ai @LV.get.eq_2<|ai @LV.get.eq_3<|ai @LV.get.eq_4<|ai @LV.get.eq_5<|ai @AV.get.eq_1<| @AV.get.eq_2
def mx3:=ai @AV.get.eq_3<|ai @AV.ids.eq_1<|ai @AV.ids.eq_2<|ai @AV.ids.eq_3<|ai @LV.ids.eq_1<|ai @LV.ids.eq_2<|ai @Ty.w.eq_1<|ai @Ty.w.eq_2<|ai @Ty.w.eq_3<|ai @Ty.w.eq_4<|ai @Ty.w.eq_5<|ai @Ty.zero.eq_1<|ai @Ty.zero.eq_2<|ai @Ty.zero.eq_3<|ai @Ty.zero.eq_4<|ai @Ty.zero.eq_5<|ai @Ty.zero.eq_6<|ai @Ty.zero.eq_7<|ai @Ty.zero.eq_8<|ai @Ty.zero.eq_9<|ai @Ty.zero.eq_10<|ai @Ty.zero.eq_11<|ai @Ty.isAgg.eq_1<|ai @Ty.isAgg.eq_2<|ai @Ty.isAgg.eq_3<|ai @gm.eq_1<|ai @gm.eq_2<|ai @isNilP.eq_1<|ai @isNilP.eq_2<|ai @LV.cells.eq_1<|ai @LV.cells.eq_2<|ai @LV.cells.eq_3<|ai @LV.cells.eq_4<|ai @AV.cells.eq_1<|ai @AV.cells.eq_2<|ai @AV.cells.eq_3<|ai @Ty.cells.eq_1<|ai @Ty.cells.eq_2<|ai @Ty.cells.eq_3<|ai @Ty.cells.eq_4<|ai @Ty.cells.eq_5<|ai @Ty.cells.eq_6<|ai @Ty.cells.eq_7<|ai @Ty.cells.eq_8<|ai @Ty.cells.eq_9<|ai @Ty.cells.eq_10<|ai @Ty.cells.eq_11<|ai @LV.names.eq_1<|ai @LV.names.eq_2<|ai @Ty.join.eq_1<|ai @Ty.join.eq_2<|ai @Ty.join.eq_3<|ai @Ty.join.eq_4<|ai @Ty.join.eq_5<|ai @Ty.join.eq_6<|ai @Ty.join.eq_7<|ai @Ty.join.eq_8<|ai @Ty.join.eq_9<|ai @Ty.join.eq_10<|ai @Ty.join.eq_11<|ai @Ty.join.eq_12<|ai @jU.eq_1<|ai @jU.eq_2<|ai @Ty.fields.eq_1<|ai @Ty.fields.eq_2<|ai @Ty.fields.eq_3<|ai @Ty.fieldTy.eq_1<|ai @Ty.fieldTy.eq_2<|ai @Ty.fieldTy.eq_3<|ai @Ty.fieldTy.eq_4<|ai @Ty.fieldOf.eq_1<|ai @Ty.fieldOf.eq_2<|ai @Ty.fieldOf.eq_3<|ai @Ty.fieldOf.eq_4<|ai @Ty.fieldOf.eq_5<|ai @Ty.fieldOf.eq_6<|ai @Ty.fieldOf.eq_7<|ai @Ty.fieldOf.eq_8<|ai @Ty.fieldOf.eq_9<|ai @Ty.fieldOf.eq_10<|ai @Ty.fieldOf.eq_11<|ai @Ty.fieldOf.eq_12<|ai @Ty.fieldOf.eq_13<|ai @Ty.fieldOf.eq_14<|ai @Ty.fieldOf.eq_15<|ai @Ty.fieldOf.eq_16<|ai @Ty.fieldOf.eq_17<|ai @Ty.fieldOf.eq_18<|ai @Ty.fieldOf.eq_19<|ai @Ty.fieldOf.eq_20<|ai @Ty.fieldOf.eq_21<|ai @Ty.fieldOf.eq_22<|ai @Ty.fieldOff.eq_1<|ai @Ty.fieldOff.eq_2<|ai @Ty.zeroCells.eq_1<|ai @Ty.zeroCells.eq_2<|ai @Ty.zeroCells.eq_3<|ai @Ty.zeroCells.eq_4<|ai @Ty.zeroCells.eq_5<| @Ty.zeroCells.eq_6
def mx4:=ai @Ty.zeroCells.eq_7<|ai @Ty.zeroCells.eq_8<|ai @Ty.zeroCells.eq_9<|ai @Ty.zeroCells.eq_10<|ai @Ty.zeroCells.eq_11<|ai @eX.eq_1<|ai @callOp.eq_1<|ai @eB.eq_1<|ai @eB.eq_2<|ai @eB.eq_3<|ai @b7.eq_1<|ai @b7.eq_2<|ai @b7.eq_3<|ai @jW.eq_1<|ai @sN.eq_1<|ai @once.eq_1<|ai @once.eq_2<|ai @jA.eq_1<|ai @jA.eq_2<|ai @jA.eq_3<|ai @LV.lends.eq_1<|ai @LV.lends.eq_2<|ai @LV.lends.eq_3<|ai @LV.lends.eq_4<|ai @LV.lends.eq_5<|ai @LV.lends.eq_6<|ai @LV.lends.eq_7<|ai @CV.lends.eq_1<|ai @CV.lends.eq_2<|ai @aJ.lends.eq_1<|ai @aJ.lends.eq_2<|ai @distinct.eq_1<|ai @distinct.eq_2<|ai @jX.eq_1<|ai @jX.eq_2<|ai @dn.eq_1<|ai @dn.eq_2<|ai @fP.eq_1<|ai @fP.eq_2<|ai @LV.ren.eq_1<|ai @LV.ren.eq_2<|ai @LV.ren.eq_3<|ai @LV.ren.eq_4<|ai @LV.ren.eq_5<|ai @LV.ren.eq_6<|ai @LV.ren.eq_7<|ai @LV.ren.eq_8<|ai @LV.ren.eq_9<|ai @CV.ren.eq_1<|ai @CV.ren.eq_2<|ai @ja.eq_1<|ai @ja.eq_2<|ai @gu.eq_1<|ai @gu.eq_2<|ai @gu.eq_3<|ai @jY.eq_1<|ai @jY.eq_2<|ai @jY.eq_3<|ai @l8.eq_1<|ai @LV.back.eq_1<|ai @LV.back.eq_2<|ai @LV.back.eq_3<|ai @LV.back.eq_4<|ai @LV.back.eq_5<|ai @LV.back.eq_6<|ai @LV.back.eq_7<|ai @LV.back.eq_8<|ai @CV.back.eq_1<|ai @CV.back.eq_2<|ai @jB.eq_1<|ai @jB.eq_2<|ai @ioB.eq_1<|ai @endCall.eq_1<|ai @cQ.eq_1<|ai @cQ.eq_2<|ai @cQ.eq_3<|ai @eS.eq_1<|ai @eS.eq_2<|ai @bP.eq_1<|ai @bP.eq_2<|ai @RV.give.eq_1<|ai @RV.give.eq_2<|ai @RV.give.eq_3<|ai @RV.give.eq_4<|ai @guardOf.eq_1<|ai @tmpsOf.eq_1<|ai @tmpsOf.eq_2<|ai @tmpsOf.eq_3<|ai @cI.eq_1<|ai @cI.eq_2<|ai @asks.eq_1<|ai @asks.eq_2<|ai @AV.plain.eq_1<|ai @AV.plain.eq_2<|ai @AV.plain.eq_3<|ai @fp.eq_1<|ai @fp.eq_2<|ai @fp.eq_3<|ai @kn.eq_1<| @df.eq_1
def mx5:=ai @cC.eq_1<|ai @cC.eq_2<|ai @cC.eq_3<|ai @eC.eq_1<|ai @LV.plain.eq_1<|ai @LV.plain.eq_2<|ai @LV.plain.eq_3<|ai @LV.plain.eq_4<|ai @km.eq_1<|ai @km.eq_2<|ai @CV.lv.eq_1<|ai @CV.lv.eq_2<|ai @CV.isOf.eq_1<|ai @CV.isOf.eq_2<|ai @Go.Value.oneCell'.eq_1<|ai @Go.Value.oneCell'.eq_2<|ai @Go.Value.oneCell'.eq_3<|ai @LV.io.eq_1<|ai @LV.io.eq_2<|ai @LV.io.eq_3<|ai @LV.io.eq_4<|ai @LV.io.eq_5<|ai @LV.io.eq_6<|ai @LV.io.eq_7<|ai @LV.io.eq_8<|ai @LV.io.eq_9<|ai @List.toList_toArray.{0}<|ai @List.contains_nil.{0}<|ai @List.contains_cons.{0}<|ai @List.map_nil.{0,0}<|ai @List.map_cons.{0,0}<|ai @List.append_nil.{0}<|ai @List.nil_append.{0}<|ai @List.cons_append.{0}<|ai @List.flatMap_nil.{0,0}<|ai @List.flatMap_cons.{0,0}<|ai @List.isEmpty_nil.{0}<|ai @List.length_cons.{0}<|ai @List.length_nil.{0}<|ai @List.getElem?_cons_zero.{0}<|ai @List.getElem?_cons_succ.{0}<|ai @List.getElem?_nil.{0}<|ai @List.all_nil.{0}<|ai @List.all_cons.{0}<|ai @List.any_nil.{0}<|ai @List.any_cons.{0}<|ai @List.drop_zero.{0}<|ai @List.take_zero.{0}<|ai @List.drop_succ_cons.{0}<|ai @List.take_succ_cons.{0}<|ai @List.drop_nil.{0}<|ai @List.take_nil.{0}<|ai @Option.map_some.{0,0}<|ai @Option.map_none.{0,0}<|ai @Option.isSome_some.{0}<|ai @Option.isSome_none.{0}<|ai @Option.getD_some.{0}<|ai @Option.getD_none.{0}<|ai @Option.isNone_none.{0}<|ai @Option.isNone_some.{0}<|ai @Bool.not_false<|ai @Bool.not_true<|ai @Bool.and_true<|ai @Bool.true_and<|ai @Bool.and_false<|ai @Bool.false_and<|ai @Bool.or_false<|ai @Bool.false_or<|ai @Bool.or_true<|ai @Bool.true_or<|ai @Nat.lt_irrefl<|ai @Nat.lt_add_one<|ai @decide_true<|ai @decide_false<|ai @ite_true.{1}<|ai @ite_true.{0}<|ai @ite_false.{1}<|ai @ite_false.{0}<|ai @dite_true.{1}<|ai @dite_true.{0}<|ai @dite_false.{1}<|ai @dite_false.{0}<|ai @beq_self_eq_true.{0}<|ai @bne_self_eq_false.{0}<|ai @eq_self.{1}<|ai @eq_self.{0}<|ai @true_and<|ai @and_true<|ai @if_true.{1}<|ai @if_true.{0}<|ai @if_false.{1}<|ai @if_false.{0}<|ai @true_implies<|ai @false_implies<|ai @implies_true.{1}<|ai @implies_true.{0}<|ai @Bool.false_eq_true<|ai @Bool.true_eq_false<|ai @not_false_eq_true<| @not_true_eq_false
def mx6:=ai @Prod.mk.injEq.{0,0}<|ai @and_self<|ai @Nat.zero_add<|ai @Nat.add_zero<|ai @Array.size_empty.{0}<|ai @List.size_toArray.{0}<|ai @Nat.le_refl<|ai @BEq.rfl.{0}<|ai @Ty.int.injEq<|ai @Ty.slice.injEq<|ai @Ty.ptr.injEq<|ai @Ty.st.injEq<|ai @Ty.pair.injEq<|ai @Ty.arr.injEq<|ai @Ty.opt.injEq<|ai @false_and<| @and_false
def mt0:=ai @ko.eq_1<|ai @ko.eq_2<|ai @trace.eq_1<|ai @trace.eq_2<|ai @kI.eq_1<|ai @CL.eq_1<|ai @oh.eq_1<|ai @yf.eq_1<|ai @eD.eq_1<|ai @eD.eq_2<|ai @eD.eq_3<|ai @eD.eq_4<|ai @eD.eq_5<|ai @eD.eq_6<|ai @eD.eq_7<|ai @iG.eq_1<|ai @iG.eq_2<|ai @AV.refs.eq_1<|ai @AV.refs.eq_2<|ai @AV.refs.eq_3<|ai @AV.refs.eq_4<|ai @AV.refs.eq_5<|ai @LV.refs.eq_1<|ai @LV.refs.eq_2<|ai @LV.refs.eq_3<|ai @LV.refs.eq_4<|ai @LV.refs.eq_5<|ai @LV.refs.eq_6<|ai @LV.refs.eq_7<|ai @LV.refs.eq_8<|ai @LV.refs.eq_9<|ai @LV.refs.eq_10<|ai @CV.refs.eq_1<|ai @CV.refs.eq_2<|ai @aJ.refs.eq_1<|ai @aJ.refs.eq_2<|ai @et.eq_1<|ai @et.eq_2<|ai @Eff.apply.eq_1<|ai @Eff.apply.eq_2<|ai @Eff.apply.eq_3<|ai @Eff.apply.eq_4<|ai @Eff.locs.eq_1<|ai @Eff.locs.eq_2<|ai @Eff.locs.eq_3<|ai @Eff.locs.eq_4<|ai @Eff.news.eq_1<|ai @Eff.news.eq_2<|ai @Eff.refs.eq_1<|ai @Eff.refs.eq_2<|ai @Eff.refs.eq_3<|ai @Eff.refs.eq_4<|ai @CK.eq_1<|ai @CK.eq_2<|ai @cJ.eq_1<|ai @cJ.eq_2<|ai @cJ.eq_3<| @cJ.eq_4
def ml0:=ai @le_iff<|ai @IJ<|ai @IK<|ai @rk.eq_1<|ai @rk.eq_2<|ai @nO.eq_1<|ai @nO.eq_2<|ai @nO.eq_3<|ai @nO.eq_4<|ai @AV.leq_z<|ai @LV.leq_z<|ai @aJ.leq_arr<|ai @aJ.leq.eq_1<|ai @aJ.leq.eq_2<|ai @aJ.leq.eq_3<|ai @aJ.leq.eq_4<|ai @aJ.leq.eq_5<|ai @aJ.leq.eq_6<|ai @aJ.leq.eq_7<|ai @ql.eq_1<|ai @ql.eq_2<|ai @ql.eq_3<|ai @AV.leq.eq_1<|ai @AV.leq.eq_2<|ai @AV.leq.eq_3<|ai @AV.leq.eq_4<|ai @AV.leq.eq_5<|ai @AV.leq.eq_6<|ai @AV.leq.eq_7<|ai @AV.leq.eq_8<|ai @AV.leq.eq_9<|ai @AV.leq.eq_10<|ai @AV.leq.eq_11<|ai @LV.leq.eq_1<|ai @LV.leq.eq_2<|ai @LV.leq.eq_3<|ai @LV.leq.eq_4<|ai @LV.leq.eq_5<|ai @LV.leq.eq_6<|ai @LV.leq.eq_7<|ai @LV.leq.eq_8<|ai @LV.leq.eq_9<|ai @LV.leq.eq_10<|ai @LV.leq.eq_11<|ai @LV.leq.eq_12<|ai @CV.known.eq_1<|ai @CV.known.eq_2<|ai @LV.get_self<|ai @AV.get_self<|ai @LV.get.eq_1<|ai @LV.get.eq_2<|ai @LV.get.eq_3<|ai @LV.get.eq_4<|ai @LV.get.eq_5<|ai @AV.get.eq_1<|ai @AV.get.eq_2<|ai @AV.get.eq_3<|ai @get?.eq_1<|ai @get?.eq_2<|ai @Option.some.injEq.{0}<|ai @and_assoc<|ai @exists_and_left.{1}<|ai @exists_and_left.{0}<|ai @exists_eq_left'.{1}<|ai @exists_eq_left'.{0}<|ai @exists_eq_left.{1}<|ai @exists_eq_left.{0}<|ai @Prod.exists.{0,0}<|ai @exists_const.{1}<|ai @exists_const.{0}<|ai @AV.l.injEq<|ai @LV.ownS.injEq<|ai @LV.ownP.injEq<|ai @Ty.cells.eq_1<|ai @Ty.cells.eq_2<|ai @Ty.cells.eq_3<|ai @Ty.cells.eq_4<|ai @Ty.cells.eq_5<|ai @Ty.cells.eq_6<|ai @Ty.cells.eq_7<|ai @Ty.cells.eq_8<|ai @Ty.cells.eq_9<|ai @Ty.cells.eq_10<|ai @Ty.cells.eq_11<|ai @List.cons_append.{0}<|ai @List.nil_append.{0}<|ai @LV.fn.injEq<|ai @Ty.join.eq_1<|ai @Ty.join.eq_2<|ai @Ty.join.eq_3<|ai @Ty.join.eq_4<|ai @Ty.join.eq_5<|ai @Ty.join.eq_6<|ai @Ty.join.eq_7<|ai @Ty.join.eq_8<|ai @Ty.join.eq_9<|ai @Ty.join.eq_10<|ai @Ty.join.eq_11<|ai @Ty.join.eq_12<| @jU.eq_1
def ml1:=ai @jU.eq_2<|ai @Ty.isAgg.eq_1<|ai @Ty.isAgg.eq_2<|ai @Ty.isAgg.eq_3<|ai @List.cons.injEq.{0}<|ai @List.toList_toArray.{0}<|ai @List.contains_nil.{0}<|ai @List.contains_cons.{0}<|ai @List.map_nil.{0,0}<|ai @List.map_cons.{0,0}<|ai @List.append_nil.{0}<|ai @List.flatMap_nil.{0,0}<|ai @List.flatMap_cons.{0,0}<|ai @List.isEmpty_nil.{0}<|ai @List.length_cons.{0}<|ai @List.length_nil.{0}<|ai @List.getElem?_cons_zero.{0}<|ai @List.getElem?_cons_succ.{0}<|ai @List.getElem?_nil.{0}<|ai @List.all_nil.{0}<|ai @List.all_cons.{0}<|ai @List.any_nil.{0}<|ai @List.any_cons.{0}<|ai @List.drop_zero.{0}<|ai @List.take_zero.{0}<|ai @List.drop_succ_cons.{0}<|ai @List.take_succ_cons.{0}<|ai @List.drop_nil.{0}<|ai @List.take_nil.{0}<|ai @Option.map_some.{0,0}<|ai @Option.map_none.{0,0}<|ai @Option.isSome_some.{0}<|ai @Option.isSome_none.{0}<|ai @Option.getD_some.{0}<|ai @Option.getD_none.{0}<|ai @Option.isNone_none.{0}<|ai @Option.isNone_some.{0}<|ai @Bool.not_false<|ai @Bool.not_true<|ai @Bool.and_true<|ai @Bool.true_and<|ai @Bool.and_false<|ai @Bool.false_and<|ai @Bool.or_false<|ai @Bool.false_or<|ai @Bool.or_true<|ai @Bool.true_or<|ai @Nat.lt_irrefl<|ai @Nat.lt_add_one<|ai @decide_true<|ai @decide_false<|ai @ite_true.{1}<|ai @ite_true.{0}<|ai @ite_false.{1}<|ai @ite_false.{0}<|ai @dite_true.{1}<|ai @dite_true.{0}<|ai @dite_false.{1}<|ai @dite_false.{0}<|ai @beq_self_eq_true.{0}<|ai @bne_self_eq_false.{0}<|ai @eq_self.{1}<|ai @eq_self.{0}<|ai @true_and<|ai @and_true<|ai @if_true.{1}<|ai @if_true.{0}<|ai @if_false.{1}<|ai @if_false.{0}<|ai @true_implies<|ai @false_implies<|ai @implies_true.{1}<|ai @implies_true.{0}<|ai @Bool.false_eq_true<|ai @Bool.true_eq_false<|ai @not_false_eq_true<|ai @not_true_eq_false<|ai @Prod.mk.injEq.{0,0}<|ai @and_self<|ai @Nat.zero_add<|ai @Nat.add_zero<|ai @Array.size_empty.{0}<|ai @List.size_toArray.{0}<|ai @Nat.le_refl<|ai @BEq.rfl.{0}<|ai @Ty.int.injEq<|ai @Ty.slice.injEq<|ai @Ty.ptr.injEq<|ai @Ty.st.injEq<|ai @Ty.pair.injEq<|ai @Ty.arr.injEq<|ai @Ty.opt.injEq<|ai @false_and<| @and_false
def mr0:=ai @Ty.cells.eq_1<|ai @Ty.cells.eq_2<|ai @Ty.cells.eq_3<|ai @Ty.cells.eq_4<|ai @Ty.cells.eq_5<|ai @Ty.cells.eq_6<|ai @Ty.cells.eq_7<|ai @Ty.cells.eq_8<|ai @Ty.cells.eq_9<|ai @Ty.cells.eq_10<|ai @Ty.cells.eq_11<|ai @CH.eq_1<|ai @aa.freezeAll.eq_1<|ai @aa.freezeAll.eq_2<|ai @aa.freeze.eq_1<|ai @bZ.eq_1<|ai @bZ.eq_2<|ai @bu.eq_1<|ai @bu.eq_2<|ai @AV.map.eq_1<|ai @AV.map.eq_2<|ai @AV.map.eq_3<|ai @AV.map.eq_4<|ai @AV.map.eq_5<|ai @aJ.map.eq_1<|ai @aJ.map.eq_2<|ai @aJ.map.eq_3<|ai @aJ.map.eq_4<|ai @aJ.map.eq_5<|ai @LV.thaw.eq_1<|ai @LV.thaw.eq_2<|ai @LV.kill.eq_1<|ai @LV.isOf.eq_1<|ai @LV.isOf.eq_2<|ai @LV.isOf.eq_3<|ai @LV.isOf.eq_4<|ai @LV.isOf.eq_5<|ai @LV.isOf.eq_6<|ai @LV.isOf.eq_7<|ai @LV.isOf.eq_8<|ai @LV.isOf.eq_9<|ai @LV.isOf.eq_10<|ai @List.cons.injEq.{0}<|ai @get?.eq_1<|ai @get?.eq_2<|ai @del.eq_1<|ai @del.eq_2<|ai @upd.eq_1<|ai @upd.eq_2<|ai @Ends.eq_1<|ai @Ends.eq_2<|ai @Ends.eq_3<|ai @rl.eq_1<|ai @rl.eq_2<|ai @rl.eq_3<|ai @vZ.eq_1<|ai @vZ.eq_2<|ai @ep.eq_1<|ai @ep.eq_2<|ai @ep.eq_3<|ai @ep.eq_4<|ai @ep.eq_5<|ai @LZ<|ai @e9.eq_1<|ai @e9.eq_2<|ai @e9.eq_3<|ai @e9.eq_4<|ai @e9.eq_5<|ai @e9.eq_6<|ai @e9.eq_7<|ai @e9.eq_8<|ai @e9.eq_9<|ai @IG.eq_1<|ai @IG.eq_2<|ai @LV.get_self<|ai @AV.get_self<|ai @LV.get.eq_1<|ai @LV.get.eq_2<|ai @LV.get.eq_3<|ai @LV.get.eq_4<|ai @LV.get.eq_5<|ai @AV.get.eq_1<|ai @AV.get.eq_2<|ai @AV.get.eq_3<|ai @dQ.eq_1<|ai @dQ.eq_2<|ai @Ty.isAgg.eq_1<|ai @Ty.isAgg.eq_2<|ai @Ty.isAgg.eq_3<|ai @Ty.join.eq_1<|ai @Ty.join.eq_2<|ai @Ty.join.eq_3<|ai @Ty.join.eq_4<|ai @Ty.join.eq_5<|ai @Ty.join.eq_6<|ai @Ty.join.eq_7<|ai @Ty.join.eq_8<|ai @Ty.join.eq_9<|ai @Ty.join.eq_10<| @Ty.join.eq_11
def mr1:=ai @Ty.join.eq_12<|ai @jU.eq_1<|ai @jU.eq_2<|ai @Ty.w.eq_1<|ai @Ty.w.eq_2<|ai @Ty.w.eq_3<|ai @Ty.w.eq_4<|ai @Ty.w.eq_5<|ai @LV.names.eq_1<|ai @LV.names.eq_2<|ai @List.any_cons.{0}<|ai @List.any_nil.{0}<|ai @Option.some.injEq.{0}<|ai @List.not_mem_nil.{0}<|ai @List.mem_cons.{0}<|ai @LV.io.eq_1<|ai @LV.io.eq_2<|ai @LV.io.eq_3<|ai @LV.io.eq_4<|ai @LV.io.eq_5<|ai @LV.io.eq_6<|ai @LV.io.eq_7<|ai @LV.io.eq_8<|ai @LV.io.eq_9<|ai @aJ.io.eq_1<|ai @aJ.io.eq_2<|ai @CV.io.eq_1<|ai @CV.io.eq_2<|ai @ioB.eq_1<|ai @gm.eq_1<|ai @gm.eq_2<|ai @aJ.leq.eq_1<|ai @aJ.leq.eq_2<|ai @aJ.leq.eq_3<|ai @aJ.leq.eq_4<|ai @aJ.leq.eq_5<|ai @aJ.leq.eq_6<|ai @aJ.leq.eq_7<|ai @ql.eq_1<|ai @ql.eq_2<|ai @ql.eq_3<|ai @LV.leq_z<|ai @LV.leq.eq_1<|ai @LV.leq.eq_2<|ai @LV.leq.eq_3<|ai @LV.leq.eq_4<|ai @LV.leq.eq_5<|ai @LV.leq.eq_6<|ai @LV.leq.eq_7<|ai @LV.leq.eq_8<|ai @LV.leq.eq_9<|ai @LV.leq.eq_10<|ai @LV.leq.eq_11<|ai @LV.leq.eq_12<|ai @CV.known.eq_1<|ai @CV.known.eq_2<|ai @AV.leq.eq_1<|ai @AV.leq.eq_2<|ai @AV.leq.eq_3<|ai @AV.leq.eq_4<|ai @AV.leq.eq_5<|ai @AV.leq.eq_6<|ai @AV.leq.eq_7<|ai @AV.leq.eq_8<|ai @AV.leq.eq_9<|ai @AV.leq.eq_10<|ai @AV.leq.eq_11<|ai @not_or<|ai @List.mem_singleton.{0}<|ai @Ty.fields.eq_1<|ai @Ty.fields.eq_2<|ai @Ty.fields.eq_3<|ai @List.toList_toArray.{0}<|ai @List.contains_nil.{0}<|ai @List.contains_cons.{0}<|ai @List.map_nil.{0,0}<|ai @List.map_cons.{0,0}<|ai @List.append_nil.{0}<|ai @List.nil_append.{0}<|ai @List.cons_append.{0}<|ai @List.flatMap_nil.{0,0}<|ai @List.flatMap_cons.{0,0}<|ai @List.isEmpty_nil.{0}<|ai @List.length_cons.{0}<|ai @List.length_nil.{0}<|ai @List.getElem?_cons_zero.{0}<|ai @List.getElem?_cons_succ.{0}<|ai @List.getElem?_nil.{0}<|ai @List.all_nil.{0}<|ai @List.all_cons.{0}<|ai @List.drop_zero.{0}<|ai @List.take_zero.{0}<|ai @List.drop_succ_cons.{0}<|ai @List.take_succ_cons.{0}<|ai @List.drop_nil.{0}<|ai @List.take_nil.{0}<|ai @Option.map_some.{0,0}<|ai @Option.map_none.{0,0}<|ai @Option.isSome_some.{0}<| @Option.isSome_none.{0}
def mr2:=ai @Option.getD_some.{0}<|ai @Option.getD_none.{0}<|ai @Option.isNone_none.{0}<|ai @Option.isNone_some.{0}<|ai @Bool.not_false<|ai @Bool.not_true<|ai @Bool.and_true<|ai @Bool.true_and<|ai @Bool.and_false<|ai @Bool.false_and<|ai @Bool.or_false<|ai @Bool.false_or<|ai @Bool.or_true<|ai @Bool.true_or<|ai @Nat.lt_irrefl<|ai @Nat.lt_add_one<|ai @decide_true<|ai @decide_false<|ai @ite_true.{1}<|ai @ite_true.{0}<|ai @ite_false.{1}<|ai @ite_false.{0}<|ai @dite_true.{1}<|ai @dite_true.{0}<|ai @dite_false.{1}<|ai @dite_false.{0}<|ai @beq_self_eq_true.{0}<|ai @bne_self_eq_false.{0}<|ai @eq_self.{1}<|ai @eq_self.{0}<|ai @true_and<|ai @and_true<|ai @if_true.{1}<|ai @if_true.{0}<|ai @if_false.{1}<|ai @if_false.{0}<|ai @true_implies<|ai @false_implies<|ai @implies_true.{1}<|ai @implies_true.{0}<|ai @Bool.false_eq_true<|ai @Bool.true_eq_false<|ai @not_false_eq_true<|ai @not_true_eq_false<|ai @Prod.mk.injEq.{0,0}<|ai @and_self<|ai @Nat.zero_add<|ai @Nat.add_zero<|ai @Array.size_empty.{0}<|ai @List.size_toArray.{0}<|ai @Nat.le_refl<|ai @BEq.rfl.{0}<|ai @Ty.int.injEq<|ai @Ty.slice.injEq<|ai @Ty.ptr.injEq<|ai @Ty.st.injEq<|ai @Ty.pair.injEq<|ai @Ty.arr.injEq<|ai @Ty.opt.injEq<|ai @false_and<| @and_false
end Go.Cm
end
section
namespace Go.Cm
theorem ex0{T:Tab}{l:List Oper}{s s':aa}{C:Prop}(h:exec T l l s=some (C,s'):=by simp only[hT,hX,mx0,mx1,mx2,mx3,mx4,mx5,mx6,effOp,endCall,callOp,appendOp,sliceLV,Ty.fieldTy,Ty.fieldOf,Nat.reduceLT,Nat.reduceEqDiff,Nat.reduceAdd,Nat.reduceMul,Nat.reduceSub,Nat.reduceLeDiff,Nat.reduceBEq,Nat.reduceBNe,reduceIte,reduceDIte,reduceCtorEq];rfl):exec T l l s=some (C,s'):=h
theorem tr0{T:Tab}{l:List Oper}{s s':aa}{C:Prop}{recs:List Rec}(h:trace T l l s=some (C,s',recs):=by simp only[hT,mt0,hX,mx0,mx1,mx2,mx3,mx4,mx5,mx6,effOp,endCall,callOp,appendOp,sliceLV,Ty.fieldTy,Ty.fieldOf,Nat.reduceLT,Nat.reduceEqDiff,Nat.reduceAdd,Nat.reduceMul,Nat.reduceSub,Nat.reduceLeDiff,Nat.reduceBEq,Nat.reduceBNe,reduceIte,reduceDIte,reduceCtorEq];rfl):trace T l l s=some (C,s',recs):=h
section
variable {X:Cx} {s s':aa} {K:Exit->aa->Prop}
theorem bd{id:Nat}{ops:Array Oper}{C:Prop}(hG:bx X.P X.T)(hC:C)(hK:K .normal s')(he:exec X.T ops.toList ops.toList s=some (C,s'):=by exact ex0):J X (.region id ops false) s K:=cp hG he hC hK
theorem yj{id:Nat}{ops:Array Oper}{C:Prop}{recs:List Rec}(hG:bx X.P X.T)(hC:C)(hK:K .normal s')(he:trace X.T ops.toList ops.toList s=some (C,s',recs):=by exact tr0)(ho:jf ops.toList recs=true:=by kernel_rfl)
  (hf:(recs.flatMap Rec.news).all (fun x=> !s.refs.contains x)=true:=by rfl) (hd:(distinct (s'.env.map Prod.fst)&&distinct (s'.own.map Prod.fst))=true:=by rfl):J X (.region id ops true) s K:=om hG he ho hf hd hC hK
theorem qq{id:Nat}{ops:Array Oper}{C:Prop}(hG:bx X.P X.T)(hC:C)(hK:K .normal s')(he:exec X.T ops.toList ops.toList s=some (C,s'):=by simp only[hT',hX,mx0,mx1,mx2,mx3,mx4,mx5,mx6,effOp,endCall,callOp,appendOp,sliceLV,Ty.fieldTy,Ty.fieldOf,Nat.reduceLT,Nat.reduceEqDiff,Nat.reduceAdd,Nat.reduceMul,Nat.reduceSub,Nat.reduceLeDiff,Nat.reduceBEq,Nat.reduceBNe,reduceIte,reduceDIte,reduceCtorEq];rfl):J X (.region id ops false) s K:=cp hG he hC hK
theorem Fc{id:Nat}{ops:Array Oper}{C:Prop}{recs:List Rec}(hG:bx X.P X.T)(hC:C)(hK:K .normal s')(he:trace X.T ops.toList ops.toList s=some (C,s',recs):=by simp only[hT',mt0,hX,mx0,mx1,mx2,mx3,mx4,mx5,mx6,effOp,endCall,callOp,appendOp,sliceLV,Ty.fieldTy,Ty.fieldOf,Nat.reduceLT,Nat.reduceEqDiff,Nat.reduceAdd,Nat.reduceMul,Nat.reduceSub,Nat.reduceLeDiff,Nat.reduceBEq,Nat.reduceBNe,reduceIte,reduceDIte,reduceCtorEq];rfl)(ho:jf ops.toList recs=true:=by kernel_rfl)
  (hf:(recs.flatMap Rec.news).all (fun x=> !s.refs.contains x)=true:=by rfl) (hd:(distinct (s'.env.map Prod.fst)&&distinct (s'.own.map Prod.fst))=true:=by rfl):J X (.region id ops true) s K:=om hG he ho hf hd hC hK
theorem aS{c:Operand}{x y:Code}{t:Bool}(h1:t=true->J X x s K)(h2:t=false->J X y s K)(hc:leaf (bc s c)=some (.z .bool t):=by simp only[mx0,mx1,mx2,mx3,mx4,mx5,mx6,effOp,endCall,callOp,appendOp,sliceLV,Ty.fieldTy,Ty.fieldOf,Nat.reduceLT,Nat.reduceEqDiff,Nat.reduceAdd,Nat.reduceMul,Nat.reduceSub,Nat.reduceLeDiff,Nat.reduceBEq,Nat.reduceBNe,reduceIte,reduceDIte,reduceCtorEq];rfl):J X (.cond c x y) s K:=LY hc h1 h2
theorem s_q{id:Nat}{ops:Array Oper}{c2:Code}{C:Prop}(hG:bx X.P X.T)(hC:C)(hK:J X c2 s' K)(he:exec X.T ops.toList ops.toList s=some (C,s'):=by exact ex0):J X (.seq (.region id ops false) c2) s K:=ag (cp hG he hC (af hK))
theorem s_g{id:Nat}{ops:Array Oper}{c2:Code}{C:Prop}(hG:bx X.P X.T)(hK:J X c2 s' K)(he:exec X.T ops.toList ops.toList s=some (C,s'):=by exact ex0)(hC:C:=by first|trivial|omega|(simp;done)|(simp;omega)):J X (.seq (.region id ops false) c2) s K:=ag (cp hG he hC (af hK))
theorem s_d{id:Nat}{ops:Array Oper}{c2:Code}{C:Prop}{recs:List Rec}(hG:bx X.P X.T)(hC:C)(hK:J X c2 s' K)(he:trace X.T ops.toList ops.toList s=some (C,s',recs):=by exact tr0)(ho:jf ops.toList recs=true:=by kernel_rfl)
  (hf:(recs.flatMap Rec.news).all (fun x=> !s.refs.contains x)=true:=by rfl) (hd:(distinct (s'.env.map Prod.fst)&&distinct (s'.own.map Prod.fst))=true:=by rfl):J X (.seq (.region id ops true) c2) s K:=ag (om hG he ho hf hd hC (af hK))
end
theorem qm{α:Type}{P:α->Prop}{q:Prop}(hq:q)(h:(∃z,P z)=q:=by simp only[ml0,ml1,Nat.reduceLT,Nat.reduceEqDiff,Nat.reduceAdd,Nat.reduceMul,Nat.reduceSub,Nat.reduceLeDiff,Nat.reduceBEq,Nat.reduceBNe,reduceIte,reduceDIte,reduceCtorEq];rfl):∃z,P z:=h▸hq
theorem q_l{p q:Prop}(hq:q)(h:p=q:=by simp only[ml0,ml1,Nat.reduceLT,Nat.reduceEqDiff,Nat.reduceAdd,Nat.reduceMul,Nat.reduceSub,Nat.reduceLeDiff,Nat.reduceBEq,Nat.reduceBNe,reduceIte,reduceDIte,reduceCtorEq];rfl):p:=h▸hq
theorem q_e{p:List Nat->Prop}{q:Prop}(l:List Nat)(hq:q)(h:p l=q:=by simp only[hT,hU,mr0,mr1,mr2,isNilP,Nat.reduceLT,Nat.reduceEqDiff,Nat.reduceAdd,Nat.reduceMul,Nat.reduceSub,Nat.reduceLeDiff,Nat.reduceBEq,Nat.reduceBNe,reduceIte,reduceDIte,reduceCtorEq];rfl):∃l,p l:=⟨l,h▸hq⟩
def bt:=ai @decide_eq_true_eq<|ai @decide_eq_false_iff_not<|ai @beq_iff_eq.{0}<|ai @bne_iff_ne.{0}<|ai @Bool.not_eq_true' @Bool.and_eq_true
def bf:=ai @decide_eq_true_eq<|ai @decide_eq_false_iff_not<|ai @beq_eq_false_iff_ne.{0}<|ai @bne_eq_false_iff_eq.{0}<|ai @Bool.not_eq_false' @Bool.and_eq_false_imp
def ba:=And.intro and_true true_and
theorem v_h{P:Program}{T:Tab}{args:List LV}{os os':List aJ}{code:Code}{fn:Func}{rs:List RV}(g:bx P T)(h:∀X:Cx,X.P=P->X.T=T->X.r=none->bx X.P X.T->J X code {env:=az 0 args,own:=aj ioB os} (Ends T fn rs os'))
  (hl:args.length<=T.N:=by exact Nat.le_of_ble_eq_true rfl) (ho:os'.length=os.length:=by rfl):args.length<=T.N/\os'.length=os.length/\∀X:Cx,X.P=P->X.T=T->X.r=none->J X code {env:=az 0 args,own:=aj ioB os} (Ends T fn rs os'):=
 ⟨hl,ho,fun X hP hT hr=>h X hP hT hr (by rw[hP,hT];exact g)⟩
theorem tc{P:Program}{T:TypeId}{t:Ty}{l:List (TypeId×Ty)}(h:cO P T t)(hl:∀t u,get? l t=some u->cO P t u):∀t' u,get? ((T,t)::l) t'=some u->cO P t' u:=CJ h hl
theorem cc{B:aq}{P:Program}{F:FuncId->List Nat}{f:FuncId}{fn:Func}{c:Con}{l:List (FuncId×Con)}(hf:P.funcs[f]? =some fn)(hv:Valid B P f c (F f))(hl:∀f c,get? l f=some c->rn B P f c (F f))(hn:(fn.name== "runtime.NumGoroutine")=false:=by kernel_rfl)(hb:fn.body.isNone=false:=by rfl):∀f' c',get? ((f,c)::l) f'=some c'->rn B P f' c' (F f'):=IH (S6 hf hn hb hv) hl
end Go.Cm
end
section
namespace Go.Cm
open Go.RowKit
theorem L8{B:aq}{w w':World}(h:B.On w)(hb:Below w.heap.size w w'):B.On w':=
 ⟨Nat.le_trans h.1 hb.size,fun b hbn=>(hb.block b (Nat.lt_of_lt_of_le hbn h.1)).trans (h.2 b hbn)⟩
theorem ru:∀{rs:List RV} (vs:List Value),rs.all (fun r=> !r.isOwn)=true->fS rs vs
 | [],_,_=>by simp[fS]
 |_::_,[],_=>by simp[fS]
 |r::rs,v::vs,h=>by
  simp only[List.all_cons,Bool.and_eq_true,Bool.not_eq_true'] at h;exact⟨fun h1=>absurd h1 (by rw[h.1];decide),ru vs h.2⟩
theorem o4{w w':World}{O:Nat->Prop}{ρ0:Nat->Value}{fr:List Nat}{rs:List RV}{vs:List Value}(hb:Below w.heap.size w w')(hr:∀(H M:Nat->Prop),bC (l5 H w' M) rs vs)(hp:rs.all (fun r=> !r.isOwn)=true:=by rfl):
  ∃(vs':List Value) (ρ1:Nat->Value),Ending.returned (yc vs)= .returned (yc vs')/\([]:List aJ).length=([]:List aJ).length/\Bel (fun b=>w.heap.size<=b∨bw ρ0 [] b) w w'/\
   (∀k,¬(ioB<=k/\k<ioB+([]:List aJ).length/\fr.contains (k-ioB)=true)->ρ1 k=ρ0 k)/\
   bC (l5 (cX (hot O ρ1 (aj ioB [])) rs vs') w' (fun b=>w.heap.size<=b∨bw ρ0 [] b)) rs vs'/\fS rs vs'/\
   (∀p∈aj ioB ([]:List aJ),cl (cX (hot O ρ1 (aj ioB [])) rs vs') w' ρ1 (fun b=>w.heap.size<=b∨bw ρ0 [] b) p)/\
   oS ρ1 (aj ioB [])/\∀b,bw ρ1 [] b-> ¬cX (fun _=>False) rs vs' b:=
 ⟨vs,ρ0,rfl,rfl,⟨hb.os,hb.tape,hb.output,hb.size,fun k hk _=>hb.block k hk⟩,fun _ _=>rfl,hr _ _,ru vs hp,fun p hp=>by simp[aj] at hp,List.Pairwise.nil,fun b hb=>by simp[bw,aj] at hb⟩
theorem Fe{P:Program}{f:FuncId}{vals:Array Value}{w:World}{O:Nat->Prop}{ρ0:Nat->Value}{v:Value}{t:Ty}{y:t.D}{fr:List Nat}(h:Calls P f vals w fun e w'=>e= .returned v/\Below w.heap.size w w')(hv:∀(H:Nat->Prop) w,aV H w (fun _=>undef) (.z t y) v):
  Calls P f vals w fun e w'=>∃(vs:List Value) (ρ1:Nat->Value),e= .returned (yc vs)/\([]:List aJ).length=([]:List aJ).length/\Bel (fun b=>w.heap.size<=b∨bw ρ0 [] b) w w'/\
   (∀k,¬(ioB<=k/\k<ioB+([]:List aJ).length/\fr.contains (k-ioB)=true)->ρ1 k=ρ0 k)/\
   bC (l5 (cX (hot O ρ1 (aj ioB [])) [RV.z t y] vs) w' (fun b=>w.heap.size<=b∨bw ρ0 [] b)) [RV.z t y] vs/\fS [RV.z t y] vs/\
   (∀p∈aj ioB ([]:List aJ),cl (cX (hot O ρ1 (aj ioB [])) [RV.z t y] vs) w' ρ1 (fun b=>w.heap.size<=b∨bw ρ0 [] b) p)/\
   oS ρ1 (aj ioB [])/\∀b,bw ρ1 [] b-> ¬cX (fun _=>False) [RV.z t y] vs b:=
 h.mono fun e w' ⟨he,hb⟩=>by subst he;exact o4 (vs:=[v]) hb (fun H M=>⟨hv _ _,trivial⟩)
theorem rU{R:LV->Value->Prop}{x:LV}{vals:Array Value}(h:bC R [x] vals.toList):∃v,vals= #[v]/\R x v:=by
 obtain⟨l⟩:=vals;match l,h with
 | [v],h=>exact⟨v,rfl,h.1⟩
 |_::_::_,h=>exact h.2.elim
theorem zV{R:LV->Value->Prop}{x y:LV}{vals:Array Value}(h:bC R [x,y] vals.toList):∃u v,vals= #[u,v]/\R x u/\R y v:=by
 obtain⟨l⟩:=vals;match l,h with
 | [u,v],h=>exact⟨u,v,rfl,h.1,h.2.1⟩
 | [_],h=>exact h.2.elim
 |_::_::_::_,h=>exact h.2.2.elim
theorem CW{R:LV->Value->Prop}{x y z:LV}{vals:Array Value}(h:bC R [x,y,z] vals.toList):∃u v t,vals= #[u,v,t]/\R x u/\R y v/\R z t:=by
 obtain⟨l⟩:=vals;match l,h with
 | [u,v,t],h=>exact⟨u,v,t,rfl,h.1,h.2.1,h.2.2.1⟩
 | [_],h=>exact h.2.elim
 | [_,_],h=>exact h.2.2.elim
 |_::_::_::_::_,h=>exact h.2.2.2.elim
end Go.Cm
end
section
namespace Go.Cm
theorem w32{x:Int}(h0:0<=x)(h1:x<4294967296):IntKind.u32.wrap x=x:=by
 exact IntWalk.u32_in x (by omega)
theorem w64{x:Int}(h0:0<=x)(h1:x<18446744073709551616):IntKind.u64.wrap x=x:=by
 exact IntWalk.u64_in x (by omega)
theorem wi{x:Int}(h0: -9223372036854775808<=x)(h1:x<9223372036854775808):IntKind.i64.wrap x=x:=by
 exact IntWalk.i64_in x (by omega)
def I64(n:Int):Prop:= -9223372036854775808<=n/\n<=9223372036854775807
def LB:Int:=1000000000
def valL:List Int->Int
 | []=>0
 |x::r=>x+LB*valL r
def Lim(l:List Int):Prop:=∀x∈l,0<=x/\x<LB
def Cano(l:List Int):Prop:=Lim l/\l.getLastD 1≠0
def CAP:Nat:=1000000000000
theorem wo{x:Int}(h0: -9223372036854775808<=x:=by omega)(h1:x<9223372036854775808:=by omega):IntKind.i64.wrap x=x:=wi h0 h1
theorem valL_append(a b:List Int):valL (a++b)=valL a+LB^a.length*valL b:=by
 induction a with
 |nil=>simp[valL]
 |cons x r ih=>simp only[List.cons_append,valL,ih,List.length_cons,Int.pow_succ];rw[Int.mul_add,Int.add_assoc,Int.mul_comm (LB^r.length) LB,Int.mul_assoc]
theorem valL_one(x:Int):valL [x]=x:=by simp[valL]
theorem Lim.append{a b:List Int}(ha:Lim a)(hb:Lim b):Lim (a++b):=fun x hx=>(List.mem_append.1 hx).elim (ha x) (hb x)
theorem Lim.one{x:Int}(h0:0<=x)(h1:x<LB):Lim [x]:=fun y hy=>by simp at hy;subst hy;exact⟨h0,h1⟩
theorem valL_nonneg{l:List Int}(h:Lim l):0<=valL l:=by
 induction l with
 |nil=>simp[valL]
 |cons x r ih=>
  have h1:=h x (by simp);have h2:=ih fun y hy=>h y (by simp[hy]);have:0<=LB*valL r:=Int.mul_nonneg (by decide) h2;simp only[valL];omega
theorem valL_lt{l:List Int}(h:Lim l):valL l<LB^l.length:=by
 induction l with
 |nil=>simp[valL]
 |cons x r ih=>
  have h1:=h x (by simp);have h2:=ih fun y hy=>h y (by simp[hy]);simp only[valL,List.length_cons,Int.pow_succ];have h3:LB*valL r<=LB*(LB^r.length-1):=Int.mul_le_mul_of_nonneg_left (by omega) (by decide);rw[Int.mul_sub,Int.mul_one] at h3;rw[Int.mul_comm (LB^r.length)];omega
theorem valL_inj:∀{a b:List Int},Lim a->Lim b->a.length=b.length->valL a=valL b->a=b
 | [],[],_,_,_,_=>rfl
 |x::r,y::s,ha,hb,hl,hv=>by
  have h1:=ha x (by simp);have h2:=hb y (by simp);simp only[valL] at hv;have hm:x%LB=y%LB:=by
   (have:(x+LB*valL r)%LB=(y+LB*valL s)%LB:=by rw[hv]);rwa [Int.add_mul_emod_self_left,Int.add_mul_emod_self_left] at this
  rw[Int.emod_eq_of_lt h1.1 h1.2,Int.emod_eq_of_lt h2.1 h2.2] at hm;subst hm;have hv2:valL r=valL s:=Int.eq_of_mul_eq_mul_left (a:=LB) (by decide) (by omega);rw[valL_inj (fun z hz=>ha z (by simp[hz])) (fun z hz=>hb z (by simp[hz])) (by simpa using hl) hv2]
 | [],_::_,_,_,hl,_=>by simp at hl
 |_::_,[],_,_,hl,_=>by simp at hl
theorem getLastD_append{a b:List Int}{d:Int}(hb:b≠[]):(a++b).getLastD d=b.getLastD d:=by
 cases b with
 |nil=>exact absurd rfl hb
 |cons x r=>simp[List.getLastD_eq_getLast?,List.getLast?_append,List.getLast?_eq_some_getLast hb]
theorem valL_ge{l:List Int}(h:Cano l)(hne:l≠[]):LB^(l.length-1)<=valL l:=by
 obtain⟨h1,h2⟩:=h;have hl:=List.dropLast_concat_getLast hne;have hlast:l.getLastD 1=l.getLast hne:=by rw[List.getLastD_eq_getLast?,List.getLast?_eq_some_getLast hne];rfl
 rw[hlast] at h2;have h3:=h1 (l.getLast hne) (List.getLast_mem hne);have h4:Lim l.dropLast:=fun x hx=>h1 x (List.dropLast_subset l hx);have h5:=valL_nonneg h4;have h6:valL l=valL l.dropLast+LB^l.dropLast.length*l.getLast hne:=by
  conv=>lhs;rw[<- hl]
  rw[valL_append,valL_one]
 rw[h6,List.length_dropLast];have h7:0<=LB^(l.length-1):=Int.pow_nonneg (by decide);have h8:LB^(l.length-1)*1<=LB^(l.length-1)*l.getLast hne:=Int.mul_le_mul_of_nonneg_left (by omega) h7;omega
theorem pow_mono{a b:Nat}(h:a<=b):LB^a<=LB^b:=by
 induction h with
 |refl=>exact Int.le_refl _
 | @step m h ih=>
  rw[Int.pow_succ];have:0<=LB^m:=Int.pow_nonneg (show (0:Int)<=LB by decide);have h2:LB^m*1<=LB^m*LB:=Int.mul_le_mul_of_nonneg_left (by decide) this;omega
theorem Cano.eq{a b:List Int}(ha:Cano a)(hb:Cano b)(h:valL a=valL b):a=b:=by
 have key:∀{a b:List Int},Cano a->Cano b->valL a=valL b-> ¬a.length<b.length:=by
  intro a b ha hb h hlt;have hne:b≠[]:=by intro e;subst e;simp at hlt
  have h1:=valL_lt ha.1;have h2:=valL_ge hb hne;have h3:=pow_mono (show a.length<=b.length-1 by omega);omega
 exact valL_inj ha.1 hb.1 (by have:=key ha hb h;have:=key hb ha h.symm;omega) h
def limbs(n:Nat):List Int:=if h:n=0 then [] else ((n%1000000000:Nat):Int)::limbs (n/1000000000)
termination_by n
decreasing_by omega
theorem limbs_val(n:Nat):valL (limbs n)=n:=by
 induction n using limbs.induct with
 |case1=>simp[limbs,valL]
 |case2 n h ih=>
  rw[limbs,dif_neg h,valL,ih];unfold LB;omega
theorem limbs_nil{n:Nat}:limbs n=[]↔n=0:=by
 rw[limbs];split;·simp[*]
 ·simp[*]
theorem limbs_can(n:Nat):Cano (limbs n):=by
 induction n using limbs.induct with
 |case1=>simp[limbs,Cano,Lim]
 |case2 n h ih=>
  rw[limbs,dif_neg h];refine⟨fun x hx=>?_,?_⟩
  ·(rcases List.mem_cons.1 hx with rfl|hx;·unfold LB;omega);·exact ih.1 x hx
  ·by_cases e:limbs (n/1000000000)=[]
   ·have:=limbs_nil.1 e;rw[e];simp;omega
   ·have:=getLastD_append (a:=[((n%1000000000:Nat):Int)]) (d:=1) e;rw[List.singleton_append] at this;rw[this];exact ih.2
theorem Cano.limbs{a:List Int}(h:Cano a){n:Nat}(hv:valL a=n):a=limbs n:=h.eq (limbs_can n) (by rw[hv,limbs_val])
theorem limbs_len{n k:Nat}(h:(n:Int)<LB^k):(limbs n).length<=k:=by
 by_cases e:limbs n=[]
 ·simp[e]
 ·have h1:=valL_ge (limbs_can n) e;rw[limbs_val] at h1;by_cases hk:(limbs n).length<=k;·exact hk
  ·have:=pow_mono (show k<=(limbs n).length-1 by omega);omega
theorem take_succ_val{l:List Int}{k:Nat}(h:k<l.length):valL (l.take (k+1))=valL (l.take k)+LB^k*l.getD k 0:=by
 rw[List.take_add_one,valL_append];simp only[List.length_take,Nat.min_eq_left (Nat.le_of_lt h),List.getElem?_eq_getElem h,Option.toList_some,valL_one,List.getD_eq_getElem?_getD,Option.getD_some]
theorem Lim.getD{l:List Int}(h:Lim l)(k:Nat):0<=l.getD k 0/\l.getD k 0<LB:=by
 rw[List.getD_eq_getElem?_getD];by_cases hk:k<l.length;·rw[List.getElem?_eq_getElem hk];exact h _ (List.getElem_mem hk)
 ·rw[List.getElem?_eq_none (by omega)];exact⟨by simp,by simp;decide⟩
theorem take_val(l:List Int)(k:Nat):valL (l.take (k+1))=valL (l.take k)+LB^k*l.getD k 0:=by
 by_cases h:k<l.length
 ·exact take_succ_val h
 ·rw[List.take_of_length_le (by omega),List.take_of_length_le (by omega),List.getD_eq_getElem?_getD,List.getElem?_eq_none (by omega)];simp
theorem cano_of_ge{l:List Int}(h:Lim l)(hv:l≠[]->LB^(l.length-1)<=valL l):Cano l:=by
 refine⟨h,fun h0=>?_⟩;by_cases hne:l=[];·subst hne;simp at h0
 ·have hl:=List.dropLast_concat_getLast hne;have hlast:l.getLastD 1=l.getLast hne:=by rw[List.getLastD_eq_getLast?,List.getLast?_eq_some_getLast hne];rfl
  rw[hlast] at h0;have h4:Lim l.dropLast:=fun x hx=>h x (List.dropLast_subset l hx);have h6:valL l=valL l.dropLast+LB^l.dropLast.length*l.getLast hne:=by
   conv=>lhs;rw[<- hl]
   rw[valL_append,valL_one]
  rw[h0,Int.mul_zero,Int.add_zero] at h6;have h7:=valL_lt h4;rw[List.length_dropLast] at h7;have:=hv hne;omega
theorem tdiv_nn{n:Int}(h:0<=n):n.tdiv 1000000000=n/LB/\n.tmod 1000000000=n%LB:=
 ⟨Int.tdiv_eq_ediv_of_nonneg h,Int.tmod_eq_emod_of_nonneg h⟩
theorem gB{l:List Int}{k:Nat}:nth (.int .u32) l (k:Int)=l.getD k 0:=rfl
theorem CX{m o out:List Int}{k:Nat}{c n:Int}(hm:Lim m)(ho:Lim o)(g2:out.length=k)(g3:Lim out)(g4:0<=c)(g5:c<=1)(g6:valL out+LB^k*c=valL (m.take k)+valL (o.take k))(hn:n=m.getD k 0+c+o.getD k 0):
  Lim (out++ [n.tmod 1000000000])/\0<=IntKind.u32.wrap (n.tdiv 1000000000)/\IntKind.u32.wrap (n.tdiv 1000000000)<=1/\valL (out++ [n.tmod 1000000000])+LB^(k+1)*IntKind.u32.wrap (n.tdiv 1000000000)=valL (m.take (k+1))+valL (o.take (k+1)):=by
 have hx:=hm.getD k;have hy:=ho.getD k;have hB:LB=1000000000:=rfl;obtain⟨e1,e2⟩:=tdiv_nn (n:=n) (by omega);have hq:0<=n/LB/\n/LB<=1:=by rw[hB] at hx hy ⊢;omega
 have hr:0<=n%LB/\n%LB<LB:=by rw[hB];omega
 rw[e1,e2,w32 hq.1 (by omega)];refine⟨g3.append (Lim.one hr.1 hr.2),hq.1,hq.2,?_⟩;rw[valL_append,valL_one,g2,take_val,take_val,Int.pow_succ];have h1:n%LB+LB*(n/LB)=n:=Int.emod_add_mul_ediv n LB;have h2:LB^k*(n%LB)+LB^k*LB*(n/LB)=LB^k*n:=by rw[Int.mul_assoc,<- Int.mul_add,h1]
 have h3:LB^k*n=LB^k*m.getD k 0+LB^k*c+LB^k*o.getD k 0:=by rw[hn,Int.mul_add,Int.mul_add]
 omega
theorem wh{x c y:Int}(hx:0<=x/\x<LB)(hy:0<=y/\y<LB)(hc:0<=c/\c<=1):IntKind.u32.wrap (x+c)=x+c/\IntKind.u32.wrap (IntKind.u32.wrap (x+c)+y)=x+c+y:=by
 have hB:LB=1000000000:=rfl;have h1:IntKind.u32.wrap (x+c)=x+c:=w32 (by omega) (by omega);exact⟨h1,by rw[h1];exact w32 (by omega) (by omega)⟩
theorem zW{m o out:List Int}{c:Int}(hm:Cano m)(ho:Cano o)(hl:o.length<=m.length)(g2:out.length=m.length)(g3:Lim out)(g4:0<=c)(g5:c<=1)(g6:valL out+LB^m.length*c=valL m+valL o):
  (0<c->out++ [c]=limbs (valL m+valL o).toNat)/\(¬0<c->out=limbs (valL m+valL o).toNat):=by
 have h1:=valL_nonneg hm.1;have h2:=valL_nonneg ho.1;have hB:LB=1000000000:=rfl;refine⟨fun h=>?_,fun h=>?_⟩
 ·refine Cano.limbs ⟨g3.append (Lim.one g4 (by omega)),?_⟩ ?_;·rw[getLastD_append (by simp)];simp;omega
  ·rw[valL_append,valL_one,g2];omega
 ·have hc:c=0:=by omega
  subst hc;refine Cano.limbs (cano_of_ge g3 fun hne=>?_) (by omega);have hmne:m≠[]:=by
   intro e;subst e;exact hne (List.eq_nil_of_length_eq_zero (by simpa using g2))
  have:=valL_ge hm hmne;rw[g2];omega
end Go.Cm
end