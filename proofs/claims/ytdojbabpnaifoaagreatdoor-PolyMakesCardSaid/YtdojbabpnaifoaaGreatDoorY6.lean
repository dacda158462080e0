/- PolyMakes: the program function croupierlaw04.PolyMakes returns true for all arguments,without panicking. -/
import Derived.Test.YtdojbabpnaifoaaGreatDoorY2
import Derived.Test.YtdojbabpnaifoaaGreatDoorY3
import Derived.Test.YtdojbabpnaifoaaGreatDoorProg
import Derived.Test.YtdojbabpnaifoaaGreatDoorY4
import Derived.Test.YtdojbabpnaifoaaGreatDoorY5
import Derived.OpenShut
import Derived.RowKit
import Derived.ChangeArms
import Derived.ChangeSame
import Derived.Deep.Slices
import Derived.ProofKit
import Derived.Deep.DeepHandedRow
import Derived.Test.YtdojbabpnaifoaaGreatDoorCards
import Derived.Test.YtdojbabpnaifoaaGreatDoorTie
import Derived.Lib.LaidTab
import Derived.Stop.LaidErr
import Derived.Lib.SmallJoins
import Derived.KernelRfl
import Derived.Deep.DeepLaidRun
import Derived.Shelf.Vars
import Derived.WalkKit
set_option linter.all false
set_option linter.unusedSimpArgs false
set_option linter.unusedVariables false
set_option maxRecDepth 100000
section
namespace Go.Cm
open Go.RowKit
def xN:Code->Option (Nat×TypeId×Nat)
 | .region _ ops false=>match ops.toList with
  | [o1,o2]=>match o1.guard,o1.dst,o1.op,o2.guard,o2.dst,o2.op with
   |none,some d,.alloc T,none,none,.store T' (.tmp d') (.tmp p)=>if T=T'/\d'=d/\p≠d then some (d,T,p) else none
   |_,_,_,_,_,_=>none
  |_=>none
 |_=>none
theorem za{H:Nat->Prop}{w:World}{ρ:Nat->Value}{cs:List LV}{vs:List Value}(h:bC (gv H w ρ) cs vs):∀c∈vs,c.oneCell'=true:=by
 intro c hc;obtain⟨i,hi,rfl⟩:=List.getElem_of_mem hc;have hl:=h.length;obtain⟨v,h1,h2⟩:=h.get (List.getElem?_eq_getElem (show i<cs.length by omega));rw[List.getElem?_eq_getElem hi] at h1;cases h1;exact h2.2
theorem PQ{X:Cx}{r:Option Nat}{n:Nat}(c:Code){d:Nat}{T:TypeId}{p:Nat}{u:Ty}(h:xN c=some (d,T,p))(hT:cO X.P T u)(a:Act)(w:World)(hd:d<a.tmps.size)(hl:(a.eval (.tmp p)).cells.toList.length=u.w)(h1:∀c∈(a.eval (.tmp p)).cells.toList,c.oneCell'=true):
  ∃Wb:World,(∀k,k<w.heap.size->Wb.heap[k]? =w.heap[k]?)/\Wb.heap[w.heap.size]? =some (.cells ((a.eval (.tmp p)).cells.toList).toArray T (0,0))/\Wb.heap.size=w.heap.size+1/\(Wb.os=w.os/\Wb.tape=w.tape/\Wb.output=w.output)/\
   ∀{K:Act->World->Prop} {R:Exit->Act->World->Prop},K (a.put (some d) (.pointer (some ⟨w.heap.size,0,none⟩))) Wb->c.wpIn (fw r) n X.P (Exit.then K R) a w:=by
 cases c with
 |region id ops draw=>
  cases draw with
  |true=>simp[xN] at h
  |false=>
   simp only[xN] at h;split at h;(case h_2=>cases h);rename_i o1 o2 hops;split at h;(case h_2=>cases h);rename_i d0 T0 T' d' p' g1 e1 e2 g2 e3 e4;split at h;(case isFalse=>cases h);rename_i hc;obtain⟨rfl,rfl,hpd⟩:=hc;cases h;have hz:=ia hT.leaf u.zeroCells u.zeroCells_length u.zeroCells_one;have hrow:(w.alloc (.cells (mkV u.isAgg u.zeroCells).cells T)).heap[w.heap.size]? =some (.cells u.zeroCells.toArray T (0,0)):=by
    rw[heap_alloc_new];congr 2;apply Array.ext';simpa using hz
   (have hst:=fW (P:=X.P) hT (v:=a.eval (.tmp p)) hrow hl h1 (o:=0) (by rw[u.zeroCells_length];omega);have hset:=ef hrow (new:=(a.eval (.tmp p)).cells.toList) (off:=0) (by rw[hl,u.zeroCells_length];omega);refine⟨(w.alloc (.cells (mkV u.isAgg u.zeroCells).cells T)).setCells w.heap.size 0 (a.eval (.tmp p)).cells.toList,fun k hk=>?_,?_,?_,?_,?_⟩;·rw[cw _ _ _ _ (by omega)];exact cq w _ k hk);·rw[hset];have e0:u.zeroCells.drop (0+(a.eval (.tmp p)).cells.toList.length)=[]:=List.drop_of_length_le (by rw[hl,u.zeroCells_length];omega);rw[e0];simp
   ·rw[nM,World.size_alloc]
   ·have hb:=Bel.setCells (M:=fun _=>True) (b:=w.heap.size) trivial (a.eval (.tmp p)).cells.toList 0 ((Bel.refl (fun _=>True) w).alloc (.cells (mkV u.isAgg u.zeroCells).cells T));exact⟨hb.os,hb.tape,hb.output⟩
   ·intro K R hk;refine wpIn_region_list ?_;rw[hops];(have hw1:∀t,Region.wanted o1 (yielded ops t)=true:=fun t=>by simp[Region.wanted,g1]);(have hw2:∀t,Region.wanted o2 (yielded ops t)=true:=fun t=>by simp[Region.wanted,g2]);simp only[wpListIn,hw1,if_true];refine bo (v:= .pointer (some ⟨w.heap.size,0,none⟩)) (w':=w.alloc (.cells (mkV u.isAgg u.zeroCells).cells T)) ?_ ?_;·unfold execOp;rw[e2];exact bF (vV hT w)
    ·rw[e1];simp only[hw2,if_true];have hdv:(a.put (some d) (.pointer (some ⟨w.heap.size,0,none⟩))).eval (.tmp d)= .pointer (some ⟨w.heap.size,0,none⟩):=by
      simp[Act.eval,Act.put,hd]
     have hpv:(a.put (some d) (.pointer (some ⟨w.heap.size,0,none⟩))).eval (.tmp p)=a.eval (.tmp p):=by
      show (a.put (some d) _).tmps.getD p undef=a.tmps.getD p undef;exact Act.getD_put_ne hpd
     (refine ie (w':=(w.alloc (.cells (mkV u.isAgg u.zeroCells).cells T)).setCells w.heap.size 0 (a.eval (.tmp p)).cells.toList) ?_ ?_;·unfold execOp;rw[e4];simp only[hdv,hpv];simp[hst]);·rw[e3];exact hk
 |_=>simp[xN] at h
theorem Fits.freshO{X:Cx}{s:aa}{a:Act}{w w':World}{d:Nat}{obj:aJ}{val:Value}{ρ:Nat->Value}(hf:Fits X s a w ρ)(hdB:d<ioB)
  (hkeep:∀k,k<w.heap.size->w'.heap[k]? =w.heap[k]?) (hval:∀b,Blk val b->w.heap.size<=b)
  (hobj:∀H' ρ',(∀b,b<w.heap.size->H' b->hot X.O ρ s.own b)->bn (hot X.O ρ s.own) w w'->(∀i,i≠d->ρ' i=ρ i)->ρ' d=val->cl H' w' ρ' X.M (d,obj)):
  ∃ ρ',ρ' d=val/\(∀i,i≠d->ρ' i=ρ i)/\Fits X {env:=bZ (LV.kill d) s.env,own:=(d,obj)::bu (LV.kill d) (del s.own d)} a w' ρ':=by
 have hlt:=fun p hp b hb=>((hf.own p hp).lt (b:=b) hb).2;have hs:bn (hot X.O ρ s.own) w w':=fun b _ hb=>hkeep b (dk hb);have hh:∀b,b<w.heap.size->hot X.O (nI ρ d val) ((d,obj)::bu (LV.kill d) (del s.own d)) b->hot X.O ρ s.own b:=by
  intro b hb h;rcases h with h|⟨p,hp,hp2⟩;·exact .inl h
  ·(rcases List.mem_cons.1 hp with rfl|hp;·simp only[cW] at hp2;have:=hval b hp2;omega);·obtain⟨u,h1,_⟩:=bq hp;have h2:=bQ.1 h1;rw[dO _ _ h2.2] at hp2;exact dH h2.1 hp2
 have hρ:∀i,i≠d->nI ρ d val i=ρ i:=fun i hi=>dO _ _ hi;refine⟨nI ρ d val,cW _ _ _,hρ,hf.env_map (fun x v hx=>bm hh hs hρ hx) ?_ ?_ ?_⟩
 ·intro p hp;rcases List.mem_cons.1 hp with rfl|hp;·exact hobj _ _ hh hs hρ (cW _ _ _)
  ·obtain⟨u,h1,h2⟩:=bq hp;have h3:=bQ.1 h1;have:=(hf.own _ h3.1).move (f:=LV.kill d) (ρ':=nI ρ d val) hh hs (fun x v hx=>bm hh hs hρ hx) (hρ _ h3.2) (fun b hb=>hkeep b (hlt _ h3.1 b hb));rw[<- h2] at this;exact this
 ·intro p hp hB hF;rcases List.mem_cons.1 hp with rfl|hp;·exact absurd hB (Nat.not_le.2 hdB)
  ·obtain⟨u,h1,_⟩:=bq hp;have h3:=bQ.1 h1;rw[hρ _ h3.2];exact hf.io _ h3.1 hB hF
 ·rw[List.pairwise_cons];constructor;·intro q hq;obtain⟨u,h1,_⟩:=bq hq;have h3:=bQ.1 h1;refine⟨fun e=>h3.2 e.symm,fun b hb hq2=>?_⟩;rw[dO _ _ h3.2] at hq2;simp only[cW] at hb;have h4:=hval b hb;have:=hlt _ h3.1 b hq2;omega
  ·have hap:=cP (f:=LV.kill d) (fun i j=>i≠j/\∀b,Blk (ρ i) b-> ¬Blk (ρ j) b) (dr (fun i j=>i≠j/\∀b,Blk (ρ i) b-> ¬Blk (ρ j) b) (n:=d) hf.apart);refine hap.imp_of_mem fun {p q} hp hq hpq=>?_;obtain⟨_,h1,_⟩:=bq hp;obtain⟨_,h2,_⟩:=bq hq;rw[dO _ _ (bQ.1 h1).2,dO _ _ (bQ.1 h2).2];exact hpq
theorem KN{X:Cx}(hr:X.r=none){s:aa}{K:Exit->aa->Prop}{g:Operand}{ps:Array Tmp}{assign body:Code}{gf:FuncId}
  {items:List (List LV)} (henters:∀args w,(callFunc gf args).run X.P w= .ok (.enter gf args) w) (hdata:∀it∈items,it.length=ps.size/\it.all LV.isZ=true) {d pv:Nat} {TB:TypeId} {ub:Ty} (hasg:xN assign=some (d,TB,pv)) (hTb:cO X.P TB ub) (hdN:d<X.T.N) (ks:List Nat)
  (hk1:ks.all (fun t=> !ps.toList.contains t&&t !=d)=true) (hps:ps.toList.all (fun t=>decide (t<X.T.N))=true)
  {ι:Type} (f:Nat->ι->aa) (Φ:Nat->ι->Prop) (x₀:ι) (h₀:le s (f 0 x₀))
  (hseq:∀(a:Act) (w:World) (ρ:Nat->Value),St X s a w->Fits X s a w ρ->(∀b,hot X.O (cY ρ s.own) (f 0 x₀).own b->b<w.heap.size)->∃(lb:List Value) (E:Nat->Prop),a.eval g= .func (.func gf) #[] lb.toArray/\(∀b,E b->X.M b/\(∃o:Obj,w.heap[b]? =some o/\o.isCells=true)/\ ¬hot X.O (cY ρ s.own) (f 0 x₀).own b/\hot X.O ρ s.own b)/\∃enc:Nat->Array Value,
   (∀k (hk:k<items.length),bC (aV (fun b=>hot X.O (cY ρ s.own) (f 0 x₀).own b∨E b) w (fun _=>undef)) items[k] (enc k).toList)/\wg X.P gf lb.toArray enc items.length (zU (hot (fun _=>False) (cY ρ s.own) (f 0 x₀).own) w.heap.size) w E) (hΦ:Φ 0 x₀) (hks:∀k x,(f k x).env.all (fun e=>ks.contains e.1)=true)
  (hround:∀k (hk:k<items.length) (x:ι),Φ k x->∃s1 v cs,bc (eM (f k x) (ps.toList.zip items[k])) (.tmp pv)=some v/\v.cells=some cs/\cs.length=ub.w/\cs.all (fun c=> !c.isOf d)=true/\s1={env:=(d,.l (.ownP d 0))::del ((eM (f k x) (ps.toList.zip items[k])).kill d).env d,own:=(d,.box TB cs)::((eM (f k x) (ps.toList.zip items[k])).kill d).own}/\
   ∀X':Cx,X'.P=X.P->X'.T={X.T with keep:=ks}->J X' body s1 (yi f Φ ks K k))
  (hdone:∀x,Φ items.length x->K .normal (f items.length x)):J X (.rangeFunc g ps assign body) s K:=by
 intro a w hst;obtain⟨ρ,hf⟩:=hst.fits;have hHlt':∀b,hot X.O (cY ρ s.own) (f 0 x₀).own b->b<w.heap.size:=fun b hb=>hf.hot_lt hst.others hst.below (oe h₀ hb);have hseq':=hseq a w ρ hst hf hHlt';obtain⟨H,hH⟩:∃H,H=hot (fun _=>False) (cY ρ s.own) (f 0 x₀).own:=⟨_,rfl⟩;have hHX:∀b,H b->hot X.O (cY ρ s.own) (f 0 x₀).own b:=fun b hb=>by rw[hH] at hb;exact hb.elim False.elim .inr
 rw[<- hH] at hseq';obtain⟨lb,E,hlb1,hE,enc,henc,hsq⟩:=hseq';have hEM:=fun b hb=>(hE b hb).1;have hEw:=fun b hb=>(hE b hb).2.1;have hEH:∀b,E b-> ¬H b:=fun b hb h=>(hE b hb).2.2.1 (hHX b h);have hw0:X.w0.heap.size<=w.heap.size:=hst.below.size;have hout0:fb X a w H E (f 0 x₀) w (cY ρ s.own):=by
  have h1:Fits (XE X E) (f 0 x₀) a w (cY ρ s.own):=Fits.leO h₀ hf (fun b _ hb=>by
   (rcases hb with(hb|hb)|hb;·exact .inl hb);·exact(hE b hb).2.2.2
   ·exact oe h₀ (.inr hb))
  exact⟨h1,hst.below,fun p hp b hb=> .inr (by rw[hH];exact dH hp hb),KeepsOthers.refl _,bn.refl _ _⟩
 refine wpIn_rangeFunc ?_;intro fn hfn;have hround0:(fw X.r).round=none:=by rw[hr];rfl
 rw[hround0];obtain⟨rec,hrec⟩:∃rec:LoopState->Option Code->Loop,rec=fun st pe=>{state:=st,pending:=pe,fn,tmps:=a.tmps,params:=ps,assign,body,defers:=w.heap.size}:=⟨_,rfl⟩;obtain⟨W1,hW1⟩:∃W1,(w.alloc (.deferred (some []))).alloc (.loop (rec .ready none))=W1:=⟨_,rfl⟩;have hsz1:W1.heap.size=w.heap.size+2:=by rw[<- hW1];simp
 have hL1:W1.heap[w.heap.size+1]? =some (.loop (rec .ready none)):=by
  rw[<- hW1];have:=World.alloc_heap_new (w.alloc (.deferred (some []))) (.loop (rec .ready none));rwa [World.size_alloc] at this
 have hD1:W1.heap[w.heap.size]? =some (.deferred (some [])):=by
  rw[<- hW1];exact(Below.heap_alloc _ _ _ (by simp)).trans (World.alloc_heap_new w _)
 have hb1:Below w.heap.size w W1:=by rw[<- hW1];exact((Below.refl _ w).alloc (Nat.le_refl _) _).alloc (by simp) _
 have hout1:fb X a w H E (f 0 x₀) W1 (cY ρ s.own):=by
  rw[<- hW1];exact(hout0.abide hw0 (World.grownBy_alloc _ _ none) (by simp)).abide hw0 (World.grownBy_alloc _ _ none) (by simp)
 refine⟨w.heap.size+1,[{target:= .collected w.heap.size,args:= #[]}],W1,{target:= .fn (.func gf) lb.toArray,args:= #[.func (.yield (w.heap.size+1)) #[] #[]]},W1,gf,
  #[.func (.yield (w.heap.size+1)) #[] #[]]++lb.toArray,W1,?_,?_,fun _ _=>trivial,?_,fun h=>by simp[fw,Fence.wide] at h,?_⟩
 ·rw[<- hW1,hrec];exact run_enterLoop_outer _ _ _ _ _
 ·simp only[resolve,hlb1];simp[go_sem]
 ·simp[invoke,go_sem,henters]
 have hfw:fw X.r=fw none:=by rw[hr]
 rw[hfw];have hkeptA:∀k (act0:Act),act0.tmps=((ps.toList.zip (enc k).toList).foldl (fun(t:Array Value) (p:Nat×Value)=>t.setIfInBounds p.1 p.2) a.tmps)->∀t∈ks,∀pt:Value,(act0.put (some d) pt).tmps.getD t undef=a.tmps.getD t undef:=by
  intro k act0 h0 t ht pt;have h1:=List.all_eq_true.1 hk1 t ht;simp only[Bool.and_eq_true,Bool.not_eq_true',List.contains_eq_mem,decide_eq_false_iff_not,bne_iff_ne] at h1;rw[Act.getD_put_ne h1.2,h0,qp];intro hm;obtain⟨p,hp,rfl⟩:=List.mem_map.1 hm;exact h1.1 (List.of_mem_zip hp).1
 have hE1:¬E (w.heap.size+1):=fun e=>by
  obtain⟨o,ho,_⟩:=hEw _ e;have:=(Array.getElem?_eq_some_iff.1 ho).1;omega
 have hE2:¬E w.heap.size:=fun e=>by
  obtain⟨o,ho,_⟩:=hEw _ e;have:=(Array.getElem?_eq_some_iff.1 ho).1;omega
 refine(hsq (w.heap.size+1)
  (fun k W=>(∃x ρ,Φ k x/\fb X a w H E (f k x) W ρ)/\W.heap[w.heap.size+1]? =some (.loop (rec .ready none))/\W.heap[w.heap.size]? =some (.deferred (some [])))
  (fun W=>∃c,(∃z ρ,L2 K z c/\fb X a w H E z W ρ)/\W.heap[w.heap.size+1]? =some (.loop (rec .done (some c)))/\W.heap[w.heap.size]? =some (.deferred (some [])))
  W1 hb1 ?_ ?_ ?_ ?_ ?_ ⟨⟨x₀,_,hΦ,hout1⟩,hL1,hD1⟩).mono ?_
 ·rintro k A B row ⟨⟨x,ρx,hx,ho⟩,hl,hd⟩ hg' hrow;refine⟨⟨x,ρx,hx,ho.abide hw0 hg' (fun r e=>?_)⟩,(grownBy_keeps hg' (fun r e=>(hrow r e).2) hl rfl).trans hl,(grownBy_keeps hg' (fun r e=>(hrow r e).2) hd rfl).trans hd⟩;obtain⟨h1,o,h2,h3⟩:=hrow r e;exact⟨by omega,o,h2,Obj.not_cells_of_walk h3⟩
 ·rintro _ A B row ⟨c,⟨z,ρx,hx,ho⟩,hl,hd⟩ hg' hrow;refine⟨c,⟨z,ρx,hx,ho.abide hw0 hg' (fun r e=>?_)⟩,(grownBy_keeps hg' (fun r e=>(hrow r e).2) hl rfl).trans hl,(grownBy_keeps hg' (fun r e=>(hrow r e).2) hd rfl).trans hd⟩;obtain⟨h1,o,h2,h3⟩:=hrow r e;exact⟨by omega,o,h2,Obj.not_cells_of_walk h3⟩
 ·rintro k A B ⟨⟨x,ρx,hx,ho⟩,hl,hd⟩ ht;exact⟨⟨x,ρx,hx,ho.turn hEM hEw hEH ht⟩,(ht.same _ hE1).trans hl,(ht.same _ hE2).trans hd⟩
 ·rintro A B ⟨c,⟨z,ρx,hx,ho⟩,hl,hd⟩ ht;exact⟨c,⟨z,ρx,hx,ho.turn hEM hEw hEH ht⟩,(ht.same _ hE1).trans hl,(ht.same _ hE2).trans hd⟩
 ·rintro k W ⟨⟨x,ρx,hx,ho⟩,hl,hd⟩ hkN;obtain⟨s1,v,cs,hv1,hv2,hv3,hv4,hs1,hJ⟩:=hround k hkN x hx;have hlt:w.heap.size+1<W.heap.size:=(Array.getElem?_eq_some_iff.1 hl).1;have hen:=henc k hkN;have hdat:=hdata _ (List.getElem_mem hkN);have hes:(enc k).size=ps.size:=by have:=hen.length;rw[hdat.1] at this;simpa using this.symm
  have hy:=run_yield (P:=X.P) (args:=enc k) hl (by rw[hrec];exact hes);rw[hrec] at hy;obtain⟨W2,hW2⟩:∃W2,W.putObj (w.heap.size+1) (.loop {rec .ready none with state:= .busy})=W2:=⟨_,rfl⟩;have hl2:W2.heap[w.heap.size+1]? =some (.loop {rec .ready none with state:= .busy}):=by rw[<- hW2];exact World.putObj_heap_same hlt
  have hd2:W2.heap[w.heap.size]? =some (.deferred (some [])):=by rw[<- hW2];exact(World.putObj_heap_other (by omega)).trans hd
  have ho2:fb X a w H E (f k x) W2 ρx:=by
   rw[<- hW2];exact ho.abide hw0 (grownBy_putObj' _ _ _) (fun r e=>by cases e;exact⟨by omega,_,hl,rfl⟩)
  have hzip:(ps.zip (enc k)).toList=ps.toList.zip (enc k).toList:=Array.toList_zip;have hfold:(ps.zip (enc k)).foldl (fun(t:Array Value) (p:Nat×Value)=>t.setIfInBounds p.1 p.2) a.tmps=(ps.toList.zip (enc k).toList).foldl (fun(t:Array Value) (p:Nat×Value)=>t.setIfInBounds p.1 p.2) a.tmps:=by
   rw[<- Array.foldl_toList,hzip]
  obtain⟨act0,hact0⟩:∃act0:Act,act0={tmps:=(ps.toList.zip (enc k).toList).foldl (fun(t:Array Value) (p:Nat×Value)=>t.setIfInBounds p.1 p.2) a.tmps,defers:=[]}:=⟨_,rfl⟩;have hfitA:Fits (XE X E) (f k x) {a with defers:=[]} W2 ρx:=⟨ho2.fits.env,ho2.fits.own,ho2.fits.io,ho2.fits.apart⟩;have hHsub:∀b,b<w.heap.size->hot (XE X E).O ρx (f k x).own b->(hot X.O (cY ρ s.own) (f 0 x₀).own b∨E b):=by
   (rintro b hb ((h1|h1)|⟨p,hp,hpb⟩);·exact .inl (.inl h1));·exact .inr h1
   ·(rcases ho2.own p hp b hpb with h2|h2;·omega);·exact .inl (hHX b h2)
  have hvals:bC (aV (hot (XE X E).O ρx (f k x).own) W2 ρx) ((ps.toList.zip (items[k])).map Prod.snd) (enc k).toList:=by
   have e:(ps.toList.zip (items[k])).map Prod.snd=items[k]:=List.map_snd_zip (by have:=hdat.1;simp;omega);rw[e];refine hen.imp (fun y v hy h=>?_);have hz:=List.all_eq_true.1 hdat.2 y hy;refine bb hHsub (fun b hb hc=>ho2.stays b (fun e=>hb (e.imp (hHX b) id)) hc) (fun id hid=>?_) h;cases y<;>simp_all [LV.isZ,LV.isOf]
  have hszA:a.tmps.size=X.T.N:=hst.size;have e1:(ps.toList.zip (items[k])).map Prod.fst=ps.toList:=List.map_fst_zip (by have:=hdat.1;simp;omega);obtain⟨actP,hactP,hfitP,hszP⟩:=qo (ps.toList.zip (items[k])) (enc k).toList hfitA rfl hszA (fun p hp=>by
   have:=List.all_eq_true.1 hps p.1 (List.of_mem_zip hp).1;simpa using this) hvals
  rw[e1] at hactP;have hP0:actP=act0:=by rw[hactP,hact0]
  rw[hP0] at hfitP hszP;have hpv:bc (eM (f k x) (ps.toList.zip items[k])) (.tmp pv)=some v:=hv1;have hcells:=AV.cells_ok hv2 (cg hfitP hpv);obtain⟨Wb,hWb1,hWb2,hWb3,hWb4,hexec⟩:=PQ (X:=X) (r:=some (w.heap.size+1)) (n:=0) assign hasg hTb act0 W (by rw[hszP];exact hdN) (by rw[<- hcells.length];exact hv3) (za hcells);refine⟨fn,_,assign,body,hy,roundIn_of_wpIn (F:=fw none) trivial ?_⟩;rw[hfold,<- hact0];refine hexec ⟨_,run_beginRound ((hWb1 _ (Array.getElem?_eq_some_iff.1 hl).1).trans hl) (by rw[hrec]),?_⟩;have hW2s:W2.heap.size=W.heap.size:=by rw[<- hW2];simp[World.putObj]
  obtain⟨W2b,hW2b⟩:∃W2b,Wb.putObj (w.heap.size+1) (.loop {rec .ready none with state:= .busy})=W2b:=⟨_,rfl⟩;rw[hW2b];have hkb:∀k,k<W2.heap.size->W2b.heap[k]? =W2.heap[k]? :=by
   (intro k hk;rw[<- hW2b,<- hW2];by_cases e:k=w.heap.size+1;·subst e;rw[World.putObj_heap_same (by omega),World.putObj_heap_same hlt]);·rw[World.putObj_heap_other e,World.putObj_heap_other e,hWb1 k (by omega)]
  have hnb:W2b.heap[W2.heap.size]? =some (.cells ((act0.eval (.tmp pv)).cells.toList).toArray TB (0,0)):=by
   rw[<- hW2b,hW2s,World.putObj_heap_other (by omega)];exact hWb2
  have hbelb:∀M:Nat->Prop,Bel M W2 W2b:=fun M=>by
   (have e1:W2b.os=W2.os:=by rw[<- hW2b,<- hW2];exact hWb4.1);(have e2:W2b.tape=W2.tape:=by rw[<- hW2b,<- hW2];exact hWb4.2.1);(have e3:W2b.output=W2.output:=by rw[<- hW2b,<- hW2];exact hWb4.2.2);exact⟨e1,e2,e3,by rw[<- hW2b];simp only[World.putObj,Array.size_setIfInBounds];omega,fun k hk _=>hkb k hk⟩
  have hdB:d<ioB:=Nat.lt_of_lt_of_le hdN hst.small.n;obtain⟨ρn,hρd,hρo,hfit1⟩:=Fits.freshO hfitP hdB (w':=W2b) (obj:= .box TB cs) (val:= .pointer (some ⟨W2.heap.size,0,none⟩)) hkb (fun b hb=>by simp[Blk] at hb;omega)
   (fun H' ρ' hh hs hρ hρd=>⟨W2.heap.size,(act0.eval (.tmp pv)).cells.toList,hρd,.inl (by have:=ho2.bel.size;exact this),hnb,bC.kill hh hs hρ (fun c hc=>by have:=List.all_eq_true.1 hv4 c hc;simpa using this) hcells⟩)
  have hfit1:=hfit1.put (d:=d) (by rw[hszP];exact hdN) (v:= .l (.ownP d 0)) (val:= .pointer (some ⟨W2.heap.size,0,none⟩)) ⟨W2.heap.size,hρd,rfl⟩;have hs1':s1={env:=(d,.l (.ownP d 0))::del (bZ (LV.kill d) (eM (f k x) (ps.toList.zip items[k])).env) d,own:=(d,.box TB cs)::bu (LV.kill d) (del (eM (f k x) (ps.toList.zip items[k])).own d)}:=hs1;rw[hW2s] at hfit1;have hkA:∀t∈ks,(act0.put (some d) (.pointer (some ⟨W.heap.size,0,none⟩))).tmps.getD t undef=a.tmps.getD t undef:=fun t ht=>hkeptA k act0 (by rw[hact0]) t ht _;have hst1:St {XE X E with T:={X.T with keep:=ks},I:=fun b=>∃p∈(f k x).own,Blk (ρx p.1) b,w0:=W2,r:=some (w.heap.size+1),tm:=fun t=>(act0.put (some d) (.pointer (some ⟨W.heap.size,0,none⟩))).tmps.getD t undef} s1 (act0.put (some d) (.pointer (some ⟨W.heap.size,0,none⟩))) W2b:=by
   refine⟨?_,fun _ _=>rfl,by rw[Act.size_put];exact hszP,hbelb _,fun b hb hm=>?_,⟨hst.small.n,?_,fun b hb=>?_⟩,ρn,by rw[hs1'];exact hfit1.env,fun p hp=>?_,by rw[hs1'];exact hfit1.io,by rw[hs1'];exact hfit1.apart⟩;·rw[Act.defers_put,hact0];exact Marks.nil _ _
   ·rcases hb with hb|hb
    ·rcases hm with hm|⟨p,hp,hpb⟩
     ·have h1:=hst.others b hb;have h2:b<X.w0.heap.size:=by
       by_cases h3:b<X.w0.heap.size
       ·exact h3
       ·exact absurd (.inl (by omega)) h1
      have:=ho2.bel.size;simp only at hm;omega
     ·exact hst.others b hb ((ho2.fits.own p hp).lt hpb).1
    ·obtain⟨o,ho,_⟩:=hEw b hb;have h2:=(Array.getElem?_eq_some_iff.1 ho).1;rcases hm with hm|⟨p,hp,hpb⟩;·have:=ho2.keeps.size;simp only at hm;omega
     ·(rcases ho2.own p hp b hpb with h1|h1;·omega);·exact hEH b hb h1
   ·(have h1:=hst.small.on;refine⟨Nat.le_trans h1.1 ho2.bel.size,fun b hb=>?_⟩;rw[<- h1.2 b hb];refine ho2.bel.block b (Nat.lt_of_lt_of_le hb h1.1) ?_;rintro(hm|hm);·have:=h1.1;simp only at hb;omega);·have:=hst.small.io b hm;simp only at hb;omega
   ·(obtain⟨p,hp,hpb⟩:=hb;rcases ((ho2.fits.own p hp).lt hpb).1 with h1|h1;·exact Nat.le_trans hst.small.on.1 h1);·exact hst.small.io b h1
   ·have hq:∀(l:List (Nat×LV)) (s:aa),(eM s l).own=s.own:=by
     intro l;induction l with
     |nil=>intro s;rfl
     |cons q l ih=>intro s;exact ih _
    rw[hs1'] at hp;have hp':p∈(d,aJ.box TB cs)::bu (LV.kill d) (del (eM (f k x) (ps.toList.zip items[k])).own d):=hp;have h5:=(hfit1.own p hp').moved (H':=hot (XE X E).O ρn s1.own) (ρ':=ρn) (k:=p.1) (f:=id) (M':=Cx.M {XE X E with T:={X.T with keep:=ks},I:=fun b=>∃p∈(f k x).own,Blk (ρx p.1) b,w0:=W2,r:=some (w.heap.size+1),tm:=fun t=>(act0.put (some d) (.pointer (some ⟨W.heap.size,0,none⟩))).tmps.getD t undef}) (fun b _ h=>by rw[hs1'] at h;exact h) (fun x v hx=>bb (fun b _ h=>by rw[hs1'] at h;exact h) (bn.refl _ _) (fun _ _=>rfl) hx) rfl (fun b hb=>by
     (rcases List.mem_cons.1 hp' with rfl|hp2;·simp only[hρd] at hb;simp[Blk] at hb;exact .inl (by simp only;omega));·obtain⟨u,g1,_⟩:=bq hp2;have g2:=bQ.1 g1;rw[hρo _ g2.2] at hb;exact .inr ⟨(p.1,u),by rw[<- hq];exact g2.1,hb⟩)
    rw[aJ.map_id] at h5;exact h5
  have hw:=hJ {XE X E with T:={X.T with keep:=ks},I:=fun b=>∃p∈(f k x).own,Blk (ρx p.1) b,w0:=W2,r:=some (w.heap.size+1),tm:=fun t=>(act0.put (some d) (.pointer (some ⟨W.heap.size,0,none⟩))).tmps.getD t undef} rfl rfl _ _ hst1;refine Fa (n:=2) (Code.wpIn_mono (fun e a3 W3 hp=>?_) hw);obtain⟨s3,hK3,hst3⟩:=hp;have fin:∀(jump:Option Code) (z:aa),z.env.all (fun e=>ks.contains e.1)=true->le s3 z->∃ ρz,fb X a w H E z (W3.putObj (w.heap.size+1) (.loop (rec (if jump.isNone then .ready else .done) jump))) ρz/\
    (Instr.endRound (w.heap.size+1) jump).run X.P W3= .ok (.bool jump.isNone) (W3.putObj (w.heap.size+1) (.loop (rec (if jump.isNone then .ready else .done) jump)))/\
    (W3.putObj (w.heap.size+1) (.loop (rec (if jump.isNone then .ready else .done) jump))).heap[w.heap.size+1]? =some (.loop (rec (if jump.isNone then .ready else .done) jump))/\
    (W3.putObj (w.heap.size+1) (.loop (rec (if jump.isNone then .ready else .done) jump))).heap[w.heap.size]? =some (.deferred (some []))/\
    zU H w.heap.size W (W3.putObj (w.heap.size+1) (.loop (rec (if jump.isNone then .ready else .done) jump))):=by
   intro jump z hz hle;obtain⟨ρz,h1,h2,h3⟩:=ho2.back hkA hz hle hst3;have hl3:=h2.same _ _ hl2 rfl;have hd3:=h2.same _ _ hd2 rfl;have he:=run_endRound (P:=X.P) jump hl3;rw[hrec] at he ⊢;refine⟨ρz,h1.abide hw0 (grownBy_putObj' _ _ _) (fun r e=>by cases e;exact⟨by omega,_,hl3,rfl⟩),he,World.putObj_heap_same (Array.getElem?_eq_some_iff.1 hl3).1,(World.putObj_heap_other (by omega)).trans hd3,fun b hb hnH hc=>?_⟩;(have e1:W2.heap[b]? =W.heap[b]? :=by rw[<- hW2];exact World.putObj_heap_other (by omega));rw[World.putObj_heap_other (by omega),h3 b hb hnH (by rw[e1];exact hc),e1]
  cases e with
  |normal=>
   obtain⟨y,hle,hy'⟩:=hK3;obtain⟨ρz,h1,h2,h3,h4,h5⟩:=fin none _ (hks (k+1) y) hle;exact⟨_,_,h2,.inl ⟨rfl,⟨⟨y,ρz,hy',h1⟩,h3,h4⟩,h5⟩⟩
  |ret=>
   obtain⟨z,hle,hz,hk3⟩:=hK3;obtain⟨ρz,h1,h2,h3,h4,h5⟩:=fin (some .ret) _ hz hle;exact⟨_,_,h2,.inr ⟨rfl,.ret,⟨z,ρz,hk3,h1⟩,h3,h4⟩⟩
  |exit i=>
   obtain⟨z,hle,hz,hk3⟩:=hK3;obtain⟨ρz,h1,h2,h3,h4,h5⟩:=fin (some (.exit i)) _ hz hle;exact⟨_,_,h2,.inr ⟨rfl,.exit i,⟨z,ρz,hk3,h1⟩,h3,h4⟩⟩
  |goto t=>exact hK3.elim
  |panic ch=>exact hK3.elim
  |outgrown=>exact hK3.elim
 ·rintro e W2 ⟨⟨v,rfl⟩,(⟨⟨x,ρx,hx,ho⟩,hl,hd⟩|⟨c,⟨z,ρz,hj,ho⟩,hl,hd⟩)⟩;·have he:=run_endLoop (P:=X.P) hl (by rw[hrec];simp);rw[hrec] at he;refine⟨none,_,he,_,hdone x hx,(ho.abide hw0 (grownBy_putObj' _ _ _) (fun r e=>by cases e;exact⟨by omega,_,hl,rfl⟩)).st hst ((World.putObj_heap_other (by omega)).trans hd)⟩
  ·have he:=run_endLoop (P:=X.P) hl (by rw[hrec];simp);rw[hrec] at he;refine⟨some c,_,he,?_⟩;cases c with
   |ret=>exact wpIn_ret ⟨z,hj,(ho.abide hw0 (grownBy_putObj' _ _ _) (fun r e=>by cases e;exact⟨by omega,_,hl,rfl⟩)).st hst ((World.putObj_heap_other (by omega)).trans hd)⟩
   |exit i=>exact wpIn_exit ⟨z,hj,(ho.abide hw0 (grownBy_putObj' _ _ _) (fun r e=>by cases e;exact⟨by omega,_,hl,rfl⟩)).st hst ((World.putObj_heap_other (by omega)).trans hd)⟩
   |_=>exact hj.elim
theorem xO{X:Cx}(hr:X.r=none){s:aa}{K:Exit->aa->Prop}{g:Operand}{ps:Array Tmp}{assign body:Code}{gf:FuncId}{caps:List CV}
  (hg:bc s g=some (.l (.fn gf caps))) (hcap:caps.all CV.pure=true) {items:List (List LV)} (hseq:oZ X.P gf ps.size caps items) {d pv:Nat} {TB:TypeId} {ub:Ty} (hasg:xN assign=some (d,TB,pv)) (hTb:cO X.P TB ub) (hdN:d<X.T.N) (ks:List Nat)
  (hk1:ks.all (fun t=> !ps.toList.contains t&&t !=d)=true) (hps:ps.toList.all (fun t=>decide (t<X.T.N))=true)
  {ι:Type} (f:Nat->ι->aa) (Φ:Nat->ι->Prop) (x₀:ι) (h₀:le s (f 0 x₀)) (hΦ:Φ 0 x₀) (hks:∀k x,(f k x).env.all (fun e=>ks.contains e.1)=true)
  (hround:∀k (hk:k<items.length) (x:ι),Φ k x->∃s1 v cs,bc (eM (f k x) (ps.toList.zip items[k])) (.tmp pv)=some v/\v.cells=some cs/\cs.length=ub.w/\cs.all (fun c=> !c.isOf d)=true/\s1={env:=(d,.l (.ownP d 0))::del ((eM (f k x) (ps.toList.zip items[k])).kill d).env d,own:=(d,.box TB cs)::((eM (f k x) (ps.toList.zip items[k])).kill d).own}/\
   ∀X':Cx,X'.P=X.P->X'.T={X.T with keep:=ks}->J X' body s1 (yi f Φ ks K k))
  (hdone:∀x,Φ items.length x->K .normal (f items.length x)):J X (.rangeFunc g ps assign body) s K:=
 KN hr hseq.enters hseq.data hasg hTb hdN ks hk1 hps f Φ x₀ h₀ (fun a w ρ _ hf hlt=>by
  obtain⟨lb,hlb1,hlb2⟩:aV (hot X.O ρ s.own) w ρ (.fn gf caps) (a.eval g):=cg hf hg;obtain⟨enc,h1,h2⟩:=hseq.seq _ w lb hlt (j7 hcap (fun b hb=>oe h₀ hb) hlb2);exact⟨lb,fun _=>False,hlb1,fun b hb=>hb.elim,enc,fun k hk=>(h1 k hk).imp (fun x v hx h=>bb (H:=hot X.O (cY ρ s.own) (f 0 x₀).own) (fun b _ hb=>hb.elim id (fun e=>e.elim)) (bn.refl _ _) (fun _ _=>rfl) h),h2.kp (fun A B hk b hb hn hc=>hk b hb (fun e=>hn (e.elim False.elim .inr)) hc)⟩) hΦ hks hround hdone
end Go.Cm
end
section
namespace Go.Proofs.YtdojbabpnaifoaaGreatDoor
open Go Go.Cm Go.Proofs Tryz
def Hv(B:aq):Tab:=mT B [(79,tyP)] [] [] [] 4
def vr:Con:=c1 tyP (fun xs=>True) (fun xs=>[.fn 125 [.z (.ptr tyP) xs]])
theorem xP{B:aq}(hB:aN B):Valid B prog 83 vr:=by
 refine v1 (mg (T:=Hv B) (tc gF ab) ae (bI rfl)) func83 ?_;intro xs hC X hP hT hr hG;have hX:=ai Hv.eq_1<|cx;simp only[f83,az,aj,ioB];refine sg ?_;refine sg ?_;refine av (qe [] ?_);rfl
def ji(B:aq):Tab:={types:=[(79,tyP),(91,tyN)],elems:=[],cons:=[(58,pV),(83,vr),(105,fl),(113,fm)],hint:=[],N:=19,base:=B}
theorem B7{B:aq}(hB:aN B):bx prog (ji B):=⟨⟨tc gF (tc ty91 ab),ae,by simp only[ji,ioB];omega⟩,aC (cc func58 (nC hB) (cc func83 (xP hB) (cc func105 (nD hB) (cc func113 (nE hB) ax)))),by kernel_rfl⟩
def PR:Con:=c2 tyP tyN (fun p x=>Sz QM p/\p.length<=100/\NOK x/\lq (bH x)<=QM) (fun p x=>[.z tyN (bp (au (ay p) (bH x)))])
theorem KO{B:aq}(hB:aN B):Valid B prog 89 PR:=by
 refine aW (B7 hB).tab func89 rfl rfl rfl ?_;intro args os C rs os' hc hC;obtain⟨p,x,rfl,rfl,rfl,rfl,rfl⟩:=qz hc;refine v_h (B7 hB) fun X hP hT hr hG=>?_;have hU:=ji.eq_1;unfold ji at hT;have hX:=ai @cx<|ai @vr.eq_1<|ai @pV.eq_1<|ai @fl.eq_1<| @fm.eq_1;simp only[f89,az,aj,ioB];have hl:p.length<=100:=hC.2.1;refine s_g hG ?_;refine s_g hG ?_;refine ag (s_g hG ?_);refine al (xO hr (gf:=125) (caps:=[.z (.ptr tyP) p]) (items:=b5 p) (by simp only[hT,ji,mx0,mx1,mx2,mx3,mx4,mx5,mx6,mT,effOp,endCall,callOp,appendOp,sliceLV,Ty.fieldTy,Ty.fieldOf,Nat.reduceLT,Nat.reduceEqDiff,Nat.reduceAdd,Nat.reduceMul,Nat.reduceSub,Nat.reduceLeDiff,Nat.reduceBEq,Nat.reduceBNe,reduceIte,reduceDIte,reduceCtorEq];try rfl) (by rfl) (by rw[hP];exact wQ p) (by rfl) (ub:=tyN) (by rw[hP];exact ty91) (by simp only[hT,ji];omega) [3,4,5] (by rfl) (by simp only[hT,ji];try rfl) (fun(k:Nat) (z:Rat)=>(⟨[(3,.l (.z (.ptr tyN) x)),(4,.l (.ownP 4 0)),(5,.l (.ownP 5 0))],[(4,.box 91 [.z .bool false,.val (.slice none 0 0),.z .bool false,.val (.slice none 0 0)]),(5,.box 91 [.z .bool (bp z).1.1,.z (.slice (.int .u32)) (bp z).1.2,.z .bool (bp z).2.1,.z (.slice (.int .u32)) (bp z).2.2])]⟩:aa)) (fun(k:Nat) (z:Rat)=>z=au ((ay p).drop (p.length-k)) (bH x)) 0 ?_ ?_ ?_ ?_ ?_);·simp only[ml0,ml1,Nat.reduceLT,Nat.reduceEqDiff,Nat.reduceAdd,Nat.reduceMul,Nat.reduceSub,Nat.reduceLeDiff,Nat.reduceBEq,Nat.reduceBNe,reduceIte,reduceDIte,reduceCtorEq]
 ·exact Dw p (bH x)
 ·intro k z;rfl
 ·intro k hk;rintro v hz;try dsimp only at hz
  have hk:k<p.length:=by simpa [b5] using hk
  have hg:=AR hC.1 (AU hk);have hv:=JA hC hk hz;refine⟨_,_,_,by simp only[hT,ji,b5,kM,mx0,mx1,mx2,mx3,mx4,mx5,mx6,mT,effOp,endCall,callOp,appendOp,sliceLV,Ty.fieldTy,Ty.fieldOf,Nat.reduceLT,Nat.reduceEqDiff,Nat.reduceAdd,Nat.reduceMul,Nat.reduceSub,Nat.reduceLeDiff,Nat.reduceBEq,Nat.reduceBNe,reduceIte,reduceDIte,reduceCtorEq,List.getElem_map,List.getElem_range];rfl,by simp only[mx0,mx1,mx2,mx3,mx4,mx5,mx6,mT,effOp,endCall,callOp,appendOp,sliceLV,Ty.fieldTy,Ty.fieldOf,Nat.reduceLT,Nat.reduceEqDiff,Nat.reduceAdd,Nat.reduceMul,Nat.reduceSub,Nat.reduceLeDiff,Nat.reduceBEq,Nat.reduceBNe,reduceIte,reduceDIte,reduceCtorEq];rfl,by rfl,by simp only[mx0,mx1,mx2,mx3,mx4,mx5,mx6,mT,effOp,endCall,callOp,appendOp,sliceLV,Ty.fieldTy,Ty.fieldOf,Nat.reduceLT,Nat.reduceEqDiff,Nat.reduceAdd,Nat.reduceMul,Nat.reduceSub,Nat.reduceLeDiff,Nat.reduceBEq,Nat.reduceBNe,reduceIte,reduceDIte,reduceCtorEq]<;>rfl,by simp only[hT,ji,b5,kM,mx0,mx1,mx2,mx3,mx4,mx5,mx6,mT,effOp,endCall,callOp,appendOp,sliceLV,Ty.fieldTy,Ty.fieldOf,Nat.reduceLT,Nat.reduceEqDiff,Nat.reduceAdd,Nat.reduceMul,Nat.reduceSub,Nat.reduceLeDiff,Nat.reduceBEq,Nat.reduceBNe,reduceIte,reduceDIte,reduceCtorEq,List.getElem_map,List.getElem_range];rfl,?_⟩;intro X' hP' hT';have hG':bx X'.P X'.T:=by rw[hP',hT'];exact hG.keep _
  rw[hT] at hT';refine al (Fc hG' ?_ ?_)
  ·(try simp only[ba]);simp only[pe2,hg,aP];exact hv
  refine aD ?_;show ∃z,_;simp only[ml0,ml1,Nat.reduceLT,Nat.reduceEqDiff,Nat.reduceAdd,Nat.reduceMul,Nat.reduceSub,Nat.reduceLeDiff,Nat.reduceBEq,Nat.reduceBNe,reduceIte,reduceDIte,reduceCtorEq];simp only[pe2,hg,aP];exact⟨_,rfl,rfl,rfl,rfl,by rw[hz,Dx hk]⟩
 ·rintro v hz;try dsimp only at hz
  rw[Nm] at hz;refine aD (af (s_g hG ?_));refine av (q_e [] ?_);rw[hz]
def sr(B:aq):Tab:={types:=[(3,(.int .i64)),(79,tyP),(91,tyN)],elems:=[(79,91)],cons:=[(58,pV),(82,lQ),(107,B5)],hint:=[26],N:=31,base:=B}
theorem B8{B:aq}(hB:aN B):bx prog (sr B):=⟨⟨tc ty3 (tc gF (tc ty91 ab)),aK (by kernel_rfl) ae,by simp only[sr,ioB];omega⟩,aC (cc func58 (nC hB) (cc func82 (jR hB) (cc func107 (xI hB) ax))),by kernel_rfl⟩
def PS:Con:=fun l os=>match l,os with
 | [.z (.slice (.st (.pair (.st (.pair .bool (.slice (.int .u32)))) (.st (.pair .bool (.slice (.int .u32))))))) p,.z (.slice (.st (.pair (.st (.pair .bool (.slice (.int .u32)))) (.st (.pair .bool (.slice (.int .u32))))))) q,.val (.func (.func g) fs cs)],[]=>some ((g=58/\fs.size=0/\cs.size=0)/\Sz QH p/\Sz QH q/\p.length<=1000/\q.length<=1000,[.z tyP (aH (br (· + ·) (ay p) (ay q)))],[])
 |_,_=>none
theorem KP{B:aq}(hB:aN B):Valid B prog 57 PS:=by
 refine aW (B8 hB).tab func57 rfl rfl rfl ?_;intro args os C rs os' hc hC;unfold PS at hc;split at hc;case h_2=>cases hc
 rename_i p q g fs cs;cases hc;refine v_h (B8 hB) fun X hP hT hr hG=>?_;have hU:=sr.eq_1;unfold sr at hT;have hX:=ai @cx<|ai @B5.eq_1<|ai @pV.eq_1<| @lQ.eq_1;simp only[f57,az,aj,ioB];obtain⟨⟨rfl,e1,e2⟩,hp,hq,hl1,hl2⟩:=hC;obtain rfl:=Array.eq_empty_of_size_eq_zero e1;obtain rfl:=Array.eq_empty_of_size_eq_zero e2;have hl1:p.length<=1000:=hl1;have hl2:q.length<=1000:=hl2;refine s_g hG ?_;refine s_g hG ?_;refine ag (s_g hG ?_);refine al (aY (fun(z:Nat)=>(⟨[(0,.l (.z tyP p)),(1,.l (.z tyP q)),(2,.l (.val (.func (.func 58) #[] #[]))),(7,.l (.ownS 27)),(13,.l (.z (.int .i64) ((max p.length q.length:Nat):Int))),(14,.l (.z (.int .i64) (z:Int)))],[(27,.arr tyN 91 (aH (bS (· + ·) (ay p) (ay q) z)))]⟩:aa)) (fun z=>z<=max p.length q.length) (fun z=>max p.length q.length-z) 0 ?_ ?_ ?_);·refine q_l ?_;exact⟨FJ p q trivial,rfl,by unfold ioB;omega,rfl⟩
 ·omega
 ·rintro k g1;try dsimp only at g1
  refine s_g hG ?_;refine ag (aS ?_ ?_)
  ·intro hb0;(try simp only[bt] at hb0);refine ak (af (ag (al (s_g hG ?_))));refine bd hG ?_ ?_
   ·(try simp only[ba]);exact wJ hp hq (by omega) _
   (refine aD (af (bd hG ?_ ?_));·exact tt);refine qm ?_;exact uj (op:=(· + ·)) (by omega) (by omega)
  ·intro hb0;(try simp only[bf] at hb0);refine aT (aA (ao (an (af (s_q hG ?_ ?_)))))
   ·(try simp only[ba]);exact uk AK hp hq (by omega)
   refine av (q_e [] ?_);exact AM g1 hb0
def ss(B:aq):Tab:={types:=[(3,(.int .i64)),(79,tyP),(91,tyN)],elems:=[(79,91)],cons:=[(60,gU),(82,lQ),(107,B5)],hint:=[26],N:=31,base:=B}
theorem B9{B:aq}(hB:aN B):bx prog (ss B):=⟨⟨tc ty3 (tc gF (tc ty91 ab)),aK (by kernel_rfl) ae,by simp only[ss,ioB];omega⟩,aC (cc func60 (xB hB) (cc func82 (jR hB) (cc func107 (xI hB) ax))),by kernel_rfl⟩
def PT:Con:=fun l os=>match l,os with
 | [.z (.slice (.st (.pair (.st (.pair .bool (.slice (.int .u32)))) (.st (.pair .bool (.slice (.int .u32))))))) p,.z (.slice (.st (.pair (.st (.pair .bool (.slice (.int .u32)))) (.st (.pair .bool (.slice (.int .u32))))))) q,.val (.func (.func g) fs cs)],[]=>some ((g=60/\fs.size=0/\cs.size=0)/\Sz QH p/\Sz QH q/\p.length<=1000/\q.length<=1000,[.z tyP (aH (br (· - ·) (ay p) (ay q)))],[])
 |_,_=>none
theorem KQ{B:aq}(hB:aN B):Valid B prog 57 PT:=by
 refine aW (B9 hB).tab func57 rfl rfl rfl ?_;intro args os C rs os' hc hC;unfold PT at hc;split at hc;case h_2=>cases hc
 rename_i p q g fs cs;cases hc;refine v_h (B9 hB) fun X hP hT hr hG=>?_;have hU:=ss.eq_1;unfold ss at hT;have hX:=ai @cx<|ai @B5.eq_1<|ai @gU.eq_1<| @lQ.eq_1;simp only[f57,az,aj,ioB];obtain⟨⟨rfl,e1,e2⟩,hp,hq,hl1,hl2⟩:=hC;obtain rfl:=Array.eq_empty_of_size_eq_zero e1;obtain rfl:=Array.eq_empty_of_size_eq_zero e2;have hl1:p.length<=1000:=hl1;have hl2:q.length<=1000:=hl2;refine s_g hG ?_;refine s_g hG ?_;refine ag (s_g hG ?_);refine al (aY (fun(z:Nat)=>(⟨[(0,.l (.z tyP p)),(1,.l (.z tyP q)),(2,.l (.val (.func (.func 60) #[] #[]))),(7,.l (.ownS 27)),(13,.l (.z (.int .i64) ((max p.length q.length:Nat):Int))),(14,.l (.z (.int .i64) (z:Int)))],[(27,.arr tyN 91 (aH (bS (· - ·) (ay p) (ay q) z)))]⟩:aa)) (fun z=>z<=max p.length q.length) (fun z=>max p.length q.length-z) 0 ?_ ?_ ?_);·refine q_l ?_;exact⟨FJ p q trivial,rfl,by unfold ioB;omega,rfl⟩
 ·omega
 ·rintro k g1;try dsimp only at g1
  refine s_g hG ?_;refine ag (aS ?_ ?_)
  ·intro hb0;(try simp only[bt] at hb0);refine ak (af (ag (al (s_g hG ?_))));refine bd hG ?_ ?_
   ·(try simp only[ba]);exact wJ hp hq (by omega) _
   (refine aD (af (bd hG ?_ ?_));·exact tt);refine qm ?_;exact uj (op:=(· - ·)) (by omega) (by omega)
  ·intro hb0;(try simp only[bf] at hb0);refine aT (aA (ao (an (af (s_q hG ?_ ?_)))))
   ·(try simp only[ba]);exact uk AL hp hq (by omega)
   refine av (q_e [] ?_);exact AM g1 hb0
def rP:Con:=fun l os=>match l,os with
 | [.z (.slice (.st (.pair (.st (.pair .bool (.slice (.int .u32)))) (.st (.pair .bool (.slice (.int .u32))))))) p,.z (.slice (.st (.pair (.st (.pair .bool (.slice (.int .u32)))) (.st (.pair .bool (.slice (.int .u32))))))) q,.val (.func (.func g) fs cs)],[]=>some (((g=58∨g=60)/\fs.size=0/\cs.size=0)/\Sz QH p/\Sz QH q/\p.length<=1000/\q.length<=1000,[.z tyP (aH (br (if g=58 then (· + ·) else (· - ·)) (ay p) (ay q)))],[])
 |_,_=>none
theorem oL{B:aq}(hB:aN B):Valid B prog 57 rP:=by
 intro args os C rs os' hc hC;unfold rP at hc;split at hc
 ·cases hc;obtain⟨⟨rfl|rfl,e1,e2⟩,h3⟩:=hC;·exact KP hB _ _ _ _ _ rfl ⟨⟨rfl,e1,e2⟩,h3⟩
  ·exact KQ hB _ _ _ _ _ rfl ⟨⟨rfl,e1,e2⟩,h3⟩
 ·cases hc
def su(B:aq):Tab:={types:=[(79,tyP),(84,.func),(91,tyN)],elems:=[(79,91)],cons:=[(57,rP),(61,vo),(82,lQ)],hint:=[],N:=11,base:=B}
theorem Ca{B:aq}(hB:aN B):bx prog (su B):=⟨⟨tc gF (tc Ui (tc ty91 ab)),aK (by kernel_rfl) ae,by simp only[su,ioB];omega⟩,aC (cc func57 (oL hB) (cc func61 (xJ hB) (cc func82 (jR hB) ax))),by kernel_rfl⟩
def Hw:Con:=fun l os=>match l,os with
 | [.z (.st (.pair (.st (.pair .bool (.slice (.int .u32)))) (.st (.pair .bool (.slice (.int .u32)))))) c,.ownP 10000000 0,.z (.ptr (.slice (.st (.pair (.st (.pair .bool (.slice (.int .u32)))) (.st (.pair .bool (.slice (.int .u32)))))))) b],[.box 79 [.z (.slice (.st (.pair (.st (.pair .bool (.slice (.int .u32)))) (.st (.pair .bool (.slice (.int .u32))))))) s]]=>some (Dy s b c,[],[.box 79 [.z tyP (aH (kN (ay s) (ay b) (bH c)))]])
 |_,_=>none
theorem KR{B:aq}(hB:aN B):Valid B prog 81 Hw:=by
 refine aW (Ca hB).tab func81 rfl rfl rfl ?_;intro args os C rs os' hc hC;unfold Hw at hc;split at hc;case h_2=>cases hc
 rename_i c b s;cases hc;refine v_h (Ca hB) fun X hP hT hr hG=>?_;have hU:=su.eq_1;unfold su at hT;have hX:=ai @cx<|ai @vo.eq_1<|ai @lQ.eq_1<| @rP.eq_1;simp only[f81,az,aj,ioB];refine s_g hG ?_;refine yj hG ?_ ?_
 ·try simp only[ba]
  obtain⟨q1,q2,q3,q4,q5,q6⟩:=JB hC;exact⟨q1,⟨q2.1,by unfold QL;omega⟩,Or.inl trivial,q3,q4,q5,q6⟩
 refine q_e [] ?_;simp only[aI];rfl
def jk(B:aq):Tab:={types:=[(79,tyP),(91,tyN),(109,.func)],elems:=[],cons:=[(81,Hw),(83,vr)],hint:=[],N:=18,base:=B}
theorem Cb{B:aq}(hB:aN B):bx prog (jk B):=⟨⟨tc gF (tc ty91 (tc U9 ab)),ae,by simp only[jk,ioB];omega⟩,aC (cc func81 (KR hB) (cc func83 (xP hB) ax)),by kernel_rfl⟩
def vu:Con:=c2 tyP tyP (fun p b=>yD p b) (fun p b=>[.z tyP (aH (fH (ay p) (ay b)))])
theorem KS{B:aq}(hB:aN B):Valid B prog 80 vu:=by
 refine aW (Cb hB).tab func80 rfl rfl rfl ?_;intro args os C rs os' hc hC;obtain⟨p,b,rfl,rfl,rfl,rfl,rfl⟩:=qz hc;refine v_h (Cb hB) fun X hP hT hr hG=>?_;have hU:=jk.eq_1;unfold jk at hT;have hX:=ai @cx<|ai @Hw.eq_1<| @vr.eq_1;simp only[f80,az,aj,ioB];refine s_g hG ?_;refine s_g hG ?_;refine s_g hG ?_;refine ag (s_g hG ?_);refine al (xO hr (gf:=125) (caps:=[.z (.ptr tyP) p]) (items:=b5 p) (by simp only[hT,jk,mx0,mx1,mx2,mx3,mx4,mx5,mx6,mT,effOp,endCall,callOp,appendOp,sliceLV,Ty.fieldTy,Ty.fieldOf,Nat.reduceLT,Nat.reduceEqDiff,Nat.reduceAdd,Nat.reduceMul,Nat.reduceSub,Nat.reduceLeDiff,Nat.reduceBEq,Nat.reduceBNe,reduceIte,reduceDIte,reduceCtorEq];try rfl) (by rfl) (by rw[hP];exact wQ p) (by rfl) (ub:=tyN) (by rw[hP];exact ty91) (by simp only[hT,jk];omega) [3,5,6] (by rfl) (by simp only[hT,jk];try rfl) (fun(k:Nat) (z:Unit)=>(⟨[(3,.l (.z (.ptr tyP) b)),(5,.l (.ownP 5 0)),(6,.l (.ownP 6 0))],[(5,.box 79 [.z tyP (aH (cV (ay p) (ay b) k))]),(6,.box 109 [.fn 81 [.p 5,.z (.ptr tyP) b]])]⟩:aa)) (fun(k:Nat) (z:Unit)=>True) () ?_ ?_ ?_ ?_ ?_);·simp only[ml0,ml1,Nat.reduceLT,Nat.reduceEqDiff,Nat.reduceAdd,Nat.reduceMul,Nat.reduceSub,Nat.reduceLeDiff,Nat.reduceBEq,Nat.reduceBNe,reduceIte,reduceDIte,reduceCtorEq];simp only[gm];rfl
 ·trivial
 ·intro k z;rfl
 ·intro k hk;rintro⟨⟩-;have hk:k<p.length:=by simpa [b5] using hk
  have hg:=AR hC.1 (AU hk);refine⟨_,_,_,by simp only[hT,jk,b5,kM,mx0,mx1,mx2,mx3,mx4,mx5,mx6,mT,effOp,endCall,callOp,appendOp,sliceLV,Ty.fieldTy,Ty.fieldOf,Nat.reduceLT,Nat.reduceEqDiff,Nat.reduceAdd,Nat.reduceMul,Nat.reduceSub,Nat.reduceLeDiff,Nat.reduceBEq,Nat.reduceBNe,reduceIte,reduceDIte,reduceCtorEq,List.getElem_map,List.getElem_range];rfl,by simp only[mx0,mx1,mx2,mx3,mx4,mx5,mx6,mT,effOp,endCall,callOp,appendOp,sliceLV,Ty.fieldTy,Ty.fieldOf,Nat.reduceLT,Nat.reduceEqDiff,Nat.reduceAdd,Nat.reduceMul,Nat.reduceSub,Nat.reduceLeDiff,Nat.reduceBEq,Nat.reduceBNe,reduceIte,reduceDIte,reduceCtorEq];rfl,by rfl,by simp only[mx0,mx1,mx2,mx3,mx4,mx5,mx6,mT,effOp,endCall,callOp,appendOp,sliceLV,Ty.fieldTy,Ty.fieldOf,Nat.reduceLT,Nat.reduceEqDiff,Nat.reduceAdd,Nat.reduceMul,Nat.reduceSub,Nat.reduceLeDiff,Nat.reduceBEq,Nat.reduceBNe,reduceIte,reduceDIte,reduceCtorEq]<;>rfl,by simp only[hT,jk,b5,kM,mx0,mx1,mx2,mx3,mx4,mx5,mx6,mT,effOp,endCall,callOp,appendOp,sliceLV,Ty.fieldTy,Ty.fieldOf,Nat.reduceLT,Nat.reduceEqDiff,Nat.reduceAdd,Nat.reduceMul,Nat.reduceSub,Nat.reduceLeDiff,Nat.reduceBEq,Nat.reduceBNe,reduceIte,reduceDIte,reduceCtorEq,List.getElem_map,List.getElem_range];rfl,?_⟩;intro X' hP' hT';have hG':bx X'.P X'.T:=by rw[hP',hT'];exact hG.keep _
  rw[hT] at hT';refine al (qq hG' ?_ ?_)
  ·(try simp only[ba]);simp only[pe2,hg];exact hC.2.2 k hk
  refine aD ?_;show ∃z,_;simp only[ml0,ml1,Nat.reduceLT,Nat.reduceEqDiff,Nat.reduceAdd,Nat.reduceMul,Nat.reduceSub,Nat.reduceLeDiff,Nat.reduceBEq,Nat.reduceBNe,reduceIte,reduceDIte,reduceCtorEq];simp only[pe2,hg,aI,aP,cV,aL]
 ·rintro⟨⟩-;rw[show (b5 p).length=p.length by simp[b5]];refine aD (af (s_g hG ?_));refine av (q_e [] ?_);rw[fH,aL]
def Hx(B:aq):Tab:=mT B [(3,(.int .i64)),(22,(.slice .str)),(31,(.int .i64)),(46,.str)] [] [(87,pW),(106,PO)] [] 33
def vv:Con:=c1 (.slice .str) (fun p=>de p) (fun p=>[.z tyP (aH (bj p)),.z (.int .i64) (bG p)])
theorem xQ{B:aq}(hB:aN B):Valid B prog 54 vv:=by
 refine v1 (mg (T:=Hx B) (tc ty3 (tc dM (tc kK (tc gj ab)))) ae (aC (cc func87 (xG hB) (cc func106 (KI hB) ax)))) func54 ?_;intro p hC X hP hT hr hG;have hX:=ai Hx.eq_1<|ai cx<|ai pW.eq_1<|PO.eq_1;simp only[f54,az,aj,ioB];have hl:p.length<1000000000+1:=by have:=hC.1;unfold QL at this;omega
 refine sg ?_;refine ag (sg ?_);refine qc ?_ ?_
 ·intro hb0;have hl41:41<p.length:=by have h9:(41:Int)<(p.length:Int):=hb0;omega
  refine sg ?_;refine av (aw (qe [] ?_));exact uI (DE hl41)
 ·intro hb0;have hl41:p.length<=41:=by have h9:¬(41:Int)<(p.length:Int):=hb0;omega
  refine ak (af (ag (sg ?_)));refine al (aY (fun(z:Nat)=>(⟨[(0,.l (.z (.slice .str) p)),(2,.l (.val (.slice none 0 0))),(3,.l (.z (.int .i64) 0)),(9,.l (.z (.slice .str) p)),(10,.l (.z (.int .i64) (p.length:Int))),(11,.l (.z (.int .i64) (z:Int)))],[]⟩:aa)) (fun z=>z<=p.length/\(p.take z).all (fun q=>decide (ck q=0))=true) (fun z=>p.length-z) 0 ?_ ?_ ?_);·refine q_l ?_;rfl
  ·exact⟨by omega,rfl⟩
  ·rintro k ⟨g1,g2⟩;(try dsimp only at g1 g2);refine sg ?_;refine ag (qc ?_ ?_)
   ·(intro hb1;(have hk:k<p.length:=by have h9:(k:Int)<(p.length:Int):=hb1;omega);refine ak (af (ag (al (sq ?_ ?_))));·exact⟨by omega,hb1⟩);(refine sq ?_ ?_;·exact hC.2 _ (eN (t:= .str) hk));refine qc ?_ ?_;·intro hb2;refine sg ?_;refine av (bk (aw (dc (bk (aw (qe [] ?_))))));exact uI (JD hk hl41 hb2)
    ·intro hb2;refine ak (aD (af (rg ?_)));refine qm ?_;exact⟨k+1,wo,hk,uG hk g2 hb2,by omega⟩
   ·(intro hb1;(have hk:k=p.length:=by have h9:¬(k:Int)<(p.length:Int):=hb1;omega);subst hk;rw[List.take_length] at g2;refine aT (aA (ao (an (af (ag (sq ?_ ?_))))));·exact DD hl41);refine qc ?_ ?_;·intro hb3;refine sg ?_;refine av (aw (qe [] ?_));exact uI (DF hl41 g2 hb3)
    ·(intro hb3;refine ak (af (sq ?_ ?_));·exact⟨by unfold QL;omega,(uH hC g2).1⟩);refine av (qe [] ?_);exact Nu hC hl41 g2 hb3
def Hy(B:aq):Tab:=mT B [(3,(.int .i64)),(22,(.slice .str)),(31,(.int .i64)),(44,(.slice (.slice .str))),(98,(.slice tyP))] [(98,79)] [(54,vv)] [] 29
def gW:Con:=c1 (.slice (.slice .str)) (fun l=>l.length<=1000/\∀p∈l,de p) (fun l=>[.z (.slice tyP) (i6 l),.z (.int .i64) (bT l)])
theorem fz{B:aq}(hB:aN B):Valid B prog 67 gW:=by
 refine v1 (mg (T:=Hy B) (tc ty3 (tc dM (tc kK (tc rR (tc vO ab))))) (aK (by kernel_rfl) ae) (aC (cc func54 (xQ hB) ax))) func67 ?_;intro l hC X hP hT hr hG;have hX:=ai Hy.eq_1<|ai cx<|vv.eq_1;simp only[f67,az,aj,ioB];have hl:l.length<=1000:=hC.1;refine sg ?_;refine E9 (sg ?_);refine sg ?_;refine ag (E8 (af (ag (sg ?_))));refine al (aY (fun(z:Option (Nat))=>match z with|none=>((⟨[(0,.l (.z (.slice (.slice .str)) l)),(2,.l (.val (.slice none 0 0))),(3,.l (.z (.int .i64) 0)),(4,.l (.val (.slice none 0 0))),(5,.l (.z (.int .i64) 0)),(9,.l (.z (.slice (.slice .str)) l)),(10,.l (.z (.int .i64) (l.length:Int))),(11,.l (.z (.int .i64) 0))],[]⟩:aa))|some z=>((⟨[(0,.l (.z (.slice (.slice .str)) l)),(2,.l (.val (.slice none 0 0))),(3,.l (.z (.int .i64) 0)),(4,.l (.ownS 25)),(5,.l (.z (.int .i64) 0)),(9,.l (.z (.slice (.slice .str)) l)),(10,.l (.z (.int .i64) (l.length:Int))),(11,.l (.z (.int .i64) (z:Int)))],[(25,.arr tyP 79 ((l.take z).map fun p=>aH (bj p)))]⟩:aa))) (fun(z:Option (Nat))=>match z with|none=>(True)|some z=>(1<=z/\z<=l.length/\(l.take z).all (fun p=>decide (bG p=0))=true)) (fun(z:Option (Nat))=>match z with|none=>(l.length+1)|some z=>(l.length-z)) none ?_ ?_ ?_);·simp only[ml0,ml1,Nat.reduceLT,Nat.reduceEqDiff,Nat.reduceAdd,Nat.reduceMul,Nat.reduceSub,Nat.reduceLeDiff,Nat.reduceBEq,Nat.reduceBNe,reduceIte,reduceDIte,reduceCtorEq]
 ·trivial
 ·rintro(_|k) hz_
  ·obtain⟨k,ek⟩:∃k:Nat,k=0:=⟨0,rfl⟩;(have e0:(k:Int)=0:=by rw[ek];rfl);refine sg ?_;refine ag (qc ?_ ?_)
   ·(intro hb0;(have hk:k<l.length:=by first|(have h9:(k:Int)<(l.length:Int):=hb0;omega)|(have h9:(0:Int)<(l.length:Int):=hb0;omega));refine ak (af (ag (al (sq ?_ ?_))));·exact⟨by omega,hb0⟩);(refine sg ?_;refine ag (sq ?_ ?_);·first|exact hC.2 _ (eN (t:= .slice .str) hk)|(subst ek;exact hC.2 _ (eN (t:= .slice .str) (k:=0) hk)));refine sg ?_;refine qc ?_ ?_;·intro hb1;refine sg ?_;refine aT (aA (ka rfl ?_));refine aA (ao (an (af (sg ?_))));refine av (iH (qe [] ?_));subst ek;exact JF hk hb1
    ·intro hb1;refine ak (af (rq ?_ ?_))
     ·(unfold Cm.Roomy;try simp only[List.length_map,List.length_take]);omega
     refine aD (af (rg ?_));refine⟨some (1),?_⟩;simp only[ml0,ml1,Nat.reduceLT,Nat.reduceEqDiff,Nat.reduceAdd,Nat.reduceMul,Nat.reduceSub,Nat.reduceLeDiff,Nat.reduceBEq,Nat.reduceBNe,reduceIte,reduceDIte,reduceCtorEq];subst ek;exact⟨hb1,A2 hl hk hb1⟩
   ·intro hb0;(have hk:¬k<l.length:=by intro h9;first|exact hb0 (show (k:Int)<(l.length:Int) by omega)|exact hb0 (show (0:Int)<(l.length:Int) by omega));refine aT (aA (ao (an (af (sg ?_)))));refine av (iH (qe [] ?_));subst ek;exact JG hk
  ·obtain⟨g0,g1,g2⟩:=hz_;(try dsimp only at g0 g1 g2);refine sg ?_;refine ag (qc ?_ ?_)
   ·(intro hb0;(have hk:k<l.length:=by first|(have h9:(k:Int)<(l.length:Int):=hb0;omega)|(have h9:(0:Int)<(l.length:Int):=hb0;omega));refine ak (af (ag (al (sq ?_ ?_))));·exact⟨by omega,hb0⟩);(refine sg ?_;refine ag (sq ?_ ?_);·first|exact hC.2 _ (eN (t:= .slice .str) hk)|(subst ek;exact hC.2 _ (eN (t:= .slice .str) (k:=0) hk)));refine sg ?_;refine qc ?_ ?_;·intro hb1;refine sg ?_;refine aT (aA (ka rfl ?_));refine aA (ao (an (af (sg ?_))));refine av (iH (qe [] ?_));exact A1 hk g2 hb1
    ·intro hb1;refine ak (af (rq ?_ ?_))
     ·(unfold Cm.Roomy;try simp only[List.length_map,List.length_take]);omega
     refine aD (af (rg ?_));refine⟨some (k+1),?_⟩;simp only[ml0,ml1,Nat.reduceLT,Nat.reduceEqDiff,Nat.reduceAdd,Nat.reduceMul,Nat.reduceSub,Nat.reduceLeDiff,Nat.reduceBEq,Nat.reduceBNe,reduceIte,reduceDIte,reduceCtorEq];have hr:=uJ hl hk g2 hb1;exact⟨hb1,hr⟩
   ·intro hb0;(have hk:¬k<l.length:=by intro h9;first|exact hb0 (show (k:Int)<(l.length:Int) by omega)|exact hb0 (show (0:Int)<(l.length:Int) by omega));refine aT (aA (ao (an (af (sg ?_)))));refine av (iH (qe [25] ?_));rw[List.take_of_length_le (by omega)] at g2 ⊢;exact Nw g2
def Hz(B:aq):Tab:=mT B [(3,(.int .i64)),(78,tyP),(79,tyP)] [] [(82,lQ),(88,vn)] [] 19
def fo:Con:=c1 tyP (fun p=>Sz QC p/\p.length<=QL) (fun p=>[.z (.slice .str) (gY (aM (ay p))),.z (.int .i64) (cz (aM (ay p)))])
theorem gi{B:aq}(hB:aN B):Valid B prog 69 fo:=by
 refine v1 (mg (T:=Hz B) (tc ty3 (tc QF (tc gF ab))) ae (aC (cc func82 (jR hB) (cc func88 (xH hB) ax)))) func69 ?_;intro p hC X hP hT hr hG;have hX:=ai Hz.eq_1<|ai cx<|ai vn.eq_1<|lQ.eq_1;simp only[f69,az,aj,ioB];refine sg ?_;refine sq ?_ ?_;·exact hC
 refine ag (sg ?_);refine qc ?_ ?_
 ·intro hb0;have hl:41<(aM (ay p)).length:=by have h9:(41:Int)<((aH (aM (ay p))).length:Int):=hb0;rw[aE] at h9;omega
  refine sg ?_;refine av (aw (qe [] ?_));exact DG hl
 ·intro hb0;have hl:¬41<(aM (ay p)).length:=by have h9:¬(41:Int)<((aH (aM (ay p))).length:Int):=hb0;rw[aE] at h9;omega
  refine ak (af (sq ?_ ?_));·exact JI hC hl
  refine ag (sg ?_);refine qc ?_ ?_;·intro hb1;refine sg ?_;refine av (aw (qe [] ?_));exact JH hl hb1
  ·intro hb1;refine ak (af (sg ?_));refine av (qe [] ?_);exact Nx hl hb1
def HB(B:aq):Tab:=mT B [(79,tyP),(84,.func)] [] [(57,rP)] [] 8
def PU:Con:=c2 tyP tyP (fun p q=>Sz QH p/\Sz QH q/\p.length<=1000/\q.length<=1000) (fun p q=>[.z tyP (aH (br (· + ·) (ay p) (ay q)))])
theorem KT{B:aq}(hB:aN B):Valid B prog 56 PU:=by
 refine v2 (mg (T:=HB B) (tc gF (tc Ui ab)) ae (aC (cc func57 (oL hB) ax))) func56 ?_;intro p q hC X hP hT hr hG;have hX:=ai HB.eq_1<|ai cx<|rP.eq_1;simp only[f56,az,aj,ioB];refine sg ?_;refine sq ?_ ?_;·exact⟨by simp,hC⟩
 refine av (qe [] ?_);trivial
def HC(B:aq):Tab:=mT B [(79,tyP),(84,.func)] [] [(57,rP)] [] 8
def PV:Con:=c2 tyP tyP (fun p q=>Sz QH p/\Sz QH q/\p.length<=1000/\q.length<=1000) (fun p q=>[.z tyP (aH (br (· - ·) (ay p) (ay q)))])
theorem KU{B:aq}(hB:aN B):Valid B prog 59 PV:=by
 refine v2 (mg (T:=HC B) (tc gF (tc Ui ab)) ae (aC (cc func57 (oL hB) ax))) func59 ?_;intro p q hC X hP hT hr hG;have hX:=ai HC.eq_1<|ai cx<|rP.eq_1;simp only[f59,az,aj,ioB];refine sg ?_;refine sq ?_ ?_;·exact⟨by simp,hC⟩
 refine av (qe [] ?_);trivial
def HD(B:aq):Tab:=mT B [(79,tyP)] [] [(77,mX)] [] 7
def PW:Con:=c2 tyP tyP (fun p q=>Sz QH p/\p.length<=1000) (fun p q=>[.z tyP (aH (bl (ay p)))])
theorem KV{B:aq}(hB:aN B):Valid B prog 76 PW:=by
 refine v2 (mg (T:=HD B) (tc gF ab) ae (aC (cc func77 (xL hB) ax))) func76 ?_;intro p q hC X hP hT hr hG;have hX:=ai HD.eq_1<|ai cx<|mX.eq_1;simp only[f76,az,aj,ioB];refine sg ?_;refine sq ?_ ?_;·exact hC
 refine av (qe [] ?_);trivial
def HE(B:aq):Tab:=mT B [(79,tyP)] [] [(79,y9)] [] 7
def PX:Con:=c2 tyP tyP (fun p q=>mE p) (fun p q=>[.z tyP (aH (bO (ay p)))])
theorem KW{B:aq}(hB:aN B):Valid B prog 78 PX:=by
 refine v2 (mg (T:=HE B) (tc gF ab) ae (aC (cc func79 (KM hB) ax))) func78 ?_;intro p q hC X hP hT hr hG;have hX:=ai HE.eq_1<|ai cx<|y9.eq_1;simp only[f78,az,aj,ioB];refine sg ?_;refine sq ?_ ?_;·exact hC
 refine av (qe [] ?_);trivial
def sv(B:aq):Tab:={types:=[(31,(.int .i64)),(44,(.slice (.slice .str))),(79,tyP),(98,(.slice tyP))],elems:=[(44,22)],cons:=[(56,PU),(67,gW),(69,fo)],hint:=[],N:=31,base:=B}
theorem Cc{B:aq}(hB:aN B):bx prog (sv B):=⟨⟨tc kK (tc rR (tc gF (tc vO ab))),aK (by kernel_rfl) ae,by simp only[sv,ioB];omega⟩,aC (cc func56 (KT hB) (cc func67 (fz hB) (cc func69 (gi hB) ax))),by kernel_rfl⟩
def sw:Con:=fun l os=>match l,os with
 | [.z (.slice .str) p,.z (.slice .str) q,.val (.func (.func g) fs cs)],[]=>some ((g=56/\fs.size=0/\cs.size=0)/\bR (fun p q=>Sz QH p/\Sz QH q/\p.length<=1000/\q.length<=1000) (br (· + ·)) p q,[.z (.slice .str) (cF (br (· + ·)) p q),.z (.int .i64) (cM (br (· + ·)) p q)],[])
 |_,_=>none
theorem KX{B:aq}(hB:aN B):Valid B prog 55 sw:=by
 refine aW (Cc hB).tab func55 rfl rfl rfl ?_;intro args os C rs os' hc hC;unfold sw at hc;split at hc;case h_2=>cases hc
 rename_i p q g fs cs;cases hc;refine v_h (Cc hB) fun X hP hT hr hG=>?_;have hU:=sv.eq_1;unfold sv at hT;have hX:=ai @cx<|ai @PU.eq_1<|ai @gW.eq_1<| @fo.eq_1;simp only[f55,az,aj,ioB];obtain⟨⟨rfl,e1,e2⟩,hp,hq,hD⟩:=hC;obtain rfl:=Array.eq_empty_of_size_eq_zero e1;obtain rfl:=Array.eq_empty_of_size_eq_zero e2;refine s_g hG ?_;refine s_q hG ?_ ?_
 ·try simp only[ba]
  exact(iN hp hq).2
 refine ag (s_g hG ?_);refine aS ?_ ?_
 ·intro hb0;try simp only[bt] at hb0
  refine s_g hG ?_;refine av (aw (q_e [] ?_));exact jI hb0
 ·intro hb0;try simp only[bf] at hb0
  have n0:=ki hb0;have n1:=kj hb0;have nl:=iM hb0;have hE:=hD hb0;refine ak (af (s_d hG ?_ ?_))
  ·(try simp only[ba]);simp only[NT] at n0 n1;simp only[n0,n1,nl,aI];exact⟨by decide,by decide,hE.1,hE.2.1,by rw[aE];exact hE.2.2⟩
  refine av (q_e [] ?_);simp only[NT] at n0 n1;simp only[n0,n1,aI];exact lK (f:=(br (· + ·))) hb0
def sA(B:aq):Tab:={types:=[(31,(.int .i64)),(44,(.slice (.slice .str))),(79,tyP),(98,(.slice tyP))],elems:=[(44,22)],cons:=[(59,PV),(67,gW),(69,fo)],hint:=[],N:=31,base:=B}
theorem Cd{B:aq}(hB:aN B):bx prog (sA B):=⟨⟨tc kK (tc rR (tc gF (tc vO ab))),aK (by kernel_rfl) ae,by simp only[sA,ioB];omega⟩,aC (cc func59 (KU hB) (cc func67 (fz hB) (cc func69 (gi hB) ax))),by kernel_rfl⟩
def sB:Con:=fun l os=>match l,os with
 | [.z (.slice .str) p,.z (.slice .str) q,.val (.func (.func g) fs cs)],[]=>some ((g=59/\fs.size=0/\cs.size=0)/\bR (fun p q=>Sz QH p/\Sz QH q/\p.length<=1000/\q.length<=1000) (br (· - ·)) p q,[.z (.slice .str) (cF (br (· - ·)) p q),.z (.int .i64) (cM (br (· - ·)) p q)],[])
 |_,_=>none
theorem KY{B:aq}(hB:aN B):Valid B prog 55 sB:=by
 refine aW (Cd hB).tab func55 rfl rfl rfl ?_;intro args os C rs os' hc hC;unfold sB at hc;split at hc;case h_2=>cases hc
 rename_i p q g fs cs;cases hc;refine v_h (Cd hB) fun X hP hT hr hG=>?_;have hU:=sA.eq_1;unfold sA at hT;have hX:=ai @cx<|ai @gW.eq_1<|ai @PV.eq_1<| @fo.eq_1;simp only[f55,az,aj,ioB];obtain⟨⟨rfl,e1,e2⟩,hp,hq,hD⟩:=hC;obtain rfl:=Array.eq_empty_of_size_eq_zero e1;obtain rfl:=Array.eq_empty_of_size_eq_zero e2;refine s_g hG ?_;refine s_q hG ?_ ?_
 ·try simp only[ba]
  exact(iN hp hq).2
 refine ag (s_g hG ?_);refine aS ?_ ?_
 ·intro hb0;try simp only[bt] at hb0
  refine s_g hG ?_;refine av (aw (q_e [] ?_));exact jI hb0
 ·intro hb0;try simp only[bf] at hb0
  have n0:=ki hb0;have n1:=kj hb0;have nl:=iM hb0;have hE:=hD hb0;refine ak (af (s_d hG ?_ ?_))
  ·(try simp only[ba]);simp only[NT] at n0 n1;simp only[n0,n1,nl,aI];exact⟨by decide,by decide,hE.1,hE.2.1,by rw[aE];exact hE.2.2⟩
  refine av (q_e [] ?_);simp only[NT] at n0 n1;simp only[n0,n1,aI];exact lK (f:=(br (· - ·))) hb0
def sC(B:aq):Tab:={types:=[(31,(.int .i64)),(44,(.slice (.slice .str))),(79,tyP),(98,(.slice tyP))],elems:=[(44,22)],cons:=[(61,vo),(67,gW),(69,fo)],hint:=[],N:=31,base:=B}
theorem Ce{B:aq}(hB:aN B):bx prog (sC B):=⟨⟨tc kK (tc rR (tc gF (tc vO ab))),aK (by kernel_rfl) ae,by simp only[sC,ioB];omega⟩,aC (cc func61 (xJ hB) (cc func67 (fz hB) (cc func69 (gi hB) ax))),by kernel_rfl⟩
def sD:Con:=fun l os=>match l,os with
 | [.z (.slice .str) p,.z (.slice .str) q,.val (.func (.func g) fs cs)],[]=>some ((g=61/\fs.size=0/\cs.size=0)/\bR (fun p q=>Sz QM p/\Sz QM q/\p.length<=100/\q.length<=100) cB p q,[.z (.slice .str) (cF cB p q),.z (.int .i64) (cM cB p q)],[])
 |_,_=>none
theorem KZ{B:aq}(hB:aN B):Valid B prog 55 sD:=by
 refine aW (Ce hB).tab func55 rfl rfl rfl ?_;intro args os C rs os' hc hC;unfold sD at hc;split at hc;case h_2=>cases hc
 rename_i p q g fs cs;cases hc;refine v_h (Ce hB) fun X hP hT hr hG=>?_;have hU:=sC.eq_1;unfold sC at hT;have hX:=ai @cx<|ai @gW.eq_1<|ai @vo.eq_1<| @fo.eq_1;simp only[f55,az,aj,ioB];obtain⟨⟨rfl,e1,e2⟩,hp,hq,hD⟩:=hC;obtain rfl:=Array.eq_empty_of_size_eq_zero e1;obtain rfl:=Array.eq_empty_of_size_eq_zero e2;refine s_g hG ?_;refine s_q hG ?_ ?_
 ·try simp only[ba]
  exact(iN hp hq).2
 refine ag (s_g hG ?_);refine aS ?_ ?_
 ·intro hb0;try simp only[bt] at hb0
  refine s_g hG ?_;refine av (aw (q_e [] ?_));exact jI hb0
 ·intro hb0;try simp only[bf] at hb0
  have n0:=ki hb0;have n1:=kj hb0;have nl:=iM hb0;have hE:=hD hb0;refine ak (af (s_d hG ?_ ?_))
  ·(try simp only[ba]);simp only[NT] at n0 n1;simp only[n0,n1,nl,aI];exact⟨by decide,by decide,hE.1,hE.2.1,by rw[aE];exact hE.2.2⟩
  refine av (q_e [] ?_);simp only[NT] at n0 n1;simp only[n0,n1,aI];exact lK (f:=cB) hb0
def sE(B:aq):Tab:={types:=[(31,(.int .i64)),(44,(.slice (.slice .str))),(79,tyP),(98,(.slice tyP))],elems:=[(44,22)],cons:=[(67,gW),(69,fo),(70,pY)],hint:=[],N:=31,base:=B}
theorem Cf{B:aq}(hB:aN B):bx prog (sE B):=⟨⟨tc kK (tc rR (tc gF (tc vO ab))),aK (by kernel_rfl) ae,by simp only[sE,ioB];omega⟩,aC (cc func67 (fz hB) (cc func69 (gi hB) (cc func70 (xM hB) ax))),by kernel_rfl⟩
def sF:Con:=fun l os=>match l,os with
 | [.z (.slice .str) p,.z (.slice .str) q,.val (.func (.func g) fs cs)],[]=>some ((g=70/\fs.size=0/\cs.size=0)/\bR (kg) cd p q,[.z (.slice .str) (cF cd p q),.z (.int .i64) (cM cd p q)],[])
 |_,_=>none
theorem K0{B:aq}(hB:aN B):Valid B prog 55 sF:=by
 refine aW (Cf hB).tab func55 rfl rfl rfl ?_;intro args os C rs os' hc hC;unfold sF at hc;split at hc;case h_2=>cases hc
 rename_i p q g fs cs;cases hc;refine v_h (Cf hB) fun X hP hT hr hG=>?_;have hU:=sE.eq_1;unfold sE at hT;have hX:=ai @cx<|ai @gW.eq_1<|ai @pY.eq_1<| @fo.eq_1;simp only[f55,az,aj,ioB];obtain⟨⟨rfl,e1,e2⟩,hp,hq,hD⟩:=hC;obtain rfl:=Array.eq_empty_of_size_eq_zero e1;obtain rfl:=Array.eq_empty_of_size_eq_zero e2;refine s_g hG ?_;refine s_q hG ?_ ?_
 ·try simp only[ba]
  exact(iN hp hq).2
 refine ag (s_g hG ?_);refine aS ?_ ?_
 ·intro hb0;try simp only[bt] at hb0
  refine s_g hG ?_;refine av (aw (q_e [] ?_));exact jI hb0
 ·intro hb0;try simp only[bf] at hb0
  have n0:=ki hb0;have n1:=kj hb0;have nl:=iM hb0;have hE:=hD hb0;refine ak (af (s_d hG ?_ ?_))
  ·(try simp only[ba]);simp only[NT] at n0 n1;simp only[n0,n1,nl,aI];exact⟨by decide,by decide,hE.1,hE.2.1,by rw[aE];exact hE.2.2⟩
  refine av (q_e [] ?_);simp only[NT] at n0 n1;simp only[n0,n1,aI];exact lK (f:=cd) hb0
def sG(B:aq):Tab:={types:=[(31,(.int .i64)),(44,(.slice (.slice .str))),(79,tyP),(98,(.slice tyP))],elems:=[(44,22)],cons:=[(67,gW),(69,fo),(76,PW)],hint:=[],N:=31,base:=B}
theorem Cg{B:aq}(hB:aN B):bx prog (sG B):=⟨⟨tc kK (tc rR (tc gF (tc vO ab))),aK (by kernel_rfl) ae,by simp only[sG,ioB];omega⟩,aC (cc func67 (fz hB) (cc func69 (gi hB) (cc func76 (KV hB) ax))),by kernel_rfl⟩
def sH:Con:=fun l os=>match l,os with
 | [.z (.slice .str) p,.z (.slice .str) q,.val (.func (.func g) fs cs)],[]=>some ((g=76/\fs.size=0/\cs.size=0)/\bR (fun p _=>Sz QH p/\p.length<=1000) (fun a _=>bl a) p q,[.z (.slice .str) (cF (fun a _=>bl a) p q),.z (.int .i64) (cM (fun a _=>bl a) p q)],[])
 |_,_=>none
theorem K1{B:aq}(hB:aN B):Valid B prog 55 sH:=by
 refine aW (Cg hB).tab func55 rfl rfl rfl ?_;intro args os C rs os' hc hC;unfold sH at hc;split at hc;case h_2=>cases hc
 rename_i p q g fs cs;cases hc;refine v_h (Cg hB) fun X hP hT hr hG=>?_;have hU:=sG.eq_1;unfold sG at hT;have hX:=ai @cx<|ai @gW.eq_1<|ai @PW.eq_1<| @fo.eq_1;simp only[f55,az,aj,ioB];obtain⟨⟨rfl,e1,e2⟩,hp,hq,hD⟩:=hC;obtain rfl:=Array.eq_empty_of_size_eq_zero e1;obtain rfl:=Array.eq_empty_of_size_eq_zero e2;refine s_g hG ?_;refine s_q hG ?_ ?_
 ·try simp only[ba]
  exact(iN hp hq).2
 refine ag (s_g hG ?_);refine aS ?_ ?_
 ·intro hb0;try simp only[bt] at hb0
  refine s_g hG ?_;refine av (aw (q_e [] ?_));exact jI hb0
 ·intro hb0;try simp only[bf] at hb0
  have n0:=ki hb0;have n1:=kj hb0;have nl:=iM hb0;have hE:=hD hb0;refine ak (af (s_d hG ?_ ?_))
  ·(try simp only[ba]);simp only[NT] at n0 n1;simp only[n0,n1,nl,aI];exact⟨by decide,by decide,hE.1,hE.2.1,by rw[aE];exact hE.2.2⟩
  refine av (q_e [] ?_);simp only[NT] at n0 n1;simp only[n0,n1,aI];exact lK (f:=(fun a _=>bl a)) hb0
def vw:Con:=kr [none,some (.slice .str),none] sH
theorem Ex{B:aq}(hB:aN B):Valid B prog 55 vw:=fY _ (K1 hB)
def sI(B:aq):Tab:={types:=[(31,(.int .i64)),(44,(.slice (.slice .str))),(79,tyP),(98,(.slice tyP))],elems:=[(44,22)],cons:=[(67,gW),(69,fo),(78,PX)],hint:=[],N:=31,base:=B}
theorem Ch{B:aq}(hB:aN B):bx prog (sI B):=⟨⟨tc kK (tc rR (tc gF (tc vO ab))),aK (by kernel_rfl) ae,by simp only[sI,ioB];omega⟩,aC (cc func67 (fz hB) (cc func69 (gi hB) (cc func78 (KW hB) ax))),by kernel_rfl⟩
def sJ:Con:=fun l os=>match l,os with
 | [.z (.slice .str) p,.z (.slice .str) q,.val (.func (.func g) fs cs)],[]=>some ((g=78/\fs.size=0/\cs.size=0)/\bR (fun p _=>mE p) (fun a _=>bO a) p q,[.z (.slice .str) (cF (fun a _=>bO a) p q),.z (.int .i64) (cM (fun a _=>bO a) p q)],[])
 |_,_=>none
theorem K2{B:aq}(hB:aN B):Valid B prog 55 sJ:=by
 refine aW (Ch hB).tab func55 rfl rfl rfl ?_;intro args os C rs os' hc hC;unfold sJ at hc;split at hc;case h_2=>cases hc
 rename_i p q g fs cs;cases hc;refine v_h (Ch hB) fun X hP hT hr hG=>?_;have hU:=sI.eq_1;unfold sI at hT;have hX:=ai @cx<|ai @gW.eq_1<|ai @PX.eq_1<| @fo.eq_1;simp only[f55,az,aj,ioB];obtain⟨⟨rfl,e1,e2⟩,hp,hq,hD⟩:=hC;obtain rfl:=Array.eq_empty_of_size_eq_zero e1;obtain rfl:=Array.eq_empty_of_size_eq_zero e2;refine s_g hG ?_;refine s_q hG ?_ ?_
 ·try simp only[ba]
  exact(iN hp hq).2
 refine ag (s_g hG ?_);refine aS ?_ ?_
 ·intro hb0;try simp only[bt] at hb0
  refine s_g hG ?_;refine av (aw (q_e [] ?_));exact jI hb0
 ·intro hb0;try simp only[bf] at hb0
  have n0:=ki hb0;have n1:=kj hb0;have nl:=iM hb0;have hE:=hD hb0;refine ak (af (s_d hG ?_ ?_))
  ·(try simp only[ba]);simp only[NT] at n0 n1;simp only[n0,n1,nl,aI];exact⟨by decide,by decide,hE.1,hE.2.1,by rw[aE];exact hE.2.2⟩
  refine av (q_e [] ?_);simp only[NT] at n0 n1;simp only[n0,n1,aI];exact lK (f:=(fun a _=>bO a)) hb0
def vx:Con:=kr [none,some (.slice .str),none] sJ
theorem Ey{B:aq}(hB:aN B):Valid B prog 55 vx:=fY _ (K2 hB)
def sK(B:aq):Tab:={types:=[(31,(.int .i64)),(44,(.slice (.slice .str))),(79,tyP),(98,(.slice tyP))],elems:=[(44,22)],cons:=[(67,gW),(69,fo),(80,vu)],hint:=[],N:=31,base:=B}
theorem Ci{B:aq}(hB:aN B):bx prog (sK B):=⟨⟨tc kK (tc rR (tc gF (tc vO ab))),aK (by kernel_rfl) ae,by simp only[sK,ioB];omega⟩,aC (cc func67 (fz hB) (cc func69 (gi hB) (cc func80 (KS hB) ax))),by kernel_rfl⟩
def sL:Con:=fun l os=>match l,os with
 | [.z (.slice .str) p,.z (.slice .str) q,.val (.func (.func g) fs cs)],[]=>some ((g=80/\fs.size=0/\cs.size=0)/\bR (yD) fH p q,[.z (.slice .str) (cF fH p q),.z (.int .i64) (cM fH p q)],[])
 |_,_=>none
theorem K3{B:aq}(hB:aN B):Valid B prog 55 sL:=by
 refine aW (Ci hB).tab func55 rfl rfl rfl ?_;intro args os C rs os' hc hC;unfold sL at hc;split at hc;case h_2=>cases hc
 rename_i p q g fs cs;cases hc;refine v_h (Ci hB) fun X hP hT hr hG=>?_;have hU:=sK.eq_1;unfold sK at hT;have hX:=ai @cx<|ai @gW.eq_1<|ai @vu.eq_1<| @fo.eq_1;simp only[f55,az,aj,ioB];obtain⟨⟨rfl,e1,e2⟩,hp,hq,hD⟩:=hC;obtain rfl:=Array.eq_empty_of_size_eq_zero e1;obtain rfl:=Array.eq_empty_of_size_eq_zero e2;refine s_g hG ?_;refine s_q hG ?_ ?_
 ·try simp only[ba]
  exact(iN hp hq).2
 refine ag (s_g hG ?_);refine aS ?_ ?_
 ·intro hb0;try simp only[bt] at hb0
  refine s_g hG ?_;refine av (aw (q_e [] ?_));exact jI hb0
 ·intro hb0;try simp only[bf] at hb0
  have n0:=ki hb0;have n1:=kj hb0;have nl:=iM hb0;have hE:=hD hb0;refine ak (af (s_d hG ?_ ?_))
  ·(try simp only[ba]);simp only[NT] at n0 n1;simp only[n0,n1,nl,aI];exact⟨by decide,by decide,hE.1,hE.2.1,by rw[aE];exact hE.2.2⟩
  refine av (q_e [] ?_);simp only[NT] at n0 n1;simp only[n0,n1,aI];exact lK (f:=fH) hb0
def HF(B:aq):Tab:=mT B [(22,(.slice .str))] [] [(54,vv)] [] 11
def pZ:Con:=c1 (.slice .str) (fun p=>de p) (fun p=>[.z (.int .i64) (bG p)])
theorem xR{B:aq}(hB:aN B):Valid B prog 14 pZ:=by
 refine v1 (mg (T:=HF B) (tc dM ab) ae (aC (cc func54 (xQ hB) ax))) func14 ?_;intro p hC X hP hT hr hG;have hX:=ai HF.eq_1<|ai cx<|vv.eq_1;simp only[f14,az,aj,ioB];refine sg ?_;refine sq ?_ ?_;·exact hC
 refine sg ?_;refine av (qe [] ?_);trivial
def HG(B:aq):Tab:=mT B [(22,(.slice .str))] [] [(55,sw)] [] 11
def PY:Con:=c2 (.slice .str) (.slice .str) (fun p q=>bR (fun p q=>Sz QH p/\Sz QH q/\p.length<=1000/\q.length<=1000) (br (· + ·)) p q) (fun p q=>[.z (.slice .str) (cF (br (· + ·)) p q),.z (.int .i64) (cM (br (· + ·)) p q)])
theorem K4{B:aq}(hB:aN B):Valid B prog 15 PY:=by
 refine v2 (mg (T:=HG B) (tc dM ab) ae (aC (cc func55 (KX hB) ax))) func15 ?_;intro p q hC X hP hT hr hG;have hX:=ai HG.eq_1<|ai cx<|sw.eq_1;simp only[f15,az,aj,ioB];refine sg ?_;refine sq ?_ ?_;·exact hC
 refine av (qe [] ?_);trivial
def HH(B:aq):Tab:=mT B [(22,(.slice .str))] [] [(55,sB)] [] 11
def PZ:Con:=c2 (.slice .str) (.slice .str) (fun p q=>bR (fun p q=>Sz QH p/\Sz QH q/\p.length<=1000/\q.length<=1000) (br (· - ·)) p q) (fun p q=>[.z (.slice .str) (cF (br (· - ·)) p q),.z (.int .i64) (cM (br (· - ·)) p q)])
theorem K5{B:aq}(hB:aN B):Valid B prog 16 PZ:=by
 refine v2 (mg (T:=HH B) (tc dM ab) ae (aC (cc func55 (KY hB) ax))) func16 ?_;intro p q hC X hP hT hr hG;have hX:=ai HH.eq_1<|ai cx<|sB.eq_1;simp only[f16,az,aj,ioB];refine sg ?_;refine sq ?_ ?_;·exact hC
 refine av (qe [] ?_);trivial
def HI(B:aq):Tab:=mT B [(22,(.slice .str))] [] [(55,sD)] [] 11
def P0:Con:=c2 (.slice .str) (.slice .str) (fun p q=>bR (fun p q=>Sz QM p/\Sz QM q/\p.length<=100/\q.length<=100) cB p q) (fun p q=>[.z (.slice .str) (cF cB p q),.z (.int .i64) (cM cB p q)])
theorem K6{B:aq}(hB:aN B):Valid B prog 17 P0:=by
 refine v2 (mg (T:=HI B) (tc dM ab) ae (aC (cc func55 (KZ hB) ax))) func17 ?_;intro p q hC X hP hT hr hG;have hX:=ai HI.eq_1<|ai cx<|sD.eq_1;simp only[f17,az,aj,ioB];refine sg ?_;refine sq ?_ ?_;·exact hC
 refine av (qe [] ?_);trivial
def HJ(B:aq):Tab:=mT B [(22,(.slice .str))] [] [(55,sF)] [] 11
def P1:Con:=c2 (.slice .str) (.slice .str) (fun p q=>bR (kg) cd p q) (fun p q=>[.z (.slice .str) (cF cd p q),.z (.int .i64) (cM cd p q)])
theorem K7{B:aq}(hB:aN B):Valid B prog 24 P1:=by
 refine v2 (mg (T:=HJ B) (tc dM ab) ae (aC (cc func55 (K0 hB) ax))) func24 ?_;intro p q hC X hP hT hr hG;have hX:=ai HJ.eq_1<|ai cx<|sF.eq_1;simp only[f24,az,aj,ioB];refine sg ?_;refine sq ?_ ?_;·exact hC
 refine av (qe [] ?_);trivial
def Ez:Con:=kr [some (.slice .str),some (.slice .str)] P1
theorem EA{B:aq}(hB:aN B):Valid B prog 24 Ez:=fY _ (K7 hB)
def HM(B:aq):Tab:=mT B [(22,(.slice .str))] [] [(55,vw)] [] 8
def Cj:Con:=c1 (.slice .str) (fun p=>bR (fun p _=>Sz QH p/\p.length<=1000) (fun a _=>bl a) p []) (fun p=>[.z (.slice .str) (cF (fun a _=>bl a) p []),.z (.int .i64) (cM (fun a _=>bl a) p [])])
theorem xS{B:aq}(hB:aN B):Valid B prog 29 Cj:=by
 refine v1 (mg (T:=HM B) (tc dM ab) ae (aC (cc func55 (Ex hB) ax))) func29 ?_;intro p hC X hP hT hr hG;have hX:=ai HM.eq_1<|ai cx<|ai sH.eq_1<|vw.eq_1;simp only[f29,az,aj,ioB];refine sg ?_;refine sq ?_ ?_;·exact hC
 refine av (qe [] ?_);trivial
def HN(B:aq):Tab:=mT B [(22,(.slice .str))] [] [(55,vx)] [] 8
def Ck:Con:=c1 (.slice .str) (fun p=>bR (fun p _=>mE p) (fun a _=>bO a) p []) (fun p=>[.z (.slice .str) (cF (fun a _=>bO a) p []),.z (.int .i64) (cM (fun a _=>bO a) p [])])
theorem xT{B:aq}(hB:aN B):Valid B prog 30 Ck:=by
 refine v1 (mg (T:=HN B) (tc dM ab) ae (aC (cc func55 (Ey hB) ax))) func30 ?_;intro p hC X hP hT hr hG;have hX:=ai HN.eq_1<|ai cx<|ai sJ.eq_1<|vx.eq_1;simp only[f30,az,aj,ioB];refine sg ?_;refine sq ?_ ?_;·exact hC
 refine av (qe [] ?_);trivial
def HO(B:aq):Tab:=mT B [(3,(.int .i64)),(31,(.int .i64)),(44,(.slice (.slice .str))),(79,tyP),(98,(.slice tyP))] [(44,22)] [(67,gW),(68,vq),(69,fo)] [] 53
def EB:Con:=c2 (.slice .str) (.slice .str) (fun p q=>NP p q) (fun p q=>[.z (.slice .str) (dvS p q),.z (.slice .str) (dvR p q),.z (.int .i64) (dvE p q)])
theorem K8{B:aq}(hB:aN B):Valid B prog 23 EB:=by
 refine v2 (mg (T:=HO B) (tc ty3 (tc kK (tc rR (tc gF (tc vO ab))))) (aK (by kernel_rfl) ae) (aC (cc func67 (fz hB) (cc func68 (ra hB) (cc func69 (gi hB) ax))))) func23 ?_;intro p q hC X hP hT hr hG;have hX:=ai HO.eq_1<|ai cx<|ai gW.eq_1<|ai vq.eq_1<|fo.eq_1;simp only[f23,az,aj,ioB];refine sg ?_;refine sq ?_ ?_;·exact(iN hC.sp hC.sq).2
 refine ag (sg ?_);refine qc ?_ ?_;·intro hb0;refine sg ?_;refine av (aw (qe [] ?_));exact NQ hb0
 ·intro hb0;have n0:=ki hb0;have n1:=kj hb0;have nl:=iM hb0;simp only[NT] at n0 n1;refine ak (af (ag (sq ?_ ?_)));·rw[nl];decide
  refine qc ?_ ?_;·intro hb1;simp only[n1] at hb1;(have hq:(aH (bj q)).length=0:=by have h9:((aH (bj q)).length:Int)=0:=hb1;omega);refine sg ?_;refine av (aw (qe [] ?_));exact NR hb0 hq
  ·(intro hb1;simp only[n1] at hb1;(have hq:¬(aH (bj q)).length=0:=by intro h8;exact hb1 (by show ((aH (bj q)).length:Int)=0;omega));have hne:=Ri hq;obtain⟨k1,k2,k3⟩:=hC.ok hb0 hne;refine ak (af (sd ?_ ?_));·simp only[n0,n1,nl];exact⟨by decide,by decide,k1⟩);(refine sq ?_ ?_;·simp only[n0,n1,aI];exact k2);refine ag (sg ?_);refine qc ?_ ?_;·intro hb2;refine sg ?_;refine av (aw (qe [] ?_));simp only[n0,n1,aI] at hb2 ⊢;exact Rj hb0 hne hb2
   ·(intro hb2;refine ak (af (sq ?_ ?_));·simp only[n0,n1,aI];exact k3);(refine ag (sg ?_);refine qc ?_ ?_;·intro hb3;refine sg ?_;refine av (aw (qe [] ?_));simp only[n0,n1,aI] at hb2 hb3 ⊢;exact Rk hb0 hne hb2 hb3);·intro hb3;refine ak (af (sg ?_));refine av (qe [] ?_);simp only[n0,n1,aI] at hb2 hb3 ⊢;exact Rl hb0 hne hb2 hb3
def zb:Con:=kr [some (.slice .str),some (.slice .str)] EB
theorem EC{B:aq}(hB:aN B):Valid B prog 23 zb:=fY _ (K8 hB)
def HP(B:aq):Tab:=mT B [(3,(.int .i64)),(22,(.slice .str)),(31,(.int .i64))] [] [(14,pZ),(55,sL)] [] 39
def vy:Con:=c2 (.slice .str) (.slice .str) (fun p q=>sj p q) (fun p q=>[.z (.slice .str) (i7 p q),.z (.int .i64) (kQ p q)])
theorem xU{B:aq}(hB:aN B):Valid B prog 31 vy:=by
 refine v2 (mg (T:=HP B) (tc ty3 (tc dM (tc kK ab))) ae (aC (cc func14 (xR hB) (cc func55 (K3 hB) ax)))) func31 ?_;intro p q hC X hP hT hr hG;have hX:=ai HP.eq_1<|ai cx<|ai sL.eq_1<|pZ.eq_1;simp only[f31,az,aj,ioB];refine sg ?_;refine ag (sq ?_ ?_);·exact⟨hC.sp,fun h=>⟨h,hC.sq⟩,id,id,id,id,id,id,id,id,id⟩
 refine aS ?_ ?_;·intro hb0;have hL:=of_decide_eq_true (NU hb0);refine sg ?_;refine av (aw (qe [] ?_));exact TH hL
 ·intro hb0;have hL:=of_decide_eq_false (NU hb0);refine ak (af (sq ?_ ?_));·exact hC.ok hL
  refine av (qe [] ?_);exact TI hL
def zc:Con:=kr [some (.slice .str),some (.slice .str)] vy
theorem ED{B:aq}(hB:aN B):Valid B prog 31 zc:=fY _ (xU hB)
def HQ(B:aq):Tab:=mT B [(22,(.slice .str)),(31,(.int .i64)),(44,(.slice (.slice .str))),(46,.str),(78,tyP),(79,tyP),(91,tyN),(98,(.slice tyP))] [(44,22),(78,91)] [(67,gW),(87,pW),(88,vn),(89,PR),(90,vm)] [] 41
def vz:Con:=c2 (.slice .str) .str (fun p x=>F0 p x) (fun p x=>[.z .str (evS p x),.z (.int .i64) (evE p x)])
theorem xV{B:aq}(hB:aN B):Valid B prog 36 vz:=by
 refine v2 (mg (T:=HQ B) (tc dM (tc kK (tc rR (tc gj (tc QF (tc gF (tc ty91 (tc vO ab)))))))) (aK (by kernel_rfl) (aK (by kernel_rfl) ae)) (aC (cc func67 (fz hB) (cc func87 (xG hB) (cc func88 (xH hB) (cc func89 (KO hB) (cc func90 (q9 hB) ax))))))) func36 ?_;intro p x hC X hP hT hr hG;have hX:=ai HQ.eq_1<|ai cx<|ai gW.eq_1<|ai pW.eq_1<|ai PR.eq_1<|ai vm.eq_1<|vn.eq_1;simp only[f36,az,aj,ioB];refine sg ?_;refine sq ?_ ?_;·exact(NW hC).2
 refine ag (sg ?_);refine qc ?_ ?_;·intro hb0;refine sg ?_;refine av (aw (qe [] ?_));exact TK hb0
 ·intro hb0;have n0:=UP hb0;have nl:=TJ hb0;simp only[NT] at n0;refine ak (af (ag (sq ?_ ?_)));·exact hC.sx
  refine sg ?_;refine qc ?_ ?_;·intro hb1;refine sg ?_;refine av (aw (qe [] ?_));exact Rm hb0 hb1
  ·(intro hb1;(have h9:ck x=0:=by simpa using hb1);obtain⟨k1,k2,k3,k4⟩:=hC.ok hb0 h9;obtain⟨c1,c2⟩:=qJ h9 hC.sx;refine ak (af (sd ?_ ?_));·simp only[n0,nl,c2,aI,aP];exact NX c1 k1 k2 k3 k4);refine ag (sg ?_);refine qc ?_ ?_;·intro hb2;refine sg ?_;refine av (aw (qe [] ?_));simp only[n0,c2,aI,aP,Bb] at hb2;exact TL hb0 h9 (by simpa using hb2)
   ·(intro hb2;refine ak (af (sq ?_ ?_));·simp only[n0,c2,aI,aP] at hb2 ⊢;exact JU (by simpa using hb2) _);refine av (qe [] ?_);simp only[n0,c2,aI,aP,Bb] at hb2 ⊢;exact Ro hb0 h9 (by simpa using hb2)
def zd:Con:=kr [some (.slice .str),none] vz
theorem EE{B:aq}(hB:aN B):Valid B prog 36 zd:=fY _ (xV hB)
def HR(B:aq):Tab:=mT B [] [] [] [] 4
def Uk:Con:=c1 (.slice .str) (fun p=>True) (fun p=>[.z (.slice .str) p])
theorem K9{B:aq}(hB:aN B):Valid B prog 45 Uk:=by
 refine v1 (mg (T:=HR B) ab ae (bI rfl)) func45 ?_;intro p hC X hP hT hr hG;have hX:=ai HR.eq_1<|cx;simp only[f45,az,aj,ioB];refine sg ?_;refine sg ?_;refine av (qe [] ?_);trivial
def HS(B:aq):Tab:=mT B [(22,(.slice .str)),(31,(.int .i64))] [] [(28,oJ)] [] 13
def Ul:Con:=c3 (.slice .str) (.int .i64) (.ptr (.slice .str)) (fun p e q=>p.length<=QL/\q.length<=QL) (fun p e q=>[.z .bool (decide (e=0/\p=q))])
theorem La{B:aq}(hB:aN B):Valid B prog 94 Ul:=by
 refine v3 (mg (T:=HS B) (tc dM (tc kK ab)) ae (aC (cc func28 (qZ hB) ax))) func94 ?_;intro p e q hC X hP hT hr hG;have hX:=ai HS.eq_1<|ai cx<|oJ.eq_1;simp only[f94,az,aj,ioB];refine sg ?_;refine sq ?_ ?_;·exact⟨fun h=>⟨h,hC⟩,id⟩
 refine av (qe [] ?_);exact Oe _ _ _
def HT(B:aq):Tab:=mT B [(22,(.slice .str))] [] [] [] 4
def Um:Con:=c1 (.slice .str) (fun p=>True) (fun p=>[.fn 94 [.z (.ptr (.slice .str)) p]])
theorem Lb{B:aq}(hB:aN B):Valid B prog 41 Um:=by
 refine v1 (mg (T:=HT B) (tc dM ab) ae (bI rfl)) func41 ?_;intro p hC X hP hT hr hG;have hX:=ai HT.eq_1<|cx;simp only[f41,az,aj,ioB];refine sg ?_;refine sg ?_;refine av (qe [] ?_);rfl
def P2:Con:=kr [some (.slice .str)] Um
theorem EF{B:aq}(hB:aN B):Valid B prog 41 P2:=fY _ (Lb hB)
def HU(B:aq):Tab:=mT B [(3,(.int .i64)),(22,(.slice .str)),(31,(.int .i64))] [] [] [] 15
def EG:Con:=c3 (.slice .str) (.int .i64) (.int .i64) (fun p e w=>True) (fun p e w=>[.z .bool (decide (p=[]/\e=w))])
theorem Lc{B:aq}(hB:aN B):Valid B prog 18 EG:=by
 refine v3 (mg (T:=HU B) (tc ty3 (tc dM (tc kK ab))) ae (bI rfl)) func18 ?_;intro p e w hC X hP hT hr hG;have hX:=ai HU.eq_1<|cx;simp only[f18,az,aj,ioB];refine sg ?_;refine sq ?_ ?_;·exact id
 refine av (qe [] ?_);exact Bq _ _ _
def HV(B:aq):Tab:=mT B [(3,(.int .i64)),(22,(.slice .str)),(46,.str)] [] [] [] 13
def EH:Con:=c2 (.slice .str) (.int .i64) (fun p i=>GL QK p/\0<=i) (fun p i=>[.z .str (aG (cf (nl p) i.toNat))])
theorem Ld{B:aq}(hB:aN B):Valid B prog 63 EH:=by
 refine v2 (mg (T:=HV B) (tc ty3 (tc dM (tc gj ab))) ae (bI rfl)) func63 ?_;intro p i hC X hP hT hr hG;have hX:=ai HV.eq_1<|cx;simp only[f63,az,aj,ioB];obtain⟨hp,hi⟩:=hC;obtain⟨n,rfl⟩:=Int.eq_ofNat_of_zero_le hi;rw[Int.toNat_natCast];refine sg ?_;refine ag (sg ?_);refine qc ?_ ?_
 ·intro hb0;refine sq ?_ ?_;·exact⟨by omega,hb0⟩
  refine av (aw (qe [] ?_));exact gN hp (by omega)
 ·intro hb0;refine ak (af (sg ?_));refine av (qe [] ?_);exact NZ (by omega)
def HW(B:aq):Tab:=mT B [(3,(.int .i64)),(22,(.slice .str)),(46,.str)] [] [] [] 21
def iC:Con:=c1 (.slice .str) (fun p=>GL QK p/\p.length<=1000000000) (fun p=>[.z (.slice .str) (txP (aM (nl p)))])
theorem iD{B:aq}(hB:aN B):Valid B prog 64 iC:=by
 refine v1 (mg (T:=HW B) (tc ty3 (tc dM (tc gj ab))) ae (bI rfl)) func64 ?_;intro p hC X hP hT hr hG;have hX:=ai HW.eq_1<|cx;simp only[f64,az,aj,ioB];obtain⟨l0,rfl,hl0⟩:=hC.1.ex;have hn:=hC.2;rw[aR] at hn;rw[bJ];refine sg ?_;refine ag (al (aY (fun(z:List Rat)=>(⟨[(0,.l (.z (.slice .str) (txP z))),(2,.l (.val (.slice none 0 0)))],[]⟩:aa)) (fun z=>z.length<=l0.length/\(∀x∈z,lq x<=QK)/\aM z=aM l0) (fun z=>z.length) l0 ?_ ?_ ?_));·simp only[ml0,ml1,Nat.reduceLT,Nat.reduceEqDiff,Nat.reduceAdd,Nat.reduceMul,Nat.reduceSub,Nat.reduceLeDiff,Nat.reduceBEq,Nat.reduceBNe,reduceIte,reduceDIte,reduceCtorEq]
 ·exact⟨Nat.le_refl _,hl0,rfl⟩
 ·rintro l ⟨g1,g2,g3⟩;try dsimp only at g1 g2 g3
  refine ag (sq ?_ ?_);·exact⟨id,id,fun h=>DM (l:=l) (by omega) h,id⟩
  refine qc ?_ ?_
  ·(intro hb0;have ht:=Rp (l:=l) (by omega) hb0.1 hb0.2;obtain⟨n1,n2,n3,n4,n5⟩:=DN (by omega) g1 g2 g3 ht;refine ak (af (al (rq ?_ ?_)));·rw[aR,bU (by omega)];omega);refine aD (qm ?_);exact⟨l.dropLast,n1,n2,n3,n4,n5⟩
  ·intro hb0;have ht:=Rq (l:=l) (by omega) hb0;refine aT (aA (ao (an (af (sg ?_)))));refine av (qe [] ?_);rw[<- g3,ht]
def HY(B:aq):Tab:=mT B [(3,(.int .i64)),(22,(.slice .str)),(46,.str)] [(22,46)] [(62,B1),(63,EH),(64,iC)] [27] 31
def lS:Con:=c2 (.slice .str) (.slice .str) (fun p q=>GL QK2 p/\GL QK2 q/\p.length<=1000000/\q.length<=1000000) (fun p q=>[.z (.slice .str) (txP (br (· + ·) (nl p) (nl q)))])
theorem nF{B:aq}(hB:aN B):Valid B prog 20 lS:=by
 refine v2 (mg (T:=HY B) (tc ty3 (tc dM (tc gj ab))) (aK (by kernel_rfl) ae) (aC (cc func62 (xw hB) (cc func63 (Ld hB) (cc func64 (iD hB) ax))))) func20 ?_;intro p q hC X hP hT hr hG;have hX:=ai HY.eq_1<|ai cx<|ai B1.eq_1<|ai EH.eq_1<|iC.eq_1;simp only[f20,az,aj,ioB];obtain⟨hp,hq,hl1,hl2⟩:=hC;refine sg ?_;refine sg ?_;refine ag (sg ?_);refine al (aY (fun(z:Nat)=>(⟨[(0,.l (.z (.slice .str) p)),(1,.l (.z (.slice .str) q)),(4,.l (.val (.slice none 0 0))),(5,.l (.ownS 28)),(6,.l (.z (.int .i64) (z:Int)))],[(28,.arr .str 46 (txP (bS (· + ·) (nl p) (nl q) z)))]⟩:aa)) (fun z=>z<=max p.length q.length) (fun z=>max p.length q.length-z) 0 ?_ ?_ ?_);·refine q_l ?_;exact⟨rfl,by unfold ioB;omega,rfl⟩
 ·omega
 ·rintro k g1;try dsimp only at g1
  refine ag (sg ?_);refine aS ?_ ?_
  ·(intro hb0;have hk:=UQ hb0;refine ak (af (ag (al (rq ?_ ?_))));·exact DS hp hq (by omega));refine aD (af (rg ?_));refine qm ?_;exact DO (by omega) (by omega)
  ·(intro hb0;have hk:=UR hb0;refine aT (aA (ao (an (af (sq ?_ ?_)))));·exact⟨JV hp hq k,by rw[aR,dw];omega⟩);refine av (qe [] ?_);exact N0 g1 hk
def HZ(B:aq):Tab:=mT B [(3,(.int .i64)),(22,(.slice .str)),(46,.str)] [(22,46)] [(64,iC),(84,mV)] [20] 24
def jl:Con:=c2 .str (.slice .str) (fun c p=>GQ QK2 c/\GL QK2 p/\p.length<=1000000) (fun c p=>[.z (.slice .str) (txP (b6 (aU c) (nl p)))])
theorem nG{B:aq}(hB:aN B):Valid B prog 65 jl:=by
 refine v2 (mg (T:=HZ B) (tc ty3 (tc dM (tc gj ab))) (aK (by kernel_rfl) ae) (aC (cc func64 (iD hB) (cc func84 (kY hB) ax)))) func65 ?_;intro c p hC X hP hT hr hG;have hX:=ai HZ.eq_1<|ai cx<|ai mV.eq_1<|iC.eq_1;simp only[f65,az,aj,ioB];obtain⟨hc,hp,hl1⟩:=hC;refine sg ?_;refine sg ?_;refine ag (sg ?_);refine al (aY (fun(z:Nat)=>(⟨[(0,.l (.z .str c)),(1,.l (.z (.slice .str) p)),(4,.l (.val (.slice none 0 0))),(5,.l (.ownS 21)),(6,.l (.z (.int .i64) (z:Int)))],[(21,.arr .str 46 (txP (((nl p).take z).map fun x=>aU c*x)))]⟩:aa)) (fun z=>z<=p.length) (fun z=>p.length-z) 0 ?_ ?_ ?_);·refine q_l ?_;exact⟨rfl,by unfold ioB;omega,rfl⟩
 ·omega
 ·rintro k g1;try dsimp only at g1
  refine ag (sg ?_);refine qc ?_ ?_
  ·(intro hb0;(have hk:k<p.length:=by have h9:(k:Int)<(p.length:Int):=hb0;omega);refine ak (af (ag (al (rq ?_ ?_))));·exact Bd hc hp hl1 hk);refine aD (af (rg ?_));refine qm ?_;exact Bc hp hk hl1
  ·(intro hb0;(have hk:¬k<p.length:=by have h9:¬(k:Int)<(p.length:Int):=hb0;omega);refine aT (aA (ao (an (af (sq ?_ ?_)))));·exact⟨DP hc hp k,by rw[aR,List.length_map,List.length_take,dN];omega⟩);refine av (qe [] ?_);exact JW hk
def H0(B:aq):Tab:=mT B [(3,(.int .i64)),(22,(.slice .str))] [(22,46)] [(64,iC)] [13] 19
def p6:Con:=c2 (.slice .str) (.int .i64) (fun p n=>GL QK p/\0<=n/\n<=1000000/\p.length<=1000000) (fun p n=>[.z (.slice .str) (txP (dt n.toNat (nl p)))])
theorem xW{B:aq}(hB:aN B):Valid B prog 66 p6:=by
 refine v2 (mg (T:=H0 B) (tc ty3 (tc dM ab)) (aK (by kernel_rfl) ae) (aC (cc func64 (iD hB) ax))) func66 ?_;intro p n hC X hP hT hr hG;have hX:=ai H0.eq_1<|ai cx<|iC.eq_1;simp only[f66,az,aj,ioB];obtain⟨hp,hn1,hn2,hl1⟩:=hC;obtain⟨n,rfl⟩:=Int.eq_ofNat_of_zero_le hn1;rw[Int.toNat_natCast];have hn3:n<=1000000:=by have h9:(n:Int)<=1000000:=hn2;omega
 refine sg ?_;refine sg ?_;refine ag (sg ?_);refine al (aY (fun(z:Nat)=>(⟨[(0,.l (.z (.slice .str) p)),(1,.l (.z (.int .i64) (n:Int))),(4,.l (.val (.slice none 0 0))),(5,.l (.ownS 14)),(6,.l (.z (.int .i64) (z:Int)))],[(14,.arr .str 46 (List.replicate z [48]))]⟩:aa)) (fun z=>z<=n) (fun z=>n-z) 0 ?_ ?_ ?_);·refine q_l ?_;exact⟨rfl,by unfold ioB;omega,rfl⟩
 ·omega
 ·rintro k g1;try dsimp only at g1
  refine ag (sg ?_);refine qc ?_ ?_
  ·(intro hb0;refine ak (af (ag (al (rq ?_ ?_))));·exact kA (by rw[List.length_replicate];omega));refine aD (af (rg ?_));refine qm ?_;exact⟨k+1,wo,N1 k,by omega,by omega⟩
  ·(intro hb0;(obtain rfl:k=n:=by have h9:¬(k:Int)<(n:Int):=hb0;omega);refine aT (aA (ao (an (af (sq ?_ ?_)))));·exact⟨kA (by rw[List.length_replicate];omega),DQ hp k,by rw[List.length_append,List.length_replicate];omega⟩);refine av (qe [] ?_);exact JY
def H1(B:aq):Tab:=mT B [(22,(.slice .str)),(46,.str)] [] [(20,lS),(65,jl)] [] 9
def EI:Con:=c2 (.slice .str) (.slice .str) (fun p q=>GL QK2 p/\GL 1000000 q/\p.length<=1000000/\q.length<=1000000) (fun p q=>[.z (.slice .str) (txP (br (· - ·) (nl p) (nl q)))])
theorem Le{B:aq}(hB:aN B):Valid B prog 21 EI:=by
 refine v2 (mg (T:=H1 B) (tc dM (tc gj ab)) ae (aC (cc func20 (nF hB) (cc func65 (nG hB) ax)))) func21 ?_;intro p q hC X hP hT hr hG;have hX:=ai H1.eq_1<|ai cx<|ai lS.eq_1<|jl.eq_1;simp only[f21,az,aj,ioB];refine sg ?_;refine sq ?_ ?_;·exact J1 hC
 refine av (qe [] ?_);rw[bJ,Rs,Rt]
def H2(B:aq):Tab:=mT B [(3,(.int .i64)),(22,(.slice .str)),(46,.str)] [] [(20,lS),(65,jl),(66,p6)] [] 24
def vA:Con:=c2 (.slice .str) (.slice .str) (fun p q=>JZ p q) (fun p q=>[.z (.slice .str) (txP (eH (nl p) (nl q) p.length))])
theorem xX{B:aq}(hB:aN B):Valid B prog 22 vA:=by
 refine v2 (mg (T:=H2 B) (tc ty3 (tc dM (tc gj ab))) ae (aC (cc func20 (nF hB) (cc func65 (nG hB) (cc func66 (xW hB) ax))))) func22 ?_;intro p q hC X hP hT hr hG;have hX:=ai H2.eq_1<|ai cx<|ai lS.eq_1<|ai jl.eq_1<|p6.eq_1;simp only[f22,az,aj,ioB];have hl1:=hC.2.2.1;refine sg ?_;refine sg ?_;refine ag (sg ?_);refine al (aY (fun(z:Nat)=>(⟨[(0,.l (.z (.slice .str) p)),(1,.l (.z (.slice .str) q)),(4,.l (.val (.slice none 0 0))),(5,.l (.z (.slice .str) (txP (eH (nl p) (nl q) z)))),(6,.l (.z (.int .i64) (z:Int)))],[]⟩:aa)) (fun z=>z<=p.length) (fun z=>p.length-z) 0 ?_ ?_ ?_);·refine q_l ?_;exact⟨rfl,rfl⟩
 ·omega
 ·rintro k g1;try dsimp only at g1
  refine ag (sg ?_);refine qc ?_ ?_
  ·(intro hb0;(have hk:k<p.length:=by have h9:(k:Int)<(p.length:Int):=hb0;omega);refine ak (af (ag (al (rq ?_ ?_))));·exact⟨⟨by omega,hb0⟩,J0 hC hk⟩);refine aD (af (rg ?_));refine qm ?_;obtain⟨w,w1,w2,w3⟩:=DR hC hk;exact⟨w,w2,w1,w3⟩
  ·intro hb0;(have hk:¬k<p.length:=by have h9:¬(k:Int)<(p.length:Int):=hb0;omega);refine aT (aA (ao (an (af (sg ?_)))));refine av (qe [] ?_);exact N4 g1 hk
def Va(B:aq):Tab:=mT B [(3,(.int .i64)),(4,.bool),(5,(.int .u8)),(9,.str),(47,(.slice (.int .u8))),(49,(.st (.pair .bool (.pair (.slice (.int .u8)) (.int .u8)))))] [(47,5)] [] [] 54
def EJ:Con:=c1 (.st (.pair .bool (.pair (.slice (.int .u8)) (.int .u8)))) (fun d=>DOK d) (fun d=>[.z .str (dB d)])
theorem Un{B:aq}(hB:aN B):Valid B prog 127 EJ:=by
 refine v1 (mg (T:=Va B) (tc ty3 (tc ty4 (tc ty5 (tc ty9 (tc Tl (tc UD ab)))))) (aK (by kernel_rfl) ae) (bI rfl)) func127 ?_;intro d hC X hP hT hr hG;have hX:=ai Va.eq_1<|cx;simp only[f127,az,aj,ioB];refine sg ?_;refine sg ?_;refine ag (sg ?_);refine al (aY (fun(z:Nat)=>(⟨[(1,.l (.z (.ptr (.st (.pair .bool (.pair (.slice (.int .u8)) (.int .u8))))) d)),(3,.l (.z .str (di d.2.1 z))),(4,.l (.z (.int .i64) (z:Int)))],[]⟩:aa)) (fun z=>z<=(d.2.2%8).toNat+1) (fun z=>(d.2.2%8).toNat+1-z) 0 ?_ ?_ ?_);·refine q_l ?_;exact⟨rfl,rfl⟩
 ·omega
 ·rintro k hk;try dsimp only at hk
  refine ag (sq ?_ ?_);·decide
  refine qc ?_ ?_
  ·(intro hb0;refine ak (af (ag (al (sg ?_))));refine al (aY (fun(z:Nat×List UInt8)=>(⟨[(1,.l (.z (.ptr (.st (.pair .bool (.pair (.slice (.int .u8)) (.int .u8))))) d)),(3,.l (.z .str z.2)),(4,.l (.z (.int .i64) (k:Int))),(5,.l (.z (.int .i64) (z.1:Int)))],[]⟩:aa)) (fun z=>nS d.2.1 (di d.2.1 k) z.1 z.2) (fun z=>30-z.1) (0,di d.2.1 k) ?_ ?_ ?_);·refine q_l ?_;rfl);·exact⟨Nat.zero_le _,Nat.zero_le _,rfl⟩
   ·(rintro⟨i,s⟩ hi;(try dsimp only at hi);refine ag (sq ?_ ?_);·exact fun h=>h);refine qc ?_ ?_
    ·(intro hb1;refine ak (af (ag (al (sq ?_ ?_))));·exact⟨fun h=>h,fun h=>⟨h,by omega,hb1.1⟩,fun h=>h,fun h=>⟨h,by decide⟩,fun h=>h,fun h=>by have h2:(s !=[])= !(s==[]):=rfl;simp_all⟩);refine qc ?_ ?_
     ·(intro hb2;refine rq ?_ ?_;·have hl:=Te hC hk hi;exact⟨⟨by omega,hb1.1⟩,by decide,by have h1:(strOf [IntKind.u8.wrap (48+Int.tmod (nth (Ty.int IntKind.u8) d.2.1 (i:Int)) 10)]).length=1:=rfl;rw[h1];have h2:1000<=maxLen:=(by decide);omega⟩);refine aD (af (rg ?_));refine qm ?_;first|exact Fw hC hi hb1 hb2|exact Ao hC hi hb1 hb2
     ·intro hb2;refine ak (aD (af (rg ?_)));refine qm ?_;first|exact Fw hC hi hb1 hb2|exact Ao hC hi hb1 hb2
    ·intro hb1;refine aT (aA (ao (an (aD (af (rg ?_))))));refine qm ?_;exact Mv hC hk hb0 hi hb1
  ·intro hb0;refine aT (aA (ao (an (af (ag (sg ?_))))));refine qc ?_ ?_;·intro hb3;refine sg ?_;refine av (aw (qe [] ?_));rw[rX hC hk hb0] at hb3;unfold dB;rw[if_pos hb3]
   ·intro hb3;refine ak (af (ag (sg ?_)));refine qc ?_ ?_
    ·(intro hb4;refine sq ?_ ?_;·rw[rX hC hk hb0];have:=An hC;(have h2:1000<=maxLen:=by decide);omega);refine av (aw (qe [] ?_));rw[rX hC hk hb0] at hb3 ⊢;unfold dB;rw[if_neg hb3,if_pos hb4]
    ·intro hb4;refine ak (af (sg ?_));refine av (qe [] ?_);rw[rX hC hk hb0] at hb3 ⊢;unfold dB;rw[if_neg hb3,if_neg (by rw[hb4];decide)]
def H3(B:aq):Tab:=mT B [(3,(.int .i64)),(5,(.int .u8)),(22,(.slice .str)),(23,(.slice (.int .i8))),(25,(.st (.pair (.slice (.int .i8)) (.pair (.int .u8) (.slice (.int .i8)))))),(71,(.int .i8))] [(22,46)] [(22,vA),(64,iC),(85,PF)] [] 59
def ze:Con:=c1 (.st (.pair (.slice (.int .i8)) (.pair (.int .u8) (.slice (.int .i8))))) (fun d=>jT d) (fun d=>[.z (.slice .str) (txP (nW d))])
theorem Lf{B:aq}(hB:aN B):Valid B prog 40 ze:=by
 refine v1 (mg (T:=H3 B) (tc ty3 (tc ty5 (tc dM (tc Vh (tc Tk (tc Vj ab)))))) (aK (by kernel_rfl) ae) (aC (cc func22 (xX hB) (cc func64 (iD hB) (cc func85 (xv hB) ax))))) func40 ?_;intro d hC X hP hT hr hG;have hX:=ai H3.eq_1<|ai cx<|ai vA.eq_1<|ai PF.eq_1<|iC.eq_1;simp only[f40,az,aj,ioB];have hD:=hC;refine sg ?_;refine sg ?_;refine ag (sg ?_);refine al (aY (fun(z:Nat)=>(⟨[(1,.l (.z (.ptr (.st (.pair (.slice (.int .i8)) (.pair (.int .u8) (.slice (.int .i8)))))) d)),(2,.l (.val (.slice none 0 0))),(3,.l (.ownS 32)),(4,.l (.z (.int .i64) (z:Int)))],[(32,.arr .str 46 (txP (jN d z)))]⟩:aa)) (fun z=>z<=d.1.length/\z<=5) (fun z=>5-z) 0 ?_ ?_ ?_);·refine q_l ?_;exact⟨rfl,by unfold ioB;omega,rfl⟩
 ·omega
 ·rintro k g1;try dsimp only at g1
  refine ag (sg ?_);refine aS ?_ ?_
  ·(intro hb0;have hk:=SL (n:=5) hb0;refine ak (af (ag (al (so 32 44 (by simp only[aa.toRow,LV.toRow,ioB,mx0,mx1,mx2,mx3,mx4,mx5,mx6,Nat.reduceLT,Nat.reduceEqDiff,Nat.reduceAdd,Nat.reduceMul,Nat.reduceSub,Nat.reduceLeDiff,Nat.reduceBEq,Nat.reduceBNe,reduceIte,reduceDIte,reduceCtorEq];rfl) ?_))));refine rd ?_ ?_;·exact J8 hD hk);refine aD (af (pX 32 1 (by simp only[aa.ofRow,LV.ofRow,ioB,List.set_cons_zero,List.set_cons_succ,List.append_nil,List.nil_append,List.cons_append,List.getElem?_cons_zero,List.getElem?_cons_succ,Option.getD_some,mx0,mx1,mx2,mx3,mx4,mx5,mx6,Nat.reduceLT,Nat.reduceEqDiff,Nat.reduceAdd,Nat.reduceMul,Nat.reduceSub,Nat.reduceLeDiff,Nat.reduceBEq,Nat.reduceBNe,reduceIte,reduceDIte,reduceCtorEq];rfl) ?_));refine rg ?_;refine qm ?_;exact J9 hD hk
  ·(intro hb0;have hk:=SM (n:=5) hb0;refine aT (aA (ao (an (af (sq ?_ ?_)))));·exact⟨(Ga hD k).1,TU (Ga hD k).2 g1⟩);refine ag (sg ?_);refine al (aY (fun(z:Nat)=>(⟨[(1,.l (.z (.ptr (.st (.pair (.slice (.int .i8)) (.pair (.int .u8) (.slice (.int .i8)))))) d)),(2,.l (.val (.slice none 0 0))),(3,.l (.z (.slice .str) (txP (nK d z)))),(5,.l (.z (.int .i64) (z:Int)))],[]⟩:aa)) (fun z=>z<=d.2.2.length/\z<=4) (fun z=>4-z) 0 ?_ ?_ ?_);·refine q_l ?_;exact⟨TX hk g1,rfl⟩
   ·omega
   ·rintro k2 g2;(try dsimp only at g2);refine ag (sg ?_);refine aS ?_ ?_
    ·(intro hb1;have hk2:=SL (n:=4) hb1;refine ak (af (ag (al (rq ?_ ?_))));·exact J6 hD hk2);refine aD (af (rg ?_));refine qm ?_;exact J7 hD hk2
    ·intro hb1;have hk2:=SM (n:=4) hb1;refine aT (aA (ao (an (af (sg ?_)))));refine av (qe [] ?_);exact TW hk2 g2
def H4(B:aq):Tab:=mT B [(9,.str),(49,(.st (.pair .bool (.pair (.slice (.int .u8)) (.int .u8))))),(51,(.st (.pair (.st (.pair .bool (.pair (.slice (.int .u8)) (.int .u8)))) (.st (.pair .bool (.pair (.slice (.int .u8)) (.int .u8)))))))] [] [(116,iB),(127,EJ)] [] 17
def zf:Con:=c1 (.st (.pair (.st (.pair .bool (.pair (.slice (.int .u8)) (.int .u8)))) (.st (.pair .bool (.pair (.slice (.int .u8)) (.int .u8)))))) (fun d=>Bn d) (fun d=>[.z .str (aG (dqv d))])
theorem Lg{B:aq}(hB:aN B):Valid B prog 86 zf:=by
 refine v1 (mg (T:=H4 B) (tc ty9 (tc UD (tc Tm ab))) ae (aC (cc func116 (jx hB) (cc func127 (Un hB) ax)))) func86 ?_;intro d hC X hP hT hr hG;have hX:=ai H4.eq_1<|ai cx<|ai EJ.eq_1<|iB.eq_1;simp only[f86,az,aj,ioB];refine sg ?_;refine ag (sq ?_ ?_);·exact hC.2
 refine qc ?_ ?_
 ·intro hb0;refine sq ?_ ?_;·exact hC.1
  refine av (aw (qe [] ?_));exact RC hC hb0
 ·intro hb0;refine ak (af (sd ?_ ?_));·exact⟨hC.1,hC.2,(Gc hC hb0).1⟩
  refine av (qe [] ?_);exact(Gc hC hb0).2
def H5(B:aq):Tab:=mT B [(3,(.int .i64)),(46,.str),(51,(.st (.pair (.st (.pair .bool (.pair (.slice (.int .u8)) (.int .u8)))) (.st (.pair .bool (.pair (.slice (.int .u8)) (.int .u8)))))))] [] [(39,lP),(86,zf)] [] 9
def zg:Con:=c1 (.st (.pair (.st (.pair .bool (.pair (.slice (.int .u8)) (.int .u8)))) (.st (.pair .bool (.pair (.slice (.int .u8)) (.int .u8)))))) (fun d=>Bn d) (fun d=>[.z .str (aG (iX d))])
theorem Lh{B:aq}(hB:aN B):Valid B prog 35 zg:=by
 refine v1 (mg (T:=H5 B) (tc ty3 (tc gj (tc Tm ab))) ae (aC (cc func39 (nA hB) (cc func86 (Lg hB) ax)))) func35 ?_;intro d hC X hP hT hr hG;have hX:=ai H5.eq_1<|ai cx<|ai zf.eq_1<|lP.eq_1;simp only[f35,az,aj,ioB];refine sg ?_;refine ag (sq ?_ ?_);·exact hC
 refine sq ?_ ?_;·exact DW hC
 refine qc ?_ ?_;·intro hb0;refine sg ?_;refine av (aw (qe [] ?_));exact RD hb0
 ·intro hb0;refine ak (af (sg ?_));refine av (qe [] ?_);exact RE hb0
def H6(B:aq):Tab:=mT B [(3,(.int .i64)),(22,(.slice .str)),(31,(.int .i64)),(46,.str)] [] [(37,pS)] [] 19
def vB:Con:=c1 (.slice .str) (fun p=>de p) (fun p=>[.z (.int .i64) (qX p)])
theorem Li{B:aq}(hB:aN B):Valid B prog 53 vB:=by
 refine v1 (mg (T:=H6 B) (tc ty3 (tc dM (tc kK (tc gj ab)))) ae (aC (cc func37 (xu hB) ax))) func53 ?_;intro p hC X hP hT hr hG;have hX:=ai H6.eq_1<|ai cx<|pS.eq_1;simp only[f53,az,aj,ioB];have hl:p.length<=1000000000:=hC.1;refine sg ?_;refine ag (sg ?_);refine al (aY (fun(z:Nat)=>(⟨[(0,.l (.z (.slice .str) p)),(2,.l (.z (.int .i64) 0)),(3,.l (.z (.int .i64) (z:Int)))],[]⟩:aa)) (fun z=>z<=p.length/\(p.take z).all (fun q=>decide (ck q=0))=true) (fun z=>p.length-z) 0 ?_ ?_ ?_);·refine q_l ?_;rfl
 ·exact⟨by omega,rfl⟩
 ·rintro k ⟨g1,g2⟩;try dsimp only at g1 g2
  refine ag (sg ?_);refine qc ?_ ?_
  ·(intro hb0;have hk:k<p.length:=Int.ofNat_lt.1 hb0;refine ak (af (ag (al (sq ?_ ?_))));·exact⟨⟨by omega,hb0⟩,hC.2 _ (eN (t:= .str) hk)⟩);refine sg ?_;refine qc ?_ ?_;·intro hb1;refine sg ?_;refine av (bk (aw (dc (bk (aw (qe [] ?_))))));exact Ol hk g2 hb1
   ·intro hb1;refine ak (aD (af (rg ?_)));refine qm ?_;exact⟨k+1,wo,hk,uG hk g2 hb1,by omega⟩
  ·intro hb0;have hk:¬k<p.length:=fun h=>hb0 (Int.ofNat_lt.2 h);refine aT (aA (ao (an (af (sg ?_)))));refine av (qe [] ?_);exact R2 hk g2
def H7(B:aq):Tab:=mT B [(3,(.int .i64)),(22,(.slice .str)),(31,(.int .i64)),(46,.str)] [] [(53,vB)] [] 25
def vC:Con:=c1 (.slice .str) (fun p=>de p) (fun p=>[.z .bool (decide (bG p=0))])
theorem Lj{B:aq}(hB:aN B):Valid B prog 13 vC:=by
 refine v1 (mg (T:=H7 B) (tc ty3 (tc dM (tc kK (tc gj ab)))) ae (aC (cc func53 (Li hB) ax))) func13 ?_;intro p hC X hP hT hr hG;have hX:=ai H7.eq_1<|ai cx<|vB.eq_1;simp only[f13,az,aj,ioB];have hl:p.length<=1000000000:=hC.1;refine sg ?_;refine sq ?_ ?_;·exact⟨fun h=>⟨h,hC⟩,id,id,id,id,id,id,id,fun h=>⟨h,D4 hl h⟩,id,id,fun h=>⟨h,fun h2=>by rw[h,h2];rfl⟩,id⟩
 refine av (qe [] ?_);exact D5
def H8(B:aq):Tab:=mT B [(3,(.int .i64)),(22,(.slice .str)),(44,(.slice (.slice .str))),(46,.str)] [] [(39,lP)] [] 29
def EK:Con:=c1 (.slice (.slice .str)) (fun m=>m.length<=1000/\∀p∈m,FL p) (fun m=>[.z .bool (m.all fun p=>p.all iy)])
theorem Lk{B:aq}(hB:aN B):Valid B prog 27 EK:=by
 refine v1 (mg (T:=H8 B) (tc ty3 (tc dM (tc rR (tc gj ab)))) ae (aC (cc func39 (nA hB) ax))) func27 ?_;intro m hC X hP hT hr hG;have hX:=ai H8.eq_1<|ai cx<|lP.eq_1;simp only[f27,az,aj,ioB];have hl:m.length<=1000:=hC.1;refine sg ?_;refine ag (sg ?_);refine al (aY (fun(z:Nat)=>(⟨[(0,.l (.z (.slice (.slice .str)) m)),(2,.l (.z .bool false)),(3,.l (.z (.int .i64) (z:Int)))],[]⟩:aa)) (fun z=>z<=m.length/\(m.take z).all (fun p=>p.all iy)=true) (fun z=>m.length-z) 0 ?_ ?_ ?_);·refine q_l ?_;rfl
 ·exact⟨by omega,rfl⟩
 ·rintro k ⟨g1,g2⟩;try dsimp only at g1 g2
  refine ag (sg ?_);refine qc ?_ ?_
  ·(intro hb0;have hk:k<m.length:=Int.ofNat_lt.1 hb0;have hr:=hC.2 _ (eN (t:= .slice .str) hk);refine ak (af (ag (al (sg ?_))));refine al (aY (fun(z:Nat)=>(⟨[(0,.l (.z (.slice (.slice .str)) m)),(2,.l (.z .bool false)),(3,.l (.z (.int .i64) (k:Int))),(4,.l (.z (.int .i64) (z:Int)))],[]⟩:aa)) (fun z=>z<=List.length (nth (.slice .str) m (k:Int))/\(List.take z (nth (.slice .str) m (k:Int))).all iy=true) (fun z=>List.length (nth (.slice .str) m (k:Int))-z) 0 ?_ ?_ ?_);·refine q_l ?_;rfl);·exact⟨by omega,rfl⟩
   ·(rintro j ⟨g3,g4⟩;(try dsimp only at g3 g4);refine ag (sq ?_ ?_);·exact⟨by omega,hb0⟩);refine qc ?_ ?_
    ·(intro hb1;have hj:j<List.length (nth (.slice .str) m (k:Int)):=Int.ofNat_lt.1 hb1;refine ak (af (ag (al (sq ?_ ?_))));·exact⟨⟨by omega,hb0⟩,⟨by omega,hb1⟩,hr.2 _ (eN (t:= .str) hj)⟩);refine qc ?_ ?_;·intro hb2;refine sg ?_;refine av (bk (aw (dc (bk (bk (aw (dc (bk (aw (qe [] ?_))))))))));exact Oq hk hj hb2
     ·intro hb2;refine ak (aD (af (rg ?_)));refine qm ?_;exact R0 hr.1 hj g4 hb2
    ·intro hb1;have hj:¬j<List.length (nth (.slice .str) m (k:Int)):=fun h=>hb1 (Int.ofNat_lt.2 h);refine aT (aA (ao (an (aD (af (rg ?_))))));refine qm ?_;exact Ot hl hk hj g2 g4
  ·intro hb0;have hk:¬k<m.length:=fun h=>hb0 (Int.ofNat_lt.2 h);refine aT (aA (ao (an (af (sg ?_)))));refine av (qe [] ?_);exact Kd hk g2
def H9(B:aq):Tab:=mT B [(3,(.int .i64)),(22,(.slice .str)),(31,(.int .i64)),(44,(.slice (.slice .str)))] [(44,22)] [(27,EK),(28,oJ)] [] 25
def EL:Con:=c3 (.slice .str) (.int .i64) (.slice .str) (fun p e w=>p.length<=QL/\FL w) (fun p e w=>[.z .bool (jQ p e w)])
theorem Ll{B:aq}(hB:aN B):Valid B prog 19 EL:=by
 refine v3 (mg (T:=H9 B) (tc ty3 (tc dM (tc kK (tc rR ab)))) (aK (by kernel_rfl) ae) (aC (cc func27 (Lk hB) (cc func28 (qZ hB) ax)))) func19 ?_;intro p e w hC X hP hT hr hG;have hX:=ai H9.eq_1<|ai cx<|ai EK.eq_1<|oJ.eq_1;simp only[f19,az,aj,ioB];refine sg ?_;refine ag (sq ?_ ?_);·exact fun x hx=>by rw[List.mem_singleton] at hx;subst hx;exact hC.2
 refine qc ?_ ?_
 ·intro hb0;refine sq ?_ ?_;·exact id
  refine av (aw (qe [] ?_));exact R3 hb0
 ·intro hb0;refine ak (af (sq ?_ ?_));·exact⟨fun h=>⟨h,hC.1,Nat.le_trans hC.2.1 (U1 (Nat.le_refl _))⟩,id⟩
  refine av (qe [] ?_);exact R4 hb0
def Ia(B:aq):Tab:=mT B [(3,(.int .i64)),(22,(.slice .str)),(46,.str)] [(22,46)] [] [22] 26
def P3:Con:=c1 (.slice .str) (fun p=>True) (fun p=>[.z (.slice .str) (oH p)])
theorem Lm{B:aq}(hB:aN B):Valid B prog 52 P3:=by
 refine v1 (mg (T:=Ia B) (tc ty3 (tc dM (tc gj ab))) (aK (by kernel_rfl) ae) (bI rfl)) func52 ?_;intro p hC X hP hT hr hG;have hX:=ai Ia.eq_1<|cx;simp only[f52,az,aj,ioB];refine sg ?_;refine sg ?_;refine ag (sq ?_ ?_);·exact R5
 refine al (aY (fun(z:Nat)=>(⟨[(3,.l (.ownS 23)),(10,.l (.z (.slice .str) (p.take 6))),(11,.l (.z (.int .i64) ((p.take 6).length:Int))),(12,.l (.z (.int .i64) (z:Int)))],[(23,.arr .str 46 ((p.take 6).take z|>.map fun q=>q.take 8))]⟩:aa)) (fun z=>z<=(p.take 6).length) (fun z=>(p.take 6).length-z) 0 ?_ ?_ ?_);·refine q_l ?_;rw[Ou];exact⟨rfl,rfl,rfl,by unfold ioB;omega⟩
 ·omega
 ·rintro k g1;try dsimp only at g1
  refine sg ?_;refine ag (qc ?_ ?_)
  ·(intro hb0;have hk:k<(List.take 6 p).length:=Int.ofNat_lt.1 hb0;refine ak (af (ag (al (sq ?_ ?_))));·exact⟨by omega,hb0⟩);(refine rq ?_ ?_;·exact Kf);refine aD (af (rg ?_));refine qm ?_;exact Ke hk
  ·intro hb0;have hk:¬k<(List.take 6 p).length:=fun h=>hb0 (Int.ofNat_lt.2 h);refine aT (aA (ao (an (af (sg ?_)))));refine av (qe [] ?_);exact R6 hk
def Ib(B:aq):Tab:=mT B [(22,(.slice .str)),(25,(.st (.pair (.slice (.int .i8)) (.pair (.int .u8) (.slice (.int .i8)))))),(27,(.arr 2 (.slice .str))),(28,(.arr 4 (.arr 2 (.slice .str))))] [] [(40,ze),(52,P3)] [] 30
def zh:Con:=c4 (.slice .str) (.slice .str) (.st (.pair (.slice (.int .i8)) (.pair (.int .u8) (.slice (.int .i8))))) (.st (.pair (.slice (.int .i8)) (.pair (.int .u8) (.slice (.int .i8))))) (fun p q d f=>jT d/\jT f) (fun p q d f=>[.z (.arr 4 (.arr 2 (.slice .str))) (oI p q d f)])
theorem Ln{B:aq}(hB:aN B):Valid B prog 12 zh:=by
 refine v4 (mg (T:=Ib B) (tc dM (tc Tk (tc UB (tc UC ab)))) ae (aC (cc func40 (Lf hB) (cc func52 (Lm hB) ax)))) func12 ?_;intro p q d f hC X hP hT hr hG;have hX:=ai Ib.eq_1<|ai cx<|ai ze.eq_1<|ai P3.eq_1<|ai @List.replicate_succ.{0}<|ai @List.replicate_zero.{0}<|ai @List.flatten_cons.{0}<| @List.flatten_nil.{0};simp only[f12,az,aj,ioB];refine sg ?_;refine sd ?_ ?_;·exact⟨hC.2,hC.1,hC.1,hC.2⟩
 refine av (qe [] ?_);rfl
def Ic(B:aq):Tab:=mT B [(3,(.int .i64)),(22,(.slice .str)),(31,(.int .i64)),(46,.str)] [(22,46)] [(14,pZ),(15,PY),(16,PZ),(17,P0),(23,zb),(24,Ez),(28,y6),(29,Cj),(30,Ck),(31,zc),(36,zd),(41,P2),(45,Uk),(94,Ul)] [] 218
def zi:Con:=c0 (True) ([.z .bool true])
set_option maxHeartbeats 2000000 in
theorem Lo{B:aq}(hB:aN B):Valid B prog 11 zi:=by
 refine v0 (mg (T:=Ic B) (tc ty3 (tc dM (tc kK (tc gj ab)))) (aK (by kernel_rfl) ae) (aC (cc func14 (xR hB) (cc func15 (K4 hB) (cc func16 (K5 hB) (cc func17 (K6 hB) (cc func23 (EC hB) (cc func24 (EA hB) (cc func28 (En hB) (cc func29 (xS hB) (cc func30 (xT hB) (cc func31 (ED hB) (cc func36 (EE hB) (cc func41 (EF hB) (cc func45 (K9 hB) (cc func94 (La hB) ax)))))))))))))))) func11 ?_;intro hC X hP hT hr hG;have hX:=ai Ic.eq_1<|ai cx<|ai Um.eq_1<|ai P2.eq_1<|ai Ul.eq_1<|ai Uk.eq_1<|ai PY.eq_1<|ai pZ.eq_1<|ai vy.eq_1<|ai zc.eq_1<|ai Cj.eq_1<|ai EB.eq_1<|ai zb.eq_1<|ai vz.eq_1<|ai zd.eq_1<|ai P1.eq_1<|ai Ez.eq_1<|ai P0.eq_1<|ai Ck.eq_1<|ai PZ.eq_1<|ai oJ.eq_1<|ai y6.eq_1<| @List.append_eq.{0};simp only[f11,az,aj,ioB];refine sg ?_;refine cm (fun(z:Unit)=>(⟨[(0,.l (.z .bool false)),(1,.l (.z (.slice .str) [[49],[49],[49]])),(2,.l (.z (.slice .str) [])),(3,.l (.z (.int .i64) 0))],[]⟩:aa)) (fun z=>True) ?_ ?_
 ·refine rq ?_ ?_;·exact DU (n:=4) (K:=1) (by decide+kernel) (by decide+kernel)
  refine qm ?_;exact wp1
 rintro⟨⟩-;refine cm (fun(z:Unit)=>(⟨[(0,.l (.z .bool false)),(1,.l (.z (.slice .str) [[49],[49],[49]])),(2,.l (.z (.slice .str) [])),(3,.l (.z (.int .i64) 0)),(4,.l (.z (.slice .str) [[48],[49,47,50]])),(5,.l (.z (.slice .str) [[49]])),(6,.l (.z (.int .i64) 0))],[]⟩:aa)) (fun z=>True) ?_ ?_
 ·refine rq ?_ ?_;·exact DU (n:=4) (K:=1) (by decide+kernel) (by decide+kernel)
  refine qm ?_;exact wp2
 rintro⟨⟩-;refine cm (fun(z:Unit)=>(⟨[(0,.l (.z .bool false)),(1,.l (.z (.slice .str) [[49],[49],[49]])),(2,.l (.z (.slice .str) [])),(3,.l (.z (.int .i64) 0)),(4,.l (.z (.slice .str) [[48],[49,47,50]])),(5,.l (.z (.slice .str) [[49]])),(6,.l (.z (.int .i64) 0)),(9,.l (.z (.int .i64) 2))],[]⟩:aa)) (fun z=>True) ?_ ?_
 ·refine rq ?_ ?_;·exact DU (n:=4) (K:=1) (by decide+kernel) (by decide+kernel)
  refine qm ?_;exact wp3
 rintro⟨⟩-;refine cm (fun(z:Unit)=>(⟨[(0,.l (.z .bool false)),(1,.l (.z (.slice .str) [[49],[49],[49]])),(2,.l (.z (.slice .str) [])),(3,.l (.z (.int .i64) 0)),(4,.l (.z (.slice .str) [[48],[49,47,50]])),(5,.l (.z (.slice .str) [[49]])),(6,.l (.z (.int .i64) 0)),(9,.l (.z (.int .i64) 2)),(10,.l (.z .str [53,47,52])),(11,.l (.z (.int .i64) 0))],[]⟩:aa)) (fun z=>True) ?_ ?_
 ·refine rq ?_ ?_;·exact N6 (n:=4) (K:=1) (by decide+kernel) (by decide)
  refine qm ?_;exact wp4
 rintro⟨⟩-;refine cm (fun(z:Unit)=>(⟨[(0,.l (.z .bool false)),(1,.l (.z (.slice .str) [[49],[49],[49]])),(2,.l (.z (.slice .str) [])),(3,.l (.z (.int .i64) 0)),(4,.l (.z (.slice .str) [[48],[49,47,50]])),(5,.l (.z (.slice .str) [[49]])),(6,.l (.z (.int .i64) 0)),(9,.l (.z (.int .i64) 2)),(10,.l (.z .str [53,47,52])),(11,.l (.z (.int .i64) 0)),(13,.l (.z (.int .i64) 5))],[]⟩:aa)) (fun z=>True) ?_ ?_
 ·refine rq ?_ ?_;·exact N6 (n:=4) (K:=1) (by decide+kernel) (by decide)
  refine qm ?_;exact wp5
 rintro⟨⟩-;refine cm (fun(z:Unit)=>(⟨[(0,.l (.z .bool false)),(14,.l (.z .bool true))],[]⟩:aa)) (fun z=>True) ?_ ?_
 ·refine rq ?_ ?_;·exact wsq
  refine qm ?_;rfl
 rintro⟨⟩-;refine cm (fun(z:Unit)=>(⟨[(0,.l (.z .bool false)),(14,.l (.z .bool true))],[]⟩:aa)) (fun z=>True) ?_ ?_
 ·refine rq ?_ ?_;·simp[wp6.1,wp6.2,wp7.1,wp7.2,wp8.1,wp8.2,wp9.1,wp9.2,RI.1,RI.2,RJ.1,RJ.2,ok6,ok7,ok8,ok9,Vk,Vl,QL]
  refine qm ?_;simp[wp6.1,wp6.2,wp7.1,wp7.2,wp8.1,wp8.2,wp9.1,wp9.2,RI.1,RI.2,RJ.1,RJ.2]
 rintro⟨⟩-;refine cm (fun(z:Unit)=>(⟨[(0,.l (.z .bool false)),(14,.l (.z .bool true))],[]⟩:aa)) (fun z=>True) ?_ ?_
 ·refine rq ?_ ?_;·simp[RL.1,RL.2,RM.1,RM.2,RN.1,RN.2,RO.1,RO.2,Vm,Vn,Vo,Vp,QL]
  refine qm ?_;simp[RL.1,RL.2,RM.1,RM.2,RN.1,RN.2,RO.1,RO.2]
 rintro⟨⟩-;refine sq ?_ ?_;·simp[RP.1,RP.2,U0.1,U0.2]
 refine av (qe [] ?_);simp[RP.1,RP.2]
def Ie(B:aq):Tab:=mT B [(3,(.int .i64)),(9,.str),(22,(.slice .str)),(46,.str),(104,(.slice .str))] [(104,9)] [(84,mV),(92,gT),(116,iB),(117,mS),(121,BX),(122,vg)] [63] 65
def p7:Con:=c1 (.slice .str) (fun p=>WhR p) (fun p=>[.z (.slice .str) (txP (cb (nl p)))])
theorem xY{B:aq}(hB:aN B):Valid B prog 71 p7:=by
 refine v1 (mg (T:=Ie B) (tc ty3 (tc ty9 (tc dM (tc gj (tc Fy ab))))) (aK (by kernel_rfl) ae) (aC (cc func84 (kY hB) (cc func92 (kX hB) (cc func116 (jx hB) (cc func117 (mU hB) (cc func121 (BZ hB) (cc func122 (vh hB) ax)))))))) func71 ?_;intro p hC X hP hT hr hG;have hX:=ai Ie.eq_1<|ai cx<|ai iB.eq_1<|ai mV.eq_1<|ai gT.eq_1<|ai BX.eq_1<|ai vg.eq_1<|mS.eq_1;simp only[f71,az,aj,ioB];obtain⟨l,rfl,hl,ht,hd⟩:=U5 hC;simp only[bJ];refine sg ?_;refine sg ?_;refine ag (sg ?_);refine al (aY (fun(z:Nat)=>(⟨[(0,.l (.z (.slice .str) (txP l))),(2,.l (.val (.slice none 0 0))),(3,.l (.z .str (Lib.itoa (ez l z:Int)))),(4,.l (.z .str (Lib.itoa (fk l z:Int)))),(5,.l (.z (.int .i64) (z:Int)))],[]⟩:aa)) (fun z=>z<=l.length) (fun z=>l.length-z) 0 ?_ ?_ ?_);·refine q_l ?_;exact OC l
 ·omega
 ·rintro k g1;try dsimp only at g1
  refine ag (sg ?_);refine qc ?_ ?_
  ·(intro hb0;(have hk:k<l.length:=by have h9:(k:Int)<(((txP l).length:Nat):Int):=hb0;rw[aR] at h9;omega);refine ak (af (ag (al (sq ?_ ?_))));·exact OD hd hk);(refine sq ?_ ?_;·exact OE hd hk);(refine sq ?_ ?_;·exact OG hd hk);(refine rq ?_ ?_;·exact OH hd hk);refine aD (af (rg ?_));refine qm ?_;exact Kj hl hk
  ·(intro hb0;(have hk:¬k<l.length:=by have h9:¬(k:Int)<(((txP l).length:Nat):Int):=hb0;rw[aR] at h9;omega);refine aT (aA (ao (an (af (sg ?_)))));refine ag (sg ?_);refine al (aY (fun(z:Nat)=>(⟨[(0,.l (.z (.slice .str) (txP l))),(2,.l (.val (.slice none 0 0))),(3,.l (.z .str (Lib.itoa (ez l l.length:Int)))),(4,.l (.z .str (Lib.itoa (fk l l.length:Int)))),(10,.l (.ownS 64)),(11,.l (.z (.int .i64) (z:Int)))],[(64,.arr .str 9 (txP ((cb l).take z)))]⟩:aa)) (fun z=>z<=l.length) (fun z=>l.length-z) 0 ?_ ?_ ?_);·refine q_l ?_;exact T6 g1 hk);·omega
   ·rintro j g2;(try dsimp only at g2);refine ag (sg ?_);refine qc ?_ ?_
    ·(intro hb1;(have hj:j<l.length:=by have h9:(j:Int)<(((txP l).length:Nat):Int):=hb1;rw[aR] at h9;omega);refine ak (af (ag (al (sd ?_ ?_))));·exact Kk ht hd hj);(refine rq ?_ ?_;·exact Ea hl j);refine aD (af (rg ?_));refine qm ?_;exact Kl hl ht hd hj
    ·intro hb1;(have hj:¬j<l.length:=by have h9:¬(j:Int)<(((txP l).length:Nat):Int):=hb1;rw[aR] at h9;omega);refine aT (aA (ao (an (af (sg ?_)))));refine av (qe [] ?_);exact T7 hj
def Ig(B:aq):Tab:=mT B [(3,(.int .i64)),(22,(.slice .str)),(46,.str)] [] [(65,jl),(75,B2)] [] 15
def p8:Con:=c1 (.slice .str) (fun p=>Sa p) (fun p=>[.z (.slice .str) (txP (pK (nl p)))])
theorem xZ{B:aq}(hB:aN B):Valid B prog 73 p8:=by
 refine v1 (mg (T:=Ig B) (tc ty3 (tc dM (tc gj ab))) ae (aC (cc func65 (nG hB) (cc func75 (xx hB) ax)))) func73 ?_;intro p hC X hP hT hr hG;have hX:=ai Ig.eq_1<|ai cx<|ai B2.eq_1<|jl.eq_1;simp only[f73,az,aj,ioB];obtain⟨l,rfl,hl,ht,hK⟩:=T8 hC;simp only[bJ];refine sg ?_;refine ag (sg ?_);refine qc ?_ ?_;·intro hb0;obtain rfl:=NY.1 hb0;refine sg ?_;refine av (aw (qe [] ?_));rfl
 ·intro hb0;have h0:l≠[]:=fun e=>hb0 (NY.2 e);refine ak (af (sq ?_ ?_));·exact Km hl ht hK h0
  refine av (qe [] ?_);simp only[bJ];exact OJ hl h0
def Ih(B:aq):Tab:=mT B [(3,(.int .i64)),(9,.str),(22,(.slice .str)),(104,(.slice .str))] [(22,46)] [] [17] 19
def EM:Con:=c1 (.slice .str) (fun p=>p.length<=1000) (fun p=>[.z (.slice .str) p])
theorem Lp{B:aq}(hB:aN B):Valid B prog 74 EM:=by
 refine v1 (mg (T:=Ih B) (tc ty3 (tc ty9 (tc dM (tc Fy ab)))) (aK (by kernel_rfl) ae) (bI rfl)) func74 ?_;intro p hC X hP hT hr hG;have hX:=ai Ih.eq_1<|cx;simp only[f74,az,aj,ioB];have hl:p.length<=1000:=hC;refine sg ?_;refine sg ?_;refine ag (sg ?_);refine al (aY (fun(z:Nat)=>(⟨[(0,.l (.z (.slice .str) p)),(2,.l (.val (.slice none 0 0))),(3,.l (.ownS 18)),(4,.l (.z (.int .i64) (z:Int)))],[(18,.arr .str 46 (p.take z))]⟩:aa)) (fun z=>z<=p.length) (fun z=>p.length-z) 0 ?_ ?_ ?_);·refine q_l ?_;exact⟨rfl,by unfold ioB;omega⟩
 ·omega
 ·rintro k g1;try dsimp only at g1
  refine ag (sg ?_);refine qc ?_ ?_
  ·(intro hb0;have hk:k<p.length:=Int.ofNat_lt.1 hb0;refine ak (af (ag (al (rq ?_ ?_))));·exact Kn hl hk);refine aD (af (rg ?_));refine qm ?_;exact Eb hl hk
  ·intro hb0;have hk:¬k<p.length:=fun h=>hb0 (Int.ofNat_lt.2 h);refine aT (aA (ao (an (af (sg ?_)))));refine av (qe [] ?_);exact List.take_of_length_le (by omega)
def Ii(B:aq):Tab:=mT B [(3,(.int .i64)),(9,.str),(22,(.slice .str)),(104,(.slice .str))] [(22,46)] [(64,iC),(71,p7),(117,mS),(123,BV)] [58] 63
def EN:Con:=c2 (.slice .str) (.slice .str) (fun p q=>Oy p q) (fun p q=>[.z (.slice .str) (txP (fJ (nl p) (nl q)))])
set_option maxHeartbeats 2000000 in
theorem Lq{B:aq}(hB:aN B):Valid B prog 72 EN:=by
 refine v2 (mg (T:=Ii B) (tc ty3 (tc ty9 (tc dM (tc Fy ab)))) (aK (by kernel_rfl) ae) (aC (cc func64 (iD hB) (cc func71 (xY hB) (cc func117 (mU hB) (cc func123 (BW hB) ax)))))) func72 ?_;intro p q hC X hP hT hr hG;have hX:=ai Ii.eq_1<|ai cx<|ai mS.eq_1<|ai BV.eq_1<|ai iC.eq_1<|p7.eq_1;simp only[f72,az,aj,ioB];obtain⟨l,m,rfl,rfl,hL⟩:=Sb hC;simp only[bJ];obtain⟨c,zm,hc,hI⟩:=D9 hL;have zk:Zb RK m:=zm.mono hc;have hm:=hL.b0;have hlm:=hL.lb;have hmp:=List.length_pos_iff.2 hm;refine sg ?_;refine ag (al (aY (fun(z:List Rat)=>(⟨[(0,.l (.z (.slice .str) (txP z))),(1,.l (.z (.slice .str) (txP m))),(4,.l (.val (.slice none 0 0)))],[]⟩:aa)) (fun z=>mO m (fJ l m) c z) (fun z=>z.length) l ?_ ?_ ?_));·refine q_l ?_;trivial
 ·exact hI
 ·rintro y g1;try dsimp only at g1
  have hly:=g1.la;have zy:=g1.z;refine ag (sg ?_);refine qc ?_ ?_
  ·(intro hb0;have hl:=Oz hb0;obtain⟨n1,n2,n3⟩:=g1.next hm zm hl;refine ak (af (al (sg ?_)));refine sg ?_;refine ag (sg ?_);refine al (aY (fun(z:Nat)=>(⟨[(0,.l (.z (.slice .str) (txP y))),(1,.l (.z (.slice .str) (txP m))),(4,.l (.val (.slice none 0 0))),(5,.l (.z (.int .i64) ((y.length-m.length:Nat):Int))),(6,.l (.ownS 59)),(7,.l (.z (.int .i64) (z:Int)))],[(59,.arr .str 46 (txP (eb m y z)))]⟩:aa)) (fun z=>z<=y.length-1) (fun z=>y.length-1-z) 0 ?_ ?_ ?_);·refine q_l ?_;exact BF hly hl);·omega
   ·rintro j g2;(try dsimp only at g2);refine ag (sg ?_);refine qc ?_ ?_
    ·(intro hb1;have hj:=Vr hly hl hmp hb1;refine ak (af (ag (al (sd ?_ ?_))));·exact OK zy zk hly hl hmp hj);refine cm (fun(z:Unit)=>(⟨[(0,.l (.z (.slice .str) (txP y))),(1,.l (.z (.slice .str) (txP m))),(4,.l (.val (.slice none 0 0))),(5,.l (.z (.int .i64) ((y.length-m.length:Nat):Int))),(6,.l (.ownS 59)),(7,.l (.z (.int .i64) (j:Int))),(8,.l (.z .str (aG (mM m y j))))],[(59,.arr .str 46 (txP (eb m y j)))]⟩:aa)) (fun z=>True) ?_ ?_
     ·refine sg ?_;refine qc ?_ ?_
      ·(intro hb2;(have hk:y.length-m.length<=j:=by omega);refine rd ?_ ?_;·exact OL zy zk hly hl hmp hj hk);refine qm ?_;first|(have h9:y.length-m.length<=j:=hk;exact Gp zy zk hly hl hmp hj h9)|exact Gq zy zk hly hl hmp hj hk
      ·intro hb2;(have hk:¬y.length-m.length<=j:=by omega);refine ak (qm ?_);first|(have h9:y.length-m.length<=j:=hk;exact Gp zy zk hly hl hmp hj h9)|exact Gq zy zk hly hl hmp hj hk
     (rintro⟨⟩-;refine rq ?_ ?_;·exact kA (by rw[aR,nz];omega));refine aD (af (rg ?_));refine qm ?_;exact OM hly hj
    ·(intro hb1;have hj:=Vs hly hl hmp hb1;refine aT (aA (ao (an (af (rq ?_ ?_)))));·exact Ko g1 zm n3 hl hmp g2 hj);refine aD (qm ?_);exact Ua n1 n2 g2 hj
  ·intro hb0;have hl:=OA hb0;refine aT (aA (ao (an (af (sg ?_)))));refine av (qe [] ?_);exact Ub g1 hl
def Ij(B:aq):Tab:=mT B [(3,(.int .i64)),(22,(.slice .str)),(104,(.slice .str))] [] [(71,p7),(72,EN),(73,p8),(74,EM)] [] 23
def EO:Con:=c2 (.slice .str) (.slice .str) (fun p q=>GR 10 p/\GR 10 q) (fun p q=>[.z (.slice .str) (txP (gO (nl p) (nl q)))])
theorem Lr{B:aq}(hB:aN B):Valid B prog 25 EO:=by
 refine v2 (mg (T:=Ij B) (tc ty3 (tc dM (tc Fy ab))) ae (aC (cc func71 (xY hB) (cc func72 (Lq hB) (cc func73 (xZ hB) (cc func74 (Lp hB) ax)))))) func25 ?_;intro p q hC X hP hT hr hG;have hX:=ai Ij.eq_1<|ai cx<|ai p8.eq_1<|ai EM.eq_1<|ai EN.eq_1<|p7.eq_1;simp only[f25,az,aj,ioB];have hs:=xm hC.1.2 hC.2.2;refine sg ?_;refine sq ?_ ?_;·exact⟨SP hC.1,SP hC.2⟩
 refine ag (al (aY (fun(z:List Rat×List Rat)=>(⟨[(0,.l (.z (.slice .str) p)),(1,.l (.z (.slice .str) q)),(4,.l (.val (.slice none 0 0))),(5,.l (.z (.slice .str) (txP z.1))),(6,.l (.z (.slice .str) (txP z.2)))],[]⟩:aa)) (fun z=>jP z.1 z.2/\nL z.1 z.2=nL (cb (nl p)) (cb (nl q))) (fun z=>z.2.length) (cb (nl p),cb (nl q)) ?_ ?_ ?_));·refine q_l ?_;trivial
 ·exact⟨hs,rfl⟩
 ·rintro⟨a,b⟩ ⟨g1,g2⟩;try dsimp only at g1 g2
  refine ag (sg ?_);refine qc ?_ ?_
  ·(intro hb0;have hb:=T4 hb0;obtain⟨h1,h2,h3,h4⟩:=g1.next hb;refine ak (af (al (sq ?_ ?_)));·exact Kq g1 hb);refine sg ?_;refine rg ?_;refine aD (qm ?_);exact⟨b,rfl,fJ a b,by rw[bJ,bJ],h1,by rw[<- g2];exact qV hb,h3⟩
  ·(intro hb0;have hb:=T5 hb0;refine aT (aA (ao (an (af (sq ?_ ?_)))));·exact ON g1);refine av (qe [] ?_);exact OO hb g2
def Ik(B:aq):Tab:=mT B [(3,(.int .i64)),(22,(.slice .str)),(46,.str)] [(22,46)] [(20,lS),(21,EI),(65,jl),(66,p6),(75,B2)] [] 47
def EP:Con:=c2 (.slice .str) (.slice .str) (fun p q=>OB p q) (fun p q=>[.z (.slice .str) (txP (gQ (nl p) (nl q)).1),.z (.slice .str) (txP (gQ (nl p) (nl q)).2)])
theorem Ls{B:aq}(hB:aN B):Valid B prog 26 EP:=by
 refine v2 (mg (T:=Ik B) (tc ty3 (tc dM (tc gj ab))) (aK (by kernel_rfl) ae) (aC (cc func20 (nF hB) (cc func21 (Le hB) (cc func65 (nG hB) (cc func66 (xW hB) (cc func75 (xx hB) ax))))))) func26 ?_;intro p q hC X hP hT hr hG;have hX:=ai Ik.eq_1<|ai cx<|ai lS.eq_1<|ai B2.eq_1<|ai jl.eq_1<|ai p6.eq_1<|EI.eq_1;simp only[f26,az,aj,ioB];obtain⟨l,m,c,rfl,rfl,hI,dm,tm,hm,hlm⟩:=Sc hC;simp only[bJ];refine sg ?_;refine sg ?_;refine ag (al (aY (fun(z:List Rat×List Rat)=>(⟨[(0,.l (.z (.slice .str) (txP z.1))),(1,.l (.z (.slice .str) (txP m))),(4,.l (.val (.slice none 0 0))),(5,.l (.val (.slice none 0 0))),(6,.l (.z (.slice .str) (txP z.2)))],[]⟩:aa)) (fun z=>oG m c (gQ l m) z.1 z.2) (fun z=>z.1.length) (l,[]) ?_ ?_ ?_));·refine q_l ?_;rfl
 ·exact hI
 ·rintro⟨y,s⟩ g1;try dsimp only at g1
  refine ag (sg ?_);refine qc ?_ ?_
  ·(intro hb0;have hl:=Oz hb0;obtain⟨s1,s2,s3,s4⟩:=g1.sizes dm hl;obtain⟨n1,n2⟩:=g1.next dm hm tm hl;have hy:=g1.lp;obtain⟨v1,v2⟩:=OP hy hlm hl hm;refine ak (af (al (sg ?_)));refine sd ?_ ?_;·exact Ec hy hlm hl hm tm s1 s2);(simp only[v1,v2];refine sq ?_ ?_;·exact Ed g1 dm hl);(refine rq ?_ ?_;·exact Ee g1 dm hl);refine aD (qm ?_);exact OQ n1 n2
  ·intro hb0;have hl:=OA hb0;refine aT (aA (ao (an (af (sg ?_)))));refine av (qe [] ?_);exact Kr g1 hl
def Il(B:aq):Tab:=mT B [(3,(.int .i64)),(22,(.slice .str)),(46,.str)] [(22,46)] [(84,mV),(85,PF)] [] 22
def vD:Con:=c1 (.slice .str) (fun p=>GL 10000 p/\p.length<=100) (fun p=>[.z (.slice .str) (txP (bl (nl p)))])
theorem x7{B:aq}(hB:aN B):Valid B prog 32 vD:=by
 refine v1 (mg (T:=Il B) (tc ty3 (tc dM (tc gj ab))) (aK (by kernel_rfl) ae) (aC (cc func84 (kY hB) (cc func85 (xv hB) ax)))) func32 ?_;intro p hC X hP hT hr hG;have hX:=ai Il.eq_1<|ai cx<|ai mV.eq_1<|PF.eq_1;simp only[f32,az,aj,ioB];obtain⟨hp,hl⟩:=hC;refine sg ?_;refine sg ?_;refine ag (sg ?_);refine al (aY (fun(z:Nat)=>(⟨[(0,.l (.z (.slice .str) p)),(2,.l (.val (.slice none 0 0))),(3,.l (.ownS 21)),(4,.l (.z (.int .i64) (z:Int)))],[(21,.arr .str 46 (txP (ir (nl p) z)))]⟩:aa)) (fun z=>1<=z/\z<=max p.length 1) (fun z=>p.length-z) 1 ?_ ?_ ?_);·refine q_l ?_;exact Ef
 ·omega
 ·rintro k ⟨g0,g1⟩;try dsimp only at g0 g1
  refine ag (sg ?_);refine qc ?_ ?_
  ·(intro hb0;have hk:k<p.length:=Int.ofNat_lt.1 hb0;refine ak (af (ag (al (so 21 44 (by simp only[aa.toRow,LV.toRow,ioB,mx0,mx1,mx2,mx3,mx4,mx5,mx6,Nat.reduceLT,Nat.reduceEqDiff,Nat.reduceAdd,Nat.reduceMul,Nat.reduceSub,Nat.reduceLeDiff,Nat.reduceBEq,Nat.reduceBNe,reduceIte,reduceDIte,reduceCtorEq];rfl) ?_))));refine rd ?_ ?_;·exact Ks hp hl hk);refine aD (af (pX 21 1 (by simp only[aa.ofRow,LV.ofRow,ioB,List.set_cons_zero,List.set_cons_succ,List.append_nil,List.nil_append,List.cons_append,List.getElem?_cons_zero,List.getElem?_cons_succ,Option.getD_some,mx0,mx1,mx2,mx3,mx4,mx5,mx6,Nat.reduceLT,Nat.reduceEqDiff,Nat.reduceAdd,Nat.reduceMul,Nat.reduceSub,Nat.reduceLeDiff,Nat.reduceBEq,Nat.reduceBNe,reduceIte,reduceDIte,reduceCtorEq];rfl) ?_));refine rg ?_;refine qm ?_;exact Eg hp hl g0 hk
  ·intro hb0;have hk:¬k<p.length:=fun h=>hb0 (Int.ofNat_lt.2 h);refine aT (aA (ao (an (af (sg ?_)))));refine av (qe [] ?_);exact OS g0 g1 hk
def Im(B:aq):Tab:=mT B [(3,(.int .i64)),(22,(.slice .str))] [] [(25,EO),(26,EP),(32,vD),(73,p8)] [] 19
def ER:Con:=c1 (.slice .str) (fun p=>GR 9 p) (fun p=>[.z (.slice .str) (txP (nX (nl p)))])
theorem Lt{B:aq}(hB:aN B):Valid B prog 33 ER:=by
 refine v1 (mg (T:=Im B) (tc ty3 (tc dM ab)) ae (aC (cc func25 (Lr hB) (cc func26 (Ls hB) (cc func32 (x7 hB) (cc func73 (xZ hB) ax)))))) func33 ?_;intro p hC X hP hT hr hG;have hX:=ai Im.eq_1<|ai cx<|ai vD.eq_1<|ai EP.eq_1<|ai EO.eq_1<|p8.eq_1;simp only[f33,az,aj,ioB];refine sg ?_;refine ag (sg ?_);refine qc ?_ ?_;·intro hb0;obtain rfl:=List.eq_nil_of_length_eq_zero (Int.ofNat.inj hb0);refine sg ?_;refine av (aw (qe [] ?_));rfl
 ·intro hb0;have h0:p≠[]:=fun e=>hb0 (by rw[e];rfl);refine ak (af (sq ?_ ?_));·exact Kt hC h0
  refine sq ?_ ?_;·exact OT hC h0
  refine av (qe [] ?_);exact OU hC h0
def Io(B:aq):Tab:=mT B [(3,(.int .i64)),(22,(.slice .str)),(46,.str)] [(22,46)] [(20,lS),(22,vA),(64,iC)] [] 25
def zj:Con:=c2 (.slice .str) (.slice .str) (fun p q=>GR 9 p/\GR 9 q) (fun p q=>[.z (.slice .str) (txP (fH (nl p) (nl q)))])
theorem Lu{B:aq}(hB:aN B):Valid B prog 34 zj:=by
 refine v2 (mg (T:=Io B) (tc ty3 (tc dM (tc gj ab))) (aK (by kernel_rfl) ae) (aC (cc func20 (nF hB) (cc func22 (xX hB) (cc func64 (iD hB) ax))))) func34 ?_;intro p q hC X hP hT hr hG;have hX:=ai Io.eq_1<|ai cx<|ai lS.eq_1<|ai vA.eq_1<|iC.eq_1;simp only[f34,az,aj,ioB];obtain⟨hp,hq⟩:=hC;have hl:=hp.len;have hl2:=hq.len;refine sg ?_;refine sg ?_;refine ag (sg ?_);refine al (aY (fun(z:Nat)=>(⟨[(0,.l (.z (.slice .str) p)),(1,.l (.z (.slice .str) q)),(4,.l (.val (.slice none 0 0))),(5,.l (.z (.slice .str) (txP (cV (nl p) (nl q) (p.length-z))))),(6,.l (.z (.int .i64) ((z:Int)-1)))],[]⟩:aa)) (fun z=>z<=p.length) (fun z=>z) p.length ?_ ?_ ?_);·refine q_l ?_;exact Eh hl
 ·omega
 ·rintro k g1;try dsimp only at g1
  refine ag (sg ?_);refine qc ?_ ?_
  ·(intro hb0;(have hk:0<k:=by have h9:(0:Int)<=(k:Int)-1:=hb0;omega);obtain⟨k,rfl⟩:∃j,k=j+1:=⟨k-1,by omega⟩;refine ak (af (ag (al (rd ?_ ?_))));·exact Ku hp hq g1);refine aD (af (rg ?_));refine qm ?_;exact Ei hp hq g1
  ·intro hb0;(obtain rfl:k=0:=by have h9:¬(0:Int)<=(k:Int)-1:=hb0;omega);refine aT (aA (ao (an (af (sg ?_)))));refine av (qe [] ?_);exact OV
def Ip(B:aq):Tab:=mT B [(3,(.int .i64)),(22,(.slice .str)),(46,.str)] [] [(62,B1),(84,mV)] [] 23
def zn:Con:=c2 (.slice .str) .str (fun p x=>GL 1000 p/\p.length<=100/\GQ 1000 x) (fun p x=>[.z .str (aG (au (nl p) (aU x)))])
theorem Lv{B:aq}(hB:aN B):Valid B prog 38 zn:=by
 refine v2 (mg (T:=Ip B) (tc ty3 (tc dM (tc gj ab))) ae (aC (cc func62 (xw hB) (cc func84 (kY hB) ax)))) func38 ?_;intro p x hC X hP hT hr hG;have hX:=ai Ip.eq_1<|ai cx<|ai B1.eq_1<|mV.eq_1;simp only[f38,az,aj,ioB];obtain⟨hp,hl,hx⟩:=hC;refine sg ?_;refine sg ?_;refine ag (sg ?_);refine al (aY (fun(z:Nat)=>(⟨[(0,.l (.z (.slice .str) p)),(1,.l (.z .str x)),(4,.l (.z .str [])),(5,.l (.z .str (aG (au ((nl p).drop z) (aU x))))),(6,.l (.z (.int .i64) ((z:Int)-1)))],[]⟩:aa)) (fun z=>z<=p.length) (fun z=>z) p.length ?_ ?_ ?_);·refine q_l ?_;exact Ej hl
 ·omega
 ·rintro k g1;try dsimp only at g1
  refine ag (sg ?_);refine qc ?_ ?_
  ·(intro hb0;(have hk:0<k:=by have h9:(0:Int)<=(k:Int)-1:=hb0;omega);obtain⟨k,rfl⟩:∃j,k=j+1:=⟨k-1,by omega⟩;refine ak (af (ag (al (rd ?_ ?_))));·exact Kv hp hl hx g1);refine aD (af (rg ?_));refine qm ?_;exact Ek hp hl g1
  ·intro hb0;(obtain rfl:k=0:=by have h9:¬(0:Int)<=(k:Int)-1:=hb0;omega);refine aT (aA (ao (an (af (sg ?_)))));refine av (qe [] ?_);trivial
def Iq(B:aq):Tab:=mT B [(3,(.int .i64)),(22,(.slice .str)),(25,(.st (.pair (.slice (.int .i8)) (.pair (.int .u8) (.slice (.int .i8)))))),(27,(.arr 2 (.slice .str))),(28,(.arr 4 (.arr 2 (.slice .str)))),(31,(.int .i64)),(46,.str),(51,(.st (.pair (.st (.pair .bool (.pair (.slice (.int .u8)) (.int .u8)))) (.st (.pair .bool (.pair (.slice (.int .u8)) (.int .u8))))))),(55,(.arr 2 .str))] [] [(11,zi),(12,zh),(13,vC),(18,EG),(19,EL),(29,Cj),(30,Ck),(31,vy),(32,vD),(33,ER),(34,zj),(35,zg),(36,vz),(37,pS),(38,zn),(39,lP)] [] 198
def Cl:Con:=c6 (.slice .str) (.slice .str) .str (.st (.pair (.slice (.int .i8)) (.pair (.int .u8) (.slice (.int .i8))))) (.st (.pair (.slice (.int .i8)) (.pair (.int .u8) (.slice (.int .i8))))) (.st (.pair (.st (.pair .bool (.pair (.slice (.int .u8)) (.int .u8)))) (.st (.pair .bool (.pair (.slice (.int .u8)) (.int .u8)))))) (fun p q x d f y=>jT d/\jT f/\Bn y) (fun p q x d f y=>[.z .bool true])
set_option maxHeartbeats 2000000 in
theorem Lw{B:aq}(hB:aN B):Valid B prog 5 Cl:=by
 refine v6 (mg (T:=Iq B) (tc ty3 (tc dM (tc Tk (tc UB (tc UC (tc kK (tc gj (tc Tm (tc Vi ab))))))))) ae (aC (cc func11 (Lo hB) (cc func12 (Ln hB) (cc func13 (Lj hB) (cc func18 (Lc hB) (cc func19 (Ll hB) (cc func29 (xS hB) (cc func30 (xT hB) (cc func31 (xU hB) (cc func32 (x7 hB) (cc func33 (Lt hB) (cc func34 (Lu hB) (cc func35 (Lh hB) (cc func36 (xV hB) (cc func37 (xu hB) (cc func38 (Lv hB) (cc func39 (nA hB) ax)))))))))))))))))) func5 ?_;intro p q x d f y hC X hP hT hr hG;have hX:=ai Iq.eq_1<|ai cx<|ai pS.eq_1<|ai zj.eq_1<|ai vD.eq_1<|ai zn.eq_1<|ai lP.eq_1<|ai EG.eq_1<|ai vy.eq_1<|ai Cj.eq_1<|ai vz.eq_1<|ai Ck.eq_1<|ai zh.eq_1<|ai vC.eq_1<|ai ER.eq_1<|ai zg.eq_1<|ai EL.eq_1<|ai zi.eq_1<|ai @Int.toNat_zero<|ai @Int.toNat_one<|ai @Nat.zero_mul<|ai @Nat.one_mul<|ai @Nat.mul_one<|ai @List.replicate_succ.{0}<|ai @List.replicate_zero.{0}<|ai @List.flatten_cons.{0}<| @List.flatten_nil.{0};simp only[f5,az,aj,ioB];obtain⟨hd,hf,hy⟩:=hC;refine sg ?_;refine ag (sg ?_);refine qc ?_ ?_;·intro hb0;cases hb0
 ·intro hb0;refine ak (af (sg ?_));refine ag (sq ?_ ?_);·exact⟨hd,hf⟩
  refine al (aY (fun(z:Nat)=>(⟨[(2,.l (.z .str (List.take 20 x))),(11,.l (.z (.ptr (.st (.pair (.st (.pair .bool (.pair (.slice (.int .u8)) (.int .u8)))) (.st (.pair .bool (.pair (.slice (.int .u8)) (.int .u8))))))) y)),(12,.l (.z .bool false)),(41,.l (.z (.arr 4 (.arr 2 (.slice .str))) (oI p q d f))),(42,.l (.z (.int .i64) (z:Int)))],[]⟩:aa)) (fun z=>z<=4) (fun z=>4-z) 0 ?_ ?_ ?_);·refine q_l ?_;exact⟨Ug,rfl⟩
  ·omega
  ·rintro k g1;(try dsimp only at g1);refine sg ?_;refine ag (qc ?_ ?_)
   ·(intro hb1;(have hk:k<4:=by have h9:(k:Int)<4:=hb1;omega);refine ak (af (ag (al ?_)));obtain⟨a,b,eab,pa,pb⟩:=D3 hd hf (p:=p) (q:=q) hk;have hX:=ai eab hX;refine sq ?_ ?_;·omega);(refine sd ?_ ?_;·decide);(refine sq ?_ ?_;·exact OW pa);(refine sq ?_ ?_;·exact OX pa);(refine sq ?_ ?_;·exact Kw pa pb);refine cm (fun(z:Unit)=>(⟨[(2,.l (.z .str (List.take 20 x))),(11,.l (.z (.ptr (.st (.pair (.st (.pair .bool (.pair (.slice (.int .u8)) (.int .u8)))) (.st (.pair .bool (.pair (.slice (.int .u8)) (.int .u8))))))) y)),(12,.l (.z .bool false)),(41,.l (.z (.arr 4 (.arr 2 (.slice .str))) (oI p q d f))),(42,.l (.z (.int .i64) (k:Int))),(15,.l (.z (.slice .str) a)),(23,.l (.z .bool (decide (bG a=0)))),(16,.l (.z (.slice .str) b)),(17,.l (.z (.slice .str) (cF (fun x _=>bl x) a []))),(18,.l (.z (.int .i64) (cM (fun x _=>bl x) a []))),(19,.l (.z (.slice .str) (cF (fun x _=>bO x) a []))),(20,.l (.z (.int .i64) (cM (fun x _=>bO x) a []))),(21,.l (.z (.slice .str) (i7 a b))),(22,.l (.z (.int .i64) (kQ a b)))],[]⟩:aa)) (fun z=>True) ?_ ?_
    ·(refine rq ?_ ?_;·exact pa.short);refine qm ?_;trivial
    rintro⟨⟩-;refine ag (sq ?_ ?_)
    ·by_cases hr:bG a=0
     ·have hv:=mk_one pa hr;simp[hr,hv.gl,hv.le,hv.ga,hv.fd,hv.fs,xq]
     ·simp[hr]
    refine aS ?_ ?_
    ·(intro hb2;by_cases hr:bG a=0;·have hv:=mk_one pa hr;simp[hr,hv.td,hv.ts] at hb2);·obtain⟨w1,w2⟩:=Gr (f:=(fun x _=>bl x)) hr;obtain⟨w3,w4⟩:=Gr (f:=(fun x _=>bO x)) hr;simp[hr,w1,w2,w3,w4] at hb2
    ·intro hb2;(try simp only[bf] at hb2);refine ak (af (cm (fun(z:Unit)=>(⟨[(2,.l (.z .str (List.take 20 x))),(11,.l (.z (.ptr (.st (.pair (.st (.pair .bool (.pair (.slice (.int .u8)) (.int .u8)))) (.st (.pair .bool (.pair (.slice (.int .u8)) (.int .u8))))))) y)),(12,.l (.z .bool false)),(41,.l (.z (.arr 4 (.arr 2 (.slice .str))) (oI p q d f))),(42,.l (.z (.int .i64) (k:Int))),(15,.l (.z (.slice .str) a)),(23,.l (.z .bool (decide (bG a=0))))],[]⟩:aa)) (fun z=>True) ?_ ?_))
     ·(refine al (sq ?_ ?_);·simp[pb.short]);refine aS ?_ ?_
      ·(intro hb3;have hbad:=Ow hb3;obtain⟨w1,w2⟩:=OY hbad;refine sg ?_;refine aS ?_ ?_;·intro hb4;simp[w1,w2] at hb4);·intro hb4;(try simp only[bf] at hb4);refine ak (aD (qm ?_));trivial
      ·intro hb3;have hok:=R7 hb3;have hv:=Ue pa pb hok;refine sg ?_;refine aS ?_ ?_
       ·(intro hb5;obtain⟨w1,w2⟩:=hv.long hb5;refine sg ?_;refine aS ?_ ?_;·intro hb6;simp[w1,w2] at hb6);·intro hb6;(try simp only[bf] at hb6);refine ak (aD (qm ?_));trivial
       ·(intro hb5;have w1:=hv.tc hb5;refine sq ?_ ?_;·exact⟨⟨hv.ga,hv.gb⟩,hv.ll,hv.fc⟩);refine aS ?_ ?_;·intro hb7;simp[w1] at hb7
        ·intro hb7;(try simp only[bf] at hb7);refine ak (aD (qm ?_));trivial
     (rintro⟨⟩-;refine sq ?_ ?_;·exact hy);refine al (aY (fun(z:Nat)=>(⟨[(2,.l (.z .str (List.take 20 x))),(11,.l (.z (.ptr (.st (.pair (.st (.pair .bool (.pair (.slice (.int .u8)) (.int .u8)))) (.st (.pair .bool (.pair (.slice (.int .u8)) (.int .u8))))))) y)),(12,.l (.z .bool false)),(41,.l (.z (.arr 4 (.arr 2 (.slice .str))) (oI p q d f))),(42,.l (.z (.int .i64) (k:Int))),(15,.l (.z (.slice .str) a)),(23,.l (.z .bool (decide (bG a=0)))),(146,.l (.z (.arr 2 .str) [List.take 20 x,aG (iX y)])),(147,.l (.z (.int .i64) (z:Int)))],[]⟩:aa)) (fun z=>z<=2) (fun z=>2-z) 0 ?_ ?_ ?_);·refine q_l ?_;trivial
     ·omega
     ·rintro j g2;(try dsimp only at g2);refine sg ?_;refine ag (qc ?_ ?_)
      ·(intro hb8;(have hj:j<2:=by have h9:(j:Int)<2:=hb8;omega);refine ak (af (ag (al (sq ?_ ?_))));·omega);(obtain⟨n,en,hn⟩:∃n,nth .str [List.take 20 x,aG (iX y)] (j:Int)=n/\Ky n:=⟨_,rfl,Uf x y hj⟩;simp only[en];refine sq ?_ ?_;·exact Sf pa hn);(refine sq ?_ ?_;·exact Nat.le_trans hn.len (by unfold QL;decide));refine cm (fun(z:Unit)=>(⟨[(2,.l (.z .str (List.take 20 x))),(11,.l (.z (.ptr (.st (.pair (.st (.pair .bool (.pair (.slice (.int .u8)) (.int .u8)))) (.st (.pair .bool (.pair (.slice (.int .u8)) (.int .u8))))))) y)),(12,.l (.z .bool false)),(41,.l (.z (.arr 4 (.arr 2 (.slice .str))) (oI p q d f))),(42,.l (.z (.int .i64) (k:Int))),(15,.l (.z (.slice .str) a)),(23,.l (.z .bool (decide (bG a=0)))),(146,.l (.z (.arr 2 .str) [List.take 20 x,aG (iX y)])),(147,.l (.z (.int .i64) (j:Int))),(25,.l (.z .str n)),(26,.l (.z .str (evS a n))),(27,.l (.z (.int .i64) (evE a n))),(28,.l (.z (.int .i64) (noE a n)))],[]⟩:aa)) (fun z=>True) ?_ ?_
       ·(refine sg ?_;refine aS ?_ ?_;·intro hb9;(have hb8:¬bG a=0:=by simpa using hb9);refine rg ?_;refine qm ?_;unfold noE;first|rw[if_neg (show ¬bG a=0 from hb8)]|rw[if_pos (show bG a=0 from hb8)]);·intro hb9;(have hb8:bG a=0:=by simpa using hb9);refine ak (qm ?_);unfold noE;first|rw[if_neg (show ¬bG a=0 from hb8)]|rw[if_pos (show bG a=0 from hb8)]
       rintro⟨⟩-;refine ag (sg ?_);refine aS ?_ ?_
       ·(intro hb10;(have h0:¬noE a n=0:=by simpa using hb10);obtain⟨w1,w2⟩:=U7 h0;refine ag (sq ?_ ?_);·simp);refine aS ?_ ?_;·intro hb11;simp[w1,w2] at hb11
        ·intro hb11;(try simp only[bf] at hb11);refine ak (af (aT (aA (an (af (rg ?_))))));refine qm ?_;exact⟨j+1,wo,by omega,by omega⟩
       ·(intro hb10;(have h0:noE a n=0:=by simpa using hb10);have hv:=Uh pa hn h0;refine ak (af (sq ?_ ?_));·exact⟨hv.ga,hv.la,hv.gn⟩);refine sq ?_ ?_;·have e1:decide (cr (ah (tN (aG (au (nl a) (aU n)))))<=2000/\cr (ah (tD (aG (au (nl a) (aU n)))))<=2000)=iy (aG (au (nl a) (aU n))):=rfl;simp only[e1];cases hf:iy (aG (au (nl a) (aU n)))<;>simp[hv.fw]
        refine aS ?_ ?_
        ·(intro hb12;have e1:decide (cr (ah (tN (aG (au (nl a) (aU n)))))<=2000/\cr (ah (tD (aG (au (nl a) (aU n)))))<=2000)=iy (aG (au (nl a) (aU n))):=rfl;simp only[e1] at hb12;cases hf:iy (aG (au (nl a) (aU n)));·obtain⟨w1,w2⟩:=hv.not hf;simp[hf,w1,w2] at hb12);·obtain⟨w1,w2⟩:=hv.yes hf;simp[hf,w1,w2] at hb12
        ·intro hb12;(try simp only[bf] at hb12);refine ak (aD (af (rg ?_)));refine qm ?_;exact⟨j+1,wo,by omega,by omega⟩
      ·intro hb8;refine aT (aA (ao (an (aD (af (rg ?_))))));refine qm ?_;exact⟨k+1,wo,by omega,by omega⟩
   ·intro hb1;refine aT (aA (ao (an (af (sg ?_)))));refine av (qe [] ?_);trivial
end Go.Proofs.YtdojbabpnaifoaaGreatDoor
end
section
namespace Go.Cm
open Go.RowKit Go.Deep Go.ChangeShapes Go.WideShapes
def Below(W W':World):Prop:=∀b,b<W.heap.size->W'.heap[b]? =W.heap[b]?
theorem Below.cell{W W':World}(h:Below W W'){a:Addr}{v:Value}(hc:W.cell? a=some v):W'.cell? a=some v:=by
 rw[<- hc];exact World.cell?_of_block (h a.block (block_lt_of_cell hc))
def P4(P:Program)(w:Nat)(r:TypeId->Bool):Nat->List Field->Bool:=fun off fs=>match fs with
 | [f]=>f.offset==off&&P.cellsOf f.type==w&&r f.type
 |_=>false
def eQ(P:Program)(w:Nat)(r:TypeId->Bool):(TypeId->Bool)×(Nat->List Field->Bool):=(r,P4 P w r)
def Ty.rd(P:Program):Ty->(TypeId->Bool)×(Nat->List Field->Bool)
 | .int k=>eQ P 1 fun T=>match P.underlying T with
  |some (.int k')=>decide (k'=k)
  |_=>false
 | .bool=>eQ P 1 fun T=>match P.underlying T with
  |some .bool=>true
  |_=>false
 | .str=>eQ P 1 fun T=>match P.underlying T with
  |some .string=>true
  |_=>false
 | .unit=>(fun _=>false,fun _ _=>false)
 | .pair a b=>(fun _=>false,fun off fs=>match fs with
  |f::r=>f.offset==off&&P.cellsOf f.type==a.w&&(a.rd P).1 f.type&&(b.rd P).2 (off+a.w) r
  | []=>false)
 | .st t=>eQ P t.w fun T=>match P.underlying T with
  |some (.struct fs)=>P.cellsOf T==t.w&&(t.rd P).2 0 fs.toList
  |_=>false
 | .arr n t=>eQ P (n*t.w) fun T=>match P.underlying T with
  |some (.array m E)=>m==n&&P.cellsOf E==t.w&&P.cellsOf T==n*t.w&&(t.rd P).1 E
  |_=>false
 | .slice t=>eQ P 1 fun T=>match P.underlying T with
  |some (.slice E)=>P.cellsOf E==t.w&&decide (0<t.w)&&(t.rd P).1 E
  |_=>false
 | .ptr _=>(fun _=>false,fun _ _=>false)
 | .opt _=>(fun _=>false,fun _ _=>false)
 | .func=>(fun _=>false,fun _ _=>false)
def Ty.okD:(t:Ty)->t.D->Prop
 | .int k,x=>k.min<=x/\x<=k.max
 | .bool,_=>True
 | .str,x=>x.length<=maxLen
 | .unit,_=>True
 | .pair a b,x=>a.okD x.1/\b.okD x.2
 | .st t,x=>t.okD x
 | .arr n t,x=>x.length=n/\∀y∈x,t.okD y
 | .slice t,x=>x.length<=maxLen/\∀y∈x,t.okD y
 | .ptr t,x=>t.okD x
 | .opt t,x=>∀y,x=some y->t.okD y
 | .func,_=>True
section
variable {H:Type} (enc:TypeId×Value->H) (P:Program) (W:World)
def mY(t:Ty)(T:TypeId)(cs:List Value)(d:DataW H)(ps:List MemPlace):Prop:=
 ∃x:t.D,t.okD x/\t.rep (fun _=>False) W cs x/\
  ∀(W':World) (sp:Nat->Bool),Below W W'->(∀q∈ps,sp q.block=true)->∃n,DataW.trod enc P W' 0 sp true n T cs=some (d,ps)
theorem mapM_at{α β:Type}{f:α->Option β}:∀{l:List α} {xs:List β},l.mapM f=some xs->xs.length=l.length/\∀(i:Nat) a,l[i]? =some a->f a=xs[i]?
 | [],xs,h=>by simp at h;subst h;simp
 |a::l,xs,h=>by
  simp only[List.mapM_cons,Option.bind_eq_bind,Option.bind_eq_some_iff,Option.pure_def,Option.some.injEq] at h;obtain⟨y,hy,ys,hys,rfl⟩:=h;obtain⟨h1,h2⟩:=mapM_at hys;refine⟨by simp[h1],fun i b hb=>?_⟩;cases i with
  |zero=>simp at hb;subst hb;simpa using hy
  |succ i=>simp at hb ⊢;exact h2 i b hb
theorem p9{α β:Type}{f:α->Option β}:∀{l:List α} {xs:List β},xs.length=l.length->(∀(i:Nat) a,l[i]? =some a->f a=xs[i]?)->l.mapM f=some xs
 | [],xs,h,_=>by have:=List.eq_nil_of_length_eq_zero h;subst this;rfl
 |a::l,[],h,_=>by simp at h
 |a::l,x::xs,h,hf=>by
  have h0:=hf 0 a rfl;simp at h0;have:=p9 (f:=f) (l:=l) (xs:=xs) (by simpa using h) (fun i b hb=>by have:=hf (i+1) b (by simpa using hb);simpa using this);simp[List.mapM_cons,h0,this]
theorem Ir{α:Type}{R:List Value->α->Prop}{ok:α->Prop}{w:Nat}:∀(n:Nat) (cs:List Value),cs.length=n*w->(∀i,i<n->∃x,ok x/\R ((cs.drop (i*w)).take w) x)->∃xs:List α,xs.length=n/\(∀x∈xs,ok x)/\cR R cs xs
 |0,cs,h,_=>⟨[],rfl,by simp,by simp[cR];exact List.eq_nil_of_length_eq_zero (by omega)⟩
 |n+1,cs,h,hx=>by
  obtain⟨x,h1,h2⟩:=hx 0 (by omega);simp only[Nat.zero_mul,List.drop_zero] at h2;obtain⟨xs,g1,g2,g3⟩:=Ir (R:=R) (ok:=ok) (w:=w) n (cs.drop w) (by rw[List.length_drop,h,Nat.succ_mul];omega) (fun i hi=>by
   obtain⟨y,k1,k2⟩:=hx (i+1) (by omega);refine⟨y,k1,?_⟩;rw[List.drop_drop,show w+i*w=(i+1)*w by rw[Nat.succ_mul];omega];exact k2)
  refine⟨x::xs,by simp[g1],fun y hy=>?_,cs.take w,cs.drop w,(List.take_append_drop _ _).symm,h2,g3⟩;rcases List.mem_cons.1 hy with rfl|hy;·exact h1
  ·exact g2 y hy
theorem Is{α:Type}{R:List Value->α->Prop}{ok:α->Prop}{w:Nat}{a:Addr}:∀(n:Nat),(∀i,i<n->∃c,c.length=w/\(∀j,j<w->W.cell? (a.add (i*w+j))=c[j]?)/\∃x,ok x/\R c x)->
  ∃(cells:List Value) (xs:List α),cells.length=n*w/\xs.length=n/\(∀x∈xs,ok x)/\cR R cells xs/\∀k,k<n*w->W.cell? (a.add k)=cells[k]?
 |0,_=>⟨[],[],by simp,rfl,by simp,rfl,fun k hk=>by simp at hk⟩
 |n+1,h=>by
  obtain⟨cells,xs,h1,h2,h3,h4,h5⟩:=Is n (fun i hi=>h i (by omega));obtain⟨c,g1,g2,x,g3,g4⟩:=h n (by omega);refine⟨cells++c,xs++ [x],by rw[List.length_append,h1,g1,Nat.succ_mul],by simp[h2],fun y hy=>?_,fU h4 (Lz g4),fun k hk=>?_⟩
  ·(rcases List.mem_append.1 hy with hy|hy;·exact h3 y hy);·simp at hy;subst hy;exact g3
  ·by_cases hlt:k<n*w
   ·rw[h5 k hlt,List.getElem?_append_left (by omega)]
   ·rw[Nat.succ_mul] at hk;rw[List.getElem?_append_right (by omega),h1,<- g2 (k-n*w) (by omega),show n*w+(k-n*w)=k by omega]
theorem Lx{W:World}{b:Nat}{a:Addr}{n:Nat}{cs:List Value}(h:W.cells? b a n=some cs):cs.length=n/\∀j,j<n->W.cell? (a.add j)=cs[j]? :=by
 unfold World.cells? at h;split at h;·obtain⟨h1,h2⟩:=mapM_at h;refine⟨by simpa using h1,fun j hj=>h2 j j (by simp[hj])⟩
 ·cases h
theorem P5{W:World}{a:Addr}{n:Nat}{cs:List Value}(h:cs.length=n)(hc:∀j,j<n->W.cell? (a.add j)=cs[j]?):W.cells? 0 a n=some cs:=by
 unfold World.cells?;rw[if_pos (Nat.zero_le _)];exact p9 (by simpa using h) (fun i b hb=>by
  obtain⟨hi,e⟩:=List.getElem?_eq_some_iff.1 hb;simp at hi e;subst e;exact hc i hi)
theorem P6(t:Ty):(∀T,(t.rd P).1 T=true->∀fuel cs d ps,DataW.trod enc P W 0 (fun _=>true) true fuel T cs=some (d,ps)->mY enc P W t T cs d ps):=by
 have single:∀(u:Ty) (w:Nat),u.w=w->(∀T,(u.rd P).1 T=true->∀fuel cs d ps,DataW.trod enc P W 0 (fun _=>true) true fuel T cs=some (d,ps)->mY enc P W u T cs d ps)->
   ∀off fs,P4 P w (u.rd P).1 off fs=true->∀(fuel:Nat) (cs:List Value) (xs:List (DataW H×List MemPlace)),cs.length=off+u.w->fs.mapM (fun f=>DataW.trod enc P W 0 (fun _=>true) true fuel f.type ((cs.drop f.offset).take (P.cellsOf f.type)))=some xs->
   ∃x:u.D,u.okD x/\u.rep (fun _=>False) W (cs.drop off) x/\∀(W':World) (sp:Nat->Bool),Below W W'->(∀q∈xs.flatMap (·.2),sp q.block=true)->∃n,fs.mapM (fun f=>DataW.trod enc P W' 0 sp true n f.type ((cs.drop f.offset).take (P.cellsOf f.type)))=some xs:=by
  intro u w hw ih off fs hr fuel cs xs hl hm;unfold P4 at hr;split at hr
  ·rename_i f;simp only[Bool.and_eq_true,beq_iff_eq] at hr;obtain⟨⟨h1,h2⟩,h3⟩:=hr;rw[List.mapM_cons,Option.bind_eq_bind,Option.bind_eq_some_iff] at hm;obtain⟨⟨d,ps⟩,hd,hm⟩:=hm;simp at hm;subst hm;have hcut:(cs.drop f.offset).take (P.cellsOf f.type)=cs.drop off:=by
    rw[h1,h2];exact List.take_of_length_le (by rw[List.length_drop];omega)
   rw[hcut] at hd;obtain⟨x,g1,g2,g3⟩:=ih _ h3 _ _ _ _ hd;refine⟨x,g1,g2,fun W' sp hB hq=>?_⟩;obtain⟨n,hn⟩:=g3 W' sp hB (fun q hq'=>hq q (by simpa using hq'));exact⟨n,by simp[hcut,hn]⟩
  ·cases hr
 suffices key:(∀T,(t.rd P).1 T=true->∀fuel cs d ps,DataW.trod enc P W 0 (fun _=>true) true fuel T cs=some (d,ps)->mY enc P W t T cs d ps)/\
   ∀off fs,(t.rd P).2 off fs=true->∀(fuel:Nat) (cs:List Value) (xs:List (DataW H×List MemPlace)),cs.length=off+t.w->fs.mapM (fun f=>DataW.trod enc P W 0 (fun _=>true) true fuel f.type ((cs.drop f.offset).take (P.cellsOf f.type)))=some xs->
   ∃x:t.D,t.okD x/\t.rep (fun _=>False) W (cs.drop off) x/\∀(W':World) (sp:Nat->Bool),Below W W'->(∀q∈xs.flatMap (·.2),sp q.block=true)->∃n,fs.mapM (fun f=>DataW.trod enc P W' 0 sp true n f.type ((cs.drop f.offset).take (P.cellsOf f.type)))=some xs from key.1
 induction t with
 |int k=>
  have h:∀T,((Ty.int k).rd P).1 T=true->∀fuel cs d ps,DataW.trod enc P W 0 (fun _=>true) true fuel T cs=some (d,ps)->mY enc P W (.int k) T cs d ps:=by
   (intro T hT fuel cs d ps h;simp only[Ty.rd,eQ] at hT;split at hT;·rename_i k' hu;simp only[decide_eq_true_eq] at hT;subst hT;obtain⟨z,rfl,he,hw⟩:=DataW.trod_int hu h;cases he;(have h2:IntKind.min k'<=z/\z<=IntKind.max k':=by simpa [Lit.wf,IntKind.has] using hw);exact⟨z,h2,rfl,fun W' sp _ _=>⟨1,trod_int_mk 0 hu hw⟩⟩);·cases hT
  exact⟨h,single (.int k) 1 rfl h⟩
 |bool=>
  have h:∀T,(Ty.bool.rd P).1 T=true->∀fuel cs d ps,DataW.trod enc P W 0 (fun _=>true) true fuel T cs=some (d,ps)->mY enc P W .bool T cs d ps:=by
   (intro T hT fuel cs d ps h;simp only[Ty.rd,eQ] at hT;split at hT;·rename_i hu;obtain⟨z,rfl,he⟩:=DataW.trod_bool hu h;cases he;exact⟨z,trivial,rfl,fun W' sp _ _=>⟨1,by unfold DataW.trod;rw[hu]⟩⟩);·cases hT
  exact⟨h,single .bool 1 rfl h⟩
 |str=>
  have h:∀T,(Ty.str.rd P).1 T=true->∀fuel cs d ps,DataW.trod enc P W 0 (fun _=>true) true fuel T cs=some (d,ps)->mY enc P W .str T cs d ps:=by
   (intro T hT fuel cs d ps h;simp only[Ty.rd,eQ] at hT;split at hT;·rename_i hu;obtain⟨z,rfl,he,hz⟩:=DataW.trod_string hu h;cases he;refine⟨z.data.toList,by simpa [Ty.okD] using hz,rfl,fun W' sp _ _=>shut_string_cell hu hz⟩);·cases hT
  exact⟨h,single .str 1 rfl h⟩
 |unit=>exact⟨fun T h=>by simp[Ty.rd] at h,fun off fs h=>by simp[Ty.rd] at h⟩
 |ptr t _=>exact⟨fun T h=>by simp[Ty.rd] at h,fun off fs h=>by simp[Ty.rd] at h⟩
 |opt t _=>exact⟨fun T h=>by simp[Ty.rd] at h,fun off fs h=>by simp[Ty.rd] at h⟩
 |func=>exact⟨fun T h=>by simp[Ty.rd] at h,fun off fs h=>by simp[Ty.rd] at h⟩
 |pair a b iha ihb=>
  refine⟨fun T h=>by simp[Ty.rd] at h,?_⟩;intro off fs hr fuel cs xs hl hm;simp only[Ty.rd] at hr;split at hr
  ·rename_i f r;simp only[Bool.and_eq_true,beq_iff_eq] at hr;obtain⟨⟨⟨h1,h2⟩,h3⟩,h4⟩:=hr;rw[List.mapM_cons,Option.bind_eq_bind,Option.bind_eq_some_iff] at hm;obtain⟨⟨d,ps⟩,hd,hm⟩:=hm;rw[Option.bind_eq_bind,Option.bind_eq_some_iff] at hm;obtain⟨ys,hys,hm⟩:=hm;simp at hm;subst hm;rw[h1,h2] at hd;simp only[Ty.w] at hl;obtain⟨x,g1,g2,g3⟩:=iha.1 _ h3 _ _ _ _ hd;obtain⟨y,k1,k2,k3⟩:=ihb.2 _ _ h4 _ _ _ (by omega) hys;refine⟨(x,y),⟨g1,k1⟩,⟨(cs.drop off).take a.w,cs.drop (off+a.w),?_,g2,k2⟩,fun W' sp hB hq=>?_⟩;·rw[<- List.drop_drop,List.take_append_drop]
   ·obtain⟨n,hn⟩:=g3 W' sp hB (fun q hq'=>hq q (by simp[hq']));obtain⟨m,hm⟩:=k3 W' sp hB (fun q hq'=>hq q (by rw[List.flatMap_cons];exact List.mem_append_right _ hq'));refine⟨max n m,?_⟩;rw[List.mapM_cons,h1,h2,DataW.trod_le (Nat.le_max_left n m) hn];have:r.mapM (fun f=>DataW.trod enc P W' 0 sp true (max n m) f.type ((cs.drop f.offset).take (P.cellsOf f.type)))=some ys:=by
     obtain⟨q1,q2⟩:=mapM_at hm;refine p9 q1 fun i f hf=>?_;(have hi:i<ys.length:=by rw[q1];exact(List.getElem?_eq_some_iff.1 hf).1);have:=q2 i f hf;rw[List.getElem?_eq_getElem hi] at this ⊢;exact DataW.trod_le (Nat.le_max_right n m) this
    simp[this]
  ·cases hr
 |st t ih=>
  have h:∀T,((Ty.st t).rd P).1 T=true->∀fuel cs d ps,DataW.trod enc P W 0 (fun _=>true) true fuel T cs=some (d,ps)->mY enc P W (.st t) T cs d ps:=by
   (intro T hT fuel cs d ps h;simp only[Ty.rd,eQ] at hT;split at hT;·rename_i fs hu;simp only[Bool.and_eq_true,beq_iff_eq] at hT;obtain⟨xs,n,rfl,he,hl,hxl,hx⟩:=DataW.trod_struct hu h;cases he;obtain⟨x,g1,g2,g3⟩:=ih.2 0 _ hT.2 n cs xs (by rw[hl,hT.1];omega) (p9 (by rw[hxl];rfl) (fun i f hf=>hx i f (by simpa using hf)));refine⟨x,g1,(show t.rep (fun _=>False) W cs x by simpa using g2),fun W' sp hB hq=>?_⟩;obtain⟨m,hm⟩:=g3 W' sp hB hq;exact⟨m+1,trod_struct_mk hu hl hm⟩);·cases hT
  exact⟨h,single (.st t) t.w rfl h⟩
 |arr n t ih=>
  have h:∀T,((Ty.arr n t).rd P).1 T=true->∀fuel cs d ps,DataW.trod enc P W 0 (fun _=>true) true fuel T cs=some (d,ps)->mY enc P W (.arr n t) T cs d ps:=by
   intro T hT fuel cs d ps h;simp only[Ty.rd,eQ] at hT;split at hT
   ·rename_i m E hu;simp only[Bool.and_eq_true,beq_iff_eq] at hT;obtain⟨⟨⟨rfl,h2⟩,h3⟩,h4⟩:=hT;obtain⟨xs,k,rfl,he,hl,hxl,hx⟩:=DataW.trod_array hu h;cases he;have each:∀i,i<m->mY enc P W t E ((cs.drop (i*t.w)).take t.w) ((xs.map (·.1)).getD i .nil) ((xs.map (·.2)).getD i []):=by
     intro i hi;have:=hx i hi;rw[h2,List.getElem?_eq_getElem (by omega)] at this;refine ih.1 E h4 k _ _ _ ?_;rw[this];simp[List.getD_eq_getElem?_getD,List.getElem?_eq_getElem (show i<xs.length by omega)]
    obtain⟨ys,q1,q2,q3⟩:=Ir (R:=fun c y=>t.rep (fun _=>False) W c y) (ok:=t.okD) m cs (by rw[hl,h3]) (fun i hi=>by obtain⟨x,e1,e2,_⟩:=each i hi;exact⟨x,e1,e2⟩);refine⟨ys,⟨q1,q2⟩,⟨q1,q3⟩,fun W' sp hB hq=>?_⟩;obtain⟨f,hf⟩:=fuel_lt (n:=m) (q:=fun i f=>DataW.trod enc P W' 0 sp true f E ((cs.drop (i*t.w)).take t.w)=xs[i]? /\i<xs.length) (fun i a b hab hi=>by
      cases hx':xs[i]? with
      |none=>exact absurd hi.2 (by rw[List.getElem?_eq_none_iff] at hx';omega)
      |some y=>rw[hx'] at hi;exact⟨DataW.trod_le hab hi.1,hi.2⟩) (fun i hi=>by
     obtain⟨_,_,_,e3⟩:=each i hi;(have hil:i<xs.length:=by omega);obtain⟨f,hf⟩:=e3 W' sp hB (fun q hq'=>hq q (by
      rw[List.mem_flatMap];refine⟨xs[i],List.getElem_mem hil,?_⟩;simpa [List.getD_eq_getElem?_getD,List.getElem?_eq_getElem hil] using hq'))
     refine⟨f,?_,hil⟩;rw[hf,List.getElem?_eq_getElem hil];simp[List.getD_eq_getElem?_getD,List.getElem?_eq_getElem hil])
    refine⟨f+1,?_⟩;have hmm:(List.range m).mapM (fun i=>DataW.trod enc P W' 0 sp true f E ((cs.drop (i*t.w)).take t.w))=some xs:=p9 (by simpa using hxl) (fun i b hb=>by
     obtain⟨hi,e⟩:=List.getElem?_eq_some_iff.1 hb;simp at hi e;subst e;exact(hf i hi).1)
    unfold DataW.trod;rw[hu];simp only[h2,hl,hmm,if_true,Option.map_some]
   ·cases hT
  exact⟨h,single (.arr n t) (n*t.w) rfl h⟩
 |slice t ih=>
  have h:∀T,((Ty.slice t).rd P).1 T=true->∀fuel cs d ps,DataW.trod enc P W 0 (fun _=>true) true fuel T cs=some (d,ps)->mY enc P W (.slice t) T cs d ps:=by
   intro T hT fuel cs d ps h;simp only[Ty.rd,eQ] at hT;split at hT
   ·(rename_i E hu;simp only[Bool.and_eq_true,beq_iff_eq,decide_eq_true_eq] at hT;obtain⟨⟨h1,h2⟩,h3⟩:=hT;rcases open_slice hu h with⟨rfl,he⟩|⟨a,len,cap,m,k,D,Pl,rfl,hb,hl,hm,he1,he,hx⟩);·cases he;exact⟨[],⟨by simp,by simp⟩,.inl ⟨rfl,rfl⟩,fun W' sp _ _=>⟨1,by unfold DataW.trod;rw[hu];rfl⟩⟩
    ·cases he;simp only[if_true] at he1;subst he1;rw[h1] at hx;have each:∀i,i<m->∃c,c.length=t.w/\(∀j,j<t.w->W.cell? (a.add (i*t.w+j))=c[j]?)/\mY enc P W t E c (D i) (Pl i):=by
      intro i hi;obtain⟨c,hc,hd⟩:=hx i hi;obtain⟨g1,g2⟩:=Lx hc;exact⟨c,g1,fun j hj=>by rw[<- g2 j hj,add_add],ih.1 E h3 k _ _ _ hd⟩
     obtain⟨cells,ys,q1,q2,q3,q4,q5⟩:=Is W (R:=fun c y=>t.rep (fun _=>False) W c y) (ok:=t.okD) (a:=a) len (fun i hi=>by
      obtain⟨c,e1,e2,x,e3,e4,_⟩:=each i (by omega);exact⟨c,e1,e2,x,e3,e4⟩)
     obtain⟨b,o,p⟩:=a;have hp:0<m->p=none:=by
      intro hlen;obtain⟨c,e1,e2,_⟩:=each 0 hlen;have:=e2 0 h2;rw[List.getElem?_eq_getElem (by omega)] at this;simp only[Nat.zero_mul,Nat.add_zero] at this;unfold World.cell? Addr.add at this;split at this
      ·cases p with
       |none=>rfl
       |some _=>simp at this
      ·cases this
     have hne:ys≠[]->p=none:=fun h=>hp (by cases ys with
      |nil=>exact absurd rfl h
      |cons y ys=>simp at q2;omega)
     refine⟨ys,⟨by omega,q3⟩,.inr ⟨b,o,p,m,cells,by rw[q2],hne,by omega,hm,q4,fun _ h=>h,fun j hj=>?_⟩,fun W' sp hB hq=>?_⟩
     ·have hys:ys≠[]:=by
       intro e;subst e;have e:cells=[]:=q4;subst e;simp at hj
      obtain rfl:=hne hys;have:=q5 j (by omega);rw[<- this,addr_add];simp
     ·by_cases h0:m=0
      ·subst h0;(have hlen:len=0:=by omega);subst hlen;refine⟨1,?_⟩;unfold DataW.trod;rw[hu];simp[MemPlace.row,hm]
      ·have hs:sp b=true:=hq (.cell b o) (by
        simp only[MemPlace.row,List.mem_append,List.mem_map,List.mem_range];exact .inl ⟨0,by rw[h1];exact Nat.mul_pos (by omega) h2,by simp⟩)
       have:=shut_slice_whole_cells (enc:=enc) (w:=W') (base:=0) (spare:=sp) (held:=true) (a:=⟨b,o,p⟩) hu hb hl hm hs D Pl (fun i hi=>by
        obtain⟨c,e1,e2,x,e3,e4,e5⟩:=each i hi;obtain⟨n,hn⟩:=e5 W' sp hB (fun q hq'=>hq q (by
         rw[List.mem_append];right;rw[List.mem_flatMap];exact⟨i,by simpa using hi,hq'⟩))
        refine⟨c,n,?_,hn⟩;rw[h1];refine P5 e1 fun j hj=>?_;rw[add_add];have:=e2 j hj;rw[List.getElem?_eq_getElem (by omega)] at this ⊢;exact hB.cell this)
       exact this
   ·cases hT
  exact⟨h,single (.slice t) 1 rfl h⟩
end
end Go.Cm
end
section
namespace Go.Cm
open Go.RowKit Go.Deep Go.ChangeShapes Go.WideShapes Go.ChangeAt
def HL:List Ty->Type
 | []=>Unit
 |t::ts=>t.D×HL ts
def HL.args:(ts:List Ty)->HL ts->List LV
 | [],_=>[]
 |t::ts,x=> .z t x.1::HL.args ts x.2
def HL.ok:(ts:List Ty)->HL ts->Prop
 | [],_=>True
 |t::ts,x=>t.okD x.1/\HL.ok ts x.2
theorem Uo{P:Program}{W:World}{r:Reach}{b0:Nat}{T:TypeId}{v:Value}(hv:Value.okWide P W r b0 T v):∀{t:Ty},(t.rd P).1 T=true->eY v=t.isAgg
 | .int k,h=>by
  simp only[Ty.rd,eQ] at h;split at h;·rename_i hu;unfold Value.okWide at hv;rw[hu] at hv;simp only at hv;unfold Cell.okWide at hv;rw[hu] at hv;cases v<;>simp_all [Cell.ok,eY,Ty.isAgg]
  ·cases h
 | .bool,h=>by
  simp only[Ty.rd,eQ] at h;split at h;·rename_i hu;unfold Value.okWide at hv;rw[hu] at hv;simp only at hv;unfold Cell.okWide at hv;rw[hu] at hv;cases v<;>simp_all [Cell.ok,eY,Ty.isAgg]
  ·cases h
 | .str,h=>by
  simp only[Ty.rd,eQ] at h;split at h;·rename_i hu;unfold Value.okWide at hv;rw[hu] at hv;simp only at hv;unfold Cell.okWide at hv;rw[hu] at hv;cases v<;>simp_all [Cell.ok,eY,Ty.isAgg]
  ·cases h
 | .slice t,h=>by
  simp only[Ty.rd,eQ] at h;split at h;·rename_i hu;unfold Value.okWide at hv;rw[hu] at hv;simp only at hv;unfold Cell.okWide at hv;rw[hu] at hv;cases v<;>simp_all [Cell.ok,eY,Ty.isAgg]
  ·cases h
 | .st t,h=>by
  simp only[Ty.rd,eQ] at h;split at h;·rename_i hu;unfold Value.okWide at hv;rw[hu] at hv;simp only at hv;obtain⟨cs,rfl,_⟩:=hv;rfl
  ·cases h
 | .arr n t,h=>by
  simp only[Ty.rd,eQ] at h;split at h;·rename_i hu;unfold Value.okWide at hv;rw[hu] at hv;simp only at hv;obtain⟨cs,rfl,_⟩:=hv;rfl
  ·cases h
 | .unit,h=>by simp[Ty.rd] at h
 | .pair _ _,h=>by simp[Ty.rd] at h
 | .ptr _,h=>by simp[Ty.rd] at h
 | .opt _,h=>by simp[Ty.rd] at h
 | .func,h=>by simp[Ty.rd] at h
def vE(P:Program):List Ty->List TypeId->Bool
 | [],[]=>true
 |t::ts,T::Ts=>(t.rd P).1 T&&vE P ts Ts
 |_,_=>false
theorem Cn{H:Type}{enc:TypeId×Value->H}{P:Program}{W:World}{b0:Nat}:∀(ts:List Ty) {Ts:List TypeId} {vs:List Value} {ds:List (DataW H)} {p:List MemPlace},vE P ts Ts=true->
  (∀(j:Nat) t v,Ts[j]? =some t->vs[j]? =some v->Value.okWide P W .any b0 t v)->DataW.TrodAll enc P W 0 (fun _=>true) true Ts vs ds p->
  ∃x:HL ts,HL.ok ts x/\bC (aV (fun _=>False) W (fun _=>undef)) (HL.args ts x) vs/\ds.length=ts.length/\
   ∀(W':World) (sp:Nat->Bool),Below W W'->(∀q∈p,sp q.block=true)->DataW.TrodAll enc P W' 0 sp true Ts vs ds p
 | [],[],vs,ds,p,_,_,h=>by
  obtain⟨rfl,rfl,rfl⟩:=trodAll_nil h;exact⟨(),trivial,trivial,rfl,fun _ _ _ _=>rfl⟩
 |t::ts,T::Ts,vs,ds,p,hr,hv,h=>by
  simp only[vE,Bool.and_eq_true] at hr;obtain⟨v,vs',d,ds',p0,q,rfl,rfl,rfl,⟨n,h0⟩,hs⟩:=trodAll_cons h;obtain⟨x,g1,g2,g3⟩:=P6 enc P W t T hr.1 n _ _ _ h0;obtain⟨y,k1,k2,k3,k4⟩:=Cn ts hr.2 (fun j t v h1 h2=>hv (j+1) t v (by simpa using h1) (by simpa using h2)) hs;refine⟨(x,y),⟨g1,k1⟩,⟨⟨Uo (hv 0 T v rfl rfl) hr.1,g2⟩,k2⟩,by simp[k3],fun W' sp hB hq=>?_⟩;obtain⟨m,hm⟩:=g3 W' sp hB (fun q hq'=>hq q (by simp[hq']));exact trodAll_cons_mk ⟨m,hm⟩ (k4 W' sp hB (fun q hq'=>hq q (by simp[hq'])))
 | [],_::_,_,_,_,hr,_,_=>by simp[vE] at hr
 |_::_,[],_,_,_,hr,_,_=>by simp[vE] at hr
def nH(W:World):aq:=⟨W.heap.size,fun b=>W.heap[b]?⟩
theorem ES(W:World):(nH W).On W:=⟨Nat.le_refl _,fun _ _=>rfl⟩
theorem Ly{P:Program}{f:FuncId}{con:Con}{W:World}{args:List LV}{vals:Array Value}(hv:Valid (nH W) P f con){C:Prop}(hc:con args []=some (C,[.z .bool true],[]))(hC:C)
  (ha:bC (aV (fun _=>False) W (fun _=>undef)) args vals.toList):
  Calls P f vals W fun e W'=>e= .returned (.bool true)/\W'.os=W.os/\W'.output=W.output/\W.heap.size<=W'.heap.size/\Below W W':=by
 refine(hv args [] C _ [] hc hC (fun _=>False) W vals (fun _=>undef) (ES W) (fun b hb=>by obtain⟨p,hp,-⟩:=hb;simp[aj] at hp) (fun _ h=>h.elim) (fun _ h=>h.elim) ?_ (fun p hp=>by simp[aj] at hp) List.Pairwise.nil).mono ?_
 ·refine ha.imp fun x v _ hx=>bb (fun b _ hb=>?_) (bn.refl _ _) (fun _ _=>rfl) hx;rcases hb with hb|⟨p,hp,-⟩;·exact hb
  ·simp[aj] at hp
 ·rintro e W' ⟨vs,ρ1,rfl,-,hb,-,hr,-⟩;match vs,hr with
  | [v],hr=>
   have h1:aV _ W' (fun _=>undef) (.z .bool true) v:=hr.1;have h2:v.cells.toList=[.bool true]:=h1.2;have h3:v= .bool true:=by
    cases v with
    |agg cs=>have:=h1.1;cases this
    |_=>simp[Value.cells] at h2<;>simp[h2]
   (subst h3;refine⟨rfl,hb.os,hb.output,hb.size,fun b hlt=>hb.block b hlt fun hm=>?_⟩;rcases hm with hm|⟨p,hp,-⟩;·omega);·simp[aj] at hp
theorem P7{H:Type}{enc:TypeId×Value->H}{P:Program}{f:Func}{s:ChangeSpec}{apart fresh handsOn again:Bool}{W W':World}{args:Array Value}{v:Value}{ds gs:List (DataW H)}{before pa pv:List MemPlace}
  (hW:DataW.Whole enc P f.params.toList s.vars apart W args.toList ds gs before)
  (hres:∀(b:Nat) (sp:Nat->Bool) (hd:Bool),DataW.TrodAll enc P W' b sp hd f.resultTypes.toList (v.resultList f.resultTypes.size) (s.fn H (ds++gs)).results [])
  (hargs:∀sp:Nat->Bool,(∀p∈before,sp p.block=true)->DataW.TrodAll enc P W' 0 sp true f.params.toList args.toList (s.fn H (ds++gs)).args pa)
  (hvars:∀sp:Nat->Bool,(∀p∈before,sp p.block=true)->DataW.TrodVars enc P W' sp s.vars (s.fn H (ds++gs)).vars pv)
  (hps:before=pa++pv) (hk:W.keptBut W' (· ∈before)) (hfz:∀a:Addr,a.block<W.heap.size->W'.frozen? a=W.frozen? a)
  (hok:∀(j:Nat) (t:TypeId) (r:Value),f.resultTypes[j]? =some t->(v.resultList f.resultTypes.size)[j]? =some r->Value.okWide P W' .any 0 t r):
  s.post enc P f apart fresh handsOn again W args v W':=by
 have hold:∀p∈before,(fun b=>decide (b<W.heap.size)) p.block=true:=fun p hp=>by simpa using hW.lt p hp
 refine⟨ds,gs,before,[],pa,pv,hW,hres _ _ _,hargs _ hold,hvars _ hold,World.keptBut_mono (fun p hp=>⟨hp,?_⟩) hk,fun _=>?_⟩;·rw[hps,List.mem_append] at hp;exact Or.inr hp
 ·have hlt:=hW.lt;obtain⟨_,_,_,_,_,hz,hn⟩:=hW;refine⟨hok,_,_,([]++pa)++pv,⟨[]++pa,pv,trodAll_append (hargs _ (fun _ _=>rfl)) (hres _ _ _),hvars _ (fun _ _=>rfl),rfl,?_,?_⟩,?_⟩;·intro b off hp;(have hm:MemPlace.cell b off∈before:=by rw[hps];simpa using hp);rw[hfz _ (hlt _ hm)];exact hz b off hm
  ·intro ha;have:=hn ha;rw[hps] at this;simpa using this
  ·intro p hp _;rw[hps];simpa using hp
theorem ET{W W':World}(hB:Below W W')(a:Addr)(h:a.block<W.heap.size):W'.frozen? a=W.frozen? a:=by
 unfold World.frozen?;rw[hB a.block h]
theorem P8{W W':World}{may:MemPlace->Prop}(hos:W'.os=W.os)(hout:W'.output=W.output)(hB:Below W W'):W.keptBut W' may:=by
 have h:=World.keptBut_refl W may;exact⟨hos,hout,fun i hi=>by rw[hB i hi];exact h.2.2 i hi⟩
def Co(s:ChangeSpec)(n:Nat):Prop:=s.vars=[]/\∀(H:Type) (ds:List (DataW H)),ds.length=n->s.fn H (ds++ [])={results:=[.lit (.bool true)],args:=ds}
theorem zo{H:Type}{enc:TypeId×Value->H}{P:Program}{f:FuncId}{fn:Func}{con:Con}{ts:List Ty}{tb:TypeId}{s:ChangeSpec}{W:World}{base:Nat}{args:Array Value}{ds gs:List (DataW H)}{before:List MemPlace}
  (hts:vE P ts fn.params.toList=true) (hrt:fn.resultTypes= #[tb]) (hb:P.underlying tb=some .bool) (hs:Co s ts.length)
  (hcon:∀x:HL ts,HL.ok ts x->∃C,con (HL.args ts x) []=some (C,[.z .bool true],[])/\C) (hv:Valid (nH W) P f con)
  (hval:∀(j:Nat) t v,fn.params[j]? =some t->args[j]? =some v->Value.okWide P W .any base t v)
  (hW:DataW.Whole enc P fn.params.toList s.vars false W args.toList ds gs before):
  Calls P f args W fun e W'=>∃v,e= .returned v/\s.post enc P fn false true false false W args v W':=by
 have hW':=hW;obtain⟨p,q,hA,hV,rfl,hfz,hnd⟩:=hW;rw[hs.1] at hV;obtain⟨rfl,rfl⟩:=trodVars_none hV;obtain⟨x,hx,ha,hl,again⟩:=Cn (b0:=base) ts hts (fun j t v h1 h2=>hval j t v (by simpa using h1) (by simpa using h2)) hA;obtain⟨C,hC1,hC2⟩:=hcon x hx;refine(Ly hv hC1 hC2 ha).mono fun e W' ⟨he,hos,hout,hsz,hB⟩=>?_;subst he;have hspec:=hs.2 H ds hl;refine⟨_,rfl,P7 (pa:=p) (pv:=[]) hW' (fun _ _ _=>?_) (fun sp hsp=>?_) (fun _ _=>?_) rfl (P8 hos hout hB) (ET hB) (ok_one hrt rfl (okWide_bool_mk hb _))⟩;·rw[hspec,hrt];exact trodAll_cons_mk (shut_bool hb _) trodAll_mk0
 ·rw[hspec];exact again W' sp hB (fun z hz=>hsp z (by simp[hz]))
 ·rw[hspec,hs.1];rfl
end Go.Cm
end
section
namespace Go.Cm
open Go
theorem P9{k:IntKind}{x a b:Int}(h:(Ty.int k).okD x)(h1:k.min=a)(h2:k.max=b):a<=x/\x<=b:=by
 have h:k.min<=x/\x<=k.max:=h;rw[h1,h2] at h;exact h
theorem Qa{x:Int}(h:(Ty.int .u8).okD x):0<=x/\x<256:=by
 have:=P9 (a:=0) (b:=255) h (by decide) (by decide);omega
theorem Qb{d:Bool×List Int×Int}(h:(Ty.st (.pair .bool (.pair (.slice (.int .u8)) (.int .u8)))).okD d):DOK d:=by
 obtain⟨_,⟨_,h1⟩,h2⟩:=h;exact⟨fun c hc=>Qa (h1 c hc),Qa h2⟩
end Go.Cm
end
section
namespace Go.Proofs.YtdojbabpnaifoaaGreatDoor
open Go Go.Cm Go.Proofs Go.ChangeShapes Go.WideShapes Go.ChangeAt Go.RowKit Go.Deep Go.Joins Tryz
def zp:DataW Unit->Array Value
 | .agg l=>(l.map fun x=>match x with
  | .lit (.int k n)=>Value.int k n
  |_=>Value.bool false).toArray
 |_=> #[]
noncomputable def Qc(h:Array Obj)(name:String)(cs:Array Value):Array Obj:=h.modify ((prog.globalNamed name).getD 0) fun o=>match o with
 | .cells _ t f=> .cells cs t f
 |o=>o
noncomputable def Qd:Nat:=(World.holding prog default ⟨#[],#[],[]⟩).heap.size
noncomputable def vF(os:Os):World:=
 let w0:=World.holding prog os ⟨#[.cells #[.string {data:= #[118,97,108,117,101,32,111,117,116,32,111,102,32,114,97,110,103,101]}] 239,.cells #[.string {data:= #[105,110,118,97,108,105,100,32,115,121,110,116,97,120]}] 239],#[],[]⟩
 {w0 with heap:=(Qc (Qc (Qc (Qc (Qc w0.heap "strconv.ErrRange" #[.iface 237 (.pointer (some ⟨Qd+0,0,none⟩))]) "strconv.ErrSyntax" #[.iface 237 (.pointer (some ⟨Qd+1,0,none⟩))]) "math/bits.deBruijn32tab" (zp Rows.laid_math_bits_deBruijn32tab)) "math/bits.deBruijn64tab" (zp Rows.laid_math_bits_deBruijn64tab)) "internal/strconv.uint64pow10" (zp Rows.laid_internal_strconv_uint64pow10))}
theorem Qe:(Rows.laid_internal_strconv_uint64pow10:DataW Unit)=Lib.tabData .u64 Lib.pow10Tab:=by kernel_rfl
noncomputable def vG:Nat:=(prog.globalNamed "internal/strconv.uint64pow10").getD 0
noncomputable def It:Nat:=((prog.globals[vG]?).map (·.type)).getD 0
noncomputable def Qf:Nat:=match prog.underlying It with
 |some (.array _ e)=>e
 |_=>0
theorem S2:prog.globalNamed "internal/strconv.uint64pow10"=some vG:=by kernel_rfl
theorem Vb:(prog.globals[vG]?).map (·.type)=some It:=by kernel_rfl
theorem Vc:prog.underlying It=some (.array 20 Qf):=by kernel_rfl
theorem Vd:prog.underlying Qf=some (.int .u64):=by kernel_rfl
theorem Ve:prog.cellsOf Qf=1:=by kernel_rfl
theorem Vf:prog.cellsOf It=20:=by kernel_rfl
theorem SB{l:List (String×DataW Unit)}{W:World}(h:laidMet prog (("internal/strconv.uint64pow10",Rows.laid_internal_strconv_uint64pow10)::l) W):∀w,(nH W).On w->Lib.TabIs prog w "internal/strconv.uint64pow10" .u64 Lib.pow10Tab:=by
 intro w hw;rw[Qe] at h;have ht:=Lib.tabIs_of_head S2 Vb Vc Vd Ve Vf h;unfold Lib.TabIs World.var? at ht ⊢;rw[S2] at ht ⊢;simp only[Option.bind_some] at ht ⊢;by_cases hlt:vG<W.heap.size;·have he:w.heap[vG]? =W.heap[vG]? :=hw.2 vG hlt;rw[he];exact ht
 ·rw[Array.getElem?_eq_none (by omega)] at ht;cases ht
theorem SC{W:World}(h:W.ShapedOpen prog):Ut (nH W):=by
 obtain⟨m,hm⟩:=Go.Proofs.cell_of_shapedOpen_int (g:=0) (t:=3) (zero:= #[.int .i64 0]) (k:= .i64) h (by decide+kernel) (by kernel_rfl) rfl (by kernel_rfl) (by kernel_rfl) (by kernel_rfl);intro w hw;have hlt:(0:Nat)<W.heap.size:=by
  unfold World.cell? at hm;rcases Nat.lt_or_ge 0 W.heap.size with h0|h0;·exact h0
  ·rw[Array.getElem?_eq_none h0] at hm;cases hm
 have he:w.heap[0]? =W.heap[0]? :=hw.2 0 hlt;exact⟨m,(World.cell?_of_block (a:=⟨0,0,none⟩) he).trans hm⟩
end Go.Proofs.YtdojbabpnaifoaaGreatDoor
end
section
namespace Go.Cm
open Go
theorem S3{x:Int}(h:(Ty.int .i8).okD x): -128<=x/\x<128:=by
 have:=P9 (a:= -128) (b:=127) h (by decide) (by decide);omega
theorem Iu{d:DPD}(h:(Ty.st (.pair (.slice (.int .i8)) (.pair (.int .u8) (.slice (.int .i8))))).okD d):jT d:=by
 obtain⟨⟨_,h1⟩,h2,⟨_,h3⟩⟩:=h;exact⟨fun n hn=>S3 (h1 n hn),Qa h2,fun n hn=>S3 (h3 n hn)⟩
theorem SD{d:DQD}(h:(Ty.st (.pair (.st (.pair .bool (.pair (.slice (.int .u8)) (.int .u8)))) (.st (.pair .bool (.pair (.slice (.int .u8)) (.int .u8)))))).okD d):Bn d:=⟨Qb h.1,Qb h.2⟩
end Go.Cm
end
section
namespace Go.Proofs.YtdojbabpnaifoaaGreatDoor.polyMakes
open Go Go.Cm Go.Proofs Go.ChangeShapes Go.WideShapes Go.ChangeAt Go.RowKit Go.Deep Go.Joins
theorem own:ownKnob Tryz.prog.godebug=none:=by kernel_rfl
theorem Vt:Tryz.f5.resultTypes= #[4]:=by kernel_rfl
theorem Vg:Tryz.prog.underlying 4=some .bool:=by kernel_rfl
def tys:List Ty:=[(.slice .str),(.slice .str),.str,(.st (.pair (.slice (.int .i8)) (.pair (.int .u8) (.slice (.int .i8))))),(.st (.pair (.slice (.int .i8)) (.pair (.int .u8) (.slice (.int .i8))))),(.st (.pair (.st (.pair .bool (.pair (.slice (.int .u8)) (.int .u8)))) (.st (.pair .bool (.pair (.slice (.int .u8)) (.int .u8))))))]
theorem reads:vE Tryz.prog tys Tryz.f5.params.toList=true:=by kernel_rfl
theorem spec:Co Rows.polyMakesSpec tys.length:=⟨rfl,fun _ ds h=>match ds,h with| [a0,a1,a2,a3,a4,a5],_=>rfl⟩
abbrev vals:Array Value:= #[.slice none 0 0,.slice none 0 0,.string {data:= #[]},.agg #[.slice none 0 0,.int .u8 0,.slice none 0 0],.agg #[.slice none 0 0,.int .u8 0,.slice none 0 0],.agg #[.bool false,.slice none 0 0,.int .u8 0,.bool false,.slice none 0 0,.int .u8 0]]
theorem met(os:Os):laidMet Tryz.prog Rows.polyMakesRow.laid ((vF os).forCall (fun _ _=>0) ⟨#[],vals,[]⟩).memory:=
 laidMet_of_run3 8 (by kernel_rfl) (by kernel_rfl) (by kernel_rfl)
theorem witness(os:Os){H:Type}(enc:TypeId×Value->H):∃places,DataW.whole enc Tryz.prog ((vF os).forCall (fun _ _=>0) ⟨#[],vals,[]⟩).memory Tryz.f5.params.toList Rows.polyMakesSpec.vars false vals.toList 8=some ([.nil,.nil,.lit (.string []),.agg [.nil,.lit (.int .u8 0),.nil],.agg [.nil,.lit (.int .u8 0),.nil],.agg [.agg [.lit (.bool false),.nil,.lit (.int .u8 0)],.agg [.lit (.bool false),.nil,.lit (.int .u8 0)]]],[],places):=
 ⟨[],by kernel_rfl⟩
theorem Vu{W:World}(h:laidMetH Tryz.prog Rows.polyMakesRow.laid W)(hs:W.ShapedOpen Tryz.prog):aN (nH W):=by
 have hL:laidMet Tryz.prog Rows.polyMakesRow.laid W:=h;exact⟨fun w hw=>SB (laidMet.tail (laidMet.tail hL)) w hw,SC hs⟩
theorem lifted(os:Os)(started:os.Started)(H:Type)(enc:TypeId×Value->H)(F:Stop.Interp):
  ReturnsInHanded {} Tryz.checked os 5 .any ((OpenSpec.ofChange Rows.polyMakesSpec).preRow enc Tryz.prog Tryz.f5 Rows.polyMakesRow.domain false Rows.polyMakesRow.laid) (((OpenSpec.ofChange Rows.polyMakesSpec).at F).post enc Tryz.prog Tryz.f5 false true false false):=by
 obtain⟨places,hx⟩:=witness os enc;refine returnsInHanded_of_row (C:=Tryz.checked) (s:=OpenSpec.ofChange Rows.polyMakesSpec) own started (by kernel_rfl) Tryz.func5
  (witness_row_at (enc:=enc) (C:=Tryz.checked) false (vF os) vals rfl (by kernel_rfl) (by kernel_rfl) (by kernel_rfl)
   (OpenSpec.preRow_of_cond 8 hx (by kernel_rfl) (fun k hk=>by cases hk) (by kernel_rfl) (met os))) ?_
 intro W base args ds gs before hval hW _ _ _ hL hSh _;exact zo (ts:=tys) (con:=Cl) reads Vt Vg spec (fun x h=>by obtain⟨x0,x1,x2,x3,x4,x5,⟨⟩⟩:=x;obtain⟨h0,h1,h2,h3,h4,h5,-⟩:=h;exact⟨_,rfl,⟨Iu h3,Iu h4,SD h5⟩⟩) (Lw (Vu hL hSh)) hval hW
theorem said:Rows.PolyMakesSaid:=
 OpenClaim.holds_of_cond 5 Tryz.f5 rfl rfl rfl rfl rfl rfl rfl ⟨rfl,rfl,rfl,rfl,rfl⟩ rfl rfl rfl rfl rfl (by kernel_rfl) Tryz.func5 (by kernel_rfl)
  (of_decide_eq_true (by kernel_rfl)) (by unfold Func.isWrapper;first|(rw[if_pos (by decide+kernel)];kernel_rfl)|(rw[if_neg (by decide+kernel)];exact⟨rfl,rfl⟩))
  (fun os started H enc _ F=>by rw[OpenClaim.pre_eq_preRow];exact lifted os started H enc F)
theorem plain(f:FuncId)(fn:Func)(hf:Tryz.pinned.checked.prog.funcNamed "croupier/croupierlaw04.PolyMakes"=some f)(hfn:Tryz.pinned.checked.prog.funcs[f]? =some fn):
  true=Tryz.pinned.checked.prog.looks []/\∀(j:Nat) t,fn.params[j]? =some t->Tryz.pinned.checked.prog.wantsStandIn t=false:=by
 obtain rfl:f=5:=Option.some.inj ((show Tryz.prog.funcNamed "croupier/croupierlaw04.PolyMakes"=some 5 by kernel_rfl).symm.trans hf)|>.symm;obtain rfl:fn=Tryz.f5:=(Option.some.inj (Tryz.func5.symm.trans hfn)).symm;refine⟨by kernel_rfl,fun j t ht=>?_⟩;have hall:Tryz.f5.params.toList.all (fun t=> !Tryz.prog.wantsStandIn t)=true:=by kernel_rfl
 have:=List.all_eq_true.1 hall t (by simpa using Array.mem_of_getElem? ht);exact(by simpa using this:Tryz.prog.wantsStandIn t=false)
theorem card:Rows.PolyMakesCardSaid:=
 Claim7.holds_tied_plain_at .later [] _ _ _ _ said (fun _ h=>by cases h) (by kernel_rfl) (fun _ h=>by cases h) polyMakes_row_tie rfl ⟨rfl,rfl⟩ (by kernel_rfl) rfl plain (by kernel_rfl)
end Go.Proofs.YtdojbabpnaifoaaGreatDoor.polyMakes
end