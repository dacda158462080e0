/- Merged by a program out of several texts. -/
import Derived.Test.YtppnhclgaeodoaaGreatDoorK4
import Derived.Test.YtppnhclgaeodoaaGreatDoorK3
import Derived.Test.YtppnhclgaeodoaaGreatDoorProg
import Derived.Deep.LoopGhost
import Derived.Lib.Walk
import Derived.Lib.SliceRun
import Derived.KernelRfl
set_option linter.all false
set_option linter.unusedSimpArgs false
set_option linter.unusedVariables false
set_option maxRecDepth 100000
open Array renaming getElem?_eq_some_iff→BY,replicate→Ov,getD_eq_getD_getElem?→O1,all_eq_true_iff_forall_mem→Py,ext'→Qk,getElem?_eq_getElem→QF,getElem?_replicate→QO,getElem_append_left→Q6,size_setIfInBounds→Rd,foldl_toList→Rt,getElem_append_right→RR,getD→Sw,toList_zip→Sx
open Bool renaming and_eq_true→N9,or_eq_true→OT,true_and→Pb,not_eq_true'→Pc,not_true→Pv,false_or→QK,not_false→Rl
open Go.IntKind renaming i64→IN
open Go.Lib renaming run_eql_slice_nil→TA
open Int renaming toNat_natCast→Od,add_comm→RY
open List renaming getD_eq_getElem?_getD→sh,getElem?_eq_getElem→AI,length→If,mem_cons→IS,replicate→N6,eq_nil_of_length_eq_zero→N7,all_eq_true→Ob,length_take→Of,take_of_length_le→Oj,length_append→Ol,length_drop→Om,mem_map→Ot,drop_zero→Oy,getElem?_eq_none→OA,take_length→OD,getElem_mem→OE,mem_range→OJ,take→OM,cons_append→OS,drop→OX,nil_append→OY,getElem?_cons_succ→O3,map_cons→O6,range→Pa,append_nil→Pr,drop_of_length_le→PB,getElem?_cons_zero→PI,contains_eq_mem→PK,getD→PY,getElem_range→P4,nodup_cons→P6,getElem_map→Qa,mem_filter→Qh,set_cons_succ→Ql,map_nil→Qv,drop_succ_cons→Qz,set_cons_zero→QJ,of_mem_zip→QT,mem_filterMap→Q3,map_snd_zip→Sy,map_fst_zip→SA
open List.cons renaming injEq→P5
open Nat renaming reduceEqDiff→AS,reduceLeDiff→AT,reduceAdd→IT,reduceSub→No,reduceMul→N3,reduceBEq→N4,reduceBNe→N5,reduceLT→N8,le_refl→Oa,le_trans→Og,zero_add→Oz,lt_of_lt_of_le→OC,le_of_ble_eq_true→OZ,zero_le→PM,lt_of_le_of_lt→PP,lt_or_ge→Ru,lt_or_gt_of_ne→Rv
open Option renaming getD_some→OV,map_some→Pj
open Option.some renaming inj→SJ
open Rat renaming divInt→Ox
section
namespace Go.Cm
open Go.RowKit
theorem Iu{F:Fence}{n:Nat}{P:Program}{md:Region.Mode}{ops:Array Oper}{Q:Exit->Act->World->Prop}:∀(e:Nat) {fuel:Nat} {listed:Array Bool} {a:Act} {w:World},wpAnyIn F n P md ops Q fuel listed a w->wpAnyIn F n P md ops Q (e+fuel) listed a w:=by
 have one:∀(fuel:Nat) {listed:Array Bool} {a:Act} {w:World},wpAnyIn F n P md ops Q fuel listed a w->wpAnyIn F n P md ops Q (fuel+1) listed a w:=by
  intro fuel;induction fuel with
  |zero=>intro listed a w h;exact⟨fun _=>h.2,fun i hi=>by rw[h.1] at hi;cases hi⟩
  |succ fuel ih=>
   intro listed a w h;refine⟨h.1,fun i hi=>?_⟩;have h2:=h.2 i hi;unfold wpOpIn at h2 ⊢;split;·rename_i ho;rw[ho] at h2;exact ih h2
   ·(rename_i o ho;rw[ho] at h2;simp only at h2 ⊢;split;·rename_i hw;rw[if_pos hw] at h2;exact Oper.wpIn_mono (fun a w h=>ih h) h2);·rename_i hw;rw[if_neg hw] at h2;exact⟨h2.1,ih h2.2⟩
 intro e;induction e with
 |zero=>intro fuel listed a w h;rwa [Oz]
 |succ e ih=>intro fuel listed a w h;rw[Nat.succ_add];exact one _ (ih h)
theorem vy{T:Tab}{ops:List Oper}:∀(r:List Oper) (b:Nat) {s s':aa} {C:Prop} {recs:List Rec},(∀i,i<r.length->r[i]? =ops[b+i]?)->trace T ops r s=some (C,s',recs)->C->
  ∃(S:Nat->aa) (Cs:Nat->Prop) (Es:Nat->Eff),S 0=s/\S r.length=s'/\recs.length=r.length/\(∀k,k<r.length->∃o,ops[b+k]? =some o/\iE T ops (S k) o=some (Cs k,Es k)/\Cs k/\recs.getD k uj=⟨gQ ops (S k) o,(Es k).locs,(Es k).news,(Es k).refs⟩)/\(∀k,k<r.length->S (k+1)=(Es k).apply (S k))
 | [],b,s,s',C,recs,hr,h,hC=>by
  simp[trace] at h;obtain⟨_,rfl,rfl⟩:=h;exact⟨fun _=>s,fun _=>True,fun _=> .put 0 (.l .junk),rfl,rfl,rfl,fun k hk=>by simp at hk,fun k hk=>by simp at hk⟩
 |o::r,b,s,s',C,recs,hr,h,hC=>by
  simp only[trace] at h;split at h
  ·rename_i C1 e h1;split at h
   ·rename_i C2 s2 l h2;cases h;obtain⟨S,Cs,Es,g1,g2,g3,g4,g5⟩:=vy r (b+1) (fun i hi=>by have:=hr (i+1) (by simp;omega);simp only[O3] at this;rw[this];congr 1;omega) h2 hC.2;refine⟨fun k=>match k with
     |0=>s
     |k+1=>S k,fun k=>match k with
     |0=>C1
     |k+1=>Cs k,fun k=>match k with
     |0=>e
     |k+1=>Es k,rfl,by simpa using g2,by simp[g3],fun k hk=>?_,fun k hk=>?_⟩
    ·cases k with
     |zero=>exact⟨o,by have:=hr 0 (by simp);simp at this;simpa using this.symm,h1,hC.1,rfl⟩
     |succ k=>
      obtain⟨o',q1,q2,q3,q4⟩:=g4 k (by simpa using hk);exact⟨o',by rw[<- q1];congr 1;omega,q2,q3,by simpa using q4⟩
    ·cases k with
     |zero=>simp only;exact g1
     |succ k=>exact g5 k (by simpa using hk)
   ·cases h
  ·cases h
theorem y8{X:Cx}(hT:cT X.P X.T)(hΓ:eX X.P X.T){ops:Array Oper}{s s':aa}{C:Prop}{recs:List Rec}{Q:Exit->Act->World->Prop}{n fr:Nat}(hnl:n<=ops.size)
  (h:trace X.T ops.toList (ops.toList.take n) s=some (C,s',recs)) (hC:C) (hord:cV ops.toList recs=true) (hfresh:(recs.flatMap Rec.news).all (fun x=> !s.refs.contains x)=true)
  (hdist:(distinct (s'.env.map Prod.fst)&&distinct (s'.own.map Prod.fst))=true) (hdep:∀i k,n<=i->i<ops.size->k<n->Anc ops.toList k i)
  (hrest:∀a w,St X s' a w->wpAnyIn (fw X.r) 2 X.P .any ops Q fr (Ov n true++Ov (ops.size-n) false) a w) {a:Act} {w:World} (hst:St X s a {w with drawn:=w.drawn+1}):wpAnyIn (fw X.r) 2 X.P .any ops Q (n+fr) (Ov ops.size false) a {w with drawn:=w.drawn+1}:=by
 obtain⟨S,Cs,Es,g1,g2,g3,g4,g5⟩:=vy (ops.toList.take n) 0 (fun i hi=>by rw[Of] at hi;simp[List.getElem?_take];omega) h hC;have hn:(ops.toList.take n).length=n:=by rw[Of];simp;omega
 rw[hn] at g2 g3 g4 g5;obtain⟨N,hsz⟩:∃N,ops.size=N:=⟨_,rfl⟩;have hsl:ops.toList.length=N:=by rw[<- hsz];simp
 have ht:Tr X.T ops.toList n S Cs Es:=⟨fun k hk=>by obtain⟨o,q1,q2,q3,_⟩:=g4 k hk;exact⟨o,by simpa using q1,q2,q3⟩,g5⟩;simp only[cV,N9] at hord;obtain⟨hback,hpairs⟩:=hord;simp only[N9] at hdist;have hpair:∀i j,i<j->j<n->(∀x∈(Es j).news,x∉(Es i).refs)/\(((∃x∈(Es i).locs,x∈gQ ops.toList (S j) (ops.toList.getD j default)∨x∈(Es j).locs)∨(∃x∈(Es j).locs,x∈gQ ops.toList (S i) (ops.toList.getD i default)∨x∈(Es i).locs)∨∃x∈(Es i).news,x∈(Es j).refs)->Anc ops.toList i j):=by
  intro i j hij hj;unfold vZ at hpairs;rw[g3,Ob] at hpairs;have h1:=hpairs j (OJ.2 hj);rw[Ob] at h1;have h2:=pB (h1 i (OJ.2 hij));obtain⟨oj,qj1,_,_,qj⟩:=g4 j hj;obtain⟨oi,qi1,_,_,qi⟩:=g4 i (by omega);have ej:ops.toList.getD j default=oj:=by rw[sh];simp only[Oz] at qj1;rw[qj1];rfl
  have ei:ops.toList.getD i default=oi:=by rw[sh];simp only[Oz] at qi1;rw[qi1];rfl
  rw[qj,qi] at h2;rw[ej,ei];exact⟨h2.1,fun hc=>nm ops.toList [] (fun i=>by simp) (fun j k hk=>by simp at hk) j i (h2.2 hc)⟩
 have hnews0:∀k,k<n->∀x∈(Es k).news,x∉(S 0).refs:=by
  intro k hk x hx hx0;rw[g1] at hx0;obtain⟨o,_,_,_,q⟩:=g4 k hk;have hmem:recs.getD k uj∈recs:=by
   rw[sh,AI (by omega)];exact OE _
  have:=Ob.1 hfresh x (List.mem_flatMap.2 ⟨_,hmem,by rw[q];exact hx⟩);simp[hx0] at this
 have hdirect:∀j o,ops[j]? =some o->∀k∈direct o,k<j:=by
  intro j o ho k hk;have hjn:j<N:=by rw[<- hsz];exact(BY.1 ho).1
  unfold backward at hback;rw[Ob] at hback;have h1:=hback j (OJ.2 (by omega));have e:ops.toList[j]? =some o:=by simpa using ho
  rw[e] at h1;simpa using Ob.1 h1 k (by simpa using hk)
 have hancn:∀k j,Anc ops.toList k j->k<j:=by
  intro k j h;induction h with
  |one ho hk=>exact hdirect _ _ (by simpa using ho) _ hk
  |more _ _ h1 h2=>omega
 have main:∀(fuel:Nat) (listed:Array Bool) (s:aa) (a:Act) (w:World),listed.size=N->(∀k,n<=k->k<N->listed.getD k true=false)->
   (∃l:List Nat,l.Nodup/\n<=fuel+l.length/\∀k∈l,k<n/\listed.getD k true=true)->FT ops.toList n S Es (fun k=>decide (k<n)&&listed.getD k true) s->St X s a w->
   wpAnyIn (fw X.r) 2 X.P .any ops Q (fuel+fr) listed a w:=by
  have hready:∀(listed:Array Bool),listed.size=N->Region.ready .any ops listed=[]->∀k,k<n->listed.getD k true=true:=by
   intro listed hls hr k;induction k using Nat.strongRecOn with
   |_ k ih=>
    intro hk;cases hp:listed.getD k true with
    |true=>rfl
    |false=>
     obtain⟨o,ho,_⟩:=ht.step k hk;(have ho':ops[k]? =some o:=by simpa using ho);have:k∈Region.ready .any ops listed:=by
      unfold Region.ready;rw[Qh];refine⟨OJ.2 (by omega),?_⟩;simp only[hp,Rl,Pb,ho',Pj,OV];rw[Py];intro e he;by_cases hb:Region.binds .any e=true
      ·have hd:e.on∈direct o:=by
        unfold direct;rw[Q3];exact⟨e,by simpa using he,by rw[if_pos hb]⟩
       have hlt:=hdirect k o ho' _ hd;have h1:=ih e.on hlt (by omega);rw[hb];simp only[Pv,QK];(have:e.on<listed.size:=by omega);rw[<- h1];simp[Sw,this]
      ·simp[hb]
     rw[hr] at this;simp at this
  have hend:∀(e:Nat) (listed:Array Bool) (s:aa) (a:Act) (w:World),listed.size=N->(∀k,n<=k->k<N->listed.getD k true=false)->(∀k,k<n->listed.getD k true=true)->FT ops.toList n S Es (fun k=>decide (k<n)&&listed.getD k true) s->St X s a w->wpAnyIn (fw X.r) 2 X.P .any ops Q (e+fr) listed a w:=by
   intro e listed s a w hls hfalse hall hd hst;have hL:listed=Ov n true++Ov (N-n) false:=by
    (refine Array.ext (by simp;omega) (fun k h1 h2=>?_);(have hg:listed.getD k true=listed[k]:=by simp[Sw,h1]);by_cases hk:k<n;·rw[<- hg,hall k hk,Q6 (by simpa using hk)];simp);·rw[<- hg,hfalse k (by omega) (by omega),RR (by simp;omega)];simp
   have h3:=hrest a w (by
    (rw[<- g2];refine hst.look (fun loc=>?_) ?_ ?_;·exact agree ht hd (Oa n) (fun k hk _=>⟨fun _=>hk,fun _=>by simp[hk,hall k hk]⟩));·rw[g2];exact fy hdist.1
    ·rw[g2];exact fy hdist.2)
   rw[hsz] at h3;rw[hL];exact Iu e h3
  intro fuel;induction fuel with
  |zero=>
   intro listed s a w hls hfalse ⟨l,hl1,hl2,hl3⟩ hd hst;have hall:∀k,k<n->listed.getD k true=true:=by
    intro k hk;by_cases hkl:k∈l;·exact(hl3 k hkl).2
    ·have hsub:(k::l).Nodup:=P6.2 ⟨hkl,hl1⟩;have hle:=(List.Nodup.length_le_of_subset hsub (l₂:=Pa n) (fun x hx=>by
      (rcases IS.1 hx with rfl|hx;·exact OJ.2 hk);·exact OJ.2 (hl3 x hx).1))
     simp at hle;omega
   exact hend 0 listed s a w hls hfalse hall hd hst
  |succ fuel ih=>
   (intro listed s a w hls hfalse ⟨l,hl1,hl2,hl3⟩ hd hst;by_cases hall:∀k,k<n->listed.getD k true=true;·exact hend (fuel+1) listed s a w hls hfalse hall hd hst);rw[show fuel+1+fr=(fuel+fr)+1 by omega];refine⟨fun hr=>absurd (hready listed hls hr) hall,fun i hi=>?_⟩;unfold Region.ready at hi;rw[Qh] at hi;obtain⟨hi1,hi2⟩:=hi;(have hiN:i<N:=by rw[<- hsz];exact OJ.1 hi1);obtain⟨oi,hoi⟩:∃oi,ops[i]? =some oi:=⟨_,QF (by omega)⟩;simp only[hoi,Pj,OV,N9,Pc] at hi2;obtain⟨hnot,hedges⟩:=hi2;(have hoi':ops.toList[i]? =some oi:=by simpa using hoi);have hdown:∀k,Anc ops.toList k i->(decide (k<n)&&listed.getD k true)=true:=by
    have hd1:∀k∈direct oi,(decide (k<n)&&listed.getD k true)=true:=by
     intro k hk;have hlt:=hdirect i oi hoi k hk;unfold direct at hk;rw[Q3] at hk;obtain⟨e,he1,he2⟩:=hk;split at he2
     ·rename_i hb;cases he2;rw[Py] at hedges;have:=hedges e (by simpa using he1);rw[hb] at this;simp only[Pv,QK] at this;(have hsize:e.on<listed.size:=by omega);have h2:listed.getD e.on true=true:=by
       simp[Sw,hsize] at this ⊢;exact this
      have h3:e.on<n:=by
       (rcases Ru e.on n with h4|h4;·exact h4);·have:=hfalse e.on h4 (by omega);rw[h2] at this;cases this
      simp[h2,h3]
     ·cases he2
    intro k hk;cases hk with
    |one ho2 hk2=>rw[hoi'] at ho2;cases ho2;exact hd1 k hk2
    |more h1 h2=>
     rename_i j;have:∀{j},Anc ops.toList j i->(decide (j<n)&&listed.getD j true)=true:=by
      intro j hj;generalize hii:i=i2 at hj;induction hj with
      |one ho2 hk2=>subst hii;rw[hoi'] at ho2;cases ho2;exact hd1 _ hk2
      |more q1 q2 ih1 ih2=>
       subst hii;exact hd.down _ _ (ih2 rfl) q1
     exact this (.more h1 h2)
   have hin:i<n:=by
    (rcases Ru i n with h1|h1;·exact h1);·refine absurd (fun k hk=>?_) hall;have:=hdown k (hdep i k h1 (by omega) hk);simpa [hk] using this
   obtain⟨o,ho,hfs,hCi⟩:=ht.step i hin;(have ho':ops[i]? =some o:=by simpa using ho);(have hpi:(decide (i<n)&&listed.getD i true)=false:=by rw[hnot];simp);have hnotAfter:∀k,Anc ops.toList i k->(decide (k<n)&&listed.getD k true)=false:=by
    intro k hk;cases hpk:(decide (k<n)&&listed.getD k true) with
    |false=>rfl
    |true=>have:=hd.down k i hpk hk;rw[hpi] at this;cases this
   (have eo:ops.toList.getD i default=o:=by rw[sh,ho];rfl);have hag:∀loc,(loc∈gQ ops.toList (S i) o∨loc∈(Es i).locs)->∀k,k<n->k≠i->loc∈(Es k).locs->((decide (k<n)&&listed.getD k true)=true↔k<i):=by
    (intro loc hloc k hk hne hw;rcases Rv hne with hlt|hlt);·refine⟨fun _=>hlt,fun _=>hdown k ((hpair k i hlt hin).2 (.inl ⟨loc,hw,?_⟩))⟩;rw[eo];exact hloc
    ·have:=hnotAfter k ((hpair i k hlt hk).2 (.inr (.inl ⟨loc,hw,by rw[eo];exact hloc⟩)));rw[this];exact⟨fun h=>(by cases h),fun h=>by omega⟩
   have hfs2:iE X.T ops.toList s o=some (Cs i,Es i):=by
    rw[<- hfs];have hrd:∀loc∈gQ ops.toList (S i) o,look s loc=look (S i) loc:=fun loc hloc=>agree ht hd (Nat.le_of_lt hin) (fun k hk hw=>by
     by_cases e:k=i
     ·subst e;rw[hpi];exact⟨fun h=>(by cases h),fun h=>by omega⟩
     ·exact hag loc (.inl hloc) k hk e hw)
    have inj1:∀t,look s (false,t)=look (S i) (false,t)->get? s.env t=get? (S i).env t:=by
     intro t h;simp only[look] at h;cases h1:get? s.env t<;>cases h2:get? (S i).env t<;>simp[h1,h2] at h ⊢;exact h
    have inj2:∀t,look s (true,t)=look (S i) (true,t)->get? s.own t=get? (S i).own t:=by
     intro t h;simp only[look] at h;cases h1:get? s.own t<;>cases h2:get? (S i).own t<;>simp[h1,h2] at h ⊢;exact h
    (refine pz (fun t ht=>inj1 t (hrd _ ?_)) (fun hr t ht=>inj2 t (hrd _ ?_));·exact List.mem_append_left _ (Ot.2 ⟨t,ht,rfl⟩));·refine List.mem_append_right _ ?_;rw[if_pos hr];exact Ot.2 ⟨t,ht,rfl⟩
   have hfr:∀x∈(Es i).news,x∉s.refs:=by
    intro x hx hxs;rcases hd.refs x hxs with h1|⟨k,hk,hpk,h1⟩;·exact hnews0 i hin x hx h1
    ·by_cases e:k=i
     ·subst e;rw[hpi] at hpk;cases hpk
     ·(rcases Rv e with hlt|hlt;·exact(hpair k i hlt hin).1 x hx h1);·have:=hnotAfter k ((hpair i k hlt hk).2 (.inr (.inr ⟨x,hx,h1⟩)));rw[this] at hpk;cases hpk
   obtain⟨C',hC',hstep⟩:=rf hfs2 hfr;unfold wpOpIn;simp only[ho'];have hgo:=jS hT hΓ (Q:=Q) (K:=wpAnyIn (fw X.r) 2 X.P .any ops Q (fuel+fr) (listed.setIfInBounds i true)) hst hstep (hC' hCi) (fun a' w' hst'=>by
    have hget:∀k,k<N->(listed.setIfInBounds i true).getD k true=(if k=i then true else listed.getD k true):=by
     (intro k hk;simp only[O1,Array.getElem?_setIfInBounds];by_cases e:i=k;·subst e;simp[hls,hiN]);·have e':¬k=i:=fun h=>e h.symm;simp[e,e']
    refine ih _ _ a' w' (by simpa using hls) (fun k h1 h2=>by rw[hget k h2,if_neg (by omega)];exact hfalse k h1 h2) ?_ ?_ hst'
    ·(have hil:i∉l:=fun hm=>by have:=(hl3 i hm).2;rw[hnot] at this;cases this);refine⟨i::l,P6.2 ⟨hil,hl1⟩,by simp;omega,fun k hk=>?_⟩;rcases IS.1 hk with rfl|hk;·exact⟨hin,by rw[hget k (by omega)];simp⟩
     ·(have:=hl3 k hk;refine⟨this.1,?_⟩;rw[hget k (by omega)];split;·rfl);·exact this.2
    ·refine⟨fun j k hj hk=>?_,fun loc=>?_,fun x hx=>?_⟩
     ·have hkj:=hancn k j hk;simp only[N9,decide_eq_true_eq] at hj;(have hkn:k<n:=by omega);simp only[hkn,decide_true,Pb];rw[hget k (by omega)];split;·rfl
      ·(rw[hget j (by omega)] at hj;by_cases e:j=i;·subst e;have:=hdown k hk;simpa [hkn] using this);·rw[if_neg e] at hj;have:=hd.down j k (by simp[hj.1,hj.2]) hk;simpa [hkn] using this
     ·rw[ot hfs2];by_cases hw:wOf Es loc i=true
      ·rw[if_pos hw];(have hloc:loc∈(Es i).locs:=by simpa [wOf] using hw);have:eK (fun k=>(decide (k<n)&&(listed.setIfInBounds i true).getD k true)&&wOf Es loc k) n=some i:=by
        refine rm hin ?_ (fun k hk hik=>?_);·simp only[hin,decide_true,Pb];rw[hget i (by omega),hw];simp
        ·(simp only[hk,decide_true,Pb];rw[hget k (by omega),if_neg (by omega)];by_cases hwk:loc∈(Es k).locs;·have:=hag loc (.inr hloc) k hk (by omega) hwk;(have h3:¬(decide (k<n)&&listed.getD k true)=true:=fun h=>by have:=this.1 h;omega);simp[hk] at h3;simp[h3]);·simp[wOf,hwk]
       rw[this];rfl
      ·(rw[if_neg hw,hd.vals];congr 1;refine gI fun k hk=>?_;simp only[hk,decide_true,Pb];rw[hget k (by omega)];by_cases e:k=i;·subst e;(have:wOf Es loc k=false:=by simpa using hw);simp[this]);·rw[if_neg e]
     ·rcases rk _ _ x hx with h1|h1
      ·rcases hd.refs x h1 with h2|⟨k,hk,hpk,h2⟩;·exact .inl h2
       ·(refine .inr ⟨k,hk,?_,h2⟩;simp only[hk,decide_true,Pb] at hpk ⊢;rw[hget k (by omega)];split;·rfl);·exact hpk
      ·refine .inr ⟨i,hin,?_,h1⟩;simp only[hin,decide_true,Pb];rw[hget i (by omega)];simp)
   (have earr:ops.toList.toArray=ops:=by simp);rw[earr] at hgo;exact hgo
 have hrep:∀k,k<N->(Ov ops.size false).getD k true=false:=by
  intro k hk;rw[O1,QO,if_pos (by omega)];rfl
 refine main n _ (S 0) a _ (by simp[hsz]) (fun k _ hk=>hrep k hk) ⟨[],.nil,by simp,fun k hk=>by simp at hk⟩ ⟨fun j k hj _=>?_,fun loc=>?_,fun i hi=> .inl hi⟩ (by rw[g1];exact hst);·simp only[N9,decide_eq_true_eq] at hj;have:=hj.2;rw[hrep j (by omega)] at this;cases this
 ·have:eK (fun k=>(decide (k<n)&&(Ov ops.size false).getD k true)&&wOf Es loc k) n=none:=by
   have key:∀m,m<=n->eK (fun k=>(decide (k<n)&&(Ov ops.size false).getD k true)&&wOf Es loc k) m=none:=by
    intro m;induction m with
    |zero=>intro _;rfl
    |succ m ihm=>
     intro hm;simp only[eK,hrep m (by omega),Bool.and_false,Bool.false_and,Bool.false_eq_true,if_false];exact ihm (by omega)
   exact key n (Oa n)
  rw[this];rfl
end Go.Cm
end
section
namespace Go.Cm
open Go.RowKit
theorem ll{ops:Array Oper}{j m:Nat}(hN:j+m=ops.size)(hback:∀(i:Nat) (o:Oper),ops[i]? =some o->∀k∈direct o,k<i)(hch:∀(i:Nat) (o:Oper),ops[i]? =some o->j<i->i-1∈direct o):
  ∀i,i∈Region.ready .any ops (Ov j true++Ov m false)↔i=j/\j<ops.size:=by
 have hg:∀i,i<ops.size->(Ov j true++Ov m false).getD i true=decide (i<j):=by
  intro i hi;rw[O1];by_cases h:i<j;·rw[Array.getElem?_append_left (by simpa using h),QO,if_pos h];simp[h]
  ·rw[Array.getElem?_append_right (by simp;omega),QO,if_pos (by simp;omega)];simp[h]
 intro i;unfold Region.ready;rw[Qh];constructor
 ·rintro⟨h1,h2⟩;have hi:=OJ.1 h1;obtain⟨o,ho⟩:∃o,ops[i]? =some o:=⟨_,QF hi⟩;simp only[ho,Pj,OV,N9,Pc] at h2;obtain⟨h3,h4⟩:=h2;rw[hg i hi] at h3;have h5:¬i<j:=by simpa using h3
  rcases Ru j i with h6|h6
  ·exfalso;have h7:=hch i o ho h6;unfold direct at h7;rw[Q3] at h7;obtain⟨e,he1,he2⟩:=h7;split at he2
   ·rename_i hb;rw[Py] at h4;have h8:=h4 e (by simpa using he1);rw[hb] at h8;simp only[Pv,QK] at h8;have h9:e.on=i-1:=SJ he2;have h10:=hg e.on (by omega);(have h11:e.on<(Ov j true++Ov m false).size:=by simp;omega);have h12:(Ov j true++Ov m false).getD e.on true=true:=by
     simp only[Sw,h11,dif_pos] at h8 ⊢;exact h8
    rw[h12] at h10;(have:e.on<j:=by simpa using h10.symm);omega
   ·cases he2
  ·exact⟨by omega,by omega⟩
 ·rintro⟨rfl,hi⟩;obtain⟨o,ho⟩:∃o,ops[i]? =some o:=⟨_,QF hi⟩;refine⟨OJ.2 hi,?_⟩;simp only[ho,Pj,OV,hg i hi,Nat.lt_irrefl,decide_false,Rl,Pb];rw[Py];intro e he;by_cases hb:Region.binds .any e=true
  ·have hd:e.on∈direct o:=by
    unfold direct;rw[Q3];exact⟨e,by simpa using he,by rw[if_pos hb]⟩
   have hlt:=hback i o ho _ hd;have h1:=hg e.on (by omega);rw[hb];simp only[Pv,QK];(have h11:e.on<(Ov i true++Ov m false).size:=by simp;omega);rw[show decide (e.on<i)=true by simp[hlt]] at h1;simp only[Sw,h11,dif_pos] at h1 ⊢;exact h1
  ·simp[hb]
theorem oU{F:Fence}{n:Nat}{P:Program}{ops:Array Oper}{Q:Exit->Act->World->Prop}(hback:∀(i:Nat) (o:Oper),ops[i]? =some o->∀k∈direct o,k<i):∀(m j:Nat) {a:Act} {w:World},j+m=ops.size->(∀(i:Nat) (o:Oper),ops[i]? =some o->j<i->i-1∈direct o)->
  wpListIn F n P ops Q (ops.toList.drop j) a w->wpAnyIn F n P .any ops Q m (Ov j true++Ov m false) a w
 |0,j,a,w,hN,hch,h=>by
  have hd:ops.toList.drop j=[]:=List.drop_eq_nil_of_le (by simp;omega);rw[hd] at h;refine⟨?_,h⟩;cases hr:Region.ready .any ops (Ov j true++Ov 0 false) with
  |nil=>rfl
  |cons i r=>
   have:=(ll (m:=0) hN hback hch i).1 (by rw[hr];simp);omega
 |m+1,j,a,w,hN,hch,h=>by
  have hj:j<ops.toList.length:=by simp;omega
  have ho:ops[j]? =some ops[j]:=QF (by omega);rw[List.drop_eq_getElem_cons hj] at h;refine⟨fun hr=>?_,fun i hi=>?_⟩;·have:=(ll (m:=m+1) hN hback hch j).2 ⟨rfl,by omega⟩;rw[hr] at this;cases this
  ·obtain⟨rfl,-⟩:=(ll (m:=m+1) hN hback hch i).1 hi;have hset:(Ov i true++Ov (m+1) false).setIfInBounds i true=Ov (i+1) true++Ov m false:=by
    refine Array.ext (by simp;omega) (fun k h1 h2=>?_);(have hk:k<i+1+m:=by simpa using h2);rw[Array.getElem_setIfInBounds (by simp;omega)];by_cases e:i=k;·subst e;rw[if_pos rfl,Q6 (by simp)];simp
    ·(rw[if_neg e];by_cases h3:k<i;·rw[Q6 (by simpa using h3),Q6 (by simp;omega)];simp);·rw[RR (by simp;omega),RR (by simp;omega)];simp
   (rw[hset];have ih:∀a w,wpListIn F n P ops Q (ops.toList.drop (i+1)) a w->wpAnyIn F n P .any ops Q m (Ov (i+1) true++Ov m false) a w:=fun a w h=>oU hback m (i+1) (by omega) (fun k o ho hk=>hch k o ho (by omega)) h;unfold wpOpIn;rw[ho];simp only[wpListIn] at h;(have e1:ops.toList[i]=ops[i]:=by simp);rw[e1] at h;simp only;split;·rename_i hw;rw[if_pos hw] at h;exact Oper.wpIn_mono ih h);·rename_i hw;rw[if_neg hw] at h;exact⟨h.1,ih _ _ h.2⟩
def mJ(ops:List Oper)(n:Nat):Bool:=
 ((Pa ops.length).all fun i=>i<=n||(((ops[i]?).map direct).getD []).contains (i-1))&&
 ((Pa ops.length).all fun i=>i<n||(Pa n).all fun k=>((I3 ops []).getD i []).contains k)
section
variable {t:bS} {T:Tab} {g:Option Nat} {s s' s1:aa} {K:Exit->Option Nat->aa->Prop} {C:Prop}
theorem Cu(ht:t.OK)(hG:aV t.P T)(n:Nat){id:Nat}{ops:Array Oper}{recs:List Rec}(hnl:n<=ops.size)(he:trace T ops.toList (ops.toList.take n) s=some (C,s1,recs))(hor:cV ops.toList recs=true)(hcb:mJ ops.toList n=true)
  (hf:(recs.flatMap Rec.news).all (fun x=> !s.refs.contains x)=true) (hd:(distinct (s1.env.map Prod.fst)&&distinct (s1.own.map Prod.fst))=true) (hC:C) (ho1:s1.own=[]) (h:YL t T ops.toList (ops.toList.drop n) g s1 (fun g s=>K .normal g s)):YJ t T (.region id ops true) g s K:=by
 rintro D a w hJ ⟨ho,hb,ρ0,tm,hst⟩;refine wpIn_region_any hG.mixed ?_;have hbk:∀(i:Nat) (o:Oper),ops[i]? =some o->∀k∈direct o,k<i:=by
  intro i o ho k hk;simp only[cV,N9] at hor;have h1:=hor.1;unfold backward at h1;rw[Ob] at h1;have hi:i<ops.size:=(BY.1 ho).1;have h2:=h1 i (OJ.2 (by simpa using hi));have e:ops.toList[i]? =some o:=by simpa using ho
  rw[e] at h2;simpa using Ob.1 h2 k (by simpa using hk)
 unfold mJ at hcb;rw[N9,Ob,Ob] at hcb;obtain⟨hc1,hc2⟩:=hcb;have hch:∀(i:Nat) (o:Oper),ops[i]? =some o->n<i->i-1∈direct o:=by
  intro i o ho hi;have hi2:i<ops.size:=(BY.1 ho).1;have h1:=hc1 i (OJ.2 (by simpa using hi2));have e:ops.toList[i]? =some o:=by simpa using ho
  rw[e] at h1;simp only[Pj,OV,OT,decide_eq_true_eq,PK] at h1;exact h1.resolve_left (by omega)
 have hdep:∀i k,n<=i->i<ops.size->k<n->Anc ops.toList k i:=by
  intro i k h1 h2 h3;have h4:=hc2 i (OJ.2 (by simpa using h2));simp only[OT,decide_eq_true_eq] at h4;have h5:=h4.resolve_left (by omega);rw[Ob] at h5;have h6:=h5 k (OJ.2 h3);exact nm ops.toList [] (fun i=>by simp) (fun j k hk=>by simp at hk) i k (by simpa using h6)
 obtain⟨m,hm⟩:∃m,ops.size=n+m:=⟨ops.size-n,by omega⟩;have main:=y8 (X:=t.cx T D w ρ0 tm) hG.tab hG.cons (Q:=fun e a' w'=>∃g' s' D',K e g' s'/\t.J g' D' w'/\t.S T D' s' a' w'/\b5 D w D' w') (fr:=m) hnl he hC hor hf hd hdep (fun a1 w1 h1=>by
  have hg:lj w w1:=⟨h1.below.os,h1.below.tape,h1.below.output,h1.below.size,fun b hb hn=>h1.below.block b hb (fun e=>e.elim hn fun x=>x)⟩;have h2:=h (fun e a' w'=>∃g' s' D',K e g' s'/\t.J g' D' w'/\t.S T D' s' a' w'/\b5 D w D' w') D a1 w1 (ht.grow _ _ _ _ hJ hg) (bS.S.rebase hb h1 ho1) (fun a' w' ⟨g',s',D',k1,k2,k3,k4⟩=>⟨g',s',D',k1,k2,k3,(b5.grows hg).trans k4⟩);rw[show ops.size-n=m by omega];exact oU hbk m n (by omega) hch (by simpa using h2)) (a:=a) (v7 hst)
 rw[show ops.size=n+m by omega] at main ⊢;exact main
theorem Kg(ht:t.OK){c:Code}(h:∀X:Cx,X.P=t.P->X.T=T->X.r=none->J X c s (fun e s'=>∃s'',(∀a w,St X s' a w->St X s'' a w)/\K e g s''/\s''.own=[])):YJ t T c g s K:=by
 rintro D a w hJ ⟨ho,hb,ρ0,tm,hst⟩;refine Code.wpIn_mono (fun e a' w' h1=>?_) (h (t.cx T D w ρ0 tm) rfl rfl rfl a w hst);obtain⟨s',⟨s'',h0,h1,h2⟩,h3⟩:=h1;have hg:lj w w':=⟨h3.below.os,h3.below.tape,h3.below.output,h3.below.size,fun b hb hn=>h3.below.block b hb (fun e=>e.elim hn fun x=>x)⟩;exact⟨g,s'',D,h1,ht.grow _ _ _ _ hJ hg,bS.S.rebase hb (h0 _ _ h3) h2,b5.grows hg⟩
def bS.more(t:bS)(F:(Nat->Prop)->World->Prop):bS:={t with J:=fun g D w=>t.J g D w/\F D w}
theorem bS.more_ok(ht:t.OK){F:(Nat->Prop)->World->Prop}(hF:∀g D A D' B,t.J g D A->F D A->b5 D A D' B->F D' B):(t.more F).OK:=by
 refine⟨fun g D A B h hg=>⟨ht.grow _ _ _ _ h.1 hg,hF g D A D B h.1 h.2 (b5.grows hg)⟩,fun g D A h=>ht.on _ _ _ h.1,fun k D A vs h hk hv=>?_⟩;obtain⟨fn,tmps,asg,body,h1,h2⟩:=ht.round k D A vs h.1 hk hv;refine⟨fn,tmps,asg,body,h1,h2.mono ?_⟩;rintro e B ⟨D',hA,(⟨rfl,hJ⟩|⟨rfl,hJ⟩)⟩;·exact⟨D',hA,.inl ⟨rfl,hJ,hF _ D A D' B h.1 h.2 hA⟩⟩
 ·exact⟨D',hA,.inr ⟨rfl,hJ,hF _ D A D' B h.1 h.2 hA⟩⟩
end
structure tT (b:Nat) (v:Value) (ty:TypeId) (D:Nat->Prop) (w:World):Prop where
 lt:b<w.heap.size
 free:¬D b
 at_:w.heap[b]? =some (.cells #[v] ty (0,0))
theorem tT.after{b:Nat}{v:Value}{ty:TypeId}{D D':Nat->Prop}{w w':World}(h:tT b v ty D w)(hA:b5 D w D' w'):tT b v ty D' w':=
 ⟨OC h.lt hA.size,fun hD=>(hA.out b hD).elim h.free (fun h1=>by have:=h.lt;omega),(hA.same b h.lt h.free ⟨_,h.at_,rfl⟩).trans h.at_⟩
theorem lT{t:Ty}{x:t.D}{v:Value}{D D':Nat->Prop}{w w':World}(h:aJ D w (fun _=>undef) (.z t x) v)(hA:b5 D w D' w'):aJ D' w' (fun _=>undef) (.z t x) v:=
 aN (fun b hlt hb=>(hA.out b hb).elim id (fun h1=>by omega)) hA.stays (fun _ _=>rfl) h
theorem tr1{T:Tab}{ops l:List Oper}{s s':aa}{C:Prop}{recs:List Rec}(h:trace T ops l s=some (C,s',recs):=by simp only[hT,Go.Cm.mt0,hX,Go.Cm.mx0,Go.Cm.mx1,Go.Cm.mx2,Go.Cm.mx3,Go.Cm.mx4,Go.Cm.mx5,Go.Cm.mx6,Go.Cm.effOp,Go.Cm.endCall,Go.Cm.callOp,Go.Cm.appendOp,Go.Cm.sliceLV,Go.Cm.Ty.fieldTy,Go.Cm.Ty.fieldOf,N8,AS,IT,N3,No,AT,N4,N5,reduceIte,reduceDIte,reduceCtorEq];rfl):trace T ops l s=some (C,s',recs):=h
section
variable {t:bS} {T:Tab} {g:Option Nat} {s s' s1:aa} {K:Exit->Option Nat->aa->Prop} {C:Prop}
theorem ydE(n:Nat){id:Nat}{ops:Array Oper}{c2:Code}{recs:List Rec}(hC:C)(h:YL t T ops.toList (ops.toList.drop n) g s1 (fun g s=>YJ t T c2 g s K))(ht:t.OK:=by assumption)(hG:aV t.P T:=by assumption)(hnl:n<=ops.size:=by exact OZ rfl)(he:trace T ops.toList (ops.toList.take n) s=some (C,s1,recs):=by exact tr1)
  (hor:cV ops.toList recs=true:=by kernel_rfl) (hcb:mJ ops.toList n=true:=by kernel_rfl) (hf:(recs.flatMap Rec.news).all (fun x=> !s.refs.contains x)=true:=by rfl) (hd:(distinct (s1.env.map Prod.fst)&&distinct (s1.own.map Prod.fst))=true:=by rfl) (ho1:s1.own=[]:=by rfl):YJ t T (.seq (.region id ops true) c2) g s K:=
 lk (Cu ht hG n hnl he hor hcb hf hd hC ho1 h)
end
theorem sZ{t:bS}{T:Tab}{g:Option Nat}{s:aa}(ht:t.OK){ops:List Oper}{o:Oper}{c:Call}{x:Operand}{d:Nat}{f:FuncId}{fn:Func}{caps:List Value}{args:List LV}{R:Option Nat->Value->Prop}(hcall:Cq t f g args caps R)(hR:∀g' v,R g' v->∃b:Bool,v= .bool b)
  (hx:leaf (aP s x)=some (.val (.func (.func f) #[] caps.toArray))) (hfn:t.P.funcs[f]? =some fn) (hdN:T.ok d=true) (hname:(fn.name== "runtime.NumGoroutine")=false) (hop:o.op= .call c:=by rfl) (hcal:c.callee= .value x:=by rfl) (hd:o.dst=some d:=by rfl)
  (hw:vx ops s o=some true:=by rfl) (hbody:fn.body.isNone=false:=by rfl) (hargs:c.args.toList.map (fun y=>leaf (aP s y))=args.map some:=by rfl) (hz:args.all LV.free=true:=by rfl):yW t T ops o g s (fun g' s'=>∃b:Bool,R g' (.bool b)/\s'=s.put d (.l (.z .bool b))):=
 Kf ht hop hcal hd hdN hw hx hfn hname hbody hargs hz hcall fun g' v h=>by
  obtain⟨b,rfl⟩:=hR _ _ h;exact⟨b,rfl,b,h,rfl⟩
theorem E7{α:Type}{l:List α}{k:Nat}{x r:List α}(h:l.drop k=x++r):l.drop (k+x.length)=r:=by
 rw[<- List.drop_drop,h,List.drop_left]
theorem Iv{α:Type}{l:List α}{k:Nat}{x:α}{r:List α}(h:l.drop k=x::r):l[k]? =some x:=by
 have:=congrArg (fun m=>m[0]?) h;simpa using this
end Go.Cm
end
section
namespace Go.Cm
open Go.RowKit
def NB(P:Program)(ty:TypeId)(t:Ty)(op:BinOp)(r:t.D->t.D->Bool):Prop:=∀(w:World) (H:Nat->Prop) (ρ:Nat->Value) (x y:Operand) (a b:t.D) (va vb:Value),aJ H w ρ (.z t a) va->aJ H w ρ (.z t b) vb->(do eqGuard op ty x y va vb;binOp op ty va vb:Sem Value).run P w= .ok (.bool (r a b)) w
theorem E8{X:Cx}(hG:aV X.P X.T){n:Nat}{id:Nat}{ops:Array Oper}{o:Oper}{s s1:aa}{C:Prop}{recs:List Rec}{K:Exit->aa->Prop}(hn:ops.size=n+1)(ho:ops.toList.drop n=[o])(he:trace X.T ops.toList (ops.toList.take n) s=some (C,s1,recs))(hor:cV ops.toList recs=true)(hcb:mJ ops.toList n=true)
  (hf:(recs.flatMap Rec.news).all (fun x=> !s.refs.contains x)=true) (hd:(distinct (s1.env.map Prod.fst)&&distinct (s1.own.map Prod.fst))=true) (hC:C)
  (h:∀a w,St X s1 a w->wpListIn (fw X.r) 2 X.P ops (fun e a w=>∃s',K e s'/\St X s' a w) [o] a w):J X (.region id ops true) s K:=by
 intro a w hst;refine wpIn_region_any hG.mixed ?_;have hbk:∀(i:Nat) (o:Oper),ops[i]? =some o->∀k∈direct o,k<i:=by
  intro i o ho k hk;simp only[cV,N9] at hor;have h1:=hor.1;unfold backward at h1;rw[Ob] at h1;have hi:i<ops.size:=(BY.1 ho).1;have h2:=h1 i (OJ.2 (by simpa using hi));have e:ops.toList[i]? =some o:=by simpa using ho
  rw[e] at h2;simpa using Ob.1 h2 k (by simpa using hk)
 unfold mJ at hcb;rw[N9,Ob,Ob] at hcb;obtain⟨hc1,hc2⟩:=hcb;have hch:∀(i:Nat) (o:Oper),ops[i]? =some o->n<i->i-1∈direct o:=by
  intro i o ho hi;have hi2:i<ops.size:=(BY.1 ho).1;omega
 have hdep:∀i k,n<=i->i<ops.size->k<n->Anc ops.toList k i:=by
  intro i k h1 h2 h3;have h4:=hc2 i (OJ.2 (by simpa using h2));simp only[OT,decide_eq_true_eq] at h4;have h5:=h4.resolve_left (by omega);rw[Ob] at h5;have h6:=h5 k (OJ.2 h3);exact nm ops.toList [] (fun i=>by simp) (fun j k hk=>by simp at hk) i k (by simpa using h6)
 have main:=y8 (X:=X) hG.tab hG.cons (Q:=fun e a' w'=>∃s',K e s'/\St X s' a' w') (n:=n) (fr:=1) (by omega) he hC hor hf hd hdep (fun a1 w1 h1=>by
  have h2:=h a1 w1 h1;rw[<- ho] at h2;rw[show ops.size-n=1 by omega];exact oU hbk 1 n (by omega) hch h2) (a:=a) (v7 hst)
 rw[hn] at main ⊢;exact main
theorem NC{X:Cx}(n:Nat){id:Nat}{ops:Array Oper}{s s1:aa}{C:Prop}{recs:List Rec}{K:Exit->aa->Prop}{op:BinOp}{ty t' d:Nat}{x y:Operand}{t:Ty}{a b:t.D}{r:t.D->t.D->Bool}{o:Oper}(hE:NB X.P ty t op r)(hC:C)(hK:K .normal (s1.put d (.l (.z .bool (r a b)))))
  (hG:aV X.P X.T:=by assumption) (he:trace X.T ops.toList (ops.toList.take n) s=some (C,s1,recs):=by exact tr1) (hn:ops.size=n+1:=by rfl) (ho:ops.toList.drop n=[o]:=by rfl) (hop:o.op= .binOp op ty x y t':=by rfl) (hd:o.dst=some d:=by rfl) (hg:o.guard=none:=by rfl) (hdN:X.T.ok d=true:=by first|rfl|(rw[hT];rfl))
  (hx:leaf (aP s1 x)=some (.z t a):=by rfl) (hy:leaf (aP s1 y)=some (.z t b):=by rfl)
  (hor:cV ops.toList recs=true:=by kernel_rfl) (hcb:mJ ops.toList n=true:=by kernel_rfl) (hf:(recs.flatMap Rec.news).all (fun x=> !s.refs.contains x)=true:=by rfl) (hdi:(distinct (s1.env.map Prod.fst)&&distinct (s1.own.map Prod.fst))=true:=by rfl):J X (.region id ops true) s K:=by
 refine E8 hG hn ho he hor hcb hf hdi hC fun ac w hst=>?_;have hw:∀t,Region.wanted o (yielded ops t)=true:=fun t=>by simp[Region.wanted,hg]
 obtain⟨ρ,hfit⟩:=hst.fits;simp only[wpListIn,hw,if_true];refine a6 (v:= .bool (r a b)) (w':=w) ?_ ⟨_,hK,?_⟩;·unfold execOp;rw[hop];exact bl (hE w _ ρ x y a b _ _ (ax hfit hx) (ax hfit hy))
 ·rw[hd];exact hst.put hfit hdN ⟨rfl,rfl⟩
theorem nR{P:Program}{w:World}{t:TypeId}{d:TypeDesc}(hu:P.underlying t=some d)(hd:d.isRow=false){cs:Array Value}{o:Nat}{v:Value}(h:cs[o]? =some v):(part t cs o).run P w= .ok v w:=by
 unfold part isAgg;simp only[Sem.run_bind,run_underlying hu];cases d<;>simp_all [TypeDesc.isRow]
theorem MG(a b:List UInt8):((⟨a.toArray⟩:ByteArray)==⟨b.toArray⟩)=decide (a=b):=by
 show ((⟨a.toArray⟩:ByteArray).data==(⟨b.toArray⟩:ByteArray).data)=_;simp only[];by_cases h:a=b;·subst h;simp
 ·rw[decide_eq_false h];simpa using h
def y9(P:Program)(ty:TypeId):Bool:=
 match P.underlying ty with
 |some (.struct fs)=>(match fs.toList with
  | [f1,f2]=>f1.name != "_"&&f2.name != "_"&&f1.offset==0&&f2.offset==1&&(match P.underlying f1.type with|some .string=>true|_=>false)&&(match P.underlying f2.type with|some (.int .i64)=>true|_=>false)
  |_=>false)&& !P.stoodInHeld ty&& !(P.eqGuardType P.depth ty)
 |_=>false
theorem NF{P:Program}{ty:TypeId}(h:y9 P ty=true):NB P ty (.st (.pair .str (.int .i64))) .neq (fun a b=> !decide (a=b)):=by
 unfold y9 at h;split at h;case h_2=>cases h
 rename_i fs hu;simp only[N9,Pc] at h;obtain⟨⟨h,h2⟩,h3⟩:=h;split at h;case h_2=>cases h
 rename_i f1 f2 hfs;simp only[N9,bne_iff_ne,beq_iff_eq] at h;obtain⟨⟨⟨⟨⟨n1,n2⟩,o1⟩,o2⟩,u1⟩,u2⟩:=h;obtain⟨v1,v2⟩:P.underlying f1.type=some .string/\P.underlying f2.type=some (.int .i64):=by
  refine⟨?_,?_⟩
  ·(split at u1;·assumption);·cases u1
  ·(split at u2;·assumption);·cases u2
 have hfs':fs= #[f1,f2]:=by apply Qk;simpa using hfs
 subst hfs';intro w H ρ x y a b va vb ha hb;obtain⟨ca,rfl,r1,r2,e1,p1,q1⟩:=vO ha;obtain⟨cb,rfl,s1,s2,e2,p2,q2⟩:=vO hb;obtain⟨a1,a2⟩:=a;obtain⟨b1,b2⟩:=b;have p1:r1=[.string ⟨a1.toArray⟩]:=p1;have q1:r2=[.int .i64 a2]:=q1;have p2:s1=[.string ⟨b1.toArray⟩]:=p2;have q2:s2=[.int .i64 b2]:=q2;subst p1 q1 p2 q2 e1 e2;have hg:(eqGuard .neq ty x y (.agg ([Value.string ⟨a1.toArray⟩]++ [Value.int .i64 a2]).toArray) (.agg ([Value.string ⟨b1.toArray⟩]++ [Value.int .i64 b2]).toArray)).run P w= .ok () w:=by
  simp[eqGuard,h3]
 have E1:∀d,(Op.equalIn (d+1) f1.type (.string ⟨a1.toArray⟩) (.string ⟨b1.toArray⟩)).run P w= .ok (decide (a1=b1)) w:=by
  intro d;simp[Op.equalIn,run_underlying v1];exact MG _ _
 have E2:∀d,(Op.equalIn (d+1) f2.type (.int .i64 a2) (.int .i64 b2)).run P w= .ok (decide (a2=b2)) w:=by
  intro d;simp[Op.equalIn,run_underlying v2];rfl
 have A1:(part f1.type ([Value.string ⟨a1.toArray⟩]++ [Value.int .i64 a2]).toArray f1.offset).run P w= .ok (.string ⟨a1.toArray⟩) w:=nR v1 rfl (by rw[o1];rfl);have A2:(part f2.type ([Value.string ⟨a1.toArray⟩]++ [Value.int .i64 a2]).toArray f2.offset).run P w= .ok (.int .i64 a2) w:=nR v2 rfl (by rw[o2];rfl);have B1:(part f1.type ([Value.string ⟨b1.toArray⟩]++ [Value.int .i64 b2]).toArray f1.offset).run P w= .ok (.string ⟨b1.toArray⟩) w:=nR v1 rfl (by rw[o1];rfl);have B2:(part f2.type ([Value.string ⟨b1.toArray⟩]++ [Value.int .i64 b2]).toArray f2.offset).run P w= .ok (.int .i64 b2) w:=nR v2 rfl (by rw[o2];rfl);rw[Sem.run_bind,hg];simp only[binOp,Op.equal,Op.maxDepth];rw[Op.equalIn];simp only[Sem.run_bind,run_underlying hu];generalize ([Value.string ⟨a1.toArray⟩]++ [Value.int .i64 a2]).toArray=va at*;generalize ([Value.string ⟨b1.toArray⟩]++ [Value.int .i64 b2]).toArray=vb at*;have E1:=E1 9998;have E2:=E2 9998;simp only[IT] at E1 E2;generalize 9999=D at E1 E2 ⊢;have hT:∀(α β:Type) (a:α) (w:World) (f:α->World->Result β),(Result.ok a w).andThen f=f a w:=fun _ _ _ _ _=>rfl;simp only[hT];simp[h2,n1,n2,A1,A2,B1,B2,E1];by_cases h1:a1=b1;·rw[decide_eq_true h1];simp[h1,A2,B2,E2];by_cases h4:a2=b2<;>simp[h4]
 ·rw[decide_eq_false h1];simp[h1]
def PJ(X:Cx)(c:Code)(s:aa)(Q:Exit->Act->World->Prop):Prop:=∀a w,St X s a w->c.wpIn (fw X.r) 2 X.P Q a w
def pjK(X:Cx)(y:Code)(Q:Exit->Act->World->Prop)(e:Exit)(s:aa):Prop:=match e with
 | .normal=>PJ X y s Q
 |_=>False
theorem mK{X:Cx}{x y:Code}{s:aa}{Q:Exit->Act->World->Prop}(h:J X x s (pjK X y Q)):PJ X (.seq x y) s Q:=by
 intro a w hst;refine wpIn_seq (Code.wpIn_mono (fun e a w ⟨s',h1,h2⟩=>?_) (h a w hst));cases e with
 |normal=>exact h1 a w h2
 |_=>exact h1.elim
theorem AY{X:Cx}{y:Code}{s:aa}{Q:Exit->Act->World->Prop}(h:PJ X y s Q):pjK X y Q .normal s:=h
theorem s6{X:Cx}{c:Code}{s s':aa}{Q:Exit->Act->World->Prop}(id:Nat)(t:Ty){T:TypeId}{cs:List LV}{x:t.D}(hg:get? s.own id=some (.box T cs))(hx:t.join cs=some (x,[]))(hs:s.thawQ id t x=s')(h:PJ X c s' Q):PJ X c s Q:=
 fun a w hst=>h a w (y4 id t hg hx hs a w hst)
def LV.pinB(i b j c:Nat):LV->LV
 | .z t x=> .z t x
 | .val v=> .val v
 | .ownP k off=>if k=i/\off=0 then .val (.pointer (some ⟨b,0,none⟩)) else if k=j/\off=0 then .val (.pointer (some ⟨c,0,none⟩)) else .junk
 |_=> .junk
def aa.pinB(s:aa)(i b j c:Nat):aa:={env:=bH (LV.pinB i b j c) s.env,own:=[]}
theorem Kh{t:bS}{T:Tab}{D:Nat->Prop}{w0:World}{ρ0 tm:Nat->Value}{s:aa}{a:Act}{w:World}(hb:T.base=t.B)(hst:St (t.cx T D w0 ρ0 tm) s a w){i j:Nat}{Ti Tj:TypeId}{y:Value}{f:FuncId}{t1 t2:Ty}{x1:t1.D}{x2:t2.D}
  (hi:get? s.own i=some (.box Ti [.val y])) (hj:get? s.own j=some (.box Tj [.fn f [.z t1 x1,.p i,.z t2 x2,.p j]])) (hij:i≠j):
  ∃b c v1 v2,b≠c/\tT b y Ti D w/\tT c (.func (.func f) #[] [v1,.pointer (some ⟨b,0,none⟩),v2,.pointer (some ⟨c,0,none⟩)].toArray) Tj D w/\aJ D w (fun _=>undef) (.z t1 x1) v1/\aJ D w (fun _=>undef) (.z t2 x2) v2/\
   (∀T':Tab,T'.base=T.base->T'.N=T.N->T'.keep=T.keep->(∀b' v ty,get? T'.pins b'=some (v,ty)->tT b' v ty D w)->t.S T' D (s.pinB i b j c) a w):=by
 obtain⟨ρ,hf⟩:=hst.fits;obtain⟨b,vs,hb1,hM1,hh1,hc1⟩:=hf.own _ (get?_mem hi);obtain⟨c,us,hb2,hM2,hh2,hc2⟩:=hf.own _ (get?_mem hj);match vs,hc1,us,hc2 with
 | [u],hc1,[v],hc2=>
  obtain rfl:u=y:=hc1.1.1;obtain⟨lb,rfl,hcap⟩:=hc2.1.1;match lb,hcap with
  | [v1,p1,v2,p2],hcap=>
   obtain⟨k1,⟨b',e1,e2⟩,k3,⟨c',e3,e4⟩,-⟩:=hcap;rw[hb1] at e1;cases e1;rw[hb2] at e3;cases e3;subst e2 e4;have hne:b≠c:=by
    intro e;subst e;exact hf.two (p:=(i,_)) (q:=(j,_)) (get?_mem hi) (get?_mem hj) hij (b:=b) (by show Blk (ρ i) b;rw[hb1];rfl) (by show Blk (ρ j) b;rw[hb2];rfl)
   (have hoD:∀x,(t.cx T D w0 ρ0 tm).M x-> ¬D x:=fun x hx hD=>hst.others x hD hx;have hD0:∀x,D x->hot (t.cx T D w0 ρ0 tm).O ρ s.own x:=fun x hx=> .inl hx;have P1:tT b u Ti D w:=⟨(BY.1 hh1).1,hoD b hM1,hh1⟩;have P2:tT c (.func (.func f) #[] [v1,.pointer (some ⟨b,0,none⟩),v2,.pointer (some ⟨c,0,none⟩)].toArray) Tj D w:=⟨(BY.1 hh2).1,hoD c hM2,hh2⟩;refine⟨b,c,v1,v2,hne,P1,P2,⟨k1.1,t1.rep_hot (fun x _ hx=>hD0 x hx) k1.2⟩,⟨k3.1,t2.rep_hot (fun x _ hx=>hD0 x hx) k3.2⟩,fun T' hbase hN hkeep hp=>?_⟩;refine⟨rfl,by rw[hbase];exact hb,ρ0,tm,⟨?_,fun t ht=>?_,?_,Bel.refl _ _,fun x hD hm=>?_,⟨?_,?_,fun b hb=>hb.elim,fun b' v ty h=>?_⟩,ρ,fun e he=>?_,fun p hp=>absurd hp (by simp[aa.pinB]),fun p hp=>absurd hp (by simp[aa.pinB]),.nil⟩⟩;·rw[hst.marks.quiet rfl];exact Marks.nil _ _ _);·exact hst.kept t (by simp only at ht ⊢;rw[<- hkeep];exact ht)
   ·simp only[hN];exact hst.size
   ·(have h1:=hst.others x hD;have h2:=hst.below.size;rcases hm with hm|hm;·exact h1 (.inl (by simp only at hm h2 ⊢;omega)));·exact hm
   ·simp only[hN];exact hst.small.n
   ·simp only[hbase];exact hst.on
   ·exact⟨(hp b' v ty h).lt,id,(hp b' v ty h).free,(hp b' v ty h).at_⟩
   ·obtain⟨v,h1,h2⟩:=gh he;rw[h2];refine eF (fun x v hx=>?_) (hf.env _ h1);have hh:∀b,hot (t.cx T' D w ρ0 tm).O ρ (s.pinB i b j c).own b->hot (t.cx T D w0 ρ0 tm).O ρ s.own b:=by
     (rintro b (hb|⟨p,hp,_⟩);·exact .inl hb);·exact absurd hp (by simp[aa.pinB])
    cases x with
    |z t x=>exact⟨hx.1,t.rep_hot (fun b _ hb=>hb.elim .inl (fun⟨p,hp,_⟩=>absurd hp (by simp[aa.pinB]))) hx.2⟩
    |val u=>exact hx
    |ownP k off=>
     obtain⟨d,hd,rfl⟩:=hx;simp only[LV.pinB];split;·rename_i e;obtain⟨rfl,rfl⟩:=e;rw[hb1] at hd;cases hd;rfl
     ·(split;·rename_i e;obtain⟨rfl,rfl⟩:=e;rw[hb2] at hd;cases hd;rfl);·trivial
    |_=>trivial
theorem ydR{t:bS}{T:Tab}{g:Option Nat}{s s1:aa}{K:Exit->Option Nat->aa->Prop}{C:Prop}(n:Nat){id:Nat}{ops:Array Oper}{recs:List Rec}(hC:C)(h:YL t T ops.toList (ops.toList.drop n) g s1 (fun g s=>K .normal g s))(ht:t.OK:=by assumption)(hG:aV t.P T:=by assumption)(hnl:n<=ops.size:=by exact OZ rfl)(he:trace T ops.toList (ops.toList.take n) s=some (C,s1,recs):=by exact tr1)
  (hor:cV ops.toList recs=true:=by kernel_rfl) (hcb:mJ ops.toList n=true:=by kernel_rfl) (hf:(recs.flatMap Rec.news).all (fun x=> !s.refs.contains x)=true:=by rfl) (hd:(distinct (s1.env.map Prod.fst)&&distinct (s1.own.map Prod.fst))=true:=by rfl) (ho1:s1.own=[]:=by rfl):YJ t T (.region id ops true) g s K:=
 Cu ht hG n hnl he hor hcb hf hd hC ho1 h
theorem bS.S.more{t:bS}{F:(Nat->Prop)->World->Prop}{T:Tab}{D:Nat->Prop}{s:aa}{a:Act}{w:World}(h:t.S T D s a w):(t.more F).S T D s a w:=by
 obtain⟨ho,hb,ρ0,tm,hst⟩:=h;exact⟨ho,hb,ρ0,tm,hst⟩
theorem bS.S.table{t:bS}{F:(Nat->Prop)->World->Prop}{T T':Tab}{D:Nat->Prop}{s:aa}{a:Act}{w:World}(h:(t.more F).S T' D s a w)(hbase:T'.base=T.base)(hN:T'.N=T.N)(hkeep:T'.keep=T.keep)(hpins:T.pins=[]):t.S T D s a w:=by
 obtain⟨ho,hb,ρ0,tm,hst⟩:=h;refine⟨ho,by rw[<- hbase];exact hb,ρ0,tm,⟨hst.marks,fun t ht=>hst.kept t (by simp only at ht ⊢;rw[hkeep];exact ht),by simp only[<- hN];exact hst.size,hst.below,hst.others,⟨by simp only[<- hN];exact hst.small.n,by simp only[<- hbase];exact hst.small.on,fun b hb=>hb.elim,fun b v ty hp=>by simp only[hpins] at hp;cases hp⟩,?_⟩⟩;obtain⟨ρ,hf⟩:=hst.fits;exact⟨ρ,hf.env,hf.own,fun p hp=>absurd hp (by rw[ho];simp),hf.apart⟩
def s7:Code->Option (Nat×TypeId×Nat)
 | .region _ ops false=>match ops.toList with
  | [o1,o2]=>match o1.guard,o1.dst,o1.op,o2.guard,o2.dst,o2.op with
   |none,some d,.alloc T,none,none,.store T' (.tmp d') (.tmp p)=>if T=T'/\d'=d/\p≠d then some (d,T,p) else none
   |_,_,_,_,_,_=>none
  |_=>none
 |_=>none
theorem nS{H:Nat->Prop}{w:World}{ρ:Nat->Value}{cs:List LV}{vs:List Value}(h:aY (fK H w ρ) cs vs):∀c∈vs,c.oneCell'=true:=by
 intro c hc;obtain⟨i,hi,rfl⟩:=List.getElem_of_mem hc;have hl:=h.length;obtain⟨v,h1,h2⟩:=h.get (AI (show i<cs.length by omega));rw[AI hi] at h1;cases h1;exact h2.2
theorem za{X:Cx}{r:Option Nat}{n:Nat}(c:Code){d:Nat}{T:TypeId}{p:Nat}{u:Ty}(h:s7 c=some (d,T,p))(hT:cE X.P T u)(a:Act)(w:World)(hd:d<a.tmps.size)(hl:(a.eval (.tmp p)).cells.toList.length=u.w)(h1:∀c∈(a.eval (.tmp p)).cells.toList,c.oneCell'=true):
  ∃Wb:World,(∀k,k<w.heap.size->Wb.heap[k]? =w.heap[k]?)/\Wb.heap[w.heap.size]? =some (.cells ((a.eval (.tmp p)).cells.toList).toArray T (0,0))/\Wb.heap.size=w.heap.size+1/\(Wb.os=w.os/\Wb.tape=w.tape/\Wb.output=w.output)/\
   ∀{K:Act->World->Prop} {R:Exit->Act->World->Prop},K (a.put (some d) (.pointer (some ⟨w.heap.size,0,none⟩))) Wb->c.wpIn (fw r) n X.P (Exit.then K R) a w:=by
 cases c with
 |region id ops draw=>
  cases draw with
  |true=>simp[s7] at h
  |false=>
   simp only[s7] at h;split at h;(case h_2=>cases h);rename_i o1 o2 hops;split at h;(case h_2=>cases h);rename_i d0 T0 T' d' p' g1 e1 e2 g2 e3 e4;split at h;(case isFalse=>cases h);rename_i hc;obtain⟨rfl,rfl,hpd⟩:=hc;cases h;have hz:=gi hT.leaf u.zeroCells u.zeroCells_length u.zeroCells_one;have hrow:(w.alloc (.cells (mkV u.isAgg u.zeroCells).cells T)).heap[w.heap.size]? =some (.cells u.zeroCells.toArray T (0,0)):=by
    rw[heap_alloc_new];congr 2;apply Qk;simpa using hz
   (have hst:=fx (P:=X.P) hT (v:=a.eval (.tmp p)) hrow hl h1 (o:=0) (by rw[u.zeroCells_length];omega);have hset:=dM hrow (new:=(a.eval (.tmp p)).cells.toList) (off:=0) (by rw[hl,u.zeroCells_length];omega);refine⟨(w.alloc (.cells (mkV u.isAgg u.zeroCells).cells T)).setCells w.heap.size 0 (a.eval (.tmp p)).cells.toList,fun k hk=>?_,?_,?_,?_,?_⟩;·rw[b9 _ _ _ _ (by omega)];exact b4 w _ k hk);·rw[hset];have e0:u.zeroCells.drop (0+(a.eval (.tmp p)).cells.toList.length)=[]:=PB (by rw[hl,u.zeroCells_length];omega);rw[e0];simp
   ·rw[l7,World.size_alloc]
   ·have hb:=Bel.setCells (M:=fun _=>True) (b:=w.heap.size) trivial (a.eval (.tmp p)).cells.toList 0 ((Bel.refl (fun _=>True) w).alloc (.cells (mkV u.isAgg u.zeroCells).cells T));exact⟨hb.os,hb.tape,hb.output⟩
   ·intro K R hk;refine wpIn_region_list ?_;rw[hops];(have hw1:∀t,Region.wanted o1 (yielded ops t)=true:=fun t=>by simp[Region.wanted,g1]);(have hw2:∀t,Region.wanted o2 (yielded ops t)=true:=fun t=>by simp[Region.wanted,g2]);simp only[wpListIn,hw1,if_true];refine a6 (v:= .pointer (some ⟨w.heap.size,0,none⟩)) (w':=w.alloc (.cells (mkV u.isAgg u.zeroCells).cells T)) ?_ ?_;·unfold execOp;rw[e2];exact bl (ud hT w)
    ·rw[e1];simp only[hw2,if_true];have hdv:(a.put (some d) (.pointer (some ⟨w.heap.size,0,none⟩))).eval (.tmp d)= .pointer (some ⟨w.heap.size,0,none⟩):=by
      simp[Act.eval,Act.put,hd]
     have hpv:(a.put (some d) (.pointer (some ⟨w.heap.size,0,none⟩))).eval (.tmp p)=a.eval (.tmp p):=by
      show (a.put (some d) _).tmps.getD p undef=a.tmps.getD p undef;exact Act.getD_put_ne hpd
     (refine gl (w':=(w.alloc (.cells (mkV u.isAgg u.zeroCells).cells T)).setCells w.heap.size 0 (a.eval (.tmp p)).cells.toList) ?_ ?_;·unfold execOp;rw[e4];simp only[hdv,hpv];simp[hst]);·rw[e3];exact hk
 |_=>simp[s7] at h
theorem Fits.freshO{X:Cx}{s:aa}{a:Act}{w w':World}{d:Nat}{obj:aB}{val:Value}{ρ:Nat->Value}(hf:Fits X s a w ρ)(hdB:d<ioB)
  (hkeep:∀k,k<w.heap.size->w'.heap[k]? =w.heap[k]?) (hval:∀b,Blk val b->w.heap.size<=b)
  (hobj:∀H' ρ',(∀b,b<w.heap.size->H' b->hot X.O ρ s.own b)->aW (hot X.O ρ s.own) w w'->(∀i,i≠d->ρ' i=ρ i)->ρ' d=val->bW H' w' ρ' X.M (d,obj)):
  ∃ ρ',ρ' d=val/\(∀i,i≠d->ρ' i=ρ i)/\Fits X {env:=bH (LV.kill d) s.env,own:=(d,obj)::bg (LV.kill d) (del s.own d)} a w' ρ':=by
 have hlt:=fun p hp b hb=>((hf.own p hp).lt (b:=b) hb).2;have hs:aW (hot X.O ρ s.own) w w':=fun b _ hb=>hkeep b (cg hb);have hh:∀b,b<w.heap.size->hot X.O (lZ ρ d val) ((d,obj)::bg (LV.kill d) (del s.own d)) b->hot X.O ρ s.own b:=by
  intro b hb h;rcases h with h|⟨p,hp,hp2⟩;·exact .inl h
  ·(rcases IS.1 hp with rfl|hp;·simp only[cJ] at hp2;have:=hval b hp2;omega);·obtain⟨u,h1,_⟩:=a8 hp;have h2:=bC.1 h1;rw[dA _ _ h2.2] at hp2;exact db h2.1 hp2
 have hρ:∀i,i≠d->lZ ρ d val i=ρ i:=fun i hi=>dA _ _ hi;refine⟨lZ ρ d val,cJ _ _ _,hρ,hf.env_map (fun x v hx=>aZ hh hs hρ hx) ?_ ?_ ?_⟩
 ·intro p hp;rcases IS.1 hp with rfl|hp;·exact hobj _ _ hh hs hρ (cJ _ _ _)
  ·obtain⟨u,h1,h2⟩:=a8 hp;have h3:=bC.1 h1;have:=(hf.own _ h3.1).move (f:=LV.kill d) (ρ':=lZ ρ d val) hh hs (fun x v hx=>aZ hh hs hρ hx) (hρ _ h3.2) (fun b hb=>hkeep b (hlt _ h3.1 b hb));rw[<- h2] at this;exact this
 ·intro p hp hB hF;rcases IS.1 hp with rfl|hp;·exact absurd hB (Nat.not_le.2 hdB)
  ·obtain⟨u,h1,_⟩:=a8 hp;have h3:=bC.1 h1;rw[hρ _ h3.2];exact hf.io _ h3.1 hB hF
 ·rw[List.pairwise_cons];constructor;·intro q hq;obtain⟨u,h1,_⟩:=a8 hq;have h3:=bC.1 h1;refine⟨fun e=>h3.2 e.symm,fun b hb hq2=>?_⟩;rw[dA _ _ h3.2] at hq2;simp only[cJ] at hb;have h4:=hval b hb;have:=hlt _ h3.1 b hq2;omega
  ·have hap:=cA (f:=LV.kill d) (fun i j=>i≠j/\∀b,Blk (ρ i) b-> ¬Blk (ρ j) b) (da (fun i j=>i≠j/\∀b,Blk (ρ i) b-> ¬Blk (ρ j) b) (n:=d) hf.apart);refine hap.imp_of_mem fun {p q} hp hq hpq=>?_;obtain⟨_,h1,_⟩:=a8 hp;obtain⟨_,h2,_⟩:=a8 hq;rw[dA _ _ (bC.1 h1).2,dA _ _ (bC.1 h2).2];exact hpq
theorem E9{X:Cx}(hr:X.calm){s:aa}{K:Exit->aa->Prop}{g:Operand}{ps:Array Tmp}{assign body:Code}{gf:FuncId}
  {items:List (List LV)} (henters:∀args w,(callFunc gf args).run X.P w= .ok (.enter gf args) w) (hdata:∀it∈items,it.length=ps.size/\it.all LV.isZ=true) {d pv:Nat} {TB:TypeId} {ub:Ty} (hasg:s7 assign=some (d,TB,pv)) (hTb:cE X.P TB ub) (hdN:d<X.T.N) (ks:List Nat)
  (hk1:ks.all (fun t=> !ps.toList.contains t&&t !=d)=true) (hps:ps.toList.all (fun t=>decide (t<X.T.N))=true)
  {ι:Type} (f:Nat->ι->aa) (Φ:Nat->ι->Prop) (x₀:ι) (h₀:le s (f 0 x₀))
  (hseq:∀(a:Act) (w:World) (ρ:Nat->Value),St X s a w->Fits X s a w ρ->(∀b,hot X.O (bT ρ s.own) (f 0 x₀).own b->b<w.heap.size)->∃(lb:List Value) (E:Nat->Prop),a.eval g= .func (.func gf) #[] lb.toArray/\(∀b,E b->X.M b/\(∃o:Obj,w.heap[b]? =some o/\o.isCells=true)/\ ¬hot X.O (bT ρ s.own) (f 0 x₀).own b/\hot X.O ρ s.own b)/\∃enc:Nat->Array Value,
   (∀k (hk:k<items.length),aY (aJ (fun b=>hot X.O (bT ρ s.own) (f 0 x₀).own b∨E b) w (fun _=>undef)) items[k] (enc k).toList)/\uu X.P gf lb.toArray enc items.length (xE (hot (fun _=>False) (bT ρ s.own) (f 0 x₀).own) w.heap.size) w E) (hΦ:Φ 0 x₀) (hks:∀k x,(f k x).env.all (fun e=>ks.contains e.1)=true)
  (hround:∀k (hk:k<items.length) (x:ι),Φ k x->∃s1 v cs,aP (cq (f k x) (ps.toList.zip items[k])) (.tmp pv)=some v/\v.cells=some cs/\cs.length=ub.w/\cs.all (fun c=> !c.isOf d)=true/\s1={env:=(d,.l (.ownP d 0))::del ((cq (f k x) (ps.toList.zip items[k])).kill d).env d,own:=(d,.box TB cs)::((cq (f k x) (ps.toList.zip items[k])).kill d).own}/\
   ∀X':Cx,X'.P=X.P->X'.T={X.T with keep:=ks}->J X' body s1 (kN f Φ ks K k))
  (hdone:∀x,Φ items.length x->K .normal (f items.length x)):J X (.rangeFunc g ps assign body) s K:=by
 intro a w hst;obtain⟨ρ,hf⟩:=hst.fits;have hHlt':∀b,hot X.O (bT ρ s.own) (f 0 x₀).own b->b<w.heap.size:=fun b hb=>hf.hot_lt hst.others hst.below (gp h₀ hb);have hseq':=hseq a w ρ hst hf hHlt';obtain⟨H,hH⟩:∃H,H=hot (fun _=>False) (bT ρ s.own) (f 0 x₀).own:=⟨_,rfl⟩;have hHX:∀b,H b->hot X.O (bT ρ s.own) (f 0 x₀).own b:=fun b hb=>by rw[hH] at hb;exact hb.elim False.elim .inr
 rw[<- hH] at hseq';obtain⟨lb,E,hlb1,hE,enc,henc,hsq⟩:=hseq';have hEM:=fun b hb=>(hE b hb).1;have hEw:=fun b hb=>(hE b hb).2.1;have hEH:∀b,E b-> ¬H b:=fun b hb h=>(hE b hb).2.2.1 (hHX b h);have hw0:X.w0.heap.size<=w.heap.size:=hst.below.size;have hout0:bX X a w H E (f 0 x₀) w (bT ρ s.own):=by
  have h1:Fits (XE X E) (f 0 x₀) a w (bT ρ s.own):=Fits.leO h₀ hf (fun b _ hb=>by
   (rcases hb with(hb|hb)|hb;·exact .inl hb);·exact(hE b hb).2.2.2
   ·exact gp h₀ (.inr hb))
  exact⟨h1,hst.below,fun p hp b hb=> .inr (by rw[hH];exact db hp hb),KeepsOthers.refl _,aW.refl _ _⟩
 refine wpIn_rangeFunc ?_;intro fn hfn;have hround0:(fw X.r).round=none:=by rw[hr.1];rfl
 rw[hround0];obtain⟨rec,hrec⟩:∃rec:LoopState->Option Code->Loop,rec=fun st pe=>{state:=st,pending:=pe,fn,tmps:=a.tmps,params:=ps,assign,body,defers:=w.heap.size}:=⟨_,rfl⟩;obtain⟨W1,hW1⟩:∃W1,(w.alloc (.deferred (some []))).alloc (.loop (rec .ready none))=W1:=⟨_,rfl⟩;have hsz1:W1.heap.size=w.heap.size+2:=by rw[<- hW1];simp
 have hL1:W1.heap[w.heap.size+1]? =some (.loop (rec .ready none)):=by
  rw[<- hW1];have:=World.alloc_heap_new (w.alloc (.deferred (some []))) (.loop (rec .ready none));rwa [World.size_alloc] at this
 have hD1:W1.heap[w.heap.size]? =some (.deferred (some [])):=by
  rw[<- hW1];exact(Below.heap_alloc _ _ _ (by simp)).trans (World.alloc_heap_new w _)
 have hb1:Below w.heap.size w W1:=by rw[<- hW1];exact((Below.refl _ w).alloc (Oa _) _).alloc (by simp) _
 have hout1:bX X a w H E (f 0 x₀) W1 (bT ρ s.own):=by
  rw[<- hW1];exact(hout0.abide hw0 (World.grownBy_alloc _ _ none) (by simp)).abide hw0 (World.grownBy_alloc _ _ none) (by simp)
 refine⟨w.heap.size+1,[{target:= .collected w.heap.size,args:= #[]}],W1,{target:= .fn (.func gf) lb.toArray,args:= #[.func (.yield (w.heap.size+1)) #[] #[]]},W1,gf,
  #[.func (.yield (w.heap.size+1)) #[] #[]]++lb.toArray,W1,?_,?_,fun _ _=>trivial,?_,fun h=>by simp[fw,Fence.wide] at h,?_⟩
 ·rw[<- hW1,hrec];exact run_enterLoop_outer _ _ _ _ _
 ·simp only[resolve,hlb1];simp[go_sem]
 ·simp[invoke,go_sem,henters]
 have hfw:fw X.r=fw none:=by rw[hr.1]
 rw[hfw];have hkeptA:∀k (act0:Act),act0.tmps=((ps.toList.zip (enc k).toList).foldl (fun(t:Array Value) (p:Nat×Value)=>t.setIfInBounds p.1 p.2) a.tmps)->∀t∈ks,∀pt:Value,(act0.put (some d) pt).tmps.getD t undef=a.tmps.getD t undef:=by
  intro k act0 h0 t ht pt;have h1:=Ob.1 hk1 t ht;simp only[N9,Pc,PK,decide_eq_false_iff_not,bne_iff_ne] at h1;rw[Act.getD_put_ne h1.2,h0,jB];intro hm;obtain⟨p,hp,rfl⟩:=Ot.1 hm;exact h1.1 (QT hp).1
 have hE1:¬E (w.heap.size+1):=fun e=>by
  obtain⟨o,ho,_⟩:=hEw _ e;have:=(BY.1 ho).1;omega
 have hE2:¬E w.heap.size:=fun e=>by
  obtain⟨o,ho,_⟩:=hEw _ e;have:=(BY.1 ho).1;omega
 refine(hsq (w.heap.size+1)
  (fun k W=>(∃x ρ,Φ k x/\bX X a w H E (f k x) W ρ)/\W.heap[w.heap.size+1]? =some (.loop (rec .ready none))/\W.heap[w.heap.size]? =some (.deferred (some [])))
  (fun W=>∃c,(∃z ρ,ou K z c/\bX X a w H E z W ρ)/\W.heap[w.heap.size+1]? =some (.loop (rec .done (some c)))/\W.heap[w.heap.size]? =some (.deferred (some [])))
  W1 hb1 ?_ ?_ ?_ ?_ ?_ ⟨⟨x₀,_,hΦ,hout1⟩,hL1,hD1⟩).mono ?_
 ·rintro k A B row ⟨⟨x,ρx,hx,ho⟩,hl,hd⟩ hg' hrow;refine⟨⟨x,ρx,hx,ho.abide hw0 hg' (fun r e=>?_)⟩,(grownBy_keeps hg' (fun r e=>(hrow r e).2) hl rfl).trans hl,(grownBy_keeps hg' (fun r e=>(hrow r e).2) hd rfl).trans hd⟩;obtain⟨h1,o,h2,h3⟩:=hrow r e;exact⟨by omega,o,h2,Obj.not_cells_of_walk h3⟩
 ·rintro _ A B row ⟨c,⟨z,ρx,hx,ho⟩,hl,hd⟩ hg' hrow;refine⟨c,⟨z,ρx,hx,ho.abide hw0 hg' (fun r e=>?_)⟩,(grownBy_keeps hg' (fun r e=>(hrow r e).2) hl rfl).trans hl,(grownBy_keeps hg' (fun r e=>(hrow r e).2) hd rfl).trans hd⟩;obtain⟨h1,o,h2,h3⟩:=hrow r e;exact⟨by omega,o,h2,Obj.not_cells_of_walk h3⟩
 ·rintro k A B ⟨⟨x,ρx,hx,ho⟩,hl,hd⟩ ht;exact⟨⟨x,ρx,hx,ho.turn hEM hEw hEH ht⟩,(ht.same _ hE1).trans hl,(ht.same _ hE2).trans hd⟩
 ·rintro A B ⟨c,⟨z,ρx,hx,ho⟩,hl,hd⟩ ht;exact⟨c,⟨z,ρx,hx,ho.turn hEM hEw hEH ht⟩,(ht.same _ hE1).trans hl,(ht.same _ hE2).trans hd⟩
 ·rintro k W ⟨⟨x,ρx,hx,ho⟩,hl,hd⟩ hkN;obtain⟨s1,v,cs,hv1,hv2,hv3,hv4,hs1,hJ⟩:=hround k hkN x hx;have hlt:w.heap.size+1<W.heap.size:=(BY.1 hl).1;have hen:=henc k hkN;have hdat:=hdata _ (OE hkN);have hes:(enc k).size=ps.size:=by have:=hen.length;rw[hdat.1] at this;simpa using this.symm
  have hy:=run_yield (P:=X.P) (args:=enc k) hl (by rw[hrec];exact hes);rw[hrec] at hy;obtain⟨W2,hW2⟩:∃W2,W.putObj (w.heap.size+1) (.loop {rec .ready none with state:= .busy})=W2:=⟨_,rfl⟩;have hl2:W2.heap[w.heap.size+1]? =some (.loop {rec .ready none with state:= .busy}):=by rw[<- hW2];exact World.putObj_heap_same hlt
  have hd2:W2.heap[w.heap.size]? =some (.deferred (some [])):=by rw[<- hW2];exact(World.putObj_heap_other (by omega)).trans hd
  have ho2:bX X a w H E (f k x) W2 ρx:=by
   rw[<- hW2];exact ho.abide hw0 (grownBy_putObj' _ _ _) (fun r e=>by cases e;exact⟨by omega,_,hl,rfl⟩)
  have hzip:(ps.zip (enc k)).toList=ps.toList.zip (enc k).toList:=Sx;have hfold:(ps.zip (enc k)).foldl (fun(t:Array Value) (p:Nat×Value)=>t.setIfInBounds p.1 p.2) a.tmps=(ps.toList.zip (enc k).toList).foldl (fun(t:Array Value) (p:Nat×Value)=>t.setIfInBounds p.1 p.2) a.tmps:=by
   rw[<- Rt,hzip]
  obtain⟨act0,hact0⟩:∃act0:Act,act0={tmps:=(ps.toList.zip (enc k).toList).foldl (fun(t:Array Value) (p:Nat×Value)=>t.setIfInBounds p.1 p.2) a.tmps,defers:=[]}:=⟨_,rfl⟩;have hfitA:Fits (XE X E) (f k x) {a with defers:=[]} W2 ρx:=⟨ho2.fits.env,ho2.fits.own,ho2.fits.io,ho2.fits.apart⟩;have hHsub:∀b,b<w.heap.size->hot (XE X E).O ρx (f k x).own b->(hot X.O (bT ρ s.own) (f 0 x₀).own b∨E b):=by
   (rintro b hb ((h1|h1)|⟨p,hp,hpb⟩);·exact .inl (.inl h1));·exact .inr h1
   ·(rcases ho2.own p hp b hpb with h2|h2;·omega);·exact .inl (hHX b h2)
  have hvals:aY (aJ (hot (XE X E).O ρx (f k x).own) W2 ρx) ((ps.toList.zip (items[k])).map Prod.snd) (enc k).toList:=by
   have e:(ps.toList.zip (items[k])).map Prod.snd=items[k]:=Sy (by have:=hdat.1;simp;omega);rw[e];refine hen.imp (fun y v hy h=>?_);have hz:=Ob.1 hdat.2 y hy;refine aN hHsub (fun b hb hc=>ho2.stays b (fun e=>hb (e.imp (hHX b) id)) hc) (fun id hid=>?_) h;cases y<;>simp_all [LV.isZ,LV.isOf]
  have hszA:a.tmps.size=X.T.N:=hst.size;have e1:(ps.toList.zip (items[k])).map Prod.fst=ps.toList:=SA (by have:=hdat.1;simp;omega);obtain⟨actP,hactP,hfitP,hszP⟩:=jA (ps.toList.zip (items[k])) (enc k).toList hfitA rfl hszA (fun p hp=>by
   have:=Ob.1 hps p.1 (QT hp).1;simpa using this) hvals
  rw[e1] at hactP;have hP0:actP=act0:=by rw[hactP,hact0]
  rw[hP0] at hfitP hszP;have hpv:aP (cq (f k x) (ps.toList.zip items[k])) (.tmp pv)=some v:=hv1;have hcells:=AV.cells_ok hv2 (bJ hfitP hpv);obtain⟨Wb,hWb1,hWb2,hWb3,hWb4,hexec⟩:=za (X:=X) (r:=some (w.heap.size+1)) (n:=0) assign hasg hTb act0 W (by rw[hszP];exact hdN) (by rw[<- hcells.length];exact hv3) (nS hcells);refine⟨fn,_,assign,body,hy,roundIn_of_wpIn (F:=fw none) trivial ?_⟩;rw[hfold,<- hact0];refine hexec ⟨_,run_beginRound ((hWb1 _ (BY.1 hl).1).trans hl) (by rw[hrec]),?_⟩;have hW2s:W2.heap.size=W.heap.size:=by rw[<- hW2];simp[World.putObj]
  obtain⟨W2b,hW2b⟩:∃W2b,Wb.putObj (w.heap.size+1) (.loop {rec .ready none with state:= .busy})=W2b:=⟨_,rfl⟩;rw[hW2b];have hkb:∀k,k<W2.heap.size->W2b.heap[k]? =W2.heap[k]? :=by
   (intro k hk;rw[<- hW2b,<- hW2];by_cases e:k=w.heap.size+1;·subst e;rw[World.putObj_heap_same (by omega),World.putObj_heap_same hlt]);·rw[World.putObj_heap_other e,World.putObj_heap_other e,hWb1 k (by omega)]
  have hnb:W2b.heap[W2.heap.size]? =some (.cells ((act0.eval (.tmp pv)).cells.toList).toArray TB (0,0)):=by
   rw[<- hW2b,hW2s,World.putObj_heap_other (by omega)];exact hWb2
  have hbelb:∀M:Nat->Prop,Bel M W2 W2b:=fun M=>by
   (have e1:W2b.os=W2.os:=by rw[<- hW2b,<- hW2];exact hWb4.1);(have e2:W2b.tape=W2.tape:=by rw[<- hW2b,<- hW2];exact hWb4.2.1);(have e3:W2b.output=W2.output:=by rw[<- hW2b,<- hW2];exact hWb4.2.2);exact⟨e1,e2,e3,by rw[<- hW2b];simp only[World.putObj,Rd];omega,fun k hk _=>hkb k hk⟩
  have hdB:d<ioB:=OC hdN hst.small.n;obtain⟨ρn,hρd,hρo,hfit1⟩:=Fits.freshO hfitP hdB (w':=W2b) (obj:= .box TB cs) (val:= .pointer (some ⟨W2.heap.size,0,none⟩)) hkb (fun b hb=>by simp[Blk] at hb;omega)
   (fun H' ρ' hh hs hρ hρd=>⟨W2.heap.size,(act0.eval (.tmp pv)).cells.toList,hρd,.inl (by have:=ho2.bel.size;exact this),hnb,aY.kill hh hs hρ (fun c hc=>by have:=Ob.1 hv4 c hc;simpa using this) hcells⟩)
  have hfit1:=hfit1.put (d:=d) (by rw[hszP];exact hdN) (v:= .l (.ownP d 0)) (val:= .pointer (some ⟨W2.heap.size,0,none⟩)) ⟨W2.heap.size,hρd,rfl⟩;have hs1':s1={env:=(d,.l (.ownP d 0))::del (bH (LV.kill d) (cq (f k x) (ps.toList.zip items[k])).env) d,own:=(d,.box TB cs)::bg (LV.kill d) (del (cq (f k x) (ps.toList.zip items[k])).own d)}:=hs1;rw[hW2s] at hfit1;have hkA:∀t∈ks,(act0.put (some d) (.pointer (some ⟨W.heap.size,0,none⟩))).tmps.getD t undef=a.tmps.getD t undef:=fun t ht=>hkeptA k act0 (by rw[hact0]) t ht _;have hst1:St {XE X E with T:={X.T with keep:=ks},I:=fun b=>∃p∈(f k x).own,Blk (ρx p.1) b,w0:=W2,r:=some (w.heap.size+1),tm:=fun t=>(act0.put (some d) (.pointer (some ⟨W.heap.size,0,none⟩))).tmps.getD t undef} s1 (act0.put (some d) (.pointer (some ⟨W.heap.size,0,none⟩))) W2b:=by
   refine⟨?_,fun _ _=>rfl,by rw[Act.size_put];exact hszP,hbelb _,fun b hb hm=>?_,⟨hst.small.n,?_,fun b hb=>?_,fun b v t hp=>?_⟩,ρn,by rw[hs1'];exact hfit1.env,fun p hp=>?_,by rw[hs1'];exact hfit1.io,by rw[hs1'];exact hfit1.apart⟩;·rw[Act.defers_put,hact0];exact Marks.nil _ _ _
   ·rcases hb with hb|hb
    ·rcases hm with hm|⟨p,hp,hpb⟩
     ·have h1:=hst.others b hb;have h2:b<X.w0.heap.size:=by
       by_cases h3:b<X.w0.heap.size
       ·exact h3
       ·exact absurd (.inl (by omega)) h1
      have:=ho2.bel.size;simp only at hm;omega
     ·exact hst.others b hb ((ho2.fits.own p hp).lt hpb).1
    ·obtain⟨o,ho,_⟩:=hEw b hb;have h2:=(BY.1 ho).1;rcases hm with hm|⟨p,hp,hpb⟩;·have:=ho2.keeps.size;simp only at hm;omega
     ·(rcases ho2.own p hp b hpb with h1|h1;·omega);·exact hEH b hb h1
   ·(have h1:=hst.small.on;refine⟨Og h1.1 ho2.bel.size,fun b hb=>?_⟩;rw[<- h1.2 b hb];refine ho2.bel.block b (OC hb h1.1) ?_;rintro(hm|hm);·have:=h1.1;simp only at hb;omega);·have:=hst.small.io b hm;simp only at hb;omega
   ·(obtain⟨p,hp,hpb⟩:=hb;rcases ((ho2.fits.own p hp).lt hpb).1 with h1|h1;·exact Og hst.small.on.1 h1);·exact hst.small.io b h1
   ·obtain⟨p1,p2,p3,p4⟩:=hst.small.pin b v t hp;have hnM:¬X.M b:=fun hm=>hm.elim (fun h1=>by omega) p2;refine⟨by have:=ho2.bel.size;simp only;omega,fun⟨q,hq,hqb⟩=>hnM ((ho2.fits.own q hq).lt hqb).1,fun h1=>h1.elim p3 (fun h2=>hnM (hEM b h2)),?_⟩;rw[<- p4];exact ho2.bel.block b p1 hnM
   ·have hq:∀(l:List (Nat×LV)) (s:aa),(cq s l).own=s.own:=by
     intro l;induction l with
     |nil=>intro s;rfl
     |cons q l ih=>intro s;exact ih _
    rw[hs1'] at hp;have hp':p∈(d,aB.box TB cs)::bg (LV.kill d) (del (cq (f k x) (ps.toList.zip items[k])).own d):=hp;have h5:=(hfit1.own p hp').moved (H':=hot (XE X E).O ρn s1.own) (ρ':=ρn) (k:=p.1) (f:=id) (M':=Cx.M {XE X E with T:={X.T with keep:=ks},I:=fun b=>∃p∈(f k x).own,Blk (ρx p.1) b,w0:=W2,r:=some (w.heap.size+1),tm:=fun t=>(act0.put (some d) (.pointer (some ⟨W.heap.size,0,none⟩))).tmps.getD t undef}) (fun b _ h=>by rw[hs1'] at h;exact h) (fun x v hx=>aN (fun b _ h=>by rw[hs1'] at h;exact h) (aW.refl _ _) (fun _ _=>rfl) hx) rfl (fun b hb=>by
     (rcases IS.1 hp' with rfl|hp2;·simp only[hρd] at hb;simp[Blk] at hb;exact .inl (by simp only;omega));·obtain⟨u,g1,_⟩:=a8 hp2;have g2:=bC.1 g1;rw[hρo _ g2.2] at hb;exact .inr ⟨(p.1,u),by rw[<- hq];exact g2.1,hb⟩)
    rw[aB.map_id] at h5;exact h5
  have hw:=hJ {XE X E with T:={X.T with keep:=ks},I:=fun b=>∃p∈(f k x).own,Blk (ρx p.1) b,w0:=W2,r:=some (w.heap.size+1),tm:=fun t=>(act0.put (some d) (.pointer (some ⟨W.heap.size,0,none⟩))).tmps.getD t undef} rfl rfl _ _ hst1;refine pZ (n:=2) (Code.wpIn_mono (fun e a3 W3 hp=>?_) hw);obtain⟨s3,hK3,hst3⟩:=hp;have fin:∀(jump:Option Code) (z:aa),z.env.all (fun e=>ks.contains e.1)=true->le s3 z->∃ ρz,bX X a w H E z (W3.putObj (w.heap.size+1) (.loop (rec (if jump.isNone then .ready else .done) jump))) ρz/\
    (Instr.endRound (w.heap.size+1) jump).run X.P W3= .ok (.bool jump.isNone) (W3.putObj (w.heap.size+1) (.loop (rec (if jump.isNone then .ready else .done) jump)))/\
    (W3.putObj (w.heap.size+1) (.loop (rec (if jump.isNone then .ready else .done) jump))).heap[w.heap.size+1]? =some (.loop (rec (if jump.isNone then .ready else .done) jump))/\
    (W3.putObj (w.heap.size+1) (.loop (rec (if jump.isNone then .ready else .done) jump))).heap[w.heap.size]? =some (.deferred (some []))/\
    xE H w.heap.size W (W3.putObj (w.heap.size+1) (.loop (rec (if jump.isNone then .ready else .done) jump))):=by
   intro jump z hz hle;obtain⟨ρz,h1,h2,h3⟩:=ho2.back hkA hz hle hst3;have hl3:=h2.same _ _ hl2 rfl;have hd3:=h2.same _ _ hd2 rfl;have he:=run_endRound (P:=X.P) jump hl3;rw[hrec] at he ⊢;refine⟨ρz,h1.abide hw0 (grownBy_putObj' _ _ _) (fun r e=>by cases e;exact⟨by omega,_,hl3,rfl⟩),he,World.putObj_heap_same (BY.1 hl3).1,(World.putObj_heap_other (by omega)).trans hd3,fun b hb hnH hc=>?_⟩;(have e1:W2.heap[b]? =W.heap[b]? :=by rw[<- hW2];exact World.putObj_heap_other (by omega));rw[World.putObj_heap_other (by omega),h3 b hb hnH (by rw[e1];exact hc),e1]
  cases e with
  |normal=>
   obtain⟨y,hle,hy'⟩:=hK3;obtain⟨ρz,h1,h2,h3,h4,h5⟩:=fin none _ (hks (k+1) y) hle;exact⟨_,_,h2,.inl ⟨rfl,⟨⟨y,ρz,hy',h1⟩,h3,h4⟩,h5⟩⟩
  |ret=>
   obtain⟨z,hle,hz,hk3⟩:=hK3;obtain⟨ρz,h1,h2,h3,h4,h5⟩:=fin (some .ret) _ hz hle;exact⟨_,_,h2,.inr ⟨rfl,.ret,⟨z,ρz,hk3,h1⟩,h3,h4⟩⟩
  |exit i=>
   obtain⟨z,hle,hz,hk3⟩:=hK3;obtain⟨ρz,h1,h2,h3,h4,h5⟩:=fin (some (.exit i)) _ hz hle;exact⟨_,_,h2,.inr ⟨rfl,.exit i,⟨z,ρz,hk3,h1⟩,h3,h4⟩⟩
  |goto t=>exact hK3.elim
  |panic ch=>exact hK3.elim
  |outgrown=>exact hK3.elim
 ·rintro e W2 ⟨⟨v,rfl⟩,(⟨⟨x,ρx,hx,ho⟩,hl,hd⟩|⟨c,⟨z,ρz,hj,ho⟩,hl,hd⟩)⟩;·have he:=run_endLoop (P:=X.P) hl (by rw[hrec];simp);rw[hrec] at he;refine⟨none,_,he,_,hdone x hx,(ho.abide hw0 (grownBy_putObj' _ _ _) (fun r e=>by cases e;exact⟨by omega,_,hl,rfl⟩)).st hr.2 hst ((World.putObj_heap_other (by omega)).trans hd)⟩
  ·have he:=run_endLoop (P:=X.P) hl (by rw[hrec];simp);rw[hrec] at he;refine⟨some c,_,he,?_⟩;cases c with
   |ret=>exact wpIn_ret ⟨z,hj,(ho.abide hw0 (grownBy_putObj' _ _ _) (fun r e=>by cases e;exact⟨by omega,_,hl,rfl⟩)).st hr.2 hst ((World.putObj_heap_other (by omega)).trans hd)⟩
   |exit i=>exact wpIn_exit ⟨z,hj,(ho.abide hw0 (grownBy_putObj' _ _ _) (fun r e=>by cases e;exact⟨by omega,_,hl,rfl⟩)).st hr.2 hst ((World.putObj_heap_other (by omega)).trans hd)⟩
   |_=>exact hj.elim
theorem Fa{X:Cx}(hr:X.calm){s:aa}{K:Exit->aa->Prop}{g:Operand}{ps:Array Tmp}{assign body:Code}{gf:FuncId}{caps:List CV}
  (hg:aP s g=some (.l (.fn gf caps))) (hcap:caps.all CV.pure=true) {items:List (List LV)} (hseq:nn X.P gf ps.size caps items) {d pv:Nat} {TB:TypeId} {ub:Ty} (hasg:s7 assign=some (d,TB,pv)) (hTb:cE X.P TB ub) (hdN:d<X.T.N) (ks:List Nat)
  (hk1:ks.all (fun t=> !ps.toList.contains t&&t !=d)=true) (hps:ps.toList.all (fun t=>decide (t<X.T.N))=true)
  {ι:Type} (f:Nat->ι->aa) (Φ:Nat->ι->Prop) (x₀:ι) (h₀:le s (f 0 x₀)) (hΦ:Φ 0 x₀) (hks:∀k x,(f k x).env.all (fun e=>ks.contains e.1)=true)
  (hround:∀k (hk:k<items.length) (x:ι),Φ k x->∃s1 v cs,aP (cq (f k x) (ps.toList.zip items[k])) (.tmp pv)=some v/\v.cells=some cs/\cs.length=ub.w/\cs.all (fun c=> !c.isOf d)=true/\s1={env:=(d,.l (.ownP d 0))::del ((cq (f k x) (ps.toList.zip items[k])).kill d).env d,own:=(d,.box TB cs)::((cq (f k x) (ps.toList.zip items[k])).kill d).own}/\
   ∀X':Cx,X'.P=X.P->X'.T={X.T with keep:=ks}->J X' body s1 (kN f Φ ks K k))
  (hdone:∀x,Φ items.length x->K .normal (f items.length x)):J X (.rangeFunc g ps assign body) s K:=
 E9 hr hseq.enters hseq.data hasg hTb hdN ks hk1 hps f Φ x₀ h₀ (fun a w ρ _ hf hlt=>by
  obtain⟨lb,hlb1,hlb2⟩:aJ (hot X.O ρ s.own) w ρ (.fn gf caps) (a.eval g):=bJ hf hg;obtain⟨enc,h1,h2⟩:=hseq.seq _ w lb hlt (i6 hcap (fun b hb=>gp h₀ hb) hlb2);exact⟨lb,fun _=>False,hlb1,fun b hb=>hb.elim,enc,fun k hk=>(h1 k hk).imp (fun x v hx h=>aN (H:=hot X.O (bT ρ s.own) (f 0 x₀).own) (fun b _ hb=>hb.elim id (fun e=>e.elim)) (aW.refl _ _) (fun _ _=>rfl) h),h2.kp (fun A B hk b hb hn hc=>hk b hb (fun e=>hn (e.elim False.elim .inr)) hc)⟩) hΦ hks hround hdone
end Go.Cm
end
section
namespace Go.Cm
def LV.toRow(id:Nat):LV->LV
 | .ownS i=>if i=id then .ownR id 0 else .ownS i
 |x=>x.kill id
def LV.ofRow(id j:Nat):LV->LV
 | .ownR i k=>if i=id then (if k=j then .ownS id else .junk) else .ownR i k
 |x=>x.kill id
def aa.toRow(s:aa)(id:Nat)(T':TypeId):Option aa:=
 match get? s.own id with
 |some (.arr t E xs)=>if id<ioB then some {env:=bH (LV.toRow id) s.env,own:=upd (bg (LV.toRow id) s.own) id (.mat t T' E [some xs] [])} else none
 |_=>none
def aa.ofRow(s:aa)(id j:Nat):Option aa:=
 match get? s.own id with
 |some (.mat t _ E rows _)=>match (rows[j]?).getD none with
  |some xs=>if id<ioB then some {env:=bH (LV.ofRow id j) s.env,own:=upd (bg (LV.ofRow id j) s.own) id (.arr t E xs)} else none
  |none=>none
 |_=>none
theorem St.toRow{X:Cx}{s s':aa}{id:Nat}{T':TypeId}(he:s.toRow id T'=some s'){ac:Act}{w:World}(h:St X s ac w):St X s' ac w:=by
 unfold aa.toRow at he;split at he;case h_2=>cases he
 rename_i t E xs hg;split at he;case isFalse=>cases he
 rename_i hid;cases he;obtain⟨ρ,hf⟩:=h.fits;obtain⟨cells,hr,hrow⟩:=hf.own _ (get?_mem hg);have hsl:∃a n c,ρ id= .slice a n c:=by
  obtain⟨_,⟨h1,_⟩|⟨g,cap,cur,h1,_⟩⟩:=hrow<;>exact⟨_,_,_,h1⟩
 obtain⟨a,n,c,hsl⟩:=hsl;have hblk:∀b,blk (ρ id)=some b↔Blk (ρ id) b:=by
  intro b;rw[hsl];cases a with
  |none=>simp[blk,Blk]
  |some a=>simp[blk,Blk]
 obtain⟨ρ',q1,q2⟩:=hf.renew (w':=w) hg (f:=LV.toRow id) (val:= .tuple #[.slice none 0 0,ρ id]) (obj':= .mat t T' E [some xs] [])
  (fun H' ρ' hh hs hρ hρd x v hx=>by
   cases x with
   |ownS i=>
    (simp only[LV.toRow];split;·rename_i e;subst e;have hx:v=ρ i/\_:=hx;exact⟨.slice none 0 0,[ρ i],a,n,c,hρd,by simp[hx.1],by rw[hx.1,hsl]⟩);·rename_i e;simp only[aJ,hρ i e];exact hx
   |z t x=>exact aZ hh hs hρ hx
   |ownP i o=>exact aZ hh hs hρ hx
   |ownE i w o=>exact aZ hh hs hρ hx
   |ownW i w o=>exact aZ hh hs hρ hx
   |ownM i=>exact aZ hh hs hρ hx
   |ownA i o=>exact aZ hh hs hρ hx
   |ownR i o=>exact aZ hh hs hρ hx
   |ownB i o p q=>exact aZ hh hs hρ hx
   |fn f c=>exact aZ hh hs hρ hx
   |val u=>exact aZ hh hs hρ hx
   |junk=>exact aZ hh hs hρ hx)
  (fun _ _ _=>rfl)
  (fun b hb=>by
   (obtain⟨u,hu,hb⟩:=hb;simp only[IS,List.not_mem_nil,or_false] at hu;rcases hu with rfl|rfl;·simp[blk] at hb);·exact .inl ((hblk b).1 hb))
  (fun H' ρ' hh hs hρ hρd=>by
   refine⟨.slice none 0 0,[ρ id],[],hρd,⟨rfl,⟨rfl,.inl ⟨rfl,rfl⟩⟩,fun c hc=>by simp at hc,fun i j hi=>by simp at hi,?_,?_,?_⟩⟩
   ·(intro v hv;simp only[List.mem_singleton] at hv;subst hv;refine⟨⟨a,n,c,hsl⟩,fun b hb=>⟨by simp[blk],?_,?_⟩⟩;·exact((hf.own _ (get?_mem hg)).lt ((hblk b).1 hb)).1);·exact(hf.own _ (get?_mem hg)).cells ((hblk b).1 hb)
   ·intro j ys v hj hv;cases j with
    |zero=>
     simp at hj hv;subst hj;subst hv;exact⟨cells,aS hh hs hr,hrow⟩
    |succ j=>simp at hj
   ·intro i j xs' ys u v hne hi hj;cases i with
    |zero=>cases j with
     |zero=>exact absurd rfl hne
     |succ j=>simp at hj
    |succ i=>simp at hi)
  (fun hB _=>absurd hid (by omega))
 exact⟨h.marks,h.kept,h.size,h.below,h.others,h.small,ρ',q2⟩
theorem St.ofRow{X:Cx}{s s':aa}{id j:Nat}(he:s.ofRow id j=some s'){ac:Act}{w:World}(h:St X s ac w):St X s' ac w:=by
 unfold aa.ofRow at he;split at he;case h_2=>cases he
 rename_i t T' E rows idx hg;split at he;case h_2=>cases he
 rename_i xs hj;split at he;case isFalse=>cases he
 rename_i hid;cases he;obtain⟨ρ,hf⟩:=h.fits;obtain⟨h0,vs,cells,hρ0,hm⟩:=hf.own _ (get?_mem hg);have hjr:rows[j]? =some (some xs):=by
  cases hq:rows[j]? with
  |none=>rw[hq] at hj;cases hj
  |some o=>rw[hq] at hj;simp at hj;rw[hj]
 have hjl:j<vs.length:=by rw[hm.len];exact(List.getElem?_eq_some_iff.1 hjr).1
 have hvj:vs[j]? =some vs[j]:=AI hjl;obtain⟨cs,hr,hrow⟩:=hm.row j xs _ hjr hvj;obtain⟨⟨a,n,c,hsl⟩,_⟩:=hm.shape vs[j] (OE hjl);obtain⟨ρ',q1,q2⟩:=hf.renew (w':=w) hg (f:=LV.ofRow id j) (val:=vs[j]) (obj':= .arr t E xs)
  (fun H' ρ' hh hs hρ hρd x v hx=>by
   cases x with
   |ownR i k=>
    simp only[LV.ofRow];split
    ·(rename_i e;subst e;split;·rename_i e;subst e;obtain⟨h1,vs1,a1,n1,c1,e1,e2,e3⟩:=hx;rw[hρ0] at e1;simp only[Value.tuple.injEq,Array.mk.injEq,P5] at e1;obtain⟨_,rfl⟩:=e1;rw[hvj] at e2;cases e2;exact⟨hρd.symm,_,_,_,e3⟩);·trivial
    ·rename_i e;have:=aZ (x:= .ownR i k) hh hs hρ hx;unfold LV.kill at this;rw[if_neg (by simp[LV.isOf];exact e)] at this;exact this
   |z t x=>exact aZ hh hs hρ hx
   |ownS i=>exact aZ hh hs hρ hx
   |ownP i o=>exact aZ hh hs hρ hx
   |ownE i w o=>exact aZ hh hs hρ hx
   |ownW i w o=>exact aZ hh hs hρ hx
   |ownM i=>exact aZ hh hs hρ hx
   |ownA i o=>exact aZ hh hs hρ hx
   |ownB i o p q=>exact aZ hh hs hρ hx
   |fn f c=>exact aZ hh hs hρ hx
   |val u=>exact aZ hh hs hρ hx
   |junk=>exact aZ hh hs hρ hx)
  (fun _ _ _=>rfl)
  (fun b hb=> .inl (by
   rw[hρ0];refine⟨vs[j],by simp,?_⟩;rw[hsl] at hb ⊢;cases a with
   |none=>simp[Blk] at hb
   |some a=>simpa [blk,Blk] using hb))
  (fun H' ρ' hh hs hρ hρd=>⟨cs,aS hh hs hr,by rw[hρd];exact hrow⟩)
  (fun hB _=>absurd hid (by omega))
 exact⟨h.marks,h.kept,h.size,h.below,h.others,h.small,ρ',q2⟩
theorem wW{X:Cx}{c:Code}{s s':aa}{K:Exit->aa->Prop}(id:Nat)(T':TypeId)(he:s.toRow id T'=some s')(h:J X c s' K):J X c s K:=
 fun ac w hst=>h ac w (hst.toRow he)
theorem wX{X:Cx}{c:Code}{s s':aa}{K:Exit->aa->Prop}(id j:Nat)(he:s.ofRow id j=some s')(h:J X c s' K):J X c s K:=
 fun ac w hst=>h ac w (hst.ofRow he)
end Go.Cm
end
section
namespace Go.Cm
open Go.RowKit
theorem Iw{X:Cx}{c:Code}{s:aa}{K:Exit->aa->Prop}(id j:Nat)(h:J X c s (fun e s'=>∃s'',s'.ofRow id j=some s''/\K e s'')):J X c s K:=
 fun a w hst=>Code.wpIn_mono (fun e a w ⟨s',⟨s'',h1,h2⟩,h3⟩=>⟨s'',h2,h3.ofRow h1⟩) (h a w hst)
def lp:Code->Option (Nat×TypeId×Nat×List (Nat×Operand))
 | .seq b m=>match s7 b,fN m with
  |some (d,T,p),some ms=>some (d,T,p,ms)
  |_,_=>none
 |_=>none
theorem zb{X:Cx}{r:Option Nat}{n:Nat}(c:Code){d:Nat}{T:TypeId}{p:Nat}{ms:List (Nat×Operand)}{u:Ty}(h:lp c=some (d,T,p,ms))(hT:cE X.P T u)(a:Act)(w:World)(hd:d<a.tmps.size)(hl:(a.eval (.tmp p)).cells.toList.length=u.w)(h1:∀c∈(a.eval (.tmp p)).cells.toList,c.oneCell'=true):
  ∃Wb:World,(∀k,k<w.heap.size->Wb.heap[k]? =w.heap[k]?)/\Wb.heap[w.heap.size]? =some (.cells ((a.eval (.tmp p)).cells.toList).toArray T (0,0))/\Wb.heap.size=w.heap.size+1/\(Wb.os=w.os/\Wb.tape=w.tape/\Wb.output=w.output)/\
   ∀{K:Act->World->Prop} {R:Exit->Act->World->Prop},K (bp (a.put (some d) (.pointer (some ⟨w.heap.size,0,none⟩))) ms) Wb->c.wpIn (fw r) n X.P (Exit.then K R) a w:=by
 cases c with
 |seq b m=>
  simp only[lp] at h;split at h;·rename_i e1 e2;cases h;obtain⟨Wb,g1,g2,g3,g4,g5⟩:=za (X:=X) (r:=r) (n:=n) b e1 hT a w hd hl h1;refine⟨Wb,g1,g2,g3,g4,fun hk=>?_⟩;exact wpIn_seq (g5 (mn m e2 hk))
  ·cases h
 |_=>simp[lp] at h
set_option maxHeartbeats 1000000 in
theorem AZ{X:Cx}(hr:X.calm){s:aa}{K:Exit->aa->Prop}{g:Operand}{ps:Array Tmp}{assign body:Code}{gf:FuncId}
  {items:List (List LV)} (henters:∀args w,(callFunc gf args).run X.P w= .ok (.enter gf args) w) (hdata:∀it∈items,it.length=ps.size/\it.all LV.isZ=true) {d pv:Nat} {TB:TypeId} {ub:Ty} {ms:List (Nat×Operand)} (hasg:lp assign=some (d,TB,pv,ms)) (hTb:cE X.P TB ub) (hdN:d<X.T.N) (ks:List Nat)
  (hk1:ks.all (fun t=> !ps.toList.contains t&&(t !=d&& !(ms.map Prod.fst).contains t))=true) (hps:ps.toList.all (fun t=>decide (t<X.T.N))=true)
  {ι:Type} (f:Nat->ι->aa) (Φ:Nat->ι->Prop) (x₀:ι) (h₀:le s (f 0 x₀))
  (hseq:∀(a:Act) (w:World) (ρ:Nat->Value),St X s a w->Fits X s a w ρ->∃(lb:List Value),a.eval g= .func (.func gf) #[] lb.toArray/\
   ∀(t:bS) (D:Nat->Prop) (W:World),t.OK->t.P=X.P->t.B=X.T.base->t.items=items->Below w.heap.size w W->(∀b,D b->hot X.O (bT ρ s.own) (f 0 x₀).own b)->t.J (some 0) D W->
    Calls X.P gf (#[.func (.yield t.l) #[] #[]]++lb.toArray) W fun e W'=>∃v g' D',e= .returned v/\t.J g' D' W'/\(g'=some items.length∨g'=none)) (hΦ:Φ 0 x₀) (hks:∀k x,(f k x).env.all (fun e=>ks.contains e.1)=true)
  (hround:∀k (hk:k<items.length) (x:ι),Φ k x->∃s1 v cs,aP (cq (f k x) (ps.toList.zip items[k])) (.tmp pv)=some v/\v.cells=some cs/\cs.length=ub.w/\cs.all (fun c=> !c.isOf d)=true/\cP X.T.N {env:=(d,.l (.ownP d 0))::del ((cq (f k x) (ps.toList.zip items[k])).kill d).env d,own:=(d,.box TB cs)::((cq (f k x) (ps.toList.zip items[k])).kill d).own} ms=some s1/\
   ∀X':Cx,X'.P=X.P->X'.T={X.T with keep:=ks}->J X' body s1 (kN f Φ ks K k))
  (hdone:∀x,Φ items.length x->K .normal (f items.length x)):J X (.rangeFunc g ps assign body) s K:=by
 intro a w hst;obtain⟨ρ,hf⟩:=hst.fits;have hHlt':∀b,hot X.O (bT ρ s.own) (f 0 x₀).own b->b<w.heap.size:=fun b hb=>hf.hot_lt hst.others hst.below (gp h₀ hb);obtain⟨E,hEf⟩:∃E:Nat->Prop,∀b,¬E b:=⟨fun _=>False,fun _ h=>h⟩;have hseq':=hseq a w ρ hst hf;obtain⟨H,hH⟩:∃H,H=hot (fun _=>False) (bT ρ s.own) (f 0 x₀).own:=⟨_,rfl⟩;have hHX:∀b,H b->hot X.O (bT ρ s.own) (f 0 x₀).own b:=fun b hb=>by rw[hH] at hb;exact hb.elim False.elim .inr
 obtain⟨lb,hlb1,hsq⟩:=hseq';have hEM:∀b,E b->X.M b:=fun b hb=>absurd hb (hEf b);have hEw:∀b,E b->∃o:Obj,w.heap[b]? =some o/\o.isCells=true:=fun b hb=>absurd hb (hEf b);have hEH:∀b,E b-> ¬H b:=fun b hb=>absurd hb (hEf b);have hw0:X.w0.heap.size<=w.heap.size:=hst.below.size;have hout0:bX X a w H E (f 0 x₀) w (bT ρ s.own):=by
  have h1:Fits (XE X E) (f 0 x₀) a w (bT ρ s.own):=Fits.leO h₀ hf (fun b _ hb=>by
   (rcases hb with(hb|hb)|hb;·exact .inl hb);·exact absurd hb (hEf b)
   ·exact gp h₀ (.inr hb))
  exact⟨h1,hst.below,fun p hp b hb=> .inr (by rw[hH];exact db hp hb),KeepsOthers.refl _,aW.refl _ _⟩
 refine wpIn_rangeFunc ?_;intro fn hfn;have hround0:(fw X.r).round=none:=by rw[hr.1];rfl
 rw[hround0];obtain⟨rec,hrec⟩:∃rec:LoopState->Option Code->Loop,rec=fun st pe=>{state:=st,pending:=pe,fn,tmps:=a.tmps,params:=ps,assign,body,defers:=w.heap.size}:=⟨_,rfl⟩;obtain⟨W1,hW1⟩:∃W1,(w.alloc (.deferred (some []))).alloc (.loop (rec .ready none))=W1:=⟨_,rfl⟩;have hsz1:W1.heap.size=w.heap.size+2:=by rw[<- hW1];simp
 have hL1:W1.heap[w.heap.size+1]? =some (.loop (rec .ready none)):=by
  rw[<- hW1];have:=World.alloc_heap_new (w.alloc (.deferred (some []))) (.loop (rec .ready none));rwa [World.size_alloc] at this
 have hD1:W1.heap[w.heap.size]? =some (.deferred (some [])):=by
  rw[<- hW1];exact(Below.heap_alloc _ _ _ (by simp)).trans (World.alloc_heap_new w _)
 have hb1:Below w.heap.size w W1:=by rw[<- hW1];exact((Below.refl _ w).alloc (Oa _) _).alloc (by simp) _
 have hout1:bX X a w H E (f 0 x₀) W1 (bT ρ s.own):=by
  rw[<- hW1];exact(hout0.abide hw0 (World.grownBy_alloc _ _ none) (by simp)).abide hw0 (World.grownBy_alloc _ _ none) (by simp)
 refine⟨w.heap.size+1,[{target:= .collected w.heap.size,args:= #[]}],W1,{target:= .fn (.func gf) lb.toArray,args:= #[.func (.yield (w.heap.size+1)) #[] #[]]},W1,gf,
  #[.func (.yield (w.heap.size+1)) #[] #[]]++lb.toArray,W1,?_,?_,fun _ _=>trivial,?_,fun h=>by simp[fw,Fence.wide] at h,?_⟩
 ·rw[<- hW1,hrec];exact run_enterLoop_outer _ _ _ _ _
 ·simp only[resolve,hlb1];simp[go_sem]
 ·simp[invoke,go_sem,henters]
 have hfw:fw X.r=fw none:=by rw[hr.1]
 rw[hfw];have hkeptA:∀(vs:List Value) (act0:Act),act0.tmps=((ps.toList.zip vs).foldl (fun(t:Array Value) (p:Nat×Value)=>t.setIfInBounds p.1 p.2) a.tmps)->∀t∈ks,∀pt:Value,(bp (act0.put (some d) pt) ms).tmps.getD t undef=a.tmps.getD t undef:=by
  intro k act0 h0 t ht pt;have h1:=Ob.1 hk1 t ht;simp only[N9,Pc,PK,decide_eq_false_iff_not,bne_iff_ne] at h1;rw[gD ms _ h1.2.2,Act.getD_put_ne h1.2.1,h0,jB];intro hm;obtain⟨p,hp,rfl⟩:=Ot.1 hm;exact h1.1 (QT hp).1
 have hmain:∀(k:Nat) (D:Nat->Prop) (W:World) (vs:List Value) (x:ι) (ρx:Nat->Value),Φ k x->bX X a w H E (f k x) W ρx->D=hot (XE X E).O ρx (f k x).own->W.heap[w.heap.size+1]? =some (.loop (rec .ready none))->W.heap[w.heap.size]? =some (.deferred (some []))->∀hkN:k<items.length,aY (aJ D W (fun _=>undef)) items[k] vs->
   YieldAt (fw none) 0 X.P (w.heap.size+1) vs.toArray W fun e B=>∃D',b5 D W D' B/\
    ((e= .returned (.bool true)/\(∃x ρ,Φ (k+1) x/\bX X a w H E (f (k+1) x) B ρ/\D'=hot (XE X E).O ρ (f (k+1) x).own)/\B.heap[w.heap.size+1]? =some (.loop (rec .ready none))/\B.heap[w.heap.size]? =some (.deferred (some [])))∨
     (e= .returned (.bool false)/\∃c,(∃z ρ,ou K z c/\bX X a w H E z B ρ/\D'=hot (XE X E).O ρ z.own)/\B.heap[w.heap.size+1]? =some (.loop (rec .done (some c)))/\B.heap[w.heap.size]? =some (.deferred (some [])))):=by
  intro k D W vs x ρx hx ho hD hl hd hkN hen;obtain⟨s1,v,cs,hv1,hv2,hv3,hv4,hs1,hJ⟩:=hround k hkN x hx;have hlt:w.heap.size+1<W.heap.size:=(BY.1 hl).1;have hdat:=hdata _ (OE hkN);have hes:vs.toArray.size=ps.size:=by have:=hen.length;rw[hdat.1] at this;simpa using this.symm
  have hy:=run_yield (P:=X.P) (args:=vs.toArray) hl (by rw[hrec];exact hes);rw[hrec] at hy;obtain⟨W2,hW2⟩:∃W2,W.putObj (w.heap.size+1) (.loop {rec .ready none with state:= .busy})=W2:=⟨_,rfl⟩;have hl2:W2.heap[w.heap.size+1]? =some (.loop {rec .ready none with state:= .busy}):=by rw[<- hW2];exact World.putObj_heap_same hlt
  have hd2:W2.heap[w.heap.size]? =some (.deferred (some [])):=by rw[<- hW2];exact(World.putObj_heap_other (by omega)).trans hd
  have ho2:bX X a w H E (f k x) W2 ρx:=by
   rw[<- hW2];exact ho.abide hw0 (grownBy_putObj' _ _ _) (fun r e=>by cases e;exact⟨by omega,_,hl,rfl⟩)
  have hzip:(ps.zip vs.toArray).toList=ps.toList.zip vs:=Sx;have hfold:(ps.zip vs.toArray).foldl (fun(t:Array Value) (p:Nat×Value)=>t.setIfInBounds p.1 p.2) a.tmps=(ps.toList.zip vs).foldl (fun(t:Array Value) (p:Nat×Value)=>t.setIfInBounds p.1 p.2) a.tmps:=by
   rw[<- Rt,hzip]
  obtain⟨act0,hact0⟩:∃act0:Act,act0={tmps:=(ps.toList.zip vs).foldl (fun(t:Array Value) (p:Nat×Value)=>t.setIfInBounds p.1 p.2) a.tmps,defers:=[]}:=⟨_,rfl⟩;have hfitA:Fits (XE X E) (f k x) {a with defers:=[]} W2 ρx:=⟨ho2.fits.env,ho2.fits.own,ho2.fits.io,ho2.fits.apart⟩;have hvals:aY (aJ (hot (XE X E).O ρx (f k x).own) W2 ρx) ((ps.toList.zip (items[k])).map Prod.snd) vs:=by
   (have e:(ps.toList.zip (items[k])).map Prod.snd=items[k]:=Sy (by have:=hdat.1;simp;omega);rw[e];refine hen.imp (fun y v hy h=>?_);have hz:=Ob.1 hdat.2 y hy;refine aN (H:=D) (w:=W) (w':=W2) (fun b _ hb=>by rw[hD];exact hb) (fun b hb hc=>?_) (fun id hid=>?_) h;·rw[<- hW2];refine World.putObj_heap_other (fun e=>?_);obtain⟨o,ho1,ho2⟩:=hc;rw[e,hl] at ho1;cases ho1;cases ho2);·cases y<;>simp_all [LV.isZ,LV.isOf]
  have hszA:a.tmps.size=X.T.N:=hst.size;have e1:(ps.toList.zip (items[k])).map Prod.fst=ps.toList:=SA (by have:=hdat.1;simp;omega);obtain⟨actP,hactP,hfitP,hszP⟩:=jA (ps.toList.zip (items[k])) vs hfitA rfl hszA (fun p hp=>by
   have:=Ob.1 hps p.1 (QT hp).1;simpa using this) hvals
  rw[e1] at hactP;have hP0:actP=act0:=by rw[hactP,hact0]
  rw[hP0] at hfitP hszP;have hpv:aP (cq (f k x) (ps.toList.zip items[k])) (.tmp pv)=some v:=hv1;have hcells:=AV.cells_ok hv2 (bJ hfitP hpv);obtain⟨Wb,hWb1,hWb2,hWb3,hWb4,hexec⟩:=zb (X:=X) (r:=some (w.heap.size+1)) (n:=0) assign hasg hTb act0 W (by rw[hszP];exact hdN) (by rw[<- hcells.length];exact hv3) (nS hcells);refine⟨fn,_,assign,body,hy,roundIn_of_wpIn (F:=fw none) trivial ?_⟩;rw[hfold,<- hact0];refine hexec ⟨_,run_beginRound ((hWb1 _ (BY.1 hl).1).trans hl) (by rw[hrec]),?_⟩;have hW2s:W2.heap.size=W.heap.size:=by rw[<- hW2];simp[World.putObj]
  obtain⟨W2b,hW2b⟩:∃W2b,Wb.putObj (w.heap.size+1) (.loop {rec .ready none with state:= .busy})=W2b:=⟨_,rfl⟩;rw[hW2b];have hkb:∀k,k<W2.heap.size->W2b.heap[k]? =W2.heap[k]? :=by
   (intro k hk;rw[<- hW2b,<- hW2];by_cases e:k=w.heap.size+1;·subst e;rw[World.putObj_heap_same (by omega),World.putObj_heap_same hlt]);·rw[World.putObj_heap_other e,World.putObj_heap_other e,hWb1 k (by omega)]
  have hnb:W2b.heap[W2.heap.size]? =some (.cells ((act0.eval (.tmp pv)).cells.toList).toArray TB (0,0)):=by
   rw[<- hW2b,hW2s,World.putObj_heap_other (by omega)];exact hWb2
  have hbelb:∀M:Nat->Prop,Bel M W2 W2b:=fun M=>by
   (have e1:W2b.os=W2.os:=by rw[<- hW2b,<- hW2];exact hWb4.1);(have e2:W2b.tape=W2.tape:=by rw[<- hW2b,<- hW2];exact hWb4.2.1);(have e3:W2b.output=W2.output:=by rw[<- hW2b,<- hW2];exact hWb4.2.2);exact⟨e1,e2,e3,by rw[<- hW2b];simp only[World.putObj,Rd];omega,fun k hk _=>hkb k hk⟩
  have hdB:d<ioB:=OC hdN hst.small.n;obtain⟨ρn,hρd,hρo,hfit1⟩:=Fits.freshO hfitP hdB (w':=W2b) (obj:= .box TB cs) (val:= .pointer (some ⟨W2.heap.size,0,none⟩)) hkb (fun b hb=>by simp[Blk] at hb;omega)
   (fun H' ρ' hh hs hρ hρd=>⟨W2.heap.size,(act0.eval (.tmp pv)).cells.toList,hρd,.inl (by have:=ho2.bel.size;exact this),hnb,aY.kill hh hs hρ (fun c hc=>by have:=Ob.1 hv4 c hc;simpa using this) hcells⟩)
  have hfit1:=hfit1.put (d:=d) (by rw[hszP];exact hdN) (v:= .l (.ownP d 0)) (val:= .pointer (some ⟨W2.heap.size,0,none⟩)) ⟨W2.heap.size,hρd,rfl⟩;rw[hW2s] at hfit1;have hfit1:=i7 ms hfit1 (by rw[Act.size_put];exact hszP) hs1;have hkA:∀t∈ks,(bp (act0.put (some d) (.pointer (some ⟨W.heap.size,0,none⟩))) ms).tmps.getD t undef=a.tmps.getD t undef:=fun t ht=>hkeptA vs act0 (by rw[hact0]) t ht _;have hst1:St {XE X E with T:={X.T with keep:=ks},I:=fun b=>∃p∈(f k x).own,Blk (ρx p.1) b,w0:=W2,r:=some (w.heap.size+1),tm:=fun t=>(bp (act0.put (some d) (.pointer (some ⟨W.heap.size,0,none⟩))) ms).tmps.getD t undef} s1 (bp (act0.put (some d) (.pointer (some ⟨W.heap.size,0,none⟩))) ms) W2b:=by
   refine⟨?_,fun _ _=>rfl,by rw[gC,Act.size_put];exact hszP,hbelb _,fun b hb hm=>?_,⟨hst.small.n,?_,fun b hb=>?_,fun b v t hp=>?_⟩,ρn,hfit1.env,fun p hp=>?_,hfit1.io,hfit1.apart⟩;·rw[ff,Act.defers_put,hact0];exact Marks.nil _ _ _
   ·rcases hb with hb|hb
    ·rcases hm with hm|⟨p,hp,hpb⟩
     ·have h1:=hst.others b hb;have h2:b<X.w0.heap.size:=by
       by_cases h3:b<X.w0.heap.size
       ·exact h3
       ·exact absurd (.inl (by omega)) h1
      have:=ho2.bel.size;simp only at hm;omega
     ·exact hst.others b hb ((ho2.fits.own p hp).lt hpb).1
    ·obtain⟨o,ho,_⟩:=hEw b hb;have h2:=(BY.1 ho).1;rcases hm with hm|⟨p,hp,hpb⟩;·have:=ho2.keeps.size;simp only at hm;omega
     ·(rcases ho2.own p hp b hpb with h1|h1;·omega);·exact hEH b hb h1
   ·(have h1:=hst.small.on;refine⟨Og h1.1 ho2.bel.size,fun b hb=>?_⟩;rw[<- h1.2 b hb];refine ho2.bel.block b (OC hb h1.1) ?_;rintro(hm|hm);·have:=h1.1;simp only at hb;omega);·have:=hst.small.io b hm;simp only at hb;omega
   ·(obtain⟨p,hp,hpb⟩:=hb;rcases ((ho2.fits.own p hp).lt hpb).1 with h1|h1;·exact Og hst.small.on.1 h1);·exact hst.small.io b h1
   ·obtain⟨p1,p2,p3,p4⟩:=hst.small.pin b v t hp;have hnM:¬X.M b:=fun hm=>hm.elim (fun h1=>by omega) p2;refine⟨by have:=ho2.bel.size;simp only;omega,fun⟨q,hq,hqb⟩=>hnM ((ho2.fits.own q hq).lt hqb).1,fun h1=>h1.elim p3 (fun h2=>hnM (hEM b h2)),?_⟩;rw[<- p4];exact ho2.bel.block b p1 hnM
   ·have hq:∀(l:List (Nat×LV)) (s:aa),(cq s l).own=s.own:=by
     intro l;induction l with
     |nil=>intro s;rfl
     |cons q l ih=>intro s;exact ih _
    have hmv:∀(l:List (Nat×Operand)) (s t:aa),cP X.T.N s l=some t->t.own=s.own:=by
     intro l;induction l with
     |nil=>intro s t h;cases h;rfl
     |cons q l ih=>
      intro s t h;simp only[cP] at h;split at h
      ·(split at h;·rw[ih _ _ h];rfl);·cases h
      ·cases h
    have hs1':=hmv _ _ _ hs1;(have hp':p∈(d,aB.box TB cs)::bg (LV.kill d) (del (cq (f k x) (ps.toList.zip items[k])).own d):=by rw[hs1'] at hp;exact hp);have h5:=(hfit1.own p hp).moved (H':=hot (XE X E).O ρn s1.own) (ρ':=ρn) (k:=p.1) (f:=id) (M':=Cx.M {XE X E with T:={X.T with keep:=ks},I:=fun b=>∃p∈(f k x).own,Blk (ρx p.1) b,w0:=W2,r:=some (w.heap.size+1),tm:=fun t=>(bp (act0.put (some d) (.pointer (some ⟨W.heap.size,0,none⟩))) ms).tmps.getD t undef}) (fun _ _ h=>h) (fun x v hx=>hx) rfl (fun b hb=>by
     (rcases IS.1 hp' with rfl|hp2;·simp only[hρd] at hb;simp[Blk] at hb;exact .inl (by simp only;omega));·obtain⟨u,g1,_⟩:=a8 hp2;have g2:=bC.1 g1;rw[hρo _ g2.2] at hb;exact .inr ⟨(p.1,u),by rw[<- hq];exact g2.1,hb⟩)
    rw[aB.map_id] at h5;exact h5
  have hw:=hJ {XE X E with T:={X.T with keep:=ks},I:=fun b=>∃p∈(f k x).own,Blk (ρx p.1) b,w0:=W2,r:=some (w.heap.size+1),tm:=fun t=>(bp (act0.put (some d) (.pointer (some ⟨W.heap.size,0,none⟩))) ms).tmps.getD t undef} rfl rfl _ _ hst1;refine pZ (n:=2) (Code.wpIn_mono (fun e a3 W3 hp=>?_) hw);obtain⟨s3,hK3,hst3⟩:=hp;have fin:∀(jump:Option Code) (z:aa),z.env.all (fun e=>ks.contains e.1)=true->le s3 z->∃ ρz,bX X a w H E z (W3.putObj (w.heap.size+1) (.loop (rec (if jump.isNone then .ready else .done) jump))) ρz/\
    (Instr.endRound (w.heap.size+1) jump).run X.P W3= .ok (.bool jump.isNone) (W3.putObj (w.heap.size+1) (.loop (rec (if jump.isNone then .ready else .done) jump)))/\
    (W3.putObj (w.heap.size+1) (.loop (rec (if jump.isNone then .ready else .done) jump))).heap[w.heap.size+1]? =some (.loop (rec (if jump.isNone then .ready else .done) jump))/\
    (W3.putObj (w.heap.size+1) (.loop (rec (if jump.isNone then .ready else .done) jump))).heap[w.heap.size]? =some (.deferred (some []))/\
    b5 D W (hot (XE X E).O ρz z.own) (W3.putObj (w.heap.size+1) (.loop (rec (if jump.isNone then .ready else .done) jump))):=by
   intro jump z hz hle;obtain⟨ρz,h1,h2,h3,h3'⟩:=ho2.backD hkA hz hle hst3;(have hsz2:W2.heap.size=W.heap.size:=by rw[<- hW2];simp[World.putObj]);have hl3:=h2.same _ _ hl2 rfl;have hd3:=h2.same _ _ hd2 rfl;have he:=run_endRound (P:=X.P) jump hl3;rw[hrec] at he ⊢;refine⟨ρz,h1.abide hw0 (grownBy_putObj' _ _ _) (fun r e=>by cases e;exact⟨by omega,_,hl3,rfl⟩),he,World.putObj_heap_same (BY.1 hl3).1,(World.putObj_heap_other (by omega)).trans hd3,⟨?_,?_,?_⟩⟩;·have:=h2.size;simp only[World.putObj,Rd];omega
   ·(rintro b ((hb|hb)|⟨p,hp,hpb⟩);·exact .inl (by rw[hD];exact .inl (.inl hb)));·exact absurd hb (hEf b)
    ·(rcases h3 p hp b hpb with h4|⟨q,hq,hqb⟩;·exact .inr (by omega));·exact .inl (by rw[hD];exact .inr ⟨q,hq,hqb⟩)
   ·intro b hb hnD hc;have hne:b≠w.heap.size+1:=by
     intro e;obtain⟨o,ho1,ho2⟩:=hc;rw[e,hl] at ho1;cases ho1;cases ho2
    (have e1:W2.heap[b]? =W.heap[b]? :=by rw[<- hW2];exact World.putObj_heap_other hne);rw[World.putObj_heap_other hne,h3' b (by omega) (fun⟨q,hq,hqb⟩=>hnD (by rw[hD];exact .inr ⟨q,hq,hqb⟩)),e1]
  cases e with
  |normal=>
   obtain⟨y,hle,hy'⟩:=hK3;obtain⟨ρz,h1,h2,h3,h4,h5⟩:=fin none _ (hks (k+1) y) hle;exact⟨_,_,h2,_,h5,.inl ⟨rfl,⟨y,ρz,hy',h1,rfl⟩,h3,h4⟩⟩
  |ret=>
   obtain⟨z,hle,hz,hk3⟩:=hK3;obtain⟨ρz,h1,h2,h3,h4,h5⟩:=fin (some .ret) _ hz hle;exact⟨_,_,h2,_,h5,.inr ⟨rfl,.ret,⟨z,ρz,hk3,h1,rfl⟩,h3,h4⟩⟩
  |exit i=>
   obtain⟨z,hle,hz,hk3⟩:=hK3;obtain⟨ρz,h1,h2,h3,h4,h5⟩:=fin (some (.exit i)) _ hz hle;exact⟨_,_,h2,_,h5,.inr ⟨rfl,.exit i,⟨z,ρz,hk3,h1,rfl⟩,h3,h4⟩⟩
  |goto t=>exact hK3.elim
  |panic ch=>exact hK3.elim
  |outgrown=>exact hK3.elim
 obtain⟨t,ht⟩:∃t:bS,t={P:=X.P,B:=X.T.base,l:=w.heap.size+1,items:=items,J:=fun g D W=>match g with
  |some k=>(∃x ρ,Φ k x/\bX X a w H E (f k x) W ρ/\D=hot (XE X E).O ρ (f k x).own)/\W.heap[w.heap.size+1]? =some (.loop (rec .ready none))/\W.heap[w.heap.size]? =some (.deferred (some []))
  |none=>∃c,(∃z ρ,ou K z c/\bX X a w H E z W ρ/\D=hot (XE X E).O ρ z.own)/\W.heap[w.heap.size+1]? =some (.loop (rec .done (some c)))/\W.heap[w.heap.size]? =some (.deferred (some []))}:=⟨_,rfl⟩
 have hgb:∀{A B:World},lj A B->A.grownBy B none:=fun h=>⟨h.os,h.tape,h.output,h.size,fun k hk _=>h.at hk⟩;have hon:∀{z:aa} {W:World} {ρ:Nat->Value},bX X a w H E z W ρ->X.T.base.On W/\∀b,hot (XE X E).O ρ z.own b->b<W.heap.size:=by
  intro z W ρ ho;refine⟨⟨Og hst.small.on.1 ho.bel.size,fun b hb=>?_⟩,?_⟩
  ·(rw[<- hst.small.on.2 b hb];refine ho.bel.block b (OC hb hst.small.on.1) ?_;rintro(hm|hm);·have:=hst.small.on.1;omega);·have:=hst.small.io b hm;omega
  ·rintro b ((hb|hb)|⟨p,hp,hpb⟩)
   ·have h1:=hst.others b hb;have h2:b<X.w0.heap.size:=by
     by_cases h3:b<X.w0.heap.size
     ·exact h3
     ·exact absurd (.inl (by omega)) h1
    have:=ho.bel.size;omega
   ·exact absurd hb (hEf b)
   ·exact((ho.fits.own p hp).lt hpb).2
 have htok:t.OK:=by
  subst ht;refine⟨?_,?_,?_⟩
  ·(rintro(_|k) D A B hJ hgr;·obtain⟨c,⟨z,ρz,hx,ho,hD⟩,hl,hd⟩:=hJ;exact⟨c,⟨z,ρz,hx,ho.abide hw0 (hgb hgr) (by simp),hD⟩,(hgr.at (BY.1 hl).1).trans hl,(hgr.at (BY.1 hd).1).trans hd⟩);·obtain⟨⟨x,ρx,hx,ho,hD⟩,hl,hd⟩:=hJ;exact⟨⟨x,ρx,hx,ho.abide hw0 (hgb hgr) (by simp),hD⟩,(hgr.at (BY.1 hl).1).trans hl,(hgr.at (BY.1 hd).1).trans hd⟩
  ·(rintro(_|k) D A hJ;·obtain⟨c,⟨z,ρz,hx,ho,rfl⟩,hl,hd⟩:=hJ;exact hon ho);·obtain⟨⟨x,ρx,hx,ho,rfl⟩,hl,hd⟩:=hJ;exact hon ho
  ·intro k D W vs hJ hkN hen;obtain⟨⟨x,ρx,hx,ho,hD⟩,hl,hd⟩:=hJ;exact hmain k D W vs x ρx hx ho hD hl hd hkN hen
 have hcall:=hsq t (hot (XE X E).O (bT ρ s.own) (f 0 x₀).own) W1 htok (by rw[ht]) (by rw[ht]) (by rw[ht]) hb1 (fun b hb=>by
  rcases hb with(hb|hb)|hb;·exact .inl hb
  ·exact absurd hb (hEf b)
  ·exact .inr hb) (by rw[ht];exact⟨⟨x₀,_,hΦ,hout1,rfl⟩,hL1,hD1⟩)
 rw[show t.l=w.heap.size+1 by rw[ht]] at hcall;refine(qQ hcall).mono ?_;rintro e W2 ⟨v,g',D',rfl,hJ',hg'⟩;rw[ht] at hJ';rcases hg' with rfl|rfl
 ·obtain⟨⟨x,ρx,hx,ho,-⟩,hl,hd⟩:=hJ';have he:=run_endLoop (P:=X.P) hl (by rw[hrec];simp);rw[hrec] at he;refine⟨none,_,he,_,hdone x hx,(ho.abide hw0 (grownBy_putObj' _ _ _) (fun r e=>by cases e;exact⟨by omega,_,hl,rfl⟩)).st hr.2 hst ((World.putObj_heap_other (by omega)).trans hd)⟩
 ·obtain⟨c,⟨z,ρz,hj,ho,-⟩,hl,hd⟩:=hJ';have he:=run_endLoop (P:=X.P) hl (by rw[hrec];simp);rw[hrec] at he;refine⟨some c,_,he,?_⟩;cases c with
  |ret=>exact wpIn_ret ⟨z,hj,(ho.abide hw0 (grownBy_putObj' _ _ _) (fun r e=>by cases e;exact⟨by omega,_,hl,rfl⟩)).st hr.2 hst ((World.putObj_heap_other (by omega)).trans hd)⟩
  |exit i=>exact wpIn_exit ⟨z,hj,(ho.abide hw0 (grownBy_putObj' _ _ _) (fun r e=>by cases e;exact⟨by omega,_,hl,rfl⟩)).st hr.2 hst ((World.putObj_heap_other (by omega)).trans hd)⟩
  |_=>exact hj.elim
theorem Fb{X:Cx}(hr:X.calm){s:aa}{K:Exit->aa->Prop}{g:Operand}{ps:Array Tmp}{assign body:Code}{gf:FuncId}{caps:List CV}
  (hg:aP s g=some (.l (.fn gf caps))) (hcap:caps.all CV.pure=true) {items:List (List LV)} (hseq:lS X.T.base X.P gf ps.size caps items) {d pv:Nat} {TB:TypeId} {ub:Ty} {ms:List (Nat×Operand)} (hasg:lp assign=some (d,TB,pv,ms)) (hTb:cE X.P TB ub) (hdN:d<X.T.N) (ks:List Nat)
  (hk1:ks.all (fun t=> !ps.toList.contains t&&(t !=d&& !(ms.map Prod.fst).contains t))=true) (hps:ps.toList.all (fun t=>decide (t<X.T.N))=true)
  {ι:Type} (f:Nat->ι->aa) (Φ:Nat->ι->Prop) (x₀:ι) (h₀:le s (f 0 x₀)) (hΦ:Φ 0 x₀) (hks:∀k x,(f k x).env.all (fun e=>ks.contains e.1)=true)
  (hround:∀k (hk:k<items.length) (x:ι),Φ k x->∃s1 v cs,aP (cq (f k x) (ps.toList.zip items[k])) (.tmp pv)=some v/\v.cells=some cs/\cs.length=ub.w/\cs.all (fun c=> !c.isOf d)=true/\cP X.T.N {env:=(d,.l (.ownP d 0))::del ((cq (f k x) (ps.toList.zip items[k])).kill d).env d,own:=(d,.box TB cs)::((cq (f k x) (ps.toList.zip items[k])).kill d).own} ms=some s1/\
   ∀X':Cx,X'.P=X.P->X'.T={X.T with keep:=ks}->J X' body s1 (kN f Φ ks K k))
  (hdone:∀x,Φ items.length x->K .normal (f items.length x)):J X (.rangeFunc g ps assign body) s K:=
 AZ hr hseq.enters hseq.data hasg hTb hdN ks hk1 hps f Φ x₀ h₀ (fun a w ρ hst hf=>by
  obtain⟨lb,hlb1,hlb2⟩:aJ (hot X.O ρ s.own) w ρ (.fn gf caps) (a.eval g):=bJ hf hg;refine⟨lb,hlb1,fun t D W ht hP hB hi hb hD hJ=>?_⟩;have hlt:∀b,hot X.O ρ s.own b->b<w.heap.size:=fun b hb=>hf.hot_lt hst.others hst.below hb;exact hseq.seq t ht hP hB hi D W lb hJ (oT (fun b hlt hb=>gp h₀ (hD b hb)) (fun b _ hc=>hb.block b (cg hc)) hcap hlb2)) hΦ hks hround hdone
end Go.Cm
end
section
namespace Go.Proofs.YtppnhclgaeodoaaGreatDoor
open Go Go.Cm Go.Proofs Tryz
def Cv(B:av):Tab:={types:=[(3,(.int .i64)),(78,(.slice (.int .u32))),(138,(.int .u32))],elems:=[(78,138)],cons:=[],hint:=[],N:=56,base:=B}
theorem Ix{B:av}(hB:bc B):aV prog (Cv B):=mg (T:=Cv B) (tc ty3 (tc iR (tc gb ah))) (bo (by kernel_rfl) aj) (cZ rfl)
def Cw:Con:=fun l os=>match l,os with
 | [.z (.slice (.int .u32)) m,.z (.slice (.int .u32)) o],[]=>some (Cano m/\Cano o/\m.length+o.length<CAP,[.z (.slice (.int .u32)) (limbs (valL m+valL o).toNat)],[])
 |_,_=>none
theorem Ki{B:av}(hB:bc B):Valid B prog 177 Cw:=by
 refine bh (Ix hB).tab func177 rfl rfl rfl ?_;intro args os C rs os' hc hC;unfold Cw at hc;split at hc;case h_2=>cases hc
 rename_i m o;cases hc;refine v_h (Ix hB) fun X hP hT hr hG=>?_;have hU:=Cv.eq_1;unfold Cv at hT;have hX:=Pv;simp only[f177,aD,af,ioB];refine s_g hG ?_;refine fz (fun(z:List Int×List Int)=>(⟨[(0,.l (.z (.slice (.int .u32)) z.1)),(1,.l (.z (.slice (.int .u32)) z.2))],[]⟩:aa)) (fun z=>Cano z.1/\Cano z.2/\z.2.length<=z.1.length/\z.1.length<CAP/\valL z.1+valL z.2=valL m+valL o) ?_ ?_
 ·refine s_g hG ?_;refine bw ?_ ?_
  ·(intro hb0;(try simp only[bt] at hb0);refine aU hG ?_ ?_;·exact tt);refine qm ?_;obtain⟨c1,c2,c3⟩:=hC;first|exact⟨c2,c1,by omega,by omega,RY _ _⟩|exact⟨c1,c2,by omega,by omega⟩
  ·intro hb0;(try simp only[bf] at hb0);refine aC (qm ?_);obtain⟨c1,c2,c3⟩:=hC;first|exact⟨c2,c1,by omega,by omega,RY _ _⟩|exact⟨c1,c2,by omega,by omega⟩
 rintro⟨m,o⟩ ⟨h1,h2,h3,h4,h5⟩;try dsimp only at h1 h2 h3 h4 h5
 have h4:m.length<1000000000000:=h4;refine s_q hG ?_ ?_
 ·try simp only[ba]
  rw[wo];exact⟨by omega,by omega,by unfold Cm.Roomy;omega⟩
 refine s_g hG ?_;refine al (s_g hG ?_);refine au (bM (fun(z:Nat×Int×List Int)=>(⟨[(0,.l (.z (.slice (.int .u32)) m)),(1,.l (.z (.slice (.int .u32)) o)),(5,.l (.ownS 20)),(6,.l (.z (.int .u32) z.2.1)),(21,.l (.z (.slice (.int .u32)) m)),(22,.l (.z (.int .i64) (m.length:Int))),(23,.l (.z (.int .i64) (z.1:Int)))],[(20,.arr (.int .u32) 138 z.2.2)]⟩:aa)) (fun z=>z.1<=m.length/\z.2.2.length=z.1/\Lim z.2.2/\0<=z.2.1/\z.2.1<=1/\valL z.2.2+LB^z.1*z.2.1=valL (m.take z.1)+valL (o.take z.1)) (fun z=>m.length-z.1) (0,0,[]) ?_ ?_ ?_);·refine q_l ?_;exact⟨rfl,rfl⟩
 ·simp[Lim,valL]
 ·rintro⟨k,c,out⟩ ⟨g1,g2,g3,g4,g5,g6⟩;try dsimp only at g1 g2 g3 g4 g5 g6
  refine s_g hG ?_;refine al (bw ?_ ?_)
  ·intro hb1;(try simp only[bt] at hb1);refine aC (ag (al (au (s_q hG ?_ ?_))))
   ·(try simp only[ba]);exact⟨by omega,hb1⟩
   refine s_g hG ?_;refine fz (fun(z:Int)=>(⟨[(0,.l (.z (.slice (.int .u32)) m)),(1,.l (.z (.slice (.int .u32)) o)),(5,.l (.ownS 20)),(9,.l (.z (.int .u32) z)),(21,.l (.z (.slice (.int .u32)) m)),(22,.l (.z (.int .i64) (m.length:Int))),(23,.l (.z (.int .i64) (k:Int)))],[(20,.arr (.int .u32) 138 out)]⟩:aa)) (fun z=>z=m.getD k 0+c+o.getD k 0) ?_ ?_
   ·refine s_g hG ?_;refine bw ?_ ?_
    ·intro hb2;(try simp only[bt] at hb2);refine aU hG ?_ ?_
     ·(try simp only[ba]);exact⟨by omega,hb2⟩
     refine qm ?_;have hw:=uv (h1.1.getD k) (h2.1.getD k) ⟨g4,g5⟩;first|exact hw.2|(rw[fO,hw.1,sh (l:=o),OA (by omega)];simp)
    ·intro hb2;(try simp only[bf] at hb2);refine aC (qm ?_);have hw:=uv (h1.1.getD k) (h2.1.getD k) ⟨g4,g5⟩;first|exact hw.2|(rw[fO,hw.1,sh (l:=o),OA (by omega)];simp)
   rintro n hn;(try dsimp only at hn);refine s_g hG ?_;refine aU hG ?_ ?_
   ·(try simp only[ba]);exact⟨by omega,by unfold Cm.Roomy;omega⟩
   (refine aR (ag (aU hG ?_ ?_));·exact tt);refine qm ?_;obtain⟨q1,q2,q3,q4⟩:=zY h1.1 h2.1 g2 g3 g4 g5 g6 hn;exact⟨k+1,by rw[wo];simp,by omega,by simp[g2],q1,q2,q3,q4,by omega⟩
  ·intro hb1;(try simp only[bf] at hb1);refine bN (aQ (aI (aH (ag (fz (fun(z:List Int)=>(⟨[(5,.l (.ownS 20))],[(20,.arr (.int .u32) 138 z)]⟩:aa)) (fun z=>z=limbs (valL m+valL o).toNat) ?_ ?_)))))
   ·refine s_g hG ?_;refine bw ?_ ?_
    ·intro hb3;(try simp only[bt] at hb3);refine aU hG ?_ ?_
     ·(try simp only[ba]);unfold Cm.Roomy;omega
     refine qm ?_;have he:=xI (out:=out) (c:=c) h1 h2 h3 (by omega) g3 g4 g5 (by rw[show k=m.length by omega,OD,Oj h3] at g6;exact g6);first|exact he.1 hb3|exact he.2 hb3
    ·intro hb3;(try simp only[bf] at hb3);refine aC (qm ?_);have he:=xI (out:=out) (c:=c) h1 h2 h3 (by omega) g3 g4 g5 (by rw[show k=m.length by omega,OD,Oj h3] at g6;exact g6);first|exact he.1 hb3|exact he.2 hb3
   rintro out2 hout;(try dsimp only at hout);refine s_g hG ?_;refine aK (q_e [] ?_);rw[hout,h5]
def Cy(B:av):Tab:={types:=[(3,(.int .i64))],elems:=[],cons:=[],hint:=[],N:=6,base:=B}
theorem Iy{B:av}(hB:bc B):aV prog (Cy B):=mg (T:=Cy B) (tc ty3 ah) aj (cZ rfl)
def Cz:Con:=fun l os=>match l,os with
 | [.z (.int .i64) a],[]=>some (True,[.z .bool false],[])
 |_,_=>none
theorem Kj{B:av}(hB:bc B):Valid B prog 179 Cz:=by
 refine bh (Iy hB).tab func179 rfl rfl rfl ?_;intro args os C rs os' hc hC;unfold Cz at hc;split at hc;case h_2=>cases hc
 rename_i a;cases hc;refine v_h (Iy hB) fun X hP hT hr hG=>?_;have hU:=Cy.eq_1;unfold Cy at hT;have hX:=Pv;simp only[f179,aD,af,ioB];refine s_g hG ?_;refine s_g hG ?_;refine aK (q_e [] ?_);trivial
def CA(B:av):Tab:={types:=[(138,(.int .u32))],elems:=[],cons:=[],hint:=[],N:=6,base:=B}
theorem Iz{B:av}(hB:bc B):aV prog (CA B):=mg (T:=CA B) (tc gb ah) aj (cZ rfl)
def CB:Con:=fun l os=>match l,os with
 | [.z (.int .u32) a],[]=>some (True,[.z .bool false],[])
 |_,_=>none
theorem Kk{B:av}(hB:bc B):Valid B prog 203 CB:=by
 refine bh (Iz hB).tab func203 rfl rfl rfl ?_;intro args os C rs os' hc hC;unfold CB at hc;split at hc;case h_2=>cases hc
 rename_i a;cases hc;refine v_h (Iz hB) fun X hP hT hr hG=>?_;have hU:=CA.eq_1;unfold CA at hT;have hX:=Pv;simp only[f203,aD,af,ioB];refine s_g hG ?_;refine s_g hG ?_;refine aK (q_e [] ?_);trivial
def CC(B:av):Tab:={types:=[(3,(.int .i64))],elems:=[],cons:=[(179,Cz)],hint:=[],N:=20,base:=B}
theorem IA{B:av}(hB:bc B):aV prog (CC B):=mg (T:=CC B) (tc ty3 ah) aj (aM (cc func179 (Kj hB) aF))
def vz:Con:=fun l os=>match l,os with
 | [.z (.int .i64) a,.z (.int .i64) b],[]=>some (True,[.z (.int .i64) (bq a b)],[])
 |_,_=>none
theorem CD{B:av}(hB:bc B):Valid B prog 137 vz:=by
 refine bh (IA hB).tab func137 rfl rfl rfl ?_;intro args os C rs os' hc hC;unfold vz at hc;split at hc;case h_2=>cases hc
 rename_i a b;cases hc;refine v_h (IA hB) fun X hP hT hr hG=>?_;have hU:=CC.eq_1;unfold CC at hT;have hX:=ai @cx<| @Cz.eq_1;simp only[f137,aD,af,ioB];refine s_g hG ?_;refine s_g hG ?_;refine s_g hG ?_;refine al (s_g hG ?_);refine bw ?_ ?_;·intro hb0;cases hb0
 ·intro hb0;try simp only[bf] at hb0
  refine aC (ag (al (s_g hG ?_)));refine bw ?_ ?_;·intro hb1;cases hb1
  ·intro hb1;(try simp only[bf] at hb1);refine aC (ag (al (s_g hG ?_)));refine bw ?_ ?_;·intro hb2;(try simp only[bt] at hb2);refine s_g hG ?_;refine aK (aO (q_e [] ?_));rw[bq,if_pos hb2]
   ·(intro hb2;(try simp only[bf] at hb2);refine aC (ag (al (s_g hG ?_)));refine bw ?_ ?_;·intro hb3;(try simp only[bt] at hb3);refine s_g hG ?_;refine aK (aO (q_e [] ?_));rw[bq,if_neg (by omega),if_pos hb3]);·intro hb3;(try simp only[bf] at hb3);refine aC (ag (s_g hG ?_));refine aK (q_e [] ?_);rw[bq,if_neg hb2,if_neg hb3]
def CE(B:av):Tab:={types:=[(138,(.int .u32))],elems:=[],cons:=[(203,CB)],hint:=[],N:=20,base:=B}
theorem IB{B:av}(hB:bc B):aV prog (CE B):=mg (T:=CE B) (tc gb ah) aj (aM (cc func203 (Kk hB) aF))
def CF:Con:=fun l os=>match l,os with
 | [.z (.int .u32) a,.z (.int .u32) b],[]=>some (True,[.z (.int .i64) (bq a b)],[])
 |_,_=>none
theorem Kl{B:av}(hB:bc B):Valid B prog 180 CF:=by
 refine bh (IB hB).tab func180 rfl rfl rfl ?_;intro args os C rs os' hc hC;unfold CF at hc;split at hc;case h_2=>cases hc
 rename_i a b;cases hc;refine v_h (IB hB) fun X hP hT hr hG=>?_;have hU:=CE.eq_1;unfold CE at hT;have hX:=ai @cx<| @CB.eq_1;simp only[f180,aD,af,ioB];refine s_g hG ?_;refine s_g hG ?_;refine s_g hG ?_;refine al (s_g hG ?_);refine bw ?_ ?_;·intro hb0;cases hb0
 ·intro hb0;try simp only[bf] at hb0
  refine aC (ag (al (s_g hG ?_)));refine bw ?_ ?_;·intro hb1;cases hb1
  ·intro hb1;(try simp only[bf] at hb1);refine aC (ag (al (s_g hG ?_)));refine bw ?_ ?_;·intro hb2;(try simp only[bt] at hb2);refine s_g hG ?_;refine aK (aO (q_e [] ?_));rw[bq,if_pos hb2]
   ·(intro hb2;(try simp only[bf] at hb2);refine aC (ag (al (s_g hG ?_)));refine bw ?_ ?_;·intro hb3;(try simp only[bt] at hb3);refine s_g hG ?_;refine aK (aO (q_e [] ?_));rw[bq,if_neg (by omega),if_pos hb3]);·intro hb3;(try simp only[bf] at hb3);refine aC (ag (s_g hG ?_));refine aK (q_e [] ?_);rw[bq,if_neg hb2,if_neg hb3]
def CG(B:av):Tab:={types:=[(3,(.int .i64)),(78,(.slice (.int .u32))),(80,tyW),(138,(.int .u32))],elems:=[],cons:=[],hint:=[],N:=30,base:=B}
theorem IC{B:av}(hB:bc B):aV prog (CG B):=mg (T:=CG B) (tc ty3 (tc iR (tc fZ (tc gb ah)))) aj (cZ rfl)
def ew:Con:=fun l os=>match l,os with
 | [.z .bool s,.z (.slice (.int .u32)) m],[]=>some (Lim m/\m.length<CAP,[.z tyW (enc (dec (s,m)))],[])
 |_,_=>none
theorem kj{B:av}(hB:bc B):Valid B prog 140 ew:=by
 refine bh (IC hB).tab func140 rfl rfl rfl ?_;intro args os C rs os' hc hC;unfold ew at hc;split at hc;case h_2=>cases hc
 rename_i s m;cases hc;refine v_h (IC hB) fun X hP hT hr hG=>?_;have hU:=CG.eq_1;unfold CG at hT;have hX:=Pv;simp only[f140,aD,af,ioB];refine s_g hG ?_;refine al (au (bM (fun(z:List Int)=>(⟨[(0,.l (.z .bool s)),(1,.l (.z (.slice (.int .u32)) z)),(4,.l (.ownP 4 0))],[(4,.box 80 [.z .bool false,.val (.slice none 0 0)])]⟩:aa)) (fun z=>Lim z/\valL z=valL m/\z.length<=m.length) (fun z=>z.length) m ?_ ?_ ?_));·simp only[ml0,ml1,N8,AS,IT,N3,No,AT,N4,N5,reduceIte,reduceDIte,reduceCtorEq]
 ·exact⟨hC.1,rfl,Oa _⟩
 ·rintro z ⟨g1,g2,g3⟩;try dsimp only at g1 g2 g3
  have h4:z.length<1000000000000:=PP g3 hC.2;refine al (s_q hG ?_ ?_)
  ·(try simp only[ba]);exact⟨id,id,fun h=>⟨h,by simp only[decide_eq_true_eq] at h;rw[wo];omega⟩,id⟩
  refine bw ?_ ?_
  ·intro hb0;(try simp only[bt] at hb0);refine aC (ag (au (aU hG ?_ ?_)))
   ·(try simp only[ba]);rw[wo];omega
   refine aR (qm ?_);exact whole_round g1 g2 g3 hb0.1 h4 hb0.2
  ·intro hb0;(try simp only[bf] at hb0);refine bN (aQ (aI (aH (ag (s_q hG ?_ ?_)))))
   ·(try simp only[ba]);exact id
   refine aK (q_e [] ?_);refine D5 g1 g2 fun hz h0=>?_;have:=hb0 (by simp;omega);rw[wo,last_eq hz] at this;exact this h0
def CH(B:av):Tab:={types:=[(4,.bool),(78,(.slice (.int .u32))),(80,tyW)],elems:=[],cons:=[(140,ew)],hint:=[],N:=9,base:=B}
theorem ID{B:av}(hB:bc B):aV prog (CH B):=mg (T:=CH B) (tc ty4 (tc iR (tc fZ ah))) aj (aM (cc func140 (kj hB) aF))
def zc:Con:=fun l os=>match l,os with
 | [.z (.st (.pair .bool (.slice (.int .u32)))) x],[]=>some (Lim x.2/\x.2.length<CAP,[.z tyW (enc (-dec x))],[])
 |_,_=>none
theorem wY{B:av}(hB:bc B):Valid B prog 155 zc:=by
 refine bh (ID hB).tab func155 rfl rfl rfl ?_;intro args os C rs os' hc hC;unfold zc at hc;split at hc;case h_2=>cases hc
 rename_i x;cases hc;refine v_h (ID hB) fun X hP hT hr hG=>?_;have hU:=CH.eq_1;unfold CH at hT;have hX:=ai @cx<| @ew.eq_1;simp only[f155,aD,af,ioB];refine s_g hG ?_;refine s_q hG ?_ ?_
 ·try simp only[ba]
  exact hC
 refine aK (q_e [] ?_);rw[BD]
def CI(B:av):Tab:={types:=[(3,(.int .i64)),(4,.bool),(78,(.slice (.int .u32))),(80,tyW)],elems:=[],cons:=[],hint:=[],N:=11,base:=B}
theorem IE{B:av}(hB:bc B):aV prog (CI B):=mg (T:=CI B) (tc ty3 (tc ty4 (tc iR (tc fZ ah)))) aj (cZ rfl)
def pT:Con:=fun l os=>match l,os with
 | [.z (.st (.pair .bool (.slice (.int .u32)))) x],[]=>some (WOK x,[.z (.int .i64) (bq (dec x) 0)],[])
 |_,_=>none
theorem wZ{B:av}(hB:bc B):Valid B prog 73 pT:=by
 refine bh (IE hB).tab func73 rfl rfl rfl ?_;intro args os C rs os' hc hC;unfold pT at hc;split at hc;case h_2=>cases hc
 rename_i x;cases hc;refine v_h (IE hB) fun X hP hT hr hG=>?_;have hU:=CI.eq_1;unfold CI at hT;have hX:=Pv;simp only[f73,aD,af,ioB];refine s_g hG ?_;refine al (au (s_g hG ?_));refine bw ?_ ?_
 ·intro hb0;try simp only[bt] at hb0
  refine s_g hG ?_;refine aK (bn (aO (q_e [] ?_)));rw[bq,if_neg (by have:=(fP hC).1.1 hb0;omega),if_neg (by have:=(fP hC).1.1 hb0;omega)]
 ·intro hb0;try simp only[bf] at hb0
  refine s_g hG ?_;refine bw ?_ ?_;·intro hb1;(try simp only[bt] at hb1);refine s_g hG ?_;refine aK (bn (aO (q_e [] ?_)));rw[bq,if_pos (((fP hC).2 hb0).1 hb1)]
  ·intro hb1;(try simp only[bf] at hb1);refine aC (aR (ag (s_g hG ?_)));refine aK (q_e [] ?_);have:=((fP hC).2 hb0).2 hb1;rw[bq,if_neg (by omega),if_pos this]
def CJ(B:av):Tab:={types:=[(3,(.int .i64)),(78,(.slice (.int .u32))),(138,(.int .u32))],elems:=[],cons:=[(137,vz),(180,CF)],hint:=[],N:=35,base:=B}
theorem IF{B:av}(hB:bc B):aV prog (CJ B):=mg (T:=CJ B) (tc ty3 (tc iR (tc gb ah))) aj (aM (cc func137 (CD hB) (cc func180 (Kl hB) aF)))
def e9:Con:=fun l os=>match l,os with
 | [.z (.slice (.int .u32)) m,.z (.slice (.int .u32)) o],[]=>some (Cano m/\Cano o/\m.length+o.length<CAP,[.z (.int .i64) (bq (valL m) (valL o))],[])
 |_,_=>none
theorem w6{B:av}(hB:bc B):Valid B prog 138 e9:=by
 refine bh (IF hB).tab func138 rfl rfl rfl ?_;intro args os C rs os' hc hC;unfold e9 at hc;split at hc;case h_2=>cases hc
 rename_i m o;cases hc;refine v_h (IF hB) fun X hP hT hr hG=>?_;have hU:=CJ.eq_1;unfold CJ at hT;have hX:=ai @cx<|ai @vz.eq_1<| @CF.eq_1;simp only[f138,aD,af,ioB];refine s_g hG ?_;refine al (s_g hG ?_);refine s_g hG ?_;refine bw ?_ ?_
 ·intro hb0;try simp only[bt] at hb0
  refine s_g hG ?_;refine aK (aO (q_e [] ?_));exact cmp_lens hC.1 hC.2.1 hb0
 ·intro hb0;try simp only[decide_eq_true_eq,decide_eq_false_iff_not,bne_eq_false_iff_eq] at hb0
  obtain⟨c1,c2,c3⟩:=hC;have c3:If m+If o<1000000000000:=c3;have hl:If m=If o:=by have:=lI.1 hb0;omega
  refine aC (ag (al (s_g hG ?_)));refine au (bM (fun(z:Nat)=>(⟨[(0,.l (.z (.slice (.int .u32)) m)),(1,.l (.z (.slice (.int .u32)) o)),(6,.l (.z (.int .i64) ((z:Int)-1)))],[]⟩:aa)) (fun z=>z<=If m/\OX z m=OX z o) (fun z=>z) (If m) ?_ ?_ ?_);·refine q_l ?_;exact wo
  ·exact⟨Oa _,by rw[List.drop_length,PB (by omega)]⟩
  ·rintro k ⟨g1,g2⟩;(try dsimp only at g1 g2);refine al (s_g hG ?_);refine bw ?_ ?_
   ·intro hb1;(try simp only[bt] at hb1);refine aC (ag (al (au (s_d hG ?_ ?_))))
    ·(try simp only[ba]);omega
    refine s_g hG ?_;refine bw ?_ ?_;·intro hb2;(try simp only[bt] at hb2);refine s_g hG ?_;refine aK (bn (aO (gJ (bn (aO (q_e [] ?_))))));obtain⟨j,rfl⟩:∃j,k=j+1:=⟨k-1,by omega⟩;(have hk:((j+1:Nat):Int)-1=(j:Int):=by omega);rw[hk] at hb2 ⊢;exact cmp_place (k:=j) c1 c2 hl (by omega) g2 hb2
    ·(intro hb2;(try simp only[bf] at hb2);refine aC (aR (ag (aU hG ?_ ?_)));·exact tt);refine qm ?_;(have hk:(k:Int)-1=((k-1:Nat):Int):=by omega);refine⟨k-1,by rw[hk,wo],by omega,?_,by omega⟩;refine drop_step (k:=k-1) hl (by omega) (by rw[show k-1+1=k by omega];exact g2) ?_;rw[hk] at hb2;exact lI.1 hb2
   ·intro hb1;(try simp only[bf] at hb1);refine bN (aQ (aI (aH (ag (s_g hG ?_)))));refine aK (q_e [] ?_);(have:k=0:=by omega);subst this;simp only[Oy] at g2;rw[g2];simp[bq]
def CK(B:av):Tab:={types:=[(2,(.int .i64)),(3,(.int .i64)),(78,(.slice (.int .u32))),(138,(.int .u32))],elems:=[(78,138)],cons:=[],hint:=[],N:=46,base:=B}
theorem IG{B:av}(hB:bc B):aV prog (CK B):=mg (T:=CK B) (tc ty2 (tc ty3 (tc iR (tc gb ah)))) (bo (by kernel_rfl) aj) (cZ rfl)
def w7:Con:=fun l os=>match l,os with
 | [.z (.slice (.int .u32)) m,.z (.slice (.int .u32)) o],[]=>some (Cano m/\Cano o/\valL o<=valL m/\m.length<CAP,[.z (.slice (.int .u32)) (padL (valL m-valL o).toNat m.length)],[])
 |_,_=>none
theorem Km{B:av}(hB:bc B):Valid B prog 178 w7:=by
 refine bh (IG hB).tab func178 rfl rfl rfl ?_;intro args os C rs os' hc hC;unfold w7 at hc;split at hc;case h_2=>cases hc
 rename_i m o;cases hc;refine v_h (IG hB) fun X hP hT hr hG=>?_;have hU:=CK.eq_1;unfold CK at hT;have hX:=Pv;simp only[f178,aD,af,ioB];refine s_g hG ?_;refine s_q hG ?_ ?_
 ·try simp only[ba]
  exact⟨by omega,by omega,by have:If m<1000000000000:=hC.2.2.2;unfold Cm.Roomy;omega⟩
 refine s_g hG ?_;refine al (s_g hG ?_);refine au (bM (fun(z:Nat×Int×List Int)=>(⟨[(1,.l (.z (.slice (.int .u32)) o)),(5,.l (.ownS 12)),(6,.l (.z (.int .i64) z.2.1)),(13,.l (.z (.slice (.int .u32)) m)),(14,.l (.z (.int .i64) (If m:Int))),(15,.l (.z (.int .i64) (z.1:Int)))],[(12,.arr (.int .u32) 138 z.2.2)]⟩:aa)) (fun z=>z.1<=If m/\z.2.2.length=z.1/\Lim z.2.2/\0<=z.2.1/\z.2.1<=1/\valL z.2.2+valL (OM z.1 o)=valL (OM z.1 m)+LB^z.1*z.2.1) (fun z=>If m-z.1) (0,0,[]) ?_ ?_ ?_);·refine q_l ?_;exact⟨rfl,rfl⟩
 ·simp[Lim,valL]
 ·rintro⟨k,b,out⟩ ⟨g1,g2,g3,g4,g5,g6⟩;try dsimp only at g1 g2 g3 g4 g5 g6
  obtain⟨c1,c2,c3,c4⟩:=hC;have c4:If m<1000000000000:=c4;have hx:=c1.1.getD k;have hy:=c2.1.getD k;have hB:LB=1000000000:=rfl;refine s_g hG ?_;refine al (bw ?_ ?_)
  ·intro hb0;(try simp only[bt] at hb0);refine aC (ag (al (au (s_q hG ?_ ?_))))
   ·(try simp only[ba]);exact⟨by omega,by omega⟩
   refine s_g hG ?_;refine fz (fun(z:Int)=>(⟨[(1,.l (.z (.slice (.int .u32)) o)),(5,.l (.ownS 12)),(9,.l (.z (.int .i64) z)),(13,.l (.z (.slice (.int .u32)) m)),(14,.l (.z (.int .i64) (If m:Int))),(15,.l (.z (.int .i64) (k:Int)))],[(12,.arr (.int .u32) 138 out)]⟩:aa)) (fun z=>z=PY m k 0-b-PY o k 0) ?_ ?_
   ·refine s_g hG ?_;refine bw ?_ ?_
    ·intro hb1;(try simp only[bt] at hb1);refine aU hG ?_ ?_
     ·(try simp only[ba]);exact⟨by omega,by omega⟩
     refine qm ?_;rw[fO,wi (x:=PY m k 0) (by omega) (by omega),wi (x:=PY m k 0-b) (by omega) (by omega)];first|(rw[fO,wi (x:=PY o k 0) (by omega) (by omega)];exact wo)|(rw[sh (l:=o),OA (by omega)];simp)
    ·intro hb1;(try simp only[bf] at hb1);refine aC (qm ?_);rw[fO,wi (x:=PY m k 0) (by omega) (by omega),wi (x:=PY m k 0-b) (by omega) (by omega)];first|(rw[fO,wi (x:=PY o k 0) (by omega) (by omega)];exact wo)|(rw[sh (l:=o),OA (by omega)];simp)
   rintro n hn;(try dsimp only at hn);refine s_g hG ?_;refine fz (fun(z:Int×Int)=>(⟨[(1,.l (.z (.slice (.int .u32)) o)),(5,.l (.ownS 12)),(6,.l (.z (.int .i64) z.2)),(9,.l (.z (.int .i64) z.1)),(13,.l (.z (.slice (.int .u32)) m)),(14,.l (.z (.int .i64) (If m:Int))),(15,.l (.z (.int .i64) (k:Int)))],[(12,.arr (.int .u32) 138 out)]⟩:aa)) (fun z=>0<=z.1/\z.1<LB/\0<=z.2/\z.2<=1/\z.1-LB*z.2=n) ?_ ?_
   ·refine s_g hG ?_;refine bw ?_ ?_
    ·(intro hb2;(try simp only[bt] at hb2);refine aU hG ?_ ?_;·exact tt);refine qm ?_;first|(rw[wo];exact⟨by omega,by omega,by omega,by omega,by omega⟩)|exact⟨by omega,by omega,by omega,by omega,by omega⟩
    ·intro hb2;(try simp only[bf] at hb2);refine aC (qm ?_);first|(rw[wo];exact⟨by omega,by omega,by omega,by omega,by omega⟩)|exact⟨by omega,by omega,by omega,by omega,by omega⟩
   rintro⟨n2,b2⟩ hn2;(try dsimp only at hn2);refine aU hG ?_ ?_
   ·(try simp only[ba]);unfold Cm.Roomy;omega
   (refine aR (ag (aU hG ?_ ?_));·exact tt);refine qm ?_;obtain⟨hn1,hn2,hn3,hn4,hn5⟩:=hn2;rw[w32 hn1 (by omega)];obtain⟨q1,q2⟩:=minus_round (b:=b) g2 g3 g6 hn1 hn2 (b':=b2) (by omega);exact⟨k+1,by rw[wo];simp,by omega,by simp[g2],q1,hn3,hn4,q2,by omega⟩
  ·intro hb0;(try simp only[bf] at hb0);refine bN (aQ (aI (aH (ag (s_g hG ?_)))));refine aK (q_e [] ?_);(have hk:k=If m:=by omega);subst hk;exact minus_end c1 c2 c3 g2 g3 g4 (by rw[OD] at g6;exact g6)
def CL(B:av):Tab:={types:=[(3,(.int .i64)),(4,.bool),(78,(.slice (.int .u32))),(80,tyW)],elems:=[],cons:=[(138,e9),(140,ew),(177,Cw),(178,w7)],hint:=[],N:=42,base:=B}
theorem IH{B:av}(hB:bc B):aV prog (CL B):=mg (T:=CL B) (tc ty3 (tc ty4 (tc iR (tc fZ ah)))) aj (aM (cc func138 (w6 hB) (cc func140 (kj hB) (cc func177 (Ki hB) (cc func178 (Km hB) aF)))))
def zd:Con:=fun l os=>match l,os with
 | [.z (.st (.pair .bool (.slice (.int .u32)))) x,.z (.st (.pair .bool (.slice (.int .u32)))) y],[]=>some (WOK x/\WOK y/\x.2.length+y.2.length<CAP,[.z tyW (enc (dec x+dec y))],[])
 |_,_=>none
theorem w8{B:av}(hB:bc B):Valid B prog 136 zd:=by
 refine bh (IH hB).tab func136 rfl rfl rfl ?_;intro args os C rs os' hc hC;unfold zd at hc;split at hc;case h_2=>cases hc
 rename_i x y;cases hc;refine v_h (IH hB) fun X hP hT hr hG=>?_;have hU:=CL.eq_1;unfold CL at hT;have hX:=ai @cx<|ai @e9.eq_1<|ai @w7.eq_1<|ai @Cw.eq_1<| @ew.eq_1;simp only[f136,aD,af,ioB];refine s_g hG ?_;refine al (au (s_g hG ?_));refine bw ?_ ?_
 ·intro hb0;try simp only[bt] at hb0
  refine s_d hG ?_ ?_
  ·(try simp only[ba]);obtain⟨c1,c2,c3⟩:=hC;exact⟨⟨c1.1,c2.1,c3⟩,(limbs_can _).1,PP (plus_len c1.1 c2.1) c3⟩
  refine aK (bn (aO (q_e [] ?_)));exact add_same hC.1 hC.2.1 hb0
 ·intro hb0;try simp only[bf] at hb0
  refine s_q hG ?_ ?_
  ·(try simp only[ba]);obtain⟨c1,c2,c3⟩:=hC;exact⟨c1.1,c2.1,c3⟩
  refine bw ?_ ?_
  ·intro hb1;(try simp only[bt] at hb1);refine s_d hG ?_ ?_
   ·(try simp only[ba]);obtain⟨c1,c2,c3⟩:=hC;rw[nq] at hb1;exact⟨⟨c2.1,c1.1,by omega,by omega⟩,padL_lim _ _,by rw[padL_len];omega⟩
   refine aK (bn (aO (q_e [] ?_)));rw[nq] at hb1;rw[xJ (fun e=>hb0 e.symm) (minus_val hC.2.1.1 hC.1.1 (by omega)),RY]
  ·intro hb1;(try simp only[bf] at hb1);refine aC (aR (ag (s_d hG ?_ ?_)))
   ·(try simp only[ba]);obtain⟨c1,c2,c3⟩:=hC;rw[nq] at hb1;exact⟨⟨c1.1,c2.1,by omega,by omega⟩,padL_lim _ _,by rw[padL_len];omega⟩
   refine aK (q_e [] ?_);rw[nq] at hb1;exact xJ hb0 (minus_val hC.1.1 hC.2.1.1 (by omega))
def CM(B:av):Tab:={types:=[(80,tyW)],elems:=[],cons:=[(136,zd),(155,zc)],hint:=[],N:=9,base:=B}
theorem II{B:av}(hB:bc B):aV prog (CM B):=mg (T:=CM B) (tc fZ ah) aj (aM (cc func136 (w8 hB) (cc func155 (wY hB) aF)))
def Kn:Con:=fun l os=>match l,os with
 | [.z (.st (.pair .bool (.slice (.int .u32)))) x,.z (.st (.pair .bool (.slice (.int .u32)))) y],[]=>some (WOK x/\WOK y/\x.2.length+y.2.length<CAP,[.z tyW (enc (dec x-dec y))],[])
 |_,_=>none
theorem Ko{B:av}(hB:bc B):Valid B prog 141 Kn:=by
 refine bh (II hB).tab func141 rfl rfl rfl ?_;intro args os C rs os' hc hC;unfold Kn at hc;split at hc;case h_2=>cases hc
 rename_i x y;cases hc;refine v_h (II hB) fun X hP hT hr hG=>?_;have hU:=CM.eq_1;unfold CM at hT;have hX:=ai @cx<|ai @zd.eq_1<| @zc.eq_1;simp only[f141,aD,af,ioB];refine s_g hG ?_;refine s_d hG ?_ ?_
 ·try simp only[ba]
  obtain⟨c1,c2,c3⟩:=hC;exact⟨⟨c2.1.1,by omega⟩,c1,enc_ok _,by rw[I6 c2];exact c3⟩
 refine aK (q_e [] ?_);rw[bG];rfl
def CN(B:av):Tab:={types:=[(3,(.int .i64)),(4,.bool),(78,(.slice (.int .u32))),(80,tyW),(138,(.int .u32)),(190,(.int .u64))],elems:=[(78,138)],cons:=[(140,ew)],hint:=[],N:=79,base:=B}
theorem IJ{B:av}(hB:bc B):aV prog (CN B):=mg (T:=CN B) (tc ty3 (tc ty4 (tc iR (tc fZ (tc gb (tc nB ah)))))) (bo (by kernel_rfl) aj) (aM (cc func140 (kj hB) aF))
def tU:Con:=fun l os=>match l,os with
 | [.z (.st (.pair .bool (.slice (.int .u32)))) x,.z (.st (.pair .bool (.slice (.int .u32)))) y],[]=>some (WOK x/\WOK y/\x.2.length+y.2.length<CAP,[.z tyW (enc (dec x*dec y))],[])
 |_,_=>none
theorem qx{B:av}(hB:bc B):Valid B prog 87 tU:=by
 refine bh (IJ hB).tab func87 rfl rfl rfl ?_;intro args os C rs os' hc hC;unfold tU at hc;split at hc;case h_2=>cases hc
 rename_i x y;cases hc;refine v_h (IJ hB) fun X hP hT hr hG=>?_;have hU:=CN.eq_1;unfold CN at hT;have hX:=ai @cx<| @ew.eq_1;simp only[f87,aD,af,ioB];refine s_g hG ?_;refine s_q hG ?_ ?_
 ·try simp only[ba]
  have c3:If x.2+If y.2<1000000000000:=hC.2.2;rw[wo];exact⟨by omega,by omega,by unfold Cm.Roomy;omega⟩
 refine al (s_g hG ?_);refine au (bM (fun(z:Nat×List Int)=>(⟨[(2,.l (.z (.ptr tyW) x)),(3,.l (.z (.ptr tyW) y)),(4,.l (.ownP 4 0)),(5,.l (.ownS 19)),(21,.l (.z (.slice (.int .u32)) x.2)),(22,.l (.z (.int .i64) (If x.2:Int))),(23,.l (.z (.int .i64) (z.1:Int)))],[(19,.arr (.int .u32) 138 z.2),(4,.box 80 [.z .bool false,.val (.slice none 0 0)])]⟩:aa)) (fun z=>z.1<=If x.2/\z.2.length=If x.2+If y.2/\Lim z.2/\valL z.2=valL (OM z.1 x.2)*valL y.2/\∀j,z.1+If y.2<=j->z.2.getD j 0=0) (fun z=>If x.2-z.1) (0,N6 (If x.2+If y.2) 0) ?_ ?_ ?_);·refine q_l ?_;have c3:If x.2+If y.2<1000000000000:=hC.2.2;rw[wo];exact⟨rfl,by congr 1⟩
 ·obtain⟨r1,r2,r3⟩:=replicate_zero (If x.2+If y.2);exact⟨by simp,by simp,r1,by simp[r2,valL],fun j _=>r3 j⟩
 ·rintro⟨i,out⟩ ⟨g1,g2,g3,g4,g5⟩;try dsimp only at g1 g2 g3 g4 g5
  obtain⟨c1,c2,c3⟩:=hC;have c3:If x.2+If y.2<1000000000000:=c3;have hB:LB=1000000000:=rfl;refine s_g hG ?_;refine al (bw ?_ ?_)
  ·intro hb0;(try simp only[bt] at hb0);refine aC (ag (al (au (s_q hG ?_ ?_))))
   ·(try simp only[ba]);omega
   (refine s_g hG ?_;refine al (s_g hG ?_);refine au (bM (fun(z:Nat×Int×List Int)=>(⟨[(2,.l (.z (.ptr tyW) x)),(3,.l (.z (.ptr tyW) y)),(4,.l (.ownP 4 0)),(5,.l (.ownS 19)),(6,.l (.z (.int .i64) (i:Int))),(7,.l (.z (.int .u32) (PY x.2 i 0))),(8,.l (.z (.int .u64) z.2.1)),(21,.l (.z (.slice (.int .u32)) x.2)),(22,.l (.z (.int .i64) (If x.2:Int))),(23,.l (.z (.int .i64) (i:Int))),(29,.l (.z (.slice (.int .u32)) y.2)),(30,.l (.z (.int .i64) (If y.2:Int))),(31,.l (.z (.int .i64) (z.1:Int)))],[(19,.arr (.int .u32) 138 z.2.2),(4,.box 80 [.z .bool false,.val (.slice none 0 0)])]⟩:aa)) (fun z=>z.1<=If y.2/\z.2.2.length=If x.2+If y.2/\Lim z.2.2/\0<=z.2.1/\z.2.1<LB/\valL z.2.2+LB^(i+z.1)*z.2.1=valL (OM i x.2)*valL y.2+LB^i*(PY x.2 i 0*valL (OM z.1 y.2))/\∀j,i+If y.2<=j->z.2.2.getD j 0=0) (fun z=>If y.2-z.1) (0,0,out) ?_ ?_ ?_);·refine q_l ?_;exact⟨rfl,rfl⟩);·exact⟨by simp,g2,g3,by simp,by simp;decide,by simp[valL,g4],g5⟩
   ·rintro⟨k,c,out2⟩ ⟨k1,k2,k3,k4,k5,k6,k7⟩;(try dsimp only at k1 k2 k3 k4 k5 k6 k7);(have e1:IN.wrap ((i:Int)+(k:Int))=((i+k:Nat):Int):=by rw[wo];omega);refine s_g hG ?_;refine al (bw ?_ ?_)
    ·intro hb1;(try simp only[bt] at hb1);refine aC (ag (al (au (s_q hG ?_ ?_))))
     ·(try simp only[ba]);omega
     refine fz (fun(z:Int)=>(⟨[(2,.l (.z (.ptr tyW) x)),(3,.l (.z (.ptr tyW) y)),(4,.l (.ownP 4 0)),(5,.l (.ownS 19)),(6,.l (.z (.int .i64) (i:Int))),(7,.l (.z (.int .u32) (PY x.2 i 0))),(9,.l (.z (.int .i64) (k:Int))),(11,.l (.z (.int .u64) z)),(21,.l (.z (.slice (.int .u32)) x.2)),(22,.l (.z (.int .i64) (If x.2:Int))),(23,.l (.z (.int .i64) (i:Int))),(29,.l (.z (.slice (.int .u32)) y.2)),(30,.l (.z (.int .i64) (If y.2:Int))),(31,.l (.z (.int .i64) (k:Int)))],[(19,.arr (.int .u32) 138 out2),(4,.box 80 [.z .bool false,.val (.slice none 0 0)])]⟩:aa)) (fun z=>z=PY x.2 i 0*PY y.2 k 0+out2.getD (i+k) 0+c) ?_ ?_
     ·refine aU hG ?_ ?_
      ·(try simp only[ba]);rw[e1];omega
      refine qm ?_;rw[e1];exact ML (c1.1.1.getD i) (c2.1.1.getD k) (k3.getD (i+k)) ⟨k4,k5⟩
     rintro n hn;(try dsimp only at hn);refine aU hG ?_ ?_
     ·(try simp only[ba]);rw[e1];omega
     (refine aR (ag (aU hG ?_ ?_));·exact tt);refine qm ?_;obtain⟨m0,m1,m2,m3,m4,m5,m6,m7⟩:=mul_step c1.1.1 c2.1.1 k2 k3 k4 k5 (by omega) (by omega) k6 k7 hn;obtain⟨t1,t2,t3⟩:=ov m0 m1;rw[e1,t2,t3,Od];exact⟨k+1,by rw[wo];simp,by omega,m2,m3,m4,m5,m6,m7,by omega⟩
    ·intro hb1;(try simp only[bf] at hb1);refine bN (aQ (aI (aH (ag (aU hG ?_ ?_)))))
     ·(try simp only[ba]);rw[wo];omega
     (refine aR (ag (aU hG ?_ ?_));·exact tt);refine qm ?_;(have e1:IN.wrap ((i:Int)+(If y.2:Int))=((i+If y.2:Nat):Int):=by rw[wo];omega);(have hk:k=If y.2:=by omega);subst hk;rw[OD] at k6;obtain⟨f1,f2,f3,f4⟩:=mul_row k2 k3 k4 k5 (by omega) rfl k6 k7;rw[e1,w32 k4 (by omega),Od];exact⟨i+1,by rw[wo];simp,by omega,f1,f2,f3,f4,by omega⟩
  ·intro hb0;(try simp only[bf] at hb0);refine bN (aQ (aI (aH (ag (s_q hG ?_ ?_)))))
   ·(try simp only[ba]);exact⟨g3,by unfold CAP;omega⟩
   refine aK (q_e [] ?_);(have hi:i=If x.2:=by omega);subst hi;rw[OD] at g4;rw[<- I7 g4]
def KZ(B:av):Tab:=mT B [(3,(.int .i64)),(9,.str)] [] [] [] 18
def w9:Con:=c2 .str .str (fun s p=>True) (fun s p=>[.z .bool (eu s p)])
theorem Kq{B:av}(hB:bc B):Valid B prog 212 w9:=by
 refine v2 (mg (T:=KZ B) (tc ty3 (tc ty9 ah)) aj (cZ rfl)) func212 ?_;intro s p hC X hP hT hr hG;have hX:=ai KZ.eq_1<|cx;simp only[f212,aD,af,ioB];refine sg ?_;refine sq ?_ ?_
 ·(repeat' (first|apply And.intro|intro _))<;>(try simp only[decide_eq_true_eq,decide_eq_false_iff_not,Pc,beq_iff_eq,Od] at*)<;>first|assumption|omega|trivial|(simp_all;done)|(simp_all;omega)
 refine aK (qe [] ?_);exact D7 s p
def K0(B:av):Tab:=mT B [(9,.str)] [] [(212,w9)] [] 13
def gN:Con:=c2 .str .str (fun s p=>True) (fun s p=>[.z .str (ay s p)])
theorem Kr{B:av}(hB:bc B):Valid B prog 199 gN:=by
 refine v2 (mg (T:=K0 B) (tc ty9 ah) aj (aM (cc func212 (Kq hB) aF))) func199 ?_;intro s p hC X hP hT hr hG;have hX:=ai K0.eq_1<|ai cx<|w9.eq_1;simp only[f199,aD,af,ioB];refine sg ?_;refine al (sg ?_);refine qc ?_ ?_
 ·intro hb0;refine sq ?_ ?_;·have h:=hb0;unfold eu at h;simp only[N9,decide_eq_true_eq] at h;exact⟨by omega,by omega,by omega⟩
  refine aK (aO (qe [] ?_));simp[ay,hb0]
 ·intro hb0;refine aC (ag (sg ?_));refine aK (qe [] ?_);simp[ay,hb0]
def K2(B:av):Tab:=mT B [(9,.str)] [] [(199,gN)] [] 8
theorem CO{B:av}(hB:bc B):Valid B prog 174 gN:=by
 refine v2 (mg (T:=K2 B) (tc ty9 ah) aj (aM (cc func199 (Kr hB) aF))) func174 ?_;intro s p hC X hP hT hr hG;have hX:=ai K2.eq_1<|ai cx<|gN.eq_1;simp only[f174,aD,af,ioB];refine sg ?_;refine sg ?_;refine aK (qe [] ?_);trivial
def K3(B:av):Tab:=mT B [(78,(.slice (.int .u32)))] [] [] [] 4
def ze:Con:=c1 (.slice (.int .u32)) (fun xs=>True) (fun xs=>[.fn 219 [.z (.ptr (.slice (.int .u32))) xs]])
theorem CP{B:av}(hB:bc B):Valid B prog 204 ze:=by
 refine v1 (mg (T:=K3 B) (tc iR ah) aj (cZ rfl)) func204 ?_;intro xs hC X hP hT hr hG;have hX:=ai K3.eq_1<|cx;simp only[f204,aD,af,ioB];refine sg ?_;refine sg ?_;refine aK (qe [] ?_);rfl
def K4(B:av):Tab:=mT B [(3,(.int .i64)),(4,.bool),(78,(.slice (.int .u32))),(80,tyW)] [] [(73,pT),(137,vz),(138,e9)] [] 32
def IK:Con:=c2 tyW tyW (fun x y=>WOK x/\WOK y/\x.2.length+y.2.length<CAP) (fun x y=>[.z (.int .i64) (bq (dec x) (dec y))])
theorem CQ{B:av}(hB:bc B):Valid B prog 72 IK:=by
 refine v2 (mg (T:=K4 B) (tc ty3 (tc ty4 (tc iR (tc fZ ah)))) aj (aM (cc func73 (wZ hB) (cc func137 (CD hB) (cc func138 (w6 hB) aF))))) func72 ?_;intro x y hC X hP hT hr hG;have hX:=ai K4.eq_1<|ai cx<|ai vz.eq_1<|ai e9.eq_1<|pT.eq_1;simp only[f72,aD,af,ioB];refine sg ?_;refine al (sd ?_ ?_);·exact⟨hC.1,hC.2.1⟩
 refine sq ?_ ?_
 ·(repeat' (first|apply And.intro|intro _))<;>(try simp only[decide_eq_true_eq,decide_eq_false_iff_not,Pc,beq_iff_eq,Od] at*)<;>first|assumption|omega|trivial|(simp_all;done)|(simp_all;omega)
 refine qc ?_ ?_;·intro hb0;refine sg ?_;refine aK (aO (qe [] ?_));exact D9 hC.1 hb0
 ·intro hb0;refine aC (ag (al (sg ?_)));refine qc ?_ ?_
  ·(intro hb1;refine sq ?_ ?_;·exact⟨hC.2.1.1,hC.1.1,by omega⟩);refine aK (aO (qe [] ?_));exact(rC hC.1 hC.2.1 hb0).1 hb1
  ·(intro hb1;refine aC (ag (sq ?_ ?_));·exact⟨hC.1.1,hC.2.1.1,by omega⟩);refine aK (qe [] ?_);exact(rC hC.1 hC.2.1 hb0).2 hb1
def K5(B:av):Tab:=mT B [(3,(.int .i64)),(9,.str),(78,(.slice (.int .u32))),(80,tyW),(138,(.int .u32))] [] [(100,BF)] [] 22
def nT:Con:=c1 tyW (fun x=>WOK x/\x.2.length<CAP) (fun x=>[.z (.int .i64) (eV (dec x))])
theorem CR{B:av}(hB:bc B):Valid B prog 44 nT:=by
 refine v1 (mg (T:=K5 B) (tc ty3 (tc ty9 (tc iR (tc fZ (tc gb ah))))) aj (aM (cc func100 (I9 hB) aF))) func44 ?_;intro x hC X hP hT hr hG;have hX:=ai K5.eq_1<|ai cx<|BF.eq_1;simp only[f44,aD,af,ioB];refine sg ?_;refine sg ?_;refine al (sg ?_);refine qc ?_ ?_;·intro hb0;refine sg ?_;refine aK (aO (qe [] ?_));rw[(fP hC.1).1.1 hb0,uy]
 ·intro hb0;refine aC (ag (sq ?_ ?_));·obtain⟨d1,d2,d3,d4⟩:=xO hC.1 hC.2 hb0;have d5:=xN hC.1.1.1 (by omega);have hB:LB=1000000000:=rfl;rw[d2,d3];exact⟨d1,by unfold I64;omega⟩
  refine aK (qe [] ?_);obtain⟨d1,d2,d3,d4⟩:=xO hC.1 hC.2 hb0;rw[d2,d3];exact d4
def K6(B:av):Tab:=mT B [(3,(.int .i64)),(78,(.slice (.int .u32))),(80,tyW),(138,(.int .u32)),(190,(.int .u64))] [(78,138)] [] [] 27
def kk:Con:=c1 (.int .i64) (fun n=>I64 n) (fun n=>[.z tyW (enc n)])
theorem qy{B:av}(hB:bc B):Valid B prog 133 kk:=by
 refine v1 (mg (T:=K6 B) (tc ty3 (tc iR (tc fZ (tc gb (tc nB ah))))) (bo (by kernel_rfl) aj) (cZ rfl)) func133 ?_;intro n hC X hP hT hr hG;have hX:=ai K6.eq_1<|cx;simp only[f133,aD,af,ioB];refine sg ?_;refine sg ?_;refine sg ?_;refine fz (fun(z:Int)=>(⟨[(4,.l (.z (.int .u64) z)),(3,.l (.ownP 3 0)),(2,.l (.ownP 2 0))],[(3,.box 80 [.z .bool (decide (n<0)),.val (.slice none 0 0)]),(2,.box 80 [.z .bool false,.val (.slice none 0 0)])]⟩:aa)) (fun z=>z=n.natAbs) ?_ ?_
 ·refine sg ?_;refine qc ?_ ?_;·intro hb0;refine rg ?_;refine qm ?_;first|exact(lJ hC).1 hb0|exact(lJ hC).2 hb0
  ·intro hb0;refine aC (qm ?_);first|exact(lJ hC).1 hb0|exact(lJ hC).2 hb0
 rintro z hz;try dsimp only at hz
 refine al (au (bM (fun(z:Nat×List Int)=>(⟨[(4,.l (.z (.int .u64) (z.1:Int))),(3,.l (.ownP 3 0)),(2,.l (.ownP 2 0))],[(3,.box 80 [.z .bool (decide (n<0)),.ownS 24]),(24,.arr (.int .u32) 138 z.2),(2,.box 80 [.z .bool false,.val (.slice none 0 0)])]⟩:aa)) (fun z=>z.2++limbs z.1=limbs n.natAbs/\z.1<18446744073709551616) (fun z=>z.1) (n.natAbs,[]) ?_ ?_ ?_));·refine q_l ?_;exact⟨hz,by unfold ioB;omega⟩
 ·exact⟨by simp,by have hC:I64 n:=hC;unfold I64 at hC;omega⟩
 ·rintro⟨u,m⟩ ⟨g1,g2⟩;try dsimp only at g1 g2
  refine al (sg ?_);refine qc ?_ ?_
  ·(intro hb1;refine aC (ag (al (au (rq ?_ ?_))));·have h3:=mq (n:=n.natAbs) (by have hC:I64 n:=hC;unfold I64 at hC;omega);have h4:=congrArg If g1;simp only[Ol] at h4;exact⟨by omega,by unfold Cm.Roomy;omega⟩);refine aR (ag (rg ?_));refine qm ?_;exact pE g1 g2 hb1
  ·intro hb1;refine bN (aQ (aI (aH (ag (sg ?_)))));refine aK (qe [24] ?_);(have h0:u=0:=by omega);subst h0;rw[show limbs 0=[] by simp[limbs],Pr] at g1;rw[g1];rfl
def s8(B:av):Tab:={types:=[(78,(.slice (.int .u32))),(138,(.int .u32)),(190,(.int .u64))],elems:=[(78,138)],cons:=[(204,ze)],hint:=[],N:=38,base:=B}
theorem IL{B:av}(hB:bc B):aV prog (s8 B):=mg (T:=s8 B) (tc iR (tc gb (tc nB ah))) (bo (by kernel_rfl) aj) (aM (cc func204 (CP hB) aF))
def s9:Con:=c2 (.slice (.int .u32)) (.int .u32) (fun m b=>Lim m/\xR b/\m.length<CAP) (fun m b=>[.z (.slice (.int .u32)) (padL (valL m/b).toNat m.length),.z (.int .u32) (valL m%b)])
theorem Ks{B:av}(hB:bc B):Valid B prog 181 s9:=by
 refine bh (IL hB).tab func181 rfl rfl rfl ?_;intro args os C rs os' hc hC;obtain⟨m,b,rfl,rfl,rfl,rfl,rfl⟩:=mC hc;refine v_h (IL hB) fun X hP hT hr hG=>?_;have hU:=s8.eq_1;unfold s8 at hT;have hX:=ai @cx<| @ze.eq_1;simp only[f181,aD,af,ioB];refine s_g hG ?_;refine s_q hG ?_ ?_
 ·try simp only[ba]
  exact⟨by omega,by omega,by have:=hC.2.2;unfold CAP at this;unfold Cm.Roomy;omega⟩
 refine s_g hG ?_;refine al (s_g hG ?_);refine au (Bz hr (gf:=219) (caps:=[.z (.ptr (.slice (.int .u32))) m]) (items:=cW m) (by simp only[hT,s8,mx0,mx1,mx2,mx3,mx4,mx5,mx6,mT,effOp,endCall,callOp,appendOp,sliceLV,Ty.fieldTy,Ty.fieldOf,N8,AS,IT,N3,No,AT,N4,N5,reduceIte,reduceDIte,reduceCtorEq];try rfl) (by rfl) (by rw[hP];exact yx m) (by rfl) [3,6,7] (by rfl) (by simp only[hT,s8];try rfl) (fun(k:Nat) (z:Int×List Int)=>(⟨[(3,.l (.z (.ptr (.int .u32)) b)),(6,.l (.ownP 6 0)),(7,.l (.ownP 7 0))],[(6,.box 78 [.ownS 13]),(7,.box 190 [.z (.int .u64) z.1]),(13,.arr (.int .u32) 138 z.2)]⟩:aa)) (fun(k:Nat) (z:Int×List Int)=>kQ m b k z.1 z.2) (0,N6 (If m) 0) ?_ ?_ ?_ ?_ ?_);·simp only[ml0,ml1,N8,AS,IT,N3,No,AT,N4,N5,reduceIte,reduceDIte,reduceCtorEq];simp
 ·exact xT hC.2.1
 ·intro k z;rfl
 ·intro k hk;rintro⟨r,out⟩ hz;try dsimp only at hz
  have hk:k<If m:=by simpa [cW] using hk
  refine⟨_,by simp only[hT,s8,cW,sB,mx0,mx1,mx2,mx3,mx4,mx5,mx6,mT,effOp,endCall,callOp,appendOp,sliceLV,Ty.fieldTy,Ty.fieldOf,N8,AS,IT,N3,No,AT,N4,N5,reduceIte,reduceDIte,reduceCtorEq,Qa,P4];rfl,?_⟩;intro X' hP' hT';have hG':aV X'.P X'.T:=by rw[hP',hT'];exact hG.keep _
  rw[hT] at hT';refine au (al (fB hG' ?_ ?_));·exact tt
  refine ag (wa hG' ?_ ?_)
  ·(try simp only[ba]);have hl:=hz.1;exact⟨BK hC.2.1,BK hC.2.1,by omega,by omega⟩
  refine aR ?_;show ∃z,_;simp only[ml0,ml1,N8,AS,IT,N3,No,AT,N4,N5,reduceIte,reduceDIte,reduceCtorEq];exact z6 hC.1 hC.2.1 hk hz
 ·rintro⟨r,out⟩ hz;try dsimp only at hz
  rw[show If (cW m)=If m by simp[cW]] at hz;refine aR (ag (s_d hG ?_ ?_));·exact tt
  refine aK (q_e [13] ?_);exact Ed hC.1 hC.2.1 hz
def K7(B:av):Tab:=mT B [(3,(.int .i64)),(78,(.slice (.int .u32))),(138,(.int .u32)),(190,(.int .u64))] [(78,138)] [] [] 41
def nU:Con:=c2 (.slice (.int .u32)) (.int .u32) (fun m b=>Lim m/\xS b/\m.length<CAP) (fun m b=>[.own (.int .u32) 138 (padL (valL m*b).toNat (m.length+1))])
theorem Kt{B:av}(hB:bc B):Valid B prog 182 nU:=by
 refine v2 (mg (T:=K7 B) (tc ty3 (tc iR (tc gb (tc nB ah)))) (bo (by kernel_rfl) aj) (cZ rfl)) func182 ?_;intro m b hC X hP hT hr hG;have hX:=ai K7.eq_1<|cx;simp only[f182,aD,af,ioB];refine sg ?_;refine sq ?_ ?_;·have h1:If m<1000000000000:=hC.2.2;rw[wo];exact⟨by omega,by omega,by unfold Cm.Roomy;omega⟩
 refine sg ?_;refine al (sg ?_);refine au (bM (fun(z:Nat×Int×List Int)=>(⟨[(1,.l (.z (.int .u32) b)),(5,.l (.ownS 13)),(6,.l (.z (.int .u64) z.2.1)),(14,.l (.z (.slice (.int .u32)) m)),(15,.l (.z (.int .i64) (If m:Int))),(16,.l (.z (.int .i64) (z.1:Int)))],[(13,.arr (.int .u32) 138 z.2.2)]⟩:aa)) (fun z=>jD m b z.1 z.2.1 z.2.2) (fun z=>If m-z.1) (0,0,[]) ?_ ?_ ?_);·refine q_l ?_;exact⟨rfl,rfl⟩
 ·exact wg
 ·rintro⟨k,c,out⟩ hz;try dsimp only at hz
  refine sg ?_;refine al (qc ?_ ?_)
  ·(intro hb0;refine aC (ag (al (au (sq ?_ ?_))));·exact⟨by omega,hb0⟩);refine sg ?_;refine rq ?_ ?_;·have h1:If m<1000000000000:=hC.2.2;have h2:=hz.2.1;exact⟨by decide,by unfold Cm.Roomy;omega,by decide⟩
   refine aR (ag (rg ?_));refine qm ?_;exact xU hC.1 hC.2.2 hC.2.1 hb0 hz
  ·(intro hb0;refine bN (aQ (aI (aH (ag (sq ?_ ?_)))));·have h1:If m<1000000000000:=hC.2.2;have h2:=hz.2.1;have h3:=hz.1;unfold Cm.Roomy;omega);refine aK (qe [] ?_);exact⟨trivial,z7 hC.1 hC.2.1 hb0 hz⟩
def CS(B:av):Tab:={types:=[(2,(.int .i64)),(3,(.int .i64)),(78,(.slice (.int .u32))),(138,(.int .u32)),(190,(.int .u64))],elems:=[],cons:=[],hint:=[],N:=57,base:=B}
theorem IM{B:av}(hB:bc B):aV prog (CS B):=mg (T:=CS B) (tc ty2 (tc ty3 (tc iR (tc gb (tc nB ah))))) aj (cZ rfl)
def vA:Con:=fun l os=>match l,os with
 | [.ownS 10000000,.z (.slice (.int .u32)) o,.z (.int .u64) q],[.win (.int .u32) 138 pre xs []]=>some (Lim xs/\Lim o/\xS q/\o.length+1<=xs.length/\o.length<CAP,[.z .bool (decide (valL (xs.take (o.length+1))<q*valL o))],[.win (.int .u32) 138 pre (put xs (o.length+1) (valL (xs.take (o.length+1))-q*valL o)) []])
 |_,_=>none
theorem Ku{B:av}(hB:bc B):Valid B prog 183 vA:=by
 refine bh (IM hB).tab func183 rfl rfl rfl ?_;intro args os C rs os' hc hC;unfold vA at hc;split at hc;case h_2=>cases hc
 rename_i o q pre xs;cases hc;refine v_h (IM hB) fun X hP hT hr hG=>?_;have hU:=CS.eq_1;unfold CS at hT;have hX:=Pv;simp only[f183,aD,af,ioB];refine s_g hG ?_;refine s_g hG ?_;refine al (s_g hG ?_);refine au (bM (fun(z:Nat×Int×Int×List Int)=>(⟨[(0,.l (.ownS 10000000)),(1,.l (.z (.slice (.int .u32)) o)),(2,.l (.z (.int .u64) q)),(7,.l (.z (.int .u64) z.2.1)),(8,.l (.z (.int .i64) z.2.2.1)),(14,.l (.z (.int .i64) ((If o+1:Nat):Int))),(15,.l (.z (.int .i64) (z.1:Int)))],[(10000000,.win (.int .u32) 138 pre z.2.2.2 [])]⟩:aa)) (fun z=>jX xs o q z.1 z.2.1 z.2.2.1 z.2.2.2) (fun z=>If o+1-z.1) (0,0,0,xs) ?_ ?_ ?_);·refine q_l ?_;exact⟨wi (by omega) (by have:If o<1000000000000:=hC.2.2.2.2;omega),rfl⟩
 ·exact Aa hC.1
 ·rintro⟨i,c,b,ys⟩ hz;try dsimp only at hz
  have hl:=hz.2.1;have hlen:=hC.2.2.2.1;refine s_g hG ?_;refine al (bw ?_ ?_)
  ·intro hb0;(try simp only[bt] at hb0);refine aC (ag (al (au (s_g hG ?_))));refine s_g hG ?_;refine fz (fun(z:Int)=>(⟨[(0,.l (.ownS 10000000)),(1,.l (.z (.slice (.int .u32)) o)),(2,.l (.z (.int .u64) q)),(8,.l (.z (.int .i64) b)),(9,.l (.z (.int .i64) (i:Int))),(10,.l (.z (.int .u64) z)),(14,.l (.z (.int .i64) ((If o+1:Nat):Int))),(15,.l (.z (.int .i64) (i:Int)))],[(10000000,.win (.int .u32) 138 pre ys [])]⟩:aa)) (fun z=>z=c+q*o.getD i 0) ?_ ?_
   ·refine s_g hG ?_;refine bw ?_ ?_
    ·intro hb1;(try simp only[bt] at hb1);refine aU hG ?_ ?_
     ·(try simp only[ba]);exact⟨by omega,hb1⟩
     refine qm ?_;first|exact Gn i hC.2.1 hC.2.2.1 hz.2.2.2.2.1|exact uB hb1
    ·intro hb1;(try simp only[bf] at hb1);refine aC (qm ?_);first|exact Gn i hC.2.1 hC.2.2.1 hz.2.2.2.2.1|exact uB hb1
   rintro n hn;(try dsimp only at hn);(have hn2:0<=n/\n<LB*LB:=by rw[hn];have:=Ab i hC.2.1 hC.2.2.1 hz.2.2.2.2.1;exact⟨this.1,this.2.1⟩);refine s_q hG ?_ ?_
   ·(try simp only[ba]);decide
   refine s_q hG ?_ ?_
   ·(try simp only[ba]);exact⟨⟨by omega,by omega⟩,by omega,by decide⟩
   refine s_g hG ?_;refine fz (fun(z:Int×Int)=>(⟨[(0,.l (.ownS 10000000)),(1,.l (.z (.slice (.int .u32)) o)),(2,.l (.z (.int .u64) q)),(7,.l (.z (.int .u64) (n/LB))),(8,.l (.z (.int .i64) z.2)),(9,.l (.z (.int .i64) (i:Int))),(11,.l (.z (.int .i64) z.1)),(14,.l (.z (.int .i64) ((If o+1:Nat):Int))),(15,.l (.z (.int .i64) (i:Int)))],[(10000000,.win (.int .u32) 138 pre ys [])]⟩:aa)) (fun z=>(0<=z.1/\z.1<LB)/\(0<=z.2/\z.2<=1)/\z.1-LB*z.2=ys.getD i 0-n%LB-b) ?_ ?_
   ·refine s_g hG ?_;refine bw ?_ ?_
    ·(intro hb2;(try simp only[bt] at hb2);refine aU hG ?_ ?_;·exact tt);refine qm ?_;first|exact(by simpa only[and_assoc] using(nv hz.2.2.1 hn2 hz.2.2.2.2.2.2.1 rfl).1 hb2)|exact(by simpa only[and_assoc] using(nv hz.2.2.1 hn2 hz.2.2.2.2.2.2.1 rfl).2 hb2)
    ·intro hb2;(try simp only[bf] at hb2);refine aC (qm ?_);first|exact(by simpa only[and_assoc] using(nv hz.2.2.1 hn2 hz.2.2.2.2.2.2.1 rfl).1 hb2)|exact(by simpa only[and_assoc] using(nv hz.2.2.1 hn2 hz.2.2.2.2.2.2.1 rfl).2 hb2)
   rintro⟨v,b2⟩ hv;(try dsimp only at hv);refine aU hG ?_ ?_
   ·(try simp only[ba]);exact⟨⟨by omega,by omega⟩,by omega⟩
   (refine aR (ag (aU hG ?_ ?_));·exact tt);refine qm ?_;exact Ef hC.2.1 hC.2.2.1 hC.2.2.2.1 hC.2.2.2.2 hz hb0 hn hv
  ·intro hb0;(try simp only[bf] at hb0);refine bN (aQ (aI (aH (ag (s_g hG ?_)))));refine aK (q_e [] ?_);exact⟨(xW hC.2.2.2.1 hz (by omega)).2,trivial,(xW hC.2.2.2.1 hz (by omega)).1⟩
def CT(B:av):Tab:={types:=[(3,(.int .i64)),(78,(.slice (.int .u32))),(138,(.int .u32))],elems:=[],cons:=[],hint:=[],N:=37,base:=B}
theorem IP{B:av}(hB:bc B):aV prog (CT B):=mg (T:=CT B) (tc ty3 (tc iR (tc gb ah))) aj (cZ rfl)
def vB:Con:=fun l os=>match l,os with
 | [.ownS 10000000,.z (.slice (.int .u32)) o],[.win (.int .u32) 138 pre xs []]=>some (Lim xs/\Lim o/\o.length+1<=xs.length/\o.length<CAP,[],[.win (.int .u32) 138 pre (put xs (o.length+1) (valL (xs.take (o.length+1))+valL o)) []])
 |_,_=>none
theorem Kv{B:av}(hB:bc B):Valid B prog 184 vB:=by
 refine bh (IP hB).tab func184 rfl rfl rfl ?_;intro args os C rs os' hc hC;unfold vB at hc;split at hc;case h_2=>cases hc
 rename_i o pre xs;cases hc;refine v_h (IP hB) fun X hP hT hr hG=>?_;have hU:=CT.eq_1;unfold CT at hT;have hX:=Pv;simp only[f184,aD,af,ioB];refine s_g hG ?_;refine s_g hG ?_;refine au (bM (fun(z:Nat×Int×List Int)=>(⟨[(0,.l (.ownS 10000000)),(1,.l (.z (.slice (.int .u32)) o)),(4,.l (.z (.int .u32) z.2.1)),(9,.l (.z (.int .i64) ((If o+1:Nat):Int))),(10,.l (.z (.int .i64) (z.1:Int)))],[(10000000,.win (.int .u32) 138 pre z.2.2 [])]⟩:aa)) (fun z=>jY xs o z.1 z.2.1 z.2.2) (fun z=>If o+1-z.1) (0,0,xs) ?_ ?_ ?_);·refine q_l ?_;exact⟨wi (by omega) (by have:If o<1000000000000:=hC.2.2.2;omega),rfl⟩
 ·exact Ad hC.1
 ·rintro⟨i,c,ys⟩ hz;try dsimp only at hz
  have hl:=hz.2.1;have hlen:=hC.2.2.1;refine s_g hG ?_;refine al (bw ?_ ?_)
  ·intro hb0;(try simp only[bt] at hb0);refine aC (ag (al (au (s_g hG ?_))));refine s_q hG ?_ ?_
   ·(try simp only[ba]);exact⟨⟨by omega,by omega⟩,by omega⟩
   refine fz (fun(z:Int)=>(⟨[(0,.l (.ownS 10000000)),(1,.l (.z (.slice (.int .u32)) o)),(5,.l (.z (.int .i64) (i:Int))),(6,.l (.z (.int .u32) z)),(9,.l (.z (.int .i64) ((If o+1:Nat):Int))),(10,.l (.z (.int .i64) (i:Int)))],[(10000000,.win (.int .u32) 138 pre ys [])]⟩:aa)) (fun z=>z=ys.getD i 0+c+o.getD i 0) ?_ ?_
   ·refine s_g hG ?_;refine bw ?_ ?_
    ·intro hb1;(try simp only[bt] at hb1);refine aU hG ?_ ?_
     ·(try simp only[ba]);exact⟨by omega,hb1⟩
     refine qm ?_;first|exact(wj i hz.2.2.1 hC.2.1 hz.2.2.2.2.1).2 hb1|exact(wj i hz.2.2.1 hC.2.1 hz.2.2.2.2.1).1
    ·intro hb1;(try simp only[bf] at hb1);refine aC (qm ?_);first|exact(wj i hz.2.2.1 hC.2.1 hz.2.2.2.2.1).2 hb1|exact(wj i hz.2.2.1 hC.2.1 hz.2.2.2.2.1).1
   rintro n hn;(try dsimp only at hn);refine aU hG ?_ ?_
   ·(try simp only[ba]);exact⟨by decide,by decide,⟨by omega,by omega⟩,by omega⟩
   (refine aR (ag (aU hG ?_ ?_));·exact tt);refine qm ?_;exact Eg hC.2.1 hC.2.2.1 hC.2.2.2 hz hb0 hn
  ·intro hb0;(try simp only[bf] at hb0);refine bN (aQ (aI (aH (q_e [] ?_))));exact⟨trivial,Gm hC.2.2.1 hz (by omega)⟩
def vD(B:av):Tab:={types:=[(3,(.int .i64)),(4,.bool),(78,(.slice (.int .u32))),(80,tyW),(138,(.int .u32)),(190,(.int .u64))],elems:=[(78,138)],cons:=[(138,e9),(140,ew),(181,s9),(182,nU),(183,vA),(184,vB)],hint:=[52,144,152],N:=172,io:=[(183,[0]),(184,[0])],base:=B}
theorem IQ{B:av}(hB:bc B):aV prog (vD B):=mg (T:=vD B) (tc ty3 (tc ty4 (tc iR (tc fZ (tc gb (tc nB ah)))))) (bo (by kernel_rfl) aj) (aM (cc func138 (w6 hB) (cc func140 (kj hB) (cc func181 (Ks hB) (cc func182 (Kt hB) (cc func183 (Ku hB) (cc func184 (Kv hB) aF)))))))
def lu:Con:=c2 (.slice (.int .u32)) (.slice (.int .u32)) (fun m o=>Cano m/\Cano o/\o≠[]/\m.length+o.length+1<CAP) (fun m o=>[.z (.slice (.int .u32)) (iQ m o),.z (.slice (.int .u32)) (dX m o)])
set_option maxHeartbeats 1000000 in
theorem CU{B:av}(hB:bc B):Valid B prog 139 lu:=by
 refine bh (IQ hB).tab func139 rfl rfl rfl ?_;intro args os C rs os' hc hC;obtain⟨m,o,rfl,rfl,rfl,rfl,rfl⟩:=mC hc;refine v_h (IQ hB) fun X hP hT hr hG=>?_;have hU:=vD.eq_1;unfold vD at hT;have hX:=ai @cx<|ai @e9.eq_1<|ai @vB.eq_1<|ai @vA.eq_1<|ai @nU.eq_1<|ai @s9.eq_1<|ai @ew.eq_1<|ai @bO.eq_def<| @b8.eq_def;simp only[f139,aD,af,ioB];refine al ?_;show J X _ _ _;refine aU hG ?_ ?_;·exact tt
 refine ag (al (al ?_));show J X _ _ _;refine aU hG ?_ ?_
 ·try simp only[ba]
  exact⟨hC.1,hC.2.1,PP (Nat.le_succ _) hC.2.2.2⟩
 refine ag (bw ?_ ?_)
 ·intro hb0;try simp only[bt] at hb0
  refine al ?_;show J X _ _ _;refine aU hG ?_ ?_;·exact tt
  refine ag (aK (aO (q_e [62] ?_)));exact Gv hb0
 ·intro hb0;try simp only[bf] at hb0
  refine aC (ag (al (al ?_)));show J X _ _ _;refine aU hG ?_ ?_;·exact tt
  refine ag (bw ?_ ?_)
  ·intro hb1;(try simp only[bt] at hb1);refine al ?_;show J X _ _ _;refine aU hG ?_ ?_
   ·(try simp only[ba]);exact⟨⟨by omega,by omega⟩,hC.1.1,(div_one hC.2.1 hb0 hb1).1,by have:=hC.2.2.2;omega⟩
   (refine ag (al ?_);show J X _ _ _;refine aU hG ?_ ?_;·exact tt);refine ag (aK (aO (q_e [62] ?_)));exact(div_one hC.2.1 hb0 hb1).2
  ·intro hb1;simp only[beq_eq_false_iff_ne,ne_eq] at hb1;obtain⟨p,hp⟩:∃p,If o=p+2:=pI hC.2.2.1 hb1;obtain⟨D,f⟩:∃D:List Int,gR m o D p:=⟨_,gR.mk' hC.1 hC.2.1 hp (Gw hb0) hC.2.2.2⟩;have hDl:=f.hDl;have hcc:=f.hc;have hlm:=f.hlm;refine aC (ag (fz (fun(z:Int)=>(⟨[(0,.l (.z (.slice (.int .u32)) m)),(1,.l (.z (.slice (.int .u32)) o)),(8,.l (.z (.int .u32) z))],[]⟩:aa)) (fun z=>z=aE o) ?_ ?_))
   ·show J X _ _ _;refine aU hG ?_ ?_
    ·(try simp only[ba]);have h:=rE f.ho f.hp (by omega);exact⟨h.1,h.2.1⟩
    refine qm ?_;exact(rE f.ho f.hp (by omega)).2.2
   rintro d hd;(try dsimp only at hd);subst hd;refine al ?_;show J X _ _ _;refine zW hG ?_ ?_
   ·(try simp only[ba]);exact El f
   (refine ag (al ?_);show J X _ _ _;refine aU hG ?_ ?_;·exact tt);refine ag (al ?_);show J X _ _ _;refine aU hG ?_ ?_
   ·(try simp only[ba]);exact Em f
   (refine ag (al (al ?_));show J X _ _ _;refine aU hG ?_ ?_;·exact tt);refine ag (au (bM (fun(z:Nat×List Int×List Int)=>(⟨[(8,.l (.z (.int .u32) (aE o))),(9,.l (.ownS 1392)),(10,.l (.z (.slice (.int .u32)) D)),(11,.l (.z (.int .i64) (If o:Int))),(12,.l (.ownS 62)),(13,.l (.z (.int .i64) ((z.1:Int)-1)))],[(1392,.arr (.int .u32) 138 z.2.1),(62,.arr (.int .u32) 138 z.2.2)]⟩:aa)) (fun z=>j6 (valL m*aE o) (valL D) (If m) (p+2) z.1 z.2.1 z.2.2) (fun z=>z.1) (If m+1-If o,padL (valL m*aE o).toNat (If m+1),N6 (If m+1-If o) 0) ?_ ?_ ?_));·refine q_l ?_;exact Jh f
   ·exact Af f
   ·(rintro⟨k,T,Q⟩ hz;(try dsimp only at hz);have hz1:=hz.1;have hz3:=hz.2.2.1;have hz5:=hz.2.2.2.2.1;refine al (al ?_);show J X _ _ _;refine aU hG ?_ ?_;·exact tt);refine ag (bw ?_ ?_)
    ·intro hb2;(try simp only[decide_eq_true_eq] at hb2);obtain⟨j,rfl⟩:∃j,k=j+1:=⟨k-1,by omega⟩;(have ej:(((j+1:Nat)):Int)-1=(j:Int):=by omega);rw[ej];(have hw17:(j:Int).toNat<If T:=by omega);(have hw19:∀v:Int,(j:Int).toNat<(OM (j:Int).toNat T++put (OX (j:Int).toNat T) (If D+1) v).length:=fun v=>by rw[BO _ (by rw[hDl];omega)];exact hw17);(have ej0:IN.wrap ((j:Int)+(If o:Int))=((j+(p+2):Nat):Int):=by rw[wo];omega);(have ej1:IN.wrap (((j+(p+2):Nat):Int)-1)=((j+(p+1):Nat):Int):=by rw[wo];omega);(have ej2:IN.wrap (((j+(p+2):Nat):Int)-2)=((j+p:Nat):Int):=by rw[wo];omega);have g:=xX (j:=j) (p:=p) hz.2.1 f.hL f.hDl f.hVp (by omega) hz.2.2.2.2.2.2;have hD1:=(f.hL.getD (p+1)).2;(have hTj:j+(p+3)<=If T:=by omega);refine aC (ag (al (au (fz (fun(z:Int)=>(⟨[(8,.l (.z (.int .u32) (aE o))),(9,.l (.ownS 1392)),(10,.l (.z (.slice (.int .u32)) D)),(11,.l (.z (.int .i64) (If o:Int))),(12,.l (.ownS 62)),(13,.l (.z (.int .i64) (j:Int))),(14,.l (.z (.int .u64) z))],[(1392,.arr (.int .u32) 138 T),(62,.arr (.int .u32) 138 Q)]⟩:aa)) (fun z=>z=T.getD (j+(p+2)) 0*LB+T.getD (j+(p+1)) 0/\z<LB*LB) ?_ ?_))))
     ·show J X _ _ _;refine zW hG ?_ ?_
      ·(try simp only[ba]);simp only[ej0,ej1,Od];exact⟨⟨by omega,by omega⟩,by omega,⟨by omega,by omega⟩,by omega⟩
      refine qm ?_;simp only[f.en1,f.en2,ej0,ej1,ej2,Od,fO];have:=Gr (hz.2.1.getD (j+(p+2))) (hz.2.1.getD (j+(p+1)));rw[this.1];exact⟨rfl,this.2.1⟩
     rintro top ht;(try dsimp only at ht);have g2:=g;rw[<- ht.1] at g2;have ht0:=g2.htop;refine fz (fun(z:Int)=>(⟨[(8,.l (.z (.int .u32) (aE o))),(9,.l (.ownS 1392)),(10,.l (.z (.slice (.int .u32)) D)),(11,.l (.z (.int .i64) (If o:Int))),(12,.l (.ownS 62)),(13,.l (.z (.int .i64) (j:Int))),(14,.l (.z (.int .u64) top)),(15,.l (.z (.int .u64) z))],[(1392,.arr (.int .u32) 138 T),(62,.arr (.int .u32) 138 Q)]⟩:aa)) (fun z=>z=min (top/D.getD (p+1) 0) 999999999) ?_ ?_
     ·show J X _ _ _;refine aU hG ?_ ?_
      ·(try simp only[ba]);simp only[f.en1,f.en2,ej0,ej1,ej2,Od,fO];exact⟨⟨by omega,by omega⟩,(xY ht0 ht.2 g.hD1 hD1).2⟩
      refine qm ?_;simp only[f.en1,f.en2,ej0,ej1,ej2,Od,fO];rw[(xY ht0 ht.2 g.hD1 hD1).1]
     (rintro gs hg;(try dsimp only at hg);refine al (au (bM (fun(z:Int)=>(⟨[(8,.l (.z (.int .u32) (aE o))),(9,.l (.ownS 1392)),(10,.l (.z (.slice (.int .u32)) D)),(11,.l (.z (.int .i64) (If o:Int))),(12,.l (.ownS 62)),(13,.l (.z (.int .i64) (j:Int))),(14,.l (.z (.int .u64) top)),(15,.l (.z (.int .u64) z))],[(1392,.arr (.int .u32) 138 T),(62,.arr (.int .u32) 138 Q)]⟩:aa)) (fun z=>Ek (valL ((T.drop j).take (p+3))) (valL D) top (D.getD (p+1) 0) z) (fun z=>z.toNat) gs ?_ ?_ ?_));·simp only[ml0,ml1,N8,AS,IT,N3,No,AT,N4,N5,reduceIte,reduceDIte,reduceCtorEq]);·exact Jf g2 hg
     ·rintro q hq;(try dsimp only at hq);refine al (al ?_);show J X _ _ _;refine zW hG ?_ ?_
      ·(try simp only[ba]);simp only[f.en1,f.en2,ej0,ej1,ej2,Od,fO];exact⟨⟨by omega,by omega⟩,⟨by omega,by omega⟩,⟨by omega,by omega⟩,by omega,fun h=>h,fun h=>⟨h,by omega,by omega⟩,fun h=>h⟩
      refine ag (bw ?_ ?_)
      ·(intro hb3;(try simp only[bt] at hb3);refine aC (ag (au ?_));show J X _ _ _;refine aU hG ?_ ?_;·exact tt);refine aR (qm ?_);simp only[f.en1,f.en2,ej0,ej1,ej2,Od,fO] at hb3;exact Ll g2 ht.2 hD1 hq hb3
      ·intro hb3;(try simp only[bf] at hb3);refine bN (aQ (aI (aH (ag (fz (fun(z:Int×List Int)=>(⟨[(8,.l (.z (.int .u32) (aE o))),(9,.l (.ownS 1392)),(10,.l (.z (.slice (.int .u32)) D)),(11,.l (.z (.int .i64) (If o:Int))),(12,.l (.ownS 62)),(13,.l (.z (.int .i64) (j:Int))),(15,.l (.z (.int .u64) z.1))],[(1392,.arr (.int .u32) 138 z.2),(62,.arr (.int .u32) 138 Q)]⟩:aa)) (fun z=>z.1=valL ((T.drop j).take (p+3))/valL D/\z.2=T.take j++put (T.drop j) (p+3) (valL ((T.drop j).take (p+3))-z.1*valL D)) ?_ ?_)))))
       ·refine al ?_;show J X _ _ _;refine bZ hG (by simp only[hw17,hT,vD,bO.eq_def,b8.eq_def,e9,vB,vA,nU,s9,ew,cx,mx0,mx1,mx2,mx3,mx4,mx5,mx6,mT,effOp,endCall,callOp,appendOp,sliceLV,Ty.fieldTy,Ty.fieldOf,N8,AS,IT,N3,No,AT,N4,N5,reduceIte,reduceDIte,reduceCtorEq];rfl) ?_ ?_
        ·(try simp only[ba]);simp only[Od];exact⟨⟨by omega,by omega⟩,⟨hz.2.1.drop j,f.hL,⟨hq.2.2.2,hq.2.1⟩,by rw[hDl,Om];omega,by rw[hDl];unfold CAP;omega⟩,by rw[Of];omega⟩
        refine ag (bw ?_ ?_)
        ·(intro hb4;(try simp only[bt] at hb4);refine al ?_;show J X _ _ _;refine aU hG ?_ ?_;·exact tt);refine ag ?_;show J X _ _ _;refine bZ hG (by simp only[hw17,hw19,hT,vD,bO.eq_def,b8.eq_def,e9,vB,vA,nU,s9,ew,cx,mx0,mx1,mx2,mx3,mx4,mx5,mx6,mT,effOp,endCall,callOp,appendOp,sliceLV,Ty.fieldTy,Ty.fieldOf,N8,AS,IT,N3,No,AT,N4,N5,reduceIte,reduceDIte,reduceCtorEq];rfl) ?_ ?_
         ·(try simp only[ba]);simp only[Od,f.hDl3];rw[(rF _ hTj).1,(rF _ hTj).2,BO _ hTj];exact⟨⟨by omega,by omega⟩,⟨BM (hz.2.1.drop j) _ _,f.hL,by rw[wh _ (by rw[Om];omega),Om];omega,by rw[hDl];unfold CAP;omega⟩,by rw[Of];omega⟩
         refine qm ?_;simp only[Od,f.hDl3] at hb4 ⊢;simp only[f.en1,f.en2,ej0,ej1,ej2,Od,fO] at hb3;have hst:=Gt g2 ht.2 hD1 hq hb3;first|(have hq1:=hst.1 hb4;have hqn:=g.qnn;have hql:=g.qlt;have hB:LB=1000000000:=rfl;rw[w64 (x:=q-1) (by omega) (by omega),uE hTj];exact⟨hq1,rfl⟩)|exact⟨hst.2 hb4,trivial⟩|exact⟨hst.2 hb4,rfl⟩
        ·intro hb4;(try simp only[bf] at hb4);refine aC (qm ?_);simp only[Od,f.hDl3] at hb4 ⊢;simp only[f.en1,f.en2,ej0,ej1,ej2,Od,fO] at hb3;have hst:=Gt g2 ht.2 hD1 hq hb3;first|(have hq1:=hst.1 hb4;have hqn:=g.qnn;have hql:=g.qlt;have hB:LB=1000000000:=rfl;rw[w64 (x:=q-1) (by omega) (by omega),uE hTj];exact⟨hq1,rfl⟩)|exact⟨hst.2 hb4,trivial⟩|exact⟨hst.2 hb4,rfl⟩
       rintro⟨q2,Tn⟩ hq2;(try dsimp only at hq2);show J X _ _ _;refine aU hG ?_ ?_
       ·(try simp only[ba]);exact⟨⟨by omega,by omega⟩,by omega⟩
       (refine aR (ag ?_);show J X _ _ _;refine aU hG ?_ ?_;·exact tt);refine qm ?_;rw[wi (x:=(j:Int)-1) (by omega) (by omega),hq2.2,Od,w32 (by rw[hq2.1];exact g.qnn) (by rw[hq2.1];have:=g.qlt;have hB:LB=1000000000:=rfl;omega)];exact⟨j,rfl,Ei f.hL f.hDl f.hVp f.hlm hz hq2.1,by omega⟩
    ·intro hb2;(try simp only[bf] at hb2);refine bN (aQ (aI (aH (ag (al ?_)))));show J X _ _ _;refine aU hG ?_ ?_
     ·(try simp only[ba]);exact Ag f hz (by omega)
     (refine ag (al ?_);show J X _ _ _;refine aU hG ?_ ?_;·exact tt);refine ag (aK (q_e [62] ?_));(obtain rfl:k=0:=by omega);exact Jg f hz
def K8(B:av):Tab:=mT B [(3,(.int .i64)),(4,.bool),(78,(.slice (.int .u32))),(80,tyW)] [] [(73,pT),(133,kk),(136,zd),(139,lu),(140,ew),(141,Kn)] [] 47
def zf:Con:=c2 tyW tyW (fun x y=>mr x y) (fun x y=>[.z tyW (enc (fm (dec x) (dec y))),.z tyW (enc (oz (dec x) (dec y)))])
theorem CW{B:av}(hB:bc B):Valid B prog 74 zf:=by
 refine v2 (mg (T:=K8 B) (tc ty3 (tc ty4 (tc iR (tc fZ ah)))) aj (aM (cc func73 (wZ hB) (cc func133 (qy hB) (cc func136 (w8 hB) (cc func139 (CU hB) (cc func140 (kj hB) (cc func141 (Ko hB) aF)))))))) func74 ?_;intro x y hC X hP hT hr hG;have hX:=ai K8.eq_1<|ai cx<|ai zd.eq_1<|ai lu.eq_1<|ai pT.eq_1<|ai kk.eq_1<|ai Kn.eq_1<|ew.eq_1;simp only[f74,aD,af,ioB];refine sg ?_;refine sq ?_ ?_;·exact hC.side1
 refine sd ?_ ?_;·exact hC.side2
 refine al (sq ?_ ?_);·exact⟨enc_ok _,fun h=>h⟩
 refine qc ?_ ?_
 ·intro hb0;refine rd ?_ ?_;·exact hC.side4
  refine ag (sd ?_ ?_);·exact tt
  refine aK (qe [] ?_);exact hC.fin1 hb0
 ·intro hb0;refine aC (ag (sd ?_ ?_));·exact tt
  refine aK (qe [] ?_);exact hC.fin2 hb0
def th(B:av):Tab:={types:=[(78,(.slice (.int .u32))),(138,(.int .u32)),(190,(.int .u64))],elems:=[],cons:=[(204,ze)],hint:=[],N:=16,base:=B}
theorem IR{B:av}(hB:bc B):aV prog (th B):=mg (T:=th B) (tc iR (tc gb (tc nB ah))) aj (aM (cc func204 (CP hB) aF))
def A0:Con:=c1 (.slice (.int .u32)) (fun m=>Lim m/\m.length<=2) (fun m=>[.z (.int .u64) (valL m)])
theorem Kw{B:av}(hB:bc B):Valid B prog 200 A0:=by
 refine bh (IR hB).tab func200 rfl rfl rfl ?_;intro args os C rs os' hc hC;obtain⟨m,rfl,rfl,rfl,rfl,rfl⟩:=Hv hc;refine v_h (IR hB) fun X hP hT hr hG=>?_;have hU:=th.eq_1;unfold th at hT;have hX:=ai @cx<| @ze.eq_1;simp only[f200,aD,af,ioB];refine s_g hG ?_;refine s_g hG ?_;refine al (s_g hG ?_);refine au (Bz hr (gf:=219) (caps:=[.z (.ptr (.slice (.int .u32))) m]) (items:=cW m) (by simp only[hT,th,mx0,mx1,mx2,mx3,mx4,mx5,mx6,mT,effOp,endCall,callOp,appendOp,sliceLV,Ty.fieldTy,Ty.fieldOf,N8,AS,IT,N3,No,AT,N4,N5,reduceIte,reduceDIte,reduceCtorEq];try rfl) (by rfl) (by rw[hP];exact yx m) (by rfl) [3] (by rfl) (by simp only[hT,th];try rfl) (fun(k:Nat) (z:Int)=>(⟨[(3,.l (.ownP 3 0))],[(3,.box 190 [.z (.int .u64) z])]⟩:aa)) (fun(k:Nat) (z:Int)=>z=valL (OX (If m-k) m)) 0 ?_ ?_ ?_ ?_ ?_);·simp only[ml0,ml1,N8,AS,IT,N3,No,AT,N4,N5,reduceIte,reduceDIte,reduceCtorEq]
 ·rw[Gg];rfl
 ·intro k z;rfl
 ·intro k hk;rintro z hz;try dsimp only at hz
  have hk:k<If m:=by simpa [cW] using hk
  refine⟨_,by simp only[hT,th,cW,sB,mx0,mx1,mx2,mx3,mx4,mx5,mx6,mT,effOp,endCall,callOp,appendOp,sliceLV,Ty.fieldTy,Ty.fieldOf,N8,AS,IT,N3,No,AT,N4,N5,reduceIte,reduceDIte,reduceCtorEq,Qa,P4];rfl,?_⟩;intro X' hP' hT';have hG':aV X'.P X'.T:=by rw[hP',hT'];exact hG.keep _
  rw[hT] at hT';refine au (fB hG' ?_ ?_);·exact tt
  refine aR ?_;show ∃z,_;simp only[ml0,ml1,N8,AS,IT,N3,No,AT,N4,N5,reduceIte,reduceDIte,reduceCtorEq];exact xP hC.1 hC.2 hk hz
 ·rintro z hz;try dsimp only at hz
  rw[show If (cW m)=If m by simp[cW],Nat.sub_self,Oy] at hz;refine aR (ag (s_g hG ?_));refine aK (q_e [] ?_);exact hz
def K9(B:av):Tab:=mT B [(3,(.int .i64)),(4,.bool),(78,(.slice (.int .u32))),(80,tyW),(138,(.int .u32)),(190,(.int .u64))] [(78,138)] [(139,lu),(140,ew),(200,A0)] [] 68
def zg:Con:=c2 tyW tyW (fun x y=>oA x y) (fun x y=>[.z tyW (enc (dK (dec x) (dec y)))])
theorem CX{B:av}(hB:bc B):Valid B prog 175 zg:=by
 refine v2 (mg (T:=K9 B) (tc ty3 (tc ty4 (tc iR (tc fZ (tc gb (tc nB ah)))))) (bo (by kernel_rfl) aj) (aM (cc func139 (CU hB) (cc func140 (kj hB) (cc func200 (Kw hB) aF))))) func175 ?_;intro x y hC X hP hT hr hG;have hX:=ai K9.eq_1<|ai cx<|ai lu.eq_1<|ai A0.eq_1<|ew.eq_1;simp only[f175,aD,af,ioB];refine sg ?_;refine sd ?_ ?_;·exact tt
 refine al (au (bM (fun(z:List Int×List Int)=>(⟨[(4,.l (.ownP 4 0)),(5,.l (.z (.slice (.int .u32)) z.1)),(6,.l (.z (.slice (.int .u32)) z.2))],[(4,.box 80 [.z .bool false,.val (.slice none 0 0)])]⟩:aa)) (fun z=>wk x y z.1 z.2) (fun z=>(valL z.2).toNat) (x.2,y.2) ?_ ?_ ?_));·simp only[ml0,ml1,N8,AS,IT,N3,No,AT,N4,N5,reduceIte,reduceDIte,reduceCtorEq]
 ·exact wk.start hC
 ·rintro⟨u,v⟩ hz;try dsimp only at hz
  have hcc:2*(If x.2+If y.2)+4<1000000000000:=hC.hc;refine al (sg ?_);refine qc ?_ ?_
  ·(intro hb0;refine aC (ag (au (sq ?_ ?_)));·exact hz.side3 hC (gr (by omega)));(refine rq ?_ ?_;·exact hz.side4 hC (gr (by omega)));refine aR (qm ?_);exact hz.next hC (gr (by omega))
  ·intro hb0;refine bN (aQ (aI (aH (ag (al (sg ?_))))));refine bw ?_ ?_
   ·(intro hb1;(try simp only[bt] at hb1);refine sq ?_ ?_;·exact⟨hz.hu.1,by have:=hz.hul;unfold CAP;omega⟩);refine aK (aO (qe [65] ?_));exact hz.stop (Ah (by omega))
   ·(intro hb1;simp only[beq_eq_false_iff_ne,ne_eq] at hb1;refine aC (ag (sq ?_ ?_));·exact hz.side3 hC (gr (by omega)));refine sq ?_ ?_;·have hr:=hz.rest (gr (by omega));exact⟨⟨hz.hv.1,by omega⟩,hz.side4 hC (gr (by omega)),hr.1.1,by omega⟩
    (refine al (au (bM (fun(z:Int×Int)=>(⟨[(4,.l (.ownP 4 0)),(11,.l (.z (.int .u64) z.1)),(12,.l (.z (.int .u64) z.2))],[(4,.box 80 [.z .bool false,.val (.slice none 0 0)])]⟩:aa)) (fun z=>wm x y z.1 z.2) (fun z=>z.2.toNat) (valL v,valL (enc (dec (false,dX u v))).2) ?_ ?_ ?_));·simp only[ml0,ml1,N8,AS,IT,N3,No,AT,N4,N5,reduceIte,reduceDIte,reduceCtorEq]);·exact wm.start hz hC (gr (by omega)) (by omega)
    ·rintro⟨a,b⟩ he;(try dsimp only at he);refine al (sg ?_);refine bw ?_ ?_
     ·(intro hb2;(try simp only[bt] at hb2);refine aC (ag (au (rd ?_ ?_)));·omega);refine aR (qm ?_);exact he.next hb2
     ·(intro hb2;(try simp only[decide_eq_false_iff_not] at hb2);have he2:=he.stop hb2;refine bN (aQ (aI (aH (ag (sg ?_)))));refine al (au (bM (fun(z:Nat×List Int)=>(⟨[(11,.l (.z (.int .u64) (z.1:Int))),(13,.l (.ownP 13 0)),(4,.l (.ownP 4 0))],[(13,.box 80 [.z .bool false,.ownS 65]),(65,.arr (.int .u32) 138 z.2),(4,.box 80 [.z .bool false,.val (.slice none 0 0)])]⟩:aa)) (fun z=>z.2++limbs z.1=limbs (dK (dec x) (dec y)).toNat/\z.1<18446744073709551616) (fun z=>z.1) ((dK (dec x) (dec y)).toNat,[]) ?_ ?_ ?_));·refine q_l ?_;exact⟨he2.1,by unfold ioB;omega⟩);·exact⟨by simp,he2.2⟩
      ·rintro⟨w,l⟩ ⟨g1,g2⟩;(try dsimp only at g1 g2);refine al (sg ?_);refine qc ?_ ?_
       ·(intro hb3;refine aC (ag (al (au (rq ?_ ?_))));·have h3:=mq he2.2;have h4:=congrArg If g1;simp only[Ol] at h4;exact⟨by decide,by unfold Cm.Roomy;omega⟩);refine aR (ag (rg ?_));refine qm ?_;exact pE g1 g2 hb3
       ·intro hb3;refine bN (aQ (aI (aH (ag (sg ?_)))));refine aK (qe [65] ?_);(have h0:w=0:=by omega);subst h0;rw[show limbs 0=[] by simp[limbs],Pr] at g1;rw[g1];exact Jj _ _
def CY(B:av):Tab:=mT B [(3,(.int .i64)),(4,.bool),(78,(.slice (.int .u32))),(80,tyW),(82,tyN),(138,(.int .u32))] [] [(74,zf),(155,zc),(175,zg)] [2,3,5] 43
def nV:Con:=c2 tyW tyW (fun n d=>gV n d) (fun n d=>[.z tyN (aG (Ox (dec n) (dec d)))])
theorem lU{B:av}(hB:bc B):Valid B prog 131 nV:=by
 refine v2 (mg (T:=CY B) (tc ty3 (tc ty4 (tc iR (tc fZ (tc ty82 (tc gb ah)))))) aj (aM (cc func74 (CW hB) (cc func155 (wY hB) (cc func175 (CX hB) aF))))) func131 ?_;intro n d hC X hP hT hr hG;have hX:=ai CY.eq_1<|ai cx<|ai zf.eq_1<|ai zg.eq_1<|zc.eq_1;simp only[f131,aD,af,ioB];refine sg ?_;refine sq ?_ ?_;·exact Lm hC
 refine fz (fun(z:Int)=>(⟨[(2,.l (.ownP 2 0)),(3,.l (.ownP 3 0)),(4,.l (.ownP 4 0)),(5,.l (.ownP 5 0))],[(2,.box 80 [.z .bool n.1,.z (.slice (.int .u32)) n.2]),(3,.box 80 [.z .bool d.1,.z (.slice (.int .u32)) d.2]),(4,.box 82 [.z .bool false,.val (.slice none 0 0),.z .bool false,.val (.slice none 0 0)]),(5,.box 80 [.z .bool (enc z).1,.z (.slice (.int .u32)) (enc z).2])]⟩:aa)) (fun z=>z=jo (dec n) (dec d)) ?_ ?_
 ·refine sg ?_;refine qc ?_ ?_
  ·(intro hb0;refine rq ?_ ?_;·exact Ln hC);refine qm ?_;(try simp only[pe,bG]);first|exact⟨_,rfl,rfl,M3 hC hb0⟩|exact⟨_,rfl,rfl,M4 hC hb0⟩
  ·intro hb0;refine aC (qm ?_);(try simp only[pe,bG]);first|exact⟨_,rfl,rfl,M3 hC hb0⟩|exact⟨_,rfl,rfl,M4 hC hb0⟩
 rintro g hg;try dsimp only at hg
 subst hg;have hp:=mk_pos hC;refine al (sq ?_ ?_)
 ·(repeat' (first|apply And.intro|intro _))<;>(try simp only[decide_eq_true_eq,decide_eq_false_iff_not,Pc,beq_iff_eq,Od] at*)<;>first|assumption|omega|trivial|(simp_all;done)|(simp_all;omega)
 refine qc ?_ ?_
 ·intro hb1;refine sq ?_ ?_;·exact(GO hC).1
  refine rq ?_ ?_;·exact(GO hC).2
  refine ag (sg ?_);refine aK (qe [] ?_);simp only[pe,bG];exact(rQ hC.2.2.1).symm
 ·intro hb1;refine aC (ag (sg ?_));refine aK (qe [] ?_);exact Lo hC hb1
def CZ(B:av):Tab:=mT B [(80,tyW),(82,tyN)] [] [(87,tU),(131,nV),(136,zd)] [] 22
def jK:Con:=c2 tyN tyN (fun x y=>dZ x y) (fun x y=>[.z tyN (aG (an x+an y))])
theorem iw{B:av}(hB:bc B):Valid B prog 70 jK:=by
 refine v2 (mg (T:=CZ B) (tc fZ (tc ty82 ah)) aj (aM (cc func87 (qx hB) (cc func131 (lU hB) (cc func136 (w8 hB) aF))))) func70 ?_;intro x y hC X hP hT hr hG;have hX:=ai CZ.eq_1<|ai cx<|ai zd.eq_1<|ai nV.eq_1<|tU.eq_1;simp only[f70,aD,af,ioB];refine sg ?_;refine sd ?_ ?_;·exact uI hC
 refine aK (qe [] ?_);simp only[pe2];exact GP hC
def C3(B:av):Tab:=mT B [(80,tyW),(82,tyN)] [] [(155,zc)] [] 9
def mc:Con:=c1 tyN (fun x=>NOK x/\lq (an x)<=QC) (fun x=>[.z tyN (aG (-an x))])
theorem lV{B:av}(hB:bc B):Valid B prog 99 mc:=by
 refine v1 (mg (T:=C3 B) (tc fZ (tc ty82 ah)) aj (aM (cc func155 (wY hB) aF))) func99 ?_;intro x hC X hP hT hr hG;have hX:=ai C3.eq_1<|ai cx<|zc.eq_1;simp only[f99,aD,af,ioB];refine sg ?_;refine sd ?_ ?_;·exact Eo hC
 refine aK (qe [] ?_);exact GR hC.1
def C4(B:av):Tab:=mT B [(82,tyN)] [] [(70,jK),(99,mc)] [] 9
def fa:Con:=c2 tyN tyN (fun x y=>dZ x y) (fun x y=>[.z tyN (aG (an x-an y))])
theorem oV{B:av}(hB:bc B):Valid B prog 77 fa:=by
 refine v2 (mg (T:=C4 B) (tc ty82 ah) aj (aM (cc func70 (iw hB) (cc func99 (lV hB) aF)))) func77 ?_;intro x y hC X hP hT hr hG;have hX:=ai C4.eq_1<|ai cx<|ai jK.eq_1<|mc.eq_1;simp only[f77,aD,af,ioB];refine sg ?_;refine sd ?_ ?_;·exact Ep hC
 refine aK (qe [] ?_);simp only[pe2];exact GS x y
def C5(B:av):Tab:=mT B [(80,tyW),(82,tyN)] [] [(87,tU),(131,nV)] [] 16
def eP:Con:=c2 tyN tyN (fun x y=>dZ x y) (fun x y=>[.z tyN (aG (an x*an y))])
theorem lW{B:av}(hB:bc B):Valid B prog 69 eP:=by
 refine v2 (mg (T:=C5 B) (tc fZ (tc ty82 ah)) aj (aM (cc func87 (qx hB) (cc func131 (lU hB) aF)))) func69 ?_;intro x y hC X hP hT hr hG;have hX:=ai C5.eq_1<|ai cx<|ai nV.eq_1<|tU.eq_1;simp only[f69,aD,af,ioB];refine sg ?_;refine sd ?_ ?_;·exact Er hC
 refine aK (qe [] ?_);simp only[pe2];exact GT hC
def C6(B:av):Tab:=mT B [(80,tyW),(82,tyN)] [] [(87,tU),(131,nV)] [] 16
def ee:Con:=c2 tyN tyN (fun x y=>dZ x y/\an y≠0) (fun x y=>[.z tyN (aG (an x/an y))])
theorem jL{B:av}(hB:bc B):Valid B prog 92 ee:=by
 refine v2 (mg (T:=C6 B) (tc fZ (tc ty82 ah)) aj (aM (cc func87 (qx hB) (cc func131 (lU hB) aF)))) func92 ?_;intro x y hC X hP hT hr hG;have hX:=ai C6.eq_1<|ai cx<|ai nV.eq_1<|tU.eq_1;simp only[f92,aD,af,ioB];refine sg ?_;refine sd ?_ ?_;·exact Et hC
 refine aK (qe [] ?_);simp only[pe2];exact GU hC.1
def C7(B:av):Tab:=mT B [(80,tyW),(82,tyN)] [] [(73,pT)] [] 6
def gy:Con:=c1 tyN (fun x=>NOK x) (fun x=>[.z (.int .i64) (bq (an x).num 0)])
theorem ix{B:av}(hB:bc B):Valid B prog 90 gy:=by
 refine v1 (mg (T:=C7 B) (tc fZ (tc ty82 ah)) aj (aM (cc func73 (wZ hB) aF))) func90 ?_;intro x hC X hP hT hr hG;have hX:=ai C7.eq_1<|ai cx<|pT.eq_1;simp only[f90,aD,af,ioB];refine sg ?_;refine sq ?_ ?_;·exact hC.w1
 refine aK (qe [] ?_);rw[hC.d1]
def C8(B:av):Tab:=mT B [(3,(.int .i64)),(80,tyW),(82,tyN)] [] [(131,nV),(133,kk)] [] 10
def oW:Con:=c2 (.int .i64) (.int .i64) (fun n d=>I64 n/\I64 d/\d≠0) (fun n d=>[.z tyN (aG (Ox n d))])
theorem iy{B:av}(hB:bc B):Valid B prog 93 oW:=by
 refine v2 (mg (T:=C8 B) (tc ty3 (tc fZ (tc ty82 ah))) aj (aM (cc func131 (lU hB) (cc func133 (qy hB) aF)))) func93 ?_;intro n d hC X hP hT hr hG;have hX:=ai C8.eq_1<|ai cx<|ai nV.eq_1<|kk.eq_1;simp only[f93,aD,af,ioB];refine sg ?_;refine sq ?_ ?_;·exact GV hC
 refine aK (qe [] ?_);simp only[pe2];exact Jq n d
def C9(B:av):Tab:=mT B [(3,(.int .i64)),(82,tyN)] [] [(93,oW)] [] 2
def eQ:Con:=c0 (True) ([.z tyN (aG 0)])
theorem lX{B:av}(hB:bc B):Valid B prog 128 eQ:=by
 refine v0 (mg (T:=C9 B) (tc ty3 (tc ty82 ah)) aj (aM (cc func93 (iy hB) aF))) func128 ?_;intro hC X hP hT hr hG;have hX:=ai C9.eq_1<|ai cx<|oW.eq_1;simp only[f128,aD,af,ioB];refine sg ?_;refine sq ?_ ?_;·exact⟨by unfold I64;omega,by unfold I64;omega,by decide⟩
 refine aK (qe [] ?_);simp only[pe2];rw[zero_divInt]
def Da(B:av):Tab:=mT B [(3,(.int .i64)),(80,tyW),(82,tyN)] [] [(44,nT)] [] 17
def A3:Con:=c2 tyN (.int .i64) (fun x k=>NOK x/\lq (an x)<=QC) (fun x k=>[.z .bool (decide (eV (an x).num<=k/\eV ((an x).den:Int)<=k))])
theorem Fc{B:av}(hB:bc B):Valid B prog 146 A3:=by
 refine v2 (mg (T:=Da B) (tc ty3 (tc fZ (tc ty82 ah))) aj (aM (cc func44 (CR hB) aF))) func146 ?_;intro x k hC X hP hT hr hG;have hX:=ai Da.eq_1<|ai cx<|nT.eq_1;simp only[f146,aD,af,ioB];refine sg ?_;refine sq ?_ ?_;·exact⟨(rU hC).1,id,fun h=>⟨h,(rU hC).2⟩,id⟩
 refine aK (qe [] ?_);exact Eu k hC.1
def Db(B:av):Tab:=mT B [(80,tyW),(82,tyN)] [] [] [] 8
def xb:Con:=c1 tyN (fun x=>True) (fun x=>[.z tyW x.1,.z tyW x.2])
theorem Fe{B:av}(hB:bc B):Valid B prog 185 xb:=by
 refine v1 (mg (T:=Db B) (tc fZ (tc ty82 ah)) aj (cZ rfl)) func185 ?_;intro x hC X hP hT hr hG;have hX:=ai Db.eq_1<|cx;simp only[f185,aD,af,ioB];refine sg ?_;refine sd ?_ ?_;·exact tt
 refine aK (qe [] ?_);trivial
end Go.Proofs.YtppnhclgaeodoaaGreatDoor
end
section
namespace Go.Proofs
open Go.RowKit Go.Cm
def Ff:Con:=fun l os=>match l,os with
 | [.z .str s,.z .str t],[]=>some (t=[47]/\s.length<4294967281,[.z .str (tN s),.z .str (if cB s=true then tR s else []),.z .bool (cB s)],[])
 |_,_=>none
theorem vE{B:av}(hB:bc B):Valid B Tryz.prog 149 Ff:=by
 intro args os C rs os' hc hC O w vals ρ0 hOn hIo hO hOI hargs hown hap;unfold Ff at hc;split at hc;case h_2=>cases hc
 rename_i s t;cases hc;obtain⟨u,v,rfl,hu,hv⟩:=xH hargs;rw[gA hv,gA hu];obtain⟨rfl,h1⟩:=hC;obtain⟨m,hm⟩:=hB.2.1 w hOn;have hsz:(⟨s.toArray⟩:ByteArray).size=s.length:=by simp[ByteArray.size]
 refine(Tryz.strings_Cut ⟨s.toArray⟩ ⟨[47].toArray⟩ m w (by rw[hsz];exact h1) hm).mono fun e w' ⟨he,n,hw⟩=>?_;have hb:Below w.heap.size w w':=by rw[hw];exact⟨rfl,rfl,rfl,Oa _,fun _ _=>rfl⟩
 have e1:Lib.cut (⟨s.toArray⟩:ByteArray).data.toList (⟨[47].toArray⟩:ByteArray).data.toList=(tN s,if cB s=true then tR s else [],cB s):=by simpa using Ev s
 rw[e1] at he;subst he;exact ry (vs:=[.string ⟨(tN s).toArray⟩,.string ⟨(if cB s=true then tR s else []).toArray⟩,.bool (cB s)]) hb (fun H M=>⟨fb (ρ:=fun _=>undef),fb (ρ:=fun _=>undef),bQ (ρ:=fun _=>undef),trivial⟩)
end Go.Proofs
end
section
namespace Go.Proofs.YtppnhclgaeodoaaGreatDoor
open Go Go.Cm Go.Proofs Tryz
def La(B:av):Tab:=mT B [(3,(.int .i64)),(5,(.int .u8)),(9,.str),(67,(.slice (.int .u8)))] [(67,5)] [(174,gN)] [] 38
def A4:Con:=c1 .str (fun s=>nu s) (fun s=>[.z (.int .i64) (chk s)])
theorem Kx{B:av}(hB:bc B):Valid B prog 129 A4:=by
 refine v1 (mg (T:=La B) (tc ty3 (tc ty5 (tc ty9 (tc NL ah)))) (bo (by kernel_rfl) aj) (aM (cc func174 (CO hB) aF))) func129 ?_;intro s hC X hP hT hr hG;have hX:=ai La.eq_1<|ai cx<|gN.eq_1;simp only[f129,aD,af,ioB];refine sg ?_;refine Bx (sg ?_);refine sg ?_;refine al (Bw (ag (fz (fun(z:Int)=>(⟨[(4,.l (.z (.int .i64) z))],[]⟩:aa)) (fun z=>z=chk s) ?_ ?_)))
 ·refine au (sg ?_);refine qc ?_ ?_;·intro hb0;refine aC (aR (qm ?_));first|(rw[hb0];exact kR.symm)|exact(jE hb0 ((iv _).1 hb1)).symm|exact(nt hb0 (eh hb1) (by rw[dI] at hb2;omega) (kS hb3)).symm|(rw[dI] at hb2;rw[jF hb0 (eh hb1) (by rw[Oj (by omega)] at g2;exact g2)];first|rw[if_pos (by omega)]|rw[if_neg (by omega)])
  ·(intro hb0;refine sq ?_ ?_;·exact Gi _);refine qc ?_ ?_;·intro hb1;refine rg ?_;refine aR (qm ?_);first|(rw[hb0];exact kR.symm)|exact(jE hb0 ((iv _).1 hb1)).symm|exact(nt hb0 (eh hb1) (by rw[dI] at hb2;omega) (kS hb3)).symm|(rw[dI] at hb2;rw[jF hb0 (eh hb1) (by rw[Oj (by omega)] at g2;exact g2)];first|rw[if_pos (by omega)]|rw[if_neg (by omega)])
   ·(intro hb1;refine al (sq ?_ ?_);·have:=ns s [45];have hC:s.length<70368744177664:=hC;omega);(refine au (bM (fun(z:Nat)=>(⟨[(0,.l (.z .str s)),(3,.l (.z .str (ay s [45]))),(4,.l (.z (.int .i64) 0)),(10,.l (.z (.slice (.int .u8)) (bytesOf (ay s [45])))),(11,.l (.z (.int .i64) ((bytesOf (ay s [45])).length:Int))),(12,.l (.z (.int .i64) (z:Int)))],[]⟩:aa)) (fun z=>z<=(ay s [45]).length/\(OM z (ay s [45])).all gU=true) (fun z=>(ay s [45]).length-z) 0 ?_ ?_ ?_);·refine q_l ?_;rfl);·exact⟨PM _,rfl⟩
    ·rintro k ⟨g1,g2⟩;(try dsimp only at g1 g2);have hS:(ay s [45]).length<70368744177664:=PP (ns s _) hC;refine sg ?_;refine al (qc ?_ ?_)
     ·(intro hb2;refine aC (ag (al (au (sq ?_ ?_))));·exact⟨by omega,hb2⟩);(refine sq ?_ ?_;·exact⟨fun h=>h,fun h=>by rw[h];rfl⟩);refine qc ?_ ?_;·intro hb3;refine sg ?_;refine bN (kM rfl ?_);refine aQ (aI (kM rfl ?_));refine aQ (aH (qm ?_));first|(rw[hb0];exact kR.symm)|exact(jE hb0 ((iv _).1 hb1)).symm|exact(nt hb0 (eh hb1) (by rw[dI] at hb2;omega) (kS hb3)).symm|(rw[dI] at hb2;rw[jF hb0 (eh hb1) (by rw[Oj (by omega)] at g2;exact g2)];first|rw[if_pos (by omega)]|rw[if_neg (by omega)])
      ·intro hb3;refine aC (aR (ag (rg ?_)));refine qm ?_;rw[dI] at hb2;exact⟨k+1,by rw[wo];simp,by omega,tL g2 (Ee hb3),by omega⟩
     ·(intro hb2;refine bN (aQ (aI (aH (ag (sg ?_)))));refine qc ?_ ?_;·intro hb4;refine rg ?_;refine aR (qm ?_);first|(rw[hb0];exact kR.symm)|exact(jE hb0 ((iv _).1 hb1)).symm|exact(nt hb0 (eh hb1) (by rw[dI] at hb2;omega) (kS hb3)).symm|(rw[dI] at hb2;rw[jF hb0 (eh hb1) (by rw[Oj (by omega)] at g2;exact g2)];first|rw[if_pos (by omega)]|rw[if_neg (by omega)]));·intro hb4;refine aC (aR (qm ?_));first|(rw[hb0];exact kR.symm)|exact(jE hb0 ((iv _).1 hb1)).symm|exact(nt hb0 (eh hb1) (by rw[dI] at hb2;omega) (kS hb3)).symm|(rw[dI] at hb2;rw[jF hb0 (eh hb1) (by rw[Oj (by omega)] at g2;exact g2)];first|rw[if_pos (by omega)]|rw[if_neg (by omega)])
 rintro z hz;try dsimp only at hz
 refine sg ?_;refine aK (pC (qe [] ?_));exact hz
def Dc(B:av):Tab:=mT B [(3,(.int .i64)),(4,.bool),(9,.str),(78,(.slice (.int .u32))),(80,tyW),(138,(.int .u32)),(190,(.int .u64))] [(78,138)] [(140,ew),(174,gN),(176,wc)] [] 44
def A5:Con:=c1 .str (fun s=>RF s/\s.length<CAP) (fun s=>[.z tyW (enc (bK s))])
theorem Fg{B:av}(hB:bc B):Valid B prog 132 A5:=by
 refine v1 (mg (T:=Dc B) (tc ty3 (tc ty4 (tc ty9 (tc iR (tc fZ (tc gb (tc nB ah))))))) (bo (by kernel_rfl) aj) (aM (cc func140 (kj hB) (cc func174 (CO hB) (cc func176 (Ja hB) aF))))) func132 ?_;intro s hC X hP hT hr hG;have hX:=ai Dc.eq_1<|ai cx<|ai wc.eq_1<|ai gN.eq_1<|ew.eq_1;simp only[f132,aD,af,ioB];refine sg ?_;refine sg ?_;refine sg ?_;refine al (sg ?_);refine au (bM (fun(z:Nat×List Int)=>(⟨[(3,.l (.z .str (ay s [45]))),(5,.l (.z (.int .i64) (((ay s [45]).length:Int)-9*(z.1:Int)))),(4,.l (.ownP 4 0)),(2,.l (.ownP 2 0))],[(4,.box 80 [.z .bool (decide ((ay s [45]).length<s.length)),.ownS 37]),(37,.arr (.int .u32) 138 z.2),(2,.box 80 [.z .bool false,.val (.slice none 0 0)])]⟩:aa)) (fun z=>ReadPhi (ay s [45]) z.1 z.2) (fun z=>(ay s [45]).length+9-9*z.1) (0,[]) ?_ ?_ ?_);·refine q_l ?_;exact⟨by show ((ay s [45]).length:Int)=((ay s [45]).length:Int)-9*((0:Nat):Int);omega,by congr 1;simp,by unfold ioB;omega⟩
 ·exact read_start
 ·rintro⟨r,out⟩ hz;try dsimp only at hz
  obtain⟨d1,d2,d4⟩:=wt hC.1;have d3:(ay s [45]).length<1000000000000:=PP (ns s _) hC.2;have hz1:=hz.1;have hz4:=hz.2.2.2;refine al (sg ?_);refine qc ?_ ?_
  ·intro hb0;refine aC (ag (al (au (sq ?_ ?_))));·obtain⟨e1,e2,e3⟩:=uJ hb0 d3;obtain⟨q1,q2,q3,q4,q5⟩:=read_next d1 hz hb0 rfl;rw[e1,e2,e3];exact⟨⟨by omega,by omega,by omega⟩,q1,q2,q3⟩
   (refine rq ?_ ?_;·unfold Cm.Roomy;omega);refine aR (ag (rg ?_));refine qm ?_;obtain⟨e1,e2,e3⟩:=uJ hb0 d3;obtain⟨q1,q2,q3,q4,q5⟩:=read_next d1 hz hb0 rfl;rw[e1,e2,e3];exact⟨r+1,by show ((ay s [45]).length:Int)-9*(r:Int)-9=((ay s [45]).length:Int)-9*((r+1:Nat):Int);omega,q4,by omega⟩
  ·(intro hb0;refine bN (aQ (aI (aH (ag (sq ?_ ?_)))));·exact⟨hz.2.1,by unfold CAP;omega⟩);refine aK (qe [37] ?_);rw[read_end hz hb0]
def Dd(B:av):Tab:=mT B [(3,(.int .i64)),(9,.str),(82,tyN)] [] [(132,A5),(133,kk),(149,Ff)] [] 23
def zh:Con:=c1 .str (fun q=>ga q) (fun q=>[.z tyN (fY q)])
theorem vF{B:av}(hB:bc B):Valid B prog 82 zh:=by
 refine v1 (mg (T:=Dd B) (tc ty3 (tc ty9 (tc ty82 ah))) aj (aM (cc func132 (Fg hB) (cc func133 (qy hB) (cc func149 (vE hB) aF))))) func82 ?_;intro q hC X hP hT hr hG;have hX:=ai Dd.eq_1<|ai cx<|ai Ff.eq_1<|ai A5.eq_1<|kk.eq_1;simp only[f82,aD,af,ioB];refine sg ?_;refine sq ?_ ?_;·exact(oD hC).1
 refine al (sg ?_);refine qc ?_ ?_
 ·intro hb0;refine sq ?_ ?_;·exact⟨(oD hC).2.1,by unfold I64;omega⟩
  refine aK (aO (qe [] ?_));exact GY hb0
 ·intro hb0;refine aC (ag (sq ?_ ?_));·rw[kX hb0];exact(oD hC).2
  refine aK (qe [] ?_);rw[kX hb0];rfl
def De(B:av):Tab:=mT B [(3,(.int .i64)),(9,.str),(23,(.int .i64)),(26,.str),(80,tyW),(82,tyN),(181,(.st (.pair tyN (.int .i64))))] [] [(72,IK),(82,zh),(129,A4),(133,kk),(146,A3),(149,Ff),(175,zg),(185,xb)] [] 61
def A6:Con:=c1 .str (fun q=>q.length<=QL) (fun q=>[.z (.st (.pair tyN (.int .i64))) (kW q)])
theorem Fh{B:av}(hB:bc B):Valid B prog 145 A6:=by
 refine v1 (mg (T:=De B) (tc ty3 (tc ty9 (tc sl (tc wG (tc fZ (tc ty82 (tc KK ah))))))) aj (aM (cc func72 (CQ hB) (cc func82 (vF hB) (cc func129 (Kx hB) (cc func133 (qy hB) (cc func146 (Fc hB) (cc func149 (vE hB) (cc func175 (CX hB) (cc func185 (Fe hB) aF)))))))))) func145 ?_;intro q hC X hP hT hr hG;have hX:=ai De.eq_1<|ai cx<|ai A4.eq_1<|ai IK.eq_1<|ai Ff.eq_1<|ai zh.eq_1<|ai zg.eq_1<|ai A3.eq_1<|ai xb.eq_1<|kk.eq_1;simp only[f145,aD,af,ioB];refine sg ?_;refine sq ?_ ?_;·have h9:q.length<=1000000000:=hC;omega
 refine fz (fun(z:Unit)=>(⟨[(0,.l (.z .str q)),(2,.l (.ownP 2 0)),(3,.l (.z .str (tN q))),(4,.l (.z .str (tD q))),(5,.l (.z .bool (cB q)))],[(2,.box 181 [.z .bool false,.val (.slice none 0 0),.z .bool false,.val (.slice none 0 0),.z (.int .i64) 0])]⟩:aa)) (fun z=>True) ?_ ?_
 ·refine sg ?_;refine qc ?_ ?_;·intro hb0;refine rg ?_;refine qm ?_;first|exact wz hb0|exact kX hb0
  ·intro hb0;refine aC (qm ?_);first|exact wz hb0|exact kX hb0
 rintro⟨⟩-;have hS:=GZ hC;refine al (sq ?_ ?_);·exact⟨hS.1,fun h=>⟨h,hS.2⟩,fun h=>h,fun h=>by rw[h];rfl⟩
 refine qc ?_ ?_;·intro hb1;refine sg ?_;refine aK (aO (qe [] ?_));exact Jt hb1
 ·intro hb1;have hF:=Js hC hb1;refine aC (ag (sq ?_ ?_));·exact hF
  refine sg ?_;refine sq ?_ ?_;·unfold I64;omega
  refine al (au (sd ?_ ?_));·simp only[pe,fY,bG];exact⟨fun h=>⟨h,enc_ok _,enc_ok _,M5 hF⟩,fun h=>h,fun h=>h,fun h=>⟨h,Lq hF⟩,fun h=>⟨h,enc_ok _,enc_ok _,M6 hF⟩,fun h=>h,fun h=>⟨h,fun h2=>by rw[h,h2];rfl⟩,fun h=>h⟩
  refine qc ?_ ?_;·intro hb2;simp only[pe,fY,bG] at hb2;refine sg ?_;refine aK (bn (aO (qe [] ?_)));exact Ju hF hb2
  ·(intro hb2;simp only[pe,fY,bG] at hb2;have hR:=M7 hF hb2;refine sq ?_ ?_;·exact Jv hR);refine qc ?_ ?_;·intro hb3;refine sg ?_;refine aK (bn (aO (qe [] ?_)));exact Ls hR hb3
   ·intro hb3;refine aC (aR (ag (sg ?_)));refine aK (qe [] ?_);exact M8 hR hb3
def Df(B:av):Tab:=mT B [(26,.str),(181,(.st (.pair tyN (.int .i64))))] [] [(145,A6)] [] 6
def nW:Con:=c1 .str (fun q=>q.length<=QL) (fun q=>[.z (.int .i64) (cM q)])
theorem vG{B:av}(hB:bc B):Valid B prog 79 nW:=by
 refine v1 (mg (T:=Df B) (tc wG (tc KK ah)) aj (aM (cc func145 (Fh hB) aF))) func79 ?_;intro q hC X hP hT hr hG;have hX:=ai Df.eq_1<|ai cx<|A6.eq_1;simp only[f79,aD,af,ioB];refine sg ?_;refine sq ?_ ?_;·exact hC
 refine aK (qe [] ?_);exact Ew q
def Dg(B:av):Tab:=mT B [(3,(.int .i64)),(26,.str),(27,(.slice .str)),(73,tyP)] [(73,82)] [(82,zh)] [18] 22
def zi:Con:=c1 (.slice .str) (fun l=>l.length<QL/\∀q∈l,ga q) (fun l=>[.own tyN 82 (l.map fY)])
theorem vH{B:av}(hB:bc B):Valid B prog 86 zi:=by
 refine v1 (mg (T:=Dg B) (tc ty3 (tc wG (tc pX (tc Lx ah)))) (bo (by kernel_rfl) aj) (aM (cc func82 (vF hB) aF))) func86 ?_;intro l hC X hP hT hr hG;have hX:=ai Dg.eq_1<|ai cx<|zh.eq_1;simp only[f86,aD,af,ioB];have hl:l.length<1000000000:=hC.1;refine sg ?_;refine sq ?_ ?_;·exact⟨by omega,by omega,wA (by omega)⟩
 refine al (sg ?_);refine au (bM (fun(z:Nat)=>(⟨[(3,.l (.ownS 8)),(9,.l (.z (.slice .str) l)),(10,.l (.z (.int .i64) (l.length:Int))),(11,.l (.z (.int .i64) (z:Int)))],[(8,.arr tyN 82 ((l.take z).map fY))]⟩:aa)) (fun z=>z<=l.length) (fun z=>l.length-z) 0 ?_ ?_ ?_);·refine q_l ?_;exact⟨rfl,rfl⟩
 ·omega
 ·rintro k g1;try dsimp only at g1
  refine sg ?_;refine al (qc ?_ ?_)
  ·(intro hb0;refine aC (ag (al (au (sq ?_ ?_))));·exact⟨by omega,hb0⟩);(refine rq ?_ ?_;·exact⟨hC.2 _ (At (t:= .str) (by omega)),wA (by simp;omega)⟩);refine aR (ag (rg ?_));refine qm ?_;exact list_round (by omega) hC.1
  ·intro hb0;refine bN (aQ (aI (aH (ag (sg ?_)))));refine aK (qe [] ?_);exact⟨trivial,by rw[Oj (by omega)]⟩
def Dh(B:av):Tab:=mT B [(3,(.int .i64)),(74,tyP),(82,tyN)] [] [(90,gy)] [] 25
def MH:Con:=c1 tyP (fun p=>Sz QC p/\p.length<=QL) (fun p=>[.z tyP (aw (br (ab p)))])
theorem A7{B:av}(hB:bc B):Valid B prog 143 MH:=by
 refine v1 (mg (T:=Dh B) (tc ty3 (tc jq (tc ty82 ah))) aj (aM (cc func90 (ix hB) aF))) func143 ?_;intro p hC X hP hT hr hG;have hX:=ai Dh.eq_1<|ai cx<|gy.eq_1;simp only[f143,aD,af,ioB];obtain⟨l0,rfl,hl0⟩:=hC.1.ex;have hn:=hC.2;rw[aq] at hn;have hn:l0.length<=1000000000:=hn;refine sg ?_;refine al (au (bM (fun(z:List Rat)=>(⟨[(0,.l (.z tyP (aw z))),(2,.l (.val (.slice none 0 0)))],[]⟩:aa)) (fun z=>z.length<=l0.length/\(∀x∈z,lq x<=QC)/\br z=br l0) (fun z=>z.length) l0 ?_ ?_ ?_));·simp only[ml0,ml1,N8,AS,IT,N3,No,AT,N4,N5,reduceIte,reduceDIte,reduceCtorEq]
 ·exact⟨Oa _,hl0,rfl⟩
 ·rintro l ⟨g1,g2,g3⟩;try dsimp only at g1 g2 g3
  refine al (sq ?_ ?_);·have hs:=uK (l:=l) (by omega);exact⟨id,id,hs.2,id,hs.1,id⟩
  refine qc ?_ ?_
  ·(intro hb0;have ht:=G1 (by omega) hb0.1 hb0.2;obtain⟨n1,n2,n3,n4,n5⟩:=uL (by omega) g1 g2 g3 ht;refine aC (ag (au (rq ?_ ?_)));·rw[aq,dj (by omega)];exact⟨by omega,by omega,by omega,by omega⟩);refine aR (qm ?_);exact⟨l.dropLast,n1,n2,n3,n4,n5⟩
  ·intro hb0;have ht:=G2 (l:=l) (by omega) hb0;refine bN (aQ (aI (aH (ag (sg ?_)))));refine aK (qe [] ?_);rw[aA,<- g3,ht]
def kl(B:av):Tab:={types:=[(3,(.int .i64)),(74,tyP),(82,tyN)],elems:=[],cons:=[(90,gy)],hint:=[23],N:=25,free:=[10000000],base:=B}
theorem zj{B:av}(hB:bc B):aV prog (kl B):=mg (T:=kl B) (tc ty3 (tc jq (tc ty82 ah))) aj (aM (cc func90 (ix hB) aF))
def IU:Con:=fun l os=>match l,os with
 | [.ownS 10000000],[.arr (.st (.pair (.st (.pair .bool (.slice (.int .u32)))) (.st (.pair .bool (.slice (.int .u32)))))) 82 p]=>some (Sz QC p/\p.length<=QL,[.own tyN 82 (aw (br (ab p)))],[.arr tyN 82 []])
 |_,_=>none
theorem A8{B:av}(hB:bc B):Valid B prog 143 IU [0]:=by
 refine px (T:=kl B) (zj hB).tab func143 rfl rfl rfl (Jw (by simp only[kl];decide)) ?_;intro args os C rs os' hc hC;unfold IU at hc;split at hc;case h_2=>cases hc
 rename_i p;cases hc;refine v_h (zj hB) fun X hP hT hr hG=>?_;have hU:=kl.eq_1;unfold kl at hT;have hX:=ai @cx<|ai @gy.eq_1<| @b8.eq_def;simp only[f143,aD,af,ioB];obtain⟨l0,rfl,hl0⟩:=hC.1.ex;have hn:=hC.2;rw[aq] at hn;have hn:l0.length<=1000000000:=hn;refine F6 10000000 1 (by simp only[hT,kl,mx0,mx1,mx2,mx3,mx4,mx5,mx6,N8,AS,IT,N3,No,AT,N4,N5,reduceIte,reduceDIte,reduceCtorEq];rfl) ?_;refine s_g hG ?_;refine al (au (bM (fun(z:List Rat)=>(⟨[(0,.l (.ownS 1)),(2,.l (.val (.slice none 0 0)))],[(1,.arr tyN 82 (aw z)),(10000000,.arr tyN 82 [])]⟩:aa)) (fun z=>z.length<=l0.length/\(∀x∈z,lq x<=QC)/\br z=br l0) (fun z=>z.length) l0 ?_ ?_ ?_));·simp only[ml0,ml1,N8,AS,IT,N3,No,AT,N4,N5,reduceIte,reduceDIte,reduceCtorEq]
 ·exact⟨Oa _,hl0,rfl⟩
 ·rintro l ⟨g1,g2,g3⟩;try dsimp only at g1 g2 g3
  refine al (s_q hG ?_ ?_)
  ·(try simp only[ba]);have hs:=uK (l:=l) (by omega);exact⟨id,id,hs.2,fun h=>⟨h,by have:=(hs.2 h).2;omega⟩,hs.1,id⟩
  refine bw ?_ ?_
  ·intro hb0;(try simp only[bt] at hb0);have ht:=G1 (by omega) hb0.1 hb0.2;obtain⟨n1,n2,n3,n4,n5⟩:=uL (by omega) g1 g2 g3 ht;refine aC (ag (au (aU hG ?_ ?_)))
   ·(try simp only[ba]);rw[aq,dj (by omega)];exact⟨by omega,by omega,by omega,by omega⟩
   refine aR (qm ?_);exact⟨l.dropLast,n1,n2,n3,n4,n5⟩
  ·intro hb0;(try simp only[bf] at hb0);have ht:=G2 (l:=l) (by omega) hb0;refine bN (aQ (aI (aH (ag (s_g hG ?_)))));refine aK (q_e [] ?_);exact⟨⟨trivial,by rw[aA,<- g3,ht]⟩,trivial,trivial⟩
def gd:Con:=fun l os=>match l,os with
 | [.z (.slice (.st (.pair (.st (.pair .bool (.slice (.int .u32)))) (.st (.pair .bool (.slice (.int .u32))))))) p],[]=>some (Sz QC p/\p.length<=QL,[.z tyP (aw (br (ab p)))],[])
 | [.ownS 10000000],[.arr (.st (.pair (.st (.pair .bool (.slice (.int .u32)))) (.st (.pair .bool (.slice (.int .u32)))))) 82 p]=>some (Sz QC p/\p.length<=QL,[.own tyN 82 (aw (br (ab p)))],[.arr tyN 82 []])
 |_,_=>none
theorem Fi{B:av}(hB:bc B):Valid B prog 143 gd [0]:=by
 intro args os C rs os' hc hC;unfold gd at hc;split at hc;·cases hc;exact G3 (A7 hB) _ _ _ _ _ rfl hC
 ·cases hc;exact A8 hB _ _ _ _ _ rfl hC
 ·cases hc
def Di(B:av):Tab:=mT B [(3,(.int .i64)),(23,(.int .i64)),(26,.str),(27,(.slice .str))] [] [(79,nW),(86,zi)] [] 33
def A9:Con:=c1 (.slice .str) (fun p=>cQ p) (fun p=>[.z tyP (aw (dt p)),.z (.int .i64) (dx p)])
theorem Fj{B:av}(hB:bc B):Valid B prog 144 A9:=by
 refine v1 (mg (T:=Di B) (tc ty3 (tc sl (tc wG (tc pX ah)))) aj (aM (cc func79 (vG hB) (cc func86 (vH hB) aF)))) func144 ?_;intro p hC X hP hT hr hG;have hX:=ai Di.eq_1<|ai cx<|ai nW.eq_1<|zi.eq_1;simp only[f144,aD,af,ioB];have hl:p.length<1000000000+1:=by have:=hC.1;unfold QL at this;omega
 refine sg ?_;refine al (sg ?_);refine qc ?_ ?_
 ·intro hb0;have hl41:41<p.length:=by have h9:(41:Int)<(p.length:Int):=hb0;omega
  refine sg ?_;refine aK (aO (qe [] ?_));exact sw (AF hl41)
 ·intro hb0;have hl41:p.length<=41:=by have h9:¬(41:Int)<(p.length:Int):=hb0;omega
  refine aC (ag (al (sg ?_)));refine au (bM (fun(z:Nat)=>(⟨[(0,.l (.z (.slice .str) p)),(2,.l (.val (.slice none 0 0))),(3,.l (.z (.int .i64) 0)),(9,.l (.z (.slice .str) p)),(10,.l (.z (.int .i64) (p.length:Int))),(11,.l (.z (.int .i64) (z:Int)))],[]⟩:aa)) (fun z=>z<=p.length/\(p.take z).all (fun q=>decide (cM q=0))=true) (fun z=>p.length-z) 0 ?_ ?_ ?_);·refine q_l ?_;rfl
  ·exact⟨by omega,rfl⟩
  ·rintro k ⟨g1,g2⟩;(try dsimp only at g1 g2);refine sg ?_;refine al (qc ?_ ?_)
   ·(intro hb1;(have hk:k<p.length:=by have h9:(k:Int)<(p.length:Int):=hb1;omega);refine aC (ag (al (au (sq ?_ ?_))));·exact⟨by omega,hb1⟩);(refine sq ?_ ?_;·exact hC.2 _ (At (t:= .str) hk));refine qc ?_ ?_;·intro hb2;refine sg ?_;refine aK (bn (aO (gJ (bn (aO (qe [] ?_))))));exact sw (EH hk hl41 hb2)
    ·intro hb2;refine aC (aR (ag (rg ?_)));refine qm ?_;exact⟨k+1,wo,hk,sv hk g2 hb2,by omega⟩
   ·(intro hb1;(have hk:k=p.length:=by have h9:¬(k:Int)<(p.length:Int):=hb1;omega);subst hk;rw[OD] at g2;refine bN (aQ (aI (aH (ag (al (sq ?_ ?_))))));·exact AE hl41);refine qc ?_ ?_;·intro hb3;refine sg ?_;refine aK (aO (qe [] ?_));exact sw (AG hl41 g2 hb3)
    ·(intro hb3;refine aC (ag (sq ?_ ?_));·exact⟨by unfold QL;omega,(gv hC g2).1⟩);refine aK (qe [] ?_);exact Hq hC hl41 g2 hb3
def Dj(B:av):Tab:=mT B [(3,(.int .i64)),(74,tyP),(82,tyN)] [(74,82)] [(92,ee)] [] 25
def mL:Con:=c1 tyP (fun p=>mA p) (fun p=>[.z tyP (aw (bk (ab p)))])
theorem oX{B:av}(hB:bc B):Valid B prog 154 mL:=by
 refine v1 (mg (T:=Dj B) (tc ty3 (tc jq (tc ty82 ah))) (bo (by kernel_rfl) aj) (aM (cc func92 (jL hB) aF))) func154 ?_;intro p hC X hP hT hr hG;have hX:=ai Dj.eq_1<|ai cx<|ee.eq_1;simp only[f154,aD,af,ioB];have hl:p.length<=1000:=hC.2.1;refine sg ?_;refine sg ?_;refine al (sg ?_);refine au (bM (fun(z:Nat)=>(⟨[(0,.l (.z tyP p)),(3,.l (.ownS 22)),(6,.l (.z tyP p)),(7,.l (.z (.int .i64) (p.length:Int))),(8,.l (.z (.int .i64) (z:Int)))],[(22,.arr tyN 82 (aw ((ab p).take z|>.map fun c=>c/ao (ab p))))]⟩:aa)) (fun z=>z<=p.length) (fun z=>p.length-z) 0 ?_ ?_ ?_);·refine q_l ?_;exact⟨rfl,by unfold ioB;omega,rfl⟩
 ·omega
 ·rintro k g1;try dsimp only at g1
  refine sg ?_;refine al (qc ?_ ?_)
  ·(intro hb0;obtain⟨m1,m2,m3,m4,m5,m6⟩:=G7 hC (k:=k) (by omega);refine aC (ag (al (au (sq ?_ ?_))));·exact⟨by omega,hb0⟩);refine wW 22 73 (by simp only[aa.toRow,LV.toRow,ioB,mx0,mx1,mx2,mx3,mx4,mx5,mx6,N8,AS,IT,N3,No,AT,N4,N5,reduceIte,reduceDIte,reduceCtorEq];rfl) ?_;refine rd ?_ ?_;·simp only[pe2];rw[m1,m2];exact⟨m3,⟨m4,by rw[ar];exact m5⟩,rfl,m6⟩
   refine aR (ag (wX 22 1 (by simp only[aa.ofRow,LV.ofRow,ioB,QJ,Ql,Pr,OY,OS,PI,O3,OV,mx0,mx1,mx2,mx3,mx4,mx5,mx6,N8,AS,IT,N3,No,AT,N4,N5,reduceIte,reduceDIte,reduceCtorEq];rfl) ?_));refine rg ?_;refine qm ?_;simp only[pe2];rw[m1,m2];simp only[ar];exact Ez hC (by omega)
  ·intro hb0;refine bN (aQ (aI (aH (ag (sg ?_)))));refine aK (qe [] ?_);exact Jz (by omega)
def Dk(B:av):Tab:=mT B [(3,(.int .i64)),(74,tyP),(82,tyN)] [(74,82)] [(69,eP),(93,oW)] [] 24
def lx:Con:=c1 tyP (fun p=>Sz QH p/\p.length<=1000) (fun p=>[.z tyP (aw (a7 (ab p)))])
theorem vI{B:av}(hB:bc B):Valid B prog 151 lx:=by
 refine v1 (mg (T:=Dk B) (tc ty3 (tc jq (tc ty82 ah))) (bo (by kernel_rfl) aj) (aM (cc func69 (lW hB) (cc func93 (iy hB) aF)))) func151 ?_;intro p hC X hP hT hr hG;have hX:=ai Dk.eq_1<|ai cx<|ai eP.eq_1<|oW.eq_1;simp only[f151,aD,af,ioB];have hl:p.length<=1000:=hC.2;refine sg ?_;refine sg ?_;refine al (sg ?_);refine au (bM (fun(z:Nat)=>(⟨[(3,.l (.ownS 21)),(6,.l (.z tyP p)),(7,.l (.z (.int .i64) (p.length:Int))),(8,.l (.z (.int .i64) (z:Int)))],[(21,.arr tyN 82 (aw (kY (ab p) z)))]⟩:aa)) (fun z=>z<=p.length) (fun z=>p.length-z) 0 ?_ ?_ ?_);·refine q_l ?_;exact⟨rfl,by unfold ioB;omega,rfl⟩
 ·omega
 ·rintro k g1;try dsimp only at g1
  refine sg ?_;refine al (qc ?_ ?_)
  ·(intro hb0;obtain⟨m1,m2,m3,m4⟩:=G8 hC.1 hl (k:=k) (by omega);refine aC (ag (al (au (sq ?_ ?_))));·exact⟨by omega,hb0⟩);refine sg ?_;refine qc ?_ ?_
   ·(intro hb1;refine wW 21 73 (by simp only[aa.toRow,LV.toRow,ioB,mx0,mx1,mx2,mx3,mx4,mx5,mx6,N8,AS,IT,N3,No,AT,N4,N5,reduceIte,reduceDIte,reduceCtorEq];rfl) ?_;refine rd ?_ ?_;·simp only[pe2];rw[m2];exact⟨m1,m3,rfl,m4⟩);refine aR (ag ?_);(first|refine wX 21 1 (by simp only[aa.ofRow,LV.ofRow,ioB,QJ,Ql,Pr,OY,OS,PI,O3,OV,mx0,mx1,mx2,mx3,mx4,mx5,mx6,N8,AS,IT,N3,No,AT,N4,N5,reduceIte,reduceDIte,reduceCtorEq];rfl) ?_|skip);refine rg ?_;refine qm ?_;first|exact yk hl (by omega) (by omega)|(simp only[pe2];rw[m2];simp only[ar];exact uO hl (by omega) (by omega))
   ·intro hb1;refine aC (aR (ag ?_));(first|refine wX 21 1 (by simp only[aa.ofRow,LV.ofRow,ioB,QJ,Ql,Pr,OY,OS,PI,O3,OV,mx0,mx1,mx2,mx3,mx4,mx5,mx6,N8,AS,IT,N3,No,AT,N4,N5,reduceIte,reduceDIte,reduceCtorEq];rfl) ?_|skip);refine rg ?_;refine qm ?_;first|exact yk hl (by omega) (by omega)|(simp only[pe2];rw[m2];simp only[ar];exact uO hl (by omega) (by omega))
  ·intro hb0;refine bN (aQ (aI (aH (ag (sg ?_)))));refine aK (qe [] ?_);rw[show k=(ab p).length by rw[az];omega];rfl
end Go.Proofs.YtppnhclgaeodoaaGreatDoor
end
section
namespace Go.Proofs
open Go.RowKit Go.Cm Go.Shelf
attribute [local go_sem] Oper.semAt_some
set_option maxHeartbeats 2000000 in
set_option maxRecDepth 100000 in
theorem Ba(ad:Addr)(n c:Nat)(news:List Value)(w:World)(hl:news.length=n*4)(hn:n<=maxLen)(hbig:n*64<=140737488355328)
  (hc:∀j u,news[j]? =some u->w.cell? (ad.add j)=some u) (h1:∀u∈news,u.oneCell'=true):
  Calls Tryz.prog 190 #[.slice (some ad) n c] w fun e w'=>∃v',e= .returned v'/\w'.ownsRow w.heap.size 82 4 v' n news/\Below w.heap.size w w':=by
 have t4:=Tryz.underlying4;have a4:=Tryz.isAgg4;have z4:=Tryz.sizeOf4;have v4:=Tryz.zeroValue4;have t22:=Tryz.underlying74;have a22:=Tryz.isAgg74;have z22:=Tryz.sizeOf74;have v22:=Tryz.zeroValue74;obtain⟨i0,hi,hz0,hz1,hz2⟩:=info_parts (show (Tryz.prog.info? 82).map (fun i=>(i.zero,i.size,i.bytes))=some (some (.agg zc4.toArray),4,64) by kernel_rfl);have q22:∀(w:World) (a:Option Addr) (n c n' c':Nat),(binOp .eql 74 (.slice a n c) (.slice none n' c')).run Tryz.prog w= .ok (.bool a.isNone) w:=fun w a n c n' c'=>TA w _ _ a n c n' c' t22;have u22:∀w,Sem.run Tryz.prog (underlying 74) w= .ok (TypeDesc.slice 82) w:=run_underlying t22;have z23:∀w,(Go.sizeOf 82).run Tryz.prog w= .ok 4 w:=fun w=>by simp[Go.sizeOf,typeInfo,hi,hz1]
 have A:Aside (∀j u,news[j]? =some u->w.cell? (ad.add j)=some u):=hc;clear hc
 go_enter Tryz.func190,Tryz.ntmps190
 go_wp2_with (at_builtin;refine wpList_append_own _ rfl _ _ 74 rfl w.heap.size 82 i0 (.agg zc4.toArray) 4 64 t22 hi hz0 hz1 hz2 rfl (by omega) _ _ _ rfl (World.ownsRow_made w #[] 0 (Oa _) (PM _) (by simp)) ad n c news rfl ?qc1 ?qc2 ?qc3 ?qc4 ?qc5 ?qc6 ?_)
 case qc1=>exact hl
 case qc2=>
  intro j u hj;exact Lib.cell?_alloc_some _ (A.out j u hj)
 case qc3=>exact h1
 case qc4=>rw[Oz];exact hn
 case qc5=>rw[Oz];exact hbig
 case qc6=>simp
 intro v' w1 hown hgrow hnil
 go_wp2
 go_ret
 refine⟨v',rfl,by simpa using hown,?_⟩;exact((Below.refl _ w).alloc (Oa _) _).grown hgrow (by simp) (by intro k hk;simp[Value.ownBlock] at hk;omega)
set_option maxHeartbeats 1000000 in
theorem Fk(n c:Nat)(w:World):Calls Tryz.prog 190 #[.slice none n c] w fun e w'=>e= .returned (.slice none 0 0)/\w'=w:=by
 have t4:=Tryz.underlying4;have a4:=Tryz.isAgg4;have z4:=Tryz.sizeOf4;have v4:=Tryz.zeroValue4;have t22:=Tryz.underlying74;have a22:=Tryz.isAgg74;have z22:=Tryz.sizeOf74;have v22:=Tryz.zeroValue74;have q22:∀(w:World) (a:Option Addr) (n c n' c':Nat),(binOp .eql 74 (.slice a n c) (.slice none n' c')).run Tryz.prog w= .ok (.bool a.isNone) w:=fun w a n c n' c'=>TA w _ _ a n c n' c' t22
 go_enter Tryz.func190,Tryz.ntmps190
 go_wp2
 go_ret
 exact⟨rfl,rfl⟩
def dn:Con:=fun l os=>match l,os with
 | [.z (.slice (.st (.pair (.st (.pair .bool (.slice (.int .u32)))) (.st (.pair .bool (.slice (.int .u32))))))) xs],[]=>some (xs.length<=QL,[.own tyN 82 xs],[])
 |_,_=>none
theorem Fl{B:av}(hB:bc B):Valid B Tryz.prog 190 dn:=by
 intro args os C rs os' hc hC O w vals ρ0 hOn hIo hO hOI hargs hown hap;unfold dn at hc;split at hc;case h_2=>cases hc
 rename_i xs;cases hc;obtain⟨u,rfl,hu⟩:=wb hargs;obtain⟨cells,hr,h⟩:=iu hu;have hl:=bu (fun c x h=>NT.rep_length h) hr;have hC:xs.length<=1000000000:=hC;have hmove:∀w':World,Below w.heap.size w w'->∀H:Nat->Prop,(∀b,b<w.heap.size->H b->O b)->cC (fun c x=>NT.rep H w' c x) cells xs:=
  fun w' hb H hH=>aS (fun b hlt hb=> .inl (hH b hlt hb)) (fun b _ hlt=>hb.block b (cg hlt)) hr
 rcases h with⟨rfl,h0,rfl⟩|⟨ad,c,rfl,hc⟩;·refine(Fk 0 0 w).mono fun e w' ⟨he,hw⟩=>?_;subst he;subst hw;exact wF hO (Below.refl _ _) ⟨_,_,_,rfl⟩ (hmove _ (Below.refl _ _)) ⟨by simp[h0],.inl ⟨rfl,h0⟩⟩
 ·refine(Ba ad xs.length c cells w hl (by unfold maxLen;omega) (by omega) hc (eS hr)).mono fun e w' ⟨v',he,hrow,hb⟩=>?_;subst he;obtain⟨h1,h2⟩:=hrow;refine wF hO hb ?_ (hmove _ hb) ⟨h1,?_⟩;·rcases h2 with⟨rfl,_⟩|⟨g,cap,cur,rfl,_⟩<;>exact⟨_,_,_,rfl⟩
  ·(rcases h2 with h2|⟨g,cap,cur,e1,e2,e3,e4,e5,e6,e7⟩;·exact .inl h2);·exact .inr ⟨g,cap,cur,e1,e2,e3,e4,e5,by rw[e6];exact Oa _,e7⟩
end Go.Proofs
end
section
namespace Go.Proofs.YtppnhclgaeodoaaGreatDoor
open Go Go.Cm Go.Proofs Tryz
def de(B:av):Tab:={types:=[(3,(.int .i64)),(74,tyP),(82,tyN)],elems:=[(74,82)],cons:=[(69,eP),(77,fa),(92,ee),(127,fE),(128,eQ),(143,gd),(190,dn)],hint:=[],N:=78,io:=[(143,[0])],frees:=[(143,[0])],base:=B}
theorem zk{B:av}(hB:bc B):aV prog (de B):=mg (T:=de B) (tc ty3 (tc jq (tc ty82 ah))) (bo (by kernel_rfl) aj) (aM (cc func69 (lW hB) (cc func77 (oV hB) (cc func92 (jL hB) (cc func127 (uQ hB) (cc func128 (lX hB) (cc func143 (Fi hB) (cc func190 (Fl hB) aF))))))))
def nX:Con:=c2 tyP tyP (fun p q=>eb p q) (fun p q=>[.z tyP (aw (divN (ab p) (ab q)).1),.own tyN 82 (aw (divN (ab p) (ab q)).2)])
theorem lY{B:av}(hB:bc B):Valid B prog 152 nX:=by
 refine bh (zk hB).tab func152 rfl rfl rfl ?_;intro args os C rs os' hc hC;obtain⟨p,q,rfl,rfl,rfl,rfl,rfl⟩:=mC hc;refine v_h (zk hB) fun X hP hT hr hG=>?_;have hU:=de.eq_1;unfold de at hT;have hX:=ai @cx<|ai @dn.eq_1<|ai @ee.eq_1<|ai @eP.eq_1<|ai @fa.eq_1<|ai @fE.eq_1<|ai @gd.eq_1<|ai @eQ.eq_1<|ai @bO.eq_def<| @b8.eq_def;simp only[f152,aD,af,ioB];refine al ?_;have hl1:=hC.l1;have hl2:=hC.l2;have h0:=hC.h0;obtain⟨v1,v2,v3⟩:=Lw hC;refine bZ hG (by simp only[hT,de,bO.eq_def,b8.eq_def,dn,ee,eP,fa,fE,gd,eQ,cx,mx0,mx1,mx2,mx3,mx4,mx5,mx6,mT,effOp,endCall,callOp,appendOp,sliceLV,Ty.fieldTy,Ty.fieldOf,N8,AS,IT,N3,No,AT,N4,N5,reduceIte,reduceDIte,reduceCtorEq];rfl) ?_ ?_;·exact tt
 refine ag (al (bZ hG (by simp only[hT,de,bO.eq_def,b8.eq_def,dn,ee,eP,fa,fE,gd,eQ,cx,mx0,mx1,mx2,mx3,mx4,mx5,mx6,mT,effOp,endCall,callOp,appendOp,sliceLV,Ty.fieldTy,Ty.fieldOf,N8,AS,IT,N3,No,AT,N4,N5,reduceIte,reduceDIte,reduceCtorEq];rfl) ?_ ?_))
 ·try simp only[ba]
  show p.length<=1000000000;omega
 refine ag (al (bZ hG (by simp only[hT,de,bO.eq_def,b8.eq_def,dn,ee,eP,fa,fE,gd,eQ,cx,mx0,mx1,mx2,mx3,mx4,mx5,mx6,mT,effOp,endCall,callOp,appendOp,sliceLV,Ty.fieldTy,Ty.fieldOf,N8,AS,IT,N3,No,AT,N4,N5,reduceIte,reduceDIte,reduceCtorEq];rfl) ?_ ?_))
 ·try simp only[ba]
  rw[v1];exact⟨v2,v3⟩
 refine ag (al (au (F6 1104 1600 (by simp only[hT,de,mx0,mx1,mx2,mx3,mx4,mx5,mx6,N8,AS,IT,N3,No,AT,N4,N5,reduceIte,reduceDIte,reduceCtorEq];rfl) ?_)));refine bM (fun(z:Nat×List Rat×List Rat)=>(⟨[(0,.l (.z tyP p)),(1,.l (.z tyP q)),(6,.l (.ownS 1600)),(7,.l (.ownS 1184))],[(1600,.arr tyN 82 (aw z.2.1)),(1184,.arr tyN 82 (aw z.2.2))]⟩:aa)) (fun z=>DivPhi p q z.1 z.2.1 z.2.2) (fun z=>z.2.1.length) (p.length+1,ab p,N6 (p.length+1-q.length) 0) ?_ ?_ ?_;·refine q_l ?_;rw[v1,Od,hC.enc,yi];exact⟨rfl,rfl⟩
 ·exact div_start hC
 ·rintro⟨n,r,s⟩ hz;try dsimp only at hz
  refine al (al (bZ hG (by simp only[hT,de,bO.eq_def,b8.eq_def,dn,ee,eP,fa,fE,gd,eQ,cx,mx0,mx1,mx2,mx3,mx4,mx5,mx6,mT,effOp,endCall,callOp,appendOp,sliceLV,Ty.fieldTy,Ty.fieldOf,N8,AS,IT,N3,No,AT,N4,N5,reduceIte,reduceDIte,reduceCtorEq];rfl) ?_ ?_));·exact tt
  refine ag (bw ?_ ?_)
  ·(intro hb0;(try simp only[bt] at hb0);(have hle:q.length<=r.length:=by have h9:(q.length:Int)<=((aw r).length:Int):=hb0;rw[aq] at h9;omega);obtain⟨w1,w2,n1,n2,n3⟩:=Hb hC hz hle;have hk:=Na hC hz hle;refine aC (ag (au (al (bZ hG (by simp only[hT,de,bO.eq_def,b8.eq_def,dn,ee,eP,fa,fE,gd,eQ,cx,mx0,mx1,mx2,mx3,mx4,mx5,mx6,mT,effOp,endCall,callOp,appendOp,sliceLV,Ty.fieldTy,Ty.fieldOf,N8,AS,IT,N3,No,AT,N4,N5,reduceIte,reduceDIte,reduceCtorEq];rfl) ?_ ?_))));·exact tt);refine ag (al (kL hG (by simp only[hT,mt0,de,bO.eq_def,b8.eq_def,dn,ee,eP,fa,fE,gd,eQ,cx,mx0,mx1,mx2,mx3,mx4,mx5,mx6,mT,effOp,endCall,callOp,appendOp,sliceLV,Ty.fieldTy,Ty.fieldOf,N8,AS,IT,N3,No,AT,N4,N5,reduceIte,reduceDIte,reduceCtorEq];rfl) (by kernel_rfl) (by rfl) (by rfl) ?_ ?_))
   ·(try simp only[ba]);simp only[w1,w2,Od,n1,n2];exact EB hC hz hle
   refine ag (al (bZ hG (by simp only[hT,de,bO.eq_def,b8.eq_def,dn,ee,eP,fa,fE,gd,eQ,cx,mx0,mx1,mx2,mx3,mx4,mx5,mx6,mT,effOp,endCall,callOp,appendOp,sliceLV,Ty.fieldTy,Ty.fieldOf,N8,AS,IT,N3,No,AT,N4,N5,reduceIte,reduceDIte,reduceCtorEq];rfl) ?_ ?_))
   ·(try simp only[ba]);simp only[hk,Od];exact⟨⟨(wD hC hz hle).1,(wD hC hz hle).2.1⟩,(wD hC hz hle).2.2⟩
   (refine ag (al (al (bZ hG (by simp only[hT,de,bO.eq_def,b8.eq_def,dn,ee,eP,fa,fE,gd,eQ,cx,mx0,mx1,mx2,mx3,mx4,mx5,mx6,mT,effOp,endCall,callOp,appendOp,sliceLV,Ty.fieldTy,Ty.fieldOf,N8,AS,IT,N3,No,AT,N4,N5,reduceIte,reduceDIte,reduceCtorEq];rfl) ?_ ?_)));·exact tt);refine ag (au (bM (fun(z:Nat)=>(⟨[(0,.l (.z tyP p)),(1,.l (.z tyP q)),(6,.l (.ownS 1600)),(7,.l (.ownS 1184)),(8,.l (.z (.int .i64) ((r.length-q.length:Nat):Int))),(9,.l (.ownP 9 0)),(51,.l (.z tyP q)),(52,.l (.z (.int .i64) (q.length:Int))),(53,.l (.z (.int .i64) (z:Int)))],[(1600,.arr tyN 82 (aw (cz r (r.length-q.length) (-(ao r/ao (ab q))) (ab q) z))),(1184,.arr tyN 82 (aw (s.set (r.length-q.length) (ao r/ao (ab q))))),(9,.box 82 [.z .bool (aG (ao r/ao (ab q))).1.1,.z (.slice (.int .u32)) (aG (ao r/ao (ab q))).1.2,.z .bool (aG (ao r/ao (ab q))).2.1,.z (.slice (.int .u32)) (aG (ao r/ao (ab q))).2.2])]⟩:aa)) (fun z=>z<=q.length) (fun z=>q.length-z) 0 ?_ ?_ ?_));·refine q_l ?_;simp only[hk,w1,w2,Od,pe2,n1,n2,ar,nA,cz,true_and,and_true,and_self];rfl
   ·omega
   ·(rintro i g1;(try dsimp only at g1);refine al (bZ hG (by simp only[hT,de,bO.eq_def,b8.eq_def,dn,ee,eP,fa,fE,gd,eQ,cx,mx0,mx1,mx2,mx3,mx4,mx5,mx6,mT,effOp,endCall,callOp,appendOp,sliceLV,Ty.fieldTy,Ty.fieldOf,N8,AS,IT,N3,No,AT,N4,N5,reduceIte,reduceDIte,reduceCtorEq];rfl) ?_ ?_);·exact tt);refine ag (al (bw ?_ ?_))
    ·intro hb1;(try simp only[bt] at hb1);(have hi:i<q.length:=by have h9:(i:Int)<(q.length:Int):=hb1;omega);obtain⟨u1,u2,u3,u4,u5,u6⟩:=G9 hC hz hle hi;refine aC (ag (al (au (al (bZ hG (by simp only[hT,de,bO.eq_def,b8.eq_def,dn,ee,eP,fa,fE,gd,eQ,cx,mx0,mx1,mx2,mx3,mx4,mx5,mx6,mT,effOp,endCall,callOp,appendOp,sliceLV,Ty.fieldTy,Ty.fieldOf,N8,AS,IT,N3,No,AT,N4,N5,reduceIte,reduceDIte,reduceCtorEq];rfl) ?_ ?_)))))
     ·(try simp only[ba]);exact⟨by omega,hb1⟩
     refine ag (kL hG (by simp only[hT,mt0,de,bO.eq_def,b8.eq_def,dn,ee,eP,fa,fE,gd,eQ,cx,mx0,mx1,mx2,mx3,mx4,mx5,mx6,mT,effOp,endCall,callOp,appendOp,sliceLV,Ty.fieldTy,Ty.fieldOf,N8,AS,IT,N3,No,AT,N4,N5,reduceIte,reduceDIte,reduceCtorEq];rfl) (by kernel_rfl) (by rfl) (by rfl) ?_ ?_)
     ·(try simp only[ba]);simp only[pe2,u1,u3,u4,Od,ar];exact EC hC hz hle hi
     (refine aR (ag (bZ hG (by simp only[hT,de,bO.eq_def,b8.eq_def,dn,ee,eP,fa,fE,gd,eQ,cx,mx0,mx1,mx2,mx3,mx4,mx5,mx6,mT,effOp,endCall,callOp,appendOp,sliceLV,Ty.fieldTy,Ty.fieldOf,N8,AS,IT,N3,No,AT,N4,N5,reduceIte,reduceDIte,reduceCtorEq];rfl) ?_ ?_));·exact tt);refine qm ?_;simp only[pe2,u1,u3,u4,Od,ar,JC];exact Hc (n:=n) (s:=s) hC hi
    ·intro hb1;(try simp only[bf] at hb1);(have hi:i=q.length:=by have h9:¬(i:Int)<(q.length:Int):=hb1;omega);refine bN (aQ (aI (aH (ag (bZ hG (by simp only[hT,de,bO.eq_def,b8.eq_def,dn,ee,eP,fa,fE,gd,eQ,cx,mx0,mx1,mx2,mx3,mx4,mx5,mx6,mT,effOp,endCall,callOp,appendOp,sliceLV,Ty.fieldTy,Ty.fieldOf,N8,AS,IT,N3,No,AT,N4,N5,reduceIte,reduceDIte,reduceCtorEq];rfl) ?_ ?_)))))
     ·(try simp only[ba]);rw[B0 (p:=p) (n:=n) (s:=s) hi];exact Ha hC hz hle
     refine aR (qm ?_);obtain⟨m,hm⟩:=div_next hC hz hle;exact⟨m,br (cp (ab q) r),by rw[B0 (p:=p) (n:=n) (s:=s) hi,aA],_,rfl,hm,fo (by rw[az];exact h0) (by rw[az];exact hle) hC.hl⟩
  ·(intro hb0;(try simp only[bf] at hb0);(have hle:¬q.length<=r.length:=by have h9:¬(q.length:Int)<=((aw r).length:Int):=hb0;rw[aq] at h9;omega);have he:=div_end hz hle;refine bN (aQ (aI (aH (ag (al (bZ hG (by simp only[hT,de,bO.eq_def,b8.eq_def,dn,ee,eP,fa,fE,gd,eQ,cx,mx0,mx1,mx2,mx3,mx4,mx5,mx6,mT,effOp,endCall,callOp,appendOp,sliceLV,Ty.fieldTy,Ty.fieldOf,N8,AS,IT,N3,No,AT,N4,N5,reduceIte,reduceDIte,reduceCtorEq];rfl) ?_ ?_))))));·exact tt);refine ag (aK (q_e [] ?_));rw[<- he];exact⟨rfl,trivial,rfl⟩
def Dl(B:av):Tab:=mT B [(3,(.int .i64)),(74,tyP)] [] [(152,nX),(154,mL)] [13] 21
def xc:Con:=c2 tyP tyP (fun p q=>sf p q) (fun p q=>[.z tyP (aw (b6 (ab p) (ab q)))])
theorem Fm{B:av}(hB:bc B):Valid B prog 189 xc:=by
 refine v2 (mg (T:=Dl B) (tc ty3 (tc jq ah)) aj (aM (cc func152 (lY hB) (cc func154 (oX hB) aF)))) func189 ?_;intro p q hC X hP hT hr hG;have hX:=ai Dl.eq_1<|ai cx<|ai mL.eq_1<|nX.eq_1;simp only[f189,aD,af,ioB];refine sg ?_;refine al (au (bM (fun(z:Nat×List Rat×List Rat)=>(⟨[(0,.l (.z tyP (aw z.2.1))),(1,.l (.z tyP (aw z.2.2)))],[]⟩:aa)) (fun z=>si p q z.1 z.2.1 z.2.2) (fun z=>z.2.2.length) (q.length+1,ab p,ab q) ?_ ?_ ?_));·refine q_l ?_;rw[qa hC.hp,qa hC.hq];exact⟨rfl,rfl⟩
 ·exact ED hC
 ·rintro⟨n,a,b⟩ hz;try dsimp only at hz
  refine al (sg ?_);refine qc ?_ ?_
  ·(intro hb0;(have hl:0<b.length:=by have h9:(0:Int)<((aw b).length:Int):=hb0;rw[aq] at h9;omega);obtain⟨d1,d2,⟨m,d3⟩,d4⟩:=Hd hz hl;refine aC (ag (au (sq ?_ ?_)));·exact d1);refine rq ?_ ?_;·rw[aA,aA];exact d2
   refine aR (qm ?_);rw[aA,aA,aA];exact⟨m,b,rfl,_,rfl,d3,d4⟩
  ·(intro hb0;(have hl:¬0<b.length:=by have h9:¬(0:Int)<((aw b).length:Int):=hb0;rw[aq] at h9;omega);obtain⟨d1,d2⟩:=JD hz hl;refine bN (aQ (aI (aH (ag (sq ?_ ?_)))));·exact d1);refine aK (qe [] ?_);rw[aA,d2]
def Dm(B:av):Tab:=mT B [(3,(.int .i64)),(74,tyP)] [] [(151,lx),(152,nX),(154,mL),(189,xc)] [14] 19
def nY:Con:=c1 tyP (fun p=>pM p) (fun p=>[.z tyP (aw (ak (ab p)))])
theorem vJ{B:av}(hB:bc B):Valid B prog 150 nY:=by
 refine v1 (mg (T:=Dm B) (tc ty3 (tc jq ah)) aj (aM (cc func151 (vI hB) (cc func152 (lY hB) (cc func154 (oX hB) (cc func189 (Fm hB) aF)))))) func150 ?_;intro p hC X hP hT hr hG;have hX:=ai Dm.eq_1<|ai cx<|ai xc.eq_1<|ai lx.eq_1<|ai mL.eq_1<|nX.eq_1;simp only[f150,aD,af,ioB];refine sg ?_;refine al (sg ?_);refine qc ?_ ?_;·intro hb0;refine sg ?_;refine aK (aO (qe [] ?_));have h9:(p.length:Int)=0:=hb0;obtain rfl:p=[]:=N7 (by omega);rfl
 ·intro hb0;have hne:p≠[]:=by intro e;subst e;exact hb0 rfl
  obtain⟨c1,c2,c3,c4,c5⟩:=hC hne;refine aC (ag (sq ?_ ?_));·simp only[aA];exact⟨⟨c1,by omega⟩,c3,c4⟩
  refine sq ?_ ?_;·simp only[aA];exact c5
  refine aK (qe [] ?_);simp only[aA,ak,if_neg (show ¬ab p=[] from fun e=>hne (by have:=congrArg If e;rw[az] at this;exact N7 this))]
def Dn(B:av):Tab:=mT B [(3,(.int .i64)),(74,tyP),(82,tyN)] [(74,82)] [(69,eP),(70,jK),(90,gy),(127,fE),(128,eQ)] [19] 67
def Bb:Con:=c2 tyP tyP (fun p q=>Sz QM p/\Sz QM q/\p.length<=100/\q.length<=100) (fun p q=>[.z tyP (aw (bx (ab p) (ab q)))])
theorem Fo{B:av}(hB:bc B):Valid B prog 65 Bb:=by
 refine v2 (mg (T:=Dn B) (tc ty3 (tc jq (tc ty82 ah))) (bo (by kernel_rfl) aj) (aM (cc func69 (lW hB) (cc func70 (iw hB) (cc func90 (ix hB) (cc func127 (uQ hB) (cc func128 (lX hB) aF))))))) func65 ?_;intro p q hC X hP hT hr hG;have hX:=ai Dn.eq_1<|ai cx<|ai jK.eq_1<|ai eP.eq_1<|ai gy.eq_1<|ai fE.eq_1<|eQ.eq_1;simp only[f65,aD,af,ioB];obtain⟨hp,hq,hl1,hl2⟩:=hC;refine sg ?_;refine al (sq ?_ ?_);·exact⟨id,id,fun h=>by rw[h];rfl⟩
 refine qc ?_ ?_;·intro hb0;refine sg ?_;refine aK (aO (qe [] ?_));exact Ex hb0
 ·intro hb0;have h0:=G5 hb0;refine aC (ag (sq ?_ ?_));·rw[uN hl1 hl2 h0];exact Jy hl1 hl2
  refine al (sg ?_);refine au (bM (fun(z:Nat)=>(⟨[(0,.l (.z tyP p)),(1,.l (.z tyP q)),(5,.l (.ownS 1208)),(27,.l (.z tyP p)),(28,.l (.z (.int .i64) (p.length:Int))),(29,.l (.z (.int .i64) (z:Int)))],[(1208,.arr tyN 82 (aw (mulN (ab p) (ab q) z)))]⟩:aa)) (fun z=>z<=p.length) (fun z=>p.length-z) 0 ?_ ?_ ?_);·refine q_l ?_;rw[uN hl1 hl2 h0,Od];exact⟨rfl,times_start p q⟩
  ·omega
  ·rintro i g1;(try dsimp only at g1);refine sg ?_;refine al (qc ?_ ?_)
   ·(intro hb1;refine aC (ag (al (au (sq ?_ ?_))));·exact⟨by omega,hb1⟩);refine sg ?_;refine au (bM (fun(z:Nat)=>(⟨[(0,.l (.z tyP p)),(1,.l (.z tyP q)),(5,.l (.ownS 1208)),(27,.l (.z tyP p)),(28,.l (.z (.int .i64) (p.length:Int))),(29,.l (.z (.int .i64) (i:Int))),(6,.l (.z (.int .i64) (i:Int))),(7,.l (.ownP 7 0)),(34,.l (.z tyP q)),(35,.l (.z (.int .i64) (q.length:Int))),(36,.l (.z (.int .i64) (z:Int)))],[(1208,.arr tyN 82 (aw (cz (mulN (ab p) (ab q) i) i (cf (ab p) i) (ab q) z))),(7,.box 82 [.z .bool (aG (cf (ab p) i)).1.1,.z (.slice (.int .u32)) (aG (cf (ab p) i)).1.2,.z .bool (aG (cf (ab p) i)).2.1,.z (.slice (.int .u32)) (aG (cf (ab p) i)).2.2])]⟩:aa)) (fun z=>z<=q.length) (fun z=>q.length-z) 0 ?_ ?_ ?_);·refine q_l ?_;rw[gu hp (by omega)];exact⟨rfl,rfl,rfl,rfl,rfl,rfl⟩
    ·omega
    ·rintro k g2;(try dsimp only at g2);refine sg ?_;refine al (qc ?_ ?_)
     ·(intro hb2;refine aC (ag (al (au (sq ?_ ?_))));·exact⟨by omega,hb2⟩);refine sq ?_ ?_;·have ek:=gu hq (i:=k) (by omega);simp only[pe2];rw[ek];exact⟨aX _,fun h=>⟨h,aX _⟩,id⟩
      refine qc ?_ ?_
      ·(intro hb3;have ek:=gu hq (i:=k) (by omega);obtain⟨w1,w2,w3,w4⟩:=Aw hp hq hl1 hl2 h0 (i:=i) (k:=k) (by omega) (by omega);refine rd ?_ ?_;·simp only[pe2];rw[ek,w1,Od,ar,ar];exact⟨⟨by omega,by omega⟩,w2,w3,w4,⟨by omega,by omega⟩,w2⟩);refine aR (ag (rg ?_));refine qm ?_;first|exact rY hl2 (by omega) (rZ hb3)|(simp only[pe2];rw[ek,w1,Od];simp only[ar];exact rX hp hq hl1 hl2 h0 (i:=i) (k:=k) (by omega) (by omega))
      ·intro hb3;have ek:=gu hq (i:=k) (by omega);simp only[pe2,ek,ar] at hb3;refine aC (aR (ag (rg ?_)));refine qm ?_;first|exact rY hl2 (by omega) (rZ hb3)|(simp only[pe2];rw[ek,w1,Od];simp only[ar];exact rX hp hq hl1 hl2 h0 (i:=i) (k:=k) (by omega) (by omega))
     ·intro hb2;refine bN (aQ (aI (aH (aR (ag (rg ?_))))));refine qm ?_;exact Ey hl1 (by omega) (by omega)
   ·intro hb1;refine bN (aQ (aI (aH (ag (sg ?_)))));refine aK (qe [] ?_);exact times_fin h0 (by omega)
def Do(B:av):Tab:=mT B [(3,(.int .i64)),(82,tyN)] [] [(93,oW)] [] 2
def ti:Con:=c0 (True) ([.z tyN (aG 1)])
theorem oY{B:av}(hB:bc B):Valid B prog 95 ti:=by
 refine v0 (mg (T:=Do B) (tc ty3 (tc ty82 ah)) aj (aM (cc func93 (iy hB) aF))) func95 ?_;intro hC X hP hT hr hG;have hX:=ai Do.eq_1<|ai cx<|oW.eq_1;simp only[f95,aD,af,ioB];refine sg ?_;refine sq ?_ ?_;·exact⟨by unfold I64;omega,by unfold I64;omega,by decide⟩
 refine aK (qe [] ?_);simp only[pe2];rw[NM]
def Dp(B:av):Tab:=mT B [(80,tyW),(82,tyN)] [] [(72,IK),(87,tU)] [] 16
def ly:Con:=c2 tyN tyN (fun x y=>dZ x y) (fun x y=>[.z (.int .i64) (iK (an x) (an y))])
theorem jM{B:av}(hB:bc B):Valid B prog 40 ly:=by
 refine v2 (mg (T:=Dp B) (tc fZ (tc ty82 ah)) aj (aM (cc func72 (CQ hB) (cc func87 (qx hB) aF)))) func40 ?_;intro x y hC X hP hT hr hG;have hX:=ai Dp.eq_1<|ai cx<|ai IK.eq_1<|tU.eq_1;simp only[f40,aD,af,ioB];refine sg ?_;refine sd ?_ ?_;·exact EV hC
 refine aK (qe [] ?_);exact HG hC
def Dq(B:av):Tab:=mT B [(80,tyW),(82,tyN)] [] [(74,zf)] [] 14
def Bc:Con:=c1 tyN (fun x=>NOK x/\lq (an x)<=QC) (fun x=>[.z tyW (enc (fm (an x).num ((an x).den:Int)))])
theorem Fp{B:av}(hB:bc B):Valid B prog 97 Bc:=by
 refine v1 (mg (T:=Dq B) (tc fZ (tc ty82 ah)) aj (aM (cc func74 (CW hB) aF))) func97 ?_;intro x hC X hP hT hr hG;have hX:=ai Dq.eq_1<|ai cx<|zf.eq_1;simp only[f97,aD,af,ioB];refine sg ?_;refine sq ?_ ?_;·exact yL hC
 refine sg ?_;refine aK (qe [] ?_);rw[hC.1.d1,hC.1.d2]
def Dr(B:av):Tab:=mT B [(3,(.int .i64)),(74,tyP)] [(74,82)] [(65,Bb),(95,ti),(150,nY),(152,nX)] [] 40
def MI:Con:=c1 tyP (fun p=>Cb p) (fun p=>[.z tyP (aw (gw (ab p)))])
theorem Fq{B:av}(hB:bc B):Valid B prog 91 MI:=by
 refine v1 (mg (T:=Dr B) (tc ty3 (tc jq ah)) (bo (by kernel_rfl) aj) (aM (cc func65 (Fo hB) (cc func95 (oY hB) (cc func150 (vJ hB) (cc func152 (lY hB) aF)))))) func91 ?_;intro p hC X hP hT hr hG;have hX:=ai Dr.eq_1<|ai cx<|ai ti.eq_1<|ai nX.eq_1<|ai nY.eq_1<|Bb.eq_1;simp only[f91,aD,af,ioB];refine sg ?_;refine Bx (sg ?_);refine sg ?_;refine sq ?_ ?_;·exact hC.sim
 refine al (Bw (ag (al (au (bM (fun(z:Nat×List Rat×Bool×List Rat)=>(⟨[(3,.l (.z tyP (aw z.2.2.2))),(4,.l (.z tyP (aw z.2.1))),(5,.l (.z .bool z.2.2.1)),(6,.l (.z tyP (aw (ak z.2.1))))],[]⟩:aa)) (fun z=>yM p z.1 z.2.1 z.2.2.1 z.2.2.2) (fun z=>z.2.1.length) (p.length+1,ab p,true,[1]) ?_ ?_ ?_)))));·refine q_l ?_;exact⟨by simp[aw],(qa hC.nok).symm⟩
 ·exact HH hC
 ·rintro⟨n,rest,plus,out⟩ hz;try dsimp only at hz
  refine au (al (sg ?_));refine qc ?_ ?_;·intro hb0;(have hl:(ak rest).length<2:=by have h9:((aw (ak rest)).length:Int)<2:=hb0;rw[aq] at h9;omega);have he:=LS hz hl;refine bN (aQ (kM rfl ?_));refine aI (aH (ag (sg ?_)));refine aK (pC (qe [] ?_));rw[he]
  ·(intro hb0;(have hl:¬(ak rest).length<2:=by have h9:¬((aw (ak rest)).length:Int)<2:=hb0;rw[aq] at h9;omega);obtain⟨d1,d2,d3,d4,d5,m,d6⟩:=JW hz hl;refine aC (ag (sq ?_ ?_));·exact d1);refine sq ?_ ?_;·simp only[aA];exact d2
   (refine al (sq ?_ ?_);·simp only[aA];exact d3);refine sg ?_;refine qc ?_ ?_
   ·(intro hb1;refine rq ?_ ?_;·simp only[aA,aq];exact d4 hb1);refine ag (rg ?_);refine aR (qm ?_);simp only[aA];(first|(rw[if_pos hb1] at d6)|(rw[if_neg (by rw[hb1];simp)] at d6));exact⟨m,_,_,_,rfl,rfl,rfl,rfl,d6,d5⟩
   ·intro hb1;refine aC (ag (rg ?_));refine aR (qm ?_);simp only[aA];(first|(rw[if_pos hb1] at d6)|(rw[if_neg (by rw[hb1];simp)] at d6));exact⟨m,_,_,_,rfl,rfl,rfl,rfl,d6,d5⟩
def Ds(B:av):Tab:=mT B [(74,tyP)] [] [] [] 4
def Bd:Con:=c1 tyP (fun xs=>True) (fun xs=>[.fn 187 [.z (.ptr tyP) xs]])
theorem Fs{B:av}(hB:bc B):Valid B prog 148 Bd:=by
 refine v1 (mg (T:=Ds B) (tc jq ah) aj (cZ rfl)) func148 ?_;intro xs hC X hP hT hr hG;have hX:=ai Ds.eq_1<|cx;simp only[f148,aD,af,ioB];refine sg ?_;refine sg ?_;refine aK (qe [] ?_);rfl
def im(B:av):Tab:={types:=[(74,tyP),(82,tyN)],elems:=[],cons:=[(69,eP),(70,jK),(128,eQ),(148,Bd)],hint:=[],N:=19,base:=B}
theorem zl{B:av}(hB:bc B):aV prog (im B):=mg (T:=im B) (tc jq (tc ty82 ah)) aj (aM (cc func69 (lW hB) (cc func70 (iw hB) (cc func128 (lX hB) (cc func148 (Fs hB) aF)))))
def zm:Con:=c2 tyP tyN (fun p x=>Sz QM p/\p.length<=100/\NOK x/\lq (an x)<=QM) (fun p x=>[.z tyN (aG (ae (ab p) (an x)))])
theorem vK{B:av}(hB:bc B):Valid B prog 81 zm:=by
 refine bh (zl hB).tab func81 rfl rfl rfl ?_;intro args os C rs os' hc hC;obtain⟨p,x,rfl,rfl,rfl,rfl,rfl⟩:=mC hc;refine v_h (zl hB) fun X hP hT hr hG=>?_;have hU:=im.eq_1;unfold im at hT;have hX:=ai @cx<|ai @Bd.eq_1<|ai @jK.eq_1<|ai @eP.eq_1<| @eQ.eq_1;simp only[f81,aD,af,ioB];have hl:p.length<=100:=hC.2.1;refine s_g hG ?_;refine s_g hG ?_;refine al (s_g hG ?_);refine au (Fa hr (gf:=187) (caps:=[.z (.ptr tyP) p]) (items:=cY p) (by simp only[hT,im,mx0,mx1,mx2,mx3,mx4,mx5,mx6,mT,effOp,endCall,callOp,appendOp,sliceLV,Ty.fieldTy,Ty.fieldOf,N8,AS,IT,N3,No,AT,N4,N5,reduceIte,reduceDIte,reduceCtorEq];try rfl) (by rfl) (by rw[hP];exact EE p) (by rfl) (ub:=tyN) (by rw[hP];exact ty82) (by simp only[hT,im];omega) [3,4,5] (by rfl) (by simp only[hT,im];try rfl) (fun(k:Nat) (z:Rat)=>(⟨[(3,.l (.z (.ptr tyN) x)),(4,.l (.ownP 4 0)),(5,.l (.ownP 5 0))],[(4,.box 82 [.z .bool false,.val (.slice none 0 0),.z .bool false,.val (.slice none 0 0)]),(5,.box 82 [.z .bool (aG z).1.1,.z (.slice (.int .u32)) (aG z).1.2,.z .bool (aG z).2.1,.z (.slice (.int .u32)) (aG z).2.2])]⟩:aa)) (fun(k:Nat) (z:Rat)=>z=ae ((ab p).drop (p.length-k)) (an x)) 0 ?_ ?_ ?_ ?_ ?_);·simp only[ml0,ml1,N8,AS,IT,N3,No,AT,N4,N5,reduceIte,reduceDIte,reduceCtorEq]
 ·exact Az p (an x)
 ·intro k z;rfl
 ·intro k hk;rintro v hz;try dsimp only at hz
  have hk:k<p.length:=by simpa [cY] using hk
  have hg:=Hg hC.1 (Hh hk);have hv:=EF hC hk hz;refine⟨_,_,_,by simp only[hT,im,cY,oG,mx0,mx1,mx2,mx3,mx4,mx5,mx6,mT,effOp,endCall,callOp,appendOp,sliceLV,Ty.fieldTy,Ty.fieldOf,N8,AS,IT,N3,No,AT,N4,N5,reduceIte,reduceDIte,reduceCtorEq,Qa,P4];rfl,by simp only[mx0,mx1,mx2,mx3,mx4,mx5,mx6,mT,effOp,endCall,callOp,appendOp,sliceLV,Ty.fieldTy,Ty.fieldOf,N8,AS,IT,N3,No,AT,N4,N5,reduceIte,reduceDIte,reduceCtorEq];rfl,by rfl,by simp only[mx0,mx1,mx2,mx3,mx4,mx5,mx6,mT,effOp,endCall,callOp,appendOp,sliceLV,Ty.fieldTy,Ty.fieldOf,N8,AS,IT,N3,No,AT,N4,N5,reduceIte,reduceDIte,reduceCtorEq]<;>rfl,by simp only[hT,im,cY,oG,mx0,mx1,mx2,mx3,mx4,mx5,mx6,mT,effOp,endCall,callOp,appendOp,sliceLV,Ty.fieldTy,Ty.fieldOf,N8,AS,IT,N3,No,AT,N4,N5,reduceIte,reduceDIte,reduceCtorEq,Qa,P4];rfl,?_⟩;intro X' hP' hT';have hG':aV X'.P X'.T:=by rw[hP',hT'];exact hG.keep _
  rw[hT] at hT';refine au (wa hG' ?_ ?_)
  ·(try simp only[ba]);simp only[pe2,hg,ar];exact hv
  refine aR ?_;show ∃z,_;simp only[ml0,ml1,N8,AS,IT,N3,No,AT,N4,N5,reduceIte,reduceDIte,reduceCtorEq];simp only[pe2,hg,ar];exact⟨_,rfl,rfl,rfl,rfl,by rw[hz,AA hk]⟩
 ·rintro v hz;try dsimp only at hz
  rw[Hi] at hz;refine aR (ag (s_g hG ?_));refine aK (q_e [] ?_);rw[hz]
def Dt(B:av):Tab:=mT B [(82,tyN),(130,(.ptr (.st (.st (.slice tyP)))))] [] [] [] 6
def Be:Con:=c2 (.ptr (.st (.st (.slice tyP)))) tyN (fun c x=>True) (fun c x=>[.fn 206 [.z (.ptr (.ptr (.st (.st (.slice tyP))))) c,.z (.ptr tyN) x]])
theorem Ft{B:av}(hB:bc B):Valid B prog 191 Be:=by
 refine v2 (mg (T:=Dt B) (tc ty82 (tc sn ah)) aj (cZ rfl)) func191 ?_;intro c x hC X hP hT hr hG;have hX:=ai Dt.eq_1<|cx;simp only[f191,aD,af,ioB];refine sg ?_;refine sg ?_;refine aK (qe [] ?_);rfl
def qz(B:av):Tab:={types:=[(3,(.int .i64)),(74,tyP),(82,tyN),(120,(.slice tyP)),(130,(.ptr (.st (.st (.slice tyP))))),(192,(.st (.slice tyP))),(194,(.st (.st (.slice tyP))))],elems:=[],cons:=[(81,zm),(90,gy)],hint:=[],N:=30,base:=B}
theorem IV{B:av}(hB:bc B):aV prog (qz B):=mg (T:=qz B) (tc ty3 (tc jq (tc ty82 (tc KH (tc sn (tc KL (tc KM ah))))))) aj (aM (cc func81 (vK hB) (cc func90 (ix hB) aF)))
set_option maxHeartbeats 1000000 in
theorem Ky{B:av}(hB:bc B)(c:List (List ND))(x:ND)(h:mb c x):lS B prog 206 1 [.z (.ptr (.ptr (.st (.st (.slice tyP))))) c,.z (.ptr tyN) x] (b7 c x):=by
 refine⟨enters_of func206 (by kernel_rfl) rfl,fun it hit=>?_,fun t ht hP hBt hi D W lb hJ hcap=>?_⟩;·obtain⟨s,_,rfl⟩:=Ot.1 hit;exact⟨rfl,rfl⟩
 obtain⟨T,hT⟩:∃T,T=qz B:=⟨_,rfl⟩;have hG:aV t.P T:=by rw[hP,hT];exact IV hB
 have hbase:T.base=t.B:=by rw[hT,hBt];rfl
 have hX:=ai qz.eq_1<|ai cx<|ai @zm.eq_1<|ai @gy.eq_1<|ai @List.take_succ_cons.{0}<|ai @List.take_zero.{0}<|ai @Qz.{0}<|ai @Oy.{0}<| @aa.openG.eq_1;have hcapL:aY (aJ D W (fun _=>undef)) [.z (.ptr (.ptr (.st (.st (.slice tyP))))) c,.z (.ptr tyN) x] lb:=by
  match lb,hcap with
  | [u,v],hc=>exact⟨hc.1,hc.2.1,trivial⟩
 rw[show (#[Value.func (.yield t.l) #[] #[]]++lb.toArray)=(Value.func (.yield t.l) #[] #[]::lb).toArray by simp,<- hP];refine(sY (t:=t) (T:=T) (g:=some 0) (args:= .val (.func (.yield t.l) #[] #[]):: [.z (.ptr (.ptr (.st (.st (.slice tyP))))) c,.z (.ptr tyN) x]) (vals:= .func (.yield t.l) #[] #[]::lb)
  (R:=fun g rs=>rs=[]/\(g=some (b7 c x).length∨g=none)) (R':=fun g v=>g=some (b7 c x).length∨g=none) hG.tab ht hbase (by rw[hP];exact func206) rfl (by rw[hT];rfl) (by rw[hT];rfl) (by rw[hT];exact OZ rfl) hJ ⟨rfl,hcapL⟩
  (fun b v ty hp=>by rw[hT] at hp;cases hp) rfl (fun g' rs H M w vs h1 h2=>h1.2) ?_).mono ?_
 ·simp only[f206,aD];refine yg trivial ?_;refine Cn ?_;refine MD (fun(k:Nat)=>(⟨[(0,.l (.val (.func (.yield t.l) #[] #[]))),(2,.l (.z (.ptr tyN) x)),(11,.l (.z (.slice tyP) c)),(12,.l (.z (.int .i64) (c.length:Int))),(13,.l (.z (.int .i64) (k:Int)))],[]⟩:aa)) (fun k=>some (il c x k)) (fun k=>k<=c.length) (fun k=>c.length-k) 0 ?_ (by rw[ES]) (PM _) (fun _=>rfl) ?_;·refine q_l ?_;rfl
  intro k hk;refine yg trivial ?_;refine lk ?_;refine ycd ?_ ?_
  ·intro hb;have hkl:k<c.length:=by
    (have h9:(k:Int)<(c.length:Int):=by simpa using hb);omega
   (obtain⟨v1,v2,v3,v4⟩:=h.2 c[k] (OE hkl);obtain⟨z1,z2⟩:=ET (x:=x) hkl;refine oQ ?_;refine mI ?_;refine lk ?_;refine Cn ?_;obtain⟨v,hv⟩:∃v,bq (ae (ab c[k]) (an x)).num 0=v:=⟨_,rfl⟩;rw[show dm (ae (ab c[k]) (an x))=v from hv] at z1 z2;have hX:=ai (gS (t:=tyP) hkl)<|ai @ar<|ai hv hX;refine yg ?_ ?_;·exact⟨by omega,by omega⟩);(refine yg ?_ ?_;·exact⟨⟨v1,v2,v3,v4⟩,aX _⟩);refine ye ?_;by_cases h0:v=0
   ·(have hX:=ai (show (v !=0)=false by simp[h0]) hX;refine yln 5 trivial ?_;refine kg (K1:=fun g' s'=>g'=some (il c x k)/\s'=aa.put _ 26 (.g false (.z .bool true))) (Cp (d:=26) rfl (by rw[hT];rfl) rfl (.z .bool true) ⟨rfl,rfl⟩) ?_;rintro g' s' ⟨rfl,rfl⟩;refine yla trivial ?_;refine ycd ?_ ?_;·intro hb;cases hb);intro _;refine oQ ?_;refine y6 ?_;refine mI ?_;refine yr trivial ?_;refine y7 (k+1) ?_ (by rw[z1 h0]) hkl (by omega);refine q_l ?_;have h9:=h.1;rw[wo];rfl
   ·(have hX:=ai (show (v !=0)=true by simp[h0]) hX;refine yln 5 trivial ?_;refine Ct ?_;simp only[aa.openG,O6,Qv,AV.openG];obtain⟨q1,q2,q3⟩:=z2 h0;refine kg (K1:=fun g' s'=>∃b:Bool,g'=(if b=true then some (il c x k+1) else none)/\s'=aa.put _ 26 (.l (.z .bool b))) (y0 ht (x:= .tmp 24) (d:=26) rfl rfl rfl (by rw[hT];rfl) rfl rfl rfl (it:=[.z (.int .i64) v]) (by rw[hi,AI q2,q3]) rfl rfl ⟨true,rfl,rfl⟩ ⟨false,rfl,rfl⟩) ?_;rintro g' s' ⟨b,rfl,rfl⟩;refine yla trivial ?_;refine ycd ?_ ?_;·intro hb;refine sW ?_;refine nQ ?_;refine ki ?_;refine wV ?_;refine nQ ?_;exact⟨.inr rfl,[],⟨rfl,.inr (by rw[if_neg (by simpa using hb)])⟩,trivial⟩);(intro hb;refine oQ ?_;refine y6 ?_;refine mI ?_;refine yr trivial ?_;refine y7 (k+1) ?_ ?_ hkl (by omega);·refine q_l ?_;have h9:=h.1;rw[wo];rfl);rw[if_pos (by simpa using hb),q1]
  ·intro hb;have hkl:k=c.length:=by
    (have h9:¬(k:Int)<(c.length:Int):=by simpa using hb);omega
   refine MB ?_;refine y5 ?_;refine tS ?_;refine tQ ?_;exact⟨.inl rfl,[],⟨rfl,.inl (by rw[hkl,HF])⟩,trivial⟩
 ·rintro e w' ⟨v,g',D',rfl,h1,h2,h3⟩;exact⟨v,g',D',rfl,h2,h1⟩
def qA(B:av):Tab:=mT B [(3,(.int .i64)),(74,tyP),(82,tyN),(120,(.slice tyP)),(192,(.st (.slice tyP))),(194,(.st (.st (.slice tyP))))] [(120,74)] [(99,mc),(150,nY),(151,lx),(152,nX)] [10] 65
def tj:Con:=c1 tyP (fun p=>nJ p) (fun p=>[.z (.ptr (.st (.st (.slice tyP)))) (iS (cR (ab p)))])
theorem vL{B:av}(hB:bc B):Valid B prog 88 tj:=by
 refine v1 (mg (T:=qA B) (tc ty3 (tc jq (tc ty82 (tc KH (tc KL (tc KM ah)))))) (bo (by kernel_rfl) aj) (aM (cc func99 (lV hB) (cc func150 (vJ hB) (cc func151 (vI hB) (cc func152 (lY hB) aF)))))) func88 ?_;intro p hC X hP hT hr hG;have hX:=ai qA.eq_1<|ai cx<|ai lx.eq_1<|ai mc.eq_1<|ai nX.eq_1<|nY.eq_1;simp only[f88,aD,af,ioB];refine sg ?_;refine sg ?_;refine sq ?_ ?_;·exact hC.sim
 refine sq ?_ ?_;·rw[aq];exact⟨hC.sz,by have:=hC.len;omega⟩
 refine al (sq ?_ ?_);·unfold Cm.Roomy;omega
 refine au (bM (fun(z:Nat×List (List Rat)×List Rat×List Rat)=>(⟨[(3,.l (.ownP 10 0)),(4,.l (.z tyP (aw z.2.2.1))),(5,.l (.z tyP (aw z.2.2.2)))],[(10,.box 194 [.ownS 23]),(23,.arr tyP 74 (iS z.2.1))]⟩:aa)) (fun z=>yJ p z.1 z.2.1 z.2.2.1 z.2.2.2) (fun z=>z.2.2.2.length) ((ak (ab p)).length+1,[ak (ab p)],ak (ab p),a7 (ak (ab p))) ?_ ?_ ?_);·refine q_l ?_;rw[aA];exact⟨rfl,rfl⟩
 ·exact HC hC
 ·rintro⟨n,c,a,b⟩ hz;try dsimp only at hz
  refine al (sg ?_);refine qc ?_ ?_
  ·(intro hb0;(have hl:0<b.length:=by have h9:(0:Int)<((aw b).length:Int):=hb0;rw[aq] at h9;omega);obtain⟨d1,d2,d3,d4,m,d5⟩:=JV hz hl;refine aC (ag (al (au (sq ?_ ?_))));·exact d1);refine al (sg ?_);refine au (bM (fun(z:Nat)=>(⟨[(3,.l (.ownP 10 0)),(4,.l (.z tyP (aw a))),(5,.l (.z tyP (aw b))),(7,.l (.ownS 1361)),(49,.l (.z (.int .i64) ((divN a b).2.length:Int))),(50,.l (.z (.int .i64) (z:Int)))],[(10,.box 194 [.ownS 23]),(23,.arr tyP 74 (iS c)),(1361,.arr tyN 82 (aw (l6 (divN a b).2 z)))]⟩:aa)) (fun z=>z<=(divN a b).2.length) (fun z=>(divN a b).2.length-z) 0 ?_ ?_ ?_)
   ·refine q_l ?_;simp only[aA,aq,EP]
    (repeat' apply And.intro)<;>first|rfl|exact⟨rfl,rfl⟩|exact⟨rfl,rfl,rfl⟩|trivial
   ·omega
   ·rintro i g1;(try dsimp only at g1);refine sg ?_;refine al (qc ?_ ?_)
    ·(intro hb1;(have hi:i<(divN a b).2.length:=by have h9:(i:Int)<(((divN a b).2.length:Nat):Int):=hb1;omega);obtain⟨n1,n2,n3,n4⟩:=LR d2 hi (by have:=hz.lb;omega);refine aC (ag (al (au (sg ?_))));refine rq ?_ ?_;·rw[aq,sL,Od,n1];exact⟨⟨by omega,by omega⟩,hi,n2,⟨by omega,by omega⟩,hi⟩);refine aR (ag (rg ?_));refine qm ?_;rw[Od,n1,ar];exact⟨i+1,n4,n3,by omega,by omega⟩
    ·(intro hb1;(have hi:i=(divN a b).2.length:=by have h9:¬(i:Int)<(((divN a b).2.length:Nat):Int):=hb1;omega);refine bN (aQ (aI (aH (ag (rg ?_)))));refine aR (ag (rr [1361] (by simp only[hT,qA,mr0,mr1,mr2,mT,isNilP,N8,AS,IT,N3,No,AT,N4,N5,reduceIte,reduceDIte,reduceCtorEq];rfl) ?_));refine rq ?_ ?_;·simp only[iS,List.length_map];unfold Cm.Roomy;omega);refine qm ?_;rw[hi,HD];exact⟨m,c++ [b],b,rfl,_,rfl,(EO c b).symm,d5,by rw[eO];exact d3⟩
  ·intro hb0;(have hl:¬0<b.length:=by have h9:¬(0:Int)<((aw b).length:Int):=hb0;rw[aq] at h9;omega);have he:=LQ hz hl;refine bN (aQ (aI (aH (ag (rr [23] (by simp only[hT,qA,mr0,mr1,mr2,mT,isNilP,N8,AS,IT,N3,No,AT,N4,N5,reduceIte,reduceDIte,reduceCtorEq];rfl) ?_)))));refine Cr 10 (.st (.st (.slice tyP))) (by rfl) (by rfl) (by simp only[aa.thawQ,LV.thawQ,CV.thawQ,mr0,mr1,mr2,mT,isNilP,N8,AS,IT,N3,No,AT,N4,N5,reduceIte,reduceDIte,reduceCtorEq];rfl) ?_;refine sg ?_;refine aK (qe [] ?_);rw[he]
def km(B:av):Tab:={types:=[(3,(.int .i64)),(82,tyN),(130,(.ptr (.st (.st (.slice tyP)))))],elems:=[],cons:=[(191,Be)],hint:=[],N:=20,base:=B}
theorem zn{B:av}(hB:bc B):aV prog (km B):=mg (T:=km B) (tc ty3 (tc ty82 (tc sn ah))) aj (aM (cc func191 (Ft hB) aF))
def tv:Con:=c2 (.ptr (.st (.st (.slice tyP)))) tyN (fun c x=>mb c x) (fun c x=>[.z (.int .i64) (c7 (c.map ab) (an x))])
theorem Fu{B:av}(hB:bc B):Valid B prog 153 tv:=by
 refine bh (zn hB).tab func153 rfl rfl rfl ?_;intro args os C rs os' hc hC;obtain⟨c,x,rfl,rfl,rfl,rfl,rfl⟩:=mC hc;refine v_h (zn hB) fun X hP hT hr hG=>?_;have hU:=km.eq_1;unfold km at hT;have hX:=ai @cx<| @Be.eq_1;simp only[f153,aD,af,ioB];refine s_g hG ?_;refine s_g hG ?_;refine al (s_g hG ?_);refine au (It hr (gf:=206) (caps:=[.z (.ptr (.ptr (.st (.st (.slice tyP))))) c,.z (.ptr tyN) x]) (items:=b7 c x) (by simp only[hT,km,mx0,mx1,mx2,mx3,mx4,mx5,mx6,mT,effOp,endCall,callOp,appendOp,sliceLV,Ty.fieldTy,Ty.fieldOf,N8,AS,IT,N3,No,AT,N4,N5,reduceIte,reduceDIte,reduceCtorEq];try rfl) (by rfl) (by rw[hP,hT];exact Ky hB c x hC) (by rfl) [5,6] (by rfl) (by simp only[hT,km];try rfl) (fun(k:Nat) (z:Unit)=>(⟨[(5,.l (.ownP 5 0)),(6,.l (.ownP 6 0))],[(5,.box 3 [.z (.int .i64) (ik ((bU (c.map ab) (an x)).take k)).1]),(6,.box 3 [.z (.int .i64) (ik ((bU (c.map ab) (an x)).take k)).2])]⟩:aa)) (fun(k:Nat) (z:Unit)=>True) () ?_ ?_ ?_ ?_ ?_);·simp only[ml0,ml1,N8,AS,IT,N3,No,AT,N4,N5,reduceIte,reduceDIte,reduceCtorEq];exact⟨rfl,rfl⟩
 ·trivial
 ·intro k z;rfl
 ·intro k hk;rintro⟨⟩-;obtain⟨hk2,w1,w2⟩:=EU hC hk;refine⟨_,by simp only[hT,km,b7,mx0,mx1,mx2,mx3,mx4,mx5,mx6,mT,effOp,endCall,callOp,appendOp,sliceLV,Ty.fieldTy,Ty.fieldOf,N8,AS,IT,N3,No,AT,N4,N5,reduceIte,reduceDIte,reduceCtorEq,Qa,P4];rfl,?_⟩;intro X' hP' hT';have hG':aV X'.P X'.T:=by rw[hP',hT'];exact hG.keep _
  rw[hT] at hT';refine au (al (al (fB hG' ?_ ?_)));·exact tt
  refine ag (bw ?_ ?_)
  ·(intro hb0;(try simp only[bt] at hb0);have hm:=(oM hk2).trans (by rw[if_pos (by rw[w1] at hb0;exact hb0)]);refine fB hG' ?_ ?_;·exact tt);(refine ag (fB hG' ?_ ?_);·exact tt);refine aR ?_;show ∃z,_;simp only[ml0,ml1,N8,AS,IT,N3,No,AT,N4,N5,reduceIte,reduceDIte,reduceCtorEq];rw[hm];exact⟨by first|exact w2|rfl,rfl⟩
  ·(intro hb0;(try simp only[bf] at hb0);have hm:=(oM hk2).trans (by rw[if_neg (by rw[w1] at hb0;exact hb0)]);refine aC (ag (fB hG' ?_ ?_));·exact tt);refine aR ?_;show ∃z,_;simp only[ml0,ml1,N8,AS,IT,N3,No,AT,N4,N5,reduceIte,reduceDIte,reduceCtorEq];rw[hm];exact⟨by first|exact w2|rfl,rfl⟩
 ·rintro⟨⟩-;have hl:(b7 c x).length=(bU (c.map ab) (an x)).length:=by simp[b7]
  refine aR (ag (s_g hG ?_));refine aK (q_e [] ?_);rw[hl,OD];rfl
def Du(B:av):Tab:=mT B [(3,(.int .i64)),(82,tyN),(130,(.ptr (.st (.st (.slice tyP)))))] [] [(153,tv)] [] 14
def jf:Con:=c3 (.ptr (.st (.st (.slice tyP)))) tyN tyN (fun c a b=>mb c a/\mb c b) (fun c a b=>[.z (.int .i64) (c7 (c.map ab) (an a)-c7 (c.map ab) (an b))])
theorem oZ{B:av}(hB:bc B):Valid B prog 89 jf:=by
 refine v3 (mg (T:=Du B) (tc ty3 (tc ty82 (tc sn ah))) aj (aM (cc func153 (Fu hB) aF))) func89 ?_;intro c a b hC X hP hT hr hG;have hX:=ai Du.eq_1<|ai cx<|tv.eq_1;simp only[f89,aD,af,ioB];refine sg ?_;refine sd ?_ ?_;·exact⟨hC.1,hC.2⟩
 refine aK (qe [] ?_);exact AO hC.1
def Dw(B:av):Tab:=mT B [(74,tyP),(82,tyN),(130,(.ptr (.st (.st (.slice tyP)))))] [] [(88,tj),(89,jf)] [] 12
def nZ:Con:=c3 tyP tyN tyN (fun p a b=>lQ p a b) (fun p a b=>[.z (.int .i64) (fU (ab p) (an a) (an b))])
theorem vM{B:av}(hB:bc B):Valid B prog 41 nZ:=by
 refine v3 (mg (T:=Dw B) (tc jq (tc ty82 (tc sn ah))) aj (aM (cc func88 (vL hB) (cc func89 (oZ hB) aF)))) func41 ?_;intro p a b hC X hP hT hr hG;have hX:=ai Dw.eq_1<|ai cx<|ai jf.eq_1<|tj.eq_1;simp only[f41,aD,af,ioB];refine sg ?_;refine sd ?_ ?_;·exact⟨hC.st,hC.va,hC.vb⟩
 refine aK (qe [] ?_);rw[nK];rfl
def Dx(B:av):Tab:=mTg B [(3,(.int .i64)),(49,(.arr 2 (.int .i64))),(74,tyP),(82,tyN)] [] [(40,ly),(41,nZ),(70,jK),(77,fa),(81,zm),(90,gy),(91,MI),(92,ee),(93,oW)] [] 94 sgT
def Bf:Con:=c3 tyP tyN tyN (fun p a b=>iM p a b) (fun p a b=>[.z (.int .i64) (lf (ab p) (an a) (an b))])
theorem Fv{B:av}(hB:bc B):Valid B prog 42 Bf:=by
 refine v3 (mg (T:=Dx B) (tc ty3 (tc NK (tc jq (tc ty82 ah)))) aj (aM (cc func40 (jM hB) (cc func41 (vM hB) (cc func70 (iw hB) (cc func77 (oV hB) (cc func81 (vK hB) (cc func90 (ix hB) (cc func91 (Fq hB) (cc func92 (jL hB) (cc func93 (iy hB) aF)))))))))) (hg:=hB.2.2)) func42 ?_;intro p a b hC X hP hT hr hG;have hX:=ai Dx.eq_1<|ai cx<|ai zm.eq_1<|ai jK.eq_1<|ai ly.eq_1<|ai ee.eq_1<|ai oW.eq_1<|ai gy.eq_1<|ai fa.eq_1<|ai MI.eq_1<|ai nZ.eq_1<|ai @Int.toNat_zero<|ai @Int.toNat_one<|ai @Nat.zero_mul<|ai @Nat.one_mul<|ai @Nat.mul_one<|ai @List.replicate_succ.{0}<|ai @List.replicate_zero.{0}<|ai @List.flatten_cons.{0}<|ai @List.flatten_nil.{0}<|ai @O6.{0,0}<|ai @Qv.{0,0}<|ai @Qz.{0}<|ai @Oy.{0}<|ai @OS.{0}<| @OY.{0};simp only[f42,aD,af,ioB];refine sg ?_;have hX:=ai @ar<|ai @pe2<|ai yN hX;refine sq ?_ ?_;·exact⟨hC.va,aX _⟩
 refine al (au (sq ?_ ?_));·have h2:=hC.two.1;refine⟨id,id,fun h=>⟨h,h2⟩,id,fun h=>⟨h,fun h3=>by rw[h,h3];rfl⟩,fun h=>by rw[h];rfl⟩
 refine qc ?_ ?_;·intro hb0;refine sg ?_;refine aK (bn (aO (qe [] ?_)));exact J1 hb0
 ·intro hb0;refine sq ?_ ?_;·exact hC.two.1
  refine qc ?_ ?_
  ·(intro hb1;obtain⟨hp,hq⟩:=HN hb0;obtain⟨hs1,hs2⟩:=Nm hq hb1;obtain⟨q1,q2,q3,q4⟩:=vo hs1;refine sq ?_ ?_;·rw[q1];exact⟨by decide,q2,by have:=q2.1;have:=q2.2;simp;omega⟩);refine aK (bn (aO (qe [] ?_)));rw[q1];exact q3.trans hs2
  ·intro hb1;obtain⟨hp,hq⟩:=HN hb0;have hab:an a≠an b:=fun e=>hb1 (qo.2 e);refine aC (aR (ag (fz (fun(z:Unit)=>(⟨[(0,.l (.z tyP p)),(4,.l (.z (.ptr tyN) a)),(5,.l (.z (.ptr tyN) b)),(7,.l (.z (.int .i64) (dm (ae (ab p) (an a)))))],[]⟩:aa)) (fun z=> ¬(1<(gw (ab p)).length/\0<fW (gw (ab p)) (an a) (an b))) ?_ ?_)))
   ·(refine sq ?_ ?_;·exact hC.odd hp hab);refine sg ?_;refine qc ?_ ?_
    ·(intro hb2;(have h1:1<(gw (ab p)).length:=by have h9:(1:Int)<((aw (gw (ab p))).length:Int):=hb2;rw[aq] at h9;omega);obtain⟨o1,o2,o3⟩:=hC.oro hp hab h1;have ow:=AQ o1;rw[aA] at ow;refine sq ?_ ?_;·exact o1);refine al (sq ?_ ?_);·rw[aq];exact⟨⟨o2,o3,hC.nb,Og hC.lb (by unfold QA QM;omega)⟩,aX _⟩
     refine qc ?_ ?_
     ·(intro hb3;rw[aA] at hb3;have hi:=HO (a:=an a) hb3;refine rg ?_;refine ag (sg ?_);refine qc ?_ ?_;·intro hb4;rw[aA,ow,<- hi] at hb4;refine sg ?_;refine aK (uq (qe [] ?_));exact Cc hq hab h1 hb4);·intro hb4;rw[aA,ow,<- hi] at hb4;have NO:¬(1<(gw (ab p)).length/\0<fW (gw (ab p)) (an a) (an b)):=fun e=>hb4 e.2;refine aC (qm ?_);exact NO
     ·(intro hb3;rw[aA] at hb3;have hi:=HP (a:=an a) hb3;refine aC (ag (sg ?_));refine qc ?_ ?_;·intro hb5;rw[aA,<- hi] at hb5;refine sg ?_;refine aK (uq (qe [] ?_));exact Cc hq hab h1 hb5);·intro hb5;rw[aA,<- hi] at hb5;have NO:¬(1<(gw (ab p)).length/\0<fW (gw (ab p)) (an a) (an b)):=fun e=>hb5 e.2;refine aC (qm ?_);exact NO
    ·intro hb2;have NO:¬(1<(gw (ab p)).length/\0<fW (gw (ab p)) (an a) (an b)):=fun e=>hb2 (by rw[aq];have:=e.1;omega);refine aC (qm ?_);exact NO
   rintro⟨⟩ hno;(try dsimp only at hno);refine sg ?_;refine fz (fun(z:Int×Int)=>(⟨[(0,.l (.z tyP p)),(4,.l (.z (.ptr tyN) a)),(5,.l (.z (.ptr tyN) b)),(7,.l (.z (.int .i64) (dm (ae (ab p) (an a))))),(10,.l (.ownP 10 0))],[(10,.box 49 [.z (.int .i64) z.1,.z (.int .i64) z.2])]⟩:aa)) (fun z=>z=if dm (ae (ab p) (an a))=0∨0<fU (ab p) (an a) (an b) then (4,3) else (2,1)) ?_ ?_
   ·(refine sq ?_ ?_;·have h2:=hC.rts hp hab;exact⟨fun h=>⟨h,h2⟩,id,fun h=>by rw[h];rfl⟩);refine qc ?_ ?_
    ·intro hb6;refine rg ?_;refine qm ?_;first
      |exact(if_neg (by simpa using hb6)).symm
      |exact⟨rfl,4,3,⟨rfl,rfl,rfl,trivial⟩,(if_pos (by simpa using hb6)).symm⟩
      |exact⟨rfl,4,3,⟨rfl,rfl,trivial⟩,(if_pos (by simpa using hb6)).symm⟩
      |(trace_state;sorry)
    ·intro hb6;refine aC (qm ?_);first
      |exact(if_neg (by simpa using hb6)).symm
      |exact⟨rfl,4,3,⟨rfl,rfl,rfl,trivial⟩,(if_pos (by simpa using hb6)).symm⟩
      |exact⟨rfl,4,3,⟨rfl,rfl,trivial⟩,(if_pos (by simpa using hb6)).symm⟩
      |(trace_state;sorry)
   (rintro w hw;(try dsimp only at hw);refine Cr 10 (.arr 2 (.int .i64)) (by rfl) (by rfl) (by simp only[aa.thawQ,LV.thawQ,CV.thawQ,mr0,mr1,mr2,mT,isNilP,N8,AS,IT,N3,No,AT,N4,N5,reduceIte,reduceDIte,reduceCtorEq];rfl) ?_;refine sq ?_ ?_;·obtain⟨s1,s2,s3⟩:=AP hC hp;rw[ar] at s2;exact⟨hC.two.2,⟨s3,by unfold I64;omega,by decide⟩,s1,s2⟩);(refine sg ?_;refine au (bM (fun(z:Nat×Nat×Rat)=>(⟨[(0,.l (.z tyP p)),(4,.l (.z (.ptr tyN) a)),(5,.l (.z (.ptr tyN) b)),(7,.l (.z (.int .i64) (dm (ae (ab p) (an a))))),(11,.l (.ownP 11 0)),(12,.l (.ownP 12 0)),(10,.l (.z (.ptr (.arr 2 (.int .i64))) [w.1,w.2]))],[(11,.box 82 [.z .bool (aG (fV (ab p) (an a) (an b))).1.1,.z (.slice (.int .u32)) (aG (fV (ab p) (an a) (an b))).1.2,.z .bool (aG (fV (ab p) (an a) (an b))).2.1,.z (.slice (.int .u32)) (aG (fV (ab p) (an a) (an b))).2.2]),(12,.box 82 [.z .bool (aG z.2.2).1.1,.z (.slice (.int .u32)) (aG z.2.2).1.2,.z .bool (aG z.2.2).2.1,.z (.slice (.int .u32)) (aG z.2.2).2.2])]⟩:aa)) (fun z=>vp p a b z.1 z.2.1 z.2.2) (fun z=>z.1) (p.length,0,an a) ?_ ?_ ?_);·refine q_l ?_;rw[show aG (an a)=a from hC.na];unfold fV;rw[az];exact⟨rfl,rfl,rfl,rfl,rfl,rfl,rfl,rfl⟩);·exact HM hp
   ·(rintro⟨n,k,x⟩ hz;(try dsimp only at hz);refine al (au ?_);obtain⟨f1,f2⟩:=J0 hC hz;refine sq ?_ ?_;·exact⟨⟨hC.sz,hC.len,aX _,f1⟩,aX _⟩);refine sg ?_;refine qc ?_ ?_
    ·(intro hb7;have hs1:=HJ hb7;obtain⟨q1,q2,q3,q4⟩:=vo hs1;refine sq ?_ ?_;·rw[q1];exact⟨by decide,q2⟩);refine aK (bn (aO (gJ (bn (qe [] ?_)))));exact J2 hq hab hno hw hs1 (LU hz hb7)
    ·(intro hb7;refine aC (aR (ag (al (sg ?_))));refine rg ?_;refine ag (rq ?_ ?_);·exact⟨aX _,aX _,by rw[ar,ar];exact f2⟩);refine qm ?_;obtain⟨m,h1,h2⟩:=JY hC hp hab hz hb7;exact⟨m,k+1,_,rfl,rfl,rfl,rfl,h1,h2⟩
end Go.Proofs.YtppnhclgaeodoaaGreatDoor
end