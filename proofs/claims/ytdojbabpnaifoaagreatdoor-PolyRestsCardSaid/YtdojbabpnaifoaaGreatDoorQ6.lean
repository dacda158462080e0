/- PolyRests: the whole card, with no condition. -/
import Derived.Test.YtdojbabpnaifoaaGreatDoorQ5
import Derived.ProofKit
import Derived.ChangeSame
import Derived.Deep.DeepHandedRow
import Derived.Test.YtdojbabpnaifoaaGreatDoorQ3
import Derived.Test.YtdojbabpnaifoaaGreatDoorCards
import Derived.Test.YtdojbabpnaifoaaGreatDoorTie
import Derived.OpenShut
import Derived.Lib.LaidTab
import Derived.Stop.LaidErr
import Derived.Lib.SmallJoins
import Derived.KernelRfl
import Derived.Deep.DeepLaidRun
import Derived.Shelf.Vars
import Derived.Test.YtdojbabpnaifoaaGreatDoorQ4
import Derived.WalkKit
set_option linter.all false
set_option linter.unusedSimpArgs false
set_option linter.unusedVariables false
set_option maxRecDepth 100000
section
namespace Go.Cm
open Go.RowKit Go.Deep Go.ChangeShapes Go.WideShapes Go.ChangeAt
def HL:List Ty→Type
 | []=>Unit
 |t::ts=>t.D×HL ts
def HL.args:(ts:List Ty)→HL ts→List LV
 | [],_=> []
 |t::ts,x=> .z t x.1::HL.args ts x.2
def HL.ok:(ts:List Ty)→HL ts→Prop
 | [],_=>True
 |t::ts,x=>t.okD x.1∧HL.ok ts x.2
theorem Nq {P:Program} {W:World} {r:Reach} {b0:Nat} {T:TypeId} {v:Value} (hv:Value.okWide P W r b0 T v):∀ {t:Ty},(t.rd P).1 T=true→ec v=t.isAgg
 | .int k,h=>by
  simp only [Ty.rd,dS] at h
  split at h
  ·rename_i hu;unfold Value.okWide at hv;rw [hu] at hv;simp only at hv;unfold Cell.okWide at hv;rw [hu] at hv
   cases v<;>simp_all [Cell.ok,ec,Ty.isAgg]
  ·cases h
 | .bool,h=>by
  simp only [Ty.rd,dS] at h
  split at h
  ·rename_i hu;unfold Value.okWide at hv;rw [hu] at hv;simp only at hv;unfold Cell.okWide at hv;rw [hu] at hv
   cases v<;>simp_all [Cell.ok,ec,Ty.isAgg]
  ·cases h
 | .str,h=>by
  simp only [Ty.rd,dS] at h
  split at h
  ·rename_i hu;unfold Value.okWide at hv;rw [hu] at hv;simp only at hv;unfold Cell.okWide at hv;rw [hu] at hv
   cases v<;>simp_all [Cell.ok,ec,Ty.isAgg]
  ·cases h
 | .slice t,h=>by
  simp only [Ty.rd,dS] at h
  split at h
  ·rename_i hu;unfold Value.okWide at hv;rw [hu] at hv;simp only at hv;unfold Cell.okWide at hv;rw [hu] at hv
   cases v<;>simp_all [Cell.ok,ec,Ty.isAgg]
  ·cases h
 | .st t,h=>by
  simp only [Ty.rd,dS] at h
  split at h
  ·rename_i hu;unfold Value.okWide at hv;rw [hu] at hv;simp only at hv
   obtain ⟨cs,rfl,_⟩:=hv;rfl
  ·cases h
 | .arr n t,h=>by
  simp only [Ty.rd,dS] at h
  split at h
  ·rename_i hu;unfold Value.okWide at hv;rw [hu] at hv;simp only at hv
   obtain ⟨cs,rfl,_⟩:=hv;rfl
  ·cases h
 | .unit,h=>by simp [Ty.rd] at h
 | .pair _ _,h=>by simp [Ty.rd] at h
 | .ptr _,h=>by simp [Ty.rd] at h
 | .opt _,h=>by simp [Ty.rd] at h
 | .func,h=>by simp [Ty.rd] at h
def s7 (P:Program):List Ty→List TypeId→Bool
 | [], []=>true
 |t::ts,T::Ts=>(t.rd P).1 T&&s7 P ts Ts
 |_,_=>false
theorem Ax {H:Type} {enc:TypeId×Value→H} {P:Program} {W:World} {b0:Nat}:∀ (ts:List Ty) {Ts:List TypeId} {vs:List Value} {ds:List (DataW H)} {p:List MemPlace},s7 P ts Ts=true→
  (∀ (j:Nat) t v,Ts[j]? =some t→vs[j]? =some v→Value.okWide P W .any b0 t v)→DataW.TrodAll enc P W 0 (fun _=>true) true Ts vs ds p→
  ∃ x:HL ts,HL.ok ts x∧bz (aT (fun _=>False) W (fun _=>undef)) (HL.args ts x) vs∧ds.length=ts.length∧
   ∀ (W':World) (sp:Nat→Bool),Below W W'→(∀ q∈p,sp q.block=true)→DataW.TrodAll enc P W' 0 sp true Ts vs ds p
 | [], [],vs,ds,p,_,_,h=>by
  obtain ⟨rfl,rfl,rfl⟩:=trodAll_nil h
  exact ⟨(),trivial,trivial,rfl,fun _ _ _ _=>rfl⟩
 |t::ts,T::Ts,vs,ds,p,hr,hv,h=>by
  simp only [s7,Bool.and_eq_true] at hr
  obtain ⟨v,vs',d,ds',p0,q,rfl,rfl,rfl,⟨n,h0⟩,hs⟩:=trodAll_cons h
  obtain ⟨x,g1,g2,g3⟩:=KC enc P W t T hr.1 n _ _ _ h0
  obtain ⟨y,k1,k2,k3,k4⟩:=Ax ts hr.2 (fun j t v h1 h2=>hv (j+1) t v (by simpa using h1) (by simpa using h2)) hs
  refine ⟨(x,y),⟨g1,k1⟩,⟨⟨Nq (hv 0 T v rfl rfl) hr.1,g2⟩,k2⟩,by simp [k3],fun W' sp hB hq=> ?_⟩
  obtain ⟨m,hm⟩:=g3 W' sp hB (fun q hq'=>hq q (by simp [hq']))
  exact trodAll_cons_mk ⟨m,hm⟩ (k4 W' sp hB (fun q hq'=>hq q (by simp [hq'])))
 | [],_::_,_,_,_,hr,_,_=>by simp [s7] at hr
 |_::_, [],_,_,_,hr,_,_=>by simp [s7] at hr
def lj (W:World):aj:=⟨W.heap.size,fun b=>W.heap[b]?⟩
theorem Cf (W:World):(lj W).On W:=⟨Nat.le_refl _,fun _ _=>rfl⟩
theorem Hf {P:Program} {f:FuncId} {con:Con} {W:World} {args:List LV} {vals:Array Value} (hv:Valid (lj W) P f con) {C:Prop} (hc:con args []=some (C, [.z .bool true], [])) (hC:C)
  (ha:bz (aT (fun _=>False) W (fun _=>undef)) args vals.toList):
  Calls P f vals W fun e W'=>e= .returned (.bool true)∧W'.os=W.os∧W'.output=W.output∧W.heap.size≤W'.heap.size∧Below W W':=by
 refine (hv args [] C _ [] hc hC (fun _=>False) W vals (fun _=>undef) (Cf W) (fun b hb=>by obtain ⟨p,hp, -⟩:=hb;simp [al] at hp) (fun _ h=>h.elim) (fun _ h=>h.elim) ?_ (fun p hp=>by simp [al] at hp) List.Pairwise.nil).mono ?_
 ·refine ha.imp fun x v _ hx=>aX (fun b _ hb=> ?_) (bh.refl _ _) (fun _ _=>rfl) hx
  rcases hb with hb|⟨p,hp, -⟩
  ·exact hb
  ·simp [al] at hp
 ·rintro e W' ⟨vs,ρ1,rfl, -,hb, -,hr, -⟩
  match vs,hr with
  | [v],hr=>
   have h1:aT _ W' (fun _=>undef) (.z .bool true) v:=hr.1
   have h2:v.cells.toList= [.bool true]:=h1.2
   have h3:v= .bool true:=by
    cases v with
    |agg cs=>have:=h1.1;cases this
    |_=>simp [Value.cells] at h2<;>simp [h2]
   subst h3
   refine ⟨rfl,hb.os,hb.output,hb.size,fun b hlt=>hb.block b hlt fun hm=> ?_⟩
   rcases hm with hm|⟨p,hp, -⟩
   ·omega
   ·simp [al] at hp
theorem KD {H:Type} {enc:TypeId×Value→H} {P:Program} {f:Func} {s:ChangeSpec} {apart fresh handsOn again:Bool} {W W':World} {args:Array Value} {v:Value} {ds gs:List (DataW H)} {before pa pv:List MemPlace}
  (hW:DataW.Whole enc P f.params.toList s.vars apart W args.toList ds gs before)
  (hres:∀ (b:Nat) (sp:Nat→Bool) (hd:Bool),DataW.TrodAll enc P W' b sp hd f.resultTypes.toList (v.resultList f.resultTypes.size) (s.fn H (ds++gs)).results [])
  (hargs:∀ sp:Nat→Bool,(∀ p∈before,sp p.block=true)→DataW.TrodAll enc P W' 0 sp true f.params.toList args.toList (s.fn H (ds++gs)).args pa)
  (hvars:∀ sp:Nat→Bool,(∀ p∈before,sp p.block=true)→DataW.TrodVars enc P W' sp s.vars (s.fn H (ds++gs)).vars pv)
  (hps:before=pa++pv) (hk:W.keptBut W' (· ∈before)) (hfz:∀ a:Addr,a.block<W.heap.size→W'.frozen? a=W.frozen? a)
  (hok:∀ (j:Nat) (t:TypeId) (r:Value),f.resultTypes[j]? =some t→(v.resultList f.resultTypes.size)[j]? =some r→Value.okWide P W' .any 0 t r):
  s.post enc P f apart fresh handsOn again W args v W':=by
 have hold:∀ p∈before,(fun b=>decide (b<W.heap.size)) p.block=true:=fun p hp=>by simpa using hW.lt p hp
 refine ⟨ds,gs,before, [],pa,pv,hW,hres _ _ _,hargs _ hold,hvars _ hold,World.keptBut_mono (fun p hp=>⟨hp,?_⟩) hk,fun _=> ?_⟩
 ·rw [hps,List.mem_append] at hp
  exact Or.inr hp
 ·have hlt:=hW.lt
  obtain ⟨_,_,_,_,_,hz,hn⟩:=hW
  refine ⟨hok,_,_,([]++pa)++pv,⟨[]++pa,pv,trodAll_append (hargs _ (fun _ _=>rfl)) (hres _ _ _),hvars _ (fun _ _=>rfl),rfl,?_,?_⟩,?_⟩
  ·intro b off hp
   have hm:MemPlace.cell b off∈before:=by rw [hps];simpa using hp
   rw [hfz _ (hlt _ hm)]
   exact hz b off hm
  ·intro ha
   have:=hn ha
   rw [hps] at this
   simpa using this
  ·intro p hp _
   rw [hps]
   simpa using hp
theorem Cg {W W':World} (hB:Below W W') (a:Addr) (h:a.block<W.heap.size):W'.frozen? a=W.frozen? a:=by
 unfold World.frozen?
 rw [hB a.block h]
theorem KE {W W':World} {may:MemPlace→Prop} (hos:W'.os=W.os) (hout:W'.output=W.output) (hB:Below W W'):W.keptBut W' may:=by
 have h:=World.keptBut_refl W may
 exact ⟨hos,hout,fun i hi=>by rw [hB i hi];exact h.2.2 i hi⟩
def Ay (s:ChangeSpec) (n:Nat):Prop:=s.vars= []∧∀ (H:Type) (ds:List (DataW H)),ds.length=n→s.fn H (ds++ [])={results:= [.lit (.bool true)],args:=ds}
theorem xi {H:Type} {enc:TypeId×Value→H} {P:Program} {f:FuncId} {fn:Func} {con:Con} {ts:List Ty} {tb:TypeId} {s:ChangeSpec} {W:World} {base:Nat} {args:Array Value} {ds gs:List (DataW H)} {before:List MemPlace}
  (hts:s7 P ts fn.params.toList=true) (hrt:fn.resultTypes= #[tb]) (hb:P.underlying tb=some .bool) (hs:Ay s ts.length)
  (hcon:∀ x:HL ts,HL.ok ts x→∃ C,con (HL.args ts x) []=some (C, [.z .bool true], [])∧C) (hv:Valid (lj W) P f con)
  (hval:∀ (j:Nat) t v,fn.params[j]? =some t→args[j]? =some v→Value.okWide P W .any base t v)
  (hW:DataW.Whole enc P fn.params.toList s.vars false W args.toList ds gs before):
  Calls P f args W fun e W'=>∃ v,e= .returned v∧s.post enc P fn false true false false W args v W':=by
 have hW':=hW
 obtain ⟨p,q,hA,hV,rfl,hfz,hnd⟩:=hW
 rw [hs.1] at hV
 obtain ⟨rfl,rfl⟩:=trodVars_none hV
 obtain ⟨x,hx,ha,hl,again⟩:=Ax (b0:=base) ts hts (fun j t v h1 h2=>hval j t v (by simpa using h1) (by simpa using h2)) hA
 obtain ⟨C,hC1,hC2⟩:=hcon x hx
 refine (Hf hv hC1 hC2 ha).mono fun e W' ⟨he,hos,hout,hsz,hB⟩=> ?_
 subst he
 have hspec:=hs.2 H ds hl
 refine ⟨_,rfl,KD (pa:=p) (pv:= []) hW' (fun _ _ _=> ?_) (fun sp hsp=> ?_) (fun _ _=> ?_) rfl (KE hos hout hB) (Cg hB) (ok_one hrt rfl (okWide_bool_mk hb _))⟩
 ·rw [hspec,hrt];exact trodAll_cons_mk (shut_bool hb _) trodAll_mk0
 ·rw [hspec];exact again W' sp hB (fun z hz=>hsp z (by simp [hz]))
 ·rw [hspec,hs.1];rfl
end Go.Cm
end
section
namespace Go.Cm
open Go
theorem KF {k:IntKind} {x a b:Int} (h:(Ty.int k).okD x) (h1:k.min=a) (h2:k.max=b):a≤x∧x≤b:=by
 have h:k.min≤x∧x≤k.max:=h
 rw [h1,h2] at h
 exact h
theorem NY {x:Int} (h:(Ty.int .u8).okD x):0≤x∧x<256:=by
 have:=KF (a:=0) (b:=255) h (by decide) (by decide);omega
end Go.Cm
end
section
namespace Go.Proofs.YtdojbabpnaifoaaGreatDoor
open Go Go.Cm Go.Proofs Go.ChangeShapes Go.WideShapes Go.ChangeAt Go.RowKit Go.Deep Go.Joins
def xj:DataW Unit→Array Value
 | .agg l=>(l.map fun x=>match x with
  | .lit (.int k n)=>Value.int k n
  |_=>Value.bool false).toArray
 |_=> #[]
noncomputable def KG (h:Array Obj) (name:String) (cs:Array Value):Array Obj:=h.modify ((Tryz.prog.globalNamed name).getD 0) fun o=>match o with
 | .cells _ t f=> .cells cs t f
 |o=>o
noncomputable def KH:Nat:=(World.holding Tryz.prog default ⟨#[],#[], []⟩).heap.size
noncomputable def s8 (os:Os):World:=
 let w0:=World.holding Tryz.prog os ⟨#[.cells #[.string {data:= #[118,97,108,117,101,32,111,117,116,32,111,102,32,114,97,110,103,101]}] 239, .cells #[.string {data:= #[105,110,118,97,108,105,100,32,115,121,110,116,97,120]}] 239],#[], []⟩
 {w0 with heap:=(KG (KG (KG (KG (KG w0.heap "strconv.ErrRange" #[.iface 237 (.pointer (some ⟨KH+0,0,none⟩))]) "strconv.ErrSyntax" #[.iface 237 (.pointer (some ⟨KH+1,0,none⟩))]) "math/bits.deBruijn32tab" (xj Rows.laid_math_bits_deBruijn32tab)) "math/bits.deBruijn64tab" (xj Rows.laid_math_bits_deBruijn64tab)) "internal/strconv.uint64pow10" (xj Rows.laid_internal_strconv_uint64pow10))}
theorem KI:(Rows.laid_internal_strconv_uint64pow10:DataW Unit)=Lib.tabData .u64 Lib.pow10Tab:=by kernel_rfl
noncomputable def s9:Nat:=(Tryz.prog.globalNamed "internal/strconv.uint64pow10").getD 0
noncomputable def EP:Nat:=((Tryz.prog.globals[s9]?).map (·.type)).getD 0
noncomputable def KJ:Nat:=match Tryz.prog.underlying EP with
 |some (.array _ e)=>e
 |_=>0
theorem My:Tryz.prog.globalNamed "internal/strconv.uint64pow10"=some s9:=by kernel_rfl
theorem NZ:(Tryz.prog.globals[s9]?).map (·.type)=some EP:=by kernel_rfl
theorem N0:Tryz.prog.underlying EP=some (.array 20 KJ):=by kernel_rfl
theorem N1:Tryz.prog.underlying KJ=some (.int .u64):=by kernel_rfl
theorem N2:Tryz.prog.cellsOf KJ=1:=by kernel_rfl
theorem N3:Tryz.prog.cellsOf EP=20:=by kernel_rfl
theorem Mn {l:List (String×DataW Unit)} {W:World} (h:laidMet Tryz.prog (("internal/strconv.uint64pow10",Rows.laid_internal_strconv_uint64pow10)::l) W):∀ w,(lj W).On w→Lib.TabIs Tryz.prog w "internal/strconv.uint64pow10" .u64 Lib.pow10Tab:=by
 intro w hw
 rw [KI] at h
 have ht:=Lib.tabIs_of_head My NZ N0 N1 N2 N3 h
 unfold Lib.TabIs World.var? at ht ⊢
 rw [My] at ht ⊢
 simp only [Option.bind_some] at ht ⊢
 by_cases hlt:s9<W.heap.size
 ·have he:w.heap[s9]? =W.heap[s9]? :=hw.2 s9 hlt
  rw [he];exact ht
 ·rw [Array.getElem?_eq_none (by omega)] at ht;cases ht
theorem Mo {W:World} (h:W.ShapedOpen Tryz.prog):Nv (lj W):=by
 obtain ⟨m,hm⟩:=Go.Proofs.cell_of_shapedOpen_int (g:=0) (t:=3) (zero:= #[.int .i64 0]) (k:= .i64) h (by decide+kernel) (by kernel_rfl) rfl (by kernel_rfl) (by kernel_rfl) (by kernel_rfl)
 intro w hw
 have hlt:(0:Nat)<W.heap.size:=by
  unfold World.cell? at hm
  rcases Nat.lt_or_ge 0 W.heap.size with h0|h0
  ·exact h0
  ·rw [Array.getElem?_eq_none h0] at hm;cases hm
 have he:w.heap[0]? =W.heap[0]? :=hw.2 0 hlt
 exact ⟨m,(World.cell?_of_block (a:=⟨0,0,none⟩) he).trans hm⟩
end Go.Proofs.YtdojbabpnaifoaaGreatDoor
end
section
namespace Go.Cm
open Go
theorem Mz {x:Int} (h:(Ty.int .i8).okD x): -128≤x∧x<128:=by
 have:=KF (a:= -128) (b:=127) h (by decide) (by decide);omega
theorem ER {d:DPD} (h:(Ty.st (.pair (.slice (.int .i8)) (.pair (.int .u8) (.slice (.int .i8))))).okD d):kt d:=by
 obtain ⟨⟨_,h1⟩,h2,⟨_,h3⟩⟩:=h
 exact ⟨fun n hn=>Mz (h1 n hn),NY h2,fun n hn=>Mz (h3 n hn)⟩
end Go.Cm
end
section
namespace Go.Proofs.YtdojbabpnaifoaaGreatDoor.polyRests
open Go Go.Cm Go.Proofs Go.ChangeShapes Go.WideShapes Go.ChangeAt Go.RowKit Go.Deep Go.Joins
theorem own:ownKnob Tryz.prog.godebug=none:=by kernel_rfl
theorem Oe:Tryz.f6.resultTypes= #[4]:=by kernel_rfl
theorem N4:Tryz.prog.underlying 4=some .bool:=by kernel_rfl
def tys:List Ty:= [(.st (.pair (.slice (.int .i8)) (.pair (.int .u8) (.slice (.int .i8))))),(.st (.pair (.slice (.int .i8)) (.pair (.int .u8) (.slice (.int .i8)))))]
theorem reads:s7 Tryz.prog tys Tryz.f6.params.toList=true:=by kernel_rfl
theorem spec:Ay Rows.polyRestsSpec tys.length:=⟨rfl,fun _ ds h=>match ds,h with| [a0,a1],_=>rfl⟩
abbrev vals:Array Value:= #[.agg #[.slice none 0 0, .int .u8 0, .slice none 0 0], .agg #[.slice none 0 0, .int .u8 0, .slice none 0 0]]
theorem met (os:Os):laidMet Tryz.prog Rows.polyRestsRow.laid ((s8 os).forCall (fun _ _=>0) ⟨#[],vals, []⟩).memory:=
 laidMet_of_run3 8 (by kernel_rfl) (by kernel_rfl) (by kernel_rfl)
theorem witness (os:Os) {H:Type} (enc:TypeId×Value→H):∃ places,DataW.whole enc Tryz.prog ((s8 os).forCall (fun _ _=>0) ⟨#[],vals, []⟩).memory Tryz.f6.params.toList Rows.polyRestsSpec.vars false vals.toList 8=some ([.agg [.nil, .lit (.int .u8 0), .nil], .agg [.nil, .lit (.int .u8 0), .nil]], [],places):=
 ⟨[],by kernel_rfl⟩
theorem Of {W:World} (h:laidMetH Tryz.prog Rows.polyRestsRow.laid W) (hs:W.ShapedOpen Tryz.prog):aC (lj W):=by
 have hL:laidMet Tryz.prog Rows.polyRestsRow.laid W:=h
 exact ⟨fun w hw=>Mn (laidMet.tail (laidMet.tail hL)) w hw,Mo hs⟩
theorem lifted (os:Os) (started:os.Started) (H:Type) (enc:TypeId×Value→H) (F:Stop.Interp):
  ReturnsInHanded {} Tryz.checked os 6 .any ((OpenSpec.ofChange Rows.polyRestsSpec).preRow enc Tryz.prog Tryz.f6 Rows.polyRestsRow.domain false Rows.polyRestsRow.laid) (((OpenSpec.ofChange Rows.polyRestsSpec).at F).post enc Tryz.prog Tryz.f6 false true false false):=by
 obtain ⟨places,hx⟩:=witness os enc
 refine returnsInHanded_of_row (C:=Tryz.checked) (s:=OpenSpec.ofChange Rows.polyRestsSpec) own started (by kernel_rfl) Tryz.func6
  (witness_row_at (enc:=enc) (C:=Tryz.checked) false (s8 os) vals rfl (by kernel_rfl) (by kernel_rfl) (by kernel_rfl)
   (OpenSpec.preRow_of_cond 8 hx (by kernel_rfl) (fun k hk=>by cases hk) (by kernel_rfl) (met os))) ?_
 intro W base args ds gs before hval hW _ _ _ hL hSh _
 exact xi (ts:=tys) (con:=xh) reads Oe N4 spec (fun x h=>by obtain ⟨x0,x1,⟨⟩⟩:=x;obtain ⟨h0,h1, -⟩:=h;exact ⟨_,rfl,⟨ER h0,ER h1⟩⟩) (Hd (Of hL hSh)) hval hW
theorem said:Rows.PolyRestsSaid:=
 OpenClaim.holds_of_cond 6 Tryz.f6 rfl rfl rfl rfl rfl rfl rfl ⟨rfl,rfl,rfl,rfl,rfl⟩ rfl rfl rfl rfl rfl (by kernel_rfl) Tryz.func6 (by kernel_rfl)
  (of_decide_eq_true (by kernel_rfl)) (by unfold Func.isWrapper;first|(rw [if_pos (by decide+kernel)];kernel_rfl)|(rw [if_neg (by decide+kernel)];exact ⟨rfl,rfl⟩))
  (fun os started H enc _ F=>by rw [OpenClaim.pre_eq_preRow];exact lifted os started H enc F)
theorem plain (f:FuncId) (fn:Func) (hf:Tryz.pinned.checked.prog.funcNamed "croupier/croupierlaw04.PolyRests"=some f) (hfn:Tryz.pinned.checked.prog.funcs[f]? =some fn):
  true=Tryz.pinned.checked.prog.looks []∧∀ (j:Nat) t,fn.params[j]? =some t→Tryz.pinned.checked.prog.wantsStandIn t=false:=by
 obtain rfl:f=6:=Option.some.inj ((show Tryz.prog.funcNamed "croupier/croupierlaw04.PolyRests"=some 6 by kernel_rfl).symm.trans hf)|>.symm
 obtain rfl:fn=Tryz.f6:=(Option.some.inj (Tryz.func6.symm.trans hfn)).symm
 refine ⟨by kernel_rfl,fun j t ht=> ?_⟩
 have hall:Tryz.f6.params.toList.all (fun t=> !Tryz.prog.wantsStandIn t)=true:=by kernel_rfl
 have:=List.all_eq_true.1 hall t (by simpa using Array.mem_of_getElem? ht)
 exact (by simpa using this:Tryz.prog.wantsStandIn t=false)
theorem card:Rows.PolyRestsCardSaid:=
 Claim7.holds_tied_plain_at .later [] _ _ _ _ said (fun _ h=>by cases h) (by kernel_rfl) (fun _ h=>by cases h) polyRests_row_tie rfl ⟨rfl,rfl⟩ (by kernel_rfl) rfl plain (by kernel_rfl)
end Go.Proofs.YtdojbabpnaifoaaGreatDoor.polyRests
end
