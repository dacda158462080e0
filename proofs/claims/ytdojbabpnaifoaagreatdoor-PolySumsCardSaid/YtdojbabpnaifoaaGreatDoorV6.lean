/- PolySums: the program function croupierlaw04.PolySums returns true for all arguments,without panicking. -/
import Derived.Test.YtdojbabpnaifoaaGreatDoorV3
import Derived.Test.YtdojbabpnaifoaaGreatDoorV2
import Derived.Test.YtdojbabpnaifoaaGreatDoorProg
import Derived.Test.YtdojbabpnaifoaaGreatDoorV4
import Derived.Test.YtdojbabpnaifoaaGreatDoorV5
import Derived.OpenShut
import Derived.RowKit
import Derived.ChangeArms
import Derived.ChangeSame
import Derived.Deep.Slices
import Derived.ProofKit
import Derived.Deep.DeepHandedRow
import Derived.Test.YtdojbabpnaifoaaGreatDoorCards
import Derived.Test.YtdojbabpnaifoaaGreatDoorTie
import Derived.Lib.LaidTab
import Derived.Stop.LaidErr
import Derived.Lib.SmallJoins
import Derived.KernelRfl
import Derived.Deep.DeepLaidRun
import Derived.Shelf.Vars
import Derived.WalkKit
set_option linter.all false
set_option linter.unusedSimpArgs false
set_option linter.unusedVariables false
set_option maxRecDepth 100000
section
namespace Go.Proofs.YtdojbabpnaifoaaGreatDoor
open Go Go.Cm Go.Proofs
def rX(B:aj):Tab:={types:= [(3,(.int .i64)),(22,(.slice .str)),(31,(.int .i64)),(46,.str)],elems:= [(22,46)],cons:= [(14,iW),(15,wC),(16,wE),(17,wG),(23,ya),(24,Dz),(28,xX),(29,Gd),(30,Ge),(31,yc),(36,ye),(41,MF),(45,OO),(94,OP)],hint:= [],N:=218,base:=B}
theorem BP{B:aj}(hB:aB B):aG Tryz.prog (rX B):=⟨⟨tc ty3 (tc eK (tc ju (tc jc (ae)))),aQ (by kernel_rfl) (af),by simp only[rX,ioB];omega⟩,aE (cc Tryz.func14 (oK hB) (cc Tryz.func15 (wD hB) (cc Tryz.func16 (wF hB) (cc Tryz.func17 (wH hB) (cc Tryz.func23 (DB hB) (cc Tryz.func24 (DA hB) (cc Tryz.func28 (Du hB) (cc Tryz.func29 (IH hB) (cc Tryz.func30 (II hB) (cc Tryz.func31 (DC hB) (cc Tryz.func36 (DD hB) (cc Tryz.func41 (DE hB) (cc Tryz.func45 (IM hB) (cc Tryz.func94 (IP hB) (aA))))))))))))))),by kernel_rfl⟩
def rY:Con:=fun l os=>match l,os with
 | [],[]=>some (True,[.z .bool true],[])
 |_,_=>none
set_option maxHeartbeats 2000000 in
theorem I4{B:aj}(hB:aB B):Valid B Tryz.prog 11 rY:=by
 refine ab (BP hB).tab Tryz.func11 rfl rfl rfl ?_;intro args os C rs os' hc hC;unfold rY at hc;split at hc;case h_2=>cases hc
 cases hc;refine v_h (BP hB) fun X hP hT hr hG=> ?_;have hU:=rX.eq_1;unfold rX at hT;have hX:=ai @OQ.eq_1<|ai @MF.eq_1<|ai @OP.eq_1<|ai @OO.eq_1<|ai @wC.eq_1<|ai @iW.eq_1<|ai @yb.eq_1<|ai @yc.eq_1<|ai @Gd.eq_1<|ai @x9.eq_1<|ai @ya.eq_1<|ai @yd.eq_1<|ai @ye.eq_1<|ai @Gc.eq_1<|ai @Dz.eq_1<|ai @wG.eq_1<|ai @Ge.eq_1<|ai @wE.eq_1<|ai @kT.eq_1<|ai @xX.eq_1<| @List.append_eq.{0};simp only[Tryz.f11,aC,al,ioB];refine s_g hG ?_;refine cd (fun(z:Unit)=>(⟨[(0,.l (.z .bool false)),(1,.l (.z (.slice .str) [[49],[49],[49]])),(2,.l (.z (.slice .str) [])),(3,.l (.z (.int .i64) 0))],[]⟩:aa)) (fun z=>True) ?_ ?_
 ·refine ag hG ?_ ?_
  ·(try simp only[ba]);exact Dd (n:=4) (K:=1) (by decide+kernel) (by decide+kernel)
  show ∃ z,_;refine q_l ?_;exact wp1
 rintro⟨⟩-;refine cd (fun(z:Unit)=>(⟨[(0,.l (.z .bool false)),(1,.l (.z (.slice .str) [[49],[49],[49]])),(2,.l (.z (.slice .str) [])),(3,.l (.z (.int .i64) 0)),(4,.l (.z (.slice .str) [[48],[49,47,50]])),(5,.l (.z (.slice .str) [[49]])),(6,.l (.z (.int .i64) 0))],[]⟩:aa)) (fun z=>True) ?_ ?_
 ·refine ag hG ?_ ?_
  ·(try simp only[ba]);exact Dd (n:=4) (K:=1) (by decide+kernel) (by decide+kernel)
  show ∃ z,_;refine q_l ?_;exact wp2
 rintro⟨⟩-;refine cd (fun(z:Unit)=>(⟨[(0,.l (.z .bool false)),(1,.l (.z (.slice .str) [[49],[49],[49]])),(2,.l (.z (.slice .str) [])),(3,.l (.z (.int .i64) 0)),(4,.l (.z (.slice .str) [[48],[49,47,50]])),(5,.l (.z (.slice .str) [[49]])),(6,.l (.z (.int .i64) 0)),(9,.l (.z (.int .i64) 2))],[]⟩:aa)) (fun z=>True) ?_ ?_
 ·refine ag hG ?_ ?_
  ·(try simp only[ba]);exact Dd (n:=4) (K:=1) (by decide+kernel) (by decide+kernel)
  show ∃ z,_;refine q_l ?_;exact wp3
 rintro⟨⟩-;refine cd (fun(z:Unit)=>(⟨[(0,.l (.z .bool false)),(1,.l (.z (.slice .str) [[49],[49],[49]])),(2,.l (.z (.slice .str) [])),(3,.l (.z (.int .i64) 0)),(4,.l (.z (.slice .str) [[48],[49,47,50]])),(5,.l (.z (.slice .str) [[49]])),(6,.l (.z (.int .i64) 0)),(9,.l (.z (.int .i64) 2)),(10,.l (.z .str [53,47,52])),(11,.l (.z (.int .i64) 0))],[]⟩:aa)) (fun z=>True) ?_ ?_
 ·refine ag hG ?_ ?_
  ·(try simp only[ba]);exact Lm (n:=4) (K:=1) (by decide+kernel) (by decide)
  show ∃ z,_;refine q_l ?_;exact wp4
 rintro⟨⟩-;refine cd (fun(z:Unit)=>(⟨[(0,.l (.z .bool false)),(1,.l (.z (.slice .str) [[49],[49],[49]])),(2,.l (.z (.slice .str) [])),(3,.l (.z (.int .i64) 0)),(4,.l (.z (.slice .str) [[48],[49,47,50]])),(5,.l (.z (.slice .str) [[49]])),(6,.l (.z (.int .i64) 0)),(9,.l (.z (.int .i64) 2)),(10,.l (.z .str [53,47,52])),(11,.l (.z (.int .i64) 0)),(13,.l (.z (.int .i64) 5))],[]⟩:aa)) (fun z=>True) ?_ ?_
 ·refine ag hG ?_ ?_
  ·(try simp only[ba]);exact Lm (n:=4) (K:=1) (by decide+kernel) (by decide)
  show ∃ z,_;refine q_l ?_;exact wp5
 rintro⟨⟩-;refine cd (fun(z:Unit)=>(⟨[(0,.l (.z .bool false)),(14,.l (.z .bool true))],[]⟩:aa)) (fun z=>True) ?_ ?_
 ·refine ag hG ?_ ?_
  ·(try simp only[ba]);exact wsq
  show ∃ z,_;refine q_l ?_;rfl
 rintro⟨⟩-;refine cd (fun(z:Unit)=>(⟨[(0,.l (.z .bool false)),(14,.l (.z .bool true))],[]⟩:aa)) (fun z=>True) ?_ ?_
 ·refine ag hG ?_ ?_
  ·(try simp only[ba]);simp[wp6.1,wp6.2,wp7.1,wp7.2,wp8.1,wp8.2,wp9.1,wp9.2,N9.1,N9.2,Oa.1,Oa.2,ok6,ok7,ok8,ok9,Qw,Qx,QL]
  show ∃ z,_;refine q_l ?_;simp[wp6.1,wp6.2,wp7.1,wp7.2,wp8.1,wp8.2,wp9.1,wp9.2,N9.1,N9.2,Oa.1,Oa.2]
 rintro⟨⟩-;refine cd (fun(z:Unit)=>(⟨[(0,.l (.z .bool false)),(14,.l (.z .bool true))],[]⟩:aa)) (fun z=>True) ?_ ?_
 ·refine ag hG ?_ ?_
  ·(try simp only[ba]);simp[Ob.1,Ob.2,Oc.1,Oc.2,Od.1,Od.2,Oe.1,Oe.2,Qy,Qz,QA,QB,QL]
  show ∃ z,_;refine q_l ?_;simp[Ob.1,Ob.2,Oc.1,Oc.2,Od.1,Od.2,Oe.1,Oe.2]
 rintro⟨⟩-;refine s_q hG ?_ ?_
 ·try simp only[ba]
  simp[Of.1,Of.2,Qk.1,Qk.2]
 refine ay (q_e [] ?_);simp[Of.1,Of.2]
def rZ(B:aj):Tab:={types:= [(3,(.int .i64)),(4,.bool),(22,(.slice .str)),(25,(.st (.pair (.slice (.int .i8)) (.pair (.int .u8) (.slice (.int .i8)))))),(27,(.arr 2 (.slice .str))),(28,(.arr 4 (.arr 2 (.slice .str)))),(31,(.int .i64))],elems:= [],cons:= [(11,rY),(12,rW),(13,nu),(14,iW),(15,wC),(16,wE),(17,wG),(18,yf),(19,yj),(20,kV),(21,yh),(22,oM)],hint:= [],N:=127,base:=B}
theorem BQ{B:aj}(hB:aB B):aG Tryz.prog (rZ B):=⟨⟨tc ty3 (tc ty4 (tc eK (tc Pf (tc PW (tc PX (tc ju (ae))))))),af,by simp only[rZ,ioB];omega⟩,aE (cc Tryz.func11 (I4 hB) (cc Tryz.func12 (I3 hB) (cc Tryz.func13 (IZ hB) (cc Tryz.func14 (oK hB) (cc Tryz.func15 (wD hB) (cc Tryz.func16 (wF hB) (cc Tryz.func17 (wH hB) (cc Tryz.func18 (IR hB) (cc Tryz.func19 (I1 hB) (cc Tryz.func20 (oL hB) (cc Tryz.func21 (IW hB) (cc Tryz.func22 (wJ hB) (aA))))))))))))),by kernel_rfl⟩
def yk:Con:=fun l os=>match l,os with
 | [.z (.slice .str) p,.z (.slice .str) q,.z (.st (.pair (.slice (.int .i8)) (.pair (.int .u8) (.slice (.int .i8))))) d,.z (.st (.pair (.slice (.int .i8)) (.pair (.int .u8) (.slice (.int .i8))))) f],[]=>some (iA d/\iA f,[.z .bool true],[])
 |_,_=>none
set_option maxHeartbeats 2000000 in
theorem I5{B:aj}(hB:aB B):Valid B Tryz.prog 3 yk:=by
 refine ab (BQ hB).tab Tryz.func3 rfl rfl rfl ?_;intro args os C rs os' hc hC;unfold yk at hc;split at hc;case h_2=>cases hc
 rename_i p q d f;cases hc;refine v_h (BQ hB) fun X hP hT hr hG=> ?_;have hU:=rZ.eq_1;unfold rZ at hT;have hX:=ai @kV.eq_1<|ai @yf.eq_1<|ai @oM.eq_1<|ai @wC.eq_1<|ai @iW.eq_1<|ai @wG.eq_1<|ai @wE.eq_1<|ai @rW.eq_1<|ai @nu.eq_1<|ai @yh.eq_1<|ai @yj.eq_1<|ai @rY.eq_1<|ai @Int.toNat_zero<|ai @Int.toNat_one<|ai @Nat.zero_mul<|ai @Nat.one_mul<|ai @Nat.mul_one<|ai @List.replicate_succ.{0}<|ai @List.replicate_zero.{0}<|ai @List.flatten_cons.{0}<| @List.flatten_nil.{0};simp only[Tryz.f3,aC,al,ioB];obtain⟨hd,hf⟩:=hC;refine s_g hG ?_;refine ak (s_g hG ?_);refine ao ?_ ?_;·intro hb0;cases hb0
 ·intro hb0;try simp only[bf] at hb0
  refine aq (ah ?_);refine ak (s_q hG ?_ ?_)
  ·(try simp only[ba]);exact⟨hd,hf⟩
  refine av (bj (fun(z:Nat)=>(⟨[(8,.l (.z .bool false)),(25,.l (.z (.arr 4 (.arr 2 (.slice .str))) (ue p q d f))),(26,.l (.z (.int .i64) (z:Int)))],[]⟩:aa)) (fun z=>z<=4) (fun z=>4-z) 0 ?_ ?_ ?_);·refine q_l ?_;trivial
  ·omega
  ·rintro k g1;(try dsimp only at g1);refine s_g hG ?_;refine ak (ao ?_ ?_)
   ·intro hb1;(try simp only[bt] at hb1);(have hk:k<4:=by have h9:(k:Int)<4:=hb1;omega);refine aq (ah ?_);refine ak (av ?_);obtain⟨a,b,eab,pa,pb⟩:=Dr hd hf (p:=p) (q:=q) hk;have hX:=ai eab hX;refine s_q hG ?_ ?_
    ·(try simp only[ba]);omega
    refine s_q hG ?_ ?_
    ·(try simp only[ba]);exact⟨by decide,pa.short⟩
    refine ak (cd (fun(z:Unit)=>(⟨[(8,.l (.z .bool false)),(25,.l (.z (.arr 4 (.arr 2 (.slice .str))) (ue p q d f))),(26,.l (.z (.int .i64) (k:Int))),(10,.l (.ownP 10 0)),(11,.l (.z .bool (decide (bK a=0)))),(12,.l (.z (.int .i64) (bK a)))],[(10,.box 27 [.z (.slice .str) a,.z (.slice .str) b])]⟩:aa)) (fun z=>True) ?_ ?_)
    ·refine ag hG ?_ ?_
     ·(try simp only[ba]);exact⟨by decide,pa.short⟩
     show ∃ z,_;refine q_l ?_;trivial
    rintro⟨⟩-;refine s_q hG ?_ ?_
    ·(try simp only[ba]);rcases nm a with h|h<;>simp[h]
    refine ao ?_ ?_;·intro hb2;exact absurd hb2 (by rcases nm a with h|h<;>simp[h])
    ·intro hb2;(try simp only[bf] at hb2);refine aq (ah ?_);refine s_q hG ?_ ?_
     ·(try simp only[ba]);exact⟨by decide,by decide,LP pa pb⟩
     refine s_q hG ?_ ?_
     ·(try simp only[ba]);exact⟨by decide,by decide,LQ pa pb⟩
     refine cd (fun(z:Unit)=>(⟨[(8,.l (.z .bool false)),(25,.l (.z (.arr 4 (.arr 2 (.slice .str))) (ue p q d f))),(26,.l (.z (.int .i64) (k:Int))),(10,.l (.ownP 10 0)),(11,.l (.z .bool (decide (bK a=0)))),(13,.l (.z (.slice .str) (cr (bz (· + ·)) a b))),(14,.l (.z (.int .i64) (cC (bz (· + ·)) a b))),(15,.l (.z (.slice .str) (cr (bz (· - ·)) a b))),(16,.l (.z (.int .i64) (cC (bz (· - ·)) a b))),(17,.l (.z (.slice .str) (cr cZ a b))),(18,.l (.z (.int .i64) (cC cZ a b)))],[(10,.box 27 [.z (.slice .str) a,.z (.slice .str) b])]⟩:aa)) (fun z=>True) ?_ ?_
     ·refine ag hG ?_ ?_
      ·(try simp only[ba]);exact⟨by decide,by decide,LR pa pb⟩
      show ∃ z,_;refine q_l ?_;trivial
     rintro⟨⟩-;refine ak (s_q hG ?_ ?_)
     ·(try simp only[ba]);simp[pb.short]
     refine ao ?_ ?_
     ·intro hb3;have hbad:=LZ hb3;obtain⟨s1,s2⟩:=xu (f:=bz (· + ·)) hbad;obtain⟨m1,m2⟩:=xu (f:=bz (· - ·)) hbad;obtain⟨t1,t2⟩:=xu (f:=cZ) hbad;refine ak (s_q hG ?_ ?_)
      ·(try simp only[ba]);simp
      refine ao ?_ ?_;·intro hb4;simp[s1,s2,m1,m2,t1,t2] at hb4
      ·(intro hb4;(try simp only[bf] at hb4);refine aq (ah ?_);refine bd (aD ?_);refine ax (ah ?_);refine ag hG ?_ ?_;·first|trivial|omega|(simp;done)|(simp;omega));show ∃ z,_;refine q_l ?_;exact⟨k+1,wo,by omega,by omega⟩
     ·intro hb3;have hok:=Oq hb3;have hv:=HY pa pb hok;refine aq (ah ?_);refine s_q hG ?_ ?_
      ·(try simp only[ba]);have f1:=hv.ga.mono (m:=QK2) (by decide);have f2:=hv.gb.mono (m:=QK2) (by decide);have f3:=hv.gb.mono (m:=1000000) (by decide);(have f4:List.length a<=1000000:=by have:=hv.la;omega);(have f5:List.length b<=1000000:=by have:=hv.lb;omega);have f6:HP a b:=⟨hv.ga.mono (by decide),hv.gb.mono (by decide),by have:=hv.la;omega,by have:=hv.lb;omega⟩;simp[f1,f2,f3,f4,f5,f6,H3,hv.fs,hv.fm,hv.ft]
      refine ao ?_ ?_;·intro hb5;simp[hv.ts,hv.tm,hv.tt] at hb5
      ·(intro hb5;(try simp only[bf] at hb5);refine aq (aI ?_);refine ah (ag hG ?_ ?_);·first|trivial|omega|(simp;done)|(simp;omega));show ∃ z,_;refine q_l ?_;exact⟨k+1,wo,by omega,by omega⟩
   ·intro hb1;(try simp only[bf] at hb1);refine bd (aD ?_);refine az (ax ?_);refine ah (s_g hG ?_);refine ay (q_e [] ?_);trivial
end Go.Proofs.YtdojbabpnaifoaaGreatDoor
end
section
namespace Go.Cm
open Go.RowKit Go.Deep Go.ChangeShapes Go.WideShapes
def Below(W W':World):Prop:=∀ b,b<W.heap.size->W'.heap[b]? =W.heap[b]?
theorem Below.cell{W W':World}(h:Below W W'){a:Addr}{v:Value}(hc:W.cell? a=some v):W'.cell? a=some v:=by
 rw[<- hc];exact World.cell?_of_block (h a.block (block_lt_of_cell hc))
def MG(P:Program)(w:Nat)(r:TypeId->Bool):Nat->List Field->Bool:=fun off fs=>match fs with
 | [f]=>f.offset==off&&P.cellsOf f.type==w&&r f.type
 |_=>false
def dZ(P:Program)(w:Nat)(r:TypeId->Bool):(TypeId->Bool)×(Nat->List Field->Bool):=(r,MG P w r)
def Ty.rd(P:Program):Ty->(TypeId->Bool)×(Nat->List Field->Bool)
 | .int k=>dZ P 1 fun T=>match P.underlying T with
  |some (.int k')=>decide (k'=k)
  |_=>false
 | .bool=>dZ P 1 fun T=>match P.underlying T with
  |some .bool=>true
  |_=>false
 | .str=>dZ P 1 fun T=>match P.underlying T with
  |some .string=>true
  |_=>false
 | .unit=>(fun _=>false,fun _ _=>false)
 | .pair a b=>(fun _=>false,fun off fs=>match fs with
  |f::r=>f.offset==off&&P.cellsOf f.type==a.w&&(a.rd P).1 f.type&&(b.rd P).2 (off+a.w) r
  | []=>false)
 | .st t=>dZ P t.w fun T=>match P.underlying T with
  |some (.struct fs)=>P.cellsOf T==t.w&&(t.rd P).2 0 fs.toList
  |_=>false
 | .arr n t=>dZ P (n*t.w) fun T=>match P.underlying T with
  |some (.array m E)=>m==n&&P.cellsOf E==t.w&&P.cellsOf T==n*t.w&&(t.rd P).1 E
  |_=>false
 | .slice t=>dZ P 1 fun T=>match P.underlying T with
  |some (.slice E)=>P.cellsOf E==t.w&&decide (0<t.w)&&(t.rd P).1 E
  |_=>false
 | .ptr _=>(fun _=>false,fun _ _=>false)
 | .opt _=>(fun _=>false,fun _ _=>false)
 | .func=>(fun _=>false,fun _ _=>false)
def Ty.okD:(t:Ty)->t.D->Prop
 | .int k,x=>k.min<=x/\x<=k.max
 | .bool,_=>True
 | .str,x=>x.length<=maxLen
 | .unit,_=>True
 | .pair a b,x=>a.okD x.1/\b.okD x.2
 | .st t,x=>t.okD x
 | .arr n t,x=>x.length=n/\∀ y∈x,t.okD y
 | .slice t,x=>x.length<=maxLen/\∀ y∈x,t.okD y
 | .ptr t,x=>t.okD x
 | .opt t,x=>∀ y,x=some y->t.okD y
 | .func,_=>True
section
variable {H:Type} (enc:TypeId×Value->H) (P:Program) (W:World)
def kW(t:Ty)(T:TypeId)(cs:List Value)(d:DataW H)(ps:List MemPlace):Prop:=
 ∃ x:t.D,t.okD x/\t.rep (fun _=>False) W cs x/\
  ∀ (W':World) (sp:Nat->Bool),Below W W'->(∀ q∈ps,sp q.block=true)->∃ n,DataW.trod enc P W' 0 sp true n T cs=some (d,ps)
theorem mapM_at{α β:Type}{f:α->Option β}:∀ {l:List α} {xs:List β},l.mapM f=some xs->xs.length=l.length/\∀ (i:Nat) a,l[i]? =some a->f a=xs[i]?
 | [],xs,h=>by simp at h;subst h;simp
 |a::l,xs,h=>by
  simp only[List.mapM_cons,Option.bind_eq_bind,Option.bind_eq_some_iff,Option.pure_def,Option.some.injEq] at h;obtain⟨y,hy,ys,hys,rfl⟩:=h;obtain⟨h1,h2⟩:=mapM_at hys;refine⟨by simp[h1],fun i b hb=> ?_⟩;cases i with
  |zero=>simp at hb;subst hb;simpa using hy
  |succ i=>simp at hb ⊢;exact h2 i b hb
theorem nv{α β:Type}{f:α->Option β}:∀ {l:List α} {xs:List β},xs.length=l.length->(∀ (i:Nat) a,l[i]? =some a->f a=xs[i]?)->l.mapM f=some xs
 | [],xs,h,_=>by have:=List.eq_nil_of_length_eq_zero h;subst this;rfl
 |a::l,[],h,_=>by simp at h
 |a::l,x::xs,h,hf=>by
  have h0:=hf 0 a rfl;simp at h0;have:=nv (f:=f) (l:=l) (xs:=xs) (by simpa using h) (fun i b hb=>by have:=hf (i+1) b (by simpa using hb);simpa using this);simp[List.mapM_cons,h0,this]
theorem Gg{α:Type}{R:List Value->α->Prop}{ok:α->Prop}{w:Nat}:∀ (n:Nat) (cs:List Value),cs.length=n*w->(∀ i,i<n->∃ x,ok x/\R ((cs.drop (i*w)).take w) x)->∃ xs:List α,xs.length=n/\(∀ x∈xs,ok x)/\cG R cs xs
 |0,cs,h,_=>⟨[],rfl,by simp,by simp[cG];exact List.eq_nil_of_length_eq_zero (by omega)⟩
 |n+1,cs,h,hx=>by
  obtain⟨x,h1,h2⟩:=hx 0 (by omega);simp only[Nat.zero_mul,List.drop_zero] at h2;obtain⟨xs,g1,g2,g3⟩:=Gg (R:=R) (ok:=ok) (w:=w) n (cs.drop w) (by rw[List.length_drop,h,Nat.succ_mul];omega) (fun i hi=>by
   obtain⟨y,k1,k2⟩:=hx (i+1) (by omega);refine⟨y,k1,?_⟩;rw[List.drop_drop,show w+i*w=(i+1)*w by rw[Nat.succ_mul];omega];exact k2)
  refine⟨x::xs,by simp[g1],fun y hy=> ?_,cs.take w,cs.drop w,(List.take_append_drop _ _).symm,h2,g3⟩;rcases List.mem_cons.1 hy with rfl|hy;·exact h1
  ·exact g2 y hy
theorem Gh{α:Type}{R:List Value->α->Prop}{ok:α->Prop}{w:Nat}{a:Addr}:∀ (n:Nat),(∀ i,i<n->∃ c,c.length=w/\(∀ j,j<w->W.cell? (a.add (i*w+j))=c[j]?)/\∃ x,ok x/\R c x)->
  ∃ (cells:List Value) (xs:List α),cells.length=n*w/\xs.length=n/\(∀ x∈xs,ok x)/\cG R cells xs/\∀ k,k<n*w->W.cell? (a.add k)=cells[k]?
 |0,_=>⟨[],[],by simp,rfl,by simp,rfl,fun k hk=>by simp at hk⟩
 |n+1,h=>by
  obtain⟨cells,xs,h1,h2,h3,h4,h5⟩:=Gh n (fun i hi=>h i (by omega));obtain⟨c,g1,g2,x,g3,g4⟩:=h n (by omega);refine⟨cells++c,xs++ [x],by rw[List.length_append,h1,g1,Nat.succ_mul],by simp[h2],fun y hy=> ?_,e9 h4 (I9 g4),fun k hk=> ?_⟩
  ·(rcases List.mem_append.1 hy with hy|hy;·exact h3 y hy);·simp at hy;subst hy;exact g3
  ·by_cases hlt:k<n*w
   ·rw[h5 k hlt,List.getElem?_append_left (by omega)]
   ·rw[Nat.succ_mul] at hk;rw[List.getElem?_append_right (by omega),h1,<- g2 (k-n*w) (by omega),show n*w+(k-n*w)=k by omega]
theorem I6{W:World}{b:Nat}{a:Addr}{n:Nat}{cs:List Value}(h:W.cells? b a n=some cs):cs.length=n/\∀ j,j<n->W.cell? (a.add j)=cs[j]? :=by
 unfold World.cells? at h;split at h;·obtain⟨h1,h2⟩:=mapM_at h;refine⟨by simpa using h1,fun j hj=>h2 j j (by simp[hj])⟩
 ·cases h
theorem MH{W:World}{a:Addr}{n:Nat}{cs:List Value}(h:cs.length=n)(hc:∀ j,j<n->W.cell? (a.add j)=cs[j]?):W.cells? 0 a n=some cs:=by
 unfold World.cells?;rw[if_pos (Nat.zero_le _)];exact nv (by simpa using h) (fun i b hb=>by
  obtain⟨hi,e⟩:=List.getElem?_eq_some_iff.1 hb;simp at hi e;subst e;exact hc i hi)
theorem MI(t:Ty):(∀ T,(t.rd P).1 T=true->∀ fuel cs d ps,DataW.trod enc P W 0 (fun _=>true) true fuel T cs=some (d,ps)->kW enc P W t T cs d ps):=by
 have single:∀ (u:Ty) (w:Nat),u.w=w->(∀ T,(u.rd P).1 T=true->∀ fuel cs d ps,DataW.trod enc P W 0 (fun _=>true) true fuel T cs=some (d,ps)->kW enc P W u T cs d ps)->
   ∀ off fs,MG P w (u.rd P).1 off fs=true->∀ (fuel:Nat) (cs:List Value) (xs:List (DataW H×List MemPlace)),cs.length=off+u.w->fs.mapM (fun f=>DataW.trod enc P W 0 (fun _=>true) true fuel f.type ((cs.drop f.offset).take (P.cellsOf f.type)))=some xs->
   ∃ x:u.D,u.okD x/\u.rep (fun _=>False) W (cs.drop off) x/\∀ (W':World) (sp:Nat->Bool),Below W W'->(∀ q∈xs.flatMap (·.2),sp q.block=true)->∃ n,fs.mapM (fun f=>DataW.trod enc P W' 0 sp true n f.type ((cs.drop f.offset).take (P.cellsOf f.type)))=some xs:=by
  intro u w hw ih off fs hr fuel cs xs hl hm;unfold MG at hr;split at hr
  ·rename_i f;simp only[Bool.and_eq_true,beq_iff_eq] at hr;obtain⟨⟨h1,h2⟩,h3⟩:=hr;rw[List.mapM_cons,Option.bind_eq_bind,Option.bind_eq_some_iff] at hm;obtain⟨⟨d,ps⟩,hd,hm⟩:=hm;simp at hm;subst hm;have hcut:(cs.drop f.offset).take (P.cellsOf f.type)=cs.drop off:=by
    rw[h1,h2];exact List.take_of_length_le (by rw[List.length_drop];omega)
   rw[hcut] at hd;obtain⟨x,g1,g2,g3⟩:=ih _ h3 _ _ _ _ hd;refine⟨x,g1,g2,fun W' sp hB hq=> ?_⟩;obtain⟨n,hn⟩:=g3 W' sp hB (fun q hq'=>hq q (by simpa using hq'));exact⟨n,by simp[hcut,hn]⟩
  ·cases hr
 suffices key:(∀ T,(t.rd P).1 T=true->∀ fuel cs d ps,DataW.trod enc P W 0 (fun _=>true) true fuel T cs=some (d,ps)->kW enc P W t T cs d ps)/\
   ∀ off fs,(t.rd P).2 off fs=true->∀ (fuel:Nat) (cs:List Value) (xs:List (DataW H×List MemPlace)),cs.length=off+t.w->fs.mapM (fun f=>DataW.trod enc P W 0 (fun _=>true) true fuel f.type ((cs.drop f.offset).take (P.cellsOf f.type)))=some xs->
   ∃ x:t.D,t.okD x/\t.rep (fun _=>False) W (cs.drop off) x/\∀ (W':World) (sp:Nat->Bool),Below W W'->(∀ q∈xs.flatMap (·.2),sp q.block=true)->∃ n,fs.mapM (fun f=>DataW.trod enc P W' 0 sp true n f.type ((cs.drop f.offset).take (P.cellsOf f.type)))=some xs from key.1
 induction t with
 |int k=>
  have h:∀ T,((Ty.int k).rd P).1 T=true->∀ fuel cs d ps,DataW.trod enc P W 0 (fun _=>true) true fuel T cs=some (d,ps)->kW enc P W (.int k) T cs d ps:=by
   (intro T hT fuel cs d ps h;simp only[Ty.rd,dZ] at hT;split at hT;·rename_i k' hu;simp only[decide_eq_true_eq] at hT;subst hT;obtain⟨z,rfl,he,hw⟩:=DataW.trod_int hu h;cases he;(have h2:IntKind.min k'<=z/\z<=IntKind.max k':=by simpa [Lit.wf,IntKind.has] using hw);exact⟨z,h2,rfl,fun W' sp _ _=>⟨1,trod_int_mk 0 hu hw⟩⟩);·cases hT
  exact⟨h,single (.int k) 1 rfl h⟩
 |bool=>
  have h:∀ T,(Ty.bool.rd P).1 T=true->∀ fuel cs d ps,DataW.trod enc P W 0 (fun _=>true) true fuel T cs=some (d,ps)->kW enc P W .bool T cs d ps:=by
   (intro T hT fuel cs d ps h;simp only[Ty.rd,dZ] at hT;split at hT;·rename_i hu;obtain⟨z,rfl,he⟩:=DataW.trod_bool hu h;cases he;exact⟨z,trivial,rfl,fun W' sp _ _=>⟨1,by unfold DataW.trod;rw[hu]⟩⟩);·cases hT
  exact⟨h,single .bool 1 rfl h⟩
 |str=>
  have h:∀ T,(Ty.str.rd P).1 T=true->∀ fuel cs d ps,DataW.trod enc P W 0 (fun _=>true) true fuel T cs=some (d,ps)->kW enc P W .str T cs d ps:=by
   (intro T hT fuel cs d ps h;simp only[Ty.rd,dZ] at hT;split at hT;·rename_i hu;obtain⟨z,rfl,he,hz⟩:=DataW.trod_string hu h;cases he;refine⟨z.data.toList,by simpa [Ty.okD] using hz,rfl,fun W' sp _ _=>shut_string_cell hu hz⟩);·cases hT
  exact⟨h,single .str 1 rfl h⟩
 |unit=>exact⟨fun T h=>by simp[Ty.rd] at h,fun off fs h=>by simp[Ty.rd] at h⟩
 |ptr t _=>exact⟨fun T h=>by simp[Ty.rd] at h,fun off fs h=>by simp[Ty.rd] at h⟩
 |opt t _=>exact⟨fun T h=>by simp[Ty.rd] at h,fun off fs h=>by simp[Ty.rd] at h⟩
 |func=>exact⟨fun T h=>by simp[Ty.rd] at h,fun off fs h=>by simp[Ty.rd] at h⟩
 |pair a b iha ihb=>
  refine⟨fun T h=>by simp[Ty.rd] at h,?_⟩;intro off fs hr fuel cs xs hl hm;simp only[Ty.rd] at hr;split at hr
  ·rename_i f r;simp only[Bool.and_eq_true,beq_iff_eq] at hr;obtain⟨⟨⟨h1,h2⟩,h3⟩,h4⟩:=hr;rw[List.mapM_cons,Option.bind_eq_bind,Option.bind_eq_some_iff] at hm;obtain⟨⟨d,ps⟩,hd,hm⟩:=hm;rw[Option.bind_eq_bind,Option.bind_eq_some_iff] at hm;obtain⟨ys,hys,hm⟩:=hm;simp at hm;subst hm;rw[h1,h2] at hd;simp only[Ty.w] at hl;obtain⟨x,g1,g2,g3⟩:=iha.1 _ h3 _ _ _ _ hd;obtain⟨y,k1,k2,k3⟩:=ihb.2 _ _ h4 _ _ _ (by omega) hys;refine⟨(x,y),⟨g1,k1⟩,⟨(cs.drop off).take a.w,cs.drop (off+a.w),?_,g2,k2⟩,fun W' sp hB hq=> ?_⟩;·rw[<- List.drop_drop,List.take_append_drop]
   ·obtain⟨n,hn⟩:=g3 W' sp hB (fun q hq'=>hq q (by simp[hq']));obtain⟨m,hm⟩:=k3 W' sp hB (fun q hq'=>hq q (by rw[List.flatMap_cons];exact List.mem_append_right _ hq'));refine⟨max n m,?_⟩;rw[List.mapM_cons,h1,h2,DataW.trod_le (Nat.le_max_left n m) hn];have:r.mapM (fun f=>DataW.trod enc P W' 0 sp true (max n m) f.type ((cs.drop f.offset).take (P.cellsOf f.type)))=some ys:=by
     obtain⟨q1,q2⟩:=mapM_at hm;refine nv q1 fun i f hf=> ?_;(have hi:i<ys.length:=by rw[q1];exact(List.getElem?_eq_some_iff.1 hf).1);have:=q2 i f hf;rw[List.getElem?_eq_getElem hi] at this ⊢;exact DataW.trod_le (Nat.le_max_right n m) this
    simp[this]
  ·cases hr
 |st t ih=>
  have h:∀ T,((Ty.st t).rd P).1 T=true->∀ fuel cs d ps,DataW.trod enc P W 0 (fun _=>true) true fuel T cs=some (d,ps)->kW enc P W (.st t) T cs d ps:=by
   (intro T hT fuel cs d ps h;simp only[Ty.rd,dZ] at hT;split at hT;·rename_i fs hu;simp only[Bool.and_eq_true,beq_iff_eq] at hT;obtain⟨xs,n,rfl,he,hl,hxl,hx⟩:=DataW.trod_struct hu h;cases he;obtain⟨x,g1,g2,g3⟩:=ih.2 0 _ hT.2 n cs xs (by rw[hl,hT.1];omega) (nv (by rw[hxl];rfl) (fun i f hf=>hx i f (by simpa using hf)));refine⟨x,g1,(show t.rep (fun _=>False) W cs x by simpa using g2),fun W' sp hB hq=> ?_⟩;obtain⟨m,hm⟩:=g3 W' sp hB hq;exact⟨m+1,trod_struct_mk hu hl hm⟩);·cases hT
  exact⟨h,single (.st t) t.w rfl h⟩
 |arr n t ih=>
  have h:∀ T,((Ty.arr n t).rd P).1 T=true->∀ fuel cs d ps,DataW.trod enc P W 0 (fun _=>true) true fuel T cs=some (d,ps)->kW enc P W (.arr n t) T cs d ps:=by
   intro T hT fuel cs d ps h;simp only[Ty.rd,dZ] at hT;split at hT
   ·rename_i m E hu;simp only[Bool.and_eq_true,beq_iff_eq] at hT;obtain⟨⟨⟨rfl,h2⟩,h3⟩,h4⟩:=hT;obtain⟨xs,k,rfl,he,hl,hxl,hx⟩:=DataW.trod_array hu h;cases he;have each:∀ i,i<m->kW enc P W t E ((cs.drop (i*t.w)).take t.w) ((xs.map (·.1)).getD i .nil) ((xs.map (·.2)).getD i []):=by
     intro i hi;have:=hx i hi;rw[h2,List.getElem?_eq_getElem (by omega)] at this;refine ih.1 E h4 k _ _ _ ?_;rw[this];simp[List.getD_eq_getElem?_getD,List.getElem?_eq_getElem (show i<xs.length by omega)]
    obtain⟨ys,q1,q2,q3⟩:=Gg (R:=fun c y=>t.rep (fun _=>False) W c y) (ok:=t.okD) m cs (by rw[hl,h3]) (fun i hi=>by obtain⟨x,e1,e2,_⟩:=each i hi;exact⟨x,e1,e2⟩);refine⟨ys,⟨q1,q2⟩,⟨q1,q3⟩,fun W' sp hB hq=> ?_⟩;obtain⟨f,hf⟩:=fuel_lt (n:=m) (q:=fun i f=>DataW.trod enc P W' 0 sp true f E ((cs.drop (i*t.w)).take t.w)=xs[i]? /\i<xs.length) (fun i a b hab hi=>by
      cases hx':xs[i]? with
      |none=>exact absurd hi.2 (by rw[List.getElem?_eq_none_iff] at hx';omega)
      |some y=>rw[hx'] at hi;exact⟨DataW.trod_le hab hi.1,hi.2⟩) (fun i hi=>by
     obtain⟨_,_,_,e3⟩:=each i hi;(have hil:i<xs.length:=by omega);obtain⟨f,hf⟩:=e3 W' sp hB (fun q hq'=>hq q (by
      rw[List.mem_flatMap];refine⟨xs[i],List.getElem_mem hil,?_⟩;simpa [List.getD_eq_getElem?_getD,List.getElem?_eq_getElem hil] using hq'))
     refine⟨f,?_,hil⟩;rw[hf,List.getElem?_eq_getElem hil];simp[List.getD_eq_getElem?_getD,List.getElem?_eq_getElem hil])
    refine⟨f+1,?_⟩;have hmm:(List.range m).mapM (fun i=>DataW.trod enc P W' 0 sp true f E ((cs.drop (i*t.w)).take t.w))=some xs:=nv (by simpa using hxl) (fun i b hb=>by
     obtain⟨hi,e⟩:=List.getElem?_eq_some_iff.1 hb;simp at hi e;subst e;exact(hf i hi).1)
    unfold DataW.trod;rw[hu];simp only[h2,hl,hmm,if_true,Option.map_some]
   ·cases hT
  exact⟨h,single (.arr n t) (n*t.w) rfl h⟩
 |slice t ih=>
  have h:∀ T,((Ty.slice t).rd P).1 T=true->∀ fuel cs d ps,DataW.trod enc P W 0 (fun _=>true) true fuel T cs=some (d,ps)->kW enc P W (.slice t) T cs d ps:=by
   intro T hT fuel cs d ps h;simp only[Ty.rd,dZ] at hT;split at hT
   ·(rename_i E hu;simp only[Bool.and_eq_true,beq_iff_eq,decide_eq_true_eq] at hT;obtain⟨⟨h1,h2⟩,h3⟩:=hT;rcases open_slice hu h with⟨rfl,he⟩|⟨a,len,cap,m,k,D,Pl,rfl,hb,hl,hm,he1,he,hx⟩);·cases he;exact⟨[],⟨by simp,by simp⟩,.inl ⟨rfl,rfl⟩,fun W' sp _ _=>⟨1,by unfold DataW.trod;rw[hu];rfl⟩⟩
    ·cases he;simp only[if_true] at he1;subst he1;rw[h1] at hx;have each:∀ i,i<m->∃ c,c.length=t.w/\(∀ j,j<t.w->W.cell? (a.add (i*t.w+j))=c[j]?)/\kW enc P W t E c (D i) (Pl i):=by
      intro i hi;obtain⟨c,hc,hd⟩:=hx i hi;obtain⟨g1,g2⟩:=I6 hc;exact⟨c,g1,fun j hj=>by rw[<- g2 j hj,add_add],ih.1 E h3 k _ _ _ hd⟩
     obtain⟨cells,ys,q1,q2,q3,q4,q5⟩:=Gh W (R:=fun c y=>t.rep (fun _=>False) W c y) (ok:=t.okD) (a:=a) len (fun i hi=>by
      obtain⟨c,e1,e2,x,e3,e4,_⟩:=each i (by omega);exact⟨c,e1,e2,x,e3,e4⟩)
     obtain⟨b,o,p⟩:=a;have hp:0<m->p=none:=by
      intro hlen;obtain⟨c,e1,e2,_⟩:=each 0 hlen;have:=e2 0 h2;rw[List.getElem?_eq_getElem (by omega)] at this;simp only[Nat.zero_mul,Nat.add_zero] at this;unfold World.cell? Addr.add at this;split at this
      ·cases p with
       |none=>rfl
       |some _=>simp at this
      ·cases this
     have hne:ys≠ []->p=none:=fun h=>hp (by cases ys with
      |nil=>exact absurd rfl h
      |cons y ys=>simp at q2;omega)
     refine⟨ys,⟨by omega,q3⟩,.inr ⟨b,o,p,m,cells,by rw[q2],hne,by omega,hm,q4,fun _ h=>h,fun j hj=> ?_⟩,fun W' sp hB hq=> ?_⟩
     ·have hys:ys≠ []:=by
       intro e;subst e;have e:cells= []:=q4;subst e;simp at hj
      obtain rfl:=hne hys;have:=q5 j (by omega);rw[<- this,addr_add];simp
     ·by_cases h0:m=0
      ·subst h0;(have hlen:len=0:=by omega);subst hlen;refine⟨1,?_⟩;unfold DataW.trod;rw[hu];simp[MemPlace.row,hm]
      ·have hs:sp b=true:=hq (.cell b o) (by
        simp only[MemPlace.row,List.mem_append,List.mem_map,List.mem_range];exact .inl ⟨0,by rw[h1];exact Nat.mul_pos (by omega) h2,by simp⟩)
       have:=shut_slice_whole_cells (enc:=enc) (w:=W') (base:=0) (spare:=sp) (held:=true) (a:=⟨b,o,p⟩) hu hb hl hm hs D Pl (fun i hi=>by
        obtain⟨c,e1,e2,x,e3,e4,e5⟩:=each i hi;obtain⟨n,hn⟩:=e5 W' sp hB (fun q hq'=>hq q (by
         rw[List.mem_append];right;rw[List.mem_flatMap];exact⟨i,by simpa using hi,hq'⟩))
        refine⟨c,n,?_,hn⟩;rw[h1];refine MH e1 fun j hj=> ?_;rw[add_add];have:=e2 j hj;rw[List.getElem?_eq_getElem (by omega)] at this ⊢;exact hB.cell this)
       exact this
   ·cases hT
  exact⟨h,single (.slice t) 1 rfl h⟩
end
end Go.Cm
end
section
namespace Go.Cm
open Go.RowKit Go.Deep Go.ChangeShapes Go.WideShapes Go.ChangeAt
def HL:List Ty->Type
 | []=>Unit
 |t::ts=>t.D×HL ts
def HL.args:(ts:List Ty)->HL ts->List LV
 | [],_=> []
 |t::ts,x=> .z t x.1::HL.args ts x.2
def HL.ok:(ts:List Ty)->HL ts->Prop
 | [],_=>True
 |t::ts,x=>t.okD x.1/\HL.ok ts x.2
theorem PQ{P:Program}{W:World}{r:Reach}{b0:Nat}{T:TypeId}{v:Value}(hv:Value.okWide P W r b0 T v):∀ {t:Ty},(t.rd P).1 T=true->en v=t.isAgg
 | .int k,h=>by
  simp only[Ty.rd,dZ] at h;split at h;·rename_i hu;unfold Value.okWide at hv;rw[hu] at hv;simp only at hv;unfold Cell.okWide at hv;rw[hu] at hv;cases v<;>simp_all [Cell.ok,en,Ty.isAgg]
  ·cases h
 | .bool,h=>by
  simp only[Ty.rd,dZ] at h;split at h;·rename_i hu;unfold Value.okWide at hv;rw[hu] at hv;simp only at hv;unfold Cell.okWide at hv;rw[hu] at hv;cases v<;>simp_all [Cell.ok,en,Ty.isAgg]
  ·cases h
 | .str,h=>by
  simp only[Ty.rd,dZ] at h;split at h;·rename_i hu;unfold Value.okWide at hv;rw[hu] at hv;simp only at hv;unfold Cell.okWide at hv;rw[hu] at hv;cases v<;>simp_all [Cell.ok,en,Ty.isAgg]
  ·cases h
 | .slice t,h=>by
  simp only[Ty.rd,dZ] at h;split at h;·rename_i hu;unfold Value.okWide at hv;rw[hu] at hv;simp only at hv;unfold Cell.okWide at hv;rw[hu] at hv;cases v<;>simp_all [Cell.ok,en,Ty.isAgg]
  ·cases h
 | .st t,h=>by
  simp only[Ty.rd,dZ] at h;split at h;·rename_i hu;unfold Value.okWide at hv;rw[hu] at hv;simp only at hv;obtain⟨cs,rfl,_⟩:=hv;rfl
  ·cases h
 | .arr n t,h=>by
  simp only[Ty.rd,dZ] at h;split at h;·rename_i hu;unfold Value.okWide at hv;rw[hu] at hv;simp only at hv;obtain⟨cs,rfl,_⟩:=hv;rfl
  ·cases h
 | .unit,h=>by simp[Ty.rd] at h
 | .pair _ _,h=>by simp[Ty.rd] at h
 | .ptr _,h=>by simp[Ty.rd] at h
 | .opt _,h=>by simp[Ty.rd] at h
 | .func,h=>by simp[Ty.rd] at h
def uq(P:Program):List Ty->List TypeId->Bool
 | [],[]=>true
 |t::ts,T::Ts=>(t.rd P).1 T&&uq P ts Ts
 |_,_=>false
theorem BR{H:Type}{enc:TypeId×Value->H}{P:Program}{W:World}{b0:Nat}:∀ (ts:List Ty) {Ts:List TypeId} {vs:List Value} {ds:List (DataW H)} {p:List MemPlace},uq P ts Ts=true->
  (∀ (j:Nat) t v,Ts[j]? =some t->vs[j]? =some v->Value.okWide P W .any b0 t v)->DataW.TrodAll enc P W 0 (fun _=>true) true Ts vs ds p->
  ∃ x:HL ts,HL.ok ts x/\bx (aS (fun _=>False) W (fun _=>undef)) (HL.args ts x) vs/\ds.length=ts.length/\
   ∀ (W':World) (sp:Nat->Bool),Below W W'->(∀ q∈p,sp q.block=true)->DataW.TrodAll enc P W' 0 sp true Ts vs ds p
 | [],[],vs,ds,p,_,_,h=>by
  obtain⟨rfl,rfl,rfl⟩:=trodAll_nil h;exact⟨(),trivial,trivial,rfl,fun _ _ _ _=>rfl⟩
 |t::ts,T::Ts,vs,ds,p,hr,hv,h=>by
  simp only[uq,Bool.and_eq_true] at hr;obtain⟨v,vs',d,ds',p0,q,rfl,rfl,rfl,⟨n,h0⟩,hs⟩:=trodAll_cons h;obtain⟨x,g1,g2,g3⟩:=MI enc P W t T hr.1 n _ _ _ h0;obtain⟨y,k1,k2,k3,k4⟩:=BR ts hr.2 (fun j t v h1 h2=>hv (j+1) t v (by simpa using h1) (by simpa using h2)) hs;refine⟨(x,y),⟨g1,k1⟩,⟨⟨PQ (hv 0 T v rfl rfl) hr.1,g2⟩,k2⟩,by simp[k3],fun W' sp hB hq=> ?_⟩;obtain⟨m,hm⟩:=g3 W' sp hB (fun q hq'=>hq q (by simp[hq']));exact trodAll_cons_mk ⟨m,hm⟩ (k4 W' sp hB (fun q hq'=>hq q (by simp[hq'])))
 | [],_::_,_,_,_,hr,_,_=>by simp[uq] at hr
 |_::_,[],_,_,_,hr,_,_=>by simp[uq] at hr
def lO(W:World):aj:=⟨W.heap.size,fun b=>W.heap[b]?⟩
theorem DF(W:World):(lO W).On W:=⟨Nat.le_refl _,fun _ _=>rfl⟩
theorem I7{P:Program}{f:FuncId}{con:Con}{W:World}{args:List LV}{vals:Array Value}(hv:Valid (lO W) P f con){C:Prop}(hc:con args []=some (C,[.z .bool true],[]))(hC:C)
  (ha:bx (aS (fun _=>False) W (fun _=>undef)) args vals.toList):
  Calls P f vals W fun e W'=>e= .returned (.bool true)/\W'.os=W.os/\W'.output=W.output/\W.heap.size<=W'.heap.size/\Below W W':=by
 refine(hv args [] C _ [] hc hC (fun _=>False) W vals (fun _=>undef) (DF W) (fun b hb=>by obtain⟨p,hp,-⟩:=hb;simp[al] at hp) (fun _ h=>h.elim) (fun _ h=>h.elim) ?_ (fun p hp=>by simp[al] at hp) List.Pairwise.nil).mono ?_
 ·refine ha.imp fun x v _ hx=>aX (fun b _ hb=> ?_) (bm.refl _ _) (fun _ _=>rfl) hx;rcases hb with hb|⟨p,hp,-⟩;·exact hb
  ·simp[al] at hp
 ·rintro e W' ⟨vs,ρ1,rfl,-,hb,-,hr,-⟩;match vs,hr with
  | [v],hr=>
   have h1:aS _ W' (fun _=>undef) (.z .bool true) v:=hr.1;have h2:v.cells.toList= [.bool true]:=h1.2;have h3:v= .bool true:=by
    cases v with
    |agg cs=>have:=h1.1;cases this
    |_=>simp[Value.cells] at h2<;>simp[h2]
   (subst h3;refine⟨rfl,hb.os,hb.output,hb.size,fun b hlt=>hb.block b hlt fun hm=> ?_⟩;rcases hm with hm|⟨p,hp,-⟩;·omega);·simp[al] at hp
theorem MJ{H:Type}{enc:TypeId×Value->H}{P:Program}{f:Func}{s:ChangeSpec}{apart fresh handsOn again:Bool}{W W':World}{args:Array Value}{v:Value}{ds gs:List (DataW H)}{before pa pv:List MemPlace}
  (hW:DataW.Whole enc P f.params.toList s.vars apart W args.toList ds gs before)
  (hres:∀ (b:Nat) (sp:Nat->Bool) (hd:Bool),DataW.TrodAll enc P W' b sp hd f.resultTypes.toList (v.resultList f.resultTypes.size) (s.fn H (ds++gs)).results [])
  (hargs:∀ sp:Nat->Bool,(∀ p∈before,sp p.block=true)->DataW.TrodAll enc P W' 0 sp true f.params.toList args.toList (s.fn H (ds++gs)).args pa)
  (hvars:∀ sp:Nat->Bool,(∀ p∈before,sp p.block=true)->DataW.TrodVars enc P W' sp s.vars (s.fn H (ds++gs)).vars pv)
  (hps:before=pa++pv) (hk:W.keptBut W' (· ∈before)) (hfz:∀ a:Addr,a.block<W.heap.size->W'.frozen? a=W.frozen? a)
  (hok:∀ (j:Nat) (t:TypeId) (r:Value),f.resultTypes[j]? =some t->(v.resultList f.resultTypes.size)[j]? =some r->Value.okWide P W' .any 0 t r):
  s.post enc P f apart fresh handsOn again W args v W':=by
 have hold:∀ p∈before,(fun b=>decide (b<W.heap.size)) p.block=true:=fun p hp=>by simpa using hW.lt p hp
 refine⟨ds,gs,before,[],pa,pv,hW,hres _ _ _,hargs _ hold,hvars _ hold,World.keptBut_mono (fun p hp=>⟨hp,?_⟩) hk,fun _=> ?_⟩;·rw[hps,List.mem_append] at hp;exact Or.inr hp
 ·have hlt:=hW.lt;obtain⟨_,_,_,_,_,hz,hn⟩:=hW;refine⟨hok,_,_,([]++pa)++pv,⟨[]++pa,pv,trodAll_append (hargs _ (fun _ _=>rfl)) (hres _ _ _),hvars _ (fun _ _=>rfl),rfl,?_,?_⟩,?_⟩;·intro b off hp;(have hm:MemPlace.cell b off∈before:=by rw[hps];simpa using hp);rw[hfz _ (hlt _ hm)];exact hz b off hm
  ·intro ha;have:=hn ha;rw[hps] at this;simpa using this
  ·intro p hp _;rw[hps];simpa using hp
theorem DG{W W':World}(hB:Below W W')(a:Addr)(h:a.block<W.heap.size):W'.frozen? a=W.frozen? a:=by
 unfold World.frozen?;rw[hB a.block h]
theorem MK{W W':World}{may:MemPlace->Prop}(hos:W'.os=W.os)(hout:W'.output=W.output)(hB:Below W W'):W.keptBut W' may:=by
 have h:=World.keptBut_refl W may;exact⟨hos,hout,fun i hi=>by rw[hB i hi];exact h.2.2 i hi⟩
def BS(s:ChangeSpec)(n:Nat):Prop:=s.vars= []/\∀ (H:Type) (ds:List (DataW H)),ds.length=n->s.fn H (ds++ [])={results:= [.lit (.bool true)],args:=ds}
theorem yl{H:Type}{enc:TypeId×Value->H}{P:Program}{f:FuncId}{fn:Func}{con:Con}{ts:List Ty}{tb:TypeId}{s:ChangeSpec}{W:World}{base:Nat}{args:Array Value}{ds gs:List (DataW H)}{before:List MemPlace}
  (hts:uq P ts fn.params.toList=true) (hrt:fn.resultTypes= #[tb]) (hb:P.underlying tb=some .bool) (hs:BS s ts.length)
  (hcon:∀ x:HL ts,HL.ok ts x->∃ C,con (HL.args ts x) []=some (C,[.z .bool true],[])/\C) (hv:Valid (lO W) P f con)
  (hval:∀ (j:Nat) t v,fn.params[j]? =some t->args[j]? =some v->Value.okWide P W .any base t v)
  (hW:DataW.Whole enc P fn.params.toList s.vars false W args.toList ds gs before):
  Calls P f args W fun e W'=>∃ v,e= .returned v/\s.post enc P fn false true false false W args v W':=by
 have hW':=hW;obtain⟨p,q,hA,hV,rfl,hfz,hnd⟩:=hW;rw[hs.1] at hV;obtain⟨rfl,rfl⟩:=trodVars_none hV;obtain⟨x,hx,ha,hl,again⟩:=BR (b0:=base) ts hts (fun j t v h1 h2=>hval j t v (by simpa using h1) (by simpa using h2)) hA;obtain⟨C,hC1,hC2⟩:=hcon x hx;refine(I7 hv hC1 hC2 ha).mono fun e W' ⟨he,hos,hout,hsz,hB⟩=> ?_;subst he;have hspec:=hs.2 H ds hl;refine⟨_,rfl,MJ (pa:=p) (pv:= []) hW' (fun _ _ _=> ?_) (fun sp hsp=> ?_) (fun _ _=> ?_) rfl (MK hos hout hB) (DG hB) (ok_one hrt rfl (okWide_bool_mk hb _))⟩;·rw[hspec,hrt];exact trodAll_cons_mk (shut_bool hb _) trodAll_mk0
 ·rw[hspec];exact again W' sp hB (fun z hz=>hsp z (by simp[hz]))
 ·rw[hspec,hs.1];rfl
end Go.Cm
end
section
namespace Go.Cm
open Go
theorem ML{k:IntKind}{x a b:Int}(h:(Ty.int k).okD x)(h1:k.min=a)(h2:k.max=b):a<=x/\x<=b:=by
 have h:k.min<=x/\x<=k.max:=h;rw[h1,h2] at h;exact h
theorem Qn{x:Int}(h:(Ty.int .u8).okD x):0<=x/\x<256:=by
 have:=ML (a:=0) (b:=255) h (by decide) (by decide);omega
end Go.Cm
end
section
namespace Go.Proofs.YtdojbabpnaifoaaGreatDoor
open Go Go.Cm Go.Proofs Go.ChangeShapes Go.WideShapes Go.ChangeAt Go.RowKit Go.Deep Go.Joins
def ym:DataW Unit->Array Value
 | .agg l=>(l.map fun x=>match x with
  | .lit (.int k n)=>Value.int k n
  |_=>Value.bool false).toArray
 |_=> #[]
noncomputable def MM(h:Array Obj)(name:String)(cs:Array Value):Array Obj:=h.modify ((Tryz.prog.globalNamed name).getD 0) fun o=>match o with
 | .cells _ t f=> .cells cs t f
 |o=>o
noncomputable def MN:Nat:=(World.holding Tryz.prog default ⟨#[],#[],[]⟩).heap.size
noncomputable def ur(os:Os):World:=
 let w0:=World.holding Tryz.prog os ⟨#[.cells #[.string {data:= #[118,97,108,117,101,32,111,117,116,32,111,102,32,114,97,110,103,101]}] 239,.cells #[.string {data:= #[105,110,118,97,108,105,100,32,115,121,110,116,97,120]}] 239],#[],[]⟩
 {w0 with heap:=(MM (MM (MM (MM (MM w0.heap "strconv.ErrRange" #[.iface 237 (.pointer (some ⟨MN+0,0,none⟩))]) "strconv.ErrSyntax" #[.iface 237 (.pointer (some ⟨MN+1,0,none⟩))]) "math/bits.deBruijn32tab" (ym Rows.laid_math_bits_deBruijn32tab)) "math/bits.deBruijn64tab" (ym Rows.laid_math_bits_deBruijn64tab)) "internal/strconv.uint64pow10" (ym Rows.laid_internal_strconv_uint64pow10))}
theorem MO:(Rows.laid_internal_strconv_uint64pow10:DataW Unit)=Lib.tabData .u64 Lib.pow10Tab:=by kernel_rfl
noncomputable def uu:Nat:=(Tryz.prog.globalNamed "internal/strconv.uint64pow10").getD 0
noncomputable def Gi:Nat:=((Tryz.prog.globals[uu]?).map (·.type)).getD 0
noncomputable def MP:Nat:=match Tryz.prog.underlying Gi with
 |some (.array _ e)=>e
 |_=>0
theorem O3:Tryz.prog.globalNamed "internal/strconv.uint64pow10"=some uu:=by kernel_rfl
theorem Qo:(Tryz.prog.globals[uu]?).map (·.type)=some Gi:=by kernel_rfl
theorem Qp:Tryz.prog.underlying Gi=some (.array 20 MP):=by kernel_rfl
theorem Qq:Tryz.prog.underlying MP=some (.int .u64):=by kernel_rfl
theorem Qr:Tryz.prog.cellsOf MP=1:=by kernel_rfl
theorem Qs:Tryz.prog.cellsOf Gi=20:=by kernel_rfl
theorem OR{l:List (String×DataW Unit)}{W:World}(h:laidMet Tryz.prog (("internal/strconv.uint64pow10",Rows.laid_internal_strconv_uint64pow10)::l) W):∀ w,(lO W).On w->Lib.TabIs Tryz.prog w "internal/strconv.uint64pow10" .u64 Lib.pow10Tab:=by
 intro w hw;rw[MO] at h;have ht:=Lib.tabIs_of_head O3 Qo Qp Qq Qr Qs h;unfold Lib.TabIs World.var? at ht ⊢;rw[O3] at ht ⊢;simp only[Option.bind_some] at ht ⊢;by_cases hlt:uu<W.heap.size;·have he:w.heap[uu]? =W.heap[uu]? :=hw.2 uu hlt;rw[he];exact ht
 ·rw[Array.getElem?_eq_none (by omega)] at ht;cases ht
theorem OS{W:World}(h:W.ShapedOpen Tryz.prog):PV (lO W):=by
 obtain⟨m,hm⟩:=Go.Proofs.cell_of_shapedOpen_int (g:=0) (t:=3) (zero:= #[.int .i64 0]) (k:= .i64) h (by decide+kernel) (by kernel_rfl) rfl (by kernel_rfl) (by kernel_rfl) (by kernel_rfl);intro w hw;have hlt:(0:Nat)<W.heap.size:=by
  unfold World.cell? at hm;rcases Nat.lt_or_ge 0 W.heap.size with h0|h0;·exact h0
  ·rw[Array.getElem?_eq_none h0] at hm;cases hm
 have he:w.heap[0]? =W.heap[0]? :=hw.2 0 hlt;exact⟨m,(World.cell?_of_block (a:=⟨0,0,none⟩) he).trans hm⟩
end Go.Proofs.YtdojbabpnaifoaaGreatDoor
end
section
namespace Go.Cm
open Go
theorem O4{x:Int}(h:(Ty.int .i8).okD x): -128<=x/\x<128:=by
 have:=ML (a:= -128) (b:=127) h (by decide) (by decide);omega
theorem Gj{d:DPD}(h:(Ty.st (.pair (.slice (.int .i8)) (.pair (.int .u8) (.slice (.int .i8))))).okD d):iA d:=by
 obtain⟨⟨_,h1⟩,h2,⟨_,h3⟩⟩:=h;exact⟨fun n hn=>O4 (h1 n hn),Qn h2,fun n hn=>O4 (h3 n hn)⟩
end Go.Cm
end
section
namespace Go.Proofs.YtdojbabpnaifoaaGreatDoor.polySums
open Go Go.Cm Go.Proofs Go.ChangeShapes Go.WideShapes Go.ChangeAt Go.RowKit Go.Deep Go.Joins
theorem own:ownKnob Tryz.prog.godebug=none:=by kernel_rfl
theorem QE:Tryz.f3.resultTypes= #[4]:=by kernel_rfl
theorem Qt:Tryz.prog.underlying 4=some .bool:=by kernel_rfl
def tys:List Ty:= [(.slice .str),(.slice .str),(.st (.pair (.slice (.int .i8)) (.pair (.int .u8) (.slice (.int .i8))))),(.st (.pair (.slice (.int .i8)) (.pair (.int .u8) (.slice (.int .i8)))))]
theorem reads:uq Tryz.prog tys Tryz.f3.params.toList=true:=by kernel_rfl
theorem spec:BS Rows.polySumsSpec tys.length:=⟨rfl,fun _ ds h=>match ds,h with| [a0,a1,a2,a3],_=>rfl⟩
abbrev vals:Array Value:= #[.slice none 0 0,.slice none 0 0,.agg #[.slice none 0 0,.int .u8 0,.slice none 0 0],.agg #[.slice none 0 0,.int .u8 0,.slice none 0 0]]
theorem met(os:Os):laidMet Tryz.prog Rows.polySumsRow.laid ((ur os).forCall (fun _ _=>0) ⟨#[],vals,[]⟩).memory:=
 laidMet_of_run3 8 (by kernel_rfl) (by kernel_rfl) (by kernel_rfl)
theorem witness(os:Os){H:Type}(enc:TypeId×Value->H):∃ places,DataW.whole enc Tryz.prog ((ur os).forCall (fun _ _=>0) ⟨#[],vals,[]⟩).memory Tryz.f3.params.toList Rows.polySumsSpec.vars false vals.toList 8=some ([.nil,.nil,.agg [.nil,.lit (.int .u8 0),.nil],.agg [.nil,.lit (.int .u8 0),.nil]],[],places):=
 ⟨[],by kernel_rfl⟩
theorem QF{W:World}(h:laidMetH Tryz.prog Rows.polySumsRow.laid W)(hs:W.ShapedOpen Tryz.prog):aB (lO W):=by
 have hL:laidMet Tryz.prog Rows.polySumsRow.laid W:=h;exact⟨fun w hw=>OR (laidMet.tail (laidMet.tail hL)) w hw,OS hs⟩
theorem lifted(os:Os)(started:os.Started)(H:Type)(enc:TypeId×Value->H)(F:Stop.Interp):
  ReturnsInHanded {} Tryz.checked os 3 .any ((OpenSpec.ofChange Rows.polySumsSpec).preRow enc Tryz.prog Tryz.f3 Rows.polySumsRow.domain false Rows.polySumsRow.laid) (((OpenSpec.ofChange Rows.polySumsSpec).at F).post enc Tryz.prog Tryz.f3 false true false false):=by
 obtain⟨places,hx⟩:=witness os enc;refine returnsInHanded_of_row (C:=Tryz.checked) (s:=OpenSpec.ofChange Rows.polySumsSpec) own started (by kernel_rfl) Tryz.func3
  (witness_row_at (enc:=enc) (C:=Tryz.checked) false (ur os) vals rfl (by kernel_rfl) (by kernel_rfl) (by kernel_rfl)
   (OpenSpec.preRow_of_cond 8 hx (by kernel_rfl) (fun k hk=>by cases hk) (by kernel_rfl) (met os))) ?_
 intro W base args ds gs before hval hW _ _ _ hL hSh _;exact yl (ts:=tys) (con:=yk) reads QE Qt spec (fun x h=>by obtain⟨x0,x1,x2,x3,⟨⟩⟩:=x;obtain⟨h0,h1,h2,h3,-⟩:=h;exact⟨_,rfl,⟨Gj h2,Gj h3⟩⟩) (I5 (QF hL hSh)) hval hW
theorem said:Rows.PolySumsSaid:=
 OpenClaim.holds_of_cond 3 Tryz.f3 rfl rfl rfl rfl rfl rfl rfl ⟨rfl,rfl,rfl,rfl,rfl⟩ rfl rfl rfl rfl rfl (by kernel_rfl) Tryz.func3 (by kernel_rfl)
  (of_decide_eq_true (by kernel_rfl)) (by unfold Func.isWrapper;first|(rw[if_pos (by decide+kernel)];kernel_rfl)|(rw[if_neg (by decide+kernel)];exact⟨rfl,rfl⟩))
  (fun os started H enc _ F=>by rw[OpenClaim.pre_eq_preRow];exact lifted os started H enc F)
theorem plain(f:FuncId)(fn:Func)(hf:Tryz.pinned.checked.prog.funcNamed "croupier/croupierlaw04.PolySums"=some f)(hfn:Tryz.pinned.checked.prog.funcs[f]? =some fn):
  true=Tryz.pinned.checked.prog.looks []/\∀ (j:Nat) t,fn.params[j]? =some t->Tryz.pinned.checked.prog.wantsStandIn t=false:=by
 obtain rfl:f=3:=Option.some.inj ((show Tryz.prog.funcNamed "croupier/croupierlaw04.PolySums"=some 3 by kernel_rfl).symm.trans hf)|>.symm;obtain rfl:fn=Tryz.f3:=(Option.some.inj (Tryz.func3.symm.trans hfn)).symm;refine⟨by kernel_rfl,fun j t ht=> ?_⟩;have hall:Tryz.f3.params.toList.all (fun t=> !Tryz.prog.wantsStandIn t)=true:=by kernel_rfl
 have:=List.all_eq_true.1 hall t (by simpa using Array.mem_of_getElem? ht);exact(by simpa using this:Tryz.prog.wantsStandIn t=false)
theorem card:Rows.PolySumsCardSaid:=
 Claim7.holds_tied_plain_at .later [] _ _ _ _ said (fun _ h=>by cases h) (by kernel_rfl) (fun _ h=>by cases h) polySums_row_tie rfl ⟨rfl,rfl⟩ (by kernel_rfl) rfl plain (by kernel_rfl)
end Go.Proofs.YtdojbabpnaifoaaGreatDoor.polySums
end