/- PolyKnown: the program function croupierlaw04.PolyKnown returns true,without panicking. -/
import Derived.Test.YtdojbabpnaifoaaGreatDoorK3
import Derived.Test.YtdojbabpnaifoaaGreatDoorK2
import Derived.Test.YtdojbabpnaifoaaGreatDoorProg
import Derived.Test.YtdojbabpnaifoaaGreatDoorK4
import Derived.OpenShut
import Derived.RowKit
import Derived.ChangeArms
import Derived.ChangeSame
import Derived.Deep.Slices
import Derived.ProofKit
import Derived.Deep.DeepHandedRow
import Derived.Test.YtdojbabpnaifoaaGreatDoorCards
import Derived.Test.YtdojbabpnaifoaaGreatDoorTie
import Derived.Lib.LaidTab
import Derived.Stop.LaidErr
import Derived.Lib.SmallJoins
import Derived.KernelRfl
import Derived.Deep.DeepLaidRun
import Derived.Shelf.Vars
import Derived.WalkKit
set_option linter.all false
set_option linter.unusedSimpArgs false
set_option linter.unusedVariables false
set_option maxRecDepth 100000
section
namespace Go.Proofs.YtdojbabpnaifoaaGreatDoor
open Go Go.Cm Go.Proofs
def oJ(B:ah):Tab:={types:= [(79,tyP)],elems:= [],cons:= [],hint:= [],N:=4,base:=B}
theorem xV{B:ah}(hB:aA B):aM Tryz.prog (oJ B):=⟨⟨tc fe (af),ag,by simp only[oJ,ioB];omega⟩,bW rfl,by kernel_rfl⟩
def mR:Con:=fun l os=>match l,os with
 | [.z (.slice (.st (.pair (.st (.pair .bool (.slice (.int .u32)))) (.st (.pair .bool (.slice (.int .u32))))))) xs],[]=>some (True,[.fn 125 [.z (.ptr tyP) xs]],[])
 |_,_=>none
theorem tK{B:ah}(hB:aA B):Valid B Tryz.prog 83 mR:=by
 refine ab (xV hB).tab Tryz.func83 rfl rfl rfl ?_;intro args os C rs os' hc hC;unfold mR at hc;split at hc;case h_2=>cases hc
 rename_i xs;cases hc;refine v_h (xV hB) fun X hP hT hr hG=> ?_;have hU:=oJ.eq_1;unfold oJ at hT;have hX:=Bool.not_true;simp only[Tryz.f83,aB,aj,ioB];refine s_g hG ?_;refine s_g hG ?_;refine au (q_e [] ?_);rfl
def gj(B:ah):Tab:={types:= [(79,tyP),(91,tyN)],elems:= [],cons:= [(58,kL),(83,mR),(105,dJ),(113,dK)],hint:= [],N:=19,base:=B}
theorem xW{B:ah}(hB:aA B):aM Tryz.prog (gj B):=⟨⟨tc fe (tc ty91 (af)),ag,by simp only[gj,ioB];omega⟩,aK (cc Tryz.func58 (kq hB) (cc Tryz.func83 (tK hB) (cc Tryz.func105 (kr hB) (cc Tryz.func113 (kt hB) (aq))))),by kernel_rfl⟩
def BS:Con:=fun l os=>match l,os with
 | [.z (.slice (.st (.pair (.st (.pair .bool (.slice (.int .u32)))) (.st (.pair .bool (.slice (.int .u32))))))) p,.z (.st (.pair (.st (.pair .bool (.slice (.int .u32)))) (.st (.pair .bool (.slice (.int .u32)))))) x],[]=>some (Sz QM p/\p.length<=100/\NOK x/\lq (bj x)<=QM,[.z tyN (a8 (aO (ae p) (bj x)))],[])
 |_,_=>none
theorem DB{B:ah}(hB:aA B):Valid B Tryz.prog 89 BS:=by
 refine ab (xW hB).tab Tryz.func89 rfl rfl rfl ?_;intro args os C rs os' hc hC;unfold BS at hc;split at hc;case h_2=>cases hc
 rename_i p x;cases hc;refine v_h (xW hB) fun X hP hT hr hG=> ?_;have hU:=gj.eq_1;unfold gj at hT;have hX:=ai @mR.eq_1<|ai @kL.eq_1<|ai @dJ.eq_1<| @dK.eq_1;simp only[Tryz.f89,aB,aj,ioB];have hl:p.length<=100:=hC.2.1;refine s_g hG ?_;refine s_g hG ?_;refine an (s_g hG ?_);refine aC (tJ hr (gf:=125) (caps:= [.z (.ptr tyP) p]) (items:=bC p) (by simp only[hT,gj,mx0,mx1,mx2,mx3,mx4,mx5,mx6,effOp,endCall,callOp,appendOp,sliceLV,Ty.fieldTy,Ty.fieldOf,Nat.reduceLT,Nat.reduceEqDiff,Nat.reduceAdd,Nat.reduceMul,Nat.reduceSub,Nat.reduceLeDiff,Nat.reduceBEq,Nat.reduceBNe,reduceIte,reduceDIte,reduceCtorEq];try rfl) (by rfl) (by rw[hP];exact sO p) (by rfl) (ub:=tyN) (by rw[hP];exact ty91) (by simp only[hT,gj];omega) [3,4,5] (by rfl) (by simp only[hT,gj];try rfl) (fun(k:Nat) (z:Rat)=>(⟨[(3,.l (.z (.ptr tyN) x)),(4,.l (.ownP 4 0)),(5,.l (.ownP 5 0))],[(4,.box 91 [.z .bool false,.val (.slice none 0 0),.z .bool false,.val (.slice none 0 0)]),(5,.box 91 [.z .bool (a8 z).1.1,.z (.slice (.int .u32)) (a8 z).1.2,.z .bool (a8 z).2.1,.z (.slice (.int .u32)) (a8 z).2.2])]⟩:aa)) (fun(k:Nat) (z:Rat)=>z=aO ((ae p).drop (p.length-k)) (bj x)) 0 ?_ ?_ ?_ ?_ ?_);·simp only[ml0,ml1,Nat.reduceLT,Nat.reduceEqDiff,Nat.reduceAdd,Nat.reduceMul,Nat.reduceSub,Nat.reduceLeDiff,Nat.reduceBEq,Nat.reduceBNe,reduceIte,reduceDIte,reduceCtorEq]
 ·exact zF p (bj x)
 ·intro k z;rfl
 ·intro k hk;rintro v hz;try dsimp only at hz
  have hk:k<p.length:=by simpa [bC] using hk
  have hg:=w7 hC.1 (w8 hk);have hv:=C7 hC hk hz;refine⟨_,_,_,by simp only[hT,gj,bC,iE,mx0,mx1,mx2,mx3,mx4,mx5,mx6,effOp,endCall,callOp,appendOp,sliceLV,Ty.fieldTy,Ty.fieldOf,Nat.reduceLT,Nat.reduceEqDiff,Nat.reduceAdd,Nat.reduceMul,Nat.reduceSub,Nat.reduceLeDiff,Nat.reduceBEq,Nat.reduceBNe,reduceIte,reduceDIte,reduceCtorEq,List.getElem_map,List.getElem_range];rfl,by simp only[mx0,mx1,mx2,mx3,mx4,mx5,mx6,effOp,endCall,callOp,appendOp,sliceLV,Ty.fieldTy,Ty.fieldOf,Nat.reduceLT,Nat.reduceEqDiff,Nat.reduceAdd,Nat.reduceMul,Nat.reduceSub,Nat.reduceLeDiff,Nat.reduceBEq,Nat.reduceBNe,reduceIte,reduceDIte,reduceCtorEq];rfl,by rfl,by simp only[mx0,mx1,mx2,mx3,mx4,mx5,mx6,effOp,endCall,callOp,appendOp,sliceLV,Ty.fieldTy,Ty.fieldOf,Nat.reduceLT,Nat.reduceEqDiff,Nat.reduceAdd,Nat.reduceMul,Nat.reduceSub,Nat.reduceLeDiff,Nat.reduceBEq,Nat.reduceBNe,reduceIte,reduceDIte,reduceCtorEq]<;>rfl,by simp only[hT,gj,bC,iE,mx0,mx1,mx2,mx3,mx4,mx5,mx6,effOp,endCall,callOp,appendOp,sliceLV,Ty.fieldTy,Ty.fieldOf,Nat.reduceLT,Nat.reduceEqDiff,Nat.reduceAdd,Nat.reduceMul,Nat.reduceSub,Nat.reduceLeDiff,Nat.reduceBEq,Nat.reduceBNe,reduceIte,reduceDIte,reduceCtorEq,List.getElem_map,List.getElem_range];rfl,?_⟩;intro X' hP' hT';have hG':aM X'.P X'.T:=by rw[hP',hT'];exact hG.keep _
  rw[hT] at hT';refine aC (AC hG' ?_ ?_)
  ·(try simp only[ba]);simp only[pe2,hg,aF];exact hv
  refine aW ?_;show ∃ z,_;simp only[ml0,ml1,Nat.reduceLT,Nat.reduceEqDiff,Nat.reduceAdd,Nat.reduceMul,Nat.reduceSub,Nat.reduceLeDiff,Nat.reduceBEq,Nat.reduceBNe,reduceIte,reduceDIte,reduceCtorEq];simp only[pe2,hg,aF];exact⟨_,rfl,rfl,rfl,rfl,by rw[hz,zG hk]⟩
 ·rintro v hz;try dsimp only at hz
  rw[FF] at hz;refine aW (al ?_);refine s_g hG ?_;refine au (q_e [] ?_);rw[hz]
def oK(B:ah):Tab:={types:= [(3,(.int .i64)),(79,tyP),(91,tyN)],elems:= [(79,91)],cons:= [(58,kL),(82,im),(107,tB)],hint:= [26],N:=31,base:=B}
theorem xX{B:ah}(hB:aA B):aM Tryz.prog (oK B):=⟨⟨tc ty3 (tc fe (tc ty91 (af))),aV (by kernel_rfl) (ag),by simp only[oK,ioB];omega⟩,aK (cc Tryz.func58 (kq hB) (cc Tryz.func82 (gJ hB) (cc Tryz.func107 (tC hB) (aq)))),by kernel_rfl⟩
def GW:Con:=fun l os=>match l,os with
 | [.z (.slice (.st (.pair (.st (.pair .bool (.slice (.int .u32)))) (.st (.pair .bool (.slice (.int .u32))))))) p,.z (.slice (.st (.pair (.st (.pair .bool (.slice (.int .u32)))) (.st (.pair .bool (.slice (.int .u32))))))) q,.val (.func (.func g) fs cs)],[]=>some ((g=58/\fs.size=0/\cs.size=0)/\Sz QH p/\Sz QH q/\p.length<=1000/\q.length<=1000,[.z tyP (ar (bw (· + ·) (ae p) (ae q)))],[])
 |_,_=>none
theorem DC{B:ah}(hB:aA B):Valid B Tryz.prog 57 GW:=by
 refine ab (xX hB).tab Tryz.func57 rfl rfl rfl ?_;intro args os C rs os' hc hC;unfold GW at hc;split at hc;case h_2=>cases hc
 rename_i p q g fs cs;cases hc;refine v_h (xX hB) fun X hP hT hr hG=> ?_;have hU:=oK.eq_1;unfold oK at hT;have hX:=ai @tB.eq_1<|ai @kL.eq_1<| @im.eq_1;simp only[Tryz.f57,aB,aj,ioB];obtain⟨⟨rfl,e1,e2⟩,hp,hq,hl1,hl2⟩:=hC;obtain rfl:=Array.eq_empty_of_size_eq_zero e1;obtain rfl:=Array.eq_empty_of_size_eq_zero e2;have hl1:p.length<=1000:=hl1;have hl2:q.length<=1000:=hl2;refine s_g hG ?_;refine s_g hG ?_;refine an (s_g hG ?_);refine aC (bM (fun(z:Nat)=>(⟨[(0,.l (.z tyP p)),(1,.l (.z tyP q)),(2,.l (.val (.func (.func 58) #[] #[]))),(7,.l (.ownS 27)),(13,.l (.z (.int .i64) ((max p.length q.length:Nat):Int))),(14,.l (.z (.int .i64) (z:Int)))],[(27,.arr tyN 91 (ar (bT (· + ·) (ae p) (ae q) z)))]⟩:aa)) (fun z=>z<=max p.length q.length) (fun z=>max p.length q.length-z) 0 ?_ ?_ ?_);·refine q_l ?_;exact⟨AY p q trivial,rfl,by unfold ioB;omega,rfl⟩
 ·omega
 ·rintro k g1;try dsimp only at g1
  refine s_g hG ?_;refine an (av ?_ ?_)
  ·intro hb0;(try simp only[bt] at hb0);refine az (al ?_);refine an (aC ?_);refine s_g hG ?_;refine ak hG ?_ ?_
   ·(try simp only[ba]);exact sI hp hq (by omega) _
   (refine aW (al ?_);refine ak hG ?_ ?_;·exact tt9);show ∃ z,_;refine q_l ?_;exact qP (op:=(· + ·)) (by omega) (by omega)
  ·intro hb0;(try simp only[bf] at hb0);refine bx (aN ?_);refine aJ (aI ?_);refine al (s_q hG ?_ ?_)
   ·(try simp only[ba]);exact qQ wU hp hq (by omega)
   refine au (q_e [] ?_);exact wW g1 hb0
def oL(B:ah):Tab:={types:= [(3,(.int .i64)),(79,tyP),(91,tyN)],elems:= [(79,91)],cons:= [(60,eN),(82,im),(107,tB)],hint:= [26],N:=31,base:=B}
theorem xY{B:ah}(hB:aA B):aM Tryz.prog (oL B):=⟨⟨tc ty3 (tc fe (tc ty91 (af))),aV (by kernel_rfl) (ag),by simp only[oL,ioB];omega⟩,aK (cc Tryz.func60 (tk hB) (cc Tryz.func82 (gJ hB) (cc Tryz.func107 (tC hB) (aq)))),by kernel_rfl⟩
def GX:Con:=fun l os=>match l,os with
 | [.z (.slice (.st (.pair (.st (.pair .bool (.slice (.int .u32)))) (.st (.pair .bool (.slice (.int .u32))))))) p,.z (.slice (.st (.pair (.st (.pair .bool (.slice (.int .u32)))) (.st (.pair .bool (.slice (.int .u32))))))) q,.val (.func (.func g) fs cs)],[]=>some ((g=60/\fs.size=0/\cs.size=0)/\Sz QH p/\Sz QH q/\p.length<=1000/\q.length<=1000,[.z tyP (ar (bw (· - ·) (ae p) (ae q)))],[])
 |_,_=>none
theorem DD{B:ah}(hB:aA B):Valid B Tryz.prog 57 GX:=by
 refine ab (xY hB).tab Tryz.func57 rfl rfl rfl ?_;intro args os C rs os' hc hC;unfold GX at hc;split at hc;case h_2=>cases hc
 rename_i p q g fs cs;cases hc;refine v_h (xY hB) fun X hP hT hr hG=> ?_;have hU:=oL.eq_1;unfold oL at hT;have hX:=ai @tB.eq_1<|ai @eN.eq_1<| @im.eq_1;simp only[Tryz.f57,aB,aj,ioB];obtain⟨⟨rfl,e1,e2⟩,hp,hq,hl1,hl2⟩:=hC;obtain rfl:=Array.eq_empty_of_size_eq_zero e1;obtain rfl:=Array.eq_empty_of_size_eq_zero e2;have hl1:p.length<=1000:=hl1;have hl2:q.length<=1000:=hl2;refine s_g hG ?_;refine s_g hG ?_;refine an (s_g hG ?_);refine aC (bM (fun(z:Nat)=>(⟨[(0,.l (.z tyP p)),(1,.l (.z tyP q)),(2,.l (.val (.func (.func 60) #[] #[]))),(7,.l (.ownS 27)),(13,.l (.z (.int .i64) ((max p.length q.length:Nat):Int))),(14,.l (.z (.int .i64) (z:Int)))],[(27,.arr tyN 91 (ar (bT (· - ·) (ae p) (ae q) z)))]⟩:aa)) (fun z=>z<=max p.length q.length) (fun z=>max p.length q.length-z) 0 ?_ ?_ ?_);·refine q_l ?_;exact⟨AY p q trivial,rfl,by unfold ioB;omega,rfl⟩
 ·omega
 ·rintro k g1;try dsimp only at g1
  refine s_g hG ?_;refine an (av ?_ ?_)
  ·intro hb0;(try simp only[bt] at hb0);refine az (al ?_);refine an (aC ?_);refine s_g hG ?_;refine ak hG ?_ ?_
   ·(try simp only[ba]);exact sI hp hq (by omega) _
   (refine aW (al ?_);refine ak hG ?_ ?_;·exact tt9);show ∃ z,_;refine q_l ?_;exact qP (op:=(· - ·)) (by omega) (by omega)
  ·intro hb0;(try simp only[bf] at hb0);refine bx (aN ?_);refine aJ (aI ?_);refine al (s_q hG ?_ ?_)
   ·(try simp only[ba]);exact qQ wV hp hq (by omega)
   refine au (q_e [] ?_);exact wW g1 hb0
def nE:Con:=fun l os=>match l,os with
 | [.z (.slice (.st (.pair (.st (.pair .bool (.slice (.int .u32)))) (.st (.pair .bool (.slice (.int .u32))))))) p,.z (.slice (.st (.pair (.st (.pair .bool (.slice (.int .u32)))) (.st (.pair .bool (.slice (.int .u32))))))) q,.val (.func (.func g) fs cs)],[]=>some (((g=58∨g=60)/\fs.size=0/\cs.size=0)/\Sz QH p/\Sz QH q/\p.length<=1000/\q.length<=1000,[.z tyP (ar (bw (if g=58 then (· + ·) else (· - ·)) (ae p) (ae q)))],[])
 |_,_=>none
theorem k9{B:ah}(hB:aA B):Valid B Tryz.prog 57 nE:=by
 intro args os C rs os' hc hC;unfold nE at hc;split at hc
 ·cases hc;obtain⟨⟨rfl|rfl,e1,e2⟩,h3⟩:=hC;·exact DC hB _ _ _ _ _ rfl ⟨⟨rfl,e1,e2⟩,h3⟩
  ·exact DD hB _ _ _ _ _ rfl ⟨⟨rfl,e1,e2⟩,h3⟩
 ·cases hc
def oM(B:ah):Tab:={types:= [(79,tyP),(84,.func),(91,tyN)],elems:= [(79,91)],cons:= [(57,nE),(61,mO),(82,im)],hint:= [],N:=11,base:=B}
theorem xZ{B:ah}(hB:aA B):aM Tryz.prog (oM B):=⟨⟨tc fe (tc JC (tc ty91 (af))),aV (by kernel_rfl) (ag),by simp only[oM,ioB];omega⟩,aK (cc Tryz.func57 (k9 hB) (cc Tryz.func61 (tE hB) (cc Tryz.func82 (gJ hB) (aq)))),by kernel_rfl⟩
def BU:Con:=fun l os=>match l,os with
 | [.z (.st (.pair (.st (.pair .bool (.slice (.int .u32)))) (.st (.pair .bool (.slice (.int .u32)))))) c,.ownP 10000000 0,.z (.ptr (.slice (.st (.pair (.st (.pair .bool (.slice (.int .u32)))) (.st (.pair .bool (.slice (.int .u32)))))))) b],[.box 79 [.z (.slice (.st (.pair (.st (.pair .bool (.slice (.int .u32)))) (.st (.pair .bool (.slice (.int .u32))))))) s]]=>some (zH s b c,[],[.box 79 [.z tyP (ar (q9 (ae s) (ae b) (bj c)))]])
 |_,_=>none
theorem DE{B:ah}(hB:aA B):Valid B Tryz.prog 81 BU:=by
 refine ab (xZ hB).tab Tryz.func81 rfl rfl rfl ?_;intro args os C rs os' hc hC;unfold BU at hc;split at hc;case h_2=>cases hc
 rename_i c b s;cases hc;refine v_h (xZ hB) fun X hP hT hr hG=> ?_;have hU:=oM.eq_1;unfold oM at hT;have hX:=ai @mO.eq_1<|ai @im.eq_1<| @nE.eq_1;simp only[Tryz.f81,aB,aj,ioB];refine s_g hG ?_;refine iV hG ?_ ?_
 ·try simp only[ba]
  obtain⟨q1,q2,q3,q4,q5,q6⟩:=C8 hC;exact⟨q1,⟨q2.1,by unfold QL;omega⟩,Or.inl trivial,q3,q4,q5,q6⟩
 refine q_e [] ?_;simp only[ax];rfl
def gk(B:ah):Tab:={types:= [(79,tyP),(91,tyN),(109,.func)],elems:= [],cons:= [(81,BU),(83,mR)],hint:= [],N:=18,base:=B}
theorem x4{B:ah}(hB:aA B):aM Tryz.prog (gk B):=⟨⟨tc fe (tc ty91 (tc J1 (af))),ag,by simp only[gk,ioB];omega⟩,aK (cc Tryz.func81 (DE hB) (cc Tryz.func83 (tK hB) (aq))),by kernel_rfl⟩
def lZ:Con:=fun l os=>match l,os with
 | [.z (.slice (.st (.pair (.st (.pair .bool (.slice (.int .u32)))) (.st (.pair .bool (.slice (.int .u32))))))) p,.z (.slice (.st (.pair (.st (.pair .bool (.slice (.int .u32)))) (.st (.pair .bool (.slice (.int .u32))))))) b],[]=>some (uO p b,[.z tyP (ar (jt (ae p) (ae b)))],[])
 |_,_=>none
theorem DF{B:ah}(hB:aA B):Valid B Tryz.prog 80 lZ:=by
 refine ab (x4 hB).tab Tryz.func80 rfl rfl rfl ?_;intro args os C rs os' hc hC;unfold lZ at hc;split at hc;case h_2=>cases hc
 rename_i p b;cases hc;refine v_h (x4 hB) fun X hP hT hr hG=> ?_;have hU:=gk.eq_1;unfold gk at hT;have hX:=ai @BU.eq_1<| @mR.eq_1;simp only[Tryz.f80,aB,aj,ioB];refine s_g hG ?_;refine s_g hG ?_;refine s_g hG ?_;refine an (s_g hG ?_);refine aC (tJ hr (gf:=125) (caps:= [.z (.ptr tyP) p]) (items:=bC p) (by simp only[hT,gk,mx0,mx1,mx2,mx3,mx4,mx5,mx6,effOp,endCall,callOp,appendOp,sliceLV,Ty.fieldTy,Ty.fieldOf,Nat.reduceLT,Nat.reduceEqDiff,Nat.reduceAdd,Nat.reduceMul,Nat.reduceSub,Nat.reduceLeDiff,Nat.reduceBEq,Nat.reduceBNe,reduceIte,reduceDIte,reduceCtorEq];try rfl) (by rfl) (by rw[hP];exact sO p) (by rfl) (ub:=tyN) (by rw[hP];exact ty91) (by simp only[hT,gk];omega) [3,5,6] (by rfl) (by simp only[hT,gk];try rfl) (fun(k:Nat) (z:Unit)=>(⟨[(3,.l (.z (.ptr tyP) b)),(5,.l (.ownP 5 0)),(6,.l (.ownP 6 0))],[(5,.box 79 [.z tyP (ar (fY (ae p) (ae b) k))]),(6,.box 109 [.fn 81 [.p 5,.z (.ptr tyP) b]])]⟩:aa)) (fun(k:Nat) (z:Unit)=>True) () ?_ ?_ ?_ ?_ ?_);·simp only[ml0,ml1,Nat.reduceLT,Nat.reduceEqDiff,Nat.reduceAdd,Nat.reduceMul,Nat.reduceSub,Nat.reduceLeDiff,Nat.reduceBEq,Nat.reduceBNe,reduceIte,reduceDIte,reduceCtorEq];simp only[fl];rfl
 ·trivial
 ·intro k z;rfl
 ·intro k hk;rintro⟨⟩-;have hk:k<p.length:=by simpa [bC] using hk
  have hg:=w7 hC.1 (w8 hk);refine⟨_,_,_,by simp only[hT,gk,bC,iE,mx0,mx1,mx2,mx3,mx4,mx5,mx6,effOp,endCall,callOp,appendOp,sliceLV,Ty.fieldTy,Ty.fieldOf,Nat.reduceLT,Nat.reduceEqDiff,Nat.reduceAdd,Nat.reduceMul,Nat.reduceSub,Nat.reduceLeDiff,Nat.reduceBEq,Nat.reduceBNe,reduceIte,reduceDIte,reduceCtorEq,List.getElem_map,List.getElem_range];rfl,by simp only[mx0,mx1,mx2,mx3,mx4,mx5,mx6,effOp,endCall,callOp,appendOp,sliceLV,Ty.fieldTy,Ty.fieldOf,Nat.reduceLT,Nat.reduceEqDiff,Nat.reduceAdd,Nat.reduceMul,Nat.reduceSub,Nat.reduceLeDiff,Nat.reduceBEq,Nat.reduceBNe,reduceIte,reduceDIte,reduceCtorEq];rfl,by rfl,by simp only[mx0,mx1,mx2,mx3,mx4,mx5,mx6,effOp,endCall,callOp,appendOp,sliceLV,Ty.fieldTy,Ty.fieldOf,Nat.reduceLT,Nat.reduceEqDiff,Nat.reduceAdd,Nat.reduceMul,Nat.reduceSub,Nat.reduceLeDiff,Nat.reduceBEq,Nat.reduceBNe,reduceIte,reduceDIte,reduceCtorEq]<;>rfl,by simp only[hT,gk,bC,iE,mx0,mx1,mx2,mx3,mx4,mx5,mx6,effOp,endCall,callOp,appendOp,sliceLV,Ty.fieldTy,Ty.fieldOf,Nat.reduceLT,Nat.reduceEqDiff,Nat.reduceAdd,Nat.reduceMul,Nat.reduceSub,Nat.reduceLeDiff,Nat.reduceBEq,Nat.reduceBNe,reduceIte,reduceDIte,reduceCtorEq,List.getElem_map,List.getElem_range];rfl,?_⟩;intro X' hP' hT';have hG':aM X'.P X'.T:=by rw[hP',hT'];exact hG.keep _
  rw[hT] at hT';refine aC (mh hG' ?_ ?_)
  ·(try simp only[ba]);simp only[pe2,hg];exact hC.2.2 k hk
  refine aW ?_;show ∃ z,_;simp only[ml0,ml1,Nat.reduceLT,Nat.reduceEqDiff,Nat.reduceAdd,Nat.reduceMul,Nat.reduceSub,Nat.reduceLeDiff,Nat.reduceBEq,Nat.reduceBNe,reduceIte,reduceDIte,reduceCtorEq];simp only[pe2,hg,ax,aF,fY,aD]
 ·rintro⟨⟩-;rw[show (bC p).length=p.length by simp[bC]];refine aW (al ?_);refine s_g hG ?_;refine au (q_e [] ?_);rw[jt,aD]
def oN(B:ah):Tab:={types:= [(3,(.int .i64)),(22,(.slice .str)),(31,(.int .i64)),(46,.str)],elems:= [],cons:= [(87,ku),(106,BQ)],hint:= [],N:=33,base:=B}
theorem x5{B:ah}(hB:aA B):aM Tryz.prog (oN B):=⟨⟨tc ty3 (tc iD (tc jv (tc wL (af)))),ag,by simp only[oN,ioB];omega⟩,aK (cc Tryz.func87 (tz hB) (cc Tryz.func106 (Dv hB) (aq))),by kernel_rfl⟩
def mS:Con:=fun l os=>match l,os with
 | [.z (.slice .str) p],[]=>some (cl p,[.z tyP (ar (aX p)),.z (.int .i64) (ca p)],[])
 |_,_=>none
theorem tL{B:ah}(hB:aA B):Valid B Tryz.prog 54 mS:=by
 refine ab (x5 hB).tab Tryz.func54 rfl rfl rfl ?_;intro args os C rs os' hc hC;unfold mS at hc;split at hc;case h_2=>cases hc
 rename_i p;cases hc;refine v_h (x5 hB) fun X hP hT hr hG=> ?_;have hU:=oN.eq_1;unfold oN at hT;have hX:=ai @ku.eq_1<| @BQ.eq_1;simp only[Tryz.f54,aB,aj,ioB];have hl:p.length<1000000000+1:=by have:=hC.1;unfold QL at this;omega
 refine s_g hG ?_;refine an (s_g hG ?_);refine av ?_ ?_
 ·intro hb0;try simp only[bt] at hb0
  have hl41:41<p.length:=by have h9:(41:Int)<(p.length:Int):=hb0;omega
  refine s_g hG ?_;refine au (aL ?_);refine q_e [] ?_;exact ri (zP hl41)
 ·intro hb0;try simp only[bf] at hb0
  have hl41:p.length<=41:=by have h9: ¬ (41:Int)<(p.length:Int):=hb0;omega
  refine az (al ?_);refine an (s_g hG ?_);refine aC (bM (fun(z:Nat)=>(⟨[(0,.l (.z (.slice .str) p)),(2,.l (.val (.slice none 0 0))),(3,.l (.z (.int .i64) 0)),(9,.l (.z (.slice .str) p)),(10,.l (.z (.int .i64) (p.length:Int))),(11,.l (.z (.int .i64) (z:Int)))],[]⟩:aa)) (fun z=>z<=p.length/\(p.take z).all (fun q=>decide (cS q=0))=true) (fun z=>p.length-z) 0 ?_ ?_ ?_);·refine q_l ?_;rfl
  ·exact⟨by omega,rfl⟩
  ·rintro k ⟨g1,g2⟩;(try dsimp only at g1 g2);refine s_g hG ?_;refine an (av ?_ ?_)
   ·intro hb1;(try simp only[bt] at hb1);(have hk:k<p.length:=by have h9:(k:Int)<(p.length:Int):=hb1;omega);refine az (al ?_);refine an (aC ?_);refine s_q hG ?_ ?_
    ·(try simp only[ba]);exact⟨by omega,hb1⟩
    refine s_q hG ?_ ?_
    ·(try simp only[ba]);exact hC.2 _ (gE (t:= .str) hk)
    refine av ?_ ?_;·intro hb2;(try simp only[bt] at hb2);refine s_g hG ?_;refine au (bR ?_);refine aL (gV ?_);refine bR (aL ?_);refine q_e [] ?_;exact ri (Db hk hl41 hb2)
    ·(intro hb2;(try simp only[bf] at hb2);refine az (aW ?_);refine al (ak hG ?_ ?_);·exact tt9);show ∃ z,_;refine q_l ?_;exact⟨k+1,wo,hk,zM hk g2 hb2,by omega⟩
   ·intro hb1;(try simp only[bf] at hb1);(have hk:k=p.length:=by have h9: ¬ (k:Int)<(p.length:Int):=hb1;omega);subst hk;rw[List.take_length] at g2;refine bx (aN ?_);refine aJ (aI ?_);refine al (an ?_);refine s_q hG ?_ ?_
    ·(try simp only[ba]);exact zO hl41
    refine av ?_ ?_;·intro hb3;(try simp only[bt] at hb3);refine s_g hG ?_;refine au (aL ?_);refine q_e [] ?_;exact ri (zQ hl41 g2 hb3)
    ·intro hb3;(try simp only[bf] at hb3);refine az (al ?_);refine s_q hG ?_ ?_
     ·(try simp only[ba]);exact⟨by unfold QL;omega,(rh hC g2).1⟩
     refine au (q_e [] ?_);exact FQ hC hl41 g2 hb3
def oO(B:ah):Tab:={types:= [(3,(.int .i64)),(22,(.slice .str)),(31,(.int .i64)),(44,(.slice (.slice .str))),(98,(.slice tyP))],elems:= [(98,79)],cons:= [(54,mS)],hint:= [],N:=29,base:=B}
theorem x6{B:ah}(hB:aA B):aM Tryz.prog (oO B):=⟨⟨tc ty3 (tc iD (tc jv (tc rR (tc rS (af))))),aV (by kernel_rfl) (ag),by simp only[oO,ioB];omega⟩,aK (cc Tryz.func54 (tL hB) (aq)),by kernel_rfl⟩
def eP:Con:=fun l os=>match l,os with
 | [.z (.slice (.slice .str)) l],[]=>some (l.length<=1000/\∀ p∈l,cl p,[.z (.slice tyP) (fZ l),.z (.int .i64) (br l)],[])
 |_,_=>none
theorem eh{B:ah}(hB:aA B):Valid B Tryz.prog 67 eP:=by
 refine ab (x6 hB).tab Tryz.func67 rfl rfl rfl ?_;intro args os C rs os' hc hC;unfold eP at hc;split at hc;case h_2=>cases hc
 rename_i l;cases hc;refine v_h (x6 hB) fun X hP hT hr hG=> ?_;have hU:=oO.eq_1;unfold oO at hT;have hX:= @mS.eq_1;simp only[Tryz.f67,aB,aj,ioB];have hl:l.length<=1000:=hC.1;refine s_g hG ?_;refine Az (s_g hG ?_);refine s_g hG ?_;refine an (Ay ?_);refine al (an ?_);refine s_g hG ?_;refine aC (bM (fun(z:Option (Nat))=>match z with|none=>((⟨[(0,.l (.z (.slice (.slice .str)) l)),(2,.l (.val (.slice none 0 0))),(3,.l (.z (.int .i64) 0)),(4,.l (.val (.slice none 0 0))),(5,.l (.z (.int .i64) 0)),(9,.l (.z (.slice (.slice .str)) l)),(10,.l (.z (.int .i64) (l.length:Int))),(11,.l (.z (.int .i64) 0))],[]⟩:aa))|some z=>((⟨[(0,.l (.z (.slice (.slice .str)) l)),(2,.l (.val (.slice none 0 0))),(3,.l (.z (.int .i64) 0)),(4,.l (.ownS 25)),(5,.l (.z (.int .i64) 0)),(9,.l (.z (.slice (.slice .str)) l)),(10,.l (.z (.int .i64) (l.length:Int))),(11,.l (.z (.int .i64) (z:Int)))],[(25,.arr tyP 79 ((l.take z).map fun p=>ar (aX p)))]⟩:aa))) (fun(z:Option (Nat))=>match z with|none=>(True)|some z=>(1<=z/\z<=l.length/\(l.take z).all (fun p=>decide (ca p=0))=true)) (fun(z:Option (Nat))=>match z with|none=>(l.length+1)|some z=>(l.length-z)) none ?_ ?_ ?_);·simp only[ml0,ml1,Nat.reduceLT,Nat.reduceEqDiff,Nat.reduceAdd,Nat.reduceMul,Nat.reduceSub,Nat.reduceLeDiff,Nat.reduceBEq,Nat.reduceBNe,reduceIte,reduceDIte,reduceCtorEq]
 ·trivial
 ·rintro(_|k) hz_
  ·obtain⟨k,ek⟩:∃ k:Nat,k=0:=⟨0,rfl⟩;(have e0:(k:Int)=0:=by rw[ek];rfl);refine s_g hG ?_;refine an (av ?_ ?_)
   ·intro hb0;(try simp only[bt] at hb0);(have hk:k<l.length:=by first|(have h9:(k:Int)<(l.length:Int):=hb0;omega)|(have h9:(0:Int)<(l.length:Int):=hb0;omega));refine az (al ?_);refine an (aC ?_);refine s_q hG ?_ ?_
    ·(try simp only[ba]);exact⟨by omega,hb0⟩
    refine s_g hG ?_;refine an (s_q hG ?_ ?_)
    ·(try simp only[ba]);first|exact hC.2 _ (gE (t:= .slice .str) hk)|(subst ek;exact hC.2 _ (gE (t:= .slice .str) (k:=0) hk))
    refine s_g hG ?_;refine av ?_ ?_;·intro hb1;(try simp only[bt] at hb1);refine s_g hG ?_;refine bx (aN ?_);refine gU rfl ?_;refine aN (aJ ?_);refine aI (al ?_);refine s_g hG ?_;refine au (fJ ?_);refine q_e [] ?_;subst ek;exact Dd hk hb1
    ·intro hb1;(try simp only[bf] at hb1);refine az (al ?_);refine ak hG ?_ ?_
     ·(try simp only[ba]);(unfold Cm.Roomy;try simp only[List.length_map,List.length_take]);omega
     (refine aW (al ?_);refine ak hG ?_ ?_;·exact tt9);refine⟨some (1),?_⟩;simp only[ml0,ml1,Nat.reduceLT,Nat.reduceEqDiff,Nat.reduceAdd,Nat.reduceMul,Nat.reduceSub,Nat.reduceLeDiff,Nat.reduceBEq,Nat.reduceBNe,reduceIte,reduceDIte,reduceCtorEq];subst ek;exact⟨hb1,xg hl hk hb1⟩
   ·intro hb0;(try simp only[bf] at hb0);(have hk: ¬k<l.length:=by intro h9;first|exact hb0 (show (k:Int)<(l.length:Int) by omega)|exact hb0 (show (0:Int)<(l.length:Int) by omega));refine bx (aN ?_);refine aJ (aI ?_);refine al (s_g hG ?_);refine au (fJ ?_);refine q_e [] ?_;subst ek;exact De hk
  ·obtain⟨g0,g1,g2⟩:=hz_;(try dsimp only at g0 g1 g2);refine s_g hG ?_;refine an (av ?_ ?_)
   ·intro hb0;(try simp only[bt] at hb0);(have hk:k<l.length:=by first|(have h9:(k:Int)<(l.length:Int):=hb0;omega)|(have h9:(0:Int)<(l.length:Int):=hb0;omega));refine az (al ?_);refine an (aC ?_);refine s_q hG ?_ ?_
    ·(try simp only[ba]);exact⟨by omega,hb0⟩
    refine s_g hG ?_;refine an (s_q hG ?_ ?_)
    ·(try simp only[ba]);first|exact hC.2 _ (gE (t:= .slice .str) hk)|(subst ek;exact hC.2 _ (gE (t:= .slice .str) (k:=0) hk))
    refine s_g hG ?_;refine av ?_ ?_;·intro hb1;(try simp only[bt] at hb1);refine s_g hG ?_;refine bx (aN ?_);refine gU rfl ?_;refine aN (aJ ?_);refine aI (al ?_);refine s_g hG ?_;refine au (fJ ?_);refine q_e [] ?_;exact xf hk g2 hb1
    ·intro hb1;(try simp only[bf] at hb1);refine az (al ?_);refine ak hG ?_ ?_
     ·(try simp only[ba]);(unfold Cm.Roomy;try simp only[List.length_map,List.length_take]);omega
     (refine aW (al ?_);refine ak hG ?_ ?_;·exact tt9);refine⟨some (k+1),?_⟩;simp only[ml0,ml1,Nat.reduceLT,Nat.reduceEqDiff,Nat.reduceAdd,Nat.reduceMul,Nat.reduceSub,Nat.reduceLeDiff,Nat.reduceBEq,Nat.reduceBNe,reduceIte,reduceDIte,reduceCtorEq];have hr:=rj hl hk g2 hb1;exact⟨hb1,hr⟩
   ·intro hb0;(try simp only[bf] at hb0);(have hk: ¬k<l.length:=by intro h9;first|exact hb0 (show (k:Int)<(l.length:Int) by omega)|exact hb0 (show (0:Int)<(l.length:Int) by omega));refine bx (aN ?_);refine aJ (aI ?_);refine al (s_g hG ?_);refine au (fJ ?_);refine q_e [25] ?_;rw[List.take_of_length_le (by omega)] at g2 ⊢;exact FS g2
def oP(B:ah):Tab:={types:= [(3,(.int .i64)),(78,tyP),(79,tyP)],elems:= [],cons:= [(82,im),(88,mN)],hint:= [],N:=19,base:=B}
theorem x7{B:ah}(hB:aA B):aM Tryz.prog (oP B):=⟨⟨tc ty3 (tc Hx (tc fe (af))),ag,by simp only[oP,ioB];omega⟩,aK (cc Tryz.func82 (gJ hB) (cc Tryz.func88 (tA hB) (aq))),by kernel_rfl⟩
def dF:Con:=fun l os=>match l,os with
 | [.z (.slice (.st (.pair (.st (.pair .bool (.slice (.int .u32)))) (.st (.pair .bool (.slice (.int .u32))))))) p],[]=>some (Sz QC p/\p.length<=QL,[.z (.slice .str) (gH (aS (ae p))),.z (.int .i64) (bQ (aS (ae p)))],[])
 |_,_=>none
theorem eQ{B:ah}(hB:aA B):Valid B Tryz.prog 69 dF:=by
 refine ab (x7 hB).tab Tryz.func69 rfl rfl rfl ?_;intro args os C rs os' hc hC;unfold dF at hc;split at hc;case h_2=>cases hc
 rename_i p;cases hc;refine v_h (x7 hB) fun X hP hT hr hG=> ?_;have hU:=oP.eq_1;unfold oP at hT;have hX:=ai @mN.eq_1<| @im.eq_1;simp only[Tryz.f69,aB,aj,ioB];refine s_g hG ?_;refine s_q hG ?_ ?_
 ·try simp only[ba]
  exact hC
 refine an (s_g hG ?_);refine av ?_ ?_
 ·intro hb0;try simp only[bt] at hb0
  have hl:41<(aS (ae p)).length:=by have h9:(41:Int)<((ar (aS (ae p))).length:Int):=hb0;rw[ao] at h9;omega
  refine s_g hG ?_;refine au (aL ?_);refine q_e [] ?_;exact zR hl
 ·intro hb0;try simp only[bf] at hb0
  have hl: ¬41<(aS (ae p)).length:=by have h9: ¬ (41:Int)<((ar (aS (ae p))).length:Int):=hb0;rw[ao] at h9;omega
  refine az (al ?_);refine s_q hG ?_ ?_
  ·(try simp only[ba]);exact Dg hC hl
  refine an (s_g hG ?_);refine av ?_ ?_;·intro hb1;(try simp only[bt] at hb1);refine s_g hG ?_;refine au (aL ?_);refine q_e [] ?_;exact Df hl hb1
  ·intro hb1;(try simp only[bf] at hb1);refine az (al ?_);refine s_g hG ?_;refine au (q_e [] ?_);exact FT hl hb1
def oQ(B:ah):Tab:={types:= [(79,tyP),(84,.func)],elems:= [],cons:= [(57,nE)],hint:= [],N:=8,base:=B}
theorem x8{B:ah}(hB:aA B):aM Tryz.prog (oQ B):=⟨⟨tc fe (tc JC (af)),ag,by simp only[oQ,ioB];omega⟩,aK (cc Tryz.func57 (k9 hB) (aq)),by kernel_rfl⟩
def BV:Con:=fun l os=>match l,os with
 | [.z (.slice (.st (.pair (.st (.pair .bool (.slice (.int .u32)))) (.st (.pair .bool (.slice (.int .u32))))))) p,.z (.slice (.st (.pair (.st (.pair .bool (.slice (.int .u32)))) (.st (.pair .bool (.slice (.int .u32))))))) q],[]=>some (Sz QH p/\Sz QH q/\p.length<=1000/\q.length<=1000,[.z tyP (ar (bw (· + ·) (ae p) (ae q)))],[])
 |_,_=>none
theorem DG{B:ah}(hB:aA B):Valid B Tryz.prog 56 BV:=by
 refine ab (x8 hB).tab Tryz.func56 rfl rfl rfl ?_;intro args os C rs os' hc hC;unfold BV at hc;split at hc;case h_2=>cases hc
 rename_i p q;cases hc;refine v_h (x8 hB) fun X hP hT hr hG=> ?_;have hU:=oQ.eq_1;unfold oQ at hT;have hX:= @nE.eq_1;simp only[Tryz.f56,aB,aj,ioB];refine s_g hG ?_;refine s_q hG ?_ ?_
 ·try simp only[ba]
  exact⟨by simp,hC⟩
 refine au (q_e [] ?_);trivial
def oR(B:ah):Tab:={types:= [(79,tyP),(84,.func)],elems:= [],cons:= [(57,nE)],hint:= [],N:=8,base:=B}
theorem x9{B:ah}(hB:aA B):aM Tryz.prog (oR B):=⟨⟨tc fe (tc JC (af)),ag,by simp only[oR,ioB];omega⟩,aK (cc Tryz.func57 (k9 hB) (aq)),by kernel_rfl⟩
def BW:Con:=fun l os=>match l,os with
 | [.z (.slice (.st (.pair (.st (.pair .bool (.slice (.int .u32)))) (.st (.pair .bool (.slice (.int .u32))))))) p,.z (.slice (.st (.pair (.st (.pair .bool (.slice (.int .u32)))) (.st (.pair .bool (.slice (.int .u32))))))) q],[]=>some (Sz QH p/\Sz QH q/\p.length<=1000/\q.length<=1000,[.z tyP (ar (bw (· - ·) (ae p) (ae q)))],[])
 |_,_=>none
theorem DH{B:ah}(hB:aA B):Valid B Tryz.prog 59 BW:=by
 refine ab (x9 hB).tab Tryz.func59 rfl rfl rfl ?_;intro args os C rs os' hc hC;unfold BW at hc;split at hc;case h_2=>cases hc
 rename_i p q;cases hc;refine v_h (x9 hB) fun X hP hT hr hG=> ?_;have hU:=oR.eq_1;unfold oR at hT;have hX:= @nE.eq_1;simp only[Tryz.f59,aB,aj,ioB];refine s_g hG ?_;refine s_q hG ?_ ?_
 ·try simp only[ba]
  exact⟨by simp,hC⟩
 refine au (q_e [] ?_);trivial
def oS(B:ah):Tab:={types:= [(79,tyP)],elems:= [],cons:= [(77,iM)],hint:= [],N:=7,base:=B}
theorem ya{B:ah}(hB:aA B):aM Tryz.prog (oS B):=⟨⟨tc fe (af),ag,by simp only[oS,ioB];omega⟩,aK (cc Tryz.func77 (tG hB) (aq)),by kernel_rfl⟩
def BX:Con:=fun l os=>match l,os with
 | [.z (.slice (.st (.pair (.st (.pair .bool (.slice (.int .u32)))) (.st (.pair .bool (.slice (.int .u32))))))) p,.z (.slice (.st (.pair (.st (.pair .bool (.slice (.int .u32)))) (.st (.pair .bool (.slice (.int .u32))))))) q],[]=>some (Sz QH p/\p.length<=1000,[.z tyP (ar (bK (ae p)))],[])
 |_,_=>none
theorem DI{B:ah}(hB:aA B):Valid B Tryz.prog 76 BX:=by
 refine ab (ya hB).tab Tryz.func76 rfl rfl rfl ?_;intro args os C rs os' hc hC;unfold BX at hc;split at hc;case h_2=>cases hc
 rename_i p q;cases hc;refine v_h (ya hB) fun X hP hT hr hG=> ?_;have hU:=oS.eq_1;unfold oS at hT;have hX:= @iM.eq_1;simp only[Tryz.f76,aB,aj,ioB];refine s_g hG ?_;refine s_q hG ?_ ?_
 ·try simp only[ba]
  exact hC
 refine au (q_e [] ?_);trivial
def oT(B:ah):Tab:={types:= [(79,tyP)],elems:= [],cons:= [(79,oI)],hint:= [],N:=7,base:=B}
theorem yb{B:ah}(hB:aA B):aM Tryz.prog (oT B):=⟨⟨tc fe (af),ag,by simp only[oT,ioB];omega⟩,aK (cc Tryz.func79 (Dz hB) (aq)),by kernel_rfl⟩
def BZ:Con:=fun l os=>match l,os with
 | [.z (.slice (.st (.pair (.st (.pair .bool (.slice (.int .u32)))) (.st (.pair .bool (.slice (.int .u32))))))) p,.z (.slice (.st (.pair (.st (.pair .bool (.slice (.int .u32)))) (.st (.pair .bool (.slice (.int .u32))))))) q],[]=>some (jT p,[.z tyP (ar (bO (ae p)))],[])
 |_,_=>none
theorem DJ{B:ah}(hB:aA B):Valid B Tryz.prog 78 BZ:=by
 refine ab (yb hB).tab Tryz.func78 rfl rfl rfl ?_;intro args os C rs os' hc hC;unfold BZ at hc;split at hc;case h_2=>cases hc
 rename_i p q;cases hc;refine v_h (yb hB) fun X hP hT hr hG=> ?_;have hU:=oT.eq_1;unfold oT at hT;have hX:= @oI.eq_1;simp only[Tryz.f78,aB,aj,ioB];refine s_g hG ?_;refine s_q hG ?_ ?_
 ·try simp only[ba]
  exact hC
 refine au (q_e [] ?_);trivial
def oU(B:ah):Tab:={types:= [(31,(.int .i64)),(44,(.slice (.slice .str))),(79,tyP),(98,(.slice tyP))],elems:= [(44,22)],cons:= [(56,BV),(67,eP),(69,dF)],hint:= [],N:=31,base:=B}
theorem yc{B:ah}(hB:aA B):aM Tryz.prog (oU B):=⟨⟨tc jv (tc rR (tc fe (tc rS (af)))),aV (by kernel_rfl) (ag),by simp only[oU,ioB];omega⟩,aK (cc Tryz.func56 (DG hB) (cc Tryz.func67 (eh hB) (cc Tryz.func69 (eQ hB) (aq)))),by kernel_rfl⟩
def oV:Con:=fun l os=>match l,os with
 | [.z (.slice .str) p,.z (.slice .str) q,.val (.func (.func g) fs cs)],[]=>some ((g=56/\fs.size=0/\cs.size=0)/\bl (fun p q=>Sz QH p/\Sz QH q/\p.length<=1000/\q.length<=1000) (bw (· + ·)) p q,[.z (.slice .str) (bZ (bw (· + ·)) p q),.z (.int .i64) (bY (bw (· + ·)) p q)],[])
 |_,_=>none
theorem DK{B:ah}(hB:aA B):Valid B Tryz.prog 55 oV:=by
 refine ab (yc hB).tab Tryz.func55 rfl rfl rfl ?_;intro args os C rs os' hc hC;unfold oV at hc;split at hc;case h_2=>cases hc
 rename_i p q g fs cs;cases hc;refine v_h (yc hB) fun X hP hT hr hG=> ?_;have hU:=oU.eq_1;unfold oU at hT;have hX:=ai @BV.eq_1<|ai @eP.eq_1<| @dF.eq_1;simp only[Tryz.f55,aB,aj,ioB];obtain⟨⟨rfl,e1,e2⟩,hp,hq,hD⟩:=hC;obtain rfl:=Array.eq_empty_of_size_eq_zero e1;obtain rfl:=Array.eq_empty_of_size_eq_zero e2;refine s_g hG ?_;refine s_q hG ?_ ?_
 ·try simp only[ba]
  exact(fO hp hq).2
 refine an (s_g hG ?_);refine av ?_ ?_
 ·intro hb0;try simp only[bt] at hb0
  refine s_g hG ?_;refine au (aL ?_);refine q_e [] ?_;exact fM hb0
 ·intro hb0;try simp only[bf] at hb0
  have n0:=gZ hb0;have n1:=hZ hb0;have nl:=fN hb0;have hE:=hD hb0;refine az (al ?_);refine s_d hG ?_ ?_
  ·(try simp only[ba]);simp only[NT] at n0 n1;simp only[n0,n1,nl,ax];exact⟨by decide,by decide,hE.1,hE.2.1,by rw[ao];exact hE.2.2⟩
  refine au (q_e [] ?_);simp only[NT] at n0 n1;simp only[n0,n1,ax];exact jd (f:=(bw (· + ·))) hb0
def oW(B:ah):Tab:={types:= [(31,(.int .i64)),(44,(.slice (.slice .str))),(79,tyP),(98,(.slice tyP))],elems:= [(44,22)],cons:= [(59,BW),(67,eP),(69,dF)],hint:= [],N:=31,base:=B}
theorem yd{B:ah}(hB:aA B):aM Tryz.prog (oW B):=⟨⟨tc jv (tc rR (tc fe (tc rS (af)))),aV (by kernel_rfl) (ag),by simp only[oW,ioB];omega⟩,aK (cc Tryz.func59 (DH hB) (cc Tryz.func67 (eh hB) (cc Tryz.func69 (eQ hB) (aq)))),by kernel_rfl⟩
def oX:Con:=fun l os=>match l,os with
 | [.z (.slice .str) p,.z (.slice .str) q,.val (.func (.func g) fs cs)],[]=>some ((g=59/\fs.size=0/\cs.size=0)/\bl (fun p q=>Sz QH p/\Sz QH q/\p.length<=1000/\q.length<=1000) (bw (· - ·)) p q,[.z (.slice .str) (bZ (bw (· - ·)) p q),.z (.int .i64) (bY (bw (· - ·)) p q)],[])
 |_,_=>none
theorem DL{B:ah}(hB:aA B):Valid B Tryz.prog 55 oX:=by
 refine ab (yd hB).tab Tryz.func55 rfl rfl rfl ?_;intro args os C rs os' hc hC;unfold oX at hc;split at hc;case h_2=>cases hc
 rename_i p q g fs cs;cases hc;refine v_h (yd hB) fun X hP hT hr hG=> ?_;have hU:=oW.eq_1;unfold oW at hT;have hX:=ai @eP.eq_1<|ai @BW.eq_1<| @dF.eq_1;simp only[Tryz.f55,aB,aj,ioB];obtain⟨⟨rfl,e1,e2⟩,hp,hq,hD⟩:=hC;obtain rfl:=Array.eq_empty_of_size_eq_zero e1;obtain rfl:=Array.eq_empty_of_size_eq_zero e2;refine s_g hG ?_;refine s_q hG ?_ ?_
 ·try simp only[ba]
  exact(fO hp hq).2
 refine an (s_g hG ?_);refine av ?_ ?_
 ·intro hb0;try simp only[bt] at hb0
  refine s_g hG ?_;refine au (aL ?_);refine q_e [] ?_;exact fM hb0
 ·intro hb0;try simp only[bf] at hb0
  have n0:=gZ hb0;have n1:=hZ hb0;have nl:=fN hb0;have hE:=hD hb0;refine az (al ?_);refine s_d hG ?_ ?_
  ·(try simp only[ba]);simp only[NT] at n0 n1;simp only[n0,n1,nl,ax];exact⟨by decide,by decide,hE.1,hE.2.1,by rw[ao];exact hE.2.2⟩
  refine au (q_e [] ?_);simp only[NT] at n0 n1;simp only[n0,n1,ax];exact jd (f:=(bw (· - ·))) hb0
def oY(B:ah):Tab:={types:= [(31,(.int .i64)),(44,(.slice (.slice .str))),(79,tyP),(98,(.slice tyP))],elems:= [(44,22)],cons:= [(61,mO),(67,eP),(69,dF)],hint:= [],N:=31,base:=B}
theorem ye{B:ah}(hB:aA B):aM Tryz.prog (oY B):=⟨⟨tc jv (tc rR (tc fe (tc rS (af)))),aV (by kernel_rfl) (ag),by simp only[oY,ioB];omega⟩,aK (cc Tryz.func61 (tE hB) (cc Tryz.func67 (eh hB) (cc Tryz.func69 (eQ hB) (aq)))),by kernel_rfl⟩
def oZ:Con:=fun l os=>match l,os with
 | [.z (.slice .str) p,.z (.slice .str) q,.val (.func (.func g) fs cs)],[]=>some ((g=61/\fs.size=0/\cs.size=0)/\bl (fun p q=>Sz QM p/\Sz QM q/\p.length<=100/\q.length<=100) b9 p q,[.z (.slice .str) (bZ b9 p q),.z (.int .i64) (bY b9 p q)],[])
 |_,_=>none
theorem DM{B:ah}(hB:aA B):Valid B Tryz.prog 55 oZ:=by
 refine ab (ye hB).tab Tryz.func55 rfl rfl rfl ?_;intro args os C rs os' hc hC;unfold oZ at hc;split at hc;case h_2=>cases hc
 rename_i p q g fs cs;cases hc;refine v_h (ye hB) fun X hP hT hr hG=> ?_;have hU:=oY.eq_1;unfold oY at hT;have hX:=ai @eP.eq_1<|ai @mO.eq_1<| @dF.eq_1;simp only[Tryz.f55,aB,aj,ioB];obtain⟨⟨rfl,e1,e2⟩,hp,hq,hD⟩:=hC;obtain rfl:=Array.eq_empty_of_size_eq_zero e1;obtain rfl:=Array.eq_empty_of_size_eq_zero e2;refine s_g hG ?_;refine s_q hG ?_ ?_
 ·try simp only[ba]
  exact(fO hp hq).2
 refine an (s_g hG ?_);refine av ?_ ?_
 ·intro hb0;try simp only[bt] at hb0
  refine s_g hG ?_;refine au (aL ?_);refine q_e [] ?_;exact fM hb0
 ·intro hb0;try simp only[bf] at hb0
  have n0:=gZ hb0;have n1:=hZ hb0;have nl:=fN hb0;have hE:=hD hb0;refine az (al ?_);refine s_d hG ?_ ?_
  ·(try simp only[ba]);simp only[NT] at n0 n1;simp only[n0,n1,nl,ax];exact⟨by decide,by decide,hE.1,hE.2.1,by rw[ao];exact hE.2.2⟩
  refine au (q_e [] ?_);simp only[NT] at n0 n1;simp only[n0,n1,ax];exact jd (f:=b9) hb0
def o4(B:ah):Tab:={types:= [(31,(.int .i64)),(44,(.slice (.slice .str))),(79,tyP),(98,(.slice tyP))],elems:= [(44,22)],cons:= [(67,eP),(69,dF),(70,kv)],hint:= [],N:=31,base:=B}
theorem yf{B:ah}(hB:aA B):aM Tryz.prog (o4 B):=⟨⟨tc jv (tc rR (tc fe (tc rS (af)))),aV (by kernel_rfl) (ag),by simp only[o4,ioB];omega⟩,aK (cc Tryz.func67 (eh hB) (cc Tryz.func69 (eQ hB) (cc Tryz.func70 (tH hB) (aq)))),by kernel_rfl⟩
def o5:Con:=fun l os=>match l,os with
 | [.z (.slice .str) p,.z (.slice .str) q,.val (.func (.func g) fs cs)],[]=>some ((g=70/\fs.size=0/\cs.size=0)/\bl (gG) bX p q,[.z (.slice .str) (bZ bX p q),.z (.int .i64) (bY bX p q)],[])
 |_,_=>none
theorem DN{B:ah}(hB:aA B):Valid B Tryz.prog 55 o5:=by
 refine ab (yf hB).tab Tryz.func55 rfl rfl rfl ?_;intro args os C rs os' hc hC;unfold o5 at hc;split at hc;case h_2=>cases hc
 rename_i p q g fs cs;cases hc;refine v_h (yf hB) fun X hP hT hr hG=> ?_;have hU:=o4.eq_1;unfold o4 at hT;have hX:=ai @eP.eq_1<|ai @kv.eq_1<| @dF.eq_1;simp only[Tryz.f55,aB,aj,ioB];obtain⟨⟨rfl,e1,e2⟩,hp,hq,hD⟩:=hC;obtain rfl:=Array.eq_empty_of_size_eq_zero e1;obtain rfl:=Array.eq_empty_of_size_eq_zero e2;refine s_g hG ?_;refine s_q hG ?_ ?_
 ·try simp only[ba]
  exact(fO hp hq).2
 refine an (s_g hG ?_);refine av ?_ ?_
 ·intro hb0;try simp only[bt] at hb0
  refine s_g hG ?_;refine au (aL ?_);refine q_e [] ?_;exact fM hb0
 ·intro hb0;try simp only[bf] at hb0
  have n0:=gZ hb0;have n1:=hZ hb0;have nl:=fN hb0;have hE:=hD hb0;refine az (al ?_);refine s_d hG ?_ ?_
  ·(try simp only[ba]);simp only[NT] at n0 n1;simp only[n0,n1,nl,ax];exact⟨by decide,by decide,hE.1,hE.2.1,by rw[ao];exact hE.2.2⟩
  refine au (q_e [] ?_);simp only[NT] at n0 n1;simp only[n0,n1,ax];exact jd (f:=bX) hb0
def o6(B:ah):Tab:={types:= [(31,(.int .i64)),(44,(.slice (.slice .str))),(79,tyP),(98,(.slice tyP))],elems:= [(44,22)],cons:= [(67,eP),(69,dF),(76,BX)],hint:= [],N:=31,base:=B}
theorem yg{B:ah}(hB:aA B):aM Tryz.prog (o6 B):=⟨⟨tc jv (tc rR (tc fe (tc rS (af)))),aV (by kernel_rfl) (ag),by simp only[o6,ioB];omega⟩,aK (cc Tryz.func67 (eh hB) (cc Tryz.func69 (eQ hB) (cc Tryz.func76 (DI hB) (aq)))),by kernel_rfl⟩
def o7:Con:=fun l os=>match l,os with
 | [.z (.slice .str) p,.z (.slice .str) q,.val (.func (.func g) fs cs)],[]=>some ((g=76/\fs.size=0/\cs.size=0)/\bl (fun p _=>Sz QH p/\p.length<=1000) (fun a _=>bK a) p q,[.z (.slice .str) (bZ (fun a _=>bK a) p q),.z (.int .i64) (bY (fun a _=>bK a) p q)],[])
 |_,_=>none
theorem DO{B:ah}(hB:aA B):Valid B Tryz.prog 55 o7:=by
 refine ab (yg hB).tab Tryz.func55 rfl rfl rfl ?_;intro args os C rs os' hc hC;unfold o7 at hc;split at hc;case h_2=>cases hc
 rename_i p q g fs cs;cases hc;refine v_h (yg hB) fun X hP hT hr hG=> ?_;have hU:=o6.eq_1;unfold o6 at hT;have hX:=ai @eP.eq_1<|ai @BX.eq_1<| @dF.eq_1;simp only[Tryz.f55,aB,aj,ioB];obtain⟨⟨rfl,e1,e2⟩,hp,hq,hD⟩:=hC;obtain rfl:=Array.eq_empty_of_size_eq_zero e1;obtain rfl:=Array.eq_empty_of_size_eq_zero e2;refine s_g hG ?_;refine s_q hG ?_ ?_
 ·try simp only[ba]
  exact(fO hp hq).2
 refine an (s_g hG ?_);refine av ?_ ?_
 ·intro hb0;try simp only[bt] at hb0
  refine s_g hG ?_;refine au (aL ?_);refine q_e [] ?_;exact fM hb0
 ·intro hb0;try simp only[bf] at hb0
  have n0:=gZ hb0;have n1:=hZ hb0;have nl:=fN hb0;have hE:=hD hb0;refine az (al ?_);refine s_d hG ?_ ?_
  ·(try simp only[ba]);simp only[NT] at n0 n1;simp only[n0,n1,nl,ax];exact⟨by decide,by decide,hE.1,hE.2.1,by rw[ao];exact hE.2.2⟩
  refine au (q_e [] ?_);simp only[NT] at n0 n1;simp only[n0,n1,ax];exact jd (f:=(fun a _=>bK a)) hb0
def rr:Con:=fy [none,some (.slice .str),none] o7
theorem Aa{B:ah}(hB:aA B):Valid B Tryz.prog 55 rr:=c8 _ (DO hB)
def o8(B:ah):Tab:={types:= [(31,(.int .i64)),(44,(.slice (.slice .str))),(79,tyP),(98,(.slice tyP))],elems:= [(44,22)],cons:= [(67,eP),(69,dF),(78,BZ)],hint:= [],N:=31,base:=B}
theorem yh{B:ah}(hB:aA B):aM Tryz.prog (o8 B):=⟨⟨tc jv (tc rR (tc fe (tc rS (af)))),aV (by kernel_rfl) (ag),by simp only[o8,ioB];omega⟩,aK (cc Tryz.func67 (eh hB) (cc Tryz.func69 (eQ hB) (cc Tryz.func78 (DJ hB) (aq)))),by kernel_rfl⟩
def o9:Con:=fun l os=>match l,os with
 | [.z (.slice .str) p,.z (.slice .str) q,.val (.func (.func g) fs cs)],[]=>some ((g=78/\fs.size=0/\cs.size=0)/\bl (fun p _=>jT p) (fun a _=>bO a) p q,[.z (.slice .str) (bZ (fun a _=>bO a) p q),.z (.int .i64) (bY (fun a _=>bO a) p q)],[])
 |_,_=>none
theorem DP{B:ah}(hB:aA B):Valid B Tryz.prog 55 o9:=by
 refine ab (yh hB).tab Tryz.func55 rfl rfl rfl ?_;intro args os C rs os' hc hC;unfold o9 at hc;split at hc;case h_2=>cases hc
 rename_i p q g fs cs;cases hc;refine v_h (yh hB) fun X hP hT hr hG=> ?_;have hU:=o8.eq_1;unfold o8 at hT;have hX:=ai @eP.eq_1<|ai @BZ.eq_1<| @dF.eq_1;simp only[Tryz.f55,aB,aj,ioB];obtain⟨⟨rfl,e1,e2⟩,hp,hq,hD⟩:=hC;obtain rfl:=Array.eq_empty_of_size_eq_zero e1;obtain rfl:=Array.eq_empty_of_size_eq_zero e2;refine s_g hG ?_;refine s_q hG ?_ ?_
 ·try simp only[ba]
  exact(fO hp hq).2
 refine an (s_g hG ?_);refine av ?_ ?_
 ·intro hb0;try simp only[bt] at hb0
  refine s_g hG ?_;refine au (aL ?_);refine q_e [] ?_;exact fM hb0
 ·intro hb0;try simp only[bf] at hb0
  have n0:=gZ hb0;have n1:=hZ hb0;have nl:=fN hb0;have hE:=hD hb0;refine az (al ?_);refine s_d hG ?_ ?_
  ·(try simp only[ba]);simp only[NT] at n0 n1;simp only[n0,n1,nl,ax];exact⟨by decide,by decide,hE.1,hE.2.1,by rw[ao];exact hE.2.2⟩
  refine au (q_e [] ?_);simp only[NT] at n0 n1;simp only[n0,n1,ax];exact jd (f:=(fun a _=>bO a)) hb0
def ru:Con:=fy [none,some (.slice .str),none] o9
theorem Ab{B:ah}(hB:aA B):Valid B Tryz.prog 55 ru:=c8 _ (DP hB)
def pb(B:ah):Tab:={types:= [(31,(.int .i64)),(44,(.slice (.slice .str))),(79,tyP),(98,(.slice tyP))],elems:= [(44,22)],cons:= [(67,eP),(69,dF),(80,lZ)],hint:= [],N:=31,base:=B}
theorem yi{B:ah}(hB:aA B):aM Tryz.prog (pb B):=⟨⟨tc jv (tc rR (tc fe (tc rS (af)))),aV (by kernel_rfl) (ag),by simp only[pb,ioB];omega⟩,aK (cc Tryz.func67 (eh hB) (cc Tryz.func69 (eQ hB) (cc Tryz.func80 (DF hB) (aq)))),by kernel_rfl⟩
def pf:Con:=fun l os=>match l,os with
 | [.z (.slice .str) p,.z (.slice .str) q,.val (.func (.func g) fs cs)],[]=>some ((g=80/\fs.size=0/\cs.size=0)/\bl (uO) jt p q,[.z (.slice .str) (bZ jt p q),.z (.int .i64) (bY jt p q)],[])
 |_,_=>none
theorem DQ{B:ah}(hB:aA B):Valid B Tryz.prog 55 pf:=by
 refine ab (yi hB).tab Tryz.func55 rfl rfl rfl ?_;intro args os C rs os' hc hC;unfold pf at hc;split at hc;case h_2=>cases hc
 rename_i p q g fs cs;cases hc;refine v_h (yi hB) fun X hP hT hr hG=> ?_;have hU:=pb.eq_1;unfold pb at hT;have hX:=ai @eP.eq_1<|ai @lZ.eq_1<| @dF.eq_1;simp only[Tryz.f55,aB,aj,ioB];obtain⟨⟨rfl,e1,e2⟩,hp,hq,hD⟩:=hC;obtain rfl:=Array.eq_empty_of_size_eq_zero e1;obtain rfl:=Array.eq_empty_of_size_eq_zero e2;refine s_g hG ?_;refine s_q hG ?_ ?_
 ·try simp only[ba]
  exact(fO hp hq).2
 refine an (s_g hG ?_);refine av ?_ ?_
 ·intro hb0;try simp only[bt] at hb0
  refine s_g hG ?_;refine au (aL ?_);refine q_e [] ?_;exact fM hb0
 ·intro hb0;try simp only[bf] at hb0
  have n0:=gZ hb0;have n1:=hZ hb0;have nl:=fN hb0;have hE:=hD hb0;refine az (al ?_);refine s_d hG ?_ ?_
  ·(try simp only[ba]);simp only[NT] at n0 n1;simp only[n0,n1,nl,ax];exact⟨by decide,by decide,hE.1,hE.2.1,by rw[ao];exact hE.2.2⟩
  refine au (q_e [] ?_);simp only[NT] at n0 n1;simp only[n0,n1,ax];exact jd (f:=jt) hb0
def pg(B:ah):Tab:={types:= [(22,(.slice .str))],elems:= [],cons:= [(54,mS)],hint:= [],N:=11,base:=B}
theorem yj{B:ah}(hB:aA B):aM Tryz.prog (pg B):=⟨⟨tc iD (af),ag,by simp only[pg,ioB];omega⟩,aK (cc Tryz.func54 (tL hB) (aq)),by kernel_rfl⟩
def fH:Con:=fun l os=>match l,os with
 | [.z (.slice .str) p],[]=>some (cl p,[.z (.int .i64) (ca p)],[])
 |_,_=>none
theorem mT{B:ah}(hB:aA B):Valid B Tryz.prog 14 fH:=by
 refine ab (yj hB).tab Tryz.func14 rfl rfl rfl ?_;intro args os C rs os' hc hC;unfold fH at hc;split at hc;case h_2=>cases hc
 rename_i p;cases hc;refine v_h (yj hB) fun X hP hT hr hG=> ?_;have hU:=pg.eq_1;unfold pg at hT;have hX:= @mS.eq_1;simp only[Tryz.f14,aB,aj,ioB];refine s_g hG ?_;refine s_q hG ?_ ?_
 ·try simp only[ba]
  exact hC
 refine s_g hG ?_;refine au (q_e [] ?_);trivial
def jY:Con:=fy [some (.slice .str)] fH
theorem Ac{B:ah}(hB:aA B):Valid B Tryz.prog 14 jY:=c8 _ (mT hB)
def ph(B:ah):Tab:={types:= [(22,(.slice .str))],elems:= [],cons:= [(55,oV)],hint:= [],N:=11,base:=B}
theorem yk{B:ah}(hB:aA B):aM Tryz.prog (ph B):=⟨⟨tc iD (af),ag,by simp only[ph,ioB];omega⟩,aK (cc Tryz.func55 (DK hB) (aq)),by kernel_rfl⟩
def nF:Con:=fun l os=>match l,os with
 | [.z (.slice .str) p,.z (.slice .str) q],[]=>some (bl (fun p q=>Sz QH p/\Sz QH q/\p.length<=1000/\q.length<=1000) (bw (· + ·)) p q,[.z (.slice .str) (bZ (bw (· + ·)) p q),.z (.int .i64) (bY (bw (· + ·)) p q)],[])
 |_,_=>none
theorem tM{B:ah}(hB:aA B):Valid B Tryz.prog 15 nF:=by
 refine ab (yk hB).tab Tryz.func15 rfl rfl rfl ?_;intro args os C rs os' hc hC;unfold nF at hc;split at hc;case h_2=>cases hc
 rename_i p q;cases hc;refine v_h (yk hB) fun X hP hT hr hG=> ?_;have hU:=ph.eq_1;unfold ph at hT;have hX:= @oV.eq_1;simp only[Tryz.f15,aB,aj,ioB];refine s_g hG ?_;refine s_q hG ?_ ?_
 ·try simp only[ba]
  exact hC
 refine au (q_e [] ?_);trivial
def pj(B:ah):Tab:={types:= [(22,(.slice .str))],elems:= [],cons:= [(55,oX)],hint:= [],N:=11,base:=B}
theorem yl{B:ah}(hB:aA B):aM Tryz.prog (pj B):=⟨⟨tc iD (af),ag,by simp only[pj,ioB];omega⟩,aK (cc Tryz.func55 (DL hB) (aq)),by kernel_rfl⟩
def B0:Con:=fun l os=>match l,os with
 | [.z (.slice .str) p,.z (.slice .str) q],[]=>some (bl (fun p q=>Sz QH p/\Sz QH q/\p.length<=1000/\q.length<=1000) (bw (· - ·)) p q,[.z (.slice .str) (bZ (bw (· - ·)) p q),.z (.int .i64) (bY (bw (· - ·)) p q)],[])
 |_,_=>none
theorem DR{B:ah}(hB:aA B):Valid B Tryz.prog 16 B0:=by
 refine ab (yl hB).tab Tryz.func16 rfl rfl rfl ?_;intro args os C rs os' hc hC;unfold B0 at hc;split at hc;case h_2=>cases hc
 rename_i p q;cases hc;refine v_h (yl hB) fun X hP hT hr hG=> ?_;have hU:=pj.eq_1;unfold pj at hT;have hX:= @oX.eq_1;simp only[Tryz.f16,aB,aj,ioB];refine s_g hG ?_;refine s_q hG ?_ ?_
 ·try simp only[ba]
  exact hC
 refine au (q_e [] ?_);trivial
def pk(B:ah):Tab:={types:= [(22,(.slice .str))],elems:= [],cons:= [(55,oZ)],hint:= [],N:=11,base:=B}
theorem ym{B:ah}(hB:aA B):aM Tryz.prog (pk B):=⟨⟨tc iD (af),ag,by simp only[pk,ioB];omega⟩,aK (cc Tryz.func55 (DM hB) (aq)),by kernel_rfl⟩
def nG:Con:=fun l os=>match l,os with
 | [.z (.slice .str) p,.z (.slice .str) q],[]=>some (bl (fun p q=>Sz QM p/\Sz QM q/\p.length<=100/\q.length<=100) b9 p q,[.z (.slice .str) (bZ b9 p q),.z (.int .i64) (bY b9 p q)],[])
 |_,_=>none
theorem tO{B:ah}(hB:aA B):Valid B Tryz.prog 17 nG:=by
 refine ab (ym hB).tab Tryz.func17 rfl rfl rfl ?_;intro args os C rs os' hc hC;unfold nG at hc;split at hc;case h_2=>cases hc
 rename_i p q;cases hc;refine v_h (ym hB) fun X hP hT hr hG=> ?_;have hU:=pk.eq_1;unfold pk at hT;have hX:= @oZ.eq_1;simp only[Tryz.f17,aB,aj,ioB];refine s_g hG ?_;refine s_q hG ?_ ?_
 ·try simp only[ba]
  exact hC
 refine au (q_e [] ?_);trivial
def ry:Con:=fy [some (.slice .str),some (.slice .str)] nG
theorem Ad{B:ah}(hB:aA B):Valid B Tryz.prog 17 ry:=c8 _ (tO hB)
def po(B:ah):Tab:={types:= [(22,(.slice .str))],elems:= [],cons:= [(55,o5)],hint:= [],N:=11,base:=B}
theorem yn{B:ah}(hB:aA B):aM Tryz.prog (po B):=⟨⟨tc iD (af),ag,by simp only[po,ioB];omega⟩,aK (cc Tryz.func55 (DN hB) (aq)),by kernel_rfl⟩
def rz:Con:=fun l os=>match l,os with
 | [.z (.slice .str) p,.z (.slice .str) q],[]=>some (bl (gG) bX p q,[.z (.slice .str) (bZ bX p q),.z (.int .i64) (bY bX p q)],[])
 |_,_=>none
theorem DS{B:ah}(hB:aA B):Valid B Tryz.prog 24 rz:=by
 refine ab (yn hB).tab Tryz.func24 rfl rfl rfl ?_;intro args os C rs os' hc hC;unfold rz at hc;split at hc;case h_2=>cases hc
 rename_i p q;cases hc;refine v_h (yn hB) fun X hP hT hr hG=> ?_;have hU:=po.eq_1;unfold po at hT;have hX:= @o5.eq_1;simp only[Tryz.f24,aB,aj,ioB];refine s_g hG ?_;refine s_q hG ?_ ?_
 ·try simp only[ba]
  exact hC
 refine au (q_e [] ?_);trivial
def ld:Con:=fy [some (.slice .str),some (.slice .str)] rz
theorem rA{B:ah}(hB:aA B):Valid B Tryz.prog 24 ld:=c8 _ (DS hB)
def pw(B:ah):Tab:={types:= [(22,(.slice .str))],elems:= [],cons:= [(55,rr)],hint:= [],N:=8,base:=B}
theorem yo{B:ah}(hB:aA B):aM Tryz.prog (pw B):=⟨⟨tc iD (af),ag,by simp only[pw,ioB];omega⟩,aK (cc Tryz.func55 (Aa hB) (aq)),by kernel_rfl⟩
def nH:Con:=fun l os=>match l,os with
 | [.z (.slice .str) p],[]=>some (bl (fun p _=>Sz QH p/\p.length<=1000) (fun a _=>bK a) p [],[.z (.slice .str) (bZ (fun a _=>bK a) p []),.z (.int .i64) (bY (fun a _=>bK a) p [])],[])
 |_,_=>none
theorem tP{B:ah}(hB:aA B):Valid B Tryz.prog 29 nH:=by
 refine ab (yo hB).tab Tryz.func29 rfl rfl rfl ?_;intro args os C rs os' hc hC;unfold nH at hc;split at hc;case h_2=>cases hc
 rename_i p;cases hc;refine v_h (yo hB) fun X hP hT hr hG=> ?_;have hU:=pw.eq_1;unfold pw at hT;have hX:=ai @o7.eq_1<| @rr.eq_1;simp only[Tryz.f29,aB,aj,ioB];refine s_g hG ?_;refine s_q hG ?_ ?_
 ·try simp only[ba]
  exact hC
 refine au (q_e [] ?_);trivial
def px(B:ah):Tab:={types:= [(22,(.slice .str))],elems:= [],cons:= [(55,ru)],hint:= [],N:=8,base:=B}
theorem yp{B:ah}(hB:aA B):aM Tryz.prog (px B):=⟨⟨tc iD (af),ag,by simp only[px,ioB];omega⟩,aK (cc Tryz.func55 (Ab hB) (aq)),by kernel_rfl⟩
def nI:Con:=fun l os=>match l,os with
 | [.z (.slice .str) p],[]=>some (bl (fun p _=>jT p) (fun a _=>bO a) p [],[.z (.slice .str) (bZ (fun a _=>bO a) p []),.z (.int .i64) (bY (fun a _=>bO a) p [])],[])
 |_,_=>none
theorem tQ{B:ah}(hB:aA B):Valid B Tryz.prog 30 nI:=by
 refine ab (yp hB).tab Tryz.func30 rfl rfl rfl ?_;intro args os C rs os' hc hC;unfold nI at hc;split at hc;case h_2=>cases hc
 rename_i p;cases hc;refine v_h (yp hB) fun X hP hT hr hG=> ?_;have hU:=px.eq_1;unfold px at hT;have hX:=ai @o9.eq_1<| @ru.eq_1;simp only[Tryz.f30,aB,aj,ioB];refine s_g hG ?_;refine s_q hG ?_ ?_
 ·try simp only[ba]
  exact hC
 refine au (q_e [] ?_);trivial
def rB:Con:=fy [some (.slice .str)] nI
theorem Ae{B:ah}(hB:aA B):Valid B Tryz.prog 30 rB:=c8 _ (tQ hB)
def py(B:ah):Tab:={types:= [(3,(.int .i64)),(31,(.int .i64)),(44,(.slice (.slice .str))),(79,tyP),(98,(.slice tyP))],elems:= [(44,22)],cons:= [(67,eP),(68,nD),(69,dF)],hint:= [],N:=53,base:=B}
theorem yq{B:ah}(hB:aA B):aM Tryz.prog (py B):=⟨⟨tc ty3 (tc jv (tc rR (tc fe (tc rS (af))))),aV (by kernel_rfl) (ag),by simp only[py,ioB];omega⟩,aK (cc Tryz.func67 (eh hB) (cc Tryz.func68 (mQ hB) (cc Tryz.func69 (eQ hB) (aq)))),by kernel_rfl⟩
def lf:Con:=fun l os=>match l,os with
 | [.z (.slice .str) p,.z (.slice .str) q],[]=>some (rk p q,[.z (.slice .str) (dvS p q),.z (.slice .str) (dvR p q),.z (.int .i64) (dvE p q)],[])
 |_,_=>none
theorem DT{B:ah}(hB:aA B):Valid B Tryz.prog 23 lf:=by
 refine ab (yq hB).tab Tryz.func23 rfl rfl rfl ?_;intro args os C rs os' hc hC;unfold lf at hc;split at hc;case h_2=>cases hc
 rename_i p q;cases hc;refine v_h (yq hB) fun X hP hT hr hG=> ?_;have hU:=py.eq_1;unfold py at hT;have hX:=ai @eP.eq_1<|ai @nD.eq_1<| @dF.eq_1;simp only[Tryz.f23,aB,aj,ioB];refine s_g hG ?_;refine s_q hG ?_ ?_
 ·try simp only[ba]
  exact(fO hC.sp hC.sq).2
 refine an (s_g hG ?_);refine av ?_ ?_
 ·intro hb0;try simp only[bt] at hb0
  refine s_g hG ?_;refine au (aL ?_);refine q_e [] ?_;exact FX hb0
 ·intro hb0;try simp only[bf] at hb0
  have n0:=gZ hb0;have n1:=hZ hb0;have nl:=fN hb0;simp only[NT] at n0 n1;refine az (al ?_);refine an (s_q hG ?_ ?_)
  ·(try simp only[ba]);rw[nl];decide
  refine av ?_ ?_;·intro hb1;(try simp only[bt] at hb1);simp only[n1] at hb1;(have hq:(ar (aX q)).length=0:=by have h9:((ar (aX q)).length:Int)=0:=hb1;omega);refine s_g hG ?_;refine au (aL ?_);refine q_e [] ?_;exact FY hb0 hq
  ·intro hb1;(try simp only[bf] at hb1);simp only[n1] at hb1;(have hq: ¬ (ar (aX q)).length=0:=by intro h8;exact hb1 (by show ((ar (aX q)).length:Int)=0;omega));have hne:=HW hq;obtain⟨k1,k2,k3⟩:=hC.ok hb0 hne;refine az (al ?_);refine s_d hG ?_ ?_
   ·(try simp only[ba]);simp only[n0,n1,nl];exact⟨by decide,by decide,k1⟩
   refine s_q hG ?_ ?_
   ·(try simp only[ba]);simp only[n0,n1,ax];exact k2
   refine an (s_g hG ?_);refine av ?_ ?_;·intro hb2;(try simp only[bt] at hb2);refine s_g hG ?_;refine au (aL ?_);refine q_e [] ?_;simp only[n0,n1,ax] at hb2 ⊢;exact HY hb0 hne hb2
   ·intro hb2;(try simp only[bf] at hb2);refine az (al ?_);refine s_q hG ?_ ?_
    ·(try simp only[ba]);simp only[n0,n1,ax];exact k3
    (refine an (s_g hG ?_);refine av ?_ ?_;·intro hb3;(try simp only[bt] at hb3);refine s_g hG ?_;refine au (aL ?_);refine q_e [] ?_;simp only[n0,n1,ax] at hb2 hb3 ⊢;exact HZ hb0 hne hb2 hb3);·intro hb3;(try simp only[bf] at hb3);refine az (al ?_);refine s_g hG ?_;refine au (q_e [] ?_);simp only[n0,n1,ax] at hb2 hb3 ⊢;exact H0 hb0 hne hb2 hb3
def jh:Con:=fy [some (.slice .str),some (.slice .str)] lf
theorem rC{B:ah}(hB:aA B):Valid B Tryz.prog 23 jh:=c8 _ (DT hB)
def pz(B:ah):Tab:={types:= [(3,(.int .i64)),(22,(.slice .str)),(31,(.int .i64))],elems:= [],cons:= [(14,fH),(55,pf)],hint:= [],N:=39,base:=B}
theorem yr{B:ah}(hB:aA B):aM Tryz.prog (pz B):=⟨⟨tc ty3 (tc iD (tc jv (af))),ag,by simp only[pz,ioB];omega⟩,aK (cc Tryz.func14 (mT hB) (cc Tryz.func55 (DQ hB) (aq))),by kernel_rfl⟩
def lg:Con:=fun l os=>match l,os with
 | [.z (.slice .str) p,.z (.slice .str) q],[]=>some (fF p q,[.z (.slice .str) (iK p q),.z (.int .i64) (iJ p q)],[])
 |_,_=>none
theorem DU{B:ah}(hB:aA B):Valid B Tryz.prog 31 lg:=by
 refine ab (yr hB).tab Tryz.func31 rfl rfl rfl ?_;intro args os C rs os' hc hC;unfold lg at hc;split at hc;case h_2=>cases hc
 rename_i p q;cases hc;refine v_h (yr hB) fun X hP hT hr hG=> ?_;have hU:=pz.eq_1;unfold pz at hT;have hX:=ai @pf.eq_1<| @fH.eq_1;simp only[Tryz.f31,aB,aj,ioB];refine s_g hG ?_;refine an (s_q hG ?_ ?_)
 ·try simp only[ba]
  exact⟨hC.sp,fun h=>⟨h,hC.sq⟩,id,id,id,id,id,id,id,id,id⟩
 refine av ?_ ?_;·intro hb0;have hL:=of_decide_eq_true (F0 hb0);refine s_g hG ?_;refine au (aL ?_);refine q_e [] ?_;exact Jq hL
 ·intro hb0;have hL:=of_decide_eq_false (F0 hb0);refine az (al ?_);refine s_q hG ?_ ?_
  ·(try simp only[ba]);exact hC.ok hL
  refine au (q_e [] ?_);exact Jr hL
def ji:Con:=fy [some (.slice .str),some (.slice .str)] lg
theorem rD{B:ah}(hB:aA B):Valid B Tryz.prog 31 ji:=c8 _ (DU hB)
def pA(B:ah):Tab:={types:= [(22,(.slice .str)),(31,(.int .i64)),(44,(.slice (.slice .str))),(46,.str),(78,tyP),(79,tyP),(91,tyN),(98,(.slice tyP))],elems:= [(44,22),(78,91)],cons:= [(67,eP),(87,ku),(88,mN),(89,BS),(90,nC)],hint:= [],N:=41,base:=B}
theorem yt{B:ah}(hB:aA B):aM Tryz.prog (pA B):=⟨⟨tc iD (tc jv (tc rR (tc wL (tc Hx (tc fe (tc ty91 (tc rS (af)))))))),aV (by kernel_rfl) (aV (by kernel_rfl) (ag)),by simp only[pA,ioB];omega⟩,aK (cc Tryz.func67 (eh hB) (cc Tryz.func87 (tz hB) (cc Tryz.func88 (tA hB) (cc Tryz.func89 (DB hB) (cc Tryz.func90 (mM hB) (aq)))))),by kernel_rfl⟩
def lh:Con:=fun l os=>match l,os with
 | [.z (.slice .str) p,.z .str x],[]=>some (rl p x,[.z .str (evS p x),.z (.int .i64) (evE p x)],[])
 |_,_=>none
theorem DV{B:ah}(hB:aA B):Valid B Tryz.prog 36 lh:=by
 refine ab (yt hB).tab Tryz.func36 rfl rfl rfl ?_;intro args os C rs os' hc hC;unfold lh at hc;split at hc;case h_2=>cases hc
 rename_i p x;cases hc;refine v_h (yt hB) fun X hP hT hr hG=> ?_;have hU:=pA.eq_1;unfold pA at hT;have hX:=ai @eP.eq_1<|ai @ku.eq_1<|ai @BS.eq_1<|ai @nC.eq_1<| @mN.eq_1;simp only[Tryz.f36,aB,aj,ioB];refine s_g hG ?_;refine s_q hG ?_ ?_
 ·try simp only[ba]
  exact(F2 hC).2
 refine an (s_g hG ?_);refine av ?_ ?_
 ·intro hb0;try simp only[bt] at hb0
  refine s_g hG ?_;refine au (aL ?_);refine q_e [] ?_;exact Jt hb0
 ·intro hb0;try simp only[bf] at hb0
  have n0:=JS hb0;have nl:=Js hb0;simp only[NT] at n0;refine az (al ?_);refine an (s_q hG ?_ ?_)
  ·(try simp only[ba]);exact hC.sx
  refine s_g hG ?_;refine av ?_ ?_;·intro hb1;(try simp only[bt] at hb1);refine s_g hG ?_;refine au (aL ?_);refine q_e [] ?_;exact H1 hb0 hb1
  ·intro hb1;(try simp only[bf] at hb1);(have h9:cS x=0:=by simpa using hb1);obtain⟨k1,k2,k3,k4⟩:=hC.ok hb0 h9;obtain⟨c1,c2⟩:=mA h9 hC.sx;refine az (al ?_);refine s_d hG ?_ ?_
   ·(try simp only[ba]);simp only[n0,nl,c2,ax,aF];exact F3 c1 k1 k2 k3 k4
   refine an (s_g hG ?_);refine av ?_ ?_;·intro hb2;(try simp only[bt] at hb2);refine s_g hG ?_;refine au (aL ?_);refine q_e [] ?_;simp only[n0,c2,ax,aF,xj] at hb2;exact Ju hb0 h9 (by simpa using hb2)
   ·intro hb2;(try simp only[bf] at hb2);refine az (al ?_);refine s_q hG ?_ ?_
    ·(try simp only[ba]);simp only[n0,c2,ax,aF] at hb2 ⊢;exact Di (by simpa using hb2) _
    refine au (q_e [] ?_);simp only[n0,c2,ax,aF,xj] at hb2 ⊢;exact H3 hb0 h9 (by simpa using hb2)
def jk:Con:=fy [some (.slice .str),none] lh
theorem rE{B:ah}(hB:aA B):Valid B Tryz.prog 36 jk:=c8 _ (DV hB)
def pB(B:ah):Tab:={types:= [],elems:= [],cons:= [],hint:= [],N:=4,base:=B}
theorem yu{B:ah}(hB:aA B):aM Tryz.prog (pB B):=⟨⟨af,ag,by simp only[pB,ioB];omega⟩,bW rfl,by kernel_rfl⟩
def yv:Con:=fun l os=>match l,os with
 | [.z (.slice .str) p],[]=>some (True,[.z (.slice .str) p],[])
 |_,_=>none
theorem tS{B:ah}(hB:aA B):Valid B Tryz.prog 45 yv:=by
 refine ab (yu hB).tab Tryz.func45 rfl rfl rfl ?_;intro args os C rs os' hc hC;unfold yv at hc;split at hc;case h_2=>cases hc
 rename_i p;cases hc;refine v_h (yu hB) fun X hP hT hr hG=> ?_;have hU:=pB.eq_1;unfold pB at hT;have hX:=Bool.not_true;simp only[Tryz.f45,aB,aj,ioB];refine s_g hG ?_;refine s_g hG ?_;refine au (q_e [] ?_);trivial
def pC(B:ah):Tab:={types:= [(22,(.slice .str)),(31,(.int .i64))],elems:= [],cons:= [(28,mI)],hint:= [],N:=13,base:=B}
theorem yw{B:ah}(hB:aA B):aM Tryz.prog (pC B):=⟨⟨tc iD (tc jv (af)),ag,by simp only[pC,ioB];omega⟩,aK (cc Tryz.func28 (te hB) (aq)),by kernel_rfl⟩
def yx:Con:=fun l os=>match l,os with
 | [.z (.slice .str) p,.z (.int .i64) e,.z (.ptr (.slice .str)) q],[]=>some (p.length<=QL/\q.length<=QL,[.z .bool (decide (e=0/\p=q))],[])
 |_,_=>none
theorem tT{B:ah}(hB:aA B):Valid B Tryz.prog 94 yx:=by
 refine ab (yw hB).tab Tryz.func94 rfl rfl rfl ?_;intro args os C rs os' hc hC;unfold yx at hc;split at hc;case h_2=>cases hc
 rename_i p e q;cases hc;refine v_h (yw hB) fun X hP hT hr hG=> ?_;have hU:=pC.eq_1;unfold pC at hT;have hX:= @mI.eq_1;simp only[Tryz.f94,aB,aj,ioB];refine s_g hG ?_;refine s_q hG ?_ ?_
 ·try simp only[ba]
  exact⟨fun h=>⟨h,hC⟩,id⟩
 refine au (q_e [] ?_);exact JB _ _ _
def pD(B:ah):Tab:={types:= [(22,(.slice .str))],elems:= [],cons:= [],hint:= [],N:=4,base:=B}
theorem yy{B:ah}(hB:aA B):aM Tryz.prog (pD B):=⟨⟨tc iD (af),ag,by simp only[pD,ioB];omega⟩,bW rfl,by kernel_rfl⟩
def Af:Con:=fun l os=>match l,os with
 | [.z (.slice .str) p],[]=>some (True,[.fn 94 [.z (.ptr (.slice .str)) p]],[])
 |_,_=>none
theorem DW{B:ah}(hB:aA B):Valid B Tryz.prog 41 Af:=by
 refine ab (yy hB).tab Tryz.func41 rfl rfl rfl ?_;intro args os C rs os' hc hC;unfold Af at hc;split at hc;case h_2=>cases hc
 rename_i p;cases hc;refine v_h (yy hB) fun X hP hT hr hG=> ?_;have hU:=pD.eq_1;unfold pD at hT;have hX:=Bool.not_true;simp only[Tryz.f41,aB,aj,ioB];refine s_g hG ?_;refine s_g hG ?_;refine au (q_e [] ?_);rfl
def rF:Con:=fy [some (.slice .str)] Af
theorem rG{B:ah}(hB:aA B):Valid B Tryz.prog 41 rF:=c8 _ (DW hB)
def pE(B:ah):Tab:={types:= [(3,(.int .i64)),(22,(.slice .str)),(31,(.int .i64))],elems:= [],cons:= [],hint:= [],N:=14,base:=B}
theorem yz{B:ah}(hB:aA B):aM Tryz.prog (pE B):=⟨⟨tc ty3 (tc iD (tc jv (af))),ag,by simp only[pE,ioB];omega⟩,bW rfl,by kernel_rfl⟩
def mU:Con:=fun l os=>match l,os with
 | [.z (.slice .str) p,.z (.int .i64) e,.z (.ptr (.int .i64)) q],[]=>some (True,[.z .bool (decide (p= []/\e=q))],[])
 |_,_=>none
theorem DX{B:ah}(hB:aA B):Valid B Tryz.prog 101 mU:=by
 refine ab (yz hB).tab Tryz.func101 rfl rfl rfl ?_;intro args os C rs os' hc hC;unfold mU at hc;split at hc;case h_2=>cases hc
 rename_i p e q;cases hc;refine v_h (yz hB) fun X hP hT hr hG=> ?_;have hU:=pE.eq_1;unfold pE at hT;have hX:=Bool.not_true;simp only[Tryz.f101,aB,aj,ioB];refine s_g hG ?_;refine s_q hG ?_ ?_
 ·try simp only[ba]
  exact id
 refine au (q_e [] ?_);exact Gn _ _ _
def pF(B:ah):Tab:={types:= [(31,(.int .i64))],elems:= [],cons:= [],hint:= [],N:=4,base:=B}
theorem yA{B:ah}(hB:aA B):aM Tryz.prog (pF B):=⟨⟨tc jv (af),ag,by simp only[pF,ioB];omega⟩,bW rfl,by kernel_rfl⟩
def mV:Con:=fun l os=>match l,os with
 | [.z (.int .i64) e],[]=>some (True,[.fn 101 [.z (.ptr (.int .i64)) e]],[])
 |_,_=>none
theorem DY{B:ah}(hB:aA B):Valid B Tryz.prog 46 mV:=by
 refine ab (yA hB).tab Tryz.func46 rfl rfl rfl ?_;intro args os C rs os' hc hC;unfold mV at hc;split at hc;case h_2=>cases hc
 rename_i e;cases hc;refine v_h (yA hB) fun X hP hT hr hG=> ?_;have hU:=pF.eq_1;unfold pF at hT;have hX:=Bool.not_true;simp only[Tryz.f46,aB,aj,ioB];refine s_g hG ?_;refine s_g hG ?_;refine au (q_e [] ?_);rfl
def pG(B:ah):Tab:={types:= [(3,(.int .i64)),(22,(.slice .str)),(31,(.int .i64)),(46,.str)],elems:= [(22,46)],cons:= [(14,fH),(15,nF),(16,B0),(17,nG),(23,jh),(24,ld),(28,vp),(29,nH),(30,nI),(31,ji),(36,jk),(41,rF),(45,yv),(94,yx)],hint:= [],N:=218,base:=B}
theorem yB{B:ah}(hB:aA B):aM Tryz.prog (pG B):=⟨⟨tc ty3 (tc iD (tc jv (tc wL (af)))),aV (by kernel_rfl) (ag),by simp only[pG,ioB];omega⟩,aK (cc Tryz.func14 (mT hB) (cc Tryz.func15 (tM hB) (cc Tryz.func16 (DR hB) (cc Tryz.func17 (tO hB) (cc Tryz.func23 (rC hB) (cc Tryz.func24 (rA hB) (cc Tryz.func28 (z6 hB) (cc Tryz.func29 (tP hB) (cc Tryz.func30 (tQ hB) (cc Tryz.func31 (rD hB) (cc Tryz.func36 (rE hB) (cc Tryz.func41 (rG hB) (cc Tryz.func45 (tS hB) (cc Tryz.func94 (tT hB) (aq))))))))))))))),by kernel_rfl⟩
def kx:Con:=fun l os=>match l,os with
 | [],[]=>some (True,[.z .bool true],[])
 |_,_=>none
set_option maxHeartbeats 2000000 in
theorem DZ{B:ah}(hB:aA B):Valid B Tryz.prog 11 kx:=by
 refine ab (yB hB).tab Tryz.func11 rfl rfl rfl ?_;intro args os C rs os' hc hC;unfold kx at hc;split at hc;case h_2=>cases hc
 cases hc;refine v_h (yB hB) fun X hP hT hr hG=> ?_;have hU:=pG.eq_1;unfold pG at hT;have hX:=ai @Af.eq_1<|ai @rF.eq_1<|ai @yx.eq_1<|ai @yv.eq_1<|ai @nF.eq_1<|ai @fH.eq_1<|ai @lg.eq_1<|ai @ji.eq_1<|ai @nH.eq_1<|ai @lf.eq_1<|ai @jh.eq_1<|ai @lh.eq_1<|ai @jk.eq_1<|ai @rz.eq_1<|ai @ld.eq_1<|ai @nG.eq_1<|ai @nI.eq_1<|ai @B0.eq_1<|ai @mI.eq_1<|ai @vp.eq_1<| @List.append_eq.{0};simp only[Tryz.f11,aB,aj,ioB];refine s_g hG ?_;refine cI (fun(z:Unit)=>(⟨[(0,.l (.z .bool false)),(1,.l (.z (.slice .str) [[49],[49],[49]])),(2,.l (.z (.slice .str) [])),(3,.l (.z (.int .i64) 0))],[]⟩:aa)) (fun z=>True) ?_ ?_
 ·refine ak hG ?_ ?_
  ·(try simp only[ba]);exact zU (n:=4) (K:=1) (by decide+kernel) (by decide+kernel)
  show ∃ z,_;refine q_l ?_;exact wp1
 rintro⟨⟩-;refine cI (fun(z:Unit)=>(⟨[(0,.l (.z .bool false)),(1,.l (.z (.slice .str) [[49],[49],[49]])),(2,.l (.z (.slice .str) [])),(3,.l (.z (.int .i64) 0)),(4,.l (.z (.slice .str) [[48],[49,47,50]])),(5,.l (.z (.slice .str) [[49]])),(6,.l (.z (.int .i64) 0))],[]⟩:aa)) (fun z=>True) ?_ ?_
 ·refine ak hG ?_ ?_
  ·(try simp only[ba]);exact zU (n:=4) (K:=1) (by decide+kernel) (by decide+kernel)
  show ∃ z,_;refine q_l ?_;exact wp2
 rintro⟨⟩-;refine cI (fun(z:Unit)=>(⟨[(0,.l (.z .bool false)),(1,.l (.z (.slice .str) [[49],[49],[49]])),(2,.l (.z (.slice .str) [])),(3,.l (.z (.int .i64) 0)),(4,.l (.z (.slice .str) [[48],[49,47,50]])),(5,.l (.z (.slice .str) [[49]])),(6,.l (.z (.int .i64) 0)),(9,.l (.z (.int .i64) 2))],[]⟩:aa)) (fun z=>True) ?_ ?_
 ·refine ak hG ?_ ?_
  ·(try simp only[ba]);exact zU (n:=4) (K:=1) (by decide+kernel) (by decide+kernel)
  show ∃ z,_;refine q_l ?_;exact wp3
 rintro⟨⟩-;refine cI (fun(z:Unit)=>(⟨[(0,.l (.z .bool false)),(1,.l (.z (.slice .str) [[49],[49],[49]])),(2,.l (.z (.slice .str) [])),(3,.l (.z (.int .i64) 0)),(4,.l (.z (.slice .str) [[48],[49,47,50]])),(5,.l (.z (.slice .str) [[49]])),(6,.l (.z (.int .i64) 0)),(9,.l (.z (.int .i64) 2)),(10,.l (.z .str [53,47,52])),(11,.l (.z (.int .i64) 0))],[]⟩:aa)) (fun z=>True) ?_ ?_
 ·refine ak hG ?_ ?_
  ·(try simp only[ba]);exact zV (n:=4) (K:=1) (by decide+kernel) (by decide)
  show ∃ z,_;refine q_l ?_;exact wp4
 rintro⟨⟩-;refine cI (fun(z:Unit)=>(⟨[(0,.l (.z .bool false)),(1,.l (.z (.slice .str) [[49],[49],[49]])),(2,.l (.z (.slice .str) [])),(3,.l (.z (.int .i64) 0)),(4,.l (.z (.slice .str) [[48],[49,47,50]])),(5,.l (.z (.slice .str) [[49]])),(6,.l (.z (.int .i64) 0)),(9,.l (.z (.int .i64) 2)),(10,.l (.z .str [53,47,52])),(11,.l (.z (.int .i64) 0)),(13,.l (.z (.int .i64) 5))],[]⟩:aa)) (fun z=>True) ?_ ?_
 ·refine ak hG ?_ ?_
  ·(try simp only[ba]);exact zV (n:=4) (K:=1) (by decide+kernel) (by decide)
  show ∃ z,_;refine q_l ?_;exact wp5
 rintro⟨⟩-;refine cI (fun(z:Unit)=>(⟨[(0,.l (.z .bool false)),(14,.l (.z .bool true))],[]⟩:aa)) (fun z=>True) ?_ ?_
 ·refine ak hG ?_ ?_
  ·(try simp only[ba]);exact wsq
  show ∃ z,_;refine q_l ?_;rfl
 rintro⟨⟩-;refine cI (fun(z:Unit)=>(⟨[(0,.l (.z .bool false)),(14,.l (.z .bool true))],[]⟩:aa)) (fun z=>True) ?_ ?_
 ·refine ak hG ?_ ?_
  ·(try simp only[ba]);simp[wp6.1,wp6.2,wp7.1,wp7.2,wp8.1,wp8.2,wp9.1,wp9.2,Ij.1,Ij.2,Ik.1,Ik.2,ok6,ok7,ok8,ok9,Kd,Ke,QL]
  show ∃ z,_;refine q_l ?_;simp[wp6.1,wp6.2,wp7.1,wp7.2,wp8.1,wp8.2,wp9.1,wp9.2,Ij.1,Ij.2,Ik.1,Ik.2]
 rintro⟨⟩-;refine cI (fun(z:Unit)=>(⟨[(0,.l (.z .bool false)),(14,.l (.z .bool true))],[]⟩:aa)) (fun z=>True) ?_ ?_
 ·refine ak hG ?_ ?_
  ·(try simp only[ba]);simp[Il.1,Il.2,Im.1,Im.2,Io.1,Io.2,Ip.1,Ip.2,Kf,Kg,Kh,Ki,QL]
  show ∃ z,_;refine q_l ?_;simp[Il.1,Il.2,Im.1,Im.2,Io.1,Io.2,Ip.1,Ip.2]
 rintro⟨⟩-;refine s_q hG ?_ ?_
 ·try simp only[ba]
  simp[Iq.1,Iq.2,J0.1,J0.2]
 refine au (q_e [] ?_);simp[Iq.1,Iq.2]
end Go.Proofs.YtdojbabpnaifoaaGreatDoor
end
section
namespace Go.Proofs
open Go.RowKit Go.Cm
def ky:Con:=fun l os=>match l,os with
 | [.z .str s,.z (.int .i64) c],[]=>some (0<=c/\s.length*c.toNat<=140737488355328/\c<=9223372036854775807,[.z .str (Lib.repeatL s c.toNat)],[])
 |_,_=>none
theorem IK{B:ah}(hB:aA B):Valid B Tryz.prog 43 ky:=by
 intro args os C rs os' hc hC O w vals ρ0 hOn hIo hO hOI hargs hown hap;unfold ky at hc;split at hc;case h_2=>cases hc
 rename_i s c;cases hc;obtain⟨u,v,rfl,hu,hv⟩:=qo hargs;rw[bg hv,eV hu];obtain⟨h0,h1,h2⟩:=hC;obtain⟨n,rfl⟩:=Int.eq_ofNat_of_zero_le h0;rw[Int.toNat_natCast] at h1 ⊢;have h2:(n:Int)<=9223372036854775807:=h2;have hsz:(⟨s.toArray⟩:ByteArray).size=s.length:=by simp[ByteArray.size]
 refine ui (v:= .string ⟨(Lib.repeatL s n).toArray⟩) ?_ (fun H w=>eb (ρ:=fun _=>undef));by_cases hn0:n=0;·subst hn0;exact(Tryz.strings_Repeat_zero ⟨s.toArray⟩ w).mono fun e w' ⟨he,hw⟩=>⟨he,by rw[hw];exact Below.refl _ _⟩
 by_cases hn1:n=1
 ·subst hn1;exact(Tryz.strings_Repeat_one ⟨s.toArray⟩ w).mono fun e w' ⟨he,hw⟩=>⟨by rw[he];simp[Lib.repeatL],by rw[hw];exact Below.refl _ _⟩
 by_cases hs:s.length=0
 ·have:s= []:=List.eq_nil_of_length_eq_zero hs;subst this;have hr:∀ n,Lib.repeatL [] n= []:=fun n=>by induction n with
   |zero=>rfl
   |succ n ih=>simp[Lib.repeatL,ih]
  exact(Tryz.strings_Repeat_empty ⟨#[]⟩ n w (by omega) (by omega) rfl).mono fun e w' ⟨he,hw⟩=>⟨by rw[he,hr],by rw[hw];exact Below.refl _ _⟩
 ·have:=Tryz.strings_Repeat_main ⟨s.toArray⟩ n w (by omega) (by omega) (by rw[hsz];exact h1) (by rw[hsz];omega);exact this.mono fun e w' ⟨he,hw⟩=>⟨by simpa using he,hw⟩
end Go.Proofs
end
section
namespace Go.Cm
open Go.RowKit
def stepF(T:Tab)(fs:List Nat)(ops:List Oper)(o:Oper)(s:aa):Option (Prop×aa):=
 match o.guard,o.dst with
 |some (j,want),some d=>match fs.contains d with
  |true=>match guardOf ops s j want,cK T ops {o with guard:=none} s with
   |some φ,some (C,s')=>some (φ=true/\C,s')
   |_,_=>none
  |false=>cK T ops o s
 |_,_=>cK T ops o s
def execF(T:Tab)(fs:List Nat)(ops:List Oper):List Oper->aa->Option (Prop×aa)
 | [],s=>some (True,s)
 |o::r,s=>match stepF T fs ops o s with
  |some (C,s1)=>match execF T fs ops r s1 with
   |some (C',s2)=>some (C/\C',s2)
   |none=>none
  |none=>none
theorem GY{X:Cx}(hT:cN X.P X.T)(hΓ:eX X.P X.T){fs:List Nat}{ops:List Oper}{o:Oper}{s s':aa}{a:Act}{w:World}(h:St X s a w){C:Prop}(he:stepF X.T fs ops o s=some (C,s'))(hC:C)
  {K:Act->World->Prop} {Q:Exit->Act->World->Prop} (hK:∀ a' w',St X s' a' w'->K a' w'):
  if Region.wanted o (yielded ops.toArray a.tmps) then o.wpIn (fw X.r) 2 X.P a w K Q else (∀ f,o.about X.P w a.eval=some f->(fw X.r).fn f)/\K (a.put o.dst undef) w:=by
 unfold stepF at he;split at he
 ·rename_i j want d hg hd;split at he
  ·(split at he;·rename_i φ C' s2 hφ h2;cases he;obtain⟨ρ,hf⟩:=h.fits;have hw:=vP hf hg hφ;rw[if_pos (hw.trans hC.1)];have h3:=step_ok hT hΓ (ops:=ops) (K:=K) (Q:=Q) h h2 hC.2 hK;(have hw2:Region.wanted {o with guard:=none} (yielded ops.toArray a.tmps)=true:=by simp[Region.wanted]);rw[if_pos hw2] at h3;exact h3);·cases he
  ·exact step_ok hT hΓ h he hC hK
 ·exact step_ok hT hΓ h he hC hK
theorem yC{X:Cx}(hT:cN X.P X.T)(hΓ:eX X.P X.T){fs:List Nat}{ops:List Oper}{Q:Exit->Act->World->Prop}:∀ (l:List Oper) {s s':aa} {a:Act} {w:World} {C:Prop},St X s a w->execF X.T fs ops l s=some (C,s')->C->(∀ a' w',St X s' a' w'->Q .normal a' w')->wpListIn (fw X.r) 2 X.P ops.toArray Q l a w
 | [],s,s',a,w,C,h,he,hC,hQ=>by simp[execF] at he;obtain⟨_,rfl⟩:=he;exact hQ _ _ h
 |o::r,s,s',a,w,C,h,he,hC,hQ=>by
  simp only[execF] at he;split at he
  ·(rename_i C1 s1 h1;split at he;·rename_i C2 s2 h2;cases he;refine wpListIn_step fun K hK=> ?_;exact GY hT hΓ h h1 hC.1 (fun a' w' h'=>hK _ _ (yC hT hΓ r h' h2 hC.2 hQ)));·cases he
  ·cases he
section
variable {X:Cx} {s s':aa} {K:Exit->aa->Prop}
theorem IL(hG:aM X.P X.T){id:Nat}{ops:Array Oper}{C:Prop}(fs:List Nat)(he:execF X.T fs ops.toList ops.toList s=some (C,s'))(hC:C)(hK:K .normal s'):J X (.region id ops false) s K:=by
 intro a w hst;have:=yC (Q:=post X K) hG.tab hG.cons ops.toList hst he hC (fun a' w' h'=>⟨_,hK,h'⟩);exact wpIn_region_list (by simpa using this)
theorem q_f{id:Nat}{ops:Array Oper}{C:Prop}(fs:List Nat)(hG:aM X.P X.T)(hC:C)(hK:K .normal s')(he:execF X.T fs ops.toList ops.toList s=some (C,s'):=by simp (maxSteps:=4000000) only[Go.Cm.execF,Go.Cm.stepF,hT,hX,Go.Cm.mx0,Go.Cm.mx1,Go.Cm.mx2,Go.Cm.mx3,Go.Cm.mx4,Go.Cm.mx5,Go.Cm.mx6,Go.Cm.effOp,Go.Cm.endCall,Go.Cm.callOp,Go.Cm.appendOp,Go.Cm.sliceLV,Go.Cm.Ty.fieldTy,Go.Cm.Ty.fieldOf,Nat.reduceLT,Nat.reduceEqDiff,Nat.reduceAdd,Nat.reduceMul,Nat.reduceSub,Nat.reduceLeDiff,Nat.reduceBEq,Nat.reduceBNe,reduceIte,reduceDIte,reduceCtorEq];rfl):J X (.region id ops false) s K:=IL hG fs he hC hK
end
def B1:Nat->Code->Code
 |0,c=>c
 |n+1,.seq _ c=>B1 n c
 |_+1,c=>c
def tU(n:Nat)(f:Func):Code:=B1 n (f.body.getD .skip)
end Go.Cm
end
section
namespace Go.Proofs.YtdojbabpnaifoaaGreatDoor
open Go Go.Cm Go.Proofs
def pH(B:ah):Tab:={types:= [(3,(.int .i64)),(22,(.slice .str))],elems:= [(22,46)],cons:= [],hint:= [9],N:=14,base:=B}
theorem yD{B:ah}(hB:aA B):aM Tryz.prog (pH B):=⟨⟨tc ty3 (tc iD (af)),aV (by kernel_rfl) (ag),by simp only[pH,ioB];omega⟩,bW rfl,by kernel_rfl⟩
def tV:Con:=fun l os=>match l,os with
 | [.z (.int .i64) n],[]=>some (0<=n/\n<=1000,[.own .str 46 (pwL n.toNat)],[])
 |_,_=>none
theorem D0{B:ah}(hB:aA B):Valid B Tryz.prog 44 tV:=by
 refine ab (yD hB).tab Tryz.func44 rfl rfl rfl ?_;intro args os C rs os' hc hC;unfold tV at hc;split at hc;case h_2=>cases hc
 rename_i n;cases hc;refine v_h (yD hB) fun X hP hT hr hG=> ?_;have hU:=pH.eq_1;unfold pH at hT;have hX:=Bool.not_true;simp only[Tryz.f44,aB,aj,ioB];obtain⟨hn1,hn2⟩:=hC;obtain⟨n,rfl⟩:=Int.eq_ofNat_of_zero_le hn1;rw[Int.toNat_natCast];have hn3:n<=1000:=by have h9:(n:Int)<=1000:=hn2;omega
 refine s_g hG ?_;refine s_g hG ?_;refine an (s_g hG ?_);refine aC (bM (fun(z:Nat)=>(⟨[(0,.l (.z (.int .i64) (n:Int))),(2,.l (.val (.slice none 0 0))),(3,.l (.ownS 10)),(4,.l (.z (.int .i64) (n:Int))),(5,.l (.z (.int .i64) (z:Int)))],[(10,.arr .str 46 (List.replicate z [48]))]⟩:aa)) (fun z=>z<=n) (fun z=>n-z) 0 ?_ ?_ ?_);·refine q_l ?_;exact⟨rfl,by unfold ioB;omega,rfl⟩
 ·omega
 ·rintro k g1;try dsimp only at g1
  refine s_g hG ?_;refine an (av ?_ ?_)
  ·intro hb0;(try simp only[bt] at hb0);(have hk:k<n:=by have h9:(k:Int)<(n:Int):=hb0;omega);refine az (al ?_);refine an (aC ?_);refine ak hG ?_ ?_
   ·(try simp only[ba]);exact vi (by rw[List.length_replicate];omega)
   (refine aW (al ?_);refine ak hG ?_ ?_;·exact tt9);show ∃ z,_;refine q_l ?_;exact⟨k+1,wo,Gm k,by omega,by omega⟩
  ·intro hb0;(try simp only[bf] at hb0);(obtain rfl:k=n:=by have h9: ¬ (k:Int)<(n:Int):=hb0;omega);refine bx (aN ?_);refine aJ (aI ?_);refine al (s_q hG ?_ ?_)
   ·(try simp only[ba]);exact vi (by rw[List.length_replicate];omega)
   refine au (q_e [] ?_);exact⟨trivial,rfl⟩
def ia(B:ah):Tab:={types:= [(3,(.int .i64)),(9,.str),(22,(.slice .str)),(31,(.int .i64)),(46,.str)],elems:= [(22,46)],cons:= [(11,kx),(14,jY),(15,nF),(17,ry),(23,jh),(24,ld),(29,nH),(30,rB),(31,ji),(36,jk),(41,rF),(43,ky),(44,tV),(45,yv),(46,mV),(94,yx),(101,mU)],hint:= [54,59,91,94,96,105,107,116,124,127,129,138,140,152,161,180,229,239,253,255],N:=318,base:=B}
theorem yE{B:ah}(hB:aA B):aM Tryz.prog (ia B):=⟨⟨tc ty3 (tc ty9 (tc iD (tc jv (tc wL (af))))),aV (by kernel_rfl) (ag),by simp only[ia,ioB];omega⟩,aK (cc Tryz.func11 (DZ hB) (cc Tryz.func14 (Ac hB) (cc Tryz.func15 (tM hB) (cc Tryz.func17 (Ad hB) (cc Tryz.func23 (rC hB) (cc Tryz.func24 (rA hB) (cc Tryz.func29 (tP hB) (cc Tryz.func30 (Ae hB) (cc Tryz.func31 (rD hB) (cc Tryz.func36 (rE hB) (cc Tryz.func41 (rG hB) (cc Tryz.func43 (IK hB) (cc Tryz.func44 (D0 hB) (cc Tryz.func45 (tS hB) (cc Tryz.func46 (DY hB) (cc Tryz.func94 (tT hB) (cc Tryz.func101 (DX hB) (aq)))))))))))))))))),by kernel_rfl⟩
def vz:Con:=fun l os=>match l,os with
 | [],[]=>some (True,[.z .bool true],[])
 |_,_=>none
set_option maxHeartbeats 4000000 in
theorem Ag{B:ah}{X:Cx}(hG:aM X.P X.T)(hT:X.T=ia B){K:Exit->aa->Prop}(h:J X (tU 11 Tryz.f8) (⟨[(0,.l (.z .bool false)),(1,.l (.z .str bk)),(2,.l (.val (.func (.func 44) #[] #[]))),(4,.l (.z (.int .i64) 6)),(6,.l (.z (.int .i64) 40)),(9,.l (.z (.int .i64) 6)),(12,.l (.z (.int .i64) 40)),(13,.l (.z .str [48])),(14,.l (.z (.int .i64) 0)),(15,.l (.z .bool true))],[]⟩:aa) K):J X (tU 10 Tryz.f8) (⟨[(0,.l (.z .bool false)),(1,.l (.z .str bk)),(2,.l (.val (.func (.func 44) #[] #[]))),(4,.l (.z (.int .i64) 6)),(6,.l (.z (.int .i64) 40)),(9,.l (.z (.int .i64) 6)),(12,.l (.z (.int .i64) 40)),(13,.l (.z .str [48])),(14,.l (.z (.int .i64) 0)),(15,.l (.z .bool true))],[]⟩:aa) K:=by
 unfold ia at hT;have hX:=ai @mV.eq_1<|ai @mU.eq_1<|ai @Af.eq_1<|ai @rF.eq_1<|ai @yx.eq_1<|ai @yv.eq_1<|ai @nF.eq_1<|ai @fH.eq_1<|ai @jY.eq_1<|ai @lg.eq_1<|ai @ji.eq_1<|ai @nH.eq_1<|ai @lf.eq_1<|ai @jh.eq_1<|ai @lh.eq_1<|ai @jk.eq_1<|ai @rz.eq_1<|ai @ld.eq_1<|ai @nG.eq_1<|ai @ry.eq_1<|ai @nI.eq_1<|ai @rB.eq_1<|ai @tV.eq_1<|ai @ky.eq_1<|ai @kx.eq_1<| @List.append_eq.{0};have hX:=ai zY<|ai zZ<|ai vh<|ai py1.2<|ai py2.2<|ai py3.2<|ai py4.2<|ai py5.2<|ai pz1<|ai pz2<|ai pz3<|ai pz4<|ai pz5<|ai pz6<|ai py6.2<|ai py7.2<|ai py8.2<|ai py9.2<|ai Ib.2<|ai Ic.2<|ai Ie.2<|ai Ig.2<|ai Ih.2<|ai qy1.2<|ai qy2.2<|ai qy3.2<|ai qy4.2<|ai qy5.2<|ai qy6.2<|ai qy7.2<|ai qy8.2<|ai qy9.2 hX;simp only[tU,Tryz.f8,Option.getD_some,B1] at h ⊢;refine cI (fun(z:Unit)=>(⟨[(0,.l (.z .bool false)),(1,.l (.z .str bk)),(2,.l (.val (.func (.func 44) #[] #[]))),(4,.l (.z (.int .i64) 6)),(6,.l (.z (.int .i64) 40)),(9,.l (.z (.int .i64) 6)),(12,.l (.z (.int .i64) 40)),(13,.l (.z .str [48])),(14,.l (.z (.int .i64) 0)),(15,.l (.z .bool true))],[]⟩:aa)) (fun z=>True) ?_ ?_
 ·refine q_f [] hG ?_ ?_
  ·(try simp only[ba]);exact⟨by decide,by decide,by decide,py6.1,IZ,by decide,by decide,py7.1,by decide,py8.1,Nat.zero_le _,by decide,by decide,by decide,py9.1,IZ,by decide,by decide,Ib.1,by decide,Ic.1,Gi,by decide,Ie.1,Nat.zero_le _,Ig.1,Gi,by decide,Ih.1,Nat.zero_le _⟩
  show ∃ z,_;refine q_l ?_;trivial
 rintro⟨⟩-;exact h
set_option maxHeartbeats 4000000 in
theorem Ah{B:ah}{X:Cx}(hG:aM X.P X.T)(hT:X.T=ia B){K:Exit->aa->Prop}(h:J X (tU 12 Tryz.f8) (⟨[(0,.l (.z .bool false)),(1,.l (.z .str bk)),(2,.l (.val (.func (.func 44) #[] #[]))),(4,.l (.z (.int .i64) 6)),(6,.l (.z (.int .i64) 40)),(9,.l (.z (.int .i64) 6)),(12,.l (.z (.int .i64) 40)),(13,.l (.z .str [48])),(14,.l (.z (.int .i64) 0)),(15,.l (.z .bool true))],[]⟩:aa) K):J X (tU 11 Tryz.f8) (⟨[(0,.l (.z .bool false)),(1,.l (.z .str bk)),(2,.l (.val (.func (.func 44) #[] #[]))),(4,.l (.z (.int .i64) 6)),(6,.l (.z (.int .i64) 40)),(9,.l (.z (.int .i64) 6)),(12,.l (.z (.int .i64) 40)),(13,.l (.z .str [48])),(14,.l (.z (.int .i64) 0)),(15,.l (.z .bool true))],[]⟩:aa) K:=by
 unfold ia at hT;have hX:=ai @mV.eq_1<|ai @mU.eq_1<|ai @Af.eq_1<|ai @rF.eq_1<|ai @yx.eq_1<|ai @yv.eq_1<|ai @nF.eq_1<|ai @fH.eq_1<|ai @jY.eq_1<|ai @lg.eq_1<|ai @ji.eq_1<|ai @nH.eq_1<|ai @lf.eq_1<|ai @jh.eq_1<|ai @lh.eq_1<|ai @jk.eq_1<|ai @rz.eq_1<|ai @ld.eq_1<|ai @nG.eq_1<|ai @ry.eq_1<|ai @nI.eq_1<|ai @rB.eq_1<|ai @tV.eq_1<|ai @ky.eq_1<|ai @kx.eq_1<| @List.append_eq.{0};have hX:=ai zY<|ai zZ<|ai vh<|ai py1.2<|ai py2.2<|ai py3.2<|ai py4.2<|ai py5.2<|ai pz1<|ai pz2<|ai pz3<|ai pz4<|ai pz5<|ai pz6<|ai py6.2<|ai py7.2<|ai py8.2<|ai py9.2<|ai Ib.2<|ai Ic.2<|ai Ie.2<|ai Ig.2<|ai Ih.2<|ai qy1.2<|ai qy2.2<|ai qy3.2<|ai qy4.2<|ai qy5.2<|ai qy6.2<|ai qy7.2<|ai qy8.2<|ai qy9.2 hX;simp only[tU,Tryz.f8,Option.getD_some,B1] at h ⊢;refine cI (fun(z:Unit)=>(⟨[(0,.l (.z .bool false)),(1,.l (.z .str bk)),(2,.l (.val (.func (.func 44) #[] #[]))),(4,.l (.z (.int .i64) 6)),(6,.l (.z (.int .i64) 40)),(9,.l (.z (.int .i64) 6)),(12,.l (.z (.int .i64) 40)),(13,.l (.z .str [48])),(14,.l (.z (.int .i64) 0)),(15,.l (.z .bool true))],[]⟩:aa)) (fun z=>True) ?_ ?_
 ·refine q_f [223,224,225,226,227,228,229,230,237,238,239,240,241,242,243,244,245] hG ?_ ?_
  ·(try simp only[ba]);exact⟨qy1.1,qy2.1,qy3.1,by decide,vi (by decide),by decide,qy4.1,by decide,by decide,vi (by decide),qy5.1,by decide,by decide,qy6.1,qy7.1,Ii,qy8.1,Nat.zero_le _,qy9.1,Nat.zero_le _⟩
  show ∃ z,_;refine q_l ?_;trivial
 rintro⟨⟩-;exact h
set_option maxHeartbeats 4000000 in
theorem D3{B:ah}(hB:aA B):Valid B Tryz.prog 8 vz:=by
 refine ab (yE hB).tab Tryz.func8 rfl rfl rfl ?_;intro args os C rs os' hc hC;unfold vz at hc;split at hc;case h_2=>cases hc
 cases hc;refine v_h (yE hB) fun X hP hT hr hG=> ?_;have hU:=ia.eq_1;unfold ia at hT;have hX:=ai @mV.eq_1<|ai @mU.eq_1<|ai @Af.eq_1<|ai @rF.eq_1<|ai @yx.eq_1<|ai @yv.eq_1<|ai @nF.eq_1<|ai @fH.eq_1<|ai @jY.eq_1<|ai @lg.eq_1<|ai @ji.eq_1<|ai @nH.eq_1<|ai @lf.eq_1<|ai @jh.eq_1<|ai @lh.eq_1<|ai @jk.eq_1<|ai @rz.eq_1<|ai @ld.eq_1<|ai @nG.eq_1<|ai @ry.eq_1<|ai @nI.eq_1<|ai @rB.eq_1<|ai @tV.eq_1<|ai @ky.eq_1<|ai @kx.eq_1<| @List.append_eq.{0};simp only[Tryz.f8,aB,aj,ioB];refine s_g hG ?_;refine an (s_g hG ?_);refine av ?_ ?_;·intro hb0;cases hb0
 ·intro hb0;try simp only[bf] at hb0
  refine az (al ?_);have hX:=ai zY<|ai zZ<|ai vh<|ai py1.2<|ai py2.2<|ai py3.2<|ai py4.2<|ai py5.2<|ai pz1<|ai pz2<|ai pz3<|ai pz4<|ai pz5<|ai pz6<|ai py6.2<|ai py7.2<|ai py8.2<|ai py9.2<|ai Ib.2<|ai Ic.2<|ai Ie.2<|ai Ig.2<|ai Ih.2<|ai qy1.2<|ai qy2.2<|ai qy3.2<|ai qy4.2<|ai qy5.2<|ai qy6.2<|ai qy7.2<|ai qy8.2<|ai qy9.2 hX;refine s_q hG ?_ ?_
  ·(try simp only[ba]);decide
  refine s_g hG ?_;refine cI (fun(z:Unit)=>(⟨[(0,.l (.z .bool false)),(1,.l (.z .str bk)),(2,.l (.val (.func (.func 44) #[] #[]))),(4,.l (.z (.int .i64) 6))],[]⟩:aa)) (fun z=>True) ?_ ?_
  ·refine ak hG ?_ ?_
   ·(try simp only[ba]);exact py1.1
   show ∃ z,_;refine q_l ?_;trivial
  rintro⟨⟩-;refine cI (fun(z:Unit)=>(⟨[(0,.l (.z .bool false)),(1,.l (.z .str bk)),(2,.l (.val (.func (.func 44) #[] #[]))),(4,.l (.z (.int .i64) 6)),(6,.l (.z (.int .i64) 40))],[]⟩:aa)) (fun z=>True) ?_ ?_
  ·refine ak hG ?_ ?_
   ·(try simp only[ba]);exact py2.1
   show ∃ z,_;refine q_l ?_;trivial
  rintro⟨⟩-;refine cI (fun(z:Unit)=>(⟨[(0,.l (.z .bool false)),(1,.l (.z .str bk)),(2,.l (.val (.func (.func 44) #[] #[]))),(4,.l (.z (.int .i64) 6)),(6,.l (.z (.int .i64) 40)),(9,.l (.z (.int .i64) 6))],[]⟩:aa)) (fun z=>True) ?_ ?_
  ·refine ak hG ?_ ?_
   ·(try simp only[ba]);exact py3.1
   show ∃ z,_;refine q_l ?_;trivial
  rintro⟨⟩-;refine cI (fun(z:Unit)=>(⟨[(0,.l (.z .bool false)),(1,.l (.z .str bk)),(2,.l (.val (.func (.func 44) #[] #[]))),(4,.l (.z (.int .i64) 6)),(6,.l (.z (.int .i64) 40)),(9,.l (.z (.int .i64) 6)),(12,.l (.z (.int .i64) 40))],[]⟩:aa)) (fun z=>True) ?_ ?_
  ·refine ak hG ?_ ?_
   ·(try simp only[ba]);exact py4.1
   show ∃ z,_;refine q_l ?_;trivial
  rintro⟨⟩-;refine cI (fun(z:Unit)=>(⟨[(0,.l (.z .bool false)),(1,.l (.z .str bk)),(2,.l (.val (.func (.func 44) #[] #[]))),(4,.l (.z (.int .i64) 6)),(6,.l (.z (.int .i64) 40)),(9,.l (.z (.int .i64) 6)),(12,.l (.z (.int .i64) 40)),(13,.l (.z .str [48])),(14,.l (.z (.int .i64) 0))],[]⟩:aa)) (fun z=>True) ?_ ?_
  ·refine ak hG ?_ ?_
   ·(try simp only[ba]);exact py5.1
   show ∃ z,_;refine q_l ?_;trivial
  rintro⟨⟩-;refine cI (fun(z:Unit)=>(⟨[(0,.l (.z .bool false)),(1,.l (.z .str bk)),(2,.l (.val (.func (.func 44) #[] #[]))),(4,.l (.z (.int .i64) 6)),(6,.l (.z (.int .i64) 40)),(9,.l (.z (.int .i64) 6)),(12,.l (.z (.int .i64) 40)),(13,.l (.z .str [48])),(14,.l (.z (.int .i64) 0)),(15,.l (.z .bool true))],[]⟩:aa)) (fun z=>True) ?_ ?_
  ·refine ak hG ?_ ?_
   ·(try simp only[ba]);exact⟨by decide,IY (by decide),by decide,IY (by decide),Ka,Dl,JX,Kb,Kc⟩
   show ∃ z,_;refine q_l ?_;trivial
  rintro⟨⟩-;refine Ag hG hT ?_;refine Ah hG hT ?_;refine s_g hG ?_;refine au (q_e [] ?_);trivial
end Go.Proofs.YtdojbabpnaifoaaGreatDoor
end
section
namespace Go.Cm
open Go.RowKit Go.Deep Go.ChangeShapes Go.WideShapes
def Below(W W':World):Prop:=∀ b,b<W.heap.size->W'.heap[b]? =W.heap[b]?
theorem Below.cell{W W':World}(h:Below W W'){a:Addr}{v:Value}(hc:W.cell? a=some v):W'.cell? a=some v:=by
 rw[<- hc];exact World.cell?_of_block (h a.block (block_lt_of_cell hc))
def GZ(P:Program)(w:Nat)(r:TypeId->Bool):Nat->List Field->Bool:=fun off fs=>match fs with
 | [f]=>f.offset==off&&P.cellsOf f.type==w&&r f.type
 |_=>false
def dG(P:Program)(w:Nat)(r:TypeId->Bool):(TypeId->Bool)×(Nat->List Field->Bool):=(r,GZ P w r)
def Ty.rd(P:Program):Ty->(TypeId->Bool)×(Nat->List Field->Bool)
 | .int k=>dG P 1 fun T=>match P.underlying T with
  |some (.int k')=>decide (k'=k)
  |_=>false
 | .bool=>dG P 1 fun T=>match P.underlying T with
  |some .bool=>true
  |_=>false
 | .str=>dG P 1 fun T=>match P.underlying T with
  |some .string=>true
  |_=>false
 | .unit=>(fun _=>false,fun _ _=>false)
 | .pair a b=>(fun _=>false,fun off fs=>match fs with
  |f::r=>f.offset==off&&P.cellsOf f.type==a.w&&(a.rd P).1 f.type&&(b.rd P).2 (off+a.w) r
  | []=>false)
 | .st t=>dG P t.w fun T=>match P.underlying T with
  |some (.struct fs)=>P.cellsOf T==t.w&&(t.rd P).2 0 fs.toList
  |_=>false
 | .arr n t=>dG P (n*t.w) fun T=>match P.underlying T with
  |some (.array m E)=>m==n&&P.cellsOf E==t.w&&P.cellsOf T==n*t.w&&(t.rd P).1 E
  |_=>false
 | .slice t=>dG P 1 fun T=>match P.underlying T with
  |some (.slice E)=>P.cellsOf E==t.w&&decide (0<t.w)&&(t.rd P).1 E
  |_=>false
 | .ptr _=>(fun _=>false,fun _ _=>false)
 | .opt _=>(fun _=>false,fun _ _=>false)
 | .func=>(fun _=>false,fun _ _=>false)
def Ty.okD:(t:Ty)->t.D->Prop
 | .int k,x=>k.min<=x/\x<=k.max
 | .bool,_=>True
 | .str,x=>x.length<=maxLen
 | .unit,_=>True
 | .pair a b,x=>a.okD x.1/\b.okD x.2
 | .st t,x=>t.okD x
 | .arr n t,x=>x.length=n/\∀ y∈x,t.okD y
 | .slice t,x=>x.length<=maxLen/\∀ y∈x,t.okD y
 | .ptr t,x=>t.okD x
 | .opt t,x=>∀ y,x=some y->t.okD y
 | .func,_=>True
section
variable {H:Type} (enc:TypeId×Value->H) (P:Program) (W:World)
def jZ(t:Ty)(T:TypeId)(cs:List Value)(d:DataW H)(ps:List MemPlace):Prop:=
 ∃ x:t.D,t.okD x/\t.rep (fun _=>False) W cs x/\
  ∀ (W':World) (sp:Nat->Bool),Below W W'->(∀ q∈ps,sp q.block=true)->∃ n,DataW.trod enc P W' 0 sp true n T cs=some (d,ps)
theorem mapM_at{α β:Type}{f:α->Option β}:∀ {l:List α} {xs:List β},l.mapM f=some xs->xs.length=l.length/\∀ (i:Nat) a,l[i]? =some a->f a=xs[i]?
 | [],xs,h=>by simp at h;subst h;simp
 |a::l,xs,h=>by
  simp only[List.mapM_cons,Option.bind_eq_bind,Option.bind_eq_some_iff,Option.pure_def,Option.some.injEq] at h;obtain⟨y,hy,ys,hys,rfl⟩:=h;obtain⟨h1,h2⟩:=mapM_at hys;refine⟨by simp[h1],fun i b hb=> ?_⟩;cases i with
  |zero=>simp at hb;subst hb;simpa using hy
  |succ i=>simp at hb ⊢;exact h2 i b hb
theorem l3{α β:Type}{f:α->Option β}:∀ {l:List α} {xs:List β},xs.length=l.length->(∀ (i:Nat) a,l[i]? =some a->f a=xs[i]?)->l.mapM f=some xs
 | [],xs,h,_=>by have:=List.eq_nil_of_length_eq_zero h;subst this;rfl
 |a::l,[],h,_=>by simp at h
 |a::l,x::xs,h,hf=>by
  have h0:=hf 0 a rfl;simp at h0;have:=l3 (f:=f) (l:=l) (xs:=xs) (by simpa using h) (fun i b hb=>by have:=hf (i+1) b (by simpa using hb);simpa using this);simp[List.mapM_cons,h0,this]
theorem B2{α:Type}{R:List Value->α->Prop}{ok:α->Prop}{w:Nat}:∀ (n:Nat) (cs:List Value),cs.length=n*w->(∀ i,i<n->∃ x,ok x/\R ((cs.drop (i*w)).take w) x)->∃ xs:List α,xs.length=n/\(∀ x∈xs,ok x)/\cq R cs xs
 |0,cs,h,_=>⟨[],rfl,by simp,by simp[cq];exact List.eq_nil_of_length_eq_zero (by omega)⟩
 |n+1,cs,h,hx=>by
  obtain⟨x,h1,h2⟩:=hx 0 (by omega);simp only[Nat.zero_mul,List.drop_zero] at h2;obtain⟨xs,g1,g2,g3⟩:=B2 (R:=R) (ok:=ok) (w:=w) n (cs.drop w) (by rw[List.length_drop,h,Nat.succ_mul];omega) (fun i hi=>by
   obtain⟨y,k1,k2⟩:=hx (i+1) (by omega);refine⟨y,k1,?_⟩;rw[List.drop_drop,show w+i*w=(i+1)*w by rw[Nat.succ_mul];omega];exact k2)
  refine⟨x::xs,by simp[g1],fun y hy=> ?_,cs.take w,cs.drop w,(List.take_append_drop _ _).symm,h2,g3⟩;rcases List.mem_cons.1 hy with rfl|hy;·exact h1
  ·exact g2 y hy
theorem B3{α:Type}{R:List Value->α->Prop}{ok:α->Prop}{w:Nat}{a:Addr}:∀ (n:Nat),(∀ i,i<n->∃ c,c.length=w/\(∀ j,j<w->W.cell? (a.add (i*w+j))=c[j]?)/\∃ x,ok x/\R c x)->
  ∃ (cells:List Value) (xs:List α),cells.length=n*w/\xs.length=n/\(∀ x∈xs,ok x)/\cq R cells xs/\∀ k,k<n*w->W.cell? (a.add k)=cells[k]?
 |0,_=>⟨[],[],by simp,rfl,by simp,rfl,fun k hk=>by simp at hk⟩
 |n+1,h=>by
  obtain⟨cells,xs,h1,h2,h3,h4,h5⟩:=B3 n (fun i hi=>h i (by omega));obtain⟨c,g1,g2,x,g3,g4⟩:=h n (by omega);refine⟨cells++c,xs++ [x],by rw[List.length_append,h1,g1,Nat.succ_mul],by simp[h2],fun y hy=> ?_,eG h4 (D6 g4),fun k hk=> ?_⟩
  ·(rcases List.mem_append.1 hy with hy|hy;·exact h3 y hy);·simp at hy;subst hy;exact g3
  ·by_cases hlt:k<n*w
   ·rw[h5 k hlt,List.getElem?_append_left (by omega)]
   ·rw[Nat.succ_mul] at hk;rw[List.getElem?_append_right (by omega),h1,<- g2 (k-n*w) (by omega),show n*w+(k-n*w)=k by omega]
theorem D4{W:World}{b:Nat}{a:Addr}{n:Nat}{cs:List Value}(h:W.cells? b a n=some cs):cs.length=n/\∀ j,j<n->W.cell? (a.add j)=cs[j]? :=by
 unfold World.cells? at h;split at h;·obtain⟨h1,h2⟩:=mapM_at h;refine⟨by simpa using h1,fun j hj=>h2 j j (by simp[hj])⟩
 ·cases h
theorem G0{W:World}{a:Addr}{n:Nat}{cs:List Value}(h:cs.length=n)(hc:∀ j,j<n->W.cell? (a.add j)=cs[j]?):W.cells? 0 a n=some cs:=by
 unfold World.cells?;rw[if_pos (Nat.zero_le _)];exact l3 (by simpa using h) (fun i b hb=>by
  obtain⟨hi,e⟩:=List.getElem?_eq_some_iff.1 hb;simp at hi e;subst e;exact hc i hi)
theorem G1(t:Ty):(∀ T,(t.rd P).1 T=true->∀ fuel cs d ps,DataW.trod enc P W 0 (fun _=>true) true fuel T cs=some (d,ps)->jZ enc P W t T cs d ps):=by
 have single:∀ (u:Ty) (w:Nat),u.w=w->(∀ T,(u.rd P).1 T=true->∀ fuel cs d ps,DataW.trod enc P W 0 (fun _=>true) true fuel T cs=some (d,ps)->jZ enc P W u T cs d ps)->
   ∀ off fs,GZ P w (u.rd P).1 off fs=true->∀ (fuel:Nat) (cs:List Value) (xs:List (DataW H×List MemPlace)),cs.length=off+u.w->fs.mapM (fun f=>DataW.trod enc P W 0 (fun _=>true) true fuel f.type ((cs.drop f.offset).take (P.cellsOf f.type)))=some xs->
   ∃ x:u.D,u.okD x/\u.rep (fun _=>False) W (cs.drop off) x/\∀ (W':World) (sp:Nat->Bool),Below W W'->(∀ q∈xs.flatMap (·.2),sp q.block=true)->∃ n,fs.mapM (fun f=>DataW.trod enc P W' 0 sp true n f.type ((cs.drop f.offset).take (P.cellsOf f.type)))=some xs:=by
  intro u w hw ih off fs hr fuel cs xs hl hm;unfold GZ at hr;split at hr
  ·rename_i f;simp only[Bool.and_eq_true,beq_iff_eq] at hr;obtain⟨⟨h1,h2⟩,h3⟩:=hr;rw[List.mapM_cons,Option.bind_eq_bind,Option.bind_eq_some_iff] at hm;obtain⟨⟨d,ps⟩,hd,hm⟩:=hm;simp at hm;subst hm;have hcut:(cs.drop f.offset).take (P.cellsOf f.type)=cs.drop off:=by
    rw[h1,h2];exact List.take_of_length_le (by rw[List.length_drop];omega)
   rw[hcut] at hd;obtain⟨x,g1,g2,g3⟩:=ih _ h3 _ _ _ _ hd;refine⟨x,g1,g2,fun W' sp hB hq=> ?_⟩;obtain⟨n,hn⟩:=g3 W' sp hB (fun q hq'=>hq q (by simpa using hq'));exact⟨n,by simp[hcut,hn]⟩
  ·cases hr
 suffices key:(∀ T,(t.rd P).1 T=true->∀ fuel cs d ps,DataW.trod enc P W 0 (fun _=>true) true fuel T cs=some (d,ps)->jZ enc P W t T cs d ps)/\
   ∀ off fs,(t.rd P).2 off fs=true->∀ (fuel:Nat) (cs:List Value) (xs:List (DataW H×List MemPlace)),cs.length=off+t.w->fs.mapM (fun f=>DataW.trod enc P W 0 (fun _=>true) true fuel f.type ((cs.drop f.offset).take (P.cellsOf f.type)))=some xs->
   ∃ x:t.D,t.okD x/\t.rep (fun _=>False) W (cs.drop off) x/\∀ (W':World) (sp:Nat->Bool),Below W W'->(∀ q∈xs.flatMap (·.2),sp q.block=true)->∃ n,fs.mapM (fun f=>DataW.trod enc P W' 0 sp true n f.type ((cs.drop f.offset).take (P.cellsOf f.type)))=some xs from key.1
 induction t with
 |int k=>
  have h:∀ T,((Ty.int k).rd P).1 T=true->∀ fuel cs d ps,DataW.trod enc P W 0 (fun _=>true) true fuel T cs=some (d,ps)->jZ enc P W (.int k) T cs d ps:=by
   (intro T hT fuel cs d ps h;simp only[Ty.rd,dG] at hT;split at hT;·rename_i k' hu;simp only[decide_eq_true_eq] at hT;subst hT;obtain⟨z,rfl,he,hw⟩:=DataW.trod_int hu h;cases he;(have h2:IntKind.min k'<=z/\z<=IntKind.max k':=by simpa [Lit.wf,IntKind.has] using hw);exact⟨z,h2,rfl,fun W' sp _ _=>⟨1,trod_int_mk 0 hu hw⟩⟩);·cases hT
  exact⟨h,single (.int k) 1 rfl h⟩
 |bool=>
  have h:∀ T,(Ty.bool.rd P).1 T=true->∀ fuel cs d ps,DataW.trod enc P W 0 (fun _=>true) true fuel T cs=some (d,ps)->jZ enc P W .bool T cs d ps:=by
   (intro T hT fuel cs d ps h;simp only[Ty.rd,dG] at hT;split at hT;·rename_i hu;obtain⟨z,rfl,he⟩:=DataW.trod_bool hu h;cases he;exact⟨z,trivial,rfl,fun W' sp _ _=>⟨1,by unfold DataW.trod;rw[hu]⟩⟩);·cases hT
  exact⟨h,single .bool 1 rfl h⟩
 |str=>
  have h:∀ T,(Ty.str.rd P).1 T=true->∀ fuel cs d ps,DataW.trod enc P W 0 (fun _=>true) true fuel T cs=some (d,ps)->jZ enc P W .str T cs d ps:=by
   (intro T hT fuel cs d ps h;simp only[Ty.rd,dG] at hT;split at hT;·rename_i hu;obtain⟨z,rfl,he,hz⟩:=DataW.trod_string hu h;cases he;refine⟨z.data.toList,by simpa [Ty.okD] using hz,rfl,fun W' sp _ _=>shut_string_cell hu hz⟩);·cases hT
  exact⟨h,single .str 1 rfl h⟩
 |unit=>exact⟨fun T h=>by simp[Ty.rd] at h,fun off fs h=>by simp[Ty.rd] at h⟩
 |ptr t _=>exact⟨fun T h=>by simp[Ty.rd] at h,fun off fs h=>by simp[Ty.rd] at h⟩
 |opt t _=>exact⟨fun T h=>by simp[Ty.rd] at h,fun off fs h=>by simp[Ty.rd] at h⟩
 |func=>exact⟨fun T h=>by simp[Ty.rd] at h,fun off fs h=>by simp[Ty.rd] at h⟩
 |pair a b iha ihb=>
  refine⟨fun T h=>by simp[Ty.rd] at h,?_⟩;intro off fs hr fuel cs xs hl hm;simp only[Ty.rd] at hr;split at hr
  ·rename_i f r;simp only[Bool.and_eq_true,beq_iff_eq] at hr;obtain⟨⟨⟨h1,h2⟩,h3⟩,h4⟩:=hr;rw[List.mapM_cons,Option.bind_eq_bind,Option.bind_eq_some_iff] at hm;obtain⟨⟨d,ps⟩,hd,hm⟩:=hm;rw[Option.bind_eq_bind,Option.bind_eq_some_iff] at hm;obtain⟨ys,hys,hm⟩:=hm;simp at hm;subst hm;rw[h1,h2] at hd;simp only[Ty.w] at hl;obtain⟨x,g1,g2,g3⟩:=iha.1 _ h3 _ _ _ _ hd;obtain⟨y,k1,k2,k3⟩:=ihb.2 _ _ h4 _ _ _ (by omega) hys;refine⟨(x,y),⟨g1,k1⟩,⟨(cs.drop off).take a.w,cs.drop (off+a.w),?_,g2,k2⟩,fun W' sp hB hq=> ?_⟩;·rw[<- List.drop_drop,List.take_append_drop]
   ·obtain⟨n,hn⟩:=g3 W' sp hB (fun q hq'=>hq q (by simp[hq']));obtain⟨m,hm⟩:=k3 W' sp hB (fun q hq'=>hq q (by rw[List.flatMap_cons];exact List.mem_append_right _ hq'));refine⟨max n m,?_⟩;rw[List.mapM_cons,h1,h2,DataW.trod_le (Nat.le_max_left n m) hn];have:r.mapM (fun f=>DataW.trod enc P W' 0 sp true (max n m) f.type ((cs.drop f.offset).take (P.cellsOf f.type)))=some ys:=by
     obtain⟨q1,q2⟩:=mapM_at hm;refine l3 q1 fun i f hf=> ?_;(have hi:i<ys.length:=by rw[q1];exact(List.getElem?_eq_some_iff.1 hf).1);have:=q2 i f hf;rw[List.getElem?_eq_getElem hi] at this ⊢;exact DataW.trod_le (Nat.le_max_right n m) this
    simp[this]
  ·cases hr
 |st t ih=>
  have h:∀ T,((Ty.st t).rd P).1 T=true->∀ fuel cs d ps,DataW.trod enc P W 0 (fun _=>true) true fuel T cs=some (d,ps)->jZ enc P W (.st t) T cs d ps:=by
   (intro T hT fuel cs d ps h;simp only[Ty.rd,dG] at hT;split at hT;·rename_i fs hu;simp only[Bool.and_eq_true,beq_iff_eq] at hT;obtain⟨xs,n,rfl,he,hl,hxl,hx⟩:=DataW.trod_struct hu h;cases he;obtain⟨x,g1,g2,g3⟩:=ih.2 0 _ hT.2 n cs xs (by rw[hl,hT.1];omega) (l3 (by rw[hxl];rfl) (fun i f hf=>hx i f (by simpa using hf)));refine⟨x,g1,(show t.rep (fun _=>False) W cs x by simpa using g2),fun W' sp hB hq=> ?_⟩;obtain⟨m,hm⟩:=g3 W' sp hB hq;exact⟨m+1,trod_struct_mk hu hl hm⟩);·cases hT
  exact⟨h,single (.st t) t.w rfl h⟩
 |arr n t ih=>
  have h:∀ T,((Ty.arr n t).rd P).1 T=true->∀ fuel cs d ps,DataW.trod enc P W 0 (fun _=>true) true fuel T cs=some (d,ps)->jZ enc P W (.arr n t) T cs d ps:=by
   intro T hT fuel cs d ps h;simp only[Ty.rd,dG] at hT;split at hT
   ·rename_i m E hu;simp only[Bool.and_eq_true,beq_iff_eq] at hT;obtain⟨⟨⟨rfl,h2⟩,h3⟩,h4⟩:=hT;obtain⟨xs,k,rfl,he,hl,hxl,hx⟩:=DataW.trod_array hu h;cases he;have each:∀ i,i<m->jZ enc P W t E ((cs.drop (i*t.w)).take t.w) ((xs.map (·.1)).getD i .nil) ((xs.map (·.2)).getD i []):=by
     intro i hi;have:=hx i hi;rw[h2,List.getElem?_eq_getElem (by omega)] at this;refine ih.1 E h4 k _ _ _ ?_;rw[this];simp[List.getD_eq_getElem?_getD,List.getElem?_eq_getElem (show i<xs.length by omega)]
    obtain⟨ys,q1,q2,q3⟩:=B2 (R:=fun c y=>t.rep (fun _=>False) W c y) (ok:=t.okD) m cs (by rw[hl,h3]) (fun i hi=>by obtain⟨x,e1,e2,_⟩:=each i hi;exact⟨x,e1,e2⟩);refine⟨ys,⟨q1,q2⟩,⟨q1,q3⟩,fun W' sp hB hq=> ?_⟩;obtain⟨f,hf⟩:=fuel_lt (n:=m) (q:=fun i f=>DataW.trod enc P W' 0 sp true f E ((cs.drop (i*t.w)).take t.w)=xs[i]? /\i<xs.length) (fun i a b hab hi=>by
      cases hx':xs[i]? with
      |none=>exact absurd hi.2 (by rw[List.getElem?_eq_none_iff] at hx';omega)
      |some y=>rw[hx'] at hi;exact⟨DataW.trod_le hab hi.1,hi.2⟩) (fun i hi=>by
     obtain⟨_,_,_,e3⟩:=each i hi;(have hil:i<xs.length:=by omega);obtain⟨f,hf⟩:=e3 W' sp hB (fun q hq'=>hq q (by
      rw[List.mem_flatMap];refine⟨xs[i],List.getElem_mem hil,?_⟩;simpa [List.getD_eq_getElem?_getD,List.getElem?_eq_getElem hil] using hq'))
     refine⟨f,?_,hil⟩;rw[hf,List.getElem?_eq_getElem hil];simp[List.getD_eq_getElem?_getD,List.getElem?_eq_getElem hil])
    refine⟨f+1,?_⟩;have hmm:(List.range m).mapM (fun i=>DataW.trod enc P W' 0 sp true f E ((cs.drop (i*t.w)).take t.w))=some xs:=l3 (by simpa using hxl) (fun i b hb=>by
     obtain⟨hi,e⟩:=List.getElem?_eq_some_iff.1 hb;simp at hi e;subst e;exact(hf i hi).1)
    unfold DataW.trod;rw[hu];simp only[h2,hl,hmm,if_true,Option.map_some]
   ·cases hT
  exact⟨h,single (.arr n t) (n*t.w) rfl h⟩
 |slice t ih=>
  have h:∀ T,((Ty.slice t).rd P).1 T=true->∀ fuel cs d ps,DataW.trod enc P W 0 (fun _=>true) true fuel T cs=some (d,ps)->jZ enc P W (.slice t) T cs d ps:=by
   intro T hT fuel cs d ps h;simp only[Ty.rd,dG] at hT;split at hT
   ·(rename_i E hu;simp only[Bool.and_eq_true,beq_iff_eq,decide_eq_true_eq] at hT;obtain⟨⟨h1,h2⟩,h3⟩:=hT;rcases open_slice hu h with⟨rfl,he⟩|⟨a,len,cap,m,k,D,Pl,rfl,hb,hl,hm,he1,he,hx⟩);·cases he;exact⟨[],⟨by simp,by simp⟩,.inl ⟨rfl,rfl⟩,fun W' sp _ _=>⟨1,by unfold DataW.trod;rw[hu];rfl⟩⟩
    ·cases he;simp only[if_true] at he1;subst he1;rw[h1] at hx;have each:∀ i,i<m->∃ c,c.length=t.w/\(∀ j,j<t.w->W.cell? (a.add (i*t.w+j))=c[j]?)/\jZ enc P W t E c (D i) (Pl i):=by
      intro i hi;obtain⟨c,hc,hd⟩:=hx i hi;obtain⟨g1,g2⟩:=D4 hc;exact⟨c,g1,fun j hj=>by rw[<- g2 j hj,add_add],ih.1 E h3 k _ _ _ hd⟩
     obtain⟨cells,ys,q1,q2,q3,q4,q5⟩:=B3 W (R:=fun c y=>t.rep (fun _=>False) W c y) (ok:=t.okD) (a:=a) len (fun i hi=>by
      obtain⟨c,e1,e2,x,e3,e4,_⟩:=each i (by omega);exact⟨c,e1,e2,x,e3,e4⟩)
     obtain⟨b,o,p⟩:=a;have hp:0<m->p=none:=by
      intro hlen;obtain⟨c,e1,e2,_⟩:=each 0 hlen;have:=e2 0 h2;rw[List.getElem?_eq_getElem (by omega)] at this;simp only[Nat.zero_mul,Nat.add_zero] at this;unfold World.cell? Addr.add at this;split at this
      ·cases p with
       |none=>rfl
       |some _=>simp at this
      ·cases this
     have hne:ys≠ []->p=none:=fun h=>hp (by cases ys with
      |nil=>exact absurd rfl h
      |cons y ys=>simp at q2;omega)
     refine⟨ys,⟨by omega,q3⟩,.inr ⟨b,o,p,m,cells,by rw[q2],hne,by omega,hm,q4,fun _ h=>h,fun j hj=> ?_⟩,fun W' sp hB hq=> ?_⟩
     ·have hys:ys≠ []:=by
       intro e;subst e;have e:cells= []:=q4;subst e;simp at hj
      obtain rfl:=hne hys;have:=q5 j (by omega);rw[<- this,addr_add];simp
     ·by_cases h0:m=0
      ·subst h0;(have hlen:len=0:=by omega);subst hlen;refine⟨1,?_⟩;unfold DataW.trod;rw[hu];simp[MemPlace.row,hm]
      ·have hs:sp b=true:=hq (.cell b o) (by
        simp only[MemPlace.row,List.mem_append,List.mem_map,List.mem_range];exact .inl ⟨0,by rw[h1];exact Nat.mul_pos (by omega) h2,by simp⟩)
       have:=shut_slice_whole_cells (enc:=enc) (w:=W') (base:=0) (spare:=sp) (held:=true) (a:=⟨b,o,p⟩) hu hb hl hm hs D Pl (fun i hi=>by
        obtain⟨c,e1,e2,x,e3,e4,e5⟩:=each i hi;obtain⟨n,hn⟩:=e5 W' sp hB (fun q hq'=>hq q (by
         rw[List.mem_append];right;rw[List.mem_flatMap];exact⟨i,by simpa using hi,hq'⟩))
        refine⟨c,n,?_,hn⟩;rw[h1];refine G0 e1 fun j hj=> ?_;rw[add_add];have:=e2 j hj;rw[List.getElem?_eq_getElem (by omega)] at this ⊢;exact hB.cell this)
       exact this
   ·cases hT
  exact⟨h,single (.slice t) 1 rfl h⟩
end
end Go.Cm
end
section
namespace Go.Cm
open Go.RowKit Go.Deep Go.ChangeShapes Go.WideShapes Go.ChangeAt
def HL:List Ty->Type
 | []=>Unit
 |t::ts=>t.D×HL ts
def HL.args:(ts:List Ty)->HL ts->List LV
 | [],_=> []
 |t::ts,x=> .z t x.1::HL.args ts x.2
def HL.ok:(ts:List Ty)->HL ts->Prop
 | [],_=>True
 |t::ts,x=>t.okD x.1/\HL.ok ts x.2
theorem JD{P:Program}{W:World}{r:Reach}{b0:Nat}{T:TypeId}{v:Value}(hv:Value.okWide P W r b0 T v):∀ {t:Ty},(t.rd P).1 T=true->dN v=t.isAgg
 | .int k,h=>by
  simp only[Ty.rd,dG] at h;split at h;·rename_i hu;unfold Value.okWide at hv;rw[hu] at hv;simp only at hv;unfold Cell.okWide at hv;rw[hu] at hv;cases v<;>simp_all [Cell.ok,dN,Ty.isAgg]
  ·cases h
 | .bool,h=>by
  simp only[Ty.rd,dG] at h;split at h;·rename_i hu;unfold Value.okWide at hv;rw[hu] at hv;simp only at hv;unfold Cell.okWide at hv;rw[hu] at hv;cases v<;>simp_all [Cell.ok,dN,Ty.isAgg]
  ·cases h
 | .str,h=>by
  simp only[Ty.rd,dG] at h;split at h;·rename_i hu;unfold Value.okWide at hv;rw[hu] at hv;simp only at hv;unfold Cell.okWide at hv;rw[hu] at hv;cases v<;>simp_all [Cell.ok,dN,Ty.isAgg]
  ·cases h
 | .slice t,h=>by
  simp only[Ty.rd,dG] at h;split at h;·rename_i hu;unfold Value.okWide at hv;rw[hu] at hv;simp only at hv;unfold Cell.okWide at hv;rw[hu] at hv;cases v<;>simp_all [Cell.ok,dN,Ty.isAgg]
  ·cases h
 | .st t,h=>by
  simp only[Ty.rd,dG] at h;split at h;·rename_i hu;unfold Value.okWide at hv;rw[hu] at hv;simp only at hv;obtain⟨cs,rfl,_⟩:=hv;rfl
  ·cases h
 | .arr n t,h=>by
  simp only[Ty.rd,dG] at h;split at h;·rename_i hu;unfold Value.okWide at hv;rw[hu] at hv;simp only at hv;obtain⟨cs,rfl,_⟩:=hv;rfl
  ·cases h
 | .unit,h=>by simp[Ty.rd] at h
 | .pair _ _,h=>by simp[Ty.rd] at h
 | .ptr _,h=>by simp[Ty.rd] at h
 | .opt _,h=>by simp[Ty.rd] at h
 | .func,h=>by simp[Ty.rd] at h
def rH(P:Program):List Ty->List TypeId->Bool
 | [],[]=>true
 |t::ts,T::Ts=>(t.rd P).1 T&&rH P ts Ts
 |_,_=>false
theorem yF{H:Type}{enc:TypeId×Value->H}{P:Program}{W:World}{b0:Nat}:∀ (ts:List Ty) {Ts:List TypeId} {vs:List Value} {ds:List (DataW H)} {p:List MemPlace},rH P ts Ts=true->
  (∀ (j:Nat) t v,Ts[j]? =some t->vs[j]? =some v->Value.okWide P W .any b0 t v)->DataW.TrodAll enc P W 0 (fun _=>true) true Ts vs ds p->
  ∃ x:HL ts,HL.ok ts x/\bd (aP (fun _=>False) W (fun _=>undef)) (HL.args ts x) vs/\ds.length=ts.length/\
   ∀ (W':World) (sp:Nat->Bool),Below W W'->(∀ q∈p,sp q.block=true)->DataW.TrodAll enc P W' 0 sp true Ts vs ds p
 | [],[],vs,ds,p,_,_,h=>by
  obtain⟨rfl,rfl,rfl⟩:=trodAll_nil h;exact⟨(),trivial,trivial,rfl,fun _ _ _ _=>rfl⟩
 |t::ts,T::Ts,vs,ds,p,hr,hv,h=>by
  simp only[rH,Bool.and_eq_true] at hr;obtain⟨v,vs',d,ds',p0,q,rfl,rfl,rfl,⟨n,h0⟩,hs⟩:=trodAll_cons h;obtain⟨x,g1,g2,g3⟩:=G1 enc P W t T hr.1 n _ _ _ h0;obtain⟨y,k1,k2,k3,k4⟩:=yF ts hr.2 (fun j t v h1 h2=>hv (j+1) t v (by simpa using h1) (by simpa using h2)) hs;refine⟨(x,y),⟨g1,k1⟩,⟨⟨JD (hv 0 T v rfl rfl) hr.1,g2⟩,k2⟩,by simp[k3],fun W' sp hB hq=> ?_⟩;obtain⟨m,hm⟩:=g3 W' sp hB (fun q hq'=>hq q (by simp[hq']));exact trodAll_cons_mk ⟨m,hm⟩ (k4 W' sp hB (fun q hq'=>hq q (by simp[hq'])))
 | [],_::_,_,_,_,hr,_,_=>by simp[rH] at hr
 |_::_,[],_,_,_,hr,_,_=>by simp[rH] at hr
def kz(W:World):ah:=⟨W.heap.size,fun b=>W.heap[b]?⟩
theorem Ai(W:World):(kz W).On W:=⟨Nat.le_refl _,fun _ _=>rfl⟩
theorem D5{P:Program}{f:FuncId}{con:Con}{W:World}{args:List LV}{vals:Array Value}(hv:Valid (kz W) P f con){C:Prop}(hc:con args []=some (C,[.z .bool true],[]))(hC:C)
  (ha:bd (aP (fun _=>False) W (fun _=>undef)) args vals.toList):
  Calls P f vals W fun e W'=>e= .returned (.bool true)/\W'.os=W.os/\W'.output=W.output/\W.heap.size<=W'.heap.size/\Below W W':=by
 refine(hv args [] C _ [] hc hC (fun _=>False) W vals (fun _=>undef) (Ai W) (fun b hb=>by obtain⟨p,hp,-⟩:=hb;simp[aj] at hp) (fun _ h=>h.elim) (fun _ h=>h.elim) ?_ (fun p hp=>by simp[aj] at hp) List.Pairwise.nil).mono ?_
 ·refine ha.imp fun x v _ hx=>aT (fun b _ hb=> ?_) (aZ.refl _ _) (fun _ _=>rfl) hx;rcases hb with hb|⟨p,hp,-⟩;·exact hb
  ·simp[aj] at hp
 ·rintro e W' ⟨vs,ρ1,rfl,-,hb,-,hr,-⟩;match vs,hr with
  | [v],hr=>
   have h1:aP _ W' (fun _=>undef) (.z .bool true) v:=hr.1;have h2:v.cells.toList= [.bool true]:=h1.2;have h3:v= .bool true:=by
    cases v with
    |agg cs=>have:=h1.1;cases this
    |_=>simp[Value.cells] at h2<;>simp[h2]
   (subst h3;refine⟨rfl,hb.os,hb.output,hb.size,fun b hlt=>hb.block b hlt fun hm=> ?_⟩;rcases hm with hm|⟨p,hp,-⟩;·omega);·simp[aj] at hp
theorem G2{H:Type}{enc:TypeId×Value->H}{P:Program}{f:Func}{s:ChangeSpec}{apart fresh handsOn again:Bool}{W W':World}{args:Array Value}{v:Value}{ds gs:List (DataW H)}{before pa pv:List MemPlace}
  (hW:DataW.Whole enc P f.params.toList s.vars apart W args.toList ds gs before)
  (hres:∀ (b:Nat) (sp:Nat->Bool) (hd:Bool),DataW.TrodAll enc P W' b sp hd f.resultTypes.toList (v.resultList f.resultTypes.size) (s.fn H (ds++gs)).results [])
  (hargs:∀ sp:Nat->Bool,(∀ p∈before,sp p.block=true)->DataW.TrodAll enc P W' 0 sp true f.params.toList args.toList (s.fn H (ds++gs)).args pa)
  (hvars:∀ sp:Nat->Bool,(∀ p∈before,sp p.block=true)->DataW.TrodVars enc P W' sp s.vars (s.fn H (ds++gs)).vars pv)
  (hps:before=pa++pv) (hk:W.keptBut W' (· ∈before)) (hfz:∀ a:Addr,a.block<W.heap.size->W'.frozen? a=W.frozen? a)
  (hok:∀ (j:Nat) (t:TypeId) (r:Value),f.resultTypes[j]? =some t->(v.resultList f.resultTypes.size)[j]? =some r->Value.okWide P W' .any 0 t r):
  s.post enc P f apart fresh handsOn again W args v W':=by
 have hold:∀ p∈before,(fun b=>decide (b<W.heap.size)) p.block=true:=fun p hp=>by simpa using hW.lt p hp
 refine⟨ds,gs,before,[],pa,pv,hW,hres _ _ _,hargs _ hold,hvars _ hold,World.keptBut_mono (fun p hp=>⟨hp,?_⟩) hk,fun _=> ?_⟩;·rw[hps,List.mem_append] at hp;exact Or.inr hp
 ·have hlt:=hW.lt;obtain⟨_,_,_,_,_,hz,hn⟩:=hW;refine⟨hok,_,_,([]++pa)++pv,⟨[]++pa,pv,trodAll_append (hargs _ (fun _ _=>rfl)) (hres _ _ _),hvars _ (fun _ _=>rfl),rfl,?_,?_⟩,?_⟩;·intro b off hp;(have hm:MemPlace.cell b off∈before:=by rw[hps];simpa using hp);rw[hfz _ (hlt _ hm)];exact hz b off hm
  ·intro ha;have:=hn ha;rw[hps] at this;simpa using this
  ·intro p hp _;rw[hps];simpa using hp
theorem Aj{W W':World}(hB:Below W W')(a:Addr)(h:a.block<W.heap.size):W'.frozen? a=W.frozen? a:=by
 unfold World.frozen?;rw[hB a.block h]
theorem G3{W W':World}{may:MemPlace->Prop}(hos:W'.os=W.os)(hout:W'.output=W.output)(hB:Below W W'):W.keptBut W' may:=by
 have h:=World.keptBut_refl W may;exact⟨hos,hout,fun i hi=>by rw[hB i hi];exact h.2.2 i hi⟩
def yG(s:ChangeSpec)(n:Nat):Prop:=s.vars= []/\∀ (H:Type) (ds:List (DataW H)),ds.length=n->s.fn H (ds++ [])={results:= [.lit (.bool true)],args:=ds}
theorem vA{H:Type}{enc:TypeId×Value->H}{P:Program}{f:FuncId}{fn:Func}{con:Con}{ts:List Ty}{tb:TypeId}{s:ChangeSpec}{W:World}{base:Nat}{args:Array Value}{ds gs:List (DataW H)}{before:List MemPlace}
  (hts:rH P ts fn.params.toList=true) (hrt:fn.resultTypes= #[tb]) (hb:P.underlying tb=some .bool) (hs:yG s ts.length)
  (hcon:∀ x:HL ts,HL.ok ts x->∃ C,con (HL.args ts x) []=some (C,[.z .bool true],[])/\C) (hv:Valid (kz W) P f con)
  (hval:∀ (j:Nat) t v,fn.params[j]? =some t->args[j]? =some v->Value.okWide P W .any base t v)
  (hW:DataW.Whole enc P fn.params.toList s.vars false W args.toList ds gs before):
  Calls P f args W fun e W'=>∃ v,e= .returned v/\s.post enc P fn false true false false W args v W':=by
 have hW':=hW;obtain⟨p,q,hA,hV,rfl,hfz,hnd⟩:=hW;rw[hs.1] at hV;obtain⟨rfl,rfl⟩:=trodVars_none hV;obtain⟨x,hx,ha,hl,again⟩:=yF (b0:=base) ts hts (fun j t v h1 h2=>hval j t v (by simpa using h1) (by simpa using h2)) hA;obtain⟨C,hC1,hC2⟩:=hcon x hx;refine(D5 hv hC1 hC2 ha).mono fun e W' ⟨he,hos,hout,hsz,hB⟩=> ?_;subst he;have hspec:=hs.2 H ds hl;refine⟨_,rfl,G2 (pa:=p) (pv:= []) hW' (fun _ _ _=> ?_) (fun sp hsp=> ?_) (fun _ _=> ?_) rfl (G3 hos hout hB) (Aj hB) (ok_one hrt rfl (okWide_bool_mk hb _))⟩;·rw[hspec,hrt];exact trodAll_cons_mk (shut_bool hb _) trodAll_mk0
 ·rw[hspec];exact again W' sp hB (fun z hz=>hsp z (by simp[hz]))
 ·rw[hspec,hs.1];rfl
end Go.Cm
end
section
namespace Go.Proofs.YtdojbabpnaifoaaGreatDoor
open Go Go.Cm Go.Proofs Go.ChangeShapes Go.WideShapes Go.ChangeAt Go.RowKit Go.Deep Go.Joins
def vB:DataW Unit->Array Value
 | .agg l=>(l.map fun x=>match x with
  | .lit (.int k n)=>Value.int k n
  |_=>Value.bool false).toArray
 |_=> #[]
noncomputable def G4(h:Array Obj)(name:String)(cs:Array Value):Array Obj:=h.modify ((Tryz.prog.globalNamed name).getD 0) fun o=>match o with
 | .cells _ t f=> .cells cs t f
 |o=>o
noncomputable def G5:Nat:=(World.holding Tryz.prog default ⟨#[],#[],[]⟩).heap.size
noncomputable def rI(os:Os):World:=
 let w0:=World.holding Tryz.prog os ⟨#[.cells #[.string {data:= #[118,97,108,117,101,32,111,117,116,32,111,102,32,114,97,110,103,101]}] 239,.cells #[.string {data:= #[105,110,118,97,108,105,100,32,115,121,110,116,97,120]}] 239],#[],[]⟩
 {w0 with heap:=(G4 (G4 (G4 (G4 (G4 w0.heap "strconv.ErrRange" #[.iface 237 (.pointer (some ⟨G5+0,0,none⟩))]) "strconv.ErrSyntax" #[.iface 237 (.pointer (some ⟨G5+1,0,none⟩))]) "math/bits.deBruijn32tab" (vB Rows.laid_math_bits_deBruijn32tab)) "math/bits.deBruijn64tab" (vB Rows.laid_math_bits_deBruijn64tab)) "internal/strconv.uint64pow10" (vB Rows.laid_internal_strconv_uint64pow10))}
theorem G6:(Rows.laid_internal_strconv_uint64pow10:DataW Unit)=Lib.tabData .u64 Lib.pow10Tab:=by kernel_rfl
noncomputable def rJ:Nat:=(Tryz.prog.globalNamed "internal/strconv.uint64pow10").getD 0
noncomputable def B4:Nat:=((Tryz.prog.globals[rJ]?).map (·.type)).getD 0
noncomputable def G7:Nat:=match Tryz.prog.underlying B4 with
 |some (.array _ e)=>e
 |_=>0
theorem I0:Tryz.prog.globalNamed "internal/strconv.uint64pow10"=some rJ:=by kernel_rfl
theorem J2:(Tryz.prog.globals[rJ]?).map (·.type)=some B4:=by kernel_rfl
theorem J3:Tryz.prog.underlying B4=some (.array 20 G7):=by kernel_rfl
theorem J4:Tryz.prog.underlying G7=some (.int .u64):=by kernel_rfl
theorem J5:Tryz.prog.cellsOf G7=1:=by kernel_rfl
theorem J6:Tryz.prog.cellsOf B4=20:=by kernel_rfl
theorem IM{l:List (String×DataW Unit)}{W:World}(h:laidMet Tryz.prog (("internal/strconv.uint64pow10",Rows.laid_internal_strconv_uint64pow10)::l) W):∀ w,(kz W).On w->Lib.TabIs Tryz.prog w "internal/strconv.uint64pow10" .u64 Lib.pow10Tab:=by
 intro w hw;rw[G6] at h;have ht:=Lib.tabIs_of_head I0 J2 J3 J4 J5 J6 h;unfold Lib.TabIs World.var? at ht ⊢;rw[I0] at ht ⊢;simp only[Option.bind_some] at ht ⊢;by_cases hlt:rJ<W.heap.size;·have he:w.heap[rJ]? =W.heap[rJ]? :=hw.2 rJ hlt;rw[he];exact ht
 ·rw[Array.getElem?_eq_none (by omega)] at ht;cases ht
theorem IP{W:World}(h:W.ShapedOpen Tryz.prog):JI (kz W):=by
 obtain⟨m,hm⟩:=Go.Proofs.cell_of_shapedOpen_int (g:=0) (t:=3) (zero:= #[.int .i64 0]) (k:= .i64) h (by decide+kernel) (by kernel_rfl) rfl (by kernel_rfl) (by kernel_rfl) (by kernel_rfl);intro w hw;have hlt:(0:Nat)<W.heap.size:=by
  unfold World.cell? at hm;rcases Nat.lt_or_ge 0 W.heap.size with h0|h0;·exact h0
  ·rw[Array.getElem?_eq_none h0] at hm;cases hm
 have he:w.heap[0]? =W.heap[0]? :=hw.2 0 hlt;exact⟨m,(World.cell?_of_block (a:=⟨0,0,none⟩) he).trans hm⟩
end Go.Proofs.YtdojbabpnaifoaaGreatDoor
end
section
namespace Go.Proofs.YtdojbabpnaifoaaGreatDoor.polyKnown
open Go Go.Cm Go.Proofs Go.ChangeShapes Go.WideShapes Go.ChangeAt Go.RowKit Go.Deep Go.Joins
theorem own:ownKnob Tryz.prog.godebug=none:=by kernel_rfl
theorem Kj:Tryz.f8.resultTypes= #[4]:=by kernel_rfl
theorem J7:Tryz.prog.underlying 4=some .bool:=by kernel_rfl
def tys:List Ty:= []
theorem reads:rH Tryz.prog tys Tryz.f8.params.toList=true:=by kernel_rfl
theorem spec:yG Rows.polyKnownSpec tys.length:=⟨rfl,fun _ ds h=>match ds,h with| [],_=>rfl⟩
abbrev vals:Array Value:= #[]
theorem met(os:Os):laidMet Tryz.prog Rows.polyKnownRow.laid ((rI os).forCall (fun _ _=>0) ⟨#[],vals,[]⟩).memory:=
 laidMet_of_run3 8 (by kernel_rfl) (by kernel_rfl) (by kernel_rfl)
theorem witness(os:Os){H:Type}(enc:TypeId×Value->H):∃ places,DataW.whole enc Tryz.prog ((rI os).forCall (fun _ _=>0) ⟨#[],vals,[]⟩).memory Tryz.f8.params.toList Rows.polyKnownSpec.vars false vals.toList 8=some ([],[],places):=
 ⟨[],by kernel_rfl⟩
theorem Kk{W:World}(h:laidMetH Tryz.prog Rows.polyKnownRow.laid W)(hs:W.ShapedOpen Tryz.prog):aA (kz W):=by
 have hL:laidMet Tryz.prog Rows.polyKnownRow.laid W:=h;exact⟨fun w hw=>IM (laidMet.tail (laidMet.tail hL)) w hw,IP hs⟩
theorem lifted(os:Os)(started:os.Started)(H:Type)(enc:TypeId×Value->H)(F:Stop.Interp):
  ReturnsInHanded {} Tryz.checked os 8 .any ((OpenSpec.ofChange Rows.polyKnownSpec).preRow enc Tryz.prog Tryz.f8 Rows.polyKnownRow.domain false Rows.polyKnownRow.laid) (((OpenSpec.ofChange Rows.polyKnownSpec).at F).post enc Tryz.prog Tryz.f8 false true false false):=by
 obtain⟨places,hx⟩:=witness os enc;refine returnsInHanded_of_row (C:=Tryz.checked) (s:=OpenSpec.ofChange Rows.polyKnownSpec) own started (by kernel_rfl) Tryz.func8
  (witness_row_at (enc:=enc) (C:=Tryz.checked) false (rI os) vals rfl (by kernel_rfl) (by kernel_rfl) (by kernel_rfl)
   (OpenSpec.preRow_of_cond 8 hx (by kernel_rfl) (fun k hk=>by cases hk) (by kernel_rfl) (met os))) ?_
 intro W base args ds gs before hval hW _ _ _ hL hSh _;exact vA (ts:=tys) (con:=vz) reads Kj J7 spec (fun x h=>by obtain⟨⟨⟩⟩:=x;obtain⟨-⟩:=h;exact⟨_,rfl,trivial⟩) (D3 (Kk hL hSh)) hval hW
theorem said:Rows.PolyKnownSaid:=
 OpenClaim.holds_of_cond 8 Tryz.f8 rfl rfl rfl rfl rfl rfl rfl ⟨rfl,rfl,rfl,rfl,rfl⟩ rfl rfl rfl rfl rfl (by kernel_rfl) Tryz.func8 (by kernel_rfl)
  (of_decide_eq_true (by kernel_rfl)) (by unfold Func.isWrapper;first|(rw[if_pos (by decide+kernel)];kernel_rfl)|(rw[if_neg (by decide+kernel)];exact⟨rfl,rfl⟩))
  (fun os started H enc _ F=>by rw[OpenClaim.pre_eq_preRow];exact lifted os started H enc F)
theorem plain(f:FuncId)(fn:Func)(hf:Tryz.pinned.checked.prog.funcNamed "croupier/croupierlaw04.PolyKnown"=some f)(hfn:Tryz.pinned.checked.prog.funcs[f]? =some fn):
  true=Tryz.pinned.checked.prog.looks []/\∀ (j:Nat) t,fn.params[j]? =some t->Tryz.pinned.checked.prog.wantsStandIn t=false:=by
 obtain rfl:f=8:=Option.some.inj ((show Tryz.prog.funcNamed "croupier/croupierlaw04.PolyKnown"=some 8 by kernel_rfl).symm.trans hf)|>.symm;obtain rfl:fn=Tryz.f8:=(Option.some.inj (Tryz.func8.symm.trans hfn)).symm;refine⟨by kernel_rfl,fun j t ht=> ?_⟩;have hall:Tryz.f8.params.toList.all (fun t=> !Tryz.prog.wantsStandIn t)=true:=by kernel_rfl
 have:=List.all_eq_true.1 hall t (by simpa using Array.mem_of_getElem? ht);exact(by simpa using this:Tryz.prog.wantsStandIn t=false)
theorem card:Rows.PolyKnownCardSaid:=
 Claim7.holds_tied_plain_at .later [] _ _ _ _ said (fun _ h=>by cases h) (by kernel_rfl) (fun _ h=>by cases h) polyKnown_row_tie rfl ⟨rfl,rfl⟩ (by kernel_rfl) rfl plain (by kernel_rfl)
end Go.Proofs.YtdojbabpnaifoaaGreatDoor.polyKnown
end