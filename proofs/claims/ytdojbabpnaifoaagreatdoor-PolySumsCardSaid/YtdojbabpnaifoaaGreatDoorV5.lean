/- Merged by a program out of several texts. -/
import Derived.Test.YtdojbabpnaifoaaGreatDoorV3
import Derived.Test.YtdojbabpnaifoaaGreatDoorV2
import Derived.Test.YtdojbabpnaifoaaGreatDoorProg
import Derived.Test.YtdojbabpnaifoaaGreatDoorV4
import Derived.Deep.LoopGhost
import Derived.Lib.Walk
import Derived.Lib.SliceRun
import Derived.KernelRfl
set_option linter.all false
set_option linter.unusedSimpArgs false
set_option linter.unusedVariables false
set_option maxRecDepth 100000
section
namespace Go.Proofs.YtdojbabpnaifoaaGreatDoor
open Go Go.Cm Go.Proofs
def xS(B:aj):Tab:={types:= [(3,(.int .i64)),(4,.bool),(9,.str),(181,(.slice (.int .i64)))],elems:= [],cons:= [(126,pG),(155,eQ),(156,fO),(157,cD),(158,eU),(159,xz),(160,fh),(161,lE)],hint:= [],N:=53,base:=B}
theorem FM{B:aj}(hB:aB B):aG Tryz.prog (xS B):=⟨⟨tc ty3 (tc ty4 (tc ty9 (tc iO (ae)))),af,by simp only[xS,ioB];omega⟩,aE (cc Tryz.func126 (kR hB) (cc Tryz.func155 (nr hB) (cc Tryz.func156 (jC hB) (cc Tryz.func157 (jB hB) (cc Tryz.func158 (kQ hB) (cc Tryz.func159 (L0 hB) (cc Tryz.func160 (uf hB) (cc Tryz.func161 (Ab hB) (aA))))))))),by kernel_rfl⟩
def vU:Con:=fun l os=>match l,os with
 | [.z .str a,.z .str b],[]=>some (RS 20000000000 a/\RS 20000000000 b,[.z .str (Lib.itoa (an a+an b))],[])
 |_,_=>none
theorem Aj{B:aj}(hB:aB B):Valid B Tryz.prog 115 vU:=by
 refine ab (FM hB).tab Tryz.func115 rfl rfl rfl ?_;intro args os C rs os' hc hC;unfold vU at hc;split at hc;case h_2=>cases hc
 rename_i a b;cases hc;refine v_h (FM hB) fun X hP hT hr hG=> ?_;have hU:=xS.eq_1;unfold xS at hT;have hX:=ai @fh.eq_1<|ai @eQ.eq_1<|ai @lE.eq_1<|ai @cD.eq_1<|ai @pG.eq_1<|ai @xz.eq_1<|ai @fO.eq_1<| @eU.eq_1;simp only[Tryz.f115,aC,al,ioB];refine s_g hG ?_;refine ak (s_q hG ?_ ?_)
 ·try simp only[ba]
  exact⟨hC.1.1,hC.2.1,(hC.1.cap (by omega)).2,(hC.2.cap (by omega)).2⟩
 refine s_g hG ?_;refine ao ?_ ?_
 ·intro hb0;simp only[decide_eq_true_eq] at hb0;have hsm:=th hC.1.1 hC.2.1 hb0;rw[if_pos hb0,if_pos hb0];refine s_q hG ?_ ?_
  ·(try simp only[ba]);rw[hsm.1];exact hsm.2.1
  refine ay (aw ?_);refine q_e [] ?_;rw[hsm.1]
 ·intro hb0;have ha:=hC.1.cap (by omega);have hb:=hC.2.cap (by omega);have la:=dK hC.1;have lb:=dK hC.2;have hle:=En hC.1 hC.2;have hcap:CAP=1000000000000:=rfl;refine aq (ah ?_);refine s_q hG ?_ ?_
  ·(try simp only[ba]);exact⟨ha,hb⟩
  refine ak (s_q hG ?_ ?_)
  ·(try simp only[ba]);exact⟨ha.1,hb.1⟩
  refine ao ?_ ?_
  ·intro hb1;(try simp only[bt] at hb1);refine s_q hG ?_ ?_
   ·(try simp only[ba]);exact⟨ha.1,⟨la.1,lb.1,by omega,by omega⟩,D.limbs_can _,hle.1⟩
   refine ay (aw ?_);refine q_e [] ?_;exact GZ hb1
  ·intro hb1;(try simp only[bf] at hb1);refine aq (ah ?_);refine ak (s_q hG ?_ ?_)
   ·(try simp only[ba]);exact⟨la.1,lb.1,by omega,by omega⟩
   refine ao ?_ ?_
   ·intro hb2;(try simp only[bt] at hb2);refine s_q hG ?_ ?_
    ·(try simp only[ba]);have hge:=Eo hb1 hb2;exact⟨ha.1,⟨la.1,lb.1,hge.1,by omega⟩,D.limbs_can _,hle.2.1⟩
    refine ay (aw ?_);refine q_e [] ?_;exact(Eo hb1 hb2).2
   ·intro hb2;(try simp only[bf] at hb2);refine aq (ah ?_);refine s_q hG ?_ ?_
    ·(try simp only[ba]);have hlt:=Ep hb1 hb2;exact⟨hb.1,⟨lb.1,la.1,hlt.1,by omega⟩,D.limbs_can _,hle.2.2.1⟩
    refine ay (q_e [] ?_);exact(Ep hb1 hb2).2
def xT(B:aj):Tab:={types:= [(9,.str)],elems:= [],cons:= [(115,vU),(163,vT)],hint:= [],N:=9,base:=B}
theorem FN{B:aj}(hB:aB B):aG Tryz.prog (xT B):=⟨⟨tc ty9 (ae),af,by simp only[xT,ioB];omega⟩,aE (cc Tryz.func115 (Aj hB) (cc Tryz.func163 (Ag hB) (aA))),by kernel_rfl⟩
def FO:Con:=fun l os=>match l,os with
 | [.z .str a,.z .str b],[]=>some (RS 10000000000 a/\RS 10000000000 b,[.z .str (Lib.itoa (an a-an b))],[])
 |_,_=>none
theorem Mq{B:aj}(hB:aB B):Valid B Tryz.prog 123 FO:=by
 refine ab (FN hB).tab Tryz.func123 rfl rfl rfl ?_;intro args os C rs os' hc hC;unfold FO at hc;split at hc;case h_2=>cases hc
 rename_i a b;cases hc;refine v_h (FN hB) fun X hP hT hr hG=> ?_;have hU:=xT.eq_1;unfold xT at hT;have hX:=ai @vU.eq_1<| @vT.eq_1;simp only[Tryz.f123,aC,al,ioB];refine s_g hG ?_;refine s_q hG ?_ ?_
 ·try simp only[ba]
  have h2:=hC.2.2;exact⟨⟨hC.2.1,by have hcap:CAP=1000000000000:=rfl;omega⟩,hC.1.up (by omega),(Ph hC.2).1.up (by omega)⟩
 refine ay (q_e [] ?_);exact Nj
def xU(B:aj):Tab:={types:= [(3,(.int .i64)),(4,.bool),(9,.str),(181,(.slice (.int .i64)))],elems:= [],cons:= [(126,pG),(155,eQ),(156,fO),(157,cD),(158,eU),(164,lF)],hint:= [],N:=31,base:=B}
theorem FP{B:aj}(hB:aB B):aG Tryz.prog (xU B):=⟨⟨tc ty3 (tc ty4 (tc ty9 (tc iO (ae)))),af,by simp only[xU,ioB];omega⟩,aE (cc Tryz.func126 (kR hB) (cc Tryz.func155 (nr hB) (cc Tryz.func156 (jC hB) (cc Tryz.func157 (jB hB) (cc Tryz.func158 (kQ hB) (cc Tryz.func164 (Ac hB) (aA))))))),by kernel_rfl⟩
def pz:Con:=fun l os=>match l,os with
 | [.z .str a,.z .str b],[]=>some (RS 20000000000 a/\RS 20000000000 b,[.z .str (Lib.itoa (an a*an b))],[])
 |_,_=>none
theorem ui{B:aj}(hB:aB B):Valid B Tryz.prog 117 pz:=by
 refine ab (FP hB).tab Tryz.func117 rfl rfl rfl ?_;intro args os C rs os' hc hC;unfold pz at hc;split at hc;case h_2=>cases hc
 rename_i a b;cases hc;refine v_h (FP hB) fun X hP hT hr hG=> ?_;have hU:=xU.eq_1;unfold xU at hT;have hX:=ai @eQ.eq_1<|ai @cD.eq_1<|ai @pG.eq_1<|ai @fO.eq_1<|ai @lF.eq_1<| @eU.eq_1;simp only[Tryz.f117,aC,al,ioB];refine s_g hG ?_;refine ak (s_q hG ?_ ?_)
 ·try simp only[ba]
  exact⟨hC.1.1,hC.2.1,(hC.1.cap (by omega)).2,(hC.2.cap (by omega)).2⟩
 refine s_g hG ?_;refine ao ?_ ?_
 ·intro hb0;simp only[decide_eq_true_eq] at hb0;have hsm:=th hC.1.1 hC.2.1 hb0;rw[if_pos hb0,if_pos hb0];refine s_q hG ?_ ?_
  ·(try simp only[ba]);rw[hsm.2.2.1];exact hsm.2.2.2
  refine ay (aw ?_);refine q_e [] ?_;rw[hsm.2.2.1]
 ·intro hb0;have ha:=hC.1.cap (by omega);have hb:=hC.2.cap (by omega);have la:=dK hC.1;have lb:=dK hC.2;have hle:=En hC.1 hC.2;have hcap:CAP=1000000000000:=rfl;refine aq (ah ?_);refine s_q hG ?_ ?_
  ·(try simp only[ba]);exact⟨ha.1,hb.1,ha,hb,⟨la.1.1,lb.1.1.wid,by omega⟩,D.limbs_can _,hle.2.2.2⟩
  refine ay (q_e [] ?_);exact Nk
def xV(B:aj):Tab:={types:= [(3,(.int .i64)),(4,.bool),(9,.str),(181,(.slice (.int .i64)))],elems:= [],cons:= [(117,pz),(123,FO),(126,pG),(155,eQ),(156,fO),(157,cD),(158,eU),(165,jD)],hint:= [],N:=78,base:=B}
theorem FQ{B:aj}(hB:aB B):aG Tryz.prog (xV B):=⟨⟨tc ty3 (tc ty4 (tc ty9 (tc iO (ae)))),af,by simp only[xV,ioB];omega⟩,aE (cc Tryz.func117 (ui hB) (cc Tryz.func123 (Mq hB) (cc Tryz.func126 (kR hB) (cc Tryz.func155 (nr hB) (cc Tryz.func156 (jC hB) (cc Tryz.func157 (jB hB) (cc Tryz.func158 (kQ hB) (cc Tryz.func165 (Ai hB) (aA))))))))),by kernel_rfl⟩
def FR:Con:=fun l os=>match l,os with
 | [.z .str a,.z .str b],[]=>some (RS 1000000000 a/\RS 1000000000 b/\an b≠0,[.z .str (Lib.itoa (bP (an a) (an b))),.z .str (Lib.itoa (jb (an a) (an b)))],[])
 |_,_=>none
theorem Mr{B:aj}(hB:aB B):Valid B Tryz.prog 121 FR:=by
 refine ab (FQ hB).tab Tryz.func121 rfl rfl rfl ?_;intro args os C rs os' hc hC;unfold FR at hc;split at hc;case h_2=>cases hc
 rename_i a b;cases hc;refine v_h (FQ hB) fun X hP hT hr hG=> ?_;have hU:=xV.eq_1;unfold xV at hT;have hX:=ai @jD.eq_1<|ai @eQ.eq_1<|ai @pz.eq_1<|ai @cD.eq_1<|ai @pG.eq_1<|ai @fO.eq_1<|ai @FO.eq_1<| @eU.eq_1;simp only[Tryz.f121,aC,al,ioB];refine s_g hG ?_;refine ak (s_q hG ?_ ?_)
 ·try simp only[ba]
  exact⟨hC.1.1,hC.2.1.1,(hC.1.cap (by omega)).2,(hC.2.1.cap (by omega)).2⟩
 refine s_g hG ?_;refine ao ?_ ?_
 ·intro hb0;simp only[decide_eq_true_eq] at hb0;rw[if_pos hb0,if_pos hb0];have hsm:=CL hC.1.1 hC.2.1.1 hb0 hC.2.2;refine s_q hG ?_ ?_
  ·(try simp only[ba]);exact hC.2.2
  refine cd (fun(z:Unit)=>(⟨[(0,.l (.z .str a)),(1,.l (.z .str b)),(6,.l (.z (.int .i64) (an a))),(7,.l (.z (.int .i64) (an b))),(9,.l (.z (.int .i64) (bP (an a) (an b))))],[]⟩:aa)) (fun z=>True) ?_ ?_
  ·refine s_q hG ?_ ?_
   ·(try simp only[ba]);exact⟨hC.2.2,fun h=>h⟩
   refine ao ?_ ?_
   ·(intro hb1;(try simp only[bt] at hb1);refine ag hG ?_ ?_;·first|trivial|omega|(simp;done)|(simp;omega));show ∃ z,_;refine q_l ?_;first|exact hsm.1 hb1|exact hsm.2.1 hb1
   ·intro hb1;(try simp only[bf] at hb1);refine aq ?_;show ∃ z,_;refine q_l ?_;first|exact hsm.1 hb1|exact hsm.2.1 hb1
  rintro⟨⟩ hu;try dsimp only at hu
  refine s_q hG ?_ ?_
  ·(try simp only[ba]);rw[hsm.2.2.2.1];exact⟨hsm.2.2.1,hsm.2.2.2.2⟩
  refine ay (aw ?_);refine q_e [] ?_;rw[hsm.2.2.2.1]
 ·intro hb0;obtain⟨c1,c2,c3⟩:=hC;have ha:=c1.cap (by omega);have hb:=c2.cap (by omega);have la:=dK c1;have lb:=dK c2;have hln:=Kb (an a) (an b);have hrq:=PZ (b:=b) c1 c3;have hrm:=P0 c1 c2 c3;have hcap:CAP=1000000000000:=rfl;have hqf:=ti (x:=an a) c3;refine aq (ah ?_);refine s_q hG ?_ ?_
  ·(try simp only[ba]);exact⟨ha,hb,la.1,lb.1,D.ne_limbs c3,by omega⟩
  refine s_q hG ?_ ?_
  ·(try simp only[ba]);exact⟨ha.1,hb.1,D.limbs_can _,by omega⟩
  refine cd (fun(z:Unit)=>(⟨[(0,.l (.z .str a)),(1,.l (.z .str b)),(12,.l (.z .str (Lib.itoa (bP (an a) (an b)))))],[]⟩:aa)) (fun z=>True) ?_ ?_
  ·refine s_q hG ?_ ?_
   ·(try simp only[ba]);exact⟨fun h=>⟨h,c1.1⟩,fun h=>⟨h,c2.1⟩,fun h=>h⟩
   refine ao ?_ ?_
   ·intro hb2;(try simp only[bt] at hb2);refine ag hG ?_ ?_
    ·(try simp only[ba]);exact⟨hrq.1.up (by omega),CK.1.up (by omega)⟩
    show ∃ z,_;refine q_l ?_;rw[vj] at hb2;first|(rw[<- hqf.2.1 hb2,CK.2,(bc _).2];rfl)|(rw[<- hqf.2.2 hb2];rfl)
   ·intro hb2;(try simp only[bf] at hb2);refine aq ?_;show ∃ z,_;refine q_l ?_;rw[vj] at hb2;first|(rw[<- hqf.2.1 hb2,CK.2,(bc _).2];rfl)|(rw[<- hqf.2.2 hb2];rfl)
  rintro⟨⟩ hu2;try dsimp only at hu2
  refine s_q hG ?_ ?_
  ·(try simp only[ba]);rw[(bc _).2];exact⟨⟨hrq.2.up (by omega),c2.up (by omega)⟩,c1.up (by omega),hrm.up (by omega)⟩
  refine ay (q_e [] ?_);rw[(bc _).2,(bc _).2,Int.mul_comm];rfl
def xW(B:aj):Tab:={types:= [(3,(.int .i64)),(4,.bool),(9,.str),(181,(.slice (.int .i64)))],elems:= [],cons:= [(126,pG),(155,eQ),(156,fO),(158,eU),(165,jD)],hint:= [],N:=50,base:=B}
theorem FS{B:aj}(hB:aB B):aG Tryz.prog (xW B):=⟨⟨tc ty3 (tc ty4 (tc ty9 (tc iO (ae)))),af,by simp only[xW,ioB];omega⟩,aE (cc Tryz.func126 (kR hB) (cc Tryz.func155 (nr hB) (cc Tryz.func156 (jC hB) (cc Tryz.func158 (kQ hB) (cc Tryz.func165 (Ai hB) (aA)))))),by kernel_rfl⟩
def vV:Con:=fun l os=>match l,os with
 | [.z .str a,.z .str b],[]=>some (RS 1000000000 a/\RS 1000000000 b,[.z .str (Lib.itoa (cw (an a) (an b)))],[])
 |_,_=>none
theorem Ak{B:aj}(hB:aB B):Valid B Tryz.prog 122 vV:=by
 refine ab (FS hB).tab Tryz.func122 rfl rfl rfl ?_;intro args os C rs os' hc hC;unfold vV at hc;split at hc;case h_2=>cases hc
 rename_i a b;cases hc;refine v_h (FS hB) fun X hP hT hr hG=> ?_;have hU:=xW.eq_1;unfold xW at hT;have hX:=ai @jD.eq_1<|ai @eQ.eq_1<|ai @pG.eq_1<|ai @fO.eq_1<| @eU.eq_1;simp only[Tryz.f122,aC,al,ioB];refine s_g hG ?_;refine ak (s_q hG ?_ ?_)
 ·try simp only[ba]
  exact⟨hC.1.1,hC.2.1,(hC.1.cap (by omega)).2,(hC.2.cap (by omega)).2⟩
 refine s_g hG ?_;refine ao ?_ ?_
 ·intro hb0;simp only[decide_eq_true_eq] at hb0;rw[if_pos hb0,if_pos hb0];have ha:=gX hC.1.1 hb0.1;have hb:=gX hC.2.1 hb0.2;refine ak (av ?_);refine bj (fun(z:Int×Int)=>(⟨[(0,.l (.z .str a)),(1,.l (.z .str b)),(5,.l (.z (.int .i64) z.1)),(6,.l (.z (.int .i64) z.2))],[]⟩:aa)) (fun z=>vk (cw (an a) (an b)) z.1 z.2) (fun z=>z.2.natAbs) (an a,an b) ?_ ?_ ?_;·simp only[ml0,ml1,Nat.reduceLT,Nat.reduceEqDiff,Nat.reduceAdd,Nat.reduceMul,Nat.reduceSub,Nat.reduceLeDiff,Nat.reduceBEq,Nat.reduceBNe,reduceIte,reduceDIte,reduceCtorEq]
  ·exact Kd ha hb
  ·rintro⟨x,y⟩ hz;(try dsimp only at hz);refine ak (s_g hG ?_);refine ao ?_ ?_
   ·intro hb1;(try simp only[bt] at hb1);refine aq (ah ?_);refine av (s_q hG ?_ ?_)
    ·(try simp only[ba]);exact hb1
    (refine s_g hG ?_;refine ag hG ?_ ?_;·first|trivial|omega|(simp;done)|(simp;omega));refine aI ?_;show ∃ z,_;refine q_l ?_;exact Nl hz hb1
   ·intro hb1;(try simp only[bf] at hb1);refine bd (aD ?_);refine az (ax ?_);refine ah (s_q hG ?_ ?_)
    ·(try simp only[ba]);subst hb1;exact(Kf hz).1
    refine ay (aw ?_);refine q_e [] ?_;subst hb1;rw[(Kf hz).2]
 ·intro hb0;obtain⟨c1,c2⟩:=hC;have ha:=c1.cap (by omega);have hb:=c2.cap (by omega);have la:=dK c1;have lb:=dK c2;have hcap:CAP=1000000000000:=rfl;refine aq (ah ?_);refine s_q hG ?_ ?_
  ·(try simp only[ba]);exact⟨ha,hb⟩
  refine ak (av ?_);refine bj (fun(z:List Int×List Int)=>(⟨[(9,.l (.z (.slice (.int .i64)) z.1)),(10,.l (.z (.slice (.int .i64)) z.2))],[]⟩:aa)) (fun z=>zo (cw (an a) (an b)) z.1 z.2) (fun z=>(D.valL z.2).natAbs) (D.limbs (an a).natAbs,D.limbs (an b).natAbs) ?_ ?_ ?_;·simp only[ml0,ml1,Nat.reduceLT,Nat.reduceEqDiff,Nat.reduceAdd,Nat.reduceMul,Nat.reduceSub,Nat.reduceLeDiff,Nat.reduceBEq,Nat.reduceBNe,reduceIte,reduceDIte,reduceCtorEq]
  ·exact Ke c1 c2
  ·rintro⟨x,y⟩ hz;(try dsimp only at hz);refine ak (s_g hG ?_);refine ao ?_ ?_
   ·intro hb2;(try simp only[bt] at hb2);refine aq (ah ?_);refine av (s_q hG ?_ ?_)
    ·(try simp only[ba]);have lx:=hz.lx;have ly:=hz.ly;exact⟨hz.hx,hz.hy,(by rintro rfl;simp at hb2),by omega⟩
    (refine s_g hG ?_;refine ag hG ?_ ?_;·first|trivial|omega|(simp;done)|(simp;omega));refine aI ?_;show ∃ z,_;refine q_l ?_;exact Nm hz hb2
   ·intro hb2;(try simp only[bf] at hb2);refine bd (aD ?_);refine az (ax ?_);refine ah (s_q hG ?_ ?_)
    ·(try simp only[ba]);have lx:=hz.lx;exact⟨hz.hx,by omega⟩
    refine ay (q_e [] ?_);rw[Pj hz hb2]
def pX(B:aj):Tab:={types:= [(3,(.int .i64)),(5,(.int .u8)),(9,.str)],elems:= [],cons:= [],hint:= [],N:=24,base:=B}
theorem Al{B:aj}(hB:aB B):aG Tryz.prog (pX B):=⟨⟨tc ty3 (tc ty5 (tc ty9 (ae))),af,by simp only[pX,ioB];omega⟩,bG rfl,by kernel_rfl⟩
def vW:Con:=fun l os=>match l,os with
 | [.z .str s],[]=>some (s.length<=QL,[.z .str (tN s),.z .str (tD s),.z .bool (bE s)],[])
 |_,_=>none
theorem vX{B:aj}(hB:aB B):Valid B Tryz.prog 134 vW:=by
 refine ab (Al hB).tab Tryz.func134 rfl rfl rfl ?_;intro args os C rs os' hc hC;unfold vW at hc;split at hc;case h_2=>cases hc
 rename_i s;cases hc;refine v_h (Al hB) fun X hP hT hr hG=> ?_;have hU:=pX.eq_1;unfold pX at hT;have hX:=Bool.not_true;simp only[Tryz.f134,aC,al,ioB];have hl:s.length<=1000000000:=hC;refine s_g hG ?_;refine ak (s_g hG ?_);refine av (bj (fun(z:Nat)=>(⟨[(0,.l (.z .str s)),(2,.l (.z .str [])),(3,.l (.z .str [])),(4,.l (.z .bool false)),(5,.l (.z (.int .i64) (z:Int)))],[]⟩:aa)) (fun z=>z<=s.length/\(s.take z).all (· !=47)=true) (fun z=>s.length-z) 0 ?_ ?_ ?_);·refine q_l ?_;rfl
 ·exact⟨by omega,by simp⟩
 ·rintro k ⟨g1,g2⟩;try dsimp only at g1 g2
  refine ak (s_g hG ?_);refine ao ?_ ?_
  ·intro hb0;(try simp only[bt] at hb0);(have hk:k<s.length:=by have h9:(k:Int)<(s.length:Int):=hb0;omega);refine aq (ah ?_);refine ak (av ?_);refine s_g hG ?_;refine ao ?_ ?_
   ·intro hb1;(try simp only[bt] at hb1);refine s_d hG ?_ ?_
    ·(try simp only[ba]);exact HI hl hk
    refine ay (bg ?_);refine aw (cR ?_);refine bg (aw ?_);refine q_e [] ?_;exact zS hl hk g2 (ES.1 hb1)
   ·(intro hb1;(try simp only[bf] at hb1);refine aq (aI ?_);refine ah (ag hG ?_ ?_);·first|trivial|omega|(simp;done)|(simp;omega));show ∃ z,_;refine q_l ?_;exact⟨k+1,wo,hk,Hy hk g2 (fun e=>hb1 (ES.2 e)),by omega⟩
  ·intro hb0;(try simp only[bf] at hb0);(have hk: ¬k<s.length:=by have h9: ¬ (k:Int)<(s.length:Int):=hb0;omega);refine bd (aD ?_);refine az (ax ?_);refine ah (s_g hG ?_);refine ay (q_e [] ?_);exact Ln hk g2
def pY(B:aj):Tab:={types:= [(3,(.int .i64)),(9,.str)],elems:= [],cons:= [(122,vV),(134,vW),(135,pW),(136,FH)],hint:= [],N:=33,base:=B}
theorem Am{B:aj}(hB:aB B):aG Tryz.prog (pY B):=⟨⟨tc ty3 (tc ty9 (ae)),af,by simp only[pY,ioB];omega⟩,aE (cc Tryz.func122 (Ak hB) (cc Tryz.func134 (vX hB) (cc Tryz.func135 (Mo hB) (cc Tryz.func136 (Mp hB) (aA))))),by kernel_rfl⟩
def pZ:Con:=fun l os=>match l,os with
 | [.z .str q],[]=>some (q.length<=QL,[.z .bool (decide (cb q≠5))],[])
 |_,_=>none
theorem H4{B:aj}(hB:aB B):Valid B Tryz.prog 91 pZ:=by
 refine ab (Am hB).tab Tryz.func91 rfl rfl rfl ?_;intro args os C rs os' hc hC;unfold pZ at hc;split at hc;case h_2=>cases hc
 rename_i q;cases hc;refine v_h (Am hB) fun X hP hT hr hG=> ?_;have hU:=pY.eq_1;unfold pY at hT;have hX:=ai @vW.eq_1<|ai @FH.eq_1<|ai @vV.eq_1<| @pW.eq_1;simp only[Tryz.f91,aC,al,ioB];refine s_g hG ?_;refine s_q hG ?_ ?_
 ·try simp only[ba]
  exact hC
 refine ak (s_q hG ?_ ?_)
 ·try simp only[ba]
  exact zT hC
 refine ao ?_ ?_;·intro hb0;have hF:=Lw hb0;refine s_g hG ?_;refine ay (aw ?_);refine q_e [] ?_;exact Df hF
 ·intro hb0;have hF:=Lx hb0;refine aq (ah ?_);refine s_q hG ?_ ?_
  ·(try simp only[ba]);exact zU hC hF
  refine ay (q_e [] ?_);exact HB hF
def p6(B:aj):Tab:={types:= [(9,.str)],elems:= [],cons:= [(134,vW)],hint:= [],N:=15,base:=B}
theorem An{B:aj}(hB:aB B):aG Tryz.prog (p6 B):=⟨⟨tc ty9 (ae),af,by simp only[p6,ioB];omega⟩,aE (cc Tryz.func134 (vX hB) (aA)),by kernel_rfl⟩
def iV:Con:=fun l os=>match l,os with
 | [.z .str q],[]=>some (q.length<=QL,[.z .str (tN q),.z .str (tD q)],[])
 |_,_=>none
theorem ov{B:aj}(hB:aB B):Valid B Tryz.prog 92 iV:=by
 refine ab (An hB).tab Tryz.func92 rfl rfl rfl ?_;intro args os C rs os' hc hC;unfold iV at hc;split at hc;case h_2=>cases hc
 rename_i q;cases hc;refine v_h (An hB) fun X hP hT hr hG=> ?_;have hU:=p6.eq_1;unfold p6 at hT;have hX:= @vW.eq_1;simp only[Tryz.f92,aC,al,ioB];refine s_g hG ?_;refine s_q hG ?_ ?_
 ·try simp only[ba]
  exact hC
 refine s_g hG ?_;refine ay (q_e [] ?_);trivial
def p7(B:aj):Tab:={types:= [(3,(.int .i64)),(9,.str),(46,.str)],elems:= [],cons:= [(92,iV),(93,nq)],hint:= [],N:=22,base:=B}
theorem Ao{B:aj}(hB:aB B):aG Tryz.prog (p7 B):=⟨⟨tc ty3 (tc ty9 (tc jc (ae))),af,by simp only[p7,ioB];omega⟩,aE (cc Tryz.func92 (ov hB) (cc Tryz.func93 (L1 hB) (aA))),by kernel_rfl⟩
def ow:Con:=fun l os=>match l,os with
 | [.z .str q,.z (.int .i64) k],[]=>some (eA q,[.z .bool (decide (cS (an (tN q))<=k/\cS (an (tD q))<=k))],[])
 |_,_=>none
theorem vY{B:aj}(hB:aB B):Valid B Tryz.prog 39 ow:=by
 refine ab (Ao hB).tab Tryz.func39 rfl rfl rfl ?_;intro args os C rs os' hc hC;unfold ow at hc;split at hc;case h_2=>cases hc
 rename_i q k;cases hc;refine v_h (Ao hB) fun X hP hT hr hG=> ?_;have hU:=p7.eq_1;unfold p7 at hT;have hX:=ai @iV.eq_1<| @nq.eq_1;simp only[Tryz.f39,aC,al,ioB];refine s_g hG ?_;refine s_q hG ?_ ?_
 ·try simp only[ba]
  exact hC.2.2
 refine s_q hG ?_ ?_
 ·try simp only[ba]
  exact Dg hC
 refine ay (q_e [] ?_);exact(Bool.decide_and _ _).symm
def p8(B:aj):Tab:={types:= [(3,(.int .i64)),(46,.str)],elems:= [],cons:= [(39,ow),(91,pZ)],hint:= [],N:=9,base:=B}
theorem Ap{B:aj}(hB:aB B):aG Tryz.prog (p8 B):=⟨⟨tc ty3 (tc jc (ae)),af,by simp only[p8,ioB];omega⟩,aE (cc Tryz.func39 (vY hB) (cc Tryz.func91 (H4 hB) (aA))),by kernel_rfl⟩
def p9:Con:=fun l os=>match l,os with
 | [.z .str q],[]=>some (q.length<=QL,[.z (.int .i64) (cb q)],[])
 |_,_=>none
theorem H5{B:aj}(hB:aB B):Valid B Tryz.prog 37 p9:=by
 refine ab (Ap hB).tab Tryz.func37 rfl rfl rfl ?_;intro args os C rs os' hc hC;unfold p9 at hc;split at hc;case h_2=>cases hc
 rename_i q;cases hc;refine v_h (Ap hB) fun X hP hT hr hG=> ?_;have hU:=p8.eq_1;unfold p8 at hT;have hX:=ai @ow.eq_1<| @pZ.eq_1;simp only[Tryz.f37,aC,al,ioB];refine s_g hG ?_;refine ak (s_q hG ?_ ?_)
 ·try simp only[ba]
  exact hC
 refine ao ?_ ?_
 ·intro hb0;try simp only[bt] at hb0
  refine s_g hG ?_;refine ay (aw ?_);refine q_e [] ?_;exact NW hb0
 ·intro hb0;try simp only[bf] at hb0
  refine aq (ah ?_);refine ak (s_q hG ?_ ?_)
  ·(try simp only[ba]);exact Dh hb0 hC
  refine ao ?_ ?_;·intro hb1;(try simp only[bt] at hb1);refine s_g hG ?_;refine ay (aw ?_);refine q_e [] ?_;exact NX hb0 hC hb1
  ·intro hb1;(try simp only[bf] at hb1);refine aq (ah ?_);refine s_g hG ?_;refine ay (q_e [] ?_);exact NY hb0 hC hb1
def qa(B:aj):Tab:={types:= [(3,(.int .i64)),(9,.str)],elems:= [],cons:= [(121,FR),(122,vV),(162,ou),(163,vT)],hint:= [],N:=33,base:=B}
theorem Aq{B:aj}(hB:aB B):aG Tryz.prog (qa B):=⟨⟨tc ty3 (tc ty9 (ae)),af,by simp only[qa,ioB];omega⟩,aE (cc Tryz.func121 (Mr hB) (cc Tryz.func122 (Ak hB) (cc Tryz.func162 (Ah hB) (cc Tryz.func163 (Ag hB) (aA))))),by kernel_rfl⟩
def kS:Con:=fun l os=>match l,os with
 | [.z .str n,.z .str d],[]=>some (MkR n d,[.z .str (bk (Rat.divInt (an n) (an d)))],[])
 |_,_=>none
theorem ox{B:aj}(hB:aB B):Valid B Tryz.prog 116 kS:=by
 refine ab (Aq hB).tab Tryz.func116 rfl rfl rfl ?_;intro args os C rs os' hc hC;unfold kS at hc;split at hc;case h_2=>cases hc
 rename_i n d;cases hc;refine v_h (Aq hB) fun X hP hT hr hG=> ?_;have hU:=qa.eq_1;unfold qa at hT;have hX:=ai @FR.eq_1<|ai @vV.eq_1<|ai @vT.eq_1<| @ou.eq_1;simp only[Tryz.f116,aC,al,ioB];refine s_g hG ?_;refine s_q hG ?_ ?_
 ·try simp only[ba]
  exact oe hC
 refine cd (fun(z:Unit)=>(⟨[(0,.l (.z .str n)),(1,.l (.z .str d)),(4,.l (.z .str [])),(5,.l (.z .str (Lib.itoa (dv (an n) (an d)))))],[]⟩:aa)) (fun z=>True) ?_ ?_
 ·refine s_q hG ?_ ?_
  ·(try simp only[ba]);exact hC.2.1.1
  refine ao ?_ ?_
  ·intro hb0;(try simp only[bt] at hb0);refine ag hG ?_ ?_
   ·(try simp only[ba]);exact HC hC
   show ∃ z,_;refine q_l ?_;first|exact EN (pS.1 hb0)|exact EO (fun e=>hb0 (pS.2 e))
  ·intro hb0;(try simp only[bf] at hb0);refine aq ?_;show ∃ z,_;refine q_l ?_;first|exact EN (pS.1 hb0)|exact EO (fun e=>hb0 (pS.2 e))
 rintro⟨⟩-;refine s_q hG ?_ ?_
 ·try simp only[ba]
  exact vM hC
 refine s_q hG ?_ ?_
 ·try simp only[ba]
  exact HD hC
 refine ak (s_g hG ?_);refine ao ?_ ?_
 ·intro hb1;try simp only[bt] at hb1
  refine s_g hG ?_;refine ay (aw ?_);refine q_e [] ?_;exact N0 hC hb1
 ·intro hb1;try simp only[bf] at hb1
  refine aq (ah ?_);refine s_q hG ?_ ?_
  ·(try simp only[ba]);exact HE hC
  refine ay (q_e [] ?_);exact N1 hC hb1
def qb(B:aj):Tab:={types:= [(3,(.int .i64)),(9,.str)],elems:= [],cons:= [(116,kS),(126,pG)],hint:= [],N:=10,base:=B}
theorem Ar{B:aj}(hB:aB B):aG Tryz.prog (qb B):=⟨⟨tc ty3 (tc ty9 (ae)),af,by simp only[qb,ioB];omega⟩,aE (cc Tryz.func116 (ox hB) (cc Tryz.func126 (kR hB) (aA))),by kernel_rfl⟩
def OG:Con:=fun l os=>match l,os with
 | [.z (.int .i64) n,.z (.int .i64) d],[]=>some (I64 n/\I64 d/\d≠0,[.z .str (bk (Rat.divInt n d))],[])
 |_,_=>none
theorem H6{B:aj}(hB:aB B):Valid B Tryz.prog 85 OG:=by
 refine ab (Ar hB).tab Tryz.func85 rfl rfl rfl ?_;intro args os C rs os' hc hC;unfold OG at hc;split at hc;case h_2=>cases hc
 rename_i n d;cases hc;refine v_h (Ar hB) fun X hP hT hr hG=> ?_;have hU:=qb.eq_1;unfold qb at hT;have hX:=ai @kS.eq_1<| @pG.eq_1;simp only[Tryz.f85,aC,al,ioB];refine s_g hG ?_;refine s_q hG ?_ ?_
 ·try simp only[ba]
  exact Lo hC
 refine ay (q_e [] ?_);exact N2
def qc(B:aj):Tab:={types:= [(9,.str),(46,.str)],elems:= [],cons:= [(92,iV),(115,vU),(116,kS),(117,pz)],hint:= [],N:=39,base:=B}
theorem As{B:aj}(hB:aB B):aG Tryz.prog (qc B):=⟨⟨tc ty9 (tc jc (ae)),af,by simp only[qc,ioB];omega⟩,aE (cc Tryz.func92 (ov hB) (cc Tryz.func115 (Aj hB) (cc Tryz.func116 (ox hB) (cc Tryz.func117 (ui hB) (aA))))),by kernel_rfl⟩
def FT:Con:=fun l os=>match l,os with
 | [.z .str a,.z .str b],[]=>some (GQ QK a/\GQ QK b,[.z .str (bk (bF a+bF b))],[])
 |_,_=>none
theorem H7{B:aj}(hB:aB B):Valid B Tryz.prog 62 FT:=by
 refine ab (As hB).tab Tryz.func62 rfl rfl rfl ?_;intro args os C rs os' hc hC;unfold FT at hc;split at hc;case h_2=>cases hc
 rename_i a b;cases hc;refine v_h (As hB) fun X hP hT hr hG=> ?_;have hU:=qc.eq_1;unfold qc at hT;have hX:=ai @kS.eq_1<|ai @iV.eq_1<|ai @vU.eq_1<| @pz.eq_1;simp only[Tryz.f62,aC,al,ioB];refine s_g hG ?_;refine s_q hG ?_ ?_
 ·try simp only[ba]
  exact EP hC.1
 refine s_q hG ?_ ?_
 ·try simp only[ba]
  exact EP hC.2
 refine ak (s_g hG ?_);refine ao ?_ ?_
 ·intro hb0;try simp only[bt] at hb0
  refine s_q hG ?_ ?_
  ·(try simp only[ba]);exact⟨(fN hC.1).1,(fN hC.2).1⟩
  refine ay (aw ?_);refine q_e [] ?_;exact Lp hC.1 hC.2 hb0
 ·intro hb0;try simp only[bf] at hb0
  refine aq (ah ?_);refine s_q hG ?_ ?_
  ·(try simp only[ba]);exact HF hC.1 hC.2
  refine ay (q_e [] ?_);exact Lr hC.1 hC.2
def qd(B:aj):Tab:={types:= [(9,.str),(46,.str)],elems:= [],cons:= [(92,iV),(116,kS),(117,pz)],hint:= [],N:=35,base:=B}
theorem At{B:aj}(hB:aB B):aG Tryz.prog (qd B):=⟨⟨tc ty9 (tc jc (ae)),af,by simp only[qd,ioB];omega⟩,aE (cc Tryz.func92 (ov hB) (cc Tryz.func116 (ox hB) (cc Tryz.func117 (ui hB) (aA)))),by kernel_rfl⟩
def FU:Con:=fun l os=>match l,os with
 | [.z .str a,.z .str b],[]=>some (GQ QK a/\GQ QK b,[.z .str (bk (bF a*bF b))],[])
 |_,_=>none
theorem H8{B:aj}(hB:aB B):Valid B Tryz.prog 84 FU:=by
 refine ab (At hB).tab Tryz.func84 rfl rfl rfl ?_;intro args os C rs os' hc hC;unfold FU at hc;split at hc;case h_2=>cases hc
 rename_i a b;cases hc;refine v_h (At hB) fun X hP hT hr hG=> ?_;have hU:=qd.eq_1;unfold qd at hT;have hX:=ai @kS.eq_1<|ai @iV.eq_1<| @pz.eq_1;simp only[Tryz.f84,aC,al,ioB];refine s_g hG ?_;refine s_q hG ?_ ?_
 ·try simp only[ba]
  exact EP hC.1
 refine s_q hG ?_ ?_
 ·try simp only[ba]
  exact EP hC.2
 refine ak (s_g hG ?_);refine ao ?_ ?_
 ·intro hb0;try simp only[bt] at hb0
  refine s_q hG ?_ ?_
  ·(try simp only[ba]);exact⟨(fN hC.1).1,(fN hC.2).1⟩
  refine ay (aw ?_);refine q_e [] ?_;exact Lq hC.1 hC.2 hb0
 ·intro hb0;try simp only[bf] at hb0
  refine aq (ah ?_);refine s_q hG ?_ ?_
  ·(try simp only[ba]);exact HG hC.1 hC.2
  refine ay (q_e [] ?_);exact Ls hC.1 hC.2
def qe(B:aj):Tab:={types:= [(3,(.int .i64)),(22,(.slice .str)),(46,.str)],elems:= [],cons:= [],hint:= [],N:=26,base:=B}
theorem Au{B:aj}(hB:aB B):aG Tryz.prog (qe B):=⟨⟨tc ty3 (tc eK (tc jc (ae))),af,by simp only[qe,ioB];omega⟩,bG rfl,by kernel_rfl⟩
def kT:Con:=fun l os=>match l,os with
 | [.z (.slice .str) p,.z (.slice .str) q],[]=>some (p.length<=QL/\q.length<=QL,[.z .bool (decide (p=q))],[])
 |_,_=>none
theorem oy{B:aj}(hB:aB B):Valid B Tryz.prog 28 kT:=by
 refine ab (Au hB).tab Tryz.func28 rfl rfl rfl ?_;intro args os C rs os' hc hC;unfold kT at hc;split at hc;case h_2=>cases hc
 rename_i p q;cases hc;refine v_h (Au hB) fun X hP hT hr hG=> ?_;have hU:=qe.eq_1;unfold qe at hT;have hX:=Bool.not_true;simp only[Tryz.f28,aC,al,ioB];have hl:p.length<=1000000000:=hC.1;refine s_g hG ?_;refine ak (s_g hG ?_);refine ao ?_ ?_
 ·intro hb0;try simp only[bt] at hb0
  refine s_g hG ?_;refine ay (aw ?_);refine q_e [] ?_;exact Lt hb0
 ·intro hb0;try simp only[bf] at hb0
  have he:p.length=q.length:=by have h9:(p.length:Int)=(q.length:Int):=hb0;omega
  refine aq (ah ?_);refine ak (s_g hG ?_);refine av (bj (fun(z:Nat)=>(⟨[(0,.l (.z (.slice .str) p)),(1,.l (.z (.slice .str) q)),(4,.l (.z .bool false)),(5,.l (.z (.int .i64) (z:Int)))],[]⟩:aa)) (fun z=>z<=p.length/\p.take z=q.take z) (fun z=>p.length-z) 0 ?_ ?_ ?_);·refine q_l ?_;rfl
  ·exact⟨by omega,rfl⟩
  ·rintro k ⟨g1,g2⟩;(try dsimp only at g1 g2);refine ak (s_g hG ?_);refine ao ?_ ?_
   ·intro hb1;(try simp only[bt] at hb1);(have hk:k<p.length:=by have h9:(k:Int)<(p.length:Int):=hb1;omega);refine aq (ah ?_);refine ak (av ?_);refine s_d hG ?_ ?_
    ·(try simp only[ba]);rw[<- he];exact⟨⟨by omega,hb1⟩,by omega,hb1⟩
    refine ao ?_ ?_;·intro hb2;(try simp only[bt] at hb2);refine s_g hG ?_;refine ay (bg ?_);refine aw (cR ?_);refine bg (aw ?_);refine q_e [] ?_;exact Lu hb2
    ·(intro hb2;(try simp only[bf] at hb2);refine aq (aI ?_);refine ah (ag hG ?_ ?_);·first|trivial|omega|(simp;done)|(simp;omega));show ∃ z,_;refine q_l ?_;exact⟨k+1,wo,hk,HH he hk g2 hb2,by omega⟩
   ·intro hb1;(try simp only[bf] at hb1);(have hk: ¬k<p.length:=by have h9: ¬ (k:Int)<(p.length:Int):=hb1;omega);refine bd (aD ?_);refine az (ax ?_);refine ah (s_g hG ?_);refine ay (q_e [] ?_);exact Lv he hk g2
def xX:Con:=i7 [some (.slice .str),some (.slice .str)] kT
theorem Du{B:aj}(hB:aB B):Valid B Tryz.prog 28 xX:=fe _ (oy hB)
def uj(B:aj):Tab:={types:= [(87,(.slice (.int .u32))),(161,(.int .u32)),(164,(.int .u64))],elems:= [(87,161)],cons:= [(193,vS)],hint:= [],N:=38,base:=B}
theorem Ms{B:aj}(hB:aB B):aG Tryz.prog (uj B):=⟨⟨tc ik (tc fH (tc mY (ae))),aQ (by kernel_rfl) (af),by simp only[uj,ioB];omega⟩,aE (cc Tryz.func193 (Fz hB) (aA)),by kernel_rfl⟩
def oz:Con:=fun l os=>match l,os with
 | [.z (.slice (.int .u32)) m,.z (.int .u32) b],[]=>some (Lim m/\y0 b/\m.length<CAP,[.z (.slice (.int .u32)) (padL (valL m/b).toNat m.length),.z (.int .u32) (valL m%b)],[])
 |_,_=>none
theorem OH{B:aj}(hB:aB B):Valid B Tryz.prog 189 oz:=by
 refine ab (Ms hB).tab Tryz.func189 rfl rfl rfl ?_;intro args os C rs os' hc hC;unfold oz at hc;split at hc;case h_2=>cases hc
 rename_i m b;cases hc;refine v_h (Ms hB) fun X hP hT hr hG=> ?_;have hU:=uj.eq_1;unfold uj at hT;have hX:= @vS.eq_1;simp only[Tryz.f189,aC,al,ioB];refine s_g hG ?_;refine s_q hG ?_ ?_
 ·try simp only[ba]
  exact⟨by omega,by omega,by have:=hC.2.2;unfold CAP at this;unfold Cm.Roomy;omega⟩
 refine s_g hG ?_;refine ak (s_g hG ?_);refine av (DZ hr (gf:=208) (caps:= [.z (.ptr (.slice (.int .u32))) m]) (items:=cW m) (by simp only[hT,uj,mx0,mx1,mx2,mx3,mx4,mx5,mx6,aT,bq,bI,aY,bp,Ty.fieldTy,Ty.fieldOf,Nat.reduceLT,Nat.reduceEqDiff,Nat.reduceAdd,Nat.reduceMul,Nat.reduceSub,Nat.reduceLeDiff,Nat.reduceBEq,Nat.reduceBNe,reduceIte,reduceDIte,reduceCtorEq];try rfl) (by rfl) (by rw[hP];exact zf m) (by rfl) [3,6,7] (by rfl) (by simp only[hT,uj];try rfl) (fun(k:Nat) (z:Int×List Int)=>(⟨[(3,.l (.z (.ptr (.int .u32)) b)),(6,.l (.ownP 6 0)),(7,.l (.ownP 7 0))],[(6,.box 87 [.ownS 13]),(7,.box 164 [.z (.int .u64) z.1]),(13,.arr (.int .u32) 161 z.2)]⟩:aa)) (fun(k:Nat) (z:Int×List Int)=>kz m b k z.1 z.2) (0,List.replicate (List.length m) 0) ?_ ?_ ?_ ?_ ?_);·simp only[ml0,ml1,Nat.reduceLT,Nat.reduceEqDiff,Nat.reduceAdd,Nat.reduceMul,Nat.reduceSub,Nat.reduceLeDiff,Nat.reduceBEq,Nat.reduceBNe,reduceIte,reduceDIte,reduceCtorEq];simp
 ·exact y5 hC.2.1
 ·intro k z;rfl
 ·intro k hk;rintro⟨r,out⟩ hz;try dsimp only at hz
  have hk:k<List.length m:=by simpa [cW] using hk
  refine⟨_,by simp only[hT,uj,cW,s8,mx0,mx1,mx2,mx3,mx4,mx5,mx6,aT,bq,bI,aY,bp,Ty.fieldTy,Ty.fieldOf,Nat.reduceLT,Nat.reduceEqDiff,Nat.reduceAdd,Nat.reduceMul,Nat.reduceSub,Nat.reduceLeDiff,Nat.reduceBEq,Nat.reduceBNe,reduceIte,reduceDIte,reduceCtorEq,List.getElem_map,List.getElem_range];rfl,?_⟩;intro X' hP' hT';have hG':aG X'.P X'.T:=by rw[hP',hT'];exact hG.keep _
  rw[hT] at hT';refine av (ak ?_);refine nH hG' ?_ ?_;·first|trivial|omega|(simp;done)|(simp;omega)
  refine ah (D0 hG' ?_ ?_)
  ·(try simp only[ba]);have hl:=hz.1;exact⟨Ea hC.2.1,Ea hC.2.1,by omega,by omega⟩
  refine aI ?_;show ∃ z,_;simp only[ml0,ml1,Nat.reduceLT,Nat.reduceEqDiff,Nat.reduceAdd,Nat.reduceMul,Nat.reduceSub,Nat.reduceLeDiff,Nat.reduceBEq,Nat.reduceBNe,reduceIte,reduceDIte,reduceCtorEq];exact Cu hC.1 hC.2.1 hk hz
 ·rintro⟨r,out⟩ hz;try dsimp only at hz
  rw[show List.length (cW m)=List.length m by simp[cW]] at hz;refine aI (ah ?_);refine s_d hG ?_ ?_;·first|trivial|omega|(simp;done)|(simp;omega)
  refine ay (q_e [13] ?_);exact GJ hC.1 hC.2.1 hz
def FV(B:aj):Tab:={types:= [(3,(.int .i64)),(87,(.slice (.int .u32))),(161,(.int .u32)),(164,(.int .u64))],elems:= [(87,161)],cons:= [],hint:= [],N:=41,base:=B}
theorem Mt{B:aj}(hB:aB B):aG Tryz.prog (FV B):=⟨⟨tc ty3 (tc ik (tc fH (tc mY (ae)))),aQ (by kernel_rfl) (af),by simp only[FV,ioB];omega⟩,bG rfl,by kernel_rfl⟩
def lG:Con:=fun l os=>match l,os with
 | [.z (.slice (.int .u32)) m,.z (.int .u32) b],[]=>some (Lim m/\y4 b/\m.length<CAP,[.own (.int .u32) 161 (padL (valL m*b).toNat (m.length+1))],[])
 |_,_=>none
theorem OI{B:aj}(hB:aB B):Valid B Tryz.prog 190 lG:=by
 refine ab (Mt hB).tab Tryz.func190 rfl rfl rfl ?_;intro args os C rs os' hc hC;unfold lG at hc;split at hc;case h_2=>cases hc
 rename_i m b;cases hc;refine v_h (Mt hB) fun X hP hT hr hG=> ?_;have hU:=FV.eq_1;unfold FV at hT;have hX:=Bool.not_true;simp only[Tryz.f190,aC,al,ioB];refine s_g hG ?_;refine s_q hG ?_ ?_
 ·try simp only[ba]
  have h1:List.length m<1000000000000:=hC.2.2;rw[wo];exact⟨by omega,by omega,by unfold Cm.Roomy;omega⟩
 refine s_g hG ?_;refine ak (s_g hG ?_);refine av (bj (fun(z:Nat×Int×List Int)=>(⟨[(1,.l (.z (.int .u32) b)),(5,.l (.ownS 13)),(6,.l (.z (.int .u64) z.2.1)),(14,.l (.z (.slice (.int .u32)) m)),(15,.l (.z (.int .i64) (List.length m:Int))),(16,.l (.z (.int .i64) (z.1:Int)))],[(13,.arr (.int .u32) 161 z.2.2)]⟩:aa)) (fun z=>jt m b z.1 z.2.1 z.2.2) (fun z=>List.length m-z.1) (0,0,[]) ?_ ?_ ?_);·refine q_l ?_;exact⟨rfl,rfl⟩
 ·exact wX
 ·rintro⟨k,c,out⟩ hz;try dsimp only at hz
  refine s_g hG ?_;refine ak (ao ?_ ?_)
  ·intro hb0;(try simp only[bt] at hb0);refine aq (ah ?_);refine ak (av ?_);refine s_q hG ?_ ?_
   ·(try simp only[ba]);exact⟨by omega,hb0⟩
   refine s_g hG ?_;refine ag hG ?_ ?_
   ·(try simp only[ba]);have h1:List.length m<1000000000000:=hC.2.2;have h2:=hz.2.1;exact⟨by decide,by unfold Cm.Roomy;omega,by decide⟩
   (refine aI (ah ?_);refine ag hG ?_ ?_;·first|trivial|omega|(simp;done)|(simp;omega));show ∃ z,_;refine q_l ?_;exact y6 hC.1 hC.2.2 hC.2.1 hb0 hz
  ·intro hb0;(try simp only[bf] at hb0);refine bd (aD ?_);refine az (ax ?_);refine ah (s_q hG ?_ ?_)
   ·(try simp only[ba]);have h1:List.length m<1000000000000:=hC.2.2;have h2:=hz.2.1;have h3:=hz.1;unfold Cm.Roomy;omega
   refine ay (q_e [] ?_);exact⟨trivial,Cv hC.1 hC.2.1 hb0 hz⟩
def FW(B:aj):Tab:={types:= [(2,(.int .i64)),(3,(.int .i64)),(87,(.slice (.int .u32))),(161,(.int .u32)),(164,(.int .u64))],elems:= [],cons:= [],hint:= [],N:=57,base:=B}
theorem Mu{B:aj}(hB:aB B):aG Tryz.prog (FW B):=⟨⟨tc ty2 (tc ty3 (tc ik (tc fH (tc mY (ae))))),af,by simp only[FW,ioB];omega⟩,bG rfl,by kernel_rfl⟩
def vZ:Con:=fun l os=>match l,os with
 | [.ownS 10000000,.z (.slice (.int .u32)) o,.z (.int .u64) q],[.win (.int .u32) 161 pre xs []]=>some (Lim xs/\Lim o/\y4 q/\o.length+1<=xs.length/\o.length<CAP,[.z .bool (decide (valL (xs.take (o.length+1))<q*valL o))],[.win (.int .u32) 161 pre (put xs (o.length+1) (valL (xs.take (o.length+1))-q*valL o)) []])
 |_,_=>none
theorem OJ{B:aj}(hB:aB B):Valid B Tryz.prog 191 vZ:=by
 refine ab (Mu hB).tab Tryz.func191 rfl rfl rfl ?_;intro args os C rs os' hc hC;unfold vZ at hc;split at hc;case h_2=>cases hc
 rename_i o q pre xs;cases hc;refine v_h (Mu hB) fun X hP hT hr hG=> ?_;have hU:=FW.eq_1;unfold FW at hT;have hX:=Bool.not_true;simp only[Tryz.f191,aC,al,ioB];refine s_g hG ?_;refine s_g hG ?_;refine ak (s_g hG ?_);refine av (bj (fun(z:Nat×Int×Int×List Int)=>(⟨[(0,.l (.ownS 10000000)),(1,.l (.z (.slice (.int .u32)) o)),(2,.l (.z (.int .u64) q)),(7,.l (.z (.int .u64) z.2.1)),(8,.l (.z (.int .i64) z.2.2.1)),(14,.l (.z (.int .i64) ((List.length o+1:Nat):Int))),(15,.l (.z (.int .i64) (z.1:Int)))],[(10000000,.win (.int .u32) 161 pre z.2.2.2 [])]⟩:aa)) (fun z=>jP xs o q z.1 z.2.1 z.2.2.1 z.2.2.2) (fun z=>List.length o+1-z.1) (0,0,0,xs) ?_ ?_ ?_);·refine q_l ?_;exact⟨wi (by omega) (by have:List.length o<1000000000000:=hC.2.2.2.2;omega),rfl⟩
 ·exact Cy hC.1
 ·rintro⟨i,c,b,ys⟩ hz;try dsimp only at hz
  have hl:=hz.2.1;have hlen:=hC.2.2.2.1;refine s_g hG ?_;refine ak (ao ?_ ?_)
  ·intro hb0;(try simp only[bt] at hb0);refine aq (ah ?_);refine ak (av ?_);refine s_g hG ?_;refine s_g hG ?_;refine cd (fun(z:Int)=>(⟨[(0,.l (.ownS 10000000)),(1,.l (.z (.slice (.int .u32)) o)),(2,.l (.z (.int .u64) q)),(8,.l (.z (.int .i64) b)),(9,.l (.z (.int .i64) (i:Int))),(10,.l (.z (.int .u64) z)),(14,.l (.z (.int .i64) ((List.length o+1:Nat):Int))),(15,.l (.z (.int .i64) (i:Int)))],[(10000000,.win (.int .u32) 161 pre ys [])]⟩:aa)) (fun z=>z=c+q*o.getD i 0) ?_ ?_
   ·refine s_g hG ?_;refine ao ?_ ?_
    ·intro hb1;(try simp only[bt] at hb1);refine ag hG ?_ ?_
     ·(try simp only[ba]);exact⟨by omega,hb1⟩
     show ∃ z,_;refine q_l ?_;first|exact JR i hC.2.1 hC.2.2.1 hz.2.2.2.2.1|exact u7 hb1
    ·intro hb1;(try simp only[bf] at hb1);refine aq ?_;show ∃ z,_;refine q_l ?_;first|exact JR i hC.2.1 hC.2.2.1 hz.2.2.2.2.1|exact u7 hb1
   rintro n hn;(try dsimp only at hn);(have hn2:0<=n/\n<LB*LB:=by rw[hn];have:=Cz i hC.2.1 hC.2.2.1 hz.2.2.2.2.1;exact⟨this.1,this.2.1⟩);refine s_q hG ?_ ?_
   ·(try simp only[ba]);decide
   refine s_q hG ?_ ?_
   ·(try simp only[ba]);exact⟨⟨by omega,by omega⟩,by omega,by decide⟩
   refine s_g hG ?_;refine cd (fun(z:Int×Int)=>(⟨[(0,.l (.ownS 10000000)),(1,.l (.z (.slice (.int .u32)) o)),(2,.l (.z (.int .u64) q)),(7,.l (.z (.int .u64) (n/LB))),(8,.l (.z (.int .i64) z.2)),(9,.l (.z (.int .i64) (i:Int))),(11,.l (.z (.int .i64) z.1)),(14,.l (.z (.int .i64) ((List.length o+1:Nat):Int))),(15,.l (.z (.int .i64) (i:Int)))],[(10000000,.win (.int .u32) 161 pre ys [])]⟩:aa)) (fun z=>(0<=z.1/\z.1<LB)/\(0<=z.2/\z.2<=1)/\z.1-LB*z.2=ys.getD i 0-n%LB-b) ?_ ?_
   ·refine s_g hG ?_;refine ao ?_ ?_
    ·(intro hb2;(try simp only[bt] at hb2);refine ag hG ?_ ?_;·first|trivial|omega|(simp;done)|(simp;omega));show ∃ z,_;refine q_l ?_;first|exact(by simpa only[and_assoc] using(mW hz.2.2.1 hn2 hz.2.2.2.2.2.2.1 rfl).1 hb2)|exact(by simpa only[and_assoc] using(mW hz.2.2.1 hn2 hz.2.2.2.2.2.2.1 rfl).2 hb2)
    ·intro hb2;(try simp only[bf] at hb2);refine aq ?_;show ∃ z,_;refine q_l ?_;first|exact(by simpa only[and_assoc] using(mW hz.2.2.1 hn2 hz.2.2.2.2.2.2.1 rfl).1 hb2)|exact(by simpa only[and_assoc] using(mW hz.2.2.1 hn2 hz.2.2.2.2.2.2.1 rfl).2 hb2)
   rintro⟨v,b2⟩ hv;(try dsimp only at hv);refine ag hG ?_ ?_
   ·(try simp only[ba]);exact⟨⟨by omega,by omega⟩,by omega⟩
   (refine aI (ah ?_);refine ag hG ?_ ?_;·first|trivial|omega|(simp;done)|(simp;omega));show ∃ z,_;refine q_l ?_;exact GM hC.2.1 hC.2.2.1 hC.2.2.2.1 hC.2.2.2.2 hz hb0 hn hv
  ·intro hb0;(try simp only[bf] at hb0);refine bd (aD ?_);refine az (ax ?_);refine ah (s_g hG ?_);refine ay (q_e [] ?_);exact⟨(y9 hC.2.2.2.1 hz (by omega)).2,trivial,(y9 hC.2.2.2.1 hz (by omega)).1⟩
def FX(B:aj):Tab:={types:= [(3,(.int .i64)),(87,(.slice (.int .u32))),(161,(.int .u32))],elems:= [],cons:= [],hint:= [],N:=37,base:=B}
theorem Mv{B:aj}(hB:aB B):aG Tryz.prog (FX B):=⟨⟨tc ty3 (tc ik (tc fH (ae))),af,by simp only[FX,ioB];omega⟩,bG rfl,by kernel_rfl⟩
def v7:Con:=fun l os=>match l,os with
 | [.ownS 10000000,.z (.slice (.int .u32)) o],[.win (.int .u32) 161 pre xs []]=>some (Lim xs/\Lim o/\o.length+1<=xs.length/\o.length<CAP,[],[.win (.int .u32) 161 pre (put xs (o.length+1) (valL (xs.take (o.length+1))+valL o)) []])
 |_,_=>none
theorem OK{B:aj}(hB:aB B):Valid B Tryz.prog 192 v7:=by
 refine ab (Mv hB).tab Tryz.func192 rfl rfl rfl ?_;intro args os C rs os' hc hC;unfold v7 at hc;split at hc;case h_2=>cases hc
 rename_i o pre xs;cases hc;refine v_h (Mv hB) fun X hP hT hr hG=> ?_;have hU:=FX.eq_1;unfold FX at hT;have hX:=Bool.not_true;simp only[Tryz.f192,aC,al,ioB];refine s_g hG ?_;refine s_g hG ?_;refine av (bj (fun(z:Nat×Int×List Int)=>(⟨[(0,.l (.ownS 10000000)),(1,.l (.z (.slice (.int .u32)) o)),(4,.l (.z (.int .u32) z.2.1)),(9,.l (.z (.int .i64) ((List.length o+1:Nat):Int))),(10,.l (.z (.int .i64) (z.1:Int)))],[(10000000,.win (.int .u32) 161 pre z.2.2 [])]⟩:aa)) (fun z=>jQ xs o z.1 z.2.1 z.2.2) (fun z=>List.length o+1-z.1) (0,0,xs) ?_ ?_ ?_);·refine q_l ?_;exact⟨wi (by omega) (by have:List.length o<1000000000000:=hC.2.2.2;omega),rfl⟩
 ·exact CB hC.1
 ·rintro⟨i,c,ys⟩ hz;try dsimp only at hz
  have hl:=hz.2.1;have hlen:=hC.2.2.1;refine s_g hG ?_;refine ak (ao ?_ ?_)
  ·intro hb0;(try simp only[bt] at hb0);refine aq (ah ?_);refine ak (av ?_);refine s_g hG ?_;refine s_q hG ?_ ?_
   ·(try simp only[ba]);exact⟨⟨by omega,by omega⟩,by omega⟩
   refine cd (fun(z:Int)=>(⟨[(0,.l (.ownS 10000000)),(1,.l (.z (.slice (.int .u32)) o)),(5,.l (.z (.int .i64) (i:Int))),(6,.l (.z (.int .u32) z)),(9,.l (.z (.int .i64) ((List.length o+1:Nat):Int))),(10,.l (.z (.int .i64) (i:Int)))],[(10000000,.win (.int .u32) 161 pre ys [])]⟩:aa)) (fun z=>z=ys.getD i 0+c+o.getD i 0) ?_ ?_
   ·refine s_g hG ?_;refine ao ?_ ?_
    ·intro hb1;(try simp only[bt] at hb1);refine ag hG ?_ ?_
     ·(try simp only[ba]);exact⟨by omega,hb1⟩
     show ∃ z,_;refine q_l ?_;first|exact(wZ i hz.2.2.1 hC.2.1 hz.2.2.2.2.1).2 hb1|exact(wZ i hz.2.2.1 hC.2.1 hz.2.2.2.2.1).1
    ·intro hb1;(try simp only[bf] at hb1);refine aq ?_;show ∃ z,_;refine q_l ?_;first|exact(wZ i hz.2.2.1 hC.2.1 hz.2.2.2.2.1).2 hb1|exact(wZ i hz.2.2.1 hC.2.1 hz.2.2.2.2.1).1
   rintro n hn;(try dsimp only at hn);refine ag hG ?_ ?_
   ·(try simp only[ba]);exact⟨by decide,by decide,⟨by omega,by omega⟩,by omega⟩
   (refine aI (ah ?_);refine ag hG ?_ ?_;·first|trivial|omega|(simp;done)|(simp;omega));show ∃ z,_;refine q_l ?_;exact GN hC.2.1 hC.2.2.1 hC.2.2.2 hz hb0 hn
  ·intro hb0;(try simp only[bf] at hb0);refine bd (aD ?_);refine az (ax ?_);refine q_e [] ?_;exact⟨trivial,JQ hC.2.2.1 hz (by omega)⟩
def v8(B:aj):Tab:={types:= [(3,(.int .i64)),(4,.bool),(87,(.slice (.int .u32))),(89,tyW),(161,(.int .u32)),(164,(.int .u64))],elems:= [(87,161)],cons:= [(150,dX),(152,eO),(189,oz),(190,lG),(191,vZ),(192,v7)],hint:= [52,144,152],N:=172,io:= [(191,[0]),(192,[0])],base:=B}
theorem Mw{B:aj}(hB:aB B):aG Tryz.prog (v8 B):=⟨⟨tc ty3 (tc ty4 (tc ik (tc gD (tc fH (tc mY (ae)))))),aQ (by kernel_rfl) (af),by simp only[v8,ioB];omega⟩,aE (cc Tryz.func150 (j7 hB) (cc Tryz.func152 (xI hB) (cc Tryz.func189 (OH hB) (cc Tryz.func190 (OI hB) (cc Tryz.func191 (OJ hB) (cc Tryz.func192 (OK hB) (aA))))))),by kernel_rfl⟩
def jE:Con:=fun l os=>match l,os with
 | [.z (.slice (.int .u32)) m,.z (.slice (.int .u32)) o],[]=>some (Cano m/\Cano o/\o≠ []/\m.length+o.length+1<CAP,[.z (.slice (.int .u32)) (iz m o),.z (.slice (.int .u32)) (dJ m o)],[])
 |_,_=>none
set_option maxHeartbeats 1000000 in
theorem FY{B:aj}(hB:aB B):Valid B Tryz.prog 177 jE:=by
 refine ab (Mw hB).tab Tryz.func177 rfl rfl rfl ?_;intro args os C rs os' hc hC;unfold jE at hc;split at hc;case h_2=>cases hc
 rename_i m o;cases hc;refine v_h (Mw hB) fun X hP hT hr hG=> ?_;have hU:=v8.eq_1;unfold v8 at hT;have hX:=ai @eO.eq_1<|ai @v7.eq_1<|ai @vZ.eq_1<|ai @lG.eq_1<|ai @oz.eq_1<|ai @dX.eq_1<|ai @bW.eq_def<| @cj.eq_def;simp only[Tryz.f177,aC,al,ioB];refine ak ?_;show J X _ _ _;refine ag hG ?_ ?_;·first|trivial|omega|(simp;done)|(simp;omega)
 refine ah (ak ?_);refine ak ?_;show J X _ _ _;refine ag hG ?_ ?_
 ·try simp only[ba]
  exact⟨hC.1,hC.2.1,Nat.lt_of_le_of_lt (Nat.le_succ _) hC.2.2.2⟩
 refine ah (ao ?_ ?_)
 ·intro hb0;try simp only[bt] at hb0
  refine ak ?_;show J X _ _ _;refine ag hG ?_ ?_;·first|trivial|omega|(simp;done)|(simp;omega)
  refine ah (ay ?_);refine aw (q_e [62] ?_);exact JY hb0
 ·intro hb0;try simp only[bf] at hb0
  refine aq (ah ?_);refine ak (ak ?_);show J X _ _ _;refine ag hG ?_ ?_;·first|trivial|omega|(simp;done)|(simp;omega)
  refine ah (ao ?_ ?_)
  ·intro hb1;(try simp only[bt] at hb1);refine ak ?_;show J X _ _ _;refine ag hG ?_ ?_
   ·(try simp only[ba]);exact⟨⟨by omega,by omega⟩,hC.1.1,(div_one hC.2.1 hb0 hb1).1,by have:=hC.2.2.2;omega⟩
   (refine ah (ak ?_);show J X _ _ _;refine ag hG ?_ ?_;·first|trivial|omega|(simp;done)|(simp;omega));refine ah (ay ?_);refine aw (q_e [62] ?_);exact(div_one hC.2.1 hb0 hb1).2
  ·intro hb1;simp only[beq_eq_false_iff_ne,ne_eq] at hb1;obtain⟨p,hp⟩:∃ p,List.length o=p+2:=o8 hC.2.2.1 hb1;obtain⟨D,f⟩:∃ D:List Int,gC m o D p:=⟨_,gC.mk' hC.1 hC.2.1 hp (JZ hb0) hC.2.2.2⟩;have hDl:=f.hDl;have hcc:=f.hc;have hlm:=f.hlm;refine aq (ah ?_);refine cd (fun(z:Int)=>(⟨[(0,.l (.z (.slice (.int .u32)) m)),(1,.l (.z (.slice (.int .u32)) o)),(8,.l (.z (.int .u32) z))],[]⟩:aa)) (fun z=>z=aM o) ?_ ?_
   ·show J X _ _ _;refine ag hG ?_ ?_
    ·(try simp only[ba]);have h:=sW f.ho f.hp (by omega);exact⟨h.1,h.2.1⟩
    show ∃ z,_;refine q_l ?_;exact(sW f.ho f.hp (by omega)).2.2
   rintro d hd;(try dsimp only at hd);subst hd;refine ak ?_;show J X _ _ _;refine gB hG ?_ ?_
   ·(try simp only[ba]);exact GT f
   (refine ah (ak ?_);show J X _ _ _;refine ag hG ?_ ?_;·first|trivial|omega|(simp;done)|(simp;omega));refine ah (ak ?_);show J X _ _ _;refine ag hG ?_ ?_
   ·(try simp only[ba]);exact GU f
   (refine ah (ak ?_);refine ak ?_;show J X _ _ _;refine ag hG ?_ ?_;·first|trivial|omega|(simp;done)|(simp;omega));refine ah (av ?_);refine bj (fun(z:Nat×List Int×List Int)=>(⟨[(8,.l (.z (.int .u32) (aM o))),(9,.l (.ownS 1392)),(10,.l (.z (.slice (.int .u32)) D)),(11,.l (.z (.int .i64) (List.length o:Int))),(12,.l (.ownS 62)),(13,.l (.z (.int .i64) ((z.1:Int)-1)))],[(1392,.arr (.int .u32) 161 z.2.1),(62,.arr (.int .u32) 161 z.2.2)]⟩:aa)) (fun z=>jS (valL m*aM o) (valL D) (List.length m) (p+2) z.1 z.2.1 z.2.2) (fun z=>z.1) (List.length m+1-List.length o,padL (valL m*aM o).toNat (List.length m+1),List.replicate (List.length m+1-List.length o) 0) ?_ ?_ ?_;·refine q_l ?_;exact Na f
   ·exact CD f
   ·(rintro⟨k,T,Q⟩ hz;(try dsimp only at hz);have hz1:=hz.1;have hz3:=hz.2.2.1;have hz5:=hz.2.2.2.2.1;refine ak (ak ?_);show J X _ _ _;refine ag hG ?_ ?_;·first|trivial|omega|(simp;done)|(simp;omega));refine ah (ao ?_ ?_)
    ·intro hb2;(try simp only[decide_eq_true_eq] at hb2);obtain⟨j,rfl⟩:∃ j,k=j+1:=⟨k-1,by omega⟩;(have ej:(((j+1:Nat)):Int)-1=(j:Int):=by omega);rw[ej];(have hw17:(j:Int).toNat<List.length T:=by omega);(have hw19:∀ v:Int,(j:Int).toNat<(List.take (j:Int).toNat T++put (List.drop (j:Int).toNat T) (List.length D+1) v).length:=fun v=>by rw[Ee _ (by rw[hDl];omega)];exact hw17);(have ej0:IntKind.i64.wrap ((j:Int)+(List.length o:Int))=((j+(p+2):Nat):Int):=by rw[wo];omega);(have ej1:IntKind.i64.wrap (((j+(p+2):Nat):Int)-1)=((j+(p+1):Nat):Int):=by rw[wo];omega);(have ej2:IntKind.i64.wrap (((j+(p+2):Nat):Int)-2)=((j+p:Nat):Int):=by rw[wo];omega);have g:=za (j:=j) (p:=p) hz.2.1 f.hL f.hDl f.hVp (by omega) hz.2.2.2.2.2.2;have hD1:=(f.hL.getD (p+1)).2;(have hTj:j+(p+3)<=List.length T:=by omega);refine aq (ah ?_);refine ak (av ?_);refine cd (fun(z:Int)=>(⟨[(8,.l (.z (.int .u32) (aM o))),(9,.l (.ownS 1392)),(10,.l (.z (.slice (.int .u32)) D)),(11,.l (.z (.int .i64) (List.length o:Int))),(12,.l (.ownS 62)),(13,.l (.z (.int .i64) (j:Int))),(14,.l (.z (.int .u64) z))],[(1392,.arr (.int .u32) 161 T),(62,.arr (.int .u32) 161 Q)]⟩:aa)) (fun z=>z=T.getD (j+(p+2)) 0*LB+T.getD (j+(p+1)) 0/\z<LB*LB) ?_ ?_
     ·show J X _ _ _;refine gB hG ?_ ?_
      ·(try simp only[ba]);simp only[ej0,ej1,Int.toNat_natCast];exact⟨⟨by omega,by omega⟩,by omega,⟨by omega,by omega⟩,by omega⟩
      show ∃ z,_;refine q_l ?_;simp only[f.en1,f.en2,ej0,ej1,ej2,Int.toNat_natCast,fC];have:=JU (hz.2.1.getD (j+(p+2))) (hz.2.1.getD (j+(p+1)));rw[this.1];exact⟨rfl,this.2.1⟩
     rintro top ht;(try dsimp only at ht);have g2:=g;rw[<- ht.1] at g2;have ht0:=g2.htop;refine cd (fun(z:Int)=>(⟨[(8,.l (.z (.int .u32) (aM o))),(9,.l (.ownS 1392)),(10,.l (.z (.slice (.int .u32)) D)),(11,.l (.z (.int .i64) (List.length o:Int))),(12,.l (.ownS 62)),(13,.l (.z (.int .i64) (j:Int))),(14,.l (.z (.int .u64) top)),(15,.l (.z (.int .u64) z))],[(1392,.arr (.int .u32) 161 T),(62,.arr (.int .u32) 161 Q)]⟩:aa)) (fun z=>z=min (top/D.getD (p+1) 0) 999999999) ?_ ?_
     ·show J X _ _ _;refine ag hG ?_ ?_
      ·(try simp only[ba]);simp only[f.en1,f.en2,ej0,ej1,ej2,Int.toNat_natCast,fC];exact⟨⟨by omega,by omega⟩,(zb ht0 ht.2 g.hD1 hD1).2⟩
      show ∃ z,_;refine q_l ?_;simp only[f.en1,f.en2,ej0,ej1,ej2,Int.toNat_natCast,fC];rw[(zb ht0 ht.2 g.hD1 hD1).1]
     (rintro gs hg;(try dsimp only at hg);refine ak (av ?_);refine bj (fun(z:Int)=>(⟨[(8,.l (.z (.int .u32) (aM o))),(9,.l (.ownS 1392)),(10,.l (.z (.slice (.int .u32)) D)),(11,.l (.z (.int .i64) (List.length o:Int))),(12,.l (.ownS 62)),(13,.l (.z (.int .i64) (j:Int))),(14,.l (.z (.int .u64) top)),(15,.l (.z (.int .u64) z))],[(1392,.arr (.int .u32) 161 T),(62,.arr (.int .u32) 161 Q)]⟩:aa)) (fun z=>GS (valL ((T.drop j).take (p+3))) (valL D) top (D.getD (p+1) 0) z) (fun z=>z.toNat) gs ?_ ?_ ?_;·simp only[ml0,ml1,Nat.reduceLT,Nat.reduceEqDiff,Nat.reduceAdd,Nat.reduceMul,Nat.reduceSub,Nat.reduceLeDiff,Nat.reduceBEq,Nat.reduceBNe,reduceIte,reduceDIte,reduceCtorEq]);·exact M8 g2 hg
     ·rintro q hq;(try dsimp only at hq);refine ak (ak ?_);show J X _ _ _;refine gB hG ?_ ?_
      ·(try simp only[ba]);simp only[f.en1,f.en2,ej0,ej1,ej2,Int.toNat_natCast,fC];exact⟨⟨by omega,by omega⟩,⟨by omega,by omega⟩,⟨by omega,by omega⟩,by omega,fun h=>h,fun h=>⟨h,by omega,by omega⟩,fun h=>h⟩
      refine ah (ao ?_ ?_)
      ·(intro hb3;(try simp only[bt] at hb3);refine aq (ah ?_);refine av ?_;show J X _ _ _;refine ag hG ?_ ?_;·first|trivial|omega|(simp;done)|(simp;omega));refine aI ?_;show ∃ z,_;refine q_l ?_;simp only[f.en1,f.en2,ej0,ej1,ej2,Int.toNat_natCast,fC] at hb3;exact Pe g2 ht.2 hD1 hq hb3
      ·intro hb3;(try simp only[bf] at hb3);refine bd (aD ?_);refine az (ax ?_);refine ah (cd (fun(z:Int×List Int)=>(⟨[(8,.l (.z (.int .u32) (aM o))),(9,.l (.ownS 1392)),(10,.l (.z (.slice (.int .u32)) D)),(11,.l (.z (.int .i64) (List.length o:Int))),(12,.l (.ownS 62)),(13,.l (.z (.int .i64) (j:Int))),(15,.l (.z (.int .u64) z.1))],[(1392,.arr (.int .u32) 161 z.2),(62,.arr (.int .u32) 161 Q)]⟩:aa)) (fun z=>z.1=valL ((T.drop j).take (p+3))/valL D/\z.2=T.take j++put (T.drop j) (p+3) (valL ((T.drop j).take (p+3))-z.1*valL D)) ?_ ?_)
       ·refine ak ?_;show J X _ _ _;refine cI hG (by simp only[hw17,hT,v8,bW.eq_def,cj.eq_def,eO,v7,vZ,lG,oz,dX,mx0,mx1,mx2,mx3,mx4,mx5,mx6,aT,bq,bI,aY,bp,Ty.fieldTy,Ty.fieldOf,Nat.reduceLT,Nat.reduceEqDiff,Nat.reduceAdd,Nat.reduceMul,Nat.reduceSub,Nat.reduceLeDiff,Nat.reduceBEq,Nat.reduceBNe,reduceIte,reduceDIte,reduceCtorEq];rfl) ?_ ?_
        ·(try simp only[ba]);simp only[Int.toNat_natCast];exact⟨⟨by omega,by omega⟩,⟨hz.2.1.drop j,f.hL,⟨hq.2.2.2,hq.2.1⟩,by rw[hDl,List.length_drop];omega,by rw[hDl];unfold CAP;omega⟩,by rw[List.length_take];omega⟩
        refine ah (ao ?_ ?_)
        ·(intro hb4;(try simp only[bt] at hb4);refine ak ?_;show J X _ _ _;refine ag hG ?_ ?_;·first|trivial|omega|(simp;done)|(simp;omega));refine ah ?_;show J X _ _ _;refine cI hG (by simp only[hw17,hw19,hT,v8,bW.eq_def,cj.eq_def,eO,v7,vZ,lG,oz,dX,mx0,mx1,mx2,mx3,mx4,mx5,mx6,aT,bq,bI,aY,bp,Ty.fieldTy,Ty.fieldOf,Nat.reduceLT,Nat.reduceEqDiff,Nat.reduceAdd,Nat.reduceMul,Nat.reduceSub,Nat.reduceLeDiff,Nat.reduceBEq,Nat.reduceBNe,reduceIte,reduceDIte,reduceCtorEq];rfl) ?_ ?_
         ·(try simp only[ba]);simp only[Int.toNat_natCast,f.hDl3];rw[(sX _ hTj).1,(sX _ hTj).2,Ee _ hTj];exact⟨⟨by omega,by omega⟩,⟨Ec (hz.2.1.drop j) _ _,f.hL,by rw[wY _ (by rw[List.length_drop];omega),List.length_drop];omega,by rw[hDl];unfold CAP;omega⟩,by rw[List.length_take];omega⟩
         show ∃ z,_;refine q_l ?_;simp only[Int.toNat_natCast,f.hDl3] at hb4 ⊢;simp only[f.en1,f.en2,ej0,ej1,ej2,Int.toNat_natCast,fC] at hb3;have hst:=JW g2 ht.2 hD1 hq hb3;first|(have hq1:=hst.1 hb4;have hqn:=g.qnn;have hql:=g.qlt;have hB:LB=1000000000:=rfl;rw[w64 (x:=q-1) (by omega) (by omega),ve hTj];exact⟨hq1,rfl⟩)|exact⟨hst.2 hb4,trivial⟩|exact⟨hst.2 hb4,rfl⟩
        ·intro hb4;(try simp only[bf] at hb4);refine aq ?_;show ∃ z,_;refine q_l ?_;simp only[Int.toNat_natCast,f.hDl3] at hb4 ⊢;simp only[f.en1,f.en2,ej0,ej1,ej2,Int.toNat_natCast,fC] at hb3;have hst:=JW g2 ht.2 hD1 hq hb3;first|(have hq1:=hst.1 hb4;have hqn:=g.qnn;have hql:=g.qlt;have hB:LB=1000000000:=rfl;rw[w64 (x:=q-1) (by omega) (by omega),ve hTj];exact⟨hq1,rfl⟩)|exact⟨hst.2 hb4,trivial⟩|exact⟨hst.2 hb4,rfl⟩
       rintro⟨q2,Tn⟩ hq2;(try dsimp only at hq2);show J X _ _ _;refine ag hG ?_ ?_
       ·(try simp only[ba]);exact⟨⟨by omega,by omega⟩,by omega⟩
       (refine aI (ah ?_);show J X _ _ _;refine ag hG ?_ ?_;·first|trivial|omega|(simp;done)|(simp;omega));show ∃ z,_;refine q_l ?_;rw[wi (x:=(j:Int)-1) (by omega) (by omega),hq2.2,Int.toNat_natCast,w32 (by rw[hq2.1];exact g.qnn) (by rw[hq2.1];have:=g.qlt;have hB:LB=1000000000:=rfl;omega)];exact⟨j,rfl,GP f.hL f.hDl f.hVp f.hlm hz hq2.1,by omega⟩
    ·intro hb2;(try simp only[bf] at hb2);refine bd (aD ?_);refine az (ax ?_);refine ah (ak ?_);show J X _ _ _;refine ag hG ?_ ?_
     ·(try simp only[ba]);exact CE f hz (by omega)
     (refine ah (ak ?_);show J X _ _ _;refine ag hG ?_ ?_;·first|trivial|omega|(simp;done)|(simp;omega));refine ah (ay ?_);refine q_e [62] ?_;(obtain rfl:k=0:=by omega);exact M9 f hz
def FZ(B:aj):Tab:={types:= [(3,(.int .i64)),(4,.bool),(87,(.slice (.int .u32))),(89,tyW)],elems:= [],cons:= [(110,Ae),(133,jf),(150,dX),(154,py),(177,jE),(179,Oy)],hint:= [],N:=47,base:=B}
theorem Mx{B:aj}(hB:aB B):aG Tryz.prog (FZ B):=⟨⟨tc ty3 (tc ty4 (tc ik (tc gD (ae)))),af,by simp only[FZ,ioB];omega⟩,aE (cc Tryz.func110 (xK hB) (cc Tryz.func133 (pV hB) (cc Tryz.func150 (j7 hB) (cc Tryz.func154 (xH hB) (cc Tryz.func177 (FY hB) (cc Tryz.func179 (Oz hB) (aA))))))),by kernel_rfl⟩
def F0:Con:=fun l os=>match l,os with
 | [.z (.st (.pair .bool (.slice (.int .u32)))) x,.z (.st (.pair .bool (.slice (.int .u32)))) y],[]=>some (nL x y,[.z tyW (enc (bP (dec x) (dec y))),.z tyW (enc (jb (dec x) (dec y)))],[])
 |_,_=>none
theorem OL{B:aj}(hB:aB B):Valid B Tryz.prog 149 F0:=by
 refine ab (Mx hB).tab Tryz.func149 rfl rfl rfl ?_;intro args os C rs os' hc hC;unfold F0 at hc;split at hc;case h_2=>cases hc
 rename_i x y;cases hc;refine v_h (Mx hB) fun X hP hT hr hG=> ?_;have hU:=FZ.eq_1;unfold FZ at hT;have hX:=ai @Ae.eq_1<|ai @jE.eq_1<|ai @py.eq_1<|ai @jf.eq_1<|ai @Oy.eq_1<| @dX.eq_1;simp only[Tryz.f149,aC,al,ioB];refine s_g hG ?_;refine s_q hG ?_ ?_
 ·try simp only[ba]
  exact hC.side1
 refine s_d hG ?_ ?_
 ·try simp only[ba]
  exact hC.side2
 refine ak (s_q hG ?_ ?_)
 ·try simp only[ba]
  exact⟨enc_ok _,fun h=>h⟩
 refine ao ?_ ?_
 ·intro hb0;try simp only[bt] at hb0
  refine gB hG ?_ ?_
  ·(try simp only[ba]);exact hC.side4
  refine ah (s_d hG ?_ ?_);·first|trivial|omega|(simp;done)|(simp;omega)
  refine ay (q_e [] ?_);exact hC.fin1 hb0
 ·intro hb0;try simp only[bf] at hb0
  refine aq (ah ?_);refine s_d hG ?_ ?_;·first|trivial|omega|(simp;done)|(simp;omega)
  refine ay (q_e [] ?_);exact hC.fin2 hb0
def uk(B:aj):Tab:={types:= [(87,(.slice (.int .u32))),(161,(.int .u32)),(164,(.int .u64))],elems:= [],cons:= [(193,vS)],hint:= [],N:=16,base:=B}
theorem My{B:aj}(hB:aB B):aG Tryz.prog (uk B):=⟨⟨tc ik (tc fH (tc mY (ae))),af,by simp only[uk,ioB];omega⟩,aE (cc Tryz.func193 (Fz hB) (aA)),by kernel_rfl⟩
def xY:Con:=fun l os=>match l,os with
 | [.z (.slice (.int .u32)) m],[]=>some (Lim m/\m.length<=2,[.z (.int .u64) (valL m)],[])
 |_,_=>none
theorem OM{B:aj}(hB:aB B):Valid B Tryz.prog 178 xY:=by
 refine ab (My hB).tab Tryz.func178 rfl rfl rfl ?_;intro args os C rs os' hc hC;unfold xY at hc;split at hc;case h_2=>cases hc
 rename_i m;cases hc;refine v_h (My hB) fun X hP hT hr hG=> ?_;have hU:=uk.eq_1;unfold uk at hT;have hX:= @vS.eq_1;simp only[Tryz.f178,aC,al,ioB];refine s_g hG ?_;refine s_g hG ?_;refine ak (s_g hG ?_);refine av (DZ hr (gf:=208) (caps:= [.z (.ptr (.slice (.int .u32))) m]) (items:=cW m) (by simp only[hT,uk,mx0,mx1,mx2,mx3,mx4,mx5,mx6,aT,bq,bI,aY,bp,Ty.fieldTy,Ty.fieldOf,Nat.reduceLT,Nat.reduceEqDiff,Nat.reduceAdd,Nat.reduceMul,Nat.reduceSub,Nat.reduceLeDiff,Nat.reduceBEq,Nat.reduceBNe,reduceIte,reduceDIte,reduceCtorEq];try rfl) (by rfl) (by rw[hP];exact zf m) (by rfl) [3] (by rfl) (by simp only[hT,uk];try rfl) (fun(k:Nat) (z:Int)=>(⟨[(3,.l (.ownP 3 0))],[(3,.box 164 [.z (.int .u64) z])]⟩:aa)) (fun(k:Nat) (z:Int)=>z=valL (List.drop (List.length m-k) m)) 0 ?_ ?_ ?_ ?_ ?_);·simp only[ml0,ml1,Nat.reduceLT,Nat.reduceEqDiff,Nat.reduceAdd,Nat.reduceMul,Nat.reduceSub,Nat.reduceLeDiff,Nat.reduceBEq,Nat.reduceBNe,reduceIte,reduceDIte,reduceCtorEq]
 ·rw[JL];rfl
 ·intro k z;rfl
 ·intro k hk;rintro z hz;try dsimp only at hz
  have hk:k<List.length m:=by simpa [cW] using hk
  refine⟨_,by simp only[hT,uk,cW,s8,mx0,mx1,mx2,mx3,mx4,mx5,mx6,aT,bq,bI,aY,bp,Ty.fieldTy,Ty.fieldOf,Nat.reduceLT,Nat.reduceEqDiff,Nat.reduceAdd,Nat.reduceMul,Nat.reduceSub,Nat.reduceLeDiff,Nat.reduceBEq,Nat.reduceBNe,reduceIte,reduceDIte,reduceCtorEq,List.getElem_map,List.getElem_range];rfl,?_⟩;intro X' hP' hT';have hG':aG X'.P X'.T:=by rw[hP',hT'];exact hG.keep _
  rw[hT] at hT';refine av (nH hG' ?_ ?_);·first|trivial|omega|(simp;done)|(simp;omega)
  refine aI ?_;show ∃ z,_;simp only[ml0,ml1,Nat.reduceLT,Nat.reduceEqDiff,Nat.reduceAdd,Nat.reduceMul,Nat.reduceSub,Nat.reduceLeDiff,Nat.reduceBEq,Nat.reduceBNe,reduceIte,reduceDIte,reduceCtorEq];exact yY hC.1 hC.2 hk hz
 ·rintro z hz;try dsimp only at hz
  rw[show List.length (cW m)=List.length m by simp[cW],Nat.sub_self,List.drop_zero] at hz;refine aI (ah ?_);refine s_g hG ?_;refine ay (q_e [] ?_);exact hz
def F1(B:aj):Tab:={types:= [(3,(.int .i64)),(4,.bool),(87,(.slice (.int .u32))),(89,tyW),(161,(.int .u32)),(164,(.int .u64))],elems:= [(87,161)],cons:= [(150,dX),(177,jE),(178,xY)],hint:= [],N:=68,base:=B}
theorem Mz{B:aj}(hB:aB B):aG Tryz.prog (F1 B):=⟨⟨tc ty3 (tc ty4 (tc ik (tc gD (tc fH (tc mY (ae)))))),aQ (by kernel_rfl) (af),by simp only[F1,ioB];omega⟩,aE (cc Tryz.func150 (j7 hB) (cc Tryz.func177 (FY hB) (cc Tryz.func178 (OM hB) (aA)))),by kernel_rfl⟩
def wa:Con:=fun l os=>match l,os with
 | [.z (.st (.pair .bool (.slice (.int .u32)))) x,.z (.st (.pair .bool (.slice (.int .u32)))) y],[]=>some (nM x y,[.z tyW (enc (cw (dec x) (dec y)))],[])
 |_,_=>none
theorem F2{B:aj}(hB:aB B):Valid B Tryz.prog 147 wa:=by
 refine ab (Mz hB).tab Tryz.func147 rfl rfl rfl ?_;intro args os C rs os' hc hC;unfold wa at hc;split at hc;case h_2=>cases hc
 rename_i x y;cases hc;refine v_h (Mz hB) fun X hP hT hr hG=> ?_;have hU:=F1.eq_1;unfold F1 at hT;have hX:=ai @jE.eq_1<|ai @xY.eq_1<| @dX.eq_1;simp only[Tryz.f147,aC,al,ioB];refine s_g hG ?_;refine s_d hG ?_ ?_;·first|trivial|omega|(simp;done)|(simp;omega)
 refine ak (av ?_);refine bj (fun(z:List Int×List Int)=>(⟨[(4,.l (.ownP 4 0)),(5,.l (.z (.slice (.int .u32)) z.1)),(6,.l (.z (.slice (.int .u32)) z.2))],[(4,.box 89 [.z .bool false,.val (.slice none 0 0)])]⟩:aa)) (fun z=>w6 x y z.1 z.2) (fun z=>(valL z.2).toNat) (x.2,y.2) ?_ ?_ ?_;·simp only[ml0,ml1,Nat.reduceLT,Nat.reduceEqDiff,Nat.reduceAdd,Nat.reduceMul,Nat.reduceSub,Nat.reduceLeDiff,Nat.reduceBEq,Nat.reduceBNe,reduceIte,reduceDIte,reduceCtorEq]
 ·exact w6.start hC
 ·rintro⟨u,v⟩ hz;try dsimp only at hz
  have hcc:2*(List.length x.2+List.length y.2)+4<1000000000000:=hC.hc;refine ak (s_g hG ?_);refine ao ?_ ?_
  ·intro hb0;(try simp only[bt] at hb0);refine aq (ah ?_);refine av (s_q hG ?_ ?_)
   ·(try simp only[ba]);exact hz.side3 hC (gg (by omega))
   refine ag hG ?_ ?_
   ·(try simp only[ba]);exact hz.side4 hC (gg (by omega))
   refine aI ?_;show ∃ z,_;refine q_l ?_;exact hz.next hC (gg (by omega))
  ·intro hb0;(try simp only[bf] at hb0);refine bd (aD ?_);refine az (ax ?_);refine ah (ak ?_);refine s_g hG ?_;refine ao ?_ ?_
   ·intro hb1;(try simp only[bt] at hb1);refine s_q hG ?_ ?_
    ·(try simp only[ba]);exact⟨hz.hu.1,by have:=hz.hul;unfold CAP;omega⟩
    refine ay (aw ?_);refine q_e [65] ?_;exact hz.stop (CF (by omega))
   ·intro hb1;simp only[beq_eq_false_iff_ne,ne_eq] at hb1;refine aq (ah ?_);refine s_q hG ?_ ?_
    ·(try simp only[ba]);exact hz.side3 hC (gg (by omega))
    refine s_q hG ?_ ?_
    ·(try simp only[ba]);have hr:=hz.rest (gg (by omega));exact⟨⟨hz.hv.1,by omega⟩,hz.side4 hC (gg (by omega)),hr.1.1,by omega⟩
    (refine ak (av ?_);refine bj (fun(z:Int×Int)=>(⟨[(4,.l (.ownP 4 0)),(11,.l (.z (.int .u64) z.1)),(12,.l (.z (.int .u64) z.2))],[(4,.box 89 [.z .bool false,.val (.slice none 0 0)])]⟩:aa)) (fun z=>w7 x y z.1 z.2) (fun z=>z.2.toNat) (valL v,valL (enc (dec (false,dJ u v))).2) ?_ ?_ ?_;·simp only[ml0,ml1,Nat.reduceLT,Nat.reduceEqDiff,Nat.reduceAdd,Nat.reduceMul,Nat.reduceSub,Nat.reduceLeDiff,Nat.reduceBEq,Nat.reduceBNe,reduceIte,reduceDIte,reduceCtorEq]);·exact w7.start hz hC (gg (by omega)) (by omega)
    ·rintro⟨a,b⟩ he;(try dsimp only at he);refine ak (s_g hG ?_);refine ao ?_ ?_
     ·intro hb2;(try simp only[bt] at hb2);refine aq (ah ?_);refine av (gB hG ?_ ?_)
      ·(try simp only[ba]);omega
      refine aI ?_;show ∃ z,_;refine q_l ?_;exact he.next hb2
     ·(intro hb2;(try simp only[decide_eq_false_iff_not] at hb2);have he2:=he.stop hb2;refine bd (aD ?_);refine az (ax ?_);refine ah (s_g hG ?_);refine ak (av ?_);refine bj (fun(z:Nat×List Int)=>(⟨[(11,.l (.z (.int .u64) (z.1:Int))),(13,.l (.ownP 13 0)),(4,.l (.ownP 4 0))],[(13,.box 89 [.z .bool false,.ownS 65]),(65,.arr (.int .u32) 161 z.2),(4,.box 89 [.z .bool false,.val (.slice none 0 0)])]⟩:aa)) (fun z=>z.2++limbs z.1=limbs (cw (dec x) (dec y)).toNat/\z.1<18446744073709551616) (fun z=>z.1) ((cw (dec x) (dec y)).toNat,[]) ?_ ?_ ?_;·refine q_l ?_;exact⟨he2.1,by unfold ioB;omega⟩);·exact⟨by simp,he2.2⟩
      ·rintro⟨w,l⟩ ⟨g1,g2⟩;(try dsimp only at g1 g2);refine ak (s_g hG ?_);refine ao ?_ ?_
       ·intro hb3;(try simp only[bt] at hb3);refine aq (ah ?_);refine ak (av ?_);refine ag hG ?_ ?_
        ·(try simp only[ba]);have h3:=mi he2.2;have h4:=congrArg List.length g1;simp only[List.length_append] at h4;exact⟨by decide,by unfold Cm.Roomy;omega⟩
        (refine aI (ah ?_);refine ag hG ?_ ?_;·first|trivial|omega|(simp;done)|(simp;omega));show ∃ z,_;refine q_l ?_;exact o4 g1 g2 hb3
       ·intro hb3;(try simp only[bf] at hb3);refine bd (aD ?_);refine az (ax ?_);refine ah (s_g hG ?_);refine ay (q_e [65] ?_);(have h0:w=0:=by omega);subst h0;rw[show limbs 0= [] by simp[limbs],List.append_nil] at g1;rw[g1];exact Nc _ _
def qf(B:aj):Tab:={types:= [(3,(.int .i64)),(4,.bool),(87,(.slice (.int .u32))),(89,tyW),(91,tyN),(161,(.int .u32))],elems:= [],cons:= [(147,wa),(148,Ad),(149,F0)],hint:= [2,3,5],N:=43,base:=B}
theorem Av{B:aj}(hB:aB B):aG Tryz.prog (qf B):=⟨⟨tc ty3 (tc ty4 (tc ik (tc gD (tc ty91 (tc fH (ae)))))),af,by simp only[qf,ioB];omega⟩,aE (cc Tryz.func147 (F2 hB) (cc Tryz.func148 (xG hB) (cc Tryz.func149 (OL hB) (aA)))),by kernel_rfl⟩
def l6:Con:=fun l os=>match l,os with
 | [.z (.st (.pair .bool (.slice (.int .u32)))) n,.z (.st (.pair .bool (.slice (.int .u32)))) d],[]=>some (gE n d,[.z tyN (bo (Rat.divInt (dec n) (dec d)))],[])
 |_,_=>none
theorem lH{B:aj}(hB:aB B):Valid B Tryz.prog 108 l6:=by
 refine ab (Av hB).tab Tryz.func108 rfl rfl rfl ?_;intro args os C rs os' hc hC;unfold l6 at hc;split at hc;case h_2=>cases hc
 rename_i n d;cases hc;refine v_h (Av hB) fun X hP hT hr hG=> ?_;have hU:=qf.eq_1;unfold qf at hT;have hX:=ai @F0.eq_1<|ai @wa.eq_1<| @Ad.eq_1;simp only[Tryz.f108,aC,al,ioB];refine s_g hG ?_;refine s_q hG ?_ ?_
 ·try simp only[ba]
  exact Pm hC
 refine cd (fun(z:Int)=>(⟨[(2,.l (.ownP 2 0)),(3,.l (.ownP 3 0)),(4,.l (.ownP 4 0)),(5,.l (.ownP 5 0))],[(2,.box 89 [.z .bool n.1,.z (.slice (.int .u32)) n.2]),(3,.box 89 [.z .bool d.1,.z (.slice (.int .u32)) d.2]),(4,.box 91 [.z .bool false,.val (.slice none 0 0),.z .bool false,.val (.slice none 0 0)]),(5,.box 89 [.z .bool (enc z).1,.z (.slice (.int .u32)) (enc z).2])]⟩:aa)) (fun z=>z=dv (dec n) (dec d)) ?_ ?_
 ·refine s_g hG ?_;refine ao ?_ ?_
  ·intro hb0;(try simp only[bt] at hb0);refine ag hG ?_ ?_
   ·(try simp only[ba]);exact Pn hC
   show ∃ z,_;refine q_l ?_;(try simp only[pe,bS]);first|exact⟨_,rfl,rfl,P1 hC hb0⟩|exact⟨_,rfl,rfl,P2 hC hb0⟩
  ·intro hb0;(try simp only[bf] at hb0);refine aq ?_;show ∃ z,_;refine q_l ?_;(try simp only[pe,bS]);first|exact⟨_,rfl,rfl,P1 hC hb0⟩|exact⟨_,rfl,rfl,P2 hC hb0⟩
 rintro g hg;try dsimp only at hg
 subst hg;have hp:=mk_pos hC;refine ak (s_q hG ?_ ?_)
 ·try simp only[ba]
  (repeat' (first|apply And.intro|intro _))<;>(try simp only[decide_eq_true_eq,decide_eq_false_iff_not,Bool.not_eq_true',beq_iff_eq,Int.toNat_natCast] at*)<;>first|assumption|omega|trivial|(simp_all;done)|(simp_all;omega)
 refine ao ?_ ?_
 ·intro hb1;try simp only[bt] at hb1
  refine s_q hG ?_ ?_
  ·(try simp only[ba]);exact(Kk hC).1
  refine ag hG ?_ ?_
  ·(try simp only[ba]);exact(Kk hC).2
  refine ah (s_g hG ?_);refine ay (q_e [] ?_);simp only[pe,bS];exact(mn hC.2.2.1).symm
 ·intro hb1;try simp only[bf] at hb1
  refine aq (ah ?_);refine s_g hG ?_;refine ay (q_e [] ?_);exact Po hC hb1
def qg(B:aj):Tab:={types:= [(89,tyW),(91,tyN)],elems:= [],cons:= [(108,l6),(109,Af),(110,Ae)],hint:= [],N:=22,base:=B}
theorem Aw{B:aj}(hB:aB B):aG Tryz.prog (qg B):=⟨⟨tc gD (tc ty91 (ae)),af,by simp only[qg,ioB];omega⟩,aE (cc Tryz.func108 (lH hB) (cc Tryz.func109 (xL hB) (cc Tryz.func110 (xK hB) (aA)))),by kernel_rfl⟩
def l7:Con:=fun l os=>match l,os with
 | [.z (.st (.pair (.st (.pair .bool (.slice (.int .u32)))) (.st (.pair .bool (.slice (.int .u32)))))) x,.z (.st (.pair (.st (.pair .bool (.slice (.int .u32)))) (.st (.pair .bool (.slice (.int .u32)))))) y],[]=>some (gh x y,[.z tyN (bo (bD x+bD y))],[])
 |_,_=>none
theorem lI{B:aj}(hB:aB B):Valid B Tryz.prog 58 l7:=by
 refine ab (Aw hB).tab Tryz.func58 rfl rfl rfl ?_;intro args os C rs os' hc hC;unfold l7 at hc;split at hc;case h_2=>cases hc
 rename_i x y;cases hc;refine v_h (Aw hB) fun X hP hT hr hG=> ?_;have hU:=qg.eq_1;unfold qg at hT;have hX:=ai @Ae.eq_1<|ai @l6.eq_1<| @Af.eq_1;simp only[Tryz.f58,aC,al,ioB];refine s_g hG ?_;refine s_d hG ?_ ?_
 ·try simp only[ba]
  exact G1 hC
 refine ay (q_e [] ?_);simp only[pe2];exact Kl hC
def qh(B:aj):Tab:={types:= [(89,tyW),(91,tyN)],elems:= [],cons:= [(148,Ad)],hint:= [],N:=9,base:=B}
theorem Ax{B:aj}(hB:aB B):aG Tryz.prog (qh B):=⟨⟨tc gD (tc ty91 (ae)),af,by simp only[qh,ioB];omega⟩,aE (cc Tryz.func148 (xG hB) (aA)),by kernel_rfl⟩
def F3:Con:=fun l os=>match l,os with
 | [.z (.st (.pair (.st (.pair .bool (.slice (.int .u32)))) (.st (.pair .bool (.slice (.int .u32)))))) x],[]=>some (NOK x/\lq (bD x)<=QC,[.z tyN (bo (-bD x))],[])
 |_,_=>none
theorem H9{B:aj}(hB:aB B):Valid B Tryz.prog 111 F3:=by
 refine ab (Ax hB).tab Tryz.func111 rfl rfl rfl ?_;intro args os C rs os' hc hC;unfold F3 at hc;split at hc;case h_2=>cases hc
 rename_i x;cases hc;refine v_h (Ax hB) fun X hP hT hr hG=> ?_;have hU:=qh.eq_1;unfold qh at hT;have hX:= @Ad.eq_1;simp only[Tryz.f111,aC,al,ioB];refine s_g hG ?_;refine s_d hG ?_ ?_
 ·try simp only[ba]
  exact G2 hC
 refine ay (q_e [] ?_);exact Km hC.1
def qk(B:aj):Tab:={types:= [(91,tyN)],elems:= [],cons:= [(58,l7),(111,F3)],hint:= [],N:=9,base:=B}
theorem Ay{B:aj}(hB:aB B):aG Tryz.prog (qk B):=⟨⟨tc ty91 (ae),af,by simp only[qk,ioB];omega⟩,aE (cc Tryz.func58 (lI hB) (cc Tryz.func111 (H9 hB) (aA))),by kernel_rfl⟩
def fi:Con:=fun l os=>match l,os with
 | [.z (.st (.pair (.st (.pair .bool (.slice (.int .u32)))) (.st (.pair .bool (.slice (.int .u32)))))) x,.z (.st (.pair (.st (.pair .bool (.slice (.int .u32)))) (.st (.pair .bool (.slice (.int .u32)))))) y],[]=>some (gh x y,[.z tyN (bo (bD x-bD y))],[])
 |_,_=>none
theorem wb{B:aj}(hB:aB B):Valid B Tryz.prog 60 fi:=by
 refine ab (Ay hB).tab Tryz.func60 rfl rfl rfl ?_;intro args os C rs os' hc hC;unfold fi at hc;split at hc;case h_2=>cases hc
 rename_i x y;cases hc;refine v_h (Ay hB) fun X hP hT hr hG=> ?_;have hU:=qk.eq_1;unfold qk at hT;have hX:=ai @l7.eq_1<| @F3.eq_1;simp only[Tryz.f60,aC,al,ioB];refine s_g hG ?_;refine s_d hG ?_ ?_
 ·try simp only[ba]
  exact G3 hC
 refine ay (q_e [] ?_);simp only[pe2];exact Kn x y
def ql(B:aj):Tab:={types:= [(89,tyW),(91,tyN)],elems:= [],cons:= [(108,l6),(109,Af)],hint:= [],N:=16,base:=B}
theorem Az{B:aj}(hB:aB B):aG Tryz.prog (ql B):=⟨⟨tc gD (tc ty91 (ae)),af,by simp only[ql,ioB];omega⟩,aE (cc Tryz.func108 (lH hB) (cc Tryz.func109 (xL hB) (aA))),by kernel_rfl⟩
def ee:Con:=fun l os=>match l,os with
 | [.z (.st (.pair (.st (.pair .bool (.slice (.int .u32)))) (.st (.pair .bool (.slice (.int .u32)))))) x,.z (.st (.pair (.st (.pair .bool (.slice (.int .u32)))) (.st (.pair .bool (.slice (.int .u32)))))) y],[]=>some (gh x y,[.z tyN (bo (bD x*bD y))],[])
 |_,_=>none
theorem lJ{B:aj}(hB:aB B):Valid B Tryz.prog 105 ee:=by
 refine ab (Az hB).tab Tryz.func105 rfl rfl rfl ?_;intro args os C rs os' hc hC;unfold ee at hc;split at hc;case h_2=>cases hc
 rename_i x y;cases hc;refine v_h (Az hB) fun X hP hT hr hG=> ?_;have hU:=ql.eq_1;unfold ql at hT;have hX:=ai @l6.eq_1<| @Af.eq_1;simp only[Tryz.f105,aC,al,ioB];refine s_g hG ?_;refine s_d hG ?_ ?_
 ·try simp only[ba]
  exact G4 hC
 refine ay (q_e [] ?_);simp only[pe2];exact Ko hC
def qm(B:aj):Tab:={types:= [(89,tyW),(91,tyN)],elems:= [],cons:= [(108,l6),(109,Af)],hint:= [],N:=16,base:=B}
theorem AA{B:aj}(hB:aB B):aG Tryz.prog (qm B):=⟨⟨tc gD (tc ty91 (ae)),af,by simp only[qm,ioB];omega⟩,aE (cc Tryz.func108 (lH hB) (cc Tryz.func109 (xL hB) (aA))),by kernel_rfl⟩
def fj:Con:=fun l os=>match l,os with
 | [.z (.st (.pair (.st (.pair .bool (.slice (.int .u32)))) (.st (.pair .bool (.slice (.int .u32)))))) x,.z (.st (.pair (.st (.pair .bool (.slice (.int .u32)))) (.st (.pair .bool (.slice (.int .u32)))))) y],[]=>some (gh x y/\bD y≠0,[.z tyN (bo (bD x/bD y))],[])
 |_,_=>none
theorem wc{B:aj}(hB:aB B):Valid B Tryz.prog 119 fj:=by
 refine ab (AA hB).tab Tryz.func119 rfl rfl rfl ?_;intro args os C rs os' hc hC;unfold fj at hc;split at hc;case h_2=>cases hc
 rename_i x y;cases hc;refine v_h (AA hB) fun X hP hT hr hG=> ?_;have hU:=qm.eq_1;unfold qm at hT;have hX:=ai @l6.eq_1<| @Af.eq_1;simp only[Tryz.f119,aC,al,ioB];refine s_g hG ?_;refine s_d hG ?_ ?_
 ·try simp only[ba]
  exact G5 hC
 refine ay (q_e [] ?_);simp only[pe2];exact Kq hC.1
def qn(B:aj):Tab:={types:= [(89,tyW),(91,tyN)],elems:= [],cons:= [(154,py)],hint:= [],N:=6,base:=B}
theorem AB{B:aj}(hB:aB B):aG Tryz.prog (qn B):=⟨⟨tc gD (tc ty91 (ae)),af,by simp only[qn,ioB];omega⟩,aE (cc Tryz.func154 (xH hB) (aA)),by kernel_rfl⟩
def kU:Con:=fun l os=>match l,os with
 | [.z (.st (.pair (.st (.pair .bool (.slice (.int .u32)))) (.st (.pair .bool (.slice (.int .u32)))))) x],[]=>some (NOK x,[.z (.int .i64) (aZ (bD x).num 0)],[])
 |_,_=>none
theorem oA{B:aj}(hB:aB B):Valid B Tryz.prog 114 kU:=by
 refine ab (AB hB).tab Tryz.func114 rfl rfl rfl ?_;intro args os C rs os' hc hC;unfold kU at hc;split at hc;case h_2=>cases hc
 rename_i x;cases hc;refine v_h (AB hB) fun X hP hT hr hG=> ?_;have hU:=qn.eq_1;unfold qn at hT;have hX:= @py.eq_1;simp only[Tryz.f114,aC,al,ioB];refine s_g hG ?_;refine s_q hG ?_ ?_
 ·try simp only[ba]
  exact hC.w1
 refine ay (q_e [] ?_);rw[hC.d1]
def qo(B:aj):Tab:={types:= [(3,(.int .i64)),(89,tyW),(91,tyN)],elems:= [],cons:= [(108,l6),(133,jf)],hint:= [],N:=10,base:=B}
theorem AC{B:aj}(hB:aB B):aG Tryz.prog (qo B):=⟨⟨tc ty3 (tc gD (tc ty91 (ae))),af,by simp only[qo,ioB];omega⟩,aE (cc Tryz.func108 (lH hB) (cc Tryz.func133 (pV hB) (aA))),by kernel_rfl⟩
def Ia:Con:=fun l os=>match l,os with
 | [.z (.int .i64) n,.z (.int .i64) d],[]=>some (I64 n/\I64 d/\d≠0,[.z tyN (bo (Rat.divInt n d))],[])
 |_,_=>none
theorem we{B:aj}(hB:aB B):Valid B Tryz.prog 124 Ia:=by
 refine ab (AC hB).tab Tryz.func124 rfl rfl rfl ?_;intro args os C rs os' hc hC;unfold Ia at hc;split at hc;case h_2=>cases hc
 rename_i n d;cases hc;refine v_h (AC hB) fun X hP hT hr hG=> ?_;have hU:=qo.eq_1;unfold qo at hT;have hX:=ai @l6.eq_1<| @jf.eq_1;simp only[Tryz.f124,aC,al,ioB];refine s_g hG ?_;refine s_q hG ?_ ?_
 ·try simp only[ba]
  exact Kr hC
 refine ay (q_e [] ?_);simp only[pe2];exact Nn n d
def qp(B:aj):Tab:={types:= [(3,(.int .i64)),(91,tyN)],elems:= [],cons:= [(124,Ia)],hint:= [],N:=2,base:=B}
theorem AD{B:aj}(hB:aB B):aG Tryz.prog (qp B):=⟨⟨tc ty3 (tc ty91 (ae)),af,by simp only[qp,ioB];omega⟩,aE (cc Tryz.func124 (we hB) (aA)),by kernel_rfl⟩
def ef:Con:=fun l os=>match l,os with
 | [],[]=>some (True,[.z tyN (bo 0)],[])
 |_,_=>none
theorem lK{B:aj}(hB:aB B):Valid B Tryz.prog 113 ef:=by
 refine ab (AD hB).tab Tryz.func113 rfl rfl rfl ?_;intro args os C rs os' hc hC;unfold ef at hc;split at hc;case h_2=>cases hc
 cases hc;refine v_h (AD hB) fun X hP hT hr hG=> ?_;have hU:=qp.eq_1;unfold qp at hT;have hX:= @Ia.eq_1;simp only[Tryz.f113,aC,al,ioB];refine s_g hG ?_;refine s_q hG ?_ ?_
 ·try simp only[ba]
  exact⟨by unfold I64;omega,by unfold I64;omega,by decide⟩
 refine ay (q_e [] ?_);simp only[pe2];rw[zero_divInt]
def qq(B:aj):Tab:={types:= [(3,(.int .i64)),(87,(.slice (.int .u32))),(89,tyW),(91,tyN),(161,(.int .u32))],elems:= [],cons:= [],hint:= [],N:=16,base:=B}
theorem AE{B:aj}(hB:aB B):aG Tryz.prog (qq B):=⟨⟨tc ty3 (tc ik (tc gD (tc ty91 (tc fH (ae))))),af,by simp only[qq,ioB];omega⟩,bG rfl,by kernel_rfl⟩
def qs:Con:=fun l os=>match l,os with
 | [.z (.st (.pair (.st (.pair .bool (.slice (.int .u32)))) (.st (.pair .bool (.slice (.int .u32)))))) x],[]=>some (NOK x,[.z .bool (decide ((bD x).den=1))],[])
 |_,_=>none
theorem Ib{B:aj}(hB:aB B):Valid B Tryz.prog 170 qs:=by
 refine ab (AE hB).tab Tryz.func170 rfl rfl rfl ?_;intro args os C rs os' hc hC;unfold qs at hc;split at hc;case h_2=>cases hc
 rename_i x;cases hc;refine v_h (AE hB) fun X hP hT hr hG=> ?_;have hU:=qq.eq_1;unfold qq at hT;have hX:=Bool.not_true;simp only[Tryz.f170,aC,al,ioB];refine s_g hG ?_;refine s_q hG ?_ ?_
 ·try simp only[ba]
  (repeat' (first|apply And.intro|intro _))<;>(try simp only[decide_eq_true_eq,decide_eq_false_iff_not,Bool.not_eq_true',beq_iff_eq,Int.toNat_natCast] at*)<;>first|assumption|omega|trivial|(simp_all;done)|(simp_all;omega)
 refine ay (q_e [] ?_);exact CO hC
def qt(B:aj):Tab:={types:= [(3,(.int .i64)),(89,tyW),(91,tyN)],elems:= [],cons:= [(169,pU)],hint:= [],N:=17,base:=B}
theorem AF{B:aj}(hB:aB B):aG Tryz.prog (qt B):=⟨⟨tc ty3 (tc gD (tc ty91 (ae))),af,by simp only[qt,ioB];omega⟩,aE (cc Tryz.func169 (OE hB) (aA)),by kernel_rfl⟩
def oC:Con:=fun l os=>match l,os with
 | [.z (.st (.pair (.st (.pair .bool (.slice (.int .u32)))) (.st (.pair .bool (.slice (.int .u32)))))) x,.z (.int .i64) k],[]=>some (NOK x/\lq (bD x)<=QC,[.z .bool (decide (cS (bD x).num<=k/\cS ((bD x).den:Int)<=k))],[])
 |_,_=>none
theorem wg{B:aj}(hB:aB B):Valid B Tryz.prog 129 oC:=by
 refine ab (AF hB).tab Tryz.func129 rfl rfl rfl ?_;intro args os C rs os' hc hC;unfold oC at hc;split at hc;case h_2=>cases hc
 rename_i x k;cases hc;refine v_h (AF hB) fun X hP hT hr hG=> ?_;have hU:=qt.eq_1;unfold qt at hT;have hX:= @pU.eq_1;simp only[Tryz.f129,aC,al,ioB];refine s_g hG ?_;refine s_q hG ?_ ?_
 ·try simp only[ba]
  exact⟨(jV hC).1,id,fun h=>⟨h,(jV hC).2⟩,id⟩
 refine ay (q_e [] ?_);exact G6 k hC.1
def qu(B:aj):Tab:={types:= [(89,tyW),(91,tyN)],elems:= [],cons:= [],hint:= [],N:=8,base:=B}
theorem AG{B:aj}(hB:aB B):aG Tryz.prog (qu B):=⟨⟨tc gD (tc ty91 (ae)),af,by simp only[qu,ioB];omega⟩,bG rfl,by kernel_rfl⟩
def qv:Con:=fun l os=>match l,os with
 | [.z (.st (.pair (.st (.pair .bool (.slice (.int .u32)))) (.st (.pair .bool (.slice (.int .u32)))))) x],[]=>some (True,[.z tyW x.1,.z tyW x.2],[])
 |_,_=>none
theorem Ic{B:aj}(hB:aB B):Valid B Tryz.prog 167 qv:=by
 refine ab (AG hB).tab Tryz.func167 rfl rfl rfl ?_;intro args os C rs os' hc hC;unfold qv at hc;split at hc;case h_2=>cases hc
 rename_i x;cases hc;refine v_h (AG hB) fun X hP hT hr hG=> ?_;have hU:=qu.eq_1;unfold qu at hT;have hX:=Bool.not_true;simp only[Tryz.f167,aC,al,ioB];refine s_g hG ?_;refine s_d hG ?_ ?_;·first|trivial|omega|(simp;done)|(simp;omega)
 refine ay (q_e [] ?_);trivial
def qw(B:aj):Tab:={types:= [(9,.str),(89,tyW),(91,tyN)],elems:= [],cons:= [(144,D6),(170,qs)],hint:= [],N:=16,base:=B}
theorem AH{B:aj}(hB:aB B):aG Tryz.prog (qw B):=⟨⟨tc ty9 (tc gD (tc ty91 (ae))),af,by simp only[qw,ioB];omega⟩,aE (cc Tryz.func144 (M5 hB) (cc Tryz.func170 (Ib hB) (aA))),by kernel_rfl⟩
def xZ:Con:=fun l os=>match l,os with
 | [.z (.st (.pair (.st (.pair .bool (.slice (.int .u32)))) (.st (.pair .bool (.slice (.int .u32)))))) x],[]=>some (NOK x/\lq (bD x)<=QC,[.z .str (bk (bD x))],[])
 |_,_=>none
theorem Ie{B:aj}(hB:aB B):Valid B Tryz.prog 130 xZ:=by
 refine ab (AH hB).tab Tryz.func130 rfl rfl rfl ?_;intro args os C rs os' hc hC;unfold xZ at hc;split at hc;case h_2=>cases hc
 rename_i x;cases hc;refine v_h (AH hB) fun X hP hT hr hG=> ?_;have hU:=qw.eq_1;unfold qw at hT;have hX:=ai @qs.eq_1<| @D6.eq_1;simp only[Tryz.f130,aC,al,ioB];refine s_g hG ?_;refine ak (s_q hG ?_ ?_)
 ·try simp only[ba]
  exact hC.1
 refine ao ?_ ?_
 ·intro hb0;try simp only[bt] at hb0
  refine s_q hG ?_ ?_
  ·(try simp only[ba]);exact zr hC
  refine ay (aw ?_);refine q_e [] ?_;exact G7 hC.1 hb0
 ·intro hb0;try simp only[bf] at hb0
  refine aq (ah ?_);refine s_d hG ?_ ?_
  ·(try simp only[ba]);exact zt hC
  refine ay (q_e [] ?_);exact G8 hC.1 hb0
end Go.Proofs.YtdojbabpnaifoaaGreatDoor
end
section
namespace Go.Proofs
open Go.RowKit Go.Cm
def Ig:Con:=fun l os=>match l,os with
 | [.z .str s,.z .str t],[]=>some (t= [47]/\s.length<4294967281,[.z .str (tN s),.z .str (if bE s=true then tR s else []),.z .bool (bE s)],[])
 |_,_=>none
theorem wh{B:aj}(hB:aB B):Valid B Tryz.prog 131 Ig:=by
 intro args os C rs os' hc hC O w vals ρ0 hOn hIo hO hOI hargs hown hap;unfold Ig at hc;split at hc;case h_2=>cases hc
 rename_i s t;cases hc;obtain⟨u,v,rfl,hu,hv⟩:=yQ hargs;rw[fv hv,fv hu];obtain⟨rfl,h1⟩:=hC;obtain⟨m,hm⟩:=hB.2 w hOn;have hsz:(⟨s.toArray⟩:ByteArray).size=s.length:=by simp[ByteArray.size]
 refine(Tryz.strings_Cut ⟨s.toArray⟩ ⟨[47].toArray⟩ m w (by rw[hsz];exact h1) hm).mono fun e w' ⟨he,n,hw⟩=> ?_;have hb:Below w.heap.size w w':=by rw[hw];exact⟨rfl,rfl,rfl,Nat.le_refl _,fun _ _=>rfl⟩
 have e1:Lib.cut (⟨s.toArray⟩:ByteArray).data.toList (⟨[47].toArray⟩:ByteArray).data.toList=(tN s,if bE s=true then tR s else [],bE s):=by simpa using G9 s
 rw[e1] at he;subst he;exact mR (vs:= [.string ⟨(tN s).toArray⟩,.string ⟨(if bE s=true then tR s else []).toArray⟩,.bool (bE s)]) hb (fun H M=>⟨eR (ρ:=fun _=>undef),eR (ρ:=fun _=>undef),bX (ρ:=fun _=>undef),trivial⟩)
end Go.Proofs
end
section
namespace Go.Proofs.YtdojbabpnaifoaaGreatDoor
open Go Go.Cm Go.Proofs
def F4(B:aj):Tab:={types:= [(3,(.int .i64)),(5,(.int .u8)),(9,.str),(47,(.slice (.int .u8)))],elems:= [(47,5)],cons:= [(172,eP)],hint:= [],N:=38,base:=B}
theorem MA{B:aj}(hB:aB B):aG Tryz.prog (F4 B):=⟨⟨tc ty3 (tc ty5 (tc ty9 (tc PY (ae)))),aQ (by kernel_rfl) (af),by simp only[F4,ioB];omega⟩,aE (cc Tryz.func172 (Fx hB) (aA)),by kernel_rfl⟩
def x4:Con:=fun l os=>match l,os with
 | [.z .str s],[]=>some (mV s,[.z (.int .i64) (chk s)],[])
 |_,_=>none
theorem ON{B:aj}(hB:aB B):Valid B Tryz.prog 142 x4:=by
 refine ab (MA hB).tab Tryz.func142 rfl rfl rfl ?_;intro args os C rs os' hc hC;unfold x4 at hc;split at hc;case h_2=>cases hc
 rename_i s;cases hc;refine v_h (MA hB) fun X hP hT hr hG=> ?_;have hU:=F4.eq_1;unfold F4 at hT;have hX:= @eP.eq_1;simp only[Tryz.f142,aC,al,ioB];refine s_g hG ?_;refine DX (s_g hG ?_);refine s_g hG ?_;refine ak (DW ?_);refine ah (cd (fun(z:Int)=>(⟨[(4,.l (.z (.int .i64) z))],[]⟩:aa)) (fun z=>z=chk s) ?_ ?_)
 ·refine av (s_g hG ?_);refine ao ?_ ?_;·intro hb0;(try simp only[bt] at hb0);refine aq (aI ?_);show ∃ z,_;refine q_l ?_;first|(rw[hb0];exact kA.symm)|exact(gU hb0 ((gV _).1 hb1)).symm|exact(lp hb0 (dP hb1) (by rw[du] at hb2;omega) (kB hb3)).symm|(rw[du] at hb2;rw[ij hb0 (dP hb1) (by rw[List.take_of_length_le (by omega)] at g2;exact g2)];first|rw[if_pos (by omega)]|rw[if_neg (by omega)])
  ·intro hb0;(try simp only[bf] at hb0);refine s_q hG ?_ ?_
   ·(try simp only[ba]);exact JM _
   refine ao ?_ ?_
   ·(intro hb1;(try simp only[bt] at hb1);refine ag hG ?_ ?_;·first|trivial|omega|(simp;done)|(simp;omega));refine aI ?_;show ∃ z,_;refine q_l ?_;first|(rw[hb0];exact kA.symm)|exact(gU hb0 ((gV _).1 hb1)).symm|exact(lp hb0 (dP hb1) (by rw[du] at hb2;omega) (kB hb3)).symm|(rw[du] at hb2;rw[ij hb0 (dP hb1) (by rw[List.take_of_length_le (by omega)] at g2;exact g2)];first|rw[if_pos (by omega)]|rw[if_neg (by omega)])
   ·intro hb1;(try simp only[bf] at hb1);refine ak (s_q hG ?_ ?_)
    ·(try simp only[ba]);have:=eM s [45];have hC:s.length<70368744177664:=hC;omega
    (refine av (bj (fun(z:Nat)=>(⟨[(0,.l (.z .str s)),(3,.l (.z .str (ar s [45]))),(4,.l (.z (.int .i64) 0)),(10,.l (.z (.slice (.int .u8)) (bytesOf (ar s [45])))),(11,.l (.z (.int .i64) ((bytesOf (ar s [45])).length:Int))),(12,.l (.z (.int .i64) (z:Int)))],[]⟩:aa)) (fun z=>z<=(ar s [45]).length/\(List.take z (ar s [45])).all ff=true) (fun z=>(ar s [45]).length-z) 0 ?_ ?_ ?_);·refine q_l ?_;rfl);·exact⟨Nat.zero_le _,rfl⟩
    ·rintro k ⟨g1,g2⟩;(try dsimp only at g1 g2);have hS:(ar s [45]).length<70368744177664:=Nat.lt_of_le_of_lt (eM s _) hC;refine s_g hG ?_;refine ak (ao ?_ ?_)
     ·intro hb2;(try simp only[bt] at hb2);refine aq (ah ?_);refine ak (av ?_);refine s_q hG ?_ ?_
      ·(try simp only[ba]);exact⟨by omega,hb2⟩
      refine s_q hG ?_ ?_
      ·(try simp only[ba]);exact⟨fun h=>h,fun h=>by rw[h];rfl⟩
      refine ao ?_ ?_;·intro hb3;(try simp only[bt] at hb3);refine s_g hG ?_;refine bd (iL rfl ?_);refine aD (az ?_);refine iL rfl ?_;refine aD (ax ?_);show ∃ z,_;refine q_l ?_;first|(rw[hb0];exact kA.symm)|exact(gU hb0 ((gV _).1 hb1)).symm|exact(lp hb0 (dP hb1) (by rw[du] at hb2;omega) (kB hb3)).symm|(rw[du] at hb2;rw[ij hb0 (dP hb1) (by rw[List.take_of_length_le (by omega)] at g2;exact g2)];first|rw[if_pos (by omega)]|rw[if_neg (by omega)])
      ·(intro hb3;(try simp only[bf] at hb3);refine aq (aI ?_);refine ah (ag hG ?_ ?_);·first|trivial|omega|(simp;done)|(simp;omega));show ∃ z,_;refine q_l ?_;rw[du] at hb2;exact⟨k+1,by rw[wo];simp,by omega,lW g2 (GK hb3),by omega⟩
     ·intro hb2;(try simp only[bf] at hb2);refine bd (aD ?_);refine az (ax ?_);refine ah (s_g hG ?_);refine ao ?_ ?_
      ·(intro hb4;(try simp only[bt] at hb4);refine ag hG ?_ ?_;·first|trivial|omega|(simp;done)|(simp;omega));refine aI ?_;show ∃ z,_;refine q_l ?_;first|(rw[hb0];exact kA.symm)|exact(gU hb0 ((gV _).1 hb1)).symm|exact(lp hb0 (dP hb1) (by rw[du] at hb2;omega) (kB hb3)).symm|(rw[du] at hb2;rw[ij hb0 (dP hb1) (by rw[List.take_of_length_le (by omega)] at g2;exact g2)];first|rw[if_pos (by omega)]|rw[if_neg (by omega)])
      ·intro hb4;(try simp only[bf] at hb4);refine aq (aI ?_);show ∃ z,_;refine q_l ?_;first|(rw[hb0];exact kA.symm)|exact(gU hb0 ((gV _).1 hb1)).symm|exact(lp hb0 (dP hb1) (by rw[du] at hb2;omega) (kB hb3)).symm|(rw[du] at hb2;rw[ij hb0 (dP hb1) (by rw[List.take_of_length_le (by omega)] at g2;exact g2)];first|rw[if_pos (by omega)]|rw[if_neg (by omega)])
 rintro z hz;try dsimp only at hz
 refine s_g hG ?_;refine ay (gp ?_);refine q_e [] ?_;exact hz
def qx(B:aj):Tab:={types:= [(3,(.int .i64)),(4,.bool),(9,.str),(87,(.slice (.int .u32))),(89,tyW),(161,(.int .u32)),(164,(.int .u64))],elems:= [(87,161)],cons:= [(150,dX),(172,eP),(173,wV)],hint:= [],N:=44,base:=B}
theorem AJ{B:aj}(hB:aB B):aG Tryz.prog (qx B):=⟨⟨tc ty3 (tc ty4 (tc ty9 (tc ik (tc gD (tc fH (tc mY (ae))))))),aQ (by kernel_rfl) (af),by simp only[qx,ioB];omega⟩,aE (cc Tryz.func150 (j7 hB) (cc Tryz.func172 (Fx hB) (cc Tryz.func173 (M3 hB) (aA)))),by kernel_rfl⟩
def x5:Con:=fun l os=>match l,os with
 | [.z .str s],[]=>some (RF s/\s.length<CAP,[.z tyW (enc (an s))],[])
 |_,_=>none
theorem Ih{B:aj}(hB:aB B):Valid B Tryz.prog 132 x5:=by
 refine ab (AJ hB).tab Tryz.func132 rfl rfl rfl ?_;intro args os C rs os' hc hC;unfold x5 at hc;split at hc;case h_2=>cases hc
 rename_i s;cases hc;refine v_h (AJ hB) fun X hP hT hr hG=> ?_;have hU:=qx.eq_1;unfold qx at hT;have hX:=ai @wV.eq_1<|ai @eP.eq_1<| @dX.eq_1;simp only[Tryz.f132,aC,al,ioB];refine s_g hG ?_;refine s_g hG ?_;refine s_g hG ?_;refine ak (s_g hG ?_);refine av (bj (fun(z:Nat×List Int)=>(⟨[(3,.l (.z .str (ar s [45]))),(5,.l (.z (.int .i64) (((ar s [45]).length:Int)-9*(z.1:Int)))),(4,.l (.ownP 4 0)),(2,.l (.ownP 2 0))],[(4,.box 89 [.z .bool (decide ((ar s [45]).length<s.length)),.ownS 37]),(37,.arr (.int .u32) 161 z.2),(2,.box 89 [.z .bool false,.val (.slice none 0 0)])]⟩:aa)) (fun z=>ReadPhi (ar s [45]) z.1 z.2) (fun z=>(ar s [45]).length+9-9*z.1) (0,[]) ?_ ?_ ?_);·refine q_l ?_;exact⟨by show ((ar s [45]).length:Int)=((ar s [45]).length:Int)-9*((0:Nat):Int);omega,by congr 1;simp,by unfold ioB;omega⟩
 ·exact read_start
 ·rintro⟨r,out⟩ hz;try dsimp only at hz
  obtain⟨d1,d2,d4⟩:=gM hC.1;have d3:(ar s [45]).length<1000000000000:=Nat.lt_of_le_of_lt (eM s _) hC.2;have hz1:=hz.1;have hz4:=hz.2.2.2;refine ak (s_g hG ?_);refine ao ?_ ?_
  ·intro hb0;(try simp only[bt] at hb0);refine aq (ah ?_);refine ak (av ?_);refine s_q hG ?_ ?_
   ·(try simp only[ba]);obtain⟨e1,e2,e3⟩:=vl hb0 d3;obtain⟨q1,q2,q3,q4,q5⟩:=read_next d1 hz hb0 rfl;rw[e1,e2,e3];exact⟨⟨by omega,by omega,by omega⟩,q1,q2,q3⟩
   refine ag hG ?_ ?_
   ·(try simp only[ba]);unfold Cm.Roomy;omega
   (refine aI (ah ?_);refine ag hG ?_ ?_;·first|trivial|omega|(simp;done)|(simp;omega));show ∃ z,_;refine q_l ?_;obtain⟨e1,e2,e3⟩:=vl hb0 d3;obtain⟨q1,q2,q3,q4,q5⟩:=read_next d1 hz hb0 rfl;rw[e1,e2,e3];exact⟨r+1,by show ((ar s [45]).length:Int)-9*(r:Int)-9=((ar s [45]).length:Int)-9*((r+1:Nat):Int);omega,q4,by omega⟩
  ·intro hb0;(try simp only[bf] at hb0);refine bd (aD ?_);refine az (ax ?_);refine ah (s_q hG ?_ ?_)
   ·(try simp only[ba]);exact⟨hz.2.1,by unfold CAP;omega⟩
   refine ay (q_e [37] ?_);rw[read_end hz hb0]
def qy(B:aj):Tab:={types:= [(3,(.int .i64)),(9,.str),(91,tyN)],elems:= [],cons:= [(131,Ig),(132,x5),(133,jf)],hint:= [],N:=23,base:=B}
theorem AK{B:aj}(hB:aB B):aG Tryz.prog (qy B):=⟨⟨tc ty3 (tc ty9 (tc ty91 (ae))),af,by simp only[qy,ioB];omega⟩,aE (cc Tryz.func131 (wh hB) (cc Tryz.func132 (Ih hB) (cc Tryz.func133 (pV hB) (aA)))),by kernel_rfl⟩
def pA:Con:=fun l os=>match l,os with
 | [.z .str q],[]=>some (eA q,[.z tyN (gv q)],[])
 |_,_=>none
theorem oD{B:aj}(hB:aB B):Valid B Tryz.prog 90 pA:=by
 refine ab (AK hB).tab Tryz.func90 rfl rfl rfl ?_;intro args os C rs os' hc hC;unfold pA at hc;split at hc;case h_2=>cases hc
 rename_i q;cases hc;refine v_h (AK hB) fun X hP hT hr hG=> ?_;have hU:=qy.eq_1;unfold qy at hT;have hX:=ai @Ig.eq_1<|ai @x5.eq_1<| @jf.eq_1;simp only[Tryz.f90,aC,al,ioB];refine s_g hG ?_;refine s_q hG ?_ ?_
 ·try simp only[ba]
  exact(nT hC).1
 refine ak (s_g hG ?_);refine ao ?_ ?_
 ·intro hb0;try simp only[bt] at hb0
  refine s_q hG ?_ ?_
  ·(try simp only[ba]);exact⟨(nT hC).2.1,by unfold I64;omega⟩
  refine ay (aw ?_);refine q_e [] ?_;exact Ku hb0
 ·intro hb0;try simp only[bf] at hb0
  refine aq (ah ?_);refine s_q hG ?_ ?_
  ·(try simp only[ba]);rw[kI hb0];exact(nT hC).2
  refine ay (q_e [] ?_);rw[kI hb0];rfl
def qz(B:aj):Tab:={types:= [(3,(.int .i64)),(9,.str),(31,(.int .i64)),(46,.str),(89,tyW),(91,tyN),(151,(.st (.pair tyN (.int .i64))))],elems:= [],cons:= [(90,pA),(129,oC),(131,Ig),(133,jf),(142,x4),(147,wa),(167,qv),(168,OC)],hint:= [],N:=61,base:=B}
theorem AL{B:aj}(hB:aB B):aG Tryz.prog (qz B):=⟨⟨tc ty3 (tc ty9 (tc ju (tc jc (tc gD (tc ty91 (tc OU (ae))))))),af,by simp only[qz,ioB];omega⟩,aE (cc Tryz.func90 (oD hB) (cc Tryz.func129 (wg hB) (cc Tryz.func131 (wh hB) (cc Tryz.func133 (pV hB) (cc Tryz.func142 (ON hB) (cc Tryz.func147 (F2 hB) (cc Tryz.func167 (Ic hB) (cc Tryz.func168 (OD hB) (aA))))))))),by kernel_rfl⟩
def x6:Con:=fun l os=>match l,os with
 | [.z .str q],[]=>some (q.length<=QL,[.z (.st (.pair tyN (.int .i64))) (kH q)],[])
 |_,_=>none
theorem Ii{B:aj}(hB:aB B):Valid B Tryz.prog 128 x6:=by
 refine ab (AL hB).tab Tryz.func128 rfl rfl rfl ?_;intro args os C rs os' hc hC;unfold x6 at hc;split at hc;case h_2=>cases hc
 rename_i q;cases hc;refine v_h (AL hB) fun X hP hT hr hG=> ?_;have hU:=qz.eq_1;unfold qz at hT;have hX:=ai @x4.eq_1<|ai @OC.eq_1<|ai @Ig.eq_1<|ai @pA.eq_1<|ai @wa.eq_1<|ai @oC.eq_1<|ai @qv.eq_1<| @jf.eq_1;simp only[Tryz.f128,aC,al,ioB];refine s_g hG ?_;refine s_q hG ?_ ?_
 ·try simp only[ba]
  have h9:q.length<=1000000000:=hC;omega
 refine cd (fun(z:Unit)=>(⟨[(0,.l (.z .str q)),(2,.l (.ownP 2 0)),(3,.l (.z .str (tN q))),(4,.l (.z .str (tD q))),(5,.l (.z .bool (bE q)))],[(2,.box 151 [.z .bool false,.val (.slice none 0 0),.z .bool false,.val (.slice none 0 0),.z (.int .i64) 0])]⟩:aa)) (fun z=>True) ?_ ?_
 ·refine s_g hG ?_;refine ao ?_ ?_
  ·(intro hb0;(try simp only[bt] at hb0);refine ag hG ?_ ?_;·first|trivial|omega|(simp;done)|(simp;omega));show ∃ z,_;refine q_l ?_;first|exact xc hb0|exact kI hb0
  ·intro hb0;(try simp only[bf] at hb0);refine aq ?_;show ∃ z,_;refine q_l ?_;first|exact xc hb0|exact kI hb0
 rintro⟨⟩-;have hS:=Kv hC;refine ak (s_q hG ?_ ?_)
 ·try simp only[ba]
  exact⟨hS.1,fun h=>⟨h,hS.2⟩,fun h=>h,fun h=>by rw[h];rfl⟩
 refine ao ?_ ?_
 ·intro hb1;try simp only[bt] at hb1
  refine s_g hG ?_;refine ay (aw ?_);refine q_e [] ?_;exact Nr hb1
 ·intro hb1;try simp only[bf] at hb1
  have hF:=Nq hC hb1;refine aq (ah ?_);refine s_q hG ?_ ?_
  ·(try simp only[ba]);exact hF
  refine s_g hG ?_;refine s_q hG ?_ ?_
  ·(try simp only[ba]);unfold I64;omega
  refine ak (av ?_);refine s_d hG ?_ ?_
  ·(try simp only[ba]);simp only[pe,gv,bS];exact⟨fun h=>⟨h,enc_ok _,enc_ok _,P3 hF⟩,fun h=>h,fun h=>h,fun h=>⟨h,Pq hF⟩,fun h=>⟨h,enc_ok _,enc_ok _,P4 hF⟩,fun h=>h,fun h=>⟨h,fun h2=>by rw[h,h2];rfl⟩,fun h=>h⟩
  refine ao ?_ ?_;·intro hb2;(try simp only[bt] at hb2);simp only[pe,gv,bS] at hb2;refine s_g hG ?_;refine ay (bg ?_);refine aw (q_e [] ?_);exact Ns hF hb2
  ·intro hb2;(try simp only[bf] at hb2);simp only[pe,gv,bS] at hb2;have hR:=P5 hF hb2;refine s_q hG ?_ ?_
   ·(try simp only[ba]);exact Nt hR
   (refine ao ?_ ?_;·intro hb3;(try simp only[bt] at hb3);refine s_g hG ?_;refine ay (bg ?_);refine aw (q_e [] ?_);exact Ps hR hb3);·intro hb3;(try simp only[bf] at hb3);refine aq (aI ?_);refine ah (s_g hG ?_);refine ay (q_e [] ?_);exact P6 hR hb3
def qA(B:aj):Tab:={types:= [(46,.str),(151,(.st (.pair tyN (.int .i64))))],elems:= [],cons:= [(128,x6)],hint:= [],N:=6,base:=B}
theorem AM{B:aj}(hB:aB B):aG Tryz.prog (qA B):=⟨⟨tc jc (tc OU (ae)),af,by simp only[qA,ioB];omega⟩,aE (cc Tryz.func128 (Ii hB) (aA)),by kernel_rfl⟩
def lL:Con:=fun l os=>match l,os with
 | [.z .str q],[]=>some (q.length<=QL,[.z (.int .i64) (cb q)],[])
 |_,_=>none
theorem wj{B:aj}(hB:aB B):Valid B Tryz.prog 87 lL:=by
 refine ab (AM hB).tab Tryz.func87 rfl rfl rfl ?_;intro args os C rs os' hc hC;unfold lL at hc;split at hc;case h_2=>cases hc
 rename_i q;cases hc;refine v_h (AM hB) fun X hP hT hr hG=> ?_;have hU:=qA.eq_1;unfold qA at hT;have hX:= @x6.eq_1;simp only[Tryz.f87,aC,al,ioB];refine s_g hG ?_;refine s_q hG ?_ ?_
 ·try simp only[ba]
  exact hC
 refine ay (q_e [] ?_);exact Ha q
def qB(B:aj):Tab:={types:= [(3,(.int .i64)),(22,(.slice .str)),(46,.str),(78,tyP)],elems:= [(78,91)],cons:= [(90,pA)],hint:= [18],N:=22,base:=B}
theorem AN{B:aj}(hB:aB B):aG Tryz.prog (qB B):=⟨⟨tc ty3 (tc eK (tc jc (tc Nf (ae)))),aQ (by kernel_rfl) (af),by simp only[qB,ioB];omega⟩,aE (cc Tryz.func90 (oD hB) (aA)),by kernel_rfl⟩
def F5:Con:=fun l os=>match l,os with
 | [.z (.slice .str) l],[]=>some (l.length<QL/\∀ q∈l,eA q,[.own tyN 91 (l.map gv)],[])
 |_,_=>none
theorem Ij{B:aj}(hB:aB B):Valid B Tryz.prog 106 F5:=by
 refine ab (AN hB).tab Tryz.func106 rfl rfl rfl ?_;intro args os C rs os' hc hC;unfold F5 at hc;split at hc;case h_2=>cases hc
 rename_i l;cases hc;refine v_h (AN hB) fun X hP hT hr hG=> ?_;have hU:=qB.eq_1;unfold qB at hT;have hX:= @pA.eq_1;simp only[Tryz.f106,aC,al,ioB];have hl:l.length<1000000000:=hC.1;refine s_g hG ?_;refine s_q hG ?_ ?_
 ·try simp only[ba]
  exact⟨by omega,by omega,tw (by omega)⟩
 refine ak (s_g hG ?_);refine av (bj (fun(z:Nat)=>(⟨[(3,.l (.ownS 8)),(9,.l (.z (.slice .str) l)),(10,.l (.z (.int .i64) (l.length:Int))),(11,.l (.z (.int .i64) (z:Int)))],[(8,.arr tyN 91 ((l.take z).map gv))]⟩:aa)) (fun z=>z<=l.length) (fun z=>l.length-z) 0 ?_ ?_ ?_);·refine q_l ?_;exact⟨rfl,rfl⟩
 ·omega
 ·rintro k g1;try dsimp only at g1
  refine s_g hG ?_;refine ak (ao ?_ ?_)
  ·intro hb0;(try simp only[bt] at hb0);refine aq (ah ?_);refine ak (av ?_);refine s_q hG ?_ ?_
   ·(try simp only[ba]);exact⟨by omega,hb0⟩
   refine ag hG ?_ ?_
   ·(try simp only[ba]);exact⟨hC.2 _ (dW (t:= .str) (by omega)),tw (by simp;omega)⟩
   (refine aI (ah ?_);refine ag hG ?_ ?_;·first|trivial|omega|(simp;done)|(simp;omega));show ∃ z,_;refine q_l ?_;exact list_round (by omega) hC.1
  ·intro hb0;(try simp only[bf] at hb0);refine bd (aD ?_);refine az (ax ?_);refine ah (s_g hG ?_);refine ay (q_e [] ?_);exact⟨trivial,by rw[List.take_of_length_le (by omega)]⟩
def qC(B:aj):Tab:={types:= [(3,(.int .i64)),(22,(.slice .str)),(78,tyP),(91,tyN)],elems:= [(22,46)],cons:= [(129,oC),(130,xZ)],hint:= [],N:=26,base:=B}
theorem AO{B:aj}(hB:aB B):aG Tryz.prog (qC B):=⟨⟨tc ty3 (tc eK (tc Nf (tc ty91 (ae)))),aQ (by kernel_rfl) (af),by simp only[qC,ioB];omega⟩,aE (cc Tryz.func129 (wg hB) (cc Tryz.func130 (Ie hB) (aA))),by kernel_rfl⟩
def oE:Con:=fun l os=>match l,os with
 | [.z (.slice (.st (.pair (.st (.pair .bool (.slice (.int .u32)))) (.st (.pair .bool (.slice (.int .u32))))))) l],[]=>some (l.length<QL/\∀ x∈l,NOK x/\lq (bD x)<=QC,[.z (.slice .str) (if dw l=true then l.map fun x=>bk (bD x) else []),.z .bool (dw l)],[])
 |_,_=>none
theorem wk{B:aj}(hB:aB B):Valid B Tryz.prog 88 oE:=by
 refine ab (AO hB).tab Tryz.func88 rfl rfl rfl ?_;intro args os C rs os' hc hC;unfold oE at hc;split at hc;case h_2=>cases hc
 rename_i l;cases hc;refine v_h (AO hB) fun X hP hT hr hG=> ?_;have hU:=qC.eq_1;unfold qC at hT;have hX:=ai @oC.eq_1<| @xZ.eq_1;simp only[Tryz.f88,aC,al,ioB];have hl:l.length<1000000000:=hC.1;refine s_g hG ?_;refine s_q hG ?_ ?_
 ·try simp only[ba]
  exact⟨by omega,by omega,xd (by omega)⟩
 refine ak (s_g hG ?_);refine av (bj (fun(z:Nat)=>(⟨[(2,.l (.val (.slice none 0 0))),(3,.l (.z .bool false)),(4,.l (.ownS 9)),(10,.l (.z tyP l)),(11,.l (.z (.int .i64) (l.length:Int))),(12,.l (.z (.int .i64) (z:Int)))],[(9,.arr .str 46 ((l.take z).map fun x=>bk (bD x)))]⟩:aa)) (fun z=>z<=l.length/\dw (l.take z)=true) (fun z=>l.length-z) 0 ?_ ?_ ?_);·refine q_l ?_;exact⟨rfl,rfl⟩
 ·exact⟨by omega,by simp[dw]⟩
 ·rintro k ⟨g1,g2⟩;try dsimp only at g1 g2
  refine s_g hG ?_;refine ak (ao ?_ ?_)
  ·intro hb0;(try simp only[bt] at hb0);refine aq (ah ?_);refine ak (av ?_);refine s_q hG ?_ ?_
   ·(try simp only[ba]);exact⟨by omega,hb0⟩
   refine ak (s_q hG ?_ ?_)
   ·(try simp only[ba]);exact hC.2 _ (dW (t:=NT) (by omega))
   refine ao ?_ ?_;·intro hb1;(try simp only[bt] at hb1);refine s_g hG ?_;refine ay (aw ?_);refine bg (aw ?_);refine cR (bg ?_);refine aw (q_e [9] ?_);exact Hc (by omega) hb1
   ·intro hb1;(try simp only[bf] at hb1);refine aq (ah ?_);refine ag hG ?_ ?_
    ·(try simp only[ba]);exact⟨⟨(hC.2 _ (dW (t:=NT) (by omega))).1,(hC.2 _ (dW (t:=NT) (by omega))).2⟩,xd (by simp;omega)⟩
    (refine aI (ah ?_);refine ag hG ?_ ?_;·first|trivial|omega|(simp;done)|(simp;omega));show ∃ z,_;refine q_l ?_;exact zv (by omega) hC.1 g2 hb1
  ·intro hb0;(try simp only[bf] at hb0);refine bd (aD ?_);refine az (ax ?_);refine ah (s_g hG ?_);refine ay (q_e [9] ?_);exact Hd (by omega) g2
def qD(B:aj):Tab:={types:= [(3,(.int .i64)),(79,tyP),(91,tyN)],elems:= [],cons:= [(114,kU)],hint:= [],N:=25,base:=B}
theorem AP{B:aj}(hB:aB B):aG Tryz.prog (qD B):=⟨⟨tc ty3 (tc fG (tc ty91 (ae))),af,by simp only[qD,ioB];omega⟩,aE (cc Tryz.func114 (oA hB) (aA)),by kernel_rfl⟩
def jg:Con:=fun l os=>match l,os with
 | [.z (.slice (.st (.pair (.st (.pair .bool (.slice (.int .u32)))) (.st (.pair .bool (.slice (.int .u32))))))) p],[]=>some (Sz QC p/\p.length<=QL,[.z tyP (aH (aR (au p)))],[])
 |_,_=>none
theorem iy{B:aj}(hB:aB B):Valid B Tryz.prog 82 jg:=by
 refine ab (AP hB).tab Tryz.func82 rfl rfl rfl ?_;intro args os C rs os' hc hC;unfold jg at hc;split at hc;case h_2=>cases hc
 rename_i p;cases hc;refine v_h (AP hB) fun X hP hT hr hG=> ?_;have hU:=qD.eq_1;unfold qD at hT;have hX:= @kU.eq_1;simp only[Tryz.f82,aC,al,ioB];obtain⟨l0,rfl,hl0⟩:=hC.1.ex;have hn:=hC.2;rw[aF] at hn;have hn:l0.length<=1000000000:=hn;refine s_g hG ?_;refine ak (av ?_);refine bj (fun(z:List Rat)=>(⟨[(0,.l (.z tyP (aH z))),(2,.l (.val (.slice none 0 0)))],[]⟩:aa)) (fun z=>z.length<=l0.length/\(∀ x∈z,lq x<=QC)/\aR z=aR l0) (fun z=>z.length) l0 ?_ ?_ ?_;·simp only[ml0,ml1,Nat.reduceLT,Nat.reduceEqDiff,Nat.reduceAdd,Nat.reduceMul,Nat.reduceSub,Nat.reduceLeDiff,Nat.reduceBEq,Nat.reduceBNe,reduceIte,reduceDIte,reduceCtorEq]
 ·exact⟨Nat.le_refl _,hl0,rfl⟩
 ·rintro l ⟨g1,g2,g3⟩;try dsimp only at g1 g2 g3
  refine ak (s_q hG ?_ ?_)
  ·(try simp only[ba]);have hs:=vm (l:=l) (by omega);exact⟨id,id,hs.2,id,hs.1,id⟩
  refine ao ?_ ?_
  ·intro hb0;(try simp only[bt] at hb0);have ht:=Kw (by omega) hb0.1 hb0.2;obtain⟨n1,n2,n3,n4,n5⟩:=vn (by omega) g1 g2 g3 ht;refine aq (ah ?_);refine av (ag hG ?_ ?_)
   ·(try simp only[ba]);rw[aF,b9 (by omega)];exact⟨by omega,by omega,by omega,by omega⟩
   refine aI ?_;show ∃ z,_;refine q_l ?_;exact⟨l.dropLast,n1,n2,n3,n4,n5⟩
  ·intro hb0;(try simp only[bf] at hb0);have ht:=Kx (l:=l) (by omega) hb0;refine bd (aD ?_);refine az (ax ?_);refine ah (s_g hG ?_);refine ay (q_e [] ?_);rw[aJ,<- g3,ht]
def j8(B:aj):Tab:={types:= [(3,(.int .i64)),(79,tyP),(91,tyN)],elems:= [],cons:= [(114,kU)],hint:= [23],N:=25,free:= [10000000],base:=B}
theorem AQ{B:aj}(hB:aB B):aG Tryz.prog (j8 B):=⟨⟨tc ty3 (tc fG (tc ty91 (ae))),af,by simp only[j8,ioB];omega⟩,aE (cc Tryz.func114 (oA hB) (aA)),by kernel_rfl⟩
def MB:Con:=fun l os=>match l,os with
 | [.ownS 10000000],[.arr (.st (.pair (.st (.pair .bool (.slice (.int .u32)))) (.st (.pair .bool (.slice (.int .u32)))))) 91 p]=>some (Sz QC p/\p.length<=QL,[.own tyN 91 (aH (aR (au p)))],[.arr tyN 91 []])
 |_,_=>none
theorem Dv{B:aj}(hB:aB B):Valid B Tryz.prog 82 MB [0]:=by
 refine oV (T:=j8 B) (AQ hB).tab Tryz.func82 rfl rfl rfl (Nu (by simp only[j8];decide)) ?_;intro args os C rs os' hc hC;unfold MB at hc;split at hc;case h_2=>cases hc
 rename_i p;cases hc;refine v_h (AQ hB) fun X hP hT hr hG=> ?_;have hU:=j8.eq_1;unfold j8 at hT;have hX:=ai @kU.eq_1<| @cj.eq_def;simp only[Tryz.f82,aC,al,ioB];obtain⟨l0,rfl,hl0⟩:=hC.1.ex;have hn:=hC.2;rw[aF] at hn;have hn:l0.length<=1000000000:=hn;refine JC 10000000 1 (by simp only[hT,j8,mx0,mx1,mx2,mx3,mx4,mx5,mx6,Nat.reduceLT,Nat.reduceEqDiff,Nat.reduceAdd,Nat.reduceMul,Nat.reduceSub,Nat.reduceLeDiff,Nat.reduceBEq,Nat.reduceBNe,reduceIte,reduceDIte,reduceCtorEq];rfl) ?_;refine s_g hG ?_;refine ak (av ?_);refine bj (fun(z:List Rat)=>(⟨[(0,.l (.ownS 1)),(2,.l (.val (.slice none 0 0)))],[(1,.arr tyN 91 (aH z)),(10000000,.arr tyN 91 [])]⟩:aa)) (fun z=>z.length<=l0.length/\(∀ x∈z,lq x<=QC)/\aR z=aR l0) (fun z=>z.length) l0 ?_ ?_ ?_;·simp only[ml0,ml1,Nat.reduceLT,Nat.reduceEqDiff,Nat.reduceAdd,Nat.reduceMul,Nat.reduceSub,Nat.reduceLeDiff,Nat.reduceBEq,Nat.reduceBNe,reduceIte,reduceDIte,reduceCtorEq]
 ·exact⟨Nat.le_refl _,hl0,rfl⟩
 ·rintro l ⟨g1,g2,g3⟩;try dsimp only at g1 g2 g3
  refine ak (s_q hG ?_ ?_)
  ·(try simp only[ba]);have hs:=vm (l:=l) (by omega);exact⟨id,id,hs.2,fun h=>⟨h,by have:=(hs.2 h).2;omega⟩,hs.1,id⟩
  refine ao ?_ ?_
  ·intro hb0;(try simp only[bt] at hb0);have ht:=Kw (by omega) hb0.1 hb0.2;obtain⟨n1,n2,n3,n4,n5⟩:=vn (by omega) g1 g2 g3 ht;refine aq (ah ?_);refine av (ag hG ?_ ?_)
   ·(try simp only[ba]);rw[aF,b9 (by omega)];exact⟨by omega,by omega,by omega,by omega⟩
   refine aI ?_;show ∃ z,_;refine q_l ?_;exact⟨l.dropLast,n1,n2,n3,n4,n5⟩
  ·intro hb0;(try simp only[bf] at hb0);have ht:=Kx (l:=l) (by omega) hb0;refine bd (aD ?_);refine az (ax ?_);refine ah (s_g hG ?_);refine ay (q_e [] ?_);exact⟨⟨trivial,by rw[aJ,<- g3,ht]⟩,trivial,trivial⟩
def fR:Con:=fun l os=>match l,os with
 | [.z (.slice (.st (.pair (.st (.pair .bool (.slice (.int .u32)))) (.st (.pair .bool (.slice (.int .u32))))))) p],[]=>some (Sz QC p/\p.length<=QL,[.z tyP (aH (aR (au p)))],[])
 | [.ownS 10000000],[.arr (.st (.pair (.st (.pair .bool (.slice (.int .u32)))) (.st (.pair .bool (.slice (.int .u32)))))) 91 p]=>some (Sz QC p/\p.length<=QL,[.own tyN 91 (aH (aR (au p)))],[.arr tyN 91 []])
 |_,_=>none
theorem Ik{B:aj}(hB:aB B):Valid B Tryz.prog 82 fR [0]:=by
 intro args os C rs os' hc hC;unfold fR at hc;split at hc;·cases hc;exact Ky (iy hB) _ _ _ _ _ rfl hC
 ·cases hc;exact Dv hB _ _ _ _ _ rfl hC
 ·cases hc
def qE(B:aj):Tab:={types:= [(3,(.int .i64)),(79,tyP),(91,tyN)],elems:= [],cons:= [(113,ef)],hint:= [],N:=14,base:=B}
theorem AR{B:aj}(hB:aB B):aG Tryz.prog (qE B):=⟨⟨tc ty3 (tc fG (tc ty91 (ae))),af,by simp only[qE,ioB];omega⟩,aE (cc Tryz.func113 (lK hB) (aA)),by kernel_rfl⟩
def wm:Con:=fun l os=>match l,os with
 | [.z (.slice (.st (.pair (.st (.pair .bool (.slice (.int .u32)))) (.st (.pair .bool (.slice (.int .u32))))))) p,.z (.int .i64) i],[]=>some (Sz QC p/\0<=i,[.z tyN (bo (cf (au p) i.toNat))],[])
 |_,_=>none
theorem wq{B:aj}(hB:aB B):Valid B Tryz.prog 107 wm:=by
 refine ab (AR hB).tab Tryz.func107 rfl rfl rfl ?_;intro args os C rs os' hc hC;unfold wm at hc;split at hc;case h_2=>cases hc
 rename_i p i;cases hc;refine v_h (AR hB) fun X hP hT hr hG=> ?_;have hU:=qE.eq_1;unfold qE at hT;have hX:= @ef.eq_1;simp only[Tryz.f107,aC,al,ioB];obtain⟨n,rfl⟩:=Int.eq_ofNat_of_zero_le hC.2;rw[Int.toNat_natCast];refine s_g hG ?_;refine ak (s_g hG ?_);refine ao ?_ ?_
 ·intro hb0;try simp only[bt] at hb0
  refine s_q hG ?_ ?_
  ·(try simp only[ba]);exact⟨by omega,hb0⟩
  refine ay (aw ?_);refine q_e [] ?_;rw[fL hC.1 (by omega)]
 ·intro hb0;try simp only[bf] at hb0
  refine aq (ah ?_);refine s_g hG ?_;refine ay (q_e [] ?_);rw[Kz (by omega)]
def qF(B:aj):Tab:={types:= [(3,(.int .i64)),(79,tyP),(91,tyN)],elems:= [(79,91)],cons:= [(58,l7),(105,ee),(112,fg),(113,ef),(114,kU)],hint:= [19],N:=67,base:=B}
theorem AU{B:aj}(hB:aB B):aG Tryz.prog (qF B):=⟨⟨tc ty3 (tc fG (tc ty91 (ae))),aQ (by kernel_rfl) (af),by simp only[qF,ioB];omega⟩,aE (cc Tryz.func58 (lI hB) (cc Tryz.func105 (lJ hB) (cc Tryz.func112 (vu hB) (cc Tryz.func113 (lK hB) (cc Tryz.func114 (oA hB) (aA)))))),by kernel_rfl⟩
def oF:Con:=fun l os=>match l,os with
 | [.z (.slice (.st (.pair (.st (.pair .bool (.slice (.int .u32)))) (.st (.pair .bool (.slice (.int .u32))))))) p,.z (.slice (.st (.pair (.st (.pair .bool (.slice (.int .u32)))) (.st (.pair .bool (.slice (.int .u32))))))) q],[]=>some (Sz QM p/\Sz QM q/\p.length<=100/\q.length<=100,[.z tyP (aH (cZ (au p) (au q)))],[])
 |_,_=>none
theorem wt{B:aj}(hB:aB B):Valid B Tryz.prog 61 oF:=by
 refine ab (AU hB).tab Tryz.func61 rfl rfl rfl ?_;intro args os C rs os' hc hC;unfold oF at hc;split at hc;case h_2=>cases hc
 rename_i p q;cases hc;refine v_h (AU hB) fun X hP hT hr hG=> ?_;have hU:=qF.eq_1;unfold qF at hT;have hX:=ai @l7.eq_1<|ai @ee.eq_1<|ai @kU.eq_1<|ai @fg.eq_1<| @ef.eq_1;simp only[Tryz.f61,aC,al,ioB];obtain⟨hp,hq,hl1,hl2⟩:=hC;refine s_g hG ?_;refine ak (s_q hG ?_ ?_)
 ·try simp only[ba]
  exact⟨id,id,fun h=>by rw[h];rfl⟩
 refine ao ?_ ?_
 ·intro hb0;try simp only[bt] at hb0
  refine s_g hG ?_;refine ay (aw ?_);refine q_e [] ?_;exact He hb0
 ·intro hb0;try simp only[bf] at hb0
  have h0:=KD hb0;refine aq (ah ?_);refine s_q hG ?_ ?_
  ·(try simp only[ba]);rw[vp hl1 hl2 h0];exact Nw hl1 hl2
  refine ak (s_g hG ?_);refine av (bj (fun(z:Nat)=>(⟨[(0,.l (.z tyP p)),(1,.l (.z tyP q)),(5,.l (.ownS 1208)),(27,.l (.z tyP p)),(28,.l (.z (.int .i64) (p.length:Int))),(29,.l (.z (.int .i64) (z:Int)))],[(1208,.arr tyN 91 (aH (mulN (au p) (au q) z)))]⟩:aa)) (fun z=>z<=p.length) (fun z=>p.length-z) 0 ?_ ?_ ?_);·refine q_l ?_;rw[vp hl1 hl2 h0,Int.toNat_natCast];exact⟨rfl,times_start p q⟩
  ·omega
  ·rintro i g1;(try dsimp only at g1);refine s_g hG ?_;refine ak (ao ?_ ?_)
   ·intro hb1;(try simp only[bt] at hb1);refine aq (ah ?_);refine ak (av ?_);refine s_q hG ?_ ?_
    ·(try simp only[ba]);exact⟨by omega,hb1⟩
    (refine s_g hG ?_;refine av (bj (fun(z:Nat)=>(⟨[(0,.l (.z tyP p)),(1,.l (.z tyP q)),(5,.l (.ownS 1208)),(27,.l (.z tyP p)),(28,.l (.z (.int .i64) (p.length:Int))),(29,.l (.z (.int .i64) (i:Int))),(6,.l (.z (.int .i64) (i:Int))),(7,.l (.ownP 7 0)),(34,.l (.z tyP q)),(35,.l (.z (.int .i64) (q.length:Int))),(36,.l (.z (.int .i64) (z:Int)))],[(1208,.arr tyN 91 (aH (cA (mulN (au p) (au q) i) i (cf (au p) i) (au q) z))),(7,.box 91 [.z .bool (bo (cf (au p) i)).1.1,.z (.slice (.int .u32)) (bo (cf (au p) i)).1.2,.z .bool (bo (cf (au p) i)).2.1,.z (.slice (.int .u32)) (bo (cf (au p) i)).2.2])]⟩:aa)) (fun z=>z<=q.length) (fun z=>q.length-z) 0 ?_ ?_ ?_);·refine q_l ?_;rw[fL hp (by omega)];exact⟨rfl,rfl,rfl,rfl,rfl,rfl⟩);·omega
    ·rintro k g2;(try dsimp only at g2);refine s_g hG ?_;refine ak (ao ?_ ?_)
     ·intro hb2;(try simp only[bt] at hb2);refine aq (ah ?_);refine ak (av ?_);refine s_q hG ?_ ?_
      ·(try simp only[ba]);exact⟨by omega,hb2⟩
      refine s_q hG ?_ ?_
      ·(try simp only[ba]);have ek:=fL hq (i:=k) (by omega);simp only[pe2];rw[ek];exact⟨bY _,fun h=>⟨h,bY _⟩,id⟩
      refine ao ?_ ?_
      ·intro hb3;(try simp only[bt] at hb3);have ek:=fL hq (i:=k) (by omega);obtain⟨w1,w2,w3,w4⟩:=CT hp hq hl1 hl2 h0 (i:=i) (k:=k) (by omega) (by omega);refine gB hG ?_ ?_
       ·(try simp only[ba]);simp only[pe2];rw[ek,w1,Int.toNat_natCast,aN,aN];exact⟨⟨by omega,by omega⟩,w2,w3,w4,⟨by omega,by omega⟩,w2⟩
       (refine aI (ah ?_);refine ag hG ?_ ?_;·first|trivial|omega|(simp;done)|(simp;omega));show ∃ z,_;refine q_l ?_;first|exact tF hl2 (by omega) (tG hb3)|(simp only[pe2];rw[ek,w1,Int.toNat_natCast];simp only[aN];exact tE hp hq hl1 hl2 h0 (i:=i) (k:=k) (by omega) (by omega))
      ·(intro hb3;(try simp only[bf] at hb3);have ek:=fL hq (i:=k) (by omega);simp only[pe2,ek,aN] at hb3;refine aq (aI ?_);refine ah (ag hG ?_ ?_);·first|trivial|omega|(simp;done)|(simp;omega));show ∃ z,_;refine q_l ?_;first|exact tF hl2 (by omega) (tG hb3)|(simp only[pe2];rw[ek,w1,Int.toNat_natCast];simp only[aN];exact tE hp hq hl1 hl2 h0 (i:=i) (k:=k) (by omega) (by omega))
     ·(intro hb2;(try simp only[bf] at hb2);refine bd (aD ?_);refine az (ax ?_);refine aI (ah ?_);refine ag hG ?_ ?_;·first|trivial|omega|(simp;done)|(simp;omega));show ∃ z,_;refine q_l ?_;exact Hf hl1 (by omega) (by omega)
   ·intro hb1;(try simp only[bf] at hb1);refine bd (aD ?_);refine az (ax ?_);refine ah (s_g hG ?_);refine ay (q_e [] ?_);exact times_fin h0 (by omega)
end Go.Proofs.YtdojbabpnaifoaaGreatDoor
end
section
namespace Go.Cm
def LV.toRow(id:Nat):LV->LV
 | .ownS i=>if i=id then .ownR id 0 else .ownS i
 |x=>x.kill id
def LV.ofRow(id j:Nat):LV->LV
 | .ownR i k=>if i=id then (if k=j then .ownS id else .junk) else .ownR i k
 |x=>x.kill id
def aa.toRow(s:aa)(id:Nat)(T':TypeId):Option aa:=
 match get? s.own id with
 |some (.arr t E xs)=>if id<ioB then some {env:=bT (LV.toRow id) s.env,own:=upd (bu (LV.toRow id) s.own) id (.mat t T' E [some xs] [])} else none
 |_=>none
def aa.ofRow(s:aa)(id j:Nat):Option aa:=
 match get? s.own id with
 |some (.mat t _ E rows _)=>match (rows[j]?).getD none with
  |some xs=>if id<ioB then some {env:=bT (LV.ofRow id j) s.env,own:=upd (bu (LV.ofRow id j) s.own) id (.arr t E xs)} else none
  |none=>none
 |_=>none
theorem St.toRow{X:Cx}{s s':aa}{id:Nat}{T':TypeId}(he:s.toRow id T'=some s'){ac:Act}{w:World}(h:St X s ac w):St X s' ac w:=by
 unfold aa.toRow at he;split at he;case h_2=>cases he
 rename_i t E xs hg;split at he;case isFalse=>cases he
 rename_i hid;cases he;obtain⟨ρ,hf⟩:=h.fits;obtain⟨cells,hr,hrow⟩:=hf.own _ (get?_mem hg);have hsl:∃ a n c,ρ id= .slice a n c:=by
  obtain⟨_,⟨h1,_⟩|⟨g,cap,cur,h1,_⟩⟩:=hrow<;>exact⟨_,_,_,h1⟩
 obtain⟨a,n,c,hsl⟩:=hsl;have hblk:∀ b,blk (ρ id)=some b↔Blk (ρ id) b:=by
  intro b;rw[hsl];cases a with
  |none=>simp[blk,Blk]
  |some a=>simp[blk,Blk]
 obtain⟨ρ',q1,q2⟩:=hf.renew (w':=w) hg (f:=LV.toRow id) (val:= .tuple #[.slice none 0 0,ρ id]) (obj':= .mat t T' E [some xs] [])
  (fun H' ρ' hh hs hρ hρd x v hx=>by
   cases x with
   |ownS i=>
    (simp only[LV.toRow];split;·rename_i e;subst e;have hx:v=ρ i/\_:=hx;exact⟨.slice none 0 0,[ρ i],a,n,c,hρd,by simp[hx.1],by rw[hx.1,hsl]⟩);·rename_i e;simp only[aS,hρ i e];exact hx
   |z t x=>exact bl hh hs hρ hx
   |ownP i o=>exact bl hh hs hρ hx
   |ownE i w o=>exact bl hh hs hρ hx
   |ownW i w o=>exact bl hh hs hρ hx
   |ownM i=>exact bl hh hs hρ hx
   |ownA i o=>exact bl hh hs hρ hx
   |ownR i o=>exact bl hh hs hρ hx
   |ownB i o p q=>exact bl hh hs hρ hx
   |fn f c=>exact bl hh hs hρ hx
   |val u=>exact bl hh hs hρ hx
   |junk=>exact bl hh hs hρ hx)
  (fun _ _ _=>rfl)
  (fun b hb=>by
   (obtain⟨u,hu,hb⟩:=hb;simp only[List.mem_cons,List.not_mem_nil,or_false] at hu;rcases hu with rfl|rfl;·simp[blk] at hb);·exact .inl ((hblk b).1 hb))
  (fun H' ρ' hh hs hρ hρd=>by
   refine⟨.slice none 0 0,[ρ id],[],hρd,⟨rfl,⟨rfl,.inl ⟨rfl,rfl⟩⟩,fun c hc=>by simp at hc,fun i j hi=>by simp at hi,?_,?_,?_⟩⟩
   ·(intro v hv;simp only[List.mem_singleton] at hv;subst hv;refine⟨⟨a,n,c,hsl⟩,fun b hb=>⟨by simp[blk],?_,?_⟩⟩;·exact((hf.own _ (get?_mem hg)).lt ((hblk b).1 hb)).1);·exact(hf.own _ (get?_mem hg)).cells ((hblk b).1 hb)
   ·intro j ys v hj hv;cases j with
    |zero=>
     simp at hj hv;subst hj;subst hv;exact⟨cells,aU hh hs hr,hrow⟩
    |succ j=>simp at hj
   ·intro i j xs' ys u v hne hi hj;cases i with
    |zero=>cases j with
     |zero=>exact absurd rfl hne
     |succ j=>simp at hj
    |succ i=>simp at hi)
  (fun hB _=>absurd hid (by omega))
 exact⟨h.marks,h.kept,h.size,h.below,h.others,h.small,ρ',q2⟩
theorem St.ofRow{X:Cx}{s s':aa}{id j:Nat}(he:s.ofRow id j=some s'){ac:Act}{w:World}(h:St X s ac w):St X s' ac w:=by
 unfold aa.ofRow at he;split at he;case h_2=>cases he
 rename_i t T' E rows idx hg;split at he;case h_2=>cases he
 rename_i xs hj;split at he;case isFalse=>cases he
 rename_i hid;cases he;obtain⟨ρ,hf⟩:=h.fits;obtain⟨h0,vs,cells,hρ0,hm⟩:=hf.own _ (get?_mem hg);have hjr:rows[j]? =some (some xs):=by
  cases hq:rows[j]? with
  |none=>rw[hq] at hj;cases hj
  |some o=>rw[hq] at hj;simp at hj;rw[hj]
 have hjl:j<vs.length:=by rw[hm.len];exact(List.getElem?_eq_some_iff.1 hjr).1
 have hvj:vs[j]? =some vs[j]:=List.getElem?_eq_getElem hjl;obtain⟨cs,hr,hrow⟩:=hm.row j xs _ hjr hvj;obtain⟨⟨a,n,c,hsl⟩,_⟩:=hm.shape vs[j] (List.getElem_mem hjl);obtain⟨ρ',q1,q2⟩:=hf.renew (w':=w) hg (f:=LV.ofRow id j) (val:=vs[j]) (obj':= .arr t E xs)
  (fun H' ρ' hh hs hρ hρd x v hx=>by
   cases x with
   |ownR i k=>
    simp only[LV.ofRow];split
    ·(rename_i e;subst e;split;·rename_i e;subst e;obtain⟨h1,vs1,a1,n1,c1,e1,e2,e3⟩:=hx;rw[hρ0] at e1;simp only[Value.tuple.injEq,Array.mk.injEq,List.cons.injEq] at e1;obtain⟨_,rfl⟩:=e1;rw[hvj] at e2;cases e2;exact⟨hρd.symm,_,_,_,e3⟩);·trivial
    ·rename_i e;have:=bl (x:= .ownR i k) hh hs hρ hx;unfold LV.kill at this;rw[if_neg (by simp[LV.isOf];exact e)] at this;exact this
   |z t x=>exact bl hh hs hρ hx
   |ownS i=>exact bl hh hs hρ hx
   |ownP i o=>exact bl hh hs hρ hx
   |ownE i w o=>exact bl hh hs hρ hx
   |ownW i w o=>exact bl hh hs hρ hx
   |ownM i=>exact bl hh hs hρ hx
   |ownA i o=>exact bl hh hs hρ hx
   |ownB i o p q=>exact bl hh hs hρ hx
   |fn f c=>exact bl hh hs hρ hx
   |val u=>exact bl hh hs hρ hx
   |junk=>exact bl hh hs hρ hx)
  (fun _ _ _=>rfl)
  (fun b hb=> .inl (by
   rw[hρ0];refine⟨vs[j],by simp,?_⟩;rw[hsl] at hb ⊢;cases a with
   |none=>simp[Blk] at hb
   |some a=>simpa [blk,Blk] using hb))
  (fun H' ρ' hh hs hρ hρd=>⟨cs,aU hh hs hr,by rw[hρd];exact hrow⟩)
  (fun hB _=>absurd hid (by omega))
 exact⟨h.marks,h.kept,h.size,h.below,h.others,h.small,ρ',q2⟩
theorem x7{X:Cx}{c:Code}{s s':aa}{K:Exit->aa->Prop}(id:Nat)(T':TypeId)(he:s.toRow id T'=some s')(h:J X c s' K):J X c s K:=
 fun ac w hst=>h ac w (hst.toRow he)
theorem qG{X:Cx}{c:Code}{s s':aa}{K:Exit->aa->Prop}(id j:Nat)(he:s.ofRow id j=some s')(h:J X c s' K):J X c s K:=
 fun ac w hst=>h ac w (hst.ofRow he)
end Go.Cm
end
section
namespace Go.Proofs.YtdojbabpnaifoaaGreatDoor
open Go Go.Cm Go.Proofs
def qH(B:aj):Tab:={types:= [(3,(.int .i64)),(79,tyP),(91,tyN)],elems:= [(79,91)],cons:= [(119,fj)],hint:= [],N:=25,base:=B}
theorem AW{B:aj}(hB:aB B):aG Tryz.prog (qH B):=⟨⟨tc ty3 (tc fG (tc ty91 (ae))),aQ (by kernel_rfl) (af),by simp only[qH,ioB];omega⟩,aE (cc Tryz.func119 (wc hB) (aA)),by kernel_rfl⟩
def oG:Con:=fun l os=>match l,os with
 | [.z (.slice (.st (.pair (.st (.pair .bool (.slice (.int .u32)))) (.st (.pair .bool (.slice (.int .u32))))))) p],[]=>some (nW p,[.z tyP (aH (cX (au p)))],[])
 |_,_=>none
theorem wu{B:aj}(hB:aB B):Valid B Tryz.prog 120 oG:=by
 refine ab (AW hB).tab Tryz.func120 rfl rfl rfl ?_;intro args os C rs os' hc hC;unfold oG at hc;split at hc;case h_2=>cases hc
 rename_i p;cases hc;refine v_h (AW hB) fun X hP hT hr hG=> ?_;have hU:=qH.eq_1;unfold qH at hT;have hX:= @fj.eq_1;simp only[Tryz.f120,aC,al,ioB];have hl:p.length<=1000:=hC.2.1;refine s_g hG ?_;refine s_g hG ?_;refine ak (s_g hG ?_);refine av (bj (fun(z:Nat)=>(⟨[(0,.l (.z tyP p)),(3,.l (.ownS 22)),(6,.l (.z tyP p)),(7,.l (.z (.int .i64) (p.length:Int))),(8,.l (.z (.int .i64) (z:Int)))],[(22,.arr tyN 91 (aH ((au p).take z|>.map fun c=>c/aK (au p))))]⟩:aa)) (fun z=>z<=p.length) (fun z=>p.length-z) 0 ?_ ?_ ?_);·refine q_l ?_;exact⟨rfl,by unfold ioB;omega,rfl⟩
 ·omega
 ·rintro k g1;try dsimp only at g1
  refine s_g hG ?_;refine ak (ao ?_ ?_)
  ·intro hb0;(try simp only[bt] at hb0);obtain⟨m1,m2,m3,m4,m5,m6⟩:=KF hC (k:=k) (by omega);refine aq (ah ?_);refine ak (av ?_);refine s_q hG ?_ ?_
   ·(try simp only[ba]);exact⟨by omega,hb0⟩
   refine x7 22 78 (by simp only[aa.toRow,LV.toRow,ioB,mx0,mx1,mx2,mx3,mx4,mx5,mx6,Nat.reduceLT,Nat.reduceEqDiff,Nat.reduceAdd,Nat.reduceMul,Nat.reduceSub,Nat.reduceLeDiff,Nat.reduceBEq,Nat.reduceBNe,reduceIte,reduceDIte,reduceCtorEq];rfl) ?_;refine gB hG ?_ ?_
   ·(try simp only[ba]);simp only[pe2];rw[m1,m2];exact⟨m3,⟨m4,by rw[aN];exact m5⟩,rfl,m6⟩
   (refine aI (ah ?_);refine qG 22 1 (by simp only[aa.ofRow,LV.ofRow,ioB,List.set_cons_zero,List.set_cons_succ,List.append_nil,List.nil_append,List.cons_append,List.getElem?_cons_zero,List.getElem?_cons_succ,Option.getD_some,mx0,mx1,mx2,mx3,mx4,mx5,mx6,Nat.reduceLT,Nat.reduceEqDiff,Nat.reduceAdd,Nat.reduceMul,Nat.reduceSub,Nat.reduceLeDiff,Nat.reduceBEq,Nat.reduceBNe,reduceIte,reduceDIte,reduceCtorEq];rfl) ?_;refine ag hG ?_ ?_;·first|trivial|omega|(simp;done)|(simp;omega));show ∃ z,_;refine q_l ?_;simp only[pe2];rw[m1,m2];simp only[aN];exact Hg hC (by omega)
  ·intro hb0;(try simp only[bf] at hb0);refine bd (aD ?_);refine az (ax ?_);refine ah (s_g hG ?_);refine ay (q_e [] ?_);exact Nx (by omega)
def qI(B:aj):Tab:={types:= [(3,(.int .i64)),(79,tyP),(91,tyN)],elems:= [(79,91)],cons:= [(105,ee),(124,Ia)],hint:= [],N:=24,base:=B}
theorem AX{B:aj}(hB:aB B):aG Tryz.prog (qI B):=⟨⟨tc ty3 (tc fG (tc ty91 (ae))),aQ (by kernel_rfl) (af),by simp only[qI,ioB];omega⟩,aE (cc Tryz.func105 (lJ hB) (cc Tryz.func124 (we hB) (aA))),by kernel_rfl⟩
def jF:Con:=fun l os=>match l,os with
 | [.z (.slice (.st (.pair (.st (.pair .bool (.slice (.int .u32)))) (.st (.pair .bool (.slice (.int .u32))))))) p],[]=>some (Sz QH p/\p.length<=1000,[.z tyP (aH (cx (au p)))],[])
 |_,_=>none
theorem wv{B:aj}(hB:aB B):Valid B Tryz.prog 77 jF:=by
 refine ab (AX hB).tab Tryz.func77 rfl rfl rfl ?_;intro args os C rs os' hc hC;unfold jF at hc;split at hc;case h_2=>cases hc
 rename_i p;cases hc;refine v_h (AX hB) fun X hP hT hr hG=> ?_;have hU:=qI.eq_1;unfold qI at hT;have hX:=ai @ee.eq_1<| @Ia.eq_1;simp only[Tryz.f77,aC,al,ioB];have hl:p.length<=1000:=hC.2;refine s_g hG ?_;refine s_g hG ?_;refine ak (s_g hG ?_);refine av (bj (fun(z:Nat)=>(⟨[(3,.l (.ownS 21)),(6,.l (.z tyP p)),(7,.l (.z (.int .i64) (p.length:Int))),(8,.l (.z (.int .i64) (z:Int)))],[(21,.arr tyN 91 (aH (mv (au p) z)))]⟩:aa)) (fun z=>z<=p.length) (fun z=>p.length-z) 0 ?_ ?_ ?_);·refine q_l ?_;exact⟨rfl,by unfold ioB;omega,rfl⟩
 ·omega
 ·rintro k g1;try dsimp only at g1
  refine s_g hG ?_;refine ak (ao ?_ ?_)
  ·intro hb0;(try simp only[bt] at hb0);obtain⟨m1,m2,m3,m4⟩:=KG hC.1 hl (k:=k) (by omega);refine aq (ah ?_);refine ak (av ?_);refine s_q hG ?_ ?_
   ·(try simp only[ba]);exact⟨by omega,hb0⟩
   refine s_g hG ?_;refine ao ?_ ?_
   ·intro hb1;(try simp only[bt] at hb1);refine x7 21 78 (by simp only[aa.toRow,LV.toRow,ioB,mx0,mx1,mx2,mx3,mx4,mx5,mx6,Nat.reduceLT,Nat.reduceEqDiff,Nat.reduceAdd,Nat.reduceMul,Nat.reduceSub,Nat.reduceLeDiff,Nat.reduceBEq,Nat.reduceBNe,reduceIte,reduceDIte,reduceCtorEq];rfl) ?_;refine gB hG ?_ ?_
    ·(try simp only[ba]);simp only[pe2];rw[m2];exact⟨m1,m3,rfl,m4⟩
    (refine aI (ah ?_);(first|refine qG 21 1 (by simp only[aa.ofRow,LV.ofRow,ioB,List.set_cons_zero,List.set_cons_succ,List.append_nil,List.nil_append,List.cons_append,List.getElem?_cons_zero,List.getElem?_cons_succ,Option.getD_some,mx0,mx1,mx2,mx3,mx4,mx5,mx6,Nat.reduceLT,Nat.reduceEqDiff,Nat.reduceAdd,Nat.reduceMul,Nat.reduceSub,Nat.reduceLeDiff,Nat.reduceBEq,Nat.reduceBNe,reduceIte,reduceDIte,reduceCtorEq];rfl) ?_|skip);refine ag hG ?_ ?_;·first|trivial|omega|(simp;done)|(simp;omega));show ∃ z,_;refine q_l ?_;first|exact zC hl (by omega) (by omega)|(simp only[pe2];rw[m2];simp only[aN];exact vq hl (by omega) (by omega))
   ·(intro hb1;(try simp only[bf] at hb1);refine aq (aI ?_);refine ah ?_;(first|refine qG 21 1 (by simp only[aa.ofRow,LV.ofRow,ioB,List.set_cons_zero,List.set_cons_succ,List.append_nil,List.nil_append,List.cons_append,List.getElem?_cons_zero,List.getElem?_cons_succ,Option.getD_some,mx0,mx1,mx2,mx3,mx4,mx5,mx6,Nat.reduceLT,Nat.reduceEqDiff,Nat.reduceAdd,Nat.reduceMul,Nat.reduceSub,Nat.reduceLeDiff,Nat.reduceBEq,Nat.reduceBNe,reduceIte,reduceDIte,reduceCtorEq];rfl) ?_|skip);refine ag hG ?_ ?_;·first|trivial|omega|(simp;done)|(simp;omega));show ∃ z,_;refine q_l ?_;first|exact zC hl (by omega) (by omega)|(simp only[pe2];rw[m2];simp only[aN];exact vq hl (by omega) (by omega))
  ·intro hb0;(try simp only[bf] at hb0);refine bd (aD ?_);refine az (ax ?_);refine ah (s_g hG ?_);refine ay (q_e [] ?_);rw[show k=(au p).length by rw[aL];omega];rfl
end Go.Proofs.YtdojbabpnaifoaaGreatDoor
end
section
namespace Go.Proofs
open Go.RowKit Go.Cm Go.Shelf
attribute [local go_sem] Oper.semAt_some
set_option maxHeartbeats 2000000 in
set_option maxRecDepth 100000 in
theorem Dw(ad:Addr)(n c:Nat)(news:List Value)(w:World)(hl:news.length=n*4)(hn:n<=maxLen)(hbig:n*64<=140737488355328)
  (hc:∀ j u,news[j]? =some u->w.cell? (ad.add j)=some u) (h1:∀ u∈news,u.oneCell'=true):
  Calls Tryz.prog 118 #[.slice (some ad) n c] w fun e w'=>∃ v',e= .returned v'/\w'.ownsRow w.heap.size 91 4 v' n news/\Below w.heap.size w w':=by
 have t4:=Tryz.underlying4;have a4:=Tryz.isAgg4;have z4:=Tryz.sizeOf4;have v4:=Tryz.zeroValue4;have t22:=Tryz.underlying79;have a22:=Tryz.isAgg79;have z22:=Tryz.sizeOf79;have v22:=Tryz.zeroValue79;obtain⟨i0,hi,hz0,hz1,hz2⟩:=info_parts (show (Tryz.prog.info? 91).map (fun i=>(i.zero,i.size,i.bytes))=some (some (.agg zc4.toArray),4,64) by kernel_rfl);have q22:∀ (w:World) (a:Option Addr) (n c n' c':Nat),(binOp .eql 79 (.slice a n c) (.slice none n' c')).run Tryz.prog w= .ok (.bool a.isNone) w:=fun w a n c n' c'=>Lib.run_eql_slice_nil w _ _ a n c n' c' t22;have u22:∀ w,Sem.run Tryz.prog (underlying 79) w= .ok (TypeDesc.slice 91) w:=run_underlying t22;have z23:∀ w,(Go.sizeOf 91).run Tryz.prog w= .ok 4 w:=fun w=>by simp[Go.sizeOf,typeInfo,hi,hz1]
 have A:Aside (∀ j u,news[j]? =some u->w.cell? (ad.add j)=some u):=hc;clear hc
 go_enter Tryz.func118,Tryz.ntmps118
 go_wp2_with (at_builtin;refine wpList_append_own _ rfl _ _ 79 rfl w.heap.size 91 i0 (.agg zc4.toArray) 4 64 t22 hi hz0 hz1 hz2 rfl (by omega) _ _ _ rfl (World.ownsRow_made w #[] 0 (Nat.le_refl _) (Nat.zero_le _) (by simp)) ad n c news rfl ?qc1 ?qc2 ?qc3 ?qc4 ?qc5 ?qc6 ?_)
 case qc1=>exact hl
 case qc2=>
  intro j u hj;exact Lib.cell?_alloc_some _ (A.out j u hj)
 case qc3=>exact h1
 case qc4=>rw[Nat.zero_add];exact hn
 case qc5=>rw[Nat.zero_add];exact hbig
 case qc6=>simp
 intro v' w1 hown hgrow hnil
 go_wp2
 go_ret
 refine⟨v',rfl,by simpa using hown,?_⟩;exact((Below.refl _ w).alloc (Nat.le_refl _) _).grown hgrow (by simp) (by intro k hk;simp[Value.ownBlock] at hk;omega)
set_option maxHeartbeats 1000000 in
theorem Il(n c:Nat)(w:World):Calls Tryz.prog 118 #[.slice none n c] w fun e w'=>e= .returned (.slice none 0 0)/\w'=w:=by
 have t4:=Tryz.underlying4;have a4:=Tryz.isAgg4;have z4:=Tryz.sizeOf4;have v4:=Tryz.zeroValue4;have t22:=Tryz.underlying79;have a22:=Tryz.isAgg79;have z22:=Tryz.sizeOf79;have v22:=Tryz.zeroValue79;have q22:∀ (w:World) (a:Option Addr) (n c n' c':Nat),(binOp .eql 79 (.slice a n c) (.slice none n' c')).run Tryz.prog w= .ok (.bool a.isNone) w:=fun w a n c n' c'=>Lib.run_eql_slice_nil w _ _ a n c n' c' t22
 go_enter Tryz.func118,Tryz.ntmps118
 go_wp2
 go_ret
 exact⟨rfl,rfl⟩
def da:Con:=fun l os=>match l,os with
 | [.z (.slice (.st (.pair (.st (.pair .bool (.slice (.int .u32)))) (.st (.pair .bool (.slice (.int .u32))))))) xs],[]=>some (xs.length<=QL,[.own tyN 91 xs],[])
 |_,_=>none
theorem Im{B:aj}(hB:aB B):Valid B Tryz.prog 118 da:=by
 intro args os C rs os' hc hC O w vals ρ0 hOn hIo hO hOI hargs hown hap;unfold da at hc;split at hc;case h_2=>cases hc
 rename_i xs;cases hc;obtain⟨u,rfl,hu⟩:=pI hargs;obtain⟨cells,hr,h⟩:=gT hu;have hl:=bH (fun c x h=>NT.rep_length h) hr;have hC:xs.length<=1000000000:=hC;have hmove:∀ w':World,Below w.heap.size w w'->∀ H:Nat->Prop,(∀ b,b<w.heap.size->H b->O b)->cG (fun c x=>NT.rep H w' c x) cells xs:=
  fun w' hb H hH=>aU (fun b hlt hb=> .inl (hH b hlt hb)) (fun b _ hlt=>hb.block b (cY hlt)) hr
 rcases h with⟨rfl,h0,rfl⟩|⟨ad,c,rfl,hc⟩;·refine(Il 0 0 w).mono fun e w' ⟨he,hw⟩=> ?_;subst he;subst hw;exact xk hO (Below.refl _ _) ⟨_,_,_,rfl⟩ (hmove _ (Below.refl _ _)) ⟨by simp[h0],.inl ⟨rfl,h0⟩⟩
 ·refine(Dw ad xs.length c cells w hl (by unfold maxLen;omega) (by omega) hc (eE hr)).mono fun e w' ⟨v',he,hrow,hb⟩=> ?_;subst he;obtain⟨h1,h2⟩:=hrow;refine xk hO hb ?_ (hmove _ hb) ⟨h1,?_⟩;·rcases h2 with⟨rfl,_⟩|⟨g,cap,cur,rfl,_⟩<;>exact⟨_,_,_,rfl⟩
  ·(rcases h2 with h2|⟨g,cap,cur,e1,e2,e3,e4,e5,e6,e7⟩;·exact .inl h2);·exact .inr ⟨g,cap,cur,e1,e2,e3,e4,e5,by rw[e6];exact Nat.le_refl _,e7⟩
end Go.Proofs
end
section
namespace Go.Proofs.YtdojbabpnaifoaaGreatDoor
open Go Go.Cm Go.Proofs
def c8(B:aj):Tab:={types:= [(3,(.int .i64)),(79,tyP),(91,tyN)],elems:= [(79,91)],cons:= [(60,fi),(82,fR),(105,ee),(112,fg),(113,ef),(118,da),(119,fj)],hint:= [],N:=78,io:= [(82,[0])],frees:= [(82,[0])],base:=B}
theorem AY{B:aj}(hB:aB B):aG Tryz.prog (c8 B):=⟨⟨tc ty3 (tc fG (tc ty91 (ae))),aQ (by kernel_rfl) (af),by simp only[c8,ioB];omega⟩,aE (cc Tryz.func60 (wb hB) (cc Tryz.func82 (Ik hB) (cc Tryz.func105 (lJ hB) (cc Tryz.func112 (vu hB) (cc Tryz.func113 (lK hB) (cc Tryz.func118 (Im hB) (cc Tryz.func119 (wc hB) (aA)))))))),by kernel_rfl⟩
def pB:Con:=fun l os=>match l,os with
 | [.z (.slice (.st (.pair (.st (.pair .bool (.slice (.int .u32)))) (.st (.pair .bool (.slice (.int .u32))))))) p,.z (.slice (.st (.pair (.st (.pair .bool (.slice (.int .u32)))) (.st (.pair .bool (.slice (.int .u32))))))) q],[]=>some (fM p q,[.z tyP (aH (divN (au p) (au q)).1),.own tyN 91 (aH (divN (au p) (au q)).2)],[])
 |_,_=>none
theorem oH{B:aj}(hB:aB B):Valid B Tryz.prog 68 pB:=by
 refine ab (AY hB).tab Tryz.func68 rfl rfl rfl ?_;intro args os C rs os' hc hC;unfold pB at hc;split at hc;case h_2=>cases hc
 rename_i p q;cases hc;refine v_h (AY hB) fun X hP hT hr hG=> ?_;have hU:=c8.eq_1;unfold c8 at hT;have hX:=ai @da.eq_1<|ai @fj.eq_1<|ai @ee.eq_1<|ai @fi.eq_1<|ai @fg.eq_1<|ai @fR.eq_1<|ai @ef.eq_1<|ai @bW.eq_def<| @cj.eq_def;simp only[Tryz.f68,aC,al,ioB];refine ak ?_;have hl1:=hC.l1;have hl2:=hC.l2;have h0:=hC.h0;obtain⟨v1,v2,v3⟩:=Pv hC;refine cI hG (by simp only[hT,c8,bW.eq_def,cj.eq_def,da,fj,ee,fi,fg,fR,ef,mx0,mx1,mx2,mx3,mx4,mx5,mx6,aT,bq,bI,aY,bp,Ty.fieldTy,Ty.fieldOf,Nat.reduceLT,Nat.reduceEqDiff,Nat.reduceAdd,Nat.reduceMul,Nat.reduceSub,Nat.reduceLeDiff,Nat.reduceBEq,Nat.reduceBNe,reduceIte,reduceDIte,reduceCtorEq];rfl) ?_ ?_;·first|trivial|omega|(simp;done)|(simp;omega)
 refine ah (ak ?_);refine cI hG (by simp only[hT,c8,bW.eq_def,cj.eq_def,da,fj,ee,fi,fg,fR,ef,mx0,mx1,mx2,mx3,mx4,mx5,mx6,aT,bq,bI,aY,bp,Ty.fieldTy,Ty.fieldOf,Nat.reduceLT,Nat.reduceEqDiff,Nat.reduceAdd,Nat.reduceMul,Nat.reduceSub,Nat.reduceLeDiff,Nat.reduceBEq,Nat.reduceBNe,reduceIte,reduceDIte,reduceCtorEq];rfl) ?_ ?_
 ·try simp only[ba]
  show p.length<=1000000000;omega
 refine ah (ak ?_);refine cI hG (by simp only[hT,c8,bW.eq_def,cj.eq_def,da,fj,ee,fi,fg,fR,ef,mx0,mx1,mx2,mx3,mx4,mx5,mx6,aT,bq,bI,aY,bp,Ty.fieldTy,Ty.fieldOf,Nat.reduceLT,Nat.reduceEqDiff,Nat.reduceAdd,Nat.reduceMul,Nat.reduceSub,Nat.reduceLeDiff,Nat.reduceBEq,Nat.reduceBNe,reduceIte,reduceDIte,reduceCtorEq];rfl) ?_ ?_
 ·try simp only[ba]
  rw[v1];exact⟨v2,v3⟩
 refine ah (ak ?_);refine av (JC 1104 1600 (by simp only[hT,c8,mx0,mx1,mx2,mx3,mx4,mx5,mx6,Nat.reduceLT,Nat.reduceEqDiff,Nat.reduceAdd,Nat.reduceMul,Nat.reduceSub,Nat.reduceLeDiff,Nat.reduceBEq,Nat.reduceBNe,reduceIte,reduceDIte,reduceCtorEq];rfl) ?_);refine bj (fun(z:Nat×List Rat×List Rat)=>(⟨[(0,.l (.z tyP p)),(1,.l (.z tyP q)),(6,.l (.ownS 1600)),(7,.l (.ownS 1184))],[(1600,.arr tyN 91 (aH z.2.1)),(1184,.arr tyN 91 (aH z.2.2))]⟩:aa)) (fun z=>DivPhi p q z.1 z.2.1 z.2.2) (fun z=>z.2.1.length) (p.length+1,au p,List.replicate (p.length+1-q.length) 0) ?_ ?_ ?_;·refine q_l ?_;rw[v1,Int.toNat_natCast,hC.enc,zA];exact⟨rfl,rfl⟩
 ·exact div_start hC
 ·rintro⟨n,r,s⟩ hz;try dsimp only at hz
  refine ak (ak ?_);refine cI hG (by simp only[hT,c8,bW.eq_def,cj.eq_def,da,fj,ee,fi,fg,fR,ef,mx0,mx1,mx2,mx3,mx4,mx5,mx6,aT,bq,bI,aY,bp,Ty.fieldTy,Ty.fieldOf,Nat.reduceLT,Nat.reduceEqDiff,Nat.reduceAdd,Nat.reduceMul,Nat.reduceSub,Nat.reduceLeDiff,Nat.reduceBEq,Nat.reduceBNe,reduceIte,reduceDIte,reduceCtorEq];rfl) ?_ ?_;·first|trivial|omega|(simp;done)|(simp;omega)
  refine ah (ao ?_ ?_)
  ·(intro hb0;(try simp only[bt] at hb0);(have hle:q.length<=r.length:=by have h9:(q.length:Int)<=((aH r).length:Int):=hb0;rw[aF] at h9;omega);obtain⟨w1,w2,n1,n2,n3⟩:=KJ hC hz hle;have hk:=P7 hC hz hle;refine aq (ah ?_);refine av (ak ?_);refine cI hG (by simp only[hT,c8,bW.eq_def,cj.eq_def,da,fj,ee,fi,fg,fR,ef,mx0,mx1,mx2,mx3,mx4,mx5,mx6,aT,bq,bI,aY,bp,Ty.fieldTy,Ty.fieldOf,Nat.reduceLT,Nat.reduceEqDiff,Nat.reduceAdd,Nat.reduceMul,Nat.reduceSub,Nat.reduceLeDiff,Nat.reduceBEq,Nat.reduceBNe,reduceIte,reduceDIte,reduceCtorEq];rfl) ?_ ?_;·first|trivial|omega|(simp;done)|(simp;omega));refine ah (ak ?_);refine sN hG (by simp only[hT,mt0,c8,bW.eq_def,cj.eq_def,da,fj,ee,fi,fg,fR,ef,mx0,mx1,mx2,mx3,mx4,mx5,mx6,aT,bq,bI,aY,bp,Ty.fieldTy,Ty.fieldOf,Nat.reduceLT,Nat.reduceEqDiff,Nat.reduceAdd,Nat.reduceMul,Nat.reduceSub,Nat.reduceLeDiff,Nat.reduceBEq,Nat.reduceBNe,reduceIte,reduceDIte,reduceCtorEq];rfl) (by kernel_rfl) (by rfl) (by rfl) ?_ ?_
   ·(try simp only[ba]);simp only[w1,w2,Int.toNat_natCast,n1,n2];exact Hi hC hz hle
   refine ah (ak ?_);refine cI hG (by simp only[hT,c8,bW.eq_def,cj.eq_def,da,fj,ee,fi,fg,fR,ef,mx0,mx1,mx2,mx3,mx4,mx5,mx6,aT,bq,bI,aY,bp,Ty.fieldTy,Ty.fieldOf,Nat.reduceLT,Nat.reduceEqDiff,Nat.reduceAdd,Nat.reduceMul,Nat.reduceSub,Nat.reduceLeDiff,Nat.reduceBEq,Nat.reduceBNe,reduceIte,reduceDIte,reduceCtorEq];rfl) ?_ ?_
   ·(try simp only[ba]);simp only[hk,Int.toNat_natCast];exact⟨⟨(xh hC hz hle).1,(xh hC hz hle).2.1⟩,(xh hC hz hle).2.2⟩
   (refine ah (ak ?_);refine ak (cI hG (by simp only[hT,c8,bW.eq_def,cj.eq_def,da,fj,ee,fi,fg,fR,ef,mx0,mx1,mx2,mx3,mx4,mx5,mx6,aT,bq,bI,aY,bp,Ty.fieldTy,Ty.fieldOf,Nat.reduceLT,Nat.reduceEqDiff,Nat.reduceAdd,Nat.reduceMul,Nat.reduceSub,Nat.reduceLeDiff,Nat.reduceBEq,Nat.reduceBNe,reduceIte,reduceDIte,reduceCtorEq];rfl) ?_ ?_);·first|trivial|omega|(simp;done)|(simp;omega));refine ah (av ?_);refine bj (fun(z:Nat)=>(⟨[(0,.l (.z tyP p)),(1,.l (.z tyP q)),(6,.l (.ownS 1600)),(7,.l (.ownS 1184)),(8,.l (.z (.int .i64) ((r.length-q.length:Nat):Int))),(9,.l (.ownP 9 0)),(51,.l (.z tyP q)),(52,.l (.z (.int .i64) (q.length:Int))),(53,.l (.z (.int .i64) (z:Int)))],[(1600,.arr tyN 91 (aH (cA r (r.length-q.length) (-(aK r/aK (au q))) (au q) z))),(1184,.arr tyN 91 (aH (s.set (r.length-q.length) (aK r/aK (au q))))),(9,.box 91 [.z .bool (bo (aK r/aK (au q))).1.1,.z (.slice (.int .u32)) (bo (aK r/aK (au q))).1.2,.z .bool (bo (aK r/aK (au q))).2.1,.z (.slice (.int .u32)) (bo (aK r/aK (au q))).2.2])]⟩:aa)) (fun z=>z<=q.length) (fun z=>q.length-z) 0 ?_ ?_ ?_;·refine q_l ?_;simp only[hk,w1,w2,Int.toNat_natCast,pe2,n1,n2,aN,tC,cA,true_and,and_true,and_self];rfl
   ·omega
   ·(rintro i g1;(try dsimp only at g1);refine ak (cI hG (by simp only[hT,c8,bW.eq_def,cj.eq_def,da,fj,ee,fi,fg,fR,ef,mx0,mx1,mx2,mx3,mx4,mx5,mx6,aT,bq,bI,aY,bp,Ty.fieldTy,Ty.fieldOf,Nat.reduceLT,Nat.reduceEqDiff,Nat.reduceAdd,Nat.reduceMul,Nat.reduceSub,Nat.reduceLeDiff,Nat.reduceBEq,Nat.reduceBNe,reduceIte,reduceDIte,reduceCtorEq];rfl) ?_ ?_);·first|trivial|omega|(simp;done)|(simp;omega));refine ah (ak ?_);refine ao ?_ ?_
    ·intro hb1;(try simp only[bt] at hb1);(have hi:i<q.length:=by have h9:(i:Int)<(q.length:Int):=hb1;omega);obtain⟨u1,u2,u3,u4,u5,u6⟩:=KH hC hz hle hi;refine aq (ah ?_);refine ak (av ?_);refine ak (cI hG (by simp only[hT,c8,bW.eq_def,cj.eq_def,da,fj,ee,fi,fg,fR,ef,mx0,mx1,mx2,mx3,mx4,mx5,mx6,aT,bq,bI,aY,bp,Ty.fieldTy,Ty.fieldOf,Nat.reduceLT,Nat.reduceEqDiff,Nat.reduceAdd,Nat.reduceMul,Nat.reduceSub,Nat.reduceLeDiff,Nat.reduceBEq,Nat.reduceBNe,reduceIte,reduceDIte,reduceCtorEq];rfl) ?_ ?_)
     ·(try simp only[ba]);exact⟨by omega,hb1⟩
     refine ah (sN hG (by simp only[hT,mt0,c8,bW.eq_def,cj.eq_def,da,fj,ee,fi,fg,fR,ef,mx0,mx1,mx2,mx3,mx4,mx5,mx6,aT,bq,bI,aY,bp,Ty.fieldTy,Ty.fieldOf,Nat.reduceLT,Nat.reduceEqDiff,Nat.reduceAdd,Nat.reduceMul,Nat.reduceSub,Nat.reduceLeDiff,Nat.reduceBEq,Nat.reduceBNe,reduceIte,reduceDIte,reduceCtorEq];rfl) (by kernel_rfl) (by rfl) (by rfl) ?_ ?_)
     ·(try simp only[ba]);simp only[pe2,u1,u3,u4,Int.toNat_natCast,aN];exact Hj hC hz hle hi
     (refine aI (ah ?_);refine cI hG (by simp only[hT,c8,bW.eq_def,cj.eq_def,da,fj,ee,fi,fg,fR,ef,mx0,mx1,mx2,mx3,mx4,mx5,mx6,aT,bq,bI,aY,bp,Ty.fieldTy,Ty.fieldOf,Nat.reduceLT,Nat.reduceEqDiff,Nat.reduceAdd,Nat.reduceMul,Nat.reduceSub,Nat.reduceLeDiff,Nat.reduceBEq,Nat.reduceBNe,reduceIte,reduceDIte,reduceCtorEq];rfl) ?_ ?_;·first|trivial|omega|(simp;done)|(simp;omega));show ∃ z,_;refine q_l ?_;simp only[pe2,u1,u3,u4,Int.toNat_natCast,aN,Nz];exact KK (n:=n) (s:=s) hC hi
    ·intro hb1;(try simp only[bf] at hb1);(have hi:i=q.length:=by have h9: ¬ (i:Int)<(q.length:Int):=hb1;omega);refine bd (aD ?_);refine az (ax ?_);refine ah (cI hG (by simp only[hT,c8,bW.eq_def,cj.eq_def,da,fj,ee,fi,fg,fR,ef,mx0,mx1,mx2,mx3,mx4,mx5,mx6,aT,bq,bI,aY,bp,Ty.fieldTy,Ty.fieldOf,Nat.reduceLT,Nat.reduceEqDiff,Nat.reduceAdd,Nat.reduceMul,Nat.reduceSub,Nat.reduceLeDiff,Nat.reduceBEq,Nat.reduceBNe,reduceIte,reduceDIte,reduceCtorEq];rfl) ?_ ?_)
     ·(try simp only[ba]);rw[Ew (p:=p) (n:=n) (s:=s) hi];exact KI hC hz hle
     refine aI ?_;show ∃ z,_;refine q_l ?_;obtain⟨m,hm⟩:=div_next hC hz hle;exact⟨m,aR (ct (au q) r),by rw[Ew (p:=p) (n:=n) (s:=s) hi,aJ],_,rfl,hm,e8 (by rw[aL];exact h0) (by rw[aL];exact hle) hC.hl⟩
  ·(intro hb0;(try simp only[bf] at hb0);(have hle: ¬q.length<=r.length:=by have h9: ¬ (q.length:Int)<=((aH r).length:Int):=hb0;rw[aF] at h9;omega);have he:=div_end hz hle;refine bd (aD ?_);refine az (ax ?_);refine ah (ak ?_);refine cI hG (by simp only[hT,c8,bW.eq_def,cj.eq_def,da,fj,ee,fi,fg,fR,ef,mx0,mx1,mx2,mx3,mx4,mx5,mx6,aT,bq,bI,aY,bp,Ty.fieldTy,Ty.fieldOf,Nat.reduceLT,Nat.reduceEqDiff,Nat.reduceAdd,Nat.reduceMul,Nat.reduceSub,Nat.reduceLeDiff,Nat.reduceBEq,Nat.reduceBNe,reduceIte,reduceDIte,reduceCtorEq];rfl) ?_ ?_;·first|trivial|omega|(simp;done)|(simp;omega));refine ah (ay ?_);refine q_e [] ?_;rw[<- he];exact⟨rfl,trivial,rfl⟩
def qJ(B:aj):Tab:={types:= [(3,(.int .i64)),(79,tyP)],elems:= [],cons:= [(68,pB),(120,oG)],hint:= [13],N:=21,base:=B}
theorem AZ{B:aj}(hB:aB B):aG Tryz.prog (qJ B):=⟨⟨tc ty3 (tc fG (ae)),af,by simp only[qJ,ioB];omega⟩,aE (cc Tryz.func68 (oH hB) (cc Tryz.func120 (wu hB) (aA))),by kernel_rfl⟩
def lM:Con:=fun l os=>match l,os with
 | [.z (.slice (.st (.pair (.st (.pair .bool (.slice (.int .u32)))) (.st (.pair .bool (.slice (.int .u32))))))) p,.z (.slice (.st (.pair (.st (.pair .bool (.slice (.int .u32)))) (.st (.pair .bool (.slice (.int .u32))))))) q],[]=>some (iR p q,[.z tyP (aH (cB (au p) (au q)))],[])
 |_,_=>none
theorem wx{B:aj}(hB:aB B):Valid B Tryz.prog 70 lM:=by
 refine ab (AZ hB).tab Tryz.func70 rfl rfl rfl ?_;intro args os C rs os' hc hC;unfold lM at hc;split at hc;case h_2=>cases hc
 rename_i p q;cases hc;refine v_h (AZ hB) fun X hP hT hr hG=> ?_;have hU:=qJ.eq_1;unfold qJ at hT;have hX:=ai @oG.eq_1<| @pB.eq_1;simp only[Tryz.f70,aC,al,ioB];refine s_g hG ?_;refine ak (av ?_);refine bj (fun(z:Nat×List Rat×List Rat)=>(⟨[(0,.l (.z tyP (aH z.2.1))),(1,.l (.z tyP (aH z.2.2)))],[]⟩:aa)) (fun z=>tK p q z.1 z.2.1 z.2.2) (fun z=>z.2.2.length) (q.length+1,au p,au q) ?_ ?_ ?_;·refine q_l ?_;rw[xi hC.hp,xi hC.hq];exact⟨rfl,rfl⟩
 ·exact Hk hC
 ·rintro⟨n,a,b⟩ hz;try dsimp only at hz
  refine ak (s_g hG ?_);refine ao ?_ ?_
  ·intro hb0;(try simp only[bt] at hb0);(have hl:0<b.length:=by have h9:(0:Int)<((aH b).length:Int):=hb0;rw[aF] at h9;omega);obtain⟨d1,d2,⟨m,d3⟩,d4⟩:=KL hz hl;refine aq (ah ?_);refine av (s_q hG ?_ ?_)
   ·(try simp only[ba]);exact d1
   refine ag hG ?_ ?_
   ·(try simp only[ba]);rw[aJ,aJ];exact d2
   refine aI ?_;show ∃ z,_;refine q_l ?_;rw[aJ,aJ,aJ];exact⟨m,b,rfl,_,rfl,d3,d4⟩
  ·intro hb0;(try simp only[bf] at hb0);(have hl: ¬0<b.length:=by have h9: ¬ (0:Int)<((aH b).length:Int):=hb0;rw[aF] at h9;omega);obtain⟨d1,d2⟩:=NA hz hl;refine bd (aD ?_);refine az (ax ?_);refine ah (s_q hG ?_ ?_)
   ·(try simp only[ba]);exact d1
   refine ay (q_e [] ?_);rw[aJ,d2]
def qK(B:aj):Tab:={types:= [(3,(.int .i64)),(79,tyP)],elems:= [],cons:= [(68,pB),(70,lM),(77,jF),(120,oG)],hint:= [14],N:=19,base:=B}
theorem A0{B:aj}(hB:aB B):aG Tryz.prog (qK B):=⟨⟨tc ty3 (tc fG (ae)),af,by simp only[qK,ioB];omega⟩,aE (cc Tryz.func68 (oH hB) (cc Tryz.func70 (wx hB) (cc Tryz.func77 (wv hB) (cc Tryz.func120 (wu hB) (aA))))),by kernel_rfl⟩
def qL:Con:=fun l os=>match l,os with
 | [.z (.slice (.st (.pair (.st (.pair .bool (.slice (.int .u32)))) (.st (.pair .bool (.slice (.int .u32))))))) p],[]=>some (lY p,[.z tyP (aH (cu (au p)))],[])
 |_,_=>none
theorem Io{B:aj}(hB:aB B):Valid B Tryz.prog 79 qL:=by
 refine ab (A0 hB).tab Tryz.func79 rfl rfl rfl ?_;intro args os C rs os' hc hC;unfold qL at hc;split at hc;case h_2=>cases hc
 rename_i p;cases hc;refine v_h (A0 hB) fun X hP hT hr hG=> ?_;have hU:=qK.eq_1;unfold qK at hT;have hX:=ai @lM.eq_1<|ai @jF.eq_1<|ai @oG.eq_1<| @pB.eq_1;simp only[Tryz.f79,aC,al,ioB];refine s_g hG ?_;refine ak (s_g hG ?_);refine ao ?_ ?_
 ·intro hb0;try simp only[bt] at hb0
  refine s_g hG ?_;refine ay (aw ?_);refine q_e [] ?_;have h9:(p.length:Int)=0:=hb0;obtain rfl:p= []:=List.eq_nil_of_length_eq_zero (by omega);rfl
 ·intro hb0;try simp only[bf] at hb0
  have hne:p≠ []:=by intro e;subst e;exact hb0 rfl
  obtain⟨c1,c2,c3,c4,c5⟩:=hC hne;refine aq (ah ?_);refine s_q hG ?_ ?_
  ·(try simp only[ba]);simp only[aJ];exact⟨⟨c1,by omega⟩,c3,c4⟩
  refine s_q hG ?_ ?_
  ·(try simp only[ba]);simp only[aJ];exact c5
  refine ay (q_e [] ?_);simp only[aJ,cu,if_neg (show ¬au p= [] from fun e=>hne (by have:=congrArg List.length e;rw[aL] at this;exact List.eq_nil_of_length_eq_zero this))]
end Go.Proofs.YtdojbabpnaifoaaGreatDoor
end
section
namespace Go.Cm
open Go.RowKit
def wy:Code->Option (Nat×TypeId×Nat)
 | .region _ ops false=>match ops.toList with
  | [o1,o2]=>match o1.guard,o1.dst,o1.op,o2.guard,o2.dst,o2.op with
   |none,some d,.alloc T,none,none,.store T' (.tmp d') (.tmp p)=>if T=T'/\d'=d/\p≠d then some (d,T,p) else none
   |_,_,_,_,_,_=>none
  |_=>none
 |_=>none
theorem x8{H:Nat->Prop}{w:World}{ρ:Nat->Value}{cs:List LV}{vs:List Value}(h:bx (fu H w ρ) cs vs):∀ c∈vs,c.oneCell'=true:=by
 intro c hc;obtain⟨i,hi,rfl⟩:=List.getElem_of_mem hc;have hl:=h.length;obtain⟨v,h1,h2⟩:=h.get (List.getElem?_eq_getElem (show i<cs.length by omega));rw[List.getElem?_eq_getElem hi] at h1;cases h1;exact h2.2
theorem MC{X:Cx}{r:Option Nat}{n:Nat}(c:Code){d:Nat}{T:TypeId}{p:Nat}{u:Ty}(h:wy c=some (d,T,p))(hT:cQ X.P T u)(a:Act)(w:World)(hd:d<a.tmps.size)(hl:(a.eval (.tmp p)).cells.toList.length=u.w)(h1:∀ c∈(a.eval (.tmp p)).cells.toList,c.oneCell'=true):
  ∃ Wb:World,(∀ k,k<w.heap.size->Wb.heap[k]? =w.heap[k]?)/\Wb.heap[w.heap.size]? =some (.cells ((a.eval (.tmp p)).cells.toList).toArray T (0,0))/\Wb.heap.size=w.heap.size+1/\(Wb.os=w.os/\Wb.tape=w.tape/\Wb.output=w.output)/\
   ∀ {K:Act->World->Prop} {R:Exit->Act->World->Prop},K (a.put (some d) (.pointer (some ⟨w.heap.size,0,none⟩))) Wb->c.wpIn (fw r) n X.P (Exit.then K R) a w:=by
 cases c with
 |region id ops draw=>
  cases draw with
  |true=>simp[wy] at h
  |false=>
   simp only[wy] at h;split at h;(case h_2=>cases h);rename_i o1 o2 hops;split at h;(case h_2=>cases h);rename_i d0 T0 T' d' p' g1 e1 e2 g2 e3 e4;split at h;(case isFalse=>cases h);rename_i hc;obtain⟨rfl,rfl,hpd⟩:=hc;cases h;have hz:=fU hT.leaf u.zeroCells u.zeroCells_length u.zeroCells_one;have hrow:(w.alloc (.cells (mkV u.isAgg u.zeroCells).cells T)).heap[w.heap.size]? =some (.cells u.zeroCells.toArray T (0,0)):=by
    rw[heap_alloc_new];congr 2;apply Array.ext';simpa using hz
   (have hst:=fb (P:=X.P) hT (v:=a.eval (.tmp p)) hrow hl h1 (o:=0) (by rw[u.zeroCells_length];omega);have hset:=dz hrow (new:=(a.eval (.tmp p)).cells.toList) (off:=0) (by rw[hl,u.zeroCells_length];omega);refine⟨(w.alloc (.cells (mkV u.isAgg u.zeroCells).cells T)).setCells w.heap.size 0 (a.eval (.tmp p)).cells.toList,fun k hk=> ?_,?_,?_,?_,?_⟩;·rw[ck _ _ _ _ (by omega)];exact ca w _ k hk);·rw[hset];have e0:u.zeroCells.drop (0+(a.eval (.tmp p)).cells.toList.length)= []:=List.drop_of_length_le (by rw[hl,u.zeroCells_length];omega);rw[e0];simp
   ·rw[lR,World.size_alloc]
   ·have hb:=Bel.setCells (M:=fun _=>True) (b:=w.heap.size) trivial (a.eval (.tmp p)).cells.toList 0 ((Bel.refl (fun _=>True) w).alloc (.cells (mkV u.isAgg u.zeroCells).cells T));exact⟨hb.os,hb.tape,hb.output⟩
   ·intro K R hk;refine wpIn_region_list ?_;rw[hops];(have hw1:∀ t,Region.wanted o1 (yielded ops t)=true:=fun t=>by simp[Region.wanted,g1]);(have hw2:∀ t,Region.wanted o2 (yielded ops t)=true:=fun t=>by simp[Region.wanted,g2]);simp only[wpListIn,hw1,if_true];refine bn (v:= .pointer (some ⟨w.heap.size,0,none⟩)) (w':=w.alloc (.cells (mkV u.isAgg u.zeroCells).cells T)) ?_ ?_;·unfold execOp;rw[e2];exact bC (uJ hT w)
    ·rw[e1];simp only[hw2,if_true];have hdv:(a.put (some d) (.pointer (some ⟨w.heap.size,0,none⟩))).eval (.tmp d)= .pointer (some ⟨w.heap.size,0,none⟩):=by
      simp[Act.eval,Act.put,hd]
     have hpv:(a.put (some d) (.pointer (some ⟨w.heap.size,0,none⟩))).eval (.tmp p)=a.eval (.tmp p):=by
      show (a.put (some d) _).tmps.getD p undef=a.tmps.getD p undef;exact Act.getD_put_ne hpd
     (refine fX (w':=(w.alloc (.cells (mkV u.isAgg u.zeroCells).cells T)).setCells w.heap.size 0 (a.eval (.tmp p)).cells.toList) ?_ ?_;·unfold execOp;rw[e4];simp only[hdv,hpv];simp[hst]);·rw[e3];exact hk
 |_=>simp[wy] at h
theorem Fits.freshO{X:Cx}{s:aa}{a:Act}{w w':World}{d:Nat}{obj:aO}{val:Value}{ρ:Nat->Value}(hf:Fits X s a w ρ)(hdB:d<ioB)
  (hkeep:∀ k,k<w.heap.size->w'.heap[k]? =w.heap[k]?) (hval:∀ b,Blk val b->w.heap.size<=b)
  (hobj:∀ H' ρ',(∀ b,b<w.heap.size->H' b->hot X.O ρ s.own b)->bm (hot X.O ρ s.own) w w'->(∀ i,i≠d->ρ' i=ρ i)->ρ' d=val->b6 H' w' ρ' X.M (d,obj)):
  ∃ ρ',ρ' d=val/\(∀ i,i≠d->ρ' i=ρ i)/\Fits X {env:=bT (LV.kill d) s.env,own:=(d,obj)::bu (LV.kill d) (del s.own d)} a w' ρ':=by
 have hlt:=fun p hp b hb=>((hf.own p hp).lt (b:=b) hb).2;have hs:bm (hot X.O ρ s.own) w w':=fun b _ hb=>hkeep b (cY hb);have hh:∀ b,b<w.heap.size->hot X.O (lP ρ d val) ((d,obj)::bu (LV.kill d) (del s.own d)) b->hot X.O ρ s.own b:=by
  intro b hb h;rcases h with h|⟨p,hp,hp2⟩;·exact .inl h
  ·(rcases List.mem_cons.1 hp with rfl|hp;·simp only[cL] at hp2;have:=hval b hp2;omega);·obtain⟨u,h1,_⟩:=br hp;have h2:=bN.1 h1;rw[dj _ _ h2.2] at hp2;exact df h2.1 hp2
 have hρ:∀ i,i≠d->lP ρ d val i=ρ i:=fun i hi=>dj _ _ hi;refine⟨lP ρ d val,cL _ _ _,hρ,hf.env_map (fun x v hx=>bl hh hs hρ hx) ?_ ?_ ?_⟩
 ·intro p hp;rcases List.mem_cons.1 hp with rfl|hp;·exact hobj _ _ hh hs hρ (cL _ _ _)
  ·obtain⟨u,h1,h2⟩:=br hp;have h3:=bN.1 h1;have:=(hf.own _ h3.1).move (f:=LV.kill d) (ρ':=lP ρ d val) hh hs (fun x v hx=>bl hh hs hρ hx) (hρ _ h3.2) (fun b hb=>hkeep b (hlt _ h3.1 b hb));rw[<- h2] at this;exact this
 ·intro p hp hB hF;rcases List.mem_cons.1 hp with rfl|hp;·exact absurd hB (Nat.not_le.2 hdB)
  ·obtain⟨u,h1,_⟩:=br hp;have h3:=bN.1 h1;rw[hρ _ h3.2];exact hf.io _ h3.1 hB hF
 ·rw[List.pairwise_cons];constructor;·intro q hq;obtain⟨u,h1,_⟩:=br hq;have h3:=bN.1 h1;refine⟨fun e=>h3.2 e.symm,fun b hb hq2=> ?_⟩;rw[dj _ _ h3.2] at hq2;simp only[cL] at hb;have h4:=hval b hb;have:=hlt _ h3.1 b hq2;omega
  ·have hap:=cE (f:=LV.kill d) (fun i j=>i≠j/\∀ b,Blk (ρ i) b-> ¬Blk (ρ j) b) (c7 (fun i j=>i≠j/\∀ b,Blk (ρ i) b-> ¬Blk (ρ j) b) (n:=d) hf.apart);refine hap.imp_of_mem fun {p q} hp hq hpq=> ?_;obtain⟨_,h1,_⟩:=br hp;obtain⟨_,h2,_⟩:=br hq;rw[dj _ _ (bN.1 h1).2,dj _ _ (bN.1 h2).2];exact hpq
theorem Ip{X:Cx}(hr:X.r=none){s:aa}{K:Exit->aa->Prop}{g:Operand}{ps:Array Tmp}{assign body:Code}{gf:FuncId}
  {items:List (List LV)} (henters:∀ args w,(callFunc gf args).run X.P w= .ok (.enter gf args) w) (hdata:∀ it∈items,it.length=ps.size/\it.all LV.isZ=true) {d pv:Nat} {TB:TypeId} {ub:Ty} (hasg:wy assign=some (d,TB,pv)) (hTb:cQ X.P TB ub) (hdN:d<X.T.N) (ks:List Nat)
  (hk1:ks.all (fun t=> !ps.toList.contains t&&t !=d)=true) (hps:ps.toList.all (fun t=>decide (t<X.T.N))=true)
  {ι:Type} (f:Nat->ι->aa) (Φ:Nat->ι->Prop) (x₀:ι) (h₀:le s (f 0 x₀))
  (hseq:∀ (a:Act) (w:World) (ρ:Nat->Value),St X s a w->Fits X s a w ρ->(∀ b,hot X.O (cN ρ s.own) (f 0 x₀).own b->b<w.heap.size)->∃ (lb:List Value) (E:Nat->Prop),a.eval g= .func (.func gf) #[] lb.toArray/\(∀ b,E b->X.M b/\(∃ o:Obj,w.heap[b]? =some o/\o.isCells=true)/\ ¬hot X.O (cN ρ s.own) (f 0 x₀).own b/\hot X.O ρ s.own b)/\∃ enc:Nat->Array Value,
   (∀ k (hk:k<items.length),bx (aS (fun b=>hot X.O (cN ρ s.own) (f 0 x₀).own b∨E b) w (fun _=>undef)) items[k] (enc k).toList)/\uT X.P gf lb.toArray enc items.length (yP (hot (fun _=>False) (cN ρ s.own) (f 0 x₀).own) w.heap.size) w E) (hΦ:Φ 0 x₀) (hks:∀ k x,(f k x).env.all (fun e=>ks.contains e.1)=true)
  (hround:∀ k (hk:k<items.length) (x:ι),Φ k x->∃ s1 v cs,bb (dS (f k x) (ps.toList.zip items[k])) (.tmp pv)=some v/\v.cells=some cs/\cs.length=ub.w/\cs.all (fun c=> !c.isOf d)=true/\s1={env:=(d,.l (.ownP d 0))::del ((dS (f k x) (ps.toList.zip items[k])).kill d).env d,own:=(d,.box TB cs)::((dS (f k x) (ps.toList.zip items[k])).kill d).own}/\
   ∀ X':Cx,X'.P=X.P->X'.T={X.T with keep:=ks}->J X' body s1 (wU f Φ ks K k))
  (hdone:∀ x,Φ items.length x->K .normal (f items.length x)):J X (.rangeFunc g ps assign body) s K:=by
 intro a w hst;obtain⟨ρ,hf⟩:=hst.fits;have hHlt':∀ b,hot X.O (cN ρ s.own) (f 0 x₀).own b->b<w.heap.size:=fun b hb=>hf.hot_lt hst.others hst.below (mf h₀ hb);have hseq':=hseq a w ρ hst hf hHlt';obtain⟨H,hH⟩:∃ H,H=hot (fun _=>False) (cN ρ s.own) (f 0 x₀).own:=⟨_,rfl⟩;have hHX:∀ b,H b->hot X.O (cN ρ s.own) (f 0 x₀).own b:=fun b hb=>by rw[hH] at hb;exact hb.elim False.elim .inr
 rw[<- hH] at hseq';obtain⟨lb,E,hlb1,hE,enc,henc,hsq⟩:=hseq';have hEM:=fun b hb=>(hE b hb).1;have hEw:=fun b hb=>(hE b hb).2.1;have hEH:∀ b,E b-> ¬H b:=fun b hb h=>(hE b hb).2.2.1 (hHX b h);have hw0:X.w0.heap.size<=w.heap.size:=hst.below.size;have hout0:ew X a w H E (f 0 x₀) w (cN ρ s.own):=by
  have h1:Fits (XE X E) (f 0 x₀) a w (cN ρ s.own):=Fits.leO h₀ hf (fun b _ hb=>by
   (rcases hb with(hb|hb)|hb;·exact .inl hb);·exact(hE b hb).2.2.2
   ·exact mf h₀ (.inr hb))
  exact⟨h1,hst.below,fun p hp b hb=> .inr (by rw[hH];exact df hp hb),KeepsOthers.refl _,bm.refl _ _⟩
 refine wpIn_rangeFunc ?_;intro fn hfn;have hround0:(fw X.r).round=none:=by rw[hr];rfl
 rw[hround0];obtain⟨rec,hrec⟩:∃ rec:LoopState->Option Code->Loop,rec=fun st pe=>{state:=st,pending:=pe,fn,tmps:=a.tmps,params:=ps,assign,body,defers:=w.heap.size}:=⟨_,rfl⟩;obtain⟨W1,hW1⟩:∃ W1,(w.alloc (.deferred (some []))).alloc (.loop (rec .ready none))=W1:=⟨_,rfl⟩;have hsz1:W1.heap.size=w.heap.size+2:=by rw[<- hW1];simp
 have hL1:W1.heap[w.heap.size+1]? =some (.loop (rec .ready none)):=by
  rw[<- hW1];have:=World.alloc_heap_new (w.alloc (.deferred (some []))) (.loop (rec .ready none));rwa [World.size_alloc] at this
 have hD1:W1.heap[w.heap.size]? =some (.deferred (some [])):=by
  rw[<- hW1];exact(Below.heap_alloc _ _ _ (by simp)).trans (World.alloc_heap_new w _)
 have hb1:Below w.heap.size w W1:=by rw[<- hW1];exact((Below.refl _ w).alloc (Nat.le_refl _) _).alloc (by simp) _
 have hout1:ew X a w H E (f 0 x₀) W1 (cN ρ s.own):=by
  rw[<- hW1];exact(hout0.abide hw0 (World.grownBy_alloc _ _ none) (by simp)).abide hw0 (World.grownBy_alloc _ _ none) (by simp)
 refine⟨w.heap.size+1,[{target:= .collected w.heap.size,args:= #[]}],W1,{target:= .fn (.func gf) lb.toArray,args:= #[.func (.yield (w.heap.size+1)) #[] #[]]},W1,gf,
  #[.func (.yield (w.heap.size+1)) #[] #[]]++lb.toArray,W1,?_,?_,fun _ _=>trivial,?_,fun h=>by simp[fw,Fence.wide] at h,?_⟩
 ·rw[<- hW1,hrec];exact run_enterLoop_outer _ _ _ _ _
 ·simp only[resolve,hlb1];simp[go_sem]
 ·simp[invoke,go_sem,henters]
 have hfw:fw X.r=fw none:=by rw[hr]
 rw[hfw];have hkeptA:∀ k (act0:Act),act0.tmps=((ps.toList.zip (enc k).toList).foldl (fun(t:Array Value) (p:Nat×Value)=>t.setIfInBounds p.1 p.2) a.tmps)->∀ t∈ks,∀ pt:Value,(act0.put (some d) pt).tmps.getD t undef=a.tmps.getD t undef:=by
  intro k act0 h0 t ht pt;have h1:=List.all_eq_true.1 hk1 t ht;simp only[Bool.and_eq_true,Bool.not_eq_true',List.contains_eq_mem,decide_eq_false_iff_not,bne_iff_ne] at h1;rw[Act.getD_put_ne h1.2,h0,nG];intro hm;obtain⟨p,hp,rfl⟩:=List.mem_map.1 hm;exact h1.1 (List.of_mem_zip hp).1
 have hE1: ¬E (w.heap.size+1):=fun e=>by
  obtain⟨o,ho,_⟩:=hEw _ e;have:=(Array.getElem?_eq_some_iff.1 ho).1;omega
 have hE2: ¬E w.heap.size:=fun e=>by
  obtain⟨o,ho,_⟩:=hEw _ e;have:=(Array.getElem?_eq_some_iff.1 ho).1;omega
 refine(hsq (w.heap.size+1)
  (fun k W=>(∃ x ρ,Φ k x/\ew X a w H E (f k x) W ρ)/\W.heap[w.heap.size+1]? =some (.loop (rec .ready none))/\W.heap[w.heap.size]? =some (.deferred (some [])))
  (fun W=>∃ c,(∃ z ρ,Jz K z c/\ew X a w H E z W ρ)/\W.heap[w.heap.size+1]? =some (.loop (rec .done (some c)))/\W.heap[w.heap.size]? =some (.deferred (some [])))
  W1 hb1 ?_ ?_ ?_ ?_ ?_ ⟨⟨x₀,_,hΦ,hout1⟩,hL1,hD1⟩).mono ?_
 ·rintro k A B row ⟨⟨x,ρx,hx,ho⟩,hl,hd⟩ hg' hrow;refine⟨⟨x,ρx,hx,ho.abide hw0 hg' (fun r e=> ?_)⟩,(grownBy_keeps hg' (fun r e=>(hrow r e).2) hl rfl).trans hl,(grownBy_keeps hg' (fun r e=>(hrow r e).2) hd rfl).trans hd⟩;obtain⟨h1,o,h2,h3⟩:=hrow r e;exact⟨by omega,o,h2,Obj.not_cells_of_walk h3⟩
 ·rintro _ A B row ⟨c,⟨z,ρx,hx,ho⟩,hl,hd⟩ hg' hrow;refine⟨c,⟨z,ρx,hx,ho.abide hw0 hg' (fun r e=> ?_)⟩,(grownBy_keeps hg' (fun r e=>(hrow r e).2) hl rfl).trans hl,(grownBy_keeps hg' (fun r e=>(hrow r e).2) hd rfl).trans hd⟩;obtain⟨h1,o,h2,h3⟩:=hrow r e;exact⟨by omega,o,h2,Obj.not_cells_of_walk h3⟩
 ·rintro k A B ⟨⟨x,ρx,hx,ho⟩,hl,hd⟩ ht;exact⟨⟨x,ρx,hx,ho.turn hEM hEw hEH ht⟩,(ht.same _ hE1).trans hl,(ht.same _ hE2).trans hd⟩
 ·rintro A B ⟨c,⟨z,ρx,hx,ho⟩,hl,hd⟩ ht;exact⟨c,⟨z,ρx,hx,ho.turn hEM hEw hEH ht⟩,(ht.same _ hE1).trans hl,(ht.same _ hE2).trans hd⟩
 ·rintro k W ⟨⟨x,ρx,hx,ho⟩,hl,hd⟩ hkN;obtain⟨s1,v,cs,hv1,hv2,hv3,hv4,hs1,hJ⟩:=hround k hkN x hx;have hlt:w.heap.size+1<W.heap.size:=(Array.getElem?_eq_some_iff.1 hl).1;have hen:=henc k hkN;have hdat:=hdata _ (List.getElem_mem hkN);have hes:(enc k).size=ps.size:=by have:=hen.length;rw[hdat.1] at this;simpa using this.symm
  have hy:=run_yield (P:=X.P) (args:=enc k) hl (by rw[hrec];exact hes);rw[hrec] at hy;obtain⟨W2,hW2⟩:∃ W2,W.putObj (w.heap.size+1) (.loop {rec .ready none with state:= .busy})=W2:=⟨_,rfl⟩;have hl2:W2.heap[w.heap.size+1]? =some (.loop {rec .ready none with state:= .busy}):=by rw[<- hW2];exact World.putObj_heap_same hlt
  have hd2:W2.heap[w.heap.size]? =some (.deferred (some [])):=by rw[<- hW2];exact(World.putObj_heap_other (by omega)).trans hd
  have ho2:ew X a w H E (f k x) W2 ρx:=by
   rw[<- hW2];exact ho.abide hw0 (grownBy_putObj' _ _ _) (fun r e=>by cases e;exact⟨by omega,_,hl,rfl⟩)
  have hzip:(ps.zip (enc k)).toList=ps.toList.zip (enc k).toList:=Array.toList_zip;have hfold:(ps.zip (enc k)).foldl (fun(t:Array Value) (p:Nat×Value)=>t.setIfInBounds p.1 p.2) a.tmps=(ps.toList.zip (enc k).toList).foldl (fun(t:Array Value) (p:Nat×Value)=>t.setIfInBounds p.1 p.2) a.tmps:=by
   rw[<- Array.foldl_toList,hzip]
  obtain⟨act0,hact0⟩:∃ act0:Act,act0={tmps:=(ps.toList.zip (enc k).toList).foldl (fun(t:Array Value) (p:Nat×Value)=>t.setIfInBounds p.1 p.2) a.tmps,defers:= []}:=⟨_,rfl⟩;have hfitA:Fits (XE X E) (f k x) {a with defers:= []} W2 ρx:=⟨ho2.fits.env,ho2.fits.own,ho2.fits.io,ho2.fits.apart⟩;have hHsub:∀ b,b<w.heap.size->hot (XE X E).O ρx (f k x).own b->(hot X.O (cN ρ s.own) (f 0 x₀).own b∨E b):=by
   (rintro b hb ((h1|h1)|⟨p,hp,hpb⟩);·exact .inl (.inl h1));·exact .inr h1
   ·(rcases ho2.own p hp b hpb with h2|h2;·omega);·exact .inl (hHX b h2)
  have hvals:bx (aS (hot (XE X E).O ρx (f k x).own) W2 ρx) ((ps.toList.zip (items[k])).map Prod.snd) (enc k).toList:=by
   have e:(ps.toList.zip (items[k])).map Prod.snd=items[k]:=List.map_snd_zip (by have:=hdat.1;simp;omega);rw[e];refine hen.imp (fun y v hy h=> ?_);have hz:=List.all_eq_true.1 hdat.2 y hy;refine aX hHsub (fun b hb hc=>ho2.stays b (fun e=>hb (e.imp (hHX b) id)) hc) (fun id hid=> ?_) h;cases y<;>simp_all [LV.isZ,LV.isOf]
  have hszA:a.tmps.size=X.T.N:=hst.size;have e1:(ps.toList.zip (items[k])).map Prod.fst=ps.toList:=List.map_fst_zip (by have:=hdat.1;simp;omega);obtain⟨actP,hactP,hfitP,hszP⟩:=nF (ps.toList.zip (items[k])) (enc k).toList hfitA rfl hszA (fun p hp=>by
   have:=List.all_eq_true.1 hps p.1 (List.of_mem_zip hp).1;simpa using this) hvals
  rw[e1] at hactP;have hP0:actP=act0:=by rw[hactP,hact0]
  rw[hP0] at hfitP hszP;have hpv:bb (dS (f k x) (ps.toList.zip items[k])) (.tmp pv)=some v:=hv1;have hcells:=AV.cells_ok hv2 (bZ hfitP hpv);obtain⟨Wb,hWb1,hWb2,hWb3,hWb4,hexec⟩:=MC (X:=X) (r:=some (w.heap.size+1)) (n:=0) assign hasg hTb act0 W (by rw[hszP];exact hdN) (by rw[<- hcells.length];exact hv3) (x8 hcells);refine⟨fn,_,assign,body,hy,roundIn_of_wpIn (F:=fw none) trivial ?_⟩;rw[hfold,<- hact0];refine hexec ⟨_,run_beginRound ((hWb1 _ (Array.getElem?_eq_some_iff.1 hl).1).trans hl) (by rw[hrec]),?_⟩;have hW2s:W2.heap.size=W.heap.size:=by rw[<- hW2];simp[World.putObj]
  obtain⟨W2b,hW2b⟩:∃ W2b,Wb.putObj (w.heap.size+1) (.loop {rec .ready none with state:= .busy})=W2b:=⟨_,rfl⟩;rw[hW2b];have hkb:∀ k,k<W2.heap.size->W2b.heap[k]? =W2.heap[k]? :=by
   (intro k hk;rw[<- hW2b,<- hW2];by_cases e:k=w.heap.size+1;·subst e;rw[World.putObj_heap_same (by omega),World.putObj_heap_same hlt]);·rw[World.putObj_heap_other e,World.putObj_heap_other e,hWb1 k (by omega)]
  have hnb:W2b.heap[W2.heap.size]? =some (.cells ((act0.eval (.tmp pv)).cells.toList).toArray TB (0,0)):=by
   rw[<- hW2b,hW2s,World.putObj_heap_other (by omega)];exact hWb2
  have hbelb:∀ M:Nat->Prop,Bel M W2 W2b:=fun M=>by
   (have e1:W2b.os=W2.os:=by rw[<- hW2b,<- hW2];exact hWb4.1);(have e2:W2b.tape=W2.tape:=by rw[<- hW2b,<- hW2];exact hWb4.2.1);(have e3:W2b.output=W2.output:=by rw[<- hW2b,<- hW2];exact hWb4.2.2);exact⟨e1,e2,e3,by rw[<- hW2b];simp only[World.putObj,Array.size_setIfInBounds];omega,fun k hk _=>hkb k hk⟩
  have hdB:d<ioB:=Nat.lt_of_lt_of_le hdN hst.small.n;obtain⟨ρn,hρd,hρo,hfit1⟩:=Fits.freshO hfitP hdB (w':=W2b) (obj:= .box TB cs) (val:= .pointer (some ⟨W2.heap.size,0,none⟩)) hkb (fun b hb=>by simp[Blk] at hb;omega)
   (fun H' ρ' hh hs hρ hρd=>⟨W2.heap.size,(act0.eval (.tmp pv)).cells.toList,hρd,.inl (by have:=ho2.bel.size;exact this),hnb,bx.kill hh hs hρ (fun c hc=>by have:=List.all_eq_true.1 hv4 c hc;simpa using this) hcells⟩)
  have hfit1:=hfit1.put (d:=d) (by rw[hszP];exact hdN) (v:= .l (.ownP d 0)) (val:= .pointer (some ⟨W2.heap.size,0,none⟩)) ⟨W2.heap.size,hρd,rfl⟩;have hs1':s1={env:=(d,.l (.ownP d 0))::del (bT (LV.kill d) (dS (f k x) (ps.toList.zip items[k])).env) d,own:=(d,.box TB cs)::bu (LV.kill d) (del (dS (f k x) (ps.toList.zip items[k])).own d)}:=hs1;rw[hW2s] at hfit1;have hkA:∀ t∈ks,(act0.put (some d) (.pointer (some ⟨W.heap.size,0,none⟩))).tmps.getD t undef=a.tmps.getD t undef:=fun t ht=>hkeptA k act0 (by rw[hact0]) t ht _;have hst1:St {XE X E with T:={X.T with keep:=ks},I:=fun b=>∃ p∈(f k x).own,Blk (ρx p.1) b,w0:=W2,r:=some (w.heap.size+1),tm:=fun t=>(act0.put (some d) (.pointer (some ⟨W.heap.size,0,none⟩))).tmps.getD t undef} s1 (act0.put (some d) (.pointer (some ⟨W.heap.size,0,none⟩))) W2b:=by
   refine⟨?_,fun _ _=>rfl,by rw[Act.size_put];exact hszP,hbelb _,fun b hb hm=> ?_,⟨hst.small.n,?_,fun b hb=> ?_⟩,ρn,by rw[hs1'];exact hfit1.env,fun p hp=> ?_,by rw[hs1'];exact hfit1.io,by rw[hs1'];exact hfit1.apart⟩;·rw[Act.defers_put,hact0];exact Marks.nil _ _
   ·rcases hb with hb|hb
    ·rcases hm with hm|⟨p,hp,hpb⟩
     ·have h1:=hst.others b hb;have h2:b<X.w0.heap.size:=by
       by_cases h3:b<X.w0.heap.size
       ·exact h3
       ·exact absurd (.inl (by omega)) h1
      have:=ho2.bel.size;simp only at hm;omega
     ·exact hst.others b hb ((ho2.fits.own p hp).lt hpb).1
    ·obtain⟨o,ho,_⟩:=hEw b hb;have h2:=(Array.getElem?_eq_some_iff.1 ho).1;rcases hm with hm|⟨p,hp,hpb⟩;·have:=ho2.keeps.size;simp only at hm;omega
     ·(rcases ho2.own p hp b hpb with h1|h1;·omega);·exact hEH b hb h1
   ·(have h1:=hst.small.on;refine⟨Nat.le_trans h1.1 ho2.bel.size,fun b hb=> ?_⟩;rw[<- h1.2 b hb];refine ho2.bel.block b (Nat.lt_of_lt_of_le hb h1.1) ?_;rintro(hm|hm);·have:=h1.1;simp only at hb;omega);·have:=hst.small.io b hm;simp only at hb;omega
   ·(obtain⟨p,hp,hpb⟩:=hb;rcases ((ho2.fits.own p hp).lt hpb).1 with h1|h1;·exact Nat.le_trans hst.small.on.1 h1);·exact hst.small.io b h1
   ·have hq:∀ (l:List (Nat×LV)) (s:aa),(dS s l).own=s.own:=by
     intro l;induction l with
     |nil=>intro s;rfl
     |cons q l ih=>intro s;exact ih _
    rw[hs1'] at hp;have hp':p∈(d,aO.box TB cs)::bu (LV.kill d) (del (dS (f k x) (ps.toList.zip items[k])).own d):=hp;have h5:=(hfit1.own p hp').moved (H':=hot (XE X E).O ρn s1.own) (ρ':=ρn) (k:=p.1) (f:=id) (M':=Cx.M {XE X E with T:={X.T with keep:=ks},I:=fun b=>∃ p∈(f k x).own,Blk (ρx p.1) b,w0:=W2,r:=some (w.heap.size+1),tm:=fun t=>(act0.put (some d) (.pointer (some ⟨W.heap.size,0,none⟩))).tmps.getD t undef}) (fun b _ h=>by rw[hs1'] at h;exact h) (fun x v hx=>aX (fun b _ h=>by rw[hs1'] at h;exact h) (bm.refl _ _) (fun _ _=>rfl) hx) rfl (fun b hb=>by
     (rcases List.mem_cons.1 hp' with rfl|hp2;·simp only[hρd] at hb;simp[Blk] at hb;exact .inl (by simp only;omega));·obtain⟨u,g1,_⟩:=br hp2;have g2:=bN.1 g1;rw[hρo _ g2.2] at hb;exact .inr ⟨(p.1,u),by rw[<- hq];exact g2.1,hb⟩)
    rw[aO.map_id] at h5;exact h5
  have hw:=hJ {XE X E with T:={X.T with keep:=ks},I:=fun b=>∃ p∈(f k x).own,Blk (ρx p.1) b,w0:=W2,r:=some (w.heap.size+1),tm:=fun t=>(act0.put (some d) (.pointer (some ⟨W.heap.size,0,none⟩))).tmps.getD t undef} rfl rfl _ _ hst1;refine DY (n:=2) (Code.wpIn_mono (fun e a3 W3 hp=> ?_) hw);obtain⟨s3,hK3,hst3⟩:=hp;have fin:∀ (jump:Option Code) (z:aa),z.env.all (fun e=>ks.contains e.1)=true->le s3 z->∃ ρz,ew X a w H E z (W3.putObj (w.heap.size+1) (.loop (rec (if jump.isNone then .ready else .done) jump))) ρz/\
    (Instr.endRound (w.heap.size+1) jump).run X.P W3= .ok (.bool jump.isNone) (W3.putObj (w.heap.size+1) (.loop (rec (if jump.isNone then .ready else .done) jump)))/\
    (W3.putObj (w.heap.size+1) (.loop (rec (if jump.isNone then .ready else .done) jump))).heap[w.heap.size+1]? =some (.loop (rec (if jump.isNone then .ready else .done) jump))/\
    (W3.putObj (w.heap.size+1) (.loop (rec (if jump.isNone then .ready else .done) jump))).heap[w.heap.size]? =some (.deferred (some []))/\
    yP H w.heap.size W (W3.putObj (w.heap.size+1) (.loop (rec (if jump.isNone then .ready else .done) jump))):=by
   intro jump z hz hle;obtain⟨ρz,h1,h2,h3⟩:=ho2.back hkA hz hle hst3;have hl3:=h2.same _ _ hl2 rfl;have hd3:=h2.same _ _ hd2 rfl;have he:=run_endRound (P:=X.P) jump hl3;rw[hrec] at he ⊢;refine⟨ρz,h1.abide hw0 (grownBy_putObj' _ _ _) (fun r e=>by cases e;exact⟨by omega,_,hl3,rfl⟩),he,World.putObj_heap_same (Array.getElem?_eq_some_iff.1 hl3).1,(World.putObj_heap_other (by omega)).trans hd3,fun b hb hnH hc=> ?_⟩;(have e1:W2.heap[b]? =W.heap[b]? :=by rw[<- hW2];exact World.putObj_heap_other (by omega));rw[World.putObj_heap_other (by omega),h3 b hb hnH (by rw[e1];exact hc),e1]
  cases e with
  |normal=>
   obtain⟨y,hle,hy'⟩:=hK3;obtain⟨ρz,h1,h2,h3,h4,h5⟩:=fin none _ (hks (k+1) y) hle;exact⟨_,_,h2,.inl ⟨rfl,⟨⟨y,ρz,hy',h1⟩,h3,h4⟩,h5⟩⟩
  |ret=>
   obtain⟨z,hle,hz,hk3⟩:=hK3;obtain⟨ρz,h1,h2,h3,h4,h5⟩:=fin (some .ret) _ hz hle;exact⟨_,_,h2,.inr ⟨rfl,.ret,⟨z,ρz,hk3,h1⟩,h3,h4⟩⟩
  |exit i=>
   obtain⟨z,hle,hz,hk3⟩:=hK3;obtain⟨ρz,h1,h2,h3,h4,h5⟩:=fin (some (.exit i)) _ hz hle;exact⟨_,_,h2,.inr ⟨rfl,.exit i,⟨z,ρz,hk3,h1⟩,h3,h4⟩⟩
  |goto t=>exact hK3.elim
  |panic ch=>exact hK3.elim
  |outgrown=>exact hK3.elim
 ·rintro e W2 ⟨⟨v,rfl⟩,(⟨⟨x,ρx,hx,ho⟩,hl,hd⟩|⟨c,⟨z,ρz,hj,ho⟩,hl,hd⟩)⟩;·have he:=run_endLoop (P:=X.P) hl (by rw[hrec];simp);rw[hrec] at he;refine⟨none,_,he,_,hdone x hx,(ho.abide hw0 (grownBy_putObj' _ _ _) (fun r e=>by cases e;exact⟨by omega,_,hl,rfl⟩)).st hst ((World.putObj_heap_other (by omega)).trans hd)⟩
  ·have he:=run_endLoop (P:=X.P) hl (by rw[hrec];simp);rw[hrec] at he;refine⟨some c,_,he,?_⟩;cases c with
   |ret=>exact wpIn_ret ⟨z,hj,(ho.abide hw0 (grownBy_putObj' _ _ _) (fun r e=>by cases e;exact⟨by omega,_,hl,rfl⟩)).st hst ((World.putObj_heap_other (by omega)).trans hd)⟩
   |exit i=>exact wpIn_exit ⟨z,hj,(ho.abide hw0 (grownBy_putObj' _ _ _) (fun r e=>by cases e;exact⟨by omega,_,hl,rfl⟩)).st hst ((World.putObj_heap_other (by omega)).trans hd)⟩
   |_=>exact hj.elim
theorem wz{X:Cx}(hr:X.r=none){s:aa}{K:Exit->aa->Prop}{g:Operand}{ps:Array Tmp}{assign body:Code}{gf:FuncId}{caps:List CV}
  (hg:bb s g=some (.l (.fn gf caps))) (hcap:caps.all CV.pure=true) {items:List (List LV)} (hseq:mQ X.P gf ps.size caps items) {d pv:Nat} {TB:TypeId} {ub:Ty} (hasg:wy assign=some (d,TB,pv)) (hTb:cQ X.P TB ub) (hdN:d<X.T.N) (ks:List Nat)
  (hk1:ks.all (fun t=> !ps.toList.contains t&&t !=d)=true) (hps:ps.toList.all (fun t=>decide (t<X.T.N))=true)
  {ι:Type} (f:Nat->ι->aa) (Φ:Nat->ι->Prop) (x₀:ι) (h₀:le s (f 0 x₀)) (hΦ:Φ 0 x₀) (hks:∀ k x,(f k x).env.all (fun e=>ks.contains e.1)=true)
  (hround:∀ k (hk:k<items.length) (x:ι),Φ k x->∃ s1 v cs,bb (dS (f k x) (ps.toList.zip items[k])) (.tmp pv)=some v/\v.cells=some cs/\cs.length=ub.w/\cs.all (fun c=> !c.isOf d)=true/\s1={env:=(d,.l (.ownP d 0))::del ((dS (f k x) (ps.toList.zip items[k])).kill d).env d,own:=(d,.box TB cs)::((dS (f k x) (ps.toList.zip items[k])).kill d).own}/\
   ∀ X':Cx,X'.P=X.P->X'.T={X.T with keep:=ks}->J X' body s1 (wU f Φ ks K k))
  (hdone:∀ x,Φ items.length x->K .normal (f items.length x)):J X (.rangeFunc g ps assign body) s K:=
 Ip hr hseq.enters hseq.data hasg hTb hdN ks hk1 hps f Φ x₀ h₀ (fun a w ρ _ hf hlt=>by
  obtain⟨lb,hlb1,hlb2⟩:aS (hot X.O ρ s.own) w ρ (.fn gf caps) (a.eval g):=bZ hf hg;obtain⟨enc,h1,h2⟩:=hseq.seq _ w lb hlt (iI hcap (fun b hb=>mf h₀ hb) hlb2);exact⟨lb,fun _=>False,hlb1,fun b hb=>hb.elim,enc,fun k hk=>(h1 k hk).imp (fun x v hx h=>aX (H:=hot X.O (cN ρ s.own) (f 0 x₀).own) (fun b _ hb=>hb.elim id (fun e=>e.elim)) (bm.refl _ _) (fun _ _=>rfl) h),h2.kp (fun A B hk b hb hn hc=>hk b hb (fun e=>hn (e.elim False.elim .inr)) hc)⟩) hΦ hks hround hdone
end Go.Cm
end
section
namespace Go.Proofs.YtdojbabpnaifoaaGreatDoor
open Go Go.Cm Go.Proofs
def qM(B:aj):Tab:={types:= [(79,tyP)],elems:= [],cons:= [],hint:= [],N:=4,base:=B}
theorem A1{B:aj}(hB:aB B):aG Tryz.prog (qM B):=⟨⟨tc fG (ae),af,by simp only[qM,ioB];omega⟩,bG rfl,by kernel_rfl⟩
def oI:Con:=fun l os=>match l,os with
 | [.z (.slice (.st (.pair (.st (.pair .bool (.slice (.int .u32)))) (.st (.pair .bool (.slice (.int .u32))))))) xs],[]=>some (True,[.fn 125 [.z (.ptr tyP) xs]],[])
 |_,_=>none
theorem wA{B:aj}(hB:aB B):Valid B Tryz.prog 83 oI:=by
 refine ab (A1 hB).tab Tryz.func83 rfl rfl rfl ?_;intro args os C rs os' hc hC;unfold oI at hc;split at hc;case h_2=>cases hc
 rename_i xs;cases hc;refine v_h (A1 hB) fun X hP hT hr hG=> ?_;have hU:=qM.eq_1;unfold qM at hT;have hX:=Bool.not_true;simp only[Tryz.f83,aC,al,ioB];refine s_g hG ?_;refine s_g hG ?_;refine ay (q_e [] ?_);rfl
def gP(B:aj):Tab:={types:= [(79,tyP),(91,tyN)],elems:= [],cons:= [(58,l7),(83,oI),(105,ee),(113,ef)],hint:= [],N:=19,base:=B}
theorem A2{B:aj}(hB:aB B):aG Tryz.prog (gP B):=⟨⟨tc fG (tc ty91 (ae)),af,by simp only[gP,ioB];omega⟩,aE (cc Tryz.func58 (lI hB) (cc Tryz.func83 (wA hB) (cc Tryz.func105 (lJ hB) (cc Tryz.func113 (lK hB) (aA))))),by kernel_rfl⟩
def F6:Con:=fun l os=>match l,os with
 | [.z (.slice (.st (.pair (.st (.pair .bool (.slice (.int .u32)))) (.st (.pair .bool (.slice (.int .u32))))))) p,.z (.st (.pair (.st (.pair .bool (.slice (.int .u32)))) (.st (.pair .bool (.slice (.int .u32)))))) x],[]=>some (Sz QM p/\p.length<=100/\NOK x/\lq (bD x)<=QM,[.z tyN (bo (aW (au p) (bD x)))],[])
 |_,_=>none
theorem Iq{B:aj}(hB:aB B):Valid B Tryz.prog 89 F6:=by
 refine ab (A2 hB).tab Tryz.func89 rfl rfl rfl ?_;intro args os C rs os' hc hC;unfold F6 at hc;split at hc;case h_2=>cases hc
 rename_i p x;cases hc;refine v_h (A2 hB) fun X hP hT hr hG=> ?_;have hU:=gP.eq_1;unfold gP at hT;have hX:=ai @oI.eq_1<|ai @l7.eq_1<|ai @ee.eq_1<| @ef.eq_1;simp only[Tryz.f89,aC,al,ioB];have hl:p.length<=100:=hC.2.1;refine s_g hG ?_;refine s_g hG ?_;refine ak (s_g hG ?_);refine av (wz hr (gf:=125) (caps:= [.z (.ptr tyP) p]) (items:=bV p) (by simp only[hT,gP,mx0,mx1,mx2,mx3,mx4,mx5,mx6,aT,bq,bI,aY,bp,Ty.fieldTy,Ty.fieldOf,Nat.reduceLT,Nat.reduceEqDiff,Nat.reduceAdd,Nat.reduceMul,Nat.reduceSub,Nat.reduceLeDiff,Nat.reduceBEq,Nat.reduceBNe,reduceIte,reduceDIte,reduceCtorEq];try rfl) (by rfl) (by rw[hP];exact vw p) (by rfl) (ub:=tyN) (by rw[hP];exact ty91) (by simp only[hT,gP];omega) [3,4,5] (by rfl) (by simp only[hT,gP];try rfl) (fun(k:Nat) (z:Rat)=>(⟨[(3,.l (.z (.ptr tyN) x)),(4,.l (.ownP 4 0)),(5,.l (.ownP 5 0))],[(4,.box 91 [.z .bool false,.val (.slice none 0 0),.z .bool false,.val (.slice none 0 0)]),(5,.box 91 [.z .bool (bo z).1.1,.z (.slice (.int .u32)) (bo z).1.2,.z .bool (bo z).2.1,.z (.slice (.int .u32)) (bo z).2.2])]⟩:aa)) (fun(k:Nat) (z:Rat)=>z=aW ((au p).drop (p.length-k)) (bD x)) 0 ?_ ?_ ?_ ?_ ?_);·simp only[ml0,ml1,Nat.reduceLT,Nat.reduceEqDiff,Nat.reduceAdd,Nat.reduceMul,Nat.reduceSub,Nat.reduceLeDiff,Nat.reduceBEq,Nat.reduceBNe,reduceIte,reduceDIte,reduceCtorEq]
 ·exact CY p (bD x)
 ·intro k z;rfl
 ·intro k hk;rintro v hz;try dsimp only at hz
  have hk:k<p.length:=by simpa [bV] using hk
  have hg:=zE hC.1 (zF hk);have hv:=Hl hC hk hz;refine⟨_,_,_,by simp only[hT,gP,bV,jy,mx0,mx1,mx2,mx3,mx4,mx5,mx6,aT,bq,bI,aY,bp,Ty.fieldTy,Ty.fieldOf,Nat.reduceLT,Nat.reduceEqDiff,Nat.reduceAdd,Nat.reduceMul,Nat.reduceSub,Nat.reduceLeDiff,Nat.reduceBEq,Nat.reduceBNe,reduceIte,reduceDIte,reduceCtorEq,List.getElem_map,List.getElem_range];rfl,by simp only[mx0,mx1,mx2,mx3,mx4,mx5,mx6,aT,bq,bI,aY,bp,Ty.fieldTy,Ty.fieldOf,Nat.reduceLT,Nat.reduceEqDiff,Nat.reduceAdd,Nat.reduceMul,Nat.reduceSub,Nat.reduceLeDiff,Nat.reduceBEq,Nat.reduceBNe,reduceIte,reduceDIte,reduceCtorEq];rfl,by rfl,by simp only[mx0,mx1,mx2,mx3,mx4,mx5,mx6,aT,bq,bI,aY,bp,Ty.fieldTy,Ty.fieldOf,Nat.reduceLT,Nat.reduceEqDiff,Nat.reduceAdd,Nat.reduceMul,Nat.reduceSub,Nat.reduceLeDiff,Nat.reduceBEq,Nat.reduceBNe,reduceIte,reduceDIte,reduceCtorEq]<;>rfl,by simp only[hT,gP,bV,jy,mx0,mx1,mx2,mx3,mx4,mx5,mx6,aT,bq,bI,aY,bp,Ty.fieldTy,Ty.fieldOf,Nat.reduceLT,Nat.reduceEqDiff,Nat.reduceAdd,Nat.reduceMul,Nat.reduceSub,Nat.reduceLeDiff,Nat.reduceBEq,Nat.reduceBNe,reduceIte,reduceDIte,reduceCtorEq,List.getElem_map,List.getElem_range];rfl,?_⟩;intro X' hP' hT';have hG':aG X'.P X'.T:=by rw[hP',hT'];exact hG.keep _
  rw[hT] at hT';refine av (D0 hG' ?_ ?_)
  ·(try simp only[ba]);simp only[pe2,hg,aN];exact hv
  refine aI ?_;show ∃ z,_;simp only[ml0,ml1,Nat.reduceLT,Nat.reduceEqDiff,Nat.reduceAdd,Nat.reduceMul,Nat.reduceSub,Nat.reduceLeDiff,Nat.reduceBEq,Nat.reduceBNe,reduceIte,reduceDIte,reduceCtorEq];simp only[pe2,hg,aN];exact⟨_,rfl,rfl,rfl,rfl,by rw[hz,CZ hk]⟩
 ·rintro v hz;try dsimp only at hz
  rw[KO] at hz;refine aI (ah ?_);refine s_g hG ?_;refine ay (q_e [] ?_);rw[hz]
def qN(B:aj):Tab:={types:= [(3,(.int .i64)),(79,tyP),(91,tyN)],elems:= [(79,91)],cons:= [(58,l7),(82,jg),(107,wm)],hint:= [26],N:=31,base:=B}
theorem A3{B:aj}(hB:aB B):aG Tryz.prog (qN B):=⟨⟨tc ty3 (tc fG (tc ty91 (ae))),aQ (by kernel_rfl) (af),by simp only[qN,ioB];omega⟩,aE (cc Tryz.func58 (lI hB) (cc Tryz.func82 (iy hB) (cc Tryz.func107 (wq hB) (aA)))),by kernel_rfl⟩
def MD:Con:=fun l os=>match l,os with
 | [.z (.slice (.st (.pair (.st (.pair .bool (.slice (.int .u32)))) (.st (.pair .bool (.slice (.int .u32))))))) p,.z (.slice (.st (.pair (.st (.pair .bool (.slice (.int .u32)))) (.st (.pair .bool (.slice (.int .u32))))))) q,.val (.func (.func g) fs cs)],[]=>some ((g=58/\fs.size=0/\cs.size=0)/\Sz QH p/\Sz QH q/\p.length<=1000/\q.length<=1000,[.z tyP (aH (bz (· + ·) (au p) (au q)))],[])
 |_,_=>none
theorem Ir{B:aj}(hB:aB B):Valid B Tryz.prog 57 MD:=by
 refine ab (A3 hB).tab Tryz.func57 rfl rfl rfl ?_;intro args os C rs os' hc hC;unfold MD at hc;split at hc;case h_2=>cases hc
 rename_i p q g fs cs;cases hc;refine v_h (A3 hB) fun X hP hT hr hG=> ?_;have hU:=qN.eq_1;unfold qN at hT;have hX:=ai @wm.eq_1<|ai @l7.eq_1<| @jg.eq_1;simp only[Tryz.f57,aC,al,ioB];obtain⟨⟨rfl,e1,e2⟩,hp,hq,hl1,hl2⟩:=hC;obtain rfl:=Array.eq_empty_of_size_eq_zero e1;obtain rfl:=Array.eq_empty_of_size_eq_zero e2;have hl1:p.length<=1000:=hl1;have hl2:q.length<=1000:=hl2;refine s_g hG ?_;refine s_g hG ?_;refine ak (s_g hG ?_);refine av (bj (fun(z:Nat)=>(⟨[(0,.l (.z tyP p)),(1,.l (.z tyP q)),(2,.l (.val (.func (.func 58) #[] #[]))),(7,.l (.ownS 27)),(13,.l (.z (.int .i64) ((max p.length q.length:Nat):Int))),(14,.l (.z (.int .i64) (z:Int)))],[(27,.arr tyN 91 (aH (bO (· + ·) (au p) (au q) z)))]⟩:aa)) (fun z=>z<=max p.length q.length) (fun z=>max p.length q.length-z) 0 ?_ ?_ ?_);·refine q_l ?_;exact⟨Eu p q trivial,rfl,by unfold ioB;omega,rfl⟩
 ·omega
 ·rintro k g1;try dsimp only at g1
  refine s_g hG ?_;refine ak (ao ?_ ?_)
  ·intro hb0;(try simp only[bt] at hb0);refine aq (ah ?_);refine ak (av ?_);refine s_g hG ?_;refine ag hG ?_ ?_
   ·(try simp only[ba]);exact vo hp hq (by omega) _
   (refine aI (ah ?_);refine ag hG ?_ ?_;·first|trivial|omega|(simp;done)|(simp;omega));show ∃ z,_;refine q_l ?_;exact tz (op:=(· + ·)) (by omega) (by omega)
  ·intro hb0;(try simp only[bf] at hb0);refine bd (aD ?_);refine az (ax ?_);refine ah (s_q hG ?_ ?_)
   ·(try simp only[ba]);exact tA zx hp hq (by omega)
   refine ay (q_e [] ?_);exact zz g1 hb0
def qO(B:aj):Tab:={types:= [(3,(.int .i64)),(79,tyP),(91,tyN)],elems:= [(79,91)],cons:= [(60,fi),(82,jg),(107,wm)],hint:= [26],N:=31,base:=B}
theorem A4{B:aj}(hB:aB B):aG Tryz.prog (qO B):=⟨⟨tc ty3 (tc fG (tc ty91 (ae))),aQ (by kernel_rfl) (af),by simp only[qO,ioB];omega⟩,aE (cc Tryz.func60 (wb hB) (cc Tryz.func82 (iy hB) (cc Tryz.func107 (wq hB) (aA)))),by kernel_rfl⟩
def ME:Con:=fun l os=>match l,os with
 | [.z (.slice (.st (.pair (.st (.pair .bool (.slice (.int .u32)))) (.st (.pair .bool (.slice (.int .u32))))))) p,.z (.slice (.st (.pair (.st (.pair .bool (.slice (.int .u32)))) (.st (.pair .bool (.slice (.int .u32))))))) q,.val (.func (.func g) fs cs)],[]=>some ((g=60/\fs.size=0/\cs.size=0)/\Sz QH p/\Sz QH q/\p.length<=1000/\q.length<=1000,[.z tyP (aH (bz (· - ·) (au p) (au q)))],[])
 |_,_=>none
theorem Is{B:aj}(hB:aB B):Valid B Tryz.prog 57 ME:=by
 refine ab (A4 hB).tab Tryz.func57 rfl rfl rfl ?_;intro args os C rs os' hc hC;unfold ME at hc;split at hc;case h_2=>cases hc
 rename_i p q g fs cs;cases hc;refine v_h (A4 hB) fun X hP hT hr hG=> ?_;have hU:=qO.eq_1;unfold qO at hT;have hX:=ai @wm.eq_1<|ai @fi.eq_1<| @jg.eq_1;simp only[Tryz.f57,aC,al,ioB];obtain⟨⟨rfl,e1,e2⟩,hp,hq,hl1,hl2⟩:=hC;obtain rfl:=Array.eq_empty_of_size_eq_zero e1;obtain rfl:=Array.eq_empty_of_size_eq_zero e2;have hl1:p.length<=1000:=hl1;have hl2:q.length<=1000:=hl2;refine s_g hG ?_;refine s_g hG ?_;refine ak (s_g hG ?_);refine av (bj (fun(z:Nat)=>(⟨[(0,.l (.z tyP p)),(1,.l (.z tyP q)),(2,.l (.val (.func (.func 60) #[] #[]))),(7,.l (.ownS 27)),(13,.l (.z (.int .i64) ((max p.length q.length:Nat):Int))),(14,.l (.z (.int .i64) (z:Int)))],[(27,.arr tyN 91 (aH (bO (· - ·) (au p) (au q) z)))]⟩:aa)) (fun z=>z<=max p.length q.length) (fun z=>max p.length q.length-z) 0 ?_ ?_ ?_);·refine q_l ?_;exact⟨Eu p q trivial,rfl,by unfold ioB;omega,rfl⟩
 ·omega
 ·rintro k g1;try dsimp only at g1
  refine s_g hG ?_;refine ak (ao ?_ ?_)
  ·intro hb0;(try simp only[bt] at hb0);refine aq (ah ?_);refine ak (av ?_);refine s_g hG ?_;refine ag hG ?_ ?_
   ·(try simp only[ba]);exact vo hp hq (by omega) _
   (refine aI (ah ?_);refine ag hG ?_ ?_;·first|trivial|omega|(simp;done)|(simp;omega));show ∃ z,_;refine q_l ?_;exact tz (op:=(· - ·)) (by omega) (by omega)
  ·intro hb0;(try simp only[bf] at hb0);refine bd (aD ?_);refine az (ax ?_);refine ah (s_q hG ?_ ?_)
   ·(try simp only[ba]);exact tA zy hp hq (by omega)
   refine ay (q_e [] ?_);exact zz g1 hb0
def pC:Con:=fun l os=>match l,os with
 | [.z (.slice (.st (.pair (.st (.pair .bool (.slice (.int .u32)))) (.st (.pair .bool (.slice (.int .u32))))))) p,.z (.slice (.st (.pair (.st (.pair .bool (.slice (.int .u32)))) (.st (.pair .bool (.slice (.int .u32))))))) q,.val (.func (.func g) fs cs)],[]=>some (((g=58∨g=60)/\fs.size=0/\cs.size=0)/\Sz QH p/\Sz QH q/\p.length<=1000/\q.length<=1000,[.z tyP (aH (bz (if g=58 then (· + ·) else (· - ·)) (au p) (au q)))],[])
 |_,_=>none
theorem mC{B:aj}(hB:aB B):Valid B Tryz.prog 57 pC:=by
 intro args os C rs os' hc hC;unfold pC at hc;split at hc
 ·cases hc;obtain⟨⟨rfl|rfl,e1,e2⟩,h3⟩:=hC;·exact Ir hB _ _ _ _ _ rfl ⟨⟨rfl,e1,e2⟩,h3⟩
  ·exact Is hB _ _ _ _ _ rfl ⟨⟨rfl,e1,e2⟩,h3⟩
 ·cases hc
def qP(B:aj):Tab:={types:= [(79,tyP),(84,.func),(91,tyN)],elems:= [(79,91)],cons:= [(57,pC),(61,oF),(82,jg)],hint:= [],N:=11,base:=B}
theorem A5{B:aj}(hB:aB B):aG Tryz.prog (qP B):=⟨⟨tc fG (tc PP (tc ty91 (ae))),aQ (by kernel_rfl) (af),by simp only[qP,ioB];omega⟩,aE (cc Tryz.func57 (mC hB) (cc Tryz.func61 (wt hB) (cc Tryz.func82 (iy hB) (aA)))),by kernel_rfl⟩
def F7:Con:=fun l os=>match l,os with
 | [.z (.st (.pair (.st (.pair .bool (.slice (.int .u32)))) (.st (.pair .bool (.slice (.int .u32)))))) c,.ownP 10000000 0,.z (.ptr (.slice (.st (.pair (.st (.pair .bool (.slice (.int .u32)))) (.st (.pair .bool (.slice (.int .u32)))))))) b],[.box 79 [.z (.slice (.st (.pair (.st (.pair .bool (.slice (.int .u32)))) (.st (.pair .bool (.slice (.int .u32))))))) s]]=>some (C3 s b c,[],[.box 79 [.z tyP (aH (tO (au s) (au b) (bD c)))]])
 |_,_=>none
theorem It{B:aj}(hB:aB B):Valid B Tryz.prog 81 F7:=by
 refine ab (A5 hB).tab Tryz.func81 rfl rfl rfl ?_;intro args os C rs os' hc hC;unfold F7 at hc;split at hc;case h_2=>cases hc
 rename_i c b s;cases hc;refine v_h (A5 hB) fun X hP hT hr hG=> ?_;have hU:=qP.eq_1;unfold qP at hT;have hX:=ai @oF.eq_1<|ai @jg.eq_1<| @pC.eq_1;simp only[Tryz.f81,aC,al,ioB];refine s_g hG ?_;refine gB hG ?_ ?_
 ·try simp only[ba]
  obtain⟨q1,q2,q3,q4,q5,q6⟩:=Hm hC;exact⟨q1,⟨q2.1,by unfold QL;omega⟩,Or.inl trivial,q3,q4,q5,q6⟩
 refine q_e [] ?_;simp only[aJ];rfl
def gQ(B:aj):Tab:={types:= [(79,tyP),(91,tyN),(109,.func)],elems:= [],cons:= [(81,F7),(83,oI)],hint:= [],N:=18,base:=B}
theorem A6{B:aj}(hB:aB B):aG Tryz.prog (gQ B):=⟨⟨tc fG (tc ty91 (tc Qm (ae))),af,by simp only[gQ,ioB];omega⟩,aE (cc Tryz.func81 (It hB) (cc Tryz.func83 (wA hB) (aA))),by kernel_rfl⟩
def ns:Con:=fun l os=>match l,os with
 | [.z (.slice (.st (.pair (.st (.pair .bool (.slice (.int .u32)))) (.st (.pair .bool (.slice (.int .u32))))))) p,.z (.slice (.st (.pair (.st (.pair .bool (.slice (.int .u32)))) (.st (.pair .bool (.slice (.int .u32))))))) b],[]=>some (xl p b,[.z tyP (aH (kh (au p) (au b)))],[])
 |_,_=>none
theorem Iu{B:aj}(hB:aB B):Valid B Tryz.prog 80 ns:=by
 refine ab (A6 hB).tab Tryz.func80 rfl rfl rfl ?_;intro args os C rs os' hc hC;unfold ns at hc;split at hc;case h_2=>cases hc
 rename_i p b;cases hc;refine v_h (A6 hB) fun X hP hT hr hG=> ?_;have hU:=gQ.eq_1;unfold gQ at hT;have hX:=ai @F7.eq_1<| @oI.eq_1;simp only[Tryz.f80,aC,al,ioB];refine s_g hG ?_;refine s_g hG ?_;refine s_g hG ?_;refine ak (s_g hG ?_);refine av (wz hr (gf:=125) (caps:= [.z (.ptr tyP) p]) (items:=bV p) (by simp only[hT,gQ,mx0,mx1,mx2,mx3,mx4,mx5,mx6,aT,bq,bI,aY,bp,Ty.fieldTy,Ty.fieldOf,Nat.reduceLT,Nat.reduceEqDiff,Nat.reduceAdd,Nat.reduceMul,Nat.reduceSub,Nat.reduceLeDiff,Nat.reduceBEq,Nat.reduceBNe,reduceIte,reduceDIte,reduceCtorEq];try rfl) (by rfl) (by rw[hP];exact vw p) (by rfl) (ub:=tyN) (by rw[hP];exact ty91) (by simp only[hT,gQ];omega) [3,5,6] (by rfl) (by simp only[hT,gQ];try rfl) (fun(k:Nat) (z:Unit)=>(⟨[(3,.l (.z (.ptr tyP) b)),(5,.l (.ownP 5 0)),(6,.l (.ownP 6 0))],[(5,.box 79 [.z tyP (aH (gF (au p) (au b) k))]),(6,.box 109 [.fn 81 [.p 5,.z (.ptr tyP) b]])]⟩:aa)) (fun(k:Nat) (z:Unit)=>True) () ?_ ?_ ?_ ?_ ?_);·simp only[ml0,ml1,Nat.reduceLT,Nat.reduceEqDiff,Nat.reduceAdd,Nat.reduceMul,Nat.reduceSub,Nat.reduceLeDiff,Nat.reduceBEq,Nat.reduceBNe,reduceIte,reduceDIte,reduceCtorEq];simp only[fS];rfl
 ·trivial
 ·intro k z;rfl
 ·intro k hk;rintro⟨⟩-;have hk:k<p.length:=by simpa [bV] using hk
  have hg:=zE hC.1 (zF hk);refine⟨_,_,_,by simp only[hT,gQ,bV,jy,mx0,mx1,mx2,mx3,mx4,mx5,mx6,aT,bq,bI,aY,bp,Ty.fieldTy,Ty.fieldOf,Nat.reduceLT,Nat.reduceEqDiff,Nat.reduceAdd,Nat.reduceMul,Nat.reduceSub,Nat.reduceLeDiff,Nat.reduceBEq,Nat.reduceBNe,reduceIte,reduceDIte,reduceCtorEq,List.getElem_map,List.getElem_range];rfl,by simp only[mx0,mx1,mx2,mx3,mx4,mx5,mx6,aT,bq,bI,aY,bp,Ty.fieldTy,Ty.fieldOf,Nat.reduceLT,Nat.reduceEqDiff,Nat.reduceAdd,Nat.reduceMul,Nat.reduceSub,Nat.reduceLeDiff,Nat.reduceBEq,Nat.reduceBNe,reduceIte,reduceDIte,reduceCtorEq];rfl,by rfl,by simp only[mx0,mx1,mx2,mx3,mx4,mx5,mx6,aT,bq,bI,aY,bp,Ty.fieldTy,Ty.fieldOf,Nat.reduceLT,Nat.reduceEqDiff,Nat.reduceAdd,Nat.reduceMul,Nat.reduceSub,Nat.reduceLeDiff,Nat.reduceBEq,Nat.reduceBNe,reduceIte,reduceDIte,reduceCtorEq]<;>rfl,by simp only[hT,gQ,bV,jy,mx0,mx1,mx2,mx3,mx4,mx5,mx6,aT,bq,bI,aY,bp,Ty.fieldTy,Ty.fieldOf,Nat.reduceLT,Nat.reduceEqDiff,Nat.reduceAdd,Nat.reduceMul,Nat.reduceSub,Nat.reduceLeDiff,Nat.reduceBEq,Nat.reduceBNe,reduceIte,reduceDIte,reduceCtorEq,List.getElem_map,List.getElem_range];rfl,?_⟩;intro X' hP' hT';have hG':aG X'.P X'.T:=by rw[hP',hT'];exact hG.keep _
  rw[hT] at hT';refine av (nH hG' ?_ ?_)
  ·(try simp only[ba]);simp only[pe2,hg];exact hC.2.2 k hk
  refine aI ?_;show ∃ z,_;simp only[ml0,ml1,Nat.reduceLT,Nat.reduceEqDiff,Nat.reduceAdd,Nat.reduceMul,Nat.reduceSub,Nat.reduceLeDiff,Nat.reduceBEq,Nat.reduceBNe,reduceIte,reduceDIte,reduceCtorEq];simp only[pe2,hg,aJ,aN,gF,aL]
 ·rintro⟨⟩-;rw[show (bV p).length=p.length by simp[bV]];refine aI (ah ?_);refine s_g hG ?_;refine ay (q_e [] ?_);rw[kh,aL]
def qQ(B:aj):Tab:={types:= [(3,(.int .i64)),(22,(.slice .str)),(31,(.int .i64)),(46,.str)],elems:= [],cons:= [(87,lL),(106,F5)],hint:= [],N:=33,base:=B}
theorem A7{B:aj}(hB:aB B):aG Tryz.prog (qQ B):=⟨⟨tc ty3 (tc eK (tc ju (tc jc (ae)))),af,by simp only[qQ,ioB];omega⟩,aE (cc Tryz.func87 (wj hB) (cc Tryz.func106 (Ij hB) (aA))),by kernel_rfl⟩
def oJ:Con:=fun l os=>match l,os with
 | [.z (.slice .str) p],[]=>some (cT p,[.z tyP (aH (bh p)),.z (.int .i64) (bK p)],[])
 |_,_=>none
theorem wB{B:aj}(hB:aB B):Valid B Tryz.prog 54 oJ:=by
 refine ab (A7 hB).tab Tryz.func54 rfl rfl rfl ?_;intro args os C rs os' hc hC;unfold oJ at hc;split at hc;case h_2=>cases hc
 rename_i p;cases hc;refine v_h (A7 hB) fun X hP hT hr hG=> ?_;have hU:=qQ.eq_1;unfold qQ at hT;have hX:=ai @lL.eq_1<| @F5.eq_1;simp only[Tryz.f54,aC,al,ioB];have hl:p.length<1000000000+1:=by have:=hC.1;unfold QL at this;omega
 refine s_g hG ?_;refine ak (s_g hG ?_);refine ao ?_ ?_
 ·intro hb0;try simp only[bt] at hb0
  have hl41:41<p.length:=by have h9:(41:Int)<(p.length:Int):=hb0;omega
  refine s_g hG ?_;refine ay (aw ?_);refine q_e [] ?_;exact tW (C7 hl41)
 ·intro hb0;try simp only[bf] at hb0
  have hl41:p.length<=41:=by have h9: ¬ (41:Int)<(p.length:Int):=hb0;omega
  refine aq (ah ?_);refine ak (s_g hG ?_);refine av (bj (fun(z:Nat)=>(⟨[(0,.l (.z (.slice .str) p)),(2,.l (.val (.slice none 0 0))),(3,.l (.z (.int .i64) 0)),(9,.l (.z (.slice .str) p)),(10,.l (.z (.int .i64) (p.length:Int))),(11,.l (.z (.int .i64) (z:Int)))],[]⟩:aa)) (fun z=>z<=p.length/\(p.take z).all (fun q=>decide (cb q=0))=true) (fun z=>p.length-z) 0 ?_ ?_ ?_);·refine q_l ?_;rfl
  ·exact⟨by omega,rfl⟩
  ·rintro k ⟨g1,g2⟩;(try dsimp only at g1 g2);refine s_g hG ?_;refine ak (ao ?_ ?_)
   ·intro hb1;(try simp only[bt] at hb1);(have hk:k<p.length:=by have h9:(k:Int)<(p.length:Int):=hb1;omega);refine aq (ah ?_);refine ak (av ?_);refine s_q hG ?_ ?_
    ·(try simp only[ba]);exact⟨by omega,hb1⟩
    refine s_q hG ?_ ?_
    ·(try simp only[ba]);exact hC.2 _ (dW (t:= .str) hk)
    refine ao ?_ ?_;·intro hb2;(try simp only[bt] at hb2);refine s_g hG ?_;refine ay (bg ?_);refine aw (cR ?_);refine bg (aw ?_);refine q_e [] ?_;exact tW (Hp hk hl41 hb2)
    ·(intro hb2;(try simp only[bf] at hb2);refine aq (aI ?_);refine ah (ag hG ?_ ?_);·first|trivial|omega|(simp;done)|(simp;omega));show ∃ z,_;refine q_l ?_;exact⟨k+1,wo,hk,tU hk g2 hb2,by omega⟩
   ·intro hb1;(try simp only[bf] at hb1);(have hk:k=p.length:=by have h9: ¬ (k:Int)<(p.length:Int):=hb1;omega);subst hk;rw[List.take_length] at g2;refine bd (aD ?_);refine az (ax ?_);refine ah (ak ?_);refine s_q hG ?_ ?_
    ·(try simp only[ba]);exact C6 hl41
    refine ao ?_ ?_;·intro hb3;(try simp only[bt] at hb3);refine s_g hG ?_;refine ay (aw ?_);refine q_e [] ?_;exact tW (C8 hl41 g2 hb3)
    ·intro hb3;(try simp only[bf] at hb3);refine aq (ah ?_);refine s_q hG ?_ ?_
     ·(try simp only[ba]);exact⟨by unfold QL;omega,(tV hC g2).1⟩
     refine ay (q_e [] ?_);exact K2 hC hl41 g2 hb3
def qR(B:aj):Tab:={types:= [(3,(.int .i64)),(22,(.slice .str)),(31,(.int .i64)),(44,(.slice (.slice .str))),(98,(.slice tyP))],elems:= [(98,79)],cons:= [(54,oJ)],hint:= [],N:=29,base:=B}
theorem A8{B:aj}(hB:aB B):aG Tryz.prog (qR B):=⟨⟨tc ty3 (tc eK (tc ju (tc pE (tc uC (ae))))),aQ (by kernel_rfl) (af),by simp only[qR,ioB];omega⟩,aE (cc Tryz.func54 (wB hB) (aA)),by kernel_rfl⟩
def fk:Con:=fun l os=>match l,os with
 | [.z (.slice (.slice .str)) l],[]=>some (l.length<=1000/\∀ p∈l,cT p,[.z (.slice tyP) (gG l),.z (.int .i64) (bQ l)],[])
 |_,_=>none
theorem eI{B:aj}(hB:aB B):Valid B Tryz.prog 67 fk:=by
 refine ab (A8 hB).tab Tryz.func67 rfl rfl rfl ?_;intro args os C rs os' hc hC;unfold fk at hc;split at hc;case h_2=>cases hc
 rename_i l;cases hc;refine v_h (A8 hB) fun X hP hT hr hG=> ?_;have hU:=qR.eq_1;unfold qR at hT;have hX:= @oJ.eq_1;simp only[Tryz.f67,aC,al,ioB];have hl:l.length<=1000:=hC.1;refine s_g hG ?_;refine DX (s_g hG ?_);refine s_g hG ?_;refine ak (DW ?_);refine ah (ak ?_);refine s_g hG ?_;refine av (bj (fun(z:Option (Nat))=>match z with|none=>((⟨[(0,.l (.z (.slice (.slice .str)) l)),(2,.l (.val (.slice none 0 0))),(3,.l (.z (.int .i64) 0)),(4,.l (.val (.slice none 0 0))),(5,.l (.z (.int .i64) 0)),(9,.l (.z (.slice (.slice .str)) l)),(10,.l (.z (.int .i64) (l.length:Int))),(11,.l (.z (.int .i64) 0))],[]⟩:aa))|some z=>((⟨[(0,.l (.z (.slice (.slice .str)) l)),(2,.l (.val (.slice none 0 0))),(3,.l (.z (.int .i64) 0)),(4,.l (.ownS 25)),(5,.l (.z (.int .i64) 0)),(9,.l (.z (.slice (.slice .str)) l)),(10,.l (.z (.int .i64) (l.length:Int))),(11,.l (.z (.int .i64) (z:Int)))],[(25,.arr tyP 79 ((l.take z).map fun p=>aH (bh p)))]⟩:aa))) (fun(z:Option (Nat))=>match z with|none=>(True)|some z=>(1<=z/\z<=l.length/\(l.take z).all (fun p=>decide (bK p=0))=true)) (fun(z:Option (Nat))=>match z with|none=>(l.length+1)|some z=>(l.length-z)) none ?_ ?_ ?_);·simp only[ml0,ml1,Nat.reduceLT,Nat.reduceEqDiff,Nat.reduceAdd,Nat.reduceMul,Nat.reduceSub,Nat.reduceLeDiff,Nat.reduceBEq,Nat.reduceBNe,reduceIte,reduceDIte,reduceCtorEq]
 ·trivial
 ·rintro(_|k) hz_
  ·obtain⟨k,ek⟩:∃ k:Nat,k=0:=⟨0,rfl⟩;(have e0:(k:Int)=0:=by rw[ek];rfl);refine s_g hG ?_;refine ak (ao ?_ ?_)
   ·intro hb0;(try simp only[bt] at hb0);(have hk:k<l.length:=by first|(have h9:(k:Int)<(l.length:Int):=hb0;omega)|(have h9:(0:Int)<(l.length:Int):=hb0;omega));refine aq (ah ?_);refine ak (av ?_);refine s_q hG ?_ ?_
    ·(try simp only[ba]);exact⟨by omega,hb0⟩
    refine s_g hG ?_;refine ak (s_q hG ?_ ?_)
    ·(try simp only[ba]);first|exact hC.2 _ (dW (t:= .slice .str) hk)|(subst ek;exact hC.2 _ (dW (t:= .slice .str) (k:=0) hk))
    refine s_g hG ?_;refine ao ?_ ?_;·intro hb1;(try simp only[bt] at hb1);refine s_g hG ?_;refine bd (aD ?_);refine iL rfl ?_;refine aD (az ?_);refine ax (ah ?_);refine s_g hG ?_;refine ay (gp ?_);refine q_e [] ?_;subst ek;exact Hr hk hb1
    ·intro hb1;(try simp only[bf] at hb1);refine aq (ah ?_);refine ag hG ?_ ?_
     ·(try simp only[ba]);(unfold Cm.Roomy;try simp only[List.length_map,List.length_take]);omega
     (refine aI (ah ?_);refine ag hG ?_ ?_;·first|trivial|omega|(simp;done)|(simp;omega));refine⟨some (1),?_⟩;simp only[ml0,ml1,Nat.reduceLT,Nat.reduceEqDiff,Nat.reduceAdd,Nat.reduceMul,Nat.reduceSub,Nat.reduceLeDiff,Nat.reduceBEq,Nat.reduceBNe,reduceIte,reduceDIte,reduceCtorEq];subst ek;exact⟨hb1,zM hl hk hb1⟩
   ·intro hb0;(try simp only[bf] at hb0);(have hk: ¬k<l.length:=by intro h9;first|exact hb0 (show (k:Int)<(l.length:Int) by omega)|exact hb0 (show (0:Int)<(l.length:Int) by omega));refine bd (aD ?_);refine az (ax ?_);refine ah (s_g hG ?_);refine ay (gp ?_);refine q_e [] ?_;subst ek;exact Hs hk
  ·obtain⟨g0,g1,g2⟩:=hz_;(try dsimp only at g0 g1 g2);refine s_g hG ?_;refine ak (ao ?_ ?_)
   ·intro hb0;(try simp only[bt] at hb0);(have hk:k<l.length:=by first|(have h9:(k:Int)<(l.length:Int):=hb0;omega)|(have h9:(0:Int)<(l.length:Int):=hb0;omega));refine aq (ah ?_);refine ak (av ?_);refine s_q hG ?_ ?_
    ·(try simp only[ba]);exact⟨by omega,hb0⟩
    refine s_g hG ?_;refine ak (s_q hG ?_ ?_)
    ·(try simp only[ba]);first|exact hC.2 _ (dW (t:= .slice .str) hk)|(subst ek;exact hC.2 _ (dW (t:= .slice .str) (k:=0) hk))
    refine s_g hG ?_;refine ao ?_ ?_;·intro hb1;(try simp only[bt] at hb1);refine s_g hG ?_;refine bd (aD ?_);refine iL rfl ?_;refine aD (az ?_);refine ax (ah ?_);refine s_g hG ?_;refine ay (gp ?_);refine q_e [] ?_;exact zL hk g2 hb1
    ·intro hb1;(try simp only[bf] at hb1);refine aq (ah ?_);refine ag hG ?_ ?_
     ·(try simp only[ba]);(unfold Cm.Roomy;try simp only[List.length_map,List.length_take]);omega
     (refine aI (ah ?_);refine ag hG ?_ ?_;·first|trivial|omega|(simp;done)|(simp;omega));refine⟨some (k+1),?_⟩;simp only[ml0,ml1,Nat.reduceLT,Nat.reduceEqDiff,Nat.reduceAdd,Nat.reduceMul,Nat.reduceSub,Nat.reduceLeDiff,Nat.reduceBEq,Nat.reduceBNe,reduceIte,reduceDIte,reduceCtorEq];have hr:=tX hl hk g2 hb1;exact⟨hb1,hr⟩
   ·intro hb0;(try simp only[bf] at hb0);(have hk: ¬k<l.length:=by intro h9;first|exact hb0 (show (k:Int)<(l.length:Int) by omega)|exact hb0 (show (0:Int)<(l.length:Int) by omega));refine bd (aD ?_);refine az (ax ?_);refine ah (s_g hG ?_);refine ay (gp ?_);refine q_e [25] ?_;rw[List.take_of_length_le (by omega)] at g2 ⊢;exact K4 g2
def qS(B:aj):Tab:={types:= [(3,(.int .i64)),(78,tyP),(79,tyP)],elems:= [],cons:= [(82,jg),(88,oE)],hint:= [],N:=19,base:=B}
theorem A9{B:aj}(hB:aB B):aG Tryz.prog (qS B):=⟨⟨tc ty3 (tc Nf (tc fG (ae))),af,by simp only[qS,ioB];omega⟩,aE (cc Tryz.func82 (iy hB) (cc Tryz.func88 (wk hB) (aA))),by kernel_rfl⟩
def dY:Con:=fun l os=>match l,os with
 | [.z (.slice (.st (.pair (.st (.pair .bool (.slice (.int .u32)))) (.st (.pair .bool (.slice (.int .u32))))))) p],[]=>some (Sz QC p/\p.length<=QL,[.z (.slice .str) (fQ (aR (au p))),.z (.int .i64) (cl (aR (au p)))],[])
 |_,_=>none
theorem fl{B:aj}(hB:aB B):Valid B Tryz.prog 69 dY:=by
 refine ab (A9 hB).tab Tryz.func69 rfl rfl rfl ?_;intro args os C rs os' hc hC;unfold dY at hc;split at hc;case h_2=>cases hc
 rename_i p;cases hc;refine v_h (A9 hB) fun X hP hT hr hG=> ?_;have hU:=qS.eq_1;unfold qS at hT;have hX:=ai @oE.eq_1<| @jg.eq_1;simp only[Tryz.f69,aC,al,ioB];refine s_g hG ?_;refine s_q hG ?_ ?_
 ·try simp only[ba]
  exact hC
 refine ak (s_g hG ?_);refine ao ?_ ?_
 ·intro hb0;try simp only[bt] at hb0
  have hl:41<(aR (au p)).length:=by have h9:(41:Int)<((aH (aR (au p))).length:Int):=hb0;rw[aF] at h9;omega
  refine s_g hG ?_;refine ay (aw ?_);refine q_e [] ?_;exact C9 hl
 ·intro hb0;try simp only[bf] at hb0
  have hl: ¬41<(aR (au p)).length:=by have h9: ¬ (41:Int)<((aH (aR (au p))).length:Int):=hb0;rw[aF] at h9;omega
  refine aq (ah ?_);refine s_q hG ?_ ?_
  ·(try simp only[ba]);exact Hu hC hl
  refine ak (s_g hG ?_);refine ao ?_ ?_;·intro hb1;(try simp only[bt] at hb1);refine s_g hG ?_;refine ay (aw ?_);refine q_e [] ?_;exact Ht hl hb1
  ·intro hb1;(try simp only[bf] at hb1);refine aq (ah ?_);refine s_g hG ?_;refine ay (q_e [] ?_);exact K5 hl hb1
def qT(B:aj):Tab:={types:= [(79,tyP),(84,.func)],elems:= [],cons:= [(57,pC)],hint:= [],N:=8,base:=B}
theorem Ba{B:aj}(hB:aB B):aG Tryz.prog (qT B):=⟨⟨tc fG (tc PP (ae)),af,by simp only[qT,ioB];omega⟩,aE (cc Tryz.func57 (mC hB) (aA)),by kernel_rfl⟩
def F8:Con:=fun l os=>match l,os with
 | [.z (.slice (.st (.pair (.st (.pair .bool (.slice (.int .u32)))) (.st (.pair .bool (.slice (.int .u32))))))) p,.z (.slice (.st (.pair (.st (.pair .bool (.slice (.int .u32)))) (.st (.pair .bool (.slice (.int .u32))))))) q],[]=>some (Sz QH p/\Sz QH q/\p.length<=1000/\q.length<=1000,[.z tyP (aH (bz (· + ·) (au p) (au q)))],[])
 |_,_=>none
theorem Iv{B:aj}(hB:aB B):Valid B Tryz.prog 56 F8:=by
 refine ab (Ba hB).tab Tryz.func56 rfl rfl rfl ?_;intro args os C rs os' hc hC;unfold F8 at hc;split at hc;case h_2=>cases hc
 rename_i p q;cases hc;refine v_h (Ba hB) fun X hP hT hr hG=> ?_;have hU:=qT.eq_1;unfold qT at hT;have hX:= @pC.eq_1;simp only[Tryz.f56,aC,al,ioB];refine s_g hG ?_;refine s_q hG ?_ ?_
 ·try simp only[ba]
  exact⟨by simp,hC⟩
 refine ay (q_e [] ?_);trivial
def qU(B:aj):Tab:={types:= [(79,tyP),(84,.func)],elems:= [],cons:= [(57,pC)],hint:= [],N:=8,base:=B}
theorem Bb{B:aj}(hB:aB B):aG Tryz.prog (qU B):=⟨⟨tc fG (tc PP (ae)),af,by simp only[qU,ioB];omega⟩,aE (cc Tryz.func57 (mC hB) (aA)),by kernel_rfl⟩
def F9:Con:=fun l os=>match l,os with
 | [.z (.slice (.st (.pair (.st (.pair .bool (.slice (.int .u32)))) (.st (.pair .bool (.slice (.int .u32))))))) p,.z (.slice (.st (.pair (.st (.pair .bool (.slice (.int .u32)))) (.st (.pair .bool (.slice (.int .u32))))))) q],[]=>some (Sz QH p/\Sz QH q/\p.length<=1000/\q.length<=1000,[.z tyP (aH (bz (· - ·) (au p) (au q)))],[])
 |_,_=>none
theorem Iw{B:aj}(hB:aB B):Valid B Tryz.prog 59 F9:=by
 refine ab (Bb hB).tab Tryz.func59 rfl rfl rfl ?_;intro args os C rs os' hc hC;unfold F9 at hc;split at hc;case h_2=>cases hc
 rename_i p q;cases hc;refine v_h (Bb hB) fun X hP hT hr hG=> ?_;have hU:=qU.eq_1;unfold qU at hT;have hX:= @pC.eq_1;simp only[Tryz.f59,aC,al,ioB];refine s_g hG ?_;refine s_q hG ?_ ?_
 ·try simp only[ba]
  exact⟨by simp,hC⟩
 refine ay (q_e [] ?_);trivial
def qV(B:aj):Tab:={types:= [(79,tyP)],elems:= [],cons:= [(77,jF)],hint:= [],N:=7,base:=B}
theorem Bc{B:aj}(hB:aB B):aG Tryz.prog (qV B):=⟨⟨tc fG (ae),af,by simp only[qV,ioB];omega⟩,aE (cc Tryz.func77 (wv hB) (aA)),by kernel_rfl⟩
def Ga:Con:=fun l os=>match l,os with
 | [.z (.slice (.st (.pair (.st (.pair .bool (.slice (.int .u32)))) (.st (.pair .bool (.slice (.int .u32))))))) p,.z (.slice (.st (.pair (.st (.pair .bool (.slice (.int .u32)))) (.st (.pair .bool (.slice (.int .u32))))))) q],[]=>some (Sz QH p/\p.length<=1000,[.z tyP (aH (cx (au p)))],[])
 |_,_=>none
theorem Ix{B:aj}(hB:aB B):Valid B Tryz.prog 76 Ga:=by
 refine ab (Bc hB).tab Tryz.func76 rfl rfl rfl ?_;intro args os C rs os' hc hC;unfold Ga at hc;split at hc;case h_2=>cases hc
 rename_i p q;cases hc;refine v_h (Bc hB) fun X hP hT hr hG=> ?_;have hU:=qV.eq_1;unfold qV at hT;have hX:= @jF.eq_1;simp only[Tryz.f76,aC,al,ioB];refine s_g hG ?_;refine s_q hG ?_ ?_
 ·try simp only[ba]
  exact hC
 refine ay (q_e [] ?_);trivial
def qW(B:aj):Tab:={types:= [(79,tyP)],elems:= [],cons:= [(79,qL)],hint:= [],N:=7,base:=B}
theorem Bd{B:aj}(hB:aB B):aG Tryz.prog (qW B):=⟨⟨tc fG (ae),af,by simp only[qW,ioB];omega⟩,aE (cc Tryz.func79 (Io hB) (aA)),by kernel_rfl⟩
def Gb:Con:=fun l os=>match l,os with
 | [.z (.slice (.st (.pair (.st (.pair .bool (.slice (.int .u32)))) (.st (.pair .bool (.slice (.int .u32))))))) p,.z (.slice (.st (.pair (.st (.pair .bool (.slice (.int .u32)))) (.st (.pair .bool (.slice (.int .u32))))))) q],[]=>some (lY p,[.z tyP (aH (cu (au p)))],[])
 |_,_=>none
theorem Iy{B:aj}(hB:aB B):Valid B Tryz.prog 78 Gb:=by
 refine ab (Bd hB).tab Tryz.func78 rfl rfl rfl ?_;intro args os C rs os' hc hC;unfold Gb at hc;split at hc;case h_2=>cases hc
 rename_i p q;cases hc;refine v_h (Bd hB) fun X hP hT hr hG=> ?_;have hU:=qW.eq_1;unfold qW at hT;have hX:= @qL.eq_1;simp only[Tryz.f78,aC,al,ioB];refine s_g hG ?_;refine s_q hG ?_ ?_
 ·try simp only[ba]
  exact hC
 refine ay (q_e [] ?_);trivial
def qX(B:aj):Tab:={types:= [(31,(.int .i64)),(44,(.slice (.slice .str))),(79,tyP),(98,(.slice tyP))],elems:= [(44,22)],cons:= [(56,F8),(67,fk),(69,dY)],hint:= [],N:=31,base:=B}
theorem Be{B:aj}(hB:aB B):aG Tryz.prog (qX B):=⟨⟨tc ju (tc pE (tc fG (tc uC (ae)))),aQ (by kernel_rfl) (af),by simp only[qX,ioB];omega⟩,aE (cc Tryz.func56 (Iv hB) (cc Tryz.func67 (eI hB) (cc Tryz.func69 (fl hB) (aA)))),by kernel_rfl⟩
def qY:Con:=fun l os=>match l,os with
 | [.z (.slice .str) p,.z (.slice .str) q,.val (.func (.func g) fs cs)],[]=>some ((g=56/\fs.size=0/\cs.size=0)/\bL (fun p q=>Sz QH p/\Sz QH q/\p.length<=1000/\q.length<=1000) (bz (· + ·)) p q,[.z (.slice .str) (cr (bz (· + ·)) p q),.z (.int .i64) (cC (bz (· + ·)) p q)],[])
 |_,_=>none
theorem Iz{B:aj}(hB:aB B):Valid B Tryz.prog 55 qY:=by
 refine ab (Be hB).tab Tryz.func55 rfl rfl rfl ?_;intro args os C rs os' hc hC;unfold qY at hc;split at hc;case h_2=>cases hc
 rename_i p q g fs cs;cases hc;refine v_h (Be hB) fun X hP hT hr hG=> ?_;have hU:=qX.eq_1;unfold qX at hT;have hX:=ai @F8.eq_1<|ai @fk.eq_1<| @dY.eq_1;simp only[Tryz.f55,aC,al,ioB];obtain⟨⟨rfl,e1,e2⟩,hp,hq,hD⟩:=hC;obtain rfl:=Array.eq_empty_of_size_eq_zero e1;obtain rfl:=Array.eq_empty_of_size_eq_zero e2;refine s_g hG ?_;refine s_q hG ?_ ?_
 ·try simp only[ba]
  exact(gx hp hq).2
 refine ak (s_g hG ?_);refine ao ?_ ?_
 ·intro hb0;try simp only[bt] at hb0
  refine s_g hG ?_;refine ay (aw ?_);refine q_e [] ?_;exact iq hb0
 ·intro hb0;try simp only[bf] at hb0
  have n0:=iS hb0;have n1:=iT hb0;have nl:=gw hb0;have hE:=hD hb0;refine aq (ah ?_);refine s_d hG ?_ ?_
  ·(try simp only[ba]);simp only[NT] at n0 n1;simp only[n0,n1,nl,aJ];exact⟨by decide,by decide,hE.1,hE.2.1,by rw[aF];exact hE.2.2⟩
  refine ay (q_e [] ?_);simp only[NT] at n0 n1;simp only[n0,n1,aJ];exact jZ (f:=(bz (· + ·))) hb0
def qZ(B:aj):Tab:={types:= [(31,(.int .i64)),(44,(.slice (.slice .str))),(79,tyP),(98,(.slice tyP))],elems:= [(44,22)],cons:= [(59,F9),(67,fk),(69,dY)],hint:= [],N:=31,base:=B}
theorem Bf{B:aj}(hB:aB B):aG Tryz.prog (qZ B):=⟨⟨tc ju (tc pE (tc fG (tc uC (ae)))),aQ (by kernel_rfl) (af),by simp only[qZ,ioB];omega⟩,aE (cc Tryz.func59 (Iw hB) (cc Tryz.func67 (eI hB) (cc Tryz.func69 (fl hB) (aA)))),by kernel_rfl⟩
def q8:Con:=fun l os=>match l,os with
 | [.z (.slice .str) p,.z (.slice .str) q,.val (.func (.func g) fs cs)],[]=>some ((g=59/\fs.size=0/\cs.size=0)/\bL (fun p q=>Sz QH p/\Sz QH q/\p.length<=1000/\q.length<=1000) (bz (· - ·)) p q,[.z (.slice .str) (cr (bz (· - ·)) p q),.z (.int .i64) (cC (bz (· - ·)) p q)],[])
 |_,_=>none
theorem IA{B:aj}(hB:aB B):Valid B Tryz.prog 55 q8:=by
 refine ab (Bf hB).tab Tryz.func55 rfl rfl rfl ?_;intro args os C rs os' hc hC;unfold q8 at hc;split at hc;case h_2=>cases hc
 rename_i p q g fs cs;cases hc;refine v_h (Bf hB) fun X hP hT hr hG=> ?_;have hU:=qZ.eq_1;unfold qZ at hT;have hX:=ai @fk.eq_1<|ai @F9.eq_1<| @dY.eq_1;simp only[Tryz.f55,aC,al,ioB];obtain⟨⟨rfl,e1,e2⟩,hp,hq,hD⟩:=hC;obtain rfl:=Array.eq_empty_of_size_eq_zero e1;obtain rfl:=Array.eq_empty_of_size_eq_zero e2;refine s_g hG ?_;refine s_q hG ?_ ?_
 ·try simp only[ba]
  exact(gx hp hq).2
 refine ak (s_g hG ?_);refine ao ?_ ?_
 ·intro hb0;try simp only[bt] at hb0
  refine s_g hG ?_;refine ay (aw ?_);refine q_e [] ?_;exact iq hb0
 ·intro hb0;try simp only[bf] at hb0
  have n0:=iS hb0;have n1:=iT hb0;have nl:=gw hb0;have hE:=hD hb0;refine aq (ah ?_);refine s_d hG ?_ ?_
  ·(try simp only[ba]);simp only[NT] at n0 n1;simp only[n0,n1,nl,aJ];exact⟨by decide,by decide,hE.1,hE.2.1,by rw[aF];exact hE.2.2⟩
  refine ay (q_e [] ?_);simp only[NT] at n0 n1;simp only[n0,n1,aJ];exact jZ (f:=(bz (· - ·))) hb0
def q9(B:aj):Tab:={types:= [(31,(.int .i64)),(44,(.slice (.slice .str))),(79,tyP),(98,(.slice tyP))],elems:= [(44,22)],cons:= [(61,oF),(67,fk),(69,dY)],hint:= [],N:=31,base:=B}
theorem Bg{B:aj}(hB:aB B):aG Tryz.prog (q9 B):=⟨⟨tc ju (tc pE (tc fG (tc uC (ae)))),aQ (by kernel_rfl) (af),by simp only[q9,ioB];omega⟩,aE (cc Tryz.func61 (wt hB) (cc Tryz.func67 (eI hB) (cc Tryz.func69 (fl hB) (aA)))),by kernel_rfl⟩
def ra:Con:=fun l os=>match l,os with
 | [.z (.slice .str) p,.z (.slice .str) q,.val (.func (.func g) fs cs)],[]=>some ((g=61/\fs.size=0/\cs.size=0)/\bL (fun p q=>Sz QM p/\Sz QM q/\p.length<=100/\q.length<=100) cZ p q,[.z (.slice .str) (cr cZ p q),.z (.int .i64) (cC cZ p q)],[])
 |_,_=>none
theorem IB{B:aj}(hB:aB B):Valid B Tryz.prog 55 ra:=by
 refine ab (Bg hB).tab Tryz.func55 rfl rfl rfl ?_;intro args os C rs os' hc hC;unfold ra at hc;split at hc;case h_2=>cases hc
 rename_i p q g fs cs;cases hc;refine v_h (Bg hB) fun X hP hT hr hG=> ?_;have hU:=q9.eq_1;unfold q9 at hT;have hX:=ai @fk.eq_1<|ai @oF.eq_1<| @dY.eq_1;simp only[Tryz.f55,aC,al,ioB];obtain⟨⟨rfl,e1,e2⟩,hp,hq,hD⟩:=hC;obtain rfl:=Array.eq_empty_of_size_eq_zero e1;obtain rfl:=Array.eq_empty_of_size_eq_zero e2;refine s_g hG ?_;refine s_q hG ?_ ?_
 ·try simp only[ba]
  exact(gx hp hq).2
 refine ak (s_g hG ?_);refine ao ?_ ?_
 ·intro hb0;try simp only[bt] at hb0
  refine s_g hG ?_;refine ay (aw ?_);refine q_e [] ?_;exact iq hb0
 ·intro hb0;try simp only[bf] at hb0
  have n0:=iS hb0;have n1:=iT hb0;have nl:=gw hb0;have hE:=hD hb0;refine aq (ah ?_);refine s_d hG ?_ ?_
  ·(try simp only[ba]);simp only[NT] at n0 n1;simp only[n0,n1,nl,aJ];exact⟨by decide,by decide,hE.1,hE.2.1,by rw[aF];exact hE.2.2⟩
  refine ay (q_e [] ?_);simp only[NT] at n0 n1;simp only[n0,n1,aJ];exact jZ (f:=cZ) hb0
def rb(B:aj):Tab:={types:= [(31,(.int .i64)),(44,(.slice (.slice .str))),(79,tyP),(98,(.slice tyP))],elems:= [(44,22)],cons:= [(67,fk),(69,dY),(70,lM)],hint:= [],N:=31,base:=B}
theorem Bh{B:aj}(hB:aB B):aG Tryz.prog (rb B):=⟨⟨tc ju (tc pE (tc fG (tc uC (ae)))),aQ (by kernel_rfl) (af),by simp only[rb,ioB];omega⟩,aE (cc Tryz.func67 (eI hB) (cc Tryz.func69 (fl hB) (cc Tryz.func70 (wx hB) (aA)))),by kernel_rfl⟩
def re:Con:=fun l os=>match l,os with
 | [.z (.slice .str) p,.z (.slice .str) q,.val (.func (.func g) fs cs)],[]=>some ((g=70/\fs.size=0/\cs.size=0)/\bL (iR) cB p q,[.z (.slice .str) (cr cB p q),.z (.int .i64) (cC cB p q)],[])
 |_,_=>none
theorem IC{B:aj}(hB:aB B):Valid B Tryz.prog 55 re:=by
 refine ab (Bh hB).tab Tryz.func55 rfl rfl rfl ?_;intro args os C rs os' hc hC;unfold re at hc;split at hc;case h_2=>cases hc
 rename_i p q g fs cs;cases hc;refine v_h (Bh hB) fun X hP hT hr hG=> ?_;have hU:=rb.eq_1;unfold rb at hT;have hX:=ai @fk.eq_1<|ai @lM.eq_1<| @dY.eq_1;simp only[Tryz.f55,aC,al,ioB];obtain⟨⟨rfl,e1,e2⟩,hp,hq,hD⟩:=hC;obtain rfl:=Array.eq_empty_of_size_eq_zero e1;obtain rfl:=Array.eq_empty_of_size_eq_zero e2;refine s_g hG ?_;refine s_q hG ?_ ?_
 ·try simp only[ba]
  exact(gx hp hq).2
 refine ak (s_g hG ?_);refine ao ?_ ?_
 ·intro hb0;try simp only[bt] at hb0
  refine s_g hG ?_;refine ay (aw ?_);refine q_e [] ?_;exact iq hb0
 ·intro hb0;try simp only[bf] at hb0
  have n0:=iS hb0;have n1:=iT hb0;have nl:=gw hb0;have hE:=hD hb0;refine aq (ah ?_);refine s_d hG ?_ ?_
  ·(try simp only[ba]);simp only[NT] at n0 n1;simp only[n0,n1,nl,aJ];exact⟨by decide,by decide,hE.1,hE.2.1,by rw[aF];exact hE.2.2⟩
  refine ay (q_e [] ?_);simp only[NT] at n0 n1;simp only[n0,n1,aJ];exact jZ (f:=cB) hb0
def rf(B:aj):Tab:={types:= [(31,(.int .i64)),(44,(.slice (.slice .str))),(79,tyP),(98,(.slice tyP))],elems:= [(44,22)],cons:= [(67,fk),(69,dY),(76,Ga)],hint:= [],N:=31,base:=B}
theorem Bi{B:aj}(hB:aB B):aG Tryz.prog (rf B):=⟨⟨tc ju (tc pE (tc fG (tc uC (ae)))),aQ (by kernel_rfl) (af),by simp only[rf,ioB];omega⟩,aE (cc Tryz.func67 (eI hB) (cc Tryz.func69 (fl hB) (cc Tryz.func76 (Ix hB) (aA)))),by kernel_rfl⟩
def rh:Con:=fun l os=>match l,os with
 | [.z (.slice .str) p,.z (.slice .str) q,.val (.func (.func g) fs cs)],[]=>some ((g=76/\fs.size=0/\cs.size=0)/\bL (fun p _=>Sz QH p/\p.length<=1000) (fun a _=>cx a) p q,[.z (.slice .str) (cr (fun a _=>cx a) p q),.z (.int .i64) (cC (fun a _=>cx a) p q)],[])
 |_,_=>none
theorem ID{B:aj}(hB:aB B):Valid B Tryz.prog 55 rh:=by
 refine ab (Bi hB).tab Tryz.func55 rfl rfl rfl ?_;intro args os C rs os' hc hC;unfold rh at hc;split at hc;case h_2=>cases hc
 rename_i p q g fs cs;cases hc;refine v_h (Bi hB) fun X hP hT hr hG=> ?_;have hU:=rf.eq_1;unfold rf at hT;have hX:=ai @fk.eq_1<|ai @Ga.eq_1<| @dY.eq_1;simp only[Tryz.f55,aC,al,ioB];obtain⟨⟨rfl,e1,e2⟩,hp,hq,hD⟩:=hC;obtain rfl:=Array.eq_empty_of_size_eq_zero e1;obtain rfl:=Array.eq_empty_of_size_eq_zero e2;refine s_g hG ?_;refine s_q hG ?_ ?_
 ·try simp only[ba]
  exact(gx hp hq).2
 refine ak (s_g hG ?_);refine ao ?_ ?_
 ·intro hb0;try simp only[bt] at hb0
  refine s_g hG ?_;refine ay (aw ?_);refine q_e [] ?_;exact iq hb0
 ·intro hb0;try simp only[bf] at hb0
  have n0:=iS hb0;have n1:=iT hb0;have nl:=gw hb0;have hE:=hD hb0;refine aq (ah ?_);refine s_d hG ?_ ?_
  ·(try simp only[ba]);simp only[NT] at n0 n1;simp only[n0,n1,nl,aJ];exact⟨by decide,by decide,hE.1,hE.2.1,by rw[aF];exact hE.2.2⟩
  refine ay (q_e [] ?_);simp only[NT] at n0 n1;simp only[n0,n1,aJ];exact jZ (f:=(fun a _=>cx a)) hb0
def um:Con:=i7 [none,some (.slice .str),none] rh
theorem Dx{B:aj}(hB:aB B):Valid B Tryz.prog 55 um:=fe _ (ID hB)
def ri(B:aj):Tab:={types:= [(31,(.int .i64)),(44,(.slice (.slice .str))),(79,tyP),(98,(.slice tyP))],elems:= [(44,22)],cons:= [(67,fk),(69,dY),(78,Gb)],hint:= [],N:=31,base:=B}
theorem Bj{B:aj}(hB:aB B):aG Tryz.prog (ri B):=⟨⟨tc ju (tc pE (tc fG (tc uC (ae)))),aQ (by kernel_rfl) (af),by simp only[ri,ioB];omega⟩,aE (cc Tryz.func67 (eI hB) (cc Tryz.func69 (fl hB) (cc Tryz.func78 (Iy hB) (aA)))),by kernel_rfl⟩
def rj:Con:=fun l os=>match l,os with
 | [.z (.slice .str) p,.z (.slice .str) q,.val (.func (.func g) fs cs)],[]=>some ((g=78/\fs.size=0/\cs.size=0)/\bL (fun p _=>lY p) (fun a _=>cu a) p q,[.z (.slice .str) (cr (fun a _=>cu a) p q),.z (.int .i64) (cC (fun a _=>cu a) p q)],[])
 |_,_=>none
theorem IE{B:aj}(hB:aB B):Valid B Tryz.prog 55 rj:=by
 refine ab (Bj hB).tab Tryz.func55 rfl rfl rfl ?_;intro args os C rs os' hc hC;unfold rj at hc;split at hc;case h_2=>cases hc
 rename_i p q g fs cs;cases hc;refine v_h (Bj hB) fun X hP hT hr hG=> ?_;have hU:=ri.eq_1;unfold ri at hT;have hX:=ai @fk.eq_1<|ai @Gb.eq_1<| @dY.eq_1;simp only[Tryz.f55,aC,al,ioB];obtain⟨⟨rfl,e1,e2⟩,hp,hq,hD⟩:=hC;obtain rfl:=Array.eq_empty_of_size_eq_zero e1;obtain rfl:=Array.eq_empty_of_size_eq_zero e2;refine s_g hG ?_;refine s_q hG ?_ ?_
 ·try simp only[ba]
  exact(gx hp hq).2
 refine ak (s_g hG ?_);refine ao ?_ ?_
 ·intro hb0;try simp only[bt] at hb0
  refine s_g hG ?_;refine ay (aw ?_);refine q_e [] ?_;exact iq hb0
 ·intro hb0;try simp only[bf] at hb0
  have n0:=iS hb0;have n1:=iT hb0;have nl:=gw hb0;have hE:=hD hb0;refine aq (ah ?_);refine s_d hG ?_ ?_
  ·(try simp only[ba]);simp only[NT] at n0 n1;simp only[n0,n1,nl,aJ];exact⟨by decide,by decide,hE.1,hE.2.1,by rw[aF];exact hE.2.2⟩
  refine ay (q_e [] ?_);simp only[NT] at n0 n1;simp only[n0,n1,aJ];exact jZ (f:=(fun a _=>cu a)) hb0
def uo:Con:=i7 [none,some (.slice .str),none] rj
theorem Dy{B:aj}(hB:aB B):Valid B Tryz.prog 55 uo:=fe _ (IE hB)
def rk(B:aj):Tab:={types:= [(31,(.int .i64)),(44,(.slice (.slice .str))),(79,tyP),(98,(.slice tyP))],elems:= [(44,22)],cons:= [(67,fk),(69,dY),(80,ns)],hint:= [],N:=31,base:=B}
theorem Bk{B:aj}(hB:aB B):aG Tryz.prog (rk B):=⟨⟨tc ju (tc pE (tc fG (tc uC (ae)))),aQ (by kernel_rfl) (af),by simp only[rk,ioB];omega⟩,aE (cc Tryz.func67 (eI hB) (cc Tryz.func69 (fl hB) (cc Tryz.func80 (Iu hB) (aA)))),by kernel_rfl⟩
def rl:Con:=fun l os=>match l,os with
 | [.z (.slice .str) p,.z (.slice .str) q,.val (.func (.func g) fs cs)],[]=>some ((g=80/\fs.size=0/\cs.size=0)/\bL (xl) kh p q,[.z (.slice .str) (cr kh p q),.z (.int .i64) (cC kh p q)],[])
 |_,_=>none
theorem IF{B:aj}(hB:aB B):Valid B Tryz.prog 55 rl:=by
 refine ab (Bk hB).tab Tryz.func55 rfl rfl rfl ?_;intro args os C rs os' hc hC;unfold rl at hc;split at hc;case h_2=>cases hc
 rename_i p q g fs cs;cases hc;refine v_h (Bk hB) fun X hP hT hr hG=> ?_;have hU:=rk.eq_1;unfold rk at hT;have hX:=ai @fk.eq_1<|ai @ns.eq_1<| @dY.eq_1;simp only[Tryz.f55,aC,al,ioB];obtain⟨⟨rfl,e1,e2⟩,hp,hq,hD⟩:=hC;obtain rfl:=Array.eq_empty_of_size_eq_zero e1;obtain rfl:=Array.eq_empty_of_size_eq_zero e2;refine s_g hG ?_;refine s_q hG ?_ ?_
 ·try simp only[ba]
  exact(gx hp hq).2
 refine ak (s_g hG ?_);refine ao ?_ ?_
 ·intro hb0;try simp only[bt] at hb0
  refine s_g hG ?_;refine ay (aw ?_);refine q_e [] ?_;exact iq hb0
 ·intro hb0;try simp only[bf] at hb0
  have n0:=iS hb0;have n1:=iT hb0;have nl:=gw hb0;have hE:=hD hb0;refine aq (ah ?_);refine s_d hG ?_ ?_
  ·(try simp only[ba]);simp only[NT] at n0 n1;simp only[n0,n1,nl,aJ];exact⟨by decide,by decide,hE.1,hE.2.1,by rw[aF];exact hE.2.2⟩
  refine ay (q_e [] ?_);simp only[NT] at n0 n1;simp only[n0,n1,aJ];exact jZ (f:=kh) hb0
def rm(B:aj):Tab:={types:= [(22,(.slice .str))],elems:= [],cons:= [(54,oJ)],hint:= [],N:=11,base:=B}
theorem Bl{B:aj}(hB:aB B):aG Tryz.prog (rm B):=⟨⟨tc eK (ae),af,by simp only[rm,ioB];omega⟩,aE (cc Tryz.func54 (wB hB) (aA)),by kernel_rfl⟩
def iW:Con:=fun l os=>match l,os with
 | [.z (.slice .str) p],[]=>some (cT p,[.z (.int .i64) (bK p)],[])
 |_,_=>none
theorem oK{B:aj}(hB:aB B):Valid B Tryz.prog 14 iW:=by
 refine ab (Bl hB).tab Tryz.func14 rfl rfl rfl ?_;intro args os C rs os' hc hC;unfold iW at hc;split at hc;case h_2=>cases hc
 rename_i p;cases hc;refine v_h (Bl hB) fun X hP hT hr hG=> ?_;have hU:=rm.eq_1;unfold rm at hT;have hX:= @oJ.eq_1;simp only[Tryz.f14,aC,al,ioB];refine s_g hG ?_;refine s_q hG ?_ ?_
 ·try simp only[ba]
  exact hC
 refine s_g hG ?_;refine ay (q_e [] ?_);trivial
def rn(B:aj):Tab:={types:= [(22,(.slice .str))],elems:= [],cons:= [(55,qY)],hint:= [],N:=11,base:=B}
theorem Bm{B:aj}(hB:aB B):aG Tryz.prog (rn B):=⟨⟨tc eK (ae),af,by simp only[rn,ioB];omega⟩,aE (cc Tryz.func55 (Iz hB) (aA)),by kernel_rfl⟩
def wC:Con:=fun l os=>match l,os with
 | [.z (.slice .str) p,.z (.slice .str) q],[]=>some (bL (fun p q=>Sz QH p/\Sz QH q/\p.length<=1000/\q.length<=1000) (bz (· + ·)) p q,[.z (.slice .str) (cr (bz (· + ·)) p q),.z (.int .i64) (cC (bz (· + ·)) p q)],[])
 |_,_=>none
theorem wD{B:aj}(hB:aB B):Valid B Tryz.prog 15 wC:=by
 refine ab (Bm hB).tab Tryz.func15 rfl rfl rfl ?_;intro args os C rs os' hc hC;unfold wC at hc;split at hc;case h_2=>cases hc
 rename_i p q;cases hc;refine v_h (Bm hB) fun X hP hT hr hG=> ?_;have hU:=rn.eq_1;unfold rn at hT;have hX:= @qY.eq_1;simp only[Tryz.f15,aC,al,ioB];refine s_g hG ?_;refine s_q hG ?_ ?_
 ·try simp only[ba]
  exact hC
 refine ay (q_e [] ?_);trivial
def rp(B:aj):Tab:={types:= [(22,(.slice .str))],elems:= [],cons:= [(55,q8)],hint:= [],N:=11,base:=B}
theorem Bn{B:aj}(hB:aB B):aG Tryz.prog (rp B):=⟨⟨tc eK (ae),af,by simp only[rp,ioB];omega⟩,aE (cc Tryz.func55 (IA hB) (aA)),by kernel_rfl⟩
def wE:Con:=fun l os=>match l,os with
 | [.z (.slice .str) p,.z (.slice .str) q],[]=>some (bL (fun p q=>Sz QH p/\Sz QH q/\p.length<=1000/\q.length<=1000) (bz (· - ·)) p q,[.z (.slice .str) (cr (bz (· - ·)) p q),.z (.int .i64) (cC (bz (· - ·)) p q)],[])
 |_,_=>none
theorem wF{B:aj}(hB:aB B):Valid B Tryz.prog 16 wE:=by
 refine ab (Bn hB).tab Tryz.func16 rfl rfl rfl ?_;intro args os C rs os' hc hC;unfold wE at hc;split at hc;case h_2=>cases hc
 rename_i p q;cases hc;refine v_h (Bn hB) fun X hP hT hr hG=> ?_;have hU:=rp.eq_1;unfold rp at hT;have hX:= @q8.eq_1;simp only[Tryz.f16,aC,al,ioB];refine s_g hG ?_;refine s_q hG ?_ ?_
 ·try simp only[ba]
  exact hC
 refine ay (q_e [] ?_);trivial
def rq(B:aj):Tab:={types:= [(22,(.slice .str))],elems:= [],cons:= [(55,ra)],hint:= [],N:=11,base:=B}
theorem Bo{B:aj}(hB:aB B):aG Tryz.prog (rq B):=⟨⟨tc eK (ae),af,by simp only[rq,ioB];omega⟩,aE (cc Tryz.func55 (IB hB) (aA)),by kernel_rfl⟩
def wG:Con:=fun l os=>match l,os with
 | [.z (.slice .str) p,.z (.slice .str) q],[]=>some (bL (fun p q=>Sz QM p/\Sz QM q/\p.length<=100/\q.length<=100) cZ p q,[.z (.slice .str) (cr cZ p q),.z (.int .i64) (cC cZ p q)],[])
 |_,_=>none
theorem wH{B:aj}(hB:aB B):Valid B Tryz.prog 17 wG:=by
 refine ab (Bo hB).tab Tryz.func17 rfl rfl rfl ?_;intro args os C rs os' hc hC;unfold wG at hc;split at hc;case h_2=>cases hc
 rename_i p q;cases hc;refine v_h (Bo hB) fun X hP hT hr hG=> ?_;have hU:=rq.eq_1;unfold rq at hT;have hX:= @ra.eq_1;simp only[Tryz.f17,aC,al,ioB];refine s_g hG ?_;refine s_q hG ?_ ?_
 ·try simp only[ba]
  exact hC
 refine ay (q_e [] ?_);trivial
def rr(B:aj):Tab:={types:= [(22,(.slice .str))],elems:= [],cons:= [(55,re)],hint:= [],N:=11,base:=B}
theorem Bp{B:aj}(hB:aB B):aG Tryz.prog (rr B):=⟨⟨tc eK (ae),af,by simp only[rr,ioB];omega⟩,aE (cc Tryz.func55 (IC hB) (aA)),by kernel_rfl⟩
def Gc:Con:=fun l os=>match l,os with
 | [.z (.slice .str) p,.z (.slice .str) q],[]=>some (bL (iR) cB p q,[.z (.slice .str) (cr cB p q),.z (.int .i64) (cC cB p q)],[])
 |_,_=>none
theorem IG{B:aj}(hB:aB B):Valid B Tryz.prog 24 Gc:=by
 refine ab (Bp hB).tab Tryz.func24 rfl rfl rfl ?_;intro args os C rs os' hc hC;unfold Gc at hc;split at hc;case h_2=>cases hc
 rename_i p q;cases hc;refine v_h (Bp hB) fun X hP hT hr hG=> ?_;have hU:=rr.eq_1;unfold rr at hT;have hX:= @re.eq_1;simp only[Tryz.f24,aC,al,ioB];refine s_g hG ?_;refine s_q hG ?_ ?_
 ·try simp only[ba]
  exact hC
 refine ay (q_e [] ?_);trivial
def Dz:Con:=i7 [some (.slice .str),some (.slice .str)] Gc
theorem DA{B:aj}(hB:aB B):Valid B Tryz.prog 24 Dz:=fe _ (IG hB)
def ru(B:aj):Tab:={types:= [(22,(.slice .str))],elems:= [],cons:= [(55,um)],hint:= [],N:=8,base:=B}
theorem Bq{B:aj}(hB:aB B):aG Tryz.prog (ru B):=⟨⟨tc eK (ae),af,by simp only[ru,ioB];omega⟩,aE (cc Tryz.func55 (Dx hB) (aA)),by kernel_rfl⟩
def Gd:Con:=fun l os=>match l,os with
 | [.z (.slice .str) p],[]=>some (bL (fun p _=>Sz QH p/\p.length<=1000) (fun a _=>cx a) p [],[.z (.slice .str) (cr (fun a _=>cx a) p []),.z (.int .i64) (cC (fun a _=>cx a) p [])],[])
 |_,_=>none
theorem IH{B:aj}(hB:aB B):Valid B Tryz.prog 29 Gd:=by
 refine ab (Bq hB).tab Tryz.func29 rfl rfl rfl ?_;intro args os C rs os' hc hC;unfold Gd at hc;split at hc;case h_2=>cases hc
 rename_i p;cases hc;refine v_h (Bq hB) fun X hP hT hr hG=> ?_;have hU:=ru.eq_1;unfold ru at hT;have hX:=ai @rh.eq_1<| @um.eq_1;simp only[Tryz.f29,aC,al,ioB];refine s_g hG ?_;refine s_q hG ?_ ?_
 ·try simp only[ba]
  exact hC
 refine ay (q_e [] ?_);trivial
def ry(B:aj):Tab:={types:= [(22,(.slice .str))],elems:= [],cons:= [(55,uo)],hint:= [],N:=8,base:=B}
theorem Br{B:aj}(hB:aB B):aG Tryz.prog (ry B):=⟨⟨tc eK (ae),af,by simp only[ry,ioB];omega⟩,aE (cc Tryz.func55 (Dy hB) (aA)),by kernel_rfl⟩
def Ge:Con:=fun l os=>match l,os with
 | [.z (.slice .str) p],[]=>some (bL (fun p _=>lY p) (fun a _=>cu a) p [],[.z (.slice .str) (cr (fun a _=>cu a) p []),.z (.int .i64) (cC (fun a _=>cu a) p [])],[])
 |_,_=>none
theorem II{B:aj}(hB:aB B):Valid B Tryz.prog 30 Ge:=by
 refine ab (Br hB).tab Tryz.func30 rfl rfl rfl ?_;intro args os C rs os' hc hC;unfold Ge at hc;split at hc;case h_2=>cases hc
 rename_i p;cases hc;refine v_h (Br hB) fun X hP hT hr hG=> ?_;have hU:=ry.eq_1;unfold ry at hT;have hX:=ai @rj.eq_1<| @uo.eq_1;simp only[Tryz.f30,aC,al,ioB];refine s_g hG ?_;refine s_q hG ?_ ?_
 ·try simp only[ba]
  exact hC
 refine ay (q_e [] ?_);trivial
def rz(B:aj):Tab:={types:= [(3,(.int .i64)),(31,(.int .i64)),(44,(.slice (.slice .str))),(79,tyP),(98,(.slice tyP))],elems:= [(44,22)],cons:= [(67,fk),(68,pB),(69,dY)],hint:= [],N:=53,base:=B}
theorem Bt{B:aj}(hB:aB B):aG Tryz.prog (rz B):=⟨⟨tc ty3 (tc ju (tc pE (tc fG (tc uC (ae))))),aQ (by kernel_rfl) (af),by simp only[rz,ioB];omega⟩,aE (cc Tryz.func67 (eI hB) (cc Tryz.func68 (oH hB) (cc Tryz.func69 (fl hB) (aA)))),by kernel_rfl⟩
def x9:Con:=fun l os=>match l,os with
 | [.z (.slice .str) p,.z (.slice .str) q],[]=>some (K9 p q,[.z (.slice .str) (dvS p q),.z (.slice .str) (dvR p q),.z (.int .i64) (dvE p q)],[])
 |_,_=>none
theorem IJ{B:aj}(hB:aB B):Valid B Tryz.prog 23 x9:=by
 refine ab (Bt hB).tab Tryz.func23 rfl rfl rfl ?_;intro args os C rs os' hc hC;unfold x9 at hc;split at hc;case h_2=>cases hc
 rename_i p q;cases hc;refine v_h (Bt hB) fun X hP hT hr hG=> ?_;have hU:=rz.eq_1;unfold rz at hT;have hX:=ai @fk.eq_1<|ai @pB.eq_1<| @dY.eq_1;simp only[Tryz.f23,aC,al,ioB];refine s_g hG ?_;refine s_q hG ?_ ?_
 ·try simp only[ba]
  exact(gx hC.sp hC.sq).2
 refine ak (s_g hG ?_);refine ao ?_ ?_
 ·intro hb0;try simp only[bt] at hb0
  refine s_g hG ?_;refine ay (aw ?_);refine q_e [] ?_;exact La hb0
 ·intro hb0;try simp only[bf] at hb0
  have n0:=iS hb0;have n1:=iT hb0;have nl:=gw hb0;simp only[NT] at n0 n1;refine aq (ah ?_);refine ak (s_q hG ?_ ?_)
  ·(try simp only[ba]);rw[nl];decide
  refine ao ?_ ?_;·intro hb1;(try simp only[bt] at hb1);simp only[n1] at hb1;(have hq:(aH (bh q)).length=0:=by have h9:((aH (bh q)).length:Int)=0:=hb1;omega);refine s_g hG ?_;refine ay (aw ?_);refine q_e [] ?_;exact Lb hb0 hq
  ·intro hb1;(try simp only[bf] at hb1);simp only[n1] at hb1;(have hq: ¬ (aH (bh q)).length=0:=by intro h8;exact hb1 (by show ((aH (bh q)).length:Int)=0;omega));have hne:=NI hq;obtain⟨k1,k2,k3⟩:=hC.ok hb0 hne;refine aq (ah ?_);refine s_d hG ?_ ?_
   ·(try simp only[ba]);simp only[n0,n1,nl];exact⟨by decide,by decide,k1⟩
   refine s_q hG ?_ ?_
   ·(try simp only[ba]);simp only[n0,n1,aJ];exact k2
   refine ak (s_g hG ?_);refine ao ?_ ?_;·intro hb2;(try simp only[bt] at hb2);refine s_g hG ?_;refine ay (aw ?_);refine q_e [] ?_;simp only[n0,n1,aJ] at hb2 ⊢;exact NJ hb0 hne hb2
   ·intro hb2;(try simp only[bf] at hb2);refine aq (ah ?_);refine s_q hG ?_ ?_
    ·(try simp only[ba]);simp only[n0,n1,aJ];exact k3
    (refine ak (s_g hG ?_);refine ao ?_ ?_;·intro hb3;(try simp only[bt] at hb3);refine s_g hG ?_;refine ay (aw ?_);refine q_e [] ?_;simp only[n0,n1,aJ] at hb2 hb3 ⊢;exact NK hb0 hne hb2 hb3);·intro hb3;(try simp only[bf] at hb3);refine aq (ah ?_);refine s_g hG ?_;refine ay (q_e [] ?_);simp only[n0,n1,aJ] at hb2 hb3 ⊢;exact NL hb0 hne hb2 hb3
def ya:Con:=i7 [some (.slice .str),some (.slice .str)] x9
theorem DB{B:aj}(hB:aB B):Valid B Tryz.prog 23 ya:=fe _ (IJ hB)
def rA(B:aj):Tab:={types:= [(3,(.int .i64)),(22,(.slice .str)),(31,(.int .i64))],elems:= [],cons:= [(14,iW),(55,rl)],hint:= [],N:=39,base:=B}
theorem Bu{B:aj}(hB:aB B):aG Tryz.prog (rA B):=⟨⟨tc ty3 (tc eK (tc ju (ae))),af,by simp only[rA,ioB];omega⟩,aE (cc Tryz.func14 (oK hB) (cc Tryz.func55 (IF hB) (aA))),by kernel_rfl⟩
def yb:Con:=fun l os=>match l,os with
 | [.z (.slice .str) p,.z (.slice .str) q],[]=>some (xq p q,[.z (.slice .str) (vI p q),.z (.int .i64) (vH p q)],[])
 |_,_=>none
theorem IK{B:aj}(hB:aB B):Valid B Tryz.prog 31 yb:=by
 refine ab (Bu hB).tab Tryz.func31 rfl rfl rfl ?_;intro args os C rs os' hc hC;unfold yb at hc;split at hc;case h_2=>cases hc
 rename_i p q;cases hc;refine v_h (Bu hB) fun X hP hT hr hG=> ?_;have hU:=rA.eq_1;unfold rA at hT;have hX:=ai @rl.eq_1<| @iW.eq_1;simp only[Tryz.f31,aC,al,ioB];refine s_g hG ?_;refine ak (s_q hG ?_ ?_)
 ·try simp only[ba]
  exact⟨hC.sp,fun h=>⟨h,hC.sq⟩,id,id,id,id,id,id,id,id,id⟩
 refine ao ?_ ?_;·intro hb0;have hL:=of_decide_eq_true (Ld hb0);refine s_g hG ?_;refine ay (aw ?_);refine q_e [] ?_;exact Py hL
 ·intro hb0;have hL:=of_decide_eq_false (Ld hb0);refine aq (ah ?_);refine s_q hG ?_ ?_
  ·(try simp only[ba]);exact hC.ok hL
  refine ay (q_e [] ?_);exact Pz hL
def yc:Con:=i7 [some (.slice .str),some (.slice .str)] yb
theorem DC{B:aj}(hB:aB B):Valid B Tryz.prog 31 yc:=fe _ (IK hB)
def rB(B:aj):Tab:={types:= [(22,(.slice .str)),(31,(.int .i64)),(44,(.slice (.slice .str))),(46,.str),(78,tyP),(79,tyP),(91,tyN),(98,(.slice tyP))],elems:= [(44,22),(78,91)],cons:= [(67,fk),(87,lL),(88,oE),(89,F6),(90,pA)],hint:= [],N:=41,base:=B}
theorem Bv{B:aj}(hB:aB B):aG Tryz.prog (rB B):=⟨⟨tc eK (tc ju (tc pE (tc jc (tc Nf (tc fG (tc ty91 (tc uC (ae)))))))),aQ (by kernel_rfl) (aQ (by kernel_rfl) (af)),by simp only[rB,ioB];omega⟩,aE (cc Tryz.func67 (eI hB) (cc Tryz.func87 (wj hB) (cc Tryz.func88 (wk hB) (cc Tryz.func89 (Iq hB) (cc Tryz.func90 (oD hB) (aA)))))),by kernel_rfl⟩
def yd:Con:=fun l os=>match l,os with
 | [.z (.slice .str) p,.z .str x],[]=>some (Le p x,[.z .str (evS p x),.z (.int .i64) (evE p x)],[])
 |_,_=>none
theorem IL{B:aj}(hB:aB B):Valid B Tryz.prog 36 yd:=by
 refine ab (Bv hB).tab Tryz.func36 rfl rfl rfl ?_;intro args os C rs os' hc hC;unfold yd at hc;split at hc;case h_2=>cases hc
 rename_i p x;cases hc;refine v_h (Bv hB) fun X hP hT hr hG=> ?_;have hU:=rB.eq_1;unfold rB at hT;have hX:=ai @fk.eq_1<|ai @lL.eq_1<|ai @F6.eq_1<|ai @pA.eq_1<| @oE.eq_1;simp only[Tryz.f36,aC,al,ioB];refine s_g hG ?_;refine s_q hG ?_ ?_
 ·try simp only[ba]
  exact(Lg hC).2
 refine ak (s_g hG ?_);refine ao ?_ ?_
 ·intro hb0;try simp only[bt] at hb0
  refine s_g hG ?_;refine ay (aw ?_);refine q_e [] ?_;exact PB hb0
 ·intro hb0;try simp only[bf] at hb0
  have n0:=Qa hb0;have nl:=PA hb0;simp only[NT] at n0;refine aq (ah ?_);refine ak (s_q hG ?_ ?_)
  ·(try simp only[ba]);exact hC.sx
  refine s_g hG ?_;refine ao ?_ ?_;·intro hb1;(try simp only[bt] at hb1);refine s_g hG ?_;refine ay (aw ?_);refine q_e [] ?_;exact NM hb0 hb1
  ·intro hb1;(try simp only[bf] at hb1);(have h9:cb x=0:=by simpa using hb1);obtain⟨k1,k2,k3,k4⟩:=hC.ok hb0 h9;obtain⟨c1,c2⟩:=nZ h9 hC.sx;refine aq (ah ?_);refine s_d hG ?_ ?_
   ·(try simp only[ba]);simp only[n0,nl,c2,aJ,aN];exact Lh c1 k1 k2 k3 k4
   refine ak (s_g hG ?_);refine ao ?_ ?_;·intro hb2;(try simp only[bt] at hb2);refine s_g hG ?_;refine ay (aw ?_);refine q_e [] ?_;simp only[n0,c2,aJ,aN,zQ] at hb2;exact PC hb0 h9 (by simpa using hb2)
   ·intro hb2;(try simp only[bf] at hb2);refine aq (ah ?_);refine s_q hG ?_ ?_
    ·(try simp only[ba]);simp only[n0,c2,aJ,aN] at hb2 ⊢;exact Hw (by simpa using hb2) _
    refine ay (q_e [] ?_);simp only[n0,c2,aJ,aN,zQ] at hb2 ⊢;exact NO hb0 h9 (by simpa using hb2)
def ye:Con:=i7 [some (.slice .str),none] yd
theorem DD{B:aj}(hB:aB B):Valid B Tryz.prog 36 ye:=fe _ (IL hB)
def rC(B:aj):Tab:={types:= [],elems:= [],cons:= [],hint:= [],N:=4,base:=B}
theorem Bw{B:aj}(hB:aB B):aG Tryz.prog (rC B):=⟨⟨ae,af,by simp only[rC,ioB];omega⟩,bG rfl,by kernel_rfl⟩
def OO:Con:=fun l os=>match l,os with
 | [.z (.slice .str) p],[]=>some (True,[.z (.slice .str) p],[])
 |_,_=>none
theorem IM{B:aj}(hB:aB B):Valid B Tryz.prog 45 OO:=by
 refine ab (Bw hB).tab Tryz.func45 rfl rfl rfl ?_;intro args os C rs os' hc hC;unfold OO at hc;split at hc;case h_2=>cases hc
 rename_i p;cases hc;refine v_h (Bw hB) fun X hP hT hr hG=> ?_;have hU:=rC.eq_1;unfold rC at hT;have hX:=Bool.not_true;simp only[Tryz.f45,aC,al,ioB];refine s_g hG ?_;refine s_g hG ?_;refine ay (q_e [] ?_);trivial
def rD(B:aj):Tab:={types:= [(22,(.slice .str)),(31,(.int .i64))],elems:= [],cons:= [(28,kT)],hint:= [],N:=13,base:=B}
theorem Bx{B:aj}(hB:aB B):aG Tryz.prog (rD B):=⟨⟨tc eK (tc ju (ae)),af,by simp only[rD,ioB];omega⟩,aE (cc Tryz.func28 (oy hB) (aA)),by kernel_rfl⟩
def OP:Con:=fun l os=>match l,os with
 | [.z (.slice .str) p,.z (.int .i64) e,.z (.ptr (.slice .str)) q],[]=>some (p.length<=QL/\q.length<=QL,[.z .bool (decide (e=0/\p=q))],[])
 |_,_=>none
theorem IP{B:aj}(hB:aB B):Valid B Tryz.prog 94 OP:=by
 refine ab (Bx hB).tab Tryz.func94 rfl rfl rfl ?_;intro args os C rs os' hc hC;unfold OP at hc;split at hc;case h_2=>cases hc
 rename_i p e q;cases hc;refine v_h (Bx hB) fun X hP hT hr hG=> ?_;have hU:=rD.eq_1;unfold rD at hT;have hX:= @kT.eq_1;simp only[Tryz.f94,aC,al,ioB];refine s_g hG ?_;refine s_q hG ?_ ?_
 ·try simp only[ba]
  exact⟨fun h=>⟨h,hC⟩,id⟩
 refine ay (q_e [] ?_);exact LK _ _ _
def rE(B:aj):Tab:={types:= [(22,(.slice .str))],elems:= [],cons:= [],hint:= [],N:=4,base:=B}
theorem Bz{B:aj}(hB:aB B):aG Tryz.prog (rE B):=⟨⟨tc eK (ae),af,by simp only[rE,ioB];omega⟩,bG rfl,by kernel_rfl⟩
def OQ:Con:=fun l os=>match l,os with
 | [.z (.slice .str) p],[]=>some (True,[.fn 94 [.z (.ptr (.slice .str)) p]],[])
 |_,_=>none
theorem IQ{B:aj}(hB:aB B):Valid B Tryz.prog 41 OQ:=by
 refine ab (Bz hB).tab Tryz.func41 rfl rfl rfl ?_;intro args os C rs os' hc hC;unfold OQ at hc;split at hc;case h_2=>cases hc
 rename_i p;cases hc;refine v_h (Bz hB) fun X hP hT hr hG=> ?_;have hU:=rE.eq_1;unfold rE at hT;have hX:=Bool.not_true;simp only[Tryz.f41,aC,al,ioB];refine s_g hG ?_;refine s_g hG ?_;refine ay (q_e [] ?_);rfl
def MF:Con:=i7 [some (.slice .str)] OQ
theorem DE{B:aj}(hB:aB B):Valid B Tryz.prog 41 MF:=fe _ (IQ hB)
def rF(B:aj):Tab:={types:= [(3,(.int .i64)),(22,(.slice .str)),(31,(.int .i64))],elems:= [],cons:= [],hint:= [],N:=15,base:=B}
theorem BA{B:aj}(hB:aB B):aG Tryz.prog (rF B):=⟨⟨tc ty3 (tc eK (tc ju (ae))),af,by simp only[rF,ioB];omega⟩,bG rfl,by kernel_rfl⟩
def yf:Con:=fun l os=>match l,os with
 | [.z (.slice .str) p,.z (.int .i64) e,.z (.int .i64) w],[]=>some (True,[.z .bool (decide (p= []/\e=w))],[])
 |_,_=>none
theorem IR{B:aj}(hB:aB B):Valid B Tryz.prog 18 yf:=by
 refine ab (BA hB).tab Tryz.func18 rfl rfl rfl ?_;intro args os C rs os' hc hC;unfold yf at hc;split at hc;case h_2=>cases hc
 rename_i p e w;cases hc;refine v_h (BA hB) fun X hP hT hr hG=> ?_;have hU:=rF.eq_1;unfold rF at hT;have hX:=Bool.not_true;simp only[Tryz.f18,aC,al,ioB];refine s_g hG ?_;refine s_q hG ?_ ?_
 ·try simp only[ba]
  exact id
 refine ay (q_e [] ?_);exact z8 _ _ _
def rG(B:aj):Tab:={types:= [(3,(.int .i64)),(22,(.slice .str)),(46,.str)],elems:= [],cons:= [],hint:= [],N:=13,base:=B}
theorem BB{B:aj}(hB:aB B):aG Tryz.prog (rG B):=⟨⟨tc ty3 (tc eK (tc jc (ae))),af,by simp only[rG,ioB];omega⟩,bG rfl,by kernel_rfl⟩
def yg:Con:=fun l os=>match l,os with
 | [.z (.slice .str) p,.z (.int .i64) i],[]=>some (GL QK p/\0<=i,[.z .str (bk (cf (nl p) i.toNat))],[])
 |_,_=>none
theorem IU{B:aj}(hB:aB B):Valid B Tryz.prog 63 yg:=by
 refine ab (BB hB).tab Tryz.func63 rfl rfl rfl ?_;intro args os C rs os' hc hC;unfold yg at hc;split at hc;case h_2=>cases hc
 rename_i p i;cases hc;refine v_h (BB hB) fun X hP hT hr hG=> ?_;have hU:=rG.eq_1;unfold rG at hT;have hX:=Bool.not_true;simp only[Tryz.f63,aC,al,ioB];obtain⟨hp,hi⟩:=hC;obtain⟨n,rfl⟩:=Int.eq_ofNat_of_zero_le hi;rw[Int.toNat_natCast];refine s_g hG ?_;refine ak (s_g hG ?_);refine ao ?_ ?_
 ·intro hb0;try simp only[bt] at hb0
  refine s_q hG ?_ ?_
  ·(try simp only[ba]);exact⟨by omega,hb0⟩
  refine ay (aw ?_);refine q_e [] ?_;exact ng hp (by omega)
 ·intro hb0;try simp only[bf] at hb0
  refine aq (ah ?_);refine s_g hG ?_;refine ay (q_e [] ?_);exact Lz (by omega)
def rH(B:aj):Tab:={types:= [(3,(.int .i64)),(22,(.slice .str)),(46,.str)],elems:= [],cons:= [],hint:= [],N:=21,base:=B}
theorem BC{B:aj}(hB:aB B):aG Tryz.prog (rH B):=⟨⟨tc ty3 (tc eK (tc jc (ae))),af,by simp only[rH,ioB];omega⟩,bG rfl,by kernel_rfl⟩
def jh:Con:=fun l os=>match l,os with
 | [.z (.slice .str) p],[]=>some (GL QK p/\p.length<=1000000000,[.z (.slice .str) (txP (aR (nl p)))],[])
 |_,_=>none
theorem j9{B:aj}(hB:aB B):Valid B Tryz.prog 64 jh:=by
 refine ab (BC hB).tab Tryz.func64 rfl rfl rfl ?_;intro args os C rs os' hc hC;unfold jh at hc;split at hc;case h_2=>cases hc
 rename_i p;cases hc;refine v_h (BC hB) fun X hP hT hr hG=> ?_;have hU:=rH.eq_1;unfold rH at hT;have hX:=Bool.not_true;simp only[Tryz.f64,aC,al,ioB];obtain⟨l0,rfl,hl0⟩:=hC.1.ex;have hn:=hC.2;rw[b4] at hn;rw[jA];refine s_g hG ?_;refine ak (av ?_);refine bj (fun(z:List Rat)=>(⟨[(0,.l (.z (.slice .str) (txP z))),(2,.l (.val (.slice none 0 0)))],[]⟩:aa)) (fun z=>z.length<=l0.length/\(∀ x∈z,lq x<=QK)/\aR z=aR l0) (fun z=>z.length) l0 ?_ ?_ ?_;·simp only[ml0,ml1,Nat.reduceLT,Nat.reduceEqDiff,Nat.reduceAdd,Nat.reduceMul,Nat.reduceSub,Nat.reduceLeDiff,Nat.reduceBEq,Nat.reduceBNe,reduceIte,reduceDIte,reduceCtorEq]
 ·exact⟨Nat.le_refl _,hl0,rfl⟩
 ·rintro l ⟨g1,g2,g3⟩;try dsimp only at g1 g2 g3
  refine ak (s_q hG ?_ ?_)
  ·(try simp only[ba]);exact⟨id,id,fun h=>Di (l:=l) (by omega) h,id⟩
  refine ao ?_ ?_
  ·intro hb0;(try simp only[bt] at hb0);have ht:=N3 (l:=l) (by omega) hb0.1 hb0.2;obtain⟨n1,n2,n3,n4,n5⟩:=Dj (by omega) g1 g2 g3 ht;refine aq (ah ?_);refine av (ag hG ?_ ?_)
   ·(try simp only[ba]);rw[b4,b9 (by omega)];omega
   refine aI ?_;show ∃ z,_;refine q_l ?_;exact⟨l.dropLast,n1,n2,n3,n4,n5⟩
  ·intro hb0;(try simp only[bf] at hb0);have ht:=N4 (l:=l) (by omega) hb0;refine bd (aD ?_);refine az (ax ?_);refine ah (s_g hG ?_);refine ay (q_e [] ?_);rw[<- g3,ht]
def rI(B:aj):Tab:={types:= [(3,(.int .i64)),(22,(.slice .str)),(46,.str)],elems:= [(22,46)],cons:= [(62,FT),(63,yg),(64,jh)],hint:= [27],N:=31,base:=B}
theorem BD{B:aj}(hB:aB B):aG Tryz.prog (rI B):=⟨⟨tc ty3 (tc eK (tc jc (ae))),aQ (by kernel_rfl) (af),by simp only[rI,ioB];omega⟩,aE (cc Tryz.func62 (H7 hB) (cc Tryz.func63 (IU hB) (cc Tryz.func64 (j9 hB) (aA)))),by kernel_rfl⟩
def kV:Con:=fun l os=>match l,os with
 | [.z (.slice .str) p,.z (.slice .str) q],[]=>some (GL QK2 p/\GL QK2 q/\p.length<=1000000/\q.length<=1000000,[.z (.slice .str) (txP (bz (· + ·) (nl p) (nl q)))],[])
 |_,_=>none
theorem oL{B:aj}(hB:aB B):Valid B Tryz.prog 20 kV:=by
 refine ab (BD hB).tab Tryz.func20 rfl rfl rfl ?_;intro args os C rs os' hc hC;unfold kV at hc;split at hc;case h_2=>cases hc
 rename_i p q;cases hc;refine v_h (BD hB) fun X hP hT hr hG=> ?_;have hU:=rI.eq_1;unfold rI at hT;have hX:=ai @FT.eq_1<|ai @yg.eq_1<| @jh.eq_1;simp only[Tryz.f20,aC,al,ioB];obtain⟨hp,hq,hl1,hl2⟩:=hC;refine s_g hG ?_;refine s_g hG ?_;refine ak (s_g hG ?_);refine av (bj (fun(z:Nat)=>(⟨[(0,.l (.z (.slice .str) p)),(1,.l (.z (.slice .str) q)),(4,.l (.val (.slice none 0 0))),(5,.l (.ownS 28)),(6,.l (.z (.int .i64) (z:Int)))],[(28,.arr .str 46 (txP (bO (· + ·) (nl p) (nl q) z)))]⟩:aa)) (fun z=>z<=max p.length q.length) (fun z=>max p.length q.length-z) 0 ?_ ?_ ?_);·refine q_l ?_;exact⟨rfl,by unfold ioB;omega,rfl⟩
 ·omega
 ·rintro k g1;try dsimp only at g1
  refine ak (s_g hG ?_);refine ao ?_ ?_
  ·intro hb0;have hk:=Qf hb0;refine aq (ah ?_);refine ak (av ?_);refine ag hG ?_ ?_
   ·(try simp only[ba]);exact Dp hp hq (by omega)
   (refine aI (ah ?_);refine ag hG ?_ ?_;·first|trivial|omega|(simp;done)|(simp;omega));show ∃ z,_;refine q_l ?_;exact Dk (by omega) (by omega)
  ·intro hb0;have hk:=Qg hb0;refine bd (aD ?_);refine az (ax ?_);refine ah (s_q hG ?_ ?_)
   ·(try simp only[ba]);exact⟨HJ hp hq k,by rw[b4,dx];omega⟩
   refine ay (q_e [] ?_);exact LA g1 hk
def rJ(B:aj):Tab:={types:= [(3,(.int .i64)),(22,(.slice .str)),(46,.str)],elems:= [(22,46)],cons:= [(64,jh),(84,FU)],hint:= [20],N:=24,base:=B}
theorem BE{B:aj}(hB:aB B):aG Tryz.prog (rJ B):=⟨⟨tc ty3 (tc eK (tc jc (ae))),aQ (by kernel_rfl) (af),by simp only[rJ,ioB];omega⟩,aE (cc Tryz.func64 (j9 hB) (cc Tryz.func84 (H8 hB) (aA))),by kernel_rfl⟩
def lN:Con:=fun l os=>match l,os with
 | [.z .str c,.z (.slice .str) p],[]=>some (GQ QK2 c/\GL QK2 p/\p.length<=1000000,[.z (.slice .str) (txP (dE (bF c) (nl p)))],[])
 |_,_=>none
theorem wI{B:aj}(hB:aB B):Valid B Tryz.prog 65 lN:=by
 refine ab (BE hB).tab Tryz.func65 rfl rfl rfl ?_;intro args os C rs os' hc hC;unfold lN at hc;split at hc;case h_2=>cases hc
 rename_i c p;cases hc;refine v_h (BE hB) fun X hP hT hr hG=> ?_;have hU:=rJ.eq_1;unfold rJ at hT;have hX:=ai @FU.eq_1<| @jh.eq_1;simp only[Tryz.f65,aC,al,ioB];obtain⟨hc,hp,hl1⟩:=hC;refine s_g hG ?_;refine s_g hG ?_;refine ak (s_g hG ?_);refine av (bj (fun(z:Nat)=>(⟨[(0,.l (.z .str c)),(1,.l (.z (.slice .str) p)),(4,.l (.val (.slice none 0 0))),(5,.l (.ownS 21)),(6,.l (.z (.int .i64) (z:Int)))],[(21,.arr .str 46 (txP (((nl p).take z).map fun x=>bF c*x)))]⟩:aa)) (fun z=>z<=p.length) (fun z=>p.length-z) 0 ?_ ?_ ?_);·refine q_l ?_;exact⟨rfl,by unfold ioB;omega,rfl⟩
 ·omega
 ·rintro k g1;try dsimp only at g1
  refine ak (s_g hG ?_);refine ao ?_ ?_
  ·intro hb0;(try simp only[bt] at hb0);(have hk:k<p.length:=by have h9:(k:Int)<(p.length:Int):=hb0;omega);refine aq (ah ?_);refine ak (av ?_);refine ag hG ?_ ?_
   ·(try simp only[ba]);exact zZ hc hp hl1 hk
   (refine aI (ah ?_);refine ag hG ?_ ?_;·first|trivial|omega|(simp;done)|(simp;omega));show ∃ z,_;refine q_l ?_;exact zW hp hk hl1
  ·intro hb0;(try simp only[bf] at hb0);(have hk: ¬k<p.length:=by have h9: ¬ (k:Int)<(p.length:Int):=hb0;omega);refine bd (aD ?_);refine az (ax ?_);refine ah (s_q hG ?_ ?_)
   ·(try simp only[ba]);exact⟨Dl hc hp k,by rw[b4,List.length_map,List.length_take,iv];omega⟩
   refine ay (q_e [] ?_);exact HM hk
def rK(B:aj):Tab:={types:= [(3,(.int .i64)),(22,(.slice .str))],elems:= [(22,46)],cons:= [(64,jh)],hint:= [13],N:=19,base:=B}
theorem BF{B:aj}(hB:aB B):aG Tryz.prog (rK B):=⟨⟨tc ty3 (tc eK (ae)),aQ (by kernel_rfl) (af),by simp only[rK,ioB];omega⟩,aE (cc Tryz.func64 (j9 hB) (aA)),by kernel_rfl⟩
def rL:Con:=fun l os=>match l,os with
 | [.z (.slice .str) p,.z (.int .i64) n],[]=>some (GL QK p/\0<=n/\n<=1000000/\p.length<=1000000,[.z (.slice .str) (txP (iw n.toNat (nl p)))],[])
 |_,_=>none
theorem IV{B:aj}(hB:aB B):Valid B Tryz.prog 66 rL:=by
 refine ab (BF hB).tab Tryz.func66 rfl rfl rfl ?_;intro args os C rs os' hc hC;unfold rL at hc;split at hc;case h_2=>cases hc
 rename_i p n;cases hc;refine v_h (BF hB) fun X hP hT hr hG=> ?_;have hU:=rK.eq_1;unfold rK at hT;have hX:= @jh.eq_1;simp only[Tryz.f66,aC,al,ioB];obtain⟨hp,hn1,hn2,hl1⟩:=hC;obtain⟨n,rfl⟩:=Int.eq_ofNat_of_zero_le hn1;rw[Int.toNat_natCast];have hn3:n<=1000000:=by have h9:(n:Int)<=1000000:=hn2;omega
 refine s_g hG ?_;refine s_g hG ?_;refine ak (s_g hG ?_);refine av (bj (fun(z:Nat)=>(⟨[(0,.l (.z (.slice .str) p)),(1,.l (.z (.int .i64) (n:Int))),(4,.l (.val (.slice none 0 0))),(5,.l (.ownS 14)),(6,.l (.z (.int .i64) (z:Int)))],[(14,.arr .str 46 (List.replicate z [48]))]⟩:aa)) (fun z=>z<=n) (fun z=>n-z) 0 ?_ ?_ ?_);·refine q_l ?_;exact⟨rfl,by unfold ioB;omega,rfl⟩
 ·omega
 ·rintro k g1;try dsimp only at g1
  refine ak (s_g hG ?_);refine ao ?_ ?_
  ·intro hb0;(try simp only[bt] at hb0);refine aq (ah ?_);refine ak (av ?_);refine ag hG ?_ ?_
   ·(try simp only[ba]);exact oo (by rw[List.length_replicate];omega)
   (refine aI (ah ?_);refine ag hG ?_ ?_;·first|trivial|omega|(simp;done)|(simp;omega));show ∃ z,_;refine q_l ?_;exact⟨k+1,wo,LC k,by omega,by omega⟩
  ·intro hb0;(try simp only[bf] at hb0);(obtain rfl:k=n:=by have h9: ¬ (k:Int)<(n:Int):=hb0;omega);refine bd (aD ?_);refine az (ax ?_);refine ah (s_q hG ?_ ?_)
   ·(try simp only[ba]);exact⟨oo (by rw[List.length_replicate];omega),Dm hp k,by rw[List.length_append,List.length_replicate];omega⟩
   refine ay (q_e [] ?_);exact HO
def rM(B:aj):Tab:={types:= [(22,(.slice .str)),(46,.str)],elems:= [],cons:= [(20,kV),(65,lN)],hint:= [],N:=9,base:=B}
theorem BG{B:aj}(hB:aB B):aG Tryz.prog (rM B):=⟨⟨tc eK (tc jc (ae)),af,by simp only[rM,ioB];omega⟩,aE (cc Tryz.func20 (oL hB) (cc Tryz.func65 (wI hB) (aA))),by kernel_rfl⟩
def yh:Con:=fun l os=>match l,os with
 | [.z (.slice .str) p,.z (.slice .str) q],[]=>some (GL QK2 p/\GL 1000000 q/\p.length<=1000000/\q.length<=1000000,[.z (.slice .str) (txP (bz (· - ·) (nl p) (nl q)))],[])
 |_,_=>none
theorem IW{B:aj}(hB:aB B):Valid B Tryz.prog 21 yh:=by
 refine ab (BG hB).tab Tryz.func21 rfl rfl rfl ?_;intro args os C rs os' hc hC;unfold yh at hc;split at hc;case h_2=>cases hc
 rename_i p q;cases hc;refine v_h (BG hB) fun X hP hT hr hG=> ?_;have hU:=rM.eq_1;unfold rM at hT;have hX:=ai @kV.eq_1<| @lN.eq_1;simp only[Tryz.f21,aC,al,ioB];refine s_g hG ?_;refine s_q hG ?_ ?_
 ·try simp only[ba]
  exact HR hC
 refine ay (q_e [] ?_);rw[jA,N6,N7]
def rN(B:aj):Tab:={types:= [(3,(.int .i64)),(22,(.slice .str)),(46,.str)],elems:= [],cons:= [(20,kV),(65,lN),(66,rL)],hint:= [],N:=24,base:=B}
theorem BH{B:aj}(hB:aB B):aG Tryz.prog (rN B):=⟨⟨tc ty3 (tc eK (tc jc (ae))),af,by simp only[rN,ioB];omega⟩,aE (cc Tryz.func20 (oL hB) (cc Tryz.func65 (wI hB) (cc Tryz.func66 (IV hB) (aA)))),by kernel_rfl⟩
def oM:Con:=fun l os=>match l,os with
 | [.z (.slice .str) p,.z (.slice .str) q],[]=>some (HP p q,[.z (.slice .str) (txP (dM (nl p) (nl q) p.length))],[])
 |_,_=>none
theorem wJ{B:aj}(hB:aB B):Valid B Tryz.prog 22 oM:=by
 refine ab (BH hB).tab Tryz.func22 rfl rfl rfl ?_;intro args os C rs os' hc hC;unfold oM at hc;split at hc;case h_2=>cases hc
 rename_i p q;cases hc;refine v_h (BH hB) fun X hP hT hr hG=> ?_;have hU:=rN.eq_1;unfold rN at hT;have hX:=ai @kV.eq_1<|ai @lN.eq_1<| @rL.eq_1;simp only[Tryz.f22,aC,al,ioB];have hl1:=hC.2.2.1;refine s_g hG ?_;refine s_g hG ?_;refine ak (s_g hG ?_);refine av (bj (fun(z:Nat)=>(⟨[(0,.l (.z (.slice .str) p)),(1,.l (.z (.slice .str) q)),(4,.l (.val (.slice none 0 0))),(5,.l (.z (.slice .str) (txP (dM (nl p) (nl q) z)))),(6,.l (.z (.int .i64) (z:Int)))],[]⟩:aa)) (fun z=>z<=p.length) (fun z=>p.length-z) 0 ?_ ?_ ?_);·refine q_l ?_;exact⟨rfl,rfl⟩
 ·omega
 ·rintro k g1;try dsimp only at g1
  refine ak (s_g hG ?_);refine ao ?_ ?_
  ·intro hb0;(try simp only[bt] at hb0);(have hk:k<p.length:=by have h9:(k:Int)<(p.length:Int):=hb0;omega);refine aq (ah ?_);refine ak (av ?_);refine ag hG ?_ ?_
   ·(try simp only[ba]);exact⟨⟨by omega,hb0⟩,HQ hC hk⟩
   (refine aI (ah ?_);refine ag hG ?_ ?_;·first|trivial|omega|(simp;done)|(simp;omega));show ∃ z,_;refine q_l ?_;obtain⟨w,w1,w2,w3⟩:=Do hC hk;exact⟨w,w2,w1,w3⟩
  ·intro hb0;(try simp only[bf] at hb0);(have hk: ¬k<p.length:=by have h9: ¬ (k:Int)<(p.length:Int):=hb0;omega);refine bd (aD ?_);refine az (ax ?_);refine ah (s_g hG ?_);refine ay (q_e [] ?_);exact LH g1 hk
def rO(B:aj):Tab:={types:= [(3,(.int .i64)),(5,(.int .u8)),(22,(.slice .str)),(23,(.slice (.int .i8))),(25,(.st (.pair (.slice (.int .i8)) (.pair (.int .u8) (.slice (.int .i8)))))),(71,(.int .i8))],elems:= [(22,46)],cons:= [(22,oM),(64,jh),(85,OG)],hint:= [],N:=59,base:=B}
theorem BI{B:aj}(hB:aB B):aG Tryz.prog (rO B):=⟨⟨tc ty3 (tc ty5 (tc eK (tc Qu (tc Pf (tc Qv (ae)))))),aQ (by kernel_rfl) (af),by simp only[rO,ioB];omega⟩,aE (cc Tryz.func22 (wJ hB) (cc Tryz.func64 (j9 hB) (cc Tryz.func85 (H6 hB) (aA)))),by kernel_rfl⟩
def rP:Con:=fun l os=>match l,os with
 | [.z (.st (.pair (.slice (.int .i8)) (.pair (.int .u8) (.slice (.int .i8))))) d],[]=>some (iA d,[.z (.slice .str) (txP (l4 d))],[])
 |_,_=>none
theorem IX{B:aj}(hB:aB B):Valid B Tryz.prog 40 rP:=by
 refine ab (BI hB).tab Tryz.func40 rfl rfl rfl ?_;intro args os C rs os' hc hC;unfold rP at hc;split at hc;case h_2=>cases hc
 rename_i d;cases hc;refine v_h (BI hB) fun X hP hT hr hG=> ?_;have hU:=rO.eq_1;unfold rO at hT;have hX:=ai @oM.eq_1<|ai @OG.eq_1<| @jh.eq_1;simp only[Tryz.f40,aC,al,ioB];have hD:=hC;refine s_g hG ?_;refine s_g hG ?_;refine ak (s_g hG ?_);refine av (bj (fun(z:Nat)=>(⟨[(1,.l (.z (.ptr (.st (.pair (.slice (.int .i8)) (.pair (.int .u8) (.slice (.int .i8)))))) d)),(2,.l (.val (.slice none 0 0))),(3,.l (.ownS 32)),(4,.l (.z (.int .i64) (z:Int)))],[(32,.arr .str 46 (txP (ix d z)))]⟩:aa)) (fun z=>z<=d.1.length/\z<=5) (fun z=>5-z) 0 ?_ ?_ ?_);·refine q_l ?_;exact⟨rfl,by unfold ioB;omega,rfl⟩
 ·omega
 ·rintro k g1;try dsimp only at g1
  refine ak (s_g hG ?_);refine ao ?_ ?_
  ·intro hb0;have hk:=O0 (n:=5) hb0;refine aq (ah ?_);refine ak (av ?_);refine x7 32 44 (by simp only[aa.toRow,LV.toRow,ioB,mx0,mx1,mx2,mx3,mx4,mx5,mx6,Nat.reduceLT,Nat.reduceEqDiff,Nat.reduceAdd,Nat.reduceMul,Nat.reduceSub,Nat.reduceLeDiff,Nat.reduceBEq,Nat.reduceBNe,reduceIte,reduceDIte,reduceCtorEq];rfl) ?_;refine gB hG ?_ ?_
   ·(try simp only[ba]);exact HV hD hk
   (refine aI (ah ?_);refine qG 32 1 (by simp only[aa.ofRow,LV.ofRow,ioB,List.set_cons_zero,List.set_cons_succ,List.append_nil,List.nil_append,List.cons_append,List.getElem?_cons_zero,List.getElem?_cons_succ,Option.getD_some,mx0,mx1,mx2,mx3,mx4,mx5,mx6,Nat.reduceLT,Nat.reduceEqDiff,Nat.reduceAdd,Nat.reduceMul,Nat.reduceSub,Nat.reduceLeDiff,Nat.reduceBEq,Nat.reduceBNe,reduceIte,reduceDIte,reduceCtorEq];rfl) ?_;refine ag hG ?_ ?_;·first|trivial|omega|(simp;done)|(simp;omega));show ∃ z,_;refine q_l ?_;exact HW hD hk
  ·intro hb0;have hk:=O1 (n:=5) hb0;refine bd (aD ?_);refine az (ax ?_);refine ah (s_q hG ?_ ?_)
   ·(try simp only[ba]);exact⟨(EY hD k).1,PK (EY hD k).2 g1⟩
   (refine ak (s_g hG ?_);refine av (bj (fun(z:Nat)=>(⟨[(1,.l (.z (.ptr (.st (.pair (.slice (.int .i8)) (.pair (.int .u8) (.slice (.int .i8)))))) d)),(2,.l (.val (.slice none 0 0))),(3,.l (.z (.slice .str) (txP (lQ d z)))),(5,.l (.z (.int .i64) (z:Int)))],[]⟩:aa)) (fun z=>z<=d.2.2.length/\z<=4) (fun z=>4-z) 0 ?_ ?_ ?_);·refine q_l ?_;exact⟨PN hk g1,rfl⟩);·omega
   ·rintro k2 g2;(try dsimp only at g2);refine ak (s_g hG ?_);refine ao ?_ ?_
    ·intro hb1;have hk2:=O0 (n:=4) hb1;refine aq (ah ?_);refine ak (av ?_);refine ag hG ?_ ?_
     ·(try simp only[ba]);exact HT hD hk2
     (refine aI (ah ?_);refine ag hG ?_ ?_;·first|trivial|omega|(simp;done)|(simp;omega));show ∃ z,_;refine q_l ?_;exact HU hD hk2
    ·intro hb1;have hk2:=O1 (n:=4) hb1;refine bd (aD ?_);refine az (ax ?_);refine ah (s_g hG ?_);refine ay (q_e [] ?_);exact PM hk2 g2
def rQ(B:aj):Tab:={types:= [(3,(.int .i64)),(22,(.slice .str)),(31,(.int .i64)),(46,.str)],elems:= [],cons:= [(37,p9)],hint:= [],N:=19,base:=B}
theorem BJ{B:aj}(hB:aB B):aG Tryz.prog (rQ B):=⟨⟨tc ty3 (tc eK (tc ju (tc jc (ae)))),af,by simp only[rQ,ioB];omega⟩,aE (cc Tryz.func37 (H5 hB) (aA)),by kernel_rfl⟩
def nt:Con:=fun l os=>match l,os with
 | [.z (.slice .str) p],[]=>some (cT p,[.z (.int .i64) (oq p)],[])
 |_,_=>none
theorem IY{B:aj}(hB:aB B):Valid B Tryz.prog 53 nt:=by
 refine ab (BJ hB).tab Tryz.func53 rfl rfl rfl ?_;intro args os C rs os' hc hC;unfold nt at hc;split at hc;case h_2=>cases hc
 rename_i p;cases hc;refine v_h (BJ hB) fun X hP hT hr hG=> ?_;have hU:=rQ.eq_1;unfold rQ at hT;have hX:= @p9.eq_1;simp only[Tryz.f53,aC,al,ioB];have hl:p.length<=1000000000:=hC.1;refine s_g hG ?_;refine ak (s_g hG ?_);refine av (bj (fun(z:Nat)=>(⟨[(0,.l (.z (.slice .str) p)),(2,.l (.z (.int .i64) 0)),(3,.l (.z (.int .i64) (z:Int)))],[]⟩:aa)) (fun z=>z<=p.length/\(p.take z).all (fun q=>decide (cb q=0))=true) (fun z=>p.length-z) 0 ?_ ?_ ?_);·refine q_l ?_;rfl
 ·exact⟨by omega,rfl⟩
 ·rintro k ⟨g1,g2⟩;try dsimp only at g1 g2
  refine ak (s_g hG ?_);refine ao ?_ ?_
  ·intro hb0;(try simp only[bt] at hb0);(have hk:k<p.length:=by have h9:(k:Int)<((p.length:Nat):Int):=hb0;omega);refine aq (ah ?_);refine ak (av ?_);refine s_q hG ?_ ?_
   ·(try simp only[ba]);exact⟨⟨by omega,hb0⟩,hC.2 _ (dW (t:= .str) hk)⟩
   refine s_g hG ?_;refine ao ?_ ?_;·intro hb1;(try simp only[bt] at hb1);refine s_g hG ?_;refine ay (bg ?_);refine aw (cR ?_);refine bg (aw ?_);refine q_e [] ?_;exact LL hk g2 hb1
   ·(intro hb1;(try simp only[bf] at hb1);refine aq (aI ?_);refine ah (ag hG ?_ ?_);·first|trivial|omega|(simp;done)|(simp;omega));show ∃ z,_;refine q_l ?_;exact⟨k+1,wo,hk,tU hk g2 hb1,by omega⟩
  ·intro hb0;(try simp only[bf] at hb0);(have hk: ¬k<p.length:=by have h9: ¬ (k:Int)<((p.length:Nat):Int):=hb0;omega);refine bd (aD ?_);refine az (ax ?_);refine ah (s_g hG ?_);refine ay (q_e [] ?_);exact Oj hk g2
def rR(B:aj):Tab:={types:= [(3,(.int .i64)),(22,(.slice .str)),(31,(.int .i64)),(46,.str)],elems:= [],cons:= [(53,nt)],hint:= [],N:=25,base:=B}
theorem BK{B:aj}(hB:aB B):aG Tryz.prog (rR B):=⟨⟨tc ty3 (tc eK (tc ju (tc jc (ae)))),af,by simp only[rR,ioB];omega⟩,aE (cc Tryz.func53 (IY hB) (aA)),by kernel_rfl⟩
def nu:Con:=fun l os=>match l,os with
 | [.z (.slice .str) p],[]=>some (cT p,[.z .bool (decide (bK p=0))],[])
 |_,_=>none
theorem IZ{B:aj}(hB:aB B):Valid B Tryz.prog 13 nu:=by
 refine ab (BK hB).tab Tryz.func13 rfl rfl rfl ?_;intro args os C rs os' hc hC;unfold nu at hc;split at hc;case h_2=>cases hc
 rename_i p;cases hc;refine v_h (BK hB) fun X hP hT hr hG=> ?_;have hU:=rR.eq_1;unfold rR at hT;have hX:= @nt.eq_1;simp only[Tryz.f13,aC,al,ioB];have hl:p.length<=1000000000:=hC.1;refine s_g hG ?_;refine s_q hG ?_ ?_
 ·try simp only[ba]
  exact⟨fun h=>⟨h,hC⟩,id,id,id,id,id,id,id,fun h=>⟨h,Ds hl h⟩,id,id,fun h=>⟨h,fun h2=>by rw[h,h2];rfl⟩,id⟩
 refine ay (q_e [] ?_);exact Dt
def rS(B:aj):Tab:={types:= [(3,(.int .i64)),(22,(.slice .str)),(44,(.slice (.slice .str))),(46,.str)],elems:= [],cons:= [(39,ow)],hint:= [],N:=29,base:=B}
theorem BL{B:aj}(hB:aB B):aG Tryz.prog (rS B):=⟨⟨tc ty3 (tc eK (tc pE (tc jc (ae)))),af,by simp only[rS,ioB];omega⟩,aE (cc Tryz.func39 (vY hB) (aA)),by kernel_rfl⟩
def yi:Con:=fun l os=>match l,os with
 | [.z (.slice (.slice .str)) m],[]=>some (m.length<=1000/\∀ p∈m,FL p,[.z .bool (m.all fun p=>p.all jd)],[])
 |_,_=>none
theorem I0{B:aj}(hB:aB B):Valid B Tryz.prog 27 yi:=by
 refine ab (BL hB).tab Tryz.func27 rfl rfl rfl ?_;intro args os C rs os' hc hC;unfold yi at hc;split at hc;case h_2=>cases hc
 rename_i m;cases hc;refine v_h (BL hB) fun X hP hT hr hG=> ?_;have hU:=rS.eq_1;unfold rS at hT;have hX:= @ow.eq_1;simp only[Tryz.f27,aC,al,ioB];have hl:m.length<=1000:=hC.1;refine s_g hG ?_;refine ak (s_g hG ?_);refine av (bj (fun(z:Nat)=>(⟨[(0,.l (.z (.slice (.slice .str)) m)),(2,.l (.z .bool false)),(3,.l (.z (.int .i64) (z:Int)))],[]⟩:aa)) (fun z=>z<=m.length/\(m.take z).all (fun p=>p.all jd)=true) (fun z=>m.length-z) 0 ?_ ?_ ?_);·refine q_l ?_;rfl
 ·exact⟨by omega,rfl⟩
 ·rintro k ⟨g1,g2⟩;try dsimp only at g1 g2
  refine ak (s_g hG ?_);refine ao ?_ ?_
  ·(intro hb0;(try simp only[bt] at hb0);(have hk:k<m.length:=by have h9:(k:Int)<((m.length:Nat):Int):=hb0;omega);have hr:=hC.2 _ (dW (t:= .slice .str) hk);refine aq (ah ?_);refine ak (av ?_);refine s_g hG ?_;refine av (bj (fun(z:Nat)=>(⟨[(0,.l (.z (.slice (.slice .str)) m)),(2,.l (.z .bool false)),(3,.l (.z (.int .i64) (k:Int))),(4,.l (.z (.int .i64) (z:Int)))],[]⟩:aa)) (fun z=>z<=List.length (nth (.slice .str) m (k:Int))/\(List.take z (nth (.slice .str) m (k:Int))).all jd=true) (fun z=>List.length (nth (.slice .str) m (k:Int))-z) 0 ?_ ?_ ?_);·refine q_l ?_;rfl);·exact⟨by omega,rfl⟩
   ·rintro j ⟨g3,g4⟩;(try dsimp only at g3 g4);refine ak (s_q hG ?_ ?_)
    ·(try simp only[ba]);exact⟨by omega,hb0⟩
    refine ao ?_ ?_
    ·intro hb1;(try simp only[bt] at hb1);(have hj:j<List.length (nth (.slice .str) m (k:Int)):=by have h9:(j:Int)<((List.length (nth (.slice .str) m (k:Int)):Nat):Int):=hb1;omega);refine aq (ah ?_);refine ak (av ?_);refine s_q hG ?_ ?_
     ·(try simp only[ba]);exact⟨⟨by omega,hb0⟩,⟨by omega,hb1⟩,hr.2 _ (dW (t:= .str) hj)⟩
     refine ao ?_ ?_;·intro hb2;(try simp only[bt] at hb2);refine s_g hG ?_;refine ay (bg ?_);refine aw (cR ?_);refine bg (bg ?_);refine aw (cR ?_);refine bg (aw ?_);refine q_e [] ?_;exact LU hk hj hb2
     ·(intro hb2;(try simp only[bf] at hb2);refine aq (aI ?_);refine ah (ag hG ?_ ?_);·first|trivial|omega|(simp;done)|(simp;omega));show ∃ z,_;refine q_l ?_;exact Oi hr.1 hj g4 hb2
    ·(intro hb1;(try simp only[bf] at hb1);(have hj: ¬j<List.length (nth (.slice .str) m (k:Int)):=by have h9: ¬ (j:Int)<((List.length (nth (.slice .str) m (k:Int)):Nat):Int):=hb1;omega);refine bd (aD ?_);refine az (ax ?_);refine aI (ah ?_);refine ag hG ?_ ?_;·first|trivial|omega|(simp;done)|(simp;omega));show ∃ z,_;refine q_l ?_;exact LW hl hk hj g2 g4
  ·intro hb0;(try simp only[bf] at hb0);(have hk: ¬k<m.length:=by have h9: ¬ (k:Int)<((m.length:Nat):Int):=hb0;omega);refine bd (aD ?_);refine az (ax ?_);refine ah (s_g hG ?_);refine ay (q_e [] ?_);exact HZ hk g2
def rT(B:aj):Tab:={types:= [(3,(.int .i64)),(22,(.slice .str)),(31,(.int .i64)),(44,(.slice (.slice .str)))],elems:= [(44,22)],cons:= [(27,yi),(28,kT)],hint:= [],N:=25,base:=B}
theorem BM{B:aj}(hB:aB B):aG Tryz.prog (rT B):=⟨⟨tc ty3 (tc eK (tc ju (tc pE (ae)))),aQ (by kernel_rfl) (af),by simp only[rT,ioB];omega⟩,aE (cc Tryz.func27 (I0 hB) (cc Tryz.func28 (oy hB) (aA))),by kernel_rfl⟩
def yj:Con:=fun l os=>match l,os with
 | [.z (.slice .str) p,.z (.int .i64) e,.z (.slice .str) w],[]=>some (p.length<=QL/\FL w,[.z .bool (je p e w)],[])
 |_,_=>none
theorem I1{B:aj}(hB:aB B):Valid B Tryz.prog 19 yj:=by
 refine ab (BM hB).tab Tryz.func19 rfl rfl rfl ?_;intro args os C rs os' hc hC;unfold yj at hc;split at hc;case h_2=>cases hc
 rename_i p e w;cases hc;refine v_h (BM hB) fun X hP hT hr hG=> ?_;have hU:=rT.eq_1;unfold rT at hT;have hX:=ai @yi.eq_1<| @kT.eq_1;simp only[Tryz.f19,aC,al,ioB];refine s_g hG ?_;refine ak (s_q hG ?_ ?_)
 ·try simp only[ba]
  exact fun x hx=>by rw[List.mem_singleton] at hx;subst hx;exact hC.2
 refine ao ?_ ?_
 ·intro hb0;try simp only[bt] at hb0
  refine s_q hG ?_ ?_
  ·(try simp only[ba]);exact id
  refine ay (aw ?_);refine q_e [] ?_;exact Ok hb0
 ·intro hb0;try simp only[bf] at hb0
  refine aq (ah ?_);refine s_q hG ?_ ?_
  ·(try simp only[ba]);exact⟨fun h=>⟨h,hC.1,Nat.le_trans hC.2.1 (Ql (Nat.le_refl _))⟩,id⟩
  refine ay (q_e [] ?_);exact Ol hb0
def rU(B:aj):Tab:={types:= [(3,(.int .i64)),(22,(.slice .str)),(46,.str)],elems:= [(22,46)],cons:= [],hint:= [22],N:=26,base:=B}
theorem BN{B:aj}(hB:aB B):aG Tryz.prog (rU B):=⟨⟨tc ty3 (tc eK (tc jc (ae))),aQ (by kernel_rfl) (af),by simp only[rU,ioB];omega⟩,bG rfl,by kernel_rfl⟩
def Gf:Con:=fun l os=>match l,os with
 | [.z (.slice .str) p],[]=>some (True,[.z (.slice .str) (mB p)],[])
 |_,_=>none
theorem I2{B:aj}(hB:aB B):Valid B Tryz.prog 52 Gf:=by
 refine ab (BN hB).tab Tryz.func52 rfl rfl rfl ?_;intro args os C rs os' hc hC;unfold Gf at hc;split at hc;case h_2=>cases hc
 rename_i p;cases hc;refine v_h (BN hB) fun X hP hT hr hG=> ?_;have hU:=rU.eq_1;unfold rU at hT;have hX:=Bool.not_true;simp only[Tryz.f52,aC,al,ioB];refine s_g hG ?_;refine s_g hG ?_;refine ak (s_q hG ?_ ?_)
 ·try simp only[ba]
  exact Om
 refine av (bj (fun(z:Nat)=>(⟨[(3,.l (.ownS 23)),(10,.l (.z (.slice .str) (p.take 6))),(11,.l (.z (.int .i64) ((p.take 6).length:Int))),(12,.l (.z (.int .i64) (z:Int)))],[(23,.arr .str 46 ((p.take 6).take z|>.map fun q=>q.take 8))]⟩:aa)) (fun z=>z<=(p.take 6).length) (fun z=>(p.take 6).length-z) 0 ?_ ?_ ?_);·refine q_l ?_;rw[LX];exact⟨rfl,rfl,rfl,by unfold ioB;omega⟩
 ·omega
 ·rintro k g1;try dsimp only at g1
  refine s_g hG ?_;refine ak (ao ?_ ?_)
  ·intro hb0;(try simp only[bt] at hb0);(have hk:k<(List.take 6 p).length:=by have h9:(k:Int)<(((List.take 6 p).length:Nat):Int):=hb0;omega);refine aq (ah ?_);refine ak (av ?_);refine s_q hG ?_ ?_
   ·(try simp only[ba]);exact⟨by omega,hb0⟩
   refine ag hG ?_ ?_
   ·(try simp only[ba]);exact H1
   (refine aI (ah ?_);refine ag hG ?_ ?_;·first|trivial|omega|(simp;done)|(simp;omega));show ∃ z,_;refine q_l ?_;exact H0 hk
  ·intro hb0;(try simp only[bf] at hb0);(have hk: ¬k<(List.take 6 p).length:=by have h9: ¬ (k:Int)<(((List.take 6 p).length:Nat):Int):=hb0;omega);refine bd (aD ?_);refine az (ax ?_);refine ah (s_g hG ?_);refine ay (q_e [] ?_);exact Oo hk
def rV(B:aj):Tab:={types:= [(22,(.slice .str)),(25,(.st (.pair (.slice (.int .i8)) (.pair (.int .u8) (.slice (.int .i8)))))),(27,(.arr 2 (.slice .str))),(28,(.arr 4 (.arr 2 (.slice .str))))],elems:= [],cons:= [(40,rP),(52,Gf)],hint:= [],N:=30,base:=B}
theorem BO{B:aj}(hB:aB B):aG Tryz.prog (rV B):=⟨⟨tc eK (tc Pf (tc PW (tc PX (ae)))),af,by simp only[rV,ioB];omega⟩,aE (cc Tryz.func40 (IX hB) (cc Tryz.func52 (I2 hB) (aA))),by kernel_rfl⟩
def rW:Con:=fun l os=>match l,os with
 | [.z (.slice .str) p,.z (.slice .str) q,.z (.st (.pair (.slice (.int .i8)) (.pair (.int .u8) (.slice (.int .i8))))) d,.z (.st (.pair (.slice (.int .i8)) (.pair (.int .u8) (.slice (.int .i8))))) f],[]=>some (iA d/\iA f,[.z (.arr 4 (.arr 2 (.slice .str))) (ue p q d f)],[])
 |_,_=>none
theorem I3{B:aj}(hB:aB B):Valid B Tryz.prog 12 rW:=by
 refine ab (BO hB).tab Tryz.func12 rfl rfl rfl ?_;intro args os C rs os' hc hC;unfold rW at hc;split at hc;case h_2=>cases hc
 rename_i p q d f;cases hc;refine v_h (BO hB) fun X hP hT hr hG=> ?_;have hU:=rV.eq_1;unfold rV at hT;have hX:=ai @rP.eq_1<|ai @Gf.eq_1<|ai @List.replicate_succ.{0}<|ai @List.replicate_zero.{0}<|ai @List.flatten_cons.{0}<| @List.flatten_nil.{0};simp only[Tryz.f12,aC,al,ioB];refine s_g hG ?_;refine s_d hG ?_ ?_
 ·try simp only[ba]
  exact⟨hC.2,hC.1,hC.1,hC.2⟩
 refine ay (q_e [] ?_);rfl
end Go.Proofs.YtdojbabpnaifoaaGreatDoor
end