/- Merged by a program out of several texts. -/
import Derived.Test.YtdojbabpnaifoaaGreatDoorX3
import Derived.Test.YtdojbabpnaifoaaGreatDoorX2
import Derived.Test.YtdojbabpnaifoaaGreatDoorProg
import Derived.Test.YtdojbabpnaifoaaGreatDoorX4
import Derived.Deep.LoopGhost
import Derived.Lib.Walk
import Derived.Lib.SliceRun
import Derived.KernelRfl
set_option linter.all false
set_option linter.unusedSimpArgs false
set_option linter.unusedVariables false
set_option maxRecDepth 100000
section
namespace Go.Proofs.YtdojbabpnaifoaaGreatDoor
open Go Go.Cm Go.Proofs
def wu(B:aj):Tab:={types:= [(3,(.int .i64)),(181,(.slice (.int .i64)))],elems:= [(181,3)],cons:= [(160,gi),(161,mW),(164,mX),(183,nH)],hint:= [23,31,50],N:=125,base:=B}
theorem It{B:aj}(hB:aC B):aI Tryz.prog (wu B):=⟨⟨tc ty3 (tc jV (ae)),aT (by kernel_rfl) (af),by simp only[wu,ioB];omega⟩,aG (cc Tryz.func160 (wq hB) (cc Tryz.func161 (Cq hB) (cc Tryz.func164 (Cr hB) (cc Tryz.func183 (o7 hB) (aA))))),by kernel_rfl⟩
def kB:Con:=fun l os=>match l,os with
 | [.z (.slice (.int .i64)) a,.z (.slice (.int .i64)) b],[]=>some (D.Cano a/\D.Cano b/\b≠ []/\a.length+b.length+2<CAP,[.z (.slice (.int .i64)) (D.limbs (D.valL a/D.valL b).toNat),.z (.slice (.int .i64)) (D.limbs (D.valL a%D.valL b).toNat)],[])
 |_,_=>none
set_option maxHeartbeats 1000000 in
theorem Cz{B:aj}(hB:aC B):Valid B Tryz.prog 165 kB:=by
 refine ab (It hB).tab Tryz.func165 rfl rfl rfl ?_;intro args os C rs os' hc hC;unfold kB at hc;split at hc;case h_2=>cases hc
 rename_i a b;cases hc;refine v_h (It hB) fun X hP hT hr hG=> ?_;have hU:=wu.eq_1;unfold wu at hT;have hX:=ai @gi.eq_1<|ai @nH.eq_1<|ai @mW.eq_1<| @mX.eq_1;simp only[Tryz.f165,aD,an,ioB];refine s_g hG ?_;refine ct (fun(z:Nat)=>(⟨[(0,.l (.z (.slice (.int .i64)) a)),(1,.l (.z (.slice (.int .i64)) b)),(6,.l (.z (.int .i64) (z:Int)))],[]⟩:aa)) (fun z=>b.length=z+1) ?_ ?_
 ·refine ag hG ?_ ?_;·exact tt9
  show ∃ z,_;refine q_l ?_;exact D.len_pred hC.2.2.1 hC.2.2.2
 rintro n hn;try dsimp only at hn
 obtain⟨c1,c2,c3,c4⟩:=hC;have c4:List.length a+List.length b+2<1000000000000:=c4;have hp:=(D.valL_pos c2).2 c3;have hwn:IntKind.i64.wrap ((n:Int)-1)=(n:Int)-1:=wo;refine ak (s_g hG ?_);refine ao ?_ ?_
 ·intro hb0;try simp only[decide_eq_true_eq] at hb0
  refine s_q hG ?_ ?_
  ·(try simp only[ba]);unfold Cm.Roomy;omega
  refine ay (az ?_);refine q_e [23] ?_;exact D.div_small c1 c2 c3 hn (by omega)
 ·intro hb0;simp only[decide_eq_false_iff_not] at hb0;have hwl:IntKind.i64.wrap ((List.length a:Int)-(n:Int))=((List.length a-n:Nat):Int):=by rw[wo];omega
  refine aq (ah ?_);refine s_q hG ?_ ?_
  ·(try simp only[ba]);rw[hwl];exact⟨by omega,by omega,by unfold Cm.Roomy;omega⟩
  refine s_q hG ?_ ?_
  ·(try simp only[ba]);rw[hwl,Int.toNat_natCast,Int.toNat_natCast,List.take_length,List.length_drop];exact⟨⟨by omega,by omega,Int.le_refl _⟩,by unfold Cm.Roomy;omega⟩
  refine ak (s_g hG ?_);refine ar (MC [31] (by simp only[hT,wu,mr0,mr1,mr2,kI,Nat.reduceLT,Nat.reduceEqDiff,Nat.reduceAdd,Nat.reduceMul,Nat.reduceSub,Nat.reduceLeDiff,Nat.reduceBEq,Nat.reduceBNe,reduceIte,reduceDIte,reduceCtorEq];rfl) ?_);refine bj (fun(z:Nat×List Int×List Int)=>(⟨[(0,.l (.z (.slice (.int .i64)) a)),(1,.l (.z (.slice (.int .i64)) b)),(6,.l (.z (.int .i64) (n:Int))),(7,.l (.ownS 30)),(8,.l (.z (.slice (.int .i64)) z.2.2)),(9,.l (.z (.int .i64) ((z.1:Int)-1)))],[(30,.arr (.int .i64) 3 z.2.1)]⟩:aa)) (fun z=>D.DivPhi a b z.1 z.2.1 z.2.2) (fun z=>z.1) (List.length a-n,List.replicate (List.length a-n) 0,List.drop (List.length a-n) a) ?_ ?_ ?_;·refine q_l ?_;rw[hwl,Int.toNat_natCast,Int.toNat_natCast,List.take_length,List.length_replicate];exact⟨rfl,wo,rfl⟩
  ·exact D.div_start c1 c2 c3 hn (by omega)
  ·rintro⟨k,q,rest⟩ hz;(try dsimp only at hz);have hz1:=hz.hk;have hz2:=hz.hq;refine ak (s_g hG ?_);refine ao ?_ ?_
   ·intro hb1;(try simp only[decide_eq_true_eq] at hb1);obtain⟨i,rfl⟩:∃ i,k=i+1:=⟨k-1,by omega⟩;(have ei:((i+1:Nat):Int)-1=(i:Int):=by omega);rw[ei];have hrsl:=D.rest_len c2 c3 hz.hr;refine aq (ah ?_);refine ak (ar ?_);refine ct (fun(z:Unit)=>(⟨[(0,.l (.z (.slice (.int .i64)) a)),(1,.l (.z (.slice (.int .i64)) b)),(6,.l (.z (.int .i64) (n:Int))),(7,.l (.ownS 30)),(8,.l (.z (.slice (.int .i64)) (D.limbs (D.R1 a b i).toNat))),(9,.l (.z (.int .i64) (i:Int)))],[(30,.arr (.int .i64) 3 q)]⟩:aa)) (fun z=>True) ?_ ?_
    ·refine ag hG ?_ ?_
     ·(try simp only[ba]);exact⟨⟨by omega,by omega⟩,by unfold Cm.Roomy;omega,(D.cons_limbs c1.1 hp hz.hr).1,by unfold CAP;omega⟩
     show ∃ z,_;refine q_l ?_;rw[D.nth64,(D.cons_limbs c1.1 hp hz.hr).2]
    (rintro⟨⟩ hu;(try dsimp only at hu);have hrl:=D.r1_len (i:=i) c1.1 c2 c3 hn;have hrf:=D.r1_facts (i:=i) c1.1 hp;have hrc:=D.limbs_can (D.R1 a b i).toNat;have hdn:=D.div_next (d:=(D.R1 a b i/D.valL b)) c1.1 c2 c3 hz rfl;refine s_g hG ?_;refine ak (s_g hG ?_);refine ar (bj (fun(z:Nat×Int×Int)=>(⟨[(0,.l (.z (.slice (.int .i64)) a)),(1,.l (.z (.slice (.int .i64)) b)),(6,.l (.z (.int .i64) (n:Int))),(7,.l (.ownS 30)),(8,.l (.z (.slice (.int .i64)) (D.limbs (D.R1 a b i).toNat))),(9,.l (.z (.int .i64) (i:Int))),(10,.l (.z (.int .i64) z.2.1)),(11,.l (.z (.int .i64) z.2.2)),(12,.l (.z (.int .i64) ((z.1:Int)-1)))],[(30,.arr (.int .i64) 3 q)]⟩:aa)) (fun z=>D.TopPhi (D.limbs (D.R1 a b i).toNat) b n z.1 z.2.1 z.2.2) (fun z=>z.1) (n+2,0,0) ?_ ?_ ?_);·refine q_l ?_;rw[wo];show (n:Int)+1=((n+2:Nat):Int)-1;omega);·exact D.top_start hrl hn
    ·rintro⟨j,top,first⟩ hj;(try dsimp only at hj);have hj1:=hj.hj;refine ak (s_g hG ?_);refine ao ?_ ?_
     ·intro hb2;simp only[decide_eq_true_eq] at hb2;rw[hwn] at hb2;obtain⟨j,rfl⟩:∃ j2,j=j2+1:=⟨j-1,by omega⟩;(have ej:((j+1:Nat):Int)-1=(j:Int):=by omega);rw[ej];have htv:=D.top_vals hrc.1 hrl c2.1 hn hj (by omega);refine aq (ah ?_);refine ak (ar ?_);refine s_g hG ?_;refine ct (fun(z:Unit)=>(⟨[(0,.l (.z (.slice (.int .i64)) a)),(1,.l (.z (.slice (.int .i64)) b)),(6,.l (.z (.int .i64) (n:Int))),(7,.l (.ownS 30)),(8,.l (.z (.slice (.int .i64)) (D.limbs (D.R1 a b i).toNat))),(9,.l (.z (.int .i64) (i:Int))),(10,.l (.z (.int .i64) top)),(11,.l (.z (.int .i64) (D.valL (List.drop j (D.limbs (D.R1 a b i).toNat))))),(12,.l (.z (.int .i64) (j:Int)))],[(30,.arr (.int .i64) 3 q)]⟩:aa)) (fun z=>True) ?_ ?_
      ·refine s_g hG ?_;refine ao ?_ ?_
       ·intro hb3;(try simp only[bt] at hb3);refine ag hG ?_ ?_
        ·(try simp only[ba]);exact⟨by omega,hb3⟩
        show ∃ z,_;refine q_l ?_;first|(rw[D.nth64,htv.1,htv.2.1];exact htv.2.2.2.2.1)|(rw[htv.1];have h9:=htv.2.2.2.2.1;rw[D.getD_none (by omega),Int.add_zero] at h9;exact h9)
       ·intro hb3;(try simp only[bf] at hb3);refine aq ?_;show ∃ z,_;refine q_l ?_;first|(rw[D.nth64,htv.1,htv.2.1];exact htv.2.2.2.2.1)|(rw[htv.1];have h9:=htv.2.2.2.2.1;rw[D.getD_none (by omega),Int.add_zero] at h9;exact h9)
      rintro⟨⟩ hu2;(try dsimp only at hu2);refine s_g hG ?_;refine ao ?_ ?_
      ·intro hb4;(try simp only[bt] at hb4);refine ag hG ?_ ?_
       ·(try simp only[ba]);exact⟨by omega,by omega⟩
       (refine aK (ah ?_);refine ag hG ?_ ?_;·exact tt9);show ∃ z,_;refine q_l ?_;first|exact⟨j,wo,⟨by omega,by rw[D.nth64,htv.2.2.1,htv.2.2.2.1];exact htv.2.2.2.2.2.1 (by omega),rfl⟩,by omega⟩|exact⟨j,wo,⟨by omega,htv.2.2.2.2.2.2 (by omega),rfl⟩,by omega⟩
      ·(intro hb4;(try simp only[bf] at hb4);refine aq (aK ?_);refine ah (ag hG ?_ ?_);·exact tt9);show ∃ z,_;refine q_l ?_;first|exact⟨j,wo,⟨by omega,by rw[D.nth64,htv.2.2.1,htv.2.2.2.1];exact htv.2.2.2.2.2.1 (by omega),rfl⟩,by omega⟩|exact⟨j,wo,⟨by omega,htv.2.2.2.2.2.2 (by omega),rfl⟩,by omega⟩
     ·intro hb2;simp only[decide_eq_false_iff_not] at hb2;rw[hwn] at hb2;(obtain rfl:j=n-1:=by omega);obtain⟨hs1,hs2,hs3,hs4,hs5⟩:=D.half_start c1.1 c2 c3 hn hj.ht hj.hf;have hqf:=D.quo_facts hs1 hs2 hs3 hs4;refine aZ (aB ?_);refine av (au ?_);refine ah (ct (fun(z:Unit)=>(⟨[(0,.l (.z (.slice (.int .i64)) a)),(1,.l (.z (.slice (.int .i64)) b)),(6,.l (.z (.int .i64) (n:Int))),(7,.l (.ownS 30)),(8,.l (.z (.slice (.int .i64)) (D.limbs (D.R1 a b i).toNat))),(9,.l (.z (.int .i64) (i:Int))),(13,.l (.z (.int .i64) (first/(top+1)))),(14,.l (.z (.int .i64) (first/top)))],[(30,.arr (.int .i64) 3 q)]⟩:aa)) (fun z=>True) ?_ ?_)
      ·refine ib hG ?_ ?_
       ·(try simp only[ba]);rw[hqf.1];exact⟨hqf.2.1,hqf.2.2.1⟩
       show ∃ z,_;refine q_l ?_;rw[hqf.1];exact⟨hqf.2.2.2.1,hqf.2.2.2.2⟩
      (rintro⟨⟩ hu3;(try dsimp only at hu3);refine ak (ar ?_);refine bj (fun(z:Int×Int)=>(⟨[(0,.l (.z (.slice (.int .i64)) a)),(1,.l (.z (.slice (.int .i64)) b)),(6,.l (.z (.int .i64) (n:Int))),(7,.l (.ownS 30)),(8,.l (.z (.slice (.int .i64)) (D.limbs (D.R1 a b i).toNat))),(9,.l (.z (.int .i64) (i:Int))),(13,.l (.z (.int .i64) z.1)),(14,.l (.z (.int .i64) z.2))],[(30,.arr (.int .i64) 3 q)]⟩:aa)) (fun z=>D.HalfPhi (D.R1 a b i/D.valL b) z.1 z.2) (fun z=>(z.2-z.1).toNat) (first/(top+1),first/top) ?_ ?_ ?_;·simp only[ml0,ml1,Nat.reduceLT,Nat.reduceEqDiff,Nat.reduceAdd,Nat.reduceMul,Nat.reduceSub,Nat.reduceLeDiff,Nat.reduceBEq,Nat.reduceBNe,reduceIte,reduceDIte,reduceCtorEq]);·exact hs5
      ·rintro⟨low,high⟩ hh;(try dsimp only at hh);refine ak (s_g hG ?_);refine ao ?_ ?_
       ·intro hb5;(try simp only[decide_eq_true_eq] at hb5);have hhm:=D.half_mid hh hb5;refine aq (ah ?_);refine ar (ct (fun(z:Int)=>(⟨[(0,.l (.z (.slice (.int .i64)) a)),(1,.l (.z (.slice (.int .i64)) b)),(6,.l (.z (.int .i64) (n:Int))),(7,.l (.ownS 30)),(8,.l (.z (.slice (.int .i64)) (D.limbs (D.R1 a b i).toNat))),(9,.l (.z (.int .i64) (i:Int))),(13,.l (.z (.int .i64) low)),(14,.l (.z (.int .i64) high)),(15,.l (.z (.int .i64) z))],[(30,.arr (.int .i64) 3 q)]⟩:aa)) (fun z=>z=(low+high+1)/2) ?_ ?_)
        ·refine ag hG ?_ ?_
         ·(try simp only[ba]);decide
         show ∃ z,_;refine q_l ?_;exact hhm.1
        rintro mid hmid;(try dsimp only at hmid);(have hmm:low<mid/\mid<=high:=by rw[hmid];exact⟨hhm.2.1,hhm.2.2.1⟩);have hm0:0<=mid:=Int.le_trans hh.h0 (Int.le_of_lt hmm.1);have hmB:mid<=D.LB:=Int.le_trans hmm.2 hh.h3;have hht:=D.half_test (v:=D.R1 a b i) (mid:=mid) c2.1 hp hrf.1 hm0;have hol:=D.one_len c2.1 hm0 hmB;refine s_q hG ?_ ?_
        ·(try simp only[ba]);exact⟨⟨c2.1,D.wid_one hm0 hmB,by unfold CAP;omega⟩,D.limbs_can _,hrc,by unfold CAP;omega,by unfold CAP;omega⟩
        refine ao ?_ ?_
        ·(intro hb6;(try simp only[bt] at hb6);refine ag hG ?_ ?_;·exact tt9);refine aK ?_;show ∃ z,_;refine q_l ?_;first|exact D.half_up hh hmm (hht.1 hb6)|(rw[show IntKind.i64.wrap (mid-1)=mid-1 by rw[hmid];exact hhm.2.2.2];exact D.half_down hh hmm (fun h=>hb6 (hht.2 h)))
        ·(intro hb6;(try simp only[bf] at hb6);refine ag hG ?_ ?_;·exact tt9);refine aK ?_;show ∃ z,_;refine q_l ?_;first|exact D.half_up hh hmm (hht.1 hb6)|(rw[show IntKind.i64.wrap (mid-1)=mid-1 by rw[hmid];exact hhm.2.2.2];exact D.half_down hh hmm (fun h=>hb6 (hht.2 h)))
       ·intro hb5;simp only[decide_eq_false_iff_not] at hb5;have hle:=D.half_end hh hb5;subst hle;have hol:=D.one_len c2.1 hdn.1 (Int.le_of_lt hdn.2.1);have hrm:=D.rest_minus (i:=i) c1.1 c2 c3;refine aZ (aB ?_);refine av (au ?_);refine ah (s_q hG ?_ ?_)
        ·(try simp only[ba]);exact⟨⟨by omega,by omega⟩,by omega⟩
        refine s_g hG ?_;refine ao ?_ ?_
        ·intro hb7;(try simp only[bt] at hb7);refine ag hG ?_ ?_
         ·(try simp only[ba]);exact⟨⟨c2.1,D.wid_one hdn.1 (Int.le_of_lt hdn.2.1),by unfold CAP;omega⟩,hrc,D.limbs_can _,hrm.1,by unfold CAP;omega⟩
         (refine aK (ah ?_);refine ag hG ?_ ?_;·exact tt9);show ∃ z,_;refine q_l ?_;have hdx:=hdn.2.2;first|(rw[<- hrm.2] at hdx;exact⟨i,wo,by rw[Int.toNat_natCast];exact hdx,by omega⟩)|(rw[<- D.rest_zero c1.1 c2 c3 hb7] at hdx;exact⟨i,wo,by rw[Int.toNat_natCast];exact hdx,by omega⟩)
        ·(intro hb7;(try simp only[bf] at hb7);refine aq (aK ?_);refine ah (ag hG ?_ ?_);·exact tt9);show ∃ z,_;refine q_l ?_;have hdx:=hdn.2.2;first|(rw[<- hrm.2] at hdx;exact⟨i,wo,by rw[Int.toNat_natCast];exact hdx,by omega⟩)|(rw[<- D.rest_zero c1.1 c2 c3 hb7] at hdx;exact⟨i,wo,by rw[Int.toNat_natCast];exact hdx,by omega⟩)
   ·intro hb1;simp only[decide_eq_false_iff_not] at hb1;(obtain rfl:k=0:=by omega);have hde:=D.div_end hz;refine aZ (aB ?_);refine av (au ?_);refine ah (s_q hG ?_ ?_)
    ·(try simp only[ba]);exact⟨hz.hl,by unfold CAP;omega⟩
    refine ay (q_e [23] ?_);exact hde
def zZ(B:aj):Tab:={types:= [(3,(.int .i64)),(4,.bool),(9,.str),(181,(.slice (.int .i64)))],elems:= [],cons:= [(126,rq),(155,fE),(156,gO),(157,cM),(158,fJ),(159,zF),(160,gi),(161,mW)],hint:= [],N:=53,base:=B}
theorem Iu{B:aj}(hB:aC B):aI Tryz.prog (zZ B):=⟨⟨tc ty3 (tc ty4 (tc ty9 (tc jV (ae)))),af,by simp only[zZ,ioB];omega⟩,aG (cc Tryz.func126 (mq hB) (cc Tryz.func155 (o9 hB) (cc Tryz.func156 (kA hB) (cc Tryz.func157 (kz hB) (cc Tryz.func158 (mo hB) (cc Tryz.func159 (OV hB) (cc Tryz.func160 (wq hB) (cc Tryz.func161 (Cq hB) (aA))))))))),by kernel_rfl⟩
def yb:Con:=fun l os=>match l,os with
 | [.z .str a,.z .str b],[]=>some (RS 20000000000 a/\RS 20000000000 b,[.z .str (Lib.itoa (al a+al b))],[])
 |_,_=>none
theorem CA{B:aj}(hB:aC B):Valid B Tryz.prog 115 yb:=by
 refine ab (Iu hB).tab Tryz.func115 rfl rfl rfl ?_;intro args os C rs os' hc hC;unfold yb at hc;split at hc;case h_2=>cases hc
 rename_i a b;cases hc;refine v_h (Iu hB) fun X hP hT hr hG=> ?_;have hU:=zZ.eq_1;unfold zZ at hT;have hX:=ai @gi.eq_1<|ai @fE.eq_1<|ai @mW.eq_1<|ai @cM.eq_1<|ai @rq.eq_1<|ai @zF.eq_1<|ai @gO.eq_1<| @fJ.eq_1;simp only[Tryz.f115,aD,an,ioB];refine s_g hG ?_;refine ak (s_q hG ?_ ?_)
 ·try simp only[ba]
  exact⟨hC.1.1,hC.2.1,(hC.1.cap (by omega)).2,(hC.2.cap (by omega)).2⟩
 refine s_g hG ?_;refine ao ?_ ?_
 ·intro hb0;simp only[decide_eq_true_eq] at hb0;have hsm:=vy hC.1.1 hC.2.1 hb0;rw[if_pos hb0,if_pos hb0];refine s_q hG ?_ ?_
  ·(try simp only[ba]);rw[hsm.1];exact hsm.2.1
  refine ay (az ?_);refine q_e [] ?_;rw[hsm.1]
 ·intro hb0;have ha:=hC.1.cap (by omega);have hb:=hC.2.cap (by omega);have la:=ev hC.1;have lb:=ev hC.2;have hle:=Hc hC.1 hC.2;have hcap:CAP=1000000000000:=rfl;refine aq (ah ?_);refine s_q hG ?_ ?_
  ·(try simp only[ba]);exact⟨ha,hb⟩
  refine ak (s_q hG ?_ ?_)
  ·(try simp only[ba]);exact⟨ha.1,hb.1⟩
  refine ao ?_ ?_
  ·intro hb1;(try simp only[bt] at hb1);refine s_q hG ?_ ?_
   ·(try simp only[ba]);exact⟨ha.1,⟨la.1,lb.1,by omega,by omega⟩,D.limbs_can _,hle.1⟩
   refine ay (az ?_);refine q_e [] ?_;exact JS hb1
  ·intro hb1;(try simp only[bf] at hb1);refine aq (ah ?_);refine ak (s_q hG ?_ ?_)
   ·(try simp only[ba]);exact⟨la.1,lb.1,by omega,by omega⟩
   refine ao ?_ ?_
   ·intro hb2;(try simp only[bt] at hb2);refine s_q hG ?_ ?_
    ·(try simp only[ba]);have hge:=Hd hb1 hb2;exact⟨ha.1,⟨la.1,lb.1,hge.1,by omega⟩,D.limbs_can _,hle.2.1⟩
    refine ay (az ?_);refine q_e [] ?_;exact(Hd hb1 hb2).2
   ·intro hb2;(try simp only[bf] at hb2);refine aq (ah ?_);refine s_q hG ?_ ?_
    ·(try simp only[ba]);have hlt:=He hb1 hb2;exact⟨hb.1,⟨lb.1,la.1,hlt.1,by omega⟩,D.limbs_can _,hle.2.2.1⟩
    refine ay (q_e [] ?_);exact(He hb1 hb2).2
def z6(B:aj):Tab:={types:= [(9,.str)],elems:= [],cons:= [(115,yb),(163,ya)],hint:= [],N:=9,base:=B}
theorem Iv{B:aj}(hB:aC B):aI Tryz.prog (z6 B):=⟨⟨tc ty9 (ae),af,by simp only[z6,ioB];omega⟩,aG (cc Tryz.func115 (CA hB) (cc Tryz.func163 (Cw hB) (aA))),by kernel_rfl⟩
def yc:Con:=fun l os=>match l,os with
 | [.z .str a,.z .str b],[]=>some (RS 10000000000 a/\RS 10000000000 b,[.z .str (Lib.itoa (al a-al b))],[])
 |_,_=>none
theorem CB{B:aj}(hB:aC B):Valid B Tryz.prog 123 yc:=by
 refine ab (Iv hB).tab Tryz.func123 rfl rfl rfl ?_;intro args os C rs os' hc hC;unfold yc at hc;split at hc;case h_2=>cases hc
 rename_i a b;cases hc;refine v_h (Iv hB) fun X hP hT hr hG=> ?_;have hU:=z6.eq_1;unfold z6 at hT;have hX:=ai @yb.eq_1<| @ya.eq_1;simp only[Tryz.f123,aD,an,ioB];refine s_g hG ?_;refine s_q hG ?_ ?_
 ·try simp only[ba]
  have h2:=hC.2.2;exact⟨⟨hC.2.1,by have hcap:CAP=1000000000000:=rfl;omega⟩,hC.1.up (by omega),(S0 hC.2).1.up (by omega)⟩
 refine ay (q_e [] ?_);exact QG
def z7(B:aj):Tab:={types:= [(3,(.int .i64)),(4,.bool),(9,.str),(181,(.slice (.int .i64)))],elems:= [],cons:= [(126,rq),(155,fE),(156,gO),(157,cM),(158,fJ),(164,mX)],hint:= [],N:=31,base:=B}
theorem Iw{B:aj}(hB:aC B):aI Tryz.prog (z7 B):=⟨⟨tc ty3 (tc ty4 (tc ty9 (tc jV (ae)))),af,by simp only[z7,ioB];omega⟩,aG (cc Tryz.func126 (mq hB) (cc Tryz.func155 (o9 hB) (cc Tryz.func156 (kA hB) (cc Tryz.func157 (kz hB) (cc Tryz.func158 (mo hB) (cc Tryz.func164 (Cr hB) (aA))))))),by kernel_rfl⟩
def lI:Con:=fun l os=>match l,os with
 | [.z .str a,.z .str b],[]=>some (RS 20000000000 a/\RS 20000000000 b,[.z .str (Lib.itoa (al a*al b))],[])
 |_,_=>none
theorem mr{B:aj}(hB:aC B):Valid B Tryz.prog 117 lI:=by
 refine ab (Iw hB).tab Tryz.func117 rfl rfl rfl ?_;intro args os C rs os' hc hC;unfold lI at hc;split at hc;case h_2=>cases hc
 rename_i a b;cases hc;refine v_h (Iw hB) fun X hP hT hr hG=> ?_;have hU:=z7.eq_1;unfold z7 at hT;have hX:=ai @fE.eq_1<|ai @cM.eq_1<|ai @rq.eq_1<|ai @gO.eq_1<|ai @mX.eq_1<| @fJ.eq_1;simp only[Tryz.f117,aD,an,ioB];refine s_g hG ?_;refine ak (s_q hG ?_ ?_)
 ·try simp only[ba]
  exact⟨hC.1.1,hC.2.1,(hC.1.cap (by omega)).2,(hC.2.cap (by omega)).2⟩
 refine s_g hG ?_;refine ao ?_ ?_
 ·intro hb0;simp only[decide_eq_true_eq] at hb0;have hsm:=vy hC.1.1 hC.2.1 hb0;rw[if_pos hb0,if_pos hb0];refine s_q hG ?_ ?_
  ·(try simp only[ba]);rw[hsm.2.2.1];exact hsm.2.2.2
  refine ay (az ?_);refine q_e [] ?_;rw[hsm.2.2.1]
 ·intro hb0;have ha:=hC.1.cap (by omega);have hb:=hC.2.cap (by omega);have la:=ev hC.1;have lb:=ev hC.2;have hle:=Hc hC.1 hC.2;have hcap:CAP=1000000000000:=rfl;refine aq (ah ?_);refine s_q hG ?_ ?_
  ·(try simp only[ba]);exact⟨ha.1,hb.1,ha,hb,⟨la.1.1,lb.1.1.wid,by omega⟩,D.limbs_can _,hle.2.2.2⟩
  refine ay (q_e [] ?_);exact QI
def z8(B:aj):Tab:={types:= [(3,(.int .i64)),(4,.bool),(9,.str),(181,(.slice (.int .i64)))],elems:= [],cons:= [(117,lI),(123,yc),(126,rq),(155,fE),(156,gO),(157,cM),(158,fJ),(165,kB)],hint:= [],N:=78,base:=B}
theorem Ix{B:aj}(hB:aC B):aI Tryz.prog (z8 B):=⟨⟨tc ty3 (tc ty4 (tc ty9 (tc jV (ae)))),af,by simp only[z8,ioB];omega⟩,aG (cc Tryz.func117 (mr hB) (cc Tryz.func123 (CB hB) (cc Tryz.func126 (mq hB) (cc Tryz.func155 (o9 hB) (cc Tryz.func156 (kA hB) (cc Tryz.func157 (kz hB) (cc Tryz.func158 (mo hB) (cc Tryz.func165 (Cz hB) (aA))))))))),by kernel_rfl⟩
def yd:Con:=fun l os=>match l,os with
 | [.z .str a,.z .str b],[]=>some (RS 1000000000 a/\RS 1000000000 b/\al b≠0,[.z .str (Lib.itoa (bN (al a) (al b))),.z .str (Lib.itoa (kc (al a) (al b)))],[])
 |_,_=>none
theorem CC{B:aj}(hB:aC B):Valid B Tryz.prog 121 yd:=by
 refine ab (Ix hB).tab Tryz.func121 rfl rfl rfl ?_;intro args os C rs os' hc hC;unfold yd at hc;split at hc;case h_2=>cases hc
 rename_i a b;cases hc;refine v_h (Ix hB) fun X hP hT hr hG=> ?_;have hU:=z8.eq_1;unfold z8 at hT;have hX:=ai @kB.eq_1<|ai @fE.eq_1<|ai @lI.eq_1<|ai @cM.eq_1<|ai @rq.eq_1<|ai @gO.eq_1<|ai @yc.eq_1<| @fJ.eq_1;simp only[Tryz.f121,aD,an,ioB];refine s_g hG ?_;refine ak (s_q hG ?_ ?_)
 ·try simp only[ba]
  exact⟨hC.1.1,hC.2.1.1,(hC.1.cap (by omega)).2,(hC.2.1.cap (by omega)).2⟩
 refine s_g hG ?_;refine ao ?_ ?_
 ·intro hb0;simp only[decide_eq_true_eq] at hb0;rw[if_pos hb0,if_pos hb0];have hsm:=Fo hC.1.1 hC.2.1.1 hb0 hC.2.2;refine s_q hG ?_ ?_
  ·(try simp only[ba]);exact hC.2.2
  refine ct (fun(z:Unit)=>(⟨[(0,.l (.z .str a)),(1,.l (.z .str b)),(6,.l (.z (.int .i64) (al a))),(7,.l (.z (.int .i64) (al b))),(9,.l (.z (.int .i64) (bN (al a) (al b))))],[]⟩:aa)) (fun z=>True) ?_ ?_
  ·refine s_q hG ?_ ?_
   ·(try simp only[ba]);exact⟨hC.2.2,fun h=>h⟩
   refine ao ?_ ?_
   ·(intro hb1;(try simp only[bt] at hb1);refine ag hG ?_ ?_;·exact tt9);show ∃ z,_;refine q_l ?_;first|exact hsm.1 hb1|exact hsm.2.1 hb1
   ·intro hb1;(try simp only[bf] at hb1);refine aq ?_;show ∃ z,_;refine q_l ?_;first|exact hsm.1 hb1|exact hsm.2.1 hb1
  rintro⟨⟩ hu;try dsimp only at hu
  refine s_q hG ?_ ?_
  ·(try simp only[ba]);rw[hsm.2.2.2.1];exact⟨hsm.2.2.1,hsm.2.2.2.2⟩
  refine ay (az ?_);refine q_e [] ?_;rw[hsm.2.2.2.1]
 ·intro hb0;obtain⟨c1,c2,c3⟩:=hC;have ha:=c1.cap (by omega);have hb:=c2.cap (by omega);have la:=ev c1;have lb:=ev c2;have hln:=Nd (al a) (al b);have hrq:=TX (b:=b) c1 c3;have hrm:=TY c1 c2 c3;have hcap:CAP=1000000000000:=rfl;have hqf:=vz (x:=al a) c3;refine aq (ah ?_);refine s_q hG ?_ ?_
  ·(try simp only[ba]);exact⟨ha,hb,la.1,lb.1,D.ne_limbs c3,by omega⟩
  refine s_q hG ?_ ?_
  ·(try simp only[ba]);exact⟨ha.1,hb.1,D.limbs_can _,by omega⟩
  refine ct (fun(z:Unit)=>(⟨[(0,.l (.z .str a)),(1,.l (.z .str b)),(12,.l (.z .str (Lib.itoa (bN (al a) (al b)))))],[]⟩:aa)) (fun z=>True) ?_ ?_
  ·refine s_q hG ?_ ?_
   ·(try simp only[ba]);exact⟨fun h=>⟨h,c1.1⟩,fun h=>⟨h,c2.1⟩,fun h=>h⟩
   refine ao ?_ ?_
   ·intro hb2;(try simp only[bt] at hb2);refine ag hG ?_ ?_
    ·(try simp only[ba]);exact⟨hrq.1.up (by omega),Fm.1.up (by omega)⟩
    show ∃ z,_;refine q_l ?_;rw[xC] at hb2;first|(rw[<- hqf.2.1 hb2,Fm.2,(aJ _).2];rfl)|(rw[<- hqf.2.2 hb2];rfl)
   ·intro hb2;(try simp only[bf] at hb2);refine aq ?_;show ∃ z,_;refine q_l ?_;rw[xC] at hb2;first|(rw[<- hqf.2.1 hb2,Fm.2,(aJ _).2];rfl)|(rw[<- hqf.2.2 hb2];rfl)
  rintro⟨⟩ hu2;try dsimp only at hu2
  refine s_q hG ?_ ?_
  ·(try simp only[ba]);rw[(aJ _).2];exact⟨⟨hrq.2.up (by omega),c2.up (by omega)⟩,c1.up (by omega),hrm.up (by omega)⟩
  refine ay (q_e [] ?_);rw[(aJ _).2,(aJ _).2,Int.mul_comm];rfl
def Aa(B:aj):Tab:={types:= [(3,(.int .i64)),(4,.bool),(9,.str),(181,(.slice (.int .i64)))],elems:= [],cons:= [(126,rq),(155,fE),(156,gO),(158,fJ),(165,kB)],hint:= [],N:=50,base:=B}
theorem Iy{B:aj}(hB:aC B):aI Tryz.prog (Aa B):=⟨⟨tc ty3 (tc ty4 (tc ty9 (tc jV (ae)))),af,by simp only[Aa,ioB];omega⟩,aG (cc Tryz.func126 (mq hB) (cc Tryz.func155 (o9 hB) (cc Tryz.func156 (kA hB) (cc Tryz.func158 (mo hB) (cc Tryz.func165 (Cz hB) (aA)))))),by kernel_rfl⟩
def rb:Con:=fun l os=>match l,os with
 | [.z .str a,.z .str b],[]=>some (RS 1000000000 a/\RS 1000000000 b,[.z .str (Lib.itoa (cg (al a) (al b)))],[])
 |_,_=>none
theorem wv{B:aj}(hB:aC B):Valid B Tryz.prog 122 rb:=by
 refine ab (Iy hB).tab Tryz.func122 rfl rfl rfl ?_;intro args os C rs os' hc hC;unfold rb at hc;split at hc;case h_2=>cases hc
 rename_i a b;cases hc;refine v_h (Iy hB) fun X hP hT hr hG=> ?_;have hU:=Aa.eq_1;unfold Aa at hT;have hX:=ai @kB.eq_1<|ai @fE.eq_1<|ai @rq.eq_1<|ai @gO.eq_1<| @fJ.eq_1;simp only[Tryz.f122,aD,an,ioB];refine s_g hG ?_;refine ak (s_q hG ?_ ?_)
 ·try simp only[ba]
  exact⟨hC.1.1,hC.2.1,(hC.1.cap (by omega)).2,(hC.2.cap (by omega)).2⟩
 refine s_g hG ?_;refine ao ?_ ?_
 ·intro hb0;simp only[decide_eq_true_eq] at hb0;rw[if_pos hb0,if_pos hb0];have ha:=jg hC.1.1 hb0.1;have hb:=jg hC.2.1 hb0.2;refine ak (ar ?_);refine bj (fun(z:Int×Int)=>(⟨[(0,.l (.z .str a)),(1,.l (.z .str b)),(5,.l (.z (.int .i64) z.1)),(6,.l (.z (.int .i64) z.2))],[]⟩:aa)) (fun z=>xD (cg (al a) (al b)) z.1 z.2) (fun z=>z.2.natAbs) (al a,al b) ?_ ?_ ?_;·simp only[ml0,ml1,Nat.reduceLT,Nat.reduceEqDiff,Nat.reduceAdd,Nat.reduceMul,Nat.reduceSub,Nat.reduceLeDiff,Nat.reduceBEq,Nat.reduceBNe,reduceIte,reduceDIte,reduceCtorEq]
  ·exact Ng ha hb
  ·rintro⟨x,y⟩ hz;(try dsimp only at hz);refine ak (s_g hG ?_);refine ao ?_ ?_
   ·intro hb1;(try simp only[bt] at hb1);refine aq (ah ?_);refine ar (s_q hG ?_ ?_)
    ·(try simp only[ba]);exact hb1
    (refine s_g hG ?_;refine ag hG ?_ ?_;·exact tt9);refine aK ?_;show ∃ z,_;refine q_l ?_;exact QJ hz hb1
   ·intro hb1;(try simp only[bf] at hb1);refine aZ (aB ?_);refine av (au ?_);refine ah (s_q hG ?_ ?_)
    ·(try simp only[ba]);subst hb1;exact(Ni hz).1
    refine ay (az ?_);refine q_e [] ?_;subst hb1;rw[(Ni hz).2]
 ·intro hb0;obtain⟨c1,c2⟩:=hC;have ha:=c1.cap (by omega);have hb:=c2.cap (by omega);have la:=ev c1;have lb:=ev c2;have hcap:CAP=1000000000000:=rfl;refine aq (ah ?_);refine s_q hG ?_ ?_
  ·(try simp only[ba]);exact⟨ha,hb⟩
  refine ak (ar ?_);refine bj (fun(z:List Int×List Int)=>(⟨[(9,.l (.z (.slice (.int .i64)) z.1)),(10,.l (.z (.slice (.int .i64)) z.2))],[]⟩:aa)) (fun z=>BG (cg (al a) (al b)) z.1 z.2) (fun z=>(D.valL z.2).natAbs) (D.limbs (al a).natAbs,D.limbs (al b).natAbs) ?_ ?_ ?_;·simp only[ml0,ml1,Nat.reduceLT,Nat.reduceEqDiff,Nat.reduceAdd,Nat.reduceMul,Nat.reduceSub,Nat.reduceLeDiff,Nat.reduceBEq,Nat.reduceBNe,reduceIte,reduceDIte,reduceCtorEq]
  ·exact Nh c1 c2
  ·rintro⟨x,y⟩ hz;(try dsimp only at hz);refine ak (s_g hG ?_);refine ao ?_ ?_
   ·intro hb2;(try simp only[bt] at hb2);refine aq (ah ?_);refine ar (s_q hG ?_ ?_)
    ·(try simp only[ba]);have lx:=hz.lx;have ly:=hz.ly;exact⟨hz.hx,hz.hy,(by rintro rfl;simp at hb2),by omega⟩
    (refine s_g hG ?_;refine ag hG ?_ ?_;·exact tt9);refine aK ?_;show ∃ z,_;refine q_l ?_;exact QN hz hb2
   ·intro hb2;(try simp only[bf] at hb2);refine aZ (aB ?_);refine av (au ?_);refine ah (s_q hG ?_ ?_)
    ·(try simp only[ba]);have lx:=hz.lx;exact⟨hz.hx,by omega⟩
    refine ay (q_e [] ?_);rw[S2 hz hb2]
def rM(B:aj):Tab:={types:= [(3,(.int .i64)),(5,(.int .u8)),(9,.str)],elems:= [],cons:= [],hint:= [],N:=24,base:=B}
theorem CD{B:aj}(hB:aC B):aI Tryz.prog (rM B):=⟨⟨tc ty3 (tc ty5 (tc ty9 (ae))),af,by simp only[rM,ioB];omega⟩,bI rfl,by kernel_rfl⟩
def ye:Con:=fun l os=>match l,os with
 | [.z .str s],[]=>some (s.length<=QL,[.z .str (tN s),.z .str (tD s),.z .bool (bJ s)],[])
 |_,_=>none
theorem yf{B:aj}(hB:aC B):Valid B Tryz.prog 134 ye:=by
 refine ab (CD hB).tab Tryz.func134 rfl rfl rfl ?_;intro args os C rs os' hc hC;unfold ye at hc;split at hc;case h_2=>cases hc
 rename_i s;cases hc;refine v_h (CD hB) fun X hP hT hr hG=> ?_;have hU:=rM.eq_1;unfold rM at hT;have hX:=Bool.not_true;simp only[Tryz.f134,aD,an,ioB];have hl:s.length<=1000000000:=hC;refine s_g hG ?_;refine ak (s_g hG ?_);refine ar (bj (fun(z:Nat)=>(⟨[(0,.l (.z .str s)),(2,.l (.z .str [])),(3,.l (.z .str [])),(4,.l (.z .bool false)),(5,.l (.z (.int .i64) (z:Int)))],[]⟩:aa)) (fun z=>z<=s.length/\(s.take z).all (· !=47)=true) (fun z=>s.length-z) 0 ?_ ?_ ?_);·refine q_l ?_;rfl
 ·exact⟨by omega,by simp⟩
 ·rintro k ⟨g1,g2⟩;try dsimp only at g1 g2
  refine ak (s_g hG ?_);refine ao ?_ ?_
  ·intro hb0;(try simp only[bt] at hb0);(have hk:k<s.length:=by have h9:(k:Int)<(s.length:Int):=hb0;omega);refine aq (ah ?_);refine ak (ar ?_);refine s_g hG ?_;refine ao ?_ ?_
   ·intro hb1;(try simp only[bt] at hb1);refine s_d hG ?_ ?_
    ·(try simp only[ba]);exact KB hl hk
    refine ay (bl ?_);refine az (c6 ?_);refine bl (az ?_);refine q_e [] ?_;exact Cb hl hk g2 (Hz.1 hb1)
   ·(intro hb1;(try simp only[bf] at hb1);refine aq (aK ?_);refine ah (ag hG ?_ ?_);·exact tt9);show ∃ z,_;refine q_l ?_;exact⟨k+1,wo,hk,Kr hk g2 (fun e=>hb1 (Hz.2 e)),by omega⟩
  ·intro hb0;(try simp only[bf] at hb0);(have hk: ¬k<s.length:=by have h9: ¬ (k:Int)<(s.length:Int):=hb0;omega);refine aZ (aB ?_);refine av (au ?_);refine ah (s_g hG ?_);refine ay (q_e [] ?_);exact Om hk g2
def rN(B:aj):Tab:={types:= [(3,(.int .i64)),(9,.str)],elems:= [],cons:= [(122,rb),(134,ye),(135,rL),(136,Iq)],hint:= [],N:=33,base:=B}
theorem CE{B:aj}(hB:aC B):aI Tryz.prog (rN B):=⟨⟨tc ty3 (tc ty9 (ae)),af,by simp only[rN,ioB];omega⟩,aG (cc Tryz.func122 (wv hB) (cc Tryz.func134 (yf hB) (cc Tryz.func135 (Pj hB) (cc Tryz.func136 (Pk hB) (aA))))),by kernel_rfl⟩
def rO:Con:=fun l os=>match l,os with
 | [.z .str q],[]=>some (q.length<=QL,[.z .bool (decide (cx q≠5))],[])
 |_,_=>none
theorem KT{B:aj}(hB:aC B):Valid B Tryz.prog 91 rO:=by
 refine ab (CE hB).tab Tryz.func91 rfl rfl rfl ?_;intro args os C rs os' hc hC;unfold rO at hc;split at hc;case h_2=>cases hc
 rename_i q;cases hc;refine v_h (CE hB) fun X hP hT hr hG=> ?_;have hU:=rN.eq_1;unfold rN at hT;have hX:=ai @ye.eq_1<|ai @Iq.eq_1<|ai @rb.eq_1<| @rL.eq_1;simp only[Tryz.f91,aD,an,ioB];refine s_g hG ?_;refine s_q hG ?_ ?_
 ·try simp only[ba]
  exact hC
 refine ak (s_q hG ?_ ?_)
 ·try simp only[ba]
  exact Cc hC
 refine ao ?_ ?_;·intro hb0;have hF:=OA hb0;refine s_g hG ?_;refine ay (az ?_);refine q_e [] ?_;exact FS hF
 ·intro hb0;have hF:=OB hb0;refine aq (ah ?_);refine s_q hG ?_ ?_
  ·(try simp only[ba]);exact Cd hC hF
  refine ay (q_e [] ?_);exact Kt hF
def rP(B:aj):Tab:={types:= [(9,.str)],elems:= [],cons:= [(134,ye)],hint:= [],N:=15,base:=B}
theorem CF{B:aj}(hB:aC B):aI Tryz.prog (rP B):=⟨⟨tc ty9 (ae),af,by simp only[rP,ioB];omega⟩,aG (cc Tryz.func134 (yf hB) (aA)),by kernel_rfl⟩
def fK:Con:=fun l os=>match l,os with
 | [.z .str q],[]=>some (q.length<=QL,[.z .str (tN q),.z .str (tD q)],[])
 |_,_=>none
theorem kC{B:aj}(hB:aC B):Valid B Tryz.prog 92 fK:=by
 refine ab (CF hB).tab Tryz.func92 rfl rfl rfl ?_;intro args os C rs os' hc hC;unfold fK at hc;split at hc;case h_2=>cases hc
 rename_i q;cases hc;refine v_h (CF hB) fun X hP hT hr hG=> ?_;have hU:=rP.eq_1;unfold rP at hT;have hX:= @ye.eq_1;simp only[Tryz.f92,aD,an,ioB];refine s_g hG ?_;refine s_q hG ?_ ?_
 ·try simp only[ba]
  exact hC
 refine s_g hG ?_;refine ay (q_e [] ?_);trivial
def rQ(B:aj):Tab:={types:= [(3,(.int .i64)),(9,.str),(46,.str)],elems:= [],cons:= [(92,fK),(93,o8)],hint:= [],N:=22,base:=B}
theorem CG{B:aj}(hB:aC B):aI Tryz.prog (rQ B):=⟨⟨tc ty3 (tc ty9 (tc iI (ae))),af,by simp only[rQ,ioB];omega⟩,aG (cc Tryz.func92 (kC hB) (cc Tryz.func93 (OW hB) (aA))),by kernel_rfl⟩
def qd:Con:=fun l os=>match l,os with
 | [.z .str q,.z (.int .i64) k],[]=>some (e9 q,[.z .bool (decide (c7 (al (tN q))<=k/\c7 (al (tD q))<=k))],[])
 |_,_=>none
theorem yg{B:aj}(hB:aC B):Valid B Tryz.prog 39 qd:=by
 refine ab (CG hB).tab Tryz.func39 rfl rfl rfl ?_;intro args os C rs os' hc hC;unfold qd at hc;split at hc;case h_2=>cases hc
 rename_i q k;cases hc;refine v_h (CG hB) fun X hP hT hr hG=> ?_;have hU:=rQ.eq_1;unfold rQ at hT;have hX:=ai @fK.eq_1<| @o8.eq_1;simp only[Tryz.f39,aD,an,ioB];refine s_g hG ?_;refine s_q hG ?_ ?_
 ·try simp only[ba]
  exact hC.2.2
 refine s_q hG ?_ ?_
 ·try simp only[ba]
  exact FT hC
 refine ay (q_e [] ?_);exact(Bool.decide_and _ _).symm
def rR(B:aj):Tab:={types:= [(3,(.int .i64)),(46,.str)],elems:= [],cons:= [(39,qd),(91,rO)],hint:= [],N:=9,base:=B}
theorem CH{B:aj}(hB:aC B):aI Tryz.prog (rR B):=⟨⟨tc ty3 (tc iI (ae)),af,by simp only[rR,ioB];omega⟩,aG (cc Tryz.func39 (yg hB) (cc Tryz.func91 (KT hB) (aA))),by kernel_rfl⟩
def rS:Con:=fun l os=>match l,os with
 | [.z .str q],[]=>some (q.length<=QL,[.z (.int .i64) (cx q)],[])
 |_,_=>none
theorem KU{B:aj}(hB:aC B):Valid B Tryz.prog 37 rS:=by
 refine ab (CH hB).tab Tryz.func37 rfl rfl rfl ?_;intro args os C rs os' hc hC;unfold rS at hc;split at hc;case h_2=>cases hc
 rename_i q;cases hc;refine v_h (CH hB) fun X hP hT hr hG=> ?_;have hU:=rR.eq_1;unfold rR at hT;have hX:=ai @qd.eq_1<| @rO.eq_1;simp only[Tryz.f37,aD,an,ioB];refine s_g hG ?_;refine ak (s_q hG ?_ ?_)
 ·try simp only[ba]
  exact hC
 refine ao ?_ ?_
 ·intro hb0;try simp only[bt] at hb0
  refine s_g hG ?_;refine ay (az ?_);refine q_e [] ?_;exact Rj hb0
 ·intro hb0;try simp only[bf] at hb0
  refine aq (ah ?_);refine ak (s_q hG ?_ ?_)
  ·(try simp only[ba]);exact FU hb0 hC
  refine ao ?_ ?_;·intro hb1;(try simp only[bt] at hb1);refine s_g hG ?_;refine ay (az ?_);refine q_e [] ?_;exact Rk hb0 hC hb1
  ·intro hb1;(try simp only[bf] at hb1);refine aq (ah ?_);refine s_g hG ?_;refine ay (q_e [] ?_);exact Rl hb0 hC hb1
def rT(B:aj):Tab:={types:= [(3,(.int .i64)),(9,.str)],elems:= [],cons:= [(121,yd),(122,rb),(162,qc),(163,ya)],hint:= [],N:=33,base:=B}
theorem CI{B:aj}(hB:aC B):aI Tryz.prog (rT B):=⟨⟨tc ty3 (tc ty9 (ae)),af,by simp only[rT,ioB];omega⟩,aG (cc Tryz.func121 (CC hB) (cc Tryz.func122 (wv hB) (cc Tryz.func162 (Cy hB) (cc Tryz.func163 (Cw hB) (aA))))),by kernel_rfl⟩
def iL:Con:=fun l os=>match l,os with
 | [.z .str n,.z .str d],[]=>some (MkR n d,[.z .str (aU (Rat.divInt (al n) (al d)))],[])
 |_,_=>none
theorem kD{B:aj}(hB:aC B):Valid B Tryz.prog 116 iL:=by
 refine ab (CI hB).tab Tryz.func116 rfl rfl rfl ?_;intro args os C rs os' hc hC;unfold iL at hc;split at hc;case h_2=>cases hc
 rename_i n d;cases hc;refine v_h (CI hB) fun X hP hT hr hG=> ?_;have hU:=rT.eq_1;unfold rT at hT;have hX:=ai @yd.eq_1<|ai @rb.eq_1<|ai @ya.eq_1<| @qc.eq_1;simp only[Tryz.f116,aD,an,ioB];refine s_g hG ?_;refine s_q hG ?_ ?_
 ·try simp only[ba]
  exact p8 hC
 refine ct (fun(z:Unit)=>(⟨[(0,.l (.z .str n)),(1,.l (.z .str d)),(4,.l (.z .str [])),(5,.l (.z .str (Lib.itoa (dP (al n) (al d)))))],[]⟩:aa)) (fun z=>True) ?_ ?_
 ·refine s_q hG ?_ ?_
  ·(try simp only[ba]);exact hC.2.1.1
  refine ao ?_ ?_
  ·intro hb0;(try simp only[bt] at hb0);refine ag hG ?_ ?_
   ·(try simp only[ba]);exact Ku hC
   show ∃ z,_;refine q_l ?_;first|exact Hw (rH.1 hb0)|exact Hx (fun e=>hb0 (rH.2 e))
  ·intro hb0;(try simp only[bf] at hb0);refine aq ?_;show ∃ z,_;refine q_l ?_;first|exact Hw (rH.1 hb0)|exact Hx (fun e=>hb0 (rH.2 e))
 rintro⟨⟩-;refine s_q hG ?_ ?_
 ·try simp only[ba]
  exact x5 hC
 refine s_q hG ?_ ?_
 ·try simp only[ba]
  exact Kv hC
 refine ak (s_g hG ?_);refine ao ?_ ?_
 ·intro hb1;try simp only[bt] at hb1
  refine s_g hG ?_;refine ay (az ?_);refine q_e [] ?_;exact Rn hC hb1
 ·intro hb1;try simp only[bf] at hb1
  refine aq (ah ?_);refine s_q hG ?_ ?_
  ·(try simp only[ba]);exact Kw hC
  refine ay (q_e [] ?_);exact Ro hC hb1
def rU(B:aj):Tab:={types:= [(3,(.int .i64)),(9,.str)],elems:= [],cons:= [(116,iL),(126,rq)],hint:= [],N:=10,base:=B}
theorem CJ{B:aj}(hB:aC B):aI Tryz.prog (rU B):=⟨⟨tc ty3 (tc ty9 (ae)),af,by simp only[rU,ioB];omega⟩,aG (cc Tryz.func116 (kD hB) (cc Tryz.func126 (mq hB) (aA))),by kernel_rfl⟩
def R7:Con:=fun l os=>match l,os with
 | [.z (.int .i64) n,.z (.int .i64) d],[]=>some (I64 n/\I64 d/\d≠0,[.z .str (aU (Rat.divInt n d))],[])
 |_,_=>none
theorem KV{B:aj}(hB:aC B):Valid B Tryz.prog 85 R7:=by
 refine ab (CJ hB).tab Tryz.func85 rfl rfl rfl ?_;intro args os C rs os' hc hC;unfold R7 at hc;split at hc;case h_2=>cases hc
 rename_i n d;cases hc;refine v_h (CJ hB) fun X hP hT hr hG=> ?_;have hU:=rU.eq_1;unfold rU at hT;have hX:=ai @iL.eq_1<| @rq.eq_1;simp only[Tryz.f85,aD,an,ioB];refine s_g hG ?_;refine s_q hG ?_ ?_
 ·try simp only[ba]
  exact Oo hC
 refine ay (q_e [] ?_);exact Rp
def rV(B:aj):Tab:={types:= [(9,.str),(46,.str)],elems:= [],cons:= [(92,fK),(115,yb),(116,iL),(117,lI)],hint:= [],N:=39,base:=B}
theorem CK{B:aj}(hB:aC B):aI Tryz.prog (rV B):=⟨⟨tc ty9 (tc iI (ae)),af,by simp only[rV,ioB];omega⟩,aG (cc Tryz.func92 (kC hB) (cc Tryz.func115 (CA hB) (cc Tryz.func116 (kD hB) (cc Tryz.func117 (mr hB) (aA))))),by kernel_rfl⟩
def Iz:Con:=fun l os=>match l,os with
 | [.z .str a,.z .str b],[]=>some (GQ QK a/\GQ QK b,[.z .str (aU (bm a+bm b))],[])
 |_,_=>none
theorem KW{B:aj}(hB:aC B):Valid B Tryz.prog 62 Iz:=by
 refine ab (CK hB).tab Tryz.func62 rfl rfl rfl ?_;intro args os C rs os' hc hC;unfold Iz at hc;split at hc;case h_2=>cases hc
 rename_i a b;cases hc;refine v_h (CK hB) fun X hP hT hr hG=> ?_;have hU:=rV.eq_1;unfold rV at hT;have hX:=ai @iL.eq_1<|ai @fK.eq_1<|ai @yb.eq_1<| @lI.eq_1;simp only[Tryz.f62,aD,an,ioB];refine s_g hG ?_;refine s_q hG ?_ ?_
 ·try simp only[ba]
  exact Ce hC.1
 refine s_q hG ?_ ?_
 ·try simp only[ba]
  exact Ce hC.2
 refine ak (s_g hG ?_);refine ao ?_ ?_
 ·intro hb0;try simp only[bt] at hb0
  refine s_q hG ?_ ?_
  ·(try simp only[ba]);exact⟨(gM hC.1).1,(gM hC.2).1⟩
  refine ay (az ?_);refine q_e [] ?_;exact Oq hC.1 hC.2 hb0
 ·intro hb0;try simp only[bf] at hb0
  refine aq (ah ?_);refine s_q hG ?_ ?_
  ·(try simp only[ba]);exact Kx hC.1 hC.2
  refine ay (q_e [] ?_);exact Ou hC.1 hC.2
def rW(B:aj):Tab:={types:= [(9,.str),(46,.str)],elems:= [],cons:= [(92,fK),(116,iL),(117,lI)],hint:= [],N:=35,base:=B}
theorem CL{B:aj}(hB:aC B):aI Tryz.prog (rW B):=⟨⟨tc ty9 (tc iI (ae)),af,by simp only[rW,ioB];omega⟩,aG (cc Tryz.func92 (kC hB) (cc Tryz.func116 (kD hB) (cc Tryz.func117 (mr hB) (aA)))),by kernel_rfl⟩
def re:Con:=fun l os=>match l,os with
 | [.z .str a,.z .str b],[]=>some (GQ QK a/\GQ QK b,[.z .str (aU (bm a*bm b))],[])
 |_,_=>none
theorem qe{B:aj}(hB:aC B):Valid B Tryz.prog 84 re:=by
 refine ab (CL hB).tab Tryz.func84 rfl rfl rfl ?_;intro args os C rs os' hc hC;unfold re at hc;split at hc;case h_2=>cases hc
 rename_i a b;cases hc;refine v_h (CL hB) fun X hP hT hr hG=> ?_;have hU:=rW.eq_1;unfold rW at hT;have hX:=ai @iL.eq_1<|ai @fK.eq_1<| @lI.eq_1;simp only[Tryz.f84,aD,an,ioB];refine s_g hG ?_;refine s_q hG ?_ ?_
 ·try simp only[ba]
  exact Ce hC.1
 refine s_q hG ?_ ?_
 ·try simp only[ba]
  exact Ce hC.2
 refine ak (s_g hG ?_);refine ao ?_ ?_
 ·intro hb0;try simp only[bt] at hb0
  refine s_q hG ?_ ?_
  ·(try simp only[ba]);exact⟨(gM hC.1).1,(gM hC.2).1⟩
  refine ay (az ?_);refine q_e [] ?_;exact Ot hC.1 hC.2 hb0
 ·intro hb0;try simp only[bf] at hb0
  refine aq (ah ?_);refine s_q hG ?_ ?_
  ·(try simp only[ba]);exact Ky hC.1 hC.2
  refine ay (q_e [] ?_);exact Ov hC.1 hC.2
def rX(B:aj):Tab:={types:= [(9,.str),(46,.str)],elems:= [],cons:= [(84,re),(92,fK),(116,iL)],hint:= [],N:=17,base:=B}
theorem CM{B:aj}(hB:aC B):aI Tryz.prog (rX B):=⟨⟨tc ty9 (tc iI (ae)),af,by simp only[rX,ioB];omega⟩,aG (cc Tryz.func84 (qe hB) (cc Tryz.func92 (kC hB) (cc Tryz.func116 (kD hB) (aA)))),by kernel_rfl⟩
def yh:Con:=fun l os=>match l,os with
 | [.z .str a,.z .str b],[]=>some (GQ QK a/\GQ QK b/\bm b≠0,[.z .str (aU (bm a/bm b))],[])
 |_,_=>none
theorem yi{B:aj}(hB:aC B):Valid B Tryz.prog 75 yh:=by
 refine ab (CM hB).tab Tryz.func75 rfl rfl rfl ?_;intro args os C rs os' hc hC;unfold yh at hc;split at hc;case h_2=>cases hc
 rename_i a b;cases hc;refine v_h (CM hB) fun X hP hT hr hG=> ?_;have hU:=rX.eq_1;unfold rX at hT;have hX:=ai @iL.eq_1<|ai @re.eq_1<| @fK.eq_1;simp only[Tryz.f75,aD,an,ioB];refine s_g hG ?_;refine s_q hG ?_ ?_
 ·try simp only[ba]
  exact Ce hC.2.1
 refine s_q hG ?_ ?_
 ·try simp only[ba]
  exact Kz hC.1 hC.2.1 hC.2.2
 refine ay (q_e [] ?_);exact Ow hC.2.1
def rY(B:aj):Tab:={types:= [(3,(.int .i64)),(22,(.slice .str)),(46,.str)],elems:= [],cons:= [],hint:= [],N:=26,base:=B}
theorem CN{B:aj}(hB:aC B):aI Tryz.prog (rY B):=⟨⟨tc ty3 (tc dZ (tc iI (ae))),af,by simp only[rY,ioB];omega⟩,bI rfl,by kernel_rfl⟩
def ke:Con:=fun l os=>match l,os with
 | [.z (.slice .str) p,.z (.slice .str) q],[]=>some (p.length<=QL/\q.length<=QL,[.z .bool (decide (p=q))],[])
 |_,_=>none
theorem mY{B:aj}(hB:aC B):Valid B Tryz.prog 28 ke:=by
 refine ab (CN hB).tab Tryz.func28 rfl rfl rfl ?_;intro args os C rs os' hc hC;unfold ke at hc;split at hc;case h_2=>cases hc
 rename_i p q;cases hc;refine v_h (CN hB) fun X hP hT hr hG=> ?_;have hU:=rY.eq_1;unfold rY at hT;have hX:=Bool.not_true;simp only[Tryz.f28,aD,an,ioB];have hl:p.length<=1000000000:=hC.1;refine s_g hG ?_;refine ak (s_g hG ?_);refine ao ?_ ?_
 ·intro hb0;try simp only[bt] at hb0
  refine s_g hG ?_;refine ay (az ?_);refine q_e [] ?_;exact Ox hb0
 ·intro hb0;try simp only[bf] at hb0
  have he:p.length=q.length:=by have h9:(p.length:Int)=(q.length:Int):=hb0;omega
  refine aq (ah ?_);refine ak (s_g hG ?_);refine ar (bj (fun(z:Nat)=>(⟨[(0,.l (.z (.slice .str) p)),(1,.l (.z (.slice .str) q)),(4,.l (.z .bool false)),(5,.l (.z (.int .i64) (z:Int)))],[]⟩:aa)) (fun z=>z<=p.length/\p.take z=q.take z) (fun z=>p.length-z) 0 ?_ ?_ ?_);·refine q_l ?_;rfl
  ·exact⟨by omega,rfl⟩
  ·rintro k ⟨g1,g2⟩;(try dsimp only at g1 g2);refine ak (s_g hG ?_);refine ao ?_ ?_
   ·intro hb1;(try simp only[bt] at hb1);(have hk:k<p.length:=by have h9:(k:Int)<(p.length:Int):=hb1;omega);refine aq (ah ?_);refine ak (ar ?_);refine s_d hG ?_ ?_
    ·(try simp only[ba]);rw[<- he];exact⟨⟨by omega,hb1⟩,by omega,hb1⟩
    refine ao ?_ ?_;·intro hb2;(try simp only[bt] at hb2);refine s_g hG ?_;refine ay (bl ?_);refine az (c6 ?_);refine bl (az ?_);refine q_e [] ?_;exact Oy hb2
    ·(intro hb2;(try simp only[bf] at hb2);refine aq (aK ?_);refine ah (ag hG ?_ ?_);·exact tt9);show ∃ z,_;refine q_l ?_;exact⟨k+1,wo,hk,KA he hk g2 hb2,by omega⟩
   ·intro hb1;(try simp only[bf] at hb1);(have hk: ¬k<p.length:=by have h9: ¬ (k:Int)<(p.length:Int):=hb1;omega);refine aZ (aB ?_);refine av (au ?_);refine ah (s_g hG ?_);refine ay (q_e [] ?_);exact Oz he hk g2
def Ab:Con:=ka [some (.slice .str),some (.slice .str)] ke
theorem F6{B:aj}(hB:aC B):Valid B Tryz.prog 28 Ab:=fX _ (mY hB)
def wx(B:aj):Tab:={types:= [(87,(.slice (.int .u32))),(161,(.int .u32)),(164,(.int .u64))],elems:= [(87,161)],cons:= [(193,x9)],hint:= [],N:=38,base:=B}
theorem Pm{B:aj}(hB:aC B):aI Tryz.prog (wx B):=⟨⟨tc js (tc gG (tc oP (ae))),aT (by kernel_rfl) (af),by simp only[wx,ioB];omega⟩,aG (cc Tryz.func193 (Ih hB) (aA)),by kernel_rfl⟩
def qf:Con:=fun l os=>match l,os with
 | [.z (.slice (.int .u32)) m,.z (.int .u32) b],[]=>some (Lim m/\Bj b/\m.length<CAP,[.z (.slice (.int .u32)) (padL (valL m/b).toNat m.length),.z (.int .u32) (valL m%b)],[])
 |_,_=>none
theorem R8{B:aj}(hB:aC B):Valid B Tryz.prog 189 qf:=by
 refine ab (Pm hB).tab Tryz.func189 rfl rfl rfl ?_;intro args os C rs os' hc hC;unfold qf at hc;split at hc;case h_2=>cases hc
 rename_i m b;cases hc;refine v_h (Pm hB) fun X hP hT hr hG=> ?_;have hU:=wx.eq_1;unfold wx at hT;have hX:= @x9.eq_1;simp only[Tryz.f189,aD,an,ioB];refine s_g hG ?_;refine s_q hG ?_ ?_
 ·try simp only[ba]
  exact⟨by omega,by omega,by have:=hC.2.2;unfold CAP at this;unfold Cm.Roomy;omega⟩
 refine s_g hG ?_;refine ak (s_g hG ?_);refine ar (GN hr (gf:=208) (caps:= [.z (.ptr (.slice (.int .u32))) m]) (items:=de m) (by simp only[hT,wx,mx0,mx1,mx2,mx3,mx4,mx5,mx6,aW,bw,bL,bd,bu,Ty.fieldTy,Ty.fieldOf,Nat.reduceLT,Nat.reduceEqDiff,Nat.reduceAdd,Nat.reduceMul,Nat.reduceSub,Nat.reduceLeDiff,Nat.reduceBEq,Nat.reduceBNe,reduceIte,reduceDIte,reduceCtorEq];try rfl) (by rfl) (by rw[hP];exact Bw m) (by rfl) [3,6,7] (by rfl) (by simp only[hT,wx];try rfl) (fun(k:Nat) (z:Int×List Int)=>(⟨[(3,.l (.z (.ptr (.int .u32)) b)),(6,.l (.ownP 6 0)),(7,.l (.ownP 7 0))],[(6,.box 87 [.ownS 13]),(7,.box 164 [.z (.int .u64) z.1]),(13,.arr (.int .u32) 161 z.2)]⟩:aa)) (fun(k:Nat) (z:Int×List Int)=>lX m b k z.1 z.2) (0,List.replicate (List.length m) 0) ?_ ?_ ?_ ?_ ?_);·simp only[ml0,ml1,Nat.reduceLT,Nat.reduceEqDiff,Nat.reduceAdd,Nat.reduceMul,Nat.reduceSub,Nat.reduceLeDiff,Nat.reduceBEq,Nat.reduceBNe,reduceIte,reduceDIte,reduceCtorEq];simp
 ·exact Bl hC.2.1
 ·intro k z;rfl
 ·intro k hk;rintro⟨r,out⟩ hz;try dsimp only at hz
  have hk:k<List.length m:=by simpa [de] using hk
  refine⟨_,by simp only[hT,wx,de,vr,mx0,mx1,mx2,mx3,mx4,mx5,mx6,aW,bw,bL,bd,bu,Ty.fieldTy,Ty.fieldOf,Nat.reduceLT,Nat.reduceEqDiff,Nat.reduceAdd,Nat.reduceMul,Nat.reduceSub,Nat.reduceLeDiff,Nat.reduceBEq,Nat.reduceBNe,reduceIte,reduceDIte,reduceCtorEq,List.getElem_map,List.getElem_range];rfl,?_⟩;intro X' hP' hT';have hG':aI X'.P X'.T:=by rw[hP',hT'];exact hG.keep _
  rw[hT] at hT';refine ar (ak ?_);refine pI hG' ?_ ?_;·exact tt9
  refine ah (GO hG' ?_ ?_)
  ·(try simp only[ba]);have hl:=hz.1;exact⟨GY hC.2.1,GY hC.2.1,by omega,by omega⟩
  refine aK ?_;show ∃ z,_;simp only[ml0,ml1,Nat.reduceLT,Nat.reduceEqDiff,Nat.reduceAdd,Nat.reduceMul,Nat.reduceSub,Nat.reduceLeDiff,Nat.reduceBEq,Nat.reduceBNe,reduceIte,reduceDIte,reduceCtorEq];exact E6 hC.1 hC.2.1 hk hz
 ·rintro⟨r,out⟩ hz;try dsimp only at hz
  rw[show List.length (de m)=List.length m by simp[de]] at hz;refine aK (ah ?_);refine s_d hG ?_ ?_;·exact tt9
  refine ay (q_e [13] ?_);exact JE hC.1 hC.2.1 hz
def IA(B:aj):Tab:={types:= [(3,(.int .i64)),(87,(.slice (.int .u32))),(161,(.int .u32)),(164,(.int .u64))],elems:= [(87,161)],cons:= [],hint:= [],N:=41,base:=B}
theorem Pn{B:aj}(hB:aC B):aI Tryz.prog (IA B):=⟨⟨tc ty3 (tc js (tc gG (tc oP (ae)))),aT (by kernel_rfl) (af),by simp only[IA,ioB];omega⟩,bI rfl,by kernel_rfl⟩
def mZ:Con:=fun l os=>match l,os with
 | [.z (.slice (.int .u32)) m,.z (.int .u32) b],[]=>some (Lim m/\Bk b/\m.length<CAP,[.own (.int .u32) 161 (padL (valL m*b).toNat (m.length+1))],[])
 |_,_=>none
theorem R9{B:aj}(hB:aC B):Valid B Tryz.prog 190 mZ:=by
 refine ab (Pn hB).tab Tryz.func190 rfl rfl rfl ?_;intro args os C rs os' hc hC;unfold mZ at hc;split at hc;case h_2=>cases hc
 rename_i m b;cases hc;refine v_h (Pn hB) fun X hP hT hr hG=> ?_;have hU:=IA.eq_1;unfold IA at hT;have hX:=Bool.not_true;simp only[Tryz.f190,aD,an,ioB];refine s_g hG ?_;refine s_q hG ?_ ?_
 ·try simp only[ba]
  have h1:List.length m<1000000000000:=hC.2.2;rw[wo];exact⟨by omega,by omega,by unfold Cm.Roomy;omega⟩
 refine s_g hG ?_;refine ak (s_g hG ?_);refine ar (bj (fun(z:Nat×Int×List Int)=>(⟨[(1,.l (.z (.int .u32) b)),(5,.l (.ownS 13)),(6,.l (.z (.int .u64) z.2.1)),(14,.l (.z (.slice (.int .u32)) m)),(15,.l (.z (.int .i64) (List.length m:Int))),(16,.l (.z (.int .i64) (z.1:Int)))],[(13,.arr (.int .u32) 161 z.2.2)]⟩:aa)) (fun z=>ko m b z.1 z.2.1 z.2.2) (fun z=>List.length m-z.1) (0,0,[]) ?_ ?_ ?_);·refine q_l ?_;exact⟨rfl,rfl⟩
 ·exact y9
 ·rintro⟨k,c,out⟩ hz;try dsimp only at hz
  refine s_g hG ?_;refine ak (ao ?_ ?_)
  ·intro hb0;(try simp only[bt] at hb0);refine aq (ah ?_);refine ak (ar ?_);refine s_q hG ?_ ?_
   ·(try simp only[ba]);exact⟨by omega,hb0⟩
   refine s_g hG ?_;refine ag hG ?_ ?_
   ·(try simp only[ba]);have h1:List.length m<1000000000000:=hC.2.2;have h2:=hz.2.1;exact⟨by decide,by unfold Cm.Roomy;omega,by decide⟩
   (refine aK (ah ?_);refine ag hG ?_ ?_;·exact tt9);show ∃ z,_;refine q_l ?_;exact Bm hC.1 hC.2.2 hC.2.1 hb0 hz
  ·intro hb0;(try simp only[bf] at hb0);refine aZ (aB ?_);refine av (au ?_);refine ah (s_q hG ?_ ?_)
   ·(try simp only[ba]);have h1:List.length m<1000000000000:=hC.2.2;have h2:=hz.2.1;have h3:=hz.1;unfold Cm.Roomy;omega
   refine ay (q_e [] ?_);exact⟨trivial,E7 hC.1 hC.2.1 hb0 hz⟩
def IB(B:aj):Tab:={types:= [(2,(.int .i64)),(3,(.int .i64)),(87,(.slice (.int .u32))),(161,(.int .u32)),(164,(.int .u64))],elems:= [],cons:= [],hint:= [],N:=57,base:=B}
theorem Po{B:aj}(hB:aC B):aI Tryz.prog (IB B):=⟨⟨tc ty2 (tc ty3 (tc js (tc gG (tc oP (ae))))),af,by simp only[IB,ioB];omega⟩,bI rfl,by kernel_rfl⟩
def yj:Con:=fun l os=>match l,os with
 | [.ownS 10000000,.z (.slice (.int .u32)) o,.z (.int .u64) q],[.win (.int .u32) 161 pre xs []]=>some (Lim xs/\Lim o/\Bk q/\o.length+1<=xs.length/\o.length<CAP,[.z .bool (decide (valL (xs.take (o.length+1))<q*valL o))],[.win (.int .u32) 161 pre (put xs (o.length+1) (valL (xs.take (o.length+1))-q*valL o)) []])
 |_,_=>none
theorem Sa{B:aj}(hB:aC B):Valid B Tryz.prog 191 yj:=by
 refine ab (Po hB).tab Tryz.func191 rfl rfl rfl ?_;intro args os C rs os' hc hC;unfold yj at hc;split at hc;case h_2=>cases hc
 rename_i o q pre xs;cases hc;refine v_h (Po hB) fun X hP hT hr hG=> ?_;have hU:=IB.eq_1;unfold IB at hT;have hX:=Bool.not_true;simp only[Tryz.f191,aD,an,ioB];refine s_g hG ?_;refine s_g hG ?_;refine ak (s_g hG ?_);refine ar (bj (fun(z:Nat×Int×Int×List Int)=>(⟨[(0,.l (.ownS 10000000)),(1,.l (.z (.slice (.int .u32)) o)),(2,.l (.z (.int .u64) q)),(7,.l (.z (.int .u64) z.2.1)),(8,.l (.z (.int .i64) z.2.2.1)),(14,.l (.z (.int .i64) ((List.length o+1:Nat):Int))),(15,.l (.z (.int .i64) (z.1:Int)))],[(10000000,.win (.int .u32) 161 pre z.2.2.2 [])]⟩:aa)) (fun z=>kR xs o q z.1 z.2.1 z.2.2.1 z.2.2.2) (fun z=>List.length o+1-z.1) (0,0,0,xs) ?_ ?_ ?_);·refine q_l ?_;exact⟨wi (by omega) (by have:List.length o<1000000000000:=hC.2.2.2.2;omega),rfl⟩
 ·exact E9 hC.1
 ·rintro⟨i,c,b,ys⟩ hz;try dsimp only at hz
  have hl:=hz.2.1;have hlen:=hC.2.2.2.1;refine s_g hG ?_;refine ak (ao ?_ ?_)
  ·intro hb0;(try simp only[bt] at hb0);refine aq (ah ?_);refine ak (ar ?_);refine s_g hG ?_;refine s_g hG ?_;refine ct (fun(z:Int)=>(⟨[(0,.l (.ownS 10000000)),(1,.l (.z (.slice (.int .u32)) o)),(2,.l (.z (.int .u64) q)),(8,.l (.z (.int .i64) b)),(9,.l (.z (.int .i64) (i:Int))),(10,.l (.z (.int .u64) z)),(14,.l (.z (.int .i64) ((List.length o+1:Nat):Int))),(15,.l (.z (.int .i64) (i:Int)))],[(10000000,.win (.int .u32) 161 pre ys [])]⟩:aa)) (fun z=>z=c+q*o.getD i 0) ?_ ?_
   ·refine s_g hG ?_;refine ao ?_ ?_
    ·intro hb1;(try simp only[bt] at hb1);refine ag hG ?_ ?_
     ·(try simp only[ba]);exact⟨by omega,hb1⟩
     show ∃ z,_;refine q_l ?_;first|exact MS i hC.2.1 hC.2.2.1 hz.2.2.2.2.1|exact xu hb1
    ·intro hb1;(try simp only[bf] at hb1);refine aq ?_;show ∃ z,_;refine q_l ?_;first|exact MS i hC.2.1 hC.2.2.1 hz.2.2.2.2.1|exact xu hb1
   rintro n hn;(try dsimp only at hn);(have hn2:0<=n/\n<LB*LB:=by rw[hn];have:=Fa i hC.2.1 hC.2.2.1 hz.2.2.2.2.1;exact⟨this.1,this.2.1⟩);refine s_q hG ?_ ?_
   ·(try simp only[ba]);decide
   refine s_q hG ?_ ?_
   ·(try simp only[ba]);exact⟨⟨by omega,by omega⟩,by omega,by decide⟩
   refine s_g hG ?_;refine ct (fun(z:Int×Int)=>(⟨[(0,.l (.ownS 10000000)),(1,.l (.z (.slice (.int .u32)) o)),(2,.l (.z (.int .u64) q)),(7,.l (.z (.int .u64) (n/LB))),(8,.l (.z (.int .i64) z.2)),(9,.l (.z (.int .i64) (i:Int))),(11,.l (.z (.int .i64) z.1)),(14,.l (.z (.int .i64) ((List.length o+1:Nat):Int))),(15,.l (.z (.int .i64) (i:Int)))],[(10000000,.win (.int .u32) 161 pre ys [])]⟩:aa)) (fun z=>(0<=z.1/\z.1<LB)/\(0<=z.2/\z.2<=1)/\z.1-LB*z.2=ys.getD i 0-n%LB-b) ?_ ?_
   ·refine s_g hG ?_;refine ao ?_ ?_
    ·(intro hb2;(try simp only[bt] at hb2);refine ag hG ?_ ?_;·exact tt9);show ∃ z,_;refine q_l ?_;first|exact(by simpa only[and_assoc] using(oN hz.2.2.1 hn2 hz.2.2.2.2.2.2.1 rfl).1 hb2)|exact(by simpa only[and_assoc] using(oN hz.2.2.1 hn2 hz.2.2.2.2.2.2.1 rfl).2 hb2)
    ·intro hb2;(try simp only[bf] at hb2);refine aq ?_;show ∃ z,_;refine q_l ?_;first|exact(by simpa only[and_assoc] using(oN hz.2.2.1 hn2 hz.2.2.2.2.2.2.1 rfl).1 hb2)|exact(by simpa only[and_assoc] using(oN hz.2.2.1 hn2 hz.2.2.2.2.2.2.1 rfl).2 hb2)
   rintro⟨v,b2⟩ hv;(try dsimp only at hv);refine ag hG ?_ ?_
   ·(try simp only[ba]);exact⟨⟨by omega,by omega⟩,by omega⟩
   (refine aK (ah ?_);refine ag hG ?_ ?_;·exact tt9);show ∃ z,_;refine q_l ?_;exact JG hC.2.1 hC.2.2.1 hC.2.2.2.1 hC.2.2.2.2 hz hb0 hn hv
  ·intro hb0;(try simp only[bf] at hb0);refine aZ (aB ?_);refine av (au ?_);refine ah (s_g hG ?_);refine ay (q_e [] ?_);exact⟨(Bp hC.2.2.2.1 hz (by omega)).2,trivial,(Bp hC.2.2.2.1 hz (by omega)).1⟩
def IC(B:aj):Tab:={types:= [(3,(.int .i64)),(87,(.slice (.int .u32))),(161,(.int .u32))],elems:= [],cons:= [],hint:= [],N:=37,base:=B}
theorem Pp{B:aj}(hB:aC B):aI Tryz.prog (IC B):=⟨⟨tc ty3 (tc js (tc gG (ae))),af,by simp only[IC,ioB];omega⟩,bI rfl,by kernel_rfl⟩
def yk:Con:=fun l os=>match l,os with
 | [.ownS 10000000,.z (.slice (.int .u32)) o],[.win (.int .u32) 161 pre xs []]=>some (Lim xs/\Lim o/\o.length+1<=xs.length/\o.length<CAP,[],[.win (.int .u32) 161 pre (put xs (o.length+1) (valL (xs.take (o.length+1))+valL o)) []])
 |_,_=>none
theorem Sb{B:aj}(hB:aC B):Valid B Tryz.prog 192 yk:=by
 refine ab (Pp hB).tab Tryz.func192 rfl rfl rfl ?_;intro args os C rs os' hc hC;unfold yk at hc;split at hc;case h_2=>cases hc
 rename_i o pre xs;cases hc;refine v_h (Pp hB) fun X hP hT hr hG=> ?_;have hU:=IC.eq_1;unfold IC at hT;have hX:=Bool.not_true;simp only[Tryz.f192,aD,an,ioB];refine s_g hG ?_;refine s_g hG ?_;refine ar (bj (fun(z:Nat×Int×List Int)=>(⟨[(0,.l (.ownS 10000000)),(1,.l (.z (.slice (.int .u32)) o)),(4,.l (.z (.int .u32) z.2.1)),(9,.l (.z (.int .i64) ((List.length o+1:Nat):Int))),(10,.l (.z (.int .i64) (z.1:Int)))],[(10000000,.win (.int .u32) 161 pre z.2.2 [])]⟩:aa)) (fun z=>kS xs o z.1 z.2.1 z.2.2) (fun z=>List.length o+1-z.1) (0,0,xs) ?_ ?_ ?_);·refine q_l ?_;exact⟨wi (by omega) (by have:List.length o<1000000000000:=hC.2.2.2;omega),rfl⟩
 ·exact Fc hC.1
 ·rintro⟨i,c,ys⟩ hz;try dsimp only at hz
  have hl:=hz.2.1;have hlen:=hC.2.2.1;refine s_g hG ?_;refine ak (ao ?_ ?_)
  ·intro hb0;(try simp only[bt] at hb0);refine aq (ah ?_);refine ak (ar ?_);refine s_g hG ?_;refine s_q hG ?_ ?_
   ·(try simp only[ba]);exact⟨⟨by omega,by omega⟩,by omega⟩
   refine ct (fun(z:Int)=>(⟨[(0,.l (.ownS 10000000)),(1,.l (.z (.slice (.int .u32)) o)),(5,.l (.z (.int .i64) (i:Int))),(6,.l (.z (.int .u32) z)),(9,.l (.z (.int .i64) ((List.length o+1:Nat):Int))),(10,.l (.z (.int .i64) (i:Int)))],[(10000000,.win (.int .u32) 161 pre ys [])]⟩:aa)) (fun z=>z=ys.getD i 0+c+o.getD i 0) ?_ ?_
   ·refine s_g hG ?_;refine ao ?_ ?_
    ·intro hb1;(try simp only[bt] at hb1);refine ag hG ?_ ?_
     ·(try simp only[ba]);exact⟨by omega,hb1⟩
     show ∃ z,_;refine q_l ?_;first|exact(zb i hz.2.2.1 hC.2.1 hz.2.2.2.2.1).2 hb1|exact(zb i hz.2.2.1 hC.2.1 hz.2.2.2.2.1).1
    ·intro hb1;(try simp only[bf] at hb1);refine aq ?_;show ∃ z,_;refine q_l ?_;first|exact(zb i hz.2.2.1 hC.2.1 hz.2.2.2.2.1).2 hb1|exact(zb i hz.2.2.1 hC.2.1 hz.2.2.2.2.1).1
   rintro n hn;(try dsimp only at hn);refine ag hG ?_ ?_
   ·(try simp only[ba]);exact⟨by decide,by decide,⟨by omega,by omega⟩,by omega⟩
   (refine aK (ah ?_);refine ag hG ?_ ?_;·exact tt9);show ∃ z,_;refine q_l ?_;exact JH hC.2.1 hC.2.2.1 hC.2.2.2 hz hb0 hn
  ·intro hb0;(try simp only[bf] at hb0);refine aZ (aB ?_);refine av (au ?_);refine q_e [] ?_;exact⟨trivial,MR hC.2.2.1 hz (by omega)⟩
def yl(B:aj):Tab:={types:= [(3,(.int .i64)),(4,.bool),(87,(.slice (.int .u32))),(89,tyW),(161,(.int .u32)),(164,(.int .u64))],elems:= [(87,161)],cons:= [(150,eI),(152,fC),(189,qf),(190,mZ),(191,yj),(192,yk)],hint:= [52,144,152],N:=172,io:= [(191,[0]),(192,[0])],base:=B}
theorem Pq{B:aj}(hB:aC B):aI Tryz.prog (yl B):=⟨⟨tc ty3 (tc ty4 (tc js (tc iJ (tc gG (tc oP (ae)))))),aT (by kernel_rfl) (af),by simp only[yl,ioB];omega⟩,aG (cc Tryz.func150 (lu hB) (cc Tryz.func152 (zP hB) (cc Tryz.func189 (R8 hB) (cc Tryz.func190 (R9 hB) (cc Tryz.func191 (Sa hB) (cc Tryz.func192 (Sb hB) (aA))))))),by kernel_rfl⟩
def kE:Con:=fun l os=>match l,os with
 | [.z (.slice (.int .u32)) m,.z (.slice (.int .u32)) o],[]=>some (Cano m/\Cano o/\o≠ []/\m.length+o.length+1<CAP,[.z (.slice (.int .u32)) (jG m o),.z (.slice (.int .u32)) (eu m o)],[])
 |_,_=>none
set_option maxHeartbeats 1000000 in
theorem ID{B:aj}(hB:aC B):Valid B Tryz.prog 177 kE:=by
 refine ab (Pq hB).tab Tryz.func177 rfl rfl rfl ?_;intro args os C rs os' hc hC;unfold kE at hc;split at hc;case h_2=>cases hc
 rename_i m o;cases hc;refine v_h (Pq hB) fun X hP hT hr hG=> ?_;have hU:=yl.eq_1;unfold yl at hT;have hX:=ai @fC.eq_1<|ai @yk.eq_1<|ai @yj.eq_1<|ai @mZ.eq_1<|ai @qf.eq_1<|ai @eI.eq_1<|ai @ca.eq_def<| @cy.eq_def;simp only[Tryz.f177,aD,an,ioB];refine ak ?_;show J X _ _ _;refine ag hG ?_ ?_;·exact tt9
 refine ah (ak ?_);refine ak ?_;show J X _ _ _;refine ag hG ?_ ?_
 ·try simp only[ba]
  exact⟨hC.1,hC.2.1,Nat.lt_of_le_of_lt (Nat.le_succ _) hC.2.2.2⟩
 refine ah (ao ?_ ?_)
 ·intro hb0;try simp only[bt] at hb0
  refine ak ?_;show J X _ _ _;refine ag hG ?_ ?_;·exact tt9
  refine ah (ay ?_);refine az (q_e [62] ?_);exact MZ hb0
 ·intro hb0;try simp only[bf] at hb0
  refine aq (ah ?_);refine ak (ak ?_);show J X _ _ _;refine ag hG ?_ ?_;·exact tt9
  refine ah (ao ?_ ?_)
  ·intro hb1;(try simp only[bt] at hb1);refine ak ?_;show J X _ _ _;refine ag hG ?_ ?_
   ·(try simp only[ba]);exact⟨⟨by omega,by omega⟩,hC.1.1,(div_one hC.2.1 hb0 hb1).1,by have:=hC.2.2.2;omega⟩
   (refine ah (ak ?_);show J X _ _ _;refine ag hG ?_ ?_;·exact tt9);refine ah (ay ?_);refine az (q_e [62] ?_);exact(div_one hC.2.1 hb0 hb1).2
  ·intro hb1;simp only[beq_eq_false_iff_ne,ne_eq] at hb1;obtain⟨p,hp⟩:∃ p,List.length o=p+2:=qS hC.2.2.1 hb1;obtain⟨D,f⟩:∃ D:List Int,iH m o D p:=⟨_,iH.mk' hC.1 hC.2.1 hp (M0 hb0) hC.2.2.2⟩;have hDl:=f.hDl;have hcc:=f.hc;have hlm:=f.hlm;refine aq (ah ?_);refine ct (fun(z:Int)=>(⟨[(0,.l (.z (.slice (.int .u32)) m)),(1,.l (.z (.slice (.int .u32)) o)),(8,.l (.z (.int .u32) z))],[]⟩:aa)) (fun z=>z=aO o) ?_ ?_
   ·show J X _ _ _;refine ag hG ?_ ?_
    ·(try simp only[ba]);have h:=vk f.ho f.hp (by omega);exact⟨h.1,h.2.1⟩
    show ∃ z,_;refine q_l ?_;exact(vk f.ho f.hp (by omega)).2.2
   rintro d hd;(try dsimp only at hd);subst hd;refine ak ?_;show J X _ _ _;refine ib hG ?_ ?_
   ·(try simp only[ba]);exact JM f
   (refine ah (ak ?_);show J X _ _ _;refine ag hG ?_ ?_;·exact tt9);refine ah (ak ?_);show J X _ _ _;refine ag hG ?_ ?_
   ·(try simp only[ba]);exact JN f
   (refine ah (ak ?_);refine ak ?_;show J X _ _ _;refine ag hG ?_ ?_;·exact tt9);refine ah (ar ?_);refine bj (fun(z:Nat×List Int×List Int)=>(⟨[(8,.l (.z (.int .u32) (aO o))),(9,.l (.ownS 1392)),(10,.l (.z (.slice (.int .u32)) D)),(11,.l (.z (.int .i64) (List.length o:Int))),(12,.l (.ownS 62)),(13,.l (.z (.int .i64) ((z.1:Int)-1)))],[(1392,.arr (.int .u32) 161 z.2.1),(62,.arr (.int .u32) 161 z.2.2)]⟩:aa)) (fun z=>kU (valL m*aO o) (valL D) (List.length m) (p+2) z.1 z.2.1 z.2.2) (fun z=>z.1) (List.length m+1-List.length o,padL (valL m*aO o).toNat (List.length m+1),List.replicate (List.length m+1-List.length o) 0) ?_ ?_ ?_;·refine q_l ?_;exact Qw f
   ·exact Ff f
   ·(rintro⟨k,T,Q⟩ hz;(try dsimp only at hz);have hz1:=hz.1;have hz3:=hz.2.2.1;have hz5:=hz.2.2.2.2.1;refine ak (ak ?_);show J X _ _ _;refine ag hG ?_ ?_;·exact tt9);refine ah (ao ?_ ?_)
    ·intro hb2;(try simp only[decide_eq_true_eq] at hb2);obtain⟨j,rfl⟩:∃ j,k=j+1:=⟨k-1,by omega⟩;(have ej:(((j+1:Nat)):Int)-1=(j:Int):=by omega);rw[ej];(have hw17:(j:Int).toNat<List.length T:=by omega);(have hw19:∀ v:Int,(j:Int).toNat<(List.take (j:Int).toNat T++put (List.drop (j:Int).toNat T) (List.length D+1) v).length:=fun v=>by rw[G2 _ (by rw[hDl];omega)];exact hw17);(have ej0:IntKind.i64.wrap ((j:Int)+(List.length o:Int))=((j+(p+2):Nat):Int):=by rw[wo];omega);(have ej1:IntKind.i64.wrap (((j+(p+2):Nat):Int)-1)=((j+(p+1):Nat):Int):=by rw[wo];omega);(have ej2:IntKind.i64.wrap (((j+(p+2):Nat):Int)-2)=((j+p:Nat):Int):=by rw[wo];omega);have g:=Bq (j:=j) (p:=p) hz.2.1 f.hL f.hDl f.hVp (by omega) hz.2.2.2.2.2.2;have hD1:=(f.hL.getD (p+1)).2;(have hTj:j+(p+3)<=List.length T:=by omega);refine aq (ah ?_);refine ak (ar ?_);refine ct (fun(z:Int)=>(⟨[(8,.l (.z (.int .u32) (aO o))),(9,.l (.ownS 1392)),(10,.l (.z (.slice (.int .u32)) D)),(11,.l (.z (.int .i64) (List.length o:Int))),(12,.l (.ownS 62)),(13,.l (.z (.int .i64) (j:Int))),(14,.l (.z (.int .u64) z))],[(1392,.arr (.int .u32) 161 T),(62,.arr (.int .u32) 161 Q)]⟩:aa)) (fun z=>z=T.getD (j+(p+2)) 0*LB+T.getD (j+(p+1)) 0/\z<LB*LB) ?_ ?_
     ·show J X _ _ _;refine ib hG ?_ ?_
      ·(try simp only[ba]);simp only[ej0,ej1,Int.toNat_natCast];exact⟨⟨by omega,by omega⟩,by omega,⟨by omega,by omega⟩,by omega⟩
      show ∃ z,_;refine q_l ?_;simp only[f.en1,f.en2,ej0,ej1,ej2,Int.toNat_natCast,gB];have:=MV (hz.2.1.getD (j+(p+2))) (hz.2.1.getD (j+(p+1)));rw[this.1];exact⟨rfl,this.2.1⟩
     rintro top ht;(try dsimp only at ht);have g2:=g;rw[<- ht.1] at g2;have ht0:=g2.htop;refine ct (fun(z:Int)=>(⟨[(8,.l (.z (.int .u32) (aO o))),(9,.l (.ownS 1392)),(10,.l (.z (.slice (.int .u32)) D)),(11,.l (.z (.int .i64) (List.length o:Int))),(12,.l (.ownS 62)),(13,.l (.z (.int .i64) (j:Int))),(14,.l (.z (.int .u64) top)),(15,.l (.z (.int .u64) z))],[(1392,.arr (.int .u32) 161 T),(62,.arr (.int .u32) 161 Q)]⟩:aa)) (fun z=>z=min (top/D.getD (p+1) 0) 999999999) ?_ ?_
     ·show J X _ _ _;refine ag hG ?_ ?_
      ·(try simp only[ba]);simp only[f.en1,f.en2,ej0,ej1,ej2,Int.toNat_natCast,gB];exact⟨⟨by omega,by omega⟩,(Br ht0 ht.2 g.hD1 hD1).2⟩
      show ∃ z,_;refine q_l ?_;simp only[f.en1,f.en2,ej0,ej1,ej2,Int.toNat_natCast,gB];rw[(Br ht0 ht.2 g.hD1 hD1).1]
     (rintro gs hg;(try dsimp only at hg);refine ak (ar ?_);refine bj (fun(z:Int)=>(⟨[(8,.l (.z (.int .u32) (aO o))),(9,.l (.ownS 1392)),(10,.l (.z (.slice (.int .u32)) D)),(11,.l (.z (.int .i64) (List.length o:Int))),(12,.l (.ownS 62)),(13,.l (.z (.int .i64) (j:Int))),(14,.l (.z (.int .u64) top)),(15,.l (.z (.int .u64) z))],[(1392,.arr (.int .u32) 161 T),(62,.arr (.int .u32) 161 Q)]⟩:aa)) (fun z=>JL (valL ((T.drop j).take (p+3))) (valL D) top (D.getD (p+1) 0) z) (fun z=>z.toNat) gs ?_ ?_ ?_;·simp only[ml0,ml1,Nat.reduceLT,Nat.reduceEqDiff,Nat.reduceAdd,Nat.reduceMul,Nat.reduceSub,Nat.reduceLeDiff,Nat.reduceBEq,Nat.reduceBNe,reduceIte,reduceDIte,reduceCtorEq]);·exact Qu g2 hg
     ·rintro q hq;(try dsimp only at hq);refine ak (ak ?_);show J X _ _ _;refine ib hG ?_ ?_
      ·(try simp only[ba]);simp only[f.en1,f.en2,ej0,ej1,ej2,Int.toNat_natCast,gB];exact⟨⟨by omega,by omega⟩,⟨by omega,by omega⟩,⟨by omega,by omega⟩,by omega,fun h=>h,fun h=>⟨h,by omega,by omega⟩,fun h=>h⟩
      refine ah (ao ?_ ?_)
      ·(intro hb3;(try simp only[bt] at hb3);refine aq (ah ?_);refine ar ?_;show J X _ _ _;refine ag hG ?_ ?_;·exact tt9);refine aK ?_;show ∃ z,_;refine q_l ?_;simp only[f.en1,f.en2,ej0,ej1,ej2,Int.toNat_natCast,gB] at hb3;exact SX g2 ht.2 hD1 hq hb3
      ·intro hb3;(try simp only[bf] at hb3);refine aZ (aB ?_);refine av (au ?_);refine ah (ct (fun(z:Int×List Int)=>(⟨[(8,.l (.z (.int .u32) (aO o))),(9,.l (.ownS 1392)),(10,.l (.z (.slice (.int .u32)) D)),(11,.l (.z (.int .i64) (List.length o:Int))),(12,.l (.ownS 62)),(13,.l (.z (.int .i64) (j:Int))),(15,.l (.z (.int .u64) z.1))],[(1392,.arr (.int .u32) 161 z.2),(62,.arr (.int .u32) 161 Q)]⟩:aa)) (fun z=>z.1=valL ((T.drop j).take (p+3))/valL D/\z.2=T.take j++put (T.drop j) (p+3) (valL ((T.drop j).take (p+3))-z.1*valL D)) ?_ ?_)
       ·refine ak ?_;show J X _ _ _;refine cS hG (by simp only[hw17,hT,yl,ca.eq_def,cy.eq_def,fC,yk,yj,mZ,qf,eI,mx0,mx1,mx2,mx3,mx4,mx5,mx6,aW,bw,bL,bd,bu,Ty.fieldTy,Ty.fieldOf,Nat.reduceLT,Nat.reduceEqDiff,Nat.reduceAdd,Nat.reduceMul,Nat.reduceSub,Nat.reduceLeDiff,Nat.reduceBEq,Nat.reduceBNe,reduceIte,reduceDIte,reduceCtorEq];rfl) ?_ ?_
        ·(try simp only[ba]);simp only[Int.toNat_natCast];exact⟨⟨by omega,by omega⟩,⟨hz.2.1.drop j,f.hL,⟨hq.2.2.2,hq.2.1⟩,by rw[hDl,List.length_drop];omega,by rw[hDl];unfold CAP;omega⟩,by rw[List.length_take];omega⟩
        refine ah (ao ?_ ?_)
        ·(intro hb4;(try simp only[bt] at hb4);refine ak ?_;show J X _ _ _;refine ag hG ?_ ?_;·exact tt9);refine ah ?_;show J X _ _ _;refine cS hG (by simp only[hw17,hw19,hT,yl,ca.eq_def,cy.eq_def,fC,yk,yj,mZ,qf,eI,mx0,mx1,mx2,mx3,mx4,mx5,mx6,aW,bw,bL,bd,bu,Ty.fieldTy,Ty.fieldOf,Nat.reduceLT,Nat.reduceEqDiff,Nat.reduceAdd,Nat.reduceMul,Nat.reduceSub,Nat.reduceLeDiff,Nat.reduceBEq,Nat.reduceBNe,reduceIte,reduceDIte,reduceCtorEq];rfl) ?_ ?_
         ·(try simp only[ba]);simp only[Int.toNat_natCast,f.hDl3];rw[(vl _ hTj).1,(vl _ hTj).2,G2 _ hTj];exact⟨⟨by omega,by omega⟩,⟨G0 (hz.2.1.drop j) _ _,f.hL,by rw[za _ (by rw[List.length_drop];omega),List.length_drop];omega,by rw[hDl];unfold CAP;omega⟩,by rw[List.length_take];omega⟩
         show ∃ z,_;refine q_l ?_;simp only[Int.toNat_natCast,f.hDl3] at hb4 ⊢;simp only[f.en1,f.en2,ej0,ej1,ej2,Int.toNat_natCast,gB] at hb3;have hst:=MX g2 ht.2 hD1 hq hb3;first|(have hq1:=hst.1 hb4;have hqn:=g.qnn;have hql:=g.qlt;have hB:LB=1000000000:=rfl;rw[w64 (x:=q-1) (by omega) (by omega),xx hTj];exact⟨hq1,rfl⟩)|exact⟨hst.2 hb4,trivial⟩|exact⟨hst.2 hb4,rfl⟩
        ·intro hb4;(try simp only[bf] at hb4);refine aq ?_;show ∃ z,_;refine q_l ?_;simp only[Int.toNat_natCast,f.hDl3] at hb4 ⊢;simp only[f.en1,f.en2,ej0,ej1,ej2,Int.toNat_natCast,gB] at hb3;have hst:=MX g2 ht.2 hD1 hq hb3;first|(have hq1:=hst.1 hb4;have hqn:=g.qnn;have hql:=g.qlt;have hB:LB=1000000000:=rfl;rw[w64 (x:=q-1) (by omega) (by omega),xx hTj];exact⟨hq1,rfl⟩)|exact⟨hst.2 hb4,trivial⟩|exact⟨hst.2 hb4,rfl⟩
       rintro⟨q2,Tn⟩ hq2;(try dsimp only at hq2);show J X _ _ _;refine ag hG ?_ ?_
       ·(try simp only[ba]);exact⟨⟨by omega,by omega⟩,by omega⟩
       (refine aK (ah ?_);show J X _ _ _;refine ag hG ?_ ?_;·exact tt9);show ∃ z,_;refine q_l ?_;rw[wi (x:=(j:Int)-1) (by omega) (by omega),hq2.2,Int.toNat_natCast,w32 (by rw[hq2.1];exact g.qnn) (by rw[hq2.1];have:=g.qlt;have hB:LB=1000000000:=rfl;omega)];exact⟨j,rfl,JJ f.hL f.hDl f.hVp f.hlm hz hq2.1,by omega⟩
    ·intro hb2;(try simp only[bf] at hb2);refine aZ (aB ?_);refine av (au ?_);refine ah (ak ?_);show J X _ _ _;refine ag hG ?_ ?_
     ·(try simp only[ba]);exact Fg f hz (by omega)
     (refine ah (ak ?_);show J X _ _ _;refine ag hG ?_ ?_;·exact tt9);refine ah (ay ?_);refine q_e [62] ?_;(obtain rfl:k=0:=by omega);exact Qv f hz
def IE(B:aj):Tab:={types:= [(3,(.int .i64)),(4,.bool),(87,(.slice (.int .u32))),(89,tyW)],elems:= [],cons:= [(110,Cu),(133,kd),(150,eI),(154,ra),(177,kE),(179,RZ)],hint:= [],N:=47,base:=B}
theorem Pr{B:aj}(hB:aC B):aI Tryz.prog (IE B):=⟨⟨tc ty3 (tc ty4 (tc js (tc iJ (ae)))),af,by simp only[IE,ioB];omega⟩,aG (cc Tryz.func110 (zR hB) (cc Tryz.func133 (rK hB) (cc Tryz.func150 (lu hB) (cc Tryz.func154 (zO hB) (cc Tryz.func177 (ID hB) (cc Tryz.func179 (R0 hB) (aA))))))),by kernel_rfl⟩
def IF:Con:=fun l os=>match l,os with
 | [.z (.st (.pair .bool (.slice (.int .u32)))) x,.z (.st (.pair .bool (.slice (.int .u32)))) y],[]=>some (pM x y,[.z tyW (enc (bN (dec x) (dec y))),.z tyW (enc (kc (dec x) (dec y)))],[])
 |_,_=>none
theorem Sc{B:aj}(hB:aC B):Valid B Tryz.prog 149 IF:=by
 refine ab (Pr hB).tab Tryz.func149 rfl rfl rfl ?_;intro args os C rs os' hc hC;unfold IF at hc;split at hc;case h_2=>cases hc
 rename_i x y;cases hc;refine v_h (Pr hB) fun X hP hT hr hG=> ?_;have hU:=IE.eq_1;unfold IE at hT;have hX:=ai @Cu.eq_1<|ai @kE.eq_1<|ai @ra.eq_1<|ai @kd.eq_1<|ai @RZ.eq_1<| @eI.eq_1;simp only[Tryz.f149,aD,an,ioB];refine s_g hG ?_;refine s_q hG ?_ ?_
 ·try simp only[ba]
  exact hC.side1
 refine s_d hG ?_ ?_
 ·try simp only[ba]
  exact hC.side2
 refine ak (s_q hG ?_ ?_)
 ·try simp only[ba]
  exact⟨enc_ok _,fun h=>h⟩
 refine ao ?_ ?_
 ·intro hb0;try simp only[bt] at hb0
  refine ib hG ?_ ?_
  ·(try simp only[ba]);exact hC.side4
  refine ah (s_d hG ?_ ?_);·exact tt9
  refine ay (q_e [] ?_);exact hC.fin1 hb0
 ·intro hb0;try simp only[bf] at hb0
  refine aq (ah ?_);refine s_d hG ?_ ?_;·exact tt9
  refine ay (q_e [] ?_);exact hC.fin2 hb0
def wy(B:aj):Tab:={types:= [(87,(.slice (.int .u32))),(161,(.int .u32)),(164,(.int .u64))],elems:= [],cons:= [(193,x9)],hint:= [],N:=16,base:=B}
theorem Ps{B:aj}(hB:aC B):aI Tryz.prog (wy B):=⟨⟨tc js (tc gG (tc oP (ae))),af,by simp only[wy,ioB];omega⟩,aG (cc Tryz.func193 (Ih hB) (aA)),by kernel_rfl⟩
def Ac:Con:=fun l os=>match l,os with
 | [.z (.slice (.int .u32)) m],[]=>some (Lim m/\m.length<=2,[.z (.int .u64) (valL m)],[])
 |_,_=>none
theorem Sd{B:aj}(hB:aC B):Valid B Tryz.prog 178 Ac:=by
 refine ab (Ps hB).tab Tryz.func178 rfl rfl rfl ?_;intro args os C rs os' hc hC;unfold Ac at hc;split at hc;case h_2=>cases hc
 rename_i m;cases hc;refine v_h (Ps hB) fun X hP hT hr hG=> ?_;have hU:=wy.eq_1;unfold wy at hT;have hX:= @x9.eq_1;simp only[Tryz.f178,aD,an,ioB];refine s_g hG ?_;refine s_g hG ?_;refine ak (s_g hG ?_);refine ar (GN hr (gf:=208) (caps:= [.z (.ptr (.slice (.int .u32))) m]) (items:=de m) (by simp only[hT,wy,mx0,mx1,mx2,mx3,mx4,mx5,mx6,aW,bw,bL,bd,bu,Ty.fieldTy,Ty.fieldOf,Nat.reduceLT,Nat.reduceEqDiff,Nat.reduceAdd,Nat.reduceMul,Nat.reduceSub,Nat.reduceLeDiff,Nat.reduceBEq,Nat.reduceBNe,reduceIte,reduceDIte,reduceCtorEq];try rfl) (by rfl) (by rw[hP];exact Bw m) (by rfl) [3] (by rfl) (by simp only[hT,wy];try rfl) (fun(k:Nat) (z:Int)=>(⟨[(3,.l (.ownP 3 0))],[(3,.box 164 [.z (.int .u64) z])]⟩:aa)) (fun(k:Nat) (z:Int)=>z=valL (List.drop (List.length m-k) m)) 0 ?_ ?_ ?_ ?_ ?_);·simp only[ml0,ml1,Nat.reduceLT,Nat.reduceEqDiff,Nat.reduceAdd,Nat.reduceMul,Nat.reduceSub,Nat.reduceLeDiff,Nat.reduceBEq,Nat.reduceBNe,reduceIte,reduceDIte,reduceCtorEq]
 ·rw[MM];rfl
 ·intro k z;rfl
 ·intro k hk;rintro z hz;try dsimp only at hz
  have hk:k<List.length m:=by simpa [de] using hk
  refine⟨_,by simp only[hT,wy,de,vr,mx0,mx1,mx2,mx3,mx4,mx5,mx6,aW,bw,bL,bd,bu,Ty.fieldTy,Ty.fieldOf,Nat.reduceLT,Nat.reduceEqDiff,Nat.reduceAdd,Nat.reduceMul,Nat.reduceSub,Nat.reduceLeDiff,Nat.reduceBEq,Nat.reduceBNe,reduceIte,reduceDIte,reduceCtorEq,List.getElem_map,List.getElem_range];rfl,?_⟩;intro X' hP' hT';have hG':aI X'.P X'.T:=by rw[hP',hT'];exact hG.keep _
  rw[hT] at hT';refine ar (pI hG' ?_ ?_);·exact tt9
  refine aK ?_;show ∃ z,_;simp only[ml0,ml1,Nat.reduceLT,Nat.reduceEqDiff,Nat.reduceAdd,Nat.reduceMul,Nat.reduceSub,Nat.reduceLeDiff,Nat.reduceBEq,Nat.reduceBNe,reduceIte,reduceDIte,reduceCtorEq];exact Bh hC.1 hC.2 hk hz
 ·rintro z hz;try dsimp only at hz
  rw[show List.length (de m)=List.length m by simp[de],Nat.sub_self,List.drop_zero] at hz;refine aK (ah ?_);refine s_g hG ?_;refine ay (q_e [] ?_);exact hz
def IG(B:aj):Tab:={types:= [(3,(.int .i64)),(4,.bool),(87,(.slice (.int .u32))),(89,tyW),(161,(.int .u32)),(164,(.int .u64))],elems:= [(87,161)],cons:= [(150,eI),(177,kE),(178,Ac)],hint:= [],N:=68,base:=B}
theorem Pt{B:aj}(hB:aC B):aI Tryz.prog (IG B):=⟨⟨tc ty3 (tc ty4 (tc js (tc iJ (tc gG (tc oP (ae)))))),aT (by kernel_rfl) (af),by simp only[IG,ioB];omega⟩,aG (cc Tryz.func150 (lu hB) (cc Tryz.func177 (ID hB) (cc Tryz.func178 (Sd hB) (aA)))),by kernel_rfl⟩
def ym:Con:=fun l os=>match l,os with
 | [.z (.st (.pair .bool (.slice (.int .u32)))) x,.z (.st (.pair .bool (.slice (.int .u32)))) y],[]=>some (pN x y,[.z tyW (enc (cg (dec x) (dec y)))],[])
 |_,_=>none
theorem IH{B:aj}(hB:aC B):Valid B Tryz.prog 147 ym:=by
 refine ab (Pt hB).tab Tryz.func147 rfl rfl rfl ?_;intro args os C rs os' hc hC;unfold ym at hc;split at hc;case h_2=>cases hc
 rename_i x y;cases hc;refine v_h (Pt hB) fun X hP hT hr hG=> ?_;have hU:=IG.eq_1;unfold IG at hT;have hX:=ai @kE.eq_1<|ai @Ac.eq_1<| @eI.eq_1;simp only[Tryz.f147,aD,an,ioB];refine s_g hG ?_;refine s_d hG ?_ ?_;·exact tt9
 refine ak (ar ?_);refine bj (fun(z:List Int×List Int)=>(⟨[(4,.l (.ownP 4 0)),(5,.l (.z (.slice (.int .u32)) z.1)),(6,.l (.z (.slice (.int .u32)) z.2))],[(4,.box 89 [.z .bool false,.val (.slice none 0 0)])]⟩:aa)) (fun z=>zc x y z.1 z.2) (fun z=>(valL z.2).toNat) (x.2,y.2) ?_ ?_ ?_;·simp only[ml0,ml1,Nat.reduceLT,Nat.reduceEqDiff,Nat.reduceAdd,Nat.reduceMul,Nat.reduceSub,Nat.reduceLeDiff,Nat.reduceBEq,Nat.reduceBNe,reduceIte,reduceDIte,reduceCtorEq]
 ·exact zc.start hC
 ·rintro⟨u,v⟩ hz;try dsimp only at hz
  have hcc:2*(List.length x.2+List.length y.2)+4<1000000000000:=hC.hc;refine ak (s_g hG ?_);refine ao ?_ ?_
  ·intro hb0;(try simp only[bt] at hb0);refine aq (ah ?_);refine ar (s_q hG ?_ ?_)
   ·(try simp only[ba]);exact hz.side3 hC (ic (by omega))
   refine ag hG ?_ ?_
   ·(try simp only[ba]);exact hz.side4 hC (ic (by omega))
   refine aK ?_;show ∃ z,_;refine q_l ?_;exact hz.next hC (ic (by omega))
  ·intro hb0;(try simp only[bf] at hb0);refine aZ (aB ?_);refine av (au ?_);refine ah (ak ?_);refine s_g hG ?_;refine ao ?_ ?_
   ·intro hb1;(try simp only[bt] at hb1);refine s_q hG ?_ ?_
    ·(try simp only[ba]);exact⟨hz.hu.1,by have:=hz.hul;unfold CAP;omega⟩
    refine ay (az ?_);refine q_e [65] ?_;exact hz.stop (Fh (by omega))
   ·intro hb1;simp only[beq_eq_false_iff_ne,ne_eq] at hb1;refine aq (ah ?_);refine s_q hG ?_ ?_
    ·(try simp only[ba]);exact hz.side3 hC (ic (by omega))
    refine s_q hG ?_ ?_
    ·(try simp only[ba]);have hr:=hz.rest (ic (by omega));exact⟨⟨hz.hv.1,by omega⟩,hz.side4 hC (ic (by omega)),hr.1.1,by omega⟩
    (refine ak (ar ?_);refine bj (fun(z:Int×Int)=>(⟨[(4,.l (.ownP 4 0)),(11,.l (.z (.int .u64) z.1)),(12,.l (.z (.int .u64) z.2))],[(4,.box 89 [.z .bool false,.val (.slice none 0 0)])]⟩:aa)) (fun z=>zd x y z.1 z.2) (fun z=>z.2.toNat) (valL v,valL (enc (dec (false,eu u v))).2) ?_ ?_ ?_;·simp only[ml0,ml1,Nat.reduceLT,Nat.reduceEqDiff,Nat.reduceAdd,Nat.reduceMul,Nat.reduceSub,Nat.reduceLeDiff,Nat.reduceBEq,Nat.reduceBNe,reduceIte,reduceDIte,reduceCtorEq]);·exact zd.start hz hC (ic (by omega)) (by omega)
    ·rintro⟨a,b⟩ he;(try dsimp only at he);refine ak (s_g hG ?_);refine ao ?_ ?_
     ·intro hb2;(try simp only[bt] at hb2);refine aq (ah ?_);refine ar (ib hG ?_ ?_)
      ·(try simp only[ba]);omega
      refine aK ?_;show ∃ z,_;refine q_l ?_;exact he.next hb2
     ·(intro hb2;(try simp only[decide_eq_false_iff_not] at hb2);have he2:=he.stop hb2;refine aZ (aB ?_);refine av (au ?_);refine ah (s_g hG ?_);refine ak (ar ?_);refine bj (fun(z:Nat×List Int)=>(⟨[(11,.l (.z (.int .u64) (z.1:Int))),(13,.l (.ownP 13 0)),(4,.l (.ownP 4 0))],[(13,.box 89 [.z .bool false,.ownS 65]),(65,.arr (.int .u32) 161 z.2),(4,.box 89 [.z .bool false,.val (.slice none 0 0)])]⟩:aa)) (fun z=>z.2++limbs z.1=limbs (cg (dec x) (dec y)).toNat/\z.1<18446744073709551616) (fun z=>z.1) ((cg (dec x) (dec y)).toNat,[]) ?_ ?_ ?_;·refine q_l ?_;exact⟨he2.1,by unfold ioB;omega⟩);·exact⟨by simp,he2.2⟩
      ·rintro⟨w,l⟩ ⟨g1,g2⟩;(try dsimp only at g1 g2);refine ak (s_g hG ?_);refine ao ?_ ?_
       ·intro hb3;(try simp only[bt] at hb3);refine aq (ah ?_);refine ak (ar ?_);refine ag hG ?_ ?_
        ·(try simp only[ba]);have h3:=nT he2.2;have h4:=congrArg List.length g1;simp only[List.length_append] at h4;exact⟨by decide,by unfold Cm.Roomy;omega⟩
        (refine aK (ah ?_);refine ag hG ?_ ?_;·exact tt9);show ∃ z,_;refine q_l ?_;exact qO g1 g2 hb3
       ·intro hb3;(try simp only[bf] at hb3);refine aZ (aB ?_);refine av (au ?_);refine ah (s_g hG ?_);refine ay (q_e [65] ?_);(have h0:w=0:=by omega);subst h0;rw[show limbs 0= [] by simp[limbs],List.append_nil] at g1;rw[g1];exact Qy _ _
def rZ(B:aj):Tab:={types:= [(3,(.int .i64)),(4,.bool),(87,(.slice (.int .u32))),(89,tyW),(91,tyN),(161,(.int .u32))],elems:= [],cons:= [(147,ym),(148,Ct),(149,IF)],hint:= [2,3,5],N:=43,base:=B}
theorem CO{B:aj}(hB:aC B):aI Tryz.prog (rZ B):=⟨⟨tc ty3 (tc ty4 (tc js (tc iJ (tc ty91 (tc gG (ae)))))),af,by simp only[rZ,ioB];omega⟩,aG (cc Tryz.func147 (IH hB) (cc Tryz.func148 (zM hB) (cc Tryz.func149 (Sc hB) (aA)))),by kernel_rfl⟩
def nI:Con:=fun l os=>match l,os with
 | [.z (.st (.pair .bool (.slice (.int .u32)))) n,.z (.st (.pair .bool (.slice (.int .u32)))) d],[]=>some (iO n d,[.z tyN (br (Rat.divInt (dec n) (dec d)))],[])
 |_,_=>none
theorem na{B:aj}(hB:aC B):Valid B Tryz.prog 108 nI:=by
 refine ab (CO hB).tab Tryz.func108 rfl rfl rfl ?_;intro args os C rs os' hc hC;unfold nI at hc;split at hc;case h_2=>cases hc
 rename_i n d;cases hc;refine v_h (CO hB) fun X hP hT hr hG=> ?_;have hU:=rZ.eq_1;unfold rZ at hT;have hX:=ai @IF.eq_1<|ai @ym.eq_1<| @Ct.eq_1;simp only[Tryz.f108,aD,an,ioB];refine s_g hG ?_;refine s_q hG ?_ ?_
 ·try simp only[ba]
  exact S4 hC
 refine ct (fun(z:Int)=>(⟨[(2,.l (.ownP 2 0)),(3,.l (.ownP 3 0)),(4,.l (.ownP 4 0)),(5,.l (.ownP 5 0))],[(2,.box 89 [.z .bool n.1,.z (.slice (.int .u32)) n.2]),(3,.box 89 [.z .bool d.1,.z (.slice (.int .u32)) d.2]),(4,.box 91 [.z .bool false,.val (.slice none 0 0),.z .bool false,.val (.slice none 0 0)]),(5,.box 89 [.z .bool (enc z).1,.z (.slice (.int .u32)) (enc z).2])]⟩:aa)) (fun z=>z=dP (dec n) (dec d)) ?_ ?_
 ·refine s_g hG ?_;refine ao ?_ ?_
  ·intro hb0;(try simp only[bt] at hb0);refine ag hG ?_ ?_
   ·(try simp only[ba]);exact S5 hC
   show ∃ z,_;refine q_l ?_;(try simp only[pe,b5]);first|exact⟨_,rfl,rfl,TZ hC hb0⟩|exact⟨_,rfl,rfl,T1 hC hb0⟩
  ·intro hb0;(try simp only[bf] at hb0);refine aq ?_;show ∃ z,_;refine q_l ?_;(try simp only[pe,b5]);first|exact⟨_,rfl,rfl,TZ hC hb0⟩|exact⟨_,rfl,rfl,T1 hC hb0⟩
 rintro g hg;try dsimp only at hg
 subst hg;have hp:=mk_pos hC;refine ak (s_q hG ?_ ?_)
 ·try simp only[ba]
  (repeat' (first|apply And.intro|intro _))<;>(try simp only[decide_eq_true_eq,decide_eq_false_iff_not,Bool.not_eq_true',beq_iff_eq,Int.toNat_natCast] at*)<;>first|assumption|omega|trivial|(simp_all;done)|(simp_all;omega)
 refine ao ?_ ?_
 ·intro hb1;try simp only[bt] at hb1
  refine s_q hG ?_ ?_
  ·(try simp only[ba]);exact(Nm hC).1
  refine ag hG ?_ ?_
  ·(try simp only[ba]);exact(Nm hC).2
  refine ah (s_g hG ?_);refine ay (q_e [] ?_);simp only[pe,b5];exact(nW hC.2.2.1).symm
 ·intro hb1;try simp only[bf] at hb1
  refine aq (ah ?_);refine s_g hG ?_;refine ay (q_e [] ?_);exact S6 hC hb1
def sa(B:aj):Tab:={types:= [(89,tyW),(91,tyN)],elems:= [],cons:= [(108,nI),(109,Cv),(110,Cu)],hint:= [],N:=22,base:=B}
theorem CP{B:aj}(hB:aC B):aI Tryz.prog (sa B):=⟨⟨tc iJ (tc ty91 (ae)),af,by simp only[sa,ioB];omega⟩,aG (cc Tryz.func108 (na hB) (cc Tryz.func109 (zS hB) (cc Tryz.func110 (zR hB) (aA)))),by kernel_rfl⟩
def nJ:Con:=fun l os=>match l,os with
 | [.z (.st (.pair (.st (.pair .bool (.slice (.int .u32)))) (.st (.pair .bool (.slice (.int .u32)))))) x,.z (.st (.pair (.st (.pair .bool (.slice (.int .u32)))) (.st (.pair .bool (.slice (.int .u32)))))) y],[]=>some (ie x y,[.z tyN (br (bF x+bF y))],[])
 |_,_=>none
theorem nb{B:aj}(hB:aC B):Valid B Tryz.prog 58 nJ:=by
 refine ab (CP hB).tab Tryz.func58 rfl rfl rfl ?_;intro args os C rs os' hc hC;unfold nJ at hc;split at hc;case h_2=>cases hc
 rename_i x y;cases hc;refine v_h (CP hB) fun X hP hT hr hG=> ?_;have hU:=sa.eq_1;unfold sa at hT;have hX:=ai @Cu.eq_1<|ai @nI.eq_1<| @Cv.eq_1;simp only[Tryz.f58,aD,an,ioB];refine s_g hG ?_;refine s_d hG ?_ ?_
 ·try simp only[ba]
  exact JU hC
 refine ay (q_e [] ?_);simp only[pe2];exact Nn hC
def sc(B:aj):Tab:={types:= [(89,tyW),(91,tyN)],elems:= [],cons:= [(148,Ct)],hint:= [],N:=9,base:=B}
theorem CQ{B:aj}(hB:aC B):aI Tryz.prog (sc B):=⟨⟨tc iJ (tc ty91 (ae)),af,by simp only[sc,ioB];omega⟩,aG (cc Tryz.func148 (zM hB) (aA)),by kernel_rfl⟩
def II:Con:=fun l os=>match l,os with
 | [.z (.st (.pair (.st (.pair .bool (.slice (.int .u32)))) (.st (.pair .bool (.slice (.int .u32)))))) x],[]=>some (NOK x/\lq (bF x)<=QC,[.z tyN (br (-bF x))],[])
 |_,_=>none
theorem KX{B:aj}(hB:aC B):Valid B Tryz.prog 111 II:=by
 refine ab (CQ hB).tab Tryz.func111 rfl rfl rfl ?_;intro args os C rs os' hc hC;unfold II at hc;split at hc;case h_2=>cases hc
 rename_i x;cases hc;refine v_h (CQ hB) fun X hP hT hr hG=> ?_;have hU:=sc.eq_1;unfold sc at hT;have hX:= @Ct.eq_1;simp only[Tryz.f111,aD,an,ioB];refine s_g hG ?_;refine s_d hG ?_ ?_
 ·try simp only[ba]
  exact JV hC
 refine ay (q_e [] ?_);exact Np hC.1
def sd(B:aj):Tab:={types:= [(91,tyN)],elems:= [],cons:= [(58,nJ),(111,II)],hint:= [],N:=9,base:=B}
theorem CR{B:aj}(hB:aC B):aI Tryz.prog (sd B):=⟨⟨tc ty91 (ae),af,by simp only[sd,ioB];omega⟩,aG (cc Tryz.func58 (nb hB) (cc Tryz.func111 (KX hB) (aA))),by kernel_rfl⟩
def gj:Con:=fun l os=>match l,os with
 | [.z (.st (.pair (.st (.pair .bool (.slice (.int .u32)))) (.st (.pair .bool (.slice (.int .u32)))))) x,.z (.st (.pair (.st (.pair .bool (.slice (.int .u32)))) (.st (.pair .bool (.slice (.int .u32)))))) y],[]=>some (ie x y,[.z tyN (br (bF x-bF y))],[])
 |_,_=>none
theorem yn{B:aj}(hB:aC B):Valid B Tryz.prog 60 gj:=by
 refine ab (CR hB).tab Tryz.func60 rfl rfl rfl ?_;intro args os C rs os' hc hC;unfold gj at hc;split at hc;case h_2=>cases hc
 rename_i x y;cases hc;refine v_h (CR hB) fun X hP hT hr hG=> ?_;have hU:=sd.eq_1;unfold sd at hT;have hX:=ai @nJ.eq_1<| @II.eq_1;simp only[Tryz.f60,aD,an,ioB];refine s_g hG ?_;refine s_d hG ?_ ?_
 ·try simp only[ba]
  exact JW hC
 refine ay (q_e [] ?_);simp only[pe2];exact Nq x y
def se(B:aj):Tab:={types:= [(89,tyW),(91,tyN)],elems:= [],cons:= [(108,nI),(109,Cv)],hint:= [],N:=16,base:=B}
theorem CS{B:aj}(hB:aC B):aI Tryz.prog (se B):=⟨⟨tc iJ (tc ty91 (ae)),af,by simp only[se,ioB];omega⟩,aG (cc Tryz.func108 (na hB) (cc Tryz.func109 (zS hB) (aA))),by kernel_rfl⟩
def eQ:Con:=fun l os=>match l,os with
 | [.z (.st (.pair (.st (.pair .bool (.slice (.int .u32)))) (.st (.pair .bool (.slice (.int .u32)))))) x,.z (.st (.pair (.st (.pair .bool (.slice (.int .u32)))) (.st (.pair .bool (.slice (.int .u32)))))) y],[]=>some (ie x y,[.z tyN (br (bF x*bF y))],[])
 |_,_=>none
theorem nc{B:aj}(hB:aC B):Valid B Tryz.prog 105 eQ:=by
 refine ab (CS hB).tab Tryz.func105 rfl rfl rfl ?_;intro args os C rs os' hc hC;unfold eQ at hc;split at hc;case h_2=>cases hc
 rename_i x y;cases hc;refine v_h (CS hB) fun X hP hT hr hG=> ?_;have hU:=se.eq_1;unfold se at hT;have hX:=ai @nI.eq_1<| @Cv.eq_1;simp only[Tryz.f105,aD,an,ioB];refine s_g hG ?_;refine s_d hG ?_ ?_
 ·try simp only[ba]
  exact JX hC
 refine ay (q_e [] ?_);simp only[pe2];exact Nr hC
def sf(B:aj):Tab:={types:= [(89,tyW),(91,tyN)],elems:= [],cons:= [(108,nI),(109,Cv)],hint:= [],N:=16,base:=B}
theorem CT{B:aj}(hB:aC B):aI Tryz.prog (sf B):=⟨⟨tc iJ (tc ty91 (ae)),af,by simp only[sf,ioB];omega⟩,aG (cc Tryz.func108 (na hB) (cc Tryz.func109 (zS hB) (aA))),by kernel_rfl⟩
def gk:Con:=fun l os=>match l,os with
 | [.z (.st (.pair (.st (.pair .bool (.slice (.int .u32)))) (.st (.pair .bool (.slice (.int .u32)))))) x,.z (.st (.pair (.st (.pair .bool (.slice (.int .u32)))) (.st (.pair .bool (.slice (.int .u32)))))) y],[]=>some (ie x y/\bF y≠0,[.z tyN (br (bF x/bF y))],[])
 |_,_=>none
theorem yo{B:aj}(hB:aC B):Valid B Tryz.prog 119 gk:=by
 refine ab (CT hB).tab Tryz.func119 rfl rfl rfl ?_;intro args os C rs os' hc hC;unfold gk at hc;split at hc;case h_2=>cases hc
 rename_i x y;cases hc;refine v_h (CT hB) fun X hP hT hr hG=> ?_;have hU:=sf.eq_1;unfold sf at hT;have hX:=ai @nI.eq_1<| @Cv.eq_1;simp only[Tryz.f119,aD,an,ioB];refine s_g hG ?_;refine s_d hG ?_ ?_
 ·try simp only[ba]
  exact JY hC
 refine ay (q_e [] ?_);simp only[pe2];exact Ns hC.1
def sg(B:aj):Tab:={types:= [(89,tyW),(91,tyN)],elems:= [],cons:= [(154,ra)],hint:= [],N:=6,base:=B}
theorem CU{B:aj}(hB:aC B):aI Tryz.prog (sg B):=⟨⟨tc iJ (tc ty91 (ae)),af,by simp only[sg,ioB];omega⟩,aG (cc Tryz.func154 (zO hB) (aA)),by kernel_rfl⟩
def mu:Con:=fun l os=>match l,os with
 | [.z (.st (.pair (.st (.pair .bool (.slice (.int .u32)))) (.st (.pair .bool (.slice (.int .u32)))))) x],[]=>some (NOK x,[.z (.int .i64) (bg (bF x).num 0)],[])
 |_,_=>none
theorem qg{B:aj}(hB:aC B):Valid B Tryz.prog 114 mu:=by
 refine ab (CU hB).tab Tryz.func114 rfl rfl rfl ?_;intro args os C rs os' hc hC;unfold mu at hc;split at hc;case h_2=>cases hc
 rename_i x;cases hc;refine v_h (CU hB) fun X hP hT hr hG=> ?_;have hU:=sg.eq_1;unfold sg at hT;have hX:= @ra.eq_1;simp only[Tryz.f114,aD,an,ioB];refine s_g hG ?_;refine s_q hG ?_ ?_
 ·try simp only[ba]
  exact hC.w1
 refine ay (q_e [] ?_);rw[hC.d1]
def si(B:aj):Tab:={types:= [(3,(.int .i64)),(89,tyW),(91,tyN)],elems:= [],cons:= [(108,nI),(133,kd)],hint:= [],N:=10,base:=B}
theorem CW{B:aj}(hB:aC B):aI Tryz.prog (si B):=⟨⟨tc ty3 (tc iJ (tc ty91 (ae))),af,by simp only[si,ioB];omega⟩,aG (cc Tryz.func108 (na hB) (cc Tryz.func133 (rK hB) (aA))),by kernel_rfl⟩
def KY:Con:=fun l os=>match l,os with
 | [.z (.int .i64) n,.z (.int .i64) d],[]=>some (I64 n/\I64 d/\d≠0,[.z tyN (br (Rat.divInt n d))],[])
 |_,_=>none
theorem yp{B:aj}(hB:aC B):Valid B Tryz.prog 124 KY:=by
 refine ab (CW hB).tab Tryz.func124 rfl rfl rfl ?_;intro args os C rs os' hc hC;unfold KY at hc;split at hc;case h_2=>cases hc
 rename_i n d;cases hc;refine v_h (CW hB) fun X hP hT hr hG=> ?_;have hU:=si.eq_1;unfold si at hT;have hX:=ai @nI.eq_1<| @kd.eq_1;simp only[Tryz.f124,aD,an,ioB];refine s_g hG ?_;refine s_q hG ?_ ?_
 ·try simp only[ba]
  exact Nt hC
 refine ay (q_e [] ?_);simp only[pe2];exact QO n d
def sj(B:aj):Tab:={types:= [(3,(.int .i64)),(91,tyN)],elems:= [],cons:= [(124,KY)],hint:= [],N:=2,base:=B}
theorem CX{B:aj}(hB:aC B):aI Tryz.prog (sj B):=⟨⟨tc ty3 (tc ty91 (ae)),af,by simp only[sj,ioB];omega⟩,aG (cc Tryz.func124 (yp hB) (aA)),by kernel_rfl⟩
def eR:Con:=fun l os=>match l,os with
 | [],[]=>some (True,[.z tyN (br 0)],[])
 |_,_=>none
theorem nd{B:aj}(hB:aC B):Valid B Tryz.prog 113 eR:=by
 refine ab (CX hB).tab Tryz.func113 rfl rfl rfl ?_;intro args os C rs os' hc hC;unfold eR at hc;split at hc;case h_2=>cases hc
 cases hc;refine v_h (CX hB) fun X hP hT hr hG=> ?_;have hU:=sj.eq_1;unfold sj at hT;have hX:= @KY.eq_1;simp only[Tryz.f113,aD,an,ioB];refine s_g hG ?_;refine s_q hG ?_ ?_
 ·try simp only[ba]
  exact⟨by unfold I64;omega,by unfold I64;omega,by decide⟩
 refine ay (q_e [] ?_);simp only[pe2];rw[zero_divInt]
def sk(B:aj):Tab:={types:= [(3,(.int .i64)),(87,(.slice (.int .u32))),(89,tyW),(91,tyN),(161,(.int .u32))],elems:= [],cons:= [],hint:= [],N:=16,base:=B}
theorem CY{B:aj}(hB:aC B):aI Tryz.prog (sk B):=⟨⟨tc ty3 (tc js (tc iJ (tc ty91 (tc gG (ae))))),af,by simp only[sk,ioB];omega⟩,bI rfl,by kernel_rfl⟩
def sl:Con:=fun l os=>match l,os with
 | [.z (.st (.pair (.st (.pair .bool (.slice (.int .u32)))) (.st (.pair .bool (.slice (.int .u32)))))) x],[]=>some (NOK x,[.z .bool (decide ((bF x).den=1))],[])
 |_,_=>none
theorem KZ{B:aj}(hB:aC B):Valid B Tryz.prog 170 sl:=by
 refine ab (CY hB).tab Tryz.func170 rfl rfl rfl ?_;intro args os C rs os' hc hC;unfold sl at hc;split at hc;case h_2=>cases hc
 rename_i x;cases hc;refine v_h (CY hB) fun X hP hT hr hG=> ?_;have hU:=sk.eq_1;unfold sk at hT;have hX:=Bool.not_true;simp only[Tryz.f170,aD,an,ioB];refine s_g hG ?_;refine s_q hG ?_ ?_
 ·try simp only[ba]
  (repeat' (first|apply And.intro|intro _))<;>(try simp only[decide_eq_true_eq,decide_eq_false_iff_not,Bool.not_eq_true',beq_iff_eq,Int.toNat_natCast] at*)<;>first|assumption|omega|trivial|(simp_all;done)|(simp_all;omega)
 refine ay (q_e [] ?_);exact Fs hC
def sn(B:aj):Tab:={types:= [(3,(.int .i64)),(89,tyW),(91,tyN)],elems:= [],cons:= [(169,rJ)],hint:= [],N:=17,base:=B}
theorem CZ{B:aj}(hB:aC B):aI Tryz.prog (sn B):=⟨⟨tc ty3 (tc iJ (tc ty91 (ae))),af,by simp only[sn,ioB];omega⟩,aG (cc Tryz.func169 (R6 hB) (aA)),by kernel_rfl⟩
def qh:Con:=fun l os=>match l,os with
 | [.z (.st (.pair (.st (.pair .bool (.slice (.int .u32)))) (.st (.pair .bool (.slice (.int .u32)))))) x,.z (.int .i64) k],[]=>some (NOK x/\lq (bF x)<=QC,[.z .bool (decide (c7 (bF x).num<=k/\c7 ((bF x).den:Int)<=k))],[])
 |_,_=>none
theorem yq{B:aj}(hB:aC B):Valid B Tryz.prog 129 qh:=by
 refine ab (CZ hB).tab Tryz.func129 rfl rfl rfl ?_;intro args os C rs os' hc hC;unfold qh at hc;split at hc;case h_2=>cases hc
 rename_i x k;cases hc;refine v_h (CZ hB) fun X hP hT hr hG=> ?_;have hU:=sn.eq_1;unfold sn at hT;have hX:= @rJ.eq_1;simp only[Tryz.f129,aD,an,ioB];refine s_g hG ?_;refine s_q hG ?_ ?_
 ·try simp only[ba]
  exact⟨(kY hC).1,id,fun h=>⟨h,(kY hC).2⟩,id⟩
 refine ay (q_e [] ?_);exact JZ k hC.1
def so(B:aj):Tab:={types:= [(89,tyW),(91,tyN)],elems:= [],cons:= [],hint:= [],N:=8,base:=B}
theorem C3{B:aj}(hB:aC B):aI Tryz.prog (so B):=⟨⟨tc iJ (tc ty91 (ae)),af,by simp only[so,ioB];omega⟩,bI rfl,by kernel_rfl⟩
def sr:Con:=fun l os=>match l,os with
 | [.z (.st (.pair (.st (.pair .bool (.slice (.int .u32)))) (.st (.pair .bool (.slice (.int .u32)))))) x],[]=>some (True,[.z tyW x.1,.z tyW x.2],[])
 |_,_=>none
theorem K0{B:aj}(hB:aC B):Valid B Tryz.prog 167 sr:=by
 refine ab (C3 hB).tab Tryz.func167 rfl rfl rfl ?_;intro args os C rs os' hc hC;unfold sr at hc;split at hc;case h_2=>cases hc
 rename_i x;cases hc;refine v_h (C3 hB) fun X hP hT hr hG=> ?_;have hU:=so.eq_1;unfold so at hT;have hX:=Bool.not_true;simp only[Tryz.f167,aD,an,ioB];refine s_g hG ?_;refine s_d hG ?_ ?_;·exact tt9
 refine ay (q_e [] ?_);trivial
def ss(B:aj):Tab:={types:= [(9,.str),(89,tyW),(91,tyN)],elems:= [],cons:= [(144,GU),(170,sl)],hint:= [],N:=16,base:=B}
theorem C4{B:aj}(hB:aC B):aI Tryz.prog (ss B):=⟨⟨tc ty9 (tc iJ (tc ty91 (ae))),af,by simp only[ss,ioB];omega⟩,aG (cc Tryz.func144 (Qr hB) (cc Tryz.func170 (KZ hB) (aA))),by kernel_rfl⟩
def Ad:Con:=fun l os=>match l,os with
 | [.z (.st (.pair (.st (.pair .bool (.slice (.int .u32)))) (.st (.pair .bool (.slice (.int .u32)))))) x],[]=>some (NOK x/\lq (bF x)<=QC,[.z .str (aU (bF x))],[])
 |_,_=>none
theorem K1{B:aj}(hB:aC B):Valid B Tryz.prog 130 Ad:=by
 refine ab (C4 hB).tab Tryz.func130 rfl rfl rfl ?_;intro args os C rs os' hc hC;unfold Ad at hc;split at hc;case h_2=>cases hc
 rename_i x;cases hc;refine v_h (C4 hB) fun X hP hT hr hG=> ?_;have hU:=ss.eq_1;unfold ss at hT;have hX:=ai @sl.eq_1<| @GU.eq_1;simp only[Tryz.f130,aD,an,ioB];refine s_g hG ?_;refine ak (s_q hG ?_ ?_)
 ·try simp only[ba]
  exact hC.1
 refine ao ?_ ?_
 ·intro hb0;try simp only[bt] at hb0
  refine s_q hG ?_ ?_
  ·(try simp only[ba]);exact BI hC
  refine ay (az ?_);refine q_e [] ?_;exact J0 hC.1 hb0
 ·intro hb0;try simp only[bf] at hb0
  refine aq (ah ?_);refine s_d hG ?_ ?_
  ·(try simp only[ba]);exact BJ hC
  refine ay (q_e [] ?_);exact J1 hC.1 hb0
end Go.Proofs.YtdojbabpnaifoaaGreatDoor
end
section
namespace Go.Proofs
open Go.RowKit Go.Cm
def K2:Con:=fun l os=>match l,os with
 | [.z .str s,.z .str t],[]=>some (t= [47]/\s.length<4294967281,[.z .str (tN s),.z .str (if bJ s=true then tR s else []),.z .bool (bJ s)],[])
 |_,_=>none
theorem yr{B:aj}(hB:aC B):Valid B Tryz.prog 131 K2:=by
 intro args os C rs os' hc hC O w vals ρ0 hOn hIo hO hOI hargs hown hap;unfold K2 at hc;split at hc;case h_2=>cases hc
 rename_i s t;cases hc;obtain⟨u,v,rfl,hu,hv⟩:=A9 hargs;rw[gw hv,gw hu];obtain⟨rfl,h1⟩:=hC;obtain⟨m,hm⟩:=hB.2 w hOn;have hsz:(⟨s.toArray⟩:ByteArray).size=s.length:=by simp[ByteArray.size]
 refine(Tryz.strings_Cut ⟨s.toArray⟩ ⟨[47].toArray⟩ m w (by rw[hsz];exact h1) hm).mono fun e w' ⟨he,n,hw⟩=> ?_;have hb:Below w.heap.size w w':=by rw[hw];exact⟨rfl,rfl,rfl,Nat.le_refl _,fun _ _=>rfl⟩
 have e1:Lib.cut (⟨s.toArray⟩:ByteArray).data.toList (⟨[47].toArray⟩:ByteArray).data.toList=(tN s,if bJ s=true then tR s else [],bJ s):=by simpa using J2 s
 rw[e1] at he;subst he;exact oI (vs:= [.string ⟨(tN s).toArray⟩,.string ⟨(if bJ s=true then tR s else []).toArray⟩,.bool (bJ s)]) hb (fun H M=>⟨fG (ρ:=fun _=>undef),fG (ρ:=fun _=>undef),cb (ρ:=fun _=>undef),trivial⟩)
end Go.Proofs
end
section
namespace Go.Proofs.YtdojbabpnaifoaaGreatDoor
open Go Go.Cm Go.Proofs
def IJ(B:aj):Tab:={types:= [(3,(.int .i64)),(5,(.int .u8)),(9,.str),(47,(.slice (.int .u8)))],elems:= [(47,5)],cons:= [(172,fD)],hint:= [],N:=38,base:=B}
theorem Pu{B:aj}(hB:aC B):aI Tryz.prog (IJ B):=⟨⟨tc ty3 (tc ty5 (tc ty9 (tc TW (ae)))),aT (by kernel_rfl) (af),by simp only[IJ,ioB];omega⟩,aG (cc Tryz.func172 (Ie hB) (aA)),by kernel_rfl⟩
def Ae:Con:=fun l os=>match l,os with
 | [.z .str s],[]=>some (oM s,[.z (.int .i64) (chk s)],[])
 |_,_=>none
theorem Se{B:aj}(hB:aC B):Valid B Tryz.prog 142 Ae:=by
 refine ab (Pu hB).tab Tryz.func142 rfl rfl rfl ?_;intro args os C rs os' hc hC;unfold Ae at hc;split at hc;case h_2=>cases hc
 rename_i s;cases hc;refine v_h (Pu hB) fun X hP hT hr hG=> ?_;have hU:=IJ.eq_1;unfold IJ at hT;have hX:= @fD.eq_1;simp only[Tryz.f142,aD,an,ioB];refine s_g hG ?_;refine GK (s_g hG ?_);refine s_g hG ?_;refine ak (GJ ?_);refine ah (ct (fun(z:Int)=>(⟨[(4,.l (.z (.int .i64) z))],[]⟩:aa)) (fun z=>z=chk s) ?_ ?_)
 ·refine ar (s_g hG ?_);refine ao ?_ ?_;·intro hb0;(try simp only[bt] at hb0);refine aq (aK ?_);show ∃ z,_;refine q_l ?_;first|(rw[hb0];exact lY.symm)|exact(jd hb0 ((je _).1 hb1)).symm|exact(mN hb0 (eC hb1) (by rw[dM] at hb2;omega) (lZ hb3)).symm|(rw[dM] at hb2;rw[jq hb0 (eC hb1) (by rw[List.take_of_length_le (by omega)] at g2;exact g2)];first|rw[if_pos (by omega)]|rw[if_neg (by omega)])
  ·intro hb0;(try simp only[bf] at hb0);refine s_q hG ?_ ?_
   ·(try simp only[ba]);exact MN _
   refine ao ?_ ?_
   ·(intro hb1;(try simp only[bt] at hb1);refine ag hG ?_ ?_;·exact tt9);refine aK ?_;show ∃ z,_;refine q_l ?_;first|(rw[hb0];exact lY.symm)|exact(jd hb0 ((je _).1 hb1)).symm|exact(mN hb0 (eC hb1) (by rw[dM] at hb2;omega) (lZ hb3)).symm|(rw[dM] at hb2;rw[jq hb0 (eC hb1) (by rw[List.take_of_length_le (by omega)] at g2;exact g2)];first|rw[if_pos (by omega)]|rw[if_neg (by omega)])
   ·intro hb1;(try simp only[bf] at hb1);refine ak (s_q hG ?_ ?_)
    ·(try simp only[ba]);have:=fA s [45];have hC:s.length<70368744177664:=hC;omega
    (refine ar (bj (fun(z:Nat)=>(⟨[(0,.l (.z .str s)),(3,.l (.z .str (aw s [45]))),(4,.l (.z (.int .i64) 0)),(10,.l (.z (.slice (.int .u8)) (bytesOf (aw s [45])))),(11,.l (.z (.int .i64) ((bytesOf (aw s [45])).length:Int))),(12,.l (.z (.int .i64) (z:Int)))],[]⟩:aa)) (fun z=>z<=(aw s [45]).length/\(List.take z (aw s [45])).all fY=true) (fun z=>(aw s [45]).length-z) 0 ?_ ?_ ?_);·refine q_l ?_;rfl);·exact⟨Nat.zero_le _,rfl⟩
    ·rintro k ⟨g1,g2⟩;(try dsimp only at g1 g2);have hS:(aw s [45]).length<70368744177664:=Nat.lt_of_le_of_lt (fA s _) hC;refine s_g hG ?_;refine ak (ao ?_ ?_)
     ·intro hb2;(try simp only[bt] at hb2);refine aq (ah ?_);refine ak (ar ?_);refine s_q hG ?_ ?_
      ·(try simp only[ba]);exact⟨by omega,hb2⟩
      refine s_q hG ?_ ?_
      ·(try simp only[ba]);exact⟨fun h=>h,fun h=>by rw[h];rfl⟩
      refine ao ?_ ?_;·intro hb3;(try simp only[bt] at hb3);refine s_g hG ?_;refine aZ (jS rfl ?_);refine aB (av ?_);refine jS rfl ?_;refine aB (au ?_);show ∃ z,_;refine q_l ?_;first|(rw[hb0];exact lY.symm)|exact(jd hb0 ((je _).1 hb1)).symm|exact(mN hb0 (eC hb1) (by rw[dM] at hb2;omega) (lZ hb3)).symm|(rw[dM] at hb2;rw[jq hb0 (eC hb1) (by rw[List.take_of_length_le (by omega)] at g2;exact g2)];first|rw[if_pos (by omega)]|rw[if_neg (by omega)])
      ·(intro hb3;(try simp only[bf] at hb3);refine aq (aK ?_);refine ah (ag hG ?_ ?_);·exact tt9);show ∃ z,_;refine q_l ?_;rw[dM] at hb2;exact⟨k+1,by rw[wo];simp,by omega,nC g2 (JF hb3),by omega⟩
     ·intro hb2;(try simp only[bf] at hb2);refine aZ (aB ?_);refine av (au ?_);refine ah (s_g hG ?_);refine ao ?_ ?_
      ·(intro hb4;(try simp only[bt] at hb4);refine ag hG ?_ ?_;·exact tt9);refine aK ?_;show ∃ z,_;refine q_l ?_;first|(rw[hb0];exact lY.symm)|exact(jd hb0 ((je _).1 hb1)).symm|exact(mN hb0 (eC hb1) (by rw[dM] at hb2;omega) (lZ hb3)).symm|(rw[dM] at hb2;rw[jq hb0 (eC hb1) (by rw[List.take_of_length_le (by omega)] at g2;exact g2)];first|rw[if_pos (by omega)]|rw[if_neg (by omega)])
      ·intro hb4;(try simp only[bf] at hb4);refine aq (aK ?_);show ∃ z,_;refine q_l ?_;first|(rw[hb0];exact lY.symm)|exact(jd hb0 ((je _).1 hb1)).symm|exact(mN hb0 (eC hb1) (by rw[dM] at hb2;omega) (lZ hb3)).symm|(rw[dM] at hb2;rw[jq hb0 (eC hb1) (by rw[List.take_of_length_le (by omega)] at g2;exact g2)];first|rw[if_pos (by omega)]|rw[if_neg (by omega)])
 rintro z hz;try dsimp only at hz
 refine s_g hG ?_;refine ay (iw ?_);refine q_e [] ?_;exact hz
def su(B:aj):Tab:={types:= [(3,(.int .i64)),(4,.bool),(9,.str),(87,(.slice (.int .u32))),(89,tyW),(161,(.int .u32)),(164,(.int .u64))],elems:= [(87,161)],cons:= [(150,eI),(172,fD),(173,y7)],hint:= [],N:=44,base:=B}
theorem C5{B:aj}(hB:aC B):aI Tryz.prog (su B):=⟨⟨tc ty3 (tc ty4 (tc ty9 (tc js (tc iJ (tc gG (tc oP (ae))))))),aT (by kernel_rfl) (af),by simp only[su,ioB];omega⟩,aG (cc Tryz.func150 (lu hB) (cc Tryz.func172 (Ie hB) (cc Tryz.func173 (Qp hB) (aA)))),by kernel_rfl⟩
def Af:Con:=fun l os=>match l,os with
 | [.z .str s],[]=>some (RF s/\s.length<CAP,[.z tyW (enc (al s))],[])
 |_,_=>none
theorem K3{B:aj}(hB:aC B):Valid B Tryz.prog 132 Af:=by
 refine ab (C5 hB).tab Tryz.func132 rfl rfl rfl ?_;intro args os C rs os' hc hC;unfold Af at hc;split at hc;case h_2=>cases hc
 rename_i s;cases hc;refine v_h (C5 hB) fun X hP hT hr hG=> ?_;have hU:=su.eq_1;unfold su at hT;have hX:=ai @y7.eq_1<|ai @fD.eq_1<| @eI.eq_1;simp only[Tryz.f132,aD,an,ioB];refine s_g hG ?_;refine s_g hG ?_;refine s_g hG ?_;refine ak (s_g hG ?_);refine ar (bj (fun(z:Nat×List Int)=>(⟨[(3,.l (.z .str (aw s [45]))),(5,.l (.z (.int .i64) (((aw s [45]).length:Int)-9*(z.1:Int)))),(4,.l (.ownP 4 0)),(2,.l (.ownP 2 0))],[(4,.box 89 [.z .bool (decide ((aw s [45]).length<s.length)),.ownS 37]),(37,.arr (.int .u32) 161 z.2),(2,.box 89 [.z .bool false,.val (.slice none 0 0)])]⟩:aa)) (fun z=>ReadPhi (aw s [45]) z.1 z.2) (fun z=>(aw s [45]).length+9-9*z.1) (0,[]) ?_ ?_ ?_);·refine q_l ?_;exact⟨by show ((aw s [45]).length:Int)=((aw s [45]).length:Int)-9*((0:Nat):Int);omega,by congr 1;simp,by unfold ioB;omega⟩
 ·exact read_start
 ·rintro⟨r,out⟩ hz;try dsimp only at hz
  obtain⟨d1,d2,d4⟩:=iW hC.1;have d3:(aw s [45]).length<1000000000000:=Nat.lt_of_le_of_lt (fA s _) hC.2;have hz1:=hz.1;have hz4:=hz.2.2.2;refine ak (s_g hG ?_);refine ao ?_ ?_
  ·intro hb0;(try simp only[bt] at hb0);refine aq (ah ?_);refine ak (ar ?_);refine s_q hG ?_ ?_
   ·(try simp only[ba]);obtain⟨e1,e2,e3⟩:=xE hb0 d3;obtain⟨q1,q2,q3,q4,q5⟩:=read_next d1 hz hb0 rfl;rw[e1,e2,e3];exact⟨⟨by omega,by omega,by omega⟩,q1,q2,q3⟩
   refine ag hG ?_ ?_
   ·(try simp only[ba]);unfold Cm.Roomy;omega
   (refine aK (ah ?_);refine ag hG ?_ ?_;·exact tt9);show ∃ z,_;refine q_l ?_;obtain⟨e1,e2,e3⟩:=xE hb0 d3;obtain⟨q1,q2,q3,q4,q5⟩:=read_next d1 hz hb0 rfl;rw[e1,e2,e3];exact⟨r+1,by show ((aw s [45]).length:Int)-9*(r:Int)-9=((aw s [45]).length:Int)-9*((r+1:Nat):Int);omega,q4,by omega⟩
  ·intro hb0;(try simp only[bf] at hb0);refine aZ (aB ?_);refine av (au ?_);refine ah (s_q hG ?_ ?_)
   ·(try simp only[ba]);exact⟨hz.2.1,by unfold CAP;omega⟩
   refine ay (q_e [37] ?_);rw[read_end hz hb0]
def sv(B:aj):Tab:={types:= [(3,(.int .i64)),(9,.str),(91,tyN)],elems:= [],cons:= [(131,K2),(132,Af),(133,kd)],hint:= [],N:=23,base:=B}
theorem C6{B:aj}(hB:aC B):aI Tryz.prog (sv B):=⟨⟨tc ty3 (tc ty9 (tc ty91 (ae))),af,by simp only[sv,ioB];omega⟩,aG (cc Tryz.func131 (yr hB) (cc Tryz.func132 (K3 hB) (cc Tryz.func133 (rK hB) (aA)))),by kernel_rfl⟩
def rf:Con:=fun l os=>match l,os with
 | [.z .str q],[]=>some (e9 q,[.z tyN (iA q)],[])
 |_,_=>none
theorem qk{B:aj}(hB:aC B):Valid B Tryz.prog 90 rf:=by
 refine ab (C6 hB).tab Tryz.func90 rfl rfl rfl ?_;intro args os C rs os' hc hC;unfold rf at hc;split at hc;case h_2=>cases hc
 rename_i q;cases hc;refine v_h (C6 hB) fun X hP hT hr hG=> ?_;have hU:=sv.eq_1;unfold sv at hT;have hX:=ai @K2.eq_1<|ai @Af.eq_1<| @kd.eq_1;simp only[Tryz.f90,aD,an,ioB];refine s_g hG ?_;refine s_q hG ?_ ?_
 ·try simp only[ba]
  exact(pT hC).1
 refine ak (s_g hG ?_);refine ao ?_ ?_
 ·intro hb0;try simp only[bt] at hb0
  refine s_q hG ?_ ?_
  ·(try simp only[ba]);exact⟨(pT hC).2.1,by unfold I64;omega⟩
  refine ay (az ?_);refine q_e [] ?_;exact Nw hb0
 ·intro hb0;try simp only[bf] at hb0
  refine aq (ah ?_);refine s_q hG ?_ ?_
  ·(try simp only[ba]);rw[mc hb0];exact(pT hC).2
  refine ay (q_e [] ?_);rw[mc hb0];rfl
def sw(B:aj):Tab:={types:= [(3,(.int .i64)),(9,.str),(31,(.int .i64)),(46,.str),(89,tyW),(91,tyN),(151,(.st (.pair tyN (.int .i64))))],elems:= [],cons:= [(90,rf),(129,qh),(131,K2),(133,kd),(142,Ae),(147,ym),(167,sr),(168,R4)],hint:= [],N:=61,base:=B}
theorem C7{B:aj}(hB:aC B):aI Tryz.prog (sw B):=⟨⟨tc ty3 (tc ty9 (tc kq (tc iI (tc iJ (tc ty91 (tc SC (ae))))))),af,by simp only[sw,ioB];omega⟩,aG (cc Tryz.func90 (qk hB) (cc Tryz.func129 (yq hB) (cc Tryz.func131 (yr hB) (cc Tryz.func133 (rK hB) (cc Tryz.func142 (Se hB) (cc Tryz.func147 (IH hB) (cc Tryz.func167 (K0 hB) (cc Tryz.func168 (R5 hB) (aA))))))))),by kernel_rfl⟩
def Ag:Con:=fun l os=>match l,os with
 | [.z .str q],[]=>some (q.length<=QL,[.z (.st (.pair tyN (.int .i64))) (mb q)],[])
 |_,_=>none
theorem K4{B:aj}(hB:aC B):Valid B Tryz.prog 128 Ag:=by
 refine ab (C7 hB).tab Tryz.func128 rfl rfl rfl ?_;intro args os C rs os' hc hC;unfold Ag at hc;split at hc;case h_2=>cases hc
 rename_i q;cases hc;refine v_h (C7 hB) fun X hP hT hr hG=> ?_;have hU:=sw.eq_1;unfold sw at hT;have hX:=ai @Ae.eq_1<|ai @R4.eq_1<|ai @K2.eq_1<|ai @rf.eq_1<|ai @ym.eq_1<|ai @qh.eq_1<|ai @sr.eq_1<| @kd.eq_1;simp only[Tryz.f128,aD,an,ioB];refine s_g hG ?_;refine s_q hG ?_ ?_
 ·try simp only[ba]
  have h9:q.length<=1000000000:=hC;omega
 refine ct (fun(z:Unit)=>(⟨[(0,.l (.z .str q)),(2,.l (.ownP 2 0)),(3,.l (.z .str (tN q))),(4,.l (.z .str (tD q))),(5,.l (.z .bool (bJ q)))],[(2,.box 151 [.z .bool false,.val (.slice none 0 0),.z .bool false,.val (.slice none 0 0),.z (.int .i64) 0])]⟩:aa)) (fun z=>True) ?_ ?_
 ·refine s_g hG ?_;refine ao ?_ ?_
  ·(intro hb0;(try simp only[bt] at hb0);refine ag hG ?_ ?_;·exact tt9);show ∃ z,_;refine q_l ?_;first|exact zh hb0|exact mc hb0
  ·intro hb0;(try simp only[bf] at hb0);refine aq ?_;show ∃ z,_;refine q_l ?_;first|exact zh hb0|exact mc hb0
 rintro⟨⟩-;have hS:=Nx hC;refine ak (s_q hG ?_ ?_)
 ·try simp only[ba]
  exact⟨hS.1,fun h=>⟨h,hS.2⟩,fun h=>h,fun h=>by rw[h];rfl⟩
 refine ao ?_ ?_
 ·intro hb1;try simp only[bt] at hb1
  refine s_g hG ?_;refine ay (az ?_);refine q_e [] ?_;exact QR hb1
 ·intro hb1;try simp only[bf] at hb1
  have hF:=QQ hC hb1;refine aq (ah ?_);refine s_q hG ?_ ?_
  ·(try simp only[ba]);exact hF
  refine s_g hG ?_;refine s_q hG ?_ ?_
  ·(try simp only[ba]);unfold I64;omega
  refine ak (ar ?_);refine s_d hG ?_ ?_
  ·(try simp only[ba]);simp only[pe,iA,b5];exact⟨fun h=>⟨h,enc_ok _,enc_ok _,T2 hF⟩,fun h=>h,fun h=>h,fun h=>⟨h,S8 hF⟩,fun h=>⟨h,enc_ok _,enc_ok _,T3 hF⟩,fun h=>h,fun h=>⟨h,fun h2=>by rw[h,h2];rfl⟩,fun h=>h⟩
  refine ao ?_ ?_;·intro hb2;(try simp only[bt] at hb2);simp only[pe,iA,b5] at hb2;refine s_g hG ?_;refine ay (bl ?_);refine az (q_e [] ?_);exact QS hF hb2
  ·intro hb2;(try simp only[bf] at hb2);simp only[pe,iA,b5] at hb2;have hR:=T4 hF hb2;refine s_q hG ?_ ?_
   ·(try simp only[ba]);exact QT hR
   (refine ao ?_ ?_;·intro hb3;(try simp only[bt] at hb3);refine s_g hG ?_;refine ay (bl ?_);refine az (q_e [] ?_);exact Ta hR hb3);·intro hb3;(try simp only[bf] at hb3);refine aq (aK ?_);refine ah (s_g hG ?_);refine ay (q_e [] ?_);exact T5 hR hb3
def sA(B:aj):Tab:={types:= [(46,.str),(151,(.st (.pair tyN (.int .i64))))],elems:= [],cons:= [(128,Ag)],hint:= [],N:=6,base:=B}
theorem C8{B:aj}(hB:aC B):aI Tryz.prog (sA B):=⟨⟨tc iI (tc SC (ae)),af,by simp only[sA,ioB];omega⟩,aG (cc Tryz.func128 (K4 hB) (aA)),by kernel_rfl⟩
def nf:Con:=fun l os=>match l,os with
 | [.z .str q],[]=>some (q.length<=QL,[.z (.int .i64) (cx q)],[])
 |_,_=>none
theorem yt{B:aj}(hB:aC B):Valid B Tryz.prog 87 nf:=by
 refine ab (C8 hB).tab Tryz.func87 rfl rfl rfl ?_;intro args os C rs os' hc hC;unfold nf at hc;split at hc;case h_2=>cases hc
 rename_i q;cases hc;refine v_h (C8 hB) fun X hP hT hr hG=> ?_;have hU:=sA.eq_1;unfold sA at hT;have hX:= @Ag.eq_1;simp only[Tryz.f87,aD,an,ioB];refine s_g hG ?_;refine s_q hG ?_ ?_
 ·try simp only[ba]
  exact hC
 refine ay (q_e [] ?_);exact J3 q
def sB(B:aj):Tab:={types:= [(3,(.int .i64)),(22,(.slice .str)),(46,.str),(78,tyP)],elems:= [(78,91)],cons:= [(90,rf)],hint:= [18],N:=22,base:=B}
theorem C9{B:aj}(hB:aC B):aI Tryz.prog (sB B):=⟨⟨tc ty3 (tc dZ (tc iI (tc QA (ae)))),aT (by kernel_rfl) (af),by simp only[sB,ioB];omega⟩,aG (cc Tryz.func90 (qk hB) (aA)),by kernel_rfl⟩
def IK:Con:=fun l os=>match l,os with
 | [.z (.slice .str) l],[]=>some (l.length<QL/\∀ q∈l,e9 q,[.own tyN 91 (l.map iA)],[])
 |_,_=>none
theorem K5{B:aj}(hB:aC B):Valid B Tryz.prog 106 IK:=by
 refine ab (C9 hB).tab Tryz.func106 rfl rfl rfl ?_;intro args os C rs os' hc hC;unfold IK at hc;split at hc;case h_2=>cases hc
 rename_i l;cases hc;refine v_h (C9 hB) fun X hP hT hr hG=> ?_;have hU:=sB.eq_1;unfold sB at hT;have hX:= @rf.eq_1;simp only[Tryz.f106,aD,an,ioB];have hl:l.length<1000000000:=hC.1;refine s_g hG ?_;refine s_q hG ?_ ?_
 ·try simp only[ba]
  exact⟨by omega,by omega,vH (by omega)⟩
 refine ak (s_g hG ?_);refine ar (bj (fun(z:Nat)=>(⟨[(3,.l (.ownS 8)),(9,.l (.z (.slice .str) l)),(10,.l (.z (.int .i64) (l.length:Int))),(11,.l (.z (.int .i64) (z:Int)))],[(8,.arr tyN 91 ((l.take z).map iA))]⟩:aa)) (fun z=>z<=l.length) (fun z=>l.length-z) 0 ?_ ?_ ?_);·refine q_l ?_;exact⟨rfl,rfl⟩
 ·omega
 ·rintro k g1;try dsimp only at g1
  refine s_g hG ?_;refine ak (ao ?_ ?_)
  ·intro hb0;(try simp only[bt] at hb0);refine aq (ah ?_);refine ak (ar ?_);refine s_q hG ?_ ?_
   ·(try simp only[ba]);exact⟨by omega,hb0⟩
   refine ag hG ?_ ?_
   ·(try simp only[ba]);exact⟨hC.2 _ (eH (t:= .str) (by omega)),vH (by simp;omega)⟩
   (refine aK (ah ?_);refine ag hG ?_ ?_;·exact tt9);show ∃ z,_;refine q_l ?_;exact list_round (by omega) hC.1
  ·intro hb0;(try simp only[bf] at hb0);refine aZ (aB ?_);refine av (au ?_);refine ah (s_g hG ?_);refine ay (q_e [] ?_);exact⟨trivial,by rw[List.take_of_length_le (by omega)]⟩
def sC(B:aj):Tab:={types:= [(3,(.int .i64)),(22,(.slice .str)),(78,tyP),(91,tyN)],elems:= [(22,46)],cons:= [(129,qh),(130,Ad)],hint:= [],N:=26,base:=B}
theorem Da{B:aj}(hB:aC B):aI Tryz.prog (sC B):=⟨⟨tc ty3 (tc dZ (tc QA (tc ty91 (ae)))),aT (by kernel_rfl) (af),by simp only[sC,ioB];omega⟩,aG (cc Tryz.func129 (yq hB) (cc Tryz.func130 (K1 hB) (aA))),by kernel_rfl⟩
def ql:Con:=fun l os=>match l,os with
 | [.z (.slice (.st (.pair (.st (.pair .bool (.slice (.int .u32)))) (.st (.pair .bool (.slice (.int .u32))))))) l],[]=>some (l.length<QL/\∀ x∈l,NOK x/\lq (bF x)<=QC,[.z (.slice .str) (if dS l=true then l.map fun x=>aU (bF x) else []),.z .bool (dS l)],[])
 |_,_=>none
theorem yu{B:aj}(hB:aC B):Valid B Tryz.prog 88 ql:=by
 refine ab (Da hB).tab Tryz.func88 rfl rfl rfl ?_;intro args os C rs os' hc hC;unfold ql at hc;split at hc;case h_2=>cases hc
 rename_i l;cases hc;refine v_h (Da hB) fun X hP hT hr hG=> ?_;have hU:=sC.eq_1;unfold sC at hT;have hX:=ai @qh.eq_1<| @Ad.eq_1;simp only[Tryz.f88,aD,an,ioB];have hl:l.length<1000000000:=hC.1;refine s_g hG ?_;refine s_q hG ?_ ?_
 ·try simp only[ba]
  exact⟨by omega,by omega,zi (by omega)⟩
 refine ak (s_g hG ?_);refine ar (bj (fun(z:Nat)=>(⟨[(2,.l (.val (.slice none 0 0))),(3,.l (.z .bool false)),(4,.l (.ownS 9)),(10,.l (.z tyP l)),(11,.l (.z (.int .i64) (l.length:Int))),(12,.l (.z (.int .i64) (z:Int)))],[(9,.arr .str 46 ((l.take z).map fun x=>aU (bF x)))]⟩:aa)) (fun z=>z<=l.length/\dS (l.take z)=true) (fun z=>l.length-z) 0 ?_ ?_ ?_);·refine q_l ?_;exact⟨rfl,rfl⟩
 ·exact⟨by omega,by simp[dS]⟩
 ·rintro k ⟨g1,g2⟩;try dsimp only at g1 g2
  refine s_g hG ?_;refine ak (ao ?_ ?_)
  ·intro hb0;(try simp only[bt] at hb0);refine aq (ah ?_);refine ak (ar ?_);refine s_q hG ?_ ?_
   ·(try simp only[ba]);exact⟨by omega,hb0⟩
   refine ak (s_q hG ?_ ?_)
   ·(try simp only[ba]);exact hC.2 _ (eH (t:=NT) (by omega))
   refine ao ?_ ?_;·intro hb1;(try simp only[bt] at hb1);refine s_g hG ?_;refine ay (az ?_);refine bl (az ?_);refine c6 (bl ?_);refine az (q_e [9] ?_);exact J5 (by omega) hb1
   ·intro hb1;(try simp only[bf] at hb1);refine aq (ah ?_);refine ag hG ?_ ?_
    ·(try simp only[ba]);exact⟨⟨(hC.2 _ (eH (t:=NT) (by omega))).1,(hC.2 _ (eH (t:=NT) (by omega))).2⟩,zi (by simp;omega)⟩
    (refine aK (ah ?_);refine ag hG ?_ ?_;·exact tt9);show ∃ z,_;refine q_l ?_;exact BL (by omega) hC.1 g2 hb1
  ·intro hb0;(try simp only[bf] at hb0);refine aZ (aB ?_);refine av (au ?_);refine ah (s_g hG ?_);refine ay (q_e [9] ?_);exact J6 (by omega) g2
def sD(B:aj):Tab:={types:= [(3,(.int .i64)),(79,tyP),(91,tyN)],elems:= [],cons:= [(114,mu)],hint:= [],N:=25,base:=B}
theorem Db{B:aj}(hB:aC B):aI Tryz.prog (sD B):=⟨⟨tc ty3 (tc gF (tc ty91 (ae))),af,by simp only[sD,ioB];omega⟩,aG (cc Tryz.func114 (qg hB) (aA)),by kernel_rfl⟩
def kf:Con:=fun l os=>match l,os with
 | [.z (.slice (.st (.pair (.st (.pair .bool (.slice (.int .u32)))) (.st (.pair .bool (.slice (.int .u32))))))) p],[]=>some (Sz QC p/\p.length<=QL,[.z tyP (aL (aP (ax p)))],[])
 |_,_=>none
theorem jD{B:aj}(hB:aC B):Valid B Tryz.prog 82 kf:=by
 refine ab (Db hB).tab Tryz.func82 rfl rfl rfl ?_;intro args os C rs os' hc hC;unfold kf at hc;split at hc;case h_2=>cases hc
 rename_i p;cases hc;refine v_h (Db hB) fun X hP hT hr hG=> ?_;have hU:=sD.eq_1;unfold sD at hT;have hX:= @mu.eq_1;simp only[Tryz.f82,aD,an,ioB];obtain⟨l0,rfl,hl0⟩:=hC.1.ex;have hn:=hC.2;rw[aH] at hn;have hn:l0.length<=1000000000:=hn;refine s_g hG ?_;refine ak (ar ?_);refine bj (fun(z:List Rat)=>(⟨[(0,.l (.z tyP (aL z))),(2,.l (.val (.slice none 0 0)))],[]⟩:aa)) (fun z=>z.length<=l0.length/\(∀ x∈z,lq x<=QC)/\aP z=aP l0) (fun z=>z.length) l0 ?_ ?_ ?_;·simp only[ml0,ml1,Nat.reduceLT,Nat.reduceEqDiff,Nat.reduceAdd,Nat.reduceMul,Nat.reduceSub,Nat.reduceLeDiff,Nat.reduceBEq,Nat.reduceBNe,reduceIte,reduceDIte,reduceCtorEq]
 ·exact⟨Nat.le_refl _,hl0,rfl⟩
 ·rintro l ⟨g1,g2,g3⟩;try dsimp only at g1 g2 g3
  refine ak (s_q hG ?_ ?_)
  ·(try simp only[ba]);have hs:=xF (l:=l) (by omega);exact⟨id,id,hs.2,id,hs.1,id⟩
  refine ao ?_ ?_
  ·intro hb0;(try simp only[bt] at hb0);have ht:=Ny (by omega) hb0.1 hb0.2;obtain⟨n1,n2,n3,n4,n5⟩:=xG (by omega) g1 g2 g3 ht;refine aq (ah ?_);refine ar (ag hG ?_ ?_)
   ·(try simp only[ba]);rw[aH,bW (by omega)];exact⟨by omega,by omega,by omega,by omega⟩
   refine aK ?_;show ∃ z,_;refine q_l ?_;exact⟨l.dropLast,n1,n2,n3,n4,n5⟩
  ·intro hb0;(try simp only[bf] at hb0);have ht:=Nz (l:=l) (by omega) hb0;refine aZ (aB ?_);refine av (au ?_);refine ah (s_g hG ?_);refine ay (q_e [] ?_);rw[aM,<- g3,ht]
def lz(B:aj):Tab:={types:= [(3,(.int .i64)),(79,tyP),(91,tyN)],elems:= [],cons:= [(114,mu)],hint:= [23],N:=25,free:= [10000000],base:=B}
theorem Dc{B:aj}(hB:aC B):aI Tryz.prog (lz B):=⟨⟨tc ty3 (tc gF (tc ty91 (ae))),af,by simp only[lz,ioB];omega⟩,aG (cc Tryz.func114 (qg hB) (aA)),by kernel_rfl⟩
def Pv:Con:=fun l os=>match l,os with
 | [.ownS 10000000],[.arr (.st (.pair (.st (.pair .bool (.slice (.int .u32)))) (.st (.pair .bool (.slice (.int .u32)))))) 91 p]=>some (Sz QC p/\p.length<=QL,[.own tyN 91 (aL (aP (ax p)))],[.arr tyN 91 []])
 |_,_=>none
theorem F7{B:aj}(hB:aC B):Valid B Tryz.prog 82 Pv [0]:=by
 refine qJ (T:=lz B) (Dc hB).tab Tryz.func82 rfl rfl rfl (QU (by simp only[lz];decide)) ?_;intro args os C rs os' hc hC;unfold Pv at hc;split at hc;case h_2=>cases hc
 rename_i p;cases hc;refine v_h (Dc hB) fun X hP hT hr hG=> ?_;have hU:=lz.eq_1;unfold lz at hT;have hX:=ai @mu.eq_1<| @cy.eq_def;simp only[Tryz.f82,aD,an,ioB];obtain⟨l0,rfl,hl0⟩:=hC.1.ex;have hn:=hC.2;rw[aH] at hn;have hn:l0.length<=1000000000:=hn;refine MD 10000000 1 (by simp only[hT,lz,mx0,mx1,mx2,mx3,mx4,mx5,mx6,Nat.reduceLT,Nat.reduceEqDiff,Nat.reduceAdd,Nat.reduceMul,Nat.reduceSub,Nat.reduceLeDiff,Nat.reduceBEq,Nat.reduceBNe,reduceIte,reduceDIte,reduceCtorEq];rfl) ?_;refine s_g hG ?_;refine ak (ar ?_);refine bj (fun(z:List Rat)=>(⟨[(0,.l (.ownS 1)),(2,.l (.val (.slice none 0 0)))],[(1,.arr tyN 91 (aL z)),(10000000,.arr tyN 91 [])]⟩:aa)) (fun z=>z.length<=l0.length/\(∀ x∈z,lq x<=QC)/\aP z=aP l0) (fun z=>z.length) l0 ?_ ?_ ?_;·simp only[ml0,ml1,Nat.reduceLT,Nat.reduceEqDiff,Nat.reduceAdd,Nat.reduceMul,Nat.reduceSub,Nat.reduceLeDiff,Nat.reduceBEq,Nat.reduceBNe,reduceIte,reduceDIte,reduceCtorEq]
 ·exact⟨Nat.le_refl _,hl0,rfl⟩
 ·rintro l ⟨g1,g2,g3⟩;try dsimp only at g1 g2 g3
  refine ak (s_q hG ?_ ?_)
  ·(try simp only[ba]);have hs:=xF (l:=l) (by omega);exact⟨id,id,hs.2,fun h=>⟨h,by have:=(hs.2 h).2;omega⟩,hs.1,id⟩
  refine ao ?_ ?_
  ·intro hb0;(try simp only[bt] at hb0);have ht:=Ny (by omega) hb0.1 hb0.2;obtain⟨n1,n2,n3,n4,n5⟩:=xG (by omega) g1 g2 g3 ht;refine aq (ah ?_);refine ar (ag hG ?_ ?_)
   ·(try simp only[ba]);rw[aH,bW (by omega)];exact⟨by omega,by omega,by omega,by omega⟩
   refine aK ?_;show ∃ z,_;refine q_l ?_;exact⟨l.dropLast,n1,n2,n3,n4,n5⟩
  ·intro hb0;(try simp only[bf] at hb0);have ht:=Nz (l:=l) (by omega) hb0;refine aZ (aB ?_);refine av (au ?_);refine ah (s_g hG ?_);refine ay (q_e [] ?_);exact⟨⟨trivial,by rw[aM,<- g3,ht]⟩,trivial,trivial⟩
def gS:Con:=fun l os=>match l,os with
 | [.z (.slice (.st (.pair (.st (.pair .bool (.slice (.int .u32)))) (.st (.pair .bool (.slice (.int .u32))))))) p],[]=>some (Sz QC p/\p.length<=QL,[.z tyP (aL (aP (ax p)))],[])
 | [.ownS 10000000],[.arr (.st (.pair (.st (.pair .bool (.slice (.int .u32)))) (.st (.pair .bool (.slice (.int .u32)))))) 91 p]=>some (Sz QC p/\p.length<=QL,[.own tyN 91 (aL (aP (ax p)))],[.arr tyN 91 []])
 |_,_=>none
theorem K6{B:aj}(hB:aC B):Valid B Tryz.prog 82 gS [0]:=by
 intro args os C rs os' hc hC;unfold gS at hc;split at hc;·cases hc;exact NA (jD hB) _ _ _ _ _ rfl hC
 ·cases hc;exact F7 hB _ _ _ _ _ rfl hC
 ·cases hc
def sE(B:aj):Tab:={types:= [(3,(.int .i64)),(79,tyP),(91,tyN)],elems:= [],cons:= [(113,eR)],hint:= [],N:=14,base:=B}
theorem Dd{B:aj}(hB:aC B):aI Tryz.prog (sE B):=⟨⟨tc ty3 (tc gF (tc ty91 (ae))),af,by simp only[sE,ioB];omega⟩,aG (cc Tryz.func113 (nd hB) (aA)),by kernel_rfl⟩
def yv:Con:=fun l os=>match l,os with
 | [.z (.slice (.st (.pair (.st (.pair .bool (.slice (.int .u32)))) (.st (.pair .bool (.slice (.int .u32))))))) p,.z (.int .i64) i],[]=>some (Sz QC p/\0<=i,[.z tyN (br (cf (ax p) i.toNat))],[])
 |_,_=>none
theorem yw{B:aj}(hB:aC B):Valid B Tryz.prog 107 yv:=by
 refine ab (Dd hB).tab Tryz.func107 rfl rfl rfl ?_;intro args os C rs os' hc hC;unfold yv at hc;split at hc;case h_2=>cases hc
 rename_i p i;cases hc;refine v_h (Dd hB) fun X hP hT hr hG=> ?_;have hU:=sE.eq_1;unfold sE at hT;have hX:= @eR.eq_1;simp only[Tryz.f107,aD,an,ioB];obtain⟨n,rfl⟩:=Int.eq_ofNat_of_zero_le hC.2;rw[Int.toNat_natCast];refine s_g hG ?_;refine ak (s_g hG ?_);refine ao ?_ ?_
 ·intro hb0;try simp only[bt] at hb0
  refine s_q hG ?_ ?_
  ·(try simp only[ba]);exact⟨by omega,hb0⟩
  refine ay (az ?_);refine q_e [] ?_;rw[gK hC.1 (by omega)]
 ·intro hb0;try simp only[bf] at hb0
  refine aq (ah ?_);refine s_g hG ?_;refine ay (q_e [] ?_);rw[NB (by omega)]
def sF(B:aj):Tab:={types:= [(3,(.int .i64)),(79,tyP),(91,tyN)],elems:= [(79,91)],cons:= [(58,nJ),(105,eQ),(112,gd),(113,eR),(114,mu)],hint:= [19],N:=67,base:=B}
theorem De{B:aj}(hB:aC B):aI Tryz.prog (sF B):=⟨⟨tc ty3 (tc gF (tc ty91 (ae))),aT (by kernel_rfl) (af),by simp only[sF,ioB];omega⟩,aG (cc Tryz.func58 (nb hB) (cc Tryz.func105 (nc hB) (cc Tryz.func112 (xL hB) (cc Tryz.func113 (nd hB) (cc Tryz.func114 (qg hB) (aA)))))),by kernel_rfl⟩
def qm:Con:=fun l os=>match l,os with
 | [.z (.slice (.st (.pair (.st (.pair .bool (.slice (.int .u32)))) (.st (.pair .bool (.slice (.int .u32))))))) p,.z (.slice (.st (.pair (.st (.pair .bool (.slice (.int .u32)))) (.st (.pair .bool (.slice (.int .u32))))))) q],[]=>some (Sz QM p/\Sz QM q/\p.length<=100/\q.length<=100,[.z tyP (aL (cu (ax p) (ax q)))],[])
 |_,_=>none
theorem yx{B:aj}(hB:aC B):Valid B Tryz.prog 61 qm:=by
 refine ab (De hB).tab Tryz.func61 rfl rfl rfl ?_;intro args os C rs os' hc hC;unfold qm at hc;split at hc;case h_2=>cases hc
 rename_i p q;cases hc;refine v_h (De hB) fun X hP hT hr hG=> ?_;have hU:=sF.eq_1;unfold sF at hT;have hX:=ai @nJ.eq_1<|ai @eQ.eq_1<|ai @mu.eq_1<|ai @gd.eq_1<| @eR.eq_1;simp only[Tryz.f61,aD,an,ioB];obtain⟨hp,hq,hl1,hl2⟩:=hC;refine s_g hG ?_;refine ak (s_q hG ?_ ?_)
 ·try simp only[ba]
  exact⟨id,id,fun h=>by rw[h];rfl⟩
 refine ao ?_ ?_
 ·intro hb0;try simp only[bt] at hb0
  refine s_g hG ?_;refine ay (az ?_);refine q_e [] ?_;exact J7 hb0
 ·intro hb0;try simp only[bf] at hb0
  have h0:=NH hb0;refine aq (ah ?_);refine s_q hG ?_ ?_
  ·(try simp only[ba]);rw[xI hl1 hl2 h0];exact QW hl1 hl2
  refine ak (s_g hG ?_);refine ar (bj (fun(z:Nat)=>(⟨[(0,.l (.z tyP p)),(1,.l (.z tyP q)),(5,.l (.ownS 1208)),(27,.l (.z tyP p)),(28,.l (.z (.int .i64) (p.length:Int))),(29,.l (.z (.int .i64) (z:Int)))],[(1208,.arr tyN 91 (aL (mulN (ax p) (ax q) z)))]⟩:aa)) (fun z=>z<=p.length) (fun z=>p.length-z) 0 ?_ ?_ ?_);·refine q_l ?_;rw[xI hl1 hl2 h0,Int.toNat_natCast];exact⟨rfl,times_start p q⟩
  ·omega
  ·rintro i g1;(try dsimp only at g1);refine s_g hG ?_;refine ak (ao ?_ ?_)
   ·intro hb1;(try simp only[bt] at hb1);refine aq (ah ?_);refine ak (ar ?_);refine s_q hG ?_ ?_
    ·(try simp only[ba]);exact⟨by omega,hb1⟩
    (refine s_g hG ?_;refine ar (bj (fun(z:Nat)=>(⟨[(0,.l (.z tyP p)),(1,.l (.z tyP q)),(5,.l (.ownS 1208)),(27,.l (.z tyP p)),(28,.l (.z (.int .i64) (p.length:Int))),(29,.l (.z (.int .i64) (i:Int))),(6,.l (.z (.int .i64) (i:Int))),(7,.l (.ownP 7 0)),(34,.l (.z tyP q)),(35,.l (.z (.int .i64) (q.length:Int))),(36,.l (.z (.int .i64) (z:Int)))],[(1208,.arr tyN 91 (aL (cL (mulN (ax p) (ax q) i) i (cf (ax p) i) (ax q) z))),(7,.box 91 [.z .bool (br (cf (ax p) i)).1.1,.z (.slice (.int .u32)) (br (cf (ax p) i)).1.2,.z .bool (br (cf (ax p) i)).2.1,.z (.slice (.int .u32)) (br (cf (ax p) i)).2.2])]⟩:aa)) (fun z=>z<=q.length) (fun z=>q.length-z) 0 ?_ ?_ ?_);·refine q_l ?_;rw[gK hp (by omega)];exact⟨rfl,rfl,rfl,rfl,rfl,rfl⟩);·omega
    ·rintro k g2;(try dsimp only at g2);refine s_g hG ?_;refine ak (ao ?_ ?_)
     ·intro hb2;(try simp only[bt] at hb2);refine aq (ah ?_);refine ak (ar ?_);refine s_q hG ?_ ?_
      ·(try simp only[ba]);exact⟨by omega,hb2⟩
      refine s_q hG ?_ ?_
      ·(try simp only[ba]);have ek:=gK hq (i:=k) (by omega);simp only[pe2];rw[ek];exact⟨cd _,fun h=>⟨h,cd _⟩,id⟩
      refine ao ?_ ?_
      ·intro hb3;(try simp only[bt] at hb3);have ek:=gK hq (i:=k) (by omega);obtain⟨w1,w2,w3,w4⟩:=Fx hp hq hl1 hl2 h0 (i:=i) (k:=k) (by omega) (by omega);refine ib hG ?_ ?_
       ·(try simp only[ba]);simp only[pe2];rw[ek,w1,Int.toNat_natCast,aQ,aQ];exact⟨⟨by omega,by omega⟩,w2,w3,w4,⟨by omega,by omega⟩,w2⟩
       (refine aK (ah ?_);refine ag hG ?_ ?_;·exact tt9);show ∃ z,_;refine q_l ?_;first|exact vN hl2 (by omega) (vO hb3)|(simp only[pe2];rw[ek,w1,Int.toNat_natCast];simp only[aQ];exact vM hp hq hl1 hl2 h0 (i:=i) (k:=k) (by omega) (by omega))
      ·(intro hb3;(try simp only[bf] at hb3);have ek:=gK hq (i:=k) (by omega);simp only[pe2,ek,aQ] at hb3;refine aq (aK ?_);refine ah (ag hG ?_ ?_);·exact tt9);show ∃ z,_;refine q_l ?_;first|exact vN hl2 (by omega) (vO hb3)|(simp only[pe2];rw[ek,w1,Int.toNat_natCast];simp only[aQ];exact vM hp hq hl1 hl2 h0 (i:=i) (k:=k) (by omega) (by omega))
     ·(intro hb2;(try simp only[bf] at hb2);refine aZ (aB ?_);refine av (au ?_);refine aK (ah ?_);refine ag hG ?_ ?_;·exact tt9);show ∃ z,_;refine q_l ?_;exact J8 hl1 (by omega) (by omega)
   ·intro hb1;(try simp only[bf] at hb1);refine aZ (aB ?_);refine av (au ?_);refine ah (s_g hG ?_);refine ay (q_e [] ?_);exact times_fin h0 (by omega)
end Go.Proofs.YtdojbabpnaifoaaGreatDoor
end
section
namespace Go.Cm
def LV.toRow(id:Nat):LV->LV
 | .ownS i=>if i=id then .ownR id 0 else .ownS i
 |x=>x.kill id
def LV.ofRow(id j:Nat):LV->LV
 | .ownR i k=>if i=id then (if k=j then .ownS id else .junk) else .ownR i k
 |x=>x.kill id
def aa.toRow(s:aa)(id:Nat)(T':TypeId):Option aa:=
 match get? s.own id with
 |some (.arr t E xs)=>if id<ioB then some {env:=b6 (LV.toRow id) s.env,own:=upd (bz (LV.toRow id) s.own) id (.mat t T' E [some xs] [])} else none
 |_=>none
def aa.ofRow(s:aa)(id j:Nat):Option aa:=
 match get? s.own id with
 |some (.mat t _ E rows _)=>match (rows[j]?).getD none with
  |some xs=>if id<ioB then some {env:=b6 (LV.ofRow id j) s.env,own:=upd (bz (LV.ofRow id j) s.own) id (.arr t E xs)} else none
  |none=>none
 |_=>none
theorem St.toRow{X:Cx}{s s':aa}{id:Nat}{T':TypeId}(he:s.toRow id T'=some s'){ac:Act}{w:World}(h:St X s ac w):St X s' ac w:=by
 unfold aa.toRow at he;split at he;case h_2=>cases he
 rename_i t E xs hg;split at he;case isFalse=>cases he
 rename_i hid;cases he;obtain⟨ρ,hf⟩:=h.fits;obtain⟨cells,hr,hrow⟩:=hf.own _ (get?_mem hg);have hsl:∃ a n c,ρ id= .slice a n c:=by
  obtain⟨_,⟨h1,_⟩|⟨g,cap,cur,h1,_⟩⟩:=hrow<;>exact⟨_,_,_,h1⟩
 obtain⟨a,n,c,hsl⟩:=hsl;have hblk:∀ b,blk (ρ id)=some b↔Blk (ρ id) b:=by
  intro b;rw[hsl];cases a with
  |none=>simp[blk,Blk]
  |some a=>simp[blk,Blk]
 obtain⟨ρ',q1,q2⟩:=hf.renew (w':=w) hg (f:=LV.toRow id) (val:= .tuple #[.slice none 0 0,ρ id]) (obj':= .mat t T' E [some xs] [])
  (fun H' ρ' hh hs hρ hρd x v hx=>by
   cases x with
   |ownS i=>
    (simp only[LV.toRow];split;·rename_i e;subst e;have hx:v=ρ i/\_:=hx;exact⟨.slice none 0 0,[ρ i],a,n,c,hρd,by simp[hx.1],by rw[hx.1,hsl]⟩);·rename_i e;simp only[aV,hρ i e];exact hx
   |z t x=>exact bn hh hs hρ hx
   |ownP i o=>exact bn hh hs hρ hx
   |ownE i w o=>exact bn hh hs hρ hx
   |ownW i w o=>exact bn hh hs hρ hx
   |ownM i=>exact bn hh hs hρ hx
   |ownA i o=>exact bn hh hs hρ hx
   |ownR i o=>exact bn hh hs hρ hx
   |ownB i o p q=>exact bn hh hs hρ hx
   |fn f c=>exact bn hh hs hρ hx
   |val u=>exact bn hh hs hρ hx
   |junk=>exact bn hh hs hρ hx)
  (fun _ _ _=>rfl)
  (fun b hb=>by
   (obtain⟨u,hu,hb⟩:=hb;simp only[List.mem_cons,List.not_mem_nil,or_false] at hu;rcases hu with rfl|rfl;·simp[blk] at hb);·exact .inl ((hblk b).1 hb))
  (fun H' ρ' hh hs hρ hρd=>by
   refine⟨.slice none 0 0,[ρ id],[],hρd,⟨rfl,⟨rfl,.inl ⟨rfl,rfl⟩⟩,fun c hc=>by simp at hc,fun i j hi=>by simp at hi,?_,?_,?_⟩⟩
   ·(intro v hv;simp only[List.mem_singleton] at hv;subst hv;refine⟨⟨a,n,c,hsl⟩,fun b hb=>⟨by simp[blk],?_,?_⟩⟩;·exact((hf.own _ (get?_mem hg)).lt ((hblk b).1 hb)).1);·exact(hf.own _ (get?_mem hg)).cells ((hblk b).1 hb)
   ·intro j ys v hj hv;cases j with
    |zero=>
     simp at hj hv;subst hj;subst hv;exact⟨cells,aX hh hs hr,hrow⟩
    |succ j=>simp at hj
   ·intro i j xs' ys u v hne hi hj;cases i with
    |zero=>cases j with
     |zero=>exact absurd rfl hne
     |succ j=>simp at hj
    |succ i=>simp at hi)
  (fun hB _=>absurd hid (by omega))
 exact⟨h.marks,h.kept,h.size,h.below,h.others,h.small,ρ',q2⟩
theorem St.ofRow{X:Cx}{s s':aa}{id j:Nat}(he:s.ofRow id j=some s'){ac:Act}{w:World}(h:St X s ac w):St X s' ac w:=by
 unfold aa.ofRow at he;split at he;case h_2=>cases he
 rename_i t T' E rows idx hg;split at he;case h_2=>cases he
 rename_i xs hj;split at he;case isFalse=>cases he
 rename_i hid;cases he;obtain⟨ρ,hf⟩:=h.fits;obtain⟨h0,vs,cells,hρ0,hm⟩:=hf.own _ (get?_mem hg);have hjr:rows[j]? =some (some xs):=by
  cases hq:rows[j]? with
  |none=>rw[hq] at hj;cases hj
  |some o=>rw[hq] at hj;simp at hj;rw[hj]
 have hjl:j<vs.length:=by rw[hm.len];exact(List.getElem?_eq_some_iff.1 hjr).1
 have hvj:vs[j]? =some vs[j]:=List.getElem?_eq_getElem hjl;obtain⟨cs,hr,hrow⟩:=hm.row j xs _ hjr hvj;obtain⟨⟨a,n,c,hsl⟩,_⟩:=hm.shape vs[j] (List.getElem_mem hjl);obtain⟨ρ',q1,q2⟩:=hf.renew (w':=w) hg (f:=LV.ofRow id j) (val:=vs[j]) (obj':= .arr t E xs)
  (fun H' ρ' hh hs hρ hρd x v hx=>by
   cases x with
   |ownR i k=>
    simp only[LV.ofRow];split
    ·(rename_i e;subst e;split;·rename_i e;subst e;obtain⟨h1,vs1,a1,n1,c1,e1,e2,e3⟩:=hx;rw[hρ0] at e1;simp only[Value.tuple.injEq,Array.mk.injEq,List.cons.injEq] at e1;obtain⟨_,rfl⟩:=e1;rw[hvj] at e2;cases e2;exact⟨hρd.symm,_,_,_,e3⟩);·trivial
    ·rename_i e;have:=bn (x:= .ownR i k) hh hs hρ hx;unfold LV.kill at this;rw[if_neg (by simp[LV.isOf];exact e)] at this;exact this
   |z t x=>exact bn hh hs hρ hx
   |ownS i=>exact bn hh hs hρ hx
   |ownP i o=>exact bn hh hs hρ hx
   |ownE i w o=>exact bn hh hs hρ hx
   |ownW i w o=>exact bn hh hs hρ hx
   |ownM i=>exact bn hh hs hρ hx
   |ownA i o=>exact bn hh hs hρ hx
   |ownB i o p q=>exact bn hh hs hρ hx
   |fn f c=>exact bn hh hs hρ hx
   |val u=>exact bn hh hs hρ hx
   |junk=>exact bn hh hs hρ hx)
  (fun _ _ _=>rfl)
  (fun b hb=> .inl (by
   rw[hρ0];refine⟨vs[j],by simp,?_⟩;rw[hsl] at hb ⊢;cases a with
   |none=>simp[Blk] at hb
   |some a=>simpa [blk,Blk] using hb))
  (fun H' ρ' hh hs hρ hρd=>⟨cs,aX hh hs hr,by rw[hρd];exact hrow⟩)
  (fun hB _=>absurd hid (by omega))
 exact⟨h.marks,h.kept,h.size,h.below,h.others,h.small,ρ',q2⟩
theorem Ah{X:Cx}{c:Code}{s s':aa}{K:Exit->aa->Prop}(id:Nat)(T':TypeId)(he:s.toRow id T'=some s')(h:J X c s' K):J X c s K:=
 fun ac w hst=>h ac w (hst.toRow he)
theorem sG{X:Cx}{c:Code}{s s':aa}{K:Exit->aa->Prop}(id j:Nat)(he:s.ofRow id j=some s')(h:J X c s' K):J X c s K:=
 fun ac w hst=>h ac w (hst.ofRow he)
end Go.Cm
end
section
namespace Go.Proofs.YtdojbabpnaifoaaGreatDoor
open Go Go.Cm Go.Proofs
def sH(B:aj):Tab:={types:= [(3,(.int .i64)),(79,tyP),(91,tyN)],elems:= [(79,91)],cons:= [(119,gk)],hint:= [],N:=25,base:=B}
theorem Df{B:aj}(hB:aC B):aI Tryz.prog (sH B):=⟨⟨tc ty3 (tc gF (tc ty91 (ae))),aT (by kernel_rfl) (af),by simp only[sH,ioB];omega⟩,aG (cc Tryz.func119 (yo hB) (aA)),by kernel_rfl⟩
def qn:Con:=fun l os=>match l,os with
 | [.z (.slice (.st (.pair (.st (.pair .bool (.slice (.int .u32)))) (.st (.pair .bool (.slice (.int .u32))))))) p],[]=>some (pW p,[.z tyP (aL (cC (ax p)))],[])
 |_,_=>none
theorem yy{B:aj}(hB:aC B):Valid B Tryz.prog 120 qn:=by
 refine ab (Df hB).tab Tryz.func120 rfl rfl rfl ?_;intro args os C rs os' hc hC;unfold qn at hc;split at hc;case h_2=>cases hc
 rename_i p;cases hc;refine v_h (Df hB) fun X hP hT hr hG=> ?_;have hU:=sH.eq_1;unfold sH at hT;have hX:= @gk.eq_1;simp only[Tryz.f120,aD,an,ioB];have hl:p.length<=1000:=hC.2.1;refine s_g hG ?_;refine s_g hG ?_;refine ak (s_g hG ?_);refine ar (bj (fun(z:Nat)=>(⟨[(0,.l (.z tyP p)),(3,.l (.ownS 22)),(6,.l (.z tyP p)),(7,.l (.z (.int .i64) (p.length:Int))),(8,.l (.z (.int .i64) (z:Int)))],[(22,.arr tyN 91 (aL ((ax p).take z|>.map fun c=>c/aE (ax p))))]⟩:aa)) (fun z=>z<=p.length) (fun z=>p.length-z) 0 ?_ ?_ ?_);·refine q_l ?_;exact⟨rfl,by unfold ioB;omega,rfl⟩
 ·omega
 ·rintro k g1;try dsimp only at g1
  refine s_g hG ?_;refine ak (ao ?_ ?_)
  ·intro hb0;(try simp only[bt] at hb0);obtain⟨m1,m2,m3,m4,m5,m6⟩:=NJ hC (k:=k) (by omega);refine aq (ah ?_);refine ak (ar ?_);refine s_q hG ?_ ?_
   ·(try simp only[ba]);exact⟨by omega,hb0⟩
   refine Ah 22 78 (by simp only[aa.toRow,LV.toRow,ioB,mx0,mx1,mx2,mx3,mx4,mx5,mx6,Nat.reduceLT,Nat.reduceEqDiff,Nat.reduceAdd,Nat.reduceMul,Nat.reduceSub,Nat.reduceLeDiff,Nat.reduceBEq,Nat.reduceBNe,reduceIte,reduceDIte,reduceCtorEq];rfl) ?_;refine ib hG ?_ ?_
   ·(try simp only[ba]);simp only[pe2];rw[m1,m2];exact⟨m3,⟨m4,by rw[aQ];exact m5⟩,rfl,m6⟩
   (refine aK (ah ?_);refine sG 22 1 (by simp only[aa.ofRow,LV.ofRow,ioB,List.set_cons_zero,List.set_cons_succ,List.append_nil,List.nil_append,List.cons_append,List.getElem?_cons_zero,List.getElem?_cons_succ,Option.getD_some,mx0,mx1,mx2,mx3,mx4,mx5,mx6,Nat.reduceLT,Nat.reduceEqDiff,Nat.reduceAdd,Nat.reduceMul,Nat.reduceSub,Nat.reduceLeDiff,Nat.reduceBEq,Nat.reduceBNe,reduceIte,reduceDIte,reduceCtorEq];rfl) ?_;refine ag hG ?_ ?_;·exact tt9);show ∃ z,_;refine q_l ?_;simp only[pe2];rw[m1,m2];simp only[aQ];exact J9 hC (by omega)
  ·intro hb0;(try simp only[bf] at hb0);refine aZ (aB ?_);refine av (au ?_);refine ah (s_g hG ?_);refine ay (q_e [] ?_);exact QX (by omega)
def sI(B:aj):Tab:={types:= [(3,(.int .i64)),(79,tyP),(91,tyN)],elems:= [(79,91)],cons:= [(105,eQ),(124,KY)],hint:= [],N:=24,base:=B}
theorem Dg{B:aj}(hB:aC B):aI Tryz.prog (sI B):=⟨⟨tc ty3 (tc gF (tc ty91 (ae))),aT (by kernel_rfl) (af),by simp only[sI,ioB];omega⟩,aG (cc Tryz.func105 (nc hB) (cc Tryz.func124 (yp hB) (aA))),by kernel_rfl⟩
def kF:Con:=fun l os=>match l,os with
 | [.z (.slice (.st (.pair (.st (.pair .bool (.slice (.int .u32)))) (.st (.pair .bool (.slice (.int .u32))))))) p],[]=>some (Sz QH p/\p.length<=1000,[.z tyP (aL (bS (ax p)))],[])
 |_,_=>none
theorem yz{B:aj}(hB:aC B):Valid B Tryz.prog 77 kF:=by
 refine ab (Dg hB).tab Tryz.func77 rfl rfl rfl ?_;intro args os C rs os' hc hC;unfold kF at hc;split at hc;case h_2=>cases hc
 rename_i p;cases hc;refine v_h (Dg hB) fun X hP hT hr hG=> ?_;have hU:=sI.eq_1;unfold sI at hT;have hX:=ai @eQ.eq_1<| @KY.eq_1;simp only[Tryz.f77,aD,an,ioB];have hl:p.length<=1000:=hC.2;refine s_g hG ?_;refine s_g hG ?_;refine ak (s_g hG ?_);refine ar (bj (fun(z:Nat)=>(⟨[(3,.l (.ownS 21)),(6,.l (.z tyP p)),(7,.l (.z (.int .i64) (p.length:Int))),(8,.l (.z (.int .i64) (z:Int)))],[(21,.arr tyN 91 (aL (nu (ax p) z)))]⟩:aa)) (fun z=>z<=p.length) (fun z=>p.length-z) 0 ?_ ?_ ?_);·refine q_l ?_;exact⟨rfl,by unfold ioB;omega,rfl⟩
 ·omega
 ·rintro k g1;try dsimp only at g1
  refine s_g hG ?_;refine ak (ao ?_ ?_)
  ·intro hb0;(try simp only[bt] at hb0);obtain⟨m1,m2,m3,m4⟩:=NK hC.1 hl (k:=k) (by omega);refine aq (ah ?_);refine ak (ar ?_);refine s_q hG ?_ ?_
   ·(try simp only[ba]);exact⟨by omega,hb0⟩
   refine s_g hG ?_;refine ao ?_ ?_
   ·intro hb1;(try simp only[bt] at hb1);refine Ah 21 78 (by simp only[aa.toRow,LV.toRow,ioB,mx0,mx1,mx2,mx3,mx4,mx5,mx6,Nat.reduceLT,Nat.reduceEqDiff,Nat.reduceAdd,Nat.reduceMul,Nat.reduceSub,Nat.reduceLeDiff,Nat.reduceBEq,Nat.reduceBNe,reduceIte,reduceDIte,reduceCtorEq];rfl) ?_;refine ib hG ?_ ?_
    ·(try simp only[ba]);simp only[pe2];rw[m2];exact⟨m1,m3,rfl,m4⟩
    (refine aK (ah ?_);(first|refine sG 21 1 (by simp only[aa.ofRow,LV.ofRow,ioB,List.set_cons_zero,List.set_cons_succ,List.append_nil,List.nil_append,List.cons_append,List.getElem?_cons_zero,List.getElem?_cons_succ,Option.getD_some,mx0,mx1,mx2,mx3,mx4,mx5,mx6,Nat.reduceLT,Nat.reduceEqDiff,Nat.reduceAdd,Nat.reduceMul,Nat.reduceSub,Nat.reduceLeDiff,Nat.reduceBEq,Nat.reduceBNe,reduceIte,reduceDIte,reduceCtorEq];rfl) ?_|skip);refine ag hG ?_ ?_;·exact tt9);show ∃ z,_;refine q_l ?_;first|exact BS hl (by omega) (by omega)|(simp only[pe2];rw[m2];simp only[aQ];exact xJ hl (by omega) (by omega))
   ·(intro hb1;(try simp only[bf] at hb1);refine aq (aK ?_);refine ah ?_;(first|refine sG 21 1 (by simp only[aa.ofRow,LV.ofRow,ioB,List.set_cons_zero,List.set_cons_succ,List.append_nil,List.nil_append,List.cons_append,List.getElem?_cons_zero,List.getElem?_cons_succ,Option.getD_some,mx0,mx1,mx2,mx3,mx4,mx5,mx6,Nat.reduceLT,Nat.reduceEqDiff,Nat.reduceAdd,Nat.reduceMul,Nat.reduceSub,Nat.reduceLeDiff,Nat.reduceBEq,Nat.reduceBNe,reduceIte,reduceDIte,reduceCtorEq];rfl) ?_|skip);refine ag hG ?_ ?_;·exact tt9);show ∃ z,_;refine q_l ?_;first|exact BS hl (by omega) (by omega)|(simp only[pe2];rw[m2];simp only[aQ];exact xJ hl (by omega) (by omega))
  ·intro hb0;(try simp only[bf] at hb0);refine aZ (aB ?_);refine av (au ?_);refine ah (s_g hG ?_);refine ay (q_e [] ?_);rw[show k=(ax p).length by rw[aN];omega];rfl
end Go.Proofs.YtdojbabpnaifoaaGreatDoor
end
section
namespace Go.Proofs
open Go.RowKit Go.Cm Go.Shelf
attribute [local go_sem] Oper.semAt_some
set_option maxHeartbeats 2000000 in
set_option maxRecDepth 100000 in
theorem F8(ad:Addr)(n c:Nat)(news:List Value)(w:World)(hl:news.length=n*4)(hn:n<=maxLen)(hbig:n*64<=140737488355328)
  (hc:∀ j u,news[j]? =some u->w.cell? (ad.add j)=some u) (h1:∀ u∈news,u.oneCell'=true):
  Calls Tryz.prog 118 #[.slice (some ad) n c] w fun e w'=>∃ v',e= .returned v'/\w'.ownsRow w.heap.size 91 4 v' n news/\Below w.heap.size w w':=by
 have t4:=Tryz.underlying4;have a4:=Tryz.isAgg4;have z4:=Tryz.sizeOf4;have v4:=Tryz.zeroValue4;have t22:=Tryz.underlying79;have a22:=Tryz.isAgg79;have z22:=Tryz.sizeOf79;have v22:=Tryz.zeroValue79;obtain⟨i0,hi,hz0,hz1,hz2⟩:=info_parts (show (Tryz.prog.info? 91).map (fun i=>(i.zero,i.size,i.bytes))=some (some (.agg zc4.toArray),4,64) by kernel_rfl);have q22:∀ (w:World) (a:Option Addr) (n c n' c':Nat),(binOp .eql 79 (.slice a n c) (.slice none n' c')).run Tryz.prog w= .ok (.bool a.isNone) w:=fun w a n c n' c'=>Lib.run_eql_slice_nil w _ _ a n c n' c' t22;have u22:∀ w,Sem.run Tryz.prog (underlying 79) w= .ok (TypeDesc.slice 91) w:=run_underlying t22;have z23:∀ w,(Go.sizeOf 91).run Tryz.prog w= .ok 4 w:=fun w=>by simp[Go.sizeOf,typeInfo,hi,hz1]
 have A:Aside (∀ j u,news[j]? =some u->w.cell? (ad.add j)=some u):=hc;clear hc
 go_enter Tryz.func118,Tryz.ntmps118
 go_wp2_with (at_builtin;refine wpList_append_own _ rfl _ _ 79 rfl w.heap.size 91 i0 (.agg zc4.toArray) 4 64 t22 hi hz0 hz1 hz2 rfl (by omega) _ _ _ rfl (World.ownsRow_made w #[] 0 (Nat.le_refl _) (Nat.zero_le _) (by simp)) ad n c news rfl ?qc1 ?qc2 ?qc3 ?qc4 ?qc5 ?qc6 ?_)
 case qc1=>exact hl
 case qc2=>
  intro j u hj;exact Lib.cell?_alloc_some _ (A.out j u hj)
 case qc3=>exact h1
 case qc4=>rw[Nat.zero_add];exact hn
 case qc5=>rw[Nat.zero_add];exact hbig
 case qc6=>simp
 intro v' w1 hown hgrow hnil
 go_wp2
 go_ret
 refine⟨v',rfl,by simpa using hown,?_⟩;exact((Below.refl _ w).alloc (Nat.le_refl _) _).grown hgrow (by simp) (by intro k hk;simp[Value.ownBlock] at hk;omega)
set_option maxHeartbeats 1000000 in
theorem K7(n c:Nat)(w:World):Calls Tryz.prog 118 #[.slice none n c] w fun e w'=>e= .returned (.slice none 0 0)/\w'=w:=by
 have t4:=Tryz.underlying4;have a4:=Tryz.isAgg4;have z4:=Tryz.sizeOf4;have v4:=Tryz.zeroValue4;have t22:=Tryz.underlying79;have a22:=Tryz.isAgg79;have z22:=Tryz.sizeOf79;have v22:=Tryz.zeroValue79;have q22:∀ (w:World) (a:Option Addr) (n c n' c':Nat),(binOp .eql 79 (.slice a n c) (.slice none n' c')).run Tryz.prog w= .ok (.bool a.isNone) w:=fun w a n c n' c'=>Lib.run_eql_slice_nil w _ _ a n c n' c' t22
 go_enter Tryz.func118,Tryz.ntmps118
 go_wp2
 go_ret
 exact⟨rfl,rfl⟩
def dw:Con:=fun l os=>match l,os with
 | [.z (.slice (.st (.pair (.st (.pair .bool (.slice (.int .u32)))) (.st (.pair .bool (.slice (.int .u32))))))) xs],[]=>some (xs.length<=QL,[.own tyN 91 xs],[])
 |_,_=>none
theorem K8{B:aj}(hB:aC B):Valid B Tryz.prog 118 dw:=by
 intro args os C rs os' hc hC O w vals ρ0 hOn hIo hO hOI hargs hown hap;unfold dw at hc;split at hc;case h_2=>cases hc
 rename_i xs;cases hc;obtain⟨u,rfl,hu⟩:=ru hargs;obtain⟨cells,hr,h⟩:=jc hu;have hl:=bK (fun c x h=>NT.rep_length h) hr;have hC:xs.length<=1000000000:=hC;have hmove:∀ w':World,Below w.heap.size w w'->∀ H:Nat->Prop,(∀ b,b<w.heap.size->H b->O b)->cQ (fun c x=>NT.rep H w' c x) cells xs:=
  fun w' hb H hH=>aX (fun b hlt hb=> .inl (hH b hlt hb)) (fun b _ hlt=>hb.block b (df hlt)) hr
 rcases h with⟨rfl,h0,rfl⟩|⟨ad,c,rfl,hc⟩;·refine(K7 0 0 w).mono fun e w' ⟨he,hw⟩=> ?_;subst he;subst hw;exact zt hO (Below.refl _ _) ⟨_,_,_,rfl⟩ (hmove _ (Below.refl _ _)) ⟨by simp[h0],.inl ⟨rfl,h0⟩⟩
 ·refine(F8 ad xs.length c cells w hl (by unfold maxLen;omega) (by omega) hc (fj hr)).mono fun e w' ⟨v',he,hrow,hb⟩=> ?_;subst he;obtain⟨h1,h2⟩:=hrow;refine zt hO hb ?_ (hmove _ hb) ⟨h1,?_⟩;·rcases h2 with⟨rfl,_⟩|⟨g,cap,cur,rfl,_⟩<;>exact⟨_,_,_,rfl⟩
  ·(rcases h2 with h2|⟨g,cap,cur,e1,e2,e3,e4,e5,e6,e7⟩;·exact .inl h2);·exact .inr ⟨g,cap,cur,e1,e2,e3,e4,e5,by rw[e6];exact Nat.le_refl _,e7⟩
end Go.Proofs
end
section
namespace Go.Proofs.YtdojbabpnaifoaaGreatDoor
open Go Go.Cm Go.Proofs
def dk(B:aj):Tab:={types:= [(3,(.int .i64)),(79,tyP),(91,tyN)],elems:= [(79,91)],cons:= [(60,gj),(82,gS),(105,eQ),(112,gd),(113,eR),(118,dw),(119,gk)],hint:= [],N:=78,io:= [(82,[0])],frees:= [(82,[0])],base:=B}
theorem Dh{B:aj}(hB:aC B):aI Tryz.prog (dk B):=⟨⟨tc ty3 (tc gF (tc ty91 (ae))),aT (by kernel_rfl) (af),by simp only[dk,ioB];omega⟩,aG (cc Tryz.func60 (yn hB) (cc Tryz.func82 (K6 hB) (cc Tryz.func105 (nc hB) (cc Tryz.func112 (xL hB) (cc Tryz.func113 (nd hB) (cc Tryz.func118 (K8 hB) (cc Tryz.func119 (yo hB) (aA)))))))),by kernel_rfl⟩
def rh:Con:=fun l os=>match l,os with
 | [.z (.slice (.st (.pair (.st (.pair .bool (.slice (.int .u32)))) (.st (.pair .bool (.slice (.int .u32))))))) p,.z (.slice (.st (.pair (.st (.pair .bool (.slice (.int .u32)))) (.st (.pair .bool (.slice (.int .u32))))))) q],[]=>some (fZ p q,[.z tyP (aL (divN (ax p) (ax q)).1),.own tyN 91 (aL (divN (ax p) (ax q)).2)],[])
 |_,_=>none
theorem qo{B:aj}(hB:aC B):Valid B Tryz.prog 68 rh:=by
 refine ab (Dh hB).tab Tryz.func68 rfl rfl rfl ?_;intro args os C rs os' hc hC;unfold rh at hc;split at hc;case h_2=>cases hc
 rename_i p q;cases hc;refine v_h (Dh hB) fun X hP hT hr hG=> ?_;have hU:=dk.eq_1;unfold dk at hT;have hX:=ai @dw.eq_1<|ai @gk.eq_1<|ai @eQ.eq_1<|ai @gj.eq_1<|ai @gd.eq_1<|ai @gS.eq_1<|ai @eR.eq_1<|ai @ca.eq_def<| @cy.eq_def;simp only[Tryz.f68,aD,an,ioB];refine ak ?_;have hl1:=hC.l1;have hl2:=hC.l2;have h0:=hC.h0;obtain⟨v1,v2,v3⟩:=Td hC;refine cS hG (by simp only[hT,dk,ca.eq_def,cy.eq_def,dw,gk,eQ,gj,gd,gS,eR,mx0,mx1,mx2,mx3,mx4,mx5,mx6,aW,bw,bL,bd,bu,Ty.fieldTy,Ty.fieldOf,Nat.reduceLT,Nat.reduceEqDiff,Nat.reduceAdd,Nat.reduceMul,Nat.reduceSub,Nat.reduceLeDiff,Nat.reduceBEq,Nat.reduceBNe,reduceIte,reduceDIte,reduceCtorEq];rfl) ?_ ?_;·exact tt9
 refine ah (ak ?_);refine cS hG (by simp only[hT,dk,ca.eq_def,cy.eq_def,dw,gk,eQ,gj,gd,gS,eR,mx0,mx1,mx2,mx3,mx4,mx5,mx6,aW,bw,bL,bd,bu,Ty.fieldTy,Ty.fieldOf,Nat.reduceLT,Nat.reduceEqDiff,Nat.reduceAdd,Nat.reduceMul,Nat.reduceSub,Nat.reduceLeDiff,Nat.reduceBEq,Nat.reduceBNe,reduceIte,reduceDIte,reduceCtorEq];rfl) ?_ ?_
 ·try simp only[ba]
  show p.length<=1000000000;omega
 refine ah (ak ?_);refine cS hG (by simp only[hT,dk,ca.eq_def,cy.eq_def,dw,gk,eQ,gj,gd,gS,eR,mx0,mx1,mx2,mx3,mx4,mx5,mx6,aW,bw,bL,bd,bu,Ty.fieldTy,Ty.fieldOf,Nat.reduceLT,Nat.reduceEqDiff,Nat.reduceAdd,Nat.reduceMul,Nat.reduceSub,Nat.reduceLeDiff,Nat.reduceBEq,Nat.reduceBNe,reduceIte,reduceDIte,reduceCtorEq];rfl) ?_ ?_
 ·try simp only[ba]
  rw[v1];exact⟨v2,v3⟩
 refine ah (ak ?_);refine ar (MD 1104 1600 (by simp only[hT,dk,mx0,mx1,mx2,mx3,mx4,mx5,mx6,Nat.reduceLT,Nat.reduceEqDiff,Nat.reduceAdd,Nat.reduceMul,Nat.reduceSub,Nat.reduceLeDiff,Nat.reduceBEq,Nat.reduceBNe,reduceIte,reduceDIte,reduceCtorEq];rfl) ?_);refine bj (fun(z:Nat×List Rat×List Rat)=>(⟨[(0,.l (.z tyP p)),(1,.l (.z tyP q)),(6,.l (.ownS 1600)),(7,.l (.ownS 1184))],[(1600,.arr tyN 91 (aL z.2.1)),(1184,.arr tyN 91 (aL z.2.2))]⟩:aa)) (fun z=>DivPhi p q z.1 z.2.1 z.2.2) (fun z=>z.2.1.length) (p.length+1,ax p,List.replicate (p.length+1-q.length) 0) ?_ ?_ ?_;·refine q_l ?_;rw[v1,Int.toNat_natCast,hC.enc,BQ];exact⟨rfl,rfl⟩
 ·exact div_start hC
 ·rintro⟨n,r,s⟩ hz;try dsimp only at hz
  refine ak (ak ?_);refine cS hG (by simp only[hT,dk,ca.eq_def,cy.eq_def,dw,gk,eQ,gj,gd,gS,eR,mx0,mx1,mx2,mx3,mx4,mx5,mx6,aW,bw,bL,bd,bu,Ty.fieldTy,Ty.fieldOf,Nat.reduceLT,Nat.reduceEqDiff,Nat.reduceAdd,Nat.reduceMul,Nat.reduceSub,Nat.reduceLeDiff,Nat.reduceBEq,Nat.reduceBNe,reduceIte,reduceDIte,reduceCtorEq];rfl) ?_ ?_;·exact tt9
  refine ah (ao ?_ ?_)
  ·(intro hb0;(try simp only[bt] at hb0);(have hle:q.length<=r.length:=by have h9:(q.length:Int)<=((aL r).length:Int):=hb0;rw[aH] at h9;omega);obtain⟨w1,w2,n1,n2,n3⟩:=NN hC hz hle;have hk:=T6 hC hz hle;refine aq (ah ?_);refine ar (ak ?_);refine cS hG (by simp only[hT,dk,ca.eq_def,cy.eq_def,dw,gk,eQ,gj,gd,gS,eR,mx0,mx1,mx2,mx3,mx4,mx5,mx6,aW,bw,bL,bd,bu,Ty.fieldTy,Ty.fieldOf,Nat.reduceLT,Nat.reduceEqDiff,Nat.reduceAdd,Nat.reduceMul,Nat.reduceSub,Nat.reduceLeDiff,Nat.reduceBEq,Nat.reduceBNe,reduceIte,reduceDIte,reduceCtorEq];rfl) ?_ ?_;·exact tt9);refine ah (ak ?_);refine u9 hG (by simp only[hT,mt0,dk,ca.eq_def,cy.eq_def,dw,gk,eQ,gj,gd,gS,eR,mx0,mx1,mx2,mx3,mx4,mx5,mx6,aW,bw,bL,bd,bu,Ty.fieldTy,Ty.fieldOf,Nat.reduceLT,Nat.reduceEqDiff,Nat.reduceAdd,Nat.reduceMul,Nat.reduceSub,Nat.reduceLeDiff,Nat.reduceBEq,Nat.reduceBNe,reduceIte,reduceDIte,reduceCtorEq];rfl) (by kernel_rfl) (by rfl) (by rfl) ?_ ?_
   ·(try simp only[ba]);simp only[w1,w2,Int.toNat_natCast,n1,n2];exact Kb hC hz hle
   refine ah (ak ?_);refine cS hG (by simp only[hT,dk,ca.eq_def,cy.eq_def,dw,gk,eQ,gj,gd,gS,eR,mx0,mx1,mx2,mx3,mx4,mx5,mx6,aW,bw,bL,bd,bu,Ty.fieldTy,Ty.fieldOf,Nat.reduceLT,Nat.reduceEqDiff,Nat.reduceAdd,Nat.reduceMul,Nat.reduceSub,Nat.reduceLeDiff,Nat.reduceBEq,Nat.reduceBNe,reduceIte,reduceDIte,reduceCtorEq];rfl) ?_ ?_
   ·(try simp only[ba]);simp only[hk,Int.toNat_natCast];exact⟨⟨(zp hC hz hle).1,(zp hC hz hle).2.1⟩,(zp hC hz hle).2.2⟩
   (refine ah (ak ?_);refine ak (cS hG (by simp only[hT,dk,ca.eq_def,cy.eq_def,dw,gk,eQ,gj,gd,gS,eR,mx0,mx1,mx2,mx3,mx4,mx5,mx6,aW,bw,bL,bd,bu,Ty.fieldTy,Ty.fieldOf,Nat.reduceLT,Nat.reduceEqDiff,Nat.reduceAdd,Nat.reduceMul,Nat.reduceSub,Nat.reduceLeDiff,Nat.reduceBEq,Nat.reduceBNe,reduceIte,reduceDIte,reduceCtorEq];rfl) ?_ ?_);·exact tt9);refine ah (ar ?_);refine bj (fun(z:Nat)=>(⟨[(0,.l (.z tyP p)),(1,.l (.z tyP q)),(6,.l (.ownS 1600)),(7,.l (.ownS 1184)),(8,.l (.z (.int .i64) ((r.length-q.length:Nat):Int))),(9,.l (.ownP 9 0)),(51,.l (.z tyP q)),(52,.l (.z (.int .i64) (q.length:Int))),(53,.l (.z (.int .i64) (z:Int)))],[(1600,.arr tyN 91 (aL (cL r (r.length-q.length) (-(aE r/aE (ax q))) (ax q) z))),(1184,.arr tyN 91 (aL (s.set (r.length-q.length) (aE r/aE (ax q))))),(9,.box 91 [.z .bool (br (aE r/aE (ax q))).1.1,.z (.slice (.int .u32)) (br (aE r/aE (ax q))).1.2,.z .bool (br (aE r/aE (ax q))).2.1,.z (.slice (.int .u32)) (br (aE r/aE (ax q))).2.2])]⟩:aa)) (fun z=>z<=q.length) (fun z=>q.length-z) 0 ?_ ?_ ?_;·refine q_l ?_;simp only[hk,w1,w2,Int.toNat_natCast,pe2,n1,n2,aQ,vL,cL,true_and,and_true,and_self];rfl
   ·omega
   ·(rintro i g1;(try dsimp only at g1);refine ak (cS hG (by simp only[hT,dk,ca.eq_def,cy.eq_def,dw,gk,eQ,gj,gd,gS,eR,mx0,mx1,mx2,mx3,mx4,mx5,mx6,aW,bw,bL,bd,bu,Ty.fieldTy,Ty.fieldOf,Nat.reduceLT,Nat.reduceEqDiff,Nat.reduceAdd,Nat.reduceMul,Nat.reduceSub,Nat.reduceLeDiff,Nat.reduceBEq,Nat.reduceBNe,reduceIte,reduceDIte,reduceCtorEq];rfl) ?_ ?_);·exact tt9);refine ah (ak ?_);refine ao ?_ ?_
    ·intro hb1;(try simp only[bt] at hb1);(have hi:i<q.length:=by have h9:(i:Int)<(q.length:Int):=hb1;omega);obtain⟨u1,u2,u3,u4,u5,u6⟩:=NL hC hz hle hi;refine aq (ah ?_);refine ak (ar ?_);refine ak (cS hG (by simp only[hT,dk,ca.eq_def,cy.eq_def,dw,gk,eQ,gj,gd,gS,eR,mx0,mx1,mx2,mx3,mx4,mx5,mx6,aW,bw,bL,bd,bu,Ty.fieldTy,Ty.fieldOf,Nat.reduceLT,Nat.reduceEqDiff,Nat.reduceAdd,Nat.reduceMul,Nat.reduceSub,Nat.reduceLeDiff,Nat.reduceBEq,Nat.reduceBNe,reduceIte,reduceDIte,reduceCtorEq];rfl) ?_ ?_)
     ·(try simp only[ba]);exact⟨by omega,hb1⟩
     refine ah (u9 hG (by simp only[hT,mt0,dk,ca.eq_def,cy.eq_def,dw,gk,eQ,gj,gd,gS,eR,mx0,mx1,mx2,mx3,mx4,mx5,mx6,aW,bw,bL,bd,bu,Ty.fieldTy,Ty.fieldOf,Nat.reduceLT,Nat.reduceEqDiff,Nat.reduceAdd,Nat.reduceMul,Nat.reduceSub,Nat.reduceLeDiff,Nat.reduceBEq,Nat.reduceBNe,reduceIte,reduceDIte,reduceCtorEq];rfl) (by kernel_rfl) (by rfl) (by rfl) ?_ ?_)
     ·(try simp only[ba]);simp only[pe2,u1,u3,u4,Int.toNat_natCast,aQ];exact Kc hC hz hle hi
     (refine aK (ah ?_);refine cS hG (by simp only[hT,dk,ca.eq_def,cy.eq_def,dw,gk,eQ,gj,gd,gS,eR,mx0,mx1,mx2,mx3,mx4,mx5,mx6,aW,bw,bL,bd,bu,Ty.fieldTy,Ty.fieldOf,Nat.reduceLT,Nat.reduceEqDiff,Nat.reduceAdd,Nat.reduceMul,Nat.reduceSub,Nat.reduceLeDiff,Nat.reduceBEq,Nat.reduceBNe,reduceIte,reduceDIte,reduceCtorEq];rfl) ?_ ?_;·exact tt9);show ∃ z,_;refine q_l ?_;simp only[pe2,u1,u3,u4,Int.toNat_natCast,aQ,QZ];exact NO (n:=n) (s:=s) hC hi
    ·intro hb1;(try simp only[bf] at hb1);(have hi:i=q.length:=by have h9: ¬ (i:Int)<(q.length:Int):=hb1;omega);refine aZ (aB ?_);refine av (au ?_);refine ah (cS hG (by simp only[hT,dk,ca.eq_def,cy.eq_def,dw,gk,eQ,gj,gd,gS,eR,mx0,mx1,mx2,mx3,mx4,mx5,mx6,aW,bw,bL,bd,bu,Ty.fieldTy,Ty.fieldOf,Nat.reduceLT,Nat.reduceEqDiff,Nat.reduceAdd,Nat.reduceMul,Nat.reduceSub,Nat.reduceLeDiff,Nat.reduceBEq,Nat.reduceBNe,reduceIte,reduceDIte,reduceCtorEq];rfl) ?_ ?_)
     ·(try simp only[ba]);rw[Hj (p:=p) (n:=n) (s:=s) hi];exact NM hC hz hle
     refine aK ?_;show ∃ z,_;refine q_l ?_;obtain⟨m,hm⟩:=div_next hC hz hle;exact⟨m,aP (cA (ax q) r),by rw[Hj (p:=p) (n:=n) (s:=s) hi,aM],_,rfl,hm,fb (by rw[aN];exact h0) (by rw[aN];exact hle) hC.hl⟩
  ·(intro hb0;(try simp only[bf] at hb0);(have hle: ¬q.length<=r.length:=by have h9: ¬ (q.length:Int)<=((aL r).length:Int):=hb0;rw[aH] at h9;omega);have he:=div_end hz hle;refine aZ (aB ?_);refine av (au ?_);refine ah (ak ?_);refine cS hG (by simp only[hT,dk,ca.eq_def,cy.eq_def,dw,gk,eQ,gj,gd,gS,eR,mx0,mx1,mx2,mx3,mx4,mx5,mx6,aW,bw,bL,bd,bu,Ty.fieldTy,Ty.fieldOf,Nat.reduceLT,Nat.reduceEqDiff,Nat.reduceAdd,Nat.reduceMul,Nat.reduceSub,Nat.reduceLeDiff,Nat.reduceBEq,Nat.reduceBNe,reduceIte,reduceDIte,reduceCtorEq];rfl) ?_ ?_;·exact tt9);refine ah (ay ?_);refine q_e [] ?_;rw[<- he];exact⟨rfl,trivial,rfl⟩
def sJ(B:aj):Tab:={types:= [(3,(.int .i64)),(79,tyP)],elems:= [],cons:= [(68,rh),(120,qn)],hint:= [13],N:=21,base:=B}
theorem Di{B:aj}(hB:aC B):aI Tryz.prog (sJ B):=⟨⟨tc ty3 (tc gF (ae)),af,by simp only[sJ,ioB];omega⟩,aG (cc Tryz.func68 (qo hB) (cc Tryz.func120 (yy hB) (aA))),by kernel_rfl⟩
def ng:Con:=fun l os=>match l,os with
 | [.z (.slice (.st (.pair (.st (.pair .bool (.slice (.int .u32)))) (.st (.pair .bool (.slice (.int .u32))))))) p,.z (.slice (.st (.pair (.st (.pair .bool (.slice (.int .u32)))) (.st (.pair .bool (.slice (.int .u32))))))) q],[]=>some (ju p q,[.z tyP (aL (cp (ax p) (ax q)))],[])
 |_,_=>none
theorem yA{B:aj}(hB:aC B):Valid B Tryz.prog 70 ng:=by
 refine ab (Di hB).tab Tryz.func70 rfl rfl rfl ?_;intro args os C rs os' hc hC;unfold ng at hc;split at hc;case h_2=>cases hc
 rename_i p q;cases hc;refine v_h (Di hB) fun X hP hT hr hG=> ?_;have hU:=sJ.eq_1;unfold sJ at hT;have hX:=ai @qn.eq_1<| @rh.eq_1;simp only[Tryz.f70,aD,an,ioB];refine s_g hG ?_;refine ak (ar ?_);refine bj (fun(z:Nat×List Rat×List Rat)=>(⟨[(0,.l (.z tyP (aL z.2.1))),(1,.l (.z tyP (aL z.2.2)))],[]⟩:aa)) (fun z=>vS p q z.1 z.2.1 z.2.2) (fun z=>z.2.2.length) (q.length+1,ax p,ax q) ?_ ?_ ?_;·refine q_l ?_;rw[zq hC.hp,zq hC.hq];exact⟨rfl,rfl⟩
 ·exact Kd hC
 ·rintro⟨n,a,b⟩ hz;try dsimp only at hz
  refine ak (s_g hG ?_);refine ao ?_ ?_
  ·intro hb0;(try simp only[bt] at hb0);(have hl:0<b.length:=by have h9:(0:Int)<((aL b).length:Int):=hb0;rw[aH] at h9;omega);obtain⟨d1,d2,⟨m,d3⟩,d4⟩:=NP hz hl;refine aq (ah ?_);refine ar (s_q hG ?_ ?_)
   ·(try simp only[ba]);exact d1
   refine ag hG ?_ ?_
   ·(try simp only[ba]);rw[aM,aM];exact d2
   refine aK ?_;show ∃ z,_;refine q_l ?_;rw[aM,aM,aM];exact⟨m,b,rfl,_,rfl,d3,d4⟩
  ·intro hb0;(try simp only[bf] at hb0);(have hl: ¬0<b.length:=by have h9: ¬ (0:Int)<((aL b).length:Int):=hb0;rw[aH] at h9;omega);obtain⟨d1,d2⟩:=Q0 hz hl;refine aZ (aB ?_);refine av (au ?_);refine ah (s_q hG ?_ ?_)
   ·(try simp only[ba]);exact d1
   refine ay (q_e [] ?_);rw[aM,d2]
def sK(B:aj):Tab:={types:= [(3,(.int .i64)),(79,tyP)],elems:= [],cons:= [(68,rh),(70,ng),(77,kF),(120,qn)],hint:= [14],N:=19,base:=B}
theorem Dj{B:aj}(hB:aC B):aI Tryz.prog (sK B):=⟨⟨tc ty3 (tc gF (ae)),af,by simp only[sK,ioB];omega⟩,aG (cc Tryz.func68 (qo hB) (cc Tryz.func70 (yA hB) (cc Tryz.func77 (yz hB) (cc Tryz.func120 (yy hB) (aA))))),by kernel_rfl⟩
def sL:Con:=fun l os=>match l,os with
 | [.z (.slice (.st (.pair (.st (.pair .bool (.slice (.int .u32)))) (.st (.pair .bool (.slice (.int .u32))))))) p],[]=>some (nE p,[.z tyP (aL (cH (ax p)))],[])
 |_,_=>none
theorem K9{B:aj}(hB:aC B):Valid B Tryz.prog 79 sL:=by
 refine ab (Dj hB).tab Tryz.func79 rfl rfl rfl ?_;intro args os C rs os' hc hC;unfold sL at hc;split at hc;case h_2=>cases hc
 rename_i p;cases hc;refine v_h (Dj hB) fun X hP hT hr hG=> ?_;have hU:=sK.eq_1;unfold sK at hT;have hX:=ai @ng.eq_1<|ai @kF.eq_1<|ai @qn.eq_1<| @rh.eq_1;simp only[Tryz.f79,aD,an,ioB];refine s_g hG ?_;refine ak (s_g hG ?_);refine ao ?_ ?_
 ·intro hb0;try simp only[bt] at hb0
  refine s_g hG ?_;refine ay (az ?_);refine q_e [] ?_;have h9:(p.length:Int)=0:=hb0;obtain rfl:p= []:=List.eq_nil_of_length_eq_zero (by omega);rfl
 ·intro hb0;try simp only[bf] at hb0
  have hne:p≠ []:=by intro e;subst e;exact hb0 rfl
  obtain⟨c1,c2,c3,c4,c5⟩:=hC hne;refine aq (ah ?_);refine s_q hG ?_ ?_
  ·(try simp only[ba]);simp only[aM];exact⟨⟨c1,by omega⟩,c3,c4⟩
  refine s_q hG ?_ ?_
  ·(try simp only[ba]);simp only[aM];exact c5
  refine ay (q_e [] ?_);simp only[aM,cH,if_neg (show ¬ax p= [] from fun e=>hne (by have:=congrArg List.length e;rw[aN] at this;exact List.eq_nil_of_length_eq_zero this))]
end Go.Proofs.YtdojbabpnaifoaaGreatDoor
end
section
namespace Go.Cm
open Go.RowKit
def yB:Code->Option (Nat×TypeId×Nat)
 | .region _ ops false=>match ops.toList with
  | [o1,o2]=>match o1.guard,o1.dst,o1.op,o2.guard,o2.dst,o2.op with
   |none,some d,.alloc T,none,none,.store T' (.tmp d') (.tmp p)=>if T=T'/\d'=d/\p≠d then some (d,T,p) else none
   |_,_,_,_,_,_=>none
  |_=>none
 |_=>none
theorem Ai{H:Nat->Prop}{w:World}{ρ:Nat->Value}{cs:List LV}{vs:List Value}(h:bC (gv H w ρ) cs vs):∀ c∈vs,c.oneCell'=true:=by
 intro c hc;obtain⟨i,hi,rfl⟩:=List.getElem_of_mem hc;have hl:=h.length;obtain⟨v,h1,h2⟩:=h.get (List.getElem?_eq_getElem (show i<cs.length by omega));rw[List.getElem?_eq_getElem hi] at h1;cases h1;exact h2.2
theorem Pw{X:Cx}{r:Option Nat}{n:Nat}(c:Code){d:Nat}{T:TypeId}{p:Nat}{u:Ty}(h:yB c=some (d,T,p))(hT:cZ X.P T u)(a:Act)(w:World)(hd:d<a.tmps.size)(hl:(a.eval (.tmp p)).cells.toList.length=u.w)(h1:∀ c∈(a.eval (.tmp p)).cells.toList,c.oneCell'=true):
  ∃ Wb:World,(∀ k,k<w.heap.size->Wb.heap[k]? =w.heap[k]?)/\Wb.heap[w.heap.size]? =some (.cells ((a.eval (.tmp p)).cells.toList).toArray T (0,0))/\Wb.heap.size=w.heap.size+1/\(Wb.os=w.os/\Wb.tape=w.tape/\Wb.output=w.output)/\
   ∀ {K:Act->World->Prop} {R:Exit->Act->World->Prop},K (a.put (some d) (.pointer (some ⟨w.heap.size,0,none⟩))) Wb->c.wpIn (fw r) n X.P (Exit.then K R) a w:=by
 cases c with
 |region id ops draw=>
  cases draw with
  |true=>simp[yB] at h
  |false=>
   simp only[yB] at h;split at h;(case h_2=>cases h);rename_i o1 o2 hops;split at h;(case h_2=>cases h);rename_i d0 T0 T' d' p' g1 e1 e2 g2 e3 e4;split at h;(case isFalse=>cases h);rename_i hc;obtain⟨rfl,rfl,hpd⟩:=hc;cases h;have hz:=gV hT.leaf u.zeroCells u.zeroCells_length u.zeroCells_one;have hrow:(w.alloc (.cells (mkV u.isAgg u.zeroCells).cells T)).heap[w.heap.size]? =some (.cells u.zeroCells.toArray T (0,0)):=by
    rw[heap_alloc_new];congr 2;apply Array.ext';simpa using hz
   (have hst:=fV (P:=X.P) hT (v:=a.eval (.tmp p)) hrow hl h1 (o:=0) (by rw[u.zeroCells_length];omega);have hset:=dV hrow (new:=(a.eval (.tmp p)).cells.toList) (off:=0) (by rw[hl,u.zeroCells_length];omega);refine⟨(w.alloc (.cells (mkV u.isAgg u.zeroCells).cells T)).setCells w.heap.size 0 (a.eval (.tmp p)).cells.toList,fun k hk=> ?_,?_,?_,?_,?_⟩;·rw[cz _ _ _ _ (by omega)];exact cw w _ k hk);·rw[hset];have e0:u.zeroCells.drop (0+(a.eval (.tmp p)).cells.toList.length)= []:=List.drop_of_length_le (by rw[hl,u.zeroCells_length];omega);rw[e0];simp
   ·rw[nx,World.size_alloc]
   ·have hb:=Bel.setCells (M:=fun _=>True) (b:=w.heap.size) trivial (a.eval (.tmp p)).cells.toList 0 ((Bel.refl (fun _=>True) w).alloc (.cells (mkV u.isAgg u.zeroCells).cells T));exact⟨hb.os,hb.tape,hb.output⟩
   ·intro K R hk;refine wpIn_region_list ?_;rw[hops];(have hw1:∀ t,Region.wanted o1 (yielded ops t)=true:=fun t=>by simp[Region.wanted,g1]);(have hw2:∀ t,Region.wanted o2 (yielded ops t)=true:=fun t=>by simp[Region.wanted,g2]);simp only[wpListIn,hw1,if_true];refine bp (v:= .pointer (some ⟨w.heap.size,0,none⟩)) (w':=w.alloc (.cells (mkV u.isAgg u.zeroCells).cells T)) ?_ ?_;·unfold execOp;rw[e2];exact bE (xb hT w)
    ·rw[e1];simp only[hw2,if_true];have hdv:(a.put (some d) (.pointer (some ⟨w.heap.size,0,none⟩))).eval (.tmp d)= .pointer (some ⟨w.heap.size,0,none⟩):=by
      simp[Act.eval,Act.put,hd]
     have hpv:(a.put (some d) (.pointer (some ⟨w.heap.size,0,none⟩))).eval (.tmp p)=a.eval (.tmp p):=by
      show (a.put (some d) _).tmps.getD p undef=a.tmps.getD p undef;exact Act.getD_put_ne hpd
     (refine gY (w':=(w.alloc (.cells (mkV u.isAgg u.zeroCells).cells T)).setCells w.heap.size 0 (a.eval (.tmp p)).cells.toList) ?_ ?_;·unfold execOp;rw[e4];simp only[hdv,hpv];simp[hst]);·rw[e3];exact hk
 |_=>simp[yB] at h
theorem Fits.freshO{X:Cx}{s:aa}{a:Act}{w w':World}{d:Nat}{obj:aR}{val:Value}{ρ:Nat->Value}(hf:Fits X s a w ρ)(hdB:d<ioB)
  (hkeep:∀ k,k<w.heap.size->w'.heap[k]? =w.heap[k]?) (hval:∀ b,Blk val b->w.heap.size<=b)
  (hobj:∀ H' ρ',(∀ b,b<w.heap.size->H' b->hot X.O ρ s.own b)->bo (hot X.O ρ s.own) w w'->(∀ i,i≠d->ρ' i=ρ i)->ρ' d=val->cr H' w' ρ' X.M (d,obj)):
  ∃ ρ',ρ' d=val/\(∀ i,i≠d->ρ' i=ρ i)/\Fits X {env:=b6 (LV.kill d) s.env,own:=(d,obj)::bz (LV.kill d) (del s.own d)} a w' ρ':=by
 have hlt:=fun p hp b hb=>((hf.own p hp).lt (b:=b) hb).2;have hs:bo (hot X.O ρ s.own) w w':=fun b _ hb=>hkeep b (df hb);have hh:∀ b,b<w.heap.size->hot X.O (ns ρ d val) ((d,obj)::bz (LV.kill d) (del s.own d)) b->hot X.O ρ s.own b:=by
  intro b hb h;rcases h with h|⟨p,hp,hp2⟩;·exact .inl h
  ·(rcases List.mem_cons.1 hp with rfl|hp;·simp only[cV] at hp2;have:=hval b hp2;omega);·obtain⟨u,h1,_⟩:=bx hp;have h2:=bR.1 h1;rw[dG _ _ h2.2] at hp2;exact dB h2.1 hp2
 have hρ:∀ i,i≠d->ns ρ d val i=ρ i:=fun i hi=>dG _ _ hi;refine⟨ns ρ d val,cV _ _ _,hρ,hf.env_map (fun x v hx=>bn hh hs hρ hx) ?_ ?_ ?_⟩
 ·intro p hp;rcases List.mem_cons.1 hp with rfl|hp;·exact hobj _ _ hh hs hρ (cV _ _ _)
  ·obtain⟨u,h1,h2⟩:=bx hp;have h3:=bR.1 h1;have:=(hf.own _ h3.1).move (f:=LV.kill d) (ρ':=ns ρ d val) hh hs (fun x v hx=>bn hh hs hρ hx) (hρ _ h3.2) (fun b hb=>hkeep b (hlt _ h3.1 b hb));rw[<- h2] at this;exact this
 ·intro p hp hB hF;rcases List.mem_cons.1 hp with rfl|hp;·exact absurd hB (Nat.not_le.2 hdB)
  ·obtain⟨u,h1,_⟩:=bx hp;have h3:=bR.1 h1;rw[hρ _ h3.2];exact hf.io _ h3.1 hB hF
 ·rw[List.pairwise_cons];constructor;·intro q hq;obtain⟨u,h1,_⟩:=bx hq;have h3:=bR.1 h1;refine⟨fun e=>h3.2 e.symm,fun b hb hq2=> ?_⟩;rw[dG _ _ h3.2] at hq2;simp only[cV] at hb;have h4:=hval b hb;have:=hlt _ h3.1 b hq2;omega
  ·have hap:=cO (f:=LV.kill d) (fun i j=>i≠j/\∀ b,Blk (ρ i) b-> ¬Blk (ρ j) b) (di (fun i j=>i≠j/\∀ b,Blk (ρ i) b-> ¬Blk (ρ j) b) (n:=d) hf.apart);refine hap.imp_of_mem fun {p q} hp hq hpq=> ?_;obtain⟨_,h1,_⟩:=bx hp;obtain⟨_,h2,_⟩:=bx hq;rw[dG _ _ (bR.1 h1).2,dG _ _ (bR.1 h2).2];exact hpq
theorem La{X:Cx}(hr:X.r=none){s:aa}{K:Exit->aa->Prop}{g:Operand}{ps:Array Tmp}{assign body:Code}{gf:FuncId}
  {items:List (List LV)} (henters:∀ args w,(callFunc gf args).run X.P w= .ok (.enter gf args) w) (hdata:∀ it∈items,it.length=ps.size/\it.all LV.isZ=true) {d pv:Nat} {TB:TypeId} {ub:Ty} (hasg:yB assign=some (d,TB,pv)) (hTb:cZ X.P TB ub) (hdN:d<X.T.N) (ks:List Nat)
  (hk1:ks.all (fun t=> !ps.toList.contains t&&t !=d)=true) (hps:ps.toList.all (fun t=>decide (t<X.T.N))=true)
  {ι:Type} (f:Nat->ι->aa) (Φ:Nat->ι->Prop) (x₀:ι) (h₀:le s (f 0 x₀))
  (hseq:∀ (a:Act) (w:World) (ρ:Nat->Value),St X s a w->Fits X s a w ρ->(∀ b,hot X.O (cX ρ s.own) (f 0 x₀).own b->b<w.heap.size)->∃ (lb:List Value) (E:Nat->Prop),a.eval g= .func (.func gf) #[] lb.toArray/\(∀ b,E b->X.M b/\(∃ o:Obj,w.heap[b]? =some o/\o.isCells=true)/\ ¬hot X.O (cX ρ s.own) (f 0 x₀).own b/\hot X.O ρ s.own b)/\∃ enc:Nat->Array Value,
   (∀ k (hk:k<items.length),bC (aV (fun b=>hot X.O (cX ρ s.own) (f 0 x₀).own b∨E b) w (fun _=>undef)) items[k] (enc k).toList)/\xl X.P gf lb.toArray enc items.length (A8 (hot (fun _=>False) (cX ρ s.own) (f 0 x₀).own) w.heap.size) w E) (hΦ:Φ 0 x₀) (hks:∀ k x,(f k x).env.all (fun e=>ks.contains e.1)=true)
  (hround:∀ k (hk:k<items.length) (x:ι),Φ k x->∃ s1 v cs,bh (eG (f k x) (ps.toList.zip items[k])) (.tmp pv)=some v/\v.cells=some cs/\cs.length=ub.w/\cs.all (fun c=> !c.isOf d)=true/\s1={env:=(d,.l (.ownP d 0))::del ((eG (f k x) (ps.toList.zip items[k])).kill d).env d,own:=(d,.box TB cs)::((eG (f k x) (ps.toList.zip items[k])).kill d).own}/\
   ∀ X':Cx,X'.P=X.P->X'.T={X.T with keep:=ks}->J X' body s1 (y6 f Φ ks K k))
  (hdone:∀ x,Φ items.length x->K .normal (f items.length x)):J X (.rangeFunc g ps assign body) s K:=by
 intro a w hst;obtain⟨ρ,hf⟩:=hst.fits;have hHlt':∀ b,hot X.O (cX ρ s.own) (f 0 x₀).own b->b<w.heap.size:=fun b hb=>hf.hot_lt hst.others hst.below (nQ h₀ hb);have hseq':=hseq a w ρ hst hf hHlt';obtain⟨H,hH⟩:∃ H,H=hot (fun _=>False) (cX ρ s.own) (f 0 x₀).own:=⟨_,rfl⟩;have hHX:∀ b,H b->hot X.O (cX ρ s.own) (f 0 x₀).own b:=fun b hb=>by rw[hH] at hb;exact hb.elim False.elim .inr
 rw[<- hH] at hseq';obtain⟨lb,E,hlb1,hE,enc,henc,hsq⟩:=hseq';have hEM:=fun b hb=>(hE b hb).1;have hEw:=fun b hb=>(hE b hb).2.1;have hEH:∀ b,E b-> ¬H b:=fun b hb h=>(hE b hb).2.2.1 (hHX b h);have hw0:X.w0.heap.size<=w.heap.size:=hst.below.size;have hout0:eZ X a w H E (f 0 x₀) w (cX ρ s.own):=by
  have h1:Fits (XE X E) (f 0 x₀) a w (cX ρ s.own):=Fits.leO h₀ hf (fun b _ hb=>by
   (rcases hb with(hb|hb)|hb;·exact .inl hb);·exact(hE b hb).2.2.2
   ·exact nQ h₀ (.inr hb))
  exact⟨h1,hst.below,fun p hp b hb=> .inr (by rw[hH];exact dB hp hb),KeepsOthers.refl _,bo.refl _ _⟩
 refine wpIn_rangeFunc ?_;intro fn hfn;have hround0:(fw X.r).round=none:=by rw[hr];rfl
 rw[hround0];obtain⟨rec,hrec⟩:∃ rec:LoopState->Option Code->Loop,rec=fun st pe=>{state:=st,pending:=pe,fn,tmps:=a.tmps,params:=ps,assign,body,defers:=w.heap.size}:=⟨_,rfl⟩;obtain⟨W1,hW1⟩:∃ W1,(w.alloc (.deferred (some []))).alloc (.loop (rec .ready none))=W1:=⟨_,rfl⟩;have hsz1:W1.heap.size=w.heap.size+2:=by rw[<- hW1];simp
 have hL1:W1.heap[w.heap.size+1]? =some (.loop (rec .ready none)):=by
  rw[<- hW1];have:=World.alloc_heap_new (w.alloc (.deferred (some []))) (.loop (rec .ready none));rwa [World.size_alloc] at this
 have hD1:W1.heap[w.heap.size]? =some (.deferred (some [])):=by
  rw[<- hW1];exact(Below.heap_alloc _ _ _ (by simp)).trans (World.alloc_heap_new w _)
 have hb1:Below w.heap.size w W1:=by rw[<- hW1];exact((Below.refl _ w).alloc (Nat.le_refl _) _).alloc (by simp) _
 have hout1:eZ X a w H E (f 0 x₀) W1 (cX ρ s.own):=by
  rw[<- hW1];exact(hout0.abide hw0 (World.grownBy_alloc _ _ none) (by simp)).abide hw0 (World.grownBy_alloc _ _ none) (by simp)
 refine⟨w.heap.size+1,[{target:= .collected w.heap.size,args:= #[]}],W1,{target:= .fn (.func gf) lb.toArray,args:= #[.func (.yield (w.heap.size+1)) #[] #[]]},W1,gf,
  #[.func (.yield (w.heap.size+1)) #[] #[]]++lb.toArray,W1,?_,?_,fun _ _=>trivial,?_,fun h=>by simp[fw,Fence.wide] at h,?_⟩
 ·rw[<- hW1,hrec];exact run_enterLoop_outer _ _ _ _ _
 ·simp only[resolve,hlb1];simp[go_sem]
 ·simp[invoke,go_sem,henters]
 have hfw:fw X.r=fw none:=by rw[hr]
 rw[hfw];have hkeptA:∀ k (act0:Act),act0.tmps=((ps.toList.zip (enc k).toList).foldl (fun(t:Array Value) (p:Nat×Value)=>t.setIfInBounds p.1 p.2) a.tmps)->∀ t∈ks,∀ pt:Value,(act0.put (some d) pt).tmps.getD t undef=a.tmps.getD t undef:=by
  intro k act0 h0 t ht pt;have h1:=List.all_eq_true.1 hk1 t ht;simp only[Bool.and_eq_true,Bool.not_eq_true',List.contains_eq_mem,decide_eq_false_iff_not,bne_iff_ne] at h1;rw[Act.getD_put_ne h1.2,h0,pH];intro hm;obtain⟨p,hp,rfl⟩:=List.mem_map.1 hm;exact h1.1 (List.of_mem_zip hp).1
 have hE1: ¬E (w.heap.size+1):=fun e=>by
  obtain⟨o,ho,_⟩:=hEw _ e;have:=(Array.getElem?_eq_some_iff.1 ho).1;omega
 have hE2: ¬E w.heap.size:=fun e=>by
  obtain⟨o,ho,_⟩:=hEw _ e;have:=(Array.getElem?_eq_some_iff.1 ho).1;omega
 refine(hsq (w.heap.size+1)
  (fun k W=>(∃ x ρ,Φ k x/\eZ X a w H E (f k x) W ρ)/\W.heap[w.heap.size+1]? =some (.loop (rec .ready none))/\W.heap[w.heap.size]? =some (.deferred (some [])))
  (fun W=>∃ c,(∃ z ρ,MA K z c/\eZ X a w H E z W ρ)/\W.heap[w.heap.size+1]? =some (.loop (rec .done (some c)))/\W.heap[w.heap.size]? =some (.deferred (some [])))
  W1 hb1 ?_ ?_ ?_ ?_ ?_ ⟨⟨x₀,_,hΦ,hout1⟩,hL1,hD1⟩).mono ?_
 ·rintro k A B row ⟨⟨x,ρx,hx,ho⟩,hl,hd⟩ hg' hrow;refine⟨⟨x,ρx,hx,ho.abide hw0 hg' (fun r e=> ?_)⟩,(grownBy_keeps hg' (fun r e=>(hrow r e).2) hl rfl).trans hl,(grownBy_keeps hg' (fun r e=>(hrow r e).2) hd rfl).trans hd⟩;obtain⟨h1,o,h2,h3⟩:=hrow r e;exact⟨by omega,o,h2,Obj.not_cells_of_walk h3⟩
 ·rintro _ A B row ⟨c,⟨z,ρx,hx,ho⟩,hl,hd⟩ hg' hrow;refine⟨c,⟨z,ρx,hx,ho.abide hw0 hg' (fun r e=> ?_)⟩,(grownBy_keeps hg' (fun r e=>(hrow r e).2) hl rfl).trans hl,(grownBy_keeps hg' (fun r e=>(hrow r e).2) hd rfl).trans hd⟩;obtain⟨h1,o,h2,h3⟩:=hrow r e;exact⟨by omega,o,h2,Obj.not_cells_of_walk h3⟩
 ·rintro k A B ⟨⟨x,ρx,hx,ho⟩,hl,hd⟩ ht;exact⟨⟨x,ρx,hx,ho.turn hEM hEw hEH ht⟩,(ht.same _ hE1).trans hl,(ht.same _ hE2).trans hd⟩
 ·rintro A B ⟨c,⟨z,ρx,hx,ho⟩,hl,hd⟩ ht;exact⟨c,⟨z,ρx,hx,ho.turn hEM hEw hEH ht⟩,(ht.same _ hE1).trans hl,(ht.same _ hE2).trans hd⟩
 ·rintro k W ⟨⟨x,ρx,hx,ho⟩,hl,hd⟩ hkN;obtain⟨s1,v,cs,hv1,hv2,hv3,hv4,hs1,hJ⟩:=hround k hkN x hx;have hlt:w.heap.size+1<W.heap.size:=(Array.getElem?_eq_some_iff.1 hl).1;have hen:=henc k hkN;have hdat:=hdata _ (List.getElem_mem hkN);have hes:(enc k).size=ps.size:=by have:=hen.length;rw[hdat.1] at this;simpa using this.symm
  have hy:=run_yield (P:=X.P) (args:=enc k) hl (by rw[hrec];exact hes);rw[hrec] at hy;obtain⟨W2,hW2⟩:∃ W2,W.putObj (w.heap.size+1) (.loop {rec .ready none with state:= .busy})=W2:=⟨_,rfl⟩;have hl2:W2.heap[w.heap.size+1]? =some (.loop {rec .ready none with state:= .busy}):=by rw[<- hW2];exact World.putObj_heap_same hlt
  have hd2:W2.heap[w.heap.size]? =some (.deferred (some [])):=by rw[<- hW2];exact(World.putObj_heap_other (by omega)).trans hd
  have ho2:eZ X a w H E (f k x) W2 ρx:=by
   rw[<- hW2];exact ho.abide hw0 (grownBy_putObj' _ _ _) (fun r e=>by cases e;exact⟨by omega,_,hl,rfl⟩)
  have hzip:(ps.zip (enc k)).toList=ps.toList.zip (enc k).toList:=Array.toList_zip;have hfold:(ps.zip (enc k)).foldl (fun(t:Array Value) (p:Nat×Value)=>t.setIfInBounds p.1 p.2) a.tmps=(ps.toList.zip (enc k).toList).foldl (fun(t:Array Value) (p:Nat×Value)=>t.setIfInBounds p.1 p.2) a.tmps:=by
   rw[<- Array.foldl_toList,hzip]
  obtain⟨act0,hact0⟩:∃ act0:Act,act0={tmps:=(ps.toList.zip (enc k).toList).foldl (fun(t:Array Value) (p:Nat×Value)=>t.setIfInBounds p.1 p.2) a.tmps,defers:= []}:=⟨_,rfl⟩;have hfitA:Fits (XE X E) (f k x) {a with defers:= []} W2 ρx:=⟨ho2.fits.env,ho2.fits.own,ho2.fits.io,ho2.fits.apart⟩;have hHsub:∀ b,b<w.heap.size->hot (XE X E).O ρx (f k x).own b->(hot X.O (cX ρ s.own) (f 0 x₀).own b∨E b):=by
   (rintro b hb ((h1|h1)|⟨p,hp,hpb⟩);·exact .inl (.inl h1));·exact .inr h1
   ·(rcases ho2.own p hp b hpb with h2|h2;·omega);·exact .inl (hHX b h2)
  have hvals:bC (aV (hot (XE X E).O ρx (f k x).own) W2 ρx) ((ps.toList.zip (items[k])).map Prod.snd) (enc k).toList:=by
   have e:(ps.toList.zip (items[k])).map Prod.snd=items[k]:=List.map_snd_zip (by have:=hdat.1;simp;omega);rw[e];refine hen.imp (fun y v hy h=> ?_);have hz:=List.all_eq_true.1 hdat.2 y hy;refine bc hHsub (fun b hb hc=>ho2.stays b (fun e=>hb (e.imp (hHX b) id)) hc) (fun id hid=> ?_) h;cases y<;>simp_all [LV.isZ,LV.isOf]
  have hszA:a.tmps.size=X.T.N:=hst.size;have e1:(ps.toList.zip (items[k])).map Prod.fst=ps.toList:=List.map_fst_zip (by have:=hdat.1;simp;omega);obtain⟨actP,hactP,hfitP,hszP⟩:=pG (ps.toList.zip (items[k])) (enc k).toList hfitA rfl hszA (fun p hp=>by
   have:=List.all_eq_true.1 hps p.1 (List.of_mem_zip hp).1;simpa using this) hvals
  rw[e1] at hactP;have hP0:actP=act0:=by rw[hactP,hact0]
  rw[hP0] at hfitP hszP;have hpv:bh (eG (f k x) (ps.toList.zip items[k])) (.tmp pv)=some v:=hv1;have hcells:=AV.cells_ok hv2 (cm hfitP hpv);obtain⟨Wb,hWb1,hWb2,hWb3,hWb4,hexec⟩:=Pw (X:=X) (r:=some (w.heap.size+1)) (n:=0) assign hasg hTb act0 W (by rw[hszP];exact hdN) (by rw[<- hcells.length];exact hv3) (Ai hcells);refine⟨fn,_,assign,body,hy,roundIn_of_wpIn (F:=fw none) trivial ?_⟩;rw[hfold,<- hact0];refine hexec ⟨_,run_beginRound ((hWb1 _ (Array.getElem?_eq_some_iff.1 hl).1).trans hl) (by rw[hrec]),?_⟩;have hW2s:W2.heap.size=W.heap.size:=by rw[<- hW2];simp[World.putObj]
  obtain⟨W2b,hW2b⟩:∃ W2b,Wb.putObj (w.heap.size+1) (.loop {rec .ready none with state:= .busy})=W2b:=⟨_,rfl⟩;rw[hW2b];have hkb:∀ k,k<W2.heap.size->W2b.heap[k]? =W2.heap[k]? :=by
   (intro k hk;rw[<- hW2b,<- hW2];by_cases e:k=w.heap.size+1;·subst e;rw[World.putObj_heap_same (by omega),World.putObj_heap_same hlt]);·rw[World.putObj_heap_other e,World.putObj_heap_other e,hWb1 k (by omega)]
  have hnb:W2b.heap[W2.heap.size]? =some (.cells ((act0.eval (.tmp pv)).cells.toList).toArray TB (0,0)):=by
   rw[<- hW2b,hW2s,World.putObj_heap_other (by omega)];exact hWb2
  have hbelb:∀ M:Nat->Prop,Bel M W2 W2b:=fun M=>by
   (have e1:W2b.os=W2.os:=by rw[<- hW2b,<- hW2];exact hWb4.1);(have e2:W2b.tape=W2.tape:=by rw[<- hW2b,<- hW2];exact hWb4.2.1);(have e3:W2b.output=W2.output:=by rw[<- hW2b,<- hW2];exact hWb4.2.2);exact⟨e1,e2,e3,by rw[<- hW2b];simp only[World.putObj,Array.size_setIfInBounds];omega,fun k hk _=>hkb k hk⟩
  have hdB:d<ioB:=Nat.lt_of_lt_of_le hdN hst.small.n;obtain⟨ρn,hρd,hρo,hfit1⟩:=Fits.freshO hfitP hdB (w':=W2b) (obj:= .box TB cs) (val:= .pointer (some ⟨W2.heap.size,0,none⟩)) hkb (fun b hb=>by simp[Blk] at hb;omega)
   (fun H' ρ' hh hs hρ hρd=>⟨W2.heap.size,(act0.eval (.tmp pv)).cells.toList,hρd,.inl (by have:=ho2.bel.size;exact this),hnb,bC.kill hh hs hρ (fun c hc=>by have:=List.all_eq_true.1 hv4 c hc;simpa using this) hcells⟩)
  have hfit1:=hfit1.put (d:=d) (by rw[hszP];exact hdN) (v:= .l (.ownP d 0)) (val:= .pointer (some ⟨W2.heap.size,0,none⟩)) ⟨W2.heap.size,hρd,rfl⟩;have hs1':s1={env:=(d,.l (.ownP d 0))::del (b6 (LV.kill d) (eG (f k x) (ps.toList.zip items[k])).env) d,own:=(d,.box TB cs)::bz (LV.kill d) (del (eG (f k x) (ps.toList.zip items[k])).own d)}:=hs1;rw[hW2s] at hfit1;have hkA:∀ t∈ks,(act0.put (some d) (.pointer (some ⟨W.heap.size,0,none⟩))).tmps.getD t undef=a.tmps.getD t undef:=fun t ht=>hkeptA k act0 (by rw[hact0]) t ht _;have hst1:St {XE X E with T:={X.T with keep:=ks},I:=fun b=>∃ p∈(f k x).own,Blk (ρx p.1) b,w0:=W2,r:=some (w.heap.size+1),tm:=fun t=>(act0.put (some d) (.pointer (some ⟨W.heap.size,0,none⟩))).tmps.getD t undef} s1 (act0.put (some d) (.pointer (some ⟨W.heap.size,0,none⟩))) W2b:=by
   refine⟨?_,fun _ _=>rfl,by rw[Act.size_put];exact hszP,hbelb _,fun b hb hm=> ?_,⟨hst.small.n,?_,fun b hb=> ?_⟩,ρn,by rw[hs1'];exact hfit1.env,fun p hp=> ?_,by rw[hs1'];exact hfit1.io,by rw[hs1'];exact hfit1.apart⟩;·rw[Act.defers_put,hact0];exact Marks.nil _ _
   ·rcases hb with hb|hb
    ·rcases hm with hm|⟨p,hp,hpb⟩
     ·have h1:=hst.others b hb;have h2:b<X.w0.heap.size:=by
       by_cases h3:b<X.w0.heap.size
       ·exact h3
       ·exact absurd (.inl (by omega)) h1
      have:=ho2.bel.size;simp only at hm;omega
     ·exact hst.others b hb ((ho2.fits.own p hp).lt hpb).1
    ·obtain⟨o,ho,_⟩:=hEw b hb;have h2:=(Array.getElem?_eq_some_iff.1 ho).1;rcases hm with hm|⟨p,hp,hpb⟩;·have:=ho2.keeps.size;simp only at hm;omega
     ·(rcases ho2.own p hp b hpb with h1|h1;·omega);·exact hEH b hb h1
   ·(have h1:=hst.small.on;refine⟨Nat.le_trans h1.1 ho2.bel.size,fun b hb=> ?_⟩;rw[<- h1.2 b hb];refine ho2.bel.block b (Nat.lt_of_lt_of_le hb h1.1) ?_;rintro(hm|hm);·have:=h1.1;simp only at hb;omega);·have:=hst.small.io b hm;simp only at hb;omega
   ·(obtain⟨p,hp,hpb⟩:=hb;rcases ((ho2.fits.own p hp).lt hpb).1 with h1|h1;·exact Nat.le_trans hst.small.on.1 h1);·exact hst.small.io b h1
   ·have hq:∀ (l:List (Nat×LV)) (s:aa),(eG s l).own=s.own:=by
     intro l;induction l with
     |nil=>intro s;rfl
     |cons q l ih=>intro s;exact ih _
    rw[hs1'] at hp;have hp':p∈(d,aR.box TB cs)::bz (LV.kill d) (del (eG (f k x) (ps.toList.zip items[k])).own d):=hp;have h5:=(hfit1.own p hp').moved (H':=hot (XE X E).O ρn s1.own) (ρ':=ρn) (k:=p.1) (f:=id) (M':=Cx.M {XE X E with T:={X.T with keep:=ks},I:=fun b=>∃ p∈(f k x).own,Blk (ρx p.1) b,w0:=W2,r:=some (w.heap.size+1),tm:=fun t=>(act0.put (some d) (.pointer (some ⟨W.heap.size,0,none⟩))).tmps.getD t undef}) (fun b _ h=>by rw[hs1'] at h;exact h) (fun x v hx=>bc (fun b _ h=>by rw[hs1'] at h;exact h) (bo.refl _ _) (fun _ _=>rfl) hx) rfl (fun b hb=>by
     (rcases List.mem_cons.1 hp' with rfl|hp2;·simp only[hρd] at hb;simp[Blk] at hb;exact .inl (by simp only;omega));·obtain⟨u,g1,_⟩:=bx hp2;have g2:=bR.1 g1;rw[hρo _ g2.2] at hb;exact .inr ⟨(p.1,u),by rw[<- hq];exact g2.1,hb⟩)
    rw[aR.map_id] at h5;exact h5
  have hw:=hJ {XE X E with T:={X.T with keep:=ks},I:=fun b=>∃ p∈(f k x).own,Blk (ρx p.1) b,w0:=W2,r:=some (w.heap.size+1),tm:=fun t=>(act0.put (some d) (.pointer (some ⟨W.heap.size,0,none⟩))).tmps.getD t undef} rfl rfl _ _ hst1;refine GM (n:=2) (Code.wpIn_mono (fun e a3 W3 hp=> ?_) hw);obtain⟨s3,hK3,hst3⟩:=hp;have fin:∀ (jump:Option Code) (z:aa),z.env.all (fun e=>ks.contains e.1)=true->le s3 z->∃ ρz,eZ X a w H E z (W3.putObj (w.heap.size+1) (.loop (rec (if jump.isNone then .ready else .done) jump))) ρz/\
    (Instr.endRound (w.heap.size+1) jump).run X.P W3= .ok (.bool jump.isNone) (W3.putObj (w.heap.size+1) (.loop (rec (if jump.isNone then .ready else .done) jump)))/\
    (W3.putObj (w.heap.size+1) (.loop (rec (if jump.isNone then .ready else .done) jump))).heap[w.heap.size+1]? =some (.loop (rec (if jump.isNone then .ready else .done) jump))/\
    (W3.putObj (w.heap.size+1) (.loop (rec (if jump.isNone then .ready else .done) jump))).heap[w.heap.size]? =some (.deferred (some []))/\
    A8 H w.heap.size W (W3.putObj (w.heap.size+1) (.loop (rec (if jump.isNone then .ready else .done) jump))):=by
   intro jump z hz hle;obtain⟨ρz,h1,h2,h3⟩:=ho2.back hkA hz hle hst3;have hl3:=h2.same _ _ hl2 rfl;have hd3:=h2.same _ _ hd2 rfl;have he:=run_endRound (P:=X.P) jump hl3;rw[hrec] at he ⊢;refine⟨ρz,h1.abide hw0 (grownBy_putObj' _ _ _) (fun r e=>by cases e;exact⟨by omega,_,hl3,rfl⟩),he,World.putObj_heap_same (Array.getElem?_eq_some_iff.1 hl3).1,(World.putObj_heap_other (by omega)).trans hd3,fun b hb hnH hc=> ?_⟩;(have e1:W2.heap[b]? =W.heap[b]? :=by rw[<- hW2];exact World.putObj_heap_other (by omega));rw[World.putObj_heap_other (by omega),h3 b hb hnH (by rw[e1];exact hc),e1]
  cases e with
  |normal=>
   obtain⟨y,hle,hy'⟩:=hK3;obtain⟨ρz,h1,h2,h3,h4,h5⟩:=fin none _ (hks (k+1) y) hle;exact⟨_,_,h2,.inl ⟨rfl,⟨⟨y,ρz,hy',h1⟩,h3,h4⟩,h5⟩⟩
  |ret=>
   obtain⟨z,hle,hz,hk3⟩:=hK3;obtain⟨ρz,h1,h2,h3,h4,h5⟩:=fin (some .ret) _ hz hle;exact⟨_,_,h2,.inr ⟨rfl,.ret,⟨z,ρz,hk3,h1⟩,h3,h4⟩⟩
  |exit i=>
   obtain⟨z,hle,hz,hk3⟩:=hK3;obtain⟨ρz,h1,h2,h3,h4,h5⟩:=fin (some (.exit i)) _ hz hle;exact⟨_,_,h2,.inr ⟨rfl,.exit i,⟨z,ρz,hk3,h1⟩,h3,h4⟩⟩
  |goto t=>exact hK3.elim
  |panic ch=>exact hK3.elim
  |outgrown=>exact hK3.elim
 ·rintro e W2 ⟨⟨v,rfl⟩,(⟨⟨x,ρx,hx,ho⟩,hl,hd⟩|⟨c,⟨z,ρz,hj,ho⟩,hl,hd⟩)⟩;·have he:=run_endLoop (P:=X.P) hl (by rw[hrec];simp);rw[hrec] at he;refine⟨none,_,he,_,hdone x hx,(ho.abide hw0 (grownBy_putObj' _ _ _) (fun r e=>by cases e;exact⟨by omega,_,hl,rfl⟩)).st hst ((World.putObj_heap_other (by omega)).trans hd)⟩
  ·have he:=run_endLoop (P:=X.P) hl (by rw[hrec];simp);rw[hrec] at he;refine⟨some c,_,he,?_⟩;cases c with
   |ret=>exact wpIn_ret ⟨z,hj,(ho.abide hw0 (grownBy_putObj' _ _ _) (fun r e=>by cases e;exact⟨by omega,_,hl,rfl⟩)).st hst ((World.putObj_heap_other (by omega)).trans hd)⟩
   |exit i=>exact wpIn_exit ⟨z,hj,(ho.abide hw0 (grownBy_putObj' _ _ _) (fun r e=>by cases e;exact⟨by omega,_,hl,rfl⟩)).st hst ((World.putObj_heap_other (by omega)).trans hd)⟩
   |_=>exact hj.elim
theorem yC{X:Cx}(hr:X.r=none){s:aa}{K:Exit->aa->Prop}{g:Operand}{ps:Array Tmp}{assign body:Code}{gf:FuncId}{caps:List CV}
  (hg:bh s g=some (.l (.fn gf caps))) (hcap:caps.all CV.pure=true) {items:List (List LV)} (hseq:oH X.P gf ps.size caps items) {d pv:Nat} {TB:TypeId} {ub:Ty} (hasg:yB assign=some (d,TB,pv)) (hTb:cZ X.P TB ub) (hdN:d<X.T.N) (ks:List Nat)
  (hk1:ks.all (fun t=> !ps.toList.contains t&&t !=d)=true) (hps:ps.toList.all (fun t=>decide (t<X.T.N))=true)
  {ι:Type} (f:Nat->ι->aa) (Φ:Nat->ι->Prop) (x₀:ι) (h₀:le s (f 0 x₀)) (hΦ:Φ 0 x₀) (hks:∀ k x,(f k x).env.all (fun e=>ks.contains e.1)=true)
  (hround:∀ k (hk:k<items.length) (x:ι),Φ k x->∃ s1 v cs,bh (eG (f k x) (ps.toList.zip items[k])) (.tmp pv)=some v/\v.cells=some cs/\cs.length=ub.w/\cs.all (fun c=> !c.isOf d)=true/\s1={env:=(d,.l (.ownP d 0))::del ((eG (f k x) (ps.toList.zip items[k])).kill d).env d,own:=(d,.box TB cs)::((eG (f k x) (ps.toList.zip items[k])).kill d).own}/\
   ∀ X':Cx,X'.P=X.P->X'.T={X.T with keep:=ks}->J X' body s1 (y6 f Φ ks K k))
  (hdone:∀ x,Φ items.length x->K .normal (f items.length x)):J X (.rangeFunc g ps assign body) s K:=
 La hr hseq.enters hseq.data hasg hTb hdN ks hk1 hps f Φ x₀ h₀ (fun a w ρ _ hf hlt=>by
  obtain⟨lb,hlb1,hlb2⟩:aV (hot X.O ρ s.own) w ρ (.fn gf caps) (a.eval g):=cm hf hg;obtain⟨enc,h1,h2⟩:=hseq.seq _ w lb hlt (jP hcap (fun b hb=>nQ h₀ hb) hlb2);exact⟨lb,fun _=>False,hlb1,fun b hb=>hb.elim,enc,fun k hk=>(h1 k hk).imp (fun x v hx h=>bc (H:=hot X.O (cX ρ s.own) (f 0 x₀).own) (fun b _ hb=>hb.elim id (fun e=>e.elim)) (bo.refl _ _) (fun _ _=>rfl) h),h2.kp (fun A B hk b hb hn hc=>hk b hb (fun e=>hn (e.elim False.elim .inr)) hc)⟩) hΦ hks hround hdone
end Go.Cm
end
section
namespace Go.Proofs.YtdojbabpnaifoaaGreatDoor
open Go Go.Cm Go.Proofs
def sM(B:aj):Tab:={types:= [(79,tyP)],elems:= [],cons:= [],hint:= [],N:=4,base:=B}
theorem Dk{B:aj}(hB:aC B):aI Tryz.prog (sM B):=⟨⟨tc gF (ae),af,by simp only[sM,ioB];omega⟩,bI rfl,by kernel_rfl⟩
def qp:Con:=fun l os=>match l,os with
 | [.z (.slice (.st (.pair (.st (.pair .bool (.slice (.int .u32)))) (.st (.pair .bool (.slice (.int .u32))))))) xs],[]=>some (True,[.fn 125 [.z (.ptr tyP) xs]],[])
 |_,_=>none
theorem yD{B:aj}(hB:aC B):Valid B Tryz.prog 83 qp:=by
 refine ab (Dk hB).tab Tryz.func83 rfl rfl rfl ?_;intro args os C rs os' hc hC;unfold qp at hc;split at hc;case h_2=>cases hc
 rename_i xs;cases hc;refine v_h (Dk hB) fun X hP hT hr hG=> ?_;have hU:=sM.eq_1;unfold sM at hT;have hX:=Bool.not_true;simp only[Tryz.f83,aD,an,ioB];refine s_g hG ?_;refine s_g hG ?_;refine ay (q_e [] ?_);rfl
def i6(B:aj):Tab:={types:= [(79,tyP),(91,tyN)],elems:= [],cons:= [(58,nJ),(83,qp),(105,eQ),(113,eR)],hint:= [],N:=19,base:=B}
theorem Dl{B:aj}(hB:aC B):aI Tryz.prog (i6 B):=⟨⟨tc gF (tc ty91 (ae)),af,by simp only[i6,ioB];omega⟩,aG (cc Tryz.func58 (nb hB) (cc Tryz.func83 (yD hB) (cc Tryz.func105 (nc hB) (cc Tryz.func113 (nd hB) (aA))))),by kernel_rfl⟩
def IL:Con:=fun l os=>match l,os with
 | [.z (.slice (.st (.pair (.st (.pair .bool (.slice (.int .u32)))) (.st (.pair .bool (.slice (.int .u32))))))) p,.z (.st (.pair (.st (.pair .bool (.slice (.int .u32)))) (.st (.pair .bool (.slice (.int .u32)))))) x],[]=>some (Sz QM p/\p.length<=100/\NOK x/\lq (bF x)<=QM,[.z tyN (br (aF (ax p) (bF x)))],[])
 |_,_=>none
theorem Lb{B:aj}(hB:aC B):Valid B Tryz.prog 89 IL:=by
 refine ab (Dl hB).tab Tryz.func89 rfl rfl rfl ?_;intro args os C rs os' hc hC;unfold IL at hc;split at hc;case h_2=>cases hc
 rename_i p x;cases hc;refine v_h (Dl hB) fun X hP hT hr hG=> ?_;have hU:=i6.eq_1;unfold i6 at hT;have hX:=ai @qp.eq_1<|ai @nJ.eq_1<|ai @eQ.eq_1<| @eR.eq_1;simp only[Tryz.f89,aD,an,ioB];have hl:p.length<=100:=hC.2.1;refine s_g hG ?_;refine s_g hG ?_;refine ak (s_g hG ?_);refine ar (yC hr (gf:=125) (caps:= [.z (.ptr tyP) p]) (items:=b8 p) (by simp only[hT,i6,mx0,mx1,mx2,mx3,mx4,mx5,mx6,aW,bw,bL,bd,bu,Ty.fieldTy,Ty.fieldOf,Nat.reduceLT,Nat.reduceEqDiff,Nat.reduceAdd,Nat.reduceMul,Nat.reduceSub,Nat.reduceLeDiff,Nat.reduceBEq,Nat.reduceBNe,reduceIte,reduceDIte,reduceCtorEq];try rfl) (by rfl) (by rw[hP];exact xN p) (by rfl) (ub:=tyN) (by rw[hP];exact ty91) (by simp only[hT,i6];omega) [3,4,5] (by rfl) (by simp only[hT,i6];try rfl) (fun(k:Nat) (z:Rat)=>(⟨[(3,.l (.z (.ptr tyN) x)),(4,.l (.ownP 4 0)),(5,.l (.ownP 5 0))],[(4,.box 91 [.z .bool false,.val (.slice none 0 0),.z .bool false,.val (.slice none 0 0)]),(5,.box 91 [.z .bool (br z).1.1,.z (.slice (.int .u32)) (br z).1.2,.z .bool (br z).2.1,.z (.slice (.int .u32)) (br z).2.2])]⟩:aa)) (fun(k:Nat) (z:Rat)=>z=aF ((ax p).drop (p.length-k)) (bF x)) 0 ?_ ?_ ?_ ?_ ?_);·simp only[ml0,ml1,Nat.reduceLT,Nat.reduceEqDiff,Nat.reduceAdd,Nat.reduceMul,Nat.reduceSub,Nat.reduceLeDiff,Nat.reduceBEq,Nat.reduceBNe,reduceIte,reduceDIte,reduceCtorEq]
 ·exact FA p (bF x)
 ·intro k z;rfl
 ·intro k hk;rintro v hz;try dsimp only at hz
  have hk:k<p.length:=by simpa [b8] using hk
  have hg:=BV hC.1 (BW hk);have hv:=Ke hC hk hz;refine⟨_,_,_,by simp only[hT,i6,b8,ku,mx0,mx1,mx2,mx3,mx4,mx5,mx6,aW,bw,bL,bd,bu,Ty.fieldTy,Ty.fieldOf,Nat.reduceLT,Nat.reduceEqDiff,Nat.reduceAdd,Nat.reduceMul,Nat.reduceSub,Nat.reduceLeDiff,Nat.reduceBEq,Nat.reduceBNe,reduceIte,reduceDIte,reduceCtorEq,List.getElem_map,List.getElem_range];rfl,by simp only[mx0,mx1,mx2,mx3,mx4,mx5,mx6,aW,bw,bL,bd,bu,Ty.fieldTy,Ty.fieldOf,Nat.reduceLT,Nat.reduceEqDiff,Nat.reduceAdd,Nat.reduceMul,Nat.reduceSub,Nat.reduceLeDiff,Nat.reduceBEq,Nat.reduceBNe,reduceIte,reduceDIte,reduceCtorEq];rfl,by rfl,by simp only[mx0,mx1,mx2,mx3,mx4,mx5,mx6,aW,bw,bL,bd,bu,Ty.fieldTy,Ty.fieldOf,Nat.reduceLT,Nat.reduceEqDiff,Nat.reduceAdd,Nat.reduceMul,Nat.reduceSub,Nat.reduceLeDiff,Nat.reduceBEq,Nat.reduceBNe,reduceIte,reduceDIte,reduceCtorEq]<;>rfl,by simp only[hT,i6,b8,ku,mx0,mx1,mx2,mx3,mx4,mx5,mx6,aW,bw,bL,bd,bu,Ty.fieldTy,Ty.fieldOf,Nat.reduceLT,Nat.reduceEqDiff,Nat.reduceAdd,Nat.reduceMul,Nat.reduceSub,Nat.reduceLeDiff,Nat.reduceBEq,Nat.reduceBNe,reduceIte,reduceDIte,reduceCtorEq,List.getElem_map,List.getElem_range];rfl,?_⟩;intro X' hP' hT';have hG':aI X'.P X'.T:=by rw[hP',hT'];exact hG.keep _
  rw[hT] at hT';refine ar (GO hG' ?_ ?_)
  ·(try simp only[ba]);simp only[pe2,hg,aQ];exact hv
  refine aK ?_;show ∃ z,_;simp only[ml0,ml1,Nat.reduceLT,Nat.reduceEqDiff,Nat.reduceAdd,Nat.reduceMul,Nat.reduceSub,Nat.reduceLeDiff,Nat.reduceBEq,Nat.reduceBNe,reduceIte,reduceDIte,reduceCtorEq];simp only[pe2,hg,aQ];exact⟨_,rfl,rfl,rfl,rfl,by rw[hz,FB hk]⟩
 ·rintro v hz;try dsimp only at hz
  rw[NS] at hz;refine aK (ah ?_);refine s_g hG ?_;refine ay (q_e [] ?_);rw[hz]
def sN(B:aj):Tab:={types:= [(3,(.int .i64)),(79,tyP),(91,tyN)],elems:= [(79,91)],cons:= [(58,nJ),(82,kf),(107,yv)],hint:= [26],N:=31,base:=B}
theorem Dm{B:aj}(hB:aC B):aI Tryz.prog (sN B):=⟨⟨tc ty3 (tc gF (tc ty91 (ae))),aT (by kernel_rfl) (af),by simp only[sN,ioB];omega⟩,aG (cc Tryz.func58 (nb hB) (cc Tryz.func82 (jD hB) (cc Tryz.func107 (yw hB) (aA)))),by kernel_rfl⟩
def Px:Con:=fun l os=>match l,os with
 | [.z (.slice (.st (.pair (.st (.pair .bool (.slice (.int .u32)))) (.st (.pair .bool (.slice (.int .u32))))))) p,.z (.slice (.st (.pair (.st (.pair .bool (.slice (.int .u32)))) (.st (.pair .bool (.slice (.int .u32))))))) q,.val (.func (.func g) fs cs)],[]=>some ((g=58/\fs.size=0/\cs.size=0)/\Sz QH p/\Sz QH q/\p.length<=1000/\q.length<=1000,[.z tyP (aL (bq (· + ·) (ax p) (ax q)))],[])
 |_,_=>none
theorem Lc{B:aj}(hB:aC B):Valid B Tryz.prog 57 Px:=by
 refine ab (Dm hB).tab Tryz.func57 rfl rfl rfl ?_;intro args os C rs os' hc hC;unfold Px at hc;split at hc;case h_2=>cases hc
 rename_i p q g fs cs;cases hc;refine v_h (Dm hB) fun X hP hT hr hG=> ?_;have hU:=sN.eq_1;unfold sN at hT;have hX:=ai @yv.eq_1<|ai @nJ.eq_1<| @kf.eq_1;simp only[Tryz.f57,aD,an,ioB];obtain⟨⟨rfl,e1,e2⟩,hp,hq,hl1,hl2⟩:=hC;obtain rfl:=Array.eq_empty_of_size_eq_zero e1;obtain rfl:=Array.eq_empty_of_size_eq_zero e2;have hl1:p.length<=1000:=hl1;have hl2:q.length<=1000:=hl2;refine s_g hG ?_;refine s_g hG ?_;refine ak (s_g hG ?_);refine ar (bj (fun(z:Nat)=>(⟨[(0,.l (.z tyP p)),(1,.l (.z tyP q)),(2,.l (.val (.func (.func 58) #[] #[]))),(7,.l (.ownS 27)),(13,.l (.z (.int .i64) ((max p.length q.length:Nat):Int))),(14,.l (.z (.int .i64) (z:Int)))],[(27,.arr tyN 91 (aL (bU (· + ·) (ax p) (ax q) z)))]⟩:aa)) (fun z=>z<=max p.length q.length) (fun z=>max p.length q.length-z) 0 ?_ ?_ ?_);·refine q_l ?_;exact⟨Hh p q trivial,rfl,by unfold ioB;omega,rfl⟩
 ·omega
 ·rintro k g1;try dsimp only at g1
  refine s_g hG ?_;refine ak (ao ?_ ?_)
  ·intro hb0;(try simp only[bt] at hb0);refine aq (ah ?_);refine ak (ar ?_);refine s_g hG ?_;refine ag hG ?_ ?_
   ·(try simp only[ba]);exact xH hp hq (by omega) _
   (refine aK (ah ?_);refine ag hG ?_ ?_;·exact tt9);show ∃ z,_;refine q_l ?_;exact vI (op:=(· + ·)) (by omega) (by omega)
  ·intro hb0;(try simp only[bf] at hb0);refine aZ (aB ?_);refine av (au ?_);refine ah (s_q hG ?_ ?_)
   ·(try simp only[ba]);exact vJ BN hp hq (by omega)
   refine ay (q_e [] ?_);exact BP g1 hb0
def sO(B:aj):Tab:={types:= [(3,(.int .i64)),(79,tyP),(91,tyN)],elems:= [(79,91)],cons:= [(60,gj),(82,kf),(107,yv)],hint:= [26],N:=31,base:=B}
theorem Dn{B:aj}(hB:aC B):aI Tryz.prog (sO B):=⟨⟨tc ty3 (tc gF (tc ty91 (ae))),aT (by kernel_rfl) (af),by simp only[sO,ioB];omega⟩,aG (cc Tryz.func60 (yn hB) (cc Tryz.func82 (jD hB) (cc Tryz.func107 (yw hB) (aA)))),by kernel_rfl⟩
def Py:Con:=fun l os=>match l,os with
 | [.z (.slice (.st (.pair (.st (.pair .bool (.slice (.int .u32)))) (.st (.pair .bool (.slice (.int .u32))))))) p,.z (.slice (.st (.pair (.st (.pair .bool (.slice (.int .u32)))) (.st (.pair .bool (.slice (.int .u32))))))) q,.val (.func (.func g) fs cs)],[]=>some ((g=60/\fs.size=0/\cs.size=0)/\Sz QH p/\Sz QH q/\p.length<=1000/\q.length<=1000,[.z tyP (aL (bq (· - ·) (ax p) (ax q)))],[])
 |_,_=>none
theorem Ld{B:aj}(hB:aC B):Valid B Tryz.prog 57 Py:=by
 refine ab (Dn hB).tab Tryz.func57 rfl rfl rfl ?_;intro args os C rs os' hc hC;unfold Py at hc;split at hc;case h_2=>cases hc
 rename_i p q g fs cs;cases hc;refine v_h (Dn hB) fun X hP hT hr hG=> ?_;have hU:=sO.eq_1;unfold sO at hT;have hX:=ai @yv.eq_1<|ai @gj.eq_1<| @kf.eq_1;simp only[Tryz.f57,aD,an,ioB];obtain⟨⟨rfl,e1,e2⟩,hp,hq,hl1,hl2⟩:=hC;obtain rfl:=Array.eq_empty_of_size_eq_zero e1;obtain rfl:=Array.eq_empty_of_size_eq_zero e2;have hl1:p.length<=1000:=hl1;have hl2:q.length<=1000:=hl2;refine s_g hG ?_;refine s_g hG ?_;refine ak (s_g hG ?_);refine ar (bj (fun(z:Nat)=>(⟨[(0,.l (.z tyP p)),(1,.l (.z tyP q)),(2,.l (.val (.func (.func 60) #[] #[]))),(7,.l (.ownS 27)),(13,.l (.z (.int .i64) ((max p.length q.length:Nat):Int))),(14,.l (.z (.int .i64) (z:Int)))],[(27,.arr tyN 91 (aL (bU (· - ·) (ax p) (ax q) z)))]⟩:aa)) (fun z=>z<=max p.length q.length) (fun z=>max p.length q.length-z) 0 ?_ ?_ ?_);·refine q_l ?_;exact⟨Hh p q trivial,rfl,by unfold ioB;omega,rfl⟩
 ·omega
 ·rintro k g1;try dsimp only at g1
  refine s_g hG ?_;refine ak (ao ?_ ?_)
  ·intro hb0;(try simp only[bt] at hb0);refine aq (ah ?_);refine ak (ar ?_);refine s_g hG ?_;refine ag hG ?_ ?_
   ·(try simp only[ba]);exact xH hp hq (by omega) _
   (refine aK (ah ?_);refine ag hG ?_ ?_;·exact tt9);show ∃ z,_;refine q_l ?_;exact vI (op:=(· - ·)) (by omega) (by omega)
  ·intro hb0;(try simp only[bf] at hb0);refine aZ (aB ?_);refine av (au ?_);refine ah (s_q hG ?_ ?_)
   ·(try simp only[ba]);exact vJ BO hp hq (by omega)
   refine ay (q_e [] ?_);exact BP g1 hb0
def ri:Con:=fun l os=>match l,os with
 | [.z (.slice (.st (.pair (.st (.pair .bool (.slice (.int .u32)))) (.st (.pair .bool (.slice (.int .u32))))))) p,.z (.slice (.st (.pair (.st (.pair .bool (.slice (.int .u32)))) (.st (.pair .bool (.slice (.int .u32))))))) q,.val (.func (.func g) fs cs)],[]=>some (((g=58∨g=60)/\fs.size=0/\cs.size=0)/\Sz QH p/\Sz QH q/\p.length<=1000/\q.length<=1000,[.z tyP (aL (bq (if g=58 then (· + ·) else (· - ·)) (ax p) (ax q)))],[])
 |_,_=>none
theorem oh{B:aj}(hB:aC B):Valid B Tryz.prog 57 ri:=by
 intro args os C rs os' hc hC;unfold ri at hc;split at hc
 ·cases hc;obtain⟨⟨rfl|rfl,e1,e2⟩,h3⟩:=hC;·exact Lc hB _ _ _ _ _ rfl ⟨⟨rfl,e1,e2⟩,h3⟩
  ·exact Ld hB _ _ _ _ _ rfl ⟨⟨rfl,e1,e2⟩,h3⟩
 ·cases hc
def sP(B:aj):Tab:={types:= [(79,tyP),(84,.func),(91,tyN)],elems:= [(79,91)],cons:= [(57,ri),(61,qm),(82,kf)],hint:= [],N:=11,base:=B}
theorem Do{B:aj}(hB:aC B):aI Tryz.prog (sP B):=⟨⟨tc gF (tc Tz (tc ty91 (ae))),aT (by kernel_rfl) (af),by simp only[sP,ioB];omega⟩,aG (cc Tryz.func57 (oh hB) (cc Tryz.func61 (yx hB) (cc Tryz.func82 (jD hB) (aA)))),by kernel_rfl⟩
def IM:Con:=fun l os=>match l,os with
 | [.z (.st (.pair (.st (.pair .bool (.slice (.int .u32)))) (.st (.pair .bool (.slice (.int .u32)))))) c,.ownP 10000000 0,.z (.ptr (.slice (.st (.pair (.st (.pair .bool (.slice (.int .u32)))) (.st (.pair .bool (.slice (.int .u32)))))))) b],[.box 79 [.z (.slice (.st (.pair (.st (.pair .bool (.slice (.int .u32)))) (.st (.pair .bool (.slice (.int .u32))))))) s]]=>some (FC s b c,[],[.box 79 [.z tyP (aL (vV (ax s) (ax b) (bF c)))]])
 |_,_=>none
theorem Le{B:aj}(hB:aC B):Valid B Tryz.prog 81 IM:=by
 refine ab (Do hB).tab Tryz.func81 rfl rfl rfl ?_;intro args os C rs os' hc hC;unfold IM at hc;split at hc;case h_2=>cases hc
 rename_i c b s;cases hc;refine v_h (Do hB) fun X hP hT hr hG=> ?_;have hU:=sP.eq_1;unfold sP at hT;have hX:=ai @qm.eq_1<|ai @kf.eq_1<| @ri.eq_1;simp only[Tryz.f81,aD,an,ioB];refine s_g hG ?_;refine ib hG ?_ ?_
 ·try simp only[ba]
  obtain⟨q1,q2,q3,q4,q5,q6⟩:=Kf hC;exact⟨q1,⟨q2.1,by unfold QL;omega⟩,Or.inl trivial,q3,q4,q5,q6⟩
 refine q_e [] ?_;simp only[aM];rfl
def i7(B:aj):Tab:={types:= [(79,tyP),(91,tyN),(109,.func)],elems:= [],cons:= [(81,IM),(83,qp)],hint:= [],N:=18,base:=B}
theorem Dp{B:aj}(hB:aC B):aI Tryz.prog (i7 B):=⟨⟨tc gF (tc ty91 (tc Ul (ae))),af,by simp only[i7,ioB];omega⟩,aG (cc Tryz.func81 (Le hB) (cc Tryz.func83 (yD hB) (aA))),by kernel_rfl⟩
def pf:Con:=fun l os=>match l,os with
 | [.z (.slice (.st (.pair (.st (.pair .bool (.slice (.int .u32)))) (.st (.pair .bool (.slice (.int .u32))))))) p,.z (.slice (.st (.pair (.st (.pair .bool (.slice (.int .u32)))) (.st (.pair .bool (.slice (.int .u32))))))) b],[]=>some (zu p b,[.z tyP (aL (lH (ax p) (ax b)))],[])
 |_,_=>none
theorem Lf{B:aj}(hB:aC B):Valid B Tryz.prog 80 pf:=by
 refine ab (Dp hB).tab Tryz.func80 rfl rfl rfl ?_;intro args os C rs os' hc hC;unfold pf at hc;split at hc;case h_2=>cases hc
 rename_i p b;cases hc;refine v_h (Dp hB) fun X hP hT hr hG=> ?_;have hU:=i7.eq_1;unfold i7 at hT;have hX:=ai @IM.eq_1<| @qp.eq_1;simp only[Tryz.f80,aD,an,ioB];refine s_g hG ?_;refine s_g hG ?_;refine s_g hG ?_;refine ak (s_g hG ?_);refine ar (yC hr (gf:=125) (caps:= [.z (.ptr tyP) p]) (items:=b8 p) (by simp only[hT,i7,mx0,mx1,mx2,mx3,mx4,mx5,mx6,aW,bw,bL,bd,bu,Ty.fieldTy,Ty.fieldOf,Nat.reduceLT,Nat.reduceEqDiff,Nat.reduceAdd,Nat.reduceMul,Nat.reduceSub,Nat.reduceLeDiff,Nat.reduceBEq,Nat.reduceBNe,reduceIte,reduceDIte,reduceCtorEq];try rfl) (by rfl) (by rw[hP];exact xN p) (by rfl) (ub:=tyN) (by rw[hP];exact ty91) (by simp only[hT,i7];omega) [3,5,6] (by rfl) (by simp only[hT,i7];try rfl) (fun(k:Nat) (z:Unit)=>(⟨[(3,.l (.z (.ptr tyP) b)),(5,.l (.ownP 5 0)),(6,.l (.ownP 6 0))],[(5,.box 79 [.z tyP (aL (iP (ax p) (ax b) k))]),(6,.box 109 [.fn 81 [.p 5,.z (.ptr tyP) b]])]⟩:aa)) (fun(k:Nat) (z:Unit)=>True) () ?_ ?_ ?_ ?_ ?_);·simp only[ml0,ml1,Nat.reduceLT,Nat.reduceEqDiff,Nat.reduceAdd,Nat.reduceMul,Nat.reduceSub,Nat.reduceLeDiff,Nat.reduceBEq,Nat.reduceBNe,reduceIte,reduceDIte,reduceCtorEq];simp only[gT];rfl
 ·trivial
 ·intro k z;rfl
 ·intro k hk;rintro⟨⟩-;have hk:k<p.length:=by simpa [b8] using hk
  have hg:=BV hC.1 (BW hk);refine⟨_,_,_,by simp only[hT,i7,b8,ku,mx0,mx1,mx2,mx3,mx4,mx5,mx6,aW,bw,bL,bd,bu,Ty.fieldTy,Ty.fieldOf,Nat.reduceLT,Nat.reduceEqDiff,Nat.reduceAdd,Nat.reduceMul,Nat.reduceSub,Nat.reduceLeDiff,Nat.reduceBEq,Nat.reduceBNe,reduceIte,reduceDIte,reduceCtorEq,List.getElem_map,List.getElem_range];rfl,by simp only[mx0,mx1,mx2,mx3,mx4,mx5,mx6,aW,bw,bL,bd,bu,Ty.fieldTy,Ty.fieldOf,Nat.reduceLT,Nat.reduceEqDiff,Nat.reduceAdd,Nat.reduceMul,Nat.reduceSub,Nat.reduceLeDiff,Nat.reduceBEq,Nat.reduceBNe,reduceIte,reduceDIte,reduceCtorEq];rfl,by rfl,by simp only[mx0,mx1,mx2,mx3,mx4,mx5,mx6,aW,bw,bL,bd,bu,Ty.fieldTy,Ty.fieldOf,Nat.reduceLT,Nat.reduceEqDiff,Nat.reduceAdd,Nat.reduceMul,Nat.reduceSub,Nat.reduceLeDiff,Nat.reduceBEq,Nat.reduceBNe,reduceIte,reduceDIte,reduceCtorEq]<;>rfl,by simp only[hT,i7,b8,ku,mx0,mx1,mx2,mx3,mx4,mx5,mx6,aW,bw,bL,bd,bu,Ty.fieldTy,Ty.fieldOf,Nat.reduceLT,Nat.reduceEqDiff,Nat.reduceAdd,Nat.reduceMul,Nat.reduceSub,Nat.reduceLeDiff,Nat.reduceBEq,Nat.reduceBNe,reduceIte,reduceDIte,reduceCtorEq,List.getElem_map,List.getElem_range];rfl,?_⟩;intro X' hP' hT';have hG':aI X'.P X'.T:=by rw[hP',hT'];exact hG.keep _
  rw[hT] at hT';refine ar (pI hG' ?_ ?_)
  ·(try simp only[ba]);simp only[pe2,hg];exact hC.2.2 k hk
  refine aK ?_;show ∃ z,_;simp only[ml0,ml1,Nat.reduceLT,Nat.reduceEqDiff,Nat.reduceAdd,Nat.reduceMul,Nat.reduceSub,Nat.reduceLeDiff,Nat.reduceBEq,Nat.reduceBNe,reduceIte,reduceDIte,reduceCtorEq];simp only[pe2,hg,aM,aQ,iP,aN]
 ·rintro⟨⟩-;rw[show (b8 p).length=p.length by simp[b8]];refine aK (ah ?_);refine s_g hG ?_;refine ay (q_e [] ?_);rw[lH,aN]
def sQ(B:aj):Tab:={types:= [(3,(.int .i64)),(22,(.slice .str)),(31,(.int .i64)),(46,.str)],elems:= [],cons:= [(87,nf),(106,IK)],hint:= [],N:=33,base:=B}
theorem Dq{B:aj}(hB:aC B):aI Tryz.prog (sQ B):=⟨⟨tc ty3 (tc dZ (tc kq (tc iI (ae)))),af,by simp only[sQ,ioB];omega⟩,aG (cc Tryz.func87 (yt hB) (cc Tryz.func106 (K5 hB) (aA))),by kernel_rfl⟩
def qq:Con:=fun l os=>match l,os with
 | [.z (.slice .str) p],[]=>some (c8 p,[.z tyP (aL (bk p)),.z (.int .i64) (bT p)],[])
 |_,_=>none
theorem yE{B:aj}(hB:aC B):Valid B Tryz.prog 54 qq:=by
 refine ab (Dq hB).tab Tryz.func54 rfl rfl rfl ?_;intro args os C rs os' hc hC;unfold qq at hc;split at hc;case h_2=>cases hc
 rename_i p;cases hc;refine v_h (Dq hB) fun X hP hT hr hG=> ?_;have hU:=sQ.eq_1;unfold sQ at hT;have hX:=ai @nf.eq_1<| @IK.eq_1;simp only[Tryz.f54,aD,an,ioB];have hl:p.length<1000000000+1:=by have:=hC.1;unfold QL at this;omega
 refine s_g hG ?_;refine ak (s_g hG ?_);refine ao ?_ ?_
 ·intro hb0;try simp only[bt] at hb0
  have hl41:41<p.length:=by have h9:(41:Int)<(p.length:Int):=hb0;omega
  refine s_g hG ?_;refine ay (az ?_);refine q_e [] ?_;exact wb (FJ hl41)
 ·intro hb0;try simp only[bf] at hb0
  have hl41:p.length<=41:=by have h9: ¬ (41:Int)<(p.length:Int):=hb0;omega
  refine aq (ah ?_);refine ak (s_g hG ?_);refine ar (bj (fun(z:Nat)=>(⟨[(0,.l (.z (.slice .str) p)),(2,.l (.val (.slice none 0 0))),(3,.l (.z (.int .i64) 0)),(9,.l (.z (.slice .str) p)),(10,.l (.z (.int .i64) (p.length:Int))),(11,.l (.z (.int .i64) (z:Int)))],[]⟩:aa)) (fun z=>z<=p.length/\(p.take z).all (fun q=>decide (cx q=0))=true) (fun z=>p.length-z) 0 ?_ ?_ ?_);·refine q_l ?_;rfl
  ·exact⟨by omega,rfl⟩
  ·rintro k ⟨g1,g2⟩;(try dsimp only at g1 g2);refine s_g hG ?_;refine ak (ao ?_ ?_)
   ·intro hb1;(try simp only[bt] at hb1);(have hk:k<p.length:=by have h9:(k:Int)<(p.length:Int):=hb1;omega);refine aq (ah ?_);refine ak (ar ?_);refine s_q hG ?_ ?_
    ·(try simp only[ba]);exact⟨by omega,hb1⟩
    refine s_q hG ?_ ?_
    ·(try simp only[ba]);exact hC.2 _ (eH (t:= .str) hk)
    refine ao ?_ ?_;·intro hb2;(try simp only[bt] at hb2);refine s_g hG ?_;refine ay (bl ?_);refine az (c6 ?_);refine bl (az ?_);refine q_e [] ?_;exact wb (Kh hk hl41 hb2)
    ·(intro hb2;(try simp only[bf] at hb2);refine aq (aK ?_);refine ah (ag hG ?_ ?_);·exact tt9);show ∃ z,_;refine q_l ?_;exact⟨k+1,wo,hk,v8 hk g2 hb2,by omega⟩
   ·intro hb1;(try simp only[bf] at hb1);(have hk:k=p.length:=by have h9: ¬ (k:Int)<(p.length:Int):=hb1;omega);subst hk;rw[List.take_length] at g2;refine aZ (aB ?_);refine av (au ?_);refine ah (ak ?_);refine s_q hG ?_ ?_
    ·(try simp only[ba]);exact FI hl41
    refine ao ?_ ?_;·intro hb3;(try simp only[bt] at hb3);refine s_g hG ?_;refine ay (az ?_);refine q_e [] ?_;exact wb (FK hl41 g2 hb3)
    ·intro hb3;(try simp only[bf] at hb3);refine aq (ah ?_);refine s_q hG ?_ ?_
     ·(try simp only[ba]);exact⟨by unfold QL;omega,(wa hC g2).1⟩
     refine ay (q_e [] ?_);exact N1 hC hl41 g2 hb3
def sR(B:aj):Tab:={types:= [(3,(.int .i64)),(22,(.slice .str)),(31,(.int .i64)),(44,(.slice (.slice .str))),(98,(.slice tyP))],elems:= [(98,79)],cons:= [(54,qq)],hint:= [],N:=29,base:=B}
theorem Dr{B:aj}(hB:aC B):aI Tryz.prog (sR B):=⟨⟨tc ty3 (tc dZ (tc kq (tc pO (tc wX (ae))))),aT (by kernel_rfl) (af),by simp only[sR,ioB];omega⟩,aG (cc Tryz.func54 (yE hB) (aA)),by kernel_rfl⟩
def gm:Con:=fun l os=>match l,os with
 | [.z (.slice (.slice .str)) l],[]=>some (l.length<=1000/\∀ p∈l,c8 p,[.z (.slice tyP) (iQ l),.z (.int .i64) (bX l)],[])
 |_,_=>none
theorem fo{B:aj}(hB:aC B):Valid B Tryz.prog 67 gm:=by
 refine ab (Dr hB).tab Tryz.func67 rfl rfl rfl ?_;intro args os C rs os' hc hC;unfold gm at hc;split at hc;case h_2=>cases hc
 rename_i l;cases hc;refine v_h (Dr hB) fun X hP hT hr hG=> ?_;have hU:=sR.eq_1;unfold sR at hT;have hX:= @qq.eq_1;simp only[Tryz.f67,aD,an,ioB];have hl:l.length<=1000:=hC.1;refine s_g hG ?_;refine GK (s_g hG ?_);refine s_g hG ?_;refine ak (GJ ?_);refine ah (ak ?_);refine s_g hG ?_;refine ar (bj (fun(z:Option (Nat))=>match z with|none=>((⟨[(0,.l (.z (.slice (.slice .str)) l)),(2,.l (.val (.slice none 0 0))),(3,.l (.z (.int .i64) 0)),(4,.l (.val (.slice none 0 0))),(5,.l (.z (.int .i64) 0)),(9,.l (.z (.slice (.slice .str)) l)),(10,.l (.z (.int .i64) (l.length:Int))),(11,.l (.z (.int .i64) 0))],[]⟩:aa))|some z=>((⟨[(0,.l (.z (.slice (.slice .str)) l)),(2,.l (.val (.slice none 0 0))),(3,.l (.z (.int .i64) 0)),(4,.l (.ownS 25)),(5,.l (.z (.int .i64) 0)),(9,.l (.z (.slice (.slice .str)) l)),(10,.l (.z (.int .i64) (l.length:Int))),(11,.l (.z (.int .i64) (z:Int)))],[(25,.arr tyP 79 ((l.take z).map fun p=>aL (bk p)))]⟩:aa))) (fun(z:Option (Nat))=>match z with|none=>(True)|some z=>(1<=z/\z<=l.length/\(l.take z).all (fun p=>decide (bT p=0))=true)) (fun(z:Option (Nat))=>match z with|none=>(l.length+1)|some z=>(l.length-z)) none ?_ ?_ ?_);·simp only[ml0,ml1,Nat.reduceLT,Nat.reduceEqDiff,Nat.reduceAdd,Nat.reduceMul,Nat.reduceSub,Nat.reduceLeDiff,Nat.reduceBEq,Nat.reduceBNe,reduceIte,reduceDIte,reduceCtorEq]
 ·trivial
 ·rintro(_|k) hz_
  ·obtain⟨k,ek⟩:∃ k:Nat,k=0:=⟨0,rfl⟩;(have e0:(k:Int)=0:=by rw[ek];rfl);refine s_g hG ?_;refine ak (ao ?_ ?_)
   ·intro hb0;(try simp only[bt] at hb0);(have hk:k<l.length:=by first|(have h9:(k:Int)<(l.length:Int):=hb0;omega)|(have h9:(0:Int)<(l.length:Int):=hb0;omega));refine aq (ah ?_);refine ak (ar ?_);refine s_q hG ?_ ?_
    ·(try simp only[ba]);exact⟨by omega,hb0⟩
    refine s_g hG ?_;refine ak (s_q hG ?_ ?_)
    ·(try simp only[ba]);first|exact hC.2 _ (eH (t:= .slice .str) hk)|(subst ek;exact hC.2 _ (eH (t:= .slice .str) (k:=0) hk))
    refine s_g hG ?_;refine ao ?_ ?_;·intro hb1;(try simp only[bt] at hb1);refine s_g hG ?_;refine aZ (aB ?_);refine jS rfl ?_;refine aB (av ?_);refine au (ah ?_);refine s_g hG ?_;refine ay (iw ?_);refine q_e [] ?_;subst ek;exact Kj hk hb1
    ·intro hb1;(try simp only[bf] at hb1);refine aq (ah ?_);refine ag hG ?_ ?_
     ·(try simp only[ba]);(unfold Cm.Roomy;try simp only[List.length_map,List.length_take]);omega
     (refine aK (ah ?_);refine ag hG ?_ ?_;·exact tt9);refine⟨some (1),?_⟩;simp only[ml0,ml1,Nat.reduceLT,Nat.reduceEqDiff,Nat.reduceAdd,Nat.reduceMul,Nat.reduceSub,Nat.reduceLeDiff,Nat.reduceBEq,Nat.reduceBNe,reduceIte,reduceDIte,reduceCtorEq];subst ek;exact⟨hb1,B3 hl hk hb1⟩
   ·intro hb0;(try simp only[bf] at hb0);(have hk: ¬k<l.length:=by intro h9;first|exact hb0 (show (k:Int)<(l.length:Int) by omega)|exact hb0 (show (0:Int)<(l.length:Int) by omega));refine aZ (aB ?_);refine av (au ?_);refine ah (s_g hG ?_);refine ay (iw ?_);refine q_e [] ?_;subst ek;exact Kk hk
  ·obtain⟨g0,g1,g2⟩:=hz_;(try dsimp only at g0 g1 g2);refine s_g hG ?_;refine ak (ao ?_ ?_)
   ·intro hb0;(try simp only[bt] at hb0);(have hk:k<l.length:=by first|(have h9:(k:Int)<(l.length:Int):=hb0;omega)|(have h9:(0:Int)<(l.length:Int):=hb0;omega));refine aq (ah ?_);refine ak (ar ?_);refine s_q hG ?_ ?_
    ·(try simp only[ba]);exact⟨by omega,hb0⟩
    refine s_g hG ?_;refine ak (s_q hG ?_ ?_)
    ·(try simp only[ba]);first|exact hC.2 _ (eH (t:= .slice .str) hk)|(subst ek;exact hC.2 _ (eH (t:= .slice .str) (k:=0) hk))
    refine s_g hG ?_;refine ao ?_ ?_;·intro hb1;(try simp only[bt] at hb1);refine s_g hG ?_;refine aZ (aB ?_);refine jS rfl ?_;refine aB (av ?_);refine au (ah ?_);refine s_g hG ?_;refine ay (iw ?_);refine q_e [] ?_;exact B2 hk g2 hb1
    ·intro hb1;(try simp only[bf] at hb1);refine aq (ah ?_);refine ag hG ?_ ?_
     ·(try simp only[ba]);(unfold Cm.Roomy;try simp only[List.length_map,List.length_take]);omega
     (refine aK (ah ?_);refine ag hG ?_ ?_;·exact tt9);refine⟨some (k+1),?_⟩;simp only[ml0,ml1,Nat.reduceLT,Nat.reduceEqDiff,Nat.reduceAdd,Nat.reduceMul,Nat.reduceSub,Nat.reduceLeDiff,Nat.reduceBEq,Nat.reduceBNe,reduceIte,reduceDIte,reduceCtorEq];have hr:=wc hl hk g2 hb1;exact⟨hb1,hr⟩
   ·intro hb0;(try simp only[bf] at hb0);(have hk: ¬k<l.length:=by intro h9;first|exact hb0 (show (k:Int)<(l.length:Int) by omega)|exact hb0 (show (0:Int)<(l.length:Int) by omega));refine aZ (aB ?_);refine av (au ?_);refine ah (s_g hG ?_);refine ay (iw ?_);refine q_e [25] ?_;rw[List.take_of_length_le (by omega)] at g2 ⊢;exact N3 g2
def sS(B:aj):Tab:={types:= [(3,(.int .i64)),(78,tyP),(79,tyP)],elems:= [],cons:= [(82,kf),(88,ql)],hint:= [],N:=19,base:=B}
theorem Ds{B:aj}(hB:aC B):aI Tryz.prog (sS B):=⟨⟨tc ty3 (tc QA (tc gF (ae))),af,by simp only[sS,ioB];omega⟩,aG (cc Tryz.func82 (jD hB) (cc Tryz.func88 (yu hB) (aA))),by kernel_rfl⟩
def eJ:Con:=fun l os=>match l,os with
 | [.z (.slice (.st (.pair (.st (.pair .bool (.slice (.int .u32)))) (.st (.pair .bool (.slice (.int .u32))))))) p],[]=>some (Sz QC p/\p.length<=QL,[.z (.slice .str) (fe (aP (ax p))),.z (.int .i64) (bO (aP (ax p)))],[])
 |_,_=>none
theorem gn{B:aj}(hB:aC B):Valid B Tryz.prog 69 eJ:=by
 refine ab (Ds hB).tab Tryz.func69 rfl rfl rfl ?_;intro args os C rs os' hc hC;unfold eJ at hc;split at hc;case h_2=>cases hc
 rename_i p;cases hc;refine v_h (Ds hB) fun X hP hT hr hG=> ?_;have hU:=sS.eq_1;unfold sS at hT;have hX:=ai @ql.eq_1<| @kf.eq_1;simp only[Tryz.f69,aD,an,ioB];refine s_g hG ?_;refine s_q hG ?_ ?_
 ·try simp only[ba]
  exact hC
 refine ak (s_g hG ?_);refine ao ?_ ?_
 ·intro hb0;try simp only[bt] at hb0
  have hl:41<(aP (ax p)).length:=by have h9:(41:Int)<((aL (aP (ax p))).length:Int):=hb0;rw[aH] at h9;omega
  refine s_g hG ?_;refine ay (az ?_);refine q_e [] ?_;exact FM hl
 ·intro hb0;try simp only[bf] at hb0
  have hl: ¬41<(aP (ax p)).length:=by have h9: ¬ (41:Int)<((aL (aP (ax p))).length:Int):=hb0;rw[aH] at h9;omega
  refine aq (ah ?_);refine s_q hG ?_ ?_
  ·(try simp only[ba]);exact Km hC hl
  refine ak (s_g hG ?_);refine ao ?_ ?_;·intro hb1;(try simp only[bt] at hb1);refine s_g hG ?_;refine ay (az ?_);refine q_e [] ?_;exact Kl hl hb1
  ·intro hb1;(try simp only[bf] at hb1);refine aq (ah ?_);refine s_g hG ?_;refine ay (q_e [] ?_);exact N4 hl hb1
def sU(B:aj):Tab:={types:= [(79,tyP),(84,.func)],elems:= [],cons:= [(57,ri)],hint:= [],N:=8,base:=B}
theorem Dt{B:aj}(hB:aC B):aI Tryz.prog (sU B):=⟨⟨tc gF (tc Tz (ae)),af,by simp only[sU,ioB];omega⟩,aG (cc Tryz.func57 (oh hB) (aA)),by kernel_rfl⟩
def IP:Con:=fun l os=>match l,os with
 | [.z (.slice (.st (.pair (.st (.pair .bool (.slice (.int .u32)))) (.st (.pair .bool (.slice (.int .u32))))))) p,.z (.slice (.st (.pair (.st (.pair .bool (.slice (.int .u32)))) (.st (.pair .bool (.slice (.int .u32))))))) q],[]=>some (Sz QH p/\Sz QH q/\p.length<=1000/\q.length<=1000,[.z tyP (aL (bq (· + ·) (ax p) (ax q)))],[])
 |_,_=>none
theorem Lg{B:aj}(hB:aC B):Valid B Tryz.prog 56 IP:=by
 refine ab (Dt hB).tab Tryz.func56 rfl rfl rfl ?_;intro args os C rs os' hc hC;unfold IP at hc;split at hc;case h_2=>cases hc
 rename_i p q;cases hc;refine v_h (Dt hB) fun X hP hT hr hG=> ?_;have hU:=sU.eq_1;unfold sU at hT;have hX:= @ri.eq_1;simp only[Tryz.f56,aD,an,ioB];refine s_g hG ?_;refine s_q hG ?_ ?_
 ·try simp only[ba]
  exact⟨by simp,hC⟩
 refine ay (q_e [] ?_);trivial
def sV(B:aj):Tab:={types:= [(79,tyP),(84,.func)],elems:= [],cons:= [(57,ri)],hint:= [],N:=8,base:=B}
theorem Du{B:aj}(hB:aC B):aI Tryz.prog (sV B):=⟨⟨tc gF (tc Tz (ae)),af,by simp only[sV,ioB];omega⟩,aG (cc Tryz.func57 (oh hB) (aA)),by kernel_rfl⟩
def IQ:Con:=fun l os=>match l,os with
 | [.z (.slice (.st (.pair (.st (.pair .bool (.slice (.int .u32)))) (.st (.pair .bool (.slice (.int .u32))))))) p,.z (.slice (.st (.pair (.st (.pair .bool (.slice (.int .u32)))) (.st (.pair .bool (.slice (.int .u32))))))) q],[]=>some (Sz QH p/\Sz QH q/\p.length<=1000/\q.length<=1000,[.z tyP (aL (bq (· - ·) (ax p) (ax q)))],[])
 |_,_=>none
theorem Lh{B:aj}(hB:aC B):Valid B Tryz.prog 59 IQ:=by
 refine ab (Du hB).tab Tryz.func59 rfl rfl rfl ?_;intro args os C rs os' hc hC;unfold IQ at hc;split at hc;case h_2=>cases hc
 rename_i p q;cases hc;refine v_h (Du hB) fun X hP hT hr hG=> ?_;have hU:=sV.eq_1;unfold sV at hT;have hX:= @ri.eq_1;simp only[Tryz.f59,aD,an,ioB];refine s_g hG ?_;refine s_q hG ?_ ?_
 ·try simp only[ba]
  exact⟨by simp,hC⟩
 refine ay (q_e [] ?_);trivial
def sW(B:aj):Tab:={types:= [(79,tyP)],elems:= [],cons:= [(77,kF)],hint:= [],N:=7,base:=B}
theorem Dw{B:aj}(hB:aC B):aI Tryz.prog (sW B):=⟨⟨tc gF (ae),af,by simp only[sW,ioB];omega⟩,aG (cc Tryz.func77 (yz hB) (aA)),by kernel_rfl⟩
def IR:Con:=fun l os=>match l,os with
 | [.z (.slice (.st (.pair (.st (.pair .bool (.slice (.int .u32)))) (.st (.pair .bool (.slice (.int .u32))))))) p,.z (.slice (.st (.pair (.st (.pair .bool (.slice (.int .u32)))) (.st (.pair .bool (.slice (.int .u32))))))) q],[]=>some (Sz QH p/\p.length<=1000,[.z tyP (aL (bS (ax p)))],[])
 |_,_=>none
theorem Li{B:aj}(hB:aC B):Valid B Tryz.prog 76 IR:=by
 refine ab (Dw hB).tab Tryz.func76 rfl rfl rfl ?_;intro args os C rs os' hc hC;unfold IR at hc;split at hc;case h_2=>cases hc
 rename_i p q;cases hc;refine v_h (Dw hB) fun X hP hT hr hG=> ?_;have hU:=sW.eq_1;unfold sW at hT;have hX:= @kF.eq_1;simp only[Tryz.f76,aD,an,ioB];refine s_g hG ?_;refine s_q hG ?_ ?_
 ·try simp only[ba]
  exact hC
 refine ay (q_e [] ?_);trivial
def sX(B:aj):Tab:={types:= [(79,tyP)],elems:= [],cons:= [(79,sL)],hint:= [],N:=7,base:=B}
theorem Dx{B:aj}(hB:aC B):aI Tryz.prog (sX B):=⟨⟨tc gF (ae),af,by simp only[sX,ioB];omega⟩,aG (cc Tryz.func79 (K9 hB) (aA)),by kernel_rfl⟩
def IU:Con:=fun l os=>match l,os with
 | [.z (.slice (.st (.pair (.st (.pair .bool (.slice (.int .u32)))) (.st (.pair .bool (.slice (.int .u32))))))) p,.z (.slice (.st (.pair (.st (.pair .bool (.slice (.int .u32)))) (.st (.pair .bool (.slice (.int .u32))))))) q],[]=>some (nE p,[.z tyP (aL (cH (ax p)))],[])
 |_,_=>none
theorem Lj{B:aj}(hB:aC B):Valid B Tryz.prog 78 IU:=by
 refine ab (Dx hB).tab Tryz.func78 rfl rfl rfl ?_;intro args os C rs os' hc hC;unfold IU at hc;split at hc;case h_2=>cases hc
 rename_i p q;cases hc;refine v_h (Dx hB) fun X hP hT hr hG=> ?_;have hU:=sX.eq_1;unfold sX at hT;have hX:= @sL.eq_1;simp only[Tryz.f78,aD,an,ioB];refine s_g hG ?_;refine s_q hG ?_ ?_
 ·try simp only[ba]
  exact hC
 refine ay (q_e [] ?_);trivial
def sY(B:aj):Tab:={types:= [(31,(.int .i64)),(44,(.slice (.slice .str))),(79,tyP),(98,(.slice tyP))],elems:= [(44,22)],cons:= [(56,IP),(67,gm),(69,eJ)],hint:= [],N:=31,base:=B}
theorem Dy{B:aj}(hB:aC B):aI Tryz.prog (sY B):=⟨⟨tc kq (tc pO (tc gF (tc wX (ae)))),aT (by kernel_rfl) (af),by simp only[sY,ioB];omega⟩,aG (cc Tryz.func56 (Lg hB) (cc Tryz.func67 (fo hB) (cc Tryz.func69 (gn hB) (aA)))),by kernel_rfl⟩
def sZ:Con:=fun l os=>match l,os with
 | [.z (.slice .str) p,.z (.slice .str) q,.val (.func (.func g) fs cs)],[]=>some ((g=56/\fs.size=0/\cs.size=0)/\bV (fun p q=>Sz QH p/\Sz QH q/\p.length<=1000/\q.length<=1000) (bq (· + ·)) p q,[.z (.slice .str) (cB (bq (· + ·)) p q),.z (.int .i64) (cI (bq (· + ·)) p q)],[])
 |_,_=>none
theorem Lk{B:aj}(hB:aC B):Valid B Tryz.prog 55 sZ:=by
 refine ab (Dy hB).tab Tryz.func55 rfl rfl rfl ?_;intro args os C rs os' hc hC;unfold sZ at hc;split at hc;case h_2=>cases hc
 rename_i p q g fs cs;cases hc;refine v_h (Dy hB) fun X hP hT hr hG=> ?_;have hU:=sY.eq_1;unfold sY at hT;have hX:=ai @IP.eq_1<|ai @gm.eq_1<| @eJ.eq_1;simp only[Tryz.f55,aD,an,ioB];obtain⟨⟨rfl,e1,e2⟩,hp,hq,hD⟩:=hC;obtain rfl:=Array.eq_empty_of_size_eq_zero e1;obtain rfl:=Array.eq_empty_of_size_eq_zero e2;refine s_g hG ?_;refine s_q hG ?_ ?_
 ·try simp only[ba]
  exact(iD hp hq).2
 refine ak (s_g hG ?_);refine ao ?_ ?_
 ·intro hb0;try simp only[bt] at hb0
  refine s_g hG ?_;refine ay (az ?_);refine q_e [] ?_;exact jx hb0
 ·intro hb0;try simp only[bf] at hb0
  have n0:=jX hb0;have n1:=jY hb0;have nl:=iC hb0;have hE:=hD hb0;refine aq (ah ?_);refine s_d hG ?_ ?_
  ·(try simp only[ba]);simp only[NT] at n0 n1;simp only[n0,n1,nl,aM];exact⟨by decide,by decide,hE.1,hE.2.1,by rw[aH];exact hE.2.2⟩
  refine ay (q_e [] ?_);simp only[NT] at n0 n1;simp only[n0,n1,aM];exact lg (f:=(bq (· + ·))) hb0
def s6(B:aj):Tab:={types:= [(31,(.int .i64)),(44,(.slice (.slice .str))),(79,tyP),(98,(.slice tyP))],elems:= [(44,22)],cons:= [(59,IQ),(67,gm),(69,eJ)],hint:= [],N:=31,base:=B}
theorem Dz{B:aj}(hB:aC B):aI Tryz.prog (s6 B):=⟨⟨tc kq (tc pO (tc gF (tc wX (ae)))),aT (by kernel_rfl) (af),by simp only[s6,ioB];omega⟩,aG (cc Tryz.func59 (Lh hB) (cc Tryz.func67 (fo hB) (cc Tryz.func69 (gn hB) (aA)))),by kernel_rfl⟩
def s7:Con:=fun l os=>match l,os with
 | [.z (.slice .str) p,.z (.slice .str) q,.val (.func (.func g) fs cs)],[]=>some ((g=59/\fs.size=0/\cs.size=0)/\bV (fun p q=>Sz QH p/\Sz QH q/\p.length<=1000/\q.length<=1000) (bq (· - ·)) p q,[.z (.slice .str) (cB (bq (· - ·)) p q),.z (.int .i64) (cI (bq (· - ·)) p q)],[])
 |_,_=>none
theorem Ll{B:aj}(hB:aC B):Valid B Tryz.prog 55 s7:=by
 refine ab (Dz hB).tab Tryz.func55 rfl rfl rfl ?_;intro args os C rs os' hc hC;unfold s7 at hc;split at hc;case h_2=>cases hc
 rename_i p q g fs cs;cases hc;refine v_h (Dz hB) fun X hP hT hr hG=> ?_;have hU:=s6.eq_1;unfold s6 at hT;have hX:=ai @gm.eq_1<|ai @IQ.eq_1<| @eJ.eq_1;simp only[Tryz.f55,aD,an,ioB];obtain⟨⟨rfl,e1,e2⟩,hp,hq,hD⟩:=hC;obtain rfl:=Array.eq_empty_of_size_eq_zero e1;obtain rfl:=Array.eq_empty_of_size_eq_zero e2;refine s_g hG ?_;refine s_q hG ?_ ?_
 ·try simp only[ba]
  exact(iD hp hq).2
 refine ak (s_g hG ?_);refine ao ?_ ?_
 ·intro hb0;try simp only[bt] at hb0
  refine s_g hG ?_;refine ay (az ?_);refine q_e [] ?_;exact jx hb0
 ·intro hb0;try simp only[bf] at hb0
  have n0:=jX hb0;have n1:=jY hb0;have nl:=iC hb0;have hE:=hD hb0;refine aq (ah ?_);refine s_d hG ?_ ?_
  ·(try simp only[ba]);simp only[NT] at n0 n1;simp only[n0,n1,nl,aM];exact⟨by decide,by decide,hE.1,hE.2.1,by rw[aH];exact hE.2.2⟩
  refine ay (q_e [] ?_);simp only[NT] at n0 n1;simp only[n0,n1,aM];exact lg (f:=(bq (· - ·))) hb0
def s8(B:aj):Tab:={types:= [(31,(.int .i64)),(44,(.slice (.slice .str))),(79,tyP),(98,(.slice tyP))],elems:= [(44,22)],cons:= [(61,qm),(67,gm),(69,eJ)],hint:= [],N:=31,base:=B}
theorem DA{B:aj}(hB:aC B):aI Tryz.prog (s8 B):=⟨⟨tc kq (tc pO (tc gF (tc wX (ae)))),aT (by kernel_rfl) (af),by simp only[s8,ioB];omega⟩,aG (cc Tryz.func61 (yx hB) (cc Tryz.func67 (fo hB) (cc Tryz.func69 (gn hB) (aA)))),by kernel_rfl⟩
def s9:Con:=fun l os=>match l,os with
 | [.z (.slice .str) p,.z (.slice .str) q,.val (.func (.func g) fs cs)],[]=>some ((g=61/\fs.size=0/\cs.size=0)/\bV (fun p q=>Sz QM p/\Sz QM q/\p.length<=100/\q.length<=100) cu p q,[.z (.slice .str) (cB cu p q),.z (.int .i64) (cI cu p q)],[])
 |_,_=>none
theorem Lm{B:aj}(hB:aC B):Valid B Tryz.prog 55 s9:=by
 refine ab (DA hB).tab Tryz.func55 rfl rfl rfl ?_;intro args os C rs os' hc hC;unfold s9 at hc;split at hc;case h_2=>cases hc
 rename_i p q g fs cs;cases hc;refine v_h (DA hB) fun X hP hT hr hG=> ?_;have hU:=s8.eq_1;unfold s8 at hT;have hX:=ai @gm.eq_1<|ai @qm.eq_1<| @eJ.eq_1;simp only[Tryz.f55,aD,an,ioB];obtain⟨⟨rfl,e1,e2⟩,hp,hq,hD⟩:=hC;obtain rfl:=Array.eq_empty_of_size_eq_zero e1;obtain rfl:=Array.eq_empty_of_size_eq_zero e2;refine s_g hG ?_;refine s_q hG ?_ ?_
 ·try simp only[ba]
  exact(iD hp hq).2
 refine ak (s_g hG ?_);refine ao ?_ ?_
 ·intro hb0;try simp only[bt] at hb0
  refine s_g hG ?_;refine ay (az ?_);refine q_e [] ?_;exact jx hb0
 ·intro hb0;try simp only[bf] at hb0
  have n0:=jX hb0;have n1:=jY hb0;have nl:=iC hb0;have hE:=hD hb0;refine aq (ah ?_);refine s_d hG ?_ ?_
  ·(try simp only[ba]);simp only[NT] at n0 n1;simp only[n0,n1,nl,aM];exact⟨by decide,by decide,hE.1,hE.2.1,by rw[aH];exact hE.2.2⟩
  refine ay (q_e [] ?_);simp only[NT] at n0 n1;simp only[n0,n1,aM];exact lg (f:=cu) hb0
def th(B:aj):Tab:={types:= [(31,(.int .i64)),(44,(.slice (.slice .str))),(79,tyP),(98,(.slice tyP))],elems:= [(44,22)],cons:= [(67,gm),(69,eJ),(70,ng)],hint:= [],N:=31,base:=B}
theorem DB{B:aj}(hB:aC B):aI Tryz.prog (th B):=⟨⟨tc kq (tc pO (tc gF (tc wX (ae)))),aT (by kernel_rfl) (af),by simp only[th,ioB];omega⟩,aG (cc Tryz.func67 (fo hB) (cc Tryz.func69 (gn hB) (cc Tryz.func70 (yA hB) (aA)))),by kernel_rfl⟩
def ti:Con:=fun l os=>match l,os with
 | [.z (.slice .str) p,.z (.slice .str) q,.val (.func (.func g) fs cs)],[]=>some ((g=70/\fs.size=0/\cs.size=0)/\bV (ju) cp p q,[.z (.slice .str) (cB cp p q),.z (.int .i64) (cI cp p q)],[])
 |_,_=>none
theorem Ln{B:aj}(hB:aC B):Valid B Tryz.prog 55 ti:=by
 refine ab (DB hB).tab Tryz.func55 rfl rfl rfl ?_;intro args os C rs os' hc hC;unfold ti at hc;split at hc;case h_2=>cases hc
 rename_i p q g fs cs;cases hc;refine v_h (DB hB) fun X hP hT hr hG=> ?_;have hU:=th.eq_1;unfold th at hT;have hX:=ai @gm.eq_1<|ai @ng.eq_1<| @eJ.eq_1;simp only[Tryz.f55,aD,an,ioB];obtain⟨⟨rfl,e1,e2⟩,hp,hq,hD⟩:=hC;obtain rfl:=Array.eq_empty_of_size_eq_zero e1;obtain rfl:=Array.eq_empty_of_size_eq_zero e2;refine s_g hG ?_;refine s_q hG ?_ ?_
 ·try simp only[ba]
  exact(iD hp hq).2
 refine ak (s_g hG ?_);refine ao ?_ ?_
 ·intro hb0;try simp only[bt] at hb0
  refine s_g hG ?_;refine ay (az ?_);refine q_e [] ?_;exact jx hb0
 ·intro hb0;try simp only[bf] at hb0
  have n0:=jX hb0;have n1:=jY hb0;have nl:=iC hb0;have hE:=hD hb0;refine aq (ah ?_);refine s_d hG ?_ ?_
  ·(try simp only[ba]);simp only[NT] at n0 n1;simp only[n0,n1,nl,aM];exact⟨by decide,by decide,hE.1,hE.2.1,by rw[aH];exact hE.2.2⟩
  refine ay (q_e [] ?_);simp only[NT] at n0 n1;simp only[n0,n1,aM];exact lg (f:=cp) hb0
def tj(B:aj):Tab:={types:= [(31,(.int .i64)),(44,(.slice (.slice .str))),(79,tyP),(98,(.slice tyP))],elems:= [(44,22)],cons:= [(67,gm),(69,eJ),(76,IR)],hint:= [],N:=31,base:=B}
theorem DC{B:aj}(hB:aC B):aI Tryz.prog (tj B):=⟨⟨tc kq (tc pO (tc gF (tc wX (ae)))),aT (by kernel_rfl) (af),by simp only[tj,ioB];omega⟩,aG (cc Tryz.func67 (fo hB) (cc Tryz.func69 (gn hB) (cc Tryz.func76 (Li hB) (aA)))),by kernel_rfl⟩
def tk:Con:=fun l os=>match l,os with
 | [.z (.slice .str) p,.z (.slice .str) q,.val (.func (.func g) fs cs)],[]=>some ((g=76/\fs.size=0/\cs.size=0)/\bV (fun p _=>Sz QH p/\p.length<=1000) (fun a _=>bS a) p q,[.z (.slice .str) (cB (fun a _=>bS a) p q),.z (.int .i64) (cI (fun a _=>bS a) p q)],[])
 |_,_=>none
theorem Lo{B:aj}(hB:aC B):Valid B Tryz.prog 55 tk:=by
 refine ab (DC hB).tab Tryz.func55 rfl rfl rfl ?_;intro args os C rs os' hc hC;unfold tk at hc;split at hc;case h_2=>cases hc
 rename_i p q g fs cs;cases hc;refine v_h (DC hB) fun X hP hT hr hG=> ?_;have hU:=tj.eq_1;unfold tj at hT;have hX:=ai @gm.eq_1<|ai @IR.eq_1<| @eJ.eq_1;simp only[Tryz.f55,aD,an,ioB];obtain⟨⟨rfl,e1,e2⟩,hp,hq,hD⟩:=hC;obtain rfl:=Array.eq_empty_of_size_eq_zero e1;obtain rfl:=Array.eq_empty_of_size_eq_zero e2;refine s_g hG ?_;refine s_q hG ?_ ?_
 ·try simp only[ba]
  exact(iD hp hq).2
 refine ak (s_g hG ?_);refine ao ?_ ?_
 ·intro hb0;try simp only[bt] at hb0
  refine s_g hG ?_;refine ay (az ?_);refine q_e [] ?_;exact jx hb0
 ·intro hb0;try simp only[bf] at hb0
  have n0:=jX hb0;have n1:=jY hb0;have nl:=iC hb0;have hE:=hD hb0;refine aq (ah ?_);refine s_d hG ?_ ?_
  ·(try simp only[ba]);simp only[NT] at n0 n1;simp only[n0,n1,nl,aM];exact⟨by decide,by decide,hE.1,hE.2.1,by rw[aH];exact hE.2.2⟩
  refine ay (q_e [] ?_);simp only[NT] at n0 n1;simp only[n0,n1,aM];exact lg (f:=(fun a _=>bS a)) hb0
def wz:Con:=ka [none,some (.slice .str),none] tk
theorem F9{B:aj}(hB:aC B):Valid B Tryz.prog 55 wz:=fX _ (Lo hB)
def tn(B:aj):Tab:={types:= [(31,(.int .i64)),(44,(.slice (.slice .str))),(79,tyP),(98,(.slice tyP))],elems:= [(44,22)],cons:= [(67,gm),(69,eJ),(78,IU)],hint:= [],N:=31,base:=B}
theorem DD{B:aj}(hB:aC B):aI Tryz.prog (tn B):=⟨⟨tc kq (tc pO (tc gF (tc wX (ae)))),aT (by kernel_rfl) (af),by simp only[tn,ioB];omega⟩,aG (cc Tryz.func67 (fo hB) (cc Tryz.func69 (gn hB) (cc Tryz.func78 (Lj hB) (aA)))),by kernel_rfl⟩
def tv:Con:=fun l os=>match l,os with
 | [.z (.slice .str) p,.z (.slice .str) q,.val (.func (.func g) fs cs)],[]=>some ((g=78/\fs.size=0/\cs.size=0)/\bV (fun p _=>nE p) (fun a _=>cH a) p q,[.z (.slice .str) (cB (fun a _=>cH a) p q),.z (.int .i64) (cI (fun a _=>cH a) p q)],[])
 |_,_=>none
theorem Lp{B:aj}(hB:aC B):Valid B Tryz.prog 55 tv:=by
 refine ab (DD hB).tab Tryz.func55 rfl rfl rfl ?_;intro args os C rs os' hc hC;unfold tv at hc;split at hc;case h_2=>cases hc
 rename_i p q g fs cs;cases hc;refine v_h (DD hB) fun X hP hT hr hG=> ?_;have hU:=tn.eq_1;unfold tn at hT;have hX:=ai @gm.eq_1<|ai @IU.eq_1<| @eJ.eq_1;simp only[Tryz.f55,aD,an,ioB];obtain⟨⟨rfl,e1,e2⟩,hp,hq,hD⟩:=hC;obtain rfl:=Array.eq_empty_of_size_eq_zero e1;obtain rfl:=Array.eq_empty_of_size_eq_zero e2;refine s_g hG ?_;refine s_q hG ?_ ?_
 ·try simp only[ba]
  exact(iD hp hq).2
 refine ak (s_g hG ?_);refine ao ?_ ?_
 ·intro hb0;try simp only[bt] at hb0
  refine s_g hG ?_;refine ay (az ?_);refine q_e [] ?_;exact jx hb0
 ·intro hb0;try simp only[bf] at hb0
  have n0:=jX hb0;have n1:=jY hb0;have nl:=iC hb0;have hE:=hD hb0;refine aq (ah ?_);refine s_d hG ?_ ?_
  ·(try simp only[ba]);simp only[NT] at n0 n1;simp only[n0,n1,nl,aM];exact⟨by decide,by decide,hE.1,hE.2.1,by rw[aH];exact hE.2.2⟩
  refine ay (q_e [] ?_);simp only[NT] at n0 n1;simp only[n0,n1,aM];exact lg (f:=(fun a _=>cH a)) hb0
def wA:Con:=ka [none,some (.slice .str),none] tv
theorem Ga{B:aj}(hB:aC B):Valid B Tryz.prog 55 wA:=fX _ (Lp hB)
def tw(B:aj):Tab:={types:= [(31,(.int .i64)),(44,(.slice (.slice .str))),(79,tyP),(98,(.slice tyP))],elems:= [(44,22)],cons:= [(67,gm),(69,eJ),(80,pf)],hint:= [],N:=31,base:=B}
theorem DE{B:aj}(hB:aC B):aI Tryz.prog (tw B):=⟨⟨tc kq (tc pO (tc gF (tc wX (ae)))),aT (by kernel_rfl) (af),by simp only[tw,ioB];omega⟩,aG (cc Tryz.func67 (fo hB) (cc Tryz.func69 (gn hB) (cc Tryz.func80 (Lf hB) (aA)))),by kernel_rfl⟩
def tz:Con:=fun l os=>match l,os with
 | [.z (.slice .str) p,.z (.slice .str) q,.val (.func (.func g) fs cs)],[]=>some ((g=80/\fs.size=0/\cs.size=0)/\bV (zu) lH p q,[.z (.slice .str) (cB lH p q),.z (.int .i64) (cI lH p q)],[])
 |_,_=>none
theorem Lq{B:aj}(hB:aC B):Valid B Tryz.prog 55 tz:=by
 refine ab (DE hB).tab Tryz.func55 rfl rfl rfl ?_;intro args os C rs os' hc hC;unfold tz at hc;split at hc;case h_2=>cases hc
 rename_i p q g fs cs;cases hc;refine v_h (DE hB) fun X hP hT hr hG=> ?_;have hU:=tw.eq_1;unfold tw at hT;have hX:=ai @gm.eq_1<|ai @pf.eq_1<| @eJ.eq_1;simp only[Tryz.f55,aD,an,ioB];obtain⟨⟨rfl,e1,e2⟩,hp,hq,hD⟩:=hC;obtain rfl:=Array.eq_empty_of_size_eq_zero e1;obtain rfl:=Array.eq_empty_of_size_eq_zero e2;refine s_g hG ?_;refine s_q hG ?_ ?_
 ·try simp only[ba]
  exact(iD hp hq).2
 refine ak (s_g hG ?_);refine ao ?_ ?_
 ·intro hb0;try simp only[bt] at hb0
  refine s_g hG ?_;refine ay (az ?_);refine q_e [] ?_;exact jx hb0
 ·intro hb0;try simp only[bf] at hb0
  have n0:=jX hb0;have n1:=jY hb0;have nl:=iC hb0;have hE:=hD hb0;refine aq (ah ?_);refine s_d hG ?_ ?_
  ·(try simp only[ba]);simp only[NT] at n0 n1;simp only[n0,n1,nl,aM];exact⟨by decide,by decide,hE.1,hE.2.1,by rw[aH];exact hE.2.2⟩
  refine ay (q_e [] ?_);simp only[NT] at n0 n1;simp only[n0,n1,aM];exact lg (f:=lH) hb0
def tA(B:aj):Tab:={types:= [(22,(.slice .str))],elems:= [],cons:= [(54,qq)],hint:= [],N:=11,base:=B}
theorem DF{B:aj}(hB:aC B):aI Tryz.prog (tA B):=⟨⟨tc dZ (ae),af,by simp only[tA,ioB];omega⟩,aG (cc Tryz.func54 (yE hB) (aA)),by kernel_rfl⟩
def nh:Con:=fun l os=>match l,os with
 | [.z (.slice .str) p],[]=>some (c8 p,[.z (.int .i64) (bT p)],[])
 |_,_=>none
theorem yF{B:aj}(hB:aC B):Valid B Tryz.prog 14 nh:=by
 refine ab (DF hB).tab Tryz.func14 rfl rfl rfl ?_;intro args os C rs os' hc hC;unfold nh at hc;split at hc;case h_2=>cases hc
 rename_i p;cases hc;refine v_h (DF hB) fun X hP hT hr hG=> ?_;have hU:=tA.eq_1;unfold tA at hT;have hX:= @qq.eq_1;simp only[Tryz.f14,aD,an,ioB];refine s_g hG ?_;refine s_q hG ?_ ?_
 ·try simp only[ba]
  exact hC
 refine s_g hG ?_;refine ay (q_e [] ?_);trivial
def tB(B:aj):Tab:={types:= [(22,(.slice .str))],elems:= [],cons:= [(55,sZ)],hint:= [],N:=11,base:=B}
theorem DG{B:aj}(hB:aC B):aI Tryz.prog (tB B):=⟨⟨tc dZ (ae),af,by simp only[tB,ioB];omega⟩,aG (cc Tryz.func55 (Lk hB) (aA)),by kernel_rfl⟩
def IV:Con:=fun l os=>match l,os with
 | [.z (.slice .str) p,.z (.slice .str) q],[]=>some (bV (fun p q=>Sz QH p/\Sz QH q/\p.length<=1000/\q.length<=1000) (bq (· + ·)) p q,[.z (.slice .str) (cB (bq (· + ·)) p q),.z (.int .i64) (cI (bq (· + ·)) p q)],[])
 |_,_=>none
theorem Lr{B:aj}(hB:aC B):Valid B Tryz.prog 15 IV:=by
 refine ab (DG hB).tab Tryz.func15 rfl rfl rfl ?_;intro args os C rs os' hc hC;unfold IV at hc;split at hc;case h_2=>cases hc
 rename_i p q;cases hc;refine v_h (DG hB) fun X hP hT hr hG=> ?_;have hU:=tB.eq_1;unfold tB at hT;have hX:= @sZ.eq_1;simp only[Tryz.f15,aD,an,ioB];refine s_g hG ?_;refine s_q hG ?_ ?_
 ·try simp only[ba]
  exact hC
 refine ay (q_e [] ?_);trivial
def tC(B:aj):Tab:={types:= [(22,(.slice .str))],elems:= [],cons:= [(55,s7)],hint:= [],N:=11,base:=B}
theorem DH{B:aj}(hB:aC B):aI Tryz.prog (tC B):=⟨⟨tc dZ (ae),af,by simp only[tC,ioB];omega⟩,aG (cc Tryz.func55 (Ll hB) (aA)),by kernel_rfl⟩
def IW:Con:=fun l os=>match l,os with
 | [.z (.slice .str) p,.z (.slice .str) q],[]=>some (bV (fun p q=>Sz QH p/\Sz QH q/\p.length<=1000/\q.length<=1000) (bq (· - ·)) p q,[.z (.slice .str) (cB (bq (· - ·)) p q),.z (.int .i64) (cI (bq (· - ·)) p q)],[])
 |_,_=>none
theorem Ls{B:aj}(hB:aC B):Valid B Tryz.prog 16 IW:=by
 refine ab (DH hB).tab Tryz.func16 rfl rfl rfl ?_;intro args os C rs os' hc hC;unfold IW at hc;split at hc;case h_2=>cases hc
 rename_i p q;cases hc;refine v_h (DH hB) fun X hP hT hr hG=> ?_;have hU:=tC.eq_1;unfold tC at hT;have hX:= @s7.eq_1;simp only[Tryz.f16,aD,an,ioB];refine s_g hG ?_;refine s_q hG ?_ ?_
 ·try simp only[ba]
  exact hC
 refine ay (q_e [] ?_);trivial
def tE(B:aj):Tab:={types:= [(22,(.slice .str))],elems:= [],cons:= [(55,s9)],hint:= [],N:=11,base:=B}
theorem DI{B:aj}(hB:aC B):aI Tryz.prog (tE B):=⟨⟨tc dZ (ae),af,by simp only[tE,ioB];omega⟩,aG (cc Tryz.func55 (Lm hB) (aA)),by kernel_rfl⟩
def IX:Con:=fun l os=>match l,os with
 | [.z (.slice .str) p,.z (.slice .str) q],[]=>some (bV (fun p q=>Sz QM p/\Sz QM q/\p.length<=100/\q.length<=100) cu p q,[.z (.slice .str) (cB cu p q),.z (.int .i64) (cI cu p q)],[])
 |_,_=>none
theorem Lt{B:aj}(hB:aC B):Valid B Tryz.prog 17 IX:=by
 refine ab (DI hB).tab Tryz.func17 rfl rfl rfl ?_;intro args os C rs os' hc hC;unfold IX at hc;split at hc;case h_2=>cases hc
 rename_i p q;cases hc;refine v_h (DI hB) fun X hP hT hr hG=> ?_;have hU:=tE.eq_1;unfold tE at hT;have hX:= @s9.eq_1;simp only[Tryz.f17,aD,an,ioB];refine s_g hG ?_;refine s_q hG ?_ ?_
 ·try simp only[ba]
  exact hC
 refine ay (q_e [] ?_);trivial
def tF(B:aj):Tab:={types:= [(22,(.slice .str))],elems:= [],cons:= [(55,ti)],hint:= [],N:=11,base:=B}
theorem DJ{B:aj}(hB:aC B):aI Tryz.prog (tF B):=⟨⟨tc dZ (ae),af,by simp only[tF,ioB];omega⟩,aG (cc Tryz.func55 (Ln hB) (aA)),by kernel_rfl⟩
def yG:Con:=fun l os=>match l,os with
 | [.z (.slice .str) p,.z (.slice .str) q],[]=>some (bV (ju) cp p q,[.z (.slice .str) (cB cp p q),.z (.int .i64) (cI cp p q)],[])
 |_,_=>none
theorem yH{B:aj}(hB:aC B):Valid B Tryz.prog 24 yG:=by
 refine ab (DJ hB).tab Tryz.func24 rfl rfl rfl ?_;intro args os C rs os' hc hC;unfold yG at hc;split at hc;case h_2=>cases hc
 rename_i p q;cases hc;refine v_h (DJ hB) fun X hP hT hr hG=> ?_;have hU:=tF.eq_1;unfold tF at hT;have hX:= @ti.eq_1;simp only[Tryz.f24,aD,an,ioB];refine s_g hG ?_;refine s_q hG ?_ ?_
 ·try simp only[ba]
  exact hC
 refine ay (q_e [] ?_);trivial
def Gb:Con:=ka [some (.slice .str),some (.slice .str)] yG
theorem Gc{B:aj}(hB:aC B):Valid B Tryz.prog 24 Gb:=fX _ (yH hB)
def tG(B:aj):Tab:={types:= [(22,(.slice .str))],elems:= [],cons:= [(55,wz)],hint:= [],N:=8,base:=B}
theorem DK{B:aj}(hB:aC B):aI Tryz.prog (tG B):=⟨⟨tc dZ (ae),af,by simp only[tG,ioB];omega⟩,aG (cc Tryz.func55 (F9 hB) (aA)),by kernel_rfl⟩
def IY:Con:=fun l os=>match l,os with
 | [.z (.slice .str) p],[]=>some (bV (fun p _=>Sz QH p/\p.length<=1000) (fun a _=>bS a) p [],[.z (.slice .str) (cB (fun a _=>bS a) p []),.z (.int .i64) (cI (fun a _=>bS a) p [])],[])
 |_,_=>none
theorem Lu{B:aj}(hB:aC B):Valid B Tryz.prog 29 IY:=by
 refine ab (DK hB).tab Tryz.func29 rfl rfl rfl ?_;intro args os C rs os' hc hC;unfold IY at hc;split at hc;case h_2=>cases hc
 rename_i p;cases hc;refine v_h (DK hB) fun X hP hT hr hG=> ?_;have hU:=tG.eq_1;unfold tG at hT;have hX:=ai @tk.eq_1<| @wz.eq_1;simp only[Tryz.f29,aD,an,ioB];refine s_g hG ?_;refine s_q hG ?_ ?_
 ·try simp only[ba]
  exact hC
 refine ay (q_e [] ?_);trivial
def tH(B:aj):Tab:={types:= [(22,(.slice .str))],elems:= [],cons:= [(55,wA)],hint:= [],N:=8,base:=B}
theorem DL{B:aj}(hB:aC B):aI Tryz.prog (tH B):=⟨⟨tc dZ (ae),af,by simp only[tH,ioB];omega⟩,aG (cc Tryz.func55 (Ga hB) (aA)),by kernel_rfl⟩
def IZ:Con:=fun l os=>match l,os with
 | [.z (.slice .str) p],[]=>some (bV (fun p _=>nE p) (fun a _=>cH a) p [],[.z (.slice .str) (cB (fun a _=>cH a) p []),.z (.int .i64) (cI (fun a _=>cH a) p [])],[])
 |_,_=>none
theorem Lv{B:aj}(hB:aC B):Valid B Tryz.prog 30 IZ:=by
 refine ab (DL hB).tab Tryz.func30 rfl rfl rfl ?_;intro args os C rs os' hc hC;unfold IZ at hc;split at hc;case h_2=>cases hc
 rename_i p;cases hc;refine v_h (DL hB) fun X hP hT hr hG=> ?_;have hU:=tH.eq_1;unfold tH at hT;have hX:=ai @tv.eq_1<| @wA.eq_1;simp only[Tryz.f30,aD,an,ioB];refine s_g hG ?_;refine s_q hG ?_ ?_
 ·try simp only[ba]
  exact hC
 refine ay (q_e [] ?_);trivial
def tI(B:aj):Tab:={types:= [(3,(.int .i64)),(31,(.int .i64)),(44,(.slice (.slice .str))),(79,tyP),(98,(.slice tyP))],elems:= [(44,22)],cons:= [(67,gm),(68,rh),(69,eJ)],hint:= [],N:=53,base:=B}
theorem DM{B:aj}(hB:aC B):aI Tryz.prog (tI B):=⟨⟨tc ty3 (tc kq (tc pO (tc gF (tc wX (ae))))),aT (by kernel_rfl) (af),by simp only[tI,ioB];omega⟩,aG (cc Tryz.func67 (fo hB) (cc Tryz.func68 (qo hB) (cc Tryz.func69 (gn hB) (aA)))),by kernel_rfl⟩
def qs:Con:=fun l os=>match l,os with
 | [.z (.slice .str) p,.z (.slice .str) q],[]=>some (mi p q,[.z (.slice .str) (dvS p q),.z (.slice .str) (dvR p q),.z (.int .i64) (dvE p q)],[])
 |_,_=>none
theorem yI{B:aj}(hB:aC B):Valid B Tryz.prog 23 qs:=by
 refine ab (DM hB).tab Tryz.func23 rfl rfl rfl ?_;intro args os C rs os' hc hC;unfold qs at hc;split at hc;case h_2=>cases hc
 rename_i p q;cases hc;refine v_h (DM hB) fun X hP hT hr hG=> ?_;have hU:=tI.eq_1;unfold tI at hT;have hX:=ai @gm.eq_1<|ai @rh.eq_1<| @eJ.eq_1;simp only[Tryz.f23,aD,an,ioB];refine s_g hG ?_;refine s_q hG ?_ ?_
 ·try simp only[ba]
  exact(iD hC.sp hC.sq).2
 refine ak (s_g hG ?_);refine ao ?_ ?_
 ·intro hb0;try simp only[bt] at hb0
  refine s_g hG ?_;refine ay (az ?_);refine q_e [] ?_;exact N9 hb0
 ·intro hb0;try simp only[bf] at hb0
  have n0:=jX hb0;have n1:=jY hb0;have nl:=iC hb0;simp only[NT] at n0 n1;refine aq (ah ?_);refine ak (s_q hG ?_ ?_)
  ·(try simp only[ba]);rw[nl];decide
  refine ao ?_ ?_;·intro hb1;(try simp only[bt] at hb1);simp only[n1] at hb1;(have hq:(aL (bk q)).length=0:=by have h9:((aL (bk q)).length:Int)=0:=hb1;omega);refine s_g hG ?_;refine ay (az ?_);refine q_e [] ?_;exact Oa hb0 hq
  ·intro hb1;(try simp only[bf] at hb1);simp only[n1] at hb1;(have hq: ¬ (aL (bk q)).length=0:=by intro h8;exact hb1 (by show ((aL (bk q)).length:Int)=0;omega));have hne:=Q6 hq;obtain⟨k1,k2,k3⟩:=hC.ok hb0 hne;refine aq (ah ?_);refine s_d hG ?_ ?_
   ·(try simp only[ba]);simp only[n0,n1,nl];exact⟨by decide,by decide,k1⟩
   refine s_q hG ?_ ?_
   ·(try simp only[ba]);simp only[n0,n1,aM];exact k2
   refine ak (s_g hG ?_);refine ao ?_ ?_;·intro hb2;(try simp only[bt] at hb2);refine s_g hG ?_;refine ay (az ?_);refine q_e [] ?_;simp only[n0,n1,aM] at hb2 ⊢;exact Q7 hb0 hne hb2
   ·intro hb2;(try simp only[bf] at hb2);refine aq (ah ?_);refine s_q hG ?_ ?_
    ·(try simp only[ba]);simp only[n0,n1,aM];exact k3
    (refine ak (s_g hG ?_);refine ao ?_ ?_;·intro hb3;(try simp only[bt] at hb3);refine s_g hG ?_;refine ay (az ?_);refine q_e [] ?_;simp only[n0,n1,aM] at hb2 hb3 ⊢;exact Q8 hb0 hne hb2 hb3);·intro hb3;(try simp only[bf] at hb3);refine aq (ah ?_);refine s_g hG ?_;refine ay (q_e [] ?_);simp only[n0,n1,aM] at hb2 hb3 ⊢;exact Q9 hb0 hne hb2 hb3
def Aj:Con:=ka [some (.slice .str),some (.slice .str)] qs
theorem Gd{B:aj}(hB:aC B):Valid B Tryz.prog 23 Aj:=fX _ (yI hB)
def tJ(B:aj):Tab:={types:= [(3,(.int .i64)),(22,(.slice .str)),(31,(.int .i64))],elems:= [],cons:= [(14,nh),(55,tz)],hint:= [],N:=39,base:=B}
theorem DN{B:aj}(hB:aC B):aI Tryz.prog (tJ B):=⟨⟨tc ty3 (tc dZ (tc kq (ae))),af,by simp only[tJ,ioB];omega⟩,aG (cc Tryz.func14 (yF hB) (cc Tryz.func55 (Lq hB) (aA))),by kernel_rfl⟩
def Ak:Con:=fun l os=>match l,os with
 | [.z (.slice .str) p,.z (.slice .str) q],[]=>some (zx p q,[.z (.slice .str) (xX p q),.z (.int .i64) (xW p q)],[])
 |_,_=>none
theorem Lw{B:aj}(hB:aC B):Valid B Tryz.prog 31 Ak:=by
 refine ab (DN hB).tab Tryz.func31 rfl rfl rfl ?_;intro args os C rs os' hc hC;unfold Ak at hc;split at hc;case h_2=>cases hc
 rename_i p q;cases hc;refine v_h (DN hB) fun X hP hT hr hG=> ?_;have hU:=tJ.eq_1;unfold tJ at hT;have hX:=ai @tz.eq_1<| @nh.eq_1;simp only[Tryz.f31,aD,an,ioB];refine s_g hG ?_;refine ak (s_q hG ?_ ?_)
 ·try simp only[ba]
  exact⟨hC.sp,fun h=>⟨h,hC.sq⟩,id,id,id,id,id,id,id,id,id⟩
 refine ao ?_ ?_;·intro hb0;have hL:=of_decide_eq_true (Oc hb0);refine s_g hG ?_;refine ay (az ?_);refine q_e [] ?_;exact Tf hL
 ·intro hb0;have hL:=of_decide_eq_false (Oc hb0);refine aq (ah ?_);refine s_q hG ?_ ?_
  ·(try simp only[ba]);exact hC.ok hL
  refine ay (q_e [] ?_);exact Tg hL
def Al:Con:=ka [some (.slice .str),some (.slice .str)] Ak
theorem Ge{B:aj}(hB:aC B):Valid B Tryz.prog 31 Al:=fX _ (Lw hB)
def tK(B:aj):Tab:={types:= [(22,(.slice .str)),(31,(.int .i64)),(44,(.slice (.slice .str))),(46,.str),(78,tyP),(79,tyP),(91,tyN),(98,(.slice tyP))],elems:= [(44,22),(78,91)],cons:= [(67,gm),(87,nf),(88,ql),(89,IL),(90,rf)],hint:= [],N:=41,base:=B}
theorem DO{B:aj}(hB:aC B):aI Tryz.prog (tK B):=⟨⟨tc dZ (tc kq (tc pO (tc iI (tc QA (tc gF (tc ty91 (tc wX (ae)))))))),aT (by kernel_rfl) (aT (by kernel_rfl) (af)),by simp only[tK,ioB];omega⟩,aG (cc Tryz.func67 (fo hB) (cc Tryz.func87 (yt hB) (cc Tryz.func88 (yu hB) (cc Tryz.func89 (Lb hB) (cc Tryz.func90 (qk hB) (aA)))))),by kernel_rfl⟩
def Am:Con:=fun l os=>match l,os with
 | [.z (.slice .str) p,.z .str x],[]=>some (Od p x,[.z .str (evS p x),.z (.int .i64) (evE p x)],[])
 |_,_=>none
theorem Lx{B:aj}(hB:aC B):Valid B Tryz.prog 36 Am:=by
 refine ab (DO hB).tab Tryz.func36 rfl rfl rfl ?_;intro args os C rs os' hc hC;unfold Am at hc;split at hc;case h_2=>cases hc
 rename_i p x;cases hc;refine v_h (DO hB) fun X hP hT hr hG=> ?_;have hU:=tK.eq_1;unfold tK at hT;have hX:=ai @gm.eq_1<|ai @nf.eq_1<|ai @IL.eq_1<|ai @rf.eq_1<| @ql.eq_1;simp only[Tryz.f36,aD,an,ioB];refine s_g hG ?_;refine s_q hG ?_ ?_
 ·try simp only[ba]
  exact(Of hC).2
 refine ak (s_g hG ?_);refine ao ?_ ?_
 ·intro hb0;try simp only[bt] at hb0
  refine s_g hG ?_;refine ay (az ?_);refine q_e [] ?_;exact Ti hb0
 ·intro hb0;try simp only[bf] at hb0
  have n0:=T9 hb0;have nl:=Th hb0;simp only[NT] at n0;refine aq (ah ?_);refine ak (s_q hG ?_ ?_)
  ·(try simp only[ba]);exact hC.sx
  refine s_g hG ?_;refine ao ?_ ?_;·intro hb1;(try simp only[bt] at hb1);refine s_g hG ?_;refine ay (az ?_);refine q_e [] ?_;exact Ra hb0 hb1
  ·intro hb1;(try simp only[bf] at hb1);(have h9:cx x=0:=by simpa using hb1);obtain⟨k1,k2,k3,k4⟩:=hC.ok hb0 h9;obtain⟨c1,c2⟩:=pZ h9 hC.sx;refine aq (ah ?_);refine s_d hG ?_ ?_
   ·(try simp only[ba]);simp only[n0,nl,c2,aM,aQ];exact Og c1 k1 k2 k3 k4
   refine ak (s_g hG ?_);refine ao ?_ ?_;·intro hb2;(try simp only[bt] at hb2);refine s_g hG ?_;refine ay (az ?_);refine q_e [] ?_;simp only[n0,c2,aM,aQ,B6] at hb2;exact Tj hb0 h9 (by simpa using hb2)
   ·intro hb2;(try simp only[bf] at hb2);refine aq (ah ?_);refine s_q hG ?_ ?_
    ·(try simp only[ba]);simp only[n0,c2,aM,aQ] at hb2 ⊢;exact Ko (by simpa using hb2) _
    refine ay (q_e [] ?_);simp only[n0,c2,aM,aQ,B6] at hb2 ⊢;exact Rc hb0 h9 (by simpa using hb2)
def An:Con:=ka [some (.slice .str),none] Am
theorem Gf{B:aj}(hB:aC B):Valid B Tryz.prog 36 An:=fX _ (Lx hB)
def tL(B:aj):Tab:={types:= [],elems:= [],cons:= [],hint:= [],N:=4,base:=B}
theorem DP{B:aj}(hB:aC B):aI Tryz.prog (tL B):=⟨⟨ae,af,by simp only[tL,ioB];omega⟩,bI rfl,by kernel_rfl⟩
def Sf:Con:=fun l os=>match l,os with
 | [.z (.slice .str) p],[]=>some (True,[.z (.slice .str) p],[])
 |_,_=>none
theorem Ly{B:aj}(hB:aC B):Valid B Tryz.prog 45 Sf:=by
 refine ab (DP hB).tab Tryz.func45 rfl rfl rfl ?_;intro args os C rs os' hc hC;unfold Sf at hc;split at hc;case h_2=>cases hc
 rename_i p;cases hc;refine v_h (DP hB) fun X hP hT hr hG=> ?_;have hU:=tL.eq_1;unfold tL at hT;have hX:=Bool.not_true;simp only[Tryz.f45,aD,an,ioB];refine s_g hG ?_;refine s_g hG ?_;refine ay (q_e [] ?_);trivial
def tM(B:aj):Tab:={types:= [(22,(.slice .str)),(31,(.int .i64))],elems:= [],cons:= [(28,ke)],hint:= [],N:=13,base:=B}
theorem DQ{B:aj}(hB:aC B):aI Tryz.prog (tM B):=⟨⟨tc dZ (tc kq (ae)),af,by simp only[tM,ioB];omega⟩,aG (cc Tryz.func28 (mY hB) (aA)),by kernel_rfl⟩
def Sg:Con:=fun l os=>match l,os with
 | [.z (.slice .str) p,.z (.int .i64) e,.z (.ptr (.slice .str)) q],[]=>some (p.length<=QL/\q.length<=QL,[.z .bool (decide (e=0/\p=q))],[])
 |_,_=>none
theorem Lz{B:aj}(hB:aC B):Valid B Tryz.prog 94 Sg:=by
 refine ab (DQ hB).tab Tryz.func94 rfl rfl rfl ?_;intro args os C rs os' hc hC;unfold Sg at hc;split at hc;case h_2=>cases hc
 rename_i p e q;cases hc;refine v_h (DQ hB) fun X hP hT hr hG=> ?_;have hU:=tM.eq_1;unfold tM at hT;have hX:= @ke.eq_1;simp only[Tryz.f94,aD,an,ioB];refine s_g hG ?_;refine s_q hG ?_ ?_
 ·try simp only[ba]
  exact⟨fun h=>⟨h,hC⟩,id⟩
 refine ay (q_e [] ?_);exact OM _ _ _
def tO(B:aj):Tab:={types:= [(22,(.slice .str))],elems:= [],cons:= [],hint:= [],N:=4,base:=B}
theorem DR{B:aj}(hB:aC B):aI Tryz.prog (tO B):=⟨⟨tc dZ (ae),af,by simp only[tO,ioB];omega⟩,bI rfl,by kernel_rfl⟩
def Sh:Con:=fun l os=>match l,os with
 | [.z (.slice .str) p],[]=>some (True,[.fn 94 [.z (.ptr (.slice .str)) p]],[])
 |_,_=>none
theorem LA{B:aj}(hB:aC B):Valid B Tryz.prog 41 Sh:=by
 refine ab (DR hB).tab Tryz.func41 rfl rfl rfl ?_;intro args os C rs os' hc hC;unfold Sh at hc;split at hc;case h_2=>cases hc
 rename_i p;cases hc;refine v_h (DR hB) fun X hP hT hr hG=> ?_;have hU:=tO.eq_1;unfold tO at hT;have hX:=Bool.not_true;simp only[Tryz.f41,aD,an,ioB];refine s_g hG ?_;refine s_g hG ?_;refine ay (q_e [] ?_);rfl
def Pz:Con:=ka [some (.slice .str)] Sh
theorem Gg{B:aj}(hB:aC B):Valid B Tryz.prog 41 Pz:=fX _ (LA hB)
def tP(B:aj):Tab:={types:= [(3,(.int .i64)),(22,(.slice .str)),(31,(.int .i64))],elems:= [],cons:= [],hint:= [],N:=15,base:=B}
theorem DS{B:aj}(hB:aC B):aI Tryz.prog (tP B):=⟨⟨tc ty3 (tc dZ (tc kq (ae))),af,by simp only[tP,ioB];omega⟩,bI rfl,by kernel_rfl⟩
def Ao:Con:=fun l os=>match l,os with
 | [.z (.slice .str) p,.z (.int .i64) e,.z (.int .i64) w],[]=>some (True,[.z .bool (decide (p= []/\e=w))],[])
 |_,_=>none
theorem LC{B:aj}(hB:aC B):Valid B Tryz.prog 18 Ao:=by
 refine ab (DS hB).tab Tryz.func18 rfl rfl rfl ?_;intro args os C rs os' hc hC;unfold Ao at hc;split at hc;case h_2=>cases hc
 rename_i p e w;cases hc;refine v_h (DS hB) fun X hP hT hr hG=> ?_;have hU:=tP.eq_1;unfold tP at hT;have hX:=Bool.not_true;simp only[Tryz.f18,aD,an,ioB];refine s_g hG ?_;refine s_q hG ?_ ?_
 ·try simp only[ba]
  exact id
 refine ay (q_e [] ?_);exact Cn _ _ _
def tQ(B:aj):Tab:={types:= [(3,(.int .i64)),(22,(.slice .str)),(46,.str)],elems:= [],cons:= [],hint:= [],N:=13,base:=B}
theorem DT{B:aj}(hB:aC B):aI Tryz.prog (tQ B):=⟨⟨tc ty3 (tc dZ (tc iI (ae))),af,by simp only[tQ,ioB];omega⟩,bI rfl,by kernel_rfl⟩
def Ap:Con:=fun l os=>match l,os with
 | [.z (.slice .str) p,.z (.int .i64) i],[]=>some (GL QK p/\0<=i,[.z .str (aU (cf (nl p) i.toNat))],[])
 |_,_=>none
theorem LD{B:aj}(hB:aC B):Valid B Tryz.prog 63 Ap:=by
 refine ab (DT hB).tab Tryz.func63 rfl rfl rfl ?_;intro args os C rs os' hc hC;unfold Ap at hc;split at hc;case h_2=>cases hc
 rename_i p i;cases hc;refine v_h (DT hB) fun X hP hT hr hG=> ?_;have hU:=tQ.eq_1;unfold tQ at hT;have hX:=Bool.not_true;simp only[Tryz.f63,aD,an,ioB];obtain⟨hp,hi⟩:=hC;obtain⟨n,rfl⟩:=Int.eq_ofNat_of_zero_le hi;rw[Int.toNat_natCast];refine s_g hG ?_;refine ak (s_g hG ?_);refine ao ?_ ?_
 ·intro hb0;try simp only[bt] at hb0
  refine s_q hG ?_ ?_
  ·(try simp only[ba]);exact⟨by omega,hb0⟩
  refine ay (az ?_);refine q_e [] ?_;exact oX hp (by omega)
 ·intro hb0;try simp only[bf] at hb0
  refine aq (ah ?_);refine s_g hG ?_;refine ay (q_e [] ?_);exact OC (by omega)
def tS(B:aj):Tab:={types:= [(3,(.int .i64)),(22,(.slice .str)),(46,.str)],elems:= [],cons:= [],hint:= [],N:=21,base:=B}
theorem DU{B:aj}(hB:aC B):aI Tryz.prog (tS B):=⟨⟨tc ty3 (tc dZ (tc iI (ae))),af,by simp only[tS,ioB];omega⟩,bI rfl,by kernel_rfl⟩
def iM:Con:=fun l os=>match l,os with
 | [.z (.slice .str) p],[]=>some (GL QK p/\p.length<=1000000000,[.z (.slice .str) (txP (aP (nl p)))],[])
 |_,_=>none
theorem jE{B:aj}(hB:aC B):Valid B Tryz.prog 64 iM:=by
 refine ab (DU hB).tab Tryz.func64 rfl rfl rfl ?_;intro args os C rs os' hc hC;unfold iM at hc;split at hc;case h_2=>cases hc
 rename_i p;cases hc;refine v_h (DU hB) fun X hP hT hr hG=> ?_;have hU:=tS.eq_1;unfold tS at hT;have hX:=Bool.not_true;simp only[Tryz.f64,aD,an,ioB];obtain⟨l0,rfl,hl0⟩:=hC.1.ex;have hn:=hC.2;rw[aY] at hn;rw[bY];refine s_g hG ?_;refine ak (ar ?_);refine bj (fun(z:List Rat)=>(⟨[(0,.l (.z (.slice .str) (txP z))),(2,.l (.val (.slice none 0 0)))],[]⟩:aa)) (fun z=>z.length<=l0.length/\(∀ x∈z,lq x<=QK)/\aP z=aP l0) (fun z=>z.length) l0 ?_ ?_ ?_;·simp only[ml0,ml1,Nat.reduceLT,Nat.reduceEqDiff,Nat.reduceAdd,Nat.reduceMul,Nat.reduceSub,Nat.reduceLeDiff,Nat.reduceBEq,Nat.reduceBNe,reduceIte,reduceDIte,reduceCtorEq]
 ·exact⟨Nat.le_refl _,hl0,rfl⟩
 ·rintro l ⟨g1,g2,g3⟩;try dsimp only at g1 g2 g3
  refine ak (s_q hG ?_ ?_)
  ·(try simp only[ba]);exact⟨id,id,fun h=>FV (l:=l) (by omega) h,id⟩
  refine ao ?_ ?_
  ·intro hb0;(try simp only[bt] at hb0);have ht:=Rq (l:=l) (by omega) hb0.1 hb0.2;obtain⟨n1,n2,n3,n4,n5⟩:=FW (by omega) g1 g2 g3 ht;refine aq (ah ?_);refine ar (ag hG ?_ ?_)
   ·(try simp only[ba]);rw[aY,bW (by omega)];omega
   refine aK ?_;show ∃ z,_;refine q_l ?_;exact⟨l.dropLast,n1,n2,n3,n4,n5⟩
  ·intro hb0;(try simp only[bf] at hb0);have ht:=Rr (l:=l) (by omega) hb0;refine aZ (aB ?_);refine av (au ?_);refine ah (s_g hG ?_);refine ay (q_e [] ?_);rw[<- g3,ht]
def tT(B:aj):Tab:={types:= [(3,(.int .i64)),(22,(.slice .str)),(46,.str)],elems:= [(22,46)],cons:= [(62,Iz),(63,Ap),(64,iM)],hint:= [27],N:=31,base:=B}
theorem DV{B:aj}(hB:aC B):aI Tryz.prog (tT B):=⟨⟨tc ty3 (tc dZ (tc iI (ae))),aT (by kernel_rfl) (af),by simp only[tT,ioB];omega⟩,aG (cc Tryz.func62 (KW hB) (cc Tryz.func63 (LD hB) (cc Tryz.func64 (jE hB) (aA)))),by kernel_rfl⟩
def mv:Con:=fun l os=>match l,os with
 | [.z (.slice .str) p,.z (.slice .str) q],[]=>some (GL QK2 p/\GL QK2 q/\p.length<=1000000/\q.length<=1000000,[.z (.slice .str) (txP (bq (· + ·) (nl p) (nl q)))],[])
 |_,_=>none
theorem qt{B:aj}(hB:aC B):Valid B Tryz.prog 20 mv:=by
 refine ab (DV hB).tab Tryz.func20 rfl rfl rfl ?_;intro args os C rs os' hc hC;unfold mv at hc;split at hc;case h_2=>cases hc
 rename_i p q;cases hc;refine v_h (DV hB) fun X hP hT hr hG=> ?_;have hU:=tT.eq_1;unfold tT at hT;have hX:=ai @Iz.eq_1<|ai @Ap.eq_1<| @iM.eq_1;simp only[Tryz.f20,aD,an,ioB];obtain⟨hp,hq,hl1,hl2⟩:=hC;refine s_g hG ?_;refine s_g hG ?_;refine ak (s_g hG ?_);refine ar (bj (fun(z:Nat)=>(⟨[(0,.l (.z (.slice .str) p)),(1,.l (.z (.slice .str) q)),(4,.l (.val (.slice none 0 0))),(5,.l (.ownS 28)),(6,.l (.z (.int .i64) (z:Int)))],[(28,.arr .str 46 (txP (bU (· + ·) (nl p) (nl q) z)))]⟩:aa)) (fun z=>z<=max p.length q.length) (fun z=>max p.length q.length-z) 0 ?_ ?_ ?_);·refine q_l ?_;exact⟨rfl,by unfold ioB;omega,rfl⟩
 ·omega
 ·rintro k g1;try dsimp only at g1
  refine ak (s_g hG ?_);refine ao ?_ ?_
  ·intro hb0;have hk:=Ue hb0;refine aq (ah ?_);refine ak (ar ?_);refine ag hG ?_ ?_
   ·(try simp only[ba]);exact F1 hp hq (by omega)
   (refine aK (ah ?_);refine ag hG ?_ ?_;·exact tt9);show ∃ z,_;refine q_l ?_;exact FX (by omega) (by omega)
  ·intro hb0;have hk:=Uf hb0;refine aZ (aB ?_);refine av (au ?_);refine ah (s_q hG ?_ ?_)
   ·(try simp only[ba]);exact⟨KC hp hq k,by rw[aY,dn];omega⟩
   refine ay (q_e [] ?_);exact OD g1 hk
def tU(B:aj):Tab:={types:= [(3,(.int .i64)),(22,(.slice .str)),(46,.str)],elems:= [(22,46)],cons:= [(64,iM),(84,re)],hint:= [20],N:=24,base:=B}
theorem DW{B:aj}(hB:aC B):aI Tryz.prog (tU B):=⟨⟨tc ty3 (tc dZ (tc iI (ae))),aT (by kernel_rfl) (af),by simp only[tU,ioB];omega⟩,aG (cc Tryz.func64 (jE hB) (cc Tryz.func84 (qe hB) (aA))),by kernel_rfl⟩
def iu:Con:=fun l os=>match l,os with
 | [.z .str c,.z (.slice .str) p],[]=>some (GQ QK2 c/\GL QK2 p/\p.length<=1000000,[.z (.slice .str) (txP (b9 (bm c) (nl p)))],[])
 |_,_=>none
theorem nk{B:aj}(hB:aC B):Valid B Tryz.prog 65 iu:=by
 refine ab (DW hB).tab Tryz.func65 rfl rfl rfl ?_;intro args os C rs os' hc hC;unfold iu at hc;split at hc;case h_2=>cases hc
 rename_i c p;cases hc;refine v_h (DW hB) fun X hP hT hr hG=> ?_;have hU:=tU.eq_1;unfold tU at hT;have hX:=ai @re.eq_1<| @iM.eq_1;simp only[Tryz.f65,aD,an,ioB];obtain⟨hc,hp,hl1⟩:=hC;refine s_g hG ?_;refine s_g hG ?_;refine ak (s_g hG ?_);refine ar (bj (fun(z:Nat)=>(⟨[(0,.l (.z .str c)),(1,.l (.z (.slice .str) p)),(4,.l (.val (.slice none 0 0))),(5,.l (.ownS 21)),(6,.l (.z (.int .i64) (z:Int)))],[(21,.arr .str 46 (txP (((nl p).take z).map fun x=>bm c*x)))]⟩:aa)) (fun z=>z<=p.length) (fun z=>p.length-z) 0 ?_ ?_ ?_);·refine q_l ?_;exact⟨rfl,by unfold ioB;omega,rfl⟩
 ·omega
 ·rintro k g1;try dsimp only at g1
  refine ak (s_g hG ?_);refine ao ?_ ?_
  ·intro hb0;(try simp only[bt] at hb0);(have hk:k<p.length:=by have h9:(k:Int)<(p.length:Int):=hb0;omega);refine aq (ah ?_);refine ak (ar ?_);refine ag hG ?_ ?_
   ·(try simp only[ba]);exact Cj hc hp hl1 hk
   (refine aK (ah ?_);refine ag hG ?_ ?_;·exact tt9);show ∃ z,_;refine q_l ?_;exact Ch hp hk hl1
  ·intro hb0;(try simp only[bf] at hb0);(have hk: ¬k<p.length:=by have h9: ¬ (k:Int)<(p.length:Int):=hb0;omega);refine aZ (aB ?_);refine av (au ?_);refine ah (s_q hG ?_ ?_)
   ·(try simp only[ba]);exact⟨FY hc hp k,by rw[aY,List.length_map,List.length_take,gN];omega⟩
   refine ay (q_e [] ?_);exact KD hk
def tV(B:aj):Tab:={types:= [(3,(.int .i64)),(22,(.slice .str))],elems:= [(22,46)],cons:= [(64,iM)],hint:= [13],N:=19,base:=B}
theorem DX{B:aj}(hB:aC B):aI Tryz.prog (tV B):=⟨⟨tc ty3 (tc dZ (ae)),aT (by kernel_rfl) (af),by simp only[tV,ioB];omega⟩,aG (cc Tryz.func64 (jE hB) (aA)),by kernel_rfl⟩
def nm:Con:=fun l os=>match l,os with
 | [.z (.slice .str) p,.z (.int .i64) n],[]=>some (GL QK p/\0<=n/\n<=1000000/\p.length<=1000000,[.z (.slice .str) (txP (dj n.toNat (nl p)))],[])
 |_,_=>none
theorem yJ{B:aj}(hB:aC B):Valid B Tryz.prog 66 nm:=by
 refine ab (DX hB).tab Tryz.func66 rfl rfl rfl ?_;intro args os C rs os' hc hC;unfold nm at hc;split at hc;case h_2=>cases hc
 rename_i p n;cases hc;refine v_h (DX hB) fun X hP hT hr hG=> ?_;have hU:=tV.eq_1;unfold tV at hT;have hX:= @iM.eq_1;simp only[Tryz.f66,aD,an,ioB];obtain⟨hp,hn1,hn2,hl1⟩:=hC;obtain⟨n,rfl⟩:=Int.eq_ofNat_of_zero_le hn1;rw[Int.toNat_natCast];have hn3:n<=1000000:=by have h9:(n:Int)<=1000000:=hn2;omega
 refine s_g hG ?_;refine s_g hG ?_;refine ak (s_g hG ?_);refine ar (bj (fun(z:Nat)=>(⟨[(0,.l (.z (.slice .str) p)),(1,.l (.z (.int .i64) (n:Int))),(4,.l (.val (.slice none 0 0))),(5,.l (.ownS 14)),(6,.l (.z (.int .i64) (z:Int)))],[(14,.arr .str 46 (List.replicate z [48]))]⟩:aa)) (fun z=>z<=n) (fun z=>n-z) 0 ?_ ?_ ?_);·refine q_l ?_;exact⟨rfl,by unfold ioB;omega,rfl⟩
 ·omega
 ·rintro k g1;try dsimp only at g1
  refine ak (s_g hG ?_);refine ao ?_ ?_
  ·intro hb0;(try simp only[bt] at hb0);refine aq (ah ?_);refine ak (ar ?_);refine ag hG ?_ ?_
   ·(try simp only[ba]);exact lj (by rw[List.length_replicate];omega)
   (refine aK (ah ?_);refine ag hG ?_ ?_;·exact tt9);show ∃ z,_;refine q_l ?_;exact⟨k+1,wo,OE k,by omega,by omega⟩
  ·intro hb0;(try simp only[bf] at hb0);(obtain rfl:k=n:=by have h9: ¬ (k:Int)<(n:Int):=hb0;omega);refine aZ (aB ?_);refine av (au ?_);refine ah (s_q hG ?_ ?_)
   ·(try simp only[ba]);exact⟨lj (by rw[List.length_replicate];omega),FZ hp k,by rw[List.length_append,List.length_replicate];omega⟩
   refine ay (q_e [] ?_);exact KF
def tW(B:aj):Tab:={types:= [(22,(.slice .str)),(46,.str)],elems:= [],cons:= [(20,mv),(65,iu)],hint:= [],N:=9,base:=B}
theorem DY{B:aj}(hB:aC B):aI Tryz.prog (tW B):=⟨⟨tc dZ (tc iI (ae)),af,by simp only[tW,ioB];omega⟩,aG (cc Tryz.func20 (qt hB) (cc Tryz.func65 (nk hB) (aA))),by kernel_rfl⟩
def Aq:Con:=fun l os=>match l,os with
 | [.z (.slice .str) p,.z (.slice .str) q],[]=>some (GL QK2 p/\GL 1000000 q/\p.length<=1000000/\q.length<=1000000,[.z (.slice .str) (txP (bq (· - ·) (nl p) (nl q)))],[])
 |_,_=>none
theorem LF{B:aj}(hB:aC B):Valid B Tryz.prog 21 Aq:=by
 refine ab (DY hB).tab Tryz.func21 rfl rfl rfl ?_;intro args os C rs os' hc hC;unfold Aq at hc;split at hc;case h_2=>cases hc
 rename_i p q;cases hc;refine v_h (DY hB) fun X hP hT hr hG=> ?_;have hU:=tW.eq_1;unfold tW at hT;have hX:=ai @mv.eq_1<| @iu.eq_1;simp only[Tryz.f21,aD,an,ioB];refine s_g hG ?_;refine s_q hG ?_ ?_
 ·try simp only[ba]
  exact KH hC
 refine ay (q_e [] ?_);rw[bY,Rt,Ru]
def tX(B:aj):Tab:={types:= [(3,(.int .i64)),(22,(.slice .str)),(46,.str)],elems:= [],cons:= [(20,mv),(65,iu),(66,nm)],hint:= [],N:=24,base:=B}
theorem DZ{B:aj}(hB:aC B):aI Tryz.prog (tX B):=⟨⟨tc ty3 (tc dZ (tc iI (ae))),af,by simp only[tX,ioB];omega⟩,aG (cc Tryz.func20 (qt hB) (cc Tryz.func65 (nk hB) (cc Tryz.func66 (yJ hB) (aA)))),by kernel_rfl⟩
def Ar:Con:=fun l os=>match l,os with
 | [.z (.slice .str) p,.z (.slice .str) q],[]=>some (OI p q,[.z (.slice .str) (txP (fu (nl p) (nl q) p.length))],[])
 |_,_=>none
theorem LG{B:aj}(hB:aC B):Valid B Tryz.prog 22 Ar:=by
 refine ab (DZ hB).tab Tryz.func22 rfl rfl rfl ?_;intro args os C rs os' hc hC;unfold Ar at hc;split at hc;case h_2=>cases hc
 rename_i p q;cases hc;refine v_h (DZ hB) fun X hP hT hr hG=> ?_;have hU:=tX.eq_1;unfold tX at hT;have hX:=ai @mv.eq_1<|ai @iu.eq_1<| @nm.eq_1;simp only[Tryz.f22,aD,an,ioB];have hl1:=hC.2.2.1;refine s_g hG ?_;refine s_g hG ?_;refine ak (s_g hG ?_);refine ar (bj (fun(z:Nat)=>(⟨[(0,.l (.z (.slice .str) p)),(1,.l (.z (.slice .str) q)),(4,.l (.val (.slice none 0 0))),(5,.l (.z (.slice .str) (txP (fu (nl p) (nl q) z)))),(6,.l (.z (.int .i64) (z:Int)))],[]⟩:aa)) (fun z=>z<=p.length) (fun z=>p.length-z) 0 ?_ ?_ ?_);·refine q_l ?_;exact⟨rfl,rfl⟩
 ·omega
 ·rintro k g1;try dsimp only at g1
  refine ak (s_g hG ?_);refine ao ?_ ?_
  ·intro hb0;(try simp only[bt] at hb0);(have hk:k<p.length:=by have h9:(k:Int)<(p.length:Int):=hb0;omega);refine aq (ah ?_);refine ak (ar ?_);refine ag hG ?_ ?_
   ·(try simp only[ba]);exact⟨⟨by omega,hb0⟩,KG hC hk⟩
   (refine aK (ah ?_);refine ag hG ?_ ?_;·exact tt9);show ∃ z,_;refine q_l ?_;obtain⟨w,w1,w2,w3⟩:=F0 hC hk;exact⟨w,w2,w1,w3⟩
  ·intro hb0;(try simp only[bf] at hb0);(have hk: ¬k<p.length:=by have h9: ¬ (k:Int)<(p.length:Int):=hb0;omega);refine aZ (aB ?_);refine av (au ?_);refine ah (s_g hG ?_);refine ay (q_e [] ?_);exact OJ g1 hk
end Go.Proofs.YtdojbabpnaifoaaGreatDoor
end