/- Merged by a program out of several texts. -/
import Derived.Test.YtdojbabpnaifoaaGreatDoorU3
import Derived.Test.YtdojbabpnaifoaaGreatDoorU2
import Derived.Test.YtdojbabpnaifoaaGreatDoorProg
import Derived.Test.YtdojbabpnaifoaaGreatDoorU4
import Derived.Deep.LoopGhost
import Derived.Lib.Walk
import Derived.Lib.SliceRun
import Derived.KernelRfl
set_option linter.all false
set_option linter.unusedSimpArgs false
set_option linter.unusedVariables false
set_option maxRecDepth 100000
section
namespace Go.Proofs.YtdojbabpnaifoaaGreatDoor
open Go Go.Cm Go.Proofs
def qh(B:ag):Tab:={types:= [(3,(.int .i64)),(5,(.int .u8)),(9, .str)],elems:= [],cons:= [],hint:= [],N:=24,base:=B}
theorem AG{B:ag}(hB:aB B):aG Tryz.prog (qh B):=⟨⟨tc ty3 (tc ty5 (tc ty9 (ae))),af,by simp only[qh,ioB];omega⟩,bH rfl,by kernel_rfl⟩
def F9:Con:=fun l os=>match l,os with
 | [.z .str s], []=>some (s.length<=QL, [.z .str (tN s), .z .str (tD s), .z .bool (ca s)], [])
 |_,_=>none
theorem Ih{B:ag}(hB:aB B):Valid B Tryz.prog 134 F9:=by
 refine ab (AG hB).tab Tryz.func134 rfl rfl rfl ?_;intro args os C rs os' hc hC;unfold F9 at hc;split at hc;case h_2=>cases hc
 rename_i s;cases hc;refine v_h (AG hB) fun X hP hT hr hG=> ?_;have hU:=qh.eq_1;unfold qh at hT;have hX:=Bool.not_true;simp only[Tryz.f134,aC,al,ioB];have hl:s.length<=1000000000:=hC;refine s_g hG ?_;refine ak ?_;refine s_g hG ?_;refine ax ?_;refine br (fun(z:Nat)=>(⟨[(0, .l (.z .str s)),(2, .l (.z .str [])),(3, .l (.z .str [])),(4, .l (.z .bool false)),(5, .l (.z (.int .i64) (z:Int)))], []⟩:aa)) (fun z=>z<=s.length/\(s.take z).all (· !=47)=true) (fun z=>s.length-z) 0 ?_ ?_ ?_;·refine q_l ?_;rfl
 ·exact⟨by omega,by simp⟩
 ·rintro k ⟨g1,g2⟩;try dsimp only at g1 g2
  refine ak ?_;refine s_g hG ?_;refine ao ?_ ?_
  ·intro hb0;(try simp only[bt] at hb0);(have hk:k<s.length:=by have h9:(k:Int)<(s.length:Int):=hb0;omega);refine aq ?_;refine aj ?_;refine ak ?_;refine ax ?_;refine s_g hG ?_;refine ao ?_ ?_
   ·intro hb1;(try simp only[bt] at hb1);refine s_d hG ?_ ?_
    ·(try simp only[ba]);exact H4 hl hk
    refine av ?_;refine bD ?_;refine aw ?_;refine eF ?_;refine bD ?_;refine aw ?_;refine q_e [] ?_;exact An hl hk g2 (Fa.1 hb1)
   ·(intro hb1;(try simp only[bf] at hb1);refine aq ?_;refine aL ?_;refine aj ?_;refine ah hG ?_ ?_;·first|trivial|omega|(simp;done)|(simp;omega));show ∃ z,_;refine q_l ?_;exact⟨k+1,wi (by omega) (by omega),hk,HW hk g2 (fun e=>hb1 (Fa.2 e)),by omega⟩
  ·intro hb0;(try simp only[bf] at hb0);(have hk: ¬k<s.length:=by have h9: ¬ (k:Int)<(s.length:Int):=hb0;omega);refine bh ?_;refine aE ?_;refine az ?_;refine ay ?_;refine aj ?_;refine s_g hG ?_;refine av ?_;refine q_e [] ?_;exact LL hk g2
def qk(B:ag):Tab:={types:= [(9, .str)],elems:= [],cons:= [(134,F9)],hint:= [],N:=15,base:=B}
theorem AH{B:ag}(hB:aB B):aG Tryz.prog (qk B):=⟨⟨tc ty9 (ae),af,by simp only[qk,ioB];omega⟩,aD (cc Tryz.func134 (Ih hB) (au)),by kernel_rfl⟩
def jd:Con:=fun l os=>match l,os with
 | [.z .str q], []=>some (q.length<=QL, [.z .str (tN q), .z .str (tD q)], [])
 |_,_=>none
theorem oH{B:ag}(hB:aB B):Valid B Tryz.prog 92 jd:=by
 refine ab (AH hB).tab Tryz.func92 rfl rfl rfl ?_;intro args os C rs os' hc hC;unfold jd at hc;split at hc;case h_2=>cases hc
 rename_i q;cases hc;refine v_h (AH hB) fun X hP hT hr hG=> ?_;have hU:=qk.eq_1;unfold qk at hT;have hX:= @F9.eq_1;simp only[Tryz.f92,aC,al,ioB];refine s_g hG ?_;refine s_q hG ?_ ?_
 ·try simp only[ba]
  exact hC
 refine s_g hG ?_;refine av ?_;refine q_e [] ?_;trivial
def qm(B:ag):Tab:={types:= [(3,(.int .i64)),(9, .str),(46, .str)],elems:= [],cons:= [(92,jd),(93,nI)],hint:= [],N:=22,base:=B}
theorem AJ{B:ag}(hB:aB B):aG Tryz.prog (qm B):=⟨⟨tc ty3 (tc ty9 (tc gr (ae))),af,by simp only[qm,ioB];omega⟩,aD (cc Tryz.func92 (oH hB) (cc Tryz.func93 (L9 hB) (au))),by kernel_rfl⟩
def yn:Con:=fun l os=>match l,os with
 | [.z .str q, .z (.int .i64) k], []=>some (eU q, [.z .bool (decide (cB (an (tN q))<=k/\cB (an (tD q))<=k))], [])
 |_,_=>none
theorem Ii{B:ag}(hB:aB B):Valid B Tryz.prog 39 yn:=by
 refine ab (AJ hB).tab Tryz.func39 rfl rfl rfl ?_;intro args os C rs os' hc hC;unfold yn at hc;split at hc;case h_2=>cases hc
 rename_i q k;cases hc;refine v_h (AJ hB) fun X hP hT hr hG=> ?_;have hU:=qm.eq_1;unfold qm at hT;have hX:=ai @jd.eq_1<| @nI.eq_1;simp only[Tryz.f39,aC,al,ioB];refine s_g hG ?_;refine s_q hG ?_ ?_
 ·try simp only[ba]
  exact hC.2.2
 refine s_q hG ?_ ?_
 ·try simp only[ba]
  exact DE hC
 refine av ?_;refine q_e [] ?_;exact(Bool.decide_and _ _).symm
def qn(B:ag):Tab:={types:= [(3,(.int .i64)),(9, .str)],elems:= [],cons:= [(121,F6),(122,F8),(162,yf),(163,wv)],hint:= [],N:=33,base:=B}
theorem AK{B:ag}(hB:aB B):aG Tryz.prog (qn B):=⟨⟨tc ty3 (tc ty9 (ae)),af,by simp only[qn,ioB];omega⟩,aD (cc Tryz.func121 (My hB) (cc Tryz.func122 (Mz hB) (cc Tryz.func162 (Mw hB) (cc Tryz.func163 (AD hB) (au))))),by kernel_rfl⟩
def jo:Con:=fun l os=>match l,os with
 | [.z .str n, .z .str d], []=>some (MkR n d, [.z .str (aS (Rat.divInt (an n) (an d)))], [])
 |_,_=>none
theorem lZ{B:ag}(hB:aB B):Valid B Tryz.prog 116 jo:=by
 refine ab (AK hB).tab Tryz.func116 rfl rfl rfl ?_;intro args os C rs os' hc hC;unfold jo at hc;split at hc;case h_2=>cases hc
 rename_i n d;cases hc;refine v_h (AK hB) fun X hP hT hr hG=> ?_;have hU:=qn.eq_1;unfold qn at hT;have hX:=ai @F6.eq_1<|ai @F8.eq_1<|ai @wv.eq_1<| @yf.eq_1;simp only[Tryz.f116,aC,al,ioB];refine s_g hG ?_;refine s_q hG ?_ ?_
 ·try simp only[ba]
  exact oE hC
 refine ck (fun(z:Unit)=>(⟨[(0, .l (.z .str n)),(1, .l (.z .str d)),(4, .l (.z .str [])),(5, .l (.z .str (Lib.itoa (dB (an n) (an d)))))], []⟩:aa)) (fun z=>True) ?_ ?_
 ·refine s_q hG ?_ ?_
  ·(try simp only[ba]);exact hC.2.1.1
  refine ao ?_ ?_
  ·intro hb0;(try simp only[bt] at hb0);refine ah hG ?_ ?_
   ·(try simp only[ba]);exact HY hC
   show ∃ z,_;refine q_l ?_;first|exact E6 (qd.1 hb0)|exact E7 (fun e=>hb0 (qd.2 e))
  ·intro hb0;(try simp only[bf] at hb0);refine aq ?_;show ∃ z,_;refine q_l ?_;first|exact E6 (qd.1 hb0)|exact E7 (fun e=>hb0 (qd.2 e))
 rintro⟨⟩-;refine s_q hG ?_ ?_
 ·try simp only[ba]
  exact we hC
 refine s_q hG ?_ ?_
 ·try simp only[ba]
  exact HZ hC
 refine ak ?_;refine s_g hG ?_;refine ao ?_ ?_
 ·intro hb1;try simp only[bt] at hb1
  refine s_g hG ?_;refine av ?_;refine aw ?_;refine q_e [] ?_;exact N7 hC hb1
 ·intro hb1;try simp only[bf] at hb1
  refine aq ?_;refine aj ?_;refine s_q hG ?_ ?_
  ·(try simp only[ba]);exact H0 hC
  refine av ?_;refine q_e [] ?_;exact N8 hC hb1
def qo(B:ag):Tab:={types:= [(3,(.int .i64)),(9, .str)],elems:= [],cons:= [(116,jo),(126,pR)],hint:= [],N:=10,base:=B}
theorem AL{B:ag}(hB:aB B):aG Tryz.prog (qo B):=⟨⟨tc ty3 (tc ty9 (ae)),af,by simp only[qo,ioB];omega⟩,aD (cc Tryz.func116 (lZ hB) (cc Tryz.func126 (lB hB) (au))),by kernel_rfl⟩
def OH:Con:=fun l os=>match l,os with
 | [.z (.int .i64) n, .z (.int .i64) d], []=>some (I64 n/\I64 d/\d≠0, [.z .str (aS (Rat.divInt n d))], [])
 |_,_=>none
theorem Ij{B:ag}(hB:aB B):Valid B Tryz.prog 85 OH:=by
 refine ab (AL hB).tab Tryz.func85 rfl rfl rfl ?_;intro args os C rs os' hc hC;unfold OH at hc;split at hc;case h_2=>cases hc
 rename_i n d;cases hc;refine v_h (AL hB) fun X hP hT hr hG=> ?_;have hU:=qo.eq_1;unfold qo at hT;have hX:=ai @jo.eq_1<| @pR.eq_1;simp only[Tryz.f85,aC,al,ioB];refine s_g hG ?_;refine s_q hG ?_ ?_
 ·try simp only[ba]
  exact LM hC
 refine av ?_;refine q_e [] ?_;exact N9
def qp(B:ag):Tab:={types:= [(9, .str),(46, .str)],elems:= [],cons:= [(92,jd),(115,wx),(116,jo),(117,pK)],hint:= [],N:=39,base:=B}
theorem AM{B:ag}(hB:aB B):aG Tryz.prog (qp B):=⟨⟨tc ty9 (tc gr (ae)),af,by simp only[qp,ioB];omega⟩,aD (cc Tryz.func92 (oH hB) (cc Tryz.func115 (AF hB) (cc Tryz.func116 (lZ hB) (cc Tryz.func117 (uE hB) (au))))),by kernel_rfl⟩
def Ga:Con:=fun l os=>match l,os with
 | [.z .str a, .z .str b], []=>some (GQ QK a/\GQ QK b, [.z .str (aS (bg a+bg b))], [])
 |_,_=>none
theorem Ik{B:ag}(hB:aB B):Valid B Tryz.prog 62 Ga:=by
 refine ab (AM hB).tab Tryz.func62 rfl rfl rfl ?_;intro args os C rs os' hc hC;unfold Ga at hc;split at hc;case h_2=>cases hc
 rename_i a b;cases hc;refine v_h (AM hB) fun X hP hT hr hG=> ?_;have hU:=qp.eq_1;unfold qp at hT;have hX:=ai @jo.eq_1<|ai @jd.eq_1<|ai @wx.eq_1<| @pK.eq_1;simp only[Tryz.f62,aC,al,ioB];refine s_g hG ?_;refine s_q hG ?_ ?_
 ·try simp only[ba]
  exact E8 hC.1
 refine s_q hG ?_ ?_
 ·try simp only[ba]
  exact E8 hC.2
 refine ak ?_;refine s_g hG ?_;refine ao ?_ ?_
 ·intro hb0;try simp only[bt] at hb0
  refine s_q hG ?_ ?_
  ·(try simp only[ba]);exact⟨(ga hC.1).1,(ga hC.2).1⟩
  refine av ?_;refine aw ?_;refine q_e [] ?_;exact LN hC.1 hC.2 hb0
 ·intro hb0;try simp only[bf] at hb0
  refine aq ?_;refine aj ?_;refine s_q hG ?_ ?_
  ·(try simp only[ba]);exact H1 hC.1 hC.2
  refine av ?_;refine q_e [] ?_;exact LP hC.1 hC.2
def qq(B:ag):Tab:={types:= [(9, .str),(46, .str)],elems:= [],cons:= [(92,jd),(116,jo),(117,pK)],hint:= [],N:=35,base:=B}
theorem AN{B:ag}(hB:aB B):aG Tryz.prog (qq B):=⟨⟨tc ty9 (tc gr (ae)),af,by simp only[qq,ioB];omega⟩,aD (cc Tryz.func92 (oH hB) (cc Tryz.func116 (lZ hB) (cc Tryz.func117 (uE hB) (au)))),by kernel_rfl⟩
def Gb:Con:=fun l os=>match l,os with
 | [.z .str a, .z .str b], []=>some (GQ QK a/\GQ QK b, [.z .str (aS (bg a*bg b))], [])
 |_,_=>none
theorem Il{B:ag}(hB:aB B):Valid B Tryz.prog 84 Gb:=by
 refine ab (AN hB).tab Tryz.func84 rfl rfl rfl ?_;intro args os C rs os' hc hC;unfold Gb at hc;split at hc;case h_2=>cases hc
 rename_i a b;cases hc;refine v_h (AN hB) fun X hP hT hr hG=> ?_;have hU:=qq.eq_1;unfold qq at hT;have hX:=ai @jo.eq_1<|ai @jd.eq_1<| @pK.eq_1;simp only[Tryz.f84,aC,al,ioB];refine s_g hG ?_;refine s_q hG ?_ ?_
 ·try simp only[ba]
  exact E8 hC.1
 refine s_q hG ?_ ?_
 ·try simp only[ba]
  exact E8 hC.2
 refine ak ?_;refine s_g hG ?_;refine ao ?_ ?_
 ·intro hb0;try simp only[bt] at hb0
  refine s_q hG ?_ ?_
  ·(try simp only[ba]);exact⟨(ga hC.1).1,(ga hC.2).1⟩
  refine av ?_;refine aw ?_;refine q_e [] ?_;exact LO hC.1 hC.2 hb0
 ·intro hb0;try simp only[bf] at hb0
  refine aq ?_;refine aj ?_;refine s_q hG ?_ ?_
  ·(try simp only[ba]);exact H2 hC.1 hC.2
  refine av ?_;refine q_e [] ?_;exact LQ hC.1 hC.2
def qs(B:ag):Tab:={types:= [(3,(.int .i64)),(22,(.slice .str)),(46, .str)],elems:= [],cons:= [],hint:= [],N:=26,base:=B}
theorem AO{B:ag}(hB:aB B):aG Tryz.prog (qs B):=⟨⟨tc ty3 (tc gB (tc gr (ae))),af,by simp only[qs,ioB];omega⟩,bH rfl,by kernel_rfl⟩
def oI:Con:=fun l os=>match l,os with
 | [.z (.slice .str) p, .z (.slice .str) q], []=>some (p.length<=QL/\q.length<=QL, [.z .bool (decide (p=q))], [])
 |_,_=>none
theorem wy{B:ag}(hB:aB B):Valid B Tryz.prog 28 oI:=by
 refine ab (AO hB).tab Tryz.func28 rfl rfl rfl ?_;intro args os C rs os' hc hC;unfold oI at hc;split at hc;case h_2=>cases hc
 rename_i p q;cases hc;refine v_h (AO hB) fun X hP hT hr hG=> ?_;have hU:=qs.eq_1;unfold qs at hT;have hX:=Bool.not_true;simp only[Tryz.f28,aC,al,ioB];have hl:p.length<=1000000000:=hC.1;refine s_g hG ?_;refine ak ?_;refine s_g hG ?_;refine ao ?_ ?_
 ·intro hb0;try simp only[bt] at hb0
  refine s_g hG ?_;refine av ?_;refine aw ?_;refine q_e [] ?_;exact LR hb0
 ·intro hb0;try simp only[bf] at hb0
  have he:p.length=q.length:=by have h9:(p.length:Int)=(q.length:Int):=hb0;omega
  refine aq ?_;refine aj ?_;refine ak ?_;refine s_g hG ?_;refine ax ?_;refine br (fun(z:Nat)=>(⟨[(0, .l (.z (.slice .str) p)),(1, .l (.z (.slice .str) q)),(4, .l (.z .bool false)),(5, .l (.z (.int .i64) (z:Int)))], []⟩:aa)) (fun z=>z<=p.length/\p.take z=q.take z) (fun z=>p.length-z) 0 ?_ ?_ ?_;·refine q_l ?_;rfl
  ·exact⟨by omega,rfl⟩
  ·rintro k ⟨g1,g2⟩;(try dsimp only at g1 g2);refine ak ?_;refine s_g hG ?_;refine ao ?_ ?_
   ·intro hb1;(try simp only[bt] at hb1);(have hk:k<p.length:=by have h9:(k:Int)<(p.length:Int):=hb1;omega);refine aq ?_;refine aj ?_;refine ak ?_;refine ax ?_;refine s_d hG ?_ ?_
    ·(try simp only[ba]);rw[<- he];exact⟨⟨by omega,hb1⟩,by omega,hb1⟩
    refine ao ?_ ?_;·intro hb2;(try simp only[bt] at hb2);refine s_g hG ?_;refine av ?_;refine bD ?_;refine aw ?_;refine eF ?_;refine bD ?_;refine aw ?_;refine q_e [] ?_;exact LS hb2
    ·(intro hb2;(try simp only[bf] at hb2);refine aq ?_;refine aL ?_;refine aj ?_;refine ah hG ?_ ?_;·first|trivial|omega|(simp;done)|(simp;omega));show ∃ z,_;refine q_l ?_;exact⟨k+1,wi (by omega) (by omega),hk,H3 he hk g2 hb2,by omega⟩
   ·intro hb1;(try simp only[bf] at hb1);(have hk: ¬k<p.length:=by have h9: ¬ (k:Int)<(p.length:Int):=hb1;omega);refine bh ?_;refine aE ?_;refine az ?_;refine ay ?_;refine aj ?_;refine s_g hG ?_;refine av ?_;refine q_e [] ?_;exact LU he hk g2
def yo:Con:=ji [some (.slice .str),some (.slice .str)] oI
theorem DN{B:ag}(hB:aB B):Valid B Tryz.prog 28 yo:=fz _ (wy hB)
def uF(B:ag):Tab:={types:= [(87,(.slice (.int .u32))),(161,(.int .u32)),(164,(.int .u64))],elems:= [(87,161)],cons:= [(193,wu)],hint:= [],N:=38,base:=B}
theorem MA{B:ag}(hB:aB B):aG Tryz.prog (uF B):=⟨⟨tc iz (tc fU (tc nw (ae))),aR (by kernel_rfl) (af),by simp only[uF,ioB];omega⟩,aD (cc Tryz.func193 (FS hB) (au)),by kernel_rfl⟩
def oJ:Con:=fun l os=>match l,os with
 | [.z (.slice (.int .u32)) m, .z (.int .u32) b], []=>some (Lim m/\zl b/\m.length<CAP, [.z (.slice (.int .u32)) (padL (valL m/b).toNat m.length), .z (.int .u32) (valL m%b)], [])
 |_,_=>none
theorem OI{B:ag}(hB:aB B):Valid B Tryz.prog 189 oJ:=by
 refine ab (MA hB).tab Tryz.func189 rfl rfl rfl ?_;intro args os C rs os' hc hC;unfold oJ at hc;split at hc;case h_2=>cases hc
 rename_i m b;cases hc;refine v_h (MA hB) fun X hP hT hr hG=> ?_;have hU:=uF.eq_1;unfold uF at hT;have hX:= @wu.eq_1;simp only[Tryz.f189,aC,al,ioB];refine s_g hG ?_;refine s_q hG ?_ ?_
 ·try simp only[ba]
  exact⟨by omega,by omega,by have:=hC.2.2;unfold CAP at this;unfold Cm.Roomy;omega⟩
 refine s_g hG ?_;refine ak ?_;refine s_g hG ?_;refine ax ?_;refine Ej hr (gf:=208) (caps:= [.z (.ptr (.slice (.int .u32))) m]) (items:=cT m) (by simp only[hT,uF,mx0,mx1,mx2,mx3,mx4,mx5,mx6,aV,bp,bF,aZ,bo,Ty.fieldTy,Ty.fieldOf,Nat.reduceLT,Nat.reduceEqDiff,Nat.reduceAdd,Nat.reduceMul,Nat.reduceSub,Nat.reduceLeDiff,Nat.reduceBEq,Nat.reduceBNe,reduceIte,reduceDIte,reduceCtorEq];try rfl) (by rfl) (by rw[hP];exact zC m) (by rfl) [3,6,7] (by rfl) (by simp only[hT,uF];try rfl) (fun(k:Nat) (z:Int×List Int)=>(⟨[(3, .l (.z (.ptr (.int .u32)) b)),(6, .l (.ownP 6 0)),(7, .l (.ownP 7 0))], [(6, .box 87 [.ownS 13]),(7, .box 164 [.z (.int .u64) z.1]),(13, .arr (.int .u32) 161 z.2)]⟩:aa)) (fun(k:Nat) (z:Int×List Int)=>kP m b k z.1 z.2) (0,List.replicate (List.length m) 0) ?_ ?_ ?_ ?_ ?_;·simp only[ml0,ml1,Nat.reduceLT,Nat.reduceEqDiff,Nat.reduceAdd,Nat.reduceMul,Nat.reduceSub,Nat.reduceLeDiff,Nat.reduceBEq,Nat.reduceBNe,reduceIte,reduceDIte,reduceCtorEq];simp
 ·exact zn hC.2.1
 ·intro k z;rfl
 ·intro k hk;rintro⟨r,out⟩ hz;try dsimp only at hz
  have hk:k<List.length m:=by simpa [cT] using hk
  refine⟨_,by simp only[hT,uF,cT,tE,mx0,mx1,mx2,mx3,mx4,mx5,mx6,aV,bp,bF,aZ,bo,Ty.fieldTy,Ty.fieldOf,Nat.reduceLT,Nat.reduceEqDiff,Nat.reduceAdd,Nat.reduceMul,Nat.reduceSub,Nat.reduceLeDiff,Nat.reduceBEq,Nat.reduceBNe,reduceIte,reduceDIte,reduceCtorEq,List.getElem_map,List.getElem_range];rfl,?_⟩;intro X' hP' hT';have hG':aG X'.P X'.T:=by rw[hP',hT'];exact hG.keep _
  rw[hT] at hT';refine ax ?_;refine ak ?_;refine nX hG' ?_ ?_;·first|trivial|omega|(simp;done)|(simp;omega)
  refine aj ?_;refine Ek hG' ?_ ?_
  ·(try simp only[ba]);have hl:=hz.1;exact⟨Eu hC.2.1,Eu hC.2.1,by omega,by omega⟩
  refine aL ?_;show ∃ z,_;simp only[ml0,ml1,Nat.reduceLT,Nat.reduceEqDiff,Nat.reduceAdd,Nat.reduceMul,Nat.reduceSub,Nat.reduceLeDiff,Nat.reduceBEq,Nat.reduceBNe,reduceIte,reduceDIte,reduceCtorEq];exact CX hC.1 hC.2.1 hk hz
 ·rintro⟨r,out⟩ hz;try dsimp only at hz
  rw[show List.length (cT m)=List.length m by simp[cT]] at hz;refine aL ?_;refine aj ?_;refine s_d hG ?_ ?_;·first|trivial|omega|(simp;done)|(simp;omega)
  refine av ?_;refine q_e [13] ?_;exact G7 hC.1 hC.2.1 hz
def Gc(B:ag):Tab:={types:= [(3,(.int .i64)),(87,(.slice (.int .u32))),(161,(.int .u32)),(164,(.int .u64))],elems:= [(87,161)],cons:= [],hint:= [],N:=41,base:=B}
theorem MB{B:ag}(hB:aB B):aG Tryz.prog (Gc B):=⟨⟨tc ty3 (tc iz (tc fU (tc nw (ae)))),aR (by kernel_rfl) (af),by simp only[Gc,ioB];omega⟩,bH rfl,by kernel_rfl⟩
def l4:Con:=fun l os=>match l,os with
 | [.z (.slice (.int .u32)) m, .z (.int .u32) b], []=>some (Lim m/\zm b/\m.length<CAP, [.own (.int .u32) 161 (padL (valL m*b).toNat (m.length+1))], [])
 |_,_=>none
theorem OJ{B:ag}(hB:aB B):Valid B Tryz.prog 190 l4:=by
 refine ab (MB hB).tab Tryz.func190 rfl rfl rfl ?_;intro args os C rs os' hc hC;unfold l4 at hc;split at hc;case h_2=>cases hc
 rename_i m b;cases hc;refine v_h (MB hB) fun X hP hT hr hG=> ?_;have hU:=Gc.eq_1;unfold Gc at hT;have hX:=Bool.not_true;simp only[Tryz.f190,aC,al,ioB];refine s_g hG ?_;refine s_q hG ?_ ?_
 ·try simp only[ba]
  have h1:List.length m<1000000000000:=hC.2.2;rw[wi (by omega) (by omega)];exact⟨by omega,by omega,by unfold Cm.Roomy;omega⟩
 refine s_g hG ?_;refine ak ?_;refine s_g hG ?_;refine ax ?_;refine br (fun(z:Nat×Int×List Int)=>(⟨[(1, .l (.z (.int .u32) b)),(5, .l (.ownS 13)),(6, .l (.z (.int .u64) z.2.1)),(14, .l (.z (.slice (.int .u32)) m)),(15, .l (.z (.int .i64) (List.length m:Int))),(16, .l (.z (.int .i64) (z.1:Int)))], [(13, .arr (.int .u32) 161 z.2.2)]⟩:aa)) (fun z=>jC m b z.1 z.2.1 z.2.2) (fun z=>List.length m-z.1) (0,0, []) ?_ ?_ ?_;·refine q_l ?_;exact⟨rfl,rfl⟩
 ·exact xn
 ·rintro⟨k,c,out⟩ hz;try dsimp only at hz
  refine s_g hG ?_;refine ak ?_;refine ao ?_ ?_
  ·intro hb0;(try simp only[bt] at hb0);refine aq ?_;refine aj ?_;refine ak ?_;refine ax ?_;refine s_q hG ?_ ?_
   ·(try simp only[ba]);exact⟨by omega,hb0⟩
   refine s_g hG ?_;refine ah hG ?_ ?_
   ·(try simp only[ba]);have h1:List.length m<1000000000000:=hC.2.2;have h2:=hz.2.1;exact⟨by decide,by unfold Cm.Roomy;omega,by decide⟩
   (refine aL ?_;refine aj ?_;refine ah hG ?_ ?_;·first|trivial|omega|(simp;done)|(simp;omega));show ∃ z,_;refine q_l ?_;exact zo hC.1 hC.2.2 hC.2.1 hb0 hz
  ·intro hb0;(try simp only[bf] at hb0);refine bh ?_;refine aE ?_;refine az ?_;refine ay ?_;refine aj ?_;refine s_q hG ?_ ?_
   ·(try simp only[ba]);have h1:List.length m<1000000000000:=hC.2.2;have h2:=hz.2.1;have h3:=hz.1;unfold Cm.Roomy;omega
   refine av ?_;refine q_e [] ?_;exact⟨trivial,CY hC.1 hC.2.1 hb0 hz⟩
def Gd(B:ag):Tab:={types:= [(2,(.int .i64)),(3,(.int .i64)),(87,(.slice (.int .u32))),(161,(.int .u32)),(164,(.int .u64))],elems:= [],cons:= [],hint:= [],N:=57,base:=B}
theorem MC{B:ag}(hB:aB B):aG Tryz.prog (Gd B):=⟨⟨tc ty2 (tc ty3 (tc iz (tc fU (tc nw (ae))))),af,by simp only[Gd,ioB];omega⟩,bH rfl,by kernel_rfl⟩
def wz:Con:=fun l os=>match l,os with
 | [.ownS 10000000, .z (.slice (.int .u32)) o, .z (.int .u64) q], [.win (.int .u32) 161 pre xs []]=>some (Lim xs/\Lim o/\zm q/\o.length+1<=xs.length/\o.length<CAP, [.z .bool (decide (valL (xs.take (o.length+1))<q*valL o))], [.win (.int .u32) 161 pre (put xs (o.length+1) (valL (xs.take (o.length+1))-q*valL o)) []])
 |_,_=>none
theorem OK{B:ag}(hB:aB B):Valid B Tryz.prog 191 wz:=by
 refine ab (MC hB).tab Tryz.func191 rfl rfl rfl ?_;intro args os C rs os' hc hC;unfold wz at hc;split at hc;case h_2=>cases hc
 rename_i o q pre xs;cases hc;refine v_h (MC hB) fun X hP hT hr hG=> ?_;have hU:=Gd.eq_1;unfold Gd at hT;have hX:=Bool.not_true;simp only[Tryz.f191,aC,al,ioB];refine s_g hG ?_;refine s_g hG ?_;refine ak ?_;refine s_g hG ?_;refine ax ?_;refine br (fun(z:Nat×Int×Int×List Int)=>(⟨[(0, .l (.ownS 10000000)),(1, .l (.z (.slice (.int .u32)) o)),(2, .l (.z (.int .u64) q)),(7, .l (.z (.int .u64) z.2.1)),(8, .l (.z (.int .i64) z.2.2.1)),(14, .l (.z (.int .i64) ((List.length o+1:Nat):Int))),(15, .l (.z (.int .i64) (z.1:Int)))], [(10000000, .win (.int .u32) 161 pre z.2.2.2 [])]⟩:aa)) (fun z=>j8 xs o q z.1 z.2.1 z.2.2.1 z.2.2.2) (fun z=>List.length o+1-z.1) (0,0,0,xs) ?_ ?_ ?_;·refine q_l ?_;exact⟨wi (by omega) (by have:List.length o<1000000000000:=hC.2.2.2.2;omega),rfl⟩
 ·exact C3 hC.1
 ·rintro⟨i,c,b,ys⟩ hz;try dsimp only at hz
  have hl:=hz.2.1;have hlen:=hC.2.2.2.1;refine s_g hG ?_;refine ak ?_;refine ao ?_ ?_
  ·intro hb0;(try simp only[bt] at hb0);refine aq ?_;refine aj ?_;refine ak ?_;refine ax ?_;refine s_g hG ?_;refine s_g hG ?_;refine ck (fun(z:Int)=>(⟨[(0, .l (.ownS 10000000)),(1, .l (.z (.slice (.int .u32)) o)),(2, .l (.z (.int .u64) q)),(8, .l (.z (.int .i64) b)),(9, .l (.z (.int .i64) (i:Int))),(10, .l (.z (.int .u64) z)),(14, .l (.z (.int .i64) ((List.length o+1:Nat):Int))),(15, .l (.z (.int .i64) (i:Int)))], [(10000000, .win (.int .u32) 161 pre ys [])]⟩:aa)) (fun z=>z=c+q*o.getD i 0) ?_ ?_
   ·refine s_g hG ?_;refine ao ?_ ?_
    ·intro hb1;(try simp only[bt] at hb1);refine ah hG ?_ ?_
     ·(try simp only[ba]);exact⟨by omega,hb1⟩
     show ∃ z,_;refine q_l ?_;first|exact J8 i hC.2.1 hC.2.2.1 hz.2.2.2.2.1|exact vy hb1
    ·intro hb1;(try simp only[bf] at hb1);refine aq ?_;show ∃ z,_;refine q_l ?_;first|exact J8 i hC.2.1 hC.2.2.1 hz.2.2.2.2.1|exact vy hb1
   rintro n hn;(try dsimp only at hn);(have hn2:0<=n/\n<LB*LB:=by rw[hn];have:=C4 i hC.2.1 hC.2.2.1 hz.2.2.2.2.1;exact⟨this.1,this.2.1⟩);refine s_q hG ?_ ?_
   ·(try simp only[ba]);decide
   refine s_q hG ?_ ?_
   ·(try simp only[ba]);exact⟨⟨by omega,by omega⟩,by omega,by decide⟩
   refine s_g hG ?_;refine ck (fun(z:Int×Int)=>(⟨[(0, .l (.ownS 10000000)),(1, .l (.z (.slice (.int .u32)) o)),(2, .l (.z (.int .u64) q)),(7, .l (.z (.int .u64) (n/LB))),(8, .l (.z (.int .i64) z.2)),(9, .l (.z (.int .i64) (i:Int))),(11, .l (.z (.int .i64) z.1)),(14, .l (.z (.int .i64) ((List.length o+1:Nat):Int))),(15, .l (.z (.int .i64) (i:Int)))], [(10000000, .win (.int .u32) 161 pre ys [])]⟩:aa)) (fun z=>(0<=z.1/\z.1<LB)/\(0<=z.2/\z.2<=1)/\z.1-LB*z.2=ys.getD i 0-n%LB-b) ?_ ?_
   ·refine s_g hG ?_;refine ao ?_ ?_
    ·(intro hb2;(try simp only[bt] at hb2);refine ah hG ?_ ?_;·first|trivial|omega|(simp;done)|(simp;omega));show ∃ z,_;refine q_l ?_;first|exact(by simpa only[and_assoc] using(nt hz.2.2.1 hn2 hz.2.2.2.2.2.2.1 rfl).1 hb2)|exact(by simpa only[and_assoc] using(nt hz.2.2.1 hn2 hz.2.2.2.2.2.2.1 rfl).2 hb2)
    ·intro hb2;(try simp only[bf] at hb2);refine aq ?_;show ∃ z,_;refine q_l ?_;first|exact(by simpa only[and_assoc] using(nt hz.2.2.1 hn2 hz.2.2.2.2.2.2.1 rfl).1 hb2)|exact(by simpa only[and_assoc] using(nt hz.2.2.1 hn2 hz.2.2.2.2.2.2.1 rfl).2 hb2)
   rintro⟨v,b2⟩ hv;(try dsimp only at hv);refine ah hG ?_ ?_
   ·(try simp only[ba]);exact⟨⟨by omega,by omega⟩,by omega⟩
   (refine aL ?_;refine aj ?_;refine ah hG ?_ ?_;·first|trivial|omega|(simp;done)|(simp;omega));show ∃ z,_;refine q_l ?_;exact G9 hC.2.1 hC.2.2.1 hC.2.2.2.1 hC.2.2.2.2 hz hb0 hn hv
  ·intro hb0;(try simp only[bf] at hb0);refine bh ?_;refine aE ?_;refine az ?_;refine ay ?_;refine aj ?_;refine s_g hG ?_;refine av ?_;refine q_e [] ?_;exact⟨(zq hC.2.2.2.1 hz (by omega)).2,trivial,(zq hC.2.2.2.1 hz (by omega)).1⟩
def Ge(B:ag):Tab:={types:= [(3,(.int .i64)),(87,(.slice (.int .u32))),(161,(.int .u32))],elems:= [],cons:= [],hint:= [],N:=37,base:=B}
theorem MD{B:ag}(hB:aB B):aG Tryz.prog (Ge B):=⟨⟨tc ty3 (tc iz (tc fU (ae))),af,by simp only[Ge,ioB];omega⟩,bH rfl,by kernel_rfl⟩
def wA:Con:=fun l os=>match l,os with
 | [.ownS 10000000, .z (.slice (.int .u32)) o], [.win (.int .u32) 161 pre xs []]=>some (Lim xs/\Lim o/\o.length+1<=xs.length/\o.length<CAP, [], [.win (.int .u32) 161 pre (put xs (o.length+1) (valL (xs.take (o.length+1))+valL o)) []])
 |_,_=>none
theorem OL{B:ag}(hB:aB B):Valid B Tryz.prog 192 wA:=by
 refine ab (MD hB).tab Tryz.func192 rfl rfl rfl ?_;intro args os C rs os' hc hC;unfold wA at hc;split at hc;case h_2=>cases hc
 rename_i o pre xs;cases hc;refine v_h (MD hB) fun X hP hT hr hG=> ?_;have hU:=Ge.eq_1;unfold Ge at hT;have hX:=Bool.not_true;simp only[Tryz.f192,aC,al,ioB];refine s_g hG ?_;refine s_g hG ?_;refine ax ?_;refine br (fun(z:Nat×Int×List Int)=>(⟨[(0, .l (.ownS 10000000)),(1, .l (.z (.slice (.int .u32)) o)),(4, .l (.z (.int .u32) z.2.1)),(9, .l (.z (.int .i64) ((List.length o+1:Nat):Int))),(10, .l (.z (.int .i64) (z.1:Int)))], [(10000000, .win (.int .u32) 161 pre z.2.2 [])]⟩:aa)) (fun z=>j9 xs o z.1 z.2.1 z.2.2) (fun z=>List.length o+1-z.1) (0,0,xs) ?_ ?_ ?_;·refine q_l ?_;exact⟨wi (by omega) (by have:List.length o<1000000000000:=hC.2.2.2;omega),rfl⟩
 ·exact C6 hC.1
 ·rintro⟨i,c,ys⟩ hz;try dsimp only at hz
  have hl:=hz.2.1;have hlen:=hC.2.2.1;refine s_g hG ?_;refine ak ?_;refine ao ?_ ?_
  ·intro hb0;(try simp only[bt] at hb0);refine aq ?_;refine aj ?_;refine ak ?_;refine ax ?_;refine s_g hG ?_;refine s_q hG ?_ ?_
   ·(try simp only[ba]);exact⟨⟨by omega,by omega⟩,by omega⟩
   refine ck (fun(z:Int)=>(⟨[(0, .l (.ownS 10000000)),(1, .l (.z (.slice (.int .u32)) o)),(5, .l (.z (.int .i64) (i:Int))),(6, .l (.z (.int .u32) z)),(9, .l (.z (.int .i64) ((List.length o+1:Nat):Int))),(10, .l (.z (.int .i64) (i:Int)))], [(10000000, .win (.int .u32) 161 pre ys [])]⟩:aa)) (fun z=>z=ys.getD i 0+c+o.getD i 0) ?_ ?_
   ·refine s_g hG ?_;refine ao ?_ ?_
    ·intro hb1;(try simp only[bt] at hb1);refine ah hG ?_ ?_
     ·(try simp only[ba]);exact⟨by omega,hb1⟩
     show ∃ z,_;refine q_l ?_;first|exact(xp i hz.2.2.1 hC.2.1 hz.2.2.2.2.1).2 hb1|exact(xp i hz.2.2.1 hC.2.1 hz.2.2.2.2.1).1
    ·intro hb1;(try simp only[bf] at hb1);refine aq ?_;show ∃ z,_;refine q_l ?_;first|exact(xp i hz.2.2.1 hC.2.1 hz.2.2.2.2.1).2 hb1|exact(xp i hz.2.2.1 hC.2.1 hz.2.2.2.2.1).1
   rintro n hn;(try dsimp only at hn);refine ah hG ?_ ?_
   ·(try simp only[ba]);exact⟨by decide,by decide,⟨by omega,by omega⟩,by omega⟩
   (refine aL ?_;refine aj ?_;refine ah hG ?_ ?_;·first|trivial|omega|(simp;done)|(simp;omega));show ∃ z,_;refine q_l ?_;exact Ha hC.2.1 hC.2.2.1 hC.2.2.2 hz hb0 hn
  ·intro hb0;(try simp only[bf] at hb0);refine bh ?_;refine aE ?_;refine az ?_;refine ay ?_;refine q_e [] ?_;exact⟨trivial,J7 hC.2.2.1 hz (by omega)⟩
def wB(B:ag):Tab:={types:= [(3,(.int .i64)),(4, .bool),(87,(.slice (.int .u32))),(89,(.st (.pair .bool (.slice (.int .u32))))),(161,(.int .u32)),(164,(.int .u64))],elems:= [(87,161)],cons:= [(150,ef),(152,eX),(189,oJ),(190,l4),(191,wz),(192,wA)],hint:= [52,144,152],N:=172,io:= [(191, [0]),(192, [0])],base:=B}
theorem ME{B:ag}(hB:aB B):aG Tryz.prog (wB B):=⟨⟨tc ty3 (tc ty4 (tc iz (tc gK (tc fU (tc nw (ae)))))),aR (by kernel_rfl) (af),by simp only[wB,ioB];omega⟩,aD (cc Tryz.func150 (km hB) (cc Tryz.func152 (x9 hB) (cc Tryz.func189 (OI hB) (cc Tryz.func190 (OJ hB) (cc Tryz.func191 (OK hB) (cc Tryz.func192 (OL hB) (au))))))),by kernel_rfl⟩
def jP:Con:=fun l os=>match l,os with
 | [.z (.slice (.int .u32)) m, .z (.slice (.int .u32)) o], []=>some (Cano m/\Cano o/\o≠ []/\m.length+o.length+1<CAP, [.z (.slice (.int .u32)) (iK m o), .z (.slice (.int .u32)) (dS m o)], [])
 |_,_=>none
set_option maxHeartbeats 1000000 in
theorem Gf{B:ag}(hB:aB B):Valid B Tryz.prog 177 jP:=by
 refine ab (ME hB).tab Tryz.func177 rfl rfl rfl ?_;intro args os C rs os' hc hC;unfold jP at hc;split at hc;case h_2=>cases hc
 rename_i m o;cases hc;refine v_h (ME hB) fun X hP hT hr hG=> ?_;have hU:=wB.eq_1;unfold wB at hT;have hX:=ai @eX.eq_1<|ai @wA.eq_1<|ai @wz.eq_1<|ai @l4.eq_1<|ai @oJ.eq_1<|ai @ef.eq_1<|ai @bW.eq_def<| @b8.eq_def;simp only[Tryz.f177,aC,al,ioB];refine ak ?_;show J X _ _ _;refine ah hG ?_ ?_;·first|trivial|omega|(simp;done)|(simp;omega)
 refine aj ?_;refine ak ?_;refine ak ?_;show J X _ _ _;refine ah hG ?_ ?_
 ·try simp only[ba]
  exact⟨hC.1,hC.2.1,Nat.lt_of_le_of_lt (Nat.le_succ _) hC.2.2.2⟩
 refine aj ?_;refine ao ?_ ?_
 ·intro hb0;try simp only[bt] at hb0
  refine ak ?_;show J X _ _ _;refine ah hG ?_ ?_;·first|trivial|omega|(simp;done)|(simp;omega)
  refine aj ?_;refine av ?_;refine aw ?_;refine q_e [62] ?_;exact Kf hb0
 ·intro hb0;try simp only[bf] at hb0
  refine aq ?_;refine aj ?_;refine ak ?_;refine ak ?_;show J X _ _ _;refine ah hG ?_ ?_;·first|trivial|omega|(simp;done)|(simp;omega)
  refine aj ?_;refine ao ?_ ?_
  ·intro hb1;(try simp only[bt] at hb1);refine ak ?_;show J X _ _ _;refine ah hG ?_ ?_
   ·(try simp only[ba]);exact⟨⟨by omega,by omega⟩,hC.1.1,(div_one hC.2.1 hb0 hb1).1,by have:=hC.2.2.2;omega⟩
   (refine aj ?_;refine ak ?_;show J X _ _ _;refine ah hG ?_ ?_;·first|trivial|omega|(simp;done)|(simp;omega));refine aj ?_;refine av ?_;refine aw ?_;refine q_e [62] ?_;exact(div_one hC.2.1 hb0 hb1).2
  ·intro hb1;simp only[beq_eq_false_iff_ne,ne_eq] at hb1;obtain⟨p,hp⟩:∃ p,List.length o=p+2:=py hC.2.2.1 hb1;obtain⟨D,f⟩:∃ D:List Int,gJ m o D p:=⟨_,gJ.mk' hC.1 hC.2.1 hp (Kg hb0) hC.2.2.2⟩;have hDl:=f.hDl;have hcc:=f.hc;have hlm:=f.hlm;refine aq ?_;refine aj ?_;refine ck (fun(z:Int)=>(⟨[(0, .l (.z (.slice (.int .u32)) m)),(1, .l (.z (.slice (.int .u32)) o)),(8, .l (.z (.int .u32) z))], []⟩:aa)) (fun z=>z=aN o) ?_ ?_
   ·show J X _ _ _;refine ah hG ?_ ?_
    ·(try simp only[ba]);have h:=tz f.ho f.hp (by omega);exact⟨h.1,h.2.1⟩
    show ∃ z,_;refine q_l ?_;exact(tz f.ho f.hp (by omega)).2.2
   rintro d hd;(try dsimp only at hd);subst hd;refine ak ?_;show J X _ _ _;refine gI hG ?_ ?_
   ·(try simp only[ba]);exact Hf f
   (refine aj ?_;refine ak ?_;show J X _ _ _;refine ah hG ?_ ?_;·first|trivial|omega|(simp;done)|(simp;omega));refine aj ?_;refine ak ?_;show J X _ _ _;refine ah hG ?_ ?_
   ·(try simp only[ba]);exact Hg f
   (refine aj ?_;refine ak ?_;refine ak ?_;show J X _ _ _;refine ah hG ?_ ?_;·first|trivial|omega|(simp;done)|(simp;omega));refine aj ?_;refine ax ?_;refine br (fun(z:Nat×List Int×List Int)=>(⟨[(8, .l (.z (.int .u32) (aN o))),(9, .l (.ownS 1392)),(10, .l (.z (.slice (.int .u32)) D)),(11, .l (.z (.int .i64) (List.length o:Int))),(12, .l (.ownS 62)),(13, .l (.z (.int .i64) ((z.1:Int)-1)))], [(1392, .arr (.int .u32) 161 z.2.1),(62, .arr (.int .u32) 161 z.2.2)]⟩:aa)) (fun z=>kb (valL m*aN o) (valL D) (List.length m) (p+2) z.1 z.2.1 z.2.2) (fun z=>z.1) (List.length m+1-List.length o,padL (valL m*aN o).toNat (List.length m+1),List.replicate (List.length m+1-List.length o) 0) ?_ ?_ ?_;·refine q_l ?_;exact Nl f
   ·exact C8 f
   ·(rintro⟨k,T,Q⟩ hz;(try dsimp only at hz);have hz1:=hz.1;have hz3:=hz.2.2.1;have hz5:=hz.2.2.2.2.1;refine ak ?_;refine ak ?_;show J X _ _ _;refine ah hG ?_ ?_;·first|trivial|omega|(simp;done)|(simp;omega));refine aj ?_;refine ao ?_ ?_
    ·intro hb2;(try simp only[decide_eq_true_eq] at hb2);obtain⟨j,rfl⟩:∃ j,k=j+1:=⟨k-1,by omega⟩;(have ej:(((j+1:Nat)):Int)-1=(j:Int):=by omega);rw[ej];(have hw17:(j:Int).toNat<List.length T:=by omega);(have hw19:∀ v:Int,(j:Int).toNat<(List.take (j:Int).toNat T++put (List.drop (j:Int).toNat T) (List.length D+1) v).length:=fun v=>by rw[Ey _ (by rw[hDl];omega)];exact hw17);(have ej0:IntKind.i64.wrap ((j:Int)+(List.length o:Int))=((j+(p+2):Nat):Int):=by rw[wi (by omega) (by omega)];omega);(have ej1:IntKind.i64.wrap (((j+(p+2):Nat):Int)-1)=((j+(p+1):Nat):Int):=by rw[wi (by omega) (by omega)];omega);(have ej2:IntKind.i64.wrap (((j+(p+2):Nat):Int)-2)=((j+p:Nat):Int):=by rw[wi (by omega) (by omega)];omega);have g:=zr (j:=j) (p:=p) hz.2.1 f.hL f.hDl f.hVp (by omega) hz.2.2.2.2.2.2;have hD1:=(f.hL.getD (p+1)).2;(have hTj:j+(p+3)<=List.length T:=by omega);refine aq ?_;refine aj ?_;refine ak ?_;refine ax ?_;refine ck (fun(z:Int)=>(⟨[(8, .l (.z (.int .u32) (aN o))),(9, .l (.ownS 1392)),(10, .l (.z (.slice (.int .u32)) D)),(11, .l (.z (.int .i64) (List.length o:Int))),(12, .l (.ownS 62)),(13, .l (.z (.int .i64) (j:Int))),(14, .l (.z (.int .u64) z))], [(1392, .arr (.int .u32) 161 T),(62, .arr (.int .u32) 161 Q)]⟩:aa)) (fun z=>z=T.getD (j+(p+2)) 0*LB+T.getD (j+(p+1)) 0/\z<LB*LB) ?_ ?_
     ·show J X _ _ _;refine gI hG ?_ ?_
      ·(try simp only[ba]);simp only[ej0,ej1,Int.toNat_natCast];exact⟨⟨by omega,by omega⟩,by omega,⟨by omega,by omega⟩,by omega⟩
      show ∃ z,_;refine q_l ?_;simp only[f.en1,f.en2,ej0,ej1,ej2,Int.toNat_natCast,fO];have:=Kb (hz.2.1.getD (j+(p+2))) (hz.2.1.getD (j+(p+1)));rw[this.1];exact⟨rfl,this.2.1⟩
     rintro top ht;(try dsimp only at ht);have g2:=g;rw[<- ht.1] at g2;have ht0:=g2.htop;refine ck (fun(z:Int)=>(⟨[(8, .l (.z (.int .u32) (aN o))),(9, .l (.ownS 1392)),(10, .l (.z (.slice (.int .u32)) D)),(11, .l (.z (.int .i64) (List.length o:Int))),(12, .l (.ownS 62)),(13, .l (.z (.int .i64) (j:Int))),(14, .l (.z (.int .u64) top)),(15, .l (.z (.int .u64) z))], [(1392, .arr (.int .u32) 161 T),(62, .arr (.int .u32) 161 Q)]⟩:aa)) (fun z=>z=min (top/D.getD (p+1) 0) 999999999) ?_ ?_
     ·show J X _ _ _;refine ah hG ?_ ?_
      ·(try simp only[ba]);simp only[f.en1,f.en2,ej0,ej1,ej2,Int.toNat_natCast,fO];exact⟨⟨by omega,by omega⟩,(zt ht0 ht.2 g.hD1 hD1).2⟩
      show ∃ z,_;refine q_l ?_;simp only[f.en1,f.en2,ej0,ej1,ej2,Int.toNat_natCast,fO];rw[(zt ht0 ht.2 g.hD1 hD1).1]
     (rintro gs hg;(try dsimp only at hg);refine ak ?_;refine ax ?_;refine br (fun(z:Int)=>(⟨[(8, .l (.z (.int .u32) (aN o))),(9, .l (.ownS 1392)),(10, .l (.z (.slice (.int .u32)) D)),(11, .l (.z (.int .i64) (List.length o:Int))),(12, .l (.ownS 62)),(13, .l (.z (.int .i64) (j:Int))),(14, .l (.z (.int .u64) top)),(15, .l (.z (.int .u64) z))], [(1392, .arr (.int .u32) 161 T),(62, .arr (.int .u32) 161 Q)]⟩:aa)) (fun z=>He (valL ((T.drop j).take (p+3))) (valL D) top (D.getD (p+1) 0) z) (fun z=>z.toNat) gs ?_ ?_ ?_;·simp only[ml0,ml1,Nat.reduceLT,Nat.reduceEqDiff,Nat.reduceAdd,Nat.reduceMul,Nat.reduceSub,Nat.reduceLeDiff,Nat.reduceBEq,Nat.reduceBNe,reduceIte,reduceDIte,reduceCtorEq]);·exact Nj g2 hg
     ·rintro q hq;(try dsimp only at hq);refine ak ?_;refine ak ?_;show J X _ _ _;refine gI hG ?_ ?_
      ·(try simp only[ba]);simp only[f.en1,f.en2,ej0,ej1,ej2,Int.toNat_natCast,fO];exact⟨⟨by omega,by omega⟩,⟨by omega,by omega⟩,⟨by omega,by omega⟩,by omega,fun h=>h,fun h=>⟨h,by omega,by omega⟩,fun h=>h⟩
      refine aj ?_;refine ao ?_ ?_
      ·(intro hb3;(try simp only[bt] at hb3);refine aq ?_;refine aj ?_;refine ax ?_;show J X _ _ _;refine ah hG ?_ ?_;·first|trivial|omega|(simp;done)|(simp;omega));refine aL ?_;show ∃ z,_;refine q_l ?_;simp only[f.en1,f.en2,ej0,ej1,ej2,Int.toNat_natCast,fO] at hb3;exact Po g2 ht.2 hD1 hq hb3
      ·intro hb3;(try simp only[bf] at hb3);refine bh ?_;refine aE ?_;refine az ?_;refine ay ?_;refine aj ?_;refine ck (fun(z:Int×List Int)=>(⟨[(8, .l (.z (.int .u32) (aN o))),(9, .l (.ownS 1392)),(10, .l (.z (.slice (.int .u32)) D)),(11, .l (.z (.int .i64) (List.length o:Int))),(12, .l (.ownS 62)),(13, .l (.z (.int .i64) (j:Int))),(15, .l (.z (.int .u64) z.1))], [(1392, .arr (.int .u32) 161 z.2),(62, .arr (.int .u32) 161 Q)]⟩:aa)) (fun z=>z.1=valL ((T.drop j).take (p+3))/valL D/\z.2=T.take j++put (T.drop j) (p+3) (valL ((T.drop j).take (p+3))-z.1*valL D)) ?_ ?_
       ·refine ak ?_;show J X _ _ _;refine cG hG (by simp only[hw17,hT,wB,bW.eq_def,b8.eq_def,eX,wA,wz,l4,oJ,ef,mx0,mx1,mx2,mx3,mx4,mx5,mx6,aV,bp,bF,aZ,bo,Ty.fieldTy,Ty.fieldOf,Nat.reduceLT,Nat.reduceEqDiff,Nat.reduceAdd,Nat.reduceMul,Nat.reduceSub,Nat.reduceLeDiff,Nat.reduceBEq,Nat.reduceBNe,reduceIte,reduceDIte,reduceCtorEq];rfl) ?_ ?_
        ·(try simp only[ba]);simp only[Int.toNat_natCast];exact⟨⟨by omega,by omega⟩,⟨hz.2.1.drop j,f.hL,⟨hq.2.2.2,hq.2.1⟩,by rw[hDl,List.length_drop];omega,by rw[hDl];unfold CAP;omega⟩,by rw[List.length_take];omega⟩
        refine aj ?_;refine ao ?_ ?_
        ·(intro hb4;(try simp only[bt] at hb4);refine ak ?_;show J X _ _ _;refine ah hG ?_ ?_;·first|trivial|omega|(simp;done)|(simp;omega));refine aj ?_;show J X _ _ _;refine cG hG (by simp only[hw17,hw19,hT,wB,bW.eq_def,b8.eq_def,eX,wA,wz,l4,oJ,ef,mx0,mx1,mx2,mx3,mx4,mx5,mx6,aV,bp,bF,aZ,bo,Ty.fieldTy,Ty.fieldOf,Nat.reduceLT,Nat.reduceEqDiff,Nat.reduceAdd,Nat.reduceMul,Nat.reduceSub,Nat.reduceLeDiff,Nat.reduceBEq,Nat.reduceBNe,reduceIte,reduceDIte,reduceCtorEq];rfl) ?_ ?_
         ·(try simp only[ba]);simp only[Int.toNat_natCast,f.hDl3];rw[(tA _ hTj).1,(tA _ hTj).2,Ey _ hTj];exact⟨⟨by omega,by omega⟩,⟨Ew (hz.2.1.drop j) _ _,f.hL,by rw[xo _ (by rw[List.length_drop];omega),List.length_drop];omega,by rw[hDl];unfold CAP;omega⟩,by rw[List.length_take];omega⟩
         show ∃ z,_;refine q_l ?_;simp only[Int.toNat_natCast,f.hDl3] at hb4 ⊢;simp only[f.en1,f.en2,ej0,ej1,ej2,Int.toNat_natCast,fO] at hb3;have hst:=Kd g2 ht.2 hD1 hq hb3;first|(have hq1:=hst.1 hb4;have hqn:=g.qnn;have hql:=g.qlt;have hB:LB=1000000000:=rfl;rw[w64 (x:=q-1) (by omega) (by omega),vB hTj];exact⟨hq1,rfl⟩)|exact⟨hst.2 hb4,trivial⟩|exact⟨hst.2 hb4,rfl⟩
        ·intro hb4;(try simp only[bf] at hb4);refine aq ?_;show ∃ z,_;refine q_l ?_;simp only[Int.toNat_natCast,f.hDl3] at hb4 ⊢;simp only[f.en1,f.en2,ej0,ej1,ej2,Int.toNat_natCast,fO] at hb3;have hst:=Kd g2 ht.2 hD1 hq hb3;first|(have hq1:=hst.1 hb4;have hqn:=g.qnn;have hql:=g.qlt;have hB:LB=1000000000:=rfl;rw[w64 (x:=q-1) (by omega) (by omega),vB hTj];exact⟨hq1,rfl⟩)|exact⟨hst.2 hb4,trivial⟩|exact⟨hst.2 hb4,rfl⟩
       rintro⟨q2,Tn⟩ hq2;(try dsimp only at hq2);show J X _ _ _;refine ah hG ?_ ?_
       ·(try simp only[ba]);exact⟨⟨by omega,by omega⟩,by omega⟩
       (refine aL ?_;refine aj ?_;show J X _ _ _;refine ah hG ?_ ?_;·first|trivial|omega|(simp;done)|(simp;omega));show ∃ z,_;refine q_l ?_;rw[wi (x:=(j:Int)-1) (by omega) (by omega),hq2.2,Int.toNat_natCast,w32 (by rw[hq2.1];exact g.qnn) (by rw[hq2.1];have:=g.qlt;have hB:LB=1000000000:=rfl;omega)];exact⟨j,rfl,Hc f.hL f.hDl f.hVp f.hlm hz hq2.1,by omega⟩
    ·intro hb2;(try simp only[bf] at hb2);refine bh ?_;refine aE ?_;refine az ?_;refine ay ?_;refine aj ?_;refine ak ?_;show J X _ _ _;refine ah hG ?_ ?_
     ·(try simp only[ba]);exact C9 f hz (by omega)
     (refine aj ?_;refine ak ?_;show J X _ _ _;refine ah hG ?_ ?_;·first|trivial|omega|(simp;done)|(simp;omega));refine aj ?_;refine av ?_;refine q_e [62] ?_;(obtain rfl:k=0:=by omega);exact Nk f hz
def Gg(B:ag):Tab:={types:= [(3,(.int .i64)),(4, .bool),(87,(.slice (.int .u32))),(89,(.st (.pair .bool (.slice (.int .u32)))))],elems:= [],cons:= [(110,AB),(133,jn),(150,ef),(154,pJ),(177,jP),(179,Oz)],hint:= [],N:=47,base:=B}
theorem MF{B:ag}(hB:aB B):aG Tryz.prog (Gg B):=⟨⟨tc ty3 (tc ty4 (tc iz (tc gK (ae)))),af,by simp only[Gg,ioB];omega⟩,aD (cc Tryz.func110 (yb hB) (cc Tryz.func133 (qg hB) (cc Tryz.func150 (km hB) (cc Tryz.func154 (x8 hB) (cc Tryz.func177 (Gf hB) (cc Tryz.func179 (OA hB) (au))))))),by kernel_rfl⟩
def Gh:Con:=fun l os=>match l,os with
 | [.z (.st (.pair .bool (.slice (.int .u32)))) x, .z (.st (.pair .bool (.slice (.int .u32)))) y], []=>some (oa x y, [.z (.st (.pair .bool (.slice (.int .u32)))) (enc (bN (dec x) (dec y))), .z (.st (.pair .bool (.slice (.int .u32)))) (enc (jl (dec x) (dec y)))], [])
 |_,_=>none
theorem OM{B:ag}(hB:aB B):Valid B Tryz.prog 149 Gh:=by
 refine ab (MF hB).tab Tryz.func149 rfl rfl rfl ?_;intro args os C rs os' hc hC;unfold Gh at hc;split at hc;case h_2=>cases hc
 rename_i x y;cases hc;refine v_h (MF hB) fun X hP hT hr hG=> ?_;have hU:=Gg.eq_1;unfold Gg at hT;have hX:=ai @AB.eq_1<|ai @jP.eq_1<|ai @pJ.eq_1<|ai @jn.eq_1<|ai @Oz.eq_1<| @ef.eq_1;simp only[Tryz.f149,aC,al,ioB];refine s_g hG ?_;refine s_q hG ?_ ?_
 ·try simp only[ba]
  exact hC.side1
 refine s_d hG ?_ ?_
 ·try simp only[ba]
  exact hC.side2
 refine ak ?_;refine s_q hG ?_ ?_
 ·try simp only[ba]
  exact⟨enc_ok _,fun h=>h⟩
 refine ao ?_ ?_
 ·intro hb0;try simp only[bt] at hb0
  refine gI hG ?_ ?_
  ·(try simp only[ba]);exact hC.side4
  refine aj ?_;refine s_d hG ?_ ?_;·first|trivial|omega|(simp;done)|(simp;omega)
  refine av ?_;refine q_e [] ?_;exact hC.fin1 hb0
 ·intro hb0;try simp only[bf] at hb0
  refine aq ?_;refine aj ?_;refine s_d hG ?_ ?_;·first|trivial|omega|(simp;done)|(simp;omega)
  refine av ?_;refine q_e [] ?_;exact hC.fin2 hb0
def uG(B:ag):Tab:={types:= [(87,(.slice (.int .u32))),(161,(.int .u32)),(164,(.int .u64))],elems:= [],cons:= [(193,wu)],hint:= [],N:=16,base:=B}
theorem MG{B:ag}(hB:aB B):aG Tryz.prog (uG B):=⟨⟨tc iz (tc fU (tc nw (ae))),af,by simp only[uG,ioB];omega⟩,aD (cc Tryz.func193 (FS hB) (au)),by kernel_rfl⟩
def yp:Con:=fun l os=>match l,os with
 | [.z (.slice (.int .u32)) m], []=>some (Lim m/\m.length<=2, [.z (.int .u64) (valL m)], [])
 |_,_=>none
theorem ON{B:ag}(hB:aB B):Valid B Tryz.prog 178 yp:=by
 refine ab (MG hB).tab Tryz.func178 rfl rfl rfl ?_;intro args os C rs os' hc hC;unfold yp at hc;split at hc;case h_2=>cases hc
 rename_i m;cases hc;refine v_h (MG hB) fun X hP hT hr hG=> ?_;have hU:=uG.eq_1;unfold uG at hT;have hX:= @wu.eq_1;simp only[Tryz.f178,aC,al,ioB];refine s_g hG ?_;refine s_g hG ?_;refine ak ?_;refine s_g hG ?_;refine ax ?_;refine Ej hr (gf:=208) (caps:= [.z (.ptr (.slice (.int .u32))) m]) (items:=cT m) (by simp only[hT,uG,mx0,mx1,mx2,mx3,mx4,mx5,mx6,aV,bp,bF,aZ,bo,Ty.fieldTy,Ty.fieldOf,Nat.reduceLT,Nat.reduceEqDiff,Nat.reduceAdd,Nat.reduceMul,Nat.reduceSub,Nat.reduceLeDiff,Nat.reduceBEq,Nat.reduceBNe,reduceIte,reduceDIte,reduceCtorEq];try rfl) (by rfl) (by rw[hP];exact zC m) (by rfl) [3] (by rfl) (by simp only[hT,uG];try rfl) (fun(k:Nat) (z:Int)=>(⟨[(3, .l (.ownP 3 0))], [(3, .box 164 [.z (.int .u64) z])]⟩:aa)) (fun(k:Nat) (z:Int)=>z=valL (List.drop (List.length m-k) m)) 0 ?_ ?_ ?_ ?_ ?_;·simp only[ml0,ml1,Nat.reduceLT,Nat.reduceEqDiff,Nat.reduceAdd,Nat.reduceMul,Nat.reduceSub,Nat.reduceLeDiff,Nat.reduceBEq,Nat.reduceBNe,reduceIte,reduceDIte,reduceCtorEq]
 ·rw[J1];rfl
 ·intro k z;rfl
 ·intro k hk;rintro z hz;try dsimp only at hz
  have hk:k<List.length m:=by simpa [cT] using hk
  refine⟨_,by simp only[hT,uG,cT,tE,mx0,mx1,mx2,mx3,mx4,mx5,mx6,aV,bp,bF,aZ,bo,Ty.fieldTy,Ty.fieldOf,Nat.reduceLT,Nat.reduceEqDiff,Nat.reduceAdd,Nat.reduceMul,Nat.reduceSub,Nat.reduceLeDiff,Nat.reduceBEq,Nat.reduceBNe,reduceIte,reduceDIte,reduceCtorEq,List.getElem_map,List.getElem_range];rfl,?_⟩;intro X' hP' hT';have hG':aG X'.P X'.T:=by rw[hP',hT'];exact hG.keep _
  rw[hT] at hT';refine ax ?_;refine nX hG' ?_ ?_;·first|trivial|omega|(simp;done)|(simp;omega)
  refine aL ?_;show ∃ z,_;simp only[ml0,ml1,Nat.reduceLT,Nat.reduceEqDiff,Nat.reduceAdd,Nat.reduceMul,Nat.reduceSub,Nat.reduceLeDiff,Nat.reduceBEq,Nat.reduceBNe,reduceIte,reduceDIte,reduceCtorEq];exact zj hC.1 hC.2 hk hz
 ·rintro z hz;try dsimp only at hz
  rw[show List.length (cT m)=List.length m by simp[cT],Nat.sub_self,List.drop_zero] at hz;refine aL ?_;refine aj ?_;refine s_g hG ?_;refine av ?_;refine q_e [] ?_;exact hz
def Gi(B:ag):Tab:={types:= [(3,(.int .i64)),(4, .bool),(87,(.slice (.int .u32))),(89,(.st (.pair .bool (.slice (.int .u32))))),(161,(.int .u32)),(164,(.int .u64))],elems:= [(87,161)],cons:= [(150,ef),(177,jP),(178,yp)],hint:= [],N:=68,base:=B}
theorem MH{B:ag}(hB:aB B):aG Tryz.prog (Gi B):=⟨⟨tc ty3 (tc ty4 (tc iz (tc gK (tc fU (tc nw (ae)))))),aR (by kernel_rfl) (af),by simp only[Gi,ioB];omega⟩,aD (cc Tryz.func150 (km hB) (cc Tryz.func177 (Gf hB) (cc Tryz.func178 (ON hB) (au)))),by kernel_rfl⟩
def wC:Con:=fun l os=>match l,os with
 | [.z (.st (.pair .bool (.slice (.int .u32)))) x, .z (.st (.pair .bool (.slice (.int .u32)))) y], []=>some (oc x y, [.z (.st (.pair .bool (.slice (.int .u32)))) (enc (cC (dec x) (dec y)))], [])
 |_,_=>none
theorem Gj{B:ag}(hB:aB B):Valid B Tryz.prog 147 wC:=by
 refine ab (MH hB).tab Tryz.func147 rfl rfl rfl ?_;intro args os C rs os' hc hC;unfold wC at hc;split at hc;case h_2=>cases hc
 rename_i x y;cases hc;refine v_h (MH hB) fun X hP hT hr hG=> ?_;have hU:=Gi.eq_1;unfold Gi at hT;have hX:=ai @jP.eq_1<|ai @yp.eq_1<| @ef.eq_1;simp only[Tryz.f147,aC,al,ioB];refine s_g hG ?_;refine s_d hG ?_ ?_;·first|trivial|omega|(simp;done)|(simp;omega)
 refine ak ?_;refine ax ?_;refine br (fun(z:List Int×List Int)=>(⟨[(4, .l (.ownP 4 0)),(5, .l (.z (.slice (.int .u32)) z.1)),(6, .l (.z (.slice (.int .u32)) z.2))], [(4, .box 89 [.z .bool false, .val (.slice none 0 0)])]⟩:aa)) (fun z=>xq x y z.1 z.2) (fun z=>(valL z.2).toNat) (x.2,y.2) ?_ ?_ ?_;·simp only[ml0,ml1,Nat.reduceLT,Nat.reduceEqDiff,Nat.reduceAdd,Nat.reduceMul,Nat.reduceSub,Nat.reduceLeDiff,Nat.reduceBEq,Nat.reduceBNe,reduceIte,reduceDIte,reduceCtorEq]
 ·exact xq.start hC
 ·rintro⟨u,v⟩ hz;try dsimp only at hz
  have hcc:2*(List.length x.2+List.length y.2)+4<1000000000000:=hC.hc;refine ak ?_;refine s_g hG ?_;refine ao ?_ ?_
  ·intro hb0;(try simp only[bt] at hb0);refine aq ?_;refine aj ?_;refine ax ?_;refine s_q hG ?_ ?_
   ·(try simp only[ba]);exact hz.side3 hC (gq (by omega))
   refine ah hG ?_ ?_
   ·(try simp only[ba]);exact hz.side4 hC (gq (by omega))
   refine aL ?_;show ∃ z,_;refine q_l ?_;exact hz.next hC (gq (by omega))
  ·intro hb0;(try simp only[bf] at hb0);refine bh ?_;refine aE ?_;refine az ?_;refine ay ?_;refine aj ?_;refine ak ?_;refine s_g hG ?_;refine ao ?_ ?_
   ·intro hb1;(try simp only[bt] at hb1);refine s_q hG ?_ ?_
    ·(try simp only[ba]);exact⟨hz.hu.1,by have:=hz.hul;unfold CAP;omega⟩
    refine av ?_;refine aw ?_;refine q_e [65] ?_;exact hz.stop (Da (by omega))
   ·intro hb1;simp only[beq_eq_false_iff_ne,ne_eq] at hb1;refine aq ?_;refine aj ?_;refine s_q hG ?_ ?_
    ·(try simp only[ba]);exact hz.side3 hC (gq (by omega))
    refine s_q hG ?_ ?_
    ·(try simp only[ba]);have hr:=hz.rest (gq (by omega));exact⟨⟨hz.hv.1,by omega⟩,hz.side4 hC (gq (by omega)),hr.1.1,by omega⟩
    (refine ak ?_;refine ax ?_;refine br (fun(z:Int×Int)=>(⟨[(4, .l (.ownP 4 0)),(11, .l (.z (.int .u64) z.1)),(12, .l (.z (.int .u64) z.2))], [(4, .box 89 [.z .bool false, .val (.slice none 0 0)])]⟩:aa)) (fun z=>xr x y z.1 z.2) (fun z=>z.2.toNat) (valL v,valL (enc (dec (false,dS u v))).2) ?_ ?_ ?_;·simp only[ml0,ml1,Nat.reduceLT,Nat.reduceEqDiff,Nat.reduceAdd,Nat.reduceMul,Nat.reduceSub,Nat.reduceLeDiff,Nat.reduceBEq,Nat.reduceBNe,reduceIte,reduceDIte,reduceCtorEq]);·exact xr.start hz hC (gq (by omega)) (by omega)
    ·rintro⟨a,b⟩ he;(try dsimp only at he);refine ak ?_;refine s_g hG ?_;refine ao ?_ ?_
     ·intro hb2;(try simp only[bt] at hb2);refine aq ?_;refine aj ?_;refine ax ?_;refine gI hG ?_ ?_
      ·(try simp only[ba]);omega
      refine aL ?_;show ∃ z,_;refine q_l ?_;exact he.next hb2
     ·(intro hb2;(try simp only[decide_eq_false_iff_not] at hb2);have he2:=he.stop hb2;refine bh ?_;refine aE ?_;refine az ?_;refine ay ?_;refine aj ?_;refine s_g hG ?_;refine ak ?_;refine ax ?_;refine br (fun(z:Nat×List Int)=>(⟨[(11, .l (.z (.int .u64) (z.1:Int))),(13, .l (.ownP 13 0)),(4, .l (.ownP 4 0))], [(13, .box 89 [.z .bool false, .ownS 65]),(65, .arr (.int .u32) 161 z.2),(4, .box 89 [.z .bool false, .val (.slice none 0 0)])]⟩:aa)) (fun z=>z.2++limbs z.1=limbs (cC (dec x) (dec y)).toNat/\z.1<18446744073709551616) (fun z=>z.1) ((cC (dec x) (dec y)).toNat, []) ?_ ?_ ?_;·refine q_l ?_;exact⟨he2.1,by unfold ioB;omega⟩);·exact⟨by simp,he2.2⟩
      ·rintro⟨w,l⟩ ⟨g1,g2⟩;(try dsimp only at g1 g2);refine ak ?_;refine s_g hG ?_;refine ao ?_ ?_
       ·intro hb3;(try simp only[bt] at hb3);refine aq ?_;refine aj ?_;refine ak ?_;refine ax ?_;refine ah hG ?_ ?_
        ·(try simp only[ba]);have h3:=mH he2.2;have h4:=congrArg List.length g1;simp only[List.length_append] at h4;exact⟨by decide,by unfold Cm.Roomy;omega⟩
        (refine aL ?_;refine aj ?_;refine ah hG ?_ ?_;·first|trivial|omega|(simp;done)|(simp;omega));show ∃ z,_;refine q_l ?_;exact pk g1 g2 hb3
       ·intro hb3;(try simp only[bf] at hb3);refine bh ?_;refine aE ?_;refine az ?_;refine ay ?_;refine aj ?_;refine s_g hG ?_;refine av ?_;refine q_e [65] ?_;(have h0:w=0:=by omega);subst h0;rw[show limbs 0= [] by simp[limbs],List.append_nil] at g1;rw[g1];exact Nn _ _
def qt(B:ag):Tab:={types:= [(3,(.int .i64)),(4, .bool),(87,(.slice (.int .u32))),(89,(.st (.pair .bool (.slice (.int .u32))))),(91,(.st (.pair (.st (.pair .bool (.slice (.int .u32)))) (.st (.pair .bool (.slice (.int .u32))))))),(161,(.int .u32))],elems:= [],cons:= [(147,wC),(148,AA),(149,Gh)],hint:= [2,3,5],N:=43,base:=B}
theorem AP{B:ag}(hB:aB B):aG Tryz.prog (qt B):=⟨⟨tc ty3 (tc ty4 (tc iz (tc gK (tc ty91 (tc fU (ae)))))),af,by simp only[qt,ioB];omega⟩,aD (cc Tryz.func147 (Gj hB) (cc Tryz.func148 (x7 hB) (cc Tryz.func149 (OM hB) (au)))),by kernel_rfl⟩
def mv:Con:=fun l os=>match l,os with
 | [.z (.st (.pair .bool (.slice (.int .u32)))) n, .z (.st (.pair .bool (.slice (.int .u32)))) d], []=>some (gO n d, [.z (.st (.pair (.st (.pair .bool (.slice (.int .u32)))) (.st (.pair .bool (.slice (.int .u32)))))) (bj (Rat.divInt (dec n) (dec d)))], [])
 |_,_=>none
theorem l5{B:ag}(hB:aB B):Valid B Tryz.prog 108 mv:=by
 refine ab (AP hB).tab Tryz.func108 rfl rfl rfl ?_;intro args os C rs os' hc hC;unfold mv at hc;split at hc;case h_2=>cases hc
 rename_i n d;cases hc;refine v_h (AP hB) fun X hP hT hr hG=> ?_;have hU:=qt.eq_1;unfold qt at hT;have hX:=ai @Gh.eq_1<|ai @wC.eq_1<| @AA.eq_1;simp only[Tryz.f108,aC,al,ioB];refine s_g hG ?_;refine s_q hG ?_ ?_
 ·try simp only[ba]
  exact Pz hC
 refine ck (fun(z:Int)=>(⟨[(2, .l (.ownP 2 0)),(3, .l (.ownP 3 0)),(4, .l (.ownP 4 0)),(5, .l (.ownP 5 0))], [(2, .box 89 [.z .bool n.1, .z (.slice (.int .u32)) n.2]),(3, .box 89 [.z .bool d.1, .z (.slice (.int .u32)) d.2]),(4, .box 91 [.z .bool false, .val (.slice none 0 0), .z .bool false, .val (.slice none 0 0)]),(5, .box 89 [.z .bool (enc z).1, .z (.slice (.int .u32)) (enc z).2])]⟩:aa)) (fun z=>z=dB (dec n) (dec d)) ?_ ?_
 ·refine s_g hG ?_;refine ao ?_ ?_
  ·intro hb0;(try simp only[bt] at hb0);refine ah hG ?_ ?_
   ·(try simp only[ba]);exact PA hC
   show ∃ z,_;refine q_l ?_;(try simp only[pe,bR]);first|exact⟨_,rfl,rfl,Qi hC hb0⟩|exact⟨_,rfl,rfl,Qj hC hb0⟩
  ·intro hb0;(try simp only[bf] at hb0);refine aq ?_;show ∃ z,_;refine q_l ?_;(try simp only[pe,bR]);first|exact⟨_,rfl,rfl,Qi hC hb0⟩|exact⟨_,rfl,rfl,Qj hC hb0⟩
 rintro g hg;try dsimp only at hg
 subst hg;have hp:=mk_pos hC;refine ak ?_;refine s_q hG ?_ ?_
 ·try simp only[ba]
  (repeat' (first|apply And.intro|intro _))<;>(try simp only[decide_eq_true_eq,decide_eq_false_iff_not,Bool.not_eq_true',beq_iff_eq,Int.toNat_natCast] at*)<;>first|assumption|omega|trivial|(simp_all;done)|(simp_all;omega)
 refine ao ?_ ?_
 ·intro hb1;try simp only[bt] at hb1
  refine s_q hG ?_ ?_
  ·(try simp only[ba]);exact(KF hC).1
  refine ah hG ?_ ?_
  ·(try simp only[ba]);exact(KF hC).2
  refine aj ?_;refine s_g hG ?_;refine av ?_;refine q_e [] ?_;simp only[pe,bR];exact(mN hC.2.2.1).symm
 ·intro hb1;try simp only[bf] at hb1
  refine aq ?_;refine aj ?_;refine s_g hG ?_;refine av ?_;refine q_e [] ?_;exact PB hC hb1
def qu(B:ag):Tab:={types:= [(89,(.st (.pair .bool (.slice (.int .u32))))),(91,(.st (.pair (.st (.pair .bool (.slice (.int .u32)))) (.st (.pair .bool (.slice (.int .u32)))))))],elems:= [],cons:= [(108,mv),(109,AC),(110,AB)],hint:= [],N:=22,base:=B}
theorem AQ{B:ag}(hB:aB B):aG Tryz.prog (qu B):=⟨⟨tc gK (tc ty91 (ae)),af,by simp only[qu,ioB];omega⟩,aD (cc Tryz.func108 (l5 hB) (cc Tryz.func109 (yc hB) (cc Tryz.func110 (yb hB) (au)))),by kernel_rfl⟩
def kA:Con:=fun l os=>match l,os with
 | [.z (.st (.pair (.st (.pair .bool (.slice (.int .u32)))) (.st (.pair .bool (.slice (.int .u32)))))) x, .z (.st (.pair (.st (.pair .bool (.slice (.int .u32)))) (.st (.pair .bool (.slice (.int .u32)))))) y], []=>some (eO x y, [.z (.st (.pair (.st (.pair .bool (.slice (.int .u32)))) (.st (.pair .bool (.slice (.int .u32)))))) (bj (bc x+bc y))], [])
 |_,_=>none
theorem jQ{B:ag}(hB:aB B):Valid B Tryz.prog 58 kA:=by
 refine ab (AQ hB).tab Tryz.func58 rfl rfl rfl ?_;intro args os C rs os' hc hC;unfold kA at hc;split at hc;case h_2=>cases hc
 rename_i x y;cases hc;refine v_h (AQ hB) fun X hP hT hr hG=> ?_;have hU:=qu.eq_1;unfold qu at hT;have hX:=ai @AB.eq_1<|ai @mv.eq_1<| @AC.eq_1;simp only[Tryz.f58,aC,al,ioB];refine s_g hG ?_;refine s_d hG ?_ ?_
 ·try simp only[ba]
  exact Hm hC
 refine av ?_;refine q_e [] ?_;simp only[pe2];exact KG hC
def qv(B:ag):Tab:={types:= [(89,(.st (.pair .bool (.slice (.int .u32))))),(91,(.st (.pair (.st (.pair .bool (.slice (.int .u32)))) (.st (.pair .bool (.slice (.int .u32)))))))],elems:= [],cons:= [(148,AA)],hint:= [],N:=9,base:=B}
theorem AR{B:ag}(hB:aB B):aG Tryz.prog (qv B):=⟨⟨tc gK (tc ty91 (ae)),af,by simp only[qv,ioB];omega⟩,aD (cc Tryz.func148 (x7 hB) (au)),by kernel_rfl⟩
def Gk:Con:=fun l os=>match l,os with
 | [.z (.st (.pair (.st (.pair .bool (.slice (.int .u32)))) (.st (.pair .bool (.slice (.int .u32)))))) x], []=>some (NOK x/\lq (bc x)<=QC, [.z (.st (.pair (.st (.pair .bool (.slice (.int .u32)))) (.st (.pair .bool (.slice (.int .u32)))))) (bj (-bc x))], [])
 |_,_=>none
theorem Im{B:ag}(hB:aB B):Valid B Tryz.prog 111 Gk:=by
 refine ab (AR hB).tab Tryz.func111 rfl rfl rfl ?_;intro args os C rs os' hc hC;unfold Gk at hc;split at hc;case h_2=>cases hc
 rename_i x;cases hc;refine v_h (AR hB) fun X hP hT hr hG=> ?_;have hU:=qv.eq_1;unfold qv at hT;have hX:= @AA.eq_1;simp only[Tryz.f111,aC,al,ioB];refine s_g hG ?_;refine s_d hG ?_ ?_
 ·try simp only[ba]
  exact Hn hC
 refine av ?_;refine q_e [] ?_;exact KH hC.1
def qw(B:ag):Tab:={types:= [(91,(.st (.pair (.st (.pair .bool (.slice (.int .u32)))) (.st (.pair .bool (.slice (.int .u32)))))))],elems:= [],cons:= [(58,kA),(111,Gk)],hint:= [],N:=9,base:=B}
theorem AU{B:ag}(hB:aB B):aG Tryz.prog (qw B):=⟨⟨tc ty91 (ae),af,by simp only[qw,ioB];omega⟩,aD (cc Tryz.func58 (jQ hB) (cc Tryz.func111 (Im hB) (au))),by kernel_rfl⟩
def eS:Con:=fun l os=>match l,os with
 | [.z (.st (.pair (.st (.pair .bool (.slice (.int .u32)))) (.st (.pair .bool (.slice (.int .u32)))))) x, .z (.st (.pair (.st (.pair .bool (.slice (.int .u32)))) (.st (.pair .bool (.slice (.int .u32)))))) y], []=>some (eO x y, [.z (.st (.pair (.st (.pair .bool (.slice (.int .u32)))) (.st (.pair .bool (.slice (.int .u32)))))) (bj (bc x-bc y))], [])
 |_,_=>none
theorem oK{B:ag}(hB:aB B):Valid B Tryz.prog 60 eS:=by
 refine ab (AU hB).tab Tryz.func60 rfl rfl rfl ?_;intro args os C rs os' hc hC;unfold eS at hc;split at hc;case h_2=>cases hc
 rename_i x y;cases hc;refine v_h (AU hB) fun X hP hT hr hG=> ?_;have hU:=qw.eq_1;unfold qw at hT;have hX:=ai @kA.eq_1<| @Gk.eq_1;simp only[Tryz.f60,aC,al,ioB];refine s_g hG ?_;refine s_d hG ?_ ?_
 ·try simp only[ba]
  exact Ho hC
 refine av ?_;refine q_e [] ?_;simp only[pe2];exact KI x y
def qx(B:ag):Tab:={types:= [(89,(.st (.pair .bool (.slice (.int .u32))))),(91,(.st (.pair (.st (.pair .bool (.slice (.int .u32)))) (.st (.pair .bool (.slice (.int .u32)))))))],elems:= [],cons:= [(108,mv),(109,AC)],hint:= [],N:=16,base:=B}
theorem AW{B:ag}(hB:aB B):aG Tryz.prog (qx B):=⟨⟨tc gK (tc ty91 (ae)),af,by simp only[qx,ioB];omega⟩,aD (cc Tryz.func108 (l5 hB) (cc Tryz.func109 (yc hB) (au))),by kernel_rfl⟩
def dF:Con:=fun l os=>match l,os with
 | [.z (.st (.pair (.st (.pair .bool (.slice (.int .u32)))) (.st (.pair .bool (.slice (.int .u32)))))) x, .z (.st (.pair (.st (.pair .bool (.slice (.int .u32)))) (.st (.pair .bool (.slice (.int .u32)))))) y], []=>some (eO x y, [.z (.st (.pair (.st (.pair .bool (.slice (.int .u32)))) (.st (.pair .bool (.slice (.int .u32)))))) (bj (bc x*bc y))], [])
 |_,_=>none
theorem jR{B:ag}(hB:aB B):Valid B Tryz.prog 105 dF:=by
 refine ab (AW hB).tab Tryz.func105 rfl rfl rfl ?_;intro args os C rs os' hc hC;unfold dF at hc;split at hc;case h_2=>cases hc
 rename_i x y;cases hc;refine v_h (AW hB) fun X hP hT hr hG=> ?_;have hU:=qx.eq_1;unfold qx at hT;have hX:=ai @mv.eq_1<| @AC.eq_1;simp only[Tryz.f105,aC,al,ioB];refine s_g hG ?_;refine s_d hG ?_ ?_
 ·try simp only[ba]
  exact Hp hC
 refine av ?_;refine q_e [] ?_;simp only[pe2];exact KJ hC
def qy(B:ag):Tab:={types:= [(89,(.st (.pair .bool (.slice (.int .u32))))),(91,(.st (.pair (.st (.pair .bool (.slice (.int .u32)))) (.st (.pair .bool (.slice (.int .u32)))))))],elems:= [],cons:= [(108,mv),(109,AC)],hint:= [],N:=16,base:=B}
theorem AX{B:ag}(hB:aB B):aG Tryz.prog (qy B):=⟨⟨tc gK (tc ty91 (ae)),af,by simp only[qy,ioB];omega⟩,aD (cc Tryz.func108 (l5 hB) (cc Tryz.func109 (yc hB) (au))),by kernel_rfl⟩
def fB:Con:=fun l os=>match l,os with
 | [.z (.st (.pair (.st (.pair .bool (.slice (.int .u32)))) (.st (.pair .bool (.slice (.int .u32)))))) x, .z (.st (.pair (.st (.pair .bool (.slice (.int .u32)))) (.st (.pair .bool (.slice (.int .u32)))))) y], []=>some (eO x y/\bc y≠0, [.z (.st (.pair (.st (.pair .bool (.slice (.int .u32)))) (.st (.pair .bool (.slice (.int .u32)))))) (bj (bc x/bc y))], [])
 |_,_=>none
theorem wD{B:ag}(hB:aB B):Valid B Tryz.prog 119 fB:=by
 refine ab (AX hB).tab Tryz.func119 rfl rfl rfl ?_;intro args os C rs os' hc hC;unfold fB at hc;split at hc;case h_2=>cases hc
 rename_i x y;cases hc;refine v_h (AX hB) fun X hP hT hr hG=> ?_;have hU:=qy.eq_1;unfold qy at hT;have hX:=ai @mv.eq_1<| @AC.eq_1;simp only[Tryz.f119,aC,al,ioB];refine s_g hG ?_;refine s_d hG ?_ ?_
 ·try simp only[ba]
  exact Hq hC
 refine av ?_;refine q_e [] ?_;simp only[pe2];exact KK hC.1
def qz(B:ag):Tab:={types:= [(89,(.st (.pair .bool (.slice (.int .u32))))),(91,(.st (.pair (.st (.pair .bool (.slice (.int .u32)))) (.st (.pair .bool (.slice (.int .u32)))))))],elems:= [],cons:= [(154,pJ)],hint:= [],N:=6,base:=B}
theorem AY{B:ag}(hB:aB B):aG Tryz.prog (qz B):=⟨⟨tc gK (tc ty91 (ae)),af,by simp only[qz,ioB];omega⟩,aD (cc Tryz.func154 (x8 hB) (au)),by kernel_rfl⟩
def lC:Con:=fun l os=>match l,os with
 | [.z (.st (.pair (.st (.pair .bool (.slice (.int .u32)))) (.st (.pair .bool (.slice (.int .u32)))))) x], []=>some (NOK x, [.z (.int .i64) (bx (bc x).num 0)], [])
 |_,_=>none
theorem oL{B:ag}(hB:aB B):Valid B Tryz.prog 114 lC:=by
 refine ab (AY hB).tab Tryz.func114 rfl rfl rfl ?_;intro args os C rs os' hc hC;unfold lC at hc;split at hc;case h_2=>cases hc
 rename_i x;cases hc;refine v_h (AY hB) fun X hP hT hr hG=> ?_;have hU:=qz.eq_1;unfold qz at hT;have hX:= @pJ.eq_1;simp only[Tryz.f114,aC,al,ioB];refine s_g hG ?_;refine s_q hG ?_ ?_
 ·try simp only[ba]
  exact hC.w1
 refine av ?_;refine q_e [] ?_;rw[hC.d1]
def qA(B:ag):Tab:={types:= [(3,(.int .i64)),(89,(.st (.pair .bool (.slice (.int .u32))))),(91,(.st (.pair (.st (.pair .bool (.slice (.int .u32)))) (.st (.pair .bool (.slice (.int .u32)))))))],elems:= [],cons:= [(108,mv),(133,jn)],hint:= [],N:=10,base:=B}
theorem AZ{B:ag}(hB:aB B):aG Tryz.prog (qA B):=⟨⟨tc ty3 (tc gK (tc ty91 (ae))),af,by simp only[qA,ioB];omega⟩,aD (cc Tryz.func108 (l5 hB) (cc Tryz.func133 (qg hB) (au))),by kernel_rfl⟩
def Io:Con:=fun l os=>match l,os with
 | [.z (.int .i64) n, .z (.int .i64) d], []=>some (I64 n/\I64 d/\d≠0, [.z (.st (.pair (.st (.pair .bool (.slice (.int .u32)))) (.st (.pair .bool (.slice (.int .u32)))))) (bj (Rat.divInt n d))], [])
 |_,_=>none
theorem wE{B:ag}(hB:aB B):Valid B Tryz.prog 124 Io:=by
 refine ab (AZ hB).tab Tryz.func124 rfl rfl rfl ?_;intro args os C rs os' hc hC;unfold Io at hc;split at hc;case h_2=>cases hc
 rename_i n d;cases hc;refine v_h (AZ hB) fun X hP hT hr hG=> ?_;have hU:=qA.eq_1;unfold qA at hT;have hX:=ai @mv.eq_1<| @jn.eq_1;simp only[Tryz.f124,aC,al,ioB];refine s_g hG ?_;refine s_q hG ?_ ?_
 ·try simp only[ba]
  exact KL hC
 refine av ?_;refine q_e [] ?_;simp only[pe2];exact Nx n d
def qB(B:ag):Tab:={types:= [(3,(.int .i64)),(91,(.st (.pair (.st (.pair .bool (.slice (.int .u32)))) (.st (.pair .bool (.slice (.int .u32)))))))],elems:= [],cons:= [(124,Io)],hint:= [],N:=2,base:=B}
theorem A0{B:ag}(hB:aB B):aG Tryz.prog (qB B):=⟨⟨tc ty3 (tc ty91 (ae)),af,by simp only[qB,ioB];omega⟩,aD (cc Tryz.func124 (wE hB) (au)),by kernel_rfl⟩
def ev:Con:=fun l os=>match l,os with
 | [], []=>some (True, [.z (.st (.pair (.st (.pair .bool (.slice (.int .u32)))) (.st (.pair .bool (.slice (.int .u32)))))) (bj 0)], [])
 |_,_=>none
theorem l6{B:ag}(hB:aB B):Valid B Tryz.prog 113 ev:=by
 refine ab (A0 hB).tab Tryz.func113 rfl rfl rfl ?_;intro args os C rs os' hc hC;unfold ev at hc;split at hc;case h_2=>cases hc
 cases hc;refine v_h (A0 hB) fun X hP hT hr hG=> ?_;have hU:=qB.eq_1;unfold qB at hT;have hX:= @Io.eq_1;simp only[Tryz.f113,aC,al,ioB];refine s_g hG ?_;refine s_q hG ?_ ?_
 ·try simp only[ba]
  exact⟨by unfold I64;omega,by unfold I64;omega,by decide⟩
 refine av ?_;refine q_e [] ?_;simp only[pe2];rw[zero_divInt]
def qC(B:ag):Tab:={types:= [(3,(.int .i64)),(87,(.slice (.int .u32))),(89,(.st (.pair .bool (.slice (.int .u32))))),(91,(.st (.pair (.st (.pair .bool (.slice (.int .u32)))) (.st (.pair .bool (.slice (.int .u32))))))),(161,(.int .u32))],elems:= [],cons:= [],hint:= [],N:=16,base:=B}
theorem A1{B:ag}(hB:aB B):aG Tryz.prog (qC B):=⟨⟨tc ty3 (tc iz (tc gK (tc ty91 (tc fU (ae))))),af,by simp only[qC,ioB];omega⟩,bH rfl,by kernel_rfl⟩
def qD:Con:=fun l os=>match l,os with
 | [.z (.st (.pair (.st (.pair .bool (.slice (.int .u32)))) (.st (.pair .bool (.slice (.int .u32)))))) x], []=>some (NOK x, [.z .bool (decide ((bc x).den=1))], [])
 |_,_=>none
theorem Ip{B:ag}(hB:aB B):Valid B Tryz.prog 170 qD:=by
 refine ab (A1 hB).tab Tryz.func170 rfl rfl rfl ?_;intro args os C rs os' hc hC;unfold qD at hc;split at hc;case h_2=>cases hc
 rename_i x;cases hc;refine v_h (A1 hB) fun X hP hT hr hG=> ?_;have hU:=qC.eq_1;unfold qC at hT;have hX:=Bool.not_true;simp only[Tryz.f170,aC,al,ioB];refine s_g hG ?_;refine s_q hG ?_ ?_
 ·try simp only[ba]
  (repeat' (first|apply And.intro|intro _))<;>(try simp only[decide_eq_true_eq,decide_eq_false_iff_not,Bool.not_eq_true',beq_iff_eq,Int.toNat_natCast] at*)<;>first|assumption|omega|trivial|(simp_all;done)|(simp_all;omega)
 refine av ?_;refine q_e [] ?_;exact Dh hC
def qE(B:ag):Tab:={types:= [(3,(.int .i64)),(89,(.st (.pair .bool (.slice (.int .u32))))),(91,(.st (.pair (.st (.pair .bool (.slice (.int .u32)))) (.st (.pair .bool (.slice (.int .u32)))))))],elems:= [],cons:= [(169,qf)],hint:= [],N:=17,base:=B}
theorem A2{B:ag}(hB:aB B):aG Tryz.prog (qE B):=⟨⟨tc ty3 (tc gK (tc ty91 (ae))),af,by simp only[qE,ioB];omega⟩,aD (cc Tryz.func169 (OG hB) (au)),by kernel_rfl⟩
def lD:Con:=fun l os=>match l,os with
 | [.z (.st (.pair (.st (.pair .bool (.slice (.int .u32)))) (.st (.pair .bool (.slice (.int .u32)))))) x, .z (.int .i64) k], []=>some (NOK x/\lq (bc x)<=QC, [.z .bool (decide (cB (bc x).num<=k/\cB ((bc x).den:Int)<=k))], [])
 |_,_=>none
theorem oM{B:ag}(hB:aB B):Valid B Tryz.prog 129 lD:=by
 refine ab (A2 hB).tab Tryz.func129 rfl rfl rfl ?_;intro args os C rs os' hc hC;unfold lD at hc;split at hc;case h_2=>cases hc
 rename_i x k;cases hc;refine v_h (A2 hB) fun X hP hT hr hG=> ?_;have hU:=qE.eq_1;unfold qE at hT;have hX:= @qf.eq_1;simp only[Tryz.f129,aC,al,ioB];refine s_g hG ?_;refine s_q hG ?_ ?_
 ·try simp only[ba]
  exact⟨(kf hC).1,id,fun h=>⟨h,(kf hC).2⟩,id⟩
 refine av ?_;refine q_e [] ?_;exact Hr k hC.1
def qF(B:ag):Tab:={types:= [(89,(.st (.pair .bool (.slice (.int .u32))))),(91,(.st (.pair (.st (.pair .bool (.slice (.int .u32)))) (.st (.pair .bool (.slice (.int .u32)))))))],elems:= [],cons:= [],hint:= [],N:=8,base:=B}
theorem A3{B:ag}(hB:aB B):aG Tryz.prog (qF B):=⟨⟨tc gK (tc ty91 (ae)),af,by simp only[qF,ioB];omega⟩,bH rfl,by kernel_rfl⟩
def qG:Con:=fun l os=>match l,os with
 | [.z (.st (.pair (.st (.pair .bool (.slice (.int .u32)))) (.st (.pair .bool (.slice (.int .u32)))))) x], []=>some (True, [.z (.st (.pair .bool (.slice (.int .u32)))) x.1, .z (.st (.pair .bool (.slice (.int .u32)))) x.2], [])
 |_,_=>none
theorem Iq{B:ag}(hB:aB B):Valid B Tryz.prog 167 qG:=by
 refine ab (A3 hB).tab Tryz.func167 rfl rfl rfl ?_;intro args os C rs os' hc hC;unfold qG at hc;split at hc;case h_2=>cases hc
 rename_i x;cases hc;refine v_h (A3 hB) fun X hP hT hr hG=> ?_;have hU:=qF.eq_1;unfold qF at hT;have hX:=Bool.not_true;simp only[Tryz.f167,aC,al,ioB];refine s_g hG ?_;refine s_d hG ?_ ?_;·first|trivial|omega|(simp;done)|(simp;omega)
 refine av ?_;refine q_e [] ?_;trivial
def qH(B:ag):Tab:={types:= [(9, .str),(89,(.st (.pair .bool (.slice (.int .u32))))),(91,(.st (.pair (.st (.pair .bool (.slice (.int .u32)))) (.st (.pair .bool (.slice (.int .u32)))))))],elems:= [],cons:= [(144,Eo),(170,qD)],hint:= [],N:=16,base:=B}
theorem A4{B:ag}(hB:aB B):aG Tryz.prog (qH B):=⟨⟨tc ty9 (tc gK (tc ty91 (ae))),af,by simp only[qH,ioB];omega⟩,aD (cc Tryz.func144 (Ng hB) (cc Tryz.func170 (Ip hB) (au))),by kernel_rfl⟩
def oN:Con:=fun l os=>match l,os with
 | [.z (.st (.pair (.st (.pair .bool (.slice (.int .u32)))) (.st (.pair .bool (.slice (.int .u32)))))) x], []=>some (NOK x/\lq (bc x)<=QC, [.z .str (aS (bc x))], [])
 |_,_=>none
theorem wF{B:ag}(hB:aB B):Valid B Tryz.prog 130 oN:=by
 refine ab (A4 hB).tab Tryz.func130 rfl rfl rfl ?_;intro args os C rs os' hc hC;unfold oN at hc;split at hc;case h_2=>cases hc
 rename_i x;cases hc;refine v_h (A4 hB) fun X hP hT hr hG=> ?_;have hU:=qH.eq_1;unfold qH at hT;have hX:=ai @qD.eq_1<| @Eo.eq_1;simp only[Tryz.f130,aC,al,ioB];refine s_g hG ?_;refine ak ?_;refine s_q hG ?_ ?_
 ·try simp only[ba]
  exact hC.1
 refine ao ?_ ?_
 ·intro hb0;try simp only[bt] at hb0
  refine s_q hG ?_ ?_
  ·(try simp only[ba]);exact zM hC
  refine av ?_;refine aw ?_;refine q_e [] ?_;exact Hs hC.1 hb0
 ·intro hb0;try simp only[bf] at hb0
  refine aq ?_;refine aj ?_;refine s_d hG ?_ ?_
  ·(try simp only[ba]);exact zO hC
  refine av ?_;refine q_e [] ?_;exact Ht hC.1 hb0
end Go.Proofs.YtdojbabpnaifoaaGreatDoor
end
section
namespace Go.Proofs
open Go.RowKit Go.Cm
def Ir:Con:=fun l os=>match l,os with
 | [.z .str s, .z .str t], []=>some (t= [47]/\s.length<4294967281, [.z .str (tN s), .z .str (if ca s=true then tR s else []), .z .bool (ca s)], [])
 |_,_=>none
theorem wG{B:ag}(hB:aB B):Valid B Tryz.prog 131 Ir:=by
 intro args os C rs os' hc hC O w vals ρ0 hOn hIo hO hOI hargs hown hap;unfold Ir at hc;split at hc;case h_2=>cases hc
 rename_i s t;cases hc;obtain⟨u,v,rfl,hu,hv⟩:=zb hargs;rw[fI hv,fI hu];obtain⟨rfl,h1⟩:=hC;obtain⟨m,hm⟩:=hB.2 w hOn;have hsz:(⟨s.toArray⟩:ByteArray).size=s.length:=by simp[ByteArray.size]
 refine(Tryz.strings_Cut ⟨s.toArray⟩ ⟨[47].toArray⟩ m w (by rw[hsz];exact h1) hm).mono fun e w' ⟨he,n,hw⟩=> ?_;have hb:Below w.heap.size w w':=by rw[hw];exact⟨rfl,rfl,rfl,Nat.le_refl _,fun _ _=>rfl⟩
 have e1:Lib.cut (⟨s.toArray⟩:ByteArray).data.toList (⟨[47].toArray⟩:ByteArray).data.toList=(tN s,if ca s=true then tR s else [],ca s):=by simpa using Hu s
 rw[e1] at he;subst he;exact nm (vs:= [.string ⟨(tN s).toArray⟩, .string ⟨(if ca s=true then tR s else []).toArray⟩, .bool (ca s)]) hb (fun H M=>⟨e8 (ρ:=fun _=>undef),e8 (ρ:=fun _=>undef),bX (ρ:=fun _=>undef),trivial⟩)
end Go.Proofs
end
section
namespace Go.Proofs.YtdojbabpnaifoaaGreatDoor
open Go Go.Cm Go.Proofs
def Gl(B:ag):Tab:={types:= [(3,(.int .i64)),(5,(.int .u8)),(9, .str),(47,(.slice (.int .u8)))],elems:= [(47,5)],cons:= [(172,eY)],hint:= [],N:=38,base:=B}
theorem MI{B:ag}(hB:aB B):aG Tryz.prog (Gl B):=⟨⟨tc ty3 (tc ty5 (tc ty9 (tc Pr (ae)))),aR (by kernel_rfl) (af),by simp only[Gl,ioB];omega⟩,aD (cc Tryz.func172 (FQ hB) (au)),by kernel_rfl⟩
def yq:Con:=fun l os=>match l,os with
 | [.z .str s], []=>some (ns s, [.z (.int .i64) (chk s)], [])
 |_,_=>none
theorem OO{B:ag}(hB:aB B):Valid B Tryz.prog 142 yq:=by
 refine ab (MI hB).tab Tryz.func142 rfl rfl rfl ?_;intro args os C rs os' hc hC;unfold yq at hc;split at hc;case h_2=>cases hc
 rename_i s;cases hc;refine v_h (MI hB) fun X hP hT hr hG=> ?_;have hU:=Gl.eq_1;unfold Gl at hT;have hX:= @eY.eq_1;simp only[Tryz.f142,aC,al,ioB];refine s_g hG ?_;refine Eh ?_;refine s_g hG ?_;refine s_g hG ?_;refine ak ?_;refine Eg ?_;refine aj ?_;refine ck (fun(z:Int)=>(⟨[(4, .l (.z (.int .i64) z))], []⟩:aa)) (fun z=>z=chk s) ?_ ?_
 ·refine ax ?_;refine s_g hG ?_;refine ao ?_ ?_;·intro hb0;(try simp only[bt] at hb0);refine aq ?_;refine aL ?_;show ∃ z,_;refine q_l ?_;first|(rw[hb0];exact kQ.symm)|exact(jD hb0 ((ic _).1 hb1)).symm|exact(nr hb0 (dY hb1) (by rw[dz] at hb2;omega) (kR hb3)).symm|(rw[dz] at hb2;rw[jE hb0 (dY hb1) (by rw[List.take_of_length_le (by omega)] at g2;exact g2)];first|rw[if_pos (by omega)]|rw[if_neg (by omega)])
  ·intro hb0;(try simp only[bf] at hb0);refine s_q hG ?_ ?_
   ·(try simp only[ba]);exact J3 _
   refine ao ?_ ?_
   ·(intro hb1;(try simp only[bt] at hb1);refine ah hG ?_ ?_;·first|trivial|omega|(simp;done)|(simp;omega));refine aL ?_;show ∃ z,_;refine q_l ?_;first|(rw[hb0];exact kQ.symm)|exact(jD hb0 ((ic _).1 hb1)).symm|exact(nr hb0 (dY hb1) (by rw[dz] at hb2;omega) (kR hb3)).symm|(rw[dz] at hb2;rw[jE hb0 (dY hb1) (by rw[List.take_of_length_le (by omega)] at g2;exact g2)];first|rw[if_pos (by omega)]|rw[if_neg (by omega)])
   ·intro hb1;(try simp only[bf] at hb1);refine ak ?_;refine s_q hG ?_ ?_
    ·(try simp only[ba]);have:=fR s [45];have hC:s.length<70368744177664:=hC;omega
    (refine ax ?_;refine br (fun(z:Nat)=>(⟨[(0, .l (.z .str s)),(3, .l (.z .str (aA s [45]))),(4, .l (.z (.int .i64) 0)),(10, .l (.z (.slice (.int .u8)) (bytesOf (aA s [45])))),(11, .l (.z (.int .i64) ((bytesOf (aA s [45])).length:Int))),(12, .l (.z (.int .i64) (z:Int)))], []⟩:aa)) (fun z=>z<=(aA s [45]).length/\(List.take z (aA s [45])).all gN=true) (fun z=>(aA s [45]).length-z) 0 ?_ ?_ ?_;·refine q_l ?_;rfl);·exact⟨Nat.zero_le _,rfl⟩
    ·rintro k ⟨g1,g2⟩;(try dsimp only at g1 g2);have hS:(aA s [45]).length<70368744177664:=Nat.lt_of_le_of_lt (fR s _) hC;refine s_g hG ?_;refine ak ?_;refine ao ?_ ?_
     ·intro hb2;(try simp only[bt] at hb2);refine aq ?_;refine aj ?_;refine ak ?_;refine ax ?_;refine s_q hG ?_ ?_
      ·(try simp only[ba]);exact⟨by omega,hb2⟩
      refine s_q hG ?_ ?_
      ·(try simp only[ba]);exact⟨fun h=>h,fun h=>by rw[h];rfl⟩
      refine ao ?_ ?_;·intro hb3;(try simp only[bt] at hb3);refine s_g hG ?_;refine bh ?_;refine iU rfl ?_;refine aE ?_;refine az ?_;refine iU rfl ?_;refine aE ?_;refine ay ?_;show ∃ z,_;refine q_l ?_;first|(rw[hb0];exact kQ.symm)|exact(jD hb0 ((ic _).1 hb1)).symm|exact(nr hb0 (dY hb1) (by rw[dz] at hb2;omega) (kR hb3)).symm|(rw[dz] at hb2;rw[jE hb0 (dY hb1) (by rw[List.take_of_length_le (by omega)] at g2;exact g2)];first|rw[if_pos (by omega)]|rw[if_neg (by omega)])
      ·(intro hb3;(try simp only[bf] at hb3);refine aq ?_;refine aL ?_;refine aj ?_;refine ah hG ?_ ?_;·first|trivial|omega|(simp;done)|(simp;omega));show ∃ z,_;refine q_l ?_;rw[dz] at hb2;exact⟨k+1,by rw[wi (by omega) (by omega)];simp,by omega,uU g2 (G8 hb3),by omega⟩
     ·intro hb2;(try simp only[bf] at hb2);refine bh ?_;refine aE ?_;refine az ?_;refine ay ?_;refine aj ?_;refine s_g hG ?_;refine ao ?_ ?_
      ·(intro hb4;(try simp only[bt] at hb4);refine ah hG ?_ ?_;·first|trivial|omega|(simp;done)|(simp;omega));refine aL ?_;show ∃ z,_;refine q_l ?_;first|(rw[hb0];exact kQ.symm)|exact(jD hb0 ((ic _).1 hb1)).symm|exact(nr hb0 (dY hb1) (by rw[dz] at hb2;omega) (kR hb3)).symm|(rw[dz] at hb2;rw[jE hb0 (dY hb1) (by rw[List.take_of_length_le (by omega)] at g2;exact g2)];first|rw[if_pos (by omega)]|rw[if_neg (by omega)])
      ·intro hb4;(try simp only[bf] at hb4);refine aq ?_;refine aL ?_;show ∃ z,_;refine q_l ?_;first|(rw[hb0];exact kQ.symm)|exact(jD hb0 ((ic _).1 hb1)).symm|exact(nr hb0 (dY hb1) (by rw[dz] at hb2;omega) (kR hb3)).symm|(rw[dz] at hb2;rw[jE hb0 (dY hb1) (by rw[List.take_of_length_le (by omega)] at g2;exact g2)];first|rw[if_pos (by omega)]|rw[if_neg (by omega)])
 rintro z hz;try dsimp only at hz
 refine s_g hG ?_;refine av ?_;refine gA ?_;refine q_e [] ?_;exact hz
def qI(B:ag):Tab:={types:= [(3,(.int .i64)),(4, .bool),(9, .str),(87,(.slice (.int .u32))),(89,(.st (.pair .bool (.slice (.int .u32))))),(161,(.int .u32)),(164,(.int .u64))],elems:= [(87,161)],cons:= [(150,ef),(172,eY),(173,xl)],hint:= [],N:=44,base:=B}
theorem A5{B:ag}(hB:aB B):aG Tryz.prog (qI B):=⟨⟨tc ty3 (tc ty4 (tc ty9 (tc iz (tc gK (tc fU (tc nw (ae))))))),aR (by kernel_rfl) (af),by simp only[qI,ioB];omega⟩,aD (cc Tryz.func150 (km hB) (cc Tryz.func172 (FQ hB) (cc Tryz.func173 (Nd hB) (au)))),by kernel_rfl⟩
def yr:Con:=fun l os=>match l,os with
 | [.z .str s], []=>some (RF s/\s.length<CAP, [.z (.st (.pair .bool (.slice (.int .u32)))) (enc (an s))], [])
 |_,_=>none
theorem Is{B:ag}(hB:aB B):Valid B Tryz.prog 132 yr:=by
 refine ab (A5 hB).tab Tryz.func132 rfl rfl rfl ?_;intro args os C rs os' hc hC;unfold yr at hc;split at hc;case h_2=>cases hc
 rename_i s;cases hc;refine v_h (A5 hB) fun X hP hT hr hG=> ?_;have hU:=qI.eq_1;unfold qI at hT;have hX:=ai @xl.eq_1<|ai @eY.eq_1<| @ef.eq_1;simp only[Tryz.f132,aC,al,ioB];refine s_g hG ?_;refine s_g hG ?_;refine s_g hG ?_;refine ak ?_;refine s_g hG ?_;refine ax ?_;refine br (fun(z:Nat×List Int)=>(⟨[(3, .l (.z .str (aA s [45]))),(5, .l (.z (.int .i64) (((aA s [45]).length:Int)-9*(z.1:Int)))),(4, .l (.ownP 4 0)),(2, .l (.ownP 2 0))], [(4, .box 89 [.z .bool (decide ((aA s [45]).length<s.length)), .ownS 37]),(37, .arr (.int .u32) 161 z.2),(2, .box 89 [.z .bool false, .val (.slice none 0 0)])]⟩:aa)) (fun z=>ReadPhi (aA s [45]) z.1 z.2) (fun z=>(aA s [45]).length+9-9*z.1) (0, []) ?_ ?_ ?_;·refine q_l ?_;exact⟨by show ((aA s [45]).length:Int)=((aA s [45]).length:Int)-9*((0:Nat):Int);omega,by congr 1;simp,by unfold ioB;omega⟩
 ·exact read_start
 ·rintro⟨r,out⟩ hz;try dsimp only at hz
  obtain⟨d1,d2,d4⟩:=gV hC.1;have d3:(aA s [45]).length<1000000000000:=Nat.lt_of_le_of_lt (fR s _) hC.2;have hz1:=hz.1;have hz4:=hz.2.2.2;refine ak ?_;refine s_g hG ?_;refine ao ?_ ?_
  ·intro hb0;(try simp only[bt] at hb0);refine aq ?_;refine aj ?_;refine ak ?_;refine ax ?_;refine s_q hG ?_ ?_
   ·(try simp only[ba]);obtain⟨e1,e2,e3⟩:=vG hb0 d3;obtain⟨q1,q2,q3,q4,q5⟩:=read_next d1 hz hb0 rfl;rw[e1,e2,e3];exact⟨⟨by omega,by omega,by omega⟩,q1,q2,q3⟩
   refine ah hG ?_ ?_
   ·(try simp only[ba]);unfold Cm.Roomy;omega
   (refine aL ?_;refine aj ?_;refine ah hG ?_ ?_;·first|trivial|omega|(simp;done)|(simp;omega));show ∃ z,_;refine q_l ?_;obtain⟨e1,e2,e3⟩:=vG hb0 d3;obtain⟨q1,q2,q3,q4,q5⟩:=read_next d1 hz hb0 rfl;rw[e1,e2,e3];exact⟨r+1,by show ((aA s [45]).length:Int)-9*(r:Int)-9=((aA s [45]).length:Int)-9*((r+1:Nat):Int);omega,q4,by omega⟩
  ·intro hb0;(try simp only[bf] at hb0);refine bh ?_;refine aE ?_;refine az ?_;refine ay ?_;refine aj ?_;refine s_q hG ?_ ?_
   ·(try simp only[ba]);exact⟨hz.2.1,by unfold CAP;omega⟩
   refine av ?_;refine q_e [37] ?_;rw[read_end hz hb0]
def qJ(B:ag):Tab:={types:= [(3,(.int .i64)),(9, .str),(91,(.st (.pair (.st (.pair .bool (.slice (.int .u32)))) (.st (.pair .bool (.slice (.int .u32)))))))],elems:= [],cons:= [(131,Ir),(132,yr),(133,jn)],hint:= [],N:=23,base:=B}
theorem A6{B:ag}(hB:aB B):aG Tryz.prog (qJ B):=⟨⟨tc ty3 (tc ty9 (tc ty91 (ae))),af,by simp only[qJ,ioB];omega⟩,aD (cc Tryz.func131 (wG hB) (cc Tryz.func132 (Is hB) (cc Tryz.func133 (qg hB) (au)))),by kernel_rfl⟩
def pL:Con:=fun l os=>match l,os with
 | [.z .str q], []=>some (eU q, [.z (.st (.pair (.st (.pair .bool (.slice (.int .u32)))) (.st (.pair .bool (.slice (.int .u32)))))) (gC q)], [])
 |_,_=>none
theorem oO{B:ag}(hB:aB B):Valid B Tryz.prog 90 pL:=by
 refine ab (A6 hB).tab Tryz.func90 rfl rfl rfl ?_;intro args os C rs os' hc hC;unfold pL at hc;split at hc;case h_2=>cases hc
 rename_i q;cases hc;refine v_h (A6 hB) fun X hP hT hr hG=> ?_;have hU:=qJ.eq_1;unfold qJ at hT;have hX:=ai @Ir.eq_1<|ai @yr.eq_1<| @jn.eq_1;simp only[Tryz.f90,aC,al,ioB];refine s_g hG ?_;refine s_q hG ?_ ?_
 ·try simp only[ba]
  exact(oo hC).1
 refine ak ?_;refine s_g hG ?_;refine ao ?_ ?_
 ·intro hb0;try simp only[bt] at hb0
  refine s_q hG ?_ ?_
  ·(try simp only[ba]);exact⟨(oo hC).2.1,by unfold I64;omega⟩
  refine av ?_;refine aw ?_;refine q_e [] ?_;exact KO hb0
 ·intro hb0;try simp only[bf] at hb0
  refine aq ?_;refine aj ?_;refine s_q hG ?_ ?_
  ·(try simp only[ba]);rw[k8 hb0];exact(oo hC).2
  refine av ?_;refine q_e [] ?_;rw[k8 hb0];rfl
def qK(B:ag):Tab:={types:= [(3,(.int .i64)),(9, .str),(31,(.int .i64)),(46, .str),(89,(.st (.pair .bool (.slice (.int .u32))))),(91,(.st (.pair (.st (.pair .bool (.slice (.int .u32)))) (.st (.pair .bool (.slice (.int .u32))))))),(151,(.st (.pair (.st (.pair (.st (.pair .bool (.slice (.int .u32)))) (.st (.pair .bool (.slice (.int .u32)))))) (.int .i64))))],elems:= [],cons:= [(90,pL),(129,lD),(131,Ir),(133,jn),(142,yq),(147,wC),(167,qG),(168,OD)],hint:= [],N:=61,base:=B}
theorem A7{B:ag}(hB:aB B):aG Tryz.prog (qK B):=⟨⟨tc ty3 (tc ty9 (tc jF (tc gr (tc gK (tc ty91 (tc zD (ae))))))),af,by simp only[qK,ioB];omega⟩,aD (cc Tryz.func90 (oO hB) (cc Tryz.func129 (oM hB) (cc Tryz.func131 (wG hB) (cc Tryz.func133 (qg hB) (cc Tryz.func142 (OO hB) (cc Tryz.func147 (Gj hB) (cc Tryz.func167 (Iq hB) (cc Tryz.func168 (OE hB) (au))))))))),by kernel_rfl⟩
def jq:Con:=fun l os=>match l,os with
 | [.z .str q], []=>some (q.length<=QL, [.z (.st (.pair (.st (.pair (.st (.pair .bool (.slice (.int .u32)))) (.st (.pair .bool (.slice (.int .u32)))))) (.int .i64))) (dC q)], [])
 |_,_=>none
theorem l7{B:ag}(hB:aB B):Valid B Tryz.prog 128 jq:=by
 refine ab (A7 hB).tab Tryz.func128 rfl rfl rfl ?_;intro args os C rs os' hc hC;unfold jq at hc;split at hc;case h_2=>cases hc
 rename_i q;cases hc;refine v_h (A7 hB) fun X hP hT hr hG=> ?_;have hU:=qK.eq_1;unfold qK at hT;have hX:=ai @yq.eq_1<|ai @OD.eq_1<|ai @Ir.eq_1<|ai @pL.eq_1<|ai @wC.eq_1<|ai @lD.eq_1<|ai @qG.eq_1<| @jn.eq_1;simp only[Tryz.f128,aC,al,ioB];refine s_g hG ?_;refine s_q hG ?_ ?_
 ·try simp only[ba]
  have h9:q.length<=1000000000:=hC;omega
 refine ck (fun(z:Unit)=>(⟨[(0, .l (.z .str q)),(2, .l (.ownP 2 0)),(3, .l (.z .str (tN q))),(4, .l (.z .str (tD q))),(5, .l (.z .bool (ca q)))], [(2, .box 151 [.z .bool false, .val (.slice none 0 0), .z .bool false, .val (.slice none 0 0), .z (.int .i64) 0])]⟩:aa)) (fun z=>True) ?_ ?_
 ·refine s_g hG ?_;refine ao ?_ ?_
  ·(intro hb0;(try simp only[bt] at hb0);refine ah hG ?_ ?_;·first|trivial|omega|(simp;done)|(simp;omega));show ∃ z,_;refine q_l ?_;first|exact xz hb0|exact k8 hb0
  ·intro hb0;(try simp only[bf] at hb0);refine aq ?_;show ∃ z,_;refine q_l ?_;first|exact xz hb0|exact k8 hb0
 rintro⟨⟩-;have hS:=KP hC;refine ak ?_;refine s_q hG ?_ ?_
 ·try simp only[ba]
  exact⟨hS.1,fun h=>⟨h,hS.2⟩,fun h=>h,fun h=>by rw[h];rfl⟩
 refine ao ?_ ?_
 ·intro hb1;try simp only[bt] at hb1
  refine s_g hG ?_;refine av ?_;refine aw ?_;refine q_e [] ?_;exact NA hb1
 ·intro hb1;try simp only[bf] at hb1
  have hF:=Nz hC hb1;refine aq ?_;refine aj ?_;refine s_q hG ?_ ?_
  ·(try simp only[ba]);exact hF
  refine s_g hG ?_;refine s_q hG ?_ ?_
  ·(try simp only[ba]);unfold I64;omega
  refine ak ?_;refine ax ?_;refine s_d hG ?_ ?_
  ·(try simp only[ba]);simp only[pe,gC,bR];exact⟨fun h=>⟨h,enc_ok _,enc_ok _,Qk hF⟩,fun h=>h,fun h=>h,fun h=>⟨h,PD hF⟩,fun h=>⟨h,enc_ok _,enc_ok _,Ql hF⟩,fun h=>h,fun h=>⟨h,fun h2=>by rw[h,h2];rfl⟩,fun h=>h⟩
  refine ao ?_ ?_;·intro hb2;(try simp only[bt] at hb2);simp only[pe,gC,bR] at hb2;refine s_g hG ?_;refine av ?_;refine bD ?_;refine aw ?_;refine q_e [] ?_;exact NB hF hb2
  ·intro hb2;(try simp only[bf] at hb2);simp only[pe,gC,bR] at hb2;have hR:=Qm hF hb2;refine s_q hG ?_ ?_
   ·(try simp only[ba]);exact NC hR
   (refine ao ?_ ?_;·intro hb3;(try simp only[bt] at hb3);refine s_g hG ?_;refine av ?_;refine bD ?_;refine aw ?_;refine q_e [] ?_;exact PF hR hb3);·intro hb3;(try simp only[bf] at hb3);refine aq ?_;refine aL ?_;refine aj ?_;refine s_g hG ?_;refine av ?_;refine q_e [] ?_;exact Qn hR hb3
def qL(B:ag):Tab:={types:= [(46, .str),(151,(.st (.pair (.st (.pair (.st (.pair .bool (.slice (.int .u32)))) (.st (.pair .bool (.slice (.int .u32)))))) (.int .i64))))],elems:= [],cons:= [(128,jq)],hint:= [],N:=6,base:=B}
theorem A8{B:ag}(hB:aB B):aG Tryz.prog (qL B):=⟨⟨tc gr (tc zD (ae)),af,by simp only[qL,ioB];omega⟩,aD (cc Tryz.func128 (l7 hB) (au)),by kernel_rfl⟩
def l8:Con:=fun l os=>match l,os with
 | [.z .str q], []=>some (q.length<=QL, [.z (.int .i64) (cO q)], [])
 |_,_=>none
theorem wH{B:ag}(hB:aB B):Valid B Tryz.prog 87 l8:=by
 refine ab (A8 hB).tab Tryz.func87 rfl rfl rfl ?_;intro args os C rs os' hc hC;unfold l8 at hc;split at hc;case h_2=>cases hc
 rename_i q;cases hc;refine v_h (A8 hB) fun X hP hT hr hG=> ?_;have hU:=qL.eq_1;unfold qL at hT;have hX:= @jq.eq_1;simp only[Tryz.f87,aC,al,ioB];refine s_g hG ?_;refine s_q hG ?_ ?_
 ·try simp only[ba]
  exact hC
 refine av ?_;refine q_e [] ?_;exact ik q
def qM(B:ag):Tab:={types:= [(3,(.int .i64)),(91,(.st (.pair (.st (.pair .bool (.slice (.int .u32)))) (.st (.pair .bool (.slice (.int .u32)))))))],elems:= [],cons:= [(129,lD),(130,oN)],hint:= [],N:=9,base:=B}
theorem A9{B:ag}(hB:aB B):aG Tryz.prog (qM B):=⟨⟨tc ty3 (tc ty91 (ae)),af,by simp only[qM,ioB];omega⟩,aD (cc Tryz.func129 (oM hB) (cc Tryz.func130 (wF hB) (au))),by kernel_rfl⟩
def lE:Con:=fun l os=>match l,os with
 | [.z (.st (.pair (.st (.pair .bool (.slice (.int .u32)))) (.st (.pair .bool (.slice (.int .u32)))))) x], []=>some (NOK x/\lq (bc x)<=QC, [.z .str (iA (bc x)), .z (.int .i64) (eV (bc x))], [])
 |_,_=>none
theorem oP{B:ag}(hB:aB B):Valid B Tryz.prog 143 lE:=by
 refine ab (A9 hB).tab Tryz.func143 rfl rfl rfl ?_;intro args os C rs os' hc hC;unfold lE at hc;split at hc;case h_2=>cases hc
 rename_i x;cases hc;refine v_h (A9 hB) fun X hP hT hr hG=> ?_;have hU:=qM.eq_1;unfold qM at hT;have hX:=ai @lD.eq_1<| @oN.eq_1;simp only[Tryz.f143,aC,al,ioB];refine s_g hG ?_;refine ak ?_;refine s_q hG ?_ ?_
 ·try simp only[ba]
  exact hC
 refine ao ?_ ?_
 ·intro hb0;try simp only[bt] at hb0
  refine s_g hG ?_;refine av ?_;refine aw ?_;refine q_e [] ?_;exact PH hb0
 ·intro hb0;try simp only[bf] at hb0
  refine aq ?_;refine aj ?_;refine s_q hG ?_ ?_
  ·(try simp only[ba]);exact hC
  refine av ?_;refine q_e [] ?_;exact PG hb0
def qN(B:ag):Tab:={types:= [(3,(.int .i64)),(22,(.slice .str)),(46, .str),(78,(.slice (.st (.pair (.st (.pair .bool (.slice (.int .u32)))) (.st (.pair .bool (.slice (.int .u32))))))))],elems:= [(78,91)],cons:= [(90,pL)],hint:= [18],N:=22,base:=B}
theorem Ba{B:ag}(hB:aB B):aG Tryz.prog (qN B):=⟨⟨tc ty3 (tc gB (tc gr (tc Nq (ae)))),aR (by kernel_rfl) (af),by simp only[qN,ioB];omega⟩,aD (cc Tryz.func90 (oO hB) (au)),by kernel_rfl⟩
def Gm:Con:=fun l os=>match l,os with
 | [.z (.slice .str) l], []=>some (l.length<QL/\∀ q∈l,eU q, [.own (.st (.pair (.st (.pair .bool (.slice (.int .u32)))) (.st (.pair .bool (.slice (.int .u32)))))) 91 (l.map gC)], [])
 |_,_=>none
theorem It{B:ag}(hB:aB B):Valid B Tryz.prog 106 Gm:=by
 refine ab (Ba hB).tab Tryz.func106 rfl rfl rfl ?_;intro args os C rs os' hc hC;unfold Gm at hc;split at hc;case h_2=>cases hc
 rename_i l;cases hc;refine v_h (Ba hB) fun X hP hT hr hG=> ?_;have hU:=qN.eq_1;unfold qN at hT;have hX:= @pL.eq_1;simp only[Tryz.f106,aC,al,ioB];have hl:l.length<1000000000:=hC.1;refine s_g hG ?_;refine s_q hG ?_ ?_
 ·try simp only[ba]
  exact⟨by omega,by omega,tS (by omega)⟩
 refine ak ?_;refine s_g hG ?_;refine ax ?_;refine br (fun(z:Nat)=>(⟨[(3, .l (.ownS 8)),(9, .l (.z (.slice .str) l)),(10, .l (.z (.int .i64) (l.length:Int))),(11, .l (.z (.int .i64) (z:Int)))], [(8, .arr (.st (.pair (.st (.pair .bool (.slice (.int .u32)))) (.st (.pair .bool (.slice (.int .u32)))))) 91 ((l.take z).map gC))]⟩:aa)) (fun z=>z<=l.length) (fun z=>l.length-z) 0 ?_ ?_ ?_;·refine q_l ?_;exact⟨rfl,rfl⟩
 ·omega
 ·rintro k g1;try dsimp only at g1
  refine s_g hG ?_;refine ak ?_;refine ao ?_ ?_
  ·intro hb0;(try simp only[bt] at hb0);refine aq ?_;refine aj ?_;refine ak ?_;refine ax ?_;refine s_q hG ?_ ?_
   ·(try simp only[ba]);exact⟨by omega,hb0⟩
   refine ah hG ?_ ?_
   ·(try simp only[ba]);exact⟨hC.2 _ (gu (t:= .str) (by omega)),tS (by simp;omega)⟩
   (refine aL ?_;refine aj ?_;refine ah hG ?_ ?_;·first|trivial|omega|(simp;done)|(simp;omega));show ∃ z,_;refine q_l ?_;exact list_round (by omega) hC.1
  ·intro hb0;(try simp only[bf] at hb0);refine bh ?_;refine aE ?_;refine az ?_;refine ay ?_;refine aj ?_;refine s_g hG ?_;refine av ?_;refine q_e [] ?_;exact⟨trivial,by rw[List.take_of_length_le (by omega)]⟩
def qO(B:ag):Tab:={types:= [(3,(.int .i64)),(22,(.slice .str)),(78,(.slice (.st (.pair (.st (.pair .bool (.slice (.int .u32)))) (.st (.pair .bool (.slice (.int .u32)))))))),(91,(.st (.pair (.st (.pair .bool (.slice (.int .u32)))) (.st (.pair .bool (.slice (.int .u32)))))))],elems:= [(22,46)],cons:= [(129,lD),(130,oN)],hint:= [],N:=26,base:=B}
theorem Bb{B:ag}(hB:aB B):aG Tryz.prog (qO B):=⟨⟨tc ty3 (tc gB (tc Nq (tc ty91 (ae)))),aR (by kernel_rfl) (af),by simp only[qO,ioB];omega⟩,aD (cc Tryz.func129 (oM hB) (cc Tryz.func130 (wF hB) (au))),by kernel_rfl⟩
def oQ:Con:=fun l os=>match l,os with
 | [.z (.slice (.st (.pair (.st (.pair .bool (.slice (.int .u32)))) (.st (.pair .bool (.slice (.int .u32))))))) l], []=>some (l.length<QL/\∀ x∈l,NOK x/\lq (bc x)<=QC, [.z (.slice .str) (if dD l=true then l.map fun x=>aS (bc x) else []), .z .bool (dD l)], [])
 |_,_=>none
theorem wI{B:ag}(hB:aB B):Valid B Tryz.prog 88 oQ:=by
 refine ab (Bb hB).tab Tryz.func88 rfl rfl rfl ?_;intro args os C rs os' hc hC;unfold oQ at hc;split at hc;case h_2=>cases hc
 rename_i l;cases hc;refine v_h (Bb hB) fun X hP hT hr hG=> ?_;have hU:=qO.eq_1;unfold qO at hT;have hX:=ai @lD.eq_1<| @oN.eq_1;simp only[Tryz.f88,aC,al,ioB];have hl:l.length<1000000000:=hC.1;refine s_g hG ?_;refine s_q hG ?_ ?_
 ·try simp only[ba]
  exact⟨by omega,by omega,xA (by omega)⟩
 refine ak ?_;refine s_g hG ?_;refine ax ?_;refine br (fun(z:Nat)=>(⟨[(2, .l (.val (.slice none 0 0))),(3, .l (.z .bool false)),(4, .l (.ownS 9)),(10, .l (.z (.slice (.st (.pair (.st (.pair .bool (.slice (.int .u32)))) (.st (.pair .bool (.slice (.int .u32))))))) l)),(11, .l (.z (.int .i64) (l.length:Int))),(12, .l (.z (.int .i64) (z:Int)))], [(9, .arr .str 46 ((l.take z).map fun x=>aS (bc x)))]⟩:aa)) (fun z=>z<=l.length/\dD (l.take z)=true) (fun z=>l.length-z) 0 ?_ ?_ ?_;·refine q_l ?_;exact⟨rfl,rfl⟩
 ·exact⟨by omega,by simp[dD]⟩
 ·rintro k ⟨g1,g2⟩;try dsimp only at g1 g2
  refine s_g hG ?_;refine ak ?_;refine ao ?_ ?_
  ·intro hb0;(try simp only[bt] at hb0);refine aq ?_;refine aj ?_;refine ak ?_;refine ax ?_;refine s_q hG ?_ ?_
   ·(try simp only[ba]);exact⟨by omega,hb0⟩
   refine ak ?_;refine s_q hG ?_ ?_
   ·(try simp only[ba]);exact hC.2 _ (gu (t:=NT) (by omega))
   refine ao ?_ ?_;·intro hb1;(try simp only[bt] at hb1);refine s_g hG ?_;refine av ?_;refine aw ?_;refine bD ?_;refine aw ?_;refine eF ?_;refine bD ?_;refine aw ?_;refine q_e [9] ?_;exact Hw (by omega) hb1
   ·intro hb1;(try simp only[bf] at hb1);refine aq ?_;refine aj ?_;refine ah hG ?_ ?_
    ·(try simp only[ba]);exact⟨⟨(hC.2 _ (gu (t:=NT) (by omega))).1,(hC.2 _ (gu (t:=NT) (by omega))).2⟩,xA (by simp;omega)⟩
    (refine aL ?_;refine aj ?_;refine ah hG ?_ ?_;·first|trivial|omega|(simp;done)|(simp;omega));show ∃ z,_;refine q_l ?_;exact zQ (by omega) hC.1 g2 hb1
  ·intro hb0;(try simp only[bf] at hb0);refine bh ?_;refine aE ?_;refine az ?_;refine ay ?_;refine aj ?_;refine s_g hG ?_;refine av ?_;refine q_e [9] ?_;exact Hx (by omega) g2
def qP(B:ag):Tab:={types:= [(3,(.int .i64)),(79,(.slice (.st (.pair (.st (.pair .bool (.slice (.int .u32)))) (.st (.pair .bool (.slice (.int .u32)))))))),(91,(.st (.pair (.st (.pair .bool (.slice (.int .u32)))) (.st (.pair .bool (.slice (.int .u32)))))))],elems:= [],cons:= [(114,lC)],hint:= [],N:=25,base:=B}
theorem Bc{B:ag}(hB:aB B):aG Tryz.prog (qP B):=⟨⟨tc ty3 (tc fT (tc ty91 (ae))),af,by simp only[qP,ioB];omega⟩,aD (cc Tryz.func114 (oL hB) (au)),by kernel_rfl⟩
def js:Con:=fun l os=>match l,os with
 | [.z (.slice (.st (.pair (.st (.pair .bool (.slice (.int .u32)))) (.st (.pair .bool (.slice (.int .u32))))))) p], []=>some (Sz QC p/\p.length<=QL, [.z (.slice (.st (.pair (.st (.pair .bool (.slice (.int .u32)))) (.st (.pair .bool (.slice (.int .u32))))))) (aI (aT (ar p)))], [])
 |_,_=>none
theorem iJ{B:ag}(hB:aB B):Valid B Tryz.prog 82 js:=by
 refine ab (Bc hB).tab Tryz.func82 rfl rfl rfl ?_;intro args os C rs os' hc hC;unfold js at hc;split at hc;case h_2=>cases hc
 rename_i p;cases hc;refine v_h (Bc hB) fun X hP hT hr hG=> ?_;have hU:=qP.eq_1;unfold qP at hT;have hX:= @lC.eq_1;simp only[Tryz.f82,aC,al,ioB];obtain⟨l0,rfl,hl0⟩:=hC.1.ex;have hn:=hC.2;rw[aF] at hn;have hn:l0.length<=1000000000:=hn;refine s_g hG ?_;refine ak ?_;refine ax ?_;refine br (fun(z:List Rat)=>(⟨[(0, .l (.z (.slice (.st (.pair (.st (.pair .bool (.slice (.int .u32)))) (.st (.pair .bool (.slice (.int .u32))))))) (aI z))),(2, .l (.val (.slice none 0 0)))], []⟩:aa)) (fun z=>z.length<=l0.length/\(∀ x∈z,lq x<=QC)/\aT z=aT l0) (fun z=>z.length) l0 ?_ ?_ ?_;·simp only[ml0,ml1,Nat.reduceLT,Nat.reduceEqDiff,Nat.reduceAdd,Nat.reduceMul,Nat.reduceSub,Nat.reduceLeDiff,Nat.reduceBEq,Nat.reduceBNe,reduceIte,reduceDIte,reduceCtorEq]
 ·exact⟨Nat.le_refl _,hl0,rfl⟩
 ·rintro l ⟨g1,g2,g3⟩;try dsimp only at g1 g2 g3
  refine ak ?_;refine s_q hG ?_ ?_
  ·(try simp only[ba]);have hs:=vH (l:=l) (by omega);exact⟨id,id,hs.2,id,hs.1,id⟩
  refine ao ?_ ?_
  ·intro hb0;(try simp only[bt] at hb0);have ht:=KQ (by omega) hb0.1 hb0.2;obtain⟨n1,n2,n3,n4,n5⟩:=vI (by omega) g1 g2 g3 ht;refine aq ?_;refine aj ?_;refine ax ?_;refine ah hG ?_ ?_
   ·(try simp only[ba]);rw[aF,cb (by omega)];exact⟨by omega,by omega,by omega,by omega⟩
   refine aL ?_;show ∃ z,_;refine q_l ?_;exact⟨l.dropLast,n1,n2,n3,n4,n5⟩
  ·intro hb0;(try simp only[bf] at hb0);have ht:=KR (l:=l) (by omega) hb0;refine bh ?_;refine aE ?_;refine az ?_;refine ay ?_;refine aj ?_;refine s_g hG ?_;refine av ?_;refine q_e [] ?_;rw[aJ,<- g3,ht]
def kn(B:ag):Tab:={types:= [(3,(.int .i64)),(79,(.slice (.st (.pair (.st (.pair .bool (.slice (.int .u32)))) (.st (.pair .bool (.slice (.int .u32)))))))),(91,(.st (.pair (.st (.pair .bool (.slice (.int .u32)))) (.st (.pair .bool (.slice (.int .u32)))))))],elems:= [],cons:= [(114,lC)],hint:= [23],N:=25,free:= [10000000],base:=B}
theorem Bd{B:ag}(hB:aB B):aG Tryz.prog (kn B):=⟨⟨tc ty3 (tc fT (tc ty91 (ae))),af,by simp only[kn,ioB];omega⟩,aD (cc Tryz.func114 (oL hB) (au)),by kernel_rfl⟩
def MJ:Con:=fun l os=>match l,os with
 | [.ownS 10000000], [.arr (.st (.pair (.st (.pair .bool (.slice (.int .u32)))) (.st (.pair .bool (.slice (.int .u32)))))) 91 p]=>some (Sz QC p/\p.length<=QL, [.own (.st (.pair (.st (.pair .bool (.slice (.int .u32)))) (.st (.pair .bool (.slice (.int .u32)))))) 91 (aI (aT (ar p)))], [.arr (.st (.pair (.st (.pair .bool (.slice (.int .u32)))) (.st (.pair .bool (.slice (.int .u32)))))) 91 []])
 |_,_=>none
theorem DO{B:ag}(hB:aB B):Valid B Tryz.prog 82 MJ [0]:=by
 refine pb (T:=kn B) (Bd hB).tab Tryz.func82 rfl rfl rfl (NF (by simp only[kn];decide)) ?_;intro args os C rs os' hc hC;unfold MJ at hc;split at hc;case h_2=>cases hc
 rename_i p;cases hc;refine v_h (Bd hB) fun X hP hT hr hG=> ?_;have hU:=kn.eq_1;unfold kn at hT;have hX:=ai @lC.eq_1<| @b8.eq_def;simp only[Tryz.f82,aC,al,ioB];obtain⟨l0,rfl,hl0⟩:=hC.1.ex;have hn:=hC.2;rw[aF] at hn;have hn:l0.length<=1000000000:=hn;refine JS 10000000 1 (by simp only[hT,kn,mx0,mx1,mx2,mx3,mx4,mx5,mx6,Nat.reduceLT,Nat.reduceEqDiff,Nat.reduceAdd,Nat.reduceMul,Nat.reduceSub,Nat.reduceLeDiff,Nat.reduceBEq,Nat.reduceBNe,reduceIte,reduceDIte,reduceCtorEq];rfl) ?_;refine s_g hG ?_;refine ak ?_;refine ax ?_;refine br (fun(z:List Rat)=>(⟨[(0, .l (.ownS 1)),(2, .l (.val (.slice none 0 0)))], [(1, .arr (.st (.pair (.st (.pair .bool (.slice (.int .u32)))) (.st (.pair .bool (.slice (.int .u32)))))) 91 (aI z)),(10000000, .arr (.st (.pair (.st (.pair .bool (.slice (.int .u32)))) (.st (.pair .bool (.slice (.int .u32)))))) 91 [])]⟩:aa)) (fun z=>z.length<=l0.length/\(∀ x∈z,lq x<=QC)/\aT z=aT l0) (fun z=>z.length) l0 ?_ ?_ ?_;·simp only[ml0,ml1,Nat.reduceLT,Nat.reduceEqDiff,Nat.reduceAdd,Nat.reduceMul,Nat.reduceSub,Nat.reduceLeDiff,Nat.reduceBEq,Nat.reduceBNe,reduceIte,reduceDIte,reduceCtorEq]
 ·exact⟨Nat.le_refl _,hl0,rfl⟩
 ·rintro l ⟨g1,g2,g3⟩;try dsimp only at g1 g2 g3
  refine ak ?_;refine s_q hG ?_ ?_
  ·(try simp only[ba]);have hs:=vH (l:=l) (by omega);exact⟨id,id,hs.2,fun h=>⟨h,by have:=(hs.2 h).2;omega⟩,hs.1,id⟩
  refine ao ?_ ?_
  ·intro hb0;(try simp only[bt] at hb0);have ht:=KQ (by omega) hb0.1 hb0.2;obtain⟨n1,n2,n3,n4,n5⟩:=vI (by omega) g1 g2 g3 ht;refine aq ?_;refine aj ?_;refine ax ?_;refine ah hG ?_ ?_
   ·(try simp only[ba]);rw[aF,cb (by omega)];exact⟨by omega,by omega,by omega,by omega⟩
   refine aL ?_;show ∃ z,_;refine q_l ?_;exact⟨l.dropLast,n1,n2,n3,n4,n5⟩
  ·intro hb0;(try simp only[bf] at hb0);have ht:=KR (l:=l) (by omega) hb0;refine bh ?_;refine aE ?_;refine az ?_;refine ay ?_;refine aj ?_;refine s_g hG ?_;refine av ?_;refine q_e [] ?_;exact⟨⟨trivial,by rw[aJ,<- g3,ht]⟩,trivial,trivial⟩
def gd:Con:=fun l os=>match l,os with
 | [.z (.slice (.st (.pair (.st (.pair .bool (.slice (.int .u32)))) (.st (.pair .bool (.slice (.int .u32))))))) p], []=>some (Sz QC p/\p.length<=QL, [.z (.slice (.st (.pair (.st (.pair .bool (.slice (.int .u32)))) (.st (.pair .bool (.slice (.int .u32))))))) (aI (aT (ar p)))], [])
 | [.ownS 10000000], [.arr (.st (.pair (.st (.pair .bool (.slice (.int .u32)))) (.st (.pair .bool (.slice (.int .u32)))))) 91 p]=>some (Sz QC p/\p.length<=QL, [.own (.st (.pair (.st (.pair .bool (.slice (.int .u32)))) (.st (.pair .bool (.slice (.int .u32)))))) 91 (aI (aT (ar p)))], [.arr (.st (.pair (.st (.pair .bool (.slice (.int .u32)))) (.st (.pair .bool (.slice (.int .u32)))))) 91 []])
 |_,_=>none
theorem Iu{B:ag}(hB:aB B):Valid B Tryz.prog 82 gd [0]:=by
 intro args os C rs os' hc hC;unfold gd at hc;split at hc;·cases hc;exact KS (iJ hB) _ _ _ _ _ rfl hC
 ·cases hc;exact DO hB _ _ _ _ _ rfl hC
 ·cases hc
def qQ(B:ag):Tab:={types:= [(3,(.int .i64)),(79,(.slice (.st (.pair (.st (.pair .bool (.slice (.int .u32)))) (.st (.pair .bool (.slice (.int .u32)))))))),(91,(.st (.pair (.st (.pair .bool (.slice (.int .u32)))) (.st (.pair .bool (.slice (.int .u32)))))))],elems:= [],cons:= [(113,ev)],hint:= [],N:=14,base:=B}
theorem Be{B:ag}(hB:aB B):aG Tryz.prog (qQ B):=⟨⟨tc ty3 (tc fT (tc ty91 (ae))),af,by simp only[qQ,ioB];omega⟩,aD (cc Tryz.func113 (l6 hB) (au)),by kernel_rfl⟩
def wJ:Con:=fun l os=>match l,os with
 | [.z (.slice (.st (.pair (.st (.pair .bool (.slice (.int .u32)))) (.st (.pair .bool (.slice (.int .u32))))))) p, .z (.int .i64) i], []=>some (Sz QC p/\0<=i, [.z (.st (.pair (.st (.pair .bool (.slice (.int .u32)))) (.st (.pair .bool (.slice (.int .u32)))))) (bj (cf (ar p) i.toNat))], [])
 |_,_=>none
theorem wK{B:ag}(hB:aB B):Valid B Tryz.prog 107 wJ:=by
 refine ab (Be hB).tab Tryz.func107 rfl rfl rfl ?_;intro args os C rs os' hc hC;unfold wJ at hc;split at hc;case h_2=>cases hc
 rename_i p i;cases hc;refine v_h (Be hB) fun X hP hT hr hG=> ?_;have hU:=qQ.eq_1;unfold qQ at hT;have hX:= @ev.eq_1;simp only[Tryz.f107,aC,al,ioB];obtain⟨n,rfl⟩:=Int.eq_ofNat_of_zero_le hC.2;rw[Int.toNat_natCast];refine s_g hG ?_;refine ak ?_;refine s_g hG ?_;refine ao ?_ ?_
 ·intro hb0;try simp only[bt] at hb0
  refine s_q hG ?_ ?_
  ·(try simp only[ba]);exact⟨by omega,hb0⟩
  refine av ?_;refine aw ?_;refine q_e [] ?_;rw[fX hC.1 (by omega)]
 ·intro hb0;try simp only[bf] at hb0
  refine aq ?_;refine aj ?_;refine s_g hG ?_;refine av ?_;refine q_e [] ?_;rw[KT (by omega)]
def qR(B:ag):Tab:={types:= [(3,(.int .i64)),(79,(.slice (.st (.pair (.st (.pair .bool (.slice (.int .u32)))) (.st (.pair .bool (.slice (.int .u32)))))))),(91,(.st (.pair (.st (.pair .bool (.slice (.int .u32)))) (.st (.pair .bool (.slice (.int .u32)))))))],elems:= [(79,91)],cons:= [(58,kA),(105,dF),(112,fA),(113,ev),(114,lC)],hint:= [19],N:=67,base:=B}
theorem Bf{B:ag}(hB:aB B):aG Tryz.prog (qR B):=⟨⟨tc ty3 (tc fT (tc ty91 (ae))),aR (by kernel_rfl) (af),by simp only[qR,ioB];omega⟩,aD (cc Tryz.func58 (jQ hB) (cc Tryz.func105 (jR hB) (cc Tryz.func112 (vN hB) (cc Tryz.func113 (l6 hB) (cc Tryz.func114 (oL hB) (au)))))),by kernel_rfl⟩
def oR:Con:=fun l os=>match l,os with
 | [.z (.slice (.st (.pair (.st (.pair .bool (.slice (.int .u32)))) (.st (.pair .bool (.slice (.int .u32))))))) p, .z (.slice (.st (.pair (.st (.pair .bool (.slice (.int .u32)))) (.st (.pair .bool (.slice (.int .u32))))))) q], []=>some (Sz QM p/\Sz QM q/\p.length<=100/\q.length<=100, [.z (.slice (.st (.pair (.st (.pair .bool (.slice (.int .u32)))) (.st (.pair .bool (.slice (.int .u32))))))) (aI (c6 (ar p) (ar q)))], [])
 |_,_=>none
theorem wL{B:ag}(hB:aB B):Valid B Tryz.prog 61 oR:=by
 refine ab (Bf hB).tab Tryz.func61 rfl rfl rfl ?_;intro args os C rs os' hc hC;unfold oR at hc;split at hc;case h_2=>cases hc
 rename_i p q;cases hc;refine v_h (Bf hB) fun X hP hT hr hG=> ?_;have hU:=qR.eq_1;unfold qR at hT;have hX:=ai @kA.eq_1<|ai @dF.eq_1<|ai @lC.eq_1<|ai @fA.eq_1<| @ev.eq_1;simp only[Tryz.f61,aC,al,ioB];obtain⟨hp,hq,hl1,hl2⟩:=hC;refine s_g hG ?_;refine ak ?_;refine s_q hG ?_ ?_
 ·try simp only[ba]
  exact⟨id,id,fun h=>by rw[h];rfl⟩
 refine ao ?_ ?_
 ·intro hb0;try simp only[bt] at hb0
  refine s_g hG ?_;refine av ?_;refine aw ?_;refine q_e [] ?_;exact Hy hb0
 ·intro hb0;try simp only[bf] at hb0
  have h0:=KX hb0;refine aq ?_;refine aj ?_;refine s_q hG ?_ ?_
  ·(try simp only[ba]);rw[vK hl1 hl2 h0];exact NH hl1 hl2
  refine ak ?_;refine s_g hG ?_;refine ax ?_;refine br (fun(z:Nat)=>(⟨[(0, .l (.z (.slice (.st (.pair (.st (.pair .bool (.slice (.int .u32)))) (.st (.pair .bool (.slice (.int .u32))))))) p)),(1, .l (.z (.slice (.st (.pair (.st (.pair .bool (.slice (.int .u32)))) (.st (.pair .bool (.slice (.int .u32))))))) q)),(5, .l (.ownS 1208)),(27, .l (.z (.slice (.st (.pair (.st (.pair .bool (.slice (.int .u32)))) (.st (.pair .bool (.slice (.int .u32))))))) p)),(28, .l (.z (.int .i64) (p.length:Int))),(29, .l (.z (.int .i64) (z:Int)))], [(1208, .arr (.st (.pair (.st (.pair .bool (.slice (.int .u32)))) (.st (.pair .bool (.slice (.int .u32)))))) 91 (aI (mulN (ar p) (ar q) z)))]⟩:aa)) (fun z=>z<=p.length) (fun z=>p.length-z) 0 ?_ ?_ ?_;·refine q_l ?_;rw[vK hl1 hl2 h0,Int.toNat_natCast];exact⟨rfl,times_start p q⟩
  ·omega
  ·rintro i g1;(try dsimp only at g1);refine s_g hG ?_;refine ak ?_;refine ao ?_ ?_
   ·intro hb1;(try simp only[bt] at hb1);refine aq ?_;refine aj ?_;refine ak ?_;refine ax ?_;refine s_q hG ?_ ?_
    ·(try simp only[ba]);exact⟨by omega,hb1⟩
    (refine s_g hG ?_;refine ax ?_;refine br (fun(z:Nat)=>(⟨[(0, .l (.z (.slice (.st (.pair (.st (.pair .bool (.slice (.int .u32)))) (.st (.pair .bool (.slice (.int .u32))))))) p)),(1, .l (.z (.slice (.st (.pair (.st (.pair .bool (.slice (.int .u32)))) (.st (.pair .bool (.slice (.int .u32))))))) q)),(5, .l (.ownS 1208)),(27, .l (.z (.slice (.st (.pair (.st (.pair .bool (.slice (.int .u32)))) (.st (.pair .bool (.slice (.int .u32))))))) p)),(28, .l (.z (.int .i64) (p.length:Int))),(29, .l (.z (.int .i64) (i:Int))),(6, .l (.z (.int .i64) (i:Int))),(7, .l (.ownP 7 0)),(34, .l (.z (.slice (.st (.pair (.st (.pair .bool (.slice (.int .u32)))) (.st (.pair .bool (.slice (.int .u32))))))) q)),(35, .l (.z (.int .i64) (q.length:Int))),(36, .l (.z (.int .i64) (z:Int)))], [(1208, .arr (.st (.pair (.st (.pair .bool (.slice (.int .u32)))) (.st (.pair .bool (.slice (.int .u32)))))) 91 (aI (cu (mulN (ar p) (ar q) i) i (cf (ar p) i) (ar q) z))),(7, .box 91 [.z .bool (bj (cf (ar p) i)).1.1, .z (.slice (.int .u32)) (bj (cf (ar p) i)).1.2, .z .bool (bj (cf (ar p) i)).2.1, .z (.slice (.int .u32)) (bj (cf (ar p) i)).2.2])]⟩:aa)) (fun z=>z<=q.length) (fun z=>q.length-z) 0 ?_ ?_ ?_;·refine q_l ?_;rw[fX hp (by omega)];exact⟨rfl,rfl,rfl,rfl,rfl,rfl⟩);·omega
    ·rintro k g2;(try dsimp only at g2);refine s_g hG ?_;refine ak ?_;refine ao ?_ ?_
     ·intro hb2;(try simp only[bt] at hb2);refine aq ?_;refine aj ?_;refine ak ?_;refine ax ?_;refine s_q hG ?_ ?_
      ·(try simp only[ba]);exact⟨by omega,hb2⟩
      refine s_q hG ?_ ?_
      ·(try simp only[ba]);have ek:=fX hq (i:=k) (by omega);simp only[pe2];rw[ek];exact⟨bL _,fun h=>⟨h,bL _⟩,id⟩
      refine ao ?_ ?_
      ·intro hb3;(try simp only[bt] at hb3);have ek:=fX hq (i:=k) (by omega);obtain⟨w1,w2,w3,w4⟩:=Dm hp hq hl1 hl2 h0 (i:=i) (k:=k) (by omega) (by omega);refine gI hG ?_ ?_
       ·(try simp only[ba]);simp only[pe2];rw[ek,w1,Int.toNat_natCast,aH,aH];exact⟨⟨by omega,by omega⟩,w2,w3,w4,⟨by omega,by omega⟩,w2⟩
       (refine aL ?_;refine aj ?_;refine ah hG ?_ ?_;·first|trivial|omega|(simp;done)|(simp;omega));show ∃ z,_;refine q_l ?_;first|exact tY hl2 (by omega) (tZ hb3)|(simp only[pe2];rw[ek,w1,Int.toNat_natCast];simp only[aH];exact tX hp hq hl1 hl2 h0 (i:=i) (k:=k) (by omega) (by omega))
      ·(intro hb3;(try simp only[bf] at hb3);have ek:=fX hq (i:=k) (by omega);simp only[pe2,ek,aH] at hb3;refine aq ?_;refine aL ?_;refine aj ?_;refine ah hG ?_ ?_;·first|trivial|omega|(simp;done)|(simp;omega));show ∃ z,_;refine q_l ?_;first|exact tY hl2 (by omega) (tZ hb3)|(simp only[pe2];rw[ek,w1,Int.toNat_natCast];simp only[aH];exact tX hp hq hl1 hl2 h0 (i:=i) (k:=k) (by omega) (by omega))
     ·(intro hb2;(try simp only[bf] at hb2);refine bh ?_;refine aE ?_;refine az ?_;refine ay ?_;refine aL ?_;refine aj ?_;refine ah hG ?_ ?_;·first|trivial|omega|(simp;done)|(simp;omega));show ∃ z,_;refine q_l ?_;exact Hz hl1 (by omega) (by omega)
   ·intro hb1;(try simp only[bf] at hb1);refine bh ?_;refine aE ?_;refine az ?_;refine ay ?_;refine aj ?_;refine s_g hG ?_;refine av ?_;refine q_e [] ?_;exact times_fin h0 (by omega)
end Go.Proofs.YtdojbabpnaifoaaGreatDoor
end
section
namespace Go.Cm
def LV.toRow(id:Nat):LV->LV
 | .ownS i=>if i=id then .ownR id 0 else .ownS i
 |x=>x.kill id
def LV.ofRow(id j:Nat):LV->LV
 | .ownR i k=>if i=id then (if k=j then .ownS id else .junk) else .ownR i k
 |x=>x.kill id
def aa.toRow(s:aa)(id:Nat)(T':TypeId):Option aa:=
 match get? s.own id with
 |some (.arr t E xs)=>if id<ioB then some {env:=bS (LV.toRow id) s.env,own:=upd (bu (LV.toRow id) s.own) id (.mat t T' E [some xs] [])} else none
 |_=>none
def aa.ofRow(s:aa)(id j:Nat):Option aa:=
 match get? s.own id with
 |some (.mat t _ E rows _)=>match (rows[j]?).getD none with
  |some xs=>if id<ioB then some {env:=bS (LV.ofRow id j) s.env,own:=upd (bu (LV.ofRow id j) s.own) id (.arr t E xs)} else none
  |none=>none
 |_=>none
theorem St.toRow{X:Cx}{s s':aa}{id:Nat}{T':TypeId}(he:s.toRow id T'=some s'){ac:Act}{w:World}(h:St X s ac w):St X s' ac w:=by
 unfold aa.toRow at he;split at he;case h_2=>cases he
 rename_i t E xs hg;split at he;case isFalse=>cases he
 rename_i hid;cases he;obtain⟨ρ,hf⟩:=h.fits;obtain⟨cells,hr,hrow⟩:=hf.own _ (get?_mem hg);have hsl:∃ a n c,ρ id= .slice a n c:=by
  obtain⟨_,⟨h1,_⟩|⟨g,cap,cur,h1,_⟩⟩:=hrow<;>exact⟨_,_,_,h1⟩
 obtain⟨a,n,c,hsl⟩:=hsl;have hblk:∀ b,blk (ρ id)=some b↔Blk (ρ id) b:=by
  intro b;rw[hsl];cases a with
  |none=>simp[blk,Blk]
  |some a=>simp[blk,Blk]
 obtain⟨ρ',q1,q2⟩:=hf.renew (w':=w) hg (f:=LV.toRow id) (val:= .tuple #[.slice none 0 0,ρ id]) (obj':= .mat t T' E [some xs] [])
  (fun H' ρ' hh hs hρ hρd x v hx=>by
   cases x with
   |ownS i=>
    (simp only[LV.toRow];split;·rename_i e;subst e;have hx:v=ρ i/\_:=hx;exact⟨.slice none 0 0, [ρ i],a,n,c,hρd,by simp[hx.1],by rw[hx.1,hsl]⟩);·rename_i e;simp only[aU,hρ i e];exact hx
   |z t x=>exact bl hh hs hρ hx
   |ownP i o=>exact bl hh hs hρ hx
   |ownE i w o=>exact bl hh hs hρ hx
   |ownW i w o=>exact bl hh hs hρ hx
   |ownM i=>exact bl hh hs hρ hx
   |ownA i o=>exact bl hh hs hρ hx
   |ownR i o=>exact bl hh hs hρ hx
   |ownB i o p q=>exact bl hh hs hρ hx
   |fn f c=>exact bl hh hs hρ hx
   |val u=>exact bl hh hs hρ hx
   |junk=>exact bl hh hs hρ hx)
  (fun _ _ _=>rfl)
  (fun b hb=>by
   (obtain⟨u,hu,hb⟩:=hb;simp only[List.mem_cons,List.not_mem_nil,or_false] at hu;rcases hu with rfl|rfl;·simp[blk] at hb);·exact .inl ((hblk b).1 hb))
  (fun H' ρ' hh hs hρ hρd=>by
   refine⟨.slice none 0 0, [ρ id], [],hρd,⟨rfl,⟨rfl, .inl ⟨rfl,rfl⟩⟩,fun c hc=>by simp at hc,fun i j hi=>by simp at hi,?_,?_,?_⟩⟩
   ·(intro v hv;simp only[List.mem_singleton] at hv;subst hv;refine⟨⟨a,n,c,hsl⟩,fun b hb=>⟨by simp[blk],?_,?_⟩⟩;·exact((hf.own _ (get?_mem hg)).lt ((hblk b).1 hb)).1);·exact(hf.own _ (get?_mem hg)).cells ((hblk b).1 hb)
   ·intro j ys v hj hv;cases j with
    |zero=>
     simp at hj hv;subst hj;subst hv;exact⟨cells,aW hh hs hr,hrow⟩
    |succ j=>simp at hj
   ·intro i j xs' ys u v hne hi hj;cases i with
    |zero=>cases j with
     |zero=>exact absurd rfl hne
     |succ j=>simp at hj
    |succ i=>simp at hi)
  (fun hB _=>absurd hid (by omega))
 exact⟨h.marks,h.kept,h.size,h.below,h.others,h.small,ρ',q2⟩
theorem St.ofRow{X:Cx}{s s':aa}{id j:Nat}(he:s.ofRow id j=some s'){ac:Act}{w:World}(h:St X s ac w):St X s' ac w:=by
 unfold aa.ofRow at he;split at he;case h_2=>cases he
 rename_i t T' E rows idx hg;split at he;case h_2=>cases he
 rename_i xs hj;split at he;case isFalse=>cases he
 rename_i hid;cases he;obtain⟨ρ,hf⟩:=h.fits;obtain⟨h0,vs,cells,hρ0,hm⟩:=hf.own _ (get?_mem hg);have hjr:rows[j]? =some (some xs):=by
  cases hq:rows[j]? with
  |none=>rw[hq] at hj;cases hj
  |some o=>rw[hq] at hj;simp at hj;rw[hj]
 have hjl:j<vs.length:=by rw[hm.len];exact(List.getElem?_eq_some_iff.1 hjr).1
 have hvj:vs[j]? =some vs[j]:=List.getElem?_eq_getElem hjl;obtain⟨cs,hr,hrow⟩:=hm.row j xs _ hjr hvj;obtain⟨⟨a,n,c,hsl⟩,_⟩:=hm.shape vs[j] (List.getElem_mem hjl);obtain⟨ρ',q1,q2⟩:=hf.renew (w':=w) hg (f:=LV.ofRow id j) (val:=vs[j]) (obj':= .arr t E xs)
  (fun H' ρ' hh hs hρ hρd x v hx=>by
   cases x with
   |ownR i k=>
    simp only[LV.ofRow];split
    ·(rename_i e;subst e;split;·rename_i e;subst e;obtain⟨h1,vs1,a1,n1,c1,e1,e2,e3⟩:=hx;rw[hρ0] at e1;simp only[Value.tuple.injEq,Array.mk.injEq,List.cons.injEq] at e1;obtain⟨_,rfl⟩:=e1;rw[hvj] at e2;cases e2;exact⟨hρd.symm,_,_,_,e3⟩);·trivial
    ·rename_i e;have:=bl (x:= .ownR i k) hh hs hρ hx;unfold LV.kill at this;rw[if_neg (by simp[LV.isOf];exact e)] at this;exact this
   |z t x=>exact bl hh hs hρ hx
   |ownS i=>exact bl hh hs hρ hx
   |ownP i o=>exact bl hh hs hρ hx
   |ownE i w o=>exact bl hh hs hρ hx
   |ownW i w o=>exact bl hh hs hρ hx
   |ownM i=>exact bl hh hs hρ hx
   |ownA i o=>exact bl hh hs hρ hx
   |ownB i o p q=>exact bl hh hs hρ hx
   |fn f c=>exact bl hh hs hρ hx
   |val u=>exact bl hh hs hρ hx
   |junk=>exact bl hh hs hρ hx)
  (fun _ _ _=>rfl)
  (fun b hb=> .inl (by
   rw[hρ0];refine⟨vs[j],by simp,?_⟩;rw[hsl] at hb ⊢;cases a with
   |none=>simp[Blk] at hb
   |some a=>simpa [blk,Blk] using hb))
  (fun H' ρ' hh hs hρ hρd=>⟨cs,aW hh hs hr,by rw[hρd];exact hrow⟩)
  (fun hB _=>absurd hid (by omega))
 exact⟨h.marks,h.kept,h.size,h.below,h.others,h.small,ρ',q2⟩
theorem yt{X:Cx}{c:Code}{s s':aa}{K:Exit->aa->Prop}(id:Nat)(T':TypeId)(he:s.toRow id T'=some s')(h:J X c s' K):J X c s K:=
 fun ac w hst=>h ac w (hst.toRow he)
theorem qS{X:Cx}{c:Code}{s s':aa}{K:Exit->aa->Prop}(id j:Nat)(he:s.ofRow id j=some s')(h:J X c s' K):J X c s K:=
 fun ac w hst=>h ac w (hst.ofRow he)
end Go.Cm
end
section
namespace Go.Proofs.YtdojbabpnaifoaaGreatDoor
open Go Go.Cm Go.Proofs
def qT(B:ag):Tab:={types:= [(3,(.int .i64)),(79,(.slice (.st (.pair (.st (.pair .bool (.slice (.int .u32)))) (.st (.pair .bool (.slice (.int .u32)))))))),(91,(.st (.pair (.st (.pair .bool (.slice (.int .u32)))) (.st (.pair .bool (.slice (.int .u32)))))))],elems:= [(79,91)],cons:= [(119,fB)],hint:= [],N:=25,base:=B}
theorem Bg{B:ag}(hB:aB B):aG Tryz.prog (qT B):=⟨⟨tc ty3 (tc fT (tc ty91 (ae))),aR (by kernel_rfl) (af),by simp only[qT,ioB];omega⟩,aD (cc Tryz.func119 (wD hB) (au)),by kernel_rfl⟩
def oS:Con:=fun l os=>match l,os with
 | [.z (.slice (.st (.pair (.st (.pair .bool (.slice (.int .u32)))) (.st (.pair .bool (.slice (.int .u32))))))) p], []=>some (ou p, [.z (.slice (.st (.pair (.st (.pair .bool (.slice (.int .u32)))) (.st (.pair .bool (.slice (.int .u32))))))) (aI (cU (ar p)))], [])
 |_,_=>none
theorem wM{B:ag}(hB:aB B):Valid B Tryz.prog 120 oS:=by
 refine ab (Bg hB).tab Tryz.func120 rfl rfl rfl ?_;intro args os C rs os' hc hC;unfold oS at hc;split at hc;case h_2=>cases hc
 rename_i p;cases hc;refine v_h (Bg hB) fun X hP hT hr hG=> ?_;have hU:=qT.eq_1;unfold qT at hT;have hX:= @fB.eq_1;simp only[Tryz.f120,aC,al,ioB];have hl:p.length<=1000:=hC.2.1;refine s_g hG ?_;refine s_g hG ?_;refine ak ?_;refine s_g hG ?_;refine ax ?_;refine br (fun(z:Nat)=>(⟨[(0, .l (.z (.slice (.st (.pair (.st (.pair .bool (.slice (.int .u32)))) (.st (.pair .bool (.slice (.int .u32))))))) p)),(3, .l (.ownS 22)),(6, .l (.z (.slice (.st (.pair (.st (.pair .bool (.slice (.int .u32)))) (.st (.pair .bool (.slice (.int .u32))))))) p)),(7, .l (.z (.int .i64) (p.length:Int))),(8, .l (.z (.int .i64) (z:Int)))], [(22, .arr (.st (.pair (.st (.pair .bool (.slice (.int .u32)))) (.st (.pair .bool (.slice (.int .u32)))))) 91 (aI ((ar p).take z|>.map fun c=>c/aK (ar p))))]⟩:aa)) (fun z=>z<=p.length) (fun z=>p.length-z) 0 ?_ ?_ ?_;·refine q_l ?_;exact⟨rfl,by unfold ioB;omega,rfl⟩
 ·omega
 ·rintro k g1;try dsimp only at g1
  refine s_g hG ?_;refine ak ?_;refine ao ?_ ?_
  ·intro hb0;(try simp only[bt] at hb0);obtain⟨m1,m2,m3,m4,m5,m6⟩:=KZ hC (k:=k) (by omega);refine aq ?_;refine aj ?_;refine ak ?_;refine ax ?_;refine s_q hG ?_ ?_
   ·(try simp only[ba]);exact⟨by omega,hb0⟩
   refine yt 22 78 (by simp only[aa.toRow,LV.toRow,ioB,mx0,mx1,mx2,mx3,mx4,mx5,mx6,Nat.reduceLT,Nat.reduceEqDiff,Nat.reduceAdd,Nat.reduceMul,Nat.reduceSub,Nat.reduceLeDiff,Nat.reduceBEq,Nat.reduceBNe,reduceIte,reduceDIte,reduceCtorEq];rfl) ?_;refine gI hG ?_ ?_
   ·(try simp only[ba]);simp only[pe2];rw[m1,m2];exact⟨m3,⟨m4,by rw[aH];exact m5⟩,rfl,m6⟩
   (refine aL ?_;refine aj ?_;refine qS 22 1 (by simp only[aa.ofRow,LV.ofRow,ioB,List.set_cons_zero,List.set_cons_succ,List.append_nil,List.nil_append,List.cons_append,List.getElem?_cons_zero,List.getElem?_cons_succ,Option.getD_some,mx0,mx1,mx2,mx3,mx4,mx5,mx6,Nat.reduceLT,Nat.reduceEqDiff,Nat.reduceAdd,Nat.reduceMul,Nat.reduceSub,Nat.reduceLeDiff,Nat.reduceBEq,Nat.reduceBNe,reduceIte,reduceDIte,reduceCtorEq];rfl) ?_;refine ah hG ?_ ?_;·first|trivial|omega|(simp;done)|(simp;omega));show ∃ z,_;refine q_l ?_;simp only[pe2];rw[m1,m2];simp only[aH];exact HB hC (by omega)
  ·intro hb0;(try simp only[bf] at hb0);refine bh ?_;refine aE ?_;refine az ?_;refine ay ?_;refine aj ?_;refine s_g hG ?_;refine av ?_;refine q_e [] ?_;exact NI (by omega)
def qU(B:ag):Tab:={types:= [(3,(.int .i64)),(79,(.slice (.st (.pair (.st (.pair .bool (.slice (.int .u32)))) (.st (.pair .bool (.slice (.int .u32)))))))),(91,(.st (.pair (.st (.pair .bool (.slice (.int .u32)))) (.st (.pair .bool (.slice (.int .u32)))))))],elems:= [(79,91)],cons:= [(105,dF),(124,Io)],hint:= [],N:=24,base:=B}
theorem Bh{B:ag}(hB:aB B):aG Tryz.prog (qU B):=⟨⟨tc ty3 (tc fT (tc ty91 (ae))),aR (by kernel_rfl) (af),by simp only[qU,ioB];omega⟩,aD (cc Tryz.func105 (jR hB) (cc Tryz.func124 (wE hB) (au))),by kernel_rfl⟩
def jS:Con:=fun l os=>match l,os with
 | [.z (.slice (.st (.pair (.st (.pair .bool (.slice (.int .u32)))) (.st (.pair .bool (.slice (.int .u32))))))) p], []=>some (Sz QH p/\p.length<=1000, [.z (.slice (.st (.pair (.st (.pair .bool (.slice (.int .u32)))) (.st (.pair .bool (.slice (.int .u32))))))) (aI (cq (ar p)))], [])
 |_,_=>none
theorem wN{B:ag}(hB:aB B):Valid B Tryz.prog 77 jS:=by
 refine ab (Bh hB).tab Tryz.func77 rfl rfl rfl ?_;intro args os C rs os' hc hC;unfold jS at hc;split at hc;case h_2=>cases hc
 rename_i p;cases hc;refine v_h (Bh hB) fun X hP hT hr hG=> ?_;have hU:=qU.eq_1;unfold qU at hT;have hX:=ai @dF.eq_1<| @Io.eq_1;simp only[Tryz.f77,aC,al,ioB];have hl:p.length<=1000:=hC.2;refine s_g hG ?_;refine s_g hG ?_;refine ak ?_;refine s_g hG ?_;refine ax ?_;refine br (fun(z:Nat)=>(⟨[(3, .l (.ownS 21)),(6, .l (.z (.slice (.st (.pair (.st (.pair .bool (.slice (.int .u32)))) (.st (.pair .bool (.slice (.int .u32))))))) p)),(7, .l (.z (.int .i64) (p.length:Int))),(8, .l (.z (.int .i64) (z:Int)))], [(21, .arr (.st (.pair (.st (.pair .bool (.slice (.int .u32)))) (.st (.pair .bool (.slice (.int .u32)))))) 91 (aI (mQ (ar p) z)))]⟩:aa)) (fun z=>z<=p.length) (fun z=>p.length-z) 0 ?_ ?_ ?_;·refine q_l ?_;exact⟨rfl,by unfold ioB;omega,rfl⟩
 ·omega
 ·rintro k g1;try dsimp only at g1
  refine s_g hG ?_;refine ak ?_;refine ao ?_ ?_
  ·intro hb0;(try simp only[bt] at hb0);obtain⟨m1,m2,m3,m4⟩:=K0 hC.1 hl (k:=k) (by omega);refine aq ?_;refine aj ?_;refine ak ?_;refine ax ?_;refine s_q hG ?_ ?_
   ·(try simp only[ba]);exact⟨by omega,hb0⟩
   refine s_g hG ?_;refine ao ?_ ?_
   ·intro hb1;(try simp only[bt] at hb1);refine yt 21 78 (by simp only[aa.toRow,LV.toRow,ioB,mx0,mx1,mx2,mx3,mx4,mx5,mx6,Nat.reduceLT,Nat.reduceEqDiff,Nat.reduceAdd,Nat.reduceMul,Nat.reduceSub,Nat.reduceLeDiff,Nat.reduceBEq,Nat.reduceBNe,reduceIte,reduceDIte,reduceCtorEq];rfl) ?_;refine gI hG ?_ ?_
    ·(try simp only[ba]);simp only[pe2];rw[m2];exact⟨m1,m3,rfl,m4⟩
    (refine aL ?_;refine aj ?_;(first|refine qS 21 1 (by simp only[aa.ofRow,LV.ofRow,ioB,List.set_cons_zero,List.set_cons_succ,List.append_nil,List.nil_append,List.cons_append,List.getElem?_cons_zero,List.getElem?_cons_succ,Option.getD_some,mx0,mx1,mx2,mx3,mx4,mx5,mx6,Nat.reduceLT,Nat.reduceEqDiff,Nat.reduceAdd,Nat.reduceMul,Nat.reduceSub,Nat.reduceLeDiff,Nat.reduceBEq,Nat.reduceBNe,reduceIte,reduceDIte,reduceCtorEq];rfl) ?_|skip);refine ah hG ?_ ?_;·first|trivial|omega|(simp;done)|(simp;omega));show ∃ z,_;refine q_l ?_;first|exact zX hl (by omega) (by omega)|(simp only[pe2];rw[m2];simp only[aH];exact vL hl (by omega) (by omega))
   ·(intro hb1;(try simp only[bf] at hb1);refine aq ?_;refine aL ?_;refine aj ?_;(first|refine qS 21 1 (by simp only[aa.ofRow,LV.ofRow,ioB,List.set_cons_zero,List.set_cons_succ,List.append_nil,List.nil_append,List.cons_append,List.getElem?_cons_zero,List.getElem?_cons_succ,Option.getD_some,mx0,mx1,mx2,mx3,mx4,mx5,mx6,Nat.reduceLT,Nat.reduceEqDiff,Nat.reduceAdd,Nat.reduceMul,Nat.reduceSub,Nat.reduceLeDiff,Nat.reduceBEq,Nat.reduceBNe,reduceIte,reduceDIte,reduceCtorEq];rfl) ?_|skip);refine ah hG ?_ ?_;·first|trivial|omega|(simp;done)|(simp;omega));show ∃ z,_;refine q_l ?_;first|exact zX hl (by omega) (by omega)|(simp only[pe2];rw[m2];simp only[aH];exact vL hl (by omega) (by omega))
  ·intro hb0;(try simp only[bf] at hb0);refine bh ?_;refine aE ?_;refine az ?_;refine ay ?_;refine aj ?_;refine s_g hG ?_;refine av ?_;refine q_e [] ?_;rw[show k=(ar p).length by rw[aM];omega];rfl
end Go.Proofs.YtdojbabpnaifoaaGreatDoor
end
section
namespace Go.Proofs
open Go.RowKit Go.Cm Go.Shelf
attribute [local go_sem] Oper.semAt_some
set_option maxHeartbeats 2000000 in
set_option maxRecDepth 100000 in
theorem DP(ad:Addr)(n c:Nat)(news:List Value)(w:World)(hl:news.length=n*4)(hn:n<=maxLen)(hbig:n*64<=140737488355328)
  (hc:∀ j u,news[j]? =some u->w.cell? (ad.add j)=some u) (h1:∀ u∈news,u.oneCell'=true):
  Calls Tryz.prog 118 #[.slice (some ad) n c] w fun e w'=>∃ v',e= .returned v'/\w'.ownsRow w.heap.size 91 4 v' n news/\Below w.heap.size w w':=by
 have t4:=Tryz.underlying4;have a4:=Tryz.isAgg4;have z4:=Tryz.sizeOf4;have v4:=Tryz.zeroValue4;have t22:=Tryz.underlying79;have a22:=Tryz.isAgg79;have z22:=Tryz.sizeOf79;have v22:=Tryz.zeroValue79;obtain⟨i0,hi,hz0,hz1,hz2⟩:=info_parts (show (Tryz.prog.info? 91).map (fun i=>(i.zero,i.size,i.bytes))=some (some (.agg zc4.toArray),4,64) by kernel_rfl);have q22:∀ (w:World) (a:Option Addr) (n c n' c':Nat),(binOp .eql 79 (.slice a n c) (.slice none n' c')).run Tryz.prog w= .ok (.bool a.isNone) w:=fun w a n c n' c'=>Lib.run_eql_slice_nil w _ _ a n c n' c' t22;have u22:∀ w,Sem.run Tryz.prog (underlying 79) w= .ok (TypeDesc.slice 91) w:=run_underlying t22;have z23:∀ w,(Go.sizeOf 91).run Tryz.prog w= .ok 4 w:=fun w=>by simp[Go.sizeOf,typeInfo,hi,hz1]
 have A:Aside (∀ j u,news[j]? =some u->w.cell? (ad.add j)=some u):=hc;clear hc
 go_enter Tryz.func118,Tryz.ntmps118
 go_wp2_with (at_builtin;refine wpList_append_own _ rfl _ _ 79 rfl w.heap.size 91 i0 (.agg zc4.toArray) 4 64 t22 hi hz0 hz1 hz2 rfl (by omega) _ _ _ rfl (World.ownsRow_made w #[] 0 (Nat.le_refl _) (Nat.zero_le _) (by simp)) ad n c news rfl ?qc1 ?qc2 ?qc3 ?qc4 ?qc5 ?qc6 ?_)
 case qc1=>exact hl
 case qc2=>
  intro j u hj;exact Lib.cell?_alloc_some _ (A.out j u hj)
 case qc3=>exact h1
 case qc4=>rw[Nat.zero_add];exact hn
 case qc5=>rw[Nat.zero_add];exact hbig
 case qc6=>simp
 intro v' w1 hown hgrow hnil
 go_wp2
 go_ret
 refine⟨v',rfl,by simpa using hown,?_⟩;exact((Below.refl _ w).alloc (Nat.le_refl _) _).grown hgrow (by simp) (by intro k hk;simp[Value.ownBlock] at hk;omega)
set_option maxHeartbeats 1000000 in
theorem Iv(n c:Nat)(w:World):Calls Tryz.prog 118 #[.slice none n c] w fun e w'=>e= .returned (.slice none 0 0)/\w'=w:=by
 have t4:=Tryz.underlying4;have a4:=Tryz.isAgg4;have z4:=Tryz.sizeOf4;have v4:=Tryz.zeroValue4;have t22:=Tryz.underlying79;have a22:=Tryz.isAgg79;have z22:=Tryz.sizeOf79;have v22:=Tryz.zeroValue79;have q22:∀ (w:World) (a:Option Addr) (n c n' c':Nat),(binOp .eql 79 (.slice a n c) (.slice none n' c')).run Tryz.prog w= .ok (.bool a.isNone) w:=fun w a n c n' c'=>Lib.run_eql_slice_nil w _ _ a n c n' c' t22
 go_enter Tryz.func118,Tryz.ntmps118
 go_wp2
 go_ret
 exact⟨rfl,rfl⟩
def c8:Con:=fun l os=>match l,os with
 | [.z (.slice (.st (.pair (.st (.pair .bool (.slice (.int .u32)))) (.st (.pair .bool (.slice (.int .u32))))))) xs], []=>some (xs.length<=QL, [.own (.st (.pair (.st (.pair .bool (.slice (.int .u32)))) (.st (.pair .bool (.slice (.int .u32)))))) 91 xs], [])
 |_,_=>none
theorem Iw{B:ag}(hB:aB B):Valid B Tryz.prog 118 c8:=by
 intro args os C rs os' hc hC O w vals ρ0 hOn hIo hO hOI hargs hown hap;unfold c8 at hc;split at hc;case h_2=>cases hc
 rename_i xs;cases hc;obtain⟨u,rfl,hu⟩:=pT hargs;obtain⟨cells,hr,h⟩:=ib hu;have hl:=bE (fun c x h=>NT.rep_length h) hr;have hC:xs.length<=1000000000:=hC;have hmove:∀ w':World,Below w.heap.size w w'->∀ H:Nat->Prop,(∀ b,b<w.heap.size->H b->O b)->cE (fun c x=>NT.rep H w' c x) cells xs:=
  fun w' hb H hH=>aW (fun b hlt hb=> .inl (hH b hlt hb)) (fun b _ hlt=>hb.block b (cW hlt)) hr
 rcases h with⟨rfl,h0,rfl⟩|⟨ad,c,rfl,hc⟩;·refine(Iv 0 0 w).mono fun e w' ⟨he,hw⟩=> ?_;subst he;subst hw;exact xI hO (Below.refl _ _) ⟨_,_,_,rfl⟩ (hmove _ (Below.refl _ _)) ⟨by simp[h0], .inl ⟨rfl,h0⟩⟩
 ·refine(DP ad xs.length c cells w hl (by unfold maxLen;omega) (by omega) hc (eL hr)).mono fun e w' ⟨v',he,hrow,hb⟩=> ?_;subst he;obtain⟨h1,h2⟩:=hrow;refine xI hO hb ?_ (hmove _ hb) ⟨h1,?_⟩;·rcases h2 with⟨rfl,_⟩|⟨g,cap,cur,rfl,_⟩<;>exact⟨_,_,_,rfl⟩
  ·(rcases h2 with h2|⟨g,cap,cur,e1,e2,e3,e4,e5,e6,e7⟩;·exact .inl h2);·exact .inr ⟨g,cap,cur,e1,e2,e3,e4,e5,by rw[e6];exact Nat.le_refl _,e7⟩
end Go.Proofs
end
section
namespace Go.Proofs.YtdojbabpnaifoaaGreatDoor
open Go Go.Cm Go.Proofs
def cZ(B:ag):Tab:={types:= [(3,(.int .i64)),(79,(.slice (.st (.pair (.st (.pair .bool (.slice (.int .u32)))) (.st (.pair .bool (.slice (.int .u32)))))))),(91,(.st (.pair (.st (.pair .bool (.slice (.int .u32)))) (.st (.pair .bool (.slice (.int .u32)))))))],elems:= [(79,91)],cons:= [(60,eS),(82,gd),(105,dF),(112,fA),(113,ev),(118,c8),(119,fB)],hint:= [],N:=78,io:= [(82, [0])],frees:= [(82, [0])],base:=B}
theorem Bi{B:ag}(hB:aB B):aG Tryz.prog (cZ B):=⟨⟨tc ty3 (tc fT (tc ty91 (ae))),aR (by kernel_rfl) (af),by simp only[cZ,ioB];omega⟩,aD (cc Tryz.func60 (oK hB) (cc Tryz.func82 (Iu hB) (cc Tryz.func105 (jR hB) (cc Tryz.func112 (vN hB) (cc Tryz.func113 (l6 hB) (cc Tryz.func118 (Iw hB) (cc Tryz.func119 (wD hB) (au)))))))),by kernel_rfl⟩
def pM:Con:=fun l os=>match l,os with
 | [.z (.slice (.st (.pair (.st (.pair .bool (.slice (.int .u32)))) (.st (.pair .bool (.slice (.int .u32))))))) p, .z (.slice (.st (.pair (.st (.pair .bool (.slice (.int .u32)))) (.st (.pair .bool (.slice (.int .u32))))))) q], []=>some (fY p q, [.z (.slice (.st (.pair (.st (.pair .bool (.slice (.int .u32)))) (.st (.pair .bool (.slice (.int .u32))))))) (aI (divN (ar p) (ar q)).1), .own (.st (.pair (.st (.pair .bool (.slice (.int .u32)))) (.st (.pair .bool (.slice (.int .u32)))))) 91 (aI (divN (ar p) (ar q)).2)], [])
 |_,_=>none
theorem oT{B:ag}(hB:aB B):Valid B Tryz.prog 68 pM:=by
 refine ab (Bi hB).tab Tryz.func68 rfl rfl rfl ?_;intro args os C rs os' hc hC;unfold pM at hc;split at hc;case h_2=>cases hc
 rename_i p q;cases hc;refine v_h (Bi hB) fun X hP hT hr hG=> ?_;have hU:=cZ.eq_1;unfold cZ at hT;have hX:=ai @c8.eq_1<|ai @fB.eq_1<|ai @dF.eq_1<|ai @eS.eq_1<|ai @fA.eq_1<|ai @gd.eq_1<|ai @ev.eq_1<|ai @bW.eq_def<| @b8.eq_def;simp only[Tryz.f68,aC,al,ioB];refine ak ?_;have hl1:=hC.l1;have hl2:=hC.l2;have h0:=hC.h0;obtain⟨v1,v2,v3⟩:=PK hC;refine cG hG (by simp only[hT,cZ,bW.eq_def,b8.eq_def,c8,fB,dF,eS,fA,gd,ev,mx0,mx1,mx2,mx3,mx4,mx5,mx6,aV,bp,bF,aZ,bo,Ty.fieldTy,Ty.fieldOf,Nat.reduceLT,Nat.reduceEqDiff,Nat.reduceAdd,Nat.reduceMul,Nat.reduceSub,Nat.reduceLeDiff,Nat.reduceBEq,Nat.reduceBNe,reduceIte,reduceDIte,reduceCtorEq];rfl) ?_ ?_;·first|trivial|omega|(simp;done)|(simp;omega)
 refine aj ?_;refine ak ?_;refine cG hG (by simp only[hT,cZ,bW.eq_def,b8.eq_def,c8,fB,dF,eS,fA,gd,ev,mx0,mx1,mx2,mx3,mx4,mx5,mx6,aV,bp,bF,aZ,bo,Ty.fieldTy,Ty.fieldOf,Nat.reduceLT,Nat.reduceEqDiff,Nat.reduceAdd,Nat.reduceMul,Nat.reduceSub,Nat.reduceLeDiff,Nat.reduceBEq,Nat.reduceBNe,reduceIte,reduceDIte,reduceCtorEq];rfl) ?_ ?_
 ·try simp only[ba]
  show p.length<=1000000000;omega
 refine aj ?_;refine ak ?_;refine cG hG (by simp only[hT,cZ,bW.eq_def,b8.eq_def,c8,fB,dF,eS,fA,gd,ev,mx0,mx1,mx2,mx3,mx4,mx5,mx6,aV,bp,bF,aZ,bo,Ty.fieldTy,Ty.fieldOf,Nat.reduceLT,Nat.reduceEqDiff,Nat.reduceAdd,Nat.reduceMul,Nat.reduceSub,Nat.reduceLeDiff,Nat.reduceBEq,Nat.reduceBNe,reduceIte,reduceDIte,reduceCtorEq];rfl) ?_ ?_
 ·try simp only[ba]
  rw[v1];exact⟨v2,v3⟩
 refine aj ?_;refine ak ?_;refine ax ?_;refine JS 1104 1600 (by simp only[hT,cZ,mx0,mx1,mx2,mx3,mx4,mx5,mx6,Nat.reduceLT,Nat.reduceEqDiff,Nat.reduceAdd,Nat.reduceMul,Nat.reduceSub,Nat.reduceLeDiff,Nat.reduceBEq,Nat.reduceBNe,reduceIte,reduceDIte,reduceCtorEq];rfl) ?_;refine br (fun(z:Nat×List Rat×List Rat)=>(⟨[(0, .l (.z (.slice (.st (.pair (.st (.pair .bool (.slice (.int .u32)))) (.st (.pair .bool (.slice (.int .u32))))))) p)),(1, .l (.z (.slice (.st (.pair (.st (.pair .bool (.slice (.int .u32)))) (.st (.pair .bool (.slice (.int .u32))))))) q)),(6, .l (.ownS 1600)),(7, .l (.ownS 1184))], [(1600, .arr (.st (.pair (.st (.pair .bool (.slice (.int .u32)))) (.st (.pair .bool (.slice (.int .u32)))))) 91 (aI z.2.1)),(1184, .arr (.st (.pair (.st (.pair .bool (.slice (.int .u32)))) (.st (.pair .bool (.slice (.int .u32)))))) 91 (aI z.2.2))]⟩:aa)) (fun z=>DivPhi p q z.1 z.2.1 z.2.2) (fun z=>z.2.1.length) (p.length+1,ar p,List.replicate (p.length+1-q.length) 0) ?_ ?_ ?_;·refine q_l ?_;rw[v1,Int.toNat_natCast,hC.enc,zV];exact⟨rfl,rfl⟩
 ·exact div_start hC
 ·rintro⟨n,r,s⟩ hz;try dsimp only at hz
  refine ak ?_;refine ak ?_;refine cG hG (by simp only[hT,cZ,bW.eq_def,b8.eq_def,c8,fB,dF,eS,fA,gd,ev,mx0,mx1,mx2,mx3,mx4,mx5,mx6,aV,bp,bF,aZ,bo,Ty.fieldTy,Ty.fieldOf,Nat.reduceLT,Nat.reduceEqDiff,Nat.reduceAdd,Nat.reduceMul,Nat.reduceSub,Nat.reduceLeDiff,Nat.reduceBEq,Nat.reduceBNe,reduceIte,reduceDIte,reduceCtorEq];rfl) ?_ ?_;·first|trivial|omega|(simp;done)|(simp;omega)
  refine aj ?_;refine ao ?_ ?_
  ·(intro hb0;(try simp only[bt] at hb0);(have hle:q.length<=r.length:=by have h9:(q.length:Int)<=((aI r).length:Int):=hb0;rw[aF] at h9;omega);obtain⟨w1,w2,n1,n2,n3⟩:=K3 hC hz hle;have hk:=Qo hC hz hle;refine aq ?_;refine aj ?_;refine ax ?_;refine ak ?_;refine cG hG (by simp only[hT,cZ,bW.eq_def,b8.eq_def,c8,fB,dF,eS,fA,gd,ev,mx0,mx1,mx2,mx3,mx4,mx5,mx6,aV,bp,bF,aZ,bo,Ty.fieldTy,Ty.fieldOf,Nat.reduceLT,Nat.reduceEqDiff,Nat.reduceAdd,Nat.reduceMul,Nat.reduceSub,Nat.reduceLeDiff,Nat.reduceBEq,Nat.reduceBNe,reduceIte,reduceDIte,reduceCtorEq];rfl) ?_ ?_;·first|trivial|omega|(simp;done)|(simp;omega));refine aj ?_;refine ak ?_;refine tj hG (by simp only[hT,mt0,cZ,bW.eq_def,b8.eq_def,c8,fB,dF,eS,fA,gd,ev,mx0,mx1,mx2,mx3,mx4,mx5,mx6,aV,bp,bF,aZ,bo,Ty.fieldTy,Ty.fieldOf,Nat.reduceLT,Nat.reduceEqDiff,Nat.reduceAdd,Nat.reduceMul,Nat.reduceSub,Nat.reduceLeDiff,Nat.reduceBEq,Nat.reduceBNe,reduceIte,reduceDIte,reduceCtorEq];rfl) (by kernel_rfl) (by rfl) (by rfl) ?_ ?_
   ·(try simp only[ba]);simp only[w1,w2,Int.toNat_natCast,n1,n2];exact HD hC hz hle
   refine aj ?_;refine ak ?_;refine cG hG (by simp only[hT,cZ,bW.eq_def,b8.eq_def,c8,fB,dF,eS,fA,gd,ev,mx0,mx1,mx2,mx3,mx4,mx5,mx6,aV,bp,bF,aZ,bo,Ty.fieldTy,Ty.fieldOf,Nat.reduceLT,Nat.reduceEqDiff,Nat.reduceAdd,Nat.reduceMul,Nat.reduceSub,Nat.reduceLeDiff,Nat.reduceBEq,Nat.reduceBNe,reduceIte,reduceDIte,reduceCtorEq];rfl) ?_ ?_
   ·(try simp only[ba]);simp only[hk,Int.toNat_natCast];exact⟨⟨(xF hC hz hle).1,(xF hC hz hle).2.1⟩,(xF hC hz hle).2.2⟩
   (refine aj ?_;refine ak ?_;refine ak ?_;refine cG hG (by simp only[hT,cZ,bW.eq_def,b8.eq_def,c8,fB,dF,eS,fA,gd,ev,mx0,mx1,mx2,mx3,mx4,mx5,mx6,aV,bp,bF,aZ,bo,Ty.fieldTy,Ty.fieldOf,Nat.reduceLT,Nat.reduceEqDiff,Nat.reduceAdd,Nat.reduceMul,Nat.reduceSub,Nat.reduceLeDiff,Nat.reduceBEq,Nat.reduceBNe,reduceIte,reduceDIte,reduceCtorEq];rfl) ?_ ?_;·first|trivial|omega|(simp;done)|(simp;omega));refine aj ?_;refine ax ?_;refine br (fun(z:Nat)=>(⟨[(0, .l (.z (.slice (.st (.pair (.st (.pair .bool (.slice (.int .u32)))) (.st (.pair .bool (.slice (.int .u32))))))) p)),(1, .l (.z (.slice (.st (.pair (.st (.pair .bool (.slice (.int .u32)))) (.st (.pair .bool (.slice (.int .u32))))))) q)),(6, .l (.ownS 1600)),(7, .l (.ownS 1184)),(8, .l (.z (.int .i64) ((r.length-q.length:Nat):Int))),(9, .l (.ownP 9 0)),(51, .l (.z (.slice (.st (.pair (.st (.pair .bool (.slice (.int .u32)))) (.st (.pair .bool (.slice (.int .u32))))))) q)),(52, .l (.z (.int .i64) (q.length:Int))),(53, .l (.z (.int .i64) (z:Int)))], [(1600, .arr (.st (.pair (.st (.pair .bool (.slice (.int .u32)))) (.st (.pair .bool (.slice (.int .u32)))))) 91 (aI (cu r (r.length-q.length) (-(aK r/aK (ar q))) (ar q) z))),(1184, .arr (.st (.pair (.st (.pair .bool (.slice (.int .u32)))) (.st (.pair .bool (.slice (.int .u32)))))) 91 (aI (s.set (r.length-q.length) (aK r/aK (ar q))))),(9, .box 91 [.z .bool (bj (aK r/aK (ar q))).1.1, .z (.slice (.int .u32)) (bj (aK r/aK (ar q))).1.2, .z .bool (bj (aK r/aK (ar q))).2.1, .z (.slice (.int .u32)) (bj (aK r/aK (ar q))).2.2])]⟩:aa)) (fun z=>z<=q.length) (fun z=>q.length-z) 0 ?_ ?_ ?_;·refine q_l ?_;simp only[hk,w1,w2,Int.toNat_natCast,pe2,n1,n2,aH,tW,cu,true_and,and_true,and_self];rfl
   ·omega
   ·(rintro i g1;(try dsimp only at g1);refine ak ?_;refine cG hG (by simp only[hT,cZ,bW.eq_def,b8.eq_def,c8,fB,dF,eS,fA,gd,ev,mx0,mx1,mx2,mx3,mx4,mx5,mx6,aV,bp,bF,aZ,bo,Ty.fieldTy,Ty.fieldOf,Nat.reduceLT,Nat.reduceEqDiff,Nat.reduceAdd,Nat.reduceMul,Nat.reduceSub,Nat.reduceLeDiff,Nat.reduceBEq,Nat.reduceBNe,reduceIte,reduceDIte,reduceCtorEq];rfl) ?_ ?_;·first|trivial|omega|(simp;done)|(simp;omega));refine aj ?_;refine ak ?_;refine ao ?_ ?_
    ·intro hb1;(try simp only[bt] at hb1);(have hi:i<q.length:=by have h9:(i:Int)<(q.length:Int):=hb1;omega);obtain⟨u1,u2,u3,u4,u5,u6⟩:=K1 hC hz hle hi;refine aq ?_;refine aj ?_;refine ak ?_;refine ax ?_;refine ak ?_;refine cG hG (by simp only[hT,cZ,bW.eq_def,b8.eq_def,c8,fB,dF,eS,fA,gd,ev,mx0,mx1,mx2,mx3,mx4,mx5,mx6,aV,bp,bF,aZ,bo,Ty.fieldTy,Ty.fieldOf,Nat.reduceLT,Nat.reduceEqDiff,Nat.reduceAdd,Nat.reduceMul,Nat.reduceSub,Nat.reduceLeDiff,Nat.reduceBEq,Nat.reduceBNe,reduceIte,reduceDIte,reduceCtorEq];rfl) ?_ ?_
     ·(try simp only[ba]);exact⟨by omega,hb1⟩
     refine aj ?_;refine tj hG (by simp only[hT,mt0,cZ,bW.eq_def,b8.eq_def,c8,fB,dF,eS,fA,gd,ev,mx0,mx1,mx2,mx3,mx4,mx5,mx6,aV,bp,bF,aZ,bo,Ty.fieldTy,Ty.fieldOf,Nat.reduceLT,Nat.reduceEqDiff,Nat.reduceAdd,Nat.reduceMul,Nat.reduceSub,Nat.reduceLeDiff,Nat.reduceBEq,Nat.reduceBNe,reduceIte,reduceDIte,reduceCtorEq];rfl) (by kernel_rfl) (by rfl) (by rfl) ?_ ?_
     ·(try simp only[ba]);simp only[pe2,u1,u3,u4,Int.toNat_natCast,aH];exact HE hC hz hle hi
     (refine aL ?_;refine aj ?_;refine cG hG (by simp only[hT,cZ,bW.eq_def,b8.eq_def,c8,fB,dF,eS,fA,gd,ev,mx0,mx1,mx2,mx3,mx4,mx5,mx6,aV,bp,bF,aZ,bo,Ty.fieldTy,Ty.fieldOf,Nat.reduceLT,Nat.reduceEqDiff,Nat.reduceAdd,Nat.reduceMul,Nat.reduceSub,Nat.reduceLeDiff,Nat.reduceBEq,Nat.reduceBNe,reduceIte,reduceDIte,reduceCtorEq];rfl) ?_ ?_;·first|trivial|omega|(simp;done)|(simp;omega));show ∃ z,_;refine q_l ?_;simp only[pe2,u1,u3,u4,Int.toNat_natCast,aH,NK];exact K4 (n:=n) (s:=s) hC hi
    ·intro hb1;(try simp only[bf] at hb1);(have hi:i=q.length:=by have h9: ¬ (i:Int)<(q.length:Int):=hb1;omega);refine bh ?_;refine aE ?_;refine az ?_;refine ay ?_;refine aj ?_;refine cG hG (by simp only[hT,cZ,bW.eq_def,b8.eq_def,c8,fB,dF,eS,fA,gd,ev,mx0,mx1,mx2,mx3,mx4,mx5,mx6,aV,bp,bF,aZ,bo,Ty.fieldTy,Ty.fieldOf,Nat.reduceLT,Nat.reduceEqDiff,Nat.reduceAdd,Nat.reduceMul,Nat.reduceSub,Nat.reduceLeDiff,Nat.reduceBEq,Nat.reduceBNe,reduceIte,reduceDIte,reduceCtorEq];rfl) ?_ ?_
     ·(try simp only[ba]);rw[EP (p:=p) (n:=n) (s:=s) hi];exact K2 hC hz hle
     refine aL ?_;show ∃ z,_;refine q_l ?_;obtain⟨m,hm⟩:=div_next hC hz hle;exact⟨m,aT (cl (ar q) r),by rw[EP (p:=p) (n:=n) (s:=s) hi,aJ],_,rfl,hm,fo (by rw[aM];exact h0) (by rw[aM];exact hle) hC.hl⟩
  ·(intro hb0;(try simp only[bf] at hb0);(have hle: ¬q.length<=r.length:=by have h9: ¬ (q.length:Int)<=((aI r).length:Int):=hb0;rw[aF] at h9;omega);have he:=div_end hz hle;refine bh ?_;refine aE ?_;refine az ?_;refine ay ?_;refine aj ?_;refine ak ?_;refine cG hG (by simp only[hT,cZ,bW.eq_def,b8.eq_def,c8,fB,dF,eS,fA,gd,ev,mx0,mx1,mx2,mx3,mx4,mx5,mx6,aV,bp,bF,aZ,bo,Ty.fieldTy,Ty.fieldOf,Nat.reduceLT,Nat.reduceEqDiff,Nat.reduceAdd,Nat.reduceMul,Nat.reduceSub,Nat.reduceLeDiff,Nat.reduceBEq,Nat.reduceBNe,reduceIte,reduceDIte,reduceCtorEq];rfl) ?_ ?_;·first|trivial|omega|(simp;done)|(simp;omega));refine aj ?_;refine av ?_;refine q_e [] ?_;rw[<- he];exact⟨rfl,trivial,rfl⟩
def qV(B:ag):Tab:={types:= [(3,(.int .i64)),(79,(.slice (.st (.pair (.st (.pair .bool (.slice (.int .u32)))) (.st (.pair .bool (.slice (.int .u32))))))))],elems:= [],cons:= [(68,pM),(120,oS)],hint:= [13],N:=21,base:=B}
theorem Bj{B:ag}(hB:aB B):aG Tryz.prog (qV B):=⟨⟨tc ty3 (tc fT (ae)),af,by simp only[qV,ioB];omega⟩,aD (cc Tryz.func68 (oT hB) (cc Tryz.func120 (wM hB) (au))),by kernel_rfl⟩
def l9:Con:=fun l os=>match l,os with
 | [.z (.slice (.st (.pair (.st (.pair .bool (.slice (.int .u32)))) (.st (.pair .bool (.slice (.int .u32))))))) p, .z (.slice (.st (.pair (.st (.pair .bool (.slice (.int .u32)))) (.st (.pair .bool (.slice (.int .u32))))))) q], []=>some (iY p q, [.z (.slice (.st (.pair (.st (.pair .bool (.slice (.int .u32)))) (.st (.pair .bool (.slice (.int .u32))))))) (aI (cw (ar p) (ar q)))], [])
 |_,_=>none
theorem wO{B:ag}(hB:aB B):Valid B Tryz.prog 70 l9:=by
 refine ab (Bj hB).tab Tryz.func70 rfl rfl rfl ?_;intro args os C rs os' hc hC;unfold l9 at hc;split at hc;case h_2=>cases hc
 rename_i p q;cases hc;refine v_h (Bj hB) fun X hP hT hr hG=> ?_;have hU:=qV.eq_1;unfold qV at hT;have hX:=ai @oS.eq_1<| @pM.eq_1;simp only[Tryz.f70,aC,al,ioB];refine s_g hG ?_;refine ak ?_;refine ax ?_;refine br (fun(z:Nat×List Rat×List Rat)=>(⟨[(0, .l (.z (.slice (.st (.pair (.st (.pair .bool (.slice (.int .u32)))) (.st (.pair .bool (.slice (.int .u32))))))) (aI z.2.1))),(1, .l (.z (.slice (.st (.pair (.st (.pair .bool (.slice (.int .u32)))) (.st (.pair .bool (.slice (.int .u32))))))) (aI z.2.2)))], []⟩:aa)) (fun z=>ue p q z.1 z.2.1 z.2.2) (fun z=>z.2.2.length) (q.length+1,ar p,ar q) ?_ ?_ ?_;·refine q_l ?_;rw[xG hC.hp,xG hC.hq];exact⟨rfl,rfl⟩
 ·exact HF hC
 ·rintro⟨n,a,b⟩ hz;try dsimp only at hz
  refine ak ?_;refine s_g hG ?_;refine ao ?_ ?_
  ·intro hb0;(try simp only[bt] at hb0);(have hl:0<b.length:=by have h9:(0:Int)<((aI b).length:Int):=hb0;rw[aF] at h9;omega);obtain⟨d1,d2,⟨m,d3⟩,d4⟩:=K5 hz hl;refine aq ?_;refine aj ?_;refine ax ?_;refine s_q hG ?_ ?_
   ·(try simp only[ba]);exact d1
   refine ah hG ?_ ?_
   ·(try simp only[ba]);rw[aJ,aJ];exact d2
   refine aL ?_;show ∃ z,_;refine q_l ?_;rw[aJ,aJ,aJ];exact⟨m,b,rfl,_,rfl,d3,d4⟩
  ·intro hb0;(try simp only[bf] at hb0);(have hl: ¬0<b.length:=by have h9: ¬ (0:Int)<((aI b).length:Int):=hb0;rw[aF] at h9;omega);obtain⟨d1,d2⟩:=NL hz hl;refine bh ?_;refine aE ?_;refine az ?_;refine ay ?_;refine aj ?_;refine s_q hG ?_ ?_
   ·(try simp only[ba]);exact d1
   refine av ?_;refine q_e [] ?_;rw[aJ,d2]
def qW(B:ag):Tab:={types:= [(3,(.int .i64)),(79,(.slice (.st (.pair (.st (.pair .bool (.slice (.int .u32)))) (.st (.pair .bool (.slice (.int .u32))))))))],elems:= [],cons:= [(68,pM),(70,l9),(77,jS),(120,oS)],hint:= [14],N:=19,base:=B}
theorem Bk{B:ag}(hB:aB B):aG Tryz.prog (qW B):=⟨⟨tc ty3 (tc fT (ae)),af,by simp only[qW,ioB];omega⟩,aD (cc Tryz.func68 (oT hB) (cc Tryz.func70 (wO hB) (cc Tryz.func77 (wN hB) (cc Tryz.func120 (wM hB) (au))))),by kernel_rfl⟩
def qX:Con:=fun l os=>match l,os with
 | [.z (.slice (.st (.pair (.st (.pair .bool (.slice (.int .u32)))) (.st (.pair .bool (.slice (.int .u32))))))) p], []=>some (mo p, [.z (.slice (.st (.pair (.st (.pair .bool (.slice (.int .u32)))) (.st (.pair .bool (.slice (.int .u32))))))) (aI (cm (ar p)))], [])
 |_,_=>none
theorem Ix{B:ag}(hB:aB B):Valid B Tryz.prog 79 qX:=by
 refine ab (Bk hB).tab Tryz.func79 rfl rfl rfl ?_;intro args os C rs os' hc hC;unfold qX at hc;split at hc;case h_2=>cases hc
 rename_i p;cases hc;refine v_h (Bk hB) fun X hP hT hr hG=> ?_;have hU:=qW.eq_1;unfold qW at hT;have hX:=ai @l9.eq_1<|ai @jS.eq_1<|ai @oS.eq_1<| @pM.eq_1;simp only[Tryz.f79,aC,al,ioB];refine s_g hG ?_;refine ak ?_;refine s_g hG ?_;refine ao ?_ ?_
 ·intro hb0;try simp only[bt] at hb0
  refine s_g hG ?_;refine av ?_;refine aw ?_;refine q_e [] ?_;have h9:(p.length:Int)=0:=hb0;obtain rfl:p= []:=List.eq_nil_of_length_eq_zero (by omega);rfl
 ·intro hb0;try simp only[bf] at hb0
  have hne:p≠ []:=by intro e;subst e;exact hb0 rfl
  obtain⟨c1,c2,c3,c4,c5⟩:=hC hne;refine aq ?_;refine aj ?_;refine s_q hG ?_ ?_
  ·(try simp only[ba]);simp only[aJ];exact⟨⟨c1,by omega⟩,c3,c4⟩
  refine s_q hG ?_ ?_
  ·(try simp only[ba]);simp only[aJ];exact c5
  refine av ?_;refine q_e [] ?_;simp only[aJ,cm,if_neg (show ¬ar p= [] from fun e=>hne (by have:=congrArg List.length e;rw[aM] at this;exact List.eq_nil_of_length_eq_zero this))]
end Go.Proofs.YtdojbabpnaifoaaGreatDoor
end
section
namespace Go.Cm
open Go.RowKit
def wP:Code->Option (Nat×TypeId×Nat)
 | .region _ ops false=>match ops.toList with
  | [o1,o2]=>match o1.guard,o1.dst,o1.op,o2.guard,o2.dst,o2.op with
   |none,some d, .alloc T,none,none, .store T' (.tmp d') (.tmp p)=>if T=T'/\d'=d/\p≠d then some (d,T,p) else none
   |_,_,_,_,_,_=>none
  |_=>none
 |_=>none
theorem yu{H:Nat->Prop}{w:World}{ρ:Nat->Value}{cs:List LV}{vs:List Value}(h:bz (fH H w ρ) cs vs):∀ c∈vs,c.oneCell'=true:=by
 intro c hc;obtain⟨i,hi,rfl⟩:=List.getElem_of_mem hc;have hl:=h.length;obtain⟨v,h1,h2⟩:=h.get (List.getElem?_eq_getElem (show i<cs.length by omega));rw[List.getElem?_eq_getElem hi] at h1;cases h1;exact h2.2
theorem MK{X:Cx}{r:Option Nat}{n:Nat}(c:Code){d:Nat}{T:TypeId}{p:Nat}{u:Ty}(h:wP c=some (d,T,p))(hT:cN X.P T u)(a:Act)(w:World)(hd:d<a.tmps.size)(hl:(a.eval (.tmp p)).cells.toList.length=u.w)(h1:∀ c∈(a.eval (.tmp p)).cells.toList,c.oneCell'=true):
  ∃ Wb:World,(∀ k,k<w.heap.size->Wb.heap[k]? =w.heap[k]?)/\Wb.heap[w.heap.size]? =some (.cells ((a.eval (.tmp p)).cells.toList).toArray T (0,0))/\Wb.heap.size=w.heap.size+1/\(Wb.os=w.os/\Wb.tape=w.tape/\Wb.output=w.output)/\
   ∀ {K:Act->World->Prop} {R:Exit->Act->World->Prop},K (a.put (some d) (.pointer (some ⟨w.heap.size,0,none⟩))) Wb->c.wpIn (fw r) n X.P (Exit.then K R) a w:=by
 cases c with
 |region id ops draw=>
  cases draw with
  |true=>simp[wP] at h
  |false=>
   simp only[wP] at h;split at h;(case h_2=>cases h);rename_i o1 o2 hops;split at h;(case h_2=>cases h);rename_i d0 T0 T' d' p' g1 e1 e2 g2 e3 e4;split at h;(case isFalse=>cases h);rename_i hc;obtain⟨rfl,rfl,hpd⟩:=hc;cases h;have hz:=gi hT.leaf u.zeroCells u.zeroCells_length u.zeroCells_one;have hrow:(w.alloc (.cells (mkV u.isAgg u.zeroCells).cells T)).heap[w.heap.size]? =some (.cells u.zeroCells.toArray T (0,0)):=by
    rw[heap_alloc_new];congr 2;apply Array.ext';simpa using hz
   (have hst:=fv (P:=X.P) hT (v:=a.eval (.tmp p)) hrow hl h1 (o:=0) (by rw[u.zeroCells_length];omega);have hset:=dH hrow (new:=(a.eval (.tmp p)).cells.toList) (off:=0) (by rw[hl,u.zeroCells_length];omega);refine⟨(w.alloc (.cells (mkV u.isAgg u.zeroCells).cells T)).setCells w.heap.size 0 (a.eval (.tmp p)).cells.toList,fun k hk=> ?_,?_,?_,?_,?_⟩;·rw[b9 _ _ _ _ (by omega)];exact b6 w _ k hk);·rw[hset];have e0:u.zeroCells.drop (0+(a.eval (.tmp p)).cells.toList.length)= []:=List.drop_of_length_le (by rw[hl,u.zeroCells_length];omega);rw[e0];simp
   ·rw[mf,World.size_alloc]
   ·have hb:=Bel.setCells (M:=fun _=>True) (b:=w.heap.size) trivial (a.eval (.tmp p)).cells.toList 0 ((Bel.refl (fun _=>True) w).alloc (.cells (mkV u.isAgg u.zeroCells).cells T));exact⟨hb.os,hb.tape,hb.output⟩
   ·intro K R hk;refine wpIn_region_list ?_;rw[hops];(have hw1:∀ t,Region.wanted o1 (yielded ops t)=true:=fun t=>by simp[Region.wanted,g1]);(have hw2:∀ t,Region.wanted o2 (yielded ops t)=true:=fun t=>by simp[Region.wanted,g2]);simp only[wpListIn,hw1,if_true];refine bn (v:= .pointer (some ⟨w.heap.size,0,none⟩)) (w':=w.alloc (.cells (mkV u.isAgg u.zeroCells).cells T)) ?_ ?_;·unfold execOp;rw[e2];exact bC (vc hT w)
    ·rw[e1];simp only[hw2,if_true];have hdv:(a.put (some d) (.pointer (some ⟨w.heap.size,0,none⟩))).eval (.tmp d)= .pointer (some ⟨w.heap.size,0,none⟩):=by
      simp[Act.eval,Act.put,hd]
     have hpv:(a.put (some d) (.pointer (some ⟨w.heap.size,0,none⟩))).eval (.tmp p)=a.eval (.tmp p):=by
      show (a.put (some d) _).tmps.getD p undef=a.tmps.getD p undef;exact Act.getD_put_ne hpd
     (refine gl (w':=(w.alloc (.cells (mkV u.isAgg u.zeroCells).cells T)).setCells w.heap.size 0 (a.eval (.tmp p)).cells.toList) ?_ ?_;·unfold execOp;rw[e4];simp only[hdv,hpv];simp[hst]);·rw[e3];exact hk
 |_=>simp[wP] at h
theorem Fits.freshO{X:Cx}{s:aa}{a:Act}{w w':World}{d:Nat}{obj:aO}{val:Value}{ρ:Nat->Value}(hf:Fits X s a w ρ)(hdB:d<ioB)
  (hkeep:∀ k,k<w.heap.size->w'.heap[k]? =w.heap[k]?) (hval:∀ b,Blk val b->w.heap.size<=b)
  (hobj:∀ H' ρ',(∀ b,b<w.heap.size->H' b->hot X.O ρ s.own b)->bm (hot X.O ρ s.own) w w'->(∀ i,i≠d->ρ' i=ρ i)->ρ' d=val->b4 H' w' ρ' X.M (d,obj)):
  ∃ ρ',ρ' d=val/\(∀ i,i≠d->ρ' i=ρ i)/\Fits X {env:=bS (LV.kill d) s.env,own:=(d,obj)::bu (LV.kill d) (del s.own d)} a w' ρ':=by
 have hlt:=fun p hp b hb=>((hf.own p hp).lt (b:=b) hb).2;have hs:bm (hot X.O ρ s.own) w w':=fun b _ hb=>hkeep b (cW hb);have hh:∀ b,b<w.heap.size->hot X.O (mc ρ d val) ((d,obj)::bu (LV.kill d) (del s.own d)) b->hot X.O ρ s.own b:=by
  intro b hb h;rcases h with h|⟨p,hp,hp2⟩;·exact .inl h
  ·(rcases List.mem_cons.1 hp with rfl|hp;·simp only[cJ] at hp2;have:=hval b hp2;omega);·obtain⟨u,h1,_⟩:=bq hp;have h2:=bJ.1 h1;rw[du _ _ h2.2] at hp2;exact dm h2.1 hp2
 have hρ:∀ i,i≠d->mc ρ d val i=ρ i:=fun i hi=>du _ _ hi;refine⟨mc ρ d val,cJ _ _ _,hρ,hf.env_map (fun x v hx=>bl hh hs hρ hx) ?_ ?_ ?_⟩
 ·intro p hp;rcases List.mem_cons.1 hp with rfl|hp;·exact hobj _ _ hh hs hρ (cJ _ _ _)
  ·obtain⟨u,h1,h2⟩:=bq hp;have h3:=bJ.1 h1;have:=(hf.own _ h3.1).move (f:=LV.kill d) (ρ':=mc ρ d val) hh hs (fun x v hx=>bl hh hs hρ hx) (hρ _ h3.2) (fun b hb=>hkeep b (hlt _ h3.1 b hb));rw[<- h2] at this;exact this
 ·intro p hp hB hF;rcases List.mem_cons.1 hp with rfl|hp;·exact absurd hB (Nat.not_le.2 hdB)
  ·obtain⟨u,h1,_⟩:=bq hp;have h3:=bJ.1 h1;rw[hρ _ h3.2];exact hf.io _ h3.1 hB hF
 ·rw[List.pairwise_cons];constructor;·intro q hq;obtain⟨u,h1,_⟩:=bq hq;have h3:=bJ.1 h1;refine⟨fun e=>h3.2 e.symm,fun b hb hq2=> ?_⟩;rw[du _ _ h3.2] at hq2;simp only[cJ] at hb;have h4:=hval b hb;have:=hlt _ h3.1 b hq2;omega
  ·have hap:=cy (f:=LV.kill d) (fun i j=>i≠j/\∀ b,Blk (ρ i) b-> ¬Blk (ρ j) b) (cY (fun i j=>i≠j/\∀ b,Blk (ρ i) b-> ¬Blk (ρ j) b) (n:=d) hf.apart);refine hap.imp_of_mem fun {p q} hp hq hpq=> ?_;obtain⟨_,h1,_⟩:=bq hp;obtain⟨_,h2,_⟩:=bq hq;rw[du _ _ (bJ.1 h1).2,du _ _ (bJ.1 h2).2];exact hpq
theorem Iy{X:Cx}(hr:X.r=none){s:aa}{K:Exit->aa->Prop}{g:Operand}{ps:Array Tmp}{assign body:Code}{gf:FuncId}
  {items:List (List LV)} (henters:∀ args w,(callFunc gf args).run X.P w= .ok (.enter gf args) w) (hdata:∀ it∈items,it.length=ps.size/\it.all LV.isZ=true) {d pv:Nat} {TB:TypeId} {ub:Ty} (hasg:wP assign=some (d,TB,pv)) (hTb:cN X.P TB ub) (hdN:d<X.T.N) (ks:List Nat)
  (hk1:ks.all (fun t=> !ps.toList.contains t&&t !=d)=true) (hps:ps.toList.all (fun t=>decide (t<X.T.N))=true)
  {ι:Type} (f:Nat->ι->aa) (Φ:Nat->ι->Prop) (x₀:ι) (h₀:le s (f 0 x₀))
  (hseq:∀ (a:Act) (w:World) (ρ:Nat->Value),St X s a w->Fits X s a w ρ->(∀ b,hot X.O (cL ρ s.own) (f 0 x₀).own b->b<w.heap.size)->∃ (lb:List Value) (E:Nat->Prop),a.eval g= .func (.func gf) #[] lb.toArray/\(∀ b,E b->X.M b/\(∃ o:Obj,w.heap[b]? =some o/\o.isCells=true)/\ ¬hot X.O (cL ρ s.own) (f 0 x₀).own b/\hot X.O ρ s.own b)/\∃ enc:Nat->Array Value,
   (∀ k (hk:k<items.length),bz (aU (fun b=>hot X.O (cL ρ s.own) (f 0 x₀).own b∨E b) w (fun _=>undef)) items[k] (enc k).toList)/\vo X.P gf lb.toArray enc items.length (za (hot (fun _=>False) (cL ρ s.own) (f 0 x₀).own) w.heap.size) w E) (hΦ:Φ 0 x₀) (hks:∀ k x,(f k x).env.all (fun e=>ks.contains e.1)=true)
  (hround:∀ k (hk:k<items.length) (x:ι),Φ k x->∃ s1 v cs,bb (ec (f k x) (ps.toList.zip items[k])) (.tmp pv)=some v/\v.cells=some cs/\cs.length=ub.w/\cs.all (fun c=> !c.isOf d)=true/\s1={env:=(d, .l (.ownP d 0))::del ((ec (f k x) (ps.toList.zip items[k])).kill d).env d,own:=(d, .box TB cs)::((ec (f k x) (ps.toList.zip items[k])).kill d).own}/\
   ∀ X':Cx,X'.P=X.P->X'.T={X.T with keep:=ks}->J X' body s1 (xk f Φ ks K k))
  (hdone:∀ x,Φ items.length x->K .normal (f items.length x)):J X (.rangeFunc g ps assign body) s K:=by
 intro a w hst;obtain⟨ρ,hf⟩:=hst.fits;have hHlt':∀ b,hot X.O (cL ρ s.own) (f 0 x₀).own b->b<w.heap.size:=fun b hb=>hf.hot_lt hst.others hst.below (mE h₀ hb);have hseq':=hseq a w ρ hst hf hHlt';obtain⟨H,hH⟩:∃ H,H=hot (fun _=>False) (cL ρ s.own) (f 0 x₀).own:=⟨_,rfl⟩;have hHX:∀ b,H b->hot X.O (cL ρ s.own) (f 0 x₀).own b:=fun b hb=>by rw[hH] at hb;exact hb.elim False.elim .inr
 rw[<- hH] at hseq';obtain⟨lb,E,hlb1,hE,enc,henc,hsq⟩:=hseq';have hEM:=fun b hb=>(hE b hb).1;have hEw:=fun b hb=>(hE b hb).2.1;have hEH:∀ b,E b-> ¬H b:=fun b hb h=>(hE b hb).2.2.1 (hHX b h);have hw0:X.w0.heap.size<=w.heap.size:=hst.below.size;have hout0:eG X a w H E (f 0 x₀) w (cL ρ s.own):=by
  have h1:Fits (XE X E) (f 0 x₀) a w (cL ρ s.own):=Fits.leO h₀ hf (fun b _ hb=>by
   (rcases hb with(hb|hb)|hb;·exact .inl hb);·exact(hE b hb).2.2.2
   ·exact mE h₀ (.inr hb))
  exact⟨h1,hst.below,fun p hp b hb=> .inr (by rw[hH];exact dm hp hb),KeepsOthers.refl _,bm.refl _ _⟩
 refine wpIn_rangeFunc ?_;intro fn hfn;have hround0:(fw X.r).round=none:=by rw[hr];rfl
 rw[hround0];obtain⟨rec,hrec⟩:∃ rec:LoopState->Option Code->Loop,rec=fun st pe=>{state:=st,pending:=pe,fn,tmps:=a.tmps,params:=ps,assign,body,defers:=w.heap.size}:=⟨_,rfl⟩;obtain⟨W1,hW1⟩:∃ W1,(w.alloc (.deferred (some []))).alloc (.loop (rec .ready none))=W1:=⟨_,rfl⟩;have hsz1:W1.heap.size=w.heap.size+2:=by rw[<- hW1];simp
 have hL1:W1.heap[w.heap.size+1]? =some (.loop (rec .ready none)):=by
  rw[<- hW1];have:=World.alloc_heap_new (w.alloc (.deferred (some []))) (.loop (rec .ready none));rwa [World.size_alloc] at this
 have hD1:W1.heap[w.heap.size]? =some (.deferred (some [])):=by
  rw[<- hW1];exact(Below.heap_alloc _ _ _ (by simp)).trans (World.alloc_heap_new w _)
 have hb1:Below w.heap.size w W1:=by rw[<- hW1];exact((Below.refl _ w).alloc (Nat.le_refl _) _).alloc (by simp) _
 have hout1:eG X a w H E (f 0 x₀) W1 (cL ρ s.own):=by
  rw[<- hW1];exact(hout0.abide hw0 (World.grownBy_alloc _ _ none) (by simp)).abide hw0 (World.grownBy_alloc _ _ none) (by simp)
 refine⟨w.heap.size+1, [{target:= .collected w.heap.size,args:= #[]}],W1,{target:= .fn (.func gf) lb.toArray,args:= #[.func (.yield (w.heap.size+1)) #[] #[]]},W1,gf,
  #[.func (.yield (w.heap.size+1)) #[] #[]]++lb.toArray,W1,?_,?_,fun _ _=>trivial,?_,fun h=>by simp[fw,Fence.wide] at h,?_⟩
 ·rw[<- hW1,hrec];exact run_enterLoop_outer _ _ _ _ _
 ·simp only[resolve,hlb1];simp[go_sem]
 ·simp[invoke,go_sem,henters]
 have hfw:fw X.r=fw none:=by rw[hr]
 rw[hfw];have hkeptA:∀ k (act0:Act),act0.tmps=((ps.toList.zip (enc k).toList).foldl (fun(t:Array Value) (p:Nat×Value)=>t.setIfInBounds p.1 p.2) a.tmps)->∀ t∈ks,∀ pt:Value,(act0.put (some d) pt).tmps.getD t undef=a.tmps.getD t undef:=by
  intro k act0 h0 t ht pt;have h1:=List.all_eq_true.1 hk1 t ht;simp only[Bool.and_eq_true,Bool.not_eq_true',List.contains_eq_mem,decide_eq_false_iff_not,bne_iff_ne] at h1;rw[Act.getD_put_ne h1.2,h0,nW];intro hm;obtain⟨p,hp,rfl⟩:=List.mem_map.1 hm;exact h1.1 (List.of_mem_zip hp).1
 have hE1: ¬E (w.heap.size+1):=fun e=>by
  obtain⟨o,ho,_⟩:=hEw _ e;have:=(Array.getElem?_eq_some_iff.1 ho).1;omega
 have hE2: ¬E w.heap.size:=fun e=>by
  obtain⟨o,ho,_⟩:=hEw _ e;have:=(Array.getElem?_eq_some_iff.1 ho).1;omega
 refine(hsq (w.heap.size+1)
  (fun k W=>(∃ x ρ,Φ k x/\eG X a w H E (f k x) W ρ)/\W.heap[w.heap.size+1]? =some (.loop (rec .ready none))/\W.heap[w.heap.size]? =some (.deferred (some [])))
  (fun W=>∃ c,(∃ z ρ,JP K z c/\eG X a w H E z W ρ)/\W.heap[w.heap.size+1]? =some (.loop (rec .done (some c)))/\W.heap[w.heap.size]? =some (.deferred (some [])))
  W1 hb1 ?_ ?_ ?_ ?_ ?_ ⟨⟨x₀,_,hΦ,hout1⟩,hL1,hD1⟩).mono ?_
 ·rintro k A B row ⟨⟨x,ρx,hx,ho⟩,hl,hd⟩ hg' hrow;refine⟨⟨x,ρx,hx,ho.abide hw0 hg' (fun r e=> ?_)⟩,(grownBy_keeps hg' (fun r e=>(hrow r e).2) hl rfl).trans hl,(grownBy_keeps hg' (fun r e=>(hrow r e).2) hd rfl).trans hd⟩;obtain⟨h1,o,h2,h3⟩:=hrow r e;exact⟨by omega,o,h2,Obj.not_cells_of_walk h3⟩
 ·rintro _ A B row ⟨c,⟨z,ρx,hx,ho⟩,hl,hd⟩ hg' hrow;refine⟨c,⟨z,ρx,hx,ho.abide hw0 hg' (fun r e=> ?_)⟩,(grownBy_keeps hg' (fun r e=>(hrow r e).2) hl rfl).trans hl,(grownBy_keeps hg' (fun r e=>(hrow r e).2) hd rfl).trans hd⟩;obtain⟨h1,o,h2,h3⟩:=hrow r e;exact⟨by omega,o,h2,Obj.not_cells_of_walk h3⟩
 ·rintro k A B ⟨⟨x,ρx,hx,ho⟩,hl,hd⟩ ht;exact⟨⟨x,ρx,hx,ho.turn hEM hEw hEH ht⟩,(ht.same _ hE1).trans hl,(ht.same _ hE2).trans hd⟩
 ·rintro A B ⟨c,⟨z,ρx,hx,ho⟩,hl,hd⟩ ht;exact⟨c,⟨z,ρx,hx,ho.turn hEM hEw hEH ht⟩,(ht.same _ hE1).trans hl,(ht.same _ hE2).trans hd⟩
 ·rintro k W ⟨⟨x,ρx,hx,ho⟩,hl,hd⟩ hkN;obtain⟨s1,v,cs,hv1,hv2,hv3,hv4,hs1,hJ⟩:=hround k hkN x hx;have hlt:w.heap.size+1<W.heap.size:=(Array.getElem?_eq_some_iff.1 hl).1;have hen:=henc k hkN;have hdat:=hdata _ (List.getElem_mem hkN);have hes:(enc k).size=ps.size:=by have:=hen.length;rw[hdat.1] at this;simpa using this.symm
  have hy:=run_yield (P:=X.P) (args:=enc k) hl (by rw[hrec];exact hes);rw[hrec] at hy;obtain⟨W2,hW2⟩:∃ W2,W.putObj (w.heap.size+1) (.loop {rec .ready none with state:= .busy})=W2:=⟨_,rfl⟩;have hl2:W2.heap[w.heap.size+1]? =some (.loop {rec .ready none with state:= .busy}):=by rw[<- hW2];exact World.putObj_heap_same hlt
  have hd2:W2.heap[w.heap.size]? =some (.deferred (some [])):=by rw[<- hW2];exact(World.putObj_heap_other (by omega)).trans hd
  have ho2:eG X a w H E (f k x) W2 ρx:=by
   rw[<- hW2];exact ho.abide hw0 (grownBy_putObj' _ _ _) (fun r e=>by cases e;exact⟨by omega,_,hl,rfl⟩)
  have hzip:(ps.zip (enc k)).toList=ps.toList.zip (enc k).toList:=Array.toList_zip;have hfold:(ps.zip (enc k)).foldl (fun(t:Array Value) (p:Nat×Value)=>t.setIfInBounds p.1 p.2) a.tmps=(ps.toList.zip (enc k).toList).foldl (fun(t:Array Value) (p:Nat×Value)=>t.setIfInBounds p.1 p.2) a.tmps:=by
   rw[<- Array.foldl_toList,hzip]
  obtain⟨act0,hact0⟩:∃ act0:Act,act0={tmps:=(ps.toList.zip (enc k).toList).foldl (fun(t:Array Value) (p:Nat×Value)=>t.setIfInBounds p.1 p.2) a.tmps,defers:= []}:=⟨_,rfl⟩;have hfitA:Fits (XE X E) (f k x) {a with defers:= []} W2 ρx:=⟨ho2.fits.env,ho2.fits.own,ho2.fits.io,ho2.fits.apart⟩;have hHsub:∀ b,b<w.heap.size->hot (XE X E).O ρx (f k x).own b->(hot X.O (cL ρ s.own) (f 0 x₀).own b∨E b):=by
   (rintro b hb ((h1|h1)|⟨p,hp,hpb⟩);·exact .inl (.inl h1));·exact .inr h1
   ·(rcases ho2.own p hp b hpb with h2|h2;·omega);·exact .inl (hHX b h2)
  have hvals:bz (aU (hot (XE X E).O ρx (f k x).own) W2 ρx) ((ps.toList.zip (items[k])).map Prod.snd) (enc k).toList:=by
   have e:(ps.toList.zip (items[k])).map Prod.snd=items[k]:=List.map_snd_zip (by have:=hdat.1;simp;omega);rw[e];refine hen.imp (fun y v hy h=> ?_);have hz:=List.all_eq_true.1 hdat.2 y hy;refine aY hHsub (fun b hb hc=>ho2.stays b (fun e=>hb (e.imp (hHX b) id)) hc) (fun id hid=> ?_) h;cases y<;>simp_all [LV.isZ,LV.isOf]
  have hszA:a.tmps.size=X.T.N:=hst.size;have e1:(ps.toList.zip (items[k])).map Prod.fst=ps.toList:=List.map_fst_zip (by have:=hdat.1;simp;omega);obtain⟨actP,hactP,hfitP,hszP⟩:=nV (ps.toList.zip (items[k])) (enc k).toList hfitA rfl hszA (fun p hp=>by
   have:=List.all_eq_true.1 hps p.1 (List.of_mem_zip hp).1;simpa using this) hvals
  rw[e1] at hactP;have hP0:actP=act0:=by rw[hactP,hact0]
  rw[hP0] at hfitP hszP;have hpv:bb (ec (f k x) (ps.toList.zip items[k])) (.tmp pv)=some v:=hv1;have hcells:=AV.cells_ok hv2 (bY hfitP hpv);obtain⟨Wb,hWb1,hWb2,hWb3,hWb4,hexec⟩:=MK (X:=X) (r:=some (w.heap.size+1)) (n:=0) assign hasg hTb act0 W (by rw[hszP];exact hdN) (by rw[<- hcells.length];exact hv3) (yu hcells);refine⟨fn,_,assign,body,hy,roundIn_of_wpIn (F:=fw none) trivial ?_⟩;rw[hfold,<- hact0];refine hexec ⟨_,run_beginRound ((hWb1 _ (Array.getElem?_eq_some_iff.1 hl).1).trans hl) (by rw[hrec]),?_⟩;have hW2s:W2.heap.size=W.heap.size:=by rw[<- hW2];simp[World.putObj]
  obtain⟨W2b,hW2b⟩:∃ W2b,Wb.putObj (w.heap.size+1) (.loop {rec .ready none with state:= .busy})=W2b:=⟨_,rfl⟩;rw[hW2b];have hkb:∀ k,k<W2.heap.size->W2b.heap[k]? =W2.heap[k]? :=by
   (intro k hk;rw[<- hW2b,<- hW2];by_cases e:k=w.heap.size+1;·subst e;rw[World.putObj_heap_same (by omega),World.putObj_heap_same hlt]);·rw[World.putObj_heap_other e,World.putObj_heap_other e,hWb1 k (by omega)]
  have hnb:W2b.heap[W2.heap.size]? =some (.cells ((act0.eval (.tmp pv)).cells.toList).toArray TB (0,0)):=by
   rw[<- hW2b,hW2s,World.putObj_heap_other (by omega)];exact hWb2
  have hbelb:∀ M:Nat->Prop,Bel M W2 W2b:=fun M=>by
   (have e1:W2b.os=W2.os:=by rw[<- hW2b,<- hW2];exact hWb4.1);(have e2:W2b.tape=W2.tape:=by rw[<- hW2b,<- hW2];exact hWb4.2.1);(have e3:W2b.output=W2.output:=by rw[<- hW2b,<- hW2];exact hWb4.2.2);exact⟨e1,e2,e3,by rw[<- hW2b];simp only[World.putObj,Array.size_setIfInBounds];omega,fun k hk _=>hkb k hk⟩
  have hdB:d<ioB:=Nat.lt_of_lt_of_le hdN hst.small.n;obtain⟨ρn,hρd,hρo,hfit1⟩:=Fits.freshO hfitP hdB (w':=W2b) (obj:= .box TB cs) (val:= .pointer (some ⟨W2.heap.size,0,none⟩)) hkb (fun b hb=>by simp[Blk] at hb;omega)
   (fun H' ρ' hh hs hρ hρd=>⟨W2.heap.size,(act0.eval (.tmp pv)).cells.toList,hρd, .inl (by have:=ho2.bel.size;exact this),hnb,bz.kill hh hs hρ (fun c hc=>by have:=List.all_eq_true.1 hv4 c hc;simpa using this) hcells⟩)
  have hfit1:=hfit1.put (d:=d) (by rw[hszP];exact hdN) (v:= .l (.ownP d 0)) (val:= .pointer (some ⟨W2.heap.size,0,none⟩)) ⟨W2.heap.size,hρd,rfl⟩;have hs1':s1={env:=(d, .l (.ownP d 0))::del (bS (LV.kill d) (ec (f k x) (ps.toList.zip items[k])).env) d,own:=(d, .box TB cs)::bu (LV.kill d) (del (ec (f k x) (ps.toList.zip items[k])).own d)}:=hs1;rw[hW2s] at hfit1;have hkA:∀ t∈ks,(act0.put (some d) (.pointer (some ⟨W.heap.size,0,none⟩))).tmps.getD t undef=a.tmps.getD t undef:=fun t ht=>hkeptA k act0 (by rw[hact0]) t ht _;have hst1:St {XE X E with T:={X.T with keep:=ks},I:=fun b=>∃ p∈(f k x).own,Blk (ρx p.1) b,w0:=W2,r:=some (w.heap.size+1),tm:=fun t=>(act0.put (some d) (.pointer (some ⟨W.heap.size,0,none⟩))).tmps.getD t undef} s1 (act0.put (some d) (.pointer (some ⟨W.heap.size,0,none⟩))) W2b:=by
   refine⟨?_,fun _ _=>rfl,by rw[Act.size_put];exact hszP,hbelb _,fun b hb hm=> ?_,⟨hst.small.n,?_,fun b hb=> ?_⟩,ρn,by rw[hs1'];exact hfit1.env,fun p hp=> ?_,by rw[hs1'];exact hfit1.io,by rw[hs1'];exact hfit1.apart⟩;·rw[Act.defers_put,hact0];exact Marks.nil _ _
   ·rcases hb with hb|hb
    ·rcases hm with hm|⟨p,hp,hpb⟩
     ·have h1:=hst.others b hb;have h2:b<X.w0.heap.size:=by
       by_cases h3:b<X.w0.heap.size
       ·exact h3
       ·exact absurd (.inl (by omega)) h1
      have:=ho2.bel.size;simp only at hm;omega
     ·exact hst.others b hb ((ho2.fits.own p hp).lt hpb).1
    ·obtain⟨o,ho,_⟩:=hEw b hb;have h2:=(Array.getElem?_eq_some_iff.1 ho).1;rcases hm with hm|⟨p,hp,hpb⟩;·have:=ho2.keeps.size;simp only at hm;omega
     ·(rcases ho2.own p hp b hpb with h1|h1;·omega);·exact hEH b hb h1
   ·(have h1:=hst.small.on;refine⟨Nat.le_trans h1.1 ho2.bel.size,fun b hb=> ?_⟩;rw[<- h1.2 b hb];refine ho2.bel.block b (Nat.lt_of_lt_of_le hb h1.1) ?_;rintro(hm|hm);·have:=h1.1;simp only at hb;omega);·have:=hst.small.io b hm;simp only at hb;omega
   ·(obtain⟨p,hp,hpb⟩:=hb;rcases ((ho2.fits.own p hp).lt hpb).1 with h1|h1;·exact Nat.le_trans hst.small.on.1 h1);·exact hst.small.io b h1
   ·have hq:∀ (l:List (Nat×LV)) (s:aa),(ec s l).own=s.own:=by
     intro l;induction l with
     |nil=>intro s;rfl
     |cons q l ih=>intro s;exact ih _
    rw[hs1'] at hp;have hp':p∈(d,aO.box TB cs)::bu (LV.kill d) (del (ec (f k x) (ps.toList.zip items[k])).own d):=hp;have h5:=(hfit1.own p hp').moved (H':=hot (XE X E).O ρn s1.own) (ρ':=ρn) (k:=p.1) (f:=id) (M':=Cx.M {XE X E with T:={X.T with keep:=ks},I:=fun b=>∃ p∈(f k x).own,Blk (ρx p.1) b,w0:=W2,r:=some (w.heap.size+1),tm:=fun t=>(act0.put (some d) (.pointer (some ⟨W.heap.size,0,none⟩))).tmps.getD t undef}) (fun b _ h=>by rw[hs1'] at h;exact h) (fun x v hx=>aY (fun b _ h=>by rw[hs1'] at h;exact h) (bm.refl _ _) (fun _ _=>rfl) hx) rfl (fun b hb=>by
     (rcases List.mem_cons.1 hp' with rfl|hp2;·simp only[hρd] at hb;simp[Blk] at hb;exact .inl (by simp only;omega));·obtain⟨u,g1,_⟩:=bq hp2;have g2:=bJ.1 g1;rw[hρo _ g2.2] at hb;exact .inr ⟨(p.1,u),by rw[<- hq];exact g2.1,hb⟩)
    rw[aO.map_id] at h5;exact h5
  have hw:=hJ {XE X E with T:={X.T with keep:=ks},I:=fun b=>∃ p∈(f k x).own,Blk (ρx p.1) b,w0:=W2,r:=some (w.heap.size+1),tm:=fun t=>(act0.put (some d) (.pointer (some ⟨W.heap.size,0,none⟩))).tmps.getD t undef} rfl rfl _ _ hst1;refine Ei (n:=2) (Code.wpIn_mono (fun e a3 W3 hp=> ?_) hw);obtain⟨s3,hK3,hst3⟩:=hp;have fin:∀ (jump:Option Code) (z:aa),z.env.all (fun e=>ks.contains e.1)=true->le s3 z->∃ ρz,eG X a w H E z (W3.putObj (w.heap.size+1) (.loop (rec (if jump.isNone then .ready else .done) jump))) ρz/\
    (Instr.endRound (w.heap.size+1) jump).run X.P W3= .ok (.bool jump.isNone) (W3.putObj (w.heap.size+1) (.loop (rec (if jump.isNone then .ready else .done) jump)))/\
    (W3.putObj (w.heap.size+1) (.loop (rec (if jump.isNone then .ready else .done) jump))).heap[w.heap.size+1]? =some (.loop (rec (if jump.isNone then .ready else .done) jump))/\
    (W3.putObj (w.heap.size+1) (.loop (rec (if jump.isNone then .ready else .done) jump))).heap[w.heap.size]? =some (.deferred (some []))/\
    za H w.heap.size W (W3.putObj (w.heap.size+1) (.loop (rec (if jump.isNone then .ready else .done) jump))):=by
   intro jump z hz hle;obtain⟨ρz,h1,h2,h3⟩:=ho2.back hkA hz hle hst3;have hl3:=h2.same _ _ hl2 rfl;have hd3:=h2.same _ _ hd2 rfl;have he:=run_endRound (P:=X.P) jump hl3;rw[hrec] at he ⊢;refine⟨ρz,h1.abide hw0 (grownBy_putObj' _ _ _) (fun r e=>by cases e;exact⟨by omega,_,hl3,rfl⟩),he,World.putObj_heap_same (Array.getElem?_eq_some_iff.1 hl3).1,(World.putObj_heap_other (by omega)).trans hd3,fun b hb hnH hc=> ?_⟩;(have e1:W2.heap[b]? =W.heap[b]? :=by rw[<- hW2];exact World.putObj_heap_other (by omega));rw[World.putObj_heap_other (by omega),h3 b hb hnH (by rw[e1];exact hc),e1]
  cases e with
  |normal=>
   obtain⟨y,hle,hy'⟩:=hK3;obtain⟨ρz,h1,h2,h3,h4,h5⟩:=fin none _ (hks (k+1) y) hle;exact⟨_,_,h2, .inl ⟨rfl,⟨⟨y,ρz,hy',h1⟩,h3,h4⟩,h5⟩⟩
  |ret=>
   obtain⟨z,hle,hz,hk3⟩:=hK3;obtain⟨ρz,h1,h2,h3,h4,h5⟩:=fin (some .ret) _ hz hle;exact⟨_,_,h2, .inr ⟨rfl, .ret,⟨z,ρz,hk3,h1⟩,h3,h4⟩⟩
  |exit i=>
   obtain⟨z,hle,hz,hk3⟩:=hK3;obtain⟨ρz,h1,h2,h3,h4,h5⟩:=fin (some (.exit i)) _ hz hle;exact⟨_,_,h2, .inr ⟨rfl, .exit i,⟨z,ρz,hk3,h1⟩,h3,h4⟩⟩
  |goto t=>exact hK3.elim
  |panic ch=>exact hK3.elim
  |outgrown=>exact hK3.elim
 ·rintro e W2 ⟨⟨v,rfl⟩,(⟨⟨x,ρx,hx,ho⟩,hl,hd⟩|⟨c,⟨z,ρz,hj,ho⟩,hl,hd⟩)⟩;·have he:=run_endLoop (P:=X.P) hl (by rw[hrec];simp);rw[hrec] at he;refine⟨none,_,he,_,hdone x hx,(ho.abide hw0 (grownBy_putObj' _ _ _) (fun r e=>by cases e;exact⟨by omega,_,hl,rfl⟩)).st hst ((World.putObj_heap_other (by omega)).trans hd)⟩
  ·have he:=run_endLoop (P:=X.P) hl (by rw[hrec];simp);rw[hrec] at he;refine⟨some c,_,he,?_⟩;cases c with
   |ret=>exact wpIn_ret ⟨z,hj,(ho.abide hw0 (grownBy_putObj' _ _ _) (fun r e=>by cases e;exact⟨by omega,_,hl,rfl⟩)).st hst ((World.putObj_heap_other (by omega)).trans hd)⟩
   |exit i=>exact wpIn_exit ⟨z,hj,(ho.abide hw0 (grownBy_putObj' _ _ _) (fun r e=>by cases e;exact⟨by omega,_,hl,rfl⟩)).st hst ((World.putObj_heap_other (by omega)).trans hd)⟩
   |_=>exact hj.elim
theorem wQ{X:Cx}(hr:X.r=none){s:aa}{K:Exit->aa->Prop}{g:Operand}{ps:Array Tmp}{assign body:Code}{gf:FuncId}{caps:List CV}
  (hg:bb s g=some (.l (.fn gf caps))) (hcap:caps.all CV.pure=true) {items:List (List LV)} (hseq:nk X.P gf ps.size caps items) {d pv:Nat} {TB:TypeId} {ub:Ty} (hasg:wP assign=some (d,TB,pv)) (hTb:cN X.P TB ub) (hdN:d<X.T.N) (ks:List Nat)
  (hk1:ks.all (fun t=> !ps.toList.contains t&&t !=d)=true) (hps:ps.toList.all (fun t=>decide (t<X.T.N))=true)
  {ι:Type} (f:Nat->ι->aa) (Φ:Nat->ι->Prop) (x₀:ι) (h₀:le s (f 0 x₀)) (hΦ:Φ 0 x₀) (hks:∀ k x,(f k x).env.all (fun e=>ks.contains e.1)=true)
  (hround:∀ k (hk:k<items.length) (x:ι),Φ k x->∃ s1 v cs,bb (ec (f k x) (ps.toList.zip items[k])) (.tmp pv)=some v/\v.cells=some cs/\cs.length=ub.w/\cs.all (fun c=> !c.isOf d)=true/\s1={env:=(d, .l (.ownP d 0))::del ((ec (f k x) (ps.toList.zip items[k])).kill d).env d,own:=(d, .box TB cs)::((ec (f k x) (ps.toList.zip items[k])).kill d).own}/\
   ∀ X':Cx,X'.P=X.P->X'.T={X.T with keep:=ks}->J X' body s1 (xk f Φ ks K k))
  (hdone:∀ x,Φ items.length x->K .normal (f items.length x)):J X (.rangeFunc g ps assign body) s K:=
 Iy hr hseq.enters hseq.data hasg hTb hdN ks hk1 hps f Φ x₀ h₀ (fun a w ρ _ hf hlt=>by
  obtain⟨lb,hlb1,hlb2⟩:aU (hot X.O ρ s.own) w ρ (.fn gf caps) (a.eval g):=bY hf hg;obtain⟨enc,h1,h2⟩:=hseq.seq _ w lb hlt (iS hcap (fun b hb=>mE h₀ hb) hlb2);exact⟨lb,fun _=>False,hlb1,fun b hb=>hb.elim,enc,fun k hk=>(h1 k hk).imp (fun x v hx h=>aY (H:=hot X.O (cL ρ s.own) (f 0 x₀).own) (fun b _ hb=>hb.elim id (fun e=>e.elim)) (bm.refl _ _) (fun _ _=>rfl) h),h2.kp (fun A B hk b hb hn hc=>hk b hb (fun e=>hn (e.elim False.elim .inr)) hc)⟩) hΦ hks hround hdone
end Go.Cm
end
section
namespace Go.Proofs.YtdojbabpnaifoaaGreatDoor
open Go Go.Cm Go.Proofs
def qY(B:ag):Tab:={types:= [(79,(.slice (.st (.pair (.st (.pair .bool (.slice (.int .u32)))) (.st (.pair .bool (.slice (.int .u32))))))))],elems:= [],cons:= [],hint:= [],N:=4,base:=B}
theorem Bl{B:ag}(hB:aB B):aG Tryz.prog (qY B):=⟨⟨tc fT (ae),af,by simp only[qY,ioB];omega⟩,bH rfl,by kernel_rfl⟩
def oU:Con:=fun l os=>match l,os with
 | [.z (.slice (.st (.pair (.st (.pair .bool (.slice (.int .u32)))) (.st (.pair .bool (.slice (.int .u32))))))) xs], []=>some (True, [.fn 125 [.z (.ptr (.slice (.st (.pair (.st (.pair .bool (.slice (.int .u32)))) (.st (.pair .bool (.slice (.int .u32)))))))) xs]], [])
 |_,_=>none
theorem wR{B:ag}(hB:aB B):Valid B Tryz.prog 83 oU:=by
 refine ab (Bl hB).tab Tryz.func83 rfl rfl rfl ?_;intro args os C rs os' hc hC;unfold oU at hc;split at hc;case h_2=>cases hc
 rename_i xs;cases hc;refine v_h (Bl hB) fun X hP hT hr hG=> ?_;have hU:=qY.eq_1;unfold qY at hT;have hX:=Bool.not_true;simp only[Tryz.f83,aC,al,ioB];refine s_g hG ?_;refine s_g hG ?_;refine av ?_;refine q_e [] ?_;rfl
def gY(B:ag):Tab:={types:= [(79,(.slice (.st (.pair (.st (.pair .bool (.slice (.int .u32)))) (.st (.pair .bool (.slice (.int .u32)))))))),(91,(.st (.pair (.st (.pair .bool (.slice (.int .u32)))) (.st (.pair .bool (.slice (.int .u32)))))))],elems:= [],cons:= [(58,kA),(83,oU),(105,dF),(113,ev)],hint:= [],N:=19,base:=B}
theorem Bm{B:ag}(hB:aB B):aG Tryz.prog (gY B):=⟨⟨tc fT (tc ty91 (ae)),af,by simp only[gY,ioB];omega⟩,aD (cc Tryz.func58 (jQ hB) (cc Tryz.func83 (wR hB) (cc Tryz.func105 (jR hB) (cc Tryz.func113 (l6 hB) (au))))),by kernel_rfl⟩
def Gn:Con:=fun l os=>match l,os with
 | [.z (.slice (.st (.pair (.st (.pair .bool (.slice (.int .u32)))) (.st (.pair .bool (.slice (.int .u32))))))) p, .z (.st (.pair (.st (.pair .bool (.slice (.int .u32)))) (.st (.pair .bool (.slice (.int .u32)))))) x], []=>some (Sz QM p/\p.length<=100/\NOK x/\lq (bc x)<=QM, [.z (.st (.pair (.st (.pair .bool (.slice (.int .u32)))) (.st (.pair .bool (.slice (.int .u32)))))) (bj (aQ (ar p) (bc x)))], [])
 |_,_=>none
theorem Iz{B:ag}(hB:aB B):Valid B Tryz.prog 89 Gn:=by
 refine ab (Bm hB).tab Tryz.func89 rfl rfl rfl ?_;intro args os C rs os' hc hC;unfold Gn at hc;split at hc;case h_2=>cases hc
 rename_i p x;cases hc;refine v_h (Bm hB) fun X hP hT hr hG=> ?_;have hU:=gY.eq_1;unfold gY at hT;have hX:=ai @oU.eq_1<|ai @kA.eq_1<|ai @dF.eq_1<| @ev.eq_1;simp only[Tryz.f89,aC,al,ioB];have hl:p.length<=100:=hC.2.1;refine s_g hG ?_;refine s_g hG ?_;refine ak ?_;refine s_g hG ?_;refine ax ?_;refine wQ hr (gf:=125) (caps:= [.z (.ptr (.slice (.st (.pair (.st (.pair .bool (.slice (.int .u32)))) (.st (.pair .bool (.slice (.int .u32)))))))) p]) (items:=bV p) (by simp only[hT,gY,mx0,mx1,mx2,mx3,mx4,mx5,mx6,aV,bp,bF,aZ,bo,Ty.fieldTy,Ty.fieldOf,Nat.reduceLT,Nat.reduceEqDiff,Nat.reduceAdd,Nat.reduceMul,Nat.reduceSub,Nat.reduceLeDiff,Nat.reduceBEq,Nat.reduceBNe,reduceIte,reduceDIte,reduceCtorEq];try rfl) (by rfl) (by rw[hP];exact vP p) (by rfl) (ub:=(.st (.pair (.st (.pair .bool (.slice (.int .u32)))) (.st (.pair .bool (.slice (.int .u32))))))) (by rw[hP];exact ty91) (by simp only[hT,gY];omega) [3,4,5] (by rfl) (by simp only[hT,gY];try rfl) (fun(k:Nat) (z:Rat)=>(⟨[(3, .l (.z (.ptr (.st (.pair (.st (.pair .bool (.slice (.int .u32)))) (.st (.pair .bool (.slice (.int .u32))))))) x)),(4, .l (.ownP 4 0)),(5, .l (.ownP 5 0))], [(4, .box 91 [.z .bool false, .val (.slice none 0 0), .z .bool false, .val (.slice none 0 0)]),(5, .box 91 [.z .bool (bj z).1.1, .z (.slice (.int .u32)) (bj z).1.2, .z .bool (bj z).2.1, .z (.slice (.int .u32)) (bj z).2.2])]⟩:aa)) (fun(k:Nat) (z:Rat)=>z=aQ ((ar p).drop (p.length-k)) (bc x)) 0 ?_ ?_ ?_ ?_ ?_;·simp only[ml0,ml1,Nat.reduceLT,Nat.reduceEqDiff,Nat.reduceAdd,Nat.reduceMul,Nat.reduceSub,Nat.reduceLeDiff,Nat.reduceBEq,Nat.reduceBNe,reduceIte,reduceDIte,reduceCtorEq]
 ·exact Dq p (bc x)
 ·intro k z;rfl
 ·intro k hk;rintro v hz;try dsimp only at hz
  have hk:k<p.length:=by simpa [bV] using hk
  have hg:=zZ hC.1 (z6 hk);have hv:=HG hC hk hz;refine⟨_,_,_,by simp only[hT,gY,bV,jJ,mx0,mx1,mx2,mx3,mx4,mx5,mx6,aV,bp,bF,aZ,bo,Ty.fieldTy,Ty.fieldOf,Nat.reduceLT,Nat.reduceEqDiff,Nat.reduceAdd,Nat.reduceMul,Nat.reduceSub,Nat.reduceLeDiff,Nat.reduceBEq,Nat.reduceBNe,reduceIte,reduceDIte,reduceCtorEq,List.getElem_map,List.getElem_range];rfl,by simp only[mx0,mx1,mx2,mx3,mx4,mx5,mx6,aV,bp,bF,aZ,bo,Ty.fieldTy,Ty.fieldOf,Nat.reduceLT,Nat.reduceEqDiff,Nat.reduceAdd,Nat.reduceMul,Nat.reduceSub,Nat.reduceLeDiff,Nat.reduceBEq,Nat.reduceBNe,reduceIte,reduceDIte,reduceCtorEq];rfl,by rfl,by simp only[mx0,mx1,mx2,mx3,mx4,mx5,mx6,aV,bp,bF,aZ,bo,Ty.fieldTy,Ty.fieldOf,Nat.reduceLT,Nat.reduceEqDiff,Nat.reduceAdd,Nat.reduceMul,Nat.reduceSub,Nat.reduceLeDiff,Nat.reduceBEq,Nat.reduceBNe,reduceIte,reduceDIte,reduceCtorEq]<;>rfl,by simp only[hT,gY,bV,jJ,mx0,mx1,mx2,mx3,mx4,mx5,mx6,aV,bp,bF,aZ,bo,Ty.fieldTy,Ty.fieldOf,Nat.reduceLT,Nat.reduceEqDiff,Nat.reduceAdd,Nat.reduceMul,Nat.reduceSub,Nat.reduceLeDiff,Nat.reduceBEq,Nat.reduceBNe,reduceIte,reduceDIte,reduceCtorEq,List.getElem_map,List.getElem_range];rfl,?_⟩;intro X' hP' hT';have hG':aG X'.P X'.T:=by rw[hP',hT'];exact hG.keep _
  rw[hT] at hT';refine ax ?_;refine Ek hG' ?_ ?_
  ·(try simp only[ba]);simp only[pe2,hg,aH];exact hv
  refine aL ?_;show ∃ z,_;simp only[ml0,ml1,Nat.reduceLT,Nat.reduceEqDiff,Nat.reduceAdd,Nat.reduceMul,Nat.reduceSub,Nat.reduceLeDiff,Nat.reduceBEq,Nat.reduceBNe,reduceIte,reduceDIte,reduceCtorEq];simp only[pe2,hg,aH];exact⟨_,rfl,rfl,rfl,rfl,by rw[hz,Dr hk]⟩
 ·rintro v hz;try dsimp only at hz
  rw[K8] at hz;refine aL ?_;refine aj ?_;refine s_g hG ?_;refine av ?_;refine q_e [] ?_;rw[hz]
def qZ(B:ag):Tab:={types:= [(3,(.int .i64)),(79,(.slice (.st (.pair (.st (.pair .bool (.slice (.int .u32)))) (.st (.pair .bool (.slice (.int .u32)))))))),(91,(.st (.pair (.st (.pair .bool (.slice (.int .u32)))) (.st (.pair .bool (.slice (.int .u32)))))))],elems:= [(79,91)],cons:= [(58,kA),(82,js),(107,wJ)],hint:= [26],N:=31,base:=B}
theorem Bn{B:ag}(hB:aB B):aG Tryz.prog (qZ B):=⟨⟨tc ty3 (tc fT (tc ty91 (ae))),aR (by kernel_rfl) (af),by simp only[qZ,ioB];omega⟩,aD (cc Tryz.func58 (jQ hB) (cc Tryz.func82 (iJ hB) (cc Tryz.func107 (wK hB) (au)))),by kernel_rfl⟩
def ML:Con:=fun l os=>match l,os with
 | [.z (.slice (.st (.pair (.st (.pair .bool (.slice (.int .u32)))) (.st (.pair .bool (.slice (.int .u32))))))) p, .z (.slice (.st (.pair (.st (.pair .bool (.slice (.int .u32)))) (.st (.pair .bool (.slice (.int .u32))))))) q, .val (.func (.func g) fs cs)], []=>some ((g=58/\fs.size=0/\cs.size=0)/\Sz QH p/\Sz QH q/\p.length<=1000/\q.length<=1000, [.z (.slice (.st (.pair (.st (.pair .bool (.slice (.int .u32)))) (.st (.pair .bool (.slice (.int .u32))))))) (aI (bK (· + ·) (ar p) (ar q)))], [])
 |_,_=>none
theorem IA{B:ag}(hB:aB B):Valid B Tryz.prog 57 ML:=by
 refine ab (Bn hB).tab Tryz.func57 rfl rfl rfl ?_;intro args os C rs os' hc hC;unfold ML at hc;split at hc;case h_2=>cases hc
 rename_i p q g fs cs;cases hc;refine v_h (Bn hB) fun X hP hT hr hG=> ?_;have hU:=qZ.eq_1;unfold qZ at hT;have hX:=ai @wJ.eq_1<|ai @kA.eq_1<| @js.eq_1;simp only[Tryz.f57,aC,al,ioB];obtain⟨⟨rfl,e1,e2⟩,hp,hq,hl1,hl2⟩:=hC;obtain rfl:=Array.eq_empty_of_size_eq_zero e1;obtain rfl:=Array.eq_empty_of_size_eq_zero e2;have hl1:p.length<=1000:=hl1;have hl2:q.length<=1000:=hl2;refine s_g hG ?_;refine s_g hG ?_;refine ak ?_;refine s_g hG ?_;refine ax ?_;refine br (fun(z:Nat)=>(⟨[(0, .l (.z (.slice (.st (.pair (.st (.pair .bool (.slice (.int .u32)))) (.st (.pair .bool (.slice (.int .u32))))))) p)),(1, .l (.z (.slice (.st (.pair (.st (.pair .bool (.slice (.int .u32)))) (.st (.pair .bool (.slice (.int .u32))))))) q)),(2, .l (.val (.func (.func 58) #[] #[]))),(7, .l (.ownS 27)),(13, .l (.z (.int .i64) ((max p.length q.length:Nat):Int))),(14, .l (.z (.int .i64) (z:Int)))], [(27, .arr (.st (.pair (.st (.pair .bool (.slice (.int .u32)))) (.st (.pair .bool (.slice (.int .u32)))))) 91 (aI (bM (· + ·) (ar p) (ar q) z)))]⟩:aa)) (fun z=>z<=max p.length q.length) (fun z=>max p.length q.length-z) 0 ?_ ?_ ?_;·refine q_l ?_;exact⟨EO p q trivial,rfl,by unfold ioB;omega,rfl⟩
 ·omega
 ·rintro k g1;try dsimp only at g1
  refine s_g hG ?_;refine ak ?_;refine ao ?_ ?_
  ·intro hb0;(try simp only[bt] at hb0);refine aq ?_;refine aj ?_;refine ak ?_;refine ax ?_;refine s_g hG ?_;refine ah hG ?_ ?_
   ·(try simp only[ba]);exact vJ hp hq (by omega) _
   (refine aL ?_;refine aj ?_;refine ah hG ?_ ?_;·first|trivial|omega|(simp;done)|(simp;omega));show ∃ z,_;refine q_l ?_;exact tT (op:=(· + ·)) (by omega) (by omega)
  ·intro hb0;(try simp only[bf] at hb0);refine bh ?_;refine aE ?_;refine az ?_;refine ay ?_;refine aj ?_;refine s_q hG ?_ ?_
   ·(try simp only[ba]);exact tU zS hp hq (by omega)
   refine av ?_;refine q_e [] ?_;exact zU g1 hb0
def q8(B:ag):Tab:={types:= [(3,(.int .i64)),(79,(.slice (.st (.pair (.st (.pair .bool (.slice (.int .u32)))) (.st (.pair .bool (.slice (.int .u32)))))))),(91,(.st (.pair (.st (.pair .bool (.slice (.int .u32)))) (.st (.pair .bool (.slice (.int .u32)))))))],elems:= [(79,91)],cons:= [(60,eS),(82,js),(107,wJ)],hint:= [26],N:=31,base:=B}
theorem Bo{B:ag}(hB:aB B):aG Tryz.prog (q8 B):=⟨⟨tc ty3 (tc fT (tc ty91 (ae))),aR (by kernel_rfl) (af),by simp only[q8,ioB];omega⟩,aD (cc Tryz.func60 (oK hB) (cc Tryz.func82 (iJ hB) (cc Tryz.func107 (wK hB) (au)))),by kernel_rfl⟩
def MM:Con:=fun l os=>match l,os with
 | [.z (.slice (.st (.pair (.st (.pair .bool (.slice (.int .u32)))) (.st (.pair .bool (.slice (.int .u32))))))) p, .z (.slice (.st (.pair (.st (.pair .bool (.slice (.int .u32)))) (.st (.pair .bool (.slice (.int .u32))))))) q, .val (.func (.func g) fs cs)], []=>some ((g=60/\fs.size=0/\cs.size=0)/\Sz QH p/\Sz QH q/\p.length<=1000/\q.length<=1000, [.z (.slice (.st (.pair (.st (.pair .bool (.slice (.int .u32)))) (.st (.pair .bool (.slice (.int .u32))))))) (aI (bK (· - ·) (ar p) (ar q)))], [])
 |_,_=>none
theorem IB{B:ag}(hB:aB B):Valid B Tryz.prog 57 MM:=by
 refine ab (Bo hB).tab Tryz.func57 rfl rfl rfl ?_;intro args os C rs os' hc hC;unfold MM at hc;split at hc;case h_2=>cases hc
 rename_i p q g fs cs;cases hc;refine v_h (Bo hB) fun X hP hT hr hG=> ?_;have hU:=q8.eq_1;unfold q8 at hT;have hX:=ai @wJ.eq_1<|ai @eS.eq_1<| @js.eq_1;simp only[Tryz.f57,aC,al,ioB];obtain⟨⟨rfl,e1,e2⟩,hp,hq,hl1,hl2⟩:=hC;obtain rfl:=Array.eq_empty_of_size_eq_zero e1;obtain rfl:=Array.eq_empty_of_size_eq_zero e2;have hl1:p.length<=1000:=hl1;have hl2:q.length<=1000:=hl2;refine s_g hG ?_;refine s_g hG ?_;refine ak ?_;refine s_g hG ?_;refine ax ?_;refine br (fun(z:Nat)=>(⟨[(0, .l (.z (.slice (.st (.pair (.st (.pair .bool (.slice (.int .u32)))) (.st (.pair .bool (.slice (.int .u32))))))) p)),(1, .l (.z (.slice (.st (.pair (.st (.pair .bool (.slice (.int .u32)))) (.st (.pair .bool (.slice (.int .u32))))))) q)),(2, .l (.val (.func (.func 60) #[] #[]))),(7, .l (.ownS 27)),(13, .l (.z (.int .i64) ((max p.length q.length:Nat):Int))),(14, .l (.z (.int .i64) (z:Int)))], [(27, .arr (.st (.pair (.st (.pair .bool (.slice (.int .u32)))) (.st (.pair .bool (.slice (.int .u32)))))) 91 (aI (bM (· - ·) (ar p) (ar q) z)))]⟩:aa)) (fun z=>z<=max p.length q.length) (fun z=>max p.length q.length-z) 0 ?_ ?_ ?_;·refine q_l ?_;exact⟨EO p q trivial,rfl,by unfold ioB;omega,rfl⟩
 ·omega
 ·rintro k g1;try dsimp only at g1
  refine s_g hG ?_;refine ak ?_;refine ao ?_ ?_
  ·intro hb0;(try simp only[bt] at hb0);refine aq ?_;refine aj ?_;refine ak ?_;refine ax ?_;refine s_g hG ?_;refine ah hG ?_ ?_
   ·(try simp only[ba]);exact vJ hp hq (by omega) _
   (refine aL ?_;refine aj ?_;refine ah hG ?_ ?_;·first|trivial|omega|(simp;done)|(simp;omega));show ∃ z,_;refine q_l ?_;exact tT (op:=(· - ·)) (by omega) (by omega)
  ·intro hb0;(try simp only[bf] at hb0);refine bh ?_;refine aE ?_;refine az ?_;refine ay ?_;refine aj ?_;refine s_q hG ?_ ?_
   ·(try simp only[ba]);exact tU zT hp hq (by omega)
   refine av ?_;refine q_e [] ?_;exact zU g1 hb0
def pN:Con:=fun l os=>match l,os with
 | [.z (.slice (.st (.pair (.st (.pair .bool (.slice (.int .u32)))) (.st (.pair .bool (.slice (.int .u32))))))) p, .z (.slice (.st (.pair (.st (.pair .bool (.slice (.int .u32)))) (.st (.pair .bool (.slice (.int .u32))))))) q, .val (.func (.func g) fs cs)], []=>some (((g=58∨g=60)/\fs.size=0/\cs.size=0)/\Sz QH p/\Sz QH q/\p.length<=1000/\q.length<=1000, [.z (.slice (.st (.pair (.st (.pair .bool (.slice (.int .u32)))) (.st (.pair .bool (.slice (.int .u32))))))) (aI (bK (if g=58 then (· + ·) else (· - ·)) (ar p) (ar q)))], [])
 |_,_=>none
theorem mT{B:ag}(hB:aB B):Valid B Tryz.prog 57 pN:=by
 intro args os C rs os' hc hC;unfold pN at hc;split at hc
 ·cases hc;obtain⟨⟨rfl|rfl,e1,e2⟩,h3⟩:=hC;·exact IA hB _ _ _ _ _ rfl ⟨⟨rfl,e1,e2⟩,h3⟩
  ·exact IB hB _ _ _ _ _ rfl ⟨⟨rfl,e1,e2⟩,h3⟩
 ·cases hc
def q9(B:ag):Tab:={types:= [(79,(.slice (.st (.pair (.st (.pair .bool (.slice (.int .u32)))) (.st (.pair .bool (.slice (.int .u32)))))))),(84, .func),(91,(.st (.pair (.st (.pair .bool (.slice (.int .u32)))) (.st (.pair .bool (.slice (.int .u32)))))))],elems:= [(79,91)],cons:= [(57,pN),(61,oR),(82,js)],hint:= [],N:=11,base:=B}
theorem Bp{B:ag}(hB:aB B):aG Tryz.prog (q9 B):=⟨⟨tc fT (tc pQ (tc ty91 (ae))),aR (by kernel_rfl) (af),by simp only[q9,ioB];omega⟩,aD (cc Tryz.func57 (mT hB) (cc Tryz.func61 (wL hB) (cc Tryz.func82 (iJ hB) (au)))),by kernel_rfl⟩
def Gp:Con:=fun l os=>match l,os with
 | [.z (.st (.pair (.st (.pair .bool (.slice (.int .u32)))) (.st (.pair .bool (.slice (.int .u32)))))) c, .ownP 10000000 0, .z (.ptr (.slice (.st (.pair (.st (.pair .bool (.slice (.int .u32)))) (.st (.pair .bool (.slice (.int .u32)))))))) b], [.box 79 [.z (.slice (.st (.pair (.st (.pair .bool (.slice (.int .u32)))) (.st (.pair .bool (.slice (.int .u32))))))) s]]=>some (Ds s b c, [], [.box 79 [.z (.slice (.st (.pair (.st (.pair .bool (.slice (.int .u32)))) (.st (.pair .bool (.slice (.int .u32))))))) (aI (jK (ar s) (ar b) (bc c)))]])
 |_,_=>none
theorem IC{B:ag}(hB:aB B):Valid B Tryz.prog 81 Gp:=by
 refine ab (Bp hB).tab Tryz.func81 rfl rfl rfl ?_;intro args os C rs os' hc hC;unfold Gp at hc;split at hc;case h_2=>cases hc
 rename_i c b s;cases hc;refine v_h (Bp hB) fun X hP hT hr hG=> ?_;have hU:=q9.eq_1;unfold q9 at hT;have hX:=ai @oR.eq_1<|ai @js.eq_1<| @pN.eq_1;simp only[Tryz.f81,aC,al,ioB];refine s_g hG ?_;refine gI hG ?_ ?_
 ·try simp only[ba]
  obtain⟨q1,q2,q3,q4,q5,q6⟩:=HH hC;exact⟨q1,⟨q2.1,by unfold QL;omega⟩,Or.inl trivial,q3,q4,q5,q6⟩
 refine q_e [] ?_;simp only[aJ];rfl
def gZ(B:ag):Tab:={types:= [(79,(.slice (.st (.pair (.st (.pair .bool (.slice (.int .u32)))) (.st (.pair .bool (.slice (.int .u32)))))))),(91,(.st (.pair (.st (.pair .bool (.slice (.int .u32)))) (.st (.pair .bool (.slice (.int .u32))))))),(109, .func)],elems:= [],cons:= [(81,Gp),(83,oU)],hint:= [],N:=18,base:=B}
theorem Bq{B:ag}(hB:aB B):aG Tryz.prog (gZ B):=⟨⟨tc fT (tc ty91 (tc QF (ae))),af,by simp only[gZ,ioB];omega⟩,aD (cc Tryz.func81 (IC hB) (cc Tryz.func83 (wR hB) (au))),by kernel_rfl⟩
def nK:Con:=fun l os=>match l,os with
 | [.z (.slice (.st (.pair (.st (.pair .bool (.slice (.int .u32)))) (.st (.pair .bool (.slice (.int .u32))))))) p, .z (.slice (.st (.pair (.st (.pair .bool (.slice (.int .u32)))) (.st (.pair .bool (.slice (.int .u32))))))) b], []=>some (uh p b, [.z (.slice (.st (.pair (.st (.pair .bool (.slice (.int .u32)))) (.st (.pair .bool (.slice (.int .u32))))))) (aI (eW (ar p) (ar b)))], [])
 |_,_=>none
theorem ID{B:ag}(hB:aB B):Valid B Tryz.prog 80 nK:=by
 refine ab (Bq hB).tab Tryz.func80 rfl rfl rfl ?_;intro args os C rs os' hc hC;unfold nK at hc;split at hc;case h_2=>cases hc
 rename_i p b;cases hc;refine v_h (Bq hB) fun X hP hT hr hG=> ?_;have hU:=gZ.eq_1;unfold gZ at hT;have hX:=ai @Gp.eq_1<| @oU.eq_1;simp only[Tryz.f80,aC,al,ioB];refine s_g hG ?_;refine s_g hG ?_;refine s_g hG ?_;refine ak ?_;refine s_g hG ?_;refine ax ?_;refine wQ hr (gf:=125) (caps:= [.z (.ptr (.slice (.st (.pair (.st (.pair .bool (.slice (.int .u32)))) (.st (.pair .bool (.slice (.int .u32)))))))) p]) (items:=bV p) (by simp only[hT,gZ,mx0,mx1,mx2,mx3,mx4,mx5,mx6,aV,bp,bF,aZ,bo,Ty.fieldTy,Ty.fieldOf,Nat.reduceLT,Nat.reduceEqDiff,Nat.reduceAdd,Nat.reduceMul,Nat.reduceSub,Nat.reduceLeDiff,Nat.reduceBEq,Nat.reduceBNe,reduceIte,reduceDIte,reduceCtorEq];try rfl) (by rfl) (by rw[hP];exact vP p) (by rfl) (ub:=(.st (.pair (.st (.pair .bool (.slice (.int .u32)))) (.st (.pair .bool (.slice (.int .u32))))))) (by rw[hP];exact ty91) (by simp only[hT,gZ];omega) [3,5,6] (by rfl) (by simp only[hT,gZ];try rfl) (fun(k:Nat) (z:Unit)=>(⟨[(3, .l (.z (.ptr (.slice (.st (.pair (.st (.pair .bool (.slice (.int .u32)))) (.st (.pair .bool (.slice (.int .u32)))))))) b)),(5, .l (.ownP 5 0)),(6, .l (.ownP 6 0))], [(5, .box 79 [.z (.slice (.st (.pair (.st (.pair .bool (.slice (.int .u32)))) (.st (.pair .bool (.slice (.int .u32))))))) (aI (dE (ar p) (ar b) k))]),(6, .box 109 [.fn 81 [.p 5, .z (.ptr (.slice (.st (.pair (.st (.pair .bool (.slice (.int .u32)))) (.st (.pair .bool (.slice (.int .u32)))))))) b]])]⟩:aa)) (fun(k:Nat) (z:Unit)=>True) () ?_ ?_ ?_ ?_ ?_;·simp only[ml0,ml1,Nat.reduceLT,Nat.reduceEqDiff,Nat.reduceAdd,Nat.reduceMul,Nat.reduceSub,Nat.reduceLeDiff,Nat.reduceBEq,Nat.reduceBNe,reduceIte,reduceDIte,reduceCtorEq];simp only[gg];rfl
 ·trivial
 ·intro k z;rfl
 ·intro k hk;rintro⟨⟩-;have hk:k<p.length:=by simpa [bV] using hk
  have hg:=zZ hC.1 (z6 hk);refine⟨_,_,_,by simp only[hT,gZ,bV,jJ,mx0,mx1,mx2,mx3,mx4,mx5,mx6,aV,bp,bF,aZ,bo,Ty.fieldTy,Ty.fieldOf,Nat.reduceLT,Nat.reduceEqDiff,Nat.reduceAdd,Nat.reduceMul,Nat.reduceSub,Nat.reduceLeDiff,Nat.reduceBEq,Nat.reduceBNe,reduceIte,reduceDIte,reduceCtorEq,List.getElem_map,List.getElem_range];rfl,by simp only[mx0,mx1,mx2,mx3,mx4,mx5,mx6,aV,bp,bF,aZ,bo,Ty.fieldTy,Ty.fieldOf,Nat.reduceLT,Nat.reduceEqDiff,Nat.reduceAdd,Nat.reduceMul,Nat.reduceSub,Nat.reduceLeDiff,Nat.reduceBEq,Nat.reduceBNe,reduceIte,reduceDIte,reduceCtorEq];rfl,by rfl,by simp only[mx0,mx1,mx2,mx3,mx4,mx5,mx6,aV,bp,bF,aZ,bo,Ty.fieldTy,Ty.fieldOf,Nat.reduceLT,Nat.reduceEqDiff,Nat.reduceAdd,Nat.reduceMul,Nat.reduceSub,Nat.reduceLeDiff,Nat.reduceBEq,Nat.reduceBNe,reduceIte,reduceDIte,reduceCtorEq]<;>rfl,by simp only[hT,gZ,bV,jJ,mx0,mx1,mx2,mx3,mx4,mx5,mx6,aV,bp,bF,aZ,bo,Ty.fieldTy,Ty.fieldOf,Nat.reduceLT,Nat.reduceEqDiff,Nat.reduceAdd,Nat.reduceMul,Nat.reduceSub,Nat.reduceLeDiff,Nat.reduceBEq,Nat.reduceBNe,reduceIte,reduceDIte,reduceCtorEq,List.getElem_map,List.getElem_range];rfl,?_⟩;intro X' hP' hT';have hG':aG X'.P X'.T:=by rw[hP',hT'];exact hG.keep _
  rw[hT] at hT';refine ax ?_;refine nX hG' ?_ ?_
  ·(try simp only[ba]);simp only[pe2,hg];exact hC.2.2 k hk
  refine aL ?_;show ∃ z,_;simp only[ml0,ml1,Nat.reduceLT,Nat.reduceEqDiff,Nat.reduceAdd,Nat.reduceMul,Nat.reduceSub,Nat.reduceLeDiff,Nat.reduceBEq,Nat.reduceBNe,reduceIte,reduceDIte,reduceCtorEq];simp only[pe2,hg,aJ,aH,dE,aM]
 ·rintro⟨⟩-;rw[show (bV p).length=p.length by simp[bV]];refine aL ?_;refine aj ?_;refine s_g hG ?_;refine av ?_;refine q_e [] ?_;rw[eW,aM]
def ra(B:ag):Tab:={types:= [(3,(.int .i64)),(22,(.slice .str)),(31,(.int .i64)),(46, .str)],elems:= [],cons:= [(87,l8),(106,Gm)],hint:= [],N:=33,base:=B}
theorem Br{B:ag}(hB:aB B):aG Tryz.prog (ra B):=⟨⟨tc ty3 (tc gB (tc jF (tc gr (ae)))),af,by simp only[ra,ioB];omega⟩,aD (cc Tryz.func87 (wH hB) (cc Tryz.func106 (It hB) (au))),by kernel_rfl⟩
def oV:Con:=fun l os=>match l,os with
 | [.z (.slice .str) p], []=>some (de p, [.z (.slice (.st (.pair (.st (.pair .bool (.slice (.int .u32)))) (.st (.pair .bool (.slice (.int .u32))))))) (aI (bk p)), .z (.int .i64) (cP p)], [])
 |_,_=>none
theorem wS{B:ag}(hB:aB B):Valid B Tryz.prog 54 oV:=by
 refine ab (Br hB).tab Tryz.func54 rfl rfl rfl ?_;intro args os C rs os' hc hC;unfold oV at hc;split at hc;case h_2=>cases hc
 rename_i p;cases hc;refine v_h (Br hB) fun X hP hT hr hG=> ?_;have hU:=ra.eq_1;unfold ra at hT;have hX:=ai @l8.eq_1<| @Gm.eq_1;simp only[Tryz.f54,aC,al,ioB];have hl:p.length<1000000000+1:=by have:=hC.1;unfold QL at this;omega
 refine s_g hG ?_;refine ak ?_;refine s_g hG ?_;refine ao ?_ ?_
 ·intro hb0;try simp only[bt] at hb0
  have hl41:41<p.length:=by have h9:(41:Int)<(p.length:Int):=hb0;omega
  refine s_g hG ?_;refine av ?_;refine aw ?_;refine q_e [] ?_;exact ur (Dx hl41)
 ·intro hb0;try simp only[bf] at hb0
  have hl41:p.length<=41:=by have h9: ¬ (41:Int)<(p.length:Int):=hb0;omega
  refine aq ?_;refine aj ?_;refine ak ?_;refine s_g hG ?_;refine ax ?_;refine br (fun(z:Nat)=>(⟨[(0, .l (.z (.slice .str) p)),(2, .l (.val (.slice none 0 0))),(3, .l (.z (.int .i64) 0)),(9, .l (.z (.slice .str) p)),(10, .l (.z (.int .i64) (p.length:Int))),(11, .l (.z (.int .i64) (z:Int)))], []⟩:aa)) (fun z=>z<=p.length/\(p.take z).all (fun q=>decide (cO q=0))=true) (fun z=>p.length-z) 0 ?_ ?_ ?_;·refine q_l ?_;rfl
  ·exact⟨by omega,rfl⟩
  ·rintro k ⟨g1,g2⟩;(try dsimp only at g1 g2);refine s_g hG ?_;refine ak ?_;refine ao ?_ ?_
   ·intro hb1;(try simp only[bt] at hb1);(have hk:k<p.length:=by have h9:(k:Int)<(p.length:Int):=hb1;omega);refine aq ?_;refine aj ?_;refine ak ?_;refine ax ?_;refine s_q hG ?_ ?_
    ·(try simp only[ba]);exact⟨by omega,hb1⟩
    refine s_q hG ?_ ?_
    ·(try simp only[ba]);exact hC.2 _ (gu (t:= .str) hk)
    refine ao ?_ ?_;·intro hb2;(try simp only[bt] at hb2);refine s_g hG ?_;refine av ?_;refine bD ?_;refine aw ?_;refine eF ?_;refine bD ?_;refine aw ?_;refine q_e [] ?_;exact ur (HM hk hl41 hb2)
    ·(intro hb2;(try simp only[bf] at hb2);refine aq ?_;refine aL ?_;refine aj ?_;refine ah hG ?_ ?_;·first|trivial|omega|(simp;done)|(simp;omega));show ∃ z,_;refine q_l ?_;exact⟨k+1,wi (by omega) (by omega),hk,Dv hk g2 hb2,by omega⟩
   ·intro hb1;(try simp only[bf] at hb1);(have hk:k=p.length:=by have h9: ¬ (k:Int)<(p.length:Int):=hb1;omega);subst hk;rw[List.take_length] at g2;refine bh ?_;refine aE ?_;refine az ?_;refine ay ?_;refine aj ?_;refine ak ?_;refine s_q hG ?_ ?_
    ·(try simp only[ba]);exact Dw hl41
    refine ao ?_ ?_;·intro hb3;(try simp only[bt] at hb3);refine s_g hG ?_;refine av ?_;refine aw ?_;refine q_e [] ?_;exact ur (Dy hl41 g2 hb3)
    ·intro hb3;(try simp only[bf] at hb3);refine aq ?_;refine aj ?_;refine s_q hG ?_ ?_
     ·(try simp only[ba]);exact⟨by unfold QL;omega,(uq hC g2).1⟩
     refine av ?_;refine q_e [] ?_;exact Li hC hl41 g2 hb3
def rb(B:ag):Tab:={types:= [(3,(.int .i64)),(22,(.slice .str)),(31,(.int .i64)),(44,(.slice (.slice .str))),(98,(.slice (.slice (.st (.pair (.st (.pair .bool (.slice (.int .u32)))) (.st (.pair .bool (.slice (.int .u32)))))))))],elems:= [(98,79)],cons:= [(54,oV)],hint:= [],N:=29,base:=B}
theorem Bt{B:ag}(hB:aB B):aG Tryz.prog (rb B):=⟨⟨tc ty3 (tc gB (tc jF (tc uV (tc uW (ae))))),aR (by kernel_rfl) (af),by simp only[rb,ioB];omega⟩,aD (cc Tryz.func54 (wS hB) (au)),by kernel_rfl⟩
def fC:Con:=fun l os=>match l,os with
 | [.z (.slice (.slice .str)) l], []=>some (l.length<=1000/\∀ p∈l,de p, [.z (.slice (.slice (.st (.pair (.st (.pair .bool (.slice (.int .u32)))) (.st (.pair .bool (.slice (.int .u32)))))))) (gP l), .z (.int .i64) (bP l)], [])
 |_,_=>none
theorem eP{B:ag}(hB:aB B):Valid B Tryz.prog 67 fC:=by
 refine ab (Bt hB).tab Tryz.func67 rfl rfl rfl ?_;intro args os C rs os' hc hC;unfold fC at hc;split at hc;case h_2=>cases hc
 rename_i l;cases hc;refine v_h (Bt hB) fun X hP hT hr hG=> ?_;have hU:=rb.eq_1;unfold rb at hT;have hX:= @oV.eq_1;simp only[Tryz.f67,aC,al,ioB];have hl:l.length<=1000:=hC.1;refine s_g hG ?_;refine Eh ?_;refine s_g hG ?_;refine s_g hG ?_;refine ak ?_;refine Eg ?_;refine aj ?_;refine ak ?_;refine s_g hG ?_;refine ax ?_;refine br (fun(z:Option (Nat))=>match z with|none=>((⟨[(0, .l (.z (.slice (.slice .str)) l)),(2, .l (.val (.slice none 0 0))),(3, .l (.z (.int .i64) 0)),(4, .l (.val (.slice none 0 0))),(5, .l (.z (.int .i64) 0)),(9, .l (.z (.slice (.slice .str)) l)),(10, .l (.z (.int .i64) (l.length:Int))),(11, .l (.z (.int .i64) 0))], []⟩:aa))|some z=>((⟨[(0, .l (.z (.slice (.slice .str)) l)),(2, .l (.val (.slice none 0 0))),(3, .l (.z (.int .i64) 0)),(4, .l (.ownS 25)),(5, .l (.z (.int .i64) 0)),(9, .l (.z (.slice (.slice .str)) l)),(10, .l (.z (.int .i64) (l.length:Int))),(11, .l (.z (.int .i64) (z:Int)))], [(25, .arr (.slice (.st (.pair (.st (.pair .bool (.slice (.int .u32)))) (.st (.pair .bool (.slice (.int .u32))))))) 79 ((l.take z).map fun p=>aI (bk p)))]⟩:aa))) (fun(z:Option (Nat))=>match z with|none=>(True)|some z=>(1<=z/\z<=l.length/\(l.take z).all (fun p=>decide (cP p=0))=true)) (fun(z:Option (Nat))=>match z with|none=>(l.length+1)|some z=>(l.length-z)) none ?_ ?_ ?_;·simp only[ml0,ml1,Nat.reduceLT,Nat.reduceEqDiff,Nat.reduceAdd,Nat.reduceMul,Nat.reduceSub,Nat.reduceLeDiff,Nat.reduceBEq,Nat.reduceBNe,reduceIte,reduceDIte,reduceCtorEq]
 ·trivial
 ·rintro(_|k) hz_
  ·obtain⟨k,ek⟩:∃ k:Nat,k=0:=⟨0,rfl⟩;(have e0:(k:Int)=0:=by rw[ek];rfl);refine s_g hG ?_;refine ak ?_;refine ao ?_ ?_
   ·intro hb0;(try simp only[bt] at hb0);(have hk:k<l.length:=by first|(have h9:(k:Int)<(l.length:Int):=hb0;omega)|(have h9:(0:Int)<(l.length:Int):=hb0;omega));refine aq ?_;refine aj ?_;refine ak ?_;refine ax ?_;refine s_q hG ?_ ?_
    ·(try simp only[ba]);exact⟨by omega,hb0⟩
    refine s_g hG ?_;refine ak ?_;refine s_q hG ?_ ?_
    ·(try simp only[ba]);first|exact hC.2 _ (gu (t:= .slice .str) hk)|(subst ek;exact hC.2 _ (gu (t:= .slice .str) (k:=0) hk))
    refine s_g hG ?_;refine ao ?_ ?_;·intro hb1;(try simp only[bt] at hb1);refine s_g hG ?_;refine bh ?_;refine aE ?_;refine iU rfl ?_;refine aE ?_;refine az ?_;refine ay ?_;refine aj ?_;refine s_g hG ?_;refine av ?_;refine gA ?_;refine q_e [] ?_;subst ek;exact HO hk hb1
    ·intro hb1;(try simp only[bf] at hb1);refine aq ?_;refine aj ?_;refine ah hG ?_ ?_
     ·(try simp only[ba]);(unfold Cm.Roomy;try simp only[List.length_map,List.length_take]);omega
     (refine aL ?_;refine aj ?_;refine ah hG ?_ ?_;·first|trivial|omega|(simp;done)|(simp;omega));refine⟨some (1),?_⟩;simp only[ml0,ml1,Nat.reduceLT,Nat.reduceEqDiff,Nat.reduceAdd,Nat.reduceMul,Nat.reduceSub,Nat.reduceLeDiff,Nat.reduceBEq,Nat.reduceBNe,reduceIte,reduceDIte,reduceCtorEq];subst ek;exact⟨hb1,Ae hl hk hb1⟩
   ·intro hb0;(try simp only[bf] at hb0);(have hk: ¬k<l.length:=by intro h9;first|exact hb0 (show (k:Int)<(l.length:Int) by omega)|exact hb0 (show (0:Int)<(l.length:Int) by omega));refine bh ?_;refine aE ?_;refine az ?_;refine ay ?_;refine aj ?_;refine s_g hG ?_;refine av ?_;refine gA ?_;refine q_e [] ?_;subst ek;exact HP hk
  ·obtain⟨g0,g1,g2⟩:=hz_;(try dsimp only at g0 g1 g2);refine s_g hG ?_;refine ak ?_;refine ao ?_ ?_
   ·intro hb0;(try simp only[bt] at hb0);(have hk:k<l.length:=by first|(have h9:(k:Int)<(l.length:Int):=hb0;omega)|(have h9:(0:Int)<(l.length:Int):=hb0;omega));refine aq ?_;refine aj ?_;refine ak ?_;refine ax ?_;refine s_q hG ?_ ?_
    ·(try simp only[ba]);exact⟨by omega,hb0⟩
    refine s_g hG ?_;refine ak ?_;refine s_q hG ?_ ?_
    ·(try simp only[ba]);first|exact hC.2 _ (gu (t:= .slice .str) hk)|(subst ek;exact hC.2 _ (gu (t:= .slice .str) (k:=0) hk))
    refine s_g hG ?_;refine ao ?_ ?_;·intro hb1;(try simp only[bt] at hb1);refine s_g hG ?_;refine bh ?_;refine aE ?_;refine iU rfl ?_;refine aE ?_;refine az ?_;refine ay ?_;refine aj ?_;refine s_g hG ?_;refine av ?_;refine gA ?_;refine q_e [] ?_;exact Ad hk g2 hb1
    ·intro hb1;(try simp only[bf] at hb1);refine aq ?_;refine aj ?_;refine ah hG ?_ ?_
     ·(try simp only[ba]);(unfold Cm.Roomy;try simp only[List.length_map,List.length_take]);omega
     (refine aL ?_;refine aj ?_;refine ah hG ?_ ?_;·first|trivial|omega|(simp;done)|(simp;omega));refine⟨some (k+1),?_⟩;simp only[ml0,ml1,Nat.reduceLT,Nat.reduceEqDiff,Nat.reduceAdd,Nat.reduceMul,Nat.reduceSub,Nat.reduceLeDiff,Nat.reduceBEq,Nat.reduceBNe,reduceIte,reduceDIte,reduceCtorEq];have hr:=uu hl hk g2 hb1;exact⟨hb1,hr⟩
   ·intro hb0;(try simp only[bf] at hb0);(have hk: ¬k<l.length:=by intro h9;first|exact hb0 (show (k:Int)<(l.length:Int) by omega)|exact hb0 (show (0:Int)<(l.length:Int) by omega));refine bh ?_;refine aE ?_;refine az ?_;refine ay ?_;refine aj ?_;refine s_g hG ?_;refine av ?_;refine gA ?_;refine q_e [25] ?_;rw[List.take_of_length_le (by omega)] at g2 ⊢;exact Lk g2
def re(B:ag):Tab:={types:= [(3,(.int .i64)),(78,(.slice (.st (.pair (.st (.pair .bool (.slice (.int .u32)))) (.st (.pair .bool (.slice (.int .u32)))))))),(79,(.slice (.st (.pair (.st (.pair .bool (.slice (.int .u32)))) (.st (.pair .bool (.slice (.int .u32))))))))],elems:= [],cons:= [(82,js),(88,oQ)],hint:= [],N:=19,base:=B}
theorem Bu{B:ag}(hB:aB B):aG Tryz.prog (re B):=⟨⟨tc ty3 (tc Nq (tc fT (ae))),af,by simp only[re,ioB];omega⟩,aD (cc Tryz.func82 (iJ hB) (cc Tryz.func88 (wI hB) (au))),by kernel_rfl⟩
def eg:Con:=fun l os=>match l,os with
 | [.z (.slice (.st (.pair (.st (.pair .bool (.slice (.int .u32)))) (.st (.pair .bool (.slice (.int .u32))))))) p], []=>some (Sz QC p/\p.length<=QL, [.z (.slice .str) (iZ (aT (ar p))), .z (.int .i64) (cD (aT (ar p)))], [])
 |_,_=>none
theorem fD{B:ag}(hB:aB B):Valid B Tryz.prog 69 eg:=by
 refine ab (Bu hB).tab Tryz.func69 rfl rfl rfl ?_;intro args os C rs os' hc hC;unfold eg at hc;split at hc;case h_2=>cases hc
 rename_i p;cases hc;refine v_h (Bu hB) fun X hP hT hr hG=> ?_;have hU:=re.eq_1;unfold re at hT;have hX:=ai @oQ.eq_1<| @js.eq_1;simp only[Tryz.f69,aC,al,ioB];refine s_g hG ?_;refine s_q hG ?_ ?_
 ·try simp only[ba]
  exact hC
 refine ak ?_;refine s_g hG ?_;refine ao ?_ ?_
 ·intro hb0;try simp only[bt] at hb0
  have hl:41<(aT (ar p)).length:=by have h9:(41:Int)<((aI (aT (ar p))).length:Int):=hb0;rw[aF] at h9;omega
  refine s_g hG ?_;refine av ?_;refine aw ?_;refine q_e [] ?_;exact Dz hl
 ·intro hb0;try simp only[bf] at hb0
  have hl: ¬41<(aT (ar p)).length:=by have h9: ¬ (41:Int)<((aI (aT (ar p))).length:Int):=hb0;rw[aF] at h9;omega
  refine aq ?_;refine aj ?_;refine s_q hG ?_ ?_
  ·(try simp only[ba]);exact HR hC hl
  refine ak ?_;refine s_g hG ?_;refine ao ?_ ?_;·intro hb1;(try simp only[bt] at hb1);refine s_g hG ?_;refine av ?_;refine aw ?_;refine q_e [] ?_;exact HQ hl hb1
  ·intro hb1;(try simp only[bf] at hb1);refine aq ?_;refine aj ?_;refine s_g hG ?_;refine av ?_;refine q_e [] ?_;exact Ll hl hb1
def rf(B:ag):Tab:={types:= [(79,(.slice (.st (.pair (.st (.pair .bool (.slice (.int .u32)))) (.st (.pair .bool (.slice (.int .u32)))))))),(84, .func)],elems:= [],cons:= [(57,pN)],hint:= [],N:=8,base:=B}
theorem Bv{B:ag}(hB:aB B):aG Tryz.prog (rf B):=⟨⟨tc fT (tc pQ (ae)),af,by simp only[rf,ioB];omega⟩,aD (cc Tryz.func57 (mT hB) (au)),by kernel_rfl⟩
def Gq:Con:=fun l os=>match l,os with
 | [.z (.slice (.st (.pair (.st (.pair .bool (.slice (.int .u32)))) (.st (.pair .bool (.slice (.int .u32))))))) p, .z (.slice (.st (.pair (.st (.pair .bool (.slice (.int .u32)))) (.st (.pair .bool (.slice (.int .u32))))))) q], []=>some (Sz QH p/\Sz QH q/\p.length<=1000/\q.length<=1000, [.z (.slice (.st (.pair (.st (.pair .bool (.slice (.int .u32)))) (.st (.pair .bool (.slice (.int .u32))))))) (aI (bK (· + ·) (ar p) (ar q)))], [])
 |_,_=>none
theorem IE{B:ag}(hB:aB B):Valid B Tryz.prog 56 Gq:=by
 refine ab (Bv hB).tab Tryz.func56 rfl rfl rfl ?_;intro args os C rs os' hc hC;unfold Gq at hc;split at hc;case h_2=>cases hc
 rename_i p q;cases hc;refine v_h (Bv hB) fun X hP hT hr hG=> ?_;have hU:=rf.eq_1;unfold rf at hT;have hX:= @pN.eq_1;simp only[Tryz.f56,aC,al,ioB];refine s_g hG ?_;refine s_q hG ?_ ?_
 ·try simp only[ba]
  exact⟨by simp,hC⟩
 refine av ?_;refine q_e [] ?_;trivial
def rh(B:ag):Tab:={types:= [(79,(.slice (.st (.pair (.st (.pair .bool (.slice (.int .u32)))) (.st (.pair .bool (.slice (.int .u32)))))))),(84, .func)],elems:= [],cons:= [(57,pN)],hint:= [],N:=8,base:=B}
theorem Bw{B:ag}(hB:aB B):aG Tryz.prog (rh B):=⟨⟨tc fT (tc pQ (ae)),af,by simp only[rh,ioB];omega⟩,aD (cc Tryz.func57 (mT hB) (au)),by kernel_rfl⟩
def Gr:Con:=fun l os=>match l,os with
 | [.z (.slice (.st (.pair (.st (.pair .bool (.slice (.int .u32)))) (.st (.pair .bool (.slice (.int .u32))))))) p, .z (.slice (.st (.pair (.st (.pair .bool (.slice (.int .u32)))) (.st (.pair .bool (.slice (.int .u32))))))) q], []=>some (Sz QH p/\Sz QH q/\p.length<=1000/\q.length<=1000, [.z (.slice (.st (.pair (.st (.pair .bool (.slice (.int .u32)))) (.st (.pair .bool (.slice (.int .u32))))))) (aI (bK (· - ·) (ar p) (ar q)))], [])
 |_,_=>none
theorem IF{B:ag}(hB:aB B):Valid B Tryz.prog 59 Gr:=by
 refine ab (Bw hB).tab Tryz.func59 rfl rfl rfl ?_;intro args os C rs os' hc hC;unfold Gr at hc;split at hc;case h_2=>cases hc
 rename_i p q;cases hc;refine v_h (Bw hB) fun X hP hT hr hG=> ?_;have hU:=rh.eq_1;unfold rh at hT;have hX:= @pN.eq_1;simp only[Tryz.f59,aC,al,ioB];refine s_g hG ?_;refine s_q hG ?_ ?_
 ·try simp only[ba]
  exact⟨by simp,hC⟩
 refine av ?_;refine q_e [] ?_;trivial
def ri(B:ag):Tab:={types:= [(79,(.slice (.st (.pair (.st (.pair .bool (.slice (.int .u32)))) (.st (.pair .bool (.slice (.int .u32))))))))],elems:= [],cons:= [(77,jS)],hint:= [],N:=7,base:=B}
theorem Bx{B:ag}(hB:aB B):aG Tryz.prog (ri B):=⟨⟨tc fT (ae),af,by simp only[ri,ioB];omega⟩,aD (cc Tryz.func77 (wN hB) (au)),by kernel_rfl⟩
def Gs:Con:=fun l os=>match l,os with
 | [.z (.slice (.st (.pair (.st (.pair .bool (.slice (.int .u32)))) (.st (.pair .bool (.slice (.int .u32))))))) p, .z (.slice (.st (.pair (.st (.pair .bool (.slice (.int .u32)))) (.st (.pair .bool (.slice (.int .u32))))))) q], []=>some (Sz QH p/\p.length<=1000, [.z (.slice (.st (.pair (.st (.pair .bool (.slice (.int .u32)))) (.st (.pair .bool (.slice (.int .u32))))))) (aI (cq (ar p)))], [])
 |_,_=>none
theorem IG{B:ag}(hB:aB B):Valid B Tryz.prog 76 Gs:=by
 refine ab (Bx hB).tab Tryz.func76 rfl rfl rfl ?_;intro args os C rs os' hc hC;unfold Gs at hc;split at hc;case h_2=>cases hc
 rename_i p q;cases hc;refine v_h (Bx hB) fun X hP hT hr hG=> ?_;have hU:=ri.eq_1;unfold ri at hT;have hX:= @jS.eq_1;simp only[Tryz.f76,aC,al,ioB];refine s_g hG ?_;refine s_q hG ?_ ?_
 ·try simp only[ba]
  exact hC
 refine av ?_;refine q_e [] ?_;trivial
def rj(B:ag):Tab:={types:= [(79,(.slice (.st (.pair (.st (.pair .bool (.slice (.int .u32)))) (.st (.pair .bool (.slice (.int .u32))))))))],elems:= [],cons:= [(79,qX)],hint:= [],N:=7,base:=B}
theorem Bz{B:ag}(hB:aB B):aG Tryz.prog (rj B):=⟨⟨tc fT (ae),af,by simp only[rj,ioB];omega⟩,aD (cc Tryz.func79 (Ix hB) (au)),by kernel_rfl⟩
def Gt:Con:=fun l os=>match l,os with
 | [.z (.slice (.st (.pair (.st (.pair .bool (.slice (.int .u32)))) (.st (.pair .bool (.slice (.int .u32))))))) p, .z (.slice (.st (.pair (.st (.pair .bool (.slice (.int .u32)))) (.st (.pair .bool (.slice (.int .u32))))))) q], []=>some (mo p, [.z (.slice (.st (.pair (.st (.pair .bool (.slice (.int .u32)))) (.st (.pair .bool (.slice (.int .u32))))))) (aI (cm (ar p)))], [])
 |_,_=>none
theorem IH{B:ag}(hB:aB B):Valid B Tryz.prog 78 Gt:=by
 refine ab (Bz hB).tab Tryz.func78 rfl rfl rfl ?_;intro args os C rs os' hc hC;unfold Gt at hc;split at hc;case h_2=>cases hc
 rename_i p q;cases hc;refine v_h (Bz hB) fun X hP hT hr hG=> ?_;have hU:=rj.eq_1;unfold rj at hT;have hX:= @qX.eq_1;simp only[Tryz.f78,aC,al,ioB];refine s_g hG ?_;refine s_q hG ?_ ?_
 ·try simp only[ba]
  exact hC
 refine av ?_;refine q_e [] ?_;trivial
def rk(B:ag):Tab:={types:= [(31,(.int .i64)),(44,(.slice (.slice .str))),(79,(.slice (.st (.pair (.st (.pair .bool (.slice (.int .u32)))) (.st (.pair .bool (.slice (.int .u32)))))))),(98,(.slice (.slice (.st (.pair (.st (.pair .bool (.slice (.int .u32)))) (.st (.pair .bool (.slice (.int .u32)))))))))],elems:= [(44,22)],cons:= [(56,Gq),(67,fC),(69,eg)],hint:= [],N:=31,base:=B}
theorem BA{B:ag}(hB:aB B):aG Tryz.prog (rk B):=⟨⟨tc jF (tc uV (tc fT (tc uW (ae)))),aR (by kernel_rfl) (af),by simp only[rk,ioB];omega⟩,aD (cc Tryz.func56 (IE hB) (cc Tryz.func67 (eP hB) (cc Tryz.func69 (fD hB) (au)))),by kernel_rfl⟩
def rl:Con:=fun l os=>match l,os with
 | [.z (.slice .str) p, .z (.slice .str) q, .val (.func (.func g) fs cs)], []=>some ((g=56/\fs.size=0/\cs.size=0)/\bO (fun p q=>Sz QH p/\Sz QH q/\p.length<=1000/\q.length<=1000) (bK (· + ·)) p q, [.z (.slice .str) (db (bK (· + ·)) p q), .z (.int .i64) (da (bK (· + ·)) p q)], [])
 |_,_=>none
theorem II{B:ag}(hB:aB B):Valid B Tryz.prog 55 rl:=by
 refine ab (BA hB).tab Tryz.func55 rfl rfl rfl ?_;intro args os C rs os' hc hC;unfold rl at hc;split at hc;case h_2=>cases hc
 rename_i p q g fs cs;cases hc;refine v_h (BA hB) fun X hP hT hr hG=> ?_;have hU:=rk.eq_1;unfold rk at hT;have hX:=ai @Gq.eq_1<|ai @fC.eq_1<| @eg.eq_1;simp only[Tryz.f55,aC,al,ioB];obtain⟨⟨rfl,e1,e2⟩,hp,hq,hD⟩:=hC;obtain rfl:=Array.eq_empty_of_size_eq_zero e1;obtain rfl:=Array.eq_empty_of_size_eq_zero e2;refine s_g hG ?_;refine s_q hG ?_ ?_
 ·try simp only[ba]
  exact(gE hp hq).2
 refine ak ?_;refine s_g hG ?_;refine ao ?_ ?_
 ·intro hb0;try simp only[bt] at hb0
  refine s_g hG ?_;refine av ?_;refine aw ?_;refine q_e [] ?_;exact iC hb0
 ·intro hb0;try simp only[bf] at hb0
  have n0:=i6 hb0;have n1:=i7 hb0;have nl:=gD hb0;have hE:=hD hb0;refine aq ?_;refine aj ?_;refine s_d hG ?_ ?_
  ·(try simp only[ba]);simp only[NT] at n0 n1;simp only[n0,n1,nl,aJ];exact⟨by decide,by decide,hE.1,hE.2.1,by rw[aF];exact hE.2.2⟩
  refine av ?_;refine q_e [] ?_;simp only[NT] at n0 n1;simp only[n0,n1,aJ];exact kk (f:=(bK (· + ·))) hb0
def rm(B:ag):Tab:={types:= [(31,(.int .i64)),(44,(.slice (.slice .str))),(79,(.slice (.st (.pair (.st (.pair .bool (.slice (.int .u32)))) (.st (.pair .bool (.slice (.int .u32)))))))),(98,(.slice (.slice (.st (.pair (.st (.pair .bool (.slice (.int .u32)))) (.st (.pair .bool (.slice (.int .u32)))))))))],elems:= [(44,22)],cons:= [(59,Gr),(67,fC),(69,eg)],hint:= [],N:=31,base:=B}
theorem BB{B:ag}(hB:aB B):aG Tryz.prog (rm B):=⟨⟨tc jF (tc uV (tc fT (tc uW (ae)))),aR (by kernel_rfl) (af),by simp only[rm,ioB];omega⟩,aD (cc Tryz.func59 (IF hB) (cc Tryz.func67 (eP hB) (cc Tryz.func69 (fD hB) (au)))),by kernel_rfl⟩
def rn:Con:=fun l os=>match l,os with
 | [.z (.slice .str) p, .z (.slice .str) q, .val (.func (.func g) fs cs)], []=>some ((g=59/\fs.size=0/\cs.size=0)/\bO (fun p q=>Sz QH p/\Sz QH q/\p.length<=1000/\q.length<=1000) (bK (· - ·)) p q, [.z (.slice .str) (db (bK (· - ·)) p q), .z (.int .i64) (da (bK (· - ·)) p q)], [])
 |_,_=>none
theorem IJ{B:ag}(hB:aB B):Valid B Tryz.prog 55 rn:=by
 refine ab (BB hB).tab Tryz.func55 rfl rfl rfl ?_;intro args os C rs os' hc hC;unfold rn at hc;split at hc;case h_2=>cases hc
 rename_i p q g fs cs;cases hc;refine v_h (BB hB) fun X hP hT hr hG=> ?_;have hU:=rm.eq_1;unfold rm at hT;have hX:=ai @fC.eq_1<|ai @Gr.eq_1<| @eg.eq_1;simp only[Tryz.f55,aC,al,ioB];obtain⟨⟨rfl,e1,e2⟩,hp,hq,hD⟩:=hC;obtain rfl:=Array.eq_empty_of_size_eq_zero e1;obtain rfl:=Array.eq_empty_of_size_eq_zero e2;refine s_g hG ?_;refine s_q hG ?_ ?_
 ·try simp only[ba]
  exact(gE hp hq).2
 refine ak ?_;refine s_g hG ?_;refine ao ?_ ?_
 ·intro hb0;try simp only[bt] at hb0
  refine s_g hG ?_;refine av ?_;refine aw ?_;refine q_e [] ?_;exact iC hb0
 ·intro hb0;try simp only[bf] at hb0
  have n0:=i6 hb0;have n1:=i7 hb0;have nl:=gD hb0;have hE:=hD hb0;refine aq ?_;refine aj ?_;refine s_d hG ?_ ?_
  ·(try simp only[ba]);simp only[NT] at n0 n1;simp only[n0,n1,nl,aJ];exact⟨by decide,by decide,hE.1,hE.2.1,by rw[aF];exact hE.2.2⟩
  refine av ?_;refine q_e [] ?_;simp only[NT] at n0 n1;simp only[n0,n1,aJ];exact kk (f:=(bK (· - ·))) hb0
def rp(B:ag):Tab:={types:= [(31,(.int .i64)),(44,(.slice (.slice .str))),(79,(.slice (.st (.pair (.st (.pair .bool (.slice (.int .u32)))) (.st (.pair .bool (.slice (.int .u32)))))))),(98,(.slice (.slice (.st (.pair (.st (.pair .bool (.slice (.int .u32)))) (.st (.pair .bool (.slice (.int .u32)))))))))],elems:= [(44,22)],cons:= [(61,oR),(67,fC),(69,eg)],hint:= [],N:=31,base:=B}
theorem BC{B:ag}(hB:aB B):aG Tryz.prog (rp B):=⟨⟨tc jF (tc uV (tc fT (tc uW (ae)))),aR (by kernel_rfl) (af),by simp only[rp,ioB];omega⟩,aD (cc Tryz.func61 (wL hB) (cc Tryz.func67 (eP hB) (cc Tryz.func69 (fD hB) (au)))),by kernel_rfl⟩
def rq:Con:=fun l os=>match l,os with
 | [.z (.slice .str) p, .z (.slice .str) q, .val (.func (.func g) fs cs)], []=>some ((g=61/\fs.size=0/\cs.size=0)/\bO (fun p q=>Sz QM p/\Sz QM q/\p.length<=100/\q.length<=100) c6 p q, [.z (.slice .str) (db c6 p q), .z (.int .i64) (da c6 p q)], [])
 |_,_=>none
theorem IK{B:ag}(hB:aB B):Valid B Tryz.prog 55 rq:=by
 refine ab (BC hB).tab Tryz.func55 rfl rfl rfl ?_;intro args os C rs os' hc hC;unfold rq at hc;split at hc;case h_2=>cases hc
 rename_i p q g fs cs;cases hc;refine v_h (BC hB) fun X hP hT hr hG=> ?_;have hU:=rp.eq_1;unfold rp at hT;have hX:=ai @fC.eq_1<|ai @oR.eq_1<| @eg.eq_1;simp only[Tryz.f55,aC,al,ioB];obtain⟨⟨rfl,e1,e2⟩,hp,hq,hD⟩:=hC;obtain rfl:=Array.eq_empty_of_size_eq_zero e1;obtain rfl:=Array.eq_empty_of_size_eq_zero e2;refine s_g hG ?_;refine s_q hG ?_ ?_
 ·try simp only[ba]
  exact(gE hp hq).2
 refine ak ?_;refine s_g hG ?_;refine ao ?_ ?_
 ·intro hb0;try simp only[bt] at hb0
  refine s_g hG ?_;refine av ?_;refine aw ?_;refine q_e [] ?_;exact iC hb0
 ·intro hb0;try simp only[bf] at hb0
  have n0:=i6 hb0;have n1:=i7 hb0;have nl:=gD hb0;have hE:=hD hb0;refine aq ?_;refine aj ?_;refine s_d hG ?_ ?_
  ·(try simp only[ba]);simp only[NT] at n0 n1;simp only[n0,n1,nl,aJ];exact⟨by decide,by decide,hE.1,hE.2.1,by rw[aF];exact hE.2.2⟩
  refine av ?_;refine q_e [] ?_;simp only[NT] at n0 n1;simp only[n0,n1,aJ];exact kk (f:=c6) hb0
def rr(B:ag):Tab:={types:= [(31,(.int .i64)),(44,(.slice (.slice .str))),(79,(.slice (.st (.pair (.st (.pair .bool (.slice (.int .u32)))) (.st (.pair .bool (.slice (.int .u32)))))))),(98,(.slice (.slice (.st (.pair (.st (.pair .bool (.slice (.int .u32)))) (.st (.pair .bool (.slice (.int .u32)))))))))],elems:= [(44,22)],cons:= [(67,fC),(69,eg),(70,l9)],hint:= [],N:=31,base:=B}
theorem BD{B:ag}(hB:aB B):aG Tryz.prog (rr B):=⟨⟨tc jF (tc uV (tc fT (tc uW (ae)))),aR (by kernel_rfl) (af),by simp only[rr,ioB];omega⟩,aD (cc Tryz.func67 (eP hB) (cc Tryz.func69 (fD hB) (cc Tryz.func70 (wO hB) (au)))),by kernel_rfl⟩
def ru:Con:=fun l os=>match l,os with
 | [.z (.slice .str) p, .z (.slice .str) q, .val (.func (.func g) fs cs)], []=>some ((g=70/\fs.size=0/\cs.size=0)/\bO (iY) cw p q, [.z (.slice .str) (db cw p q), .z (.int .i64) (da cw p q)], [])
 |_,_=>none
theorem IL{B:ag}(hB:aB B):Valid B Tryz.prog 55 ru:=by
 refine ab (BD hB).tab Tryz.func55 rfl rfl rfl ?_;intro args os C rs os' hc hC;unfold ru at hc;split at hc;case h_2=>cases hc
 rename_i p q g fs cs;cases hc;refine v_h (BD hB) fun X hP hT hr hG=> ?_;have hU:=rr.eq_1;unfold rr at hT;have hX:=ai @fC.eq_1<|ai @l9.eq_1<| @eg.eq_1;simp only[Tryz.f55,aC,al,ioB];obtain⟨⟨rfl,e1,e2⟩,hp,hq,hD⟩:=hC;obtain rfl:=Array.eq_empty_of_size_eq_zero e1;obtain rfl:=Array.eq_empty_of_size_eq_zero e2;refine s_g hG ?_;refine s_q hG ?_ ?_
 ·try simp only[ba]
  exact(gE hp hq).2
 refine ak ?_;refine s_g hG ?_;refine ao ?_ ?_
 ·intro hb0;try simp only[bt] at hb0
  refine s_g hG ?_;refine av ?_;refine aw ?_;refine q_e [] ?_;exact iC hb0
 ·intro hb0;try simp only[bf] at hb0
  have n0:=i6 hb0;have n1:=i7 hb0;have nl:=gD hb0;have hE:=hD hb0;refine aq ?_;refine aj ?_;refine s_d hG ?_ ?_
  ·(try simp only[ba]);simp only[NT] at n0 n1;simp only[n0,n1,nl,aJ];exact⟨by decide,by decide,hE.1,hE.2.1,by rw[aF];exact hE.2.2⟩
  refine av ?_;refine q_e [] ?_;simp only[NT] at n0 n1;simp only[n0,n1,aJ];exact kk (f:=cw) hb0
def ry(B:ag):Tab:={types:= [(31,(.int .i64)),(44,(.slice (.slice .str))),(79,(.slice (.st (.pair (.st (.pair .bool (.slice (.int .u32)))) (.st (.pair .bool (.slice (.int .u32)))))))),(98,(.slice (.slice (.st (.pair (.st (.pair .bool (.slice (.int .u32)))) (.st (.pair .bool (.slice (.int .u32)))))))))],elems:= [(44,22)],cons:= [(67,fC),(69,eg),(76,Gs)],hint:= [],N:=31,base:=B}
theorem BE{B:ag}(hB:aB B):aG Tryz.prog (ry B):=⟨⟨tc jF (tc uV (tc fT (tc uW (ae)))),aR (by kernel_rfl) (af),by simp only[ry,ioB];omega⟩,aD (cc Tryz.func67 (eP hB) (cc Tryz.func69 (fD hB) (cc Tryz.func76 (IG hB) (au)))),by kernel_rfl⟩
def rz:Con:=fun l os=>match l,os with
 | [.z (.slice .str) p, .z (.slice .str) q, .val (.func (.func g) fs cs)], []=>some ((g=76/\fs.size=0/\cs.size=0)/\bO (fun p _=>Sz QH p/\p.length<=1000) (fun a _=>cq a) p q, [.z (.slice .str) (db (fun a _=>cq a) p q), .z (.int .i64) (da (fun a _=>cq a) p q)], [])
 |_,_=>none
theorem IM{B:ag}(hB:aB B):Valid B Tryz.prog 55 rz:=by
 refine ab (BE hB).tab Tryz.func55 rfl rfl rfl ?_;intro args os C rs os' hc hC;unfold rz at hc;split at hc;case h_2=>cases hc
 rename_i p q g fs cs;cases hc;refine v_h (BE hB) fun X hP hT hr hG=> ?_;have hU:=ry.eq_1;unfold ry at hT;have hX:=ai @fC.eq_1<|ai @Gs.eq_1<| @eg.eq_1;simp only[Tryz.f55,aC,al,ioB];obtain⟨⟨rfl,e1,e2⟩,hp,hq,hD⟩:=hC;obtain rfl:=Array.eq_empty_of_size_eq_zero e1;obtain rfl:=Array.eq_empty_of_size_eq_zero e2;refine s_g hG ?_;refine s_q hG ?_ ?_
 ·try simp only[ba]
  exact(gE hp hq).2
 refine ak ?_;refine s_g hG ?_;refine ao ?_ ?_
 ·intro hb0;try simp only[bt] at hb0
  refine s_g hG ?_;refine av ?_;refine aw ?_;refine q_e [] ?_;exact iC hb0
 ·intro hb0;try simp only[bf] at hb0
  have n0:=i6 hb0;have n1:=i7 hb0;have nl:=gD hb0;have hE:=hD hb0;refine aq ?_;refine aj ?_;refine s_d hG ?_ ?_
  ·(try simp only[ba]);simp only[NT] at n0 n1;simp only[n0,n1,nl,aJ];exact⟨by decide,by decide,hE.1,hE.2.1,by rw[aF];exact hE.2.2⟩
  refine av ?_;refine q_e [] ?_;simp only[NT] at n0 n1;simp only[n0,n1,aJ];exact kk (f:=(fun a _=>cq a)) hb0
def uH:Con:=ji [none,some (.slice .str),none] rz
theorem DQ{B:ag}(hB:aB B):Valid B Tryz.prog 55 uH:=fz _ (IM hB)
def rA(B:ag):Tab:={types:= [(31,(.int .i64)),(44,(.slice (.slice .str))),(79,(.slice (.st (.pair (.st (.pair .bool (.slice (.int .u32)))) (.st (.pair .bool (.slice (.int .u32)))))))),(98,(.slice (.slice (.st (.pair (.st (.pair .bool (.slice (.int .u32)))) (.st (.pair .bool (.slice (.int .u32)))))))))],elems:= [(44,22)],cons:= [(67,fC),(69,eg),(78,Gt)],hint:= [],N:=31,base:=B}
theorem BF{B:ag}(hB:aB B):aG Tryz.prog (rA B):=⟨⟨tc jF (tc uV (tc fT (tc uW (ae)))),aR (by kernel_rfl) (af),by simp only[rA,ioB];omega⟩,aD (cc Tryz.func67 (eP hB) (cc Tryz.func69 (fD hB) (cc Tryz.func78 (IH hB) (au)))),by kernel_rfl⟩
def rB:Con:=fun l os=>match l,os with
 | [.z (.slice .str) p, .z (.slice .str) q, .val (.func (.func g) fs cs)], []=>some ((g=78/\fs.size=0/\cs.size=0)/\bO (fun p _=>mo p) (fun a _=>cm a) p q, [.z (.slice .str) (db (fun a _=>cm a) p q), .z (.int .i64) (da (fun a _=>cm a) p q)], [])
 |_,_=>none
theorem IP{B:ag}(hB:aB B):Valid B Tryz.prog 55 rB:=by
 refine ab (BF hB).tab Tryz.func55 rfl rfl rfl ?_;intro args os C rs os' hc hC;unfold rB at hc;split at hc;case h_2=>cases hc
 rename_i p q g fs cs;cases hc;refine v_h (BF hB) fun X hP hT hr hG=> ?_;have hU:=rA.eq_1;unfold rA at hT;have hX:=ai @fC.eq_1<|ai @Gt.eq_1<| @eg.eq_1;simp only[Tryz.f55,aC,al,ioB];obtain⟨⟨rfl,e1,e2⟩,hp,hq,hD⟩:=hC;obtain rfl:=Array.eq_empty_of_size_eq_zero e1;obtain rfl:=Array.eq_empty_of_size_eq_zero e2;refine s_g hG ?_;refine s_q hG ?_ ?_
 ·try simp only[ba]
  exact(gE hp hq).2
 refine ak ?_;refine s_g hG ?_;refine ao ?_ ?_
 ·intro hb0;try simp only[bt] at hb0
  refine s_g hG ?_;refine av ?_;refine aw ?_;refine q_e [] ?_;exact iC hb0
 ·intro hb0;try simp only[bf] at hb0
  have n0:=i6 hb0;have n1:=i7 hb0;have nl:=gD hb0;have hE:=hD hb0;refine aq ?_;refine aj ?_;refine s_d hG ?_ ?_
  ·(try simp only[ba]);simp only[NT] at n0 n1;simp only[n0,n1,nl,aJ];exact⟨by decide,by decide,hE.1,hE.2.1,by rw[aF];exact hE.2.2⟩
  refine av ?_;refine q_e [] ?_;simp only[NT] at n0 n1;simp only[n0,n1,aJ];exact kk (f:=(fun a _=>cm a)) hb0
def uI:Con:=ji [none,some (.slice .str),none] rB
theorem DR{B:ag}(hB:aB B):Valid B Tryz.prog 55 uI:=fz _ (IP hB)
def rC(B:ag):Tab:={types:= [(31,(.int .i64)),(44,(.slice (.slice .str))),(79,(.slice (.st (.pair (.st (.pair .bool (.slice (.int .u32)))) (.st (.pair .bool (.slice (.int .u32)))))))),(98,(.slice (.slice (.st (.pair (.st (.pair .bool (.slice (.int .u32)))) (.st (.pair .bool (.slice (.int .u32)))))))))],elems:= [(44,22)],cons:= [(67,fC),(69,eg),(80,nK)],hint:= [],N:=31,base:=B}
theorem BG{B:ag}(hB:aB B):aG Tryz.prog (rC B):=⟨⟨tc jF (tc uV (tc fT (tc uW (ae)))),aR (by kernel_rfl) (af),by simp only[rC,ioB];omega⟩,aD (cc Tryz.func67 (eP hB) (cc Tryz.func69 (fD hB) (cc Tryz.func80 (ID hB) (au)))),by kernel_rfl⟩
def rD:Con:=fun l os=>match l,os with
 | [.z (.slice .str) p, .z (.slice .str) q, .val (.func (.func g) fs cs)], []=>some ((g=80/\fs.size=0/\cs.size=0)/\bO (uh) eW p q, [.z (.slice .str) (db eW p q), .z (.int .i64) (da eW p q)], [])
 |_,_=>none
theorem IQ{B:ag}(hB:aB B):Valid B Tryz.prog 55 rD:=by
 refine ab (BG hB).tab Tryz.func55 rfl rfl rfl ?_;intro args os C rs os' hc hC;unfold rD at hc;split at hc;case h_2=>cases hc
 rename_i p q g fs cs;cases hc;refine v_h (BG hB) fun X hP hT hr hG=> ?_;have hU:=rC.eq_1;unfold rC at hT;have hX:=ai @fC.eq_1<|ai @nK.eq_1<| @eg.eq_1;simp only[Tryz.f55,aC,al,ioB];obtain⟨⟨rfl,e1,e2⟩,hp,hq,hD⟩:=hC;obtain rfl:=Array.eq_empty_of_size_eq_zero e1;obtain rfl:=Array.eq_empty_of_size_eq_zero e2;refine s_g hG ?_;refine s_q hG ?_ ?_
 ·try simp only[ba]
  exact(gE hp hq).2
 refine ak ?_;refine s_g hG ?_;refine ao ?_ ?_
 ·intro hb0;try simp only[bt] at hb0
  refine s_g hG ?_;refine av ?_;refine aw ?_;refine q_e [] ?_;exact iC hb0
 ·intro hb0;try simp only[bf] at hb0
  have n0:=i6 hb0;have n1:=i7 hb0;have nl:=gD hb0;have hE:=hD hb0;refine aq ?_;refine aj ?_;refine s_d hG ?_ ?_
  ·(try simp only[ba]);simp only[NT] at n0 n1;simp only[n0,n1,nl,aJ];exact⟨by decide,by decide,hE.1,hE.2.1,by rw[aF];exact hE.2.2⟩
  refine av ?_;refine q_e [] ?_;simp only[NT] at n0 n1;simp only[n0,n1,aJ];exact kk (f:=eW) hb0
def rE(B:ag):Tab:={types:= [(22,(.slice .str))],elems:= [],cons:= [(54,oV)],hint:= [],N:=11,base:=B}
theorem BH{B:ag}(hB:aB B):aG Tryz.prog (rE B):=⟨⟨tc gB (ae),af,by simp only[rE,ioB];omega⟩,aD (cc Tryz.func54 (wS hB) (au)),by kernel_rfl⟩
def ma:Con:=fun l os=>match l,os with
 | [.z (.slice .str) p], []=>some (de p, [.z (.int .i64) (cP p)], [])
 |_,_=>none
theorem wT{B:ag}(hB:aB B):Valid B Tryz.prog 14 ma:=by
 refine ab (BH hB).tab Tryz.func14 rfl rfl rfl ?_;intro args os C rs os' hc hC;unfold ma at hc;split at hc;case h_2=>cases hc
 rename_i p;cases hc;refine v_h (BH hB) fun X hP hT hr hG=> ?_;have hU:=rE.eq_1;unfold rE at hT;have hX:= @oV.eq_1;simp only[Tryz.f14,aC,al,ioB];refine s_g hG ?_;refine s_q hG ?_ ?_
 ·try simp only[ba]
  exact hC
 refine s_g hG ?_;refine av ?_;refine q_e [] ?_;trivial
def rF(B:ag):Tab:={types:= [(22,(.slice .str))],elems:= [],cons:= [(55,rl)],hint:= [],N:=11,base:=B}
theorem BI{B:ag}(hB:aB B):aG Tryz.prog (rF B):=⟨⟨tc gB (ae),af,by simp only[rF,ioB];omega⟩,aD (cc Tryz.func55 (II hB) (au)),by kernel_rfl⟩
def wU:Con:=fun l os=>match l,os with
 | [.z (.slice .str) p, .z (.slice .str) q], []=>some (bO (fun p q=>Sz QH p/\Sz QH q/\p.length<=1000/\q.length<=1000) (bK (· + ·)) p q, [.z (.slice .str) (db (bK (· + ·)) p q), .z (.int .i64) (da (bK (· + ·)) p q)], [])
 |_,_=>none
theorem wV{B:ag}(hB:aB B):Valid B Tryz.prog 15 wU:=by
 refine ab (BI hB).tab Tryz.func15 rfl rfl rfl ?_;intro args os C rs os' hc hC;unfold wU at hc;split at hc;case h_2=>cases hc
 rename_i p q;cases hc;refine v_h (BI hB) fun X hP hT hr hG=> ?_;have hU:=rF.eq_1;unfold rF at hT;have hX:= @rl.eq_1;simp only[Tryz.f15,aC,al,ioB];refine s_g hG ?_;refine s_q hG ?_ ?_
 ·try simp only[ba]
  exact hC
 refine av ?_;refine q_e [] ?_;trivial
def rG(B:ag):Tab:={types:= [(22,(.slice .str))],elems:= [],cons:= [(55,rn)],hint:= [],N:=11,base:=B}
theorem BJ{B:ag}(hB:aB B):aG Tryz.prog (rG B):=⟨⟨tc gB (ae),af,by simp only[rG,ioB];omega⟩,aD (cc Tryz.func55 (IJ hB) (au)),by kernel_rfl⟩
def wW:Con:=fun l os=>match l,os with
 | [.z (.slice .str) p, .z (.slice .str) q], []=>some (bO (fun p q=>Sz QH p/\Sz QH q/\p.length<=1000/\q.length<=1000) (bK (· - ·)) p q, [.z (.slice .str) (db (bK (· - ·)) p q), .z (.int .i64) (da (bK (· - ·)) p q)], [])
 |_,_=>none
theorem wX{B:ag}(hB:aB B):Valid B Tryz.prog 16 wW:=by
 refine ab (BJ hB).tab Tryz.func16 rfl rfl rfl ?_;intro args os C rs os' hc hC;unfold wW at hc;split at hc;case h_2=>cases hc
 rename_i p q;cases hc;refine v_h (BJ hB) fun X hP hT hr hG=> ?_;have hU:=rG.eq_1;unfold rG at hT;have hX:= @rn.eq_1;simp only[Tryz.f16,aC,al,ioB];refine s_g hG ?_;refine s_q hG ?_ ?_
 ·try simp only[ba]
  exact hC
 refine av ?_;refine q_e [] ?_;trivial
def rH(B:ag):Tab:={types:= [(22,(.slice .str))],elems:= [],cons:= [(55,rq)],hint:= [],N:=11,base:=B}
theorem BK{B:ag}(hB:aB B):aG Tryz.prog (rH B):=⟨⟨tc gB (ae),af,by simp only[rH,ioB];omega⟩,aD (cc Tryz.func55 (IK hB) (au)),by kernel_rfl⟩
def wY:Con:=fun l os=>match l,os with
 | [.z (.slice .str) p, .z (.slice .str) q], []=>some (bO (fun p q=>Sz QM p/\Sz QM q/\p.length<=100/\q.length<=100) c6 p q, [.z (.slice .str) (db c6 p q), .z (.int .i64) (da c6 p q)], [])
 |_,_=>none
theorem wZ{B:ag}(hB:aB B):Valid B Tryz.prog 17 wY:=by
 refine ab (BK hB).tab Tryz.func17 rfl rfl rfl ?_;intro args os C rs os' hc hC;unfold wY at hc;split at hc;case h_2=>cases hc
 rename_i p q;cases hc;refine v_h (BK hB) fun X hP hT hr hG=> ?_;have hU:=rH.eq_1;unfold rH at hT;have hX:= @rq.eq_1;simp only[Tryz.f17,aC,al,ioB];refine s_g hG ?_;refine s_q hG ?_ ?_
 ·try simp only[ba]
  exact hC
 refine av ?_;refine q_e [] ?_;trivial
def rI(B:ag):Tab:={types:= [(22,(.slice .str))],elems:= [],cons:= [(55,ru)],hint:= [],N:=11,base:=B}
theorem BL{B:ag}(hB:aB B):aG Tryz.prog (rI B):=⟨⟨tc gB (ae),af,by simp only[rI,ioB];omega⟩,aD (cc Tryz.func55 (IL hB) (au)),by kernel_rfl⟩
def Gu:Con:=fun l os=>match l,os with
 | [.z (.slice .str) p, .z (.slice .str) q], []=>some (bO (iY) cw p q, [.z (.slice .str) (db cw p q), .z (.int .i64) (da cw p q)], [])
 |_,_=>none
theorem IR{B:ag}(hB:aB B):Valid B Tryz.prog 24 Gu:=by
 refine ab (BL hB).tab Tryz.func24 rfl rfl rfl ?_;intro args os C rs os' hc hC;unfold Gu at hc;split at hc;case h_2=>cases hc
 rename_i p q;cases hc;refine v_h (BL hB) fun X hP hT hr hG=> ?_;have hU:=rI.eq_1;unfold rI at hT;have hX:= @ru.eq_1;simp only[Tryz.f24,aC,al,ioB];refine s_g hG ?_;refine s_q hG ?_ ?_
 ·try simp only[ba]
  exact hC
 refine av ?_;refine q_e [] ?_;trivial
def DS:Con:=ji [some (.slice .str),some (.slice .str)] Gu
theorem DT{B:ag}(hB:aB B):Valid B Tryz.prog 24 DS:=fz _ (IR hB)
def rJ(B:ag):Tab:={types:= [(22,(.slice .str))],elems:= [],cons:= [(55,uH)],hint:= [],N:=8,base:=B}
theorem BM{B:ag}(hB:aB B):aG Tryz.prog (rJ B):=⟨⟨tc gB (ae),af,by simp only[rJ,ioB];omega⟩,aD (cc Tryz.func55 (DQ hB) (au)),by kernel_rfl⟩
def Gv:Con:=fun l os=>match l,os with
 | [.z (.slice .str) p], []=>some (bO (fun p _=>Sz QH p/\p.length<=1000) (fun a _=>cq a) p [], [.z (.slice .str) (db (fun a _=>cq a) p []), .z (.int .i64) (da (fun a _=>cq a) p [])], [])
 |_,_=>none
theorem IU{B:ag}(hB:aB B):Valid B Tryz.prog 29 Gv:=by
 refine ab (BM hB).tab Tryz.func29 rfl rfl rfl ?_;intro args os C rs os' hc hC;unfold Gv at hc;split at hc;case h_2=>cases hc
 rename_i p;cases hc;refine v_h (BM hB) fun X hP hT hr hG=> ?_;have hU:=rJ.eq_1;unfold rJ at hT;have hX:=ai @rz.eq_1<| @uH.eq_1;simp only[Tryz.f29,aC,al,ioB];refine s_g hG ?_;refine s_q hG ?_ ?_
 ·try simp only[ba]
  exact hC
 refine av ?_;refine q_e [] ?_;trivial
def rK(B:ag):Tab:={types:= [(22,(.slice .str))],elems:= [],cons:= [(55,uI)],hint:= [],N:=8,base:=B}
theorem BN{B:ag}(hB:aB B):aG Tryz.prog (rK B):=⟨⟨tc gB (ae),af,by simp only[rK,ioB];omega⟩,aD (cc Tryz.func55 (DR hB) (au)),by kernel_rfl⟩
def Gw:Con:=fun l os=>match l,os with
 | [.z (.slice .str) p], []=>some (bO (fun p _=>mo p) (fun a _=>cm a) p [], [.z (.slice .str) (db (fun a _=>cm a) p []), .z (.int .i64) (da (fun a _=>cm a) p [])], [])
 |_,_=>none
theorem IV{B:ag}(hB:aB B):Valid B Tryz.prog 30 Gw:=by
 refine ab (BN hB).tab Tryz.func30 rfl rfl rfl ?_;intro args os C rs os' hc hC;unfold Gw at hc;split at hc;case h_2=>cases hc
 rename_i p;cases hc;refine v_h (BN hB) fun X hP hT hr hG=> ?_;have hU:=rK.eq_1;unfold rK at hT;have hX:=ai @rB.eq_1<| @uI.eq_1;simp only[Tryz.f30,aC,al,ioB];refine s_g hG ?_;refine s_q hG ?_ ?_
 ·try simp only[ba]
  exact hC
 refine av ?_;refine q_e [] ?_;trivial
def rL(B:ag):Tab:={types:= [(3,(.int .i64)),(31,(.int .i64)),(44,(.slice (.slice .str))),(79,(.slice (.st (.pair (.st (.pair .bool (.slice (.int .u32)))) (.st (.pair .bool (.slice (.int .u32)))))))),(98,(.slice (.slice (.st (.pair (.st (.pair .bool (.slice (.int .u32)))) (.st (.pair .bool (.slice (.int .u32)))))))))],elems:= [(44,22)],cons:= [(67,fC),(68,pM),(69,eg)],hint:= [],N:=53,base:=B}
theorem BO{B:ag}(hB:aB B):aG Tryz.prog (rL B):=⟨⟨tc ty3 (tc jF (tc uV (tc fT (tc uW (ae))))),aR (by kernel_rfl) (af),by simp only[rL,ioB];omega⟩,aD (cc Tryz.func67 (eP hB) (cc Tryz.func68 (oT hB) (cc Tryz.func69 (fD hB) (au)))),by kernel_rfl⟩
def yv:Con:=fun l os=>match l,os with
 | [.z (.slice .str) p, .z (.slice .str) q], []=>some (Lo p q, [.z (.slice .str) (dvS p q), .z (.slice .str) (dvR p q), .z (.int .i64) (dvE p q)], [])
 |_,_=>none
theorem IW{B:ag}(hB:aB B):Valid B Tryz.prog 23 yv:=by
 refine ab (BO hB).tab Tryz.func23 rfl rfl rfl ?_;intro args os C rs os' hc hC;unfold yv at hc;split at hc;case h_2=>cases hc
 rename_i p q;cases hc;refine v_h (BO hB) fun X hP hT hr hG=> ?_;have hU:=rL.eq_1;unfold rL at hT;have hX:=ai @fC.eq_1<|ai @pM.eq_1<| @eg.eq_1;simp only[Tryz.f23,aC,al,ioB];refine s_g hG ?_;refine s_q hG ?_ ?_
 ·try simp only[ba]
  exact(gE hC.sp hC.sq).2
 refine ak ?_;refine s_g hG ?_;refine ao ?_ ?_
 ·intro hb0;try simp only[bt] at hb0
  refine s_g hG ?_;refine av ?_;refine aw ?_;refine q_e [] ?_;exact Lp hb0
 ·intro hb0;try simp only[bf] at hb0
  have n0:=i6 hb0;have n1:=i7 hb0;have nl:=gD hb0;simp only[NT] at n0 n1;refine aq ?_;refine aj ?_;refine ak ?_;refine s_q hG ?_ ?_
  ·(try simp only[ba]);rw[nl];decide
  refine ao ?_ ?_;·intro hb1;(try simp only[bt] at hb1);simp only[n1] at hb1;(have hq:(aI (bk q)).length=0:=by have h9:((aI (bk q)).length:Int)=0:=hb1;omega);refine s_g hG ?_;refine av ?_;refine aw ?_;refine q_e [] ?_;exact Lq hb0 hq
  ·intro hb1;(try simp only[bf] at hb1);simp only[n1] at hb1;(have hq: ¬ (aI (bk q)).length=0:=by intro h8;exact hb1 (by show ((aI (bk q)).length:Int)=0;omega));have hne:=NR hq;obtain⟨k1,k2,k3⟩:=hC.ok hb0 hne;refine aq ?_;refine aj ?_;refine s_d hG ?_ ?_
   ·(try simp only[ba]);simp only[n0,n1,nl];exact⟨by decide,by decide,k1⟩
   refine s_q hG ?_ ?_
   ·(try simp only[ba]);simp only[n0,n1,aJ];exact k2
   refine ak ?_;refine s_g hG ?_;refine ao ?_ ?_;·intro hb2;(try simp only[bt] at hb2);refine s_g hG ?_;refine av ?_;refine aw ?_;refine q_e [] ?_;simp only[n0,n1,aJ] at hb2 ⊢;exact NS hb0 hne hb2
   ·intro hb2;(try simp only[bf] at hb2);refine aq ?_;refine aj ?_;refine s_q hG ?_ ?_
    ·(try simp only[ba]);simp only[n0,n1,aJ];exact k3
    (refine ak ?_;refine s_g hG ?_;refine ao ?_ ?_;·intro hb3;(try simp only[bt] at hb3);refine s_g hG ?_;refine av ?_;refine aw ?_;refine q_e [] ?_;simp only[n0,n1,aJ] at hb2 hb3 ⊢;exact NU hb0 hne hb2 hb3);·intro hb3;(try simp only[bf] at hb3);refine aq ?_;refine aj ?_;refine s_g hG ?_;refine av ?_;refine q_e [] ?_;simp only[n0,n1,aJ] at hb2 hb3 ⊢;exact NV hb0 hne hb2 hb3
def yw:Con:=ji [some (.slice .str),some (.slice .str)] yv
theorem DU{B:ag}(hB:aB B):Valid B Tryz.prog 23 yw:=fz _ (IW hB)
def rM(B:ag):Tab:={types:= [(3,(.int .i64)),(22,(.slice .str)),(31,(.int .i64))],elems:= [],cons:= [(14,ma),(55,rD)],hint:= [],N:=39,base:=B}
theorem BP{B:ag}(hB:aB B):aG Tryz.prog (rM B):=⟨⟨tc ty3 (tc gB (tc jF (ae))),af,by simp only[rM,ioB];omega⟩,aD (cc Tryz.func14 (wT hB) (cc Tryz.func55 (IQ hB) (au))),by kernel_rfl⟩
def oW:Con:=fun l os=>match l,os with
 | [.z (.slice .str) p, .z (.slice .str) q], []=>some (qc p q, [.z (.slice .str) (pG p q), .z (.int .i64) (lj p q)], [])
 |_,_=>none
theorem w6{B:ag}(hB:aB B):Valid B Tryz.prog 31 oW:=by
 refine ab (BP hB).tab Tryz.func31 rfl rfl rfl ?_;intro args os C rs os' hc hC;unfold oW at hc;split at hc;case h_2=>cases hc
 rename_i p q;cases hc;refine v_h (BP hB) fun X hP hT hr hG=> ?_;have hU:=rM.eq_1;unfold rM at hT;have hX:=ai @rD.eq_1<| @ma.eq_1;simp only[Tryz.f31,aC,al,ioB];refine s_g hG ?_;refine ak ?_;refine s_q hG ?_ ?_
 ·try simp only[ba]
  exact⟨hC.sp,fun h=>⟨h,hC.sq⟩,id,id,id,id,id,id,id,id,id⟩
 refine ao ?_ ?_;·intro hb0;have hL:=of_decide_eq_true (Ls hb0);refine s_g hG ?_;refine av ?_;refine aw ?_;refine q_e [] ?_;exact PO hL
 ·intro hb0;have hL:=of_decide_eq_false (Ls hb0);refine aq ?_;refine aj ?_;refine s_q hG ?_ ?_
  ·(try simp only[ba]);exact hC.ok hL
  refine av ?_;refine q_e [] ?_;exact PP hL
def yx:Con:=ji [some (.slice .str),some (.slice .str)] oW
theorem DV{B:ag}(hB:aB B):Valid B Tryz.prog 31 yx:=fz _ (w6 hB)
def rN(B:ag):Tab:={types:= [(22,(.slice .str)),(31,(.int .i64)),(44,(.slice (.slice .str))),(46, .str),(78,(.slice (.st (.pair (.st (.pair .bool (.slice (.int .u32)))) (.st (.pair .bool (.slice (.int .u32)))))))),(79,(.slice (.st (.pair (.st (.pair .bool (.slice (.int .u32)))) (.st (.pair .bool (.slice (.int .u32)))))))),(91,(.st (.pair (.st (.pair .bool (.slice (.int .u32)))) (.st (.pair .bool (.slice (.int .u32))))))),(98,(.slice (.slice (.st (.pair (.st (.pair .bool (.slice (.int .u32)))) (.st (.pair .bool (.slice (.int .u32)))))))))],elems:= [(44,22),(78,91)],cons:= [(67,fC),(87,l8),(88,oQ),(89,Gn),(90,pL)],hint:= [],N:=41,base:=B}
theorem BQ{B:ag}(hB:aB B):aG Tryz.prog (rN B):=⟨⟨tc gB (tc jF (tc uV (tc gr (tc Nq (tc fT (tc ty91 (tc uW (ae)))))))),aR (by kernel_rfl) (aR (by kernel_rfl) (af)),by simp only[rN,ioB];omega⟩,aD (cc Tryz.func67 (eP hB) (cc Tryz.func87 (wH hB) (cc Tryz.func88 (wI hB) (cc Tryz.func89 (Iz hB) (cc Tryz.func90 (oO hB) (au)))))),by kernel_rfl⟩
def oX:Con:=fun l os=>match l,os with
 | [.z (.slice .str) p, .z .str x], []=>some (vZ p x, [.z .str (evS p x), .z (.int .i64) (evE p x)], [])
 |_,_=>none
theorem w7{B:ag}(hB:aB B):Valid B Tryz.prog 36 oX:=by
 refine ab (BQ hB).tab Tryz.func36 rfl rfl rfl ?_;intro args os C rs os' hc hC;unfold oX at hc;split at hc;case h_2=>cases hc
 rename_i p x;cases hc;refine v_h (BQ hB) fun X hP hT hr hG=> ?_;have hU:=rN.eq_1;unfold rN at hT;have hX:=ai @fC.eq_1<|ai @l8.eq_1<|ai @Gn.eq_1<|ai @pL.eq_1<| @oQ.eq_1;simp only[Tryz.f36,aC,al,ioB];refine s_g hG ?_;refine s_q hG ?_ ?_
 ·try simp only[ba]
  exact(Lu hC).2
 refine ak ?_;refine s_g hG ?_;refine ao ?_ ?_
 ·intro hb0;try simp only[bt] at hb0
  refine s_g hG ?_;refine av ?_;refine aw ?_;refine q_e [] ?_;exact PR hb0
 ·intro hb0;try simp only[bf] at hb0
  have n0:=Qr hb0;have nl:=PQ hb0;simp only[NT] at n0;refine aq ?_;refine aj ?_;refine ak ?_;refine s_q hG ?_ ?_
  ·(try simp only[ba]);exact hC.sx
  refine s_g hG ?_;refine ao ?_ ?_;·intro hb1;(try simp only[bt] at hb1);refine s_g hG ?_;refine av ?_;refine aw ?_;refine q_e [] ?_;exact NW hb0 hb1
  ·intro hb1;(try simp only[bf] at hb1);(have h9:cO x=0:=by simpa using hb1);obtain⟨k1,k2,k3,k4⟩:=hC.ok hb0 h9;obtain⟨c1,c2⟩:=oz h9 hC.sx;refine aq ?_;refine aj ?_;refine s_d hG ?_ ?_
   ·(try simp only[ba]);simp only[n0,nl,c2,aJ,aH];exact Lv c1 k1 k2 k3 k4
   refine ak ?_;refine s_g hG ?_;refine ao ?_ ?_;·intro hb2;(try simp only[bt] at hb2);refine s_g hG ?_;refine av ?_;refine aw ?_;refine q_e [] ?_;simp only[n0,c2,aJ,aH,Ai] at hb2;exact PS hb0 h9 (by simpa using hb2)
   ·intro hb2;(try simp only[bf] at hb2);refine aq ?_;refine aj ?_;refine s_q hG ?_ ?_
    ·(try simp only[ba]);simp only[n0,c2,aJ,aH] at hb2 ⊢;exact HT (by simpa using hb2) _
    refine av ?_;refine q_e [] ?_;simp only[n0,c2,aJ,aH,Ai] at hb2 ⊢;exact NY hb0 h9 (by simpa using hb2)
def yy:Con:=ji [some (.slice .str),none] oX
theorem DW{B:ag}(hB:aB B):Valid B Tryz.prog 36 yy:=fz _ (w7 hB)
def rO(B:ag):Tab:={types:= [],elems:= [],cons:= [],hint:= [],N:=4,base:=B}
theorem BR{B:ag}(hB:aB B):aG Tryz.prog (rO B):=⟨⟨ae,af,by simp only[rO,ioB];omega⟩,bH rfl,by kernel_rfl⟩
def OP:Con:=fun l os=>match l,os with
 | [.z (.slice .str) p], []=>some (True, [.z (.slice .str) p], [])
 |_,_=>none
theorem IX{B:ag}(hB:aB B):Valid B Tryz.prog 45 OP:=by
 refine ab (BR hB).tab Tryz.func45 rfl rfl rfl ?_;intro args os C rs os' hc hC;unfold OP at hc;split at hc;case h_2=>cases hc
 rename_i p;cases hc;refine v_h (BR hB) fun X hP hT hr hG=> ?_;have hU:=rO.eq_1;unfold rO at hT;have hX:=Bool.not_true;simp only[Tryz.f45,aC,al,ioB];refine s_g hG ?_;refine s_g hG ?_;refine av ?_;refine q_e [] ?_;trivial
def rP(B:ag):Tab:={types:= [(22,(.slice .str)),(31,(.int .i64))],elems:= [],cons:= [(28,oI)],hint:= [],N:=13,base:=B}
theorem BS{B:ag}(hB:aB B):aG Tryz.prog (rP B):=⟨⟨tc gB (tc jF (ae)),af,by simp only[rP,ioB];omega⟩,aD (cc Tryz.func28 (wy hB) (au)),by kernel_rfl⟩
def OQ:Con:=fun l os=>match l,os with
 | [.z (.slice .str) p, .z (.int .i64) e, .z (.ptr (.slice .str)) q], []=>some (p.length<=QL/\q.length<=QL, [.z .bool (decide (e=0/\p=q))], [])
 |_,_=>none
theorem IY{B:ag}(hB:aB B):Valid B Tryz.prog 94 OQ:=by
 refine ab (BS hB).tab Tryz.func94 rfl rfl rfl ?_;intro args os C rs os' hc hC;unfold OQ at hc;split at hc;case h_2=>cases hc
 rename_i p e q;cases hc;refine v_h (BS hB) fun X hP hT hr hG=> ?_;have hU:=rP.eq_1;unfold rP at hT;have hX:= @oI.eq_1;simp only[Tryz.f94,aC,al,ioB];refine s_g hG ?_;refine s_q hG ?_ ?_
 ·try simp only[ba]
  exact⟨fun h=>⟨h,hC⟩,id⟩
 refine av ?_;refine q_e [] ?_;exact P6 _ _ _
def rQ(B:ag):Tab:={types:= [(22,(.slice .str))],elems:= [],cons:= [],hint:= [],N:=4,base:=B}
theorem BU{B:ag}(hB:aB B):aG Tryz.prog (rQ B):=⟨⟨tc gB (ae),af,by simp only[rQ,ioB];omega⟩,bH rfl,by kernel_rfl⟩
def OR:Con:=fun l os=>match l,os with
 | [.z (.slice .str) p], []=>some (True, [.fn 94 [.z (.ptr (.slice .str)) p]], [])
 |_,_=>none
theorem IZ{B:ag}(hB:aB B):Valid B Tryz.prog 41 OR:=by
 refine ab (BU hB).tab Tryz.func41 rfl rfl rfl ?_;intro args os C rs os' hc hC;unfold OR at hc;split at hc;case h_2=>cases hc
 rename_i p;cases hc;refine v_h (BU hB) fun X hP hT hr hG=> ?_;have hU:=rQ.eq_1;unfold rQ at hT;have hX:=Bool.not_true;simp only[Tryz.f41,aC,al,ioB];refine s_g hG ?_;refine s_g hG ?_;refine av ?_;refine q_e [] ?_;rfl
def MN:Con:=ji [some (.slice .str)] OR
theorem DX{B:ag}(hB:aB B):Valid B Tryz.prog 41 MN:=fz _ (IZ hB)
def rR(B:ag):Tab:={types:= [(22,(.slice .str)),(31,(.int .i64)),(46, .str)],elems:= [],cons:= [(36,oX)],hint:= [],N:=17,base:=B}
theorem BV{B:ag}(hB:aB B):aG Tryz.prog (rR B):=⟨⟨tc gB (tc jF (tc gr (ae))),af,by simp only[rR,ioB];omega⟩,aD (cc Tryz.func36 (w7 hB) (au)),by kernel_rfl⟩
def rS:Con:=fun l os=>match l,os with
 | [.z (.slice .str) p, .z .str x], []=>some (vZ p x, [.z .str (evS p x), .z .bool (decide (evE p x=0))], [])
 |_,_=>none
theorem I0{B:ag}(hB:aB B):Valid B Tryz.prog 48 rS:=by
 refine ab (BV hB).tab Tryz.func48 rfl rfl rfl ?_;intro args os C rs os' hc hC;unfold rS at hc;split at hc;case h_2=>cases hc
 rename_i p x;cases hc;refine v_h (BV hB) fun X hP hT hr hG=> ?_;have hU:=rR.eq_1;unfold rR at hT;have hX:= @oX.eq_1;simp only[Tryz.f48,aC,al,ioB];refine s_g hG ?_;refine s_q hG ?_ ?_
 ·try simp only[ba]
  exact hC
 refine s_g hG ?_;refine av ?_;refine q_e [] ?_;exact QB _ _
def rT(B:ag):Tab:={types:= [(3,(.int .i64)),(22,(.slice .str)),(31,(.int .i64)),(46, .str)],elems:= [(22,46)],cons:= [(14,ma),(15,wU),(16,wW),(17,wY),(23,yw),(24,DS),(28,yo),(29,Gv),(30,Gw),(31,yx),(36,yy),(41,MN),(45,OP),(94,OQ)],hint:= [],N:=218,base:=B}
theorem BW{B:ag}(hB:aB B):aG Tryz.prog (rT B):=⟨⟨tc ty3 (tc gB (tc jF (tc gr (ae)))),aR (by kernel_rfl) (af),by simp only[rT,ioB];omega⟩,aD (cc Tryz.func14 (wT hB) (cc Tryz.func15 (wV hB) (cc Tryz.func16 (wX hB) (cc Tryz.func17 (wZ hB) (cc Tryz.func23 (DU hB) (cc Tryz.func24 (DT hB) (cc Tryz.func28 (DN hB) (cc Tryz.func29 (IU hB) (cc Tryz.func30 (IV hB) (cc Tryz.func31 (DV hB) (cc Tryz.func36 (DW hB) (cc Tryz.func41 (DX hB) (cc Tryz.func45 (IX hB) (cc Tryz.func94 (IY hB) (au))))))))))))))),by kernel_rfl⟩
def rU:Con:=fun l os=>match l,os with
 | [], []=>some (True, [.z .bool true], [])
 |_,_=>none
set_option maxHeartbeats 2000000 in
theorem I1{B:ag}(hB:aB B):Valid B Tryz.prog 11 rU:=by
 refine ab (BW hB).tab Tryz.func11 rfl rfl rfl ?_;intro args os C rs os' hc hC;unfold rU at hc;split at hc;case h_2=>cases hc
 cases hc;refine v_h (BW hB) fun X hP hT hr hG=> ?_;have hU:=rT.eq_1;unfold rT at hT;have hX:=ai @OR.eq_1<|ai @MN.eq_1<|ai @OQ.eq_1<|ai @OP.eq_1<|ai @wU.eq_1<|ai @ma.eq_1<|ai @oW.eq_1<|ai @yx.eq_1<|ai @Gv.eq_1<|ai @yv.eq_1<|ai @yw.eq_1<|ai @oX.eq_1<|ai @yy.eq_1<|ai @Gu.eq_1<|ai @DS.eq_1<|ai @wY.eq_1<|ai @Gw.eq_1<|ai @wW.eq_1<|ai @oI.eq_1<|ai @yo.eq_1<| @List.append_eq.{0};simp only[Tryz.f11,aC,al,ioB];refine s_g hG ?_;refine ck (fun(z:Unit)=>(⟨[(0, .l (.z .bool false)),(1, .l (.z (.slice .str) [[49], [49], [49]])),(2, .l (.z (.slice .str) [])),(3, .l (.z (.int .i64) 0))], []⟩:aa)) (fun z=>True) ?_ ?_
 ·refine ah hG ?_ ?_
  ·(try simp only[ba]);exact DB (n:=4) (K:=1) (by decide+kernel) (by decide+kernel)
  show ∃ z,_;refine q_l ?_;exact wp1
 rintro⟨⟩-;refine ck (fun(z:Unit)=>(⟨[(0, .l (.z .bool false)),(1, .l (.z (.slice .str) [[49], [49], [49]])),(2, .l (.z (.slice .str) [])),(3, .l (.z (.int .i64) 0)),(4, .l (.z (.slice .str) [[48], [49,47,50]])),(5, .l (.z (.slice .str) [[49]])),(6, .l (.z (.int .i64) 0))], []⟩:aa)) (fun z=>True) ?_ ?_
 ·refine ah hG ?_ ?_
  ·(try simp only[ba]);exact DB (n:=4) (K:=1) (by decide+kernel) (by decide+kernel)
  show ∃ z,_;refine q_l ?_;exact wp2
 rintro⟨⟩-;refine ck (fun(z:Unit)=>(⟨[(0, .l (.z .bool false)),(1, .l (.z (.slice .str) [[49], [49], [49]])),(2, .l (.z (.slice .str) [])),(3, .l (.z (.int .i64) 0)),(4, .l (.z (.slice .str) [[48], [49,47,50]])),(5, .l (.z (.slice .str) [[49]])),(6, .l (.z (.int .i64) 0)),(9, .l (.z (.int .i64) 2))], []⟩:aa)) (fun z=>True) ?_ ?_
 ·refine ah hG ?_ ?_
  ·(try simp only[ba]);exact DB (n:=4) (K:=1) (by decide+kernel) (by decide+kernel)
  show ∃ z,_;refine q_l ?_;exact wp3
 rintro⟨⟩-;refine ck (fun(z:Unit)=>(⟨[(0, .l (.z .bool false)),(1, .l (.z (.slice .str) [[49], [49], [49]])),(2, .l (.z (.slice .str) [])),(3, .l (.z (.int .i64) 0)),(4, .l (.z (.slice .str) [[48], [49,47,50]])),(5, .l (.z (.slice .str) [[49]])),(6, .l (.z (.int .i64) 0)),(9, .l (.z (.int .i64) 2)),(10, .l (.z .str [53,47,52])),(11, .l (.z (.int .i64) 0))], []⟩:aa)) (fun z=>True) ?_ ?_
 ·refine ah hG ?_ ?_
  ·(try simp only[ba]);exact LC (n:=4) (K:=1) (by decide+kernel) (by decide)
  show ∃ z,_;refine q_l ?_;exact wp4
 rintro⟨⟩-;refine ck (fun(z:Unit)=>(⟨[(0, .l (.z .bool false)),(1, .l (.z (.slice .str) [[49], [49], [49]])),(2, .l (.z (.slice .str) [])),(3, .l (.z (.int .i64) 0)),(4, .l (.z (.slice .str) [[48], [49,47,50]])),(5, .l (.z (.slice .str) [[49]])),(6, .l (.z (.int .i64) 0)),(9, .l (.z (.int .i64) 2)),(10, .l (.z .str [53,47,52])),(11, .l (.z (.int .i64) 0)),(13, .l (.z (.int .i64) 5))], []⟩:aa)) (fun z=>True) ?_ ?_
 ·refine ah hG ?_ ?_
  ·(try simp only[ba]);exact LC (n:=4) (K:=1) (by decide+kernel) (by decide)
  show ∃ z,_;refine q_l ?_;exact wp5
 rintro⟨⟩-;refine ck (fun(z:Unit)=>(⟨[(0, .l (.z .bool false)),(14, .l (.z .bool true))], []⟩:aa)) (fun z=>True) ?_ ?_
 ·refine ah hG ?_ ?_
  ·(try simp only[ba]);exact wsq
  show ∃ z,_;refine q_l ?_;rfl
 rintro⟨⟩-;refine ck (fun(z:Unit)=>(⟨[(0, .l (.z .bool false)),(14, .l (.z .bool true))], []⟩:aa)) (fun z=>True) ?_ ?_
 ·refine ah hG ?_ ?_
  ·(try simp only[ba]);simp[wp6.1,wp6.2,wp7.1,wp7.2,wp8.1,wp8.2,wp9.1,wp9.2,Oj.1,Oj.2,Ok.1,Ok.2,ok6,ok7,ok8,ok9,QS,QT,QL]
  show ∃ z,_;refine q_l ?_;simp[wp6.1,wp6.2,wp7.1,wp7.2,wp8.1,wp8.2,wp9.1,wp9.2,Oj.1,Oj.2,Ok.1,Ok.2]
 rintro⟨⟩-;refine ck (fun(z:Unit)=>(⟨[(0, .l (.z .bool false)),(14, .l (.z .bool true))], []⟩:aa)) (fun z=>True) ?_ ?_
 ·refine ah hG ?_ ?_
  ·(try simp only[ba]);simp[Ol.1,Ol.2,Om.1,Om.2,Oo.1,Oo.2,Oq.1,Oq.2,QU,QV,QW,QX,QL]
  show ∃ z,_;refine q_l ?_;simp[Ol.1,Ol.2,Om.1,Om.2,Oo.1,Oo.2,Oq.1,Oq.2]
 rintro⟨⟩-;refine s_q hG ?_ ?_
 ·try simp only[ba]
  simp[Ot.1,Ot.2,QE.1,QE.2]
 refine av ?_;refine q_e [] ?_;simp[Ot.1,Ot.2]
def rV(B:ag):Tab:={types:= [(3,(.int .i64)),(22,(.slice .str)),(46, .str)],elems:= [],cons:= [],hint:= [],N:=13,base:=B}
theorem BX{B:ag}(hB:aB B):aG Tryz.prog (rV B):=⟨⟨tc ty3 (tc gB (tc gr (ae))),af,by simp only[rV,ioB];omega⟩,bH rfl,by kernel_rfl⟩
def yz:Con:=fun l os=>match l,os with
 | [.z (.slice .str) p, .z (.int .i64) i], []=>some (GL QK p/\0<=i, [.z .str (aS (cf (nl p) i.toNat))], [])
 |_,_=>none
theorem I2{B:ag}(hB:aB B):Valid B Tryz.prog 63 yz:=by
 refine ab (BX hB).tab Tryz.func63 rfl rfl rfl ?_;intro args os C rs os' hc hC;unfold yz at hc;split at hc;case h_2=>cases hc
 rename_i p i;cases hc;refine v_h (BX hB) fun X hP hT hr hG=> ?_;have hU:=rV.eq_1;unfold rV at hT;have hX:=Bool.not_true;simp only[Tryz.f63,aC,al,ioB];obtain⟨hp,hi⟩:=hC;obtain⟨n,rfl⟩:=Int.eq_ofNat_of_zero_le hi;rw[Int.toNat_natCast];refine s_g hG ?_;refine ak ?_;refine s_g hG ?_;refine ao ?_ ?_
 ·intro hb0;try simp only[bt] at hb0
  refine s_q hG ?_ ?_
  ·(try simp only[ba]);exact⟨by omega,hb0⟩
  refine av ?_;refine aw ?_;refine q_e [] ?_;exact nE hp (by omega)
 ·intro hb0;try simp only[bf] at hb0
  refine aq ?_;refine aj ?_;refine s_g hG ?_;refine av ?_;refine q_e [] ?_;exact LX (by omega)
def rW(B:ag):Tab:={types:= [(3,(.int .i64)),(22,(.slice .str)),(46, .str)],elems:= [],cons:= [],hint:= [],N:=21,base:=B}
theorem BZ{B:ag}(hB:aB B):aG Tryz.prog (rW B):=⟨⟨tc ty3 (tc gB (tc gr (ae))),af,by simp only[rW,ioB];omega⟩,bH rfl,by kernel_rfl⟩
def jt:Con:=fun l os=>match l,os with
 | [.z (.slice .str) p], []=>some (GL QK p/\p.length<=1000000000, [.z (.slice .str) (txP (aT (nl p)))], [])
 |_,_=>none
theorem ko{B:ag}(hB:aB B):Valid B Tryz.prog 64 jt:=by
 refine ab (BZ hB).tab Tryz.func64 rfl rfl rfl ?_;intro args os C rs os' hc hC;unfold jt at hc;split at hc;case h_2=>cases hc
 rename_i p;cases hc;refine v_h (BZ hB) fun X hP hT hr hG=> ?_;have hU:=rW.eq_1;unfold rW at hT;have hX:=Bool.not_true;simp only[Tryz.f64,aC,al,ioB];obtain⟨l0,rfl,hl0⟩:=hC.1.ex;have hn:=hC.2;rw[cp] at hn;rw[lk];refine s_g hG ?_;refine ak ?_;refine ax ?_;refine br (fun(z:List Rat)=>(⟨[(0, .l (.z (.slice .str) (txP z))),(2, .l (.val (.slice none 0 0)))], []⟩:aa)) (fun z=>z.length<=l0.length/\(∀ x∈z,lq x<=QK)/\aT z=aT l0) (fun z=>z.length) l0 ?_ ?_ ?_;·simp only[ml0,ml1,Nat.reduceLT,Nat.reduceEqDiff,Nat.reduceAdd,Nat.reduceMul,Nat.reduceSub,Nat.reduceLeDiff,Nat.reduceBEq,Nat.reduceBNe,reduceIte,reduceDIte,reduceCtorEq]
 ·exact⟨Nat.le_refl _,hl0,rfl⟩
 ·rintro l ⟨g1,g2,g3⟩;try dsimp only at g1 g2 g3
  refine ak ?_;refine s_q hG ?_ ?_
  ·(try simp only[ba]);exact⟨id,id,fun h=>DF (l:=l) (by omega) h,id⟩
  refine ao ?_ ?_
  ·intro hb0;(try simp only[bt] at hb0);have ht:=Oa (l:=l) (by omega) hb0.1 hb0.2;obtain⟨n1,n2,n3,n4,n5⟩:=DG (by omega) g1 g2 g3 ht;refine aq ?_;refine aj ?_;refine ax ?_;refine ah hG ?_ ?_
   ·(try simp only[ba]);rw[cp,cb (by omega)];omega
   refine aL ?_;show ∃ z,_;refine q_l ?_;exact⟨l.dropLast,n1,n2,n3,n4,n5⟩
  ·intro hb0;(try simp only[bf] at hb0);have ht:=Ob (l:=l) (by omega) hb0;refine bh ?_;refine aE ?_;refine az ?_;refine ay ?_;refine aj ?_;refine s_g hG ?_;refine av ?_;refine q_e [] ?_;rw[<- g3,ht]
def rX(B:ag):Tab:={types:= [(3,(.int .i64)),(22,(.slice .str)),(46, .str)],elems:= [(22,46)],cons:= [(62,Ga),(63,yz),(64,jt)],hint:= [27],N:=31,base:=B}
theorem B0{B:ag}(hB:aB B):aG Tryz.prog (rX B):=⟨⟨tc ty3 (tc gB (tc gr (ae))),aR (by kernel_rfl) (af),by simp only[rX,ioB];omega⟩,aD (cc Tryz.func62 (Ik hB) (cc Tryz.func63 (I2 hB) (cc Tryz.func64 (ko hB) (au)))),by kernel_rfl⟩
def yA:Con:=fun l os=>match l,os with
 | [.z (.slice .str) p, .z (.slice .str) q], []=>some (GL QK2 p/\GL QK2 q/\p.length<=1000000/\q.length<=1000000, [.z (.slice .str) (txP (bK (· + ·) (nl p) (nl q)))], [])
 |_,_=>none
theorem I3{B:ag}(hB:aB B):Valid B Tryz.prog 20 yA:=by
 refine ab (B0 hB).tab Tryz.func20 rfl rfl rfl ?_;intro args os C rs os' hc hC;unfold yA at hc;split at hc;case h_2=>cases hc
 rename_i p q;cases hc;refine v_h (B0 hB) fun X hP hT hr hG=> ?_;have hU:=rX.eq_1;unfold rX at hT;have hX:=ai @Ga.eq_1<|ai @yz.eq_1<| @jt.eq_1;simp only[Tryz.f20,aC,al,ioB];obtain⟨hp,hq,hl1,hl2⟩:=hC;refine s_g hG ?_;refine s_g hG ?_;refine ak ?_;refine s_g hG ?_;refine ax ?_;refine br (fun(z:Nat)=>(⟨[(0, .l (.z (.slice .str) p)),(1, .l (.z (.slice .str) q)),(4, .l (.val (.slice none 0 0))),(5, .l (.ownS 28)),(6, .l (.z (.int .i64) (z:Int)))], [(28, .arr .str 46 (txP (bM (· + ·) (nl p) (nl q) z)))]⟩:aa)) (fun z=>z<=max p.length q.length) (fun z=>max p.length q.length-z) 0 ?_ ?_ ?_;·refine q_l ?_;exact⟨rfl,by unfold ioB;omega,rfl⟩
 ·omega
 ·rintro k g1;try dsimp only at g1
  refine ak ?_;refine s_g hG ?_;refine ao ?_ ?_
  ·intro hb0;have hk:=Qw hb0;refine aq ?_;refine aj ?_;refine ak ?_;refine ax ?_;refine ah hG ?_ ?_
   ·(try simp only[ba]);exact DL hp hq (by omega)
   (refine aL ?_;refine aj ?_;refine ah hG ?_ ?_;·first|trivial|omega|(simp;done)|(simp;omega));show ∃ z,_;refine q_l ?_;exact DH (by omega) (by omega)
  ·intro hb0;have hk:=Qx hb0;refine bh ?_;refine aE ?_;refine az ?_;refine ay ?_;refine aj ?_;refine s_q hG ?_ ?_
   ·(try simp only[ba]);exact⟨H5 hp hq k,by rw[cp,eH];omega⟩
   refine av ?_;refine q_e [] ?_;exact LY g1 hk
def rY(B:ag):Tab:={types:= [(3,(.int .i64)),(22,(.slice .str)),(46, .str)],elems:= [(22,46)],cons:= [(64,jt),(84,Gb)],hint:= [20],N:=24,base:=B}
theorem B1{B:ag}(hB:aB B):aG Tryz.prog (rY B):=⟨⟨tc ty3 (tc gB (tc gr (ae))),aR (by kernel_rfl) (af),by simp only[rY,ioB];omega⟩,aD (cc Tryz.func64 (ko hB) (cc Tryz.func84 (Il hB) (au))),by kernel_rfl⟩
def rZ:Con:=fun l os=>match l,os with
 | [.z .str c, .z (.slice .str) p], []=>some (GQ QK2 c/\GL QK2 p/\p.length<=1000000, [.z (.slice .str) (txP (fp (bg c) (nl p)))], [])
 |_,_=>none
theorem I4{B:ag}(hB:aB B):Valid B Tryz.prog 65 rZ:=by
 refine ab (B1 hB).tab Tryz.func65 rfl rfl rfl ?_;intro args os C rs os' hc hC;unfold rZ at hc;split at hc;case h_2=>cases hc
 rename_i c p;cases hc;refine v_h (B1 hB) fun X hP hT hr hG=> ?_;have hU:=rY.eq_1;unfold rY at hT;have hX:=ai @Gb.eq_1<| @jt.eq_1;simp only[Tryz.f65,aC,al,ioB];obtain⟨hc,hp,hl1⟩:=hC;refine s_g hG ?_;refine s_g hG ?_;refine ak ?_;refine s_g hG ?_;refine ax ?_;refine br (fun(z:Nat)=>(⟨[(0, .l (.z .str c)),(1, .l (.z (.slice .str) p)),(4, .l (.val (.slice none 0 0))),(5, .l (.ownS 21)),(6, .l (.z (.int .i64) (z:Int)))], [(21, .arr .str 46 (txP (((nl p).take z).map fun x=>bg c*x)))]⟩:aa)) (fun z=>z<=p.length) (fun z=>p.length-z) 0 ?_ ?_ ?_;·refine q_l ?_;exact⟨rfl,by unfold ioB;omega,rfl⟩
 ·omega
 ·rintro k g1;try dsimp only at g1
  refine ak ?_;refine s_g hG ?_;refine ao ?_ ?_
  ·intro hb0;(try simp only[bt] at hb0);(have hk:k<p.length:=by have h9:(k:Int)<(p.length:Int):=hb0;omega);refine aq ?_;refine aj ?_;refine ak ?_;refine ax ?_;refine ah hG ?_ ?_
   ·(try simp only[ba]);exact At hc hp hl1 hk
   (refine aL ?_;refine aj ?_;refine ah hG ?_ ?_;·first|trivial|omega|(simp;done)|(simp;omega));show ∃ z,_;refine q_l ?_;exact Ap hp hk hl1
  ·intro hb0;(try simp only[bf] at hb0);(have hk: ¬k<p.length:=by have h9: ¬ (k:Int)<(p.length:Int):=hb0;omega);refine bh ?_;refine aE ?_;refine az ?_;refine ay ?_;refine aj ?_;refine s_q hG ?_ ?_
   ·(try simp only[ba]);exact⟨DI hc hp k,by rw[cp,List.length_map,List.length_take,jm];omega⟩
   refine av ?_;refine q_e [] ?_;exact H6 hk
def r0(B:ag):Tab:={types:= [(3,(.int .i64)),(22,(.slice .str))],elems:= [(22,46)],cons:= [(64,jt)],hint:= [13],N:=19,base:=B}
theorem B2{B:ag}(hB:aB B):aG Tryz.prog (r0 B):=⟨⟨tc ty3 (tc gB (ae)),aR (by kernel_rfl) (af),by simp only[r0,ioB];omega⟩,aD (cc Tryz.func64 (ko hB) (au)),by kernel_rfl⟩
def sa:Con:=fun l os=>match l,os with
 | [.z (.slice .str) p, .z (.int .i64) n], []=>some (GL QK p/\0<=n/\n<=1000000/\p.length<=1000000, [.z (.slice .str) (txP (iG n.toNat (nl p)))], [])
 |_,_=>none
theorem I5{B:ag}(hB:aB B):Valid B Tryz.prog 66 sa:=by
 refine ab (B2 hB).tab Tryz.func66 rfl rfl rfl ?_;intro args os C rs os' hc hC;unfold sa at hc;split at hc;case h_2=>cases hc
 rename_i p n;cases hc;refine v_h (B2 hB) fun X hP hT hr hG=> ?_;have hU:=r0.eq_1;unfold r0 at hT;have hX:= @jt.eq_1;simp only[Tryz.f66,aC,al,ioB];obtain⟨hp,hn1,hn2,hl1⟩:=hC;obtain⟨n,rfl⟩:=Int.eq_ofNat_of_zero_le hn1;rw[Int.toNat_natCast];have hn3:n<=1000000:=by have h9:(n:Int)<=1000000:=hn2;omega
 refine s_g hG ?_;refine s_g hG ?_;refine ak ?_;refine s_g hG ?_;refine ax ?_;refine br (fun(z:Nat)=>(⟨[(0, .l (.z (.slice .str) p)),(1, .l (.z (.int .i64) (n:Int))),(4, .l (.val (.slice none 0 0))),(5, .l (.ownS 14)),(6, .l (.z (.int .i64) (z:Int)))], [(14, .arr .str 46 (List.replicate z [48]))]⟩:aa)) (fun z=>z<=n) (fun z=>n-z) 0 ?_ ?_ ?_;·refine q_l ?_;exact⟨rfl,by unfold ioB;omega,rfl⟩
 ·omega
 ·rintro k g1;try dsimp only at g1
  refine ak ?_;refine s_g hG ?_;refine ao ?_ ?_
  ·intro hb0;(try simp only[bt] at hb0);refine aq ?_;refine aj ?_;refine ak ?_;refine ax ?_;refine ah hG ?_ ?_
   ·(try simp only[ba]);exact uA (by rw[List.length_replicate];omega)
   (refine aL ?_;refine aj ?_;refine ah hG ?_ ?_;·first|trivial|omega|(simp;done)|(simp;omega));show ∃ z,_;refine q_l ?_;exact⟨k+1,wi (by omega) (by omega),LZ k,by omega,by omega⟩
  ·intro hb0;(try simp only[bf] at hb0);(obtain rfl:k=n:=by have h9: ¬ (k:Int)<(n:Int):=hb0;omega);refine bh ?_;refine aE ?_;refine az ?_;refine ay ?_;refine aj ?_;refine s_q hG ?_ ?_
   ·(try simp only[ba]);exact⟨uA (by rw[List.length_replicate];omega),DJ hp k,by rw[List.length_append,List.length_replicate];omega⟩
   refine av ?_;refine q_e [] ?_;exact H8
def sc(B:ag):Tab:={types:= [(3,(.int .i64)),(22,(.slice .str)),(46, .str)],elems:= [],cons:= [(20,yA),(65,rZ),(66,sa)],hint:= [],N:=24,base:=B}
theorem B3{B:ag}(hB:aB B):aG Tryz.prog (sc B):=⟨⟨tc ty3 (tc gB (tc gr (ae))),af,by simp only[sc,ioB];omega⟩,aD (cc Tryz.func20 (I3 hB) (cc Tryz.func65 (I4 hB) (cc Tryz.func66 (I5 hB) (au)))),by kernel_rfl⟩
def yB:Con:=fun l os=>match l,os with
 | [.z (.slice .str) p, .z (.slice .str) q], []=>some (L3 p q, [.z (.slice .str) (txP (eR (nl p) (nl q) p.length))], [])
 |_,_=>none
theorem I6{B:ag}(hB:aB B):Valid B Tryz.prog 22 yB:=by
 refine ab (B3 hB).tab Tryz.func22 rfl rfl rfl ?_;intro args os C rs os' hc hC;unfold yB at hc;split at hc;case h_2=>cases hc
 rename_i p q;cases hc;refine v_h (B3 hB) fun X hP hT hr hG=> ?_;have hU:=sc.eq_1;unfold sc at hT;have hX:=ai @yA.eq_1<|ai @rZ.eq_1<| @sa.eq_1;simp only[Tryz.f22,aC,al,ioB];have hl1:=hC.2.2.1;refine s_g hG ?_;refine s_g hG ?_;refine ak ?_;refine s_g hG ?_;refine ax ?_;refine br (fun(z:Nat)=>(⟨[(0, .l (.z (.slice .str) p)),(1, .l (.z (.slice .str) q)),(4, .l (.val (.slice none 0 0))),(5, .l (.z (.slice .str) (txP (eR (nl p) (nl q) z)))),(6, .l (.z (.int .i64) (z:Int)))], []⟩:aa)) (fun z=>z<=p.length) (fun z=>p.length-z) 0 ?_ ?_ ?_;·refine q_l ?_;exact⟨rfl,rfl⟩
 ·omega
 ·rintro k g1;try dsimp only at g1
  refine ak ?_;refine s_g hG ?_;refine ao ?_ ?_
  ·intro hb0;(try simp only[bt] at hb0);(have hk:k<p.length:=by have h9:(k:Int)<(p.length:Int):=hb0;omega);refine aq ?_;refine aj ?_;refine ak ?_;refine ax ?_;refine ah hG ?_ ?_
   ·(try simp only[ba]);exact⟨⟨by omega,hb0⟩,H9 hC hk⟩
   (refine aL ?_;refine aj ?_;refine ah hG ?_ ?_;·first|trivial|omega|(simp;done)|(simp;omega));show ∃ z,_;refine q_l ?_;obtain⟨w,w1,w2,w3⟩:=DK hC hk;exact⟨w,w2,w1,w3⟩
  ·intro hb0;(try simp only[bf] at hb0);(have hk: ¬k<p.length:=by have h9: ¬ (k:Int)<(p.length:Int):=hb0;omega);refine bh ?_;refine aE ?_;refine az ?_;refine ay ?_;refine aj ?_;refine s_g hG ?_;refine av ?_;refine q_e [] ?_;exact L4 g1 hk
def OS(B:ag):Tab:={types:= [(3,(.int .i64)),(4, .bool),(5,(.int .u8)),(9, .str),(47,(.slice (.int .u8))),(49,(.st (.pair .bool (.pair (.slice (.int .u8)) (.int .u8)))))],elems:= [(47,5)],cons:= [],hint:= [],N:=54,base:=B}
theorem Pb{B:ag}(hB:aB B):aG Tryz.prog (OS B):=⟨⟨tc ty3 (tc ty4 (tc ty5 (tc ty9 (tc Pr (tc Qf (ae)))))),aR (by kernel_rfl) (af),by simp only[OS,ioB];omega⟩,bH rfl,by kernel_rfl⟩
def yC:Con:=fun l os=>match l,os with
 | [.z (.st (.pair .bool (.pair (.slice (.int .u8)) (.int .u8)))) d], []=>some (DOK d, [.z .str (c9 d)], [])
 |_,_=>none
theorem P7{B:ag}(hB:aB B):Valid B Tryz.prog 127 yC:=by
 refine ab (Pb hB).tab Tryz.func127 rfl rfl rfl ?_;intro args os C rs os' hc hC;unfold yC at hc;split at hc;case h_2=>cases hc
 rename_i d;cases hc;refine v_h (Pb hB) fun X hP hT hr hG=> ?_;have hU:=OS.eq_1;unfold OS at hT;have hX:=Bool.not_true;simp only[Tryz.f127,aC,al,ioB];refine s_g hG ?_;refine s_g hG ?_;refine ak ?_;refine s_g hG ?_;refine ax ?_;refine br (fun(z:Nat)=>(⟨[(1, .l (.z (.ptr (.st (.pair .bool (.pair (.slice (.int .u8)) (.int .u8))))) d)),(3, .l (.z .str (cS d.2.1 z))),(4, .l (.z (.int .i64) (z:Int)))], []⟩:aa)) (fun z=>z<=(d.2.2%8).toNat+1) (fun z=>(d.2.2%8).toNat+1-z) 0 ?_ ?_ ?_;·refine q_l ?_;exact⟨rfl,rfl⟩
 ·omega
 ·rintro k hk;try dsimp only at hk
  refine ak ?_;refine s_q hG ?_ ?_
  ·(try simp only[ba]);decide
  refine ao ?_ ?_
  ·(intro hb0;(try simp only[bt] at hb0);refine aq ?_;refine aj ?_;refine ak ?_;refine ax ?_;refine s_g hG ?_;refine ax ?_;refine br (fun(z:Nat×List UInt8)=>(⟨[(1, .l (.z (.ptr (.st (.pair .bool (.pair (.slice (.int .u8)) (.int .u8))))) d)),(3, .l (.z .str z.2)),(4, .l (.z (.int .i64) (k:Int))),(5, .l (.z (.int .i64) (z.1:Int)))], []⟩:aa)) (fun z=>ml d.2.1 (cS d.2.1 k) z.1 z.2) (fun z=>30-z.1) (0,cS d.2.1 k) ?_ ?_ ?_;·refine q_l ?_;rfl);·exact⟨Nat.zero_le _,Nat.zero_le _,rfl⟩
   ·rintro⟨i,s⟩ hi;(try dsimp only at hi);refine ak ?_;refine s_q hG ?_ ?_
    ·(try simp only[ba]);exact fun h=>h
    refine ao ?_ ?_
    ·intro hb1;(try simp only[bt] at hb1);refine aq ?_;refine aj ?_;refine ak ?_;refine ax ?_;refine s_q hG ?_ ?_
     ·(try simp only[ba]);exact⟨fun h=>h,fun h=>⟨h,by omega,hb1.1⟩,fun h=>h,fun h=>⟨h,by decide⟩,fun h=>h,fun h=>by have h2:(s != [])= !(s== []):=rfl;simp_all⟩
     refine ao ?_ ?_
     ·intro hb2;(try simp only[bt] at hb2);refine ah hG ?_ ?_
      ·(try simp only[ba]);have hl:=Pq hC hk hi;exact⟨⟨by omega,hb1.1⟩,by decide,by have h1:(strOf [IntKind.u8.wrap (48+Int.tmod (nth (Ty.int IntKind.u8) d.2.1 (i:Int)) 10)]).length=1:=rfl;rw[h1];have h2:1000<=maxLen:=(by decide);omega⟩
      (refine aL ?_;refine aj ?_;refine ah hG ?_ ?_;·first|trivial|omega|(simp;done)|(simp;omega));show ∃ z,_;refine q_l ?_;first|exact ED hC hi hb1 hb2|exact zx hC hi hb1 hb2
     ·(intro hb2;(try simp only[bf] at hb2);refine aq ?_;refine aL ?_;refine aj ?_;refine ah hG ?_ ?_;·first|trivial|omega|(simp;done)|(simp;omega));show ∃ z,_;refine q_l ?_;first|exact ED hC hi hb1 hb2|exact zx hC hi hb1 hb2
    ·(intro hb1;(try simp only[bf] at hb1);refine bh ?_;refine aE ?_;refine az ?_;refine ay ?_;refine aL ?_;refine aj ?_;refine ah hG ?_ ?_;·first|trivial|omega|(simp;done)|(simp;omega));show ∃ z,_;refine q_l ?_;exact Kj hC hk hb0 hi hb1
  ·intro hb0;(try simp only[bf] at hb0);refine bh ?_;refine aE ?_;refine az ?_;refine ay ?_;refine aj ?_;refine ak ?_;refine s_g hG ?_;refine ao ?_ ?_;·intro hb3;(try simp only[bt] at hb3);refine s_g hG ?_;refine av ?_;refine aw ?_;refine q_e [] ?_;rw[pW hC hk hb0] at hb3;unfold c9;rw[if_pos hb3]
   ·intro hb3;(try simp only[bf] at hb3);refine aq ?_;refine aj ?_;refine ak ?_;refine s_g hG ?_;refine ao ?_ ?_
    ·intro hb4;(try simp only[bt] at hb4);refine s_q hG ?_ ?_
     ·(try simp only[ba]);rw[pW hC hk hb0];have:=zw hC;(have h2:1000<=maxLen:=by decide);omega
     refine av ?_;refine aw ?_;refine q_e [] ?_;rw[pW hC hk hb0] at hb3 ⊢;unfold c9;rw[if_neg hb3,if_pos hb4]
    ·intro hb4;(try simp only[bf] at hb4);refine aq ?_;refine aj ?_;refine s_g hG ?_;refine av ?_;refine q_e [] ?_;rw[pW hC hk hb0] at hb3 ⊢;unfold c9;rw[if_neg hb3,if_neg (by rw[hb4];decide)]
def sd(B:ag):Tab:={types:= [(3,(.int .i64)),(5,(.int .u8)),(22,(.slice .str)),(23,(.slice (.int .i8))),(25,(.st (.pair (.slice (.int .i8)) (.pair (.int .u8) (.slice (.int .i8)))))),(71,(.int .i8))],elems:= [(22,46)],cons:= [(22,yB),(64,jt),(85,OH)],hint:= [],N:=59,base:=B}
theorem B4{B:ag}(hB:aB B):aG Tryz.prog (sd B):=⟨⟨tc ty3 (tc ty5 (tc gB (tc QQ (tc Qe (tc QR (ae)))))),aR (by kernel_rfl) (af),by simp only[sd,ioB];omega⟩,aD (cc Tryz.func22 (I6 hB) (cc Tryz.func64 (ko hB) (cc Tryz.func85 (Ij hB) (au)))),by kernel_rfl⟩
def se:Con:=fun l os=>match l,os with
 | [.z (.st (.pair (.slice (.int .i8)) (.pair (.int .u8) (.slice (.int .i8))))) d], []=>some (ll d, [.z (.slice .str) (txP (uB d))], [])
 |_,_=>none
theorem I7{B:ag}(hB:aB B):Valid B Tryz.prog 40 se:=by
 refine ab (B4 hB).tab Tryz.func40 rfl rfl rfl ?_;intro args os C rs os' hc hC;unfold se at hc;split at hc;case h_2=>cases hc
 rename_i d;cases hc;refine v_h (B4 hB) fun X hP hT hr hG=> ?_;have hU:=sd.eq_1;unfold sd at hT;have hX:=ai @yB.eq_1<|ai @OH.eq_1<| @jt.eq_1;simp only[Tryz.f40,aC,al,ioB];have hD:=hC;refine s_g hG ?_;refine s_g hG ?_;refine ak ?_;refine s_g hG ?_;refine ax ?_;refine br (fun(z:Nat)=>(⟨[(1, .l (.z (.ptr (.st (.pair (.slice (.int .i8)) (.pair (.int .u8) (.slice (.int .i8)))))) d)),(2, .l (.val (.slice none 0 0))),(3, .l (.ownS 32)),(4, .l (.z (.int .i64) (z:Int)))], [(32, .arr .str 46 (txP (iH d z)))]⟩:aa)) (fun z=>z<=d.1.length/\z<=5) (fun z=>5-z) 0 ?_ ?_ ?_;·refine q_l ?_;exact⟨rfl,by unfold ioB;omega,rfl⟩
 ·omega
 ·rintro k g1;try dsimp only at g1
  refine ak ?_;refine s_g hG ?_;refine ao ?_ ?_
  ·intro hb0;have hk:=O8 (n:=5) hb0;refine aq ?_;refine aj ?_;refine ak ?_;refine ax ?_;refine yt 32 44 (by simp only[aa.toRow,LV.toRow,ioB,mx0,mx1,mx2,mx3,mx4,mx5,mx6,Nat.reduceLT,Nat.reduceEqDiff,Nat.reduceAdd,Nat.reduceMul,Nat.reduceSub,Nat.reduceLeDiff,Nat.reduceBEq,Nat.reduceBNe,reduceIte,reduceDIte,reduceCtorEq];rfl) ?_;refine gI hG ?_ ?_
   ·(try simp only[ba]);exact Ic hD hk
   (refine aL ?_;refine aj ?_;refine qS 32 1 (by simp only[aa.ofRow,LV.ofRow,ioB,List.set_cons_zero,List.set_cons_succ,List.append_nil,List.nil_append,List.cons_append,List.getElem?_cons_zero,List.getElem?_cons_succ,Option.getD_some,mx0,mx1,mx2,mx3,mx4,mx5,mx6,Nat.reduceLT,Nat.reduceEqDiff,Nat.reduceAdd,Nat.reduceMul,Nat.reduceSub,Nat.reduceLeDiff,Nat.reduceBEq,Nat.reduceBNe,reduceIte,reduceDIte,reduceCtorEq];rfl) ?_;refine ah hG ?_ ?_;·first|trivial|omega|(simp;done)|(simp;omega));show ∃ z,_;refine q_l ?_;exact Ie hD hk
  ·intro hb0;have hk:=O9 (n:=5) hb0;refine bh ?_;refine aE ?_;refine az ?_;refine ay ?_;refine aj ?_;refine s_q hG ?_ ?_
   ·(try simp only[ba]);exact⟨(Fg hD k).1,P1 (Fg hD k).2 g1⟩
   (refine ak ?_;refine s_g hG ?_;refine ax ?_;refine br (fun(z:Nat)=>(⟨[(1, .l (.z (.ptr (.st (.pair (.slice (.int .i8)) (.pair (.int .u8) (.slice (.int .i8)))))) d)),(2, .l (.val (.slice none 0 0))),(3, .l (.z (.slice .str) (txP (me d z)))),(5, .l (.z (.int .i64) (z:Int)))], []⟩:aa)) (fun z=>z<=d.2.2.length/\z<=4) (fun z=>4-z) 0 ?_ ?_ ?_;·refine q_l ?_;exact⟨P4 hk g1,rfl⟩);·omega
   ·rintro k2 g2;(try dsimp only at g2);refine ak ?_;refine s_g hG ?_;refine ao ?_ ?_
    ·intro hb1;have hk2:=O8 (n:=4) hb1;refine aq ?_;refine aj ?_;refine ak ?_;refine ax ?_;refine ah hG ?_ ?_
     ·(try simp only[ba]);exact Ia hD hk2
     (refine aL ?_;refine aj ?_;refine ah hG ?_ ?_;·first|trivial|omega|(simp;done)|(simp;omega));show ∃ z,_;refine q_l ?_;exact Ib hD hk2
    ·intro hb1;have hk2:=O9 (n:=4) hb1;refine bh ?_;refine aE ?_;refine az ?_;refine ay ?_;refine aj ?_;refine s_g hG ?_;refine av ?_;refine q_e [] ?_;exact P3 hk2 g2
def sf(B:ag):Tab:={types:= [(9, .str),(49,(.st (.pair .bool (.pair (.slice (.int .u8)) (.int .u8))))),(51,(.st (.pair (.st (.pair .bool (.pair (.slice (.int .u8)) (.int .u8)))) (.st (.pair .bool (.pair (.slice (.int .u8)) (.int .u8)))))))],elems:= [],cons:= [(116,jo),(127,yC)],hint:= [],N:=17,base:=B}
theorem B5{B:ag}(hB:aB B):aG Tryz.prog (sf B):=⟨⟨tc ty9 (tc Qf (tc Ps (ae))),af,by simp only[sf,ioB];omega⟩,aD (cc Tryz.func116 (lZ hB) (cc Tryz.func127 (P7 hB) (au))),by kernel_rfl⟩
def sg:Con:=fun l os=>match l,os with
 | [.z (.st (.pair (.st (.pair .bool (.pair (.slice (.int .u8)) (.int .u8)))) (.st (.pair .bool (.pair (.slice (.int .u8)) (.int .u8)))))) d], []=>some (Aw d, [.z .str (aS (dqv d))], [])
 |_,_=>none
theorem I9{B:ag}(hB:aB B):Valid B Tryz.prog 86 sg:=by
 refine ab (B5 hB).tab Tryz.func86 rfl rfl rfl ?_;intro args os C rs os' hc hC;unfold sg at hc;split at hc;case h_2=>cases hc
 rename_i d;cases hc;refine v_h (B5 hB) fun X hP hT hr hG=> ?_;have hU:=sf.eq_1;unfold sf at hT;have hX:=ai @yC.eq_1<| @jo.eq_1;simp only[Tryz.f86,aC,al,ioB];refine s_g hG ?_;refine ak ?_;refine s_q hG ?_ ?_
 ·try simp only[ba]
  exact hC.2
 refine ao ?_ ?_
 ·intro hb0;try simp only[bt] at hb0
  refine s_q hG ?_ ?_
  ·(try simp only[ba]);exact hC.1
  refine av ?_;refine aw ?_;refine q_e [] ?_;exact Of hC hb0
 ·intro hb0;try simp only[bf] at hb0
  refine aq ?_;refine aj ?_;refine s_d hG ?_ ?_
  ·(try simp only[ba]);exact⟨hC.1,hC.2,(Fi hC hb0).1⟩
  refine av ?_;refine q_e [] ?_;exact(Fi hC hb0).2
def si(B:ag):Tab:={types:= [(3,(.int .i64)),(46, .str),(51,(.st (.pair (.st (.pair .bool (.pair (.slice (.int .u8)) (.int .u8)))) (.st (.pair .bool (.pair (.slice (.int .u8)) (.int .u8)))))))],elems:= [],cons:= [(39,yn),(86,sg)],hint:= [],N:=9,base:=B}
theorem B6{B:ag}(hB:aB B):aG Tryz.prog (si B):=⟨⟨tc ty3 (tc gr (tc Ps (ae))),af,by simp only[si,ioB];omega⟩,aD (cc Tryz.func39 (Ii hB) (cc Tryz.func86 (I9 hB) (au))),by kernel_rfl⟩
def sj:Con:=fun l os=>match l,os with
 | [.z (.st (.pair (.st (.pair .bool (.pair (.slice (.int .u8)) (.int .u8)))) (.st (.pair .bool (.pair (.slice (.int .u8)) (.int .u8)))))) d], []=>some (Aw d, [.z .str (aS (lp d))], [])
 |_,_=>none
theorem Ja{B:ag}(hB:aB B):Valid B Tryz.prog 35 sj:=by
 refine ab (B6 hB).tab Tryz.func35 rfl rfl rfl ?_;intro args os C rs os' hc hC;unfold sj at hc;split at hc;case h_2=>cases hc
 rename_i d;cases hc;refine v_h (B6 hB) fun X hP hT hr hG=> ?_;have hU:=si.eq_1;unfold si at hT;have hX:=ai @sg.eq_1<| @yn.eq_1;simp only[Tryz.f35,aC,al,ioB];refine s_g hG ?_;refine ak ?_;refine s_q hG ?_ ?_
 ·try simp only[ba]
  exact hC
 refine s_q hG ?_ ?_
 ·try simp only[ba]
  exact DM hC
 refine ao ?_ ?_
 ·intro hb0;try simp only[bt] at hb0
  refine s_g hG ?_;refine av ?_;refine aw ?_;refine q_e [] ?_;exact Og hb0
 ·intro hb0;try simp only[bf] at hb0
  refine aq ?_;refine aj ?_;refine s_g hG ?_;refine av ?_;refine q_e [] ?_;exact Oh hb0
def sk(B:ag):Tab:={types:= [(84, .func),(91,(.st (.pair (.st (.pair .bool (.slice (.int .u32)))) (.st (.pair .bool (.slice (.int .u32)))))))],elems:= [],cons:= [(58,kA),(143,lE)],hint:= [],N:=14,base:=B}
theorem B7{B:ag}(hB:aB B):aG Tryz.prog (sk B):=⟨⟨tc pQ (tc ty91 (ae)),af,by simp only[sk,ioB];omega⟩,aD (cc Tryz.func58 (jQ hB) (cc Tryz.func143 (oP hB) (au))),by kernel_rfl⟩
def Gx:Con:=fun l os=>match l,os with
 | [.z (.st (.pair (.st (.pair .bool (.slice (.int .u32)))) (.st (.pair .bool (.slice (.int .u32)))))) x, .z (.st (.pair (.st (.pair .bool (.slice (.int .u32)))) (.st (.pair .bool (.slice (.int .u32)))))) y, .ownP 10000000 0], [.box 84 [.val (.func (.func g) fs cs)]]=>some ((g=58/\fs.size=0/\cs.size=0)/\eO x y/\lq (bc x)+lq (bc y)<QC, [.z .str (iA (bc x+bc y)), .z (.int .i64) (eV (bc x+bc y))], [.box 84 [.val (.func (.func g) fs cs)]])
 |_,_=>none
theorem Jb{B:ag}(hB:aB B):Valid B Tryz.prog 146 Gx:=by
 refine ab (B7 hB).tab Tryz.func146 rfl rfl rfl ?_;intro args os C rs os' hc hC;unfold Gx at hc;split at hc;case h_2=>cases hc
 rename_i x y g fs cs;cases hc;refine v_h (B7 hB) fun X hP hT hr hG=> ?_;have hU:=sk.eq_1;unfold sk at hT;have hX:=ai @kA.eq_1<| @lE.eq_1;simp only[Tryz.f146,aC,al,ioB];obtain⟨⟨rfl,e1,e2⟩,hC⟩:=hC;obtain rfl:=Array.eq_empty_of_size_eq_zero e1;obtain rfl:=Array.eq_empty_of_size_eq_zero e2;refine s_g hG ?_;refine s_q hG ?_ ?_
 ·try simp only[ba]
  exact uy (f:=(· + ·)) mM hC
 refine av ?_;refine q_e [] ?_;simp only[aH,and_self]
def sl(B:ag):Tab:={types:= [(31,(.int .i64)),(46, .str),(91,(.st (.pair (.st (.pair .bool (.slice (.int .u32)))) (.st (.pair .bool (.slice (.int .u32))))))),(151,(.st (.pair (.st (.pair (.st (.pair .bool (.slice (.int .u32)))) (.st (.pair .bool (.slice (.int .u32)))))) (.int .i64))))],elems:= [],cons:= [(128,jq),(146,Gx)],hint:= [],N:=35,base:=B}
theorem B8{B:ag}(hB:aB B):aG Tryz.prog (sl B):=⟨⟨tc jF (tc gr (tc ty91 (tc zD (ae)))),af,by simp only[sl,ioB];omega⟩,aD (cc Tryz.func128 (l7 hB) (cc Tryz.func146 (Jb hB) (au))),by kernel_rfl⟩
def Gy:Con:=fun l os=>match l,os with
 | [.z .str a, .z .str b, .fn 146 [.p 10000000]], [.box 84 [.val (.func (.func g) fs cs)]]=>some ((g=58/\fs.size=0/\cs.size=0)/\a.length<=QL/\b.length<=QL, [.z .str (apS a b (bg a+bg b)), .z (.int .i64) (apE a b (bg a+bg b))], [.box 84 [.val (.func (.func g) fs cs)]])
 |_,_=>none
theorem Jc{B:ag}(hB:aB B):Valid B Tryz.prog 145 Gy:=by
 refine ab (B8 hB).tab Tryz.func145 rfl rfl rfl ?_;intro args os C rs os' hc hC;unfold Gy at hc;split at hc;case h_2=>cases hc
 rename_i a b g fs cs;cases hc;refine v_h (B8 hB) fun X hP hT hr hG=> ?_;have hU:=sl.eq_1;unfold sl at hT;have hX:=ai @Gx.eq_1<| @jq.eq_1;simp only[Tryz.f145,aC,al,ioB];obtain⟨⟨rfl,e1,e2⟩,hC⟩:=hC;obtain rfl:=Array.eq_empty_of_size_eq_zero e1;obtain rfl:=Array.eq_empty_of_size_eq_zero e2;refine s_g hG ?_;refine s_g hG ?_;refine s_q hG ?_ ?_
 ·try simp only[ba]
  exact hC
 refine ak ?_;refine s_g hG ?_;refine ao ?_ ?_
 ·intro hb0;try simp only[bt] at hb0
  refine s_d hG ?_ ?_;·first|trivial|omega|(simp;done)|(simp;omega)
  refine av ?_;refine aw ?_;refine q_e [] ?_;exact xP hb0
 ·intro hb0;try simp only[bf] at hb0
  refine aq ?_;refine aj ?_;refine ak ?_;refine s_g hG ?_;refine ao ?_ ?_
  ·(intro hb1;(try simp only[bt] at hb1);refine s_d hG ?_ ?_;·first|trivial|omega|(simp;done)|(simp;omega));refine av ?_;refine aw ?_;refine q_e [] ?_;exact xQ hb0 hb1
  ·intro hb1;(try simp only[bf] at hb1);refine aq ?_;refine aj ?_;refine s_q hG ?_ ?_
   ·(try simp only[ba]);exact xR hb0 hb1 hC
   refine av ?_;refine q_e [] ?_;simp only[pe2,gF hb0,gF hb1,aH];exact LF hb0 hb1
def sn(B:ag):Tab:={types:= [(46, .str),(84, .func)],elems:= [],cons:= [(145,Gy)],hint:= [5],N:=14,base:=B}
theorem B9{B:ag}(hB:aB B):aG Tryz.prog (sn B):=⟨⟨tc gr (tc pQ (ae)),af,by simp only[sn,ioB];omega⟩,aD (cc Tryz.func145 (Jc hB) (au)),by kernel_rfl⟩
def OT:Con:=fun l os=>match l,os with
 | [.z .str a, .z .str b, .val (.func (.func g) fs cs)], []=>some ((g=58/\fs.size=0/\cs.size=0)/\a.length<=QL/\b.length<=QL, [.z .str (apS a b (bg a+bg b)), .z (.int .i64) (apE a b (bg a+bg b))], [])
 |_,_=>none
theorem Jd{B:ag}(hB:aB B):Valid B Tryz.prog 104 OT:=by
 refine ab (B9 hB).tab Tryz.func104 rfl rfl rfl ?_;intro args os C rs os' hc hC;unfold OT at hc;split at hc;case h_2=>cases hc
 rename_i a b g fs cs;cases hc;refine v_h (B9 hB) fun X hP hT hr hG=> ?_;have hU:=sn.eq_1;unfold sn at hT;have hX:= @Gy.eq_1;simp only[Tryz.f104,aC,al,ioB];obtain⟨⟨rfl,e1,e2⟩,hC⟩:=hC;obtain rfl:=Array.eq_empty_of_size_eq_zero e1;obtain rfl:=Array.eq_empty_of_size_eq_zero e2;refine s_g hG ?_;refine s_q hG ?_ ?_
 ·try simp only[ba]
  exact hC
 refine av ?_;refine q_e [] ?_;trivial
def so(B:ag):Tab:={types:= [(46, .str),(84, .func)],elems:= [],cons:= [(104,OT)],hint:= [],N:=11,base:=B}
theorem Ca{B:ag}(hB:aB B):aG Tryz.prog (so B):=⟨⟨tc gr (tc pQ (ae)),af,by simp only[so,ioB];omega⟩,aD (cc Tryz.func104 (Jd hB) (au)),by kernel_rfl⟩
def OU:Con:=fun l os=>match l,os with
 | [.z .str a, .z .str b], []=>some (a.length<=QL/\b.length<=QL, [.z .str (apS a b (bg a+bg b)), .z (.int .i64) (apE a b (bg a+bg b))], [])
 |_,_=>none
theorem Je{B:ag}(hB:aB B):Valid B Tryz.prog 49 OU:=by
 refine ab (Ca hB).tab Tryz.func49 rfl rfl rfl ?_;intro args os C rs os' hc hC;unfold OU at hc;split at hc;case h_2=>cases hc
 rename_i a b;cases hc;refine v_h (Ca hB) fun X hP hT hr hG=> ?_;have hU:=so.eq_1;unfold so at hT;have hX:= @OT.eq_1;simp only[Tryz.f49,aC,al,ioB];refine s_g hG ?_;refine s_q hG ?_ ?_
 ·try simp only[ba]
  exact hC
 refine av ?_;refine q_e [] ?_;trivial
def sr(B:ag):Tab:={types:= [(84, .func),(91,(.st (.pair (.st (.pair .bool (.slice (.int .u32)))) (.st (.pair .bool (.slice (.int .u32)))))))],elems:= [],cons:= [(60,eS),(143,lE)],hint:= [],N:=14,base:=B}
theorem Cb{B:ag}(hB:aB B):aG Tryz.prog (sr B):=⟨⟨tc pQ (tc ty91 (ae)),af,by simp only[sr,ioB];omega⟩,aD (cc Tryz.func60 (oK hB) (cc Tryz.func143 (oP hB) (au))),by kernel_rfl⟩
def Gz:Con:=fun l os=>match l,os with
 | [.z (.st (.pair (.st (.pair .bool (.slice (.int .u32)))) (.st (.pair .bool (.slice (.int .u32)))))) x, .z (.st (.pair (.st (.pair .bool (.slice (.int .u32)))) (.st (.pair .bool (.slice (.int .u32)))))) y, .ownP 10000000 0], [.box 84 [.val (.func (.func g) fs cs)]]=>some ((g=60/\fs.size=0/\cs.size=0)/\eO x y/\lq (bc x)+lq (bc y)<QC, [.z .str (iA (bc x-bc y)), .z (.int .i64) (eV (bc x-bc y))], [.box 84 [.val (.func (.func g) fs cs)]])
 |_,_=>none
theorem Jf{B:ag}(hB:aB B):Valid B Tryz.prog 146 Gz:=by
 refine ab (Cb hB).tab Tryz.func146 rfl rfl rfl ?_;intro args os C rs os' hc hC;unfold Gz at hc;split at hc;case h_2=>cases hc
 rename_i x y g fs cs;cases hc;refine v_h (Cb hB) fun X hP hT hr hG=> ?_;have hU:=sr.eq_1;unfold sr at hT;have hX:=ai @eS.eq_1<| @lE.eq_1;simp only[Tryz.f146,aC,al,ioB];obtain⟨⟨rfl,e1,e2⟩,hC⟩:=hC;obtain rfl:=Array.eq_empty_of_size_eq_zero e1;obtain rfl:=Array.eq_empty_of_size_eq_zero e2;refine s_g hG ?_;refine s_q hG ?_ ?_
 ·try simp only[ba]
  exact uy (f:=(· - ·)) KD hC
 refine av ?_;refine q_e [] ?_;simp only[aH,and_self]
def su(B:ag):Tab:={types:= [(31,(.int .i64)),(46, .str),(91,(.st (.pair (.st (.pair .bool (.slice (.int .u32)))) (.st (.pair .bool (.slice (.int .u32))))))),(151,(.st (.pair (.st (.pair (.st (.pair .bool (.slice (.int .u32)))) (.st (.pair .bool (.slice (.int .u32)))))) (.int .i64))))],elems:= [],cons:= [(128,jq),(146,Gz)],hint:= [],N:=35,base:=B}
theorem Cc{B:ag}(hB:aB B):aG Tryz.prog (su B):=⟨⟨tc jF (tc gr (tc ty91 (tc zD (ae)))),af,by simp only[su,ioB];omega⟩,aD (cc Tryz.func128 (l7 hB) (cc Tryz.func146 (Jf hB) (au))),by kernel_rfl⟩
def GA:Con:=fun l os=>match l,os with
 | [.z .str a, .z .str b, .fn 146 [.p 10000000]], [.box 84 [.val (.func (.func g) fs cs)]]=>some ((g=60/\fs.size=0/\cs.size=0)/\a.length<=QL/\b.length<=QL, [.z .str (apS a b (bg a-bg b)), .z (.int .i64) (apE a b (bg a-bg b))], [.box 84 [.val (.func (.func g) fs cs)]])
 |_,_=>none
theorem Jg{B:ag}(hB:aB B):Valid B Tryz.prog 145 GA:=by
 refine ab (Cc hB).tab Tryz.func145 rfl rfl rfl ?_;intro args os C rs os' hc hC;unfold GA at hc;split at hc;case h_2=>cases hc
 rename_i a b g fs cs;cases hc;refine v_h (Cc hB) fun X hP hT hr hG=> ?_;have hU:=su.eq_1;unfold su at hT;have hX:=ai @Gz.eq_1<| @jq.eq_1;simp only[Tryz.f145,aC,al,ioB];obtain⟨⟨rfl,e1,e2⟩,hC⟩:=hC;obtain rfl:=Array.eq_empty_of_size_eq_zero e1;obtain rfl:=Array.eq_empty_of_size_eq_zero e2;refine s_g hG ?_;refine s_g hG ?_;refine s_q hG ?_ ?_
 ·try simp only[ba]
  exact hC
 refine ak ?_;refine s_g hG ?_;refine ao ?_ ?_
 ·intro hb0;try simp only[bt] at hb0
  refine s_d hG ?_ ?_;·first|trivial|omega|(simp;done)|(simp;omega)
  refine av ?_;refine aw ?_;refine q_e [] ?_;exact xP hb0
 ·intro hb0;try simp only[bf] at hb0
  refine aq ?_;refine aj ?_;refine ak ?_;refine s_g hG ?_;refine ao ?_ ?_
  ·(intro hb1;(try simp only[bt] at hb1);refine s_d hG ?_ ?_;·first|trivial|omega|(simp;done)|(simp;omega));refine av ?_;refine aw ?_;refine q_e [] ?_;exact xQ hb0 hb1
  ·intro hb1;(try simp only[bf] at hb1);refine aq ?_;refine aj ?_;refine s_q hG ?_ ?_
   ·(try simp only[ba]);exact xR hb0 hb1 hC
   refine av ?_;refine q_e [] ?_;simp only[pe2,gF hb0,gF hb1,aH];exact LF hb0 hb1
def sv(B:ag):Tab:={types:= [(46, .str),(84, .func)],elems:= [],cons:= [(145,GA)],hint:= [5],N:=14,base:=B}
theorem Cd{B:ag}(hB:aB B):aG Tryz.prog (sv B):=⟨⟨tc gr (tc pQ (ae)),af,by simp only[sv,ioB];omega⟩,aD (cc Tryz.func145 (Jg hB) (au)),by kernel_rfl⟩
def OV:Con:=fun l os=>match l,os with
 | [.z .str a, .z .str b, .val (.func (.func g) fs cs)], []=>some ((g=60/\fs.size=0/\cs.size=0)/\a.length<=QL/\b.length<=QL, [.z .str (apS a b (bg a-bg b)), .z (.int .i64) (apE a b (bg a-bg b))], [])
 |_,_=>none
theorem Jh{B:ag}(hB:aB B):Valid B Tryz.prog 104 OV:=by
 refine ab (Cd hB).tab Tryz.func104 rfl rfl rfl ?_;intro args os C rs os' hc hC;unfold OV at hc;split at hc;case h_2=>cases hc
 rename_i a b g fs cs;cases hc;refine v_h (Cd hB) fun X hP hT hr hG=> ?_;have hU:=sv.eq_1;unfold sv at hT;have hX:= @GA.eq_1;simp only[Tryz.f104,aC,al,ioB];obtain⟨⟨rfl,e1,e2⟩,hC⟩:=hC;obtain rfl:=Array.eq_empty_of_size_eq_zero e1;obtain rfl:=Array.eq_empty_of_size_eq_zero e2;refine s_g hG ?_;refine s_q hG ?_ ?_
 ·try simp only[ba]
  exact hC
 refine av ?_;refine q_e [] ?_;trivial
def sw(B:ag):Tab:={types:= [(46, .str),(84, .func)],elems:= [],cons:= [(104,OV)],hint:= [],N:=11,base:=B}
theorem Ce{B:ag}(hB:aB B):aG Tryz.prog (sw B):=⟨⟨tc gr (tc pQ (ae)),af,by simp only[sw,ioB];omega⟩,aD (cc Tryz.func104 (Jh hB) (au)),by kernel_rfl⟩
def OW:Con:=fun l os=>match l,os with
 | [.z .str a, .z .str b], []=>some (a.length<=QL/\b.length<=QL, [.z .str (apS a b (bg a-bg b)), .z (.int .i64) (apE a b (bg a-bg b))], [])
 |_,_=>none
theorem Ji{B:ag}(hB:aB B):Valid B Tryz.prog 50 OW:=by
 refine ab (Ce hB).tab Tryz.func50 rfl rfl rfl ?_;intro args os C rs os' hc hC;unfold OW at hc;split at hc;case h_2=>cases hc
 rename_i a b;cases hc;refine v_h (Ce hB) fun X hP hT hr hG=> ?_;have hU:=sw.eq_1;unfold sw at hT;have hX:= @OV.eq_1;simp only[Tryz.f50,aC,al,ioB];refine s_g hG ?_;refine s_q hG ?_ ?_
 ·try simp only[ba]
  exact hC
 refine av ?_;refine q_e [] ?_;trivial
def sA(B:ag):Tab:={types:= [(84, .func),(91,(.st (.pair (.st (.pair .bool (.slice (.int .u32)))) (.st (.pair .bool (.slice (.int .u32)))))))],elems:= [],cons:= [(105,dF),(143,lE)],hint:= [],N:=14,base:=B}
theorem Cf{B:ag}(hB:aB B):aG Tryz.prog (sA B):=⟨⟨tc pQ (tc ty91 (ae)),af,by simp only[sA,ioB];omega⟩,aD (cc Tryz.func105 (jR hB) (cc Tryz.func143 (oP hB) (au))),by kernel_rfl⟩
def GB:Con:=fun l os=>match l,os with
 | [.z (.st (.pair (.st (.pair .bool (.slice (.int .u32)))) (.st (.pair .bool (.slice (.int .u32)))))) x, .z (.st (.pair (.st (.pair .bool (.slice (.int .u32)))) (.st (.pair .bool (.slice (.int .u32)))))) y, .ownP 10000000 0], [.box 84 [.val (.func (.func g) fs cs)]]=>some ((g=105/\fs.size=0/\cs.size=0)/\eO x y/\lq (bc x)+lq (bc y)<QC, [.z .str (iA (bc x*bc y)), .z (.int .i64) (eV (bc x*bc y))], [.box 84 [.val (.func (.func g) fs cs)]])
 |_,_=>none
theorem Jj{B:ag}(hB:aB B):Valid B Tryz.prog 146 GB:=by
 refine ab (Cf hB).tab Tryz.func146 rfl rfl rfl ?_;intro args os C rs os' hc hC;unfold GB at hc;split at hc;case h_2=>cases hc
 rename_i x y g fs cs;cases hc;refine v_h (Cf hB) fun X hP hT hr hG=> ?_;have hU:=sA.eq_1;unfold sA at hT;have hX:=ai @dF.eq_1<| @lE.eq_1;simp only[Tryz.f146,aC,al,ioB];obtain⟨⟨rfl,e1,e2⟩,hC⟩:=hC;obtain rfl:=Array.eq_empty_of_size_eq_zero e1;obtain rfl:=Array.eq_empty_of_size_eq_zero e2;refine s_g hG ?_;refine s_q hG ?_ ?_
 ·try simp only[ba]
  exact uy (f:=(· * ·)) N4 hC
 refine av ?_;refine q_e [] ?_;simp only[aH,and_self]
def sB(B:ag):Tab:={types:= [(31,(.int .i64)),(46, .str),(91,(.st (.pair (.st (.pair .bool (.slice (.int .u32)))) (.st (.pair .bool (.slice (.int .u32))))))),(151,(.st (.pair (.st (.pair (.st (.pair .bool (.slice (.int .u32)))) (.st (.pair .bool (.slice (.int .u32)))))) (.int .i64))))],elems:= [],cons:= [(128,jq),(146,GB)],hint:= [],N:=35,base:=B}
theorem Cg{B:ag}(hB:aB B):aG Tryz.prog (sB B):=⟨⟨tc jF (tc gr (tc ty91 (tc zD (ae)))),af,by simp only[sB,ioB];omega⟩,aD (cc Tryz.func128 (l7 hB) (cc Tryz.func146 (Jj hB) (au))),by kernel_rfl⟩
def GC:Con:=fun l os=>match l,os with
 | [.z .str a, .z .str b, .fn 146 [.p 10000000]], [.box 84 [.val (.func (.func g) fs cs)]]=>some ((g=105/\fs.size=0/\cs.size=0)/\a.length<=QL/\b.length<=QL, [.z .str (apS a b (bg a*bg b)), .z (.int .i64) (apE a b (bg a*bg b))], [.box 84 [.val (.func (.func g) fs cs)]])
 |_,_=>none
theorem Jk{B:ag}(hB:aB B):Valid B Tryz.prog 145 GC:=by
 refine ab (Cg hB).tab Tryz.func145 rfl rfl rfl ?_;intro args os C rs os' hc hC;unfold GC at hc;split at hc;case h_2=>cases hc
 rename_i a b g fs cs;cases hc;refine v_h (Cg hB) fun X hP hT hr hG=> ?_;have hU:=sB.eq_1;unfold sB at hT;have hX:=ai @GB.eq_1<| @jq.eq_1;simp only[Tryz.f145,aC,al,ioB];obtain⟨⟨rfl,e1,e2⟩,hC⟩:=hC;obtain rfl:=Array.eq_empty_of_size_eq_zero e1;obtain rfl:=Array.eq_empty_of_size_eq_zero e2;refine s_g hG ?_;refine s_g hG ?_;refine s_q hG ?_ ?_
 ·try simp only[ba]
  exact hC
 refine ak ?_;refine s_g hG ?_;refine ao ?_ ?_
 ·intro hb0;try simp only[bt] at hb0
  refine s_d hG ?_ ?_;·first|trivial|omega|(simp;done)|(simp;omega)
  refine av ?_;refine aw ?_;refine q_e [] ?_;exact xP hb0
 ·intro hb0;try simp only[bf] at hb0
  refine aq ?_;refine aj ?_;refine ak ?_;refine s_g hG ?_;refine ao ?_ ?_
  ·(intro hb1;(try simp only[bt] at hb1);refine s_d hG ?_ ?_;·first|trivial|omega|(simp;done)|(simp;omega));refine av ?_;refine aw ?_;refine q_e [] ?_;exact xQ hb0 hb1
  ·intro hb1;(try simp only[bf] at hb1);refine aq ?_;refine aj ?_;refine s_q hG ?_ ?_
   ·(try simp only[ba]);exact xR hb0 hb1 hC
   refine av ?_;refine q_e [] ?_;simp only[pe2,gF hb0,gF hb1,aH];exact LF hb0 hb1
def sC(B:ag):Tab:={types:= [(46, .str),(84, .func)],elems:= [],cons:= [(145,GC)],hint:= [5],N:=14,base:=B}
theorem Ch{B:ag}(hB:aB B):aG Tryz.prog (sC B):=⟨⟨tc gr (tc pQ (ae)),af,by simp only[sC,ioB];omega⟩,aD (cc Tryz.func145 (Jk hB) (au)),by kernel_rfl⟩
def OX:Con:=fun l os=>match l,os with
 | [.z .str a, .z .str b, .val (.func (.func g) fs cs)], []=>some ((g=105/\fs.size=0/\cs.size=0)/\a.length<=QL/\b.length<=QL, [.z .str (apS a b (bg a*bg b)), .z (.int .i64) (apE a b (bg a*bg b))], [])
 |_,_=>none
theorem Jl{B:ag}(hB:aB B):Valid B Tryz.prog 104 OX:=by
 refine ab (Ch hB).tab Tryz.func104 rfl rfl rfl ?_;intro args os C rs os' hc hC;unfold OX at hc;split at hc;case h_2=>cases hc
 rename_i a b g fs cs;cases hc;refine v_h (Ch hB) fun X hP hT hr hG=> ?_;have hU:=sC.eq_1;unfold sC at hT;have hX:= @GC.eq_1;simp only[Tryz.f104,aC,al,ioB];obtain⟨⟨rfl,e1,e2⟩,hC⟩:=hC;obtain rfl:=Array.eq_empty_of_size_eq_zero e1;obtain rfl:=Array.eq_empty_of_size_eq_zero e2;refine s_g hG ?_;refine s_q hG ?_ ?_
 ·try simp only[ba]
  exact hC
 refine av ?_;refine q_e [] ?_;trivial
def sD(B:ag):Tab:={types:= [(46, .str),(84, .func)],elems:= [],cons:= [(104,OX)],hint:= [],N:=11,base:=B}
theorem Ci{B:ag}(hB:aB B):aG Tryz.prog (sD B):=⟨⟨tc gr (tc pQ (ae)),af,by simp only[sD,ioB];omega⟩,aD (cc Tryz.func104 (Jl hB) (au)),by kernel_rfl⟩
def OY:Con:=fun l os=>match l,os with
 | [.z .str a, .z .str b], []=>some (a.length<=QL/\b.length<=QL, [.z .str (apS a b (bg a*bg b)), .z (.int .i64) (apE a b (bg a*bg b))], [])
 |_,_=>none
theorem Jm{B:ag}(hB:aB B):Valid B Tryz.prog 51 OY:=by
 refine ab (Ci hB).tab Tryz.func51 rfl rfl rfl ?_;intro args os C rs os' hc hC;unfold OY at hc;split at hc;case h_2=>cases hc
 rename_i a b;cases hc;refine v_h (Ci hB) fun X hP hT hr hG=> ?_;have hU:=sD.eq_1;unfold sD at hT;have hX:= @OX.eq_1;simp only[Tryz.f51,aC,al,ioB];refine s_g hG ?_;refine s_q hG ?_ ?_
 ·try simp only[ba]
  exact hC
 refine av ?_;refine q_e [] ?_;trivial
end Go.Proofs.YtdojbabpnaifoaaGreatDoor
end