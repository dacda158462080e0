/- Merged by a program out of several texts. -/
import Derived.Test.YtdojbabpnaifoaaGreatDoorU3
import Derived.Test.YtdojbabpnaifoaaGreatDoorU2
import Derived.Test.YtdojbabpnaifoaaGreatDoorProg
import Derived.Test.YtdojbabpnaifoaaGreatDoorU4
import Derived.Deep.LoopGhost
import Derived.Lib.Walk
import Derived.Lib.SliceRun
import Derived.KernelRfl
set_option linter.all false
set_option linter.unusedSimpArgs false
set_option linter.unusedVariables false
set_option maxRecDepth 100000
section
namespace Go.Proofs.YtdojbabpnaifoaaGreatDoor
open Go Go.Cm Go.Proofs
def qg(B:ag):Tab:={types:= [(3,(.int .i64)),(5,(.int .u8)),(9, .str)],elems:= [],cons:= [],hint:= [],N:=24,base:=B}
theorem AD{B:ag}(hB:aB B):aG Tryz.prog (qg B):=⟨⟨tc ty3 (tc ty5 (tc ty9 (ae))),af,by simp only[qg,ioB];omega⟩,bH rfl,by kernel_rfl⟩
def F6:Con:=fun l os=>match l,os with
 | [.z .str s], []=>some (s.length<=QL, [.z .str (tN s), .z .str (tD s), .z .bool (ca s)], [])
 |_,_=>none
theorem Ic{B:ag}(hB:aB B):Valid B Tryz.prog 134 F6:=by
 refine ab (AD hB).tab Tryz.func134 rfl rfl rfl ?_
 intro args os C rs os' hc hC
 unfold F6 at hc
 split at hc
 case h_2=>cases hc
 rename_i s
 cases hc
 refine v_h (AD hB) fun X hP hT hr hG=> ?_
 have hU:=qg.eq_1
 unfold qg at hT
 have hX:=Bool.not_true
 simp only[Tryz.f134,aC,al,ioB]
 have hl:s.length<=1000000000:=hC
 refine s_g hG ?_
 refine ak ?_
 refine s_g hG ?_
 refine ax ?_
 refine br (fun(z:Nat)=>(⟨[(0, .l (.z .str s)),(2, .l (.z .str [])),(3, .l (.z .str [])),(4, .l (.z .bool false)),(5, .l (.z (.int .i64) (z:Int)))], []⟩:aa)) (fun z=>z<=s.length/\(s.take z).all (· !=47)=true) (fun z=>s.length-z) 0 ?_ ?_ ?_
 ·refine q_l ?_
  rfl
 ·exact⟨by omega,by simp⟩
 ·rintro k ⟨g1,g2⟩
  try dsimp only at g1 g2
  refine ak ?_
  refine s_g hG ?_
  refine ao ?_ ?_
  ·intro hb0
   try simp only[bt] at hb0
   have hk:k<s.length:=by have h9:(k:Int)<(s.length:Int):=hb0;omega
   refine aq ?_
   refine aj ?_
   refine ak ?_
   refine ax ?_
   refine s_g hG ?_
   refine ao ?_ ?_
   ·intro hb1
    try simp only[bt] at hb1
    refine s_d hG ?_ ?_
    ·try simp only[ba]
     exact H1 hl hk
    refine av ?_
    refine bD ?_
    refine aw ?_
    refine eF ?_
    refine bD ?_
    refine aw ?_
    refine q_e [] ?_
    exact Ak hl hk g2 (E7.1 hb1)
   ·intro hb1
    try simp only[bf] at hb1
    refine aq ?_
    refine aL ?_
    refine aj ?_
    refine ah hG ?_ ?_
    ·first|trivial|omega|(simp;done)|(simp;omega)
    show ∃ z,_
    refine q_l ?_
    exact⟨k+1,wi (by omega) (by omega),hk,HT hk g2 (fun e=>hb1 (E7.2 e)),by omega⟩
  ·intro hb0
   try simp only[bf] at hb0
   have hk: ¬k<s.length:=by have h9: ¬ (k:Int)<(s.length:Int):=hb0;omega
   refine bh ?_
   refine aE ?_
   refine az ?_
   refine ay ?_
   refine aj ?_
   refine s_g hG ?_
   refine av ?_
   refine q_e [] ?_
   exact LI hk g2
def qh(B:ag):Tab:={types:= [(9, .str)],elems:= [],cons:= [(134,F6)],hint:= [],N:=15,base:=B}
theorem AE{B:ag}(hB:aB B):aG Tryz.prog (qh B):=⟨⟨tc ty9 (ae),af,by simp only[qh,ioB];omega⟩,aD (cc Tryz.func134 (Ic hB) (au)),by kernel_rfl⟩
def jc:Con:=fun l os=>match l,os with
 | [.z .str q], []=>some (q.length<=QL, [.z .str (tN q), .z .str (tD q)], [])
 |_,_=>none
theorem oG{B:ag}(hB:aB B):Valid B Tryz.prog 92 jc:=by
 refine ab (AE hB).tab Tryz.func92 rfl rfl rfl ?_
 intro args os C rs os' hc hC
 unfold jc at hc
 split at hc
 case h_2=>cases hc
 rename_i q
 cases hc
 refine v_h (AE hB) fun X hP hT hr hG=> ?_
 have hU:=qh.eq_1
 unfold qh at hT
 have hX:= @F6.eq_1
 simp only[Tryz.f92,aC,al,ioB]
 refine s_g hG ?_
 refine s_q hG ?_ ?_
 ·try simp only[ba]
  exact hC
 refine s_g hG ?_
 refine av ?_
 refine q_e [] ?_
 trivial
def qk(B:ag):Tab:={types:= [(3,(.int .i64)),(9, .str),(46, .str)],elems:= [],cons:= [(92,jc),(93,nH)],hint:= [],N:=22,base:=B}
theorem AF{B:ag}(hB:aB B):aG Tryz.prog (qk B):=⟨⟨tc ty3 (tc ty9 (tc gq (ae))),af,by simp only[qk,ioB];omega⟩,aD (cc Tryz.func92 (oG hB) (cc Tryz.func93 (L6 hB) (au))),by kernel_rfl⟩
def yl:Con:=fun l os=>match l,os with
 | [.z .str q, .z (.int .i64) k], []=>some (eU q, [.z .bool (decide (cB (an (tN q))<=k/\cB (an (tD q))<=k))], [])
 |_,_=>none
theorem Ie{B:ag}(hB:aB B):Valid B Tryz.prog 39 yl:=by
 refine ab (AF hB).tab Tryz.func39 rfl rfl rfl ?_
 intro args os C rs os' hc hC
 unfold yl at hc
 split at hc
 case h_2=>cases hc
 rename_i q k
 cases hc
 refine v_h (AF hB) fun X hP hT hr hG=> ?_
 have hU:=qk.eq_1
 unfold qk at hT
 have hX:=ai @jc.eq_1<| @nH.eq_1
 simp only[Tryz.f39,aC,al,ioB]
 refine s_g hG ?_
 refine s_q hG ?_ ?_
 ·try simp only[ba]
  exact hC.2.2
 refine s_q hG ?_ ?_
 ·try simp only[ba]
  exact DB hC
 refine av ?_
 refine q_e [] ?_
 exact(Bool.decide_and _ _).symm
def qm(B:ag):Tab:={types:= [(3,(.int .i64)),(9, .str)],elems:= [],cons:= [(121,F3),(122,F5),(162,yd),(163,wt)],hint:= [],N:=33,base:=B}
theorem AG{B:ag}(hB:aB B):aG Tryz.prog (qm B):=⟨⟨tc ty3 (tc ty9 (ae)),af,by simp only[qm,ioB];omega⟩,aD (cc Tryz.func121 (Mv hB) (cc Tryz.func122 (Mw hB) (cc Tryz.func162 (Mt hB) (cc Tryz.func163 (AA hB) (au))))),by kernel_rfl⟩
def jn:Con:=fun l os=>match l,os with
 | [.z .str n, .z .str d], []=>some (MkR n d, [.z .str (aS (Rat.divInt (an n) (an d)))], [])
 |_,_=>none
theorem lY{B:ag}(hB:aB B):Valid B Tryz.prog 116 jn:=by
 refine ab (AG hB).tab Tryz.func116 rfl rfl rfl ?_
 intro args os C rs os' hc hC
 unfold jn at hc
 split at hc
 case h_2=>cases hc
 rename_i n d
 cases hc
 refine v_h (AG hB) fun X hP hT hr hG=> ?_
 have hU:=qm.eq_1
 unfold qm at hT
 have hX:=ai @F3.eq_1<|ai @F5.eq_1<|ai @wt.eq_1<| @yd.eq_1
 simp only[Tryz.f116,aC,al,ioB]
 refine s_g hG ?_
 refine s_q hG ?_ ?_
 ·try simp only[ba]
  exact oD hC
 refine ck (fun(z:Unit)=>(⟨[(0, .l (.z .str n)),(1, .l (.z .str d)),(4, .l (.z .str [])),(5, .l (.z .str (Lib.itoa (dB (an n) (an d)))))], []⟩:aa)) (fun z=>True) ?_ ?_
 ·refine s_q hG ?_ ?_
  ·try simp only[ba]
   exact hC.2.1.1
  refine ao ?_ ?_
  ·intro hb0
   try simp only[bt] at hb0
   refine ah hG ?_ ?_
   ·try simp only[ba]
    exact HU hC
   show ∃ z,_
   refine q_l ?_
   first|exact E3 (qc.1 hb0)|exact E4 (fun e=>hb0 (qc.2 e))
  ·intro hb0
   try simp only[bf] at hb0
   refine aq ?_
   show ∃ z,_
   refine q_l ?_
   first|exact E3 (qc.1 hb0)|exact E4 (fun e=>hb0 (qc.2 e))
 rintro⟨⟩-
 refine s_q hG ?_ ?_
 ·try simp only[ba]
  exact wb hC
 refine s_q hG ?_ ?_
 ·try simp only[ba]
  exact HV hC
 refine ak ?_
 refine s_g hG ?_
 refine ao ?_ ?_
 ·intro hb1
  try simp only[bt] at hb1
  refine s_g hG ?_
  refine av ?_
  refine aw ?_
  refine q_e [] ?_
  exact N4 hC hb1
 ·intro hb1
  try simp only[bf] at hb1
  refine aq ?_
  refine aj ?_
  refine s_q hG ?_ ?_
  ·try simp only[ba]
   exact HW hC
  refine av ?_
  refine q_e [] ?_
  exact N5 hC hb1
def qn(B:ag):Tab:={types:= [(3,(.int .i64)),(9, .str)],elems:= [],cons:= [(116,jn),(126,pQ)],hint:= [],N:=10,base:=B}
theorem AH{B:ag}(hB:aB B):aG Tryz.prog (qn B):=⟨⟨tc ty3 (tc ty9 (ae)),af,by simp only[qn,ioB];omega⟩,aD (cc Tryz.func116 (lY hB) (cc Tryz.func126 (lA hB) (au))),by kernel_rfl⟩
def OD:Con:=fun l os=>match l,os with
 | [.z (.int .i64) n, .z (.int .i64) d], []=>some (I64 n/\I64 d/\d≠0, [.z .str (aS (Rat.divInt n d))], [])
 |_,_=>none
theorem Ig{B:ag}(hB:aB B):Valid B Tryz.prog 85 OD:=by
 refine ab (AH hB).tab Tryz.func85 rfl rfl rfl ?_
 intro args os C rs os' hc hC
 unfold OD at hc
 split at hc
 case h_2=>cases hc
 rename_i n d
 cases hc
 refine v_h (AH hB) fun X hP hT hr hG=> ?_
 have hU:=qn.eq_1
 unfold qn at hT
 have hX:=ai @jn.eq_1<| @pQ.eq_1
 simp only[Tryz.f85,aC,al,ioB]
 refine s_g hG ?_
 refine s_q hG ?_ ?_
 ·try simp only[ba]
  exact LJ hC
 refine av ?_
 refine q_e [] ?_
 exact N6
def qo(B:ag):Tab:={types:= [(9, .str),(46, .str)],elems:= [],cons:= [(92,jc),(115,wu),(116,jn),(117,pJ)],hint:= [],N:=39,base:=B}
theorem AJ{B:ag}(hB:aB B):aG Tryz.prog (qo B):=⟨⟨tc ty9 (tc gq (ae)),af,by simp only[qo,ioB];omega⟩,aD (cc Tryz.func92 (oG hB) (cc Tryz.func115 (AC hB) (cc Tryz.func116 (lY hB) (cc Tryz.func117 (uD hB) (au))))),by kernel_rfl⟩
def F7:Con:=fun l os=>match l,os with
 | [.z .str a, .z .str b], []=>some (GQ QK a/\GQ QK b, [.z .str (aS (bg a+bg b))], [])
 |_,_=>none
theorem Ih{B:ag}(hB:aB B):Valid B Tryz.prog 62 F7:=by
 refine ab (AJ hB).tab Tryz.func62 rfl rfl rfl ?_
 intro args os C rs os' hc hC
 unfold F7 at hc
 split at hc
 case h_2=>cases hc
 rename_i a b
 cases hc
 refine v_h (AJ hB) fun X hP hT hr hG=> ?_
 have hU:=qo.eq_1
 unfold qo at hT
 have hX:=ai @jn.eq_1<|ai @jc.eq_1<|ai @wu.eq_1<| @pJ.eq_1
 simp only[Tryz.f62,aC,al,ioB]
 refine s_g hG ?_
 refine s_q hG ?_ ?_
 ·try simp only[ba]
  exact E5 hC.1
 refine s_q hG ?_ ?_
 ·try simp only[ba]
  exact E5 hC.2
 refine ak ?_
 refine s_g hG ?_
 refine ao ?_ ?_
 ·intro hb0
  try simp only[bt] at hb0
  refine s_q hG ?_ ?_
  ·try simp only[ba]
   exact⟨(fZ hC.1).1,(fZ hC.2).1⟩
  refine av ?_
  refine aw ?_
  refine q_e [] ?_
  exact LK hC.1 hC.2 hb0
 ·intro hb0
  try simp only[bf] at hb0
  refine aq ?_
  refine aj ?_
  refine s_q hG ?_ ?_
  ·try simp only[ba]
   exact HY hC.1 hC.2
  refine av ?_
  refine q_e [] ?_
  exact LM hC.1 hC.2
def qp(B:ag):Tab:={types:= [(9, .str),(46, .str)],elems:= [],cons:= [(92,jc),(116,jn),(117,pJ)],hint:= [],N:=35,base:=B}
theorem AK{B:ag}(hB:aB B):aG Tryz.prog (qp B):=⟨⟨tc ty9 (tc gq (ae)),af,by simp only[qp,ioB];omega⟩,aD (cc Tryz.func92 (oG hB) (cc Tryz.func116 (lY hB) (cc Tryz.func117 (uD hB) (au)))),by kernel_rfl⟩
def F8:Con:=fun l os=>match l,os with
 | [.z .str a, .z .str b], []=>some (GQ QK a/\GQ QK b, [.z .str (aS (bg a*bg b))], [])
 |_,_=>none
theorem Ii{B:ag}(hB:aB B):Valid B Tryz.prog 84 F8:=by
 refine ab (AK hB).tab Tryz.func84 rfl rfl rfl ?_
 intro args os C rs os' hc hC
 unfold F8 at hc
 split at hc
 case h_2=>cases hc
 rename_i a b
 cases hc
 refine v_h (AK hB) fun X hP hT hr hG=> ?_
 have hU:=qp.eq_1
 unfold qp at hT
 have hX:=ai @jn.eq_1<|ai @jc.eq_1<| @pJ.eq_1
 simp only[Tryz.f84,aC,al,ioB]
 refine s_g hG ?_
 refine s_q hG ?_ ?_
 ·try simp only[ba]
  exact E5 hC.1
 refine s_q hG ?_ ?_
 ·try simp only[ba]
  exact E5 hC.2
 refine ak ?_
 refine s_g hG ?_
 refine ao ?_ ?_
 ·intro hb0
  try simp only[bt] at hb0
  refine s_q hG ?_ ?_
  ·try simp only[ba]
   exact⟨(fZ hC.1).1,(fZ hC.2).1⟩
  refine av ?_
  refine aw ?_
  refine q_e [] ?_
  exact LL hC.1 hC.2 hb0
 ·intro hb0
  try simp only[bf] at hb0
  refine aq ?_
  refine aj ?_
  refine s_q hG ?_ ?_
  ·try simp only[ba]
   exact HZ hC.1 hC.2
  refine av ?_
  refine q_e [] ?_
  exact LN hC.1 hC.2
def qq(B:ag):Tab:={types:= [(3,(.int .i64)),(22,(.slice .str)),(46, .str)],elems:= [],cons:= [],hint:= [],N:=26,base:=B}
theorem AL{B:ag}(hB:aB B):aG Tryz.prog (qq B):=⟨⟨tc ty3 (tc gA (tc gq (ae))),af,by simp only[qq,ioB];omega⟩,bH rfl,by kernel_rfl⟩
def oH:Con:=fun l os=>match l,os with
 | [.z (.slice .str) p, .z (.slice .str) q], []=>some (p.length<=QL/\q.length<=QL, [.z .bool (decide (p=q))], [])
 |_,_=>none
theorem wv{B:ag}(hB:aB B):Valid B Tryz.prog 28 oH:=by
 refine ab (AL hB).tab Tryz.func28 rfl rfl rfl ?_
 intro args os C rs os' hc hC
 unfold oH at hc
 split at hc
 case h_2=>cases hc
 rename_i p q
 cases hc
 refine v_h (AL hB) fun X hP hT hr hG=> ?_
 have hU:=qq.eq_1
 unfold qq at hT
 have hX:=Bool.not_true
 simp only[Tryz.f28,aC,al,ioB]
 have hl:p.length<=1000000000:=hC.1
 refine s_g hG ?_
 refine ak ?_
 refine s_g hG ?_
 refine ao ?_ ?_
 ·intro hb0
  try simp only[bt] at hb0
  refine s_g hG ?_
  refine av ?_
  refine aw ?_
  refine q_e [] ?_
  exact LO hb0
 ·intro hb0
  try simp only[bf] at hb0
  have he:p.length=q.length:=by have h9:(p.length:Int)=(q.length:Int):=hb0;omega
  refine aq ?_
  refine aj ?_
  refine ak ?_
  refine s_g hG ?_
  refine ax ?_
  refine br (fun(z:Nat)=>(⟨[(0, .l (.z (.slice .str) p)),(1, .l (.z (.slice .str) q)),(4, .l (.z .bool false)),(5, .l (.z (.int .i64) (z:Int)))], []⟩:aa)) (fun z=>z<=p.length/\p.take z=q.take z) (fun z=>p.length-z) 0 ?_ ?_ ?_
  ·refine q_l ?_
   rfl
  ·exact⟨by omega,rfl⟩
  ·rintro k ⟨g1,g2⟩
   try dsimp only at g1 g2
   refine ak ?_
   refine s_g hG ?_
   refine ao ?_ ?_
   ·intro hb1
    try simp only[bt] at hb1
    have hk:k<p.length:=by have h9:(k:Int)<(p.length:Int):=hb1;omega
    refine aq ?_
    refine aj ?_
    refine ak ?_
    refine ax ?_
    refine s_d hG ?_ ?_
    ·try simp only[ba]
     rw[<- he]
     exact⟨⟨by omega,hb1⟩,by omega,hb1⟩
    refine ao ?_ ?_
    ·intro hb2
     try simp only[bt] at hb2
     refine s_g hG ?_
     refine av ?_
     refine bD ?_
     refine aw ?_
     refine eF ?_
     refine bD ?_
     refine aw ?_
     refine q_e [] ?_
     exact LP hb2
    ·intro hb2
     try simp only[bf] at hb2
     refine aq ?_
     refine aL ?_
     refine aj ?_
     refine ah hG ?_ ?_
     ·first|trivial|omega|(simp;done)|(simp;omega)
     show ∃ z,_
     refine q_l ?_
     exact⟨k+1,wi (by omega) (by omega),hk,H0 he hk g2 hb2,by omega⟩
   ·intro hb1
    try simp only[bf] at hb1
    have hk: ¬k<p.length:=by have h9: ¬ (k:Int)<(p.length:Int):=hb1;omega
    refine bh ?_
    refine aE ?_
    refine az ?_
    refine ay ?_
    refine aj ?_
    refine s_g hG ?_
    refine av ?_
    refine q_e [] ?_
    exact LQ he hk g2
def ym:Con:=jh [some (.slice .str),some (.slice .str)] oH
theorem DK{B:ag}(hB:aB B):Valid B Tryz.prog 28 ym:=fz _ (wv hB)
def uE(B:ag):Tab:={types:= [(87,(.slice (.int .u32))),(161,(.int .u32)),(164,(.int .u64))],elems:= [(87,161)],cons:= [(193,wq)],hint:= [],N:=38,base:=B}
theorem Mx{B:ag}(hB:aB B):aG Tryz.prog (uE B):=⟨⟨tc iz (tc fT (tc nv (ae))),aR (by kernel_rfl) (af),by simp only[uE,ioB];omega⟩,aD (cc Tryz.func193 (FP hB) (au)),by kernel_rfl⟩
def oI:Con:=fun l os=>match l,os with
 | [.z (.slice (.int .u32)) m, .z (.int .u32) b], []=>some (Lim m/\zi b/\m.length<CAP, [.z (.slice (.int .u32)) (padL (valL m/b).toNat m.length), .z (.int .u32) (valL m%b)], [])
 |_,_=>none
theorem OE{B:ag}(hB:aB B):Valid B Tryz.prog 189 oI:=by
 refine ab (Mx hB).tab Tryz.func189 rfl rfl rfl ?_
 intro args os C rs os' hc hC
 unfold oI at hc
 split at hc
 case h_2=>cases hc
 rename_i m b
 cases hc
 refine v_h (Mx hB) fun X hP hT hr hG=> ?_
 have hU:=uE.eq_1
 unfold uE at hT
 have hX:= @wq.eq_1
 simp only[Tryz.f189,aC,al,ioB]
 refine s_g hG ?_
 refine s_q hG ?_ ?_
 ·try simp only[ba]
  exact⟨by omega,by omega,by have:=hC.2.2;unfold CAP at this;unfold Cm.Roomy;omega⟩
 refine s_g hG ?_
 refine ak ?_
 refine s_g hG ?_
 refine ax ?_
 refine Eg hr (gf:=208) (caps:= [.z (.ptr (.slice (.int .u32))) m]) (items:=cT m) (by simp only[hT,uE,mx0,mx1,mx2,mx3,mx4,mx5,mx6,aV,bp,bF,aZ,bo,Ty.fieldTy,Ty.fieldOf,Nat.reduceLT,Nat.reduceEqDiff,Nat.reduceAdd,Nat.reduceMul,Nat.reduceSub,Nat.reduceLeDiff,Nat.reduceBEq,Nat.reduceBNe,reduceIte,reduceDIte,reduceCtorEq];try rfl) (by rfl) (by rw[hP];exact zz m) (by rfl) [3,6,7] (by rfl) (by simp only[hT,uE];try rfl) (fun(k:Nat) (z:Int×List Int)=>(⟨[(3, .l (.z (.ptr (.int .u32)) b)),(6, .l (.ownP 6 0)),(7, .l (.ownP 7 0))], [(6, .box 87 [.ownS 13]),(7, .box 164 [.z (.int .u64) z.1]),(13, .arr (.int .u32) 161 z.2)]⟩:aa)) (fun(k:Nat) (z:Int×List Int)=>kO m b k z.1 z.2) (0,List.replicate (List.length m) 0) ?_ ?_ ?_ ?_ ?_
 ·simp only[ml0,ml1,Nat.reduceLT,Nat.reduceEqDiff,Nat.reduceAdd,Nat.reduceMul,Nat.reduceSub,Nat.reduceLeDiff,Nat.reduceBEq,Nat.reduceBNe,reduceIte,reduceDIte,reduceCtorEq]
  simp
 ·exact zk hC.2.1
 ·intro k z;rfl
 ·intro k hk
  rintro⟨r,out⟩ hz
  try dsimp only at hz
  have hk:k<List.length m:=by simpa [cT] using hk
  refine⟨_,by simp only[hT,uE,cT,tC,mx0,mx1,mx2,mx3,mx4,mx5,mx6,aV,bp,bF,aZ,bo,Ty.fieldTy,Ty.fieldOf,Nat.reduceLT,Nat.reduceEqDiff,Nat.reduceAdd,Nat.reduceMul,Nat.reduceSub,Nat.reduceLeDiff,Nat.reduceBEq,Nat.reduceBNe,reduceIte,reduceDIte,reduceCtorEq,List.getElem_map,List.getElem_range];rfl,?_⟩
  intro X' hP' hT'
  have hG':aG X'.P X'.T:=by rw[hP',hT'];exact hG.keep _
  rw[hT] at hT'
  refine ax ?_
  refine ak ?_
  refine nW hG' ?_ ?_
  ·first|trivial|omega|(simp;done)|(simp;omega)
  refine aj ?_
  refine Eh hG' ?_ ?_
  ·try simp only[ba]
   have hl:=hz.1
   exact⟨Ep hC.2.1,Ep hC.2.1,by omega,by omega⟩
  refine aL ?_
  show ∃ z,_
  simp only[ml0,ml1,Nat.reduceLT,Nat.reduceEqDiff,Nat.reduceAdd,Nat.reduceMul,Nat.reduceSub,Nat.reduceLeDiff,Nat.reduceBEq,Nat.reduceBNe,reduceIte,reduceDIte,reduceCtorEq]
  exact CT hC.1 hC.2.1 hk hz
 ·rintro⟨r,out⟩ hz
  try dsimp only at hz
  rw[show List.length (cT m)=List.length m by simp[cT]] at hz
  refine aL ?_
  refine aj ?_
  refine s_d hG ?_ ?_
  ·first|trivial|omega|(simp;done)|(simp;omega)
  refine av ?_
  refine q_e [13] ?_
  exact G4 hC.1 hC.2.1 hz
def F9(B:ag):Tab:={types:= [(3,(.int .i64)),(87,(.slice (.int .u32))),(161,(.int .u32)),(164,(.int .u64))],elems:= [(87,161)],cons:= [],hint:= [],N:=41,base:=B}
theorem My{B:ag}(hB:aB B):aG Tryz.prog (F9 B):=⟨⟨tc ty3 (tc iz (tc fT (tc nv (ae)))),aR (by kernel_rfl) (af),by simp only[F9,ioB];omega⟩,bH rfl,by kernel_rfl⟩
def lZ:Con:=fun l os=>match l,os with
 | [.z (.slice (.int .u32)) m, .z (.int .u32) b], []=>some (Lim m/\zj b/\m.length<CAP, [.own (.int .u32) 161 (padL (valL m*b).toNat (m.length+1))], [])
 |_,_=>none
theorem OG{B:ag}(hB:aB B):Valid B Tryz.prog 190 lZ:=by
 refine ab (My hB).tab Tryz.func190 rfl rfl rfl ?_
 intro args os C rs os' hc hC
 unfold lZ at hc
 split at hc
 case h_2=>cases hc
 rename_i m b
 cases hc
 refine v_h (My hB) fun X hP hT hr hG=> ?_
 have hU:=F9.eq_1
 unfold F9 at hT
 have hX:=Bool.not_true
 simp only[Tryz.f190,aC,al,ioB]
 refine s_g hG ?_
 refine s_q hG ?_ ?_
 ·try simp only[ba]
  have h1:List.length m<1000000000000:=hC.2.2
  rw[wi (by omega) (by omega)]
  exact⟨by omega,by omega,by unfold Cm.Roomy;omega⟩
 refine s_g hG ?_
 refine ak ?_
 refine s_g hG ?_
 refine ax ?_
 refine br (fun(z:Nat×Int×List Int)=>(⟨[(1, .l (.z (.int .u32) b)),(5, .l (.ownS 13)),(6, .l (.z (.int .u64) z.2.1)),(14, .l (.z (.slice (.int .u32)) m)),(15, .l (.z (.int .i64) (List.length m:Int))),(16, .l (.z (.int .i64) (z.1:Int)))], [(13, .arr (.int .u32) 161 z.2.2)]⟩:aa)) (fun z=>jB m b z.1 z.2.1 z.2.2) (fun z=>List.length m-z.1) (0,0, []) ?_ ?_ ?_
 ·refine q_l ?_
  exact⟨rfl,rfl⟩
 ·exact xl
 ·rintro⟨k,c,out⟩ hz
  try dsimp only at hz
  refine s_g hG ?_
  refine ak ?_
  refine ao ?_ ?_
  ·intro hb0
   try simp only[bt] at hb0
   refine aq ?_
   refine aj ?_
   refine ak ?_
   refine ax ?_
   refine s_q hG ?_ ?_
   ·try simp only[ba]
    exact⟨by omega,hb0⟩
   refine s_g hG ?_
   refine ah hG ?_ ?_
   ·try simp only[ba]
    have h1:List.length m<1000000000000:=hC.2.2
    have h2:=hz.2.1
    exact⟨by decide,by unfold Cm.Roomy;omega,by decide⟩
   refine aL ?_
   refine aj ?_
   refine ah hG ?_ ?_
   ·first|trivial|omega|(simp;done)|(simp;omega)
   show ∃ z,_
   refine q_l ?_
   exact zl hC.1 hC.2.2 hC.2.1 hb0 hz
  ·intro hb0
   try simp only[bf] at hb0
   refine bh ?_
   refine aE ?_
   refine az ?_
   refine ay ?_
   refine aj ?_
   refine s_q hG ?_ ?_
   ·try simp only[ba]
    have h1:List.length m<1000000000000:=hC.2.2
    have h2:=hz.2.1
    have h3:=hz.1
    unfold Cm.Roomy;omega
   refine av ?_
   refine q_e [] ?_
   exact⟨trivial,CU hC.1 hC.2.1 hb0 hz⟩
def Ga(B:ag):Tab:={types:= [(2,(.int .i64)),(3,(.int .i64)),(87,(.slice (.int .u32))),(161,(.int .u32)),(164,(.int .u64))],elems:= [],cons:= [],hint:= [],N:=57,base:=B}
theorem Mz{B:ag}(hB:aB B):aG Tryz.prog (Ga B):=⟨⟨tc ty2 (tc ty3 (tc iz (tc fT (tc nv (ae))))),af,by simp only[Ga,ioB];omega⟩,bH rfl,by kernel_rfl⟩
def wx:Con:=fun l os=>match l,os with
 | [.ownS 10000000, .z (.slice (.int .u32)) o, .z (.int .u64) q], [.win (.int .u32) 161 pre xs []]=>some (Lim xs/\Lim o/\zj q/\o.length+1<=xs.length/\o.length<CAP, [.z .bool (decide (valL (xs.take (o.length+1))<q*valL o))], [.win (.int .u32) 161 pre (put xs (o.length+1) (valL (xs.take (o.length+1))-q*valL o)) []])
 |_,_=>none
theorem OH{B:ag}(hB:aB B):Valid B Tryz.prog 191 wx:=by
 refine ab (Mz hB).tab Tryz.func191 rfl rfl rfl ?_
 intro args os C rs os' hc hC
 unfold wx at hc
 split at hc
 case h_2=>cases hc
 rename_i o q pre xs
 cases hc
 refine v_h (Mz hB) fun X hP hT hr hG=> ?_
 have hU:=Ga.eq_1
 unfold Ga at hT
 have hX:=Bool.not_true
 simp only[Tryz.f191,aC,al,ioB]
 refine s_g hG ?_
 refine s_g hG ?_
 refine ak ?_
 refine s_g hG ?_
 refine ax ?_
 refine br (fun(z:Nat×Int×Int×List Int)=>(⟨[(0, .l (.ownS 10000000)),(1, .l (.z (.slice (.int .u32)) o)),(2, .l (.z (.int .u64) q)),(7, .l (.z (.int .u64) z.2.1)),(8, .l (.z (.int .i64) z.2.2.1)),(14, .l (.z (.int .i64) ((List.length o+1:Nat):Int))),(15, .l (.z (.int .i64) (z.1:Int)))], [(10000000, .win (.int .u32) 161 pre z.2.2.2 [])]⟩:aa)) (fun z=>j7 xs o q z.1 z.2.1 z.2.2.1 z.2.2.2) (fun z=>List.length o+1-z.1) (0,0,0,xs) ?_ ?_ ?_
 ·refine q_l ?_
  exact⟨wi (by omega) (by have:List.length o<1000000000000:=hC.2.2.2.2;omega),rfl⟩
 ·exact CX hC.1
 ·rintro⟨i,c,b,ys⟩ hz
  try dsimp only at hz
  have hl:=hz.2.1
  have hlen:=hC.2.2.2.1
  refine s_g hG ?_
  refine ak ?_
  refine ao ?_ ?_
  ·intro hb0
   try simp only[bt] at hb0
   refine aq ?_
   refine aj ?_
   refine ak ?_
   refine ax ?_
   refine s_g hG ?_
   refine s_g hG ?_
   refine ck (fun(z:Int)=>(⟨[(0, .l (.ownS 10000000)),(1, .l (.z (.slice (.int .u32)) o)),(2, .l (.z (.int .u64) q)),(8, .l (.z (.int .i64) b)),(9, .l (.z (.int .i64) (i:Int))),(10, .l (.z (.int .u64) z)),(14, .l (.z (.int .i64) ((List.length o+1:Nat):Int))),(15, .l (.z (.int .i64) (i:Int)))], [(10000000, .win (.int .u32) 161 pre ys [])]⟩:aa)) (fun z=>z=c+q*o.getD i 0) ?_ ?_
   ·refine s_g hG ?_
    refine ao ?_ ?_
    ·intro hb1
     try simp only[bt] at hb1
     refine ah hG ?_ ?_
     ·try simp only[ba]
      exact⟨by omega,hb1⟩
     show ∃ z,_
     refine q_l ?_
     first|exact J5 i hC.2.1 hC.2.2.1 hz.2.2.2.2.1|exact vw hb1
    ·intro hb1
     try simp only[bf] at hb1
     refine aq ?_
     show ∃ z,_
     refine q_l ?_
     first|exact J5 i hC.2.1 hC.2.2.1 hz.2.2.2.2.1|exact vw hb1
   rintro n hn
   try dsimp only at hn
   have hn2:0<=n/\n<LB*LB:=by rw[hn];have:=CY i hC.2.1 hC.2.2.1 hz.2.2.2.2.1;exact⟨this.1,this.2.1⟩
   refine s_q hG ?_ ?_
   ·try simp only[ba]
    decide
   refine s_q hG ?_ ?_
   ·try simp only[ba]
    exact⟨⟨by omega,by omega⟩,by omega,by decide⟩
   refine s_g hG ?_
   refine ck (fun(z:Int×Int)=>(⟨[(0, .l (.ownS 10000000)),(1, .l (.z (.slice (.int .u32)) o)),(2, .l (.z (.int .u64) q)),(7, .l (.z (.int .u64) (n/LB))),(8, .l (.z (.int .i64) z.2)),(9, .l (.z (.int .i64) (i:Int))),(11, .l (.z (.int .i64) z.1)),(14, .l (.z (.int .i64) ((List.length o+1:Nat):Int))),(15, .l (.z (.int .i64) (i:Int)))], [(10000000, .win (.int .u32) 161 pre ys [])]⟩:aa)) (fun z=>(0<=z.1/\z.1<LB)/\(0<=z.2/\z.2<=1)/\z.1-LB*z.2=ys.getD i 0-n%LB-b) ?_ ?_
   ·refine s_g hG ?_
    refine ao ?_ ?_
    ·intro hb2
     try simp only[bt] at hb2
     refine ah hG ?_ ?_
     ·first|trivial|omega|(simp;done)|(simp;omega)
     show ∃ z,_
     refine q_l ?_
     first|exact(by simpa only[and_assoc] using(ns hz.2.2.1 hn2 hz.2.2.2.2.2.2.1 rfl).1 hb2)|exact(by simpa only[and_assoc] using(ns hz.2.2.1 hn2 hz.2.2.2.2.2.2.1 rfl).2 hb2)
    ·intro hb2
     try simp only[bf] at hb2
     refine aq ?_
     show ∃ z,_
     refine q_l ?_
     first|exact(by simpa only[and_assoc] using(ns hz.2.2.1 hn2 hz.2.2.2.2.2.2.1 rfl).1 hb2)|exact(by simpa only[and_assoc] using(ns hz.2.2.1 hn2 hz.2.2.2.2.2.2.1 rfl).2 hb2)
   rintro⟨v,b2⟩ hv
   try dsimp only at hv
   refine ah hG ?_ ?_
   ·try simp only[ba]
    exact⟨⟨by omega,by omega⟩,by omega⟩
   refine aL ?_
   refine aj ?_
   refine ah hG ?_ ?_
   ·first|trivial|omega|(simp;done)|(simp;omega)
   show ∃ z,_
   refine q_l ?_
   exact G6 hC.2.1 hC.2.2.1 hC.2.2.2.1 hC.2.2.2.2 hz hb0 hn hv
  ·intro hb0
   try simp only[bf] at hb0
   refine bh ?_
   refine aE ?_
   refine az ?_
   refine ay ?_
   refine aj ?_
   refine s_g hG ?_
   refine av ?_
   refine q_e [] ?_
   exact⟨(zn hC.2.2.2.1 hz (by omega)).2,trivial,(zn hC.2.2.2.1 hz (by omega)).1⟩
def Gb(B:ag):Tab:={types:= [(3,(.int .i64)),(87,(.slice (.int .u32))),(161,(.int .u32))],elems:= [],cons:= [],hint:= [],N:=37,base:=B}
theorem MA{B:ag}(hB:aB B):aG Tryz.prog (Gb B):=⟨⟨tc ty3 (tc iz (tc fT (ae))),af,by simp only[Gb,ioB];omega⟩,bH rfl,by kernel_rfl⟩
def wy:Con:=fun l os=>match l,os with
 | [.ownS 10000000, .z (.slice (.int .u32)) o], [.win (.int .u32) 161 pre xs []]=>some (Lim xs/\Lim o/\o.length+1<=xs.length/\o.length<CAP, [], [.win (.int .u32) 161 pre (put xs (o.length+1) (valL (xs.take (o.length+1))+valL o)) []])
 |_,_=>none
theorem OI{B:ag}(hB:aB B):Valid B Tryz.prog 192 wy:=by
 refine ab (MA hB).tab Tryz.func192 rfl rfl rfl ?_
 intro args os C rs os' hc hC
 unfold wy at hc
 split at hc
 case h_2=>cases hc
 rename_i o pre xs
 cases hc
 refine v_h (MA hB) fun X hP hT hr hG=> ?_
 have hU:=Gb.eq_1
 unfold Gb at hT
 have hX:=Bool.not_true
 simp only[Tryz.f192,aC,al,ioB]
 refine s_g hG ?_
 refine s_g hG ?_
 refine ax ?_
 refine br (fun(z:Nat×Int×List Int)=>(⟨[(0, .l (.ownS 10000000)),(1, .l (.z (.slice (.int .u32)) o)),(4, .l (.z (.int .u32) z.2.1)),(9, .l (.z (.int .i64) ((List.length o+1:Nat):Int))),(10, .l (.z (.int .i64) (z.1:Int)))], [(10000000, .win (.int .u32) 161 pre z.2.2 [])]⟩:aa)) (fun z=>j8 xs o z.1 z.2.1 z.2.2) (fun z=>List.length o+1-z.1) (0,0,xs) ?_ ?_ ?_
 ·refine q_l ?_
  exact⟨wi (by omega) (by have:List.length o<1000000000000:=hC.2.2.2;omega),rfl⟩
 ·exact C3 hC.1
 ·rintro⟨i,c,ys⟩ hz
  try dsimp only at hz
  have hl:=hz.2.1
  have hlen:=hC.2.2.1
  refine s_g hG ?_
  refine ak ?_
  refine ao ?_ ?_
  ·intro hb0
   try simp only[bt] at hb0
   refine aq ?_
   refine aj ?_
   refine ak ?_
   refine ax ?_
   refine s_g hG ?_
   refine s_q hG ?_ ?_
   ·try simp only[ba]
    exact⟨⟨by omega,by omega⟩,by omega⟩
   refine ck (fun(z:Int)=>(⟨[(0, .l (.ownS 10000000)),(1, .l (.z (.slice (.int .u32)) o)),(5, .l (.z (.int .i64) (i:Int))),(6, .l (.z (.int .u32) z)),(9, .l (.z (.int .i64) ((List.length o+1:Nat):Int))),(10, .l (.z (.int .i64) (i:Int)))], [(10000000, .win (.int .u32) 161 pre ys [])]⟩:aa)) (fun z=>z=ys.getD i 0+c+o.getD i 0) ?_ ?_
   ·refine s_g hG ?_
    refine ao ?_ ?_
    ·intro hb1
     try simp only[bt] at hb1
     refine ah hG ?_ ?_
     ·try simp only[ba]
      exact⟨by omega,hb1⟩
     show ∃ z,_
     refine q_l ?_
     first|exact(xn i hz.2.2.1 hC.2.1 hz.2.2.2.2.1).2 hb1|exact(xn i hz.2.2.1 hC.2.1 hz.2.2.2.2.1).1
    ·intro hb1
     try simp only[bf] at hb1
     refine aq ?_
     show ∃ z,_
     refine q_l ?_
     first|exact(xn i hz.2.2.1 hC.2.1 hz.2.2.2.2.1).2 hb1|exact(xn i hz.2.2.1 hC.2.1 hz.2.2.2.2.1).1
   rintro n hn
   try dsimp only at hn
   refine ah hG ?_ ?_
   ·try simp only[ba]
    exact⟨by decide,by decide,⟨by omega,by omega⟩,by omega⟩
   refine aL ?_
   refine aj ?_
   refine ah hG ?_ ?_
   ·first|trivial|omega|(simp;done)|(simp;omega)
   show ∃ z,_
   refine q_l ?_
   exact G7 hC.2.1 hC.2.2.1 hC.2.2.2 hz hb0 hn
  ·intro hb0
   try simp only[bf] at hb0
   refine bh ?_
   refine aE ?_
   refine az ?_
   refine ay ?_
   refine q_e [] ?_
   exact⟨trivial,J4 hC.2.2.1 hz (by omega)⟩
def wz(B:ag):Tab:={types:= [(3,(.int .i64)),(4, .bool),(87,(.slice (.int .u32))),(89,(.st (.pair .bool (.slice (.int .u32))))),(161,(.int .u32)),(164,(.int .u64))],elems:= [(87,161)],cons:= [(150,ef),(152,eX),(189,oI),(190,lZ),(191,wx),(192,wy)],hint:= [52,144,152],N:=172,io:= [(191, [0]),(192, [0])],base:=B}
theorem MB{B:ag}(hB:aB B):aG Tryz.prog (wz B):=⟨⟨tc ty3 (tc ty4 (tc iz (tc gK (tc fT (tc nv (ae)))))),aR (by kernel_rfl) (af),by simp only[wz,ioB];omega⟩,aD (cc Tryz.func150 (kl hB) (cc Tryz.func152 (x7 hB) (cc Tryz.func189 (OE hB) (cc Tryz.func190 (OG hB) (cc Tryz.func191 (OH hB) (cc Tryz.func192 (OI hB) (au))))))),by kernel_rfl⟩
def jO:Con:=fun l os=>match l,os with
 | [.z (.slice (.int .u32)) m, .z (.slice (.int .u32)) o], []=>some (Cano m/\Cano o/\o≠ []/\m.length+o.length+1<CAP, [.z (.slice (.int .u32)) (iK m o), .z (.slice (.int .u32)) (dS m o)], [])
 |_,_=>none
set_option maxHeartbeats 1000000 in
theorem Gc{B:ag}(hB:aB B):Valid B Tryz.prog 177 jO:=by
 refine ab (MB hB).tab Tryz.func177 rfl rfl rfl ?_
 intro args os C rs os' hc hC
 unfold jO at hc
 split at hc
 case h_2=>cases hc
 rename_i m o
 cases hc
 refine v_h (MB hB) fun X hP hT hr hG=> ?_
 have hU:=wz.eq_1
 unfold wz at hT
 have hX:=ai @eX.eq_1<|ai @wy.eq_1<|ai @wx.eq_1<|ai @lZ.eq_1<|ai @oI.eq_1<|ai @ef.eq_1<|ai @bW.eq_def<| @b8.eq_def
 simp only[Tryz.f177,aC,al,ioB]
 refine ak ?_
 show J X _ _ _
 refine ah hG ?_ ?_
 ·first|trivial|omega|(simp;done)|(simp;omega)
 refine aj ?_
 refine ak ?_
 refine ak ?_
 show J X _ _ _
 refine ah hG ?_ ?_
 ·try simp only[ba]
  exact⟨hC.1,hC.2.1,Nat.lt_of_le_of_lt (Nat.le_succ _) hC.2.2.2⟩
 refine aj ?_
 refine ao ?_ ?_
 ·intro hb0
  try simp only[bt] at hb0
  refine ak ?_
  show J X _ _ _
  refine ah hG ?_ ?_
  ·first|trivial|omega|(simp;done)|(simp;omega)
  refine aj ?_
  refine av ?_
  refine aw ?_
  refine q_e [62] ?_
  exact Kc hb0
 ·intro hb0
  try simp only[bf] at hb0
  refine aq ?_
  refine aj ?_
  refine ak ?_
  refine ak ?_
  show J X _ _ _
  refine ah hG ?_ ?_
  ·first|trivial|omega|(simp;done)|(simp;omega)
  refine aj ?_
  refine ao ?_ ?_
  ·intro hb1
   try simp only[bt] at hb1
   refine ak ?_
   show J X _ _ _
   refine ah hG ?_ ?_
   ·try simp only[ba]
    exact⟨⟨by omega,by omega⟩,hC.1.1,(div_one hC.2.1 hb0 hb1).1,by have:=hC.2.2.2;omega⟩
   refine aj ?_
   refine ak ?_
   show J X _ _ _
   refine ah hG ?_ ?_
   ·first|trivial|omega|(simp;done)|(simp;omega)
   refine aj ?_
   refine av ?_
   refine aw ?_
   refine q_e [62] ?_
   exact(div_one hC.2.1 hb0 hb1).2
  ·intro hb1
   simp only[beq_eq_false_iff_ne,ne_eq] at hb1
   obtain⟨p,hp⟩:∃ p,List.length o=p+2:=px hC.2.2.1 hb1
   obtain⟨D,f⟩:∃ D:List Int,gJ m o D p:=⟨_,gJ.mk' hC.1 hC.2.1 hp (Kd hb0) hC.2.2.2⟩
   have hDl:=f.hDl
   have hcc:=f.hc
   have hlm:=f.hlm
   refine aq ?_
   refine aj ?_
   refine ck (fun(z:Int)=>(⟨[(0, .l (.z (.slice (.int .u32)) m)),(1, .l (.z (.slice (.int .u32)) o)),(8, .l (.z (.int .u32) z))], []⟩:aa)) (fun z=>z=aN o) ?_ ?_
   ·show J X _ _ _
    refine ah hG ?_ ?_
    ·try simp only[ba]
     have h:=tw f.ho f.hp (by omega)
     exact⟨h.1,h.2.1⟩
    show ∃ z,_
    refine q_l ?_
    exact(tw f.ho f.hp (by omega)).2.2
   rintro d hd
   try dsimp only at hd
   subst hd
   refine ak ?_
   show J X _ _ _
   refine gI hG ?_ ?_
   ·try simp only[ba]
    exact Hc f
   refine aj ?_
   refine ak ?_
   show J X _ _ _
   refine ah hG ?_ ?_
   ·first|trivial|omega|(simp;done)|(simp;omega)
   refine aj ?_
   refine ak ?_
   show J X _ _ _
   refine ah hG ?_ ?_
   ·try simp only[ba]
    exact Hd f
   refine aj ?_
   refine ak ?_
   refine ak ?_
   show J X _ _ _
   refine ah hG ?_ ?_
   ·first|trivial|omega|(simp;done)|(simp;omega)
   refine aj ?_
   refine ax ?_
   refine br (fun(z:Nat×List Int×List Int)=>(⟨[(8, .l (.z (.int .u32) (aN o))),(9, .l (.ownS 1392)),(10, .l (.z (.slice (.int .u32)) D)),(11, .l (.z (.int .i64) (List.length o:Int))),(12, .l (.ownS 62)),(13, .l (.z (.int .i64) ((z.1:Int)-1)))], [(1392, .arr (.int .u32) 161 z.2.1),(62, .arr (.int .u32) 161 z.2.2)]⟩:aa)) (fun z=>ka (valL m*aN o) (valL D) (List.length m) (p+2) z.1 z.2.1 z.2.2) (fun z=>z.1) (List.length m+1-List.length o,padL (valL m*aN o).toNat (List.length m+1),List.replicate (List.length m+1-List.length o) 0) ?_ ?_ ?_
   ·refine q_l ?_
    exact Ni f
   ·exact C5 f
   ·rintro⟨k,T,Q⟩ hz
    try dsimp only at hz
    have hz1:=hz.1
    have hz3:=hz.2.2.1
    have hz5:=hz.2.2.2.2.1
    refine ak ?_
    refine ak ?_
    show J X _ _ _
    refine ah hG ?_ ?_
    ·first|trivial|omega|(simp;done)|(simp;omega)
    refine aj ?_
    refine ao ?_ ?_
    ·intro hb2
     try simp only[decide_eq_true_eq] at hb2
     obtain⟨j,rfl⟩:∃ j,k=j+1:=⟨k-1,by omega⟩
     have ej:(((j+1:Nat)):Int)-1=(j:Int):=by omega
     rw[ej]
     have hw17:(j:Int).toNat<List.length T:=by omega
     have hw19:∀ v:Int,(j:Int).toNat<(List.take (j:Int).toNat T++put (List.drop (j:Int).toNat T) (List.length D+1) v).length:=fun v=>by rw[Ev _ (by rw[hDl];omega)];exact hw17
     have ej0:IntKind.i64.wrap ((j:Int)+(List.length o:Int))=((j+(p+2):Nat):Int):=by rw[wi (by omega) (by omega)];omega
     have ej1:IntKind.i64.wrap (((j+(p+2):Nat):Int)-1)=((j+(p+1):Nat):Int):=by rw[wi (by omega) (by omega)];omega
     have ej2:IntKind.i64.wrap (((j+(p+2):Nat):Int)-2)=((j+p:Nat):Int):=by rw[wi (by omega) (by omega)];omega
     have g:=zo (j:=j) (p:=p) hz.2.1 f.hL f.hDl f.hVp (by omega) hz.2.2.2.2.2.2
     have hD1:=(f.hL.getD (p+1)).2
     have hTj:j+(p+3)<=List.length T:=by omega
     refine aq ?_
     refine aj ?_
     refine ak ?_
     refine ax ?_
     refine ck (fun(z:Int)=>(⟨[(8, .l (.z (.int .u32) (aN o))),(9, .l (.ownS 1392)),(10, .l (.z (.slice (.int .u32)) D)),(11, .l (.z (.int .i64) (List.length o:Int))),(12, .l (.ownS 62)),(13, .l (.z (.int .i64) (j:Int))),(14, .l (.z (.int .u64) z))], [(1392, .arr (.int .u32) 161 T),(62, .arr (.int .u32) 161 Q)]⟩:aa)) (fun z=>z=T.getD (j+(p+2)) 0*LB+T.getD (j+(p+1)) 0/\z<LB*LB) ?_ ?_
     ·show J X _ _ _
      refine gI hG ?_ ?_
      ·try simp only[ba]
       simp only[ej0,ej1,Int.toNat_natCast]
       exact⟨⟨by omega,by omega⟩,by omega,⟨by omega,by omega⟩,by omega⟩
      show ∃ z,_
      refine q_l ?_
      simp only[f.en1,f.en2,ej0,ej1,ej2,Int.toNat_natCast,fN]
      have:=J8 (hz.2.1.getD (j+(p+2))) (hz.2.1.getD (j+(p+1)))
      rw[this.1]
      exact⟨rfl,this.2.1⟩
     rintro top ht
     try dsimp only at ht
     have g2:=g
     rw[<- ht.1] at g2
     have ht0:=g2.htop
     refine ck (fun(z:Int)=>(⟨[(8, .l (.z (.int .u32) (aN o))),(9, .l (.ownS 1392)),(10, .l (.z (.slice (.int .u32)) D)),(11, .l (.z (.int .i64) (List.length o:Int))),(12, .l (.ownS 62)),(13, .l (.z (.int .i64) (j:Int))),(14, .l (.z (.int .u64) top)),(15, .l (.z (.int .u64) z))], [(1392, .arr (.int .u32) 161 T),(62, .arr (.int .u32) 161 Q)]⟩:aa)) (fun z=>z=min (top/D.getD (p+1) 0) 999999999) ?_ ?_
     ·show J X _ _ _
      refine ah hG ?_ ?_
      ·try simp only[ba]
       simp only[f.en1,f.en2,ej0,ej1,ej2,Int.toNat_natCast,fN]
       exact⟨⟨by omega,by omega⟩,(zp ht0 ht.2 g.hD1 hD1).2⟩
      show ∃ z,_
      refine q_l ?_
      simp only[f.en1,f.en2,ej0,ej1,ej2,Int.toNat_natCast,fN]
      rw[(zp ht0 ht.2 g.hD1 hD1).1]
     rintro gs hg
     try dsimp only at hg
     refine ak ?_
     refine ax ?_
     refine br (fun(z:Int)=>(⟨[(8, .l (.z (.int .u32) (aN o))),(9, .l (.ownS 1392)),(10, .l (.z (.slice (.int .u32)) D)),(11, .l (.z (.int .i64) (List.length o:Int))),(12, .l (.ownS 62)),(13, .l (.z (.int .i64) (j:Int))),(14, .l (.z (.int .u64) top)),(15, .l (.z (.int .u64) z))], [(1392, .arr (.int .u32) 161 T),(62, .arr (.int .u32) 161 Q)]⟩:aa)) (fun z=>Hb (valL ((T.drop j).take (p+3))) (valL D) top (D.getD (p+1) 0) z) (fun z=>z.toNat) gs ?_ ?_ ?_
     ·simp only[ml0,ml1,Nat.reduceLT,Nat.reduceEqDiff,Nat.reduceAdd,Nat.reduceMul,Nat.reduceSub,Nat.reduceLeDiff,Nat.reduceBEq,Nat.reduceBNe,reduceIte,reduceDIte,reduceCtorEq]
     ·exact Ng g2 hg
     ·rintro q hq
      try dsimp only at hq
      refine ak ?_
      refine ak ?_
      show J X _ _ _
      refine gI hG ?_ ?_
      ·try simp only[ba]
       simp only[f.en1,f.en2,ej0,ej1,ej2,Int.toNat_natCast,fN]
       exact⟨⟨by omega,by omega⟩,⟨by omega,by omega⟩,⟨by omega,by omega⟩,by omega,fun h=>h,fun h=>⟨h,by omega,by omega⟩,fun h=>h⟩
      refine aj ?_
      refine ao ?_ ?_
      ·intro hb3
       try simp only[bt] at hb3
       refine aq ?_
       refine aj ?_
       refine ax ?_
       show J X _ _ _
       refine ah hG ?_ ?_
       ·first|trivial|omega|(simp;done)|(simp;omega)
       refine aL ?_
       show ∃ z,_
       refine q_l ?_
       simp only[f.en1,f.en2,ej0,ej1,ej2,Int.toNat_natCast,fN] at hb3
       exact Pk g2 ht.2 hD1 hq hb3
      ·intro hb3
       try simp only[bf] at hb3
       refine bh ?_
       refine aE ?_
       refine az ?_
       refine ay ?_
       refine aj ?_
       refine ck (fun(z:Int×List Int)=>(⟨[(8, .l (.z (.int .u32) (aN o))),(9, .l (.ownS 1392)),(10, .l (.z (.slice (.int .u32)) D)),(11, .l (.z (.int .i64) (List.length o:Int))),(12, .l (.ownS 62)),(13, .l (.z (.int .i64) (j:Int))),(15, .l (.z (.int .u64) z.1))], [(1392, .arr (.int .u32) 161 z.2),(62, .arr (.int .u32) 161 Q)]⟩:aa)) (fun z=>z.1=valL ((T.drop j).take (p+3))/valL D/\z.2=T.take j++put (T.drop j) (p+3) (valL ((T.drop j).take (p+3))-z.1*valL D)) ?_ ?_
       ·refine ak ?_
        show J X _ _ _
        refine cF hG (by simp only[hw17,hT,wz,bW.eq_def,b8.eq_def,eX,wy,wx,lZ,oI,ef,mx0,mx1,mx2,mx3,mx4,mx5,mx6,aV,bp,bF,aZ,bo,Ty.fieldTy,Ty.fieldOf,Nat.reduceLT,Nat.reduceEqDiff,Nat.reduceAdd,Nat.reduceMul,Nat.reduceSub,Nat.reduceLeDiff,Nat.reduceBEq,Nat.reduceBNe,reduceIte,reduceDIte,reduceCtorEq];rfl) ?_ ?_
        ·try simp only[ba]
         simp only[Int.toNat_natCast]
         exact⟨⟨by omega,by omega⟩,⟨hz.2.1.drop j,f.hL,⟨hq.2.2.2,hq.2.1⟩,by rw[hDl,List.length_drop];omega,by rw[hDl];unfold CAP;omega⟩,by rw[List.length_take];omega⟩
        refine aj ?_
        refine ao ?_ ?_
        ·intro hb4
         try simp only[bt] at hb4
         refine ak ?_
         show J X _ _ _
         refine ah hG ?_ ?_
         ·first|trivial|omega|(simp;done)|(simp;omega)
         refine aj ?_
         show J X _ _ _
         refine cF hG (by simp only[hw17,hw19,hT,wz,bW.eq_def,b8.eq_def,eX,wy,wx,lZ,oI,ef,mx0,mx1,mx2,mx3,mx4,mx5,mx6,aV,bp,bF,aZ,bo,Ty.fieldTy,Ty.fieldOf,Nat.reduceLT,Nat.reduceEqDiff,Nat.reduceAdd,Nat.reduceMul,Nat.reduceSub,Nat.reduceLeDiff,Nat.reduceBEq,Nat.reduceBNe,reduceIte,reduceDIte,reduceCtorEq];rfl) ?_ ?_
         ·try simp only[ba]
          simp only[Int.toNat_natCast,f.hDl3]
          rw[(tz _ hTj).1,(tz _ hTj).2,Ev _ hTj]
          exact⟨⟨by omega,by omega⟩,⟨Et (hz.2.1.drop j) _ _,f.hL,by rw[xm _ (by rw[List.length_drop];omega),List.length_drop];omega,by rw[hDl];unfold CAP;omega⟩,by rw[List.length_take];omega⟩
         show ∃ z,_
         refine q_l ?_
         simp only[Int.toNat_natCast,f.hDl3] at hb4 ⊢
         simp only[f.en1,f.en2,ej0,ej1,ej2,Int.toNat_natCast,fN] at hb3
         have hst:=Ka g2 ht.2 hD1 hq hb3
         first|(have hq1:=hst.1 hb4;have hqn:=g.qnn;have hql:=g.qlt;have hB:LB=1000000000:=rfl;rw[w64 (x:=q-1) (by omega) (by omega),vz hTj];exact⟨hq1,rfl⟩)|exact⟨hst.2 hb4,trivial⟩|exact⟨hst.2 hb4,rfl⟩
        ·intro hb4
         try simp only[bf] at hb4
         refine aq ?_
         show ∃ z,_
         refine q_l ?_
         simp only[Int.toNat_natCast,f.hDl3] at hb4 ⊢
         simp only[f.en1,f.en2,ej0,ej1,ej2,Int.toNat_natCast,fN] at hb3
         have hst:=Ka g2 ht.2 hD1 hq hb3
         first|(have hq1:=hst.1 hb4;have hqn:=g.qnn;have hql:=g.qlt;have hB:LB=1000000000:=rfl;rw[w64 (x:=q-1) (by omega) (by omega),vz hTj];exact⟨hq1,rfl⟩)|exact⟨hst.2 hb4,trivial⟩|exact⟨hst.2 hb4,rfl⟩
       rintro⟨q2,Tn⟩ hq2
       try dsimp only at hq2
       show J X _ _ _
       refine ah hG ?_ ?_
       ·try simp only[ba]
        exact⟨⟨by omega,by omega⟩,by omega⟩
       refine aL ?_
       refine aj ?_
       show J X _ _ _
       refine ah hG ?_ ?_
       ·first|trivial|omega|(simp;done)|(simp;omega)
       show ∃ z,_
       refine q_l ?_
       rw[wi (x:=(j:Int)-1) (by omega) (by omega),hq2.2,Int.toNat_natCast,w32 (by rw[hq2.1];exact g.qnn) (by rw[hq2.1];have:=g.qlt;have hB:LB=1000000000:=rfl;omega)]
       exact⟨j,rfl,G9 f.hL f.hDl f.hVp f.hlm hz hq2.1,by omega⟩
    ·intro hb2
     try simp only[bf] at hb2
     refine bh ?_
     refine aE ?_
     refine az ?_
     refine ay ?_
     refine aj ?_
     refine ak ?_
     show J X _ _ _
     refine ah hG ?_ ?_
     ·try simp only[ba]
      exact C6 f hz (by omega)
     refine aj ?_
     refine ak ?_
     show J X _ _ _
     refine ah hG ?_ ?_
     ·first|trivial|omega|(simp;done)|(simp;omega)
     refine aj ?_
     refine av ?_
     refine q_e [62] ?_
     obtain rfl:k=0:=by omega
     exact Nh f hz
def Gd(B:ag):Tab:={types:= [(3,(.int .i64)),(4, .bool),(87,(.slice (.int .u32))),(89,(.st (.pair .bool (.slice (.int .u32)))))],elems:= [],cons:= [(110,Ay),(133,jm),(150,ef),(154,pI),(177,jO),(179,Ow)],hint:= [],N:=47,base:=B}
theorem MC{B:ag}(hB:aB B):aG Tryz.prog (Gd B):=⟨⟨tc ty3 (tc ty4 (tc iz (tc gK (ae)))),af,by simp only[Gd,ioB];omega⟩,aD (cc Tryz.func110 (x9 hB) (cc Tryz.func133 (qf hB) (cc Tryz.func150 (kl hB) (cc Tryz.func154 (x6 hB) (cc Tryz.func177 (Gc hB) (cc Tryz.func179 (Ox hB) (au))))))),by kernel_rfl⟩
def Ge:Con:=fun l os=>match l,os with
 | [.z (.st (.pair .bool (.slice (.int .u32)))) x, .z (.st (.pair .bool (.slice (.int .u32)))) y], []=>some (n9 x y, [.z (.st (.pair .bool (.slice (.int .u32)))) (enc (bN (dec x) (dec y))), .z (.st (.pair .bool (.slice (.int .u32)))) (enc (jk (dec x) (dec y)))], [])
 |_,_=>none
theorem OJ{B:ag}(hB:aB B):Valid B Tryz.prog 149 Ge:=by
 refine ab (MC hB).tab Tryz.func149 rfl rfl rfl ?_
 intro args os C rs os' hc hC
 unfold Ge at hc
 split at hc
 case h_2=>cases hc
 rename_i x y
 cases hc
 refine v_h (MC hB) fun X hP hT hr hG=> ?_
 have hU:=Gd.eq_1
 unfold Gd at hT
 have hX:=ai @Ay.eq_1<|ai @jO.eq_1<|ai @pI.eq_1<|ai @jm.eq_1<|ai @Ow.eq_1<| @ef.eq_1
 simp only[Tryz.f149,aC,al,ioB]
 refine s_g hG ?_
 refine s_q hG ?_ ?_
 ·try simp only[ba]
  exact hC.side1
 refine s_d hG ?_ ?_
 ·try simp only[ba]
  exact hC.side2
 refine ak ?_
 refine s_q hG ?_ ?_
 ·try simp only[ba]
  exact⟨enc_ok _,fun h=>h⟩
 refine ao ?_ ?_
 ·intro hb0
  try simp only[bt] at hb0
  refine gI hG ?_ ?_
  ·try simp only[ba]
   exact hC.side4
  refine aj ?_
  refine s_d hG ?_ ?_
  ·first|trivial|omega|(simp;done)|(simp;omega)
  refine av ?_
  refine q_e [] ?_
  exact hC.fin1 hb0
 ·intro hb0
  try simp only[bf] at hb0
  refine aq ?_
  refine aj ?_
  refine s_d hG ?_ ?_
  ·first|trivial|omega|(simp;done)|(simp;omega)
  refine av ?_
  refine q_e [] ?_
  exact hC.fin2 hb0
def uF(B:ag):Tab:={types:= [(87,(.slice (.int .u32))),(161,(.int .u32)),(164,(.int .u64))],elems:= [],cons:= [(193,wq)],hint:= [],N:=16,base:=B}
theorem MD{B:ag}(hB:aB B):aG Tryz.prog (uF B):=⟨⟨tc iz (tc fT (tc nv (ae))),af,by simp only[uF,ioB];omega⟩,aD (cc Tryz.func193 (FP hB) (au)),by kernel_rfl⟩
def yn:Con:=fun l os=>match l,os with
 | [.z (.slice (.int .u32)) m], []=>some (Lim m/\m.length<=2, [.z (.int .u64) (valL m)], [])
 |_,_=>none
theorem OK{B:ag}(hB:aB B):Valid B Tryz.prog 178 yn:=by
 refine ab (MD hB).tab Tryz.func178 rfl rfl rfl ?_
 intro args os C rs os' hc hC
 unfold yn at hc
 split at hc
 case h_2=>cases hc
 rename_i m
 cases hc
 refine v_h (MD hB) fun X hP hT hr hG=> ?_
 have hU:=uF.eq_1
 unfold uF at hT
 have hX:= @wq.eq_1
 simp only[Tryz.f178,aC,al,ioB]
 refine s_g hG ?_
 refine s_g hG ?_
 refine ak ?_
 refine s_g hG ?_
 refine ax ?_
 refine Eg hr (gf:=208) (caps:= [.z (.ptr (.slice (.int .u32))) m]) (items:=cT m) (by simp only[hT,uF,mx0,mx1,mx2,mx3,mx4,mx5,mx6,aV,bp,bF,aZ,bo,Ty.fieldTy,Ty.fieldOf,Nat.reduceLT,Nat.reduceEqDiff,Nat.reduceAdd,Nat.reduceMul,Nat.reduceSub,Nat.reduceLeDiff,Nat.reduceBEq,Nat.reduceBNe,reduceIte,reduceDIte,reduceCtorEq];try rfl) (by rfl) (by rw[hP];exact zz m) (by rfl) [3] (by rfl) (by simp only[hT,uF];try rfl) (fun(k:Nat) (z:Int)=>(⟨[(3, .l (.ownP 3 0))], [(3, .box 164 [.z (.int .u64) z])]⟩:aa)) (fun(k:Nat) (z:Int)=>z=valL (List.drop (List.length m-k) m)) 0 ?_ ?_ ?_ ?_ ?_
 ·simp only[ml0,ml1,Nat.reduceLT,Nat.reduceEqDiff,Nat.reduceAdd,Nat.reduceMul,Nat.reduceSub,Nat.reduceLeDiff,Nat.reduceBEq,Nat.reduceBNe,reduceIte,reduceDIte,reduceCtorEq]
 ·rw[JY];rfl
 ·intro k z;rfl
 ·intro k hk
  rintro z hz
  try dsimp only at hz
  have hk:k<List.length m:=by simpa [cT] using hk
  refine⟨_,by simp only[hT,uF,cT,tC,mx0,mx1,mx2,mx3,mx4,mx5,mx6,aV,bp,bF,aZ,bo,Ty.fieldTy,Ty.fieldOf,Nat.reduceLT,Nat.reduceEqDiff,Nat.reduceAdd,Nat.reduceMul,Nat.reduceSub,Nat.reduceLeDiff,Nat.reduceBEq,Nat.reduceBNe,reduceIte,reduceDIte,reduceCtorEq,List.getElem_map,List.getElem_range];rfl,?_⟩
  intro X' hP' hT'
  have hG':aG X'.P X'.T:=by rw[hP',hT'];exact hG.keep _
  rw[hT] at hT'
  refine ax ?_
  refine nW hG' ?_ ?_
  ·first|trivial|omega|(simp;done)|(simp;omega)
  refine aL ?_
  show ∃ z,_
  simp only[ml0,ml1,Nat.reduceLT,Nat.reduceEqDiff,Nat.reduceAdd,Nat.reduceMul,Nat.reduceSub,Nat.reduceLeDiff,Nat.reduceBEq,Nat.reduceBNe,reduceIte,reduceDIte,reduceCtorEq]
  exact zg hC.1 hC.2 hk hz
 ·rintro z hz
  try dsimp only at hz
  rw[show List.length (cT m)=List.length m by simp[cT],Nat.sub_self,List.drop_zero] at hz
  refine aL ?_
  refine aj ?_
  refine s_g hG ?_
  refine av ?_
  refine q_e [] ?_
  exact hz
def Gf(B:ag):Tab:={types:= [(3,(.int .i64)),(4, .bool),(87,(.slice (.int .u32))),(89,(.st (.pair .bool (.slice (.int .u32))))),(161,(.int .u32)),(164,(.int .u64))],elems:= [(87,161)],cons:= [(150,ef),(177,jO),(178,yn)],hint:= [],N:=68,base:=B}
theorem ME{B:ag}(hB:aB B):aG Tryz.prog (Gf B):=⟨⟨tc ty3 (tc ty4 (tc iz (tc gK (tc fT (tc nv (ae)))))),aR (by kernel_rfl) (af),by simp only[Gf,ioB];omega⟩,aD (cc Tryz.func150 (kl hB) (cc Tryz.func177 (Gc hB) (cc Tryz.func178 (OK hB) (au)))),by kernel_rfl⟩
def wA:Con:=fun l os=>match l,os with
 | [.z (.st (.pair .bool (.slice (.int .u32)))) x, .z (.st (.pair .bool (.slice (.int .u32)))) y], []=>some (oa x y, [.z (.st (.pair .bool (.slice (.int .u32)))) (enc (cC (dec x) (dec y)))], [])
 |_,_=>none
theorem Gg{B:ag}(hB:aB B):Valid B Tryz.prog 147 wA:=by
 refine ab (ME hB).tab Tryz.func147 rfl rfl rfl ?_
 intro args os C rs os' hc hC
 unfold wA at hc
 split at hc
 case h_2=>cases hc
 rename_i x y
 cases hc
 refine v_h (ME hB) fun X hP hT hr hG=> ?_
 have hU:=Gf.eq_1
 unfold Gf at hT
 have hX:=ai @jO.eq_1<|ai @yn.eq_1<| @ef.eq_1
 simp only[Tryz.f147,aC,al,ioB]
 refine s_g hG ?_
 refine s_d hG ?_ ?_
 ·first|trivial|omega|(simp;done)|(simp;omega)
 refine ak ?_
 refine ax ?_
 refine br (fun(z:List Int×List Int)=>(⟨[(4, .l (.ownP 4 0)),(5, .l (.z (.slice (.int .u32)) z.1)),(6, .l (.z (.slice (.int .u32)) z.2))], [(4, .box 89 [.z .bool false, .val (.slice none 0 0)])]⟩:aa)) (fun z=>xo x y z.1 z.2) (fun z=>(valL z.2).toNat) (x.2,y.2) ?_ ?_ ?_
 ·simp only[ml0,ml1,Nat.reduceLT,Nat.reduceEqDiff,Nat.reduceAdd,Nat.reduceMul,Nat.reduceSub,Nat.reduceLeDiff,Nat.reduceBEq,Nat.reduceBNe,reduceIte,reduceDIte,reduceCtorEq]
 ·exact xo.start hC
 ·rintro⟨u,v⟩ hz
  try dsimp only at hz
  have hcc:2*(List.length x.2+List.length y.2)+4<1000000000000:=hC.hc
  refine ak ?_
  refine s_g hG ?_
  refine ao ?_ ?_
  ·intro hb0
   try simp only[bt] at hb0
   refine aq ?_
   refine aj ?_
   refine ax ?_
   refine s_q hG ?_ ?_
   ·try simp only[ba]
    exact hz.side3 hC (gp (by omega))
   refine ah hG ?_ ?_
   ·try simp only[ba]
    exact hz.side4 hC (gp (by omega))
   refine aL ?_
   show ∃ z,_
   refine q_l ?_
   exact hz.next hC (gp (by omega))
  ·intro hb0
   try simp only[bf] at hb0
   refine bh ?_
   refine aE ?_
   refine az ?_
   refine ay ?_
   refine aj ?_
   refine ak ?_
   refine s_g hG ?_
   refine ao ?_ ?_
   ·intro hb1
    try simp only[bt] at hb1
    refine s_q hG ?_ ?_
    ·try simp only[ba]
     exact⟨hz.hu.1,by have:=hz.hul;unfold CAP;omega⟩
    refine av ?_
    refine aw ?_
    refine q_e [65] ?_
    exact hz.stop (C7 (by omega))
   ·intro hb1
    simp only[beq_eq_false_iff_ne,ne_eq] at hb1
    refine aq ?_
    refine aj ?_
    refine s_q hG ?_ ?_
    ·try simp only[ba]
     exact hz.side3 hC (gp (by omega))
    refine s_q hG ?_ ?_
    ·try simp only[ba]
     have hr:=hz.rest (gp (by omega))
     exact⟨⟨hz.hv.1,by omega⟩,hz.side4 hC (gp (by omega)),hr.1.1,by omega⟩
    refine ak ?_
    refine ax ?_
    refine br (fun(z:Int×Int)=>(⟨[(4, .l (.ownP 4 0)),(11, .l (.z (.int .u64) z.1)),(12, .l (.z (.int .u64) z.2))], [(4, .box 89 [.z .bool false, .val (.slice none 0 0)])]⟩:aa)) (fun z=>xp x y z.1 z.2) (fun z=>z.2.toNat) (valL v,valL (enc (dec (false,dS u v))).2) ?_ ?_ ?_
    ·simp only[ml0,ml1,Nat.reduceLT,Nat.reduceEqDiff,Nat.reduceAdd,Nat.reduceMul,Nat.reduceSub,Nat.reduceLeDiff,Nat.reduceBEq,Nat.reduceBNe,reduceIte,reduceDIte,reduceCtorEq]
    ·exact xp.start hz hC (gp (by omega)) (by omega)
    ·rintro⟨a,b⟩ he
     try dsimp only at he
     refine ak ?_
     refine s_g hG ?_
     refine ao ?_ ?_
     ·intro hb2
      try simp only[bt] at hb2
      refine aq ?_
      refine aj ?_
      refine ax ?_
      refine gI hG ?_ ?_
      ·try simp only[ba]
       omega
      refine aL ?_
      show ∃ z,_
      refine q_l ?_
      exact he.next hb2
     ·intro hb2
      try simp only[decide_eq_false_iff_not] at hb2
      have he2:=he.stop hb2
      refine bh ?_
      refine aE ?_
      refine az ?_
      refine ay ?_
      refine aj ?_
      refine s_g hG ?_
      refine ak ?_
      refine ax ?_
      refine br (fun(z:Nat×List Int)=>(⟨[(11, .l (.z (.int .u64) (z.1:Int))),(13, .l (.ownP 13 0)),(4, .l (.ownP 4 0))], [(13, .box 89 [.z .bool false, .ownS 65]),(65, .arr (.int .u32) 161 z.2),(4, .box 89 [.z .bool false, .val (.slice none 0 0)])]⟩:aa)) (fun z=>z.2++limbs z.1=limbs (cC (dec x) (dec y)).toNat/\z.1<18446744073709551616) (fun z=>z.1) ((cC (dec x) (dec y)).toNat, []) ?_ ?_ ?_
      ·refine q_l ?_
       exact⟨he2.1,by unfold ioB;omega⟩
      ·exact⟨by simp,he2.2⟩
      ·rintro⟨w,l⟩ ⟨g1,g2⟩
       try dsimp only at g1 g2
       refine ak ?_
       refine s_g hG ?_
       refine ao ?_ ?_
       ·intro hb3
        try simp only[bt] at hb3
        refine aq ?_
        refine aj ?_
        refine ak ?_
        refine ax ?_
        refine ah hG ?_ ?_
        ·try simp only[ba]
         have h3:=mG he2.2
         have h4:=congrArg List.length g1
         simp only[List.length_append] at h4
         exact⟨by decide,by unfold Cm.Roomy;omega⟩
        refine aL ?_
        refine aj ?_
        refine ah hG ?_ ?_
        ·first|trivial|omega|(simp;done)|(simp;omega)
        show ∃ z,_
        refine q_l ?_
        exact pj g1 g2 hb3
       ·intro hb3
        try simp only[bf] at hb3
        refine bh ?_
        refine aE ?_
        refine az ?_
        refine ay ?_
        refine aj ?_
        refine s_g hG ?_
        refine av ?_
        refine q_e [65] ?_
        have h0:w=0:=by omega
        subst h0
        rw[show limbs 0= [] by simp[limbs],List.append_nil] at g1
        rw[g1];exact Nk _ _
def qs(B:ag):Tab:={types:= [(3,(.int .i64)),(4, .bool),(87,(.slice (.int .u32))),(89,(.st (.pair .bool (.slice (.int .u32))))),(91,(.st (.pair (.st (.pair .bool (.slice (.int .u32)))) (.st (.pair .bool (.slice (.int .u32))))))),(161,(.int .u32))],elems:= [],cons:= [(147,wA),(148,Ax),(149,Ge)],hint:= [2,3,5],N:=43,base:=B}
theorem AM{B:ag}(hB:aB B):aG Tryz.prog (qs B):=⟨⟨tc ty3 (tc ty4 (tc iz (tc gK (tc ty91 (tc fT (ae)))))),af,by simp only[qs,ioB];omega⟩,aD (cc Tryz.func147 (Gg hB) (cc Tryz.func148 (x5 hB) (cc Tryz.func149 (OJ hB) (au)))),by kernel_rfl⟩
def mu:Con:=fun l os=>match l,os with
 | [.z (.st (.pair .bool (.slice (.int .u32)))) n, .z (.st (.pair .bool (.slice (.int .u32)))) d], []=>some (gO n d, [.z (.st (.pair (.st (.pair .bool (.slice (.int .u32)))) (.st (.pair .bool (.slice (.int .u32)))))) (bj (Rat.divInt (dec n) (dec d)))], [])
 |_,_=>none
theorem l4{B:ag}(hB:aB B):Valid B Tryz.prog 108 mu:=by
 refine ab (AM hB).tab Tryz.func108 rfl rfl rfl ?_
 intro args os C rs os' hc hC
 unfold mu at hc
 split at hc
 case h_2=>cases hc
 rename_i n d
 cases hc
 refine v_h (AM hB) fun X hP hT hr hG=> ?_
 have hU:=qs.eq_1
 unfold qs at hT
 have hX:=ai @Ge.eq_1<|ai @wA.eq_1<| @Ax.eq_1
 simp only[Tryz.f108,aC,al,ioB]
 refine s_g hG ?_
 refine s_q hG ?_ ?_
 ·try simp only[ba]
  exact Pw hC
 refine ck (fun(z:Int)=>(⟨[(2, .l (.ownP 2 0)),(3, .l (.ownP 3 0)),(4, .l (.ownP 4 0)),(5, .l (.ownP 5 0))], [(2, .box 89 [.z .bool n.1, .z (.slice (.int .u32)) n.2]),(3, .box 89 [.z .bool d.1, .z (.slice (.int .u32)) d.2]),(4, .box 91 [.z .bool false, .val (.slice none 0 0), .z .bool false, .val (.slice none 0 0)]),(5, .box 89 [.z .bool (enc z).1, .z (.slice (.int .u32)) (enc z).2])]⟩:aa)) (fun z=>z=dB (dec n) (dec d)) ?_ ?_
 ·refine s_g hG ?_
  refine ao ?_ ?_
  ·intro hb0
   try simp only[bt] at hb0
   refine ah hG ?_ ?_
   ·try simp only[ba]
    exact Px hC
   show ∃ z,_
   refine q_l ?_
   try simp only[pe,bR]
   first|exact⟨_,rfl,rfl,Qf hC hb0⟩|exact⟨_,rfl,rfl,Qg hC hb0⟩
  ·intro hb0
   try simp only[bf] at hb0
   refine aq ?_
   show ∃ z,_
   refine q_l ?_
   try simp only[pe,bR]
   first|exact⟨_,rfl,rfl,Qf hC hb0⟩|exact⟨_,rfl,rfl,Qg hC hb0⟩
 rintro g hg
 try dsimp only at hg
 subst hg
 have hp:=mk_pos hC
 refine ak ?_
 refine s_q hG ?_ ?_
 ·try simp only[ba]
  (repeat' (first|apply And.intro|intro _))<;>(try simp only[decide_eq_true_eq,decide_eq_false_iff_not,Bool.not_eq_true',beq_iff_eq,Int.toNat_natCast] at*)<;>first|assumption|omega|trivial|(simp_all;done)|(simp_all;omega)
 refine ao ?_ ?_
 ·intro hb1
  try simp only[bt] at hb1
  refine s_q hG ?_ ?_
  ·try simp only[ba]
   exact(KC hC).1
  refine ah hG ?_ ?_
  ·try simp only[ba]
   exact(KC hC).2
  refine aj ?_
  refine s_g hG ?_
  refine av ?_
  refine q_e [] ?_
  simp only[pe,bR]
  exact(mM hC.2.2.1).symm
 ·intro hb1
  try simp only[bf] at hb1
  refine aq ?_
  refine aj ?_
  refine s_g hG ?_
  refine av ?_
  refine q_e [] ?_
  exact Py hC hb1
def qt(B:ag):Tab:={types:= [(89,(.st (.pair .bool (.slice (.int .u32))))),(91,(.st (.pair (.st (.pair .bool (.slice (.int .u32)))) (.st (.pair .bool (.slice (.int .u32)))))))],elems:= [],cons:= [(108,mu),(109,Az),(110,Ay)],hint:= [],N:=22,base:=B}
theorem AN{B:ag}(hB:aB B):aG Tryz.prog (qt B):=⟨⟨tc gK (tc ty91 (ae)),af,by simp only[qt,ioB];omega⟩,aD (cc Tryz.func108 (l4 hB) (cc Tryz.func109 (ya hB) (cc Tryz.func110 (x9 hB) (au)))),by kernel_rfl⟩
def kz:Con:=fun l os=>match l,os with
 | [.z (.st (.pair (.st (.pair .bool (.slice (.int .u32)))) (.st (.pair .bool (.slice (.int .u32)))))) x, .z (.st (.pair (.st (.pair .bool (.slice (.int .u32)))) (.st (.pair .bool (.slice (.int .u32)))))) y], []=>some (eO x y, [.z (.st (.pair (.st (.pair .bool (.slice (.int .u32)))) (.st (.pair .bool (.slice (.int .u32)))))) (bj (bc x+bc y))], [])
 |_,_=>none
theorem jP{B:ag}(hB:aB B):Valid B Tryz.prog 58 kz:=by
 refine ab (AN hB).tab Tryz.func58 rfl rfl rfl ?_
 intro args os C rs os' hc hC
 unfold kz at hc
 split at hc
 case h_2=>cases hc
 rename_i x y
 cases hc
 refine v_h (AN hB) fun X hP hT hr hG=> ?_
 have hU:=qt.eq_1
 unfold qt at hT
 have hX:=ai @Ay.eq_1<|ai @mu.eq_1<| @Az.eq_1
 simp only[Tryz.f58,aC,al,ioB]
 refine s_g hG ?_
 refine s_d hG ?_ ?_
 ·try simp only[ba]
  exact Hj hC
 refine av ?_
 refine q_e [] ?_
 simp only[pe2]
 exact KD hC
def qu(B:ag):Tab:={types:= [(89,(.st (.pair .bool (.slice (.int .u32))))),(91,(.st (.pair (.st (.pair .bool (.slice (.int .u32)))) (.st (.pair .bool (.slice (.int .u32)))))))],elems:= [],cons:= [(148,Ax)],hint:= [],N:=9,base:=B}
theorem AO{B:ag}(hB:aB B):aG Tryz.prog (qu B):=⟨⟨tc gK (tc ty91 (ae)),af,by simp only[qu,ioB];omega⟩,aD (cc Tryz.func148 (x5 hB) (au)),by kernel_rfl⟩
def Gh:Con:=fun l os=>match l,os with
 | [.z (.st (.pair (.st (.pair .bool (.slice (.int .u32)))) (.st (.pair .bool (.slice (.int .u32)))))) x], []=>some (NOK x/\lq (bc x)<=QC, [.z (.st (.pair (.st (.pair .bool (.slice (.int .u32)))) (.st (.pair .bool (.slice (.int .u32)))))) (bj (-bc x))], [])
 |_,_=>none
theorem Ij{B:ag}(hB:aB B):Valid B Tryz.prog 111 Gh:=by
 refine ab (AO hB).tab Tryz.func111 rfl rfl rfl ?_
 intro args os C rs os' hc hC
 unfold Gh at hc
 split at hc
 case h_2=>cases hc
 rename_i x
 cases hc
 refine v_h (AO hB) fun X hP hT hr hG=> ?_
 have hU:=qu.eq_1
 unfold qu at hT
 have hX:= @Ax.eq_1
 simp only[Tryz.f111,aC,al,ioB]
 refine s_g hG ?_
 refine s_d hG ?_ ?_
 ·try simp only[ba]
  exact Hk hC
 refine av ?_
 refine q_e [] ?_
 exact KE hC.1
def qv(B:ag):Tab:={types:= [(91,(.st (.pair (.st (.pair .bool (.slice (.int .u32)))) (.st (.pair .bool (.slice (.int .u32)))))))],elems:= [],cons:= [(58,kz),(111,Gh)],hint:= [],N:=9,base:=B}
theorem AP{B:ag}(hB:aB B):aG Tryz.prog (qv B):=⟨⟨tc ty91 (ae),af,by simp only[qv,ioB];omega⟩,aD (cc Tryz.func58 (jP hB) (cc Tryz.func111 (Ij hB) (au))),by kernel_rfl⟩
def eS:Con:=fun l os=>match l,os with
 | [.z (.st (.pair (.st (.pair .bool (.slice (.int .u32)))) (.st (.pair .bool (.slice (.int .u32)))))) x, .z (.st (.pair (.st (.pair .bool (.slice (.int .u32)))) (.st (.pair .bool (.slice (.int .u32)))))) y], []=>some (eO x y, [.z (.st (.pair (.st (.pair .bool (.slice (.int .u32)))) (.st (.pair .bool (.slice (.int .u32)))))) (bj (bc x-bc y))], [])
 |_,_=>none
theorem oJ{B:ag}(hB:aB B):Valid B Tryz.prog 60 eS:=by
 refine ab (AP hB).tab Tryz.func60 rfl rfl rfl ?_
 intro args os C rs os' hc hC
 unfold eS at hc
 split at hc
 case h_2=>cases hc
 rename_i x y
 cases hc
 refine v_h (AP hB) fun X hP hT hr hG=> ?_
 have hU:=qv.eq_1
 unfold qv at hT
 have hX:=ai @kz.eq_1<| @Gh.eq_1
 simp only[Tryz.f60,aC,al,ioB]
 refine s_g hG ?_
 refine s_d hG ?_ ?_
 ·try simp only[ba]
  exact Hl hC
 refine av ?_
 refine q_e [] ?_
 simp only[pe2]
 exact KF x y
def qw(B:ag):Tab:={types:= [(89,(.st (.pair .bool (.slice (.int .u32))))),(91,(.st (.pair (.st (.pair .bool (.slice (.int .u32)))) (.st (.pair .bool (.slice (.int .u32)))))))],elems:= [],cons:= [(108,mu),(109,Az)],hint:= [],N:=16,base:=B}
theorem AQ{B:ag}(hB:aB B):aG Tryz.prog (qw B):=⟨⟨tc gK (tc ty91 (ae)),af,by simp only[qw,ioB];omega⟩,aD (cc Tryz.func108 (l4 hB) (cc Tryz.func109 (ya hB) (au))),by kernel_rfl⟩
def dF:Con:=fun l os=>match l,os with
 | [.z (.st (.pair (.st (.pair .bool (.slice (.int .u32)))) (.st (.pair .bool (.slice (.int .u32)))))) x, .z (.st (.pair (.st (.pair .bool (.slice (.int .u32)))) (.st (.pair .bool (.slice (.int .u32)))))) y], []=>some (eO x y, [.z (.st (.pair (.st (.pair .bool (.slice (.int .u32)))) (.st (.pair .bool (.slice (.int .u32)))))) (bj (bc x*bc y))], [])
 |_,_=>none
theorem jQ{B:ag}(hB:aB B):Valid B Tryz.prog 105 dF:=by
 refine ab (AQ hB).tab Tryz.func105 rfl rfl rfl ?_
 intro args os C rs os' hc hC
 unfold dF at hc
 split at hc
 case h_2=>cases hc
 rename_i x y
 cases hc
 refine v_h (AQ hB) fun X hP hT hr hG=> ?_
 have hU:=qw.eq_1
 unfold qw at hT
 have hX:=ai @mu.eq_1<| @Az.eq_1
 simp only[Tryz.f105,aC,al,ioB]
 refine s_g hG ?_
 refine s_d hG ?_ ?_
 ·try simp only[ba]
  exact Hm hC
 refine av ?_
 refine q_e [] ?_
 simp only[pe2]
 exact KG hC
def qx(B:ag):Tab:={types:= [(89,(.st (.pair .bool (.slice (.int .u32))))),(91,(.st (.pair (.st (.pair .bool (.slice (.int .u32)))) (.st (.pair .bool (.slice (.int .u32)))))))],elems:= [],cons:= [(108,mu),(109,Az)],hint:= [],N:=16,base:=B}
theorem AR{B:ag}(hB:aB B):aG Tryz.prog (qx B):=⟨⟨tc gK (tc ty91 (ae)),af,by simp only[qx,ioB];omega⟩,aD (cc Tryz.func108 (l4 hB) (cc Tryz.func109 (ya hB) (au))),by kernel_rfl⟩
def fB:Con:=fun l os=>match l,os with
 | [.z (.st (.pair (.st (.pair .bool (.slice (.int .u32)))) (.st (.pair .bool (.slice (.int .u32)))))) x, .z (.st (.pair (.st (.pair .bool (.slice (.int .u32)))) (.st (.pair .bool (.slice (.int .u32)))))) y], []=>some (eO x y/\bc y≠0, [.z (.st (.pair (.st (.pair .bool (.slice (.int .u32)))) (.st (.pair .bool (.slice (.int .u32)))))) (bj (bc x/bc y))], [])
 |_,_=>none
theorem wB{B:ag}(hB:aB B):Valid B Tryz.prog 119 fB:=by
 refine ab (AR hB).tab Tryz.func119 rfl rfl rfl ?_
 intro args os C rs os' hc hC
 unfold fB at hc
 split at hc
 case h_2=>cases hc
 rename_i x y
 cases hc
 refine v_h (AR hB) fun X hP hT hr hG=> ?_
 have hU:=qx.eq_1
 unfold qx at hT
 have hX:=ai @mu.eq_1<| @Az.eq_1
 simp only[Tryz.f119,aC,al,ioB]
 refine s_g hG ?_
 refine s_d hG ?_ ?_
 ·try simp only[ba]
  exact Hn hC
 refine av ?_
 refine q_e [] ?_
 simp only[pe2]
 exact KH hC.1
def qy(B:ag):Tab:={types:= [(89,(.st (.pair .bool (.slice (.int .u32))))),(91,(.st (.pair (.st (.pair .bool (.slice (.int .u32)))) (.st (.pair .bool (.slice (.int .u32)))))))],elems:= [],cons:= [(154,pI)],hint:= [],N:=6,base:=B}
theorem AU{B:ag}(hB:aB B):aG Tryz.prog (qy B):=⟨⟨tc gK (tc ty91 (ae)),af,by simp only[qy,ioB];omega⟩,aD (cc Tryz.func154 (x6 hB) (au)),by kernel_rfl⟩
def lB:Con:=fun l os=>match l,os with
 | [.z (.st (.pair (.st (.pair .bool (.slice (.int .u32)))) (.st (.pair .bool (.slice (.int .u32)))))) x], []=>some (NOK x, [.z (.int .i64) (bx (bc x).num 0)], [])
 |_,_=>none
theorem oK{B:ag}(hB:aB B):Valid B Tryz.prog 114 lB:=by
 refine ab (AU hB).tab Tryz.func114 rfl rfl rfl ?_
 intro args os C rs os' hc hC
 unfold lB at hc
 split at hc
 case h_2=>cases hc
 rename_i x
 cases hc
 refine v_h (AU hB) fun X hP hT hr hG=> ?_
 have hU:=qy.eq_1
 unfold qy at hT
 have hX:= @pI.eq_1
 simp only[Tryz.f114,aC,al,ioB]
 refine s_g hG ?_
 refine s_q hG ?_ ?_
 ·try simp only[ba]
  exact hC.w1
 refine av ?_
 refine q_e [] ?_
 rw[hC.d1]
def qz(B:ag):Tab:={types:= [(3,(.int .i64)),(89,(.st (.pair .bool (.slice (.int .u32))))),(91,(.st (.pair (.st (.pair .bool (.slice (.int .u32)))) (.st (.pair .bool (.slice (.int .u32)))))))],elems:= [],cons:= [(108,mu),(133,jm)],hint:= [],N:=10,base:=B}
theorem AW{B:ag}(hB:aB B):aG Tryz.prog (qz B):=⟨⟨tc ty3 (tc gK (tc ty91 (ae))),af,by simp only[qz,ioB];omega⟩,aD (cc Tryz.func108 (l4 hB) (cc Tryz.func133 (qf hB) (au))),by kernel_rfl⟩
def Ik:Con:=fun l os=>match l,os with
 | [.z (.int .i64) n, .z (.int .i64) d], []=>some (I64 n/\I64 d/\d≠0, [.z (.st (.pair (.st (.pair .bool (.slice (.int .u32)))) (.st (.pair .bool (.slice (.int .u32)))))) (bj (Rat.divInt n d))], [])
 |_,_=>none
theorem wC{B:ag}(hB:aB B):Valid B Tryz.prog 124 Ik:=by
 refine ab (AW hB).tab Tryz.func124 rfl rfl rfl ?_
 intro args os C rs os' hc hC
 unfold Ik at hc
 split at hc
 case h_2=>cases hc
 rename_i n d
 cases hc
 refine v_h (AW hB) fun X hP hT hr hG=> ?_
 have hU:=qz.eq_1
 unfold qz at hT
 have hX:=ai @mu.eq_1<| @jm.eq_1
 simp only[Tryz.f124,aC,al,ioB]
 refine s_g hG ?_
 refine s_q hG ?_ ?_
 ·try simp only[ba]
  exact KI hC
 refine av ?_
 refine q_e [] ?_
 simp only[pe2]
 exact Nu n d
def qA(B:ag):Tab:={types:= [(3,(.int .i64)),(91,(.st (.pair (.st (.pair .bool (.slice (.int .u32)))) (.st (.pair .bool (.slice (.int .u32)))))))],elems:= [],cons:= [(124,Ik)],hint:= [],N:=2,base:=B}
theorem AX{B:ag}(hB:aB B):aG Tryz.prog (qA B):=⟨⟨tc ty3 (tc ty91 (ae)),af,by simp only[qA,ioB];omega⟩,aD (cc Tryz.func124 (wC hB) (au)),by kernel_rfl⟩
def ev:Con:=fun l os=>match l,os with
 | [], []=>some (True, [.z (.st (.pair (.st (.pair .bool (.slice (.int .u32)))) (.st (.pair .bool (.slice (.int .u32)))))) (bj 0)], [])
 |_,_=>none
theorem l5{B:ag}(hB:aB B):Valid B Tryz.prog 113 ev:=by
 refine ab (AX hB).tab Tryz.func113 rfl rfl rfl ?_
 intro args os C rs os' hc hC
 unfold ev at hc
 split at hc
 case h_2=>cases hc
 cases hc
 refine v_h (AX hB) fun X hP hT hr hG=> ?_
 have hU:=qA.eq_1
 unfold qA at hT
 have hX:= @Ik.eq_1
 simp only[Tryz.f113,aC,al,ioB]
 refine s_g hG ?_
 refine s_q hG ?_ ?_
 ·try simp only[ba]
  exact⟨by unfold I64;omega,by unfold I64;omega,by decide⟩
 refine av ?_
 refine q_e [] ?_
 simp only[pe2]
 rw[zero_divInt]
def qB(B:ag):Tab:={types:= [(3,(.int .i64)),(87,(.slice (.int .u32))),(89,(.st (.pair .bool (.slice (.int .u32))))),(91,(.st (.pair (.st (.pair .bool (.slice (.int .u32)))) (.st (.pair .bool (.slice (.int .u32))))))),(161,(.int .u32))],elems:= [],cons:= [],hint:= [],N:=16,base:=B}
theorem AY{B:ag}(hB:aB B):aG Tryz.prog (qB B):=⟨⟨tc ty3 (tc iz (tc gK (tc ty91 (tc fT (ae))))),af,by simp only[qB,ioB];omega⟩,bH rfl,by kernel_rfl⟩
def qC:Con:=fun l os=>match l,os with
 | [.z (.st (.pair (.st (.pair .bool (.slice (.int .u32)))) (.st (.pair .bool (.slice (.int .u32)))))) x], []=>some (NOK x, [.z .bool (decide ((bc x).den=1))], [])
 |_,_=>none
theorem Il{B:ag}(hB:aB B):Valid B Tryz.prog 170 qC:=by
 refine ab (AY hB).tab Tryz.func170 rfl rfl rfl ?_
 intro args os C rs os' hc hC
 unfold qC at hc
 split at hc
 case h_2=>cases hc
 rename_i x
 cases hc
 refine v_h (AY hB) fun X hP hT hr hG=> ?_
 have hU:=qB.eq_1
 unfold qB at hT
 have hX:=Bool.not_true
 simp only[Tryz.f170,aC,al,ioB]
 refine s_g hG ?_
 refine s_q hG ?_ ?_
 ·try simp only[ba]
  (repeat' (first|apply And.intro|intro _))<;>(try simp only[decide_eq_true_eq,decide_eq_false_iff_not,Bool.not_eq_true',beq_iff_eq,Int.toNat_natCast] at*)<;>first|assumption|omega|trivial|(simp_all;done)|(simp_all;omega)
 refine av ?_
 refine q_e [] ?_
 exact De hC
def qD(B:ag):Tab:={types:= [(3,(.int .i64)),(89,(.st (.pair .bool (.slice (.int .u32))))),(91,(.st (.pair (.st (.pair .bool (.slice (.int .u32)))) (.st (.pair .bool (.slice (.int .u32)))))))],elems:= [],cons:= [(169,qe)],hint:= [],N:=17,base:=B}
theorem AZ{B:ag}(hB:aB B):aG Tryz.prog (qD B):=⟨⟨tc ty3 (tc gK (tc ty91 (ae))),af,by simp only[qD,ioB];omega⟩,aD (cc Tryz.func169 (OC hB) (au)),by kernel_rfl⟩
def lC:Con:=fun l os=>match l,os with
 | [.z (.st (.pair (.st (.pair .bool (.slice (.int .u32)))) (.st (.pair .bool (.slice (.int .u32)))))) x, .z (.int .i64) k], []=>some (NOK x/\lq (bc x)<=QC, [.z .bool (decide (cB (bc x).num<=k/\cB ((bc x).den:Int)<=k))], [])
 |_,_=>none
theorem oL{B:ag}(hB:aB B):Valid B Tryz.prog 129 lC:=by
 refine ab (AZ hB).tab Tryz.func129 rfl rfl rfl ?_
 intro args os C rs os' hc hC
 unfold lC at hc
 split at hc
 case h_2=>cases hc
 rename_i x k
 cases hc
 refine v_h (AZ hB) fun X hP hT hr hG=> ?_
 have hU:=qD.eq_1
 unfold qD at hT
 have hX:= @qe.eq_1
 simp only[Tryz.f129,aC,al,ioB]
 refine s_g hG ?_
 refine s_q hG ?_ ?_
 ·try simp only[ba]
  exact⟨(ke hC).1,id,fun h=>⟨h,(ke hC).2⟩,id⟩
 refine av ?_
 refine q_e [] ?_
 exact Ho k hC.1
def qE(B:ag):Tab:={types:= [(89,(.st (.pair .bool (.slice (.int .u32))))),(91,(.st (.pair (.st (.pair .bool (.slice (.int .u32)))) (.st (.pair .bool (.slice (.int .u32)))))))],elems:= [],cons:= [],hint:= [],N:=8,base:=B}
theorem A0{B:ag}(hB:aB B):aG Tryz.prog (qE B):=⟨⟨tc gK (tc ty91 (ae)),af,by simp only[qE,ioB];omega⟩,bH rfl,by kernel_rfl⟩
def qF:Con:=fun l os=>match l,os with
 | [.z (.st (.pair (.st (.pair .bool (.slice (.int .u32)))) (.st (.pair .bool (.slice (.int .u32)))))) x], []=>some (True, [.z (.st (.pair .bool (.slice (.int .u32)))) x.1, .z (.st (.pair .bool (.slice (.int .u32)))) x.2], [])
 |_,_=>none
theorem Im{B:ag}(hB:aB B):Valid B Tryz.prog 167 qF:=by
 refine ab (A0 hB).tab Tryz.func167 rfl rfl rfl ?_
 intro args os C rs os' hc hC
 unfold qF at hc
 split at hc
 case h_2=>cases hc
 rename_i x
 cases hc
 refine v_h (A0 hB) fun X hP hT hr hG=> ?_
 have hU:=qE.eq_1
 unfold qE at hT
 have hX:=Bool.not_true
 simp only[Tryz.f167,aC,al,ioB]
 refine s_g hG ?_
 refine s_d hG ?_ ?_
 ·first|trivial|omega|(simp;done)|(simp;omega)
 refine av ?_
 refine q_e [] ?_
 trivial
def qG(B:ag):Tab:={types:= [(9, .str),(89,(.st (.pair .bool (.slice (.int .u32))))),(91,(.st (.pair (.st (.pair .bool (.slice (.int .u32)))) (.st (.pair .bool (.slice (.int .u32)))))))],elems:= [],cons:= [(144,El),(170,qC)],hint:= [],N:=16,base:=B}
theorem A1{B:ag}(hB:aB B):aG Tryz.prog (qG B):=⟨⟨tc ty9 (tc gK (tc ty91 (ae))),af,by simp only[qG,ioB];omega⟩,aD (cc Tryz.func144 (Nc hB) (cc Tryz.func170 (Il hB) (au))),by kernel_rfl⟩
def oM:Con:=fun l os=>match l,os with
 | [.z (.st (.pair (.st (.pair .bool (.slice (.int .u32)))) (.st (.pair .bool (.slice (.int .u32)))))) x], []=>some (NOK x/\lq (bc x)<=QC, [.z .str (aS (bc x))], [])
 |_,_=>none
theorem wD{B:ag}(hB:aB B):Valid B Tryz.prog 130 oM:=by
 refine ab (A1 hB).tab Tryz.func130 rfl rfl rfl ?_
 intro args os C rs os' hc hC
 unfold oM at hc
 split at hc
 case h_2=>cases hc
 rename_i x
 cases hc
 refine v_h (A1 hB) fun X hP hT hr hG=> ?_
 have hU:=qG.eq_1
 unfold qG at hT
 have hX:=ai @qC.eq_1<| @El.eq_1
 simp only[Tryz.f130,aC,al,ioB]
 refine s_g hG ?_
 refine ak ?_
 refine s_q hG ?_ ?_
 ·try simp only[ba]
  exact hC.1
 refine ao ?_ ?_
 ·intro hb0
  try simp only[bt] at hb0
  refine s_q hG ?_ ?_
  ·try simp only[ba]
   exact zJ hC
  refine av ?_
  refine aw ?_
  refine q_e [] ?_
  exact Hp hC.1 hb0
 ·intro hb0
  try simp only[bf] at hb0
  refine aq ?_
  refine aj ?_
  refine s_d hG ?_ ?_
  ·try simp only[ba]
   exact zK hC
  refine av ?_
  refine q_e [] ?_
  exact Hq hC.1 hb0
end Go.Proofs.YtdojbabpnaifoaaGreatDoor
end
section
namespace Go.Proofs
open Go.RowKit Go.Cm
def Io:Con:=fun l os=>match l,os with
 | [.z .str s, .z .str t], []=>some (t= [47]/\s.length<4294967281, [.z .str (tN s), .z .str (if ca s=true then tR s else []), .z .bool (ca s)], [])
 |_,_=>none
theorem wE{B:ag}(hB:aB B):Valid B Tryz.prog 131 Io:=by
 intro args os C rs os' hc hC O w vals ρ0 hOn hIo hO hOI hargs hown hap
 unfold Io at hc
 split at hc
 case h_2=>cases hc
 rename_i s t
 cases hc
 obtain⟨u,v,rfl,hu,hv⟩:=y8 hargs
 rw[fH hv,fH hu]
 obtain⟨rfl,h1⟩:=hC
 obtain⟨m,hm⟩:=hB.2 w hOn
 have hsz:(⟨s.toArray⟩:ByteArray).size=s.length:=by simp[ByteArray.size]
 refine(Tryz.strings_Cut ⟨s.toArray⟩ ⟨[47].toArray⟩ m w (by rw[hsz];exact h1) hm).mono fun e w' ⟨he,n,hw⟩=> ?_
 have hb:Below w.heap.size w w':=by rw[hw];exact⟨rfl,rfl,rfl,Nat.le_refl _,fun _ _=>rfl⟩
 have e1:Lib.cut (⟨s.toArray⟩:ByteArray).data.toList (⟨[47].toArray⟩:ByteArray).data.toList=(tN s,if ca s=true then tR s else [],ca s):=by simpa using Hr s
 rw[e1] at he
 subst he
 exact nk (vs:= [.string ⟨(tN s).toArray⟩, .string ⟨(if ca s=true then tR s else []).toArray⟩, .bool (ca s)]) hb (fun H M=>⟨e8 (ρ:=fun _=>undef),e8 (ρ:=fun _=>undef),bX (ρ:=fun _=>undef),trivial⟩)
end Go.Proofs
end
section
namespace Go.Proofs.YtdojbabpnaifoaaGreatDoor
open Go Go.Cm Go.Proofs
def Gi(B:ag):Tab:={types:= [(3,(.int .i64)),(5,(.int .u8)),(9, .str),(47,(.slice (.int .u8)))],elems:= [(47,5)],cons:= [(172,eY)],hint:= [],N:=38,base:=B}
theorem MF{B:ag}(hB:aB B):aG Tryz.prog (Gi B):=⟨⟨tc ty3 (tc ty5 (tc ty9 (tc Po (ae)))),aR (by kernel_rfl) (af),by simp only[Gi,ioB];omega⟩,aD (cc Tryz.func172 (FN hB) (au)),by kernel_rfl⟩
def yo:Con:=fun l os=>match l,os with
 | [.z .str s], []=>some (nr s, [.z (.int .i64) (chk s)], [])
 |_,_=>none
theorem OL{B:ag}(hB:aB B):Valid B Tryz.prog 142 yo:=by
 refine ab (MF hB).tab Tryz.func142 rfl rfl rfl ?_
 intro args os C rs os' hc hC
 unfold yo at hc
 split at hc
 case h_2=>cases hc
 rename_i s
 cases hc
 refine v_h (MF hB) fun X hP hT hr hG=> ?_
 have hU:=Gi.eq_1
 unfold Gi at hT
 have hX:= @eY.eq_1
 simp only[Tryz.f142,aC,al,ioB]
 refine s_g hG ?_
 refine Ee ?_
 refine s_g hG ?_
 refine s_g hG ?_
 refine ak ?_
 refine Ed ?_
 refine aj ?_
 refine ck (fun(z:Int)=>(⟨[(4, .l (.z (.int .i64) z))], []⟩:aa)) (fun z=>z=chk s) ?_ ?_
 ·refine ax ?_
  refine s_g hG ?_
  refine ao ?_ ?_
  ·intro hb0
   try simp only[bt] at hb0
   refine aq ?_
   refine aL ?_
   show ∃ z,_
   refine q_l ?_
   first|(rw[hb0];exact kP.symm)|exact(jC hb0 ((ic _).1 hb1)).symm|exact(nq hb0 (dY hb1) (by rw[dz] at hb2;omega) (kQ hb3)).symm|(rw[dz] at hb2;rw[jD hb0 (dY hb1) (by rw[List.take_of_length_le (by omega)] at g2;exact g2)];first|rw[if_pos (by omega)]|rw[if_neg (by omega)])
  ·intro hb0
   try simp only[bf] at hb0
   refine s_q hG ?_ ?_
   ·try simp only[ba]
    exact J0 _
   refine ao ?_ ?_
   ·intro hb1
    try simp only[bt] at hb1
    refine ah hG ?_ ?_
    ·first|trivial|omega|(simp;done)|(simp;omega)
    refine aL ?_
    show ∃ z,_
    refine q_l ?_
    first|(rw[hb0];exact kP.symm)|exact(jC hb0 ((ic _).1 hb1)).symm|exact(nq hb0 (dY hb1) (by rw[dz] at hb2;omega) (kQ hb3)).symm|(rw[dz] at hb2;rw[jD hb0 (dY hb1) (by rw[List.take_of_length_le (by omega)] at g2;exact g2)];first|rw[if_pos (by omega)]|rw[if_neg (by omega)])
   ·intro hb1
    try simp only[bf] at hb1
    refine ak ?_
    refine s_q hG ?_ ?_
    ·try simp only[ba]
     have:=fQ s [45]
     have hC:s.length<70368744177664:=hC
     omega
    refine ax ?_
    refine br (fun(z:Nat)=>(⟨[(0, .l (.z .str s)),(3, .l (.z .str (aA s [45]))),(4, .l (.z (.int .i64) 0)),(10, .l (.z (.slice (.int .u8)) (bytesOf (aA s [45])))),(11, .l (.z (.int .i64) ((bytesOf (aA s [45])).length:Int))),(12, .l (.z (.int .i64) (z:Int)))], []⟩:aa)) (fun z=>z<=(aA s [45]).length/\(List.take z (aA s [45])).all gN=true) (fun z=>(aA s [45]).length-z) 0 ?_ ?_ ?_
    ·refine q_l ?_
     rfl
    ·exact⟨Nat.zero_le _,rfl⟩
    ·rintro k ⟨g1,g2⟩
     try dsimp only at g1 g2
     have hS:(aA s [45]).length<70368744177664:=Nat.lt_of_le_of_lt (fQ s _) hC
     refine s_g hG ?_
     refine ak ?_
     refine ao ?_ ?_
     ·intro hb2
      try simp only[bt] at hb2
      refine aq ?_
      refine aj ?_
      refine ak ?_
      refine ax ?_
      refine s_q hG ?_ ?_
      ·try simp only[ba]
       exact⟨by omega,hb2⟩
      refine s_q hG ?_ ?_
      ·try simp only[ba]
       exact⟨fun h=>h,fun h=>by rw[h];rfl⟩
      refine ao ?_ ?_
      ·intro hb3
       try simp only[bt] at hb3
       refine s_g hG ?_
       refine bh ?_
       refine iT rfl ?_
       refine aE ?_
       refine az ?_
       refine iT rfl ?_
       refine aE ?_
       refine ay ?_
       show ∃ z,_
       refine q_l ?_
       first|(rw[hb0];exact kP.symm)|exact(jC hb0 ((ic _).1 hb1)).symm|exact(nq hb0 (dY hb1) (by rw[dz] at hb2;omega) (kQ hb3)).symm|(rw[dz] at hb2;rw[jD hb0 (dY hb1) (by rw[List.take_of_length_le (by omega)] at g2;exact g2)];first|rw[if_pos (by omega)]|rw[if_neg (by omega)])
      ·intro hb3
       try simp only[bf] at hb3
       refine aq ?_
       refine aL ?_
       refine aj ?_
       refine ah hG ?_ ?_
       ·first|trivial|omega|(simp;done)|(simp;omega)
       show ∃ z,_
       refine q_l ?_
       rw[dz] at hb2
       exact⟨k+1,by rw[wi (by omega) (by omega)];simp,by omega,uT g2 (G5 hb3),by omega⟩
     ·intro hb2
      try simp only[bf] at hb2
      refine bh ?_
      refine aE ?_
      refine az ?_
      refine ay ?_
      refine aj ?_
      refine s_g hG ?_
      refine ao ?_ ?_
      ·intro hb4
       try simp only[bt] at hb4
       refine ah hG ?_ ?_
       ·first|trivial|omega|(simp;done)|(simp;omega)
       refine aL ?_
       show ∃ z,_
       refine q_l ?_
       first|(rw[hb0];exact kP.symm)|exact(jC hb0 ((ic _).1 hb1)).symm|exact(nq hb0 (dY hb1) (by rw[dz] at hb2;omega) (kQ hb3)).symm|(rw[dz] at hb2;rw[jD hb0 (dY hb1) (by rw[List.take_of_length_le (by omega)] at g2;exact g2)];first|rw[if_pos (by omega)]|rw[if_neg (by omega)])
      ·intro hb4
       try simp only[bf] at hb4
       refine aq ?_
       refine aL ?_
       show ∃ z,_
       refine q_l ?_
       first|(rw[hb0];exact kP.symm)|exact(jC hb0 ((ic _).1 hb1)).symm|exact(nq hb0 (dY hb1) (by rw[dz] at hb2;omega) (kQ hb3)).symm|(rw[dz] at hb2;rw[jD hb0 (dY hb1) (by rw[List.take_of_length_le (by omega)] at g2;exact g2)];first|rw[if_pos (by omega)]|rw[if_neg (by omega)])
 rintro z hz
 try dsimp only at hz
 refine s_g hG ?_
 refine av ?_
 refine gz ?_
 refine q_e [] ?_
 exact hz
def qH(B:ag):Tab:={types:= [(3,(.int .i64)),(4, .bool),(9, .str),(87,(.slice (.int .u32))),(89,(.st (.pair .bool (.slice (.int .u32))))),(161,(.int .u32)),(164,(.int .u64))],elems:= [(87,161)],cons:= [(150,ef),(172,eY),(173,xj)],hint:= [],N:=44,base:=B}
theorem A2{B:ag}(hB:aB B):aG Tryz.prog (qH B):=⟨⟨tc ty3 (tc ty4 (tc ty9 (tc iz (tc gK (tc fT (tc nv (ae))))))),aR (by kernel_rfl) (af),by simp only[qH,ioB];omega⟩,aD (cc Tryz.func150 (kl hB) (cc Tryz.func172 (FN hB) (cc Tryz.func173 (Na hB) (au)))),by kernel_rfl⟩
def yp:Con:=fun l os=>match l,os with
 | [.z .str s], []=>some (RF s/\s.length<CAP, [.z (.st (.pair .bool (.slice (.int .u32)))) (enc (an s))], [])
 |_,_=>none
theorem Ip{B:ag}(hB:aB B):Valid B Tryz.prog 132 yp:=by
 refine ab (A2 hB).tab Tryz.func132 rfl rfl rfl ?_
 intro args os C rs os' hc hC
 unfold yp at hc
 split at hc
 case h_2=>cases hc
 rename_i s
 cases hc
 refine v_h (A2 hB) fun X hP hT hr hG=> ?_
 have hU:=qH.eq_1
 unfold qH at hT
 have hX:=ai @xj.eq_1<|ai @eY.eq_1<| @ef.eq_1
 simp only[Tryz.f132,aC,al,ioB]
 refine s_g hG ?_
 refine s_g hG ?_
 refine s_g hG ?_
 refine ak ?_
 refine s_g hG ?_
 refine ax ?_
 refine br (fun(z:Nat×List Int)=>(⟨[(3, .l (.z .str (aA s [45]))),(5, .l (.z (.int .i64) (((aA s [45]).length:Int)-9*(z.1:Int)))),(4, .l (.ownP 4 0)),(2, .l (.ownP 2 0))], [(4, .box 89 [.z .bool (decide ((aA s [45]).length<s.length)), .ownS 37]),(37, .arr (.int .u32) 161 z.2),(2, .box 89 [.z .bool false, .val (.slice none 0 0)])]⟩:aa)) (fun z=>ReadPhi (aA s [45]) z.1 z.2) (fun z=>(aA s [45]).length+9-9*z.1) (0, []) ?_ ?_ ?_
 ·refine q_l ?_
  exact⟨by show ((aA s [45]).length:Int)=((aA s [45]).length:Int)-9*((0:Nat):Int);omega,by congr 1;simp,by unfold ioB;omega⟩
 ·exact read_start
 ·rintro⟨r,out⟩ hz
  try dsimp only at hz
  obtain⟨d1,d2,d4⟩:=gV hC.1
  have d3:(aA s [45]).length<1000000000000:=Nat.lt_of_le_of_lt (fQ s _) hC.2
  have hz1:=hz.1
  have hz4:=hz.2.2.2
  refine ak ?_
  refine s_g hG ?_
  refine ao ?_ ?_
  ·intro hb0
   try simp only[bt] at hb0
   refine aq ?_
   refine aj ?_
   refine ak ?_
   refine ax ?_
   refine s_q hG ?_ ?_
   ·try simp only[ba]
    obtain⟨e1,e2,e3⟩:=vE hb0 d3
    obtain⟨q1,q2,q3,q4,q5⟩:=read_next d1 hz hb0 rfl
    rw[e1,e2,e3]
    exact⟨⟨by omega,by omega,by omega⟩,q1,q2,q3⟩
   refine ah hG ?_ ?_
   ·try simp only[ba]
    unfold Cm.Roomy;omega
   refine aL ?_
   refine aj ?_
   refine ah hG ?_ ?_
   ·first|trivial|omega|(simp;done)|(simp;omega)
   show ∃ z,_
   refine q_l ?_
   obtain⟨e1,e2,e3⟩:=vE hb0 d3
   obtain⟨q1,q2,q3,q4,q5⟩:=read_next d1 hz hb0 rfl
   rw[e1,e2,e3]
   exact⟨r+1,by show ((aA s [45]).length:Int)-9*(r:Int)-9=((aA s [45]).length:Int)-9*((r+1:Nat):Int);omega,q4,by omega⟩
  ·intro hb0
   try simp only[bf] at hb0
   refine bh ?_
   refine aE ?_
   refine az ?_
   refine ay ?_
   refine aj ?_
   refine s_q hG ?_ ?_
   ·try simp only[ba]
    exact⟨hz.2.1,by unfold CAP;omega⟩
   refine av ?_
   refine q_e [37] ?_
   rw[read_end hz hb0]
def qI(B:ag):Tab:={types:= [(3,(.int .i64)),(9, .str),(91,(.st (.pair (.st (.pair .bool (.slice (.int .u32)))) (.st (.pair .bool (.slice (.int .u32)))))))],elems:= [],cons:= [(131,Io),(132,yp),(133,jm)],hint:= [],N:=23,base:=B}
theorem A3{B:ag}(hB:aB B):aG Tryz.prog (qI B):=⟨⟨tc ty3 (tc ty9 (tc ty91 (ae))),af,by simp only[qI,ioB];omega⟩,aD (cc Tryz.func131 (wE hB) (cc Tryz.func132 (Ip hB) (cc Tryz.func133 (qf hB) (au)))),by kernel_rfl⟩
def pK:Con:=fun l os=>match l,os with
 | [.z .str q], []=>some (eU q, [.z (.st (.pair (.st (.pair .bool (.slice (.int .u32)))) (.st (.pair .bool (.slice (.int .u32)))))) (gB q)], [])
 |_,_=>none
theorem oN{B:ag}(hB:aB B):Valid B Tryz.prog 90 pK:=by
 refine ab (A3 hB).tab Tryz.func90 rfl rfl rfl ?_
 intro args os C rs os' hc hC
 unfold pK at hc
 split at hc
 case h_2=>cases hc
 rename_i q
 cases hc
 refine v_h (A3 hB) fun X hP hT hr hG=> ?_
 have hU:=qI.eq_1
 unfold qI at hT
 have hX:=ai @Io.eq_1<|ai @yp.eq_1<| @jm.eq_1
 simp only[Tryz.f90,aC,al,ioB]
 refine s_g hG ?_
 refine s_q hG ?_ ?_
 ·try simp only[ba]
  exact(om hC).1
 refine ak ?_
 refine s_g hG ?_
 refine ao ?_ ?_
 ·intro hb0
  try simp only[bt] at hb0
  refine s_q hG ?_ ?_
  ·try simp only[ba]
   exact⟨(om hC).2.1,by unfold I64;omega⟩
  refine av ?_
  refine aw ?_
  refine q_e [] ?_
  exact KL hb0
 ·intro hb0
  try simp only[bf] at hb0
  refine aq ?_
  refine aj ?_
  refine s_q hG ?_ ?_
  ·try simp only[ba]
   rw[kZ hb0]
   exact(om hC).2
  refine av ?_
  refine q_e [] ?_
  rw[kZ hb0];rfl
def qJ(B:ag):Tab:={types:= [(3,(.int .i64)),(9, .str),(31,(.int .i64)),(46, .str),(89,(.st (.pair .bool (.slice (.int .u32))))),(91,(.st (.pair (.st (.pair .bool (.slice (.int .u32)))) (.st (.pair .bool (.slice (.int .u32))))))),(151,(.st (.pair (.st (.pair (.st (.pair .bool (.slice (.int .u32)))) (.st (.pair .bool (.slice (.int .u32)))))) (.int .i64))))],elems:= [],cons:= [(90,pK),(129,lC),(131,Io),(133,jm),(142,yo),(147,wA),(167,qF),(168,OA)],hint:= [],N:=61,base:=B}
theorem A4{B:ag}(hB:aB B):aG Tryz.prog (qJ B):=⟨⟨tc ty3 (tc ty9 (tc jE (tc gq (tc gK (tc ty91 (tc zA (ae))))))),af,by simp only[qJ,ioB];omega⟩,aD (cc Tryz.func90 (oN hB) (cc Tryz.func129 (oL hB) (cc Tryz.func131 (wE hB) (cc Tryz.func133 (qf hB) (cc Tryz.func142 (OL hB) (cc Tryz.func147 (Gg hB) (cc Tryz.func167 (Im hB) (cc Tryz.func168 (OB hB) (au))))))))),by kernel_rfl⟩
def jo:Con:=fun l os=>match l,os with
 | [.z .str q], []=>some (q.length<=QL, [.z (.st (.pair (.st (.pair (.st (.pair .bool (.slice (.int .u32)))) (.st (.pair .bool (.slice (.int .u32)))))) (.int .i64))) (dC q)], [])
 |_,_=>none
theorem l6{B:ag}(hB:aB B):Valid B Tryz.prog 128 jo:=by
 refine ab (A4 hB).tab Tryz.func128 rfl rfl rfl ?_
 intro args os C rs os' hc hC
 unfold jo at hc
 split at hc
 case h_2=>cases hc
 rename_i q
 cases hc
 refine v_h (A4 hB) fun X hP hT hr hG=> ?_
 have hU:=qJ.eq_1
 unfold qJ at hT
 have hX:=ai @yo.eq_1<|ai @OA.eq_1<|ai @Io.eq_1<|ai @pK.eq_1<|ai @wA.eq_1<|ai @lC.eq_1<|ai @qF.eq_1<| @jm.eq_1
 simp only[Tryz.f128,aC,al,ioB]
 refine s_g hG ?_
 refine s_q hG ?_ ?_
 ·try simp only[ba]
  have h9:q.length<=1000000000:=hC
  omega
 refine ck (fun(z:Unit)=>(⟨[(0, .l (.z .str q)),(2, .l (.ownP 2 0)),(3, .l (.z .str (tN q))),(4, .l (.z .str (tD q))),(5, .l (.z .bool (ca q)))], [(2, .box 151 [.z .bool false, .val (.slice none 0 0), .z .bool false, .val (.slice none 0 0), .z (.int .i64) 0])]⟩:aa)) (fun z=>True) ?_ ?_
 ·refine s_g hG ?_
  refine ao ?_ ?_
  ·intro hb0
   try simp only[bt] at hb0
   refine ah hG ?_ ?_
   ·first|trivial|omega|(simp;done)|(simp;omega)
   show ∃ z,_
   refine q_l ?_
   first|exact xx hb0|exact kZ hb0
  ·intro hb0
   try simp only[bf] at hb0
   refine aq ?_
   show ∃ z,_
   refine q_l ?_
   first|exact xx hb0|exact kZ hb0
 rintro⟨⟩-
 have hS:=KM hC
 refine ak ?_
 refine s_q hG ?_ ?_
 ·try simp only[ba]
  exact⟨hS.1,fun h=>⟨h,hS.2⟩,fun h=>h,fun h=>by rw[h];rfl⟩
 refine ao ?_ ?_
 ·intro hb1
  try simp only[bt] at hb1
  refine s_g hG ?_
  refine av ?_
  refine aw ?_
  refine q_e [] ?_
  exact Nx hb1
 ·intro hb1
  try simp only[bf] at hb1
  have hF:=Nw hC hb1
  refine aq ?_
  refine aj ?_
  refine s_q hG ?_ ?_
  ·try simp only[ba]
   exact hF
  refine s_g hG ?_
  refine s_q hG ?_ ?_
  ·try simp only[ba]
   unfold I64;omega
  refine ak ?_
  refine ax ?_
  refine s_d hG ?_ ?_
  ·try simp only[ba]
   simp only[pe,gB,bR]
   exact⟨fun h=>⟨h,enc_ok _,enc_ok _,Qh hF⟩,fun h=>h,fun h=>h,fun h=>⟨h,PA hF⟩,fun h=>⟨h,enc_ok _,enc_ok _,Qi hF⟩,fun h=>h,fun h=>⟨h,fun h2=>by rw[h,h2];rfl⟩,fun h=>h⟩
  refine ao ?_ ?_
  ·intro hb2
   try simp only[bt] at hb2
   simp only[pe,gB,bR] at hb2
   refine s_g hG ?_
   refine av ?_
   refine bD ?_
   refine aw ?_
   refine q_e [] ?_
   exact Ny hF hb2
  ·intro hb2
   try simp only[bf] at hb2
   simp only[pe,gB,bR] at hb2
   have hR:=Qj hF hb2
   refine s_q hG ?_ ?_
   ·try simp only[ba]
    exact Nz hR
   refine ao ?_ ?_
   ·intro hb3
    try simp only[bt] at hb3
    refine s_g hG ?_
    refine av ?_
    refine bD ?_
    refine aw ?_
    refine q_e [] ?_
    exact PC hR hb3
   ·intro hb3
    try simp only[bf] at hb3
    refine aq ?_
    refine aL ?_
    refine aj ?_
    refine s_g hG ?_
    refine av ?_
    refine q_e [] ?_
    exact Qk hR hb3
def qK(B:ag):Tab:={types:= [(46, .str),(151,(.st (.pair (.st (.pair (.st (.pair .bool (.slice (.int .u32)))) (.st (.pair .bool (.slice (.int .u32)))))) (.int .i64))))],elems:= [],cons:= [(128,jo)],hint:= [],N:=6,base:=B}
theorem A5{B:ag}(hB:aB B):aG Tryz.prog (qK B):=⟨⟨tc gq (tc zA (ae)),af,by simp only[qK,ioB];omega⟩,aD (cc Tryz.func128 (l6 hB) (au)),by kernel_rfl⟩
def l7:Con:=fun l os=>match l,os with
 | [.z .str q], []=>some (q.length<=QL, [.z (.int .i64) (cO q)], [])
 |_,_=>none
theorem wF{B:ag}(hB:aB B):Valid B Tryz.prog 87 l7:=by
 refine ab (A5 hB).tab Tryz.func87 rfl rfl rfl ?_
 intro args os C rs os' hc hC
 unfold l7 at hc
 split at hc
 case h_2=>cases hc
 rename_i q
 cases hc
 refine v_h (A5 hB) fun X hP hT hr hG=> ?_
 have hU:=qK.eq_1
 unfold qK at hT
 have hX:= @jo.eq_1
 simp only[Tryz.f87,aC,al,ioB]
 refine s_g hG ?_
 refine s_q hG ?_ ?_
 ·try simp only[ba]
  exact hC
 refine av ?_
 refine q_e [] ?_
 exact ik q
def qL(B:ag):Tab:={types:= [(3,(.int .i64)),(91,(.st (.pair (.st (.pair .bool (.slice (.int .u32)))) (.st (.pair .bool (.slice (.int .u32)))))))],elems:= [],cons:= [(129,lC),(130,oM)],hint:= [],N:=9,base:=B}
theorem A6{B:ag}(hB:aB B):aG Tryz.prog (qL B):=⟨⟨tc ty3 (tc ty91 (ae)),af,by simp only[qL,ioB];omega⟩,aD (cc Tryz.func129 (oL hB) (cc Tryz.func130 (wD hB) (au))),by kernel_rfl⟩
def lD:Con:=fun l os=>match l,os with
 | [.z (.st (.pair (.st (.pair .bool (.slice (.int .u32)))) (.st (.pair .bool (.slice (.int .u32)))))) x], []=>some (NOK x/\lq (bc x)<=QC, [.z .str (iA (bc x)), .z (.int .i64) (eV (bc x))], [])
 |_,_=>none
theorem oO{B:ag}(hB:aB B):Valid B Tryz.prog 143 lD:=by
 refine ab (A6 hB).tab Tryz.func143 rfl rfl rfl ?_
 intro args os C rs os' hc hC
 unfold lD at hc
 split at hc
 case h_2=>cases hc
 rename_i x
 cases hc
 refine v_h (A6 hB) fun X hP hT hr hG=> ?_
 have hU:=qL.eq_1
 unfold qL at hT
 have hX:=ai @lC.eq_1<| @oM.eq_1
 simp only[Tryz.f143,aC,al,ioB]
 refine s_g hG ?_
 refine ak ?_
 refine s_q hG ?_ ?_
 ·try simp only[ba]
  exact hC
 refine ao ?_ ?_
 ·intro hb0
  try simp only[bt] at hb0
  refine s_g hG ?_
  refine av ?_
  refine aw ?_
  refine q_e [] ?_
  exact PE hb0
 ·intro hb0
  try simp only[bf] at hb0
  refine aq ?_
  refine aj ?_
  refine s_q hG ?_ ?_
  ·try simp only[ba]
   exact hC
  refine av ?_
  refine q_e [] ?_
  exact PD hb0
def qM(B:ag):Tab:={types:= [(3,(.int .i64)),(22,(.slice .str)),(46, .str),(78,(.slice (.st (.pair (.st (.pair .bool (.slice (.int .u32)))) (.st (.pair .bool (.slice (.int .u32))))))))],elems:= [(78,91)],cons:= [(90,pK)],hint:= [18],N:=22,base:=B}
theorem A7{B:ag}(hB:aB B):aG Tryz.prog (qM B):=⟨⟨tc ty3 (tc gA (tc gq (tc Nm (ae)))),aR (by kernel_rfl) (af),by simp only[qM,ioB];omega⟩,aD (cc Tryz.func90 (oN hB) (au)),by kernel_rfl⟩
def Gj:Con:=fun l os=>match l,os with
 | [.z (.slice .str) l], []=>some (l.length<QL/\∀ q∈l,eU q, [.own (.st (.pair (.st (.pair .bool (.slice (.int .u32)))) (.st (.pair .bool (.slice (.int .u32)))))) 91 (l.map gB)], [])
 |_,_=>none
theorem Iq{B:ag}(hB:aB B):Valid B Tryz.prog 106 Gj:=by
 refine ab (A7 hB).tab Tryz.func106 rfl rfl rfl ?_
 intro args os C rs os' hc hC
 unfold Gj at hc
 split at hc
 case h_2=>cases hc
 rename_i l
 cases hc
 refine v_h (A7 hB) fun X hP hT hr hG=> ?_
 have hU:=qM.eq_1
 unfold qM at hT
 have hX:= @pK.eq_1
 simp only[Tryz.f106,aC,al,ioB]
 have hl:l.length<1000000000:=hC.1
 refine s_g hG ?_
 refine s_q hG ?_ ?_
 ·try simp only[ba]
  exact⟨by omega,by omega,tQ (by omega)⟩
 refine ak ?_
 refine s_g hG ?_
 refine ax ?_
 refine br (fun(z:Nat)=>(⟨[(3, .l (.ownS 8)),(9, .l (.z (.slice .str) l)),(10, .l (.z (.int .i64) (l.length:Int))),(11, .l (.z (.int .i64) (z:Int)))], [(8, .arr (.st (.pair (.st (.pair .bool (.slice (.int .u32)))) (.st (.pair .bool (.slice (.int .u32)))))) 91 ((l.take z).map gB))]⟩:aa)) (fun z=>z<=l.length) (fun z=>l.length-z) 0 ?_ ?_ ?_
 ·refine q_l ?_
  exact⟨rfl,rfl⟩
 ·omega
 ·rintro k g1
  try dsimp only at g1
  refine s_g hG ?_
  refine ak ?_
  refine ao ?_ ?_
  ·intro hb0
   try simp only[bt] at hb0
   refine aq ?_
   refine aj ?_
   refine ak ?_
   refine ax ?_
   refine s_q hG ?_ ?_
   ·try simp only[ba]
    exact⟨by omega,hb0⟩
   refine ah hG ?_ ?_
   ·try simp only[ba]
    exact⟨hC.2 _ (gr (t:= .str) (by omega)),tQ (by simp;omega)⟩
   refine aL ?_
   refine aj ?_
   refine ah hG ?_ ?_
   ·first|trivial|omega|(simp;done)|(simp;omega)
   show ∃ z,_
   refine q_l ?_
   exact list_round (by omega) hC.1
  ·intro hb0
   try simp only[bf] at hb0
   refine bh ?_
   refine aE ?_
   refine az ?_
   refine ay ?_
   refine aj ?_
   refine s_g hG ?_
   refine av ?_
   refine q_e [] ?_
   exact⟨trivial,by rw[List.take_of_length_le (by omega)]⟩
def qN(B:ag):Tab:={types:= [(3,(.int .i64)),(22,(.slice .str)),(78,(.slice (.st (.pair (.st (.pair .bool (.slice (.int .u32)))) (.st (.pair .bool (.slice (.int .u32)))))))),(91,(.st (.pair (.st (.pair .bool (.slice (.int .u32)))) (.st (.pair .bool (.slice (.int .u32)))))))],elems:= [(22,46)],cons:= [(129,lC),(130,oM)],hint:= [],N:=26,base:=B}
theorem A8{B:ag}(hB:aB B):aG Tryz.prog (qN B):=⟨⟨tc ty3 (tc gA (tc Nm (tc ty91 (ae)))),aR (by kernel_rfl) (af),by simp only[qN,ioB];omega⟩,aD (cc Tryz.func129 (oL hB) (cc Tryz.func130 (wD hB) (au))),by kernel_rfl⟩
def oP:Con:=fun l os=>match l,os with
 | [.z (.slice (.st (.pair (.st (.pair .bool (.slice (.int .u32)))) (.st (.pair .bool (.slice (.int .u32))))))) l], []=>some (l.length<QL/\∀ x∈l,NOK x/\lq (bc x)<=QC, [.z (.slice .str) (if dD l=true then l.map fun x=>aS (bc x) else []), .z .bool (dD l)], [])
 |_,_=>none
theorem wG{B:ag}(hB:aB B):Valid B Tryz.prog 88 oP:=by
 refine ab (A8 hB).tab Tryz.func88 rfl rfl rfl ?_
 intro args os C rs os' hc hC
 unfold oP at hc
 split at hc
 case h_2=>cases hc
 rename_i l
 cases hc
 refine v_h (A8 hB) fun X hP hT hr hG=> ?_
 have hU:=qN.eq_1
 unfold qN at hT
 have hX:=ai @lC.eq_1<| @oM.eq_1
 simp only[Tryz.f88,aC,al,ioB]
 have hl:l.length<1000000000:=hC.1
 refine s_g hG ?_
 refine s_q hG ?_ ?_
 ·try simp only[ba]
  exact⟨by omega,by omega,xy (by omega)⟩
 refine ak ?_
 refine s_g hG ?_
 refine ax ?_
 refine br (fun(z:Nat)=>(⟨[(2, .l (.val (.slice none 0 0))),(3, .l (.z .bool false)),(4, .l (.ownS 9)),(10, .l (.z (.slice (.st (.pair (.st (.pair .bool (.slice (.int .u32)))) (.st (.pair .bool (.slice (.int .u32))))))) l)),(11, .l (.z (.int .i64) (l.length:Int))),(12, .l (.z (.int .i64) (z:Int)))], [(9, .arr .str 46 ((l.take z).map fun x=>aS (bc x)))]⟩:aa)) (fun z=>z<=l.length/\dD (l.take z)=true) (fun z=>l.length-z) 0 ?_ ?_ ?_
 ·refine q_l ?_
  exact⟨rfl,rfl⟩
 ·exact⟨by omega,by simp[dD]⟩
 ·rintro k ⟨g1,g2⟩
  try dsimp only at g1 g2
  refine s_g hG ?_
  refine ak ?_
  refine ao ?_ ?_
  ·intro hb0
   try simp only[bt] at hb0
   refine aq ?_
   refine aj ?_
   refine ak ?_
   refine ax ?_
   refine s_q hG ?_ ?_
   ·try simp only[ba]
    exact⟨by omega,hb0⟩
   refine ak ?_
   refine s_q hG ?_ ?_
   ·try simp only[ba]
    exact hC.2 _ (gr (t:=NT) (by omega))
   refine ao ?_ ?_
   ·intro hb1
    try simp only[bt] at hb1
    refine s_g hG ?_
    refine av ?_
    refine aw ?_
    refine bD ?_
    refine aw ?_
    refine eF ?_
    refine bD ?_
    refine aw ?_
    refine q_e [9] ?_
    exact Ht (by omega) hb1
   ·intro hb1
    try simp only[bf] at hb1
    refine aq ?_
    refine aj ?_
    refine ah hG ?_ ?_
    ·try simp only[ba]
     exact⟨⟨(hC.2 _ (gr (t:=NT) (by omega))).1,(hC.2 _ (gr (t:=NT) (by omega))).2⟩,xy (by simp;omega)⟩
    refine aL ?_
    refine aj ?_
    refine ah hG ?_ ?_
    ·first|trivial|omega|(simp;done)|(simp;omega)
    show ∃ z,_
    refine q_l ?_
    exact zM (by omega) hC.1 g2 hb1
  ·intro hb0
   try simp only[bf] at hb0
   refine bh ?_
   refine aE ?_
   refine az ?_
   refine ay ?_
   refine aj ?_
   refine s_g hG ?_
   refine av ?_
   refine q_e [9] ?_
   exact Hu (by omega) g2
def qO(B:ag):Tab:={types:= [(3,(.int .i64)),(79,(.slice (.st (.pair (.st (.pair .bool (.slice (.int .u32)))) (.st (.pair .bool (.slice (.int .u32)))))))),(91,(.st (.pair (.st (.pair .bool (.slice (.int .u32)))) (.st (.pair .bool (.slice (.int .u32)))))))],elems:= [],cons:= [(114,lB)],hint:= [],N:=25,base:=B}
theorem A9{B:ag}(hB:aB B):aG Tryz.prog (qO B):=⟨⟨tc ty3 (tc fS (tc ty91 (ae))),af,by simp only[qO,ioB];omega⟩,aD (cc Tryz.func114 (oK hB) (au)),by kernel_rfl⟩
def jq:Con:=fun l os=>match l,os with
 | [.z (.slice (.st (.pair (.st (.pair .bool (.slice (.int .u32)))) (.st (.pair .bool (.slice (.int .u32))))))) p], []=>some (Sz QC p/\p.length<=QL, [.z (.slice (.st (.pair (.st (.pair .bool (.slice (.int .u32)))) (.st (.pair .bool (.slice (.int .u32))))))) (aI (aT (ar p)))], [])
 |_,_=>none
theorem iJ{B:ag}(hB:aB B):Valid B Tryz.prog 82 jq:=by
 refine ab (A9 hB).tab Tryz.func82 rfl rfl rfl ?_
 intro args os C rs os' hc hC
 unfold jq at hc
 split at hc
 case h_2=>cases hc
 rename_i p
 cases hc
 refine v_h (A9 hB) fun X hP hT hr hG=> ?_
 have hU:=qO.eq_1
 unfold qO at hT
 have hX:= @lB.eq_1
 simp only[Tryz.f82,aC,al,ioB]
 obtain⟨l0,rfl,hl0⟩:=hC.1.ex
 have hn:=hC.2
 rw[aF] at hn
 have hn:l0.length<=1000000000:=hn
 refine s_g hG ?_
 refine ak ?_
 refine ax ?_
 refine br (fun(z:List Rat)=>(⟨[(0, .l (.z (.slice (.st (.pair (.st (.pair .bool (.slice (.int .u32)))) (.st (.pair .bool (.slice (.int .u32))))))) (aI z))),(2, .l (.val (.slice none 0 0)))], []⟩:aa)) (fun z=>z.length<=l0.length/\(∀ x∈z,lq x<=QC)/\aT z=aT l0) (fun z=>z.length) l0 ?_ ?_ ?_
 ·simp only[ml0,ml1,Nat.reduceLT,Nat.reduceEqDiff,Nat.reduceAdd,Nat.reduceMul,Nat.reduceSub,Nat.reduceLeDiff,Nat.reduceBEq,Nat.reduceBNe,reduceIte,reduceDIte,reduceCtorEq]
 ·exact⟨Nat.le_refl _,hl0,rfl⟩
 ·rintro l ⟨g1,g2,g3⟩
  try dsimp only at g1 g2 g3
  refine ak ?_
  refine s_q hG ?_ ?_
  ·try simp only[ba]
   have hs:=vF (l:=l) (by omega)
   exact⟨id,id,hs.2,id,hs.1,id⟩
  refine ao ?_ ?_
  ·intro hb0
   try simp only[bt] at hb0
   have ht:=KN (by omega) hb0.1 hb0.2
   obtain⟨n1,n2,n3,n4,n5⟩:=vG (by omega) g1 g2 g3 ht
   refine aq ?_
   refine aj ?_
   refine ax ?_
   refine ah hG ?_ ?_
   ·try simp only[ba]
    rw[aF,cb (by omega)]
    exact⟨by omega,by omega,by omega,by omega⟩
   refine aL ?_
   show ∃ z,_
   refine q_l ?_
   exact⟨l.dropLast,n1,n2,n3,n4,n5⟩
  ·intro hb0
   try simp only[bf] at hb0
   have ht:=KO (l:=l) (by omega) hb0
   refine bh ?_
   refine aE ?_
   refine az ?_
   refine ay ?_
   refine aj ?_
   refine s_g hG ?_
   refine av ?_
   refine q_e [] ?_
   rw[aJ,<- g3,ht]
def km(B:ag):Tab:={types:= [(3,(.int .i64)),(79,(.slice (.st (.pair (.st (.pair .bool (.slice (.int .u32)))) (.st (.pair .bool (.slice (.int .u32)))))))),(91,(.st (.pair (.st (.pair .bool (.slice (.int .u32)))) (.st (.pair .bool (.slice (.int .u32)))))))],elems:= [],cons:= [(114,lB)],hint:= [23],N:=25,free:= [10000000],base:=B}
theorem Ba{B:ag}(hB:aB B):aG Tryz.prog (km B):=⟨⟨tc ty3 (tc fS (tc ty91 (ae))),af,by simp only[km,ioB];omega⟩,aD (cc Tryz.func114 (oK hB) (au)),by kernel_rfl⟩
def MG:Con:=fun l os=>match l,os with
 | [.ownS 10000000], [.arr (.st (.pair (.st (.pair .bool (.slice (.int .u32)))) (.st (.pair .bool (.slice (.int .u32)))))) 91 p]=>some (Sz QC p/\p.length<=QL, [.own (.st (.pair (.st (.pair .bool (.slice (.int .u32)))) (.st (.pair .bool (.slice (.int .u32)))))) 91 (aI (aT (ar p)))], [.arr (.st (.pair (.st (.pair .bool (.slice (.int .u32)))) (.st (.pair .bool (.slice (.int .u32)))))) 91 []])
 |_,_=>none
theorem DL{B:ag}(hB:aB B):Valid B Tryz.prog 82 MG [0]:=by
 refine o9 (T:=km B) (Ba hB).tab Tryz.func82 rfl rfl rfl (NA (by simp only[km];decide)) ?_
 intro args os C rs os' hc hC
 unfold MG at hc
 split at hc
 case h_2=>cases hc
 rename_i p
 cases hc
 refine v_h (Ba hB) fun X hP hT hr hG=> ?_
 have hU:=km.eq_1
 unfold km at hT
 have hX:=ai @lB.eq_1<| @b8.eq_def
 simp only[Tryz.f82,aC,al,ioB]
 obtain⟨l0,rfl,hl0⟩:=hC.1.ex
 have hn:=hC.2
 rw[aF] at hn
 have hn:l0.length<=1000000000:=hn
 refine JP 10000000 1 (by simp only[hT,km,mx0,mx1,mx2,mx3,mx4,mx5,mx6,Nat.reduceLT,Nat.reduceEqDiff,Nat.reduceAdd,Nat.reduceMul,Nat.reduceSub,Nat.reduceLeDiff,Nat.reduceBEq,Nat.reduceBNe,reduceIte,reduceDIte,reduceCtorEq];rfl) ?_
 refine s_g hG ?_
 refine ak ?_
 refine ax ?_
 refine br (fun(z:List Rat)=>(⟨[(0, .l (.ownS 1)),(2, .l (.val (.slice none 0 0)))], [(1, .arr (.st (.pair (.st (.pair .bool (.slice (.int .u32)))) (.st (.pair .bool (.slice (.int .u32)))))) 91 (aI z)),(10000000, .arr (.st (.pair (.st (.pair .bool (.slice (.int .u32)))) (.st (.pair .bool (.slice (.int .u32)))))) 91 [])]⟩:aa)) (fun z=>z.length<=l0.length/\(∀ x∈z,lq x<=QC)/\aT z=aT l0) (fun z=>z.length) l0 ?_ ?_ ?_
 ·simp only[ml0,ml1,Nat.reduceLT,Nat.reduceEqDiff,Nat.reduceAdd,Nat.reduceMul,Nat.reduceSub,Nat.reduceLeDiff,Nat.reduceBEq,Nat.reduceBNe,reduceIte,reduceDIte,reduceCtorEq]
 ·exact⟨Nat.le_refl _,hl0,rfl⟩
 ·rintro l ⟨g1,g2,g3⟩
  try dsimp only at g1 g2 g3
  refine ak ?_
  refine s_q hG ?_ ?_
  ·try simp only[ba]
   have hs:=vF (l:=l) (by omega)
   exact⟨id,id,hs.2,fun h=>⟨h,by have:=(hs.2 h).2;omega⟩,hs.1,id⟩
  refine ao ?_ ?_
  ·intro hb0
   try simp only[bt] at hb0
   have ht:=KN (by omega) hb0.1 hb0.2
   obtain⟨n1,n2,n3,n4,n5⟩:=vG (by omega) g1 g2 g3 ht
   refine aq ?_
   refine aj ?_
   refine ax ?_
   refine ah hG ?_ ?_
   ·try simp only[ba]
    rw[aF,cb (by omega)]
    exact⟨by omega,by omega,by omega,by omega⟩
   refine aL ?_
   show ∃ z,_
   refine q_l ?_
   exact⟨l.dropLast,n1,n2,n3,n4,n5⟩
  ·intro hb0
   try simp only[bf] at hb0
   have ht:=KO (l:=l) (by omega) hb0
   refine bh ?_
   refine aE ?_
   refine az ?_
   refine ay ?_
   refine aj ?_
   refine s_g hG ?_
   refine av ?_
   refine q_e [] ?_
   exact⟨⟨trivial,by rw[aJ,<- g3,ht]⟩,trivial,trivial⟩
def gb:Con:=fun l os=>match l,os with
 | [.z (.slice (.st (.pair (.st (.pair .bool (.slice (.int .u32)))) (.st (.pair .bool (.slice (.int .u32))))))) p], []=>some (Sz QC p/\p.length<=QL, [.z (.slice (.st (.pair (.st (.pair .bool (.slice (.int .u32)))) (.st (.pair .bool (.slice (.int .u32))))))) (aI (aT (ar p)))], [])
 | [.ownS 10000000], [.arr (.st (.pair (.st (.pair .bool (.slice (.int .u32)))) (.st (.pair .bool (.slice (.int .u32)))))) 91 p]=>some (Sz QC p/\p.length<=QL, [.own (.st (.pair (.st (.pair .bool (.slice (.int .u32)))) (.st (.pair .bool (.slice (.int .u32)))))) 91 (aI (aT (ar p)))], [.arr (.st (.pair (.st (.pair .bool (.slice (.int .u32)))) (.st (.pair .bool (.slice (.int .u32)))))) 91 []])
 |_,_=>none
theorem Ir{B:ag}(hB:aB B):Valid B Tryz.prog 82 gb [0]:=by
 intro args os C rs os' hc hC
 unfold gb at hc
 split at hc
 ·cases hc;exact KP (iJ hB) _ _ _ _ _ rfl hC
 ·cases hc;exact DL hB _ _ _ _ _ rfl hC
 ·cases hc
def qP(B:ag):Tab:={types:= [(3,(.int .i64)),(79,(.slice (.st (.pair (.st (.pair .bool (.slice (.int .u32)))) (.st (.pair .bool (.slice (.int .u32)))))))),(91,(.st (.pair (.st (.pair .bool (.slice (.int .u32)))) (.st (.pair .bool (.slice (.int .u32)))))))],elems:= [],cons:= [(113,ev)],hint:= [],N:=14,base:=B}
theorem Bb{B:ag}(hB:aB B):aG Tryz.prog (qP B):=⟨⟨tc ty3 (tc fS (tc ty91 (ae))),af,by simp only[qP,ioB];omega⟩,aD (cc Tryz.func113 (l5 hB) (au)),by kernel_rfl⟩
def wH:Con:=fun l os=>match l,os with
 | [.z (.slice (.st (.pair (.st (.pair .bool (.slice (.int .u32)))) (.st (.pair .bool (.slice (.int .u32))))))) p, .z (.int .i64) i], []=>some (Sz QC p/\0<=i, [.z (.st (.pair (.st (.pair .bool (.slice (.int .u32)))) (.st (.pair .bool (.slice (.int .u32)))))) (bj (cf (ar p) i.toNat))], [])
 |_,_=>none
theorem wI{B:ag}(hB:aB B):Valid B Tryz.prog 107 wH:=by
 refine ab (Bb hB).tab Tryz.func107 rfl rfl rfl ?_
 intro args os C rs os' hc hC
 unfold wH at hc
 split at hc
 case h_2=>cases hc
 rename_i p i
 cases hc
 refine v_h (Bb hB) fun X hP hT hr hG=> ?_
 have hU:=qP.eq_1
 unfold qP at hT
 have hX:= @ev.eq_1
 simp only[Tryz.f107,aC,al,ioB]
 obtain⟨n,rfl⟩:=Int.eq_ofNat_of_zero_le hC.2
 rw[Int.toNat_natCast]
 refine s_g hG ?_
 refine ak ?_
 refine s_g hG ?_
 refine ao ?_ ?_
 ·intro hb0
  try simp only[bt] at hb0
  refine s_q hG ?_ ?_
  ·try simp only[ba]
   exact⟨by omega,hb0⟩
  refine av ?_
  refine aw ?_
  refine q_e [] ?_
  rw[fW hC.1 (by omega)]
 ·intro hb0
  try simp only[bf] at hb0
  refine aq ?_
  refine aj ?_
  refine s_g hG ?_
  refine av ?_
  refine q_e [] ?_
  rw[KQ (by omega)]
def qQ(B:ag):Tab:={types:= [(3,(.int .i64)),(79,(.slice (.st (.pair (.st (.pair .bool (.slice (.int .u32)))) (.st (.pair .bool (.slice (.int .u32)))))))),(91,(.st (.pair (.st (.pair .bool (.slice (.int .u32)))) (.st (.pair .bool (.slice (.int .u32)))))))],elems:= [(79,91)],cons:= [(58,kz),(105,dF),(112,fA),(113,ev),(114,lB)],hint:= [19],N:=67,base:=B}
theorem Bc{B:ag}(hB:aB B):aG Tryz.prog (qQ B):=⟨⟨tc ty3 (tc fS (tc ty91 (ae))),aR (by kernel_rfl) (af),by simp only[qQ,ioB];omega⟩,aD (cc Tryz.func58 (jP hB) (cc Tryz.func105 (jQ hB) (cc Tryz.func112 (vL hB) (cc Tryz.func113 (l5 hB) (cc Tryz.func114 (oK hB) (au)))))),by kernel_rfl⟩
def oQ:Con:=fun l os=>match l,os with
 | [.z (.slice (.st (.pair (.st (.pair .bool (.slice (.int .u32)))) (.st (.pair .bool (.slice (.int .u32))))))) p, .z (.slice (.st (.pair (.st (.pair .bool (.slice (.int .u32)))) (.st (.pair .bool (.slice (.int .u32))))))) q], []=>some (Sz QM p/\Sz QM q/\p.length<=100/\q.length<=100, [.z (.slice (.st (.pair (.st (.pair .bool (.slice (.int .u32)))) (.st (.pair .bool (.slice (.int .u32))))))) (aI (c6 (ar p) (ar q)))], [])
 |_,_=>none
theorem wJ{B:ag}(hB:aB B):Valid B Tryz.prog 61 oQ:=by
 refine ab (Bc hB).tab Tryz.func61 rfl rfl rfl ?_
 intro args os C rs os' hc hC
 unfold oQ at hc
 split at hc
 case h_2=>cases hc
 rename_i p q
 cases hc
 refine v_h (Bc hB) fun X hP hT hr hG=> ?_
 have hU:=qQ.eq_1
 unfold qQ at hT
 have hX:=ai @kz.eq_1<|ai @dF.eq_1<|ai @lB.eq_1<|ai @fA.eq_1<| @ev.eq_1
 simp only[Tryz.f61,aC,al,ioB]
 obtain⟨hp,hq,hl1,hl2⟩:=hC
 refine s_g hG ?_
 refine ak ?_
 refine s_q hG ?_ ?_
 ·try simp only[ba]
  exact⟨id,id,fun h=>by rw[h];rfl⟩
 refine ao ?_ ?_
 ·intro hb0
  try simp only[bt] at hb0
  refine s_g hG ?_
  refine av ?_
  refine aw ?_
  refine q_e [] ?_
  exact Hv hb0
 ·intro hb0
  try simp only[bf] at hb0
  have h0:=KU hb0
  refine aq ?_
  refine aj ?_
  refine s_q hG ?_ ?_
  ·try simp only[ba]
   rw[vI hl1 hl2 h0]
   exact NC hl1 hl2
  refine ak ?_
  refine s_g hG ?_
  refine ax ?_
  refine br (fun(z:Nat)=>(⟨[(0, .l (.z (.slice (.st (.pair (.st (.pair .bool (.slice (.int .u32)))) (.st (.pair .bool (.slice (.int .u32))))))) p)),(1, .l (.z (.slice (.st (.pair (.st (.pair .bool (.slice (.int .u32)))) (.st (.pair .bool (.slice (.int .u32))))))) q)),(5, .l (.ownS 1208)),(27, .l (.z (.slice (.st (.pair (.st (.pair .bool (.slice (.int .u32)))) (.st (.pair .bool (.slice (.int .u32))))))) p)),(28, .l (.z (.int .i64) (p.length:Int))),(29, .l (.z (.int .i64) (z:Int)))], [(1208, .arr (.st (.pair (.st (.pair .bool (.slice (.int .u32)))) (.st (.pair .bool (.slice (.int .u32)))))) 91 (aI (mulN (ar p) (ar q) z)))]⟩:aa)) (fun z=>z<=p.length) (fun z=>p.length-z) 0 ?_ ?_ ?_
  ·refine q_l ?_
   rw[vI hl1 hl2 h0,Int.toNat_natCast]
   exact⟨rfl,times_start p q⟩
  ·omega
  ·rintro i g1
   try dsimp only at g1
   refine s_g hG ?_
   refine ak ?_
   refine ao ?_ ?_
   ·intro hb1
    try simp only[bt] at hb1
    refine aq ?_
    refine aj ?_
    refine ak ?_
    refine ax ?_
    refine s_q hG ?_ ?_
    ·try simp only[ba]
     exact⟨by omega,hb1⟩
    refine s_g hG ?_
    refine ax ?_
    refine br (fun(z:Nat)=>(⟨[(0, .l (.z (.slice (.st (.pair (.st (.pair .bool (.slice (.int .u32)))) (.st (.pair .bool (.slice (.int .u32))))))) p)),(1, .l (.z (.slice (.st (.pair (.st (.pair .bool (.slice (.int .u32)))) (.st (.pair .bool (.slice (.int .u32))))))) q)),(5, .l (.ownS 1208)),(27, .l (.z (.slice (.st (.pair (.st (.pair .bool (.slice (.int .u32)))) (.st (.pair .bool (.slice (.int .u32))))))) p)),(28, .l (.z (.int .i64) (p.length:Int))),(29, .l (.z (.int .i64) (i:Int))),(6, .l (.z (.int .i64) (i:Int))),(7, .l (.ownP 7 0)),(34, .l (.z (.slice (.st (.pair (.st (.pair .bool (.slice (.int .u32)))) (.st (.pair .bool (.slice (.int .u32))))))) q)),(35, .l (.z (.int .i64) (q.length:Int))),(36, .l (.z (.int .i64) (z:Int)))], [(1208, .arr (.st (.pair (.st (.pair .bool (.slice (.int .u32)))) (.st (.pair .bool (.slice (.int .u32)))))) 91 (aI (cu (mulN (ar p) (ar q) i) i (cf (ar p) i) (ar q) z))),(7, .box 91 [.z .bool (bj (cf (ar p) i)).1.1, .z (.slice (.int .u32)) (bj (cf (ar p) i)).1.2, .z .bool (bj (cf (ar p) i)).2.1, .z (.slice (.int .u32)) (bj (cf (ar p) i)).2.2])]⟩:aa)) (fun z=>z<=q.length) (fun z=>q.length-z) 0 ?_ ?_ ?_
    ·refine q_l ?_
     rw[fW hp (by omega)]
     exact⟨rfl,rfl,rfl,rfl,rfl,rfl⟩
    ·omega
    ·rintro k g2
     try dsimp only at g2
     refine s_g hG ?_
     refine ak ?_
     refine ao ?_ ?_
     ·intro hb2
      try simp only[bt] at hb2
      refine aq ?_
      refine aj ?_
      refine ak ?_
      refine ax ?_
      refine s_q hG ?_ ?_
      ·try simp only[ba]
       exact⟨by omega,hb2⟩
      refine s_q hG ?_ ?_
      ·try simp only[ba]
       have ek:=fW hq (i:=k) (by omega)
       simp only[pe2]
       rw[ek]
       exact⟨bL _,fun h=>⟨h,bL _⟩,id⟩
      refine ao ?_ ?_
      ·intro hb3
       try simp only[bt] at hb3
       have ek:=fW hq (i:=k) (by omega)
       obtain⟨w1,w2,w3,w4⟩:=Dj hp hq hl1 hl2 h0 (i:=i) (k:=k) (by omega) (by omega)
       refine gI hG ?_ ?_
       ·try simp only[ba]
        simp only[pe2]
        rw[ek,w1,Int.toNat_natCast,aH,aH]
        exact⟨⟨by omega,by omega⟩,w2,w3,w4,⟨by omega,by omega⟩,w2⟩
       refine aL ?_
       refine aj ?_
       refine ah hG ?_ ?_
       ·first|trivial|omega|(simp;done)|(simp;omega)
       show ∃ z,_
       refine q_l ?_
       first|exact tX hl2 (by omega) (tY hb3)|(simp only[pe2];rw[ek,w1,Int.toNat_natCast];simp only[aH];exact tW hp hq hl1 hl2 h0 (i:=i) (k:=k) (by omega) (by omega))
      ·intro hb3
       try simp only[bf] at hb3
       have ek:=fW hq (i:=k) (by omega)
       simp only[pe2,ek,aH] at hb3
       refine aq ?_
       refine aL ?_
       refine aj ?_
       refine ah hG ?_ ?_
       ·first|trivial|omega|(simp;done)|(simp;omega)
       show ∃ z,_
       refine q_l ?_
       first|exact tX hl2 (by omega) (tY hb3)|(simp only[pe2];rw[ek,w1,Int.toNat_natCast];simp only[aH];exact tW hp hq hl1 hl2 h0 (i:=i) (k:=k) (by omega) (by omega))
     ·intro hb2
      try simp only[bf] at hb2
      refine bh ?_
      refine aE ?_
      refine az ?_
      refine ay ?_
      refine aL ?_
      refine aj ?_
      refine ah hG ?_ ?_
      ·first|trivial|omega|(simp;done)|(simp;omega)
      show ∃ z,_
      refine q_l ?_
      exact Hw hl1 (by omega) (by omega)
   ·intro hb1
    try simp only[bf] at hb1
    refine bh ?_
    refine aE ?_
    refine az ?_
    refine ay ?_
    refine aj ?_
    refine s_g hG ?_
    refine av ?_
    refine q_e [] ?_
    exact times_fin h0 (by omega)
end Go.Proofs.YtdojbabpnaifoaaGreatDoor
end
section
namespace Go.Cm
def LV.toRow(id:Nat):LV->LV
 | .ownS i=>if i=id then .ownR id 0 else .ownS i
 |x=>x.kill id
def LV.ofRow(id j:Nat):LV->LV
 | .ownR i k=>if i=id then (if k=j then .ownS id else .junk) else .ownR i k
 |x=>x.kill id
def aa.toRow(s:aa)(id:Nat)(T':TypeId):Option aa:=
 match get? s.own id with
 |some (.arr t E xs)=>if id<ioB then some {env:=bS (LV.toRow id) s.env,own:=upd (bu (LV.toRow id) s.own) id (.mat t T' E [some xs] [])} else none
 |_=>none
def aa.ofRow(s:aa)(id j:Nat):Option aa:=
 match get? s.own id with
 |some (.mat t _ E rows _)=>match (rows[j]?).getD none with
  |some xs=>if id<ioB then some {env:=bS (LV.ofRow id j) s.env,own:=upd (bu (LV.ofRow id j) s.own) id (.arr t E xs)} else none
  |none=>none
 |_=>none
theorem St.toRow{X:Cx}{s s':aa}{id:Nat}{T':TypeId}(he:s.toRow id T'=some s'){ac:Act}{w:World}(h:St X s ac w):St X s' ac w:=by
 unfold aa.toRow at he
 split at he
 case h_2=>cases he
 rename_i t E xs hg
 split at he
 case isFalse=>cases he
 rename_i hid
 cases he
 obtain⟨ρ,hf⟩:=h.fits
 obtain⟨cells,hr,hrow⟩:=hf.own _ (get?_mem hg)
 have hsl:∃ a n c,ρ id= .slice a n c:=by
  obtain⟨_,⟨h1,_⟩|⟨g,cap,cur,h1,_⟩⟩:=hrow<;>exact⟨_,_,_,h1⟩
 obtain⟨a,n,c,hsl⟩:=hsl
 have hblk:∀ b,blk (ρ id)=some b↔Blk (ρ id) b:=by
  intro b
  rw[hsl]
  cases a with
  |none=>simp[blk,Blk]
  |some a=>simp[blk,Blk]
 obtain⟨ρ',q1,q2⟩:=hf.renew (w':=w) hg (f:=LV.toRow id) (val:= .tuple #[.slice none 0 0,ρ id]) (obj':= .mat t T' E [some xs] [])
  (fun H' ρ' hh hs hρ hρd x v hx=>by
   cases x with
   |ownS i=>
    simp only[LV.toRow]
    split
    ·rename_i e;subst e
     have hx:v=ρ i/\_:=hx
     exact⟨.slice none 0 0, [ρ i],a,n,c,hρd,by simp[hx.1],by rw[hx.1,hsl]⟩
    ·rename_i e
     simp only[aU,hρ i e];exact hx
   |z t x=>exact bl hh hs hρ hx
   |ownP i o=>exact bl hh hs hρ hx
   |ownE i w o=>exact bl hh hs hρ hx
   |ownW i w o=>exact bl hh hs hρ hx
   |ownM i=>exact bl hh hs hρ hx
   |ownA i o=>exact bl hh hs hρ hx
   |ownR i o=>exact bl hh hs hρ hx
   |ownB i o p q=>exact bl hh hs hρ hx
   |fn f c=>exact bl hh hs hρ hx
   |val u=>exact bl hh hs hρ hx
   |junk=>exact bl hh hs hρ hx)
  (fun _ _ _=>rfl)
  (fun b hb=>by
   obtain⟨u,hu,hb⟩:=hb
   simp only[List.mem_cons,List.not_mem_nil,or_false] at hu
   rcases hu with rfl|rfl
   ·simp[blk] at hb
   ·exact .inl ((hblk b).1 hb))
  (fun H' ρ' hh hs hρ hρd=>by
   refine⟨.slice none 0 0, [ρ id], [],hρd,⟨rfl,⟨rfl, .inl ⟨rfl,rfl⟩⟩,fun c hc=>by simp at hc,fun i j hi=>by simp at hi,?_,?_,?_⟩⟩
   ·intro v hv
    simp only[List.mem_singleton] at hv
    subst hv
    refine⟨⟨a,n,c,hsl⟩,fun b hb=>⟨by simp[blk],?_,?_⟩⟩
    ·exact((hf.own _ (get?_mem hg)).lt ((hblk b).1 hb)).1
    ·exact(hf.own _ (get?_mem hg)).cells ((hblk b).1 hb)
   ·intro j ys v hj hv
    cases j with
    |zero=>
     simp at hj hv
     subst hj;subst hv
     exact⟨cells,aW hh hs hr,hrow⟩
    |succ j=>simp at hj
   ·intro i j xs' ys u v hne hi hj
    cases i with
    |zero=>cases j with
     |zero=>exact absurd rfl hne
     |succ j=>simp at hj
    |succ i=>simp at hi)
  (fun hB _=>absurd hid (by omega))
 exact⟨h.marks,h.kept,h.size,h.below,h.others,h.small,ρ',q2⟩
theorem St.ofRow{X:Cx}{s s':aa}{id j:Nat}(he:s.ofRow id j=some s'){ac:Act}{w:World}(h:St X s ac w):St X s' ac w:=by
 unfold aa.ofRow at he
 split at he
 case h_2=>cases he
 rename_i t T' E rows idx hg
 split at he
 case h_2=>cases he
 rename_i xs hj
 split at he
 case isFalse=>cases he
 rename_i hid
 cases he
 obtain⟨ρ,hf⟩:=h.fits
 obtain⟨h0,vs,cells,hρ0,hm⟩:=hf.own _ (get?_mem hg)
 have hjr:rows[j]? =some (some xs):=by
  cases hq:rows[j]? with
  |none=>rw[hq] at hj;cases hj
  |some o=>rw[hq] at hj;simp at hj;rw[hj]
 have hjl:j<vs.length:=by rw[hm.len];exact(List.getElem?_eq_some_iff.1 hjr).1
 have hvj:vs[j]? =some vs[j]:=List.getElem?_eq_getElem hjl
 obtain⟨cs,hr,hrow⟩:=hm.row j xs _ hjr hvj
 obtain⟨⟨a,n,c,hsl⟩,_⟩:=hm.shape vs[j] (List.getElem_mem hjl)
 obtain⟨ρ',q1,q2⟩:=hf.renew (w':=w) hg (f:=LV.ofRow id j) (val:=vs[j]) (obj':= .arr t E xs)
  (fun H' ρ' hh hs hρ hρd x v hx=>by
   cases x with
   |ownR i k=>
    simp only[LV.ofRow]
    split
    ·rename_i e;subst e
     split
     ·rename_i e;subst e
      obtain⟨h1,vs1,a1,n1,c1,e1,e2,e3⟩:=hx
      rw[hρ0] at e1
      simp only[Value.tuple.injEq,Array.mk.injEq,List.cons.injEq] at e1
      obtain⟨_,rfl⟩:=e1
      rw[hvj] at e2
      cases e2
      exact⟨hρd.symm,_,_,_,e3⟩
     ·trivial
    ·rename_i e
     have:=bl (x:= .ownR i k) hh hs hρ hx
     unfold LV.kill at this
     rw[if_neg (by simp[LV.isOf];exact e)] at this
     exact this
   |z t x=>exact bl hh hs hρ hx
   |ownS i=>exact bl hh hs hρ hx
   |ownP i o=>exact bl hh hs hρ hx
   |ownE i w o=>exact bl hh hs hρ hx
   |ownW i w o=>exact bl hh hs hρ hx
   |ownM i=>exact bl hh hs hρ hx
   |ownA i o=>exact bl hh hs hρ hx
   |ownB i o p q=>exact bl hh hs hρ hx
   |fn f c=>exact bl hh hs hρ hx
   |val u=>exact bl hh hs hρ hx
   |junk=>exact bl hh hs hρ hx)
  (fun _ _ _=>rfl)
  (fun b hb=> .inl (by
   rw[hρ0]
   refine⟨vs[j],by simp,?_⟩
   rw[hsl] at hb ⊢
   cases a with
   |none=>simp[Blk] at hb
   |some a=>simpa [blk,Blk] using hb))
  (fun H' ρ' hh hs hρ hρd=>⟨cs,aW hh hs hr,by rw[hρd];exact hrow⟩)
  (fun hB _=>absurd hid (by omega))
 exact⟨h.marks,h.kept,h.size,h.below,h.others,h.small,ρ',q2⟩
theorem yq{X:Cx}{c:Code}{s s':aa}{K:Exit->aa->Prop}(id:Nat)(T':TypeId)(he:s.toRow id T'=some s')(h:J X c s' K):J X c s K:=
 fun ac w hst=>h ac w (hst.toRow he)
theorem qR{X:Cx}{c:Code}{s s':aa}{K:Exit->aa->Prop}(id j:Nat)(he:s.ofRow id j=some s')(h:J X c s' K):J X c s K:=
 fun ac w hst=>h ac w (hst.ofRow he)
end Go.Cm
end
section
namespace Go.Proofs.YtdojbabpnaifoaaGreatDoor
open Go Go.Cm Go.Proofs
def qS(B:ag):Tab:={types:= [(3,(.int .i64)),(79,(.slice (.st (.pair (.st (.pair .bool (.slice (.int .u32)))) (.st (.pair .bool (.slice (.int .u32)))))))),(91,(.st (.pair (.st (.pair .bool (.slice (.int .u32)))) (.st (.pair .bool (.slice (.int .u32)))))))],elems:= [(79,91)],cons:= [(119,fB)],hint:= [],N:=25,base:=B}
theorem Bd{B:ag}(hB:aB B):aG Tryz.prog (qS B):=⟨⟨tc ty3 (tc fS (tc ty91 (ae))),aR (by kernel_rfl) (af),by simp only[qS,ioB];omega⟩,aD (cc Tryz.func119 (wB hB) (au)),by kernel_rfl⟩
def oR:Con:=fun l os=>match l,os with
 | [.z (.slice (.st (.pair (.st (.pair .bool (.slice (.int .u32)))) (.st (.pair .bool (.slice (.int .u32))))))) p], []=>some (ot p, [.z (.slice (.st (.pair (.st (.pair .bool (.slice (.int .u32)))) (.st (.pair .bool (.slice (.int .u32))))))) (aI (cU (ar p)))], [])
 |_,_=>none
theorem wK{B:ag}(hB:aB B):Valid B Tryz.prog 120 oR:=by
 refine ab (Bd hB).tab Tryz.func120 rfl rfl rfl ?_
 intro args os C rs os' hc hC
 unfold oR at hc
 split at hc
 case h_2=>cases hc
 rename_i p
 cases hc
 refine v_h (Bd hB) fun X hP hT hr hG=> ?_
 have hU:=qS.eq_1
 unfold qS at hT
 have hX:= @fB.eq_1
 simp only[Tryz.f120,aC,al,ioB]
 have hl:p.length<=1000:=hC.2.1
 refine s_g hG ?_
 refine s_g hG ?_
 refine ak ?_
 refine s_g hG ?_
 refine ax ?_
 refine br (fun(z:Nat)=>(⟨[(0, .l (.z (.slice (.st (.pair (.st (.pair .bool (.slice (.int .u32)))) (.st (.pair .bool (.slice (.int .u32))))))) p)),(3, .l (.ownS 22)),(6, .l (.z (.slice (.st (.pair (.st (.pair .bool (.slice (.int .u32)))) (.st (.pair .bool (.slice (.int .u32))))))) p)),(7, .l (.z (.int .i64) (p.length:Int))),(8, .l (.z (.int .i64) (z:Int)))], [(22, .arr (.st (.pair (.st (.pair .bool (.slice (.int .u32)))) (.st (.pair .bool (.slice (.int .u32)))))) 91 (aI ((ar p).take z|>.map fun c=>c/aK (ar p))))]⟩:aa)) (fun z=>z<=p.length) (fun z=>p.length-z) 0 ?_ ?_ ?_
 ·refine q_l ?_
  exact⟨rfl,by unfold ioB;omega,rfl⟩
 ·omega
 ·rintro k g1
  try dsimp only at g1
  refine s_g hG ?_
  refine ak ?_
  refine ao ?_ ?_
  ·intro hb0
   try simp only[bt] at hb0
   obtain⟨m1,m2,m3,m4,m5,m6⟩:=KW hC (k:=k) (by omega)
   refine aq ?_
   refine aj ?_
   refine ak ?_
   refine ax ?_
   refine s_q hG ?_ ?_
   ·try simp only[ba]
    exact⟨by omega,hb0⟩
   refine yq 22 78 (by simp only[aa.toRow,LV.toRow,ioB,mx0,mx1,mx2,mx3,mx4,mx5,mx6,Nat.reduceLT,Nat.reduceEqDiff,Nat.reduceAdd,Nat.reduceMul,Nat.reduceSub,Nat.reduceLeDiff,Nat.reduceBEq,Nat.reduceBNe,reduceIte,reduceDIte,reduceCtorEq];rfl) ?_
   refine gI hG ?_ ?_
   ·try simp only[ba]
    simp only[pe2]
    rw[m1,m2]
    exact⟨m3,⟨m4,by rw[aH];exact m5⟩,rfl,m6⟩
   refine aL ?_
   refine aj ?_
   refine qR 22 1 (by simp only[aa.ofRow,LV.ofRow,ioB,List.set_cons_zero,List.set_cons_succ,List.append_nil,List.nil_append,List.cons_append,List.getElem?_cons_zero,List.getElem?_cons_succ,Option.getD_some,mx0,mx1,mx2,mx3,mx4,mx5,mx6,Nat.reduceLT,Nat.reduceEqDiff,Nat.reduceAdd,Nat.reduceMul,Nat.reduceSub,Nat.reduceLeDiff,Nat.reduceBEq,Nat.reduceBNe,reduceIte,reduceDIte,reduceCtorEq];rfl) ?_
   refine ah hG ?_ ?_
   ·first|trivial|omega|(simp;done)|(simp;omega)
   show ∃ z,_
   refine q_l ?_
   simp only[pe2]
   rw[m1,m2]
   simp only[aH]
   exact Hx hC (by omega)
  ·intro hb0
   try simp only[bf] at hb0
   refine bh ?_
   refine aE ?_
   refine az ?_
   refine ay ?_
   refine aj ?_
   refine s_g hG ?_
   refine av ?_
   refine q_e [] ?_
   exact NF (by omega)
def qT(B:ag):Tab:={types:= [(3,(.int .i64)),(79,(.slice (.st (.pair (.st (.pair .bool (.slice (.int .u32)))) (.st (.pair .bool (.slice (.int .u32)))))))),(91,(.st (.pair (.st (.pair .bool (.slice (.int .u32)))) (.st (.pair .bool (.slice (.int .u32)))))))],elems:= [(79,91)],cons:= [(105,dF),(124,Ik)],hint:= [],N:=24,base:=B}
theorem Be{B:ag}(hB:aB B):aG Tryz.prog (qT B):=⟨⟨tc ty3 (tc fS (tc ty91 (ae))),aR (by kernel_rfl) (af),by simp only[qT,ioB];omega⟩,aD (cc Tryz.func105 (jQ hB) (cc Tryz.func124 (wC hB) (au))),by kernel_rfl⟩
def jR:Con:=fun l os=>match l,os with
 | [.z (.slice (.st (.pair (.st (.pair .bool (.slice (.int .u32)))) (.st (.pair .bool (.slice (.int .u32))))))) p], []=>some (Sz QH p/\p.length<=1000, [.z (.slice (.st (.pair (.st (.pair .bool (.slice (.int .u32)))) (.st (.pair .bool (.slice (.int .u32))))))) (aI (cq (ar p)))], [])
 |_,_=>none
theorem wL{B:ag}(hB:aB B):Valid B Tryz.prog 77 jR:=by
 refine ab (Be hB).tab Tryz.func77 rfl rfl rfl ?_
 intro args os C rs os' hc hC
 unfold jR at hc
 split at hc
 case h_2=>cases hc
 rename_i p
 cases hc
 refine v_h (Be hB) fun X hP hT hr hG=> ?_
 have hU:=qT.eq_1
 unfold qT at hT
 have hX:=ai @dF.eq_1<| @Ik.eq_1
 simp only[Tryz.f77,aC,al,ioB]
 have hl:p.length<=1000:=hC.2
 refine s_g hG ?_
 refine s_g hG ?_
 refine ak ?_
 refine s_g hG ?_
 refine ax ?_
 refine br (fun(z:Nat)=>(⟨[(3, .l (.ownS 21)),(6, .l (.z (.slice (.st (.pair (.st (.pair .bool (.slice (.int .u32)))) (.st (.pair .bool (.slice (.int .u32))))))) p)),(7, .l (.z (.int .i64) (p.length:Int))),(8, .l (.z (.int .i64) (z:Int)))], [(21, .arr (.st (.pair (.st (.pair .bool (.slice (.int .u32)))) (.st (.pair .bool (.slice (.int .u32)))))) 91 (aI (mP (ar p) z)))]⟩:aa)) (fun z=>z<=p.length) (fun z=>p.length-z) 0 ?_ ?_ ?_
 ·refine q_l ?_
  exact⟨rfl,by unfold ioB;omega,rfl⟩
 ·omega
 ·rintro k g1
  try dsimp only at g1
  refine s_g hG ?_
  refine ak ?_
  refine ao ?_ ?_
  ·intro hb0
   try simp only[bt] at hb0
   obtain⟨m1,m2,m3,m4⟩:=KX hC.1 hl (k:=k) (by omega)
   refine aq ?_
   refine aj ?_
   refine ak ?_
   refine ax ?_
   refine s_q hG ?_ ?_
   ·try simp only[ba]
    exact⟨by omega,hb0⟩
   refine s_g hG ?_
   refine ao ?_ ?_
   ·intro hb1
    try simp only[bt] at hb1
    refine yq 21 78 (by simp only[aa.toRow,LV.toRow,ioB,mx0,mx1,mx2,mx3,mx4,mx5,mx6,Nat.reduceLT,Nat.reduceEqDiff,Nat.reduceAdd,Nat.reduceMul,Nat.reduceSub,Nat.reduceLeDiff,Nat.reduceBEq,Nat.reduceBNe,reduceIte,reduceDIte,reduceCtorEq];rfl) ?_
    refine gI hG ?_ ?_
    ·try simp only[ba]
     simp only[pe2]
     rw[m2]
     exact⟨m1,m3,rfl,m4⟩
    refine aL ?_
    refine aj ?_
    first|refine qR 21 1 (by simp only[aa.ofRow,LV.ofRow,ioB,List.set_cons_zero,List.set_cons_succ,List.append_nil,List.nil_append,List.cons_append,List.getElem?_cons_zero,List.getElem?_cons_succ,Option.getD_some,mx0,mx1,mx2,mx3,mx4,mx5,mx6,Nat.reduceLT,Nat.reduceEqDiff,Nat.reduceAdd,Nat.reduceMul,Nat.reduceSub,Nat.reduceLeDiff,Nat.reduceBEq,Nat.reduceBNe,reduceIte,reduceDIte,reduceCtorEq];rfl) ?_|skip
    refine ah hG ?_ ?_
    ·first|trivial|omega|(simp;done)|(simp;omega)
    show ∃ z,_
    refine q_l ?_
    first|exact zU hl (by omega) (by omega)|(simp only[pe2];rw[m2];simp only[aH];exact vJ hl (by omega) (by omega))
   ·intro hb1
    try simp only[bf] at hb1
    refine aq ?_
    refine aL ?_
    refine aj ?_
    first|refine qR 21 1 (by simp only[aa.ofRow,LV.ofRow,ioB,List.set_cons_zero,List.set_cons_succ,List.append_nil,List.nil_append,List.cons_append,List.getElem?_cons_zero,List.getElem?_cons_succ,Option.getD_some,mx0,mx1,mx2,mx3,mx4,mx5,mx6,Nat.reduceLT,Nat.reduceEqDiff,Nat.reduceAdd,Nat.reduceMul,Nat.reduceSub,Nat.reduceLeDiff,Nat.reduceBEq,Nat.reduceBNe,reduceIte,reduceDIte,reduceCtorEq];rfl) ?_|skip
    refine ah hG ?_ ?_
    ·first|trivial|omega|(simp;done)|(simp;omega)
    show ∃ z,_
    refine q_l ?_
    first|exact zU hl (by omega) (by omega)|(simp only[pe2];rw[m2];simp only[aH];exact vJ hl (by omega) (by omega))
  ·intro hb0
   try simp only[bf] at hb0
   refine bh ?_
   refine aE ?_
   refine az ?_
   refine ay ?_
   refine aj ?_
   refine s_g hG ?_
   refine av ?_
   refine q_e [] ?_
   rw[show k=(ar p).length by rw[aM];omega];rfl
end Go.Proofs.YtdojbabpnaifoaaGreatDoor
end
section
namespace Go.Proofs
open Go.RowKit Go.Cm Go.Shelf
attribute [local go_sem] Oper.semAt_some
set_option maxHeartbeats 2000000 in
set_option maxRecDepth 100000 in
theorem DM(ad:Addr)(n c:Nat)(news:List Value)(w:World)(hl:news.length=n*4)(hn:n<=maxLen)(hbig:n*64<=140737488355328)
  (hc:∀ j u,news[j]? =some u->w.cell? (ad.add j)=some u) (h1:∀ u∈news,u.oneCell'=true):
  Calls Tryz.prog 118 #[.slice (some ad) n c] w fun e w'=>∃ v',e= .returned v'/\w'.ownsRow w.heap.size 91 4 v' n news/\Below w.heap.size w w':=by
 have t4:=Tryz.underlying4
 have a4:=Tryz.isAgg4
 have z4:=Tryz.sizeOf4
 have v4:=Tryz.zeroValue4
 have t22:=Tryz.underlying79
 have a22:=Tryz.isAgg79
 have z22:=Tryz.sizeOf79
 have v22:=Tryz.zeroValue79
 obtain⟨i0,hi,hz0,hz1,hz2⟩:=info_parts (show (Tryz.prog.info? 91).map (fun i=>(i.zero,i.size,i.bytes))=some (some (.agg zc4.toArray),4,64) by kernel_rfl)
 have q22:∀ (w:World) (a:Option Addr) (n c n' c':Nat),(binOp .eql 79 (.slice a n c) (.slice none n' c')).run Tryz.prog w= .ok (.bool a.isNone) w:=fun w a n c n' c'=>Lib.run_eql_slice_nil w _ _ a n c n' c' t22
 have u22:∀ w,Sem.run Tryz.prog (underlying 79) w= .ok (TypeDesc.slice 91) w:=run_underlying t22
 have z23:∀ w,(Go.sizeOf 91).run Tryz.prog w= .ok 4 w:=fun w=>by simp[Go.sizeOf,typeInfo,hi,hz1]
 have A:Aside (∀ j u,news[j]? =some u->w.cell? (ad.add j)=some u):=hc
 clear hc
 go_enter Tryz.func118,Tryz.ntmps118
 go_wp2_with (at_builtin;refine wpList_append_own _ rfl _ _ 79 rfl w.heap.size 91 i0 (.agg zc4.toArray) 4 64 t22 hi hz0 hz1 hz2 rfl (by omega) _ _ _ rfl (World.ownsRow_made w #[] 0 (Nat.le_refl _) (Nat.zero_le _) (by simp)) ad n c news rfl ?qc1 ?qc2 ?qc3 ?qc4 ?qc5 ?qc6 ?_)
 case qc1=>exact hl
 case qc2=>
  intro j u hj
  exact Lib.cell?_alloc_some _ (A.out j u hj)
 case qc3=>exact h1
 case qc4=>rw[Nat.zero_add];exact hn
 case qc5=>rw[Nat.zero_add];exact hbig
 case qc6=>simp
 intro v' w1 hown hgrow hnil
 go_wp2
 go_ret
 refine⟨v',rfl,by simpa using hown,?_⟩
 exact((Below.refl _ w).alloc (Nat.le_refl _) _).grown hgrow (by simp) (by intro k hk;simp[Value.ownBlock] at hk;omega)
set_option maxHeartbeats 1000000 in
theorem Is(n c:Nat)(w:World):Calls Tryz.prog 118 #[.slice none n c] w fun e w'=>e= .returned (.slice none 0 0)/\w'=w:=by
 have t4:=Tryz.underlying4
 have a4:=Tryz.isAgg4
 have z4:=Tryz.sizeOf4
 have v4:=Tryz.zeroValue4
 have t22:=Tryz.underlying79
 have a22:=Tryz.isAgg79
 have z22:=Tryz.sizeOf79
 have v22:=Tryz.zeroValue79
 have q22:∀ (w:World) (a:Option Addr) (n c n' c':Nat),(binOp .eql 79 (.slice a n c) (.slice none n' c')).run Tryz.prog w= .ok (.bool a.isNone) w:=fun w a n c n' c'=>Lib.run_eql_slice_nil w _ _ a n c n' c' t22
 go_enter Tryz.func118,Tryz.ntmps118
 go_wp2
 go_ret
 exact⟨rfl,rfl⟩
def c8:Con:=fun l os=>match l,os with
 | [.z (.slice (.st (.pair (.st (.pair .bool (.slice (.int .u32)))) (.st (.pair .bool (.slice (.int .u32))))))) xs], []=>some (xs.length<=QL, [.own (.st (.pair (.st (.pair .bool (.slice (.int .u32)))) (.st (.pair .bool (.slice (.int .u32)))))) 91 xs], [])
 |_,_=>none
theorem It{B:ag}(hB:aB B):Valid B Tryz.prog 118 c8:=by
 intro args os C rs os' hc hC O w vals ρ0 hOn hIo hO hOI hargs hown hap
 unfold c8 at hc
 split at hc
 case h_2=>cases hc
 rename_i xs
 cases hc
 obtain⟨u,rfl,hu⟩:=pS hargs
 obtain⟨cells,hr,h⟩:=ib hu
 have hl:=bE (fun c x h=>NT.rep_length h) hr
 have hC:xs.length<=1000000000:=hC
 have hmove:∀ w':World,Below w.heap.size w w'->∀ H:Nat->Prop,(∀ b,b<w.heap.size->H b->O b)->cI (fun c x=>NT.rep H w' c x) cells xs:=
  fun w' hb H hH=>aW (fun b hlt hb=> .inl (hH b hlt hb)) (fun b _ hlt=>hb.block b (cW hlt)) hr
 rcases h with⟨rfl,h0,rfl⟩|⟨ad,c,rfl,hc⟩
 ·refine(Is 0 0 w).mono fun e w' ⟨he,hw⟩=> ?_
  subst he;subst hw
  exact xG hO (Below.refl _ _) ⟨_,_,_,rfl⟩ (hmove _ (Below.refl _ _)) ⟨by simp[h0], .inl ⟨rfl,h0⟩⟩
 ·refine(DM ad xs.length c cells w hl (by unfold maxLen;omega) (by omega) hc (eL hr)).mono fun e w' ⟨v',he,hrow,hb⟩=> ?_
  subst he
  obtain⟨h1,h2⟩:=hrow
  refine xG hO hb ?_ (hmove _ hb) ⟨h1,?_⟩
  ·rcases h2 with⟨rfl,_⟩|⟨g,cap,cur,rfl,_⟩<;>exact⟨_,_,_,rfl⟩
  ·rcases h2 with h2|⟨g,cap,cur,e1,e2,e3,e4,e5,e6,e7⟩
   ·exact .inl h2
   ·exact .inr ⟨g,cap,cur,e1,e2,e3,e4,e5,by rw[e6];exact Nat.le_refl _,e7⟩
end Go.Proofs
end
section
namespace Go.Proofs.YtdojbabpnaifoaaGreatDoor
open Go Go.Cm Go.Proofs
def cZ(B:ag):Tab:={types:= [(3,(.int .i64)),(79,(.slice (.st (.pair (.st (.pair .bool (.slice (.int .u32)))) (.st (.pair .bool (.slice (.int .u32)))))))),(91,(.st (.pair (.st (.pair .bool (.slice (.int .u32)))) (.st (.pair .bool (.slice (.int .u32)))))))],elems:= [(79,91)],cons:= [(60,eS),(82,gb),(105,dF),(112,fA),(113,ev),(118,c8),(119,fB)],hint:= [],N:=78,io:= [(82, [0])],frees:= [(82, [0])],base:=B}
theorem Bf{B:ag}(hB:aB B):aG Tryz.prog (cZ B):=⟨⟨tc ty3 (tc fS (tc ty91 (ae))),aR (by kernel_rfl) (af),by simp only[cZ,ioB];omega⟩,aD (cc Tryz.func60 (oJ hB) (cc Tryz.func82 (Ir hB) (cc Tryz.func105 (jQ hB) (cc Tryz.func112 (vL hB) (cc Tryz.func113 (l5 hB) (cc Tryz.func118 (It hB) (cc Tryz.func119 (wB hB) (au)))))))),by kernel_rfl⟩
def pL:Con:=fun l os=>match l,os with
 | [.z (.slice (.st (.pair (.st (.pair .bool (.slice (.int .u32)))) (.st (.pair .bool (.slice (.int .u32))))))) p, .z (.slice (.st (.pair (.st (.pair .bool (.slice (.int .u32)))) (.st (.pair .bool (.slice (.int .u32))))))) q], []=>some (fX p q, [.z (.slice (.st (.pair (.st (.pair .bool (.slice (.int .u32)))) (.st (.pair .bool (.slice (.int .u32))))))) (aI (divN (ar p) (ar q)).1), .own (.st (.pair (.st (.pair .bool (.slice (.int .u32)))) (.st (.pair .bool (.slice (.int .u32)))))) 91 (aI (divN (ar p) (ar q)).2)], [])
 |_,_=>none
theorem oS{B:ag}(hB:aB B):Valid B Tryz.prog 68 pL:=by
 refine ab (Bf hB).tab Tryz.func68 rfl rfl rfl ?_
 intro args os C rs os' hc hC
 unfold pL at hc
 split at hc
 case h_2=>cases hc
 rename_i p q
 cases hc
 refine v_h (Bf hB) fun X hP hT hr hG=> ?_
 have hU:=cZ.eq_1
 unfold cZ at hT
 have hX:=ai @c8.eq_1<|ai @fB.eq_1<|ai @dF.eq_1<|ai @eS.eq_1<|ai @fA.eq_1<|ai @gb.eq_1<|ai @ev.eq_1<|ai @bW.eq_def<| @b8.eq_def
 simp only[Tryz.f68,aC,al,ioB]
 refine ak ?_
 have hl1:=hC.l1
 have hl2:=hC.l2
 have h0:=hC.h0
 obtain⟨v1,v2,v3⟩:=PH hC
 refine cF hG (by simp only[hT,cZ,bW.eq_def,b8.eq_def,c8,fB,dF,eS,fA,gb,ev,mx0,mx1,mx2,mx3,mx4,mx5,mx6,aV,bp,bF,aZ,bo,Ty.fieldTy,Ty.fieldOf,Nat.reduceLT,Nat.reduceEqDiff,Nat.reduceAdd,Nat.reduceMul,Nat.reduceSub,Nat.reduceLeDiff,Nat.reduceBEq,Nat.reduceBNe,reduceIte,reduceDIte,reduceCtorEq];rfl) ?_ ?_
 ·first|trivial|omega|(simp;done)|(simp;omega)
 refine aj ?_
 refine ak ?_
 refine cF hG (by simp only[hT,cZ,bW.eq_def,b8.eq_def,c8,fB,dF,eS,fA,gb,ev,mx0,mx1,mx2,mx3,mx4,mx5,mx6,aV,bp,bF,aZ,bo,Ty.fieldTy,Ty.fieldOf,Nat.reduceLT,Nat.reduceEqDiff,Nat.reduceAdd,Nat.reduceMul,Nat.reduceSub,Nat.reduceLeDiff,Nat.reduceBEq,Nat.reduceBNe,reduceIte,reduceDIte,reduceCtorEq];rfl) ?_ ?_
 ·try simp only[ba]
  show p.length<=1000000000
  omega
 refine aj ?_
 refine ak ?_
 refine cF hG (by simp only[hT,cZ,bW.eq_def,b8.eq_def,c8,fB,dF,eS,fA,gb,ev,mx0,mx1,mx2,mx3,mx4,mx5,mx6,aV,bp,bF,aZ,bo,Ty.fieldTy,Ty.fieldOf,Nat.reduceLT,Nat.reduceEqDiff,Nat.reduceAdd,Nat.reduceMul,Nat.reduceSub,Nat.reduceLeDiff,Nat.reduceBEq,Nat.reduceBNe,reduceIte,reduceDIte,reduceCtorEq];rfl) ?_ ?_
 ·try simp only[ba]
  rw[v1]
  exact⟨v2,v3⟩
 refine aj ?_
 refine ak ?_
 refine ax ?_
 refine JP 1104 1600 (by simp only[hT,cZ,mx0,mx1,mx2,mx3,mx4,mx5,mx6,Nat.reduceLT,Nat.reduceEqDiff,Nat.reduceAdd,Nat.reduceMul,Nat.reduceSub,Nat.reduceLeDiff,Nat.reduceBEq,Nat.reduceBNe,reduceIte,reduceDIte,reduceCtorEq];rfl) ?_
 refine br (fun(z:Nat×List Rat×List Rat)=>(⟨[(0, .l (.z (.slice (.st (.pair (.st (.pair .bool (.slice (.int .u32)))) (.st (.pair .bool (.slice (.int .u32))))))) p)),(1, .l (.z (.slice (.st (.pair (.st (.pair .bool (.slice (.int .u32)))) (.st (.pair .bool (.slice (.int .u32))))))) q)),(6, .l (.ownS 1600)),(7, .l (.ownS 1184))], [(1600, .arr (.st (.pair (.st (.pair .bool (.slice (.int .u32)))) (.st (.pair .bool (.slice (.int .u32)))))) 91 (aI z.2.1)),(1184, .arr (.st (.pair (.st (.pair .bool (.slice (.int .u32)))) (.st (.pair .bool (.slice (.int .u32)))))) 91 (aI z.2.2))]⟩:aa)) (fun z=>DivPhi p q z.1 z.2.1 z.2.2) (fun z=>z.2.1.length) (p.length+1,ar p,List.replicate (p.length+1-q.length) 0) ?_ ?_ ?_
 ·refine q_l ?_
  rw[v1,Int.toNat_natCast,hC.enc,zS]
  exact⟨rfl,rfl⟩
 ·exact div_start hC
 ·rintro⟨n,r,s⟩ hz
  try dsimp only at hz
  refine ak ?_
  refine ak ?_
  refine cF hG (by simp only[hT,cZ,bW.eq_def,b8.eq_def,c8,fB,dF,eS,fA,gb,ev,mx0,mx1,mx2,mx3,mx4,mx5,mx6,aV,bp,bF,aZ,bo,Ty.fieldTy,Ty.fieldOf,Nat.reduceLT,Nat.reduceEqDiff,Nat.reduceAdd,Nat.reduceMul,Nat.reduceSub,Nat.reduceLeDiff,Nat.reduceBEq,Nat.reduceBNe,reduceIte,reduceDIte,reduceCtorEq];rfl) ?_ ?_
  ·first|trivial|omega|(simp;done)|(simp;omega)
  refine aj ?_
  refine ao ?_ ?_
  ·intro hb0
   try simp only[bt] at hb0
   have hle:q.length<=r.length:=by have h9:(q.length:Int)<=((aI r).length:Int):=hb0;rw[aF] at h9;omega
   obtain⟨w1,w2,n1,n2,n3⟩:=K0 hC hz hle
   have hk:=Ql hC hz hle
   refine aq ?_
   refine aj ?_
   refine ax ?_
   refine ak ?_
   refine cF hG (by simp only[hT,cZ,bW.eq_def,b8.eq_def,c8,fB,dF,eS,fA,gb,ev,mx0,mx1,mx2,mx3,mx4,mx5,mx6,aV,bp,bF,aZ,bo,Ty.fieldTy,Ty.fieldOf,Nat.reduceLT,Nat.reduceEqDiff,Nat.reduceAdd,Nat.reduceMul,Nat.reduceSub,Nat.reduceLeDiff,Nat.reduceBEq,Nat.reduceBNe,reduceIte,reduceDIte,reduceCtorEq];rfl) ?_ ?_
   ·first|trivial|omega|(simp;done)|(simp;omega)
   refine aj ?_
   refine ak ?_
   refine ti hG (by simp only[hT,mt0,cZ,bW.eq_def,b8.eq_def,c8,fB,dF,eS,fA,gb,ev,mx0,mx1,mx2,mx3,mx4,mx5,mx6,aV,bp,bF,aZ,bo,Ty.fieldTy,Ty.fieldOf,Nat.reduceLT,Nat.reduceEqDiff,Nat.reduceAdd,Nat.reduceMul,Nat.reduceSub,Nat.reduceLeDiff,Nat.reduceBEq,Nat.reduceBNe,reduceIte,reduceDIte,reduceCtorEq];rfl) (by kernel_rfl) (by rfl) (by rfl) ?_ ?_
   ·try simp only[ba]
    simp only[w1,w2,Int.toNat_natCast,n1,n2]
    exact Hz hC hz hle
   refine aj ?_
   refine ak ?_
   refine cF hG (by simp only[hT,cZ,bW.eq_def,b8.eq_def,c8,fB,dF,eS,fA,gb,ev,mx0,mx1,mx2,mx3,mx4,mx5,mx6,aV,bp,bF,aZ,bo,Ty.fieldTy,Ty.fieldOf,Nat.reduceLT,Nat.reduceEqDiff,Nat.reduceAdd,Nat.reduceMul,Nat.reduceSub,Nat.reduceLeDiff,Nat.reduceBEq,Nat.reduceBNe,reduceIte,reduceDIte,reduceCtorEq];rfl) ?_ ?_
   ·try simp only[ba]
    simp only[hk,Int.toNat_natCast]
    exact⟨⟨(xD hC hz hle).1,(xD hC hz hle).2.1⟩,(xD hC hz hle).2.2⟩
   refine aj ?_
   refine ak ?_
   refine ak ?_
   refine cF hG (by simp only[hT,cZ,bW.eq_def,b8.eq_def,c8,fB,dF,eS,fA,gb,ev,mx0,mx1,mx2,mx3,mx4,mx5,mx6,aV,bp,bF,aZ,bo,Ty.fieldTy,Ty.fieldOf,Nat.reduceLT,Nat.reduceEqDiff,Nat.reduceAdd,Nat.reduceMul,Nat.reduceSub,Nat.reduceLeDiff,Nat.reduceBEq,Nat.reduceBNe,reduceIte,reduceDIte,reduceCtorEq];rfl) ?_ ?_
   ·first|trivial|omega|(simp;done)|(simp;omega)
   refine aj ?_
   refine ax ?_
   refine br (fun(z:Nat)=>(⟨[(0, .l (.z (.slice (.st (.pair (.st (.pair .bool (.slice (.int .u32)))) (.st (.pair .bool (.slice (.int .u32))))))) p)),(1, .l (.z (.slice (.st (.pair (.st (.pair .bool (.slice (.int .u32)))) (.st (.pair .bool (.slice (.int .u32))))))) q)),(6, .l (.ownS 1600)),(7, .l (.ownS 1184)),(8, .l (.z (.int .i64) ((r.length-q.length:Nat):Int))),(9, .l (.ownP 9 0)),(51, .l (.z (.slice (.st (.pair (.st (.pair .bool (.slice (.int .u32)))) (.st (.pair .bool (.slice (.int .u32))))))) q)),(52, .l (.z (.int .i64) (q.length:Int))),(53, .l (.z (.int .i64) (z:Int)))], [(1600, .arr (.st (.pair (.st (.pair .bool (.slice (.int .u32)))) (.st (.pair .bool (.slice (.int .u32)))))) 91 (aI (cu r (r.length-q.length) (-(aK r/aK (ar q))) (ar q) z))),(1184, .arr (.st (.pair (.st (.pair .bool (.slice (.int .u32)))) (.st (.pair .bool (.slice (.int .u32)))))) 91 (aI (s.set (r.length-q.length) (aK r/aK (ar q))))),(9, .box 91 [.z .bool (bj (aK r/aK (ar q))).1.1, .z (.slice (.int .u32)) (bj (aK r/aK (ar q))).1.2, .z .bool (bj (aK r/aK (ar q))).2.1, .z (.slice (.int .u32)) (bj (aK r/aK (ar q))).2.2])]⟩:aa)) (fun z=>z<=q.length) (fun z=>q.length-z) 0 ?_ ?_ ?_
   ·refine q_l ?_
    simp only[hk,w1,w2,Int.toNat_natCast,pe2,n1,n2,aH,tV,cu,true_and,and_true,and_self]
    rfl
   ·omega
   ·rintro i g1
    try dsimp only at g1
    refine ak ?_
    refine cF hG (by simp only[hT,cZ,bW.eq_def,b8.eq_def,c8,fB,dF,eS,fA,gb,ev,mx0,mx1,mx2,mx3,mx4,mx5,mx6,aV,bp,bF,aZ,bo,Ty.fieldTy,Ty.fieldOf,Nat.reduceLT,Nat.reduceEqDiff,Nat.reduceAdd,Nat.reduceMul,Nat.reduceSub,Nat.reduceLeDiff,Nat.reduceBEq,Nat.reduceBNe,reduceIte,reduceDIte,reduceCtorEq];rfl) ?_ ?_
    ·first|trivial|omega|(simp;done)|(simp;omega)
    refine aj ?_
    refine ak ?_
    refine ao ?_ ?_
    ·intro hb1
     try simp only[bt] at hb1
     have hi:i<q.length:=by have h9:(i:Int)<(q.length:Int):=hb1;omega
     obtain⟨u1,u2,u3,u4,u5,u6⟩:=KY hC hz hle hi
     refine aq ?_
     refine aj ?_
     refine ak ?_
     refine ax ?_
     refine ak ?_
     refine cF hG (by simp only[hT,cZ,bW.eq_def,b8.eq_def,c8,fB,dF,eS,fA,gb,ev,mx0,mx1,mx2,mx3,mx4,mx5,mx6,aV,bp,bF,aZ,bo,Ty.fieldTy,Ty.fieldOf,Nat.reduceLT,Nat.reduceEqDiff,Nat.reduceAdd,Nat.reduceMul,Nat.reduceSub,Nat.reduceLeDiff,Nat.reduceBEq,Nat.reduceBNe,reduceIte,reduceDIte,reduceCtorEq];rfl) ?_ ?_
     ·try simp only[ba]
      exact⟨by omega,hb1⟩
     refine aj ?_
     refine ti hG (by simp only[hT,mt0,cZ,bW.eq_def,b8.eq_def,c8,fB,dF,eS,fA,gb,ev,mx0,mx1,mx2,mx3,mx4,mx5,mx6,aV,bp,bF,aZ,bo,Ty.fieldTy,Ty.fieldOf,Nat.reduceLT,Nat.reduceEqDiff,Nat.reduceAdd,Nat.reduceMul,Nat.reduceSub,Nat.reduceLeDiff,Nat.reduceBEq,Nat.reduceBNe,reduceIte,reduceDIte,reduceCtorEq];rfl) (by kernel_rfl) (by rfl) (by rfl) ?_ ?_
     ·try simp only[ba]
      simp only[pe2,u1,u3,u4,Int.toNat_natCast,aH]
      exact HB hC hz hle hi
     refine aL ?_
     refine aj ?_
     refine cF hG (by simp only[hT,cZ,bW.eq_def,b8.eq_def,c8,fB,dF,eS,fA,gb,ev,mx0,mx1,mx2,mx3,mx4,mx5,mx6,aV,bp,bF,aZ,bo,Ty.fieldTy,Ty.fieldOf,Nat.reduceLT,Nat.reduceEqDiff,Nat.reduceAdd,Nat.reduceMul,Nat.reduceSub,Nat.reduceLeDiff,Nat.reduceBEq,Nat.reduceBNe,reduceIte,reduceDIte,reduceCtorEq];rfl) ?_ ?_
     ·first|trivial|omega|(simp;done)|(simp;omega)
     show ∃ z,_
     refine q_l ?_
     simp only[pe2,u1,u3,u4,Int.toNat_natCast,aH,NH]
     exact K1 (n:=n) (s:=s) hC hi
    ·intro hb1
     try simp only[bf] at hb1
     have hi:i=q.length:=by have h9: ¬ (i:Int)<(q.length:Int):=hb1;omega
     refine bh ?_
     refine aE ?_
     refine az ?_
     refine ay ?_
     refine aj ?_
     refine cF hG (by simp only[hT,cZ,bW.eq_def,b8.eq_def,c8,fB,dF,eS,fA,gb,ev,mx0,mx1,mx2,mx3,mx4,mx5,mx6,aV,bp,bF,aZ,bo,Ty.fieldTy,Ty.fieldOf,Nat.reduceLT,Nat.reduceEqDiff,Nat.reduceAdd,Nat.reduceMul,Nat.reduceSub,Nat.reduceLeDiff,Nat.reduceBEq,Nat.reduceBNe,reduceIte,reduceDIte,reduceCtorEq];rfl) ?_ ?_
     ·try simp only[ba]
      rw[EM (p:=p) (n:=n) (s:=s) hi]
      exact KZ hC hz hle
     refine aL ?_
     show ∃ z,_
     refine q_l ?_
     obtain⟨m,hm⟩:=div_next hC hz hle
     exact⟨m,aT (cl (ar q) r),by rw[EM (p:=p) (n:=n) (s:=s) hi,aJ],_,rfl,hm,fo (by rw[aM];exact h0) (by rw[aM];exact hle) hC.hl⟩
  ·intro hb0
   try simp only[bf] at hb0
   have hle: ¬q.length<=r.length:=by have h9: ¬ (q.length:Int)<=((aI r).length:Int):=hb0;rw[aF] at h9;omega
   have he:=div_end hz hle
   refine bh ?_
   refine aE ?_
   refine az ?_
   refine ay ?_
   refine aj ?_
   refine ak ?_
   refine cF hG (by simp only[hT,cZ,bW.eq_def,b8.eq_def,c8,fB,dF,eS,fA,gb,ev,mx0,mx1,mx2,mx3,mx4,mx5,mx6,aV,bp,bF,aZ,bo,Ty.fieldTy,Ty.fieldOf,Nat.reduceLT,Nat.reduceEqDiff,Nat.reduceAdd,Nat.reduceMul,Nat.reduceSub,Nat.reduceLeDiff,Nat.reduceBEq,Nat.reduceBNe,reduceIte,reduceDIte,reduceCtorEq];rfl) ?_ ?_
   ·first|trivial|omega|(simp;done)|(simp;omega)
   refine aj ?_
   refine av ?_
   refine q_e [] ?_
   rw[<- he]
   exact⟨rfl,trivial,rfl⟩
def qU(B:ag):Tab:={types:= [(3,(.int .i64)),(79,(.slice (.st (.pair (.st (.pair .bool (.slice (.int .u32)))) (.st (.pair .bool (.slice (.int .u32))))))))],elems:= [],cons:= [(68,pL),(120,oR)],hint:= [13],N:=21,base:=B}
theorem Bg{B:ag}(hB:aB B):aG Tryz.prog (qU B):=⟨⟨tc ty3 (tc fS (ae)),af,by simp only[qU,ioB];omega⟩,aD (cc Tryz.func68 (oS hB) (cc Tryz.func120 (wK hB) (au))),by kernel_rfl⟩
def l8:Con:=fun l os=>match l,os with
 | [.z (.slice (.st (.pair (.st (.pair .bool (.slice (.int .u32)))) (.st (.pair .bool (.slice (.int .u32))))))) p, .z (.slice (.st (.pair (.st (.pair .bool (.slice (.int .u32)))) (.st (.pair .bool (.slice (.int .u32))))))) q], []=>some (iX p q, [.z (.slice (.st (.pair (.st (.pair .bool (.slice (.int .u32)))) (.st (.pair .bool (.slice (.int .u32))))))) (aI (cw (ar p) (ar q)))], [])
 |_,_=>none
theorem wM{B:ag}(hB:aB B):Valid B Tryz.prog 70 l8:=by
 refine ab (Bg hB).tab Tryz.func70 rfl rfl rfl ?_
 intro args os C rs os' hc hC
 unfold l8 at hc
 split at hc
 case h_2=>cases hc
 rename_i p q
 cases hc
 refine v_h (Bg hB) fun X hP hT hr hG=> ?_
 have hU:=qU.eq_1
 unfold qU at hT
 have hX:=ai @oR.eq_1<| @pL.eq_1
 simp only[Tryz.f70,aC,al,ioB]
 refine s_g hG ?_
 refine ak ?_
 refine ax ?_
 refine br (fun(z:Nat×List Rat×List Rat)=>(⟨[(0, .l (.z (.slice (.st (.pair (.st (.pair .bool (.slice (.int .u32)))) (.st (.pair .bool (.slice (.int .u32))))))) (aI z.2.1))),(1, .l (.z (.slice (.st (.pair (.st (.pair .bool (.slice (.int .u32)))) (.st (.pair .bool (.slice (.int .u32))))))) (aI z.2.2)))], []⟩:aa)) (fun z=>ud p q z.1 z.2.1 z.2.2) (fun z=>z.2.2.length) (q.length+1,ar p,ar q) ?_ ?_ ?_
 ·refine q_l ?_
  rw[xE hC.hp,xE hC.hq]
  exact⟨rfl,rfl⟩
 ·exact HC hC
 ·rintro⟨n,a,b⟩ hz
  try dsimp only at hz
  refine ak ?_
  refine s_g hG ?_
  refine ao ?_ ?_
  ·intro hb0
   try simp only[bt] at hb0
   have hl:0<b.length:=by have h9:(0:Int)<((aI b).length:Int):=hb0;rw[aF] at h9;omega
   obtain⟨d1,d2,⟨m,d3⟩,d4⟩:=K2 hz hl
   refine aq ?_
   refine aj ?_
   refine ax ?_
   refine s_q hG ?_ ?_
   ·try simp only[ba]
    exact d1
   refine ah hG ?_ ?_
   ·try simp only[ba]
    rw[aJ,aJ]
    exact d2
   refine aL ?_
   show ∃ z,_
   refine q_l ?_
   rw[aJ,aJ,aJ]
   exact⟨m,b,rfl,_,rfl,d3,d4⟩
  ·intro hb0
   try simp only[bf] at hb0
   have hl: ¬0<b.length:=by have h9: ¬ (0:Int)<((aI b).length:Int):=hb0;rw[aF] at h9;omega
   obtain⟨d1,d2⟩:=NI hz hl
   refine bh ?_
   refine aE ?_
   refine az ?_
   refine ay ?_
   refine aj ?_
   refine s_q hG ?_ ?_
   ·try simp only[ba]
    exact d1
   refine av ?_
   refine q_e [] ?_
   rw[aJ,d2]
def qV(B:ag):Tab:={types:= [(3,(.int .i64)),(79,(.slice (.st (.pair (.st (.pair .bool (.slice (.int .u32)))) (.st (.pair .bool (.slice (.int .u32))))))))],elems:= [],cons:= [(68,pL),(70,l8),(77,jR),(120,oR)],hint:= [14],N:=19,base:=B}
theorem Bh{B:ag}(hB:aB B):aG Tryz.prog (qV B):=⟨⟨tc ty3 (tc fS (ae)),af,by simp only[qV,ioB];omega⟩,aD (cc Tryz.func68 (oS hB) (cc Tryz.func70 (wM hB) (cc Tryz.func77 (wL hB) (cc Tryz.func120 (wK hB) (au))))),by kernel_rfl⟩
def qW:Con:=fun l os=>match l,os with
 | [.z (.slice (.st (.pair (.st (.pair .bool (.slice (.int .u32)))) (.st (.pair .bool (.slice (.int .u32))))))) p], []=>some (mn p, [.z (.slice (.st (.pair (.st (.pair .bool (.slice (.int .u32)))) (.st (.pair .bool (.slice (.int .u32))))))) (aI (cm (ar p)))], [])
 |_,_=>none
theorem Iu{B:ag}(hB:aB B):Valid B Tryz.prog 79 qW:=by
 refine ab (Bh hB).tab Tryz.func79 rfl rfl rfl ?_
 intro args os C rs os' hc hC
 unfold qW at hc
 split at hc
 case h_2=>cases hc
 rename_i p
 cases hc
 refine v_h (Bh hB) fun X hP hT hr hG=> ?_
 have hU:=qV.eq_1
 unfold qV at hT
 have hX:=ai @l8.eq_1<|ai @jR.eq_1<|ai @oR.eq_1<| @pL.eq_1
 simp only[Tryz.f79,aC,al,ioB]
 refine s_g hG ?_
 refine ak ?_
 refine s_g hG ?_
 refine ao ?_ ?_
 ·intro hb0
  try simp only[bt] at hb0
  refine s_g hG ?_
  refine av ?_
  refine aw ?_
  refine q_e [] ?_
  have h9:(p.length:Int)=0:=hb0
  obtain rfl:p= []:=List.eq_nil_of_length_eq_zero (by omega)
  rfl
 ·intro hb0
  try simp only[bf] at hb0
  have hne:p≠ []:=by intro e;subst e;exact hb0 rfl
  obtain⟨c1,c2,c3,c4,c5⟩:=hC hne
  refine aq ?_
  refine aj ?_
  refine s_q hG ?_ ?_
  ·try simp only[ba]
   simp only[aJ]
   exact⟨⟨c1,by omega⟩,c3,c4⟩
  refine s_q hG ?_ ?_
  ·try simp only[ba]
   simp only[aJ]
   exact c5
  refine av ?_
  refine q_e [] ?_
  simp only[aJ,cm,if_neg (show ¬ar p= [] from fun e=>hne (by have:=congrArg List.length e;rw[aM] at this;exact List.eq_nil_of_length_eq_zero this))]
end Go.Proofs.YtdojbabpnaifoaaGreatDoor
end
section
namespace Go.Cm
open Go.RowKit
def wN:Code->Option (Nat×TypeId×Nat)
 | .region _ ops false=>match ops.toList with
  | [o1,o2]=>match o1.guard,o1.dst,o1.op,o2.guard,o2.dst,o2.op with
   |none,some d, .alloc T,none,none, .store T' (.tmp d') (.tmp p)=>if T=T'/\d'=d/\p≠d then some (d,T,p) else none
   |_,_,_,_,_,_=>none
  |_=>none
 |_=>none
theorem yr{H:Nat->Prop}{w:World}{ρ:Nat->Value}{cs:List LV}{vs:List Value}(h:bC (gF H w ρ) cs vs):∀ c∈vs,c.oneCell'=true:=by
 intro c hc
 obtain⟨i,hi,rfl⟩:=List.getElem_of_mem hc
 have hl:=h.length
 obtain⟨v,h1,h2⟩:=h.get (List.getElem?_eq_getElem (show i<cs.length by omega))
 rw[List.getElem?_eq_getElem hi] at h1
 cases h1
 exact h2.2
theorem MH{X:Cx}{r:Option Nat}{n:Nat}(c:Code){d:Nat}{T:TypeId}{p:Nat}{u:Ty}(h:wN c=some (d,T,p))(hT:cN X.P T u)(a:Act)(w:World)(hd:d<a.tmps.size)(hl:(a.eval (.tmp p)).cells.toList.length=u.w)(h1:∀ c∈(a.eval (.tmp p)).cells.toList,c.oneCell'=true):
  ∃ Wb:World,(∀ k,k<w.heap.size->Wb.heap[k]? =w.heap[k]?)/\Wb.heap[w.heap.size]? =some (.cells ((a.eval (.tmp p)).cells.toList).toArray T (0,0))/\Wb.heap.size=w.heap.size+1/\(Wb.os=w.os/\Wb.tape=w.tape/\Wb.output=w.output)/\
   ∀ {K:Act->World->Prop} {R:Exit->Act->World->Prop},K (a.put (some d) (.pointer (some ⟨w.heap.size,0,none⟩))) Wb->c.wpIn (fw r) n X.P (Exit.then K R) a w:=by
 cases c with
 |region id ops draw=>
  cases draw with
  |true=>simp[wN] at h
  |false=>
   simp only[wN] at h
   split at h
   case h_2=>cases h
   rename_i o1 o2 hops
   split at h
   case h_2=>cases h
   rename_i d0 T0 T' d' p' g1 e1 e2 g2 e3 e4
   split at h
   case isFalse=>cases h
   rename_i hc
   obtain⟨rfl,rfl,hpd⟩:=hc
   cases h
   have hz:=gh hT.leaf u.zeroCells u.zeroCells_length u.zeroCells_one
   have hrow:(w.alloc (.cells (mkV u.isAgg u.zeroCells).cells T)).heap[w.heap.size]? =some (.cells u.zeroCells.toArray T (0,0)):=by
    rw[heap_alloc_new];congr 2;apply Array.ext';simpa using hz
   have hst:=fv (P:=X.P) hT (v:=a.eval (.tmp p)) hrow hl h1 (o:=0) (by rw[u.zeroCells_length];omega)
   have hset:=dH hrow (new:=(a.eval (.tmp p)).cells.toList) (off:=0) (by rw[hl,u.zeroCells_length];omega)
   refine⟨(w.alloc (.cells (mkV u.isAgg u.zeroCells).cells T)).setCells w.heap.size 0 (a.eval (.tmp p)).cells.toList,fun k hk=> ?_,?_,?_,?_,?_⟩
   ·rw[b9 _ _ _ _ (by omega)];exact b6 w _ k hk
   ·rw[hset]
    have e0:u.zeroCells.drop (0+(a.eval (.tmp p)).cells.toList.length)= []:=List.drop_of_length_le (by rw[hl,u.zeroCells_length];omega)
    rw[e0];simp
   ·rw[me,World.size_alloc]
   ·have hb:=Bel.setCells (M:=fun _=>True) (b:=w.heap.size) trivial (a.eval (.tmp p)).cells.toList 0 ((Bel.refl (fun _=>True) w).alloc (.cells (mkV u.isAgg u.zeroCells).cells T))
    exact⟨hb.os,hb.tape,hb.output⟩
   ·intro K R hk
    refine wpIn_region_list ?_
    rw[hops]
    have hw1:∀ t,Region.wanted o1 (yielded ops t)=true:=fun t=>by simp[Region.wanted,g1]
    have hw2:∀ t,Region.wanted o2 (yielded ops t)=true:=fun t=>by simp[Region.wanted,g2]
    simp only[wpListIn,hw1,if_true]
    refine bn (v:= .pointer (some ⟨w.heap.size,0,none⟩)) (w':=w.alloc (.cells (mkV u.isAgg u.zeroCells).cells T)) ?_ ?_
    ·unfold execOp;rw[e2];exact bA (u9 hT w)
    ·rw[e1]
     simp only[hw2,if_true]
     have hdv:(a.put (some d) (.pointer (some ⟨w.heap.size,0,none⟩))).eval (.tmp d)= .pointer (some ⟨w.heap.size,0,none⟩):=by
      simp[Act.eval,Act.put,hd]
     have hpv:(a.put (some d) (.pointer (some ⟨w.heap.size,0,none⟩))).eval (.tmp p)=a.eval (.tmp p):=by
      show (a.put (some d) _).tmps.getD p undef=a.tmps.getD p undef
      exact Act.getD_put_ne hpd
     refine gk (w':=(w.alloc (.cells (mkV u.isAgg u.zeroCells).cells T)).setCells w.heap.size 0 (a.eval (.tmp p)).cells.toList) ?_ ?_
     ·unfold execOp;rw[e4]
      simp only[hdv,hpv]
      simp[hst]
     ·rw[e3];exact hk
 |_=>simp[wN] at h
theorem Fits.freshO{X:Cx}{s:aa}{a:Act}{w w':World}{d:Nat}{obj:aO}{val:Value}{ρ:Nat->Value}(hf:Fits X s a w ρ)(hdB:d<ioB)
  (hkeep:∀ k,k<w.heap.size->w'.heap[k]? =w.heap[k]?) (hval:∀ b,Blk val b->w.heap.size<=b)
  (hobj:∀ H' ρ',(∀ b,b<w.heap.size->H' b->hot X.O ρ s.own b)->bm (hot X.O ρ s.own) w w'->(∀ i,i≠d->ρ' i=ρ i)->ρ' d=val->b4 H' w' ρ' X.M (d,obj)):
  ∃ ρ',ρ' d=val/\(∀ i,i≠d->ρ' i=ρ i)/\Fits X {env:=bS (LV.kill d) s.env,own:=(d,obj)::bu (LV.kill d) (del s.own d)} a w' ρ':=by
 have hlt:=fun p hp b hb=>((hf.own p hp).lt (b:=b) hb).2
 have hs:bm (hot X.O ρ s.own) w w':=fun b _ hb=>hkeep b (cW hb)
 have hh:∀ b,b<w.heap.size->hot X.O (mb ρ d val) ((d,obj)::bu (LV.kill d) (del s.own d)) b->hot X.O ρ s.own b:=by
  intro b hb h
  rcases h with h|⟨p,hp,hp2⟩
  ·exact .inl h
  ·rcases List.mem_cons.1 hp with rfl|hp
   ·simp only[cJ] at hp2
    have:=hval b hp2;omega
   ·obtain⟨u,h1,_⟩:=bq hp
    have h2:=bJ.1 h1
    rw[du _ _ h2.2] at hp2
    exact dm h2.1 hp2
 have hρ:∀ i,i≠d->mb ρ d val i=ρ i:=fun i hi=>du _ _ hi
 refine⟨mb ρ d val,cJ _ _ _,hρ,hf.env_map (fun x v hx=>bl hh hs hρ hx) ?_ ?_ ?_⟩
 ·intro p hp
  rcases List.mem_cons.1 hp with rfl|hp
  ·exact hobj _ _ hh hs hρ (cJ _ _ _)
  ·obtain⟨u,h1,h2⟩:=bq hp
   have h3:=bJ.1 h1
   have:=(hf.own _ h3.1).move (f:=LV.kill d) (ρ':=mb ρ d val) hh hs (fun x v hx=>bl hh hs hρ hx) (hρ _ h3.2) (fun b hb=>hkeep b (hlt _ h3.1 b hb))
   rw[<- h2] at this
   exact this
 ·intro p hp hB hF
  rcases List.mem_cons.1 hp with rfl|hp
  ·exact absurd hB (Nat.not_le.2 hdB)
  ·obtain⟨u,h1,_⟩:=bq hp
   have h3:=bJ.1 h1
   rw[hρ _ h3.2]
   exact hf.io _ h3.1 hB hF
 ·rw[List.pairwise_cons]
  constructor
  ·intro q hq
   obtain⟨u,h1,_⟩:=bq hq
   have h3:=bJ.1 h1
   refine⟨fun e=>h3.2 e.symm,fun b hb hq2=> ?_⟩
   rw[du _ _ h3.2] at hq2
   simp only[cJ] at hb
   have h4:=hval b hb
   have:=hlt _ h3.1 b hq2
   omega
  ·have hap:=cy (f:=LV.kill d) (fun i j=>i≠j/\∀ b,Blk (ρ i) b-> ¬Blk (ρ j) b) (cY (fun i j=>i≠j/\∀ b,Blk (ρ i) b-> ¬Blk (ρ j) b) (n:=d) hf.apart)
   refine hap.imp_of_mem fun {p q} hp hq hpq=> ?_
   obtain⟨_,h1,_⟩:=bq hp
   obtain⟨_,h2,_⟩:=bq hq
   rw[du _ _ (bJ.1 h1).2,du _ _ (bJ.1 h2).2]
   exact hpq
theorem Iv{X:Cx}(hr:X.r=none){s:aa}{K:Exit->aa->Prop}{g:Operand}{ps:Array Tmp}{assign body:Code}{gf:FuncId}
  {items:List (List LV)} (henters:∀ args w,(callFunc gf args).run X.P w= .ok (.enter gf args) w) (hdata:∀ it∈items,it.length=ps.size/\it.all LV.isZ=true) {d pv:Nat} {TB:TypeId} {ub:Ty} (hasg:wN assign=some (d,TB,pv)) (hTb:cN X.P TB ub) (hdN:d<X.T.N) (ks:List Nat)
  (hk1:ks.all (fun t=> !ps.toList.contains t&&t !=d)=true) (hps:ps.toList.all (fun t=>decide (t<X.T.N))=true)
  {ι:Type} (f:Nat->ι->aa) (Φ:Nat->ι->Prop) (x₀:ι) (h₀:le s (f 0 x₀))
  (hseq:∀ (a:Act) (w:World) (ρ:Nat->Value),St X s a w->Fits X s a w ρ->(∀ b,hot X.O (cL ρ s.own) (f 0 x₀).own b->b<w.heap.size)->∃ (lb:List Value) (E:Nat->Prop),a.eval g= .func (.func gf) #[] lb.toArray/\(∀ b,E b->X.M b/\(∃ o:Obj,w.heap[b]? =some o/\o.isCells=true)/\ ¬hot X.O (cL ρ s.own) (f 0 x₀).own b/\hot X.O ρ s.own b)/\∃ enc:Nat->Array Value,
   (∀ k (hk:k<items.length),bC (aU (fun b=>hot X.O (cL ρ s.own) (f 0 x₀).own b∨E b) w (fun _=>undef)) items[k] (enc k).toList)/\vm X.P gf lb.toArray enc items.length (y7 (hot (fun _=>False) (cL ρ s.own) (f 0 x₀).own) w.heap.size) w E) (hΦ:Φ 0 x₀) (hks:∀ k x,(f k x).env.all (fun e=>ks.contains e.1)=true)
  (hround:∀ k (hk:k<items.length) (x:ι),Φ k x->∃ s1 v cs,bb (ec (f k x) (ps.toList.zip items[k])) (.tmp pv)=some v/\v.cells=some cs/\cs.length=ub.w/\cs.all (fun c=> !c.isOf d)=true/\s1={env:=(d, .l (.ownP d 0))::del ((ec (f k x) (ps.toList.zip items[k])).kill d).env d,own:=(d, .box TB cs)::((ec (f k x) (ps.toList.zip items[k])).kill d).own}/\
   ∀ X':Cx,X'.P=X.P->X'.T={X.T with keep:=ks}->J X' body s1 (xi f Φ ks K k))
  (hdone:∀ x,Φ items.length x->K .normal (f items.length x)):J X (.rangeFunc g ps assign body) s K:=by
 intro a w hst
 obtain⟨ρ,hf⟩:=hst.fits
 have hHlt':∀ b,hot X.O (cL ρ s.own) (f 0 x₀).own b->b<w.heap.size:=fun b hb=>hf.hot_lt hst.others hst.below (mD h₀ hb)
 have hseq':=hseq a w ρ hst hf hHlt'
 obtain⟨H,hH⟩:∃ H,H=hot (fun _=>False) (cL ρ s.own) (f 0 x₀).own:=⟨_,rfl⟩
 have hHX:∀ b,H b->hot X.O (cL ρ s.own) (f 0 x₀).own b:=fun b hb=>by rw[hH] at hb;exact hb.elim False.elim .inr
 rw[<- hH] at hseq'
 obtain⟨lb,E,hlb1,hE,enc,henc,hsq⟩:=hseq'
 have hEM:=fun b hb=>(hE b hb).1
 have hEw:=fun b hb=>(hE b hb).2.1
 have hEH:∀ b,E b-> ¬H b:=fun b hb h=>(hE b hb).2.2.1 (hHX b h)
 have hw0:X.w0.heap.size<=w.heap.size:=hst.below.size
 have hout0:eG X a w H E (f 0 x₀) w (cL ρ s.own):=by
  have h1:Fits (XE X E) (f 0 x₀) a w (cL ρ s.own):=Fits.leO h₀ hf (fun b _ hb=>by
   rcases hb with(hb|hb)|hb
   ·exact .inl hb
   ·exact(hE b hb).2.2.2
   ·exact mD h₀ (.inr hb))
  exact⟨h1,hst.below,fun p hp b hb=> .inr (by rw[hH];exact dm hp hb),KeepsOthers.refl _,bm.refl _ _⟩
 refine wpIn_rangeFunc ?_
 intro fn hfn
 have hround0:(fw X.r).round=none:=by rw[hr];rfl
 rw[hround0]
 obtain⟨rec,hrec⟩:∃ rec:LoopState->Option Code->Loop,rec=fun st pe=>{state:=st,pending:=pe,fn,tmps:=a.tmps,params:=ps,assign,body,defers:=w.heap.size}:=⟨_,rfl⟩
 obtain⟨W1,hW1⟩:∃ W1,(w.alloc (.deferred (some []))).alloc (.loop (rec .ready none))=W1:=⟨_,rfl⟩
 have hsz1:W1.heap.size=w.heap.size+2:=by rw[<- hW1];simp
 have hL1:W1.heap[w.heap.size+1]? =some (.loop (rec .ready none)):=by
  rw[<- hW1];have:=World.alloc_heap_new (w.alloc (.deferred (some []))) (.loop (rec .ready none));rwa [World.size_alloc] at this
 have hD1:W1.heap[w.heap.size]? =some (.deferred (some [])):=by
  rw[<- hW1];exact(Below.heap_alloc _ _ _ (by simp)).trans (World.alloc_heap_new w _)
 have hb1:Below w.heap.size w W1:=by rw[<- hW1];exact((Below.refl _ w).alloc (Nat.le_refl _) _).alloc (by simp) _
 have hout1:eG X a w H E (f 0 x₀) W1 (cL ρ s.own):=by
  rw[<- hW1]
  exact(hout0.abide hw0 (World.grownBy_alloc _ _ none) (by simp)).abide hw0 (World.grownBy_alloc _ _ none) (by simp)
 refine⟨w.heap.size+1, [{target:= .collected w.heap.size,args:= #[]}],W1,{target:= .fn (.func gf) lb.toArray,args:= #[.func (.yield (w.heap.size+1)) #[] #[]]},W1,gf,
  #[.func (.yield (w.heap.size+1)) #[] #[]]++lb.toArray,W1,?_,?_,fun _ _=>trivial,?_,fun h=>by simp[fw,Fence.wide] at h,?_⟩
 ·rw[<- hW1,hrec];exact run_enterLoop_outer _ _ _ _ _
 ·simp only[resolve,hlb1]
  simp[go_sem]
 ·simp[invoke,go_sem,henters]
 have hfw:fw X.r=fw none:=by rw[hr]
 rw[hfw]
 have hkeptA:∀ k (act0:Act),act0.tmps=((ps.toList.zip (enc k).toList).foldl (fun(t:Array Value) (p:Nat×Value)=>t.setIfInBounds p.1 p.2) a.tmps)->∀ t∈ks,∀ pt:Value,(act0.put (some d) pt).tmps.getD t undef=a.tmps.getD t undef:=by
  intro k act0 h0 t ht pt
  have h1:=List.all_eq_true.1 hk1 t ht
  simp only[Bool.and_eq_true,Bool.not_eq_true',List.contains_eq_mem,decide_eq_false_iff_not,bne_iff_ne] at h1
  rw[Act.getD_put_ne h1.2,h0,nV]
  intro hm
  obtain⟨p,hp,rfl⟩:=List.mem_map.1 hm
  exact h1.1 (List.of_mem_zip hp).1
 have hE1: ¬E (w.heap.size+1):=fun e=>by
  obtain⟨o,ho,_⟩:=hEw _ e
  have:=(Array.getElem?_eq_some_iff.1 ho).1;omega
 have hE2: ¬E w.heap.size:=fun e=>by
  obtain⟨o,ho,_⟩:=hEw _ e
  have:=(Array.getElem?_eq_some_iff.1 ho).1;omega
 refine(hsq (w.heap.size+1)
  (fun k W=>(∃ x ρ,Φ k x/\eG X a w H E (f k x) W ρ)/\W.heap[w.heap.size+1]? =some (.loop (rec .ready none))/\W.heap[w.heap.size]? =some (.deferred (some [])))
  (fun W=>∃ c,(∃ z ρ,JM K z c/\eG X a w H E z W ρ)/\W.heap[w.heap.size+1]? =some (.loop (rec .done (some c)))/\W.heap[w.heap.size]? =some (.deferred (some [])))
  W1 hb1 ?_ ?_ ?_ ?_ ?_ ⟨⟨x₀,_,hΦ,hout1⟩,hL1,hD1⟩).mono ?_
 ·rintro k A B row ⟨⟨x,ρx,hx,ho⟩,hl,hd⟩ hg' hrow
  refine⟨⟨x,ρx,hx,ho.abide hw0 hg' (fun r e=> ?_)⟩,(grownBy_keeps hg' (fun r e=>(hrow r e).2) hl rfl).trans hl,(grownBy_keeps hg' (fun r e=>(hrow r e).2) hd rfl).trans hd⟩
  obtain⟨h1,o,h2,h3⟩:=hrow r e
  exact⟨by omega,o,h2,Obj.not_cells_of_walk h3⟩
 ·rintro _ A B row ⟨c,⟨z,ρx,hx,ho⟩,hl,hd⟩ hg' hrow
  refine⟨c,⟨z,ρx,hx,ho.abide hw0 hg' (fun r e=> ?_)⟩,(grownBy_keeps hg' (fun r e=>(hrow r e).2) hl rfl).trans hl,(grownBy_keeps hg' (fun r e=>(hrow r e).2) hd rfl).trans hd⟩
  obtain⟨h1,o,h2,h3⟩:=hrow r e
  exact⟨by omega,o,h2,Obj.not_cells_of_walk h3⟩
 ·rintro k A B ⟨⟨x,ρx,hx,ho⟩,hl,hd⟩ ht
  exact⟨⟨x,ρx,hx,ho.turn hEM hEw hEH ht⟩,(ht.same _ hE1).trans hl,(ht.same _ hE2).trans hd⟩
 ·rintro A B ⟨c,⟨z,ρx,hx,ho⟩,hl,hd⟩ ht
  exact⟨c,⟨z,ρx,hx,ho.turn hEM hEw hEH ht⟩,(ht.same _ hE1).trans hl,(ht.same _ hE2).trans hd⟩
 ·rintro k W ⟨⟨x,ρx,hx,ho⟩,hl,hd⟩ hkN
  obtain⟨s1,v,cs,hv1,hv2,hv3,hv4,hs1,hJ⟩:=hround k hkN x hx
  have hlt:w.heap.size+1<W.heap.size:=(Array.getElem?_eq_some_iff.1 hl).1
  have hen:=henc k hkN
  have hdat:=hdata _ (List.getElem_mem hkN)
  have hes:(enc k).size=ps.size:=by have:=hen.length;rw[hdat.1] at this;simpa using this.symm
  have hy:=run_yield (P:=X.P) (args:=enc k) hl (by rw[hrec];exact hes)
  rw[hrec] at hy

  obtain⟨W2,hW2⟩:∃ W2,W.putObj (w.heap.size+1) (.loop {rec .ready none with state:= .busy})=W2:=⟨_,rfl⟩
  have hl2:W2.heap[w.heap.size+1]? =some (.loop {rec .ready none with state:= .busy}):=by rw[<- hW2];exact World.putObj_heap_same hlt
  have hd2:W2.heap[w.heap.size]? =some (.deferred (some [])):=by rw[<- hW2];exact(World.putObj_heap_other (by omega)).trans hd
  have ho2:eG X a w H E (f k x) W2 ρx:=by
   rw[<- hW2]
   exact ho.abide hw0 (grownBy_putObj' _ _ _) (fun r e=>by cases e;exact⟨by omega,_,hl,rfl⟩)

  have hzip:(ps.zip (enc k)).toList=ps.toList.zip (enc k).toList:=Array.toList_zip
  have hfold:(ps.zip (enc k)).foldl (fun(t:Array Value) (p:Nat×Value)=>t.setIfInBounds p.1 p.2) a.tmps=(ps.toList.zip (enc k).toList).foldl (fun(t:Array Value) (p:Nat×Value)=>t.setIfInBounds p.1 p.2) a.tmps:=by
   rw[<- Array.foldl_toList,hzip]
  obtain⟨act0,hact0⟩:∃ act0:Act,act0={tmps:=(ps.toList.zip (enc k).toList).foldl (fun(t:Array Value) (p:Nat×Value)=>t.setIfInBounds p.1 p.2) a.tmps,defers:= []}:=⟨_,rfl⟩
  have hfitA:Fits (XE X E) (f k x) {a with defers:= []} W2 ρx:=⟨ho2.fits.env,ho2.fits.own,ho2.fits.io,ho2.fits.apart⟩
  have hHsub:∀ b,b<w.heap.size->hot (XE X E).O ρx (f k x).own b->(hot X.O (cL ρ s.own) (f 0 x₀).own b∨E b):=by
   rintro b hb ((h1|h1)|⟨p,hp,hpb⟩)
   ·exact .inl (.inl h1)
   ·exact .inr h1
   ·rcases ho2.own p hp b hpb with h2|h2
    ·omega
    ·exact .inl (hHX b h2)
  have hvals:bC (aU (hot (XE X E).O ρx (f k x).own) W2 ρx) ((ps.toList.zip (items[k])).map Prod.snd) (enc k).toList:=by
   have e:(ps.toList.zip (items[k])).map Prod.snd=items[k]:=List.map_snd_zip (by have:=hdat.1;simp;omega)
   rw[e]
   refine hen.imp (fun y v hy h=> ?_)
   have hz:=List.all_eq_true.1 hdat.2 y hy
   refine aY hHsub (fun b hb hc=>ho2.stays b (fun e=>hb (e.imp (hHX b) id)) hc) (fun id hid=> ?_) h
   cases y<;>simp_all [LV.isZ,LV.isOf]
  have hszA:a.tmps.size=X.T.N:=hst.size
  have e1:(ps.toList.zip (items[k])).map Prod.fst=ps.toList:=List.map_fst_zip (by have:=hdat.1;simp;omega)
  obtain⟨actP,hactP,hfitP,hszP⟩:=nU (ps.toList.zip (items[k])) (enc k).toList hfitA rfl hszA (fun p hp=>by
   have:=List.all_eq_true.1 hps p.1 (List.of_mem_zip hp).1
   simpa using this) hvals
  rw[e1] at hactP
  have hP0:actP=act0:=by rw[hactP,hact0]
  rw[hP0] at hfitP hszP
  have hpv:bb (ec (f k x) (ps.toList.zip items[k])) (.tmp pv)=some v:=hv1
  have hcells:=AV.cells_ok hv2 (bY hfitP hpv)
  obtain⟨Wb,hWb1,hWb2,hWb3,hWb4,hexec⟩:=MH (X:=X) (r:=some (w.heap.size+1)) (n:=0) assign hasg hTb act0 W (by rw[hszP];exact hdN) (by rw[<- hcells.length];exact hv3) (yr hcells)
  refine⟨fn,_,assign,body,hy,roundIn_of_wpIn (F:=fw none) trivial ?_⟩
  rw[hfold,<- hact0]
  refine hexec ⟨_,run_beginRound ((hWb1 _ (Array.getElem?_eq_some_iff.1 hl).1).trans hl) (by rw[hrec]),?_⟩
  have hW2s:W2.heap.size=W.heap.size:=by rw[<- hW2];simp[World.putObj]
  obtain⟨W2b,hW2b⟩:∃ W2b,Wb.putObj (w.heap.size+1) (.loop {rec .ready none with state:= .busy})=W2b:=⟨_,rfl⟩
  rw[hW2b]
  have hkb:∀ k,k<W2.heap.size->W2b.heap[k]? =W2.heap[k]? :=by
   intro k hk
   rw[<- hW2b,<- hW2]
   by_cases e:k=w.heap.size+1
   ·subst e;rw[World.putObj_heap_same (by omega),World.putObj_heap_same hlt]
   ·rw[World.putObj_heap_other e,World.putObj_heap_other e,hWb1 k (by omega)]
  have hnb:W2b.heap[W2.heap.size]? =some (.cells ((act0.eval (.tmp pv)).cells.toList).toArray TB (0,0)):=by
   rw[<- hW2b,hW2s,World.putObj_heap_other (by omega)];exact hWb2
  have hbelb:∀ M:Nat->Prop,Bel M W2 W2b:=fun M=>by
   have e1:W2b.os=W2.os:=by rw[<- hW2b,<- hW2];exact hWb4.1
   have e2:W2b.tape=W2.tape:=by rw[<- hW2b,<- hW2];exact hWb4.2.1
   have e3:W2b.output=W2.output:=by rw[<- hW2b,<- hW2];exact hWb4.2.2
   exact⟨e1,e2,e3,by rw[<- hW2b];simp only[World.putObj,Array.size_setIfInBounds];omega,fun k hk _=>hkb k hk⟩
  have hdB:d<ioB:=Nat.lt_of_lt_of_le hdN hst.small.n
  obtain⟨ρn,hρd,hρo,hfit1⟩:=Fits.freshO hfitP hdB (w':=W2b) (obj:= .box TB cs) (val:= .pointer (some ⟨W2.heap.size,0,none⟩)) hkb (fun b hb=>by simp[Blk] at hb;omega)
   (fun H' ρ' hh hs hρ hρd=>⟨W2.heap.size,(act0.eval (.tmp pv)).cells.toList,hρd, .inl (by have:=ho2.bel.size;exact this),hnb,bC.kill hh hs hρ (fun c hc=>by have:=List.all_eq_true.1 hv4 c hc;simpa using this) hcells⟩)
  have hfit1:=hfit1.put (d:=d) (by rw[hszP];exact hdN) (v:= .l (.ownP d 0)) (val:= .pointer (some ⟨W2.heap.size,0,none⟩)) ⟨W2.heap.size,hρd,rfl⟩
  have hs1':s1={env:=(d, .l (.ownP d 0))::del (bS (LV.kill d) (ec (f k x) (ps.toList.zip items[k])).env) d,own:=(d, .box TB cs)::bu (LV.kill d) (del (ec (f k x) (ps.toList.zip items[k])).own d)}:=hs1
  rw[hW2s] at hfit1
  have hkA:∀ t∈ks,(act0.put (some d) (.pointer (some ⟨W.heap.size,0,none⟩))).tmps.getD t undef=a.tmps.getD t undef:=fun t ht=>hkeptA k act0 (by rw[hact0]) t ht _
  have hst1:St {XE X E with T:={X.T with keep:=ks},I:=fun b=>∃ p∈(f k x).own,Blk (ρx p.1) b,w0:=W2,r:=some (w.heap.size+1),tm:=fun t=>(act0.put (some d) (.pointer (some ⟨W.heap.size,0,none⟩))).tmps.getD t undef} s1 (act0.put (some d) (.pointer (some ⟨W.heap.size,0,none⟩))) W2b:=by
   refine⟨?_,fun _ _=>rfl,by rw[Act.size_put];exact hszP,hbelb _,fun b hb hm=> ?_,⟨hst.small.n,?_,fun b hb=> ?_⟩,ρn,by rw[hs1'];exact hfit1.env,fun p hp=> ?_,by rw[hs1'];exact hfit1.io,by rw[hs1'];exact hfit1.apart⟩
   ·rw[Act.defers_put,hact0];exact Marks.nil _ _
   ·rcases hb with hb|hb
    ·rcases hm with hm|⟨p,hp,hpb⟩
     ·have h1:=hst.others b hb
      have h2:b<X.w0.heap.size:=by
       by_cases h3:b<X.w0.heap.size
       ·exact h3
       ·exact absurd (.inl (by omega)) h1
      have:=ho2.bel.size
      simp only at hm;omega
     ·exact hst.others b hb ((ho2.fits.own p hp).lt hpb).1
    ·obtain⟨o,ho,_⟩:=hEw b hb
     have h2:=(Array.getElem?_eq_some_iff.1 ho).1
     rcases hm with hm|⟨p,hp,hpb⟩
     ·have:=ho2.keeps.size
      simp only at hm;omega
     ·rcases ho2.own p hp b hpb with h1|h1
      ·omega
      ·exact hEH b hb h1
   ·have h1:=hst.small.on
    refine⟨Nat.le_trans h1.1 ho2.bel.size,fun b hb=> ?_⟩
    rw[<- h1.2 b hb]
    refine ho2.bel.block b (Nat.lt_of_lt_of_le hb h1.1) ?_
    rintro(hm|hm)
    ·have:=h1.1;simp only at hb;omega
    ·have:=hst.small.io b hm;simp only at hb;omega
   ·obtain⟨p,hp,hpb⟩:=hb
    rcases ((ho2.fits.own p hp).lt hpb).1 with h1|h1
    ·exact Nat.le_trans hst.small.on.1 h1
    ·exact hst.small.io b h1
   ·have hq:∀ (l:List (Nat×LV)) (s:aa),(ec s l).own=s.own:=by
     intro l;induction l with
     |nil=>intro s;rfl
     |cons q l ih=>intro s;exact ih _
    rw[hs1'] at hp
    have hp':p∈(d,aO.box TB cs)::bu (LV.kill d) (del (ec (f k x) (ps.toList.zip items[k])).own d):=hp
    have h5:=(hfit1.own p hp').moved (H':=hot (XE X E).O ρn s1.own) (ρ':=ρn) (k:=p.1) (f:=id) (M':=Cx.M {XE X E with T:={X.T with keep:=ks},I:=fun b=>∃ p∈(f k x).own,Blk (ρx p.1) b,w0:=W2,r:=some (w.heap.size+1),tm:=fun t=>(act0.put (some d) (.pointer (some ⟨W.heap.size,0,none⟩))).tmps.getD t undef}) (fun b _ h=>by rw[hs1'] at h;exact h) (fun x v hx=>aY (fun b _ h=>by rw[hs1'] at h;exact h) (bm.refl _ _) (fun _ _=>rfl) hx) rfl (fun b hb=>by
     rcases List.mem_cons.1 hp' with rfl|hp2
     ·simp only[hρd] at hb;simp[Blk] at hb;exact .inl (by simp only;omega)
     ·obtain⟨u,g1,_⟩:=bq hp2
      have g2:=bJ.1 g1
      rw[hρo _ g2.2] at hb
      exact .inr ⟨(p.1,u),by rw[<- hq];exact g2.1,hb⟩)
    rw[aO.map_id] at h5
    exact h5
  have hw:=hJ {XE X E with T:={X.T with keep:=ks},I:=fun b=>∃ p∈(f k x).own,Blk (ρx p.1) b,w0:=W2,r:=some (w.heap.size+1),tm:=fun t=>(act0.put (some d) (.pointer (some ⟨W.heap.size,0,none⟩))).tmps.getD t undef} rfl rfl _ _ hst1
  refine Ef (n:=2) (Code.wpIn_mono (fun e a3 W3 hp=> ?_) hw)
  obtain⟨s3,hK3,hst3⟩:=hp
  have fin:∀ (jump:Option Code) (z:aa),z.env.all (fun e=>ks.contains e.1)=true->le s3 z->∃ ρz,eG X a w H E z (W3.putObj (w.heap.size+1) (.loop (rec (if jump.isNone then .ready else .done) jump))) ρz/\
    (Instr.endRound (w.heap.size+1) jump).run X.P W3= .ok (.bool jump.isNone) (W3.putObj (w.heap.size+1) (.loop (rec (if jump.isNone then .ready else .done) jump)))/\
    (W3.putObj (w.heap.size+1) (.loop (rec (if jump.isNone then .ready else .done) jump))).heap[w.heap.size+1]? =some (.loop (rec (if jump.isNone then .ready else .done) jump))/\
    (W3.putObj (w.heap.size+1) (.loop (rec (if jump.isNone then .ready else .done) jump))).heap[w.heap.size]? =some (.deferred (some []))/\
    y7 H w.heap.size W (W3.putObj (w.heap.size+1) (.loop (rec (if jump.isNone then .ready else .done) jump))):=by
   intro jump z hz hle
   obtain⟨ρz,h1,h2,h3⟩:=ho2.back hkA hz hle hst3
   have hl3:=h2.same _ _ hl2 rfl
   have hd3:=h2.same _ _ hd2 rfl
   have he:=run_endRound (P:=X.P) jump hl3
   rw[hrec] at he ⊢
   refine⟨ρz,h1.abide hw0 (grownBy_putObj' _ _ _) (fun r e=>by cases e;exact⟨by omega,_,hl3,rfl⟩),he,World.putObj_heap_same (Array.getElem?_eq_some_iff.1 hl3).1,(World.putObj_heap_other (by omega)).trans hd3,fun b hb hnH hc=> ?_⟩
   have e1:W2.heap[b]? =W.heap[b]? :=by rw[<- hW2];exact World.putObj_heap_other (by omega)
   rw[World.putObj_heap_other (by omega),h3 b hb hnH (by rw[e1];exact hc),e1]
  cases e with
  |normal=>
   obtain⟨y,hle,hy'⟩:=hK3
   obtain⟨ρz,h1,h2,h3,h4,h5⟩:=fin none _ (hks (k+1) y) hle
   exact⟨_,_,h2, .inl ⟨rfl,⟨⟨y,ρz,hy',h1⟩,h3,h4⟩,h5⟩⟩
  |ret=>
   obtain⟨z,hle,hz,hk3⟩:=hK3
   obtain⟨ρz,h1,h2,h3,h4,h5⟩:=fin (some .ret) _ hz hle
   exact⟨_,_,h2, .inr ⟨rfl, .ret,⟨z,ρz,hk3,h1⟩,h3,h4⟩⟩
  |exit i=>
   obtain⟨z,hle,hz,hk3⟩:=hK3
   obtain⟨ρz,h1,h2,h3,h4,h5⟩:=fin (some (.exit i)) _ hz hle
   exact⟨_,_,h2, .inr ⟨rfl, .exit i,⟨z,ρz,hk3,h1⟩,h3,h4⟩⟩
  |goto t=>exact hK3.elim
  |panic ch=>exact hK3.elim
  |outgrown=>exact hK3.elim
 ·rintro e W2 ⟨⟨v,rfl⟩,(⟨⟨x,ρx,hx,ho⟩,hl,hd⟩|⟨c,⟨z,ρz,hj,ho⟩,hl,hd⟩)⟩
  ·have he:=run_endLoop (P:=X.P) hl (by rw[hrec];simp)
   rw[hrec] at he
   refine⟨none,_,he,_,hdone x hx,(ho.abide hw0 (grownBy_putObj' _ _ _) (fun r e=>by cases e;exact⟨by omega,_,hl,rfl⟩)).st hst ((World.putObj_heap_other (by omega)).trans hd)⟩
  ·have he:=run_endLoop (P:=X.P) hl (by rw[hrec];simp)
   rw[hrec] at he
   refine⟨some c,_,he,?_⟩
   cases c with
   |ret=>exact wpIn_ret ⟨z,hj,(ho.abide hw0 (grownBy_putObj' _ _ _) (fun r e=>by cases e;exact⟨by omega,_,hl,rfl⟩)).st hst ((World.putObj_heap_other (by omega)).trans hd)⟩
   |exit i=>exact wpIn_exit ⟨z,hj,(ho.abide hw0 (grownBy_putObj' _ _ _) (fun r e=>by cases e;exact⟨by omega,_,hl,rfl⟩)).st hst ((World.putObj_heap_other (by omega)).trans hd)⟩
   |_=>exact hj.elim
theorem wO{X:Cx}(hr:X.r=none){s:aa}{K:Exit->aa->Prop}{g:Operand}{ps:Array Tmp}{assign body:Code}{gf:FuncId}{caps:List CV}
  (hg:bb s g=some (.l (.fn gf caps))) (hcap:caps.all CV.pure=true) {items:List (List LV)} (hseq:nh X.P gf ps.size caps items) {d pv:Nat} {TB:TypeId} {ub:Ty} (hasg:wN assign=some (d,TB,pv)) (hTb:cN X.P TB ub) (hdN:d<X.T.N) (ks:List Nat)
  (hk1:ks.all (fun t=> !ps.toList.contains t&&t !=d)=true) (hps:ps.toList.all (fun t=>decide (t<X.T.N))=true)
  {ι:Type} (f:Nat->ι->aa) (Φ:Nat->ι->Prop) (x₀:ι) (h₀:le s (f 0 x₀)) (hΦ:Φ 0 x₀) (hks:∀ k x,(f k x).env.all (fun e=>ks.contains e.1)=true)
  (hround:∀ k (hk:k<items.length) (x:ι),Φ k x->∃ s1 v cs,bb (ec (f k x) (ps.toList.zip items[k])) (.tmp pv)=some v/\v.cells=some cs/\cs.length=ub.w/\cs.all (fun c=> !c.isOf d)=true/\s1={env:=(d, .l (.ownP d 0))::del ((ec (f k x) (ps.toList.zip items[k])).kill d).env d,own:=(d, .box TB cs)::((ec (f k x) (ps.toList.zip items[k])).kill d).own}/\
   ∀ X':Cx,X'.P=X.P->X'.T={X.T with keep:=ks}->J X' body s1 (xi f Φ ks K k))
  (hdone:∀ x,Φ items.length x->K .normal (f items.length x)):J X (.rangeFunc g ps assign body) s K:=
 Iv hr hseq.enters hseq.data hasg hTb hdN ks hk1 hps f Φ x₀ h₀ (fun a w ρ _ hf hlt=>by
  obtain⟨lb,hlb1,hlb2⟩:aU (hot X.O ρ s.own) w ρ (.fn gf caps) (a.eval g):=bY hf hg
  obtain⟨enc,h1,h2⟩:=hseq.seq _ w lb hlt (iR hcap (fun b hb=>mD h₀ hb) hlb2)
  exact⟨lb,fun _=>False,hlb1,fun b hb=>hb.elim,enc,fun k hk=>(h1 k hk).imp (fun x v hx h=>aY (H:=hot X.O (cL ρ s.own) (f 0 x₀).own) (fun b _ hb=>hb.elim id (fun e=>e.elim)) (bm.refl _ _) (fun _ _=>rfl) h),h2.kp (fun A B hk b hb hn hc=>hk b hb (fun e=>hn (e.elim False.elim .inr)) hc)⟩) hΦ hks hround hdone
end Go.Cm
end
section
namespace Go.Proofs.YtdojbabpnaifoaaGreatDoor
open Go Go.Cm Go.Proofs
def qX(B:ag):Tab:={types:= [(79,(.slice (.st (.pair (.st (.pair .bool (.slice (.int .u32)))) (.st (.pair .bool (.slice (.int .u32))))))))],elems:= [],cons:= [],hint:= [],N:=4,base:=B}
theorem Bi{B:ag}(hB:aB B):aG Tryz.prog (qX B):=⟨⟨tc fS (ae),af,by simp only[qX,ioB];omega⟩,bH rfl,by kernel_rfl⟩
def oT:Con:=fun l os=>match l,os with
 | [.z (.slice (.st (.pair (.st (.pair .bool (.slice (.int .u32)))) (.st (.pair .bool (.slice (.int .u32))))))) xs], []=>some (True, [.fn 125 [.z (.ptr (.slice (.st (.pair (.st (.pair .bool (.slice (.int .u32)))) (.st (.pair .bool (.slice (.int .u32)))))))) xs]], [])
 |_,_=>none
theorem wP{B:ag}(hB:aB B):Valid B Tryz.prog 83 oT:=by
 refine ab (Bi hB).tab Tryz.func83 rfl rfl rfl ?_
 intro args os C rs os' hc hC
 unfold oT at hc
 split at hc
 case h_2=>cases hc
 rename_i xs
 cases hc
 refine v_h (Bi hB) fun X hP hT hr hG=> ?_
 have hU:=qX.eq_1
 unfold qX at hT
 have hX:=Bool.not_true
 simp only[Tryz.f83,aC,al,ioB]
 refine s_g hG ?_
 refine s_g hG ?_
 refine av ?_
 refine q_e [] ?_
 rfl
def gY(B:ag):Tab:={types:= [(79,(.slice (.st (.pair (.st (.pair .bool (.slice (.int .u32)))) (.st (.pair .bool (.slice (.int .u32)))))))),(91,(.st (.pair (.st (.pair .bool (.slice (.int .u32)))) (.st (.pair .bool (.slice (.int .u32)))))))],elems:= [],cons:= [(58,kz),(83,oT),(105,dF),(113,ev)],hint:= [],N:=19,base:=B}
theorem Bj{B:ag}(hB:aB B):aG Tryz.prog (gY B):=⟨⟨tc fS (tc ty91 (ae)),af,by simp only[gY,ioB];omega⟩,aD (cc Tryz.func58 (jP hB) (cc Tryz.func83 (wP hB) (cc Tryz.func105 (jQ hB) (cc Tryz.func113 (l5 hB) (au))))),by kernel_rfl⟩
def Gk:Con:=fun l os=>match l,os with
 | [.z (.slice (.st (.pair (.st (.pair .bool (.slice (.int .u32)))) (.st (.pair .bool (.slice (.int .u32))))))) p, .z (.st (.pair (.st (.pair .bool (.slice (.int .u32)))) (.st (.pair .bool (.slice (.int .u32)))))) x], []=>some (Sz QM p/\p.length<=100/\NOK x/\lq (bc x)<=QM, [.z (.st (.pair (.st (.pair .bool (.slice (.int .u32)))) (.st (.pair .bool (.slice (.int .u32)))))) (bj (aQ (ar p) (bc x)))], [])
 |_,_=>none
theorem Iw{B:ag}(hB:aB B):Valid B Tryz.prog 89 Gk:=by
 refine ab (Bj hB).tab Tryz.func89 rfl rfl rfl ?_
 intro args os C rs os' hc hC
 unfold Gk at hc
 split at hc
 case h_2=>cases hc
 rename_i p x
 cases hc
 refine v_h (Bj hB) fun X hP hT hr hG=> ?_
 have hU:=gY.eq_1
 unfold gY at hT
 have hX:=ai @oT.eq_1<|ai @kz.eq_1<|ai @dF.eq_1<| @ev.eq_1
 simp only[Tryz.f89,aC,al,ioB]
 have hl:p.length<=100:=hC.2.1
 refine s_g hG ?_
 refine s_g hG ?_
 refine ak ?_
 refine s_g hG ?_
 refine ax ?_
 refine wO hr (gf:=125) (caps:= [.z (.ptr (.slice (.st (.pair (.st (.pair .bool (.slice (.int .u32)))) (.st (.pair .bool (.slice (.int .u32)))))))) p]) (items:=bV p) (by simp only[hT,gY,mx0,mx1,mx2,mx3,mx4,mx5,mx6,aV,bp,bF,aZ,bo,Ty.fieldTy,Ty.fieldOf,Nat.reduceLT,Nat.reduceEqDiff,Nat.reduceAdd,Nat.reduceMul,Nat.reduceSub,Nat.reduceLeDiff,Nat.reduceBEq,Nat.reduceBNe,reduceIte,reduceDIte,reduceCtorEq];try rfl) (by rfl) (by rw[hP];exact vN p) (by rfl) (ub:=(.st (.pair (.st (.pair .bool (.slice (.int .u32)))) (.st (.pair .bool (.slice (.int .u32))))))) (by rw[hP];exact ty91) (by simp only[hT,gY];omega) [3,4,5] (by rfl) (by simp only[hT,gY];try rfl) (fun(k:Nat) (z:Rat)=>(⟨[(3, .l (.z (.ptr (.st (.pair (.st (.pair .bool (.slice (.int .u32)))) (.st (.pair .bool (.slice (.int .u32))))))) x)),(4, .l (.ownP 4 0)),(5, .l (.ownP 5 0))], [(4, .box 91 [.z .bool false, .val (.slice none 0 0), .z .bool false, .val (.slice none 0 0)]),(5, .box 91 [.z .bool (bj z).1.1, .z (.slice (.int .u32)) (bj z).1.2, .z .bool (bj z).2.1, .z (.slice (.int .u32)) (bj z).2.2])]⟩:aa)) (fun(k:Nat) (z:Rat)=>z=aQ ((ar p).drop (p.length-k)) (bc x)) 0 ?_ ?_ ?_ ?_ ?_
 ·simp only[ml0,ml1,Nat.reduceLT,Nat.reduceEqDiff,Nat.reduceAdd,Nat.reduceMul,Nat.reduceSub,Nat.reduceLeDiff,Nat.reduceBEq,Nat.reduceBNe,reduceIte,reduceDIte,reduceCtorEq]
 ·exact Dn p (bc x)
 ·intro k z;rfl
 ·intro k hk
  rintro v hz
  try dsimp only at hz
  have hk:k<p.length:=by simpa [bV] using hk
  have hg:=zW hC.1 (zX hk)
  have hv:=HD hC hk hz
  refine⟨_,_,_,by simp only[hT,gY,bV,jI,mx0,mx1,mx2,mx3,mx4,mx5,mx6,aV,bp,bF,aZ,bo,Ty.fieldTy,Ty.fieldOf,Nat.reduceLT,Nat.reduceEqDiff,Nat.reduceAdd,Nat.reduceMul,Nat.reduceSub,Nat.reduceLeDiff,Nat.reduceBEq,Nat.reduceBNe,reduceIte,reduceDIte,reduceCtorEq,List.getElem_map,List.getElem_range];rfl,by simp only[mx0,mx1,mx2,mx3,mx4,mx5,mx6,aV,bp,bF,aZ,bo,Ty.fieldTy,Ty.fieldOf,Nat.reduceLT,Nat.reduceEqDiff,Nat.reduceAdd,Nat.reduceMul,Nat.reduceSub,Nat.reduceLeDiff,Nat.reduceBEq,Nat.reduceBNe,reduceIte,reduceDIte,reduceCtorEq];rfl,by rfl,by simp only[mx0,mx1,mx2,mx3,mx4,mx5,mx6,aV,bp,bF,aZ,bo,Ty.fieldTy,Ty.fieldOf,Nat.reduceLT,Nat.reduceEqDiff,Nat.reduceAdd,Nat.reduceMul,Nat.reduceSub,Nat.reduceLeDiff,Nat.reduceBEq,Nat.reduceBNe,reduceIte,reduceDIte,reduceCtorEq]<;>rfl,by simp only[hT,gY,bV,jI,mx0,mx1,mx2,mx3,mx4,mx5,mx6,aV,bp,bF,aZ,bo,Ty.fieldTy,Ty.fieldOf,Nat.reduceLT,Nat.reduceEqDiff,Nat.reduceAdd,Nat.reduceMul,Nat.reduceSub,Nat.reduceLeDiff,Nat.reduceBEq,Nat.reduceBNe,reduceIte,reduceDIte,reduceCtorEq,List.getElem_map,List.getElem_range];rfl,?_⟩
  intro X' hP' hT'
  have hG':aG X'.P X'.T:=by rw[hP',hT'];exact hG.keep _
  rw[hT] at hT'
  refine ax ?_
  refine Eh hG' ?_ ?_
  ·try simp only[ba]
   simp only[pe2,hg,aH]
   exact hv
  refine aL ?_
  show ∃ z,_
  simp only[ml0,ml1,Nat.reduceLT,Nat.reduceEqDiff,Nat.reduceAdd,Nat.reduceMul,Nat.reduceSub,Nat.reduceLeDiff,Nat.reduceBEq,Nat.reduceBNe,reduceIte,reduceDIte,reduceCtorEq]
  simp only[pe2,hg,aH]
  exact⟨_,rfl,rfl,rfl,rfl,by rw[hz,Do hk]⟩
 ·rintro v hz
  try dsimp only at hz
  rw[K5] at hz
  refine aL ?_
  refine aj ?_
  refine s_g hG ?_
  refine av ?_
  refine q_e [] ?_
  rw[hz]
def qY(B:ag):Tab:={types:= [(3,(.int .i64)),(79,(.slice (.st (.pair (.st (.pair .bool (.slice (.int .u32)))) (.st (.pair .bool (.slice (.int .u32)))))))),(91,(.st (.pair (.st (.pair .bool (.slice (.int .u32)))) (.st (.pair .bool (.slice (.int .u32)))))))],elems:= [(79,91)],cons:= [(58,kz),(82,jq),(107,wH)],hint:= [26],N:=31,base:=B}
theorem Bk{B:ag}(hB:aB B):aG Tryz.prog (qY B):=⟨⟨tc ty3 (tc fS (tc ty91 (ae))),aR (by kernel_rfl) (af),by simp only[qY,ioB];omega⟩,aD (cc Tryz.func58 (jP hB) (cc Tryz.func82 (iJ hB) (cc Tryz.func107 (wI hB) (au)))),by kernel_rfl⟩
def MI:Con:=fun l os=>match l,os with
 | [.z (.slice (.st (.pair (.st (.pair .bool (.slice (.int .u32)))) (.st (.pair .bool (.slice (.int .u32))))))) p, .z (.slice (.st (.pair (.st (.pair .bool (.slice (.int .u32)))) (.st (.pair .bool (.slice (.int .u32))))))) q, .val (.func (.func g) fs cs)], []=>some ((g=58/\fs.size=0/\cs.size=0)/\Sz QH p/\Sz QH q/\p.length<=1000/\q.length<=1000, [.z (.slice (.st (.pair (.st (.pair .bool (.slice (.int .u32)))) (.st (.pair .bool (.slice (.int .u32))))))) (aI (bK (· + ·) (ar p) (ar q)))], [])
 |_,_=>none
theorem Ix{B:ag}(hB:aB B):Valid B Tryz.prog 57 MI:=by
 refine ab (Bk hB).tab Tryz.func57 rfl rfl rfl ?_
 intro args os C rs os' hc hC
 unfold MI at hc
 split at hc
 case h_2=>cases hc
 rename_i p q g fs cs
 cases hc
 refine v_h (Bk hB) fun X hP hT hr hG=> ?_
 have hU:=qY.eq_1
 unfold qY at hT
 have hX:=ai @wH.eq_1<|ai @kz.eq_1<| @jq.eq_1
 simp only[Tryz.f57,aC,al,ioB]
 obtain⟨⟨rfl,e1,e2⟩,hp,hq,hl1,hl2⟩:=hC
 obtain rfl:=Array.eq_empty_of_size_eq_zero e1
 obtain rfl:=Array.eq_empty_of_size_eq_zero e2
 have hl1:p.length<=1000:=hl1
 have hl2:q.length<=1000:=hl2
 refine s_g hG ?_
 refine s_g hG ?_
 refine ak ?_
 refine s_g hG ?_
 refine ax ?_
 refine br (fun(z:Nat)=>(⟨[(0, .l (.z (.slice (.st (.pair (.st (.pair .bool (.slice (.int .u32)))) (.st (.pair .bool (.slice (.int .u32))))))) p)),(1, .l (.z (.slice (.st (.pair (.st (.pair .bool (.slice (.int .u32)))) (.st (.pair .bool (.slice (.int .u32))))))) q)),(2, .l (.val (.func (.func 58) #[] #[]))),(7, .l (.ownS 27)),(13, .l (.z (.int .i64) ((max p.length q.length:Nat):Int))),(14, .l (.z (.int .i64) (z:Int)))], [(27, .arr (.st (.pair (.st (.pair .bool (.slice (.int .u32)))) (.st (.pair .bool (.slice (.int .u32)))))) 91 (aI (bM (· + ·) (ar p) (ar q) z)))]⟩:aa)) (fun z=>z<=max p.length q.length) (fun z=>max p.length q.length-z) 0 ?_ ?_ ?_
 ·refine q_l ?_
  exact⟨EL p q trivial,rfl,by unfold ioB;omega,rfl⟩
 ·omega
 ·rintro k g1
  try dsimp only at g1
  refine s_g hG ?_
  refine ak ?_
  refine ao ?_ ?_
  ·intro hb0
   try simp only[bt] at hb0
   refine aq ?_
   refine aj ?_
   refine ak ?_
   refine ax ?_
   refine s_g hG ?_
   refine ah hG ?_ ?_
   ·try simp only[ba]
    exact vH hp hq (by omega) _
   refine aL ?_
   refine aj ?_
   refine ah hG ?_ ?_
   ·first|trivial|omega|(simp;done)|(simp;omega)
   show ∃ z,_
   refine q_l ?_
   exact tS (op:=(· + ·)) (by omega) (by omega)
  ·intro hb0
   try simp only[bf] at hb0
   refine bh ?_
   refine aE ?_
   refine az ?_
   refine ay ?_
   refine aj ?_
   refine s_q hG ?_ ?_
   ·try simp only[ba]
    exact tT zP hp hq (by omega)
   refine av ?_
   refine q_e [] ?_
   exact zR g1 hb0
def qZ(B:ag):Tab:={types:= [(3,(.int .i64)),(79,(.slice (.st (.pair (.st (.pair .bool (.slice (.int .u32)))) (.st (.pair .bool (.slice (.int .u32)))))))),(91,(.st (.pair (.st (.pair .bool (.slice (.int .u32)))) (.st (.pair .bool (.slice (.int .u32)))))))],elems:= [(79,91)],cons:= [(60,eS),(82,jq),(107,wH)],hint:= [26],N:=31,base:=B}
theorem Bl{B:ag}(hB:aB B):aG Tryz.prog (qZ B):=⟨⟨tc ty3 (tc fS (tc ty91 (ae))),aR (by kernel_rfl) (af),by simp only[qZ,ioB];omega⟩,aD (cc Tryz.func60 (oJ hB) (cc Tryz.func82 (iJ hB) (cc Tryz.func107 (wI hB) (au)))),by kernel_rfl⟩
def MJ:Con:=fun l os=>match l,os with
 | [.z (.slice (.st (.pair (.st (.pair .bool (.slice (.int .u32)))) (.st (.pair .bool (.slice (.int .u32))))))) p, .z (.slice (.st (.pair (.st (.pair .bool (.slice (.int .u32)))) (.st (.pair .bool (.slice (.int .u32))))))) q, .val (.func (.func g) fs cs)], []=>some ((g=60/\fs.size=0/\cs.size=0)/\Sz QH p/\Sz QH q/\p.length<=1000/\q.length<=1000, [.z (.slice (.st (.pair (.st (.pair .bool (.slice (.int .u32)))) (.st (.pair .bool (.slice (.int .u32))))))) (aI (bK (· - ·) (ar p) (ar q)))], [])
 |_,_=>none
theorem Iy{B:ag}(hB:aB B):Valid B Tryz.prog 57 MJ:=by
 refine ab (Bl hB).tab Tryz.func57 rfl rfl rfl ?_
 intro args os C rs os' hc hC
 unfold MJ at hc
 split at hc
 case h_2=>cases hc
 rename_i p q g fs cs
 cases hc
 refine v_h (Bl hB) fun X hP hT hr hG=> ?_
 have hU:=qZ.eq_1
 unfold qZ at hT
 have hX:=ai @wH.eq_1<|ai @eS.eq_1<| @jq.eq_1
 simp only[Tryz.f57,aC,al,ioB]
 obtain⟨⟨rfl,e1,e2⟩,hp,hq,hl1,hl2⟩:=hC
 obtain rfl:=Array.eq_empty_of_size_eq_zero e1
 obtain rfl:=Array.eq_empty_of_size_eq_zero e2
 have hl1:p.length<=1000:=hl1
 have hl2:q.length<=1000:=hl2
 refine s_g hG ?_
 refine s_g hG ?_
 refine ak ?_
 refine s_g hG ?_
 refine ax ?_
 refine br (fun(z:Nat)=>(⟨[(0, .l (.z (.slice (.st (.pair (.st (.pair .bool (.slice (.int .u32)))) (.st (.pair .bool (.slice (.int .u32))))))) p)),(1, .l (.z (.slice (.st (.pair (.st (.pair .bool (.slice (.int .u32)))) (.st (.pair .bool (.slice (.int .u32))))))) q)),(2, .l (.val (.func (.func 60) #[] #[]))),(7, .l (.ownS 27)),(13, .l (.z (.int .i64) ((max p.length q.length:Nat):Int))),(14, .l (.z (.int .i64) (z:Int)))], [(27, .arr (.st (.pair (.st (.pair .bool (.slice (.int .u32)))) (.st (.pair .bool (.slice (.int .u32)))))) 91 (aI (bM (· - ·) (ar p) (ar q) z)))]⟩:aa)) (fun z=>z<=max p.length q.length) (fun z=>max p.length q.length-z) 0 ?_ ?_ ?_
 ·refine q_l ?_
  exact⟨EL p q trivial,rfl,by unfold ioB;omega,rfl⟩
 ·omega
 ·rintro k g1
  try dsimp only at g1
  refine s_g hG ?_
  refine ak ?_
  refine ao ?_ ?_
  ·intro hb0
   try simp only[bt] at hb0
   refine aq ?_
   refine aj ?_
   refine ak ?_
   refine ax ?_
   refine s_g hG ?_
   refine ah hG ?_ ?_
   ·try simp only[ba]
    exact vH hp hq (by omega) _
   refine aL ?_
   refine aj ?_
   refine ah hG ?_ ?_
   ·first|trivial|omega|(simp;done)|(simp;omega)
   show ∃ z,_
   refine q_l ?_
   exact tS (op:=(· - ·)) (by omega) (by omega)
  ·intro hb0
   try simp only[bf] at hb0
   refine bh ?_
   refine aE ?_
   refine az ?_
   refine ay ?_
   refine aj ?_
   refine s_q hG ?_ ?_
   ·try simp only[ba]
    exact tT zQ hp hq (by omega)
   refine av ?_
   refine q_e [] ?_
   exact zR g1 hb0
def pM:Con:=fun l os=>match l,os with
 | [.z (.slice (.st (.pair (.st (.pair .bool (.slice (.int .u32)))) (.st (.pair .bool (.slice (.int .u32))))))) p, .z (.slice (.st (.pair (.st (.pair .bool (.slice (.int .u32)))) (.st (.pair .bool (.slice (.int .u32))))))) q, .val (.func (.func g) fs cs)], []=>some (((g=58∨g=60)/\fs.size=0/\cs.size=0)/\Sz QH p/\Sz QH q/\p.length<=1000/\q.length<=1000, [.z (.slice (.st (.pair (.st (.pair .bool (.slice (.int .u32)))) (.st (.pair .bool (.slice (.int .u32))))))) (aI (bK (if g=58 then (· + ·) else (· - ·)) (ar p) (ar q)))], [])
 |_,_=>none
theorem mS{B:ag}(hB:aB B):Valid B Tryz.prog 57 pM:=by
 intro args os C rs os' hc hC
 unfold pM at hc
 split at hc
 ·cases hc
  obtain⟨⟨rfl|rfl,e1,e2⟩,h3⟩:=hC
  ·exact Ix hB _ _ _ _ _ rfl ⟨⟨rfl,e1,e2⟩,h3⟩
  ·exact Iy hB _ _ _ _ _ rfl ⟨⟨rfl,e1,e2⟩,h3⟩
 ·cases hc
def q8(B:ag):Tab:={types:= [(79,(.slice (.st (.pair (.st (.pair .bool (.slice (.int .u32)))) (.st (.pair .bool (.slice (.int .u32)))))))),(84, .func),(91,(.st (.pair (.st (.pair .bool (.slice (.int .u32)))) (.st (.pair .bool (.slice (.int .u32)))))))],elems:= [(79,91)],cons:= [(57,pM),(61,oQ),(82,jq)],hint:= [],N:=11,base:=B}
theorem Bm{B:ag}(hB:aB B):aG Tryz.prog (q8 B):=⟨⟨tc fS (tc pP (tc ty91 (ae))),aR (by kernel_rfl) (af),by simp only[q8,ioB];omega⟩,aD (cc Tryz.func57 (mS hB) (cc Tryz.func61 (wJ hB) (cc Tryz.func82 (iJ hB) (au)))),by kernel_rfl⟩
def Gl:Con:=fun l os=>match l,os with
 | [.z (.st (.pair (.st (.pair .bool (.slice (.int .u32)))) (.st (.pair .bool (.slice (.int .u32)))))) c, .ownP 10000000 0, .z (.ptr (.slice (.st (.pair (.st (.pair .bool (.slice (.int .u32)))) (.st (.pair .bool (.slice (.int .u32)))))))) b], [.box 79 [.z (.slice (.st (.pair (.st (.pair .bool (.slice (.int .u32)))) (.st (.pair .bool (.slice (.int .u32))))))) s]]=>some (Dp s b c, [], [.box 79 [.z (.slice (.st (.pair (.st (.pair .bool (.slice (.int .u32)))) (.st (.pair .bool (.slice (.int .u32))))))) (aI (jJ (ar s) (ar b) (bc c)))]])
 |_,_=>none
theorem Iz{B:ag}(hB:aB B):Valid B Tryz.prog 81 Gl:=by
 refine ab (Bm hB).tab Tryz.func81 rfl rfl rfl ?_
 intro args os C rs os' hc hC
 unfold Gl at hc
 split at hc
 case h_2=>cases hc
 rename_i c b s
 cases hc
 refine v_h (Bm hB) fun X hP hT hr hG=> ?_
 have hU:=q8.eq_1
 unfold q8 at hT
 have hX:=ai @oQ.eq_1<|ai @jq.eq_1<| @pM.eq_1
 simp only[Tryz.f81,aC,al,ioB]
 refine s_g hG ?_
 refine gI hG ?_ ?_
 ·try simp only[ba]
  obtain⟨q1,q2,q3,q4,q5,q6⟩:=HE hC
  exact⟨q1,⟨q2.1,by unfold QL;omega⟩,Or.inl trivial,q3,q4,q5,q6⟩
 refine q_e [] ?_
 simp only[aJ];rfl
def gZ(B:ag):Tab:={types:= [(79,(.slice (.st (.pair (.st (.pair .bool (.slice (.int .u32)))) (.st (.pair .bool (.slice (.int .u32)))))))),(91,(.st (.pair (.st (.pair .bool (.slice (.int .u32)))) (.st (.pair .bool (.slice (.int .u32))))))),(109, .func)],elems:= [],cons:= [(81,Gl),(83,oT)],hint:= [],N:=18,base:=B}
theorem Bn{B:ag}(hB:aB B):aG Tryz.prog (gZ B):=⟨⟨tc fS (tc ty91 (tc QA (ae))),af,by simp only[gZ,ioB];omega⟩,aD (cc Tryz.func81 (Iz hB) (cc Tryz.func83 (wP hB) (au))),by kernel_rfl⟩
def nJ:Con:=fun l os=>match l,os with
 | [.z (.slice (.st (.pair (.st (.pair .bool (.slice (.int .u32)))) (.st (.pair .bool (.slice (.int .u32))))))) p, .z (.slice (.st (.pair (.st (.pair .bool (.slice (.int .u32)))) (.st (.pair .bool (.slice (.int .u32))))))) b], []=>some (ug p b, [.z (.slice (.st (.pair (.st (.pair .bool (.slice (.int .u32)))) (.st (.pair .bool (.slice (.int .u32))))))) (aI (eW (ar p) (ar b)))], [])
 |_,_=>none
theorem IA{B:ag}(hB:aB B):Valid B Tryz.prog 80 nJ:=by
 refine ab (Bn hB).tab Tryz.func80 rfl rfl rfl ?_
 intro args os C rs os' hc hC
 unfold nJ at hc
 split at hc
 case h_2=>cases hc
 rename_i p b
 cases hc
 refine v_h (Bn hB) fun X hP hT hr hG=> ?_
 have hU:=gZ.eq_1
 unfold gZ at hT
 have hX:=ai @Gl.eq_1<| @oT.eq_1
 simp only[Tryz.f80,aC,al,ioB]
 refine s_g hG ?_
 refine s_g hG ?_
 refine s_g hG ?_
 refine ak ?_
 refine s_g hG ?_
 refine ax ?_
 refine wO hr (gf:=125) (caps:= [.z (.ptr (.slice (.st (.pair (.st (.pair .bool (.slice (.int .u32)))) (.st (.pair .bool (.slice (.int .u32)))))))) p]) (items:=bV p) (by simp only[hT,gZ,mx0,mx1,mx2,mx3,mx4,mx5,mx6,aV,bp,bF,aZ,bo,Ty.fieldTy,Ty.fieldOf,Nat.reduceLT,Nat.reduceEqDiff,Nat.reduceAdd,Nat.reduceMul,Nat.reduceSub,Nat.reduceLeDiff,Nat.reduceBEq,Nat.reduceBNe,reduceIte,reduceDIte,reduceCtorEq];try rfl) (by rfl) (by rw[hP];exact vN p) (by rfl) (ub:=(.st (.pair (.st (.pair .bool (.slice (.int .u32)))) (.st (.pair .bool (.slice (.int .u32))))))) (by rw[hP];exact ty91) (by simp only[hT,gZ];omega) [3,5,6] (by rfl) (by simp only[hT,gZ];try rfl) (fun(k:Nat) (z:Unit)=>(⟨[(3, .l (.z (.ptr (.slice (.st (.pair (.st (.pair .bool (.slice (.int .u32)))) (.st (.pair .bool (.slice (.int .u32)))))))) b)),(5, .l (.ownP 5 0)),(6, .l (.ownP 6 0))], [(5, .box 79 [.z (.slice (.st (.pair (.st (.pair .bool (.slice (.int .u32)))) (.st (.pair .bool (.slice (.int .u32))))))) (aI (dE (ar p) (ar b) k))]),(6, .box 109 [.fn 81 [.p 5, .z (.ptr (.slice (.st (.pair (.st (.pair .bool (.slice (.int .u32)))) (.st (.pair .bool (.slice (.int .u32)))))))) b]])]⟩:aa)) (fun(k:Nat) (z:Unit)=>True) () ?_ ?_ ?_ ?_ ?_
 ·simp only[ml0,ml1,Nat.reduceLT,Nat.reduceEqDiff,Nat.reduceAdd,Nat.reduceMul,Nat.reduceSub,Nat.reduceLeDiff,Nat.reduceBEq,Nat.reduceBNe,reduceIte,reduceDIte,reduceCtorEq]
  simp only[gd]
  rfl
 ·trivial
 ·intro k z;rfl
 ·intro k hk
  rintro⟨⟩-
  have hk:k<p.length:=by simpa [bV] using hk
  have hg:=zW hC.1 (zX hk)
  refine⟨_,_,_,by simp only[hT,gZ,bV,jI,mx0,mx1,mx2,mx3,mx4,mx5,mx6,aV,bp,bF,aZ,bo,Ty.fieldTy,Ty.fieldOf,Nat.reduceLT,Nat.reduceEqDiff,Nat.reduceAdd,Nat.reduceMul,Nat.reduceSub,Nat.reduceLeDiff,Nat.reduceBEq,Nat.reduceBNe,reduceIte,reduceDIte,reduceCtorEq,List.getElem_map,List.getElem_range];rfl,by simp only[mx0,mx1,mx2,mx3,mx4,mx5,mx6,aV,bp,bF,aZ,bo,Ty.fieldTy,Ty.fieldOf,Nat.reduceLT,Nat.reduceEqDiff,Nat.reduceAdd,Nat.reduceMul,Nat.reduceSub,Nat.reduceLeDiff,Nat.reduceBEq,Nat.reduceBNe,reduceIte,reduceDIte,reduceCtorEq];rfl,by rfl,by simp only[mx0,mx1,mx2,mx3,mx4,mx5,mx6,aV,bp,bF,aZ,bo,Ty.fieldTy,Ty.fieldOf,Nat.reduceLT,Nat.reduceEqDiff,Nat.reduceAdd,Nat.reduceMul,Nat.reduceSub,Nat.reduceLeDiff,Nat.reduceBEq,Nat.reduceBNe,reduceIte,reduceDIte,reduceCtorEq]<;>rfl,by simp only[hT,gZ,bV,jI,mx0,mx1,mx2,mx3,mx4,mx5,mx6,aV,bp,bF,aZ,bo,Ty.fieldTy,Ty.fieldOf,Nat.reduceLT,Nat.reduceEqDiff,Nat.reduceAdd,Nat.reduceMul,Nat.reduceSub,Nat.reduceLeDiff,Nat.reduceBEq,Nat.reduceBNe,reduceIte,reduceDIte,reduceCtorEq,List.getElem_map,List.getElem_range];rfl,?_⟩
  intro X' hP' hT'
  have hG':aG X'.P X'.T:=by rw[hP',hT'];exact hG.keep _
  rw[hT] at hT'
  refine ax ?_
  refine nW hG' ?_ ?_
  ·try simp only[ba]
   simp only[pe2,hg]
   exact hC.2.2 k hk
  refine aL ?_
  show ∃ z,_
  simp only[ml0,ml1,Nat.reduceLT,Nat.reduceEqDiff,Nat.reduceAdd,Nat.reduceMul,Nat.reduceSub,Nat.reduceLeDiff,Nat.reduceBEq,Nat.reduceBNe,reduceIte,reduceDIte,reduceCtorEq]
  simp only[pe2,hg,aJ,aH,dE,aM]
 ·rintro⟨⟩-
  rw[show (bV p).length=p.length by simp[bV]]
  refine aL ?_
  refine aj ?_
  refine s_g hG ?_
  refine av ?_
  refine q_e [] ?_
  rw[eW,aM]
def q9(B:ag):Tab:={types:= [(3,(.int .i64)),(22,(.slice .str)),(31,(.int .i64)),(46, .str)],elems:= [],cons:= [(87,l7),(106,Gj)],hint:= [],N:=33,base:=B}
theorem Bo{B:ag}(hB:aB B):aG Tryz.prog (q9 B):=⟨⟨tc ty3 (tc gA (tc jE (tc gq (ae)))),af,by simp only[q9,ioB];omega⟩,aD (cc Tryz.func87 (wF hB) (cc Tryz.func106 (Iq hB) (au))),by kernel_rfl⟩
def oU:Con:=fun l os=>match l,os with
 | [.z (.slice .str) p], []=>some (de p, [.z (.slice (.st (.pair (.st (.pair .bool (.slice (.int .u32)))) (.st (.pair .bool (.slice (.int .u32))))))) (aI (bk p)), .z (.int .i64) (cP p)], [])
 |_,_=>none
theorem wQ{B:ag}(hB:aB B):Valid B Tryz.prog 54 oU:=by
 refine ab (Bo hB).tab Tryz.func54 rfl rfl rfl ?_
 intro args os C rs os' hc hC
 unfold oU at hc
 split at hc
 case h_2=>cases hc
 rename_i p
 cases hc
 refine v_h (Bo hB) fun X hP hT hr hG=> ?_
 have hU:=q9.eq_1
 unfold q9 at hT
 have hX:=ai @l7.eq_1<| @Gj.eq_1
 simp only[Tryz.f54,aC,al,ioB]
 have hl:p.length<1000000000+1:=by have:=hC.1;unfold QL at this;omega
 refine s_g hG ?_
 refine ak ?_
 refine s_g hG ?_
 refine ao ?_ ?_
 ·intro hb0
  try simp only[bt] at hb0
  have hl41:41<p.length:=by have h9:(41:Int)<(p.length:Int):=hb0;omega
  refine s_g hG ?_
  refine av ?_
  refine aw ?_
  refine q_e [] ?_
  exact uq (Du hl41)
 ·intro hb0
  try simp only[bf] at hb0
  have hl41:p.length<=41:=by have h9: ¬ (41:Int)<(p.length:Int):=hb0;omega
  refine aq ?_
  refine aj ?_
  refine ak ?_
  refine s_g hG ?_
  refine ax ?_
  refine br (fun(z:Nat)=>(⟨[(0, .l (.z (.slice .str) p)),(2, .l (.val (.slice none 0 0))),(3, .l (.z (.int .i64) 0)),(9, .l (.z (.slice .str) p)),(10, .l (.z (.int .i64) (p.length:Int))),(11, .l (.z (.int .i64) (z:Int)))], []⟩:aa)) (fun z=>z<=p.length/\(p.take z).all (fun q=>decide (cO q=0))=true) (fun z=>p.length-z) 0 ?_ ?_ ?_
  ·refine q_l ?_
   rfl
  ·exact⟨by omega,rfl⟩
  ·rintro k ⟨g1,g2⟩
   try dsimp only at g1 g2
   refine s_g hG ?_
   refine ak ?_
   refine ao ?_ ?_
   ·intro hb1
    try simp only[bt] at hb1
    have hk:k<p.length:=by have h9:(k:Int)<(p.length:Int):=hb1;omega
    refine aq ?_
    refine aj ?_
    refine ak ?_
    refine ax ?_
    refine s_q hG ?_ ?_
    ·try simp only[ba]
     exact⟨by omega,hb1⟩
    refine s_q hG ?_ ?_
    ·try simp only[ba]
     exact hC.2 _ (gr (t:= .str) hk)
    refine ao ?_ ?_
    ·intro hb2
     try simp only[bt] at hb2
     refine s_g hG ?_
     refine av ?_
     refine bD ?_
     refine aw ?_
     refine eF ?_
     refine bD ?_
     refine aw ?_
     refine q_e [] ?_
     exact uq (HH hk hl41 hb2)
    ·intro hb2
     try simp only[bf] at hb2
     refine aq ?_
     refine aL ?_
     refine aj ?_
     refine ah hG ?_ ?_
     ·first|trivial|omega|(simp;done)|(simp;omega)
     show ∃ z,_
     refine q_l ?_
     exact⟨k+1,wi (by omega) (by omega),hk,Ds hk g2 hb2,by omega⟩
   ·intro hb1
    try simp only[bf] at hb1
    have hk:k=p.length:=by have h9: ¬ (k:Int)<(p.length:Int):=hb1;omega
    subst hk
    rw[List.take_length] at g2
    refine bh ?_
    refine aE ?_
    refine az ?_
    refine ay ?_
    refine aj ?_
    refine ak ?_
    refine s_q hG ?_ ?_
    ·try simp only[ba]
     exact Dt hl41
    refine ao ?_ ?_
    ·intro hb3
     try simp only[bt] at hb3
     refine s_g hG ?_
     refine av ?_
     refine aw ?_
     refine q_e [] ?_
     exact uq (Dv hl41 g2 hb3)
    ·intro hb3
     try simp only[bf] at hb3
     refine aq ?_
     refine aj ?_
     refine s_q hG ?_ ?_
     ·try simp only[ba]
      exact⟨by unfold QL;omega,(uo hC g2).1⟩
     refine av ?_
     refine q_e [] ?_
     exact Lf hC hl41 g2 hb3
def ra(B:ag):Tab:={types:= [(3,(.int .i64)),(22,(.slice .str)),(31,(.int .i64)),(44,(.slice (.slice .str))),(98,(.slice (.slice (.st (.pair (.st (.pair .bool (.slice (.int .u32)))) (.st (.pair .bool (.slice (.int .u32)))))))))],elems:= [(98,79)],cons:= [(54,oU)],hint:= [],N:=29,base:=B}
theorem Bp{B:ag}(hB:aB B):aG Tryz.prog (ra B):=⟨⟨tc ty3 (tc gA (tc jE (tc uU (tc uV (ae))))),aR (by kernel_rfl) (af),by simp only[ra,ioB];omega⟩,aD (cc Tryz.func54 (wQ hB) (au)),by kernel_rfl⟩
def fC:Con:=fun l os=>match l,os with
 | [.z (.slice (.slice .str)) l], []=>some (l.length<=1000/\∀ p∈l,de p, [.z (.slice (.slice (.st (.pair (.st (.pair .bool (.slice (.int .u32)))) (.st (.pair .bool (.slice (.int .u32)))))))) (gP l), .z (.int .i64) (bP l)], [])
 |_,_=>none
theorem eP{B:ag}(hB:aB B):Valid B Tryz.prog 67 fC:=by
 refine ab (Bp hB).tab Tryz.func67 rfl rfl rfl ?_
 intro args os C rs os' hc hC
 unfold fC at hc
 split at hc
 case h_2=>cases hc
 rename_i l
 cases hc
 refine v_h (Bp hB) fun X hP hT hr hG=> ?_
 have hU:=ra.eq_1
 unfold ra at hT
 have hX:= @oU.eq_1
 simp only[Tryz.f67,aC,al,ioB]
 have hl:l.length<=1000:=hC.1
 refine s_g hG ?_
 refine Ee ?_
 refine s_g hG ?_
 refine s_g hG ?_
 refine ak ?_
 refine Ed ?_
 refine aj ?_
 refine ak ?_
 refine s_g hG ?_
 refine ax ?_
 refine br (fun(z:Option (Nat))=>match z with|none=>((⟨[(0, .l (.z (.slice (.slice .str)) l)),(2, .l (.val (.slice none 0 0))),(3, .l (.z (.int .i64) 0)),(4, .l (.val (.slice none 0 0))),(5, .l (.z (.int .i64) 0)),(9, .l (.z (.slice (.slice .str)) l)),(10, .l (.z (.int .i64) (l.length:Int))),(11, .l (.z (.int .i64) 0))], []⟩:aa))|some z=>((⟨[(0, .l (.z (.slice (.slice .str)) l)),(2, .l (.val (.slice none 0 0))),(3, .l (.z (.int .i64) 0)),(4, .l (.ownS 25)),(5, .l (.z (.int .i64) 0)),(9, .l (.z (.slice (.slice .str)) l)),(10, .l (.z (.int .i64) (l.length:Int))),(11, .l (.z (.int .i64) (z:Int)))], [(25, .arr (.slice (.st (.pair (.st (.pair .bool (.slice (.int .u32)))) (.st (.pair .bool (.slice (.int .u32))))))) 79 ((l.take z).map fun p=>aI (bk p)))]⟩:aa))) (fun(z:Option (Nat))=>match z with|none=>(True)|some z=>(1<=z/\z<=l.length/\(l.take z).all (fun p=>decide (cP p=0))=true)) (fun(z:Option (Nat))=>match z with|none=>(l.length+1)|some z=>(l.length-z)) none ?_ ?_ ?_
 ·simp only[ml0,ml1,Nat.reduceLT,Nat.reduceEqDiff,Nat.reduceAdd,Nat.reduceMul,Nat.reduceSub,Nat.reduceLeDiff,Nat.reduceBEq,Nat.reduceBNe,reduceIte,reduceDIte,reduceCtorEq]
 ·trivial
 ·rintro(_|k) hz_
  ·obtain⟨k,ek⟩:∃ k:Nat,k=0:=⟨0,rfl⟩
   have e0:(k:Int)=0:=by rw[ek];rfl
   refine s_g hG ?_
   refine ak ?_
   refine ao ?_ ?_
   ·intro hb0
    try simp only[bt] at hb0
    have hk:k<l.length:=by first|(have h9:(k:Int)<(l.length:Int):=hb0;omega)|(have h9:(0:Int)<(l.length:Int):=hb0;omega)
    refine aq ?_
    refine aj ?_
    refine ak ?_
    refine ax ?_
    refine s_q hG ?_ ?_
    ·try simp only[ba]
     exact⟨by omega,hb0⟩
    refine s_g hG ?_
    refine ak ?_
    refine s_q hG ?_ ?_
    ·try simp only[ba]
     first|exact hC.2 _ (gr (t:= .slice .str) hk)|(subst ek;exact hC.2 _ (gr (t:= .slice .str) (k:=0) hk))
    refine s_g hG ?_
    refine ao ?_ ?_
    ·intro hb1
     try simp only[bt] at hb1
     refine s_g hG ?_
     refine bh ?_
     refine aE ?_
     refine iT rfl ?_
     refine aE ?_
     refine az ?_
     refine ay ?_
     refine aj ?_
     refine s_g hG ?_
     refine av ?_
     refine gz ?_
     refine q_e [] ?_
     subst ek;exact HJ hk hb1
    ·intro hb1
     try simp only[bf] at hb1
     refine aq ?_
     refine aj ?_
     refine ah hG ?_ ?_
     ·try simp only[ba]
      unfold Cm.Roomy;try simp only[List.length_map,List.length_take]
      omega
     refine aL ?_
     refine aj ?_
     refine ah hG ?_ ?_
     ·first|trivial|omega|(simp;done)|(simp;omega)
     refine⟨some (1),?_⟩
     simp only[ml0,ml1,Nat.reduceLT,Nat.reduceEqDiff,Nat.reduceAdd,Nat.reduceMul,Nat.reduceSub,Nat.reduceLeDiff,Nat.reduceBEq,Nat.reduceBNe,reduceIte,reduceDIte,reduceCtorEq]
     subst ek;exact⟨hb1,Ab hl hk hb1⟩
   ·intro hb0
    try simp only[bf] at hb0
    have hk: ¬k<l.length:=by intro h9;first|exact hb0 (show (k:Int)<(l.length:Int) by omega)|exact hb0 (show (0:Int)<(l.length:Int) by omega)
    refine bh ?_
    refine aE ?_
    refine az ?_
    refine ay ?_
    refine aj ?_
    refine s_g hG ?_
    refine av ?_
    refine gz ?_
    refine q_e [] ?_
    subst ek;exact HM hk
  ·obtain⟨g0,g1,g2⟩:=hz_
   try dsimp only at g0 g1 g2
   refine s_g hG ?_
   refine ak ?_
   refine ao ?_ ?_
   ·intro hb0
    try simp only[bt] at hb0
    have hk:k<l.length:=by first|(have h9:(k:Int)<(l.length:Int):=hb0;omega)|(have h9:(0:Int)<(l.length:Int):=hb0;omega)
    refine aq ?_
    refine aj ?_
    refine ak ?_
    refine ax ?_
    refine s_q hG ?_ ?_
    ·try simp only[ba]
     exact⟨by omega,hb0⟩
    refine s_g hG ?_
    refine ak ?_
    refine s_q hG ?_ ?_
    ·try simp only[ba]
     first|exact hC.2 _ (gr (t:= .slice .str) hk)|(subst ek;exact hC.2 _ (gr (t:= .slice .str) (k:=0) hk))
    refine s_g hG ?_
    refine ao ?_ ?_
    ·intro hb1
     try simp only[bt] at hb1
     refine s_g hG ?_
     refine bh ?_
     refine aE ?_
     refine iT rfl ?_
     refine aE ?_
     refine az ?_
     refine ay ?_
     refine aj ?_
     refine s_g hG ?_
     refine av ?_
     refine gz ?_
     refine q_e [] ?_
     exact Aa hk g2 hb1
    ·intro hb1
     try simp only[bf] at hb1
     refine aq ?_
     refine aj ?_
     refine ah hG ?_ ?_
     ·try simp only[ba]
      unfold Cm.Roomy;try simp only[List.length_map,List.length_take]
      omega
     refine aL ?_
     refine aj ?_
     refine ah hG ?_ ?_
     ·first|trivial|omega|(simp;done)|(simp;omega)
     refine⟨some (k+1),?_⟩
     simp only[ml0,ml1,Nat.reduceLT,Nat.reduceEqDiff,Nat.reduceAdd,Nat.reduceMul,Nat.reduceSub,Nat.reduceLeDiff,Nat.reduceBEq,Nat.reduceBNe,reduceIte,reduceDIte,reduceCtorEq]
     have hr:=ur hl hk g2 hb1
     exact⟨hb1,hr⟩
   ·intro hb0
    try simp only[bf] at hb0
    have hk: ¬k<l.length:=by intro h9;first|exact hb0 (show (k:Int)<(l.length:Int) by omega)|exact hb0 (show (0:Int)<(l.length:Int) by omega)
    refine bh ?_
    refine aE ?_
    refine az ?_
    refine ay ?_
    refine aj ?_
    refine s_g hG ?_
    refine av ?_
    refine gz ?_
    refine q_e [25] ?_
    rw[List.take_of_length_le (by omega)] at g2 ⊢
    exact Lh g2
def rb(B:ag):Tab:={types:= [(3,(.int .i64)),(78,(.slice (.st (.pair (.st (.pair .bool (.slice (.int .u32)))) (.st (.pair .bool (.slice (.int .u32)))))))),(79,(.slice (.st (.pair (.st (.pair .bool (.slice (.int .u32)))) (.st (.pair .bool (.slice (.int .u32))))))))],elems:= [],cons:= [(82,jq),(88,oP)],hint:= [],N:=19,base:=B}
theorem Bq{B:ag}(hB:aB B):aG Tryz.prog (rb B):=⟨⟨tc ty3 (tc Nm (tc fS (ae))),af,by simp only[rb,ioB];omega⟩,aD (cc Tryz.func82 (iJ hB) (cc Tryz.func88 (wG hB) (au))),by kernel_rfl⟩
def eg:Con:=fun l os=>match l,os with
 | [.z (.slice (.st (.pair (.st (.pair .bool (.slice (.int .u32)))) (.st (.pair .bool (.slice (.int .u32))))))) p], []=>some (Sz QC p/\p.length<=QL, [.z (.slice .str) (iY (aT (ar p))), .z (.int .i64) (cD (aT (ar p)))], [])
 |_,_=>none
theorem fD{B:ag}(hB:aB B):Valid B Tryz.prog 69 eg:=by
 refine ab (Bq hB).tab Tryz.func69 rfl rfl rfl ?_
 intro args os C rs os' hc hC
 unfold eg at hc
 split at hc
 case h_2=>cases hc
 rename_i p
 cases hc
 refine v_h (Bq hB) fun X hP hT hr hG=> ?_
 have hU:=rb.eq_1
 unfold rb at hT
 have hX:=ai @oP.eq_1<| @jq.eq_1
 simp only[Tryz.f69,aC,al,ioB]
 refine s_g hG ?_
 refine s_q hG ?_ ?_
 ·try simp only[ba]
  exact hC
 refine ak ?_
 refine s_g hG ?_
 refine ao ?_ ?_
 ·intro hb0
  try simp only[bt] at hb0
  have hl:41<(aT (ar p)).length:=by have h9:(41:Int)<((aI (aT (ar p))).length:Int):=hb0;rw[aF] at h9;omega
  refine s_g hG ?_
  refine av ?_
  refine aw ?_
  refine q_e [] ?_
  exact Dw hl
 ·intro hb0
  try simp only[bf] at hb0
  have hl: ¬41<(aT (ar p)).length:=by have h9: ¬ (41:Int)<((aI (aT (ar p))).length:Int):=hb0;rw[aF] at h9;omega
  refine aq ?_
  refine aj ?_
  refine s_q hG ?_ ?_
  ·try simp only[ba]
   exact HO hC hl
  refine ak ?_
  refine s_g hG ?_
  refine ao ?_ ?_
  ·intro hb1
   try simp only[bt] at hb1
   refine s_g hG ?_
   refine av ?_
   refine aw ?_
   refine q_e [] ?_
   exact HN hl hb1
  ·intro hb1
   try simp only[bf] at hb1
   refine aq ?_
   refine aj ?_
   refine s_g hG ?_
   refine av ?_
   refine q_e [] ?_
   exact Li hl hb1
def re(B:ag):Tab:={types:= [(79,(.slice (.st (.pair (.st (.pair .bool (.slice (.int .u32)))) (.st (.pair .bool (.slice (.int .u32)))))))),(84, .func)],elems:= [],cons:= [(57,pM)],hint:= [],N:=8,base:=B}
theorem Br{B:ag}(hB:aB B):aG Tryz.prog (re B):=⟨⟨tc fS (tc pP (ae)),af,by simp only[re,ioB];omega⟩,aD (cc Tryz.func57 (mS hB) (au)),by kernel_rfl⟩
def Gm:Con:=fun l os=>match l,os with
 | [.z (.slice (.st (.pair (.st (.pair .bool (.slice (.int .u32)))) (.st (.pair .bool (.slice (.int .u32))))))) p, .z (.slice (.st (.pair (.st (.pair .bool (.slice (.int .u32)))) (.st (.pair .bool (.slice (.int .u32))))))) q], []=>some (Sz QH p/\Sz QH q/\p.length<=1000/\q.length<=1000, [.z (.slice (.st (.pair (.st (.pair .bool (.slice (.int .u32)))) (.st (.pair .bool (.slice (.int .u32))))))) (aI (bK (· + ·) (ar p) (ar q)))], [])
 |_,_=>none
theorem IB{B:ag}(hB:aB B):Valid B Tryz.prog 56 Gm:=by
 refine ab (Br hB).tab Tryz.func56 rfl rfl rfl ?_
 intro args os C rs os' hc hC
 unfold Gm at hc
 split at hc
 case h_2=>cases hc
 rename_i p q
 cases hc
 refine v_h (Br hB) fun X hP hT hr hG=> ?_
 have hU:=re.eq_1
 unfold re at hT
 have hX:= @pM.eq_1
 simp only[Tryz.f56,aC,al,ioB]
 refine s_g hG ?_
 refine s_q hG ?_ ?_
 ·try simp only[ba]
  exact⟨by simp,hC⟩
 refine av ?_
 refine q_e [] ?_
 trivial
def rf(B:ag):Tab:={types:= [(79,(.slice (.st (.pair (.st (.pair .bool (.slice (.int .u32)))) (.st (.pair .bool (.slice (.int .u32)))))))),(84, .func)],elems:= [],cons:= [(57,pM)],hint:= [],N:=8,base:=B}
theorem Bt{B:ag}(hB:aB B):aG Tryz.prog (rf B):=⟨⟨tc fS (tc pP (ae)),af,by simp only[rf,ioB];omega⟩,aD (cc Tryz.func57 (mS hB) (au)),by kernel_rfl⟩
def Gn:Con:=fun l os=>match l,os with
 | [.z (.slice (.st (.pair (.st (.pair .bool (.slice (.int .u32)))) (.st (.pair .bool (.slice (.int .u32))))))) p, .z (.slice (.st (.pair (.st (.pair .bool (.slice (.int .u32)))) (.st (.pair .bool (.slice (.int .u32))))))) q], []=>some (Sz QH p/\Sz QH q/\p.length<=1000/\q.length<=1000, [.z (.slice (.st (.pair (.st (.pair .bool (.slice (.int .u32)))) (.st (.pair .bool (.slice (.int .u32))))))) (aI (bK (· - ·) (ar p) (ar q)))], [])
 |_,_=>none
theorem IC{B:ag}(hB:aB B):Valid B Tryz.prog 59 Gn:=by
 refine ab (Bt hB).tab Tryz.func59 rfl rfl rfl ?_
 intro args os C rs os' hc hC
 unfold Gn at hc
 split at hc
 case h_2=>cases hc
 rename_i p q
 cases hc
 refine v_h (Bt hB) fun X hP hT hr hG=> ?_
 have hU:=rf.eq_1
 unfold rf at hT
 have hX:= @pM.eq_1
 simp only[Tryz.f59,aC,al,ioB]
 refine s_g hG ?_
 refine s_q hG ?_ ?_
 ·try simp only[ba]
  exact⟨by simp,hC⟩
 refine av ?_
 refine q_e [] ?_
 trivial
def rh(B:ag):Tab:={types:= [(79,(.slice (.st (.pair (.st (.pair .bool (.slice (.int .u32)))) (.st (.pair .bool (.slice (.int .u32))))))))],elems:= [],cons:= [(77,jR)],hint:= [],N:=7,base:=B}
theorem Bu{B:ag}(hB:aB B):aG Tryz.prog (rh B):=⟨⟨tc fS (ae),af,by simp only[rh,ioB];omega⟩,aD (cc Tryz.func77 (wL hB) (au)),by kernel_rfl⟩
def Gp:Con:=fun l os=>match l,os with
 | [.z (.slice (.st (.pair (.st (.pair .bool (.slice (.int .u32)))) (.st (.pair .bool (.slice (.int .u32))))))) p, .z (.slice (.st (.pair (.st (.pair .bool (.slice (.int .u32)))) (.st (.pair .bool (.slice (.int .u32))))))) q], []=>some (Sz QH p/\p.length<=1000, [.z (.slice (.st (.pair (.st (.pair .bool (.slice (.int .u32)))) (.st (.pair .bool (.slice (.int .u32))))))) (aI (cq (ar p)))], [])
 |_,_=>none
theorem ID{B:ag}(hB:aB B):Valid B Tryz.prog 76 Gp:=by
 refine ab (Bu hB).tab Tryz.func76 rfl rfl rfl ?_
 intro args os C rs os' hc hC
 unfold Gp at hc
 split at hc
 case h_2=>cases hc
 rename_i p q
 cases hc
 refine v_h (Bu hB) fun X hP hT hr hG=> ?_
 have hU:=rh.eq_1
 unfold rh at hT
 have hX:= @jR.eq_1
 simp only[Tryz.f76,aC,al,ioB]
 refine s_g hG ?_
 refine s_q hG ?_ ?_
 ·try simp only[ba]
  exact hC
 refine av ?_
 refine q_e [] ?_
 trivial
def ri(B:ag):Tab:={types:= [(79,(.slice (.st (.pair (.st (.pair .bool (.slice (.int .u32)))) (.st (.pair .bool (.slice (.int .u32))))))))],elems:= [],cons:= [(79,qW)],hint:= [],N:=7,base:=B}
theorem Bv{B:ag}(hB:aB B):aG Tryz.prog (ri B):=⟨⟨tc fS (ae),af,by simp only[ri,ioB];omega⟩,aD (cc Tryz.func79 (Iu hB) (au)),by kernel_rfl⟩
def Gq:Con:=fun l os=>match l,os with
 | [.z (.slice (.st (.pair (.st (.pair .bool (.slice (.int .u32)))) (.st (.pair .bool (.slice (.int .u32))))))) p, .z (.slice (.st (.pair (.st (.pair .bool (.slice (.int .u32)))) (.st (.pair .bool (.slice (.int .u32))))))) q], []=>some (mn p, [.z (.slice (.st (.pair (.st (.pair .bool (.slice (.int .u32)))) (.st (.pair .bool (.slice (.int .u32))))))) (aI (cm (ar p)))], [])
 |_,_=>none
theorem IE{B:ag}(hB:aB B):Valid B Tryz.prog 78 Gq:=by
 refine ab (Bv hB).tab Tryz.func78 rfl rfl rfl ?_
 intro args os C rs os' hc hC
 unfold Gq at hc
 split at hc
 case h_2=>cases hc
 rename_i p q
 cases hc
 refine v_h (Bv hB) fun X hP hT hr hG=> ?_
 have hU:=ri.eq_1
 unfold ri at hT
 have hX:= @qW.eq_1
 simp only[Tryz.f78,aC,al,ioB]
 refine s_g hG ?_
 refine s_q hG ?_ ?_
 ·try simp only[ba]
  exact hC
 refine av ?_
 refine q_e [] ?_
 trivial
def rj(B:ag):Tab:={types:= [(31,(.int .i64)),(44,(.slice (.slice .str))),(79,(.slice (.st (.pair (.st (.pair .bool (.slice (.int .u32)))) (.st (.pair .bool (.slice (.int .u32)))))))),(98,(.slice (.slice (.st (.pair (.st (.pair .bool (.slice (.int .u32)))) (.st (.pair .bool (.slice (.int .u32)))))))))],elems:= [(44,22)],cons:= [(56,Gm),(67,fC),(69,eg)],hint:= [],N:=31,base:=B}
theorem Bw{B:ag}(hB:aB B):aG Tryz.prog (rj B):=⟨⟨tc jE (tc uU (tc fS (tc uV (ae)))),aR (by kernel_rfl) (af),by simp only[rj,ioB];omega⟩,aD (cc Tryz.func56 (IB hB) (cc Tryz.func67 (eP hB) (cc Tryz.func69 (fD hB) (au)))),by kernel_rfl⟩
def rk:Con:=fun l os=>match l,os with
 | [.z (.slice .str) p, .z (.slice .str) q, .val (.func (.func g) fs cs)], []=>some ((g=56/\fs.size=0/\cs.size=0)/\bO (fun p q=>Sz QH p/\Sz QH q/\p.length<=1000/\q.length<=1000) (bK (· + ·)) p q, [.z (.slice .str) (db (bK (· + ·)) p q), .z (.int .i64) (da (bK (· + ·)) p q)], [])
 |_,_=>none
theorem IF{B:ag}(hB:aB B):Valid B Tryz.prog 55 rk:=by
 refine ab (Bw hB).tab Tryz.func55 rfl rfl rfl ?_
 intro args os C rs os' hc hC
 unfold rk at hc
 split at hc
 case h_2=>cases hc
 rename_i p q g fs cs
 cases hc
 refine v_h (Bw hB) fun X hP hT hr hG=> ?_
 have hU:=rj.eq_1
 unfold rj at hT
 have hX:=ai @Gm.eq_1<|ai @fC.eq_1<| @eg.eq_1
 simp only[Tryz.f55,aC,al,ioB]
 obtain⟨⟨rfl,e1,e2⟩,hp,hq,hD⟩:=hC
 obtain rfl:=Array.eq_empty_of_size_eq_zero e1
 obtain rfl:=Array.eq_empty_of_size_eq_zero e2
 refine s_g hG ?_
 refine s_q hG ?_ ?_
 ·try simp only[ba]
  exact(gD hp hq).2
 refine ak ?_
 refine s_g hG ?_
 refine ao ?_ ?_
 ·intro hb0
  try simp only[bt] at hb0
  refine s_g hG ?_
  refine av ?_
  refine aw ?_
  refine q_e [] ?_
  exact iC hb0
 ·intro hb0
  try simp only[bf] at hb0
  have n0:=iZ hb0
  have n1:=i6 hb0
  have nl:=gC hb0
  have hE:=hD hb0
  refine aq ?_
  refine aj ?_
  refine s_d hG ?_ ?_
  ·try simp only[ba]
   simp only[NT] at n0 n1
   simp only[n0,n1,nl,aJ]
   exact⟨by decide,by decide,hE.1,hE.2.1,by rw[aF];exact hE.2.2⟩
  refine av ?_
  refine q_e [] ?_
  simp only[NT] at n0 n1
  simp only[n0,n1,aJ]
  exact kj (f:=(bK (· + ·))) hb0
def rl(B:ag):Tab:={types:= [(31,(.int .i64)),(44,(.slice (.slice .str))),(79,(.slice (.st (.pair (.st (.pair .bool (.slice (.int .u32)))) (.st (.pair .bool (.slice (.int .u32)))))))),(98,(.slice (.slice (.st (.pair (.st (.pair .bool (.slice (.int .u32)))) (.st (.pair .bool (.slice (.int .u32)))))))))],elems:= [(44,22)],cons:= [(59,Gn),(67,fC),(69,eg)],hint:= [],N:=31,base:=B}
theorem Bx{B:ag}(hB:aB B):aG Tryz.prog (rl B):=⟨⟨tc jE (tc uU (tc fS (tc uV (ae)))),aR (by kernel_rfl) (af),by simp only[rl,ioB];omega⟩,aD (cc Tryz.func59 (IC hB) (cc Tryz.func67 (eP hB) (cc Tryz.func69 (fD hB) (au)))),by kernel_rfl⟩
def rm:Con:=fun l os=>match l,os with
 | [.z (.slice .str) p, .z (.slice .str) q, .val (.func (.func g) fs cs)], []=>some ((g=59/\fs.size=0/\cs.size=0)/\bO (fun p q=>Sz QH p/\Sz QH q/\p.length<=1000/\q.length<=1000) (bK (· - ·)) p q, [.z (.slice .str) (db (bK (· - ·)) p q), .z (.int .i64) (da (bK (· - ·)) p q)], [])
 |_,_=>none
theorem IG{B:ag}(hB:aB B):Valid B Tryz.prog 55 rm:=by
 refine ab (Bx hB).tab Tryz.func55 rfl rfl rfl ?_
 intro args os C rs os' hc hC
 unfold rm at hc
 split at hc
 case h_2=>cases hc
 rename_i p q g fs cs
 cases hc
 refine v_h (Bx hB) fun X hP hT hr hG=> ?_
 have hU:=rl.eq_1
 unfold rl at hT
 have hX:=ai @fC.eq_1<|ai @Gn.eq_1<| @eg.eq_1
 simp only[Tryz.f55,aC,al,ioB]
 obtain⟨⟨rfl,e1,e2⟩,hp,hq,hD⟩:=hC
 obtain rfl:=Array.eq_empty_of_size_eq_zero e1
 obtain rfl:=Array.eq_empty_of_size_eq_zero e2
 refine s_g hG ?_
 refine s_q hG ?_ ?_
 ·try simp only[ba]
  exact(gD hp hq).2
 refine ak ?_
 refine s_g hG ?_
 refine ao ?_ ?_
 ·intro hb0
  try simp only[bt] at hb0
  refine s_g hG ?_
  refine av ?_
  refine aw ?_
  refine q_e [] ?_
  exact iC hb0
 ·intro hb0
  try simp only[bf] at hb0
  have n0:=iZ hb0
  have n1:=i6 hb0
  have nl:=gC hb0
  have hE:=hD hb0
  refine aq ?_
  refine aj ?_
  refine s_d hG ?_ ?_
  ·try simp only[ba]
   simp only[NT] at n0 n1
   simp only[n0,n1,nl,aJ]
   exact⟨by decide,by decide,hE.1,hE.2.1,by rw[aF];exact hE.2.2⟩
  refine av ?_
  refine q_e [] ?_
  simp only[NT] at n0 n1
  simp only[n0,n1,aJ]
  exact kj (f:=(bK (· - ·))) hb0
def rn(B:ag):Tab:={types:= [(31,(.int .i64)),(44,(.slice (.slice .str))),(79,(.slice (.st (.pair (.st (.pair .bool (.slice (.int .u32)))) (.st (.pair .bool (.slice (.int .u32)))))))),(98,(.slice (.slice (.st (.pair (.st (.pair .bool (.slice (.int .u32)))) (.st (.pair .bool (.slice (.int .u32)))))))))],elems:= [(44,22)],cons:= [(61,oQ),(67,fC),(69,eg)],hint:= [],N:=31,base:=B}
theorem Bz{B:ag}(hB:aB B):aG Tryz.prog (rn B):=⟨⟨tc jE (tc uU (tc fS (tc uV (ae)))),aR (by kernel_rfl) (af),by simp only[rn,ioB];omega⟩,aD (cc Tryz.func61 (wJ hB) (cc Tryz.func67 (eP hB) (cc Tryz.func69 (fD hB) (au)))),by kernel_rfl⟩
def rp:Con:=fun l os=>match l,os with
 | [.z (.slice .str) p, .z (.slice .str) q, .val (.func (.func g) fs cs)], []=>some ((g=61/\fs.size=0/\cs.size=0)/\bO (fun p q=>Sz QM p/\Sz QM q/\p.length<=100/\q.length<=100) c6 p q, [.z (.slice .str) (db c6 p q), .z (.int .i64) (da c6 p q)], [])
 |_,_=>none
theorem IH{B:ag}(hB:aB B):Valid B Tryz.prog 55 rp:=by
 refine ab (Bz hB).tab Tryz.func55 rfl rfl rfl ?_
 intro args os C rs os' hc hC
 unfold rp at hc
 split at hc
 case h_2=>cases hc
 rename_i p q g fs cs
 cases hc
 refine v_h (Bz hB) fun X hP hT hr hG=> ?_
 have hU:=rn.eq_1
 unfold rn at hT
 have hX:=ai @fC.eq_1<|ai @oQ.eq_1<| @eg.eq_1
 simp only[Tryz.f55,aC,al,ioB]
 obtain⟨⟨rfl,e1,e2⟩,hp,hq,hD⟩:=hC
 obtain rfl:=Array.eq_empty_of_size_eq_zero e1
 obtain rfl:=Array.eq_empty_of_size_eq_zero e2
 refine s_g hG ?_
 refine s_q hG ?_ ?_
 ·try simp only[ba]
  exact(gD hp hq).2
 refine ak ?_
 refine s_g hG ?_
 refine ao ?_ ?_
 ·intro hb0
  try simp only[bt] at hb0
  refine s_g hG ?_
  refine av ?_
  refine aw ?_
  refine q_e [] ?_
  exact iC hb0
 ·intro hb0
  try simp only[bf] at hb0
  have n0:=iZ hb0
  have n1:=i6 hb0
  have nl:=gC hb0
  have hE:=hD hb0
  refine aq ?_
  refine aj ?_
  refine s_d hG ?_ ?_
  ·try simp only[ba]
   simp only[NT] at n0 n1
   simp only[n0,n1,nl,aJ]
   exact⟨by decide,by decide,hE.1,hE.2.1,by rw[aF];exact hE.2.2⟩
  refine av ?_
  refine q_e [] ?_
  simp only[NT] at n0 n1
  simp only[n0,n1,aJ]
  exact kj (f:=c6) hb0
def rq(B:ag):Tab:={types:= [(31,(.int .i64)),(44,(.slice (.slice .str))),(79,(.slice (.st (.pair (.st (.pair .bool (.slice (.int .u32)))) (.st (.pair .bool (.slice (.int .u32)))))))),(98,(.slice (.slice (.st (.pair (.st (.pair .bool (.slice (.int .u32)))) (.st (.pair .bool (.slice (.int .u32)))))))))],elems:= [(44,22)],cons:= [(67,fC),(69,eg),(70,l8)],hint:= [],N:=31,base:=B}
theorem BA{B:ag}(hB:aB B):aG Tryz.prog (rq B):=⟨⟨tc jE (tc uU (tc fS (tc uV (ae)))),aR (by kernel_rfl) (af),by simp only[rq,ioB];omega⟩,aD (cc Tryz.func67 (eP hB) (cc Tryz.func69 (fD hB) (cc Tryz.func70 (wM hB) (au)))),by kernel_rfl⟩
def rr:Con:=fun l os=>match l,os with
 | [.z (.slice .str) p, .z (.slice .str) q, .val (.func (.func g) fs cs)], []=>some ((g=70/\fs.size=0/\cs.size=0)/\bO (iX) cw p q, [.z (.slice .str) (db cw p q), .z (.int .i64) (da cw p q)], [])
 |_,_=>none
theorem II{B:ag}(hB:aB B):Valid B Tryz.prog 55 rr:=by
 refine ab (BA hB).tab Tryz.func55 rfl rfl rfl ?_
 intro args os C rs os' hc hC
 unfold rr at hc
 split at hc
 case h_2=>cases hc
 rename_i p q g fs cs
 cases hc
 refine v_h (BA hB) fun X hP hT hr hG=> ?_
 have hU:=rq.eq_1
 unfold rq at hT
 have hX:=ai @fC.eq_1<|ai @l8.eq_1<| @eg.eq_1
 simp only[Tryz.f55,aC,al,ioB]
 obtain⟨⟨rfl,e1,e2⟩,hp,hq,hD⟩:=hC
 obtain rfl:=Array.eq_empty_of_size_eq_zero e1
 obtain rfl:=Array.eq_empty_of_size_eq_zero e2
 refine s_g hG ?_
 refine s_q hG ?_ ?_
 ·try simp only[ba]
  exact(gD hp hq).2
 refine ak ?_
 refine s_g hG ?_
 refine ao ?_ ?_
 ·intro hb0
  try simp only[bt] at hb0
  refine s_g hG ?_
  refine av ?_
  refine aw ?_
  refine q_e [] ?_
  exact iC hb0
 ·intro hb0
  try simp only[bf] at hb0
  have n0:=iZ hb0
  have n1:=i6 hb0
  have nl:=gC hb0
  have hE:=hD hb0
  refine aq ?_
  refine aj ?_
  refine s_d hG ?_ ?_
  ·try simp only[ba]
   simp only[NT] at n0 n1
   simp only[n0,n1,nl,aJ]
   exact⟨by decide,by decide,hE.1,hE.2.1,by rw[aF];exact hE.2.2⟩
  refine av ?_
  refine q_e [] ?_
  simp only[NT] at n0 n1
  simp only[n0,n1,aJ]
  exact kj (f:=cw) hb0
def ru(B:ag):Tab:={types:= [(31,(.int .i64)),(44,(.slice (.slice .str))),(79,(.slice (.st (.pair (.st (.pair .bool (.slice (.int .u32)))) (.st (.pair .bool (.slice (.int .u32)))))))),(98,(.slice (.slice (.st (.pair (.st (.pair .bool (.slice (.int .u32)))) (.st (.pair .bool (.slice (.int .u32)))))))))],elems:= [(44,22)],cons:= [(67,fC),(69,eg),(76,Gp)],hint:= [],N:=31,base:=B}
theorem BB{B:ag}(hB:aB B):aG Tryz.prog (ru B):=⟨⟨tc jE (tc uU (tc fS (tc uV (ae)))),aR (by kernel_rfl) (af),by simp only[ru,ioB];omega⟩,aD (cc Tryz.func67 (eP hB) (cc Tryz.func69 (fD hB) (cc Tryz.func76 (ID hB) (au)))),by kernel_rfl⟩
def ry:Con:=fun l os=>match l,os with
 | [.z (.slice .str) p, .z (.slice .str) q, .val (.func (.func g) fs cs)], []=>some ((g=76/\fs.size=0/\cs.size=0)/\bO (fun p _=>Sz QH p/\p.length<=1000) (fun a _=>cq a) p q, [.z (.slice .str) (db (fun a _=>cq a) p q), .z (.int .i64) (da (fun a _=>cq a) p q)], [])
 |_,_=>none
theorem IJ{B:ag}(hB:aB B):Valid B Tryz.prog 55 ry:=by
 refine ab (BB hB).tab Tryz.func55 rfl rfl rfl ?_
 intro args os C rs os' hc hC
 unfold ry at hc
 split at hc
 case h_2=>cases hc
 rename_i p q g fs cs
 cases hc
 refine v_h (BB hB) fun X hP hT hr hG=> ?_
 have hU:=ru.eq_1
 unfold ru at hT
 have hX:=ai @fC.eq_1<|ai @Gp.eq_1<| @eg.eq_1
 simp only[Tryz.f55,aC,al,ioB]
 obtain⟨⟨rfl,e1,e2⟩,hp,hq,hD⟩:=hC
 obtain rfl:=Array.eq_empty_of_size_eq_zero e1
 obtain rfl:=Array.eq_empty_of_size_eq_zero e2
 refine s_g hG ?_
 refine s_q hG ?_ ?_
 ·try simp only[ba]
  exact(gD hp hq).2
 refine ak ?_
 refine s_g hG ?_
 refine ao ?_ ?_
 ·intro hb0
  try simp only[bt] at hb0
  refine s_g hG ?_
  refine av ?_
  refine aw ?_
  refine q_e [] ?_
  exact iC hb0
 ·intro hb0
  try simp only[bf] at hb0
  have n0:=iZ hb0
  have n1:=i6 hb0
  have nl:=gC hb0
  have hE:=hD hb0
  refine aq ?_
  refine aj ?_
  refine s_d hG ?_ ?_
  ·try simp only[ba]
   simp only[NT] at n0 n1
   simp only[n0,n1,nl,aJ]
   exact⟨by decide,by decide,hE.1,hE.2.1,by rw[aF];exact hE.2.2⟩
  refine av ?_
  refine q_e [] ?_
  simp only[NT] at n0 n1
  simp only[n0,n1,aJ]
  exact kj (f:=(fun a _=>cq a)) hb0
def uG:Con:=jh [none,some (.slice .str),none] ry
theorem DN{B:ag}(hB:aB B):Valid B Tryz.prog 55 uG:=fz _ (IJ hB)
def rz(B:ag):Tab:={types:= [(31,(.int .i64)),(44,(.slice (.slice .str))),(79,(.slice (.st (.pair (.st (.pair .bool (.slice (.int .u32)))) (.st (.pair .bool (.slice (.int .u32)))))))),(98,(.slice (.slice (.st (.pair (.st (.pair .bool (.slice (.int .u32)))) (.st (.pair .bool (.slice (.int .u32)))))))))],elems:= [(44,22)],cons:= [(67,fC),(69,eg),(78,Gq)],hint:= [],N:=31,base:=B}
theorem BC{B:ag}(hB:aB B):aG Tryz.prog (rz B):=⟨⟨tc jE (tc uU (tc fS (tc uV (ae)))),aR (by kernel_rfl) (af),by simp only[rz,ioB];omega⟩,aD (cc Tryz.func67 (eP hB) (cc Tryz.func69 (fD hB) (cc Tryz.func78 (IE hB) (au)))),by kernel_rfl⟩
def rA:Con:=fun l os=>match l,os with
 | [.z (.slice .str) p, .z (.slice .str) q, .val (.func (.func g) fs cs)], []=>some ((g=78/\fs.size=0/\cs.size=0)/\bO (fun p _=>mn p) (fun a _=>cm a) p q, [.z (.slice .str) (db (fun a _=>cm a) p q), .z (.int .i64) (da (fun a _=>cm a) p q)], [])
 |_,_=>none
theorem IK{B:ag}(hB:aB B):Valid B Tryz.prog 55 rA:=by
 refine ab (BC hB).tab Tryz.func55 rfl rfl rfl ?_
 intro args os C rs os' hc hC
 unfold rA at hc
 split at hc
 case h_2=>cases hc
 rename_i p q g fs cs
 cases hc
 refine v_h (BC hB) fun X hP hT hr hG=> ?_
 have hU:=rz.eq_1
 unfold rz at hT
 have hX:=ai @fC.eq_1<|ai @Gq.eq_1<| @eg.eq_1
 simp only[Tryz.f55,aC,al,ioB]
 obtain⟨⟨rfl,e1,e2⟩,hp,hq,hD⟩:=hC
 obtain rfl:=Array.eq_empty_of_size_eq_zero e1
 obtain rfl:=Array.eq_empty_of_size_eq_zero e2
 refine s_g hG ?_
 refine s_q hG ?_ ?_
 ·try simp only[ba]
  exact(gD hp hq).2
 refine ak ?_
 refine s_g hG ?_
 refine ao ?_ ?_
 ·intro hb0
  try simp only[bt] at hb0
  refine s_g hG ?_
  refine av ?_
  refine aw ?_
  refine q_e [] ?_
  exact iC hb0
 ·intro hb0
  try simp only[bf] at hb0
  have n0:=iZ hb0
  have n1:=i6 hb0
  have nl:=gC hb0
  have hE:=hD hb0
  refine aq ?_
  refine aj ?_
  refine s_d hG ?_ ?_
  ·try simp only[ba]
   simp only[NT] at n0 n1
   simp only[n0,n1,nl,aJ]
   exact⟨by decide,by decide,hE.1,hE.2.1,by rw[aF];exact hE.2.2⟩
  refine av ?_
  refine q_e [] ?_
  simp only[NT] at n0 n1
  simp only[n0,n1,aJ]
  exact kj (f:=(fun a _=>cm a)) hb0
def uH:Con:=jh [none,some (.slice .str),none] rA
theorem DO{B:ag}(hB:aB B):Valid B Tryz.prog 55 uH:=fz _ (IK hB)
def rB(B:ag):Tab:={types:= [(31,(.int .i64)),(44,(.slice (.slice .str))),(79,(.slice (.st (.pair (.st (.pair .bool (.slice (.int .u32)))) (.st (.pair .bool (.slice (.int .u32)))))))),(98,(.slice (.slice (.st (.pair (.st (.pair .bool (.slice (.int .u32)))) (.st (.pair .bool (.slice (.int .u32)))))))))],elems:= [(44,22)],cons:= [(67,fC),(69,eg),(80,nJ)],hint:= [],N:=31,base:=B}
theorem BD{B:ag}(hB:aB B):aG Tryz.prog (rB B):=⟨⟨tc jE (tc uU (tc fS (tc uV (ae)))),aR (by kernel_rfl) (af),by simp only[rB,ioB];omega⟩,aD (cc Tryz.func67 (eP hB) (cc Tryz.func69 (fD hB) (cc Tryz.func80 (IA hB) (au)))),by kernel_rfl⟩
def rC:Con:=fun l os=>match l,os with
 | [.z (.slice .str) p, .z (.slice .str) q, .val (.func (.func g) fs cs)], []=>some ((g=80/\fs.size=0/\cs.size=0)/\bO (ug) eW p q, [.z (.slice .str) (db eW p q), .z (.int .i64) (da eW p q)], [])
 |_,_=>none
theorem IL{B:ag}(hB:aB B):Valid B Tryz.prog 55 rC:=by
 refine ab (BD hB).tab Tryz.func55 rfl rfl rfl ?_
 intro args os C rs os' hc hC
 unfold rC at hc
 split at hc
 case h_2=>cases hc
 rename_i p q g fs cs
 cases hc
 refine v_h (BD hB) fun X hP hT hr hG=> ?_
 have hU:=rB.eq_1
 unfold rB at hT
 have hX:=ai @fC.eq_1<|ai @nJ.eq_1<| @eg.eq_1
 simp only[Tryz.f55,aC,al,ioB]
 obtain⟨⟨rfl,e1,e2⟩,hp,hq,hD⟩:=hC
 obtain rfl:=Array.eq_empty_of_size_eq_zero e1
 obtain rfl:=Array.eq_empty_of_size_eq_zero e2
 refine s_g hG ?_
 refine s_q hG ?_ ?_
 ·try simp only[ba]
  exact(gD hp hq).2
 refine ak ?_
 refine s_g hG ?_
 refine ao ?_ ?_
 ·intro hb0
  try simp only[bt] at hb0
  refine s_g hG ?_
  refine av ?_
  refine aw ?_
  refine q_e [] ?_
  exact iC hb0
 ·intro hb0
  try simp only[bf] at hb0
  have n0:=iZ hb0
  have n1:=i6 hb0
  have nl:=gC hb0
  have hE:=hD hb0
  refine aq ?_
  refine aj ?_
  refine s_d hG ?_ ?_
  ·try simp only[ba]
   simp only[NT] at n0 n1
   simp only[n0,n1,nl,aJ]
   exact⟨by decide,by decide,hE.1,hE.2.1,by rw[aF];exact hE.2.2⟩
  refine av ?_
  refine q_e [] ?_
  simp only[NT] at n0 n1
  simp only[n0,n1,aJ]
  exact kj (f:=eW) hb0
def rD(B:ag):Tab:={types:= [(22,(.slice .str))],elems:= [],cons:= [(54,oU)],hint:= [],N:=11,base:=B}
theorem BE{B:ag}(hB:aB B):aG Tryz.prog (rD B):=⟨⟨tc gA (ae),af,by simp only[rD,ioB];omega⟩,aD (cc Tryz.func54 (wQ hB) (au)),by kernel_rfl⟩
def l9:Con:=fun l os=>match l,os with
 | [.z (.slice .str) p], []=>some (de p, [.z (.int .i64) (cP p)], [])
 |_,_=>none
theorem wR{B:ag}(hB:aB B):Valid B Tryz.prog 14 l9:=by
 refine ab (BE hB).tab Tryz.func14 rfl rfl rfl ?_
 intro args os C rs os' hc hC
 unfold l9 at hc
 split at hc
 case h_2=>cases hc
 rename_i p
 cases hc
 refine v_h (BE hB) fun X hP hT hr hG=> ?_
 have hU:=rD.eq_1
 unfold rD at hT
 have hX:= @oU.eq_1
 simp only[Tryz.f14,aC,al,ioB]
 refine s_g hG ?_
 refine s_q hG ?_ ?_
 ·try simp only[ba]
  exact hC
 refine s_g hG ?_
 refine av ?_
 refine q_e [] ?_
 trivial
def rE(B:ag):Tab:={types:= [(22,(.slice .str))],elems:= [],cons:= [(55,rk)],hint:= [],N:=11,base:=B}
theorem BF{B:ag}(hB:aB B):aG Tryz.prog (rE B):=⟨⟨tc gA (ae),af,by simp only[rE,ioB];omega⟩,aD (cc Tryz.func55 (IF hB) (au)),by kernel_rfl⟩
def wS:Con:=fun l os=>match l,os with
 | [.z (.slice .str) p, .z (.slice .str) q], []=>some (bO (fun p q=>Sz QH p/\Sz QH q/\p.length<=1000/\q.length<=1000) (bK (· + ·)) p q, [.z (.slice .str) (db (bK (· + ·)) p q), .z (.int .i64) (da (bK (· + ·)) p q)], [])
 |_,_=>none
theorem wT{B:ag}(hB:aB B):Valid B Tryz.prog 15 wS:=by
 refine ab (BF hB).tab Tryz.func15 rfl rfl rfl ?_
 intro args os C rs os' hc hC
 unfold wS at hc
 split at hc
 case h_2=>cases hc
 rename_i p q
 cases hc
 refine v_h (BF hB) fun X hP hT hr hG=> ?_
 have hU:=rE.eq_1
 unfold rE at hT
 have hX:= @rk.eq_1
 simp only[Tryz.f15,aC,al,ioB]
 refine s_g hG ?_
 refine s_q hG ?_ ?_
 ·try simp only[ba]
  exact hC
 refine av ?_
 refine q_e [] ?_
 trivial
def rF(B:ag):Tab:={types:= [(22,(.slice .str))],elems:= [],cons:= [(55,rm)],hint:= [],N:=11,base:=B}
theorem BG{B:ag}(hB:aB B):aG Tryz.prog (rF B):=⟨⟨tc gA (ae),af,by simp only[rF,ioB];omega⟩,aD (cc Tryz.func55 (IG hB) (au)),by kernel_rfl⟩
def wU:Con:=fun l os=>match l,os with
 | [.z (.slice .str) p, .z (.slice .str) q], []=>some (bO (fun p q=>Sz QH p/\Sz QH q/\p.length<=1000/\q.length<=1000) (bK (· - ·)) p q, [.z (.slice .str) (db (bK (· - ·)) p q), .z (.int .i64) (da (bK (· - ·)) p q)], [])
 |_,_=>none
theorem wV{B:ag}(hB:aB B):Valid B Tryz.prog 16 wU:=by
 refine ab (BG hB).tab Tryz.func16 rfl rfl rfl ?_
 intro args os C rs os' hc hC
 unfold wU at hc
 split at hc
 case h_2=>cases hc
 rename_i p q
 cases hc
 refine v_h (BG hB) fun X hP hT hr hG=> ?_
 have hU:=rF.eq_1
 unfold rF at hT
 have hX:= @rm.eq_1
 simp only[Tryz.f16,aC,al,ioB]
 refine s_g hG ?_
 refine s_q hG ?_ ?_
 ·try simp only[ba]
  exact hC
 refine av ?_
 refine q_e [] ?_
 trivial
def rG(B:ag):Tab:={types:= [(22,(.slice .str))],elems:= [],cons:= [(55,rp)],hint:= [],N:=11,base:=B}
theorem BH{B:ag}(hB:aB B):aG Tryz.prog (rG B):=⟨⟨tc gA (ae),af,by simp only[rG,ioB];omega⟩,aD (cc Tryz.func55 (IH hB) (au)),by kernel_rfl⟩
def wW:Con:=fun l os=>match l,os with
 | [.z (.slice .str) p, .z (.slice .str) q], []=>some (bO (fun p q=>Sz QM p/\Sz QM q/\p.length<=100/\q.length<=100) c6 p q, [.z (.slice .str) (db c6 p q), .z (.int .i64) (da c6 p q)], [])
 |_,_=>none
theorem wX{B:ag}(hB:aB B):Valid B Tryz.prog 17 wW:=by
 refine ab (BH hB).tab Tryz.func17 rfl rfl rfl ?_
 intro args os C rs os' hc hC
 unfold wW at hc
 split at hc
 case h_2=>cases hc
 rename_i p q
 cases hc
 refine v_h (BH hB) fun X hP hT hr hG=> ?_
 have hU:=rG.eq_1
 unfold rG at hT
 have hX:= @rp.eq_1
 simp only[Tryz.f17,aC,al,ioB]
 refine s_g hG ?_
 refine s_q hG ?_ ?_
 ·try simp only[ba]
  exact hC
 refine av ?_
 refine q_e [] ?_
 trivial
def rH(B:ag):Tab:={types:= [(22,(.slice .str))],elems:= [],cons:= [(55,rr)],hint:= [],N:=11,base:=B}
theorem BI{B:ag}(hB:aB B):aG Tryz.prog (rH B):=⟨⟨tc gA (ae),af,by simp only[rH,ioB];omega⟩,aD (cc Tryz.func55 (II hB) (au)),by kernel_rfl⟩
def Gr:Con:=fun l os=>match l,os with
 | [.z (.slice .str) p, .z (.slice .str) q], []=>some (bO (iX) cw p q, [.z (.slice .str) (db cw p q), .z (.int .i64) (da cw p q)], [])
 |_,_=>none
theorem IM{B:ag}(hB:aB B):Valid B Tryz.prog 24 Gr:=by
 refine ab (BI hB).tab Tryz.func24 rfl rfl rfl ?_
 intro args os C rs os' hc hC
 unfold Gr at hc
 split at hc
 case h_2=>cases hc
 rename_i p q
 cases hc
 refine v_h (BI hB) fun X hP hT hr hG=> ?_
 have hU:=rH.eq_1
 unfold rH at hT
 have hX:= @rr.eq_1
 simp only[Tryz.f24,aC,al,ioB]
 refine s_g hG ?_
 refine s_q hG ?_ ?_
 ·try simp only[ba]
  exact hC
 refine av ?_
 refine q_e [] ?_
 trivial
def DP:Con:=jh [some (.slice .str),some (.slice .str)] Gr
theorem DQ{B:ag}(hB:aB B):Valid B Tryz.prog 24 DP:=fz _ (IM hB)
def rI(B:ag):Tab:={types:= [(22,(.slice .str))],elems:= [],cons:= [(55,uG)],hint:= [],N:=8,base:=B}
theorem BJ{B:ag}(hB:aB B):aG Tryz.prog (rI B):=⟨⟨tc gA (ae),af,by simp only[rI,ioB];omega⟩,aD (cc Tryz.func55 (DN hB) (au)),by kernel_rfl⟩
def Gs:Con:=fun l os=>match l,os with
 | [.z (.slice .str) p], []=>some (bO (fun p _=>Sz QH p/\p.length<=1000) (fun a _=>cq a) p [], [.z (.slice .str) (db (fun a _=>cq a) p []), .z (.int .i64) (da (fun a _=>cq a) p [])], [])
 |_,_=>none
theorem IP{B:ag}(hB:aB B):Valid B Tryz.prog 29 Gs:=by
 refine ab (BJ hB).tab Tryz.func29 rfl rfl rfl ?_
 intro args os C rs os' hc hC
 unfold Gs at hc
 split at hc
 case h_2=>cases hc
 rename_i p
 cases hc
 refine v_h (BJ hB) fun X hP hT hr hG=> ?_
 have hU:=rI.eq_1
 unfold rI at hT
 have hX:=ai @ry.eq_1<| @uG.eq_1
 simp only[Tryz.f29,aC,al,ioB]
 refine s_g hG ?_
 refine s_q hG ?_ ?_
 ·try simp only[ba]
  exact hC
 refine av ?_
 refine q_e [] ?_
 trivial
def rJ(B:ag):Tab:={types:= [(22,(.slice .str))],elems:= [],cons:= [(55,uH)],hint:= [],N:=8,base:=B}
theorem BK{B:ag}(hB:aB B):aG Tryz.prog (rJ B):=⟨⟨tc gA (ae),af,by simp only[rJ,ioB];omega⟩,aD (cc Tryz.func55 (DO hB) (au)),by kernel_rfl⟩
def Gt:Con:=fun l os=>match l,os with
 | [.z (.slice .str) p], []=>some (bO (fun p _=>mn p) (fun a _=>cm a) p [], [.z (.slice .str) (db (fun a _=>cm a) p []), .z (.int .i64) (da (fun a _=>cm a) p [])], [])
 |_,_=>none
theorem IQ{B:ag}(hB:aB B):Valid B Tryz.prog 30 Gt:=by
 refine ab (BK hB).tab Tryz.func30 rfl rfl rfl ?_
 intro args os C rs os' hc hC
 unfold Gt at hc
 split at hc
 case h_2=>cases hc
 rename_i p
 cases hc
 refine v_h (BK hB) fun X hP hT hr hG=> ?_
 have hU:=rJ.eq_1
 unfold rJ at hT
 have hX:=ai @rA.eq_1<| @uH.eq_1
 simp only[Tryz.f30,aC,al,ioB]
 refine s_g hG ?_
 refine s_q hG ?_ ?_
 ·try simp only[ba]
  exact hC
 refine av ?_
 refine q_e [] ?_
 trivial
def rK(B:ag):Tab:={types:= [(3,(.int .i64)),(31,(.int .i64)),(44,(.slice (.slice .str))),(79,(.slice (.st (.pair (.st (.pair .bool (.slice (.int .u32)))) (.st (.pair .bool (.slice (.int .u32)))))))),(98,(.slice (.slice (.st (.pair (.st (.pair .bool (.slice (.int .u32)))) (.st (.pair .bool (.slice (.int .u32)))))))))],elems:= [(44,22)],cons:= [(67,fC),(68,pL),(69,eg)],hint:= [],N:=53,base:=B}
theorem BL{B:ag}(hB:aB B):aG Tryz.prog (rK B):=⟨⟨tc ty3 (tc jE (tc uU (tc fS (tc uV (ae))))),aR (by kernel_rfl) (af),by simp only[rK,ioB];omega⟩,aD (cc Tryz.func67 (eP hB) (cc Tryz.func68 (oS hB) (cc Tryz.func69 (fD hB) (au)))),by kernel_rfl⟩
def yt:Con:=fun l os=>match l,os with
 | [.z (.slice .str) p, .z (.slice .str) q], []=>some (Ll p q, [.z (.slice .str) (dvS p q), .z (.slice .str) (dvR p q), .z (.int .i64) (dvE p q)], [])
 |_,_=>none
theorem IR{B:ag}(hB:aB B):Valid B Tryz.prog 23 yt:=by
 refine ab (BL hB).tab Tryz.func23 rfl rfl rfl ?_
 intro args os C rs os' hc hC
 unfold yt at hc
 split at hc
 case h_2=>cases hc
 rename_i p q
 cases hc
 refine v_h (BL hB) fun X hP hT hr hG=> ?_
 have hU:=rK.eq_1
 unfold rK at hT
 have hX:=ai @fC.eq_1<|ai @pL.eq_1<| @eg.eq_1
 simp only[Tryz.f23,aC,al,ioB]
 refine s_g hG ?_
 refine s_q hG ?_ ?_
 ·try simp only[ba]
  exact(gD hC.sp hC.sq).2
 refine ak ?_
 refine s_g hG ?_
 refine ao ?_ ?_
 ·intro hb0
  try simp only[bt] at hb0
  refine s_g hG ?_
  refine av ?_
  refine aw ?_
  refine q_e [] ?_
  exact Lm hb0
 ·intro hb0
  try simp only[bf] at hb0
  have n0:=iZ hb0
  have n1:=i6 hb0
  have nl:=gC hb0
  simp only[NT] at n0 n1
  refine aq ?_
  refine aj ?_
  refine ak ?_
  refine s_q hG ?_ ?_
  ·try simp only[ba]
   rw[nl]
   decide
  refine ao ?_ ?_
  ·intro hb1
   try simp only[bt] at hb1
   simp only[n1] at hb1
   have hq:(aI (bk q)).length=0:=by have h9:((aI (bk q)).length:Int)=0:=hb1;omega
   refine s_g hG ?_
   refine av ?_
   refine aw ?_
   refine q_e [] ?_
   exact Ln hb0 hq
  ·intro hb1
   try simp only[bf] at hb1
   simp only[n1] at hb1
   have hq: ¬ (aI (bk q)).length=0:=by intro h8;exact hb1 (by show ((aI (bk q)).length:Int)=0;omega)
   have hne:=NO hq
   obtain⟨k1,k2,k3⟩:=hC.ok hb0 hne
   refine aq ?_
   refine aj ?_
   refine s_d hG ?_ ?_
   ·try simp only[ba]
    simp only[n0,n1,nl]
    exact⟨by decide,by decide,k1⟩
   refine s_q hG ?_ ?_
   ·try simp only[ba]
    simp only[n0,n1,aJ]
    exact k2
   refine ak ?_
   refine s_g hG ?_
   refine ao ?_ ?_
   ·intro hb2
    try simp only[bt] at hb2
    refine s_g hG ?_
    refine av ?_
    refine aw ?_
    refine q_e [] ?_
    simp only[n0,n1,aJ] at hb2 ⊢
    exact NP hb0 hne hb2
   ·intro hb2
    try simp only[bf] at hb2
    refine aq ?_
    refine aj ?_
    refine s_q hG ?_ ?_
    ·try simp only[ba]
     simp only[n0,n1,aJ]
     exact k3
    refine ak ?_
    refine s_g hG ?_
    refine ao ?_ ?_
    ·intro hb3
     try simp only[bt] at hb3
     refine s_g hG ?_
     refine av ?_
     refine aw ?_
     refine q_e [] ?_
     simp only[n0,n1,aJ] at hb2 hb3 ⊢
     exact NQ hb0 hne hb2 hb3
    ·intro hb3
     try simp only[bf] at hb3
     refine aq ?_
     refine aj ?_
     refine s_g hG ?_
     refine av ?_
     refine q_e [] ?_
     simp only[n0,n1,aJ] at hb2 hb3 ⊢
     exact NR hb0 hne hb2 hb3
def yu:Con:=jh [some (.slice .str),some (.slice .str)] yt
theorem DR{B:ag}(hB:aB B):Valid B Tryz.prog 23 yu:=fz _ (IR hB)
def rL(B:ag):Tab:={types:= [(3,(.int .i64)),(22,(.slice .str)),(31,(.int .i64))],elems:= [],cons:= [(14,l9),(55,rC)],hint:= [],N:=39,base:=B}
theorem BM{B:ag}(hB:aB B):aG Tryz.prog (rL B):=⟨⟨tc ty3 (tc gA (tc jE (ae))),af,by simp only[rL,ioB];omega⟩,aD (cc Tryz.func14 (wR hB) (cc Tryz.func55 (IL hB) (au))),by kernel_rfl⟩
def oV:Con:=fun l os=>match l,os with
 | [.z (.slice .str) p, .z (.slice .str) q], []=>some (p9 p q, [.z (.slice .str) (pF p q), .z (.int .i64) (lh p q)], [])
 |_,_=>none
theorem wY{B:ag}(hB:aB B):Valid B Tryz.prog 31 oV:=by
 refine ab (BM hB).tab Tryz.func31 rfl rfl rfl ?_
 intro args os C rs os' hc hC
 unfold oV at hc
 split at hc
 case h_2=>cases hc
 rename_i p q
 cases hc
 refine v_h (BM hB) fun X hP hT hr hG=> ?_
 have hU:=rL.eq_1
 unfold rL at hT
 have hX:=ai @rC.eq_1<| @l9.eq_1
 simp only[Tryz.f31,aC,al,ioB]
 refine s_g hG ?_
 refine ak ?_
 refine s_q hG ?_ ?_
 ·try simp only[ba]
  exact⟨hC.sp,fun h=>⟨h,hC.sq⟩,id,id,id,id,id,id,id,id,id⟩
 refine ao ?_ ?_
 ·intro hb0
  have hL:=of_decide_eq_true (Lp hb0)
  refine s_g hG ?_
  refine av ?_
  refine aw ?_
  refine q_e [] ?_
  exact PL hL
 ·intro hb0
  have hL:=of_decide_eq_false (Lp hb0)
  refine aq ?_
  refine aj ?_
  refine s_q hG ?_ ?_
  ·try simp only[ba]
   exact hC.ok hL
  refine av ?_
  refine q_e [] ?_
  exact PM hL
def yv:Con:=jh [some (.slice .str),some (.slice .str)] oV
theorem DS{B:ag}(hB:aB B):Valid B Tryz.prog 31 yv:=fz _ (wY hB)
def rM(B:ag):Tab:={types:= [(22,(.slice .str)),(31,(.int .i64)),(44,(.slice (.slice .str))),(46, .str),(78,(.slice (.st (.pair (.st (.pair .bool (.slice (.int .u32)))) (.st (.pair .bool (.slice (.int .u32)))))))),(79,(.slice (.st (.pair (.st (.pair .bool (.slice (.int .u32)))) (.st (.pair .bool (.slice (.int .u32)))))))),(91,(.st (.pair (.st (.pair .bool (.slice (.int .u32)))) (.st (.pair .bool (.slice (.int .u32))))))),(98,(.slice (.slice (.st (.pair (.st (.pair .bool (.slice (.int .u32)))) (.st (.pair .bool (.slice (.int .u32)))))))))],elems:= [(44,22),(78,91)],cons:= [(67,fC),(87,l7),(88,oP),(89,Gk),(90,pK)],hint:= [],N:=41,base:=B}
theorem BN{B:ag}(hB:aB B):aG Tryz.prog (rM B):=⟨⟨tc gA (tc jE (tc uU (tc gq (tc Nm (tc fS (tc ty91 (tc uV (ae)))))))),aR (by kernel_rfl) (aR (by kernel_rfl) (af)),by simp only[rM,ioB];omega⟩,aD (cc Tryz.func67 (eP hB) (cc Tryz.func87 (wF hB) (cc Tryz.func88 (wG hB) (cc Tryz.func89 (Iw hB) (cc Tryz.func90 (oN hB) (au)))))),by kernel_rfl⟩
def oW:Con:=fun l os=>match l,os with
 | [.z (.slice .str) p, .z .str x], []=>some (vX p x, [.z .str (evS p x), .z (.int .i64) (evE p x)], [])
 |_,_=>none
theorem wZ{B:ag}(hB:aB B):Valid B Tryz.prog 36 oW:=by
 refine ab (BN hB).tab Tryz.func36 rfl rfl rfl ?_
 intro args os C rs os' hc hC
 unfold oW at hc
 split at hc
 case h_2=>cases hc
 rename_i p x
 cases hc
 refine v_h (BN hB) fun X hP hT hr hG=> ?_
 have hU:=rM.eq_1
 unfold rM at hT
 have hX:=ai @fC.eq_1<|ai @l7.eq_1<|ai @Gk.eq_1<|ai @pK.eq_1<| @oP.eq_1
 simp only[Tryz.f36,aC,al,ioB]
 refine s_g hG ?_
 refine s_q hG ?_ ?_
 ·try simp only[ba]
  exact(Lr hC).2
 refine ak ?_
 refine s_g hG ?_
 refine ao ?_ ?_
 ·intro hb0
  try simp only[bt] at hb0
  refine s_g hG ?_
  refine av ?_
  refine aw ?_
  refine q_e [] ?_
  exact PO hb0
 ·intro hb0
  try simp only[bf] at hb0
  have n0:=Qo hb0
  have nl:=PN hb0
  simp only[NT] at n0
  refine aq ?_
  refine aj ?_
  refine ak ?_
  refine s_q hG ?_ ?_
  ·try simp only[ba]
   exact hC.sx
  refine s_g hG ?_
  refine ao ?_ ?_
  ·intro hb1
   try simp only[bt] at hb1
   refine s_g hG ?_
   refine av ?_
   refine aw ?_
   refine q_e [] ?_
   exact NS hb0 hb1
  ·intro hb1
   try simp only[bf] at hb1
   have h9:cO x=0:=by simpa using hb1
   obtain⟨k1,k2,k3,k4⟩:=hC.ok hb0 h9
   obtain⟨c1,c2⟩:=oy h9 hC.sx
   refine aq ?_
   refine aj ?_
   refine s_d hG ?_ ?_
   ·try simp only[ba]
    simp only[n0,nl,c2,aJ,aH]
    exact Ls c1 k1 k2 k3 k4
   refine ak ?_
   refine s_g hG ?_
   refine ao ?_ ?_
   ·intro hb2
    try simp only[bt] at hb2
    refine s_g hG ?_
    refine av ?_
    refine aw ?_
    refine q_e [] ?_
    simp only[n0,c2,aJ,aH,Af] at hb2
    exact PP hb0 h9 (by simpa using hb2)
   ·intro hb2
    try simp only[bf] at hb2
    refine aq ?_
    refine aj ?_
    refine s_q hG ?_ ?_
    ·try simp only[ba]
     simp only[n0,c2,aJ,aH] at hb2 ⊢
     exact HQ (by simpa using hb2) _
    refine av ?_
    refine q_e [] ?_
    simp only[n0,c2,aJ,aH,Af] at hb2 ⊢
    exact NV hb0 h9 (by simpa using hb2)
def yw:Con:=jh [some (.slice .str),none] oW
theorem DT{B:ag}(hB:aB B):Valid B Tryz.prog 36 yw:=fz _ (wZ hB)
def rN(B:ag):Tab:={types:= [],elems:= [],cons:= [],hint:= [],N:=4,base:=B}
theorem BO{B:ag}(hB:aB B):aG Tryz.prog (rN B):=⟨⟨ae,af,by simp only[rN,ioB];omega⟩,bH rfl,by kernel_rfl⟩
def OM:Con:=fun l os=>match l,os with
 | [.z (.slice .str) p], []=>some (True, [.z (.slice .str) p], [])
 |_,_=>none
theorem IU{B:ag}(hB:aB B):Valid B Tryz.prog 45 OM:=by
 refine ab (BO hB).tab Tryz.func45 rfl rfl rfl ?_
 intro args os C rs os' hc hC
 unfold OM at hc
 split at hc
 case h_2=>cases hc
 rename_i p
 cases hc
 refine v_h (BO hB) fun X hP hT hr hG=> ?_
 have hU:=rN.eq_1
 unfold rN at hT
 have hX:=Bool.not_true
 simp only[Tryz.f45,aC,al,ioB]
 refine s_g hG ?_
 refine s_g hG ?_
 refine av ?_
 refine q_e [] ?_
 trivial
def rO(B:ag):Tab:={types:= [(22,(.slice .str)),(31,(.int .i64))],elems:= [],cons:= [(28,oH)],hint:= [],N:=13,base:=B}
theorem BP{B:ag}(hB:aB B):aG Tryz.prog (rO B):=⟨⟨tc gA (tc jE (ae)),af,by simp only[rO,ioB];omega⟩,aD (cc Tryz.func28 (wv hB) (au)),by kernel_rfl⟩
def ON:Con:=fun l os=>match l,os with
 | [.z (.slice .str) p, .z (.int .i64) e, .z (.ptr (.slice .str)) q], []=>some (p.length<=QL/\q.length<=QL, [.z .bool (decide (e=0/\p=q))], [])
 |_,_=>none
theorem IV{B:ag}(hB:aB B):Valid B Tryz.prog 94 ON:=by
 refine ab (BP hB).tab Tryz.func94 rfl rfl rfl ?_
 intro args os C rs os' hc hC
 unfold ON at hc
 split at hc
 case h_2=>cases hc
 rename_i p e q
 cases hc
 refine v_h (BP hB) fun X hP hT hr hG=> ?_
 have hU:=rO.eq_1
 unfold rO at hT
 have hX:= @oH.eq_1
 simp only[Tryz.f94,aC,al,ioB]
 refine s_g hG ?_
 refine s_q hG ?_ ?_
 ·try simp only[ba]
  exact⟨fun h=>⟨h,hC⟩,id⟩
 refine av ?_
 refine q_e [] ?_
 exact P3 _ _ _
def rP(B:ag):Tab:={types:= [(22,(.slice .str))],elems:= [],cons:= [],hint:= [],N:=4,base:=B}
theorem BQ{B:ag}(hB:aB B):aG Tryz.prog (rP B):=⟨⟨tc gA (ae),af,by simp only[rP,ioB];omega⟩,bH rfl,by kernel_rfl⟩
def OO:Con:=fun l os=>match l,os with
 | [.z (.slice .str) p], []=>some (True, [.fn 94 [.z (.ptr (.slice .str)) p]], [])
 |_,_=>none
theorem IW{B:ag}(hB:aB B):Valid B Tryz.prog 41 OO:=by
 refine ab (BQ hB).tab Tryz.func41 rfl rfl rfl ?_
 intro args os C rs os' hc hC
 unfold OO at hc
 split at hc
 case h_2=>cases hc
 rename_i p
 cases hc
 refine v_h (BQ hB) fun X hP hT hr hG=> ?_
 have hU:=rP.eq_1
 unfold rP at hT
 have hX:=Bool.not_true
 simp only[Tryz.f41,aC,al,ioB]
 refine s_g hG ?_
 refine s_g hG ?_
 refine av ?_
 refine q_e [] ?_
 rfl
def MK:Con:=jh [some (.slice .str)] OO
theorem DU{B:ag}(hB:aB B):Valid B Tryz.prog 41 MK:=fz _ (IW hB)
def rQ(B:ag):Tab:={types:= [(22,(.slice .str)),(31,(.int .i64)),(46, .str)],elems:= [],cons:= [(36,oW)],hint:= [],N:=17,base:=B}
theorem BR{B:ag}(hB:aB B):aG Tryz.prog (rQ B):=⟨⟨tc gA (tc jE (tc gq (ae))),af,by simp only[rQ,ioB];omega⟩,aD (cc Tryz.func36 (wZ hB) (au)),by kernel_rfl⟩
def rR:Con:=fun l os=>match l,os with
 | [.z (.slice .str) p, .z .str x], []=>some (vX p x, [.z .str (evS p x), .z .bool (decide (evE p x=0))], [])
 |_,_=>none
theorem IX{B:ag}(hB:aB B):Valid B Tryz.prog 48 rR:=by
 refine ab (BR hB).tab Tryz.func48 rfl rfl rfl ?_
 intro args os C rs os' hc hC
 unfold rR at hc
 split at hc
 case h_2=>cases hc
 rename_i p x
 cases hc
 refine v_h (BR hB) fun X hP hT hr hG=> ?_
 have hU:=rQ.eq_1
 unfold rQ at hT
 have hX:= @oW.eq_1
 simp only[Tryz.f48,aC,al,ioB]
 refine s_g hG ?_
 refine s_q hG ?_ ?_
 ·try simp only[ba]
  exact hC
 refine s_g hG ?_
 refine av ?_
 refine q_e [] ?_
 exact Qy _ _
def rS(B:ag):Tab:={types:= [(3,(.int .i64)),(22,(.slice .str)),(31,(.int .i64)),(46, .str)],elems:= [(22,46)],cons:= [(14,l9),(15,wS),(16,wU),(17,wW),(23,yu),(24,DP),(28,ym),(29,Gs),(30,Gt),(31,yv),(36,yw),(41,MK),(45,OM),(94,ON)],hint:= [],N:=218,base:=B}
theorem BS{B:ag}(hB:aB B):aG Tryz.prog (rS B):=⟨⟨tc ty3 (tc gA (tc jE (tc gq (ae)))),aR (by kernel_rfl) (af),by simp only[rS,ioB];omega⟩,aD (cc Tryz.func14 (wR hB) (cc Tryz.func15 (wT hB) (cc Tryz.func16 (wV hB) (cc Tryz.func17 (wX hB) (cc Tryz.func23 (DR hB) (cc Tryz.func24 (DQ hB) (cc Tryz.func28 (DK hB) (cc Tryz.func29 (IP hB) (cc Tryz.func30 (IQ hB) (cc Tryz.func31 (DS hB) (cc Tryz.func36 (DT hB) (cc Tryz.func41 (DU hB) (cc Tryz.func45 (IU hB) (cc Tryz.func94 (IV hB) (au))))))))))))))),by kernel_rfl⟩
def rT:Con:=fun l os=>match l,os with
 | [], []=>some (True, [.z .bool true], [])
 |_,_=>none
set_option maxHeartbeats 2000000 in
theorem IY{B:ag}(hB:aB B):Valid B Tryz.prog 11 rT:=by
 refine ab (BS hB).tab Tryz.func11 rfl rfl rfl ?_
 intro args os C rs os' hc hC
 unfold rT at hc
 split at hc
 case h_2=>cases hc
 cases hc
 refine v_h (BS hB) fun X hP hT hr hG=> ?_
 have hU:=rS.eq_1
 unfold rS at hT
 have hX:=ai @OO.eq_1<|ai @MK.eq_1<|ai @ON.eq_1<|ai @OM.eq_1<|ai @wS.eq_1<|ai @l9.eq_1<|ai @oV.eq_1<|ai @yv.eq_1<|ai @Gs.eq_1<|ai @yt.eq_1<|ai @yu.eq_1<|ai @oW.eq_1<|ai @yw.eq_1<|ai @Gr.eq_1<|ai @DP.eq_1<|ai @wW.eq_1<|ai @Gt.eq_1<|ai @wU.eq_1<|ai @oH.eq_1<|ai @ym.eq_1<| @List.append_eq.{0}
 simp only[Tryz.f11,aC,al,ioB]
 refine s_g hG ?_
 refine ck (fun(z:Unit)=>(⟨[(0, .l (.z .bool false)),(1, .l (.z (.slice .str) [[49], [49], [49]])),(2, .l (.z (.slice .str) [])),(3, .l (.z (.int .i64) 0))], []⟩:aa)) (fun z=>True) ?_ ?_
 ·refine ah hG ?_ ?_
  ·try simp only[ba]
   exact Dy (n:=4) (K:=1) (by decide+kernel) (by decide+kernel)
  show ∃ z,_
  refine q_l ?_
  exact wp1
 rintro⟨⟩-
 refine ck (fun(z:Unit)=>(⟨[(0, .l (.z .bool false)),(1, .l (.z (.slice .str) [[49], [49], [49]])),(2, .l (.z (.slice .str) [])),(3, .l (.z (.int .i64) 0)),(4, .l (.z (.slice .str) [[48], [49,47,50]])),(5, .l (.z (.slice .str) [[49]])),(6, .l (.z (.int .i64) 0))], []⟩:aa)) (fun z=>True) ?_ ?_
 ·refine ah hG ?_ ?_
  ·try simp only[ba]
   exact Dy (n:=4) (K:=1) (by decide+kernel) (by decide+kernel)
  show ∃ z,_
  refine q_l ?_
  exact wp2
 rintro⟨⟩-
 refine ck (fun(z:Unit)=>(⟨[(0, .l (.z .bool false)),(1, .l (.z (.slice .str) [[49], [49], [49]])),(2, .l (.z (.slice .str) [])),(3, .l (.z (.int .i64) 0)),(4, .l (.z (.slice .str) [[48], [49,47,50]])),(5, .l (.z (.slice .str) [[49]])),(6, .l (.z (.int .i64) 0)),(9, .l (.z (.int .i64) 2))], []⟩:aa)) (fun z=>True) ?_ ?_
 ·refine ah hG ?_ ?_
  ·try simp only[ba]
   exact Dy (n:=4) (K:=1) (by decide+kernel) (by decide+kernel)
  show ∃ z,_
  refine q_l ?_
  exact wp3
 rintro⟨⟩-
 refine ck (fun(z:Unit)=>(⟨[(0, .l (.z .bool false)),(1, .l (.z (.slice .str) [[49], [49], [49]])),(2, .l (.z (.slice .str) [])),(3, .l (.z (.int .i64) 0)),(4, .l (.z (.slice .str) [[48], [49,47,50]])),(5, .l (.z (.slice .str) [[49]])),(6, .l (.z (.int .i64) 0)),(9, .l (.z (.int .i64) 2)),(10, .l (.z .str [53,47,52])),(11, .l (.z (.int .i64) 0))], []⟩:aa)) (fun z=>True) ?_ ?_
 ·refine ah hG ?_ ?_
  ·try simp only[ba]
   exact Ly (n:=4) (K:=1) (by decide+kernel) (by decide)
  show ∃ z,_
  refine q_l ?_
  exact wp4
 rintro⟨⟩-
 refine ck (fun(z:Unit)=>(⟨[(0, .l (.z .bool false)),(1, .l (.z (.slice .str) [[49], [49], [49]])),(2, .l (.z (.slice .str) [])),(3, .l (.z (.int .i64) 0)),(4, .l (.z (.slice .str) [[48], [49,47,50]])),(5, .l (.z (.slice .str) [[49]])),(6, .l (.z (.int .i64) 0)),(9, .l (.z (.int .i64) 2)),(10, .l (.z .str [53,47,52])),(11, .l (.z (.int .i64) 0)),(13, .l (.z (.int .i64) 5))], []⟩:aa)) (fun z=>True) ?_ ?_
 ·refine ah hG ?_ ?_
  ·try simp only[ba]
   exact Ly (n:=4) (K:=1) (by decide+kernel) (by decide)
  show ∃ z,_
  refine q_l ?_
  exact wp5
 rintro⟨⟩-
 refine ck (fun(z:Unit)=>(⟨[(0, .l (.z .bool false)),(14, .l (.z .bool true))], []⟩:aa)) (fun z=>True) ?_ ?_
 ·refine ah hG ?_ ?_
  ·try simp only[ba]
   exact wsq
  show ∃ z,_
  refine q_l ?_
  rfl
 rintro⟨⟩-
 refine ck (fun(z:Unit)=>(⟨[(0, .l (.z .bool false)),(14, .l (.z .bool true))], []⟩:aa)) (fun z=>True) ?_ ?_
 ·refine ah hG ?_ ?_
  ·try simp only[ba]
   simp[wp6.1,wp6.2,wp7.1,wp7.2,wp8.1,wp8.2,wp9.1,wp9.2,Og.1,Og.2,Oh.1,Oh.2,ok6,ok7,ok8,ok9,QP,QQ,QL]
  show ∃ z,_
  refine q_l ?_
  simp[wp6.1,wp6.2,wp7.1,wp7.2,wp8.1,wp8.2,wp9.1,wp9.2,Og.1,Og.2,Oh.1,Oh.2]
 rintro⟨⟩-
 refine ck (fun(z:Unit)=>(⟨[(0, .l (.z .bool false)),(14, .l (.z .bool true))], []⟩:aa)) (fun z=>True) ?_ ?_
 ·refine ah hG ?_ ?_
  ·try simp only[ba]
   simp[Oi.1,Oi.2,Oj.1,Oj.2,Ok.1,Ok.2,Ol.1,Ol.2,QR,QS,QT,QU,QL]
  show ∃ z,_
  refine q_l ?_
  simp[Oi.1,Oi.2,Oj.1,Oj.2,Ok.1,Ok.2,Ol.1,Ol.2]
 rintro⟨⟩-
 refine s_q hG ?_ ?_
 ·try simp only[ba]
  simp[Om.1,Om.2,Qz.1,Qz.2]
 refine av ?_
 refine q_e [] ?_
 simp[Om.1,Om.2]
def rU(B:ag):Tab:={types:= [(3,(.int .i64)),(22,(.slice .str)),(46, .str)],elems:= [],cons:= [],hint:= [],N:=13,base:=B}
theorem BU{B:ag}(hB:aB B):aG Tryz.prog (rU B):=⟨⟨tc ty3 (tc gA (tc gq (ae))),af,by simp only[rU,ioB];omega⟩,bH rfl,by kernel_rfl⟩
def yx:Con:=fun l os=>match l,os with
 | [.z (.slice .str) p, .z (.int .i64) i], []=>some (GL QK p/\0<=i, [.z .str (aS (cf (nl p) i.toNat))], [])
 |_,_=>none
theorem IZ{B:ag}(hB:aB B):Valid B Tryz.prog 63 yx:=by
 refine ab (BU hB).tab Tryz.func63 rfl rfl rfl ?_
 intro args os C rs os' hc hC
 unfold yx at hc
 split at hc
 case h_2=>cases hc
 rename_i p i
 cases hc
 refine v_h (BU hB) fun X hP hT hr hG=> ?_
 have hU:=rU.eq_1
 unfold rU at hT
 have hX:=Bool.not_true
 simp only[Tryz.f63,aC,al,ioB]
 obtain⟨hp,hi⟩:=hC
 obtain⟨n,rfl⟩:=Int.eq_ofNat_of_zero_le hi
 rw[Int.toNat_natCast]
 refine s_g hG ?_
 refine ak ?_
 refine s_g hG ?_
 refine ao ?_ ?_
 ·intro hb0
  try simp only[bt] at hb0
  refine s_q hG ?_ ?_
  ·try simp only[ba]
   exact⟨by omega,hb0⟩
  refine av ?_
  refine aw ?_
  refine q_e [] ?_
  exact nD hp (by omega)
 ·intro hb0
  try simp only[bf] at hb0
  refine aq ?_
  refine aj ?_
  refine s_g hG ?_
  refine av ?_
  refine q_e [] ?_
  exact LS (by omega)
def rV(B:ag):Tab:={types:= [(3,(.int .i64)),(22,(.slice .str)),(46, .str)],elems:= [],cons:= [],hint:= [],N:=21,base:=B}
theorem BV{B:ag}(hB:aB B):aG Tryz.prog (rV B):=⟨⟨tc ty3 (tc gA (tc gq (ae))),af,by simp only[rV,ioB];omega⟩,bH rfl,by kernel_rfl⟩
def js:Con:=fun l os=>match l,os with
 | [.z (.slice .str) p], []=>some (GL QK p/\p.length<=1000000000, [.z (.slice .str) (txP (aT (nl p)))], [])
 |_,_=>none
theorem kn{B:ag}(hB:aB B):Valid B Tryz.prog 64 js:=by
 refine ab (BV hB).tab Tryz.func64 rfl rfl rfl ?_
 intro args os C rs os' hc hC
 unfold js at hc
 split at hc
 case h_2=>cases hc
 rename_i p
 cases hc
 refine v_h (BV hB) fun X hP hT hr hG=> ?_
 have hU:=rV.eq_1
 unfold rV at hT
 have hX:=Bool.not_true
 simp only[Tryz.f64,aC,al,ioB]
 obtain⟨l0,rfl,hl0⟩:=hC.1.ex
 have hn:=hC.2
 rw[cp] at hn
 rw[lj]
 refine s_g hG ?_
 refine ak ?_
 refine ax ?_
 refine br (fun(z:List Rat)=>(⟨[(0, .l (.z (.slice .str) (txP z))),(2, .l (.val (.slice none 0 0)))], []⟩:aa)) (fun z=>z.length<=l0.length/\(∀ x∈z,lq x<=QK)/\aT z=aT l0) (fun z=>z.length) l0 ?_ ?_ ?_
 ·simp only[ml0,ml1,Nat.reduceLT,Nat.reduceEqDiff,Nat.reduceAdd,Nat.reduceMul,Nat.reduceSub,Nat.reduceLeDiff,Nat.reduceBEq,Nat.reduceBNe,reduceIte,reduceDIte,reduceCtorEq]
 ·exact⟨Nat.le_refl _,hl0,rfl⟩
 ·rintro l ⟨g1,g2,g3⟩
  try dsimp only at g1 g2 g3
  refine ak ?_
  refine s_q hG ?_ ?_
  ·try simp only[ba]
   exact⟨id,id,fun h=>DC (l:=l) (by omega) h,id⟩
  refine ao ?_ ?_
  ·intro hb0
   try simp only[bt] at hb0
   have ht:=N7 (l:=l) (by omega) hb0.1 hb0.2
   obtain⟨n1,n2,n3,n4,n5⟩:=DD (by omega) g1 g2 g3 ht
   refine aq ?_
   refine aj ?_
   refine ax ?_
   refine ah hG ?_ ?_
   ·try simp only[ba]
    rw[cp,cb (by omega)]
    omega
   refine aL ?_
   show ∃ z,_
   refine q_l ?_
   exact⟨l.dropLast,n1,n2,n3,n4,n5⟩
  ·intro hb0
   try simp only[bf] at hb0
   have ht:=N8 (l:=l) (by omega) hb0
   refine bh ?_
   refine aE ?_
   refine az ?_
   refine ay ?_
   refine aj ?_
   refine s_g hG ?_
   refine av ?_
   refine q_e [] ?_
   rw[<- g3,ht]
def rW(B:ag):Tab:={types:= [(3,(.int .i64)),(22,(.slice .str)),(46, .str)],elems:= [(22,46)],cons:= [(62,F7),(63,yx),(64,js)],hint:= [27],N:=31,base:=B}
theorem BW{B:ag}(hB:aB B):aG Tryz.prog (rW B):=⟨⟨tc ty3 (tc gA (tc gq (ae))),aR (by kernel_rfl) (af),by simp only[rW,ioB];omega⟩,aD (cc Tryz.func62 (Ih hB) (cc Tryz.func63 (IZ hB) (cc Tryz.func64 (kn hB) (au)))),by kernel_rfl⟩
def yy:Con:=fun l os=>match l,os with
 | [.z (.slice .str) p, .z (.slice .str) q], []=>some (GL QK2 p/\GL QK2 q/\p.length<=1000000/\q.length<=1000000, [.z (.slice .str) (txP (bK (· + ·) (nl p) (nl q)))], [])
 |_,_=>none
theorem I0{B:ag}(hB:aB B):Valid B Tryz.prog 20 yy:=by
 refine ab (BW hB).tab Tryz.func20 rfl rfl rfl ?_
 intro args os C rs os' hc hC
 unfold yy at hc
 split at hc
 case h_2=>cases hc
 rename_i p q
 cases hc
 refine v_h (BW hB) fun X hP hT hr hG=> ?_
 have hU:=rW.eq_1
 unfold rW at hT
 have hX:=ai @F7.eq_1<|ai @yx.eq_1<| @js.eq_1
 simp only[Tryz.f20,aC,al,ioB]
 obtain⟨hp,hq,hl1,hl2⟩:=hC
 refine s_g hG ?_
 refine s_g hG ?_
 refine ak ?_
 refine s_g hG ?_
 refine ax ?_
 refine br (fun(z:Nat)=>(⟨[(0, .l (.z (.slice .str) p)),(1, .l (.z (.slice .str) q)),(4, .l (.val (.slice none 0 0))),(5, .l (.ownS 28)),(6, .l (.z (.int .i64) (z:Int)))], [(28, .arr .str 46 (txP (bM (· + ·) (nl p) (nl q) z)))]⟩:aa)) (fun z=>z<=max p.length q.length) (fun z=>max p.length q.length-z) 0 ?_ ?_ ?_
 ·refine q_l ?_
  exact⟨rfl,by unfold ioB;omega,rfl⟩
 ·omega
 ·rintro k g1
  try dsimp only at g1
  refine ak ?_
  refine s_g hG ?_
  refine ao ?_ ?_
  ·intro hb0
   have hk:=Qt hb0
   refine aq ?_
   refine aj ?_
   refine ak ?_
   refine ax ?_
   refine ah hG ?_ ?_
   ·try simp only[ba]
    exact DI hp hq (by omega)
   refine aL ?_
   refine aj ?_
   refine ah hG ?_ ?_
   ·first|trivial|omega|(simp;done)|(simp;omega)
   show ∃ z,_
   refine q_l ?_
   exact DE (by omega) (by omega)
  ·intro hb0
   have hk:=Qu hb0
   refine bh ?_
   refine aE ?_
   refine az ?_
   refine ay ?_
   refine aj ?_
   refine s_q hG ?_ ?_
   ·try simp only[ba]
    exact⟨H2 hp hq k,by rw[cp,eH];omega⟩
   refine av ?_
   refine q_e [] ?_
   exact LU g1 hk
def rX(B:ag):Tab:={types:= [(3,(.int .i64)),(22,(.slice .str)),(46, .str)],elems:= [(22,46)],cons:= [(64,js),(84,F8)],hint:= [20],N:=24,base:=B}
theorem BX{B:ag}(hB:aB B):aG Tryz.prog (rX B):=⟨⟨tc ty3 (tc gA (tc gq (ae))),aR (by kernel_rfl) (af),by simp only[rX,ioB];omega⟩,aD (cc Tryz.func64 (kn hB) (cc Tryz.func84 (Ii hB) (au))),by kernel_rfl⟩
def rY:Con:=fun l os=>match l,os with
 | [.z .str c, .z (.slice .str) p], []=>some (GQ QK2 c/\GL QK2 p/\p.length<=1000000, [.z (.slice .str) (txP (fp (bg c) (nl p)))], [])
 |_,_=>none
theorem I1{B:ag}(hB:aB B):Valid B Tryz.prog 65 rY:=by
 refine ab (BX hB).tab Tryz.func65 rfl rfl rfl ?_
 intro args os C rs os' hc hC
 unfold rY at hc
 split at hc
 case h_2=>cases hc
 rename_i c p
 cases hc
 refine v_h (BX hB) fun X hP hT hr hG=> ?_
 have hU:=rX.eq_1
 unfold rX at hT
 have hX:=ai @F8.eq_1<| @js.eq_1
 simp only[Tryz.f65,aC,al,ioB]
 obtain⟨hc,hp,hl1⟩:=hC
 refine s_g hG ?_
 refine s_g hG ?_
 refine ak ?_
 refine s_g hG ?_
 refine ax ?_
 refine br (fun(z:Nat)=>(⟨[(0, .l (.z .str c)),(1, .l (.z (.slice .str) p)),(4, .l (.val (.slice none 0 0))),(5, .l (.ownS 21)),(6, .l (.z (.int .i64) (z:Int)))], [(21, .arr .str 46 (txP (((nl p).take z).map fun x=>bg c*x)))]⟩:aa)) (fun z=>z<=p.length) (fun z=>p.length-z) 0 ?_ ?_ ?_
 ·refine q_l ?_
  exact⟨rfl,by unfold ioB;omega,rfl⟩
 ·omega
 ·rintro k g1
  try dsimp only at g1
  refine ak ?_
  refine s_g hG ?_
  refine ao ?_ ?_
  ·intro hb0
   try simp only[bt] at hb0
   have hk:k<p.length:=by have h9:(k:Int)<(p.length:Int):=hb0;omega
   refine aq ?_
   refine aj ?_
   refine ak ?_
   refine ax ?_
   refine ah hG ?_ ?_
   ·try simp only[ba]
    exact Aq hc hp hl1 hk
   refine aL ?_
   refine aj ?_
   refine ah hG ?_ ?_
   ·first|trivial|omega|(simp;done)|(simp;omega)
   show ∃ z,_
   refine q_l ?_
   exact Am hp hk hl1
  ·intro hb0
   try simp only[bf] at hb0
   have hk: ¬k<p.length:=by have h9: ¬ (k:Int)<(p.length:Int):=hb0;omega
   refine bh ?_
   refine aE ?_
   refine az ?_
   refine ay ?_
   refine aj ?_
   refine s_q hG ?_ ?_
   ·try simp only[ba]
    exact⟨DF hc hp k,by rw[cp,List.length_map,List.length_take,jl];omega⟩
   refine av ?_
   refine q_e [] ?_
   exact H3 hk
def rZ(B:ag):Tab:={types:= [(3,(.int .i64)),(22,(.slice .str))],elems:= [(22,46)],cons:= [(64,js)],hint:= [13],N:=19,base:=B}
theorem BZ{B:ag}(hB:aB B):aG Tryz.prog (rZ B):=⟨⟨tc ty3 (tc gA (ae)),aR (by kernel_rfl) (af),by simp only[rZ,ioB];omega⟩,aD (cc Tryz.func64 (kn hB) (au)),by kernel_rfl⟩
def r0:Con:=fun l os=>match l,os with
 | [.z (.slice .str) p, .z (.int .i64) n], []=>some (GL QK p/\0<=n/\n<=1000000/\p.length<=1000000, [.z (.slice .str) (txP (iG n.toNat (nl p)))], [])
 |_,_=>none
theorem I2{B:ag}(hB:aB B):Valid B Tryz.prog 66 r0:=by
 refine ab (BZ hB).tab Tryz.func66 rfl rfl rfl ?_
 intro args os C rs os' hc hC
 unfold r0 at hc
 split at hc
 case h_2=>cases hc
 rename_i p n
 cases hc
 refine v_h (BZ hB) fun X hP hT hr hG=> ?_
 have hU:=rZ.eq_1
 unfold rZ at hT
 have hX:= @js.eq_1
 simp only[Tryz.f66,aC,al,ioB]
 obtain⟨hp,hn1,hn2,hl1⟩:=hC
 obtain⟨n,rfl⟩:=Int.eq_ofNat_of_zero_le hn1
 rw[Int.toNat_natCast]
 have hn3:n<=1000000:=by have h9:(n:Int)<=1000000:=hn2;omega
 refine s_g hG ?_
 refine s_g hG ?_
 refine ak ?_
 refine s_g hG ?_
 refine ax ?_
 refine br (fun(z:Nat)=>(⟨[(0, .l (.z (.slice .str) p)),(1, .l (.z (.int .i64) (n:Int))),(4, .l (.val (.slice none 0 0))),(5, .l (.ownS 14)),(6, .l (.z (.int .i64) (z:Int)))], [(14, .arr .str 46 (List.replicate z [48]))]⟩:aa)) (fun z=>z<=n) (fun z=>n-z) 0 ?_ ?_ ?_
 ·refine q_l ?_
  exact⟨rfl,by unfold ioB;omega,rfl⟩
 ·omega
 ·rintro k g1
  try dsimp only at g1
  refine ak ?_
  refine s_g hG ?_
  refine ao ?_ ?_
  ·intro hb0
   try simp only[bt] at hb0
   refine aq ?_
   refine aj ?_
   refine ak ?_
   refine ax ?_
   refine ah hG ?_ ?_
   ·try simp only[ba]
    exact uz (by rw[List.length_replicate];omega)
   refine aL ?_
   refine aj ?_
   refine ah hG ?_ ?_
   ·first|trivial|omega|(simp;done)|(simp;omega)
   show ∃ z,_
   refine q_l ?_
   exact⟨k+1,wi (by omega) (by omega),LW k,by omega,by omega⟩
  ·intro hb0
   try simp only[bf] at hb0
   obtain rfl:k=n:=by have h9: ¬ (k:Int)<(n:Int):=hb0;omega
   refine bh ?_
   refine aE ?_
   refine az ?_
   refine ay ?_
   refine aj ?_
   refine s_q hG ?_ ?_
   ·try simp only[ba]
    exact⟨uz (by rw[List.length_replicate];omega),DG hp k,by rw[List.length_append,List.length_replicate];omega⟩
   refine av ?_
   refine q_e [] ?_
   exact H5
def sa(B:ag):Tab:={types:= [(3,(.int .i64)),(22,(.slice .str)),(46, .str)],elems:= [],cons:= [(20,yy),(65,rY),(66,r0)],hint:= [],N:=24,base:=B}
theorem B0{B:ag}(hB:aB B):aG Tryz.prog (sa B):=⟨⟨tc ty3 (tc gA (tc gq (ae))),af,by simp only[sa,ioB];omega⟩,aD (cc Tryz.func20 (I0 hB) (cc Tryz.func65 (I1 hB) (cc Tryz.func66 (I2 hB) (au)))),by kernel_rfl⟩
def yz:Con:=fun l os=>match l,os with
 | [.z (.slice .str) p, .z (.slice .str) q], []=>some (L0 p q, [.z (.slice .str) (txP (eR (nl p) (nl q) p.length))], [])
 |_,_=>none
theorem I3{B:ag}(hB:aB B):Valid B Tryz.prog 22 yz:=by
 refine ab (B0 hB).tab Tryz.func22 rfl rfl rfl ?_
 intro args os C rs os' hc hC
 unfold yz at hc
 split at hc
 case h_2=>cases hc
 rename_i p q
 cases hc
 refine v_h (B0 hB) fun X hP hT hr hG=> ?_
 have hU:=sa.eq_1
 unfold sa at hT
 have hX:=ai @yy.eq_1<|ai @rY.eq_1<| @r0.eq_1
 simp only[Tryz.f22,aC,al,ioB]
 have hl1:=hC.2.2.1
 refine s_g hG ?_
 refine s_g hG ?_
 refine ak ?_
 refine s_g hG ?_
 refine ax ?_
 refine br (fun(z:Nat)=>(⟨[(0, .l (.z (.slice .str) p)),(1, .l (.z (.slice .str) q)),(4, .l (.val (.slice none 0 0))),(5, .l (.z (.slice .str) (txP (eR (nl p) (nl q) z)))),(6, .l (.z (.int .i64) (z:Int)))], []⟩:aa)) (fun z=>z<=p.length) (fun z=>p.length-z) 0 ?_ ?_ ?_
 ·refine q_l ?_
  exact⟨rfl,rfl⟩
 ·omega
 ·rintro k g1
  try dsimp only at g1
  refine ak ?_
  refine s_g hG ?_
  refine ao ?_ ?_
  ·intro hb0
   try simp only[bt] at hb0
   have hk:k<p.length:=by have h9:(k:Int)<(p.length:Int):=hb0;omega
   refine aq ?_
   refine aj ?_
   refine ak ?_
   refine ax ?_
   refine ah hG ?_ ?_
   ·try simp only[ba]
    exact⟨⟨by omega,hb0⟩,H6 hC hk⟩
   refine aL ?_
   refine aj ?_
   refine ah hG ?_ ?_
   ·first|trivial|omega|(simp;done)|(simp;omega)
   show ∃ z,_
   refine q_l ?_
   obtain⟨w,w1,w2,w3⟩:=DH hC hk
   exact⟨w,w2,w1,w3⟩
  ·intro hb0
   try simp only[bf] at hb0
   have hk: ¬k<p.length:=by have h9: ¬ (k:Int)<(p.length:Int):=hb0;omega
   refine bh ?_
   refine aE ?_
   refine az ?_
   refine ay ?_
   refine aj ?_
   refine s_g hG ?_
   refine av ?_
   refine q_e [] ?_
   exact L1 g1 hk
def OP(B:ag):Tab:={types:= [(3,(.int .i64)),(4, .bool),(5,(.int .u8)),(9, .str),(47,(.slice (.int .u8))),(49,(.st (.pair .bool (.pair (.slice (.int .u8)) (.int .u8)))))],elems:= [(47,5)],cons:= [],hint:= [],N:=54,base:=B}
theorem O8{B:ag}(hB:aB B):aG Tryz.prog (OP B):=⟨⟨tc ty3 (tc ty4 (tc ty5 (tc ty9 (tc Po (tc Qc (ae)))))),aR (by kernel_rfl) (af),by simp only[OP,ioB];omega⟩,bH rfl,by kernel_rfl⟩
def yA:Con:=fun l os=>match l,os with
 | [.z (.st (.pair .bool (.pair (.slice (.int .u8)) (.int .u8)))) d], []=>some (DOK d, [.z .str (c9 d)], [])
 |_,_=>none
theorem P4{B:ag}(hB:aB B):Valid B Tryz.prog 127 yA:=by
 refine ab (O8 hB).tab Tryz.func127 rfl rfl rfl ?_
 intro args os C rs os' hc hC
 unfold yA at hc
 split at hc
 case h_2=>cases hc
 rename_i d
 cases hc
 refine v_h (O8 hB) fun X hP hT hr hG=> ?_
 have hU:=OP.eq_1
 unfold OP at hT
 have hX:=Bool.not_true
 simp only[Tryz.f127,aC,al,ioB]
 refine s_g hG ?_
 refine s_g hG ?_
 refine ak ?_
 refine s_g hG ?_
 refine ax ?_
 refine br (fun(z:Nat)=>(⟨[(1, .l (.z (.ptr (.st (.pair .bool (.pair (.slice (.int .u8)) (.int .u8))))) d)),(3, .l (.z .str (cS d.2.1 z))),(4, .l (.z (.int .i64) (z:Int)))], []⟩:aa)) (fun z=>z<=(d.2.2%8).toNat+1) (fun z=>(d.2.2%8).toNat+1-z) 0 ?_ ?_ ?_
 ·refine q_l ?_
  exact⟨rfl,rfl⟩
 ·omega
 ·rintro k hk
  try dsimp only at hk
  refine ak ?_
  refine s_q hG ?_ ?_
  ·try simp only[ba]
   decide
  refine ao ?_ ?_
  ·intro hb0
   try simp only[bt] at hb0
   refine aq ?_
   refine aj ?_
   refine ak ?_
   refine ax ?_
   refine s_g hG ?_
   refine ax ?_
   refine br (fun(z:Nat×List UInt8)=>(⟨[(1, .l (.z (.ptr (.st (.pair .bool (.pair (.slice (.int .u8)) (.int .u8))))) d)),(3, .l (.z .str z.2)),(4, .l (.z (.int .i64) (k:Int))),(5, .l (.z (.int .i64) (z.1:Int)))], []⟩:aa)) (fun z=>mj d.2.1 (cS d.2.1 k) z.1 z.2) (fun z=>30-z.1) (0,cS d.2.1 k) ?_ ?_ ?_
   ·refine q_l ?_
    rfl
   ·exact⟨Nat.zero_le _,Nat.zero_le _,rfl⟩
   ·rintro⟨i,s⟩ hi
    try dsimp only at hi
    refine ak ?_
    refine s_q hG ?_ ?_
    ·try simp only[ba]
     exact fun h=>h
    refine ao ?_ ?_
    ·intro hb1
     try simp only[bt] at hb1
     refine aq ?_
     refine aj ?_
     refine ak ?_
     refine ax ?_
     refine s_q hG ?_ ?_
     ·try simp only[ba]
      exact⟨fun h=>h,fun h=>⟨h,by omega,hb1.1⟩,fun h=>h,fun h=>⟨h,by decide⟩,fun h=>h,fun h=>by have h2:(s != [])= !(s== []):=rfl;simp_all⟩
     refine ao ?_ ?_
     ·intro hb2
      try simp only[bt] at hb2
      refine ah hG ?_ ?_
      ·try simp only[ba]
       have hl:=Pn hC hk hi
       exact⟨⟨by omega,hb1.1⟩,by decide,by have h1:(strOf [IntKind.u8.wrap (48+Int.tmod (nth (Ty.int IntKind.u8) d.2.1 (i:Int)) 10)]).length=1:=rfl;rw[h1];have h2:1000<=maxLen:=(by decide);omega⟩
      refine aL ?_
      refine aj ?_
      refine ah hG ?_ ?_
      ·first|trivial|omega|(simp;done)|(simp;omega)
      show ∃ z,_
      refine q_l ?_
      first|exact EA hC hi hb1 hb2|exact zu hC hi hb1 hb2
     ·intro hb2
      try simp only[bf] at hb2
      refine aq ?_
      refine aL ?_
      refine aj ?_
      refine ah hG ?_ ?_
      ·first|trivial|omega|(simp;done)|(simp;omega)
      show ∃ z,_
      refine q_l ?_
      first|exact EA hC hi hb1 hb2|exact zu hC hi hb1 hb2
    ·intro hb1
     try simp only[bf] at hb1
     refine bh ?_
     refine aE ?_
     refine az ?_
     refine ay ?_
     refine aL ?_
     refine aj ?_
     refine ah hG ?_ ?_
     ·first|trivial|omega|(simp;done)|(simp;omega)
     show ∃ z,_
     refine q_l ?_
     exact Kg hC hk hb0 hi hb1
  ·intro hb0
   try simp only[bf] at hb0
   refine bh ?_
   refine aE ?_
   refine az ?_
   refine ay ?_
   refine aj ?_
   refine ak ?_
   refine s_g hG ?_
   refine ao ?_ ?_
   ·intro hb3
    try simp only[bt] at hb3
    refine s_g hG ?_
    refine av ?_
    refine aw ?_
    refine q_e [] ?_
    rw[pV hC hk hb0] at hb3
    unfold c9
    rw[if_pos hb3]
   ·intro hb3
    try simp only[bf] at hb3
    refine aq ?_
    refine aj ?_
    refine ak ?_
    refine s_g hG ?_
    refine ao ?_ ?_
    ·intro hb4
     try simp only[bt] at hb4
     refine s_q hG ?_ ?_
     ·try simp only[ba]
      rw[pV hC hk hb0]
      have:=zt hC
      have h2:1000<=maxLen:=by decide
      omega
     refine av ?_
     refine aw ?_
     refine q_e [] ?_
     rw[pV hC hk hb0] at hb3 ⊢
     unfold c9
     rw[if_neg hb3,if_pos hb4]
    ·intro hb4
     try simp only[bf] at hb4
     refine aq ?_
     refine aj ?_
     refine s_g hG ?_
     refine av ?_
     refine q_e [] ?_
     rw[pV hC hk hb0] at hb3 ⊢
     unfold c9
     rw[if_neg hb3,if_neg (by rw[hb4];decide)]
def sc(B:ag):Tab:={types:= [(3,(.int .i64)),(5,(.int .u8)),(22,(.slice .str)),(23,(.slice (.int .i8))),(25,(.st (.pair (.slice (.int .i8)) (.pair (.int .u8) (.slice (.int .i8)))))),(71,(.int .i8))],elems:= [(22,46)],cons:= [(22,yz),(64,js),(85,OD)],hint:= [],N:=59,base:=B}
theorem B1{B:ag}(hB:aB B):aG Tryz.prog (sc B):=⟨⟨tc ty3 (tc ty5 (tc gA (tc QN (tc Qb (tc QO (ae)))))),aR (by kernel_rfl) (af),by simp only[sc,ioB];omega⟩,aD (cc Tryz.func22 (I3 hB) (cc Tryz.func64 (kn hB) (cc Tryz.func85 (Ig hB) (au)))),by kernel_rfl⟩
def sd:Con:=fun l os=>match l,os with
 | [.z (.st (.pair (.slice (.int .i8)) (.pair (.int .u8) (.slice (.int .i8))))) d], []=>some (lk d, [.z (.slice .str) (txP (uA d))], [])
 |_,_=>none
theorem I4{B:ag}(hB:aB B):Valid B Tryz.prog 40 sd:=by
 refine ab (B1 hB).tab Tryz.func40 rfl rfl rfl ?_
 intro args os C rs os' hc hC
 unfold sd at hc
 split at hc
 case h_2=>cases hc
 rename_i d
 cases hc
 refine v_h (B1 hB) fun X hP hT hr hG=> ?_
 have hU:=sc.eq_1
 unfold sc at hT
 have hX:=ai @yz.eq_1<|ai @OD.eq_1<| @js.eq_1
 simp only[Tryz.f40,aC,al,ioB]
 have hD:=hC
 refine s_g hG ?_
 refine s_g hG ?_
 refine ak ?_
 refine s_g hG ?_
 refine ax ?_
 refine br (fun(z:Nat)=>(⟨[(1, .l (.z (.ptr (.st (.pair (.slice (.int .i8)) (.pair (.int .u8) (.slice (.int .i8)))))) d)),(2, .l (.val (.slice none 0 0))),(3, .l (.ownS 32)),(4, .l (.z (.int .i64) (z:Int)))], [(32, .arr .str 46 (txP (iH d z)))]⟩:aa)) (fun z=>z<=d.1.length/\z<=5) (fun z=>5-z) 0 ?_ ?_ ?_
 ·refine q_l ?_
  exact⟨rfl,by unfold ioB;omega,rfl⟩
 ·omega
 ·rintro k g1
  try dsimp only at g1
  refine ak ?_
  refine s_g hG ?_
  refine ao ?_ ?_
  ·intro hb0
   have hk:=O5 (n:=5) hb0
   refine aq ?_
   refine aj ?_
   refine ak ?_
   refine ax ?_
   refine yq 32 44 (by simp only[aa.toRow,LV.toRow,ioB,mx0,mx1,mx2,mx3,mx4,mx5,mx6,Nat.reduceLT,Nat.reduceEqDiff,Nat.reduceAdd,Nat.reduceMul,Nat.reduceSub,Nat.reduceLeDiff,Nat.reduceBEq,Nat.reduceBNe,reduceIte,reduceDIte,reduceCtorEq];rfl) ?_
   refine gI hG ?_ ?_
   ·try simp only[ba]
    exact H9 hD hk
   refine aL ?_
   refine aj ?_
   refine qR 32 1 (by simp only[aa.ofRow,LV.ofRow,ioB,List.set_cons_zero,List.set_cons_succ,List.append_nil,List.nil_append,List.cons_append,List.getElem?_cons_zero,List.getElem?_cons_succ,Option.getD_some,mx0,mx1,mx2,mx3,mx4,mx5,mx6,Nat.reduceLT,Nat.reduceEqDiff,Nat.reduceAdd,Nat.reduceMul,Nat.reduceSub,Nat.reduceLeDiff,Nat.reduceBEq,Nat.reduceBNe,reduceIte,reduceDIte,reduceCtorEq];rfl) ?_
   refine ah hG ?_ ?_
   ·first|trivial|omega|(simp;done)|(simp;omega)
   show ∃ z,_
   refine q_l ?_
   exact Ia hD hk
  ·intro hb0
   have hk:=O6 (n:=5) hb0
   refine bh ?_
   refine aE ?_
   refine az ?_
   refine ay ?_
   refine aj ?_
   refine s_q hG ?_ ?_
   ·try simp only[ba]
    exact⟨(Fc hD k).1,PY (Fc hD k).2 g1⟩
   refine ak ?_
   refine s_g hG ?_
   refine ax ?_
   refine br (fun(z:Nat)=>(⟨[(1, .l (.z (.ptr (.st (.pair (.slice (.int .i8)) (.pair (.int .u8) (.slice (.int .i8)))))) d)),(2, .l (.val (.slice none 0 0))),(3, .l (.z (.slice .str) (txP (mc d z)))),(5, .l (.z (.int .i64) (z:Int)))], []⟩:aa)) (fun z=>z<=d.2.2.length/\z<=4) (fun z=>4-z) 0 ?_ ?_ ?_
   ·refine q_l ?_
    exact⟨P1 hk g1,rfl⟩
   ·omega
   ·rintro k2 g2
    try dsimp only at g2
    refine ak ?_
    refine s_g hG ?_
    refine ao ?_ ?_
    ·intro hb1
     have hk2:=O5 (n:=4) hb1
     refine aq ?_
     refine aj ?_
     refine ak ?_
     refine ax ?_
     refine ah hG ?_ ?_
     ·try simp only[ba]
      exact H7 hD hk2
     refine aL ?_
     refine aj ?_
     refine ah hG ?_ ?_
     ·first|trivial|omega|(simp;done)|(simp;omega)
     show ∃ z,_
     refine q_l ?_
     exact H8 hD hk2
    ·intro hb1
     have hk2:=O6 (n:=4) hb1
     refine bh ?_
     refine aE ?_
     refine az ?_
     refine ay ?_
     refine aj ?_
     refine s_g hG ?_
     refine av ?_
     refine q_e [] ?_
     exact P0 hk2 g2
def se(B:ag):Tab:={types:= [(9, .str),(49,(.st (.pair .bool (.pair (.slice (.int .u8)) (.int .u8))))),(51,(.st (.pair (.st (.pair .bool (.pair (.slice (.int .u8)) (.int .u8)))) (.st (.pair .bool (.pair (.slice (.int .u8)) (.int .u8)))))))],elems:= [],cons:= [(116,jn),(127,yA)],hint:= [],N:=17,base:=B}
theorem B2{B:ag}(hB:aB B):aG Tryz.prog (se B):=⟨⟨tc ty9 (tc Qc (tc Pp (ae))),af,by simp only[se,ioB];omega⟩,aD (cc Tryz.func116 (lY hB) (cc Tryz.func127 (P4 hB) (au))),by kernel_rfl⟩
def sf:Con:=fun l os=>match l,os with
 | [.z (.st (.pair (.st (.pair .bool (.pair (.slice (.int .u8)) (.int .u8)))) (.st (.pair .bool (.pair (.slice (.int .u8)) (.int .u8)))))) d], []=>some (At d, [.z .str (aS (dqv d))], [])
 |_,_=>none
theorem I5{B:ag}(hB:aB B):Valid B Tryz.prog 86 sf:=by
 refine ab (B2 hB).tab Tryz.func86 rfl rfl rfl ?_
 intro args os C rs os' hc hC
 unfold sf at hc
 split at hc
 case h_2=>cases hc
 rename_i d
 cases hc
 refine v_h (B2 hB) fun X hP hT hr hG=> ?_
 have hU:=se.eq_1
 unfold se at hT
 have hX:=ai @yA.eq_1<| @jn.eq_1
 simp only[Tryz.f86,aC,al,ioB]
 refine s_g hG ?_
 refine ak ?_
 refine s_q hG ?_ ?_
 ·try simp only[ba]
  exact hC.2
 refine ao ?_ ?_
 ·intro hb0
  try simp only[bt] at hb0
  refine s_q hG ?_ ?_
  ·try simp only[ba]
   exact hC.1
  refine av ?_
  refine aw ?_
  refine q_e [] ?_
  exact Oc hC hb0
 ·intro hb0
  try simp only[bf] at hb0
  refine aq ?_
  refine aj ?_
  refine s_d hG ?_ ?_
  ·try simp only[ba]
   exact⟨hC.1,hC.2,(Ff hC hb0).1⟩
  refine av ?_
  refine q_e [] ?_
  exact(Ff hC hb0).2
def sg(B:ag):Tab:={types:= [(3,(.int .i64)),(46, .str),(51,(.st (.pair (.st (.pair .bool (.pair (.slice (.int .u8)) (.int .u8)))) (.st (.pair .bool (.pair (.slice (.int .u8)) (.int .u8)))))))],elems:= [],cons:= [(39,yl),(86,sf)],hint:= [],N:=9,base:=B}
theorem B3{B:ag}(hB:aB B):aG Tryz.prog (sg B):=⟨⟨tc ty3 (tc gq (tc Pp (ae))),af,by simp only[sg,ioB];omega⟩,aD (cc Tryz.func39 (Ie hB) (cc Tryz.func86 (I5 hB) (au))),by kernel_rfl⟩
def si:Con:=fun l os=>match l,os with
 | [.z (.st (.pair (.st (.pair .bool (.pair (.slice (.int .u8)) (.int .u8)))) (.st (.pair .bool (.pair (.slice (.int .u8)) (.int .u8)))))) d], []=>some (At d, [.z .str (aS (ll d))], [])
 |_,_=>none
theorem I6{B:ag}(hB:aB B):Valid B Tryz.prog 35 si:=by
 refine ab (B3 hB).tab Tryz.func35 rfl rfl rfl ?_
 intro args os C rs os' hc hC
 unfold si at hc
 split at hc
 case h_2=>cases hc
 rename_i d
 cases hc
 refine v_h (B3 hB) fun X hP hT hr hG=> ?_
 have hU:=sg.eq_1
 unfold sg at hT
 have hX:=ai @sf.eq_1<| @yl.eq_1
 simp only[Tryz.f35,aC,al,ioB]
 refine s_g hG ?_
 refine ak ?_
 refine s_q hG ?_ ?_
 ·try simp only[ba]
  exact hC
 refine s_q hG ?_ ?_
 ·try simp only[ba]
  exact DJ hC
 refine ao ?_ ?_
 ·intro hb0
  try simp only[bt] at hb0
  refine s_g hG ?_
  refine av ?_
  refine aw ?_
  refine q_e [] ?_
  exact Od hb0
 ·intro hb0
  try simp only[bf] at hb0
  refine aq ?_
  refine aj ?_
  refine s_g hG ?_
  refine av ?_
  refine q_e [] ?_
  exact Oe hb0
def sj(B:ag):Tab:={types:= [(84, .func),(91,(.st (.pair (.st (.pair .bool (.slice (.int .u32)))) (.st (.pair .bool (.slice (.int .u32)))))))],elems:= [],cons:= [(58,kz),(143,lD)],hint:= [],N:=14,base:=B}
theorem B4{B:ag}(hB:aB B):aG Tryz.prog (sj B):=⟨⟨tc pP (tc ty91 (ae)),af,by simp only[sj,ioB];omega⟩,aD (cc Tryz.func58 (jP hB) (cc Tryz.func143 (oO hB) (au))),by kernel_rfl⟩
def Gu:Con:=fun l os=>match l,os with
 | [.z (.st (.pair (.st (.pair .bool (.slice (.int .u32)))) (.st (.pair .bool (.slice (.int .u32)))))) x, .z (.st (.pair (.st (.pair .bool (.slice (.int .u32)))) (.st (.pair .bool (.slice (.int .u32)))))) y, .ownP 10000000 0], [.box 84 [.val (.func (.func g) fs cs)]]=>some ((g=58/\fs.size=0/\cs.size=0)/\eO x y/\lq (bc x)+lq (bc y)<QC, [.z .str (iA (bc x+bc y)), .z (.int .i64) (eV (bc x+bc y))], [.box 84 [.val (.func (.func g) fs cs)]])
 |_,_=>none
theorem I7{B:ag}(hB:aB B):Valid B Tryz.prog 146 Gu:=by
 refine ab (B4 hB).tab Tryz.func146 rfl rfl rfl ?_
 intro args os C rs os' hc hC
 unfold Gu at hc
 split at hc
 case h_2=>cases hc
 rename_i x y g fs cs
 cases hc
 refine v_h (B4 hB) fun X hP hT hr hG=> ?_
 have hU:=sj.eq_1
 unfold sj at hT
 have hX:=ai @kz.eq_1<| @lD.eq_1
 simp only[Tryz.f146,aC,al,ioB]
 obtain⟨⟨rfl,e1,e2⟩,hC⟩:=hC
 obtain rfl:=Array.eq_empty_of_size_eq_zero e1
 obtain rfl:=Array.eq_empty_of_size_eq_zero e2
 refine s_g hG ?_
 refine s_q hG ?_ ?_
 ·try simp only[ba]
  exact ux (f:=(· + ·)) mL hC
 refine av ?_
 refine q_e [] ?_
 simp only[aH,and_self]
def sk(B:ag):Tab:={types:= [(31,(.int .i64)),(46, .str),(91,(.st (.pair (.st (.pair .bool (.slice (.int .u32)))) (.st (.pair .bool (.slice (.int .u32))))))),(151,(.st (.pair (.st (.pair (.st (.pair .bool (.slice (.int .u32)))) (.st (.pair .bool (.slice (.int .u32)))))) (.int .i64))))],elems:= [],cons:= [(128,jo),(146,Gu)],hint:= [],N:=35,base:=B}
theorem B5{B:ag}(hB:aB B):aG Tryz.prog (sk B):=⟨⟨tc jE (tc gq (tc ty91 (tc zA (ae)))),af,by simp only[sk,ioB];omega⟩,aD (cc Tryz.func128 (l6 hB) (cc Tryz.func146 (I7 hB) (au))),by kernel_rfl⟩
def Gv:Con:=fun l os=>match l,os with
 | [.z .str a, .z .str b, .fn 146 [.p 10000000]], [.box 84 [.val (.func (.func g) fs cs)]]=>some ((g=58/\fs.size=0/\cs.size=0)/\a.length<=QL/\b.length<=QL, [.z .str (apS a b (bg a+bg b)), .z (.int .i64) (apE a b (bg a+bg b))], [.box 84 [.val (.func (.func g) fs cs)]])
 |_,_=>none
theorem I9{B:ag}(hB:aB B):Valid B Tryz.prog 145 Gv:=by
 refine ab (B5 hB).tab Tryz.func145 rfl rfl rfl ?_
 intro args os C rs os' hc hC
 unfold Gv at hc
 split at hc
 case h_2=>cases hc
 rename_i a b g fs cs
 cases hc
 refine v_h (B5 hB) fun X hP hT hr hG=> ?_
 have hU:=sk.eq_1
 unfold sk at hT
 have hX:=ai @Gu.eq_1<| @jo.eq_1
 simp only[Tryz.f145,aC,al,ioB]
 obtain⟨⟨rfl,e1,e2⟩,hC⟩:=hC
 obtain rfl:=Array.eq_empty_of_size_eq_zero e1
 obtain rfl:=Array.eq_empty_of_size_eq_zero e2
 refine s_g hG ?_
 refine s_g hG ?_
 refine s_q hG ?_ ?_
 ·try simp only[ba]
  exact hC
 refine ak ?_
 refine s_g hG ?_
 refine ao ?_ ?_
 ·intro hb0
  try simp only[bt] at hb0
  refine s_d hG ?_ ?_
  ·first|trivial|omega|(simp;done)|(simp;omega)
  refine av ?_
  refine aw ?_
  refine q_e [] ?_
  exact xN hb0
 ·intro hb0
  try simp only[bf] at hb0
  refine aq ?_
  refine aj ?_
  refine ak ?_
  refine s_g hG ?_
  refine ao ?_ ?_
  ·intro hb1
   try simp only[bt] at hb1
   refine s_d hG ?_ ?_
   ·first|trivial|omega|(simp;done)|(simp;omega)
   refine av ?_
   refine aw ?_
   refine q_e [] ?_
   exact xO hb0 hb1
  ·intro hb1
   try simp only[bf] at hb1
   refine aq ?_
   refine aj ?_
   refine s_q hG ?_ ?_
   ·try simp only[ba]
    exact xP hb0 hb1 hC
   refine av ?_
   refine q_e [] ?_
   simp only[pe2,gE hb0,gE hb1,aH]
   exact LA hb0 hb1
def sl(B:ag):Tab:={types:= [(46, .str),(84, .func)],elems:= [],cons:= [(145,Gv)],hint:= [5],N:=14,base:=B}
theorem B6{B:ag}(hB:aB B):aG Tryz.prog (sl B):=⟨⟨tc gq (tc pP (ae)),af,by simp only[sl,ioB];omega⟩,aD (cc Tryz.func145 (I9 hB) (au)),by kernel_rfl⟩
def OQ:Con:=fun l os=>match l,os with
 | [.z .str a, .z .str b, .val (.func (.func g) fs cs)], []=>some ((g=58/\fs.size=0/\cs.size=0)/\a.length<=QL/\b.length<=QL, [.z .str (apS a b (bg a+bg b)), .z (.int .i64) (apE a b (bg a+bg b))], [])
 |_,_=>none
theorem Ja{B:ag}(hB:aB B):Valid B Tryz.prog 104 OQ:=by
 refine ab (B6 hB).tab Tryz.func104 rfl rfl rfl ?_
 intro args os C rs os' hc hC
 unfold OQ at hc
 split at hc
 case h_2=>cases hc
 rename_i a b g fs cs
 cases hc
 refine v_h (B6 hB) fun X hP hT hr hG=> ?_
 have hU:=sl.eq_1
 unfold sl at hT
 have hX:= @Gv.eq_1
 simp only[Tryz.f104,aC,al,ioB]
 obtain⟨⟨rfl,e1,e2⟩,hC⟩:=hC
 obtain rfl:=Array.eq_empty_of_size_eq_zero e1
 obtain rfl:=Array.eq_empty_of_size_eq_zero e2
 refine s_g hG ?_
 refine s_q hG ?_ ?_
 ·try simp only[ba]
  exact hC
 refine av ?_
 refine q_e [] ?_
 trivial
def sn(B:ag):Tab:={types:= [(46, .str),(84, .func)],elems:= [],cons:= [(104,OQ)],hint:= [],N:=11,base:=B}
theorem B7{B:ag}(hB:aB B):aG Tryz.prog (sn B):=⟨⟨tc gq (tc pP (ae)),af,by simp only[sn,ioB];omega⟩,aD (cc Tryz.func104 (Ja hB) (au)),by kernel_rfl⟩
def OR:Con:=fun l os=>match l,os with
 | [.z .str a, .z .str b], []=>some (a.length<=QL/\b.length<=QL, [.z .str (apS a b (bg a+bg b)), .z (.int .i64) (apE a b (bg a+bg b))], [])
 |_,_=>none
theorem Jb{B:ag}(hB:aB B):Valid B Tryz.prog 49 OR:=by
 refine ab (B7 hB).tab Tryz.func49 rfl rfl rfl ?_
 intro args os C rs os' hc hC
 unfold OR at hc
 split at hc
 case h_2=>cases hc
 rename_i a b
 cases hc
 refine v_h (B7 hB) fun X hP hT hr hG=> ?_
 have hU:=sn.eq_1
 unfold sn at hT
 have hX:= @OQ.eq_1
 simp only[Tryz.f49,aC,al,ioB]
 refine s_g hG ?_
 refine s_q hG ?_ ?_
 ·try simp only[ba]
  exact hC
 refine av ?_
 refine q_e [] ?_
 trivial
def so(B:ag):Tab:={types:= [(84, .func),(91,(.st (.pair (.st (.pair .bool (.slice (.int .u32)))) (.st (.pair .bool (.slice (.int .u32)))))))],elems:= [],cons:= [(60,eS),(143,lD)],hint:= [],N:=14,base:=B}
theorem B8{B:ag}(hB:aB B):aG Tryz.prog (so B):=⟨⟨tc pP (tc ty91 (ae)),af,by simp only[so,ioB];omega⟩,aD (cc Tryz.func60 (oJ hB) (cc Tryz.func143 (oO hB) (au))),by kernel_rfl⟩
def Gw:Con:=fun l os=>match l,os with
 | [.z (.st (.pair (.st (.pair .bool (.slice (.int .u32)))) (.st (.pair .bool (.slice (.int .u32)))))) x, .z (.st (.pair (.st (.pair .bool (.slice (.int .u32)))) (.st (.pair .bool (.slice (.int .u32)))))) y, .ownP 10000000 0], [.box 84 [.val (.func (.func g) fs cs)]]=>some ((g=60/\fs.size=0/\cs.size=0)/\eO x y/\lq (bc x)+lq (bc y)<QC, [.z .str (iA (bc x-bc y)), .z (.int .i64) (eV (bc x-bc y))], [.box 84 [.val (.func (.func g) fs cs)]])
 |_,_=>none
theorem Jc{B:ag}(hB:aB B):Valid B Tryz.prog 146 Gw:=by
 refine ab (B8 hB).tab Tryz.func146 rfl rfl rfl ?_
 intro args os C rs os' hc hC
 unfold Gw at hc
 split at hc
 case h_2=>cases hc
 rename_i x y g fs cs
 cases hc
 refine v_h (B8 hB) fun X hP hT hr hG=> ?_
 have hU:=so.eq_1
 unfold so at hT
 have hX:=ai @eS.eq_1<| @lD.eq_1
 simp only[Tryz.f146,aC,al,ioB]
 obtain⟨⟨rfl,e1,e2⟩,hC⟩:=hC
 obtain rfl:=Array.eq_empty_of_size_eq_zero e1
 obtain rfl:=Array.eq_empty_of_size_eq_zero e2
 refine s_g hG ?_
 refine s_q hG ?_ ?_
 ·try simp only[ba]
  exact ux (f:=(· - ·)) KA hC
 refine av ?_
 refine q_e [] ?_
 simp only[aH,and_self]
def sr(B:ag):Tab:={types:= [(31,(.int .i64)),(46, .str),(91,(.st (.pair (.st (.pair .bool (.slice (.int .u32)))) (.st (.pair .bool (.slice (.int .u32))))))),(151,(.st (.pair (.st (.pair (.st (.pair .bool (.slice (.int .u32)))) (.st (.pair .bool (.slice (.int .u32)))))) (.int .i64))))],elems:= [],cons:= [(128,jo),(146,Gw)],hint:= [],N:=35,base:=B}
theorem B9{B:ag}(hB:aB B):aG Tryz.prog (sr B):=⟨⟨tc jE (tc gq (tc ty91 (tc zA (ae)))),af,by simp only[sr,ioB];omega⟩,aD (cc Tryz.func128 (l6 hB) (cc Tryz.func146 (Jc hB) (au))),by kernel_rfl⟩
def Gx:Con:=fun l os=>match l,os with
 | [.z .str a, .z .str b, .fn 146 [.p 10000000]], [.box 84 [.val (.func (.func g) fs cs)]]=>some ((g=60/\fs.size=0/\cs.size=0)/\a.length<=QL/\b.length<=QL, [.z .str (apS a b (bg a-bg b)), .z (.int .i64) (apE a b (bg a-bg b))], [.box 84 [.val (.func (.func g) fs cs)]])
 |_,_=>none
theorem Jd{B:ag}(hB:aB B):Valid B Tryz.prog 145 Gx:=by
 refine ab (B9 hB).tab Tryz.func145 rfl rfl rfl ?_
 intro args os C rs os' hc hC
 unfold Gx at hc
 split at hc
 case h_2=>cases hc
 rename_i a b g fs cs
 cases hc
 refine v_h (B9 hB) fun X hP hT hr hG=> ?_
 have hU:=sr.eq_1
 unfold sr at hT
 have hX:=ai @Gw.eq_1<| @jo.eq_1
 simp only[Tryz.f145,aC,al,ioB]
 obtain⟨⟨rfl,e1,e2⟩,hC⟩:=hC
 obtain rfl:=Array.eq_empty_of_size_eq_zero e1
 obtain rfl:=Array.eq_empty_of_size_eq_zero e2
 refine s_g hG ?_
 refine s_g hG ?_
 refine s_q hG ?_ ?_
 ·try simp only[ba]
  exact hC
 refine ak ?_
 refine s_g hG ?_
 refine ao ?_ ?_
 ·intro hb0
  try simp only[bt] at hb0
  refine s_d hG ?_ ?_
  ·first|trivial|omega|(simp;done)|(simp;omega)
  refine av ?_
  refine aw ?_
  refine q_e [] ?_
  exact xN hb0
 ·intro hb0
  try simp only[bf] at hb0
  refine aq ?_
  refine aj ?_
  refine ak ?_
  refine s_g hG ?_
  refine ao ?_ ?_
  ·intro hb1
   try simp only[bt] at hb1
   refine s_d hG ?_ ?_
   ·first|trivial|omega|(simp;done)|(simp;omega)
   refine av ?_
   refine aw ?_
   refine q_e [] ?_
   exact xO hb0 hb1
  ·intro hb1
   try simp only[bf] at hb1
   refine aq ?_
   refine aj ?_
   refine s_q hG ?_ ?_
   ·try simp only[ba]
    exact xP hb0 hb1 hC
   refine av ?_
   refine q_e [] ?_
   simp only[pe2,gE hb0,gE hb1,aH]
   exact LA hb0 hb1
def su(B:ag):Tab:={types:= [(46, .str),(84, .func)],elems:= [],cons:= [(145,Gx)],hint:= [5],N:=14,base:=B}
theorem Ca{B:ag}(hB:aB B):aG Tryz.prog (su B):=⟨⟨tc gq (tc pP (ae)),af,by simp only[su,ioB];omega⟩,aD (cc Tryz.func145 (Jd hB) (au)),by kernel_rfl⟩
def OS:Con:=fun l os=>match l,os with
 | [.z .str a, .z .str b, .val (.func (.func g) fs cs)], []=>some ((g=60/\fs.size=0/\cs.size=0)/\a.length<=QL/\b.length<=QL, [.z .str (apS a b (bg a-bg b)), .z (.int .i64) (apE a b (bg a-bg b))], [])
 |_,_=>none
theorem Je{B:ag}(hB:aB B):Valid B Tryz.prog 104 OS:=by
 refine ab (Ca hB).tab Tryz.func104 rfl rfl rfl ?_
 intro args os C rs os' hc hC
 unfold OS at hc
 split at hc
 case h_2=>cases hc
 rename_i a b g fs cs
 cases hc
 refine v_h (Ca hB) fun X hP hT hr hG=> ?_
 have hU:=su.eq_1
 unfold su at hT
 have hX:= @Gx.eq_1
 simp only[Tryz.f104,aC,al,ioB]
 obtain⟨⟨rfl,e1,e2⟩,hC⟩:=hC
 obtain rfl:=Array.eq_empty_of_size_eq_zero e1
 obtain rfl:=Array.eq_empty_of_size_eq_zero e2
 refine s_g hG ?_
 refine s_q hG ?_ ?_
 ·try simp only[ba]
  exact hC
 refine av ?_
 refine q_e [] ?_
 trivial
def sv(B:ag):Tab:={types:= [(46, .str),(84, .func)],elems:= [],cons:= [(104,OS)],hint:= [],N:=11,base:=B}
theorem Cb{B:ag}(hB:aB B):aG Tryz.prog (sv B):=⟨⟨tc gq (tc pP (ae)),af,by simp only[sv,ioB];omega⟩,aD (cc Tryz.func104 (Je hB) (au)),by kernel_rfl⟩
def OT:Con:=fun l os=>match l,os with
 | [.z .str a, .z .str b], []=>some (a.length<=QL/\b.length<=QL, [.z .str (apS a b (bg a-bg b)), .z (.int .i64) (apE a b (bg a-bg b))], [])
 |_,_=>none
theorem Jf{B:ag}(hB:aB B):Valid B Tryz.prog 50 OT:=by
 refine ab (Cb hB).tab Tryz.func50 rfl rfl rfl ?_
 intro args os C rs os' hc hC
 unfold OT at hc
 split at hc
 case h_2=>cases hc
 rename_i a b
 cases hc
 refine v_h (Cb hB) fun X hP hT hr hG=> ?_
 have hU:=sv.eq_1
 unfold sv at hT
 have hX:= @OS.eq_1
 simp only[Tryz.f50,aC,al,ioB]
 refine s_g hG ?_
 refine s_q hG ?_ ?_
 ·try simp only[ba]
  exact hC
 refine av ?_
 refine q_e [] ?_
 trivial
def sw(B:ag):Tab:={types:= [(84, .func),(91,(.st (.pair (.st (.pair .bool (.slice (.int .u32)))) (.st (.pair .bool (.slice (.int .u32)))))))],elems:= [],cons:= [(105,dF),(143,lD)],hint:= [],N:=14,base:=B}
theorem Cc{B:ag}(hB:aB B):aG Tryz.prog (sw B):=⟨⟨tc pP (tc ty91 (ae)),af,by simp only[sw,ioB];omega⟩,aD (cc Tryz.func105 (jQ hB) (cc Tryz.func143 (oO hB) (au))),by kernel_rfl⟩
def Gy:Con:=fun l os=>match l,os with
 | [.z (.st (.pair (.st (.pair .bool (.slice (.int .u32)))) (.st (.pair .bool (.slice (.int .u32)))))) x, .z (.st (.pair (.st (.pair .bool (.slice (.int .u32)))) (.st (.pair .bool (.slice (.int .u32)))))) y, .ownP 10000000 0], [.box 84 [.val (.func (.func g) fs cs)]]=>some ((g=105/\fs.size=0/\cs.size=0)/\eO x y/\lq (bc x)+lq (bc y)<QC, [.z .str (iA (bc x*bc y)), .z (.int .i64) (eV (bc x*bc y))], [.box 84 [.val (.func (.func g) fs cs)]])
 |_,_=>none
theorem Jg{B:ag}(hB:aB B):Valid B Tryz.prog 146 Gy:=by
 refine ab (Cc hB).tab Tryz.func146 rfl rfl rfl ?_
 intro args os C rs os' hc hC
 unfold Gy at hc
 split at hc
 case h_2=>cases hc
 rename_i x y g fs cs
 cases hc
 refine v_h (Cc hB) fun X hP hT hr hG=> ?_
 have hU:=sw.eq_1
 unfold sw at hT
 have hX:=ai @dF.eq_1<| @lD.eq_1
 simp only[Tryz.f146,aC,al,ioB]
 obtain⟨⟨rfl,e1,e2⟩,hC⟩:=hC
 obtain rfl:=Array.eq_empty_of_size_eq_zero e1
 obtain rfl:=Array.eq_empty_of_size_eq_zero e2
 refine s_g hG ?_
 refine s_q hG ?_ ?_
 ·try simp only[ba]
  exact ux (f:=(· * ·)) N1 hC
 refine av ?_
 refine q_e [] ?_
 simp only[aH,and_self]
def sA(B:ag):Tab:={types:= [(31,(.int .i64)),(46, .str),(91,(.st (.pair (.st (.pair .bool (.slice (.int .u32)))) (.st (.pair .bool (.slice (.int .u32))))))),(151,(.st (.pair (.st (.pair (.st (.pair .bool (.slice (.int .u32)))) (.st (.pair .bool (.slice (.int .u32)))))) (.int .i64))))],elems:= [],cons:= [(128,jo),(146,Gy)],hint:= [],N:=35,base:=B}
theorem Cd{B:ag}(hB:aB B):aG Tryz.prog (sA B):=⟨⟨tc jE (tc gq (tc ty91 (tc zA (ae)))),af,by simp only[sA,ioB];omega⟩,aD (cc Tryz.func128 (l6 hB) (cc Tryz.func146 (Jg hB) (au))),by kernel_rfl⟩
def Gz:Con:=fun l os=>match l,os with
 | [.z .str a, .z .str b, .fn 146 [.p 10000000]], [.box 84 [.val (.func (.func g) fs cs)]]=>some ((g=105/\fs.size=0/\cs.size=0)/\a.length<=QL/\b.length<=QL, [.z .str (apS a b (bg a*bg b)), .z (.int .i64) (apE a b (bg a*bg b))], [.box 84 [.val (.func (.func g) fs cs)]])
 |_,_=>none
theorem Jh{B:ag}(hB:aB B):Valid B Tryz.prog 145 Gz:=by
 refine ab (Cd hB).tab Tryz.func145 rfl rfl rfl ?_
 intro args os C rs os' hc hC
 unfold Gz at hc
 split at hc
 case h_2=>cases hc
 rename_i a b g fs cs
 cases hc
 refine v_h (Cd hB) fun X hP hT hr hG=> ?_
 have hU:=sA.eq_1
 unfold sA at hT
 have hX:=ai @Gy.eq_1<| @jo.eq_1
 simp only[Tryz.f145,aC,al,ioB]
 obtain⟨⟨rfl,e1,e2⟩,hC⟩:=hC
 obtain rfl:=Array.eq_empty_of_size_eq_zero e1
 obtain rfl:=Array.eq_empty_of_size_eq_zero e2
 refine s_g hG ?_
 refine s_g hG ?_
 refine s_q hG ?_ ?_
 ·try simp only[ba]
  exact hC
 refine ak ?_
 refine s_g hG ?_
 refine ao ?_ ?_
 ·intro hb0
  try simp only[bt] at hb0
  refine s_d hG ?_ ?_
  ·first|trivial|omega|(simp;done)|(simp;omega)
  refine av ?_
  refine aw ?_
  refine q_e [] ?_
  exact xN hb0
 ·intro hb0
  try simp only[bf] at hb0
  refine aq ?_
  refine aj ?_
  refine ak ?_
  refine s_g hG ?_
  refine ao ?_ ?_
  ·intro hb1
   try simp only[bt] at hb1
   refine s_d hG ?_ ?_
   ·first|trivial|omega|(simp;done)|(simp;omega)
   refine av ?_
   refine aw ?_
   refine q_e [] ?_
   exact xO hb0 hb1
  ·intro hb1
   try simp only[bf] at hb1
   refine aq ?_
   refine aj ?_
   refine s_q hG ?_ ?_
   ·try simp only[ba]
    exact xP hb0 hb1 hC
   refine av ?_
   refine q_e [] ?_
   simp only[pe2,gE hb0,gE hb1,aH]
   exact LA hb0 hb1
def sB(B:ag):Tab:={types:= [(46, .str),(84, .func)],elems:= [],cons:= [(145,Gz)],hint:= [5],N:=14,base:=B}
theorem Ce{B:ag}(hB:aB B):aG Tryz.prog (sB B):=⟨⟨tc gq (tc pP (ae)),af,by simp only[sB,ioB];omega⟩,aD (cc Tryz.func145 (Jh hB) (au)),by kernel_rfl⟩
def OU:Con:=fun l os=>match l,os with
 | [.z .str a, .z .str b, .val (.func (.func g) fs cs)], []=>some ((g=105/\fs.size=0/\cs.size=0)/\a.length<=QL/\b.length<=QL, [.z .str (apS a b (bg a*bg b)), .z (.int .i64) (apE a b (bg a*bg b))], [])
 |_,_=>none
theorem Ji{B:ag}(hB:aB B):Valid B Tryz.prog 104 OU:=by
 refine ab (Ce hB).tab Tryz.func104 rfl rfl rfl ?_
 intro args os C rs os' hc hC
 unfold OU at hc
 split at hc
 case h_2=>cases hc
 rename_i a b g fs cs
 cases hc
 refine v_h (Ce hB) fun X hP hT hr hG=> ?_
 have hU:=sB.eq_1
 unfold sB at hT
 have hX:= @Gz.eq_1
 simp only[Tryz.f104,aC,al,ioB]
 obtain⟨⟨rfl,e1,e2⟩,hC⟩:=hC
 obtain rfl:=Array.eq_empty_of_size_eq_zero e1
 obtain rfl:=Array.eq_empty_of_size_eq_zero e2
 refine s_g hG ?_
 refine s_q hG ?_ ?_
 ·try simp only[ba]
  exact hC
 refine av ?_
 refine q_e [] ?_
 trivial
def sC(B:ag):Tab:={types:= [(46, .str),(84, .func)],elems:= [],cons:= [(104,OU)],hint:= [],N:=11,base:=B}
theorem Cf{B:ag}(hB:aB B):aG Tryz.prog (sC B):=⟨⟨tc gq (tc pP (ae)),af,by simp only[sC,ioB];omega⟩,aD (cc Tryz.func104 (Ji hB) (au)),by kernel_rfl⟩
def OV:Con:=fun l os=>match l,os with
 | [.z .str a, .z .str b], []=>some (a.length<=QL/\b.length<=QL, [.z .str (apS a b (bg a*bg b)), .z (.int .i64) (apE a b (bg a*bg b))], [])
 |_,_=>none
theorem Jj{B:ag}(hB:aB B):Valid B Tryz.prog 51 OV:=by
 refine ab (Cf hB).tab Tryz.func51 rfl rfl rfl ?_
 intro args os C rs os' hc hC
 unfold OV at hc
 split at hc
 case h_2=>cases hc
 rename_i a b
 cases hc
 refine v_h (Cf hB) fun X hP hT hr hG=> ?_
 have hU:=sC.eq_1
 unfold sC at hT
 have hX:= @OU.eq_1
 simp only[Tryz.f51,aC,al,ioB]
 refine s_g hG ?_
 refine s_q hG ?_ ?_
 ·try simp only[ba]
  exact hC
 refine av ?_
 refine q_e [] ?_
 trivial
end Go.Proofs.YtdojbabpnaifoaaGreatDoor
end
