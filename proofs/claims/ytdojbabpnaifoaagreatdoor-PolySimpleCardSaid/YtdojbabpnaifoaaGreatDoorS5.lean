/- Merged by a program out of several texts. -/
import Derived.Test.YtdojbabpnaifoaaGreatDoorS3
import Derived.Test.YtdojbabpnaifoaaGreatDoorS2
import Derived.Test.YtdojbabpnaifoaaGreatDoorProg
import Derived.Test.YtdojbabpnaifoaaGreatDoorS4
import Derived.Deep.LoopGhost
import Derived.Lib.Walk
import Derived.Lib.SliceRun
import Derived.KernelRfl
set_option linter.all false
set_option linter.unusedSimpArgs false
set_option linter.unusedVariables false
set_option maxRecDepth 100000
section
namespace Go.Proofs.YtdojbabpnaifoaaGreatDoor
open Go Go.Cm Go.Proofs
def Gh(B:ah):Tab:={types:= [(3,(.int .i64)),(9, .str)],elems:= [],cons:= [],hint:= [],N:=18,base:=B}
theorem MB{B:ah}(hB:aC B):aJ Tryz.prog (Gh B):=⟨⟨tc ty3 (tc ty9 (ae)),af,by simp only[Gh,ioB];omega⟩,bU rfl,by kernel_rfl⟩
def qD:Con:=fun l os=>match l,os with
 | [.z .str s, .z .str p], []=>some (True, [.z .bool (dh s p)], [])
 |_,_=>none
theorem OP{B:ah}(hB:aC B):Valid B Tryz.prog 139 qD:=by
 refine ab (MB hB).tab Tryz.func139 rfl rfl rfl ?_;intro args os C rs os' hc hC;unfold qD at hc;split at hc;case h_2=>cases hc
 rename_i s p;cases hc;refine v_h (MB hB) fun X hP hT hr hG=> ?_;have hU:=Gh.eq_1;unfold Gh at hT;have hX:=Bool.not_true;simp only[Tryz.f139,aD,an,ioB];refine s_g hG ?_;refine s_q hG ?_ ?_
 ·try simp only[ba]
  (repeat' (first|apply And.intro|intro _))<;>(try simp only[decide_eq_true_eq,decide_eq_false_iff_not,Bool.not_eq_true',beq_iff_eq,Int.toNat_natCast] at*)<;>first|assumption|omega|trivial|(simp_all;done)|(simp_all;omega)
 refine az ?_;refine q_e [] ?_;exact Hp s p
def Gi(B:ah):Tab:={types:= [(9, .str)],elems:= [],cons:= [(139,qD)],hint:= [],N:=13,base:=B}
theorem MC{B:ah}(hB:aC B):aJ Tryz.prog (Gi B):=⟨⟨tc ty9 (ae),af,by simp only[Gi,ioB];omega⟩,aF (cc Tryz.func139 (OP hB) (aw)),by kernel_rfl⟩
def ff:Con:=fun l os=>match l,os with
 | [.z .str s, .z .str p], []=>some (True, [.z .str (aA s p)], [])
 |_,_=>none
theorem OQ{B:ah}(hB:aC B):Valid B Tryz.prog 186 ff:=by
 refine ab (MC hB).tab Tryz.func186 rfl rfl rfl ?_;intro args os C rs os' hc hC;unfold ff at hc;split at hc;case h_2=>cases hc
 rename_i s p;cases hc;refine v_h (MC hB) fun X hP hT hr hG=> ?_;have hU:=Gi.eq_1;unfold Gi at hT;have hX:= @qD.eq_1;simp only[Tryz.f186,aD,an,ioB];refine s_g hG ?_;refine al ?_;refine s_g hG ?_;refine ar ?_ ?_
 ·intro hb0;try simp only[bt] at hb0
  refine s_q hG ?_ ?_
  ·(try simp only[ba]);have h:=hb0;unfold dh at h;simp only[Bool.and_eq_true,decide_eq_true_eq] at h;exact⟨by omega,by omega,by omega⟩
  refine az ?_;refine aB ?_;refine q_e [] ?_;simp[aA,hb0]
 ·intro hb0;try simp only[bf] at hb0
  refine au ?_;refine aj ?_;refine s_g hG ?_;refine az ?_;refine q_e [] ?_;simp[aA,hb0]
def Gj(B:ah):Tab:={types:= [(9, .str)],elems:= [],cons:= [(186,ff)],hint:= [],N:=8,base:=B}
theorem MD{B:ah}(hB:aC B):aJ Tryz.prog (Gj B):=⟨⟨tc ty9 (ae),af,by simp only[Gj,ioB];omega⟩,aF (cc Tryz.func186 (OQ hB) (aw)),by kernel_rfl⟩
theorem Gk{B:ah}(hB:aC B):Valid B Tryz.prog 172 ff:=by
 refine ab (MD hB).tab Tryz.func172 rfl rfl rfl ?_;intro args os C rs os' hc hC;unfold ff at hc;split at hc;case h_2=>cases hc
 rename_i s p;cases hc;refine v_h (MD hB) fun X hP hT hr hG=> ?_;have hU:=Gj.eq_1;unfold Gj at hT;have hX:= @ff.eq_1;simp only[Tryz.f172,aD,an,ioB];refine s_g hG ?_;refine s_g hG ?_;refine az ?_;refine q_e [] ?_;trivial
def Gl(B:ah):Tab:={types:= [(87,(.slice (.int .u32)))],elems:= [],cons:= [],hint:= [],N:=4,base:=B}
theorem ME{B:ah}(hB:aC B):aJ Tryz.prog (Gl B):=⟨⟨tc iP (ae),af,by simp only[Gl,ioB];omega⟩,bU rfl,by kernel_rfl⟩
def w6:Con:=fun l os=>match l,os with
 | [.z (.slice (.int .u32)) xs], []=>some (True, [.fn 208 [.z (.ptr (.slice (.int .u32))) xs]], [])
 |_,_=>none
theorem Gm{B:ah}(hB:aC B):Valid B Tryz.prog 193 w6:=by
 refine ab (ME hB).tab Tryz.func193 rfl rfl rfl ?_;intro args os C rs os' hc hC;unfold w6 at hc;split at hc;case h_2=>cases hc
 rename_i xs;cases hc;refine v_h (ME hB) fun X hP hT hr hG=> ?_;have hU:=Gl.eq_1;unfold Gl at hT;have hX:=Bool.not_true;simp only[Tryz.f193,aD,an,ioB];refine s_g hG ?_;refine s_g hG ?_;refine az ?_;refine q_e [] ?_;rfl
def Gn(B:ah):Tab:={types:= [(3,(.int .i64)),(4, .bool),(87,(.slice (.int .u32))),(89,(.st (.pair .bool (.slice (.int .u32)))))],elems:= [],cons:= [(152,fe),(154,qc),(180,wZ)],hint:= [],N:=32,base:=B}
theorem MF{B:ah}(hB:aC B):aJ Tryz.prog (Gn B):=⟨⟨tc ty3 (tc ty4 (tc iP (tc gH (ae)))),af,by simp only[Gn,ioB];omega⟩,aF (cc Tryz.func152 (yL hB) (cc Tryz.func154 (yK hB) (cc Tryz.func180 (F6 hB) (aw)))),by kernel_rfl⟩
def OR:Con:=fun l os=>match l,os with
 | [.z (.st (.pair .bool (.slice (.int .u32)))) x, .z (.st (.pair .bool (.slice (.int .u32)))) y], []=>some (WOK x/\WOK y/\x.2.length+y.2.length<CAP, [.z (.int .i64) (bD (dec x) (dec y))], [])
 |_,_=>none
theorem OS{B:ah}(hB:aC B):Valid B Tryz.prog 168 OR:=by
 refine ab (MF hB).tab Tryz.func168 rfl rfl rfl ?_;intro args os C rs os' hc hC;unfold OR at hc;split at hc;case h_2=>cases hc
 rename_i x y;cases hc;refine v_h (MF hB) fun X hP hT hr hG=> ?_;have hU:=Gn.eq_1;unfold Gn at hT;have hX:=ai @wZ.eq_1<|ai @fe.eq_1<| @qc.eq_1;simp only[Tryz.f168,aD,an,ioB];refine s_g hG ?_;refine al ?_;refine s_d hG ?_ ?_
 ·try simp only[ba]
  exact⟨hC.1,hC.2.1⟩
 refine s_q hG ?_ ?_
 ·try simp only[ba]
  (repeat' (first|apply And.intro|intro _))<;>(try simp only[decide_eq_true_eq,decide_eq_false_iff_not,Bool.not_eq_true',beq_iff_eq,Int.toNat_natCast] at*)<;>first|assumption|omega|trivial|(simp_all;done)|(simp_all;omega)
 refine ar ?_ ?_
 ·intro hb0;try simp only[bt] at hb0
  refine s_g hG ?_;refine az ?_;refine aB ?_;refine q_e [] ?_;exact Hr hC.1 hb0
 ·intro hb0;try simp only[bf] at hb0
  refine au ?_;refine aj ?_;refine al ?_;refine s_g hG ?_;refine ar ?_ ?_
  ·intro hb1;(try simp only[bt] at hb1);refine s_q hG ?_ ?_
   ·(try simp only[ba]);exact⟨hC.2.1.1,hC.1.1,by omega⟩
   refine az ?_;refine aB ?_;refine q_e [] ?_;exact(tQ hC.1 hC.2.1 hb0).1 hb1
  ·intro hb1;(try simp only[bf] at hb1);refine au ?_;refine aj ?_;refine s_q hG ?_ ?_
   ·(try simp only[ba]);exact⟨hC.1.1,hC.2.1.1,by omega⟩
   refine az ?_;refine q_e [] ?_;exact(tQ hC.1 hC.2.1 hb0).2 hb1
def Gp(B:ah):Tab:={types:= [(3,(.int .i64)),(9, .str),(87,(.slice (.int .u32))),(89,(.st (.pair .bool (.slice (.int .u32))))),(161,(.int .u32))],elems:= [],cons:= [(166,vR)],hint:= [],N:=22,base:=B}
theorem MG{B:ah}(hB:aC B):aJ Tryz.prog (Gp B):=⟨⟨tc ty3 (tc ty9 (tc iP (tc gH (tc gg (ae))))),af,by simp only[Gp,ioB];omega⟩,aF (cc Tryz.func166 (E1 hB) (aw)),by kernel_rfl⟩
def qE:Con:=fun l os=>match l,os with
 | [.z (.st (.pair .bool (.slice (.int .u32)))) x], []=>some (WOK x/\x.2.length<CAP, [.z (.int .i64) (dN (dec x))], [])
 |_,_=>none
theorem OT{B:ah}(hB:aC B):Valid B Tryz.prog 169 qE:=by
 refine ab (MG hB).tab Tryz.func169 rfl rfl rfl ?_;intro args os C rs os' hc hC;unfold qE at hc;split at hc;case h_2=>cases hc
 rename_i x;cases hc;refine v_h (MG hB) fun X hP hT hr hG=> ?_;have hU:=Gp.eq_1;unfold Gp at hT;have hX:= @vR.eq_1;simp only[Tryz.f169,aD,an,ioB];refine s_g hG ?_;refine s_g hG ?_;refine al ?_;refine s_g hG ?_;refine ar ?_ ?_
 ·intro hb0;try simp only[bt] at hb0
  refine s_g hG ?_;refine az ?_;refine aB ?_;refine q_e [] ?_;rw[(fY hC.1).1.1 hb0,vU]
 ·intro hb0;try simp only[bf] at hb0
  refine au ?_;refine aj ?_;refine s_q hG ?_ ?_
  ·(try simp only[ba]);obtain⟨d1,d2,d3,d4⟩:=zT hC.1 hC.2 hb0;have d5:=zS hC.1.1.1 (by omega);have hB:LB=1000000000:=rfl;rw[d2,d3];exact⟨d1,by unfold I64;omega⟩
  refine az ?_;refine q_e [] ?_;obtain⟨d1,d2,d3,d4⟩:=zT hC.1 hC.2 hb0;rw[d2,d3];exact d4
def Gq(B:ah):Tab:={types:= [(3,(.int .i64)),(87,(.slice (.int .u32))),(89,(.st (.pair .bool (.slice (.int .u32))))),(161,(.int .u32)),(164,(.int .u64))],elems:= [(87,161)],cons:= [],hint:= [],N:=27,base:=B}
theorem MH{B:ah}(hB:aC B):aJ Tryz.prog (Gq B):=⟨⟨tc ty3 (tc iP (tc gH (tc gg (tc nH (ae))))),aT (by kernel_rfl) (af),by simp only[Gq,ioB];omega⟩,bU rfl,by kernel_rfl⟩
def ib:Con:=fun l os=>match l,os with
 | [.z (.int .i64) n], []=>some (I64 n, [.z (.st (.pair .bool (.slice (.int .u32)))) (enc n)], [])
 |_,_=>none
theorem n9{B:ah}(hB:aC B):Valid B Tryz.prog 133 ib:=by
 refine ab (MH hB).tab Tryz.func133 rfl rfl rfl ?_;intro args os C rs os' hc hC;unfold ib at hc;split at hc;case h_2=>cases hc
 rename_i n;cases hc;refine v_h (MH hB) fun X hP hT hr hG=> ?_;have hU:=Gq.eq_1;unfold Gq at hT;have hX:=Bool.not_true;simp only[Tryz.f133,aD,an,ioB];refine s_g hG ?_;refine s_g hG ?_;refine s_g hG ?_;refine cB (fun(z:Int)=>(⟨[(4, .l (.z (.int .u64) z)),(3, .l (.ownP 3 0)),(2, .l (.ownP 2 0))], [(3, .box 89 [.z .bool (decide (n<0)), .val (.slice none 0 0)]),(2, .box 89 [.z .bool false, .val (.slice none 0 0)])]⟩:aa)) (fun z=>z=n.natAbs) ?_ ?_
 ·refine s_g hG ?_;refine ar ?_ ?_
  ·(intro hb0;(try simp only[bt] at hb0);refine ag hG ?_ ?_;·first|trivial|omega|(simp;done)|(simp;omega));show ∃ z,_;refine q_l ?_;first|exact(l9 hC).1 hb0|exact(l9 hC).2 hb0
  ·intro hb0;(try simp only[bf] at hb0);refine au ?_;show ∃ z,_;refine q_l ?_;first|exact(l9 hC).1 hb0|exact(l9 hC).2 hb0
 rintro z hz;try dsimp only at hz
 refine al ?_;refine av ?_;refine bw (fun(z:Nat×List Int)=>(⟨[(4, .l (.z (.int .u64) (z.1:Int))),(3, .l (.ownP 3 0)),(2, .l (.ownP 2 0))], [(3, .box 89 [.z .bool (decide (n<0)), .ownS 24]),(24, .arr (.int .u32) 161 z.2),(2, .box 89 [.z .bool false, .val (.slice none 0 0)])]⟩:aa)) (fun z=>z.2++limbs z.1=limbs n.natAbs/\z.1<18446744073709551616) (fun z=>z.1) (n.natAbs, []) ?_ ?_ ?_;·refine q_l ?_;exact⟨hz,by unfold ioB;omega⟩
 ·exact⟨by simp,by have hC:I64 n:=hC;unfold I64 at hC;omega⟩
 ·rintro⟨u,m⟩ ⟨g1,g2⟩;try dsimp only at g1 g2
  refine al ?_;refine s_g hG ?_;refine ar ?_ ?_
  ·intro hb1;(try simp only[bt] at hb1);refine au ?_;refine aj ?_;refine al ?_;refine av ?_;refine ag hG ?_ ?_
   ·(try simp only[ba]);have h3:=mY (n:=n.natAbs) (by have hC:I64 n:=hC;unfold I64 at hC;omega);have h4:=congrArg List.length g1;simp only[List.length_append] at h4;exact⟨by omega,by unfold Cm.Roomy;omega⟩
   (refine aN ?_;refine aj ?_;refine ag hG ?_ ?_;·first|trivial|omega|(simp;done)|(simp;omega));show ∃ z,_;refine q_l ?_;exact pP g1 g2 hb1
  ·intro hb1;(try simp only[bf] at hb1);refine bj ?_;refine aG ?_;refine ay ?_;refine ax ?_;refine aj ?_;refine s_g hG ?_;refine az ?_;refine q_e [24] ?_;(have h0:u=0:=by omega);subst h0;rw[show limbs 0= [] by simp[limbs],List.append_nil] at g1;rw[g1];rfl
def yP(B:ah):Tab:={types:= [(4, .bool),(9, .str),(181,(.slice (.int .i64)))],elems:= [],cons:= [(156,ia),(157,c7),(158,fm)],hint:= [],N:=9,base:=B}
theorem Gr{B:ah}(hB:aC B):aJ Tryz.prog (yP B):=⟨⟨tc ty4 (tc ty9 (tc jT (ae))),af,by simp only[yP,ioB];omega⟩,aF (cc Tryz.func156 (lM hB) (cc Tryz.func157 (lL hB) (cc Tryz.func158 (lN hB) (aw)))),by kernel_rfl⟩
def w7:Con:=fun l os=>match l,os with
 | [.z .str s], []=>some (RF s/\4*s.length<CAP, [.z .str (Lib.itoa (-ao s))], [])
 |_,_=>none
theorem Bk{B:ah}(hB:aC B):Valid B Tryz.prog 163 w7:=by
 refine ab (Gr hB).tab Tryz.func163 rfl rfl rfl ?_;intro args os C rs os' hc hC;unfold w7 at hc;split at hc;case h_2=>cases hc
 rename_i s;cases hc;refine v_h (Gr hB) fun X hP hT hr hG=> ?_;have hU:=yP.eq_1;unfold yP at hT;have hX:=ai @c7.eq_1<|ai @ia.eq_1<| @fm.eq_1;simp only[Tryz.f163,aD,an,ioB];refine s_g hG ?_;refine s_q hG ?_ ?_
 ·try simp only[ba]
  have h1:=Ah hC.1;have h2:=hC.2;exact⟨hC.1,⟨hC.1,by omega⟩,D.limbs_can _,by omega⟩
 refine az ?_;refine q_e [] ?_;exact NC _
def yQ(B:ah):Tab:={types:= [(9, .str)],elems:= [],cons:= [(157,c7)],hint:= [],N:=7,base:=B}
theorem Gs{B:ah}(hB:aC B):aJ Tryz.prog (yQ B):=⟨⟨tc ty9 (ae),af,by simp only[yQ,ioB];omega⟩,aF (cc Tryz.func157 (lL hB) (aw)),by kernel_rfl⟩
def yR:Con:=fun l os=>match l,os with
 | [.z .str s], []=>some (RF s, [.z (.int .i64) (bD (ao s) 0)], [])
 |_,_=>none
theorem MI{B:ah}(hB:aC B):Valid B Tryz.prog 162 yR:=by
 refine ab (Gs hB).tab Tryz.func162 rfl rfl rfl ?_;intro args os C rs os' hc hC;unfold yR at hc;split at hc;case h_2=>cases hc
 rename_i s;cases hc;refine v_h (Gs hB) fun X hP hT hr hG=> ?_;have hU:=yQ.eq_1;unfold yQ at hT;have hX:= @c7.eq_1;simp only[Tryz.f162,aD,an,ioB];refine s_g hG ?_;refine al ?_;refine s_g hG ?_;refine ar ?_ ?_
 ·intro hb0;try simp only[bt] at hb0
  refine s_g hG ?_;refine az ?_;refine aB ?_;refine q_e [] ?_;exact(ua hC).1 hb0
 ·intro hb0;try simp only[bf] at hb0
  refine au ?_;refine aj ?_;refine al ?_;refine s_q hG ?_ ?_
  ·(try simp only[ba]);exact hC
  refine ar ?_ ?_;·intro hb1;(try simp only[bt] at hb1);refine s_g hG ?_;refine az ?_;refine aB ?_;refine q_e [] ?_;exact(ua hC).2.1 hb0 hb1
  ·intro hb1;(try simp only[bf] at hb1);refine au ?_;refine aj ?_;refine s_g hG ?_;refine az ?_;refine q_e [] ?_;exact(ua hC).2.2 hb0 hb1
def yS(B:ah):Tab:={types:= [(3,(.int .i64)),(9, .str)],elems:= [],cons:= [(182,FY)],hint:= [],N:=31,base:=B}
theorem Gt{B:ah}(hB:aC B):aJ Tryz.prog (yS B):=⟨⟨tc ty3 (tc ty9 (ae)),af,by simp only[yS,ioB];omega⟩,aF (cc Tryz.func182 (Mn hB) (aw)),by kernel_rfl⟩
def fg:Con:=fun l os=>match l,os with
 | [.z .str a, .z .str b], []=>some (RF a/\RF b/\a.length<CAP/\b.length<CAP, [.z (.int .i64) (if a.length<=9/\b.length<=9 then ao a else 0), .z (.int .i64) (if a.length<=9/\b.length<=9 then ao b else 0), .z .bool (decide (a.length<=9/\b.length<=9))], [])
 |_,_=>none
theorem oa{B:ah}(hB:aC B):Valid B Tryz.prog 155 fg:=by
 refine ab (Gt hB).tab Tryz.func155 rfl rfl rfl ?_;intro args os C rs os' hc hC;unfold fg at hc;split at hc;case h_2=>cases hc
 rename_i a b;cases hc;refine v_h (Gt hB) fun X hP hT hr hG=> ?_;have hU:=yS.eq_1;unfold yS at hT;have hX:= @FY.eq_1;simp only[Tryz.f155,aD,an,ioB];refine s_g hG ?_;refine al ?_;refine s_q hG ?_ ?_
 ·try simp only[ba]
  (repeat' (first|apply And.intro|intro _))<;>(try simp only[decide_eq_true_eq,decide_eq_false_iff_not,Bool.not_eq_true',beq_iff_eq,Int.toNat_natCast] at*)<;>first|assumption|omega|trivial|(simp_all;done)|(simp_all;omega)
 refine ar ?_ ?_
 ·intro hb0;simp only[Bool.or_eq_true,decide_eq_true_eq] at hb0;have hl: ¬ (List.length a<=9/\List.length b<=9):=by omega
  refine s_g hG ?_;refine az ?_;refine aB ?_;refine q_e [] ?_;rw[if_neg hl,if_neg hl,decide_eq_false hl];exact⟨rfl,rfl,rfl⟩
 ·intro hb0;simp only[Bool.or_eq_false_iff,decide_eq_false_iff_not] at hb0;have hl:List.length a<=9/\List.length b<=9:=by omega
  refine au ?_;refine aj ?_;refine s_q hG ?_ ?_
  ·(try simp only[ba]);exact⟨Ai hC.1 hl.1,hl.1⟩
  refine s_q hG ?_ ?_
  ·(try simp only[ba]);exact⟨Ai hC.2.1 hl.2,hl.2⟩
  refine s_g hG ?_;refine az ?_;refine q_e [] ?_;rw[if_pos hl,if_pos hl,decide_eq_true hl];exact⟨rfl,rfl,rfl⟩
def yT(B:ah):Tab:={types:= [(3,(.int .i64))],elems:= [],cons:= [(166,vR)],hint:= [],N:=5,base:=B}
theorem Gu{B:ah}(hB:aC B):aJ Tryz.prog (yT B):=⟨⟨tc ty3 (ae),af,by simp only[yT,ioB];omega⟩,aF (cc Tryz.func166 (E1 hB) (aw)),by kernel_rfl⟩
def ql:Con:=fun l os=>match l,os with
 | [.z (.int .i64) n], []=>some (I64 n, [.z .str (Lib.itoa n)], [])
 |_,_=>none
theorem lO{B:ah}(hB:aC B):Valid B Tryz.prog 126 ql:=by
 refine ab (Gu hB).tab Tryz.func126 rfl rfl rfl ?_;intro args os C rs os' hc hC;unfold ql at hc;split at hc;case h_2=>cases hc
 rename_i n;cases hc;refine v_h (Gu hB) fun X hP hT hr hG=> ?_;have hU:=yT.eq_1;unfold yT at hT;have hX:= @vR.eq_1;simp only[Tryz.f126,aD,an,ioB];refine s_g hG ?_;refine s_q hG ?_ ?_
 ·try simp only[ba]
  exact hC
 refine az ?_;refine q_e [] ?_;trivial
def u9(B:ah):Tab:={types:= [(3,(.int .i64)),(181,(.slice (.int .i64)))],elems:= [(181,3)],cons:= [(160,iI),(161,mm),(164,mn),(183,mN)],hint:= [23,31,50],N:=125,base:=B}
theorem Gv{B:ah}(hB:aC B):aJ Tryz.prog (u9 B):=⟨⟨tc ty3 (tc jT (ae)),aT (by kernel_rfl) (af),by simp only[u9,ioB];omega⟩,aF (cc Tryz.func160 (Be hB) (cc Tryz.func161 (Bf hB) (cc Tryz.func164 (Bg hB) (cc Tryz.func183 (nZ hB) (aw))))),by kernel_rfl⟩
def jX:Con:=fun l os=>match l,os with
 | [.z (.slice (.int .i64)) a, .z (.slice (.int .i64)) b], []=>some (D.Cano a/\D.Cano b/\b≠ []/\a.length+b.length+2<CAP, [.z (.slice (.int .i64)) (D.limbs (D.valL a/D.valL b).toNat), .z (.slice (.int .i64)) (D.limbs (D.valL a%D.valL b).toNat)], [])
 |_,_=>none
set_option maxHeartbeats 1000000 in
theorem Bl{B:ah}(hB:aC B):Valid B Tryz.prog 165 jX:=by
 refine ab (Gv hB).tab Tryz.func165 rfl rfl rfl ?_;intro args os C rs os' hc hC;unfold jX at hc;split at hc;case h_2=>cases hc
 rename_i a b;cases hc;refine v_h (Gv hB) fun X hP hT hr hG=> ?_;have hU:=u9.eq_1;unfold u9 at hT;have hX:=ai @iI.eq_1<|ai @mN.eq_1<|ai @mm.eq_1<| @mn.eq_1;simp only[Tryz.f165,aD,an,ioB];refine s_g hG ?_;refine cB (fun(z:Nat)=>(⟨[(0, .l (.z (.slice (.int .i64)) a)),(1, .l (.z (.slice (.int .i64)) b)),(6, .l (.z (.int .i64) (z:Int)))], []⟩:aa)) (fun z=>b.length=z+1) ?_ ?_
 ·refine ag hG ?_ ?_;·first|trivial|omega|(simp;done)|(simp;omega)
  show ∃ z,_;refine q_l ?_;exact D.len_pred hC.2.2.1 hC.2.2.2
 rintro n hn;try dsimp only at hn
 obtain⟨c1,c2,c3,c4⟩:=hC;have c4:List.length a+List.length b+2<1000000000000:=c4;have hp:=(D.valL_pos c2).2 c3;have hwn:IntKind.i64.wrap ((n:Int)-1)=(n:Int)-1:=wi (by omega) (by omega);refine al ?_;refine s_g hG ?_;refine ar ?_ ?_
 ·intro hb0;try simp only[decide_eq_true_eq] at hb0
  refine s_q hG ?_ ?_
  ·(try simp only[ba]);unfold Cm.Roomy;omega
  refine az ?_;refine aB ?_;refine q_e [23] ?_;exact D.div_small c1 c2 c3 hn (by omega)
 ·intro hb0;simp only[decide_eq_false_iff_not] at hb0;have hwl:IntKind.i64.wrap ((List.length a:Int)-(n:Int))=((List.length a-n:Nat):Int):=by rw[wi (by omega) (by omega)];omega
  refine au ?_;refine aj ?_;refine s_q hG ?_ ?_
  ·(try simp only[ba]);rw[hwl];exact⟨by omega,by omega,by unfold Cm.Roomy;omega⟩
  refine s_q hG ?_ ?_
  ·(try simp only[ba]);rw[hwl,Int.toNat_natCast,Int.toNat_natCast,List.take_length,List.length_drop];exact⟨⟨by omega,by omega,Int.le_refl _⟩,by unfold Cm.Roomy;omega⟩
  refine al ?_;refine s_g hG ?_;refine av ?_;refine J9 [31] (by simp only[hT,u9,mr0,mr1,mr2,j7,Nat.reduceLT,Nat.reduceEqDiff,Nat.reduceAdd,Nat.reduceMul,Nat.reduceSub,Nat.reduceLeDiff,Nat.reduceBEq,Nat.reduceBNe,reduceIte,reduceDIte,reduceCtorEq];rfl) ?_;refine bw (fun(z:Nat×List Int×List Int)=>(⟨[(0, .l (.z (.slice (.int .i64)) a)),(1, .l (.z (.slice (.int .i64)) b)),(6, .l (.z (.int .i64) (n:Int))),(7, .l (.ownS 30)),(8, .l (.z (.slice (.int .i64)) z.2.2)),(9, .l (.z (.int .i64) ((z.1:Int)-1)))], [(30, .arr (.int .i64) 3 z.2.1)]⟩:aa)) (fun z=>D.DivPhi a b z.1 z.2.1 z.2.2) (fun z=>z.1) (List.length a-n,List.replicate (List.length a-n) 0,List.drop (List.length a-n) a) ?_ ?_ ?_;·refine q_l ?_;rw[hwl,Int.toNat_natCast,Int.toNat_natCast,List.take_length,List.length_replicate];exact⟨rfl,wi (by omega) (by omega),rfl⟩
  ·exact D.div_start c1 c2 c3 hn (by omega)
  ·rintro⟨k,q,rest⟩ hz;(try dsimp only at hz);have hz1:=hz.hk;have hz2:=hz.hq;refine al ?_;refine s_g hG ?_;refine ar ?_ ?_
   ·intro hb1;(try simp only[decide_eq_true_eq] at hb1);obtain⟨i,rfl⟩:∃ i,k=i+1:=⟨k-1,by omega⟩;(have ei:((i+1:Nat):Int)-1=(i:Int):=by omega);rw[ei];have hrsl:=D.rest_len c2 c3 hz.hr;refine au ?_;refine aj ?_;refine al ?_;refine av ?_;refine cB (fun(z:Unit)=>(⟨[(0, .l (.z (.slice (.int .i64)) a)),(1, .l (.z (.slice (.int .i64)) b)),(6, .l (.z (.int .i64) (n:Int))),(7, .l (.ownS 30)),(8, .l (.z (.slice (.int .i64)) (D.limbs (D.R1 a b i).toNat))),(9, .l (.z (.int .i64) (i:Int)))], [(30, .arr (.int .i64) 3 q)]⟩:aa)) (fun z=>True) ?_ ?_
    ·refine ag hG ?_ ?_
     ·(try simp only[ba]);exact⟨⟨by omega,by omega⟩,by unfold Cm.Roomy;omega,(D.cons_limbs c1.1 hp hz.hr).1,by unfold CAP;omega⟩
     show ∃ z,_;refine q_l ?_;rw[D.nth64,(D.cons_limbs c1.1 hp hz.hr).2]
    (rintro⟨⟩ hu;(try dsimp only at hu);have hrl:=D.r1_len (i:=i) c1.1 c2 c3 hn;have hrf:=D.r1_facts (i:=i) c1.1 hp;have hrc:=D.limbs_can (D.R1 a b i).toNat;have hdn:=D.div_next (d:=(D.R1 a b i/D.valL b)) c1.1 c2 c3 hz rfl;refine s_g hG ?_;refine al ?_;refine s_g hG ?_;refine av ?_;refine bw (fun(z:Nat×Int×Int)=>(⟨[(0, .l (.z (.slice (.int .i64)) a)),(1, .l (.z (.slice (.int .i64)) b)),(6, .l (.z (.int .i64) (n:Int))),(7, .l (.ownS 30)),(8, .l (.z (.slice (.int .i64)) (D.limbs (D.R1 a b i).toNat))),(9, .l (.z (.int .i64) (i:Int))),(10, .l (.z (.int .i64) z.2.1)),(11, .l (.z (.int .i64) z.2.2)),(12, .l (.z (.int .i64) ((z.1:Int)-1)))], [(30, .arr (.int .i64) 3 q)]⟩:aa)) (fun z=>D.TopPhi (D.limbs (D.R1 a b i).toNat) b n z.1 z.2.1 z.2.2) (fun z=>z.1) (n+2,0,0) ?_ ?_ ?_;·refine q_l ?_;rw[wi (by omega) (by omega)];show (n:Int)+1=((n+2:Nat):Int)-1;omega);·exact D.top_start hrl hn
    ·rintro⟨j,top,first⟩ hj;(try dsimp only at hj);have hj1:=hj.hj;refine al ?_;refine s_g hG ?_;refine ar ?_ ?_
     ·intro hb2;simp only[decide_eq_true_eq] at hb2;rw[hwn] at hb2;obtain⟨j,rfl⟩:∃ j2,j=j2+1:=⟨j-1,by omega⟩;(have ej:((j+1:Nat):Int)-1=(j:Int):=by omega);rw[ej];have htv:=D.top_vals hrc.1 hrl c2.1 hn hj (by omega);refine au ?_;refine aj ?_;refine al ?_;refine av ?_;refine s_g hG ?_;refine cB (fun(z:Unit)=>(⟨[(0, .l (.z (.slice (.int .i64)) a)),(1, .l (.z (.slice (.int .i64)) b)),(6, .l (.z (.int .i64) (n:Int))),(7, .l (.ownS 30)),(8, .l (.z (.slice (.int .i64)) (D.limbs (D.R1 a b i).toNat))),(9, .l (.z (.int .i64) (i:Int))),(10, .l (.z (.int .i64) top)),(11, .l (.z (.int .i64) (D.valL (List.drop j (D.limbs (D.R1 a b i).toNat))))),(12, .l (.z (.int .i64) (j:Int)))], [(30, .arr (.int .i64) 3 q)]⟩:aa)) (fun z=>True) ?_ ?_
      ·refine s_g hG ?_;refine ar ?_ ?_
       ·intro hb3;(try simp only[bt] at hb3);refine ag hG ?_ ?_
        ·(try simp only[ba]);exact⟨by omega,hb3⟩
        show ∃ z,_;refine q_l ?_;first|(rw[D.nth64,htv.1,htv.2.1];exact htv.2.2.2.2.1)|(rw[htv.1];have h9:=htv.2.2.2.2.1;rw[D.getD_none (by omega),Int.add_zero] at h9;exact h9)
       ·intro hb3;(try simp only[bf] at hb3);refine au ?_;show ∃ z,_;refine q_l ?_;first|(rw[D.nth64,htv.1,htv.2.1];exact htv.2.2.2.2.1)|(rw[htv.1];have h9:=htv.2.2.2.2.1;rw[D.getD_none (by omega),Int.add_zero] at h9;exact h9)
      rintro⟨⟩ hu2;(try dsimp only at hu2);refine s_g hG ?_;refine ar ?_ ?_
      ·intro hb4;(try simp only[bt] at hb4);refine ag hG ?_ ?_
       ·(try simp only[ba]);exact⟨by omega,by omega⟩
       (refine aN ?_;refine aj ?_;refine ag hG ?_ ?_;·first|trivial|omega|(simp;done)|(simp;omega));show ∃ z,_;refine q_l ?_;first|exact⟨j,wi (by omega) (by omega),⟨by omega,by rw[D.nth64,htv.2.2.1,htv.2.2.2.1];exact htv.2.2.2.2.2.1 (by omega),rfl⟩,by omega⟩|exact⟨j,wi (by omega) (by omega),⟨by omega,htv.2.2.2.2.2.2 (by omega),rfl⟩,by omega⟩
      ·(intro hb4;(try simp only[bf] at hb4);refine au ?_;refine aN ?_;refine aj ?_;refine ag hG ?_ ?_;·first|trivial|omega|(simp;done)|(simp;omega));show ∃ z,_;refine q_l ?_;first|exact⟨j,wi (by omega) (by omega),⟨by omega,by rw[D.nth64,htv.2.2.1,htv.2.2.2.1];exact htv.2.2.2.2.2.1 (by omega),rfl⟩,by omega⟩|exact⟨j,wi (by omega) (by omega),⟨by omega,htv.2.2.2.2.2.2 (by omega),rfl⟩,by omega⟩
     ·intro hb2;simp only[decide_eq_false_iff_not] at hb2;rw[hwn] at hb2;(obtain rfl:j=n-1:=by omega);obtain⟨hs1,hs2,hs3,hs4,hs5⟩:=D.half_start c1.1 c2 c3 hn hj.ht hj.hf;have hqf:=D.quo_facts hs1 hs2 hs3 hs4;refine bj ?_;refine aG ?_;refine ay ?_;refine ax ?_;refine aj ?_;refine cB (fun(z:Unit)=>(⟨[(0, .l (.z (.slice (.int .i64)) a)),(1, .l (.z (.slice (.int .i64)) b)),(6, .l (.z (.int .i64) (n:Int))),(7, .l (.ownS 30)),(8, .l (.z (.slice (.int .i64)) (D.limbs (D.R1 a b i).toNat))),(9, .l (.z (.int .i64) (i:Int))),(13, .l (.z (.int .i64) (first/(top+1)))),(14, .l (.z (.int .i64) (first/top)))], [(30, .arr (.int .i64) 3 q)]⟩:aa)) (fun z=>True) ?_ ?_
      ·refine gZ hG ?_ ?_
       ·(try simp only[ba]);rw[hqf.1];exact⟨hqf.2.1,hqf.2.2.1⟩
       show ∃ z,_;refine q_l ?_;rw[hqf.1];exact⟨hqf.2.2.2.1,hqf.2.2.2.2⟩
      (rintro⟨⟩ hu3;(try dsimp only at hu3);refine al ?_;refine av ?_;refine bw (fun(z:Int×Int)=>(⟨[(0, .l (.z (.slice (.int .i64)) a)),(1, .l (.z (.slice (.int .i64)) b)),(6, .l (.z (.int .i64) (n:Int))),(7, .l (.ownS 30)),(8, .l (.z (.slice (.int .i64)) (D.limbs (D.R1 a b i).toNat))),(9, .l (.z (.int .i64) (i:Int))),(13, .l (.z (.int .i64) z.1)),(14, .l (.z (.int .i64) z.2))], [(30, .arr (.int .i64) 3 q)]⟩:aa)) (fun z=>D.HalfPhi (D.R1 a b i/D.valL b) z.1 z.2) (fun z=>(z.2-z.1).toNat) (first/(top+1),first/top) ?_ ?_ ?_;·simp only[ml0,ml1,Nat.reduceLT,Nat.reduceEqDiff,Nat.reduceAdd,Nat.reduceMul,Nat.reduceSub,Nat.reduceLeDiff,Nat.reduceBEq,Nat.reduceBNe,reduceIte,reduceDIte,reduceCtorEq]);·exact hs5
      ·rintro⟨low,high⟩ hh;(try dsimp only at hh);refine al ?_;refine s_g hG ?_;refine ar ?_ ?_
       ·intro hb5;(try simp only[decide_eq_true_eq] at hb5);have hhm:=D.half_mid hh hb5;refine au ?_;refine aj ?_;refine av ?_;refine cB (fun(z:Int)=>(⟨[(0, .l (.z (.slice (.int .i64)) a)),(1, .l (.z (.slice (.int .i64)) b)),(6, .l (.z (.int .i64) (n:Int))),(7, .l (.ownS 30)),(8, .l (.z (.slice (.int .i64)) (D.limbs (D.R1 a b i).toNat))),(9, .l (.z (.int .i64) (i:Int))),(13, .l (.z (.int .i64) low)),(14, .l (.z (.int .i64) high)),(15, .l (.z (.int .i64) z))], [(30, .arr (.int .i64) 3 q)]⟩:aa)) (fun z=>z=(low+high+1)/2) ?_ ?_
        ·refine ag hG ?_ ?_
         ·(try simp only[ba]);decide
         show ∃ z,_;refine q_l ?_;exact hhm.1
        rintro mid hmid;(try dsimp only at hmid);(have hmm:low<mid/\mid<=high:=by rw[hmid];exact⟨hhm.2.1,hhm.2.2.1⟩);have hm0:0<=mid:=Int.le_trans hh.h0 (Int.le_of_lt hmm.1);have hmB:mid<=D.LB:=Int.le_trans hmm.2 hh.h3;have hht:=D.half_test (v:=D.R1 a b i) (mid:=mid) c2.1 hp hrf.1 hm0;have hol:=D.one_len c2.1 hm0 hmB;refine s_q hG ?_ ?_
        ·(try simp only[ba]);exact⟨⟨c2.1,D.wid_one hm0 hmB,by unfold CAP;omega⟩,D.limbs_can _,hrc,by unfold CAP;omega,by unfold CAP;omega⟩
        refine ar ?_ ?_
        ·(intro hb6;(try simp only[bt] at hb6);refine ag hG ?_ ?_;·first|trivial|omega|(simp;done)|(simp;omega));refine aN ?_;show ∃ z,_;refine q_l ?_;first|exact D.half_up hh hmm (hht.1 hb6)|(rw[show IntKind.i64.wrap (mid-1)=mid-1 by rw[hmid];exact hhm.2.2.2];exact D.half_down hh hmm (fun h=>hb6 (hht.2 h)))
        ·(intro hb6;(try simp only[bf] at hb6);refine ag hG ?_ ?_;·first|trivial|omega|(simp;done)|(simp;omega));refine aN ?_;show ∃ z,_;refine q_l ?_;first|exact D.half_up hh hmm (hht.1 hb6)|(rw[show IntKind.i64.wrap (mid-1)=mid-1 by rw[hmid];exact hhm.2.2.2];exact D.half_down hh hmm (fun h=>hb6 (hht.2 h)))
       ·intro hb5;simp only[decide_eq_false_iff_not] at hb5;have hle:=D.half_end hh hb5;subst hle;have hol:=D.one_len c2.1 hdn.1 (Int.le_of_lt hdn.2.1);have hrm:=D.rest_minus (i:=i) c1.1 c2 c3;refine bj ?_;refine aG ?_;refine ay ?_;refine ax ?_;refine aj ?_;refine s_q hG ?_ ?_
        ·(try simp only[ba]);exact⟨⟨by omega,by omega⟩,by omega⟩
        refine s_g hG ?_;refine ar ?_ ?_
        ·intro hb7;(try simp only[bt] at hb7);refine ag hG ?_ ?_
         ·(try simp only[ba]);exact⟨⟨c2.1,D.wid_one hdn.1 (Int.le_of_lt hdn.2.1),by unfold CAP;omega⟩,hrc,D.limbs_can _,hrm.1,by unfold CAP;omega⟩
         (refine aN ?_;refine aj ?_;refine ag hG ?_ ?_;·first|trivial|omega|(simp;done)|(simp;omega));show ∃ z,_;refine q_l ?_;have hdx:=hdn.2.2;first|(rw[<- hrm.2] at hdx;exact⟨i,wi (by omega) (by omega),by rw[Int.toNat_natCast];exact hdx,by omega⟩)|(rw[<- D.rest_zero c1.1 c2 c3 hb7] at hdx;exact⟨i,wi (by omega) (by omega),by rw[Int.toNat_natCast];exact hdx,by omega⟩)
        ·(intro hb7;(try simp only[bf] at hb7);refine au ?_;refine aN ?_;refine aj ?_;refine ag hG ?_ ?_;·first|trivial|omega|(simp;done)|(simp;omega));show ∃ z,_;refine q_l ?_;have hdx:=hdn.2.2;first|(rw[<- hrm.2] at hdx;exact⟨i,wi (by omega) (by omega),by rw[Int.toNat_natCast];exact hdx,by omega⟩)|(rw[<- D.rest_zero c1.1 c2 c3 hb7] at hdx;exact⟨i,wi (by omega) (by omega),by rw[Int.toNat_natCast];exact hdx,by omega⟩)
   ·intro hb1;simp only[decide_eq_false_iff_not] at hb1;(obtain rfl:k=0:=by omega);have hde:=D.div_end hz;refine bj ?_;refine aG ?_;refine ay ?_;refine ax ?_;refine aj ?_;refine s_q hG ?_ ?_
    ·(try simp only[ba]);exact⟨hz.hl,by unfold CAP;omega⟩
    refine az ?_;refine q_e [23] ?_;exact hde
def yU(B:ah):Tab:={types:= [(3,(.int .i64)),(4, .bool),(9, .str),(181,(.slice (.int .i64)))],elems:= [],cons:= [(126,ql),(155,fg),(156,ia),(157,c7),(158,fm),(159,yD),(160,iI),(161,mm)],hint:= [],N:=53,base:=B}
theorem Gw{B:ah}(hB:aC B):aJ Tryz.prog (yU B):=⟨⟨tc ty3 (tc ty4 (tc ty9 (tc jT (ae)))),af,by simp only[yU,ioB];omega⟩,aF (cc Tryz.func126 (lO hB) (cc Tryz.func155 (oa hB) (cc Tryz.func156 (lM hB) (cc Tryz.func157 (lL hB) (cc Tryz.func158 (lN hB) (cc Tryz.func159 (Ml hB) (cc Tryz.func160 (Be hB) (cc Tryz.func161 (Bf hB) (aw))))))))),by kernel_rfl⟩
def w8:Con:=fun l os=>match l,os with
 | [.z .str a, .z .str b], []=>some (RS 20000000000 a/\RS 20000000000 b, [.z .str (Lib.itoa (ao a+ao b))], [])
 |_,_=>none
theorem Bm{B:ah}(hB:aC B):Valid B Tryz.prog 115 w8:=by
 refine ab (Gw hB).tab Tryz.func115 rfl rfl rfl ?_;intro args os C rs os' hc hC;unfold w8 at hc;split at hc;case h_2=>cases hc
 rename_i a b;cases hc;refine v_h (Gw hB) fun X hP hT hr hG=> ?_;have hU:=yU.eq_1;unfold yU at hT;have hX:=ai @iI.eq_1<|ai @fg.eq_1<|ai @mm.eq_1<|ai @c7.eq_1<|ai @ql.eq_1<|ai @yD.eq_1<|ai @ia.eq_1<| @fm.eq_1;simp only[Tryz.f115,aD,an,ioB];refine s_g hG ?_;refine al ?_;refine s_q hG ?_ ?_
 ·try simp only[ba]
  exact⟨hC.1.1,hC.2.1,(hC.1.cap (by omega)).2,(hC.2.cap (by omega)).2⟩
 refine s_g hG ?_;refine ar ?_ ?_
 ·intro hb0;simp only[decide_eq_true_eq] at hb0;have hsm:=ud hC.1.1 hC.2.1 hb0;rw[if_pos hb0,if_pos hb0];refine s_q hG ?_ ?_
  ·(try simp only[ba]);rw[hsm.1];exact hsm.2.1
  refine az ?_;refine aB ?_;refine q_e [] ?_;rw[hsm.1]
 ·intro hb0;have ha:=hC.1.cap (by omega);have hb:=hC.2.cap (by omega);have la:=ef hC.1;have lb:=ef hC.2;have hle:=Fj hC.1 hC.2;have hcap:CAP=1000000000000:=rfl;refine au ?_;refine aj ?_;refine s_q hG ?_ ?_
  ·(try simp only[ba]);exact⟨ha,hb⟩
  refine al ?_;refine s_q hG ?_ ?_
  ·(try simp only[ba]);exact⟨ha.1,hb.1⟩
  refine ar ?_ ?_
  ·intro hb1;(try simp only[bt] at hb1);refine s_q hG ?_ ?_
   ·(try simp only[ba]);exact⟨ha.1,⟨la.1,lb.1,by omega,by omega⟩,D.limbs_can _,hle.1⟩
   refine az ?_;refine aB ?_;refine q_e [] ?_;exact HI hb1
  ·intro hb1;(try simp only[bf] at hb1);refine au ?_;refine aj ?_;refine al ?_;refine s_q hG ?_ ?_
   ·(try simp only[ba]);exact⟨la.1,lb.1,by omega,by omega⟩
   refine ar ?_ ?_
   ·intro hb2;(try simp only[bt] at hb2);refine s_q hG ?_ ?_
    ·(try simp only[ba]);have hge:=Fk hb1 hb2;exact⟨ha.1,⟨la.1,lb.1,hge.1,by omega⟩,D.limbs_can _,hle.2.1⟩
    refine az ?_;refine aB ?_;refine q_e [] ?_;exact(Fk hb1 hb2).2
   ·intro hb2;(try simp only[bf] at hb2);refine au ?_;refine aj ?_;refine s_q hG ?_ ?_
    ·(try simp only[ba]);have hlt:=Fl hb1 hb2;exact⟨hb.1,⟨lb.1,la.1,hlt.1,by omega⟩,D.limbs_can _,hle.2.2.1⟩
    refine az ?_;refine q_e [] ?_;exact(Fl hb1 hb2).2
def yV(B:ah):Tab:={types:= [(9, .str)],elems:= [],cons:= [(115,w8),(163,w7)],hint:= [],N:=9,base:=B}
theorem Gx{B:ah}(hB:aC B):aJ Tryz.prog (yV B):=⟨⟨tc ty9 (ae),af,by simp only[yV,ioB];omega⟩,aF (cc Tryz.func115 (Bm hB) (cc Tryz.func163 (Bk hB) (aw))),by kernel_rfl⟩
def Gy:Con:=fun l os=>match l,os with
 | [.z .str a, .z .str b], []=>some (RS 10000000000 a/\RS 10000000000 b, [.z .str (Lib.itoa (ao a-ao b))], [])
 |_,_=>none
theorem MJ{B:ah}(hB:aC B):Valid B Tryz.prog 123 Gy:=by
 refine ab (Gx hB).tab Tryz.func123 rfl rfl rfl ?_;intro args os C rs os' hc hC;unfold Gy at hc;split at hc;case h_2=>cases hc
 rename_i a b;cases hc;refine v_h (Gx hB) fun X hP hT hr hG=> ?_;have hU:=yV.eq_1;unfold yV at hT;have hX:=ai @w8.eq_1<| @w7.eq_1;simp only[Tryz.f123,aD,an,ioB];refine s_g hG ?_;refine s_q hG ?_ ?_
 ·try simp only[ba]
  have h2:=hC.2.2;exact⟨⟨hC.2.1,by have hcap:CAP=1000000000000:=rfl;omega⟩,hC.1.up (by omega),(Py hC.2).1.up (by omega)⟩
 refine az ?_;refine q_e [] ?_;exact NF
def yW(B:ah):Tab:={types:= [(3,(.int .i64)),(4, .bool),(9, .str),(181,(.slice (.int .i64)))],elems:= [],cons:= [(126,ql),(155,fg),(156,ia),(157,c7),(158,fm),(164,mn)],hint:= [],N:=31,base:=B}
theorem Gz{B:ah}(hB:aC B):aJ Tryz.prog (yW B):=⟨⟨tc ty3 (tc ty4 (tc ty9 (tc jT (ae)))),af,by simp only[yW,ioB];omega⟩,aF (cc Tryz.func126 (lO hB) (cc Tryz.func155 (oa hB) (cc Tryz.func156 (lM hB) (cc Tryz.func157 (lL hB) (cc Tryz.func158 (lN hB) (cc Tryz.func164 (Bg hB) (aw))))))),by kernel_rfl⟩
def qd:Con:=fun l os=>match l,os with
 | [.z .str a, .z .str b], []=>some (RS 20000000000 a/\RS 20000000000 b, [.z .str (Lib.itoa (ao a*ao b))], [])
 |_,_=>none
theorem vc{B:ah}(hB:aC B):Valid B Tryz.prog 117 qd:=by
 refine ab (Gz hB).tab Tryz.func117 rfl rfl rfl ?_;intro args os C rs os' hc hC;unfold qd at hc;split at hc;case h_2=>cases hc
 rename_i a b;cases hc;refine v_h (Gz hB) fun X hP hT hr hG=> ?_;have hU:=yW.eq_1;unfold yW at hT;have hX:=ai @fg.eq_1<|ai @c7.eq_1<|ai @ql.eq_1<|ai @ia.eq_1<|ai @mn.eq_1<| @fm.eq_1;simp only[Tryz.f117,aD,an,ioB];refine s_g hG ?_;refine al ?_;refine s_q hG ?_ ?_
 ·try simp only[ba]
  exact⟨hC.1.1,hC.2.1,(hC.1.cap (by omega)).2,(hC.2.cap (by omega)).2⟩
 refine s_g hG ?_;refine ar ?_ ?_
 ·intro hb0;simp only[decide_eq_true_eq] at hb0;have hsm:=ud hC.1.1 hC.2.1 hb0;rw[if_pos hb0,if_pos hb0];refine s_q hG ?_ ?_
  ·(try simp only[ba]);rw[hsm.2.2.1];exact hsm.2.2.2
  refine az ?_;refine aB ?_;refine q_e [] ?_;rw[hsm.2.2.1]
 ·intro hb0;have ha:=hC.1.cap (by omega);have hb:=hC.2.cap (by omega);have la:=ef hC.1;have lb:=ef hC.2;have hle:=Fj hC.1 hC.2;have hcap:CAP=1000000000000:=rfl;refine au ?_;refine aj ?_;refine s_q hG ?_ ?_
  ·(try simp only[ba]);exact⟨ha.1,hb.1,ha,hb,⟨la.1.1,lb.1.1.wid,by omega⟩,D.limbs_can _,hle.2.2.2⟩
  refine az ?_;refine q_e [] ?_;exact NG
def yX(B:ah):Tab:={types:= [(3,(.int .i64)),(4, .bool),(9, .str),(181,(.slice (.int .i64)))],elems:= [],cons:= [(117,qd),(123,Gy),(126,ql),(155,fg),(156,ia),(157,c7),(158,fm),(165,jX)],hint:= [],N:=78,base:=B}
theorem GA{B:ah}(hB:aC B):aJ Tryz.prog (yX B):=⟨⟨tc ty3 (tc ty4 (tc ty9 (tc jT (ae)))),af,by simp only[yX,ioB];omega⟩,aF (cc Tryz.func117 (vc hB) (cc Tryz.func123 (MJ hB) (cc Tryz.func126 (lO hB) (cc Tryz.func155 (oa hB) (cc Tryz.func156 (lM hB) (cc Tryz.func157 (lL hB) (cc Tryz.func158 (lN hB) (cc Tryz.func165 (Bl hB) (aw))))))))),by kernel_rfl⟩
def GB:Con:=fun l os=>match l,os with
 | [.z .str a, .z .str b], []=>some (RS 1000000000 a/\RS 1000000000 b/\ao b≠0, [.z .str (Lib.itoa (bV (ao a) (ao b))), .z .str (Lib.itoa (jA (ao a) (ao b)))], [])
 |_,_=>none
theorem MK{B:ah}(hB:aC B):Valid B Tryz.prog 121 GB:=by
 refine ab (GA hB).tab Tryz.func121 rfl rfl rfl ?_;intro args os C rs os' hc hC;unfold GB at hc;split at hc;case h_2=>cases hc
 rename_i a b;cases hc;refine v_h (GA hB) fun X hP hT hr hG=> ?_;have hU:=yX.eq_1;unfold yX at hT;have hX:=ai @jX.eq_1<|ai @fg.eq_1<|ai @qd.eq_1<|ai @c7.eq_1<|ai @ql.eq_1<|ai @ia.eq_1<|ai @Gy.eq_1<| @fm.eq_1;simp only[Tryz.f121,aD,an,ioB];refine s_g hG ?_;refine al ?_;refine s_q hG ?_ ?_
 ·try simp only[ba]
  exact⟨hC.1.1,hC.2.1.1,(hC.1.cap (by omega)).2,(hC.2.1.cap (by omega)).2⟩
 refine s_g hG ?_;refine ar ?_ ?_
 ·intro hb0;simp only[decide_eq_true_eq] at hb0;rw[if_pos hb0,if_pos hb0];have hsm:=DH hC.1.1 hC.2.1.1 hb0 hC.2.2;refine s_q hG ?_ ?_
  ·(try simp only[ba]);exact hC.2.2
  refine cB (fun(z:Unit)=>(⟨[(0, .l (.z .str a)),(1, .l (.z .str b)),(6, .l (.z (.int .i64) (ao a))),(7, .l (.z (.int .i64) (ao b))),(9, .l (.z (.int .i64) (bV (ao a) (ao b))))], []⟩:aa)) (fun z=>True) ?_ ?_
  ·refine s_q hG ?_ ?_
   ·(try simp only[ba]);exact⟨hC.2.2,fun h=>h⟩
   refine ar ?_ ?_
   ·(intro hb1;(try simp only[bt] at hb1);refine ag hG ?_ ?_;·first|trivial|omega|(simp;done)|(simp;omega));show ∃ z,_;refine q_l ?_;first|exact hsm.1 hb1|exact hsm.2.1 hb1
   ·intro hb1;(try simp only[bf] at hb1);refine au ?_;show ∃ z,_;refine q_l ?_;first|exact hsm.1 hb1|exact hsm.2.1 hb1
  rintro⟨⟩ hu;try dsimp only at hu
  refine s_q hG ?_ ?_
  ·(try simp only[ba]);rw[hsm.2.2.2.1];exact⟨hsm.2.2.1,hsm.2.2.2.2⟩
  refine az ?_;refine aB ?_;refine q_e [] ?_;rw[hsm.2.2.2.1]
 ·intro hb0;obtain⟨c1,c2,c3⟩:=hC;have ha:=c1.cap (by omega);have hb:=c2.cap (by omega);have la:=ef c1;have lb:=ef c2;have hln:=KJ (ao a) (ao b);have hrq:=Qs (b:=b) c1 c3;have hrm:=Qt c1 c2 c3;have hcap:CAP=1000000000000:=rfl;have hqf:=ue (x:=ao a) c3;refine au ?_;refine aj ?_;refine s_q hG ?_ ?_
  ·(try simp only[ba]);exact⟨ha,hb,la.1,lb.1,D.ne_limbs c3,by omega⟩
  refine s_q hG ?_ ?_
  ·(try simp only[ba]);exact⟨ha.1,hb.1,D.limbs_can _,by omega⟩
  refine cB (fun(z:Unit)=>(⟨[(0, .l (.z .str a)),(1, .l (.z .str b)),(12, .l (.z .str (Lib.itoa (bV (ao a) (ao b)))))], []⟩:aa)) (fun z=>True) ?_ ?_
  ·refine s_q hG ?_ ?_
   ·(try simp only[ba]);exact⟨fun h=>⟨h,c1.1⟩,fun h=>⟨h,c2.1⟩,fun h=>h⟩
   refine ar ?_ ?_
   ·intro hb2;(try simp only[bt] at hb2);refine ag hG ?_ ?_
    ·(try simp only[ba]);exact⟨hrq.1.up (by omega),DG.1.up (by omega)⟩
    show ∃ z,_;refine q_l ?_;rw[wb] at hb2;first|(rw[<- hqf.2.1 hb2,DG.2,(bg _).2];rfl)|(rw[<- hqf.2.2 hb2];rfl)
   ·intro hb2;(try simp only[bf] at hb2);refine au ?_;show ∃ z,_;refine q_l ?_;rw[wb] at hb2;first|(rw[<- hqf.2.1 hb2,DG.2,(bg _).2];rfl)|(rw[<- hqf.2.2 hb2];rfl)
  rintro⟨⟩ hu2;try dsimp only at hu2
  refine s_q hG ?_ ?_
  ·(try simp only[ba]);rw[(bg _).2];exact⟨⟨hrq.2.up (by omega),c2.up (by omega)⟩,c1.up (by omega),hrm.up (by omega)⟩
  refine az ?_;refine q_e [] ?_;rw[(bg _).2,(bg _).2,Int.mul_comm];rfl
def yY(B:ah):Tab:={types:= [(3,(.int .i64)),(4, .bool),(9, .str),(181,(.slice (.int .i64)))],elems:= [],cons:= [(126,ql),(155,fg),(156,ia),(158,fm),(165,jX)],hint:= [],N:=50,base:=B}
theorem GC{B:ah}(hB:aC B):aJ Tryz.prog (yY B):=⟨⟨tc ty3 (tc ty4 (tc ty9 (tc jT (ae)))),af,by simp only[yY,ioB];omega⟩,aF (cc Tryz.func126 (lO hB) (cc Tryz.func155 (oa hB) (cc Tryz.func156 (lM hB) (cc Tryz.func158 (lN hB) (cc Tryz.func165 (Bl hB) (aw)))))),by kernel_rfl⟩
def GD:Con:=fun l os=>match l,os with
 | [.z .str a, .z .str b], []=>some (RS 1000000000 a/\RS 1000000000 b, [.z .str (Lib.itoa (cJ (ao a) (ao b)))], [])
 |_,_=>none
theorem ML{B:ah}(hB:aC B):Valid B Tryz.prog 122 GD:=by
 refine ab (GC hB).tab Tryz.func122 rfl rfl rfl ?_;intro args os C rs os' hc hC;unfold GD at hc;split at hc;case h_2=>cases hc
 rename_i a b;cases hc;refine v_h (GC hB) fun X hP hT hr hG=> ?_;have hU:=yY.eq_1;unfold yY at hT;have hX:=ai @jX.eq_1<|ai @fg.eq_1<|ai @ql.eq_1<|ai @ia.eq_1<| @fm.eq_1;simp only[Tryz.f122,aD,an,ioB];refine s_g hG ?_;refine al ?_;refine s_q hG ?_ ?_
 ·try simp only[ba]
  exact⟨hC.1.1,hC.2.1,(hC.1.cap (by omega)).2,(hC.2.cap (by omega)).2⟩
 refine s_g hG ?_;refine ar ?_ ?_
 ·intro hb0;simp only[decide_eq_true_eq] at hb0;rw[if_pos hb0,if_pos hb0];have ha:=iF hC.1.1 hb0.1;have hb:=iF hC.2.1 hb0.2;refine al ?_;refine av ?_;refine bw (fun(z:Int×Int)=>(⟨[(0, .l (.z .str a)),(1, .l (.z .str b)),(5, .l (.z (.int .i64) z.1)),(6, .l (.z (.int .i64) z.2))], []⟩:aa)) (fun z=>wc (cJ (ao a) (ao b)) z.1 z.2) (fun z=>z.2.natAbs) (ao a,ao b) ?_ ?_ ?_;·simp only[ml0,ml1,Nat.reduceLT,Nat.reduceEqDiff,Nat.reduceAdd,Nat.reduceMul,Nat.reduceSub,Nat.reduceLeDiff,Nat.reduceBEq,Nat.reduceBNe,reduceIte,reduceDIte,reduceCtorEq]
  ·exact KL ha hb
  ·rintro⟨x,y⟩ hz;(try dsimp only at hz);refine al ?_;refine s_g hG ?_;refine ar ?_ ?_
   ·intro hb1;(try simp only[bt] at hb1);refine au ?_;refine aj ?_;refine av ?_;refine s_q hG ?_ ?_
    ·(try simp only[ba]);exact hb1
    (refine s_g hG ?_;refine ag hG ?_ ?_;·first|trivial|omega|(simp;done)|(simp;omega));refine aN ?_;show ∃ z,_;refine q_l ?_;exact NH hz hb1
   ·intro hb1;(try simp only[bf] at hb1);refine bj ?_;refine aG ?_;refine ay ?_;refine ax ?_;refine aj ?_;refine s_q hG ?_ ?_
    ·(try simp only[ba]);subst hb1;exact(KN hz).1
    refine az ?_;refine aB ?_;refine q_e [] ?_;subst hb1;rw[(KN hz).2]
 ·intro hb0;obtain⟨c1,c2⟩:=hC;have ha:=c1.cap (by omega);have hb:=c2.cap (by omega);have la:=ef c1;have lb:=ef c2;have hcap:CAP=1000000000000:=rfl;refine au ?_;refine aj ?_;refine s_q hG ?_ ?_
  ·(try simp only[ba]);exact⟨ha,hb⟩
  refine al ?_;refine av ?_;refine bw (fun(z:List Int×List Int)=>(⟨[(9, .l (.z (.slice (.int .i64)) z.1)),(10, .l (.z (.slice (.int .i64)) z.2))], []⟩:aa)) (fun z=>Am (cJ (ao a) (ao b)) z.1 z.2) (fun z=>(D.valL z.2).natAbs) (D.limbs (ao a).natAbs,D.limbs (ao b).natAbs) ?_ ?_ ?_;·simp only[ml0,ml1,Nat.reduceLT,Nat.reduceEqDiff,Nat.reduceAdd,Nat.reduceMul,Nat.reduceSub,Nat.reduceLeDiff,Nat.reduceBEq,Nat.reduceBNe,reduceIte,reduceDIte,reduceCtorEq]
  ·exact KM c1 c2
  ·rintro⟨x,y⟩ hz;(try dsimp only at hz);refine al ?_;refine s_g hG ?_;refine ar ?_ ?_
   ·intro hb2;(try simp only[bt] at hb2);refine au ?_;refine aj ?_;refine av ?_;refine s_q hG ?_ ?_
    ·(try simp only[ba]);have lx:=hz.lx;have ly:=hz.ly;exact⟨hz.hx,hz.hy,(by rintro rfl;simp at hb2),by omega⟩
    (refine s_g hG ?_;refine ag hG ?_ ?_;·first|trivial|omega|(simp;done)|(simp;omega));refine aN ?_;show ∃ z,_;refine q_l ?_;exact NI hz hb2
   ·intro hb2;(try simp only[bf] at hb2);refine bj ?_;refine aG ?_;refine ay ?_;refine ax ?_;refine aj ?_;refine s_q hG ?_ ?_
    ·(try simp only[ba]);have lx:=hz.lx;exact⟨hz.hx,by omega⟩
    refine az ?_;refine q_e [] ?_;rw[PA hz hb2]
def qF(B:ah):Tab:={types:= [(3,(.int .i64)),(5,(.int .u8)),(9, .str)],elems:= [],cons:= [],hint:= [],N:=24,base:=B}
theorem Bn{B:ah}(hB:aC B):aJ Tryz.prog (qF B):=⟨⟨tc ty3 (tc ty5 (tc ty9 (ae))),af,by simp only[qF,ioB];omega⟩,bU rfl,by kernel_rfl⟩
def GE:Con:=fun l os=>match l,os with
 | [.z .str s], []=>some (s.length<=QL, [.z .str (tN s), .z .str (tD s), .z .bool (cu s)], [])
 |_,_=>none
theorem IL{B:ah}(hB:aC B):Valid B Tryz.prog 134 GE:=by
 refine ab (Bn hB).tab Tryz.func134 rfl rfl rfl ?_;intro args os C rs os' hc hC;unfold GE at hc;split at hc;case h_2=>cases hc
 rename_i s;cases hc;refine v_h (Bn hB) fun X hP hT hr hG=> ?_;have hU:=qF.eq_1;unfold qF at hT;have hX:=Bool.not_true;simp only[Tryz.f134,aD,an,ioB];have hl:s.length<=1000000000:=hC;refine s_g hG ?_;refine al ?_;refine s_g hG ?_;refine av ?_;refine bw (fun(z:Nat)=>(⟨[(0, .l (.z .str s)),(2, .l (.z .str [])),(3, .l (.z .str [])),(4, .l (.z .bool false)),(5, .l (.z (.int .i64) (z:Int)))], []⟩:aa)) (fun z=>z<=s.length/\(s.take z).all (· !=47)=true) (fun z=>s.length-z) 0 ?_ ?_ ?_;·refine q_l ?_;rfl
 ·exact⟨by omega,by simp⟩
 ·rintro k ⟨g1,g2⟩;try dsimp only at g1 g2
  refine al ?_;refine s_g hG ?_;refine ar ?_ ?_
  ·intro hb0;(try simp only[bt] at hb0);(have hk:k<s.length:=by have h9:(k:Int)<(s.length:Int):=hb0;omega);refine au ?_;refine aj ?_;refine al ?_;refine av ?_;refine s_g hG ?_;refine ar ?_ ?_
   ·intro hb1;(try simp only[bt] at hb1);refine s_d hG ?_ ?_
    ·(try simp only[ba]);exact Iu hl hk
    refine az ?_;refine bK ?_;refine aB ?_;refine eO ?_;refine bK ?_;refine aB ?_;refine q_e [] ?_;exact AY hl hk g2 (FI.1 hb1)
   ·(intro hb1;(try simp only[bf] at hb1);refine au ?_;refine aN ?_;refine aj ?_;refine ag hG ?_ ?_;·first|trivial|omega|(simp;done)|(simp;omega));show ∃ z,_;refine q_l ?_;exact⟨k+1,wi (by omega) (by omega),hk,Im hk g2 (fun e=>hb1 (FI.2 e)),by omega⟩
  ·intro hb0;(try simp only[bf] at hb0);(have hk: ¬k<s.length:=by have h9: ¬ (k:Int)<(s.length:Int):=hb0;omega);refine bj ?_;refine aG ?_;refine ay ?_;refine ax ?_;refine aj ?_;refine s_g hG ?_;refine az ?_;refine q_e [] ?_;exact LQ hk g2
def qG(B:ah):Tab:={types:= [(9, .str)],elems:= [],cons:= [(134,GE)],hint:= [],N:=15,base:=B}
theorem Bo{B:ah}(hB:aC B):aJ Tryz.prog (qG B):=⟨⟨tc ty9 (ae),af,by simp only[qG,ioB];omega⟩,aF (cc Tryz.func134 (IL hB) (aw)),by kernel_rfl⟩
def mo:Con:=fun l os=>match l,os with
 | [.z .str q], []=>some (q.length<=QL, [.z .str (tN q), .z .str (tD q)], [])
 |_,_=>none
theorem w9{B:ah}(hB:aC B):Valid B Tryz.prog 92 mo:=by
 refine ab (Bo hB).tab Tryz.func92 rfl rfl rfl ?_;intro args os C rs os' hc hC;unfold mo at hc;split at hc;case h_2=>cases hc
 rename_i q;cases hc;refine v_h (Bo hB) fun X hP hT hr hG=> ?_;have hU:=qG.eq_1;unfold qG at hT;have hX:= @GE.eq_1;simp only[Tryz.f92,aD,an,ioB];refine s_g hG ?_;refine s_q hG ?_ ?_
 ·try simp only[ba]
  exact hC
 refine s_g hG ?_;refine az ?_;refine q_e [] ?_;trivial
def qH(B:ah):Tab:={types:= [(3,(.int .i64)),(9, .str)],elems:= [],cons:= [(121,GB),(122,GD),(162,yR),(163,w7)],hint:= [],N:=33,base:=B}
theorem Bp{B:ah}(hB:aC B):aJ Tryz.prog (qH B):=⟨⟨tc ty3 (tc ty9 (ae)),af,by simp only[qH,ioB];omega⟩,aF (cc Tryz.func121 (MK hB) (cc Tryz.func122 (ML hB) (cc Tryz.func162 (MI hB) (cc Tryz.func163 (Bk hB) (aw))))),by kernel_rfl⟩
def lP:Con:=fun l os=>match l,os with
 | [.z .str n, .z .str d], []=>some (MkR n d, [.z .str (aX (Rat.divInt (ao n) (ao d)))], [])
 |_,_=>none
theorem o5{B:ah}(hB:aC B):Valid B Tryz.prog 116 lP:=by
 refine ab (Bp hB).tab Tryz.func116 rfl rfl rfl ?_;intro args os C rs os' hc hC;unfold lP at hc;split at hc;case h_2=>cases hc
 rename_i n d;cases hc;refine v_h (Bp hB) fun X hP hT hr hG=> ?_;have hU:=qH.eq_1;unfold qH at hT;have hX:=ai @GB.eq_1<|ai @GD.eq_1<|ai @w7.eq_1<| @yR.eq_1;simp only[Tryz.f116,aD,an,ioB];refine s_g hG ?_;refine s_q hG ?_ ?_
 ·try simp only[ba]
  exact oX hC
 refine cB (fun(z:Unit)=>(⟨[(0, .l (.z .str n)),(1, .l (.z .str d)),(4, .l (.z .str [])),(5, .l (.z .str (Lib.itoa (dL (ao n) (ao d)))))], []⟩:aa)) (fun z=>True) ?_ ?_
 ·refine s_q hG ?_ ?_
  ·(try simp only[ba]);exact hC.2.1.1
  refine ar ?_ ?_
  ·intro hb0;(try simp only[bt] at hb0);refine ag hG ?_ ?_
   ·(try simp only[ba]);exact Io hC
   show ∃ z,_;refine q_l ?_;first|exact FE (qB.1 hb0)|exact FF (fun e=>hb0 (qB.2 e))
  ·intro hb0;(try simp only[bf] at hb0);refine au ?_;show ∃ z,_;refine q_l ?_;first|exact FE (qB.1 hb0)|exact FF (fun e=>hb0 (qB.2 e))
 rintro⟨⟩-;refine s_q hG ?_ ?_
 ·try simp only[ba]
  exact wO hC
 refine s_q hG ?_ ?_
 ·try simp only[ba]
  exact Ip hC
 refine al ?_;refine s_g hG ?_;refine ar ?_ ?_
 ·intro hb1;try simp only[bt] at hb1
  refine s_g hG ?_;refine az ?_;refine aB ?_;refine q_e [] ?_;exact Oh hC hb1
 ·intro hb1;try simp only[bf] at hb1
  refine au ?_;refine aj ?_;refine s_q hG ?_ ?_
  ·(try simp only[ba]);exact Iq hC
  refine az ?_;refine q_e [] ?_;exact Oi hC hb1
def qI(B:ah):Tab:={types:= [(3,(.int .i64)),(9, .str)],elems:= [],cons:= [(116,lP),(126,ql)],hint:= [],N:=10,base:=B}
theorem Bq{B:ah}(hB:aC B):aJ Tryz.prog (qI B):=⟨⟨tc ty3 (tc ty9 (ae)),af,by simp only[qI,ioB];omega⟩,aF (cc Tryz.func116 (o5 hB) (cc Tryz.func126 (lO hB) (aw))),by kernel_rfl⟩
def OU:Con:=fun l os=>match l,os with
 | [.z (.int .i64) n, .z (.int .i64) d], []=>some (I64 n/\I64 d/\d≠0, [.z .str (aX (Rat.divInt n d))], [])
 |_,_=>none
theorem IM{B:ah}(hB:aC B):Valid B Tryz.prog 85 OU:=by
 refine ab (Bq hB).tab Tryz.func85 rfl rfl rfl ?_;intro args os C rs os' hc hC;unfold OU at hc;split at hc;case h_2=>cases hc
 rename_i n d;cases hc;refine v_h (Bq hB) fun X hP hT hr hG=> ?_;have hU:=qI.eq_1;unfold qI at hT;have hX:=ai @lP.eq_1<| @ql.eq_1;simp only[Tryz.f85,aD,an,ioB];refine s_g hG ?_;refine s_q hG ?_ ?_
 ·try simp only[ba]
  exact LR hC
 refine az ?_;refine q_e [] ?_;exact Oj
def qJ(B:ah):Tab:={types:= [(9, .str),(46, .str)],elems:= [],cons:= [(92,mo),(115,w8),(116,lP),(117,qd)],hint:= [],N:=39,base:=B}
theorem Br{B:ah}(hB:aC B):aJ Tryz.prog (qJ B):=⟨⟨tc ty9 (tc mE (ae)),af,by simp only[qJ,ioB];omega⟩,aF (cc Tryz.func92 (w9 hB) (cc Tryz.func115 (Bm hB) (cc Tryz.func116 (o5 hB) (cc Tryz.func117 (vc hB) (aw))))),by kernel_rfl⟩
def GF:Con:=fun l os=>match l,os with
 | [.z .str a, .z .str b], []=>some (GQ QK a/\GQ QK b, [.z .str (aX (bL a+bL b))], [])
 |_,_=>none
theorem IP{B:ah}(hB:aC B):Valid B Tryz.prog 62 GF:=by
 refine ab (Br hB).tab Tryz.func62 rfl rfl rfl ?_;intro args os C rs os' hc hC;unfold GF at hc;split at hc;case h_2=>cases hc
 rename_i a b;cases hc;refine v_h (Br hB) fun X hP hT hr hG=> ?_;have hU:=qJ.eq_1;unfold qJ at hT;have hX:=ai @lP.eq_1<|ai @mo.eq_1<|ai @w8.eq_1<| @qd.eq_1;simp only[Tryz.f62,aD,an,ioB];refine s_g hG ?_;refine s_q hG ?_ ?_
 ·try simp only[ba]
  exact FG hC.1
 refine s_q hG ?_ ?_
 ·try simp only[ba]
  exact FG hC.2
 refine al ?_;refine s_g hG ?_;refine ar ?_ ?_
 ·intro hb0;try simp only[bt] at hb0
  refine s_q hG ?_ ?_
  ·(try simp only[ba]);exact⟨(gl hC.1).1,(gl hC.2).1⟩
  refine az ?_;refine aB ?_;refine q_e [] ?_;exact LS hC.1 hC.2 hb0
 ·intro hb0;try simp only[bf] at hb0
  refine au ?_;refine aj ?_;refine s_q hG ?_ ?_
  ·(try simp only[ba]);exact Ir hC.1 hC.2
  refine az ?_;refine q_e [] ?_;exact LW hC.1 hC.2
def qK(B:ah):Tab:={types:= [(9, .str),(46, .str)],elems:= [],cons:= [(92,mo),(116,lP),(117,qd)],hint:= [],N:=35,base:=B}
theorem Bt{B:ah}(hB:aC B):aJ Tryz.prog (qK B):=⟨⟨tc ty9 (tc mE (ae)),af,by simp only[qK,ioB];omega⟩,aF (cc Tryz.func92 (w9 hB) (cc Tryz.func116 (o5 hB) (cc Tryz.func117 (vc hB) (aw)))),by kernel_rfl⟩
def GG:Con:=fun l os=>match l,os with
 | [.z .str a, .z .str b], []=>some (GQ QK a/\GQ QK b, [.z .str (aX (bL a*bL b))], [])
 |_,_=>none
theorem IQ{B:ah}(hB:aC B):Valid B Tryz.prog 84 GG:=by
 refine ab (Bt hB).tab Tryz.func84 rfl rfl rfl ?_;intro args os C rs os' hc hC;unfold GG at hc;split at hc;case h_2=>cases hc
 rename_i a b;cases hc;refine v_h (Bt hB) fun X hP hT hr hG=> ?_;have hU:=qK.eq_1;unfold qK at hT;have hX:=ai @lP.eq_1<|ai @mo.eq_1<| @qd.eq_1;simp only[Tryz.f84,aD,an,ioB];refine s_g hG ?_;refine s_q hG ?_ ?_
 ·try simp only[ba]
  exact FG hC.1
 refine s_q hG ?_ ?_
 ·try simp only[ba]
  exact FG hC.2
 refine al ?_;refine s_g hG ?_;refine ar ?_ ?_
 ·intro hb0;try simp only[bt] at hb0
  refine s_q hG ?_ ?_
  ·(try simp only[ba]);exact⟨(gl hC.1).1,(gl hC.2).1⟩
  refine az ?_;refine aB ?_;refine q_e [] ?_;exact LU hC.1 hC.2 hb0
 ·intro hb0;try simp only[bf] at hb0
  refine au ?_;refine aj ?_;refine s_q hG ?_ ?_
  ·(try simp only[ba]);exact Is hC.1 hC.2
  refine az ?_;refine q_e [] ?_;exact LX hC.1 hC.2
def qL(B:ah):Tab:={types:= [(3,(.int .i64)),(22,(.slice .str)),(46, .str)],elems:= [],cons:= [],hint:= [],N:=26,base:=B}
theorem Bu{B:ah}(hB:aC B):aJ Tryz.prog (qL B):=⟨⟨tc ty3 (tc gG (tc mE (ae))),af,by simp only[qL,ioB];omega⟩,bU rfl,by kernel_rfl⟩
def o6:Con:=fun l os=>match l,os with
 | [.z (.slice .str) p, .z (.slice .str) q], []=>some (p.length<=QL/\q.length<=QL, [.z .bool (decide (p=q))], [])
 |_,_=>none
theorem xb{B:ah}(hB:aC B):Valid B Tryz.prog 28 o6:=by
 refine ab (Bu hB).tab Tryz.func28 rfl rfl rfl ?_;intro args os C rs os' hc hC;unfold o6 at hc;split at hc;case h_2=>cases hc
 rename_i p q;cases hc;refine v_h (Bu hB) fun X hP hT hr hG=> ?_;have hU:=qL.eq_1;unfold qL at hT;have hX:=Bool.not_true;simp only[Tryz.f28,aD,an,ioB];have hl:p.length<=1000000000:=hC.1;refine s_g hG ?_;refine al ?_;refine s_g hG ?_;refine ar ?_ ?_
 ·intro hb0;try simp only[bt] at hb0
  refine s_g hG ?_;refine az ?_;refine aB ?_;refine q_e [] ?_;exact LY hb0
 ·intro hb0;try simp only[bf] at hb0
  have he:p.length=q.length:=by have h9:(p.length:Int)=(q.length:Int):=hb0;omega
  refine au ?_;refine aj ?_;refine al ?_;refine s_g hG ?_;refine av ?_;refine bw (fun(z:Nat)=>(⟨[(0, .l (.z (.slice .str) p)),(1, .l (.z (.slice .str) q)),(4, .l (.z .bool false)),(5, .l (.z (.int .i64) (z:Int)))], []⟩:aa)) (fun z=>z<=p.length/\p.take z=q.take z) (fun z=>p.length-z) 0 ?_ ?_ ?_;·refine q_l ?_;rfl
  ·exact⟨by omega,rfl⟩
  ·rintro k ⟨g1,g2⟩;(try dsimp only at g1 g2);refine al ?_;refine s_g hG ?_;refine ar ?_ ?_
   ·intro hb1;(try simp only[bt] at hb1);(have hk:k<p.length:=by have h9:(k:Int)<(p.length:Int):=hb1;omega);refine au ?_;refine aj ?_;refine al ?_;refine av ?_;refine s_d hG ?_ ?_
    ·(try simp only[ba]);rw[<- he];exact⟨⟨by omega,hb1⟩,by omega,hb1⟩
    refine ar ?_ ?_;·intro hb2;(try simp only[bt] at hb2);refine s_g hG ?_;refine az ?_;refine bK ?_;refine aB ?_;refine eO ?_;refine bK ?_;refine aB ?_;refine q_e [] ?_;exact LZ hb2
    ·(intro hb2;(try simp only[bf] at hb2);refine au ?_;refine aN ?_;refine aj ?_;refine ag hG ?_ ?_;·first|trivial|omega|(simp;done)|(simp;omega));show ∃ z,_;refine q_l ?_;exact⟨k+1,wi (by omega) (by omega),hk,It he hk g2 hb2,by omega⟩
   ·intro hb1;(try simp only[bf] at hb1);(have hk: ¬k<p.length:=by have h9: ¬ (k:Int)<(p.length:Int):=hb1;omega);refine bj ?_;refine aG ?_;refine ay ?_;refine ax ?_;refine aj ?_;refine s_g hG ?_;refine az ?_;refine q_e [] ?_;exact L0 he hk g2
def yZ:Con:=jy [some (.slice .str),some (.slice .str)] o6
theorem Ep{B:ah}(hB:aC B):Valid B Tryz.prog 28 yZ:=fF _ (xb hB)
def ve(B:ah):Tab:={types:= [(87,(.slice (.int .u32))),(161,(.int .u32)),(164,(.int .u64))],elems:= [(87,161)],cons:= [(193,w6)],hint:= [],N:=38,base:=B}
theorem MM{B:ah}(hB:aC B):aJ Tryz.prog (ve B):=⟨⟨tc iP (tc gg (tc nH (ae))),aT (by kernel_rfl) (af),by simp only[ve,ioB];omega⟩,aF (cc Tryz.func193 (Gm hB) (aw)),by kernel_rfl⟩
def o7:Con:=fun l os=>match l,os with
 | [.z (.slice (.int .u32)) m, .z (.int .u32) b], []=>some (Lim m/\zW b/\m.length<CAP, [.z (.slice (.int .u32)) (padL (valL m/b).toNat m.length), .z (.int .u32) (valL m%b)], [])
 |_,_=>none
theorem OV{B:ah}(hB:aC B):Valid B Tryz.prog 189 o7:=by
 refine ab (MM hB).tab Tryz.func189 rfl rfl rfl ?_;intro args os C rs os' hc hC;unfold o7 at hc;split at hc;case h_2=>cases hc
 rename_i m b;cases hc;refine v_h (MM hB) fun X hP hT hr hG=> ?_;have hU:=ve.eq_1;unfold ve at hT;have hX:= @w6.eq_1;simp only[Tryz.f189,aD,an,ioB];refine s_g hG ?_;refine s_q hG ?_ ?_
 ·try simp only[ba]
  exact⟨by omega,by omega,by have:=hC.2.2;unfold CAP at this;unfold Cm.Roomy;omega⟩
 refine s_g hG ?_;refine al ?_;refine s_g hG ?_;refine av ?_;refine EX hr (gf:=208) (caps:= [.z (.ptr (.slice (.int .u32))) m]) (items:=cY m) (by simp only[hT,ve,mx0,mx1,mx2,mx3,mx4,mx5,mx6,aV,br,bN,bc,bq,Ty.fieldTy,Ty.fieldOf,Nat.reduceLT,Nat.reduceEqDiff,Nat.reduceAdd,Nat.reduceMul,Nat.reduceSub,Nat.reduceLeDiff,Nat.reduceBEq,Nat.reduceBNe,reduceIte,reduceDIte,reduceCtorEq];try rfl) (by rfl) (by rw[hP];exact Ae m) (by rfl) [3,6,7] (by rfl) (by simp only[hT,ve];try rfl) (fun(k:Nat) (z:Int×List Int)=>(⟨[(3, .l (.z (.ptr (.int .u32)) b)),(6, .l (.ownP 6 0)),(7, .l (.ownP 7 0))], [(6, .box 87 [.ownS 13]),(7, .box 164 [.z (.int .u64) z.1]),(13, .arr (.int .u32) 161 z.2)]⟩:aa)) (fun(k:Nat) (z:Int×List Int)=>lg m b k z.1 z.2) (0,List.replicate (List.length m) 0) ?_ ?_ ?_ ?_ ?_;·simp only[ml0,ml1,Nat.reduceLT,Nat.reduceEqDiff,Nat.reduceAdd,Nat.reduceMul,Nat.reduceSub,Nat.reduceLeDiff,Nat.reduceBEq,Nat.reduceBNe,reduceIte,reduceDIte,reduceCtorEq];simp
 ·exact zY hC.2.1
 ·intro k z;rfl
 ·intro k hk;rintro⟨r,out⟩ hz;try dsimp only at hz
  have hk:k<List.length m:=by simpa [cY] using hk
  refine⟨_,by simp only[hT,ve,cY,tZ,mx0,mx1,mx2,mx3,mx4,mx5,mx6,aV,br,bN,bc,bq,Ty.fieldTy,Ty.fieldOf,Nat.reduceLT,Nat.reduceEqDiff,Nat.reduceAdd,Nat.reduceMul,Nat.reduceSub,Nat.reduceLeDiff,Nat.reduceBEq,Nat.reduceBNe,reduceIte,reduceDIte,reduceCtorEq,List.getElem_map,List.getElem_range];rfl,?_⟩;intro X' hP' hT';have hG':aJ X'.P X'.T:=by rw[hP',hT'];exact hG.keep _
  rw[hT] at hT';refine av ?_;refine al ?_;refine oy hG' ?_ ?_;·first|trivial|omega|(simp;done)|(simp;omega)
  refine aj ?_;refine EY hG' ?_ ?_
  ·(try simp only[ba]);have hl:=hz.1;exact⟨E6 hC.2.1,E6 hC.2.1,by omega,by omega⟩
  refine aN ?_;show ∃ z,_;simp only[ml0,ml1,Nat.reduceLT,Nat.reduceEqDiff,Nat.reduceAdd,Nat.reduceMul,Nat.reduceSub,Nat.reduceLeDiff,Nat.reduceBEq,Nat.reduceBNe,reduceIte,reduceDIte,reduceCtorEq];exact Ds hC.1 hC.2.1 hk hz
 ·rintro⟨r,out⟩ hz;try dsimp only at hz
  rw[show List.length (cY m)=List.length m by simp[cY]] at hz;refine aN ?_;refine aj ?_;refine s_d hG ?_ ?_;·first|trivial|omega|(simp;done)|(simp;omega)
  refine az ?_;refine q_e [13] ?_;exact Hv hC.1 hC.2.1 hz
def GH(B:ah):Tab:={types:= [(3,(.int .i64)),(87,(.slice (.int .u32))),(161,(.int .u32)),(164,(.int .u64))],elems:= [(87,161)],cons:= [],hint:= [],N:=41,base:=B}
theorem MN{B:ah}(hB:aC B):aJ Tryz.prog (GH B):=⟨⟨tc ty3 (tc iP (tc gg (tc nH (ae)))),aT (by kernel_rfl) (af),by simp only[GH,ioB];omega⟩,bU rfl,by kernel_rfl⟩
def mq:Con:=fun l os=>match l,os with
 | [.z (.slice (.int .u32)) m, .z (.int .u32) b], []=>some (Lim m/\zX b/\m.length<CAP, [.own (.int .u32) 161 (padL (valL m*b).toNat (m.length+1))], [])
 |_,_=>none
theorem OW{B:ah}(hB:aC B):Valid B Tryz.prog 190 mq:=by
 refine ab (MN hB).tab Tryz.func190 rfl rfl rfl ?_;intro args os C rs os' hc hC;unfold mq at hc;split at hc;case h_2=>cases hc
 rename_i m b;cases hc;refine v_h (MN hB) fun X hP hT hr hG=> ?_;have hU:=GH.eq_1;unfold GH at hT;have hX:=Bool.not_true;simp only[Tryz.f190,aD,an,ioB];refine s_g hG ?_;refine s_q hG ?_ ?_
 ·try simp only[ba]
  have h1:List.length m<1000000000000:=hC.2.2;rw[wi (by omega) (by omega)];exact⟨by omega,by omega,by unfold Cm.Roomy;omega⟩
 refine s_g hG ?_;refine al ?_;refine s_g hG ?_;refine av ?_;refine bw (fun(z:Nat×Int×List Int)=>(⟨[(1, .l (.z (.int .u32) b)),(5, .l (.ownS 13)),(6, .l (.z (.int .u64) z.2.1)),(14, .l (.z (.slice (.int .u32)) m)),(15, .l (.z (.int .i64) (List.length m:Int))),(16, .l (.z (.int .i64) (z.1:Int)))], [(13, .arr (.int .u32) 161 z.2.2)]⟩:aa)) (fun z=>jQ m b z.1 z.2.1 z.2.2) (fun z=>List.length m-z.1) (0,0, []) ?_ ?_ ?_;·refine q_l ?_;exact⟨rfl,rfl⟩
 ·exact xZ
 ·rintro⟨k,c,out⟩ hz;try dsimp only at hz
  refine s_g hG ?_;refine al ?_;refine ar ?_ ?_
  ·intro hb0;(try simp only[bt] at hb0);refine au ?_;refine aj ?_;refine al ?_;refine av ?_;refine s_q hG ?_ ?_
   ·(try simp only[ba]);exact⟨by omega,hb0⟩
   refine s_g hG ?_;refine ag hG ?_ ?_
   ·(try simp only[ba]);have h1:List.length m<1000000000000:=hC.2.2;have h2:=hz.2.1;exact⟨by decide,by unfold Cm.Roomy;omega,by decide⟩
   (refine aN ?_;refine aj ?_;refine ag hG ?_ ?_;·first|trivial|omega|(simp;done)|(simp;omega));show ∃ z,_;refine q_l ?_;exact zZ hC.1 hC.2.2 hC.2.1 hb0 hz
  ·intro hb0;(try simp only[bf] at hb0);refine bj ?_;refine aG ?_;refine ay ?_;refine ax ?_;refine aj ?_;refine s_q hG ?_ ?_
   ·(try simp only[ba]);have h1:List.length m<1000000000000:=hC.2.2;have h2:=hz.2.1;have h3:=hz.1;unfold Cm.Roomy;omega
   refine az ?_;refine q_e [] ?_;exact⟨trivial,Dt hC.1 hC.2.1 hb0 hz⟩
def GI(B:ah):Tab:={types:= [(2,(.int .i64)),(3,(.int .i64)),(87,(.slice (.int .u32))),(161,(.int .u32)),(164,(.int .u64))],elems:= [],cons:= [],hint:= [],N:=57,base:=B}
theorem MO{B:ah}(hB:aC B):aJ Tryz.prog (GI B):=⟨⟨tc ty2 (tc ty3 (tc iP (tc gg (tc nH (ae))))),af,by simp only[GI,ioB];omega⟩,bU rfl,by kernel_rfl⟩
def xc:Con:=fun l os=>match l,os with
 | [.ownS 10000000, .z (.slice (.int .u32)) o, .z (.int .u64) q], [.win (.int .u32) 161 pre xs []]=>some (Lim xs/\Lim o/\zX q/\o.length+1<=xs.length/\o.length<CAP, [.z .bool (decide (valL (xs.take (o.length+1))<q*valL o))], [.win (.int .u32) 161 pre (put xs (o.length+1) (valL (xs.take (o.length+1))-q*valL o)) []])
 |_,_=>none
theorem OX{B:ah}(hB:aC B):Valid B Tryz.prog 191 xc:=by
 refine ab (MO hB).tab Tryz.func191 rfl rfl rfl ?_;intro args os C rs os' hc hC;unfold xc at hc;split at hc;case h_2=>cases hc
 rename_i o q pre xs;cases hc;refine v_h (MO hB) fun X hP hT hr hG=> ?_;have hU:=GI.eq_1;unfold GI at hT;have hX:=Bool.not_true;simp only[Tryz.f191,aD,an,ioB];refine s_g hG ?_;refine s_g hG ?_;refine al ?_;refine s_g hG ?_;refine av ?_;refine bw (fun(z:Nat×Int×Int×List Int)=>(⟨[(0, .l (.ownS 10000000)),(1, .l (.z (.slice (.int .u32)) o)),(2, .l (.z (.int .u64) q)),(7, .l (.z (.int .u64) z.2.1)),(8, .l (.z (.int .i64) z.2.2.1)),(14, .l (.z (.int .i64) ((List.length o+1:Nat):Int))),(15, .l (.z (.int .i64) (z.1:Int)))], [(10000000, .win (.int .u32) 161 pre z.2.2.2 [])]⟩:aa)) (fun z=>kg xs o q z.1 z.2.1 z.2.2.1 z.2.2.2) (fun z=>List.length o+1-z.1) (0,0,0,xs) ?_ ?_ ?_;·refine q_l ?_;exact⟨wi (by omega) (by have:List.length o<1000000000000:=hC.2.2.2.2;omega),rfl⟩
 ·exact Dw hC.1
 ·rintro⟨i,c,b,ys⟩ hz;try dsimp only at hz
  have hl:=hz.2.1;have hlen:=hC.2.2.2.1;refine s_g hG ?_;refine al ?_;refine ar ?_ ?_
  ·intro hb0;(try simp only[bt] at hb0);refine au ?_;refine aj ?_;refine al ?_;refine av ?_;refine s_g hG ?_;refine s_g hG ?_;refine cB (fun(z:Int)=>(⟨[(0, .l (.ownS 10000000)),(1, .l (.z (.slice (.int .u32)) o)),(2, .l (.z (.int .u64) q)),(8, .l (.z (.int .i64) b)),(9, .l (.z (.int .i64) (i:Int))),(10, .l (.z (.int .u64) z)),(14, .l (.z (.int .i64) ((List.length o+1:Nat):Int))),(15, .l (.z (.int .i64) (i:Int)))], [(10000000, .win (.int .u32) 161 pre ys [])]⟩:aa)) (fun z=>z=c+q*o.getD i 0) ?_ ?_
   ·refine s_g hG ?_;refine ar ?_ ?_
    ·intro hb1;(try simp only[bt] at hb1);refine ag hG ?_ ?_
     ·(try simp only[ba]);exact⟨by omega,hb1⟩
     show ∃ z,_;refine q_l ?_;first|exact Kr i hC.2.1 hC.2.2.1 hz.2.2.2.2.1|exact vX hb1
    ·intro hb1;(try simp only[bf] at hb1);refine au ?_;show ∃ z,_;refine q_l ?_;first|exact Kr i hC.2.1 hC.2.2.1 hz.2.2.2.2.1|exact vX hb1
   rintro n hn;(try dsimp only at hn);(have hn2:0<=n/\n<LB*LB:=by rw[hn];have:=Dx i hC.2.1 hC.2.2.1 hz.2.2.2.2.1;exact⟨this.1,this.2.1⟩);refine s_q hG ?_ ?_
   ·(try simp only[ba]);decide
   refine s_q hG ?_ ?_
   ·(try simp only[ba]);exact⟨⟨by omega,by omega⟩,by omega,by decide⟩
   refine s_g hG ?_;refine cB (fun(z:Int×Int)=>(⟨[(0, .l (.ownS 10000000)),(1, .l (.z (.slice (.int .u32)) o)),(2, .l (.z (.int .u64) q)),(7, .l (.z (.int .u64) (n/LB))),(8, .l (.z (.int .i64) z.2)),(9, .l (.z (.int .i64) (i:Int))),(11, .l (.z (.int .i64) z.1)),(14, .l (.z (.int .i64) ((List.length o+1:Nat):Int))),(15, .l (.z (.int .i64) (i:Int)))], [(10000000, .win (.int .u32) 161 pre ys [])]⟩:aa)) (fun z=>(0<=z.1/\z.1<LB)/\(0<=z.2/\z.2<=1)/\z.1-LB*z.2=ys.getD i 0-n%LB-b) ?_ ?_
   ·refine s_g hG ?_;refine ar ?_ ?_
    ·(intro hb2;(try simp only[bt] at hb2);refine ag hG ?_ ?_;·first|trivial|omega|(simp;done)|(simp;omega));show ∃ z,_;refine q_l ?_;first|exact(by simpa only[and_assoc] using(nF hz.2.2.1 hn2 hz.2.2.2.2.2.2.1 rfl).1 hb2)|exact(by simpa only[and_assoc] using(nF hz.2.2.1 hn2 hz.2.2.2.2.2.2.1 rfl).2 hb2)
    ·intro hb2;(try simp only[bf] at hb2);refine au ?_;show ∃ z,_;refine q_l ?_;first|exact(by simpa only[and_assoc] using(nF hz.2.2.1 hn2 hz.2.2.2.2.2.2.1 rfl).1 hb2)|exact(by simpa only[and_assoc] using(nF hz.2.2.1 hn2 hz.2.2.2.2.2.2.1 rfl).2 hb2)
   rintro⟨v,b2⟩ hv;(try dsimp only at hv);refine ag hG ?_ ?_
   ·(try simp only[ba]);exact⟨⟨by omega,by omega⟩,by omega⟩
   (refine aN ?_;refine aj ?_;refine ag hG ?_ ?_;·first|trivial|omega|(simp;done)|(simp;omega));show ∃ z,_;refine q_l ?_;exact Hx hC.2.1 hC.2.2.1 hC.2.2.2.1 hC.2.2.2.2 hz hb0 hn hv
  ·intro hb0;(try simp only[bf] at hb0);refine bj ?_;refine aG ?_;refine ay ?_;refine ax ?_;refine aj ?_;refine s_g hG ?_;refine az ?_;refine q_e [] ?_;exact⟨(z7 hC.2.2.2.1 hz (by omega)).2,trivial,(z7 hC.2.2.2.1 hz (by omega)).1⟩
def GJ(B:ah):Tab:={types:= [(3,(.int .i64)),(87,(.slice (.int .u32))),(161,(.int .u32))],elems:= [],cons:= [],hint:= [],N:=37,base:=B}
theorem MP{B:ah}(hB:aC B):aJ Tryz.prog (GJ B):=⟨⟨tc ty3 (tc iP (tc gg (ae))),af,by simp only[GJ,ioB];omega⟩,bU rfl,by kernel_rfl⟩
def xd:Con:=fun l os=>match l,os with
 | [.ownS 10000000, .z (.slice (.int .u32)) o], [.win (.int .u32) 161 pre xs []]=>some (Lim xs/\Lim o/\o.length+1<=xs.length/\o.length<CAP, [], [.win (.int .u32) 161 pre (put xs (o.length+1) (valL (xs.take (o.length+1))+valL o)) []])
 |_,_=>none
theorem OY{B:ah}(hB:aC B):Valid B Tryz.prog 192 xd:=by
 refine ab (MP hB).tab Tryz.func192 rfl rfl rfl ?_;intro args os C rs os' hc hC;unfold xd at hc;split at hc;case h_2=>cases hc
 rename_i o pre xs;cases hc;refine v_h (MP hB) fun X hP hT hr hG=> ?_;have hU:=GJ.eq_1;unfold GJ at hT;have hX:=Bool.not_true;simp only[Tryz.f192,aD,an,ioB];refine s_g hG ?_;refine s_g hG ?_;refine av ?_;refine bw (fun(z:Nat×Int×List Int)=>(⟨[(0, .l (.ownS 10000000)),(1, .l (.z (.slice (.int .u32)) o)),(4, .l (.z (.int .u32) z.2.1)),(9, .l (.z (.int .i64) ((List.length o+1:Nat):Int))),(10, .l (.z (.int .i64) (z.1:Int)))], [(10000000, .win (.int .u32) 161 pre z.2.2 [])]⟩:aa)) (fun z=>kh xs o z.1 z.2.1 z.2.2) (fun z=>List.length o+1-z.1) (0,0,xs) ?_ ?_ ?_;·refine q_l ?_;exact⟨wi (by omega) (by have:List.length o<1000000000000:=hC.2.2.2;omega),rfl⟩
 ·exact Dz hC.1
 ·rintro⟨i,c,ys⟩ hz;try dsimp only at hz
  have hl:=hz.2.1;have hlen:=hC.2.2.1;refine s_g hG ?_;refine al ?_;refine ar ?_ ?_
  ·intro hb0;(try simp only[bt] at hb0);refine au ?_;refine aj ?_;refine al ?_;refine av ?_;refine s_g hG ?_;refine s_q hG ?_ ?_
   ·(try simp only[ba]);exact⟨⟨by omega,by omega⟩,by omega⟩
   refine cB (fun(z:Int)=>(⟨[(0, .l (.ownS 10000000)),(1, .l (.z (.slice (.int .u32)) o)),(5, .l (.z (.int .i64) (i:Int))),(6, .l (.z (.int .u32) z)),(9, .l (.z (.int .i64) ((List.length o+1:Nat):Int))),(10, .l (.z (.int .i64) (i:Int)))], [(10000000, .win (.int .u32) 161 pre ys [])]⟩:aa)) (fun z=>z=ys.getD i 0+c+o.getD i 0) ?_ ?_
   ·refine s_g hG ?_;refine ar ?_ ?_
    ·intro hb1;(try simp only[bt] at hb1);refine ag hG ?_ ?_
     ·(try simp only[ba]);exact⟨by omega,hb1⟩
     show ∃ z,_;refine q_l ?_;first|exact(x5 i hz.2.2.1 hC.2.1 hz.2.2.2.2.1).2 hb1|exact(x5 i hz.2.2.1 hC.2.1 hz.2.2.2.2.1).1
    ·intro hb1;(try simp only[bf] at hb1);refine au ?_;show ∃ z,_;refine q_l ?_;first|exact(x5 i hz.2.2.1 hC.2.1 hz.2.2.2.2.1).2 hb1|exact(x5 i hz.2.2.1 hC.2.1 hz.2.2.2.2.1).1
   rintro n hn;(try dsimp only at hn);refine ag hG ?_ ?_
   ·(try simp only[ba]);exact⟨by decide,by decide,⟨by omega,by omega⟩,by omega⟩
   (refine aN ?_;refine aj ?_;refine ag hG ?_ ?_;·first|trivial|omega|(simp;done)|(simp;omega));show ∃ z,_;refine q_l ?_;exact Hy hC.2.1 hC.2.2.1 hC.2.2.2 hz hb0 hn
  ·intro hb0;(try simp only[bf] at hb0);refine bj ?_;refine aG ?_;refine ay ?_;refine ax ?_;refine q_e [] ?_;exact⟨trivial,Kq hC.2.2.1 hz (by omega)⟩
def xe(B:ah):Tab:={types:= [(3,(.int .i64)),(4, .bool),(87,(.slice (.int .u32))),(89,(.st (.pair .bool (.slice (.int .u32))))),(161,(.int .u32)),(164,(.int .u64))],elems:= [(87,161)],cons:= [(150,ez),(152,fe),(189,o7),(190,mq),(191,xc),(192,xd)],hint:= [52,144,152],N:=172,io:= [(191, [0]),(192, [0])],base:=B}
theorem MQ{B:ah}(hB:aC B):aJ Tryz.prog (xe B):=⟨⟨tc ty3 (tc ty4 (tc iP (tc gH (tc gg (tc nH (ae)))))),aT (by kernel_rfl) (af),by simp only[xe,ioB];omega⟩,aF (cc Tryz.func150 (kB hB) (cc Tryz.func152 (yL hB) (cc Tryz.func189 (OV hB) (cc Tryz.func190 (OW hB) (cc Tryz.func191 (OX hB) (cc Tryz.func192 (OY hB) (aw))))))),by kernel_rfl⟩
def jY:Con:=fun l os=>match l,os with
 | [.z (.slice (.int .u32)) m, .z (.slice (.int .u32)) o], []=>some (Cano m/\Cano o/\o≠ []/\m.length+o.length+1<CAP, [.z (.slice (.int .u32)) (i6 m o), .z (.slice (.int .u32)) (ee m o)], [])
 |_,_=>none
set_option maxHeartbeats 1000000 in
theorem GK{B:ah}(hB:aC B):Valid B Tryz.prog 177 jY:=by
 refine ab (MQ hB).tab Tryz.func177 rfl rfl rfl ?_;intro args os C rs os' hc hC;unfold jY at hc;split at hc;case h_2=>cases hc
 rename_i m o;cases hc;refine v_h (MQ hB) fun X hP hT hr hG=> ?_;have hU:=xe.eq_1;unfold xe at hT;have hX:=ai @fe.eq_1<|ai @xd.eq_1<|ai @xc.eq_1<|ai @mq.eq_1<|ai @o7.eq_1<|ai @ez.eq_1<|ai @b9.eq_def<| @cr.eq_def;simp only[Tryz.f177,aD,an,ioB];refine al ?_;show J X _ _ _;refine ag hG ?_ ?_;·first|trivial|omega|(simp;done)|(simp;omega)
 refine aj ?_;refine al ?_;refine al ?_;show J X _ _ _;refine ag hG ?_ ?_
 ·try simp only[ba]
  exact⟨hC.1,hC.2.1,Nat.lt_of_le_of_lt (Nat.le_succ _) hC.2.2.2⟩
 refine aj ?_;refine ar ?_ ?_
 ·intro hb0;try simp only[bt] at hb0
  refine al ?_;show J X _ _ _;refine ag hG ?_ ?_;·first|trivial|omega|(simp;done)|(simp;omega)
  refine aj ?_;refine az ?_;refine aB ?_;refine q_e [62] ?_;exact Ky hb0
 ·intro hb0;try simp only[bf] at hb0
  refine au ?_;refine aj ?_;refine al ?_;refine al ?_;show J X _ _ _;refine ag hG ?_ ?_;·first|trivial|omega|(simp;done)|(simp;omega)
  refine aj ?_;refine ar ?_ ?_
  ·intro hb1;(try simp only[bt] at hb1);refine al ?_;show J X _ _ _;refine ag hG ?_ ?_
   ·(try simp only[ba]);exact⟨⟨by omega,by omega⟩,hC.1.1,(div_one hC.2.1 hb0 hb1).1,by have:=hC.2.2.2;omega⟩
   (refine aj ?_;refine al ?_;show J X _ _ _;refine ag hG ?_ ?_;·first|trivial|omega|(simp;done)|(simp;omega));refine aj ?_;refine az ?_;refine aB ?_;refine q_e [62] ?_;exact(div_one hC.2.1 hb0 hb1).2
  ·intro hb1;simp only[beq_eq_false_iff_ne,ne_eq] at hb1;obtain⟨p,hp⟩:∃ p,List.length o=p+2:=pT hC.2.2.1 hb1;obtain⟨D,f⟩:∃ D:List Int,hZ m o D p:=⟨_,hZ.mk' hC.1 hC.2.1 hp (Kz hb0) hC.2.2.2⟩;have hDl:=f.hDl;have hcc:=f.hc;have hlm:=f.hlm;refine au ?_;refine aj ?_;refine cB (fun(z:Int)=>(⟨[(0, .l (.z (.slice (.int .u32)) m)),(1, .l (.z (.slice (.int .u32)) o)),(8, .l (.z (.int .u32) z))], []⟩:aa)) (fun z=>z=aO o) ?_ ?_
   ·show J X _ _ _;refine ag hG ?_ ?_
    ·(try simp only[ba]);have h:=tT f.ho f.hp (by omega);exact⟨h.1,h.2.1⟩
    show ∃ z,_;refine q_l ?_;exact(tT f.ho f.hp (by omega)).2.2
   rintro d hd;(try dsimp only at hd);subst hd;refine al ?_;show J X _ _ _;refine gZ hG ?_ ?_
   ·(try simp only[ba]);exact HE f
   (refine aj ?_;refine al ?_;show J X _ _ _;refine ag hG ?_ ?_;·first|trivial|omega|(simp;done)|(simp;omega));refine aj ?_;refine al ?_;show J X _ _ _;refine ag hG ?_ ?_
   ·(try simp only[ba]);exact HF f
   (refine aj ?_;refine al ?_;refine al ?_;show J X _ _ _;refine ag hG ?_ ?_;·first|trivial|omega|(simp;done)|(simp;omega));refine aj ?_;refine av ?_;refine bw (fun(z:Nat×List Int×List Int)=>(⟨[(8, .l (.z (.int .u32) (aO o))),(9, .l (.ownS 1392)),(10, .l (.z (.slice (.int .u32)) D)),(11, .l (.z (.int .i64) (List.length o:Int))),(12, .l (.ownS 62)),(13, .l (.z (.int .i64) ((z.1:Int)-1)))], [(1392, .arr (.int .u32) 161 z.2.1),(62, .arr (.int .u32) 161 z.2.2)]⟩:aa)) (fun z=>kj (valL m*aO o) (valL D) (List.length m) (p+2) z.1 z.2.1 z.2.2) (fun z=>z.1) (List.length m+1-List.length o,padL (valL m*aO o).toNat (List.length m+1),List.replicate (List.length m+1-List.length o) 0) ?_ ?_ ?_;·refine q_l ?_;exact Nw f
   ·exact DB f
   ·(rintro⟨k,T,Q⟩ hz;(try dsimp only at hz);have hz1:=hz.1;have hz3:=hz.2.2.1;have hz5:=hz.2.2.2.2.1;refine al ?_;refine al ?_;show J X _ _ _;refine ag hG ?_ ?_;·first|trivial|omega|(simp;done)|(simp;omega));refine aj ?_;refine ar ?_ ?_
    ·intro hb2;(try simp only[decide_eq_true_eq] at hb2);obtain⟨j,rfl⟩:∃ j,k=j+1:=⟨k-1,by omega⟩;(have ej:(((j+1:Nat)):Int)-1=(j:Int):=by omega);rw[ej];(have hw17:(j:Int).toNat<List.length T:=by omega);(have hw19:∀ v:Int,(j:Int).toNat<(List.take (j:Int).toNat T++put (List.drop (j:Int).toNat T) (List.length D+1) v).length:=fun v=>by rw[Fa _ (by rw[hDl];omega)];exact hw17);(have ej0:IntKind.i64.wrap ((j:Int)+(List.length o:Int))=((j+(p+2):Nat):Int):=by rw[wi (by omega) (by omega)];omega);(have ej1:IntKind.i64.wrap (((j+(p+2):Nat):Int)-1)=((j+(p+1):Nat):Int):=by rw[wi (by omega) (by omega)];omega);(have ej2:IntKind.i64.wrap (((j+(p+2):Nat):Int)-2)=((j+p:Nat):Int):=by rw[wi (by omega) (by omega)];omega);have g:=z8 (j:=j) (p:=p) hz.2.1 f.hL f.hDl f.hVp (by omega) hz.2.2.2.2.2.2;have hD1:=(f.hL.getD (p+1)).2;(have hTj:j+(p+3)<=List.length T:=by omega);refine au ?_;refine aj ?_;refine al ?_;refine av ?_;refine cB (fun(z:Int)=>(⟨[(8, .l (.z (.int .u32) (aO o))),(9, .l (.ownS 1392)),(10, .l (.z (.slice (.int .u32)) D)),(11, .l (.z (.int .i64) (List.length o:Int))),(12, .l (.ownS 62)),(13, .l (.z (.int .i64) (j:Int))),(14, .l (.z (.int .u64) z))], [(1392, .arr (.int .u32) 161 T),(62, .arr (.int .u32) 161 Q)]⟩:aa)) (fun z=>z=T.getD (j+(p+2)) 0*LB+T.getD (j+(p+1)) 0/\z<LB*LB) ?_ ?_
     ·show J X _ _ _;refine gZ hG ?_ ?_
      ·(try simp only[ba]);simp only[ej0,ej1,Int.toNat_natCast];exact⟨⟨by omega,by omega⟩,by omega,⟨by omega,by omega⟩,by omega⟩
      show ∃ z,_;refine q_l ?_;simp only[f.en1,f.en2,ej0,ej1,ej2,Int.toNat_natCast,fX];have:=Ku (hz.2.1.getD (j+(p+2))) (hz.2.1.getD (j+(p+1)));rw[this.1];exact⟨rfl,this.2.1⟩
     rintro top ht;(try dsimp only at ht);have g2:=g;rw[<- ht.1] at g2;have ht0:=g2.htop;refine cB (fun(z:Int)=>(⟨[(8, .l (.z (.int .u32) (aO o))),(9, .l (.ownS 1392)),(10, .l (.z (.slice (.int .u32)) D)),(11, .l (.z (.int .i64) (List.length o:Int))),(12, .l (.ownS 62)),(13, .l (.z (.int .i64) (j:Int))),(14, .l (.z (.int .u64) top)),(15, .l (.z (.int .u64) z))], [(1392, .arr (.int .u32) 161 T),(62, .arr (.int .u32) 161 Q)]⟩:aa)) (fun z=>z=min (top/D.getD (p+1) 0) 999999999) ?_ ?_
     ·show J X _ _ _;refine ag hG ?_ ?_
      ·(try simp only[ba]);simp only[f.en1,f.en2,ej0,ej1,ej2,Int.toNat_natCast,fX];exact⟨⟨by omega,by omega⟩,(Aa ht0 ht.2 g.hD1 hD1).2⟩
      show ∃ z,_;refine q_l ?_;simp only[f.en1,f.en2,ej0,ej1,ej2,Int.toNat_natCast,fX];rw[(Aa ht0 ht.2 g.hD1 hD1).1]
     (rintro gs hg;(try dsimp only at hg);refine al ?_;refine av ?_;refine bw (fun(z:Int)=>(⟨[(8, .l (.z (.int .u32) (aO o))),(9, .l (.ownS 1392)),(10, .l (.z (.slice (.int .u32)) D)),(11, .l (.z (.int .i64) (List.length o:Int))),(12, .l (.ownS 62)),(13, .l (.z (.int .i64) (j:Int))),(14, .l (.z (.int .u64) top)),(15, .l (.z (.int .u64) z))], [(1392, .arr (.int .u32) 161 T),(62, .arr (.int .u32) 161 Q)]⟩:aa)) (fun z=>HD (valL ((T.drop j).take (p+3))) (valL D) top (D.getD (p+1) 0) z) (fun z=>z.toNat) gs ?_ ?_ ?_;·simp only[ml0,ml1,Nat.reduceLT,Nat.reduceEqDiff,Nat.reduceAdd,Nat.reduceMul,Nat.reduceSub,Nat.reduceLeDiff,Nat.reduceBEq,Nat.reduceBNe,reduceIte,reduceDIte,reduceCtorEq]);·exact Nu g2 hg
     ·rintro q hq;(try dsimp only at hq);refine al ?_;refine al ?_;show J X _ _ _;refine gZ hG ?_ ?_
      ·(try simp only[ba]);simp only[f.en1,f.en2,ej0,ej1,ej2,Int.toNat_natCast,fX];exact⟨⟨by omega,by omega⟩,⟨by omega,by omega⟩,⟨by omega,by omega⟩,by omega,fun h=>h,fun h=>⟨h,by omega,by omega⟩,fun h=>h⟩
      refine aj ?_;refine ar ?_ ?_
      ·(intro hb3;(try simp only[bt] at hb3);refine au ?_;refine aj ?_;refine av ?_;show J X _ _ _;refine ag hG ?_ ?_;·first|trivial|omega|(simp;done)|(simp;omega));refine aN ?_;show ∃ z,_;refine q_l ?_;simp only[f.en1,f.en2,ej0,ej1,ej2,Int.toNat_natCast,fX] at hb3;exact Pu g2 ht.2 hD1 hq hb3
      ·intro hb3;(try simp only[bf] at hb3);refine bj ?_;refine aG ?_;refine ay ?_;refine ax ?_;refine aj ?_;refine cB (fun(z:Int×List Int)=>(⟨[(8, .l (.z (.int .u32) (aO o))),(9, .l (.ownS 1392)),(10, .l (.z (.slice (.int .u32)) D)),(11, .l (.z (.int .i64) (List.length o:Int))),(12, .l (.ownS 62)),(13, .l (.z (.int .i64) (j:Int))),(15, .l (.z (.int .u64) z.1))], [(1392, .arr (.int .u32) 161 z.2),(62, .arr (.int .u32) 161 Q)]⟩:aa)) (fun z=>z.1=valL ((T.drop j).take (p+3))/valL D/\z.2=T.take j++put (T.drop j) (p+3) (valL ((T.drop j).take (p+3))-z.1*valL D)) ?_ ?_
       ·refine al ?_;show J X _ _ _;refine cM hG (by simp only[hw17,hT,xe,b9.eq_def,cr.eq_def,fe,xd,xc,mq,o7,ez,mx0,mx1,mx2,mx3,mx4,mx5,mx6,aV,br,bN,bc,bq,Ty.fieldTy,Ty.fieldOf,Nat.reduceLT,Nat.reduceEqDiff,Nat.reduceAdd,Nat.reduceMul,Nat.reduceSub,Nat.reduceLeDiff,Nat.reduceBEq,Nat.reduceBNe,reduceIte,reduceDIte,reduceCtorEq];rfl) ?_ ?_
        ·(try simp only[ba]);simp only[Int.toNat_natCast];exact⟨⟨by omega,by omega⟩,⟨hz.2.1.drop j,f.hL,⟨hq.2.2.2,hq.2.1⟩,by rw[hDl,List.length_drop];omega,by rw[hDl];unfold CAP;omega⟩,by rw[List.length_take];omega⟩
        refine aj ?_;refine ar ?_ ?_
        ·(intro hb4;(try simp only[bt] at hb4);refine al ?_;show J X _ _ _;refine ag hG ?_ ?_;·first|trivial|omega|(simp;done)|(simp;omega));refine aj ?_;show J X _ _ _;refine cM hG (by simp only[hw17,hw19,hT,xe,b9.eq_def,cr.eq_def,fe,xd,xc,mq,o7,ez,mx0,mx1,mx2,mx3,mx4,mx5,mx6,aV,br,bN,bc,bq,Ty.fieldTy,Ty.fieldOf,Nat.reduceLT,Nat.reduceEqDiff,Nat.reduceAdd,Nat.reduceMul,Nat.reduceSub,Nat.reduceLeDiff,Nat.reduceBEq,Nat.reduceBNe,reduceIte,reduceDIte,reduceCtorEq];rfl) ?_ ?_
         ·(try simp only[ba]);simp only[Int.toNat_natCast,f.hDl3];rw[(tU _ hTj).1,(tU _ hTj).2,Fa _ hTj];exact⟨⟨by omega,by omega⟩,⟨E8 (hz.2.1.drop j) _ _,f.hL,by rw[x4 _ (by rw[List.length_drop];omega),List.length_drop];omega,by rw[hDl];unfold CAP;omega⟩,by rw[List.length_take];omega⟩
         show ∃ z,_;refine q_l ?_;simp only[Int.toNat_natCast,f.hDl3] at hb4 ⊢;simp only[f.en1,f.en2,ej0,ej1,ej2,Int.toNat_natCast,fX] at hb3;have hst:=Kw g2 ht.2 hD1 hq hb3;first|(have hq1:=hst.1 hb4;have hqn:=g.qnn;have hql:=g.qlt;have hB:LB=1000000000:=rfl;rw[w64 (x:=q-1) (by omega) (by omega),v7 hTj];exact⟨hq1,rfl⟩)|exact⟨hst.2 hb4,trivial⟩|exact⟨hst.2 hb4,rfl⟩
        ·intro hb4;(try simp only[bf] at hb4);refine au ?_;show ∃ z,_;refine q_l ?_;simp only[Int.toNat_natCast,f.hDl3] at hb4 ⊢;simp only[f.en1,f.en2,ej0,ej1,ej2,Int.toNat_natCast,fX] at hb3;have hst:=Kw g2 ht.2 hD1 hq hb3;first|(have hq1:=hst.1 hb4;have hqn:=g.qnn;have hql:=g.qlt;have hB:LB=1000000000:=rfl;rw[w64 (x:=q-1) (by omega) (by omega),v7 hTj];exact⟨hq1,rfl⟩)|exact⟨hst.2 hb4,trivial⟩|exact⟨hst.2 hb4,rfl⟩
       rintro⟨q2,Tn⟩ hq2;(try dsimp only at hq2);show J X _ _ _;refine ag hG ?_ ?_
       ·(try simp only[ba]);exact⟨⟨by omega,by omega⟩,by omega⟩
       (refine aN ?_;refine aj ?_;show J X _ _ _;refine ag hG ?_ ?_;·first|trivial|omega|(simp;done)|(simp;omega));show ∃ z,_;refine q_l ?_;rw[wi (x:=(j:Int)-1) (by omega) (by omega),hq2.2,Int.toNat_natCast,w32 (by rw[hq2.1];exact g.qnn) (by rw[hq2.1];have:=g.qlt;have hB:LB=1000000000:=rfl;omega)];exact⟨j,rfl,HB f.hL f.hDl f.hVp f.hlm hz hq2.1,by omega⟩
    ·intro hb2;(try simp only[bf] at hb2);refine bj ?_;refine aG ?_;refine ay ?_;refine ax ?_;refine aj ?_;refine al ?_;show J X _ _ _;refine ag hG ?_ ?_
     ·(try simp only[ba]);exact DC f hz (by omega)
     (refine aj ?_;refine al ?_;show J X _ _ _;refine ag hG ?_ ?_;·first|trivial|omega|(simp;done)|(simp;omega));refine aj ?_;refine az ?_;refine q_e [62] ?_;(obtain rfl:k=0:=by omega);exact Nv f hz
def GM(B:ah):Tab:={types:= [(3,(.int .i64)),(4, .bool),(87,(.slice (.int .u32))),(89,(.st (.pair .bool (.slice (.int .u32)))))],elems:= [],cons:= [(110,Bi),(133,ib),(150,ez),(154,qc),(177,jY),(179,ON)],hint:= [],N:=47,base:=B}
theorem MR{B:ah}(hB:aC B):aJ Tryz.prog (GM B):=⟨⟨tc ty3 (tc ty4 (tc iP (tc gH (ae)))),af,by simp only[GM,ioB];omega⟩,aF (cc Tryz.func110 (yN hB) (cc Tryz.func133 (n9 hB) (cc Tryz.func150 (kB hB) (cc Tryz.func154 (yK hB) (cc Tryz.func177 (GK hB) (cc Tryz.func179 (OO hB) (aw))))))),by kernel_rfl⟩
def GN:Con:=fun l os=>match l,os with
 | [.z (.st (.pair .bool (.slice (.int .u32)))) x, .z (.st (.pair .bool (.slice (.int .u32)))) y], []=>some (oD x y, [.z (.st (.pair .bool (.slice (.int .u32)))) (enc (bV (dec x) (dec y))), .z (.st (.pair .bool (.slice (.int .u32)))) (enc (jA (dec x) (dec y)))], [])
 |_,_=>none
theorem OZ{B:ah}(hB:aC B):Valid B Tryz.prog 149 GN:=by
 refine ab (MR hB).tab Tryz.func149 rfl rfl rfl ?_;intro args os C rs os' hc hC;unfold GN at hc;split at hc;case h_2=>cases hc
 rename_i x y;cases hc;refine v_h (MR hB) fun X hP hT hr hG=> ?_;have hU:=GM.eq_1;unfold GM at hT;have hX:=ai @Bi.eq_1<|ai @jY.eq_1<|ai @qc.eq_1<|ai @ib.eq_1<|ai @ON.eq_1<| @ez.eq_1;simp only[Tryz.f149,aD,an,ioB];refine s_g hG ?_;refine s_q hG ?_ ?_
 ·try simp only[ba]
  exact hC.side1
 refine s_d hG ?_ ?_
 ·try simp only[ba]
  exact hC.side2
 refine al ?_;refine s_q hG ?_ ?_
 ·try simp only[ba]
  exact⟨enc_ok _,fun h=>h⟩
 refine ar ?_ ?_
 ·intro hb0;try simp only[bt] at hb0
  refine gZ hG ?_ ?_
  ·(try simp only[ba]);exact hC.side4
  refine aj ?_;refine s_d hG ?_ ?_;·first|trivial|omega|(simp;done)|(simp;omega)
  refine az ?_;refine q_e [] ?_;exact hC.fin1 hb0
 ·intro hb0;try simp only[bf] at hb0
  refine au ?_;refine aj ?_;refine s_d hG ?_ ?_;·first|trivial|omega|(simp;done)|(simp;omega)
  refine az ?_;refine q_e [] ?_;exact hC.fin2 hb0
def vf(B:ah):Tab:={types:= [(87,(.slice (.int .u32))),(161,(.int .u32)),(164,(.int .u64))],elems:= [],cons:= [(193,w6)],hint:= [],N:=16,base:=B}
theorem MS{B:ah}(hB:aC B):aJ Tryz.prog (vf B):=⟨⟨tc iP (tc gg (tc nH (ae))),af,by simp only[vf,ioB];omega⟩,aF (cc Tryz.func193 (Gm hB) (aw)),by kernel_rfl⟩
def y0:Con:=fun l os=>match l,os with
 | [.z (.slice (.int .u32)) m], []=>some (Lim m/\m.length<=2, [.z (.int .u64) (valL m)], [])
 |_,_=>none
theorem O0{B:ah}(hB:aC B):Valid B Tryz.prog 178 y0:=by
 refine ab (MS hB).tab Tryz.func178 rfl rfl rfl ?_;intro args os C rs os' hc hC;unfold y0 at hc;split at hc;case h_2=>cases hc
 rename_i m;cases hc;refine v_h (MS hB) fun X hP hT hr hG=> ?_;have hU:=vf.eq_1;unfold vf at hT;have hX:= @w6.eq_1;simp only[Tryz.f178,aD,an,ioB];refine s_g hG ?_;refine s_g hG ?_;refine al ?_;refine s_g hG ?_;refine av ?_;refine EX hr (gf:=208) (caps:= [.z (.ptr (.slice (.int .u32))) m]) (items:=cY m) (by simp only[hT,vf,mx0,mx1,mx2,mx3,mx4,mx5,mx6,aV,br,bN,bc,bq,Ty.fieldTy,Ty.fieldOf,Nat.reduceLT,Nat.reduceEqDiff,Nat.reduceAdd,Nat.reduceMul,Nat.reduceSub,Nat.reduceLeDiff,Nat.reduceBEq,Nat.reduceBNe,reduceIte,reduceDIte,reduceCtorEq];try rfl) (by rfl) (by rw[hP];exact Ae m) (by rfl) [3] (by rfl) (by simp only[hT,vf];try rfl) (fun(k:Nat) (z:Int)=>(⟨[(3, .l (.ownP 3 0))], [(3, .box 164 [.z (.int .u64) z])]⟩:aa)) (fun(k:Nat) (z:Int)=>z=valL (List.drop (List.length m-k) m)) 0 ?_ ?_ ?_ ?_ ?_;·simp only[ml0,ml1,Nat.reduceLT,Nat.reduceEqDiff,Nat.reduceAdd,Nat.reduceMul,Nat.reduceSub,Nat.reduceLeDiff,Nat.reduceBEq,Nat.reduceBNe,reduceIte,reduceDIte,reduceCtorEq]
 ·rw[Kj];rfl
 ·intro k z;rfl
 ·intro k hk;rintro z hz;try dsimp only at hz
  have hk:k<List.length m:=by simpa [cY] using hk
  refine⟨_,by simp only[hT,vf,cY,tZ,mx0,mx1,mx2,mx3,mx4,mx5,mx6,aV,br,bN,bc,bq,Ty.fieldTy,Ty.fieldOf,Nat.reduceLT,Nat.reduceEqDiff,Nat.reduceAdd,Nat.reduceMul,Nat.reduceSub,Nat.reduceLeDiff,Nat.reduceBEq,Nat.reduceBNe,reduceIte,reduceDIte,reduceCtorEq,List.getElem_map,List.getElem_range];rfl,?_⟩;intro X' hP' hT';have hG':aJ X'.P X'.T:=by rw[hP',hT'];exact hG.keep _
  rw[hT] at hT';refine av ?_;refine oy hG' ?_ ?_;·first|trivial|omega|(simp;done)|(simp;omega)
  refine aN ?_;show ∃ z,_;simp only[ml0,ml1,Nat.reduceLT,Nat.reduceEqDiff,Nat.reduceAdd,Nat.reduceMul,Nat.reduceSub,Nat.reduceLeDiff,Nat.reduceBEq,Nat.reduceBNe,reduceIte,reduceDIte,reduceCtorEq];exact zU hC.1 hC.2 hk hz
 ·rintro z hz;try dsimp only at hz
  rw[show List.length (cY m)=List.length m by simp[cY],Nat.sub_self,List.drop_zero] at hz;refine aN ?_;refine aj ?_;refine s_g hG ?_;refine az ?_;refine q_e [] ?_;exact hz
def GO(B:ah):Tab:={types:= [(3,(.int .i64)),(4, .bool),(87,(.slice (.int .u32))),(89,(.st (.pair .bool (.slice (.int .u32))))),(161,(.int .u32)),(164,(.int .u64))],elems:= [(87,161)],cons:= [(150,ez),(177,jY),(178,y0)],hint:= [],N:=68,base:=B}
theorem MT{B:ah}(hB:aC B):aJ Tryz.prog (GO B):=⟨⟨tc ty3 (tc ty4 (tc iP (tc gH (tc gg (tc nH (ae)))))),aT (by kernel_rfl) (af),by simp only[GO,ioB];omega⟩,aF (cc Tryz.func150 (kB hB) (cc Tryz.func177 (GK hB) (cc Tryz.func178 (O0 hB) (aw)))),by kernel_rfl⟩
def xf:Con:=fun l os=>match l,os with
 | [.z (.st (.pair .bool (.slice (.int .u32)))) x, .z (.st (.pair .bool (.slice (.int .u32)))) y], []=>some (oE x y, [.z (.st (.pair .bool (.slice (.int .u32)))) (enc (cJ (dec x) (dec y)))], [])
 |_,_=>none
theorem GP{B:ah}(hB:aC B):Valid B Tryz.prog 147 xf:=by
 refine ab (MT hB).tab Tryz.func147 rfl rfl rfl ?_;intro args os C rs os' hc hC;unfold xf at hc;split at hc;case h_2=>cases hc
 rename_i x y;cases hc;refine v_h (MT hB) fun X hP hT hr hG=> ?_;have hU:=GO.eq_1;unfold GO at hT;have hX:=ai @jY.eq_1<|ai @y0.eq_1<| @ez.eq_1;simp only[Tryz.f147,aD,an,ioB];refine s_g hG ?_;refine s_d hG ?_ ?_;·first|trivial|omega|(simp;done)|(simp;omega)
 refine al ?_;refine av ?_;refine bw (fun(z:List Int×List Int)=>(⟨[(4, .l (.ownP 4 0)),(5, .l (.z (.slice (.int .u32)) z.1)),(6, .l (.z (.slice (.int .u32)) z.2))], [(4, .box 89 [.z .bool false, .val (.slice none 0 0)])]⟩:aa)) (fun z=>x6 x y z.1 z.2) (fun z=>(valL z.2).toNat) (x.2,y.2) ?_ ?_ ?_;·simp only[ml0,ml1,Nat.reduceLT,Nat.reduceEqDiff,Nat.reduceAdd,Nat.reduceMul,Nat.reduceSub,Nat.reduceLeDiff,Nat.reduceBEq,Nat.reduceBNe,reduceIte,reduceDIte,reduceCtorEq]
 ·exact x6.start hC
 ·rintro⟨u,v⟩ hz;try dsimp only at hz
  have hcc:2*(List.length x.2+List.length y.2)+4<1000000000000:=hC.hc;refine al ?_;refine s_g hG ?_;refine ar ?_ ?_
  ·intro hb0;(try simp only[bt] at hb0);refine au ?_;refine aj ?_;refine av ?_;refine s_q hG ?_ ?_
   ·(try simp only[ba]);exact hz.side3 hC (gF (by omega))
   refine ag hG ?_ ?_
   ·(try simp only[ba]);exact hz.side4 hC (gF (by omega))
   refine aN ?_;show ∃ z,_;refine q_l ?_;exact hz.next hC (gF (by omega))
  ·intro hb0;(try simp only[bf] at hb0);refine bj ?_;refine aG ?_;refine ay ?_;refine ax ?_;refine aj ?_;refine al ?_;refine s_g hG ?_;refine ar ?_ ?_
   ·intro hb1;(try simp only[bt] at hb1);refine s_q hG ?_ ?_
    ·(try simp only[ba]);exact⟨hz.hu.1,by have:=hz.hul;unfold CAP;omega⟩
    refine az ?_;refine aB ?_;refine q_e [65] ?_;exact hz.stop (DD (by omega))
   ·intro hb1;simp only[beq_eq_false_iff_ne,ne_eq] at hb1;refine au ?_;refine aj ?_;refine s_q hG ?_ ?_
    ·(try simp only[ba]);exact hz.side3 hC (gF (by omega))
    refine s_q hG ?_ ?_
    ·(try simp only[ba]);have hr:=hz.rest (gF (by omega));exact⟨⟨hz.hv.1,by omega⟩,hz.side4 hC (gF (by omega)),hr.1.1,by omega⟩
    (refine al ?_;refine av ?_;refine bw (fun(z:Int×Int)=>(⟨[(4, .l (.ownP 4 0)),(11, .l (.z (.int .u64) z.1)),(12, .l (.z (.int .u64) z.2))], [(4, .box 89 [.z .bool false, .val (.slice none 0 0)])]⟩:aa)) (fun z=>x7 x y z.1 z.2) (fun z=>z.2.toNat) (valL v,valL (enc (dec (false,ee u v))).2) ?_ ?_ ?_;·simp only[ml0,ml1,Nat.reduceLT,Nat.reduceEqDiff,Nat.reduceAdd,Nat.reduceMul,Nat.reduceSub,Nat.reduceLeDiff,Nat.reduceBEq,Nat.reduceBNe,reduceIte,reduceDIte,reduceCtorEq]);·exact x7.start hz hC (gF (by omega)) (by omega)
    ·rintro⟨a,b⟩ he;(try dsimp only at he);refine al ?_;refine s_g hG ?_;refine ar ?_ ?_
     ·intro hb2;(try simp only[bt] at hb2);refine au ?_;refine aj ?_;refine av ?_;refine gZ hG ?_ ?_
      ·(try simp only[ba]);omega
      refine aN ?_;show ∃ z,_;refine q_l ?_;exact he.next hb2
     ·(intro hb2;(try simp only[decide_eq_false_iff_not] at hb2);have he2:=he.stop hb2;refine bj ?_;refine aG ?_;refine ay ?_;refine ax ?_;refine aj ?_;refine s_g hG ?_;refine al ?_;refine av ?_;refine bw (fun(z:Nat×List Int)=>(⟨[(11, .l (.z (.int .u64) (z.1:Int))),(13, .l (.ownP 13 0)),(4, .l (.ownP 4 0))], [(13, .box 89 [.z .bool false, .ownS 65]),(65, .arr (.int .u32) 161 z.2),(4, .box 89 [.z .bool false, .val (.slice none 0 0)])]⟩:aa)) (fun z=>z.2++limbs z.1=limbs (cJ (dec x) (dec y)).toNat/\z.1<18446744073709551616) (fun z=>z.1) ((cJ (dec x) (dec y)).toNat, []) ?_ ?_ ?_;·refine q_l ?_;exact⟨he2.1,by unfold ioB;omega⟩);·exact⟨by simp,he2.2⟩
      ·rintro⟨w,l⟩ ⟨g1,g2⟩;(try dsimp only at g1 g2);refine al ?_;refine s_g hG ?_;refine ar ?_ ?_
       ·intro hb3;(try simp only[bt] at hb3);refine au ?_;refine aj ?_;refine al ?_;refine av ?_;refine ag hG ?_ ?_
        ·(try simp only[ba]);have h3:=mY he2.2;have h4:=congrArg List.length g1;simp only[List.length_append] at h4;exact⟨by decide,by unfold Cm.Roomy;omega⟩
        (refine aN ?_;refine aj ?_;refine ag hG ?_ ?_;·first|trivial|omega|(simp;done)|(simp;omega));show ∃ z,_;refine q_l ?_;exact pP g1 g2 hb3
       ·intro hb3;(try simp only[bf] at hb3);refine bj ?_;refine aG ?_;refine ay ?_;refine ax ?_;refine aj ?_;refine s_g hG ?_;refine az ?_;refine q_e [65] ?_;(have h0:w=0:=by omega);subst h0;rw[show limbs 0= [] by simp[limbs],List.append_nil] at g1;rw[g1];exact Ny _ _
def qM(B:ah):Tab:={types:= [(3,(.int .i64)),(4, .bool),(87,(.slice (.int .u32))),(89,(.st (.pair .bool (.slice (.int .u32))))),(91,(.st (.pair (.st (.pair .bool (.slice (.int .u32)))) (.st (.pair .bool (.slice (.int .u32))))))),(161,(.int .u32))],elems:= [],cons:= [(147,xf),(148,Bh),(149,GN)],hint:= [2,3,5],N:=43,base:=B}
theorem Bv{B:ah}(hB:aC B):aJ Tryz.prog (qM B):=⟨⟨tc ty3 (tc ty4 (tc iP (tc gH (tc ty91 (tc gg (ae)))))),af,by simp only[qM,ioB];omega⟩,aF (cc Tryz.func147 (GP hB) (cc Tryz.func148 (yJ hB) (cc Tryz.func149 (OZ hB) (aw)))),by kernel_rfl⟩
def kP:Con:=fun l os=>match l,os with
 | [.z (.st (.pair .bool (.slice (.int .u32)))) n, .z (.st (.pair .bool (.slice (.int .u32)))) d], []=>some (gQ n d, [.z (.st (.pair (.st (.pair .bool (.slice (.int .u32)))) (.st (.pair .bool (.slice (.int .u32)))))) (bk (Rat.divInt (dec n) (dec d)))], [])
 |_,_=>none
theorem jZ{B:ah}(hB:aC B):Valid B Tryz.prog 108 kP:=by
 refine ab (Bv hB).tab Tryz.func108 rfl rfl rfl ?_;intro args os C rs os' hc hC;unfold kP at hc;split at hc;case h_2=>cases hc
 rename_i n d;cases hc;refine v_h (Bv hB) fun X hP hT hr hG=> ?_;have hU:=qM.eq_1;unfold qM at hT;have hX:=ai @GN.eq_1<|ai @xf.eq_1<| @Bh.eq_1;simp only[Tryz.f108,aD,an,ioB];refine s_g hG ?_;refine s_q hG ?_ ?_
 ·try simp only[ba]
  exact PC hC
 refine cB (fun(z:Int)=>(⟨[(2, .l (.ownP 2 0)),(3, .l (.ownP 3 0)),(4, .l (.ownP 4 0)),(5, .l (.ownP 5 0))], [(2, .box 89 [.z .bool n.1, .z (.slice (.int .u32)) n.2]),(3, .box 89 [.z .bool d.1, .z (.slice (.int .u32)) d.2]),(4, .box 91 [.z .bool false, .val (.slice none 0 0), .z .bool false, .val (.slice none 0 0)]),(5, .box 89 [.z .bool (enc z).1, .z (.slice (.int .u32)) (enc z).2])]⟩:aa)) (fun z=>z=dL (dec n) (dec d)) ?_ ?_
 ·refine s_g hG ?_;refine ar ?_ ?_
  ·intro hb0;(try simp only[bt] at hb0);refine ag hG ?_ ?_
   ·(try simp only[ba]);exact PD hC
   show ∃ z,_;refine q_l ?_;(try simp only[pe,bO]);first|exact⟨_,rfl,rfl,Qu hC hb0⟩|exact⟨_,rfl,rfl,Qv hC hb0⟩
  ·intro hb0;(try simp only[bf] at hb0);refine au ?_;show ∃ z,_;refine q_l ?_;(try simp only[pe,bO]);first|exact⟨_,rfl,rfl,Qu hC hb0⟩|exact⟨_,rfl,rfl,Qv hC hb0⟩
 rintro g hg;try dsimp only at hg
 subst hg;have hp:=mk_pos hC;refine al ?_;refine s_q hG ?_ ?_
 ·try simp only[ba]
  (repeat' (first|apply And.intro|intro _))<;>(try simp only[decide_eq_true_eq,decide_eq_false_iff_not,Bool.not_eq_true',beq_iff_eq,Int.toNat_natCast] at*)<;>first|assumption|omega|trivial|(simp_all;done)|(simp_all;omega)
 refine ar ?_ ?_
 ·intro hb1;try simp only[bt] at hb1
  refine s_q hG ?_ ?_
  ·(try simp only[ba]);exact(KR hC).1
  refine ag hG ?_ ?_
  ·(try simp only[ba]);exact(KR hC).2
  refine aj ?_;refine s_g hG ?_;refine az ?_;refine q_e [] ?_;simp only[pe,bO];exact(nd hC.2.2.1).symm
 ·intro hb1;try simp only[bf] at hb1
  refine au ?_;refine aj ?_;refine s_g hG ?_;refine az ?_;refine q_e [] ?_;exact PE hC hb1
def qN(B:ah):Tab:={types:= [(89,(.st (.pair .bool (.slice (.int .u32))))),(91,(.st (.pair (.st (.pair .bool (.slice (.int .u32)))) (.st (.pair .bool (.slice (.int .u32)))))))],elems:= [],cons:= [(108,kP),(109,Bj),(110,Bi)],hint:= [],N:=22,base:=B}
theorem Bw{B:ah}(hB:aC B):aJ Tryz.prog (qN B):=⟨⟨tc gH (tc ty91 (ae)),af,by simp only[qN,ioB];omega⟩,aF (cc Tryz.func108 (jZ hB) (cc Tryz.func109 (yO hB) (cc Tryz.func110 (yN hB) (aw)))),by kernel_rfl⟩
def mO:Con:=fun l os=>match l,os with
 | [.z (.st (.pair (.st (.pair .bool (.slice (.int .u32)))) (.st (.pair .bool (.slice (.int .u32)))))) x, .z (.st (.pair (.st (.pair .bool (.slice (.int .u32)))) (.st (.pair .bool (.slice (.int .u32)))))) y], []=>some (gI x y, [.z (.st (.pair (.st (.pair .bool (.slice (.int .u32)))) (.st (.pair .bool (.slice (.int .u32)))))) (bk (bG x+bG y))], [])
 |_,_=>none
theorem mr{B:ah}(hB:aC B):Valid B Tryz.prog 58 mO:=by
 refine ab (Bw hB).tab Tryz.func58 rfl rfl rfl ?_;intro args os C rs os' hc hC;unfold mO at hc;split at hc;case h_2=>cases hc
 rename_i x y;cases hc;refine v_h (Bw hB) fun X hP hT hr hG=> ?_;have hU:=qN.eq_1;unfold qN at hT;have hX:=ai @Bi.eq_1<|ai @kP.eq_1<| @Bj.eq_1;simp only[Tryz.f58,aD,an,ioB];refine s_g hG ?_;refine s_d hG ?_ ?_
 ·try simp only[ba]
  exact HM hC
 refine az ?_;refine q_e [] ?_;simp only[pe2];exact KS hC
def qO(B:ah):Tab:={types:= [(89,(.st (.pair .bool (.slice (.int .u32))))),(91,(.st (.pair (.st (.pair .bool (.slice (.int .u32)))) (.st (.pair .bool (.slice (.int .u32)))))))],elems:= [],cons:= [(148,Bh)],hint:= [],N:=9,base:=B}
theorem Bx{B:ah}(hB:aC B):aJ Tryz.prog (qO B):=⟨⟨tc gH (tc ty91 (ae)),af,by simp only[qO,ioB];omega⟩,aF (cc Tryz.func148 (yJ hB) (aw)),by kernel_rfl⟩
def GR:Con:=fun l os=>match l,os with
 | [.z (.st (.pair (.st (.pair .bool (.slice (.int .u32)))) (.st (.pair .bool (.slice (.int .u32)))))) x], []=>some (NOK x/\lq (bG x)<=QC, [.z (.st (.pair (.st (.pair .bool (.slice (.int .u32)))) (.st (.pair .bool (.slice (.int .u32)))))) (bk (-bG x))], [])
 |_,_=>none
theorem IR{B:ah}(hB:aC B):Valid B Tryz.prog 111 GR:=by
 refine ab (Bx hB).tab Tryz.func111 rfl rfl rfl ?_;intro args os C rs os' hc hC;unfold GR at hc;split at hc;case h_2=>cases hc
 rename_i x;cases hc;refine v_h (Bx hB) fun X hP hT hr hG=> ?_;have hU:=qO.eq_1;unfold qO at hT;have hX:= @Bh.eq_1;simp only[Tryz.f111,aD,an,ioB];refine s_g hG ?_;refine s_d hG ?_ ?_
 ·try simp only[ba]
  exact HN hC
 refine az ?_;refine q_e [] ?_;exact KT hC.1
def qP(B:ah):Tab:={types:= [(91,(.st (.pair (.st (.pair .bool (.slice (.int .u32)))) (.st (.pair .bool (.slice (.int .u32)))))))],elems:= [],cons:= [(58,mO),(111,GR)],hint:= [],N:=9,base:=B}
theorem Bz{B:ah}(hB:aC B):aJ Tryz.prog (qP B):=⟨⟨tc ty91 (ae),af,by simp only[qP,ioB];omega⟩,aF (cc Tryz.func58 (mr hB) (cc Tryz.func111 (IR hB) (aw))),by kernel_rfl⟩
def fJ:Con:=fun l os=>match l,os with
 | [.z (.st (.pair (.st (.pair .bool (.slice (.int .u32)))) (.st (.pair .bool (.slice (.int .u32)))))) x, .z (.st (.pair (.st (.pair .bool (.slice (.int .u32)))) (.st (.pair .bool (.slice (.int .u32)))))) y], []=>some (gI x y, [.z (.st (.pair (.st (.pair .bool (.slice (.int .u32)))) (.st (.pair .bool (.slice (.int .u32)))))) (bk (bG x-bG y))], [])
 |_,_=>none
theorem xg{B:ah}(hB:aC B):Valid B Tryz.prog 60 fJ:=by
 refine ab (Bz hB).tab Tryz.func60 rfl rfl rfl ?_;intro args os C rs os' hc hC;unfold fJ at hc;split at hc;case h_2=>cases hc
 rename_i x y;cases hc;refine v_h (Bz hB) fun X hP hT hr hG=> ?_;have hU:=qP.eq_1;unfold qP at hT;have hX:=ai @mO.eq_1<| @GR.eq_1;simp only[Tryz.f60,aD,an,ioB];refine s_g hG ?_;refine s_d hG ?_ ?_
 ·try simp only[ba]
  exact HO hC
 refine az ?_;refine q_e [] ?_;simp only[pe2];exact KU x y
def qQ(B:ah):Tab:={types:= [(89,(.st (.pair .bool (.slice (.int .u32))))),(91,(.st (.pair (.st (.pair .bool (.slice (.int .u32)))) (.st (.pair .bool (.slice (.int .u32)))))))],elems:= [],cons:= [(108,kP),(109,Bj)],hint:= [],N:=16,base:=B}
theorem BA{B:ah}(hB:aC B):aJ Tryz.prog (qQ B):=⟨⟨tc gH (tc ty91 (ae)),af,by simp only[qQ,ioB];omega⟩,aF (cc Tryz.func108 (jZ hB) (cc Tryz.func109 (yO hB) (aw))),by kernel_rfl⟩
def eF:Con:=fun l os=>match l,os with
 | [.z (.st (.pair (.st (.pair .bool (.slice (.int .u32)))) (.st (.pair .bool (.slice (.int .u32)))))) x, .z (.st (.pair (.st (.pair .bool (.slice (.int .u32)))) (.st (.pair .bool (.slice (.int .u32)))))) y], []=>some (gI x y, [.z (.st (.pair (.st (.pair .bool (.slice (.int .u32)))) (.st (.pair .bool (.slice (.int .u32)))))) (bk (bG x*bG y))], [])
 |_,_=>none
theorem mu{B:ah}(hB:aC B):Valid B Tryz.prog 105 eF:=by
 refine ab (BA hB).tab Tryz.func105 rfl rfl rfl ?_;intro args os C rs os' hc hC;unfold eF at hc;split at hc;case h_2=>cases hc
 rename_i x y;cases hc;refine v_h (BA hB) fun X hP hT hr hG=> ?_;have hU:=qQ.eq_1;unfold qQ at hT;have hX:=ai @kP.eq_1<| @Bj.eq_1;simp only[Tryz.f105,aD,an,ioB];refine s_g hG ?_;refine s_d hG ?_ ?_
 ·try simp only[ba]
  exact HP hC
 refine az ?_;refine q_e [] ?_;simp only[pe2];exact KV hC
def qR(B:ah):Tab:={types:= [(89,(.st (.pair .bool (.slice (.int .u32))))),(91,(.st (.pair (.st (.pair .bool (.slice (.int .u32)))) (.st (.pair .bool (.slice (.int .u32)))))))],elems:= [],cons:= [(108,kP),(109,Bj)],hint:= [],N:=16,base:=B}
theorem BB{B:ah}(hB:aC B):aJ Tryz.prog (qR B):=⟨⟨tc gH (tc ty91 (ae)),af,by simp only[qR,ioB];omega⟩,aF (cc Tryz.func108 (jZ hB) (cc Tryz.func109 (yO hB) (aw))),by kernel_rfl⟩
def fK:Con:=fun l os=>match l,os with
 | [.z (.st (.pair (.st (.pair .bool (.slice (.int .u32)))) (.st (.pair .bool (.slice (.int .u32)))))) x, .z (.st (.pair (.st (.pair .bool (.slice (.int .u32)))) (.st (.pair .bool (.slice (.int .u32)))))) y], []=>some (gI x y/\bG y≠0, [.z (.st (.pair (.st (.pair .bool (.slice (.int .u32)))) (.st (.pair .bool (.slice (.int .u32)))))) (bk (bG x/bG y))], [])
 |_,_=>none
theorem xh{B:ah}(hB:aC B):Valid B Tryz.prog 119 fK:=by
 refine ab (BB hB).tab Tryz.func119 rfl rfl rfl ?_;intro args os C rs os' hc hC;unfold fK at hc;split at hc;case h_2=>cases hc
 rename_i x y;cases hc;refine v_h (BB hB) fun X hP hT hr hG=> ?_;have hU:=qR.eq_1;unfold qR at hT;have hX:=ai @kP.eq_1<| @Bj.eq_1;simp only[Tryz.f119,aD,an,ioB];refine s_g hG ?_;refine s_d hG ?_ ?_
 ·try simp only[ba]
  exact HQ hC
 refine az ?_;refine q_e [] ?_;simp only[pe2];exact KW hC.1
def qS(B:ah):Tab:={types:= [(89,(.st (.pair .bool (.slice (.int .u32))))),(91,(.st (.pair (.st (.pair .bool (.slice (.int .u32)))) (.st (.pair .bool (.slice (.int .u32)))))))],elems:= [],cons:= [(154,qc)],hint:= [],N:=6,base:=B}
theorem BC{B:ah}(hB:aC B):aJ Tryz.prog (qS B):=⟨⟨tc gH (tc ty91 (ae)),af,by simp only[qS,ioB];omega⟩,aF (cc Tryz.func154 (yK hB) (aw)),by kernel_rfl⟩
def lQ:Con:=fun l os=>match l,os with
 | [.z (.st (.pair (.st (.pair .bool (.slice (.int .u32)))) (.st (.pair .bool (.slice (.int .u32)))))) x], []=>some (NOK x, [.z (.int .i64) (bD (bG x).num 0)], [])
 |_,_=>none
theorem o8{B:ah}(hB:aC B):Valid B Tryz.prog 114 lQ:=by
 refine ab (BC hB).tab Tryz.func114 rfl rfl rfl ?_;intro args os C rs os' hc hC;unfold lQ at hc;split at hc;case h_2=>cases hc
 rename_i x;cases hc;refine v_h (BC hB) fun X hP hT hr hG=> ?_;have hU:=qS.eq_1;unfold qS at hT;have hX:= @qc.eq_1;simp only[Tryz.f114,aD,an,ioB];refine s_g hG ?_;refine s_q hG ?_ ?_
 ·try simp only[ba]
  exact hC.w1
 refine az ?_;refine q_e [] ?_;rw[hC.d1]
def qT(B:ah):Tab:={types:= [(3,(.int .i64)),(89,(.st (.pair .bool (.slice (.int .u32))))),(91,(.st (.pair (.st (.pair .bool (.slice (.int .u32)))) (.st (.pair .bool (.slice (.int .u32)))))))],elems:= [],cons:= [(108,kP),(133,ib)],hint:= [],N:=10,base:=B}
theorem BD{B:ah}(hB:aC B):aJ Tryz.prog (qT B):=⟨⟨tc ty3 (tc gH (tc ty91 (ae))),af,by simp only[qT,ioB];omega⟩,aF (cc Tryz.func108 (jZ hB) (cc Tryz.func133 (n9 hB) (aw))),by kernel_rfl⟩
def IU:Con:=fun l os=>match l,os with
 | [.z (.int .i64) n, .z (.int .i64) d], []=>some (I64 n/\I64 d/\d≠0, [.z (.st (.pair (.st (.pair .bool (.slice (.int .u32)))) (.st (.pair .bool (.slice (.int .u32)))))) (bk (Rat.divInt n d))], [])
 |_,_=>none
theorem xi{B:ah}(hB:aC B):Valid B Tryz.prog 124 IU:=by
 refine ab (BD hB).tab Tryz.func124 rfl rfl rfl ?_;intro args os C rs os' hc hC;unfold IU at hc;split at hc;case h_2=>cases hc
 rename_i n d;cases hc;refine v_h (BD hB) fun X hP hT hr hG=> ?_;have hU:=qT.eq_1;unfold qT at hT;have hX:=ai @kP.eq_1<| @ib.eq_1;simp only[Tryz.f124,aD,an,ioB];refine s_g hG ?_;refine s_q hG ?_ ?_
 ·try simp only[ba]
  exact KX hC
 refine az ?_;refine q_e [] ?_;simp only[pe2];exact NJ n d
def qU(B:ah):Tab:={types:= [(3,(.int .i64)),(91,(.st (.pair (.st (.pair .bool (.slice (.int .u32)))) (.st (.pair .bool (.slice (.int .u32)))))))],elems:= [],cons:= [(124,IU)],hint:= [],N:=2,base:=B}
theorem BE{B:ah}(hB:aC B):aJ Tryz.prog (qU B):=⟨⟨tc ty3 (tc ty91 (ae)),af,by simp only[qU,ioB];omega⟩,aF (cc Tryz.func124 (xi hB) (aw)),by kernel_rfl⟩
def eG:Con:=fun l os=>match l,os with
 | [], []=>some (True, [.z (.st (.pair (.st (.pair .bool (.slice (.int .u32)))) (.st (.pair .bool (.slice (.int .u32)))))) (bk 0)], [])
 |_,_=>none
theorem mv{B:ah}(hB:aC B):Valid B Tryz.prog 113 eG:=by
 refine ab (BE hB).tab Tryz.func113 rfl rfl rfl ?_;intro args os C rs os' hc hC;unfold eG at hc;split at hc;case h_2=>cases hc
 cases hc;refine v_h (BE hB) fun X hP hT hr hG=> ?_;have hU:=qU.eq_1;unfold qU at hT;have hX:= @IU.eq_1;simp only[Tryz.f113,aD,an,ioB];refine s_g hG ?_;refine s_q hG ?_ ?_
 ·try simp only[ba]
  exact⟨by unfold I64;omega,by unfold I64;omega,by decide⟩
 refine az ?_;refine q_e [] ?_;simp only[pe2];rw[zero_divInt]
def qV(B:ah):Tab:={types:= [(3,(.int .i64)),(87,(.slice (.int .u32))),(89,(.st (.pair .bool (.slice (.int .u32))))),(91,(.st (.pair (.st (.pair .bool (.slice (.int .u32)))) (.st (.pair .bool (.slice (.int .u32))))))),(161,(.int .u32))],elems:= [],cons:= [],hint:= [],N:=16,base:=B}
theorem BF{B:ah}(hB:aC B):aJ Tryz.prog (qV B):=⟨⟨tc ty3 (tc iP (tc gH (tc ty91 (tc gg (ae))))),af,by simp only[qV,ioB];omega⟩,bU rfl,by kernel_rfl⟩
def qW:Con:=fun l os=>match l,os with
 | [.z (.st (.pair (.st (.pair .bool (.slice (.int .u32)))) (.st (.pair .bool (.slice (.int .u32)))))) x], []=>some (NOK x, [.z .bool (decide ((bG x).den=1))], [])
 |_,_=>none
theorem IV{B:ah}(hB:aC B):Valid B Tryz.prog 170 qW:=by
 refine ab (BF hB).tab Tryz.func170 rfl rfl rfl ?_;intro args os C rs os' hc hC;unfold qW at hc;split at hc;case h_2=>cases hc
 rename_i x;cases hc;refine v_h (BF hB) fun X hP hT hr hG=> ?_;have hU:=qV.eq_1;unfold qV at hT;have hX:=Bool.not_true;simp only[Tryz.f170,aD,an,ioB];refine s_g hG ?_;refine s_q hG ?_ ?_
 ·try simp only[ba]
  (repeat' (first|apply And.intro|intro _))<;>(try simp only[decide_eq_true_eq,decide_eq_false_iff_not,Bool.not_eq_true',beq_iff_eq,Int.toNat_natCast] at*)<;>first|assumption|omega|trivial|(simp_all;done)|(simp_all;omega)
 refine az ?_;refine q_e [] ?_;exact DK hC
def qX(B:ah):Tab:={types:= [(3,(.int .i64)),(89,(.st (.pair .bool (.slice (.int .u32))))),(91,(.st (.pair (.st (.pair .bool (.slice (.int .u32)))) (.st (.pair .bool (.slice (.int .u32)))))))],elems:= [],cons:= [(169,qE)],hint:= [],N:=17,base:=B}
theorem BG{B:ah}(hB:aC B):aJ Tryz.prog (qX B):=⟨⟨tc ty3 (tc gH (tc ty91 (ae))),af,by simp only[qX,ioB];omega⟩,aF (cc Tryz.func169 (OT hB) (aw)),by kernel_rfl⟩
def lR:Con:=fun l os=>match l,os with
 | [.z (.st (.pair (.st (.pair .bool (.slice (.int .u32)))) (.st (.pair .bool (.slice (.int .u32)))))) x, .z (.int .i64) k], []=>some (NOK x/\lq (bG x)<=QC, [.z .bool (decide (dN (bG x).num<=k/\dN ((bG x).den:Int)<=k))], [])
 |_,_=>none
theorem o9{B:ah}(hB:aC B):Valid B Tryz.prog 129 lR:=by
 refine ab (BG hB).tab Tryz.func129 rfl rfl rfl ?_;intro args os C rs os' hc hC;unfold lR at hc;split at hc;case h_2=>cases hc
 rename_i x k;cases hc;refine v_h (BG hB) fun X hP hT hr hG=> ?_;have hU:=qX.eq_1;unfold qX at hT;have hX:= @qE.eq_1;simp only[Tryz.f129,aD,an,ioB];refine s_g hG ?_;refine s_q hG ?_ ?_
 ·try simp only[ba]
  exact⟨(kn hC).1,id,fun h=>⟨h,(kn hC).2⟩,id⟩
 refine az ?_;refine q_e [] ?_;exact HR k hC.1
def qY(B:ah):Tab:={types:= [(89,(.st (.pair .bool (.slice (.int .u32))))),(91,(.st (.pair (.st (.pair .bool (.slice (.int .u32)))) (.st (.pair .bool (.slice (.int .u32)))))))],elems:= [],cons:= [],hint:= [],N:=8,base:=B}
theorem BH{B:ah}(hB:aC B):aJ Tryz.prog (qY B):=⟨⟨tc gH (tc ty91 (ae)),af,by simp only[qY,ioB];omega⟩,bU rfl,by kernel_rfl⟩
def qZ:Con:=fun l os=>match l,os with
 | [.z (.st (.pair (.st (.pair .bool (.slice (.int .u32)))) (.st (.pair .bool (.slice (.int .u32)))))) x], []=>some (True, [.z (.st (.pair .bool (.slice (.int .u32)))) x.1, .z (.st (.pair .bool (.slice (.int .u32)))) x.2], [])
 |_,_=>none
theorem IW{B:ah}(hB:aC B):Valid B Tryz.prog 167 qZ:=by
 refine ab (BH hB).tab Tryz.func167 rfl rfl rfl ?_;intro args os C rs os' hc hC;unfold qZ at hc;split at hc;case h_2=>cases hc
 rename_i x;cases hc;refine v_h (BH hB) fun X hP hT hr hG=> ?_;have hU:=qY.eq_1;unfold qY at hT;have hX:=Bool.not_true;simp only[Tryz.f167,aD,an,ioB];refine s_g hG ?_;refine s_d hG ?_ ?_;·first|trivial|omega|(simp;done)|(simp;omega)
 refine az ?_;refine q_e [] ?_;trivial
def q8(B:ah):Tab:={types:= [(9, .str),(89,(.st (.pair .bool (.slice (.int .u32))))),(91,(.st (.pair (.st (.pair .bool (.slice (.int .u32)))) (.st (.pair .bool (.slice (.int .u32)))))))],elems:= [],cons:= [(144,vT),(170,qW)],hint:= [],N:=16,base:=B}
theorem BI{B:ah}(hB:aC B):aJ Tryz.prog (q8 B):=⟨⟨tc ty9 (tc gH (tc ty91 (ae))),af,by simp only[q8,ioB];omega⟩,aF (cc Tryz.func144 (E2 hB) (cc Tryz.func170 (IV hB) (aw))),by kernel_rfl⟩
def pb:Con:=fun l os=>match l,os with
 | [.z (.st (.pair (.st (.pair .bool (.slice (.int .u32)))) (.st (.pair .bool (.slice (.int .u32)))))) x], []=>some (NOK x/\lq (bG x)<=QC, [.z .str (aX (bG x))], [])
 |_,_=>none
theorem xj{B:ah}(hB:aC B):Valid B Tryz.prog 130 pb:=by
 refine ab (BI hB).tab Tryz.func130 rfl rfl rfl ?_;intro args os C rs os' hc hC;unfold pb at hc;split at hc;case h_2=>cases hc
 rename_i x;cases hc;refine v_h (BI hB) fun X hP hT hr hG=> ?_;have hU:=q8.eq_1;unfold q8 at hT;have hX:=ai @qW.eq_1<| @vT.eq_1;simp only[Tryz.f130,aD,an,ioB];refine s_g hG ?_;refine al ?_;refine s_q hG ?_ ?_
 ·try simp only[ba]
  exact hC.1
 refine ar ?_ ?_
 ·intro hb0;try simp only[bt] at hb0
  refine s_q hG ?_ ?_
  ·(try simp only[ba]);exact Ap hC
  refine az ?_;refine aB ?_;refine q_e [] ?_;exact HS hC.1 hb0
 ·intro hb0;try simp only[bf] at hb0
  refine au ?_;refine aj ?_;refine s_d hG ?_ ?_
  ·(try simp only[ba]);exact Aq hC
  refine az ?_;refine q_e [] ?_;exact HT hC.1 hb0
end Go.Proofs.YtdojbabpnaifoaaGreatDoor
end
section
namespace Go.Proofs
open Go.RowKit Go.Cm
def IX:Con:=fun l os=>match l,os with
 | [.z .str s, .z .str t], []=>some (t= [47]/\s.length<4294967281, [.z .str (tN s), .z .str (if cu s=true then tR s else []), .z .bool (cu s)], [])
 |_,_=>none
theorem xk{B:ah}(hB:aC B):Valid B Tryz.prog 131 IX:=by
 intro args os C rs os' hc hC O w vals ρ0 hOn hIo hO hOI hargs hown hap;unfold IX at hc;split at hc;case h_2=>cases hc
 rename_i s t;cases hc;obtain⟨u,v,rfl,hu,hv⟩:=zL hargs;rw[fR hv,fR hu];obtain⟨rfl,h1⟩:=hC;obtain⟨m,hm⟩:=hB.2 w hOn;have hsz:(⟨s.toArray⟩:ByteArray).size=s.length:=by simp[ByteArray.size]
 refine(Tryz.strings_Cut ⟨s.toArray⟩ ⟨[47].toArray⟩ m w (by rw[hsz];exact h1) hm).mono fun e w' ⟨he,n,hw⟩=> ?_;have hb:Below w.heap.size w w':=by rw[hw];exact⟨rfl,rfl,rfl,Nat.le_refl _,fun _ _=>rfl⟩
 have e1:Lib.cut (⟨s.toArray⟩:ByteArray).data.toList (⟨[47].toArray⟩:ByteArray).data.toList=(tN s,if cu s=true then tR s else [],cu s):=by simpa using HU s
 rw[e1] at he;subst he;exact nA (vs:= [.string ⟨(tN s).toArray⟩, .string ⟨(if cu s=true then tR s else []).toArray⟩, .bool (cu s)]) hb (fun H M=>⟨fh (ρ:=fun _=>undef),fh (ρ:=fun _=>undef),ca (ρ:=fun _=>undef),trivial⟩)
end Go.Proofs
end
section
namespace Go.Proofs.YtdojbabpnaifoaaGreatDoor
open Go Go.Cm Go.Proofs
def GS(B:ah):Tab:={types:= [(3,(.int .i64)),(5,(.int .u8)),(9, .str),(47,(.slice (.int .u8)))],elems:= [(47,5)],cons:= [(172,ff)],hint:= [],N:=38,base:=B}
theorem MU{B:ah}(hB:aC B):aJ Tryz.prog (GS B):=⟨⟨tc ty3 (tc ty5 (tc ty9 (tc Qp (ae)))),aT (by kernel_rfl) (af),by simp only[GS,ioB];omega⟩,aF (cc Tryz.func172 (Gk hB) (aw)),by kernel_rfl⟩
def pf:Con:=fun l os=>match l,os with
 | [.z .str s], []=>some (kK s, [.z (.int .i64) (chk s)], [])
 |_,_=>none
theorem GT{B:ah}(hB:aC B):Valid B Tryz.prog 142 pf:=by
 refine ab (MU hB).tab Tryz.func142 rfl rfl rfl ?_;intro args os C rs os' hc hC;unfold pf at hc;split at hc;case h_2=>cases hc
 rename_i s;cases hc;refine v_h (MU hB) fun X hP hT hr hG=> ?_;have hU:=GS.eq_1;unfold GS at hT;have hX:= @ff.eq_1;simp only[Tryz.f142,aD,an,ioB];refine s_g hG ?_;refine EV ?_;refine s_g hG ?_;refine s_g hG ?_;refine al ?_;refine EU ?_;refine aj ?_;refine cB (fun(z:Int)=>(⟨[(4, .l (.z (.int .i64) z))], []⟩:aa)) (fun z=>z=chk s) ?_ ?_
 ·refine av ?_;refine s_g hG ?_;refine ar ?_ ?_;·intro hb0;(try simp only[bt] at hb0);refine au ?_;refine aN ?_;show ∃ z,_;refine q_l ?_;first|(rw[hb0];exact lh.symm)|exact(jR hb0 ((iD _).1 hb1)).symm|exact(nE hb0 (ep hb1) (by rw[dI] at hb2;omega) (lj hb3)).symm|(rw[dI] at hb2;rw[jS hb0 (ep hb1) (by rw[List.take_of_length_le (by omega)] at g2;exact g2)];first|rw[if_pos (by omega)]|rw[if_neg (by omega)])
  ·intro hb0;(try simp only[bf] at hb0);refine s_q hG ?_ ?_
   ·(try simp only[ba]);exact Kl _
   refine ar ?_ ?_
   ·(intro hb1;(try simp only[bt] at hb1);refine ag hG ?_ ?_;·first|trivial|omega|(simp;done)|(simp;omega));refine aN ?_;show ∃ z,_;refine q_l ?_;first|(rw[hb0];exact lh.symm)|exact(jR hb0 ((iD _).1 hb1)).symm|exact(nE hb0 (ep hb1) (by rw[dI] at hb2;omega) (lj hb3)).symm|(rw[dI] at hb2;rw[jS hb0 (ep hb1) (by rw[List.take_of_length_le (by omega)] at g2;exact g2)];first|rw[if_pos (by omega)]|rw[if_neg (by omega)])
   ·intro hb1;(try simp only[bf] at hb1);refine al ?_;refine s_q hG ?_ ?_
    ·(try simp only[ba]);have:=ga s [45];have hC:s.length<70368744177664:=hC;omega
    (refine av ?_;refine bw (fun(z:Nat)=>(⟨[(0, .l (.z .str s)),(3, .l (.z .str (aA s [45]))),(4, .l (.z (.int .i64) 0)),(10, .l (.z (.slice (.int .u8)) (bytesOf (aA s [45])))),(11, .l (.z (.int .i64) ((bytesOf (aA s [45])).length:Int))),(12, .l (.z (.int .i64) (z:Int)))], []⟩:aa)) (fun z=>z<=(aA s [45]).length/\(List.take z (aA s [45])).all ic=true) (fun z=>(aA s [45]).length-z) 0 ?_ ?_ ?_;·refine q_l ?_;rfl);·exact⟨Nat.zero_le _,rfl⟩
    ·rintro k ⟨g1,g2⟩;(try dsimp only at g1 g2);have hS:(aA s [45]).length<70368744177664:=Nat.lt_of_le_of_lt (ga s _) hC;refine s_g hG ?_;refine al ?_;refine ar ?_ ?_
     ·intro hb2;(try simp only[bt] at hb2);refine au ?_;refine aj ?_;refine al ?_;refine av ?_;refine s_q hG ?_ ?_
      ·(try simp only[ba]);exact⟨by omega,hb2⟩
      refine s_q hG ?_ ?_
      ·(try simp only[ba]);exact⟨fun h=>h,fun h=>by rw[h];rfl⟩
      refine ar ?_ ?_;·intro hb3;(try simp only[bt] at hb3);refine s_g hG ?_;refine bj ?_;refine jk rfl ?_;refine aG ?_;refine ay ?_;refine jk rfl ?_;refine aG ?_;refine ax ?_;show ∃ z,_;refine q_l ?_;first|(rw[hb0];exact lh.symm)|exact(jR hb0 ((iD _).1 hb1)).symm|exact(nE hb0 (ep hb1) (by rw[dI] at hb2;omega) (lj hb3)).symm|(rw[dI] at hb2;rw[jS hb0 (ep hb1) (by rw[List.take_of_length_le (by omega)] at g2;exact g2)];first|rw[if_pos (by omega)]|rw[if_neg (by omega)])
      ·(intro hb3;(try simp only[bf] at hb3);refine au ?_;refine aN ?_;refine aj ?_;refine ag hG ?_ ?_;·first|trivial|omega|(simp;done)|(simp;omega));show ∃ z,_;refine q_l ?_;rw[dI] at hb2;exact⟨k+1,by rw[wi (by omega) (by omega)];simp,by omega,vv g2 (Hw hb3),by omega⟩
     ·intro hb2;(try simp only[bf] at hb2);refine bj ?_;refine aG ?_;refine ay ?_;refine ax ?_;refine aj ?_;refine s_g hG ?_;refine ar ?_ ?_
      ·(intro hb4;(try simp only[bt] at hb4);refine ag hG ?_ ?_;·first|trivial|omega|(simp;done)|(simp;omega));refine aN ?_;show ∃ z,_;refine q_l ?_;first|(rw[hb0];exact lh.symm)|exact(jR hb0 ((iD _).1 hb1)).symm|exact(nE hb0 (ep hb1) (by rw[dI] at hb2;omega) (lj hb3)).symm|(rw[dI] at hb2;rw[jS hb0 (ep hb1) (by rw[List.take_of_length_le (by omega)] at g2;exact g2)];first|rw[if_pos (by omega)]|rw[if_neg (by omega)])
      ·intro hb4;(try simp only[bf] at hb4);refine au ?_;refine aN ?_;show ∃ z,_;refine q_l ?_;first|(rw[hb0];exact lh.symm)|exact(jR hb0 ((iD _).1 hb1)).symm|exact(nE hb0 (ep hb1) (by rw[dI] at hb2;omega) (lj hb3)).symm|(rw[dI] at hb2;rw[jS hb0 (ep hb1) (by rw[List.take_of_length_le (by omega)] at g2;exact g2)];first|rw[if_pos (by omega)]|rw[if_neg (by omega)])
 rintro z hz;try dsimp only at hz
 refine s_g hG ?_;refine az ?_;refine gO ?_;refine q_e [] ?_;exact hz
def q9(B:ah):Tab:={types:= [(3,(.int .i64)),(4, .bool),(9, .str),(87,(.slice (.int .u32))),(89,(.st (.pair .bool (.slice (.int .u32))))),(161,(.int .u32)),(164,(.int .u64))],elems:= [(87,161)],cons:= [(150,ez),(172,ff),(173,xX)],hint:= [],N:=44,base:=B}
theorem BJ{B:ah}(hB:aC B):aJ Tryz.prog (q9 B):=⟨⟨tc ty3 (tc ty4 (tc ty9 (tc iP (tc gH (tc gg (tc nH (ae))))))),aT (by kernel_rfl) (af),by simp only[q9,ioB];omega⟩,aF (cc Tryz.func150 (kB hB) (cc Tryz.func172 (Gk hB) (cc Tryz.func173 (Nq hB) (aw)))),by kernel_rfl⟩
def pg:Con:=fun l os=>match l,os with
 | [.z .str s], []=>some (RF s/\s.length<CAP, [.z (.st (.pair .bool (.slice (.int .u32)))) (enc (ao s))], [])
 |_,_=>none
theorem xl{B:ah}(hB:aC B):Valid B Tryz.prog 132 pg:=by
 refine ab (BJ hB).tab Tryz.func132 rfl rfl rfl ?_;intro args os C rs os' hc hC;unfold pg at hc;split at hc;case h_2=>cases hc
 rename_i s;cases hc;refine v_h (BJ hB) fun X hP hT hr hG=> ?_;have hU:=q9.eq_1;unfold q9 at hT;have hX:=ai @xX.eq_1<|ai @ff.eq_1<| @ez.eq_1;simp only[Tryz.f132,aD,an,ioB];refine s_g hG ?_;refine s_g hG ?_;refine s_g hG ?_;refine al ?_;refine s_g hG ?_;refine av ?_;refine bw (fun(z:Nat×List Int)=>(⟨[(3, .l (.z .str (aA s [45]))),(5, .l (.z (.int .i64) (((aA s [45]).length:Int)-9*(z.1:Int)))),(4, .l (.ownP 4 0)),(2, .l (.ownP 2 0))], [(4, .box 89 [.z .bool (decide ((aA s [45]).length<s.length)), .ownS 37]),(37, .arr (.int .u32) 161 z.2),(2, .box 89 [.z .bool false, .val (.slice none 0 0)])]⟩:aa)) (fun z=>ReadPhi (aA s [45]) z.1 z.2) (fun z=>(aA s [45]).length+9-9*z.1) (0, []) ?_ ?_ ?_;·refine q_l ?_;exact⟨by show ((aA s [45]).length:Int)=((aA s [45]).length:Int)-9*((0:Nat):Int);omega,by congr 1;simp,by unfold ioB;omega⟩
 ·exact read_start
 ·rintro⟨r,out⟩ hz;try dsimp only at hz
  obtain⟨d1,d2,d4⟩:=iu hC.1;have d3:(aA s [45]).length<1000000000000:=Nat.lt_of_le_of_lt (ga s _) hC.2;have hz1:=hz.1;have hz4:=hz.2.2.2;refine al ?_;refine s_g hG ?_;refine ar ?_ ?_
  ·intro hb0;(try simp only[bt] at hb0);refine au ?_;refine aj ?_;refine al ?_;refine av ?_;refine s_q hG ?_ ?_
   ·(try simp only[ba]);obtain⟨e1,e2,e3⟩:=we hb0 d3;obtain⟨q1,q2,q3,q4,q5⟩:=read_next d1 hz hb0 rfl;rw[e1,e2,e3];exact⟨⟨by omega,by omega,by omega⟩,q1,q2,q3⟩
   refine ag hG ?_ ?_
   ·(try simp only[ba]);unfold Cm.Roomy;omega
   (refine aN ?_;refine aj ?_;refine ag hG ?_ ?_;·first|trivial|omega|(simp;done)|(simp;omega));show ∃ z,_;refine q_l ?_;obtain⟨e1,e2,e3⟩:=we hb0 d3;obtain⟨q1,q2,q3,q4,q5⟩:=read_next d1 hz hb0 rfl;rw[e1,e2,e3];exact⟨r+1,by show ((aA s [45]).length:Int)-9*(r:Int)-9=((aA s [45]).length:Int)-9*((r+1:Nat):Int);omega,q4,by omega⟩
  ·intro hb0;(try simp only[bf] at hb0);refine bj ?_;refine aG ?_;refine ay ?_;refine ax ?_;refine aj ?_;refine s_q hG ?_ ?_
   ·(try simp only[ba]);exact⟨hz.2.1,by unfold CAP;omega⟩
   refine az ?_;refine q_e [37] ?_;rw[read_end hz hb0]
def ra(B:ah):Tab:={types:= [(3,(.int .i64)),(9, .str),(91,(.st (.pair (.st (.pair .bool (.slice (.int .u32)))) (.st (.pair .bool (.slice (.int .u32)))))))],elems:= [],cons:= [(131,IX),(132,pg),(133,ib)],hint:= [],N:=23,base:=B}
theorem BK{B:ah}(hB:aC B):aJ Tryz.prog (ra B):=⟨⟨tc ty3 (tc ty9 (tc ty91 (ae))),af,by simp only[ra,ioB];omega⟩,aF (cc Tryz.func131 (xk hB) (cc Tryz.func132 (xl hB) (cc Tryz.func133 (n9 hB) (aw)))),by kernel_rfl⟩
def qe:Con:=fun l os=>match l,os with
 | [.z .str q], []=>some (gu q, [.z (.st (.pair (.st (.pair .bool (.slice (.int .u32)))) (.st (.pair .bool (.slice (.int .u32)))))) (gR q)], [])
 |_,_=>none
theorem ph{B:ah}(hB:aC B):Valid B Tryz.prog 90 qe:=by
 refine ab (BK hB).tab Tryz.func90 rfl rfl rfl ?_;intro args os C rs os' hc hC;unfold qe at hc;split at hc;case h_2=>cases hc
 rename_i q;cases hc;refine v_h (BK hB) fun X hP hT hr hG=> ?_;have hU:=ra.eq_1;unfold ra at hT;have hX:=ai @IX.eq_1<|ai @pg.eq_1<| @ib.eq_1;simp only[Tryz.f90,aD,an,ioB];refine s_g hG ?_;refine s_q hG ?_ ?_
 ·try simp only[ba]
  exact(oK hC).1
 refine al ?_;refine s_g hG ?_;refine ar ?_ ?_
 ·intro hb0;try simp only[bt] at hb0
  refine s_q hG ?_ ?_
  ·(try simp only[ba]);exact⟨(oK hC).2.1,by unfold I64;omega⟩
  refine az ?_;refine aB ?_;refine q_e [] ?_;exact K0 hb0
 ·intro hb0;try simp only[bf] at hb0
  refine au ?_;refine aj ?_;refine s_q hG ?_ ?_
  ·(try simp only[ba]);rw[lA hb0];exact(oK hC).2
  refine az ?_;refine q_e [] ?_;rw[lA hb0];rfl
def rb(B:ah):Tab:={types:= [(3,(.int .i64)),(9, .str),(31,(.int .i64)),(46, .str),(89,(.st (.pair .bool (.slice (.int .u32))))),(91,(.st (.pair (.st (.pair .bool (.slice (.int .u32)))) (.st (.pair .bool (.slice (.int .u32))))))),(151,(.st (.pair (.st (.pair (.st (.pair .bool (.slice (.int .u32)))) (.st (.pair .bool (.slice (.int .u32)))))) (.int .i64))))],elems:= [],cons:= [(90,qe),(129,lR),(131,IX),(133,ib),(142,pf),(147,xf),(167,qZ),(168,OR)],hint:= [],N:=61,base:=B}
theorem BL{B:ah}(hB:aC B):aJ Tryz.prog (rb B):=⟨⟨tc ty3 (tc ty9 (tc km (tc mE (tc gH (tc ty91 (tc O7 (ae))))))),af,by simp only[rb,ioB];omega⟩,aF (cc Tryz.func90 (ph hB) (cc Tryz.func129 (o9 hB) (cc Tryz.func131 (xk hB) (cc Tryz.func133 (n9 hB) (cc Tryz.func142 (GT hB) (cc Tryz.func147 (GP hB) (cc Tryz.func167 (IW hB) (cc Tryz.func168 (OS hB) (aw))))))))),by kernel_rfl⟩
def y4:Con:=fun l os=>match l,os with
 | [.z .str q], []=>some (q.length<=QL, [.z (.st (.pair (.st (.pair (.st (.pair .bool (.slice (.int .u32)))) (.st (.pair .bool (.slice (.int .u32)))))) (.int .i64))) (lz q)], [])
 |_,_=>none
theorem IY{B:ah}(hB:aC B):Valid B Tryz.prog 128 y4:=by
 refine ab (BL hB).tab Tryz.func128 rfl rfl rfl ?_;intro args os C rs os' hc hC;unfold y4 at hc;split at hc;case h_2=>cases hc
 rename_i q;cases hc;refine v_h (BL hB) fun X hP hT hr hG=> ?_;have hU:=rb.eq_1;unfold rb at hT;have hX:=ai @pf.eq_1<|ai @OR.eq_1<|ai @IX.eq_1<|ai @qe.eq_1<|ai @xf.eq_1<|ai @lR.eq_1<|ai @qZ.eq_1<| @ib.eq_1;simp only[Tryz.f128,aD,an,ioB];refine s_g hG ?_;refine s_q hG ?_ ?_
 ·try simp only[ba]
  have h9:q.length<=1000000000:=hC;omega
 refine cB (fun(z:Unit)=>(⟨[(0, .l (.z .str q)),(2, .l (.ownP 2 0)),(3, .l (.z .str (tN q))),(4, .l (.z .str (tD q))),(5, .l (.z .bool (cu q)))], [(2, .box 151 [.z .bool false, .val (.slice none 0 0), .z .bool false, .val (.slice none 0 0), .z (.int .i64) 0])]⟩:aa)) (fun z=>True) ?_ ?_
 ·refine s_g hG ?_;refine ar ?_ ?_
  ·(intro hb0;(try simp only[bt] at hb0);refine ag hG ?_ ?_;·first|trivial|omega|(simp;done)|(simp;omega));show ∃ z,_;refine q_l ?_;first|exact yc hb0|exact lA hb0
  ·intro hb0;(try simp only[bf] at hb0);refine au ?_;show ∃ z,_;refine q_l ?_;first|exact yc hb0|exact lA hb0
 rintro⟨⟩-;have hS:=K1 hC;refine al ?_;refine s_q hG ?_ ?_
 ·try simp only[ba]
  exact⟨hS.1,fun h=>⟨h,hS.2⟩,fun h=>h,fun h=>by rw[h];rfl⟩
 refine ar ?_ ?_
 ·intro hb1;try simp only[bt] at hb1
  refine s_g hG ?_;refine az ?_;refine aB ?_;refine q_e [] ?_;exact NM hb1
 ·intro hb1;try simp only[bf] at hb1
  have hF:=NL hC hb1;refine au ?_;refine aj ?_;refine s_q hG ?_ ?_
  ·(try simp only[ba]);exact hF
  refine s_g hG ?_;refine s_q hG ?_ ?_
  ·(try simp only[ba]);unfold I64;omega
  refine al ?_;refine av ?_;refine s_d hG ?_ ?_
  ·(try simp only[ba]);simp only[pe,gR,bO];exact⟨fun h=>⟨h,enc_ok _,enc_ok _,Qw hF⟩,fun h=>h,fun h=>h,fun h=>⟨h,PG hF⟩,fun h=>⟨h,enc_ok _,enc_ok _,Qx hF⟩,fun h=>h,fun h=>⟨h,fun h2=>by rw[h,h2];rfl⟩,fun h=>h⟩
  refine ar ?_ ?_;·intro hb2;(try simp only[bt] at hb2);simp only[pe,gR,bO] at hb2;refine s_g hG ?_;refine az ?_;refine bK ?_;refine aB ?_;refine q_e [] ?_;exact NN hF hb2
  ·intro hb2;(try simp only[bf] at hb2);simp only[pe,gR,bO] at hb2;have hR:=Qy hF hb2;refine s_q hG ?_ ?_
   ·(try simp only[ba]);exact NO hR
   (refine ar ?_ ?_;·intro hb3;(try simp only[bt] at hb3);refine s_g hG ?_;refine az ?_;refine bK ?_;refine aB ?_;refine q_e [] ?_;exact PI hR hb3);·intro hb3;(try simp only[bf] at hb3);refine au ?_;refine aN ?_;refine aj ?_;refine s_g hG ?_;refine az ?_;refine q_e [] ?_;exact Qz hR hb3
def re(B:ah):Tab:={types:= [(46, .str),(151,(.st (.pair (.st (.pair (.st (.pair .bool (.slice (.int .u32)))) (.st (.pair .bool (.slice (.int .u32)))))) (.int .i64))))],elems:= [],cons:= [(128,y4)],hint:= [],N:=6,base:=B}
theorem BM{B:ah}(hB:aC B):aJ Tryz.prog (re B):=⟨⟨tc mE (tc O7 (ae)),af,by simp only[re,ioB];omega⟩,aF (cc Tryz.func128 (IY hB) (aw)),by kernel_rfl⟩
def mw:Con:=fun l os=>match l,os with
 | [.z .str q], []=>some (q.length<=QL, [.z (.int .i64) (dA q)], [])
 |_,_=>none
theorem xm{B:ah}(hB:aC B):Valid B Tryz.prog 87 mw:=by
 refine ab (BM hB).tab Tryz.func87 rfl rfl rfl ?_;intro args os C rs os' hc hC;unfold mw at hc;split at hc;case h_2=>cases hc
 rename_i q;cases hc;refine v_h (BM hB) fun X hP hT hr hG=> ?_;have hU:=re.eq_1;unfold re at hT;have hX:= @y4.eq_1;simp only[Tryz.f87,aD,an,ioB];refine s_g hG ?_;refine s_q hG ?_ ?_
 ·try simp only[ba]
  exact hC
 refine az ?_;refine q_e [] ?_;exact HV q
def rf(B:ah):Tab:={types:= [(3,(.int .i64)),(91,(.st (.pair (.st (.pair .bool (.slice (.int .u32)))) (.st (.pair .bool (.slice (.int .u32)))))))],elems:= [],cons:= [(129,lR),(130,pb)],hint:= [],N:=9,base:=B}
theorem BN{B:ah}(hB:aC B):aJ Tryz.prog (rf B):=⟨⟨tc ty3 (tc ty91 (ae)),af,by simp only[rf,ioB];omega⟩,aF (cc Tryz.func129 (o9 hB) (cc Tryz.func130 (xj hB) (aw))),by kernel_rfl⟩
def y5:Con:=fun l os=>match l,os with
 | [.z (.st (.pair (.st (.pair .bool (.slice (.int .u32)))) (.st (.pair .bool (.slice (.int .u32)))))) x], []=>some (NOK x/\lq (bG x)<=QC, [.z .str (lB (bG x)), .z (.int .i64) (gS (bG x))], [])
 |_,_=>none
theorem IZ{B:ah}(hB:aC B):Valid B Tryz.prog 143 y5:=by
 refine ab (BN hB).tab Tryz.func143 rfl rfl rfl ?_;intro args os C rs os' hc hC;unfold y5 at hc;split at hc;case h_2=>cases hc
 rename_i x;cases hc;refine v_h (BN hB) fun X hP hT hr hG=> ?_;have hU:=rf.eq_1;unfold rf at hT;have hX:=ai @lR.eq_1<| @pb.eq_1;simp only[Tryz.f143,aD,an,ioB];refine s_g hG ?_;refine al ?_;refine s_q hG ?_ ?_
 ·try simp only[ba]
  exact hC
 refine ar ?_ ?_
 ·intro hb0;try simp only[bt] at hb0
  refine s_g hG ?_;refine az ?_;refine aB ?_;refine q_e [] ?_;exact PK hb0
 ·intro hb0;try simp only[bf] at hb0
  refine au ?_;refine aj ?_;refine s_q hG ?_ ?_
  ·(try simp only[ba]);exact hC
  refine az ?_;refine q_e [] ?_;exact PJ hb0
def rh(B:ah):Tab:={types:= [(3,(.int .i64)),(22,(.slice .str)),(46, .str),(78,(.slice (.st (.pair (.st (.pair .bool (.slice (.int .u32)))) (.st (.pair .bool (.slice (.int .u32))))))))],elems:= [(78,91)],cons:= [(90,qe)],hint:= [18],N:=22,base:=B}
theorem BO{B:ah}(hB:aC B):aJ Tryz.prog (rh B):=⟨⟨tc ty3 (tc gG (tc mE (tc NA (ae)))),aT (by kernel_rfl) (af),by simp only[rh,ioB];omega⟩,aF (cc Tryz.func90 (ph hB) (aw)),by kernel_rfl⟩
def GU:Con:=fun l os=>match l,os with
 | [.z (.slice .str) l], []=>some (l.length<QL/\∀ q∈l,gu q, [.own (.st (.pair (.st (.pair .bool (.slice (.int .u32)))) (.st (.pair .bool (.slice (.int .u32)))))) 91 (l.map gR)], [])
 |_,_=>none
theorem I0{B:ah}(hB:aC B):Valid B Tryz.prog 106 GU:=by
 refine ab (BO hB).tab Tryz.func106 rfl rfl rfl ?_;intro args os C rs os' hc hC;unfold GU at hc;split at hc;case h_2=>cases hc
 rename_i l;cases hc;refine v_h (BO hB) fun X hP hT hr hG=> ?_;have hU:=rh.eq_1;unfold rh at hT;have hX:= @qe.eq_1;simp only[Tryz.f106,aD,an,ioB];have hl:l.length<1000000000:=hC.1;refine s_g hG ?_;refine s_q hG ?_ ?_
 ·try simp only[ba]
  exact⟨by omega,by omega,um (by omega)⟩
 refine al ?_;refine s_g hG ?_;refine av ?_;refine bw (fun(z:Nat)=>(⟨[(3, .l (.ownS 8)),(9, .l (.z (.slice .str) l)),(10, .l (.z (.int .i64) (l.length:Int))),(11, .l (.z (.int .i64) (z:Int)))], [(8, .arr (.st (.pair (.st (.pair .bool (.slice (.int .u32)))) (.st (.pair .bool (.slice (.int .u32)))))) 91 ((l.take z).map gR))]⟩:aa)) (fun z=>z<=l.length) (fun z=>l.length-z) 0 ?_ ?_ ?_;·refine q_l ?_;exact⟨rfl,rfl⟩
 ·omega
 ·rintro k g1;try dsimp only at g1
  refine s_g hG ?_;refine al ?_;refine ar ?_ ?_
  ·intro hb0;(try simp only[bt] at hb0);refine au ?_;refine aj ?_;refine al ?_;refine av ?_;refine s_q hG ?_ ?_
   ·(try simp only[ba]);exact⟨by omega,hb0⟩
   refine ag hG ?_ ?_
   ·(try simp only[ba]);exact⟨hC.2 _ (gj (t:= .str) (by omega)),um (by simp;omega)⟩
   (refine aN ?_;refine aj ?_;refine ag hG ?_ ?_;·first|trivial|omega|(simp;done)|(simp;omega));show ∃ z,_;refine q_l ?_;exact list_round (by omega) hC.1
  ·intro hb0;(try simp only[bf] at hb0);refine bj ?_;refine aG ?_;refine ay ?_;refine ax ?_;refine aj ?_;refine s_g hG ?_;refine az ?_;refine q_e [] ?_;exact⟨trivial,by rw[List.take_of_length_le (by omega)]⟩
def ri(B:ah):Tab:={types:= [(3,(.int .i64)),(22,(.slice .str)),(78,(.slice (.st (.pair (.st (.pair .bool (.slice (.int .u32)))) (.st (.pair .bool (.slice (.int .u32)))))))),(91,(.st (.pair (.st (.pair .bool (.slice (.int .u32)))) (.st (.pair .bool (.slice (.int .u32)))))))],elems:= [(22,46)],cons:= [(129,lR),(130,pb)],hint:= [],N:=26,base:=B}
theorem BP{B:ah}(hB:aC B):aJ Tryz.prog (ri B):=⟨⟨tc ty3 (tc gG (tc NA (tc ty91 (ae)))),aT (by kernel_rfl) (af),by simp only[ri,ioB];omega⟩,aF (cc Tryz.func129 (o9 hB) (cc Tryz.func130 (xj hB) (aw))),by kernel_rfl⟩
def pj:Con:=fun l os=>match l,os with
 | [.z (.slice (.st (.pair (.st (.pair .bool (.slice (.int .u32)))) (.st (.pair .bool (.slice (.int .u32))))))) l], []=>some (l.length<QL/\∀ x∈l,NOK x/\lq (bG x)<=QC, [.z (.slice .str) (if dO l=true then l.map fun x=>aX (bG x) else []), .z .bool (dO l)], [])
 |_,_=>none
theorem xn{B:ah}(hB:aC B):Valid B Tryz.prog 88 pj:=by
 refine ab (BP hB).tab Tryz.func88 rfl rfl rfl ?_;intro args os C rs os' hc hC;unfold pj at hc;split at hc;case h_2=>cases hc
 rename_i l;cases hc;refine v_h (BP hB) fun X hP hT hr hG=> ?_;have hU:=ri.eq_1;unfold ri at hT;have hX:=ai @lR.eq_1<| @pb.eq_1;simp only[Tryz.f88,aD,an,ioB];have hl:l.length<1000000000:=hC.1;refine s_g hG ?_;refine s_q hG ?_ ?_
 ·try simp only[ba]
  exact⟨by omega,by omega,yd (by omega)⟩
 refine al ?_;refine s_g hG ?_;refine av ?_;refine bw (fun(z:Nat)=>(⟨[(2, .l (.val (.slice none 0 0))),(3, .l (.z .bool false)),(4, .l (.ownS 9)),(10, .l (.z (.slice (.st (.pair (.st (.pair .bool (.slice (.int .u32)))) (.st (.pair .bool (.slice (.int .u32))))))) l)),(11, .l (.z (.int .i64) (l.length:Int))),(12, .l (.z (.int .i64) (z:Int)))], [(9, .arr .str 46 ((l.take z).map fun x=>aX (bG x)))]⟩:aa)) (fun z=>z<=l.length/\dO (l.take z)=true) (fun z=>l.length-z) 0 ?_ ?_ ?_;·refine q_l ?_;exact⟨rfl,rfl⟩
 ·exact⟨by omega,by simp[dO]⟩
 ·rintro k ⟨g1,g2⟩;try dsimp only at g1 g2
  refine s_g hG ?_;refine al ?_;refine ar ?_ ?_
  ·intro hb0;(try simp only[bt] at hb0);refine au ?_;refine aj ?_;refine al ?_;refine av ?_;refine s_q hG ?_ ?_
   ·(try simp only[ba]);exact⟨by omega,hb0⟩
   refine al ?_;refine s_q hG ?_ ?_
   ·(try simp only[ba]);exact hC.2 _ (gj (t:=NT) (by omega))
   refine ar ?_ ?_;·intro hb1;(try simp only[bt] at hb1);refine s_g hG ?_;refine az ?_;refine aB ?_;refine bK ?_;refine aB ?_;refine eO ?_;refine bK ?_;refine aB ?_;refine q_e [9] ?_;exact HY (by omega) hb1
   ·intro hb1;(try simp only[bf] at hb1);refine au ?_;refine aj ?_;refine ag hG ?_ ?_
    ·(try simp only[ba]);exact⟨⟨(hC.2 _ (gj (t:=NT) (by omega))).1,(hC.2 _ (gj (t:=NT) (by omega))).2⟩,yd (by simp;omega)⟩
    (refine aN ?_;refine aj ?_;refine ag hG ?_ ?_;·first|trivial|omega|(simp;done)|(simp;omega));show ∃ z,_;refine q_l ?_;exact As (by omega) hC.1 g2 hb1
  ·intro hb0;(try simp only[bf] at hb0);refine bj ?_;refine aG ?_;refine ay ?_;refine ax ?_;refine aj ?_;refine s_g hG ?_;refine az ?_;refine q_e [9] ?_;exact HZ (by omega) g2
def rj(B:ah):Tab:={types:= [(3,(.int .i64)),(79,(.slice (.st (.pair (.st (.pair .bool (.slice (.int .u32)))) (.st (.pair .bool (.slice (.int .u32)))))))),(91,(.st (.pair (.st (.pair .bool (.slice (.int .u32)))) (.st (.pair .bool (.slice (.int .u32)))))))],elems:= [],cons:= [(114,lQ)],hint:= [],N:=25,base:=B}
theorem BQ{B:ah}(hB:aC B):aJ Tryz.prog (rj B):=⟨⟨tc ty3 (tc gd (tc ty91 (ae))),af,by simp only[rj,ioB];omega⟩,aF (cc Tryz.func114 (o8 hB) (aw)),by kernel_rfl⟩
def jF:Con:=fun l os=>match l,os with
 | [.z (.slice (.st (.pair (.st (.pair .bool (.slice (.int .u32)))) (.st (.pair .bool (.slice (.int .u32))))))) p], []=>some (Sz QC p/\p.length<=QL, [.z (.slice (.st (.pair (.st (.pair .bool (.slice (.int .u32)))) (.st (.pair .bool (.slice (.int .u32))))))) (aI (aS (aq p)))], [])
 |_,_=>none
theorem iZ{B:ah}(hB:aC B):Valid B Tryz.prog 82 jF:=by
 refine ab (BQ hB).tab Tryz.func82 rfl rfl rfl ?_;intro args os C rs os' hc hC;unfold jF at hc;split at hc;case h_2=>cases hc
 rename_i p;cases hc;refine v_h (BQ hB) fun X hP hT hr hG=> ?_;have hU:=rj.eq_1;unfold rj at hT;have hX:= @lQ.eq_1;simp only[Tryz.f82,aD,an,ioB];obtain⟨l0,rfl,hl0⟩:=hC.1.ex;have hn:=hC.2;rw[aE] at hn;have hn:l0.length<=1000000000:=hn;refine s_g hG ?_;refine al ?_;refine av ?_;refine bw (fun(z:List Rat)=>(⟨[(0, .l (.z (.slice (.st (.pair (.st (.pair .bool (.slice (.int .u32)))) (.st (.pair .bool (.slice (.int .u32))))))) (aI z))),(2, .l (.val (.slice none 0 0)))], []⟩:aa)) (fun z=>z.length<=l0.length/\(∀ x∈z,lq x<=QC)/\aS z=aS l0) (fun z=>z.length) l0 ?_ ?_ ?_;·simp only[ml0,ml1,Nat.reduceLT,Nat.reduceEqDiff,Nat.reduceAdd,Nat.reduceMul,Nat.reduceSub,Nat.reduceLeDiff,Nat.reduceBEq,Nat.reduceBNe,reduceIte,reduceDIte,reduceCtorEq]
 ·exact⟨Nat.le_refl _,hl0,rfl⟩
 ·rintro l ⟨g1,g2,g3⟩;try dsimp only at g1 g2 g3
  refine al ?_;refine s_q hG ?_ ?_
  ·(try simp only[ba]);have hs:=wg (l:=l) (by omega);exact⟨id,id,hs.2,id,hs.1,id⟩
  refine ar ?_ ?_
  ·intro hb0;(try simp only[bt] at hb0);have ht:=K2 (by omega) hb0.1 hb0.2;obtain⟨n1,n2,n3,n4,n5⟩:=wh (by omega) g1 g2 g3 ht;refine au ?_;refine aj ?_;refine av ?_;refine ag hG ?_ ?_
   ·(try simp only[ba]);rw[aE,cp (by omega)];exact⟨by omega,by omega,by omega,by omega⟩
   refine aN ?_;show ∃ z,_;refine q_l ?_;exact⟨l.dropLast,n1,n2,n3,n4,n5⟩
  ·intro hb0;(try simp only[bf] at hb0);have ht:=K3 (l:=l) (by omega) hb0;refine bj ?_;refine aG ?_;refine ay ?_;refine ax ?_;refine aj ?_;refine s_g hG ?_;refine az ?_;refine q_e [] ?_;rw[aK,<- g3,ht]
def kC(B:ah):Tab:={types:= [(3,(.int .i64)),(79,(.slice (.st (.pair (.st (.pair .bool (.slice (.int .u32)))) (.st (.pair .bool (.slice (.int .u32)))))))),(91,(.st (.pair (.st (.pair .bool (.slice (.int .u32)))) (.st (.pair .bool (.slice (.int .u32)))))))],elems:= [],cons:= [(114,lQ)],hint:= [23],N:=25,free:= [10000000],base:=B}
theorem BR{B:ah}(hB:aC B):aJ Tryz.prog (kC B):=⟨⟨tc ty3 (tc gd (tc ty91 (ae))),af,by simp only[kC,ioB];omega⟩,aF (cc Tryz.func114 (o8 hB) (aw)),by kernel_rfl⟩
def MV:Con:=fun l os=>match l,os with
 | [.ownS 10000000], [.arr (.st (.pair (.st (.pair .bool (.slice (.int .u32)))) (.st (.pair .bool (.slice (.int .u32)))))) 91 p]=>some (Sz QC p/\p.length<=QL, [.own (.st (.pair (.st (.pair .bool (.slice (.int .u32)))) (.st (.pair .bool (.slice (.int .u32)))))) 91 (aI (aS (aq p)))], [.arr (.st (.pair (.st (.pair .bool (.slice (.int .u32)))) (.st (.pair .bool (.slice (.int .u32)))))) 91 []])
 |_,_=>none
theorem Er{B:ah}(hB:aC B):Valid B Tryz.prog 82 MV [0]:=by
 refine pK (T:=kC B) (BR hB).tab Tryz.func82 rfl rfl rfl (NP (by simp only[kC];decide)) ?_;intro args os C rs os' hc hC;unfold MV at hc;split at hc;case h_2=>cases hc
 rename_i p;cases hc;refine v_h (BR hB) fun X hP hT hr hG=> ?_;have hU:=kC.eq_1;unfold kC at hT;have hX:=ai @lQ.eq_1<| @cr.eq_def;simp only[Tryz.f82,aD,an,ioB];obtain⟨l0,rfl,hl0⟩:=hC.1.ex;have hn:=hC.2;rw[aE] at hn;have hn:l0.length<=1000000000:=hn;refine Ka 10000000 1 (by simp only[hT,kC,mx0,mx1,mx2,mx3,mx4,mx5,mx6,Nat.reduceLT,Nat.reduceEqDiff,Nat.reduceAdd,Nat.reduceMul,Nat.reduceSub,Nat.reduceLeDiff,Nat.reduceBEq,Nat.reduceBNe,reduceIte,reduceDIte,reduceCtorEq];rfl) ?_;refine s_g hG ?_;refine al ?_;refine av ?_;refine bw (fun(z:List Rat)=>(⟨[(0, .l (.ownS 1)),(2, .l (.val (.slice none 0 0)))], [(1, .arr (.st (.pair (.st (.pair .bool (.slice (.int .u32)))) (.st (.pair .bool (.slice (.int .u32)))))) 91 (aI z)),(10000000, .arr (.st (.pair (.st (.pair .bool (.slice (.int .u32)))) (.st (.pair .bool (.slice (.int .u32)))))) 91 [])]⟩:aa)) (fun z=>z.length<=l0.length/\(∀ x∈z,lq x<=QC)/\aS z=aS l0) (fun z=>z.length) l0 ?_ ?_ ?_;·simp only[ml0,ml1,Nat.reduceLT,Nat.reduceEqDiff,Nat.reduceAdd,Nat.reduceMul,Nat.reduceSub,Nat.reduceLeDiff,Nat.reduceBEq,Nat.reduceBNe,reduceIte,reduceDIte,reduceCtorEq]
 ·exact⟨Nat.le_refl _,hl0,rfl⟩
 ·rintro l ⟨g1,g2,g3⟩;try dsimp only at g1 g2 g3
  refine al ?_;refine s_q hG ?_ ?_
  ·(try simp only[ba]);have hs:=wg (l:=l) (by omega);exact⟨id,id,hs.2,fun h=>⟨h,by have:=(hs.2 h).2;omega⟩,hs.1,id⟩
  refine ar ?_ ?_
  ·intro hb0;(try simp only[bt] at hb0);have ht:=K2 (by omega) hb0.1 hb0.2;obtain⟨n1,n2,n3,n4,n5⟩:=wh (by omega) g1 g2 g3 ht;refine au ?_;refine aj ?_;refine av ?_;refine ag hG ?_ ?_
   ·(try simp only[ba]);rw[aE,cp (by omega)];exact⟨by omega,by omega,by omega,by omega⟩
   refine aN ?_;show ∃ z,_;refine q_l ?_;exact⟨l.dropLast,n1,n2,n3,n4,n5⟩
  ·intro hb0;(try simp only[bf] at hb0);have ht:=K3 (l:=l) (by omega) hb0;refine bj ?_;refine aG ?_;refine ay ?_;refine ax ?_;refine aj ?_;refine s_g hG ?_;refine az ?_;refine q_e [] ?_;exact⟨⟨trivial,by rw[aK,<- g3,ht]⟩,trivial,trivial⟩
def gv:Con:=fun l os=>match l,os with
 | [.z (.slice (.st (.pair (.st (.pair .bool (.slice (.int .u32)))) (.st (.pair .bool (.slice (.int .u32))))))) p], []=>some (Sz QC p/\p.length<=QL, [.z (.slice (.st (.pair (.st (.pair .bool (.slice (.int .u32)))) (.st (.pair .bool (.slice (.int .u32))))))) (aI (aS (aq p)))], [])
 | [.ownS 10000000], [.arr (.st (.pair (.st (.pair .bool (.slice (.int .u32)))) (.st (.pair .bool (.slice (.int .u32)))))) 91 p]=>some (Sz QC p/\p.length<=QL, [.own (.st (.pair (.st (.pair .bool (.slice (.int .u32)))) (.st (.pair .bool (.slice (.int .u32)))))) 91 (aI (aS (aq p)))], [.arr (.st (.pair (.st (.pair .bool (.slice (.int .u32)))) (.st (.pair .bool (.slice (.int .u32)))))) 91 []])
 |_,_=>none
theorem I1{B:ah}(hB:aC B):Valid B Tryz.prog 82 gv [0]:=by
 intro args os C rs os' hc hC;unfold gv at hc;split at hc;·cases hc;exact K4 (iZ hB) _ _ _ _ _ rfl hC
 ·cases hc;exact Er hB _ _ _ _ _ rfl hC
 ·cases hc
def rk(B:ah):Tab:={types:= [(3,(.int .i64)),(79,(.slice (.st (.pair (.st (.pair .bool (.slice (.int .u32)))) (.st (.pair .bool (.slice (.int .u32)))))))),(91,(.st (.pair (.st (.pair .bool (.slice (.int .u32)))) (.st (.pair .bool (.slice (.int .u32)))))))],elems:= [],cons:= [(113,eG)],hint:= [],N:=14,base:=B}
theorem BS{B:ah}(hB:aC B):aJ Tryz.prog (rk B):=⟨⟨tc ty3 (tc gd (tc ty91 (ae))),af,by simp only[rk,ioB];omega⟩,aF (cc Tryz.func113 (mv hB) (aw)),by kernel_rfl⟩
def xo:Con:=fun l os=>match l,os with
 | [.z (.slice (.st (.pair (.st (.pair .bool (.slice (.int .u32)))) (.st (.pair .bool (.slice (.int .u32))))))) p, .z (.int .i64) i], []=>some (Sz QC p/\0<=i, [.z (.st (.pair (.st (.pair .bool (.slice (.int .u32)))) (.st (.pair .bool (.slice (.int .u32)))))) (bk (cf (aq p) i.toNat))], [])
 |_,_=>none
theorem xp{B:ah}(hB:aC B):Valid B Tryz.prog 107 xo:=by
 refine ab (BS hB).tab Tryz.func107 rfl rfl rfl ?_;intro args os C rs os' hc hC;unfold xo at hc;split at hc;case h_2=>cases hc
 rename_i p i;cases hc;refine v_h (BS hB) fun X hP hT hr hG=> ?_;have hU:=rk.eq_1;unfold rk at hT;have hX:= @eG.eq_1;simp only[Tryz.f107,aD,an,ioB];obtain⟨n,rfl⟩:=Int.eq_ofNat_of_zero_le hC.2;rw[Int.toNat_natCast];refine s_g hG ?_;refine al ?_;refine s_g hG ?_;refine ar ?_ ?_
 ·intro hb0;try simp only[bt] at hb0
  refine s_q hG ?_ ?_
  ·(try simp only[ba]);exact⟨by omega,hb0⟩
  refine az ?_;refine aB ?_;refine q_e [] ?_;rw[gk hC.1 (by omega)]
 ·intro hb0;try simp only[bf] at hb0
  refine au ?_;refine aj ?_;refine s_g hG ?_;refine az ?_;refine q_e [] ?_;rw[K5 (by omega)]
def rl(B:ah):Tab:={types:= [(3,(.int .i64)),(79,(.slice (.st (.pair (.st (.pair .bool (.slice (.int .u32)))) (.st (.pair .bool (.slice (.int .u32)))))))),(91,(.st (.pair (.st (.pair .bool (.slice (.int .u32)))) (.st (.pair .bool (.slice (.int .u32)))))))],elems:= [(79,91)],cons:= [(58,mO),(105,eF),(112,fH),(113,eG),(114,lQ)],hint:= [19],N:=67,base:=B}
theorem BU{B:ah}(hB:aC B):aJ Tryz.prog (rl B):=⟨⟨tc ty3 (tc gd (tc ty91 (ae))),aT (by kernel_rfl) (af),by simp only[rl,ioB];omega⟩,aF (cc Tryz.func58 (mr hB) (cc Tryz.func105 (mu hB) (cc Tryz.func112 (wq hB) (cc Tryz.func113 (mv hB) (cc Tryz.func114 (o8 hB) (aw)))))),by kernel_rfl⟩
def po:Con:=fun l os=>match l,os with
 | [.z (.slice (.st (.pair (.st (.pair .bool (.slice (.int .u32)))) (.st (.pair .bool (.slice (.int .u32))))))) p, .z (.slice (.st (.pair (.st (.pair .bool (.slice (.int .u32)))) (.st (.pair .bool (.slice (.int .u32))))))) q], []=>some (Sz QM p/\Sz QM q/\p.length<=100/\q.length<=100, [.z (.slice (.st (.pair (.st (.pair .bool (.slice (.int .u32)))) (.st (.pair .bool (.slice (.int .u32))))))) (aI (bh (aq p) (aq q)))], [])
 |_,_=>none
theorem xq{B:ah}(hB:aC B):Valid B Tryz.prog 61 po:=by
 refine ab (BU hB).tab Tryz.func61 rfl rfl rfl ?_;intro args os C rs os' hc hC;unfold po at hc;split at hc;case h_2=>cases hc
 rename_i p q;cases hc;refine v_h (BU hB) fun X hP hT hr hG=> ?_;have hU:=rl.eq_1;unfold rl at hT;have hX:=ai @mO.eq_1<|ai @eF.eq_1<|ai @lQ.eq_1<|ai @fH.eq_1<| @eG.eq_1;simp only[Tryz.f61,aD,an,ioB];obtain⟨hp,hq,hl1,hl2⟩:=hC;refine s_g hG ?_;refine al ?_;refine s_q hG ?_ ?_
 ·try simp only[ba]
  exact⟨id,id,fun h=>by rw[h];rfl⟩
 refine ar ?_ ?_
 ·intro hb0;try simp only[bt] at hb0
  refine s_g hG ?_;refine az ?_;refine aB ?_;refine q_e [] ?_;exact H0 hb0
 ·intro hb0;try simp only[bf] at hb0
  have h0:=K9 hb0;refine au ?_;refine aj ?_;refine s_q hG ?_ ?_
  ·(try simp only[ba]);rw[wk hl1 hl2 h0];exact NR hl1 hl2
  refine al ?_;refine s_g hG ?_;refine av ?_;refine bw (fun(z:Nat)=>(⟨[(0, .l (.z (.slice (.st (.pair (.st (.pair .bool (.slice (.int .u32)))) (.st (.pair .bool (.slice (.int .u32))))))) p)),(1, .l (.z (.slice (.st (.pair (.st (.pair .bool (.slice (.int .u32)))) (.st (.pair .bool (.slice (.int .u32))))))) q)),(5, .l (.ownS 1208)),(27, .l (.z (.slice (.st (.pair (.st (.pair .bool (.slice (.int .u32)))) (.st (.pair .bool (.slice (.int .u32))))))) p)),(28, .l (.z (.int .i64) (p.length:Int))),(29, .l (.z (.int .i64) (z:Int)))], [(1208, .arr (.st (.pair (.st (.pair .bool (.slice (.int .u32)))) (.st (.pair .bool (.slice (.int .u32)))))) 91 (aI (mulN (aq p) (aq q) z)))]⟩:aa)) (fun z=>z<=p.length) (fun z=>p.length-z) 0 ?_ ?_ ?_;·refine q_l ?_;rw[wk hl1 hl2 h0,Int.toNat_natCast];exact⟨rfl,times_start p q⟩
  ·omega
  ·rintro i g1;(try dsimp only at g1);refine s_g hG ?_;refine al ?_;refine ar ?_ ?_
   ·intro hb1;(try simp only[bt] at hb1);refine au ?_;refine aj ?_;refine al ?_;refine av ?_;refine s_q hG ?_ ?_
    ·(try simp only[ba]);exact⟨by omega,hb1⟩
    (refine s_g hG ?_;refine av ?_;refine bw (fun(z:Nat)=>(⟨[(0, .l (.z (.slice (.st (.pair (.st (.pair .bool (.slice (.int .u32)))) (.st (.pair .bool (.slice (.int .u32))))))) p)),(1, .l (.z (.slice (.st (.pair (.st (.pair .bool (.slice (.int .u32)))) (.st (.pair .bool (.slice (.int .u32))))))) q)),(5, .l (.ownS 1208)),(27, .l (.z (.slice (.st (.pair (.st (.pair .bool (.slice (.int .u32)))) (.st (.pair .bool (.slice (.int .u32))))))) p)),(28, .l (.z (.int .i64) (p.length:Int))),(29, .l (.z (.int .i64) (i:Int))),(6, .l (.z (.int .i64) (i:Int))),(7, .l (.ownP 7 0)),(34, .l (.z (.slice (.st (.pair (.st (.pair .bool (.slice (.int .u32)))) (.st (.pair .bool (.slice (.int .u32))))))) q)),(35, .l (.z (.int .i64) (q.length:Int))),(36, .l (.z (.int .i64) (z:Int)))], [(1208, .arr (.st (.pair (.st (.pair .bool (.slice (.int .u32)))) (.st (.pair .bool (.slice (.int .u32)))))) 91 (aI (cF (mulN (aq p) (aq q) i) i (cf (aq p) i) (aq q) z))),(7, .box 91 [.z .bool (bk (cf (aq p) i)).1.1, .z (.slice (.int .u32)) (bk (cf (aq p) i)).1.2, .z .bool (bk (cf (aq p) i)).2.1, .z (.slice (.int .u32)) (bk (cf (aq p) i)).2.2])]⟩:aa)) (fun z=>z<=q.length) (fun z=>q.length-z) 0 ?_ ?_ ?_;·refine q_l ?_;rw[gk hp (by omega)];exact⟨rfl,rfl,rfl,rfl,rfl,rfl⟩);·omega
    ·rintro k g2;(try dsimp only at g2);refine s_g hG ?_;refine al ?_;refine ar ?_ ?_
     ·intro hb2;(try simp only[bt] at hb2);refine au ?_;refine aj ?_;refine al ?_;refine av ?_;refine s_q hG ?_ ?_
      ·(try simp only[ba]);exact⟨by omega,hb2⟩
      refine s_q hG ?_ ?_
      ·(try simp only[ba]);have ek:=gk hq (i:=k) (by omega);simp only[pe2];rw[ek];exact⟨b4 _,fun h=>⟨h,b4 _⟩,id⟩
      refine ar ?_ ?_
      ·intro hb3;(try simp only[bt] at hb3);have ek:=gk hq (i:=k) (by omega);obtain⟨w1,w2,w3,w4⟩:=DQ hp hq hl1 hl2 h0 (i:=i) (k:=k) (by omega) (by omega);refine gZ hG ?_ ?_
       ·(try simp only[ba]);simp only[pe2];rw[ek,w1,Int.toNat_natCast,aL,aL];exact⟨⟨by omega,by omega⟩,w2,w3,w4,⟨by omega,by omega⟩,w2⟩
       (refine aN ?_;refine aj ?_;refine ag hG ?_ ?_;·first|trivial|omega|(simp;done)|(simp;omega));show ∃ z,_;refine q_l ?_;first|exact uv hl2 (by omega) (uw hb3)|(simp only[pe2];rw[ek,w1,Int.toNat_natCast];simp only[aL];exact uu hp hq hl1 hl2 h0 (i:=i) (k:=k) (by omega) (by omega))
      ·(intro hb3;(try simp only[bf] at hb3);have ek:=gk hq (i:=k) (by omega);simp only[pe2,ek,aL] at hb3;refine au ?_;refine aN ?_;refine aj ?_;refine ag hG ?_ ?_;·first|trivial|omega|(simp;done)|(simp;omega));show ∃ z,_;refine q_l ?_;first|exact uv hl2 (by omega) (uw hb3)|(simp only[pe2];rw[ek,w1,Int.toNat_natCast];simp only[aL];exact uu hp hq hl1 hl2 h0 (i:=i) (k:=k) (by omega) (by omega))
     ·(intro hb2;(try simp only[bf] at hb2);refine bj ?_;refine aG ?_;refine ay ?_;refine ax ?_;refine aN ?_;refine aj ?_;refine ag hG ?_ ?_;·first|trivial|omega|(simp;done)|(simp;omega));show ∃ z,_;refine q_l ?_;exact H1 hl1 (by omega) (by omega)
   ·intro hb1;(try simp only[bf] at hb1);refine bj ?_;refine aG ?_;refine ay ?_;refine ax ?_;refine aj ?_;refine s_g hG ?_;refine az ?_;refine q_e [] ?_;exact times_fin h0 (by omega)
end Go.Proofs.YtdojbabpnaifoaaGreatDoor
end
section
namespace Go.Cm
def LV.toRow(id:Nat):LV->LV
 | .ownS i=>if i=id then .ownR id 0 else .ownS i
 |x=>x.kill id
def LV.ofRow(id j:Nat):LV->LV
 | .ownR i k=>if i=id then (if k=j then .ownS id else .junk) else .ownR i k
 |x=>x.kill id
def aa.toRow(s:aa)(id:Nat)(T':TypeId):Option aa:=
 match get? s.own id with
 |some (.arr t E xs)=>if id<ioB then some {env:=b6 (LV.toRow id) s.env,own:=upd (bx (LV.toRow id) s.own) id (.mat t T' E [some xs] [])} else none
 |_=>none
def aa.ofRow(s:aa)(id j:Nat):Option aa:=
 match get? s.own id with
 |some (.mat t _ E rows _)=>match (rows[j]?).getD none with
  |some xs=>if id<ioB then some {env:=b6 (LV.ofRow id j) s.env,own:=upd (bx (LV.ofRow id j) s.own) id (.arr t E xs)} else none
  |none=>none
 |_=>none
theorem St.toRow{X:Cx}{s s':aa}{id:Nat}{T':TypeId}(he:s.toRow id T'=some s'){ac:Act}{w:World}(h:St X s ac w):St X s' ac w:=by
 unfold aa.toRow at he;split at he;case h_2=>cases he
 rename_i t E xs hg;split at he;case isFalse=>cases he
 rename_i hid;cases he;obtain⟨ρ,hf⟩:=h.fits;obtain⟨cells,hr,hrow⟩:=hf.own _ (get?_mem hg);have hsl:∃ a n c,ρ id= .slice a n c:=by
  obtain⟨_,⟨h1,_⟩|⟨g,cap,cur,h1,_⟩⟩:=hrow<;>exact⟨_,_,_,h1⟩
 obtain⟨a,n,c,hsl⟩:=hsl;have hblk:∀ b,blk (ρ id)=some b↔Blk (ρ id) b:=by
  intro b;rw[hsl];cases a with
  |none=>simp[blk,Blk]
  |some a=>simp[blk,Blk]
 obtain⟨ρ',q1,q2⟩:=hf.renew (w':=w) hg (f:=LV.toRow id) (val:= .tuple #[.slice none 0 0,ρ id]) (obj':= .mat t T' E [some xs] [])
  (fun H' ρ' hh hs hρ hρd x v hx=>by
   cases x with
   |ownS i=>
    (simp only[LV.toRow];split;·rename_i e;subst e;have hx:v=ρ i/\_:=hx;exact⟨.slice none 0 0, [ρ i],a,n,c,hρd,by simp[hx.1],by rw[hx.1,hsl]⟩);·rename_i e;simp only[aU,hρ i e];exact hx
   |z t x=>exact bn hh hs hρ hx
   |ownP i o=>exact bn hh hs hρ hx
   |ownE i w o=>exact bn hh hs hρ hx
   |ownW i w o=>exact bn hh hs hρ hx
   |ownM i=>exact bn hh hs hρ hx
   |ownA i o=>exact bn hh hs hρ hx
   |ownR i o=>exact bn hh hs hρ hx
   |ownB i o p q=>exact bn hh hs hρ hx
   |fn f c=>exact bn hh hs hρ hx
   |val u=>exact bn hh hs hρ hx
   |junk=>exact bn hh hs hρ hx)
  (fun _ _ _=>rfl)
  (fun b hb=>by
   (obtain⟨u,hu,hb⟩:=hb;simp only[List.mem_cons,List.not_mem_nil,or_false] at hu;rcases hu with rfl|rfl;·simp[blk] at hb);·exact .inl ((hblk b).1 hb))
  (fun H' ρ' hh hs hρ hρd=>by
   refine⟨.slice none 0 0, [ρ id], [],hρd,⟨rfl,⟨rfl, .inl ⟨rfl,rfl⟩⟩,fun c hc=>by simp at hc,fun i j hi=>by simp at hi,?_,?_,?_⟩⟩
   ·(intro v hv;simp only[List.mem_singleton] at hv;subst hv;refine⟨⟨a,n,c,hsl⟩,fun b hb=>⟨by simp[blk],?_,?_⟩⟩;·exact((hf.own _ (get?_mem hg)).lt ((hblk b).1 hb)).1);·exact(hf.own _ (get?_mem hg)).cells ((hblk b).1 hb)
   ·intro j ys v hj hv;cases j with
    |zero=>
     simp at hj hv;subst hj;subst hv;exact⟨cells,aW hh hs hr,hrow⟩
    |succ j=>simp at hj
   ·intro i j xs' ys u v hne hi hj;cases i with
    |zero=>cases j with
     |zero=>exact absurd rfl hne
     |succ j=>simp at hj
    |succ i=>simp at hi)
  (fun hB _=>absurd hid (by omega))
 exact⟨h.marks,h.kept,h.size,h.below,h.others,h.small,ρ',q2⟩
theorem St.ofRow{X:Cx}{s s':aa}{id j:Nat}(he:s.ofRow id j=some s'){ac:Act}{w:World}(h:St X s ac w):St X s' ac w:=by
 unfold aa.ofRow at he;split at he;case h_2=>cases he
 rename_i t T' E rows idx hg;split at he;case h_2=>cases he
 rename_i xs hj;split at he;case isFalse=>cases he
 rename_i hid;cases he;obtain⟨ρ,hf⟩:=h.fits;obtain⟨h0,vs,cells,hρ0,hm⟩:=hf.own _ (get?_mem hg);have hjr:rows[j]? =some (some xs):=by
  cases hq:rows[j]? with
  |none=>rw[hq] at hj;cases hj
  |some o=>rw[hq] at hj;simp at hj;rw[hj]
 have hjl:j<vs.length:=by rw[hm.len];exact(List.getElem?_eq_some_iff.1 hjr).1
 have hvj:vs[j]? =some vs[j]:=List.getElem?_eq_getElem hjl;obtain⟨cs,hr,hrow⟩:=hm.row j xs _ hjr hvj;obtain⟨⟨a,n,c,hsl⟩,_⟩:=hm.shape vs[j] (List.getElem_mem hjl);obtain⟨ρ',q1,q2⟩:=hf.renew (w':=w) hg (f:=LV.ofRow id j) (val:=vs[j]) (obj':= .arr t E xs)
  (fun H' ρ' hh hs hρ hρd x v hx=>by
   cases x with
   |ownR i k=>
    simp only[LV.ofRow];split
    ·(rename_i e;subst e;split;·rename_i e;subst e;obtain⟨h1,vs1,a1,n1,c1,e1,e2,e3⟩:=hx;rw[hρ0] at e1;simp only[Value.tuple.injEq,Array.mk.injEq,List.cons.injEq] at e1;obtain⟨_,rfl⟩:=e1;rw[hvj] at e2;cases e2;exact⟨hρd.symm,_,_,_,e3⟩);·trivial
    ·rename_i e;have:=bn (x:= .ownR i k) hh hs hρ hx;unfold LV.kill at this;rw[if_neg (by simp[LV.isOf];exact e)] at this;exact this
   |z t x=>exact bn hh hs hρ hx
   |ownS i=>exact bn hh hs hρ hx
   |ownP i o=>exact bn hh hs hρ hx
   |ownE i w o=>exact bn hh hs hρ hx
   |ownW i w o=>exact bn hh hs hρ hx
   |ownM i=>exact bn hh hs hρ hx
   |ownA i o=>exact bn hh hs hρ hx
   |ownB i o p q=>exact bn hh hs hρ hx
   |fn f c=>exact bn hh hs hρ hx
   |val u=>exact bn hh hs hρ hx
   |junk=>exact bn hh hs hρ hx)
  (fun _ _ _=>rfl)
  (fun b hb=> .inl (by
   rw[hρ0];refine⟨vs[j],by simp,?_⟩;rw[hsl] at hb ⊢;cases a with
   |none=>simp[Blk] at hb
   |some a=>simpa [blk,Blk] using hb))
  (fun H' ρ' hh hs hρ hρd=>⟨cs,aW hh hs hr,by rw[hρd];exact hrow⟩)
  (fun hB _=>absurd hid (by omega))
 exact⟨h.marks,h.kept,h.size,h.below,h.others,h.small,ρ',q2⟩
theorem y6{X:Cx}{c:Code}{s s':aa}{K:Exit->aa->Prop}(id:Nat)(T':TypeId)(he:s.toRow id T'=some s')(h:J X c s' K):J X c s K:=
 fun ac w hst=>h ac w (hst.toRow he)
theorem rm{X:Cx}{c:Code}{s s':aa}{K:Exit->aa->Prop}(id j:Nat)(he:s.ofRow id j=some s')(h:J X c s' K):J X c s K:=
 fun ac w hst=>h ac w (hst.ofRow he)
end Go.Cm
end
section
namespace Go.Proofs.YtdojbabpnaifoaaGreatDoor
open Go Go.Cm Go.Proofs
def rn(B:ah):Tab:={types:= [(3,(.int .i64)),(79,(.slice (.st (.pair (.st (.pair .bool (.slice (.int .u32)))) (.st (.pair .bool (.slice (.int .u32)))))))),(91,(.st (.pair (.st (.pair .bool (.slice (.int .u32)))) (.st (.pair .bool (.slice (.int .u32)))))))],elems:= [(79,91)],cons:= [(119,fK)],hint:= [],N:=25,base:=B}
theorem BV{B:ah}(hB:aC B):aJ Tryz.prog (rn B):=⟨⟨tc ty3 (tc gd (tc ty91 (ae))),aT (by kernel_rfl) (af),by simp only[rn,ioB];omega⟩,aF (cc Tryz.func119 (xh hB) (aw)),by kernel_rfl⟩
def pw:Con:=fun l os=>match l,os with
 | [.z (.slice (.st (.pair (.st (.pair .bool (.slice (.int .u32)))) (.st (.pair .bool (.slice (.int .u32))))))) p], []=>some (oO p, [.z (.slice (.st (.pair (.st (.pair .bool (.slice (.int .u32)))) (.st (.pair .bool (.slice (.int .u32))))))) (aI (cx (aq p)))], [])
 |_,_=>none
theorem xr{B:ah}(hB:aC B):Valid B Tryz.prog 120 pw:=by
 refine ab (BV hB).tab Tryz.func120 rfl rfl rfl ?_;intro args os C rs os' hc hC;unfold pw at hc;split at hc;case h_2=>cases hc
 rename_i p;cases hc;refine v_h (BV hB) fun X hP hT hr hG=> ?_;have hU:=rn.eq_1;unfold rn at hT;have hX:= @fK.eq_1;simp only[Tryz.f120,aD,an,ioB];have hl:p.length<=1000:=hC.2.1;refine s_g hG ?_;refine s_g hG ?_;refine al ?_;refine s_g hG ?_;refine av ?_;refine bw (fun(z:Nat)=>(⟨[(0, .l (.z (.slice (.st (.pair (.st (.pair .bool (.slice (.int .u32)))) (.st (.pair .bool (.slice (.int .u32))))))) p)),(3, .l (.ownS 22)),(6, .l (.z (.slice (.st (.pair (.st (.pair .bool (.slice (.int .u32)))) (.st (.pair .bool (.slice (.int .u32))))))) p)),(7, .l (.z (.int .i64) (p.length:Int))),(8, .l (.z (.int .i64) (z:Int)))], [(22, .arr (.st (.pair (.st (.pair .bool (.slice (.int .u32)))) (.st (.pair .bool (.slice (.int .u32)))))) 91 (aI ((aq p).take z|>.map fun c=>c/aH (aq p))))]⟩:aa)) (fun z=>z<=p.length) (fun z=>p.length-z) 0 ?_ ?_ ?_;·refine q_l ?_;exact⟨rfl,by unfold ioB;omega,rfl⟩
 ·omega
 ·rintro k g1;try dsimp only at g1
  refine s_g hG ?_;refine al ?_;refine ar ?_ ?_
  ·intro hb0;(try simp only[bt] at hb0);obtain⟨m1,m2,m3,m4,m5,m6⟩:=Lb hC (k:=k) (by omega);refine au ?_;refine aj ?_;refine al ?_;refine av ?_;refine s_q hG ?_ ?_
   ·(try simp only[ba]);exact⟨by omega,hb0⟩
   refine y6 22 78 (by simp only[aa.toRow,LV.toRow,ioB,mx0,mx1,mx2,mx3,mx4,mx5,mx6,Nat.reduceLT,Nat.reduceEqDiff,Nat.reduceAdd,Nat.reduceMul,Nat.reduceSub,Nat.reduceLeDiff,Nat.reduceBEq,Nat.reduceBNe,reduceIte,reduceDIte,reduceCtorEq];rfl) ?_;refine gZ hG ?_ ?_
   ·(try simp only[ba]);simp only[pe2];rw[m1,m2];exact⟨m3,⟨m4,by rw[aL];exact m5⟩,rfl,m6⟩
   (refine aN ?_;refine aj ?_;refine rm 22 1 (by simp only[aa.ofRow,LV.ofRow,ioB,List.set_cons_zero,List.set_cons_succ,List.append_nil,List.nil_append,List.cons_append,List.getElem?_cons_zero,List.getElem?_cons_succ,Option.getD_some,mx0,mx1,mx2,mx3,mx4,mx5,mx6,Nat.reduceLT,Nat.reduceEqDiff,Nat.reduceAdd,Nat.reduceMul,Nat.reduceSub,Nat.reduceLeDiff,Nat.reduceBEq,Nat.reduceBNe,reduceIte,reduceDIte,reduceCtorEq];rfl) ?_;refine ag hG ?_ ?_;·first|trivial|omega|(simp;done)|(simp;omega));show ∃ z,_;refine q_l ?_;simp only[pe2];rw[m1,m2];simp only[aL];exact H2 hC (by omega)
  ·intro hb0;(try simp only[bf] at hb0);refine bj ?_;refine aG ?_;refine ay ?_;refine ax ?_;refine aj ?_;refine s_g hG ?_;refine az ?_;refine q_e [] ?_;exact NS (by omega)
def rp(B:ah):Tab:={types:= [(3,(.int .i64)),(79,(.slice (.st (.pair (.st (.pair .bool (.slice (.int .u32)))) (.st (.pair .bool (.slice (.int .u32)))))))),(91,(.st (.pair (.st (.pair .bool (.slice (.int .u32)))) (.st (.pair .bool (.slice (.int .u32)))))))],elems:= [(79,91)],cons:= [(105,eF),(124,IU)],hint:= [],N:=24,base:=B}
theorem BW{B:ah}(hB:aC B):aJ Tryz.prog (rp B):=⟨⟨tc ty3 (tc gd (tc ty91 (ae))),aT (by kernel_rfl) (af),by simp only[rp,ioB];omega⟩,aF (cc Tryz.func105 (mu hB) (cc Tryz.func124 (xi hB) (aw))),by kernel_rfl⟩
def j6:Con:=fun l os=>match l,os with
 | [.z (.slice (.st (.pair (.st (.pair .bool (.slice (.int .u32)))) (.st (.pair .bool (.slice (.int .u32))))))) p], []=>some (Sz QH p/\p.length<=1000, [.z (.slice (.st (.pair (.st (.pair .bool (.slice (.int .u32)))) (.st (.pair .bool (.slice (.int .u32))))))) (aI (aZ (aq p)))], [])
 |_,_=>none
theorem xt{B:ah}(hB:aC B):Valid B Tryz.prog 77 j6:=by
 refine ab (BW hB).tab Tryz.func77 rfl rfl rfl ?_;intro args os C rs os' hc hC;unfold j6 at hc;split at hc;case h_2=>cases hc
 rename_i p;cases hc;refine v_h (BW hB) fun X hP hT hr hG=> ?_;have hU:=rp.eq_1;unfold rp at hT;have hX:=ai @eF.eq_1<| @IU.eq_1;simp only[Tryz.f77,aD,an,ioB];have hl:p.length<=1000:=hC.2;refine s_g hG ?_;refine s_g hG ?_;refine al ?_;refine s_g hG ?_;refine av ?_;refine bw (fun(z:Nat)=>(⟨[(3, .l (.ownS 21)),(6, .l (.z (.slice (.st (.pair (.st (.pair .bool (.slice (.int .u32)))) (.st (.pair .bool (.slice (.int .u32))))))) p)),(7, .l (.z (.int .i64) (p.length:Int))),(8, .l (.z (.int .i64) (z:Int)))], [(21, .arr (.st (.pair (.st (.pair .bool (.slice (.int .u32)))) (.st (.pair .bool (.slice (.int .u32)))))) 91 (aI (lC (aq p) z)))]⟩:aa)) (fun z=>z<=p.length) (fun z=>p.length-z) 0 ?_ ?_ ?_;·refine q_l ?_;exact⟨rfl,by unfold ioB;omega,rfl⟩
 ·omega
 ·rintro k g1;try dsimp only at g1
  refine s_g hG ?_;refine al ?_;refine ar ?_ ?_
  ·intro hb0;(try simp only[bt] at hb0);obtain⟨m1,m2,m3,m4⟩:=Lc hC.1 hl (k:=k) (by omega);refine au ?_;refine aj ?_;refine al ?_;refine av ?_;refine s_q hG ?_ ?_
   ·(try simp only[ba]);exact⟨by omega,hb0⟩
   refine s_g hG ?_;refine ar ?_ ?_
   ·intro hb1;(try simp only[bt] at hb1);refine y6 21 78 (by simp only[aa.toRow,LV.toRow,ioB,mx0,mx1,mx2,mx3,mx4,mx5,mx6,Nat.reduceLT,Nat.reduceEqDiff,Nat.reduceAdd,Nat.reduceMul,Nat.reduceSub,Nat.reduceLeDiff,Nat.reduceBEq,Nat.reduceBNe,reduceIte,reduceDIte,reduceCtorEq];rfl) ?_;refine gZ hG ?_ ?_
    ·(try simp only[ba]);simp only[pe2];rw[m2];exact⟨m1,m3,rfl,m4⟩
    (refine aN ?_;refine aj ?_;(first|refine rm 21 1 (by simp only[aa.ofRow,LV.ofRow,ioB,List.set_cons_zero,List.set_cons_succ,List.append_nil,List.nil_append,List.cons_append,List.getElem?_cons_zero,List.getElem?_cons_succ,Option.getD_some,mx0,mx1,mx2,mx3,mx4,mx5,mx6,Nat.reduceLT,Nat.reduceEqDiff,Nat.reduceAdd,Nat.reduceMul,Nat.reduceSub,Nat.reduceLeDiff,Nat.reduceBEq,Nat.reduceBNe,reduceIte,reduceDIte,reduceCtorEq];rfl) ?_|skip);refine ag hG ?_ ?_;·first|trivial|omega|(simp;done)|(simp;omega));show ∃ z,_;refine q_l ?_;first|exact Az hl (by omega) (by omega)|(simp only[pe2];rw[m2];simp only[aL];exact wm hl (by omega) (by omega))
   ·(intro hb1;(try simp only[bf] at hb1);refine au ?_;refine aN ?_;refine aj ?_;(first|refine rm 21 1 (by simp only[aa.ofRow,LV.ofRow,ioB,List.set_cons_zero,List.set_cons_succ,List.append_nil,List.nil_append,List.cons_append,List.getElem?_cons_zero,List.getElem?_cons_succ,Option.getD_some,mx0,mx1,mx2,mx3,mx4,mx5,mx6,Nat.reduceLT,Nat.reduceEqDiff,Nat.reduceAdd,Nat.reduceMul,Nat.reduceSub,Nat.reduceLeDiff,Nat.reduceBEq,Nat.reduceBNe,reduceIte,reduceDIte,reduceCtorEq];rfl) ?_|skip);refine ag hG ?_ ?_;·first|trivial|omega|(simp;done)|(simp;omega));show ∃ z,_;refine q_l ?_;first|exact Az hl (by omega) (by omega)|(simp only[pe2];rw[m2];simp only[aL];exact wm hl (by omega) (by omega))
  ·intro hb0;(try simp only[bf] at hb0);refine bj ?_;refine aG ?_;refine ay ?_;refine ax ?_;refine aj ?_;refine s_g hG ?_;refine az ?_;refine q_e [] ?_;rw[show k=(aq p).length by rw[aM];omega];rfl
end Go.Proofs.YtdojbabpnaifoaaGreatDoor
end
section
namespace Go.Proofs
open Go.RowKit Go.Cm Go.Shelf
attribute [local go_sem] Oper.semAt_some
set_option maxHeartbeats 2000000 in
set_option maxRecDepth 100000 in
theorem Et(ad:Addr)(n c:Nat)(news:List Value)(w:World)(hl:news.length=n*4)(hn:n<=maxLen)(hbig:n*64<=140737488355328)
  (hc:∀ j u,news[j]? =some u->w.cell? (ad.add j)=some u) (h1:∀ u∈news,u.oneCell'=true):
  Calls Tryz.prog 118 #[.slice (some ad) n c] w fun e w'=>∃ v',e= .returned v'/\w'.ownsRow w.heap.size 91 4 v' n news/\Below w.heap.size w w':=by
 have t4:=Tryz.underlying4;have a4:=Tryz.isAgg4;have z4:=Tryz.sizeOf4;have v4:=Tryz.zeroValue4;have t22:=Tryz.underlying79;have a22:=Tryz.isAgg79;have z22:=Tryz.sizeOf79;have v22:=Tryz.zeroValue79;obtain⟨i0,hi,hz0,hz1,hz2⟩:=info_parts (show (Tryz.prog.info? 91).map (fun i=>(i.zero,i.size,i.bytes))=some (some (.agg zc4.toArray),4,64) by kernel_rfl);have q22:∀ (w:World) (a:Option Addr) (n c n' c':Nat),(binOp .eql 79 (.slice a n c) (.slice none n' c')).run Tryz.prog w= .ok (.bool a.isNone) w:=fun w a n c n' c'=>Lib.run_eql_slice_nil w _ _ a n c n' c' t22;have u22:∀ w,Sem.run Tryz.prog (underlying 79) w= .ok (TypeDesc.slice 91) w:=run_underlying t22;have z23:∀ w,(Go.sizeOf 91).run Tryz.prog w= .ok 4 w:=fun w=>by simp[Go.sizeOf,typeInfo,hi,hz1]
 have A:Aside (∀ j u,news[j]? =some u->w.cell? (ad.add j)=some u):=hc;clear hc
 go_enter Tryz.func118,Tryz.ntmps118
 go_wp2_with (at_builtin;refine wpList_append_own _ rfl _ _ 79 rfl w.heap.size 91 i0 (.agg zc4.toArray) 4 64 t22 hi hz0 hz1 hz2 rfl (by omega) _ _ _ rfl (World.ownsRow_made w #[] 0 (Nat.le_refl _) (Nat.zero_le _) (by simp)) ad n c news rfl ?qc1 ?qc2 ?qc3 ?qc4 ?qc5 ?qc6 ?_)
 case qc1=>exact hl
 case qc2=>
  intro j u hj;exact Lib.cell?_alloc_some _ (A.out j u hj)
 case qc3=>exact h1
 case qc4=>rw[Nat.zero_add];exact hn
 case qc5=>rw[Nat.zero_add];exact hbig
 case qc6=>simp
 intro v' w1 hown hgrow hnil
 go_wp2
 go_ret
 refine⟨v',rfl,by simpa using hown,?_⟩;exact((Below.refl _ w).alloc (Nat.le_refl _) _).grown hgrow (by simp) (by intro k hk;simp[Value.ownBlock] at hk;omega)
set_option maxHeartbeats 1000000 in
theorem I2(n c:Nat)(w:World):Calls Tryz.prog 118 #[.slice none n c] w fun e w'=>e= .returned (.slice none 0 0)/\w'=w:=by
 have t4:=Tryz.underlying4;have a4:=Tryz.isAgg4;have z4:=Tryz.sizeOf4;have v4:=Tryz.zeroValue4;have t22:=Tryz.underlying79;have a22:=Tryz.isAgg79;have z22:=Tryz.sizeOf79;have v22:=Tryz.zeroValue79;have q22:∀ (w:World) (a:Option Addr) (n c n' c':Nat),(binOp .eql 79 (.slice a n c) (.slice none n' c')).run Tryz.prog w= .ok (.bool a.isNone) w:=fun w a n c n' c'=>Lib.run_eql_slice_nil w _ _ a n c n' c' t22
 go_enter Tryz.func118,Tryz.ntmps118
 go_wp2
 go_ret
 exact⟨rfl,rfl⟩
def dj:Con:=fun l os=>match l,os with
 | [.z (.slice (.st (.pair (.st (.pair .bool (.slice (.int .u32)))) (.st (.pair .bool (.slice (.int .u32))))))) xs], []=>some (xs.length<=QL, [.own (.st (.pair (.st (.pair .bool (.slice (.int .u32)))) (.st (.pair .bool (.slice (.int .u32)))))) 91 xs], [])
 |_,_=>none
theorem I3{B:ah}(hB:aC B):Valid B Tryz.prog 118 dj:=by
 intro args os C rs os' hc hC O w vals ρ0 hOn hIo hO hOI hargs hown hap;unfold dj at hc;split at hc;case h_2=>cases hc
 rename_i xs;cases hc;obtain⟨u,rfl,hu⟩:=qn hargs;obtain⟨cells,hr,h⟩:=iC hu;have hl:=bM (fun c x h=>NT.rep_length h) hr;have hC:xs.length<=1000000000:=hC;have hmove:∀ w':World,Below w.heap.size w w'->∀ H:Nat->Prop,(∀ b,b<w.heap.size->H b->O b)->cK (fun c x=>NT.rep H w' c x) cells xs:=
  fun w' hb H hH=>aW (fun b hlt hb=> .inl (hH b hlt hb)) (fun b _ hlt=>hb.block b (c8 hlt)) hr
 rcases h with⟨rfl,h0,rfl⟩|⟨ad,c,rfl,hc⟩;·refine(I2 0 0 w).mono fun e w' ⟨he,hw⟩=> ?_;subst he;subst hw;exact yl hO (Below.refl _ _) ⟨_,_,_,rfl⟩ (hmove _ (Below.refl _ _)) ⟨by simp[h0], .inl ⟨rfl,h0⟩⟩
 ·refine(Et ad xs.length c cells w hl (by unfold maxLen;omega) (by omega) hc (eW hr)).mono fun e w' ⟨v',he,hrow,hb⟩=> ?_;subst he;obtain⟨h1,h2⟩:=hrow;refine yl hO hb ?_ (hmove _ hb) ⟨h1,?_⟩;·rcases h2 with⟨rfl,_⟩|⟨g,cap,cur,rfl,_⟩<;>exact⟨_,_,_,rfl⟩
  ·(rcases h2 with h2|⟨g,cap,cur,e1,e2,e3,e4,e5,e6,e7⟩;·exact .inl h2);·exact .inr ⟨g,cap,cur,e1,e2,e3,e4,e5,by rw[e6];exact Nat.le_refl _,e7⟩
end Go.Proofs
end
section
namespace Go.Proofs.YtdojbabpnaifoaaGreatDoor
open Go Go.Cm Go.Proofs
def dc(B:ah):Tab:={types:= [(3,(.int .i64)),(79,(.slice (.st (.pair (.st (.pair .bool (.slice (.int .u32)))) (.st (.pair .bool (.slice (.int .u32)))))))),(91,(.st (.pair (.st (.pair .bool (.slice (.int .u32)))) (.st (.pair .bool (.slice (.int .u32)))))))],elems:= [(79,91)],cons:= [(60,fJ),(82,gv),(105,eF),(112,fH),(113,eG),(118,dj),(119,fK)],hint:= [],N:=78,io:= [(82, [0])],frees:= [(82, [0])],base:=B}
theorem BX{B:ah}(hB:aC B):aJ Tryz.prog (dc B):=⟨⟨tc ty3 (tc gd (tc ty91 (ae))),aT (by kernel_rfl) (af),by simp only[dc,ioB];omega⟩,aF (cc Tryz.func60 (xg hB) (cc Tryz.func82 (I1 hB) (cc Tryz.func105 (mu hB) (cc Tryz.func112 (wq hB) (cc Tryz.func113 (mv hB) (cc Tryz.func118 (I3 hB) (cc Tryz.func119 (xh hB) (aw)))))))),by kernel_rfl⟩
def qf:Con:=fun l os=>match l,os with
 | [.z (.slice (.st (.pair (.st (.pair .bool (.slice (.int .u32)))) (.st (.pair .bool (.slice (.int .u32))))))) p, .z (.slice (.st (.pair (.st (.pair .bool (.slice (.int .u32)))) (.st (.pair .bool (.slice (.int .u32))))))) q], []=>some (fG p q, [.z (.slice (.st (.pair (.st (.pair .bool (.slice (.int .u32)))) (.st (.pair .bool (.slice (.int .u32))))))) (aI (divN (aq p) (aq q)).1), .own (.st (.pair (.st (.pair .bool (.slice (.int .u32)))) (.st (.pair .bool (.slice (.int .u32)))))) 91 (aI (divN (aq p) (aq q)).2)], [])
 |_,_=>none
theorem px{B:ah}(hB:aC B):Valid B Tryz.prog 68 qf:=by
 refine ab (BX hB).tab Tryz.func68 rfl rfl rfl ?_;intro args os C rs os' hc hC;unfold qf at hc;split at hc;case h_2=>cases hc
 rename_i p q;cases hc;refine v_h (BX hB) fun X hP hT hr hG=> ?_;have hU:=dc.eq_1;unfold dc at hT;have hX:=ai @dj.eq_1<|ai @fK.eq_1<|ai @eF.eq_1<|ai @fJ.eq_1<|ai @fH.eq_1<|ai @gv.eq_1<|ai @eG.eq_1<|ai @b9.eq_def<| @cr.eq_def;simp only[Tryz.f68,aD,an,ioB];refine al ?_;have hl1:=hC.l1;have hl2:=hC.l2;have h0:=hC.h0;obtain⟨v1,v2,v3⟩:=PN hC;refine cM hG (by simp only[hT,dc,b9.eq_def,cr.eq_def,dj,fK,eF,fJ,fH,gv,eG,mx0,mx1,mx2,mx3,mx4,mx5,mx6,aV,br,bN,bc,bq,Ty.fieldTy,Ty.fieldOf,Nat.reduceLT,Nat.reduceEqDiff,Nat.reduceAdd,Nat.reduceMul,Nat.reduceSub,Nat.reduceLeDiff,Nat.reduceBEq,Nat.reduceBNe,reduceIte,reduceDIte,reduceCtorEq];rfl) ?_ ?_;·first|trivial|omega|(simp;done)|(simp;omega)
 refine aj ?_;refine al ?_;refine cM hG (by simp only[hT,dc,b9.eq_def,cr.eq_def,dj,fK,eF,fJ,fH,gv,eG,mx0,mx1,mx2,mx3,mx4,mx5,mx6,aV,br,bN,bc,bq,Ty.fieldTy,Ty.fieldOf,Nat.reduceLT,Nat.reduceEqDiff,Nat.reduceAdd,Nat.reduceMul,Nat.reduceSub,Nat.reduceLeDiff,Nat.reduceBEq,Nat.reduceBNe,reduceIte,reduceDIte,reduceCtorEq];rfl) ?_ ?_
 ·try simp only[ba]
  show p.length<=1000000000;omega
 refine aj ?_;refine al ?_;refine cM hG (by simp only[hT,dc,b9.eq_def,cr.eq_def,dj,fK,eF,fJ,fH,gv,eG,mx0,mx1,mx2,mx3,mx4,mx5,mx6,aV,br,bN,bc,bq,Ty.fieldTy,Ty.fieldOf,Nat.reduceLT,Nat.reduceEqDiff,Nat.reduceAdd,Nat.reduceMul,Nat.reduceSub,Nat.reduceLeDiff,Nat.reduceBEq,Nat.reduceBNe,reduceIte,reduceDIte,reduceCtorEq];rfl) ?_ ?_
 ·try simp only[ba]
  rw[v1];exact⟨v2,v3⟩
 refine aj ?_;refine al ?_;refine av ?_;refine Ka 1104 1600 (by simp only[hT,dc,mx0,mx1,mx2,mx3,mx4,mx5,mx6,Nat.reduceLT,Nat.reduceEqDiff,Nat.reduceAdd,Nat.reduceMul,Nat.reduceSub,Nat.reduceLeDiff,Nat.reduceBEq,Nat.reduceBNe,reduceIte,reduceDIte,reduceCtorEq];rfl) ?_;refine bw (fun(z:Nat×List Rat×List Rat)=>(⟨[(0, .l (.z (.slice (.st (.pair (.st (.pair .bool (.slice (.int .u32)))) (.st (.pair .bool (.slice (.int .u32))))))) p)),(1, .l (.z (.slice (.st (.pair (.st (.pair .bool (.slice (.int .u32)))) (.st (.pair .bool (.slice (.int .u32))))))) q)),(6, .l (.ownS 1600)),(7, .l (.ownS 1184))], [(1600, .arr (.st (.pair (.st (.pair .bool (.slice (.int .u32)))) (.st (.pair .bool (.slice (.int .u32)))))) 91 (aI z.2.1)),(1184, .arr (.st (.pair (.st (.pair .bool (.slice (.int .u32)))) (.st (.pair .bool (.slice (.int .u32)))))) 91 (aI z.2.2))]⟩:aa)) (fun z=>DivPhi p q z.1 z.2.1 z.2.2) (fun z=>z.2.1.length) (p.length+1,aq p,List.replicate (p.length+1-q.length) 0) ?_ ?_ ?_;·refine q_l ?_;rw[v1,Int.toNat_natCast,hC.enc,Ax];exact⟨rfl,rfl⟩
 ·exact div_start hC
 ·rintro⟨n,r,s⟩ hz;try dsimp only at hz
  refine al ?_;refine al ?_;refine cM hG (by simp only[hT,dc,b9.eq_def,cr.eq_def,dj,fK,eF,fJ,fH,gv,eG,mx0,mx1,mx2,mx3,mx4,mx5,mx6,aV,br,bN,bc,bq,Ty.fieldTy,Ty.fieldOf,Nat.reduceLT,Nat.reduceEqDiff,Nat.reduceAdd,Nat.reduceMul,Nat.reduceSub,Nat.reduceLeDiff,Nat.reduceBEq,Nat.reduceBNe,reduceIte,reduceDIte,reduceCtorEq];rfl) ?_ ?_;·first|trivial|omega|(simp;done)|(simp;omega)
  refine aj ?_;refine ar ?_ ?_
  ·(intro hb0;(try simp only[bt] at hb0);(have hle:q.length<=r.length:=by have h9:(q.length:Int)<=((aI r).length:Int):=hb0;rw[aE] at h9;omega);obtain⟨w1,w2,n1,n2,n3⟩:=Lf hC hz hle;have hk:=QA hC hz hle;refine au ?_;refine aj ?_;refine av ?_;refine al ?_;refine cM hG (by simp only[hT,dc,b9.eq_def,cr.eq_def,dj,fK,eF,fJ,fH,gv,eG,mx0,mx1,mx2,mx3,mx4,mx5,mx6,aV,br,bN,bc,bq,Ty.fieldTy,Ty.fieldOf,Nat.reduceLT,Nat.reduceEqDiff,Nat.reduceAdd,Nat.reduceMul,Nat.reduceSub,Nat.reduceLeDiff,Nat.reduceBEq,Nat.reduceBNe,reduceIte,reduceDIte,reduceCtorEq];rfl) ?_ ?_;·first|trivial|omega|(simp;done)|(simp;omega));refine aj ?_;refine al ?_;refine tJ hG (by simp only[hT,mt0,dc,b9.eq_def,cr.eq_def,dj,fK,eF,fJ,fH,gv,eG,mx0,mx1,mx2,mx3,mx4,mx5,mx6,aV,br,bN,bc,bq,Ty.fieldTy,Ty.fieldOf,Nat.reduceLT,Nat.reduceEqDiff,Nat.reduceAdd,Nat.reduceMul,Nat.reduceSub,Nat.reduceLeDiff,Nat.reduceBEq,Nat.reduceBNe,reduceIte,reduceDIte,reduceCtorEq];rfl) (by kernel_rfl) (by rfl) (by rfl) ?_ ?_
   ·(try simp only[ba]);simp only[w1,w2,Int.toNat_natCast,n1,n2];exact H4 hC hz hle
   refine aj ?_;refine al ?_;refine cM hG (by simp only[hT,dc,b9.eq_def,cr.eq_def,dj,fK,eF,fJ,fH,gv,eG,mx0,mx1,mx2,mx3,mx4,mx5,mx6,aV,br,bN,bc,bq,Ty.fieldTy,Ty.fieldOf,Nat.reduceLT,Nat.reduceEqDiff,Nat.reduceAdd,Nat.reduceMul,Nat.reduceSub,Nat.reduceLeDiff,Nat.reduceBEq,Nat.reduceBNe,reduceIte,reduceDIte,reduceCtorEq];rfl) ?_ ?_
   ·(try simp only[ba]);simp only[hk,Int.toNat_natCast];exact⟨⟨(yi hC hz hle).1,(yi hC hz hle).2.1⟩,(yi hC hz hle).2.2⟩
   (refine aj ?_;refine al ?_;refine al ?_;refine cM hG (by simp only[hT,dc,b9.eq_def,cr.eq_def,dj,fK,eF,fJ,fH,gv,eG,mx0,mx1,mx2,mx3,mx4,mx5,mx6,aV,br,bN,bc,bq,Ty.fieldTy,Ty.fieldOf,Nat.reduceLT,Nat.reduceEqDiff,Nat.reduceAdd,Nat.reduceMul,Nat.reduceSub,Nat.reduceLeDiff,Nat.reduceBEq,Nat.reduceBNe,reduceIte,reduceDIte,reduceCtorEq];rfl) ?_ ?_;·first|trivial|omega|(simp;done)|(simp;omega));refine aj ?_;refine av ?_;refine bw (fun(z:Nat)=>(⟨[(0, .l (.z (.slice (.st (.pair (.st (.pair .bool (.slice (.int .u32)))) (.st (.pair .bool (.slice (.int .u32))))))) p)),(1, .l (.z (.slice (.st (.pair (.st (.pair .bool (.slice (.int .u32)))) (.st (.pair .bool (.slice (.int .u32))))))) q)),(6, .l (.ownS 1600)),(7, .l (.ownS 1184)),(8, .l (.z (.int .i64) ((r.length-q.length:Nat):Int))),(9, .l (.ownP 9 0)),(51, .l (.z (.slice (.st (.pair (.st (.pair .bool (.slice (.int .u32)))) (.st (.pair .bool (.slice (.int .u32))))))) q)),(52, .l (.z (.int .i64) (q.length:Int))),(53, .l (.z (.int .i64) (z:Int)))], [(1600, .arr (.st (.pair (.st (.pair .bool (.slice (.int .u32)))) (.st (.pair .bool (.slice (.int .u32)))))) 91 (aI (cF r (r.length-q.length) (-(aH r/aH (aq q))) (aq q) z))),(1184, .arr (.st (.pair (.st (.pair .bool (.slice (.int .u32)))) (.st (.pair .bool (.slice (.int .u32)))))) 91 (aI (s.set (r.length-q.length) (aH r/aH (aq q))))),(9, .box 91 [.z .bool (bk (aH r/aH (aq q))).1.1, .z (.slice (.int .u32)) (bk (aH r/aH (aq q))).1.2, .z .bool (bk (aH r/aH (aq q))).2.1, .z (.slice (.int .u32)) (bk (aH r/aH (aq q))).2.2])]⟩:aa)) (fun z=>z<=q.length) (fun z=>q.length-z) 0 ?_ ?_ ?_;·refine q_l ?_;simp only[hk,w1,w2,Int.toNat_natCast,pe2,n1,n2,aL,ur,cF,true_and,and_true,and_self];rfl
   ·omega
   ·(rintro i g1;(try dsimp only at g1);refine al ?_;refine cM hG (by simp only[hT,dc,b9.eq_def,cr.eq_def,dj,fK,eF,fJ,fH,gv,eG,mx0,mx1,mx2,mx3,mx4,mx5,mx6,aV,br,bN,bc,bq,Ty.fieldTy,Ty.fieldOf,Nat.reduceLT,Nat.reduceEqDiff,Nat.reduceAdd,Nat.reduceMul,Nat.reduceSub,Nat.reduceLeDiff,Nat.reduceBEq,Nat.reduceBNe,reduceIte,reduceDIte,reduceCtorEq];rfl) ?_ ?_;·first|trivial|omega|(simp;done)|(simp;omega));refine aj ?_;refine al ?_;refine ar ?_ ?_
    ·intro hb1;(try simp only[bt] at hb1);(have hi:i<q.length:=by have h9:(i:Int)<(q.length:Int):=hb1;omega);obtain⟨u1,u2,u3,u4,u5,u6⟩:=Ld hC hz hle hi;refine au ?_;refine aj ?_;refine al ?_;refine av ?_;refine al ?_;refine cM hG (by simp only[hT,dc,b9.eq_def,cr.eq_def,dj,fK,eF,fJ,fH,gv,eG,mx0,mx1,mx2,mx3,mx4,mx5,mx6,aV,br,bN,bc,bq,Ty.fieldTy,Ty.fieldOf,Nat.reduceLT,Nat.reduceEqDiff,Nat.reduceAdd,Nat.reduceMul,Nat.reduceSub,Nat.reduceLeDiff,Nat.reduceBEq,Nat.reduceBNe,reduceIte,reduceDIte,reduceCtorEq];rfl) ?_ ?_
     ·(try simp only[ba]);exact⟨by omega,hb1⟩
     refine aj ?_;refine tJ hG (by simp only[hT,mt0,dc,b9.eq_def,cr.eq_def,dj,fK,eF,fJ,fH,gv,eG,mx0,mx1,mx2,mx3,mx4,mx5,mx6,aV,br,bN,bc,bq,Ty.fieldTy,Ty.fieldOf,Nat.reduceLT,Nat.reduceEqDiff,Nat.reduceAdd,Nat.reduceMul,Nat.reduceSub,Nat.reduceLeDiff,Nat.reduceBEq,Nat.reduceBNe,reduceIte,reduceDIte,reduceCtorEq];rfl) (by kernel_rfl) (by rfl) (by rfl) ?_ ?_
     ·(try simp only[ba]);simp only[pe2,u1,u3,u4,Int.toNat_natCast,aL];exact H5 hC hz hle hi
     (refine aN ?_;refine aj ?_;refine cM hG (by simp only[hT,dc,b9.eq_def,cr.eq_def,dj,fK,eF,fJ,fH,gv,eG,mx0,mx1,mx2,mx3,mx4,mx5,mx6,aV,br,bN,bc,bq,Ty.fieldTy,Ty.fieldOf,Nat.reduceLT,Nat.reduceEqDiff,Nat.reduceAdd,Nat.reduceMul,Nat.reduceSub,Nat.reduceLeDiff,Nat.reduceBEq,Nat.reduceBNe,reduceIte,reduceDIte,reduceCtorEq];rfl) ?_ ?_;·first|trivial|omega|(simp;done)|(simp;omega));show ∃ z,_;refine q_l ?_;simp only[pe2,u1,u3,u4,Int.toNat_natCast,aL,NV];exact Lg (n:=n) (s:=s) hC hi
    ·intro hb1;(try simp only[bf] at hb1);(have hi:i=q.length:=by have h9: ¬ (i:Int)<(q.length:Int):=hb1;omega);refine bj ?_;refine aG ?_;refine ay ?_;refine ax ?_;refine aj ?_;refine cM hG (by simp only[hT,dc,b9.eq_def,cr.eq_def,dj,fK,eF,fJ,fH,gv,eG,mx0,mx1,mx2,mx3,mx4,mx5,mx6,aV,br,bN,bc,bq,Ty.fieldTy,Ty.fieldOf,Nat.reduceLT,Nat.reduceEqDiff,Nat.reduceAdd,Nat.reduceMul,Nat.reduceSub,Nat.reduceLeDiff,Nat.reduceBEq,Nat.reduceBNe,reduceIte,reduceDIte,reduceCtorEq];rfl) ?_ ?_
     ·(try simp only[ba]);rw[Fq (p:=p) (n:=n) (s:=s) hi];exact Le hC hz hle
     refine aN ?_;show ∃ z,_;refine q_l ?_;obtain⟨m,hm⟩:=div_next hC hz hle;exact⟨m,aS (cC (aq q) r),by rw[Fq (p:=p) (n:=n) (s:=s) hi,aK],_,rfl,hm,fy (by rw[aM];exact h0) (by rw[aM];exact hle) hC.hl⟩
  ·(intro hb0;(try simp only[bf] at hb0);(have hle: ¬q.length<=r.length:=by have h9: ¬ (q.length:Int)<=((aI r).length:Int):=hb0;rw[aE] at h9;omega);have he:=div_end hz hle;refine bj ?_;refine aG ?_;refine ay ?_;refine ax ?_;refine aj ?_;refine al ?_;refine cM hG (by simp only[hT,dc,b9.eq_def,cr.eq_def,dj,fK,eF,fJ,fH,gv,eG,mx0,mx1,mx2,mx3,mx4,mx5,mx6,aV,br,bN,bc,bq,Ty.fieldTy,Ty.fieldOf,Nat.reduceLT,Nat.reduceEqDiff,Nat.reduceAdd,Nat.reduceMul,Nat.reduceSub,Nat.reduceLeDiff,Nat.reduceBEq,Nat.reduceBNe,reduceIte,reduceDIte,reduceCtorEq];rfl) ?_ ?_;·first|trivial|omega|(simp;done)|(simp;omega));refine aj ?_;refine az ?_;refine q_e [] ?_;rw[<- he];exact⟨rfl,trivial,rfl⟩
def rq(B:ah):Tab:={types:= [(3,(.int .i64)),(79,(.slice (.st (.pair (.st (.pair .bool (.slice (.int .u32)))) (.st (.pair .bool (.slice (.int .u32))))))))],elems:= [],cons:= [(68,qf),(120,pw)],hint:= [13],N:=21,base:=B}
theorem BZ{B:ah}(hB:aC B):aJ Tryz.prog (rq B):=⟨⟨tc ty3 (tc gd (ae)),af,by simp only[rq,ioB];omega⟩,aF (cc Tryz.func68 (px hB) (cc Tryz.func120 (xr hB) (aw))),by kernel_rfl⟩
def mz:Con:=fun l os=>match l,os with
 | [.z (.slice (.st (.pair (.st (.pair .bool (.slice (.int .u32)))) (.st (.pair .bool (.slice (.int .u32))))))) p, .z (.slice (.st (.pair (.st (.pair .bool (.slice (.int .u32)))) (.st (.pair .bool (.slice (.int .u32))))))) q], []=>some (iS p q, [.z (.slice (.st (.pair (.st (.pair .bool (.slice (.int .u32)))) (.st (.pair .bool (.slice (.int .u32))))))) (aI (bJ (aq p) (aq q)))], [])
 |_,_=>none
theorem xu{B:ah}(hB:aC B):Valid B Tryz.prog 70 mz:=by
 refine ab (BZ hB).tab Tryz.func70 rfl rfl rfl ?_;intro args os C rs os' hc hC;unfold mz at hc;split at hc;case h_2=>cases hc
 rename_i p q;cases hc;refine v_h (BZ hB) fun X hP hT hr hG=> ?_;have hU:=rq.eq_1;unfold rq at hT;have hX:=ai @pw.eq_1<| @qf.eq_1;simp only[Tryz.f70,aD,an,ioB];refine s_g hG ?_;refine al ?_;refine av ?_;refine bw (fun(z:Nat×List Rat×List Rat)=>(⟨[(0, .l (.z (.slice (.st (.pair (.st (.pair .bool (.slice (.int .u32)))) (.st (.pair .bool (.slice (.int .u32))))))) (aI z.2.1))),(1, .l (.z (.slice (.st (.pair (.st (.pair .bool (.slice (.int .u32)))) (.st (.pair .bool (.slice (.int .u32))))))) (aI z.2.2)))], []⟩:aa)) (fun z=>uA p q z.1 z.2.1 z.2.2) (fun z=>z.2.2.length) (q.length+1,aq p,aq q) ?_ ?_ ?_;·refine q_l ?_;rw[yj hC.hp,yj hC.hq];exact⟨rfl,rfl⟩
 ·exact H6 hC
 ·rintro⟨n,a,b⟩ hz;try dsimp only at hz
  refine al ?_;refine s_g hG ?_;refine ar ?_ ?_
  ·intro hb0;(try simp only[bt] at hb0);(have hl:0<b.length:=by have h9:(0:Int)<((aI b).length:Int):=hb0;rw[aE] at h9;omega);obtain⟨d1,d2,⟨m,d3⟩,d4⟩:=Lh hz hl;refine au ?_;refine aj ?_;refine av ?_;refine s_q hG ?_ ?_
   ·(try simp only[ba]);exact d1
   refine ag hG ?_ ?_
   ·(try simp only[ba]);rw[aK,aK];exact d2
   refine aN ?_;show ∃ z,_;refine q_l ?_;rw[aK,aK,aK];exact⟨m,b,rfl,_,rfl,d3,d4⟩
  ·intro hb0;(try simp only[bf] at hb0);(have hl: ¬0<b.length:=by have h9: ¬ (0:Int)<((aI b).length:Int):=hb0;rw[aE] at h9;omega);obtain⟨d1,d2⟩:=NW hz hl;refine bj ?_;refine aG ?_;refine ay ?_;refine ax ?_;refine aj ?_;refine s_q hG ?_ ?_
   ·(try simp only[ba]);exact d1
   refine az ?_;refine q_e [] ?_;rw[aK,d2]
def rr(B:ah):Tab:={types:= [(3,(.int .i64)),(79,(.slice (.st (.pair (.st (.pair .bool (.slice (.int .u32)))) (.st (.pair .bool (.slice (.int .u32))))))))],elems:= [],cons:= [(68,qf),(70,mz),(77,j6),(120,pw)],hint:= [14],N:=19,base:=B}
theorem B0{B:ah}(hB:aC B):aJ Tryz.prog (rr B):=⟨⟨tc ty3 (tc gd (ae)),af,by simp only[rr,ioB];omega⟩,aF (cc Tryz.func68 (px hB) (cc Tryz.func70 (xu hB) (cc Tryz.func77 (xt hB) (cc Tryz.func120 (xr hB) (aw))))),by kernel_rfl⟩
def ru:Con:=fun l os=>match l,os with
 | [.z (.slice (.st (.pair (.st (.pair .bool (.slice (.int .u32)))) (.st (.pair .bool (.slice (.int .u32))))))) p], []=>some (kN p, [.z (.slice (.st (.pair (.st (.pair .bool (.slice (.int .u32)))) (.st (.pair .bool (.slice (.int .u32))))))) (aI (bC (aq p)))], [])
 |_,_=>none
theorem I4{B:ah}(hB:aC B):Valid B Tryz.prog 79 ru:=by
 refine ab (B0 hB).tab Tryz.func79 rfl rfl rfl ?_;intro args os C rs os' hc hC;unfold ru at hc;split at hc;case h_2=>cases hc
 rename_i p;cases hc;refine v_h (B0 hB) fun X hP hT hr hG=> ?_;have hU:=rr.eq_1;unfold rr at hT;have hX:=ai @mz.eq_1<|ai @j6.eq_1<|ai @pw.eq_1<| @qf.eq_1;simp only[Tryz.f79,aD,an,ioB];refine s_g hG ?_;refine al ?_;refine s_g hG ?_;refine ar ?_ ?_
 ·intro hb0;try simp only[bt] at hb0
  refine s_g hG ?_;refine az ?_;refine aB ?_;refine q_e [] ?_;have h9:(p.length:Int)=0:=hb0;obtain rfl:p= []:=List.eq_nil_of_length_eq_zero (by omega);rfl
 ·intro hb0;try simp only[bf] at hb0
  have hne:p≠ []:=by intro e;subst e;exact hb0 rfl
  obtain⟨c1,c2,c3,c4,c5⟩:=hC hne;refine au ?_;refine aj ?_;refine s_q hG ?_ ?_
  ·(try simp only[ba]);simp only[aK];exact⟨⟨c1,by omega⟩,c3,c4⟩
  refine s_q hG ?_ ?_
  ·(try simp only[ba]);simp only[aK];exact c5
  refine az ?_;refine q_e [] ?_;simp only[aK,bC,if_neg (show ¬aq p= [] from fun e=>hne (by have:=congrArg List.length e;rw[aM] at this;exact List.eq_nil_of_length_eq_zero this))]
end Go.Proofs.YtdojbabpnaifoaaGreatDoor
end
section
namespace Go.Cm
open Go.RowKit
def xv:Code->Option (Nat×TypeId×Nat)
 | .region _ ops false=>match ops.toList with
  | [o1,o2]=>match o1.guard,o1.dst,o1.op,o2.guard,o2.dst,o2.op with
   |none,some d, .alloc T,none,none, .store T' (.tmp d') (.tmp p)=>if T=T'/\d'=d/\p≠d then some (d,T,p) else none
   |_,_,_,_,_,_=>none
  |_=>none
 |_=>none
theorem y7{H:Nat->Prop}{w:World}{ρ:Nat->Value}{cs:List LV}{vs:List Value}(h:bF (fQ H w ρ) cs vs):∀ c∈vs,c.oneCell'=true:=by
 intro c hc;obtain⟨i,hi,rfl⟩:=List.getElem_of_mem hc;have hl:=h.length;obtain⟨v,h1,h2⟩:=h.get (List.getElem?_eq_getElem (show i<cs.length by omega));rw[List.getElem?_eq_getElem hi] at h1;cases h1;exact h2.2
theorem MW{X:Cx}{r:Option Nat}{n:Nat}(c:Code){d:Nat}{T:TypeId}{p:Nat}{u:Ty}(h:xv c=some (d,T,p))(hT:cU X.P T u)(a:Act)(w:World)(hd:d<a.tmps.size)(hl:(a.eval (.tmp p)).cells.toList.length=u.w)(h1:∀ c∈(a.eval (.tmp p)).cells.toList,c.oneCell'=true):
  ∃ Wb:World,(∀ k,k<w.heap.size->Wb.heap[k]? =w.heap[k]?)/\Wb.heap[w.heap.size]? =some (.cells ((a.eval (.tmp p)).cells.toList).toArray T (0,0))/\Wb.heap.size=w.heap.size+1/\(Wb.os=w.os/\Wb.tape=w.tape/\Wb.output=w.output)/\
   ∀ {K:Act->World->Prop} {R:Exit->Act->World->Prop},K (a.put (some d) (.pointer (some ⟨w.heap.size,0,none⟩))) Wb->c.wpIn (fw r) n X.P (Exit.then K R) a w:=by
 cases c with
 |region id ops draw=>
  cases draw with
  |true=>simp[xv] at h
  |false=>
   simp only[xv] at h;split at h;(case h_2=>cases h);rename_i o1 o2 hops;split at h;(case h_2=>cases h);rename_i d0 T0 T' d' p' g1 e1 e2 g2 e3 e4;split at h;(case isFalse=>cases h);rename_i hc;obtain⟨rfl,rfl,hpd⟩:=hc;cases h;have hz:=gy hT.leaf u.zeroCells u.zeroCells_length u.zeroCells_one;have hrow:(w.alloc (.cells (mkV u.isAgg u.zeroCells).cells T)).heap[w.heap.size]? =some (.cells u.zeroCells.toArray T (0,0)):=by
    rw[heap_alloc_new];congr 2;apply Array.ext';simpa using hz
   (have hst:=fD (P:=X.P) hT (v:=a.eval (.tmp p)) hrow hl h1 (o:=0) (by rw[u.zeroCells_length];omega);have hset:=dR hrow (new:=(a.eval (.tmp p)).cells.toList) (off:=0) (by rw[hl,u.zeroCells_length];omega);refine⟨(w.alloc (.cells (mkV u.isAgg u.zeroCells).cells T)).setCells w.heap.size 0 (a.eval (.tmp p)).cells.toList,fun k hk=> ?_,?_,?_,?_,?_⟩;·rw[ct _ _ _ _ (by omega)];exact cq w _ k hk);·rw[hset];have e0:u.zeroCells.drop (0+(a.eval (.tmp p)).cells.toList.length)= []:=List.drop_of_length_le (by rw[hl,u.zeroCells_length];omega);rw[e0];simp
   ·rw[mG,World.size_alloc]
   ·have hb:=Bel.setCells (M:=fun _=>True) (b:=w.heap.size) trivial (a.eval (.tmp p)).cells.toList 0 ((Bel.refl (fun _=>True) w).alloc (.cells (mkV u.isAgg u.zeroCells).cells T));exact⟨hb.os,hb.tape,hb.output⟩
   ·intro K R hk;refine wpIn_region_list ?_;rw[hops];(have hw1:∀ t,Region.wanted o1 (yielded ops t)=true:=fun t=>by simp[Region.wanted,g1]);(have hw2:∀ t,Region.wanted o2 (yielded ops t)=true:=fun t=>by simp[Region.wanted,g2]);simp only[wpListIn,hw1,if_true];refine bp (v:= .pointer (some ⟨w.heap.size,0,none⟩)) (w':=w.alloc (.cells (mkV u.isAgg u.zeroCells).cells T)) ?_ ?_;·unfold execOp;rw[e2];exact bI (vE hT w)
    ·rw[e1];simp only[hw2,if_true];have hdv:(a.put (some d) (.pointer (some ⟨w.heap.size,0,none⟩))).eval (.tmp d)= .pointer (some ⟨w.heap.size,0,none⟩):=by
      simp[Act.eval,Act.put,hd]
     have hpv:(a.put (some d) (.pointer (some ⟨w.heap.size,0,none⟩))).eval (.tmp p)=a.eval (.tmp p):=by
      show (a.put (some d) _).tmps.getD p undef=a.tmps.getD p undef;exact Act.getD_put_ne hpd
     (refine gB (w':=(w.alloc (.cells (mkV u.isAgg u.zeroCells).cells T)).setCells w.heap.size 0 (a.eval (.tmp p)).cells.toList) ?_ ?_;·unfold execOp;rw[e4];simp only[hdv,hpv];simp[hst]);·rw[e3];exact hk
 |_=>simp[xv] at h
theorem Fits.freshO{X:Cx}{s:aa}{a:Act}{w w':World}{d:Nat}{obj:aP}{val:Value}{ρ:Nat->Value}(hf:Fits X s a w ρ)(hdB:d<ioB)
  (hkeep:∀ k,k<w.heap.size->w'.heap[k]? =w.heap[k]?) (hval:∀ b,Blk val b->w.heap.size<=b)
  (hobj:∀ H' ρ',(∀ b,b<w.heap.size->H' b->hot X.O ρ s.own b)->bo (hot X.O ρ s.own) w w'->(∀ i,i≠d->ρ' i=ρ i)->ρ' d=val->cl H' w' ρ' X.M (d,obj)):
  ∃ ρ',ρ' d=val/\(∀ i,i≠d->ρ' i=ρ i)/\Fits X {env:=b6 (LV.kill d) s.env,own:=(d,obj)::bx (LV.kill d) (del s.own d)} a w' ρ':=by
 have hlt:=fun p hp b hb=>((hf.own p hp).lt (b:=b) hb).2;have hs:bo (hot X.O ρ s.own) w w':=fun b _ hb=>hkeep b (c8 hb);have hh:∀ b,b<w.heap.size->hot X.O (mD ρ d val) ((d,obj)::bx (LV.kill d) (del s.own d)) b->hot X.O ρ s.own b:=by
  intro b hb h;rcases h with h|⟨p,hp,hp2⟩;·exact .inl h
  ·(rcases List.mem_cons.1 hp with rfl|hp;·simp only[cP] at hp2;have:=hval b hp2;omega);·obtain⟨u,h1,_⟩:=bu hp;have h2:=bR.1 h1;rw[dC _ _ h2.2] at hp2;exact dw h2.1 hp2
 have hρ:∀ i,i≠d->mD ρ d val i=ρ i:=fun i hi=>dC _ _ hi;refine⟨mD ρ d val,cP _ _ _,hρ,hf.env_map (fun x v hx=>bn hh hs hρ hx) ?_ ?_ ?_⟩
 ·intro p hp;rcases List.mem_cons.1 hp with rfl|hp;·exact hobj _ _ hh hs hρ (cP _ _ _)
  ·obtain⟨u,h1,h2⟩:=bu hp;have h3:=bR.1 h1;have:=(hf.own _ h3.1).move (f:=LV.kill d) (ρ':=mD ρ d val) hh hs (fun x v hx=>bn hh hs hρ hx) (hρ _ h3.2) (fun b hb=>hkeep b (hlt _ h3.1 b hb));rw[<- h2] at this;exact this
 ·intro p hp hB hF;rcases List.mem_cons.1 hp with rfl|hp;·exact absurd hB (Nat.not_le.2 hdB)
  ·obtain⟨u,h1,_⟩:=bu hp;have h3:=bR.1 h1;rw[hρ _ h3.2];exact hf.io _ h3.1 hB hF
 ·rw[List.pairwise_cons];constructor;·intro q hq;obtain⟨u,h1,_⟩:=bu hq;have h3:=bR.1 h1;refine⟨fun e=>h3.2 e.symm,fun b hb hq2=> ?_⟩;rw[dC _ _ h3.2] at hq2;simp only[cP] at hb;have h4:=hval b hb;have:=hlt _ h3.1 b hq2;omega
  ·have hap:=cH (f:=LV.kill d) (fun i j=>i≠j/\∀ b,Blk (ρ i) b-> ¬Blk (ρ j) b) (da (fun i j=>i≠j/\∀ b,Blk (ρ i) b-> ¬Blk (ρ j) b) (n:=d) hf.apart);refine hap.imp_of_mem fun {p q} hp hq hpq=> ?_;obtain⟨_,h1,_⟩:=bu hp;obtain⟨_,h2,_⟩:=bu hq;rw[dC _ _ (bR.1 h1).2,dC _ _ (bR.1 h2).2];exact hpq
theorem I5{X:Cx}(hr:X.r=none){s:aa}{K:Exit->aa->Prop}{g:Operand}{ps:Array Tmp}{assign body:Code}{gf:FuncId}
  {items:List (List LV)} (henters:∀ args w,(callFunc gf args).run X.P w= .ok (.enter gf args) w) (hdata:∀ it∈items,it.length=ps.size/\it.all LV.isZ=true) {d pv:Nat} {TB:TypeId} {ub:Ty} (hasg:xv assign=some (d,TB,pv)) (hTb:cU X.P TB ub) (hdN:d<X.T.N) (ks:List Nat)
  (hk1:ks.all (fun t=> !ps.toList.contains t&&t !=d)=true) (hps:ps.toList.all (fun t=>decide (t<X.T.N))=true)
  {ι:Type} (f:Nat->ι->aa) (Φ:Nat->ι->Prop) (x₀:ι) (h₀:le s (f 0 x₀))
  (hseq:∀ (a:Act) (w:World) (ρ:Nat->Value),St X s a w->Fits X s a w ρ->(∀ b,hot X.O (cR ρ s.own) (f 0 x₀).own b->b<w.heap.size)->∃ (lb:List Value) (E:Nat->Prop),a.eval g= .func (.func gf) #[] lb.toArray/\(∀ b,E b->X.M b/\(∃ o:Obj,w.heap[b]? =some o/\o.isCells=true)/\ ¬hot X.O (cR ρ s.own) (f 0 x₀).own b/\hot X.O ρ s.own b)/\∃ enc:Nat->Array Value,
   (∀ k (hk:k<items.length),bF (aU (fun b=>hot X.O (cR ρ s.own) (f 0 x₀).own b∨E b) w (fun _=>undef)) items[k] (enc k).toList)/\vO X.P gf lb.toArray enc items.length (zK (hot (fun _=>False) (cR ρ s.own) (f 0 x₀).own) w.heap.size) w E) (hΦ:Φ 0 x₀) (hks:∀ k x,(f k x).env.all (fun e=>ks.contains e.1)=true)
  (hround:∀ k (hk:k<items.length) (x:ι),Φ k x->∃ s1 v cs,bd (ev (f k x) (ps.toList.zip items[k])) (.tmp pv)=some v/\v.cells=some cs/\cs.length=ub.w/\cs.all (fun c=> !c.isOf d)=true/\s1={env:=(d, .l (.ownP d 0))::del ((ev (f k x) (ps.toList.zip items[k])).kill d).env d,own:=(d, .box TB cs)::((ev (f k x) (ps.toList.zip items[k])).kill d).own}/\
   ∀ X':Cx,X'.P=X.P->X'.T={X.T with keep:=ks}->J X' body s1 (xW f Φ ks K k))
  (hdone:∀ x,Φ items.length x->K .normal (f items.length x)):J X (.rangeFunc g ps assign body) s K:=by
 intro a w hst;obtain⟨ρ,hf⟩:=hst.fits;have hHlt':∀ b,hot X.O (cR ρ s.own) (f 0 x₀).own b->b<w.heap.size:=fun b hb=>hf.hot_lt hst.others hst.below (mV h₀ hb);have hseq':=hseq a w ρ hst hf hHlt';obtain⟨H,hH⟩:∃ H,H=hot (fun _=>False) (cR ρ s.own) (f 0 x₀).own:=⟨_,rfl⟩;have hHX:∀ b,H b->hot X.O (cR ρ s.own) (f 0 x₀).own b:=fun b hb=>by rw[hH] at hb;exact hb.elim False.elim .inr
 rw[<- hH] at hseq';obtain⟨lb,E,hlb1,hE,enc,henc,hsq⟩:=hseq';have hEM:=fun b hb=>(hE b hb).1;have hEw:=fun b hb=>(hE b hb).2.1;have hEH:∀ b,E b-> ¬H b:=fun b hb h=>(hE b hb).2.2.1 (hHX b h);have hw0:X.w0.heap.size<=w.heap.size:=hst.below.size;have hout0:eP X a w H E (f 0 x₀) w (cR ρ s.own):=by
  have h1:Fits (XE X E) (f 0 x₀) a w (cR ρ s.own):=Fits.leO h₀ hf (fun b _ hb=>by
   (rcases hb with(hb|hb)|hb;·exact .inl hb);·exact(hE b hb).2.2.2
   ·exact mV h₀ (.inr hb))
  exact⟨h1,hst.below,fun p hp b hb=> .inr (by rw[hH];exact dw hp hb),KeepsOthers.refl _,bo.refl _ _⟩
 refine wpIn_rangeFunc ?_;intro fn hfn;have hround0:(fw X.r).round=none:=by rw[hr];rfl
 rw[hround0];obtain⟨rec,hrec⟩:∃ rec:LoopState->Option Code->Loop,rec=fun st pe=>{state:=st,pending:=pe,fn,tmps:=a.tmps,params:=ps,assign,body,defers:=w.heap.size}:=⟨_,rfl⟩;obtain⟨W1,hW1⟩:∃ W1,(w.alloc (.deferred (some []))).alloc (.loop (rec .ready none))=W1:=⟨_,rfl⟩;have hsz1:W1.heap.size=w.heap.size+2:=by rw[<- hW1];simp
 have hL1:W1.heap[w.heap.size+1]? =some (.loop (rec .ready none)):=by
  rw[<- hW1];have:=World.alloc_heap_new (w.alloc (.deferred (some []))) (.loop (rec .ready none));rwa [World.size_alloc] at this
 have hD1:W1.heap[w.heap.size]? =some (.deferred (some [])):=by
  rw[<- hW1];exact(Below.heap_alloc _ _ _ (by simp)).trans (World.alloc_heap_new w _)
 have hb1:Below w.heap.size w W1:=by rw[<- hW1];exact((Below.refl _ w).alloc (Nat.le_refl _) _).alloc (by simp) _
 have hout1:eP X a w H E (f 0 x₀) W1 (cR ρ s.own):=by
  rw[<- hW1];exact(hout0.abide hw0 (World.grownBy_alloc _ _ none) (by simp)).abide hw0 (World.grownBy_alloc _ _ none) (by simp)
 refine⟨w.heap.size+1, [{target:= .collected w.heap.size,args:= #[]}],W1,{target:= .fn (.func gf) lb.toArray,args:= #[.func (.yield (w.heap.size+1)) #[] #[]]},W1,gf,
  #[.func (.yield (w.heap.size+1)) #[] #[]]++lb.toArray,W1,?_,?_,fun _ _=>trivial,?_,fun h=>by simp[fw,Fence.wide] at h,?_⟩
 ·rw[<- hW1,hrec];exact run_enterLoop_outer _ _ _ _ _
 ·simp only[resolve,hlb1];simp[go_sem]
 ·simp[invoke,go_sem,henters]
 have hfw:fw X.r=fw none:=by rw[hr]
 rw[hfw];have hkeptA:∀ k (act0:Act),act0.tmps=((ps.toList.zip (enc k).toList).foldl (fun(t:Array Value) (p:Nat×Value)=>t.setIfInBounds p.1 p.2) a.tmps)->∀ t∈ks,∀ pt:Value,(act0.put (some d) pt).tmps.getD t undef=a.tmps.getD t undef:=by
  intro k act0 h0 t ht pt;have h1:=List.all_eq_true.1 hk1 t ht;simp only[Bool.and_eq_true,Bool.not_eq_true',List.contains_eq_mem,decide_eq_false_iff_not,bne_iff_ne] at h1;rw[Act.getD_put_ne h1.2,h0,ox];intro hm;obtain⟨p,hp,rfl⟩:=List.mem_map.1 hm;exact h1.1 (List.of_mem_zip hp).1
 have hE1: ¬E (w.heap.size+1):=fun e=>by
  obtain⟨o,ho,_⟩:=hEw _ e;have:=(Array.getElem?_eq_some_iff.1 ho).1;omega
 have hE2: ¬E w.heap.size:=fun e=>by
  obtain⟨o,ho,_⟩:=hEw _ e;have:=(Array.getElem?_eq_some_iff.1 ho).1;omega
 refine(hsq (w.heap.size+1)
  (fun k W=>(∃ x ρ,Φ k x/\eP X a w H E (f k x) W ρ)/\W.heap[w.heap.size+1]? =some (.loop (rec .ready none))/\W.heap[w.heap.size]? =some (.deferred (some [])))
  (fun W=>∃ c,(∃ z ρ,J7 K z c/\eP X a w H E z W ρ)/\W.heap[w.heap.size+1]? =some (.loop (rec .done (some c)))/\W.heap[w.heap.size]? =some (.deferred (some [])))
  W1 hb1 ?_ ?_ ?_ ?_ ?_ ⟨⟨x₀,_,hΦ,hout1⟩,hL1,hD1⟩).mono ?_
 ·rintro k A B row ⟨⟨x,ρx,hx,ho⟩,hl,hd⟩ hg' hrow;refine⟨⟨x,ρx,hx,ho.abide hw0 hg' (fun r e=> ?_)⟩,(grownBy_keeps hg' (fun r e=>(hrow r e).2) hl rfl).trans hl,(grownBy_keeps hg' (fun r e=>(hrow r e).2) hd rfl).trans hd⟩;obtain⟨h1,o,h2,h3⟩:=hrow r e;exact⟨by omega,o,h2,Obj.not_cells_of_walk h3⟩
 ·rintro _ A B row ⟨c,⟨z,ρx,hx,ho⟩,hl,hd⟩ hg' hrow;refine⟨c,⟨z,ρx,hx,ho.abide hw0 hg' (fun r e=> ?_)⟩,(grownBy_keeps hg' (fun r e=>(hrow r e).2) hl rfl).trans hl,(grownBy_keeps hg' (fun r e=>(hrow r e).2) hd rfl).trans hd⟩;obtain⟨h1,o,h2,h3⟩:=hrow r e;exact⟨by omega,o,h2,Obj.not_cells_of_walk h3⟩
 ·rintro k A B ⟨⟨x,ρx,hx,ho⟩,hl,hd⟩ ht;exact⟨⟨x,ρx,hx,ho.turn hEM hEw hEH ht⟩,(ht.same _ hE1).trans hl,(ht.same _ hE2).trans hd⟩
 ·rintro A B ⟨c,⟨z,ρx,hx,ho⟩,hl,hd⟩ ht;exact⟨c,⟨z,ρx,hx,ho.turn hEM hEw hEH ht⟩,(ht.same _ hE1).trans hl,(ht.same _ hE2).trans hd⟩
 ·rintro k W ⟨⟨x,ρx,hx,ho⟩,hl,hd⟩ hkN;obtain⟨s1,v,cs,hv1,hv2,hv3,hv4,hs1,hJ⟩:=hround k hkN x hx;have hlt:w.heap.size+1<W.heap.size:=(Array.getElem?_eq_some_iff.1 hl).1;have hen:=henc k hkN;have hdat:=hdata _ (List.getElem_mem hkN);have hes:(enc k).size=ps.size:=by have:=hen.length;rw[hdat.1] at this;simpa using this.symm
  have hy:=run_yield (P:=X.P) (args:=enc k) hl (by rw[hrec];exact hes);rw[hrec] at hy;obtain⟨W2,hW2⟩:∃ W2,W.putObj (w.heap.size+1) (.loop {rec .ready none with state:= .busy})=W2:=⟨_,rfl⟩;have hl2:W2.heap[w.heap.size+1]? =some (.loop {rec .ready none with state:= .busy}):=by rw[<- hW2];exact World.putObj_heap_same hlt
  have hd2:W2.heap[w.heap.size]? =some (.deferred (some [])):=by rw[<- hW2];exact(World.putObj_heap_other (by omega)).trans hd
  have ho2:eP X a w H E (f k x) W2 ρx:=by
   rw[<- hW2];exact ho.abide hw0 (grownBy_putObj' _ _ _) (fun r e=>by cases e;exact⟨by omega,_,hl,rfl⟩)
  have hzip:(ps.zip (enc k)).toList=ps.toList.zip (enc k).toList:=Array.toList_zip;have hfold:(ps.zip (enc k)).foldl (fun(t:Array Value) (p:Nat×Value)=>t.setIfInBounds p.1 p.2) a.tmps=(ps.toList.zip (enc k).toList).foldl (fun(t:Array Value) (p:Nat×Value)=>t.setIfInBounds p.1 p.2) a.tmps:=by
   rw[<- Array.foldl_toList,hzip]
  obtain⟨act0,hact0⟩:∃ act0:Act,act0={tmps:=(ps.toList.zip (enc k).toList).foldl (fun(t:Array Value) (p:Nat×Value)=>t.setIfInBounds p.1 p.2) a.tmps,defers:= []}:=⟨_,rfl⟩;have hfitA:Fits (XE X E) (f k x) {a with defers:= []} W2 ρx:=⟨ho2.fits.env,ho2.fits.own,ho2.fits.io,ho2.fits.apart⟩;have hHsub:∀ b,b<w.heap.size->hot (XE X E).O ρx (f k x).own b->(hot X.O (cR ρ s.own) (f 0 x₀).own b∨E b):=by
   (rintro b hb ((h1|h1)|⟨p,hp,hpb⟩);·exact .inl (.inl h1));·exact .inr h1
   ·(rcases ho2.own p hp b hpb with h2|h2;·omega);·exact .inl (hHX b h2)
  have hvals:bF (aU (hot (XE X E).O ρx (f k x).own) W2 ρx) ((ps.toList.zip (items[k])).map Prod.snd) (enc k).toList:=by
   have e:(ps.toList.zip (items[k])).map Prod.snd=items[k]:=List.map_snd_zip (by have:=hdat.1;simp;omega);rw[e];refine hen.imp (fun y v hy h=> ?_);have hz:=List.all_eq_true.1 hdat.2 y hy;refine bb hHsub (fun b hb hc=>ho2.stays b (fun e=>hb (e.imp (hHX b) id)) hc) (fun id hid=> ?_) h;cases y<;>simp_all [LV.isZ,LV.isOf]
  have hszA:a.tmps.size=X.T.N:=hst.size;have e1:(ps.toList.zip (items[k])).map Prod.fst=ps.toList:=List.map_fst_zip (by have:=hdat.1;simp;omega);obtain⟨actP,hactP,hfitP,hszP⟩:=ow (ps.toList.zip (items[k])) (enc k).toList hfitA rfl hszA (fun p hp=>by
   have:=List.all_eq_true.1 hps p.1 (List.of_mem_zip hp).1;simpa using this) hvals
  rw[e1] at hactP;have hP0:actP=act0:=by rw[hactP,hact0]
  rw[hP0] at hfitP hszP;have hpv:bd (ev (f k x) (ps.toList.zip items[k])) (.tmp pv)=some v:=hv1;have hcells:=AV.cells_ok hv2 (cd hfitP hpv);obtain⟨Wb,hWb1,hWb2,hWb3,hWb4,hexec⟩:=MW (X:=X) (r:=some (w.heap.size+1)) (n:=0) assign hasg hTb act0 W (by rw[hszP];exact hdN) (by rw[<- hcells.length];exact hv3) (y7 hcells);refine⟨fn,_,assign,body,hy,roundIn_of_wpIn (F:=fw none) trivial ?_⟩;rw[hfold,<- hact0];refine hexec ⟨_,run_beginRound ((hWb1 _ (Array.getElem?_eq_some_iff.1 hl).1).trans hl) (by rw[hrec]),?_⟩;have hW2s:W2.heap.size=W.heap.size:=by rw[<- hW2];simp[World.putObj]
  obtain⟨W2b,hW2b⟩:∃ W2b,Wb.putObj (w.heap.size+1) (.loop {rec .ready none with state:= .busy})=W2b:=⟨_,rfl⟩;rw[hW2b];have hkb:∀ k,k<W2.heap.size->W2b.heap[k]? =W2.heap[k]? :=by
   (intro k hk;rw[<- hW2b,<- hW2];by_cases e:k=w.heap.size+1;·subst e;rw[World.putObj_heap_same (by omega),World.putObj_heap_same hlt]);·rw[World.putObj_heap_other e,World.putObj_heap_other e,hWb1 k (by omega)]
  have hnb:W2b.heap[W2.heap.size]? =some (.cells ((act0.eval (.tmp pv)).cells.toList).toArray TB (0,0)):=by
   rw[<- hW2b,hW2s,World.putObj_heap_other (by omega)];exact hWb2
  have hbelb:∀ M:Nat->Prop,Bel M W2 W2b:=fun M=>by
   (have e1:W2b.os=W2.os:=by rw[<- hW2b,<- hW2];exact hWb4.1);(have e2:W2b.tape=W2.tape:=by rw[<- hW2b,<- hW2];exact hWb4.2.1);(have e3:W2b.output=W2.output:=by rw[<- hW2b,<- hW2];exact hWb4.2.2);exact⟨e1,e2,e3,by rw[<- hW2b];simp only[World.putObj,Array.size_setIfInBounds];omega,fun k hk _=>hkb k hk⟩
  have hdB:d<ioB:=Nat.lt_of_lt_of_le hdN hst.small.n;obtain⟨ρn,hρd,hρo,hfit1⟩:=Fits.freshO hfitP hdB (w':=W2b) (obj:= .box TB cs) (val:= .pointer (some ⟨W2.heap.size,0,none⟩)) hkb (fun b hb=>by simp[Blk] at hb;omega)
   (fun H' ρ' hh hs hρ hρd=>⟨W2.heap.size,(act0.eval (.tmp pv)).cells.toList,hρd, .inl (by have:=ho2.bel.size;exact this),hnb,bF.kill hh hs hρ (fun c hc=>by have:=List.all_eq_true.1 hv4 c hc;simpa using this) hcells⟩)
  have hfit1:=hfit1.put (d:=d) (by rw[hszP];exact hdN) (v:= .l (.ownP d 0)) (val:= .pointer (some ⟨W2.heap.size,0,none⟩)) ⟨W2.heap.size,hρd,rfl⟩;have hs1':s1={env:=(d, .l (.ownP d 0))::del (b6 (LV.kill d) (ev (f k x) (ps.toList.zip items[k])).env) d,own:=(d, .box TB cs)::bx (LV.kill d) (del (ev (f k x) (ps.toList.zip items[k])).own d)}:=hs1;rw[hW2s] at hfit1;have hkA:∀ t∈ks,(act0.put (some d) (.pointer (some ⟨W.heap.size,0,none⟩))).tmps.getD t undef=a.tmps.getD t undef:=fun t ht=>hkeptA k act0 (by rw[hact0]) t ht _;have hst1:St {XE X E with T:={X.T with keep:=ks},I:=fun b=>∃ p∈(f k x).own,Blk (ρx p.1) b,w0:=W2,r:=some (w.heap.size+1),tm:=fun t=>(act0.put (some d) (.pointer (some ⟨W.heap.size,0,none⟩))).tmps.getD t undef} s1 (act0.put (some d) (.pointer (some ⟨W.heap.size,0,none⟩))) W2b:=by
   refine⟨?_,fun _ _=>rfl,by rw[Act.size_put];exact hszP,hbelb _,fun b hb hm=> ?_,⟨hst.small.n,?_,fun b hb=> ?_⟩,ρn,by rw[hs1'];exact hfit1.env,fun p hp=> ?_,by rw[hs1'];exact hfit1.io,by rw[hs1'];exact hfit1.apart⟩;·rw[Act.defers_put,hact0];exact Marks.nil _ _
   ·rcases hb with hb|hb
    ·rcases hm with hm|⟨p,hp,hpb⟩
     ·have h1:=hst.others b hb;have h2:b<X.w0.heap.size:=by
       by_cases h3:b<X.w0.heap.size
       ·exact h3
       ·exact absurd (.inl (by omega)) h1
      have:=ho2.bel.size;simp only at hm;omega
     ·exact hst.others b hb ((ho2.fits.own p hp).lt hpb).1
    ·obtain⟨o,ho,_⟩:=hEw b hb;have h2:=(Array.getElem?_eq_some_iff.1 ho).1;rcases hm with hm|⟨p,hp,hpb⟩;·have:=ho2.keeps.size;simp only at hm;omega
     ·(rcases ho2.own p hp b hpb with h1|h1;·omega);·exact hEH b hb h1
   ·(have h1:=hst.small.on;refine⟨Nat.le_trans h1.1 ho2.bel.size,fun b hb=> ?_⟩;rw[<- h1.2 b hb];refine ho2.bel.block b (Nat.lt_of_lt_of_le hb h1.1) ?_;rintro(hm|hm);·have:=h1.1;simp only at hb;omega);·have:=hst.small.io b hm;simp only at hb;omega
   ·(obtain⟨p,hp,hpb⟩:=hb;rcases ((ho2.fits.own p hp).lt hpb).1 with h1|h1;·exact Nat.le_trans hst.small.on.1 h1);·exact hst.small.io b h1
   ·have hq:∀ (l:List (Nat×LV)) (s:aa),(ev s l).own=s.own:=by
     intro l;induction l with
     |nil=>intro s;rfl
     |cons q l ih=>intro s;exact ih _
    rw[hs1'] at hp;have hp':p∈(d,aP.box TB cs)::bx (LV.kill d) (del (ev (f k x) (ps.toList.zip items[k])).own d):=hp;have h5:=(hfit1.own p hp').moved (H':=hot (XE X E).O ρn s1.own) (ρ':=ρn) (k:=p.1) (f:=id) (M':=Cx.M {XE X E with T:={X.T with keep:=ks},I:=fun b=>∃ p∈(f k x).own,Blk (ρx p.1) b,w0:=W2,r:=some (w.heap.size+1),tm:=fun t=>(act0.put (some d) (.pointer (some ⟨W.heap.size,0,none⟩))).tmps.getD t undef}) (fun b _ h=>by rw[hs1'] at h;exact h) (fun x v hx=>bb (fun b _ h=>by rw[hs1'] at h;exact h) (bo.refl _ _) (fun _ _=>rfl) hx) rfl (fun b hb=>by
     (rcases List.mem_cons.1 hp' with rfl|hp2;·simp only[hρd] at hb;simp[Blk] at hb;exact .inl (by simp only;omega));·obtain⟨u,g1,_⟩:=bu hp2;have g2:=bR.1 g1;rw[hρo _ g2.2] at hb;exact .inr ⟨(p.1,u),by rw[<- hq];exact g2.1,hb⟩)
    rw[aP.map_id] at h5;exact h5
  have hw:=hJ {XE X E with T:={X.T with keep:=ks},I:=fun b=>∃ p∈(f k x).own,Blk (ρx p.1) b,w0:=W2,r:=some (w.heap.size+1),tm:=fun t=>(act0.put (some d) (.pointer (some ⟨W.heap.size,0,none⟩))).tmps.getD t undef} rfl rfl _ _ hst1;refine EW (n:=2) (Code.wpIn_mono (fun e a3 W3 hp=> ?_) hw);obtain⟨s3,hK3,hst3⟩:=hp;have fin:∀ (jump:Option Code) (z:aa),z.env.all (fun e=>ks.contains e.1)=true->le s3 z->∃ ρz,eP X a w H E z (W3.putObj (w.heap.size+1) (.loop (rec (if jump.isNone then .ready else .done) jump))) ρz/\
    (Instr.endRound (w.heap.size+1) jump).run X.P W3= .ok (.bool jump.isNone) (W3.putObj (w.heap.size+1) (.loop (rec (if jump.isNone then .ready else .done) jump)))/\
    (W3.putObj (w.heap.size+1) (.loop (rec (if jump.isNone then .ready else .done) jump))).heap[w.heap.size+1]? =some (.loop (rec (if jump.isNone then .ready else .done) jump))/\
    (W3.putObj (w.heap.size+1) (.loop (rec (if jump.isNone then .ready else .done) jump))).heap[w.heap.size]? =some (.deferred (some []))/\
    zK H w.heap.size W (W3.putObj (w.heap.size+1) (.loop (rec (if jump.isNone then .ready else .done) jump))):=by
   intro jump z hz hle;obtain⟨ρz,h1,h2,h3⟩:=ho2.back hkA hz hle hst3;have hl3:=h2.same _ _ hl2 rfl;have hd3:=h2.same _ _ hd2 rfl;have he:=run_endRound (P:=X.P) jump hl3;rw[hrec] at he ⊢;refine⟨ρz,h1.abide hw0 (grownBy_putObj' _ _ _) (fun r e=>by cases e;exact⟨by omega,_,hl3,rfl⟩),he,World.putObj_heap_same (Array.getElem?_eq_some_iff.1 hl3).1,(World.putObj_heap_other (by omega)).trans hd3,fun b hb hnH hc=> ?_⟩;(have e1:W2.heap[b]? =W.heap[b]? :=by rw[<- hW2];exact World.putObj_heap_other (by omega));rw[World.putObj_heap_other (by omega),h3 b hb hnH (by rw[e1];exact hc),e1]
  cases e with
  |normal=>
   obtain⟨y,hle,hy'⟩:=hK3;obtain⟨ρz,h1,h2,h3,h4,h5⟩:=fin none _ (hks (k+1) y) hle;exact⟨_,_,h2, .inl ⟨rfl,⟨⟨y,ρz,hy',h1⟩,h3,h4⟩,h5⟩⟩
  |ret=>
   obtain⟨z,hle,hz,hk3⟩:=hK3;obtain⟨ρz,h1,h2,h3,h4,h5⟩:=fin (some .ret) _ hz hle;exact⟨_,_,h2, .inr ⟨rfl, .ret,⟨z,ρz,hk3,h1⟩,h3,h4⟩⟩
  |exit i=>
   obtain⟨z,hle,hz,hk3⟩:=hK3;obtain⟨ρz,h1,h2,h3,h4,h5⟩:=fin (some (.exit i)) _ hz hle;exact⟨_,_,h2, .inr ⟨rfl, .exit i,⟨z,ρz,hk3,h1⟩,h3,h4⟩⟩
  |goto t=>exact hK3.elim
  |panic ch=>exact hK3.elim
  |outgrown=>exact hK3.elim
 ·rintro e W2 ⟨⟨v,rfl⟩,(⟨⟨x,ρx,hx,ho⟩,hl,hd⟩|⟨c,⟨z,ρz,hj,ho⟩,hl,hd⟩)⟩;·have he:=run_endLoop (P:=X.P) hl (by rw[hrec];simp);rw[hrec] at he;refine⟨none,_,he,_,hdone x hx,(ho.abide hw0 (grownBy_putObj' _ _ _) (fun r e=>by cases e;exact⟨by omega,_,hl,rfl⟩)).st hst ((World.putObj_heap_other (by omega)).trans hd)⟩
  ·have he:=run_endLoop (P:=X.P) hl (by rw[hrec];simp);rw[hrec] at he;refine⟨some c,_,he,?_⟩;cases c with
   |ret=>exact wpIn_ret ⟨z,hj,(ho.abide hw0 (grownBy_putObj' _ _ _) (fun r e=>by cases e;exact⟨by omega,_,hl,rfl⟩)).st hst ((World.putObj_heap_other (by omega)).trans hd)⟩
   |exit i=>exact wpIn_exit ⟨z,hj,(ho.abide hw0 (grownBy_putObj' _ _ _) (fun r e=>by cases e;exact⟨by omega,_,hl,rfl⟩)).st hst ((World.putObj_heap_other (by omega)).trans hd)⟩
   |_=>exact hj.elim
theorem xw{X:Cx}(hr:X.r=none){s:aa}{K:Exit->aa->Prop}{g:Operand}{ps:Array Tmp}{assign body:Code}{gf:FuncId}{caps:List CV}
  (hg:bd s g=some (.l (.fn gf caps))) (hcap:caps.all CV.pure=true) {items:List (List LV)} (hseq:nz X.P gf ps.size caps items) {d pv:Nat} {TB:TypeId} {ub:Ty} (hasg:xv assign=some (d,TB,pv)) (hTb:cU X.P TB ub) (hdN:d<X.T.N) (ks:List Nat)
  (hk1:ks.all (fun t=> !ps.toList.contains t&&t !=d)=true) (hps:ps.toList.all (fun t=>decide (t<X.T.N))=true)
  {ι:Type} (f:Nat->ι->aa) (Φ:Nat->ι->Prop) (x₀:ι) (h₀:le s (f 0 x₀)) (hΦ:Φ 0 x₀) (hks:∀ k x,(f k x).env.all (fun e=>ks.contains e.1)=true)
  (hround:∀ k (hk:k<items.length) (x:ι),Φ k x->∃ s1 v cs,bd (ev (f k x) (ps.toList.zip items[k])) (.tmp pv)=some v/\v.cells=some cs/\cs.length=ub.w/\cs.all (fun c=> !c.isOf d)=true/\s1={env:=(d, .l (.ownP d 0))::del ((ev (f k x) (ps.toList.zip items[k])).kill d).env d,own:=(d, .box TB cs)::((ev (f k x) (ps.toList.zip items[k])).kill d).own}/\
   ∀ X':Cx,X'.P=X.P->X'.T={X.T with keep:=ks}->J X' body s1 (xW f Φ ks K k))
  (hdone:∀ x,Φ items.length x->K .normal (f items.length x)):J X (.rangeFunc g ps assign body) s K:=
 I5 hr hseq.enters hseq.data hasg hTb hdN ks hk1 hps f Φ x₀ h₀ (fun a w ρ _ hf hlt=>by
  obtain⟨lb,hlb1,hlb2⟩:aU (hot X.O ρ s.own) w ρ (.fn gf caps) (a.eval g):=cd hf hg;obtain⟨enc,h1,h2⟩:=hseq.seq _ w lb hlt (jg hcap (fun b hb=>mV h₀ hb) hlb2);exact⟨lb,fun _=>False,hlb1,fun b hb=>hb.elim,enc,fun k hk=>(h1 k hk).imp (fun x v hx h=>bb (H:=hot X.O (cR ρ s.own) (f 0 x₀).own) (fun b _ hb=>hb.elim id (fun e=>e.elim)) (bo.refl _ _) (fun _ _=>rfl) h),h2.kp (fun A B hk b hb hn hc=>hk b hb (fun e=>hn (e.elim False.elim .inr)) hc)⟩) hΦ hks hround hdone
end Go.Cm
end
section
namespace Go.Proofs.YtdojbabpnaifoaaGreatDoor
open Go Go.Cm Go.Proofs
def ry(B:ah):Tab:={types:= [(79,(.slice (.st (.pair (.st (.pair .bool (.slice (.int .u32)))) (.st (.pair .bool (.slice (.int .u32))))))))],elems:= [],cons:= [],hint:= [],N:=4,base:=B}
theorem B1{B:ah}(hB:aC B):aJ Tryz.prog (ry B):=⟨⟨tc gd (ae),af,by simp only[ry,ioB];omega⟩,bU rfl,by kernel_rfl⟩
def py:Con:=fun l os=>match l,os with
 | [.z (.slice (.st (.pair (.st (.pair .bool (.slice (.int .u32)))) (.st (.pair .bool (.slice (.int .u32))))))) xs], []=>some (True, [.fn 125 [.z (.ptr (.slice (.st (.pair (.st (.pair .bool (.slice (.int .u32)))) (.st (.pair .bool (.slice (.int .u32)))))))) xs]], [])
 |_,_=>none
theorem xx{B:ah}(hB:aC B):Valid B Tryz.prog 83 py:=by
 refine ab (B1 hB).tab Tryz.func83 rfl rfl rfl ?_;intro args os C rs os' hc hC;unfold py at hc;split at hc;case h_2=>cases hc
 rename_i xs;cases hc;refine v_h (B1 hB) fun X hP hT hr hG=> ?_;have hU:=ry.eq_1;unfold ry at hT;have hX:=Bool.not_true;simp only[Tryz.f83,aD,an,ioB];refine s_g hG ?_;refine s_g hG ?_;refine az ?_;refine q_e [] ?_;rfl
def iy(B:ah):Tab:={types:= [(79,(.slice (.st (.pair (.st (.pair .bool (.slice (.int .u32)))) (.st (.pair .bool (.slice (.int .u32)))))))),(91,(.st (.pair (.st (.pair .bool (.slice (.int .u32)))) (.st (.pair .bool (.slice (.int .u32)))))))],elems:= [],cons:= [(58,mO),(83,py),(105,eF),(113,eG)],hint:= [],N:=19,base:=B}
theorem B2{B:ah}(hB:aC B):aJ Tryz.prog (iy B):=⟨⟨tc gd (tc ty91 (ae)),af,by simp only[iy,ioB];omega⟩,aF (cc Tryz.func58 (mr hB) (cc Tryz.func83 (xx hB) (cc Tryz.func105 (mu hB) (cc Tryz.func113 (mv hB) (aw))))),by kernel_rfl⟩
def GV:Con:=fun l os=>match l,os with
 | [.z (.slice (.st (.pair (.st (.pair .bool (.slice (.int .u32)))) (.st (.pair .bool (.slice (.int .u32))))))) p, .z (.st (.pair (.st (.pair .bool (.slice (.int .u32)))) (.st (.pair .bool (.slice (.int .u32)))))) x], []=>some (Sz QM p/\p.length<=100/\NOK x/\lq (bG x)<=QM, [.z (.st (.pair (.st (.pair .bool (.slice (.int .u32)))) (.st (.pair .bool (.slice (.int .u32)))))) (bk (ak (aq p) (bG x)))], [])
 |_,_=>none
theorem I6{B:ah}(hB:aC B):Valid B Tryz.prog 89 GV:=by
 refine ab (B2 hB).tab Tryz.func89 rfl rfl rfl ?_;intro args os C rs os' hc hC;unfold GV at hc;split at hc;case h_2=>cases hc
 rename_i p x;cases hc;refine v_h (B2 hB) fun X hP hT hr hG=> ?_;have hU:=iy.eq_1;unfold iy at hT;have hX:=ai @py.eq_1<|ai @mO.eq_1<|ai @eF.eq_1<| @eG.eq_1;simp only[Tryz.f89,aD,an,ioB];have hl:p.length<=100:=hC.2.1;refine s_g hG ?_;refine s_g hG ?_;refine al ?_;refine s_g hG ?_;refine av ?_;refine xw hr (gf:=125) (caps:= [.z (.ptr (.slice (.st (.pair (.st (.pair .bool (.slice (.int .u32)))) (.st (.pair .bool (.slice (.int .u32)))))))) p]) (items:=b8 p) (by simp only[hT,iy,mx0,mx1,mx2,mx3,mx4,mx5,mx6,aV,br,bN,bc,bq,Ty.fieldTy,Ty.fieldOf,Nat.reduceLT,Nat.reduceEqDiff,Nat.reduceAdd,Nat.reduceMul,Nat.reduceSub,Nat.reduceLeDiff,Nat.reduceBEq,Nat.reduceBNe,reduceIte,reduceDIte,reduceCtorEq];try rfl) (by rfl) (by rw[hP];exact wu p) (by rfl) (ub:=(.st (.pair (.st (.pair .bool (.slice (.int .u32)))) (.st (.pair .bool (.slice (.int .u32))))))) (by rw[hP];exact ty91) (by simp only[hT,iy];omega) [3,4,5] (by rfl) (by simp only[hT,iy];try rfl) (fun(k:Nat) (z:Rat)=>(⟨[(3, .l (.z (.ptr (.st (.pair (.st (.pair .bool (.slice (.int .u32)))) (.st (.pair .bool (.slice (.int .u32))))))) x)),(4, .l (.ownP 4 0)),(5, .l (.ownP 5 0))], [(4, .box 91 [.z .bool false, .val (.slice none 0 0), .z .bool false, .val (.slice none 0 0)]),(5, .box 91 [.z .bool (bk z).1.1, .z (.slice (.int .u32)) (bk z).1.2, .z .bool (bk z).2.1, .z (.slice (.int .u32)) (bk z).2.2])]⟩:aa)) (fun(k:Nat) (z:Rat)=>z=ak ((aq p).drop (p.length-k)) (bG x)) 0 ?_ ?_ ?_ ?_ ?_;·simp only[ml0,ml1,Nat.reduceLT,Nat.reduceEqDiff,Nat.reduceAdd,Nat.reduceMul,Nat.reduceSub,Nat.reduceLeDiff,Nat.reduceBEq,Nat.reduceBNe,reduceIte,reduceDIte,reduceCtorEq]
 ·exact DT p (bG x)
 ·intro k z;rfl
 ·intro k hk;rintro v hz;try dsimp only at hz
  have hk:k<p.length:=by simpa [b8] using hk
  have hg:=AB hC.1 (AC hk);have hv:=H7 hC hk hz;refine⟨_,_,_,by simp only[hT,iy,b8,jV,mx0,mx1,mx2,mx3,mx4,mx5,mx6,aV,br,bN,bc,bq,Ty.fieldTy,Ty.fieldOf,Nat.reduceLT,Nat.reduceEqDiff,Nat.reduceAdd,Nat.reduceMul,Nat.reduceSub,Nat.reduceLeDiff,Nat.reduceBEq,Nat.reduceBNe,reduceIte,reduceDIte,reduceCtorEq,List.getElem_map,List.getElem_range];rfl,by simp only[mx0,mx1,mx2,mx3,mx4,mx5,mx6,aV,br,bN,bc,bq,Ty.fieldTy,Ty.fieldOf,Nat.reduceLT,Nat.reduceEqDiff,Nat.reduceAdd,Nat.reduceMul,Nat.reduceSub,Nat.reduceLeDiff,Nat.reduceBEq,Nat.reduceBNe,reduceIte,reduceDIte,reduceCtorEq];rfl,by rfl,by simp only[mx0,mx1,mx2,mx3,mx4,mx5,mx6,aV,br,bN,bc,bq,Ty.fieldTy,Ty.fieldOf,Nat.reduceLT,Nat.reduceEqDiff,Nat.reduceAdd,Nat.reduceMul,Nat.reduceSub,Nat.reduceLeDiff,Nat.reduceBEq,Nat.reduceBNe,reduceIte,reduceDIte,reduceCtorEq]<;>rfl,by simp only[hT,iy,b8,jV,mx0,mx1,mx2,mx3,mx4,mx5,mx6,aV,br,bN,bc,bq,Ty.fieldTy,Ty.fieldOf,Nat.reduceLT,Nat.reduceEqDiff,Nat.reduceAdd,Nat.reduceMul,Nat.reduceSub,Nat.reduceLeDiff,Nat.reduceBEq,Nat.reduceBNe,reduceIte,reduceDIte,reduceCtorEq,List.getElem_map,List.getElem_range];rfl,?_⟩;intro X' hP' hT';have hG':aJ X'.P X'.T:=by rw[hP',hT'];exact hG.keep _
  rw[hT] at hT';refine av ?_;refine EY hG' ?_ ?_
  ·(try simp only[ba]);simp only[pe2,hg,aL];exact hv
  refine aN ?_;show ∃ z,_;simp only[ml0,ml1,Nat.reduceLT,Nat.reduceEqDiff,Nat.reduceAdd,Nat.reduceMul,Nat.reduceSub,Nat.reduceLeDiff,Nat.reduceBEq,Nat.reduceBNe,reduceIte,reduceDIte,reduceCtorEq];simp only[pe2,hg,aL];exact⟨_,rfl,rfl,rfl,rfl,by rw[hz,DU hk]⟩
 ·rintro v hz;try dsimp only at hz
  rw[Lk] at hz;refine aN ?_;refine aj ?_;refine s_g hG ?_;refine az ?_;refine q_e [] ?_;rw[hz]
def rz(B:ah):Tab:={types:= [(3,(.int .i64)),(79,(.slice (.st (.pair (.st (.pair .bool (.slice (.int .u32)))) (.st (.pair .bool (.slice (.int .u32)))))))),(91,(.st (.pair (.st (.pair .bool (.slice (.int .u32)))) (.st (.pair .bool (.slice (.int .u32)))))))],elems:= [(79,91)],cons:= [(58,mO),(82,jF),(107,xo)],hint:= [26],N:=31,base:=B}
theorem B3{B:ah}(hB:aC B):aJ Tryz.prog (rz B):=⟨⟨tc ty3 (tc gd (tc ty91 (ae))),aT (by kernel_rfl) (af),by simp only[rz,ioB];omega⟩,aF (cc Tryz.func58 (mr hB) (cc Tryz.func82 (iZ hB) (cc Tryz.func107 (xp hB) (aw)))),by kernel_rfl⟩
def MX:Con:=fun l os=>match l,os with
 | [.z (.slice (.st (.pair (.st (.pair .bool (.slice (.int .u32)))) (.st (.pair .bool (.slice (.int .u32))))))) p, .z (.slice (.st (.pair (.st (.pair .bool (.slice (.int .u32)))) (.st (.pair .bool (.slice (.int .u32))))))) q, .val (.func (.func g) fs cs)], []=>some ((g=58/\fs.size=0/\cs.size=0)/\Sz QH p/\Sz QH q/\p.length<=1000/\q.length<=1000, [.z (.slice (.st (.pair (.st (.pair .bool (.slice (.int .u32)))) (.st (.pair .bool (.slice (.int .u32))))))) (aI (bl (· + ·) (aq p) (aq q)))], [])
 |_,_=>none
theorem I7{B:ah}(hB:aC B):Valid B Tryz.prog 57 MX:=by
 refine ab (B3 hB).tab Tryz.func57 rfl rfl rfl ?_;intro args os C rs os' hc hC;unfold MX at hc;split at hc;case h_2=>cases hc
 rename_i p q g fs cs;cases hc;refine v_h (B3 hB) fun X hP hT hr hG=> ?_;have hU:=rz.eq_1;unfold rz at hT;have hX:=ai @xo.eq_1<|ai @mO.eq_1<| @jF.eq_1;simp only[Tryz.f57,aD,an,ioB];obtain⟨⟨rfl,e1,e2⟩,hp,hq,hl1,hl2⟩:=hC;obtain rfl:=Array.eq_empty_of_size_eq_zero e1;obtain rfl:=Array.eq_empty_of_size_eq_zero e2;have hl1:p.length<=1000:=hl1;have hl2:q.length<=1000:=hl2;refine s_g hG ?_;refine s_g hG ?_;refine al ?_;refine s_g hG ?_;refine av ?_;refine bw (fun(z:Nat)=>(⟨[(0, .l (.z (.slice (.st (.pair (.st (.pair .bool (.slice (.int .u32)))) (.st (.pair .bool (.slice (.int .u32))))))) p)),(1, .l (.z (.slice (.st (.pair (.st (.pair .bool (.slice (.int .u32)))) (.st (.pair .bool (.slice (.int .u32))))))) q)),(2, .l (.val (.func (.func 58) #[] #[]))),(7, .l (.ownS 27)),(13, .l (.z (.int .i64) ((max p.length q.length:Nat):Int))),(14, .l (.z (.int .i64) (z:Int)))], [(27, .arr (.st (.pair (.st (.pair .bool (.slice (.int .u32)))) (.st (.pair .bool (.slice (.int .u32)))))) 91 (aI (bT (· + ·) (aq p) (aq q) z)))]⟩:aa)) (fun z=>z<=max p.length q.length) (fun z=>max p.length q.length-z) 0 ?_ ?_ ?_;·refine q_l ?_;exact⟨Fp p q trivial,rfl,by unfold ioB;omega,rfl⟩
 ·omega
 ·rintro k g1;try dsimp only at g1
  refine s_g hG ?_;refine al ?_;refine ar ?_ ?_
  ·intro hb0;(try simp only[bt] at hb0);refine au ?_;refine aj ?_;refine al ?_;refine av ?_;refine s_g hG ?_;refine ag hG ?_ ?_
   ·(try simp only[ba]);exact wj hp hq (by omega) _
   (refine aN ?_;refine aj ?_;refine ag hG ?_ ?_;·first|trivial|omega|(simp;done)|(simp;omega));show ∃ z,_;refine q_l ?_;exact uo (op:=(· + ·)) (by omega) (by omega)
  ·intro hb0;(try simp only[bf] at hb0);refine bj ?_;refine aG ?_;refine ay ?_;refine ax ?_;refine aj ?_;refine s_q hG ?_ ?_
   ·(try simp only[ba]);exact uq Au hp hq (by omega)
   refine az ?_;refine q_e [] ?_;exact Aw g1 hb0
def rA(B:ah):Tab:={types:= [(3,(.int .i64)),(79,(.slice (.st (.pair (.st (.pair .bool (.slice (.int .u32)))) (.st (.pair .bool (.slice (.int .u32)))))))),(91,(.st (.pair (.st (.pair .bool (.slice (.int .u32)))) (.st (.pair .bool (.slice (.int .u32)))))))],elems:= [(79,91)],cons:= [(60,fJ),(82,jF),(107,xo)],hint:= [26],N:=31,base:=B}
theorem B4{B:ah}(hB:aC B):aJ Tryz.prog (rA B):=⟨⟨tc ty3 (tc gd (tc ty91 (ae))),aT (by kernel_rfl) (af),by simp only[rA,ioB];omega⟩,aF (cc Tryz.func60 (xg hB) (cc Tryz.func82 (iZ hB) (cc Tryz.func107 (xp hB) (aw)))),by kernel_rfl⟩
def MY:Con:=fun l os=>match l,os with
 | [.z (.slice (.st (.pair (.st (.pair .bool (.slice (.int .u32)))) (.st (.pair .bool (.slice (.int .u32))))))) p, .z (.slice (.st (.pair (.st (.pair .bool (.slice (.int .u32)))) (.st (.pair .bool (.slice (.int .u32))))))) q, .val (.func (.func g) fs cs)], []=>some ((g=60/\fs.size=0/\cs.size=0)/\Sz QH p/\Sz QH q/\p.length<=1000/\q.length<=1000, [.z (.slice (.st (.pair (.st (.pair .bool (.slice (.int .u32)))) (.st (.pair .bool (.slice (.int .u32))))))) (aI (bl (· - ·) (aq p) (aq q)))], [])
 |_,_=>none
theorem I9{B:ah}(hB:aC B):Valid B Tryz.prog 57 MY:=by
 refine ab (B4 hB).tab Tryz.func57 rfl rfl rfl ?_;intro args os C rs os' hc hC;unfold MY at hc;split at hc;case h_2=>cases hc
 rename_i p q g fs cs;cases hc;refine v_h (B4 hB) fun X hP hT hr hG=> ?_;have hU:=rA.eq_1;unfold rA at hT;have hX:=ai @xo.eq_1<|ai @fJ.eq_1<| @jF.eq_1;simp only[Tryz.f57,aD,an,ioB];obtain⟨⟨rfl,e1,e2⟩,hp,hq,hl1,hl2⟩:=hC;obtain rfl:=Array.eq_empty_of_size_eq_zero e1;obtain rfl:=Array.eq_empty_of_size_eq_zero e2;have hl1:p.length<=1000:=hl1;have hl2:q.length<=1000:=hl2;refine s_g hG ?_;refine s_g hG ?_;refine al ?_;refine s_g hG ?_;refine av ?_;refine bw (fun(z:Nat)=>(⟨[(0, .l (.z (.slice (.st (.pair (.st (.pair .bool (.slice (.int .u32)))) (.st (.pair .bool (.slice (.int .u32))))))) p)),(1, .l (.z (.slice (.st (.pair (.st (.pair .bool (.slice (.int .u32)))) (.st (.pair .bool (.slice (.int .u32))))))) q)),(2, .l (.val (.func (.func 60) #[] #[]))),(7, .l (.ownS 27)),(13, .l (.z (.int .i64) ((max p.length q.length:Nat):Int))),(14, .l (.z (.int .i64) (z:Int)))], [(27, .arr (.st (.pair (.st (.pair .bool (.slice (.int .u32)))) (.st (.pair .bool (.slice (.int .u32)))))) 91 (aI (bT (· - ·) (aq p) (aq q) z)))]⟩:aa)) (fun z=>z<=max p.length q.length) (fun z=>max p.length q.length-z) 0 ?_ ?_ ?_;·refine q_l ?_;exact⟨Fp p q trivial,rfl,by unfold ioB;omega,rfl⟩
 ·omega
 ·rintro k g1;try dsimp only at g1
  refine s_g hG ?_;refine al ?_;refine ar ?_ ?_
  ·intro hb0;(try simp only[bt] at hb0);refine au ?_;refine aj ?_;refine al ?_;refine av ?_;refine s_g hG ?_;refine ag hG ?_ ?_
   ·(try simp only[ba]);exact wj hp hq (by omega) _
   (refine aN ?_;refine aj ?_;refine ag hG ?_ ?_;·first|trivial|omega|(simp;done)|(simp;omega));show ∃ z,_;refine q_l ?_;exact uo (op:=(· - ·)) (by omega) (by omega)
  ·intro hb0;(try simp only[bf] at hb0);refine bj ?_;refine aG ?_;refine ay ?_;refine ax ?_;refine aj ?_;refine s_q hG ?_ ?_
   ·(try simp only[ba]);exact uq Av hp hq (by omega)
   refine az ?_;refine q_e [] ?_;exact Aw g1 hb0
def qg:Con:=fun l os=>match l,os with
 | [.z (.slice (.st (.pair (.st (.pair .bool (.slice (.int .u32)))) (.st (.pair .bool (.slice (.int .u32))))))) p, .z (.slice (.st (.pair (.st (.pair .bool (.slice (.int .u32)))) (.st (.pair .bool (.slice (.int .u32))))))) q, .val (.func (.func g) fs cs)], []=>some (((g=58∨g=60)/\fs.size=0/\cs.size=0)/\Sz QH p/\Sz QH q/\p.length<=1000/\q.length<=1000, [.z (.slice (.st (.pair (.st (.pair .bool (.slice (.int .u32)))) (.st (.pair .bool (.slice (.int .u32))))))) (aI (bl (if g=58 then (· + ·) else (· - ·)) (aq p) (aq q)))], [])
 |_,_=>none
theorem nh{B:ah}(hB:aC B):Valid B Tryz.prog 57 qg:=by
 intro args os C rs os' hc hC;unfold qg at hc;split at hc
 ·cases hc;obtain⟨⟨rfl|rfl,e1,e2⟩,h3⟩:=hC;·exact I7 hB _ _ _ _ _ rfl ⟨⟨rfl,e1,e2⟩,h3⟩
  ·exact I9 hB _ _ _ _ _ rfl ⟨⟨rfl,e1,e2⟩,h3⟩
 ·cases hc
def rB(B:ah):Tab:={types:= [(79,(.slice (.st (.pair (.st (.pair .bool (.slice (.int .u32)))) (.st (.pair .bool (.slice (.int .u32)))))))),(84, .func),(91,(.st (.pair (.st (.pair .bool (.slice (.int .u32)))) (.st (.pair .bool (.slice (.int .u32)))))))],elems:= [(79,91)],cons:= [(57,qg),(61,po),(82,jF)],hint:= [],N:=11,base:=B}
theorem B5{B:ah}(hB:aC B):aJ Tryz.prog (rB B):=⟨⟨tc gd (tc Qg (tc ty91 (ae))),aT (by kernel_rfl) (af),by simp only[rB,ioB];omega⟩,aF (cc Tryz.func57 (nh hB) (cc Tryz.func61 (xq hB) (cc Tryz.func82 (iZ hB) (aw)))),by kernel_rfl⟩
def GW:Con:=fun l os=>match l,os with
 | [.z (.st (.pair (.st (.pair .bool (.slice (.int .u32)))) (.st (.pair .bool (.slice (.int .u32)))))) c, .ownP 10000000 0, .z (.ptr (.slice (.st (.pair (.st (.pair .bool (.slice (.int .u32)))) (.st (.pair .bool (.slice (.int .u32)))))))) b], [.box 79 [.z (.slice (.st (.pair (.st (.pair .bool (.slice (.int .u32)))) (.st (.pair .bool (.slice (.int .u32))))))) s]]=>some (DV s b c, [], [.box 79 [.z (.slice (.st (.pair (.st (.pair .bool (.slice (.int .u32)))) (.st (.pair .bool (.slice (.int .u32))))))) (aI (uD (aq s) (aq b) (bG c)))]])
 |_,_=>none
theorem Ja{B:ah}(hB:aC B):Valid B Tryz.prog 81 GW:=by
 refine ab (B5 hB).tab Tryz.func81 rfl rfl rfl ?_;intro args os C rs os' hc hC;unfold GW at hc;split at hc;case h_2=>cases hc
 rename_i c b s;cases hc;refine v_h (B5 hB) fun X hP hT hr hG=> ?_;have hU:=rB.eq_1;unfold rB at hT;have hX:=ai @po.eq_1<|ai @jF.eq_1<| @qg.eq_1;simp only[Tryz.f81,aD,an,ioB];refine s_g hG ?_;refine gZ hG ?_ ?_
 ·try simp only[ba]
  obtain⟨q1,q2,q3,q4,q5,q6⟩:=H8 hC;exact⟨q1,⟨q2.1,by unfold QL;omega⟩,Or.inl trivial,q3,q4,q5,q6⟩
 refine q_e [] ?_;simp only[aK];rfl
def iz(B:ah):Tab:={types:= [(79,(.slice (.st (.pair (.st (.pair .bool (.slice (.int .u32)))) (.st (.pair .bool (.slice (.int .u32)))))))),(91,(.st (.pair (.st (.pair .bool (.slice (.int .u32)))) (.st (.pair .bool (.slice (.int .u32))))))),(109, .func)],elems:= [],cons:= [(81,GW),(83,py)],hint:= [],N:=18,base:=B}
theorem B6{B:ah}(hB:aC B):aJ Tryz.prog (iz B):=⟨⟨tc gd (tc ty91 (tc QX (ae))),af,by simp only[iz,ioB];omega⟩,aF (cc Tryz.func81 (Ja hB) (cc Tryz.func83 (xx hB) (aw))),by kernel_rfl⟩
def oc:Con:=fun l os=>match l,os with
 | [.z (.slice (.st (.pair (.st (.pair .bool (.slice (.int .u32)))) (.st (.pair .bool (.slice (.int .u32))))))) p, .z (.slice (.st (.pair (.st (.pair .bool (.slice (.int .u32)))) (.st (.pair .bool (.slice (.int .u32))))))) b], []=>some (ym p b, [.z (.slice (.st (.pair (.st (.pair .bool (.slice (.int .u32)))) (.st (.pair .bool (.slice (.int .u32))))))) (aI (kO (aq p) (aq b)))], [])
 |_,_=>none
theorem Jb{B:ah}(hB:aC B):Valid B Tryz.prog 80 oc:=by
 refine ab (B6 hB).tab Tryz.func80 rfl rfl rfl ?_;intro args os C rs os' hc hC;unfold oc at hc;split at hc;case h_2=>cases hc
 rename_i p b;cases hc;refine v_h (B6 hB) fun X hP hT hr hG=> ?_;have hU:=iz.eq_1;unfold iz at hT;have hX:=ai @GW.eq_1<| @py.eq_1;simp only[Tryz.f80,aD,an,ioB];refine s_g hG ?_;refine s_g hG ?_;refine s_g hG ?_;refine al ?_;refine s_g hG ?_;refine av ?_;refine xw hr (gf:=125) (caps:= [.z (.ptr (.slice (.st (.pair (.st (.pair .bool (.slice (.int .u32)))) (.st (.pair .bool (.slice (.int .u32)))))))) p]) (items:=b8 p) (by simp only[hT,iz,mx0,mx1,mx2,mx3,mx4,mx5,mx6,aV,br,bN,bc,bq,Ty.fieldTy,Ty.fieldOf,Nat.reduceLT,Nat.reduceEqDiff,Nat.reduceAdd,Nat.reduceMul,Nat.reduceSub,Nat.reduceLeDiff,Nat.reduceBEq,Nat.reduceBNe,reduceIte,reduceDIte,reduceCtorEq];try rfl) (by rfl) (by rw[hP];exact wu p) (by rfl) (ub:=(.st (.pair (.st (.pair .bool (.slice (.int .u32)))) (.st (.pair .bool (.slice (.int .u32))))))) (by rw[hP];exact ty91) (by simp only[hT,iz];omega) [3,5,6] (by rfl) (by simp only[hT,iz];try rfl) (fun(k:Nat) (z:Unit)=>(⟨[(3, .l (.z (.ptr (.slice (.st (.pair (.st (.pair .bool (.slice (.int .u32)))) (.st (.pair .bool (.slice (.int .u32)))))))) b)),(5, .l (.ownP 5 0)),(6, .l (.ownP 6 0))], [(5, .box 79 [.z (.slice (.st (.pair (.st (.pair .bool (.slice (.int .u32)))) (.st (.pair .bool (.slice (.int .u32))))))) (aI (ie (aq p) (aq b) k))]),(6, .box 109 [.fn 81 [.p 5, .z (.ptr (.slice (.st (.pair (.st (.pair .bool (.slice (.int .u32)))) (.st (.pair .bool (.slice (.int .u32)))))))) b]])]⟩:aa)) (fun(k:Nat) (z:Unit)=>True) () ?_ ?_ ?_ ?_ ?_;·simp only[ml0,ml1,Nat.reduceLT,Nat.reduceEqDiff,Nat.reduceAdd,Nat.reduceMul,Nat.reduceSub,Nat.reduceLeDiff,Nat.reduceBEq,Nat.reduceBNe,reduceIte,reduceDIte,reduceCtorEq];simp only[gw];rfl
 ·trivial
 ·intro k z;rfl
 ·intro k hk;rintro⟨⟩-;have hk:k<p.length:=by simpa [b8] using hk
  have hg:=AB hC.1 (AC hk);refine⟨_,_,_,by simp only[hT,iz,b8,jV,mx0,mx1,mx2,mx3,mx4,mx5,mx6,aV,br,bN,bc,bq,Ty.fieldTy,Ty.fieldOf,Nat.reduceLT,Nat.reduceEqDiff,Nat.reduceAdd,Nat.reduceMul,Nat.reduceSub,Nat.reduceLeDiff,Nat.reduceBEq,Nat.reduceBNe,reduceIte,reduceDIte,reduceCtorEq,List.getElem_map,List.getElem_range];rfl,by simp only[mx0,mx1,mx2,mx3,mx4,mx5,mx6,aV,br,bN,bc,bq,Ty.fieldTy,Ty.fieldOf,Nat.reduceLT,Nat.reduceEqDiff,Nat.reduceAdd,Nat.reduceMul,Nat.reduceSub,Nat.reduceLeDiff,Nat.reduceBEq,Nat.reduceBNe,reduceIte,reduceDIte,reduceCtorEq];rfl,by rfl,by simp only[mx0,mx1,mx2,mx3,mx4,mx5,mx6,aV,br,bN,bc,bq,Ty.fieldTy,Ty.fieldOf,Nat.reduceLT,Nat.reduceEqDiff,Nat.reduceAdd,Nat.reduceMul,Nat.reduceSub,Nat.reduceLeDiff,Nat.reduceBEq,Nat.reduceBNe,reduceIte,reduceDIte,reduceCtorEq]<;>rfl,by simp only[hT,iz,b8,jV,mx0,mx1,mx2,mx3,mx4,mx5,mx6,aV,br,bN,bc,bq,Ty.fieldTy,Ty.fieldOf,Nat.reduceLT,Nat.reduceEqDiff,Nat.reduceAdd,Nat.reduceMul,Nat.reduceSub,Nat.reduceLeDiff,Nat.reduceBEq,Nat.reduceBNe,reduceIte,reduceDIte,reduceCtorEq,List.getElem_map,List.getElem_range];rfl,?_⟩;intro X' hP' hT';have hG':aJ X'.P X'.T:=by rw[hP',hT'];exact hG.keep _
  rw[hT] at hT';refine av ?_;refine oy hG' ?_ ?_
  ·(try simp only[ba]);simp only[pe2,hg];exact hC.2.2 k hk
  refine aN ?_;show ∃ z,_;simp only[ml0,ml1,Nat.reduceLT,Nat.reduceEqDiff,Nat.reduceAdd,Nat.reduceMul,Nat.reduceSub,Nat.reduceLeDiff,Nat.reduceBEq,Nat.reduceBNe,reduceIte,reduceDIte,reduceCtorEq];simp only[pe2,hg,aK,aL,ie,aM]
 ·rintro⟨⟩-;rw[show (b8 p).length=p.length by simp[b8]];refine aN ?_;refine aj ?_;refine s_g hG ?_;refine az ?_;refine q_e [] ?_;rw[kO,aM]
def rC(B:ah):Tab:={types:= [(3,(.int .i64)),(22,(.slice .str)),(31,(.int .i64)),(46, .str)],elems:= [],cons:= [(87,mw),(106,GU)],hint:= [],N:=33,base:=B}
theorem B7{B:ah}(hB:aC B):aJ Tryz.prog (rC B):=⟨⟨tc ty3 (tc gG (tc km (tc mE (ae)))),af,by simp only[rC,ioB];omega⟩,aF (cc Tryz.func87 (xm hB) (cc Tryz.func106 (I0 hB) (aw))),by kernel_rfl⟩
def pz:Con:=fun l os=>match l,os with
 | [.z (.slice .str) p], []=>some (dm p, [.z (.slice (.st (.pair (.st (.pair .bool (.slice (.int .u32)))) (.st (.pair .bool (.slice (.int .u32))))))) (aI (bm p)), .z (.int .i64) (cV p)], [])
 |_,_=>none
theorem xy{B:ah}(hB:aC B):Valid B Tryz.prog 54 pz:=by
 refine ab (B7 hB).tab Tryz.func54 rfl rfl rfl ?_;intro args os C rs os' hc hC;unfold pz at hc;split at hc;case h_2=>cases hc
 rename_i p;cases hc;refine v_h (B7 hB) fun X hP hT hr hG=> ?_;have hU:=rC.eq_1;unfold rC at hT;have hX:=ai @mw.eq_1<| @GU.eq_1;simp only[Tryz.f54,aD,an,ioB];have hl:p.length<1000000000+1:=by have:=hC.1;unfold QL at this;omega
 refine s_g hG ?_;refine al ?_;refine s_g hG ?_;refine ar ?_ ?_
 ·intro hb0;try simp only[bt] at hb0
  have hl41:41<p.length:=by have h9:(41:Int)<(p.length:Int):=hb0;omega
  refine s_g hG ?_;refine az ?_;refine aB ?_;refine q_e [] ?_;exact uJ (D4 hl41)
 ·intro hb0;try simp only[bf] at hb0
  have hl41:p.length<=41:=by have h9: ¬ (41:Int)<(p.length:Int):=hb0;omega
  refine au ?_;refine aj ?_;refine al ?_;refine s_g hG ?_;refine av ?_;refine bw (fun(z:Nat)=>(⟨[(0, .l (.z (.slice .str) p)),(2, .l (.val (.slice none 0 0))),(3, .l (.z (.int .i64) 0)),(9, .l (.z (.slice .str) p)),(10, .l (.z (.int .i64) (p.length:Int))),(11, .l (.z (.int .i64) (z:Int)))], []⟩:aa)) (fun z=>z<=p.length/\(p.take z).all (fun q=>decide (dA q=0))=true) (fun z=>p.length-z) 0 ?_ ?_ ?_;·refine q_l ?_;rfl
  ·exact⟨by omega,rfl⟩
  ·rintro k ⟨g1,g2⟩;(try dsimp only at g1 g2);refine s_g hG ?_;refine al ?_;refine ar ?_ ?_
   ·intro hb1;(try simp only[bt] at hb1);(have hk:k<p.length:=by have h9:(k:Int)<(p.length:Int):=hb1;omega);refine au ?_;refine aj ?_;refine al ?_;refine av ?_;refine s_q hG ?_ ?_
    ·(try simp only[ba]);exact⟨by omega,hb1⟩
    refine s_q hG ?_ ?_
    ·(try simp only[ba]);exact hC.2 _ (gj (t:= .str) hk)
    refine ar ?_ ?_;·intro hb2;(try simp only[bt] at hb2);refine s_g hG ?_;refine az ?_;refine bK ?_;refine aB ?_;refine eO ?_;refine bK ?_;refine aB ?_;refine q_e [] ?_;exact uJ (Ia hk hl41 hb2)
    ·(intro hb2;(try simp only[bf] at hb2);refine au ?_;refine aN ?_;refine aj ?_;refine ag hG ?_ ?_;·first|trivial|omega|(simp;done)|(simp;omega));show ∃ z,_;refine q_l ?_;exact⟨k+1,wi (by omega) (by omega),hk,D0 hk g2 hb2,by omega⟩
   ·intro hb1;(try simp only[bf] at hb1);(have hk:k=p.length:=by have h9: ¬ (k:Int)<(p.length:Int):=hb1;omega);subst hk;rw[List.take_length] at g2;refine bj ?_;refine aG ?_;refine ay ?_;refine ax ?_;refine aj ?_;refine al ?_;refine s_q hG ?_ ?_
    ·(try simp only[ba]);exact D3 hl41
    refine ar ?_ ?_;·intro hb3;(try simp only[bt] at hb3);refine s_g hG ?_;refine az ?_;refine aB ?_;refine q_e [] ?_;exact uJ (D5 hl41 g2 hb3)
    ·intro hb3;(try simp only[bf] at hb3);refine au ?_;refine aj ?_;refine s_q hG ?_ ?_
     ·(try simp only[ba]);exact⟨by unfold QL;omega,(uI hC g2).1⟩
     refine az ?_;refine q_e [] ?_;exact Lr hC hl41 g2 hb3
def rD(B:ah):Tab:={types:= [(3,(.int .i64)),(22,(.slice .str)),(31,(.int .i64)),(44,(.slice (.slice .str))),(98,(.slice (.slice (.st (.pair (.st (.pair .bool (.slice (.int .u32)))) (.st (.pair .bool (.slice (.int .u32)))))))))],elems:= [(98,79)],cons:= [(54,pz)],hint:= [],N:=29,base:=B}
theorem B8{B:ah}(hB:aC B):aJ Tryz.prog (rD B):=⟨⟨tc ty3 (tc gG (tc km (tc vw (tc vx (ae))))),aT (by kernel_rfl) (af),by simp only[rD,ioB];omega⟩,aF (cc Tryz.func54 (xy hB) (aw)),by kernel_rfl⟩
def fL:Con:=fun l os=>match l,os with
 | [.z (.slice (.slice .str)) l], []=>some (l.length<=1000/\∀ p∈l,dm p, [.z (.slice (.slice (.st (.pair (.st (.pair .bool (.slice (.int .u32)))) (.st (.pair .bool (.slice (.int .u32)))))))) (ig l), .z (.int .i64) (bY l)], [])
 |_,_=>none
theorem fa{B:ah}(hB:aC B):Valid B Tryz.prog 67 fL:=by
 refine ab (B8 hB).tab Tryz.func67 rfl rfl rfl ?_;intro args os C rs os' hc hC;unfold fL at hc;split at hc;case h_2=>cases hc
 rename_i l;cases hc;refine v_h (B8 hB) fun X hP hT hr hG=> ?_;have hU:=rD.eq_1;unfold rD at hT;have hX:= @pz.eq_1;simp only[Tryz.f67,aD,an,ioB];have hl:l.length<=1000:=hC.1;refine s_g hG ?_;refine EV ?_;refine s_g hG ?_;refine s_g hG ?_;refine al ?_;refine EU ?_;refine aj ?_;refine al ?_;refine s_g hG ?_;refine av ?_;refine bw (fun(z:Option (Nat))=>match z with|none=>((⟨[(0, .l (.z (.slice (.slice .str)) l)),(2, .l (.val (.slice none 0 0))),(3, .l (.z (.int .i64) 0)),(4, .l (.val (.slice none 0 0))),(5, .l (.z (.int .i64) 0)),(9, .l (.z (.slice (.slice .str)) l)),(10, .l (.z (.int .i64) (l.length:Int))),(11, .l (.z (.int .i64) 0))], []⟩:aa))|some z=>((⟨[(0, .l (.z (.slice (.slice .str)) l)),(2, .l (.val (.slice none 0 0))),(3, .l (.z (.int .i64) 0)),(4, .l (.ownS 25)),(5, .l (.z (.int .i64) 0)),(9, .l (.z (.slice (.slice .str)) l)),(10, .l (.z (.int .i64) (l.length:Int))),(11, .l (.z (.int .i64) (z:Int)))], [(25, .arr (.slice (.st (.pair (.st (.pair .bool (.slice (.int .u32)))) (.st (.pair .bool (.slice (.int .u32))))))) 79 ((l.take z).map fun p=>aI (bm p)))]⟩:aa))) (fun(z:Option (Nat))=>match z with|none=>(True)|some z=>(1<=z/\z<=l.length/\(l.take z).all (fun p=>decide (cV p=0))=true)) (fun(z:Option (Nat))=>match z with|none=>(l.length+1)|some z=>(l.length-z)) none ?_ ?_ ?_;·simp only[ml0,ml1,Nat.reduceLT,Nat.reduceEqDiff,Nat.reduceAdd,Nat.reduceMul,Nat.reduceSub,Nat.reduceLeDiff,Nat.reduceBEq,Nat.reduceBNe,reduceIte,reduceDIte,reduceCtorEq]
 ·trivial
 ·rintro(_|k) hz_
  ·obtain⟨k,ek⟩:∃ k:Nat,k=0:=⟨0,rfl⟩;(have e0:(k:Int)=0:=by rw[ek];rfl);refine s_g hG ?_;refine al ?_;refine ar ?_ ?_
   ·intro hb0;(try simp only[bt] at hb0);(have hk:k<l.length:=by first|(have h9:(k:Int)<(l.length:Int):=hb0;omega)|(have h9:(0:Int)<(l.length:Int):=hb0;omega));refine au ?_;refine aj ?_;refine al ?_;refine av ?_;refine s_q hG ?_ ?_
    ·(try simp only[ba]);exact⟨by omega,hb0⟩
    refine s_g hG ?_;refine al ?_;refine s_q hG ?_ ?_
    ·(try simp only[ba]);first|exact hC.2 _ (gj (t:= .slice .str) hk)|(subst ek;exact hC.2 _ (gj (t:= .slice .str) (k:=0) hk))
    refine s_g hG ?_;refine ar ?_ ?_;·intro hb1;(try simp only[bt] at hb1);refine s_g hG ?_;refine bj ?_;refine aG ?_;refine jk rfl ?_;refine aG ?_;refine ay ?_;refine ax ?_;refine aj ?_;refine s_g hG ?_;refine az ?_;refine gO ?_;refine q_e [] ?_;subst ek;exact Ic hk hb1
    ·intro hb1;(try simp only[bf] at hb1);refine au ?_;refine aj ?_;refine ag hG ?_ ?_
     ·(try simp only[ba]);(unfold Cm.Roomy;try simp only[List.length_map,List.length_take]);omega
     (refine aN ?_;refine aj ?_;refine ag hG ?_ ?_;·first|trivial|omega|(simp;done)|(simp;omega));refine⟨some (1),?_⟩;simp only[ml0,ml1,Nat.reduceLT,Nat.reduceEqDiff,Nat.reduceAdd,Nat.reduceMul,Nat.reduceSub,Nat.reduceLeDiff,Nat.reduceBEq,Nat.reduceBNe,reduceIte,reduceDIte,reduceCtorEq];subst ek;exact⟨hb1,AL hl hk hb1⟩
   ·intro hb0;(try simp only[bf] at hb0);(have hk: ¬k<l.length:=by intro h9;first|exact hb0 (show (k:Int)<(l.length:Int) by omega)|exact hb0 (show (0:Int)<(l.length:Int) by omega));refine bj ?_;refine aG ?_;refine ay ?_;refine ax ?_;refine aj ?_;refine s_g hG ?_;refine az ?_;refine gO ?_;refine q_e [] ?_;subst ek;exact Ie hk
  ·obtain⟨g0,g1,g2⟩:=hz_;(try dsimp only at g0 g1 g2);refine s_g hG ?_;refine al ?_;refine ar ?_ ?_
   ·intro hb0;(try simp only[bt] at hb0);(have hk:k<l.length:=by first|(have h9:(k:Int)<(l.length:Int):=hb0;omega)|(have h9:(0:Int)<(l.length:Int):=hb0;omega));refine au ?_;refine aj ?_;refine al ?_;refine av ?_;refine s_q hG ?_ ?_
    ·(try simp only[ba]);exact⟨by omega,hb0⟩
    refine s_g hG ?_;refine al ?_;refine s_q hG ?_ ?_
    ·(try simp only[ba]);first|exact hC.2 _ (gj (t:= .slice .str) hk)|(subst ek;exact hC.2 _ (gj (t:= .slice .str) (k:=0) hk))
    refine s_g hG ?_;refine ar ?_ ?_;·intro hb1;(try simp only[bt] at hb1);refine s_g hG ?_;refine bj ?_;refine aG ?_;refine jk rfl ?_;refine aG ?_;refine ay ?_;refine ax ?_;refine aj ?_;refine s_g hG ?_;refine az ?_;refine gO ?_;refine q_e [] ?_;exact AK hk g2 hb1
    ·intro hb1;(try simp only[bf] at hb1);refine au ?_;refine aj ?_;refine ag hG ?_ ?_
     ·(try simp only[ba]);(unfold Cm.Roomy;try simp only[List.length_map,List.length_take]);omega
     (refine aN ?_;refine aj ?_;refine ag hG ?_ ?_;·first|trivial|omega|(simp;done)|(simp;omega));refine⟨some (k+1),?_⟩;simp only[ml0,ml1,Nat.reduceLT,Nat.reduceEqDiff,Nat.reduceAdd,Nat.reduceMul,Nat.reduceSub,Nat.reduceLeDiff,Nat.reduceBEq,Nat.reduceBNe,reduceIte,reduceDIte,reduceCtorEq];have hr:=uK hl hk g2 hb1;exact⟨hb1,hr⟩
   ·intro hb0;(try simp only[bf] at hb0);(have hk: ¬k<l.length:=by intro h9;first|exact hb0 (show (k:Int)<(l.length:Int) by omega)|exact hb0 (show (0:Int)<(l.length:Int) by omega));refine bj ?_;refine aG ?_;refine ay ?_;refine ax ?_;refine aj ?_;refine s_g hG ?_;refine az ?_;refine gO ?_;refine q_e [25] ?_;rw[List.take_of_length_le (by omega)] at g2 ⊢;exact Lt g2
def rE(B:ah):Tab:={types:= [(3,(.int .i64)),(78,(.slice (.st (.pair (.st (.pair .bool (.slice (.int .u32)))) (.st (.pair .bool (.slice (.int .u32)))))))),(79,(.slice (.st (.pair (.st (.pair .bool (.slice (.int .u32)))) (.st (.pair .bool (.slice (.int .u32))))))))],elems:= [],cons:= [(82,jF),(88,pj)],hint:= [],N:=19,base:=B}
theorem B9{B:ah}(hB:aC B):aJ Tryz.prog (rE B):=⟨⟨tc ty3 (tc NA (tc gd (ae))),af,by simp only[rE,ioB];omega⟩,aF (cc Tryz.func82 (iZ hB) (cc Tryz.func88 (xn hB) (aw))),by kernel_rfl⟩
def eA:Con:=fun l os=>match l,os with
 | [.z (.slice (.st (.pair (.st (.pair .bool (.slice (.int .u32)))) (.st (.pair .bool (.slice (.int .u32))))))) p], []=>some (Sz QC p/\p.length<=QL, [.z (.slice .str) (ij (aS (aq p))), .z (.int .i64) (cw (aS (aq p)))], [])
 |_,_=>none
theorem fM{B:ah}(hB:aC B):Valid B Tryz.prog 69 eA:=by
 refine ab (B9 hB).tab Tryz.func69 rfl rfl rfl ?_;intro args os C rs os' hc hC;unfold eA at hc;split at hc;case h_2=>cases hc
 rename_i p;cases hc;refine v_h (B9 hB) fun X hP hT hr hG=> ?_;have hU:=rE.eq_1;unfold rE at hT;have hX:=ai @pj.eq_1<| @jF.eq_1;simp only[Tryz.f69,aD,an,ioB];refine s_g hG ?_;refine s_q hG ?_ ?_
 ·try simp only[ba]
  exact hC
 refine al ?_;refine s_g hG ?_;refine ar ?_ ?_
 ·intro hb0;try simp only[bt] at hb0
  have hl:41<(aS (aq p)).length:=by have h9:(41:Int)<((aI (aS (aq p))).length:Int):=hb0;rw[aE] at h9;omega
  refine s_g hG ?_;refine az ?_;refine aB ?_;refine q_e [] ?_;exact D6 hl
 ·intro hb0;try simp only[bf] at hb0
  have hl: ¬41<(aS (aq p)).length:=by have h9: ¬ (41:Int)<((aI (aS (aq p))).length:Int):=hb0;rw[aE] at h9;omega
  refine au ?_;refine aj ?_;refine s_q hG ?_ ?_
  ·(try simp only[ba]);exact Ih hC hl
  refine al ?_;refine s_g hG ?_;refine ar ?_ ?_;·intro hb1;(try simp only[bt] at hb1);refine s_g hG ?_;refine az ?_;refine aB ?_;refine q_e [] ?_;exact Ig hl hb1
  ·intro hb1;(try simp only[bf] at hb1);refine au ?_;refine aj ?_;refine s_g hG ?_;refine az ?_;refine q_e [] ?_;exact Lu hl hb1
def rF(B:ah):Tab:={types:= [(79,(.slice (.st (.pair (.st (.pair .bool (.slice (.int .u32)))) (.st (.pair .bool (.slice (.int .u32)))))))),(84, .func)],elems:= [],cons:= [(57,qg)],hint:= [],N:=8,base:=B}
theorem Ca{B:ah}(hB:aC B):aJ Tryz.prog (rF B):=⟨⟨tc gd (tc Qg (ae)),af,by simp only[rF,ioB];omega⟩,aF (cc Tryz.func57 (nh hB) (aw)),by kernel_rfl⟩
def GX:Con:=fun l os=>match l,os with
 | [.z (.slice (.st (.pair (.st (.pair .bool (.slice (.int .u32)))) (.st (.pair .bool (.slice (.int .u32))))))) p, .z (.slice (.st (.pair (.st (.pair .bool (.slice (.int .u32)))) (.st (.pair .bool (.slice (.int .u32))))))) q], []=>some (Sz QH p/\Sz QH q/\p.length<=1000/\q.length<=1000, [.z (.slice (.st (.pair (.st (.pair .bool (.slice (.int .u32)))) (.st (.pair .bool (.slice (.int .u32))))))) (aI (bl (· + ·) (aq p) (aq q)))], [])
 |_,_=>none
theorem Jc{B:ah}(hB:aC B):Valid B Tryz.prog 56 GX:=by
 refine ab (Ca hB).tab Tryz.func56 rfl rfl rfl ?_;intro args os C rs os' hc hC;unfold GX at hc;split at hc;case h_2=>cases hc
 rename_i p q;cases hc;refine v_h (Ca hB) fun X hP hT hr hG=> ?_;have hU:=rF.eq_1;unfold rF at hT;have hX:= @qg.eq_1;simp only[Tryz.f56,aD,an,ioB];refine s_g hG ?_;refine s_q hG ?_ ?_
 ·try simp only[ba]
  exact⟨by simp,hC⟩
 refine az ?_;refine q_e [] ?_;trivial
def rG(B:ah):Tab:={types:= [(79,(.slice (.st (.pair (.st (.pair .bool (.slice (.int .u32)))) (.st (.pair .bool (.slice (.int .u32)))))))),(84, .func)],elems:= [],cons:= [(57,qg)],hint:= [],N:=8,base:=B}
theorem Cb{B:ah}(hB:aC B):aJ Tryz.prog (rG B):=⟨⟨tc gd (tc Qg (ae)),af,by simp only[rG,ioB];omega⟩,aF (cc Tryz.func57 (nh hB) (aw)),by kernel_rfl⟩
def GY:Con:=fun l os=>match l,os with
 | [.z (.slice (.st (.pair (.st (.pair .bool (.slice (.int .u32)))) (.st (.pair .bool (.slice (.int .u32))))))) p, .z (.slice (.st (.pair (.st (.pair .bool (.slice (.int .u32)))) (.st (.pair .bool (.slice (.int .u32))))))) q], []=>some (Sz QH p/\Sz QH q/\p.length<=1000/\q.length<=1000, [.z (.slice (.st (.pair (.st (.pair .bool (.slice (.int .u32)))) (.st (.pair .bool (.slice (.int .u32))))))) (aI (bl (· - ·) (aq p) (aq q)))], [])
 |_,_=>none
theorem Jd{B:ah}(hB:aC B):Valid B Tryz.prog 59 GY:=by
 refine ab (Cb hB).tab Tryz.func59 rfl rfl rfl ?_;intro args os C rs os' hc hC;unfold GY at hc;split at hc;case h_2=>cases hc
 rename_i p q;cases hc;refine v_h (Cb hB) fun X hP hT hr hG=> ?_;have hU:=rG.eq_1;unfold rG at hT;have hX:= @qg.eq_1;simp only[Tryz.f59,aD,an,ioB];refine s_g hG ?_;refine s_q hG ?_ ?_
 ·try simp only[ba]
  exact⟨by simp,hC⟩
 refine az ?_;refine q_e [] ?_;trivial
def rH(B:ah):Tab:={types:= [(79,(.slice (.st (.pair (.st (.pair .bool (.slice (.int .u32)))) (.st (.pair .bool (.slice (.int .u32))))))))],elems:= [],cons:= [(77,j6)],hint:= [],N:=7,base:=B}
theorem Cc{B:ah}(hB:aC B):aJ Tryz.prog (rH B):=⟨⟨tc gd (ae),af,by simp only[rH,ioB];omega⟩,aF (cc Tryz.func77 (xt hB) (aw)),by kernel_rfl⟩
def GZ:Con:=fun l os=>match l,os with
 | [.z (.slice (.st (.pair (.st (.pair .bool (.slice (.int .u32)))) (.st (.pair .bool (.slice (.int .u32))))))) p, .z (.slice (.st (.pair (.st (.pair .bool (.slice (.int .u32)))) (.st (.pair .bool (.slice (.int .u32))))))) q], []=>some (Sz QH p/\p.length<=1000, [.z (.slice (.st (.pair (.st (.pair .bool (.slice (.int .u32)))) (.st (.pair .bool (.slice (.int .u32))))))) (aI (aZ (aq p)))], [])
 |_,_=>none
theorem Je{B:ah}(hB:aC B):Valid B Tryz.prog 76 GZ:=by
 refine ab (Cc hB).tab Tryz.func76 rfl rfl rfl ?_;intro args os C rs os' hc hC;unfold GZ at hc;split at hc;case h_2=>cases hc
 rename_i p q;cases hc;refine v_h (Cc hB) fun X hP hT hr hG=> ?_;have hU:=rH.eq_1;unfold rH at hT;have hX:= @j6.eq_1;simp only[Tryz.f76,aD,an,ioB];refine s_g hG ?_;refine s_q hG ?_ ?_
 ·try simp only[ba]
  exact hC
 refine az ?_;refine q_e [] ?_;trivial
def rI(B:ah):Tab:={types:= [(79,(.slice (.st (.pair (.st (.pair .bool (.slice (.int .u32)))) (.st (.pair .bool (.slice (.int .u32))))))))],elems:= [],cons:= [(79,ru)],hint:= [],N:=7,base:=B}
theorem Cd{B:ah}(hB:aC B):aJ Tryz.prog (rI B):=⟨⟨tc gd (ae),af,by simp only[rI,ioB];omega⟩,aF (cc Tryz.func79 (I4 hB) (aw)),by kernel_rfl⟩
def G0:Con:=fun l os=>match l,os with
 | [.z (.slice (.st (.pair (.st (.pair .bool (.slice (.int .u32)))) (.st (.pair .bool (.slice (.int .u32))))))) p, .z (.slice (.st (.pair (.st (.pair .bool (.slice (.int .u32)))) (.st (.pair .bool (.slice (.int .u32))))))) q], []=>some (kN p, [.z (.slice (.st (.pair (.st (.pair .bool (.slice (.int .u32)))) (.st (.pair .bool (.slice (.int .u32))))))) (aI (bC (aq p)))], [])
 |_,_=>none
theorem Jf{B:ah}(hB:aC B):Valid B Tryz.prog 78 G0:=by
 refine ab (Cd hB).tab Tryz.func78 rfl rfl rfl ?_;intro args os C rs os' hc hC;unfold G0 at hc;split at hc;case h_2=>cases hc
 rename_i p q;cases hc;refine v_h (Cd hB) fun X hP hT hr hG=> ?_;have hU:=rI.eq_1;unfold rI at hT;have hX:= @ru.eq_1;simp only[Tryz.f78,aD,an,ioB];refine s_g hG ?_;refine s_q hG ?_ ?_
 ·try simp only[ba]
  exact hC
 refine az ?_;refine q_e [] ?_;trivial
def rJ(B:ah):Tab:={types:= [(31,(.int .i64)),(44,(.slice (.slice .str))),(79,(.slice (.st (.pair (.st (.pair .bool (.slice (.int .u32)))) (.st (.pair .bool (.slice (.int .u32)))))))),(98,(.slice (.slice (.st (.pair (.st (.pair .bool (.slice (.int .u32)))) (.st (.pair .bool (.slice (.int .u32)))))))))],elems:= [(44,22)],cons:= [(56,GX),(67,fL),(69,eA)],hint:= [],N:=31,base:=B}
theorem Ce{B:ah}(hB:aC B):aJ Tryz.prog (rJ B):=⟨⟨tc km (tc vw (tc gd (tc vx (ae)))),aT (by kernel_rfl) (af),by simp only[rJ,ioB];omega⟩,aF (cc Tryz.func56 (Jc hB) (cc Tryz.func67 (fa hB) (cc Tryz.func69 (fM hB) (aw)))),by kernel_rfl⟩
def rK:Con:=fun l os=>match l,os with
 | [.z (.slice .str) p, .z (.slice .str) q, .val (.func (.func g) fs cs)], []=>some ((g=56/\fs.size=0/\cs.size=0)/\bS (fun p q=>Sz QH p/\Sz QH q/\p.length<=1000/\q.length<=1000) (bl (· + ·)) p q, [.z (.slice .str) (c6 (bl (· + ·)) p q), .z (.int .i64) (cZ (bl (· + ·)) p q)], [])
 |_,_=>none
theorem Jg{B:ah}(hB:aC B):Valid B Tryz.prog 55 rK:=by
 refine ab (Ce hB).tab Tryz.func55 rfl rfl rfl ?_;intro args os C rs os' hc hC;unfold rK at hc;split at hc;case h_2=>cases hc
 rename_i p q g fs cs;cases hc;refine v_h (Ce hB) fun X hP hT hr hG=> ?_;have hU:=rJ.eq_1;unfold rJ at hT;have hX:=ai @GX.eq_1<|ai @fL.eq_1<| @eA.eq_1;simp only[Tryz.f55,aD,an,ioB];obtain⟨⟨rfl,e1,e2⟩,hp,hq,hD⟩:=hC;obtain rfl:=Array.eq_empty_of_size_eq_zero e1;obtain rfl:=Array.eq_empty_of_size_eq_zero e2;refine s_g hG ?_;refine s_q hG ?_ ?_
 ·try simp only[ba]
  exact(gV hp hq).2
 refine al ?_;refine s_g hG ?_;refine ar ?_ ?_
 ·intro hb0;try simp only[bt] at hb0
  refine s_g hG ?_;refine az ?_;refine aB ?_;refine q_e [] ?_;exact iU hb0
 ·intro hb0;try simp only[bf] at hb0
  have n0:=js hb0;have n1:=jt hb0;have nl:=gU hb0;have hE:=hD hb0;refine au ?_;refine aj ?_;refine s_d hG ?_ ?_
  ·(try simp only[ba]);simp only[NT] at n0 n1;simp only[n0,n1,nl,aK];exact⟨by decide,by decide,hE.1,hE.2.1,by rw[aE];exact hE.2.2⟩
  refine az ?_;refine q_e [] ?_;simp only[NT] at n0 n1;simp only[n0,n1,aK];exact kv (f:=(bl (· + ·))) hb0
def rL(B:ah):Tab:={types:= [(31,(.int .i64)),(44,(.slice (.slice .str))),(79,(.slice (.st (.pair (.st (.pair .bool (.slice (.int .u32)))) (.st (.pair .bool (.slice (.int .u32)))))))),(98,(.slice (.slice (.st (.pair (.st (.pair .bool (.slice (.int .u32)))) (.st (.pair .bool (.slice (.int .u32)))))))))],elems:= [(44,22)],cons:= [(59,GY),(67,fL),(69,eA)],hint:= [],N:=31,base:=B}
theorem Cf{B:ah}(hB:aC B):aJ Tryz.prog (rL B):=⟨⟨tc km (tc vw (tc gd (tc vx (ae)))),aT (by kernel_rfl) (af),by simp only[rL,ioB];omega⟩,aF (cc Tryz.func59 (Jd hB) (cc Tryz.func67 (fa hB) (cc Tryz.func69 (fM hB) (aw)))),by kernel_rfl⟩
def rM:Con:=fun l os=>match l,os with
 | [.z (.slice .str) p, .z (.slice .str) q, .val (.func (.func g) fs cs)], []=>some ((g=59/\fs.size=0/\cs.size=0)/\bS (fun p q=>Sz QH p/\Sz QH q/\p.length<=1000/\q.length<=1000) (bl (· - ·)) p q, [.z (.slice .str) (c6 (bl (· - ·)) p q), .z (.int .i64) (cZ (bl (· - ·)) p q)], [])
 |_,_=>none
theorem Jh{B:ah}(hB:aC B):Valid B Tryz.prog 55 rM:=by
 refine ab (Cf hB).tab Tryz.func55 rfl rfl rfl ?_;intro args os C rs os' hc hC;unfold rM at hc;split at hc;case h_2=>cases hc
 rename_i p q g fs cs;cases hc;refine v_h (Cf hB) fun X hP hT hr hG=> ?_;have hU:=rL.eq_1;unfold rL at hT;have hX:=ai @fL.eq_1<|ai @GY.eq_1<| @eA.eq_1;simp only[Tryz.f55,aD,an,ioB];obtain⟨⟨rfl,e1,e2⟩,hp,hq,hD⟩:=hC;obtain rfl:=Array.eq_empty_of_size_eq_zero e1;obtain rfl:=Array.eq_empty_of_size_eq_zero e2;refine s_g hG ?_;refine s_q hG ?_ ?_
 ·try simp only[ba]
  exact(gV hp hq).2
 refine al ?_;refine s_g hG ?_;refine ar ?_ ?_
 ·intro hb0;try simp only[bt] at hb0
  refine s_g hG ?_;refine az ?_;refine aB ?_;refine q_e [] ?_;exact iU hb0
 ·intro hb0;try simp only[bf] at hb0
  have n0:=js hb0;have n1:=jt hb0;have nl:=gU hb0;have hE:=hD hb0;refine au ?_;refine aj ?_;refine s_d hG ?_ ?_
  ·(try simp only[ba]);simp only[NT] at n0 n1;simp only[n0,n1,nl,aK];exact⟨by decide,by decide,hE.1,hE.2.1,by rw[aE];exact hE.2.2⟩
  refine az ?_;refine q_e [] ?_;simp only[NT] at n0 n1;simp only[n0,n1,aK];exact kv (f:=(bl (· - ·))) hb0
def rN(B:ah):Tab:={types:= [(31,(.int .i64)),(44,(.slice (.slice .str))),(79,(.slice (.st (.pair (.st (.pair .bool (.slice (.int .u32)))) (.st (.pair .bool (.slice (.int .u32)))))))),(98,(.slice (.slice (.st (.pair (.st (.pair .bool (.slice (.int .u32)))) (.st (.pair .bool (.slice (.int .u32)))))))))],elems:= [(44,22)],cons:= [(61,po),(67,fL),(69,eA)],hint:= [],N:=31,base:=B}
theorem Cg{B:ah}(hB:aC B):aJ Tryz.prog (rN B):=⟨⟨tc km (tc vw (tc gd (tc vx (ae)))),aT (by kernel_rfl) (af),by simp only[rN,ioB];omega⟩,aF (cc Tryz.func61 (xq hB) (cc Tryz.func67 (fa hB) (cc Tryz.func69 (fM hB) (aw)))),by kernel_rfl⟩
def rO:Con:=fun l os=>match l,os with
 | [.z (.slice .str) p, .z (.slice .str) q, .val (.func (.func g) fs cs)], []=>some ((g=61/\fs.size=0/\cs.size=0)/\bS (fun p q=>Sz QM p/\Sz QM q/\p.length<=100/\q.length<=100) bh p q, [.z (.slice .str) (c6 bh p q), .z (.int .i64) (cZ bh p q)], [])
 |_,_=>none
theorem Ji{B:ah}(hB:aC B):Valid B Tryz.prog 55 rO:=by
 refine ab (Cg hB).tab Tryz.func55 rfl rfl rfl ?_;intro args os C rs os' hc hC;unfold rO at hc;split at hc;case h_2=>cases hc
 rename_i p q g fs cs;cases hc;refine v_h (Cg hB) fun X hP hT hr hG=> ?_;have hU:=rN.eq_1;unfold rN at hT;have hX:=ai @fL.eq_1<|ai @po.eq_1<| @eA.eq_1;simp only[Tryz.f55,aD,an,ioB];obtain⟨⟨rfl,e1,e2⟩,hp,hq,hD⟩:=hC;obtain rfl:=Array.eq_empty_of_size_eq_zero e1;obtain rfl:=Array.eq_empty_of_size_eq_zero e2;refine s_g hG ?_;refine s_q hG ?_ ?_
 ·try simp only[ba]
  exact(gV hp hq).2
 refine al ?_;refine s_g hG ?_;refine ar ?_ ?_
 ·intro hb0;try simp only[bt] at hb0
  refine s_g hG ?_;refine az ?_;refine aB ?_;refine q_e [] ?_;exact iU hb0
 ·intro hb0;try simp only[bf] at hb0
  have n0:=js hb0;have n1:=jt hb0;have nl:=gU hb0;have hE:=hD hb0;refine au ?_;refine aj ?_;refine s_d hG ?_ ?_
  ·(try simp only[ba]);simp only[NT] at n0 n1;simp only[n0,n1,nl,aK];exact⟨by decide,by decide,hE.1,hE.2.1,by rw[aE];exact hE.2.2⟩
  refine az ?_;refine q_e [] ?_;simp only[NT] at n0 n1;simp only[n0,n1,aK];exact kv (f:=bh) hb0
def rP(B:ah):Tab:={types:= [(31,(.int .i64)),(44,(.slice (.slice .str))),(79,(.slice (.st (.pair (.st (.pair .bool (.slice (.int .u32)))) (.st (.pair .bool (.slice (.int .u32)))))))),(98,(.slice (.slice (.st (.pair (.st (.pair .bool (.slice (.int .u32)))) (.st (.pair .bool (.slice (.int .u32)))))))))],elems:= [(44,22)],cons:= [(67,fL),(69,eA),(70,mz)],hint:= [],N:=31,base:=B}
theorem Ch{B:ah}(hB:aC B):aJ Tryz.prog (rP B):=⟨⟨tc km (tc vw (tc gd (tc vx (ae)))),aT (by kernel_rfl) (af),by simp only[rP,ioB];omega⟩,aF (cc Tryz.func67 (fa hB) (cc Tryz.func69 (fM hB) (cc Tryz.func70 (xu hB) (aw)))),by kernel_rfl⟩
def rQ:Con:=fun l os=>match l,os with
 | [.z (.slice .str) p, .z (.slice .str) q, .val (.func (.func g) fs cs)], []=>some ((g=70/\fs.size=0/\cs.size=0)/\bS (iS) bJ p q, [.z (.slice .str) (c6 bJ p q), .z (.int .i64) (cZ bJ p q)], [])
 |_,_=>none
theorem Jj{B:ah}(hB:aC B):Valid B Tryz.prog 55 rQ:=by
 refine ab (Ch hB).tab Tryz.func55 rfl rfl rfl ?_;intro args os C rs os' hc hC;unfold rQ at hc;split at hc;case h_2=>cases hc
 rename_i p q g fs cs;cases hc;refine v_h (Ch hB) fun X hP hT hr hG=> ?_;have hU:=rP.eq_1;unfold rP at hT;have hX:=ai @fL.eq_1<|ai @mz.eq_1<| @eA.eq_1;simp only[Tryz.f55,aD,an,ioB];obtain⟨⟨rfl,e1,e2⟩,hp,hq,hD⟩:=hC;obtain rfl:=Array.eq_empty_of_size_eq_zero e1;obtain rfl:=Array.eq_empty_of_size_eq_zero e2;refine s_g hG ?_;refine s_q hG ?_ ?_
 ·try simp only[ba]
  exact(gV hp hq).2
 refine al ?_;refine s_g hG ?_;refine ar ?_ ?_
 ·intro hb0;try simp only[bt] at hb0
  refine s_g hG ?_;refine az ?_;refine aB ?_;refine q_e [] ?_;exact iU hb0
 ·intro hb0;try simp only[bf] at hb0
  have n0:=js hb0;have n1:=jt hb0;have nl:=gU hb0;have hE:=hD hb0;refine au ?_;refine aj ?_;refine s_d hG ?_ ?_
  ·(try simp only[ba]);simp only[NT] at n0 n1;simp only[n0,n1,nl,aK];exact⟨by decide,by decide,hE.1,hE.2.1,by rw[aE];exact hE.2.2⟩
  refine az ?_;refine q_e [] ?_;simp only[NT] at n0 n1;simp only[n0,n1,aK];exact kv (f:=bJ) hb0
def rR(B:ah):Tab:={types:= [(31,(.int .i64)),(44,(.slice (.slice .str))),(79,(.slice (.st (.pair (.st (.pair .bool (.slice (.int .u32)))) (.st (.pair .bool (.slice (.int .u32)))))))),(98,(.slice (.slice (.st (.pair (.st (.pair .bool (.slice (.int .u32)))) (.st (.pair .bool (.slice (.int .u32)))))))))],elems:= [(44,22)],cons:= [(67,fL),(69,eA),(76,GZ)],hint:= [],N:=31,base:=B}
theorem Ci{B:ah}(hB:aC B):aJ Tryz.prog (rR B):=⟨⟨tc km (tc vw (tc gd (tc vx (ae)))),aT (by kernel_rfl) (af),by simp only[rR,ioB];omega⟩,aF (cc Tryz.func67 (fa hB) (cc Tryz.func69 (fM hB) (cc Tryz.func76 (Je hB) (aw)))),by kernel_rfl⟩
def rS:Con:=fun l os=>match l,os with
 | [.z (.slice .str) p, .z (.slice .str) q, .val (.func (.func g) fs cs)], []=>some ((g=76/\fs.size=0/\cs.size=0)/\bS (fun p _=>Sz QH p/\p.length<=1000) (fun a _=>aZ a) p q, [.z (.slice .str) (c6 (fun a _=>aZ a) p q), .z (.int .i64) (cZ (fun a _=>aZ a) p q)], [])
 |_,_=>none
theorem Jk{B:ah}(hB:aC B):Valid B Tryz.prog 55 rS:=by
 refine ab (Ci hB).tab Tryz.func55 rfl rfl rfl ?_;intro args os C rs os' hc hC;unfold rS at hc;split at hc;case h_2=>cases hc
 rename_i p q g fs cs;cases hc;refine v_h (Ci hB) fun X hP hT hr hG=> ?_;have hU:=rR.eq_1;unfold rR at hT;have hX:=ai @fL.eq_1<|ai @GZ.eq_1<| @eA.eq_1;simp only[Tryz.f55,aD,an,ioB];obtain⟨⟨rfl,e1,e2⟩,hp,hq,hD⟩:=hC;obtain rfl:=Array.eq_empty_of_size_eq_zero e1;obtain rfl:=Array.eq_empty_of_size_eq_zero e2;refine s_g hG ?_;refine s_q hG ?_ ?_
 ·try simp only[ba]
  exact(gV hp hq).2
 refine al ?_;refine s_g hG ?_;refine ar ?_ ?_
 ·intro hb0;try simp only[bt] at hb0
  refine s_g hG ?_;refine az ?_;refine aB ?_;refine q_e [] ?_;exact iU hb0
 ·intro hb0;try simp only[bf] at hb0
  have n0:=js hb0;have n1:=jt hb0;have nl:=gU hb0;have hE:=hD hb0;refine au ?_;refine aj ?_;refine s_d hG ?_ ?_
  ·(try simp only[ba]);simp only[NT] at n0 n1;simp only[n0,n1,nl,aK];exact⟨by decide,by decide,hE.1,hE.2.1,by rw[aE];exact hE.2.2⟩
  refine az ?_;refine q_e [] ?_;simp only[NT] at n0 n1;simp only[n0,n1,aK];exact kv (f:=(fun a _=>aZ a)) hb0
def vg:Con:=jy [none,some (.slice .str),none] rS
theorem Eu{B:ah}(hB:aC B):Valid B Tryz.prog 55 vg:=fF _ (Jk hB)
def rT(B:ah):Tab:={types:= [(31,(.int .i64)),(44,(.slice (.slice .str))),(79,(.slice (.st (.pair (.st (.pair .bool (.slice (.int .u32)))) (.st (.pair .bool (.slice (.int .u32)))))))),(98,(.slice (.slice (.st (.pair (.st (.pair .bool (.slice (.int .u32)))) (.st (.pair .bool (.slice (.int .u32)))))))))],elems:= [(44,22)],cons:= [(67,fL),(69,eA),(78,G0)],hint:= [],N:=31,base:=B}
theorem Cj{B:ah}(hB:aC B):aJ Tryz.prog (rT B):=⟨⟨tc km (tc vw (tc gd (tc vx (ae)))),aT (by kernel_rfl) (af),by simp only[rT,ioB];omega⟩,aF (cc Tryz.func67 (fa hB) (cc Tryz.func69 (fM hB) (cc Tryz.func78 (Jf hB) (aw)))),by kernel_rfl⟩
def rU:Con:=fun l os=>match l,os with
 | [.z (.slice .str) p, .z (.slice .str) q, .val (.func (.func g) fs cs)], []=>some ((g=78/\fs.size=0/\cs.size=0)/\bS (fun p _=>kN p) (fun a _=>bC a) p q, [.z (.slice .str) (c6 (fun a _=>bC a) p q), .z (.int .i64) (cZ (fun a _=>bC a) p q)], [])
 |_,_=>none
theorem Jl{B:ah}(hB:aC B):Valid B Tryz.prog 55 rU:=by
 refine ab (Cj hB).tab Tryz.func55 rfl rfl rfl ?_;intro args os C rs os' hc hC;unfold rU at hc;split at hc;case h_2=>cases hc
 rename_i p q g fs cs;cases hc;refine v_h (Cj hB) fun X hP hT hr hG=> ?_;have hU:=rT.eq_1;unfold rT at hT;have hX:=ai @fL.eq_1<|ai @G0.eq_1<| @eA.eq_1;simp only[Tryz.f55,aD,an,ioB];obtain⟨⟨rfl,e1,e2⟩,hp,hq,hD⟩:=hC;obtain rfl:=Array.eq_empty_of_size_eq_zero e1;obtain rfl:=Array.eq_empty_of_size_eq_zero e2;refine s_g hG ?_;refine s_q hG ?_ ?_
 ·try simp only[ba]
  exact(gV hp hq).2
 refine al ?_;refine s_g hG ?_;refine ar ?_ ?_
 ·intro hb0;try simp only[bt] at hb0
  refine s_g hG ?_;refine az ?_;refine aB ?_;refine q_e [] ?_;exact iU hb0
 ·intro hb0;try simp only[bf] at hb0
  have n0:=js hb0;have n1:=jt hb0;have nl:=gU hb0;have hE:=hD hb0;refine au ?_;refine aj ?_;refine s_d hG ?_ ?_
  ·(try simp only[ba]);simp only[NT] at n0 n1;simp only[n0,n1,nl,aK];exact⟨by decide,by decide,hE.1,hE.2.1,by rw[aE];exact hE.2.2⟩
  refine az ?_;refine q_e [] ?_;simp only[NT] at n0 n1;simp only[n0,n1,aK];exact kv (f:=(fun a _=>bC a)) hb0
def vh:Con:=jy [none,some (.slice .str),none] rU
theorem Ev{B:ah}(hB:aC B):Valid B Tryz.prog 55 vh:=fF _ (Jl hB)
def rV(B:ah):Tab:={types:= [(31,(.int .i64)),(44,(.slice (.slice .str))),(79,(.slice (.st (.pair (.st (.pair .bool (.slice (.int .u32)))) (.st (.pair .bool (.slice (.int .u32)))))))),(98,(.slice (.slice (.st (.pair (.st (.pair .bool (.slice (.int .u32)))) (.st (.pair .bool (.slice (.int .u32)))))))))],elems:= [(44,22)],cons:= [(67,fL),(69,eA),(80,oc)],hint:= [],N:=31,base:=B}
theorem Ck{B:ah}(hB:aC B):aJ Tryz.prog (rV B):=⟨⟨tc km (tc vw (tc gd (tc vx (ae)))),aT (by kernel_rfl) (af),by simp only[rV,ioB];omega⟩,aF (cc Tryz.func67 (fa hB) (cc Tryz.func69 (fM hB) (cc Tryz.func80 (Jb hB) (aw)))),by kernel_rfl⟩
def rW:Con:=fun l os=>match l,os with
 | [.z (.slice .str) p, .z (.slice .str) q, .val (.func (.func g) fs cs)], []=>some ((g=80/\fs.size=0/\cs.size=0)/\bS (ym) kO p q, [.z (.slice .str) (c6 kO p q), .z (.int .i64) (cZ kO p q)], [])
 |_,_=>none
theorem Jm{B:ah}(hB:aC B):Valid B Tryz.prog 55 rW:=by
 refine ab (Ck hB).tab Tryz.func55 rfl rfl rfl ?_;intro args os C rs os' hc hC;unfold rW at hc;split at hc;case h_2=>cases hc
 rename_i p q g fs cs;cases hc;refine v_h (Ck hB) fun X hP hT hr hG=> ?_;have hU:=rV.eq_1;unfold rV at hT;have hX:=ai @fL.eq_1<|ai @oc.eq_1<| @eA.eq_1;simp only[Tryz.f55,aD,an,ioB];obtain⟨⟨rfl,e1,e2⟩,hp,hq,hD⟩:=hC;obtain rfl:=Array.eq_empty_of_size_eq_zero e1;obtain rfl:=Array.eq_empty_of_size_eq_zero e2;refine s_g hG ?_;refine s_q hG ?_ ?_
 ·try simp only[ba]
  exact(gV hp hq).2
 refine al ?_;refine s_g hG ?_;refine ar ?_ ?_
 ·intro hb0;try simp only[bt] at hb0
  refine s_g hG ?_;refine az ?_;refine aB ?_;refine q_e [] ?_;exact iU hb0
 ·intro hb0;try simp only[bf] at hb0
  have n0:=js hb0;have n1:=jt hb0;have nl:=gU hb0;have hE:=hD hb0;refine au ?_;refine aj ?_;refine s_d hG ?_ ?_
  ·(try simp only[ba]);simp only[NT] at n0 n1;simp only[n0,n1,nl,aK];exact⟨by decide,by decide,hE.1,hE.2.1,by rw[aE];exact hE.2.2⟩
  refine az ?_;refine q_e [] ?_;simp only[NT] at n0 n1;simp only[n0,n1,aK];exact kv (f:=kO) hb0
def rX(B:ah):Tab:={types:= [(22,(.slice .str))],elems:= [],cons:= [(54,pz)],hint:= [],N:=11,base:=B}
theorem Cl{B:ah}(hB:aC B):aJ Tryz.prog (rX B):=⟨⟨tc gG (ae),af,by simp only[rX,ioB];omega⟩,aF (cc Tryz.func54 (xy hB) (aw)),by kernel_rfl⟩
def mA:Con:=fun l os=>match l,os with
 | [.z (.slice .str) p], []=>some (dm p, [.z (.int .i64) (cV p)], [])
 |_,_=>none
theorem xz{B:ah}(hB:aC B):Valid B Tryz.prog 14 mA:=by
 refine ab (Cl hB).tab Tryz.func14 rfl rfl rfl ?_;intro args os C rs os' hc hC;unfold mA at hc;split at hc;case h_2=>cases hc
 rename_i p;cases hc;refine v_h (Cl hB) fun X hP hT hr hG=> ?_;have hU:=rX.eq_1;unfold rX at hT;have hX:= @pz.eq_1;simp only[Tryz.f14,aD,an,ioB];refine s_g hG ?_;refine s_q hG ?_ ?_
 ·try simp only[ba]
  exact hC
 refine s_g hG ?_;refine az ?_;refine q_e [] ?_;trivial
def rY(B:ah):Tab:={types:= [(22,(.slice .str))],elems:= [],cons:= [(55,rK)],hint:= [],N:=11,base:=B}
theorem Cn{B:ah}(hB:aC B):aJ Tryz.prog (rY B):=⟨⟨tc gG (ae),af,by simp only[rY,ioB];omega⟩,aF (cc Tryz.func55 (Jg hB) (aw)),by kernel_rfl⟩
def G1:Con:=fun l os=>match l,os with
 | [.z (.slice .str) p, .z (.slice .str) q], []=>some (bS (fun p q=>Sz QH p/\Sz QH q/\p.length<=1000/\q.length<=1000) (bl (· + ·)) p q, [.z (.slice .str) (c6 (bl (· + ·)) p q), .z (.int .i64) (cZ (bl (· + ·)) p q)], [])
 |_,_=>none
theorem Jn{B:ah}(hB:aC B):Valid B Tryz.prog 15 G1:=by
 refine ab (Cn hB).tab Tryz.func15 rfl rfl rfl ?_;intro args os C rs os' hc hC;unfold G1 at hc;split at hc;case h_2=>cases hc
 rename_i p q;cases hc;refine v_h (Cn hB) fun X hP hT hr hG=> ?_;have hU:=rY.eq_1;unfold rY at hT;have hX:= @rK.eq_1;simp only[Tryz.f15,aD,an,ioB];refine s_g hG ?_;refine s_q hG ?_ ?_
 ·try simp only[ba]
  exact hC
 refine az ?_;refine q_e [] ?_;trivial
def rZ(B:ah):Tab:={types:= [(22,(.slice .str))],elems:= [],cons:= [(55,rM)],hint:= [],N:=11,base:=B}
theorem Co{B:ah}(hB:aC B):aJ Tryz.prog (rZ B):=⟨⟨tc gG (ae),af,by simp only[rZ,ioB];omega⟩,aF (cc Tryz.func55 (Jh hB) (aw)),by kernel_rfl⟩
def G2:Con:=fun l os=>match l,os with
 | [.z (.slice .str) p, .z (.slice .str) q], []=>some (bS (fun p q=>Sz QH p/\Sz QH q/\p.length<=1000/\q.length<=1000) (bl (· - ·)) p q, [.z (.slice .str) (c6 (bl (· - ·)) p q), .z (.int .i64) (cZ (bl (· - ·)) p q)], [])
 |_,_=>none
theorem Jo{B:ah}(hB:aC B):Valid B Tryz.prog 16 G2:=by
 refine ab (Co hB).tab Tryz.func16 rfl rfl rfl ?_;intro args os C rs os' hc hC;unfold G2 at hc;split at hc;case h_2=>cases hc
 rename_i p q;cases hc;refine v_h (Co hB) fun X hP hT hr hG=> ?_;have hU:=rZ.eq_1;unfold rZ at hT;have hX:= @rM.eq_1;simp only[Tryz.f16,aD,an,ioB];refine s_g hG ?_;refine s_q hG ?_ ?_
 ·try simp only[ba]
  exact hC
 refine az ?_;refine q_e [] ?_;trivial
def r0(B:ah):Tab:={types:= [(22,(.slice .str))],elems:= [],cons:= [(55,rO)],hint:= [],N:=11,base:=B}
theorem Cp{B:ah}(hB:aC B):aJ Tryz.prog (r0 B):=⟨⟨tc gG (ae),af,by simp only[r0,ioB];omega⟩,aF (cc Tryz.func55 (Ji hB) (aw)),by kernel_rfl⟩
def xA:Con:=fun l os=>match l,os with
 | [.z (.slice .str) p, .z (.slice .str) q], []=>some (bS (fun p q=>Sz QM p/\Sz QM q/\p.length<=100/\q.length<=100) bh p q, [.z (.slice .str) (c6 bh p q), .z (.int .i64) (cZ bh p q)], [])
 |_,_=>none
theorem xB{B:ah}(hB:aC B):Valid B Tryz.prog 17 xA:=by
 refine ab (Cp hB).tab Tryz.func17 rfl rfl rfl ?_;intro args os C rs os' hc hC;unfold xA at hc;split at hc;case h_2=>cases hc
 rename_i p q;cases hc;refine v_h (Cp hB) fun X hP hT hr hG=> ?_;have hU:=r0.eq_1;unfold r0 at hT;have hX:= @rO.eq_1;simp only[Tryz.f17,aD,an,ioB];refine s_g hG ?_;refine s_q hG ?_ ?_
 ·try simp only[ba]
  exact hC
 refine az ?_;refine q_e [] ?_;trivial
def sc(B:ah):Tab:={types:= [(22,(.slice .str))],elems:= [],cons:= [(55,rQ)],hint:= [],N:=11,base:=B}
theorem Cq{B:ah}(hB:aC B):aJ Tryz.prog (sc B):=⟨⟨tc gG (ae),af,by simp only[sc,ioB];omega⟩,aF (cc Tryz.func55 (Jj hB) (aw)),by kernel_rfl⟩
def xC:Con:=fun l os=>match l,os with
 | [.z (.slice .str) p, .z (.slice .str) q], []=>some (bS (iS) bJ p q, [.z (.slice .str) (c6 bJ p q), .z (.int .i64) (cZ bJ p q)], [])
 |_,_=>none
theorem xD{B:ah}(hB:aC B):Valid B Tryz.prog 24 xC:=by
 refine ab (Cq hB).tab Tryz.func24 rfl rfl rfl ?_;intro args os C rs os' hc hC;unfold xC at hc;split at hc;case h_2=>cases hc
 rename_i p q;cases hc;refine v_h (Cq hB) fun X hP hT hr hG=> ?_;have hU:=sc.eq_1;unfold sc at hT;have hX:= @rQ.eq_1;simp only[Tryz.f24,aD,an,ioB];refine s_g hG ?_;refine s_q hG ?_ ?_
 ·try simp only[ba]
  exact hC
 refine az ?_;refine q_e [] ?_;trivial
def Ew:Con:=jy [some (.slice .str),some (.slice .str)] xC
theorem Ex{B:ah}(hB:aC B):Valid B Tryz.prog 24 Ew:=fF _ (xD hB)
def se(B:ah):Tab:={types:= [(22,(.slice .str))],elems:= [],cons:= [(55,vg)],hint:= [],N:=8,base:=B}
theorem Cr{B:ah}(hB:aC B):aJ Tryz.prog (se B):=⟨⟨tc gG (ae),af,by simp only[se,ioB];omega⟩,aF (cc Tryz.func55 (Eu hB) (aw)),by kernel_rfl⟩
def xE:Con:=fun l os=>match l,os with
 | [.z (.slice .str) p], []=>some (bS (fun p _=>Sz QH p/\p.length<=1000) (fun a _=>aZ a) p [], [.z (.slice .str) (c6 (fun a _=>aZ a) p []), .z (.int .i64) (cZ (fun a _=>aZ a) p [])], [])
 |_,_=>none
theorem xF{B:ah}(hB:aC B):Valid B Tryz.prog 29 xE:=by
 refine ab (Cr hB).tab Tryz.func29 rfl rfl rfl ?_;intro args os C rs os' hc hC;unfold xE at hc;split at hc;case h_2=>cases hc
 rename_i p;cases hc;refine v_h (Cr hB) fun X hP hT hr hG=> ?_;have hU:=se.eq_1;unfold se at hT;have hX:=ai @rS.eq_1<| @vg.eq_1;simp only[Tryz.f29,aD,an,ioB];refine s_g hG ?_;refine s_q hG ?_ ?_
 ·try simp only[ba]
  exact hC
 refine az ?_;refine q_e [] ?_;trivial
def sf(B:ah):Tab:={types:= [(22,(.slice .str))],elems:= [],cons:= [(55,vh)],hint:= [],N:=8,base:=B}
theorem Ct{B:ah}(hB:aC B):aJ Tryz.prog (sf B):=⟨⟨tc gG (ae),af,by simp only[sf,ioB];omega⟩,aF (cc Tryz.func55 (Ev hB) (aw)),by kernel_rfl⟩
def xG:Con:=fun l os=>match l,os with
 | [.z (.slice .str) p], []=>some (bS (fun p _=>kN p) (fun a _=>bC a) p [], [.z (.slice .str) (c6 (fun a _=>bC a) p []), .z (.int .i64) (cZ (fun a _=>bC a) p [])], [])
 |_,_=>none
theorem xH{B:ah}(hB:aC B):Valid B Tryz.prog 30 xG:=by
 refine ab (Ct hB).tab Tryz.func30 rfl rfl rfl ?_;intro args os C rs os' hc hC;unfold xG at hc;split at hc;case h_2=>cases hc
 rename_i p;cases hc;refine v_h (Ct hB) fun X hP hT hr hG=> ?_;have hU:=sf.eq_1;unfold sf at hT;have hX:=ai @rU.eq_1<| @vh.eq_1;simp only[Tryz.f30,aD,an,ioB];refine s_g hG ?_;refine s_q hG ?_ ?_
 ·try simp only[ba]
  exact hC
 refine az ?_;refine q_e [] ?_;trivial
def sg(B:ah):Tab:={types:= [(3,(.int .i64)),(31,(.int .i64)),(44,(.slice (.slice .str))),(79,(.slice (.st (.pair (.st (.pair .bool (.slice (.int .u32)))) (.st (.pair .bool (.slice (.int .u32)))))))),(98,(.slice (.slice (.st (.pair (.st (.pair .bool (.slice (.int .u32)))) (.st (.pair .bool (.slice (.int .u32)))))))))],elems:= [(44,22)],cons:= [(67,fL),(68,qf),(69,eA)],hint:= [],N:=53,base:=B}
theorem Cu{B:ah}(hB:aC B):aJ Tryz.prog (sg B):=⟨⟨tc ty3 (tc km (tc vw (tc gd (tc vx (ae))))),aT (by kernel_rfl) (af),by simp only[sg,ioB];omega⟩,aF (cc Tryz.func67 (fa hB) (cc Tryz.func68 (px hB) (cc Tryz.func69 (fM hB) (aw)))),by kernel_rfl⟩
def pA:Con:=fun l os=>match l,os with
 | [.z (.slice .str) p, .z (.slice .str) q], []=>some (uM p q, [.z (.slice .str) (dvS p q), .z (.slice .str) (dvR p q), .z (.int .i64) (dvE p q)], [])
 |_,_=>none
theorem xI{B:ah}(hB:aC B):Valid B Tryz.prog 23 pA:=by
 refine ab (Cu hB).tab Tryz.func23 rfl rfl rfl ?_;intro args os C rs os' hc hC;unfold pA at hc;split at hc;case h_2=>cases hc
 rename_i p q;cases hc;refine v_h (Cu hB) fun X hP hT hr hG=> ?_;have hU:=sg.eq_1;unfold sg at hT;have hX:=ai @fL.eq_1<|ai @qf.eq_1<| @eA.eq_1;simp only[Tryz.f23,aD,an,ioB];refine s_g hG ?_;refine s_q hG ?_ ?_
 ·try simp only[ba]
  exact(gV hC.sp hC.sq).2
 refine al ?_;refine s_g hG ?_;refine ar ?_ ?_
 ·intro hb0;try simp only[bt] at hb0
  refine s_g hG ?_;refine az ?_;refine aB ?_;refine q_e [] ?_;exact Ly hb0
 ·intro hb0;try simp only[bf] at hb0
  have n0:=js hb0;have n1:=jt hb0;have nl:=gU hb0;simp only[NT] at n0 n1;refine au ?_;refine aj ?_;refine al ?_;refine s_q hG ?_ ?_
  ·(try simp only[ba]);rw[nl];decide
  refine ar ?_ ?_;·intro hb1;(try simp only[bt] at hb1);simp only[n1] at hb1;(have hq:(aI (bm q)).length=0:=by have h9:((aI (bm q)).length:Int)=0:=hb1;omega);refine s_g hG ?_;refine az ?_;refine aB ?_;refine q_e [] ?_;exact Lz hb0 hq
  ·intro hb1;(try simp only[bf] at hb1);simp only[n1] at hb1;(have hq: ¬ (aI (bm q)).length=0:=by intro h8;exact hb1 (by show ((aI (bm q)).length:Int)=0;omega));have hne:=N2 hq;obtain⟨k1,k2,k3⟩:=hC.ok hb0 hne;refine au ?_;refine aj ?_;refine s_d hG ?_ ?_
   ·(try simp only[ba]);simp only[n0,n1,nl];exact⟨by decide,by decide,k1⟩
   refine s_q hG ?_ ?_
   ·(try simp only[ba]);simp only[n0,n1,aK];exact k2
   refine al ?_;refine s_g hG ?_;refine ar ?_ ?_;·intro hb2;(try simp only[bt] at hb2);refine s_g hG ?_;refine az ?_;refine aB ?_;refine q_e [] ?_;simp only[n0,n1,aK] at hb2 ⊢;exact N3 hb0 hne hb2
   ·intro hb2;(try simp only[bf] at hb2);refine au ?_;refine aj ?_;refine s_q hG ?_ ?_
    ·(try simp only[ba]);simp only[n0,n1,aK];exact k3
    (refine al ?_;refine s_g hG ?_;refine ar ?_ ?_;·intro hb3;(try simp only[bt] at hb3);refine s_g hG ?_;refine az ?_;refine aB ?_;refine q_e [] ?_;simp only[n0,n1,aK] at hb2 hb3 ⊢;exact N4 hb0 hne hb2 hb3);·intro hb3;(try simp only[bf] at hb3);refine au ?_;refine aj ?_;refine s_g hG ?_;refine az ?_;refine q_e [] ?_;simp only[n0,n1,aK] at hb2 hb3 ⊢;exact N5 hb0 hne hb2 hb3
def y8:Con:=jy [some (.slice .str),some (.slice .str)] pA
theorem Ey{B:ah}(hB:aC B):Valid B Tryz.prog 23 y8:=fF _ (xI hB)
def si(B:ah):Tab:={types:= [(3,(.int .i64)),(22,(.slice .str)),(31,(.int .i64))],elems:= [],cons:= [(14,mA),(55,rW)],hint:= [],N:=39,base:=B}
theorem Cv{B:ah}(hB:aC B):aJ Tryz.prog (si B):=⟨⟨tc ty3 (tc gG (tc km (ae))),af,by simp only[si,ioB];omega⟩,aF (cc Tryz.func14 (xz hB) (cc Tryz.func55 (Jm hB) (aw))),by kernel_rfl⟩
def y9:Con:=fun l os=>match l,os with
 | [.z (.slice .str) p, .z (.slice .str) q], []=>some (yq p q, [.z (.slice .str) (wF p q), .z (.int .i64) (wE p q)], [])
 |_,_=>none
theorem Jp{B:ah}(hB:aC B):Valid B Tryz.prog 31 y9:=by
 refine ab (Cv hB).tab Tryz.func31 rfl rfl rfl ?_;intro args os C rs os' hc hC;unfold y9 at hc;split at hc;case h_2=>cases hc
 rename_i p q;cases hc;refine v_h (Cv hB) fun X hP hT hr hG=> ?_;have hU:=si.eq_1;unfold si at hT;have hX:=ai @rW.eq_1<| @mA.eq_1;simp only[Tryz.f31,aD,an,ioB];refine s_g hG ?_;refine al ?_;refine s_q hG ?_ ?_
 ·try simp only[ba]
  exact⟨hC.sp,fun h=>⟨h,hC.sq⟩,id,id,id,id,id,id,id,id,id⟩
 refine ar ?_ ?_;·intro hb0;have hL:=of_decide_eq_true (LC hb0);refine s_g hG ?_;refine az ?_;refine aB ?_;refine q_e [] ?_;exact PR hL
 ·intro hb0;have hL:=of_decide_eq_false (LC hb0);refine au ?_;refine aj ?_;refine s_q hG ?_ ?_
  ·(try simp only[ba]);exact hC.ok hL
  refine az ?_;refine q_e [] ?_;exact PS hL
def za:Con:=jy [some (.slice .str),some (.slice .str)] y9
theorem Ez{B:ah}(hB:aC B):Valid B Tryz.prog 31 za:=fF _ (Jp hB)
def sj(B:ah):Tab:={types:= [(22,(.slice .str)),(31,(.int .i64)),(44,(.slice (.slice .str))),(46, .str),(78,(.slice (.st (.pair (.st (.pair .bool (.slice (.int .u32)))) (.st (.pair .bool (.slice (.int .u32)))))))),(79,(.slice (.st (.pair (.st (.pair .bool (.slice (.int .u32)))) (.st (.pair .bool (.slice (.int .u32)))))))),(91,(.st (.pair (.st (.pair .bool (.slice (.int .u32)))) (.st (.pair .bool (.slice (.int .u32))))))),(98,(.slice (.slice (.st (.pair (.st (.pair .bool (.slice (.int .u32)))) (.st (.pair .bool (.slice (.int .u32)))))))))],elems:= [(44,22),(78,91)],cons:= [(67,fL),(87,mw),(88,pj),(89,GV),(90,qe)],hint:= [],N:=41,base:=B}
theorem Cw{B:ah}(hB:aC B):aJ Tryz.prog (sj B):=⟨⟨tc gG (tc km (tc vw (tc mE (tc NA (tc gd (tc ty91 (tc vx (ae)))))))),aT (by kernel_rfl) (aT (by kernel_rfl) (af)),by simp only[sj,ioB];omega⟩,aF (cc Tryz.func67 (fa hB) (cc Tryz.func87 (xm hB) (cc Tryz.func88 (xn hB) (cc Tryz.func89 (I6 hB) (cc Tryz.func90 (ph hB) (aw)))))),by kernel_rfl⟩
def pB:Con:=fun l os=>match l,os with
 | [.z (.slice .str) p, .z .str x], []=>some (p9 p x, [.z .str (evS p x), .z (.int .i64) (evE p x)], [])
 |_,_=>none
theorem xJ{B:ah}(hB:aC B):Valid B Tryz.prog 36 pB:=by
 refine ab (Cw hB).tab Tryz.func36 rfl rfl rfl ?_;intro args os C rs os' hc hC;unfold pB at hc;split at hc;case h_2=>cases hc
 rename_i p x;cases hc;refine v_h (Cw hB) fun X hP hT hr hG=> ?_;have hU:=sj.eq_1;unfold sj at hT;have hX:=ai @fL.eq_1<|ai @mw.eq_1<|ai @GV.eq_1<|ai @qe.eq_1<| @pj.eq_1;simp only[Tryz.f36,aD,an,ioB];refine s_g hG ?_;refine s_q hG ?_ ?_
 ·try simp only[ba]
  exact(LF hC).2
 refine al ?_;refine s_g hG ?_;refine ar ?_ ?_
 ·intro hb0;try simp only[bt] at hb0
  refine s_g hG ?_;refine az ?_;refine aB ?_;refine q_e [] ?_;exact PU hb0
 ·intro hb0;try simp only[bf] at hb0
  have n0:=QF hb0;have nl:=PT hb0;simp only[NT] at n0;refine au ?_;refine aj ?_;refine al ?_;refine s_q hG ?_ ?_
  ·(try simp only[ba]);exact hC.sx
  refine s_g hG ?_;refine ar ?_ ?_;·intro hb1;(try simp only[bt] at hb1);refine s_g hG ?_;refine az ?_;refine aB ?_;refine q_e [] ?_;exact N6 hb0 hb1
  ·intro hb1;(try simp only[bf] at hb1);(have h9:dA x=0:=by simpa using hb1);obtain⟨k1,k2,k3,k4⟩:=hC.ok hb0 h9;obtain⟨c1,c2⟩:=oR h9 hC.sx;refine au ?_;refine aj ?_;refine s_d hG ?_ ?_
   ·(try simp only[ba]);simp only[n0,nl,c2,aK,aL];exact LG c1 k1 k2 k3 k4
   refine al ?_;refine s_g hG ?_;refine ar ?_ ?_;·intro hb2;(try simp only[bt] at hb2);refine s_g hG ?_;refine az ?_;refine aB ?_;refine q_e [] ?_;simp only[n0,c2,aK,aL,AO] at hb2;exact PV hb0 h9 (by simpa using hb2)
   ·intro hb2;(try simp only[bf] at hb2);refine au ?_;refine aj ?_;refine s_q hG ?_ ?_
    ·(try simp only[ba]);simp only[n0,c2,aK,aL] at hb2 ⊢;exact Ij (by simpa using hb2) _
    refine az ?_;refine q_e [] ?_;simp only[n0,c2,aK,aL,AO] at hb2 ⊢;exact N8 hb0 h9 (by simpa using hb2)
def zb:Con:=jy [some (.slice .str),none] pB
theorem EA{B:ah}(hB:aC B):Valid B Tryz.prog 36 zb:=fF _ (xJ hB)
def sl(B:ah):Tab:={types:= [],elems:= [],cons:= [],hint:= [],N:=4,base:=B}
theorem Cy{B:ah}(hB:aC B):aJ Tryz.prog (sl B):=⟨⟨ae,af,by simp only[sl,ioB];omega⟩,bU rfl,by kernel_rfl⟩
def O1:Con:=fun l os=>match l,os with
 | [.z (.slice .str) p], []=>some (True, [.z (.slice .str) p], [])
 |_,_=>none
theorem Jq{B:ah}(hB:aC B):Valid B Tryz.prog 45 O1:=by
 refine ab (Cy hB).tab Tryz.func45 rfl rfl rfl ?_;intro args os C rs os' hc hC;unfold O1 at hc;split at hc;case h_2=>cases hc
 rename_i p;cases hc;refine v_h (Cy hB) fun X hP hT hr hG=> ?_;have hU:=sl.eq_1;unfold sl at hT;have hX:=Bool.not_true;simp only[Tryz.f45,aD,an,ioB];refine s_g hG ?_;refine s_g hG ?_;refine az ?_;refine q_e [] ?_;trivial
def sn(B:ah):Tab:={types:= [(22,(.slice .str)),(31,(.int .i64))],elems:= [],cons:= [(28,o6)],hint:= [],N:=13,base:=B}
theorem Cz{B:ah}(hB:aC B):aJ Tryz.prog (sn B):=⟨⟨tc gG (tc km (ae)),af,by simp only[sn,ioB];omega⟩,aF (cc Tryz.func28 (xb hB) (aw)),by kernel_rfl⟩
def Jr:Con:=fun l os=>match l,os with
 | [.z (.slice .str) p, .z (.int .i64) e, .z (.ptr (.slice .str)) q], []=>some (p.length<=QL/\q.length<=QL, [.z .bool (decide (e=0/\p=q))], [])
 |_,_=>none
theorem xK{B:ah}(hB:aC B):Valid B Tryz.prog 94 Jr:=by
 refine ab (Cz hB).tab Tryz.func94 rfl rfl rfl ?_;intro args os C rs os' hc hC;unfold Jr at hc;split at hc;case h_2=>cases hc
 rename_i p e q;cases hc;refine v_h (Cz hB) fun X hP hT hr hG=> ?_;have hU:=sn.eq_1;unfold sn at hT;have hX:= @o6.eq_1;simp only[Tryz.f94,aD,an,ioB];refine s_g hG ?_;refine s_q hG ?_ ?_
 ·try simp only[ba]
  exact⟨fun h=>⟨h,hC⟩,id⟩
 refine az ?_;refine q_e [] ?_;exact Qc _ _ _
def so(B:ah):Tab:={types:= [(22,(.slice .str))],elems:= [],cons:= [],hint:= [],N:=4,base:=B}
theorem CA{B:ah}(hB:aC B):aJ Tryz.prog (so B):=⟨⟨tc gG (ae),af,by simp only[so,ioB];omega⟩,bU rfl,by kernel_rfl⟩
def Js:Con:=fun l os=>match l,os with
 | [.z (.slice .str) p], []=>some (True, [.fn 94 [.z (.ptr (.slice .str)) p]], [])
 |_,_=>none
theorem xL{B:ah}(hB:aC B):Valid B Tryz.prog 41 Js:=by
 refine ab (CA hB).tab Tryz.func41 rfl rfl rfl ?_;intro args os C rs os' hc hC;unfold Js at hc;split at hc;case h_2=>cases hc
 rename_i p;cases hc;refine v_h (CA hB) fun X hP hT hr hG=> ?_;have hU:=so.eq_1;unfold so at hT;have hX:=Bool.not_true;simp only[Tryz.f41,aD,an,ioB];refine s_g hG ?_;refine s_g hG ?_;refine az ?_;refine q_e [] ?_;rfl
def MZ:Con:=jy [some (.slice .str)] Js
theorem EB{B:ah}(hB:aC B):Valid B Tryz.prog 41 MZ:=fF _ (xL hB)
def sr(B:ah):Tab:={types:= [(22,(.slice .str)),(31,(.int .i64)),(46, .str)],elems:= [],cons:= [(36,pB)],hint:= [],N:=17,base:=B}
theorem CB{B:ah}(hB:aC B):aJ Tryz.prog (sr B):=⟨⟨tc gG (tc km (tc mE (ae))),af,by simp only[sr,ioB];omega⟩,aF (cc Tryz.func36 (xJ hB) (aw)),by kernel_rfl⟩
def ss:Con:=fun l os=>match l,os with
 | [.z (.slice .str) p, .z .str x], []=>some (p9 p x, [.z .str (evS p x), .z .bool (decide (evE p x=0))], [])
 |_,_=>none
theorem Jt{B:ah}(hB:aC B):Valid B Tryz.prog 48 ss:=by
 refine ab (CB hB).tab Tryz.func48 rfl rfl rfl ?_;intro args os C rs os' hc hC;unfold ss at hc;split at hc;case h_2=>cases hc
 rename_i p x;cases hc;refine v_h (CB hB) fun X hP hT hr hG=> ?_;have hU:=sr.eq_1;unfold sr at hT;have hX:= @pB.eq_1;simp only[Tryz.f48,aD,an,ioB];refine s_g hG ?_;refine s_q hG ?_ ?_
 ·try simp only[ba]
  exact hC
 refine s_g hG ?_;refine az ?_;refine q_e [] ?_;exact Qb _ _
def su(B:ah):Tab:={types:= [(3,(.int .i64)),(22,(.slice .str)),(31,(.int .i64))],elems:= [],cons:= [(23,pA)],hint:= [],N:=22,base:=B}
theorem CC{B:ah}(hB:aC B):aJ Tryz.prog (su B):=⟨⟨tc ty3 (tc gG (tc km (ae))),af,by simp only[su,ioB];omega⟩,aF (cc Tryz.func23 (xI hB) (aw)),by kernel_rfl⟩
def mB:Con:=fun l os=>match l,os with
 | [.z (.slice .str) q, .z (.slice .str) p], []=>some (uM p q, [.z .bool (decide (dvE p q=0/\dvR p q= []))], [])
 |_,_=>none
theorem Ju{B:ah}(hB:aC B):Valid B Tryz.prog 42 mB:=by
 refine ab (CC hB).tab Tryz.func42 rfl rfl rfl ?_;intro args os C rs os' hc hC;unfold mB at hc;split at hc;case h_2=>cases hc
 rename_i q p;cases hc;refine v_h (CC hB) fun X hP hT hr hG=> ?_;have hU:=su.eq_1;unfold su at hT;have hX:= @pA.eq_1;simp only[Tryz.f42,aD,an,ioB];refine s_g hG ?_;refine s_q hG ?_ ?_
 ·try simp only[ba]
  exact hC
 refine s_q hG ?_ ?_
 ·try simp only[ba]
  exact id
 refine az ?_;refine q_e [] ?_;exact Ba _ _
end Go.Proofs.YtdojbabpnaifoaaGreatDoor
end