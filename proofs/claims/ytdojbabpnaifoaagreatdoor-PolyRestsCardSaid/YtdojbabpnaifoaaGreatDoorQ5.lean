/- Merged by a program out of several texts. -/
import Derived.Test.YtdojbabpnaifoaaGreatDoorQ3
import Derived.Test.YtdojbabpnaifoaaGreatDoorQ4
import Derived.Test.YtdojbabpnaifoaaGreatDoorProg
import Derived.Test.YtdojbabpnaifoaaGreatDoorQ2
import Derived.Deep.LoopGhost
import Derived.Lib.Walk
import Derived.Lib.SliceRun
import Derived.KernelRfl
set_option linter.all false
set_option linter.unusedSimpArgs false
set_option linter.unusedVariables false
set_option maxRecDepth 100000
section
namespace Go.Proofs.YtdojbabpnaifoaaGreatDoor
open Go Go.Cm Go.Proofs
def Dk (B:aj):Tab:={types:= [(3,(.int .i64)),(9, .str),(87,(.slice (.int .u32))),(89,(.st (.pair .bool (.slice (.int .u32))))),(161,(.int .u32))],elems:= [],cons:= [(166,sP)],hint:= [],N:=22,base:=B}
theorem Jr {B:aj} (hB:aA B):aF Tryz.prog (Dk B):=⟨⟨tc ty3 (tc ty9 (tc gG (tc fZ (tc fl (ae))))),af,by simp only [Dk,ioB];omega⟩,aD (cc Tryz.func166 (BO hB) (aw)),by kernel_rfl⟩
def ou:Con:=fun l os=>match l,os with
 | [.z (.st (.pair .bool (.slice (.int .u32)))) x], []=>some (WOK x∧x.2.length<CAP, [.z (.int .i64) (dP (dec x))], [])
 |_,_=>none
theorem Le {B:aj} (hB:aA B):Valid B Tryz.prog 169 ou:=by
 refine ab (Jr hB).tab Tryz.func169 rfl rfl rfl ?_
 intro args os C rs os' hc hC
 unfold ou at hc
 split at hc
 case h_2=>cases hc
 rename_i x
 cases hc
 refine v_h (Jr hB) fun X hP hT hr hG=> ?_
 have hU:=Dk.eq_1
 unfold Dk at hT
 have hX:= @sP.eq_1
 simp only [Tryz.f169,aB,al,ioB]
 refine s_g hG ?_
 refine s_g hG ?_
 refine ak ?_
 refine s_g hG ?_
 refine ao ?_ ?_
 ·intro hb0
  try simp only [bt] at hb0
  refine s_g hG ?_
  refine ax ?_
  refine ay ?_
  refine q_e [] ?_
  rw [(fd hC.1).1.1 hb0,sR]
 ·intro hb0
  try simp only [bf] at hb0
  refine ap ?_
  refine ah ?_
  refine s_q hG ?_ ?_
  ·try simp only [ba]
   obtain ⟨d1,d2,d3,d4⟩:=wY hC.1 hC.2 hb0
   have d5:=wX hC.1.1.1 (by omega)
   have hB:LB=1000000000:=rfl
   rw [d2,d3]
   exact ⟨d1,by unfold I64;omega⟩
  refine ax ?_
  refine q_e [] ?_
  obtain ⟨d1,d2,d3,d4⟩:=wY hC.1 hC.2 hb0
  rw [d2,d3]
  exact d4
def Dl (B:aj):Tab:={types:= [(3,(.int .i64)),(87,(.slice (.int .u32))),(89,(.st (.pair .bool (.slice (.int .u32))))),(161,(.int .u32)),(164,(.int .u64))],elems:= [(87,161)],cons:= [],hint:= [],N:=27,base:=B}
theorem Js {B:aj} (hB:aA B):aF Tryz.prog (Dl B):=⟨⟨tc ty3 (tc gG (tc fZ (tc fl (tc mb (ae))))),aQ (by kernel_rfl) (af),by simp only [Dl,ioB];omega⟩,bG rfl,by kernel_rfl⟩
def ir:Con:=fun l os=>match l,os with
 | [.z (.int .i64) n], []=>some (I64 n, [.z (.st (.pair .bool (.slice (.int .u32)))) (enc n)], [])
 |_,_=>none
theorem ov {B:aj} (hB:aA B):Valid B Tryz.prog 133 ir:=by
 refine ab (Js hB).tab Tryz.func133 rfl rfl rfl ?_
 intro args os C rs os' hc hC
 unfold ir at hc
 split at hc
 case h_2=>cases hc
 rename_i n
 cases hc
 refine v_h (Js hB) fun X hP hT hr hG=> ?_
 have hU:=Dl.eq_1
 unfold Dl at hT
 have hX:=Bool.not_true
 simp only [Tryz.f133,aB,al,ioB]
 refine s_g hG ?_
 refine s_g hG ?_
 refine s_g hG ?_
 refine cd (fun (z:Int)=>(⟨[(4, .l (.z (.int .u64) z)),(3, .l (.ownP 3 0)),(2, .l (.ownP 2 0))], [(3, .box 89 [.z .bool (decide (n<0)), .val (.slice none 0 0)]),(2, .box 89 [.z .bool false, .val (.slice none 0 0)])]⟩:aa)) (fun z=>z=n.natAbs) ?_ ?_
 ·refine s_g hG ?_
  refine ao ?_ ?_
  ·intro hb0
   try simp only [bt] at hb0
   refine ag hG ?_ ?_
   ·first|trivial|omega|(simp;done)|(simp;omega)
   show ∃ z,_
   refine q_l ?_
   first|exact (kl hC).1 hb0|exact (kl hC).2 hb0
  ·intro hb0
   try simp only [bf] at hb0
   refine ap ?_
   show ∃ z,_
   refine q_l ?_
   first|exact (kl hC).1 hb0|exact (kl hC).2 hb0
 rintro z hz
 try dsimp only at hz
 refine ak ?_
 refine aq ?_
 refine bn (fun (z:Nat×List Int)=>(⟨[(4, .l (.z (.int .u64) (z.1:Int))),(3, .l (.ownP 3 0)),(2, .l (.ownP 2 0))], [(3, .box 89 [.z .bool (decide (n<0)), .ownS 24]),(24, .arr (.int .u32) 161 z.2),(2, .box 89 [.z .bool false, .val (.slice none 0 0)])]⟩:aa)) (fun z=>z.2++limbs z.1=limbs n.natAbs∧z.1<18446744073709551616) (fun z=>z.1) (n.natAbs, []) ?_ ?_ ?_
 ·refine q_l ?_
  exact ⟨hz,by unfold ioB;omega⟩
 ·exact ⟨by simp,by have hC:I64 n:=hC;unfold I64 at hC;omega⟩
 ·rintro ⟨u,m⟩ ⟨g1,g2⟩
  try dsimp only at g1 g2
  refine ak ?_
  refine s_g hG ?_
  refine ao ?_ ?_
  ·intro hb1
   try simp only [bt] at hb1
   refine ap ?_
   refine ah ?_
   refine ak ?_
   refine aq ?_
   refine ag hG ?_ ?_
   ·try simp only [ba]
    have h3:=lf (n:=n.natAbs) (by have hC:I64 n:=hC;unfold I64 at hC;omega)
    have h4:=congrArg List.length g1
    simp only [List.length_append] at h4
    exact ⟨by omega,by unfold Cm.Roomy;omega⟩
   refine aN ?_
   refine ah ?_
   refine ag hG ?_ ?_
   ·first|trivial|omega|(simp;done)|(simp;omega)
   show ∃ z,_
   refine q_l ?_
   exact nD g1 g2 hb1
  ·intro hb1
   try simp only [bf] at hb1
   refine bc ?_
   refine aC ?_
   refine av ?_
   refine au ?_
   refine ah ?_
   refine s_g hG ?_
   refine ax ?_
   refine q_e [24] ?_
   have h0:u=0:=by omega
   subst h0
   rw [show limbs 0= [] by simp [limbs],List.append_nil] at g1
   rw [g1];rfl
end Go.Proofs.YtdojbabpnaifoaaGreatDoor
end
section
namespace Go.Proofs.YtdojbabpnaifoaaGreatDoor
open Go Go.Cm Go.Proofs
def vI (B:aj):Tab:={types:= [(4, .bool),(9, .str),(181,(.slice (.int .i64)))],elems:= [],cons:= [(156,f5),(157,cI),(158,eA)],hint:= [],N:=9,base:=B}
theorem Dm {B:aj} (hB:aA B):aF Tryz.prog (vI B):=⟨⟨tc ty4 (tc ty9 (tc iI (ae))),af,by simp only [vI,ioB];omega⟩,aD (cc Tryz.func156 (j0 hB) (cc Tryz.func157 (jZ hB) (cc Tryz.func158 (j6 hB) (aw)))),by kernel_rfl⟩
def tV:Con:=fun l os=>match l,os with
 | [.z .str s], []=>some (RF s∧4*s.length<CAP, [.z .str (Lib.itoa (-an s))], [])
 |_,_=>none
theorem yf {B:aj} (hB:aA B):Valid B Tryz.prog 163 tV:=by
 refine ab (Dm hB).tab Tryz.func163 rfl rfl rfl ?_
 intro args os C rs os' hc hC
 unfold tV at hc
 split at hc
 case h_2=>cases hc
 rename_i s
 cases hc
 refine v_h (Dm hB) fun X hP hT hr hG=> ?_
 have hU:=vI.eq_1
 unfold vI at hT
 have hX:=ai @cI.eq_1<|ai @f5.eq_1<| @eA.eq_1
 simp only [Tryz.f163,aB,al,ioB]
 refine s_g hG ?_
 refine s_q hG ?_ ?_
 ·try simp only [ba]
  have h1:=xk hC.1
  have h2:=hC.2
  exact ⟨hC.1,⟨hC.1,by omega⟩,D.limbs_can _,by omega⟩
 refine ax ?_
 refine q_e [] ?_
 exact Kb _
def vJ (B:aj):Tab:={types:= [(9, .str)],elems:= [],cons:= [(157,cI)],hint:= [],N:=7,base:=B}
theorem Dn {B:aj} (hB:aA B):aF Tryz.prog (vJ B):=⟨⟨tc ty9 (ae),af,by simp only [vJ,ioB];omega⟩,aD (cc Tryz.func157 (jZ hB) (aw)),by kernel_rfl⟩
def vK:Con:=fun l os=>match l,os with
 | [.z .str s], []=>some (RF s, [.z (.int .i64) (bo (an s) 0)], [])
 |_,_=>none
theorem Jt {B:aj} (hB:aA B):Valid B Tryz.prog 162 vK:=by
 refine ab (Dn hB).tab Tryz.func162 rfl rfl rfl ?_
 intro args os C rs os' hc hC
 unfold vK at hc
 split at hc
 case h_2=>cases hc
 rename_i s
 cases hc
 refine v_h (Dn hB) fun X hP hT hr hG=> ?_
 have hU:=vJ.eq_1
 unfold vJ at hT
 have hX:= @cI.eq_1
 simp only [Tryz.f162,aB,al,ioB]
 refine s_g hG ?_
 refine ak ?_
 refine s_g hG ?_
 refine ao ?_ ?_
 ·intro hb0
  try simp only [bt] at hb0
  refine s_g hG ?_
  refine ax ?_
  refine ay ?_
  refine q_e [] ?_
  exact (rh hC).1 hb0
 ·intro hb0
  try simp only [bf] at hb0
  refine ap ?_
  refine ah ?_
  refine ak ?_
  refine s_q hG ?_ ?_
  ·try simp only [ba]
   exact hC
  refine ao ?_ ?_
  ·intro hb1
   try simp only [bt] at hb1
   refine s_g hG ?_
   refine ax ?_
   refine ay ?_
   refine q_e [] ?_
   exact (rh hC).2.1 hb0 hb1
  ·intro hb1
   try simp only [bf] at hb1
   refine ap ?_
   refine ah ?_
   refine s_g hG ?_
   refine ax ?_
   refine q_e [] ?_
   exact (rh hC).2.2 hb0 hb1
def vL (B:aj):Tab:={types:= [(3,(.int .i64)),(9, .str)],elems:= [],cons:= [(182,CQ)],hint:= [],N:=31,base:=B}
theorem Do {B:aj} (hB:aA B):aF Tryz.prog (vL B):=⟨⟨tc ty3 (tc ty9 (ae)),af,by simp only [vL,ioB];omega⟩,aD (cc Tryz.func182 (I7 hB) (aw)),by kernel_rfl⟩
def eu:Con:=fun l os=>match l,os with
 | [.z .str a, .z .str b], []=>some (RF a∧RF b∧a.length<CAP∧b.length<CAP, [.z (.int .i64) (if a.length≤9∧b.length≤9 then an a else 0), .z (.int .i64) (if a.length≤9∧b.length≤9 then an b else 0), .z .bool (decide (a.length≤9∧b.length≤9))], [])
 |_,_=>none
theorem mm {B:aj} (hB:aA B):Valid B Tryz.prog 155 eu:=by
 refine ab (Do hB).tab Tryz.func155 rfl rfl rfl ?_
 intro args os C rs os' hc hC
 unfold eu at hc
 split at hc
 case h_2=>cases hc
 rename_i a b
 cases hc
 refine v_h (Do hB) fun X hP hT hr hG=> ?_
 have hU:=vL.eq_1
 unfold vL at hT
 have hX:= @CQ.eq_1
 simp only [Tryz.f155,aB,al,ioB]
 refine s_g hG ?_
 refine ak ?_
 refine s_q hG ?_ ?_
 ·try simp only [ba]
  (repeat' (first|apply And.intro|intro _))<;>(try simp only [decide_eq_true_eq,decide_eq_false_iff_not,Bool.not_eq_true',beq_iff_eq,Int.toNat_natCast] at*)<;>first|assumption|omega|trivial|(simp_all;done)|(simp_all;omega)
 refine ao ?_ ?_
 ·intro hb0
  simp only [Bool.or_eq_true,decide_eq_true_eq] at hb0
  have hl: ¬ (List.length a≤9∧List.length b≤9):=by omega
  refine s_g hG ?_
  refine ax ?_
  refine ay ?_
  refine q_e [] ?_
  rw [if_neg hl,if_neg hl,decide_eq_false hl];exact ⟨rfl,rfl,rfl⟩
 ·intro hb0
  simp only [Bool.or_eq_false_iff,decide_eq_false_iff_not] at hb0
  have hl:List.length a≤9∧List.length b≤9:=by omega
  refine ap ?_
  refine ah ?_
  refine s_q hG ?_ ?_
  ·try simp only [ba]
   exact ⟨xl hC.1 hl.1,hl.1⟩
  refine s_q hG ?_ ?_
  ·try simp only [ba]
   exact ⟨xl hC.2.1 hl.2,hl.2⟩
  refine s_g hG ?_
  refine ax ?_
  refine q_e [] ?_
  rw [if_pos hl,if_pos hl,decide_eq_true hl];exact ⟨rfl,rfl,rfl⟩
def vM (B:aj):Tab:={types:= [(3,(.int .i64))],elems:= [],cons:= [(166,sP)],hint:= [],N:=5,base:=B}
theorem Dp {B:aj} (hB:aA B):aF Tryz.prog (vM B):=⟨⟨tc ty3 (ae),af,by simp only [vM,ioB];omega⟩,aD (cc Tryz.func166 (BO hB) (aw)),by kernel_rfl⟩
def nZ:Con:=fun l os=>match l,os with
 | [.z (.int .i64) n], []=>some (I64 n, [.z .str (Lib.itoa n)], [])
 |_,_=>none
theorem j7 {B:aj} (hB:aA B):Valid B Tryz.prog 126 nZ:=by
 refine ab (Dp hB).tab Tryz.func126 rfl rfl rfl ?_
 intro args os C rs os' hc hC
 unfold nZ at hc
 split at hc
 case h_2=>cases hc
 rename_i n
 cases hc
 refine v_h (Dp hB) fun X hP hT hr hG=> ?_
 have hU:=vM.eq_1
 unfold vM at hT
 have hX:= @sP.eq_1
 simp only [Tryz.f126,aB,al,ioB]
 refine s_g hG ?_
 refine s_q hG ?_ ?_
 ·try simp only [ba]
  exact hC
 refine ax ?_
 refine q_e [] ?_
 trivial
end Go.Proofs.YtdojbabpnaifoaaGreatDoor
end
section
namespace Go.Proofs.YtdojbabpnaifoaaGreatDoor
open Go Go.Cm Go.Proofs
def r0 (B:aj):Tab:={types:= [(3,(.int .i64)),(181,(.slice (.int .i64)))],elems:= [(181,3)],cons:= [(160,gy),(161,kv),(164,kw),(183,kS)],hint:= [23,31,50],N:=125,base:=B}
theorem Dq {B:aj} (hB:aA B):aF Tryz.prog (r0 B):=⟨⟨tc ty3 (tc iI (ae)),aQ (by kernel_rfl) (af),by simp only [r0,ioB];omega⟩,aD (cc Tryz.func160 (x9 hB) (cc Tryz.func161 (ya hB) (cc Tryz.func164 (yb hB) (cc Tryz.func183 (ml hB) (aw))))),by kernel_rfl⟩
def iK:Con:=fun l os=>match l,os with
 | [.z (.slice (.int .i64)) a, .z (.slice (.int .i64)) b], []=>some (D.Cano a∧D.Cano b∧b≠ []∧a.length+b.length+2<CAP, [.z (.slice (.int .i64)) (D.limbs (D.valL a/D.valL b).toNat), .z (.slice (.int .i64)) (D.limbs (D.valL a%D.valL b).toNat)], [])
 |_,_=>none
set_option maxHeartbeats 1000000 in
theorem yg {B:aj} (hB:aA B):Valid B Tryz.prog 165 iK:=by
 refine ab (Dq hB).tab Tryz.func165 rfl rfl rfl ?_
 intro args os C rs os' hc hC
 unfold iK at hc
 split at hc
 case h_2=>cases hc
 rename_i a b
 cases hc
 refine v_h (Dq hB) fun X hP hT hr hG=> ?_
 have hU:=r0.eq_1
 unfold r0 at hT
 have hX:=ai @gy.eq_1<|ai @kS.eq_1<|ai @kv.eq_1<| @kw.eq_1
 simp only [Tryz.f165,aB,al,ioB]
 refine s_g hG ?_
 refine cd (fun (z:Nat)=>(⟨[(0, .l (.z (.slice (.int .i64)) a)),(1, .l (.z (.slice (.int .i64)) b)),(6, .l (.z (.int .i64) (z:Int)))], []⟩:aa)) (fun z=>b.length=z+1) ?_ ?_
 ·refine ag hG ?_ ?_
  ·first|trivial|omega|(simp;done)|(simp;omega)
  show ∃ z,_
  refine q_l ?_
  exact D.len_pred hC.2.2.1 hC.2.2.2
 rintro n hn
 try dsimp only at hn
 obtain ⟨c1,c2,c3,c4⟩:=hC
 have c4:List.length a+List.length b+2<1000000000000:=c4
 have hp:=(D.valL_pos c2).2 c3
 have hwn:IntKind.i64.wrap ((n:Int)-1)=(n:Int)-1:=wi (by omega) (by omega)
 refine ak ?_
 refine s_g hG ?_
 refine ao ?_ ?_
 ·intro hb0
  try simp only [decide_eq_true_eq] at hb0
  refine s_q hG ?_ ?_
  ·try simp only [ba]
   unfold Cm.Roomy;omega
  refine ax ?_
  refine ay ?_
  refine q_e [23] ?_
  exact D.div_small c1 c2 c3 hn (by omega)
 ·intro hb0
  simp only [decide_eq_false_iff_not] at hb0
  have hwl:IntKind.i64.wrap ((List.length a:Int)-(n:Int))=((List.length a-n:Nat):Int):=by rw [wi (by omega) (by omega)];omega
  refine ap ?_
  refine ah ?_
  refine s_q hG ?_ ?_
  ·try simp only [ba]
   rw [hwl]
   exact ⟨by omega,by omega,by unfold Cm.Roomy;omega⟩
  refine s_q hG ?_ ?_
  ·try simp only [ba]
   rw [hwl,Int.toNat_natCast,Int.toNat_natCast,List.take_length,List.length_drop]
   exact ⟨⟨by omega,by omega,Int.le_refl _⟩,by unfold Cm.Roomy;omega⟩
  refine ak ?_
  refine s_g hG ?_
  refine aq ?_
  refine GR [31] (by simp only [hT,r0,mr0,mr1,mr2,iN,Nat.reduceLT,Nat.reduceEqDiff,Nat.reduceAdd,Nat.reduceMul,Nat.reduceSub,Nat.reduceLeDiff,Nat.reduceBEq,Nat.reduceBNe,reduceIte,reduceDIte,reduceCtorEq];rfl) ?_
  refine bn (fun (z:Nat×List Int×List Int)=>(⟨[(0, .l (.z (.slice (.int .i64)) a)),(1, .l (.z (.slice (.int .i64)) b)),(6, .l (.z (.int .i64) (n:Int))),(7, .l (.ownS 30)),(8, .l (.z (.slice (.int .i64)) z.2.2)),(9, .l (.z (.int .i64) ((z.1:Int)-1)))], [(30, .arr (.int .i64) 3 z.2.1)]⟩:aa)) (fun z=>D.DivPhi a b z.1 z.2.1 z.2.2) (fun z=>z.1) (List.length a-n,List.replicate (List.length a-n) 0,List.drop (List.length a-n) a) ?_ ?_ ?_
  ·refine q_l ?_
   rw [hwl,Int.toNat_natCast,Int.toNat_natCast,List.take_length,List.length_replicate]
   exact ⟨rfl,wi (by omega) (by omega),rfl⟩
  ·exact D.div_start c1 c2 c3 hn (by omega)
  ·rintro ⟨k,q,rest⟩ hz
   try dsimp only at hz
   have hz1:=hz.hk
   have hz2:=hz.hq
   refine ak ?_
   refine s_g hG ?_
   refine ao ?_ ?_
   ·intro hb1
    try simp only [decide_eq_true_eq] at hb1
    obtain ⟨i,rfl⟩:∃ i,k=i+1:=⟨k-1,by omega⟩
    have ei:((i+1:Nat):Int)-1=(i:Int):=by omega
    rw [ei]
    have hrsl:=D.rest_len c2 c3 hz.hr
    refine ap ?_
    refine ah ?_
    refine ak ?_
    refine aq ?_
    refine cd (fun (z:Unit)=>(⟨[(0, .l (.z (.slice (.int .i64)) a)),(1, .l (.z (.slice (.int .i64)) b)),(6, .l (.z (.int .i64) (n:Int))),(7, .l (.ownS 30)),(8, .l (.z (.slice (.int .i64)) (D.limbs (D.R1 a b i).toNat))),(9, .l (.z (.int .i64) (i:Int)))], [(30, .arr (.int .i64) 3 q)]⟩:aa)) (fun z=>True) ?_ ?_
    ·refine ag hG ?_ ?_
     ·try simp only [ba]
      exact ⟨⟨by omega,by omega⟩,by unfold Cm.Roomy;omega,(D.cons_limbs c1.1 hp hz.hr).1,by unfold CAP;omega⟩
     show ∃ z,_
     refine q_l ?_
     rw [D.nth64,(D.cons_limbs c1.1 hp hz.hr).2]
    rintro ⟨⟩ hu
    try dsimp only at hu
    have hrl:=D.r1_len (i:=i) c1.1 c2 c3 hn
    have hrf:=D.r1_facts (i:=i) c1.1 hp
    have hrc:=D.limbs_can (D.R1 a b i).toNat
    have hdn:=D.div_next (d:=(D.R1 a b i/D.valL b)) c1.1 c2 c3 hz rfl
    refine s_g hG ?_
    refine ak ?_
    refine s_g hG ?_
    refine aq ?_
    refine bn (fun (z:Nat×Int×Int)=>(⟨[(0, .l (.z (.slice (.int .i64)) a)),(1, .l (.z (.slice (.int .i64)) b)),(6, .l (.z (.int .i64) (n:Int))),(7, .l (.ownS 30)),(8, .l (.z (.slice (.int .i64)) (D.limbs (D.R1 a b i).toNat))),(9, .l (.z (.int .i64) (i:Int))),(10, .l (.z (.int .i64) z.2.1)),(11, .l (.z (.int .i64) z.2.2)),(12, .l (.z (.int .i64) ((z.1:Int)-1)))], [(30, .arr (.int .i64) 3 q)]⟩:aa)) (fun z=>D.TopPhi (D.limbs (D.R1 a b i).toNat) b n z.1 z.2.1 z.2.2) (fun z=>z.1) (n+2,0,0) ?_ ?_ ?_
    ·refine q_l ?_
     rw [wi (by omega) (by omega)]
     show (n:Int)+1=((n+2:Nat):Int)-1
     omega
    ·exact D.top_start hrl hn
    ·rintro ⟨j,top,first⟩ hj
     try dsimp only at hj
     have hj1:=hj.hj
     refine ak ?_
     refine s_g hG ?_
     refine ao ?_ ?_
     ·intro hb2
      simp only [decide_eq_true_eq] at hb2
      rw [hwn] at hb2
      obtain ⟨j,rfl⟩:∃ j2,j=j2+1:=⟨j-1,by omega⟩
      have ej:((j+1:Nat):Int)-1=(j:Int):=by omega
      rw [ej]
      have htv:=D.top_vals hrc.1 hrl c2.1 hn hj (by omega)
      refine ap ?_
      refine ah ?_
      refine ak ?_
      refine aq ?_
      refine s_g hG ?_
      refine cd (fun (z:Unit)=>(⟨[(0, .l (.z (.slice (.int .i64)) a)),(1, .l (.z (.slice (.int .i64)) b)),(6, .l (.z (.int .i64) (n:Int))),(7, .l (.ownS 30)),(8, .l (.z (.slice (.int .i64)) (D.limbs (D.R1 a b i).toNat))),(9, .l (.z (.int .i64) (i:Int))),(10, .l (.z (.int .i64) top)),(11, .l (.z (.int .i64) (D.valL (List.drop j (D.limbs (D.R1 a b i).toNat))))),(12, .l (.z (.int .i64) (j:Int)))], [(30, .arr (.int .i64) 3 q)]⟩:aa)) (fun z=>True) ?_ ?_
      ·refine s_g hG ?_
       refine ao ?_ ?_
       ·intro hb3
        try simp only [bt] at hb3
        refine ag hG ?_ ?_
        ·try simp only [ba]
         exact ⟨by omega,hb3⟩
        show ∃ z,_
        refine q_l ?_
        first|(rw [D.nth64,htv.1,htv.2.1];exact htv.2.2.2.2.1)|(rw [htv.1];have h9:=htv.2.2.2.2.1;rw [D.getD_none (by omega),Int.add_zero] at h9;exact h9)
       ·intro hb3
        try simp only [bf] at hb3
        refine ap ?_
        show ∃ z,_
        refine q_l ?_
        first|(rw [D.nth64,htv.1,htv.2.1];exact htv.2.2.2.2.1)|(rw [htv.1];have h9:=htv.2.2.2.2.1;rw [D.getD_none (by omega),Int.add_zero] at h9;exact h9)
      rintro ⟨⟩ hu2
      try dsimp only at hu2
      refine s_g hG ?_
      refine ao ?_ ?_
      ·intro hb4
       try simp only [bt] at hb4
       refine ag hG ?_ ?_
       ·try simp only [ba]
        exact ⟨by omega,by omega⟩
       refine aN ?_
       refine ah ?_
       refine ag hG ?_ ?_
       ·first|trivial|omega|(simp;done)|(simp;omega)
       show ∃ z,_
       refine q_l ?_
       first|exact ⟨j,wi (by omega) (by omega),⟨by omega,by rw [D.nth64,htv.2.2.1,htv.2.2.2.1];exact htv.2.2.2.2.2.1 (by omega),rfl⟩,by omega⟩|exact ⟨j,wi (by omega) (by omega),⟨by omega,htv.2.2.2.2.2.2 (by omega),rfl⟩,by omega⟩
      ·intro hb4
       try simp only [bf] at hb4
       refine ap ?_
       refine aN ?_
       refine ah ?_
       refine ag hG ?_ ?_
       ·first|trivial|omega|(simp;done)|(simp;omega)
       show ∃ z,_
       refine q_l ?_
       first|exact ⟨j,wi (by omega) (by omega),⟨by omega,by rw [D.nth64,htv.2.2.1,htv.2.2.2.1];exact htv.2.2.2.2.2.1 (by omega),rfl⟩,by omega⟩|exact ⟨j,wi (by omega) (by omega),⟨by omega,htv.2.2.2.2.2.2 (by omega),rfl⟩,by omega⟩
     ·intro hb2
      simp only [decide_eq_false_iff_not] at hb2
      rw [hwn] at hb2
      obtain rfl:j=n-1:=by omega
      obtain ⟨hs1,hs2,hs3,hs4,hs5⟩:=D.half_start c1.1 c2 c3 hn hj.ht hj.hf
      have hqf:=D.quo_facts hs1 hs2 hs3 hs4
      refine bc ?_
      refine aC ?_
      refine av ?_
      refine au ?_
      refine ah ?_
      refine cd (fun (z:Unit)=>(⟨[(0, .l (.z (.slice (.int .i64)) a)),(1, .l (.z (.slice (.int .i64)) b)),(6, .l (.z (.int .i64) (n:Int))),(7, .l (.ownS 30)),(8, .l (.z (.slice (.int .i64)) (D.limbs (D.R1 a b i).toNat))),(9, .l (.z (.int .i64) (i:Int))),(13, .l (.z (.int .i64) (first/(top+1)))),(14, .l (.z (.int .i64) (first/top)))], [(30, .arr (.int .i64) 3 q)]⟩:aa)) (fun z=>True) ?_ ?_
      ·refine fW hG ?_ ?_
       ·try simp only [ba]
        rw [hqf.1]
        exact ⟨hqf.2.1,hqf.2.2.1⟩
       show ∃ z,_
       refine q_l ?_
       rw [hqf.1]
       exact ⟨hqf.2.2.2.1,hqf.2.2.2.2⟩
      rintro ⟨⟩ hu3
      try dsimp only at hu3
      refine ak ?_
      refine aq ?_
      refine bn (fun (z:Int×Int)=>(⟨[(0, .l (.z (.slice (.int .i64)) a)),(1, .l (.z (.slice (.int .i64)) b)),(6, .l (.z (.int .i64) (n:Int))),(7, .l (.ownS 30)),(8, .l (.z (.slice (.int .i64)) (D.limbs (D.R1 a b i).toNat))),(9, .l (.z (.int .i64) (i:Int))),(13, .l (.z (.int .i64) z.1)),(14, .l (.z (.int .i64) z.2))], [(30, .arr (.int .i64) 3 q)]⟩:aa)) (fun z=>D.HalfPhi (D.R1 a b i/D.valL b) z.1 z.2) (fun z=>(z.2-z.1).toNat) (first/(top+1),first/top) ?_ ?_ ?_
      ·simp only [ml0,ml1,Nat.reduceLT,Nat.reduceEqDiff,Nat.reduceAdd,Nat.reduceMul,Nat.reduceSub,Nat.reduceLeDiff,Nat.reduceBEq,Nat.reduceBNe,reduceIte,reduceDIte,reduceCtorEq]
      ·exact hs5
      ·rintro ⟨low,high⟩ hh
       try dsimp only at hh
       refine ak ?_
       refine s_g hG ?_
       refine ao ?_ ?_
       ·intro hb5
        try simp only [decide_eq_true_eq] at hb5
        have hhm:=D.half_mid hh hb5
        refine ap ?_
        refine ah ?_
        refine aq ?_
        refine cd (fun (z:Int)=>(⟨[(0, .l (.z (.slice (.int .i64)) a)),(1, .l (.z (.slice (.int .i64)) b)),(6, .l (.z (.int .i64) (n:Int))),(7, .l (.ownS 30)),(8, .l (.z (.slice (.int .i64)) (D.limbs (D.R1 a b i).toNat))),(9, .l (.z (.int .i64) (i:Int))),(13, .l (.z (.int .i64) low)),(14, .l (.z (.int .i64) high)),(15, .l (.z (.int .i64) z))], [(30, .arr (.int .i64) 3 q)]⟩:aa)) (fun z=>z=(low+high+1)/2) ?_ ?_
        ·refine ag hG ?_ ?_
         ·try simp only [ba]
          decide
         show ∃ z,_
         refine q_l ?_
         exact hhm.1
        rintro mid hmid
        try dsimp only at hmid
        have hmm:low<mid∧mid≤high:=by rw [hmid];exact ⟨hhm.2.1,hhm.2.2.1⟩
        have hm0:0≤mid:=Int.le_trans hh.h0 (Int.le_of_lt hmm.1)
        have hmB:mid≤D.LB:=Int.le_trans hmm.2 hh.h3
        have hht:=D.half_test (v:=D.R1 a b i) (mid:=mid) c2.1 hp hrf.1 hm0
        have hol:=D.one_len c2.1 hm0 hmB
        refine s_q hG ?_ ?_
        ·try simp only [ba]
         exact ⟨⟨c2.1,D.wid_one hm0 hmB,by unfold CAP;omega⟩,D.limbs_can _,hrc,by unfold CAP;omega,by unfold CAP;omega⟩
        refine ao ?_ ?_
        ·intro hb6
         try simp only [bt] at hb6
         refine ag hG ?_ ?_
         ·first|trivial|omega|(simp;done)|(simp;omega)
         refine aN ?_
         show ∃ z,_
         refine q_l ?_
         first|exact D.half_up hh hmm (hht.1 hb6)|(rw [show IntKind.i64.wrap (mid-1)=mid-1 by rw [hmid];exact hhm.2.2.2];exact D.half_down hh hmm (fun h=>hb6 (hht.2 h)))
        ·intro hb6
         try simp only [bf] at hb6
         refine ag hG ?_ ?_
         ·first|trivial|omega|(simp;done)|(simp;omega)
         refine aN ?_
         show ∃ z,_
         refine q_l ?_
         first|exact D.half_up hh hmm (hht.1 hb6)|(rw [show IntKind.i64.wrap (mid-1)=mid-1 by rw [hmid];exact hhm.2.2.2];exact D.half_down hh hmm (fun h=>hb6 (hht.2 h)))
       ·intro hb5
        simp only [decide_eq_false_iff_not] at hb5
        have hle:=D.half_end hh hb5
        subst hle
        have hol:=D.one_len c2.1 hdn.1 (Int.le_of_lt hdn.2.1)
        have hrm:=D.rest_minus (i:=i) c1.1 c2 c3
        refine bc ?_
        refine aC ?_
        refine av ?_
        refine au ?_
        refine ah ?_
        refine s_q hG ?_ ?_
        ·try simp only [ba]
         exact ⟨⟨by omega,by omega⟩,by omega⟩
        refine s_g hG ?_
        refine ao ?_ ?_
        ·intro hb7
         try simp only [bt] at hb7
         refine ag hG ?_ ?_
         ·try simp only [ba]
          exact ⟨⟨c2.1,D.wid_one hdn.1 (Int.le_of_lt hdn.2.1),by unfold CAP;omega⟩,hrc,D.limbs_can _,hrm.1,by unfold CAP;omega⟩
         refine aN ?_
         refine ah ?_
         refine ag hG ?_ ?_
         ·first|trivial|omega|(simp;done)|(simp;omega)
         show ∃ z,_
         refine q_l ?_
         have hdx:=hdn.2.2
         first|(rw [← hrm.2] at hdx;exact ⟨i,wi (by omega) (by omega),by rw [Int.toNat_natCast];exact hdx,by omega⟩)|(rw [← D.rest_zero c1.1 c2 c3 hb7] at hdx;exact ⟨i,wi (by omega) (by omega),by rw [Int.toNat_natCast];exact hdx,by omega⟩)
        ·intro hb7
         try simp only [bf] at hb7
         refine ap ?_
         refine aN ?_
         refine ah ?_
         refine ag hG ?_ ?_
         ·first|trivial|omega|(simp;done)|(simp;omega)
         show ∃ z,_
         refine q_l ?_
         have hdx:=hdn.2.2
         first|(rw [← hrm.2] at hdx;exact ⟨i,wi (by omega) (by omega),by rw [Int.toNat_natCast];exact hdx,by omega⟩)|(rw [← D.rest_zero c1.1 c2 c3 hb7] at hdx;exact ⟨i,wi (by omega) (by omega),by rw [Int.toNat_natCast];exact hdx,by omega⟩)
   ·intro hb1
    simp only [decide_eq_false_iff_not] at hb1
    obtain rfl:k=0:=by omega
    have hde:=D.div_end hz
    refine bc ?_
    refine aC ?_
    refine av ?_
    refine au ?_
    refine ah ?_
    refine s_q hG ?_ ?_
    ·try simp only [ba]
     exact ⟨hz.hl,by unfold CAP;omega⟩
    refine ax ?_
    refine q_e [23] ?_
    exact hde
end Go.Proofs.YtdojbabpnaifoaaGreatDoor
end
section
namespace Go.Proofs.YtdojbabpnaifoaaGreatDoor
open Go Go.Cm Go.Proofs
def vN (B:aj):Tab:={types:= [(3,(.int .i64)),(4, .bool),(9, .str),(181,(.slice (.int .i64)))],elems:= [],cons:= [(126,nZ),(155,eu),(156,f5),(157,cI),(158,eA),(159,vw),(160,gy),(161,kv)],hint:= [],N:=53,base:=B}
theorem Dr {B:aj} (hB:aA B):aF Tryz.prog (vN B):=⟨⟨tc ty3 (tc ty4 (tc ty9 (tc iI (ae)))),af,by simp only [vN,ioB];omega⟩,aD (cc Tryz.func126 (j7 hB) (cc Tryz.func155 (mm hB) (cc Tryz.func156 (j0 hB) (cc Tryz.func157 (jZ hB) (cc Tryz.func158 (j6 hB) (cc Tryz.func159 (I5 hB) (cc Tryz.func160 (x9 hB) (cc Tryz.func161 (ya hB) (aw))))))))),by kernel_rfl⟩
def tW:Con:=fun l os=>match l,os with
 | [.z .str a, .z .str b], []=>some (RS 20000000000 a∧RS 20000000000 b, [.z .str (Lib.itoa (an a+an b))], [])
 |_,_=>none
theorem yh {B:aj} (hB:aA B):Valid B Tryz.prog 115 tW:=by
 refine ab (Dr hB).tab Tryz.func115 rfl rfl rfl ?_
 intro args os C rs os' hc hC
 unfold tW at hc
 split at hc
 case h_2=>cases hc
 rename_i a b
 cases hc
 refine v_h (Dr hB) fun X hP hT hr hG=> ?_
 have hU:=vN.eq_1
 unfold vN at hT
 have hX:=ai @gy.eq_1<|ai @eu.eq_1<|ai @kv.eq_1<|ai @cI.eq_1<|ai @nZ.eq_1<|ai @vw.eq_1<|ai @f5.eq_1<| @eA.eq_1
 simp only [Tryz.f115,aB,al,ioB]
 refine s_g hG ?_
 refine ak ?_
 refine s_q hG ?_ ?_
 ·try simp only [ba]
  exact ⟨hC.1.1,hC.2.1,(hC.1.cap (by omega)).2,(hC.2.cap (by omega)).2⟩
 refine s_g hG ?_
 refine ao ?_ ?_
 ·intro hb0
  simp only [decide_eq_true_eq] at hb0
  have hsm:=rj hC.1.1 hC.2.1 hb0
  rw [if_pos hb0,if_pos hb0]
  refine s_q hG ?_ ?_
  ·try simp only [ba]
   rw [hsm.1];exact hsm.2.1
  refine ax ?_
  refine ay ?_
  refine q_e [] ?_
  rw [hsm.1]
 ·intro hb0
  have ha:=hC.1.cap (by omega)
  have hb:=hC.2.cap (by omega)
  have la:=dx hC.1
  have lb:=dx hC.2
  have hle:=B7 hC.1 hC.2
  have hcap:CAP=1000000000000:=rfl
  refine ap ?_
  refine ah ?_
  refine s_q hG ?_ ?_
  ·try simp only [ba]
   exact ⟨ha,hb⟩
  refine ak ?_
  refine s_q hG ?_ ?_
  ·try simp only [ba]
   exact ⟨ha.1,hb.1⟩
  refine ao ?_ ?_
  ·intro hb1
   try simp only [bt] at hb1
   refine s_q hG ?_ ?_
   ·try simp only [ba]
    exact ⟨ha.1,⟨la.1,lb.1,by omega,by omega⟩,D.limbs_can _,hle.1⟩
   refine ax ?_
   refine ay ?_
   refine q_e [] ?_
   exact ED hb1
  ·intro hb1
   try simp only [bf] at hb1
   refine ap ?_
   refine ah ?_
   refine ak ?_
   refine s_q hG ?_ ?_
   ·try simp only [ba]
    exact ⟨la.1,lb.1,by omega,by omega⟩
   refine ao ?_ ?_
   ·intro hb2
    try simp only [bt] at hb2
    refine s_q hG ?_ ?_
    ·try simp only [ba]
     have hge:=B8 hb1 hb2
     exact ⟨ha.1,⟨la.1,lb.1,hge.1,by omega⟩,D.limbs_can _,hle.2.1⟩
    refine ax ?_
    refine ay ?_
    refine q_e [] ?_
    exact (B8 hb1 hb2).2
   ·intro hb2
    try simp only [bf] at hb2
    refine ap ?_
    refine ah ?_
    refine s_q hG ?_ ?_
    ·try simp only [ba]
     have hlt:=B9 hb1 hb2
     exact ⟨hb.1,⟨lb.1,la.1,hlt.1,by omega⟩,D.limbs_can _,hle.2.2.1⟩
    refine ax ?_
    refine q_e [] ?_
    exact (B9 hb1 hb2).2
def vO (B:aj):Tab:={types:= [(9, .str)],elems:= [],cons:= [(115,tW),(163,tV)],hint:= [],N:=9,base:=B}
theorem Ds {B:aj} (hB:aA B):aF Tryz.prog (vO B):=⟨⟨tc ty9 (ae),af,by simp only [vO,ioB];omega⟩,aD (cc Tryz.func115 (yh hB) (cc Tryz.func163 (yf hB) (aw))),by kernel_rfl⟩
def Dt:Con:=fun l os=>match l,os with
 | [.z .str a, .z .str b], []=>some (RS 10000000000 a∧RS 10000000000 b, [.z .str (Lib.itoa (an a-an b))], [])
 |_,_=>none
theorem Ju {B:aj} (hB:aA B):Valid B Tryz.prog 123 Dt:=by
 refine ab (Ds hB).tab Tryz.func123 rfl rfl rfl ?_
 intro args os C rs os' hc hC
 unfold Dt at hc
 split at hc
 case h_2=>cases hc
 rename_i a b
 cases hc
 refine v_h (Ds hB) fun X hP hT hr hG=> ?_
 have hU:=vO.eq_1
 unfold vO at hT
 have hX:=ai @tW.eq_1<| @tV.eq_1
 simp only [Tryz.f123,aB,al,ioB]
 refine s_g hG ?_
 refine s_q hG ?_ ?_
 ·try simp only [ba]
  have h2:=hC.2.2
  exact ⟨⟨hC.2.1,by have hcap:CAP=1000000000000:=rfl;omega⟩,hC.1.up (by omega),(LO hC.2).1.up (by omega)⟩
 refine ax ?_
 refine q_e [] ?_
 exact Kc
def vP (B:aj):Tab:={types:= [(3,(.int .i64)),(4, .bool),(9, .str),(181,(.slice (.int .i64)))],elems:= [],cons:= [(126,nZ),(155,eu),(156,f5),(157,cI),(158,eA),(164,kw)],hint:= [],N:=31,base:=B}
theorem Du {B:aj} (hB:aA B):aF Tryz.prog (vP B):=⟨⟨tc ty3 (tc ty4 (tc ty9 (tc iI (ae)))),af,by simp only [vP,ioB];omega⟩,aD (cc Tryz.func126 (j7 hB) (cc Tryz.func155 (mm hB) (cc Tryz.func156 (j0 hB) (cc Tryz.func157 (jZ hB) (cc Tryz.func158 (j6 hB) (cc Tryz.func164 (yb hB) (aw))))))),by kernel_rfl⟩
def nT:Con:=fun l os=>match l,os with
 | [.z .str a, .z .str b], []=>some (RS 20000000000 a∧RS 20000000000 b, [.z .str (Lib.itoa (an a*an b))], [])
 |_,_=>none
theorem sa {B:aj} (hB:aA B):Valid B Tryz.prog 117 nT:=by
 refine ab (Du hB).tab Tryz.func117 rfl rfl rfl ?_
 intro args os C rs os' hc hC
 unfold nT at hc
 split at hc
 case h_2=>cases hc
 rename_i a b
 cases hc
 refine v_h (Du hB) fun X hP hT hr hG=> ?_
 have hU:=vP.eq_1
 unfold vP at hT
 have hX:=ai @eu.eq_1<|ai @cI.eq_1<|ai @nZ.eq_1<|ai @f5.eq_1<|ai @kw.eq_1<| @eA.eq_1
 simp only [Tryz.f117,aB,al,ioB]
 refine s_g hG ?_
 refine ak ?_
 refine s_q hG ?_ ?_
 ·try simp only [ba]
  exact ⟨hC.1.1,hC.2.1,(hC.1.cap (by omega)).2,(hC.2.cap (by omega)).2⟩
 refine s_g hG ?_
 refine ao ?_ ?_
 ·intro hb0
  simp only [decide_eq_true_eq] at hb0
  have hsm:=rj hC.1.1 hC.2.1 hb0
  rw [if_pos hb0,if_pos hb0]
  refine s_q hG ?_ ?_
  ·try simp only [ba]
   rw [hsm.2.2.1];exact hsm.2.2.2
  refine ax ?_
  refine ay ?_
  refine q_e [] ?_
  rw [hsm.2.2.1]
 ·intro hb0
  have ha:=hC.1.cap (by omega)
  have hb:=hC.2.cap (by omega)
  have la:=dx hC.1
  have lb:=dx hC.2
  have hle:=B7 hC.1 hC.2
  have hcap:CAP=1000000000000:=rfl
  refine ap ?_
  refine ah ?_
  refine s_q hG ?_ ?_
  ·try simp only [ba]
   exact ⟨ha.1,hb.1,ha,hb,⟨la.1.1,lb.1.1.wid,by omega⟩,D.limbs_can _,hle.2.2.2⟩
  refine ax ?_
  refine q_e [] ?_
  exact Kd
end Go.Proofs.YtdojbabpnaifoaaGreatDoor
end
section
namespace Go.Proofs.YtdojbabpnaifoaaGreatDoor
open Go Go.Cm Go.Proofs
def vQ (B:aj):Tab:={types:= [(3,(.int .i64)),(4, .bool),(9, .str),(181,(.slice (.int .i64)))],elems:= [],cons:= [(117,nT),(123,Dt),(126,nZ),(155,eu),(156,f5),(157,cI),(158,eA),(165,iK)],hint:= [],N:=78,base:=B}
theorem Dv {B:aj} (hB:aA B):aF Tryz.prog (vQ B):=⟨⟨tc ty3 (tc ty4 (tc ty9 (tc iI (ae)))),af,by simp only [vQ,ioB];omega⟩,aD (cc Tryz.func117 (sa hB) (cc Tryz.func123 (Ju hB) (cc Tryz.func126 (j7 hB) (cc Tryz.func155 (mm hB) (cc Tryz.func156 (j0 hB) (cc Tryz.func157 (jZ hB) (cc Tryz.func158 (j6 hB) (cc Tryz.func165 (yg hB) (aw))))))))),by kernel_rfl⟩
def Dw:Con:=fun l os=>match l,os with
 | [.z .str a, .z .str b], []=>some (RS 1000000000 a∧RS 1000000000 b∧an b≠0, [.z .str (Lib.itoa (bH (an a) (an b))), .z .str (Lib.itoa (ip (an a) (an b)))], [])
 |_,_=>none
theorem Jv {B:aj} (hB:aA B):Valid B Tryz.prog 121 Dw:=by
 refine ab (Dv hB).tab Tryz.func121 rfl rfl rfl ?_
 intro args os C rs os' hc hC
 unfold Dw at hc
 split at hc
 case h_2=>cases hc
 rename_i a b
 cases hc
 refine v_h (Dv hB) fun X hP hT hr hG=> ?_
 have hU:=vQ.eq_1
 unfold vQ at hT
 have hX:=ai @iK.eq_1<|ai @eu.eq_1<|ai @nT.eq_1<|ai @cI.eq_1<|ai @nZ.eq_1<|ai @f5.eq_1<|ai @Dt.eq_1<| @eA.eq_1
 simp only [Tryz.f121,aB,al,ioB]
 refine s_g hG ?_
 refine ak ?_
 refine s_q hG ?_ ?_
 ·try simp only [ba]
  exact ⟨hC.1.1,hC.2.1.1,(hC.1.cap (by omega)).2,(hC.2.1.cap (by omega)).2⟩
 refine s_g hG ?_
 refine ao ?_ ?_
 ·intro hb0
  simp only [decide_eq_true_eq] at hb0
  rw [if_pos hb0,if_pos hb0]
  have hsm:=Ax hC.1.1 hC.2.1.1 hb0 hC.2.2
  refine s_q hG ?_ ?_
  ·try simp only [ba]
   exact hC.2.2
  refine cd (fun (z:Unit)=>(⟨[(0, .l (.z .str a)),(1, .l (.z .str b)),(6, .l (.z (.int .i64) (an a))),(7, .l (.z (.int .i64) (an b))),(9, .l (.z (.int .i64) (bH (an a) (an b))))], []⟩:aa)) (fun z=>True) ?_ ?_
  ·refine s_q hG ?_ ?_
   ·try simp only [ba]
    exact ⟨hC.2.2,fun h=>h⟩
   refine ao ?_ ?_
   ·intro hb1
    try simp only [bt] at hb1
    refine ag hG ?_ ?_
    ·first|trivial|omega|(simp;done)|(simp;omega)
    show ∃ z,_
    refine q_l ?_
    first|exact hsm.1 hb1|exact hsm.2.1 hb1
   ·intro hb1
    try simp only [bf] at hb1
    refine ap ?_
    show ∃ z,_
    refine q_l ?_
    first|exact hsm.1 hb1|exact hsm.2.1 hb1
  rintro ⟨⟩ hu
  try dsimp only at hu
  refine s_q hG ?_ ?_
  ·try simp only [ba]
   rw [hsm.2.2.2.1];exact ⟨hsm.2.2.1,hsm.2.2.2.2⟩
  refine ax ?_
  refine ay ?_
  refine q_e [] ?_
  rw [hsm.2.2.2.1]
 ·intro hb0
  obtain ⟨c1,c2,c3⟩:=hC
  have ha:=c1.cap (by omega)
  have hb:=c2.cap (by omega)
  have la:=dx c1
  have lb:=dx c2
  have hln:=Hv (an a) (an b)
  have hrq:=MA (b:=b) c1 c3
  have hrm:=MB c1 c2 c3
  have hcap:CAP=1000000000000:=rfl
  have hqf:=rk (x:=an a) c3
  refine ap ?_
  refine ah ?_
  refine s_q hG ?_ ?_
  ·try simp only [ba]
   exact ⟨ha,hb,la.1,lb.1,D.ne_limbs c3,by omega⟩
  refine s_q hG ?_ ?_
  ·try simp only [ba]
   exact ⟨ha.1,hb.1,D.limbs_can _,by omega⟩
  refine cd (fun (z:Unit)=>(⟨[(0, .l (.z .str a)),(1, .l (.z .str b)),(12, .l (.z .str (Lib.itoa (bH (an a) (an b)))))], []⟩:aa)) (fun z=>True) ?_ ?_
  ·refine s_q hG ?_ ?_
   ·try simp only [ba]
    exact ⟨fun h=>⟨h,c1.1⟩,fun h=>⟨h,c2.1⟩,fun h=>h⟩
   refine ao ?_ ?_
   ·intro hb2
    try simp only [bt] at hb2
    refine ag hG ?_ ?_
    ·try simp only [ba]
     exact ⟨hrq.1.up (by omega),Aw.1.up (by omega)⟩
    show ∃ z,_
    refine q_l ?_
    rw [s6] at hb2
    first|(rw [← hqf.2.1 hb2,Aw.2,(aY _).2];rfl)|(rw [← hqf.2.2 hb2];rfl)
   ·intro hb2
    try simp only [bf] at hb2
    refine ap ?_
    show ∃ z,_
    refine q_l ?_
    rw [s6] at hb2
    first|(rw [← hqf.2.1 hb2,Aw.2,(aY _).2];rfl)|(rw [← hqf.2.2 hb2];rfl)
  rintro ⟨⟩ hu2
  try dsimp only at hu2
  refine s_q hG ?_ ?_
  ·try simp only [ba]
   rw [(aY _).2]
   exact ⟨⟨hrq.2.up (by omega),c2.up (by omega)⟩,c1.up (by omega),hrm.up (by omega)⟩
  refine ax ?_
  refine q_e [] ?_
  rw [(aY _).2,(aY _).2,Int.mul_comm];rfl
end Go.Proofs.YtdojbabpnaifoaaGreatDoor
end
section
namespace Go.Proofs.YtdojbabpnaifoaaGreatDoor
open Go Go.Cm Go.Proofs
def vR (B:aj):Tab:={types:= [(3,(.int .i64)),(4, .bool),(9, .str),(181,(.slice (.int .i64)))],elems:= [],cons:= [(126,nZ),(155,eu),(156,f5),(158,eA),(165,iK)],hint:= [],N:=50,base:=B}
theorem Dx {B:aj} (hB:aA B):aF Tryz.prog (vR B):=⟨⟨tc ty3 (tc ty4 (tc ty9 (tc iI (ae)))),af,by simp only [vR,ioB];omega⟩,aD (cc Tryz.func126 (j7 hB) (cc Tryz.func155 (mm hB) (cc Tryz.func156 (j0 hB) (cc Tryz.func158 (j6 hB) (cc Tryz.func165 (yg hB) (aw)))))),by kernel_rfl⟩
def Dy:Con:=fun l os=>match l,os with
 | [.z .str a, .z .str b], []=>some (RS 1000000000 a∧RS 1000000000 b, [.z .str (Lib.itoa (cq (an a) (an b)))], [])
 |_,_=>none
theorem Jw {B:aj} (hB:aA B):Valid B Tryz.prog 122 Dy:=by
 refine ab (Dx hB).tab Tryz.func122 rfl rfl rfl ?_
 intro args os C rs os' hc hC
 unfold Dy at hc
 split at hc
 case h_2=>cases hc
 rename_i a b
 cases hc
 refine v_h (Dx hB) fun X hP hT hr hG=> ?_
 have hU:=vR.eq_1
 unfold vR at hT
 have hX:=ai @iK.eq_1<|ai @eu.eq_1<|ai @nZ.eq_1<|ai @f5.eq_1<| @eA.eq_1
 simp only [Tryz.f122,aB,al,ioB]
 refine s_g hG ?_
 refine ak ?_
 refine s_q hG ?_ ?_
 ·try simp only [ba]
  exact ⟨hC.1.1,hC.2.1,(hC.1.cap (by omega)).2,(hC.2.cap (by omega)).2⟩
 refine s_g hG ?_
 refine ao ?_ ?_
 ·intro hb0
  simp only [decide_eq_true_eq] at hb0
  rw [if_pos hb0,if_pos hb0]
  have ha:=gv hC.1.1 hb0.1
  have hb:=gv hC.2.1 hb0.2
  refine ak ?_
  refine aq ?_
  refine bn (fun (z:Int×Int)=>(⟨[(0, .l (.z .str a)),(1, .l (.z .str b)),(5, .l (.z (.int .i64) z.1)),(6, .l (.z (.int .i64) z.2))], []⟩:aa)) (fun z=>s7 (cq (an a) (an b)) z.1 z.2) (fun z=>z.2.natAbs) (an a,an b) ?_ ?_ ?_
  ·simp only [ml0,ml1,Nat.reduceLT,Nat.reduceEqDiff,Nat.reduceAdd,Nat.reduceMul,Nat.reduceSub,Nat.reduceLeDiff,Nat.reduceBEq,Nat.reduceBNe,reduceIte,reduceDIte,reduceCtorEq]
  ·exact Hx ha hb
  ·rintro ⟨x,y⟩ hz
   try dsimp only at hz
   refine ak ?_
   refine s_g hG ?_
   refine ao ?_ ?_
   ·intro hb1
    try simp only [bt] at hb1
    refine ap ?_
    refine ah ?_
    refine aq ?_
    refine s_q hG ?_ ?_
    ·try simp only [ba]
     exact hb1
    refine s_g hG ?_
    refine ag hG ?_ ?_
    ·first|trivial|omega|(simp;done)|(simp;omega)
    refine aN ?_
    show ∃ z,_
    refine q_l ?_
    exact Ke hz hb1
   ·intro hb1
    try simp only [bf] at hb1
    refine bc ?_
    refine aC ?_
    refine av ?_
    refine au ?_
    refine ah ?_
    refine s_q hG ?_ ?_
    ·try simp only [ba]
     subst hb1
     exact (Hz hz).1
    refine ax ?_
    refine ay ?_
    refine q_e [] ?_
    subst hb1
    rw [(Hz hz).2]
 ·intro hb0
  obtain ⟨c1,c2⟩:=hC
  have ha:=c1.cap (by omega)
  have hb:=c2.cap (by omega)
  have la:=dx c1
  have lb:=dx c2
  have hcap:CAP=1000000000000:=rfl
  refine ap ?_
  refine ah ?_
  refine s_q hG ?_ ?_
  ·try simp only [ba]
   exact ⟨ha,hb⟩
  refine ak ?_
  refine aq ?_
  refine bn (fun (z:List Int×List Int)=>(⟨[(9, .l (.z (.slice (.int .i64)) z.1)),(10, .l (.z (.slice (.int .i64)) z.2))], []⟩:aa)) (fun z=>xp (cq (an a) (an b)) z.1 z.2) (fun z=>(D.valL z.2).natAbs) (D.limbs (an a).natAbs,D.limbs (an b).natAbs) ?_ ?_ ?_
  ·simp only [ml0,ml1,Nat.reduceLT,Nat.reduceEqDiff,Nat.reduceAdd,Nat.reduceMul,Nat.reduceSub,Nat.reduceLeDiff,Nat.reduceBEq,Nat.reduceBNe,reduceIte,reduceDIte,reduceCtorEq]
  ·exact Hy c1 c2
  ·rintro ⟨x,y⟩ hz
   try dsimp only at hz
   refine ak ?_
   refine s_g hG ?_
   refine ao ?_ ?_
   ·intro hb2
    try simp only [bt] at hb2
    refine ap ?_
    refine ah ?_
    refine aq ?_
    refine s_q hG ?_ ?_
    ·try simp only [ba]
     have lx:=hz.lx
     have ly:=hz.ly
     exact ⟨hz.hx,hz.hy,(by rintro rfl;simp at hb2),by omega⟩
    refine s_g hG ?_
    refine ag hG ?_ ?_
    ·first|trivial|omega|(simp;done)|(simp;omega)
    refine aN ?_
    show ∃ z,_
    refine q_l ?_
    exact Kf hz hb2
   ·intro hb2
    try simp only [bf] at hb2
    refine bc ?_
    refine aC ?_
    refine av ?_
    refine au ?_
    refine ah ?_
    refine s_q hG ?_ ?_
    ·try simp only [ba]
     have lx:=hz.lx
     exact ⟨hz.hx,by omega⟩
    refine ax ?_
    refine q_e [] ?_
    rw [LQ hz hb2]
end Go.Proofs.YtdojbabpnaifoaaGreatDoor
end
section
namespace Go.Proofs.YtdojbabpnaifoaaGreatDoor
open Go Go.Cm Go.Proofs
def ow (B:aj):Tab:={types:= [(3,(.int .i64)),(5,(.int .u8)),(9, .str)],elems:= [],cons:= [],hint:= [],N:=24,base:=B}
theorem yi {B:aj} (hB:aA B):aF Tryz.prog (ow B):=⟨⟨tc ty3 (tc ty5 (tc ty9 (ae))),af,by simp only [ow,ioB];omega⟩,bG rfl,by kernel_rfl⟩
def Dz:Con:=fun l os=>match l,os with
 | [.z .str s], []=>some (s.length≤QL, [.z .str (tN s), .z .str (tD s), .z .bool (b6 s)], [])
 |_,_=>none
theorem Fu {B:aj} (hB:aA B):Valid B Tryz.prog 134 Dz:=by
 refine ab (yi hB).tab Tryz.func134 rfl rfl rfl ?_
 intro args os C rs os' hc hC
 unfold Dz at hc
 split at hc
 case h_2=>cases hc
 rename_i s
 cases hc
 refine v_h (yi hB) fun X hP hT hr hG=> ?_
 have hU:=ow.eq_1
 unfold ow at hT
 have hX:=Bool.not_true
 simp only [Tryz.f134,aB,al,ioB]
 have hl:s.length≤1000000000:=hC
 refine s_g hG ?_
 refine ak ?_
 refine s_g hG ?_
 refine aq ?_
 refine bn (fun (z:Nat)=>(⟨[(0, .l (.z .str s)),(2, .l (.z .str [])),(3, .l (.z .str [])),(4, .l (.z .bool false)),(5, .l (.z (.int .i64) (z:Int)))], []⟩:aa)) (fun z=>z≤s.length∧(s.take z).all (· !=47)=true) (fun z=>s.length-z) 0 ?_ ?_ ?_
 ·refine q_l ?_
  rfl
 ·exact ⟨by omega,by simp⟩
 ·rintro k ⟨g1,g2⟩
  try dsimp only at g1 g2
  refine ak ?_
  refine s_g hG ?_
  refine ao ?_ ?_
  ·intro hb0
   try simp only [bt] at hb0
   have hk:k<s.length:=by have h9:(k:Int)<(s.length:Int):=hb0;omega
   refine ap ?_
   refine ah ?_
   refine ak ?_
   refine aq ?_
   refine s_g hG ?_
   refine ao ?_ ?_
   ·intro hb1
    try simp only [bt] at hb1
    refine s_d hG ?_ ?_
    ·try simp only [ba]
     exact Fh hl hk
    refine ax ?_
    refine bv ?_
    refine ay ?_
    refine dY ?_
    refine bv ?_
    refine ay ?_
    refine q_e [] ?_
    exact xR hl hk g2 (Cw.1 hb1)
   ·intro hb1
    try simp only [bf] at hb1
    refine ap ?_
    refine aN ?_
    refine ah ?_
    refine ag hG ?_ ?_
    ·first|trivial|omega|(simp;done)|(simp;omega)
    show ∃ z,_
    refine q_l ?_
    exact ⟨k+1,wi (by omega) (by omega),hk,Fa hk g2 (fun e=>hb1 (Cw.2 e)),by omega⟩
  ·intro hb0
   try simp only [bf] at hb0
   have hk: ¬k<s.length:=by have h9: ¬ (k:Int)<(s.length:Int):=hb0;omega
   refine bc ?_
   refine aC ?_
   refine av ?_
   refine au ?_
   refine ah ?_
   refine s_g hG ?_
   refine ax ?_
   refine q_e [] ?_
   exact It hk g2
def ox (B:aj):Tab:={types:= [(9, .str)],elems:= [],cons:= [(134,Dz)],hint:= [],N:=15,base:=B}
theorem yj {B:aj} (hB:aA B):aF Tryz.prog (ox B):=⟨⟨tc ty9 (ae),af,by simp only [ox,ioB];omega⟩,aD (cc Tryz.func134 (Fu hB) (aw)),by kernel_rfl⟩
def kx:Con:=fun l os=>match l,os with
 | [.z .str q], []=>some (q.length≤QL, [.z .str (tN q), .z .str (tD q)], [])
 |_,_=>none
theorem tX {B:aj} (hB:aA B):Valid B Tryz.prog 92 kx:=by
 refine ab (yj hB).tab Tryz.func92 rfl rfl rfl ?_
 intro args os C rs os' hc hC
 unfold kx at hc
 split at hc
 case h_2=>cases hc
 rename_i q
 cases hc
 refine v_h (yj hB) fun X hP hT hr hG=> ?_
 have hU:=ox.eq_1
 unfold ox at hT
 have hX:= @Dz.eq_1
 simp only [Tryz.f92,aB,al,ioB]
 refine s_g hG ?_
 refine s_q hG ?_ ?_
 ·try simp only [ba]
  exact hC
 refine s_g hG ?_
 refine ax ?_
 refine q_e [] ?_
 trivial
def oy (B:aj):Tab:={types:= [(3,(.int .i64)),(9, .str)],elems:= [],cons:= [(121,Dw),(122,Dy),(162,vK),(163,tV)],hint:= [],N:=33,base:=B}
theorem yk {B:aj} (hB:aA B):aF Tryz.prog (oy B):=⟨⟨tc ty3 (tc ty9 (ae)),af,by simp only [oy,ioB];omega⟩,aD (cc Tryz.func121 (Jv hB) (cc Tryz.func122 (Jw hB) (cc Tryz.func162 (Jt hB) (cc Tryz.func163 (yf hB) (aw))))),by kernel_rfl⟩
def j8:Con:=fun l os=>match l,os with
 | [.z .str n, .z .str d], []=>some (MkR n d, [.z .str (bl (Rat.divInt (an n) (an d)))], [])
 |_,_=>none
theorem m9 {B:aj} (hB:aA B):Valid B Tryz.prog 116 j8:=by
 refine ab (yk hB).tab Tryz.func116 rfl rfl rfl ?_
 intro args os C rs os' hc hC
 unfold j8 at hc
 split at hc
 case h_2=>cases hc
 rename_i n d
 cases hc
 refine v_h (yk hB) fun X hP hT hr hG=> ?_
 have hU:=oy.eq_1
 unfold oy at hT
 have hX:=ai @Dw.eq_1<|ai @Dy.eq_1<|ai @tV.eq_1<| @vK.eq_1
 simp only [Tryz.f116,aB,al,ioB]
 refine s_g hG ?_
 refine s_q hG ?_ ?_
 ·try simp only [ba]
  exact mX hC
 refine cd (fun (z:Unit)=>(⟨[(0, .l (.z .str n)),(1, .l (.z .str d)),(4, .l (.z .str [])),(5, .l (.z .str (Lib.itoa (df (an n) (an d)))))], []⟩:aa)) (fun z=>True) ?_ ?_
 ·refine s_q hG ?_ ?_
  ·try simp only [ba]
   exact hC.2.1.1
  refine ao ?_ ?_
  ·intro hb0
   try simp only [bt] at hb0
   refine ag hG ?_ ?_
   ·try simp only [ba]
    exact Fb hC
   show ∃ z,_
   refine q_l ?_
   first|exact Cr (oq.1 hb0)|exact Ct (fun e=>hb0 (oq.2 e))
  ·intro hb0
   try simp only [bf] at hb0
   refine ap ?_
   show ∃ z,_
   refine q_l ?_
   first|exact Cr (oq.1 hb0)|exact Ct (fun e=>hb0 (oq.2 e))
 rintro ⟨⟩-
 refine s_q hG ?_ ?_
 ·try simp only [ba]
  exact tF hC
 refine s_q hG ?_ ?_
 ·try simp only [ba]
  exact Fc hC
 refine ak ?_
 refine s_g hG ?_
 refine ao ?_ ?_
 ·intro hb1
  try simp only [bt] at hb1
  refine s_g hG ?_
  refine ax ?_
  refine ay ?_
  refine q_e [] ?_
  exact KB hC hb1
 ·intro hb1
  try simp only [bf] at hb1
  refine ap ?_
  refine ah ?_
  refine s_q hG ?_ ?_
  ·try simp only [ba]
   exact Fd hC
  refine ax ?_
  refine q_e [] ?_
  exact KC hC hb1
def oz (B:aj):Tab:={types:= [(3,(.int .i64)),(9, .str)],elems:= [],cons:= [(116,j8),(126,nZ)],hint:= [],N:=10,base:=B}
theorem yl {B:aj} (hB:aA B):aF Tryz.prog (oz B):=⟨⟨tc ty3 (tc ty9 (ae)),af,by simp only [oz,ioB];omega⟩,aD (cc Tryz.func116 (m9 hB) (cc Tryz.func126 (j7 hB) (aw))),by kernel_rfl⟩
def Lf:Con:=fun l os=>match l,os with
 | [.z (.int .i64) n, .z (.int .i64) d], []=>some (I64 n∧I64 d∧d≠0, [.z .str (bl (Rat.divInt n d))], [])
 |_,_=>none
theorem Fv {B:aj} (hB:aA B):Valid B Tryz.prog 85 Lf:=by
 refine ab (yl hB).tab Tryz.func85 rfl rfl rfl ?_
 intro args os C rs os' hc hC
 unfold Lf at hc
 split at hc
 case h_2=>cases hc
 rename_i n d
 cases hc
 refine v_h (yl hB) fun X hP hT hr hG=> ?_
 have hU:=oz.eq_1
 unfold oz at hT
 have hX:=ai @j8.eq_1<| @nZ.eq_1
 simp only [Tryz.f85,aB,al,ioB]
 refine s_g hG ?_
 refine s_q hG ?_ ?_
 ·try simp only [ba]
  exact Iu hC
 refine ax ?_
 refine q_e [] ?_
 exact KD
def oA (B:aj):Tab:={types:= [(9, .str),(46, .str)],elems:= [],cons:= [(92,kx),(115,tW),(116,j8),(117,nT)],hint:= [],N:=39,base:=B}
theorem ym {B:aj} (hB:aA B):aF Tryz.prog (oA B):=⟨⟨tc ty9 (tc ma (ae)),af,by simp only [oA,ioB];omega⟩,aD (cc Tryz.func92 (tX hB) (cc Tryz.func115 (yh hB) (cc Tryz.func116 (m9 hB) (cc Tryz.func117 (sa hB) (aw))))),by kernel_rfl⟩
def DA:Con:=fun l os=>match l,os with
 | [.z .str a, .z .str b], []=>some (GQ QK a∧GQ QK b, [.z .str (bl (bw a+bw b))], [])
 |_,_=>none
theorem Fw {B:aj} (hB:aA B):Valid B Tryz.prog 62 DA:=by
 refine ab (ym hB).tab Tryz.func62 rfl rfl rfl ?_
 intro args os C rs os' hc hC
 unfold DA at hc
 split at hc
 case h_2=>cases hc
 rename_i a b
 cases hc
 refine v_h (ym hB) fun X hP hT hr hG=> ?_
 have hU:=oA.eq_1
 unfold oA at hT
 have hX:=ai @j8.eq_1<|ai @kx.eq_1<|ai @tW.eq_1<| @nT.eq_1
 simp only [Tryz.f62,aB,al,ioB]
 refine s_g hG ?_
 refine s_q hG ?_ ?_
 ·try simp only [ba]
  exact Cu hC.1
 refine s_q hG ?_ ?_
 ·try simp only [ba]
  exact Cu hC.2
 refine ak ?_
 refine s_g hG ?_
 refine ao ?_ ?_
 ·intro hb0
  try simp only [bt] at hb0
  refine s_q hG ?_ ?_
  ·try simp only [ba]
   exact ⟨(fm hC.1).1,(fm hC.2).1⟩
  refine ax ?_
  refine ay ?_
  refine q_e [] ?_
  exact Iv hC.1 hC.2 hb0
 ·intro hb0
  try simp only [bf] at hb0
  refine ap ?_
  refine ah ?_
  refine s_q hG ?_ ?_
  ·try simp only [ba]
   exact Fe hC.1 hC.2
  refine ax ?_
  refine q_e [] ?_
  exact Ix hC.1 hC.2
def oC (B:aj):Tab:={types:= [(9, .str),(46, .str)],elems:= [],cons:= [(92,kx),(116,j8),(117,nT)],hint:= [],N:=35,base:=B}
theorem yn {B:aj} (hB:aA B):aF Tryz.prog (oC B):=⟨⟨tc ty9 (tc ma (ae)),af,by simp only [oC,ioB];omega⟩,aD (cc Tryz.func92 (tX hB) (cc Tryz.func116 (m9 hB) (cc Tryz.func117 (sa hB) (aw)))),by kernel_rfl⟩
def DB:Con:=fun l os=>match l,os with
 | [.z .str a, .z .str b], []=>some (GQ QK a∧GQ QK b, [.z .str (bl (bw a*bw b))], [])
 |_,_=>none
theorem Fx {B:aj} (hB:aA B):Valid B Tryz.prog 84 DB:=by
 refine ab (yn hB).tab Tryz.func84 rfl rfl rfl ?_
 intro args os C rs os' hc hC
 unfold DB at hc
 split at hc
 case h_2=>cases hc
 rename_i a b
 cases hc
 refine v_h (yn hB) fun X hP hT hr hG=> ?_
 have hU:=oC.eq_1
 unfold oC at hT
 have hX:=ai @j8.eq_1<|ai @kx.eq_1<| @nT.eq_1
 simp only [Tryz.f84,aB,al,ioB]
 refine s_g hG ?_
 refine s_q hG ?_ ?_
 ·try simp only [ba]
  exact Cu hC.1
 refine s_q hG ?_ ?_
 ·try simp only [ba]
  exact Cu hC.2
 refine ak ?_
 refine s_g hG ?_
 refine ao ?_ ?_
 ·intro hb0
  try simp only [bt] at hb0
  refine s_q hG ?_ ?_
  ·try simp only [ba]
   exact ⟨(fm hC.1).1,(fm hC.2).1⟩
  refine ax ?_
  refine ay ?_
  refine q_e [] ?_
  exact Iw hC.1 hC.2 hb0
 ·intro hb0
  try simp only [bf] at hb0
  refine ap ?_
  refine ah ?_
  refine s_q hG ?_ ?_
  ·try simp only [ba]
   exact Ff hC.1 hC.2
  refine ax ?_
  refine q_e [] ?_
  exact Iy hC.1 hC.2
def oD (B:aj):Tab:={types:= [(3,(.int .i64)),(22,(.slice .str)),(46, .str)],elems:= [],cons:= [],hint:= [],N:=26,base:=B}
theorem yo {B:aj} (hB:aA B):aF Tryz.prog (oD B):=⟨⟨tc ty3 (tc fY (tc ma (ae))),af,by simp only [oD,ioB];omega⟩,bG rfl,by kernel_rfl⟩
def j9:Con:=fun l os=>match l,os with
 | [.z (.slice .str) p, .z (.slice .str) q], []=>some (p.length≤QL∧q.length≤QL, [.z .bool (decide (p=q))], [])
 |_,_=>none
theorem na {B:aj} (hB:aA B):Valid B Tryz.prog 28 j9:=by
 refine ab (yo hB).tab Tryz.func28 rfl rfl rfl ?_
 intro args os C rs os' hc hC
 unfold j9 at hc
 split at hc
 case h_2=>cases hc
 rename_i p q
 cases hc
 refine v_h (yo hB) fun X hP hT hr hG=> ?_
 have hU:=oD.eq_1
 unfold oD at hT
 have hX:=Bool.not_true
 simp only [Tryz.f28,aB,al,ioB]
 have hl:p.length≤1000000000:=hC.1
 refine s_g hG ?_
 refine ak ?_
 refine s_g hG ?_
 refine ao ?_ ?_
 ·intro hb0
  try simp only [bt] at hb0
  refine s_g hG ?_
  refine ax ?_
  refine ay ?_
  refine q_e [] ?_
  exact Iz hb0
 ·intro hb0
  try simp only [bf] at hb0
  have he:p.length=q.length:=by have h9:(p.length:Int)=(q.length:Int):=hb0;omega
  refine ap ?_
  refine ah ?_
  refine ak ?_
  refine s_g hG ?_
  refine aq ?_
  refine bn (fun (z:Nat)=>(⟨[(0, .l (.z (.slice .str) p)),(1, .l (.z (.slice .str) q)),(4, .l (.z .bool false)),(5, .l (.z (.int .i64) (z:Int)))], []⟩:aa)) (fun z=>z≤p.length∧p.take z=q.take z) (fun z=>p.length-z) 0 ?_ ?_ ?_
  ·refine q_l ?_
   rfl
  ·exact ⟨by omega,rfl⟩
  ·rintro k ⟨g1,g2⟩
   try dsimp only at g1 g2
   refine ak ?_
   refine s_g hG ?_
   refine ao ?_ ?_
   ·intro hb1
    try simp only [bt] at hb1
    have hk:k<p.length:=by have h9:(k:Int)<(p.length:Int):=hb1;omega
    refine ap ?_
    refine ah ?_
    refine ak ?_
    refine aq ?_
    refine s_d hG ?_ ?_
    ·try simp only [ba]
     rw [← he]
     exact ⟨⟨by omega,hb1⟩,by omega,hb1⟩
    refine ao ?_ ?_
    ·intro hb2
     try simp only [bt] at hb2
     refine s_g hG ?_
     refine ax ?_
     refine bv ?_
     refine ay ?_
     refine dY ?_
     refine bv ?_
     refine ay ?_
     refine q_e [] ?_
     exact IA hb2
    ·intro hb2
     try simp only [bf] at hb2
     refine ap ?_
     refine aN ?_
     refine ah ?_
     refine ag hG ?_ ?_
     ·first|trivial|omega|(simp;done)|(simp;omega)
     show ∃ z,_
     refine q_l ?_
     exact ⟨k+1,wi (by omega) (by omega),hk,Fg he hk g2 hb2,by omega⟩
   ·intro hb1
    try simp only [bf] at hb1
    have hk: ¬k<p.length:=by have h9: ¬ (k:Int)<(p.length:Int):=hb1;omega
    refine bc ?_
    refine aC ?_
    refine av ?_
    refine au ?_
    refine ah ?_
    refine s_g hG ?_
    refine ax ?_
    refine q_e [] ?_
    exact IB he hk g2
def vS:Con:=il [some (.slice .str),some (.slice .str)] j9
theorem Bd {B:aj} (hB:aA B):Valid B Tryz.prog 28 vS:=eN _ (na hB)
end Go.Proofs.YtdojbabpnaifoaaGreatDoor
end
section
namespace Go.Proofs.YtdojbabpnaifoaaGreatDoor
open Go Go.Cm Go.Proofs
def sc (B:aj):Tab:={types:= [(87,(.slice (.int .u32))),(161,(.int .u32)),(164,(.int .u64))],elems:= [(87,161)],cons:= [(193,tU)],hint:= [],N:=38,base:=B}
theorem Jy {B:aj} (hB:aA B):aF Tryz.prog (sc B):=⟨⟨tc gG (tc fl (tc mb (ae))),aQ (by kernel_rfl) (af),by simp only [sc,ioB];omega⟩,aD (cc Tryz.func193 (Di hB) (aw)),by kernel_rfl⟩
def nb:Con:=fun l os=>match l,os with
 | [.z (.slice (.int .u32)) m, .z (.int .u32) b], []=>some (Lim m∧w7 b∧m.length<CAP, [.z (.slice (.int .u32)) (padL (valL m/b).toNat m.length), .z (.int .u32) (valL m%b)], [])
 |_,_=>none
theorem Lg {B:aj} (hB:aA B):Valid B Tryz.prog 189 nb:=by
 refine ab (Jy hB).tab Tryz.func189 rfl rfl rfl ?_
 intro args os C rs os' hc hC
 unfold nb at hc
 split at hc
 case h_2=>cases hc
 rename_i m b
 cases hc
 refine v_h (Jy hB) fun X hP hT hr hG=> ?_
 have hU:=sc.eq_1
 unfold sc at hT
 have hX:= @tU.eq_1
 simp only [Tryz.f189,aB,al,ioB]
 refine s_g hG ?_
 refine s_q hG ?_ ?_
 ·try simp only [ba]
  exact ⟨by omega,by omega,by have:=hC.2.2;unfold CAP at this;unfold Cm.Roomy;omega⟩
 refine s_g hG ?_
 refine ak ?_
 refine s_g hG ?_
 refine aq ?_
 refine BI hr (gf:=208) (caps:= [.z (.ptr (.slice (.int .u32))) m]) (items:=cG m) (by simp only [hT,sc,mx0,mx1,mx2,mx3,mx4,mx5,mx6,aS,bi,bz,aW,bh,Ty.fieldTy,Ty.fieldOf,Nat.reduceLT,Nat.reduceEqDiff,Nat.reduceAdd,Nat.reduceMul,Nat.reduceSub,Nat.reduceLeDiff,Nat.reduceBEq,Nat.reduceBNe,reduceIte,reduceDIte,reduceCtorEq];try rfl) (by rfl) (by rw [hP];exact x7 m) (by rfl) [3,6,7] (by rfl) (by simp only [hT,sc];try rfl) (fun (k:Nat) (z:Int×List Int)=>(⟨[(3, .l (.z (.ptr (.int .u32)) b)),(6, .l (.ownP 6 0)),(7, .l (.ownP 7 0))], [(6, .box 87 [.ownS 13]),(7, .box 164 [.z (.int .u64) z.1]),(13, .arr (.int .u32) 161 z.2)]⟩:aa)) (fun (k:Nat) (z:Int×List Int)=>jI m b k z.1 z.2) (0,List.replicate (List.length m) 0) ?_ ?_ ?_ ?_ ?_
 ·simp only [ml0,ml1,Nat.reduceLT,Nat.reduceEqDiff,Nat.reduceAdd,Nat.reduceMul,Nat.reduceSub,Nat.reduceLeDiff,Nat.reduceBEq,Nat.reduceBNe,reduceIte,reduceDIte,reduceCtorEq]
  simp
 ·exact w9 hC.2.1
 ·intro k z;rfl
 ·intro k hk
  rintro ⟨r,out⟩ hz
  try dsimp only at hz
  have hk:k<List.length m:=by simpa [cG] using hk
  refine ⟨_,by simp only [hT,sc,cG,rX,mx0,mx1,mx2,mx3,mx4,mx5,mx6,aS,bi,bz,aW,bh,Ty.fieldTy,Ty.fieldOf,Nat.reduceLT,Nat.reduceEqDiff,Nat.reduceAdd,Nat.reduceMul,Nat.reduceSub,Nat.reduceLeDiff,Nat.reduceBEq,Nat.reduceBNe,reduceIte,reduceDIte,reduceCtorEq,List.getElem_map,List.getElem_range];rfl,?_⟩
  intro X' hP' hT'
  have hG':aF X'.P X'.T:=by rw [hP',hT'];exact hG.keep _
  rw [hT] at hT'
  refine aq ?_
  refine ak ?_
  refine mD hG' ?_ ?_
  ·first|trivial|omega|(simp;done)|(simp;omega)
  refine ah ?_
  refine BL hG' ?_ ?_
  ·try simp only [ba]
   have hl:=hz.1
   exact ⟨BT hC.2.1,BT hC.2.1,by omega,by omega⟩
  refine aN ?_
  show ∃ z,_
  simp only [ml0,ml1,Nat.reduceLT,Nat.reduceEqDiff,Nat.reduceAdd,Nat.reduceMul,Nat.reduceSub,Nat.reduceLeDiff,Nat.reduceBEq,Nat.reduceBNe,reduceIte,reduceDIte,reduceCtorEq]
  exact Aj hC.1 hC.2.1 hk hz
 ·rintro ⟨r,out⟩ hz
  try dsimp only at hz
  rw [show List.length (cG m)=List.length m by simp [cG]] at hz
  refine aN ?_
  refine ah ?_
  refine s_d hG ?_ ?_
  ·first|trivial|omega|(simp;done)|(simp;omega)
  refine ax ?_
  refine q_e [13] ?_
  exact Ep hC.1 hC.2.1 hz
def DC (B:aj):Tab:={types:= [(3,(.int .i64)),(87,(.slice (.int .u32))),(161,(.int .u32)),(164,(.int .u64))],elems:= [(87,161)],cons:= [],hint:= [],N:=41,base:=B}
theorem Jz {B:aj} (hB:aA B):aF Tryz.prog (DC B):=⟨⟨tc ty3 (tc gG (tc fl (tc mb (ae)))),aQ (by kernel_rfl) (af),by simp only [DC,ioB];omega⟩,bG rfl,by kernel_rfl⟩
def ky:Con:=fun l os=>match l,os with
 | [.z (.slice (.int .u32)) m, .z (.int .u32) b], []=>some (Lim m∧w8 b∧m.length<CAP, [.own (.int .u32) 161 (padL (valL m*b).toNat (m.length+1))], [])
 |_,_=>none
theorem Lh {B:aj} (hB:aA B):Valid B Tryz.prog 190 ky:=by
 refine ab (Jz hB).tab Tryz.func190 rfl rfl rfl ?_
 intro args os C rs os' hc hC
 unfold ky at hc
 split at hc
 case h_2=>cases hc
 rename_i m b
 cases hc
 refine v_h (Jz hB) fun X hP hT hr hG=> ?_
 have hU:=DC.eq_1
 unfold DC at hT
 have hX:=Bool.not_true
 simp only [Tryz.f190,aB,al,ioB]
 refine s_g hG ?_
 refine s_q hG ?_ ?_
 ·try simp only [ba]
  have h1:List.length m<1000000000000:=hC.2.2
  rw [wi (by omega) (by omega)]
  exact ⟨by omega,by omega,by unfold Cm.Roomy;omega⟩
 refine s_g hG ?_
 refine ak ?_
 refine s_g hG ?_
 refine aq ?_
 refine bn (fun (z:Nat×Int×List Int)=>(⟨[(1, .l (.z (.int .u32) b)),(5, .l (.ownS 13)),(6, .l (.z (.int .u64) z.2.1)),(14, .l (.z (.slice (.int .u32)) m)),(15, .l (.z (.int .i64) (List.length m:Int))),(16, .l (.z (.int .i64) (z.1:Int)))], [(13, .arr (.int .u32) 161 z.2.2)]⟩:aa)) (fun z=>iE m b z.1 z.2.1 z.2.2) (fun z=>List.length m-z.1) (0,0, []) ?_ ?_ ?_
 ·refine q_l ?_
  exact ⟨rfl,rfl⟩
 ·exact uP
 ·rintro ⟨k,c,out⟩ hz
  try dsimp only at hz
  refine s_g hG ?_
  refine ak ?_
  refine ao ?_ ?_
  ·intro hb0
   try simp only [bt] at hb0
   refine ap ?_
   refine ah ?_
   refine ak ?_
   refine aq ?_
   refine s_q hG ?_ ?_
   ·try simp only [ba]
    exact ⟨by omega,hb0⟩
   refine s_g hG ?_
   refine ag hG ?_ ?_
   ·try simp only [ba]
    have h1:List.length m<1000000000000:=hC.2.2
    have h2:=hz.2.1
    exact ⟨by decide,by unfold Cm.Roomy;omega,by decide⟩
   refine aN ?_
   refine ah ?_
   refine ag hG ?_ ?_
   ·first|trivial|omega|(simp;done)|(simp;omega)
   show ∃ z,_
   refine q_l ?_
   exact xb hC.1 hC.2.2 hC.2.1 hb0 hz
  ·intro hb0
   try simp only [bf] at hb0
   refine bc ?_
   refine aC ?_
   refine av ?_
   refine au ?_
   refine ah ?_
   refine s_q hG ?_ ?_
   ·try simp only [ba]
    have h1:List.length m<1000000000000:=hC.2.2
    have h2:=hz.2.1
    have h3:=hz.1
    unfold Cm.Roomy;omega
   refine ax ?_
   refine q_e [] ?_
   exact ⟨trivial,Ak hC.1 hC.2.1 hb0 hz⟩
end Go.Proofs.YtdojbabpnaifoaaGreatDoor
end
section
namespace Go.Proofs.YtdojbabpnaifoaaGreatDoor
open Go Go.Cm Go.Proofs
def DD (B:aj):Tab:={types:= [(2,(.int .i64)),(3,(.int .i64)),(87,(.slice (.int .u32))),(161,(.int .u32)),(164,(.int .u64))],elems:= [],cons:= [],hint:= [],N:=57,base:=B}
theorem JA {B:aj} (hB:aA B):aF Tryz.prog (DD B):=⟨⟨tc ty2 (tc ty3 (tc gG (tc fl (tc mb (ae))))),af,by simp only [DD,ioB];omega⟩,bG rfl,by kernel_rfl⟩
def tY:Con:=fun l os=>match l,os with
 | [.ownS 10000000, .z (.slice (.int .u32)) o, .z (.int .u64) q], [.win (.int .u32) 161 pre xs []]=>some (Lim xs∧Lim o∧w8 q∧o.length+1≤xs.length∧o.length<CAP, [.z .bool (decide (valL (xs.take (o.length+1))<q*valL o))], [.win (.int .u32) 161 pre (put xs (o.length+1) (valL (xs.take (o.length+1))-q*valL o)) []])
 |_,_=>none
theorem Li {B:aj} (hB:aA B):Valid B Tryz.prog 191 tY:=by
 refine ab (JA hB).tab Tryz.func191 rfl rfl rfl ?_
 intro args os C rs os' hc hC
 unfold tY at hc
 split at hc
 case h_2=>cases hc
 rename_i o q pre xs
 cases hc
 refine v_h (JA hB) fun X hP hT hr hG=> ?_
 have hU:=DD.eq_1
 unfold DD at hT
 have hX:=Bool.not_true
 simp only [Tryz.f191,aB,al,ioB]
 refine s_g hG ?_
 refine s_g hG ?_
 refine ak ?_
 refine s_g hG ?_
 refine aq ?_
 refine bn (fun (z:Nat×Int×Int×List Int)=>(⟨[(0, .l (.ownS 10000000)),(1, .l (.z (.slice (.int .u32)) o)),(2, .l (.z (.int .u64) q)),(7, .l (.z (.int .u64) z.2.1)),(8, .l (.z (.int .i64) z.2.2.1)),(14, .l (.z (.int .i64) ((List.length o+1:Nat):Int))),(15, .l (.z (.int .i64) (z.1:Int)))], [(10000000, .win (.int .u32) 161 pre z.2.2.2 [])]⟩:aa)) (fun z=>iX xs o q z.1 z.2.1 z.2.2.1 z.2.2.2) (fun z=>List.length o+1-z.1) (0,0,0,xs) ?_ ?_ ?_
 ·refine q_l ?_
  exact ⟨wi (by omega) (by have:List.length o<1000000000000:=hC.2.2.2.2;omega),rfl⟩
 ·exact Am hC.1
 ·rintro ⟨i,c,b,ys⟩ hz
  try dsimp only at hz
  have hl:=hz.2.1
  have hlen:=hC.2.2.2.1
  refine s_g hG ?_
  refine ak ?_
  refine ao ?_ ?_
  ·intro hb0
   try simp only [bt] at hb0
   refine ap ?_
   refine ah ?_
   refine ak ?_
   refine aq ?_
   refine s_g hG ?_
   refine s_g hG ?_
   refine cd (fun (z:Int)=>(⟨[(0, .l (.ownS 10000000)),(1, .l (.z (.slice (.int .u32)) o)),(2, .l (.z (.int .u64) q)),(8, .l (.z (.int .i64) b)),(9, .l (.z (.int .i64) (i:Int))),(10, .l (.z (.int .u64) z)),(14, .l (.z (.int .i64) ((List.length o+1:Nat):Int))),(15, .l (.z (.int .i64) (i:Int)))], [(10000000, .win (.int .u32) 161 pre ys [])]⟩:aa)) (fun z=>z=c+q*o.getD i 0) ?_ ?_
   ·refine s_g hG ?_
    refine ao ?_ ?_
    ·intro hb1
     try simp only [bt] at hb1
     refine ag hG ?_ ?_
     ·try simp only [ba]
      exact ⟨by omega,hb1⟩
     show ∃ z,_
     refine q_l ?_
     first|exact G8 i hC.2.1 hC.2.2.1 hz.2.2.2.2.1|exact sV hb1
    ·intro hb1
     try simp only [bf] at hb1
     refine ap ?_
     show ∃ z,_
     refine q_l ?_
     first|exact G8 i hC.2.1 hC.2.2.1 hz.2.2.2.2.1|exact sV hb1
   rintro n hn
   try dsimp only at hn
   have hn2:0≤n∧n<LB*LB:=by rw [hn];have:=An i hC.2.1 hC.2.2.1 hz.2.2.2.2.1;exact ⟨this.1,this.2.1⟩
   refine s_q hG ?_ ?_
   ·try simp only [ba]
    decide
   refine s_q hG ?_ ?_
   ·try simp only [ba]
    exact ⟨⟨by omega,by omega⟩,by omega,by decide⟩
   refine s_g hG ?_
   refine cd (fun (z:Int×Int)=>(⟨[(0, .l (.ownS 10000000)),(1, .l (.z (.slice (.int .u32)) o)),(2, .l (.z (.int .u64) q)),(7, .l (.z (.int .u64) (n/LB))),(8, .l (.z (.int .i64) z.2)),(9, .l (.z (.int .i64) (i:Int))),(11, .l (.z (.int .i64) z.1)),(14, .l (.z (.int .i64) ((List.length o+1:Nat):Int))),(15, .l (.z (.int .i64) (i:Int)))], [(10000000, .win (.int .u32) 161 pre ys [])]⟩:aa)) (fun z=>(0≤z.1∧z.1<LB)∧(0≤z.2∧z.2≤1)∧z.1-LB*z.2=ys.getD i 0-n%LB-b) ?_ ?_
   ·refine s_g hG ?_
    refine ao ?_ ?_
    ·intro hb2
     try simp only [bt] at hb2
     refine ag hG ?_ ?_
     ·first|trivial|omega|(simp;done)|(simp;omega)
     show ∃ z,_
     refine q_l ?_
     first|exact (by simpa only [and_assoc] using (lZ hz.2.2.1 hn2 hz.2.2.2.2.2.2.1 rfl).1 hb2)|exact (by simpa only [and_assoc] using (lZ hz.2.2.1 hn2 hz.2.2.2.2.2.2.1 rfl).2 hb2)
    ·intro hb2
     try simp only [bf] at hb2
     refine ap ?_
     show ∃ z,_
     refine q_l ?_
     first|exact (by simpa only [and_assoc] using (lZ hz.2.2.1 hn2 hz.2.2.2.2.2.2.1 rfl).1 hb2)|exact (by simpa only [and_assoc] using (lZ hz.2.2.1 hn2 hz.2.2.2.2.2.2.1 rfl).2 hb2)
   rintro ⟨v,b2⟩ hv
   try dsimp only at hv
   refine ag hG ?_ ?_
   ·try simp only [ba]
    exact ⟨⟨by omega,by omega⟩,by omega⟩
   refine aN ?_
   refine ah ?_
   refine ag hG ?_ ?_
   ·first|trivial|omega|(simp;done)|(simp;omega)
   show ∃ z,_
   refine q_l ?_
   exact Et hC.2.1 hC.2.2.1 hC.2.2.2.1 hC.2.2.2.2 hz hb0 hn hv
  ·intro hb0
   try simp only [bf] at hb0
   refine bc ?_
   refine aC ?_
   refine av ?_
   refine au ?_
   refine ah ?_
   refine s_g hG ?_
   refine ax ?_
   refine q_e [] ?_
   exact ⟨(xd hC.2.2.2.1 hz (by omega)).2,trivial,(xd hC.2.2.2.1 hz (by omega)).1⟩
def DE (B:aj):Tab:={types:= [(3,(.int .i64)),(87,(.slice (.int .u32))),(161,(.int .u32))],elems:= [],cons:= [],hint:= [],N:=37,base:=B}
theorem JB {B:aj} (hB:aA B):aF Tryz.prog (DE B):=⟨⟨tc ty3 (tc gG (tc fl (ae))),af,by simp only [DE,ioB];omega⟩,bG rfl,by kernel_rfl⟩
def tZ:Con:=fun l os=>match l,os with
 | [.ownS 10000000, .z (.slice (.int .u32)) o], [.win (.int .u32) 161 pre xs []]=>some (Lim xs∧Lim o∧o.length+1≤xs.length∧o.length<CAP, [], [.win (.int .u32) 161 pre (put xs (o.length+1) (valL (xs.take (o.length+1))+valL o)) []])
 |_,_=>none
theorem Lj {B:aj} (hB:aA B):Valid B Tryz.prog 192 tZ:=by
 refine ab (JB hB).tab Tryz.func192 rfl rfl rfl ?_
 intro args os C rs os' hc hC
 unfold tZ at hc
 split at hc
 case h_2=>cases hc
 rename_i o pre xs
 cases hc
 refine v_h (JB hB) fun X hP hT hr hG=> ?_
 have hU:=DE.eq_1
 unfold DE at hT
 have hX:=Bool.not_true
 simp only [Tryz.f192,aB,al,ioB]
 refine s_g hG ?_
 refine s_g hG ?_
 refine aq ?_
 refine bn (fun (z:Nat×Int×List Int)=>(⟨[(0, .l (.ownS 10000000)),(1, .l (.z (.slice (.int .u32)) o)),(4, .l (.z (.int .u32) z.2.1)),(9, .l (.z (.int .i64) ((List.length o+1:Nat):Int))),(10, .l (.z (.int .i64) (z.1:Int)))], [(10000000, .win (.int .u32) 161 pre z.2.2 [])]⟩:aa)) (fun z=>iY xs o z.1 z.2.1 z.2.2) (fun z=>List.length o+1-z.1) (0,0,xs) ?_ ?_ ?_
 ·refine q_l ?_
  exact ⟨wi (by omega) (by have:List.length o<1000000000000:=hC.2.2.2;omega),rfl⟩
 ·exact Ap hC.1
 ·rintro ⟨i,c,ys⟩ hz
  try dsimp only at hz
  have hl:=hz.2.1
  have hlen:=hC.2.2.1
  refine s_g hG ?_
  refine ak ?_
  refine ao ?_ ?_
  ·intro hb0
   try simp only [bt] at hb0
   refine ap ?_
   refine ah ?_
   refine ak ?_
   refine aq ?_
   refine s_g hG ?_
   refine s_q hG ?_ ?_
   ·try simp only [ba]
    exact ⟨⟨by omega,by omega⟩,by omega⟩
   refine cd (fun (z:Int)=>(⟨[(0, .l (.ownS 10000000)),(1, .l (.z (.slice (.int .u32)) o)),(5, .l (.z (.int .i64) (i:Int))),(6, .l (.z (.int .u32) z)),(9, .l (.z (.int .i64) ((List.length o+1:Nat):Int))),(10, .l (.z (.int .i64) (i:Int)))], [(10000000, .win (.int .u32) 161 pre ys [])]⟩:aa)) (fun z=>z=ys.getD i 0+c+o.getD i 0) ?_ ?_
   ·refine s_g hG ?_
    refine ao ?_ ?_
    ·intro hb1
     try simp only [bt] at hb1
     refine ag hG ?_ ?_
     ·try simp only [ba]
      exact ⟨by omega,hb1⟩
     show ∃ z,_
     refine q_l ?_
     first|exact (uR i hz.2.2.1 hC.2.1 hz.2.2.2.2.1).2 hb1|exact (uR i hz.2.2.1 hC.2.1 hz.2.2.2.2.1).1
    ·intro hb1
     try simp only [bf] at hb1
     refine ap ?_
     show ∃ z,_
     refine q_l ?_
     first|exact (uR i hz.2.2.1 hC.2.1 hz.2.2.2.2.1).2 hb1|exact (uR i hz.2.2.1 hC.2.1 hz.2.2.2.2.1).1
   rintro n hn
   try dsimp only at hn
   refine ag hG ?_ ?_
   ·try simp only [ba]
    exact ⟨by decide,by decide,⟨by omega,by omega⟩,by omega⟩
   refine aN ?_
   refine ah ?_
   refine ag hG ?_ ?_
   ·first|trivial|omega|(simp;done)|(simp;omega)
   show ∃ z,_
   refine q_l ?_
   exact Eu hC.2.1 hC.2.2.1 hC.2.2.2 hz hb0 hn
  ·intro hb0
   try simp only [bf] at hb0
   refine bc ?_
   refine aC ?_
   refine av ?_
   refine au ?_
   refine q_e [] ?_
   exact ⟨trivial,G7 hC.2.2.1 hz (by omega)⟩
end Go.Proofs.YtdojbabpnaifoaaGreatDoor
end
section
namespace Go.Proofs.YtdojbabpnaifoaaGreatDoor
open Go Go.Cm Go.Proofs
def t6 (B:aj):Tab:={types:= [(3,(.int .i64)),(4, .bool),(87,(.slice (.int .u32))),(89,(.st (.pair .bool (.slice (.int .u32))))),(161,(.int .u32)),(164,(.int .u64))],elems:= [(87,161)],cons:= [(150,dI),(152,es),(189,nb),(190,ky),(191,tY),(192,tZ)],hint:= [52,144,152],N:=172,io:= [(191, [0]),(192, [0])],base:=B}
theorem JC {B:aj} (hB:aA B):aF Tryz.prog (t6 B):=⟨⟨tc ty3 (tc ty4 (tc gG (tc fZ (tc fl (tc mb (ae)))))),aQ (by kernel_rfl) (af),by simp only [t6,ioB];omega⟩,aD (cc Tryz.func150 (jf hB) (cc Tryz.func152 (vE hB) (cc Tryz.func189 (Lg hB) (cc Tryz.func190 (Lh hB) (cc Tryz.func191 (Li hB) (cc Tryz.func192 (Lj hB) (aw))))))),by kernel_rfl⟩
def iL:Con:=fun l os=>match l,os with
 | [.z (.slice (.int .u32)) m, .z (.slice (.int .u32)) o], []=>some (Cano m∧Cano o∧o≠ []∧m.length+o.length+1<CAP, [.z (.slice (.int .u32)) (gN m o), .z (.slice (.int .u32)) (dw m o)], [])
 |_,_=>none
set_option maxHeartbeats 1000000 in
theorem DF {B:aj} (hB:aA B):Valid B Tryz.prog 177 iL:=by
 refine ab (JC hB).tab Tryz.func177 rfl rfl rfl ?_
 intro args os C rs os' hc hC
 unfold iL at hc
 split at hc
 case h_2=>cases hc
 rename_i m o
 cases hc
 refine v_h (JC hB) fun X hP hT hr hG=> ?_
 have hU:=t6.eq_1
 unfold t6 at hT
 have hX:=ai @es.eq_1<|ai @tZ.eq_1<|ai @tY.eq_1<|ai @ky.eq_1<|ai @nb.eq_1<|ai @dI.eq_1<|ai @bO.eq_def<| @b4.eq_def
 simp only [Tryz.f177,aB,al,ioB]
 refine ak ?_
 show J X _ _ _
 refine ag hG ?_ ?_
 ·first|trivial|omega|(simp;done)|(simp;omega)
 refine ah ?_
 refine ak ?_
 refine ak ?_
 show J X _ _ _
 refine ag hG ?_ ?_
 ·try simp only [ba]
  exact ⟨hC.1,hC.2.1,Nat.lt_of_le_of_lt (Nat.le_succ _) hC.2.2.2⟩
 refine ah ?_
 refine ao ?_ ?_
 ·intro hb0
  try simp only [bt] at hb0
  refine ak ?_
  show J X _ _ _
  refine ag hG ?_ ?_
  ·first|trivial|omega|(simp;done)|(simp;omega)
  refine ah ?_
  refine ax ?_
  refine ay ?_
  refine q_e [62] ?_
  exact Hf hb0
 ·intro hb0
  try simp only [bf] at hb0
  refine ap ?_
  refine ah ?_
  refine ak ?_
  refine ak ?_
  show J X _ _ _
  refine ag hG ?_ ?_
  ·first|trivial|omega|(simp;done)|(simp;omega)
  refine ah ?_
  refine ao ?_ ?_
  ·intro hb1
   try simp only [bt] at hb1
   refine ak ?_
   show J X _ _ _
   refine ag hG ?_ ?_
   ·try simp only [ba]
    exact ⟨⟨by omega,by omega⟩,hC.1.1,(div_one hC.2.1 hb0 hb1).1,by have:=hC.2.2.2;omega⟩
   refine ah ?_
   refine ak ?_
   show J X _ _ _
   refine ag hG ?_ ?_
   ·first|trivial|omega|(simp;done)|(simp;omega)
   refine ah ?_
   refine ax ?_
   refine ay ?_
   refine q_e [62] ?_
   exact (div_one hC.2.1 hb0 hb1).2
  ·intro hb1
   simp only [beq_eq_false_iff_ne,ne_eq] at hb1
   obtain ⟨p,hp⟩:∃ p,List.length o=p+2:=nH hC.2.2.1 hb1
   obtain ⟨D,f⟩:∃ D:List Int,fX m o D p:=⟨_,fX.mk' hC.1 hC.2.1 hp (Hg hb0) hC.2.2.2⟩
   have hDl:=f.hDl
   have hcc:=f.hc
   have hlm:=f.hlm
   refine ap ?_
   refine ah ?_
   refine cd (fun (z:Int)=>(⟨[(0, .l (.z (.slice (.int .u32)) m)),(1, .l (.z (.slice (.int .u32)) o)),(8, .l (.z (.int .u32) z))], []⟩:aa)) (fun z=>z=aJ o) ?_ ?_
   ·show J X _ _ _
    refine ag hG ?_ ?_
    ·try simp only [ba]
     have h:=qZ f.ho f.hp (by omega)
     exact ⟨h.1,h.2.1⟩
    show ∃ z,_
    refine q_l ?_
    exact (qZ f.ho f.hp (by omega)).2.2
   rintro d hd
   try dsimp only at hd
   subst hd
   refine ak ?_
   show J X _ _ _
   refine fW hG ?_ ?_
   ·try simp only [ba]
    exact Ez f
   refine ah ?_
   refine ak ?_
   show J X _ _ _
   refine ag hG ?_ ?_
   ·first|trivial|omega|(simp;done)|(simp;omega)
   refine ah ?_
   refine ak ?_
   show J X _ _ _
   refine ag hG ?_ ?_
   ·try simp only [ba]
    exact EA f
   refine ah ?_
   refine ak ?_
   refine ak ?_
   show J X _ _ _
   refine ag hG ?_ ?_
   ·first|trivial|omega|(simp;done)|(simp;omega)
   refine ah ?_
   refine aq ?_
   refine bn (fun (z:Nat×List Int×List Int)=>(⟨[(8, .l (.z (.int .u32) (aJ o))),(9, .l (.ownS 1392)),(10, .l (.z (.slice (.int .u32)) D)),(11, .l (.z (.int .i64) (List.length o:Int))),(12, .l (.ownS 62)),(13, .l (.z (.int .i64) ((z.1:Int)-1)))], [(1392, .arr (.int .u32) 161 z.2.1),(62, .arr (.int .u32) 161 z.2.2)]⟩:aa)) (fun z=>i6 (valL m*aJ o) (valL D) (List.length m) (p+2) z.1 z.2.1 z.2.2) (fun z=>z.1) (List.length m+1-List.length o,padL (valL m*aJ o).toNat (List.length m+1),List.replicate (List.length m+1-List.length o) 0) ?_ ?_ ?_
   ·refine q_l ?_
    exact J5 f
   ·exact Ar f
   ·rintro ⟨k,T,Q⟩ hz
    try dsimp only at hz
    have hz1:=hz.1
    have hz3:=hz.2.2.1
    have hz5:=hz.2.2.2.2.1
    refine ak ?_
    refine ak ?_
    show J X _ _ _
    refine ag hG ?_ ?_
    ·first|trivial|omega|(simp;done)|(simp;omega)
    refine ah ?_
    refine ao ?_ ?_
    ·intro hb2
     try simp only [decide_eq_true_eq] at hb2
     obtain ⟨j,rfl⟩:∃ j,k=j+1:=⟨k-1,by omega⟩
     have ej:(((j+1:Nat)):Int)-1=(j:Int):=by omega
     rw [ej]
     have hw17:(j:Int).toNat<List.length T:=by omega
     have hw19:∀ v:Int,(j:Int).toNat<(List.take (j:Int).toNat T++put (List.drop (j:Int).toNat T) (List.length D+1) v).length:=fun v=>by rw [BX _ (by rw [hDl];omega)];exact hw17
     have ej0:IntKind.i64.wrap ((j:Int)+(List.length o:Int))=((j+(p+2):Nat):Int):=by rw [wi (by omega) (by omega)];omega
     have ej1:IntKind.i64.wrap (((j+(p+2):Nat):Int)-1)=((j+(p+1):Nat):Int):=by rw [wi (by omega) (by omega)];omega
     have ej2:IntKind.i64.wrap (((j+(p+2):Nat):Int)-2)=((j+p:Nat):Int):=by rw [wi (by omega) (by omega)];omega
     have g:=xe (j:=j) (p:=p) hz.2.1 f.hL f.hDl f.hVp (by omega) hz.2.2.2.2.2.2
     have hD1:=(f.hL.getD (p+1)).2
     have hTj:j+(p+3)≤List.length T:=by omega
     refine ap ?_
     refine ah ?_
     refine ak ?_
     refine aq ?_
     refine cd (fun (z:Int)=>(⟨[(8, .l (.z (.int .u32) (aJ o))),(9, .l (.ownS 1392)),(10, .l (.z (.slice (.int .u32)) D)),(11, .l (.z (.int .i64) (List.length o:Int))),(12, .l (.ownS 62)),(13, .l (.z (.int .i64) (j:Int))),(14, .l (.z (.int .u64) z))], [(1392, .arr (.int .u32) 161 T),(62, .arr (.int .u32) 161 Q)]⟩:aa)) (fun z=>z=T.getD (j+(p+2)) 0*LB+T.getD (j+(p+1)) 0∧z<LB*LB) ?_ ?_
     ·show J X _ _ _
      refine fW hG ?_ ?_
      ·try simp only [ba]
       simp only [ej0,ej1,Int.toNat_natCast]
       exact ⟨⟨by omega,by omega⟩,by omega,⟨by omega,by omega⟩,by omega⟩
      show ∃ z,_
      refine q_l ?_
      simp only [f.en1,f.en2,ej0,ej1,ej2,Int.toNat_natCast,fc]
      have:=Hb (hz.2.1.getD (j+(p+2))) (hz.2.1.getD (j+(p+1)))
      rw [this.1]
      exact ⟨rfl,this.2.1⟩
     rintro top ht
     try dsimp only at ht
     have g2:=g
     rw [← ht.1] at g2
     have ht0:=g2.htop
     refine cd (fun (z:Int)=>(⟨[(8, .l (.z (.int .u32) (aJ o))),(9, .l (.ownS 1392)),(10, .l (.z (.slice (.int .u32)) D)),(11, .l (.z (.int .i64) (List.length o:Int))),(12, .l (.ownS 62)),(13, .l (.z (.int .i64) (j:Int))),(14, .l (.z (.int .u64) top)),(15, .l (.z (.int .u64) z))], [(1392, .arr (.int .u32) 161 T),(62, .arr (.int .u32) 161 Q)]⟩:aa)) (fun z=>z=min (top/D.getD (p+1) 0) 999999999) ?_ ?_
     ·show J X _ _ _
      refine ag hG ?_ ?_
      ·try simp only [ba]
       simp only [f.en1,f.en2,ej0,ej1,ej2,Int.toNat_natCast,fc]
       exact ⟨⟨by omega,by omega⟩,(xf ht0 ht.2 g.hD1 hD1).2⟩
      show ∃ z,_
      refine q_l ?_
      simp only [f.en1,f.en2,ej0,ej1,ej2,Int.toNat_natCast,fc]
      rw [(xf ht0 ht.2 g.hD1 hD1).1]
     rintro gs hg
     try dsimp only at hg
     refine ak ?_
     refine aq ?_
     refine bn (fun (z:Int)=>(⟨[(8, .l (.z (.int .u32) (aJ o))),(9, .l (.ownS 1392)),(10, .l (.z (.slice (.int .u32)) D)),(11, .l (.z (.int .i64) (List.length o:Int))),(12, .l (.ownS 62)),(13, .l (.z (.int .i64) (j:Int))),(14, .l (.z (.int .u64) top)),(15, .l (.z (.int .u64) z))], [(1392, .arr (.int .u32) 161 T),(62, .arr (.int .u32) 161 Q)]⟩:aa)) (fun z=>Ey (valL ((T.drop j).take (p+3))) (valL D) top (D.getD (p+1) 0) z) (fun z=>z.toNat) gs ?_ ?_ ?_
     ·simp only [ml0,ml1,Nat.reduceLT,Nat.reduceEqDiff,Nat.reduceAdd,Nat.reduceMul,Nat.reduceSub,Nat.reduceLeDiff,Nat.reduceBEq,Nat.reduceBNe,reduceIte,reduceDIte,reduceCtorEq]
     ·exact J3 g2 hg
     ·rintro q hq
      try dsimp only at hq
      refine ak ?_
      refine ak ?_
      show J X _ _ _
      refine fW hG ?_ ?_
      ·try simp only [ba]
       simp only [f.en1,f.en2,ej0,ej1,ej2,Int.toNat_natCast,fc]
       exact ⟨⟨by omega,by omega⟩,⟨by omega,by omega⟩,⟨by omega,by omega⟩,by omega,fun h=>h,fun h=>⟨h,by omega,by omega⟩,fun h=>h⟩
      refine ah ?_
      refine ao ?_ ?_
      ·intro hb3
       try simp only [bt] at hb3
       refine ap ?_
       refine ah ?_
       refine aq ?_
       show J X _ _ _
       refine ag hG ?_ ?_
       ·first|trivial|omega|(simp;done)|(simp;omega)
       refine aN ?_
       show ∃ z,_
       refine q_l ?_
       simp only [f.en1,f.en2,ej0,ej1,ej2,Int.toNat_natCast,fc] at hb3
       exact LK g2 ht.2 hD1 hq hb3
      ·intro hb3
       try simp only [bf] at hb3
       refine bc ?_
       refine aC ?_
       refine av ?_
       refine au ?_
       refine ah ?_
       refine cd (fun (z:Int×List Int)=>(⟨[(8, .l (.z (.int .u32) (aJ o))),(9, .l (.ownS 1392)),(10, .l (.z (.slice (.int .u32)) D)),(11, .l (.z (.int .i64) (List.length o:Int))),(12, .l (.ownS 62)),(13, .l (.z (.int .i64) (j:Int))),(15, .l (.z (.int .u64) z.1))], [(1392, .arr (.int .u32) 161 z.2),(62, .arr (.int .u32) 161 Q)]⟩:aa)) (fun z=>z.1=valL ((T.drop j).take (p+3))/valL D∧z.2=T.take j++put (T.drop j) (p+3) (valL ((T.drop j).take (p+3))-z.1*valL D)) ?_ ?_
       ·refine ak ?_
        show J X _ _ _
        refine ct hG (by simp only [hw17,hT,t6,bO.eq_def,b4.eq_def,es,tZ,tY,ky,nb,dI,mx0,mx1,mx2,mx3,mx4,mx5,mx6,aS,bi,bz,aW,bh,Ty.fieldTy,Ty.fieldOf,Nat.reduceLT,Nat.reduceEqDiff,Nat.reduceAdd,Nat.reduceMul,Nat.reduceSub,Nat.reduceLeDiff,Nat.reduceBEq,Nat.reduceBNe,reduceIte,reduceDIte,reduceCtorEq];rfl) ?_ ?_
        ·try simp only [ba]
         simp only [Int.toNat_natCast]
         exact ⟨⟨by omega,by omega⟩,⟨hz.2.1.drop j,f.hL,⟨hq.2.2.2,hq.2.1⟩,by rw [hDl,List.length_drop];omega,by rw [hDl];unfold CAP;omega⟩,by rw [List.length_take];omega⟩
        refine ah ?_
        refine ao ?_ ?_
        ·intro hb4
         try simp only [bt] at hb4
         refine ak ?_
         show J X _ _ _
         refine ag hG ?_ ?_
         ·first|trivial|omega|(simp;done)|(simp;omega)
         refine ah ?_
         show J X _ _ _
         refine ct hG (by simp only [hw17,hw19,hT,t6,bO.eq_def,b4.eq_def,es,tZ,tY,ky,nb,dI,mx0,mx1,mx2,mx3,mx4,mx5,mx6,aS,bi,bz,aW,bh,Ty.fieldTy,Ty.fieldOf,Nat.reduceLT,Nat.reduceEqDiff,Nat.reduceAdd,Nat.reduceMul,Nat.reduceSub,Nat.reduceLeDiff,Nat.reduceBEq,Nat.reduceBNe,reduceIte,reduceDIte,reduceCtorEq];rfl) ?_ ?_
         ·try simp only [ba]
          simp only [Int.toNat_natCast,f.hDl3]
          rw [(q8 _ hTj).1,(q8 _ hTj).2,BX _ hTj]
          exact ⟨⟨by omega,by omega⟩,⟨BV (hz.2.1.drop j) _ _,f.hL,by rw [uQ _ (by rw [List.length_drop];omega),List.length_drop];omega,by rw [hDl];unfold CAP;omega⟩,by rw [List.length_take];omega⟩
         show ∃ z,_
         refine q_l ?_
         simp only [Int.toNat_natCast,f.hDl3] at hb4 ⊢
         simp only [f.en1,f.en2,ej0,ej1,ej2,Int.toNat_natCast,fc] at hb3
         have hst:=Hd g2 ht.2 hD1 hq hb3
         first|(have hq1:=hst.1 hb4;have hqn:=g.qnn;have hql:=g.qlt;have hB:LB=1000000000:=rfl;rw [w64 (x:=q-1) (by omega) (by omega),sY hTj];exact ⟨hq1,rfl⟩)|exact ⟨hst.2 hb4,trivial⟩|exact ⟨hst.2 hb4,rfl⟩
        ·intro hb4
         try simp only [bf] at hb4
         refine ap ?_
         show ∃ z,_
         refine q_l ?_
         simp only [Int.toNat_natCast,f.hDl3] at hb4 ⊢
         simp only [f.en1,f.en2,ej0,ej1,ej2,Int.toNat_natCast,fc] at hb3
         have hst:=Hd g2 ht.2 hD1 hq hb3
         first|(have hq1:=hst.1 hb4;have hqn:=g.qnn;have hql:=g.qlt;have hB:LB=1000000000:=rfl;rw [w64 (x:=q-1) (by omega) (by omega),sY hTj];exact ⟨hq1,rfl⟩)|exact ⟨hst.2 hb4,trivial⟩|exact ⟨hst.2 hb4,rfl⟩
       rintro ⟨q2,Tn⟩ hq2
       try dsimp only at hq2
       show J X _ _ _
       refine ag hG ?_ ?_
       ·try simp only [ba]
        exact ⟨⟨by omega,by omega⟩,by omega⟩
       refine aN ?_
       refine ah ?_
       show J X _ _ _
       refine ag hG ?_ ?_
       ·first|trivial|omega|(simp;done)|(simp;omega)
       show ∃ z,_
       refine q_l ?_
       rw [wi (x:=(j:Int)-1) (by omega) (by omega),hq2.2,Int.toNat_natCast,w32 (by rw [hq2.1];exact g.qnn) (by rw [hq2.1];have:=g.qlt;have hB:LB=1000000000:=rfl;omega)]
       exact ⟨j,rfl,Ew f.hL f.hDl f.hVp f.hlm hz hq2.1,by omega⟩
    ·intro hb2
     try simp only [bf] at hb2
     refine bc ?_
     refine aC ?_
     refine av ?_
     refine au ?_
     refine ah ?_
     refine ak ?_
     show J X _ _ _
     refine ag hG ?_ ?_
     ·try simp only [ba]
      exact As f hz (by omega)
     refine ah ?_
     refine ak ?_
     show J X _ _ _
     refine ag hG ?_ ?_
     ·first|trivial|omega|(simp;done)|(simp;omega)
     refine ah ?_
     refine ax ?_
     refine q_e [62] ?_
     obtain rfl:k=0:=by omega
     exact J4 f hz
end Go.Proofs.YtdojbabpnaifoaaGreatDoor
end
section
namespace Go.Proofs.YtdojbabpnaifoaaGreatDoor
open Go Go.Cm Go.Proofs
def DG (B:aj):Tab:={types:= [(3,(.int .i64)),(4, .bool),(87,(.slice (.int .u32))),(89,(.st (.pair .bool (.slice (.int .u32)))))],elems:= [],cons:= [(110,yd),(133,ir),(150,dI),(154,nS),(177,iL),(179,K8)],hint:= [],N:=47,base:=B}
theorem JD {B:aj} (hB:aA B):aF Tryz.prog (DG B):=⟨⟨tc ty3 (tc ty4 (tc gG (tc fZ (ae)))),af,by simp only [DG,ioB];omega⟩,aD (cc Tryz.func110 (vG hB) (cc Tryz.func133 (ov hB) (cc Tryz.func150 (jf hB) (cc Tryz.func154 (vD hB) (cc Tryz.func177 (DF hB) (cc Tryz.func179 (K9 hB) (aw))))))),by kernel_rfl⟩
def DH:Con:=fun l os=>match l,os with
 | [.z (.st (.pair .bool (.slice (.int .u32)))) x, .z (.st (.pair .bool (.slice (.int .u32)))) y], []=>some (mH x y, [.z (.st (.pair .bool (.slice (.int .u32)))) (enc (bH (dec x) (dec y))), .z (.st (.pair .bool (.slice (.int .u32)))) (enc (ip (dec x) (dec y)))], [])
 |_,_=>none
theorem Lk {B:aj} (hB:aA B):Valid B Tryz.prog 149 DH:=by
 refine ab (JD hB).tab Tryz.func149 rfl rfl rfl ?_
 intro args os C rs os' hc hC
 unfold DH at hc
 split at hc
 case h_2=>cases hc
 rename_i x y
 cases hc
 refine v_h (JD hB) fun X hP hT hr hG=> ?_
 have hU:=DG.eq_1
 unfold DG at hT
 have hX:=ai @yd.eq_1<|ai @iL.eq_1<|ai @nS.eq_1<|ai @ir.eq_1<|ai @K8.eq_1<| @dI.eq_1
 simp only [Tryz.f149,aB,al,ioB]
 refine s_g hG ?_
 refine s_q hG ?_ ?_
 ·try simp only [ba]
  exact hC.side1
 refine s_d hG ?_ ?_
 ·try simp only [ba]
  exact hC.side2
 refine ak ?_
 refine s_q hG ?_ ?_
 ·try simp only [ba]
  exact ⟨enc_ok _,fun h=>h⟩
 refine ao ?_ ?_
 ·intro hb0
  try simp only [bt] at hb0
  refine fW hG ?_ ?_
  ·try simp only [ba]
   exact hC.side4
  refine ah ?_
  refine s_d hG ?_ ?_
  ·first|trivial|omega|(simp;done)|(simp;omega)
  refine ax ?_
  refine q_e [] ?_
  exact hC.fin1 hb0
 ·intro hb0
  try simp only [bf] at hb0
  refine ap ?_
  refine ah ?_
  refine s_d hG ?_ ?_
  ·first|trivial|omega|(simp;done)|(simp;omega)
  refine ax ?_
  refine q_e [] ?_
  exact hC.fin2 hb0
end Go.Proofs.YtdojbabpnaifoaaGreatDoor
end
section
namespace Go.Proofs.YtdojbabpnaifoaaGreatDoor
open Go Go.Cm Go.Proofs
def sd (B:aj):Tab:={types:= [(87,(.slice (.int .u32))),(161,(.int .u32)),(164,(.int .u64))],elems:= [],cons:= [(193,tU)],hint:= [],N:=16,base:=B}
theorem JE {B:aj} (hB:aA B):aF Tryz.prog (sd B):=⟨⟨tc gG (tc fl (tc mb (ae))),af,by simp only [sd,ioB];omega⟩,aD (cc Tryz.func193 (Di hB) (aw)),by kernel_rfl⟩
def vT:Con:=fun l os=>match l,os with
 | [.z (.slice (.int .u32)) m], []=>some (Lim m∧m.length≤2, [.z (.int .u64) (valL m)], [])
 |_,_=>none
theorem Ll {B:aj} (hB:aA B):Valid B Tryz.prog 178 vT:=by
 refine ab (JE hB).tab Tryz.func178 rfl rfl rfl ?_
 intro args os C rs os' hc hC
 unfold vT at hc
 split at hc
 case h_2=>cases hc
 rename_i m
 cases hc
 refine v_h (JE hB) fun X hP hT hr hG=> ?_
 have hU:=sd.eq_1
 unfold sd at hT
 have hX:= @tU.eq_1
 simp only [Tryz.f178,aB,al,ioB]
 refine s_g hG ?_
 refine s_g hG ?_
 refine ak ?_
 refine s_g hG ?_
 refine aq ?_
 refine BI hr (gf:=208) (caps:= [.z (.ptr (.slice (.int .u32))) m]) (items:=cG m) (by simp only [hT,sd,mx0,mx1,mx2,mx3,mx4,mx5,mx6,aS,bi,bz,aW,bh,Ty.fieldTy,Ty.fieldOf,Nat.reduceLT,Nat.reduceEqDiff,Nat.reduceAdd,Nat.reduceMul,Nat.reduceSub,Nat.reduceLeDiff,Nat.reduceBEq,Nat.reduceBNe,reduceIte,reduceDIte,reduceCtorEq];try rfl) (by rfl) (by rw [hP];exact x7 m) (by rfl) [3] (by rfl) (by simp only [hT,sd];try rfl) (fun (k:Nat) (z:Int)=>(⟨[(3, .l (.ownP 3 0))], [(3, .box 164 [.z (.int .u64) z])]⟩:aa)) (fun (k:Nat) (z:Int)=>z=valL (List.drop (List.length m-k) m)) 0 ?_ ?_ ?_ ?_ ?_
 ·simp only [ml0,ml1,Nat.reduceLT,Nat.reduceEqDiff,Nat.reduceAdd,Nat.reduceMul,Nat.reduceSub,Nat.reduceLeDiff,Nat.reduceBEq,Nat.reduceBNe,reduceIte,reduceDIte,reduceCtorEq]
 ·rw [G1];rfl
 ·intro k z;rfl
 ·intro k hk
  rintro z hz
  try dsimp only at hz
  have hk:k<List.length m:=by simpa [cG] using hk
  refine ⟨_,by simp only [hT,sd,cG,rX,mx0,mx1,mx2,mx3,mx4,mx5,mx6,aS,bi,bz,aW,bh,Ty.fieldTy,Ty.fieldOf,Nat.reduceLT,Nat.reduceEqDiff,Nat.reduceAdd,Nat.reduceMul,Nat.reduceSub,Nat.reduceLeDiff,Nat.reduceBEq,Nat.reduceBNe,reduceIte,reduceDIte,reduceCtorEq,List.getElem_map,List.getElem_range];rfl,?_⟩
  intro X' hP' hT'
  have hG':aF X'.P X'.T:=by rw [hP',hT'];exact hG.keep _
  rw [hT] at hT'
  refine aq ?_
  refine mD hG' ?_ ?_
  ·first|trivial|omega|(simp;done)|(simp;omega)
  refine aN ?_
  show ∃ z,_
  simp only [ml0,ml1,Nat.reduceLT,Nat.reduceEqDiff,Nat.reduceAdd,Nat.reduceMul,Nat.reduceSub,Nat.reduceLeDiff,Nat.reduceBEq,Nat.reduceBNe,reduceIte,reduceDIte,reduceCtorEq]
  exact wZ hC.1 hC.2 hk hz
 ·rintro z hz
  try dsimp only at hz
  rw [show List.length (cG m)=List.length m by simp [cG],Nat.sub_self,List.drop_zero] at hz
  refine aN ?_
  refine ah ?_
  refine s_g hG ?_
  refine ax ?_
  refine q_e [] ?_
  exact hz
end Go.Proofs.YtdojbabpnaifoaaGreatDoor
end
section
namespace Go.Proofs.YtdojbabpnaifoaaGreatDoor
open Go Go.Cm Go.Proofs
def DI (B:aj):Tab:={types:= [(3,(.int .i64)),(4, .bool),(87,(.slice (.int .u32))),(89,(.st (.pair .bool (.slice (.int .u32))))),(161,(.int .u32)),(164,(.int .u64))],elems:= [(87,161)],cons:= [(150,dI),(177,iL),(178,vT)],hint:= [],N:=68,base:=B}
theorem JF {B:aj} (hB:aA B):aF Tryz.prog (DI B):=⟨⟨tc ty3 (tc ty4 (tc gG (tc fZ (tc fl (tc mb (ae)))))),aQ (by kernel_rfl) (af),by simp only [DI,ioB];omega⟩,aD (cc Tryz.func150 (jf hB) (cc Tryz.func177 (DF hB) (cc Tryz.func178 (Ll hB) (aw)))),by kernel_rfl⟩
def t7:Con:=fun l os=>match l,os with
 | [.z (.st (.pair .bool (.slice (.int .u32)))) x, .z (.st (.pair .bool (.slice (.int .u32)))) y], []=>some (mI x y, [.z (.st (.pair .bool (.slice (.int .u32)))) (enc (cq (dec x) (dec y)))], [])
 |_,_=>none
theorem DJ {B:aj} (hB:aA B):Valid B Tryz.prog 147 t7:=by
 refine ab (JF hB).tab Tryz.func147 rfl rfl rfl ?_
 intro args os C rs os' hc hC
 unfold t7 at hc
 split at hc
 case h_2=>cases hc
 rename_i x y
 cases hc
 refine v_h (JF hB) fun X hP hT hr hG=> ?_
 have hU:=DI.eq_1
 unfold DI at hT
 have hX:=ai @iL.eq_1<|ai @vT.eq_1<| @dI.eq_1
 simp only [Tryz.f147,aB,al,ioB]
 refine s_g hG ?_
 refine s_d hG ?_ ?_
 ·first|trivial|omega|(simp;done)|(simp;omega)
 refine ak ?_
 refine aq ?_
 refine bn (fun (z:List Int×List Int)=>(⟨[(4, .l (.ownP 4 0)),(5, .l (.z (.slice (.int .u32)) z.1)),(6, .l (.z (.slice (.int .u32)) z.2))], [(4, .box 89 [.z .bool false, .val (.slice none 0 0)])]⟩:aa)) (fun z=>uS x y z.1 z.2) (fun z=>(valL z.2).toNat) (x.2,y.2) ?_ ?_ ?_
 ·simp only [ml0,ml1,Nat.reduceLT,Nat.reduceEqDiff,Nat.reduceAdd,Nat.reduceMul,Nat.reduceSub,Nat.reduceLeDiff,Nat.reduceBEq,Nat.reduceBNe,reduceIte,reduceDIte,reduceCtorEq]
 ·exact uS.start hC
 ·rintro ⟨u,v⟩ hz
  try dsimp only at hz
  have hcc:2*(List.length x.2+List.length y.2)+4<1000000000000:=hC.hc
  refine ak ?_
  refine s_g hG ?_
  refine ao ?_ ?_
  ·intro hb0
   try simp only [bt] at hb0
   refine ap ?_
   refine ah ?_
   refine aq ?_
   refine s_q hG ?_ ?_
   ·try simp only [ba]
    exact hz.side3 hC (fD (by omega))
   refine ag hG ?_ ?_
   ·try simp only [ba]
    exact hz.side4 hC (fD (by omega))
   refine aN ?_
   show ∃ z,_
   refine q_l ?_
   exact hz.next hC (fD (by omega))
  ·intro hb0
   try simp only [bf] at hb0
   refine bc ?_
   refine aC ?_
   refine av ?_
   refine au ?_
   refine ah ?_
   refine ak ?_
   refine s_g hG ?_
   refine ao ?_ ?_
   ·intro hb1
    try simp only [bt] at hb1
    refine s_q hG ?_ ?_
    ·try simp only [ba]
     exact ⟨hz.hu.1,by have:=hz.hul;unfold CAP;omega⟩
    refine ax ?_
    refine ay ?_
    refine q_e [65] ?_
    exact hz.stop (At (by omega))
   ·intro hb1
    simp only [beq_eq_false_iff_ne,ne_eq] at hb1
    refine ap ?_
    refine ah ?_
    refine s_q hG ?_ ?_
    ·try simp only [ba]
     exact hz.side3 hC (fD (by omega))
    refine s_q hG ?_ ?_
    ·try simp only [ba]
     have hr:=hz.rest (fD (by omega))
     exact ⟨⟨hz.hv.1,by omega⟩,hz.side4 hC (fD (by omega)),hr.1.1,by omega⟩
    refine ak ?_
    refine aq ?_
    refine bn (fun (z:Int×Int)=>(⟨[(4, .l (.ownP 4 0)),(11, .l (.z (.int .u64) z.1)),(12, .l (.z (.int .u64) z.2))], [(4, .box 89 [.z .bool false, .val (.slice none 0 0)])]⟩:aa)) (fun z=>uT x y z.1 z.2) (fun z=>z.2.toNat) (valL v,valL (enc (dec (false,dw u v))).2) ?_ ?_ ?_
    ·simp only [ml0,ml1,Nat.reduceLT,Nat.reduceEqDiff,Nat.reduceAdd,Nat.reduceMul,Nat.reduceSub,Nat.reduceLeDiff,Nat.reduceBEq,Nat.reduceBNe,reduceIte,reduceDIte,reduceCtorEq]
    ·exact uT.start hz hC (fD (by omega)) (by omega)
    ·rintro ⟨a,b⟩ he
     try dsimp only at he
     refine ak ?_
     refine s_g hG ?_
     refine ao ?_ ?_
     ·intro hb2
      try simp only [bt] at hb2
      refine ap ?_
      refine ah ?_
      refine aq ?_
      refine fW hG ?_ ?_
      ·try simp only [ba]
       omega
      refine aN ?_
      show ∃ z,_
      refine q_l ?_
      exact he.next hb2
     ·intro hb2
      try simp only [decide_eq_false_iff_not] at hb2
      have he2:=he.stop hb2
      refine bc ?_
      refine aC ?_
      refine av ?_
      refine au ?_
      refine ah ?_
      refine s_g hG ?_
      refine ak ?_
      refine aq ?_
      refine bn (fun (z:Nat×List Int)=>(⟨[(11, .l (.z (.int .u64) (z.1:Int))),(13, .l (.ownP 13 0)),(4, .l (.ownP 4 0))], [(13, .box 89 [.z .bool false, .ownS 65]),(65, .arr (.int .u32) 161 z.2),(4, .box 89 [.z .bool false, .val (.slice none 0 0)])]⟩:aa)) (fun z=>z.2++limbs z.1=limbs (cq (dec x) (dec y)).toNat∧z.1<18446744073709551616) (fun z=>z.1) ((cq (dec x) (dec y)).toNat, []) ?_ ?_ ?_
      ·refine q_l ?_
       exact ⟨he2.1,by unfold ioB;omega⟩
      ·exact ⟨by simp,he2.2⟩
      ·rintro ⟨w,l⟩ ⟨g1,g2⟩
       try dsimp only at g1 g2
       refine ak ?_
       refine s_g hG ?_
       refine ao ?_ ?_
       ·intro hb3
        try simp only [bt] at hb3
        refine ap ?_
        refine ah ?_
        refine ak ?_
        refine aq ?_
        refine ag hG ?_ ?_
        ·try simp only [ba]
         have h3:=lf he2.2
         have h4:=congrArg List.length g1
         simp only [List.length_append] at h4
         exact ⟨by decide,by unfold Cm.Roomy;omega⟩
        refine aN ?_
        refine ah ?_
        refine ag hG ?_ ?_
        ·first|trivial|omega|(simp;done)|(simp;omega)
        show ∃ z,_
        refine q_l ?_
        exact nD g1 g2 hb3
       ·intro hb3
        try simp only [bf] at hb3
        refine bc ?_
        refine aC ?_
        refine av ?_
        refine au ?_
        refine ah ?_
        refine s_g hG ?_
        refine ax ?_
        refine q_e [65] ?_
        have h0:w=0:=by omega
        subst h0
        rw [show limbs 0= [] by simp [limbs],List.append_nil] at g1
        rw [g1];exact J7 _ _
end Go.Proofs.YtdojbabpnaifoaaGreatDoor
end
section
namespace Go.Proofs.YtdojbabpnaifoaaGreatDoor
open Go Go.Cm Go.Proofs
def oE (B:aj):Tab:={types:= [(3,(.int .i64)),(4, .bool),(87,(.slice (.int .u32))),(89,(.st (.pair .bool (.slice (.int .u32))))),(91,(.st (.pair (.st (.pair .bool (.slice (.int .u32)))) (.st (.pair .bool (.slice (.int .u32))))))),(161,(.int .u32))],elems:= [],cons:= [(147,t7),(148,yc),(149,DH)],hint:= [2,3,5],N:=43,base:=B}
theorem yp {B:aj} (hB:aA B):aF Tryz.prog (oE B):=⟨⟨tc ty3 (tc ty4 (tc gG (tc fZ (tc ty91 (tc fl (ae)))))),af,by simp only [oE,ioB];omega⟩,aD (cc Tryz.func147 (DJ hB) (cc Tryz.func148 (vC hB) (cc Tryz.func149 (Lk hB) (aw)))),by kernel_rfl⟩
def kT:Con:=fun l os=>match l,os with
 | [.z (.st (.pair .bool (.slice (.int .u32)))) n, .z (.st (.pair .bool (.slice (.int .u32)))) d], []=>some (f8 n d, [.z (.st (.pair (.st (.pair .bool (.slice (.int .u32)))) (.st (.pair .bool (.slice (.int .u32)))))) (bg (Rat.divInt (dec n) (dec d)))], [])
 |_,_=>none
theorem kz {B:aj} (hB:aA B):Valid B Tryz.prog 108 kT:=by
 refine ab (yp hB).tab Tryz.func108 rfl rfl rfl ?_
 intro args os C rs os' hc hC
 unfold kT at hc
 split at hc
 case h_2=>cases hc
 rename_i n d
 cases hc
 refine v_h (yp hB) fun X hP hT hr hG=> ?_
 have hU:=oE.eq_1
 unfold oE at hT
 have hX:=ai @DH.eq_1<|ai @t7.eq_1<| @yc.eq_1
 simp only [Tryz.f108,aB,al,ioB]
 refine s_g hG ?_
 refine s_q hG ?_ ?_
 ·try simp only [ba]
  exact LS hC
 refine cd (fun (z:Int)=>(⟨[(2, .l (.ownP 2 0)),(3, .l (.ownP 3 0)),(4, .l (.ownP 4 0)),(5, .l (.ownP 5 0))], [(2, .box 89 [.z .bool n.1, .z (.slice (.int .u32)) n.2]),(3, .box 89 [.z .bool d.1, .z (.slice (.int .u32)) d.2]),(4, .box 91 [.z .bool false, .val (.slice none 0 0), .z .bool false, .val (.slice none 0 0)]),(5, .box 89 [.z .bool (enc z).1, .z (.slice (.int .u32)) (enc z).2])]⟩:aa)) (fun z=>z=df (dec n) (dec d)) ?_ ?_
 ·refine s_g hG ?_
  refine ao ?_ ?_
  ·intro hb0
   try simp only [bt] at hb0
   refine ag hG ?_ ?_
   ·try simp only [ba]
    exact LT hC
   show ∃ z,_
   refine q_l ?_
   try simp only [pe,bK]
   first|exact ⟨_,rfl,rfl,MC hC hb0⟩|exact ⟨_,rfl,rfl,MD hC hb0⟩
  ·intro hb0
   try simp only [bf] at hb0
   refine ap ?_
   show ∃ z,_
   refine q_l ?_
   try simp only [pe,bK]
   first|exact ⟨_,rfl,rfl,MC hC hb0⟩|exact ⟨_,rfl,rfl,MD hC hb0⟩
 rintro g hg
 try dsimp only at hg
 subst hg
 have hp:=mk_pos hC
 refine ak ?_
 refine s_q hG ?_ ?_
 ·try simp only [ba]
  (repeat' (first|apply And.intro|intro _))<;>(try simp only [decide_eq_true_eq,decide_eq_false_iff_not,Bool.not_eq_true',beq_iff_eq,Int.toNat_natCast] at*)<;>first|assumption|omega|trivial|(simp_all;done)|(simp_all;omega)
 refine ao ?_ ?_
 ·intro hb1
  try simp only [bt] at hb1
  refine s_q hG ?_ ?_
  ·try simp only [ba]
   exact (HF hC).1
  refine ag hG ?_ ?_
  ·try simp only [ba]
   exact (HF hC).2
  refine ah ?_
  refine s_g hG ?_
  refine ax ?_
  refine q_e [] ?_
  simp only [pe,bK]
  exact (lk hC.2.2.1).symm
 ·intro hb1
  try simp only [bf] at hb1
  refine ap ?_
  refine ah ?_
  refine s_g hG ?_
  refine ax ?_
  refine q_e [] ?_
  exact LU hC hb1
end Go.Proofs.YtdojbabpnaifoaaGreatDoor
end
section
namespace Go.Proofs.YtdojbabpnaifoaaGreatDoor
open Go Go.Cm Go.Proofs
def oF (B:aj):Tab:={types:= [(89,(.st (.pair .bool (.slice (.int .u32))))),(91,(.st (.pair (.st (.pair .bool (.slice (.int .u32)))) (.st (.pair .bool (.slice (.int .u32)))))))],elems:= [],cons:= [(108,kT),(109,ye),(110,yd)],hint:= [],N:=22,base:=B}
theorem yq {B:aj} (hB:aA B):aF Tryz.prog (oF B):=⟨⟨tc fZ (tc ty91 (ae)),af,by simp only [oF,ioB];omega⟩,aD (cc Tryz.func108 (kz hB) (cc Tryz.func109 (vH hB) (cc Tryz.func110 (vG hB) (aw)))),by kernel_rfl⟩
def kU:Con:=fun l os=>match l,os with
 | [.z (.st (.pair (.st (.pair .bool (.slice (.int .u32)))) (.st (.pair .bool (.slice (.int .u32)))))) x, .z (.st (.pair (.st (.pair .bool (.slice (.int .u32)))) (.st (.pair .bool (.slice (.int .u32)))))) y], []=>some (fE x y, [.z (.st (.pair (.st (.pair .bool (.slice (.int .u32)))) (.st (.pair .bool (.slice (.int .u32)))))) (bg (bu x+bu y))], [])
 |_,_=>none
theorem kA {B:aj} (hB:aA B):Valid B Tryz.prog 58 kU:=by
 refine ab (yq hB).tab Tryz.func58 rfl rfl rfl ?_
 intro args os C rs os' hc hC
 unfold kU at hc
 split at hc
 case h_2=>cases hc
 rename_i x y
 cases hc
 refine v_h (yq hB) fun X hP hT hr hG=> ?_
 have hU:=oF.eq_1
 unfold oF at hT
 have hX:=ai @yd.eq_1<|ai @kT.eq_1<| @ye.eq_1
 simp only [Tryz.f58,aB,al,ioB]
 refine s_g hG ?_
 refine s_d hG ?_ ?_
 ·try simp only [ba]
  exact EF hC
 refine ax ?_
 refine q_e [] ?_
 simp only [pe2]
 exact HG hC
def oG (B:aj):Tab:={types:= [(89,(.st (.pair .bool (.slice (.int .u32))))),(91,(.st (.pair (.st (.pair .bool (.slice (.int .u32)))) (.st (.pair .bool (.slice (.int .u32)))))))],elems:= [],cons:= [(148,yc)],hint:= [],N:=9,base:=B}
theorem yr {B:aj} (hB:aA B):aF Tryz.prog (oG B):=⟨⟨tc fZ (tc ty91 (ae)),af,by simp only [oG,ioB];omega⟩,aD (cc Tryz.func148 (vC hB) (aw)),by kernel_rfl⟩
def DK:Con:=fun l os=>match l,os with
 | [.z (.st (.pair (.st (.pair .bool (.slice (.int .u32)))) (.st (.pair .bool (.slice (.int .u32)))))) x], []=>some (NOK x∧lq (bu x)≤QC, [.z (.st (.pair (.st (.pair .bool (.slice (.int .u32)))) (.st (.pair .bool (.slice (.int .u32)))))) (bg (-bu x))], [])
 |_,_=>none
theorem Fy {B:aj} (hB:aA B):Valid B Tryz.prog 111 DK:=by
 refine ab (yr hB).tab Tryz.func111 rfl rfl rfl ?_
 intro args os C rs os' hc hC
 unfold DK at hc
 split at hc
 case h_2=>cases hc
 rename_i x
 cases hc
 refine v_h (yr hB) fun X hP hT hr hG=> ?_
 have hU:=oG.eq_1
 unfold oG at hT
 have hX:= @yc.eq_1
 simp only [Tryz.f111,aB,al,ioB]
 refine s_g hG ?_
 refine s_d hG ?_ ?_
 ·try simp only [ba]
  exact EG hC
 refine ax ?_
 refine q_e [] ?_
 exact HH hC.1
def oH (B:aj):Tab:={types:= [(91,(.st (.pair (.st (.pair .bool (.slice (.int .u32)))) (.st (.pair .bool (.slice (.int .u32)))))))],elems:= [],cons:= [(58,kU),(111,DK)],hint:= [],N:=9,base:=B}
theorem yt {B:aj} (hB:aA B):aF Tryz.prog (oH B):=⟨⟨tc ty91 (ae),af,by simp only [oH,ioB];omega⟩,aD (cc Tryz.func58 (kA hB) (cc Tryz.func111 (Fy hB) (aw))),by kernel_rfl⟩
def eR:Con:=fun l os=>match l,os with
 | [.z (.st (.pair (.st (.pair .bool (.slice (.int .u32)))) (.st (.pair .bool (.slice (.int .u32)))))) x, .z (.st (.pair (.st (.pair .bool (.slice (.int .u32)))) (.st (.pair .bool (.slice (.int .u32)))))) y], []=>some (fE x y, [.z (.st (.pair (.st (.pair .bool (.slice (.int .u32)))) (.st (.pair .bool (.slice (.int .u32)))))) (bg (bu x-bu y))], [])
 |_,_=>none
theorem t8 {B:aj} (hB:aA B):Valid B Tryz.prog 60 eR:=by
 refine ab (yt hB).tab Tryz.func60 rfl rfl rfl ?_
 intro args os C rs os' hc hC
 unfold eR at hc
 split at hc
 case h_2=>cases hc
 rename_i x y
 cases hc
 refine v_h (yt hB) fun X hP hT hr hG=> ?_
 have hU:=oH.eq_1
 unfold oH at hT
 have hX:=ai @kU.eq_1<| @DK.eq_1
 simp only [Tryz.f60,aB,al,ioB]
 refine s_g hG ?_
 refine s_d hG ?_ ?_
 ·try simp only [ba]
  exact EH hC
 refine ax ?_
 refine q_e [] ?_
 simp only [pe2]
 exact HI x y
def oI (B:aj):Tab:={types:= [(89,(.st (.pair .bool (.slice (.int .u32))))),(91,(.st (.pair (.st (.pair .bool (.slice (.int .u32)))) (.st (.pair .bool (.slice (.int .u32)))))))],elems:= [],cons:= [(108,kT),(109,ye)],hint:= [],N:=16,base:=B}
theorem yu {B:aj} (hB:aA B):aF Tryz.prog (oI B):=⟨⟨tc fZ (tc ty91 (ae)),af,by simp only [oI,ioB];omega⟩,aD (cc Tryz.func108 (kz hB) (cc Tryz.func109 (vH hB) (aw))),by kernel_rfl⟩
def dN:Con:=fun l os=>match l,os with
 | [.z (.st (.pair (.st (.pair .bool (.slice (.int .u32)))) (.st (.pair .bool (.slice (.int .u32)))))) x, .z (.st (.pair (.st (.pair .bool (.slice (.int .u32)))) (.st (.pair .bool (.slice (.int .u32)))))) y], []=>some (fE x y, [.z (.st (.pair (.st (.pair .bool (.slice (.int .u32)))) (.st (.pair .bool (.slice (.int .u32)))))) (bg (bu x*bu y))], [])
 |_,_=>none
theorem kB {B:aj} (hB:aA B):Valid B Tryz.prog 105 dN:=by
 refine ab (yu hB).tab Tryz.func105 rfl rfl rfl ?_
 intro args os C rs os' hc hC
 unfold dN at hc
 split at hc
 case h_2=>cases hc
 rename_i x y
 cases hc
 refine v_h (yu hB) fun X hP hT hr hG=> ?_
 have hU:=oI.eq_1
 unfold oI at hT
 have hX:=ai @kT.eq_1<| @ye.eq_1
 simp only [Tryz.f105,aB,al,ioB]
 refine s_g hG ?_
 refine s_d hG ?_ ?_
 ·try simp only [ba]
  exact EI hC
 refine ax ?_
 refine q_e [] ?_
 simp only [pe2]
 exact HJ hC
def oJ (B:aj):Tab:={types:= [(89,(.st (.pair .bool (.slice (.int .u32))))),(91,(.st (.pair (.st (.pair .bool (.slice (.int .u32)))) (.st (.pair .bool (.slice (.int .u32)))))))],elems:= [],cons:= [(108,kT),(109,ye)],hint:= [],N:=16,base:=B}
theorem yv {B:aj} (hB:aA B):aF Tryz.prog (oJ B):=⟨⟨tc fZ (tc ty91 (ae)),af,by simp only [oJ,ioB];omega⟩,aD (cc Tryz.func108 (kz hB) (cc Tryz.func109 (vH hB) (aw))),by kernel_rfl⟩
def eS:Con:=fun l os=>match l,os with
 | [.z (.st (.pair (.st (.pair .bool (.slice (.int .u32)))) (.st (.pair .bool (.slice (.int .u32)))))) x, .z (.st (.pair (.st (.pair .bool (.slice (.int .u32)))) (.st (.pair .bool (.slice (.int .u32)))))) y], []=>some (fE x y∧bu y≠0, [.z (.st (.pair (.st (.pair .bool (.slice (.int .u32)))) (.st (.pair .bool (.slice (.int .u32)))))) (bg (bu x/bu y))], [])
 |_,_=>none
theorem ua {B:aj} (hB:aA B):Valid B Tryz.prog 119 eS:=by
 refine ab (yv hB).tab Tryz.func119 rfl rfl rfl ?_
 intro args os C rs os' hc hC
 unfold eS at hc
 split at hc
 case h_2=>cases hc
 rename_i x y
 cases hc
 refine v_h (yv hB) fun X hP hT hr hG=> ?_
 have hU:=oJ.eq_1
 unfold oJ at hT
 have hX:=ai @kT.eq_1<| @ye.eq_1
 simp only [Tryz.f119,aB,al,ioB]
 refine s_g hG ?_
 refine s_d hG ?_ ?_
 ·try simp only [ba]
  exact EJ hC
 refine ax ?_
 refine q_e [] ?_
 simp only [pe2]
 exact HM hC.1
def oK (B:aj):Tab:={types:= [(89,(.st (.pair .bool (.slice (.int .u32))))),(91,(.st (.pair (.st (.pair .bool (.slice (.int .u32)))) (.st (.pair .bool (.slice (.int .u32)))))))],elems:= [],cons:= [(154,nS)],hint:= [],N:=6,base:=B}
theorem yw {B:aj} (hB:aA B):aF Tryz.prog (oK B):=⟨⟨tc fZ (tc ty91 (ae)),af,by simp only [oK,ioB];omega⟩,aD (cc Tryz.func154 (vD hB) (aw)),by kernel_rfl⟩
def ka:Con:=fun l os=>match l,os with
 | [.z (.st (.pair (.st (.pair .bool (.slice (.int .u32)))) (.st (.pair .bool (.slice (.int .u32)))))) x], []=>some (NOK x, [.z (.int .i64) (bo (bu x).num 0)], [])
 |_,_=>none
theorem nc {B:aj} (hB:aA B):Valid B Tryz.prog 114 ka:=by
 refine ab (yw hB).tab Tryz.func114 rfl rfl rfl ?_
 intro args os C rs os' hc hC
 unfold ka at hc
 split at hc
 case h_2=>cases hc
 rename_i x
 cases hc
 refine v_h (yw hB) fun X hP hT hr hG=> ?_
 have hU:=oK.eq_1
 unfold oK at hT
 have hX:= @nS.eq_1
 simp only [Tryz.f114,aB,al,ioB]
 refine s_g hG ?_
 refine s_q hG ?_ ?_
 ·try simp only [ba]
  exact hC.w1
 refine ax ?_
 refine q_e [] ?_
 rw [hC.d1]
def oL (B:aj):Tab:={types:= [(3,(.int .i64)),(89,(.st (.pair .bool (.slice (.int .u32))))),(91,(.st (.pair (.st (.pair .bool (.slice (.int .u32)))) (.st (.pair .bool (.slice (.int .u32)))))))],elems:= [],cons:= [(108,kT),(133,ir)],hint:= [],N:=10,base:=B}
theorem yx {B:aj} (hB:aA B):aF Tryz.prog (oL B):=⟨⟨tc ty3 (tc fZ (tc ty91 (ae))),af,by simp only [oL,ioB];omega⟩,aD (cc Tryz.func108 (kz hB) (cc Tryz.func133 (ov hB) (aw))),by kernel_rfl⟩
def Fz:Con:=fun l os=>match l,os with
 | [.z (.int .i64) n, .z (.int .i64) d], []=>some (I64 n∧I64 d∧d≠0, [.z (.st (.pair (.st (.pair .bool (.slice (.int .u32)))) (.st (.pair .bool (.slice (.int .u32)))))) (bg (Rat.divInt n d))], [])
 |_,_=>none
theorem uc {B:aj} (hB:aA B):Valid B Tryz.prog 124 Fz:=by
 refine ab (yx hB).tab Tryz.func124 rfl rfl rfl ?_
 intro args os C rs os' hc hC
 unfold Fz at hc
 split at hc
 case h_2=>cases hc
 rename_i n d
 cases hc
 refine v_h (yx hB) fun X hP hT hr hG=> ?_
 have hU:=oL.eq_1
 unfold oL at hT
 have hX:=ai @kT.eq_1<| @ir.eq_1
 simp only [Tryz.f124,aB,al,ioB]
 refine s_g hG ?_
 refine s_q hG ?_ ?_
 ·try simp only [ba]
  exact HN hC
 refine ax ?_
 refine q_e [] ?_
 simp only [pe2]
 exact Kg n d
def oM (B:aj):Tab:={types:= [(3,(.int .i64)),(91,(.st (.pair (.st (.pair .bool (.slice (.int .u32)))) (.st (.pair .bool (.slice (.int .u32)))))))],elems:= [],cons:= [(124,Fz)],hint:= [],N:=2,base:=B}
theorem yy {B:aj} (hB:aA B):aF Tryz.prog (oM B):=⟨⟨tc ty3 (tc ty91 (ae)),af,by simp only [oM,ioB];omega⟩,aD (cc Tryz.func124 (uc hB) (aw)),by kernel_rfl⟩
def dO:Con:=fun l os=>match l,os with
 | [], []=>some (True, [.z (.st (.pair (.st (.pair .bool (.slice (.int .u32)))) (.st (.pair .bool (.slice (.int .u32)))))) (bg 0)], [])
 |_,_=>none
theorem kC {B:aj} (hB:aA B):Valid B Tryz.prog 113 dO:=by
 refine ab (yy hB).tab Tryz.func113 rfl rfl rfl ?_
 intro args os C rs os' hc hC
 unfold dO at hc
 split at hc
 case h_2=>cases hc
 cases hc
 refine v_h (yy hB) fun X hP hT hr hG=> ?_
 have hU:=oM.eq_1
 unfold oM at hT
 have hX:= @Fz.eq_1
 simp only [Tryz.f113,aB,al,ioB]
 refine s_g hG ?_
 refine s_q hG ?_ ?_
 ·try simp only [ba]
  exact ⟨by unfold I64;omega,by unfold I64;omega,by decide⟩
 refine ax ?_
 refine q_e [] ?_
 simp only [pe2]
 rw [zero_divInt]
def oN (B:aj):Tab:={types:= [(3,(.int .i64)),(87,(.slice (.int .u32))),(89,(.st (.pair .bool (.slice (.int .u32))))),(91,(.st (.pair (.st (.pair .bool (.slice (.int .u32)))) (.st (.pair .bool (.slice (.int .u32))))))),(161,(.int .u32))],elems:= [],cons:= [],hint:= [],N:=16,base:=B}
theorem yz {B:aj} (hB:aA B):aF Tryz.prog (oN B):=⟨⟨tc ty3 (tc gG (tc fZ (tc ty91 (tc fl (ae))))),af,by simp only [oN,ioB];omega⟩,bG rfl,by kernel_rfl⟩
def oO:Con:=fun l os=>match l,os with
 | [.z (.st (.pair (.st (.pair .bool (.slice (.int .u32)))) (.st (.pair .bool (.slice (.int .u32)))))) x], []=>some (NOK x, [.z .bool (decide ((bu x).den=1))], [])
 |_,_=>none
theorem FA {B:aj} (hB:aA B):Valid B Tryz.prog 170 oO:=by
 refine ab (yz hB).tab Tryz.func170 rfl rfl rfl ?_
 intro args os C rs os' hc hC
 unfold oO at hc
 split at hc
 case h_2=>cases hc
 rename_i x
 cases hc
 refine v_h (yz hB) fun X hP hT hr hG=> ?_
 have hU:=oN.eq_1
 unfold oN at hT
 have hX:=Bool.not_true
 simp only [Tryz.f170,aB,al,ioB]
 refine s_g hG ?_
 refine s_q hG ?_ ?_
 ·try simp only [ba]
  (repeat' (first|apply And.intro|intro _))<;>(try simp only [decide_eq_true_eq,decide_eq_false_iff_not,Bool.not_eq_true',beq_iff_eq,Int.toNat_natCast] at*)<;>first|assumption|omega|trivial|(simp_all;done)|(simp_all;omega)
 refine ax ?_
 refine q_e [] ?_
 exact AA hC
def oP (B:aj):Tab:={types:= [(3,(.int .i64)),(89,(.st (.pair .bool (.slice (.int .u32))))),(91,(.st (.pair (.st (.pair .bool (.slice (.int .u32)))) (.st (.pair .bool (.slice (.int .u32)))))))],elems:= [],cons:= [(169,ou)],hint:= [],N:=17,base:=B}
theorem yA {B:aj} (hB:aA B):aF Tryz.prog (oP B):=⟨⟨tc ty3 (tc fZ (tc ty91 (ae))),af,by simp only [oP,ioB];omega⟩,aD (cc Tryz.func169 (Le hB) (aw)),by kernel_rfl⟩
def nd:Con:=fun l os=>match l,os with
 | [.z (.st (.pair (.st (.pair .bool (.slice (.int .u32)))) (.st (.pair .bool (.slice (.int .u32)))))) x, .z (.int .i64) k], []=>some (NOK x∧lq (bu x)≤QC, [.z .bool (decide (dP (bu x).num≤k∧dP ((bu x).den:Int)≤k))], [])
 |_,_=>none
theorem ud {B:aj} (hB:aA B):Valid B Tryz.prog 129 nd:=by
 refine ab (yA hB).tab Tryz.func129 rfl rfl rfl ?_
 intro args os C rs os' hc hC
 unfold nd at hc
 split at hc
 case h_2=>cases hc
 rename_i x k
 cases hc
 refine v_h (yA hB) fun X hP hT hr hG=> ?_
 have hU:=oP.eq_1
 unfold oP at hT
 have hX:= @ou.eq_1
 simp only [Tryz.f129,aB,al,ioB]
 refine s_g hG ?_
 refine s_q hG ?_ ?_
 ·try simp only [ba]
  exact ⟨(jb hC).1,id,fun h=>⟨h,(jb hC).2⟩,id⟩
 refine ax ?_
 refine q_e [] ?_
 exact EK k hC.1
def oQ (B:aj):Tab:={types:= [(89,(.st (.pair .bool (.slice (.int .u32))))),(91,(.st (.pair (.st (.pair .bool (.slice (.int .u32)))) (.st (.pair .bool (.slice (.int .u32)))))))],elems:= [],cons:= [],hint:= [],N:=8,base:=B}
theorem yB {B:aj} (hB:aA B):aF Tryz.prog (oQ B):=⟨⟨tc fZ (tc ty91 (ae)),af,by simp only [oQ,ioB];omega⟩,bG rfl,by kernel_rfl⟩
def oR:Con:=fun l os=>match l,os with
 | [.z (.st (.pair (.st (.pair .bool (.slice (.int .u32)))) (.st (.pair .bool (.slice (.int .u32)))))) x], []=>some (True, [.z (.st (.pair .bool (.slice (.int .u32)))) x.1, .z (.st (.pair .bool (.slice (.int .u32)))) x.2], [])
 |_,_=>none
theorem FB {B:aj} (hB:aA B):Valid B Tryz.prog 167 oR:=by
 refine ab (yB hB).tab Tryz.func167 rfl rfl rfl ?_
 intro args os C rs os' hc hC
 unfold oR at hc
 split at hc
 case h_2=>cases hc
 rename_i x
 cases hc
 refine v_h (yB hB) fun X hP hT hr hG=> ?_
 have hU:=oQ.eq_1
 unfold oQ at hT
 have hX:=Bool.not_true
 simp only [Tryz.f167,aB,al,ioB]
 refine s_g hG ?_
 refine s_d hG ?_ ?_
 ·first|trivial|omega|(simp;done)|(simp;omega)
 refine ax ?_
 refine q_e [] ?_
 trivial
end Go.Proofs.YtdojbabpnaifoaaGreatDoor
end
section
namespace Go.Proofs.YtdojbabpnaifoaaGreatDoor
open Go Go.Cm Go.Proofs
def oS (B:aj):Tab:={types:= [(9, .str),(89,(.st (.pair .bool (.slice (.int .u32))))),(91,(.st (.pair (.st (.pair .bool (.slice (.int .u32)))) (.st (.pair .bool (.slice (.int .u32)))))))],elems:= [],cons:= [(144,BP),(170,oO)],hint:= [],N:=16,base:=B}
theorem yC {B:aj} (hB:aA B):aF Tryz.prog (oS B):=⟨⟨tc ty9 (tc fZ (tc ty91 (ae))),af,by simp only [oS,ioB];omega⟩,aD (cc Tryz.func144 (J0 hB) (cc Tryz.func170 (FA hB) (aw))),by kernel_rfl⟩
def vU:Con:=fun l os=>match l,os with
 | [.z (.st (.pair (.st (.pair .bool (.slice (.int .u32)))) (.st (.pair .bool (.slice (.int .u32)))))) x], []=>some (NOK x∧lq (bu x)≤QC, [.z .str (bl (bu x))], [])
 |_,_=>none
theorem FC {B:aj} (hB:aA B):Valid B Tryz.prog 130 vU:=by
 refine ab (yC hB).tab Tryz.func130 rfl rfl rfl ?_
 intro args os C rs os' hc hC
 unfold vU at hc
 split at hc
 case h_2=>cases hc
 rename_i x
 cases hc
 refine v_h (yC hB) fun X hP hT hr hG=> ?_
 have hU:=oS.eq_1
 unfold oS at hT
 have hX:=ai @oO.eq_1<| @BP.eq_1
 simp only [Tryz.f130,aB,al,ioB]
 refine s_g hG ?_
 refine ak ?_
 refine s_q hG ?_ ?_
 ·try simp only [ba]
  exact hC.1
 refine ao ?_ ?_
 ·intro hb0
  try simp only [bt] at hb0
  refine s_q hG ?_ ?_
  ·try simp only [ba]
   exact xt hC
  refine ax ?_
  refine ay ?_
  refine q_e [] ?_
  exact EL hC.1 hb0
 ·intro hb0
  try simp only [bf] at hb0
  refine ap ?_
  refine ah ?_
  refine s_d hG ?_ ?_
  ·try simp only [ba]
   exact xu hC
  refine ax ?_
  refine q_e [] ?_
  exact EM hC.1 hb0
end Go.Proofs.YtdojbabpnaifoaaGreatDoor
end
section
namespace Go.Proofs
open Go.RowKit Go.Cm
def FD:Con:=fun l os=>match l,os with
 | [.z .str s, .z .str t], []=>some (t= [47]∧s.length<4294967281, [.z .str (tN s), .z .str (if b6 s=true then tR s else []), .z .bool (b6 s)], [])
 |_,_=>none
theorem ue {B:aj} (hB:aA B):Valid B Tryz.prog 131 FD:=by
 intro args os C rs os' hc hC O w vals ρ0 hOn hIo hO hOI hargs hown hap
 unfold FD at hc
 split at hc
 case h_2=>cases hc
 rename_i s t
 cases hc
 obtain ⟨u,v,rfl,hu,hv⟩:=wR hargs
 rw [eY hv,eY hu]
 obtain ⟨rfl,h1⟩:=hC
 obtain ⟨m,hm⟩:=hB.2 w hOn
 have hsz:(⟨s.toArray⟩:ByteArray).size=s.length:=by simp [ByteArray.size]
 refine (Tryz.strings_Cut ⟨s.toArray⟩ ⟨[47].toArray⟩ m w (by rw [hsz];exact h1) hm).mono fun e w' ⟨he,n,hw⟩=> ?_
 have hb:Below w.heap.size w w':=by rw [hw];exact ⟨rfl,rfl,rfl,Nat.le_refl _,fun _ _=>rfl⟩
 have e1:Lib.cut (⟨s.toArray⟩:ByteArray).data.toList (⟨[47].toArray⟩:ByteArray).data.toList=(tN s,if b6 s=true then tR s else [],b6 s):=by simpa using EN s
 rw [e1] at he
 subst he
 exact lT (vs:= [.string ⟨(tN s).toArray⟩, .string ⟨(if b6 s=true then tR s else []).toArray⟩, .bool (b6 s)]) hb (fun H M=>⟨ev (ρ:=fun _=>undef),ev (ρ:=fun _=>undef),bP (ρ:=fun _=>undef),trivial⟩)
end Go.Proofs
end
section
namespace Go.Proofs.YtdojbabpnaifoaaGreatDoor
open Go Go.Cm Go.Proofs
def DL (B:aj):Tab:={types:= [(3,(.int .i64)),(5,(.int .u8)),(9, .str),(47,(.slice (.int .u8)))],elems:= [(47,5)],cons:= [(172,et)],hint:= [],N:=38,base:=B}
theorem JG {B:aj} (hB:aA B):aF Tryz.prog (DL B):=⟨⟨tc ty3 (tc ty5 (tc ty9 (tc MM (ae)))),aQ (by kernel_rfl) (af),by simp only [DL,ioB];omega⟩,aD (cc Tryz.func172 (Dg hB) (aw)),by kernel_rfl⟩
def vV:Con:=fun l os=>match l,os with
 | [.z .str s], []=>some (lY s, [.z (.int .i64) (chk s)], [])
 |_,_=>none
theorem Lm {B:aj} (hB:aA B):Valid B Tryz.prog 142 vV:=by
 refine ab (JG hB).tab Tryz.func142 rfl rfl rfl ?_
 intro args os C rs os' hc hC
 unfold vV at hc
 split at hc
 case h_2=>cases hc
 rename_i s
 cases hc
 refine v_h (JG hB) fun X hP hT hr hG=> ?_
 have hU:=DL.eq_1
 unfold DL at hT
 have hX:= @et.eq_1
 simp only [Tryz.f142,aB,al,ioB]
 refine s_g hG ?_
 refine BG ?_
 refine s_g hG ?_
 refine s_g hG ?_
 refine ak ?_
 refine BF ?_
 refine ah ?_
 refine cd (fun (z:Int)=>(⟨[(4, .l (.z (.int .i64) z))], []⟩:aa)) (fun z=>z=chk s) ?_ ?_
 ·refine aq ?_
  refine s_g hG ?_
  refine ao ?_ ?_
  ·intro hb0
   try simp only [bt] at hb0
   refine ap ?_
   refine aN ?_
   show ∃ z,_
   refine q_l ?_
   first|(rw [hb0];exact jJ.symm)|exact (iF hb0 ((gr _).1 hb1)).symm|exact (lX hb0 (dB hb1) (by rw [de] at hb2;omega) (jK hb3)).symm|(rw [de] at hb2;rw [iG hb0 (dB hb1) (by rw [List.take_of_length_le (by omega)] at g2;exact g2)];first|rw [if_pos (by omega)]|rw [if_neg (by omega)])
  ·intro hb0
   try simp only [bf] at hb0
   refine s_q hG ?_ ?_
   ·try simp only [ba]
    exact G3 _
   refine ao ?_ ?_
   ·intro hb1
    try simp only [bt] at hb1
    refine ag hG ?_ ?_
    ·first|trivial|omega|(simp;done)|(simp;omega)
    refine aN ?_
    show ∃ z,_
    refine q_l ?_
    first|(rw [hb0];exact jJ.symm)|exact (iF hb0 ((gr _).1 hb1)).symm|exact (lX hb0 (dB hb1) (by rw [de] at hb2;omega) (jK hb3)).symm|(rw [de] at hb2;rw [iG hb0 (dB hb1) (by rw [List.take_of_length_le (by omega)] at g2;exact g2)];first|rw [if_pos (by omega)]|rw [if_neg (by omega)])
   ·intro hb1
    try simp only [bf] at hb1
    refine ak ?_
    refine s_q hG ?_ ?_
    ·try simp only [ba]
     have:=ff s [45]
     have hC:s.length<70368744177664:=hC
     omega
    refine aq ?_
    refine bn (fun (z:Nat)=>(⟨[(0, .l (.z .str s)),(3, .l (.z .str (ar s [45]))),(4, .l (.z (.int .i64) 0)),(10, .l (.z (.slice (.int .u8)) (bytesOf (ar s [45])))),(11, .l (.z (.int .i64) ((bytesOf (ar s [45])).length:Int))),(12, .l (.z (.int .i64) (z:Int)))], []⟩:aa)) (fun z=>z≤(ar s [45]).length∧(List.take z (ar s [45])).all f7=true) (fun z=>(ar s [45]).length-z) 0 ?_ ?_ ?_
    ·refine q_l ?_
     rfl
    ·exact ⟨Nat.zero_le _,rfl⟩
    ·rintro k ⟨g1,g2⟩
     try dsimp only at g1 g2
     have hS:(ar s [45]).length<70368744177664:=Nat.lt_of_le_of_lt (ff s _) hC
     refine s_g hG ?_
     refine ak ?_
     refine ao ?_ ?_
     ·intro hb2
      try simp only [bt] at hb2
      refine ap ?_
      refine ah ?_
      refine ak ?_
      refine aq ?_
      refine s_q hG ?_ ?_
      ·try simp only [ba]
       exact ⟨by omega,hb2⟩
      refine s_q hG ?_ ?_
      ·try simp only [ba]
       exact ⟨fun h=>h,fun h=>by rw [h];rfl⟩
      refine ao ?_ ?_
      ·intro hb3
       try simp only [bt] at hb3
       refine s_g hG ?_
       refine bc ?_
       refine gW rfl ?_
       refine aC ?_
       refine av ?_
       refine gW rfl ?_
       refine aC ?_
       refine au ?_
       show ∃ z,_
       refine q_l ?_
       first|(rw [hb0];exact jJ.symm)|exact (iF hb0 ((gr _).1 hb1)).symm|exact (lX hb0 (dB hb1) (by rw [de] at hb2;omega) (jK hb3)).symm|(rw [de] at hb2;rw [iG hb0 (dB hb1) (by rw [List.take_of_length_le (by omega)] at g2;exact g2)];first|rw [if_pos (by omega)]|rw [if_neg (by omega)])
      ·intro hb3
       try simp only [bf] at hb3
       refine ap ?_
       refine aN ?_
       refine ah ?_
       refine ag hG ?_ ?_
       ·first|trivial|omega|(simp;done)|(simp;omega)
       show ∃ z,_
       refine q_l ?_
       rw [de] at hb2
       exact ⟨k+1,by rw [wi (by omega) (by omega)];simp,by omega,so g2 (Er hb3),by omega⟩
     ·intro hb2
      try simp only [bf] at hb2
      refine bc ?_
      refine aC ?_
      refine av ?_
      refine au ?_
      refine ah ?_
      refine s_g hG ?_
      refine ao ?_ ?_
      ·intro hb4
       try simp only [bt] at hb4
       refine ag hG ?_ ?_
       ·first|trivial|omega|(simp;done)|(simp;omega)
       refine aN ?_
       show ∃ z,_
       refine q_l ?_
       first|(rw [hb0];exact jJ.symm)|exact (iF hb0 ((gr _).1 hb1)).symm|exact (lX hb0 (dB hb1) (by rw [de] at hb2;omega) (jK hb3)).symm|(rw [de] at hb2;rw [iG hb0 (dB hb1) (by rw [List.take_of_length_le (by omega)] at g2;exact g2)];first|rw [if_pos (by omega)]|rw [if_neg (by omega)])
      ·intro hb4
       try simp only [bf] at hb4
       refine ap ?_
       refine aN ?_
       show ∃ z,_
       refine q_l ?_
       first|(rw [hb0];exact jJ.symm)|exact (iF hb0 ((gr _).1 hb1)).symm|exact (lX hb0 (dB hb1) (by rw [de] at hb2;omega) (jK hb3)).symm|(rw [de] at hb2;rw [iG hb0 (dB hb1) (by rw [List.take_of_length_le (by omega)] at g2;exact g2)];first|rw [if_pos (by omega)]|rw [if_neg (by omega)])
 rintro z hz
 try dsimp only at hz
 refine s_g hG ?_
 refine ax ?_
 refine fN ?_
 refine q_e [] ?_
 exact hz
end Go.Proofs.YtdojbabpnaifoaaGreatDoor
end
section
namespace Go.Proofs.YtdojbabpnaifoaaGreatDoor
open Go Go.Cm Go.Proofs
def oT (B:aj):Tab:={types:= [(3,(.int .i64)),(4, .bool),(9, .str),(87,(.slice (.int .u32))),(89,(.st (.pair .bool (.slice (.int .u32))))),(161,(.int .u32)),(164,(.int .u64))],elems:= [(87,161)],cons:= [(150,dI),(172,et),(173,uN)],hint:= [],N:=44,base:=B}
theorem yD {B:aj} (hB:aA B):aF Tryz.prog (oT B):=⟨⟨tc ty3 (tc ty4 (tc ty9 (tc gG (tc fZ (tc fl (tc mb (ae))))))),aQ (by kernel_rfl) (af),by simp only [oT,ioB];omega⟩,aD (cc Tryz.func150 (jf hB) (cc Tryz.func172 (Dg hB) (cc Tryz.func173 (JY hB) (aw)))),by kernel_rfl⟩
def vW:Con:=fun l os=>match l,os with
 | [.z .str s], []=>some (RF s∧s.length<CAP, [.z (.st (.pair .bool (.slice (.int .u32)))) (enc (an s))], [])
 |_,_=>none
theorem FE {B:aj} (hB:aA B):Valid B Tryz.prog 132 vW:=by
 refine ab (yD hB).tab Tryz.func132 rfl rfl rfl ?_
 intro args os C rs os' hc hC
 unfold vW at hc
 split at hc
 case h_2=>cases hc
 rename_i s
 cases hc
 refine v_h (yD hB) fun X hP hT hr hG=> ?_
 have hU:=oT.eq_1
 unfold oT at hT
 have hX:=ai @uN.eq_1<|ai @et.eq_1<| @dI.eq_1
 simp only [Tryz.f132,aB,al,ioB]
 refine s_g hG ?_
 refine s_g hG ?_
 refine s_g hG ?_
 refine ak ?_
 refine s_g hG ?_
 refine aq ?_
 refine bn (fun (z:Nat×List Int)=>(⟨[(3, .l (.z .str (ar s [45]))),(5, .l (.z (.int .i64) (((ar s [45]).length:Int)-9*(z.1:Int)))),(4, .l (.ownP 4 0)),(2, .l (.ownP 2 0))], [(4, .box 89 [.z .bool (decide ((ar s [45]).length<s.length)), .ownS 37]),(37, .arr (.int .u32) 161 z.2),(2, .box 89 [.z .bool false, .val (.slice none 0 0)])]⟩:aa)) (fun z=>ReadPhi (ar s [45]) z.1 z.2) (fun z=>(ar s [45]).length+9-9*z.1) (0, []) ?_ ?_ ?_
 ·refine q_l ?_
  exact ⟨by show ((ar s [45]).length:Int)=((ar s [45]).length:Int)-9*((0:Nat):Int);omega,by congr 1;simp,by unfold ioB;omega⟩
 ·exact read_start
 ·rintro ⟨r,out⟩ hz
  try dsimp only at hz
  obtain ⟨d1,d2,d4⟩:=gi hC.1
  have d3:(ar s [45]).length<1000000000000:=Nat.lt_of_le_of_lt (ff s _) hC.2
  have hz1:=hz.1
  have hz4:=hz.2.2.2
  refine ak ?_
  refine s_g hG ?_
  refine ao ?_ ?_
  ·intro hb0
   try simp only [bt] at hb0
   refine ap ?_
   refine ah ?_
   refine ak ?_
   refine aq ?_
   refine s_q hG ?_ ?_
   ·try simp only [ba]
    obtain ⟨e1,e2,e3⟩:=s8 hb0 d3
    obtain ⟨q1,q2,q3,q4,q5⟩:=read_next d1 hz hb0 rfl
    rw [e1,e2,e3]
    exact ⟨⟨by omega,by omega,by omega⟩,q1,q2,q3⟩
   refine ag hG ?_ ?_
   ·try simp only [ba]
    unfold Cm.Roomy;omega
   refine aN ?_
   refine ah ?_
   refine ag hG ?_ ?_
   ·first|trivial|omega|(simp;done)|(simp;omega)
   show ∃ z,_
   refine q_l ?_
   obtain ⟨e1,e2,e3⟩:=s8 hb0 d3
   obtain ⟨q1,q2,q3,q4,q5⟩:=read_next d1 hz hb0 rfl
   rw [e1,e2,e3]
   exact ⟨r+1,by show ((ar s [45]).length:Int)-9*(r:Int)-9=((ar s [45]).length:Int)-9*((r+1:Nat):Int);omega,q4,by omega⟩
  ·intro hb0
   try simp only [bf] at hb0
   refine bc ?_
   refine aC ?_
   refine av ?_
   refine au ?_
   refine ah ?_
   refine s_q hG ?_ ?_
   ·try simp only [ba]
    exact ⟨hz.2.1,by unfold CAP;omega⟩
   refine ax ?_
   refine q_e [37] ?_
   rw [read_end hz hb0]
def oU (B:aj):Tab:={types:= [(3,(.int .i64)),(9, .str),(91,(.st (.pair (.st (.pair .bool (.slice (.int .u32)))) (.st (.pair .bool (.slice (.int .u32)))))))],elems:= [],cons:= [(131,FD),(132,vW),(133,ir)],hint:= [],N:=23,base:=B}
theorem yE {B:aj} (hB:aA B):aF Tryz.prog (oU B):=⟨⟨tc ty3 (tc ty9 (tc ty91 (ae))),af,by simp only [oU,ioB];omega⟩,aD (cc Tryz.func131 (ue hB) (cc Tryz.func132 (FE hB) (cc Tryz.func133 (ov hB) (aw)))),by kernel_rfl⟩
def nU:Con:=fun l os=>match l,os with
 | [.z .str q], []=>some (fp q, [.z (.st (.pair (.st (.pair .bool (.slice (.int .u32)))) (.st (.pair .bool (.slice (.int .u32)))))) (fP q)], [])
 |_,_=>none
theorem nf {B:aj} (hB:aA B):Valid B Tryz.prog 90 nU:=by
 refine ab (yE hB).tab Tryz.func90 rfl rfl rfl ?_
 intro args os C rs os' hc hC
 unfold nU at hc
 split at hc
 case h_2=>cases hc
 rename_i q
 cases hc
 refine v_h (yE hB) fun X hP hT hr hG=> ?_
 have hU:=oU.eq_1
 unfold oU at hT
 have hX:=ai @FD.eq_1<|ai @vW.eq_1<| @ir.eq_1
 simp only [Tryz.f90,aB,al,ioB]
 refine s_g hG ?_
 refine s_q hG ?_ ?_
 ·try simp only [ba]
  exact (mN hC).1
 refine ak ?_
 refine s_g hG ?_
 refine ao ?_ ?_
 ·intro hb0
  try simp only [bt] at hb0
  refine s_q hG ?_ ?_
  ·try simp only [ba]
   exact ⟨(mN hC).2.1,by unfold I64;omega⟩
  refine ax ?_
  refine ay ?_
  refine q_e [] ?_
  exact HQ hb0
 ·intro hb0
  try simp only [bf] at hb0
  refine ap ?_
  refine ah ?_
  refine s_q hG ?_ ?_
  ·try simp only [ba]
   rw [jQ hb0]
   exact (mN hC).2
  refine ax ?_
  refine q_e [] ?_
  rw [jQ hb0];rfl
def oV (B:aj):Tab:={types:= [(3,(.int .i64)),(9, .str),(31,(.int .i64)),(46, .str),(89,(.st (.pair .bool (.slice (.int .u32))))),(91,(.st (.pair (.st (.pair .bool (.slice (.int .u32)))) (.st (.pair .bool (.slice (.int .u32))))))),(151,(.st (.pair (.st (.pair (.st (.pair .bool (.slice (.int .u32)))) (.st (.pair .bool (.slice (.int .u32)))))) (.int .i64))))],elems:= [],cons:= [(90,nU),(129,nd),(131,FD),(133,ir),(142,vV),(147,t7),(167,oR),(168,Lc)],hint:= [],N:=61,base:=B}
theorem yF {B:aj} (hB:aA B):aF Tryz.prog (oV B):=⟨⟨tc ty3 (tc ty9 (tc kH (tc ma (tc fZ (tc ty91 (tc Lr (ae))))))),af,by simp only [oV,ioB];omega⟩,aD (cc Tryz.func90 (nf hB) (cc Tryz.func129 (ud hB) (cc Tryz.func131 (ue hB) (cc Tryz.func133 (ov hB) (cc Tryz.func142 (Lm hB) (cc Tryz.func147 (DJ hB) (cc Tryz.func167 (FB hB) (cc Tryz.func168 (Ld hB) (aw))))))))),by kernel_rfl⟩
def vX:Con:=fun l os=>match l,os with
 | [.z .str q], []=>some (q.length≤QL, [.z (.st (.pair (.st (.pair (.st (.pair .bool (.slice (.int .u32)))) (.st (.pair .bool (.slice (.int .u32)))))) (.int .i64))) (jP q)], [])
 |_,_=>none
theorem FF {B:aj} (hB:aA B):Valid B Tryz.prog 128 vX:=by
 refine ab (yF hB).tab Tryz.func128 rfl rfl rfl ?_
 intro args os C rs os' hc hC
 unfold vX at hc
 split at hc
 case h_2=>cases hc
 rename_i q
 cases hc
 refine v_h (yF hB) fun X hP hT hr hG=> ?_
 have hU:=oV.eq_1
 unfold oV at hT
 have hX:=ai @vV.eq_1<|ai @Lc.eq_1<|ai @FD.eq_1<|ai @nU.eq_1<|ai @t7.eq_1<|ai @nd.eq_1<|ai @oR.eq_1<| @ir.eq_1
 simp only [Tryz.f128,aB,al,ioB]
 refine s_g hG ?_
 refine s_q hG ?_ ?_
 ·try simp only [ba]
  have h9:q.length≤1000000000:=hC
  omega
 refine cd (fun (z:Unit)=>(⟨[(0, .l (.z .str q)),(2, .l (.ownP 2 0)),(3, .l (.z .str (tN q))),(4, .l (.z .str (tD q))),(5, .l (.z .bool (b6 q)))], [(2, .box 151 [.z .bool false, .val (.slice none 0 0), .z .bool false, .val (.slice none 0 0), .z (.int .i64) 0])]⟩:aa)) (fun z=>True) ?_ ?_
 ·refine s_g hG ?_
  refine ao ?_ ?_
  ·intro hb0
   try simp only [bt] at hb0
   refine ag hG ?_ ?_
   ·first|trivial|omega|(simp;done)|(simp;omega)
   show ∃ z,_
   refine q_l ?_
   first|exact uZ hb0|exact jQ hb0
  ·intro hb0
   try simp only [bf] at hb0
   refine ap ?_
   show ∃ z,_
   refine q_l ?_
   first|exact uZ hb0|exact jQ hb0
 rintro ⟨⟩-
 have hS:=HR hC
 refine ak ?_
 refine s_q hG ?_ ?_
 ·try simp only [ba]
  exact ⟨hS.1,fun h=>⟨h,hS.2⟩,fun h=>h,fun h=>by rw [h];rfl⟩
 refine ao ?_ ?_
 ·intro hb1
  try simp only [bt] at hb1
  refine s_g hG ?_
  refine ax ?_
  refine ay ?_
  refine q_e [] ?_
  exact Kj hb1
 ·intro hb1
  try simp only [bf] at hb1
  have hF:=Ki hC hb1
  refine ap ?_
  refine ah ?_
  refine s_q hG ?_ ?_
  ·try simp only [ba]
   exact hF
  refine s_g hG ?_
  refine s_q hG ?_ ?_
  ·try simp only [ba]
   unfold I64;omega
  refine ak ?_
  refine aq ?_
  refine s_d hG ?_ ?_
  ·try simp only [ba]
   simp only [pe,fP,bK]
   exact ⟨fun h=>⟨h,enc_ok _,enc_ok _,ME hF⟩,fun h=>h,fun h=>h,fun h=>⟨h,LX hF⟩,fun h=>⟨h,enc_ok _,enc_ok _,MF hF⟩,fun h=>h,fun h=>⟨h,fun h2=>by rw [h,h2];rfl⟩,fun h=>h⟩
  refine ao ?_ ?_
  ·intro hb2
   try simp only [bt] at hb2
   simp only [pe,fP,bK] at hb2
   refine s_g hG ?_
   refine ax ?_
   refine bv ?_
   refine ay ?_
   refine q_e [] ?_
   exact Kk hF hb2
  ·intro hb2
   try simp only [bf] at hb2
   simp only [pe,fP,bK] at hb2
   have hR:=MG hF hb2
   refine s_q hG ?_ ?_
   ·try simp only [ba]
    exact Kl hR
   refine ao ?_ ?_
   ·intro hb3
    try simp only [bt] at hb3
    refine s_g hG ?_
    refine ax ?_
    refine bv ?_
    refine ay ?_
    refine q_e [] ?_
    exact LZ hR hb3
   ·intro hb3
    try simp only [bf] at hb3
    refine ap ?_
    refine aN ?_
    refine ah ?_
    refine s_g hG ?_
    refine ax ?_
    refine q_e [] ?_
    exact MH hR hb3
def oW (B:aj):Tab:={types:= [(46, .str),(151,(.st (.pair (.st (.pair (.st (.pair .bool (.slice (.int .u32)))) (.st (.pair .bool (.slice (.int .u32)))))) (.int .i64))))],elems:= [],cons:= [(128,vX)],hint:= [],N:=6,base:=B}
theorem yG {B:aj} (hB:aA B):aF Tryz.prog (oW B):=⟨⟨tc ma (tc Lr (ae)),af,by simp only [oW,ioB];omega⟩,aD (cc Tryz.func128 (FF hB) (aw)),by kernel_rfl⟩
def kD:Con:=fun l os=>match l,os with
 | [.z .str q], []=>some (q.length≤QL, [.z (.int .i64) (c6 q)], [])
 |_,_=>none
theorem uf {B:aj} (hB:aA B):Valid B Tryz.prog 87 kD:=by
 refine ab (yG hB).tab Tryz.func87 rfl rfl rfl ?_
 intro args os C rs os' hc hC
 unfold kD at hc
 split at hc
 case h_2=>cases hc
 rename_i q
 cases hc
 refine v_h (yG hB) fun X hP hT hr hG=> ?_
 have hU:=oW.eq_1
 unfold oW at hT
 have hX:= @vX.eq_1
 simp only [Tryz.f87,aB,al,ioB]
 refine s_g hG ?_
 refine s_q hG ?_ ?_
 ·try simp only [ba]
  exact hC
 refine ax ?_
 refine q_e [] ?_
 exact EO q
end Go.Proofs.YtdojbabpnaifoaaGreatDoor
end
section
namespace Go.Proofs.YtdojbabpnaifoaaGreatDoor
open Go Go.Cm Go.Proofs
def oX (B:aj):Tab:={types:= [(3,(.int .i64)),(22,(.slice .str)),(46, .str),(78,(.slice (.st (.pair (.st (.pair .bool (.slice (.int .u32)))) (.st (.pair .bool (.slice (.int .u32))))))))],elems:= [(78,91)],cons:= [(90,nU)],hint:= [18],N:=22,base:=B}
theorem yH {B:aj} (hB:aA B):aF Tryz.prog (oX B):=⟨⟨tc ty3 (tc fY (tc ma (tc Kv (ae)))),aQ (by kernel_rfl) (af),by simp only [oX,ioB];omega⟩,aD (cc Tryz.func90 (nf hB) (aw)),by kernel_rfl⟩
def DM:Con:=fun l os=>match l,os with
 | [.z (.slice .str) l], []=>some (l.length<QL∧∀ q∈l,fp q, [.own (.st (.pair (.st (.pair .bool (.slice (.int .u32)))) (.st (.pair .bool (.slice (.int .u32)))))) 91 (l.map fP)], [])
 |_,_=>none
theorem FG {B:aj} (hB:aA B):Valid B Tryz.prog 106 DM:=by
 refine ab (yH hB).tab Tryz.func106 rfl rfl rfl ?_
 intro args os C rs os' hc hC
 unfold DM at hc
 split at hc
 case h_2=>cases hc
 rename_i l
 cases hc
 refine v_h (yH hB) fun X hP hT hr hG=> ?_
 have hU:=oX.eq_1
 unfold oX at hT
 have hX:= @nU.eq_1
 simp only [Tryz.f106,aB,al,ioB]
 have hl:l.length<1000000000:=hC.1
 refine s_g hG ?_
 refine s_q hG ?_ ?_
 ·try simp only [ba]
  exact ⟨by omega,by omega,rt (by omega)⟩
 refine ak ?_
 refine s_g hG ?_
 refine aq ?_
 refine bn (fun (z:Nat)=>(⟨[(3, .l (.ownS 8)),(9, .l (.z (.slice .str) l)),(10, .l (.z (.int .i64) (l.length:Int))),(11, .l (.z (.int .i64) (z:Int)))], [(8, .arr (.st (.pair (.st (.pair .bool (.slice (.int .u32)))) (.st (.pair .bool (.slice (.int .u32)))))) 91 ((l.take z).map fP))]⟩:aa)) (fun z=>z≤l.length) (fun z=>l.length-z) 0 ?_ ?_ ?_
 ·refine q_l ?_
  exact ⟨rfl,rfl⟩
 ·omega
 ·rintro k g1
  try dsimp only at g1
  refine s_g hG ?_
  refine ak ?_
  refine ao ?_ ?_
  ·intro hb0
   try simp only [bt] at hb0
   refine ap ?_
   refine ah ?_
   refine ak ?_
   refine aq ?_
   refine s_q hG ?_ ?_
   ·try simp only [ba]
    exact ⟨by omega,hb0⟩
   refine ag hG ?_ ?_
   ·try simp only [ba]
    exact ⟨hC.2 _ (fF (t:= .str) (by omega)),rt (by simp;omega)⟩
   refine aN ?_
   refine ah ?_
   refine ag hG ?_ ?_
   ·first|trivial|omega|(simp;done)|(simp;omega)
   show ∃ z,_
   refine q_l ?_
   exact list_round (by omega) hC.1
  ·intro hb0
   try simp only [bf] at hb0
   refine bc ?_
   refine aC ?_
   refine av ?_
   refine au ?_
   refine ah ?_
   refine s_g hG ?_
   refine ax ?_
   refine q_e [] ?_
   exact ⟨trivial,by rw [List.take_of_length_le (by omega)]⟩
def oY (B:aj):Tab:={types:= [(3,(.int .i64)),(22,(.slice .str)),(78,(.slice (.st (.pair (.st (.pair .bool (.slice (.int .u32)))) (.st (.pair .bool (.slice (.int .u32)))))))),(91,(.st (.pair (.st (.pair .bool (.slice (.int .u32)))) (.st (.pair .bool (.slice (.int .u32)))))))],elems:= [(22,46)],cons:= [(129,nd),(130,vU)],hint:= [],N:=26,base:=B}
theorem yI {B:aj} (hB:aA B):aF Tryz.prog (oY B):=⟨⟨tc ty3 (tc fY (tc Kv (tc ty91 (ae)))),aQ (by kernel_rfl) (af),by simp only [oY,ioB];omega⟩,aD (cc Tryz.func129 (ud hB) (cc Tryz.func130 (FC hB) (aw))),by kernel_rfl⟩
def ng:Con:=fun l os=>match l,os with
 | [.z (.slice (.st (.pair (.st (.pair .bool (.slice (.int .u32)))) (.st (.pair .bool (.slice (.int .u32))))))) l], []=>some (l.length<QL∧∀ x∈l,NOK x∧lq (bu x)≤QC, [.z (.slice .str) (if dh l=true then l.map fun x=>bl (bu x) else []), .z .bool (dh l)], [])
 |_,_=>none
theorem ug {B:aj} (hB:aA B):Valid B Tryz.prog 88 ng:=by
 refine ab (yI hB).tab Tryz.func88 rfl rfl rfl ?_
 intro args os C rs os' hc hC
 unfold ng at hc
 split at hc
 case h_2=>cases hc
 rename_i l
 cases hc
 refine v_h (yI hB) fun X hP hT hr hG=> ?_
 have hU:=oY.eq_1
 unfold oY at hT
 have hX:=ai @nd.eq_1<| @vU.eq_1
 simp only [Tryz.f88,aB,al,ioB]
 have hl:l.length<1000000000:=hC.1
 refine s_g hG ?_
 refine s_q hG ?_ ?_
 ·try simp only [ba]
  exact ⟨by omega,by omega,u7 (by omega)⟩
 refine ak ?_
 refine s_g hG ?_
 refine aq ?_
 refine bn (fun (z:Nat)=>(⟨[(2, .l (.val (.slice none 0 0))),(3, .l (.z .bool false)),(4, .l (.ownS 9)),(10, .l (.z (.slice (.st (.pair (.st (.pair .bool (.slice (.int .u32)))) (.st (.pair .bool (.slice (.int .u32))))))) l)),(11, .l (.z (.int .i64) (l.length:Int))),(12, .l (.z (.int .i64) (z:Int)))], [(9, .arr .str 46 ((l.take z).map fun x=>bl (bu x)))]⟩:aa)) (fun z=>z≤l.length∧dh (l.take z)=true) (fun z=>l.length-z) 0 ?_ ?_ ?_
 ·refine q_l ?_
  exact ⟨rfl,rfl⟩
 ·exact ⟨by omega,by simp [dh]⟩
 ·rintro k ⟨g1,g2⟩
  try dsimp only at g1 g2
  refine s_g hG ?_
  refine ak ?_
  refine ao ?_ ?_
  ·intro hb0
   try simp only [bt] at hb0
   refine ap ?_
   refine ah ?_
   refine ak ?_
   refine aq ?_
   refine s_q hG ?_ ?_
   ·try simp only [ba]
    exact ⟨by omega,hb0⟩
   refine ak ?_
   refine s_q hG ?_ ?_
   ·try simp only [ba]
    exact hC.2 _ (fF (t:=NT) (by omega))
   refine ao ?_ ?_
   ·intro hb1
    try simp only [bt] at hb1
    refine s_g hG ?_
    refine ax ?_
    refine ay ?_
    refine bv ?_
    refine ay ?_
    refine dY ?_
    refine bv ?_
    refine ay ?_
    refine q_e [9] ?_
    exact EQ (by omega) hb1
   ·intro hb1
    try simp only [bf] at hb1
    refine ap ?_
    refine ah ?_
    refine ag hG ?_ ?_
    ·try simp only [ba]
     exact ⟨⟨(hC.2 _ (fF (t:=NT) (by omega))).1,(hC.2 _ (fF (t:=NT) (by omega))).2⟩,u7 (by simp;omega)⟩
    refine aN ?_
    refine ah ?_
    refine ag hG ?_ ?_
    ·first|trivial|omega|(simp;done)|(simp;omega)
    show ∃ z,_
    refine q_l ?_
    exact xw (by omega) hC.1 g2 hb1
  ·intro hb0
   try simp only [bf] at hb0
   refine bc ?_
   refine aC ?_
   refine av ?_
   refine au ?_
   refine ah ?_
   refine s_g hG ?_
   refine ax ?_
   refine q_e [9] ?_
   exact ER (by omega) g2
end Go.Proofs.YtdojbabpnaifoaaGreatDoor
end
section
namespace Go.Proofs.YtdojbabpnaifoaaGreatDoor
open Go Go.Cm Go.Proofs
def oZ (B:aj):Tab:={types:= [(3,(.int .i64)),(79,(.slice (.st (.pair (.st (.pair .bool (.slice (.int .u32)))) (.st (.pair .bool (.slice (.int .u32)))))))),(91,(.st (.pair (.st (.pair .bool (.slice (.int .u32)))) (.st (.pair .bool (.slice (.int .u32)))))))],elems:= [],cons:= [(114,ka)],hint:= [],N:=25,base:=B}
theorem yJ {B:aj} (hB:aA B):aF Tryz.prog (oZ B):=⟨⟨tc ty3 (tc fk (tc ty91 (ae))),af,by simp only [oZ,ioB];omega⟩,aD (cc Tryz.func114 (nc hB) (aw)),by kernel_rfl⟩
def iu:Con:=fun l os=>match l,os with
 | [.z (.slice (.st (.pair (.st (.pair .bool (.slice (.int .u32)))) (.st (.pair .bool (.slice (.int .u32))))))) p], []=>some (Sz QC p∧p.length≤QL, [.z (.slice (.st (.pair (.st (.pair .bool (.slice (.int .u32)))) (.st (.pair .bool (.slice (.int .u32))))))) (aE (aP (am p)))], [])
 |_,_=>none
theorem gM {B:aj} (hB:aA B):Valid B Tryz.prog 82 iu:=by
 refine ab (yJ hB).tab Tryz.func82 rfl rfl rfl ?_
 intro args os C rs os' hc hC
 unfold iu at hc
 split at hc
 case h_2=>cases hc
 rename_i p
 cases hc
 refine v_h (yJ hB) fun X hP hT hr hG=> ?_
 have hU:=oZ.eq_1
 unfold oZ at hT
 have hX:= @ka.eq_1
 simp only [Tryz.f82,aB,al,ioB]
 obtain ⟨l0,rfl,hl0⟩:=hC.1.ex
 have hn:=hC.2
 rw [az] at hn
 have hn:l0.length≤1000000000:=hn
 refine s_g hG ?_
 refine ak ?_
 refine aq ?_
 refine bn (fun (z:List Rat)=>(⟨[(0, .l (.z (.slice (.st (.pair (.st (.pair .bool (.slice (.int .u32)))) (.st (.pair .bool (.slice (.int .u32))))))) (aE z))),(2, .l (.val (.slice none 0 0)))], []⟩:aa)) (fun z=>z.length≤l0.length∧(∀ x∈z,lq x≤QC)∧aP z=aP l0) (fun z=>z.length) l0 ?_ ?_ ?_
 ·simp only [ml0,ml1,Nat.reduceLT,Nat.reduceEqDiff,Nat.reduceAdd,Nat.reduceMul,Nat.reduceSub,Nat.reduceLeDiff,Nat.reduceBEq,Nat.reduceBNe,reduceIte,reduceDIte,reduceCtorEq]
 ·exact ⟨Nat.le_refl _,hl0,rfl⟩
 ·rintro l ⟨g1,g2,g3⟩
  try dsimp only at g1 g2 g3
  refine ak ?_
  refine s_q hG ?_ ?_
  ·try simp only [ba]
   have hs:=s9 (l:=l) (by omega)
   exact ⟨id,id,hs.2,id,hs.1,id⟩
  refine ao ?_ ?_
  ·intro hb0
   try simp only [bt] at hb0
   have ht:=HS (by omega) hb0.1 hb0.2
   obtain ⟨n1,n2,n3,n4,n5⟩:=td (by omega) g1 g2 g3 ht
   refine ap ?_
   refine ah ?_
   refine aq ?_
   refine ag hG ?_ ?_
   ·try simp only [ba]
    rw [az,b7 (by omega)]
    exact ⟨by omega,by omega,by omega,by omega⟩
   refine aN ?_
   show ∃ z,_
   refine q_l ?_
   exact ⟨l.dropLast,n1,n2,n3,n4,n5⟩
  ·intro hb0
   try simp only [bf] at hb0
   have ht:=HT (l:=l) (by omega) hb0
   refine bc ?_
   refine aC ?_
   refine av ?_
   refine au ?_
   refine ah ?_
   refine s_g hG ?_
   refine ax ?_
   refine q_e [] ?_
   rw [aG,← g3,ht]
def jg (B:aj):Tab:={types:= [(3,(.int .i64)),(79,(.slice (.st (.pair (.st (.pair .bool (.slice (.int .u32)))) (.st (.pair .bool (.slice (.int .u32)))))))),(91,(.st (.pair (.st (.pair .bool (.slice (.int .u32)))) (.st (.pair .bool (.slice (.int .u32)))))))],elems:= [],cons:= [(114,ka)],hint:= [23],N:=25,free:= [10000000],base:=B}
theorem yK {B:aj} (hB:aA B):aF Tryz.prog (jg B):=⟨⟨tc ty3 (tc fk (tc ty91 (ae))),af,by simp only [jg,ioB];omega⟩,aD (cc Tryz.func114 (nc hB) (aw)),by kernel_rfl⟩
def JH:Con:=fun l os=>match l,os with
 | [.ownS 10000000], [.arr (.st (.pair (.st (.pair .bool (.slice (.int .u32)))) (.st (.pair .bool (.slice (.int .u32)))))) 91 p]=>some (Sz QC p∧p.length≤QL, [.own (.st (.pair (.st (.pair .bool (.slice (.int .u32)))) (.st (.pair .bool (.slice (.int .u32)))))) 91 (aE (aP (am p)))], [.arr (.st (.pair (.st (.pair .bool (.slice (.int .u32)))) (.st (.pair .bool (.slice (.int .u32)))))) 91 []])
 |_,_=>none
theorem Be {B:aj} (hB:aA B):Valid B Tryz.prog 82 JH [0]:=by
 refine ny (T:=jg B) (yK hB).tab Tryz.func82 rfl rfl rfl (Km (by simp only [jg];decide)) ?_
 intro args os C rs os' hc hC
 unfold JH at hc
 split at hc
 case h_2=>cases hc
 rename_i p
 cases hc
 refine v_h (yK hB) fun X hP hT hr hG=> ?_
 have hU:=jg.eq_1
 unfold jg at hT
 have hX:=ai @ka.eq_1<| @b4.eq_def
 simp only [Tryz.f82,aB,al,ioB]
 obtain ⟨l0,rfl,hl0⟩:=hC.1.ex
 have hn:=hC.2
 rw [az] at hn
 have hn:l0.length≤1000000000:=hn
 refine GS 10000000 1 (by simp only [hT,jg,mx0,mx1,mx2,mx3,mx4,mx5,mx6,Nat.reduceLT,Nat.reduceEqDiff,Nat.reduceAdd,Nat.reduceMul,Nat.reduceSub,Nat.reduceLeDiff,Nat.reduceBEq,Nat.reduceBNe,reduceIte,reduceDIte,reduceCtorEq];rfl) ?_
 refine s_g hG ?_
 refine ak ?_
 refine aq ?_
 refine bn (fun (z:List Rat)=>(⟨[(0, .l (.ownS 1)),(2, .l (.val (.slice none 0 0)))], [(1, .arr (.st (.pair (.st (.pair .bool (.slice (.int .u32)))) (.st (.pair .bool (.slice (.int .u32)))))) 91 (aE z)),(10000000, .arr (.st (.pair (.st (.pair .bool (.slice (.int .u32)))) (.st (.pair .bool (.slice (.int .u32)))))) 91 [])]⟩:aa)) (fun z=>z.length≤l0.length∧(∀ x∈z,lq x≤QC)∧aP z=aP l0) (fun z=>z.length) l0 ?_ ?_ ?_
 ·simp only [ml0,ml1,Nat.reduceLT,Nat.reduceEqDiff,Nat.reduceAdd,Nat.reduceMul,Nat.reduceSub,Nat.reduceLeDiff,Nat.reduceBEq,Nat.reduceBNe,reduceIte,reduceDIte,reduceCtorEq]
 ·exact ⟨Nat.le_refl _,hl0,rfl⟩
 ·rintro l ⟨g1,g2,g3⟩
  try dsimp only at g1 g2 g3
  refine ak ?_
  refine s_q hG ?_ ?_
  ·try simp only [ba]
   have hs:=s9 (l:=l) (by omega)
   exact ⟨id,id,hs.2,fun h=>⟨h,by have:=(hs.2 h).2;omega⟩,hs.1,id⟩
  refine ao ?_ ?_
  ·intro hb0
   try simp only [bt] at hb0
   have ht:=HS (by omega) hb0.1 hb0.2
   obtain ⟨n1,n2,n3,n4,n5⟩:=td (by omega) g1 g2 g3 ht
   refine ap ?_
   refine ah ?_
   refine aq ?_
   refine ag hG ?_ ?_
   ·try simp only [ba]
    rw [az,b7 (by omega)]
    exact ⟨by omega,by omega,by omega,by omega⟩
   refine aN ?_
   show ∃ z,_
   refine q_l ?_
   exact ⟨l.dropLast,n1,n2,n3,n4,n5⟩
  ·intro hb0
   try simp only [bf] at hb0
   have ht:=HT (l:=l) (by omega) hb0
   refine bc ?_
   refine aC ?_
   refine av ?_
   refine au ?_
   refine ah ?_
   refine s_g hG ?_
   refine ax ?_
   refine q_e [] ?_
   exact ⟨⟨trivial,by rw [aG,← g3,ht]⟩,trivial,trivial⟩
def fq:Con:=fun l os=>match l,os with
 | [.z (.slice (.st (.pair (.st (.pair .bool (.slice (.int .u32)))) (.st (.pair .bool (.slice (.int .u32))))))) p], []=>some (Sz QC p∧p.length≤QL, [.z (.slice (.st (.pair (.st (.pair .bool (.slice (.int .u32)))) (.st (.pair .bool (.slice (.int .u32))))))) (aE (aP (am p)))], [])
 | [.ownS 10000000], [.arr (.st (.pair (.st (.pair .bool (.slice (.int .u32)))) (.st (.pair .bool (.slice (.int .u32)))))) 91 p]=>some (Sz QC p∧p.length≤QL, [.own (.st (.pair (.st (.pair .bool (.slice (.int .u32)))) (.st (.pair .bool (.slice (.int .u32)))))) 91 (aE (aP (am p)))], [.arr (.st (.pair (.st (.pair .bool (.slice (.int .u32)))) (.st (.pair .bool (.slice (.int .u32)))))) 91 []])
 |_,_=>none
theorem FH {B:aj} (hB:aA B):Valid B Tryz.prog 82 fq [0]:=by
 intro args os C rs os' hc hC
 unfold fq at hc
 split at hc
 ·cases hc;exact HU (gM hB) _ _ _ _ _ rfl hC
 ·cases hc;exact Be hB _ _ _ _ _ rfl hC
 ·cases hc
end Go.Proofs.YtdojbabpnaifoaaGreatDoor
end
section
namespace Go.Proofs.YtdojbabpnaifoaaGreatDoor
open Go Go.Cm Go.Proofs
def o4 (B:aj):Tab:={types:= [(3,(.int .i64)),(79,(.slice (.st (.pair (.st (.pair .bool (.slice (.int .u32)))) (.st (.pair .bool (.slice (.int .u32)))))))),(91,(.st (.pair (.st (.pair .bool (.slice (.int .u32)))) (.st (.pair .bool (.slice (.int .u32)))))))],elems:= [],cons:= [(113,dO)],hint:= [],N:=14,base:=B}
theorem yL {B:aj} (hB:aA B):aF Tryz.prog (o4 B):=⟨⟨tc ty3 (tc fk (tc ty91 (ae))),af,by simp only [o4,ioB];omega⟩,aD (cc Tryz.func113 (kC hB) (aw)),by kernel_rfl⟩
def uh:Con:=fun l os=>match l,os with
 | [.z (.slice (.st (.pair (.st (.pair .bool (.slice (.int .u32)))) (.st (.pair .bool (.slice (.int .u32))))))) p, .z (.int .i64) i], []=>some (Sz QC p∧0≤i, [.z (.st (.pair (.st (.pair .bool (.slice (.int .u32)))) (.st (.pair .bool (.slice (.int .u32)))))) (bg (cf (am p) i.toNat))], [])
 |_,_=>none
theorem ui {B:aj} (hB:aA B):Valid B Tryz.prog 107 uh:=by
 refine ab (yL hB).tab Tryz.func107 rfl rfl rfl ?_
 intro args os C rs os' hc hC
 unfold uh at hc
 split at hc
 case h_2=>cases hc
 rename_i p i
 cases hc
 refine v_h (yL hB) fun X hP hT hr hG=> ?_
 have hU:=o4.eq_1
 unfold o4 at hT
 have hX:= @dO.eq_1
 simp only [Tryz.f107,aB,al,ioB]
 obtain ⟨n,rfl⟩:=Int.eq_ofNat_of_zero_le hC.2
 rw [Int.toNat_natCast]
 refine s_g hG ?_
 refine ak ?_
 refine s_g hG ?_
 refine ao ?_ ?_
 ·intro hb0
  try simp only [bt] at hb0
  refine s_q hG ?_ ?_
  ·try simp only [ba]
   exact ⟨by omega,hb0⟩
  refine ax ?_
  refine ay ?_
  refine q_e [] ?_
  rw [fj hC.1 (by omega)]
 ·intro hb0
  try simp only [bf] at hb0
  refine ap ?_
  refine ah ?_
  refine s_g hG ?_
  refine ax ?_
  refine q_e [] ?_
  rw [HV (by omega)]
end Go.Proofs.YtdojbabpnaifoaaGreatDoor
end
section
namespace Go.Proofs.YtdojbabpnaifoaaGreatDoor
open Go Go.Cm Go.Proofs
def o5 (B:aj):Tab:={types:= [(3,(.int .i64)),(79,(.slice (.st (.pair (.st (.pair .bool (.slice (.int .u32)))) (.st (.pair .bool (.slice (.int .u32)))))))),(91,(.st (.pair (.st (.pair .bool (.slice (.int .u32)))) (.st (.pair .bool (.slice (.int .u32)))))))],elems:= [(79,91)],cons:= [(58,kU),(105,dN),(112,eP),(113,dO),(114,ka)],hint:= [19],N:=67,base:=B}
theorem yM {B:aj} (hB:aA B):aF Tryz.prog (o5 B):=⟨⟨tc ty3 (tc fk (tc ty91 (ae))),aQ (by kernel_rfl) (af),by simp only [o5,ioB];omega⟩,aD (cc Tryz.func58 (kA hB) (cc Tryz.func105 (kB hB) (cc Tryz.func112 (tj hB) (cc Tryz.func113 (kC hB) (cc Tryz.func114 (nc hB) (aw)))))),by kernel_rfl⟩
def nh:Con:=fun l os=>match l,os with
 | [.z (.slice (.st (.pair (.st (.pair .bool (.slice (.int .u32)))) (.st (.pair .bool (.slice (.int .u32))))))) p, .z (.slice (.st (.pair (.st (.pair .bool (.slice (.int .u32)))) (.st (.pair .bool (.slice (.int .u32))))))) q], []=>some (Sz QM p∧Sz QM q∧p.length≤100∧q.length≤100, [.z (.slice (.st (.pair (.st (.pair .bool (.slice (.int .u32)))) (.st (.pair .bool (.slice (.int .u32))))))) (aE (cw (am p) (am q)))], [])
 |_,_=>none
theorem uj {B:aj} (hB:aA B):Valid B Tryz.prog 61 nh:=by
 refine ab (yM hB).tab Tryz.func61 rfl rfl rfl ?_
 intro args os C rs os' hc hC
 unfold nh at hc
 split at hc
 case h_2=>cases hc
 rename_i p q
 cases hc
 refine v_h (yM hB) fun X hP hT hr hG=> ?_
 have hU:=o5.eq_1
 unfold o5 at hT
 have hX:=ai @kU.eq_1<|ai @dN.eq_1<|ai @ka.eq_1<|ai @eP.eq_1<| @dO.eq_1
 simp only [Tryz.f61,aB,al,ioB]
 obtain ⟨hp,hq,hl1,hl2⟩:=hC
 refine s_g hG ?_
 refine ak ?_
 refine s_q hG ?_ ?_
 ·try simp only [ba]
  exact ⟨id,id,fun h=>by rw [h];rfl⟩
 refine ao ?_ ?_
 ·intro hb0
  try simp only [bt] at hb0
  refine s_g hG ?_
  refine ax ?_
  refine ay ?_
  refine q_e [] ?_
  exact ES hb0
 ·intro hb0
  try simp only [bf] at hb0
  have h0:=H0 hb0
  refine ap ?_
  refine ah ?_
  refine s_q hG ?_ ?_
  ·try simp only [ba]
   rw [tf hl1 hl2 h0]
   exact Ko hl1 hl2
  refine ak ?_
  refine s_g hG ?_
  refine aq ?_
  refine bn (fun (z:Nat)=>(⟨[(0, .l (.z (.slice (.st (.pair (.st (.pair .bool (.slice (.int .u32)))) (.st (.pair .bool (.slice (.int .u32))))))) p)),(1, .l (.z (.slice (.st (.pair (.st (.pair .bool (.slice (.int .u32)))) (.st (.pair .bool (.slice (.int .u32))))))) q)),(5, .l (.ownS 1208)),(27, .l (.z (.slice (.st (.pair (.st (.pair .bool (.slice (.int .u32)))) (.st (.pair .bool (.slice (.int .u32))))))) p)),(28, .l (.z (.int .i64) (p.length:Int))),(29, .l (.z (.int .i64) (z:Int)))], [(1208, .arr (.st (.pair (.st (.pair .bool (.slice (.int .u32)))) (.st (.pair .bool (.slice (.int .u32)))))) 91 (aE (mulN (am p) (am q) z)))]⟩:aa)) (fun z=>z≤p.length) (fun z=>p.length-z) 0 ?_ ?_ ?_
  ·refine q_l ?_
   rw [tf hl1 hl2 h0,Int.toNat_natCast]
   exact ⟨rfl,times_start p q⟩
  ·omega
  ·rintro i g1
   try dsimp only at g1
   refine s_g hG ?_
   refine ak ?_
   refine ao ?_ ?_
   ·intro hb1
    try simp only [bt] at hb1
    refine ap ?_
    refine ah ?_
    refine ak ?_
    refine aq ?_
    refine s_q hG ?_ ?_
    ·try simp only [ba]
     exact ⟨by omega,hb1⟩
    refine s_g hG ?_
    refine aq ?_
    refine bn (fun (z:Nat)=>(⟨[(0, .l (.z (.slice (.st (.pair (.st (.pair .bool (.slice (.int .u32)))) (.st (.pair .bool (.slice (.int .u32))))))) p)),(1, .l (.z (.slice (.st (.pair (.st (.pair .bool (.slice (.int .u32)))) (.st (.pair .bool (.slice (.int .u32))))))) q)),(5, .l (.ownS 1208)),(27, .l (.z (.slice (.st (.pair (.st (.pair .bool (.slice (.int .u32)))) (.st (.pair .bool (.slice (.int .u32))))))) p)),(28, .l (.z (.int .i64) (p.length:Int))),(29, .l (.z (.int .i64) (i:Int))),(6, .l (.z (.int .i64) (i:Int))),(7, .l (.ownP 7 0)),(34, .l (.z (.slice (.st (.pair (.st (.pair .bool (.slice (.int .u32)))) (.st (.pair .bool (.slice (.int .u32))))))) q)),(35, .l (.z (.int .i64) (q.length:Int))),(36, .l (.z (.int .i64) (z:Int)))], [(1208, .arr (.st (.pair (.st (.pair .bool (.slice (.int .u32)))) (.st (.pair .bool (.slice (.int .u32)))))) 91 (aE (cl (mulN (am p) (am q) i) i (cf (am p) i) (am q) z))),(7, .box 91 [.z .bool (bg (cf (am p) i)).1.1, .z (.slice (.int .u32)) (bg (cf (am p) i)).1.2, .z .bool (bg (cf (am p) i)).2.1, .z (.slice (.int .u32)) (bg (cf (am p) i)).2.2])]⟩:aa)) (fun z=>z≤q.length) (fun z=>q.length-z) 0 ?_ ?_ ?_
    ·refine q_l ?_
     rw [fj hp (by omega)]
     exact ⟨rfl,rfl,rfl,rfl,rfl,rfl⟩
    ·omega
    ·rintro k g2
     try dsimp only at g2
     refine s_g hG ?_
     refine ak ?_
     refine ao ?_ ?_
     ·intro hb2
      try simp only [bt] at hb2
      refine ap ?_
      refine ah ?_
      refine ak ?_
      refine aq ?_
      refine s_q hG ?_ ?_
      ·try simp only [ba]
       exact ⟨by omega,hb2⟩
      refine s_q hG ?_ ?_
      ·try simp only [ba]
       have ek:=fj hq (i:=k) (by omega)
       simp only [pe2]
       rw [ek]
       exact ⟨bQ _,fun h=>⟨h,bQ _⟩,id⟩
      refine ao ?_ ?_
      ·intro hb3
       try simp only [bt] at hb3
       have ek:=fj hq (i:=k) (by omega)
       obtain ⟨w1,w2,w3,w4⟩:=AH hp hq hl1 hl2 h0 (i:=i) (k:=k) (by omega) (by omega)
       refine fW hG ?_ ?_
       ·try simp only [ba]
        simp only [pe2]
        rw [ek,w1,Int.toNat_natCast,aK,aK]
        exact ⟨⟨by omega,by omega⟩,w2,w3,w4,⟨by omega,by omega⟩,w2⟩
       refine aN ?_
       refine ah ?_
       refine ag hG ?_ ?_
       ·first|trivial|omega|(simp;done)|(simp;omega)
       show ∃ z,_
       refine q_l ?_
       first|exact rB hl2 (by omega) (rC hb3)|(simp only [pe2];rw [ek,w1,Int.toNat_natCast];simp only [aK];exact rA hp hq hl1 hl2 h0 (i:=i) (k:=k) (by omega) (by omega))
      ·intro hb3
       try simp only [bf] at hb3
       have ek:=fj hq (i:=k) (by omega)
       simp only [pe2,ek,aK] at hb3
       refine ap ?_
       refine aN ?_
       refine ah ?_
       refine ag hG ?_ ?_
       ·first|trivial|omega|(simp;done)|(simp;omega)
       show ∃ z,_
       refine q_l ?_
       first|exact rB hl2 (by omega) (rC hb3)|(simp only [pe2];rw [ek,w1,Int.toNat_natCast];simp only [aK];exact rA hp hq hl1 hl2 h0 (i:=i) (k:=k) (by omega) (by omega))
     ·intro hb2
      try simp only [bf] at hb2
      refine bc ?_
      refine aC ?_
      refine av ?_
      refine au ?_
      refine aN ?_
      refine ah ?_
      refine ag hG ?_ ?_
      ·first|trivial|omega|(simp;done)|(simp;omega)
      show ∃ z,_
      refine q_l ?_
      exact ET hl1 (by omega) (by omega)
   ·intro hb1
    try simp only [bf] at hb1
    refine bc ?_
    refine aC ?_
    refine av ?_
    refine au ?_
    refine ah ?_
    refine s_g hG ?_
    refine ax ?_
    refine q_e [] ?_
    exact times_fin h0 (by omega)
end Go.Proofs.YtdojbabpnaifoaaGreatDoor
end
section
namespace Go.Cm
def LV.toRow (id:Nat):LV→LV
 | .ownS i=>if i=id then .ownR id 0 else .ownS i
 |x=>x.kill id
def LV.ofRow (id j:Nat):LV→LV
 | .ownR i k=>if i=id then (if k=j then .ownS id else .junk) else .ownR i k
 |x=>x.kill id
def aa.toRow (s:aa) (id:Nat) (T':TypeId):Option aa:=
 match get? s.own id with
 |some (.arr t E xs)=>if id<ioB then some {env:=bL (LV.toRow id) s.env,own:=upd (bk (LV.toRow id) s.own) id (.mat t T' E [some xs] [])} else none
 |_=>none
def aa.ofRow (s:aa) (id j:Nat):Option aa:=
 match get? s.own id with
 |some (.mat t _ E rows _)=>match (rows[j]?).getD none with
  |some xs=>if id<ioB then some {env:=bL (LV.ofRow id j) s.env,own:=upd (bk (LV.ofRow id j) s.own) id (.arr t E xs)} else none
  |none=>none
 |_=>none
theorem St.toRow {X:Cx} {s s':aa} {id:Nat} {T':TypeId} (he:s.toRow id T'=some s') {ac:Act} {w:World} (h:St X s ac w):St X s' ac w:=by
 unfold aa.toRow at he
 split at he
 case h_2=>cases he
 rename_i t E xs hg
 split at he
 case isFalse=>cases he
 rename_i hid
 cases he
 obtain ⟨ρ,hf⟩:=h.fits
 obtain ⟨cells,hr,hrow⟩:=hf.own _ (get?_mem hg)
 have hsl:∃ a n c,ρ id= .slice a n c:=by
  obtain ⟨_,⟨h1,_⟩|⟨g,cap,cur,h1,_⟩⟩:=hrow<;>exact ⟨_,_,_,h1⟩
 obtain ⟨a,n,c,hsl⟩:=hsl
 have hblk:∀ b,blk (ρ id)=some b↔Blk (ρ id) b:=by
  intro b
  rw [hsl]
  cases a with
  |none=>simp [blk,Blk]
  |some a=>simp [blk,Blk]
 obtain ⟨ρ',q1,q2⟩:=hf.renew (w':=w) hg (f:=LV.toRow id) (val:= .tuple #[.slice none 0 0,ρ id]) (obj':= .mat t T' E [some xs] [])
  (fun H' ρ' hh hs hρ hρd x v hx=>by
   cases x with
   |ownS i=>
    simp only [LV.toRow]
    split
    ·rename_i e;subst e
     have hx:v=ρ i∧_:=hx
     exact ⟨.slice none 0 0, [ρ i],a,n,c,hρd,by simp [hx.1],by rw [hx.1,hsl]⟩
    ·rename_i e
     simp only [aR,hρ i e];exact hx
   |z t x=>exact bb hh hs hρ hx
   |ownP i o=>exact bb hh hs hρ hx
   |ownE i w o=>exact bb hh hs hρ hx
   |ownW i w o=>exact bb hh hs hρ hx
   |ownM i=>exact bb hh hs hρ hx
   |ownA i o=>exact bb hh hs hρ hx
   |ownR i o=>exact bb hh hs hρ hx
   |ownB i o p q=>exact bb hh hs hρ hx
   |fn f c=>exact bb hh hs hρ hx
   |val u=>exact bb hh hs hρ hx
   |junk=>exact bb hh hs hρ hx)
  (fun _ _ _=>rfl)
  (fun b hb=>by
   obtain ⟨u,hu,hb⟩:=hb
   simp only [List.mem_cons,List.not_mem_nil,or_false] at hu
   rcases hu with rfl|rfl
   ·simp [blk] at hb
   ·exact .inl ((hblk b).1 hb))
  (fun H' ρ' hh hs hρ hρd=>by
   refine ⟨.slice none 0 0, [ρ id], [],hρd,⟨rfl,⟨rfl, .inl ⟨rfl,rfl⟩⟩,fun c hc=>by simp at hc,fun i j hi=>by simp at hi,?_,?_,?_⟩⟩
   ·intro v hv
    simp only [List.mem_singleton] at hv
    subst hv
    refine ⟨⟨a,n,c,hsl⟩,fun b hb=>⟨by simp [blk],?_,?_⟩⟩
    ·exact ((hf.own _ (get?_mem hg)).lt ((hblk b).1 hb)).1
    ·exact (hf.own _ (get?_mem hg)).cells ((hblk b).1 hb)
   ·intro j ys v hj hv
    cases j with
    |zero=>
     simp at hj hv
     subst hj;subst hv
     exact ⟨cells,aT hh hs hr,hrow⟩
    |succ j=>simp at hj
   ·intro i j xs' ys u v hne hi hj
    cases i with
    |zero=>cases j with
     |zero=>exact absurd rfl hne
     |succ j=>simp at hj
    |succ i=>simp at hi)
  (fun hB _=>absurd hid (by omega))
 exact ⟨h.marks,h.kept,h.size,h.below,h.others,h.small,ρ',q2⟩
theorem St.ofRow {X:Cx} {s s':aa} {id j:Nat} (he:s.ofRow id j=some s') {ac:Act} {w:World} (h:St X s ac w):St X s' ac w:=by
 unfold aa.ofRow at he
 split at he
 case h_2=>cases he
 rename_i t T' E rows idx hg
 split at he
 case h_2=>cases he
 rename_i xs hj
 split at he
 case isFalse=>cases he
 rename_i hid
 cases he
 obtain ⟨ρ,hf⟩:=h.fits
 obtain ⟨h0,vs,cells,hρ0,hm⟩:=hf.own _ (get?_mem hg)
 have hjr:rows[j]? =some (some xs):=by
  cases hq:rows[j]? with
  |none=>rw [hq] at hj;cases hj
  |some o=>rw [hq] at hj;simp at hj;rw [hj]
 have hjl:j<vs.length:=by rw [hm.len];exact (List.getElem?_eq_some_iff.1 hjr).1
 have hvj:vs[j]? =some vs[j]:=List.getElem?_eq_getElem hjl
 obtain ⟨cs,hr,hrow⟩:=hm.row j xs _ hjr hvj
 obtain ⟨⟨a,n,c,hsl⟩,_⟩:=hm.shape vs[j] (List.getElem_mem hjl)
 obtain ⟨ρ',q1,q2⟩:=hf.renew (w':=w) hg (f:=LV.ofRow id j) (val:=vs[j]) (obj':= .arr t E xs)
  (fun H' ρ' hh hs hρ hρd x v hx=>by
   cases x with
   |ownR i k=>
    simp only [LV.ofRow]
    split
    ·rename_i e;subst e
     split
     ·rename_i e;subst e
      obtain ⟨h1,vs1,a1,n1,c1,e1,e2,e3⟩:=hx
      rw [hρ0] at e1
      simp only [Value.tuple.injEq,Array.mk.injEq,List.cons.injEq] at e1
      obtain ⟨_,rfl⟩:=e1
      rw [hvj] at e2
      cases e2
      exact ⟨hρd.symm,_,_,_,e3⟩
     ·trivial
    ·rename_i e
     have:=bb (x:= .ownR i k) hh hs hρ hx
     unfold LV.kill at this
     rw [if_neg (by simp [LV.isOf];exact e)] at this
     exact this
   |z t x=>exact bb hh hs hρ hx
   |ownS i=>exact bb hh hs hρ hx
   |ownP i o=>exact bb hh hs hρ hx
   |ownE i w o=>exact bb hh hs hρ hx
   |ownW i w o=>exact bb hh hs hρ hx
   |ownM i=>exact bb hh hs hρ hx
   |ownA i o=>exact bb hh hs hρ hx
   |ownB i o p q=>exact bb hh hs hρ hx
   |fn f c=>exact bb hh hs hρ hx
   |val u=>exact bb hh hs hρ hx
   |junk=>exact bb hh hs hρ hx)
  (fun _ _ _=>rfl)
  (fun b hb=> .inl (by
   rw [hρ0]
   refine ⟨vs[j],by simp,?_⟩
   rw [hsl] at hb ⊢
   cases a with
   |none=>simp [Blk] at hb
   |some a=>simpa [blk,Blk] using hb))
  (fun H' ρ' hh hs hρ hρd=>⟨cs,aT hh hs hr,by rw [hρd];exact hrow⟩)
  (fun hB _=>absurd hid (by omega))
 exact ⟨h.marks,h.kept,h.size,h.below,h.others,h.small,ρ',q2⟩
theorem vY {X:Cx} {c:Code} {s s':aa} {K:Exit→aa→Prop} (id:Nat) (T':TypeId) (he:s.toRow id T'=some s') (h:J X c s' K):J X c s K:=
 fun ac w hst=>h ac w (hst.toRow he)
theorem o6 {X:Cx} {c:Code} {s s':aa} {K:Exit→aa→Prop} (id j:Nat) (he:s.ofRow id j=some s') (h:J X c s' K):J X c s K:=
 fun ac w hst=>h ac w (hst.ofRow he)
end Go.Cm
end
section
namespace Go.Proofs.YtdojbabpnaifoaaGreatDoor
open Go Go.Cm Go.Proofs
def o7 (B:aj):Tab:={types:= [(3,(.int .i64)),(79,(.slice (.st (.pair (.st (.pair .bool (.slice (.int .u32)))) (.st (.pair .bool (.slice (.int .u32)))))))),(91,(.st (.pair (.st (.pair .bool (.slice (.int .u32)))) (.st (.pair .bool (.slice (.int .u32)))))))],elems:= [(79,91)],cons:= [(119,eS)],hint:= [],N:=25,base:=B}
theorem yN {B:aj} (hB:aA B):aF Tryz.prog (o7 B):=⟨⟨tc ty3 (tc fk (tc ty91 (ae))),aQ (by kernel_rfl) (af),by simp only [o7,ioB];omega⟩,aD (cc Tryz.func119 (ua hB) (aw)),by kernel_rfl⟩
def nk:Con:=fun l os=>match l,os with
 | [.z (.slice (.st (.pair (.st (.pair .bool (.slice (.int .u32)))) (.st (.pair .bool (.slice (.int .u32))))))) p], []=>some (mQ p, [.z (.slice (.st (.pair (.st (.pair .bool (.slice (.int .u32)))) (.st (.pair .bool (.slice (.int .u32))))))) (aE (cH (am p)))], [])
 |_,_=>none
theorem uk {B:aj} (hB:aA B):Valid B Tryz.prog 120 nk:=by
 refine ab (yN hB).tab Tryz.func120 rfl rfl rfl ?_
 intro args os C rs os' hc hC
 unfold nk at hc
 split at hc
 case h_2=>cases hc
 rename_i p
 cases hc
 refine v_h (yN hB) fun X hP hT hr hG=> ?_
 have hU:=o7.eq_1
 unfold o7 at hT
 have hX:= @eS.eq_1
 simp only [Tryz.f120,aB,al,ioB]
 have hl:p.length≤1000:=hC.2.1
 refine s_g hG ?_
 refine s_g hG ?_
 refine ak ?_
 refine s_g hG ?_
 refine aq ?_
 refine bn (fun (z:Nat)=>(⟨[(0, .l (.z (.slice (.st (.pair (.st (.pair .bool (.slice (.int .u32)))) (.st (.pair .bool (.slice (.int .u32))))))) p)),(3, .l (.ownS 22)),(6, .l (.z (.slice (.st (.pair (.st (.pair .bool (.slice (.int .u32)))) (.st (.pair .bool (.slice (.int .u32))))))) p)),(7, .l (.z (.int .i64) (p.length:Int))),(8, .l (.z (.int .i64) (z:Int)))], [(22, .arr (.st (.pair (.st (.pair .bool (.slice (.int .u32)))) (.st (.pair .bool (.slice (.int .u32)))))) 91 (aE ((am p).take z|>.map fun c=>c/aH (am p))))]⟩:aa)) (fun z=>z≤p.length) (fun z=>p.length-z) 0 ?_ ?_ ?_
 ·refine q_l ?_
  exact ⟨rfl,by unfold ioB;omega,rfl⟩
 ·omega
 ·rintro k g1
  try dsimp only at g1
  refine s_g hG ?_
  refine ak ?_
  refine ao ?_ ?_
  ·intro hb0
   try simp only [bt] at hb0
   obtain ⟨m1,m2,m3,m4,m5,m6⟩:=H2 hC (k:=k) (by omega)
   refine ap ?_
   refine ah ?_
   refine ak ?_
   refine aq ?_
   refine s_q hG ?_ ?_
   ·try simp only [ba]
    exact ⟨by omega,hb0⟩
   refine vY 22 78 (by simp only [aa.toRow,LV.toRow,ioB,mx0,mx1,mx2,mx3,mx4,mx5,mx6,Nat.reduceLT,Nat.reduceEqDiff,Nat.reduceAdd,Nat.reduceMul,Nat.reduceSub,Nat.reduceLeDiff,Nat.reduceBEq,Nat.reduceBNe,reduceIte,reduceDIte,reduceCtorEq];rfl) ?_
   refine fW hG ?_ ?_
   ·try simp only [ba]
    simp only [pe2]
    rw [m1,m2]
    exact ⟨m3,⟨m4,by rw [aK];exact m5⟩,rfl,m6⟩
   refine aN ?_
   refine ah ?_
   refine o6 22 1 (by simp only [aa.ofRow,LV.ofRow,ioB,List.set_cons_zero,List.set_cons_succ,List.append_nil,List.nil_append,List.cons_append,List.getElem?_cons_zero,List.getElem?_cons_succ,Option.getD_some,mx0,mx1,mx2,mx3,mx4,mx5,mx6,Nat.reduceLT,Nat.reduceEqDiff,Nat.reduceAdd,Nat.reduceMul,Nat.reduceSub,Nat.reduceLeDiff,Nat.reduceBEq,Nat.reduceBNe,reduceIte,reduceDIte,reduceCtorEq];rfl) ?_
   refine ag hG ?_ ?_
   ·first|trivial|omega|(simp;done)|(simp;omega)
   show ∃ z,_
   refine q_l ?_
   simp only [pe2]
   rw [m1,m2]
   simp only [aK]
   exact EU hC (by omega)
  ·intro hb0
   try simp only [bf] at hb0
   refine bc ?_
   refine aC ?_
   refine av ?_
   refine au ?_
   refine ah ?_
   refine s_g hG ?_
   refine ax ?_
   refine q_e [] ?_
   exact Kq (by omega)
def o8 (B:aj):Tab:={types:= [(3,(.int .i64)),(79,(.slice (.st (.pair (.st (.pair .bool (.slice (.int .u32)))) (.st (.pair .bool (.slice (.int .u32)))))))),(91,(.st (.pair (.st (.pair .bool (.slice (.int .u32)))) (.st (.pair .bool (.slice (.int .u32)))))))],elems:= [(79,91)],cons:= [(105,dN),(124,Fz)],hint:= [],N:=24,base:=B}
theorem yO {B:aj} (hB:aA B):aF Tryz.prog (o8 B):=⟨⟨tc ty3 (tc fk (tc ty91 (ae))),aQ (by kernel_rfl) (af),by simp only [o8,ioB];omega⟩,aD (cc Tryz.func105 (kB hB) (cc Tryz.func124 (uc hB) (aw))),by kernel_rfl⟩
def iM:Con:=fun l os=>match l,os with
 | [.z (.slice (.st (.pair (.st (.pair .bool (.slice (.int .u32)))) (.st (.pair .bool (.slice (.int .u32))))))) p], []=>some (Sz QH p∧p.length≤1000, [.z (.slice (.st (.pair (.st (.pair .bool (.slice (.int .u32)))) (.st (.pair .bool (.slice (.int .u32))))))) (aE (ci (am p)))], [])
 |_,_=>none
theorem ul {B:aj} (hB:aA B):Valid B Tryz.prog 77 iM:=by
 refine ab (yO hB).tab Tryz.func77 rfl rfl rfl ?_
 intro args os C rs os' hc hC
 unfold iM at hc
 split at hc
 case h_2=>cases hc
 rename_i p
 cases hc
 refine v_h (yO hB) fun X hP hT hr hG=> ?_
 have hU:=o8.eq_1
 unfold o8 at hT
 have hX:=ai @dN.eq_1<| @Fz.eq_1
 simp only [Tryz.f77,aB,al,ioB]
 have hl:p.length≤1000:=hC.2
 refine s_g hG ?_
 refine s_g hG ?_
 refine ak ?_
 refine s_g hG ?_
 refine aq ?_
 refine bn (fun (z:Nat)=>(⟨[(3, .l (.ownS 21)),(6, .l (.z (.slice (.st (.pair (.st (.pair .bool (.slice (.int .u32)))) (.st (.pair .bool (.slice (.int .u32))))))) p)),(7, .l (.z (.int .i64) (p.length:Int))),(8, .l (.z (.int .i64) (z:Int)))], [(21, .arr (.st (.pair (.st (.pair .bool (.slice (.int .u32)))) (.st (.pair .bool (.slice (.int .u32)))))) 91 (aE (lu (am p) z)))]⟩:aa)) (fun z=>z≤p.length) (fun z=>p.length-z) 0 ?_ ?_ ?_
 ·refine q_l ?_
  exact ⟨rfl,by unfold ioB;omega,rfl⟩
 ·omega
 ·rintro k g1
  try dsimp only at g1
  refine s_g hG ?_
  refine ak ?_
  refine ao ?_ ?_
  ·intro hb0
   try simp only [bt] at hb0
   obtain ⟨m1,m2,m3,m4⟩:=H3 hC.1 hl (k:=k) (by omega)
   refine ap ?_
   refine ah ?_
   refine ak ?_
   refine aq ?_
   refine s_q hG ?_ ?_
   ·try simp only [ba]
    exact ⟨by omega,hb0⟩
   refine s_g hG ?_
   refine ao ?_ ?_
   ·intro hb1
    try simp only [bt] at hb1
    refine vY 21 78 (by simp only [aa.toRow,LV.toRow,ioB,mx0,mx1,mx2,mx3,mx4,mx5,mx6,Nat.reduceLT,Nat.reduceEqDiff,Nat.reduceAdd,Nat.reduceMul,Nat.reduceSub,Nat.reduceLeDiff,Nat.reduceBEq,Nat.reduceBNe,reduceIte,reduceDIte,reduceCtorEq];rfl) ?_
    refine fW hG ?_ ?_
    ·try simp only [ba]
     simp only [pe2]
     rw [m2]
     exact ⟨m1,m3,rfl,m4⟩
    refine aN ?_
    refine ah ?_
    first|refine o6 21 1 (by simp only [aa.ofRow,LV.ofRow,ioB,List.set_cons_zero,List.set_cons_succ,List.append_nil,List.nil_append,List.cons_append,List.getElem?_cons_zero,List.getElem?_cons_succ,Option.getD_some,mx0,mx1,mx2,mx3,mx4,mx5,mx6,Nat.reduceLT,Nat.reduceEqDiff,Nat.reduceAdd,Nat.reduceMul,Nat.reduceSub,Nat.reduceLeDiff,Nat.reduceBEq,Nat.reduceBNe,reduceIte,reduceDIte,reduceCtorEq];rfl) ?_|skip
    refine ag hG ?_ ?_
    ·first|trivial|omega|(simp;done)|(simp;omega)
    show ∃ z,_
    refine q_l ?_
    first|exact xD hl (by omega) (by omega)|(simp only [pe2];rw [m2];simp only [aK];exact th hl (by omega) (by omega))
   ·intro hb1
    try simp only [bf] at hb1
    refine ap ?_
    refine aN ?_
    refine ah ?_
    first|refine o6 21 1 (by simp only [aa.ofRow,LV.ofRow,ioB,List.set_cons_zero,List.set_cons_succ,List.append_nil,List.nil_append,List.cons_append,List.getElem?_cons_zero,List.getElem?_cons_succ,Option.getD_some,mx0,mx1,mx2,mx3,mx4,mx5,mx6,Nat.reduceLT,Nat.reduceEqDiff,Nat.reduceAdd,Nat.reduceMul,Nat.reduceSub,Nat.reduceLeDiff,Nat.reduceBEq,Nat.reduceBNe,reduceIte,reduceDIte,reduceCtorEq];rfl) ?_|skip
    refine ag hG ?_ ?_
    ·first|trivial|omega|(simp;done)|(simp;omega)
    show ∃ z,_
    refine q_l ?_
    first|exact xD hl (by omega) (by omega)|(simp only [pe2];rw [m2];simp only [aK];exact th hl (by omega) (by omega))
  ·intro hb0
   try simp only [bf] at hb0
   refine bc ?_
   refine aC ?_
   refine av ?_
   refine au ?_
   refine ah ?_
   refine s_g hG ?_
   refine ax ?_
   refine q_e [] ?_
   rw [show k=(am p).length by rw [aI];omega];rfl
end Go.Proofs.YtdojbabpnaifoaaGreatDoor
end
section
namespace Go.Proofs
open Go.RowKit Go.Cm Go.Shelf
attribute [local go_sem] Oper.semAt_some
set_option maxHeartbeats 2000000 in
set_option maxRecDepth 100000 in
theorem Bf (ad:Addr) (n c:Nat) (news:List Value) (w:World) (hl:news.length=n*4) (hn:n≤maxLen) (hbig:n*64≤140737488355328)
  (hc:∀ j u,news[j]? =some u→w.cell? (ad.add j)=some u) (h1:∀ u∈news,u.oneCell'=true):
  Calls Tryz.prog 118 #[.slice (some ad) n c] w fun e w'=>∃ v',e= .returned v'∧w'.ownsRow w.heap.size 91 4 v' n news∧Below w.heap.size w w':=by
 have t4:=Tryz.underlying4
 have a4:=Tryz.isAgg4
 have z4:=Tryz.sizeOf4
 have v4:=Tryz.zeroValue4
 have t22:=Tryz.underlying79
 have a22:=Tryz.isAgg79
 have z22:=Tryz.sizeOf79
 have v22:=Tryz.zeroValue79
 obtain ⟨i0,hi,hz0,hz1,hz2⟩:=info_parts (show (Tryz.prog.info? 91).map (fun i=>(i.zero,i.size,i.bytes))=some (some (.agg zc4.toArray),4,64) by kernel_rfl)
 have q22:∀ (w:World) (a:Option Addr) (n c n' c':Nat),(binOp .eql 79 (.slice a n c) (.slice none n' c')).run Tryz.prog w= .ok (.bool a.isNone) w:=fun w a n c n' c'=>Lib.run_eql_slice_nil w _ _ a n c n' c' t22
 have u22:∀ w,Sem.run Tryz.prog (underlying 79) w= .ok (TypeDesc.slice 91) w:=run_underlying t22
 have z23:∀ w,(Go.sizeOf 91).run Tryz.prog w= .ok 4 w:=fun w=>by simp [Go.sizeOf,typeInfo,hi,hz1]
 have A:Aside (∀ j u,news[j]? =some u→w.cell? (ad.add j)=some u):=hc
 clear hc
 go_enter Tryz.func118,Tryz.ntmps118
 go_wp2_with (at_builtin;refine wpList_append_own _ rfl _ _ 79 rfl w.heap.size 91 i0 (.agg zc4.toArray) 4 64 t22 hi hz0 hz1 hz2 rfl (by omega) _ _ _ rfl (World.ownsRow_made w #[] 0 (Nat.le_refl _) (Nat.zero_le _) (by simp)) ad n c news rfl ?qc1 ?qc2 ?qc3 ?qc4 ?qc5 ?qc6 ?_)
 case qc1=>exact hl
 case qc2=>
  intro j u hj
  exact Lib.cell?_alloc_some _ (A.out j u hj)
 case qc3=>exact h1
 case qc4=>rw [Nat.zero_add];exact hn
 case qc5=>rw [Nat.zero_add];exact hbig
 case qc6=>simp
 intro v' w1 hown hgrow hnil
 go_wp2
 go_ret
 refine ⟨v',rfl,by simpa using hown,?_⟩
 exact ((Below.refl _ w).alloc (Nat.le_refl _) _).grown hgrow (by simp) (by intro k hk;simp [Value.ownBlock] at hk;omega)
set_option maxHeartbeats 1000000 in
theorem FI (n c:Nat) (w:World):Calls Tryz.prog 118 #[.slice none n c] w fun e w'=>e= .returned (.slice none 0 0)∧w'=w:=by
 have t4:=Tryz.underlying4
 have a4:=Tryz.isAgg4
 have z4:=Tryz.sizeOf4
 have v4:=Tryz.zeroValue4
 have t22:=Tryz.underlying79
 have a22:=Tryz.isAgg79
 have z22:=Tryz.sizeOf79
 have v22:=Tryz.zeroValue79
 have q22:∀ (w:World) (a:Option Addr) (n c n' c':Nat),(binOp .eql 79 (.slice a n c) (.slice none n' c')).run Tryz.prog w= .ok (.bool a.isNone) w:=fun w a n c n' c'=>Lib.run_eql_slice_nil w _ _ a n c n' c' t22
 go_enter Tryz.func118,Tryz.ntmps118
 go_wp2
 go_ret
 exact ⟨rfl,rfl⟩
def cR:Con:=fun l os=>match l,os with
 | [.z (.slice (.st (.pair (.st (.pair .bool (.slice (.int .u32)))) (.st (.pair .bool (.slice (.int .u32))))))) xs], []=>some (xs.length≤QL, [.own (.st (.pair (.st (.pair .bool (.slice (.int .u32)))) (.st (.pair .bool (.slice (.int .u32)))))) 91 xs], [])
 |_,_=>none
theorem FJ {B:aj} (hB:aA B):Valid B Tryz.prog 118 cR:=by
 intro args os C rs os' hc hC O w vals ρ0 hOn hIo hO hOI hargs hown hap
 unfold cR at hc
 split at hc
 case h_2=>cases hc
 rename_i xs
 cases hc
 obtain ⟨u,rfl,hu⟩:=oa hargs
 obtain ⟨cells,hr,h⟩:=gq hu
 have hl:=bx (fun c x h=>NT.rep_length h) hr
 have hC:xs.length≤1000000000:=hC
 have hmove:∀ w':World,Below w.heap.size w w'→∀ H:Nat→Prop,(∀ b,b<w.heap.size→H b→O b)→cy (fun c x=>NT.rep H w' c x) cells xs:=
  fun w' hb H hH=>aT (fun b hlt hb=> .inl (hH b hlt hb)) (fun b _ hlt=>hb.block b (cJ hlt)) hr
 rcases h with ⟨rfl,h0,rfl⟩|⟨ad,c,rfl,hc⟩
 ·refine (FI 0 0 w).mono fun e w' ⟨he,hw⟩=> ?_
  subst he;subst hw
  exact vi hO (Below.refl _ _) ⟨_,_,_,rfl⟩ (hmove _ (Below.refl _ _)) ⟨by simp [h0], .inl ⟨rfl,h0⟩⟩
 ·refine (Bf ad xs.length c cells w hl (by unfold maxLen;omega) (by omega) hc (ec hr)).mono fun e w' ⟨v',he,hrow,hb⟩=> ?_
  subst he
  obtain ⟨h1,h2⟩:=hrow
  refine vi hO hb ?_ (hmove _ hb) ⟨h1,?_⟩
  ·rcases h2 with ⟨rfl,_⟩|⟨g,cap,cur,rfl,_⟩<;>exact ⟨_,_,_,rfl⟩
  ·rcases h2 with h2|⟨g,cap,cur,e1,e2,e3,e4,e5,e6,e7⟩
   ·exact .inl h2
   ·exact .inr ⟨g,cap,cur,e1,e2,e3,e4,e5,by rw [e6];exact Nat.le_refl _,e7⟩
end Go.Proofs
end
section
namespace Go.Proofs.YtdojbabpnaifoaaGreatDoor
open Go Go.Cm Go.Proofs
def cP (B:aj):Tab:={types:= [(3,(.int .i64)),(79,(.slice (.st (.pair (.st (.pair .bool (.slice (.int .u32)))) (.st (.pair .bool (.slice (.int .u32)))))))),(91,(.st (.pair (.st (.pair .bool (.slice (.int .u32)))) (.st (.pair .bool (.slice (.int .u32)))))))],elems:= [(79,91)],cons:= [(60,eR),(82,fq),(105,dN),(112,eP),(113,dO),(118,cR),(119,eS)],hint:= [],N:=78,io:= [(82, [0])],frees:= [(82, [0])],base:=B}
theorem yP {B:aj} (hB:aA B):aF Tryz.prog (cP B):=⟨⟨tc ty3 (tc fk (tc ty91 (ae))),aQ (by kernel_rfl) (af),by simp only [cP,ioB];omega⟩,aD (cc Tryz.func60 (t8 hB) (cc Tryz.func82 (FH hB) (cc Tryz.func105 (kB hB) (cc Tryz.func112 (tj hB) (cc Tryz.func113 (kC hB) (cc Tryz.func118 (FJ hB) (cc Tryz.func119 (ua hB) (aw)))))))),by kernel_rfl⟩
def nV:Con:=fun l os=>match l,os with
 | [.z (.slice (.st (.pair (.st (.pair .bool (.slice (.int .u32)))) (.st (.pair .bool (.slice (.int .u32))))))) p, .z (.slice (.st (.pair (.st (.pair .bool (.slice (.int .u32)))) (.st (.pair .bool (.slice (.int .u32))))))) q], []=>some (eO p q, [.z (.slice (.st (.pair (.st (.pair .bool (.slice (.int .u32)))) (.st (.pair .bool (.slice (.int .u32))))))) (aE (divN (am p) (am q)).1), .own (.st (.pair (.st (.pair .bool (.slice (.int .u32)))) (.st (.pair .bool (.slice (.int .u32)))))) 91 (aE (divN (am p) (am q)).2)], [])
 |_,_=>none
theorem nm {B:aj} (hB:aA B):Valid B Tryz.prog 68 nV:=by
 refine ab (yP hB).tab Tryz.func68 rfl rfl rfl ?_
 intro args os C rs os' hc hC
 unfold nV at hc
 split at hc
 case h_2=>cases hc
 rename_i p q
 cases hc
 refine v_h (yP hB) fun X hP hT hr hG=> ?_
 have hU:=cP.eq_1
 unfold cP at hT
 have hX:=ai @cR.eq_1<|ai @eS.eq_1<|ai @dN.eq_1<|ai @eR.eq_1<|ai @eP.eq_1<|ai @fq.eq_1<|ai @dO.eq_1<|ai @bO.eq_def<| @b4.eq_def
 simp only [Tryz.f68,aB,al,ioB]
 refine ak ?_
 have hl1:=hC.l1
 have hl2:=hC.l2
 have h0:=hC.h0
 obtain ⟨v1,v2,v3⟩:=L2 hC
 refine ct hG (by simp only [hT,cP,bO.eq_def,b4.eq_def,cR,eS,dN,eR,eP,fq,dO,mx0,mx1,mx2,mx3,mx4,mx5,mx6,aS,bi,bz,aW,bh,Ty.fieldTy,Ty.fieldOf,Nat.reduceLT,Nat.reduceEqDiff,Nat.reduceAdd,Nat.reduceMul,Nat.reduceSub,Nat.reduceLeDiff,Nat.reduceBEq,Nat.reduceBNe,reduceIte,reduceDIte,reduceCtorEq];rfl) ?_ ?_
 ·first|trivial|omega|(simp;done)|(simp;omega)
 refine ah ?_
 refine ak ?_
 refine ct hG (by simp only [hT,cP,bO.eq_def,b4.eq_def,cR,eS,dN,eR,eP,fq,dO,mx0,mx1,mx2,mx3,mx4,mx5,mx6,aS,bi,bz,aW,bh,Ty.fieldTy,Ty.fieldOf,Nat.reduceLT,Nat.reduceEqDiff,Nat.reduceAdd,Nat.reduceMul,Nat.reduceSub,Nat.reduceLeDiff,Nat.reduceBEq,Nat.reduceBNe,reduceIte,reduceDIte,reduceCtorEq];rfl) ?_ ?_
 ·try simp only [ba]
  show p.length≤1000000000
  omega
 refine ah ?_
 refine ak ?_
 refine ct hG (by simp only [hT,cP,bO.eq_def,b4.eq_def,cR,eS,dN,eR,eP,fq,dO,mx0,mx1,mx2,mx3,mx4,mx5,mx6,aS,bi,bz,aW,bh,Ty.fieldTy,Ty.fieldOf,Nat.reduceLT,Nat.reduceEqDiff,Nat.reduceAdd,Nat.reduceMul,Nat.reduceSub,Nat.reduceLeDiff,Nat.reduceBEq,Nat.reduceBNe,reduceIte,reduceDIte,reduceCtorEq];rfl) ?_ ?_
 ·try simp only [ba]
  rw [v1]
  exact ⟨v2,v3⟩
 refine ah ?_
 refine ak ?_
 refine aq ?_
 refine GS 1104 1600 (by simp only [hT,cP,mx0,mx1,mx2,mx3,mx4,mx5,mx6,Nat.reduceLT,Nat.reduceEqDiff,Nat.reduceAdd,Nat.reduceMul,Nat.reduceSub,Nat.reduceLeDiff,Nat.reduceBEq,Nat.reduceBNe,reduceIte,reduceDIte,reduceCtorEq];rfl) ?_
 refine bn (fun (z:Nat×List Rat×List Rat)=>(⟨[(0, .l (.z (.slice (.st (.pair (.st (.pair .bool (.slice (.int .u32)))) (.st (.pair .bool (.slice (.int .u32))))))) p)),(1, .l (.z (.slice (.st (.pair (.st (.pair .bool (.slice (.int .u32)))) (.st (.pair .bool (.slice (.int .u32))))))) q)),(6, .l (.ownS 1600)),(7, .l (.ownS 1184))], [(1600, .arr (.st (.pair (.st (.pair .bool (.slice (.int .u32)))) (.st (.pair .bool (.slice (.int .u32)))))) 91 (aE z.2.1)),(1184, .arr (.st (.pair (.st (.pair .bool (.slice (.int .u32)))) (.st (.pair .bool (.slice (.int .u32)))))) 91 (aE z.2.2))]⟩:aa)) (fun z=>DivPhi p q z.1 z.2.1 z.2.2) (fun z=>z.2.1.length) (p.length+1,am p,List.replicate (p.length+1-q.length) 0) ?_ ?_ ?_
 ·refine q_l ?_
  rw [v1,Int.toNat_natCast,hC.enc,xB]
  exact ⟨rfl,rfl⟩
 ·exact div_start hC
 ·rintro ⟨n,r,s⟩ hz
  try dsimp only at hz
  refine ak ?_
  refine ak ?_
  refine ct hG (by simp only [hT,cP,bO.eq_def,b4.eq_def,cR,eS,dN,eR,eP,fq,dO,mx0,mx1,mx2,mx3,mx4,mx5,mx6,aS,bi,bz,aW,bh,Ty.fieldTy,Ty.fieldOf,Nat.reduceLT,Nat.reduceEqDiff,Nat.reduceAdd,Nat.reduceMul,Nat.reduceSub,Nat.reduceLeDiff,Nat.reduceBEq,Nat.reduceBNe,reduceIte,reduceDIte,reduceCtorEq];rfl) ?_ ?_
  ·first|trivial|omega|(simp;done)|(simp;omega)
  refine ah ?_
  refine ao ?_ ?_
  ·intro hb0
   try simp only [bt] at hb0
   have hle:q.length≤r.length:=by have h9:(q.length:Int)≤((aE r).length:Int):=hb0;rw [az] at h9;omega
   obtain ⟨w1,w2,n1,n2,n3⟩:=H6 hC hz hle
   have hk:=MI hC hz hle
   refine ap ?_
   refine ah ?_
   refine aq ?_
   refine ak ?_
   refine ct hG (by simp only [hT,cP,bO.eq_def,b4.eq_def,cR,eS,dN,eR,eP,fq,dO,mx0,mx1,mx2,mx3,mx4,mx5,mx6,aS,bi,bz,aW,bh,Ty.fieldTy,Ty.fieldOf,Nat.reduceLT,Nat.reduceEqDiff,Nat.reduceAdd,Nat.reduceMul,Nat.reduceSub,Nat.reduceLeDiff,Nat.reduceBEq,Nat.reduceBNe,reduceIte,reduceDIte,reduceCtorEq];rfl) ?_ ?_
   ·first|trivial|omega|(simp;done)|(simp;omega)
   refine ah ?_
   refine ak ?_
   refine qQ hG (by simp only [hT,mt0,cP,bO.eq_def,b4.eq_def,cR,eS,dN,eR,eP,fq,dO,mx0,mx1,mx2,mx3,mx4,mx5,mx6,aS,bi,bz,aW,bh,Ty.fieldTy,Ty.fieldOf,Nat.reduceLT,Nat.reduceEqDiff,Nat.reduceAdd,Nat.reduceMul,Nat.reduceSub,Nat.reduceLeDiff,Nat.reduceBEq,Nat.reduceBNe,reduceIte,reduceDIte,reduceCtorEq];rfl) (by kernel_rfl) (by rfl) (by rfl) ?_ ?_
   ·try simp only [ba]
    simp only [w1,w2,Int.toNat_natCast,n1,n2]
    exact EW hC hz hle
   refine ah ?_
   refine ak ?_
   refine ct hG (by simp only [hT,cP,bO.eq_def,b4.eq_def,cR,eS,dN,eR,eP,fq,dO,mx0,mx1,mx2,mx3,mx4,mx5,mx6,aS,bi,bz,aW,bh,Ty.fieldTy,Ty.fieldOf,Nat.reduceLT,Nat.reduceEqDiff,Nat.reduceAdd,Nat.reduceMul,Nat.reduceSub,Nat.reduceLeDiff,Nat.reduceBEq,Nat.reduceBNe,reduceIte,reduceDIte,reduceCtorEq];rfl) ?_ ?_
   ·try simp only [ba]
    simp only [hk,Int.toNat_natCast]
    exact ⟨⟨(vf hC hz hle).1,(vf hC hz hle).2.1⟩,(vf hC hz hle).2.2⟩
   refine ah ?_
   refine ak ?_
   refine ak ?_
   refine ct hG (by simp only [hT,cP,bO.eq_def,b4.eq_def,cR,eS,dN,eR,eP,fq,dO,mx0,mx1,mx2,mx3,mx4,mx5,mx6,aS,bi,bz,aW,bh,Ty.fieldTy,Ty.fieldOf,Nat.reduceLT,Nat.reduceEqDiff,Nat.reduceAdd,Nat.reduceMul,Nat.reduceSub,Nat.reduceLeDiff,Nat.reduceBEq,Nat.reduceBNe,reduceIte,reduceDIte,reduceCtorEq];rfl) ?_ ?_
   ·first|trivial|omega|(simp;done)|(simp;omega)
   refine ah ?_
   refine aq ?_
   refine bn (fun (z:Nat)=>(⟨[(0, .l (.z (.slice (.st (.pair (.st (.pair .bool (.slice (.int .u32)))) (.st (.pair .bool (.slice (.int .u32))))))) p)),(1, .l (.z (.slice (.st (.pair (.st (.pair .bool (.slice (.int .u32)))) (.st (.pair .bool (.slice (.int .u32))))))) q)),(6, .l (.ownS 1600)),(7, .l (.ownS 1184)),(8, .l (.z (.int .i64) ((r.length-q.length:Nat):Int))),(9, .l (.ownP 9 0)),(51, .l (.z (.slice (.st (.pair (.st (.pair .bool (.slice (.int .u32)))) (.st (.pair .bool (.slice (.int .u32))))))) q)),(52, .l (.z (.int .i64) (q.length:Int))),(53, .l (.z (.int .i64) (z:Int)))], [(1600, .arr (.st (.pair (.st (.pair .bool (.slice (.int .u32)))) (.st (.pair .bool (.slice (.int .u32)))))) 91 (aE (cl r (r.length-q.length) (-(aH r/aH (am q))) (am q) z))),(1184, .arr (.st (.pair (.st (.pair .bool (.slice (.int .u32)))) (.st (.pair .bool (.slice (.int .u32)))))) 91 (aE (s.set (r.length-q.length) (aH r/aH (am q))))),(9, .box 91 [.z .bool (bg (aH r/aH (am q))).1.1, .z (.slice (.int .u32)) (bg (aH r/aH (am q))).1.2, .z .bool (bg (aH r/aH (am q))).2.1, .z (.slice (.int .u32)) (bg (aH r/aH (am q))).2.2])]⟩:aa)) (fun z=>z≤q.length) (fun z=>q.length-z) 0 ?_ ?_ ?_
   ·refine q_l ?_
    simp only [hk,w1,w2,Int.toNat_natCast,pe2,n1,n2,aK,rz,cl,true_and,and_true,and_self]
    rfl
   ·omega
   ·rintro i g1
    try dsimp only at g1
    refine ak ?_
    refine ct hG (by simp only [hT,cP,bO.eq_def,b4.eq_def,cR,eS,dN,eR,eP,fq,dO,mx0,mx1,mx2,mx3,mx4,mx5,mx6,aS,bi,bz,aW,bh,Ty.fieldTy,Ty.fieldOf,Nat.reduceLT,Nat.reduceEqDiff,Nat.reduceAdd,Nat.reduceMul,Nat.reduceSub,Nat.reduceLeDiff,Nat.reduceBEq,Nat.reduceBNe,reduceIte,reduceDIte,reduceCtorEq];rfl) ?_ ?_
    ·first|trivial|omega|(simp;done)|(simp;omega)
    refine ah ?_
    refine ak ?_
    refine ao ?_ ?_
    ·intro hb1
     try simp only [bt] at hb1
     have hi:i<q.length:=by have h9:(i:Int)<(q.length:Int):=hb1;omega
     obtain ⟨u1,u2,u3,u4,u5,u6⟩:=H4 hC hz hle hi
     refine ap ?_
     refine ah ?_
     refine ak ?_
     refine aq ?_
     refine ak ?_
     refine ct hG (by simp only [hT,cP,bO.eq_def,b4.eq_def,cR,eS,dN,eR,eP,fq,dO,mx0,mx1,mx2,mx3,mx4,mx5,mx6,aS,bi,bz,aW,bh,Ty.fieldTy,Ty.fieldOf,Nat.reduceLT,Nat.reduceEqDiff,Nat.reduceAdd,Nat.reduceMul,Nat.reduceSub,Nat.reduceLeDiff,Nat.reduceBEq,Nat.reduceBNe,reduceIte,reduceDIte,reduceCtorEq];rfl) ?_ ?_
     ·try simp only [ba]
      exact ⟨by omega,hb1⟩
     refine ah ?_
     refine qQ hG (by simp only [hT,mt0,cP,bO.eq_def,b4.eq_def,cR,eS,dN,eR,eP,fq,dO,mx0,mx1,mx2,mx3,mx4,mx5,mx6,aS,bi,bz,aW,bh,Ty.fieldTy,Ty.fieldOf,Nat.reduceLT,Nat.reduceEqDiff,Nat.reduceAdd,Nat.reduceMul,Nat.reduceSub,Nat.reduceLeDiff,Nat.reduceBEq,Nat.reduceBNe,reduceIte,reduceDIte,reduceCtorEq];rfl) (by kernel_rfl) (by rfl) (by rfl) ?_ ?_
     ·try simp only [ba]
      simp only [pe2,u1,u3,u4,Int.toNat_natCast,aK]
      exact EX hC hz hle hi
     refine aN ?_
     refine ah ?_
     refine ct hG (by simp only [hT,cP,bO.eq_def,b4.eq_def,cR,eS,dN,eR,eP,fq,dO,mx0,mx1,mx2,mx3,mx4,mx5,mx6,aS,bi,bz,aW,bh,Ty.fieldTy,Ty.fieldOf,Nat.reduceLT,Nat.reduceEqDiff,Nat.reduceAdd,Nat.reduceMul,Nat.reduceSub,Nat.reduceLeDiff,Nat.reduceBEq,Nat.reduceBNe,reduceIte,reduceDIte,reduceCtorEq];rfl) ?_ ?_
     ·first|trivial|omega|(simp;done)|(simp;omega)
     show ∃ z,_
     refine q_l ?_
     simp only [pe2,u1,u3,u4,Int.toNat_natCast,aK,Ks]
     exact H7 (n:=n) (s:=s) hC hi
    ·intro hb1
     try simp only [bf] at hb1
     have hi:i=q.length:=by have h9: ¬ (i:Int)<(q.length:Int):=hb1;omega
     refine bc ?_
     refine aC ?_
     refine av ?_
     refine au ?_
     refine ah ?_
     refine ct hG (by simp only [hT,cP,bO.eq_def,b4.eq_def,cR,eS,dN,eR,eP,fq,dO,mx0,mx1,mx2,mx3,mx4,mx5,mx6,aS,bi,bz,aW,bh,Ty.fieldTy,Ty.fieldOf,Nat.reduceLT,Nat.reduceEqDiff,Nat.reduceAdd,Nat.reduceMul,Nat.reduceSub,Nat.reduceLeDiff,Nat.reduceBEq,Nat.reduceBNe,reduceIte,reduceDIte,reduceCtorEq];rfl) ?_ ?_
     ·try simp only [ba]
      rw [Ce (p:=p) (n:=n) (s:=s) hi]
      exact H5 hC hz hle
     refine aN ?_
     show ∃ z,_
     refine q_l ?_
     obtain ⟨m,hm⟩:=div_next hC hz hle
     exact ⟨m,aP (ce (am q) r),by rw [Ce (p:=p) (n:=n) (s:=s) hi,aG],_,rfl,hm,eH (by rw [aI];exact h0) (by rw [aI];exact hle) hC.hl⟩
  ·intro hb0
   try simp only [bf] at hb0
   have hle: ¬q.length≤r.length:=by have h9: ¬ (q.length:Int)≤((aE r).length:Int):=hb0;rw [az] at h9;omega
   have he:=div_end hz hle
   refine bc ?_
   refine aC ?_
   refine av ?_
   refine au ?_
   refine ah ?_
   refine ak ?_
   refine ct hG (by simp only [hT,cP,bO.eq_def,b4.eq_def,cR,eS,dN,eR,eP,fq,dO,mx0,mx1,mx2,mx3,mx4,mx5,mx6,aS,bi,bz,aW,bh,Ty.fieldTy,Ty.fieldOf,Nat.reduceLT,Nat.reduceEqDiff,Nat.reduceAdd,Nat.reduceMul,Nat.reduceSub,Nat.reduceLeDiff,Nat.reduceBEq,Nat.reduceBNe,reduceIte,reduceDIte,reduceCtorEq];rfl) ?_ ?_
   ·first|trivial|omega|(simp;done)|(simp;omega)
   refine ah ?_
   refine ax ?_
   refine q_e [] ?_
   rw [← he]
   exact ⟨rfl,trivial,rfl⟩
end Go.Proofs.YtdojbabpnaifoaaGreatDoor
end
section
namespace Go.Proofs.YtdojbabpnaifoaaGreatDoor
open Go Go.Cm Go.Proofs
def o9 (B:aj):Tab:={types:= [(3,(.int .i64)),(79,(.slice (.st (.pair (.st (.pair .bool (.slice (.int .u32)))) (.st (.pair .bool (.slice (.int .u32))))))))],elems:= [],cons:= [(68,nV),(120,nk)],hint:= [13],N:=21,base:=B}
theorem yQ {B:aj} (hB:aA B):aF Tryz.prog (o9 B):=⟨⟨tc ty3 (tc fk (ae)),af,by simp only [o9,ioB];omega⟩,aD (cc Tryz.func68 (nm hB) (cc Tryz.func120 (uk hB) (aw))),by kernel_rfl⟩
def kE:Con:=fun l os=>match l,os with
 | [.z (.slice (.st (.pair (.st (.pair .bool (.slice (.int .u32)))) (.st (.pair .bool (.slice (.int .u32))))))) p, .z (.slice (.st (.pair (.st (.pair .bool (.slice (.int .u32)))) (.st (.pair .bool (.slice (.int .u32))))))) q], []=>some (hZ p q, [.z (.slice (.st (.pair (.st (.pair .bool (.slice (.int .u32)))) (.st (.pair .bool (.slice (.int .u32))))))) (aE (cm (am p) (am q)))], [])
 |_,_=>none
theorem um {B:aj} (hB:aA B):Valid B Tryz.prog 70 kE:=by
 refine ab (yQ hB).tab Tryz.func70 rfl rfl rfl ?_
 intro args os C rs os' hc hC
 unfold kE at hc
 split at hc
 case h_2=>cases hc
 rename_i p q
 cases hc
 refine v_h (yQ hB) fun X hP hT hr hG=> ?_
 have hU:=o9.eq_1
 unfold o9 at hT
 have hX:=ai @nk.eq_1<| @nV.eq_1
 simp only [Tryz.f70,aB,al,ioB]
 refine s_g hG ?_
 refine ak ?_
 refine aq ?_
 refine bn (fun (z:Nat×List Rat×List Rat)=>(⟨[(0, .l (.z (.slice (.st (.pair (.st (.pair .bool (.slice (.int .u32)))) (.st (.pair .bool (.slice (.int .u32))))))) (aE z.2.1))),(1, .l (.z (.slice (.st (.pair (.st (.pair .bool (.slice (.int .u32)))) (.st (.pair .bool (.slice (.int .u32))))))) (aE z.2.2)))], []⟩:aa)) (fun z=>rG p q z.1 z.2.1 z.2.2) (fun z=>z.2.2.length) (q.length+1,am p,am q) ?_ ?_ ?_
 ·refine q_l ?_
  rw [vg hC.hp,vg hC.hq]
  exact ⟨rfl,rfl⟩
 ·exact EY hC
 ·rintro ⟨n,a,b⟩ hz
  try dsimp only at hz
  refine ak ?_
  refine s_g hG ?_
  refine ao ?_ ?_
  ·intro hb0
   try simp only [bt] at hb0
   have hl:0<b.length:=by have h9:(0:Int)<((aE b).length:Int):=hb0;rw [az] at h9;omega
   obtain ⟨d1,d2,⟨m,d3⟩,d4⟩:=H8 hz hl
   refine ap ?_
   refine ah ?_
   refine aq ?_
   refine s_q hG ?_ ?_
   ·try simp only [ba]
    exact d1
   refine ag hG ?_ ?_
   ·try simp only [ba]
    rw [aG,aG]
    exact d2
   refine aN ?_
   show ∃ z,_
   refine q_l ?_
   rw [aG,aG,aG]
   exact ⟨m,b,rfl,_,rfl,d3,d4⟩
  ·intro hb0
   try simp only [bf] at hb0
   have hl: ¬0<b.length:=by have h9: ¬ (0:Int)<((aE b).length:Int):=hb0;rw [az] at h9;omega
   obtain ⟨d1,d2⟩:=Kt hz hl
   refine bc ?_
   refine aC ?_
   refine av ?_
   refine au ?_
   refine ah ?_
   refine s_q hG ?_ ?_
   ·try simp only [ba]
    exact d1
   refine ax ?_
   refine q_e [] ?_
   rw [aG,d2]
def pb (B:aj):Tab:={types:= [(3,(.int .i64)),(79,(.slice (.st (.pair (.st (.pair .bool (.slice (.int .u32)))) (.st (.pair .bool (.slice (.int .u32))))))))],elems:= [],cons:= [(68,nV),(70,kE),(77,iM),(120,nk)],hint:= [14],N:=19,base:=B}
theorem yR {B:aj} (hB:aA B):aF Tryz.prog (pb B):=⟨⟨tc ty3 (tc fk (ae)),af,by simp only [pb,ioB];omega⟩,aD (cc Tryz.func68 (nm hB) (cc Tryz.func70 (um hB) (cc Tryz.func77 (ul hB) (cc Tryz.func120 (uk hB) (aw))))),by kernel_rfl⟩
def pf:Con:=fun l os=>match l,os with
 | [.z (.slice (.st (.pair (.st (.pair .bool (.slice (.int .u32)))) (.st (.pair .bool (.slice (.int .u32))))))) p], []=>some (kP p, [.z (.slice (.st (.pair (.st (.pair .bool (.slice (.int .u32)))) (.st (.pair .bool (.slice (.int .u32))))))) (aE (cg (am p)))], [])
 |_,_=>none
theorem FK {B:aj} (hB:aA B):Valid B Tryz.prog 79 pf:=by
 refine ab (yR hB).tab Tryz.func79 rfl rfl rfl ?_
 intro args os C rs os' hc hC
 unfold pf at hc
 split at hc
 case h_2=>cases hc
 rename_i p
 cases hc
 refine v_h (yR hB) fun X hP hT hr hG=> ?_
 have hU:=pb.eq_1
 unfold pb at hT
 have hX:=ai @kE.eq_1<|ai @iM.eq_1<|ai @nk.eq_1<| @nV.eq_1
 simp only [Tryz.f79,aB,al,ioB]
 refine s_g hG ?_
 refine ak ?_
 refine s_g hG ?_
 refine ao ?_ ?_
 ·intro hb0
  try simp only [bt] at hb0
  refine s_g hG ?_
  refine ax ?_
  refine ay ?_
  refine q_e [] ?_
  have h9:(p.length:Int)=0:=hb0
  obtain rfl:p= []:=List.eq_nil_of_length_eq_zero (by omega)
  rfl
 ·intro hb0
  try simp only [bf] at hb0
  have hne:p≠ []:=by intro e;subst e;exact hb0 rfl
  obtain ⟨c1,c2,c3,c4,c5⟩:=hC hne
  refine ap ?_
  refine ah ?_
  refine s_q hG ?_ ?_
  ·try simp only [ba]
   simp only [aG]
   exact ⟨⟨c1,by omega⟩,c3,c4⟩
  refine s_q hG ?_ ?_
  ·try simp only [ba]
   simp only [aG]
   exact c5
  refine ax ?_
  refine q_e [] ?_
  simp only [aG,cg,if_neg (show ¬am p= [] from fun e=>hne (by have:=congrArg List.length e;rw [aI] at this;exact List.eq_nil_of_length_eq_zero this))]
end Go.Proofs.YtdojbabpnaifoaaGreatDoor
end
section
namespace Go.Cm
open Go.RowKit
def un:Code→Option (Nat×TypeId×Nat)
 | .region _ ops false=>match ops.toList with
  | [o1,o2]=>match o1.guard,o1.dst,o1.op,o2.guard,o2.dst,o2.op with
   |none,some d, .alloc T,none,none, .store T' (.tmp d') (.tmp p)=>if T=T'∧d'=d∧p≠d then some (d,T,p) else none
   |_,_,_,_,_,_=>none
  |_=>none
 |_=>none
theorem vZ {H:Nat→Prop} {w:World} {ρ:Nat→Value} {cs:List LV} {vs:List Value} (h:br (fT H w ρ) cs vs):∀ c∈vs,c.oneCell'=true:=by
 intro c hc
 obtain ⟨i,hi,rfl⟩:=List.getElem_of_mem hc
 have hl:=h.length
 obtain ⟨v,h1,h2⟩:=h.get (List.getElem?_eq_getElem (show i<cs.length by omega))
 rw [List.getElem?_eq_getElem hi] at h1
 cases h1
 exact h2.2
theorem JI {X:Cx} {r:Option Nat} {n:Nat} (c:Code) {d:Nat} {T:TypeId} {p:Nat} {u:Ty} (h:un c=some (d,T,p)) (hT:cK X.P T u) (a:Act) (w:World) (hd:d<a.tmps.size) (hl:(a.eval (.tmp p)).cells.toList.length=u.w) (h1:∀ c∈(a.eval (.tmp p)).cells.toList,c.oneCell'=true):
  ∃ Wb:World,(∀ k,k<w.heap.size→Wb.heap[k]? =w.heap[k]?)∧Wb.heap[w.heap.size]? =some (.cells ((a.eval (.tmp p)).cells.toList).toArray T (0,0))∧Wb.heap.size=w.heap.size+1∧(Wb.os=w.os∧Wb.tape=w.tape∧Wb.output=w.output)∧
   ∀ {K:Act→World→Prop} {R:Exit→Act→World→Prop},K (a.put (some d) (.pointer (some ⟨w.heap.size,0,none⟩))) Wb→c.wpIn (fw r) n X.P (Exit.then K R) a w:=by
 cases c with
 |region id ops draw=>
  cases draw with
  |true=>simp [un] at h
  |false=>
   simp only [un] at h
   split at h
   case h_2=>cases h
   rename_i o1 o2 hops
   split at h
   case h_2=>cases h
   rename_i d0 T0 T' d' p' g1 e1 e2 g2 e3 e4
   split at h
   case isFalse=>cases h
   rename_i hc
   obtain ⟨rfl,rfl,hpd⟩:=hc
   cases h
   have hz:=fv hT.leaf u.zeroCells u.zeroCells_length u.zeroCells_one
   have hrow:(w.alloc (.cells (mkV u.isAgg u.zeroCells).cells T)).heap[w.heap.size]? =some (.cells u.zeroCells.toArray T (0,0)):=by
    rw [heap_alloc_new];congr 2;apply Array.ext';simpa using hz
   have hst:=eL (P:=X.P) hT (v:=a.eval (.tmp p)) hrow hl h1 (o:=0) (by rw [u.zeroCells_length];omega)
   have hset:=dj hrow (new:=(a.eval (.tmp p)).cells.toList) (off:=0) (by rw [hl,u.zeroCells_length];omega)
   refine ⟨(w.alloc (.cells (mkV u.isAgg u.zeroCells).cells T)).setCells w.heap.size 0 (a.eval (.tmp p)).cells.toList,fun k hk=> ?_,?_,?_,?_,?_⟩
   ·rw [b5 _ _ _ _ (by omega)];exact bY w _ k hk
   ·rw [hset]
    have e0:u.zeroCells.drop (0+(a.eval (.tmp p)).cells.toList.length)= []:=List.drop_of_length_le (by rw [hl,u.zeroCells_length];omega)
    rw [e0];simp
   ·rw [kJ,World.size_alloc]
   ·have hb:=Bel.setCells (M:=fun _=>True) (b:=w.heap.size) trivial (a.eval (.tmp p)).cells.toList 0 ((Bel.refl (fun _=>True) w).alloc (.cells (mkV u.isAgg u.zeroCells).cells T))
    exact ⟨hb.os,hb.tape,hb.output⟩
   ·intro K R hk
    refine wpIn_region_list ?_
    rw [hops]
    have hw1:∀ t,Region.wanted o1 (yielded ops t)=true:=fun t=>by simp [Region.wanted,g1]
    have hw2:∀ t,Region.wanted o2 (yielded ops t)=true:=fun t=>by simp [Region.wanted,g2]
    simp only [wpListIn,hw1,if_true]
    refine be (v:= .pointer (some ⟨w.heap.size,0,none⟩)) (w':=w.alloc (.cells (mkV u.isAgg u.zeroCells).cells T)) ?_ ?_
    ·unfold execOp;rw [e2];exact bq (sD hT w)
    ·rw [e1]
     simp only [hw2,if_true]
     have hdv:(a.put (some d) (.pointer (some ⟨w.heap.size,0,none⟩))).eval (.tmp d)= .pointer (some ⟨w.heap.size,0,none⟩):=by
      simp [Act.eval,Act.put,hd]
     have hpv:(a.put (some d) (.pointer (some ⟨w.heap.size,0,none⟩))).eval (.tmp p)=a.eval (.tmp p):=by
      show (a.put (some d) _).tmps.getD p undef=a.tmps.getD p undef
      exact Act.getD_put_ne hpd
     refine fz (w':=(w.alloc (.cells (mkV u.isAgg u.zeroCells).cells T)).setCells w.heap.size 0 (a.eval (.tmp p)).cells.toList) ?_ ?_
     ·unfold execOp;rw [e4]
      simp only [hdv,hpv]
      simp [hst]
     ·rw [e3];exact hk
 |_=>simp [un] at h
theorem Fits.freshO {X:Cx} {s:aa} {a:Act} {w w':World} {d:Nat} {obj:aL} {val:Value} {ρ:Nat→Value} (hf:Fits X s a w ρ) (hdB:d<ioB)
  (hkeep:∀ k,k<w.heap.size→w'.heap[k]? =w.heap[k]?) (hval:∀ b,Blk val b→w.heap.size≤b)
  (hobj:∀ H' ρ',(∀ b,b<w.heap.size→H' b→hot X.O ρ s.own b)→bd (hot X.O ρ s.own) w w'→(∀ i,i≠d→ρ' i=ρ i)→ρ' d=val→bV H' w' ρ' X.M (d,obj)):
  ∃ ρ',ρ' d=val∧(∀ i,i≠d→ρ' i=ρ i)∧Fits X {env:=bL (LV.kill d) s.env,own:=(d,obj)::bk (LV.kill d) (del s.own d)} a w' ρ':=by
 have hlt:=fun p hp b hb=>((hf.own p hp).lt (b:=b) hb).2
 have hs:bd (hot X.O ρ s.own) w w':=fun b _ hb=>hkeep b (cJ hb)
 have hh:∀ b,b<w.heap.size→hot X.O (kG ρ d val) ((d,obj)::bk (LV.kill d) (del s.own d)) b→hot X.O ρ s.own b:=by
  intro b hb h
  rcases h with h|⟨p,hp,hp2⟩
  ·exact .inl h
  ·rcases List.mem_cons.1 hp with rfl|hp
   ·simp only [cz] at hp2
    have:=hval b hp2;omega
   ·obtain ⟨u,h1,_⟩:=bj hp
    have h2:=bE.1 h1
    rw [c7 _ _ h2.2] at hp2
    exact cX h2.1 hp2
 have hρ:∀ i,i≠d→kG ρ d val i=ρ i:=fun i hi=>c7 _ _ hi
 refine ⟨kG ρ d val,cz _ _ _,hρ,hf.env_map (fun x v hx=>bb hh hs hρ hx) ?_ ?_ ?_⟩
 ·intro p hp
  rcases List.mem_cons.1 hp with rfl|hp
  ·exact hobj _ _ hh hs hρ (cz _ _ _)
  ·obtain ⟨u,h1,h2⟩:=bj hp
   have h3:=bE.1 h1
   have:=(hf.own _ h3.1).move (f:=LV.kill d) (ρ':=kG ρ d val) hh hs (fun x v hx=>bb hh hs hρ hx) (hρ _ h3.2) (fun b hb=>hkeep b (hlt _ h3.1 b hb))
   rw [← h2] at this
   exact this
 ·intro p hp hB hF
  rcases List.mem_cons.1 hp with rfl|hp
  ·exact absurd hB (Nat.not_le.2 hdB)
  ·obtain ⟨u,h1,_⟩:=bj hp
   have h3:=bE.1 h1
   rw [hρ _ h3.2]
   exact hf.io _ h3.1 hB hF
 ·rw [List.pairwise_cons]
  constructor
  ·intro q hq
   obtain ⟨u,h1,_⟩:=bj hq
   have h3:=bE.1 h1
   refine ⟨fun e=>h3.2 e.symm,fun b hb hq2=> ?_⟩
   rw [c7 _ _ h3.2] at hq2
   simp only [cz] at hb
   have h4:=hval b hb
   have:=hlt _ h3.1 b hq2
   omega
  ·have hap:=co (f:=LV.kill d) (fun i j=>i≠j∧∀ b,Blk (ρ i) b→ ¬Blk (ρ j) b) (cO (fun i j=>i≠j∧∀ b,Blk (ρ i) b→ ¬Blk (ρ j) b) (n:=d) hf.apart)
   refine hap.imp_of_mem fun {p q} hp hq hpq=> ?_
   obtain ⟨_,h1,_⟩:=bj hp
   obtain ⟨_,h2,_⟩:=bj hq
   rw [c7 _ _ (bE.1 h1).2,c7 _ _ (bE.1 h2).2]
   exact hpq
theorem FL {X:Cx} (hr:X.r=none) {s:aa} {K:Exit→aa→Prop} {g:Operand} {ps:Array Tmp} {assign body:Code} {gf:FuncId}
  {items:List (List LV)} (henters:∀ args w,(callFunc gf args).run X.P w= .ok (.enter gf args) w) (hdata:∀ it∈items,it.length=ps.size∧it.all LV.isZ=true) {d pv:Nat} {TB:TypeId} {ub:Ty} (hasg:un assign=some (d,TB,pv)) (hTb:cK X.P TB ub) (hdN:d<X.T.N) (ks:List Nat)
  (hk1:ks.all (fun t=> !ps.toList.contains t&&t !=d)=true) (hps:ps.toList.all (fun t=>decide (t<X.T.N))=true)
  {ι:Type} (f:Nat→ι→aa) (Φ:Nat→ι→Prop) (x₀:ι) (h₀:le s (f 0 x₀))
  (hseq:∀ (a:Act) (w:World) (ρ:Nat→Value),St X s a w→Fits X s a w ρ→(∀ b,hot X.O (cB ρ s.own) (f 0 x₀).own b→b<w.heap.size)→∃ (lb:List Value) (E:Nat→Prop),a.eval g= .func (.func gf) #[] lb.toArray∧(∀ b,E b→X.M b∧(∃ o:Obj,w.heap[b]? =some o∧o.isCells=true)∧ ¬hot X.O (cB ρ s.own) (f 0 x₀).own b∧hot X.O ρ s.own b)∧∃ enc:Nat→Array Value,
   (∀ k (hk:k<items.length),br (aR (fun b=>hot X.O (cB ρ s.own) (f 0 x₀).own b∨E b) w (fun _=>undef)) items[k] (enc k).toList)∧sM X.P gf lb.toArray enc items.length (wO (hot (fun _=>False) (cB ρ s.own) (f 0 x₀).own) w.heap.size) w E) (hΦ:Φ 0 x₀) (hks:∀ k x,(f k x).env.all (fun e=>ks.contains e.1)=true)
  (hround:∀ k (hk:k<items.length) (x:ι),Φ k x→∃ s1 v cs,aX (dF (f k x) (ps.toList.zip items[k])) (.tmp pv)=some v∧v.cells=some cs∧cs.length=ub.w∧cs.all (fun c=> !c.isOf d)=true∧s1={env:=(d, .l (.ownP d 0))::del ((dF (f k x) (ps.toList.zip items[k])).kill d).env d,own:=(d, .box TB cs)::((dF (f k x) (ps.toList.zip items[k])).kill d).own}∧
   ∀ X':Cx,X'.P=X.P→X'.T={X.T with keep:=ks}→J X' body s1 (uL f Φ ks K k))
  (hdone:∀ x,Φ items.length x→K .normal (f items.length x)):J X (.rangeFunc g ps assign body) s K:=by
 intro a w hst
 obtain ⟨ρ,hf⟩:=hst.fits
 have hHlt':∀ b,hot X.O (cB ρ s.own) (f 0 x₀).own b→b<w.heap.size:=fun b hb=>hf.hot_lt hst.others hst.below (k9 h₀ hb)
 have hseq':=hseq a w ρ hst hf hHlt'
 obtain ⟨H,hH⟩:∃ H,H=hot (fun _=>False) (cB ρ s.own) (f 0 x₀).own:=⟨_,rfl⟩
 have hHX:∀ b,H b→hot X.O (cB ρ s.own) (f 0 x₀).own b:=fun b hb=>by rw [hH] at hb;exact hb.elim False.elim .inr
 rw [← hH] at hseq'
 obtain ⟨lb,E,hlb1,hE,enc,henc,hsq⟩:=hseq'
 have hEM:=fun b hb=>(hE b hb).1
 have hEw:=fun b hb=>(hE b hb).2.1
 have hEH:∀ b,E b→ ¬H b:=fun b hb h=>(hE b hb).2.2.1 (hHX b h)
 have hw0:X.w0.heap.size≤w.heap.size:=hst.below.size
 have hout0:dZ X a w H E (f 0 x₀) w (cB ρ s.own):=by
  have h1:Fits (XE X E) (f 0 x₀) a w (cB ρ s.own):=Fits.leO h₀ hf (fun b _ hb=>by
   rcases hb with (hb|hb)|hb
   ·exact .inl hb
   ·exact (hE b hb).2.2.2
   ·exact k9 h₀ (.inr hb))
  exact ⟨h1,hst.below,fun p hp b hb=> .inr (by rw [hH];exact cX hp hb),KeepsOthers.refl _,bd.refl _ _⟩
 refine wpIn_rangeFunc ?_
 intro fn hfn
 have hround0:(fw X.r).round=none:=by rw [hr];rfl
 rw [hround0]
 obtain ⟨rec,hrec⟩:∃ rec:LoopState→Option Code→Loop,rec=fun st pe=>{state:=st,pending:=pe,fn,tmps:=a.tmps,params:=ps,assign,body,defers:=w.heap.size}:=⟨_,rfl⟩
 obtain ⟨W1,hW1⟩:∃ W1,(w.alloc (.deferred (some []))).alloc (.loop (rec .ready none))=W1:=⟨_,rfl⟩
 have hsz1:W1.heap.size=w.heap.size+2:=by rw [← hW1];simp
 have hL1:W1.heap[w.heap.size+1]? =some (.loop (rec .ready none)):=by
  rw [← hW1];have:=World.alloc_heap_new (w.alloc (.deferred (some []))) (.loop (rec .ready none));rwa [World.size_alloc] at this
 have hD1:W1.heap[w.heap.size]? =some (.deferred (some [])):=by
  rw [← hW1];exact (Below.heap_alloc _ _ _ (by simp)).trans (World.alloc_heap_new w _)
 have hb1:Below w.heap.size w W1:=by rw [← hW1];exact ((Below.refl _ w).alloc (Nat.le_refl _) _).alloc (by simp) _
 have hout1:dZ X a w H E (f 0 x₀) W1 (cB ρ s.own):=by
  rw [← hW1]
  exact (hout0.abide hw0 (World.grownBy_alloc _ _ none) (by simp)).abide hw0 (World.grownBy_alloc _ _ none) (by simp)
 refine ⟨w.heap.size+1, [{target:= .collected w.heap.size,args:= #[]}],W1,{target:= .fn (.func gf) lb.toArray,args:= #[.func (.yield (w.heap.size+1)) #[] #[]]},W1,gf,
  #[.func (.yield (w.heap.size+1)) #[] #[]]++lb.toArray,W1,?_,?_,fun _ _=>trivial,?_,fun h=>by simp [fw,Fence.wide] at h,?_⟩
 ·rw [← hW1,hrec];exact run_enterLoop_outer _ _ _ _ _
 ·simp only [resolve,hlb1]
  simp [go_sem]
 ·simp [invoke,go_sem,henters]
 have hfw:fw X.r=fw none:=by rw [hr]
 rw [hfw]
 have hkeptA:∀ k (act0:Act),act0.tmps=((ps.toList.zip (enc k).toList).foldl (fun (t:Array Value) (p:Nat×Value)=>t.setIfInBounds p.1 p.2) a.tmps)→∀ t∈ks,∀ pt:Value,(act0.put (some d) pt).tmps.getD t undef=a.tmps.getD t undef:=by
  intro k act0 h0 t ht pt
  have h1:=List.all_eq_true.1 hk1 t ht
  simp only [Bool.and_eq_true,Bool.not_eq_true',List.contains_eq_mem,decide_eq_false_iff_not,bne_iff_ne] at h1
  rw [Act.getD_put_ne h1.2,h0,mC]
  intro hm
  obtain ⟨p,hp,rfl⟩:=List.mem_map.1 hm
  exact h1.1 (List.of_mem_zip hp).1
 have hE1: ¬E (w.heap.size+1):=fun e=>by
  obtain ⟨o,ho,_⟩:=hEw _ e
  have:=(Array.getElem?_eq_some_iff.1 ho).1;omega
 have hE2: ¬E w.heap.size:=fun e=>by
  obtain ⟨o,ho,_⟩:=hEw _ e
  have:=(Array.getElem?_eq_some_iff.1 ho).1;omega
 refine (hsq (w.heap.size+1)
  (fun k W=>(∃ x ρ,Φ k x∧dZ X a w H E (f k x) W ρ)∧W.heap[w.heap.size+1]? =some (.loop (rec .ready none))∧W.heap[w.heap.size]? =some (.deferred (some [])))
  (fun W=>∃ c,(∃ z ρ,GI K z c∧dZ X a w H E z W ρ)∧W.heap[w.heap.size+1]? =some (.loop (rec .done (some c)))∧W.heap[w.heap.size]? =some (.deferred (some [])))
  W1 hb1 ?_ ?_ ?_ ?_ ?_ ⟨⟨x₀,_,hΦ,hout1⟩,hL1,hD1⟩).mono ?_
 ·rintro k A B row ⟨⟨x,ρx,hx,ho⟩,hl,hd⟩ hg' hrow
  refine ⟨⟨x,ρx,hx,ho.abide hw0 hg' (fun r e=> ?_)⟩,(grownBy_keeps hg' (fun r e=>(hrow r e).2) hl rfl).trans hl,(grownBy_keeps hg' (fun r e=>(hrow r e).2) hd rfl).trans hd⟩
  obtain ⟨h1,o,h2,h3⟩:=hrow r e
  exact ⟨by omega,o,h2,Obj.not_cells_of_walk h3⟩
 ·rintro _ A B row ⟨c,⟨z,ρx,hx,ho⟩,hl,hd⟩ hg' hrow
  refine ⟨c,⟨z,ρx,hx,ho.abide hw0 hg' (fun r e=> ?_)⟩,(grownBy_keeps hg' (fun r e=>(hrow r e).2) hl rfl).trans hl,(grownBy_keeps hg' (fun r e=>(hrow r e).2) hd rfl).trans hd⟩
  obtain ⟨h1,o,h2,h3⟩:=hrow r e
  exact ⟨by omega,o,h2,Obj.not_cells_of_walk h3⟩
 ·rintro k A B ⟨⟨x,ρx,hx,ho⟩,hl,hd⟩ ht
  exact ⟨⟨x,ρx,hx,ho.turn hEM hEw hEH ht⟩,(ht.same _ hE1).trans hl,(ht.same _ hE2).trans hd⟩
 ·rintro A B ⟨c,⟨z,ρx,hx,ho⟩,hl,hd⟩ ht
  exact ⟨c,⟨z,ρx,hx,ho.turn hEM hEw hEH ht⟩,(ht.same _ hE1).trans hl,(ht.same _ hE2).trans hd⟩
 ·rintro k W ⟨⟨x,ρx,hx,ho⟩,hl,hd⟩ hkN
  obtain ⟨s1,v,cs,hv1,hv2,hv3,hv4,hs1,hJ⟩:=hround k hkN x hx
  have hlt:w.heap.size+1<W.heap.size:=(Array.getElem?_eq_some_iff.1 hl).1
  have hen:=henc k hkN
  have hdat:=hdata _ (List.getElem_mem hkN)
  have hes:(enc k).size=ps.size:=by have:=hen.length;rw [hdat.1] at this;simpa using this.symm
  have hy:=run_yield (P:=X.P) (args:=enc k) hl (by rw [hrec];exact hes)
  rw [hrec] at hy

  obtain ⟨W2,hW2⟩:∃ W2,W.putObj (w.heap.size+1) (.loop {rec .ready none with state:= .busy})=W2:=⟨_,rfl⟩
  have hl2:W2.heap[w.heap.size+1]? =some (.loop {rec .ready none with state:= .busy}):=by rw [← hW2];exact World.putObj_heap_same hlt
  have hd2:W2.heap[w.heap.size]? =some (.deferred (some [])):=by rw [← hW2];exact (World.putObj_heap_other (by omega)).trans hd
  have ho2:dZ X a w H E (f k x) W2 ρx:=by
   rw [← hW2]
   exact ho.abide hw0 (grownBy_putObj' _ _ _) (fun r e=>by cases e;exact ⟨by omega,_,hl,rfl⟩)

  have hzip:(ps.zip (enc k)).toList=ps.toList.zip (enc k).toList:=Array.toList_zip
  have hfold:(ps.zip (enc k)).foldl (fun (t:Array Value) (p:Nat×Value)=>t.setIfInBounds p.1 p.2) a.tmps=(ps.toList.zip (enc k).toList).foldl (fun (t:Array Value) (p:Nat×Value)=>t.setIfInBounds p.1 p.2) a.tmps:=by
   rw [← Array.foldl_toList,hzip]
  obtain ⟨act0,hact0⟩:∃ act0:Act,act0={tmps:=(ps.toList.zip (enc k).toList).foldl (fun (t:Array Value) (p:Nat×Value)=>t.setIfInBounds p.1 p.2) a.tmps,defers:= []}:=⟨_,rfl⟩
  have hfitA:Fits (XE X E) (f k x) {a with defers:= []} W2 ρx:=⟨ho2.fits.env,ho2.fits.own,ho2.fits.io,ho2.fits.apart⟩
  have hHsub:∀ b,b<w.heap.size→hot (XE X E).O ρx (f k x).own b→(hot X.O (cB ρ s.own) (f 0 x₀).own b∨E b):=by
   rintro b hb ((h1|h1)|⟨p,hp,hpb⟩)
   ·exact .inl (.inl h1)
   ·exact .inr h1
   ·rcases ho2.own p hp b hpb with h2|h2
    ·omega
    ·exact .inl (hHX b h2)
  have hvals:br (aR (hot (XE X E).O ρx (f k x).own) W2 ρx) ((ps.toList.zip (items[k])).map Prod.snd) (enc k).toList:=by
   have e:(ps.toList.zip (items[k])).map Prod.snd=items[k]:=List.map_snd_zip (by have:=hdat.1;simp;omega)
   rw [e]
   refine hen.imp (fun y v hy h=> ?_)
   have hz:=List.all_eq_true.1 hdat.2 y hy
   refine aV hHsub (fun b hb hc=>ho2.stays b (fun e=>hb (e.imp (hHX b) id)) hc) (fun id hid=> ?_) h
   cases y<;>simp_all [LV.isZ,LV.isOf]
  have hszA:a.tmps.size=X.T.N:=hst.size
  have e1:(ps.toList.zip (items[k])).map Prod.fst=ps.toList:=List.map_fst_zip (by have:=hdat.1;simp;omega)
  obtain ⟨actP,hactP,hfitP,hszP⟩:=mB (ps.toList.zip (items[k])) (enc k).toList hfitA rfl hszA (fun p hp=>by
   have:=List.all_eq_true.1 hps p.1 (List.of_mem_zip hp).1
   simpa using this) hvals
  rw [e1] at hactP
  have hP0:actP=act0:=by rw [hactP,hact0]
  rw [hP0] at hfitP hszP
  have hpv:aX (dF (f k x) (ps.toList.zip items[k])) (.tmp pv)=some v:=hv1
  have hcells:=AV.cells_ok hv2 (bS hfitP hpv)
  obtain ⟨Wb,hWb1,hWb2,hWb3,hWb4,hexec⟩:=JI (X:=X) (r:=some (w.heap.size+1)) (n:=0) assign hasg hTb act0 W (by rw [hszP];exact hdN) (by rw [← hcells.length];exact hv3) (vZ hcells)
  refine ⟨fn,_,assign,body,hy,roundIn_of_wpIn (F:=fw none) trivial ?_⟩
  rw [hfold,← hact0]
  refine hexec ⟨_,run_beginRound ((hWb1 _ (Array.getElem?_eq_some_iff.1 hl).1).trans hl) (by rw [hrec]),?_⟩
  have hW2s:W2.heap.size=W.heap.size:=by rw [← hW2];simp [World.putObj]
  obtain ⟨W2b,hW2b⟩:∃ W2b,Wb.putObj (w.heap.size+1) (.loop {rec .ready none with state:= .busy})=W2b:=⟨_,rfl⟩
  rw [hW2b]
  have hkb:∀ k,k<W2.heap.size→W2b.heap[k]? =W2.heap[k]? :=by
   intro k hk
   rw [← hW2b,← hW2]
   by_cases e:k=w.heap.size+1
   ·subst e;rw [World.putObj_heap_same (by omega),World.putObj_heap_same hlt]
   ·rw [World.putObj_heap_other e,World.putObj_heap_other e,hWb1 k (by omega)]
  have hnb:W2b.heap[W2.heap.size]? =some (.cells ((act0.eval (.tmp pv)).cells.toList).toArray TB (0,0)):=by
   rw [← hW2b,hW2s,World.putObj_heap_other (by omega)];exact hWb2
  have hbelb:∀ M:Nat→Prop,Bel M W2 W2b:=fun M=>by
   have e1:W2b.os=W2.os:=by rw [← hW2b,← hW2];exact hWb4.1
   have e2:W2b.tape=W2.tape:=by rw [← hW2b,← hW2];exact hWb4.2.1
   have e3:W2b.output=W2.output:=by rw [← hW2b,← hW2];exact hWb4.2.2
   exact ⟨e1,e2,e3,by rw [← hW2b];simp only [World.putObj,Array.size_setIfInBounds];omega,fun k hk _=>hkb k hk⟩
  have hdB:d<ioB:=Nat.lt_of_lt_of_le hdN hst.small.n
  obtain ⟨ρn,hρd,hρo,hfit1⟩:=Fits.freshO hfitP hdB (w':=W2b) (obj:= .box TB cs) (val:= .pointer (some ⟨W2.heap.size,0,none⟩)) hkb (fun b hb=>by simp [Blk] at hb;omega)
   (fun H' ρ' hh hs hρ hρd=>⟨W2.heap.size,(act0.eval (.tmp pv)).cells.toList,hρd, .inl (by have:=ho2.bel.size;exact this),hnb,br.kill hh hs hρ (fun c hc=>by have:=List.all_eq_true.1 hv4 c hc;simpa using this) hcells⟩)
  have hfit1:=hfit1.put (d:=d) (by rw [hszP];exact hdN) (v:= .l (.ownP d 0)) (val:= .pointer (some ⟨W2.heap.size,0,none⟩)) ⟨W2.heap.size,hρd,rfl⟩
  have hs1':s1={env:=(d, .l (.ownP d 0))::del (bL (LV.kill d) (dF (f k x) (ps.toList.zip items[k])).env) d,own:=(d, .box TB cs)::bk (LV.kill d) (del (dF (f k x) (ps.toList.zip items[k])).own d)}:=hs1
  rw [hW2s] at hfit1
  have hkA:∀ t∈ks,(act0.put (some d) (.pointer (some ⟨W.heap.size,0,none⟩))).tmps.getD t undef=a.tmps.getD t undef:=fun t ht=>hkeptA k act0 (by rw [hact0]) t ht _
  have hst1:St {XE X E with T:={X.T with keep:=ks},I:=fun b=>∃ p∈(f k x).own,Blk (ρx p.1) b,w0:=W2,r:=some (w.heap.size+1),tm:=fun t=>(act0.put (some d) (.pointer (some ⟨W.heap.size,0,none⟩))).tmps.getD t undef} s1 (act0.put (some d) (.pointer (some ⟨W.heap.size,0,none⟩))) W2b:=by
   refine ⟨?_,fun _ _=>rfl,by rw [Act.size_put];exact hszP,hbelb _,fun b hb hm=> ?_,⟨hst.small.n,?_,fun b hb=> ?_⟩,ρn,by rw [hs1'];exact hfit1.env,fun p hp=> ?_,by rw [hs1'];exact hfit1.io,by rw [hs1'];exact hfit1.apart⟩
   ·rw [Act.defers_put,hact0];exact Marks.nil _ _
   ·rcases hb with hb|hb
    ·rcases hm with hm|⟨p,hp,hpb⟩
     ·have h1:=hst.others b hb
      have h2:b<X.w0.heap.size:=by
       by_cases h3:b<X.w0.heap.size
       ·exact h3
       ·exact absurd (.inl (by omega)) h1
      have:=ho2.bel.size
      simp only at hm;omega
     ·exact hst.others b hb ((ho2.fits.own p hp).lt hpb).1
    ·obtain ⟨o,ho,_⟩:=hEw b hb
     have h2:=(Array.getElem?_eq_some_iff.1 ho).1
     rcases hm with hm|⟨p,hp,hpb⟩
     ·have:=ho2.keeps.size
      simp only at hm;omega
     ·rcases ho2.own p hp b hpb with h1|h1
      ·omega
      ·exact hEH b hb h1
   ·have h1:=hst.small.on
    refine ⟨Nat.le_trans h1.1 ho2.bel.size,fun b hb=> ?_⟩
    rw [← h1.2 b hb]
    refine ho2.bel.block b (Nat.lt_of_lt_of_le hb h1.1) ?_
    rintro (hm|hm)
    ·have:=h1.1;simp only at hb;omega
    ·have:=hst.small.io b hm;simp only at hb;omega
   ·obtain ⟨p,hp,hpb⟩:=hb
    rcases ((ho2.fits.own p hp).lt hpb).1 with h1|h1
    ·exact Nat.le_trans hst.small.on.1 h1
    ·exact hst.small.io b h1
   ·have hq:∀ (l:List (Nat×LV)) (s:aa),(dF s l).own=s.own:=by
     intro l;induction l with
     |nil=>intro s;rfl
     |cons q l ih=>intro s;exact ih _
    rw [hs1'] at hp
    have hp':p∈(d,aL.box TB cs)::bk (LV.kill d) (del (dF (f k x) (ps.toList.zip items[k])).own d):=hp
    have h5:=(hfit1.own p hp').moved (H':=hot (XE X E).O ρn s1.own) (ρ':=ρn) (k:=p.1) (f:=id) (M':=Cx.M {XE X E with T:={X.T with keep:=ks},I:=fun b=>∃ p∈(f k x).own,Blk (ρx p.1) b,w0:=W2,r:=some (w.heap.size+1),tm:=fun t=>(act0.put (some d) (.pointer (some ⟨W.heap.size,0,none⟩))).tmps.getD t undef}) (fun b _ h=>by rw [hs1'] at h;exact h) (fun x v hx=>aV (fun b _ h=>by rw [hs1'] at h;exact h) (bd.refl _ _) (fun _ _=>rfl) hx) rfl (fun b hb=>by
     rcases List.mem_cons.1 hp' with rfl|hp2
     ·simp only [hρd] at hb;simp [Blk] at hb;exact .inl (by simp only;omega)
     ·obtain ⟨u,g1,_⟩:=bj hp2
      have g2:=bE.1 g1
      rw [hρo _ g2.2] at hb
      exact .inr ⟨(p.1,u),by rw [← hq];exact g2.1,hb⟩)
    rw [aL.map_id] at h5
    exact h5
  have hw:=hJ {XE X E with T:={X.T with keep:=ks},I:=fun b=>∃ p∈(f k x).own,Blk (ρx p.1) b,w0:=W2,r:=some (w.heap.size+1),tm:=fun t=>(act0.put (some d) (.pointer (some ⟨W.heap.size,0,none⟩))).tmps.getD t undef} rfl rfl _ _ hst1
  refine BH (n:=2) (Code.wpIn_mono (fun e a3 W3 hp=> ?_) hw)
  obtain ⟨s3,hK3,hst3⟩:=hp
  have fin:∀ (jump:Option Code) (z:aa),z.env.all (fun e=>ks.contains e.1)=true→le s3 z→∃ ρz,dZ X a w H E z (W3.putObj (w.heap.size+1) (.loop (rec (if jump.isNone then .ready else .done) jump))) ρz∧
    (Instr.endRound (w.heap.size+1) jump).run X.P W3= .ok (.bool jump.isNone) (W3.putObj (w.heap.size+1) (.loop (rec (if jump.isNone then .ready else .done) jump)))∧
    (W3.putObj (w.heap.size+1) (.loop (rec (if jump.isNone then .ready else .done) jump))).heap[w.heap.size+1]? =some (.loop (rec (if jump.isNone then .ready else .done) jump))∧
    (W3.putObj (w.heap.size+1) (.loop (rec (if jump.isNone then .ready else .done) jump))).heap[w.heap.size]? =some (.deferred (some []))∧
    wO H w.heap.size W (W3.putObj (w.heap.size+1) (.loop (rec (if jump.isNone then .ready else .done) jump))):=by
   intro jump z hz hle
   obtain ⟨ρz,h1,h2,h3⟩:=ho2.back hkA hz hle hst3
   have hl3:=h2.same _ _ hl2 rfl
   have hd3:=h2.same _ _ hd2 rfl
   have he:=run_endRound (P:=X.P) jump hl3
   rw [hrec] at he ⊢
   refine ⟨ρz,h1.abide hw0 (grownBy_putObj' _ _ _) (fun r e=>by cases e;exact ⟨by omega,_,hl3,rfl⟩),he,World.putObj_heap_same (Array.getElem?_eq_some_iff.1 hl3).1,(World.putObj_heap_other (by omega)).trans hd3,fun b hb hnH hc=> ?_⟩
   have e1:W2.heap[b]? =W.heap[b]? :=by rw [← hW2];exact World.putObj_heap_other (by omega)
   rw [World.putObj_heap_other (by omega),h3 b hb hnH (by rw [e1];exact hc),e1]
  cases e with
  |normal=>
   obtain ⟨y,hle,hy'⟩:=hK3
   obtain ⟨ρz,h1,h2,h3,h4,h5⟩:=fin none _ (hks (k+1) y) hle
   exact ⟨_,_,h2, .inl ⟨rfl,⟨⟨y,ρz,hy',h1⟩,h3,h4⟩,h5⟩⟩
  |ret=>
   obtain ⟨z,hle,hz,hk3⟩:=hK3
   obtain ⟨ρz,h1,h2,h3,h4,h5⟩:=fin (some .ret) _ hz hle
   exact ⟨_,_,h2, .inr ⟨rfl, .ret,⟨z,ρz,hk3,h1⟩,h3,h4⟩⟩
  |exit i=>
   obtain ⟨z,hle,hz,hk3⟩:=hK3
   obtain ⟨ρz,h1,h2,h3,h4,h5⟩:=fin (some (.exit i)) _ hz hle
   exact ⟨_,_,h2, .inr ⟨rfl, .exit i,⟨z,ρz,hk3,h1⟩,h3,h4⟩⟩
  |goto t=>exact hK3.elim
  |panic ch=>exact hK3.elim
  |outgrown=>exact hK3.elim
 ·rintro e W2 ⟨⟨v,rfl⟩,(⟨⟨x,ρx,hx,ho⟩,hl,hd⟩|⟨c,⟨z,ρz,hj,ho⟩,hl,hd⟩)⟩
  ·have he:=run_endLoop (P:=X.P) hl (by rw [hrec];simp)
   rw [hrec] at he
   refine ⟨none,_,he,_,hdone x hx,(ho.abide hw0 (grownBy_putObj' _ _ _) (fun r e=>by cases e;exact ⟨by omega,_,hl,rfl⟩)).st hst ((World.putObj_heap_other (by omega)).trans hd)⟩
  ·have he:=run_endLoop (P:=X.P) hl (by rw [hrec];simp)
   rw [hrec] at he
   refine ⟨some c,_,he,?_⟩
   cases c with
   |ret=>exact wpIn_ret ⟨z,hj,(ho.abide hw0 (grownBy_putObj' _ _ _) (fun r e=>by cases e;exact ⟨by omega,_,hl,rfl⟩)).st hst ((World.putObj_heap_other (by omega)).trans hd)⟩
   |exit i=>exact wpIn_exit ⟨z,hj,(ho.abide hw0 (grownBy_putObj' _ _ _) (fun r e=>by cases e;exact ⟨by omega,_,hl,rfl⟩)).st hst ((World.putObj_heap_other (by omega)).trans hd)⟩
   |_=>exact hj.elim
theorem uo {X:Cx} (hr:X.r=none) {s:aa} {K:Exit→aa→Prop} {g:Operand} {ps:Array Tmp} {assign body:Code} {gf:FuncId} {caps:List CV}
  (hg:aX s g=some (.l (.fn gf caps))) (hcap:caps.all CV.pure=true) {items:List (List LV)} (hseq:lR X.P gf ps.size caps items) {d pv:Nat} {TB:TypeId} {ub:Ty} (hasg:un assign=some (d,TB,pv)) (hTb:cK X.P TB ub) (hdN:d<X.T.N) (ks:List Nat)
  (hk1:ks.all (fun t=> !ps.toList.contains t&&t !=d)=true) (hps:ps.toList.all (fun t=>decide (t<X.T.N))=true)
  {ι:Type} (f:Nat→ι→aa) (Φ:Nat→ι→Prop) (x₀:ι) (h₀:le s (f 0 x₀)) (hΦ:Φ 0 x₀) (hks:∀ k x,(f k x).env.all (fun e=>ks.contains e.1)=true)
  (hround:∀ k (hk:k<items.length) (x:ι),Φ k x→∃ s1 v cs,aX (dF (f k x) (ps.toList.zip items[k])) (.tmp pv)=some v∧v.cells=some cs∧cs.length=ub.w∧cs.all (fun c=> !c.isOf d)=true∧s1={env:=(d, .l (.ownP d 0))::del ((dF (f k x) (ps.toList.zip items[k])).kill d).env d,own:=(d, .box TB cs)::((dF (f k x) (ps.toList.zip items[k])).kill d).own}∧
   ∀ X':Cx,X'.P=X.P→X'.T={X.T with keep:=ks}→J X' body s1 (uL f Φ ks K k))
  (hdone:∀ x,Φ items.length x→K .normal (f items.length x)):J X (.rangeFunc g ps assign body) s K:=
 FL hr hseq.enters hseq.data hasg hTb hdN ks hk1 hps f Φ x₀ h₀ (fun a w ρ _ hf hlt=>by
  obtain ⟨lb,hlb1,hlb2⟩:aR (hot X.O ρ s.own) w ρ (.fn gf caps) (a.eval g):=bS hf hg
  obtain ⟨enc,h1,h2⟩:=hseq.seq _ w lb hlt (gU hcap (fun b hb=>k9 h₀ hb) hlb2)
  exact ⟨lb,fun _=>False,hlb1,fun b hb=>hb.elim,enc,fun k hk=>(h1 k hk).imp (fun x v hx h=>aV (H:=hot X.O (cB ρ s.own) (f 0 x₀).own) (fun b _ hb=>hb.elim id (fun e=>e.elim)) (bd.refl _ _) (fun _ _=>rfl) h),h2.kp (fun A B hk b hb hn hc=>hk b hb (fun e=>hn (e.elim False.elim .inr)) hc)⟩) hΦ hks hround hdone
end Go.Cm
end
section
namespace Go.Proofs.YtdojbabpnaifoaaGreatDoor
open Go Go.Cm Go.Proofs
def pg (B:aj):Tab:={types:= [(79,(.slice (.st (.pair (.st (.pair .bool (.slice (.int .u32)))) (.st (.pair .bool (.slice (.int .u32))))))))],elems:= [],cons:= [],hint:= [],N:=4,base:=B}
theorem yS {B:aj} (hB:aA B):aF Tryz.prog (pg B):=⟨⟨tc fk (ae),af,by simp only [pg,ioB];omega⟩,bG rfl,by kernel_rfl⟩
def nn:Con:=fun l os=>match l,os with
 | [.z (.slice (.st (.pair (.st (.pair .bool (.slice (.int .u32)))) (.st (.pair .bool (.slice (.int .u32))))))) xs], []=>some (True, [.fn 125 [.z (.ptr (.slice (.st (.pair (.st (.pair .bool (.slice (.int .u32)))) (.st (.pair .bool (.slice (.int .u32)))))))) xs]], [])
 |_,_=>none
theorem uq {B:aj} (hB:aA B):Valid B Tryz.prog 83 nn:=by
 refine ab (yS hB).tab Tryz.func83 rfl rfl rfl ?_
 intro args os C rs os' hc hC
 unfold nn at hc
 split at hc
 case h_2=>cases hc
 rename_i xs
 cases hc
 refine v_h (yS hB) fun X hP hT hr hG=> ?_
 have hU:=pg.eq_1
 unfold pg at hT
 have hX:=Bool.not_true
 simp only [Tryz.f83,aB,al,ioB]
 refine s_g hG ?_
 refine s_g hG ?_
 refine ax ?_
 refine q_e [] ?_
 rfl
def gm (B:aj):Tab:={types:= [(79,(.slice (.st (.pair (.st (.pair .bool (.slice (.int .u32)))) (.st (.pair .bool (.slice (.int .u32)))))))),(91,(.st (.pair (.st (.pair .bool (.slice (.int .u32)))) (.st (.pair .bool (.slice (.int .u32)))))))],elems:= [],cons:= [(58,kU),(83,nn),(105,dN),(113,dO)],hint:= [],N:=19,base:=B}
theorem yT {B:aj} (hB:aA B):aF Tryz.prog (gm B):=⟨⟨tc fk (tc ty91 (ae)),af,by simp only [gm,ioB];omega⟩,aD (cc Tryz.func58 (kA hB) (cc Tryz.func83 (uq hB) (cc Tryz.func105 (kB hB) (cc Tryz.func113 (kC hB) (aw))))),by kernel_rfl⟩
def DN:Con:=fun l os=>match l,os with
 | [.z (.slice (.st (.pair (.st (.pair .bool (.slice (.int .u32)))) (.st (.pair .bool (.slice (.int .u32))))))) p, .z (.st (.pair (.st (.pair .bool (.slice (.int .u32)))) (.st (.pair .bool (.slice (.int .u32)))))) x], []=>some (Sz QM p∧p.length≤100∧NOK x∧lq (bu x)≤QM, [.z (.st (.pair (.st (.pair .bool (.slice (.int .u32)))) (.st (.pair .bool (.slice (.int .u32)))))) (bg (aO (am p) (bu x)))], [])
 |_,_=>none
theorem FM {B:aj} (hB:aA B):Valid B Tryz.prog 89 DN:=by
 refine ab (yT hB).tab Tryz.func89 rfl rfl rfl ?_
 intro args os C rs os' hc hC
 unfold DN at hc
 split at hc
 case h_2=>cases hc
 rename_i p x
 cases hc
 refine v_h (yT hB) fun X hP hT hr hG=> ?_
 have hU:=gm.eq_1
 unfold gm at hT
 have hX:=ai @nn.eq_1<|ai @kU.eq_1<|ai @dN.eq_1<| @dO.eq_1
 simp only [Tryz.f89,aB,al,ioB]
 have hl:p.length≤100:=hC.2.1
 refine s_g hG ?_
 refine s_g hG ?_
 refine ak ?_
 refine s_g hG ?_
 refine aq ?_
 refine uo hr (gf:=125) (caps:= [.z (.ptr (.slice (.st (.pair (.st (.pair .bool (.slice (.int .u32)))) (.st (.pair .bool (.slice (.int .u32)))))))) p]) (items:=bN p) (by simp only [hT,gm,mx0,mx1,mx2,mx3,mx4,mx5,mx6,aS,bi,bz,aW,bh,Ty.fieldTy,Ty.fieldOf,Nat.reduceLT,Nat.reduceEqDiff,Nat.reduceAdd,Nat.reduceMul,Nat.reduceSub,Nat.reduceLeDiff,Nat.reduceBEq,Nat.reduceBNe,reduceIte,reduceDIte,reduceCtorEq];try rfl) (by rfl) (by rw [hP];exact tl p) (by rfl) (ub:=(.st (.pair (.st (.pair .bool (.slice (.int .u32)))) (.st (.pair .bool (.slice (.int .u32))))))) (by rw [hP];exact ty91) (by simp only [hT,gm];omega) [3,4,5] (by rfl) (by simp only [hT,gm];try rfl) (fun (k:Nat) (z:Rat)=>(⟨[(3, .l (.z (.ptr (.st (.pair (.st (.pair .bool (.slice (.int .u32)))) (.st (.pair .bool (.slice (.int .u32))))))) x)),(4, .l (.ownP 4 0)),(5, .l (.ownP 5 0))], [(4, .box 91 [.z .bool false, .val (.slice none 0 0), .z .bool false, .val (.slice none 0 0)]),(5, .box 91 [.z .bool (bg z).1.1, .z (.slice (.int .u32)) (bg z).1.2, .z .bool (bg z).2.1, .z (.slice (.int .u32)) (bg z).2.2])]⟩:aa)) (fun (k:Nat) (z:Rat)=>z=aO ((am p).drop (p.length-k)) (bu x)) 0 ?_ ?_ ?_ ?_ ?_
 ·simp only [ml0,ml1,Nat.reduceLT,Nat.reduceEqDiff,Nat.reduceAdd,Nat.reduceMul,Nat.reduceSub,Nat.reduceLeDiff,Nat.reduceBEq,Nat.reduceBNe,reduceIte,reduceDIte,reduceCtorEq]
 ·exact AM p (bu x)
 ·intro k z;rfl
 ·intro k hk
  rintro v hz
  try dsimp only at hz
  have hk:k<p.length:=by simpa [bN] using hk
  have hg:=xF hC.1 (xG hk)
  have hv:=EZ hC hk hz
  refine ⟨_,_,_,by simp only [hT,gm,bN,iJ,mx0,mx1,mx2,mx3,mx4,mx5,mx6,aS,bi,bz,aW,bh,Ty.fieldTy,Ty.fieldOf,Nat.reduceLT,Nat.reduceEqDiff,Nat.reduceAdd,Nat.reduceMul,Nat.reduceSub,Nat.reduceLeDiff,Nat.reduceBEq,Nat.reduceBNe,reduceIte,reduceDIte,reduceCtorEq,List.getElem_map,List.getElem_range];rfl,by simp only [mx0,mx1,mx2,mx3,mx4,mx5,mx6,aS,bi,bz,aW,bh,Ty.fieldTy,Ty.fieldOf,Nat.reduceLT,Nat.reduceEqDiff,Nat.reduceAdd,Nat.reduceMul,Nat.reduceSub,Nat.reduceLeDiff,Nat.reduceBEq,Nat.reduceBNe,reduceIte,reduceDIte,reduceCtorEq];rfl,by rfl,by simp only [mx0,mx1,mx2,mx3,mx4,mx5,mx6,aS,bi,bz,aW,bh,Ty.fieldTy,Ty.fieldOf,Nat.reduceLT,Nat.reduceEqDiff,Nat.reduceAdd,Nat.reduceMul,Nat.reduceSub,Nat.reduceLeDiff,Nat.reduceBEq,Nat.reduceBNe,reduceIte,reduceDIte,reduceCtorEq]<;>rfl,by simp only [hT,gm,bN,iJ,mx0,mx1,mx2,mx3,mx4,mx5,mx6,aS,bi,bz,aW,bh,Ty.fieldTy,Ty.fieldOf,Nat.reduceLT,Nat.reduceEqDiff,Nat.reduceAdd,Nat.reduceMul,Nat.reduceSub,Nat.reduceLeDiff,Nat.reduceBEq,Nat.reduceBNe,reduceIte,reduceDIte,reduceCtorEq,List.getElem_map,List.getElem_range];rfl,?_⟩
  intro X' hP' hT'
  have hG':aF X'.P X'.T:=by rw [hP',hT'];exact hG.keep _
  rw [hT] at hT'
  refine aq ?_
  refine BL hG' ?_ ?_
  ·try simp only [ba]
   simp only [pe2,hg,aK]
   exact hv
  refine aN ?_
  show ∃ z,_
  simp only [ml0,ml1,Nat.reduceLT,Nat.reduceEqDiff,Nat.reduceAdd,Nat.reduceMul,Nat.reduceSub,Nat.reduceLeDiff,Nat.reduceBEq,Nat.reduceBNe,reduceIte,reduceDIte,reduceCtorEq]
  simp only [pe2,hg,aK]
  exact ⟨_,rfl,rfl,rfl,rfl,by rw [hz,AN hk]⟩
 ·rintro v hz
  try dsimp only at hz
  rw [Ib] at hz
  refine aN ?_
  refine ah ?_
  refine s_g hG ?_
  refine ax ?_
  refine q_e [] ?_
  rw [hz]
end Go.Proofs.YtdojbabpnaifoaaGreatDoor
end
section
namespace Go.Proofs.YtdojbabpnaifoaaGreatDoor
open Go Go.Cm Go.Proofs
def ph (B:aj):Tab:={types:= [(3,(.int .i64)),(79,(.slice (.st (.pair (.st (.pair .bool (.slice (.int .u32)))) (.st (.pair .bool (.slice (.int .u32)))))))),(91,(.st (.pair (.st (.pair .bool (.slice (.int .u32)))) (.st (.pair .bool (.slice (.int .u32)))))))],elems:= [(79,91)],cons:= [(58,kU),(82,iu),(107,uh)],hint:= [26],N:=31,base:=B}
theorem yU {B:aj} (hB:aA B):aF Tryz.prog (ph B):=⟨⟨tc ty3 (tc fk (tc ty91 (ae))),aQ (by kernel_rfl) (af),by simp only [ph,ioB];omega⟩,aD (cc Tryz.func58 (kA hB) (cc Tryz.func82 (gM hB) (cc Tryz.func107 (ui hB) (aw)))),by kernel_rfl⟩
def JJ:Con:=fun l os=>match l,os with
 | [.z (.slice (.st (.pair (.st (.pair .bool (.slice (.int .u32)))) (.st (.pair .bool (.slice (.int .u32))))))) p, .z (.slice (.st (.pair (.st (.pair .bool (.slice (.int .u32)))) (.st (.pair .bool (.slice (.int .u32))))))) q, .val (.func (.func g) fs cs)], []=>some ((g=58∧fs.size=0∧cs.size=0)∧Sz QH p∧Sz QH q∧p.length≤1000∧q.length≤1000, [.z (.slice (.st (.pair (.st (.pair .bool (.slice (.int .u32)))) (.st (.pair .bool (.slice (.int .u32))))))) (aE (bC (· + ·) (am p) (am q)))], [])
 |_,_=>none
theorem FN {B:aj} (hB:aA B):Valid B Tryz.prog 57 JJ:=by
 refine ab (yU hB).tab Tryz.func57 rfl rfl rfl ?_
 intro args os C rs os' hc hC
 unfold JJ at hc
 split at hc
 case h_2=>cases hc
 rename_i p q g fs cs
 cases hc
 refine v_h (yU hB) fun X hP hT hr hG=> ?_
 have hU:=ph.eq_1
 unfold ph at hT
 have hX:=ai @uh.eq_1<|ai @kU.eq_1<| @iu.eq_1
 simp only [Tryz.f57,aB,al,ioB]
 obtain ⟨⟨rfl,e1,e2⟩,hp,hq,hl1,hl2⟩:=hC
 obtain rfl:=Array.eq_empty_of_size_eq_zero e1
 obtain rfl:=Array.eq_empty_of_size_eq_zero e2
 have hl1:p.length≤1000:=hl1
 have hl2:q.length≤1000:=hl2
 refine s_g hG ?_
 refine s_g hG ?_
 refine ak ?_
 refine s_g hG ?_
 refine aq ?_
 refine bn (fun (z:Nat)=>(⟨[(0, .l (.z (.slice (.st (.pair (.st (.pair .bool (.slice (.int .u32)))) (.st (.pair .bool (.slice (.int .u32))))))) p)),(1, .l (.z (.slice (.st (.pair (.st (.pair .bool (.slice (.int .u32)))) (.st (.pair .bool (.slice (.int .u32))))))) q)),(2, .l (.val (.func (.func 58) #[] #[]))),(7, .l (.ownS 27)),(13, .l (.z (.int .i64) ((max p.length q.length:Nat):Int))),(14, .l (.z (.int .i64) (z:Int)))], [(27, .arr (.st (.pair (.st (.pair .bool (.slice (.int .u32)))) (.st (.pair .bool (.slice (.int .u32)))))) 91 (aE (bF (· + ·) (am p) (am q) z)))]⟩:aa)) (fun z=>z≤max p.length q.length) (fun z=>max p.length q.length-z) 0 ?_ ?_ ?_
 ·refine q_l ?_
  exact ⟨Cc p q trivial,rfl,by unfold ioB;omega,rfl⟩
 ·omega
 ·rintro k g1
  try dsimp only at g1
  refine s_g hG ?_
  refine ak ?_
  refine ao ?_ ?_
  ·intro hb0
   try simp only [bt] at hb0
   refine ap ?_
   refine ah ?_
   refine ak ?_
   refine aq ?_
   refine s_g hG ?_
   refine ag hG ?_ ?_
   ·try simp only [ba]
    exact te hp hq (by omega) _
   refine aN ?_
   refine ah ?_
   refine ag hG ?_ ?_
   ·first|trivial|omega|(simp;done)|(simp;omega)
   show ∃ z,_
   refine q_l ?_
   exact ru (op:=(· + ·)) (by omega) (by omega)
  ·intro hb0
   try simp only [bf] at hb0
   refine bc ?_
   refine aC ?_
   refine av ?_
   refine au ?_
   refine ah ?_
   refine s_q hG ?_ ?_
   ·try simp only [ba]
    exact rx xy hp hq (by omega)
   refine ax ?_
   refine q_e [] ?_
   exact xA g1 hb0
def pi (B:aj):Tab:={types:= [(3,(.int .i64)),(79,(.slice (.st (.pair (.st (.pair .bool (.slice (.int .u32)))) (.st (.pair .bool (.slice (.int .u32)))))))),(91,(.st (.pair (.st (.pair .bool (.slice (.int .u32)))) (.st (.pair .bool (.slice (.int .u32)))))))],elems:= [(79,91)],cons:= [(60,eR),(82,iu),(107,uh)],hint:= [26],N:=31,base:=B}
theorem yV {B:aj} (hB:aA B):aF Tryz.prog (pi B):=⟨⟨tc ty3 (tc fk (tc ty91 (ae))),aQ (by kernel_rfl) (af),by simp only [pi,ioB];omega⟩,aD (cc Tryz.func60 (t8 hB) (cc Tryz.func82 (gM hB) (cc Tryz.func107 (ui hB) (aw)))),by kernel_rfl⟩
def JK:Con:=fun l os=>match l,os with
 | [.z (.slice (.st (.pair (.st (.pair .bool (.slice (.int .u32)))) (.st (.pair .bool (.slice (.int .u32))))))) p, .z (.slice (.st (.pair (.st (.pair .bool (.slice (.int .u32)))) (.st (.pair .bool (.slice (.int .u32))))))) q, .val (.func (.func g) fs cs)], []=>some ((g=60∧fs.size=0∧cs.size=0)∧Sz QH p∧Sz QH q∧p.length≤1000∧q.length≤1000, [.z (.slice (.st (.pair (.st (.pair .bool (.slice (.int .u32)))) (.st (.pair .bool (.slice (.int .u32))))))) (aE (bC (· - ·) (am p) (am q)))], [])
 |_,_=>none
theorem FO {B:aj} (hB:aA B):Valid B Tryz.prog 57 JK:=by
 refine ab (yV hB).tab Tryz.func57 rfl rfl rfl ?_
 intro args os C rs os' hc hC
 unfold JK at hc
 split at hc
 case h_2=>cases hc
 rename_i p q g fs cs
 cases hc
 refine v_h (yV hB) fun X hP hT hr hG=> ?_
 have hU:=pi.eq_1
 unfold pi at hT
 have hX:=ai @uh.eq_1<|ai @eR.eq_1<| @iu.eq_1
 simp only [Tryz.f57,aB,al,ioB]
 obtain ⟨⟨rfl,e1,e2⟩,hp,hq,hl1,hl2⟩:=hC
 obtain rfl:=Array.eq_empty_of_size_eq_zero e1
 obtain rfl:=Array.eq_empty_of_size_eq_zero e2
 have hl1:p.length≤1000:=hl1
 have hl2:q.length≤1000:=hl2
 refine s_g hG ?_
 refine s_g hG ?_
 refine ak ?_
 refine s_g hG ?_
 refine aq ?_
 refine bn (fun (z:Nat)=>(⟨[(0, .l (.z (.slice (.st (.pair (.st (.pair .bool (.slice (.int .u32)))) (.st (.pair .bool (.slice (.int .u32))))))) p)),(1, .l (.z (.slice (.st (.pair (.st (.pair .bool (.slice (.int .u32)))) (.st (.pair .bool (.slice (.int .u32))))))) q)),(2, .l (.val (.func (.func 60) #[] #[]))),(7, .l (.ownS 27)),(13, .l (.z (.int .i64) ((max p.length q.length:Nat):Int))),(14, .l (.z (.int .i64) (z:Int)))], [(27, .arr (.st (.pair (.st (.pair .bool (.slice (.int .u32)))) (.st (.pair .bool (.slice (.int .u32)))))) 91 (aE (bF (· - ·) (am p) (am q) z)))]⟩:aa)) (fun z=>z≤max p.length q.length) (fun z=>max p.length q.length-z) 0 ?_ ?_ ?_
 ·refine q_l ?_
  exact ⟨Cc p q trivial,rfl,by unfold ioB;omega,rfl⟩
 ·omega
 ·rintro k g1
  try dsimp only at g1
  refine s_g hG ?_
  refine ak ?_
  refine ao ?_ ?_
  ·intro hb0
   try simp only [bt] at hb0
   refine ap ?_
   refine ah ?_
   refine ak ?_
   refine aq ?_
   refine s_g hG ?_
   refine ag hG ?_ ?_
   ·try simp only [ba]
    exact te hp hq (by omega) _
   refine aN ?_
   refine ah ?_
   refine ag hG ?_ ?_
   ·first|trivial|omega|(simp;done)|(simp;omega)
   show ∃ z,_
   refine q_l ?_
   exact ru (op:=(· - ·)) (by omega) (by omega)
  ·intro hb0
   try simp only [bf] at hb0
   refine bc ?_
   refine aC ?_
   refine av ?_
   refine au ?_
   refine ah ?_
   refine s_q hG ?_ ?_
   ·try simp only [ba]
    exact rx xz hp hq (by omega)
   refine ax ?_
   refine q_e [] ?_
   exact xA g1 hb0
def nW:Con:=fun l os=>match l,os with
 | [.z (.slice (.st (.pair (.st (.pair .bool (.slice (.int .u32)))) (.st (.pair .bool (.slice (.int .u32))))))) p, .z (.slice (.st (.pair (.st (.pair .bool (.slice (.int .u32)))) (.st (.pair .bool (.slice (.int .u32))))))) q, .val (.func (.func g) fs cs)], []=>some (((g=58∨g=60)∧fs.size=0∧cs.size=0)∧Sz QH p∧Sz QH q∧p.length≤1000∧q.length≤1000, [.z (.slice (.st (.pair (.st (.pair .bool (.slice (.int .u32)))) (.st (.pair .bool (.slice (.int .u32))))))) (aE (bC (if g=58 then (· + ·) else (· - ·)) (am p) (am q)))], [])
 |_,_=>none
theorem lD {B:aj} (hB:aA B):Valid B Tryz.prog 57 nW:=by
 intro args os C rs os' hc hC
 unfold nW at hc
 split at hc
 ·cases hc
  obtain ⟨⟨rfl|rfl,e1,e2⟩,h3⟩:=hC
  ·exact FN hB _ _ _ _ _ rfl ⟨⟨rfl,e1,e2⟩,h3⟩
  ·exact FO hB _ _ _ _ _ rfl ⟨⟨rfl,e1,e2⟩,h3⟩
 ·cases hc
end Go.Proofs.YtdojbabpnaifoaaGreatDoor
end
section
namespace Go.Proofs.YtdojbabpnaifoaaGreatDoor
open Go Go.Cm Go.Proofs
def pj (B:aj):Tab:={types:= [(79,(.slice (.st (.pair (.st (.pair .bool (.slice (.int .u32)))) (.st (.pair .bool (.slice (.int .u32)))))))),(84, .func),(91,(.st (.pair (.st (.pair .bool (.slice (.int .u32)))) (.st (.pair .bool (.slice (.int .u32)))))))],elems:= [(79,91)],cons:= [(57,nW),(61,nh),(82,iu)],hint:= [],N:=11,base:=B}
theorem yW {B:aj} (hB:aA B):aF Tryz.prog (pj B):=⟨⟨tc fk (tc Mo (tc ty91 (ae))),aQ (by kernel_rfl) (af),by simp only [pj,ioB];omega⟩,aD (cc Tryz.func57 (lD hB) (cc Tryz.func61 (uj hB) (cc Tryz.func82 (gM hB) (aw)))),by kernel_rfl⟩
def DO:Con:=fun l os=>match l,os with
 | [.z (.st (.pair (.st (.pair .bool (.slice (.int .u32)))) (.st (.pair .bool (.slice (.int .u32)))))) c, .ownP 10000000 0, .z (.ptr (.slice (.st (.pair (.st (.pair .bool (.slice (.int .u32)))) (.st (.pair .bool (.slice (.int .u32)))))))) b], [.box 79 [.z (.slice (.st (.pair (.st (.pair .bool (.slice (.int .u32)))) (.st (.pair .bool (.slice (.int .u32))))))) s]]=>some (AO s b c, [], [.box 79 [.z (.slice (.st (.pair (.st (.pair .bool (.slice (.int .u32)))) (.st (.pair .bool (.slice (.int .u32))))))) (aE (rJ (am s) (am b) (bu c)))]])
 |_,_=>none
theorem FP {B:aj} (hB:aA B):Valid B Tryz.prog 81 DO:=by
 refine ab (yW hB).tab Tryz.func81 rfl rfl rfl ?_
 intro args os C rs os' hc hC
 unfold DO at hc
 split at hc
 case h_2=>cases hc
 rename_i c b s
 cases hc
 refine v_h (yW hB) fun X hP hT hr hG=> ?_
 have hU:=pj.eq_1
 unfold pj at hT
 have hX:=ai @nh.eq_1<|ai @iu.eq_1<| @nW.eq_1
 simp only [Tryz.f81,aB,al,ioB]
 refine s_g hG ?_
 refine fW hG ?_ ?_
 ·try simp only [ba]
  obtain ⟨q1,q2,q3,q4,q5,q6⟩:=E0 hC
  exact ⟨q1,⟨q2.1,by unfold QL;omega⟩,Or.inl trivial,q3,q4,q5,q6⟩
 refine q_e [] ?_
 simp only [aG];rfl
def gn (B:aj):Tab:={types:= [(79,(.slice (.st (.pair (.st (.pair .bool (.slice (.int .u32)))) (.st (.pair .bool (.slice (.int .u32)))))))),(91,(.st (.pair (.st (.pair .bool (.slice (.int .u32)))) (.st (.pair .bool (.slice (.int .u32))))))),(109, .func)],elems:= [],cons:= [(81,DO),(83,nn)],hint:= [],N:=18,base:=B}
theorem yX {B:aj} (hB:aA B):aF Tryz.prog (gn B):=⟨⟨tc fk (tc ty91 (tc MY (ae))),af,by simp only [gn,ioB];omega⟩,aD (cc Tryz.func81 (FP hB) (cc Tryz.func83 (uq hB) (aw))),by kernel_rfl⟩
def mn:Con:=fun l os=>match l,os with
 | [.z (.slice (.st (.pair (.st (.pair .bool (.slice (.int .u32)))) (.st (.pair .bool (.slice (.int .u32))))))) p, .z (.slice (.st (.pair (.st (.pair .bool (.slice (.int .u32)))) (.st (.pair .bool (.slice (.int .u32))))))) b], []=>some (vj p b, [.z (.slice (.st (.pair (.st (.pair .bool (.slice (.int .u32)))) (.st (.pair .bool (.slice (.int .u32))))))) (aE (jq (am p) (am b)))], [])
 |_,_=>none
theorem FQ {B:aj} (hB:aA B):Valid B Tryz.prog 80 mn:=by
 refine ab (yX hB).tab Tryz.func80 rfl rfl rfl ?_
 intro args os C rs os' hc hC
 unfold mn at hc
 split at hc
 case h_2=>cases hc
 rename_i p b
 cases hc
 refine v_h (yX hB) fun X hP hT hr hG=> ?_
 have hU:=gn.eq_1
 unfold gn at hT
 have hX:=ai @DO.eq_1<| @nn.eq_1
 simp only [Tryz.f80,aB,al,ioB]
 refine s_g hG ?_
 refine s_g hG ?_
 refine s_g hG ?_
 refine ak ?_
 refine s_g hG ?_
 refine aq ?_
 refine uo hr (gf:=125) (caps:= [.z (.ptr (.slice (.st (.pair (.st (.pair .bool (.slice (.int .u32)))) (.st (.pair .bool (.slice (.int .u32)))))))) p]) (items:=bN p) (by simp only [hT,gn,mx0,mx1,mx2,mx3,mx4,mx5,mx6,aS,bi,bz,aW,bh,Ty.fieldTy,Ty.fieldOf,Nat.reduceLT,Nat.reduceEqDiff,Nat.reduceAdd,Nat.reduceMul,Nat.reduceSub,Nat.reduceLeDiff,Nat.reduceBEq,Nat.reduceBNe,reduceIte,reduceDIte,reduceCtorEq];try rfl) (by rfl) (by rw [hP];exact tl p) (by rfl) (ub:=(.st (.pair (.st (.pair .bool (.slice (.int .u32)))) (.st (.pair .bool (.slice (.int .u32))))))) (by rw [hP];exact ty91) (by simp only [hT,gn];omega) [3,5,6] (by rfl) (by simp only [hT,gn];try rfl) (fun (k:Nat) (z:Unit)=>(⟨[(3, .l (.z (.ptr (.slice (.st (.pair (.st (.pair .bool (.slice (.int .u32)))) (.st (.pair .bool (.slice (.int .u32)))))))) b)),(5, .l (.ownP 5 0)),(6, .l (.ownP 6 0))], [(5, .box 79 [.z (.slice (.st (.pair (.st (.pair .bool (.slice (.int .u32)))) (.st (.pair .bool (.slice (.int .u32))))))) (aE (f9 (am p) (am b) k))]),(6, .box 109 [.fn 81 [.p 5, .z (.ptr (.slice (.st (.pair (.st (.pair .bool (.slice (.int .u32)))) (.st (.pair .bool (.slice (.int .u32)))))))) b]])]⟩:aa)) (fun (k:Nat) (z:Unit)=>True) () ?_ ?_ ?_ ?_ ?_
 ·simp only [ml0,ml1,Nat.reduceLT,Nat.reduceEqDiff,Nat.reduceAdd,Nat.reduceMul,Nat.reduceSub,Nat.reduceLeDiff,Nat.reduceBEq,Nat.reduceBNe,reduceIte,reduceDIte,reduceCtorEq]
  simp only [ft]
  rfl
 ·trivial
 ·intro k z;rfl
 ·intro k hk
  rintro ⟨⟩-
  have hk:k<p.length:=by simpa [bN] using hk
  have hg:=xF hC.1 (xG hk)
  refine ⟨_,_,_,by simp only [hT,gn,bN,iJ,mx0,mx1,mx2,mx3,mx4,mx5,mx6,aS,bi,bz,aW,bh,Ty.fieldTy,Ty.fieldOf,Nat.reduceLT,Nat.reduceEqDiff,Nat.reduceAdd,Nat.reduceMul,Nat.reduceSub,Nat.reduceLeDiff,Nat.reduceBEq,Nat.reduceBNe,reduceIte,reduceDIte,reduceCtorEq,List.getElem_map,List.getElem_range];rfl,by simp only [mx0,mx1,mx2,mx3,mx4,mx5,mx6,aS,bi,bz,aW,bh,Ty.fieldTy,Ty.fieldOf,Nat.reduceLT,Nat.reduceEqDiff,Nat.reduceAdd,Nat.reduceMul,Nat.reduceSub,Nat.reduceLeDiff,Nat.reduceBEq,Nat.reduceBNe,reduceIte,reduceDIte,reduceCtorEq];rfl,by rfl,by simp only [mx0,mx1,mx2,mx3,mx4,mx5,mx6,aS,bi,bz,aW,bh,Ty.fieldTy,Ty.fieldOf,Nat.reduceLT,Nat.reduceEqDiff,Nat.reduceAdd,Nat.reduceMul,Nat.reduceSub,Nat.reduceLeDiff,Nat.reduceBEq,Nat.reduceBNe,reduceIte,reduceDIte,reduceCtorEq]<;>rfl,by simp only [hT,gn,bN,iJ,mx0,mx1,mx2,mx3,mx4,mx5,mx6,aS,bi,bz,aW,bh,Ty.fieldTy,Ty.fieldOf,Nat.reduceLT,Nat.reduceEqDiff,Nat.reduceAdd,Nat.reduceMul,Nat.reduceSub,Nat.reduceLeDiff,Nat.reduceBEq,Nat.reduceBNe,reduceIte,reduceDIte,reduceCtorEq,List.getElem_map,List.getElem_range];rfl,?_⟩
  intro X' hP' hT'
  have hG':aF X'.P X'.T:=by rw [hP',hT'];exact hG.keep _
  rw [hT] at hT'
  refine aq ?_
  refine mD hG' ?_ ?_
  ·try simp only [ba]
   simp only [pe2,hg]
   exact hC.2.2 k hk
  refine aN ?_
  show ∃ z,_
  simp only [ml0,ml1,Nat.reduceLT,Nat.reduceEqDiff,Nat.reduceAdd,Nat.reduceMul,Nat.reduceSub,Nat.reduceLeDiff,Nat.reduceBEq,Nat.reduceBNe,reduceIte,reduceDIte,reduceCtorEq]
  simp only [pe2,hg,aG,aK,f9,aI]
 ·rintro ⟨⟩-
  rw [show (bN p).length=p.length by simp [bN]]
  refine aN ?_
  refine ah ?_
  refine s_g hG ?_
  refine ax ?_
  refine q_e [] ?_
  rw [jq,aI]
end Go.Proofs.YtdojbabpnaifoaaGreatDoor
end
section
namespace Go.Proofs.YtdojbabpnaifoaaGreatDoor
open Go Go.Cm Go.Proofs
def pk (B:aj):Tab:={types:= [(3,(.int .i64)),(22,(.slice .str)),(31,(.int .i64)),(46, .str)],elems:= [],cons:= [(87,kD),(106,DM)],hint:= [],N:=33,base:=B}
theorem yY {B:aj} (hB:aA B):aF Tryz.prog (pk B):=⟨⟨tc ty3 (tc fY (tc kH (tc ma (ae)))),af,by simp only [pk,ioB];omega⟩,aD (cc Tryz.func87 (uf hB) (cc Tryz.func106 (FG hB) (aw))),by kernel_rfl⟩
def no:Con:=fun l os=>match l,os with
 | [.z (.slice .str) p], []=>some (cS p, [.z (.slice (.st (.pair (.st (.pair .bool (.slice (.int .u32)))) (.st (.pair .bool (.slice (.int .u32))))))) (aE (aZ p)), .z (.int .i64) (cD p)], [])
 |_,_=>none
theorem ur {B:aj} (hB:aA B):Valid B Tryz.prog 54 no:=by
 refine ab (yY hB).tab Tryz.func54 rfl rfl rfl ?_
 intro args os C rs os' hc hC
 unfold no at hc
 split at hc
 case h_2=>cases hc
 rename_i p
 cases hc
 refine v_h (yY hB) fun X hP hT hr hG=> ?_
 have hU:=pk.eq_1
 unfold pk at hT
 have hX:=ai @kD.eq_1<| @DM.eq_1
 simp only [Tryz.f54,aB,al,ioB]
 have hl:p.length<1000000000+1:=by have:=hC.1;unfold QL at this;omega
 refine s_g hG ?_
 refine ak ?_
 refine s_g hG ?_
 refine ao ?_ ?_
 ·intro hb0
  try simp only [bt] at hb0
  have hl41:41<p.length:=by have h9:(41:Int)<(p.length:Int):=hb0;omega
  refine s_g hG ?_
  refine ax ?_
  refine ay ?_
  refine q_e [] ?_
  exact rQ (AZ hl41)
 ·intro hb0
  try simp only [bf] at hb0
  have hl41:p.length≤41:=by have h9: ¬ (41:Int)<(p.length:Int):=hb0;omega
  refine ap ?_
  refine ah ?_
  refine ak ?_
  refine s_g hG ?_
  refine aq ?_
  refine bn (fun (z:Nat)=>(⟨[(0, .l (.z (.slice .str) p)),(2, .l (.val (.slice none 0 0))),(3, .l (.z (.int .i64) 0)),(9, .l (.z (.slice .str) p)),(10, .l (.z (.int .i64) (p.length:Int))),(11, .l (.z (.int .i64) (z:Int)))], []⟩:aa)) (fun z=>z≤p.length∧(p.take z).all (fun q=>decide (c6 q=0))=true) (fun z=>p.length-z) 0 ?_ ?_ ?_
  ·refine q_l ?_
   rfl
  ·exact ⟨by omega,rfl⟩
  ·rintro k ⟨g1,g2⟩
   try dsimp only at g1 g2
   refine s_g hG ?_
   refine ak ?_
   refine ao ?_ ?_
   ·intro hb1
    try simp only [bt] at hb1
    have hk:k<p.length:=by have h9:(k:Int)<(p.length:Int):=hb1;omega
    refine ap ?_
    refine ah ?_
    refine ak ?_
    refine aq ?_
    refine s_q hG ?_ ?_
    ·try simp only [ba]
     exact ⟨by omega,hb1⟩
    refine s_q hG ?_ ?_
    ·try simp only [ba]
     exact hC.2 _ (fF (t:= .str) hk)
    refine ao ?_ ?_
    ·intro hb2
     try simp only [bt] at hb2
     refine s_g hG ?_
     refine ax ?_
     refine bv ?_
     refine ay ?_
     refine dY ?_
     refine bv ?_
     refine ay ?_
     refine q_e [] ?_
     exact rQ (E3 hk hl41 hb2)
    ·intro hb2
     try simp only [bf] at hb2
     refine ap ?_
     refine aN ?_
     refine ah ?_
     refine ag hG ?_ ?_
     ·first|trivial|omega|(simp;done)|(simp;omega)
     show ∃ z,_
     refine q_l ?_
     exact ⟨k+1,wi (by omega) (by omega),hk,AX hk g2 hb2,by omega⟩
   ·intro hb1
    try simp only [bf] at hb1
    have hk:k=p.length:=by have h9: ¬ (k:Int)<(p.length:Int):=hb1;omega
    subst hk
    rw [List.take_length] at g2
    refine bc ?_
    refine aC ?_
    refine av ?_
    refine au ?_
    refine ah ?_
    refine ak ?_
    refine s_q hG ?_ ?_
    ·try simp only [ba]
     exact AY hl41
    refine ao ?_ ?_
    ·intro hb3
     try simp only [bt] at hb3
     refine s_g hG ?_
     refine ax ?_
     refine ay ?_
     refine q_e [] ?_
     exact rQ (A0 hl41 g2 hb3)
    ·intro hb3
     try simp only [bf] at hb3
     refine ap ?_
     refine ah ?_
     refine s_q hG ?_ ?_
     ·try simp only [ba]
      exact ⟨by unfold QL;omega,(rP hC g2).1⟩
     refine ax ?_
     refine q_e [] ?_
     exact Il hC hl41 g2 hb3
end Go.Proofs.YtdojbabpnaifoaaGreatDoor
end
section
namespace Go.Proofs.YtdojbabpnaifoaaGreatDoor
open Go Go.Cm Go.Proofs
def po (B:aj):Tab:={types:= [(3,(.int .i64)),(22,(.slice .str)),(31,(.int .i64)),(44,(.slice (.slice .str))),(98,(.slice (.slice (.st (.pair (.st (.pair .bool (.slice (.int .u32)))) (.st (.pair .bool (.slice (.int .u32)))))))))],elems:= [(98,79)],cons:= [(54,no)],hint:= [],N:=29,base:=B}
theorem yZ {B:aj} (hB:aA B):aF Tryz.prog (po B):=⟨⟨tc ty3 (tc fY (tc kH (tc ss (tc su (ae))))),aQ (by kernel_rfl) (af),by simp only [po,ioB];omega⟩,aD (cc Tryz.func54 (ur hB) (aw)),by kernel_rfl⟩
def eT:Con:=fun l os=>match l,os with
 | [.z (.slice (.slice .str)) l], []=>some (l.length≤1000∧∀ p∈l,cS p, [.z (.slice (.slice (.st (.pair (.st (.pair .bool (.slice (.int .u32)))) (.st (.pair .bool (.slice (.int .u32)))))))) (ga l), .z (.int .i64) (bR l)], [])
 |_,_=>none
theorem eh {B:aj} (hB:aA B):Valid B Tryz.prog 67 eT:=by
 refine ab (yZ hB).tab Tryz.func67 rfl rfl rfl ?_
 intro args os C rs os' hc hC
 unfold eT at hc
 split at hc
 case h_2=>cases hc
 rename_i l
 cases hc
 refine v_h (yZ hB) fun X hP hT hr hG=> ?_
 have hU:=po.eq_1
 unfold po at hT
 have hX:= @no.eq_1
 simp only [Tryz.f67,aB,al,ioB]
 have hl:l.length≤1000:=hC.1
 refine s_g hG ?_
 refine BG ?_
 refine s_g hG ?_
 refine s_g hG ?_
 refine ak ?_
 refine BF ?_
 refine ah ?_
 refine ak ?_
 refine s_g hG ?_
 refine aq ?_
 refine bn (fun (z:Option (Nat))=>match z with|none=>((⟨[(0, .l (.z (.slice (.slice .str)) l)),(2, .l (.val (.slice none 0 0))),(3, .l (.z (.int .i64) 0)),(4, .l (.val (.slice none 0 0))),(5, .l (.z (.int .i64) 0)),(9, .l (.z (.slice (.slice .str)) l)),(10, .l (.z (.int .i64) (l.length:Int))),(11, .l (.z (.int .i64) 0))], []⟩:aa))|some z=>((⟨[(0, .l (.z (.slice (.slice .str)) l)),(2, .l (.val (.slice none 0 0))),(3, .l (.z (.int .i64) 0)),(4, .l (.ownS 25)),(5, .l (.z (.int .i64) 0)),(9, .l (.z (.slice (.slice .str)) l)),(10, .l (.z (.int .i64) (l.length:Int))),(11, .l (.z (.int .i64) (z:Int)))], [(25, .arr (.slice (.st (.pair (.st (.pair .bool (.slice (.int .u32)))) (.st (.pair .bool (.slice (.int .u32))))))) 79 ((l.take z).map fun p=>aE (aZ p)))]⟩:aa))) (fun (z:Option (Nat))=>match z with|none=>(True)|some z=>(1≤z∧z≤l.length∧(l.take z).all (fun p=>decide (cD p=0))=true)) (fun (z:Option (Nat))=>match z with|none=>(l.length+1)|some z=>(l.length-z)) none ?_ ?_ ?_
 ·simp only [ml0,ml1,Nat.reduceLT,Nat.reduceEqDiff,Nat.reduceAdd,Nat.reduceMul,Nat.reduceSub,Nat.reduceLeDiff,Nat.reduceBEq,Nat.reduceBNe,reduceIte,reduceDIte,reduceCtorEq]
 ·trivial
 ·rintro (_|k) hz_
  ·obtain ⟨k,ek⟩:∃ k:Nat,k=0:=⟨0,rfl⟩
   have e0:(k:Int)=0:=by rw [ek];rfl
   refine s_g hG ?_
   refine ak ?_
   refine ao ?_ ?_
   ·intro hb0
    try simp only [bt] at hb0
    have hk:k<l.length:=by first|(have h9:(k:Int)<(l.length:Int):=hb0;omega)|(have h9:(0:Int)<(l.length:Int):=hb0;omega)
    refine ap ?_
    refine ah ?_
    refine ak ?_
    refine aq ?_
    refine s_q hG ?_ ?_
    ·try simp only [ba]
     exact ⟨by omega,hb0⟩
    refine s_g hG ?_
    refine ak ?_
    refine s_q hG ?_ ?_
    ·try simp only [ba]
     first|exact hC.2 _ (fF (t:= .slice .str) hk)|(subst ek;exact hC.2 _ (fF (t:= .slice .str) (k:=0) hk))
    refine s_g hG ?_
    refine ao ?_ ?_
    ·intro hb1
     try simp only [bt] at hb1
     refine s_g hG ?_
     refine bc ?_
     refine aC ?_
     refine gW rfl ?_
     refine aC ?_
     refine av ?_
     refine au ?_
     refine ah ?_
     refine s_g hG ?_
     refine ax ?_
     refine fN ?_
     refine q_e [] ?_
     subst ek;exact E5 hk hb1
    ·intro hb1
     try simp only [bf] at hb1
     refine ap ?_
     refine ah ?_
     refine ag hG ?_ ?_
     ·try simp only [ba]
      unfold Cm.Roomy;try simp only [List.length_map,List.length_take]
      omega
     refine aN ?_
     refine ah ?_
     refine ag hG ?_ ?_
     ·first|trivial|omega|(simp;done)|(simp;omega)
     refine ⟨some (1),?_⟩
     simp only [ml0,ml1,Nat.reduceLT,Nat.reduceEqDiff,Nat.reduceAdd,Nat.reduceMul,Nat.reduceSub,Nat.reduceLeDiff,Nat.reduceBEq,Nat.reduceBNe,reduceIte,reduceDIte,reduceCtorEq]
     subst ek;exact ⟨hb1,xN hl hk hb1⟩
   ·intro hb0
    try simp only [bf] at hb0
    have hk: ¬k<l.length:=by intro h9;first|exact hb0 (show (k:Int)<(l.length:Int) by omega)|exact hb0 (show (0:Int)<(l.length:Int) by omega)
    refine bc ?_
    refine aC ?_
    refine av ?_
    refine au ?_
    refine ah ?_
    refine s_g hG ?_
    refine ax ?_
    refine fN ?_
    refine q_e [] ?_
    subst ek;exact E6 hk
  ·obtain ⟨g0,g1,g2⟩:=hz_
   try dsimp only at g0 g1 g2
   refine s_g hG ?_
   refine ak ?_
   refine ao ?_ ?_
   ·intro hb0
    try simp only [bt] at hb0
    have hk:k<l.length:=by first|(have h9:(k:Int)<(l.length:Int):=hb0;omega)|(have h9:(0:Int)<(l.length:Int):=hb0;omega)
    refine ap ?_
    refine ah ?_
    refine ak ?_
    refine aq ?_
    refine s_q hG ?_ ?_
    ·try simp only [ba]
     exact ⟨by omega,hb0⟩
    refine s_g hG ?_
    refine ak ?_
    refine s_q hG ?_ ?_
    ·try simp only [ba]
     first|exact hC.2 _ (fF (t:= .slice .str) hk)|(subst ek;exact hC.2 _ (fF (t:= .slice .str) (k:=0) hk))
    refine s_g hG ?_
    refine ao ?_ ?_
    ·intro hb1
     try simp only [bt] at hb1
     refine s_g hG ?_
     refine bc ?_
     refine aC ?_
     refine gW rfl ?_
     refine aC ?_
     refine av ?_
     refine au ?_
     refine ah ?_
     refine s_g hG ?_
     refine ax ?_
     refine fN ?_
     refine q_e [] ?_
     exact xM hk g2 hb1
    ·intro hb1
     try simp only [bf] at hb1
     refine ap ?_
     refine ah ?_
     refine ag hG ?_ ?_
     ·try simp only [ba]
      unfold Cm.Roomy;try simp only [List.length_map,List.length_take]
      omega
     refine aN ?_
     refine ah ?_
     refine ag hG ?_ ?_
     ·first|trivial|omega|(simp;done)|(simp;omega)
     refine ⟨some (k+1),?_⟩
     simp only [ml0,ml1,Nat.reduceLT,Nat.reduceEqDiff,Nat.reduceAdd,Nat.reduceMul,Nat.reduceSub,Nat.reduceLeDiff,Nat.reduceBEq,Nat.reduceBNe,reduceIte,reduceDIte,reduceCtorEq]
     have hr:=rR hl hk g2 hb1
     exact ⟨hb1,hr⟩
   ·intro hb0
    try simp only [bf] at hb0
    have hk: ¬k<l.length:=by intro h9;first|exact hb0 (show (k:Int)<(l.length:Int) by omega)|exact hb0 (show (0:Int)<(l.length:Int) by omega)
    refine bc ?_
    refine aC ?_
    refine av ?_
    refine au ?_
    refine ah ?_
    refine s_g hG ?_
    refine ax ?_
    refine fN ?_
    refine q_e [25] ?_
    rw [List.take_of_length_le (by omega)] at g2 ⊢
    exact Io g2
end Go.Proofs.YtdojbabpnaifoaaGreatDoor
end
section
namespace Go.Proofs.YtdojbabpnaifoaaGreatDoor
open Go Go.Cm Go.Proofs
def pu (B:aj):Tab:={types:= [(3,(.int .i64)),(78,(.slice (.st (.pair (.st (.pair .bool (.slice (.int .u32)))) (.st (.pair .bool (.slice (.int .u32)))))))),(79,(.slice (.st (.pair (.st (.pair .bool (.slice (.int .u32)))) (.st (.pair .bool (.slice (.int .u32))))))))],elems:= [],cons:= [(82,iu),(88,ng)],hint:= [],N:=19,base:=B}
theorem y0 {B:aj} (hB:aA B):aF Tryz.prog (pu B):=⟨⟨tc ty3 (tc Kv (tc fk (ae))),af,by simp only [pu,ioB];omega⟩,aD (cc Tryz.func82 (gM hB) (cc Tryz.func88 (ug hB) (aw))),by kernel_rfl⟩
def dJ:Con:=fun l os=>match l,os with
 | [.z (.slice (.st (.pair (.st (.pair .bool (.slice (.int .u32)))) (.st (.pair .bool (.slice (.int .u32))))))) p], []=>some (Sz QC p∧p.length≤QL, [.z (.slice .str) (gb (aP (am p))), .z (.int .i64) (b8 (aP (am p)))], [])
 |_,_=>none
theorem eU {B:aj} (hB:aA B):Valid B Tryz.prog 69 dJ:=by
 refine ab (y0 hB).tab Tryz.func69 rfl rfl rfl ?_
 intro args os C rs os' hc hC
 unfold dJ at hc
 split at hc
 case h_2=>cases hc
 rename_i p
 cases hc
 refine v_h (y0 hB) fun X hP hT hr hG=> ?_
 have hU:=pu.eq_1
 unfold pu at hT
 have hX:=ai @ng.eq_1<| @iu.eq_1
 simp only [Tryz.f69,aB,al,ioB]
 refine s_g hG ?_
 refine s_q hG ?_ ?_
 ·try simp only [ba]
  exact hC
 refine ak ?_
 refine s_g hG ?_
 refine ao ?_ ?_
 ·intro hb0
  try simp only [bt] at hb0
  have hl:41<(aP (am p)).length:=by have h9:(41:Int)<((aE (aP (am p))).length:Int):=hb0;rw [az] at h9;omega
  refine s_g hG ?_
  refine ax ?_
  refine ay ?_
  refine q_e [] ?_
  exact A1 hl
 ·intro hb0
  try simp only [bf] at hb0
  have hl: ¬41<(aP (am p)).length:=by have h9: ¬ (41:Int)<((aE (aP (am p))).length:Int):=hb0;rw [az] at h9;omega
  refine ap ?_
  refine ah ?_
  refine s_q hG ?_ ?_
  ·try simp only [ba]
   exact E8 hC hl
  refine ak ?_
  refine s_g hG ?_
  refine ao ?_ ?_
  ·intro hb1
   try simp only [bt] at hb1
   refine s_g hG ?_
   refine ax ?_
   refine ay ?_
   refine q_e [] ?_
   exact E7 hl hb1
  ·intro hb1
   try simp only [bf] at hb1
   refine ap ?_
   refine ah ?_
   refine s_g hG ?_
   refine ax ?_
   refine q_e [] ?_
   exact Ip hl hb1
end Go.Proofs.YtdojbabpnaifoaaGreatDoor
end
section
namespace Go.Proofs.YtdojbabpnaifoaaGreatDoor
open Go Go.Cm Go.Proofs
def pw (B:aj):Tab:={types:= [(79,(.slice (.st (.pair (.st (.pair .bool (.slice (.int .u32)))) (.st (.pair .bool (.slice (.int .u32)))))))),(84, .func)],elems:= [],cons:= [(57,nW)],hint:= [],N:=8,base:=B}
theorem y4 {B:aj} (hB:aA B):aF Tryz.prog (pw B):=⟨⟨tc fk (tc Mo (ae)),af,by simp only [pw,ioB];omega⟩,aD (cc Tryz.func57 (lD hB) (aw)),by kernel_rfl⟩
def DP:Con:=fun l os=>match l,os with
 | [.z (.slice (.st (.pair (.st (.pair .bool (.slice (.int .u32)))) (.st (.pair .bool (.slice (.int .u32))))))) p, .z (.slice (.st (.pair (.st (.pair .bool (.slice (.int .u32)))) (.st (.pair .bool (.slice (.int .u32))))))) q], []=>some (Sz QH p∧Sz QH q∧p.length≤1000∧q.length≤1000, [.z (.slice (.st (.pair (.st (.pair .bool (.slice (.int .u32)))) (.st (.pair .bool (.slice (.int .u32))))))) (aE (bC (· + ·) (am p) (am q)))], [])
 |_,_=>none
theorem FR {B:aj} (hB:aA B):Valid B Tryz.prog 56 DP:=by
 refine ab (y4 hB).tab Tryz.func56 rfl rfl rfl ?_
 intro args os C rs os' hc hC
 unfold DP at hc
 split at hc
 case h_2=>cases hc
 rename_i p q
 cases hc
 refine v_h (y4 hB) fun X hP hT hr hG=> ?_
 have hU:=pw.eq_1
 unfold pw at hT
 have hX:= @nW.eq_1
 simp only [Tryz.f56,aB,al,ioB]
 refine s_g hG ?_
 refine s_q hG ?_ ?_
 ·try simp only [ba]
  exact ⟨by simp,hC⟩
 refine ax ?_
 refine q_e [] ?_
 trivial
def px (B:aj):Tab:={types:= [(79,(.slice (.st (.pair (.st (.pair .bool (.slice (.int .u32)))) (.st (.pair .bool (.slice (.int .u32)))))))),(84, .func)],elems:= [],cons:= [(57,nW)],hint:= [],N:=8,base:=B}
theorem y5 {B:aj} (hB:aA B):aF Tryz.prog (px B):=⟨⟨tc fk (tc Mo (ae)),af,by simp only [px,ioB];omega⟩,aD (cc Tryz.func57 (lD hB) (aw)),by kernel_rfl⟩
def DQ:Con:=fun l os=>match l,os with
 | [.z (.slice (.st (.pair (.st (.pair .bool (.slice (.int .u32)))) (.st (.pair .bool (.slice (.int .u32))))))) p, .z (.slice (.st (.pair (.st (.pair .bool (.slice (.int .u32)))) (.st (.pair .bool (.slice (.int .u32))))))) q], []=>some (Sz QH p∧Sz QH q∧p.length≤1000∧q.length≤1000, [.z (.slice (.st (.pair (.st (.pair .bool (.slice (.int .u32)))) (.st (.pair .bool (.slice (.int .u32))))))) (aE (bC (· - ·) (am p) (am q)))], [])
 |_,_=>none
theorem FS {B:aj} (hB:aA B):Valid B Tryz.prog 59 DQ:=by
 refine ab (y5 hB).tab Tryz.func59 rfl rfl rfl ?_
 intro args os C rs os' hc hC
 unfold DQ at hc
 split at hc
 case h_2=>cases hc
 rename_i p q
 cases hc
 refine v_h (y5 hB) fun X hP hT hr hG=> ?_
 have hU:=px.eq_1
 unfold px at hT
 have hX:= @nW.eq_1
 simp only [Tryz.f59,aB,al,ioB]
 refine s_g hG ?_
 refine s_q hG ?_ ?_
 ·try simp only [ba]
  exact ⟨by simp,hC⟩
 refine ax ?_
 refine q_e [] ?_
 trivial
def py (B:aj):Tab:={types:= [(79,(.slice (.st (.pair (.st (.pair .bool (.slice (.int .u32)))) (.st (.pair .bool (.slice (.int .u32))))))))],elems:= [],cons:= [(77,iM)],hint:= [],N:=7,base:=B}
theorem y6 {B:aj} (hB:aA B):aF Tryz.prog (py B):=⟨⟨tc fk (ae),af,by simp only [py,ioB];omega⟩,aD (cc Tryz.func77 (ul hB) (aw)),by kernel_rfl⟩
def DR:Con:=fun l os=>match l,os with
 | [.z (.slice (.st (.pair (.st (.pair .bool (.slice (.int .u32)))) (.st (.pair .bool (.slice (.int .u32))))))) p, .z (.slice (.st (.pair (.st (.pair .bool (.slice (.int .u32)))) (.st (.pair .bool (.slice (.int .u32))))))) q], []=>some (Sz QH p∧p.length≤1000, [.z (.slice (.st (.pair (.st (.pair .bool (.slice (.int .u32)))) (.st (.pair .bool (.slice (.int .u32))))))) (aE (ci (am p)))], [])
 |_,_=>none
theorem FT {B:aj} (hB:aA B):Valid B Tryz.prog 76 DR:=by
 refine ab (y6 hB).tab Tryz.func76 rfl rfl rfl ?_
 intro args os C rs os' hc hC
 unfold DR at hc
 split at hc
 case h_2=>cases hc
 rename_i p q
 cases hc
 refine v_h (y6 hB) fun X hP hT hr hG=> ?_
 have hU:=py.eq_1
 unfold py at hT
 have hX:= @iM.eq_1
 simp only [Tryz.f76,aB,al,ioB]
 refine s_g hG ?_
 refine s_q hG ?_ ?_
 ·try simp only [ba]
  exact hC
 refine ax ?_
 refine q_e [] ?_
 trivial
def pz (B:aj):Tab:={types:= [(79,(.slice (.st (.pair (.st (.pair .bool (.slice (.int .u32)))) (.st (.pair .bool (.slice (.int .u32))))))))],elems:= [],cons:= [(79,pf)],hint:= [],N:=7,base:=B}
theorem y7 {B:aj} (hB:aA B):aF Tryz.prog (pz B):=⟨⟨tc fk (ae),af,by simp only [pz,ioB];omega⟩,aD (cc Tryz.func79 (FK hB) (aw)),by kernel_rfl⟩
def DS:Con:=fun l os=>match l,os with
 | [.z (.slice (.st (.pair (.st (.pair .bool (.slice (.int .u32)))) (.st (.pair .bool (.slice (.int .u32))))))) p, .z (.slice (.st (.pair (.st (.pair .bool (.slice (.int .u32)))) (.st (.pair .bool (.slice (.int .u32))))))) q], []=>some (kP p, [.z (.slice (.st (.pair (.st (.pair .bool (.slice (.int .u32)))) (.st (.pair .bool (.slice (.int .u32))))))) (aE (cg (am p)))], [])
 |_,_=>none
theorem FU {B:aj} (hB:aA B):Valid B Tryz.prog 78 DS:=by
 refine ab (y7 hB).tab Tryz.func78 rfl rfl rfl ?_
 intro args os C rs os' hc hC
 unfold DS at hc
 split at hc
 case h_2=>cases hc
 rename_i p q
 cases hc
 refine v_h (y7 hB) fun X hP hT hr hG=> ?_
 have hU:=pz.eq_1
 unfold pz at hT
 have hX:= @pf.eq_1
 simp only [Tryz.f78,aB,al,ioB]
 refine s_g hG ?_
 refine s_q hG ?_ ?_
 ·try simp only [ba]
  exact hC
 refine ax ?_
 refine q_e [] ?_
 trivial
end Go.Proofs.YtdojbabpnaifoaaGreatDoor
end
section
namespace Go.Proofs.YtdojbabpnaifoaaGreatDoor
open Go Go.Cm Go.Proofs
def pA (B:aj):Tab:={types:= [(31,(.int .i64)),(44,(.slice (.slice .str))),(79,(.slice (.st (.pair (.st (.pair .bool (.slice (.int .u32)))) (.st (.pair .bool (.slice (.int .u32)))))))),(98,(.slice (.slice (.st (.pair (.st (.pair .bool (.slice (.int .u32)))) (.st (.pair .bool (.slice (.int .u32)))))))))],elems:= [(44,22)],cons:= [(56,DP),(67,eT),(69,dJ)],hint:= [],N:=31,base:=B}
theorem y8 {B:aj} (hB:aA B):aF Tryz.prog (pA B):=⟨⟨tc kH (tc ss (tc fk (tc su (ae)))),aQ (by kernel_rfl) (af),by simp only [pA,ioB];omega⟩,aD (cc Tryz.func56 (FR hB) (cc Tryz.func67 (eh hB) (cc Tryz.func69 (eU hB) (aw)))),by kernel_rfl⟩
def pB:Con:=fun l os=>match l,os with
 | [.z (.slice .str) p, .z (.slice .str) q, .val (.func (.func g) fs cs)], []=>some ((g=56∧fs.size=0∧cs.size=0)∧bI (fun p q=>Sz QH p∧Sz QH q∧p.length≤1000∧q.length≤1000) (bC (· + ·)) p q, [.z (.slice .str) (cM (bC (· + ·)) p q), .z (.int .i64) (cL (bC (· + ·)) p q)], [])
 |_,_=>none
theorem FV {B:aj} (hB:aA B):Valid B Tryz.prog 55 pB:=by
 refine ab (y8 hB).tab Tryz.func55 rfl rfl rfl ?_
 intro args os C rs os' hc hC
 unfold pB at hc
 split at hc
 case h_2=>cases hc
 rename_i p q g fs cs
 cases hc
 refine v_h (y8 hB) fun X hP hT hr hG=> ?_
 have hU:=pA.eq_1
 unfold pA at hT
 have hX:=ai @DP.eq_1<|ai @eT.eq_1<| @dJ.eq_1
 simp only [Tryz.f55,aB,al,ioB]
 obtain ⟨⟨rfl,e1,e2⟩,hp,hq,hD⟩:=hC
 obtain rfl:=Array.eq_empty_of_size_eq_zero e1
 obtain rfl:=Array.eq_empty_of_size_eq_zero e2
 refine s_g hG ?_
 refine s_q hG ?_ ?_
 ·try simp only [ba]
  exact (fS hp hq).2
 refine ak ?_
 refine s_g hG ?_
 refine ao ?_ ?_
 ·intro hb0
  try simp only [bt] at hb0
  refine s_g hG ?_
  refine ax ?_
  refine ay ?_
  refine q_e [] ?_
  exact gH hb0
 ·intro hb0
  try simp only [bf] at hb0
  have n0:=ib hb0
  have n1:=ic hb0
  have nl:=fR hb0
  have hE:=hD hb0
  refine ap ?_
  refine ah ?_
  refine s_d hG ?_ ?_
  ·try simp only [ba]
   simp only [NT] at n0 n1
   simp only [n0,n1,nl,aG]
   exact ⟨by decide,by decide,hE.1,hE.2.1,by rw [az];exact hE.2.2⟩
  refine ax ?_
  refine q_e [] ?_
  simp only [NT] at n0 n1
  simp only [n0,n1,aG]
  exact jd (f:=(bC (· + ·))) hb0
def pC (B:aj):Tab:={types:= [(31,(.int .i64)),(44,(.slice (.slice .str))),(79,(.slice (.st (.pair (.st (.pair .bool (.slice (.int .u32)))) (.st (.pair .bool (.slice (.int .u32)))))))),(98,(.slice (.slice (.st (.pair (.st (.pair .bool (.slice (.int .u32)))) (.st (.pair .bool (.slice (.int .u32)))))))))],elems:= [(44,22)],cons:= [(59,DQ),(67,eT),(69,dJ)],hint:= [],N:=31,base:=B}
theorem y9 {B:aj} (hB:aA B):aF Tryz.prog (pC B):=⟨⟨tc kH (tc ss (tc fk (tc su (ae)))),aQ (by kernel_rfl) (af),by simp only [pC,ioB];omega⟩,aD (cc Tryz.func59 (FS hB) (cc Tryz.func67 (eh hB) (cc Tryz.func69 (eU hB) (aw)))),by kernel_rfl⟩
def pD:Con:=fun l os=>match l,os with
 | [.z (.slice .str) p, .z (.slice .str) q, .val (.func (.func g) fs cs)], []=>some ((g=59∧fs.size=0∧cs.size=0)∧bI (fun p q=>Sz QH p∧Sz QH q∧p.length≤1000∧q.length≤1000) (bC (· - ·)) p q, [.z (.slice .str) (cM (bC (· - ·)) p q), .z (.int .i64) (cL (bC (· - ·)) p q)], [])
 |_,_=>none
theorem FW {B:aj} (hB:aA B):Valid B Tryz.prog 55 pD:=by
 refine ab (y9 hB).tab Tryz.func55 rfl rfl rfl ?_
 intro args os C rs os' hc hC
 unfold pD at hc
 split at hc
 case h_2=>cases hc
 rename_i p q g fs cs
 cases hc
 refine v_h (y9 hB) fun X hP hT hr hG=> ?_
 have hU:=pC.eq_1
 unfold pC at hT
 have hX:=ai @eT.eq_1<|ai @DQ.eq_1<| @dJ.eq_1
 simp only [Tryz.f55,aB,al,ioB]
 obtain ⟨⟨rfl,e1,e2⟩,hp,hq,hD⟩:=hC
 obtain rfl:=Array.eq_empty_of_size_eq_zero e1
 obtain rfl:=Array.eq_empty_of_size_eq_zero e2
 refine s_g hG ?_
 refine s_q hG ?_ ?_
 ·try simp only [ba]
  exact (fS hp hq).2
 refine ak ?_
 refine s_g hG ?_
 refine ao ?_ ?_
 ·intro hb0
  try simp only [bt] at hb0
  refine s_g hG ?_
  refine ax ?_
  refine ay ?_
  refine q_e [] ?_
  exact gH hb0
 ·intro hb0
  try simp only [bf] at hb0
  have n0:=ib hb0
  have n1:=ic hb0
  have nl:=fR hb0
  have hE:=hD hb0
  refine ap ?_
  refine ah ?_
  refine s_d hG ?_ ?_
  ·try simp only [ba]
   simp only [NT] at n0 n1
   simp only [n0,n1,nl,aG]
   exact ⟨by decide,by decide,hE.1,hE.2.1,by rw [az];exact hE.2.2⟩
  refine ax ?_
  refine q_e [] ?_
  simp only [NT] at n0 n1
  simp only [n0,n1,aG]
  exact jd (f:=(bC (· - ·))) hb0
def pE (B:aj):Tab:={types:= [(31,(.int .i64)),(44,(.slice (.slice .str))),(79,(.slice (.st (.pair (.st (.pair .bool (.slice (.int .u32)))) (.st (.pair .bool (.slice (.int .u32)))))))),(98,(.slice (.slice (.st (.pair (.st (.pair .bool (.slice (.int .u32)))) (.st (.pair .bool (.slice (.int .u32)))))))))],elems:= [(44,22)],cons:= [(61,nh),(67,eT),(69,dJ)],hint:= [],N:=31,base:=B}
theorem za {B:aj} (hB:aA B):aF Tryz.prog (pE B):=⟨⟨tc kH (tc ss (tc fk (tc su (ae)))),aQ (by kernel_rfl) (af),by simp only [pE,ioB];omega⟩,aD (cc Tryz.func61 (uj hB) (cc Tryz.func67 (eh hB) (cc Tryz.func69 (eU hB) (aw)))),by kernel_rfl⟩
def pF:Con:=fun l os=>match l,os with
 | [.z (.slice .str) p, .z (.slice .str) q, .val (.func (.func g) fs cs)], []=>some ((g=61∧fs.size=0∧cs.size=0)∧bI (fun p q=>Sz QM p∧Sz QM q∧p.length≤100∧q.length≤100) cw p q, [.z (.slice .str) (cM cw p q), .z (.int .i64) (cL cw p q)], [])
 |_,_=>none
theorem FX {B:aj} (hB:aA B):Valid B Tryz.prog 55 pF:=by
 refine ab (za hB).tab Tryz.func55 rfl rfl rfl ?_
 intro args os C rs os' hc hC
 unfold pF at hc
 split at hc
 case h_2=>cases hc
 rename_i p q g fs cs
 cases hc
 refine v_h (za hB) fun X hP hT hr hG=> ?_
 have hU:=pE.eq_1
 unfold pE at hT
 have hX:=ai @eT.eq_1<|ai @nh.eq_1<| @dJ.eq_1
 simp only [Tryz.f55,aB,al,ioB]
 obtain ⟨⟨rfl,e1,e2⟩,hp,hq,hD⟩:=hC
 obtain rfl:=Array.eq_empty_of_size_eq_zero e1
 obtain rfl:=Array.eq_empty_of_size_eq_zero e2
 refine s_g hG ?_
 refine s_q hG ?_ ?_
 ·try simp only [ba]
  exact (fS hp hq).2
 refine ak ?_
 refine s_g hG ?_
 refine ao ?_ ?_
 ·intro hb0
  try simp only [bt] at hb0
  refine s_g hG ?_
  refine ax ?_
  refine ay ?_
  refine q_e [] ?_
  exact gH hb0
 ·intro hb0
  try simp only [bf] at hb0
  have n0:=ib hb0
  have n1:=ic hb0
  have nl:=fR hb0
  have hE:=hD hb0
  refine ap ?_
  refine ah ?_
  refine s_d hG ?_ ?_
  ·try simp only [ba]
   simp only [NT] at n0 n1
   simp only [n0,n1,nl,aG]
   exact ⟨by decide,by decide,hE.1,hE.2.1,by rw [az];exact hE.2.2⟩
  refine ax ?_
  refine q_e [] ?_
  simp only [NT] at n0 n1
  simp only [n0,n1,aG]
  exact jd (f:=cw) hb0
def pG (B:aj):Tab:={types:= [(31,(.int .i64)),(44,(.slice (.slice .str))),(79,(.slice (.st (.pair (.st (.pair .bool (.slice (.int .u32)))) (.st (.pair .bool (.slice (.int .u32)))))))),(98,(.slice (.slice (.st (.pair (.st (.pair .bool (.slice (.int .u32)))) (.st (.pair .bool (.slice (.int .u32)))))))))],elems:= [(44,22)],cons:= [(67,eT),(69,dJ),(70,kE)],hint:= [],N:=31,base:=B}
theorem zb {B:aj} (hB:aA B):aF Tryz.prog (pG B):=⟨⟨tc kH (tc ss (tc fk (tc su (ae)))),aQ (by kernel_rfl) (af),by simp only [pG,ioB];omega⟩,aD (cc Tryz.func67 (eh hB) (cc Tryz.func69 (eU hB) (cc Tryz.func70 (um hB) (aw)))),by kernel_rfl⟩
def pH:Con:=fun l os=>match l,os with
 | [.z (.slice .str) p, .z (.slice .str) q, .val (.func (.func g) fs cs)], []=>some ((g=70∧fs.size=0∧cs.size=0)∧bI (hZ) cm p q, [.z (.slice .str) (cM cm p q), .z (.int .i64) (cL cm p q)], [])
 |_,_=>none
theorem FY {B:aj} (hB:aA B):Valid B Tryz.prog 55 pH:=by
 refine ab (zb hB).tab Tryz.func55 rfl rfl rfl ?_
 intro args os C rs os' hc hC
 unfold pH at hc
 split at hc
 case h_2=>cases hc
 rename_i p q g fs cs
 cases hc
 refine v_h (zb hB) fun X hP hT hr hG=> ?_
 have hU:=pG.eq_1
 unfold pG at hT
 have hX:=ai @eT.eq_1<|ai @kE.eq_1<| @dJ.eq_1
 simp only [Tryz.f55,aB,al,ioB]
 obtain ⟨⟨rfl,e1,e2⟩,hp,hq,hD⟩:=hC
 obtain rfl:=Array.eq_empty_of_size_eq_zero e1
 obtain rfl:=Array.eq_empty_of_size_eq_zero e2
 refine s_g hG ?_
 refine s_q hG ?_ ?_
 ·try simp only [ba]
  exact (fS hp hq).2
 refine ak ?_
 refine s_g hG ?_
 refine ao ?_ ?_
 ·intro hb0
  try simp only [bt] at hb0
  refine s_g hG ?_
  refine ax ?_
  refine ay ?_
  refine q_e [] ?_
  exact gH hb0
 ·intro hb0
  try simp only [bf] at hb0
  have n0:=ib hb0
  have n1:=ic hb0
  have nl:=fR hb0
  have hE:=hD hb0
  refine ap ?_
  refine ah ?_
  refine s_d hG ?_ ?_
  ·try simp only [ba]
   simp only [NT] at n0 n1
   simp only [n0,n1,nl,aG]
   exact ⟨by decide,by decide,hE.1,hE.2.1,by rw [az];exact hE.2.2⟩
  refine ax ?_
  refine q_e [] ?_
  simp only [NT] at n0 n1
  simp only [n0,n1,aG]
  exact jd (f:=cm) hb0
def pI (B:aj):Tab:={types:= [(31,(.int .i64)),(44,(.slice (.slice .str))),(79,(.slice (.st (.pair (.st (.pair .bool (.slice (.int .u32)))) (.st (.pair .bool (.slice (.int .u32)))))))),(98,(.slice (.slice (.st (.pair (.st (.pair .bool (.slice (.int .u32)))) (.st (.pair .bool (.slice (.int .u32)))))))))],elems:= [(44,22)],cons:= [(67,eT),(69,dJ),(76,DR)],hint:= [],N:=31,base:=B}
theorem zc {B:aj} (hB:aA B):aF Tryz.prog (pI B):=⟨⟨tc kH (tc ss (tc fk (tc su (ae)))),aQ (by kernel_rfl) (af),by simp only [pI,ioB];omega⟩,aD (cc Tryz.func67 (eh hB) (cc Tryz.func69 (eU hB) (cc Tryz.func76 (FT hB) (aw)))),by kernel_rfl⟩
def pJ:Con:=fun l os=>match l,os with
 | [.z (.slice .str) p, .z (.slice .str) q, .val (.func (.func g) fs cs)], []=>some ((g=76∧fs.size=0∧cs.size=0)∧bI (fun p _=>Sz QH p∧p.length≤1000) (fun a _=>ci a) p q, [.z (.slice .str) (cM (fun a _=>ci a) p q), .z (.int .i64) (cL (fun a _=>ci a) p q)], [])
 |_,_=>none
theorem FZ {B:aj} (hB:aA B):Valid B Tryz.prog 55 pJ:=by
 refine ab (zc hB).tab Tryz.func55 rfl rfl rfl ?_
 intro args os C rs os' hc hC
 unfold pJ at hc
 split at hc
 case h_2=>cases hc
 rename_i p q g fs cs
 cases hc
 refine v_h (zc hB) fun X hP hT hr hG=> ?_
 have hU:=pI.eq_1
 unfold pI at hT
 have hX:=ai @eT.eq_1<|ai @DR.eq_1<| @dJ.eq_1
 simp only [Tryz.f55,aB,al,ioB]
 obtain ⟨⟨rfl,e1,e2⟩,hp,hq,hD⟩:=hC
 obtain rfl:=Array.eq_empty_of_size_eq_zero e1
 obtain rfl:=Array.eq_empty_of_size_eq_zero e2
 refine s_g hG ?_
 refine s_q hG ?_ ?_
 ·try simp only [ba]
  exact (fS hp hq).2
 refine ak ?_
 refine s_g hG ?_
 refine ao ?_ ?_
 ·intro hb0
  try simp only [bt] at hb0
  refine s_g hG ?_
  refine ax ?_
  refine ay ?_
  refine q_e [] ?_
  exact gH hb0
 ·intro hb0
  try simp only [bf] at hb0
  have n0:=ib hb0
  have n1:=ic hb0
  have nl:=fR hb0
  have hE:=hD hb0
  refine ap ?_
  refine ah ?_
  refine s_d hG ?_ ?_
  ·try simp only [ba]
   simp only [NT] at n0 n1
   simp only [n0,n1,nl,aG]
   exact ⟨by decide,by decide,hE.1,hE.2.1,by rw [az];exact hE.2.2⟩
  refine ax ?_
  refine q_e [] ?_
  simp only [NT] at n0 n1
  simp only [n0,n1,aG]
  exact jd (f:=(fun a _=>ci a)) hb0
def se:Con:=il [none,some (.slice .str),none] pJ
theorem Bg {B:aj} (hB:aA B):Valid B Tryz.prog 55 se:=eN _ (FZ hB)
def pK (B:aj):Tab:={types:= [(31,(.int .i64)),(44,(.slice (.slice .str))),(79,(.slice (.st (.pair (.st (.pair .bool (.slice (.int .u32)))) (.st (.pair .bool (.slice (.int .u32)))))))),(98,(.slice (.slice (.st (.pair (.st (.pair .bool (.slice (.int .u32)))) (.st (.pair .bool (.slice (.int .u32)))))))))],elems:= [(44,22)],cons:= [(67,eT),(69,dJ),(78,DS)],hint:= [],N:=31,base:=B}
theorem zd {B:aj} (hB:aA B):aF Tryz.prog (pK B):=⟨⟨tc kH (tc ss (tc fk (tc su (ae)))),aQ (by kernel_rfl) (af),by simp only [pK,ioB];omega⟩,aD (cc Tryz.func67 (eh hB) (cc Tryz.func69 (eU hB) (cc Tryz.func78 (FU hB) (aw)))),by kernel_rfl⟩
def pL:Con:=fun l os=>match l,os with
 | [.z (.slice .str) p, .z (.slice .str) q, .val (.func (.func g) fs cs)], []=>some ((g=78∧fs.size=0∧cs.size=0)∧bI (fun p _=>kP p) (fun a _=>cg a) p q, [.z (.slice .str) (cM (fun a _=>cg a) p q), .z (.int .i64) (cL (fun a _=>cg a) p q)], [])
 |_,_=>none
theorem F0 {B:aj} (hB:aA B):Valid B Tryz.prog 55 pL:=by
 refine ab (zd hB).tab Tryz.func55 rfl rfl rfl ?_
 intro args os C rs os' hc hC
 unfold pL at hc
 split at hc
 case h_2=>cases hc
 rename_i p q g fs cs
 cases hc
 refine v_h (zd hB) fun X hP hT hr hG=> ?_
 have hU:=pK.eq_1
 unfold pK at hT
 have hX:=ai @eT.eq_1<|ai @DS.eq_1<| @dJ.eq_1
 simp only [Tryz.f55,aB,al,ioB]
 obtain ⟨⟨rfl,e1,e2⟩,hp,hq,hD⟩:=hC
 obtain rfl:=Array.eq_empty_of_size_eq_zero e1
 obtain rfl:=Array.eq_empty_of_size_eq_zero e2
 refine s_g hG ?_
 refine s_q hG ?_ ?_
 ·try simp only [ba]
  exact (fS hp hq).2
 refine ak ?_
 refine s_g hG ?_
 refine ao ?_ ?_
 ·intro hb0
  try simp only [bt] at hb0
  refine s_g hG ?_
  refine ax ?_
  refine ay ?_
  refine q_e [] ?_
  exact gH hb0
 ·intro hb0
  try simp only [bf] at hb0
  have n0:=ib hb0
  have n1:=ic hb0
  have nl:=fR hb0
  have hE:=hD hb0
  refine ap ?_
  refine ah ?_
  refine s_d hG ?_ ?_
  ·try simp only [ba]
   simp only [NT] at n0 n1
   simp only [n0,n1,nl,aG]
   exact ⟨by decide,by decide,hE.1,hE.2.1,by rw [az];exact hE.2.2⟩
  refine ax ?_
  refine q_e [] ?_
  simp only [NT] at n0 n1
  simp only [n0,n1,aG]
  exact jd (f:=(fun a _=>cg a)) hb0
def sf:Con:=il [none,some (.slice .str),none] pL
theorem Bh {B:aj} (hB:aA B):Valid B Tryz.prog 55 sf:=eN _ (F0 hB)
def pM (B:aj):Tab:={types:= [(31,(.int .i64)),(44,(.slice (.slice .str))),(79,(.slice (.st (.pair (.st (.pair .bool (.slice (.int .u32)))) (.st (.pair .bool (.slice (.int .u32)))))))),(98,(.slice (.slice (.st (.pair (.st (.pair .bool (.slice (.int .u32)))) (.st (.pair .bool (.slice (.int .u32)))))))))],elems:= [(44,22)],cons:= [(67,eT),(69,dJ),(80,mn)],hint:= [],N:=31,base:=B}
theorem ze {B:aj} (hB:aA B):aF Tryz.prog (pM B):=⟨⟨tc kH (tc ss (tc fk (tc su (ae)))),aQ (by kernel_rfl) (af),by simp only [pM,ioB];omega⟩,aD (cc Tryz.func67 (eh hB) (cc Tryz.func69 (eU hB) (cc Tryz.func80 (FQ hB) (aw)))),by kernel_rfl⟩
def pN:Con:=fun l os=>match l,os with
 | [.z (.slice .str) p, .z (.slice .str) q, .val (.func (.func g) fs cs)], []=>some ((g=80∧fs.size=0∧cs.size=0)∧bI (vj) jq p q, [.z (.slice .str) (cM jq p q), .z (.int .i64) (cL jq p q)], [])
 |_,_=>none
theorem F1 {B:aj} (hB:aA B):Valid B Tryz.prog 55 pN:=by
 refine ab (ze hB).tab Tryz.func55 rfl rfl rfl ?_
 intro args os C rs os' hc hC
 unfold pN at hc
 split at hc
 case h_2=>cases hc
 rename_i p q g fs cs
 cases hc
 refine v_h (ze hB) fun X hP hT hr hG=> ?_
 have hU:=pM.eq_1
 unfold pM at hT
 have hX:=ai @eT.eq_1<|ai @mn.eq_1<| @dJ.eq_1
 simp only [Tryz.f55,aB,al,ioB]
 obtain ⟨⟨rfl,e1,e2⟩,hp,hq,hD⟩:=hC
 obtain rfl:=Array.eq_empty_of_size_eq_zero e1
 obtain rfl:=Array.eq_empty_of_size_eq_zero e2
 refine s_g hG ?_
 refine s_q hG ?_ ?_
 ·try simp only [ba]
  exact (fS hp hq).2
 refine ak ?_
 refine s_g hG ?_
 refine ao ?_ ?_
 ·intro hb0
  try simp only [bt] at hb0
  refine s_g hG ?_
  refine ax ?_
  refine ay ?_
  refine q_e [] ?_
  exact gH hb0
 ·intro hb0
  try simp only [bf] at hb0
  have n0:=ib hb0
  have n1:=ic hb0
  have nl:=fR hb0
  have hE:=hD hb0
  refine ap ?_
  refine ah ?_
  refine s_d hG ?_ ?_
  ·try simp only [ba]
   simp only [NT] at n0 n1
   simp only [n0,n1,nl,aG]
   exact ⟨by decide,by decide,hE.1,hE.2.1,by rw [az];exact hE.2.2⟩
  refine ax ?_
  refine q_e [] ?_
  simp only [NT] at n0 n1
  simp only [n0,n1,aG]
  exact jd (f:=jq) hb0
end Go.Proofs.YtdojbabpnaifoaaGreatDoor
end
section
namespace Go.Proofs.YtdojbabpnaifoaaGreatDoor
open Go Go.Cm Go.Proofs
def pO (B:aj):Tab:={types:= [(22,(.slice .str))],elems:= [],cons:= [(54,no)],hint:= [],N:=11,base:=B}
theorem zf {B:aj} (hB:aA B):aF Tryz.prog (pO B):=⟨⟨tc fY (ae),af,by simp only [pO,ioB];omega⟩,aD (cc Tryz.func54 (ur hB) (aw)),by kernel_rfl⟩
def kF:Con:=fun l os=>match l,os with
 | [.z (.slice .str) p], []=>some (cS p, [.z (.int .i64) (cD p)], [])
 |_,_=>none
theorem ut {B:aj} (hB:aA B):Valid B Tryz.prog 14 kF:=by
 refine ab (zf hB).tab Tryz.func14 rfl rfl rfl ?_
 intro args os C rs os' hc hC
 unfold kF at hc
 split at hc
 case h_2=>cases hc
 rename_i p
 cases hc
 refine v_h (zf hB) fun X hP hT hr hG=> ?_
 have hU:=pO.eq_1
 unfold pO at hT
 have hX:= @no.eq_1
 simp only [Tryz.f14,aB,al,ioB]
 refine s_g hG ?_
 refine s_q hG ?_ ?_
 ·try simp only [ba]
  exact hC
 refine s_g hG ?_
 refine ax ?_
 refine q_e [] ?_
 trivial
def pP (B:aj):Tab:={types:= [(22,(.slice .str))],elems:= [],cons:= [(55,pB)],hint:= [],N:=11,base:=B}
theorem zg {B:aj} (hB:aA B):aF Tryz.prog (pP B):=⟨⟨tc fY (ae),af,by simp only [pP,ioB];omega⟩,aD (cc Tryz.func55 (FV hB) (aw)),by kernel_rfl⟩
def uu:Con:=fun l os=>match l,os with
 | [.z (.slice .str) p, .z (.slice .str) q], []=>some (bI (fun p q=>Sz QH p∧Sz QH q∧p.length≤1000∧q.length≤1000) (bC (· + ·)) p q, [.z (.slice .str) (cM (bC (· + ·)) p q), .z (.int .i64) (cL (bC (· + ·)) p q)], [])
 |_,_=>none
theorem uv {B:aj} (hB:aA B):Valid B Tryz.prog 15 uu:=by
 refine ab (zg hB).tab Tryz.func15 rfl rfl rfl ?_
 intro args os C rs os' hc hC
 unfold uu at hc
 split at hc
 case h_2=>cases hc
 rename_i p q
 cases hc
 refine v_h (zg hB) fun X hP hT hr hG=> ?_
 have hU:=pP.eq_1
 unfold pP at hT
 have hX:= @pB.eq_1
 simp only [Tryz.f15,aB,al,ioB]
 refine s_g hG ?_
 refine s_q hG ?_ ?_
 ·try simp only [ba]
  exact hC
 refine ax ?_
 refine q_e [] ?_
 trivial
def pQ (B:aj):Tab:={types:= [(22,(.slice .str))],elems:= [],cons:= [(55,pD)],hint:= [],N:=11,base:=B}
theorem zh {B:aj} (hB:aA B):aF Tryz.prog (pQ B):=⟨⟨tc fY (ae),af,by simp only [pQ,ioB];omega⟩,aD (cc Tryz.func55 (FW hB) (aw)),by kernel_rfl⟩
def DT:Con:=fun l os=>match l,os with
 | [.z (.slice .str) p, .z (.slice .str) q], []=>some (bI (fun p q=>Sz QH p∧Sz QH q∧p.length≤1000∧q.length≤1000) (bC (· - ·)) p q, [.z (.slice .str) (cM (bC (· - ·)) p q), .z (.int .i64) (cL (bC (· - ·)) p q)], [])
 |_,_=>none
theorem F2 {B:aj} (hB:aA B):Valid B Tryz.prog 16 DT:=by
 refine ab (zh hB).tab Tryz.func16 rfl rfl rfl ?_
 intro args os C rs os' hc hC
 unfold DT at hc
 split at hc
 case h_2=>cases hc
 rename_i p q
 cases hc
 refine v_h (zh hB) fun X hP hT hr hG=> ?_
 have hU:=pQ.eq_1
 unfold pQ at hT
 have hX:= @pD.eq_1
 simp only [Tryz.f16,aB,al,ioB]
 refine s_g hG ?_
 refine s_q hG ?_ ?_
 ·try simp only [ba]
  exact hC
 refine ax ?_
 refine q_e [] ?_
 trivial
def pR (B:aj):Tab:={types:= [(22,(.slice .str))],elems:= [],cons:= [(55,pF)],hint:= [],N:=11,base:=B}
theorem zi {B:aj} (hB:aA B):aF Tryz.prog (pR B):=⟨⟨tc fY (ae),af,by simp only [pR,ioB];omega⟩,aD (cc Tryz.func55 (FX hB) (aw)),by kernel_rfl⟩
def uw:Con:=fun l os=>match l,os with
 | [.z (.slice .str) p, .z (.slice .str) q], []=>some (bI (fun p q=>Sz QM p∧Sz QM q∧p.length≤100∧q.length≤100) cw p q, [.z (.slice .str) (cM cw p q), .z (.int .i64) (cL cw p q)], [])
 |_,_=>none
theorem ux {B:aj} (hB:aA B):Valid B Tryz.prog 17 uw:=by
 refine ab (zi hB).tab Tryz.func17 rfl rfl rfl ?_
 intro args os C rs os' hc hC
 unfold uw at hc
 split at hc
 case h_2=>cases hc
 rename_i p q
 cases hc
 refine v_h (zi hB) fun X hP hT hr hG=> ?_
 have hU:=pR.eq_1
 unfold pR at hT
 have hX:= @pF.eq_1
 simp only [Tryz.f17,aB,al,ioB]
 refine s_g hG ?_
 refine s_q hG ?_ ?_
 ·try simp only [ba]
  exact hC
 refine ax ?_
 refine q_e [] ?_
 trivial
def pS (B:aj):Tab:={types:= [(22,(.slice .str))],elems:= [],cons:= [(55,pH)],hint:= [],N:=11,base:=B}
theorem zj {B:aj} (hB:aA B):aF Tryz.prog (pS B):=⟨⟨tc fY (ae),af,by simp only [pS,ioB];omega⟩,aD (cc Tryz.func55 (FY hB) (aw)),by kernel_rfl⟩
def DU:Con:=fun l os=>match l,os with
 | [.z (.slice .str) p, .z (.slice .str) q], []=>some (bI (hZ) cm p q, [.z (.slice .str) (cM cm p q), .z (.int .i64) (cL cm p q)], [])
 |_,_=>none
theorem F3 {B:aj} (hB:aA B):Valid B Tryz.prog 24 DU:=by
 refine ab (zj hB).tab Tryz.func24 rfl rfl rfl ?_
 intro args os C rs os' hc hC
 unfold DU at hc
 split at hc
 case h_2=>cases hc
 rename_i p q
 cases hc
 refine v_h (zj hB) fun X hP hT hr hG=> ?_
 have hU:=pS.eq_1
 unfold pS at hT
 have hX:= @pH.eq_1
 simp only [Tryz.f24,aB,al,ioB]
 refine s_g hG ?_
 refine s_q hG ?_ ?_
 ·try simp only [ba]
  exact hC
 refine ax ?_
 refine q_e [] ?_
 trivial
def Bi:Con:=il [some (.slice .str),some (.slice .str)] DU
theorem Bj {B:aj} (hB:aA B):Valid B Tryz.prog 24 Bi:=eN _ (F3 hB)
def pT (B:aj):Tab:={types:= [(22,(.slice .str))],elems:= [],cons:= [(55,se)],hint:= [],N:=8,base:=B}
theorem zk {B:aj} (hB:aA B):aF Tryz.prog (pT B):=⟨⟨tc fY (ae),af,by simp only [pT,ioB];omega⟩,aD (cc Tryz.func55 (Bg hB) (aw)),by kernel_rfl⟩
def DV:Con:=fun l os=>match l,os with
 | [.z (.slice .str) p], []=>some (bI (fun p _=>Sz QH p∧p.length≤1000) (fun a _=>ci a) p [], [.z (.slice .str) (cM (fun a _=>ci a) p []), .z (.int .i64) (cL (fun a _=>ci a) p [])], [])
 |_,_=>none
theorem F4 {B:aj} (hB:aA B):Valid B Tryz.prog 29 DV:=by
 refine ab (zk hB).tab Tryz.func29 rfl rfl rfl ?_
 intro args os C rs os' hc hC
 unfold DV at hc
 split at hc
 case h_2=>cases hc
 rename_i p
 cases hc
 refine v_h (zk hB) fun X hP hT hr hG=> ?_
 have hU:=pT.eq_1
 unfold pT at hT
 have hX:=ai @pJ.eq_1<| @se.eq_1
 simp only [Tryz.f29,aB,al,ioB]
 refine s_g hG ?_
 refine s_q hG ?_ ?_
 ·try simp only [ba]
  exact hC
 refine ax ?_
 refine q_e [] ?_
 trivial
def pU (B:aj):Tab:={types:= [(22,(.slice .str))],elems:= [],cons:= [(55,sf)],hint:= [],N:=8,base:=B}
theorem zl {B:aj} (hB:aA B):aF Tryz.prog (pU B):=⟨⟨tc fY (ae),af,by simp only [pU,ioB];omega⟩,aD (cc Tryz.func55 (Bh hB) (aw)),by kernel_rfl⟩
def DW:Con:=fun l os=>match l,os with
 | [.z (.slice .str) p], []=>some (bI (fun p _=>kP p) (fun a _=>cg a) p [], [.z (.slice .str) (cM (fun a _=>cg a) p []), .z (.int .i64) (cL (fun a _=>cg a) p [])], [])
 |_,_=>none
theorem F5 {B:aj} (hB:aA B):Valid B Tryz.prog 30 DW:=by
 refine ab (zl hB).tab Tryz.func30 rfl rfl rfl ?_
 intro args os C rs os' hc hC
 unfold DW at hc
 split at hc
 case h_2=>cases hc
 rename_i p
 cases hc
 refine v_h (zl hB) fun X hP hT hr hG=> ?_
 have hU:=pU.eq_1
 unfold pU at hT
 have hX:=ai @pL.eq_1<| @sf.eq_1
 simp only [Tryz.f30,aB,al,ioB]
 refine s_g hG ?_
 refine s_q hG ?_ ?_
 ·try simp only [ba]
  exact hC
 refine ax ?_
 refine q_e [] ?_
 trivial
end Go.Proofs.YtdojbabpnaifoaaGreatDoor
end
section
namespace Go.Proofs.YtdojbabpnaifoaaGreatDoor
open Go Go.Cm Go.Proofs
def pV (B:aj):Tab:={types:= [(3,(.int .i64)),(31,(.int .i64)),(44,(.slice (.slice .str))),(79,(.slice (.st (.pair (.st (.pair .bool (.slice (.int .u32)))) (.st (.pair .bool (.slice (.int .u32)))))))),(98,(.slice (.slice (.st (.pair (.st (.pair .bool (.slice (.int .u32)))) (.st (.pair .bool (.slice (.int .u32)))))))))],elems:= [(44,22)],cons:= [(67,eT),(68,nV),(69,dJ)],hint:= [],N:=53,base:=B}
theorem zm {B:aj} (hB:aA B):aF Tryz.prog (pV B):=⟨⟨tc ty3 (tc kH (tc ss (tc fk (tc su (ae))))),aQ (by kernel_rfl) (af),by simp only [pV,ioB];omega⟩,aD (cc Tryz.func67 (eh hB) (cc Tryz.func68 (nm hB) (cc Tryz.func69 (eU hB) (aw)))),by kernel_rfl⟩
def np:Con:=fun l os=>match l,os with
 | [.z (.slice .str) p, .z (.slice .str) q], []=>some (lC p q, [.z (.slice .str) (dvS p q), .z (.slice .str) (dvR p q), .z (.int .i64) (dvE p q)], [])
 |_,_=>none
theorem uy {B:aj} (hB:aA B):Valid B Tryz.prog 23 np:=by
 refine ab (zm hB).tab Tryz.func23 rfl rfl rfl ?_
 intro args os C rs os' hc hC
 unfold np at hc
 split at hc
 case h_2=>cases hc
 rename_i p q
 cases hc
 refine v_h (zm hB) fun X hP hT hr hG=> ?_
 have hU:=pV.eq_1
 unfold pV at hT
 have hX:=ai @eT.eq_1<|ai @nV.eq_1<| @dJ.eq_1
 simp only [Tryz.f23,aB,al,ioB]
 refine s_g hG ?_
 refine s_q hG ?_ ?_
 ·try simp only [ba]
  exact (fS hC.sp hC.sq).2
 refine ak ?_
 refine s_g hG ?_
 refine ao ?_ ?_
 ·intro hb0
  try simp only [bt] at hb0
  refine s_g hG ?_
  refine ax ?_
  refine ay ?_
  refine q_e [] ?_
  exact IC hb0
 ·intro hb0
  try simp only [bf] at hb0
  have n0:=ib hb0
  have n1:=ic hb0
  have nl:=fR hb0
  simp only [NT] at n0 n1
  refine ap ?_
  refine ah ?_
  refine ak ?_
  refine s_q hG ?_ ?_
  ·try simp only [ba]
   rw [nl]
   decide
  refine ao ?_ ?_
  ·intro hb1
   try simp only [bt] at hb1
   simp only [n1] at hb1
   have hq:(aE (aZ q)).length=0:=by have h9:((aE (aZ q)).length:Int)=0:=hb1;omega
   refine s_g hG ?_
   refine ax ?_
   refine ay ?_
   refine q_e [] ?_
   exact ID hb0 hq
  ·intro hb1
   try simp only [bf] at hb1
   simp only [n1] at hb1
   have hq: ¬ (aE (aZ q)).length=0:=by intro h8;exact hb1 (by show ((aE (aZ q)).length:Int)=0;omega)
   have hne:=KE hq
   obtain ⟨k1,k2,k3⟩:=hC.ok hb0 hne
   refine ap ?_
   refine ah ?_
   refine s_d hG ?_ ?_
   ·try simp only [ba]
    simp only [n0,n1,nl]
    exact ⟨by decide,by decide,k1⟩
   refine s_q hG ?_ ?_
   ·try simp only [ba]
    simp only [n0,n1,aG]
    exact k2
   refine ak ?_
   refine s_g hG ?_
   refine ao ?_ ?_
   ·intro hb2
    try simp only [bt] at hb2
    refine s_g hG ?_
    refine ax ?_
    refine ay ?_
    refine q_e [] ?_
    simp only [n0,n1,aG] at hb2 ⊢
    exact KF hb0 hne hb2
   ·intro hb2
    try simp only [bf] at hb2
    refine ap ?_
    refine ah ?_
    refine s_q hG ?_ ?_
    ·try simp only [ba]
     simp only [n0,n1,aG]
     exact k3
    refine ak ?_
    refine s_g hG ?_
    refine ao ?_ ?_
    ·intro hb3
     try simp only [bt] at hb3
     refine s_g hG ?_
     refine ax ?_
     refine ay ?_
     refine q_e [] ?_
     simp only [n0,n1,aG] at hb2 hb3 ⊢
     exact KG hb0 hne hb2 hb3
    ·intro hb3
     try simp only [bf] at hb3
     refine ap ?_
     refine ah ?_
     refine s_g hG ?_
     refine ax ?_
     refine q_e [] ?_
     simp only [n0,n1,aG] at hb2 hb3 ⊢
     exact KH hb0 hne hb2 hb3
def v7:Con:=il [some (.slice .str),some (.slice .str)] np
theorem Bk {B:aj} (hB:aA B):Valid B Tryz.prog 23 v7:=eN _ (uy hB)
end Go.Proofs.YtdojbabpnaifoaaGreatDoor
end
section
namespace Go.Proofs.YtdojbabpnaifoaaGreatDoor
open Go Go.Cm Go.Proofs
def pW (B:aj):Tab:={types:= [(3,(.int .i64)),(22,(.slice .str)),(31,(.int .i64))],elems:= [],cons:= [(14,kF),(55,pN)],hint:= [],N:=39,base:=B}
theorem zn {B:aj} (hB:aA B):aF Tryz.prog (pW B):=⟨⟨tc ty3 (tc fY (tc kH (ae))),af,by simp only [pW,ioB];omega⟩,aD (cc Tryz.func14 (ut hB) (cc Tryz.func55 (F1 hB) (aw))),by kernel_rfl⟩
def v8:Con:=fun l os=>match l,os with
 | [.z (.slice .str) p, .z (.slice .str) q], []=>some (vp p q, [.z (.slice .str) (tI p q), .z (.int .i64) (tH p q)], [])
 |_,_=>none
theorem F6 {B:aj} (hB:aA B):Valid B Tryz.prog 31 v8:=by
 refine ab (zn hB).tab Tryz.func31 rfl rfl rfl ?_
 intro args os C rs os' hc hC
 unfold v8 at hc
 split at hc
 case h_2=>cases hc
 rename_i p q
 cases hc
 refine v_h (zn hB) fun X hP hT hr hG=> ?_
 have hU:=pW.eq_1
 unfold pW at hT
 have hX:=ai @pN.eq_1<| @kF.eq_1
 simp only [Tryz.f31,aB,al,ioB]
 refine s_g hG ?_
 refine ak ?_
 refine s_q hG ?_ ?_
 ·try simp only [ba]
  exact ⟨hC.sp,fun h=>⟨h,hC.sq⟩,id,id,id,id,id,id,id,id,id⟩
 refine ao ?_ ?_
 ·intro hb0
  have hL:=of_decide_eq_true (IF hb0)
  refine s_g hG ?_
  refine ax ?_
  refine ay ?_
  refine q_e [] ?_
  exact L5 hL
 ·intro hb0
  have hL:=of_decide_eq_false (IF hb0)
  refine ap ?_
  refine ah ?_
  refine s_q hG ?_ ?_
  ·try simp only [ba]
   exact hC.ok hL
  refine ax ?_
  refine q_e [] ?_
  exact L6 hL
def wa:Con:=il [some (.slice .str),some (.slice .str)] v8
theorem Bl {B:aj} (hB:aA B):Valid B Tryz.prog 31 wa:=eN _ (F6 hB)
end Go.Proofs.YtdojbabpnaifoaaGreatDoor
end
section
namespace Go.Proofs.YtdojbabpnaifoaaGreatDoor
open Go Go.Cm Go.Proofs
def pX (B:aj):Tab:={types:= [(22,(.slice .str)),(31,(.int .i64)),(44,(.slice (.slice .str))),(46, .str),(78,(.slice (.st (.pair (.st (.pair .bool (.slice (.int .u32)))) (.st (.pair .bool (.slice (.int .u32)))))))),(79,(.slice (.st (.pair (.st (.pair .bool (.slice (.int .u32)))) (.st (.pair .bool (.slice (.int .u32)))))))),(91,(.st (.pair (.st (.pair .bool (.slice (.int .u32)))) (.st (.pair .bool (.slice (.int .u32))))))),(98,(.slice (.slice (.st (.pair (.st (.pair .bool (.slice (.int .u32)))) (.st (.pair .bool (.slice (.int .u32)))))))))],elems:= [(44,22),(78,91)],cons:= [(67,eT),(87,kD),(88,ng),(89,DN),(90,nU)],hint:= [],N:=41,base:=B}
theorem zo {B:aj} (hB:aA B):aF Tryz.prog (pX B):=⟨⟨tc fY (tc kH (tc ss (tc ma (tc Kv (tc fk (tc ty91 (tc su (ae)))))))),aQ (by kernel_rfl) (aQ (by kernel_rfl) (af)),by simp only [pX,ioB];omega⟩,aD (cc Tryz.func67 (eh hB) (cc Tryz.func87 (uf hB) (cc Tryz.func88 (ug hB) (cc Tryz.func89 (FM hB) (cc Tryz.func90 (nf hB) (aw)))))),by kernel_rfl⟩
def wb:Con:=fun l os=>match l,os with
 | [.z (.slice .str) p, .z .str x], []=>some (IG p x, [.z .str (evS p x), .z (.int .i64) (evE p x)], [])
 |_,_=>none
theorem F7 {B:aj} (hB:aA B):Valid B Tryz.prog 36 wb:=by
 refine ab (zo hB).tab Tryz.func36 rfl rfl rfl ?_
 intro args os C rs os' hc hC
 unfold wb at hc
 split at hc
 case h_2=>cases hc
 rename_i p x
 cases hc
 refine v_h (zo hB) fun X hP hT hr hG=> ?_
 have hU:=pX.eq_1
 unfold pX at hT
 have hX:=ai @eT.eq_1<|ai @kD.eq_1<|ai @DN.eq_1<|ai @nU.eq_1<| @ng.eq_1
 simp only [Tryz.f36,aB,al,ioB]
 refine s_g hG ?_
 refine s_q hG ?_ ?_
 ·try simp only [ba]
  exact (II hC).2
 refine ak ?_
 refine s_g hG ?_
 refine ao ?_ ?_
 ·intro hb0
  try simp only [bt] at hb0
  refine s_g hG ?_
  refine ax ?_
  refine ay ?_
  refine q_e [] ?_
  exact L8 hb0
 ·intro hb0
  try simp only [bf] at hb0
  have n0:=MN hb0
  have nl:=L7 hb0
  simp only [NT] at n0
  refine ap ?_
  refine ah ?_
  refine ak ?_
  refine s_q hG ?_ ?_
  ·try simp only [ba]
   exact hC.sx
  refine s_g hG ?_
  refine ao ?_ ?_
  ·intro hb1
   try simp only [bt] at hb1
   refine s_g hG ?_
   refine ax ?_
   refine ay ?_
   refine q_e [] ?_
   exact KI hb0 hb1
  ·intro hb1
   try simp only [bf] at hb1
   have h9:c6 x=0:=by simpa using hb1
   obtain ⟨k1,k2,k3,k4⟩:=hC.ok hb0 h9
   obtain ⟨c1,c2⟩:=mT h9 hC.sx
   refine ap ?_
   refine ah ?_
   refine s_d hG ?_ ?_
   ·try simp only [ba]
    simp only [n0,nl,c2,aG,aK]
    exact IJ c1 k1 k2 k3 k4
   refine ak ?_
   refine s_g hG ?_
   refine ao ?_ ?_
   ·intro hb2
    try simp only [bt] at hb2
    refine s_g hG ?_
    refine ax ?_
    refine ay ?_
    refine q_e [] ?_
    simp only [n0,c2,aG,aK,xT] at hb2
    exact L9 hb0 h9 (by simpa using hb2)
   ·intro hb2
    try simp only [bf] at hb2
    refine ap ?_
    refine ah ?_
    refine s_q hG ?_ ?_
    ·try simp only [ba]
     simp only [n0,c2,aG,aK] at hb2 ⊢
     exact Fj (by simpa using hb2) _
    refine ax ?_
    refine q_e [] ?_
    simp only [n0,c2,aG,aK,xT] at hb2 ⊢
    exact KK hb0 h9 (by simpa using hb2)
def wc:Con:=il [some (.slice .str),none] wb
theorem Bm {B:aj} (hB:aA B):Valid B Tryz.prog 36 wc:=eN _ (F7 hB)
end Go.Proofs.YtdojbabpnaifoaaGreatDoor
end
section
namespace Go.Proofs.YtdojbabpnaifoaaGreatDoor
open Go Go.Cm Go.Proofs
def pY (B:aj):Tab:={types:= [],elems:= [],cons:= [],hint:= [],N:=4,base:=B}
theorem zp {B:aj} (hB:aA B):aF Tryz.prog (pY B):=⟨⟨ae,af,by simp only [pY,ioB];omega⟩,bG rfl,by kernel_rfl⟩
def Ln:Con:=fun l os=>match l,os with
 | [.z (.slice .str) p], []=>some (True, [.z (.slice .str) p], [])
 |_,_=>none
theorem F8 {B:aj} (hB:aA B):Valid B Tryz.prog 45 Ln:=by
 refine ab (zp hB).tab Tryz.func45 rfl rfl rfl ?_
 intro args os C rs os' hc hC
 unfold Ln at hc
 split at hc
 case h_2=>cases hc
 rename_i p
 cases hc
 refine v_h (zp hB) fun X hP hT hr hG=> ?_
 have hU:=pY.eq_1
 unfold pY at hT
 have hX:=Bool.not_true
 simp only [Tryz.f45,aB,al,ioB]
 refine s_g hG ?_
 refine s_g hG ?_
 refine ax ?_
 refine q_e [] ?_
 trivial
def pZ (B:aj):Tab:={types:= [(22,(.slice .str)),(31,(.int .i64))],elems:= [],cons:= [(28,j9)],hint:= [],N:=13,base:=B}
theorem zq {B:aj} (hB:aA B):aF Tryz.prog (pZ B):=⟨⟨tc fY (tc kH (ae)),af,by simp only [pZ,ioB];omega⟩,aD (cc Tryz.func28 (na hB) (aw)),by kernel_rfl⟩
def F9:Con:=fun l os=>match l,os with
 | [.z (.slice .str) p, .z (.int .i64) e, .z (.ptr (.slice .str)) q], []=>some (p.length≤QL∧q.length≤QL, [.z .bool (decide (e=0∧p=q))], [])
 |_,_=>none
theorem uz {B:aj} (hB:aA B):Valid B Tryz.prog 94 F9:=by
 refine ab (zq hB).tab Tryz.func94 rfl rfl rfl ?_
 intro args os C rs os' hc hC
 unfold F9 at hc
 split at hc
 case h_2=>cases hc
 rename_i p e q
 cases hc
 refine v_h (zq hB) fun X hP hT hr hG=> ?_
 have hU:=pZ.eq_1
 unfold pZ at hT
 have hX:= @j9.eq_1
 simp only [Tryz.f94,aB,al,ioB]
 refine s_g hG ?_
 refine s_q hG ?_ ?_
 ·try simp only [ba]
  exact ⟨fun h=>⟨h,hC⟩,id⟩
 refine ax ?_
 refine q_e [] ?_
 exact Mn _ _ _
def p6 (B:aj):Tab:={types:= [(22,(.slice .str))],elems:= [],cons:= [],hint:= [],N:=4,base:=B}
theorem zr {B:aj} (hB:aA B):aF Tryz.prog (p6 B):=⟨⟨tc fY (ae),af,by simp only [p6,ioB];omega⟩,bG rfl,by kernel_rfl⟩
def Ga:Con:=fun l os=>match l,os with
 | [.z (.slice .str) p], []=>some (True, [.fn 94 [.z (.ptr (.slice .str)) p]], [])
 |_,_=>none
theorem uA {B:aj} (hB:aA B):Valid B Tryz.prog 41 Ga:=by
 refine ab (zr hB).tab Tryz.func41 rfl rfl rfl ?_
 intro args os C rs os' hc hC
 unfold Ga at hc
 split at hc
 case h_2=>cases hc
 rename_i p
 cases hc
 refine v_h (zr hB) fun X hP hT hr hG=> ?_
 have hU:=p6.eq_1
 unfold p6 at hT
 have hX:=Bool.not_true
 simp only [Tryz.f41,aB,al,ioB]
 refine s_g hG ?_
 refine s_g hG ?_
 refine ax ?_
 refine q_e [] ?_
 rfl
def JL:Con:=il [some (.slice .str)] Ga
theorem Bn {B:aj} (hB:aA B):Valid B Tryz.prog 41 JL:=eN _ (uA hB)
end Go.Proofs.YtdojbabpnaifoaaGreatDoor
end
section
namespace Go.Proofs.YtdojbabpnaifoaaGreatDoor
open Go Go.Cm Go.Proofs
def p7 (B:aj):Tab:={types:= [(3,(.int .i64)),(22,(.slice .str)),(31,(.int .i64)),(46, .str)],elems:= [(22,46)],cons:= [(14,kF),(15,uu),(16,DT),(17,uw),(23,v7),(24,Bi),(28,vS),(29,DV),(30,DW),(31,wa),(36,wc),(41,JL),(45,Ln),(94,F9)],hint:= [],N:=218,base:=B}
theorem zt {B:aj} (hB:aA B):aF Tryz.prog (p7 B):=⟨⟨tc ty3 (tc fY (tc kH (tc ma (ae)))),aQ (by kernel_rfl) (af),by simp only [p7,ioB];omega⟩,aD (cc Tryz.func14 (ut hB) (cc Tryz.func15 (uv hB) (cc Tryz.func16 (F2 hB) (cc Tryz.func17 (ux hB) (cc Tryz.func23 (Bk hB) (cc Tryz.func24 (Bj hB) (cc Tryz.func28 (Bd hB) (cc Tryz.func29 (F4 hB) (cc Tryz.func30 (F5 hB) (cc Tryz.func31 (Bl hB) (cc Tryz.func36 (Bm hB) (cc Tryz.func41 (Bn hB) (cc Tryz.func45 (F8 hB) (cc Tryz.func94 (uz hB) (aw))))))))))))))),by kernel_rfl⟩
def p8:Con:=fun l os=>match l,os with
 | [], []=>some (True, [.z .bool true], [])
 |_,_=>none
set_option maxHeartbeats 2000000 in
theorem Gb {B:aj} (hB:aA B):Valid B Tryz.prog 11 p8:=by
 refine ab (zt hB).tab Tryz.func11 rfl rfl rfl ?_
 intro args os C rs os' hc hC
 unfold p8 at hc
 split at hc
 case h_2=>cases hc
 cases hc
 refine v_h (zt hB) fun X hP hT hr hG=> ?_
 have hU:=p7.eq_1
 unfold p7 at hT
 have hX:=ai @Ga.eq_1<|ai @JL.eq_1<|ai @F9.eq_1<|ai @Ln.eq_1<|ai @uu.eq_1<|ai @kF.eq_1<|ai @v8.eq_1<|ai @wa.eq_1<|ai @DV.eq_1<|ai @np.eq_1<|ai @v7.eq_1<|ai @wb.eq_1<|ai @wc.eq_1<|ai @DU.eq_1<|ai @Bi.eq_1<|ai @uw.eq_1<|ai @DW.eq_1<|ai @DT.eq_1<|ai @j9.eq_1<|ai @vS.eq_1<| @List.append_eq.{0}
 simp only [Tryz.f11,aB,al,ioB]
 refine s_g hG ?_
 refine cd (fun (z:Unit)=>(⟨[(0, .l (.z .bool false)),(1, .l (.z (.slice .str) [[49], [49], [49]])),(2, .l (.z (.slice .str) [])),(3, .l (.z (.int .i64) 0))], []⟩:aa)) (fun z=>True) ?_ ?_
 ·refine ag hG ?_ ?_
  ·try simp only [ba]
   exact Bc (n:=4) (K:=1) (by decide+kernel) (by decide+kernel)
  show ∃ z,_
  refine q_l ?_
  exact wp1
 rintro ⟨⟩-
 refine cd (fun (z:Unit)=>(⟨[(0, .l (.z .bool false)),(1, .l (.z (.slice .str) [[49], [49], [49]])),(2, .l (.z (.slice .str) [])),(3, .l (.z (.int .i64) 0)),(4, .l (.z (.slice .str) [[48], [49,47,50]])),(5, .l (.z (.slice .str) [[49]])),(6, .l (.z (.int .i64) 0))], []⟩:aa)) (fun z=>True) ?_ ?_
 ·refine ag hG ?_ ?_
  ·try simp only [ba]
   exact Bc (n:=4) (K:=1) (by decide+kernel) (by decide+kernel)
  show ∃ z,_
  refine q_l ?_
  exact wp2
 rintro ⟨⟩-
 refine cd (fun (z:Unit)=>(⟨[(0, .l (.z .bool false)),(1, .l (.z (.slice .str) [[49], [49], [49]])),(2, .l (.z (.slice .str) [])),(3, .l (.z (.int .i64) 0)),(4, .l (.z (.slice .str) [[48], [49,47,50]])),(5, .l (.z (.slice .str) [[49]])),(6, .l (.z (.int .i64) 0)),(9, .l (.z (.int .i64) 2))], []⟩:aa)) (fun z=>True) ?_ ?_
 ·refine ag hG ?_ ?_
  ·try simp only [ba]
   exact Bc (n:=4) (K:=1) (by decide+kernel) (by decide+kernel)
  show ∃ z,_
  refine q_l ?_
  exact wp3
 rintro ⟨⟩-
 refine cd (fun (z:Unit)=>(⟨[(0, .l (.z .bool false)),(1, .l (.z (.slice .str) [[49], [49], [49]])),(2, .l (.z (.slice .str) [])),(3, .l (.z (.int .i64) 0)),(4, .l (.z (.slice .str) [[48], [49,47,50]])),(5, .l (.z (.slice .str) [[49]])),(6, .l (.z (.int .i64) 0)),(9, .l (.z (.int .i64) 2)),(10, .l (.z .str [53,47,52])),(11, .l (.z (.int .i64) 0))], []⟩:aa)) (fun z=>True) ?_ ?_
 ·refine ag hG ?_ ?_
  ·try simp only [ba]
   exact I4 (n:=4) (K:=1) (by decide+kernel) (by decide)
  show ∃ z,_
  refine q_l ?_
  exact wp4
 rintro ⟨⟩-
 refine cd (fun (z:Unit)=>(⟨[(0, .l (.z .bool false)),(1, .l (.z (.slice .str) [[49], [49], [49]])),(2, .l (.z (.slice .str) [])),(3, .l (.z (.int .i64) 0)),(4, .l (.z (.slice .str) [[48], [49,47,50]])),(5, .l (.z (.slice .str) [[49]])),(6, .l (.z (.int .i64) 0)),(9, .l (.z (.int .i64) 2)),(10, .l (.z .str [53,47,52])),(11, .l (.z (.int .i64) 0)),(13, .l (.z (.int .i64) 5))], []⟩:aa)) (fun z=>True) ?_ ?_
 ·refine ag hG ?_ ?_
  ·try simp only [ba]
   exact I4 (n:=4) (K:=1) (by decide+kernel) (by decide)
  show ∃ z,_
  refine q_l ?_
  exact wp5
 rintro ⟨⟩-
 refine cd (fun (z:Unit)=>(⟨[(0, .l (.z .bool false)),(14, .l (.z .bool true))], []⟩:aa)) (fun z=>True) ?_ ?_
 ·refine ag hG ?_ ?_
  ·try simp only [ba]
   exact wsq
  show ∃ z,_
  refine q_l ?_
  rfl
 rintro ⟨⟩-
 refine cd (fun (z:Unit)=>(⟨[(0, .l (.z .bool false)),(14, .l (.z .bool true))], []⟩:aa)) (fun z=>True) ?_ ?_
 ·refine ag hG ?_ ?_
  ·try simp only [ba]
   simp [wp6.1,wp6.2,wp7.1,wp7.2,wp8.1,wp8.2,wp9.1,wp9.2,KW.1,KW.2,KX.1,KX.2,ok6,ok7,ok8,ok9,M3,M4,QL]
  show ∃ z,_
  refine q_l ?_
  simp [wp6.1,wp6.2,wp7.1,wp7.2,wp8.1,wp8.2,wp9.1,wp9.2,KW.1,KW.2,KX.1,KX.2]
 rintro ⟨⟩-
 refine cd (fun (z:Unit)=>(⟨[(0, .l (.z .bool false)),(14, .l (.z .bool true))], []⟩:aa)) (fun z=>True) ?_ ?_
 ·refine ag hG ?_ ?_
  ·try simp only [ba]
   simp [KY.1,KY.2,KZ.1,KZ.2,K0.1,K0.2,K1.1,K1.2,M5,M6,M7,M8,QL]
  show ∃ z,_
  refine q_l ?_
  simp [KY.1,KY.2,KZ.1,KZ.2,K0.1,K0.2,K1.1,K1.2]
 rintro ⟨⟩-
 refine s_q hG ?_ ?_
 ·try simp only [ba]
  simp [K2.1,K2.2,MX.1,MX.2]
 refine ax ?_
 refine q_e [] ?_
 simp [K2.1,K2.2]
end Go.Proofs.YtdojbabpnaifoaaGreatDoor
end
