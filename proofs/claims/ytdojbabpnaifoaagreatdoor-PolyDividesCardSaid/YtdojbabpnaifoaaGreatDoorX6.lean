/- PolyDivides: the program function croupierlaw04.PolyDivides returns true for all arguments,without panicking. -/
import Derived.Test.YtdojbabpnaifoaaGreatDoorX3
import Derived.Test.YtdojbabpnaifoaaGreatDoorX2
import Derived.Test.YtdojbabpnaifoaaGreatDoorProg
import Derived.Test.YtdojbabpnaifoaaGreatDoorX4
import Derived.Test.YtdojbabpnaifoaaGreatDoorX5
import Derived.OpenShut
import Derived.RowKit
import Derived.ChangeArms
import Derived.ChangeSame
import Derived.Deep.Slices
import Derived.ProofKit
import Derived.Deep.DeepHandedRow
import Derived.Test.YtdojbabpnaifoaaGreatDoorCards
import Derived.Test.YtdojbabpnaifoaaGreatDoorTie
import Derived.Lib.LaidTab
import Derived.Stop.LaidErr
import Derived.Lib.SmallJoins
import Derived.KernelRfl
import Derived.Deep.DeepLaidRun
import Derived.Shelf.Vars
import Derived.WalkKit
set_option linter.all false
set_option linter.unusedSimpArgs false
set_option linter.unusedVariables false
set_option maxRecDepth 100000
section
namespace Go.Proofs.YtdojbabpnaifoaaGreatDoor
open Go Go.Cm Go.Proofs
def tY(B:aj):Tab:={types:= [(3,(.int .i64)),(5,(.int .u8)),(22,(.slice .str)),(23,(.slice (.int .i8))),(25,(.st (.pair (.slice (.int .i8)) (.pair (.int .u8) (.slice (.int .i8)))))),(71,(.int .i8))],elems:= [(22,46)],cons:= [(22,Ar),(64,iM),(85,R7)],hint:= [],N:=59,base:=B}
theorem D0{B:aj}(hB:aC B):aI Tryz.prog (tY B):=⟨⟨tc ty3 (tc ty5 (tc dZ (tc Ux (tc SY (tc Uy (ae)))))),aT (by kernel_rfl) (af),by simp only[tY,ioB];omega⟩,aG (cc Tryz.func22 (LG hB) (cc Tryz.func64 (jE hB) (cc Tryz.func85 (KV hB) (aA)))),by kernel_rfl⟩
def tZ:Con:=fun l os=>match l,os with
 | [.z (.st (.pair (.slice (.int .i8)) (.pair (.int .u8) (.slice (.int .i8))))) d],[]=>some (jH d,[.z (.slice .str) (txP (nG d))],[])
 |_,_=>none
theorem LH{B:aj}(hB:aC B):Valid B Tryz.prog 40 tZ:=by
 refine ab (D0 hB).tab Tryz.func40 rfl rfl rfl ?_;intro args os C rs os' hc hC;unfold tZ at hc;split at hc;case h_2=>cases hc
 rename_i d;cases hc;refine v_h (D0 hB) fun X hP hT hr hG=> ?_;have hU:=tY.eq_1;unfold tY at hT;have hX:=ai @Ar.eq_1<|ai @R7.eq_1<| @iM.eq_1;simp only[Tryz.f40,aD,an,ioB];have hD:=hC;refine s_g hG ?_;refine s_g hG ?_;refine ak (s_g hG ?_);refine ar (bj (fun(z:Nat)=>(⟨[(1,.l (.z (.ptr (.st (.pair (.slice (.int .i8)) (.pair (.int .u8) (.slice (.int .i8)))))) d)),(2,.l (.val (.slice none 0 0))),(3,.l (.ownS 32)),(4,.l (.z (.int .i64) (z:Int)))],[(32,.arr .str 46 (txP (jC d z)))]⟩:aa)) (fun z=>z<=d.1.length/\z<=5) (fun z=>5-z) 0 ?_ ?_ ?_);·refine q_l ?_;exact⟨rfl,by unfold ioB;omega,rfl⟩
 ·omega
 ·rintro k g1;try dsimp only at g1
  refine ak (s_g hG ?_);refine ao ?_ ?_
  ·intro hb0;have hk:=SH (n:=5) hb0;refine aq (ah ?_);refine ak (ar ?_);refine Ah 32 44 (by simp only[aa.toRow,LV.toRow,ioB,mx0,mx1,mx2,mx3,mx4,mx5,mx6,Nat.reduceLT,Nat.reduceEqDiff,Nat.reduceAdd,Nat.reduceMul,Nat.reduceSub,Nat.reduceLeDiff,Nat.reduceBEq,Nat.reduceBNe,reduceIte,reduceDIte,reduceCtorEq];rfl) ?_;refine ib hG ?_ ?_
   ·(try simp only[ba]);exact KL hD hk
   (refine aK (ah ?_);refine sG 32 1 (by simp only[aa.ofRow,LV.ofRow,ioB,List.set_cons_zero,List.set_cons_succ,List.append_nil,List.nil_append,List.cons_append,List.getElem?_cons_zero,List.getElem?_cons_succ,Option.getD_some,mx0,mx1,mx2,mx3,mx4,mx5,mx6,Nat.reduceLT,Nat.reduceEqDiff,Nat.reduceAdd,Nat.reduceMul,Nat.reduceSub,Nat.reduceLeDiff,Nat.reduceBEq,Nat.reduceBNe,reduceIte,reduceDIte,reduceCtorEq];rfl) ?_;refine ag hG ?_ ?_;·exact tt9);show ∃ z,_;refine q_l ?_;exact KM hD hk
  ·intro hb0;have hk:=SI (n:=5) hb0;refine aZ (aB ?_);refine av (au ?_);refine ah (s_q hG ?_ ?_)
   ·(try simp only[ba]);exact⟨(HE hD k).1,Tt (HE hD k).2 g1⟩
   (refine ak (s_g hG ?_);refine ar (bj (fun(z:Nat)=>(⟨[(1,.l (.z (.ptr (.st (.pair (.slice (.int .i8)) (.pair (.int .u8) (.slice (.int .i8)))))) d)),(2,.l (.val (.slice none 0 0))),(3,.l (.z (.slice .str) (txP (nv d z)))),(5,.l (.z (.int .i64) (z:Int)))],[]⟩:aa)) (fun z=>z<=d.2.2.length/\z<=4) (fun z=>4-z) 0 ?_ ?_ ?_);·refine q_l ?_;exact⟨Tw hk g1,rfl⟩);·omega
   ·rintro k2 g2;(try dsimp only at g2);refine ak (s_g hG ?_);refine ao ?_ ?_
    ·intro hb1;have hk2:=SH (n:=4) hb1;refine aq (ah ?_);refine ak (ar ?_);refine ag hG ?_ ?_
     ·(try simp only[ba]);exact KJ hD hk2
     (refine aK (ah ?_);refine ag hG ?_ ?_;·exact tt9);show ∃ z,_;refine q_l ?_;exact KK hD hk2
    ·intro hb1;have hk2:=SI (n:=4) hb1;refine aZ (aB ?_);refine av (au ?_);refine ah (s_g hG ?_);refine ay (q_e [] ?_);exact Tv hk2 g2
def ua(B:aj):Tab:={types:= [(3,(.int .i64)),(22,(.slice .str)),(31,(.int .i64)),(46,.str)],elems:= [],cons:= [(37,rS)],hint:= [],N:=19,base:=B}
theorem D3{B:aj}(hB:aC B):aI Tryz.prog (ua B):=⟨⟨tc ty3 (tc dZ (tc kq (tc iI (ae)))),af,by simp only[ua,ioB];omega⟩,aG (cc Tryz.func37 (KU hB) (aA)),by kernel_rfl⟩
def pg:Con:=fun l os=>match l,os with
 | [.z (.slice .str) p],[]=>some (c8 p,[.z (.int .i64) (qb p)],[])
 |_,_=>none
theorem LI{B:aj}(hB:aC B):Valid B Tryz.prog 53 pg:=by
 refine ab (D3 hB).tab Tryz.func53 rfl rfl rfl ?_;intro args os C rs os' hc hC;unfold pg at hc;split at hc;case h_2=>cases hc
 rename_i p;cases hc;refine v_h (D3 hB) fun X hP hT hr hG=> ?_;have hU:=ua.eq_1;unfold ua at hT;have hX:= @rS.eq_1;simp only[Tryz.f53,aD,an,ioB];have hl:p.length<=1000000000:=hC.1;refine s_g hG ?_;refine ak (s_g hG ?_);refine ar (bj (fun(z:Nat)=>(⟨[(0,.l (.z (.slice .str) p)),(2,.l (.z (.int .i64) 0)),(3,.l (.z (.int .i64) (z:Int)))],[]⟩:aa)) (fun z=>z<=p.length/\(p.take z).all (fun q=>decide (cx q=0))=true) (fun z=>p.length-z) 0 ?_ ?_ ?_);·refine q_l ?_;rfl
 ·exact⟨by omega,rfl⟩
 ·rintro k ⟨g1,g2⟩;try dsimp only at g1 g2
  refine ak (s_g hG ?_);refine ao ?_ ?_
  ·intro hb0;(try simp only[bt] at hb0);(have hk:k<p.length:=by have h9:(k:Int)<((p.length:Nat):Int):=hb0;omega);refine aq (ah ?_);refine ak (ar ?_);refine s_q hG ?_ ?_
   ·(try simp only[ba]);exact⟨⟨by omega,hb0⟩,hC.2 _ (eH (t:= .str) hk)⟩
   refine s_g hG ?_;refine ao ?_ ?_;·intro hb1;(try simp only[bt] at hb1);refine s_g hG ?_;refine ay (bl ?_);refine az (c6 ?_);refine bl (az ?_);refine q_e [] ?_;exact ON hk g2 hb1
   ·(intro hb1;(try simp only[bf] at hb1);refine aq (aK ?_);refine ah (ag hG ?_ ?_);·exact tt9);show ∃ z,_;refine q_l ?_;exact⟨k+1,wo,hk,v8 hk g2 hb1,by omega⟩
  ·intro hb0;(try simp only[bf] at hb0);(have hk: ¬k<p.length:=by have h9: ¬ (k:Int)<((p.length:Nat):Int):=hb0;omega);refine aZ (aB ?_);refine av (au ?_);refine ah (s_g hG ?_);refine ay (q_e [] ?_);exact RL hk g2
def uc(B:aj):Tab:={types:= [(3,(.int .i64)),(22,(.slice .str)),(31,(.int .i64)),(46,.str)],elems:= [],cons:= [(53,pg)],hint:= [],N:=25,base:=B}
theorem D4{B:aj}(hB:aC B):aI Tryz.prog (uc B):=⟨⟨tc ty3 (tc dZ (tc kq (tc iI (ae)))),af,by simp only[uc,ioB];omega⟩,aG (cc Tryz.func53 (LI hB) (aA)),by kernel_rfl⟩
def ph:Con:=fun l os=>match l,os with
 | [.z (.slice .str) p],[]=>some (c8 p,[.z .bool (decide (bT p=0))],[])
 |_,_=>none
theorem LJ{B:aj}(hB:aC B):Valid B Tryz.prog 13 ph:=by
 refine ab (D4 hB).tab Tryz.func13 rfl rfl rfl ?_;intro args os C rs os' hc hC;unfold ph at hc;split at hc;case h_2=>cases hc
 rename_i p;cases hc;refine v_h (D4 hB) fun X hP hT hr hG=> ?_;have hU:=uc.eq_1;unfold uc at hT;have hX:= @pg.eq_1;simp only[Tryz.f13,aD,an,ioB];have hl:p.length<=1000000000:=hC.1;refine s_g hG ?_;refine s_q hG ?_ ?_
 ·try simp only[ba]
  exact⟨fun h=>⟨h,hC⟩,id,id,id,id,id,id,id,fun h=>⟨h,F4 hl h⟩,id,id,fun h=>⟨h,fun h2=>by rw[h,h2];rfl⟩,id⟩
 refine ay (q_e [] ?_);exact F5
def ud(B:aj):Tab:={types:= [(3,(.int .i64)),(22,(.slice .str)),(44,(.slice (.slice .str))),(46,.str)],elems:= [],cons:= [(39,qd)],hint:= [],N:=29,base:=B}
theorem D5{B:aj}(hB:aC B):aI Tryz.prog (ud B):=⟨⟨tc ty3 (tc dZ (tc pO (tc iI (ae)))),af,by simp only[ud,ioB];omega⟩,aG (cc Tryz.func39 (yg hB) (aA)),by kernel_rfl⟩
def qu:Con:=fun l os=>match l,os with
 | [.z (.slice (.slice .str)) m],[]=>some (m.length<=1000/\∀ p∈m,FL p,[.z .bool (m.all fun p=>p.all iZ)],[])
 |_,_=>none
theorem yK{B:aj}(hB:aC B):Valid B Tryz.prog 27 qu:=by
 refine ab (D5 hB).tab Tryz.func27 rfl rfl rfl ?_;intro args os C rs os' hc hC;unfold qu at hc;split at hc;case h_2=>cases hc
 rename_i m;cases hc;refine v_h (D5 hB) fun X hP hT hr hG=> ?_;have hU:=ud.eq_1;unfold ud at hT;have hX:= @qd.eq_1;simp only[Tryz.f27,aD,an,ioB];have hl:m.length<=1000:=hC.1;refine s_g hG ?_;refine ak (s_g hG ?_);refine ar (bj (fun(z:Nat)=>(⟨[(0,.l (.z (.slice (.slice .str)) m)),(2,.l (.z .bool false)),(3,.l (.z (.int .i64) (z:Int)))],[]⟩:aa)) (fun z=>z<=m.length/\(m.take z).all (fun p=>p.all iZ)=true) (fun z=>m.length-z) 0 ?_ ?_ ?_);·refine q_l ?_;rfl
 ·exact⟨by omega,rfl⟩
 ·rintro k ⟨g1,g2⟩;try dsimp only at g1 g2
  refine ak (s_g hG ?_);refine ao ?_ ?_
  ·(intro hb0;(try simp only[bt] at hb0);(have hk:k<m.length:=by have h9:(k:Int)<((m.length:Nat):Int):=hb0;omega);have hr:=hC.2 _ (eH (t:= .slice .str) hk);refine aq (ah ?_);refine ak (ar ?_);refine s_g hG ?_;refine ar (bj (fun(z:Nat)=>(⟨[(0,.l (.z (.slice (.slice .str)) m)),(2,.l (.z .bool false)),(3,.l (.z (.int .i64) (k:Int))),(4,.l (.z (.int .i64) (z:Int)))],[]⟩:aa)) (fun z=>z<=List.length (nth (.slice .str) m (k:Int))/\(List.take z (nth (.slice .str) m (k:Int))).all iZ=true) (fun z=>List.length (nth (.slice .str) m (k:Int))-z) 0 ?_ ?_ ?_);·refine q_l ?_;rfl);·exact⟨by omega,rfl⟩
   ·rintro j ⟨g3,g4⟩;(try dsimp only at g3 g4);refine ak (s_q hG ?_ ?_)
    ·(try simp only[ba]);exact⟨by omega,hb0⟩
    refine ao ?_ ?_
    ·intro hb1;(try simp only[bt] at hb1);(have hj:j<List.length (nth (.slice .str) m (k:Int)):=by have h9:(j:Int)<((List.length (nth (.slice .str) m (k:Int)):Nat):Int):=hb1;omega);refine aq (ah ?_);refine ak (ar ?_);refine s_q hG ?_ ?_
     ·(try simp only[ba]);exact⟨⟨by omega,hb0⟩,⟨by omega,hb1⟩,hr.2 _ (eH (t:= .str) hj)⟩
     refine ao ?_ ?_;·intro hb2;(try simp only[bt] at hb2);refine s_g hG ?_;refine ay (bl ?_);refine az (c6 ?_);refine bl (bl ?_);refine az (c6 ?_);refine bl (az ?_);refine q_e [] ?_;exact OQ hk hj hb2
     ·(intro hb2;(try simp only[bf] at hb2);refine aq (aK ?_);refine ah (ag hG ?_ ?_);·exact tt9);show ∃ z,_;refine q_l ?_;exact RJ hr.1 hj g4 hb2
    ·(intro hb1;(try simp only[bf] at hb1);(have hj: ¬j<List.length (nth (.slice .str) m (k:Int)):=by have h9: ¬ (j:Int)<((List.length (nth (.slice .str) m (k:Int)):Nat):Int):=hb1;omega);refine aZ (aB ?_);refine av (au ?_);refine aK (ah ?_);refine ag hG ?_ ?_;·exact tt9);show ∃ z,_;refine q_l ?_;exact OR hl hk hj g2 g4
  ·intro hb0;(try simp only[bf] at hb0);(have hk: ¬k<m.length:=by have h9: ¬ (k:Int)<((m.length:Nat):Int):=hb0;omega);refine aZ (aB ?_);refine av (au ?_);refine ah (s_g hG ?_);refine ay (q_e [] ?_);exact KO hk g2
def ue(B:aj):Tab:={types:= [(3,(.int .i64)),(22,(.slice .str)),(31,(.int .i64)),(44,(.slice (.slice .str)))],elems:= [(44,22)],cons:= [(27,qu),(28,ke)],hint:= [],N:=25,base:=B}
theorem D6{B:aj}(hB:aC B):aI Tryz.prog (ue B):=⟨⟨tc ty3 (tc dZ (tc kq (tc pO (ae)))),aT (by kernel_rfl) (af),by simp only[ue,ioB];omega⟩,aG (cc Tryz.func27 (yK hB) (cc Tryz.func28 (mY hB) (aA))),by kernel_rfl⟩
def As:Con:=fun l os=>match l,os with
 | [.z (.slice .str) p,.z (.int .i64) e,.z (.slice .str) w],[]=>some (p.length<=QL/\FL w,[.z .bool (mn p e w)],[])
 |_,_=>none
theorem LK{B:aj}(hB:aC B):Valid B Tryz.prog 19 As:=by
 refine ab (D6 hB).tab Tryz.func19 rfl rfl rfl ?_;intro args os C rs os' hc hC;unfold As at hc;split at hc;case h_2=>cases hc
 rename_i p e w;cases hc;refine v_h (D6 hB) fun X hP hT hr hG=> ?_;have hU:=ue.eq_1;unfold ue at hT;have hX:=ai @qu.eq_1<| @ke.eq_1;simp only[Tryz.f19,aD,an,ioB];refine s_g hG ?_;refine ak (s_q hG ?_ ?_)
 ·try simp only[ba]
  exact fun x hx=>by rw[List.mem_singleton] at hx;subst hx;exact hC.2
 refine ao ?_ ?_
 ·intro hb0;try simp only[bt] at hb0
  refine s_q hG ?_ ?_
  ·(try simp only[ba]);exact id
  refine ay (az ?_);refine q_e [] ?_;exact RM hb0
 ·intro hb0;try simp only[bf] at hb0
  refine aq (ah ?_);refine s_q hG ?_ ?_
  ·(try simp only[ba]);exact⟨fun h=>⟨h,hC.1,Nat.le_trans hC.2.1 (Uk (Nat.le_refl _))⟩,id⟩
  refine ay (q_e [] ?_);exact RN hb0
def uf(B:aj):Tab:={types:= [(3,(.int .i64)),(22,(.slice .str)),(46,.str)],elems:= [(22,46)],cons:= [],hint:= [22],N:=26,base:=B}
theorem D7{B:aj}(hB:aC B):aI Tryz.prog (uf B):=⟨⟨tc ty3 (tc dZ (tc iI (ae))),aT (by kernel_rfl) (af),by simp only[uf,ioB];omega⟩,bI rfl,by kernel_rfl⟩
def I0:Con:=fun l os=>match l,os with
 | [.z (.slice .str) p],[]=>some (True,[.z (.slice .str) (og p)],[])
 |_,_=>none
theorem LL{B:aj}(hB:aC B):Valid B Tryz.prog 52 I0:=by
 refine ab (D7 hB).tab Tryz.func52 rfl rfl rfl ?_;intro args os C rs os' hc hC;unfold I0 at hc;split at hc;case h_2=>cases hc
 rename_i p;cases hc;refine v_h (D7 hB) fun X hP hT hr hG=> ?_;have hU:=uf.eq_1;unfold uf at hT;have hX:=Bool.not_true;simp only[Tryz.f52,aD,an,ioB];refine s_g hG ?_;refine s_g hG ?_;refine ak (s_q hG ?_ ?_)
 ·try simp only[ba]
  exact RO
 refine ar (bj (fun(z:Nat)=>(⟨[(3,.l (.ownS 23)),(10,.l (.z (.slice .str) (p.take 6))),(11,.l (.z (.int .i64) ((p.take 6).length:Int))),(12,.l (.z (.int .i64) (z:Int)))],[(23,.arr .str 46 ((p.take 6).take z|>.map fun q=>q.take 8))]⟩:aa)) (fun z=>z<=(p.take 6).length) (fun z=>(p.take 6).length-z) 0 ?_ ?_ ?_);·refine q_l ?_;rw[OS];exact⟨rfl,rfl,rfl,by unfold ioB;omega⟩
 ·omega
 ·rintro k g1;try dsimp only at g1
  refine s_g hG ?_;refine ak (ao ?_ ?_)
  ·intro hb0;(try simp only[bt] at hb0);(have hk:k<(List.take 6 p).length:=by have h9:(k:Int)<(((List.take 6 p).length:Nat):Int):=hb0;omega);refine aq (ah ?_);refine ak (ar ?_);refine s_q hG ?_ ?_
   ·(try simp only[ba]);exact⟨by omega,hb0⟩
   refine ag hG ?_ ?_
   ·(try simp only[ba]);exact KQ
   (refine aK (ah ?_);refine ag hG ?_ ?_;·exact tt9);show ∃ z,_;refine q_l ?_;exact KP hk
  ·intro hb0;(try simp only[bf] at hb0);(have hk: ¬k<(List.take 6 p).length:=by have h9: ¬ (k:Int)<(((List.take 6 p).length:Nat):Int):=hb0;omega);refine aZ (aB ?_);refine av (au ?_);refine ah (s_g hG ?_);refine ay (q_e [] ?_);exact RP hk
def ug(B:aj):Tab:={types:= [(22,(.slice .str)),(25,(.st (.pair (.slice (.int .i8)) (.pair (.int .u8) (.slice (.int .i8)))))),(27,(.arr 2 (.slice .str))),(28,(.arr 4 (.arr 2 (.slice .str))))],elems:= [],cons:= [(40,tZ),(52,I0)],hint:= [],N:=30,base:=B}
theorem D8{B:aj}(hB:aC B):aI Tryz.prog (ug B):=⟨⟨tc dZ (tc SY (tc TU (tc TV (ae)))),af,by simp only[ug,ioB];omega⟩,aG (cc Tryz.func40 (LH hB) (cc Tryz.func52 (LL hB) (aA))),by kernel_rfl⟩
def uh:Con:=fun l os=>match l,os with
 | [.z (.slice .str) p,.z (.slice .str) q,.z (.st (.pair (.slice (.int .i8)) (.pair (.int .u8) (.slice (.int .i8))))) d,.z (.st (.pair (.slice (.int .i8)) (.pair (.int .u8) (.slice (.int .i8))))) f],[]=>some (jH d/\jH f,[.z (.arr 4 (.arr 2 (.slice .str))) (wm p q d f)],[])
 |_,_=>none
theorem LM{B:aj}(hB:aC B):Valid B Tryz.prog 12 uh:=by
 refine ab (D8 hB).tab Tryz.func12 rfl rfl rfl ?_;intro args os C rs os' hc hC;unfold uh at hc;split at hc;case h_2=>cases hc
 rename_i p q d f;cases hc;refine v_h (D8 hB) fun X hP hT hr hG=> ?_;have hU:=ug.eq_1;unfold ug at hT;have hX:=ai @tZ.eq_1<|ai @I0.eq_1<|ai @List.replicate_succ.{0}<|ai @List.replicate_zero.{0}<|ai @List.flatten_cons.{0}<| @List.flatten_nil.{0};simp only[Tryz.f12,aD,an,ioB];refine s_g hG ?_;refine s_d hG ?_ ?_
 ·try simp only[ba]
  exact⟨hC.2,hC.1,hC.1,hC.2⟩
 refine ay (q_e [] ?_);rfl
def ui(B:aj):Tab:={types:= [(3,(.int .i64)),(22,(.slice .str)),(31,(.int .i64)),(46,.str)],elems:= [(22,46)],cons:= [(14,nh),(15,IV),(16,IW),(17,IX),(23,Aj),(24,Gb),(28,Ab),(29,IY),(30,IZ),(31,Al),(36,An),(41,Pz),(45,Sf),(94,Sg)],hint:= [],N:=218,base:=B}
theorem D9{B:aj}(hB:aC B):aI Tryz.prog (ui B):=⟨⟨tc ty3 (tc dZ (tc kq (tc iI (ae)))),aT (by kernel_rfl) (af),by simp only[ui,ioB];omega⟩,aG (cc Tryz.func14 (yF hB) (cc Tryz.func15 (Lr hB) (cc Tryz.func16 (Ls hB) (cc Tryz.func17 (Lt hB) (cc Tryz.func23 (Gd hB) (cc Tryz.func24 (Gc hB) (cc Tryz.func28 (F6 hB) (cc Tryz.func29 (Lu hB) (cc Tryz.func30 (Lv hB) (cc Tryz.func31 (Ge hB) (cc Tryz.func36 (Gf hB) (cc Tryz.func41 (Gg hB) (cc Tryz.func45 (Ly hB) (cc Tryz.func94 (Lz hB) (aA))))))))))))))),by kernel_rfl⟩
def uj:Con:=fun l os=>match l,os with
 | [],[]=>some (True,[.z .bool true],[])
 |_,_=>none
set_option maxHeartbeats 2000000 in
theorem LN{B:aj}(hB:aC B):Valid B Tryz.prog 11 uj:=by
 refine ab (D9 hB).tab Tryz.func11 rfl rfl rfl ?_;intro args os C rs os' hc hC;unfold uj at hc;split at hc;case h_2=>cases hc
 cases hc;refine v_h (D9 hB) fun X hP hT hr hG=> ?_;have hU:=ui.eq_1;unfold ui at hT;have hX:=ai @Sh.eq_1<|ai @Pz.eq_1<|ai @Sg.eq_1<|ai @Sf.eq_1<|ai @IV.eq_1<|ai @nh.eq_1<|ai @Ak.eq_1<|ai @Al.eq_1<|ai @IY.eq_1<|ai @qs.eq_1<|ai @Aj.eq_1<|ai @Am.eq_1<|ai @An.eq_1<|ai @yG.eq_1<|ai @Gb.eq_1<|ai @IX.eq_1<|ai @IZ.eq_1<|ai @IW.eq_1<|ai @ke.eq_1<|ai @Ab.eq_1<| @List.append_eq.{0};simp only[Tryz.f11,aD,an,ioB];refine s_g hG ?_;refine ct (fun(z:Unit)=>(⟨[(0,.l (.z .bool false)),(1,.l (.z (.slice .str) [[49],[49],[49]])),(2,.l (.z (.slice .str) [])),(3,.l (.z (.int .i64) 0))],[]⟩:aa)) (fun z=>True) ?_ ?_
 ·refine ag hG ?_ ?_
  ·(try simp only[ba]);exact FQ (n:=4) (K:=1) (by decide+kernel) (by decide+kernel)
  show ∃ z,_;refine q_l ?_;exact wp1
 rintro⟨⟩-;refine ct (fun(z:Unit)=>(⟨[(0,.l (.z .bool false)),(1,.l (.z (.slice .str) [[49],[49],[49]])),(2,.l (.z (.slice .str) [])),(3,.l (.z (.int .i64) 0)),(4,.l (.z (.slice .str) [[48],[49,47,50]])),(5,.l (.z (.slice .str) [[49]])),(6,.l (.z (.int .i64) 0))],[]⟩:aa)) (fun z=>True) ?_ ?_
 ·refine ag hG ?_ ?_
  ·(try simp only[ba]);exact FQ (n:=4) (K:=1) (by decide+kernel) (by decide+kernel)
  show ∃ z,_;refine q_l ?_;exact wp2
 rintro⟨⟩-;refine ct (fun(z:Unit)=>(⟨[(0,.l (.z .bool false)),(1,.l (.z (.slice .str) [[49],[49],[49]])),(2,.l (.z (.slice .str) [])),(3,.l (.z (.int .i64) 0)),(4,.l (.z (.slice .str) [[48],[49,47,50]])),(5,.l (.z (.slice .str) [[49]])),(6,.l (.z (.int .i64) 0)),(9,.l (.z (.int .i64) 2))],[]⟩:aa)) (fun z=>True) ?_ ?_
 ·refine ag hG ?_ ?_
  ·(try simp only[ba]);exact FQ (n:=4) (K:=1) (by decide+kernel) (by decide+kernel)
  show ∃ z,_;refine q_l ?_;exact wp3
 rintro⟨⟩-;refine ct (fun(z:Unit)=>(⟨[(0,.l (.z .bool false)),(1,.l (.z (.slice .str) [[49],[49],[49]])),(2,.l (.z (.slice .str) [])),(3,.l (.z (.int .i64) 0)),(4,.l (.z (.slice .str) [[48],[49,47,50]])),(5,.l (.z (.slice .str) [[49]])),(6,.l (.z (.int .i64) 0)),(9,.l (.z (.int .i64) 2)),(10,.l (.z .str [53,47,52])),(11,.l (.z (.int .i64) 0))],[]⟩:aa)) (fun z=>True) ?_ ?_
 ·refine ag hG ?_ ?_
  ·(try simp only[ba]);exact Ol (n:=4) (K:=1) (by decide+kernel) (by decide)
  show ∃ z,_;refine q_l ?_;exact wp4
 rintro⟨⟩-;refine ct (fun(z:Unit)=>(⟨[(0,.l (.z .bool false)),(1,.l (.z (.slice .str) [[49],[49],[49]])),(2,.l (.z (.slice .str) [])),(3,.l (.z (.int .i64) 0)),(4,.l (.z (.slice .str) [[48],[49,47,50]])),(5,.l (.z (.slice .str) [[49]])),(6,.l (.z (.int .i64) 0)),(9,.l (.z (.int .i64) 2)),(10,.l (.z .str [53,47,52])),(11,.l (.z (.int .i64) 0)),(13,.l (.z (.int .i64) 5))],[]⟩:aa)) (fun z=>True) ?_ ?_
 ·refine ag hG ?_ ?_
  ·(try simp only[ba]);exact Ol (n:=4) (K:=1) (by decide+kernel) (by decide)
  show ∃ z,_;refine q_l ?_;exact wp5
 rintro⟨⟩-;refine ct (fun(z:Unit)=>(⟨[(0,.l (.z .bool false)),(14,.l (.z .bool true))],[]⟩:aa)) (fun z=>True) ?_ ?_
 ·refine ag hG ?_ ?_
  ·(try simp only[ba]);exact wsq
  show ∃ z,_;refine q_l ?_;rfl
 rintro⟨⟩-;refine ct (fun(z:Unit)=>(⟨[(0,.l (.z .bool false)),(14,.l (.z .bool true))],[]⟩:aa)) (fun z=>True) ?_ ?_
 ·refine ag hG ?_ ?_
  ·(try simp only[ba]);simp[wp6.1,wp6.2,wp7.1,wp7.2,wp8.1,wp8.2,wp9.1,wp9.2,Rx.1,Rx.2,Ry.1,Ry.2,ok6,ok7,ok8,ok9,Uz,UA,QL]
  show ∃ z,_;refine q_l ?_;simp[wp6.1,wp6.2,wp7.1,wp7.2,wp8.1,wp8.2,wp9.1,wp9.2,Rx.1,Rx.2,Ry.1,Ry.2]
 rintro⟨⟩-;refine ct (fun(z:Unit)=>(⟨[(0,.l (.z .bool false)),(14,.l (.z .bool true))],[]⟩:aa)) (fun z=>True) ?_ ?_
 ·refine ag hG ?_ ?_
  ·(try simp only[ba]);simp[Rz.1,Rz.2,RA.1,RA.2,RB.1,RB.2,RC.1,RC.2,UB,UC,UD,UE,QL]
  show ∃ z,_;refine q_l ?_;simp[Rz.1,Rz.2,RA.1,RA.2,RB.1,RB.2,RC.1,RC.2]
 rintro⟨⟩-;refine s_q hG ?_ ?_
 ·try simp only[ba]
  simp[RD.1,RD.2,Uj.1,Uj.2]
 refine ay (q_e [] ?_);simp[RD.1,RD.2]
end Go.Proofs.YtdojbabpnaifoaaGreatDoor
end
section
namespace Go.Cm
open Go.Proofs
def fS(f:Nat->Rat):Nat->Rat
 |0=>0
 |n+1=>fS f n+f n
theorem im{f g:Nat->Rat}:∀ n,(∀ i,i<n->f i=g i)->fS f n=fS g n
 |0,_=>rfl
 |n+1,h=>by rw[fS,fS,im n fun i hi=>h i (by omega),h n (by omega)]
def Um(f:Nat->Int):Nat->Int
 |0=>0
 |n+1=>Um f n+f n
def conv(M S:Nat->Int)(n:Nat):Int:=Um (fun k=>M k*S (n-k)) (n+1)
end Go.Cm
namespace Go.Cm
open Go.Proofs
theorem wB(c:Rat)(f:Nat->Rat):∀ n,fS (fun k=>c*f k) n=c*fS f n
 |0=>by simp[fS]
 |n+1=>by rw[fS,fS,wB c f n];grind
theorem yL(f:Nat->Rat){n:Nat}:∀ m,n<=m->(∀ i,n<=i->f i=0)->fS f m=fS f n
 |0,h,_=>by rw[show n=0 by omega]
 |m+1,h,h0=>by
  by_cases e:n=m+1
  ·rw[e]
  ·rw[fS,yL f m (by omega) h0,h0 m (by omega)];grind
end Go.Cm
end
section
namespace Go.Cm
open Go.Proofs
theorem pj(c:Rat)(l:List Rat)(i:Nat):cf (l.map fun x=>x*c) i=cf l i*c:=by
 unfold cf;simp only[List.getD_eq_getElem?_getD,List.getElem?_map];cases l[i]? with
 |none=>simp
 |some x=>rfl
theorem pk(c:Rat)(l:List Rat)(x:Rat):aF (l.map fun y=>y*c) x=aF l x*c:=by
 induction l with
 |nil=>simp only[List.map_nil,dv];grind
 |cons a l ih=>simp only[List.map_cons,eO,ih];grind
theorem TA{l:List Rat}{y:Rat}(h:y∈l):∃ i,i<l.length/\y=cf l i:=by
 obtain⟨i,hi,rfl⟩:=List.getElem_of_mem h;refine⟨i,hi,?_⟩;unfold cf;rw[List.getD_eq_getElem?_getD,List.getElem?_eq_getElem hi];rfl
def Dv(d p:List Rat):Prop:=∃ s,Trm s/\∀ x,aF d x*aF s x=aF p x
theorem Dv.refl(d:List Rat):Dv d d:=⟨[1],fun _=>by show (1:Rat)≠0;decide,fun x=>by rw[k9];grind⟩
theorem Dv.nil(d:List Rat):Dv d []:=⟨[],mR,fun x=>by rw[dv];grind⟩
theorem Dv.trans{d e p:List Rat}(h:Dv d e)(h2:Dv e p):Dv d p:=by
 obtain⟨s,s1,s2⟩:=h;obtain⟨t,t1,t2⟩:=h2;exact⟨cu s t,kv s1 t1,fun x=>by rw[ee];have:=s2 x;have:=t2 x;grind⟩
theorem qv{l:List Rat}{c:Rat}(h:Trm l)(hc:c≠0):Trm (l.map fun y=>y*c):=by
 intro hn;have hl:l≠ []:=fun e=>hn (by rw[e];rfl);have hp:=List.length_pos_iff.2 hl;have h1:=h hl;rw[bG hp] at h1;rw[bG (by rw[List.length_map];exact hp),List.length_map,pj];intro e;rcases Rat.mul_eq_zero.1 e with e|e;·exact h1 e
 ·exact hc e
theorem wC{d p:List Rat}(tp:Trm p):Dv d (cC p)↔Dv d p:=by
 by_cases hp:p= []
 ·subst hp;exact Iff.rfl
 have hl:=tp hp;constructor;·rintro⟨s,s1,s2⟩;refine⟨s.map fun y=>y*aE p,qv s1 hl,fun x=> ?_⟩;have:=s2 x;rw[vY] at this;rw[pk];grind
 ·rintro⟨s,s1,s2⟩;refine⟨s.map fun y=>y*(1/aE p),qv s1 (by intro e;apply hl;grind),fun x=> ?_⟩;have:=s2 x;rw[pk,vY];grind
theorem Ea:∀ (n:Nat) (p q:List Rat),q.length<n->Trm p->Trm q->∀ d,Dv d (dx n p q)↔(Dv d p/\Dv d q)
 |0,p,q,h,_,_,_=>absurd h (by omega)
 |n+1,p,q,h,tp,tq,d=>by
  rw[dx];split;·rename_i hq;subst hq;rw[wC tp];exact⟨fun h=>⟨h,Dv.nil d⟩,fun h=>h.1⟩
  ·(rename_i hq;have hs:=dF (p:=p) (List.length_pos_iff.2 hq) (tq hq);have tr:=dQ (q:=q) tp;rw[Ea n q _ (by rw[ck];omega) tq (eE tr) d,wC tr];have hev:=fun x=>rE (p:=p) hq tq x;constructor;·rintro⟨⟨s,s1,s2⟩,t,t1,t2⟩;refine⟨⟨bq (· + ·) (cu s (divN p q).1) t,cl _ _ _,fun x=> ?_⟩,s,s1,s2⟩;rw[lf,ee];have:=s2 x;have:=t2 x;have:=hev x;grind);·rintro⟨⟨s,s1,s2⟩,t,t1,t2⟩;refine⟨⟨t,t1,t2⟩,bq (· - ·) s (cu t (divN p q).1),cl _ _ _,fun x=> ?_⟩;rw[jv,ee];have:=s2 x;have:=t2 x;have:=hev x;grind
theorem Si{p q:List Rat}(tp:Trm p)(tq:Trm q)(d:List Rat):Dv d (cp p q)↔(Dv d p/\Dv d q):=Ea _ _ _ (Nat.lt_succ_self _) tp tq d
theorem yM:∀ (n:Nat) (p q:List Rat),Trm p->Trm q->dx n p q≠ []->aE (dx n p q)=1
 |0,p,q,tp,_,h=>by
  rw[dx] at h ⊢;have hp:p≠ []:=fun e=>h (by rw[e];rfl);rw[k8 (List.length_pos_iff.2 hp)];have:=tp hp;grind
 |n+1,p,q,tp,tq,h=>by
  rw[dx] at h ⊢;split;·rename_i hq;rw[if_pos hq] at h;have hp:p≠ []:=fun e=>h (by rw[e];rfl);rw[k8 (List.length_pos_iff.2 hp)];have:=tp hp;grind
  ·rename_i hq;rw[if_neg hq] at h;exact yM n _ _ tq (eE (dQ tp)) h
theorem PA{p q:List Rat}(tp:Trm p)(tq:Trm q)(h:cp p q≠ []):aE (cp p q)=1:=yM _ _ _ tp tq h
theorem PB{d p:List Rat}(td:Trm d)(tp:Trm p)(h:Dv d p):∃ s,Trm s/\cu d s=p:=by
 obtain⟨s,s1,s2⟩:=h;exact⟨s,s1,iK (kv td s1) tp fun x=>by rw[ee];exact s2 x⟩
theorem Sj{d e:List Rat}(td:Trm d)(te:Trm e)(hd:d≠ [])(he:e≠ [])(d1:aE d=1)(e1:aE e=1)(h:Dv d e)(h2:Dv e d):d=e:=by
 obtain⟨s,s1,s2⟩:=PB td te h;obtain⟨t,t1,t2⟩:=PB te td h2;have hs:s≠ []:=by rintro rfl;rw[jw] at s2;exact he s2.symm
 have ht:t≠ []:=by rintro rfl;rw[jw] at t2;exact hd t2.symm
 have l1:=iB hd hs;have l2:=iB he ht;rw[s2] at l1;rw[t2] at l2;have:=List.length_pos_iff.2 hs;have:=List.length_pos_iff.2 ht;have:=List.length_pos_iff.2 hd;have:=List.length_pos_iff.2 he;have hl:s.length=1:=by omega
 have la:=xR hd hs;rw[s2,e1,d1] at la;match s,hl with
 | [c],_=>
  have hc:c=1:=by
   have:aE [c]=c:=rfl;rw[this] at la;grind
  subst hc;refine iK td te fun x=> ?_;rw[<- s2,ee,k9];grind
def ef(l:List Rat):Nat->Nat
 |0=>1
 |k+1=>Nat.lcm (ef l k) (cf l k).den
def fh(l:List Rat):Nat->Nat
 |0=>0
 |k+1=>Nat.gcd (fh l k) (cf l k).num.natAbs
def fx(l:List Rat):Rat:=Rat.divInt (ef l l.length:Int) (fh l l.length:Int)
def cj(l:List Rat):List Rat:=l.map fun x=>x*fx l
theorem LO(l:List Rat)(k:Nat):(ef l k:Int)*bN ((cf l k).den:Int) (cg (ef l k:Int) ((cf l k).den:Int))=(ef l (k+1):Int):=by
 have hg:0<Nat.gcd (ef l k) (cf l k).den:=Nat.gcd_pos_of_pos_right _ (cf l k).den_pos;have e:cg (ef l k:Int) ((cf l k).den:Int)=((Nat.gcd (ef l k) (cf l k).den:Nat):Int):=by unfold cg;rw[Int.natAbs_natCast,Int.natAbs_natCast]
 rw[e];unfold bN;rw[if_pos (by omega),<- Int.natCast_ediv,<- Int.natCast_mul];congr 1;show _=Nat.lcm _ _;unfold Nat.lcm;rw[Nat.mul_div_assoc _ (Nat.gcd_dvd_right _ _)]
theorem LP(l:List Rat)(k:Nat):cg (fh l k:Int) (cf l k).num=(fh l (k+1):Int):=by unfold cg;rw[Int.natAbs_natCast];rfl
theorem Eb(l:List Rat):∀ k,0<ef l k
 |0=>Nat.one_pos
 |k+1=>Nat.lcm_pos (Eb l k) (cf l k).den_pos
theorem Ec(l:List Rat):∀ k i,i<k->(cf l i).den∣ef l k
 |0,_,h=>absurd h (Nat.not_lt_zero _)
 |k+1,i,h=>by
  by_cases e:i=k
  ·subst e;exact Nat.dvd_lcm_right _ _
  ·exact Nat.dvd_trans (Ec l k i (by omega)) (Nat.dvd_lcm_left _ _)
theorem wD(l:List Rat){D:Nat}:∀ k,(∀ i,i<k->(cf l i).den∣D)->ef l k∣D
 |0,_=>Nat.one_dvd _
 |k+1,h=>Nat.lcm_dvd (wD l k fun i hi=>h i (by omega)) (h k (by omega))
theorem po(l:List Rat):∀ k i,i<k->fh l k∣(cf l i).num.natAbs
 |0,_,h=>absurd h (Nat.not_lt_zero _)
 |k+1,i,h=>by
  by_cases e:i=k
  ·subst e;exact Nat.gcd_dvd_right _ _
  ·exact Nat.dvd_trans (Nat.gcd_dvd_left _ _) (po l k i (by omega))
theorem Sk(l:List Rat){i k:Nat}(hi:i<k)(h:cf l i≠0):fh l k≠0:=by
 intro e;have:=po l k i hi;rw[e] at this;have h2:=Nat.eq_zero_of_zero_dvd this;exact h (Rat.num_eq_zero.1 (by omega))
theorem wE{l:List Rat}(h:Trm l)(h0:l≠ []):fh l l.length≠0:=by
 have hp:=List.length_pos_iff.2 h0;refine Sk l (i:=l.length-1) (by omega) ?_;rw[<- bG hp];exact h h0
theorem Sl(D n:Int):Int.gcd D n∣D.natAbs:=Nat.gcd_dvd_left _ _
theorem PC{b:Nat}{l:List Rat}(h:Den b l):∃ D:Int,D≠0/\lw D<=b/\(∀ i,(cf l i).den∣D.natAbs)/\∀ i,∃ n:Int,lw n<=b/\cf l i*(D:Rat)=(n:Rat):=by
 obtain⟨D,d1,d2,d3⟩:=h;refine⟨D,d1,d2,fun i=> ?_,fun i=> ?_⟩;·obtain⟨n,_,e⟩:=d3 i;rw[e];rw[Rat.den_divInt,if_neg d1];exact Nat.div_dvd_of_dvd (Sl D n)
 ·obtain⟨n,n1,e⟩:=d3 i;refine⟨n,n1,?_⟩;have hD:(D:Rat)≠0:=by exact_mod_cast d1
  rw[e,Rat.divInt_eq_div];grind
theorem Sn{b:Nat}{l:List Rat}(h:Den b l)(k:Nat):lw (ef l k:Int)<=b:=by
 obtain⟨D,d1,d2,d3,_⟩:=PC h;have h1:=wD l (D:=D.natAbs) k fun i _=>d3 i;have h2:=Nat.le_of_dvd (by omega) h1;exact Nat.le_trans (gH (by omega)) d2
theorem I1{K:Nat}{l:List Rat}(h:∀ x∈l,lq x<=K):∀ k,lw (fh l k:Int)<=K
 |0=>by show lw 0<=K;rw[eN];omega
 |k+1=>by
  have ih:=I1 h k;by_cases e:cf l k=0
  ·have:fh l (k+1)=fh l k:=by
    show Nat.gcd _ _=_;rw[e];exact Nat.gcd_zero_right _
   rw[this];exact ih
  ·have hk:k<l.length:=by
    refine Nat.lt_of_not_le fun hge=>e (bH hge)
   have hm:cf l k∈l:=by
    unfold cf;rw[List.getD_eq_getElem?_getD,List.getElem?_eq_getElem hk];exact List.getElem_mem hk
   have h1:=Nat.le_trans (dN (cf l k)) (h _ hm);have hne:(cf l k).num≠0:=fun e2=>e (Rat.num_eq_zero.1 e2);have h2:=Nat.le_of_dvd (by omega) (po l (k+1) k (by omega));exact Nat.le_trans (gH (by omega)) h1
theorem PD{l:List Rat}{i:Nat}(hi:i<l.length)(h0:fh l l.length≠0):∃ z:Int,cf (cj l) i=(z:Rat)/\cf l i*((ef l l.length:Int):Rat)=((fh l l.length:Int):Rat)*(z:Rat):=by
 obtain⟨e,he⟩:=Ec l l.length i hi;obtain⟨f,hf⟩:=Int.ofNat_dvd_left.2 (po l l.length i hi);have hd:((cf l i).den:Rat)≠0:=by have:=(cf l i).den_nz;exact_mod_cast this
 have hx:cf l i*((cf l i).den:Rat)=((cf l i).num:Rat):=by
  have h:=Rat.num_divInt_den (cf l i);rw[Rat.divInt_eq_div,Rat.intCast_natCast] at h;grind
 have hc:((fh l l.length:Int):Rat)≠0:=by
  have:(fh l l.length:Int)≠0:=by omega
  exact_mod_cast this
 have hn:((cf l i).num:Rat)=((fh l l.length:Int):Rat)*(f:Rat):=by rw[hf,Rat.intCast_mul]
 have ha:((ef l l.length:Int):Rat)=((cf l i).den:Rat)*(e:Rat):=by
  rw[he];push_cast;rfl
 refine⟨f*e,?_,?_⟩;·unfold cj;rw[pj];unfold fx;rw[Rat.divInt_eq_div,Rat.intCast_mul,Rat.intCast_natCast (n:=e)];grind
 ·rw[Rat.intCast_mul,Rat.intCast_natCast (n:=e)];grind
def Zb(b:Nat)(l:List Rat):Prop:=∀ i,∃ n:Int,lw n<=b/\cf l i=(n:Rat)
theorem Zb.mono{b c:Nat}{l:List Rat}(h:Zb b l)(hc:b<=c):Zb c l:=fun i=>by
 obtain⟨n,h1,h2⟩:=h i;exact⟨n,by omega,h2⟩
theorem Zb.den{b:Nat}{l:List Rat}(h:Zb b l)(hb:1<=b):Den b l:=⟨1,by decide,by rw[kX];exact hb,fun i=>by
 obtain⟨n,h1,h2⟩:=h i;exact⟨n,h1,by rw[h2,Rat.divInt_eq_div];grind⟩⟩
theorem Zb.one{b:Nat}{l:List Rat}(h:Zb b l):∀ x∈l,x.den=1:=by
 intro x hx;obtain⟨i,_,rfl⟩:=TA hx;obtain⟨n,_,e⟩:=h i;rw[e,Rat.den_intCast]
theorem Zb.lq{b:Nat}{l:List Rat}(h:Zb b l)(hb:1<=b):∀ x∈l,Cm.lq x<=b:=(h.den hb).lq
theorem TC(b:Nat):Zb b []:=fun i=>⟨0,by rw[eN];omega,by simp[cf]⟩
theorem I2{b:Nat}{l:List Rat}(h:Zb b l):Zb b (aP l):=fun i=>by rw[eP];exact h i
theorem uk{b:Nat}{l:List Rat}(h:Den b l)(ht:Trm l):Zb b (cj l):=by
 by_cases h0:l= []
 ·subst h0;exact TC b
 have hc:=wE ht h0;intro i;by_cases hi:i<l.length
 ·obtain⟨z,z1,z2⟩:=PD hi hc;obtain⟨D,d1,_,d3,d4⟩:=PC h;obtain⟨n,n1,n2⟩:=d4 i;obtain⟨g,hg⟩:=Int.ofNat_dvd_left.2 (wD l (D:=D.natAbs) l.length fun i _=>d3 i);refine⟨z,?_,z1⟩;have e:n=(fh l l.length:Int)*z*g:=by
   have:(n:Rat)=(((fh l l.length:Int)*z*g:Int):Rat):=by
    rw[<- n2,hg,Rat.intCast_mul,Rat.intCast_mul,Rat.intCast_mul];grind
   exact_mod_cast this
  have hgz:g≠0:=by rintro rfl;rw[Int.mul_zero] at hg;exact d1 hg
  refine Nat.le_trans (gH ?_) n1;rw[e,Int.natAbs_mul,Int.natAbs_mul,Int.natAbs_natCast];have h1:1<=g.natAbs:=by omega
  have h2:z.natAbs<=fh l l.length*z.natAbs:=Nat.le_mul_of_pos_left _ (by omega);exact Nat.le_trans h2 (Nat.le_mul_of_pos_right _ (by omega))
 ·exact⟨0,by rw[eN];omega,bH (by unfold cj;rw[List.length_map];omega)⟩
theorem fp(l:List Rat):(cj l).length=l.length:=by simp[cj]
theorem qw{l:List Rat}(ht:Trm l)(h0:l≠ []):fx l≠0:=by
 have h1:=wE ht h0;have h2:=Eb l l.length;unfold fx;rw[Rat.divInt_eq_div];have a:((ef l l.length:Int):Rat)≠0:=by
  have:(ef l l.length:Int)≠0:=by omega
  exact_mod_cast this
 have b:((fh l l.length:Int):Rat)≠0:=by
  have:(fh l l.length:Int)≠0:=by omega
  exact_mod_cast this
 intro e;apply a;grind
theorem wF(l:List Rat)(x:Rat):aF (cj l) x=aF l x*fx l:=pk _ _ _
theorem qx{l:List Rat}(ht:Trm l):Trm (cj l):=by
 by_cases h0:l= []
 ·subst h0;exact mR
 exact qv ht (qw ht h0)
def mw(m l:List Rat)(i:Nat):Rat:=if l.length-m.length<=i then cf l i*aE m-aE l*cf m (i-(l.length-m.length)) else cf l i*aE m
def dR(m l:List Rat)(n:Nat):List Rat:=(List.range n).map (mw m l)
def iE(m l:List Rat):List Rat:=cj (aP (dR m l (l.length-1)))
theorem Gh(m l:List Rat)(k:Nat):dR m l (k+1)=dR m l k++ [mw m l k]:=by
 unfold dR;rw[List.range_succ,List.map_append];rfl
theorem nn(m l:List Rat)(k:Nat):(dR m l k).length=k:=by simp[dR]
theorem Un{l m:List Rat}(h:∀ i,cf l i=cf m i)(x:Rat):aF l x=aF m x:=by
 have e:aP l=aP m:=FE (cG _) (cG _) fun i=>by rw[eP,eP,h]
 rw[<- ec l,e,ec]
theorem So(k:Nat)(l:List Rat)(i:Nat):cf (List.replicate k 0++l) i=if k<=i then cf l (i-k) else 0:=by
 unfold cf;simp only[List.getD_eq_getElem?_getD];by_cases h:k<=i;·rw[if_pos h,List.getElem?_append_right (by rw[List.length_replicate];exact h),List.length_replicate]
 ·rw[if_neg h,List.getElem?_append_left (by rw[List.length_replicate];omega),List.getElem?_replicate,if_pos (by omega)];rfl
theorem Sp(op:Rat->Rat->Rat)(a b:List Rat)(i:Nat)(h0:op 0 0=0):cf (bq op a b) i=op (cf a i) (cf b i):=by
 unfold bq;rw[eP];by_cases hi:i<max a.length b.length;·exact ig _ _ _ _ _ hi
 ·rw[bH (by rw[dn];omega),bH (l:=a) (by omega),bH (l:=b) (by omega),h0]
theorem Ed(m l:List Rat)(k i:Nat):cf (dR m l k) i=if i<k then mw m l i else 0:=by
 by_cases h:i<k
 ·rw[if_pos h];unfold cf dR;rw[List.getD_eq_getElem?_getD,List.getElem?_map,List.getElem?_range h];rfl
 ·rw[if_neg h,bH (by rw[nn];omega)]
theorem I3{m l:List Rat}(hm:0<m.length)(hl:m.length<=l.length)(x:Rat):aF (dR m l (l.length-1)) x=aE m*aF l x-aE l*x^(l.length-m.length)*aF m x:=by
 have e:aF (dR m l (l.length-1)) x=aF (bq (· - ·) (b9 (aE m) l) (dj (l.length-m.length) (b9 (aE l) m))) x:=by
  refine Un (fun i=> ?_) x;rw[Sp _ _ _ _ (by grind),Ed];unfold dj b9;rw[eP,eP,So,eP,od,od];by_cases h1:i<l.length-1
  ·(rw[if_pos h1];unfold mw;split;·grind);·grind
  ·(rw[if_neg h1,if_pos (by omega)];by_cases h2:i=l.length-1;·subst h2;rw[<- bG (by omega),show l.length-1-(l.length-m.length)=m.length-1 by omega,<- bG hm];grind);·rw[bH (l:=l) (by omega),bH (l:=m) (by omega)];grind
 rw[e,jv,ez,jB,ez];grind
theorem At{b c:Nat}{m l:List Rat}(h:Zb b l)(hm:Zb c m)(k:Nat):Zb (b+c+1) (dR m l k):=by
 intro i;rw[Ed];split
 ·have hlast:∀ {d:Nat} {l:List Rat},Zb d l->∃ n:Int,lw n<=d/\aE l=(n:Rat):=by
   (intro d l h;by_cases h0:l= [];·subst h0;exact⟨0,by rw[eN];omega,rfl⟩);·rw[bG (List.length_pos_iff.2 h0)];exact h _
  obtain⟨n1,a1,e1⟩:=h i;obtain⟨n2,a2,e2⟩:=hlast hm;obtain⟨n3,a3,e3⟩:=hlast h;obtain⟨n4,a4,e4⟩:=hm (i-(l.length-m.length));have b1:=bZ n1 n2;have b2:=bZ n3 n4;have b3:=FG (n1*n2) (n3*n4);unfold mw;split;·exact⟨n1*n2-n3*n4,by omega,by rw[e1,e2,e3,e4,Rat.intCast_sub,Rat.intCast_mul,Rat.intCast_mul]⟩
  ·exact⟨n1*n2,by omega,by rw[e1,e2,Rat.intCast_mul]⟩
 ·exact⟨0,by rw[eN];omega,rfl⟩
theorem I4{b c:Nat}{m l:List Rat}(h:Zb b l)(hm:Zb c m):Zb (b+c+1) (iE m l):=uk ((I2 (At h hm _)).den (by omega)) (cG _)
theorem kG{m l:List Rat}(hl:0<l.length):(iE m l).length<l.length:=by
 unfold iE;rw[fp];have:=dt (dR m l (l.length-1));rw[nn] at this;omega
theorem yN(m l:List Rat):Trm (iE m l):=qx (cG _)
def wG(m a r:List Rat):Prop:=∃ (c:Rat) (s:List Rat),c≠0/\∀ x,aF r x=c*aF a x-aF s x*aF m x
theorem wG.refl(m a:List Rat):wG m a a:=⟨1,[],by decide,fun x=>by rw[dv];grind⟩
theorem wG.trans{m a b r:List Rat}(h1:wG m a b)(h2:wG m b r):wG m a r:=by
 obtain⟨c,s,c0,e⟩:=h1;obtain⟨d,t,d0,f⟩:=h2;refine⟨d*c,bq (· + ·) (b9 d s) t,?_,fun x=> ?_⟩
 ·intro h;rcases Rat.mul_eq_zero.1 h with h|h
  ·exact d0 h
  ·exact c0 h
 ·rw[f,e,lf,ez];grind
theorem LQ{m l:List Rat}(hm:m≠ [])(tm:Trm m)(hl:m.length<=l.length):wG m l (iE m l):=by
 have hp:=List.length_pos_iff.2 hm;by_cases h0:aP (dR m l (l.length-1))= [];·refine⟨aE m,dj (l.length-m.length) [aE l],tm hm,fun x=> ?_⟩;unfold iE;rw[h0,jB,k9];have:=I3 hp hl x;rw[<- ec,h0,dv] at this;show aF [] x=_;rw[dv];grind
 ·refine⟨aE m*fx (aP (dR m l (l.length-1))),dj (l.length-m.length) [aE l*fx (aP (dR m l (l.length-1)))],?_,fun x=> ?_⟩
  ·(intro h;rcases Rat.mul_eq_zero.1 h with h|h);·exact tm hm h
   ·exact qw (cG _) h0 h
  ·unfold iE;rw[wF,ec,I3 hp hl,jB,k9];grind
def om(m:List Rat):Nat->List Rat->List Rat
 |0,l=>l
 |n+1,l=>if m.length<=l.length then om m n (iE m l) else l
def fF(l m:List Rat):List Rat:=om m (l.length+1) l
theorem rj{m:List Rat}(hm:0<m.length):∀ (n k:Nat) (l:List Rat),l.length<n->l.length<k->om m n l=om m k l
 |0,_,_,h,_=>absurd h (Nat.not_lt_zero _)
 |_,0,_,_,h=>absurd h (Nat.not_lt_zero _)
 |n+1,k+1,l,h1,h2=>by
  unfold om;split;·have:=kG (m:=m) (l:=l) (by omega);exact rj hm n k _ (by omega) (by omega)
  ·rfl
theorem oo{m l:List Rat}(hm:0<m.length)(hl:m.length<=l.length):fF (iE m l) m=fF l m:=by
 have:=kG (m:=m) (l:=l) (by omega);unfold fF;conv=>rhs;unfold om
 rw[if_pos hl];exact rj hm _ _ _ (by omega) (by omega)
theorem qy{m l:List Rat}(hl: ¬m.length<=l.length):fF l m=l:=by
 unfold fF om;rw[if_neg hl]
theorem rk{m:List Rat}(hm:m≠ [])(tm:Trm m){c:Nat}(zm:Zb c m):∀ (n:Nat) (l:List Rat) (b:Nat),l.length<n->Trm l->Zb b l->
  wG m l (fF l m)/\(fF l m).length<m.length/\Trm (fF l m)/\Zb (b+(l.length+1-m.length)*(c+1)) (fF l m)
 |0,_,_,h,_,_=>absurd h (Nat.not_lt_zero _)
 |n+1,l,b,h,tl,zl=>by
  have hp:=List.length_pos_iff.2 hm;by_cases hl:m.length<=l.length
  ·have h1:=kG (m:=m) (l:=l) (by omega);obtain⟨r1,r2,r3,r4⟩:=rk hm tm zm n (iE m l) (b+c+1) (by omega) (yN _ _) (I4 zl zm);rw[oo hp hl] at r1 r2 r3 r4;refine⟨(LQ hm tm hl).trans r1,r2,r3,r4.mono ?_⟩;have h2:((iE m l).length+1-m.length)*(c+1)<=(l.length-m.length)*(c+1):=Nat.mul_le_mul_right _ (by omega);have h3:(l.length+1-m.length)*(c+1)=(l.length-m.length)*(c+1)+(c+1):=by
    rw[show l.length+1-m.length=(l.length-m.length)+1 by omega,Nat.succ_mul]
   omega
  ·rw[qy hl];exact⟨wG.refl _ _,by omega,tl,zl.mono (by omega)⟩
theorem TD{m a r d:List Rat}(h:wG m a r):(Dv d m/\Dv d r)↔(Dv d a/\Dv d m):=by
 obtain⟨c,s,c0,e⟩:=h;constructor;·rintro⟨⟨u,_,hu⟩,⟨v,_,hv⟩⟩;refine⟨⟨bq (· + ·) (b9 (1/c) v) (b9 (1/c) (cu s u)),cl _ _ _,fun x=> ?_⟩,⟨u,by assumption,hu⟩⟩;rw[lf,ez,ez,ee];have h1:=hu x;have h2:=hv x;have h3:=e x;grind
 ·rintro⟨⟨u,_,hu⟩,⟨v,_,hv⟩⟩;refine⟨⟨v,by assumption,hv⟩,⟨bq (· - ·) (b9 c u) (cu s v),cl _ _ _,fun x=> ?_⟩⟩;rw[jv,ez,ee];have h1:=hu x;have h2:=hv x;have h3:=e x;grind
def yO:Nat->List Rat->List Rat->List Rat
 |0,a,_=>a
 |n+1,a,b=>if b= [] then a else yO n b (fF a b)
def nw(a b:List Rat):List Rat:=yO (b.length+1) a b
theorem wH{a b:List Rat}(h:b≠ []):∀ n,a.length<n->(fF a b).length<b.length:=by
 have hp:=List.length_pos_iff.2 h;intro n;induction n generalizing a with
 |zero=>intro h;omega
 |succ n ih=>
  intro hn;by_cases hl:b.length<=a.length;·have h1:=kG (m:=b) (l:=a) (by omega);rw[<- oo hp hl];exact ih (by omega)
  ·rw[qy hl];omega
theorem wI:∀ (n k:Nat) (a b:List Rat),b.length<n->b.length<k->yO n a b=yO k a b
 |0,_,_,_,h,_=>absurd h (Nat.not_lt_zero _)
 |_,0,_,_,_,h=>absurd h (Nat.not_lt_zero _)
 |n+1,k+1,a,b,h1,h2=>by
  unfold yO;split;·rfl
  ·rename_i hb;have:=wH hb (a:=a) _ (Nat.lt_succ_self _);exact wI n k _ _ (by omega) (by omega)
theorem qz{a b:List Rat}(h:b≠ []):nw b (fF a b)=nw a b:=by
 have:=wH h (a:=a) _ (Nat.lt_succ_self _);unfold nw;conv=>rhs;unfold yO
 rw[if_neg h];exact wI _ _ _ _ (by omega) (by omega)
theorem Ee(a:List Rat):nw a []=a:=rfl
def RK:Nat:=450000
structure jF (a b:List Rat):Prop where
 ta:Trm a
 tb:Trm b
 la:a.length<=20
 lb:b.length<=20
 sz:∃ k,Zb k a/\Zb k b/\(k+1)*(a.length+1-b.length+1)*3^b.length<=RK
theorem jF.zk{a b:List Rat}(h:jF a b):Zb RK a/\Zb RK b:=by
 obtain⟨k,k1,k2,k3⟩:=h.sz;have h1:k+1<=(k+1)*(a.length+1-b.length+1)*3^b.length:=by
  rw[Nat.mul_assoc];exact Nat.le_mul_of_pos_right _ (Nat.mul_pos (by omega) (Nat.pow_pos (by decide)))
 exact⟨k1.mono (by omega),k2.mono (by omega)⟩
theorem jF.next{a b:List Rat}(h:jF a b)(hb:b≠ []):jF b (fF a b)/\wG b a (fF a b)/\(fF a b).length<b.length/\∃ k,Zb k a/\Zb k b/\k+(a.length+1-b.length)*(k+1)<=RK:=by
 obtain⟨k,k1,k2,k3⟩:=h.sz;obtain⟨r1,r2,r3,r4⟩:=rk hb h.tb k2 _ a k (Nat.lt_succ_self _) h.ta k1;have hbp:=List.length_pos_iff.2 hb;generalize fF a b=r at*;generalize hd:a.length+1-b.length=t at*;have e1:k+t*(k+1)+1=(k+1)*(t+1):=by rw[Nat.mul_comm t (k+1),Nat.mul_add,Nat.mul_one];omega
 have h3:1<=3^b.length:=Nat.pow_pos (by decide);have h4:k+t*(k+1)+1<=RK:=by
  rw[e1];exact Nat.le_trans (Nat.le_mul_of_pos_right _ h3) k3
 refine⟨⟨h.tb,r3,h.lb,by have:=h.lb;omega,k+t*(k+1),k2.mono (by omega),r4,?_⟩,r1,r2,k,k1,k2,by omega⟩;rw[e1];refine Nat.le_trans ?_ k3;rw[Nat.mul_assoc];refine Nat.mul_le_mul_left _ ?_;obtain⟨d,hd2⟩:∃ d,b.length=r.length+(d+1):=⟨b.length-r.length-1,by omega⟩;rw[hd2,Nat.pow_add,Nat.mul_comm (3^r.length)];refine Nat.mul_le_mul_right _ ?_;have:=pY d;omega
theorem PE:∀ (n:Nat) (a b:List Rat),b.length<n->jF a b->∀ d,Dv d (nw a b)↔(Dv d a/\Dv d b)
 |0,_,_,h,_=>absurd h (Nat.not_lt_zero _)
 |n+1,a,b,hn,h=>by
  intro d;by_cases hb:b= [];·subst hb;rw[Ee];exact⟨fun h=>⟨h,Dv.nil d⟩,fun h=>h.1⟩
  ·obtain⟨p1,p2,p3,_⟩:=h.next hb;rw[<- qz hb,PE n _ _ (by omega) p1 d];exact TD p2
theorem yP:∀ (n:Nat) (a b:List Rat),b.length<n->jF a b->Trm (nw a b)/\Zb RK (nw a b)/\(nw a b).length<=20/\((a≠ []∨b≠ [])->nw a b≠ [])
 |0,_,_,h,_=>absurd h (Nat.not_lt_zero _)
 |n+1,a,b,hn,h=>by
  by_cases hb:b= []
  ·subst hb;rw[Ee];exact⟨h.ta,h.zk.1,h.la,fun h=>h.resolve_right (fun e=>e rfl)⟩
  ·obtain⟨p1,p2,p3,_⟩:=h.next hb;obtain⟨q1,q2,q3,q4⟩:=yP n _ _ (by omega) p1;rw[qz hb] at q1 q2 q3 q4;exact⟨q1,q2,q3,fun _=>q4 (.inl hb)⟩
def wJ(l:List Rat):List Rat:=if l= [] then [] else b9 (1/aE l) l
theorem Sq{l:List Rat}(h:Trm l):wJ l=cC l:=by
 unfold wJ;by_cases h0:l= [];·subst h0;rfl
 ·rw[if_neg h0];exact iK (cG _) (eE h) fun x=>by rw[ez,vY];grind
def rl(p q:List Rat):List Rat:=wJ (nw (cj p) (cj q))
theorem Ef{d p:List Rat}(tp:Trm p):Dv d (cj p)↔Dv d p:=by
 by_cases h0:p= []
 ·subst h0;rfl
 have ht:=qw tp h0;constructor;·rintro⟨s,ts,h⟩;refine⟨b9 (1/fx p) s,cG _,fun x=> ?_⟩;have:=h x;rw[wF] at this;rw[ez];grind
 ·rintro⟨s,ts,h⟩;refine⟨b9 (fx p) s,cG _,fun x=> ?_⟩;have:=h x;rw[wF,ez];grind
theorem yQ{p q:List Rat}(hp:Sml 9 10 p)(hq:Sml 9 10 q):jF (cj p) (cj q):=by
 have h1:=hp.len;have h2:=hq.len;refine⟨qx hp.trm,qx hq.trm,by rw[fp];omega,by rw[fp];omega,10,uk hp.den hp.trm,uk hq.den hq.trm,?_⟩;rw[fp,fp];generalize p.length=m at*;generalize q.length=n at*;have key:∀ n,n<=9->∀ m,m<=9->(10+1)*(m+1-n+1)*3^n<=450000:=by decide
 exact key n h2 m h1
theorem PF{l:List Rat}(h:l≠ [])(t:Trm l):aE (cC l)=1:=by
 rw[k8 (List.length_pos_iff.2 h)];have:=t h;grind
theorem Sr{p q:List Rat}(hp:Sml 9 10 p)(hq:Sml 9 10 q):rl p q=cp p q:=by
 have hs:=yQ hp hq;obtain⟨t1,_,_,t4⟩:=yP _ _ _ (Nat.lt_succ_self _) hs;have hd:=PE _ _ _ (Nat.lt_succ_self _) hs;unfold rl;rw[Sq t1];by_cases h0:p= []/\q= [];·obtain⟨rfl,rfl⟩:=h0;rfl
 ·have h1:p≠ []∨q≠ []:=by
   by_cases hp0:p= []
   ·exact .inr fun e=>h0 ⟨hp0,e⟩
   ·exact .inl hp0
  have w:∀ {l:List Rat},l≠ []->cj l≠ []:=fun h e=>h (List.eq_nil_of_length_eq_zero (by rw[<- fp,e];rfl));have g0:=zA h1;have r0:nw (cj p) (cj q)≠ []:=t4 (h1.imp w w);generalize nw (cj p) (cj q)=r at*;have m0:cC r≠ []:=fun e=>r0 (mU.1 e);have both:∀ d,Dv d (cC r)↔Dv d (cp p q):=fun d=>by
   rw[wC t1,hd d,Ef hp.trm,Ef hq.trm,Si hp.trm hq.trm]
  exact Sj (eE t1) (wg hp.trm hq.trm) m0 g0 (PF r0 t1) (PA hp.trm hq.trm g0) ((both _).1 (Dv.refl _)) ((both _).2 (Dv.refl _))
def kH(q p:List Rat):List Rat:=bq (· - ·) p (dj (p.length-q.length) (b9 (aE p/aE q) q))
def wK(q p s:List Rat):List Rat:=bq (· + ·) s (dj (p.length-q.length) [aE p/aE q])
theorem Eg{q p:List Rat}(hl:q.length<=p.length):kH q p=aP (cA q p):=
 iK (cl _ _ _) (cG _) fun x=>by unfold kH;rw[jv,jB,ez,vZ hl];grind
theorem qA{q p:List Rat}(hl:q.length<=p.length)(hq:q≠ [])(tq:Trm q):(kH q p).length<p.length:=by
 have hp:=List.length_pos_iff.2 hq;rw[Eg hl];exact fb hp hl (tq hq)
def gP(q:List Rat):Nat->List Rat->List Rat->List Rat×List Rat
 |0,p,s=>(s,p)
 |n+1,p,s=>if q.length<=p.length then gP q n (kH q p) (wK q p s) else (s,p)
def cN(p q:List Rat):List Rat×List Rat:=gP q (p.length+1) p []
theorem rm{q:List Rat}(hq:q≠ [])(tq:Trm q):∀ (n k:Nat) (p s:List Rat),p.length<n->p.length<k->gP q n p s=gP q k p s
 |0,_,_,_,h,_=>absurd h (Nat.not_lt_zero _)
 |_,0,_,_,_,h=>absurd h (Nat.not_lt_zero _)
 |n+1,k+1,p,s,h1,h2=>by
  unfold gP;split;·rename_i hl;have:=qA hl hq tq;exact rm hq tq n k _ _ (by omega) (by omega)
  ·rfl
structure oq (q:List Rat) (c:Nat) (P:List Rat×List Rat) (p s:List Rat):Prop where
 tp:Trm p
 ts:Trm s
 lp:p.length<=20
 ls:s.length<=20
 sz:∃ b K,Den b p/\(∀ x∈s,lq x<=K)/\1<=K/\b+(p.length+1-q.length)*(c+1)<=100000/\K+(p.length+1-q.length)*100001<=3000000
 go:gP q (p.length+1) p s=P
theorem Gi{p q:List Rat}{b c:Nat}(tp:Trm p)(hp:p.length<=20)(dp:Den b p)(hb:b+(p.length+1-q.length)*(c+1)<=100000)(hq:q≠ []):oq q c (cN p q) p []:=by
 have h1:=List.length_pos_iff.2 hq;refine⟨tp,mR,hp,by simp,⟨b,1,dp,by simp,Nat.le_refl _,hb,?_⟩,rfl⟩;have:(p.length+1-q.length)*100001<=20*100001:=Nat.mul_le_mul_right _ (by omega);omega
theorem oq.sizes{q p s:List Rat}{c:Nat}{P:List Rat×List Rat}(h:oq q c P p s)(dq:Den c q)(hl:q.length<=p.length):(∀ x∈p,lq x<=100000)/\(∀ x∈q,lq x<=100000)/\lq (aE p/aE q)<=100000/\∀ x∈s,lq x<=3000000:=by
 obtain⟨b,K,h1,h2,h3,h4,h5⟩:=h.sz;have h6:c+1<=(p.length+1-q.length)*(c+1):=Nat.le_mul_of_pos_left _ (by omega);have lb:∀ {b:Nat} {l:List Rat},Den b l->lq (aE l)<=b:=by
  intro b l h;by_cases h0:l= [];·subst h0;show lq 0<=b;exact Nat.le_trans iX h.pos
  ·rw[bG (List.length_pos_iff.2 h0)];exact gL h.lq h.pos _
 have h7:=pS (aE p) (aE q);have h8:=lb h1;have h9:=lb dq;refine⟨fun x hx=>Nat.le_trans (h1.lq x hx) (by omega),fun x hx=>Nat.le_trans (dq.lq x hx) (by omega),by omega,fun x hx=>Nat.le_trans (h2 x hx) (by omega)⟩
theorem oq.next{q p s:List Rat}{c:Nat}{P:List Rat×List Rat}(h:oq q c P p s)(dq:Den c q)(hq:q≠ [])(tq:Trm q)(hl:q.length<=p.length):oq q c P (kH q p) (wK q p s)/\(kH q p).length<p.length:=by
 have hlen:=qA hl hq tq;obtain⟨s1,s2,s3,_⟩:=h.sizes dq hl;obtain⟨b,K,h1,h2,h3,h4,h5⟩:=h.sz;have hp:=List.length_pos_iff.2 hq;have lp:=h.lp;have ls:=h.ls;refine⟨⟨cl _ _ _,cl _ _ _,by omega,?_,⟨b+c+1,K+100000+1,?_,?_,by omega,?_,?_⟩,?_⟩,hlen⟩;·have h6:=eF (· + ·) s (dj (p.length-q.length) [aE p/aE q]);have h7:=ky (p.length-q.length) [aE p/aE q];rw[List.length_singleton] at h7;unfold wK;omega
 ·rw[Eg hl];exact oU h1 dq hl (tq hq) hp
 ·exact OH h3 (by omega) h2 (ml (by omega) fun x hx=>by rw[List.mem_singleton.1 hx];exact s3)
 ·have h6:((kH q p).length+1-q.length)*(c+1)<=(p.length-q.length)*(c+1):=Nat.mul_le_mul_right _ (by omega);have h7:(p.length+1-q.length)*(c+1)=(p.length-q.length)*(c+1)+(c+1):=by
   rw[show p.length+1-q.length=(p.length-q.length)+1 by omega,Nat.succ_mul]
  omega
 ·have h6:((kH q p).length+1-q.length)*100001<=(p.length-q.length)*100001:=Nat.mul_le_mul_right _ (by omega);omega
 ·rw[<- h.go];conv=>rhs;unfold gP
  rw[if_pos hl];exact rm hq tq _ _ _ _ (by omega) (by omega)
theorem oq.fin{q p s:List Rat}{c:Nat}{P:List Rat×List Rat}(h:oq q c P p s)(hl: ¬q.length<=p.length):P=(s,p):=by
 rw[<- h.go];unfold gP;rw[if_neg hl]
theorem yR{q:List Rat}(hq:q≠ [])(tq:Trm q)(x:Rat):∀ (n:Nat) (p s:List Rat),p.length<n->Trm p->Trm s->
  aF (gP q n p s).1 x*aF q x+aF (gP q n p s).2 x=aF s x*aF q x+aF p x/\(gP q n p s).2.length<q.length/\Trm (gP q n p s).1/\Trm (gP q n p s).2
 |0,_,_,h,_,_=>absurd h (Nat.not_lt_zero _)
 |n+1,p,s,h,tp,ts=>by
  unfold gP;split;·rename_i hl;have h1:=qA hl hq tq;obtain⟨h2,h3,h4,h5⟩:=yR hq tq x n (kH q p) (wK q p s) (by omega) (cl _ _ _) (cl _ _ _);refine⟨?_,h3,h4,h5⟩;rw[h2];unfold kH wK;rw[lf,jv,jB,jB,ez,k9];grind
  ·exact⟨rfl,Nat.lt_of_not_le (by assumption),ts,tp⟩
theorem Au{p q:List Rat}(tp:Trm p)(hq:q≠ [])(tq:Trm q):aP (divN p q).1=(cN p q).1/\(divN p q).2=(cN p q).2:=by
 have h:=fun x=>yR hq tq x (p.length+1) p [] (Nat.lt_succ_self _) tp mR;obtain⟨_,h2,h3,h4⟩:=h 0;refine q8 hq tp tq h3 h4 h2 fun x=> ?_;have:=(h x).1;rw[dv] at this;unfold cN;rw[this];grind
def GR(b:Nat)(p:List (List UInt8)):Prop:=txP (nl p)=p/\Sml 9 b (nl p)
theorem GR.gl{b K:Nat}{p:List (List UInt8)}(h:GR b p)(hb:b<=K):GL K p:=by
 rw[<- h.1];exact gR fun x hx=>Nat.le_trans (h.2.den.lq x hx) hb
theorem GR.len{b:Nat}{p:List (List UInt8)}(h:GR b p):p.length<=9:=by have:=h.2.len;rwa [gN] at this
theorem GR.mono{b c:Nat}{p:List (List UInt8)}(h:GR b p)(hc:b<=c):GR c p:=⟨h.1,h.2.len,h.2.trm,h.2.den.mono hc⟩
theorem Part.gr{p:List (List UInt8)}(h:Part p)(hc:bT p=0):GR 9 p:=by
 obtain⟨h1,h2,h3⟩:=h.sml hc;have e:nl p=bk p:=by rw[<- h1,bY];rw[h1]
 exact⟨by rw[e,h1],by rw[e];exact h3⟩
theorem np{r:List Rat}(h:r.length<=41):bO r=if gh r=true then 0 else 6:=by
 unfold bO;rw[if_neg (by omega),jh]
structure mz (a b:List (List UInt8)):Prop where
 ga:GR 9 a
 gb:GR 9 b
 fg:FL (txP (rl (nl a) (nl b)))
 tg:mn (cB cp a b) (cI cp a b) (txP (rl (nl a) (nl b)))=true
 two:b= []->dvE a b=2/\dvS a b= []/\dvR a b= []
 fs:b≠ []->FL (txP (cN (nl a) (nl b)).1)
 fr:b≠ []->FL (txP (cN (nl a) (nl b)).2)
 big:b≠ []->(List.all [txP (cN (nl a) (nl b)).1,txP (cN (nl a) (nl b)).2] fun p=>p.all iZ)=false->dvE a b=6/\dvS a b= []/\dvR a b= []
 ok:b≠ []->(List.all [txP (cN (nl a) (nl b)).1,txP (cN (nl a) (nl b)).2] fun p=>p.all iZ)=true->dvE a b=0/\dvS a b=txP (cN (nl a) (nl b)).1/\dvR a b=txP (cN (nl a) (nl b)).2
theorem PG{b c:Nat}{l m:List Rat}(hl:Sml 9 b l)(hm:Sml 9 c m)(h0:m≠ [])(hb:b+10*(c+1)<=100000):(cN l m).1.length<=20/\(cN l m).2.length<=9/\(∀ x∈(cN l m).1,lq x<=100000)/\∀ x∈(cN l m).2,lq x<=100000:=by
 obtain⟨e1,e2⟩:=Au hl.trm h0 hm.trm;have hll:=hl.len;have hml:=hm.len;have hmp:=List.length_pos_iff.2 h0;have hbb:b+(l.length+1-m.length)*(c+1)<=100000:=by
  have:(l.length+1-m.length)*(c+1)<=10*(c+1):=Nat.mul_le_mul_right _ (by omega);omega
 obtain⟨s1,s2⟩:=mS (K:=100000) hl.den hm.den h0 hm.trm hbb (by omega);have s3:=dF (p:=l) hmp (hm.trm h0);have s4:=ik l m;have s5:=dt (divN l m).1;rw[<- e1,<- e2];exact⟨by omega,by omega,fun x hx=>s1 x (gg x hx),s2.lq⟩
theorem LR{a b:List (List UInt8)}(ha:Part a)(hb:Part b)(h:bT a=0/\bT b=0):mz a b:=by
 obtain⟨t1,p1,s1⟩:=ha.sml h.1;obtain⟨t2,p2,s2⟩:=hb.sml h.2;have ga:=ha.gr h.1;have gb:=hb.gr h.2;generalize bk a=l at*;generalize bk b=m at*;subst t1;subst t2;have ll:=s1.len;have lm:=s2.len;have eg:rl l m=cp l m:=Sr ⟨s1.len,s1.trm,s1.den.mono (by omega)⟩ ⟨s2.len,s2.trm,s2.den.mono (by omega)⟩;obtain⟨_,k2,k3⟩:=rG s1 s2 p1 p2 (by decide);have gl:=B9 l m;have tg:=wg s1.trm s2.trm;have nt:∀ {l:List Rat},txP l= []->l= []:=fun {l} h=>List.eq_nil_of_length_eq_zero (by rw[<- aY,h];rfl);have fit:(List.all [txP (cN l m).1,txP (cN l m).2] fun p=>p.all iZ)=(gh (cN l m).1&&gh (cN l m).2):=by
  simp only[List.all_cons,List.all_nil,Bool.and_true,Co]
 have c0:=il p1 p2;have key:m≠ []->dvE (txP l) (txP m)=if bO (cN l m).1=0 then bO (cN l m).2 else bO (cN l m).1:=by
  intro h0;obtain⟨e1,e2⟩:=Au s1.trm h0 s2.trm;unfold dvE;rw[if_pos c0,p1.num,p2.num,if_neg h0,e1,e2,ij (by rw[<- e2];exact dQ s1.trm)]
 have two:∀ h0:m≠ [],aP (divN l m).1=(cN l m).1/\aP (divN l m).2=(cN l m).2:=by
  intro h0;obtain⟨e1,e2⟩:=Au s1.trm h0 s2.trm;exact⟨e1,by rw[<- e2];exact ij (dQ s1.trm)⟩
 have szs:=fun h0:m≠ []=>PG s1 s2 h0 (by decide);refine⟨ga,gb,?_,?_,?_,?_,?_,?_,?_⟩;·rw[bY,bY,eg];exact OP (K:=10000000) (by omega) (fun x hx=>Nat.le_trans (k3.lq x hx) (by decide)) (by decide)
 ·rw[bY,bY,eg];exact KN p1 p2 (ij tg) (by omega)
 ·intro e;rw[nt e];obtain⟨_,d1,d2,d3⟩:=B7 p1;exact⟨d1,d2,d3⟩
 ·intro e;rw[bY,bY];have h0:m≠ []:=fun e2=>e (by rw[e2];rfl);obtain⟨z1,z2,z3,z4⟩:=szs h0;exact OP (by omega) z3 (by decide)
 ·intro e;rw[bY,bY];have h0:m≠ []:=fun e2=>e (by rw[e2];rfl);obtain⟨z1,z2,z3,z4⟩:=szs h0;exact OP (by omega) z4 (by decide)
 ·intro e hf;rw[bY,bY,fit] at hf;have h0:m≠ []:=fun e2=>e (by rw[e2];rfl);obtain⟨z1,z2,z3,z4⟩:=szs h0;have k:=key h0;rw[np (by omega),np (by omega)] at k;have k6:dvE (txP l) (txP m)=6:=by
   rw[k];cases h1:gh (cN l m).1<;>cases h2:gh (cN l m).2<;>simp[h1,h2] at hf ⊢
  exact⟨k6,by unfold dvS;rw[if_neg (by rw[k6];decide)],by unfold dvR;rw[if_neg (by rw[k6];decide)]⟩
 ·intro e hf;rw[bY,bY,fit,Bool.and_eq_true] at hf;have h0:m≠ []:=fun e2=>e (by rw[e2];rfl);obtain⟨z1,z2,z3,z4⟩:=szs h0;have k:=key h0;have t1:=np (r:=(cN l m).1) (by omega);have t2:=np (r:=(cN l m).2) (by omega);rw[if_pos hf.1] at t1;rw[if_pos hf.2] at t2;rw[t1,t2,if_pos rfl] at k;obtain⟨w1,w2⟩:=two h0;refine⟨k,?_,?_⟩;·unfold dvS;rw[if_pos k,p1.num,p2.num,w1,bY,bY];unfold fe;rw[if_pos t1];rfl
  ·unfold dvR;rw[if_pos k,p1.num,p2.num,w2,bY,bY];unfold fe;rw[if_pos t2];rfl
theorem PH{a b:List (List UInt8)}(ha:Part a)(hb:Part b):bV ju cp a b:=by
 by_cases h:bT a=0/\bT b=0
 ·obtain⟨t1,p1,s1⟩:=ha.sml h.1;obtain⟨t2,p2,s2⟩:=hb.sml h.2;have:=(rG s1 s2 p1 p2 (by decide)).1;rwa [t1,t2] at this
 ·exact RI ha hb h
theorem PI{a b:List (List UInt8)}(ha:Part a)(hb:Part b):mi a b:=by
 by_cases h:bT a=0/\bT b=0
 ·obtain⟨t1,p1,s1⟩:=ha.sml h.1;obtain⟨t2,p2,s2⟩:=hb.sml h.2;have:=Oh s1 s2;rwa [t1,t2] at this
 ·exact⟨ha.short,hb.short,fun e=>by rw[o6 h] at e;exact absurd e (by decide)⟩
theorem Ss{a b:List (List UInt8)}(h: ¬ (bT a=0/\bT b=0)):dvE a b=40/\dvS a b= []/\dvR a b= []:=by
 have e:=o6 h;have k:dvE a b=40:=by unfold dvE;rw[if_neg (by rw[e];decide),e]
 exact⟨k,by unfold dvS;rw[if_neg (by rw[k];decide)],by unfold dvR;rw[if_neg (by rw[k];decide)]⟩
theorem I5{p:List (List UInt8)}(h:FL p):p.length<=QL:=Nat.le_trans h.1 (by unfold QL;decide)
theorem mz.fm{a b:List (List UInt8)}(h:mz a b)(hb:b≠ []):List.length [txP (cN (nl a) (nl b)).1,txP (cN (nl a) (nl b)).2]<=1000/\∀ p∈ [txP (cN (nl a) (nl b)).1,txP (cN (nl a) (nl b)).2],FL p:=by
 refine⟨by simp,fun p hp=> ?_⟩;rcases List.mem_cons.1 hp with rfl|hp;·exact h.fs hb
 ·rw[List.mem_singleton.1 hp];exact h.fr hb
theorem wL(f g:Nat->Rat):∀ n,fS (fun k=>f k+g k) n=fS f n+fS g n
 |0=>by simp only[fS];grind
 |n+1=>by rw[fS,fS,fS,wL f g n];grind
theorem wM(f:Nat->Rat):∀ n,fS f (n+1)=f 0+fS (fun i=>f (i+1)) n
 |0=>by simp only[fS];grind
 |n+1=>by rw[fS,wM f n,fS];grind
theorem Gj(f:Nat->Rat)(x:Rat):∀ n,aF ((List.range n).map f) x=fS (fun i=>f i*x^i) n
 |0=>rfl
 |n+1=>by rw[ld,Gj f x n,fS]
def Gk(l:List Rat)(x:Rat)(n:Nat):Rat:=fS (fun i=>cf l (i+1)*((i+1:Nat):Rat)*x^i) n
theorem lA(l:List Rat)(x:Rat){n:Nat}(hn:l.length<=n+1):aF (bS l) x=Gk l x n:=by
 have e:bS l=(List.range (l.length-1)).map fun i=>cf l (i+1)*((i+1:Nat):Rat):=by
  unfold bS nu;refine List.map_congr_left fun i _=> ?_;rw[Rat.divInt_eq_div,Rat.intCast_natCast,show ((1:Int):Rat)=1 from rfl];grind
 rw[e,Gj];exact(yL _ _ (by omega) fun i hi=>by rw[bH (by omega)];grind).symm
theorem I6{l m:List Rat}(h:∀ x,aF l x=aF m x)(x:Rat):aF (bS l) x=aF (bS m) x:=by
 have e:aP l=aP m:=iK (cG _) (cG _) fun x=>by rw[ec,ec,h]
 have hc:∀ i,cf l i=cf m i:=fun i=>by rw[<- eP l,<- eP m,e]
 rw[lA l x (n:=max l.length m.length) (by omega),lA m x (n:=max l.length m.length) (by omega)];unfold Gk;exact im _ fun i _=>by rw[hc]
theorem TE(a b:List Rat)(i:Nat):cf (bq (· + ·) a b) i=cf a i+cf b i:=by
 unfold bq;rw[eP];by_cases hi:i<max a.length b.length;·exact ig _ _ _ _ _ hi
 ·rw[bH (by rw[dn];omega),bH (l:=a) (by omega),bH (l:=b) (by omega)];grind
theorem Su(a b:List Rat)(x:Rat):aF (bS (bq (· + ·) a b)) x=aF (bS a) x+aF (bS b) x:=by
 have hl:=eF (· + ·) a b;rw[lA _ x (n:=max a.length b.length) (by omega),lA a x (n:=max a.length b.length) (by omega),lA b x (n:=max a.length b.length) (by omega)];unfold Gk;rw[<- wL];exact im _ fun i _=>by rw[TE];grind
theorem LS(c:Rat)(a:List Rat)(x:Rat):aF (bS (a.map fun y=>y*c)) x=aF (bS a) x*c:=by
 rw[lA _ x (n:=a.length) (by rw[List.length_map];omega),lA a x (n:=a.length) (by omega)];unfold Gk;rw[Rat.mul_comm,<- wB];exact im _ fun i _=>by rw[pj];grind
theorem Eh(c:Rat)(l:List Rat)(x:Rat):aF (bS (c::l)) x=aF l x+x*aF (bS l) x:=by
 rw[lA (c::l) x (n:=l.length) (by simp)];have e0:∀ i,cf (c::l) (i+1)=cf l i:=fun i=>by simp[cf]
 have h1:Gk (c::l) x l.length=fS (fun i=>cf l i*x^i) l.length+fS (fun i=>cf l i*(i:Rat)*x^i) l.length:=by
  unfold Gk;rw[<- wL];refine im _ fun i _=> ?_;rw[e0];have:((i+1:Nat):Rat)=(i:Rat)+1:=by simp
  rw[this];grind
 rw[h1,<- Gj (cf l) x,mf l x _ (Nat.le_refl _)];congr 1;cases hl:l.length with
 |zero=>
  rw[List.eq_nil_of_length_eq_zero hl,fS,show bS []= [] from rfl,dv];grind
 |succ m=>
  rw[wM,lA l x (n:=m) (by omega)];unfold Gk;rw[<- wB];have h0:cf l 0*((0:Nat):Rat)*x^0=0:=by simp
  rw[h0,Rat.zero_add];exact im _ fun i _=>by rw[Rat.pow_succ];grind
theorem Sv(a b:List Rat)(x:Rat):aF (bS (cu a b)) x=aF (bS a) x*aF b x+aF a x*aF (bS b) x:=by
 induction a with
 |nil=>rw[fR,show bS []= [] from rfl,dv];grind
 |cons c a ih=>
  have h1:∀ z,aF (cu (c::a) b) z=aF (bq (· + ·) (0::cu a b) (b.map fun y=>y*c)) z:=fun z=>by
   rw[ee,eO,lf,eO,ee,pk];grind
  rw[I6 h1 x,Su,Eh,LS,ih,ee,Eh,eO];grind
theorem Ei{m a b:List Rat}(h:∀ x,aF m x=aF a x*aF b x)(x:Rat):aF (bS m) x=aF (bS a) x*aF b x+aF a x*aF (bS b) x:=by
 rw[I6 (m:=cu a b) (fun z=>by rw[ee];exact h z) x,Sv]
theorem Dv.of{d p:List Rat}(s:List Rat)(h:∀ x,aF d x*aF s x=aF p x):Dv d p:=⟨aP s,cG _,fun x=>by rw[ec];exact h x⟩
def Cop(a b:List Rat):Prop:=∃ u v:List Rat,∀ x,aF a x*aF u x+aF b x*aF v x=1
theorem Cop.symm{a b:List Rat}(h:Cop a b):Cop b a:=by
 obtain⟨u,v,h⟩:=h;exact⟨v,u,fun x=>by have:=h x;grind⟩
theorem Cop.left{a b d:List Rat}(h:Cop a b)(hd:Dv d a):Cop d b:=by
 obtain⟨u,v,h⟩:=h;obtain⟨s,_,hs⟩:=hd;exact⟨cu s u,v,fun x=>by rw[ee];have:=h x;have:=hs x;grind⟩
theorem Dv.add{d a b m:List Rat}(ha:Dv d a)(hb:Dv d b)(hm:∀ x,aF m x=aF a x+aF b x):Dv d m:=by
 obtain⟨s,_,hs⟩:=ha;obtain⟨t,_,ht⟩:=hb;exact Dv.of (bq (· + ·) s t) fun x=>by rw[lf,hm];have:=hs x;have:=ht x;grind
theorem Dv.sub{d a b m:List Rat}(ha:Dv d a)(hb:Dv d b)(hm:∀ x,aF m x=aF a x-aF b x):Dv d m:=by
 obtain⟨s,_,hs⟩:=ha;obtain⟨t,_,ht⟩:=hb;exact Dv.of (bq (· - ·) s t) fun x=>by rw[jv,hm];have:=hs x;have:=ht x;grind
theorem Dv.mul{d a b m:List Rat}(ha:Dv d a)(hm:∀ x,aF m x=aF a x*aF b x):Dv d m:=by
 obtain⟨s,_,hs⟩:=ha;exact Dv.of (cu s b) fun x=>by rw[ee,hm];have:=hs x;grind
structure I7 (f s g t:List Rat):Prop where
 tf:Trm f
 f0:f≠ []
 ts:Trm s
 tg:Trm g
 g0:g≠ []
 fs:∀ x,aF f x=aF s x*aF g x
 ft:∀ x,aF (bS f) x=aF g x*aF t x
 cop:Cop s t
theorem I7.s0{f s g t:List Rat}(h:I7 f s g t):s≠ []:=by
 rintro rfl;exact h.f0 (Hl h.tf fun x=>by rw[h.fs,dv];grind)
theorem I7.key{f s g t:List Rat}(h:I7 f s g t)(x:Rat):aF s x*aF (bS g) x=aF g x*(aF t x-aF (bS s) x):=by
 have h1:=Ei h.fs x;rw[h.ft] at h1;grind
def WhR(p:List (List UInt8)):Prop:=txP (nl p)=p/\p.length<=20/\Trm (nl p)/\Den RK (nl p)
def TF(p:List (List UInt8)):Prop:=txP (nl p)=p/\p.length<=20/\Trm (nl p)/\∀ x∈nl p,lq x<=RK
structure PJ (l m:List Rat):Prop where
 la:l.length<=20
 lb:m.length<=20
 ta:Trm l
 tb:Trm m
 b0:m≠ []
 sz:∃ k,Zb k l/\Zb k m/\k+(l.length+1-m.length)*(k+1)<=RK
def PK(p q:List (List UInt8)):Prop:=txP (nl p)=p/\txP (nl q)=q/\PJ (nl p) (nl q)
structure mA (m T:List Rat) (c:Nat) (l:List Rat):Prop where
 ta:Trm l
 la:l.length<=20
 sz:∃ b,Zb b l/\b+(l.length+1-m.length)*(c+1)<=RK
 go:fF l m=T
theorem mA.next{m T l:List Rat}{c:Nat}(h:mA m T c l)(hm:m≠ [])(zm:Zb c m)(hl:m.length<=l.length):mA m T c (iE m l)/\(iE m l).length<l.length/\Zb RK (aP (dR m l (l.length-1))):=by
 have hp:=List.length_pos_iff.2 hm;have hlen:=kG (m:=m) (l:=l) (by omega);obtain⟨b,b1,b2⟩:=h.sz;have h3:(l.length+1-m.length)*(c+1)=(l.length-m.length)*(c+1)+(c+1):=by
  rw[show l.length+1-m.length=(l.length-m.length)+1 by omega,Nat.succ_mul]
 have h2:((iE m l).length+1-m.length)*(c+1)<=(l.length-m.length)*(c+1):=Nat.mul_le_mul_right _ (by omega);refine⟨⟨yN _ _,by have:=h.la;omega,⟨b+c+1,I4 b1 zm,by omega⟩,by rw[oo hp hl,h.go]⟩,hlen,(I2 (At b1 zm _)).mono (by omega)⟩
theorem Gl{l m:List Rat}(h:PJ l m):∃ c,Zb c m/\c<=RK/\mA m (fF l m) c l:=by
 obtain⟨k,k1,k2,k3⟩:=h.sz;exact⟨k,k2,by omega,h.ta,h.la,⟨k,k1,k3⟩,rfl⟩
theorem Sw{p q:List (List UInt8)}(h:PK p q):∃ l m,p=txP l/\q=txP m/\PJ l m:=⟨nl p,nl q,h.1.symm,h.2.1.symm,h.2.2⟩
theorem TG{b:List Rat}(h:(0:Int)<(((txP b).length:Nat):Int)):b≠ []:=by
 rintro rfl;simp[txP] at h
theorem TH{b:List Rat}(h: ¬ (0:Int)<(((txP b).length:Nat):Int)):b= []:=by
 rw[aY] at h;exact List.eq_nil_of_length_eq_zero (by omega)
theorem PL{m y:List Rat}(h:(((txP m).length:Nat):Int)<=(((txP y).length:Nat):Int)):m.length<=y.length:=by
 rw[aY,aY] at h;omega
theorem PM{m y:List Rat}(h: ¬ (((txP m).length:Nat):Int)<=(((txP y).length:Nat):Int)): ¬m.length<=y.length:=by
 rw[aY,aY] at h;omega
structure UF (b c:Nat) (l m:List Rat):Prop where
 la:l.length<=20
 lb:m.length<=20
 ta:Trm l
 tb:Trm m
 b0:m≠ []
 da:Den b l
 db:Den c m
 sz:b+(l.length+1-m.length)*(c+1)<=100000
def PN(p q:List (List UInt8)):Prop:=txP (nl p)=p/\txP (nl q)=q/\∃ b c,UF b c (nl p) (nl q)
theorem Sx{p q:List (List UInt8)}(h:PN p q):∃ l m c,p=txP l/\q=txP m/\oq m c (cN l m) l []/\Den c m/\Trm m/\m≠ []/\m.length<=20:=by
 obtain⟨h1,h2,b,c,h3⟩:=h;exact⟨nl p,nl q,c,h1.symm,h2.symm,Gi h3.ta h3.la h3.da h3.sz h3.b0,h3.db,h3.tb,h3.b0,h3.lb⟩
theorem Uo{p:List (List UInt8)}(h:WhR p):∃ l,p=txP l/\l.length<=20/\Trm l/\Den RK l:=⟨nl p,h.1.symm,by rw[gN];exact h.2.1,h.2.2⟩
theorem PO(l:List Rat): [49]=Lib.itoa ((ef l 0:Nat):Int)/\ [48]=Lib.itoa ((fh l 0:Nat):Int)/\(0:Int)=((0:Nat):Int):=⟨by show _=Lib.itoa ((1:Nat):Int);decide+kernel,by show _=Lib.itoa ((0:Nat):Int);decide+kernel,rfl⟩
theorem fy{v:Int}{n:Nat}(h:lw v<=1000000)(hn:10000000<=n):RS n (Lib.itoa v):=(wk h).mono' (by omega)
theorem Ej{l:List Rat}{k:Nat}(hk:k<l.length):tN (nth .str (txP l) (k:Int))=Lib.itoa (cf l k).num/\tD (nth .str (txP l) (k:Int))=Lib.itoa ((cf l k).den:Int):=by
 rw[oc hk];obtain⟨h1,h2,_⟩:=ff (cf l k);exact⟨h1,h2⟩
theorem Ek{l:List Rat}(hd:Den RK l)(k:Nat):lw (ef l k:Int)<=1000000/\lw (fh l k:Int)<=1000000/\lw (cf l k).num<=1000000/\lw ((cf l k).den:Int)<=1000000:=by
 have e:RK=450000:=rfl;have h1:=Sn hd k;have h2:=I1 hd.lq k;have h3:=gL hd.lq hd.pos k;have h4:=dN (cf l k);have h5:=dO (cf l k);omega
theorem Up{l:List Rat}(hd:Den RK l)(k:Nat):lw (cg (ef l k:Int) ((cf l k).den:Int))<=1000000/\cg (ef l k:Int) ((cf l k).den:Int)≠0:=by
 have hne:((cf l k).den:Int)≠0:=by have:=(cf l k).den_nz;omega
 exact⟨Nat.le_trans (gH (oS hne)) (Ek hd k).2.2.2,by have:=vD (n:=(ef l k:Int)) hne;omega⟩
theorem PP{l:List Rat}(hd:Den RK l){k:Nat}(hk:k<l.length):(0<=(k:Int)/\(k:Int)<((List.length (txP l):Nat):Int))/\(nth Ty.str (txP l) (k:Int)).length<=QL:=by
 rw[aY,oc hk];have h3:=kx (gL hd.lq hd.pos k);have e:RK=450000:=rfl;exact⟨by omega,by unfold QL;omega⟩
theorem PQ{l:List Rat}(hd:Den RK l){k:Nat}(hk:k<l.length):(RS 1000000000 (Lib.itoa (ef l k:Int))/\RS 1000000000 (tD (nth Ty.str (txP l) (k:Int))))/\RS 1000000000 (tD (nth Ty.str (txP l) (k:Int)))/\
  RS 1000000000 (Lib.itoa (cg (al (Lib.itoa (ef l k:Int))) (al (tD (nth Ty.str (txP l) (k:Int))))))/\al (Lib.itoa (cg (al (Lib.itoa (ef l k:Int))) (al (tD (nth Ty.str (txP l) (k:Int))))))≠0:=by
 obtain⟨h1,h2,h3,h4⟩:=Ek hd k;obtain⟨g1,g2⟩:=Up hd k;rw[(Ej hk).2,(aJ _).2,(aJ _).2,(aJ _).2];exact⟨⟨fy h1 (by decide),fy h4 (by decide)⟩,fy h4 (by decide),fy g1 (by decide),g2⟩
theorem PR{l:List Rat}(hd:Den RK l){k:Nat}(hk:k<l.length):RS 20000000000 (Lib.itoa (ef l k:Int))/\RS 20000000000 (Lib.itoa (bN (al (tD (nth Ty.str (txP l) (k:Int)))) (al (Lib.itoa (cg (al (Lib.itoa (ef l k:Int))) (al (tD (nth Ty.str (txP l) (k:Int))))))))):=by
 obtain⟨h1,h2,h3,h4⟩:=Ek hd k;obtain⟨g1,g2⟩:=Up hd k;rw[(Ej hk).2,(aJ _).2,(aJ _).2,(aJ _).2];exact⟨fy h1 (by decide),fy (Nat.le_trans (gH (mP g2).1) h4) (by decide)⟩
theorem PS{l:List Rat}(hd:Den RK l){k:Nat}(hk:k<l.length):RS 1000000000 (Lib.itoa (fh l k:Int))/\RS 1000000000 (tN (nth Ty.str (txP l) (k:Int))):=by
 obtain⟨h1,h2,h3,h4⟩:=Ek hd k;rw[(Ej hk).1];exact⟨fy h2 (by decide),fy h3 (by decide)⟩
theorem LU{l:List Rat}{k:Nat}(hl:l.length<=20)(hk:k<l.length):∃ z:Nat,Lib.itoa (al (Lib.itoa (ef l k:Int))*al (Lib.itoa (bN (al (tD (nth Ty.str (txP l) (k:Int)))) (al (Lib.itoa (cg (al (Lib.itoa (ef l k:Int))) (al (tD (nth Ty.str (txP l) (k:Int))))))))))=Lib.itoa (ef l z:Int)/\
  Lib.itoa (cg (al (Lib.itoa (fh l k:Int))) (al (tN (nth Ty.str (txP l) (k:Int)))))=Lib.itoa (fh l z:Int)/\IntKind.i64.wrap ((k:Int)+1)=(z:Int)/\z<=l.length/\l.length-z<l.length-k:=by
 refine⟨k+1,?_,?_,wo,hk,by omega⟩;·rw[(Ej hk).2,(aJ _).2,(aJ _).2,(aJ _).2,(aJ _).2,LO]
 ·rw[(Ej hk).1,(aJ _).2,(aJ _).2,LP]
theorem TI{l:List Rat}{k:Nat}(g:k<=l.length)(hk: ¬k<l.length):Lib.itoa (ef l k:Int)=Lib.itoa (ef l l.length:Int)/\Lib.itoa (fh l k:Int)=Lib.itoa (fh l l.length:Int)/\(0:Int)=((0:Nat):Int)/\64<ioB/\txP []= []:=by
 rw[show k=l.length by omega];exact⟨rfl,rfl,rfl,by unfold ioB;omega,rfl⟩
theorem PT{l:List Rat}:Rat.divInt (al (Lib.itoa (ef l l.length:Int))) (al (Lib.itoa (fh l l.length:Int)))=fx l:=by
 rw[(aJ _).2,(aJ _).2];rfl
theorem LW{l:List Rat}(ht:Trm l)(hd:Den RK l){j:Nat}(hj:j<l.length):(0<=(j:Int)/\(j:Int)<((List.length (txP l):Nat):Int))/\MkR (Lib.itoa (ef l l.length:Int)) (Lib.itoa (fh l l.length:Int))/\
  (GQ QK (nth Ty.str (txP l) (j:Int))/\GQ QK (aU (Rat.divInt (al (Lib.itoa (ef l l.length:Int))) (al (Lib.itoa (fh l l.length:Int))))))/\
  (aU (bm (nth Ty.str (txP l) (j:Int))*bm (aU (Rat.divInt (al (Lib.itoa (ef l l.length:Int))) (al (Lib.itoa (fh l l.length:Int))))))).length<=QL:=by
 have l0:l≠ []:=by rintro rfl;simp at hj
 have hc:=wE ht l0;obtain⟨h1,h2,_,_⟩:=Ek hd l.length;have h3:=gL hd.lq hd.pos j;have e:RK=450000:=rfl;have e2:QK=10000000:=rfl;have e3:QL=1000000000:=rfl;have h4:lq (fx l)<=1000000:=by
  have:=l7 (ef l l.length:Int) (fh l l.length:Int) (by omega);unfold fx;omega
 have h5:=l8 (cf l j) (fx l);have h6:=kx (x:=cf l j*fx l) (k:=2000000) (by omega);rw[PT,oc hj,bP,bP,aY];exact⟨by omega,⟨fy h1 (by decide),fy h2 (by decide),by rw[(aJ _).2];omega⟩,⟨dC (by omega),dC (by omega)⟩,by omega⟩
theorem LX{l:List Rat}(hl:l.length<=20)(ht:Trm l)(hd:Den RK l){j:Nat}(hj:j<l.length):∃ z:Nat,IntKind.i64.wrap ((j:Int)+1)=(z:Int)/\txP (List.take j (cj l))++ [tN (aU (bm (nth Ty.str (txP l) (j:Int))*bm (aU (Rat.divInt (al (Lib.itoa (ef l l.length:Int))) (al (Lib.itoa (fh l l.length:Int)))))))]=txP (List.take z (cj l))/\z<=l.length/\l.length-z<l.length-j:=by
 refine⟨j+1,wo,?_,hj,by omega⟩;have hz:=uk hd ht;have hjw:j<(cj l).length:=by rw[fp];exact hj
 rw[PT,oc hj,bP,bP,List.take_succ_eq_append_getElem hjw,mj,(ff _).1];have e:(cj l)[j]=cf l j*fx l:=by
  have:=pj (fx l) l j;rw[<- this];show _=cf (cj l) j;unfold cf;rw[List.getD_eq_getElem?_getD,List.getElem?_eq_getElem hjw];rfl
 rw[<- e];have h1:=hz.one _ (List.getElem_mem hjw);congr 2;unfold aU;rw[if_pos h1]
theorem TJ{l:List Rat}{j:Nat}(hj: ¬j<l.length):txP (List.take j (cj l))=txP (cj l):=by
 rw[List.take_of_length_le (by rw[fp];omega)]
theorem Gm{l:List Rat}(hl:l.length<=20)(j:Nat):Cm.Roomy 1 ((txP (List.take j (cj l))).length+1):=lj (by rw[aY,List.length_take,fp];omega)
theorem TK{p:List (List UInt8)}(h:TF p):∃ l,p=txP l/\l.length<=20/\Trm l/\∀ x∈l,lq x<=RK:=⟨nl p,h.1.symm,by rw[gN];exact h.2.1,h.2.2⟩
theorem one_num:bm [49]=1:=by decide+kernel
theorem TL:GQ QK [49]:=by
 have h:aU 1= [49]:=by decide+kernel
 rw[<- h];exact dC (by unfold lq QK;show max (lw 1) (lw 1)<=_;rw[kX];decide)
theorem LY{l:List Rat}(hl:l.length<=20)(ht:Trm l)(hK:∀ x∈l,lq x<=RK)(h0:l≠ []):(0<=IntKind.i64.wrap (((List.length (txP l):Nat):Int)-1)/\IntKind.i64.wrap (((List.length (txP l):Nat):Int)-1)<((List.length (txP l):Nat):Int))/\
  (GQ QK [49]/\GQ QK (nth Ty.str (txP l) (IntKind.i64.wrap (((List.length (txP l):Nat):Int)-1)))/\bm (nth Ty.str (txP l) (IntKind.i64.wrap (((List.length (txP l):Nat):Int)-1)))≠0)/\
  GQ QK2 (aU (bm [49]/bm (nth Ty.str (txP l) (IntKind.i64.wrap (((List.length (txP l):Nat):Int)-1)))))/\GL QK2 (txP l)/\(txP l).length<=1000000:=by
 have hp:=List.length_pos_iff.2 h0;have e:RK=450000:=rfl;have e2:QK=10000000:=rfl;have e3:QK2=4000000:=rfl;have h1:lq (aE l)<=RK:=by rw[bG hp];exact gL hK (by omega) _
 have h2:=pS 1 (aE l);have h3:lq (1:Rat)=1:=by unfold lq;show max (lw 1) (lw 1)=1;rw[kX];decide
 rw[aY,jZ hp (by omega),bP,one_num,bW (by omega)];exact⟨by omega,⟨TL,dC (by omega),ht h0⟩,dC (by omega),gR fun x hx=>by have:=hK x hx;omega,by omega⟩
theorem PU{l:List Rat}(hl:l.length<=20)(h0:l≠ []):txP (b9 (bm (aU (bm [49]/bm (nth Ty.str (txP l) (IntKind.i64.wrap (((List.length (txP l):Nat):Int)-1)))))) l)=txP (wJ l):=by
 rw[aY,jZ (List.length_pos_iff.2 h0) (by omega),bP,bP,one_num];unfold wJ;rw[if_neg h0]
theorem LZ{p:List (List UInt8)}(hl:p.length<=1000){k:Nat}(hk:k<p.length):(0<=(k:Int)/\(k:Int)<((List.length p:Nat):Int))/\Cm.Roomy 1 ((List.take k p).length+1):=⟨by omega,lj (by rw[List.length_take];omega)⟩
theorem Gn{p:List (List UInt8)}(hl:p.length<=1000){k:Nat}(hk:k<p.length):∃ z:Nat,IntKind.i64.wrap ((k:Int)+1)=(z:Int)/\List.take k p++ [nth Ty.str p (k:Int)]=List.take z p/\z<=p.length/\p.length-z<p.length-k:=by
 refine⟨k+1,wo,?_,hk,by omega⟩;rw[ea (t:= .str) hk,List.take_succ_eq_append_getElem hk]
theorem Av{y m:List Rat}(hly:y.length<=20)(hl:m.length<=y.length)(hm:0<m.length):IntKind.i64.wrap (((List.length (txP y):Nat):Int)-1)=((y.length-1:Nat):Int):=by
 rw[aY,bW (by omega)];omega
theorem UG{y m:List Rat}{j:Nat}(hly:y.length<=20)(hl:m.length<=y.length)(hm:0<m.length)(h:(j:Int)<IntKind.i64.wrap (((List.length (txP y):Nat):Int)-1)):j<y.length-1:=by
 rw[Av hly hl hm] at h;omega
theorem UH{y m:List Rat}{j:Nat}(hly:y.length<=20)(hl:m.length<=y.length)(hm:0<m.length)(h: ¬ (j:Int)<IntKind.i64.wrap (((List.length (txP y):Nat):Int)-1)): ¬j<y.length-1:=by
 rw[Av hly hl hm] at h;omega
theorem iN{b:Nat}{l:List Rat}(h:Zb b l){k:Nat}(hk:k<l.length):∃ n:Int,lw n<=b/\cf l k=(n:Rat)/\nth Ty.str (txP l) (k:Int)=Lib.itoa n:=by
 obtain⟨n,h1,h2⟩:=h k;exact⟨n,h1,h2,by rw[oc hk,h2,jA]⟩
theorem mA.z{m T l:List Rat}{c:Nat}(h:mA m T c l):Zb RK l:=by
 obtain⟨b,b1,b2⟩:=h.sz;exact b1.mono (by omega)
theorem El{y m:List Rat}(hly:y.length<=20)(hl:m.length<=y.length):IntKind.i64.wrap (((List.length (txP y):Nat):Int)-((List.length (txP m):Nat):Int))=((y.length-m.length:Nat):Int)/\(0:Int)=((0:Nat):Int)/\59<ioB/\txP (dR m y 0)= []:=by
 rw[aY,aY,wo];exact⟨by omega,rfl,by unfold ioB;omega,rfl⟩
theorem Em{k n:Nat}(h:k<=20)(hn:n<=k):IntKind.i64.wrap ((k:Int)-(n:Int))=((k-n:Nat):Int):=by
 rw[wo];omega
theorem ji{l:List Rat}(h:0<l.length)(hl:l.length<=20):IntKind.i64.wrap (((List.length (txP l):Nat):Int)-1)=((l.length-1:Nat):Int):=Av hl (m:=l) (Nat.le_refl _) h
theorem PV{y m:List Rat}{j:Nat}(zy:Zb RK y)(zm:Zb RK m)(hly:y.length<=20)(hl:m.length<=y.length)(hm:0<m.length)(hj:j<y.length-1):(0<=(j:Int)/\(j:Int)<((List.length (txP y):Nat):Int))/\
  (0<=IntKind.i64.wrap (((List.length (txP m):Nat):Int)-1)/\IntKind.i64.wrap (((List.length (txP m):Nat):Int)-1)<((List.length (txP m):Nat):Int))/\
  RS 20000000000 (nth Ty.str (txP y) (j:Int))/\RS 20000000000 (nth Ty.str (txP m) (IntKind.i64.wrap (((List.length (txP m):Nat):Int)-1))):=by
 rw[ji hm (by omega),aY,aY];obtain⟨a,a1,_,a3⟩:=iN zy (k:=j) (by omega);obtain⟨b,b1,_,b3⟩:=iN zm (k:=m.length-1) (by omega);have e:RK=450000:=rfl;rw[a3,b3];exact⟨by omega,by omega,fy (by omega) (by decide),fy (by omega) (by decide)⟩
theorem PW{y m:List Rat}{j:Nat}(zy:Zb RK y)(zm:Zb RK m)(hly:y.length<=20)(hl:m.length<=y.length)(hm:0<m.length)(hj:j<y.length-1)(hk:y.length-m.length<=j):(0<=IntKind.i64.wrap (((List.length (txP y):Nat):Int)-1)/\IntKind.i64.wrap (((List.length (txP y):Nat):Int)-1)<((List.length (txP y):Nat):Int))/\
  (0<=IntKind.i64.wrap ((j:Int)-((y.length-m.length:Nat):Int))/\IntKind.i64.wrap ((j:Int)-((y.length-m.length:Nat):Int))<((List.length (txP m):Nat):Int))/\
  (RS 20000000000 (nth Ty.str (txP y) (IntKind.i64.wrap (((List.length (txP y):Nat):Int)-1)))/\RS 20000000000 (nth Ty.str (txP m) (IntKind.i64.wrap ((j:Int)-((y.length-m.length:Nat):Int)))))/\
  RS 10000000000 (Lib.itoa (al (nth Ty.str (txP y) (j:Int))*al (nth Ty.str (txP m) (IntKind.i64.wrap (((List.length (txP m):Nat):Int)-1)))))/\
  RS 10000000000 (Lib.itoa (al (nth Ty.str (txP y) (IntKind.i64.wrap (((List.length (txP y):Nat):Int)-1)))*al (nth Ty.str (txP m) (IntKind.i64.wrap ((j:Int)-((y.length-m.length:Nat):Int)))))):=by
 rw[ji hm (by omega),ji (l:=y) (by omega) hly,Em (by omega) hk,aY,aY];obtain⟨a,a1,_,a3⟩:=iN zy (k:=j) (by omega);obtain⟨b,b1,_,b3⟩:=iN zm (k:=m.length-1) (by omega);obtain⟨c,c1,_,c3⟩:=iN zy (k:=y.length-1) (by omega);obtain⟨d,d1,_,d3⟩:=iN zm (k:=j-(y.length-m.length)) (by omega);have e:RK=450000:=rfl;have h1:=bZ a b;have h2:=bZ c d;rw[a3,b3,c3,d3,(aJ _).2,(aJ _).2,(aJ _).2,(aJ _).2];exact⟨by omega,by omega,⟨fy (by omega) (by decide),fy (by omega) (by decide)⟩,fy (by omega) (by decide),fy (by omega) (by decide)⟩
theorem I9{y m:List Rat}{j:Nat}(zy:Zb RK y)(zm:Zb RK m)(hly:y.length<=20)(hl:m.length<=y.length)(hm:0<m.length)(hj:j<y.length-1)(hk:y.length-m.length<=j):
  Lib.itoa (al (Lib.itoa (al (nth Ty.str (txP y) (j:Int))*al (nth Ty.str (txP m) (IntKind.i64.wrap (((List.length (txP m):Nat):Int)-1)))))-al (Lib.itoa (al (nth Ty.str (txP y) (IntKind.i64.wrap (((List.length (txP y):Nat):Int)-1)))*al (nth Ty.str (txP m) (IntKind.i64.wrap ((j:Int)-((y.length-m.length:Nat):Int)))))))=aU (mw m y j):=by
 rw[ji hm (by omega),ji (l:=y) (by omega) hly,Em (by omega) hk];obtain⟨a,_,a2,a3⟩:=iN zy (k:=j) (by omega);obtain⟨b,_,b2,b3⟩:=iN zm (k:=m.length-1) (by omega);obtain⟨c,_,c2,c3⟩:=iN zy (k:=y.length-1) (by omega);obtain⟨d,_,d2,d3⟩:=iN zm (k:=j-(y.length-m.length)) (by omega);rw[a3,b3,c3,d3,(aJ _).2,(aJ _).2,(aJ _).2,(aJ _).2,(aJ _).2,(aJ _).2];unfold mw;rw[if_pos hk,a2,d2,bG hm,bG (l:=y) (by omega),b2,c2,<- jA,Rat.intCast_sub,Rat.intCast_mul,Rat.intCast_mul]
theorem Ja{y m:List Rat}{j:Nat}(zy:Zb RK y)(zm:Zb RK m)(hly:y.length<=20)(hl:m.length<=y.length)(hm:0<m.length)(hj:j<y.length-1)(hk: ¬y.length-m.length<=j):
  Lib.itoa (al (nth Ty.str (txP y) (j:Int))*al (nth Ty.str (txP m) (IntKind.i64.wrap (((List.length (txP m):Nat):Int)-1))))=aU (mw m y j):=by
 rw[ji hm (by omega)];obtain⟨a,_,a2,a3⟩:=iN zy (k:=j) (by omega);obtain⟨b,_,b2,b3⟩:=iN zm (k:=m.length-1) (by omega);rw[a3,b3,(aJ _).2,(aJ _).2];unfold mw;rw[if_neg hk,a2,bG hm,b2,<- jA,Rat.intCast_mul]
theorem PX{y m:List Rat}{j:Nat}(hly:y.length<=20)(hj:j<y.length-1):∃ z:Nat,IntKind.i64.wrap ((j:Int)+1)=(z:Int)/\txP (dR m y j)++ [aU (mw m y j)]=txP (dR m y z)/\z<=y.length-1/\y.length-1-z<y.length-1-j:=by
 refine⟨j+1,wo,?_,hj,by omega⟩;rw[Gh,mj]
theorem L0{y m T:List Rat}{c j:Nat}(g1:mA m T c y)(zm:Zb c m)(n3:Zb RK (aP (dR m y (y.length-1))))(hl:m.length<=y.length)(hm:0<m.length)(g2:j<=y.length-1)(hj: ¬j<y.length-1):(GL QK (txP (dR m y j))/\(txP (dR m y j)).length<=1000000000)/\WhR (txP (aP (nl (txP (dR m y j))))):=by
 have e:RK=450000:=rfl;have e2:QK=10000000:=rfl;have hly:=g1.la;obtain rfl:j=y.length-1:=by omega
 obtain⟨b,b1,b2⟩:=g1.sz;have h1:=At b1 zm (y.length-1);have h2:c+1<=(y.length+1-m.length)*(c+1):=Nat.le_mul_of_pos_left _ (by omega);have h3:=nn m y (y.length-1);have h4:=dt (dR m y (y.length-1));refine⟨⟨gR fun x hx=> ?_,by rw[aY];omega⟩,?_⟩;·have:=h1.lq (by omega) x hx;omega
 ·rw[bY];exact⟨by rw[bY],by rw[aY];omega,by rw[bY];exact cG _,by rw[bY];exact n3.den (by decide)⟩
theorem TM{y m T:List Rat}{c j:Nat}(n1:mA m T c (iE m y))(n2:(iE m y).length<y.length)(g2:j<=y.length-1)(hj: ¬j<y.length-1):∃ z,txP (cj (nl (txP (aP (nl (txP (dR m y j)))))))=txP z/\mA m T c z/\z.length<y.length:=by
 obtain rfl:j=y.length-1:=by omega
 exact⟨iE m y,by rw[bY,bY];rfl,n1,n2⟩
theorem TN{y m T:List Rat}{c:Nat}(g1:mA m T c y)(hl: ¬m.length<=y.length):txP y=txP T:=by
 rw[<- g1.go,qy hl]
theorem SK{p:List (List UInt8)}(h:GR 10 p):WhR p:=⟨h.1,by have:=h.len;omega,h.2.trm,h.2.den.mono (by decide)⟩
theorem L1{a b:List Rat}(g:jF a b)(hb:b≠ []):PK (txP a) (txP b):=by
 obtain⟨_,_,_,h4⟩:=g.next hb;exact⟨by rw[bY],by rw[bY],by rw[bY,bY];exact⟨g.la,g.lb,g.ta,g.tb,hb,h4⟩⟩
theorem PY{a b:List Rat}(g:jF a b):(txP a).length<=1000/\TF (txP a):=by
 have:=g.la;exact⟨by rw[aY];omega,by rw[bY],by rw[aY];omega,by rw[bY];exact g.ta,by rw[bY];exact g.zk.1.lq (by decide)⟩
theorem PZ{a b p q:List Rat}(hb:b= [])(g:nw a b=nw (cj p) (cj q)):txP (wJ (nl (txP a)))=txP (rl p q):=by
 subst hb;rw[bY];unfold rl;rw[<- g];rfl
theorem Gp{y m:List Rat}(hy:y.length<=20)(hlm:m.length<=20)(hl:m.length<=y.length)(hm:m≠ [])(tm:Trm m)(s1:∀ x∈y,lq x<=100000)(s2:∀ x∈m,lq x<=100000):(0<=IntKind.i64.wrap (((List.length (txP y):Nat):Int)-1)/\IntKind.i64.wrap (((List.length (txP y):Nat):Int)-1)<((List.length (txP y):Nat):Int))/\
  (0<=IntKind.i64.wrap (((List.length (txP m):Nat):Int)-1)/\IntKind.i64.wrap (((List.length (txP m):Nat):Int)-1)<((List.length (txP m):Nat):Int))/\
  GQ QK (nth Ty.str (txP y) (IntKind.i64.wrap (((List.length (txP y):Nat):Int)-1)))/\GQ QK (nth Ty.str (txP m) (IntKind.i64.wrap (((List.length (txP m):Nat):Int)-1)))/\bm (nth Ty.str (txP m) (IntKind.i64.wrap (((List.length (txP m):Nat):Int)-1)))≠0:=by
 have hp:=List.length_pos_iff.2 hm;have e2:QK=10000000:=rfl;have h1:lq (aE y)<=100000:=by rw[bG (by omega)];exact gL s1 (by omega) _
 have h2:lq (aE m)<=100000:=by rw[bG hp];exact gL s2 (by omega) _
 rw[aY,aY,jZ (by omega) (by omega),jZ hp (by omega),bP,bW (by omega),bW (by omega)];exact⟨by omega,by omega,dC (by omega),dC (by omega),tm hm⟩
theorem P0{y m:List Rat}(hy:y.length<=20)(hlm:m.length<=20)(hl:m.length<=y.length)(hm:m≠ []):aU (bm (nth Ty.str (txP y) (IntKind.i64.wrap (((List.length (txP y):Nat):Int)-1)))/bm (nth Ty.str (txP m) (IntKind.i64.wrap (((List.length (txP m):Nat):Int)-1))))=aU (aE y/aE m)/\
  IntKind.i64.wrap (((List.length (txP y):Nat):Int)-((List.length (txP m):Nat):Int))=((y.length-m.length:Nat):Int):=by
 have hp:=List.length_pos_iff.2 hm;refine⟨?_,(El hy hl).1⟩;rw[aY,aY,jZ (by omega) (by omega),jZ hp (by omega),bP,bP]
theorem P1(x:Rat):nl [aU x]= [x]:=by show [bm (aU x)]=_;rw[bP]
theorem Gq{q p s:List Rat}{c:Nat}{P:List Rat×List Rat}(g:oq q c P p s)(dq:Den c q)(hl:q.length<=p.length):(GL QK [aU (aE p/aE q)]/\0<=((p.length-q.length:Nat):Int)/\((p.length-q.length:Nat):Int)<=1000000)/\
  GL QK2 (txP s)/\GL QK2 (txP (dj ((p.length-q.length:Nat):Int).toNat (nl [aU (aE p/aE q)])))/\(txP s).length<=1000000/\(txP (dj ((p.length-q.length:Nat):Int).toNat (nl [aU (aE p/aE q)]))).length<=1000000:=by
 obtain⟨s1,s2,s3,s4⟩:=g.sizes dq hl;have e2:QK=10000000:=rfl;have e3:QK2=4000000:=rfl;have h1:=g.lp;have h2:=g.ls;have h3:=ky (p.length-q.length) [aE p/aE q];rw[List.length_singleton] at h3;rw[P1,Int.toNat_natCast,aY,aY];refine⟨⟨fun x hx=> ?_,by omega,by omega⟩,gR fun x hx=>by have:=s4 x hx;omega,gR fun x hx=> ?_,by omega,by omega⟩;·rw[List.mem_singleton.1 hx];exact dC (by omega)
 ·have:=ml (K:=100000) (by omega) (fun y hy=>by rw[List.mem_singleton.1 hy];exact s3) x hx;omega
theorem Gr{q p s:List Rat}{c:Nat}{P:List Rat×List Rat}(g:oq q c P p s)(dq:Den c q)(hl:q.length<=p.length):(GQ QK2 (aU (aE p/aE q))/\GL QK2 (txP q)/\(txP q).length<=1000000)/\
  (GL QK (txP (b9 (bm (aU (aE p/aE q))) (nl (txP q))))/\0<=((p.length-q.length:Nat):Int)/\((p.length-q.length:Nat):Int)<=1000000/\(txP (b9 (bm (aU (aE p/aE q))) (nl (txP q)))).length<=1000000)/\
  GL QK2 (txP p)/\GL 1000000 (txP (dj ((p.length-q.length:Nat):Int).toNat (nl (txP (b9 (bm (aU (aE p/aE q))) (nl (txP q)))))))/\(txP p).length<=1000000/\
  (txP (dj ((p.length-q.length:Nat):Int).toNat (nl (txP (b9 (bm (aU (aE p/aE q))) (nl (txP q))))))).length<=1000000:=by
 obtain⟨s1,s2,s3,s4⟩:=g.sizes dq hl;have e2:QK=10000000:=rfl;have e3:QK2=4000000:=rfl;have h1:=g.lp;have h2:=g.ls;have h3:=ky (p.length-q.length) (b9 (aE p/aE q) q);have h4:=mV (aE p/aE q) q;have h5:=oY s3 s2;have h6:=ml (k:=p.length-q.length) (by omega) h5;simp only[bY,bP,Int.toNat_natCast,aY];exact⟨⟨dC (by omega),gR fun x hx=>by have:=s2 x hx;omega,by omega⟩,⟨gR fun x hx=>by have:=h5 x hx;omega,by omega,by omega,by omega⟩,gR fun x hx=>by have:=s1 x hx;omega,gR fun x hx=>by have:=h6 x hx;omega,by omega,by omega⟩
theorem P2{q p s:List Rat}{c:Nat}{P:List Rat×List Rat}(n1:oq q c P (kH q p) (wK q p s))(n2:(kH q p).length<p.length):∃ a,txP (bq (fun x1 x2=>x1-x2) (nl (txP p)) (nl (txP (dj ((p.length-q.length:Nat):Int).toNat (nl (txP (b9 (bm (aU (aE p/aE q))) (nl (txP q)))))))))=txP a/\
  ∃ x,txP (bq (fun x1 x2=>x1+x2) (nl (txP s)) (nl (txP (dj ((p.length-q.length:Nat):Int).toNat (nl [aU (aE p/aE q)])))))=txP x/\oq q c P a x/\a.length<p.length:=by
 simp only[bY,P1,bP,Int.toNat_natCast];exact⟨kH q p,rfl,wK q p s,rfl,n1,n2⟩
theorem L2{q p s:List Rat}{c:Nat}{P:List Rat×List Rat}(g:oq q c P p s)(hl: ¬q.length<=p.length):txP s=txP P.1/\txP p=txP P.2:=by
 rw[g.fin hl];exact⟨rfl,rfl⟩
theorem mz.dr{a b:List (List UInt8)}(h:mz a b)(hb:b≠ []):PN a b:=by
 have h1:=h.ga.2.len;have h2:=h.gb.2.len;have h0:nl b≠ []:=fun e=>hb (by rw[<- h.gb.1,e];rfl);have hp:=List.length_pos_iff.2 h0;refine⟨h.ga.1,h.gb.1,9,9,by omega,by omega,h.ga.2.trm,h.gb.2.trm,h0,h.ga.2.den,h.gb.2.den,?_⟩;have:((nl a).length+1-(nl b).length)*(9+1)<=10*(9+1):=Nat.mul_le_mul_right _ (by omega);omega
end Go.Cm
end
section
namespace Go.Proofs.YtdojbabpnaifoaaGreatDoor
open Go Go.Cm Go.Proofs
def um(B:aj):Tab:={types:= [(3,(.int .i64)),(9,.str),(22,(.slice .str)),(46,.str),(104,(.slice .str))],elems:= [(104,9)],cons:= [(84,re),(92,fK),(116,iL),(117,lI),(121,yd),(122,rb)],hint:= [63],N:=65,base:=B}
theorem En{B:aj}(hB:aC B):aI Tryz.prog (um B):=⟨⟨tc ty3 (tc ty9 (tc dZ (tc iI (tc G6 (ae))))),aT (by kernel_rfl) (af),by simp only[um,ioB];omega⟩,aG (cc Tryz.func84 (qe hB) (cc Tryz.func92 (kC hB) (cc Tryz.func116 (kD hB) (cc Tryz.func117 (mr hB) (cc Tryz.func121 (CC hB) (cc Tryz.func122 (wv hB) (aA))))))),by kernel_rfl⟩
def nq:Con:=fun l os=>match l,os with
 | [.z (.slice .str) p],[]=>some (WhR p,[.z (.slice .str) (txP (cj (nl p)))],[])
 |_,_=>none
theorem yS{B:aj}(hB:aC B):Valid B Tryz.prog 71 nq:=by
 refine ab (En hB).tab Tryz.func71 rfl rfl rfl ?_;intro args os C rs os' hc hC;unfold nq at hc;split at hc;case h_2=>cases hc
 rename_i p;cases hc;refine v_h (En hB) fun X hP hT hr hG=> ?_;have hU:=um.eq_1;unfold um at hT;have hX:=ai @iL.eq_1<|ai @re.eq_1<|ai @fK.eq_1<|ai @yd.eq_1<|ai @rb.eq_1<| @lI.eq_1;simp only[Tryz.f71,aD,an,ioB];obtain⟨l,rfl,hl,ht,hd⟩:=Uo hC;simp only[bY];refine s_g hG ?_;refine s_g hG ?_;refine ak (s_g hG ?_);refine ar (bj (fun(z:Nat)=>(⟨[(0,.l (.z (.slice .str) (txP l))),(2,.l (.val (.slice none 0 0))),(3,.l (.z .str (Lib.itoa (ef l z:Int)))),(4,.l (.z .str (Lib.itoa (fh l z:Int)))),(5,.l (.z (.int .i64) (z:Int)))],[]⟩:aa)) (fun z=>z<=l.length) (fun z=>l.length-z) 0 ?_ ?_ ?_);·refine q_l ?_;exact PO l
 ·omega
 ·rintro k g1;try dsimp only at g1
  refine ak (s_g hG ?_);refine ao ?_ ?_
  ·intro hb0;(try simp only[bt] at hb0);(have hk:k<l.length:=by have h9:(k:Int)<(((txP l).length:Nat):Int):=hb0;rw[aY] at h9;omega);refine aq (ah ?_);refine ak (ar ?_);refine s_q hG ?_ ?_
   ·(try simp only[ba]);exact PP hd hk
   refine s_q hG ?_ ?_
   ·(try simp only[ba]);exact PQ hd hk
   refine s_q hG ?_ ?_
   ·(try simp only[ba]);exact PR hd hk
   refine ag hG ?_ ?_
   ·(try simp only[ba]);exact PS hd hk
   (refine aK (ah ?_);refine ag hG ?_ ?_;·exact tt9);show ∃ z,_;refine q_l ?_;exact LU hl hk
  ·(intro hb0;(try simp only[bf] at hb0);(have hk: ¬k<l.length:=by have h9: ¬ (k:Int)<(((txP l).length:Nat):Int):=hb0;rw[aY] at h9;omega);refine aZ (aB ?_);refine av (au ?_);refine ah (s_g hG ?_);refine ak (s_g hG ?_);refine ar (bj (fun(z:Nat)=>(⟨[(0,.l (.z (.slice .str) (txP l))),(2,.l (.val (.slice none 0 0))),(3,.l (.z .str (Lib.itoa (ef l l.length:Int)))),(4,.l (.z .str (Lib.itoa (fh l l.length:Int)))),(10,.l (.ownS 64)),(11,.l (.z (.int .i64) (z:Int)))],[(64,.arr .str 9 (txP ((cj l).take z)))]⟩:aa)) (fun z=>z<=l.length) (fun z=>l.length-z) 0 ?_ ?_ ?_);·refine q_l ?_;exact TI g1 hk);·omega
   ·rintro j g2;(try dsimp only at g2);refine ak (s_g hG ?_);refine ao ?_ ?_
    ·intro hb1;(try simp only[bt] at hb1);(have hj:j<l.length:=by have h9:(j:Int)<(((txP l).length:Nat):Int):=hb1;rw[aY] at h9;omega);refine aq (ah ?_);refine ak (ar ?_);refine s_d hG ?_ ?_
     ·(try simp only[ba]);exact LW ht hd hj
     refine ag hG ?_ ?_
     ·(try simp only[ba]);exact Gm hl j
     (refine aK (ah ?_);refine ag hG ?_ ?_;·exact tt9);show ∃ z,_;refine q_l ?_;exact LX hl ht hd hj
    ·intro hb1;(try simp only[bf] at hb1);(have hj: ¬j<l.length:=by have h9: ¬ (j:Int)<(((txP l).length:Nat):Int):=hb1;rw[aY] at h9;omega);refine aZ (aB ?_);refine av (au ?_);refine ah (s_g hG ?_);refine ay (q_e [] ?_);exact TJ hj
def uo(B:aj):Tab:={types:= [(3,(.int .i64)),(22,(.slice .str)),(46,.str)],elems:= [],cons:= [(65,iu),(75,yh)],hint:= [],N:=15,base:=B}
theorem Eo{B:aj}(hB:aC B):aI Tryz.prog (uo B):=⟨⟨tc ty3 (tc dZ (tc iI (ae))),af,by simp only[uo,ioB];omega⟩,aG (cc Tryz.func65 (nk hB) (cc Tryz.func75 (yi hB) (aA))),by kernel_rfl⟩
def uq:Con:=fun l os=>match l,os with
 | [.z (.slice .str) p],[]=>some (TF p,[.z (.slice .str) (txP (wJ (nl p)))],[])
 |_,_=>none
theorem L3{B:aj}(hB:aC B):Valid B Tryz.prog 73 uq:=by
 refine ab (Eo hB).tab Tryz.func73 rfl rfl rfl ?_;intro args os C rs os' hc hC;unfold uq at hc;split at hc;case h_2=>cases hc
 rename_i p;cases hc;refine v_h (Eo hB) fun X hP hT hr hG=> ?_;have hU:=uo.eq_1;unfold uo at hT;have hX:=ai @yh.eq_1<| @iu.eq_1;simp only[Tryz.f73,aD,an,ioB];obtain⟨l,rfl,hl,ht,hK⟩:=TK hC;simp only[bY];refine s_g hG ?_;refine ak (s_g hG ?_);refine ao ?_ ?_
 ·intro hb0;try simp only[bt] at hb0
  obtain rfl:=Oi.1 hb0;refine s_g hG ?_;refine ay (az ?_);refine q_e [] ?_;rfl
 ·intro hb0;try simp only[bf] at hb0
  have h0:l≠ []:=fun e=>hb0 (Oi.2 e);refine aq (ah ?_);refine s_q hG ?_ ?_
  ·(try simp only[ba]);exact LY hl ht hK h0
  refine ay (q_e [] ?_);simp only[bY];exact PU hl h0
def ur(B:aj):Tab:={types:= [(3,(.int .i64)),(9,.str),(22,(.slice .str)),(104,(.slice .str))],elems:= [(22,46)],cons:= [],hint:= [17],N:=19,base:=B}
theorem Ep{B:aj}(hB:aC B):aI Tryz.prog (ur B):=⟨⟨tc ty3 (tc ty9 (tc dZ (tc G6 (ae)))),aT (by kernel_rfl) (af),by simp only[ur,ioB];omega⟩,bI rfl,by kernel_rfl⟩
def Aw:Con:=fun l os=>match l,os with
 | [.z (.slice .str) p],[]=>some (p.length<=1000,[.z (.slice .str) p],[])
 |_,_=>none
theorem L4{B:aj}(hB:aC B):Valid B Tryz.prog 74 Aw:=by
 refine ab (Ep hB).tab Tryz.func74 rfl rfl rfl ?_;intro args os C rs os' hc hC;unfold Aw at hc;split at hc;case h_2=>cases hc
 rename_i p;cases hc;refine v_h (Ep hB) fun X hP hT hr hG=> ?_;have hU:=ur.eq_1;unfold ur at hT;have hX:=Bool.not_true;simp only[Tryz.f74,aD,an,ioB];have hl:p.length<=1000:=hC;refine s_g hG ?_;refine s_g hG ?_;refine ak (s_g hG ?_);refine ar (bj (fun(z:Nat)=>(⟨[(0,.l (.z (.slice .str) p)),(2,.l (.val (.slice none 0 0))),(3,.l (.ownS 18)),(4,.l (.z (.int .i64) (z:Int)))],[(18,.arr .str 46 (p.take z))]⟩:aa)) (fun z=>z<=p.length) (fun z=>p.length-z) 0 ?_ ?_ ?_);·refine q_l ?_;exact⟨rfl,by unfold ioB;omega⟩
 ·omega
 ·rintro k g1;try dsimp only at g1
  refine ak (s_g hG ?_);refine ao ?_ ?_
  ·intro hb0;(try simp only[bt] at hb0);(have hk:k<p.length:=by have h9:(k:Int)<((p.length:Nat):Int):=hb0;omega);refine aq (ah ?_);refine ak (ar ?_);refine ag hG ?_ ?_
   ·(try simp only[ba]);exact LZ hl hk
   (refine aK (ah ?_);refine ag hG ?_ ?_;·exact tt9);show ∃ z,_;refine q_l ?_;exact Gn hl hk
  ·intro hb0;(try simp only[bf] at hb0);(have hk: ¬k<p.length:=by have h9: ¬ (k:Int)<((p.length:Nat):Int):=hb0;omega);refine aZ (aB ?_);refine av (au ?_);refine ah (s_g hG ?_);refine ay (q_e [] ?_);exact List.take_of_length_le (by omega)
def uu(B:aj):Tab:={types:= [(3,(.int .i64)),(9,.str),(22,(.slice .str)),(104,(.slice .str))],elems:= [(22,46)],cons:= [(64,iM),(71,nq),(117,lI),(123,yc)],hint:= [58],N:=63,base:=B}
theorem Er{B:aj}(hB:aC B):aI Tryz.prog (uu B):=⟨⟨tc ty3 (tc ty9 (tc dZ (tc G6 (ae)))),aT (by kernel_rfl) (af),by simp only[uu,ioB];omega⟩,aG (cc Tryz.func64 (jE hB) (cc Tryz.func71 (yS hB) (cc Tryz.func117 (mr hB) (cc Tryz.func123 (CB hB) (aA))))),by kernel_rfl⟩
def Ax:Con:=fun l os=>match l,os with
 | [.z (.slice .str) p,.z (.slice .str) q],[]=>some (PK p q,[.z (.slice .str) (txP (fF (nl p) (nl q)))],[])
 |_,_=>none
set_option maxHeartbeats 2000000 in
theorem L5{B:aj}(hB:aC B):Valid B Tryz.prog 72 Ax:=by
 refine ab (Er hB).tab Tryz.func72 rfl rfl rfl ?_;intro args os C rs os' hc hC;unfold Ax at hc;split at hc;case h_2=>cases hc
 rename_i p q;cases hc;refine v_h (Er hB) fun X hP hT hr hG=> ?_;have hU:=uu.eq_1;unfold uu at hT;have hX:=ai @lI.eq_1<|ai @yc.eq_1<|ai @iM.eq_1<| @nq.eq_1;simp only[Tryz.f72,aD,an,ioB];obtain⟨l,m,rfl,rfl,hL⟩:=Sw hC;simp only[bY];obtain⟨c,zm,hc,hI⟩:=Gl hL;have zk:Zb RK m:=zm.mono hc;have hm:=hL.b0;have hlm:=hL.lb;have hmp:=List.length_pos_iff.2 hm;refine s_g hG ?_;refine ak (ar ?_);refine bj (fun(z:List Rat)=>(⟨[(0,.l (.z (.slice .str) (txP z))),(1,.l (.z (.slice .str) (txP m))),(4,.l (.val (.slice none 0 0)))],[]⟩:aa)) (fun z=>mA m (fF l m) c z) (fun z=>z.length) l ?_ ?_ ?_;·refine q_l ?_;trivial
 ·exact hI
 ·rintro y g1;try dsimp only at g1
  have hly:=g1.la;have zy:=g1.z;refine ak (s_g hG ?_);refine ao ?_ ?_
  ·(intro hb0;(try simp only[bt] at hb0);have hl:=PL hb0;obtain⟨n1,n2,n3⟩:=g1.next hm zm hl;refine aq (ah ?_);refine ar (s_g hG ?_);refine s_g hG ?_;refine ak (s_g hG ?_);refine ar (bj (fun(z:Nat)=>(⟨[(0,.l (.z (.slice .str) (txP y))),(1,.l (.z (.slice .str) (txP m))),(4,.l (.val (.slice none 0 0))),(5,.l (.z (.int .i64) ((y.length-m.length:Nat):Int))),(6,.l (.ownS 59)),(7,.l (.z (.int .i64) (z:Int)))],[(59,.arr .str 46 (txP (dR m y z)))]⟩:aa)) (fun z=>z<=y.length-1) (fun z=>y.length-1-z) 0 ?_ ?_ ?_);·refine q_l ?_;exact El hly hl);·omega
   ·rintro j g2;(try dsimp only at g2);refine ak (s_g hG ?_);refine ao ?_ ?_
    ·intro hb1;(try simp only[bt] at hb1);have hj:=UG hly hl hmp hb1;refine aq (ah ?_);refine ak (ar ?_);refine s_d hG ?_ ?_
     ·(try simp only[ba]);exact PV zy zk hly hl hmp hj
     refine ct (fun(z:Unit)=>(⟨[(0,.l (.z (.slice .str) (txP y))),(1,.l (.z (.slice .str) (txP m))),(4,.l (.val (.slice none 0 0))),(5,.l (.z (.int .i64) ((y.length-m.length:Nat):Int))),(6,.l (.ownS 59)),(7,.l (.z (.int .i64) (j:Int))),(8,.l (.z .str (aU (mw m y j))))],[(59,.arr .str 46 (txP (dR m y j)))]⟩:aa)) (fun z=>True) ?_ ?_
     ·refine s_g hG ?_;refine ao ?_ ?_
      ·intro hb2;(try simp only[bt] at hb2);(have hk:y.length-m.length<=j:=by omega);refine ib hG ?_ ?_
       ·(try simp only[ba]);exact PW zy zk hly hl hmp hj hk
       show ∃ z,_;refine q_l ?_;first|(have h9:y.length-m.length<=j:=hk;exact I9 zy zk hly hl hmp hj h9)|exact Ja zy zk hly hl hmp hj hk
      ·intro hb2;(try simp only[bf] at hb2);(have hk: ¬y.length-m.length<=j:=by omega);refine aq ?_;show ∃ z,_;refine q_l ?_;first|(have h9:y.length-m.length<=j:=hk;exact I9 zy zk hly hl hmp hj h9)|exact Ja zy zk hly hl hmp hj hk
     rintro⟨⟩-;refine ag hG ?_ ?_
     ·(try simp only[ba]);exact lj (by rw[aY,nn];omega)
     (refine aK (ah ?_);refine ag hG ?_ ?_;·exact tt9);show ∃ z,_;refine q_l ?_;exact PX hly hj
    ·intro hb1;(try simp only[bf] at hb1);have hj:=UH hly hl hmp hb1;refine aZ (aB ?_);refine av (au ?_);refine ah (ag hG ?_ ?_)
     ·(try simp only[ba]);exact L0 g1 zm n3 hl hmp g2 hj
     refine aK ?_;show ∃ z,_;refine q_l ?_;exact TM n1 n2 g2 hj
  ·intro hb0;(try simp only[bf] at hb0);have hl:=PM hb0;refine aZ (aB ?_);refine av (au ?_);refine ah (s_g hG ?_);refine ay (q_e [] ?_);exact TN g1 hl
def uv(B:aj):Tab:={types:= [(3,(.int .i64)),(22,(.slice .str)),(104,(.slice .str))],elems:= [],cons:= [(71,nq),(72,Ax),(73,uq),(74,Aw)],hint:= [],N:=23,base:=B}
theorem Et{B:aj}(hB:aC B):aI Tryz.prog (uv B):=⟨⟨tc ty3 (tc dZ (tc G6 (ae))),af,by simp only[uv,ioB];omega⟩,aG (cc Tryz.func71 (yS hB) (cc Tryz.func72 (L5 hB) (cc Tryz.func73 (L3 hB) (cc Tryz.func74 (L4 hB) (aA))))),by kernel_rfl⟩
def Ay:Con:=fun l os=>match l,os with
 | [.z (.slice .str) p,.z (.slice .str) q],[]=>some (GR 10 p/\GR 10 q,[.z (.slice .str) (txP (rl (nl p) (nl q)))],[])
 |_,_=>none
theorem L6{B:aj}(hB:aC B):Valid B Tryz.prog 25 Ay:=by
 refine ab (Et hB).tab Tryz.func25 rfl rfl rfl ?_;intro args os C rs os' hc hC;unfold Ay at hc;split at hc;case h_2=>cases hc
 rename_i p q;cases hc;refine v_h (Et hB) fun X hP hT hr hG=> ?_;have hU:=uv.eq_1;unfold uv at hT;have hX:=ai @uq.eq_1<|ai @Aw.eq_1<|ai @Ax.eq_1<| @nq.eq_1;simp only[Tryz.f25,aD,an,ioB];have hs:=yQ hC.1.2 hC.2.2;refine s_g hG ?_;refine s_q hG ?_ ?_
 ·try simp only[ba]
  exact⟨SK hC.1,SK hC.2⟩
 refine ak (ar ?_);refine bj (fun(z:List Rat×List Rat)=>(⟨[(0,.l (.z (.slice .str) p)),(1,.l (.z (.slice .str) q)),(4,.l (.val (.slice none 0 0))),(5,.l (.z (.slice .str) (txP z.1))),(6,.l (.z (.slice .str) (txP z.2)))],[]⟩:aa)) (fun z=>jF z.1 z.2/\nw z.1 z.2=nw (cj (nl p)) (cj (nl q))) (fun z=>z.2.length) (cj (nl p),cj (nl q)) ?_ ?_ ?_;·refine q_l ?_;trivial
 ·exact⟨hs,rfl⟩
 ·rintro⟨a,b⟩ ⟨g1,g2⟩;try dsimp only at g1 g2
  refine ak (s_g hG ?_);refine ao ?_ ?_
  ·intro hb0;(try simp only[bt] at hb0);have hb:=TG hb0;obtain⟨h1,h2,h3,h4⟩:=g1.next hb;refine aq (ah ?_);refine ar (s_q hG ?_ ?_)
   ·(try simp only[ba]);exact L1 g1 hb
   (refine s_g hG ?_;refine ag hG ?_ ?_;·exact tt9);refine aK ?_;show ∃ z,_;refine q_l ?_;exact⟨b,rfl,fF a b,by rw[bY,bY],h1,by rw[<- g2];exact qz hb,h3⟩
  ·intro hb0;(try simp only[bf] at hb0);have hb:=TH hb0;refine aZ (aB ?_);refine av (au ?_);refine ah (s_q hG ?_ ?_)
   ·(try simp only[ba]);exact PY g1
   refine ay (q_e [] ?_);exact PZ hb g2
def uw(B:aj):Tab:={types:= [(3,(.int .i64)),(22,(.slice .str)),(46,.str)],elems:= [(22,46)],cons:= [(20,mv),(21,Aq),(65,iu),(66,nm),(75,yh)],hint:= [],N:=47,base:=B}
theorem Eu{B:aj}(hB:aC B):aI Tryz.prog (uw B):=⟨⟨tc ty3 (tc dZ (tc iI (ae))),aT (by kernel_rfl) (af),by simp only[uw,ioB];omega⟩,aG (cc Tryz.func20 (qt hB) (cc Tryz.func21 (LF hB) (cc Tryz.func65 (nk hB) (cc Tryz.func66 (yJ hB) (cc Tryz.func75 (yi hB) (aA)))))),by kernel_rfl⟩
def Az:Con:=fun l os=>match l,os with
 | [.z (.slice .str) p,.z (.slice .str) q],[]=>some (PN p q,[.z (.slice .str) (txP (cN (nl p) (nl q)).1),.z (.slice .str) (txP (cN (nl p) (nl q)).2)],[])
 |_,_=>none
theorem L7{B:aj}(hB:aC B):Valid B Tryz.prog 26 Az:=by
 refine ab (Eu hB).tab Tryz.func26 rfl rfl rfl ?_;intro args os C rs os' hc hC;unfold Az at hc;split at hc;case h_2=>cases hc
 rename_i p q;cases hc;refine v_h (Eu hB) fun X hP hT hr hG=> ?_;have hU:=uw.eq_1;unfold uw at hT;have hX:=ai @mv.eq_1<|ai @yh.eq_1<|ai @iu.eq_1<|ai @nm.eq_1<| @Aq.eq_1;simp only[Tryz.f26,aD,an,ioB];obtain⟨l,m,c,rfl,rfl,hI,dm,tm,hm,hlm⟩:=Sx hC;simp only[bY];refine s_g hG ?_;refine s_g hG ?_;refine ak (ar ?_);refine bj (fun(z:List Rat×List Rat)=>(⟨[(0,.l (.z (.slice .str) (txP z.1))),(1,.l (.z (.slice .str) (txP m))),(4,.l (.val (.slice none 0 0))),(5,.l (.val (.slice none 0 0))),(6,.l (.z (.slice .str) (txP z.2)))],[]⟩:aa)) (fun z=>oq m c (cN l m) z.1 z.2) (fun z=>z.1.length) (l,[]) ?_ ?_ ?_;·refine q_l ?_;rfl
 ·exact hI
 ·rintro⟨y,s⟩ g1;try dsimp only at g1
  refine ak (s_g hG ?_);refine ao ?_ ?_
  ·intro hb0;(try simp only[bt] at hb0);have hl:=PL hb0;obtain⟨s1,s2,s3,s4⟩:=g1.sizes dm hl;obtain⟨n1,n2⟩:=g1.next dm hm tm hl;have hy:=g1.lp;obtain⟨v1,v2⟩:=P0 hy hlm hl hm;refine aq (ah ?_);refine ar (s_g hG ?_);refine s_d hG ?_ ?_
   ·(try simp only[ba]);exact Gp hy hlm hl hm tm s1 s2
   simp only[v1,v2];refine s_q hG ?_ ?_
   ·(try simp only[ba]);exact Gq g1 dm hl
   refine ag hG ?_ ?_
   ·(try simp only[ba]);exact Gr g1 dm hl
   refine aK ?_;show ∃ z,_;refine q_l ?_;exact P2 n1 n2
  ·intro hb0;(try simp only[bf] at hb0);have hl:=PM hb0;refine aZ (aB ?_);refine av (au ?_);refine ah (s_g hG ?_);refine ay (q_e [] ?_);exact L2 g1 hl
def ux(B:aj):Tab:={types:= [(3,(.int .i64)),(22,(.slice .str)),(25,(.st (.pair (.slice (.int .i8)) (.pair (.int .u8) (.slice (.int .i8)))))),(27,(.arr 2 (.slice .str))),(28,(.arr 4 (.arr 2 (.slice .str)))),(31,(.int .i64)),(44,(.slice (.slice .str)))],elems:= [(44,22)],cons:= [(11,uj),(12,uh),(13,ph),(18,Ao),(19,As),(23,qs),(24,yG),(25,Ay),(26,Az),(27,qu),(28,ke)],hint:= [],N:=129,base:=B}
theorem Ev{B:aj}(hB:aC B):aI Tryz.prog (ux B):=⟨⟨tc ty3 (tc dZ (tc SY (tc TU (tc TV (tc kq (tc pO (ae))))))),aT (by kernel_rfl) (af),by simp only[ux,ioB];omega⟩,aG (cc Tryz.func11 (LN hB) (cc Tryz.func12 (LM hB) (cc Tryz.func13 (LJ hB) (cc Tryz.func18 (LC hB) (cc Tryz.func19 (LK hB) (cc Tryz.func23 (yI hB) (cc Tryz.func24 (yH hB) (cc Tryz.func25 (L6 hB) (cc Tryz.func26 (L7 hB) (cc Tryz.func27 (yK hB) (cc Tryz.func28 (mY hB) (aA)))))))))))),by kernel_rfl⟩
def AA:Con:=fun l os=>match l,os with
 | [.z (.slice .str) p,.z (.slice .str) q,.z (.st (.pair (.slice (.int .i8)) (.pair (.int .u8) (.slice (.int .i8))))) d,.z (.st (.pair (.slice (.int .i8)) (.pair (.int .u8) (.slice (.int .i8))))) f],[]=>some (jH d/\jH f,[.z .bool true],[])
 |_,_=>none
set_option maxHeartbeats 2000000 in
theorem L8{B:aj}(hB:aC B):Valid B Tryz.prog 4 AA:=by
 refine ab (Ev hB).tab Tryz.func4 rfl rfl rfl ?_;intro args os C rs os' hc hC;unfold AA at hc;split at hc;case h_2=>cases hc
 rename_i p q d f;cases hc;refine v_h (Ev hB) fun X hP hT hr hG=> ?_;have hU:=ux.eq_1;unfold ux at hT;have hX:=ai @Az.eq_1<|ai @qu.eq_1<|ai @Ay.eq_1<|ai @Ao.eq_1<|ai @qs.eq_1<|ai @yG.eq_1<|ai @uh.eq_1<|ai @ph.eq_1<|ai @ke.eq_1<|ai @As.eq_1<|ai @uj.eq_1<|ai @Int.toNat_zero<|ai @Int.toNat_one<|ai @Nat.zero_mul<|ai @Nat.one_mul<|ai @Nat.mul_one<|ai @List.replicate_succ.{0}<|ai @List.replicate_zero.{0}<|ai @List.flatten_cons.{0}<| @List.flatten_nil.{0};simp only[Tryz.f4,aD,an,ioB];obtain⟨hd,hf⟩:=hC;refine s_g hG ?_;refine ak (s_g hG ?_);refine ao ?_ ?_;·intro hb0;cases hb0
 ·intro hb0;try simp only[bf] at hb0
  refine aq (ah ?_);refine ak (s_q hG ?_ ?_)
  ·(try simp only[ba]);exact⟨hd,hf⟩
  refine ar (bj (fun(z:Nat)=>(⟨[(8,.l (.z .bool false)),(24,.l (.z (.arr 4 (.arr 2 (.slice .str))) (wm p q d f))),(25,.l (.z (.int .i64) (z:Int)))],[]⟩:aa)) (fun z=>z<=4) (fun z=>4-z) 0 ?_ ?_ ?_);·refine q_l ?_;trivial
  ·omega
  ·rintro k g1;(try dsimp only at g1);refine s_g hG ?_;refine ak (ao ?_ ?_)
   ·intro hb1;(try simp only[bt] at hb1);(have hk:k<4:=by have h9:(k:Int)<4:=hb1;omega);refine aq (ah ?_);refine ak (ar ?_);obtain⟨a,b,eab,pa,pb⟩:=F3 hd hf (p:=p) (q:=q) hk;have hX:=ai eab hX;refine s_q hG ?_ ?_
    ·(try simp only[ba]);omega
    refine s_q hG ?_ ?_
    ·(try simp only[ba]);exact⟨by decide,by decide,PI pa pb⟩
    refine ct (fun(z:Unit)=>(⟨[(8,.l (.z .bool false)),(24,.l (.z (.arr 4 (.arr 2 (.slice .str))) (wm p q d f))),(25,.l (.z (.int .i64) (k:Int))),(10,.l (.ownP 10 0)),(11,.l (.z (.slice .str) (dvS a b))),(12,.l (.z (.slice .str) (dvR a b))),(13,.l (.z (.int .i64) (dvE a b))),(14,.l (.z (.slice .str) (cB cp a b))),(15,.l (.z (.int .i64) (cI cp a b)))],[(10,.box 27 [.z (.slice .str) a,.z (.slice .str) b])]⟩:aa)) (fun z=>True) ?_ ?_
    ·refine ag hG ?_ ?_
     ·(try simp only[ba]);exact⟨by decide,by decide,PH pa pb⟩
     show ∃ z,_;refine q_l ?_;trivial
    rintro⟨⟩-;refine ak (s_q hG ?_ ?_)
    ·(try simp only[ba]);simp[pa.short,pb.short]
    refine ao ?_ ?_
    ·intro hb2;have hbad:=OU hb2;obtain⟨s1,s2,s3⟩:=Ss hbad;obtain⟨m1,m2⟩:=RH (f:=cp) hbad;refine ak (s_q hG ?_ ?_)
     ·(try simp only[ba]);simp
     refine ao ?_ ?_;·intro hb3;simp[s1,s2,s3,m1,m2] at hb3
     ·(intro hb3;(try simp only[bf] at hb3);refine aq (ah ?_);refine aZ (aB ?_);refine au (ah ?_);refine ag hG ?_ ?_;·exact tt9);show ∃ z,_;refine q_l ?_;exact⟨k+1,wo,by omega,by omega⟩
    ·intro hb2;have hok:=RR hb2;have hv:=LR pa pb hok;refine aq (ah ?_);refine ak (s_q hG ?_ ?_)
     ·(try simp only[ba]);exact⟨by decide,by decide,⟨hv.ga.mono (by decide),hv.gb.mono (by decide)⟩,KS _ _ _,hv.fg⟩
     refine ao ?_ ?_;·intro hb4;simp[hv.tg] at hb4
     ·intro hb4;(try simp only[bf] at hb4);refine aq (ah ?_);refine ak (s_q hG ?_ ?_)
      ·(try simp only[ba]);decide
      refine ao ?_ ?_
      ·intro hb5;have eb:b= []:=List.eq_nil_of_length_eq_zero (Int.ofNat.inj (beq_iff_eq.1 hb5));obtain⟨w1,w2,w3⟩:=hv.two eb;refine ak (s_q hG ?_ ?_)
       ·(try simp only[ba]);simp
       refine ao ?_ ?_;·intro hb6;simp[w1,w2,w3] at hb6
       ·(intro hb6;(try simp only[bf] at hb6);refine aq (ah ?_);refine aZ (aB ?_);refine au (ah ?_);refine ag hG ?_ ?_;·exact tt9);show ∃ z,_;refine q_l ?_;exact⟨k+1,wo,by omega,by omega⟩
      ·intro hb5;have eb:b≠ []:=fun e=>(beq_eq_false_iff_ne.1 hb5) (by rw[e];rfl);refine aq (ah ?_);refine ct (fun(z:Unit)=>(⟨[(8,.l (.z .bool false)),(24,.l (.z (.arr 4 (.arr 2 (.slice .str))) (wm p q d f))),(25,.l (.z (.int .i64) (k:Int))),(10,.l (.ownP 10 0)),(11,.l (.z (.slice .str) (dvS a b))),(12,.l (.z (.slice .str) (dvR a b))),(13,.l (.z (.int .i64) (dvE a b))),(16,.l (.z (.slice .str) (txP (cN (nl a) (nl b)).1))),(17,.l (.z (.slice .str) (txP (cN (nl a) (nl b)).2)))],[(10,.box 27 [.z (.slice .str) a,.z (.slice .str) b])]⟩:aa)) (fun z=>True) ?_ ?_
       ·refine ag hG ?_ ?_
        ·(try simp only[ba]);exact⟨by decide,by decide,hv.dr eb⟩
        show ∃ z,_;refine q_l ?_;trivial
       rintro⟨⟩-;refine s_q hG ?_ ?_
       ·(try simp only[ba]);exact(hv.fm eb).2
       refine ao ?_ ?_
       ·intro hb7;obtain⟨w1,w2,w3⟩:=hv.big eb (by rw[Bool.not_eq_true'] at hb7;rw[List.all_cons,List.all_cons,List.all_nil,Bool.and_true];exact hb7);refine s_q hG ?_ ?_
        ·(try simp only[ba]);simp
        refine ao ?_ ?_;·intro hb8;simp[w1,w2,w3] at hb8
        ·(intro hb8;(try simp only[bf] at hb8);refine aq (aK ?_);refine ah (ag hG ?_ ?_);·exact tt9);show ∃ z,_;refine q_l ?_;exact⟨k+1,wo,by omega,by omega⟩
       ·intro hb7;obtain⟨w1,w2,w3⟩:=hv.ok eb (by rw[Bool.not_eq_false'] at hb7;rw[List.all_cons,List.all_cons,List.all_nil,Bool.and_true];exact hb7);refine s_q hG ?_ ?_
        ·(try simp only[ba]);simp[w1,w2,w3,I5 (hv.fs eb),I5 (hv.fr eb)]
        refine ao ?_ ?_;·intro hb9;simp[w1,w2,w3] at hb9
        ·(intro hb9;(try simp only[bf] at hb9);refine aq (aK ?_);refine ah (ag hG ?_ ?_);·exact tt9);show ∃ z,_;refine q_l ?_;exact⟨k+1,wo,by omega,by omega⟩
   ·intro hb1;(try simp only[bf] at hb1);refine aZ (aB ?_);refine av (au ?_);refine ah (s_g hG ?_);refine ay (q_e [] ?_);trivial
end Go.Proofs.YtdojbabpnaifoaaGreatDoor
end
section
namespace Go.Cm
open Go.RowKit Go.Deep Go.ChangeShapes Go.WideShapes
def Below(W W':World):Prop:=∀ b,b<W.heap.size->W'.heap[b]? =W.heap[b]?
theorem Below.cell{W W':World}(h:Below W W'){a:Addr}{v:Value}(hc:W.cell? a=some v):W'.cell? a=some v:=by
 rw[<- hc];exact World.cell?_of_block (h a.block (block_lt_of_cell hc))
def P3(P:Program)(w:Nat)(r:TypeId->Bool):Nat->List Field->Bool:=fun off fs=>match fs with
 | [f]=>f.offset==off&&P.cellsOf f.type==w&&r f.type
 |_=>false
def eK(P:Program)(w:Nat)(r:TypeId->Bool):(TypeId->Bool)×(Nat->List Field->Bool):=(r,P3 P w r)
def Ty.rd(P:Program):Ty->(TypeId->Bool)×(Nat->List Field->Bool)
 | .int k=>eK P 1 fun T=>match P.underlying T with
  |some (.int k')=>decide (k'=k)
  |_=>false
 | .bool=>eK P 1 fun T=>match P.underlying T with
  |some .bool=>true
  |_=>false
 | .str=>eK P 1 fun T=>match P.underlying T with
  |some .string=>true
  |_=>false
 | .unit=>(fun _=>false,fun _ _=>false)
 | .pair a b=>(fun _=>false,fun off fs=>match fs with
  |f::r=>f.offset==off&&P.cellsOf f.type==a.w&&(a.rd P).1 f.type&&(b.rd P).2 (off+a.w) r
  | []=>false)
 | .st t=>eK P t.w fun T=>match P.underlying T with
  |some (.struct fs)=>P.cellsOf T==t.w&&(t.rd P).2 0 fs.toList
  |_=>false
 | .arr n t=>eK P (n*t.w) fun T=>match P.underlying T with
  |some (.array m E)=>m==n&&P.cellsOf E==t.w&&P.cellsOf T==n*t.w&&(t.rd P).1 E
  |_=>false
 | .slice t=>eK P 1 fun T=>match P.underlying T with
  |some (.slice E)=>P.cellsOf E==t.w&&decide (0<t.w)&&(t.rd P).1 E
  |_=>false
 | .ptr _=>(fun _=>false,fun _ _=>false)
 | .opt _=>(fun _=>false,fun _ _=>false)
 | .func=>(fun _=>false,fun _ _=>false)
def Ty.okD:(t:Ty)->t.D->Prop
 | .int k,x=>k.min<=x/\x<=k.max
 | .bool,_=>True
 | .str,x=>x.length<=maxLen
 | .unit,_=>True
 | .pair a b,x=>a.okD x.1/\b.okD x.2
 | .st t,x=>t.okD x
 | .arr n t,x=>x.length=n/\∀ y∈x,t.okD y
 | .slice t,x=>x.length<=maxLen/\∀ y∈x,t.okD y
 | .ptr t,x=>t.okD x
 | .opt t,x=>∀ y,x=some y->t.okD y
 | .func,_=>True
section
variable {H:Type} (enc:TypeId×Value->H) (P:Program) (W:World)
def mB(t:Ty)(T:TypeId)(cs:List Value)(d:DataW H)(ps:List MemPlace):Prop:=
 ∃ x:t.D,t.okD x/\t.rep (fun _=>False) W cs x/\
  ∀ (W':World) (sp:Nat->Bool),Below W W'->(∀ q∈ps,sp q.block=true)->∃ n,DataW.trod enc P W' 0 sp true n T cs=some (d,ps)
theorem mapM_at{α β:Type}{f:α->Option β}:∀ {l:List α} {xs:List β},l.mapM f=some xs->xs.length=l.length/\∀ (i:Nat) a,l[i]? =some a->f a=xs[i]?
 | [],xs,h=>by simp at h;subst h;simp
 |a::l,xs,h=>by
  simp only[List.mapM_cons,Option.bind_eq_bind,Option.bind_eq_some_iff,Option.pure_def,Option.some.injEq] at h;obtain⟨y,hy,ys,hys,rfl⟩:=h;obtain⟨h1,h2⟩:=mapM_at hys;refine⟨by simp[h1],fun i b hb=> ?_⟩;cases i with
  |zero=>simp at hb;subst hb;simpa using hy
  |succ i=>simp at hb ⊢;exact h2 i b hb
theorem pw{α β:Type}{f:α->Option β}:∀ {l:List α} {xs:List β},xs.length=l.length->(∀ (i:Nat) a,l[i]? =some a->f a=xs[i]?)->l.mapM f=some xs
 | [],xs,h,_=>by have:=List.eq_nil_of_length_eq_zero h;subst this;rfl
 |a::l,[],h,_=>by simp at h
 |a::l,x::xs,h,hf=>by
  have h0:=hf 0 a rfl;simp at h0;have:=pw (f:=f) (l:=l) (xs:=xs) (by simpa using h) (fun i b hb=>by have:=hf (i+1) b (by simpa using hb);simpa using this);simp[List.mapM_cons,h0,this]
theorem Jb{α:Type}{R:List Value->α->Prop}{ok:α->Prop}{w:Nat}:∀ (n:Nat) (cs:List Value),cs.length=n*w->(∀ i,i<n->∃ x,ok x/\R ((cs.drop (i*w)).take w) x)->∃ xs:List α,xs.length=n/\(∀ x∈xs,ok x)/\cQ R cs xs
 |0,cs,h,_=>⟨[],rfl,by simp,by simp[cQ];exact List.eq_nil_of_length_eq_zero (by omega)⟩
 |n+1,cs,h,hx=>by
  obtain⟨x,h1,h2⟩:=hx 0 (by omega);simp only[Nat.zero_mul,List.drop_zero] at h2;obtain⟨xs,g1,g2,g3⟩:=Jb (R:=R) (ok:=ok) (w:=w) n (cs.drop w) (by rw[List.length_drop,h,Nat.succ_mul];omega) (fun i hi=>by
   obtain⟨y,k1,k2⟩:=hx (i+1) (by omega);refine⟨y,k1,?_⟩;rw[List.drop_drop,show w+i*w=(i+1)*w by rw[Nat.succ_mul];omega];exact k2)
  refine⟨x::xs,by simp[g1],fun y hy=> ?_,cs.take w,cs.drop w,(List.take_append_drop _ _).symm,h2,g3⟩;rcases List.mem_cons.1 hy with rfl|hy;·exact h1
  ·exact g2 y hy
theorem Jc{α:Type}{R:List Value->α->Prop}{ok:α->Prop}{w:Nat}{a:Addr}:∀ (n:Nat),(∀ i,i<n->∃ c,c.length=w/\(∀ j,j<w->W.cell? (a.add (i*w+j))=c[j]?)/\∃ x,ok x/\R c x)->
  ∃ (cells:List Value) (xs:List α),cells.length=n*w/\xs.length=n/\(∀ x∈xs,ok x)/\cQ R cells xs/\∀ k,k<n*w->W.cell? (a.add k)=cells[k]?
 |0,_=>⟨[],[],by simp,rfl,by simp,rfl,fun k hk=>by simp at hk⟩
 |n+1,h=>by
  obtain⟨cells,xs,h1,h2,h3,h4,h5⟩:=Jc n (fun i hi=>h i (by omega));obtain⟨c,g1,g2,x,g3,g4⟩:=h n (by omega);refine⟨cells++c,xs++ [x],by rw[List.length_append,h1,g1,Nat.succ_mul],by simp[h2],fun y hy=> ?_,fT h4 (Mb g4),fun k hk=> ?_⟩
  ·(rcases List.mem_append.1 hy with hy|hy;·exact h3 y hy);·simp at hy;subst hy;exact g3
  ·by_cases hlt:k<n*w
   ·rw[h5 k hlt,List.getElem?_append_left (by omega)]
   ·rw[Nat.succ_mul] at hk;rw[List.getElem?_append_right (by omega),h1,<- g2 (k-n*w) (by omega),show n*w+(k-n*w)=k by omega]
theorem L9{W:World}{b:Nat}{a:Addr}{n:Nat}{cs:List Value}(h:W.cells? b a n=some cs):cs.length=n/\∀ j,j<n->W.cell? (a.add j)=cs[j]? :=by
 unfold World.cells? at h;split at h;·obtain⟨h1,h2⟩:=mapM_at h;refine⟨by simpa using h1,fun j hj=>h2 j j (by simp[hj])⟩
 ·cases h
theorem P4{W:World}{a:Addr}{n:Nat}{cs:List Value}(h:cs.length=n)(hc:∀ j,j<n->W.cell? (a.add j)=cs[j]?):W.cells? 0 a n=some cs:=by
 unfold World.cells?;rw[if_pos (Nat.zero_le _)];exact pw (by simpa using h) (fun i b hb=>by
  obtain⟨hi,e⟩:=List.getElem?_eq_some_iff.1 hb;simp at hi e;subst e;exact hc i hi)
theorem P5(t:Ty):(∀ T,(t.rd P).1 T=true->∀ fuel cs d ps,DataW.trod enc P W 0 (fun _=>true) true fuel T cs=some (d,ps)->mB enc P W t T cs d ps):=by
 have single:∀ (u:Ty) (w:Nat),u.w=w->(∀ T,(u.rd P).1 T=true->∀ fuel cs d ps,DataW.trod enc P W 0 (fun _=>true) true fuel T cs=some (d,ps)->mB enc P W u T cs d ps)->
   ∀ off fs,P3 P w (u.rd P).1 off fs=true->∀ (fuel:Nat) (cs:List Value) (xs:List (DataW H×List MemPlace)),cs.length=off+u.w->fs.mapM (fun f=>DataW.trod enc P W 0 (fun _=>true) true fuel f.type ((cs.drop f.offset).take (P.cellsOf f.type)))=some xs->
   ∃ x:u.D,u.okD x/\u.rep (fun _=>False) W (cs.drop off) x/\∀ (W':World) (sp:Nat->Bool),Below W W'->(∀ q∈xs.flatMap (·.2),sp q.block=true)->∃ n,fs.mapM (fun f=>DataW.trod enc P W' 0 sp true n f.type ((cs.drop f.offset).take (P.cellsOf f.type)))=some xs:=by
  intro u w hw ih off fs hr fuel cs xs hl hm;unfold P3 at hr;split at hr
  ·rename_i f;simp only[Bool.and_eq_true,beq_iff_eq] at hr;obtain⟨⟨h1,h2⟩,h3⟩:=hr;rw[List.mapM_cons,Option.bind_eq_bind,Option.bind_eq_some_iff] at hm;obtain⟨⟨d,ps⟩,hd,hm⟩:=hm;simp at hm;subst hm;have hcut:(cs.drop f.offset).take (P.cellsOf f.type)=cs.drop off:=by
    rw[h1,h2];exact List.take_of_length_le (by rw[List.length_drop];omega)
   rw[hcut] at hd;obtain⟨x,g1,g2,g3⟩:=ih _ h3 _ _ _ _ hd;refine⟨x,g1,g2,fun W' sp hB hq=> ?_⟩;obtain⟨n,hn⟩:=g3 W' sp hB (fun q hq'=>hq q (by simpa using hq'));exact⟨n,by simp[hcut,hn]⟩
  ·cases hr
 suffices key:(∀ T,(t.rd P).1 T=true->∀ fuel cs d ps,DataW.trod enc P W 0 (fun _=>true) true fuel T cs=some (d,ps)->mB enc P W t T cs d ps)/\
   ∀ off fs,(t.rd P).2 off fs=true->∀ (fuel:Nat) (cs:List Value) (xs:List (DataW H×List MemPlace)),cs.length=off+t.w->fs.mapM (fun f=>DataW.trod enc P W 0 (fun _=>true) true fuel f.type ((cs.drop f.offset).take (P.cellsOf f.type)))=some xs->
   ∃ x:t.D,t.okD x/\t.rep (fun _=>False) W (cs.drop off) x/\∀ (W':World) (sp:Nat->Bool),Below W W'->(∀ q∈xs.flatMap (·.2),sp q.block=true)->∃ n,fs.mapM (fun f=>DataW.trod enc P W' 0 sp true n f.type ((cs.drop f.offset).take (P.cellsOf f.type)))=some xs from key.1
 induction t with
 |int k=>
  have h:∀ T,((Ty.int k).rd P).1 T=true->∀ fuel cs d ps,DataW.trod enc P W 0 (fun _=>true) true fuel T cs=some (d,ps)->mB enc P W (.int k) T cs d ps:=by
   (intro T hT fuel cs d ps h;simp only[Ty.rd,eK] at hT;split at hT;·rename_i k' hu;simp only[decide_eq_true_eq] at hT;subst hT;obtain⟨z,rfl,he,hw⟩:=DataW.trod_int hu h;cases he;(have h2:IntKind.min k'<=z/\z<=IntKind.max k':=by simpa [Lit.wf,IntKind.has] using hw);exact⟨z,h2,rfl,fun W' sp _ _=>⟨1,trod_int_mk 0 hu hw⟩⟩);·cases hT
  exact⟨h,single (.int k) 1 rfl h⟩
 |bool=>
  have h:∀ T,(Ty.bool.rd P).1 T=true->∀ fuel cs d ps,DataW.trod enc P W 0 (fun _=>true) true fuel T cs=some (d,ps)->mB enc P W .bool T cs d ps:=by
   (intro T hT fuel cs d ps h;simp only[Ty.rd,eK] at hT;split at hT;·rename_i hu;obtain⟨z,rfl,he⟩:=DataW.trod_bool hu h;cases he;exact⟨z,trivial,rfl,fun W' sp _ _=>⟨1,by unfold DataW.trod;rw[hu]⟩⟩);·cases hT
  exact⟨h,single .bool 1 rfl h⟩
 |str=>
  have h:∀ T,(Ty.str.rd P).1 T=true->∀ fuel cs d ps,DataW.trod enc P W 0 (fun _=>true) true fuel T cs=some (d,ps)->mB enc P W .str T cs d ps:=by
   (intro T hT fuel cs d ps h;simp only[Ty.rd,eK] at hT;split at hT;·rename_i hu;obtain⟨z,rfl,he,hz⟩:=DataW.trod_string hu h;cases he;refine⟨z.data.toList,by simpa [Ty.okD] using hz,rfl,fun W' sp _ _=>shut_string_cell hu hz⟩);·cases hT
  exact⟨h,single .str 1 rfl h⟩
 |unit=>exact⟨fun T h=>by simp[Ty.rd] at h,fun off fs h=>by simp[Ty.rd] at h⟩
 |ptr t _=>exact⟨fun T h=>by simp[Ty.rd] at h,fun off fs h=>by simp[Ty.rd] at h⟩
 |opt t _=>exact⟨fun T h=>by simp[Ty.rd] at h,fun off fs h=>by simp[Ty.rd] at h⟩
 |func=>exact⟨fun T h=>by simp[Ty.rd] at h,fun off fs h=>by simp[Ty.rd] at h⟩
 |pair a b iha ihb=>
  refine⟨fun T h=>by simp[Ty.rd] at h,?_⟩;intro off fs hr fuel cs xs hl hm;simp only[Ty.rd] at hr;split at hr
  ·rename_i f r;simp only[Bool.and_eq_true,beq_iff_eq] at hr;obtain⟨⟨⟨h1,h2⟩,h3⟩,h4⟩:=hr;rw[List.mapM_cons,Option.bind_eq_bind,Option.bind_eq_some_iff] at hm;obtain⟨⟨d,ps⟩,hd,hm⟩:=hm;rw[Option.bind_eq_bind,Option.bind_eq_some_iff] at hm;obtain⟨ys,hys,hm⟩:=hm;simp at hm;subst hm;rw[h1,h2] at hd;simp only[Ty.w] at hl;obtain⟨x,g1,g2,g3⟩:=iha.1 _ h3 _ _ _ _ hd;obtain⟨y,k1,k2,k3⟩:=ihb.2 _ _ h4 _ _ _ (by omega) hys;refine⟨(x,y),⟨g1,k1⟩,⟨(cs.drop off).take a.w,cs.drop (off+a.w),?_,g2,k2⟩,fun W' sp hB hq=> ?_⟩;·rw[<- List.drop_drop,List.take_append_drop]
   ·obtain⟨n,hn⟩:=g3 W' sp hB (fun q hq'=>hq q (by simp[hq']));obtain⟨m,hm⟩:=k3 W' sp hB (fun q hq'=>hq q (by rw[List.flatMap_cons];exact List.mem_append_right _ hq'));refine⟨max n m,?_⟩;rw[List.mapM_cons,h1,h2,DataW.trod_le (Nat.le_max_left n m) hn];have:r.mapM (fun f=>DataW.trod enc P W' 0 sp true (max n m) f.type ((cs.drop f.offset).take (P.cellsOf f.type)))=some ys:=by
     obtain⟨q1,q2⟩:=mapM_at hm;refine pw q1 fun i f hf=> ?_;(have hi:i<ys.length:=by rw[q1];exact(List.getElem?_eq_some_iff.1 hf).1);have:=q2 i f hf;rw[List.getElem?_eq_getElem hi] at this ⊢;exact DataW.trod_le (Nat.le_max_right n m) this
    simp[this]
  ·cases hr
 |st t ih=>
  have h:∀ T,((Ty.st t).rd P).1 T=true->∀ fuel cs d ps,DataW.trod enc P W 0 (fun _=>true) true fuel T cs=some (d,ps)->mB enc P W (.st t) T cs d ps:=by
   (intro T hT fuel cs d ps h;simp only[Ty.rd,eK] at hT;split at hT;·rename_i fs hu;simp only[Bool.and_eq_true,beq_iff_eq] at hT;obtain⟨xs,n,rfl,he,hl,hxl,hx⟩:=DataW.trod_struct hu h;cases he;obtain⟨x,g1,g2,g3⟩:=ih.2 0 _ hT.2 n cs xs (by rw[hl,hT.1];omega) (pw (by rw[hxl];rfl) (fun i f hf=>hx i f (by simpa using hf)));refine⟨x,g1,(show t.rep (fun _=>False) W cs x by simpa using g2),fun W' sp hB hq=> ?_⟩;obtain⟨m,hm⟩:=g3 W' sp hB hq;exact⟨m+1,trod_struct_mk hu hl hm⟩);·cases hT
  exact⟨h,single (.st t) t.w rfl h⟩
 |arr n t ih=>
  have h:∀ T,((Ty.arr n t).rd P).1 T=true->∀ fuel cs d ps,DataW.trod enc P W 0 (fun _=>true) true fuel T cs=some (d,ps)->mB enc P W (.arr n t) T cs d ps:=by
   intro T hT fuel cs d ps h;simp only[Ty.rd,eK] at hT;split at hT
   ·rename_i m E hu;simp only[Bool.and_eq_true,beq_iff_eq] at hT;obtain⟨⟨⟨rfl,h2⟩,h3⟩,h4⟩:=hT;obtain⟨xs,k,rfl,he,hl,hxl,hx⟩:=DataW.trod_array hu h;cases he;have each:∀ i,i<m->mB enc P W t E ((cs.drop (i*t.w)).take t.w) ((xs.map (·.1)).getD i .nil) ((xs.map (·.2)).getD i []):=by
     intro i hi;have:=hx i hi;rw[h2,List.getElem?_eq_getElem (by omega)] at this;refine ih.1 E h4 k _ _ _ ?_;rw[this];simp[List.getD_eq_getElem?_getD,List.getElem?_eq_getElem (show i<xs.length by omega)]
    obtain⟨ys,q1,q2,q3⟩:=Jb (R:=fun c y=>t.rep (fun _=>False) W c y) (ok:=t.okD) m cs (by rw[hl,h3]) (fun i hi=>by obtain⟨x,e1,e2,_⟩:=each i hi;exact⟨x,e1,e2⟩);refine⟨ys,⟨q1,q2⟩,⟨q1,q3⟩,fun W' sp hB hq=> ?_⟩;obtain⟨f,hf⟩:=fuel_lt (n:=m) (q:=fun i f=>DataW.trod enc P W' 0 sp true f E ((cs.drop (i*t.w)).take t.w)=xs[i]? /\i<xs.length) (fun i a b hab hi=>by
      cases hx':xs[i]? with
      |none=>exact absurd hi.2 (by rw[List.getElem?_eq_none_iff] at hx';omega)
      |some y=>rw[hx'] at hi;exact⟨DataW.trod_le hab hi.1,hi.2⟩) (fun i hi=>by
     obtain⟨_,_,_,e3⟩:=each i hi;(have hil:i<xs.length:=by omega);obtain⟨f,hf⟩:=e3 W' sp hB (fun q hq'=>hq q (by
      rw[List.mem_flatMap];refine⟨xs[i],List.getElem_mem hil,?_⟩;simpa [List.getD_eq_getElem?_getD,List.getElem?_eq_getElem hil] using hq'))
     refine⟨f,?_,hil⟩;rw[hf,List.getElem?_eq_getElem hil];simp[List.getD_eq_getElem?_getD,List.getElem?_eq_getElem hil])
    refine⟨f+1,?_⟩;have hmm:(List.range m).mapM (fun i=>DataW.trod enc P W' 0 sp true f E ((cs.drop (i*t.w)).take t.w))=some xs:=pw (by simpa using hxl) (fun i b hb=>by
     obtain⟨hi,e⟩:=List.getElem?_eq_some_iff.1 hb;simp at hi e;subst e;exact(hf i hi).1)
    unfold DataW.trod;rw[hu];simp only[h2,hl,hmm,if_true,Option.map_some]
   ·cases hT
  exact⟨h,single (.arr n t) (n*t.w) rfl h⟩
 |slice t ih=>
  have h:∀ T,((Ty.slice t).rd P).1 T=true->∀ fuel cs d ps,DataW.trod enc P W 0 (fun _=>true) true fuel T cs=some (d,ps)->mB enc P W (.slice t) T cs d ps:=by
   intro T hT fuel cs d ps h;simp only[Ty.rd,eK] at hT;split at hT
   ·(rename_i E hu;simp only[Bool.and_eq_true,beq_iff_eq,decide_eq_true_eq] at hT;obtain⟨⟨h1,h2⟩,h3⟩:=hT;rcases open_slice hu h with⟨rfl,he⟩|⟨a,len,cap,m,k,D,Pl,rfl,hb,hl,hm,he1,he,hx⟩);·cases he;exact⟨[],⟨by simp,by simp⟩,.inl ⟨rfl,rfl⟩,fun W' sp _ _=>⟨1,by unfold DataW.trod;rw[hu];rfl⟩⟩
    ·cases he;simp only[if_true] at he1;subst he1;rw[h1] at hx;have each:∀ i,i<m->∃ c,c.length=t.w/\(∀ j,j<t.w->W.cell? (a.add (i*t.w+j))=c[j]?)/\mB enc P W t E c (D i) (Pl i):=by
      intro i hi;obtain⟨c,hc,hd⟩:=hx i hi;obtain⟨g1,g2⟩:=L9 hc;exact⟨c,g1,fun j hj=>by rw[<- g2 j hj,add_add],ih.1 E h3 k _ _ _ hd⟩
     obtain⟨cells,ys,q1,q2,q3,q4,q5⟩:=Jc W (R:=fun c y=>t.rep (fun _=>False) W c y) (ok:=t.okD) (a:=a) len (fun i hi=>by
      obtain⟨c,e1,e2,x,e3,e4,_⟩:=each i (by omega);exact⟨c,e1,e2,x,e3,e4⟩)
     obtain⟨b,o,p⟩:=a;have hp:0<m->p=none:=by
      intro hlen;obtain⟨c,e1,e2,_⟩:=each 0 hlen;have:=e2 0 h2;rw[List.getElem?_eq_getElem (by omega)] at this;simp only[Nat.zero_mul,Nat.add_zero] at this;unfold World.cell? Addr.add at this;split at this
      ·cases p with
       |none=>rfl
       |some _=>simp at this
      ·cases this
     have hne:ys≠ []->p=none:=fun h=>hp (by cases ys with
      |nil=>exact absurd rfl h
      |cons y ys=>simp at q2;omega)
     refine⟨ys,⟨by omega,q3⟩,.inr ⟨b,o,p,m,cells,by rw[q2],hne,by omega,hm,q4,fun _ h=>h,fun j hj=> ?_⟩,fun W' sp hB hq=> ?_⟩
     ·have hys:ys≠ []:=by
       intro e;subst e;have e:cells= []:=q4;subst e;simp at hj
      obtain rfl:=hne hys;have:=q5 j (by omega);rw[<- this,addr_add];simp
     ·by_cases h0:m=0
      ·subst h0;(have hlen:len=0:=by omega);subst hlen;refine⟨1,?_⟩;unfold DataW.trod;rw[hu];simp[MemPlace.row,hm]
      ·have hs:sp b=true:=hq (.cell b o) (by
        simp only[MemPlace.row,List.mem_append,List.mem_map,List.mem_range];exact .inl ⟨0,by rw[h1];exact Nat.mul_pos (by omega) h2,by simp⟩)
       have:=shut_slice_whole_cells (enc:=enc) (w:=W') (base:=0) (spare:=sp) (held:=true) (a:=⟨b,o,p⟩) hu hb hl hm hs D Pl (fun i hi=>by
        obtain⟨c,e1,e2,x,e3,e4,e5⟩:=each i hi;obtain⟨n,hn⟩:=e5 W' sp hB (fun q hq'=>hq q (by
         rw[List.mem_append];right;rw[List.mem_flatMap];exact⟨i,by simpa using hi,hq'⟩))
        refine⟨c,n,?_,hn⟩;rw[h1];refine P4 e1 fun j hj=> ?_;rw[add_add];have:=e2 j hj;rw[List.getElem?_eq_getElem (by omega)] at this ⊢;exact hB.cell this)
       exact this
   ·cases hT
  exact⟨h,single (.slice t) 1 rfl h⟩
end
end Go.Cm
end
section
namespace Go.Cm
open Go.RowKit Go.Deep Go.ChangeShapes Go.WideShapes Go.ChangeAt
def HL:List Ty->Type
 | []=>Unit
 |t::ts=>t.D×HL ts
def HL.args:(ts:List Ty)->HL ts->List LV
 | [],_=> []
 |t::ts,x=> .z t x.1::HL.args ts x.2
def HL.ok:(ts:List Ty)->HL ts->Prop
 | [],_=>True
 |t::ts,x=>t.okD x.1/\HL.ok ts x.2
theorem TO{P:Program}{W:World}{r:Reach}{b0:Nat}{T:TypeId}{v:Value}(hv:Value.okWide P W r b0 T v):∀ {t:Ty},(t.rd P).1 T=true->eU v=t.isAgg
 | .int k,h=>by
  simp only[Ty.rd,eK] at h;split at h;·rename_i hu;unfold Value.okWide at hv;rw[hu] at hv;simp only at hv;unfold Cell.okWide at hv;rw[hu] at hv;cases v<;>simp_all [Cell.ok,eU,Ty.isAgg]
  ·cases h
 | .bool,h=>by
  simp only[Ty.rd,eK] at h;split at h;·rename_i hu;unfold Value.okWide at hv;rw[hu] at hv;simp only at hv;unfold Cell.okWide at hv;rw[hu] at hv;cases v<;>simp_all [Cell.ok,eU,Ty.isAgg]
  ·cases h
 | .str,h=>by
  simp only[Ty.rd,eK] at h;split at h;·rename_i hu;unfold Value.okWide at hv;rw[hu] at hv;simp only at hv;unfold Cell.okWide at hv;rw[hu] at hv;cases v<;>simp_all [Cell.ok,eU,Ty.isAgg]
  ·cases h
 | .slice t,h=>by
  simp only[Ty.rd,eK] at h;split at h;·rename_i hu;unfold Value.okWide at hv;rw[hu] at hv;simp only at hv;unfold Cell.okWide at hv;rw[hu] at hv;cases v<;>simp_all [Cell.ok,eU,Ty.isAgg]
  ·cases h
 | .st t,h=>by
  simp only[Ty.rd,eK] at h;split at h;·rename_i hu;unfold Value.okWide at hv;rw[hu] at hv;simp only at hv;obtain⟨cs,rfl,_⟩:=hv;rfl
  ·cases h
 | .arr n t,h=>by
  simp only[Ty.rd,eK] at h;split at h;·rename_i hu;unfold Value.okWide at hv;rw[hu] at hv;simp only at hv;obtain⟨cs,rfl,_⟩:=hv;rfl
  ·cases h
 | .unit,h=>by simp[Ty.rd] at h
 | .pair _ _,h=>by simp[Ty.rd] at h
 | .ptr _,h=>by simp[Ty.rd] at h
 | .opt _,h=>by simp[Ty.rd] at h
 | .func,h=>by simp[Ty.rd] at h
def wN(P:Program):List Ty->List TypeId->Bool
 | [],[]=>true
 |t::ts,T::Ts=>(t.rd P).1 T&&wN P ts Ts
 |_,_=>false
theorem Ew{H:Type}{enc:TypeId×Value->H}{P:Program}{W:World}{b0:Nat}:∀ (ts:List Ty) {Ts:List TypeId} {vs:List Value} {ds:List (DataW H)} {p:List MemPlace},wN P ts Ts=true->
  (∀ (j:Nat) t v,Ts[j]? =some t->vs[j]? =some v->Value.okWide P W .any b0 t v)->DataW.TrodAll enc P W 0 (fun _=>true) true Ts vs ds p->
  ∃ x:HL ts,HL.ok ts x/\bC (aV (fun _=>False) W (fun _=>undef)) (HL.args ts x) vs/\ds.length=ts.length/\
   ∀ (W':World) (sp:Nat->Bool),Below W W'->(∀ q∈p,sp q.block=true)->DataW.TrodAll enc P W' 0 sp true Ts vs ds p
 | [],[],vs,ds,p,_,_,h=>by
  obtain⟨rfl,rfl,rfl⟩:=trodAll_nil h;exact⟨(),trivial,trivial,rfl,fun _ _ _ _=>rfl⟩
 |t::ts,T::Ts,vs,ds,p,hr,hv,h=>by
  simp only[wN,Bool.and_eq_true] at hr;obtain⟨v,vs',d,ds',p0,q,rfl,rfl,rfl,⟨n,h0⟩,hs⟩:=trodAll_cons h;obtain⟨x,g1,g2,g3⟩:=P5 enc P W t T hr.1 n _ _ _ h0;obtain⟨y,k1,k2,k3,k4⟩:=Ew ts hr.2 (fun j t v h1 h2=>hv (j+1) t v (by simpa using h1) (by simpa using h2)) hs;refine⟨(x,y),⟨g1,k1⟩,⟨⟨TO (hv 0 T v rfl rfl) hr.1,g2⟩,k2⟩,by simp[k3],fun W' sp hB hq=> ?_⟩;obtain⟨m,hm⟩:=g3 W' sp hB (fun q hq'=>hq q (by simp[hq']));exact trodAll_cons_mk ⟨m,hm⟩ (k4 W' sp hB (fun q hq'=>hq q (by simp[hq'])))
 | [],_::_,_,_,_,hr,_,_=>by simp[wN] at hr
 |_::_,[],_,_,_,hr,_,_=>by simp[wN] at hr
def nr(W:World):aj:=⟨W.heap.size,fun b=>W.heap[b]?⟩
theorem Gs(W:World):(nr W).On W:=⟨Nat.le_refl _,fun _ _=>rfl⟩
theorem Ma{P:Program}{f:FuncId}{con:Con}{W:World}{args:List LV}{vals:Array Value}(hv:Valid (nr W) P f con){C:Prop}(hc:con args []=some (C,[.z .bool true],[]))(hC:C)
  (ha:bC (aV (fun _=>False) W (fun _=>undef)) args vals.toList):
  Calls P f vals W fun e W'=>e= .returned (.bool true)/\W'.os=W.os/\W'.output=W.output/\W.heap.size<=W'.heap.size/\Below W W':=by
 refine(hv args [] C _ [] hc hC (fun _=>False) W vals (fun _=>undef) (Gs W) (fun b hb=>by obtain⟨p,hp,-⟩:=hb;simp[an] at hp) (fun _ h=>h.elim) (fun _ h=>h.elim) ?_ (fun p hp=>by simp[an] at hp) List.Pairwise.nil).mono ?_
 ·refine ha.imp fun x v _ hx=>bc (fun b _ hb=> ?_) (bo.refl _ _) (fun _ _=>rfl) hx;rcases hb with hb|⟨p,hp,-⟩;·exact hb
  ·simp[an] at hp
 ·rintro e W' ⟨vs,ρ1,rfl,-,hb,-,hr,-⟩;match vs,hr with
  | [v],hr=>
   have h1:aV _ W' (fun _=>undef) (.z .bool true) v:=hr.1;have h2:v.cells.toList= [.bool true]:=h1.2;have h3:v= .bool true:=by
    cases v with
    |agg cs=>have:=h1.1;cases this
    |_=>simp[Value.cells] at h2<;>simp[h2]
   (subst h3;refine⟨rfl,hb.os,hb.output,hb.size,fun b hlt=>hb.block b hlt fun hm=> ?_⟩;rcases hm with hm|⟨p,hp,-⟩;·omega);·simp[an] at hp
theorem P6{H:Type}{enc:TypeId×Value->H}{P:Program}{f:Func}{s:ChangeSpec}{apart fresh handsOn again:Bool}{W W':World}{args:Array Value}{v:Value}{ds gs:List (DataW H)}{before pa pv:List MemPlace}
  (hW:DataW.Whole enc P f.params.toList s.vars apart W args.toList ds gs before)
  (hres:∀ (b:Nat) (sp:Nat->Bool) (hd:Bool),DataW.TrodAll enc P W' b sp hd f.resultTypes.toList (v.resultList f.resultTypes.size) (s.fn H (ds++gs)).results [])
  (hargs:∀ sp:Nat->Bool,(∀ p∈before,sp p.block=true)->DataW.TrodAll enc P W' 0 sp true f.params.toList args.toList (s.fn H (ds++gs)).args pa)
  (hvars:∀ sp:Nat->Bool,(∀ p∈before,sp p.block=true)->DataW.TrodVars enc P W' sp s.vars (s.fn H (ds++gs)).vars pv)
  (hps:before=pa++pv) (hk:W.keptBut W' (· ∈before)) (hfz:∀ a:Addr,a.block<W.heap.size->W'.frozen? a=W.frozen? a)
  (hok:∀ (j:Nat) (t:TypeId) (r:Value),f.resultTypes[j]? =some t->(v.resultList f.resultTypes.size)[j]? =some r->Value.okWide P W' .any 0 t r):
  s.post enc P f apart fresh handsOn again W args v W':=by
 have hold:∀ p∈before,(fun b=>decide (b<W.heap.size)) p.block=true:=fun p hp=>by simpa using hW.lt p hp
 refine⟨ds,gs,before,[],pa,pv,hW,hres _ _ _,hargs _ hold,hvars _ hold,World.keptBut_mono (fun p hp=>⟨hp,?_⟩) hk,fun _=> ?_⟩;·rw[hps,List.mem_append] at hp;exact Or.inr hp
 ·have hlt:=hW.lt;obtain⟨_,_,_,_,_,hz,hn⟩:=hW;refine⟨hok,_,_,([]++pa)++pv,⟨[]++pa,pv,trodAll_append (hargs _ (fun _ _=>rfl)) (hres _ _ _),hvars _ (fun _ _=>rfl),rfl,?_,?_⟩,?_⟩;·intro b off hp;(have hm:MemPlace.cell b off∈before:=by rw[hps];simpa using hp);rw[hfz _ (hlt _ hm)];exact hz b off hm
  ·intro ha;have:=hn ha;rw[hps] at this;simpa using this
  ·intro p hp _;rw[hps];simpa using hp
theorem Gt{W W':World}(hB:Below W W')(a:Addr)(h:a.block<W.heap.size):W'.frozen? a=W.frozen? a:=by
 unfold World.frozen?;rw[hB a.block h]
theorem P7{W W':World}{may:MemPlace->Prop}(hos:W'.os=W.os)(hout:W'.output=W.output)(hB:Below W W'):W.keptBut W' may:=by
 have h:=World.keptBut_refl W may;exact⟨hos,hout,fun i hi=>by rw[hB i hi];exact h.2.2 i hi⟩
def Ex(s:ChangeSpec)(n:Nat):Prop:=s.vars= []/\∀ (H:Type) (ds:List (DataW H)),ds.length=n->s.fn H (ds++ [])={results:= [.lit (.bool true)],args:=ds}
theorem AB{H:Type}{enc:TypeId×Value->H}{P:Program}{f:FuncId}{fn:Func}{con:Con}{ts:List Ty}{tb:TypeId}{s:ChangeSpec}{W:World}{base:Nat}{args:Array Value}{ds gs:List (DataW H)}{before:List MemPlace}
  (hts:wN P ts fn.params.toList=true) (hrt:fn.resultTypes= #[tb]) (hb:P.underlying tb=some .bool) (hs:Ex s ts.length)
  (hcon:∀ x:HL ts,HL.ok ts x->∃ C,con (HL.args ts x) []=some (C,[.z .bool true],[])/\C) (hv:Valid (nr W) P f con)
  (hval:∀ (j:Nat) t v,fn.params[j]? =some t->args[j]? =some v->Value.okWide P W .any base t v)
  (hW:DataW.Whole enc P fn.params.toList s.vars false W args.toList ds gs before):
  Calls P f args W fun e W'=>∃ v,e= .returned v/\s.post enc P fn false true false false W args v W':=by
 have hW':=hW;obtain⟨p,q,hA,hV,rfl,hfz,hnd⟩:=hW;rw[hs.1] at hV;obtain⟨rfl,rfl⟩:=trodVars_none hV;obtain⟨x,hx,ha,hl,again⟩:=Ew (b0:=base) ts hts (fun j t v h1 h2=>hval j t v (by simpa using h1) (by simpa using h2)) hA;obtain⟨C,hC1,hC2⟩:=hcon x hx;refine(Ma hv hC1 hC2 ha).mono fun e W' ⟨he,hos,hout,hsz,hB⟩=> ?_;subst he;have hspec:=hs.2 H ds hl;refine⟨_,rfl,P6 (pa:=p) (pv:= []) hW' (fun _ _ _=> ?_) (fun sp hsp=> ?_) (fun _ _=> ?_) rfl (P7 hos hout hB) (Gt hB) (ok_one hrt rfl (okWide_bool_mk hb _))⟩;·rw[hspec,hrt];exact trodAll_cons_mk (shut_bool hb _) trodAll_mk0
 ·rw[hspec];exact again W' sp hB (fun z hz=>hsp z (by simp[hz]))
 ·rw[hspec,hs.1];rfl
end Go.Cm
end
section
namespace Go.Cm
open Go
theorem P8{k:IntKind}{x a b:Int}(h:(Ty.int k).okD x)(h1:k.min=a)(h2:k.max=b):a<=x/\x<=b:=by
 have h:k.min<=x/\x<=k.max:=h;rw[h1,h2] at h;exact h
theorem Uq{x:Int}(h:(Ty.int .u8).okD x):0<=x/\x<256:=by
 have:=P8 (a:=0) (b:=255) h (by decide) (by decide);omega
end Go.Cm
end
section
namespace Go.Proofs.YtdojbabpnaifoaaGreatDoor
open Go Go.Cm Go.Proofs Go.ChangeShapes Go.WideShapes Go.ChangeAt Go.RowKit Go.Deep Go.Joins
def AC:DataW Unit->Array Value
 | .agg l=>(l.map fun x=>match x with
  | .lit (.int k n)=>Value.int k n
  |_=>Value.bool false).toArray
 |_=> #[]
noncomputable def P9(h:Array Obj)(name:String)(cs:Array Value):Array Obj:=h.modify ((Tryz.prog.globalNamed name).getD 0) fun o=>match o with
 | .cells _ t f=> .cells cs t f
 |o=>o
noncomputable def Qa:Nat:=(World.holding Tryz.prog default ⟨#[],#[],[]⟩).heap.size
noncomputable def wO(os:Os):World:=
 let w0:=World.holding Tryz.prog os ⟨#[.cells #[.string {data:= #[118,97,108,117,101,32,111,117,116,32,111,102,32,114,97,110,103,101]}] 239,.cells #[.string {data:= #[105,110,118,97,108,105,100,32,115,121,110,116,97,120]}] 239],#[],[]⟩
 {w0 with heap:=(P9 (P9 (P9 (P9 (P9 w0.heap "strconv.ErrRange" #[.iface 237 (.pointer (some ⟨Qa+0,0,none⟩))]) "strconv.ErrSyntax" #[.iface 237 (.pointer (some ⟨Qa+1,0,none⟩))]) "math/bits.deBruijn32tab" (AC Rows.laid_math_bits_deBruijn32tab)) "math/bits.deBruijn64tab" (AC Rows.laid_math_bits_deBruijn64tab)) "internal/strconv.uint64pow10" (AC Rows.laid_internal_strconv_uint64pow10))}
theorem Qb:(Rows.laid_internal_strconv_uint64pow10:DataW Unit)=Lib.tabData .u64 Lib.pow10Tab:=by kernel_rfl
noncomputable def wP:Nat:=(Tryz.prog.globalNamed "internal/strconv.uint64pow10").getD 0
noncomputable def Jd:Nat:=((Tryz.prog.globals[wP]?).map (·.type)).getD 0
noncomputable def Qc:Nat:=match Tryz.prog.underlying Jd with
 |some (.array _ e)=>e
 |_=>0
theorem SL:Tryz.prog.globalNamed "internal/strconv.uint64pow10"=some wP:=by kernel_rfl
theorem Ur:(Tryz.prog.globals[wP]?).map (·.type)=some Jd:=by kernel_rfl
theorem Us:Tryz.prog.underlying Jd=some (.array 20 Qc):=by kernel_rfl
theorem Ut:Tryz.prog.underlying Qc=some (.int .u64):=by kernel_rfl
theorem Uu:Tryz.prog.cellsOf Qc=1:=by kernel_rfl
theorem Uv:Tryz.prog.cellsOf Jd=20:=by kernel_rfl
theorem Sy{l:List (String×DataW Unit)}{W:World}(h:laidMet Tryz.prog (("internal/strconv.uint64pow10",Rows.laid_internal_strconv_uint64pow10)::l) W):∀ w,(nr W).On w->Lib.TabIs Tryz.prog w "internal/strconv.uint64pow10" .u64 Lib.pow10Tab:=by
 intro w hw;rw[Qb] at h;have ht:=Lib.tabIs_of_head SL Ur Us Ut Uu Uv h;unfold Lib.TabIs World.var? at ht ⊢;rw[SL] at ht ⊢;simp only[Option.bind_some] at ht ⊢;by_cases hlt:wP<W.heap.size;·have he:w.heap[wP]? =W.heap[wP]? :=hw.2 wP hlt;rw[he];exact ht
 ·rw[Array.getElem?_eq_none (by omega)] at ht;cases ht
theorem SA{W:World}(h:W.ShapedOpen Tryz.prog):TT (nr W):=by
 obtain⟨m,hm⟩:=Go.Proofs.cell_of_shapedOpen_int (g:=0) (t:=3) (zero:= #[.int .i64 0]) (k:= .i64) h (by decide+kernel) (by kernel_rfl) rfl (by kernel_rfl) (by kernel_rfl) (by kernel_rfl);intro w hw;have hlt:(0:Nat)<W.heap.size:=by
  unfold World.cell? at hm;rcases Nat.lt_or_ge 0 W.heap.size with h0|h0;·exact h0
  ·rw[Array.getElem?_eq_none h0] at hm;cases hm
 have he:w.heap[0]? =W.heap[0]? :=hw.2 0 hlt;exact⟨m,(World.cell?_of_block (a:=⟨0,0,none⟩) he).trans hm⟩
end Go.Proofs.YtdojbabpnaifoaaGreatDoor
end
section
namespace Go.Cm
open Go
theorem SM{x:Int}(h:(Ty.int .i8).okD x): -128<=x/\x<128:=by
 have:=P8 (a:= -128) (b:=127) h (by decide) (by decide);omega
theorem Je{d:DPD}(h:(Ty.st (.pair (.slice (.int .i8)) (.pair (.int .u8) (.slice (.int .i8))))).okD d):jH d:=by
 obtain⟨⟨_,h1⟩,h2,⟨_,h3⟩⟩:=h;exact⟨fun n hn=>SM (h1 n hn),Uq h2,fun n hn=>SM (h3 n hn)⟩
end Go.Cm
end
section
namespace Go.Proofs.YtdojbabpnaifoaaGreatDoor.polyDivides
open Go Go.Cm Go.Proofs Go.ChangeShapes Go.WideShapes Go.ChangeAt Go.RowKit Go.Deep Go.Joins
theorem own:ownKnob Tryz.prog.godebug=none:=by kernel_rfl
theorem UI:Tryz.f4.resultTypes= #[4]:=by kernel_rfl
theorem Uw:Tryz.prog.underlying 4=some .bool:=by kernel_rfl
def tys:List Ty:= [(.slice .str),(.slice .str),(.st (.pair (.slice (.int .i8)) (.pair (.int .u8) (.slice (.int .i8))))),(.st (.pair (.slice (.int .i8)) (.pair (.int .u8) (.slice (.int .i8)))))]
theorem reads:wN Tryz.prog tys Tryz.f4.params.toList=true:=by kernel_rfl
theorem spec:Ex Rows.polyDividesSpec tys.length:=⟨rfl,fun _ ds h=>match ds,h with| [a0,a1,a2,a3],_=>rfl⟩
abbrev vals:Array Value:= #[.slice none 0 0,.slice none 0 0,.agg #[.slice none 0 0,.int .u8 0,.slice none 0 0],.agg #[.slice none 0 0,.int .u8 0,.slice none 0 0]]
theorem met(os:Os):laidMet Tryz.prog Rows.polyDividesRow.laid ((wO os).forCall (fun _ _=>0) ⟨#[],vals,[]⟩).memory:=
 laidMet_of_run3 8 (by kernel_rfl) (by kernel_rfl) (by kernel_rfl)
theorem witness(os:Os){H:Type}(enc:TypeId×Value->H):∃ places,DataW.whole enc Tryz.prog ((wO os).forCall (fun _ _=>0) ⟨#[],vals,[]⟩).memory Tryz.f4.params.toList Rows.polyDividesSpec.vars false vals.toList 8=some ([.nil,.nil,.agg [.nil,.lit (.int .u8 0),.nil],.agg [.nil,.lit (.int .u8 0),.nil]],[],places):=
 ⟨[],by kernel_rfl⟩
theorem UJ{W:World}(h:laidMetH Tryz.prog Rows.polyDividesRow.laid W)(hs:W.ShapedOpen Tryz.prog):aC (nr W):=by
 have hL:laidMet Tryz.prog Rows.polyDividesRow.laid W:=h;exact⟨fun w hw=>Sy (laidMet.tail (laidMet.tail hL)) w hw,SA hs⟩
theorem lifted(os:Os)(started:os.Started)(H:Type)(enc:TypeId×Value->H)(F:Stop.Interp):
  ReturnsInHanded {} Tryz.checked os 4 .any ((OpenSpec.ofChange Rows.polyDividesSpec).preRow enc Tryz.prog Tryz.f4 Rows.polyDividesRow.domain false Rows.polyDividesRow.laid) (((OpenSpec.ofChange Rows.polyDividesSpec).at F).post enc Tryz.prog Tryz.f4 false true false false):=by
 obtain⟨places,hx⟩:=witness os enc;refine returnsInHanded_of_row (C:=Tryz.checked) (s:=OpenSpec.ofChange Rows.polyDividesSpec) own started (by kernel_rfl) Tryz.func4
  (witness_row_at (enc:=enc) (C:=Tryz.checked) false (wO os) vals rfl (by kernel_rfl) (by kernel_rfl) (by kernel_rfl)
   (OpenSpec.preRow_of_cond 8 hx (by kernel_rfl) (fun k hk=>by cases hk) (by kernel_rfl) (met os))) ?_
 intro W base args ds gs before hval hW _ _ _ hL hSh _;exact AB (ts:=tys) (con:=AA) reads UI Uw spec (fun x h=>by obtain⟨x0,x1,x2,x3,⟨⟩⟩:=x;obtain⟨h0,h1,h2,h3,-⟩:=h;exact⟨_,rfl,⟨Je h2,Je h3⟩⟩) (L8 (UJ hL hSh)) hval hW
theorem said:Rows.PolyDividesSaid:=
 OpenClaim.holds_of_cond 4 Tryz.f4 rfl rfl rfl rfl rfl rfl rfl ⟨rfl,rfl,rfl,rfl,rfl⟩ rfl rfl rfl rfl rfl (by kernel_rfl) Tryz.func4 (by kernel_rfl)
  (of_decide_eq_true (by kernel_rfl)) (by unfold Func.isWrapper;first|(rw[if_pos (by decide+kernel)];kernel_rfl)|(rw[if_neg (by decide+kernel)];exact⟨rfl,rfl⟩))
  (fun os started H enc _ F=>by rw[OpenClaim.pre_eq_preRow];exact lifted os started H enc F)
theorem plain(f:FuncId)(fn:Func)(hf:Tryz.pinned.checked.prog.funcNamed "croupier/croupierlaw04.PolyDivides"=some f)(hfn:Tryz.pinned.checked.prog.funcs[f]? =some fn):
  true=Tryz.pinned.checked.prog.looks []/\∀ (j:Nat) t,fn.params[j]? =some t->Tryz.pinned.checked.prog.wantsStandIn t=false:=by
 obtain rfl:f=4:=Option.some.inj ((show Tryz.prog.funcNamed "croupier/croupierlaw04.PolyDivides"=some 4 by kernel_rfl).symm.trans hf)|>.symm;obtain rfl:fn=Tryz.f4:=(Option.some.inj (Tryz.func4.symm.trans hfn)).symm;refine⟨by kernel_rfl,fun j t ht=> ?_⟩;have hall:Tryz.f4.params.toList.all (fun t=> !Tryz.prog.wantsStandIn t)=true:=by kernel_rfl
 have:=List.all_eq_true.1 hall t (by simpa using Array.mem_of_getElem? ht);exact(by simpa using this:Tryz.prog.wantsStandIn t=false)
theorem card:Rows.PolyDividesCardSaid:=
 Claim7.holds_tied_plain_at .later [] _ _ _ _ said (fun _ h=>by cases h) (by kernel_rfl) (fun _ h=>by cases h) polyDivides_row_tie rfl ⟨rfl,rfl⟩ (by kernel_rfl) rfl plain (by kernel_rfl)
end Go.Proofs.YtdojbabpnaifoaaGreatDoor.polyDivides
end