/- Merged by a program out of several texts. -/
import Derived.Test.YtdojbabpnaifoaaGreatDoorC3
import Derived.Test.YtdojbabpnaifoaaGreatDoorC2
import Derived.Test.YtdojbabpnaifoaaGreatDoorProg
import Derived.Test.YtdojbabpnaifoaaGreatDoorC4
import Derived.Deep.LoopGhost
import Derived.Lib.Walk
import Derived.Lib.SliceRun
import Derived.KernelRfl
set_option linter.all false
set_option linter.unusedSimpArgs false
set_option linter.unusedVariables false
set_option maxRecDepth 100000
section
namespace Go.Proofs.YtdojbabpnaifoaaGreatDoor
open Go Go.Cm Go.Proofs
def um(B:aj):Tab:={types:= [(3,(.int .i64)),(181,(.slice (.int .i64)))],elems:= [(181,3)],cons:= [(160,im),(161,lO),(164,lP),(183,mf)],hint:= [23,31,50],N:=125,base:=B}
theorem Fz{B:aj}(hB:aC B):aK Tryz.prog (um B):=⟨⟨tc ty3 (tc jy (ae)),aR (by kernel_rfl) (af),by simp only[um,ioB];omega⟩,aF (cc Tryz.func160 (Am hB) (cc Tryz.func161 (An hB) (cc Tryz.func164 (Ao hB) (cc Tryz.func183 (nD hB) (ay))))),by kernel_rfl⟩
def jH:Con:=fun l os=>match l,os with
 | [.z (.slice (.int .i64)) a, .z (.slice (.int .i64)) b], []=>some (D.Cano a/\D.Cano b/\b≠ []/\a.length+b.length+2<CAP, [.z (.slice (.int .i64)) (D.limbs (D.valL a/D.valL b).toNat), .z (.slice (.int .i64)) (D.limbs (D.valL a%D.valL b).toNat)], [])
 |_,_=>none
set_option maxHeartbeats 1000000 in
theorem At{B:aj}(hB:aC B):Valid B Tryz.prog 165 jH:=by
 refine ab (Fz hB).tab Tryz.func165 rfl rfl rfl ?_
 intro args os C rs os' hc hC
 unfold jH at hc
 split at hc
 case h_2=>cases hc
 rename_i a b
 cases hc
 refine v_h (Fz hB) fun X hP hT hr hG=> ?_
 have hU:=um.eq_1
 unfold um at hT
 have hX:=ai @im.eq_1<|ai @mf.eq_1<|ai @lO.eq_1<| @lP.eq_1
 simp only[Tryz.f165,aD,al,ioB]
 refine s_g hG ?_
 refine ct (fun(z:Nat)=>(⟨[(0, .l (.z (.slice (.int .i64)) a)),(1, .l (.z (.slice (.int .i64)) b)),(6, .l (.z (.int .i64) (z:Int)))], []⟩:aa)) (fun z=>b.length=z+1) ?_ ?_
 ·refine ag hG ?_ ?_
  ·first|trivial|omega|(simp;done)|(simp;omega)
  show ∃ z,_
  refine q_l ?_
  exact D.len_pred hC.2.2.1 hC.2.2.2
 rintro n hn
 try dsimp only at hn
 obtain⟨c1,c2,c3,c4⟩:=hC
 have c4:List.length a+List.length b+2<1000000000000:=c4
 have hp:=(D.valL_pos c2).2 c3
 have hwn:IntKind.i64.wrap ((n:Int)-1)=(n:Int)-1:=wi (by omega) (by omega)
 refine ak ?_
 refine s_g hG ?_
 refine aq ?_ ?_
 ·intro hb0
  try simp only[decide_eq_true_eq] at hb0
  refine s_q hG ?_ ?_
  ·try simp only[ba]
   unfold Cm.Roomy;omega
  refine az ?_
  refine aB ?_
  refine q_e [23] ?_
  exact D.div_small c1 c2 c3 hn (by omega)
 ·intro hb0
  simp only[decide_eq_false_iff_not] at hb0
  have hwl:IntKind.i64.wrap ((List.length a:Int)-(n:Int))=((List.length a-n:Nat):Int):=by rw[wi (by omega) (by omega)];omega
  refine ar ?_
  refine ah ?_
  refine s_q hG ?_ ?_
  ·try simp only[ba]
   rw[hwl]
   exact⟨by omega,by omega,by unfold Cm.Roomy;omega⟩
  refine s_q hG ?_ ?_
  ·try simp only[ba]
   rw[hwl,Int.toNat_natCast,Int.toNat_natCast,List.take_length,List.length_drop]
   exact⟨⟨by omega,by omega,Int.le_refl _⟩,by unfold Cm.Roomy;omega⟩
  refine ak ?_
  refine s_g hG ?_
  refine au ?_
  refine Jb [31] (by simp only[hT,um,mr0,mr1,mr2,jK,Nat.reduceLT,Nat.reduceEqDiff,Nat.reduceAdd,Nat.reduceMul,Nat.reduceSub,Nat.reduceLeDiff,Nat.reduceBEq,Nat.reduceBNe,reduceIte,reduceDIte,reduceCtorEq];rfl) ?_
  refine br (fun(z:Nat×List Int×List Int)=>(⟨[(0, .l (.z (.slice (.int .i64)) a)),(1, .l (.z (.slice (.int .i64)) b)),(6, .l (.z (.int .i64) (n:Int))),(7, .l (.ownS 30)),(8, .l (.z (.slice (.int .i64)) z.2.2)),(9, .l (.z (.int .i64) ((z.1:Int)-1)))], [(30, .arr (.int .i64) 3 z.2.1)]⟩:aa)) (fun z=>D.DivPhi a b z.1 z.2.1 z.2.2) (fun z=>z.1) (List.length a-n,List.replicate (List.length a-n) 0,List.drop (List.length a-n) a) ?_ ?_ ?_
  ·refine q_l ?_
   rw[hwl,Int.toNat_natCast,Int.toNat_natCast,List.take_length,List.length_replicate]
   exact⟨rfl,wi (by omega) (by omega),rfl⟩
  ·exact D.div_start c1 c2 c3 hn (by omega)
  ·rintro⟨k,q,rest⟩ hz
   try dsimp only at hz
   have hz1:=hz.hk
   have hz2:=hz.hq
   refine ak ?_
   refine s_g hG ?_
   refine aq ?_ ?_
   ·intro hb1
    try simp only[decide_eq_true_eq] at hb1
    obtain⟨i,rfl⟩:∃ i,k=i+1:=⟨k-1,by omega⟩
    have ei:((i+1:Nat):Int)-1=(i:Int):=by omega
    rw[ei]
    have hrsl:=D.rest_len c2 c3 hz.hr
    refine ar ?_
    refine ah ?_
    refine ak ?_
    refine au ?_
    refine ct (fun(z:Unit)=>(⟨[(0, .l (.z (.slice (.int .i64)) a)),(1, .l (.z (.slice (.int .i64)) b)),(6, .l (.z (.int .i64) (n:Int))),(7, .l (.ownS 30)),(8, .l (.z (.slice (.int .i64)) (D.limbs (D.R1 a b i).toNat))),(9, .l (.z (.int .i64) (i:Int)))], [(30, .arr (.int .i64) 3 q)]⟩:aa)) (fun z=>True) ?_ ?_
    ·refine ag hG ?_ ?_
     ·try simp only[ba]
      exact⟨⟨by omega,by omega⟩,by unfold Cm.Roomy;omega,(D.cons_limbs c1.1 hp hz.hr).1,by unfold CAP;omega⟩
     show ∃ z,_
     refine q_l ?_
     rw[D.nth64,(D.cons_limbs c1.1 hp hz.hr).2]
    rintro⟨⟩ hu
    try dsimp only at hu
    have hrl:=D.r1_len (i:=i) c1.1 c2 c3 hn
    have hrf:=D.r1_facts (i:=i) c1.1 hp
    have hrc:=D.limbs_can (D.R1 a b i).toNat
    have hdn:=D.div_next (d:=(D.R1 a b i/D.valL b)) c1.1 c2 c3 hz rfl
    refine s_g hG ?_
    refine ak ?_
    refine s_g hG ?_
    refine au ?_
    refine br (fun(z:Nat×Int×Int)=>(⟨[(0, .l (.z (.slice (.int .i64)) a)),(1, .l (.z (.slice (.int .i64)) b)),(6, .l (.z (.int .i64) (n:Int))),(7, .l (.ownS 30)),(8, .l (.z (.slice (.int .i64)) (D.limbs (D.R1 a b i).toNat))),(9, .l (.z (.int .i64) (i:Int))),(10, .l (.z (.int .i64) z.2.1)),(11, .l (.z (.int .i64) z.2.2)),(12, .l (.z (.int .i64) ((z.1:Int)-1)))], [(30, .arr (.int .i64) 3 q)]⟩:aa)) (fun z=>D.TopPhi (D.limbs (D.R1 a b i).toNat) b n z.1 z.2.1 z.2.2) (fun z=>z.1) (n+2,0,0) ?_ ?_ ?_
    ·refine q_l ?_
     rw[wi (by omega) (by omega)]
     show (n:Int)+1=((n+2:Nat):Int)-1
     omega
    ·exact D.top_start hrl hn
    ·rintro⟨j,top,first⟩ hj
     try dsimp only at hj
     have hj1:=hj.hj
     refine ak ?_
     refine s_g hG ?_
     refine aq ?_ ?_
     ·intro hb2
      simp only[decide_eq_true_eq] at hb2
      rw[hwn] at hb2
      obtain⟨j,rfl⟩:∃ j2,j=j2+1:=⟨j-1,by omega⟩
      have ej:((j+1:Nat):Int)-1=(j:Int):=by omega
      rw[ej]
      have htv:=D.top_vals hrc.1 hrl c2.1 hn hj (by omega)
      refine ar ?_
      refine ah ?_
      refine ak ?_
      refine au ?_
      refine s_g hG ?_
      refine ct (fun(z:Unit)=>(⟨[(0, .l (.z (.slice (.int .i64)) a)),(1, .l (.z (.slice (.int .i64)) b)),(6, .l (.z (.int .i64) (n:Int))),(7, .l (.ownS 30)),(8, .l (.z (.slice (.int .i64)) (D.limbs (D.R1 a b i).toNat))),(9, .l (.z (.int .i64) (i:Int))),(10, .l (.z (.int .i64) top)),(11, .l (.z (.int .i64) (D.valL (List.drop j (D.limbs (D.R1 a b i).toNat))))),(12, .l (.z (.int .i64) (j:Int)))], [(30, .arr (.int .i64) 3 q)]⟩:aa)) (fun z=>True) ?_ ?_
      ·refine s_g hG ?_
       refine aq ?_ ?_
       ·intro hb3
        try simp only[bt] at hb3
        refine ag hG ?_ ?_
        ·try simp only[ba]
         exact⟨by omega,hb3⟩
        show ∃ z,_
        refine q_l ?_
        first|(rw[D.nth64,htv.1,htv.2.1];exact htv.2.2.2.2.1)|(rw[htv.1];have h9:=htv.2.2.2.2.1;rw[D.getD_none (by omega),Int.add_zero] at h9;exact h9)
       ·intro hb3
        try simp only[bf] at hb3
        refine ar ?_
        show ∃ z,_
        refine q_l ?_
        first|(rw[D.nth64,htv.1,htv.2.1];exact htv.2.2.2.2.1)|(rw[htv.1];have h9:=htv.2.2.2.2.1;rw[D.getD_none (by omega),Int.add_zero] at h9;exact h9)
      rintro⟨⟩ hu2
      try dsimp only at hu2
      refine s_g hG ?_
      refine aq ?_ ?_
      ·intro hb4
       try simp only[bt] at hb4
       refine ag hG ?_ ?_
       ·try simp only[ba]
        exact⟨by omega,by omega⟩
       refine aQ ?_
       refine ah ?_
       refine ag hG ?_ ?_
       ·first|trivial|omega|(simp;done)|(simp;omega)
       show ∃ z,_
       refine q_l ?_
       first|exact⟨j,wi (by omega) (by omega),⟨by omega,by rw[D.nth64,htv.2.2.1,htv.2.2.2.1];exact htv.2.2.2.2.2.1 (by omega),rfl⟩,by omega⟩|exact⟨j,wi (by omega) (by omega),⟨by omega,htv.2.2.2.2.2.2 (by omega),rfl⟩,by omega⟩
      ·intro hb4
       try simp only[bf] at hb4
       refine ar ?_
       refine aQ ?_
       refine ah ?_
       refine ag hG ?_ ?_
       ·first|trivial|omega|(simp;done)|(simp;omega)
       show ∃ z,_
       refine q_l ?_
       first|exact⟨j,wi (by omega) (by omega),⟨by omega,by rw[D.nth64,htv.2.2.1,htv.2.2.2.1];exact htv.2.2.2.2.2.1 (by omega),rfl⟩,by omega⟩|exact⟨j,wi (by omega) (by omega),⟨by omega,htv.2.2.2.2.2.2 (by omega),rfl⟩,by omega⟩
     ·intro hb2
      simp only[decide_eq_false_iff_not] at hb2
      rw[hwn] at hb2
      obtain rfl:j=n-1:=by omega
      obtain⟨hs1,hs2,hs3,hs4,hs5⟩:=D.half_start c1.1 c2 c3 hn hj.ht hj.hf
      have hqf:=D.quo_facts hs1 hs2 hs3 hs4
      refine bg ?_
      refine aE ?_
      refine ax ?_
      refine aw ?_
      refine ah ?_
      refine ct (fun(z:Unit)=>(⟨[(0, .l (.z (.slice (.int .i64)) a)),(1, .l (.z (.slice (.int .i64)) b)),(6, .l (.z (.int .i64) (n:Int))),(7, .l (.ownS 30)),(8, .l (.z (.slice (.int .i64)) (D.limbs (D.R1 a b i).toNat))),(9, .l (.z (.int .i64) (i:Int))),(13, .l (.z (.int .i64) (first/(top+1)))),(14, .l (.z (.int .i64) (first/top)))], [(30, .arr (.int .i64) 3 q)]⟩:aa)) (fun z=>True) ?_ ?_
      ·refine gL hG ?_ ?_
       ·try simp only[ba]
        rw[hqf.1]
        exact⟨hqf.2.1,hqf.2.2.1⟩
       show ∃ z,_
       refine q_l ?_
       rw[hqf.1]
       exact⟨hqf.2.2.2.1,hqf.2.2.2.2⟩
      rintro⟨⟩ hu3
      try dsimp only at hu3
      refine ak ?_
      refine au ?_
      refine br (fun(z:Int×Int)=>(⟨[(0, .l (.z (.slice (.int .i64)) a)),(1, .l (.z (.slice (.int .i64)) b)),(6, .l (.z (.int .i64) (n:Int))),(7, .l (.ownS 30)),(8, .l (.z (.slice (.int .i64)) (D.limbs (D.R1 a b i).toNat))),(9, .l (.z (.int .i64) (i:Int))),(13, .l (.z (.int .i64) z.1)),(14, .l (.z (.int .i64) z.2))], [(30, .arr (.int .i64) 3 q)]⟩:aa)) (fun z=>D.HalfPhi (D.R1 a b i/D.valL b) z.1 z.2) (fun z=>(z.2-z.1).toNat) (first/(top+1),first/top) ?_ ?_ ?_
      ·simp only[ml0,ml1,Nat.reduceLT,Nat.reduceEqDiff,Nat.reduceAdd,Nat.reduceMul,Nat.reduceSub,Nat.reduceLeDiff,Nat.reduceBEq,Nat.reduceBNe,reduceIte,reduceDIte,reduceCtorEq]
      ·exact hs5
      ·rintro⟨low,high⟩ hh
       try dsimp only at hh
       refine ak ?_
       refine s_g hG ?_
       refine aq ?_ ?_
       ·intro hb5
        try simp only[decide_eq_true_eq] at hb5
        have hhm:=D.half_mid hh hb5
        refine ar ?_
        refine ah ?_
        refine au ?_
        refine ct (fun(z:Int)=>(⟨[(0, .l (.z (.slice (.int .i64)) a)),(1, .l (.z (.slice (.int .i64)) b)),(6, .l (.z (.int .i64) (n:Int))),(7, .l (.ownS 30)),(8, .l (.z (.slice (.int .i64)) (D.limbs (D.R1 a b i).toNat))),(9, .l (.z (.int .i64) (i:Int))),(13, .l (.z (.int .i64) low)),(14, .l (.z (.int .i64) high)),(15, .l (.z (.int .i64) z))], [(30, .arr (.int .i64) 3 q)]⟩:aa)) (fun z=>z=(low+high+1)/2) ?_ ?_
        ·refine ag hG ?_ ?_
         ·try simp only[ba]
          decide
         show ∃ z,_
         refine q_l ?_
         exact hhm.1
        rintro mid hmid
        try dsimp only at hmid
        have hmm:low<mid/\mid<=high:=by rw[hmid];exact⟨hhm.2.1,hhm.2.2.1⟩
        have hm0:0<=mid:=Int.le_trans hh.h0 (Int.le_of_lt hmm.1)
        have hmB:mid<=D.LB:=Int.le_trans hmm.2 hh.h3
        have hht:=D.half_test (v:=D.R1 a b i) (mid:=mid) c2.1 hp hrf.1 hm0
        have hol:=D.one_len c2.1 hm0 hmB
        refine s_q hG ?_ ?_
        ·try simp only[ba]
         exact⟨⟨c2.1,D.wid_one hm0 hmB,by unfold CAP;omega⟩,D.limbs_can _,hrc,by unfold CAP;omega,by unfold CAP;omega⟩
        refine aq ?_ ?_
        ·intro hb6
         try simp only[bt] at hb6
         refine ag hG ?_ ?_
         ·first|trivial|omega|(simp;done)|(simp;omega)
         refine aQ ?_
         show ∃ z,_
         refine q_l ?_
         first|exact D.half_up hh hmm (hht.1 hb6)|(rw[show IntKind.i64.wrap (mid-1)=mid-1 by rw[hmid];exact hhm.2.2.2];exact D.half_down hh hmm (fun h=>hb6 (hht.2 h)))
        ·intro hb6
         try simp only[bf] at hb6
         refine ag hG ?_ ?_
         ·first|trivial|omega|(simp;done)|(simp;omega)
         refine aQ ?_
         show ∃ z,_
         refine q_l ?_
         first|exact D.half_up hh hmm (hht.1 hb6)|(rw[show IntKind.i64.wrap (mid-1)=mid-1 by rw[hmid];exact hhm.2.2.2];exact D.half_down hh hmm (fun h=>hb6 (hht.2 h)))
       ·intro hb5
        simp only[decide_eq_false_iff_not] at hb5
        have hle:=D.half_end hh hb5
        subst hle
        have hol:=D.one_len c2.1 hdn.1 (Int.le_of_lt hdn.2.1)
        have hrm:=D.rest_minus (i:=i) c1.1 c2 c3
        refine bg ?_
        refine aE ?_
        refine ax ?_
        refine aw ?_
        refine ah ?_
        refine s_q hG ?_ ?_
        ·try simp only[ba]
         exact⟨⟨by omega,by omega⟩,by omega⟩
        refine s_g hG ?_
        refine aq ?_ ?_
        ·intro hb7
         try simp only[bt] at hb7
         refine ag hG ?_ ?_
         ·try simp only[ba]
          exact⟨⟨c2.1,D.wid_one hdn.1 (Int.le_of_lt hdn.2.1),by unfold CAP;omega⟩,hrc,D.limbs_can _,hrm.1,by unfold CAP;omega⟩
         refine aQ ?_
         refine ah ?_
         refine ag hG ?_ ?_
         ·first|trivial|omega|(simp;done)|(simp;omega)
         show ∃ z,_
         refine q_l ?_
         have hdx:=hdn.2.2
         first|(rw[<- hrm.2] at hdx;exact⟨i,wi (by omega) (by omega),by rw[Int.toNat_natCast];exact hdx,by omega⟩)|(rw[<- D.rest_zero c1.1 c2 c3 hb7] at hdx;exact⟨i,wi (by omega) (by omega),by rw[Int.toNat_natCast];exact hdx,by omega⟩)
        ·intro hb7
         try simp only[bf] at hb7
         refine ar ?_
         refine aQ ?_
         refine ah ?_
         refine ag hG ?_ ?_
         ·first|trivial|omega|(simp;done)|(simp;omega)
         show ∃ z,_
         refine q_l ?_
         have hdx:=hdn.2.2
         first|(rw[<- hrm.2] at hdx;exact⟨i,wi (by omega) (by omega),by rw[Int.toNat_natCast];exact hdx,by omega⟩)|(rw[<- D.rest_zero c1.1 c2 c3 hb7] at hdx;exact⟨i,wi (by omega) (by omega),by rw[Int.toNat_natCast];exact hdx,by omega⟩)
   ·intro hb1
    simp only[decide_eq_false_iff_not] at hb1
    obtain rfl:k=0:=by omega
    have hde:=D.div_end hz
    refine bg ?_
    refine aE ?_
    refine ax ?_
    refine aw ?_
    refine ah ?_
    refine s_q hG ?_ ?_
    ·try simp only[ba]
     exact⟨hz.hl,by unfold CAP;omega⟩
    refine az ?_
    refine q_e [23] ?_
    exact hde
def xZ(B:aj):Tab:={types:= [(3,(.int .i64)),(4, .bool),(9, .str),(181,(.slice (.int .i64)))],elems:= [],cons:= [(126,pR),(155,eW),(156,gO),(157,cU),(158,e8),(159,xI),(160,im),(161,lO)],hint:= [],N:=53,base:=B}
theorem FA{B:aj}(hB:aC B):aK Tryz.prog (xZ B):=⟨⟨tc ty3 (tc ty4 (tc ty9 (tc jy (ae)))),af,by simp only[xZ,ioB];omega⟩,aF (cc Tryz.func126 (lf hB) (cc Tryz.func155 (nE hB) (cc Tryz.func156 (k9 hB) (cc Tryz.func157 (k8 hB) (cc Tryz.func158 (ld hB) (cc Tryz.func159 (Lg hB) (cc Tryz.func160 (Am hB) (cc Tryz.func161 (An hB) (ay))))))))),by kernel_rfl⟩
def wb:Con:=fun l os=>match l,os with
 | [.z .str a, .z .str b], []=>some (RS 20000000000 a/\RS 20000000000 b, [.z .str (Lib.itoa (ao a+ao b))], [])
 |_,_=>none
theorem Au{B:aj}(hB:aC B):Valid B Tryz.prog 115 wb:=by
 refine ab (FA hB).tab Tryz.func115 rfl rfl rfl ?_
 intro args os C rs os' hc hC
 unfold wb at hc
 split at hc
 case h_2=>cases hc
 rename_i a b
 cases hc
 refine v_h (FA hB) fun X hP hT hr hG=> ?_
 have hU:=xZ.eq_1
 unfold xZ at hT
 have hX:=ai @im.eq_1<|ai @eW.eq_1<|ai @lO.eq_1<|ai @cU.eq_1<|ai @pR.eq_1<|ai @xI.eq_1<|ai @gO.eq_1<| @e8.eq_1
 simp only[Tryz.f115,aD,al,ioB]
 refine s_g hG ?_
 refine ak ?_
 refine s_q hG ?_ ?_
 ·try simp only[ba]
  exact⟨hC.1.1,hC.2.1,(hC.1.cap (by omega)).2,(hC.2.cap (by omega)).2⟩
 refine s_g hG ?_
 refine aq ?_ ?_
 ·intro hb0
  simp only[decide_eq_true_eq] at hb0
  have hsm:=tf hC.1.1 hC.2.1 hb0
  rw[if_pos hb0,if_pos hb0]
  refine s_q hG ?_ ?_
  ·try simp only[ba]
   rw[hsm.1];exact hsm.2.1
  refine az ?_
  refine aB ?_
  refine q_e [] ?_
  rw[hsm.1]
 ·intro hb0
  have ha:=hC.1.cap (by omega)
  have hb:=hC.2.cap (by omega)
  have la:=dQ hC.1
  have lb:=dQ hC.2
  have hle:=Ek hC.1 hC.2
  have hcap:CAP=1000000000000:=rfl
  refine ar ?_
  refine ah ?_
  refine s_q hG ?_ ?_
  ·try simp only[ba]
   exact⟨ha,hb⟩
  refine ak ?_
  refine s_q hG ?_ ?_
  ·try simp only[ba]
   exact⟨ha.1,hb.1⟩
  refine aq ?_ ?_
  ·intro hb1
   try simp only[bt] at hb1
   refine s_q hG ?_ ?_
   ·try simp only[ba]
    exact⟨ha.1,⟨la.1,lb.1,by omega,by omega⟩,D.limbs_can _,hle.1⟩
   refine az ?_
   refine aB ?_
   refine q_e [] ?_
   exact GK hb1
  ·intro hb1
   try simp only[bf] at hb1
   refine ar ?_
   refine ah ?_
   refine ak ?_
   refine s_q hG ?_ ?_
   ·try simp only[ba]
    exact⟨la.1,lb.1,by omega,by omega⟩
   refine aq ?_ ?_
   ·intro hb2
    try simp only[bt] at hb2
    refine s_q hG ?_ ?_
    ·try simp only[ba]
     have hge:=El hb1 hb2
     exact⟨ha.1,⟨la.1,lb.1,hge.1,by omega⟩,D.limbs_can _,hle.2.1⟩
    refine az ?_
    refine aB ?_
    refine q_e [] ?_
    exact(El hb1 hb2).2
   ·intro hb2
    try simp only[bf] at hb2
    refine ar ?_
    refine ah ?_
    refine s_q hG ?_ ?_
    ·try simp only[ba]
     have hlt:=Em hb1 hb2
     exact⟨hb.1,⟨lb.1,la.1,hlt.1,by omega⟩,D.limbs_can _,hle.2.2.1⟩
    refine az ?_
    refine q_e [] ?_
    exact(Em hb1 hb2).2
def x4(B:aj):Tab:={types:= [(9, .str)],elems:= [],cons:= [(115,wb),(163,wa)],hint:= [],N:=9,base:=B}
theorem FB{B:aj}(hB:aC B):aK Tryz.prog (x4 B):=⟨⟨tc ty9 (ae),af,by simp only[x4,ioB];omega⟩,aF (cc Tryz.func115 (Au hB) (cc Tryz.func163 (As hB) (ay))),by kernel_rfl⟩
def FC:Con:=fun l os=>match l,os with
 | [.z .str a, .z .str b], []=>some (RS 10000000000 a/\RS 10000000000 b, [.z .str (Lib.itoa (ao a-ao b))], [])
 |_,_=>none
theorem LG{B:aj}(hB:aC B):Valid B Tryz.prog 123 FC:=by
 refine ab (FB hB).tab Tryz.func123 rfl rfl rfl ?_
 intro args os C rs os' hc hC
 unfold FC at hc
 split at hc
 case h_2=>cases hc
 rename_i a b
 cases hc
 refine v_h (FB hB) fun X hP hT hr hG=> ?_
 have hU:=x4.eq_1
 unfold x4 at hT
 have hX:=ai @wb.eq_1<| @wa.eq_1
 simp only[Tryz.f123,aD,al,ioB]
 refine s_g hG ?_
 refine s_q hG ?_ ?_
 ·try simp only[ba]
  have h2:=hC.2.2
  exact⟨⟨hC.2.1,by have hcap:CAP=1000000000000:=rfl;omega⟩,hC.1.up (by omega),(Om hC.2).1.up (by omega)⟩
 refine az ?_
 refine q_e [] ?_
 exact Mz
def x5(B:aj):Tab:={types:= [(3,(.int .i64)),(4, .bool),(9, .str),(181,(.slice (.int .i64)))],elems:= [],cons:= [(126,pR),(155,eW),(156,gO),(157,cU),(158,e8),(164,lP)],hint:= [],N:=31,base:=B}
theorem FD{B:aj}(hB:aC B):aK Tryz.prog (x5 B):=⟨⟨tc ty3 (tc ty4 (tc ty9 (tc jy (ae)))),af,by simp only[x5,ioB];omega⟩,aF (cc Tryz.func126 (lf hB) (cc Tryz.func155 (nE hB) (cc Tryz.func156 (k9 hB) (cc Tryz.func157 (k8 hB) (cc Tryz.func158 (ld hB) (cc Tryz.func164 (Ao hB) (ay))))))),by kernel_rfl⟩
def pL:Con:=fun l os=>match l,os with
 | [.z .str a, .z .str b], []=>some (RS 20000000000 a/\RS 20000000000 b, [.z .str (Lib.itoa (ao a*ao b))], [])
 |_,_=>none
theorem uo{B:aj}(hB:aC B):Valid B Tryz.prog 117 pL:=by
 refine ab (FD hB).tab Tryz.func117 rfl rfl rfl ?_
 intro args os C rs os' hc hC
 unfold pL at hc
 split at hc
 case h_2=>cases hc
 rename_i a b
 cases hc
 refine v_h (FD hB) fun X hP hT hr hG=> ?_
 have hU:=x5.eq_1
 unfold x5 at hT
 have hX:=ai @eW.eq_1<|ai @cU.eq_1<|ai @pR.eq_1<|ai @gO.eq_1<|ai @lP.eq_1<| @e8.eq_1
 simp only[Tryz.f117,aD,al,ioB]
 refine s_g hG ?_
 refine ak ?_
 refine s_q hG ?_ ?_
 ·try simp only[ba]
  exact⟨hC.1.1,hC.2.1,(hC.1.cap (by omega)).2,(hC.2.cap (by omega)).2⟩
 refine s_g hG ?_
 refine aq ?_ ?_
 ·intro hb0
  simp only[decide_eq_true_eq] at hb0
  have hsm:=tf hC.1.1 hC.2.1 hb0
  rw[if_pos hb0,if_pos hb0]
  refine s_q hG ?_ ?_
  ·try simp only[ba]
   rw[hsm.2.2.1];exact hsm.2.2.2
  refine az ?_
  refine aB ?_
  refine q_e [] ?_
  rw[hsm.2.2.1]
 ·intro hb0
  have ha:=hC.1.cap (by omega)
  have hb:=hC.2.cap (by omega)
  have la:=dQ hC.1
  have lb:=dQ hC.2
  have hle:=Ek hC.1 hC.2
  have hcap:CAP=1000000000000:=rfl
  refine ar ?_
  refine ah ?_
  refine s_q hG ?_ ?_
  ·try simp only[ba]
   exact⟨ha.1,hb.1,ha,hb,⟨la.1.1,lb.1.1.wid,by omega⟩,D.limbs_can _,hle.2.2.2⟩
  refine az ?_
  refine q_e [] ?_
  exact MA
def x6(B:aj):Tab:={types:= [(3,(.int .i64)),(4, .bool),(9, .str),(181,(.slice (.int .i64)))],elems:= [],cons:= [(117,pL),(123,FC),(126,pR),(155,eW),(156,gO),(157,cU),(158,e8),(165,jH)],hint:= [],N:=78,base:=B}
theorem FE{B:aj}(hB:aC B):aK Tryz.prog (x6 B):=⟨⟨tc ty3 (tc ty4 (tc ty9 (tc jy (ae)))),af,by simp only[x6,ioB];omega⟩,aF (cc Tryz.func117 (uo hB) (cc Tryz.func123 (LG hB) (cc Tryz.func126 (lf hB) (cc Tryz.func155 (nE hB) (cc Tryz.func156 (k9 hB) (cc Tryz.func157 (k8 hB) (cc Tryz.func158 (ld hB) (cc Tryz.func165 (At hB) (ay))))))))),by kernel_rfl⟩
def FF:Con:=fun l os=>match l,os with
 | [.z .str a, .z .str b], []=>some (RS 1000000000 a/\RS 1000000000 b/\ao b≠0, [.z .str (Lib.itoa (bQ (ao a) (ao b))), .z .str (Lib.itoa (jf (ao a) (ao b)))], [])
 |_,_=>none
theorem LH{B:aj}(hB:aC B):Valid B Tryz.prog 121 FF:=by
 refine ab (FE hB).tab Tryz.func121 rfl rfl rfl ?_
 intro args os C rs os' hc hC
 unfold FF at hc
 split at hc
 case h_2=>cases hc
 rename_i a b
 cases hc
 refine v_h (FE hB) fun X hP hT hr hG=> ?_
 have hU:=x6.eq_1
 unfold x6 at hT
 have hX:=ai @jH.eq_1<|ai @eW.eq_1<|ai @pL.eq_1<|ai @cU.eq_1<|ai @pR.eq_1<|ai @gO.eq_1<|ai @FC.eq_1<| @e8.eq_1
 simp only[Tryz.f121,aD,al,ioB]
 refine s_g hG ?_
 refine ak ?_
 refine s_q hG ?_ ?_
 ·try simp only[ba]
  exact⟨hC.1.1,hC.2.1.1,(hC.1.cap (by omega)).2,(hC.2.1.cap (by omega)).2⟩
 refine s_g hG ?_
 refine aq ?_ ?_
 ·intro hb0
  simp only[decide_eq_true_eq] at hb0
  rw[if_pos hb0,if_pos hb0]
  have hsm:=CJ hC.1.1 hC.2.1.1 hb0 hC.2.2
  refine s_q hG ?_ ?_
  ·try simp only[ba]
   exact hC.2.2
  refine ct (fun(z:Unit)=>(⟨[(0, .l (.z .str a)),(1, .l (.z .str b)),(6, .l (.z (.int .i64) (ao a))),(7, .l (.z (.int .i64) (ao b))),(9, .l (.z (.int .i64) (bQ (ao a) (ao b))))], []⟩:aa)) (fun z=>True) ?_ ?_
  ·refine s_q hG ?_ ?_
   ·try simp only[ba]
    exact⟨hC.2.2,fun h=>h⟩
   refine aq ?_ ?_
   ·intro hb1
    try simp only[bt] at hb1
    refine ag hG ?_ ?_
    ·first|trivial|omega|(simp;done)|(simp;omega)
    show ∃ z,_
    refine q_l ?_
    first|exact hsm.1 hb1|exact hsm.2.1 hb1
   ·intro hb1
    try simp only[bf] at hb1
    refine ar ?_
    show ∃ z,_
    refine q_l ?_
    first|exact hsm.1 hb1|exact hsm.2.1 hb1
  rintro⟨⟩ hu
  try dsimp only at hu
  refine s_q hG ?_ ?_
  ·try simp only[ba]
   rw[hsm.2.2.2.1];exact⟨hsm.2.2.1,hsm.2.2.2.2⟩
  refine az ?_
  refine aB ?_
  refine q_e [] ?_
  rw[hsm.2.2.2.1]
 ·intro hb0
  obtain⟨c1,c2,c3⟩:=hC
  have ha:=c1.cap (by omega)
  have hb:=c2.cap (by omega)
  have la:=dQ c1
  have lb:=dQ c2
  have hln:=JL (ao a) (ao b)
  have hrq:=Pa (b:=b) c1 c3
  have hrm:=Pb c1 c2 c3
  have hcap:CAP=1000000000000:=rfl
  have hqf:=th (x:=ao a) c3
  refine ar ?_
  refine ah ?_
  refine s_q hG ?_ ?_
  ·try simp only[ba]
   exact⟨ha,hb,la.1,lb.1,D.ne_limbs c3,by omega⟩
  refine s_q hG ?_ ?_
  ·try simp only[ba]
   exact⟨ha.1,hb.1,D.limbs_can _,by omega⟩
  refine ct (fun(z:Unit)=>(⟨[(0, .l (.z .str a)),(1, .l (.z .str b)),(12, .l (.z .str (Lib.itoa (bQ (ao a) (ao b)))))], []⟩:aa)) (fun z=>True) ?_ ?_
  ·refine s_q hG ?_ ?_
   ·try simp only[ba]
    exact⟨fun h=>⟨h,c1.1⟩,fun h=>⟨h,c2.1⟩,fun h=>h⟩
   refine aq ?_ ?_
   ·intro hb2
    try simp only[bt] at hb2
    refine ag hG ?_ ?_
    ·try simp only[ba]
     exact⟨hrq.1.up (by omega),CI.1.up (by omega)⟩
    show ∃ z,_
    refine q_l ?_
    rw[vn] at hb2
    first|(rw[<- hqf.2.1 hb2,CI.2,(bb _).2];rfl)|(rw[<- hqf.2.2 hb2];rfl)
   ·intro hb2
    try simp only[bf] at hb2
    refine ar ?_
    show ∃ z,_
    refine q_l ?_
    rw[vn] at hb2
    first|(rw[<- hqf.2.1 hb2,CI.2,(bb _).2];rfl)|(rw[<- hqf.2.2 hb2];rfl)
  rintro⟨⟩ hu2
  try dsimp only at hu2
  refine s_q hG ?_ ?_
  ·try simp only[ba]
   rw[(bb _).2]
   exact⟨⟨hrq.2.up (by omega),c2.up (by omega)⟩,c1.up (by omega),hrm.up (by omega)⟩
  refine az ?_
  refine q_e [] ?_
  rw[(bb _).2,(bb _).2,Int.mul_comm];rfl
def x7(B:aj):Tab:={types:= [(3,(.int .i64)),(4, .bool),(9, .str),(181,(.slice (.int .i64)))],elems:= [],cons:= [(126,pR),(155,eW),(156,gO),(158,e8),(165,jH)],hint:= [],N:=50,base:=B}
theorem FG{B:aj}(hB:aC B):aK Tryz.prog (x7 B):=⟨⟨tc ty3 (tc ty4 (tc ty9 (tc jy (ae)))),af,by simp only[x7,ioB];omega⟩,aF (cc Tryz.func126 (lf hB) (cc Tryz.func155 (nE hB) (cc Tryz.func156 (k9 hB) (cc Tryz.func158 (ld hB) (cc Tryz.func165 (At hB) (ay)))))),by kernel_rfl⟩
def FH:Con:=fun l os=>match l,os with
 | [.z .str a, .z .str b], []=>some (RS 1000000000 a/\RS 1000000000 b, [.z .str (Lib.itoa (cE (ao a) (ao b)))], [])
 |_,_=>none
theorem LI{B:aj}(hB:aC B):Valid B Tryz.prog 122 FH:=by
 refine ab (FG hB).tab Tryz.func122 rfl rfl rfl ?_
 intro args os C rs os' hc hC
 unfold FH at hc
 split at hc
 case h_2=>cases hc
 rename_i a b
 cases hc
 refine v_h (FG hB) fun X hP hT hr hG=> ?_
 have hU:=x7.eq_1
 unfold x7 at hT
 have hX:=ai @jH.eq_1<|ai @eW.eq_1<|ai @pR.eq_1<|ai @gO.eq_1<| @e8.eq_1
 simp only[Tryz.f122,aD,al,ioB]
 refine s_g hG ?_
 refine ak ?_
 refine s_q hG ?_ ?_
 ·try simp only[ba]
  exact⟨hC.1.1,hC.2.1,(hC.1.cap (by omega)).2,(hC.2.cap (by omega)).2⟩
 refine s_g hG ?_
 refine aq ?_ ?_
 ·intro hb0
  simp only[decide_eq_true_eq] at hb0
  rw[if_pos hb0,if_pos hb0]
  have ha:=il hC.1.1 hb0.1
  have hb:=il hC.2.1 hb0.2
  refine ak ?_
  refine au ?_
  refine br (fun(z:Int×Int)=>(⟨[(0, .l (.z .str a)),(1, .l (.z .str b)),(5, .l (.z (.int .i64) z.1)),(6, .l (.z (.int .i64) z.2))], []⟩:aa)) (fun z=>vo (cE (ao a) (ao b)) z.1 z.2) (fun z=>z.2.natAbs) (ao a,ao b) ?_ ?_ ?_
  ·simp only[ml0,ml1,Nat.reduceLT,Nat.reduceEqDiff,Nat.reduceAdd,Nat.reduceMul,Nat.reduceSub,Nat.reduceLeDiff,Nat.reduceBEq,Nat.reduceBNe,reduceIte,reduceDIte,reduceCtorEq]
  ·exact JN ha hb
  ·rintro⟨x,y⟩ hz
   try dsimp only at hz
   refine ak ?_
   refine s_g hG ?_
   refine aq ?_ ?_
   ·intro hb1
    try simp only[bt] at hb1
    refine ar ?_
    refine ah ?_
    refine au ?_
    refine s_q hG ?_ ?_
    ·try simp only[ba]
     exact hb1
    refine s_g hG ?_
    refine ag hG ?_ ?_
    ·first|trivial|omega|(simp;done)|(simp;omega)
    refine aQ ?_
    show ∃ z,_
    refine q_l ?_
    exact MB hz hb1
   ·intro hb1
    try simp only[bf] at hb1
    refine bg ?_
    refine aE ?_
    refine ax ?_
    refine aw ?_
    refine ah ?_
    refine s_q hG ?_ ?_
    ·try simp only[ba]
     subst hb1
     exact(JP hz).1
    refine az ?_
    refine aB ?_
    refine q_e [] ?_
    subst hb1
    rw[(JP hz).2]
 ·intro hb0
  obtain⟨c1,c2⟩:=hC
  have ha:=c1.cap (by omega)
  have hb:=c2.cap (by omega)
  have la:=dQ c1
  have lb:=dQ c2
  have hcap:CAP=1000000000000:=rfl
  refine ar ?_
  refine ah ?_
  refine s_q hG ?_ ?_
  ·try simp only[ba]
   exact⟨ha,hb⟩
  refine ak ?_
  refine au ?_
  refine br (fun(z:List Int×List Int)=>(⟨[(9, .l (.z (.slice (.int .i64)) z.1)),(10, .l (.z (.slice (.int .i64)) z.2))], []⟩:aa)) (fun z=>zq (cE (ao a) (ao b)) z.1 z.2) (fun z=>(D.valL z.2).natAbs) (D.limbs (ao a).natAbs,D.limbs (ao b).natAbs) ?_ ?_ ?_
  ·simp only[ml0,ml1,Nat.reduceLT,Nat.reduceEqDiff,Nat.reduceAdd,Nat.reduceMul,Nat.reduceSub,Nat.reduceLeDiff,Nat.reduceBEq,Nat.reduceBNe,reduceIte,reduceDIte,reduceCtorEq]
  ·exact JO c1 c2
  ·rintro⟨x,y⟩ hz
   try dsimp only at hz
   refine ak ?_
   refine s_g hG ?_
   refine aq ?_ ?_
   ·intro hb2
    try simp only[bt] at hb2
    refine ar ?_
    refine ah ?_
    refine au ?_
    refine s_q hG ?_ ?_
    ·try simp only[ba]
     have lx:=hz.lx
     have ly:=hz.ly
     exact⟨hz.hx,hz.hy,(by rintro rfl;simp at hb2),by omega⟩
    refine s_g hG ?_
    refine ag hG ?_ ?_
    ·first|trivial|omega|(simp;done)|(simp;omega)
    refine aQ ?_
    show ∃ z,_
    refine q_l ?_
    exact MC hz hb2
   ·intro hb2
    try simp only[bf] at hb2
    refine bg ?_
    refine aE ?_
    refine ax ?_
    refine aw ?_
    refine ah ?_
    refine s_q hG ?_ ?_
    ·try simp only[ba]
     have lx:=hz.lx
     exact⟨hz.hx,by omega⟩
    refine az ?_
    refine q_e [] ?_
    rw[Oq hz hb2]
def qc(B:aj):Tab:={types:= [(3,(.int .i64)),(5,(.int .u8)),(9, .str)],elems:= [],cons:= [],hint:= [],N:=24,base:=B}
theorem Av{B:aj}(hB:aC B):aK Tryz.prog (qc B):=⟨⟨tc ty3 (tc ty5 (tc ty9 (ae))),af,by simp only[qc,ioB];omega⟩,bP rfl,by kernel_rfl⟩
def FI:Con:=fun l os=>match l,os with
 | [.z .str s], []=>some (s.length<=QL, [.z .str (tN s), .z .str (tD s), .z .bool (cl s)], [])
 |_,_=>none
theorem HI{B:aj}(hB:aC B):Valid B Tryz.prog 134 FI:=by
 refine ab (Av hB).tab Tryz.func134 rfl rfl rfl ?_
 intro args os C rs os' hc hC
 unfold FI at hc
 split at hc
 case h_2=>cases hc
 rename_i s
 cases hc
 refine v_h (Av hB) fun X hP hT hr hG=> ?_
 have hU:=qc.eq_1
 unfold qc at hT
 have hX:=Bool.not_true
 simp only[Tryz.f134,aD,al,ioB]
 have hl:s.length<=1000000000:=hC
 refine s_g hG ?_
 refine ak ?_
 refine s_g hG ?_
 refine au ?_
 refine br (fun(z:Nat)=>(⟨[(0, .l (.z .str s)),(2, .l (.z .str [])),(3, .l (.z .str [])),(4, .l (.z .bool false)),(5, .l (.z (.int .i64) (z:Int)))], []⟩:aa)) (fun z=>z<=s.length/\(s.take z).all (· !=47)=true) (fun z=>s.length-z) 0 ?_ ?_ ?_
 ·refine q_l ?_
  rfl
 ·exact⟨by omega,by simp⟩
 ·rintro k ⟨g1,g2⟩
  try dsimp only at g1 g2
  refine ak ?_
  refine s_g hG ?_
  refine aq ?_ ?_
  ·intro hb0
   try simp only[bt] at hb0
   have hk:k<s.length:=by have h9:(k:Int)<(s.length:Int):=hb0;omega
   refine ar ?_
   refine ah ?_
   refine ak ?_
   refine au ?_
   refine s_g hG ?_
   refine aq ?_ ?_
   ·intro hb1
    try simp only[bt] at hb1
    refine s_d hG ?_ ?_
    ·try simp only[ba]
     exact Ht hl hk
    refine az ?_
    refine bE ?_
    refine aB ?_
    refine eE ?_
    refine bE ?_
    refine aB ?_
    refine q_e [] ?_
    exact z6 hl hk g2 (EL.1 hb1)
   ·intro hb1
    try simp only[bf] at hb1
    refine ar ?_
    refine aQ ?_
    refine ah ?_
    refine ag hG ?_ ?_
    ·first|trivial|omega|(simp;done)|(simp;omega)
    show ∃ z,_
    refine q_l ?_
    exact⟨k+1,wi (by omega) (by omega),hk,Hm hk g2 (fun e=>hb1 (EL.2 e)),by omega⟩
  ·intro hb0
   try simp only[bf] at hb0
   have hk: ¬k<s.length:=by have h9: ¬ (k:Int)<(s.length:Int):=hb0;omega
   refine bg ?_
   refine aE ?_
   refine ax ?_
   refine aw ?_
   refine ah ?_
   refine s_g hG ?_
   refine az ?_
   refine q_e [] ?_
   exact KS hk g2
def qd(B:aj):Tab:={types:= [(9, .str)],elems:= [],cons:= [(134,FI)],hint:= [],N:=15,base:=B}
theorem Aw{B:aj}(hB:aC B):aK Tryz.prog (qd B):=⟨⟨tc ty9 (ae),af,by simp only[qd,ioB];omega⟩,aF (cc Tryz.func134 (HI hB) (ay)),by kernel_rfl⟩
def lQ:Con:=fun l os=>match l,os with
 | [.z .str q], []=>some (q.length<=QL, [.z .str (tN q), .z .str (tD q)], [])
 |_,_=>none
theorem wc{B:aj}(hB:aC B):Valid B Tryz.prog 92 lQ:=by
 refine ab (Aw hB).tab Tryz.func92 rfl rfl rfl ?_
 intro args os C rs os' hc hC
 unfold lQ at hc
 split at hc
 case h_2=>cases hc
 rename_i q
 cases hc
 refine v_h (Aw hB) fun X hP hT hr hG=> ?_
 have hU:=qd.eq_1
 unfold qd at hT
 have hX:= @FI.eq_1
 simp only[Tryz.f92,aD,al,ioB]
 refine s_g hG ?_
 refine s_q hG ?_ ?_
 ·try simp only[ba]
  exact hC
 refine s_g hG ?_
 refine az ?_
 refine q_e [] ?_
 trivial
def qe(B:aj):Tab:={types:= [(3,(.int .i64)),(9, .str)],elems:= [],cons:= [(121,FF),(122,FH),(162,xW),(163,wa)],hint:= [],N:=33,base:=B}
theorem Ax{B:aj}(hB:aC B):aK Tryz.prog (qe B):=⟨⟨tc ty3 (tc ty9 (ae)),af,by simp only[qe,ioB];omega⟩,aF (cc Tryz.func121 (LH hB) (cc Tryz.func122 (LI hB) (cc Tryz.func162 (LF hB) (cc Tryz.func163 (As hB) (ay))))),by kernel_rfl⟩
def lg:Con:=fun l os=>match l,os with
 | [.z .str n, .z .str d], []=>some (MkR n d, [.z .str (bo (Rat.divInt (ao n) (ao d)))], [])
 |_,_=>none
theorem oF{B:aj}(hB:aC B):Valid B Tryz.prog 116 lg:=by
 refine ab (Ax hB).tab Tryz.func116 rfl rfl rfl ?_
 intro args os C rs os' hc hC
 unfold lg at hc
 split at hc
 case h_2=>cases hc
 rename_i n d
 cases hc
 refine v_h (Ax hB) fun X hP hT hr hG=> ?_
 have hU:=qe.eq_1
 unfold qe at hT
 have hX:=ai @FF.eq_1<|ai @FH.eq_1<|ai @wa.eq_1<| @xW.eq_1
 simp only[Tryz.f116,aD,al,ioB]
 refine s_g hG ?_
 refine s_q hG ?_ ?_
 ·try simp only[ba]
  exact oz hC
 refine ct (fun(z:Unit)=>(⟨[(0, .l (.z .str n)),(1, .l (.z .str d)),(4, .l (.z .str [])),(5, .l (.z .str (Lib.itoa (dB (ao n) (ao d)))))], []⟩:aa)) (fun z=>True) ?_ ?_
 ·refine s_q hG ?_ ?_
  ·try simp only[ba]
   exact hC.2.1.1
  refine aq ?_ ?_
  ·intro hb0
   try simp only[bt] at hb0
   refine ag hG ?_ ?_
   ·try simp only[ba]
    exact Hn hC
   show ∃ z,_
   refine q_l ?_
   first|exact EH (p8.1 hb0)|exact EI (fun e=>hb0 (p8.2 e))
  ·intro hb0
   try simp only[bf] at hb0
   refine ar ?_
   show ∃ z,_
   refine q_l ?_
   first|exact EH (p8.1 hb0)|exact EI (fun e=>hb0 (p8.2 e))
 rintro⟨⟩-
 refine s_q hG ?_ ?_
 ·try simp only[ba]
  exact vT hC
 refine s_q hG ?_ ?_
 ·try simp only[ba]
  exact Ho hC
 refine ak ?_
 refine s_g hG ?_
 refine aq ?_ ?_
 ·intro hb1
  try simp only[bt] at hb1
  refine s_g hG ?_
  refine az ?_
  refine aB ?_
  refine q_e [] ?_
  exact Nd hC hb1
 ·intro hb1
  try simp only[bf] at hb1
  refine ar ?_
  refine ah ?_
  refine s_q hG ?_ ?_
  ·try simp only[ba]
   exact Hp hC
  refine az ?_
  refine q_e [] ?_
  exact Nf hC hb1
def qf(B:aj):Tab:={types:= [(3,(.int .i64)),(9, .str)],elems:= [],cons:= [(116,lg),(126,pR)],hint:= [],N:=10,base:=B}
theorem Ay{B:aj}(hB:aC B):aK Tryz.prog (qf B):=⟨⟨tc ty3 (tc ty9 (ae)),af,by simp only[qf,ioB];omega⟩,aF (cc Tryz.func116 (oF hB) (cc Tryz.func126 (lf hB) (ay))),by kernel_rfl⟩
def NK:Con:=fun l os=>match l,os with
 | [.z (.int .i64) n, .z (.int .i64) d], []=>some (I64 n/\I64 d/\d≠0, [.z .str (bo (Rat.divInt n d))], [])
 |_,_=>none
theorem HJ{B:aj}(hB:aC B):Valid B Tryz.prog 85 NK:=by
 refine ab (Ay hB).tab Tryz.func85 rfl rfl rfl ?_
 intro args os C rs os' hc hC
 unfold NK at hc
 split at hc
 case h_2=>cases hc
 rename_i n d
 cases hc
 refine v_h (Ay hB) fun X hP hT hr hG=> ?_
 have hU:=qf.eq_1
 unfold qf at hT
 have hX:=ai @lg.eq_1<| @pR.eq_1
 simp only[Tryz.f85,aD,al,ioB]
 refine s_g hG ?_
 refine s_q hG ?_ ?_
 ·try simp only[ba]
  exact KT hC
 refine az ?_
 refine q_e [] ?_
 exact Ng
def qh(B:aj):Tab:={types:= [(9, .str),(46, .str)],elems:= [],cons:= [(92,lQ),(115,wb),(116,lg),(117,pL)],hint:= [],N:=39,base:=B}
theorem Az{B:aj}(hB:aC B):aK Tryz.prog (qh B):=⟨⟨tc ty9 (tc mw (ae)),af,by simp only[qh,ioB];omega⟩,aF (cc Tryz.func92 (wc hB) (cc Tryz.func115 (Au hB) (cc Tryz.func116 (oF hB) (cc Tryz.func117 (uo hB) (ay))))),by kernel_rfl⟩
def FJ:Con:=fun l os=>match l,os with
 | [.z .str a, .z .str b], []=>some (GQ QK a/\GQ QK b, [.z .str (bo (bG a+bG b))], [])
 |_,_=>none
theorem HM{B:aj}(hB:aC B):Valid B Tryz.prog 62 FJ:=by
 refine ab (Az hB).tab Tryz.func62 rfl rfl rfl ?_
 intro args os C rs os' hc hC
 unfold FJ at hc
 split at hc
 case h_2=>cases hc
 rename_i a b
 cases hc
 refine v_h (Az hB) fun X hP hT hr hG=> ?_
 have hU:=qh.eq_1
 unfold qh at hT
 have hX:=ai @lg.eq_1<|ai @lQ.eq_1<|ai @wb.eq_1<| @pL.eq_1
 simp only[Tryz.f62,aD,al,ioB]
 refine s_g hG ?_
 refine s_q hG ?_ ?_
 ·try simp only[ba]
  exact EJ hC.1
 refine s_q hG ?_ ?_
 ·try simp only[ba]
  exact EJ hC.2
 refine ak ?_
 refine s_g hG ?_
 refine aq ?_ ?_
 ·intro hb0
  try simp only[bt] at hb0
  refine s_q hG ?_ ?_
  ·try simp only[ba]
   exact⟨(fT hC.1).1,(fT hC.2).1⟩
  refine az ?_
  refine aB ?_
  refine q_e [] ?_
  exact KU hC.1 hC.2 hb0
 ·intro hb0
  try simp only[bf] at hb0
  refine ar ?_
  refine ah ?_
  refine s_q hG ?_ ?_
  ·try simp only[ba]
   exact Hq hC.1 hC.2
  refine az ?_
  refine q_e [] ?_
  exact KW hC.1 hC.2
def qk(B:aj):Tab:={types:= [(9, .str),(46, .str)],elems:= [],cons:= [(92,lQ),(116,lg),(117,pL)],hint:= [],N:=35,base:=B}
theorem AA{B:aj}(hB:aC B):aK Tryz.prog (qk B):=⟨⟨tc ty9 (tc mw (ae)),af,by simp only[qk,ioB];omega⟩,aF (cc Tryz.func92 (wc hB) (cc Tryz.func116 (oF hB) (cc Tryz.func117 (uo hB) (ay)))),by kernel_rfl⟩
def FK:Con:=fun l os=>match l,os with
 | [.z .str a, .z .str b], []=>some (GQ QK a/\GQ QK b, [.z .str (bo (bG a*bG b))], [])
 |_,_=>none
theorem HN{B:aj}(hB:aC B):Valid B Tryz.prog 84 FK:=by
 refine ab (AA hB).tab Tryz.func84 rfl rfl rfl ?_
 intro args os C rs os' hc hC
 unfold FK at hc
 split at hc
 case h_2=>cases hc
 rename_i a b
 cases hc
 refine v_h (AA hB) fun X hP hT hr hG=> ?_
 have hU:=qk.eq_1
 unfold qk at hT
 have hX:=ai @lg.eq_1<|ai @lQ.eq_1<| @pL.eq_1
 simp only[Tryz.f84,aD,al,ioB]
 refine s_g hG ?_
 refine s_q hG ?_ ?_
 ·try simp only[ba]
  exact EJ hC.1
 refine s_q hG ?_ ?_
 ·try simp only[ba]
  exact EJ hC.2
 refine ak ?_
 refine s_g hG ?_
 refine aq ?_ ?_
 ·intro hb0
  try simp only[bt] at hb0
  refine s_q hG ?_ ?_
  ·try simp only[ba]
   exact⟨(fT hC.1).1,(fT hC.2).1⟩
  refine az ?_
  refine aB ?_
  refine q_e [] ?_
  exact KV hC.1 hC.2 hb0
 ·intro hb0
  try simp only[bf] at hb0
  refine ar ?_
  refine ah ?_
  refine s_q hG ?_ ?_
  ·try simp only[ba]
   exact Hr hC.1 hC.2
  refine az ?_
  refine q_e [] ?_
  exact KX hC.1 hC.2
def ql(B:aj):Tab:={types:= [(3,(.int .i64)),(22,(.slice .str)),(46, .str)],elems:= [],cons:= [],hint:= [],N:=26,base:=B}
theorem AB{B:aj}(hB:aC B):aK Tryz.prog (ql B):=⟨⟨tc ty3 (tc gA (tc mw (ae))),af,by simp only[ql,ioB];omega⟩,bP rfl,by kernel_rfl⟩
def lh:Con:=fun l os=>match l,os with
 | [.z (.slice .str) p, .z (.slice .str) q], []=>some (p.length<=QL/\q.length<=QL, [.z .bool (decide (p=q))], [])
 |_,_=>none
theorem oG{B:aj}(hB:aC B):Valid B Tryz.prog 28 lh:=by
 refine ab (AB hB).tab Tryz.func28 rfl rfl rfl ?_
 intro args os C rs os' hc hC
 unfold lh at hc
 split at hc
 case h_2=>cases hc
 rename_i p q
 cases hc
 refine v_h (AB hB) fun X hP hT hr hG=> ?_
 have hU:=ql.eq_1
 unfold ql at hT
 have hX:=Bool.not_true
 simp only[Tryz.f28,aD,al,ioB]
 have hl:p.length<=1000000000:=hC.1
 refine s_g hG ?_
 refine ak ?_
 refine s_g hG ?_
 refine aq ?_ ?_
 ·intro hb0
  try simp only[bt] at hb0
  refine s_g hG ?_
  refine az ?_
  refine aB ?_
  refine q_e [] ?_
  exact KY hb0
 ·intro hb0
  try simp only[bf] at hb0
  have he:p.length=q.length:=by have h9:(p.length:Int)=(q.length:Int):=hb0;omega
  refine ar ?_
  refine ah ?_
  refine ak ?_
  refine s_g hG ?_
  refine au ?_
  refine br (fun(z:Nat)=>(⟨[(0, .l (.z (.slice .str) p)),(1, .l (.z (.slice .str) q)),(4, .l (.z .bool false)),(5, .l (.z (.int .i64) (z:Int)))], []⟩:aa)) (fun z=>z<=p.length/\p.take z=q.take z) (fun z=>p.length-z) 0 ?_ ?_ ?_
  ·refine q_l ?_
   rfl
  ·exact⟨by omega,rfl⟩
  ·rintro k ⟨g1,g2⟩
   try dsimp only at g1 g2
   refine ak ?_
   refine s_g hG ?_
   refine aq ?_ ?_
   ·intro hb1
    try simp only[bt] at hb1
    have hk:k<p.length:=by have h9:(k:Int)<(p.length:Int):=hb1;omega
    refine ar ?_
    refine ah ?_
    refine ak ?_
    refine au ?_
    refine s_d hG ?_ ?_
    ·try simp only[ba]
     rw[<- he]
     exact⟨⟨by omega,hb1⟩,by omega,hb1⟩
    refine aq ?_ ?_
    ·intro hb2
     try simp only[bt] at hb2
     refine s_g hG ?_
     refine az ?_
     refine bE ?_
     refine aB ?_
     refine eE ?_
     refine bE ?_
     refine aB ?_
     refine q_e [] ?_
     exact KZ hb2
    ·intro hb2
     try simp only[bf] at hb2
     refine ar ?_
     refine aQ ?_
     refine ah ?_
     refine ag hG ?_ ?_
     ·first|trivial|omega|(simp;done)|(simp;omega)
     show ∃ z,_
     refine q_l ?_
     exact⟨k+1,wi (by omega) (by omega),hk,Hs he hk g2 hb2,by omega⟩
   ·intro hb1
    try simp only[bf] at hb1
    have hk: ¬k<p.length:=by have h9: ¬ (k:Int)<(p.length:Int):=hb1;omega
    refine bg ?_
    refine aE ?_
    refine ax ?_
    refine aw ?_
    refine ah ?_
    refine s_g hG ?_
    refine az ?_
    refine q_e [] ?_
    exact K0 he hk g2
def x8:Con:=jd [some (.slice .str),some (.slice .str)] lh
theorem Dr{B:aj}(hB:aC B):Valid B Tryz.prog 28 x8:=fm _ (oG hB)
def uq(B:aj):Tab:={types:= [(87,(.slice (.int .u32))),(161,(.int .u32)),(164,(.int .u64))],elems:= [(87,161)],cons:= [(193,v8)],hint:= [],N:=38,base:=B}
theorem LJ{B:aj}(hB:aC B):aK Tryz.prog (uq B):=⟨⟨tc ix (tc fO (tc nk (ae))),aR (by kernel_rfl) (af),by simp only[uq,ioB];omega⟩,aF (cc Tryz.func193 (Fq hB) (ay)),by kernel_rfl⟩
def oH:Con:=fun l os=>match l,os with
 | [.z (.slice (.int .u32)) m, .z (.int .u32) b], []=>some (Lim m/\y7 b/\m.length<CAP, [.z (.slice (.int .u32)) (padL (valL m/b).toNat m.length), .z (.int .u32) (valL m%b)], [])
 |_,_=>none
theorem NL{B:aj}(hB:aC B):Valid B Tryz.prog 189 oH:=by
 refine ab (LJ hB).tab Tryz.func189 rfl rfl rfl ?_
 intro args os C rs os' hc hC
 unfold oH at hc
 split at hc
 case h_2=>cases hc
 rename_i m b
 cases hc
 refine v_h (LJ hB) fun X hP hT hr hG=> ?_
 have hU:=uq.eq_1
 unfold uq at hT
 have hX:= @v8.eq_1
 simp only[Tryz.f189,aD,al,ioB]
 refine s_g hG ?_
 refine s_q hG ?_ ?_
 ·try simp only[ba]
  exact⟨by omega,by omega,by have:=hC.2.2;unfold CAP at this;unfold Cm.Roomy;omega⟩
 refine s_g hG ?_
 refine ak ?_
 refine s_g hG ?_
 refine au ?_
 refine DX hr (gf:=208) (caps:= [.z (.ptr (.slice (.int .u32))) m]) (items:=cT m) (by simp only[hT,uq,mx0,mx1,mx2,mx3,mx4,mx5,mx6,aU,bm,bI,aY,bl,Ty.fieldTy,Ty.fieldOf,Nat.reduceLT,Nat.reduceEqDiff,Nat.reduceAdd,Nat.reduceMul,Nat.reduceSub,Nat.reduceLeDiff,Nat.reduceBEq,Nat.reduceBNe,reduceIte,reduceDIte,reduceCtorEq];try rfl) (by rfl) (by rw[hP];exact zi m) (by rfl) [3,6,7] (by rfl) (by simp only[hT,uq];try rfl) (fun(k:Nat) (z:Int×List Int)=>(⟨[(3, .l (.z (.ptr (.int .u32)) b)),(6, .l (.ownP 6 0)),(7, .l (.ownP 7 0))], [(6, .box 87 [.ownS 13]),(7, .box 164 [.z (.int .u64) z.1]),(13, .arr (.int .u32) 161 z.2)]⟩:aa)) (fun(k:Nat) (z:Int×List Int)=>kF m b k z.1 z.2) (0,List.replicate (List.length m) 0) ?_ ?_ ?_ ?_ ?_
 ·simp only[ml0,ml1,Nat.reduceLT,Nat.reduceEqDiff,Nat.reduceAdd,Nat.reduceMul,Nat.reduceSub,Nat.reduceLeDiff,Nat.reduceBEq,Nat.reduceBNe,reduceIte,reduceDIte,reduceCtorEq]
  simp
 ·exact y9 hC.2.1
 ·intro k z;rfl
 ·intro k hk
  rintro⟨r,out⟩ hz
  try dsimp only at hz
  have hk:k<List.length m:=by simpa [cT] using hk
  refine⟨_,by simp only[hT,uq,cT,s7,mx0,mx1,mx2,mx3,mx4,mx5,mx6,aU,bm,bI,aY,bl,Ty.fieldTy,Ty.fieldOf,Nat.reduceLT,Nat.reduceEqDiff,Nat.reduceAdd,Nat.reduceMul,Nat.reduceSub,Nat.reduceLeDiff,Nat.reduceBEq,Nat.reduceBNe,reduceIte,reduceDIte,reduceCtorEq,List.getElem_map,List.getElem_range];rfl,?_⟩
  intro X' hP' hT'
  have hG':aK X'.P X'.T:=by rw[hP',hT'];exact hG.keep _
  rw[hT] at hT'
  refine au ?_
  refine ak ?_
  refine nS hG' ?_ ?_
  ·first|trivial|omega|(simp;done)|(simp;omega)
  refine ah ?_
  refine DY hG' ?_ ?_
  ·try simp only[ba]
   have hl:=hz.1
   exact⟨D8 hC.2.1,D8 hC.2.1,by omega,by omega⟩
  refine aQ ?_
  show ∃ z,_
  simp only[ml0,ml1,Nat.reduceLT,Nat.reduceEqDiff,Nat.reduceAdd,Nat.reduceMul,Nat.reduceSub,Nat.reduceLeDiff,Nat.reduceBEq,Nat.reduceBNe,reduceIte,reduceDIte,reduceCtorEq]
  exact Cu hC.1 hC.2.1 hk hz
 ·rintro⟨r,out⟩ hz
  try dsimp only at hz
  rw[show List.length (cT m)=List.length m by simp[cT]] at hz
  refine aQ ?_
  refine ah ?_
  refine s_d hG ?_ ?_
  ·first|trivial|omega|(simp;done)|(simp;omega)
  refine az ?_
  refine q_e [13] ?_
  exact Gy hC.1 hC.2.1 hz
def FL(B:aj):Tab:={types:= [(3,(.int .i64)),(87,(.slice (.int .u32))),(161,(.int .u32)),(164,(.int .u64))],elems:= [(87,161)],cons:= [],hint:= [],N:=41,base:=B}
theorem LK{B:aj}(hB:aC B):aK Tryz.prog (FL B):=⟨⟨tc ty3 (tc ix (tc fO (tc nk (ae)))),aR (by kernel_rfl) (af),by simp only[FL,ioB];omega⟩,bP rfl,by kernel_rfl⟩
def lR:Con:=fun l os=>match l,os with
 | [.z (.slice (.int .u32)) m, .z (.int .u32) b], []=>some (Lim m/\y8 b/\m.length<CAP, [.own (.int .u32) 161 (padL (valL m*b).toNat (m.length+1))], [])
 |_,_=>none
theorem NM{B:aj}(hB:aC B):Valid B Tryz.prog 190 lR:=by
 refine ab (LK hB).tab Tryz.func190 rfl rfl rfl ?_
 intro args os C rs os' hc hC
 unfold lR at hc
 split at hc
 case h_2=>cases hc
 rename_i m b
 cases hc
 refine v_h (LK hB) fun X hP hT hr hG=> ?_
 have hU:=FL.eq_1
 unfold FL at hT
 have hX:=Bool.not_true
 simp only[Tryz.f190,aD,al,ioB]
 refine s_g hG ?_
 refine s_q hG ?_ ?_
 ·try simp only[ba]
  have h1:List.length m<1000000000000:=hC.2.2
  rw[wi (by omega) (by omega)]
  exact⟨by omega,by omega,by unfold Cm.Roomy;omega⟩
 refine s_g hG ?_
 refine ak ?_
 refine s_g hG ?_
 refine au ?_
 refine br (fun(z:Nat×Int×List Int)=>(⟨[(1, .l (.z (.int .u32) b)),(5, .l (.ownS 13)),(6, .l (.z (.int .u64) z.2.1)),(14, .l (.z (.slice (.int .u32)) m)),(15, .l (.z (.int .i64) (List.length m:Int))),(16, .l (.z (.int .i64) (z.1:Int)))], [(13, .arr (.int .u32) 161 z.2.2)]⟩:aa)) (fun z=>jv m b z.1 z.2.1 z.2.2) (fun z=>List.length m-z.1) (0,0, []) ?_ ?_ ?_
 ·refine q_l ?_
  exact⟨rfl,rfl⟩
 ·exact w7
 ·rintro⟨k,c,out⟩ hz
  try dsimp only at hz
  refine s_g hG ?_
  refine ak ?_
  refine aq ?_ ?_
  ·intro hb0
   try simp only[bt] at hb0
   refine ar ?_
   refine ah ?_
   refine ak ?_
   refine au ?_
   refine s_q hG ?_ ?_
   ·try simp only[ba]
    exact⟨by omega,hb0⟩
   refine s_g hG ?_
   refine ag hG ?_ ?_
   ·try simp only[ba]
    have h1:List.length m<1000000000000:=hC.2.2
    have h2:=hz.2.1
    exact⟨by decide,by unfold Cm.Roomy;omega,by decide⟩
   refine aQ ?_
   refine ah ?_
   refine ag hG ?_ ?_
   ·first|trivial|omega|(simp;done)|(simp;omega)
   show ∃ z,_
   refine q_l ?_
   exact za hC.1 hC.2.2 hC.2.1 hb0 hz
  ·intro hb0
   try simp only[bf] at hb0
   refine bg ?_
   refine aE ?_
   refine ax ?_
   refine aw ?_
   refine ah ?_
   refine s_q hG ?_ ?_
   ·try simp only[ba]
    have h1:List.length m<1000000000000:=hC.2.2
    have h2:=hz.2.1
    have h3:=hz.1
    unfold Cm.Roomy;omega
   refine az ?_
   refine q_e [] ?_
   exact⟨trivial,Cv hC.1 hC.2.1 hb0 hz⟩
def FM(B:aj):Tab:={types:= [(2,(.int .i64)),(3,(.int .i64)),(87,(.slice (.int .u32))),(161,(.int .u32)),(164,(.int .u64))],elems:= [],cons:= [],hint:= [],N:=57,base:=B}
theorem LL{B:aj}(hB:aC B):aK Tryz.prog (FM B):=⟨⟨tc ty2 (tc ty3 (tc ix (tc fO (tc nk (ae))))),af,by simp only[FM,ioB];omega⟩,bP rfl,by kernel_rfl⟩
def we:Con:=fun l os=>match l,os with
 | [.ownS 10000000, .z (.slice (.int .u32)) o, .z (.int .u64) q], [.win (.int .u32) 161 pre xs []]=>some (Lim xs/\Lim o/\y8 q/\o.length+1<=xs.length/\o.length<CAP, [.z .bool (decide (valL (xs.take (o.length+1))<q*valL o))], [.win (.int .u32) 161 pre (put xs (o.length+1) (valL (xs.take (o.length+1))-q*valL o)) []])
 |_,_=>none
theorem NN{B:aj}(hB:aC B):Valid B Tryz.prog 191 we:=by
 refine ab (LL hB).tab Tryz.func191 rfl rfl rfl ?_
 intro args os C rs os' hc hC
 unfold we at hc
 split at hc
 case h_2=>cases hc
 rename_i o q pre xs
 cases hc
 refine v_h (LL hB) fun X hP hT hr hG=> ?_
 have hU:=FM.eq_1
 unfold FM at hT
 have hX:=Bool.not_true
 simp only[Tryz.f191,aD,al,ioB]
 refine s_g hG ?_
 refine s_g hG ?_
 refine ak ?_
 refine s_g hG ?_
 refine au ?_
 refine br (fun(z:Nat×Int×Int×List Int)=>(⟨[(0, .l (.ownS 10000000)),(1, .l (.z (.slice (.int .u32)) o)),(2, .l (.z (.int .u64) q)),(7, .l (.z (.int .u64) z.2.1)),(8, .l (.z (.int .i64) z.2.2.1)),(14, .l (.z (.int .i64) ((List.length o+1:Nat):Int))),(15, .l (.z (.int .i64) (z.1:Int)))], [(10000000, .win (.int .u32) 161 pre z.2.2.2 [])]⟩:aa)) (fun z=>jU xs o q z.1 z.2.1 z.2.2.1 z.2.2.2) (fun z=>List.length o+1-z.1) (0,0,0,xs) ?_ ?_ ?_
 ·refine q_l ?_
  exact⟨wi (by omega) (by have:List.length o<1000000000000:=hC.2.2.2.2;omega),rfl⟩
 ·exact Cy hC.1
 ·rintro⟨i,c,b,ys⟩ hz
  try dsimp only at hz
  have hl:=hz.2.1
  have hlen:=hC.2.2.2.1
  refine s_g hG ?_
  refine ak ?_
  refine aq ?_ ?_
  ·intro hb0
   try simp only[bt] at hb0
   refine ar ?_
   refine ah ?_
   refine ak ?_
   refine au ?_
   refine s_g hG ?_
   refine s_g hG ?_
   refine ct (fun(z:Int)=>(⟨[(0, .l (.ownS 10000000)),(1, .l (.z (.slice (.int .u32)) o)),(2, .l (.z (.int .u64) q)),(8, .l (.z (.int .i64) b)),(9, .l (.z (.int .i64) (i:Int))),(10, .l (.z (.int .u64) z)),(14, .l (.z (.int .i64) ((List.length o+1:Nat):Int))),(15, .l (.z (.int .i64) (i:Int)))], [(10000000, .win (.int .u32) 161 pre ys [])]⟩:aa)) (fun z=>z=c+q*o.getD i 0) ?_ ?_
   ·refine s_g hG ?_
    refine aq ?_ ?_
    ·intro hb1
     try simp only[bt] at hb1
     refine ag hG ?_ ?_
     ·try simp only[ba]
      exact⟨by omega,hb1⟩
     show ∃ z,_
     refine q_l ?_
     first|exact Js i hC.2.1 hC.2.2.1 hz.2.2.2.2.1|exact vh hb1
    ·intro hb1
     try simp only[bf] at hb1
     refine ar ?_
     show ∃ z,_
     refine q_l ?_
     first|exact Js i hC.2.1 hC.2.2.1 hz.2.2.2.2.1|exact vh hb1
   rintro n hn
   try dsimp only at hn
   have hn2:0<=n/\n<LB*LB:=by rw[hn];have:=Cz i hC.2.1 hC.2.2.1 hz.2.2.2.2.1;exact⟨this.1,this.2.1⟩
   refine s_q hG ?_ ?_
   ·try simp only[ba]
    decide
   refine s_q hG ?_ ?_
   ·try simp only[ba]
    exact⟨⟨by omega,by omega⟩,by omega,by decide⟩
   refine s_g hG ?_
   refine ct (fun(z:Int×Int)=>(⟨[(0, .l (.ownS 10000000)),(1, .l (.z (.slice (.int .u32)) o)),(2, .l (.z (.int .u64) q)),(7, .l (.z (.int .u64) (n/LB))),(8, .l (.z (.int .i64) z.2)),(9, .l (.z (.int .i64) (i:Int))),(11, .l (.z (.int .i64) z.1)),(14, .l (.z (.int .i64) ((List.length o+1:Nat):Int))),(15, .l (.z (.int .i64) (i:Int)))], [(10000000, .win (.int .u32) 161 pre ys [])]⟩:aa)) (fun z=>(0<=z.1/\z.1<LB)/\(0<=z.2/\z.2<=1)/\z.1-LB*z.2=ys.getD i 0-n%LB-b) ?_ ?_
   ·refine s_g hG ?_
    refine aq ?_ ?_
    ·intro hb2
     try simp only[bt] at hb2
     refine ag hG ?_ ?_
     ·first|trivial|omega|(simp;done)|(simp;omega)
     show ∃ z,_
     refine q_l ?_
     first|exact(by simpa only[and_assoc] using(ng hz.2.2.1 hn2 hz.2.2.2.2.2.2.1 rfl).1 hb2)|exact(by simpa only[and_assoc] using(ng hz.2.2.1 hn2 hz.2.2.2.2.2.2.1 rfl).2 hb2)
    ·intro hb2
     try simp only[bf] at hb2
     refine ar ?_
     show ∃ z,_
     refine q_l ?_
     first|exact(by simpa only[and_assoc] using(ng hz.2.2.1 hn2 hz.2.2.2.2.2.2.1 rfl).1 hb2)|exact(by simpa only[and_assoc] using(ng hz.2.2.1 hn2 hz.2.2.2.2.2.2.1 rfl).2 hb2)
   rintro⟨v,b2⟩ hv
   try dsimp only at hv
   refine ag hG ?_ ?_
   ·try simp only[ba]
    exact⟨⟨by omega,by omega⟩,by omega⟩
   refine aQ ?_
   refine ah ?_
   refine ag hG ?_ ?_
   ·first|trivial|omega|(simp;done)|(simp;omega)
   show ∃ z,_
   refine q_l ?_
   exact GA hC.2.1 hC.2.2.1 hC.2.2.2.1 hC.2.2.2.2 hz hb0 hn hv
  ·intro hb0
   try simp only[bf] at hb0
   refine bg ?_
   refine aE ?_
   refine ax ?_
   refine aw ?_
   refine ah ?_
   refine s_g hG ?_
   refine az ?_
   refine q_e [] ?_
   exact⟨(zc hC.2.2.2.1 hz (by omega)).2,trivial,(zc hC.2.2.2.1 hz (by omega)).1⟩
def FN(B:aj):Tab:={types:= [(3,(.int .i64)),(87,(.slice (.int .u32))),(161,(.int .u32))],elems:= [],cons:= [],hint:= [],N:=37,base:=B}
theorem LM{B:aj}(hB:aC B):aK Tryz.prog (FN B):=⟨⟨tc ty3 (tc ix (tc fO (ae))),af,by simp only[FN,ioB];omega⟩,bP rfl,by kernel_rfl⟩
def wg:Con:=fun l os=>match l,os with
 | [.ownS 10000000, .z (.slice (.int .u32)) o], [.win (.int .u32) 161 pre xs []]=>some (Lim xs/\Lim o/\o.length+1<=xs.length/\o.length<CAP, [], [.win (.int .u32) 161 pre (put xs (o.length+1) (valL (xs.take (o.length+1))+valL o)) []])
 |_,_=>none
theorem NO{B:aj}(hB:aC B):Valid B Tryz.prog 192 wg:=by
 refine ab (LM hB).tab Tryz.func192 rfl rfl rfl ?_
 intro args os C rs os' hc hC
 unfold wg at hc
 split at hc
 case h_2=>cases hc
 rename_i o pre xs
 cases hc
 refine v_h (LM hB) fun X hP hT hr hG=> ?_
 have hU:=FN.eq_1
 unfold FN at hT
 have hX:=Bool.not_true
 simp only[Tryz.f192,aD,al,ioB]
 refine s_g hG ?_
 refine s_g hG ?_
 refine au ?_
 refine br (fun(z:Nat×Int×List Int)=>(⟨[(0, .l (.ownS 10000000)),(1, .l (.z (.slice (.int .u32)) o)),(4, .l (.z (.int .u32) z.2.1)),(9, .l (.z (.int .i64) ((List.length o+1:Nat):Int))),(10, .l (.z (.int .i64) (z.1:Int)))], [(10000000, .win (.int .u32) 161 pre z.2.2 [])]⟩:aa)) (fun z=>jV xs o z.1 z.2.1 z.2.2) (fun z=>List.length o+1-z.1) (0,0,xs) ?_ ?_ ?_
 ·refine q_l ?_
  exact⟨wi (by omega) (by have:List.length o<1000000000000:=hC.2.2.2;omega),rfl⟩
 ·exact CB hC.1
 ·rintro⟨i,c,ys⟩ hz
  try dsimp only at hz
  have hl:=hz.2.1
  have hlen:=hC.2.2.1
  refine s_g hG ?_
  refine ak ?_
  refine aq ?_ ?_
  ·intro hb0
   try simp only[bt] at hb0
   refine ar ?_
   refine ah ?_
   refine ak ?_
   refine au ?_
   refine s_g hG ?_
   refine s_q hG ?_ ?_
   ·try simp only[ba]
    exact⟨⟨by omega,by omega⟩,by omega⟩
   refine ct (fun(z:Int)=>(⟨[(0, .l (.ownS 10000000)),(1, .l (.z (.slice (.int .u32)) o)),(5, .l (.z (.int .i64) (i:Int))),(6, .l (.z (.int .u32) z)),(9, .l (.z (.int .i64) ((List.length o+1:Nat):Int))),(10, .l (.z (.int .i64) (i:Int)))], [(10000000, .win (.int .u32) 161 pre ys [])]⟩:aa)) (fun z=>z=ys.getD i 0+c+o.getD i 0) ?_ ?_
   ·refine s_g hG ?_
    refine aq ?_ ?_
    ·intro hb1
     try simp only[bt] at hb1
     refine ag hG ?_ ?_
     ·try simp only[ba]
      exact⟨by omega,hb1⟩
     show ∃ z,_
     refine q_l ?_
     first|exact(w9 i hz.2.2.1 hC.2.1 hz.2.2.2.2.1).2 hb1|exact(w9 i hz.2.2.1 hC.2.1 hz.2.2.2.2.1).1
    ·intro hb1
     try simp only[bf] at hb1
     refine ar ?_
     show ∃ z,_
     refine q_l ?_
     first|exact(w9 i hz.2.2.1 hC.2.1 hz.2.2.2.2.1).2 hb1|exact(w9 i hz.2.2.1 hC.2.1 hz.2.2.2.2.1).1
   rintro n hn
   try dsimp only at hn
   refine ag hG ?_ ?_
   ·try simp only[ba]
    exact⟨by decide,by decide,⟨by omega,by omega⟩,by omega⟩
   refine aQ ?_
   refine ah ?_
   refine ag hG ?_ ?_
   ·first|trivial|omega|(simp;done)|(simp;omega)
   show ∃ z,_
   refine q_l ?_
   exact GB hC.2.1 hC.2.2.1 hC.2.2.2 hz hb0 hn
  ·intro hb0
   try simp only[bf] at hb0
   refine bg ?_
   refine aE ?_
   refine ax ?_
   refine aw ?_
   refine q_e [] ?_
   exact⟨trivial,Jr hC.2.2.1 hz (by omega)⟩
def wh(B:aj):Tab:={types:= [(3,(.int .i64)),(4, .bool),(87,(.slice (.int .u32))),(89,(.st (.pair .bool (.slice (.int .u32))))),(161,(.int .u32)),(164,(.int .u64))],elems:= [(87,161)],cons:= [(150,ec),(152,eU),(189,oH),(190,lR),(191,we),(192,wg)],hint:= [52,144,152],N:=172,io:= [(191, [0]),(192, [0])],base:=B}
theorem LN{B:aj}(hB:aC B):aK Tryz.prog (wh B):=⟨⟨tc ty3 (tc ty4 (tc ix (tc gN (tc fO (tc nk (ae)))))),aR (by kernel_rfl) (af),by simp only[wh,ioB];omega⟩,aF (cc Tryz.func150 (kc hB) (cc Tryz.func152 (xQ hB) (cc Tryz.func189 (NL hB) (cc Tryz.func190 (NM hB) (cc Tryz.func191 (NN hB) (cc Tryz.func192 (NO hB) (ay))))))),by kernel_rfl⟩
def jI:Con:=fun l os=>match l,os with
 | [.z (.slice (.int .u32)) m, .z (.slice (.int .u32)) o], []=>some (Cano m/\Cano o/\o≠ []/\m.length+o.length+1<CAP, [.z (.slice (.int .u32)) (iG m o), .z (.slice (.int .u32)) (dP m o)], [])
 |_,_=>none
set_option maxHeartbeats 1000000 in
theorem FO{B:aj}(hB:aC B):Valid B Tryz.prog 177 jI:=by
 refine ab (LN hB).tab Tryz.func177 rfl rfl rfl ?_
 intro args os C rs os' hc hC
 unfold jI at hc
 split at hc
 case h_2=>cases hc
 rename_i m o
 cases hc
 refine v_h (LN hB) fun X hP hT hr hG=> ?_
 have hU:=wh.eq_1
 unfold wh at hT
 have hX:=ai @eU.eq_1<|ai @wg.eq_1<|ai @we.eq_1<|ai @lR.eq_1<|ai @oH.eq_1<|ai @ec.eq_1<|ai @bX.eq_def<| @cj.eq_def
 simp only[Tryz.f177,aD,al,ioB]
 refine ak ?_
 show J X _ _ _
 refine ag hG ?_ ?_
 ·first|trivial|omega|(simp;done)|(simp;omega)
 refine ah ?_
 refine ak ?_
 refine ak ?_
 show J X _ _ _
 refine ag hG ?_ ?_
 ·try simp only[ba]
  exact⟨hC.1,hC.2.1,Nat.lt_of_le_of_lt (Nat.le_succ _) hC.2.2.2⟩
 refine ah ?_
 refine aq ?_ ?_
 ·intro hb0
  try simp only[bt] at hb0
  refine ak ?_
  show J X _ _ _
  refine ag hG ?_ ?_
  ·first|trivial|omega|(simp;done)|(simp;omega)
  refine ah ?_
  refine az ?_
  refine aB ?_
  refine q_e [62] ?_
  exact JA hb0
 ·intro hb0
  try simp only[bf] at hb0
  refine ar ?_
  refine ah ?_
  refine ak ?_
  refine ak ?_
  show J X _ _ _
  refine ag hG ?_ ?_
  ·first|trivial|omega|(simp;done)|(simp;omega)
  refine ah ?_
  refine aq ?_ ?_
  ·intro hb1
   try simp only[bt] at hb1
   refine ak ?_
   show J X _ _ _
   refine ag hG ?_ ?_
   ·try simp only[ba]
    exact⟨⟨by omega,by omega⟩,hC.1.1,(div_one hC.2.1 hb0 hb1).1,by have:=hC.2.2.2;omega⟩
   refine ah ?_
   refine ak ?_
   show J X _ _ _
   refine ag hG ?_ ?_
   ·first|trivial|omega|(simp;done)|(simp;omega)
   refine ah ?_
   refine az ?_
   refine aB ?_
   refine q_e [62] ?_
   exact(div_one hC.2.1 hb0 hb1).2
  ·intro hb1
   simp only[beq_eq_false_iff_ne,ne_eq] at hb1
   obtain⟨p,hp⟩:∃ p,List.length o=p+2:=po hC.2.2.1 hb1
   obtain⟨D,f⟩:∃ D:List Int,gM m o D p:=⟨_,gM.mk' hC.1 hC.2.1 hp (JB hb0) hC.2.2.2⟩
   have hDl:=f.hDl
   have hcc:=f.hc
   have hlm:=f.hlm
   refine ar ?_
   refine ah ?_
   refine ct (fun(z:Int)=>(⟨[(0, .l (.z (.slice (.int .u32)) m)),(1, .l (.z (.slice (.int .u32)) o)),(8, .l (.z (.int .u32) z))], []⟩:aa)) (fun z=>z=aM o) ?_ ?_
   ·show J X _ _ _
    refine ag hG ?_ ?_
    ·try simp only[ba]
     have h:=sV f.ho f.hp (by omega)
     exact⟨h.1,h.2.1⟩
    show ∃ z,_
    refine q_l ?_
    exact(sV f.ho f.hp (by omega)).2.2
   rintro d hd
   try dsimp only at hd
   subst hd
   refine ak ?_
   show J X _ _ _
   refine gL hG ?_ ?_
   ·try simp only[ba]
    exact GG f
   refine ah ?_
   refine ak ?_
   show J X _ _ _
   refine ag hG ?_ ?_
   ·first|trivial|omega|(simp;done)|(simp;omega)
   refine ah ?_
   refine ak ?_
   show J X _ _ _
   refine ag hG ?_ ?_
   ·try simp only[ba]
    exact GH f
   refine ah ?_
   refine ak ?_
   refine ak ?_
   show J X _ _ _
   refine ag hG ?_ ?_
   ·first|trivial|omega|(simp;done)|(simp;omega)
   refine ah ?_
   refine au ?_
   refine br (fun(z:Nat×List Int×List Int)=>(⟨[(8, .l (.z (.int .u32) (aM o))),(9, .l (.ownS 1392)),(10, .l (.z (.slice (.int .u32)) D)),(11, .l (.z (.int .i64) (List.length o:Int))),(12, .l (.ownS 62)),(13, .l (.z (.int .i64) ((z.1:Int)-1)))], [(1392, .arr (.int .u32) 161 z.2.1),(62, .arr (.int .u32) 161 z.2.2)]⟩:aa)) (fun z=>jX (valL m*aM o) (valL D) (List.length m) (p+2) z.1 z.2.1 z.2.2) (fun z=>z.1) (List.length m+1-List.length o,padL (valL m*aM o).toNat (List.length m+1),List.replicate (List.length m+1-List.length o) 0) ?_ ?_ ?_
   ·refine q_l ?_
    exact Ms f
   ·exact CD f
   ·rintro⟨k,T,Q⟩ hz
    try dsimp only at hz
    have hz1:=hz.1
    have hz3:=hz.2.2.1
    have hz5:=hz.2.2.2.2.1
    refine ak ?_
    refine ak ?_
    show J X _ _ _
    refine ag hG ?_ ?_
    ·first|trivial|omega|(simp;done)|(simp;omega)
    refine ah ?_
    refine aq ?_ ?_
    ·intro hb2
     try simp only[decide_eq_true_eq] at hb2
     obtain⟨j,rfl⟩:∃ j,k=j+1:=⟨k-1,by omega⟩
     have ej:(((j+1:Nat)):Int)-1=(j:Int):=by omega
     rw[ej]
     have hw17:(j:Int).toNat<List.length T:=by omega
     have hw19:∀ v:Int,(j:Int).toNat<(List.take (j:Int).toNat T++put (List.drop (j:Int).toNat T) (List.length D+1) v).length:=fun v=>by rw[Ec _ (by rw[hDl];omega)];exact hw17
     have ej0:IntKind.i64.wrap ((j:Int)+(List.length o:Int))=((j+(p+2):Nat):Int):=by rw[wi (by omega) (by omega)];omega
     have ej1:IntKind.i64.wrap (((j+(p+2):Nat):Int)-1)=((j+(p+1):Nat):Int):=by rw[wi (by omega) (by omega)];omega
     have ej2:IntKind.i64.wrap (((j+(p+2):Nat):Int)-2)=((j+p:Nat):Int):=by rw[wi (by omega) (by omega)];omega
     have g:=zd (j:=j) (p:=p) hz.2.1 f.hL f.hDl f.hVp (by omega) hz.2.2.2.2.2.2
     have hD1:=(f.hL.getD (p+1)).2
     have hTj:j+(p+3)<=List.length T:=by omega
     refine ar ?_
     refine ah ?_
     refine ak ?_
     refine au ?_
     refine ct (fun(z:Int)=>(⟨[(8, .l (.z (.int .u32) (aM o))),(9, .l (.ownS 1392)),(10, .l (.z (.slice (.int .u32)) D)),(11, .l (.z (.int .i64) (List.length o:Int))),(12, .l (.ownS 62)),(13, .l (.z (.int .i64) (j:Int))),(14, .l (.z (.int .u64) z))], [(1392, .arr (.int .u32) 161 T),(62, .arr (.int .u32) 161 Q)]⟩:aa)) (fun z=>z=T.getD (j+(p+2)) 0*LB+T.getD (j+(p+1)) 0/\z<LB*LB) ?_ ?_
     ·show J X _ _ _
      refine gL hG ?_ ?_
      ·try simp only[ba]
       simp only[ej0,ej1,Int.toNat_natCast]
       exact⟨⟨by omega,by omega⟩,by omega,⟨by omega,by omega⟩,by omega⟩
      show ∃ z,_
      refine q_l ?_
      simp only[f.en1,f.en2,ej0,ej1,ej2,Int.toNat_natCast,fI]
      have:=Jv (hz.2.1.getD (j+(p+2))) (hz.2.1.getD (j+(p+1)))
      rw[this.1]
      exact⟨rfl,this.2.1⟩
     rintro top ht
     try dsimp only at ht
     have g2:=g
     rw[<- ht.1] at g2
     have ht0:=g2.htop
     refine ct (fun(z:Int)=>(⟨[(8, .l (.z (.int .u32) (aM o))),(9, .l (.ownS 1392)),(10, .l (.z (.slice (.int .u32)) D)),(11, .l (.z (.int .i64) (List.length o:Int))),(12, .l (.ownS 62)),(13, .l (.z (.int .i64) (j:Int))),(14, .l (.z (.int .u64) top)),(15, .l (.z (.int .u64) z))], [(1392, .arr (.int .u32) 161 T),(62, .arr (.int .u32) 161 Q)]⟩:aa)) (fun z=>z=min (top/D.getD (p+1) 0) 999999999) ?_ ?_
     ·show J X _ _ _
      refine ag hG ?_ ?_
      ·try simp only[ba]
       simp only[f.en1,f.en2,ej0,ej1,ej2,Int.toNat_natCast,fI]
       exact⟨⟨by omega,by omega⟩,(ze ht0 ht.2 g.hD1 hD1).2⟩
      show ∃ z,_
      refine q_l ?_
      simp only[f.en1,f.en2,ej0,ej1,ej2,Int.toNat_natCast,fI]
      rw[(ze ht0 ht.2 g.hD1 hD1).1]
     rintro gs hg
     try dsimp only at hg
     refine ak ?_
     refine au ?_
     refine br (fun(z:Int)=>(⟨[(8, .l (.z (.int .u32) (aM o))),(9, .l (.ownS 1392)),(10, .l (.z (.slice (.int .u32)) D)),(11, .l (.z (.int .i64) (List.length o:Int))),(12, .l (.ownS 62)),(13, .l (.z (.int .i64) (j:Int))),(14, .l (.z (.int .u64) top)),(15, .l (.z (.int .u64) z))], [(1392, .arr (.int .u32) 161 T),(62, .arr (.int .u32) 161 Q)]⟩:aa)) (fun z=>GF (valL ((T.drop j).take (p+3))) (valL D) top (D.getD (p+1) 0) z) (fun z=>z.toNat) gs ?_ ?_ ?_
     ·simp only[ml0,ml1,Nat.reduceLT,Nat.reduceEqDiff,Nat.reduceAdd,Nat.reduceMul,Nat.reduceSub,Nat.reduceLeDiff,Nat.reduceBEq,Nat.reduceBNe,reduceIte,reduceDIte,reduceCtorEq]
     ·exact Mq g2 hg
     ·rintro q hq
      try dsimp only at hq
      refine ak ?_
      refine ak ?_
      show J X _ _ _
      refine gL hG ?_ ?_
      ·try simp only[ba]
       simp only[f.en1,f.en2,ej0,ej1,ej2,Int.toNat_natCast,fI]
       exact⟨⟨by omega,by omega⟩,⟨by omega,by omega⟩,⟨by omega,by omega⟩,by omega,fun h=>h,fun h=>⟨h,by omega,by omega⟩,fun h=>h⟩
      refine ah ?_
      refine aq ?_ ?_
      ·intro hb3
       try simp only[bt] at hb3
       refine ar ?_
       refine ah ?_
       refine au ?_
       show J X _ _ _
       refine ag hG ?_ ?_
       ·first|trivial|omega|(simp;done)|(simp;omega)
       refine aQ ?_
       show ∃ z,_
       refine q_l ?_
       simp only[f.en1,f.en2,ej0,ej1,ej2,Int.toNat_natCast,fI] at hb3
       exact Oi g2 ht.2 hD1 hq hb3
      ·intro hb3
       try simp only[bf] at hb3
       refine bg ?_
       refine aE ?_
       refine ax ?_
       refine aw ?_
       refine ah ?_
       refine ct (fun(z:Int×List Int)=>(⟨[(8, .l (.z (.int .u32) (aM o))),(9, .l (.ownS 1392)),(10, .l (.z (.slice (.int .u32)) D)),(11, .l (.z (.int .i64) (List.length o:Int))),(12, .l (.ownS 62)),(13, .l (.z (.int .i64) (j:Int))),(15, .l (.z (.int .u64) z.1))], [(1392, .arr (.int .u32) 161 z.2),(62, .arr (.int .u32) 161 Q)]⟩:aa)) (fun z=>z.1=valL ((T.drop j).take (p+3))/valL D/\z.2=T.take j++put (T.drop j) (p+3) (valL ((T.drop j).take (p+3))-z.1*valL D)) ?_ ?_
       ·refine ak ?_
        show J X _ _ _
        refine cG hG (by simp only[hw17,hT,wh,bX.eq_def,cj.eq_def,eU,wg,we,lR,oH,ec,mx0,mx1,mx2,mx3,mx4,mx5,mx6,aU,bm,bI,aY,bl,Ty.fieldTy,Ty.fieldOf,Nat.reduceLT,Nat.reduceEqDiff,Nat.reduceAdd,Nat.reduceMul,Nat.reduceSub,Nat.reduceLeDiff,Nat.reduceBEq,Nat.reduceBNe,reduceIte,reduceDIte,reduceCtorEq];rfl) ?_ ?_
        ·try simp only[ba]
         simp only[Int.toNat_natCast]
         exact⟨⟨by omega,by omega⟩,⟨hz.2.1.drop j,f.hL,⟨hq.2.2.2,hq.2.1⟩,by rw[hDl,List.length_drop];omega,by rw[hDl];unfold CAP;omega⟩,by rw[List.length_take];omega⟩
        refine ah ?_
        refine aq ?_ ?_
        ·intro hb4
         try simp only[bt] at hb4
         refine ak ?_
         show J X _ _ _
         refine ag hG ?_ ?_
         ·first|trivial|omega|(simp;done)|(simp;omega)
         refine ah ?_
         show J X _ _ _
         refine cG hG (by simp only[hw17,hw19,hT,wh,bX.eq_def,cj.eq_def,eU,wg,we,lR,oH,ec,mx0,mx1,mx2,mx3,mx4,mx5,mx6,aU,bm,bI,aY,bl,Ty.fieldTy,Ty.fieldOf,Nat.reduceLT,Nat.reduceEqDiff,Nat.reduceAdd,Nat.reduceMul,Nat.reduceSub,Nat.reduceLeDiff,Nat.reduceBEq,Nat.reduceBNe,reduceIte,reduceDIte,reduceCtorEq];rfl) ?_ ?_
         ·try simp only[ba]
          simp only[Int.toNat_natCast,f.hDl3]
          rw[(sW _ hTj).1,(sW _ hTj).2,Ec _ hTj]
          exact⟨⟨by omega,by omega⟩,⟨Ea (hz.2.1.drop j) _ _,f.hL,by rw[w8 _ (by rw[List.length_drop];omega),List.length_drop];omega,by rw[hDl];unfold CAP;omega⟩,by rw[List.length_take];omega⟩
         show ∃ z,_
         refine q_l ?_
         simp only[Int.toNat_natCast,f.hDl3] at hb4 ⊢
         simp only[f.en1,f.en2,ej0,ej1,ej2,Int.toNat_natCast,fI] at hb3
         have hst:=Jy g2 ht.2 hD1 hq hb3
         first|(have hq1:=hst.1 hb4;have hqn:=g.qnn;have hql:=g.qlt;have hB:LB=1000000000:=rfl;rw[w64 (x:=q-1) (by omega) (by omega),vk hTj];exact⟨hq1,rfl⟩)|exact⟨hst.2 hb4,trivial⟩|exact⟨hst.2 hb4,rfl⟩
        ·intro hb4
         try simp only[bf] at hb4
         refine ar ?_
         show ∃ z,_
         refine q_l ?_
         simp only[Int.toNat_natCast,f.hDl3] at hb4 ⊢
         simp only[f.en1,f.en2,ej0,ej1,ej2,Int.toNat_natCast,fI] at hb3
         have hst:=Jy g2 ht.2 hD1 hq hb3
         first|(have hq1:=hst.1 hb4;have hqn:=g.qnn;have hql:=g.qlt;have hB:LB=1000000000:=rfl;rw[w64 (x:=q-1) (by omega) (by omega),vk hTj];exact⟨hq1,rfl⟩)|exact⟨hst.2 hb4,trivial⟩|exact⟨hst.2 hb4,rfl⟩
       rintro⟨q2,Tn⟩ hq2
       try dsimp only at hq2
       show J X _ _ _
       refine ag hG ?_ ?_
       ·try simp only[ba]
        exact⟨⟨by omega,by omega⟩,by omega⟩
       refine aQ ?_
       refine ah ?_
       show J X _ _ _
       refine ag hG ?_ ?_
       ·first|trivial|omega|(simp;done)|(simp;omega)
       show ∃ z,_
       refine q_l ?_
       rw[wi (x:=(j:Int)-1) (by omega) (by omega),hq2.2,Int.toNat_natCast,w32 (by rw[hq2.1];exact g.qnn) (by rw[hq2.1];have:=g.qlt;have hB:LB=1000000000:=rfl;omega)]
       exact⟨j,rfl,GD f.hL f.hDl f.hVp f.hlm hz hq2.1,by omega⟩
    ·intro hb2
     try simp only[bf] at hb2
     refine bg ?_
     refine aE ?_
     refine ax ?_
     refine aw ?_
     refine ah ?_
     refine ak ?_
     show J X _ _ _
     refine ag hG ?_ ?_
     ·try simp only[ba]
      exact CE f hz (by omega)
     refine ah ?_
     refine ak ?_
     show J X _ _ _
     refine ag hG ?_ ?_
     ·first|trivial|omega|(simp;done)|(simp;omega)
     refine ah ?_
     refine az ?_
     refine q_e [62] ?_
     obtain rfl:k=0:=by omega
     exact Mr f hz
def FP(B:aj):Tab:={types:= [(3,(.int .i64)),(4, .bool),(87,(.slice (.int .u32))),(89,(.st (.pair .bool (.slice (.int .u32)))))],elems:= [],cons:= [(110,Aq),(133,jh),(150,ec),(154,pK),(177,jI),(179,NB)],hint:= [],N:=47,base:=B}
theorem LO{B:aj}(hB:aC B):aK Tryz.prog (FP B):=⟨⟨tc ty3 (tc ty4 (tc ix (tc gN (ae)))),af,by simp only[FP,ioB];omega⟩,aF (cc Tryz.func110 (xS hB) (cc Tryz.func133 (qb hB) (cc Tryz.func150 (kc hB) (cc Tryz.func154 (xP hB) (cc Tryz.func177 (FO hB) (cc Tryz.func179 (NC hB) (ay))))))),by kernel_rfl⟩
def FQ:Con:=fun l os=>match l,os with
 | [.z (.st (.pair .bool (.slice (.int .u32)))) x, .z (.st (.pair .bool (.slice (.int .u32)))) y], []=>some (nW x y, [.z (.st (.pair .bool (.slice (.int .u32)))) (enc (bQ (dec x) (dec y))), .z (.st (.pair .bool (.slice (.int .u32)))) (enc (jf (dec x) (dec y)))], [])
 |_,_=>none
theorem NP{B:aj}(hB:aC B):Valid B Tryz.prog 149 FQ:=by
 refine ab (LO hB).tab Tryz.func149 rfl rfl rfl ?_
 intro args os C rs os' hc hC
 unfold FQ at hc
 split at hc
 case h_2=>cases hc
 rename_i x y
 cases hc
 refine v_h (LO hB) fun X hP hT hr hG=> ?_
 have hU:=FP.eq_1
 unfold FP at hT
 have hX:=ai @Aq.eq_1<|ai @jI.eq_1<|ai @pK.eq_1<|ai @jh.eq_1<|ai @NB.eq_1<| @ec.eq_1
 simp only[Tryz.f149,aD,al,ioB]
 refine s_g hG ?_
 refine s_q hG ?_ ?_
 ·try simp only[ba]
  exact hC.side1
 refine s_d hG ?_ ?_
 ·try simp only[ba]
  exact hC.side2
 refine ak ?_
 refine s_q hG ?_ ?_
 ·try simp only[ba]
  exact⟨enc_ok _,fun h=>h⟩
 refine aq ?_ ?_
 ·intro hb0
  try simp only[bt] at hb0
  refine gL hG ?_ ?_
  ·try simp only[ba]
   exact hC.side4
  refine ah ?_
  refine s_d hG ?_ ?_
  ·first|trivial|omega|(simp;done)|(simp;omega)
  refine az ?_
  refine q_e [] ?_
  exact hC.fin1 hb0
 ·intro hb0
  try simp only[bf] at hb0
  refine ar ?_
  refine ah ?_
  refine s_d hG ?_ ?_
  ·first|trivial|omega|(simp;done)|(simp;omega)
  refine az ?_
  refine q_e [] ?_
  exact hC.fin2 hb0
def ur(B:aj):Tab:={types:= [(87,(.slice (.int .u32))),(161,(.int .u32)),(164,(.int .u64))],elems:= [],cons:= [(193,v8)],hint:= [],N:=16,base:=B}
theorem LP{B:aj}(hB:aC B):aK Tryz.prog (ur B):=⟨⟨tc ix (tc fO (tc nk (ae))),af,by simp only[ur,ioB];omega⟩,aF (cc Tryz.func193 (Fq hB) (ay)),by kernel_rfl⟩
def x9:Con:=fun l os=>match l,os with
 | [.z (.slice (.int .u32)) m], []=>some (Lim m/\m.length<=2, [.z (.int .u64) (valL m)], [])
 |_,_=>none
theorem NQ{B:aj}(hB:aC B):Valid B Tryz.prog 178 x9:=by
 refine ab (LP hB).tab Tryz.func178 rfl rfl rfl ?_
 intro args os C rs os' hc hC
 unfold x9 at hc
 split at hc
 case h_2=>cases hc
 rename_i m
 cases hc
 refine v_h (LP hB) fun X hP hT hr hG=> ?_
 have hU:=ur.eq_1
 unfold ur at hT
 have hX:= @v8.eq_1
 simp only[Tryz.f178,aD,al,ioB]
 refine s_g hG ?_
 refine s_g hG ?_
 refine ak ?_
 refine s_g hG ?_
 refine au ?_
 refine DX hr (gf:=208) (caps:= [.z (.ptr (.slice (.int .u32))) m]) (items:=cT m) (by simp only[hT,ur,mx0,mx1,mx2,mx3,mx4,mx5,mx6,aU,bm,bI,aY,bl,Ty.fieldTy,Ty.fieldOf,Nat.reduceLT,Nat.reduceEqDiff,Nat.reduceAdd,Nat.reduceMul,Nat.reduceSub,Nat.reduceLeDiff,Nat.reduceBEq,Nat.reduceBNe,reduceIte,reduceDIte,reduceCtorEq];try rfl) (by rfl) (by rw[hP];exact zi m) (by rfl) [3] (by rfl) (by simp only[hT,ur];try rfl) (fun(k:Nat) (z:Int)=>(⟨[(3, .l (.ownP 3 0))], [(3, .box 164 [.z (.int .u64) z])]⟩:aa)) (fun(k:Nat) (z:Int)=>z=valL (List.drop (List.length m-k) m)) 0 ?_ ?_ ?_ ?_ ?_
 ·simp only[ml0,ml1,Nat.reduceLT,Nat.reduceEqDiff,Nat.reduceAdd,Nat.reduceMul,Nat.reduceSub,Nat.reduceLeDiff,Nat.reduceBEq,Nat.reduceBNe,reduceIte,reduceDIte,reduceCtorEq]
 ·rw[Jl];rfl
 ·intro k z;rfl
 ·intro k hk
  rintro z hz
  try dsimp only at hz
  have hk:k<List.length m:=by simpa [cT] using hk
  refine⟨_,by simp only[hT,ur,cT,s7,mx0,mx1,mx2,mx3,mx4,mx5,mx6,aU,bm,bI,aY,bl,Ty.fieldTy,Ty.fieldOf,Nat.reduceLT,Nat.reduceEqDiff,Nat.reduceAdd,Nat.reduceMul,Nat.reduceSub,Nat.reduceLeDiff,Nat.reduceBEq,Nat.reduceBNe,reduceIte,reduceDIte,reduceCtorEq,List.getElem_map,List.getElem_range];rfl,?_⟩
  intro X' hP' hT'
  have hG':aK X'.P X'.T:=by rw[hP',hT'];exact hG.keep _
  rw[hT] at hT'
  refine au ?_
  refine nS hG' ?_ ?_
  ·first|trivial|omega|(simp;done)|(simp;omega)
  refine aQ ?_
  show ∃ z,_
  simp only[ml0,ml1,Nat.reduceLT,Nat.reduceEqDiff,Nat.reduceAdd,Nat.reduceMul,Nat.reduceSub,Nat.reduceLeDiff,Nat.reduceBEq,Nat.reduceBNe,reduceIte,reduceDIte,reduceCtorEq]
  exact y5 hC.1 hC.2 hk hz
 ·rintro z hz
  try dsimp only at hz
  rw[show List.length (cT m)=List.length m by simp[cT],Nat.sub_self,List.drop_zero] at hz
  refine aQ ?_
  refine ah ?_
  refine s_g hG ?_
  refine az ?_
  refine q_e [] ?_
  exact hz
def FR(B:aj):Tab:={types:= [(3,(.int .i64)),(4, .bool),(87,(.slice (.int .u32))),(89,(.st (.pair .bool (.slice (.int .u32))))),(161,(.int .u32)),(164,(.int .u64))],elems:= [(87,161)],cons:= [(150,ec),(177,jI),(178,x9)],hint:= [],N:=68,base:=B}
theorem LQ{B:aj}(hB:aC B):aK Tryz.prog (FR B):=⟨⟨tc ty3 (tc ty4 (tc ix (tc gN (tc fO (tc nk (ae)))))),aR (by kernel_rfl) (af),by simp only[FR,ioB];omega⟩,aF (cc Tryz.func150 (kc hB) (cc Tryz.func177 (FO hB) (cc Tryz.func178 (NQ hB) (ay)))),by kernel_rfl⟩
def wj:Con:=fun l os=>match l,os with
 | [.z (.st (.pair .bool (.slice (.int .u32)))) x, .z (.st (.pair .bool (.slice (.int .u32)))) y], []=>some (nX x y, [.z (.st (.pair .bool (.slice (.int .u32)))) (enc (cE (dec x) (dec y)))], [])
 |_,_=>none
theorem FS{B:aj}(hB:aC B):Valid B Tryz.prog 147 wj:=by
 refine ab (LQ hB).tab Tryz.func147 rfl rfl rfl ?_
 intro args os C rs os' hc hC
 unfold wj at hc
 split at hc
 case h_2=>cases hc
 rename_i x y
 cases hc
 refine v_h (LQ hB) fun X hP hT hr hG=> ?_
 have hU:=FR.eq_1
 unfold FR at hT
 have hX:=ai @jI.eq_1<|ai @x9.eq_1<| @ec.eq_1
 simp only[Tryz.f147,aD,al,ioB]
 refine s_g hG ?_
 refine s_d hG ?_ ?_
 ·first|trivial|omega|(simp;done)|(simp;omega)
 refine ak ?_
 refine au ?_
 refine br (fun(z:List Int×List Int)=>(⟨[(4, .l (.ownP 4 0)),(5, .l (.z (.slice (.int .u32)) z.1)),(6, .l (.z (.slice (.int .u32)) z.2))], [(4, .box 89 [.z .bool false, .val (.slice none 0 0)])]⟩:aa)) (fun z=>xb x y z.1 z.2) (fun z=>(valL z.2).toNat) (x.2,y.2) ?_ ?_ ?_
 ·simp only[ml0,ml1,Nat.reduceLT,Nat.reduceEqDiff,Nat.reduceAdd,Nat.reduceMul,Nat.reduceSub,Nat.reduceLeDiff,Nat.reduceBEq,Nat.reduceBNe,reduceIte,reduceDIte,reduceCtorEq]
 ·exact xb.start hC
 ·rintro⟨u,v⟩ hz
  try dsimp only at hz
  have hcc:2*(List.length x.2+List.length y.2)+4<1000000000000:=hC.hc
  refine ak ?_
  refine s_g hG ?_
  refine aq ?_ ?_
  ·intro hb0
   try simp only[bt] at hb0
   refine ar ?_
   refine ah ?_
   refine au ?_
   refine s_q hG ?_ ?_
   ·try simp only[ba]
    exact hz.side3 hC (gp (by omega))
   refine ag hG ?_ ?_
   ·try simp only[ba]
    exact hz.side4 hC (gp (by omega))
   refine aQ ?_
   show ∃ z,_
   refine q_l ?_
   exact hz.next hC (gp (by omega))
  ·intro hb0
   try simp only[bf] at hb0
   refine bg ?_
   refine aE ?_
   refine ax ?_
   refine aw ?_
   refine ah ?_
   refine ak ?_
   refine s_g hG ?_
   refine aq ?_ ?_
   ·intro hb1
    try simp only[bt] at hb1
    refine s_q hG ?_ ?_
    ·try simp only[ba]
     exact⟨hz.hu.1,by have:=hz.hul;unfold CAP;omega⟩
    refine az ?_
    refine aB ?_
    refine q_e [65] ?_
    exact hz.stop (CF (by omega))
   ·intro hb1
    simp only[beq_eq_false_iff_ne,ne_eq] at hb1
    refine ar ?_
    refine ah ?_
    refine s_q hG ?_ ?_
    ·try simp only[ba]
     exact hz.side3 hC (gp (by omega))
    refine s_q hG ?_ ?_
    ·try simp only[ba]
     have hr:=hz.rest (gp (by omega))
     exact⟨⟨hz.hv.1,by omega⟩,hz.side4 hC (gp (by omega)),hr.1.1,by omega⟩
    refine ak ?_
    refine au ?_
    refine br (fun(z:Int×Int)=>(⟨[(4, .l (.ownP 4 0)),(11, .l (.z (.int .u64) z.1)),(12, .l (.z (.int .u64) z.2))], [(4, .box 89 [.z .bool false, .val (.slice none 0 0)])]⟩:aa)) (fun z=>xc x y z.1 z.2) (fun z=>z.2.toNat) (valL v,valL (enc (dec (false,dP u v))).2) ?_ ?_ ?_
    ·simp only[ml0,ml1,Nat.reduceLT,Nat.reduceEqDiff,Nat.reduceAdd,Nat.reduceMul,Nat.reduceSub,Nat.reduceLeDiff,Nat.reduceBEq,Nat.reduceBNe,reduceIte,reduceDIte,reduceCtorEq]
    ·exact xc.start hz hC (gp (by omega)) (by omega)
    ·rintro⟨a,b⟩ he
     try dsimp only at he
     refine ak ?_
     refine s_g hG ?_
     refine aq ?_ ?_
     ·intro hb2
      try simp only[bt] at hb2
      refine ar ?_
      refine ah ?_
      refine au ?_
      refine gL hG ?_ ?_
      ·try simp only[ba]
       omega
      refine aQ ?_
      show ∃ z,_
      refine q_l ?_
      exact he.next hb2
     ·intro hb2
      try simp only[decide_eq_false_iff_not] at hb2
      have he2:=he.stop hb2
      refine bg ?_
      refine aE ?_
      refine ax ?_
      refine aw ?_
      refine ah ?_
      refine s_g hG ?_
      refine ak ?_
      refine au ?_
      refine br (fun(z:Nat×List Int)=>(⟨[(11, .l (.z (.int .u64) (z.1:Int))),(13, .l (.ownP 13 0)),(4, .l (.ownP 4 0))], [(13, .box 89 [.z .bool false, .ownS 65]),(65, .arr (.int .u32) 161 z.2),(4, .box 89 [.z .bool false, .val (.slice none 0 0)])]⟩:aa)) (fun z=>z.2++limbs z.1=limbs (cE (dec x) (dec y)).toNat/\z.1<18446744073709551616) (fun z=>z.1) ((cE (dec x) (dec y)).toNat, []) ?_ ?_ ?_
      ·refine q_l ?_
       exact⟨he2.1,by unfold ioB;omega⟩
      ·exact⟨by simp,he2.2⟩
      ·rintro⟨w,l⟩ ⟨g1,g2⟩
       try dsimp only at g1 g2
       refine ak ?_
       refine s_g hG ?_
       refine aq ?_ ?_
       ·intro hb3
        try simp only[bt] at hb3
        refine ar ?_
        refine ah ?_
        refine ak ?_
        refine au ?_
        refine ag hG ?_ ?_
        ·try simp only[ba]
         have h3:=mv he2.2
         have h4:=congrArg List.length g1
         simp only[List.length_append] at h4
         exact⟨by decide,by unfold Cm.Roomy;omega⟩
        refine aQ ?_
        refine ah ?_
        refine ag hG ?_ ?_
        ·first|trivial|omega|(simp;done)|(simp;omega)
        show ∃ z,_
        refine q_l ?_
        exact o9 g1 g2 hb3
       ·intro hb3
        try simp only[bf] at hb3
        refine bg ?_
        refine aE ?_
        refine ax ?_
        refine aw ?_
        refine ah ?_
        refine s_g hG ?_
        refine az ?_
        refine q_e [65] ?_
        have h0:w=0:=by omega
        subst h0
        rw[show limbs 0= [] by simp[limbs],List.append_nil] at g1
        rw[g1];exact Mu _ _
def qm(B:aj):Tab:={types:= [(3,(.int .i64)),(4, .bool),(87,(.slice (.int .u32))),(89,(.st (.pair .bool (.slice (.int .u32))))),(91,(.st (.pair (.st (.pair .bool (.slice (.int .u32)))) (.st (.pair .bool (.slice (.int .u32))))))),(161,(.int .u32))],elems:= [],cons:= [(147,wj),(148,Ap),(149,FQ)],hint:= [2,3,5],N:=43,base:=B}
theorem AC{B:aj}(hB:aC B):aK Tryz.prog (qm B):=⟨⟨tc ty3 (tc ty4 (tc ix (tc gN (tc ty91 (tc fO (ae)))))),af,by simp only[qm,ioB];omega⟩,aF (cc Tryz.func147 (FS hB) (cc Tryz.func148 (xO hB) (cc Tryz.func149 (NP hB) (ay)))),by kernel_rfl⟩
def mg:Con:=fun l os=>match l,os with
 | [.z (.st (.pair .bool (.slice (.int .u32)))) n, .z (.st (.pair .bool (.slice (.int .u32)))) d], []=>some (gQ n d, [.z (.st (.pair (.st (.pair .bool (.slice (.int .u32)))) (.st (.pair .bool (.slice (.int .u32)))))) (bk (Rat.divInt (dec n) (dec d)))], [])
 |_,_=>none
theorem lS{B:aj}(hB:aC B):Valid B Tryz.prog 108 mg:=by
 refine ab (AC hB).tab Tryz.func108 rfl rfl rfl ?_
 intro args os C rs os' hc hC
 unfold mg at hc
 split at hc
 case h_2=>cases hc
 rename_i n d
 cases hc
 refine v_h (AC hB) fun X hP hT hr hG=> ?_
 have hU:=qm.eq_1
 unfold qm at hT
 have hX:=ai @FQ.eq_1<|ai @wj.eq_1<| @Ap.eq_1
 simp only[Tryz.f108,aD,al,ioB]
 refine s_g hG ?_
 refine s_q hG ?_ ?_
 ·try simp only[ba]
  exact Ou hC
 refine ct (fun(z:Int)=>(⟨[(2, .l (.ownP 2 0)),(3, .l (.ownP 3 0)),(4, .l (.ownP 4 0)),(5, .l (.ownP 5 0))], [(2, .box 89 [.z .bool n.1, .z (.slice (.int .u32)) n.2]),(3, .box 89 [.z .bool d.1, .z (.slice (.int .u32)) d.2]),(4, .box 91 [.z .bool false, .val (.slice none 0 0), .z .bool false, .val (.slice none 0 0)]),(5, .box 89 [.z .bool (enc z).1, .z (.slice (.int .u32)) (enc z).2])]⟩:aa)) (fun z=>z=dB (dec n) (dec d)) ?_ ?_
 ·refine s_g hG ?_
  refine aq ?_ ?_
  ·intro hb0
   try simp only[bt] at hb0
   refine ag hG ?_ ?_
   ·try simp only[ba]
    exact Ov hC
   show ∃ z,_
   refine q_l ?_
   try simp only[pe,bT]
   first|exact⟨_,rfl,rfl,Pc hC hb0⟩|exact⟨_,rfl,rfl,Pd hC hb0⟩
  ·intro hb0
   try simp only[bf] at hb0
   refine ar ?_
   show ∃ z,_
   refine q_l ?_
   try simp only[pe,bT]
   first|exact⟨_,rfl,rfl,Pc hC hb0⟩|exact⟨_,rfl,rfl,Pd hC hb0⟩
 rintro g hg
 try dsimp only at hg
 subst hg
 have hp:=mk_pos hC
 refine ak ?_
 refine s_q hG ?_ ?_
 ·try simp only[ba]
  (repeat' (first|apply And.intro|intro _))<;>(try simp only[decide_eq_true_eq,decide_eq_false_iff_not,Bool.not_eq_true',beq_iff_eq,Int.toNat_natCast] at*)<;>first|assumption|omega|trivial|(simp_all;done)|(simp_all;omega)
 refine aq ?_ ?_
 ·intro hb1
  try simp only[bt] at hb1
  refine s_q hG ?_ ?_
  ·try simp only[ba]
   exact(JT hC).1
  refine ag hG ?_ ?_
  ·try simp only[ba]
   exact(JT hC).2
  refine ah ?_
  refine s_g hG ?_
  refine az ?_
  refine q_e [] ?_
  simp only[pe,bT]
  exact(mC hC.2.2.1).symm
 ·intro hb1
  try simp only[bf] at hb1
  refine ar ?_
  refine ah ?_
  refine s_g hG ?_
  refine az ?_
  refine q_e [] ?_
  exact Ow hC hb1
def qn(B:aj):Tab:={types:= [(89,(.st (.pair .bool (.slice (.int .u32))))),(91,(.st (.pair (.st (.pair .bool (.slice (.int .u32)))) (.st (.pair .bool (.slice (.int .u32)))))))],elems:= [],cons:= [(108,mg),(109,Ar),(110,Aq)],hint:= [],N:=22,base:=B}
theorem AD{B:aj}(hB:aC B):aK Tryz.prog (qn B):=⟨⟨tc gN (tc ty91 (ae)),af,by simp only[qn,ioB];omega⟩,aF (cc Tryz.func108 (lS hB) (cc Tryz.func109 (xT hB) (cc Tryz.func110 (xS hB) (ay)))),by kernel_rfl⟩
def mh:Con:=fun l os=>match l,os with
 | [.z (.st (.pair (.st (.pair .bool (.slice (.int .u32)))) (.st (.pair .bool (.slice (.int .u32)))))) x, .z (.st (.pair (.st (.pair .bool (.slice (.int .u32)))) (.st (.pair .bool (.slice (.int .u32)))))) y], []=>some (gq x y, [.z (.st (.pair (.st (.pair .bool (.slice (.int .u32)))) (.st (.pair .bool (.slice (.int .u32)))))) (bk (bD x+bD y))], [])
 |_,_=>none
theorem lT{B:aj}(hB:aC B):Valid B Tryz.prog 58 mh:=by
 refine ab (AD hB).tab Tryz.func58 rfl rfl rfl ?_
 intro args os C rs os' hc hC
 unfold mh at hc
 split at hc
 case h_2=>cases hc
 rename_i x y
 cases hc
 refine v_h (AD hB) fun X hP hT hr hG=> ?_
 have hU:=qn.eq_1
 unfold qn at hT
 have hX:=ai @Aq.eq_1<|ai @mg.eq_1<| @Ar.eq_1
 simp only[Tryz.f58,aD,al,ioB]
 refine s_g hG ?_
 refine s_d hG ?_ ?_
 ·try simp only[ba]
  exact GN hC
 refine az ?_
 refine q_e [] ?_
 simp only[pe2]
 exact JU hC
def qo(B:aj):Tab:={types:= [(89,(.st (.pair .bool (.slice (.int .u32))))),(91,(.st (.pair (.st (.pair .bool (.slice (.int .u32)))) (.st (.pair .bool (.slice (.int .u32)))))))],elems:= [],cons:= [(148,Ap)],hint:= [],N:=9,base:=B}
theorem AE{B:aj}(hB:aC B):aK Tryz.prog (qo B):=⟨⟨tc gN (tc ty91 (ae)),af,by simp only[qo,ioB];omega⟩,aF (cc Tryz.func148 (xO hB) (ay)),by kernel_rfl⟩
def FT:Con:=fun l os=>match l,os with
 | [.z (.st (.pair (.st (.pair .bool (.slice (.int .u32)))) (.st (.pair .bool (.slice (.int .u32)))))) x], []=>some (NOK x/\lq (bD x)<=QC, [.z (.st (.pair (.st (.pair .bool (.slice (.int .u32)))) (.st (.pair .bool (.slice (.int .u32)))))) (bk (-bD x))], [])
 |_,_=>none
theorem HO{B:aj}(hB:aC B):Valid B Tryz.prog 111 FT:=by
 refine ab (AE hB).tab Tryz.func111 rfl rfl rfl ?_
 intro args os C rs os' hc hC
 unfold FT at hc
 split at hc
 case h_2=>cases hc
 rename_i x
 cases hc
 refine v_h (AE hB) fun X hP hT hr hG=> ?_
 have hU:=qo.eq_1
 unfold qo at hT
 have hX:= @Ap.eq_1
 simp only[Tryz.f111,aD,al,ioB]
 refine s_g hG ?_
 refine s_d hG ?_ ?_
 ·try simp only[ba]
  exact GO hC
 refine az ?_
 refine q_e [] ?_
 exact JV hC.1
def qp(B:aj):Tab:={types:= [(91,(.st (.pair (.st (.pair .bool (.slice (.int .u32)))) (.st (.pair .bool (.slice (.int .u32)))))))],elems:= [],cons:= [(58,mh),(111,FT)],hint:= [],N:=9,base:=B}
theorem AF{B:aj}(hB:aC B):aK Tryz.prog (qp B):=⟨⟨tc ty91 (ae),af,by simp only[qp,ioB];omega⟩,aF (cc Tryz.func58 (lT hB) (cc Tryz.func111 (HO hB) (ay))),by kernel_rfl⟩
def fu:Con:=fun l os=>match l,os with
 | [.z (.st (.pair (.st (.pair .bool (.slice (.int .u32)))) (.st (.pair .bool (.slice (.int .u32)))))) x, .z (.st (.pair (.st (.pair .bool (.slice (.int .u32)))) (.st (.pair .bool (.slice (.int .u32)))))) y], []=>some (gq x y, [.z (.st (.pair (.st (.pair .bool (.slice (.int .u32)))) (.st (.pair .bool (.slice (.int .u32)))))) (bk (bD x-bD y))], [])
 |_,_=>none
theorem wk{B:aj}(hB:aC B):Valid B Tryz.prog 60 fu:=by
 refine ab (AF hB).tab Tryz.func60 rfl rfl rfl ?_
 intro args os C rs os' hc hC
 unfold fu at hc
 split at hc
 case h_2=>cases hc
 rename_i x y
 cases hc
 refine v_h (AF hB) fun X hP hT hr hG=> ?_
 have hU:=qp.eq_1
 unfold qp at hT
 have hX:=ai @mh.eq_1<| @FT.eq_1
 simp only[Tryz.f60,aD,al,ioB]
 refine s_g hG ?_
 refine s_d hG ?_ ?_
 ·try simp only[ba]
  exact GP hC
 refine az ?_
 refine q_e [] ?_
 simp only[pe2]
 exact JW x y
def qq(B:aj):Tab:={types:= [(89,(.st (.pair .bool (.slice (.int .u32))))),(91,(.st (.pair (.st (.pair .bool (.slice (.int .u32)))) (.st (.pair .bool (.slice (.int .u32)))))))],elems:= [],cons:= [(108,mg),(109,Ar)],hint:= [],N:=16,base:=B}
theorem AG{B:aj}(hB:aC B):aK Tryz.prog (qq B):=⟨⟨tc gN (tc ty91 (ae)),af,by simp only[qq,ioB];omega⟩,aF (cc Tryz.func108 (lS hB) (cc Tryz.func109 (xT hB) (ay))),by kernel_rfl⟩
def ep:Con:=fun l os=>match l,os with
 | [.z (.st (.pair (.st (.pair .bool (.slice (.int .u32)))) (.st (.pair .bool (.slice (.int .u32)))))) x, .z (.st (.pair (.st (.pair .bool (.slice (.int .u32)))) (.st (.pair .bool (.slice (.int .u32)))))) y], []=>some (gq x y, [.z (.st (.pair (.st (.pair .bool (.slice (.int .u32)))) (.st (.pair .bool (.slice (.int .u32)))))) (bk (bD x*bD y))], [])
 |_,_=>none
theorem lU{B:aj}(hB:aC B):Valid B Tryz.prog 105 ep:=by
 refine ab (AG hB).tab Tryz.func105 rfl rfl rfl ?_
 intro args os C rs os' hc hC
 unfold ep at hc
 split at hc
 case h_2=>cases hc
 rename_i x y
 cases hc
 refine v_h (AG hB) fun X hP hT hr hG=> ?_
 have hU:=qq.eq_1
 unfold qq at hT
 have hX:=ai @mg.eq_1<| @Ar.eq_1
 simp only[Tryz.f105,aD,al,ioB]
 refine s_g hG ?_
 refine s_d hG ?_ ?_
 ·try simp only[ba]
  exact GR hC
 refine az ?_
 refine q_e [] ?_
 simp only[pe2]
 exact JX hC
def qs(B:aj):Tab:={types:= [(89,(.st (.pair .bool (.slice (.int .u32))))),(91,(.st (.pair (.st (.pair .bool (.slice (.int .u32)))) (.st (.pair .bool (.slice (.int .u32)))))))],elems:= [],cons:= [(108,mg),(109,Ar)],hint:= [],N:=16,base:=B}
theorem AH{B:aj}(hB:aC B):aK Tryz.prog (qs B):=⟨⟨tc gN (tc ty91 (ae)),af,by simp only[qs,ioB];omega⟩,aF (cc Tryz.func108 (lS hB) (cc Tryz.func109 (xT hB) (ay))),by kernel_rfl⟩
def fv:Con:=fun l os=>match l,os with
 | [.z (.st (.pair (.st (.pair .bool (.slice (.int .u32)))) (.st (.pair .bool (.slice (.int .u32)))))) x, .z (.st (.pair (.st (.pair .bool (.slice (.int .u32)))) (.st (.pair .bool (.slice (.int .u32)))))) y], []=>some (gq x y/\bD y≠0, [.z (.st (.pair (.st (.pair .bool (.slice (.int .u32)))) (.st (.pair .bool (.slice (.int .u32)))))) (bk (bD x/bD y))], [])
 |_,_=>none
theorem wm{B:aj}(hB:aC B):Valid B Tryz.prog 119 fv:=by
 refine ab (AH hB).tab Tryz.func119 rfl rfl rfl ?_
 intro args os C rs os' hc hC
 unfold fv at hc
 split at hc
 case h_2=>cases hc
 rename_i x y
 cases hc
 refine v_h (AH hB) fun X hP hT hr hG=> ?_
 have hU:=qs.eq_1
 unfold qs at hT
 have hX:=ai @mg.eq_1<| @Ar.eq_1
 simp only[Tryz.f119,aD,al,ioB]
 refine s_g hG ?_
 refine s_d hG ?_ ?_
 ·try simp only[ba]
  exact GS hC
 refine az ?_
 refine q_e [] ?_
 simp only[pe2]
 exact JY hC.1
def qt(B:aj):Tab:={types:= [(89,(.st (.pair .bool (.slice (.int .u32))))),(91,(.st (.pair (.st (.pair .bool (.slice (.int .u32)))) (.st (.pair .bool (.slice (.int .u32)))))))],elems:= [],cons:= [(154,pK)],hint:= [],N:=6,base:=B}
theorem AJ{B:aj}(hB:aC B):aK Tryz.prog (qt B):=⟨⟨tc gN (tc ty91 (ae)),af,by simp only[qt,ioB];omega⟩,aF (cc Tryz.func154 (xP hB) (ay)),by kernel_rfl⟩
def lj:Con:=fun l os=>match l,os with
 | [.z (.st (.pair (.st (.pair .bool (.slice (.int .u32)))) (.st (.pair .bool (.slice (.int .u32)))))) x], []=>some (NOK x, [.z (.int .i64) (bu (bD x).num 0)], [])
 |_,_=>none
theorem oI{B:aj}(hB:aC B):Valid B Tryz.prog 114 lj:=by
 refine ab (AJ hB).tab Tryz.func114 rfl rfl rfl ?_
 intro args os C rs os' hc hC
 unfold lj at hc
 split at hc
 case h_2=>cases hc
 rename_i x
 cases hc
 refine v_h (AJ hB) fun X hP hT hr hG=> ?_
 have hU:=qt.eq_1
 unfold qt at hT
 have hX:= @pK.eq_1
 simp only[Tryz.f114,aD,al,ioB]
 refine s_g hG ?_
 refine s_q hG ?_ ?_
 ·try simp only[ba]
  exact hC.w1
 refine az ?_
 refine q_e [] ?_
 rw[hC.d1]
def qu(B:aj):Tab:={types:= [(3,(.int .i64)),(89,(.st (.pair .bool (.slice (.int .u32))))),(91,(.st (.pair (.st (.pair .bool (.slice (.int .u32)))) (.st (.pair .bool (.slice (.int .u32)))))))],elems:= [],cons:= [(108,mg),(133,jh)],hint:= [],N:=10,base:=B}
theorem AK{B:aj}(hB:aC B):aK Tryz.prog (qu B):=⟨⟨tc ty3 (tc gN (tc ty91 (ae))),af,by simp only[qu,ioB];omega⟩,aF (cc Tryz.func108 (lS hB) (cc Tryz.func133 (qb hB) (ay))),by kernel_rfl⟩
def HP:Con:=fun l os=>match l,os with
 | [.z (.int .i64) n, .z (.int .i64) d], []=>some (I64 n/\I64 d/\d≠0, [.z (.st (.pair (.st (.pair .bool (.slice (.int .u32)))) (.st (.pair .bool (.slice (.int .u32)))))) (bk (Rat.divInt n d))], [])
 |_,_=>none
theorem wo{B:aj}(hB:aC B):Valid B Tryz.prog 124 HP:=by
 refine ab (AK hB).tab Tryz.func124 rfl rfl rfl ?_
 intro args os C rs os' hc hC
 unfold HP at hc
 split at hc
 case h_2=>cases hc
 rename_i n d
 cases hc
 refine v_h (AK hB) fun X hP hT hr hG=> ?_
 have hU:=qu.eq_1
 unfold qu at hT
 have hX:=ai @mg.eq_1<| @jh.eq_1
 simp only[Tryz.f124,aD,al,ioB]
 refine s_g hG ?_
 refine s_q hG ?_ ?_
 ·try simp only[ba]
  exact JZ hC
 refine az ?_
 refine q_e [] ?_
 simp only[pe2]
 exact MD n d
def qv(B:aj):Tab:={types:= [(3,(.int .i64)),(91,(.st (.pair (.st (.pair .bool (.slice (.int .u32)))) (.st (.pair .bool (.slice (.int .u32)))))))],elems:= [],cons:= [(124,HP)],hint:= [],N:=2,base:=B}
theorem AL{B:aj}(hB:aC B):aK Tryz.prog (qv B):=⟨⟨tc ty3 (tc ty91 (ae)),af,by simp only[qv,ioB];omega⟩,aF (cc Tryz.func124 (wo hB) (ay)),by kernel_rfl⟩
def et:Con:=fun l os=>match l,os with
 | [], []=>some (True, [.z (.st (.pair (.st (.pair .bool (.slice (.int .u32)))) (.st (.pair .bool (.slice (.int .u32)))))) (bk 0)], [])
 |_,_=>none
theorem lV{B:aj}(hB:aC B):Valid B Tryz.prog 113 et:=by
 refine ab (AL hB).tab Tryz.func113 rfl rfl rfl ?_
 intro args os C rs os' hc hC
 unfold et at hc
 split at hc
 case h_2=>cases hc
 cases hc
 refine v_h (AL hB) fun X hP hT hr hG=> ?_
 have hU:=qv.eq_1
 unfold qv at hT
 have hX:= @HP.eq_1
 simp only[Tryz.f113,aD,al,ioB]
 refine s_g hG ?_
 refine s_q hG ?_ ?_
 ·try simp only[ba]
  exact⟨by unfold I64;omega,by unfold I64;omega,by decide⟩
 refine az ?_
 refine q_e [] ?_
 simp only[pe2]
 rw[zero_divInt]
def qw(B:aj):Tab:={types:= [(3,(.int .i64)),(87,(.slice (.int .u32))),(89,(.st (.pair .bool (.slice (.int .u32))))),(91,(.st (.pair (.st (.pair .bool (.slice (.int .u32)))) (.st (.pair .bool (.slice (.int .u32))))))),(161,(.int .u32))],elems:= [],cons:= [],hint:= [],N:=16,base:=B}
theorem AM{B:aj}(hB:aC B):aK Tryz.prog (qw B):=⟨⟨tc ty3 (tc ix (tc gN (tc ty91 (tc fO (ae))))),af,by simp only[qw,ioB];omega⟩,bP rfl,by kernel_rfl⟩
def qx:Con:=fun l os=>match l,os with
 | [.z (.st (.pair (.st (.pair .bool (.slice (.int .u32)))) (.st (.pair .bool (.slice (.int .u32)))))) x], []=>some (NOK x, [.z .bool (decide ((bD x).den=1))], [])
 |_,_=>none
theorem HQ{B:aj}(hB:aC B):Valid B Tryz.prog 170 qx:=by
 refine ab (AM hB).tab Tryz.func170 rfl rfl rfl ?_
 intro args os C rs os' hc hC
 unfold qx at hc
 split at hc
 case h_2=>cases hc
 rename_i x
 cases hc
 refine v_h (AM hB) fun X hP hT hr hG=> ?_
 have hU:=qw.eq_1
 unfold qw at hT
 have hX:=Bool.not_true
 simp only[Tryz.f170,aD,al,ioB]
 refine s_g hG ?_
 refine s_q hG ?_ ?_
 ·try simp only[ba]
  (repeat' (first|apply And.intro|intro _))<;>(try simp only[decide_eq_true_eq,decide_eq_false_iff_not,Bool.not_eq_true',beq_iff_eq,Int.toNat_natCast] at*)<;>first|assumption|omega|trivial|(simp_all;done)|(simp_all;omega)
 refine az ?_
 refine q_e [] ?_
 exact CN hC
def qy(B:aj):Tab:={types:= [(3,(.int .i64)),(89,(.st (.pair .bool (.slice (.int .u32))))),(91,(.st (.pair (.st (.pair .bool (.slice (.int .u32)))) (.st (.pair .bool (.slice (.int .u32)))))))],elems:= [],cons:= [(169,qa)],hint:= [],N:=17,base:=B}
theorem AN{B:aj}(hB:aC B):aK Tryz.prog (qy B):=⟨⟨tc ty3 (tc gN (tc ty91 (ae))),af,by simp only[qy,ioB];omega⟩,aF (cc Tryz.func169 (NJ hB) (ay)),by kernel_rfl⟩
def oJ:Con:=fun l os=>match l,os with
 | [.z (.st (.pair (.st (.pair .bool (.slice (.int .u32)))) (.st (.pair .bool (.slice (.int .u32)))))) x, .z (.int .i64) k], []=>some (NOK x/\lq (bD x)<=QC, [.z .bool (decide (eu (bD x).num<=k/\eu ((bD x).den:Int)<=k))], [])
 |_,_=>none
theorem wq{B:aj}(hB:aC B):Valid B Tryz.prog 129 oJ:=by
 refine ab (AN hB).tab Tryz.func129 rfl rfl rfl ?_
 intro args os C rs os' hc hC
 unfold oJ at hc
 split at hc
 case h_2=>cases hc
 rename_i x k
 cases hc
 refine v_h (AN hB) fun X hP hT hr hG=> ?_
 have hU:=qy.eq_1
 unfold qy at hT
 have hX:= @qa.eq_1
 simp only[Tryz.f129,aD,al,ioB]
 refine s_g hG ?_
 refine s_q hG ?_ ?_
 ·try simp only[ba]
  exact⟨(j6 hC).1,id,fun h=>⟨h,(j6 hC).2⟩,id⟩
 refine az ?_
 refine q_e [] ?_
 exact GT k hC.1
def qz(B:aj):Tab:={types:= [(89,(.st (.pair .bool (.slice (.int .u32))))),(91,(.st (.pair (.st (.pair .bool (.slice (.int .u32)))) (.st (.pair .bool (.slice (.int .u32)))))))],elems:= [],cons:= [],hint:= [],N:=8,base:=B}
theorem AO{B:aj}(hB:aC B):aK Tryz.prog (qz B):=⟨⟨tc gN (tc ty91 (ae)),af,by simp only[qz,ioB];omega⟩,bP rfl,by kernel_rfl⟩
def qA:Con:=fun l os=>match l,os with
 | [.z (.st (.pair (.st (.pair .bool (.slice (.int .u32)))) (.st (.pair .bool (.slice (.int .u32)))))) x], []=>some (True, [.z (.st (.pair .bool (.slice (.int .u32)))) x.1, .z (.st (.pair .bool (.slice (.int .u32)))) x.2], [])
 |_,_=>none
theorem HR{B:aj}(hB:aC B):Valid B Tryz.prog 167 qA:=by
 refine ab (AO hB).tab Tryz.func167 rfl rfl rfl ?_
 intro args os C rs os' hc hC
 unfold qA at hc
 split at hc
 case h_2=>cases hc
 rename_i x
 cases hc
 refine v_h (AO hB) fun X hP hT hr hG=> ?_
 have hU:=qz.eq_1
 unfold qz at hT
 have hX:=Bool.not_true
 simp only[Tryz.f167,aD,al,ioB]
 refine s_g hG ?_
 refine s_d hG ?_ ?_
 ·first|trivial|omega|(simp;done)|(simp;omega)
 refine az ?_
 refine q_e [] ?_
 trivial
def qB(B:aj):Tab:={types:= [(9, .str),(89,(.st (.pair .bool (.slice (.int .u32))))),(91,(.st (.pair (.st (.pair .bool (.slice (.int .u32)))) (.st (.pair .bool (.slice (.int .u32)))))))],elems:= [],cons:= [(144,D4),(170,qx)],hint:= [],N:=16,base:=B}
theorem AP{B:aj}(hB:aC B):aK Tryz.prog (qB B):=⟨⟨tc ty9 (tc gN (tc ty91 (ae))),af,by simp only[qB,ioB];omega⟩,aF (cc Tryz.func144 (Mn hB) (cc Tryz.func170 (HQ hB) (ay))),by kernel_rfl⟩
def ya:Con:=fun l os=>match l,os with
 | [.z (.st (.pair (.st (.pair .bool (.slice (.int .u32)))) (.st (.pair .bool (.slice (.int .u32)))))) x], []=>some (NOK x/\lq (bD x)<=QC, [.z .str (bo (bD x))], [])
 |_,_=>none
theorem HS{B:aj}(hB:aC B):Valid B Tryz.prog 130 ya:=by
 refine ab (AP hB).tab Tryz.func130 rfl rfl rfl ?_
 intro args os C rs os' hc hC
 unfold ya at hc
 split at hc
 case h_2=>cases hc
 rename_i x
 cases hc
 refine v_h (AP hB) fun X hP hT hr hG=> ?_
 have hU:=qB.eq_1
 unfold qB at hT
 have hX:=ai @qx.eq_1<| @D4.eq_1
 simp only[Tryz.f130,aD,al,ioB]
 refine s_g hG ?_
 refine ak ?_
 refine s_q hG ?_ ?_
 ·try simp only[ba]
  exact hC.1
 refine aq ?_ ?_
 ·intro hb0
  try simp only[bt] at hb0
  refine s_q hG ?_ ?_
  ·try simp only[ba]
   exact zu hC
  refine az ?_
  refine aB ?_
  refine q_e [] ?_
  exact GU hC.1 hb0
 ·intro hb0
  try simp only[bf] at hb0
  refine ar ?_
  refine ah ?_
  refine s_d hG ?_ ?_
  ·try simp only[ba]
   exact zv hC
  refine az ?_
  refine q_e [] ?_
  exact GV hC.1 hb0
end Go.Proofs.YtdojbabpnaifoaaGreatDoor
end
section
namespace Go.Proofs
open Go.RowKit Go.Cm
def HT:Con:=fun l os=>match l,os with
 | [.z .str s, .z .str t], []=>some (t= [47]/\s.length<4294967281, [.z .str (tN s), .z .str (if cl s=true then tR s else []), .z .bool (cl s)], [])
 |_,_=>none
theorem wt{B:aj}(hB:aC B):Valid B Tryz.prog 131 HT:=by
 intro args os C rs os' hc hC O w vals ρ0 hOn hIo hO hOI hargs hown hap
 unfold HT at hc
 split at hc
 case h_2=>cases hc
 rename_i s t
 cases hc
 obtain⟨u,v,rfl,hu,hv⟩:=yT hargs
 rw[fC hv,fC hu]
 obtain⟨rfl,h1⟩:=hC
 obtain⟨m,hm⟩:=hB.2 w hOn
 have hsz:(⟨s.toArray⟩:ByteArray).size=s.length:=by simp[ByteArray.size]
 refine(Tryz.strings_Cut ⟨s.toArray⟩ ⟨[47].toArray⟩ m w (by rw[hsz];exact h1) hm).mono fun e w' ⟨he,n,hw⟩=> ?_
 have hb:Below w.heap.size w w':=by rw[hw];exact⟨rfl,rfl,rfl,Nat.le_refl _,fun _ _=>rfl⟩
 have e1:Lib.cut (⟨s.toArray⟩:ByteArray).data.toList (⟨[47].toArray⟩:ByteArray).data.toList=(tN s,if cl s=true then tR s else [],cl s):=by simpa using GW s
 rw[e1] at he
 subst he
 exact mZ (vs:= [.string ⟨(tN s).toArray⟩, .string ⟨(if cl s=true then tR s else []).toArray⟩, .bool (cl s)]) hb (fun H M=>⟨eX (ρ:=fun _=>undef),eX (ρ:=fun _=>undef),bY (ρ:=fun _=>undef),trivial⟩)
end Go.Proofs
end
section
namespace Go.Proofs.YtdojbabpnaifoaaGreatDoor
open Go Go.Cm Go.Proofs
def FU(B:aj):Tab:={types:= [(3,(.int .i64)),(5,(.int .u8)),(9, .str),(47,(.slice (.int .u8)))],elems:= [(47,5)],cons:= [(172,eV)],hint:= [],N:=38,base:=B}
theorem LR{B:aj}(hB:aC B):aK Tryz.prog (FU B):=⟨⟨tc ty3 (tc ty5 (tc ty9 (tc O9 (ae)))),aR (by kernel_rfl) (af),by simp only[FU,ioB];omega⟩,aF (cc Tryz.func172 (Fo hB) (ay)),by kernel_rfl⟩
def yb:Con:=fun l os=>match l,os with
 | [.z .str s], []=>some (nf s, [.z (.int .i64) (chk s)], [])
 |_,_=>none
theorem NR{B:aj}(hB:aC B):Valid B Tryz.prog 142 yb:=by
 refine ab (LR hB).tab Tryz.func142 rfl rfl rfl ?_
 intro args os C rs os' hc hC
 unfold yb at hc
 split at hc
 case h_2=>cases hc
 rename_i s
 cases hc
 refine v_h (LR hB) fun X hP hT hr hG=> ?_
 have hU:=FU.eq_1
 unfold FU at hT
 have hX:= @eV.eq_1
 simp only[Tryz.f142,aD,al,ioB]
 refine s_g hG ?_
 refine DV ?_
 refine s_g hG ?_
 refine s_g hG ?_
 refine ak ?_
 refine DU ?_
 refine ah ?_
 refine ct (fun(z:Int)=>(⟨[(4, .l (.z (.int .i64) z))], []⟩:aa)) (fun z=>z=chk s) ?_ ?_
 ·refine au ?_
  refine s_g hG ?_
  refine aq ?_ ?_
  ·intro hb0
   try simp only[bt] at hb0
   refine ar ?_
   refine aQ ?_
   show ∃ z,_
   refine q_l ?_
   first|(rw[hb0];exact kG.symm)|exact(jw hb0 ((ij _).1 hb1)).symm|exact(nd hb0 (dU hb1) (by rw[dz] at hb2;omega) (kH hb3)).symm|(rw[dz] at hb2;rw[jx hb0 (dU hb1) (by rw[List.take_of_length_le (by omega)] at g2;exact g2)];first|rw[if_pos (by omega)]|rw[if_neg (by omega)])
  ·intro hb0
   try simp only[bf] at hb0
   refine s_q hG ?_ ?_
   ·try simp only[ba]
    exact Jn _
   refine aq ?_ ?_
   ·intro hb1
    try simp only[bt] at hb1
    refine ag hG ?_ ?_
    ·first|trivial|omega|(simp;done)|(simp;omega)
    refine aQ ?_
    show ∃ z,_
    refine q_l ?_
    first|(rw[hb0];exact kG.symm)|exact(jw hb0 ((ij _).1 hb1)).symm|exact(nd hb0 (dU hb1) (by rw[dz] at hb2;omega) (kH hb3)).symm|(rw[dz] at hb2;rw[jx hb0 (dU hb1) (by rw[List.take_of_length_le (by omega)] at g2;exact g2)];first|rw[if_pos (by omega)]|rw[if_neg (by omega)])
   ·intro hb1
    try simp only[bf] at hb1
    refine ak ?_
    refine s_q hG ?_ ?_
    ·try simp only[ba]
     have:=fL s [45]
     have hC:s.length<70368744177664:=hC
     omega
    refine au ?_
    refine br (fun(z:Nat)=>(⟨[(0, .l (.z .str s)),(3, .l (.z .str (av s [45]))),(4, .l (.z (.int .i64) 0)),(10, .l (.z (.slice (.int .u8)) (bytesOf (av s [45])))),(11, .l (.z (.int .i64) ((bytesOf (av s [45])).length:Int))),(12, .l (.z (.int .i64) (z:Int)))], []⟩:aa)) (fun z=>z<=(av s [45]).length/\(List.take z (av s [45])).all gP=true) (fun z=>(av s [45]).length-z) 0 ?_ ?_ ?_
    ·refine q_l ?_
     rfl
    ·exact⟨Nat.zero_le _,rfl⟩
    ·rintro k ⟨g1,g2⟩
     try dsimp only at g1 g2
     have hS:(av s [45]).length<70368744177664:=Nat.lt_of_le_of_lt (fL s _) hC
     refine s_g hG ?_
     refine ak ?_
     refine aq ?_ ?_
     ·intro hb2
      try simp only[bt] at hb2
      refine ar ?_
      refine ah ?_
      refine ak ?_
      refine au ?_
      refine s_q hG ?_ ?_
      ·try simp only[ba]
       exact⟨by omega,hb2⟩
      refine s_q hG ?_ ?_
      ·try simp only[ba]
       exact⟨fun h=>h,fun h=>by rw[h];rfl⟩
      refine aq ?_ ?_
      ·intro hb3
       try simp only[bt] at hb3
       refine s_g hG ?_
       refine bg ?_
       refine iQ rfl ?_
       refine aE ?_
       refine ax ?_
       refine iQ rfl ?_
       refine aE ?_
       refine aw ?_
       show ∃ z,_
       refine q_l ?_
       first|(rw[hb0];exact kG.symm)|exact(jw hb0 ((ij _).1 hb1)).symm|exact(nd hb0 (dU hb1) (by rw[dz] at hb2;omega) (kH hb3)).symm|(rw[dz] at hb2;rw[jx hb0 (dU hb1) (by rw[List.take_of_length_le (by omega)] at g2;exact g2)];first|rw[if_pos (by omega)]|rw[if_neg (by omega)])
      ·intro hb3
       try simp only[bf] at hb3
       refine ar ?_
       refine aQ ?_
       refine ah ?_
       refine ag hG ?_ ?_
       ·first|trivial|omega|(simp;done)|(simp;omega)
       show ∃ z,_
       refine q_l ?_
       rw[dz] at hb2
       exact⟨k+1,by rw[wi (by omega) (by omega)];simp,by omega,uH g2 (Gz hb3),by omega⟩
     ·intro hb2
      try simp only[bf] at hb2
      refine bg ?_
      refine aE ?_
      refine ax ?_
      refine aw ?_
      refine ah ?_
      refine s_g hG ?_
      refine aq ?_ ?_
      ·intro hb4
       try simp only[bt] at hb4
       refine ag hG ?_ ?_
       ·first|trivial|omega|(simp;done)|(simp;omega)
       refine aQ ?_
       show ∃ z,_
       refine q_l ?_
       first|(rw[hb0];exact kG.symm)|exact(jw hb0 ((ij _).1 hb1)).symm|exact(nd hb0 (dU hb1) (by rw[dz] at hb2;omega) (kH hb3)).symm|(rw[dz] at hb2;rw[jx hb0 (dU hb1) (by rw[List.take_of_length_le (by omega)] at g2;exact g2)];first|rw[if_pos (by omega)]|rw[if_neg (by omega)])
      ·intro hb4
       try simp only[bf] at hb4
       refine ar ?_
       refine aQ ?_
       show ∃ z,_
       refine q_l ?_
       first|(rw[hb0];exact kG.symm)|exact(jw hb0 ((ij _).1 hb1)).symm|exact(nd hb0 (dU hb1) (by rw[dz] at hb2;omega) (kH hb3)).symm|(rw[dz] at hb2;rw[jx hb0 (dU hb1) (by rw[List.take_of_length_le (by omega)] at g2;exact g2)];first|rw[if_pos (by omega)]|rw[if_neg (by omega)])
 rintro z hz
 try dsimp only at hz
 refine s_g hG ?_
 refine az ?_
 refine gy ?_
 refine q_e [] ?_
 exact hz
def qC(B:aj):Tab:={types:= [(3,(.int .i64)),(4, .bool),(9, .str),(87,(.slice (.int .u32))),(89,(.st (.pair .bool (.slice (.int .u32))))),(161,(.int .u32)),(164,(.int .u64))],elems:= [(87,161)],cons:= [(150,ec),(172,eV),(173,wZ)],hint:= [],N:=44,base:=B}
theorem AQ{B:aj}(hB:aC B):aK Tryz.prog (qC B):=⟨⟨tc ty3 (tc ty4 (tc ty9 (tc ix (tc gN (tc fO (tc nk (ae))))))),aR (by kernel_rfl) (af),by simp only[qC,ioB];omega⟩,aF (cc Tryz.func150 (kc hB) (cc Tryz.func172 (Fo hB) (cc Tryz.func173 (Ml hB) (ay)))),by kernel_rfl⟩
def yc:Con:=fun l os=>match l,os with
 | [.z .str s], []=>some (RF s/\s.length<CAP, [.z (.st (.pair .bool (.slice (.int .u32)))) (enc (ao s))], [])
 |_,_=>none
theorem HU{B:aj}(hB:aC B):Valid B Tryz.prog 132 yc:=by
 refine ab (AQ hB).tab Tryz.func132 rfl rfl rfl ?_
 intro args os C rs os' hc hC
 unfold yc at hc
 split at hc
 case h_2=>cases hc
 rename_i s
 cases hc
 refine v_h (AQ hB) fun X hP hT hr hG=> ?_
 have hU:=qC.eq_1
 unfold qC at hT
 have hX:=ai @wZ.eq_1<|ai @eV.eq_1<| @ec.eq_1
 simp only[Tryz.f132,aD,al,ioB]
 refine s_g hG ?_
 refine s_g hG ?_
 refine s_g hG ?_
 refine ak ?_
 refine s_g hG ?_
 refine au ?_
 refine br (fun(z:Nat×List Int)=>(⟨[(3, .l (.z .str (av s [45]))),(5, .l (.z (.int .i64) (((av s [45]).length:Int)-9*(z.1:Int)))),(4, .l (.ownP 4 0)),(2, .l (.ownP 2 0))], [(4, .box 89 [.z .bool (decide ((av s [45]).length<s.length)), .ownS 37]),(37, .arr (.int .u32) 161 z.2),(2, .box 89 [.z .bool false, .val (.slice none 0 0)])]⟩:aa)) (fun z=>ReadPhi (av s [45]) z.1 z.2) (fun z=>(av s [45]).length+9-9*z.1) (0, []) ?_ ?_ ?_
 ·refine q_l ?_
  exact⟨by show ((av s [45]).length:Int)=((av s [45]).length:Int)-9*((0:Nat):Int);omega,by congr 1;simp,by unfold ioB;omega⟩
 ·exact read_start
 ·rintro⟨r,out⟩ hz
  try dsimp only at hz
  obtain⟨d1,d2,d4⟩:=gZ hC.1
  have d3:(av s [45]).length<1000000000000:=Nat.lt_of_le_of_lt (fL s _) hC.2
  have hz1:=hz.1
  have hz4:=hz.2.2.2
  refine ak ?_
  refine s_g hG ?_
  refine aq ?_ ?_
  ·intro hb0
   try simp only[bt] at hb0
   refine ar ?_
   refine ah ?_
   refine ak ?_
   refine au ?_
   refine s_q hG ?_ ?_
   ·try simp only[ba]
    obtain⟨e1,e2,e3⟩:=vp hb0 d3
    obtain⟨q1,q2,q3,q4,q5⟩:=read_next d1 hz hb0 rfl
    rw[e1,e2,e3]
    exact⟨⟨by omega,by omega,by omega⟩,q1,q2,q3⟩
   refine ag hG ?_ ?_
   ·try simp only[ba]
    unfold Cm.Roomy;omega
   refine aQ ?_
   refine ah ?_
   refine ag hG ?_ ?_
   ·first|trivial|omega|(simp;done)|(simp;omega)
   show ∃ z,_
   refine q_l ?_
   obtain⟨e1,e2,e3⟩:=vp hb0 d3
   obtain⟨q1,q2,q3,q4,q5⟩:=read_next d1 hz hb0 rfl
   rw[e1,e2,e3]
   exact⟨r+1,by show ((av s [45]).length:Int)-9*(r:Int)-9=((av s [45]).length:Int)-9*((r+1:Nat):Int);omega,q4,by omega⟩
  ·intro hb0
   try simp only[bf] at hb0
   refine bg ?_
   refine aE ?_
   refine ax ?_
   refine aw ?_
   refine ah ?_
   refine s_q hG ?_ ?_
   ·try simp only[ba]
    exact⟨hz.2.1,by unfold CAP;omega⟩
   refine az ?_
   refine q_e [37] ?_
   rw[read_end hz hb0]
def qD(B:aj):Tab:={types:= [(3,(.int .i64)),(9, .str),(91,(.st (.pair (.st (.pair .bool (.slice (.int .u32)))) (.st (.pair .bool (.slice (.int .u32)))))))],elems:= [],cons:= [(131,HT),(132,yc),(133,jh)],hint:= [],N:=23,base:=B}
theorem AR{B:aj}(hB:aC B):aK Tryz.prog (qD B):=⟨⟨tc ty3 (tc ty9 (tc ty91 (ae))),af,by simp only[qD,ioB];omega⟩,aF (cc Tryz.func131 (wt hB) (cc Tryz.func132 (HU hB) (cc Tryz.func133 (qb hB) (ay)))),by kernel_rfl⟩
def pM:Con:=fun l os=>match l,os with
 | [.z .str q], []=>some (fW q, [.z (.st (.pair (.st (.pair .bool (.slice (.int .u32)))) (.st (.pair .bool (.slice (.int .u32)))))) (gB q)], [])
 |_,_=>none
theorem oK{B:aj}(hB:aC B):Valid B Tryz.prog 90 pM:=by
 refine ab (AR hB).tab Tryz.func90 rfl rfl rfl ?_
 intro args os C rs os' hc hC
 unfold pM at hc
 split at hc
 case h_2=>cases hc
 rename_i q
 cases hc
 refine v_h (AR hB) fun X hP hT hr hG=> ?_
 have hU:=qD.eq_1
 unfold qD at hT
 have hX:=ai @HT.eq_1<|ai @yc.eq_1<| @jh.eq_1
 simp only[Tryz.f90,aD,al,ioB]
 refine s_g hG ?_
 refine s_q hG ?_ ?_
 ·try simp only[ba]
  exact(oc hC).1
 refine ak ?_
 refine s_g hG ?_
 refine aq ?_ ?_
 ·intro hb0
  try simp only[bt] at hb0
  refine s_q hG ?_ ?_
  ·try simp only[ba]
   exact⟨(oc hC).2.1,by unfold I64;omega⟩
  refine az ?_
  refine aB ?_
  refine q_e [] ?_
  exact J2 hb0
 ·intro hb0
  try simp only[bf] at hb0
  refine ar ?_
  refine ah ?_
  refine s_q hG ?_ ?_
  ·try simp only[ba]
   rw[kP hb0]
   exact(oc hC).2
  refine az ?_
  refine q_e [] ?_
  rw[kP hb0];rfl
def qE(B:aj):Tab:={types:= [(3,(.int .i64)),(9, .str),(31,(.int .i64)),(46, .str),(89,(.st (.pair .bool (.slice (.int .u32))))),(91,(.st (.pair (.st (.pair .bool (.slice (.int .u32)))) (.st (.pair .bool (.slice (.int .u32))))))),(151,(.st (.pair (.st (.pair (.st (.pair .bool (.slice (.int .u32)))) (.st (.pair .bool (.slice (.int .u32)))))) (.int .i64))))],elems:= [],cons:= [(90,pM),(129,oJ),(131,HT),(133,jh),(142,yb),(147,wj),(167,qA),(168,NH)],hint:= [],N:=61,base:=B}
theorem AU{B:aj}(hB:aC B):aK Tryz.prog (qE B):=⟨⟨tc ty3 (tc ty9 (tc kJ (tc mw (tc gN (tc ty91 (tc NX (ae))))))),af,by simp only[qE,ioB];omega⟩,aF (cc Tryz.func90 (oK hB) (cc Tryz.func129 (wq hB) (cc Tryz.func131 (wt hB) (cc Tryz.func133 (qb hB) (cc Tryz.func142 (NR hB) (cc Tryz.func147 (FS hB) (cc Tryz.func167 (HR hB) (cc Tryz.func168 (NI hB) (ay))))))))),by kernel_rfl⟩
def yd:Con:=fun l os=>match l,os with
 | [.z .str q], []=>some (q.length<=QL, [.z (.st (.pair (.st (.pair (.st (.pair .bool (.slice (.int .u32)))) (.st (.pair .bool (.slice (.int .u32)))))) (.int .i64))) (kO q)], [])
 |_,_=>none
theorem HV{B:aj}(hB:aC B):Valid B Tryz.prog 128 yd:=by
 refine ab (AU hB).tab Tryz.func128 rfl rfl rfl ?_
 intro args os C rs os' hc hC
 unfold yd at hc
 split at hc
 case h_2=>cases hc
 rename_i q
 cases hc
 refine v_h (AU hB) fun X hP hT hr hG=> ?_
 have hU:=qE.eq_1
 unfold qE at hT
 have hX:=ai @yb.eq_1<|ai @NH.eq_1<|ai @HT.eq_1<|ai @pM.eq_1<|ai @wj.eq_1<|ai @oJ.eq_1<|ai @qA.eq_1<| @jh.eq_1
 simp only[Tryz.f128,aD,al,ioB]
 refine s_g hG ?_
 refine s_q hG ?_ ?_
 ·try simp only[ba]
  have h9:q.length<=1000000000:=hC
  omega
 refine ct (fun(z:Unit)=>(⟨[(0, .l (.z .str q)),(2, .l (.ownP 2 0)),(3, .l (.z .str (tN q))),(4, .l (.z .str (tD q))),(5, .l (.z .bool (cl q)))], [(2, .box 151 [.z .bool false, .val (.slice none 0 0), .z .bool false, .val (.slice none 0 0), .z (.int .i64) 0])]⟩:aa)) (fun z=>True) ?_ ?_
 ·refine s_g hG ?_
  refine aq ?_ ?_
  ·intro hb0
   try simp only[bt] at hb0
   refine ag hG ?_ ?_
   ·first|trivial|omega|(simp;done)|(simp;omega)
   show ∃ z,_
   refine q_l ?_
   first|exact xh hb0|exact kP hb0
  ·intro hb0
   try simp only[bf] at hb0
   refine ar ?_
   show ∃ z,_
   refine q_l ?_
   first|exact xh hb0|exact kP hb0
 rintro⟨⟩-
 have hS:=J3 hC
 refine ak ?_
 refine s_q hG ?_ ?_
 ·try simp only[ba]
  exact⟨hS.1,fun h=>⟨h,hS.2⟩,fun h=>h,fun h=>by rw[h];rfl⟩
 refine aq ?_ ?_
 ·intro hb1
  try simp only[bt] at hb1
  refine s_g hG ?_
  refine az ?_
  refine aB ?_
  refine q_e [] ?_
  exact MG hb1
 ·intro hb1
  try simp only[bf] at hb1
  have hF:=MF hC hb1
  refine ar ?_
  refine ah ?_
  refine s_q hG ?_ ?_
  ·try simp only[ba]
   exact hF
  refine s_g hG ?_
  refine s_q hG ?_ ?_
  ·try simp only[ba]
   unfold I64;omega
  refine ak ?_
  refine au ?_
  refine s_d hG ?_ ?_
  ·try simp only[ba]
   simp only[pe,gB,bT]
   exact⟨fun h=>⟨h,enc_ok _,enc_ok _,Pe hF⟩,fun h=>h,fun h=>h,fun h=>⟨h,Oy hF⟩,fun h=>⟨h,enc_ok _,enc_ok _,Pf hF⟩,fun h=>h,fun h=>⟨h,fun h2=>by rw[h,h2];rfl⟩,fun h=>h⟩
  refine aq ?_ ?_
  ·intro hb2
   try simp only[bt] at hb2
   simp only[pe,gB,bT] at hb2
   refine s_g hG ?_
   refine az ?_
   refine bE ?_
   refine aB ?_
   refine q_e [] ?_
   exact MH hF hb2
  ·intro hb2
   try simp only[bf] at hb2
   simp only[pe,gB,bT] at hb2
   have hR:=Pg hF hb2
   refine s_q hG ?_ ?_
   ·try simp only[ba]
    exact MI hR
   refine aq ?_ ?_
   ·intro hb3
    try simp only[bt] at hb3
    refine s_g hG ?_
    refine az ?_
    refine bE ?_
    refine aB ?_
    refine q_e [] ?_
    exact OA hR hb3
   ·intro hb3
    try simp only[bf] at hb3
    refine ar ?_
    refine aQ ?_
    refine ah ?_
    refine s_g hG ?_
    refine az ?_
    refine q_e [] ?_
    exact Ph hR hb3
def qF(B:aj):Tab:={types:= [(46, .str),(151,(.st (.pair (.st (.pair (.st (.pair .bool (.slice (.int .u32)))) (.st (.pair .bool (.slice (.int .u32)))))) (.int .i64))))],elems:= [],cons:= [(128,yd)],hint:= [],N:=6,base:=B}
theorem AW{B:aj}(hB:aC B):aK Tryz.prog (qF B):=⟨⟨tc mw (tc NX (ae)),af,by simp only[qF,ioB];omega⟩,aF (cc Tryz.func128 (HV hB) (ay)),by kernel_rfl⟩
def lW:Con:=fun l os=>match l,os with
 | [.z .str q], []=>some (q.length<=QL, [.z (.int .i64) (dr q)], [])
 |_,_=>none
theorem wu{B:aj}(hB:aC B):Valid B Tryz.prog 87 lW:=by
 refine ab (AW hB).tab Tryz.func87 rfl rfl rfl ?_
 intro args os C rs os' hc hC
 unfold lW at hc
 split at hc
 case h_2=>cases hc
 rename_i q
 cases hc
 refine v_h (AW hB) fun X hP hT hr hG=> ?_
 have hU:=qF.eq_1
 unfold qF at hT
 have hX:= @yd.eq_1
 simp only[Tryz.f87,aD,al,ioB]
 refine s_g hG ?_
 refine s_q hG ?_ ?_
 ·try simp only[ba]
  exact hC
 refine az ?_
 refine q_e [] ?_
 exact GX q
def qG(B:aj):Tab:={types:= [(3,(.int .i64)),(22,(.slice .str)),(46, .str),(78,(.slice (.st (.pair (.st (.pair .bool (.slice (.int .u32)))) (.st (.pair .bool (.slice (.int .u32))))))))],elems:= [(78,91)],cons:= [(90,pM)],hint:= [18],N:=22,base:=B}
theorem AX{B:aj}(hB:aC B):aK Tryz.prog (qG B):=⟨⟨tc ty3 (tc gA (tc mw (tc Mw (ae)))),aR (by kernel_rfl) (af),by simp only[qG,ioB];omega⟩,aF (cc Tryz.func90 (oK hB) (ay)),by kernel_rfl⟩
def FV:Con:=fun l os=>match l,os with
 | [.z (.slice .str) l], []=>some (l.length<QL/\∀ q∈l,fW q, [.own (.st (.pair (.st (.pair .bool (.slice (.int .u32)))) (.st (.pair .bool (.slice (.int .u32)))))) 91 (l.map gB)], [])
 |_,_=>none
theorem HW{B:aj}(hB:aC B):Valid B Tryz.prog 106 FV:=by
 refine ab (AX hB).tab Tryz.func106 rfl rfl rfl ?_
 intro args os C rs os' hc hC
 unfold FV at hc
 split at hc
 case h_2=>cases hc
 rename_i l
 cases hc
 refine v_h (AX hB) fun X hP hT hr hG=> ?_
 have hU:=qG.eq_1
 unfold qG at hT
 have hX:= @pM.eq_1
 simp only[Tryz.f106,aD,al,ioB]
 have hl:l.length<1000000000:=hC.1
 refine s_g hG ?_
 refine s_q hG ?_ ?_
 ·try simp only[ba]
  exact⟨by omega,by omega,tB (by omega)⟩
 refine ak ?_
 refine s_g hG ?_
 refine au ?_
 refine br (fun(z:Nat)=>(⟨[(3, .l (.ownS 8)),(9, .l (.z (.slice .str) l)),(10, .l (.z (.int .i64) (l.length:Int))),(11, .l (.z (.int .i64) (z:Int)))], [(8, .arr (.st (.pair (.st (.pair .bool (.slice (.int .u32)))) (.st (.pair .bool (.slice (.int .u32)))))) 91 ((l.take z).map gB))]⟩:aa)) (fun z=>z<=l.length) (fun z=>l.length-z) 0 ?_ ?_ ?_
 ·refine q_l ?_
  exact⟨rfl,rfl⟩
 ·omega
 ·rintro k g1
  try dsimp only at g1
  refine s_g hG ?_
  refine ak ?_
  refine aq ?_ ?_
  ·intro hb0
   try simp only[bt] at hb0
   refine ar ?_
   refine ah ?_
   refine ak ?_
   refine au ?_
   refine s_q hG ?_ ?_
   ·try simp only[ba]
    exact⟨by omega,hb0⟩
   refine ag hG ?_ ?_
   ·try simp only[ba]
    exact⟨hC.2 _ (gr (t:= .str) (by omega)),tB (by simp;omega)⟩
   refine aQ ?_
   refine ah ?_
   refine ag hG ?_ ?_
   ·first|trivial|omega|(simp;done)|(simp;omega)
   show ∃ z,_
   refine q_l ?_
   exact list_round (by omega) hC.1
  ·intro hb0
   try simp only[bf] at hb0
   refine bg ?_
   refine aE ?_
   refine ax ?_
   refine aw ?_
   refine ah ?_
   refine s_g hG ?_
   refine az ?_
   refine q_e [] ?_
   exact⟨trivial,by rw[List.take_of_length_le (by omega)]⟩
def qH(B:aj):Tab:={types:= [(3,(.int .i64)),(22,(.slice .str)),(78,(.slice (.st (.pair (.st (.pair .bool (.slice (.int .u32)))) (.st (.pair .bool (.slice (.int .u32)))))))),(91,(.st (.pair (.st (.pair .bool (.slice (.int .u32)))) (.st (.pair .bool (.slice (.int .u32)))))))],elems:= [(22,46)],cons:= [(129,oJ),(130,ya)],hint:= [],N:=26,base:=B}
theorem AY{B:aj}(hB:aC B):aK Tryz.prog (qH B):=⟨⟨tc ty3 (tc gA (tc Mw (tc ty91 (ae)))),aR (by kernel_rfl) (af),by simp only[qH,ioB];omega⟩,aF (cc Tryz.func129 (wq hB) (cc Tryz.func130 (HS hB) (ay))),by kernel_rfl⟩
def oL:Con:=fun l os=>match l,os with
 | [.z (.slice (.st (.pair (.st (.pair .bool (.slice (.int .u32)))) (.st (.pair .bool (.slice (.int .u32))))))) l], []=>some (l.length<QL/\∀ x∈l,NOK x/\lq (bD x)<=QC, [.z (.slice .str) (if dD l=true then l.map fun x=>bo (bD x) else []), .z .bool (dD l)], [])
 |_,_=>none
theorem wv{B:aj}(hB:aC B):Valid B Tryz.prog 88 oL:=by
 refine ab (AY hB).tab Tryz.func88 rfl rfl rfl ?_
 intro args os C rs os' hc hC
 unfold oL at hc
 split at hc
 case h_2=>cases hc
 rename_i l
 cases hc
 refine v_h (AY hB) fun X hP hT hr hG=> ?_
 have hU:=qH.eq_1
 unfold qH at hT
 have hX:=ai @oJ.eq_1<| @ya.eq_1
 simp only[Tryz.f88,aD,al,ioB]
 have hl:l.length<1000000000:=hC.1
 refine s_g hG ?_
 refine s_q hG ?_ ?_
 ·try simp only[ba]
  exact⟨by omega,by omega,xi (by omega)⟩
 refine ak ?_
 refine s_g hG ?_
 refine au ?_
 refine br (fun(z:Nat)=>(⟨[(2, .l (.val (.slice none 0 0))),(3, .l (.z .bool false)),(4, .l (.ownS 9)),(10, .l (.z (.slice (.st (.pair (.st (.pair .bool (.slice (.int .u32)))) (.st (.pair .bool (.slice (.int .u32))))))) l)),(11, .l (.z (.int .i64) (l.length:Int))),(12, .l (.z (.int .i64) (z:Int)))], [(9, .arr .str 46 ((l.take z).map fun x=>bo (bD x)))]⟩:aa)) (fun z=>z<=l.length/\dD (l.take z)=true) (fun z=>l.length-z) 0 ?_ ?_ ?_
 ·refine q_l ?_
  exact⟨rfl,rfl⟩
 ·exact⟨by omega,by simp[dD]⟩
 ·rintro k ⟨g1,g2⟩
  try dsimp only at g1 g2
  refine s_g hG ?_
  refine ak ?_
  refine aq ?_ ?_
  ·intro hb0
   try simp only[bt] at hb0
   refine ar ?_
   refine ah ?_
   refine ak ?_
   refine au ?_
   refine s_q hG ?_ ?_
   ·try simp only[ba]
    exact⟨by omega,hb0⟩
   refine ak ?_
   refine s_q hG ?_ ?_
   ·try simp only[ba]
    exact hC.2 _ (gr (t:=NT) (by omega))
   refine aq ?_ ?_
   ·intro hb1
    try simp only[bt] at hb1
    refine s_g hG ?_
    refine az ?_
    refine aB ?_
    refine bE ?_
    refine aB ?_
    refine eE ?_
    refine bE ?_
    refine aB ?_
    refine q_e [9] ?_
    exact GZ (by omega) hb1
   ·intro hb1
    try simp only[bf] at hb1
    refine ar ?_
    refine ah ?_
    refine ag hG ?_ ?_
    ·try simp only[ba]
     exact⟨⟨(hC.2 _ (gr (t:=NT) (by omega))).1,(hC.2 _ (gr (t:=NT) (by omega))).2⟩,xi (by simp;omega)⟩
    refine aQ ?_
    refine ah ?_
    refine ag hG ?_ ?_
    ·first|trivial|omega|(simp;done)|(simp;omega)
    show ∃ z,_
    refine q_l ?_
    exact zx (by omega) hC.1 g2 hb1
  ·intro hb0
   try simp only[bf] at hb0
   refine bg ?_
   refine aE ?_
   refine ax ?_
   refine aw ?_
   refine ah ?_
   refine s_g hG ?_
   refine az ?_
   refine q_e [9] ?_
   exact G0 (by omega) g2
def qI(B:aj):Tab:={types:= [(3,(.int .i64)),(79,(.slice (.st (.pair (.st (.pair .bool (.slice (.int .u32)))) (.st (.pair .bool (.slice (.int .u32)))))))),(91,(.st (.pair (.st (.pair .bool (.slice (.int .u32)))) (.st (.pair .bool (.slice (.int .u32)))))))],elems:= [],cons:= [(114,lj)],hint:= [],N:=25,base:=B}
theorem AZ{B:aj}(hB:aC B):aK Tryz.prog (qI B):=⟨⟨tc ty3 (tc fN (tc ty91 (ae))),af,by simp only[qI,ioB];omega⟩,aF (cc Tryz.func114 (oI hB) (ay)),by kernel_rfl⟩
def ji:Con:=fun l os=>match l,os with
 | [.z (.slice (.st (.pair (.st (.pair .bool (.slice (.int .u32)))) (.st (.pair .bool (.slice (.int .u32))))))) p], []=>some (Sz QC p/\p.length<=QL, [.z (.slice (.st (.pair (.st (.pair .bool (.slice (.int .u32)))) (.st (.pair .bool (.slice (.int .u32))))))) (aI (aS (an p)))], [])
 |_,_=>none
theorem iF{B:aj}(hB:aC B):Valid B Tryz.prog 82 ji:=by
 refine ab (AZ hB).tab Tryz.func82 rfl rfl rfl ?_
 intro args os C rs os' hc hC
 unfold ji at hc
 split at hc
 case h_2=>cases hc
 rename_i p
 cases hc
 refine v_h (AZ hB) fun X hP hT hr hG=> ?_
 have hU:=qI.eq_1
 unfold qI at hT
 have hX:= @lj.eq_1
 simp only[Tryz.f82,aD,al,ioB]
 obtain⟨l0,rfl,hl0⟩:=hC.1.ex
 have hn:=hC.2
 rw[aA] at hn
 have hn:l0.length<=1000000000:=hn
 refine s_g hG ?_
 refine ak ?_
 refine au ?_
 refine br (fun(z:List Rat)=>(⟨[(0, .l (.z (.slice (.st (.pair (.st (.pair .bool (.slice (.int .u32)))) (.st (.pair .bool (.slice (.int .u32))))))) (aI z))),(2, .l (.val (.slice none 0 0)))], []⟩:aa)) (fun z=>z.length<=l0.length/\(∀ x∈z,lq x<=QC)/\aS z=aS l0) (fun z=>z.length) l0 ?_ ?_ ?_
 ·simp only[ml0,ml1,Nat.reduceLT,Nat.reduceEqDiff,Nat.reduceAdd,Nat.reduceMul,Nat.reduceSub,Nat.reduceLeDiff,Nat.reduceBEq,Nat.reduceBNe,reduceIte,reduceDIte,reduceCtorEq]
 ·exact⟨Nat.le_refl _,hl0,rfl⟩
 ·rintro l ⟨g1,g2,g3⟩
  try dsimp only at g1 g2 g3
  refine ak ?_
  refine s_q hG ?_ ?_
  ·try simp only[ba]
   have hs:=vq (l:=l) (by omega)
   exact⟨id,id,hs.2,id,hs.1,id⟩
  refine aq ?_ ?_
  ·intro hb0
   try simp only[bt] at hb0
   have ht:=J4 (by omega) hb0.1 hb0.2
   obtain⟨n1,n2,n3,n4,n5⟩:=vr (by omega) g1 g2 g3 ht
   refine ar ?_
   refine ah ?_
   refine au ?_
   refine ag hG ?_ ?_
   ·try simp only[ba]
    rw[aA,cd (by omega)]
    exact⟨by omega,by omega,by omega,by omega⟩
   refine aQ ?_
   show ∃ z,_
   refine q_l ?_
   exact⟨l.dropLast,n1,n2,n3,n4,n5⟩
  ·intro hb0
   try simp only[bf] at hb0
   have ht:=J5 (l:=l) (by omega) hb0
   refine bg ?_
   refine aE ?_
   refine ax ?_
   refine aw ?_
   refine ah ?_
   refine s_g hG ?_
   refine az ?_
   refine q_e [] ?_
   rw[aH,<- g3,ht]
def kd(B:aj):Tab:={types:= [(3,(.int .i64)),(79,(.slice (.st (.pair (.st (.pair .bool (.slice (.int .u32)))) (.st (.pair .bool (.slice (.int .u32)))))))),(91,(.st (.pair (.st (.pair .bool (.slice (.int .u32)))) (.st (.pair .bool (.slice (.int .u32)))))))],elems:= [],cons:= [(114,lj)],hint:= [23],N:=25,free:= [10000000],base:=B}
theorem A0{B:aj}(hB:aC B):aK Tryz.prog (kd B):=⟨⟨tc ty3 (tc fN (tc ty91 (ae))),af,by simp only[kd,ioB];omega⟩,aF (cc Tryz.func114 (oI hB) (ay)),by kernel_rfl⟩
def LS:Con:=fun l os=>match l,os with
 | [.ownS 10000000], [.arr (.st (.pair (.st (.pair .bool (.slice (.int .u32)))) (.st (.pair .bool (.slice (.int .u32)))))) 91 p]=>some (Sz QC p/\p.length<=QL, [.own (.st (.pair (.st (.pair .bool (.slice (.int .u32)))) (.st (.pair .bool (.slice (.int .u32)))))) 91 (aI (aS (an p)))], [.arr (.st (.pair (.st (.pair .bool (.slice (.int .u32)))) (.st (.pair .bool (.slice (.int .u32)))))) 91 []])
 |_,_=>none
theorem Ds{B:aj}(hB:aC B):Valid B Tryz.prog 82 LS [0]:=by
 refine o4 (T:=kd B) (A0 hB).tab Tryz.func82 rfl rfl rfl (MJ (by simp only[kd];decide)) ?_
 intro args os C rs os' hc hC
 unfold LS at hc
 split at hc
 case h_2=>cases hc
 rename_i p
 cases hc
 refine v_h (A0 hB) fun X hP hT hr hG=> ?_
 have hU:=kd.eq_1
 unfold kd at hT
 have hX:=ai @lj.eq_1<| @cj.eq_def
 simp only[Tryz.f82,aD,al,ioB]
 obtain⟨l0,rfl,hl0⟩:=hC.1.ex
 have hn:=hC.2
 rw[aA] at hn
 have hn:l0.length<=1000000000:=hn
 refine Jc 10000000 1 (by simp only[hT,kd,mx0,mx1,mx2,mx3,mx4,mx5,mx6,Nat.reduceLT,Nat.reduceEqDiff,Nat.reduceAdd,Nat.reduceMul,Nat.reduceSub,Nat.reduceLeDiff,Nat.reduceBEq,Nat.reduceBNe,reduceIte,reduceDIte,reduceCtorEq];rfl) ?_
 refine s_g hG ?_
 refine ak ?_
 refine au ?_
 refine br (fun(z:List Rat)=>(⟨[(0, .l (.ownS 1)),(2, .l (.val (.slice none 0 0)))], [(1, .arr (.st (.pair (.st (.pair .bool (.slice (.int .u32)))) (.st (.pair .bool (.slice (.int .u32)))))) 91 (aI z)),(10000000, .arr (.st (.pair (.st (.pair .bool (.slice (.int .u32)))) (.st (.pair .bool (.slice (.int .u32)))))) 91 [])]⟩:aa)) (fun z=>z.length<=l0.length/\(∀ x∈z,lq x<=QC)/\aS z=aS l0) (fun z=>z.length) l0 ?_ ?_ ?_
 ·simp only[ml0,ml1,Nat.reduceLT,Nat.reduceEqDiff,Nat.reduceAdd,Nat.reduceMul,Nat.reduceSub,Nat.reduceLeDiff,Nat.reduceBEq,Nat.reduceBNe,reduceIte,reduceDIte,reduceCtorEq]
 ·exact⟨Nat.le_refl _,hl0,rfl⟩
 ·rintro l ⟨g1,g2,g3⟩
  try dsimp only at g1 g2 g3
  refine ak ?_
  refine s_q hG ?_ ?_
  ·try simp only[ba]
   have hs:=vq (l:=l) (by omega)
   exact⟨id,id,hs.2,fun h=>⟨h,by have:=(hs.2 h).2;omega⟩,hs.1,id⟩
  refine aq ?_ ?_
  ·intro hb0
   try simp only[bt] at hb0
   have ht:=J4 (by omega) hb0.1 hb0.2
   obtain⟨n1,n2,n3,n4,n5⟩:=vr (by omega) g1 g2 g3 ht
   refine ar ?_
   refine ah ?_
   refine au ?_
   refine ag hG ?_ ?_
   ·try simp only[ba]
    rw[aA,cd (by omega)]
    exact⟨by omega,by omega,by omega,by omega⟩
   refine aQ ?_
   show ∃ z,_
   refine q_l ?_
   exact⟨l.dropLast,n1,n2,n3,n4,n5⟩
  ·intro hb0
   try simp only[bf] at hb0
   have ht:=J5 (l:=l) (by omega) hb0
   refine bg ?_
   refine aE ?_
   refine ax ?_
   refine aw ?_
   refine ah ?_
   refine s_g hG ?_
   refine az ?_
   refine q_e [] ?_
   exact⟨⟨trivial,by rw[aH,<- g3,ht]⟩,trivial,trivial⟩
def fY:Con:=fun l os=>match l,os with
 | [.z (.slice (.st (.pair (.st (.pair .bool (.slice (.int .u32)))) (.st (.pair .bool (.slice (.int .u32))))))) p], []=>some (Sz QC p/\p.length<=QL, [.z (.slice (.st (.pair (.st (.pair .bool (.slice (.int .u32)))) (.st (.pair .bool (.slice (.int .u32))))))) (aI (aS (an p)))], [])
 | [.ownS 10000000], [.arr (.st (.pair (.st (.pair .bool (.slice (.int .u32)))) (.st (.pair .bool (.slice (.int .u32)))))) 91 p]=>some (Sz QC p/\p.length<=QL, [.own (.st (.pair (.st (.pair .bool (.slice (.int .u32)))) (.st (.pair .bool (.slice (.int .u32)))))) 91 (aI (aS (an p)))], [.arr (.st (.pair (.st (.pair .bool (.slice (.int .u32)))) (.st (.pair .bool (.slice (.int .u32)))))) 91 []])
 |_,_=>none
theorem HY{B:aj}(hB:aC B):Valid B Tryz.prog 82 fY [0]:=by
 intro args os C rs os' hc hC
 unfold fY at hc
 split at hc
 ·cases hc;exact J6 (iF hB) _ _ _ _ _ rfl hC
 ·cases hc;exact Ds hB _ _ _ _ _ rfl hC
 ·cases hc
def qJ(B:aj):Tab:={types:= [(3,(.int .i64)),(79,(.slice (.st (.pair (.st (.pair .bool (.slice (.int .u32)))) (.st (.pair .bool (.slice (.int .u32)))))))),(91,(.st (.pair (.st (.pair .bool (.slice (.int .u32)))) (.st (.pair .bool (.slice (.int .u32)))))))],elems:= [],cons:= [(113,et)],hint:= [],N:=14,base:=B}
theorem A1{B:aj}(hB:aC B):aK Tryz.prog (qJ B):=⟨⟨tc ty3 (tc fN (tc ty91 (ae))),af,by simp only[qJ,ioB];omega⟩,aF (cc Tryz.func113 (lV hB) (ay)),by kernel_rfl⟩
def wx:Con:=fun l os=>match l,os with
 | [.z (.slice (.st (.pair (.st (.pair .bool (.slice (.int .u32)))) (.st (.pair .bool (.slice (.int .u32))))))) p, .z (.int .i64) i], []=>some (Sz QC p/\0<=i, [.z (.st (.pair (.st (.pair .bool (.slice (.int .u32)))) (.st (.pair .bool (.slice (.int .u32)))))) (bk (cf (an p) i.toNat))], [])
 |_,_=>none
theorem wy{B:aj}(hB:aC B):Valid B Tryz.prog 107 wx:=by
 refine ab (A1 hB).tab Tryz.func107 rfl rfl rfl ?_
 intro args os C rs os' hc hC
 unfold wx at hc
 split at hc
 case h_2=>cases hc
 rename_i p i
 cases hc
 refine v_h (A1 hB) fun X hP hT hr hG=> ?_
 have hU:=qJ.eq_1
 unfold qJ at hT
 have hX:= @et.eq_1
 simp only[Tryz.f107,aD,al,ioB]
 obtain⟨n,rfl⟩:=Int.eq_ofNat_of_zero_le hC.2
 rw[Int.toNat_natCast]
 refine s_g hG ?_
 refine ak ?_
 refine s_g hG ?_
 refine aq ?_ ?_
 ·intro hb0
  try simp only[bt] at hb0
  refine s_q hG ?_ ?_
  ·try simp only[ba]
   exact⟨by omega,hb0⟩
  refine az ?_
  refine aB ?_
  refine q_e [] ?_
  rw[fR hC.1 (by omega)]
 ·intro hb0
  try simp only[bf] at hb0
  refine ar ?_
  refine ah ?_
  refine s_g hG ?_
  refine az ?_
  refine q_e [] ?_
  rw[J7 (by omega)]
def qK(B:aj):Tab:={types:= [(3,(.int .i64)),(79,(.slice (.st (.pair (.st (.pair .bool (.slice (.int .u32)))) (.st (.pair .bool (.slice (.int .u32)))))))),(91,(.st (.pair (.st (.pair .bool (.slice (.int .u32)))) (.st (.pair .bool (.slice (.int .u32)))))))],elems:= [(79,91)],cons:= [(58,mh),(105,ep),(112,fp),(113,et),(114,lj)],hint:= [19],N:=67,base:=B}
theorem A2{B:aj}(hB:aC B):aK Tryz.prog (qK B):=⟨⟨tc ty3 (tc fN (tc ty91 (ae))),aR (by kernel_rfl) (af),by simp only[qK,ioB];omega⟩,aF (cc Tryz.func58 (lT hB) (cc Tryz.func105 (lU hB) (cc Tryz.func112 (vy hB) (cc Tryz.func113 (lV hB) (cc Tryz.func114 (oI hB) (ay)))))),by kernel_rfl⟩
def oM:Con:=fun l os=>match l,os with
 | [.z (.slice (.st (.pair (.st (.pair .bool (.slice (.int .u32)))) (.st (.pair .bool (.slice (.int .u32))))))) p, .z (.slice (.st (.pair (.st (.pair .bool (.slice (.int .u32)))) (.st (.pair .bool (.slice (.int .u32))))))) q], []=>some (Sz QM p/\Sz QM q/\p.length<=100/\q.length<=100, [.z (.slice (.st (.pair (.st (.pair .bool (.slice (.int .u32)))) (.st (.pair .bool (.slice (.int .u32))))))) (aI (b6 (an p) (an q)))], [])
 |_,_=>none
theorem wz{B:aj}(hB:aC B):Valid B Tryz.prog 61 oM:=by
 refine ab (A2 hB).tab Tryz.func61 rfl rfl rfl ?_
 intro args os C rs os' hc hC
 unfold oM at hc
 split at hc
 case h_2=>cases hc
 rename_i p q
 cases hc
 refine v_h (A2 hB) fun X hP hT hr hG=> ?_
 have hU:=qK.eq_1
 unfold qK at hT
 have hX:=ai @mh.eq_1<|ai @ep.eq_1<|ai @lj.eq_1<|ai @fp.eq_1<| @et.eq_1
 simp only[Tryz.f61,aD,al,ioB]
 obtain⟨hp,hq,hl1,hl2⟩:=hC
 refine s_g hG ?_
 refine ak ?_
 refine s_q hG ?_ ?_
 ·try simp only[ba]
  exact⟨id,id,fun h=>by rw[h];rfl⟩
 refine aq ?_ ?_
 ·intro hb0
  try simp only[bt] at hb0
  refine s_g hG ?_
  refine az ?_
  refine aB ?_
  refine q_e [] ?_
  exact G1 hb0
 ·intro hb0
  try simp only[bf] at hb0
  have h0:=Kb hb0
  refine ar ?_
  refine ah ?_
  refine s_q hG ?_ ?_
  ·try simp only[ba]
   rw[vv hl1 hl2 h0]
   exact ML hl1 hl2
  refine ak ?_
  refine s_g hG ?_
  refine au ?_
  refine br (fun(z:Nat)=>(⟨[(0, .l (.z (.slice (.st (.pair (.st (.pair .bool (.slice (.int .u32)))) (.st (.pair .bool (.slice (.int .u32))))))) p)),(1, .l (.z (.slice (.st (.pair (.st (.pair .bool (.slice (.int .u32)))) (.st (.pair .bool (.slice (.int .u32))))))) q)),(5, .l (.ownS 1208)),(27, .l (.z (.slice (.st (.pair (.st (.pair .bool (.slice (.int .u32)))) (.st (.pair .bool (.slice (.int .u32))))))) p)),(28, .l (.z (.int .i64) (p.length:Int))),(29, .l (.z (.int .i64) (z:Int)))], [(1208, .arr (.st (.pair (.st (.pair .bool (.slice (.int .u32)))) (.st (.pair .bool (.slice (.int .u32)))))) 91 (aI (mulN (an p) (an q) z)))]⟩:aa)) (fun z=>z<=p.length) (fun z=>p.length-z) 0 ?_ ?_ ?_
  ·refine q_l ?_
   rw[vv hl1 hl2 h0,Int.toNat_natCast]
   exact⟨rfl,times_start p q⟩
  ·omega
  ·rintro i g1
   try dsimp only at g1
   refine s_g hG ?_
   refine ak ?_
   refine aq ?_ ?_
   ·intro hb1
    try simp only[bt] at hb1
    refine ar ?_
    refine ah ?_
    refine ak ?_
    refine au ?_
    refine s_q hG ?_ ?_
    ·try simp only[ba]
     exact⟨by omega,hb1⟩
    refine s_g hG ?_
    refine au ?_
    refine br (fun(z:Nat)=>(⟨[(0, .l (.z (.slice (.st (.pair (.st (.pair .bool (.slice (.int .u32)))) (.st (.pair .bool (.slice (.int .u32))))))) p)),(1, .l (.z (.slice (.st (.pair (.st (.pair .bool (.slice (.int .u32)))) (.st (.pair .bool (.slice (.int .u32))))))) q)),(5, .l (.ownS 1208)),(27, .l (.z (.slice (.st (.pair (.st (.pair .bool (.slice (.int .u32)))) (.st (.pair .bool (.slice (.int .u32))))))) p)),(28, .l (.z (.int .i64) (p.length:Int))),(29, .l (.z (.int .i64) (i:Int))),(6, .l (.z (.int .i64) (i:Int))),(7, .l (.ownP 7 0)),(34, .l (.z (.slice (.st (.pair (.st (.pair .bool (.slice (.int .u32)))) (.st (.pair .bool (.slice (.int .u32))))))) q)),(35, .l (.z (.int .i64) (q.length:Int))),(36, .l (.z (.int .i64) (z:Int)))], [(1208, .arr (.st (.pair (.st (.pair .bool (.slice (.int .u32)))) (.st (.pair .bool (.slice (.int .u32)))))) 91 (aI (cB (mulN (an p) (an q) i) i (cf (an p) i) (an q) z))),(7, .box 91 [.z .bool (bk (cf (an p) i)).1.1, .z (.slice (.int .u32)) (bk (cf (an p) i)).1.2, .z .bool (bk (cf (an p) i)).2.1, .z (.slice (.int .u32)) (bk (cf (an p) i)).2.2])]⟩:aa)) (fun z=>z<=q.length) (fun z=>q.length-z) 0 ?_ ?_ ?_
    ·refine q_l ?_
     rw[fR hp (by omega)]
     exact⟨rfl,rfl,rfl,rfl,rfl,rfl⟩
    ·omega
    ·rintro k g2
     try dsimp only at g2
     refine s_g hG ?_
     refine ak ?_
     refine aq ?_ ?_
     ·intro hb2
      try simp only[bt] at hb2
      refine ar ?_
      refine ah ?_
      refine ak ?_
      refine au ?_
      refine s_q hG ?_ ?_
      ·try simp only[ba]
       exact⟨by omega,hb2⟩
      refine s_q hG ?_ ?_
      ·try simp only[ba]
       have ek:=fR hq (i:=k) (by omega)
       simp only[pe2]
       rw[ek]
       exact⟨bZ _,fun h=>⟨h,bZ _⟩,id⟩
      refine aq ?_ ?_
      ·intro hb3
       try simp only[bt] at hb3
       have ek:=fR hq (i:=k) (by omega)
       obtain⟨w1,w2,w3,w4⟩:=CU hp hq hl1 hl2 h0 (i:=i) (k:=k) (by omega) (by omega)
       refine gL hG ?_ ?_
       ·try simp only[ba]
        simp only[pe2]
        rw[ek,w1,Int.toNat_natCast,aN,aN]
        exact⟨⟨by omega,by omega⟩,w2,w3,w4,⟨by omega,by omega⟩,w2⟩
       refine aQ ?_
       refine ah ?_
       refine ag hG ?_ ?_
       ·first|trivial|omega|(simp;done)|(simp;omega)
       show ∃ z,_
       refine q_l ?_
       first|exact tH hl2 (by omega) (tI hb3)|(simp only[pe2];rw[ek,w1,Int.toNat_natCast];simp only[aN];exact tG hp hq hl1 hl2 h0 (i:=i) (k:=k) (by omega) (by omega))
      ·intro hb3
       try simp only[bf] at hb3
       have ek:=fR hq (i:=k) (by omega)
       simp only[pe2,ek,aN] at hb3
       refine ar ?_
       refine aQ ?_
       refine ah ?_
       refine ag hG ?_ ?_
       ·first|trivial|omega|(simp;done)|(simp;omega)
       show ∃ z,_
       refine q_l ?_
       first|exact tH hl2 (by omega) (tI hb3)|(simp only[pe2];rw[ek,w1,Int.toNat_natCast];simp only[aN];exact tG hp hq hl1 hl2 h0 (i:=i) (k:=k) (by omega) (by omega))
     ·intro hb2
      try simp only[bf] at hb2
      refine bg ?_
      refine aE ?_
      refine ax ?_
      refine aw ?_
      refine aQ ?_
      refine ah ?_
      refine ag hG ?_ ?_
      ·first|trivial|omega|(simp;done)|(simp;omega)
      show ∃ z,_
      refine q_l ?_
      exact G2 hl1 (by omega) (by omega)
   ·intro hb1
    try simp only[bf] at hb1
    refine bg ?_
    refine aE ?_
    refine ax ?_
    refine aw ?_
    refine ah ?_
    refine s_g hG ?_
    refine az ?_
    refine q_e [] ?_
    exact times_fin h0 (by omega)
end Go.Proofs.YtdojbabpnaifoaaGreatDoor
end
section
namespace Go.Cm
def LV.toRow(id:Nat):LV->LV
 | .ownS i=>if i=id then .ownR id 0 else .ownS i
 |x=>x.kill id
def LV.ofRow(id j:Nat):LV->LV
 | .ownR i k=>if i=id then (if k=j then .ownS id else .junk) else .ownR i k
 |x=>x.kill id
def aa.toRow(s:aa)(id:Nat)(T':TypeId):Option aa:=
 match get? s.own id with
 |some (.arr t E xs)=>if id<ioB then some {env:=bU (LV.toRow id) s.env,own:=upd (bp (LV.toRow id) s.own) id (.mat t T' E [some xs] [])} else none
 |_=>none
def aa.ofRow(s:aa)(id j:Nat):Option aa:=
 match get? s.own id with
 |some (.mat t _ E rows _)=>match (rows[j]?).getD none with
  |some xs=>if id<ioB then some {env:=bU (LV.ofRow id j) s.env,own:=upd (bp (LV.ofRow id j) s.own) id (.arr t E xs)} else none
  |none=>none
 |_=>none
theorem St.toRow{X:Cx}{s s':aa}{id:Nat}{T':TypeId}(he:s.toRow id T'=some s'){ac:Act}{w:World}(h:St X s ac w):St X s' ac w:=by
 unfold aa.toRow at he
 split at he
 case h_2=>cases he
 rename_i t E xs hg
 split at he
 case isFalse=>cases he
 rename_i hid
 cases he
 obtain⟨ρ,hf⟩:=h.fits
 obtain⟨cells,hr,hrow⟩:=hf.own _ (get?_mem hg)
 have hsl:∃ a n c,ρ id= .slice a n c:=by
  obtain⟨_,⟨h1,_⟩|⟨g,cap,cur,h1,_⟩⟩:=hrow<;>exact⟨_,_,_,h1⟩
 obtain⟨a,n,c,hsl⟩:=hsl
 have hblk:∀ b,blk (ρ id)=some b↔Blk (ρ id) b:=by
  intro b
  rw[hsl]
  cases a with
  |none=>simp[blk,Blk]
  |some a=>simp[blk,Blk]
 obtain⟨ρ',q1,q2⟩:=hf.renew (w':=w) hg (f:=LV.toRow id) (val:= .tuple #[.slice none 0 0,ρ id]) (obj':= .mat t T' E [some xs] [])
  (fun H' ρ' hh hs hρ hρd x v hx=>by
   cases x with
   |ownS i=>
    simp only[LV.toRow]
    split
    ·rename_i e;subst e
     have hx:v=ρ i/\_:=hx
     exact⟨.slice none 0 0, [ρ i],a,n,c,hρd,by simp[hx.1],by rw[hx.1,hsl]⟩
    ·rename_i e
     simp only[aT,hρ i e];exact hx
   |z t x=>exact bd hh hs hρ hx
   |ownP i o=>exact bd hh hs hρ hx
   |ownE i w o=>exact bd hh hs hρ hx
   |ownW i w o=>exact bd hh hs hρ hx
   |ownM i=>exact bd hh hs hρ hx
   |ownA i o=>exact bd hh hs hρ hx
   |ownR i o=>exact bd hh hs hρ hx
   |ownB i o p q=>exact bd hh hs hρ hx
   |fn f c=>exact bd hh hs hρ hx
   |val u=>exact bd hh hs hρ hx
   |junk=>exact bd hh hs hρ hx)
  (fun _ _ _=>rfl)
  (fun b hb=>by
   obtain⟨u,hu,hb⟩:=hb
   simp only[List.mem_cons,List.not_mem_nil,or_false] at hu
   rcases hu with rfl|rfl
   ·simp[blk] at hb
   ·exact .inl ((hblk b).1 hb))
  (fun H' ρ' hh hs hρ hρd=>by
   refine⟨.slice none 0 0, [ρ id], [],hρd,⟨rfl,⟨rfl, .inl ⟨rfl,rfl⟩⟩,fun c hc=>by simp at hc,fun i j hi=>by simp at hi,?_,?_,?_⟩⟩
   ·intro v hv
    simp only[List.mem_singleton] at hv
    subst hv
    refine⟨⟨a,n,c,hsl⟩,fun b hb=>⟨by simp[blk],?_,?_⟩⟩
    ·exact((hf.own _ (get?_mem hg)).lt ((hblk b).1 hb)).1
    ·exact(hf.own _ (get?_mem hg)).cells ((hblk b).1 hb)
   ·intro j ys v hj hv
    cases j with
    |zero=>
     simp at hj hv
     subst hj;subst hv
     exact⟨cells,aV hh hs hr,hrow⟩
    |succ j=>simp at hj
   ·intro i j xs' ys u v hne hi hj
    cases i with
    |zero=>cases j with
     |zero=>exact absurd rfl hne
     |succ j=>simp at hj
    |succ i=>simp at hi)
  (fun hB _=>absurd hid (by omega))
 exact⟨h.marks,h.kept,h.size,h.below,h.others,h.small,ρ',q2⟩
theorem St.ofRow{X:Cx}{s s':aa}{id j:Nat}(he:s.ofRow id j=some s'){ac:Act}{w:World}(h:St X s ac w):St X s' ac w:=by
 unfold aa.ofRow at he
 split at he
 case h_2=>cases he
 rename_i t T' E rows idx hg
 split at he
 case h_2=>cases he
 rename_i xs hj
 split at he
 case isFalse=>cases he
 rename_i hid
 cases he
 obtain⟨ρ,hf⟩:=h.fits
 obtain⟨h0,vs,cells,hρ0,hm⟩:=hf.own _ (get?_mem hg)
 have hjr:rows[j]? =some (some xs):=by
  cases hq:rows[j]? with
  |none=>rw[hq] at hj;cases hj
  |some o=>rw[hq] at hj;simp at hj;rw[hj]
 have hjl:j<vs.length:=by rw[hm.len];exact(List.getElem?_eq_some_iff.1 hjr).1
 have hvj:vs[j]? =some vs[j]:=List.getElem?_eq_getElem hjl
 obtain⟨cs,hr,hrow⟩:=hm.row j xs _ hjr hvj
 obtain⟨⟨a,n,c,hsl⟩,_⟩:=hm.shape vs[j] (List.getElem_mem hjl)
 obtain⟨ρ',q1,q2⟩:=hf.renew (w':=w) hg (f:=LV.ofRow id j) (val:=vs[j]) (obj':= .arr t E xs)
  (fun H' ρ' hh hs hρ hρd x v hx=>by
   cases x with
   |ownR i k=>
    simp only[LV.ofRow]
    split
    ·rename_i e;subst e
     split
     ·rename_i e;subst e
      obtain⟨h1,vs1,a1,n1,c1,e1,e2,e3⟩:=hx
      rw[hρ0] at e1
      simp only[Value.tuple.injEq,Array.mk.injEq,List.cons.injEq] at e1
      obtain⟨_,rfl⟩:=e1
      rw[hvj] at e2
      cases e2
      exact⟨hρd.symm,_,_,_,e3⟩
     ·trivial
    ·rename_i e
     have:=bd (x:= .ownR i k) hh hs hρ hx
     unfold LV.kill at this
     rw[if_neg (by simp[LV.isOf];exact e)] at this
     exact this
   |z t x=>exact bd hh hs hρ hx
   |ownS i=>exact bd hh hs hρ hx
   |ownP i o=>exact bd hh hs hρ hx
   |ownE i w o=>exact bd hh hs hρ hx
   |ownW i w o=>exact bd hh hs hρ hx
   |ownM i=>exact bd hh hs hρ hx
   |ownA i o=>exact bd hh hs hρ hx
   |ownB i o p q=>exact bd hh hs hρ hx
   |fn f c=>exact bd hh hs hρ hx
   |val u=>exact bd hh hs hρ hx
   |junk=>exact bd hh hs hρ hx)
  (fun _ _ _=>rfl)
  (fun b hb=> .inl (by
   rw[hρ0]
   refine⟨vs[j],by simp,?_⟩
   rw[hsl] at hb ⊢
   cases a with
   |none=>simp[Blk] at hb
   |some a=>simpa [blk,Blk] using hb))
  (fun H' ρ' hh hs hρ hρd=>⟨cs,aV hh hs hr,by rw[hρd];exact hrow⟩)
  (fun hB _=>absurd hid (by omega))
 exact⟨h.marks,h.kept,h.size,h.below,h.others,h.small,ρ',q2⟩
theorem ye{X:Cx}{c:Code}{s s':aa}{K:Exit->aa->Prop}(id:Nat)(T':TypeId)(he:s.toRow id T'=some s')(h:J X c s' K):J X c s K:=
 fun ac w hst=>h ac w (hst.toRow he)
theorem qL{X:Cx}{c:Code}{s s':aa}{K:Exit->aa->Prop}(id j:Nat)(he:s.ofRow id j=some s')(h:J X c s' K):J X c s K:=
 fun ac w hst=>h ac w (hst.ofRow he)
end Go.Cm
end
section
namespace Go.Proofs.YtdojbabpnaifoaaGreatDoor
open Go Go.Cm Go.Proofs
def qM(B:aj):Tab:={types:= [(3,(.int .i64)),(79,(.slice (.st (.pair (.st (.pair .bool (.slice (.int .u32)))) (.st (.pair .bool (.slice (.int .u32)))))))),(91,(.st (.pair (.st (.pair .bool (.slice (.int .u32)))) (.st (.pair .bool (.slice (.int .u32)))))))],elems:= [(79,91)],cons:= [(119,fv)],hint:= [],N:=25,base:=B}
theorem A3{B:aj}(hB:aC B):aK Tryz.prog (qM B):=⟨⟨tc ty3 (tc fN (tc ty91 (ae))),aR (by kernel_rfl) (af),by simp only[qM,ioB];omega⟩,aF (cc Tryz.func119 (wm hB) (ay)),by kernel_rfl⟩
def oN:Con:=fun l os=>match l,os with
 | [.z (.slice (.st (.pair (.st (.pair .bool (.slice (.int .u32)))) (.st (.pair .bool (.slice (.int .u32))))))) p], []=>some (oh p, [.z (.slice (.st (.pair (.st (.pair .bool (.slice (.int .u32)))) (.st (.pair .bool (.slice (.int .u32))))))) (aI (cx (an p)))], [])
 |_,_=>none
theorem wA{B:aj}(hB:aC B):Valid B Tryz.prog 120 oN:=by
 refine ab (A3 hB).tab Tryz.func120 rfl rfl rfl ?_
 intro args os C rs os' hc hC
 unfold oN at hc
 split at hc
 case h_2=>cases hc
 rename_i p
 cases hc
 refine v_h (A3 hB) fun X hP hT hr hG=> ?_
 have hU:=qM.eq_1
 unfold qM at hT
 have hX:= @fv.eq_1
 simp only[Tryz.f120,aD,al,ioB]
 have hl:p.length<=1000:=hC.2.1
 refine s_g hG ?_
 refine s_g hG ?_
 refine ak ?_
 refine s_g hG ?_
 refine au ?_
 refine br (fun(z:Nat)=>(⟨[(0, .l (.z (.slice (.st (.pair (.st (.pair .bool (.slice (.int .u32)))) (.st (.pair .bool (.slice (.int .u32))))))) p)),(3, .l (.ownS 22)),(6, .l (.z (.slice (.st (.pair (.st (.pair .bool (.slice (.int .u32)))) (.st (.pair .bool (.slice (.int .u32))))))) p)),(7, .l (.z (.int .i64) (p.length:Int))),(8, .l (.z (.int .i64) (z:Int)))], [(22, .arr (.st (.pair (.st (.pair .bool (.slice (.int .u32)))) (.st (.pair .bool (.slice (.int .u32)))))) 91 (aI ((an p).take z|>.map fun c=>c/aG (an p))))]⟩:aa)) (fun z=>z<=p.length) (fun z=>p.length-z) 0 ?_ ?_ ?_
 ·refine q_l ?_
  exact⟨rfl,by unfold ioB;omega,rfl⟩
 ·omega
 ·rintro k g1
  try dsimp only at g1
  refine s_g hG ?_
  refine ak ?_
  refine aq ?_ ?_
  ·intro hb0
   try simp only[bt] at hb0
   obtain⟨m1,m2,m3,m4,m5,m6⟩:=Kd hC (k:=k) (by omega)
   refine ar ?_
   refine ah ?_
   refine ak ?_
   refine au ?_
   refine s_q hG ?_ ?_
   ·try simp only[ba]
    exact⟨by omega,hb0⟩
   refine ye 22 78 (by simp only[aa.toRow,LV.toRow,ioB,mx0,mx1,mx2,mx3,mx4,mx5,mx6,Nat.reduceLT,Nat.reduceEqDiff,Nat.reduceAdd,Nat.reduceMul,Nat.reduceSub,Nat.reduceLeDiff,Nat.reduceBEq,Nat.reduceBNe,reduceIte,reduceDIte,reduceCtorEq];rfl) ?_
   refine gL hG ?_ ?_
   ·try simp only[ba]
    simp only[pe2]
    rw[m1,m2]
    exact⟨m3,⟨m4,by rw[aN];exact m5⟩,rfl,m6⟩
   refine aQ ?_
   refine ah ?_
   refine qL 22 1 (by simp only[aa.ofRow,LV.ofRow,ioB,List.set_cons_zero,List.set_cons_succ,List.append_nil,List.nil_append,List.cons_append,List.getElem?_cons_zero,List.getElem?_cons_succ,Option.getD_some,mx0,mx1,mx2,mx3,mx4,mx5,mx6,Nat.reduceLT,Nat.reduceEqDiff,Nat.reduceAdd,Nat.reduceMul,Nat.reduceSub,Nat.reduceLeDiff,Nat.reduceBEq,Nat.reduceBNe,reduceIte,reduceDIte,reduceCtorEq];rfl) ?_
   refine ag hG ?_ ?_
   ·first|trivial|omega|(simp;done)|(simp;omega)
   show ∃ z,_
   refine q_l ?_
   simp only[pe2]
   rw[m1,m2]
   simp only[aN]
   exact G3 hC (by omega)
  ·intro hb0
   try simp only[bf] at hb0
   refine bg ?_
   refine aE ?_
   refine ax ?_
   refine aw ?_
   refine ah ?_
   refine s_g hG ?_
   refine az ?_
   refine q_e [] ?_
   exact MM (by omega)
def qN(B:aj):Tab:={types:= [(3,(.int .i64)),(79,(.slice (.st (.pair (.st (.pair .bool (.slice (.int .u32)))) (.st (.pair .bool (.slice (.int .u32)))))))),(91,(.st (.pair (.st (.pair .bool (.slice (.int .u32)))) (.st (.pair .bool (.slice (.int .u32)))))))],elems:= [(79,91)],cons:= [(105,ep),(124,HP)],hint:= [],N:=24,base:=B}
theorem A4{B:aj}(hB:aC B):aK Tryz.prog (qN B):=⟨⟨tc ty3 (tc fN (tc ty91 (ae))),aR (by kernel_rfl) (af),by simp only[qN,ioB];omega⟩,aF (cc Tryz.func105 (lU hB) (cc Tryz.func124 (wo hB) (ay))),by kernel_rfl⟩
def jJ:Con:=fun l os=>match l,os with
 | [.z (.slice (.st (.pair (.st (.pair .bool (.slice (.int .u32)))) (.st (.pair .bool (.slice (.int .u32))))))) p], []=>some (Sz QH p/\p.length<=1000, [.z (.slice (.st (.pair (.st (.pair .bool (.slice (.int .u32)))) (.st (.pair .bool (.slice (.int .u32))))))) (aI (cy (an p)))], [])
 |_,_=>none
theorem wB{B:aj}(hB:aC B):Valid B Tryz.prog 77 jJ:=by
 refine ab (A4 hB).tab Tryz.func77 rfl rfl rfl ?_
 intro args os C rs os' hc hC
 unfold jJ at hc
 split at hc
 case h_2=>cases hc
 rename_i p
 cases hc
 refine v_h (A4 hB) fun X hP hT hr hG=> ?_
 have hU:=qN.eq_1
 unfold qN at hT
 have hX:=ai @ep.eq_1<| @HP.eq_1
 simp only[Tryz.f77,aD,al,ioB]
 have hl:p.length<=1000:=hC.2
 refine s_g hG ?_
 refine s_g hG ?_
 refine ak ?_
 refine s_g hG ?_
 refine au ?_
 refine br (fun(z:Nat)=>(⟨[(3, .l (.ownS 21)),(6, .l (.z (.slice (.st (.pair (.st (.pair .bool (.slice (.int .u32)))) (.st (.pair .bool (.slice (.int .u32))))))) p)),(7, .l (.z (.int .i64) (p.length:Int))),(8, .l (.z (.int .i64) (z:Int)))], [(21, .arr (.st (.pair (.st (.pair .bool (.slice (.int .u32)))) (.st (.pair .bool (.slice (.int .u32)))))) 91 (aI (mF (an p) z)))]⟩:aa)) (fun z=>z<=p.length) (fun z=>p.length-z) 0 ?_ ?_ ?_
 ·refine q_l ?_
  exact⟨rfl,by unfold ioB;omega,rfl⟩
 ·omega
 ·rintro k g1
  try dsimp only at g1
  refine s_g hG ?_
  refine ak ?_
  refine aq ?_ ?_
  ·intro hb0
   try simp only[bt] at hb0
   obtain⟨m1,m2,m3,m4⟩:=Ke hC.1 hl (k:=k) (by omega)
   refine ar ?_
   refine ah ?_
   refine ak ?_
   refine au ?_
   refine s_q hG ?_ ?_
   ·try simp only[ba]
    exact⟨by omega,hb0⟩
   refine s_g hG ?_
   refine aq ?_ ?_
   ·intro hb1
    try simp only[bt] at hb1
    refine ye 21 78 (by simp only[aa.toRow,LV.toRow,ioB,mx0,mx1,mx2,mx3,mx4,mx5,mx6,Nat.reduceLT,Nat.reduceEqDiff,Nat.reduceAdd,Nat.reduceMul,Nat.reduceSub,Nat.reduceLeDiff,Nat.reduceBEq,Nat.reduceBNe,reduceIte,reduceDIte,reduceCtorEq];rfl) ?_
    refine gL hG ?_ ?_
    ·try simp only[ba]
     simp only[pe2]
     rw[m2]
     exact⟨m1,m3,rfl,m4⟩
    refine aQ ?_
    refine ah ?_
    first|refine qL 21 1 (by simp only[aa.ofRow,LV.ofRow,ioB,List.set_cons_zero,List.set_cons_succ,List.append_nil,List.nil_append,List.cons_append,List.getElem?_cons_zero,List.getElem?_cons_succ,Option.getD_some,mx0,mx1,mx2,mx3,mx4,mx5,mx6,Nat.reduceLT,Nat.reduceEqDiff,Nat.reduceAdd,Nat.reduceMul,Nat.reduceSub,Nat.reduceLeDiff,Nat.reduceBEq,Nat.reduceBNe,reduceIte,reduceDIte,reduceCtorEq];rfl) ?_|skip
    refine ag hG ?_ ?_
    ·first|trivial|omega|(simp;done)|(simp;omega)
    show ∃ z,_
    refine q_l ?_
    first|exact zE hl (by omega) (by omega)|(simp only[pe2];rw[m2];simp only[aN];exact vw hl (by omega) (by omega))
   ·intro hb1
    try simp only[bf] at hb1
    refine ar ?_
    refine aQ ?_
    refine ah ?_
    first|refine qL 21 1 (by simp only[aa.ofRow,LV.ofRow,ioB,List.set_cons_zero,List.set_cons_succ,List.append_nil,List.nil_append,List.cons_append,List.getElem?_cons_zero,List.getElem?_cons_succ,Option.getD_some,mx0,mx1,mx2,mx3,mx4,mx5,mx6,Nat.reduceLT,Nat.reduceEqDiff,Nat.reduceAdd,Nat.reduceMul,Nat.reduceSub,Nat.reduceLeDiff,Nat.reduceBEq,Nat.reduceBNe,reduceIte,reduceDIte,reduceCtorEq];rfl) ?_|skip
    refine ag hG ?_ ?_
    ·first|trivial|omega|(simp;done)|(simp;omega)
    show ∃ z,_
    refine q_l ?_
    first|exact zE hl (by omega) (by omega)|(simp only[pe2];rw[m2];simp only[aN];exact vw hl (by omega) (by omega))
  ·intro hb0
   try simp only[bf] at hb0
   refine bg ?_
   refine aE ?_
   refine ax ?_
   refine aw ?_
   refine ah ?_
   refine s_g hG ?_
   refine az ?_
   refine q_e [] ?_
   rw[show k=(an p).length by rw[aL];omega];rfl
end Go.Proofs.YtdojbabpnaifoaaGreatDoor
end
section
namespace Go.Proofs
open Go.RowKit Go.Cm Go.Shelf
attribute [local go_sem] Oper.semAt_some
set_option maxHeartbeats 2000000 in
set_option maxRecDepth 100000 in
theorem Dt(ad:Addr)(n c:Nat)(news:List Value)(w:World)(hl:news.length=n*4)(hn:n<=maxLen)(hbig:n*64<=140737488355328)
  (hc:∀ j u,news[j]? =some u->w.cell? (ad.add j)=some u) (h1:∀ u∈news,u.oneCell'=true):
  Calls Tryz.prog 118 #[.slice (some ad) n c] w fun e w'=>∃ v',e= .returned v'/\w'.ownsRow w.heap.size 91 4 v' n news/\Below w.heap.size w w':=by
 have t4:=Tryz.underlying4
 have a4:=Tryz.isAgg4
 have z4:=Tryz.sizeOf4
 have v4:=Tryz.zeroValue4
 have t22:=Tryz.underlying79
 have a22:=Tryz.isAgg79
 have z22:=Tryz.sizeOf79
 have v22:=Tryz.zeroValue79
 obtain⟨i0,hi,hz0,hz1,hz2⟩:=info_parts (show (Tryz.prog.info? 91).map (fun i=>(i.zero,i.size,i.bytes))=some (some (.agg zc4.toArray),4,64) by kernel_rfl)
 have q22:∀ (w:World) (a:Option Addr) (n c n' c':Nat),(binOp .eql 79 (.slice a n c) (.slice none n' c')).run Tryz.prog w= .ok (.bool a.isNone) w:=fun w a n c n' c'=>Lib.run_eql_slice_nil w _ _ a n c n' c' t22
 have u22:∀ w,Sem.run Tryz.prog (underlying 79) w= .ok (TypeDesc.slice 91) w:=run_underlying t22
 have z23:∀ w,(Go.sizeOf 91).run Tryz.prog w= .ok 4 w:=fun w=>by simp[Go.sizeOf,typeInfo,hi,hz1]
 have A:Aside (∀ j u,news[j]? =some u->w.cell? (ad.add j)=some u):=hc
 clear hc
 go_enter Tryz.func118,Tryz.ntmps118
 go_wp2_with (at_builtin;refine wpList_append_own _ rfl _ _ 79 rfl w.heap.size 91 i0 (.agg zc4.toArray) 4 64 t22 hi hz0 hz1 hz2 rfl (by omega) _ _ _ rfl (World.ownsRow_made w #[] 0 (Nat.le_refl _) (Nat.zero_le _) (by simp)) ad n c news rfl ?qc1 ?qc2 ?qc3 ?qc4 ?qc5 ?qc6 ?_)
 case qc1=>exact hl
 case qc2=>
  intro j u hj
  exact Lib.cell?_alloc_some _ (A.out j u hj)
 case qc3=>exact h1
 case qc4=>rw[Nat.zero_add];exact hn
 case qc5=>rw[Nat.zero_add];exact hbig
 case qc6=>simp
 intro v' w1 hown hgrow hnil
 go_wp2
 go_ret
 refine⟨v',rfl,by simpa using hown,?_⟩
 exact((Below.refl _ w).alloc (Nat.le_refl _) _).grown hgrow (by simp) (by intro k hk;simp[Value.ownBlock] at hk;omega)
set_option maxHeartbeats 1000000 in
theorem HZ(n c:Nat)(w:World):Calls Tryz.prog 118 #[.slice none n c] w fun e w'=>e= .returned (.slice none 0 0)/\w'=w:=by
 have t4:=Tryz.underlying4
 have a4:=Tryz.isAgg4
 have z4:=Tryz.sizeOf4
 have v4:=Tryz.zeroValue4
 have t22:=Tryz.underlying79
 have a22:=Tryz.isAgg79
 have z22:=Tryz.sizeOf79
 have v22:=Tryz.zeroValue79
 have q22:∀ (w:World) (a:Option Addr) (n c n' c':Nat),(binOp .eql 79 (.slice a n c) (.slice none n' c')).run Tryz.prog w= .ok (.bool a.isNone) w:=fun w a n c n' c'=>Lib.run_eql_slice_nil w _ _ a n c n' c' t22
 go_enter Tryz.func118,Tryz.ntmps118
 go_wp2
 go_ret
 exact⟨rfl,rfl⟩
def c9:Con:=fun l os=>match l,os with
 | [.z (.slice (.st (.pair (.st (.pair .bool (.slice (.int .u32)))) (.st (.pair .bool (.slice (.int .u32))))))) xs], []=>some (xs.length<=QL, [.own (.st (.pair (.st (.pair .bool (.slice (.int .u32)))) (.st (.pair .bool (.slice (.int .u32)))))) 91 xs], [])
 |_,_=>none
theorem H0{B:aj}(hB:aC B):Valid B Tryz.prog 118 c9:=by
 intro args os C rs os' hc hC O w vals ρ0 hOn hIo hO hOI hargs hown hap
 unfold c9 at hc
 split at hc
 case h_2=>cases hc
 rename_i xs
 cases hc
 obtain⟨u,rfl,hu⟩:=pT hargs
 obtain⟨cells,hr,h⟩:=ig hu
 have hl:=bH (fun c x h=>NT.rep_length h) hr
 have hC:xs.length<=1000000000:=hC
 have hmove:∀ w':World,Below w.heap.size w w'->∀ H:Nat->Prop,(∀ b,b<w.heap.size->H b->O b)->cJ (fun c x=>NT.rep H w' c x) cells xs:=
  fun w' hb H hH=>aV (fun b hlt hb=> .inl (hH b hlt hb)) (fun b _ hlt=>hb.block b (cV hlt)) hr
 rcases h with⟨rfl,h0,rfl⟩|⟨ad,c,rfl,hc⟩
 ·refine(HZ 0 0 w).mono fun e w' ⟨he,hw⟩=> ?_
  subst he;subst hw
  exact xp hO (Below.refl _ _) ⟨_,_,_,rfl⟩ (hmove _ (Below.refl _ _)) ⟨by simp[h0], .inl ⟨rfl,h0⟩⟩
 ·refine(Dt ad xs.length c cells w hl (by unfold maxLen;omega) (by omega) hc (eM hr)).mono fun e w' ⟨v',he,hrow,hb⟩=> ?_
  subst he
  obtain⟨h1,h2⟩:=hrow
  refine xp hO hb ?_ (hmove _ hb) ⟨h1,?_⟩
  ·rcases h2 with⟨rfl,_⟩|⟨g,cap,cur,rfl,_⟩<;>exact⟨_,_,_,rfl⟩
  ·rcases h2 with h2|⟨g,cap,cur,e1,e2,e3,e4,e5,e6,e7⟩
   ·exact .inl h2
   ·exact .inr ⟨g,cap,cur,e1,e2,e3,e4,e5,by rw[e6];exact Nat.le_refl _,e7⟩
end Go.Proofs
end
section
namespace Go.Proofs.YtdojbabpnaifoaaGreatDoor
open Go Go.Cm Go.Proofs
def cZ(B:aj):Tab:={types:= [(3,(.int .i64)),(79,(.slice (.st (.pair (.st (.pair .bool (.slice (.int .u32)))) (.st (.pair .bool (.slice (.int .u32)))))))),(91,(.st (.pair (.st (.pair .bool (.slice (.int .u32)))) (.st (.pair .bool (.slice (.int .u32)))))))],elems:= [(79,91)],cons:= [(60,fu),(82,fY),(105,ep),(112,fp),(113,et),(118,c9),(119,fv)],hint:= [],N:=78,io:= [(82, [0])],frees:= [(82, [0])],base:=B}
theorem A5{B:aj}(hB:aC B):aK Tryz.prog (cZ B):=⟨⟨tc ty3 (tc fN (tc ty91 (ae))),aR (by kernel_rfl) (af),by simp only[cZ,ioB];omega⟩,aF (cc Tryz.func60 (wk hB) (cc Tryz.func82 (HY hB) (cc Tryz.func105 (lU hB) (cc Tryz.func112 (vy hB) (cc Tryz.func113 (lV hB) (cc Tryz.func118 (H0 hB) (cc Tryz.func119 (wm hB) (ay)))))))),by kernel_rfl⟩
def pN:Con:=fun l os=>match l,os with
 | [.z (.slice (.st (.pair (.st (.pair .bool (.slice (.int .u32)))) (.st (.pair .bool (.slice (.int .u32))))))) p, .z (.slice (.st (.pair (.st (.pair .bool (.slice (.int .u32)))) (.st (.pair .bool (.slice (.int .u32))))))) q], []=>some (fo p q, [.z (.slice (.st (.pair (.st (.pair .bool (.slice (.int .u32)))) (.st (.pair .bool (.slice (.int .u32))))))) (aI (divN (an p) (an q)).1), .own (.st (.pair (.st (.pair .bool (.slice (.int .u32)))) (.st (.pair .bool (.slice (.int .u32)))))) 91 (aI (divN (an p) (an q)).2)], [])
 |_,_=>none
theorem oO{B:aj}(hB:aC B):Valid B Tryz.prog 68 pN:=by
 refine ab (A5 hB).tab Tryz.func68 rfl rfl rfl ?_
 intro args os C rs os' hc hC
 unfold pN at hc
 split at hc
 case h_2=>cases hc
 rename_i p q
 cases hc
 refine v_h (A5 hB) fun X hP hT hr hG=> ?_
 have hU:=cZ.eq_1
 unfold cZ at hT
 have hX:=ai @c9.eq_1<|ai @fv.eq_1<|ai @ep.eq_1<|ai @fu.eq_1<|ai @fp.eq_1<|ai @fY.eq_1<|ai @et.eq_1<|ai @bX.eq_def<| @cj.eq_def
 simp only[Tryz.f68,aD,al,ioB]
 refine ak ?_
 have hl1:=hC.l1
 have hl2:=hC.l2
 have h0:=hC.h0
 obtain⟨v1,v2,v3⟩:=OD hC
 refine cG hG (by simp only[hT,cZ,bX.eq_def,cj.eq_def,c9,fv,ep,fu,fp,fY,et,mx0,mx1,mx2,mx3,mx4,mx5,mx6,aU,bm,bI,aY,bl,Ty.fieldTy,Ty.fieldOf,Nat.reduceLT,Nat.reduceEqDiff,Nat.reduceAdd,Nat.reduceMul,Nat.reduceSub,Nat.reduceLeDiff,Nat.reduceBEq,Nat.reduceBNe,reduceIte,reduceDIte,reduceCtorEq];rfl) ?_ ?_
 ·first|trivial|omega|(simp;done)|(simp;omega)
 refine ah ?_
 refine ak ?_
 refine cG hG (by simp only[hT,cZ,bX.eq_def,cj.eq_def,c9,fv,ep,fu,fp,fY,et,mx0,mx1,mx2,mx3,mx4,mx5,mx6,aU,bm,bI,aY,bl,Ty.fieldTy,Ty.fieldOf,Nat.reduceLT,Nat.reduceEqDiff,Nat.reduceAdd,Nat.reduceMul,Nat.reduceSub,Nat.reduceLeDiff,Nat.reduceBEq,Nat.reduceBNe,reduceIte,reduceDIte,reduceCtorEq];rfl) ?_ ?_
 ·try simp only[ba]
  show p.length<=1000000000
  omega
 refine ah ?_
 refine ak ?_
 refine cG hG (by simp only[hT,cZ,bX.eq_def,cj.eq_def,c9,fv,ep,fu,fp,fY,et,mx0,mx1,mx2,mx3,mx4,mx5,mx6,aU,bm,bI,aY,bl,Ty.fieldTy,Ty.fieldOf,Nat.reduceLT,Nat.reduceEqDiff,Nat.reduceAdd,Nat.reduceMul,Nat.reduceSub,Nat.reduceLeDiff,Nat.reduceBEq,Nat.reduceBNe,reduceIte,reduceDIte,reduceCtorEq];rfl) ?_ ?_
 ·try simp only[ba]
  rw[v1]
  exact⟨v2,v3⟩
 refine ah ?_
 refine ak ?_
 refine au ?_
 refine Jc 1104 1600 (by simp only[hT,cZ,mx0,mx1,mx2,mx3,mx4,mx5,mx6,Nat.reduceLT,Nat.reduceEqDiff,Nat.reduceAdd,Nat.reduceMul,Nat.reduceSub,Nat.reduceLeDiff,Nat.reduceBEq,Nat.reduceBNe,reduceIte,reduceDIte,reduceCtorEq];rfl) ?_
 refine br (fun(z:Nat×List Rat×List Rat)=>(⟨[(0, .l (.z (.slice (.st (.pair (.st (.pair .bool (.slice (.int .u32)))) (.st (.pair .bool (.slice (.int .u32))))))) p)),(1, .l (.z (.slice (.st (.pair (.st (.pair .bool (.slice (.int .u32)))) (.st (.pair .bool (.slice (.int .u32))))))) q)),(6, .l (.ownS 1600)),(7, .l (.ownS 1184))], [(1600, .arr (.st (.pair (.st (.pair .bool (.slice (.int .u32)))) (.st (.pair .bool (.slice (.int .u32)))))) 91 (aI z.2.1)),(1184, .arr (.st (.pair (.st (.pair .bool (.slice (.int .u32)))) (.st (.pair .bool (.slice (.int .u32)))))) 91 (aI z.2.2))]⟩:aa)) (fun z=>DivPhi p q z.1 z.2.1 z.2.2) (fun z=>z.2.1.length) (p.length+1,an p,List.replicate (p.length+1-q.length) 0) ?_ ?_ ?_
 ·refine q_l ?_
  rw[v1,Int.toNat_natCast,hC.enc,zC]
  exact⟨rfl,rfl⟩
 ·exact div_start hC
 ·rintro⟨n,r,s⟩ hz
  try dsimp only at hz
  refine ak ?_
  refine ak ?_
  refine cG hG (by simp only[hT,cZ,bX.eq_def,cj.eq_def,c9,fv,ep,fu,fp,fY,et,mx0,mx1,mx2,mx3,mx4,mx5,mx6,aU,bm,bI,aY,bl,Ty.fieldTy,Ty.fieldOf,Nat.reduceLT,Nat.reduceEqDiff,Nat.reduceAdd,Nat.reduceMul,Nat.reduceSub,Nat.reduceLeDiff,Nat.reduceBEq,Nat.reduceBNe,reduceIte,reduceDIte,reduceCtorEq];rfl) ?_ ?_
  ·first|trivial|omega|(simp;done)|(simp;omega)
  refine ah ?_
  refine aq ?_ ?_
  ·intro hb0
   try simp only[bt] at hb0
   have hle:q.length<=r.length:=by have h9:(q.length:Int)<=((aI r).length:Int):=hb0;rw[aA] at h9;omega
   obtain⟨w1,w2,n1,n2,n3⟩:=Kh hC hz hle
   have hk:=Pi hC hz hle
   refine ar ?_
   refine ah ?_
   refine au ?_
   refine ak ?_
   refine cG hG (by simp only[hT,cZ,bX.eq_def,cj.eq_def,c9,fv,ep,fu,fp,fY,et,mx0,mx1,mx2,mx3,mx4,mx5,mx6,aU,bm,bI,aY,bl,Ty.fieldTy,Ty.fieldOf,Nat.reduceLT,Nat.reduceEqDiff,Nat.reduceAdd,Nat.reduceMul,Nat.reduceSub,Nat.reduceLeDiff,Nat.reduceBEq,Nat.reduceBNe,reduceIte,reduceDIte,reduceCtorEq];rfl) ?_ ?_
   ·first|trivial|omega|(simp;done)|(simp;omega)
   refine ah ?_
   refine ak ?_
   refine sM hG (by simp only[hT,mt0,cZ,bX.eq_def,cj.eq_def,c9,fv,ep,fu,fp,fY,et,mx0,mx1,mx2,mx3,mx4,mx5,mx6,aU,bm,bI,aY,bl,Ty.fieldTy,Ty.fieldOf,Nat.reduceLT,Nat.reduceEqDiff,Nat.reduceAdd,Nat.reduceMul,Nat.reduceSub,Nat.reduceLeDiff,Nat.reduceBEq,Nat.reduceBNe,reduceIte,reduceDIte,reduceCtorEq];rfl) (by kernel_rfl) (by rfl) (by rfl) ?_ ?_
   ·try simp only[ba]
    simp only[w1,w2,Int.toNat_natCast,n1,n2]
    exact G5 hC hz hle
   refine ah ?_
   refine ak ?_
   refine cG hG (by simp only[hT,cZ,bX.eq_def,cj.eq_def,c9,fv,ep,fu,fp,fY,et,mx0,mx1,mx2,mx3,mx4,mx5,mx6,aU,bm,bI,aY,bl,Ty.fieldTy,Ty.fieldOf,Nat.reduceLT,Nat.reduceEqDiff,Nat.reduceAdd,Nat.reduceMul,Nat.reduceSub,Nat.reduceLeDiff,Nat.reduceBEq,Nat.reduceBNe,reduceIte,reduceDIte,reduceCtorEq];rfl) ?_ ?_
   ·try simp only[ba]
    simp only[hk,Int.toNat_natCast]
    exact⟨⟨(xm hC hz hle).1,(xm hC hz hle).2.1⟩,(xm hC hz hle).2.2⟩
   refine ah ?_
   refine ak ?_
   refine ak ?_
   refine cG hG (by simp only[hT,cZ,bX.eq_def,cj.eq_def,c9,fv,ep,fu,fp,fY,et,mx0,mx1,mx2,mx3,mx4,mx5,mx6,aU,bm,bI,aY,bl,Ty.fieldTy,Ty.fieldOf,Nat.reduceLT,Nat.reduceEqDiff,Nat.reduceAdd,Nat.reduceMul,Nat.reduceSub,Nat.reduceLeDiff,Nat.reduceBEq,Nat.reduceBNe,reduceIte,reduceDIte,reduceCtorEq];rfl) ?_ ?_
   ·first|trivial|omega|(simp;done)|(simp;omega)
   refine ah ?_
   refine au ?_
   refine br (fun(z:Nat)=>(⟨[(0, .l (.z (.slice (.st (.pair (.st (.pair .bool (.slice (.int .u32)))) (.st (.pair .bool (.slice (.int .u32))))))) p)),(1, .l (.z (.slice (.st (.pair (.st (.pair .bool (.slice (.int .u32)))) (.st (.pair .bool (.slice (.int .u32))))))) q)),(6, .l (.ownS 1600)),(7, .l (.ownS 1184)),(8, .l (.z (.int .i64) ((r.length-q.length:Nat):Int))),(9, .l (.ownP 9 0)),(51, .l (.z (.slice (.st (.pair (.st (.pair .bool (.slice (.int .u32)))) (.st (.pair .bool (.slice (.int .u32))))))) q)),(52, .l (.z (.int .i64) (q.length:Int))),(53, .l (.z (.int .i64) (z:Int)))], [(1600, .arr (.st (.pair (.st (.pair .bool (.slice (.int .u32)))) (.st (.pair .bool (.slice (.int .u32)))))) 91 (aI (cB r (r.length-q.length) (-(aG r/aG (an q))) (an q) z))),(1184, .arr (.st (.pair (.st (.pair .bool (.slice (.int .u32)))) (.st (.pair .bool (.slice (.int .u32)))))) 91 (aI (s.set (r.length-q.length) (aG r/aG (an q))))),(9, .box 91 [.z .bool (bk (aG r/aG (an q))).1.1, .z (.slice (.int .u32)) (bk (aG r/aG (an q))).1.2, .z .bool (bk (aG r/aG (an q))).2.1, .z (.slice (.int .u32)) (bk (aG r/aG (an q))).2.2])]⟩:aa)) (fun z=>z<=q.length) (fun z=>q.length-z) 0 ?_ ?_ ?_
   ·refine q_l ?_
    simp only[hk,w1,w2,Int.toNat_natCast,pe2,n1,n2,aN,tF,cB,true_and,and_true,and_self]
    rfl
   ·omega
   ·rintro i g1
    try dsimp only at g1
    refine ak ?_
    refine cG hG (by simp only[hT,cZ,bX.eq_def,cj.eq_def,c9,fv,ep,fu,fp,fY,et,mx0,mx1,mx2,mx3,mx4,mx5,mx6,aU,bm,bI,aY,bl,Ty.fieldTy,Ty.fieldOf,Nat.reduceLT,Nat.reduceEqDiff,Nat.reduceAdd,Nat.reduceMul,Nat.reduceSub,Nat.reduceLeDiff,Nat.reduceBEq,Nat.reduceBNe,reduceIte,reduceDIte,reduceCtorEq];rfl) ?_ ?_
    ·first|trivial|omega|(simp;done)|(simp;omega)
    refine ah ?_
    refine ak ?_
    refine aq ?_ ?_
    ·intro hb1
     try simp only[bt] at hb1
     have hi:i<q.length:=by have h9:(i:Int)<(q.length:Int):=hb1;omega
     obtain⟨u1,u2,u3,u4,u5,u6⟩:=Kf hC hz hle hi
     refine ar ?_
     refine ah ?_
     refine ak ?_
     refine au ?_
     refine ak ?_
     refine cG hG (by simp only[hT,cZ,bX.eq_def,cj.eq_def,c9,fv,ep,fu,fp,fY,et,mx0,mx1,mx2,mx3,mx4,mx5,mx6,aU,bm,bI,aY,bl,Ty.fieldTy,Ty.fieldOf,Nat.reduceLT,Nat.reduceEqDiff,Nat.reduceAdd,Nat.reduceMul,Nat.reduceSub,Nat.reduceLeDiff,Nat.reduceBEq,Nat.reduceBNe,reduceIte,reduceDIte,reduceCtorEq];rfl) ?_ ?_
     ·try simp only[ba]
      exact⟨by omega,hb1⟩
     refine ah ?_
     refine sM hG (by simp only[hT,mt0,cZ,bX.eq_def,cj.eq_def,c9,fv,ep,fu,fp,fY,et,mx0,mx1,mx2,mx3,mx4,mx5,mx6,aU,bm,bI,aY,bl,Ty.fieldTy,Ty.fieldOf,Nat.reduceLT,Nat.reduceEqDiff,Nat.reduceAdd,Nat.reduceMul,Nat.reduceSub,Nat.reduceLeDiff,Nat.reduceBEq,Nat.reduceBNe,reduceIte,reduceDIte,reduceCtorEq];rfl) (by kernel_rfl) (by rfl) (by rfl) ?_ ?_
     ·try simp only[ba]
      simp only[pe2,u1,u3,u4,Int.toNat_natCast,aN]
      exact G6 hC hz hle hi
     refine aQ ?_
     refine ah ?_
     refine cG hG (by simp only[hT,cZ,bX.eq_def,cj.eq_def,c9,fv,ep,fu,fp,fY,et,mx0,mx1,mx2,mx3,mx4,mx5,mx6,aU,bm,bI,aY,bl,Ty.fieldTy,Ty.fieldOf,Nat.reduceLT,Nat.reduceEqDiff,Nat.reduceAdd,Nat.reduceMul,Nat.reduceSub,Nat.reduceLeDiff,Nat.reduceBEq,Nat.reduceBNe,reduceIte,reduceDIte,reduceCtorEq];rfl) ?_ ?_
     ·first|trivial|omega|(simp;done)|(simp;omega)
     show ∃ z,_
     refine q_l ?_
     simp only[pe2,u1,u3,u4,Int.toNat_natCast,aN,MO]
     exact Ki (n:=n) (s:=s) hC hi
    ·intro hb1
     try simp only[bf] at hb1
     have hi:i=q.length:=by have h9: ¬ (i:Int)<(q.length:Int):=hb1;omega
     refine bg ?_
     refine aE ?_
     refine ax ?_
     refine aw ?_
     refine ah ?_
     refine cG hG (by simp only[hT,cZ,bX.eq_def,cj.eq_def,c9,fv,ep,fu,fp,fY,et,mx0,mx1,mx2,mx3,mx4,mx5,mx6,aU,bm,bI,aY,bl,Ty.fieldTy,Ty.fieldOf,Nat.reduceLT,Nat.reduceEqDiff,Nat.reduceAdd,Nat.reduceMul,Nat.reduceSub,Nat.reduceLeDiff,Nat.reduceBEq,Nat.reduceBNe,reduceIte,reduceDIte,reduceCtorEq];rfl) ?_ ?_
     ·try simp only[ba]
      rw[Et (p:=p) (n:=n) (s:=s) hi]
      exact Kg hC hz hle
     refine aQ ?_
     show ∃ z,_
     refine q_l ?_
     obtain⟨m,hm⟩:=div_next hC hz hle
     exact⟨m,aS (cu (an q) r),by rw[Et (p:=p) (n:=n) (s:=s) hi,aH],_,rfl,hm,fg (by rw[aL];exact h0) (by rw[aL];exact hle) hC.hl⟩
  ·intro hb0
   try simp only[bf] at hb0
   have hle: ¬q.length<=r.length:=by have h9: ¬ (q.length:Int)<=((aI r).length:Int):=hb0;rw[aA] at h9;omega
   have he:=div_end hz hle
   refine bg ?_
   refine aE ?_
   refine ax ?_
   refine aw ?_
   refine ah ?_
   refine ak ?_
   refine cG hG (by simp only[hT,cZ,bX.eq_def,cj.eq_def,c9,fv,ep,fu,fp,fY,et,mx0,mx1,mx2,mx3,mx4,mx5,mx6,aU,bm,bI,aY,bl,Ty.fieldTy,Ty.fieldOf,Nat.reduceLT,Nat.reduceEqDiff,Nat.reduceAdd,Nat.reduceMul,Nat.reduceSub,Nat.reduceLeDiff,Nat.reduceBEq,Nat.reduceBNe,reduceIte,reduceDIte,reduceCtorEq];rfl) ?_ ?_
   ·first|trivial|omega|(simp;done)|(simp;omega)
   refine ah ?_
   refine az ?_
   refine q_e [] ?_
   rw[<- he]
   exact⟨rfl,trivial,rfl⟩
def qO(B:aj):Tab:={types:= [(3,(.int .i64)),(79,(.slice (.st (.pair (.st (.pair .bool (.slice (.int .u32)))) (.st (.pair .bool (.slice (.int .u32))))))))],elems:= [],cons:= [(68,pN),(120,oN)],hint:= [13],N:=21,base:=B}
theorem A6{B:aj}(hB:aC B):aK Tryz.prog (qO B):=⟨⟨tc ty3 (tc fN (ae)),af,by simp only[qO,ioB];omega⟩,aF (cc Tryz.func68 (oO hB) (cc Tryz.func120 (wA hB) (ay))),by kernel_rfl⟩
def lX:Con:=fun l os=>match l,os with
 | [.z (.slice (.st (.pair (.st (.pair .bool (.slice (.int .u32)))) (.st (.pair .bool (.slice (.int .u32))))))) p, .z (.slice (.st (.pair (.st (.pair .bool (.slice (.int .u32)))) (.st (.pair .bool (.slice (.int .u32))))))) q], []=>some (fX p q, [.z (.slice (.st (.pair (.st (.pair .bool (.slice (.int .u32)))) (.st (.pair .bool (.slice (.int .u32))))))) (aI (bw (an p) (an q)))], [])
 |_,_=>none
theorem wC{B:aj}(hB:aC B):Valid B Tryz.prog 70 lX:=by
 refine ab (A6 hB).tab Tryz.func70 rfl rfl rfl ?_
 intro args os C rs os' hc hC
 unfold lX at hc
 split at hc
 case h_2=>cases hc
 rename_i p q
 cases hc
 refine v_h (A6 hB) fun X hP hT hr hG=> ?_
 have hU:=qO.eq_1
 unfold qO at hT
 have hX:=ai @oN.eq_1<| @pN.eq_1
 simp only[Tryz.f70,aD,al,ioB]
 refine s_g hG ?_
 refine ak ?_
 refine au ?_
 refine br (fun(z:Nat×List Rat×List Rat)=>(⟨[(0, .l (.z (.slice (.st (.pair (.st (.pair .bool (.slice (.int .u32)))) (.st (.pair .bool (.slice (.int .u32))))))) (aI z.2.1))),(1, .l (.z (.slice (.st (.pair (.st (.pair .bool (.slice (.int .u32)))) (.st (.pair .bool (.slice (.int .u32))))))) (aI z.2.2)))], []⟩:aa)) (fun z=>tM p q z.1 z.2.1 z.2.2) (fun z=>z.2.2.length) (q.length+1,an p,an q) ?_ ?_ ?_
 ·refine q_l ?_
  rw[xn hC.hp,xn hC.hq]
  exact⟨rfl,rfl⟩
 ·exact G7 hC
 ·rintro⟨n,a,b⟩ hz
  try dsimp only at hz
  refine ak ?_
  refine s_g hG ?_
  refine aq ?_ ?_
  ·intro hb0
   try simp only[bt] at hb0
   have hl:0<b.length:=by have h9:(0:Int)<((aI b).length:Int):=hb0;rw[aA] at h9;omega
   obtain⟨d1,d2,⟨m,d3⟩,d4⟩:=Kj hz hl
   refine ar ?_
   refine ah ?_
   refine au ?_
   refine s_q hG ?_ ?_
   ·try simp only[ba]
    exact d1
   refine ag hG ?_ ?_
   ·try simp only[ba]
    rw[aH,aH]
    exact d2
   refine aQ ?_
   show ∃ z,_
   refine q_l ?_
   rw[aH,aH,aH]
   exact⟨m,b,rfl,_,rfl,d3,d4⟩
  ·intro hb0
   try simp only[bf] at hb0
   have hl: ¬0<b.length:=by have h9: ¬ (0:Int)<((aI b).length:Int):=hb0;rw[aA] at h9;omega
   obtain⟨d1,d2⟩:=MP hz hl
   refine bg ?_
   refine aE ?_
   refine ax ?_
   refine aw ?_
   refine ah ?_
   refine s_q hG ?_ ?_
   ·try simp only[ba]
    exact d1
   refine az ?_
   refine q_e [] ?_
   rw[aH,d2]
def qP(B:aj):Tab:={types:= [(3,(.int .i64)),(79,(.slice (.st (.pair (.st (.pair .bool (.slice (.int .u32)))) (.st (.pair .bool (.slice (.int .u32))))))))],elems:= [],cons:= [(68,pN),(70,lX),(77,jJ),(120,oN)],hint:= [14],N:=19,base:=B}
theorem A7{B:aj}(hB:aC B):aK Tryz.prog (qP B):=⟨⟨tc ty3 (tc fN (ae)),af,by simp only[qP,ioB];omega⟩,aF (cc Tryz.func68 (oO hB) (cc Tryz.func70 (wC hB) (cc Tryz.func77 (wB hB) (cc Tryz.func120 (wA hB) (ay))))),by kernel_rfl⟩
def qQ:Con:=fun l os=>match l,os with
 | [.z (.slice (.st (.pair (.st (.pair .bool (.slice (.int .u32)))) (.st (.pair .bool (.slice (.int .u32))))))) p], []=>some (me p, [.z (.slice (.st (.pair (.st (.pair .bool (.slice (.int .u32)))) (.st (.pair .bool (.slice (.int .u32))))))) (aI (cw (an p)))], [])
 |_,_=>none
theorem H1{B:aj}(hB:aC B):Valid B Tryz.prog 79 qQ:=by
 refine ab (A7 hB).tab Tryz.func79 rfl rfl rfl ?_
 intro args os C rs os' hc hC
 unfold qQ at hc
 split at hc
 case h_2=>cases hc
 rename_i p
 cases hc
 refine v_h (A7 hB) fun X hP hT hr hG=> ?_
 have hU:=qP.eq_1
 unfold qP at hT
 have hX:=ai @lX.eq_1<|ai @jJ.eq_1<|ai @oN.eq_1<| @pN.eq_1
 simp only[Tryz.f79,aD,al,ioB]
 refine s_g hG ?_
 refine ak ?_
 refine s_g hG ?_
 refine aq ?_ ?_
 ·intro hb0
  try simp only[bt] at hb0
  refine s_g hG ?_
  refine az ?_
  refine aB ?_
  refine q_e [] ?_
  have h9:(p.length:Int)=0:=hb0
  obtain rfl:p= []:=List.eq_nil_of_length_eq_zero (by omega)
  rfl
 ·intro hb0
  try simp only[bf] at hb0
  have hne:p≠ []:=by intro e;subst e;exact hb0 rfl
  obtain⟨c1,c2,c3,c4,c5⟩:=hC hne
  refine ar ?_
  refine ah ?_
  refine s_q hG ?_ ?_
  ·try simp only[ba]
   simp only[aH]
   exact⟨⟨c1,by omega⟩,c3,c4⟩
  refine s_q hG ?_ ?_
  ·try simp only[ba]
   simp only[aH]
   exact c5
  refine az ?_
  refine q_e [] ?_
  simp only[aH,cw,if_neg (show ¬an p= [] from fun e=>hne (by have:=congrArg List.length e;rw[aL] at this;exact List.eq_nil_of_length_eq_zero this))]
end Go.Proofs.YtdojbabpnaifoaaGreatDoor
end
section
namespace Go.Cm
open Go.RowKit
def wD:Code->Option (Nat×TypeId×Nat)
 | .region _ ops false=>match ops.toList with
  | [o1,o2]=>match o1.guard,o1.dst,o1.op,o2.guard,o2.dst,o2.op with
   |none,some d, .alloc T,none,none, .store T' (.tmp d') (.tmp p)=>if T=T'/\d'=d/\p≠d then some (d,T,p) else none
   |_,_,_,_,_,_=>none
  |_=>none
 |_=>none
theorem yf{H:Nat->Prop}{w:World}{ρ:Nat->Value}{cs:List LV}{vs:List Value}(h:bC (gI H w ρ) cs vs):∀ c∈vs,c.oneCell'=true:=by
 intro c hc
 obtain⟨i,hi,rfl⟩:=List.getElem_of_mem hc
 have hl:=h.length
 obtain⟨v,h1,h2⟩:=h.get (List.getElem?_eq_getElem (show i<cs.length by omega))
 rw[List.getElem?_eq_getElem hi] at h1
 cases h1
 exact h2.2
theorem LU{X:Cx}{r:Option Nat}{n:Nat}(c:Code){d:Nat}{T:TypeId}{p:Nat}{u:Ty}(h:wD c=some (d,T,p))(hT:cW X.P T u)(a:Act)(w:World)(hd:d<a.tmps.size)(hl:(a.eval (.tmp p)).cells.toList.length=u.w)(h1:∀ c∈(a.eval (.tmp p)).cells.toList,c.oneCell'=true):
  ∃ Wb:World,(∀ k,k<w.heap.size->Wb.heap[k]? =w.heap[k]?)/\Wb.heap[w.heap.size]? =some (.cells ((a.eval (.tmp p)).cells.toList).toArray T (0,0))/\Wb.heap.size=w.heap.size+1/\(Wb.os=w.os/\Wb.tape=w.tape/\Wb.output=w.output)/\
   ∀ {K:Act->World->Prop} {R:Exit->Act->World->Prop},K (a.put (some d) (.pointer (some ⟨w.heap.size,0,none⟩))) Wb->c.wpIn (fw r) n X.P (Exit.then K R) a w:=by
 cases c with
 |region id ops draw=>
  cases draw with
  |true=>simp[wD] at h
  |false=>
   simp only[wD] at h
   split at h
   case h_2=>cases h
   rename_i o1 o2 hops
   split at h
   case h_2=>cases h
   rename_i d0 T0 T' d' p' g1 e1 e2 g2 e3 e4
   split at h
   case isFalse=>cases h
   rename_i hc
   obtain⟨rfl,rfl,hpd⟩:=hc
   cases h
   have hz:=gb hT.leaf u.zeroCells u.zeroCells_length u.zeroCells_one
   have hrow:(w.alloc (.cells (mkV u.isAgg u.zeroCells).cells T)).heap[w.heap.size]? =some (.cells u.zeroCells.toArray T (0,0)):=by
    rw[heap_alloc_new];congr 2;apply Array.ext';simpa using hz
   have hst:=fk (P:=X.P) hT (v:=a.eval (.tmp p)) hrow hl h1 (o:=0) (by rw[u.zeroCells_length];omega)
   have hset:=dF hrow (new:=(a.eval (.tmp p)).cells.toList) (off:=0) (by rw[hl,u.zeroCells_length];omega)
   refine⟨(w.alloc (.cells (mkV u.isAgg u.zeroCells).cells T)).setCells w.heap.size 0 (a.eval (.tmp p)).cells.toList,fun k hk=> ?_,?_,?_,?_,?_⟩
   ·rw[ck _ _ _ _ (by omega)];exact cg w _ k hk
   ·rw[hset]
    have e0:u.zeroCells.drop (0+(a.eval (.tmp p)).cells.toList.length)= []:=List.drop_of_length_le (by rw[hl,u.zeroCells_length];omega)
    rw[e0];simp
   ·rw[l7,World.size_alloc]
   ·have hb:=Bel.setCells (M:=fun _=>True) (b:=w.heap.size) trivial (a.eval (.tmp p)).cells.toList 0 ((Bel.refl (fun _=>True) w).alloc (.cells (mkV u.isAgg u.zeroCells).cells T))
    exact⟨hb.os,hb.tape,hb.output⟩
   ·intro K R hk
    refine wpIn_region_list ?_
    rw[hops]
    have hw1:∀ t,Region.wanted o1 (yielded ops t)=true:=fun t=>by simp[Region.wanted,g1]
    have hw2:∀ t,Region.wanted o2 (yielded ops t)=true:=fun t=>by simp[Region.wanted,g2]
    simp only[wpListIn,hw1,if_true]
    refine bj (v:= .pointer (some ⟨w.heap.size,0,none⟩)) (w':=w.alloc (.cells (mkV u.isAgg u.zeroCells).cells T)) ?_ ?_
    ·unfold execOp;rw[e2];exact bz (uQ hT w)
    ·rw[e1]
     simp only[hw2,if_true]
     have hdv:(a.put (some d) (.pointer (some ⟨w.heap.size,0,none⟩))).eval (.tmp d)= .pointer (some ⟨w.heap.size,0,none⟩):=by
      simp[Act.eval,Act.put,hd]
     have hpv:(a.put (some d) (.pointer (some ⟨w.heap.size,0,none⟩))).eval (.tmp p)=a.eval (.tmp p):=by
      show (a.put (some d) _).tmps.getD p undef=a.tmps.getD p undef
      exact Act.getD_put_ne hpd
     refine gh (w':=(w.alloc (.cells (mkV u.isAgg u.zeroCells).cells T)).setCells w.heap.size 0 (a.eval (.tmp p)).cells.toList) ?_ ?_
     ·unfold execOp;rw[e4]
      simp only[hdv,hpv]
      simp[hst]
     ·rw[e3];exact hk
 |_=>simp[wD] at h
theorem Fits.freshO{X:Cx}{s:aa}{a:Act}{w w':World}{d:Nat}{obj:aO}{val:Value}{ρ:Nat->Value}(hf:Fits X s a w ρ)(hdB:d<ioB)
  (hkeep:∀ k,k<w.heap.size->w'.heap[k]? =w.heap[k]?) (hval:∀ b,Blk val b->w.heap.size<=b)
  (hobj:∀ H' ρ',(∀ b,b<w.heap.size->H' b->hot X.O ρ s.own b)->bh (hot X.O ρ s.own) w w'->(∀ i,i≠d->ρ' i=ρ i)->ρ' d=val->ca H' w' ρ' X.M (d,obj)):
  ∃ ρ',ρ' d=val/\(∀ i,i≠d->ρ' i=ρ i)/\Fits X {env:=bU (LV.kill d) s.env,own:=(d,obj)::bp (LV.kill d) (del s.own d)} a w' ρ':=by
 have hlt:=fun p hp b hb=>((hf.own p hp).lt (b:=b) hb).2
 have hs:bh (hot X.O ρ s.own) w w':=fun b _ hb=>hkeep b (cV hb)
 have hh:∀ b,b<w.heap.size->hot X.O (l5 ρ d val) ((d,obj)::bp (LV.kill d) (del s.own d)) b->hot X.O ρ s.own b:=by
  intro b hb h
  rcases h with h|⟨p,hp,hp2⟩
  ·exact .inl h
  ·rcases List.mem_cons.1 hp with rfl|hp
   ·simp only[cK] at hp2
    have:=hval b hp2;omega
   ·obtain⟨u,h1,_⟩:=bn hp
    have h2:=bN.1 h1
    rw[dt _ _ h2.2] at hp2
    exact dj h2.1 hp2
 have hρ:∀ i,i≠d->l5 ρ d val i=ρ i:=fun i hi=>dt _ _ hi
 refine⟨l5 ρ d val,cK _ _ _,hρ,hf.env_map (fun x v hx=>bd hh hs hρ hx) ?_ ?_ ?_⟩
 ·intro p hp
  rcases List.mem_cons.1 hp with rfl|hp
  ·exact hobj _ _ hh hs hρ (cK _ _ _)
  ·obtain⟨u,h1,h2⟩:=bn hp
   have h3:=bN.1 h1
   have:=(hf.own _ h3.1).move (f:=LV.kill d) (ρ':=l5 ρ d val) hh hs (fun x v hx=>bd hh hs hρ hx) (hρ _ h3.2) (fun b hb=>hkeep b (hlt _ h3.1 b hb))
   rw[<- h2] at this
   exact this
 ·intro p hp hB hF
  rcases List.mem_cons.1 hp with rfl|hp
  ·exact absurd hB (Nat.not_le.2 hdB)
  ·obtain⟨u,h1,_⟩:=bn hp
   have h3:=bN.1 h1
   rw[hρ _ h3.2]
   exact hf.io _ h3.1 hB hF
 ·rw[List.pairwise_cons]
  constructor
  ·intro q hq
   obtain⟨u,h1,_⟩:=bn hq
   have h3:=bN.1 h1
   refine⟨fun e=>h3.2 e.symm,fun b hb hq2=> ?_⟩
   rw[dt _ _ h3.2] at hq2
   simp only[cK] at hb
   have h4:=hval b hb
   have:=hlt _ h3.1 b hq2
   omega
  ·have hap:=cC (f:=LV.kill d) (fun i j=>i≠j/\∀ b,Blk (ρ i) b-> ¬Blk (ρ j) b) (cY (fun i j=>i≠j/\∀ b,Blk (ρ i) b-> ¬Blk (ρ j) b) (n:=d) hf.apart)
   refine hap.imp_of_mem fun {p q} hp hq hpq=> ?_
   obtain⟨_,h1,_⟩:=bn hp
   obtain⟨_,h2,_⟩:=bn hq
   rw[dt _ _ (bN.1 h1).2,dt _ _ (bN.1 h2).2]
   exact hpq
theorem H2{X:Cx}(hr:X.r=none){s:aa}{K:Exit->aa->Prop}{g:Operand}{ps:Array Tmp}{assign body:Code}{gf:FuncId}
  {items:List (List LV)} (henters:∀ args w,(callFunc gf args).run X.P w= .ok (.enter gf args) w) (hdata:∀ it∈items,it.length=ps.size/\it.all LV.isZ=true) {d pv:Nat} {TB:TypeId} {ub:Ty} (hasg:wD assign=some (d,TB,pv)) (hTb:cW X.P TB ub) (hdN:d<X.T.N) (ks:List Nat)
  (hk1:ks.all (fun t=> !ps.toList.contains t&&t !=d)=true) (hps:ps.toList.all (fun t=>decide (t<X.T.N))=true)
  {ι:Type} (f:Nat->ι->aa) (Φ:Nat->ι->Prop) (x₀:ι) (h₀:le s (f 0 x₀))
  (hseq:∀ (a:Act) (w:World) (ρ:Nat->Value),St X s a w->Fits X s a w ρ->(∀ b,hot X.O (cM ρ s.own) (f 0 x₀).own b->b<w.heap.size)->∃ (lb:List Value) (E:Nat->Prop),a.eval g= .func (.func gf) #[] lb.toArray/\(∀ b,E b->X.M b/\(∃ o:Obj,w.heap[b]? =some o/\o.isCells=true)/\ ¬hot X.O (cM ρ s.own) (f 0 x₀).own b/\hot X.O ρ s.own b)/\∃ enc:Nat->Array Value,
   (∀ k (hk:k<items.length),bC (aT (fun b=>hot X.O (cM ρ s.own) (f 0 x₀).own b∨E b) w (fun _=>undef)) items[k] (enc k).toList)/\uZ X.P gf lb.toArray enc items.length (yS (hot (fun _=>False) (cM ρ s.own) (f 0 x₀).own) w.heap.size) w E) (hΦ:Φ 0 x₀) (hks:∀ k x,(f k x).env.all (fun e=>ks.contains e.1)=true)
  (hround:∀ k (hk:k<items.length) (x:ι),Φ k x->∃ s1 v cs,aZ (dY (f k x) (ps.toList.zip items[k])) (.tmp pv)=some v/\v.cells=some cs/\cs.length=ub.w/\cs.all (fun c=> !c.isOf d)=true/\s1={env:=(d, .l (.ownP d 0))::del ((dY (f k x) (ps.toList.zip items[k])).kill d).env d,own:=(d, .box TB cs)::((dY (f k x) (ps.toList.zip items[k])).kill d).own}/\
   ∀ X':Cx,X'.P=X.P->X'.T={X.T with keep:=ks}->J X' body s1 (wY f Φ ks K k))
  (hdone:∀ x,Φ items.length x->K .normal (f items.length x)):J X (.rangeFunc g ps assign body) s K:=by
 intro a w hst
 obtain⟨ρ,hf⟩:=hst.fits
 have hHlt':∀ b,hot X.O (cM ρ s.own) (f 0 x₀).own b->b<w.heap.size:=fun b hb=>hf.hot_lt hst.others hst.below (mq h₀ hb)
 have hseq':=hseq a w ρ hst hf hHlt'
 obtain⟨H,hH⟩:∃ H,H=hot (fun _=>False) (cM ρ s.own) (f 0 x₀).own:=⟨_,rfl⟩
 have hHX:∀ b,H b->hot X.O (cM ρ s.own) (f 0 x₀).own b:=fun b hb=>by rw[hH] at hb;exact hb.elim False.elim .inr
 rw[<- hH] at hseq'
 obtain⟨lb,E,hlb1,hE,enc,henc,hsq⟩:=hseq'
 have hEM:=fun b hb=>(hE b hb).1
 have hEw:=fun b hb=>(hE b hb).2.1
 have hEH:∀ b,E b-> ¬H b:=fun b hb h=>(hE b hb).2.2.1 (hHX b h)
 have hw0:X.w0.heap.size<=w.heap.size:=hst.below.size
 have hout0:eF X a w H E (f 0 x₀) w (cM ρ s.own):=by
  have h1:Fits (XE X E) (f 0 x₀) a w (cM ρ s.own):=Fits.leO h₀ hf (fun b _ hb=>by
   rcases hb with(hb|hb)|hb
   ·exact .inl hb
   ·exact(hE b hb).2.2.2
   ·exact mq h₀ (.inr hb))
  exact⟨h1,hst.below,fun p hp b hb=> .inr (by rw[hH];exact dj hp hb),KeepsOthers.refl _,bh.refl _ _⟩
 refine wpIn_rangeFunc ?_
 intro fn hfn
 have hround0:(fw X.r).round=none:=by rw[hr];rfl
 rw[hround0]
 obtain⟨rec,hrec⟩:∃ rec:LoopState->Option Code->Loop,rec=fun st pe=>{state:=st,pending:=pe,fn,tmps:=a.tmps,params:=ps,assign,body,defers:=w.heap.size}:=⟨_,rfl⟩
 obtain⟨W1,hW1⟩:∃ W1,(w.alloc (.deferred (some []))).alloc (.loop (rec .ready none))=W1:=⟨_,rfl⟩
 have hsz1:W1.heap.size=w.heap.size+2:=by rw[<- hW1];simp
 have hL1:W1.heap[w.heap.size+1]? =some (.loop (rec .ready none)):=by
  rw[<- hW1];have:=World.alloc_heap_new (w.alloc (.deferred (some []))) (.loop (rec .ready none));rwa [World.size_alloc] at this
 have hD1:W1.heap[w.heap.size]? =some (.deferred (some [])):=by
  rw[<- hW1];exact(Below.heap_alloc _ _ _ (by simp)).trans (World.alloc_heap_new w _)
 have hb1:Below w.heap.size w W1:=by rw[<- hW1];exact((Below.refl _ w).alloc (Nat.le_refl _) _).alloc (by simp) _
 have hout1:eF X a w H E (f 0 x₀) W1 (cM ρ s.own):=by
  rw[<- hW1]
  exact(hout0.abide hw0 (World.grownBy_alloc _ _ none) (by simp)).abide hw0 (World.grownBy_alloc _ _ none) (by simp)
 refine⟨w.heap.size+1, [{target:= .collected w.heap.size,args:= #[]}],W1,{target:= .fn (.func gf) lb.toArray,args:= #[.func (.yield (w.heap.size+1)) #[] #[]]},W1,gf,
  #[.func (.yield (w.heap.size+1)) #[] #[]]++lb.toArray,W1,?_,?_,fun _ _=>trivial,?_,fun h=>by simp[fw,Fence.wide] at h,?_⟩
 ·rw[<- hW1,hrec];exact run_enterLoop_outer _ _ _ _ _
 ·simp only[resolve,hlb1]
  simp[go_sem]
 ·simp[invoke,go_sem,henters]
 have hfw:fw X.r=fw none:=by rw[hr]
 rw[hfw]
 have hkeptA:∀ k (act0:Act),act0.tmps=((ps.toList.zip (enc k).toList).foldl (fun(t:Array Value) (p:Nat×Value)=>t.setIfInBounds p.1 p.2) a.tmps)->∀ t∈ks,∀ pt:Value,(act0.put (some d) pt).tmps.getD t undef=a.tmps.getD t undef:=by
  intro k act0 h0 t ht pt
  have h1:=List.all_eq_true.1 hk1 t ht
  simp only[Bool.and_eq_true,Bool.not_eq_true',List.contains_eq_mem,decide_eq_false_iff_not,bne_iff_ne] at h1
  rw[Act.getD_put_ne h1.2,h0,nR]
  intro hm
  obtain⟨p,hp,rfl⟩:=List.mem_map.1 hm
  exact h1.1 (List.of_mem_zip hp).1
 have hE1: ¬E (w.heap.size+1):=fun e=>by
  obtain⟨o,ho,_⟩:=hEw _ e
  have:=(Array.getElem?_eq_some_iff.1 ho).1;omega
 have hE2: ¬E w.heap.size:=fun e=>by
  obtain⟨o,ho,_⟩:=hEw _ e
  have:=(Array.getElem?_eq_some_iff.1 ho).1;omega
 refine(hsq (w.heap.size+1)
  (fun k W=>(∃ x ρ,Φ k x/\eF X a w H E (f k x) W ρ)/\W.heap[w.heap.size+1]? =some (.loop (rec .ready none))/\W.heap[w.heap.size]? =some (.deferred (some [])))
  (fun W=>∃ c,(∃ z ρ,I9 K z c/\eF X a w H E z W ρ)/\W.heap[w.heap.size+1]? =some (.loop (rec .done (some c)))/\W.heap[w.heap.size]? =some (.deferred (some [])))
  W1 hb1 ?_ ?_ ?_ ?_ ?_ ⟨⟨x₀,_,hΦ,hout1⟩,hL1,hD1⟩).mono ?_
 ·rintro k A B row ⟨⟨x,ρx,hx,ho⟩,hl,hd⟩ hg' hrow
  refine⟨⟨x,ρx,hx,ho.abide hw0 hg' (fun r e=> ?_)⟩,(grownBy_keeps hg' (fun r e=>(hrow r e).2) hl rfl).trans hl,(grownBy_keeps hg' (fun r e=>(hrow r e).2) hd rfl).trans hd⟩
  obtain⟨h1,o,h2,h3⟩:=hrow r e
  exact⟨by omega,o,h2,Obj.not_cells_of_walk h3⟩
 ·rintro _ A B row ⟨c,⟨z,ρx,hx,ho⟩,hl,hd⟩ hg' hrow
  refine⟨c,⟨z,ρx,hx,ho.abide hw0 hg' (fun r e=> ?_)⟩,(grownBy_keeps hg' (fun r e=>(hrow r e).2) hl rfl).trans hl,(grownBy_keeps hg' (fun r e=>(hrow r e).2) hd rfl).trans hd⟩
  obtain⟨h1,o,h2,h3⟩:=hrow r e
  exact⟨by omega,o,h2,Obj.not_cells_of_walk h3⟩
 ·rintro k A B ⟨⟨x,ρx,hx,ho⟩,hl,hd⟩ ht
  exact⟨⟨x,ρx,hx,ho.turn hEM hEw hEH ht⟩,(ht.same _ hE1).trans hl,(ht.same _ hE2).trans hd⟩
 ·rintro A B ⟨c,⟨z,ρx,hx,ho⟩,hl,hd⟩ ht
  exact⟨c,⟨z,ρx,hx,ho.turn hEM hEw hEH ht⟩,(ht.same _ hE1).trans hl,(ht.same _ hE2).trans hd⟩
 ·rintro k W ⟨⟨x,ρx,hx,ho⟩,hl,hd⟩ hkN
  obtain⟨s1,v,cs,hv1,hv2,hv3,hv4,hs1,hJ⟩:=hround k hkN x hx
  have hlt:w.heap.size+1<W.heap.size:=(Array.getElem?_eq_some_iff.1 hl).1
  have hen:=henc k hkN
  have hdat:=hdata _ (List.getElem_mem hkN)
  have hes:(enc k).size=ps.size:=by have:=hen.length;rw[hdat.1] at this;simpa using this.symm
  have hy:=run_yield (P:=X.P) (args:=enc k) hl (by rw[hrec];exact hes)
  rw[hrec] at hy

  obtain⟨W2,hW2⟩:∃ W2,W.putObj (w.heap.size+1) (.loop {rec .ready none with state:= .busy})=W2:=⟨_,rfl⟩
  have hl2:W2.heap[w.heap.size+1]? =some (.loop {rec .ready none with state:= .busy}):=by rw[<- hW2];exact World.putObj_heap_same hlt
  have hd2:W2.heap[w.heap.size]? =some (.deferred (some [])):=by rw[<- hW2];exact(World.putObj_heap_other (by omega)).trans hd
  have ho2:eF X a w H E (f k x) W2 ρx:=by
   rw[<- hW2]
   exact ho.abide hw0 (grownBy_putObj' _ _ _) (fun r e=>by cases e;exact⟨by omega,_,hl,rfl⟩)

  have hzip:(ps.zip (enc k)).toList=ps.toList.zip (enc k).toList:=Array.toList_zip
  have hfold:(ps.zip (enc k)).foldl (fun(t:Array Value) (p:Nat×Value)=>t.setIfInBounds p.1 p.2) a.tmps=(ps.toList.zip (enc k).toList).foldl (fun(t:Array Value) (p:Nat×Value)=>t.setIfInBounds p.1 p.2) a.tmps:=by
   rw[<- Array.foldl_toList,hzip]
  obtain⟨act0,hact0⟩:∃ act0:Act,act0={tmps:=(ps.toList.zip (enc k).toList).foldl (fun(t:Array Value) (p:Nat×Value)=>t.setIfInBounds p.1 p.2) a.tmps,defers:= []}:=⟨_,rfl⟩
  have hfitA:Fits (XE X E) (f k x) {a with defers:= []} W2 ρx:=⟨ho2.fits.env,ho2.fits.own,ho2.fits.io,ho2.fits.apart⟩
  have hHsub:∀ b,b<w.heap.size->hot (XE X E).O ρx (f k x).own b->(hot X.O (cM ρ s.own) (f 0 x₀).own b∨E b):=by
   rintro b hb ((h1|h1)|⟨p,hp,hpb⟩)
   ·exact .inl (.inl h1)
   ·exact .inr h1
   ·rcases ho2.own p hp b hpb with h2|h2
    ·omega
    ·exact .inl (hHX b h2)
  have hvals:bC (aT (hot (XE X E).O ρx (f k x).own) W2 ρx) ((ps.toList.zip (items[k])).map Prod.snd) (enc k).toList:=by
   have e:(ps.toList.zip (items[k])).map Prod.snd=items[k]:=List.map_snd_zip (by have:=hdat.1;simp;omega)
   rw[e]
   refine hen.imp (fun y v hy h=> ?_)
   have hz:=List.all_eq_true.1 hdat.2 y hy
   refine aX hHsub (fun b hb hc=>ho2.stays b (fun e=>hb (e.imp (hHX b) id)) hc) (fun id hid=> ?_) h
   cases y<;>simp_all [LV.isZ,LV.isOf]
  have hszA:a.tmps.size=X.T.N:=hst.size
  have e1:(ps.toList.zip (items[k])).map Prod.fst=ps.toList:=List.map_fst_zip (by have:=hdat.1;simp;omega)
  obtain⟨actP,hactP,hfitP,hszP⟩:=nQ (ps.toList.zip (items[k])) (enc k).toList hfitA rfl hszA (fun p hp=>by
   have:=List.all_eq_true.1 hps p.1 (List.of_mem_zip hp).1
   simpa using this) hvals
  rw[e1] at hactP
  have hP0:actP=act0:=by rw[hactP,hact0]
  rw[hP0] at hfitP hszP
  have hpv:aZ (dY (f k x) (ps.toList.zip items[k])) (.tmp pv)=some v:=hv1
  have hcells:=AV.cells_ok hv2 (b8 hfitP hpv)
  obtain⟨Wb,hWb1,hWb2,hWb3,hWb4,hexec⟩:=LU (X:=X) (r:=some (w.heap.size+1)) (n:=0) assign hasg hTb act0 W (by rw[hszP];exact hdN) (by rw[<- hcells.length];exact hv3) (yf hcells)
  refine⟨fn,_,assign,body,hy,roundIn_of_wpIn (F:=fw none) trivial ?_⟩
  rw[hfold,<- hact0]
  refine hexec ⟨_,run_beginRound ((hWb1 _ (Array.getElem?_eq_some_iff.1 hl).1).trans hl) (by rw[hrec]),?_⟩
  have hW2s:W2.heap.size=W.heap.size:=by rw[<- hW2];simp[World.putObj]
  obtain⟨W2b,hW2b⟩:∃ W2b,Wb.putObj (w.heap.size+1) (.loop {rec .ready none with state:= .busy})=W2b:=⟨_,rfl⟩
  rw[hW2b]
  have hkb:∀ k,k<W2.heap.size->W2b.heap[k]? =W2.heap[k]? :=by
   intro k hk
   rw[<- hW2b,<- hW2]
   by_cases e:k=w.heap.size+1
   ·subst e;rw[World.putObj_heap_same (by omega),World.putObj_heap_same hlt]
   ·rw[World.putObj_heap_other e,World.putObj_heap_other e,hWb1 k (by omega)]
  have hnb:W2b.heap[W2.heap.size]? =some (.cells ((act0.eval (.tmp pv)).cells.toList).toArray TB (0,0)):=by
   rw[<- hW2b,hW2s,World.putObj_heap_other (by omega)];exact hWb2
  have hbelb:∀ M:Nat->Prop,Bel M W2 W2b:=fun M=>by
   have e1:W2b.os=W2.os:=by rw[<- hW2b,<- hW2];exact hWb4.1
   have e2:W2b.tape=W2.tape:=by rw[<- hW2b,<- hW2];exact hWb4.2.1
   have e3:W2b.output=W2.output:=by rw[<- hW2b,<- hW2];exact hWb4.2.2
   exact⟨e1,e2,e3,by rw[<- hW2b];simp only[World.putObj,Array.size_setIfInBounds];omega,fun k hk _=>hkb k hk⟩
  have hdB:d<ioB:=Nat.lt_of_lt_of_le hdN hst.small.n
  obtain⟨ρn,hρd,hρo,hfit1⟩:=Fits.freshO hfitP hdB (w':=W2b) (obj:= .box TB cs) (val:= .pointer (some ⟨W2.heap.size,0,none⟩)) hkb (fun b hb=>by simp[Blk] at hb;omega)
   (fun H' ρ' hh hs hρ hρd=>⟨W2.heap.size,(act0.eval (.tmp pv)).cells.toList,hρd, .inl (by have:=ho2.bel.size;exact this),hnb,bC.kill hh hs hρ (fun c hc=>by have:=List.all_eq_true.1 hv4 c hc;simpa using this) hcells⟩)
  have hfit1:=hfit1.put (d:=d) (by rw[hszP];exact hdN) (v:= .l (.ownP d 0)) (val:= .pointer (some ⟨W2.heap.size,0,none⟩)) ⟨W2.heap.size,hρd,rfl⟩
  have hs1':s1={env:=(d, .l (.ownP d 0))::del (bU (LV.kill d) (dY (f k x) (ps.toList.zip items[k])).env) d,own:=(d, .box TB cs)::bp (LV.kill d) (del (dY (f k x) (ps.toList.zip items[k])).own d)}:=hs1
  rw[hW2s] at hfit1
  have hkA:∀ t∈ks,(act0.put (some d) (.pointer (some ⟨W.heap.size,0,none⟩))).tmps.getD t undef=a.tmps.getD t undef:=fun t ht=>hkeptA k act0 (by rw[hact0]) t ht _
  have hst1:St {XE X E with T:={X.T with keep:=ks},I:=fun b=>∃ p∈(f k x).own,Blk (ρx p.1) b,w0:=W2,r:=some (w.heap.size+1),tm:=fun t=>(act0.put (some d) (.pointer (some ⟨W.heap.size,0,none⟩))).tmps.getD t undef} s1 (act0.put (some d) (.pointer (some ⟨W.heap.size,0,none⟩))) W2b:=by
   refine⟨?_,fun _ _=>rfl,by rw[Act.size_put];exact hszP,hbelb _,fun b hb hm=> ?_,⟨hst.small.n,?_,fun b hb=> ?_⟩,ρn,by rw[hs1'];exact hfit1.env,fun p hp=> ?_,by rw[hs1'];exact hfit1.io,by rw[hs1'];exact hfit1.apart⟩
   ·rw[Act.defers_put,hact0];exact Marks.nil _ _
   ·rcases hb with hb|hb
    ·rcases hm with hm|⟨p,hp,hpb⟩
     ·have h1:=hst.others b hb
      have h2:b<X.w0.heap.size:=by
       by_cases h3:b<X.w0.heap.size
       ·exact h3
       ·exact absurd (.inl (by omega)) h1
      have:=ho2.bel.size
      simp only at hm;omega
     ·exact hst.others b hb ((ho2.fits.own p hp).lt hpb).1
    ·obtain⟨o,ho,_⟩:=hEw b hb
     have h2:=(Array.getElem?_eq_some_iff.1 ho).1
     rcases hm with hm|⟨p,hp,hpb⟩
     ·have:=ho2.keeps.size
      simp only at hm;omega
     ·rcases ho2.own p hp b hpb with h1|h1
      ·omega
      ·exact hEH b hb h1
   ·have h1:=hst.small.on
    refine⟨Nat.le_trans h1.1 ho2.bel.size,fun b hb=> ?_⟩
    rw[<- h1.2 b hb]
    refine ho2.bel.block b (Nat.lt_of_lt_of_le hb h1.1) ?_
    rintro(hm|hm)
    ·have:=h1.1;simp only at hb;omega
    ·have:=hst.small.io b hm;simp only at hb;omega
   ·obtain⟨p,hp,hpb⟩:=hb
    rcases ((ho2.fits.own p hp).lt hpb).1 with h1|h1
    ·exact Nat.le_trans hst.small.on.1 h1
    ·exact hst.small.io b h1
   ·have hq:∀ (l:List (Nat×LV)) (s:aa),(dY s l).own=s.own:=by
     intro l;induction l with
     |nil=>intro s;rfl
     |cons q l ih=>intro s;exact ih _
    rw[hs1'] at hp
    have hp':p∈(d,aO.box TB cs)::bp (LV.kill d) (del (dY (f k x) (ps.toList.zip items[k])).own d):=hp
    have h5:=(hfit1.own p hp').moved (H':=hot (XE X E).O ρn s1.own) (ρ':=ρn) (k:=p.1) (f:=id) (M':=Cx.M {XE X E with T:={X.T with keep:=ks},I:=fun b=>∃ p∈(f k x).own,Blk (ρx p.1) b,w0:=W2,r:=some (w.heap.size+1),tm:=fun t=>(act0.put (some d) (.pointer (some ⟨W.heap.size,0,none⟩))).tmps.getD t undef}) (fun b _ h=>by rw[hs1'] at h;exact h) (fun x v hx=>aX (fun b _ h=>by rw[hs1'] at h;exact h) (bh.refl _ _) (fun _ _=>rfl) hx) rfl (fun b hb=>by
     rcases List.mem_cons.1 hp' with rfl|hp2
     ·simp only[hρd] at hb;simp[Blk] at hb;exact .inl (by simp only;omega)
     ·obtain⟨u,g1,_⟩:=bn hp2
      have g2:=bN.1 g1
      rw[hρo _ g2.2] at hb
      exact .inr ⟨(p.1,u),by rw[<- hq];exact g2.1,hb⟩)
    rw[aO.map_id] at h5
    exact h5
  have hw:=hJ {XE X E with T:={X.T with keep:=ks},I:=fun b=>∃ p∈(f k x).own,Blk (ρx p.1) b,w0:=W2,r:=some (w.heap.size+1),tm:=fun t=>(act0.put (some d) (.pointer (some ⟨W.heap.size,0,none⟩))).tmps.getD t undef} rfl rfl _ _ hst1
  refine DW (n:=2) (Code.wpIn_mono (fun e a3 W3 hp=> ?_) hw)
  obtain⟨s3,hK3,hst3⟩:=hp
  have fin:∀ (jump:Option Code) (z:aa),z.env.all (fun e=>ks.contains e.1)=true->le s3 z->∃ ρz,eF X a w H E z (W3.putObj (w.heap.size+1) (.loop (rec (if jump.isNone then .ready else .done) jump))) ρz/\
    (Instr.endRound (w.heap.size+1) jump).run X.P W3= .ok (.bool jump.isNone) (W3.putObj (w.heap.size+1) (.loop (rec (if jump.isNone then .ready else .done) jump)))/\
    (W3.putObj (w.heap.size+1) (.loop (rec (if jump.isNone then .ready else .done) jump))).heap[w.heap.size+1]? =some (.loop (rec (if jump.isNone then .ready else .done) jump))/\
    (W3.putObj (w.heap.size+1) (.loop (rec (if jump.isNone then .ready else .done) jump))).heap[w.heap.size]? =some (.deferred (some []))/\
    yS H w.heap.size W (W3.putObj (w.heap.size+1) (.loop (rec (if jump.isNone then .ready else .done) jump))):=by
   intro jump z hz hle
   obtain⟨ρz,h1,h2,h3⟩:=ho2.back hkA hz hle hst3
   have hl3:=h2.same _ _ hl2 rfl
   have hd3:=h2.same _ _ hd2 rfl
   have he:=run_endRound (P:=X.P) jump hl3
   rw[hrec] at he ⊢
   refine⟨ρz,h1.abide hw0 (grownBy_putObj' _ _ _) (fun r e=>by cases e;exact⟨by omega,_,hl3,rfl⟩),he,World.putObj_heap_same (Array.getElem?_eq_some_iff.1 hl3).1,(World.putObj_heap_other (by omega)).trans hd3,fun b hb hnH hc=> ?_⟩
   have e1:W2.heap[b]? =W.heap[b]? :=by rw[<- hW2];exact World.putObj_heap_other (by omega)
   rw[World.putObj_heap_other (by omega),h3 b hb hnH (by rw[e1];exact hc),e1]
  cases e with
  |normal=>
   obtain⟨y,hle,hy'⟩:=hK3
   obtain⟨ρz,h1,h2,h3,h4,h5⟩:=fin none _ (hks (k+1) y) hle
   exact⟨_,_,h2, .inl ⟨rfl,⟨⟨y,ρz,hy',h1⟩,h3,h4⟩,h5⟩⟩
  |ret=>
   obtain⟨z,hle,hz,hk3⟩:=hK3
   obtain⟨ρz,h1,h2,h3,h4,h5⟩:=fin (some .ret) _ hz hle
   exact⟨_,_,h2, .inr ⟨rfl, .ret,⟨z,ρz,hk3,h1⟩,h3,h4⟩⟩
  |exit i=>
   obtain⟨z,hle,hz,hk3⟩:=hK3
   obtain⟨ρz,h1,h2,h3,h4,h5⟩:=fin (some (.exit i)) _ hz hle
   exact⟨_,_,h2, .inr ⟨rfl, .exit i,⟨z,ρz,hk3,h1⟩,h3,h4⟩⟩
  |goto t=>exact hK3.elim
  |panic ch=>exact hK3.elim
  |outgrown=>exact hK3.elim
 ·rintro e W2 ⟨⟨v,rfl⟩,(⟨⟨x,ρx,hx,ho⟩,hl,hd⟩|⟨c,⟨z,ρz,hj,ho⟩,hl,hd⟩)⟩
  ·have he:=run_endLoop (P:=X.P) hl (by rw[hrec];simp)
   rw[hrec] at he
   refine⟨none,_,he,_,hdone x hx,(ho.abide hw0 (grownBy_putObj' _ _ _) (fun r e=>by cases e;exact⟨by omega,_,hl,rfl⟩)).st hst ((World.putObj_heap_other (by omega)).trans hd)⟩
  ·have he:=run_endLoop (P:=X.P) hl (by rw[hrec];simp)
   rw[hrec] at he
   refine⟨some c,_,he,?_⟩
   cases c with
   |ret=>exact wpIn_ret ⟨z,hj,(ho.abide hw0 (grownBy_putObj' _ _ _) (fun r e=>by cases e;exact⟨by omega,_,hl,rfl⟩)).st hst ((World.putObj_heap_other (by omega)).trans hd)⟩
   |exit i=>exact wpIn_exit ⟨z,hj,(ho.abide hw0 (grownBy_putObj' _ _ _) (fun r e=>by cases e;exact⟨by omega,_,hl,rfl⟩)).st hst ((World.putObj_heap_other (by omega)).trans hd)⟩
   |_=>exact hj.elim
theorem wE{X:Cx}(hr:X.r=none){s:aa}{K:Exit->aa->Prop}{g:Operand}{ps:Array Tmp}{assign body:Code}{gf:FuncId}{caps:List CV}
  (hg:aZ s g=some (.l (.fn gf caps))) (hcap:caps.all CV.pure=true) {items:List (List LV)} (hseq:mY X.P gf ps.size caps items) {d pv:Nat} {TB:TypeId} {ub:Ty} (hasg:wD assign=some (d,TB,pv)) (hTb:cW X.P TB ub) (hdN:d<X.T.N) (ks:List Nat)
  (hk1:ks.all (fun t=> !ps.toList.contains t&&t !=d)=true) (hps:ps.toList.all (fun t=>decide (t<X.T.N))=true)
  {ι:Type} (f:Nat->ι->aa) (Φ:Nat->ι->Prop) (x₀:ι) (h₀:le s (f 0 x₀)) (hΦ:Φ 0 x₀) (hks:∀ k x,(f k x).env.all (fun e=>ks.contains e.1)=true)
  (hround:∀ k (hk:k<items.length) (x:ι),Φ k x->∃ s1 v cs,aZ (dY (f k x) (ps.toList.zip items[k])) (.tmp pv)=some v/\v.cells=some cs/\cs.length=ub.w/\cs.all (fun c=> !c.isOf d)=true/\s1={env:=(d, .l (.ownP d 0))::del ((dY (f k x) (ps.toList.zip items[k])).kill d).env d,own:=(d, .box TB cs)::((dY (f k x) (ps.toList.zip items[k])).kill d).own}/\
   ∀ X':Cx,X'.P=X.P->X'.T={X.T with keep:=ks}->J X' body s1 (wY f Φ ks K k))
  (hdone:∀ x,Φ items.length x->K .normal (f items.length x)):J X (.rangeFunc g ps assign body) s K:=
 H2 hr hseq.enters hseq.data hasg hTb hdN ks hk1 hps f Φ x₀ h₀ (fun a w ρ _ hf hlt=>by
  obtain⟨lb,hlb1,hlb2⟩:aT (hot X.O ρ s.own) w ρ (.fn gf caps) (a.eval g):=b8 hf hg
  obtain⟨enc,h1,h2⟩:=hseq.seq _ w lb hlt (iO hcap (fun b hb=>mq h₀ hb) hlb2)
  exact⟨lb,fun _=>False,hlb1,fun b hb=>hb.elim,enc,fun k hk=>(h1 k hk).imp (fun x v hx h=>aX (H:=hot X.O (cM ρ s.own) (f 0 x₀).own) (fun b _ hb=>hb.elim id (fun e=>e.elim)) (bh.refl _ _) (fun _ _=>rfl) h),h2.kp (fun A B hk b hb hn hc=>hk b hb (fun e=>hn (e.elim False.elim .inr)) hc)⟩) hΦ hks hround hdone
end Go.Cm
end
section
namespace Go.Proofs.YtdojbabpnaifoaaGreatDoor
open Go Go.Cm Go.Proofs
def qR(B:aj):Tab:={types:= [(79,(.slice (.st (.pair (.st (.pair .bool (.slice (.int .u32)))) (.st (.pair .bool (.slice (.int .u32))))))))],elems:= [],cons:= [],hint:= [],N:=4,base:=B}
theorem A8{B:aj}(hB:aC B):aK Tryz.prog (qR B):=⟨⟨tc fN (ae),af,by simp only[qR,ioB];omega⟩,bP rfl,by kernel_rfl⟩
def oP:Con:=fun l os=>match l,os with
 | [.z (.slice (.st (.pair (.st (.pair .bool (.slice (.int .u32)))) (.st (.pair .bool (.slice (.int .u32))))))) xs], []=>some (True, [.fn 125 [.z (.ptr (.slice (.st (.pair (.st (.pair .bool (.slice (.int .u32)))) (.st (.pair .bool (.slice (.int .u32)))))))) xs]], [])
 |_,_=>none
theorem wF{B:aj}(hB:aC B):Valid B Tryz.prog 83 oP:=by
 refine ab (A8 hB).tab Tryz.func83 rfl rfl rfl ?_
 intro args os C rs os' hc hC
 unfold oP at hc
 split at hc
 case h_2=>cases hc
 rename_i xs
 cases hc
 refine v_h (A8 hB) fun X hP hT hr hG=> ?_
 have hU:=qR.eq_1
 unfold qR at hT
 have hX:=Bool.not_true
 simp only[Tryz.f83,aD,al,ioB]
 refine s_g hG ?_
 refine s_g hG ?_
 refine az ?_
 refine q_e [] ?_
 rfl
def ia(B:aj):Tab:={types:= [(79,(.slice (.st (.pair (.st (.pair .bool (.slice (.int .u32)))) (.st (.pair .bool (.slice (.int .u32)))))))),(91,(.st (.pair (.st (.pair .bool (.slice (.int .u32)))) (.st (.pair .bool (.slice (.int .u32)))))))],elems:= [],cons:= [(58,mh),(83,oP),(105,ep),(113,et)],hint:= [],N:=19,base:=B}
theorem A9{B:aj}(hB:aC B):aK Tryz.prog (ia B):=⟨⟨tc fN (tc ty91 (ae)),af,by simp only[ia,ioB];omega⟩,aF (cc Tryz.func58 (lT hB) (cc Tryz.func83 (wF hB) (cc Tryz.func105 (lU hB) (cc Tryz.func113 (lV hB) (ay))))),by kernel_rfl⟩
def FW:Con:=fun l os=>match l,os with
 | [.z (.slice (.st (.pair (.st (.pair .bool (.slice (.int .u32)))) (.st (.pair .bool (.slice (.int .u32))))))) p, .z (.st (.pair (.st (.pair .bool (.slice (.int .u32)))) (.st (.pair .bool (.slice (.int .u32)))))) x], []=>some (Sz QM p/\p.length<=100/\NOK x/\lq (bD x)<=QM, [.z (.st (.pair (.st (.pair .bool (.slice (.int .u32)))) (.st (.pair .bool (.slice (.int .u32)))))) (bk (aJ (an p) (bD x)))], [])
 |_,_=>none
theorem H3{B:aj}(hB:aC B):Valid B Tryz.prog 89 FW:=by
 refine ab (A9 hB).tab Tryz.func89 rfl rfl rfl ?_
 intro args os C rs os' hc hC
 unfold FW at hc
 split at hc
 case h_2=>cases hc
 rename_i p x
 cases hc
 refine v_h (A9 hB) fun X hP hT hr hG=> ?_
 have hU:=ia.eq_1
 unfold ia at hT
 have hX:=ai @oP.eq_1<|ai @mh.eq_1<|ai @ep.eq_1<| @et.eq_1
 simp only[Tryz.f89,aD,al,ioB]
 have hl:p.length<=100:=hC.2.1
 refine s_g hG ?_
 refine s_g hG ?_
 refine ak ?_
 refine s_g hG ?_
 refine au ?_
 refine wE hr (gf:=125) (caps:= [.z (.ptr (.slice (.st (.pair (.st (.pair .bool (.slice (.int .u32)))) (.st (.pair .bool (.slice (.int .u32)))))))) p]) (items:=bW p) (by simp only[hT,ia,mx0,mx1,mx2,mx3,mx4,mx5,mx6,aU,bm,bI,aY,bl,Ty.fieldTy,Ty.fieldOf,Nat.reduceLT,Nat.reduceEqDiff,Nat.reduceAdd,Nat.reduceMul,Nat.reduceSub,Nat.reduceLeDiff,Nat.reduceBEq,Nat.reduceBNe,reduceIte,reduceDIte,reduceCtorEq];try rfl) (by rfl) (by rw[hP];exact vA p) (by rfl) (ub:=(.st (.pair (.st (.pair .bool (.slice (.int .u32)))) (.st (.pair .bool (.slice (.int .u32))))))) (by rw[hP];exact ty91) (by simp only[hT,ia];omega) [3,4,5] (by rfl) (by simp only[hT,ia];try rfl) (fun(k:Nat) (z:Rat)=>(⟨[(3, .l (.z (.ptr (.st (.pair (.st (.pair .bool (.slice (.int .u32)))) (.st (.pair .bool (.slice (.int .u32))))))) x)),(4, .l (.ownP 4 0)),(5, .l (.ownP 5 0))], [(4, .box 91 [.z .bool false, .val (.slice none 0 0), .z .bool false, .val (.slice none 0 0)]),(5, .box 91 [.z .bool (bk z).1.1, .z (.slice (.int .u32)) (bk z).1.2, .z .bool (bk z).2.1, .z (.slice (.int .u32)) (bk z).2.2])]⟩:aa)) (fun(k:Nat) (z:Rat)=>z=aJ ((an p).drop (p.length-k)) (bD x)) 0 ?_ ?_ ?_ ?_ ?_
 ·simp only[ml0,ml1,Nat.reduceLT,Nat.reduceEqDiff,Nat.reduceAdd,Nat.reduceMul,Nat.reduceSub,Nat.reduceLeDiff,Nat.reduceBEq,Nat.reduceBNe,reduceIte,reduceDIte,reduceCtorEq]
 ·exact CY p (bD x)
 ·intro k z;rfl
 ·intro k hk
  rintro v hz
  try dsimp only at hz
  have hk:k<p.length:=by simpa [bW] using hk
  have hg:=zG hC.1 (zH hk)
  have hv:=G8 hC hk hz
  refine⟨_,_,_,by simp only[hT,ia,bW,jB,mx0,mx1,mx2,mx3,mx4,mx5,mx6,aU,bm,bI,aY,bl,Ty.fieldTy,Ty.fieldOf,Nat.reduceLT,Nat.reduceEqDiff,Nat.reduceAdd,Nat.reduceMul,Nat.reduceSub,Nat.reduceLeDiff,Nat.reduceBEq,Nat.reduceBNe,reduceIte,reduceDIte,reduceCtorEq,List.getElem_map,List.getElem_range];rfl,by simp only[mx0,mx1,mx2,mx3,mx4,mx5,mx6,aU,bm,bI,aY,bl,Ty.fieldTy,Ty.fieldOf,Nat.reduceLT,Nat.reduceEqDiff,Nat.reduceAdd,Nat.reduceMul,Nat.reduceSub,Nat.reduceLeDiff,Nat.reduceBEq,Nat.reduceBNe,reduceIte,reduceDIte,reduceCtorEq];rfl,by rfl,by simp only[mx0,mx1,mx2,mx3,mx4,mx5,mx6,aU,bm,bI,aY,bl,Ty.fieldTy,Ty.fieldOf,Nat.reduceLT,Nat.reduceEqDiff,Nat.reduceAdd,Nat.reduceMul,Nat.reduceSub,Nat.reduceLeDiff,Nat.reduceBEq,Nat.reduceBNe,reduceIte,reduceDIte,reduceCtorEq]<;>rfl,by simp only[hT,ia,bW,jB,mx0,mx1,mx2,mx3,mx4,mx5,mx6,aU,bm,bI,aY,bl,Ty.fieldTy,Ty.fieldOf,Nat.reduceLT,Nat.reduceEqDiff,Nat.reduceAdd,Nat.reduceMul,Nat.reduceSub,Nat.reduceLeDiff,Nat.reduceBEq,Nat.reduceBNe,reduceIte,reduceDIte,reduceCtorEq,List.getElem_map,List.getElem_range];rfl,?_⟩
  intro X' hP' hT'
  have hG':aK X'.P X'.T:=by rw[hP',hT'];exact hG.keep _
  rw[hT] at hT'
  refine au ?_
  refine DY hG' ?_ ?_
  ·try simp only[ba]
   simp only[pe2,hg,aN]
   exact hv
  refine aQ ?_
  show ∃ z,_
  simp only[ml0,ml1,Nat.reduceLT,Nat.reduceEqDiff,Nat.reduceAdd,Nat.reduceMul,Nat.reduceSub,Nat.reduceLeDiff,Nat.reduceBEq,Nat.reduceBNe,reduceIte,reduceDIte,reduceCtorEq]
  simp only[pe2,hg,aN]
  exact⟨_,rfl,rfl,rfl,rfl,by rw[hz,CZ hk]⟩
 ·rintro v hz
  try dsimp only at hz
  rw[Km] at hz
  refine aQ ?_
  refine ah ?_
  refine s_g hG ?_
  refine az ?_
  refine q_e [] ?_
  rw[hz]
def qS(B:aj):Tab:={types:= [(3,(.int .i64)),(79,(.slice (.st (.pair (.st (.pair .bool (.slice (.int .u32)))) (.st (.pair .bool (.slice (.int .u32)))))))),(91,(.st (.pair (.st (.pair .bool (.slice (.int .u32)))) (.st (.pair .bool (.slice (.int .u32)))))))],elems:= [(79,91)],cons:= [(58,mh),(82,ji),(107,wx)],hint:= [26],N:=31,base:=B}
theorem Ba{B:aj}(hB:aC B):aK Tryz.prog (qS B):=⟨⟨tc ty3 (tc fN (tc ty91 (ae))),aR (by kernel_rfl) (af),by simp only[qS,ioB];omega⟩,aF (cc Tryz.func58 (lT hB) (cc Tryz.func82 (iF hB) (cc Tryz.func107 (wy hB) (ay)))),by kernel_rfl⟩
def LW:Con:=fun l os=>match l,os with
 | [.z (.slice (.st (.pair (.st (.pair .bool (.slice (.int .u32)))) (.st (.pair .bool (.slice (.int .u32))))))) p, .z (.slice (.st (.pair (.st (.pair .bool (.slice (.int .u32)))) (.st (.pair .bool (.slice (.int .u32))))))) q, .val (.func (.func g) fs cs)], []=>some ((g=58/\fs.size=0/\cs.size=0)/\Sz QH p/\Sz QH q/\p.length<=1000/\q.length<=1000, [.z (.slice (.st (.pair (.st (.pair .bool (.slice (.int .u32)))) (.st (.pair .bool (.slice (.int .u32))))))) (aI (bL (· + ·) (an p) (an q)))], [])
 |_,_=>none
theorem H4{B:aj}(hB:aC B):Valid B Tryz.prog 57 LW:=by
 refine ab (Ba hB).tab Tryz.func57 rfl rfl rfl ?_
 intro args os C rs os' hc hC
 unfold LW at hc
 split at hc
 case h_2=>cases hc
 rename_i p q g fs cs
 cases hc
 refine v_h (Ba hB) fun X hP hT hr hG=> ?_
 have hU:=qS.eq_1
 unfold qS at hT
 have hX:=ai @wx.eq_1<|ai @mh.eq_1<| @ji.eq_1
 simp only[Tryz.f57,aD,al,ioB]
 obtain⟨⟨rfl,e1,e2⟩,hp,hq,hl1,hl2⟩:=hC
 obtain rfl:=Array.eq_empty_of_size_eq_zero e1
 obtain rfl:=Array.eq_empty_of_size_eq_zero e2
 have hl1:p.length<=1000:=hl1
 have hl2:q.length<=1000:=hl2
 refine s_g hG ?_
 refine s_g hG ?_
 refine ak ?_
 refine s_g hG ?_
 refine au ?_
 refine br (fun(z:Nat)=>(⟨[(0, .l (.z (.slice (.st (.pair (.st (.pair .bool (.slice (.int .u32)))) (.st (.pair .bool (.slice (.int .u32))))))) p)),(1, .l (.z (.slice (.st (.pair (.st (.pair .bool (.slice (.int .u32)))) (.st (.pair .bool (.slice (.int .u32))))))) q)),(2, .l (.val (.func (.func 58) #[] #[]))),(7, .l (.ownS 27)),(13, .l (.z (.int .i64) ((max p.length q.length:Nat):Int))),(14, .l (.z (.int .i64) (z:Int)))], [(27, .arr (.st (.pair (.st (.pair .bool (.slice (.int .u32)))) (.st (.pair .bool (.slice (.int .u32)))))) 91 (aI (bO (· + ·) (an p) (an q) z)))]⟩:aa)) (fun z=>z<=max p.length q.length) (fun z=>max p.length q.length-z) 0 ?_ ?_ ?_
 ·refine q_l ?_
  exact⟨Ep p q trivial,rfl,by unfold ioB;omega,rfl⟩
 ·omega
 ·rintro k g1
  try dsimp only at g1
  refine s_g hG ?_
  refine ak ?_
  refine aq ?_ ?_
  ·intro hb0
   try simp only[bt] at hb0
   refine ar ?_
   refine ah ?_
   refine ak ?_
   refine au ?_
   refine s_g hG ?_
   refine ag hG ?_ ?_
   ·try simp only[ba]
    exact vu hp hq (by omega) _
   refine aQ ?_
   refine ah ?_
   refine ag hG ?_ ?_
   ·first|trivial|omega|(simp;done)|(simp;omega)
   show ∃ z,_
   refine q_l ?_
   exact tC (op:=(· + ·)) (by omega) (by omega)
  ·intro hb0
   try simp only[bf] at hb0
   refine bg ?_
   refine aE ?_
   refine ax ?_
   refine aw ?_
   refine ah ?_
   refine s_q hG ?_ ?_
   ·try simp only[ba]
    exact tE zz hp hq (by omega)
   refine az ?_
   refine q_e [] ?_
   exact zB g1 hb0
def qT(B:aj):Tab:={types:= [(3,(.int .i64)),(79,(.slice (.st (.pair (.st (.pair .bool (.slice (.int .u32)))) (.st (.pair .bool (.slice (.int .u32)))))))),(91,(.st (.pair (.st (.pair .bool (.slice (.int .u32)))) (.st (.pair .bool (.slice (.int .u32)))))))],elems:= [(79,91)],cons:= [(60,fu),(82,ji),(107,wx)],hint:= [26],N:=31,base:=B}
theorem Bb{B:aj}(hB:aC B):aK Tryz.prog (qT B):=⟨⟨tc ty3 (tc fN (tc ty91 (ae))),aR (by kernel_rfl) (af),by simp only[qT,ioB];omega⟩,aF (cc Tryz.func60 (wk hB) (cc Tryz.func82 (iF hB) (cc Tryz.func107 (wy hB) (ay)))),by kernel_rfl⟩
def LX:Con:=fun l os=>match l,os with
 | [.z (.slice (.st (.pair (.st (.pair .bool (.slice (.int .u32)))) (.st (.pair .bool (.slice (.int .u32))))))) p, .z (.slice (.st (.pair (.st (.pair .bool (.slice (.int .u32)))) (.st (.pair .bool (.slice (.int .u32))))))) q, .val (.func (.func g) fs cs)], []=>some ((g=60/\fs.size=0/\cs.size=0)/\Sz QH p/\Sz QH q/\p.length<=1000/\q.length<=1000, [.z (.slice (.st (.pair (.st (.pair .bool (.slice (.int .u32)))) (.st (.pair .bool (.slice (.int .u32))))))) (aI (bL (· - ·) (an p) (an q)))], [])
 |_,_=>none
theorem H5{B:aj}(hB:aC B):Valid B Tryz.prog 57 LX:=by
 refine ab (Bb hB).tab Tryz.func57 rfl rfl rfl ?_
 intro args os C rs os' hc hC
 unfold LX at hc
 split at hc
 case h_2=>cases hc
 rename_i p q g fs cs
 cases hc
 refine v_h (Bb hB) fun X hP hT hr hG=> ?_
 have hU:=qT.eq_1
 unfold qT at hT
 have hX:=ai @wx.eq_1<|ai @fu.eq_1<| @ji.eq_1
 simp only[Tryz.f57,aD,al,ioB]
 obtain⟨⟨rfl,e1,e2⟩,hp,hq,hl1,hl2⟩:=hC
 obtain rfl:=Array.eq_empty_of_size_eq_zero e1
 obtain rfl:=Array.eq_empty_of_size_eq_zero e2
 have hl1:p.length<=1000:=hl1
 have hl2:q.length<=1000:=hl2
 refine s_g hG ?_
 refine s_g hG ?_
 refine ak ?_
 refine s_g hG ?_
 refine au ?_
 refine br (fun(z:Nat)=>(⟨[(0, .l (.z (.slice (.st (.pair (.st (.pair .bool (.slice (.int .u32)))) (.st (.pair .bool (.slice (.int .u32))))))) p)),(1, .l (.z (.slice (.st (.pair (.st (.pair .bool (.slice (.int .u32)))) (.st (.pair .bool (.slice (.int .u32))))))) q)),(2, .l (.val (.func (.func 60) #[] #[]))),(7, .l (.ownS 27)),(13, .l (.z (.int .i64) ((max p.length q.length:Nat):Int))),(14, .l (.z (.int .i64) (z:Int)))], [(27, .arr (.st (.pair (.st (.pair .bool (.slice (.int .u32)))) (.st (.pair .bool (.slice (.int .u32)))))) 91 (aI (bO (· - ·) (an p) (an q) z)))]⟩:aa)) (fun z=>z<=max p.length q.length) (fun z=>max p.length q.length-z) 0 ?_ ?_ ?_
 ·refine q_l ?_
  exact⟨Ep p q trivial,rfl,by unfold ioB;omega,rfl⟩
 ·omega
 ·rintro k g1
  try dsimp only at g1
  refine s_g hG ?_
  refine ak ?_
  refine aq ?_ ?_
  ·intro hb0
   try simp only[bt] at hb0
   refine ar ?_
   refine ah ?_
   refine ak ?_
   refine au ?_
   refine s_g hG ?_
   refine ag hG ?_ ?_
   ·try simp only[ba]
    exact vu hp hq (by omega) _
   refine aQ ?_
   refine ah ?_
   refine ag hG ?_ ?_
   ·first|trivial|omega|(simp;done)|(simp;omega)
   show ∃ z,_
   refine q_l ?_
   exact tC (op:=(· - ·)) (by omega) (by omega)
  ·intro hb0
   try simp only[bf] at hb0
   refine bg ?_
   refine aE ?_
   refine ax ?_
   refine aw ?_
   refine ah ?_
   refine s_q hG ?_ ?_
   ·try simp only[ba]
    exact tE zA hp hq (by omega)
   refine az ?_
   refine q_e [] ?_
   exact zB g1 hb0
def pO:Con:=fun l os=>match l,os with
 | [.z (.slice (.st (.pair (.st (.pair .bool (.slice (.int .u32)))) (.st (.pair .bool (.slice (.int .u32))))))) p, .z (.slice (.st (.pair (.st (.pair .bool (.slice (.int .u32)))) (.st (.pair .bool (.slice (.int .u32))))))) q, .val (.func (.func g) fs cs)], []=>some (((g=58∨g=60)/\fs.size=0/\cs.size=0)/\Sz QH p/\Sz QH q/\p.length<=1000/\q.length<=1000, [.z (.slice (.st (.pair (.st (.pair .bool (.slice (.int .u32)))) (.st (.pair .bool (.slice (.int .u32))))))) (aI (bL (if g=58 then (· + ·) else (· - ·)) (an p) (an q)))], [])
 |_,_=>none
theorem mK{B:aj}(hB:aC B):Valid B Tryz.prog 57 pO:=by
 intro args os C rs os' hc hC
 unfold pO at hc
 split at hc
 ·cases hc
  obtain⟨⟨rfl|rfl,e1,e2⟩,h3⟩:=hC
  ·exact H4 hB _ _ _ _ _ rfl ⟨⟨rfl,e1,e2⟩,h3⟩
  ·exact H5 hB _ _ _ _ _ rfl ⟨⟨rfl,e1,e2⟩,h3⟩
 ·cases hc
def qU(B:aj):Tab:={types:= [(79,(.slice (.st (.pair (.st (.pair .bool (.slice (.int .u32)))) (.st (.pair .bool (.slice (.int .u32)))))))),(84, .func),(91,(.st (.pair (.st (.pair .bool (.slice (.int .u32)))) (.st (.pair .bool (.slice (.int .u32)))))))],elems:= [(79,91)],cons:= [(57,pO),(61,oM),(82,ji)],hint:= [],N:=11,base:=B}
theorem Bc{B:aj}(hB:aC B):aK Tryz.prog (qU B):=⟨⟨tc fN (tc O1 (tc ty91 (ae))),aR (by kernel_rfl) (af),by simp only[qU,ioB];omega⟩,aF (cc Tryz.func57 (mK hB) (cc Tryz.func61 (wz hB) (cc Tryz.func82 (iF hB) (ay)))),by kernel_rfl⟩
def FX:Con:=fun l os=>match l,os with
 | [.z (.st (.pair (.st (.pair .bool (.slice (.int .u32)))) (.st (.pair .bool (.slice (.int .u32)))))) c, .ownP 10000000 0, .z (.ptr (.slice (.st (.pair (.st (.pair .bool (.slice (.int .u32)))) (.st (.pair .bool (.slice (.int .u32)))))))) b], [.box 79 [.z (.slice (.st (.pair (.st (.pair .bool (.slice (.int .u32)))) (.st (.pair .bool (.slice (.int .u32))))))) s]]=>some (C3 s b c, [], [.box 79 [.z (.slice (.st (.pair (.st (.pair .bool (.slice (.int .u32)))) (.st (.pair .bool (.slice (.int .u32))))))) (aI (tQ (an s) (an b) (bD c)))]])
 |_,_=>none
theorem H6{B:aj}(hB:aC B):Valid B Tryz.prog 81 FX:=by
 refine ab (Bc hB).tab Tryz.func81 rfl rfl rfl ?_
 intro args os C rs os' hc hC
 unfold FX at hc
 split at hc
 case h_2=>cases hc
 rename_i c b s
 cases hc
 refine v_h (Bc hB) fun X hP hT hr hG=> ?_
 have hU:=qU.eq_1
 unfold qU at hT
 have hX:=ai @oM.eq_1<|ai @ji.eq_1<| @pO.eq_1
 simp only[Tryz.f81,aD,al,ioB]
 refine s_g hG ?_
 refine gL hG ?_ ?_
 ·try simp only[ba]
  obtain⟨q1,q2,q3,q4,q5,q6⟩:=G9 hC
  exact⟨q1,⟨q2.1,by unfold QL;omega⟩,Or.inl trivial,q3,q4,q5,q6⟩
 refine q_e [] ?_
 simp only[aH];rfl
def ib(B:aj):Tab:={types:= [(79,(.slice (.st (.pair (.st (.pair .bool (.slice (.int .u32)))) (.st (.pair .bool (.slice (.int .u32)))))))),(91,(.st (.pair (.st (.pair .bool (.slice (.int .u32)))) (.st (.pair .bool (.slice (.int .u32))))))),(109, .func)],elems:= [],cons:= [(81,FX),(83,oP)],hint:= [],N:=18,base:=B}
theorem Bd{B:aj}(hB:aC B):aK Tryz.prog (ib B):=⟨⟨tc fN (tc ty91 (tc PD (ae))),af,by simp only[ib,ioB];omega⟩,aF (cc Tryz.func81 (H6 hB) (cc Tryz.func83 (wF hB) (ay))),by kernel_rfl⟩
def nF:Con:=fun l os=>match l,os with
 | [.z (.slice (.st (.pair (.st (.pair .bool (.slice (.int .u32)))) (.st (.pair .bool (.slice (.int .u32))))))) p, .z (.slice (.st (.pair (.st (.pair .bool (.slice (.int .u32)))) (.st (.pair .bool (.slice (.int .u32))))))) b], []=>some (xq p b, [.z (.slice (.st (.pair (.st (.pair .bool (.slice (.int .u32)))) (.st (.pair .bool (.slice (.int .u32))))))) (aI (km (an p) (an b)))], [])
 |_,_=>none
theorem H7{B:aj}(hB:aC B):Valid B Tryz.prog 80 nF:=by
 refine ab (Bd hB).tab Tryz.func80 rfl rfl rfl ?_
 intro args os C rs os' hc hC
 unfold nF at hc
 split at hc
 case h_2=>cases hc
 rename_i p b
 cases hc
 refine v_h (Bd hB) fun X hP hT hr hG=> ?_
 have hU:=ib.eq_1
 unfold ib at hT
 have hX:=ai @FX.eq_1<| @oP.eq_1
 simp only[Tryz.f80,aD,al,ioB]
 refine s_g hG ?_
 refine s_g hG ?_
 refine s_g hG ?_
 refine ak ?_
 refine s_g hG ?_
 refine au ?_
 refine wE hr (gf:=125) (caps:= [.z (.ptr (.slice (.st (.pair (.st (.pair .bool (.slice (.int .u32)))) (.st (.pair .bool (.slice (.int .u32)))))))) p]) (items:=bW p) (by simp only[hT,ib,mx0,mx1,mx2,mx3,mx4,mx5,mx6,aU,bm,bI,aY,bl,Ty.fieldTy,Ty.fieldOf,Nat.reduceLT,Nat.reduceEqDiff,Nat.reduceAdd,Nat.reduceMul,Nat.reduceSub,Nat.reduceLeDiff,Nat.reduceBEq,Nat.reduceBNe,reduceIte,reduceDIte,reduceCtorEq];try rfl) (by rfl) (by rw[hP];exact vA p) (by rfl) (ub:=(.st (.pair (.st (.pair .bool (.slice (.int .u32)))) (.st (.pair .bool (.slice (.int .u32))))))) (by rw[hP];exact ty91) (by simp only[hT,ib];omega) [3,5,6] (by rfl) (by simp only[hT,ib];try rfl) (fun(k:Nat) (z:Unit)=>(⟨[(3, .l (.z (.ptr (.slice (.st (.pair (.st (.pair .bool (.slice (.int .u32)))) (.st (.pair .bool (.slice (.int .u32)))))))) b)),(5, .l (.ownP 5 0)),(6, .l (.ownP 6 0))], [(5, .box 79 [.z (.slice (.st (.pair (.st (.pair .bool (.slice (.int .u32)))) (.st (.pair .bool (.slice (.int .u32))))))) (aI (gR (an p) (an b) k))]),(6, .box 109 [.fn 81 [.p 5, .z (.ptr (.slice (.st (.pair (.st (.pair .bool (.slice (.int .u32)))) (.st (.pair .bool (.slice (.int .u32)))))))) b]])]⟩:aa)) (fun(k:Nat) (z:Unit)=>True) () ?_ ?_ ?_ ?_ ?_
 ·simp only[ml0,ml1,Nat.reduceLT,Nat.reduceEqDiff,Nat.reduceAdd,Nat.reduceMul,Nat.reduceSub,Nat.reduceLeDiff,Nat.reduceBEq,Nat.reduceBNe,reduceIte,reduceDIte,reduceCtorEq]
  simp only[fZ]
  rfl
 ·trivial
 ·intro k z;rfl
 ·intro k hk
  rintro⟨⟩-
  have hk:k<p.length:=by simpa [bW] using hk
  have hg:=zG hC.1 (zH hk)
  refine⟨_,_,_,by simp only[hT,ib,bW,jB,mx0,mx1,mx2,mx3,mx4,mx5,mx6,aU,bm,bI,aY,bl,Ty.fieldTy,Ty.fieldOf,Nat.reduceLT,Nat.reduceEqDiff,Nat.reduceAdd,Nat.reduceMul,Nat.reduceSub,Nat.reduceLeDiff,Nat.reduceBEq,Nat.reduceBNe,reduceIte,reduceDIte,reduceCtorEq,List.getElem_map,List.getElem_range];rfl,by simp only[mx0,mx1,mx2,mx3,mx4,mx5,mx6,aU,bm,bI,aY,bl,Ty.fieldTy,Ty.fieldOf,Nat.reduceLT,Nat.reduceEqDiff,Nat.reduceAdd,Nat.reduceMul,Nat.reduceSub,Nat.reduceLeDiff,Nat.reduceBEq,Nat.reduceBNe,reduceIte,reduceDIte,reduceCtorEq];rfl,by rfl,by simp only[mx0,mx1,mx2,mx3,mx4,mx5,mx6,aU,bm,bI,aY,bl,Ty.fieldTy,Ty.fieldOf,Nat.reduceLT,Nat.reduceEqDiff,Nat.reduceAdd,Nat.reduceMul,Nat.reduceSub,Nat.reduceLeDiff,Nat.reduceBEq,Nat.reduceBNe,reduceIte,reduceDIte,reduceCtorEq]<;>rfl,by simp only[hT,ib,bW,jB,mx0,mx1,mx2,mx3,mx4,mx5,mx6,aU,bm,bI,aY,bl,Ty.fieldTy,Ty.fieldOf,Nat.reduceLT,Nat.reduceEqDiff,Nat.reduceAdd,Nat.reduceMul,Nat.reduceSub,Nat.reduceLeDiff,Nat.reduceBEq,Nat.reduceBNe,reduceIte,reduceDIte,reduceCtorEq,List.getElem_map,List.getElem_range];rfl,?_⟩
  intro X' hP' hT'
  have hG':aK X'.P X'.T:=by rw[hP',hT'];exact hG.keep _
  rw[hT] at hT'
  refine au ?_
  refine nS hG' ?_ ?_
  ·try simp only[ba]
   simp only[pe2,hg]
   exact hC.2.2 k hk
  refine aQ ?_
  show ∃ z,_
  simp only[ml0,ml1,Nat.reduceLT,Nat.reduceEqDiff,Nat.reduceAdd,Nat.reduceMul,Nat.reduceSub,Nat.reduceLeDiff,Nat.reduceBEq,Nat.reduceBNe,reduceIte,reduceDIte,reduceCtorEq]
  simp only[pe2,hg,aH,aN,gR,aL]
 ·rintro⟨⟩-
  rw[show (bW p).length=p.length by simp[bW]]
  refine aQ ?_
  refine ah ?_
  refine s_g hG ?_
  refine az ?_
  refine q_e [] ?_
  rw[km,aL]
def qV(B:aj):Tab:={types:= [(3,(.int .i64)),(22,(.slice .str)),(31,(.int .i64)),(46, .str)],elems:= [],cons:= [(87,lW),(106,FV)],hint:= [],N:=33,base:=B}
theorem Be{B:aj}(hB:aC B):aK Tryz.prog (qV B):=⟨⟨tc ty3 (tc gA (tc kJ (tc mw (ae)))),af,by simp only[qV,ioB];omega⟩,aF (cc Tryz.func87 (wu hB) (cc Tryz.func106 (HW hB) (ay))),by kernel_rfl⟩
def oQ:Con:=fun l os=>match l,os with
 | [.z (.slice .str) p], []=>some (de p, [.z (.slice (.st (.pair (.st (.pair .bool (.slice (.int .u32)))) (.st (.pair .bool (.slice (.int .u32))))))) (aI (bc p)), .z (.int .i64) (cQ p)], [])
 |_,_=>none
theorem wG{B:aj}(hB:aC B):Valid B Tryz.prog 54 oQ:=by
 refine ab (Be hB).tab Tryz.func54 rfl rfl rfl ?_
 intro args os C rs os' hc hC
 unfold oQ at hc
 split at hc
 case h_2=>cases hc
 rename_i p
 cases hc
 refine v_h (Be hB) fun X hP hT hr hG=> ?_
 have hU:=qV.eq_1
 unfold qV at hT
 have hX:=ai @lW.eq_1<| @FV.eq_1
 simp only[Tryz.f54,aD,al,ioB]
 have hl:p.length<1000000000+1:=by have:=hC.1;unfold QL at this;omega
 refine s_g hG ?_
 refine ak ?_
 refine s_g hG ?_
 refine aq ?_ ?_
 ·intro hb0
  try simp only[bt] at hb0
  have hl41:41<p.length:=by have h9:(41:Int)<(p.length:Int):=hb0;omega
  refine s_g hG ?_
  refine az ?_
  refine aB ?_
  refine q_e [] ?_
  exact tZ (Db hl41)
 ·intro hb0
  try simp only[bf] at hb0
  have hl41:p.length<=41:=by have h9: ¬ (41:Int)<(p.length:Int):=hb0;omega
  refine ar ?_
  refine ah ?_
  refine ak ?_
  refine s_g hG ?_
  refine au ?_
  refine br (fun(z:Nat)=>(⟨[(0, .l (.z (.slice .str) p)),(2, .l (.val (.slice none 0 0))),(3, .l (.z (.int .i64) 0)),(9, .l (.z (.slice .str) p)),(10, .l (.z (.int .i64) (p.length:Int))),(11, .l (.z (.int .i64) (z:Int)))], []⟩:aa)) (fun z=>z<=p.length/\(p.take z).all (fun q=>decide (dr q=0))=true) (fun z=>p.length-z) 0 ?_ ?_ ?_
  ·refine q_l ?_
   rfl
  ·exact⟨by omega,rfl⟩
  ·rintro k ⟨g1,g2⟩
   try dsimp only at g1 g2
   refine s_g hG ?_
   refine ak ?_
   refine aq ?_ ?_
   ·intro hb1
    try simp only[bt] at hb1
    have hk:k<p.length:=by have h9:(k:Int)<(p.length:Int):=hb1;omega
    refine ar ?_
    refine ah ?_
    refine ak ?_
    refine au ?_
    refine s_q hG ?_ ?_
    ·try simp only[ba]
     exact⟨by omega,hb1⟩
    refine s_q hG ?_ ?_
    ·try simp only[ba]
     exact hC.2 _ (gr (t:= .str) hk)
    refine aq ?_ ?_
    ·intro hb2
     try simp only[bt] at hb2
     refine s_g hG ?_
     refine az ?_
     refine bE ?_
     refine aB ?_
     refine eE ?_
     refine bE ?_
     refine aB ?_
     refine q_e [] ?_
     exact tZ (Hb hk hl41 hb2)
    ·intro hb2
     try simp only[bf] at hb2
     refine ar ?_
     refine aQ ?_
     refine ah ?_
     refine ag hG ?_ ?_
     ·first|trivial|omega|(simp;done)|(simp;omega)
     show ∃ z,_
     refine q_l ?_
     exact⟨k+1,wi (by omega) (by omega),hk,C9 hk g2 hb2,by omega⟩
   ·intro hb1
    try simp only[bf] at hb1
    have hk:k=p.length:=by have h9: ¬ (k:Int)<(p.length:Int):=hb1;omega
    subst hk
    rw[List.take_length] at g2
    refine bg ?_
    refine aE ?_
    refine ax ?_
    refine aw ?_
    refine ah ?_
    refine ak ?_
    refine s_q hG ?_ ?_
    ·try simp only[ba]
     exact Da hl41
    refine aq ?_ ?_
    ·intro hb3
     try simp only[bt] at hb3
     refine s_g hG ?_
     refine az ?_
     refine aB ?_
     refine q_e [] ?_
     exact tZ (Dc hl41 g2 hb3)
    ·intro hb3
     try simp only[bf] at hb3
     refine ar ?_
     refine ah ?_
     refine s_q hG ?_ ?_
     ·try simp only[ba]
      exact⟨by unfold QL;omega,(tY hC g2).1⟩
     refine az ?_
     refine q_e [] ?_
     exact Kv hC hl41 g2 hb3
def qW(B:aj):Tab:={types:= [(3,(.int .i64)),(22,(.slice .str)),(31,(.int .i64)),(44,(.slice (.slice .str))),(98,(.slice (.slice (.st (.pair (.st (.pair .bool (.slice (.int .u32)))) (.st (.pair .bool (.slice (.int .u32)))))))))],elems:= [(98,79)],cons:= [(54,oQ)],hint:= [],N:=29,base:=B}
theorem Bf{B:aj}(hB:aC B):aK Tryz.prog (qW B):=⟨⟨tc ty3 (tc gA (tc kJ (tc uI (tc uJ (ae))))),aR (by kernel_rfl) (af),by simp only[qW,ioB];omega⟩,aF (cc Tryz.func54 (wG hB) (ay)),by kernel_rfl⟩
def fx:Con:=fun l os=>match l,os with
 | [.z (.slice (.slice .str)) l], []=>some (l.length<=1000/\∀ p∈l,de p, [.z (.slice (.slice (.st (.pair (.st (.pair .bool (.slice (.int .u32)))) (.st (.pair .bool (.slice (.int .u32)))))))) (gS l), .z (.int .i64) (b4 l)], [])
 |_,_=>none
theorem eR{B:aj}(hB:aC B):Valid B Tryz.prog 67 fx:=by
 refine ab (Bf hB).tab Tryz.func67 rfl rfl rfl ?_
 intro args os C rs os' hc hC
 unfold fx at hc
 split at hc
 case h_2=>cases hc
 rename_i l
 cases hc
 refine v_h (Bf hB) fun X hP hT hr hG=> ?_
 have hU:=qW.eq_1
 unfold qW at hT
 have hX:= @oQ.eq_1
 simp only[Tryz.f67,aD,al,ioB]
 have hl:l.length<=1000:=hC.1
 refine s_g hG ?_
 refine DV ?_
 refine s_g hG ?_
 refine s_g hG ?_
 refine ak ?_
 refine DU ?_
 refine ah ?_
 refine ak ?_
 refine s_g hG ?_
 refine au ?_
 refine br (fun(z:Option (Nat))=>match z with|none=>((⟨[(0, .l (.z (.slice (.slice .str)) l)),(2, .l (.val (.slice none 0 0))),(3, .l (.z (.int .i64) 0)),(4, .l (.val (.slice none 0 0))),(5, .l (.z (.int .i64) 0)),(9, .l (.z (.slice (.slice .str)) l)),(10, .l (.z (.int .i64) (l.length:Int))),(11, .l (.z (.int .i64) 0))], []⟩:aa))|some z=>((⟨[(0, .l (.z (.slice (.slice .str)) l)),(2, .l (.val (.slice none 0 0))),(3, .l (.z (.int .i64) 0)),(4, .l (.ownS 25)),(5, .l (.z (.int .i64) 0)),(9, .l (.z (.slice (.slice .str)) l)),(10, .l (.z (.int .i64) (l.length:Int))),(11, .l (.z (.int .i64) (z:Int)))], [(25, .arr (.slice (.st (.pair (.st (.pair .bool (.slice (.int .u32)))) (.st (.pair .bool (.slice (.int .u32))))))) 79 ((l.take z).map fun p=>aI (bc p)))]⟩:aa))) (fun(z:Option (Nat))=>match z with|none=>(True)|some z=>(1<=z/\z<=l.length/\(l.take z).all (fun p=>decide (cQ p=0))=true)) (fun(z:Option (Nat))=>match z with|none=>(l.length+1)|some z=>(l.length-z)) none ?_ ?_ ?_
 ·simp only[ml0,ml1,Nat.reduceLT,Nat.reduceEqDiff,Nat.reduceAdd,Nat.reduceMul,Nat.reduceSub,Nat.reduceLeDiff,Nat.reduceBEq,Nat.reduceBNe,reduceIte,reduceDIte,reduceCtorEq]
 ·trivial
 ·rintro(_|k) hz_
  ·obtain⟨k,ek⟩:∃ k:Nat,k=0:=⟨0,rfl⟩
   have e0:(k:Int)=0:=by rw[ek];rfl
   refine s_g hG ?_
   refine ak ?_
   refine aq ?_ ?_
   ·intro hb0
    try simp only[bt] at hb0
    have hk:k<l.length:=by first|(have h9:(k:Int)<(l.length:Int):=hb0;omega)|(have h9:(0:Int)<(l.length:Int):=hb0;omega)
    refine ar ?_
    refine ah ?_
    refine ak ?_
    refine au ?_
    refine s_q hG ?_ ?_
    ·try simp only[ba]
     exact⟨by omega,hb0⟩
    refine s_g hG ?_
    refine ak ?_
    refine s_q hG ?_ ?_
    ·try simp only[ba]
     first|exact hC.2 _ (gr (t:= .slice .str) hk)|(subst ek;exact hC.2 _ (gr (t:= .slice .str) (k:=0) hk))
    refine s_g hG ?_
    refine aq ?_ ?_
    ·intro hb1
     try simp only[bt] at hb1
     refine s_g hG ?_
     refine bg ?_
     refine aE ?_
     refine iQ rfl ?_
     refine aE ?_
     refine ax ?_
     refine aw ?_
     refine ah ?_
     refine s_g hG ?_
     refine az ?_
     refine gy ?_
     refine q_e [] ?_
     subst ek;exact Hd hk hb1
    ·intro hb1
     try simp only[bf] at hb1
     refine ar ?_
     refine ah ?_
     refine ag hG ?_ ?_
     ·try simp only[ba]
      unfold Cm.Roomy;try simp only[List.length_map,List.length_take]
      omega
     refine aQ ?_
     refine ah ?_
     refine ag hG ?_ ?_
     ·first|trivial|omega|(simp;done)|(simp;omega)
     refine⟨some (1),?_⟩
     simp only[ml0,ml1,Nat.reduceLT,Nat.reduceEqDiff,Nat.reduceAdd,Nat.reduceMul,Nat.reduceSub,Nat.reduceLeDiff,Nat.reduceBEq,Nat.reduceBNe,reduceIte,reduceDIte,reduceCtorEq]
     subst ek;exact⟨hb1,zP hl hk hb1⟩
   ·intro hb0
    try simp only[bf] at hb0
    have hk: ¬k<l.length:=by intro h9;first|exact hb0 (show (k:Int)<(l.length:Int) by omega)|exact hb0 (show (0:Int)<(l.length:Int) by omega)
    refine bg ?_
    refine aE ?_
    refine ax ?_
    refine aw ?_
    refine ah ?_
    refine s_g hG ?_
    refine az ?_
    refine gy ?_
    refine q_e [] ?_
    subst ek;exact He hk
  ·obtain⟨g0,g1,g2⟩:=hz_
   try dsimp only at g0 g1 g2
   refine s_g hG ?_
   refine ak ?_
   refine aq ?_ ?_
   ·intro hb0
    try simp only[bt] at hb0
    have hk:k<l.length:=by first|(have h9:(k:Int)<(l.length:Int):=hb0;omega)|(have h9:(0:Int)<(l.length:Int):=hb0;omega)
    refine ar ?_
    refine ah ?_
    refine ak ?_
    refine au ?_
    refine s_q hG ?_ ?_
    ·try simp only[ba]
     exact⟨by omega,hb0⟩
    refine s_g hG ?_
    refine ak ?_
    refine s_q hG ?_ ?_
    ·try simp only[ba]
     first|exact hC.2 _ (gr (t:= .slice .str) hk)|(subst ek;exact hC.2 _ (gr (t:= .slice .str) (k:=0) hk))
    refine s_g hG ?_
    refine aq ?_ ?_
    ·intro hb1
     try simp only[bt] at hb1
     refine s_g hG ?_
     refine bg ?_
     refine aE ?_
     refine iQ rfl ?_
     refine aE ?_
     refine ax ?_
     refine aw ?_
     refine ah ?_
     refine s_g hG ?_
     refine az ?_
     refine gy ?_
     refine q_e [] ?_
     exact zO hk g2 hb1
    ·intro hb1
     try simp only[bf] at hb1
     refine ar ?_
     refine ah ?_
     refine ag hG ?_ ?_
     ·try simp only[ba]
      unfold Cm.Roomy;try simp only[List.length_map,List.length_take]
      omega
     refine aQ ?_
     refine ah ?_
     refine ag hG ?_ ?_
     ·first|trivial|omega|(simp;done)|(simp;omega)
     refine⟨some (k+1),?_⟩
     simp only[ml0,ml1,Nat.reduceLT,Nat.reduceEqDiff,Nat.reduceAdd,Nat.reduceMul,Nat.reduceSub,Nat.reduceLeDiff,Nat.reduceBEq,Nat.reduceBNe,reduceIte,reduceDIte,reduceCtorEq]
     have hr:=ua hl hk g2 hb1
     exact⟨hb1,hr⟩
   ·intro hb0
    try simp only[bf] at hb0
    have hk: ¬k<l.length:=by intro h9;first|exact hb0 (show (k:Int)<(l.length:Int) by omega)|exact hb0 (show (0:Int)<(l.length:Int) by omega)
    refine bg ?_
    refine aE ?_
    refine ax ?_
    refine aw ?_
    refine ah ?_
    refine s_g hG ?_
    refine az ?_
    refine gy ?_
    refine q_e [25] ?_
    rw[List.take_of_length_le (by omega)] at g2 ⊢
    exact Kx g2
def qX(B:aj):Tab:={types:= [(3,(.int .i64)),(78,(.slice (.st (.pair (.st (.pair .bool (.slice (.int .u32)))) (.st (.pair .bool (.slice (.int .u32)))))))),(79,(.slice (.st (.pair (.st (.pair .bool (.slice (.int .u32)))) (.st (.pair .bool (.slice (.int .u32))))))))],elems:= [],cons:= [(82,ji),(88,oL)],hint:= [],N:=19,base:=B}
theorem Bg{B:aj}(hB:aC B):aK Tryz.prog (qX B):=⟨⟨tc ty3 (tc Mw (tc fN (ae))),af,by simp only[qX,ioB];omega⟩,aF (cc Tryz.func82 (iF hB) (cc Tryz.func88 (wv hB) (ay))),by kernel_rfl⟩
def ee:Con:=fun l os=>match l,os with
 | [.z (.slice (.st (.pair (.st (.pair .bool (.slice (.int .u32)))) (.st (.pair .bool (.slice (.int .u32))))))) p], []=>some (Sz QC p/\p.length<=QL, [.z (.slice .str) (gT (aS (an p))), .z (.int .i64) (cm (aS (an p)))], [])
 |_,_=>none
theorem fy{B:aj}(hB:aC B):Valid B Tryz.prog 69 ee:=by
 refine ab (Bg hB).tab Tryz.func69 rfl rfl rfl ?_
 intro args os C rs os' hc hC
 unfold ee at hc
 split at hc
 case h_2=>cases hc
 rename_i p
 cases hc
 refine v_h (Bg hB) fun X hP hT hr hG=> ?_
 have hU:=qX.eq_1
 unfold qX at hT
 have hX:=ai @oL.eq_1<| @ji.eq_1
 simp only[Tryz.f69,aD,al,ioB]
 refine s_g hG ?_
 refine s_q hG ?_ ?_
 ·try simp only[ba]
  exact hC
 refine ak ?_
 refine s_g hG ?_
 refine aq ?_ ?_
 ·intro hb0
  try simp only[bt] at hb0
  have hl:41<(aS (an p)).length:=by have h9:(41:Int)<((aI (aS (an p))).length:Int):=hb0;rw[aA] at h9;omega
  refine s_g hG ?_
  refine az ?_
  refine aB ?_
  refine q_e [] ?_
  exact Dd hl
 ·intro hb0
  try simp only[bf] at hb0
  have hl: ¬41<(aS (an p)).length:=by have h9: ¬ (41:Int)<((aI (aS (an p))).length:Int):=hb0;rw[aA] at h9;omega
  refine ar ?_
  refine ah ?_
  refine s_q hG ?_ ?_
  ·try simp only[ba]
   exact Hg hC hl
  refine ak ?_
  refine s_g hG ?_
  refine aq ?_ ?_
  ·intro hb1
   try simp only[bt] at hb1
   refine s_g hG ?_
   refine az ?_
   refine aB ?_
   refine q_e [] ?_
   exact Hf hl hb1
  ·intro hb1
   try simp only[bf] at hb1
   refine ar ?_
   refine ah ?_
   refine s_g hG ?_
   refine az ?_
   refine q_e [] ?_
   exact Ky hl hb1
def qY(B:aj):Tab:={types:= [(79,(.slice (.st (.pair (.st (.pair .bool (.slice (.int .u32)))) (.st (.pair .bool (.slice (.int .u32)))))))),(84, .func)],elems:= [],cons:= [(57,pO)],hint:= [],N:=8,base:=B}
theorem Bh{B:aj}(hB:aC B):aK Tryz.prog (qY B):=⟨⟨tc fN (tc O1 (ae)),af,by simp only[qY,ioB];omega⟩,aF (cc Tryz.func57 (mK hB) (ay)),by kernel_rfl⟩
def FY:Con:=fun l os=>match l,os with
 | [.z (.slice (.st (.pair (.st (.pair .bool (.slice (.int .u32)))) (.st (.pair .bool (.slice (.int .u32))))))) p, .z (.slice (.st (.pair (.st (.pair .bool (.slice (.int .u32)))) (.st (.pair .bool (.slice (.int .u32))))))) q], []=>some (Sz QH p/\Sz QH q/\p.length<=1000/\q.length<=1000, [.z (.slice (.st (.pair (.st (.pair .bool (.slice (.int .u32)))) (.st (.pair .bool (.slice (.int .u32))))))) (aI (bL (· + ·) (an p) (an q)))], [])
 |_,_=>none
theorem H8{B:aj}(hB:aC B):Valid B Tryz.prog 56 FY:=by
 refine ab (Bh hB).tab Tryz.func56 rfl rfl rfl ?_
 intro args os C rs os' hc hC
 unfold FY at hc
 split at hc
 case h_2=>cases hc
 rename_i p q
 cases hc
 refine v_h (Bh hB) fun X hP hT hr hG=> ?_
 have hU:=qY.eq_1
 unfold qY at hT
 have hX:= @pO.eq_1
 simp only[Tryz.f56,aD,al,ioB]
 refine s_g hG ?_
 refine s_q hG ?_ ?_
 ·try simp only[ba]
  exact⟨by simp,hC⟩
 refine az ?_
 refine q_e [] ?_
 trivial
def qZ(B:aj):Tab:={types:= [(79,(.slice (.st (.pair (.st (.pair .bool (.slice (.int .u32)))) (.st (.pair .bool (.slice (.int .u32)))))))),(84, .func)],elems:= [],cons:= [(57,pO)],hint:= [],N:=8,base:=B}
theorem Bi{B:aj}(hB:aC B):aK Tryz.prog (qZ B):=⟨⟨tc fN (tc O1 (ae)),af,by simp only[qZ,ioB];omega⟩,aF (cc Tryz.func57 (mK hB) (ay)),by kernel_rfl⟩
def FZ:Con:=fun l os=>match l,os with
 | [.z (.slice (.st (.pair (.st (.pair .bool (.slice (.int .u32)))) (.st (.pair .bool (.slice (.int .u32))))))) p, .z (.slice (.st (.pair (.st (.pair .bool (.slice (.int .u32)))) (.st (.pair .bool (.slice (.int .u32))))))) q], []=>some (Sz QH p/\Sz QH q/\p.length<=1000/\q.length<=1000, [.z (.slice (.st (.pair (.st (.pair .bool (.slice (.int .u32)))) (.st (.pair .bool (.slice (.int .u32))))))) (aI (bL (· - ·) (an p) (an q)))], [])
 |_,_=>none
theorem H9{B:aj}(hB:aC B):Valid B Tryz.prog 59 FZ:=by
 refine ab (Bi hB).tab Tryz.func59 rfl rfl rfl ?_
 intro args os C rs os' hc hC
 unfold FZ at hc
 split at hc
 case h_2=>cases hc
 rename_i p q
 cases hc
 refine v_h (Bi hB) fun X hP hT hr hG=> ?_
 have hU:=qZ.eq_1
 unfold qZ at hT
 have hX:= @pO.eq_1
 simp only[Tryz.f59,aD,al,ioB]
 refine s_g hG ?_
 refine s_q hG ?_ ?_
 ·try simp only[ba]
  exact⟨by simp,hC⟩
 refine az ?_
 refine q_e [] ?_
 trivial
def q8(B:aj):Tab:={types:= [(79,(.slice (.st (.pair (.st (.pair .bool (.slice (.int .u32)))) (.st (.pair .bool (.slice (.int .u32))))))))],elems:= [],cons:= [(77,jJ)],hint:= [],N:=7,base:=B}
theorem Bj{B:aj}(hB:aC B):aK Tryz.prog (q8 B):=⟨⟨tc fN (ae),af,by simp only[q8,ioB];omega⟩,aF (cc Tryz.func77 (wB hB) (ay)),by kernel_rfl⟩
def F0:Con:=fun l os=>match l,os with
 | [.z (.slice (.st (.pair (.st (.pair .bool (.slice (.int .u32)))) (.st (.pair .bool (.slice (.int .u32))))))) p, .z (.slice (.st (.pair (.st (.pair .bool (.slice (.int .u32)))) (.st (.pair .bool (.slice (.int .u32))))))) q], []=>some (Sz QH p/\p.length<=1000, [.z (.slice (.st (.pair (.st (.pair .bool (.slice (.int .u32)))) (.st (.pair .bool (.slice (.int .u32))))))) (aI (cy (an p)))], [])
 |_,_=>none
theorem Ia{B:aj}(hB:aC B):Valid B Tryz.prog 76 F0:=by
 refine ab (Bj hB).tab Tryz.func76 rfl rfl rfl ?_
 intro args os C rs os' hc hC
 unfold F0 at hc
 split at hc
 case h_2=>cases hc
 rename_i p q
 cases hc
 refine v_h (Bj hB) fun X hP hT hr hG=> ?_
 have hU:=q8.eq_1
 unfold q8 at hT
 have hX:= @jJ.eq_1
 simp only[Tryz.f76,aD,al,ioB]
 refine s_g hG ?_
 refine s_q hG ?_ ?_
 ·try simp only[ba]
  exact hC
 refine az ?_
 refine q_e [] ?_
 trivial
def q9(B:aj):Tab:={types:= [(79,(.slice (.st (.pair (.st (.pair .bool (.slice (.int .u32)))) (.st (.pair .bool (.slice (.int .u32))))))))],elems:= [],cons:= [(79,qQ)],hint:= [],N:=7,base:=B}
theorem Bk{B:aj}(hB:aC B):aK Tryz.prog (q9 B):=⟨⟨tc fN (ae),af,by simp only[q9,ioB];omega⟩,aF (cc Tryz.func79 (H1 hB) (ay)),by kernel_rfl⟩
def F1:Con:=fun l os=>match l,os with
 | [.z (.slice (.st (.pair (.st (.pair .bool (.slice (.int .u32)))) (.st (.pair .bool (.slice (.int .u32))))))) p, .z (.slice (.st (.pair (.st (.pair .bool (.slice (.int .u32)))) (.st (.pair .bool (.slice (.int .u32))))))) q], []=>some (me p, [.z (.slice (.st (.pair (.st (.pair .bool (.slice (.int .u32)))) (.st (.pair .bool (.slice (.int .u32))))))) (aI (cw (an p)))], [])
 |_,_=>none
theorem Ib{B:aj}(hB:aC B):Valid B Tryz.prog 78 F1:=by
 refine ab (Bk hB).tab Tryz.func78 rfl rfl rfl ?_
 intro args os C rs os' hc hC
 unfold F1 at hc
 split at hc
 case h_2=>cases hc
 rename_i p q
 cases hc
 refine v_h (Bk hB) fun X hP hT hr hG=> ?_
 have hU:=q9.eq_1
 unfold q9 at hT
 have hX:= @qQ.eq_1
 simp only[Tryz.f78,aD,al,ioB]
 refine s_g hG ?_
 refine s_q hG ?_ ?_
 ·try simp only[ba]
  exact hC
 refine az ?_
 refine q_e [] ?_
 trivial
def ra(B:aj):Tab:={types:= [(31,(.int .i64)),(44,(.slice (.slice .str))),(79,(.slice (.st (.pair (.st (.pair .bool (.slice (.int .u32)))) (.st (.pair .bool (.slice (.int .u32)))))))),(98,(.slice (.slice (.st (.pair (.st (.pair .bool (.slice (.int .u32)))) (.st (.pair .bool (.slice (.int .u32)))))))))],elems:= [(44,22)],cons:= [(56,FY),(67,fx),(69,ee)],hint:= [],N:=31,base:=B}
theorem Bl{B:aj}(hB:aC B):aK Tryz.prog (ra B):=⟨⟨tc kJ (tc uI (tc fN (tc uJ (ae)))),aR (by kernel_rfl) (af),by simp only[ra,ioB];omega⟩,aF (cc Tryz.func56 (H8 hB) (cc Tryz.func67 (eR hB) (cc Tryz.func69 (fy hB) (ay)))),by kernel_rfl⟩
def rb:Con:=fun l os=>match l,os with
 | [.z (.slice .str) p, .z (.slice .str) q, .val (.func (.func g) fs cs)], []=>some ((g=56/\fs.size=0/\cs.size=0)/\bK (fun p q=>Sz QH p/\Sz QH q/\p.length<=1000/\q.length<=1000) (bL (· + ·)) p q, [.z (.slice .str) (dc (bL (· + ·)) p q), .z (.int .i64) (db (bL (· + ·)) p q)], [])
 |_,_=>none
theorem Ic{B:aj}(hB:aC B):Valid B Tryz.prog 55 rb:=by
 refine ab (Bl hB).tab Tryz.func55 rfl rfl rfl ?_
 intro args os C rs os' hc hC
 unfold rb at hc
 split at hc
 case h_2=>cases hc
 rename_i p q g fs cs
 cases hc
 refine v_h (Bl hB) fun X hP hT hr hG=> ?_
 have hU:=ra.eq_1
 unfold ra at hT
 have hX:=ai @FY.eq_1<|ai @fx.eq_1<| @ee.eq_1
 simp only[Tryz.f55,aD,al,ioB]
 obtain⟨⟨rfl,e1,e2⟩,hp,hq,hD⟩:=hC
 obtain rfl:=Array.eq_empty_of_size_eq_zero e1
 obtain rfl:=Array.eq_empty_of_size_eq_zero e2
 refine s_g hG ?_
 refine s_q hG ?_ ?_
 ·try simp only[ba]
  exact(gE hp hq).2
 refine ak ?_
 refine s_g hG ?_
 refine aq ?_ ?_
 ·intro hb0
  try simp only[bt] at hb0
  refine s_g hG ?_
  refine az ?_
  refine aB ?_
  refine q_e [] ?_
  exact iA hb0
 ·intro hb0
  try simp only[bf] at hb0
  have n0:=iX hb0
  have n1:=iY hb0
  have nl:=gD hb0
  have hE:=hD hb0
  refine ar ?_
  refine ah ?_
  refine s_d hG ?_ ?_
  ·try simp only[ba]
   simp only[NT] at n0 n1
   simp only[n0,n1,nl,aH]
   exact⟨by decide,by decide,hE.1,hE.2.1,by rw[aA];exact hE.2.2⟩
  refine az ?_
  refine q_e [] ?_
  simp only[NT] at n0 n1
  simp only[n0,n1,aH]
  exact ka (f:=(bL (· + ·))) hb0
def re(B:aj):Tab:={types:= [(31,(.int .i64)),(44,(.slice (.slice .str))),(79,(.slice (.st (.pair (.st (.pair .bool (.slice (.int .u32)))) (.st (.pair .bool (.slice (.int .u32)))))))),(98,(.slice (.slice (.st (.pair (.st (.pair .bool (.slice (.int .u32)))) (.st (.pair .bool (.slice (.int .u32)))))))))],elems:= [(44,22)],cons:= [(59,FZ),(67,fx),(69,ee)],hint:= [],N:=31,base:=B}
theorem Bm{B:aj}(hB:aC B):aK Tryz.prog (re B):=⟨⟨tc kJ (tc uI (tc fN (tc uJ (ae)))),aR (by kernel_rfl) (af),by simp only[re,ioB];omega⟩,aF (cc Tryz.func59 (H9 hB) (cc Tryz.func67 (eR hB) (cc Tryz.func69 (fy hB) (ay)))),by kernel_rfl⟩
def rf:Con:=fun l os=>match l,os with
 | [.z (.slice .str) p, .z (.slice .str) q, .val (.func (.func g) fs cs)], []=>some ((g=59/\fs.size=0/\cs.size=0)/\bK (fun p q=>Sz QH p/\Sz QH q/\p.length<=1000/\q.length<=1000) (bL (· - ·)) p q, [.z (.slice .str) (dc (bL (· - ·)) p q), .z (.int .i64) (db (bL (· - ·)) p q)], [])
 |_,_=>none
theorem Ie{B:aj}(hB:aC B):Valid B Tryz.prog 55 rf:=by
 refine ab (Bm hB).tab Tryz.func55 rfl rfl rfl ?_
 intro args os C rs os' hc hC
 unfold rf at hc
 split at hc
 case h_2=>cases hc
 rename_i p q g fs cs
 cases hc
 refine v_h (Bm hB) fun X hP hT hr hG=> ?_
 have hU:=re.eq_1
 unfold re at hT
 have hX:=ai @fx.eq_1<|ai @FZ.eq_1<| @ee.eq_1
 simp only[Tryz.f55,aD,al,ioB]
 obtain⟨⟨rfl,e1,e2⟩,hp,hq,hD⟩:=hC
 obtain rfl:=Array.eq_empty_of_size_eq_zero e1
 obtain rfl:=Array.eq_empty_of_size_eq_zero e2
 refine s_g hG ?_
 refine s_q hG ?_ ?_
 ·try simp only[ba]
  exact(gE hp hq).2
 refine ak ?_
 refine s_g hG ?_
 refine aq ?_ ?_
 ·intro hb0
  try simp only[bt] at hb0
  refine s_g hG ?_
  refine az ?_
  refine aB ?_
  refine q_e [] ?_
  exact iA hb0
 ·intro hb0
  try simp only[bf] at hb0
  have n0:=iX hb0
  have n1:=iY hb0
  have nl:=gD hb0
  have hE:=hD hb0
  refine ar ?_
  refine ah ?_
  refine s_d hG ?_ ?_
  ·try simp only[ba]
   simp only[NT] at n0 n1
   simp only[n0,n1,nl,aH]
   exact⟨by decide,by decide,hE.1,hE.2.1,by rw[aA];exact hE.2.2⟩
  refine az ?_
  refine q_e [] ?_
  simp only[NT] at n0 n1
  simp only[n0,n1,aH]
  exact ka (f:=(bL (· - ·))) hb0
def rh(B:aj):Tab:={types:= [(31,(.int .i64)),(44,(.slice (.slice .str))),(79,(.slice (.st (.pair (.st (.pair .bool (.slice (.int .u32)))) (.st (.pair .bool (.slice (.int .u32)))))))),(98,(.slice (.slice (.st (.pair (.st (.pair .bool (.slice (.int .u32)))) (.st (.pair .bool (.slice (.int .u32)))))))))],elems:= [(44,22)],cons:= [(61,oM),(67,fx),(69,ee)],hint:= [],N:=31,base:=B}
theorem Bn{B:aj}(hB:aC B):aK Tryz.prog (rh B):=⟨⟨tc kJ (tc uI (tc fN (tc uJ (ae)))),aR (by kernel_rfl) (af),by simp only[rh,ioB];omega⟩,aF (cc Tryz.func61 (wz hB) (cc Tryz.func67 (eR hB) (cc Tryz.func69 (fy hB) (ay)))),by kernel_rfl⟩
def ri:Con:=fun l os=>match l,os with
 | [.z (.slice .str) p, .z (.slice .str) q, .val (.func (.func g) fs cs)], []=>some ((g=61/\fs.size=0/\cs.size=0)/\bK (fun p q=>Sz QM p/\Sz QM q/\p.length<=100/\q.length<=100) b6 p q, [.z (.slice .str) (dc b6 p q), .z (.int .i64) (db b6 p q)], [])
 |_,_=>none
theorem Ig{B:aj}(hB:aC B):Valid B Tryz.prog 55 ri:=by
 refine ab (Bn hB).tab Tryz.func55 rfl rfl rfl ?_
 intro args os C rs os' hc hC
 unfold ri at hc
 split at hc
 case h_2=>cases hc
 rename_i p q g fs cs
 cases hc
 refine v_h (Bn hB) fun X hP hT hr hG=> ?_
 have hU:=rh.eq_1
 unfold rh at hT
 have hX:=ai @fx.eq_1<|ai @oM.eq_1<| @ee.eq_1
 simp only[Tryz.f55,aD,al,ioB]
 obtain⟨⟨rfl,e1,e2⟩,hp,hq,hD⟩:=hC
 obtain rfl:=Array.eq_empty_of_size_eq_zero e1
 obtain rfl:=Array.eq_empty_of_size_eq_zero e2
 refine s_g hG ?_
 refine s_q hG ?_ ?_
 ·try simp only[ba]
  exact(gE hp hq).2
 refine ak ?_
 refine s_g hG ?_
 refine aq ?_ ?_
 ·intro hb0
  try simp only[bt] at hb0
  refine s_g hG ?_
  refine az ?_
  refine aB ?_
  refine q_e [] ?_
  exact iA hb0
 ·intro hb0
  try simp only[bf] at hb0
  have n0:=iX hb0
  have n1:=iY hb0
  have nl:=gD hb0
  have hE:=hD hb0
  refine ar ?_
  refine ah ?_
  refine s_d hG ?_ ?_
  ·try simp only[ba]
   simp only[NT] at n0 n1
   simp only[n0,n1,nl,aH]
   exact⟨by decide,by decide,hE.1,hE.2.1,by rw[aA];exact hE.2.2⟩
  refine az ?_
  refine q_e [] ?_
  simp only[NT] at n0 n1
  simp only[n0,n1,aH]
  exact ka (f:=b6) hb0
def rj(B:aj):Tab:={types:= [(31,(.int .i64)),(44,(.slice (.slice .str))),(79,(.slice (.st (.pair (.st (.pair .bool (.slice (.int .u32)))) (.st (.pair .bool (.slice (.int .u32)))))))),(98,(.slice (.slice (.st (.pair (.st (.pair .bool (.slice (.int .u32)))) (.st (.pair .bool (.slice (.int .u32)))))))))],elems:= [(44,22)],cons:= [(67,fx),(69,ee),(70,lX)],hint:= [],N:=31,base:=B}
theorem Bo{B:aj}(hB:aC B):aK Tryz.prog (rj B):=⟨⟨tc kJ (tc uI (tc fN (tc uJ (ae)))),aR (by kernel_rfl) (af),by simp only[rj,ioB];omega⟩,aF (cc Tryz.func67 (eR hB) (cc Tryz.func69 (fy hB) (cc Tryz.func70 (wC hB) (ay)))),by kernel_rfl⟩
def rk:Con:=fun l os=>match l,os with
 | [.z (.slice .str) p, .z (.slice .str) q, .val (.func (.func g) fs cs)], []=>some ((g=70/\fs.size=0/\cs.size=0)/\bK (fX) bw p q, [.z (.slice .str) (dc bw p q), .z (.int .i64) (db bw p q)], [])
 |_,_=>none
theorem Ih{B:aj}(hB:aC B):Valid B Tryz.prog 55 rk:=by
 refine ab (Bo hB).tab Tryz.func55 rfl rfl rfl ?_
 intro args os C rs os' hc hC
 unfold rk at hc
 split at hc
 case h_2=>cases hc
 rename_i p q g fs cs
 cases hc
 refine v_h (Bo hB) fun X hP hT hr hG=> ?_
 have hU:=rj.eq_1
 unfold rj at hT
 have hX:=ai @fx.eq_1<|ai @lX.eq_1<| @ee.eq_1
 simp only[Tryz.f55,aD,al,ioB]
 obtain⟨⟨rfl,e1,e2⟩,hp,hq,hD⟩:=hC
 obtain rfl:=Array.eq_empty_of_size_eq_zero e1
 obtain rfl:=Array.eq_empty_of_size_eq_zero e2
 refine s_g hG ?_
 refine s_q hG ?_ ?_
 ·try simp only[ba]
  exact(gE hp hq).2
 refine ak ?_
 refine s_g hG ?_
 refine aq ?_ ?_
 ·intro hb0
  try simp only[bt] at hb0
  refine s_g hG ?_
  refine az ?_
  refine aB ?_
  refine q_e [] ?_
  exact iA hb0
 ·intro hb0
  try simp only[bf] at hb0
  have n0:=iX hb0
  have n1:=iY hb0
  have nl:=gD hb0
  have hE:=hD hb0
  refine ar ?_
  refine ah ?_
  refine s_d hG ?_ ?_
  ·try simp only[ba]
   simp only[NT] at n0 n1
   simp only[n0,n1,nl,aH]
   exact⟨by decide,by decide,hE.1,hE.2.1,by rw[aA];exact hE.2.2⟩
  refine az ?_
  refine q_e [] ?_
  simp only[NT] at n0 n1
  simp only[n0,n1,aH]
  exact ka (f:=bw) hb0
def rl(B:aj):Tab:={types:= [(31,(.int .i64)),(44,(.slice (.slice .str))),(79,(.slice (.st (.pair (.st (.pair .bool (.slice (.int .u32)))) (.st (.pair .bool (.slice (.int .u32)))))))),(98,(.slice (.slice (.st (.pair (.st (.pair .bool (.slice (.int .u32)))) (.st (.pair .bool (.slice (.int .u32)))))))))],elems:= [(44,22)],cons:= [(67,fx),(69,ee),(76,F0)],hint:= [],N:=31,base:=B}
theorem Bp{B:aj}(hB:aC B):aK Tryz.prog (rl B):=⟨⟨tc kJ (tc uI (tc fN (tc uJ (ae)))),aR (by kernel_rfl) (af),by simp only[rl,ioB];omega⟩,aF (cc Tryz.func67 (eR hB) (cc Tryz.func69 (fy hB) (cc Tryz.func76 (Ia hB) (ay)))),by kernel_rfl⟩
def rm:Con:=fun l os=>match l,os with
 | [.z (.slice .str) p, .z (.slice .str) q, .val (.func (.func g) fs cs)], []=>some ((g=76/\fs.size=0/\cs.size=0)/\bK (fun p _=>Sz QH p/\p.length<=1000) (fun a _=>cy a) p q, [.z (.slice .str) (dc (fun a _=>cy a) p q), .z (.int .i64) (db (fun a _=>cy a) p q)], [])
 |_,_=>none
theorem Ii{B:aj}(hB:aC B):Valid B Tryz.prog 55 rm:=by
 refine ab (Bp hB).tab Tryz.func55 rfl rfl rfl ?_
 intro args os C rs os' hc hC
 unfold rm at hc
 split at hc
 case h_2=>cases hc
 rename_i p q g fs cs
 cases hc
 refine v_h (Bp hB) fun X hP hT hr hG=> ?_
 have hU:=rl.eq_1
 unfold rl at hT
 have hX:=ai @fx.eq_1<|ai @F0.eq_1<| @ee.eq_1
 simp only[Tryz.f55,aD,al,ioB]
 obtain⟨⟨rfl,e1,e2⟩,hp,hq,hD⟩:=hC
 obtain rfl:=Array.eq_empty_of_size_eq_zero e1
 obtain rfl:=Array.eq_empty_of_size_eq_zero e2
 refine s_g hG ?_
 refine s_q hG ?_ ?_
 ·try simp only[ba]
  exact(gE hp hq).2
 refine ak ?_
 refine s_g hG ?_
 refine aq ?_ ?_
 ·intro hb0
  try simp only[bt] at hb0
  refine s_g hG ?_
  refine az ?_
  refine aB ?_
  refine q_e [] ?_
  exact iA hb0
 ·intro hb0
  try simp only[bf] at hb0
  have n0:=iX hb0
  have n1:=iY hb0
  have nl:=gD hb0
  have hE:=hD hb0
  refine ar ?_
  refine ah ?_
  refine s_d hG ?_ ?_
  ·try simp only[ba]
   simp only[NT] at n0 n1
   simp only[n0,n1,nl,aH]
   exact⟨by decide,by decide,hE.1,hE.2.1,by rw[aA];exact hE.2.2⟩
  refine az ?_
  refine q_e [] ?_
  simp only[NT] at n0 n1
  simp only[n0,n1,aH]
  exact ka (f:=(fun a _=>cy a)) hb0
def uu:Con:=jd [none,some (.slice .str),none] rm
theorem Du{B:aj}(hB:aC B):Valid B Tryz.prog 55 uu:=fm _ (Ii hB)
def rn(B:aj):Tab:={types:= [(31,(.int .i64)),(44,(.slice (.slice .str))),(79,(.slice (.st (.pair (.st (.pair .bool (.slice (.int .u32)))) (.st (.pair .bool (.slice (.int .u32)))))))),(98,(.slice (.slice (.st (.pair (.st (.pair .bool (.slice (.int .u32)))) (.st (.pair .bool (.slice (.int .u32)))))))))],elems:= [(44,22)],cons:= [(67,fx),(69,ee),(78,F1)],hint:= [],N:=31,base:=B}
theorem Bq{B:aj}(hB:aC B):aK Tryz.prog (rn B):=⟨⟨tc kJ (tc uI (tc fN (tc uJ (ae)))),aR (by kernel_rfl) (af),by simp only[rn,ioB];omega⟩,aF (cc Tryz.func67 (eR hB) (cc Tryz.func69 (fy hB) (cc Tryz.func78 (Ib hB) (ay)))),by kernel_rfl⟩
def rp:Con:=fun l os=>match l,os with
 | [.z (.slice .str) p, .z (.slice .str) q, .val (.func (.func g) fs cs)], []=>some ((g=78/\fs.size=0/\cs.size=0)/\bK (fun p _=>me p) (fun a _=>cw a) p q, [.z (.slice .str) (dc (fun a _=>cw a) p q), .z (.int .i64) (db (fun a _=>cw a) p q)], [])
 |_,_=>none
theorem Ij{B:aj}(hB:aC B):Valid B Tryz.prog 55 rp:=by
 refine ab (Bq hB).tab Tryz.func55 rfl rfl rfl ?_
 intro args os C rs os' hc hC
 unfold rp at hc
 split at hc
 case h_2=>cases hc
 rename_i p q g fs cs
 cases hc
 refine v_h (Bq hB) fun X hP hT hr hG=> ?_
 have hU:=rn.eq_1
 unfold rn at hT
 have hX:=ai @fx.eq_1<|ai @F1.eq_1<| @ee.eq_1
 simp only[Tryz.f55,aD,al,ioB]
 obtain⟨⟨rfl,e1,e2⟩,hp,hq,hD⟩:=hC
 obtain rfl:=Array.eq_empty_of_size_eq_zero e1
 obtain rfl:=Array.eq_empty_of_size_eq_zero e2
 refine s_g hG ?_
 refine s_q hG ?_ ?_
 ·try simp only[ba]
  exact(gE hp hq).2
 refine ak ?_
 refine s_g hG ?_
 refine aq ?_ ?_
 ·intro hb0
  try simp only[bt] at hb0
  refine s_g hG ?_
  refine az ?_
  refine aB ?_
  refine q_e [] ?_
  exact iA hb0
 ·intro hb0
  try simp only[bf] at hb0
  have n0:=iX hb0
  have n1:=iY hb0
  have nl:=gD hb0
  have hE:=hD hb0
  refine ar ?_
  refine ah ?_
  refine s_d hG ?_ ?_
  ·try simp only[ba]
   simp only[NT] at n0 n1
   simp only[n0,n1,nl,aH]
   exact⟨by decide,by decide,hE.1,hE.2.1,by rw[aA];exact hE.2.2⟩
  refine az ?_
  refine q_e [] ?_
  simp only[NT] at n0 n1
  simp only[n0,n1,aH]
  exact ka (f:=(fun a _=>cw a)) hb0
def uv:Con:=jd [none,some (.slice .str),none] rp
theorem Dw{B:aj}(hB:aC B):Valid B Tryz.prog 55 uv:=fm _ (Ij hB)
def rq(B:aj):Tab:={types:= [(31,(.int .i64)),(44,(.slice (.slice .str))),(79,(.slice (.st (.pair (.st (.pair .bool (.slice (.int .u32)))) (.st (.pair .bool (.slice (.int .u32)))))))),(98,(.slice (.slice (.st (.pair (.st (.pair .bool (.slice (.int .u32)))) (.st (.pair .bool (.slice (.int .u32)))))))))],elems:= [(44,22)],cons:= [(67,fx),(69,ee),(80,nF)],hint:= [],N:=31,base:=B}
theorem Br{B:aj}(hB:aC B):aK Tryz.prog (rq B):=⟨⟨tc kJ (tc uI (tc fN (tc uJ (ae)))),aR (by kernel_rfl) (af),by simp only[rq,ioB];omega⟩,aF (cc Tryz.func67 (eR hB) (cc Tryz.func69 (fy hB) (cc Tryz.func80 (H7 hB) (ay)))),by kernel_rfl⟩
def rr:Con:=fun l os=>match l,os with
 | [.z (.slice .str) p, .z (.slice .str) q, .val (.func (.func g) fs cs)], []=>some ((g=80/\fs.size=0/\cs.size=0)/\bK (xq) km p q, [.z (.slice .str) (dc km p q), .z (.int .i64) (db km p q)], [])
 |_,_=>none
theorem Ik{B:aj}(hB:aC B):Valid B Tryz.prog 55 rr:=by
 refine ab (Br hB).tab Tryz.func55 rfl rfl rfl ?_
 intro args os C rs os' hc hC
 unfold rr at hc
 split at hc
 case h_2=>cases hc
 rename_i p q g fs cs
 cases hc
 refine v_h (Br hB) fun X hP hT hr hG=> ?_
 have hU:=rq.eq_1
 unfold rq at hT
 have hX:=ai @fx.eq_1<|ai @nF.eq_1<| @ee.eq_1
 simp only[Tryz.f55,aD,al,ioB]
 obtain⟨⟨rfl,e1,e2⟩,hp,hq,hD⟩:=hC
 obtain rfl:=Array.eq_empty_of_size_eq_zero e1
 obtain rfl:=Array.eq_empty_of_size_eq_zero e2
 refine s_g hG ?_
 refine s_q hG ?_ ?_
 ·try simp only[ba]
  exact(gE hp hq).2
 refine ak ?_
 refine s_g hG ?_
 refine aq ?_ ?_
 ·intro hb0
  try simp only[bt] at hb0
  refine s_g hG ?_
  refine az ?_
  refine aB ?_
  refine q_e [] ?_
  exact iA hb0
 ·intro hb0
  try simp only[bf] at hb0
  have n0:=iX hb0
  have n1:=iY hb0
  have nl:=gD hb0
  have hE:=hD hb0
  refine ar ?_
  refine ah ?_
  refine s_d hG ?_ ?_
  ·try simp only[ba]
   simp only[NT] at n0 n1
   simp only[n0,n1,nl,aH]
   exact⟨by decide,by decide,hE.1,hE.2.1,by rw[aA];exact hE.2.2⟩
  refine az ?_
  refine q_e [] ?_
  simp only[NT] at n0 n1
  simp only[n0,n1,aH]
  exact ka (f:=km) hb0
def ru(B:aj):Tab:={types:= [(22,(.slice .str))],elems:= [],cons:= [(54,oQ)],hint:= [],N:=11,base:=B}
theorem Bt{B:aj}(hB:aC B):aK Tryz.prog (ru B):=⟨⟨tc gA (ae),af,by simp only[ru,ioB];omega⟩,aF (cc Tryz.func54 (wG hB) (ay)),by kernel_rfl⟩
def lY:Con:=fun l os=>match l,os with
 | [.z (.slice .str) p], []=>some (de p, [.z (.int .i64) (cQ p)], [])
 |_,_=>none
theorem wH{B:aj}(hB:aC B):Valid B Tryz.prog 14 lY:=by
 refine ab (Bt hB).tab Tryz.func14 rfl rfl rfl ?_
 intro args os C rs os' hc hC
 unfold lY at hc
 split at hc
 case h_2=>cases hc
 rename_i p
 cases hc
 refine v_h (Bt hB) fun X hP hT hr hG=> ?_
 have hU:=ru.eq_1
 unfold ru at hT
 have hX:= @oQ.eq_1
 simp only[Tryz.f14,aD,al,ioB]
 refine s_g hG ?_
 refine s_q hG ?_ ?_
 ·try simp only[ba]
  exact hC
 refine s_g hG ?_
 refine az ?_
 refine q_e [] ?_
 trivial
def ry(B:aj):Tab:={types:= [(22,(.slice .str))],elems:= [],cons:= [(55,rb)],hint:= [],N:=11,base:=B}
theorem Bu{B:aj}(hB:aC B):aK Tryz.prog (ry B):=⟨⟨tc gA (ae),af,by simp only[ry,ioB];omega⟩,aF (cc Tryz.func55 (Ic hB) (ay)),by kernel_rfl⟩
def F2:Con:=fun l os=>match l,os with
 | [.z (.slice .str) p, .z (.slice .str) q], []=>some (bK (fun p q=>Sz QH p/\Sz QH q/\p.length<=1000/\q.length<=1000) (bL (· + ·)) p q, [.z (.slice .str) (dc (bL (· + ·)) p q), .z (.int .i64) (db (bL (· + ·)) p q)], [])
 |_,_=>none
theorem Il{B:aj}(hB:aC B):Valid B Tryz.prog 15 F2:=by
 refine ab (Bu hB).tab Tryz.func15 rfl rfl rfl ?_
 intro args os C rs os' hc hC
 unfold F2 at hc
 split at hc
 case h_2=>cases hc
 rename_i p q
 cases hc
 refine v_h (Bu hB) fun X hP hT hr hG=> ?_
 have hU:=ry.eq_1
 unfold ry at hT
 have hX:= @rb.eq_1
 simp only[Tryz.f15,aD,al,ioB]
 refine s_g hG ?_
 refine s_q hG ?_ ?_
 ·try simp only[ba]
  exact hC
 refine az ?_
 refine q_e [] ?_
 trivial
def rz(B:aj):Tab:={types:= [(22,(.slice .str))],elems:= [],cons:= [(55,rf)],hint:= [],N:=11,base:=B}
theorem Bv{B:aj}(hB:aC B):aK Tryz.prog (rz B):=⟨⟨tc gA (ae),af,by simp only[rz,ioB];omega⟩,aF (cc Tryz.func55 (Ie hB) (ay)),by kernel_rfl⟩
def F3:Con:=fun l os=>match l,os with
 | [.z (.slice .str) p, .z (.slice .str) q], []=>some (bK (fun p q=>Sz QH p/\Sz QH q/\p.length<=1000/\q.length<=1000) (bL (· - ·)) p q, [.z (.slice .str) (dc (bL (· - ·)) p q), .z (.int .i64) (db (bL (· - ·)) p q)], [])
 |_,_=>none
theorem Im{B:aj}(hB:aC B):Valid B Tryz.prog 16 F3:=by
 refine ab (Bv hB).tab Tryz.func16 rfl rfl rfl ?_
 intro args os C rs os' hc hC
 unfold F3 at hc
 split at hc
 case h_2=>cases hc
 rename_i p q
 cases hc
 refine v_h (Bv hB) fun X hP hT hr hG=> ?_
 have hU:=rz.eq_1
 unfold rz at hT
 have hX:= @rf.eq_1
 simp only[Tryz.f16,aD,al,ioB]
 refine s_g hG ?_
 refine s_q hG ?_ ?_
 ·try simp only[ba]
  exact hC
 refine az ?_
 refine q_e [] ?_
 trivial
def rA(B:aj):Tab:={types:= [(22,(.slice .str))],elems:= [],cons:= [(55,ri)],hint:= [],N:=11,base:=B}
theorem Bw{B:aj}(hB:aC B):aK Tryz.prog (rA B):=⟨⟨tc gA (ae),af,by simp only[rA,ioB];omega⟩,aF (cc Tryz.func55 (Ig hB) (ay)),by kernel_rfl⟩
def wI:Con:=fun l os=>match l,os with
 | [.z (.slice .str) p, .z (.slice .str) q], []=>some (bK (fun p q=>Sz QM p/\Sz QM q/\p.length<=100/\q.length<=100) b6 p q, [.z (.slice .str) (dc b6 p q), .z (.int .i64) (db b6 p q)], [])
 |_,_=>none
theorem wJ{B:aj}(hB:aC B):Valid B Tryz.prog 17 wI:=by
 refine ab (Bw hB).tab Tryz.func17 rfl rfl rfl ?_
 intro args os C rs os' hc hC
 unfold wI at hc
 split at hc
 case h_2=>cases hc
 rename_i p q
 cases hc
 refine v_h (Bw hB) fun X hP hT hr hG=> ?_
 have hU:=rA.eq_1
 unfold rA at hT
 have hX:= @ri.eq_1
 simp only[Tryz.f17,aD,al,ioB]
 refine s_g hG ?_
 refine s_q hG ?_ ?_
 ·try simp only[ba]
  exact hC
 refine az ?_
 refine q_e [] ?_
 trivial
def rB(B:aj):Tab:={types:= [(22,(.slice .str))],elems:= [],cons:= [(55,rk)],hint:= [],N:=11,base:=B}
theorem Bx{B:aj}(hB:aC B):aK Tryz.prog (rB B):=⟨⟨tc gA (ae),af,by simp only[rB,ioB];omega⟩,aF (cc Tryz.func55 (Ih hB) (ay)),by kernel_rfl⟩
def wK:Con:=fun l os=>match l,os with
 | [.z (.slice .str) p, .z (.slice .str) q], []=>some (bK (fX) bw p q, [.z (.slice .str) (dc bw p q), .z (.int .i64) (db bw p q)], [])
 |_,_=>none
theorem wL{B:aj}(hB:aC B):Valid B Tryz.prog 24 wK:=by
 refine ab (Bx hB).tab Tryz.func24 rfl rfl rfl ?_
 intro args os C rs os' hc hC
 unfold wK at hc
 split at hc
 case h_2=>cases hc
 rename_i p q
 cases hc
 refine v_h (Bx hB) fun X hP hT hr hG=> ?_
 have hU:=rB.eq_1
 unfold rB at hT
 have hX:= @rk.eq_1
 simp only[Tryz.f24,aD,al,ioB]
 refine s_g hG ?_
 refine s_q hG ?_ ?_
 ·try simp only[ba]
  exact hC
 refine az ?_
 refine q_e [] ?_
 trivial
def Dx:Con:=jd [some (.slice .str),some (.slice .str)] wK
theorem Dy{B:aj}(hB:aC B):Valid B Tryz.prog 24 Dx:=fm _ (wL hB)
def rC(B:aj):Tab:={types:= [(22,(.slice .str))],elems:= [],cons:= [(55,uu)],hint:= [],N:=8,base:=B}
theorem Bz{B:aj}(hB:aC B):aK Tryz.prog (rC B):=⟨⟨tc gA (ae),af,by simp only[rC,ioB];omega⟩,aF (cc Tryz.func55 (Du hB) (ay)),by kernel_rfl⟩
def F4:Con:=fun l os=>match l,os with
 | [.z (.slice .str) p], []=>some (bK (fun p _=>Sz QH p/\p.length<=1000) (fun a _=>cy a) p [], [.z (.slice .str) (dc (fun a _=>cy a) p []), .z (.int .i64) (db (fun a _=>cy a) p [])], [])
 |_,_=>none
theorem Io{B:aj}(hB:aC B):Valid B Tryz.prog 29 F4:=by
 refine ab (Bz hB).tab Tryz.func29 rfl rfl rfl ?_
 intro args os C rs os' hc hC
 unfold F4 at hc
 split at hc
 case h_2=>cases hc
 rename_i p
 cases hc
 refine v_h (Bz hB) fun X hP hT hr hG=> ?_
 have hU:=rC.eq_1
 unfold rC at hT
 have hX:=ai @rm.eq_1<| @uu.eq_1
 simp only[Tryz.f29,aD,al,ioB]
 refine s_g hG ?_
 refine s_q hG ?_ ?_
 ·try simp only[ba]
  exact hC
 refine az ?_
 refine q_e [] ?_
 trivial
def rD(B:aj):Tab:={types:= [(22,(.slice .str))],elems:= [],cons:= [(55,uv)],hint:= [],N:=8,base:=B}
theorem BA{B:aj}(hB:aC B):aK Tryz.prog (rD B):=⟨⟨tc gA (ae),af,by simp only[rD,ioB];omega⟩,aF (cc Tryz.func55 (Dw hB) (ay)),by kernel_rfl⟩
def F5:Con:=fun l os=>match l,os with
 | [.z (.slice .str) p], []=>some (bK (fun p _=>me p) (fun a _=>cw a) p [], [.z (.slice .str) (dc (fun a _=>cw a) p []), .z (.int .i64) (db (fun a _=>cw a) p [])], [])
 |_,_=>none
theorem Ip{B:aj}(hB:aC B):Valid B Tryz.prog 30 F5:=by
 refine ab (BA hB).tab Tryz.func30 rfl rfl rfl ?_
 intro args os C rs os' hc hC
 unfold F5 at hc
 split at hc
 case h_2=>cases hc
 rename_i p
 cases hc
 refine v_h (BA hB) fun X hP hT hr hG=> ?_
 have hU:=rD.eq_1
 unfold rD at hT
 have hX:=ai @rp.eq_1<| @uv.eq_1
 simp only[Tryz.f30,aD,al,ioB]
 refine s_g hG ?_
 refine s_q hG ?_ ?_
 ·try simp only[ba]
  exact hC
 refine az ?_
 refine q_e [] ?_
 trivial
def rE(B:aj):Tab:={types:= [(3,(.int .i64)),(31,(.int .i64)),(44,(.slice (.slice .str))),(79,(.slice (.st (.pair (.st (.pair .bool (.slice (.int .u32)))) (.st (.pair .bool (.slice (.int .u32)))))))),(98,(.slice (.slice (.st (.pair (.st (.pair .bool (.slice (.int .u32)))) (.st (.pair .bool (.slice (.int .u32)))))))))],elems:= [(44,22)],cons:= [(67,fx),(68,pN),(69,ee)],hint:= [],N:=53,base:=B}
theorem BB{B:aj}(hB:aC B):aK Tryz.prog (rE B):=⟨⟨tc ty3 (tc kJ (tc uI (tc fN (tc uJ (ae))))),aR (by kernel_rfl) (af),by simp only[rE,ioB];omega⟩,aF (cc Tryz.func67 (eR hB) (cc Tryz.func68 (oO hB) (cc Tryz.func69 (fy hB) (ay)))),by kernel_rfl⟩
def lk:Con:=fun l os=>match l,os with
 | [.z (.slice .str) p, .z (.slice .str) q], []=>some (mH p q, [.z (.slice .str) (dvS p q), .z (.slice .str) (dvR p q), .z (.int .i64) (dvE p q)], [])
 |_,_=>none
theorem oR{B:aj}(hB:aC B):Valid B Tryz.prog 23 lk:=by
 refine ab (BB hB).tab Tryz.func23 rfl rfl rfl ?_
 intro args os C rs os' hc hC
 unfold lk at hc
 split at hc
 case h_2=>cases hc
 rename_i p q
 cases hc
 refine v_h (BB hB) fun X hP hT hr hG=> ?_
 have hU:=rE.eq_1
 unfold rE at hT
 have hX:=ai @fx.eq_1<|ai @pN.eq_1<| @ee.eq_1
 simp only[Tryz.f23,aD,al,ioB]
 refine s_g hG ?_
 refine s_q hG ?_ ?_
 ·try simp only[ba]
  exact(gE hC.sp hC.sq).2
 refine ak ?_
 refine s_g hG ?_
 refine aq ?_ ?_
 ·intro hb0
  try simp only[bt] at hb0
  refine s_g hG ?_
  refine az ?_
  refine aB ?_
  refine q_e [] ?_
  exact KD hb0
 ·intro hb0
  try simp only[bf] at hb0
  have n0:=iX hb0
  have n1:=iY hb0
  have nl:=gD hb0
  simp only[NT] at n0 n1
  refine ar ?_
  refine ah ?_
  refine ak ?_
  refine s_q hG ?_ ?_
  ·try simp only[ba]
   rw[nl]
   decide
  refine aq ?_ ?_
  ·intro hb1
   try simp only[bt] at hb1
   simp only[n1] at hb1
   have hq:(aI (bc q)).length=0:=by have h9:((aI (bc q)).length:Int)=0:=hb1;omega
   refine s_g hG ?_
   refine az ?_
   refine aB ?_
   refine q_e [] ?_
   exact KE hb0 hq
  ·intro hb1
   try simp only[bf] at hb1
   simp only[n1] at hb1
   have hq: ¬ (aI (bc q)).length=0:=by intro h8;exact hb1 (by show ((aI (bc q)).length:Int)=0;omega)
   have hne:=MV hq
   obtain⟨k1,k2,k3⟩:=hC.ok hb0 hne
   refine ar ?_
   refine ah ?_
   refine s_d hG ?_ ?_
   ·try simp only[ba]
    simp only[n0,n1,nl]
    exact⟨by decide,by decide,k1⟩
   refine s_q hG ?_ ?_
   ·try simp only[ba]
    simp only[n0,n1,aH]
    exact k2
   refine ak ?_
   refine s_g hG ?_
   refine aq ?_ ?_
   ·intro hb2
    try simp only[bt] at hb2
    refine s_g hG ?_
    refine az ?_
    refine aB ?_
    refine q_e [] ?_
    simp only[n0,n1,aH] at hb2 ⊢
    exact MW hb0 hne hb2
   ·intro hb2
    try simp only[bf] at hb2
    refine ar ?_
    refine ah ?_
    refine s_q hG ?_ ?_
    ·try simp only[ba]
     simp only[n0,n1,aH]
     exact k3
    refine ak ?_
    refine s_g hG ?_
    refine aq ?_ ?_
    ·intro hb3
     try simp only[bt] at hb3
     refine s_g hG ?_
     refine az ?_
     refine aB ?_
     refine q_e [] ?_
     simp only[n0,n1,aH] at hb2 hb3 ⊢
     exact MX hb0 hne hb2 hb3
    ·intro hb3
     try simp only[bf] at hb3
     refine ar ?_
     refine ah ?_
     refine s_g hG ?_
     refine az ?_
     refine q_e [] ?_
     simp only[n0,n1,aH] at hb2 hb3 ⊢
     exact MY hb0 hne hb2 hb3
def yg:Con:=jd [some (.slice .str),some (.slice .str)] lk
theorem Dz{B:aj}(hB:aC B):Valid B Tryz.prog 23 yg:=fm _ (oR hB)
def rF(B:aj):Tab:={types:= [(3,(.int .i64)),(22,(.slice .str)),(31,(.int .i64))],elems:= [],cons:= [(14,lY),(55,rr)],hint:= [],N:=39,base:=B}
theorem BC{B:aj}(hB:aC B):aK Tryz.prog (rF B):=⟨⟨tc ty3 (tc gA (tc kJ (ae))),af,by simp only[rF,ioB];omega⟩,aF (cc Tryz.func14 (wH hB) (cc Tryz.func55 (Ik hB) (ay))),by kernel_rfl⟩
def yh:Con:=fun l os=>match l,os with
 | [.z (.slice .str) p, .z (.slice .str) q], []=>some (xx p q, [.z (.slice .str) (vK p q), .z (.int .i64) (vJ p q)], [])
 |_,_=>none
theorem Iq{B:aj}(hB:aC B):Valid B Tryz.prog 31 yh:=by
 refine ab (BC hB).tab Tryz.func31 rfl rfl rfl ?_
 intro args os C rs os' hc hC
 unfold yh at hc
 split at hc
 case h_2=>cases hc
 rename_i p q
 cases hc
 refine v_h (BC hB) fun X hP hT hr hG=> ?_
 have hU:=rF.eq_1
 unfold rF at hT
 have hX:=ai @rr.eq_1<| @lY.eq_1
 simp only[Tryz.f31,aD,al,ioB]
 refine s_g hG ?_
 refine ak ?_
 refine s_q hG ?_ ?_
 ·try simp only[ba]
  exact⟨hC.sp,fun h=>⟨h,hC.sq⟩,id,id,id,id,id,id,id,id,id⟩
 refine aq ?_ ?_
 ·intro hb0
  have hL:=of_decide_eq_true (KG hb0)
  refine s_g hG ?_
  refine az ?_
  refine aB ?_
  refine q_e [] ?_
  exact OG hL
 ·intro hb0
  have hL:=of_decide_eq_false (KG hb0)
  refine ar ?_
  refine ah ?_
  refine s_q hG ?_ ?_
  ·try simp only[ba]
   exact hC.ok hL
  refine az ?_
  refine q_e [] ?_
  exact OH hL
def yi:Con:=jd [some (.slice .str),some (.slice .str)] yh
theorem DA{B:aj}(hB:aC B):Valid B Tryz.prog 31 yi:=fm _ (Iq hB)
def rG(B:aj):Tab:={types:= [(22,(.slice .str)),(31,(.int .i64)),(44,(.slice (.slice .str))),(46, .str),(78,(.slice (.st (.pair (.st (.pair .bool (.slice (.int .u32)))) (.st (.pair .bool (.slice (.int .u32)))))))),(79,(.slice (.st (.pair (.st (.pair .bool (.slice (.int .u32)))) (.st (.pair .bool (.slice (.int .u32)))))))),(91,(.st (.pair (.st (.pair .bool (.slice (.int .u32)))) (.st (.pair .bool (.slice (.int .u32))))))),(98,(.slice (.slice (.st (.pair (.st (.pair .bool (.slice (.int .u32)))) (.st (.pair .bool (.slice (.int .u32)))))))))],elems:= [(44,22),(78,91)],cons:= [(67,fx),(87,lW),(88,oL),(89,FW),(90,pM)],hint:= [],N:=41,base:=B}
theorem BD{B:aj}(hB:aC B):aK Tryz.prog (rG B):=⟨⟨tc gA (tc kJ (tc uI (tc mw (tc Mw (tc fN (tc ty91 (tc uJ (ae)))))))),aR (by kernel_rfl) (aR (by kernel_rfl) (af)),by simp only[rG,ioB];omega⟩,aF (cc Tryz.func67 (eR hB) (cc Tryz.func87 (wu hB) (cc Tryz.func88 (wv hB) (cc Tryz.func89 (H3 hB) (cc Tryz.func90 (oK hB) (ay)))))),by kernel_rfl⟩
def yj:Con:=fun l os=>match l,os with
 | [.z (.slice .str) p, .z .str x], []=>some (KH p x, [.z .str (evS p x), .z (.int .i64) (evE p x)], [])
 |_,_=>none
theorem Ir{B:aj}(hB:aC B):Valid B Tryz.prog 36 yj:=by
 refine ab (BD hB).tab Tryz.func36 rfl rfl rfl ?_
 intro args os C rs os' hc hC
 unfold yj at hc
 split at hc
 case h_2=>cases hc
 rename_i p x
 cases hc
 refine v_h (BD hB) fun X hP hT hr hG=> ?_
 have hU:=rG.eq_1
 unfold rG at hT
 have hX:=ai @fx.eq_1<|ai @lW.eq_1<|ai @FW.eq_1<|ai @pM.eq_1<| @oL.eq_1
 simp only[Tryz.f36,aD,al,ioB]
 refine s_g hG ?_
 refine s_q hG ?_ ?_
 ·try simp only[ba]
  exact(KJ hC).2
 refine ak ?_
 refine s_g hG ?_
 refine aq ?_ ?_
 ·intro hb0
  try simp only[bt] at hb0
  refine s_g hG ?_
  refine az ?_
  refine aB ?_
  refine q_e [] ?_
  exact OJ hb0
 ·intro hb0
  try simp only[bf] at hb0
  have n0:=Pm hb0
  have nl:=OI hb0
  simp only[NT] at n0
  refine ar ?_
  refine ah ?_
  refine ak ?_
  refine s_q hG ?_ ?_
  ·try simp only[ba]
   exact hC.sx
  refine s_g hG ?_
  refine aq ?_ ?_
  ·intro hb1
   try simp only[bt] at hb1
   refine s_g hG ?_
   refine az ?_
   refine aB ?_
   refine q_e [] ?_
   exact MZ hb0 hb1
  ·intro hb1
   try simp only[bf] at hb1
   have h9:dr x=0:=by simpa using hb1
   obtain⟨k1,k2,k3,k4⟩:=hC.ok hb0 h9
   obtain⟨c1,c2⟩:=oq h9 hC.sx
   refine ar ?_
   refine ah ?_
   refine s_d hG ?_ ?_
   ·try simp only[ba]
    simp only[n0,nl,c2,aH,aN]
    exact KK c1 k1 k2 k3 k4
   refine ak ?_
   refine s_g hG ?_
   refine aq ?_ ?_
   ·intro hb2
    try simp only[bt] at hb2
    refine s_g hG ?_
    refine az ?_
    refine aB ?_
    refine q_e [] ?_
    simp only[n0,c2,aH,aN,zS] at hb2
    exact OK hb0 h9 (by simpa using hb2)
   ·intro hb2
    try simp only[bf] at hb2
    refine ar ?_
    refine ah ?_
    refine s_q hG ?_ ?_
    ·try simp only[ba]
     simp only[n0,c2,aH,aN] at hb2 ⊢
     exact Hj (by simpa using hb2) _
    refine az ?_
    refine q_e [] ?_
    simp only[n0,c2,aH,aN,zS] at hb2 ⊢
    exact M1 hb0 h9 (by simpa using hb2)
def yk:Con:=jd [some (.slice .str),none] yj
theorem DB{B:aj}(hB:aC B):Valid B Tryz.prog 36 yk:=fm _ (Ir hB)
def rH(B:aj):Tab:={types:= [],elems:= [],cons:= [],hint:= [],N:=4,base:=B}
theorem BE{B:aj}(hB:aC B):aK Tryz.prog (rH B):=⟨⟨ae,af,by simp only[rH,ioB];omega⟩,bP rfl,by kernel_rfl⟩
def NS:Con:=fun l os=>match l,os with
 | [.z (.slice .str) p], []=>some (True, [.z (.slice .str) p], [])
 |_,_=>none
theorem Is{B:aj}(hB:aC B):Valid B Tryz.prog 45 NS:=by
 refine ab (BE hB).tab Tryz.func45 rfl rfl rfl ?_
 intro args os C rs os' hc hC
 unfold NS at hc
 split at hc
 case h_2=>cases hc
 rename_i p
 cases hc
 refine v_h (BE hB) fun X hP hT hr hG=> ?_
 have hU:=rH.eq_1
 unfold rH at hT
 have hX:=Bool.not_true
 simp only[Tryz.f45,aD,al,ioB]
 refine s_g hG ?_
 refine s_g hG ?_
 refine az ?_
 refine q_e [] ?_
 trivial
def rI(B:aj):Tab:={types:= [(22,(.slice .str)),(31,(.int .i64))],elems:= [],cons:= [(28,lh)],hint:= [],N:=13,base:=B}
theorem BF{B:aj}(hB:aC B):aK Tryz.prog (rI B):=⟨⟨tc gA (tc kJ (ae)),af,by simp only[rI,ioB];omega⟩,aF (cc Tryz.func28 (oG hB) (ay)),by kernel_rfl⟩
def It:Con:=fun l os=>match l,os with
 | [.z (.slice .str) p, .z (.int .i64) e, .z (.ptr (.slice .str)) q], []=>some (p.length<=QL/\q.length<=QL, [.z .bool (decide (e=0/\p=q))], [])
 |_,_=>none
theorem wM{B:aj}(hB:aC B):Valid B Tryz.prog 94 It:=by
 refine ab (BF hB).tab Tryz.func94 rfl rfl rfl ?_
 intro args os C rs os' hc hC
 unfold It at hc
 split at hc
 case h_2=>cases hc
 rename_i p e q
 cases hc
 refine v_h (BF hB) fun X hP hT hr hG=> ?_
 have hU:=rI.eq_1
 unfold rI at hT
 have hX:= @lh.eq_1
 simp only[Tryz.f94,aD,al,ioB]
 refine s_g hG ?_
 refine s_q hG ?_ ?_
 ·try simp only[ba]
  exact⟨fun h=>⟨h,hC⟩,id⟩
 refine az ?_
 refine q_e [] ?_
 exact O0 _ _ _
def rJ(B:aj):Tab:={types:= [(22,(.slice .str))],elems:= [],cons:= [],hint:= [],N:=4,base:=B}
theorem BG{B:aj}(hB:aC B):aK Tryz.prog (rJ B):=⟨⟨tc gA (ae),af,by simp only[rJ,ioB];omega⟩,bP rfl,by kernel_rfl⟩
def Iu:Con:=fun l os=>match l,os with
 | [.z (.slice .str) p], []=>some (True, [.fn 94 [.z (.ptr (.slice .str)) p]], [])
 |_,_=>none
theorem wN{B:aj}(hB:aC B):Valid B Tryz.prog 41 Iu:=by
 refine ab (BG hB).tab Tryz.func41 rfl rfl rfl ?_
 intro args os C rs os' hc hC
 unfold Iu at hc
 split at hc
 case h_2=>cases hc
 rename_i p
 cases hc
 refine v_h (BG hB) fun X hP hT hr hG=> ?_
 have hU:=rJ.eq_1
 unfold rJ at hT
 have hX:=Bool.not_true
 simp only[Tryz.f41,aD,al,ioB]
 refine s_g hG ?_
 refine s_g hG ?_
 refine az ?_
 refine q_e [] ?_
 rfl
def LY:Con:=jd [some (.slice .str)] Iu
theorem DC{B:aj}(hB:aC B):Valid B Tryz.prog 41 LY:=fm _ (wN hB)
def rK(B:aj):Tab:={types:= [(3,(.int .i64)),(22,(.slice .str)),(31,(.int .i64))],elems:= [],cons:= [(23,lk)],hint:= [],N:=22,base:=B}
theorem BH{B:aj}(hB:aC B):aK Tryz.prog (rK B):=⟨⟨tc ty3 (tc gA (tc kJ (ae))),af,by simp only[rK,ioB];omega⟩,aF (cc Tryz.func23 (oR hB) (ay)),by kernel_rfl⟩
def lZ:Con:=fun l os=>match l,os with
 | [.z (.slice .str) q, .z (.slice .str) p], []=>some (mH p q, [.z .bool (decide (dvE p q=0/\dvR p q= []))], [])
 |_,_=>none
theorem Iv{B:aj}(hB:aC B):Valid B Tryz.prog 42 lZ:=by
 refine ab (BH hB).tab Tryz.func42 rfl rfl rfl ?_
 intro args os C rs os' hc hC
 unfold lZ at hc
 split at hc
 case h_2=>cases hc
 rename_i q p
 cases hc
 refine v_h (BH hB) fun X hP hT hr hG=> ?_
 have hU:=rK.eq_1
 unfold rK at hT
 have hX:= @lk.eq_1
 simp only[Tryz.f42,aD,al,ioB]
 refine s_g hG ?_
 refine s_q hG ?_ ?_
 ·try simp only[ba]
  exact hC
 refine s_q hG ?_ ?_
 ·try simp only[ba]
  exact id
 refine az ?_
 refine q_e [] ?_
 exact Aj _ _
def rL(B:aj):Tab:={types:= [(3,(.int .i64)),(22,(.slice .str)),(31,(.int .i64)),(46, .str)],elems:= [(22,46)],cons:= [(14,lY),(15,F2),(16,F3),(17,wI),(23,yg),(24,Dx),(28,x8),(29,F4),(30,F5),(31,yi),(36,yk),(41,LY),(45,NS),(94,It)],hint:= [],N:=218,base:=B}
theorem BI{B:aj}(hB:aC B):aK Tryz.prog (rL B):=⟨⟨tc ty3 (tc gA (tc kJ (tc mw (ae)))),aR (by kernel_rfl) (af),by simp only[rL,ioB];omega⟩,aF (cc Tryz.func14 (wH hB) (cc Tryz.func15 (Il hB) (cc Tryz.func16 (Im hB) (cc Tryz.func17 (wJ hB) (cc Tryz.func23 (Dz hB) (cc Tryz.func24 (Dy hB) (cc Tryz.func28 (Dr hB) (cc Tryz.func29 (Io hB) (cc Tryz.func30 (Ip hB) (cc Tryz.func31 (DA hB) (cc Tryz.func36 (DB hB) (cc Tryz.func41 (DC hB) (cc Tryz.func45 (Is hB) (cc Tryz.func94 (wM hB) (ay))))))))))))))),by kernel_rfl⟩
def rM:Con:=fun l os=>match l,os with
 | [], []=>some (True, [.z .bool true], [])
 |_,_=>none
set_option maxHeartbeats 2000000 in
theorem Iw{B:aj}(hB:aC B):Valid B Tryz.prog 11 rM:=by
 refine ab (BI hB).tab Tryz.func11 rfl rfl rfl ?_
 intro args os C rs os' hc hC
 unfold rM at hc
 split at hc
 case h_2=>cases hc
 cases hc
 refine v_h (BI hB) fun X hP hT hr hG=> ?_
 have hU:=rL.eq_1
 unfold rL at hT
 have hX:=ai @Iu.eq_1<|ai @LY.eq_1<|ai @It.eq_1<|ai @NS.eq_1<|ai @F2.eq_1<|ai @lY.eq_1<|ai @yh.eq_1<|ai @yi.eq_1<|ai @F4.eq_1<|ai @lk.eq_1<|ai @yg.eq_1<|ai @yj.eq_1<|ai @yk.eq_1<|ai @wK.eq_1<|ai @Dx.eq_1<|ai @wI.eq_1<|ai @F5.eq_1<|ai @F3.eq_1<|ai @lh.eq_1<|ai @x8.eq_1<| @List.append_eq.{0}
 simp only[Tryz.f11,aD,al,ioB]
 refine s_g hG ?_
 refine ct (fun(z:Unit)=>(⟨[(0, .l (.z .bool false)),(1, .l (.z (.slice .str) [[49], [49], [49]])),(2, .l (.z (.slice .str) [])),(3, .l (.z (.int .i64) 0))], []⟩:aa)) (fun z=>True) ?_ ?_
 ·refine ag hG ?_ ?_
  ·try simp only[ba]
   exact Dg (n:=4) (K:=1) (by decide+kernel) (by decide+kernel)
  show ∃ z,_
  refine q_l ?_
  exact wp1
 rintro⟨⟩-
 refine ct (fun(z:Unit)=>(⟨[(0, .l (.z .bool false)),(1, .l (.z (.slice .str) [[49], [49], [49]])),(2, .l (.z (.slice .str) [])),(3, .l (.z (.int .i64) 0)),(4, .l (.z (.slice .str) [[48], [49,47,50]])),(5, .l (.z (.slice .str) [[49]])),(6, .l (.z (.int .i64) 0))], []⟩:aa)) (fun z=>True) ?_ ?_
 ·refine ag hG ?_ ?_
  ·try simp only[ba]
   exact Dg (n:=4) (K:=1) (by decide+kernel) (by decide+kernel)
  show ∃ z,_
  refine q_l ?_
  exact wp2
 rintro⟨⟩-
 refine ct (fun(z:Unit)=>(⟨[(0, .l (.z .bool false)),(1, .l (.z (.slice .str) [[49], [49], [49]])),(2, .l (.z (.slice .str) [])),(3, .l (.z (.int .i64) 0)),(4, .l (.z (.slice .str) [[48], [49,47,50]])),(5, .l (.z (.slice .str) [[49]])),(6, .l (.z (.int .i64) 0)),(9, .l (.z (.int .i64) 2))], []⟩:aa)) (fun z=>True) ?_ ?_
 ·refine ag hG ?_ ?_
  ·try simp only[ba]
   exact Dg (n:=4) (K:=1) (by decide+kernel) (by decide+kernel)
  show ∃ z,_
  refine q_l ?_
  exact wp3
 rintro⟨⟩-
 refine ct (fun(z:Unit)=>(⟨[(0, .l (.z .bool false)),(1, .l (.z (.slice .str) [[49], [49], [49]])),(2, .l (.z (.slice .str) [])),(3, .l (.z (.int .i64) 0)),(4, .l (.z (.slice .str) [[48], [49,47,50]])),(5, .l (.z (.slice .str) [[49]])),(6, .l (.z (.int .i64) 0)),(9, .l (.z (.int .i64) 2)),(10, .l (.z .str [53,47,52])),(11, .l (.z (.int .i64) 0))], []⟩:aa)) (fun z=>True) ?_ ?_
 ·refine ag hG ?_ ?_
  ·try simp only[ba]
   exact KN (n:=4) (K:=1) (by decide+kernel) (by decide)
  show ∃ z,_
  refine q_l ?_
  exact wp4
 rintro⟨⟩-
 refine ct (fun(z:Unit)=>(⟨[(0, .l (.z .bool false)),(1, .l (.z (.slice .str) [[49], [49], [49]])),(2, .l (.z (.slice .str) [])),(3, .l (.z (.int .i64) 0)),(4, .l (.z (.slice .str) [[48], [49,47,50]])),(5, .l (.z (.slice .str) [[49]])),(6, .l (.z (.int .i64) 0)),(9, .l (.z (.int .i64) 2)),(10, .l (.z .str [53,47,52])),(11, .l (.z (.int .i64) 0)),(13, .l (.z (.int .i64) 5))], []⟩:aa)) (fun z=>True) ?_ ?_
 ·refine ag hG ?_ ?_
  ·try simp only[ba]
   exact KN (n:=4) (K:=1) (by decide+kernel) (by decide)
  show ∃ z,_
  refine q_l ?_
  exact wp5
 rintro⟨⟩-
 refine ct (fun(z:Unit)=>(⟨[(0, .l (.z .bool false)),(14, .l (.z .bool true))], []⟩:aa)) (fun z=>True) ?_ ?_
 ·refine ag hG ?_ ?_
  ·try simp only[ba]
   exact wsq
  show ∃ z,_
  refine q_l ?_
  rfl
 rintro⟨⟩-
 refine ct (fun(z:Unit)=>(⟨[(0, .l (.z .bool false)),(14, .l (.z .bool true))], []⟩:aa)) (fun z=>True) ?_ ?_
 ·refine ag hG ?_ ?_
  ·try simp only[ba]
   simp[wp6.1,wp6.2,wp7.1,wp7.2,wp8.1,wp8.2,wp9.1,wp9.2,Nn.1,Nn.2,Np.1,Np.2,ok6,ok7,ok8,ok9,PN,PO,QL]
  show ∃ z,_
  refine q_l ?_
  simp[wp6.1,wp6.2,wp7.1,wp7.2,wp8.1,wp8.2,wp9.1,wp9.2,Nn.1,Nn.2,Np.1,Np.2]
 rintro⟨⟩-
 refine ct (fun(z:Unit)=>(⟨[(0, .l (.z .bool false)),(14, .l (.z .bool true))], []⟩:aa)) (fun z=>True) ?_ ?_
 ·refine ag hG ?_ ?_
  ·try simp only[ba]
   simp[Nq.1,Nq.2,Nr.1,Nr.2,Ns.1,Ns.2,Nt.1,Nt.2,PP,PQ,PR,PS,QL]
  show ∃ z,_
  refine q_l ?_
  simp[Nq.1,Nq.2,Nr.1,Nr.2,Ns.1,Ns.2,Nt.1,Nt.2]
 rintro⟨⟩-
 refine s_q hG ?_ ?_
 ·try simp only[ba]
  simp[Nu.1,Nu.2,Pz.1,Pz.2]
 refine az ?_
 refine q_e [] ?_
 simp[Nu.1,Nu.2]
def rN(B:aj):Tab:={types:= [(3,(.int .i64)),(22,(.slice .str)),(46, .str)],elems:= [],cons:= [],hint:= [],N:=13,base:=B}
theorem BJ{B:aj}(hB:aC B):aK Tryz.prog (rN B):=⟨⟨tc ty3 (tc gA (tc mw (ae))),af,by simp only[rN,ioB];omega⟩,bP rfl,by kernel_rfl⟩
def yl:Con:=fun l os=>match l,os with
 | [.z (.slice .str) p, .z (.int .i64) i], []=>some (GL QK p/\0<=i, [.z .str (bo (cf (nl p) i.toNat))], [])
 |_,_=>none
theorem Ix{B:aj}(hB:aC B):Valid B Tryz.prog 63 yl:=by
 refine ab (BJ hB).tab Tryz.func63 rfl rfl rfl ?_
 intro args os C rs os' hc hC
 unfold yl at hc
 split at hc
 case h_2=>cases hc
 rename_i p i
 cases hc
 refine v_h (BJ hB) fun X hP hT hr hG=> ?_
 have hU:=rN.eq_1
 unfold rN at hT
 have hX:=Bool.not_true
 simp only[Tryz.f63,aD,al,ioB]
 obtain⟨hp,hi⟩:=hC
 obtain⟨n,rfl⟩:=Int.eq_ofNat_of_zero_le hi
 rw[Int.toNat_natCast]
 refine s_g hG ?_
 refine ak ?_
 refine s_g hG ?_
 refine aq ?_ ?_
 ·intro hb0
  try simp only[bt] at hb0
  refine s_q hG ?_ ?_
  ·try simp only[ba]
   exact⟨by omega,hb0⟩
  refine az ?_
  refine aB ?_
  refine q_e [] ?_
  exact nA hp (by omega)
 ·intro hb0
  try simp only[bf] at hb0
  refine ar ?_
  refine ah ?_
  refine s_g hG ?_
  refine az ?_
  refine q_e [] ?_
  exact K2 (by omega)
def rO(B:aj):Tab:={types:= [(3,(.int .i64)),(22,(.slice .str)),(46, .str)],elems:= [],cons:= [],hint:= [],N:=21,base:=B}
theorem BK{B:aj}(hB:aC B):aK Tryz.prog (rO B):=⟨⟨tc ty3 (tc gA (tc mw (ae))),af,by simp only[rO,ioB];omega⟩,bP rfl,by kernel_rfl⟩
def jk:Con:=fun l os=>match l,os with
 | [.z (.slice .str) p], []=>some (GL QK p/\p.length<=1000000000, [.z (.slice .str) (txP (aS (nl p)))], [])
 |_,_=>none
theorem ke{B:aj}(hB:aC B):Valid B Tryz.prog 64 jk:=by
 refine ab (BK hB).tab Tryz.func64 rfl rfl rfl ?_
 intro args os C rs os' hc hC
 unfold jk at hc
 split at hc
 case h_2=>cases hc
 rename_i p
 cases hc
 refine v_h (BK hB) fun X hP hT hr hG=> ?_
 have hU:=rO.eq_1
 unfold rO at hT
 have hX:=Bool.not_true
 simp only[Tryz.f64,aD,al,ioB]
 obtain⟨l0,rfl,hl0⟩:=hC.1.ex
 have hn:=hC.2
 rw[cb] at hn
 rw[kY]
 refine s_g hG ?_
 refine ak ?_
 refine au ?_
 refine br (fun(z:List Rat)=>(⟨[(0, .l (.z (.slice .str) (txP z))),(2, .l (.val (.slice none 0 0)))], []⟩:aa)) (fun z=>z.length<=l0.length/\(∀ x∈z,lq x<=QK)/\aS z=aS l0) (fun z=>z.length) l0 ?_ ?_ ?_
 ·simp only[ml0,ml1,Nat.reduceLT,Nat.reduceEqDiff,Nat.reduceAdd,Nat.reduceMul,Nat.reduceSub,Nat.reduceLeDiff,Nat.reduceBEq,Nat.reduceBNe,reduceIte,reduceDIte,reduceCtorEq]
 ·exact⟨Nat.le_refl _,hl0,rfl⟩
 ·rintro l ⟨g1,g2,g3⟩
  try dsimp only at g1 g2 g3
  refine ak ?_
  refine s_q hG ?_ ?_
  ·try simp only[ba]
   exact⟨id,id,fun h=>Dk (l:=l) (by omega) h,id⟩
  refine aq ?_ ?_
  ·intro hb0
   try simp only[bt] at hb0
   have ht:=Nh (l:=l) (by omega) hb0.1 hb0.2
   obtain⟨n1,n2,n3,n4,n5⟩:=Dl (by omega) g1 g2 g3 ht
   refine ar ?_
   refine ah ?_
   refine au ?_
   refine ag hG ?_ ?_
   ·try simp only[ba]
    rw[cb,cd (by omega)]
    omega
   refine aQ ?_
   show ∃ z,_
   refine q_l ?_
   exact⟨l.dropLast,n1,n2,n3,n4,n5⟩
  ·intro hb0
   try simp only[bf] at hb0
   have ht:=Ni (l:=l) (by omega) hb0
   refine bg ?_
   refine aE ?_
   refine ax ?_
   refine aw ?_
   refine ah ?_
   refine s_g hG ?_
   refine az ?_
   refine q_e [] ?_
   rw[<- g3,ht]
def rP(B:aj):Tab:={types:= [(3,(.int .i64)),(22,(.slice .str)),(46, .str)],elems:= [(22,46)],cons:= [(62,FJ),(63,yl),(64,jk)],hint:= [27],N:=31,base:=B}
theorem BL{B:aj}(hB:aC B):aK Tryz.prog (rP B):=⟨⟨tc ty3 (tc gA (tc mw (ae))),aR (by kernel_rfl) (af),by simp only[rP,ioB];omega⟩,aF (cc Tryz.func62 (HM hB) (cc Tryz.func63 (Ix hB) (cc Tryz.func64 (ke hB) (ay)))),by kernel_rfl⟩
def ym:Con:=fun l os=>match l,os with
 | [.z (.slice .str) p, .z (.slice .str) q], []=>some (GL QK2 p/\GL QK2 q/\p.length<=1000000/\q.length<=1000000, [.z (.slice .str) (txP (bL (· + ·) (nl p) (nl q)))], [])
 |_,_=>none
theorem Iy{B:aj}(hB:aC B):Valid B Tryz.prog 20 ym:=by
 refine ab (BL hB).tab Tryz.func20 rfl rfl rfl ?_
 intro args os C rs os' hc hC
 unfold ym at hc
 split at hc
 case h_2=>cases hc
 rename_i p q
 cases hc
 refine v_h (BL hB) fun X hP hT hr hG=> ?_
 have hU:=rP.eq_1
 unfold rP at hT
 have hX:=ai @FJ.eq_1<|ai @yl.eq_1<| @jk.eq_1
 simp only[Tryz.f20,aD,al,ioB]
 obtain⟨hp,hq,hl1,hl2⟩:=hC
 refine s_g hG ?_
 refine s_g hG ?_
 refine ak ?_
 refine s_g hG ?_
 refine au ?_
 refine br (fun(z:Nat)=>(⟨[(0, .l (.z (.slice .str) p)),(1, .l (.z (.slice .str) q)),(4, .l (.val (.slice none 0 0))),(5, .l (.ownS 28)),(6, .l (.z (.int .i64) (z:Int)))], [(28, .arr .str 46 (txP (bO (· + ·) (nl p) (nl q) z)))]⟩:aa)) (fun z=>z<=max p.length q.length) (fun z=>max p.length q.length-z) 0 ?_ ?_ ?_
 ·refine q_l ?_
  exact⟨rfl,by unfold ioB;omega,rfl⟩
 ·omega
 ·rintro k g1
  try dsimp only at g1
  refine ak ?_
  refine s_g hG ?_
  refine aq ?_ ?_
  ·intro hb0
   have hk:=Ps hb0
   refine ar ?_
   refine ah ?_
   refine ak ?_
   refine au ?_
   refine ag hG ?_ ?_
   ·try simp only[ba]
    exact Dq hp hq (by omega)
   refine aQ ?_
   refine ah ?_
   refine ag hG ?_ ?_
   ·first|trivial|omega|(simp;done)|(simp;omega)
   show ∃ z,_
   refine q_l ?_
   exact Dm (by omega) (by omega)
  ·intro hb0
   have hk:=Pt hb0
   refine bg ?_
   refine aE ?_
   refine ax ?_
   refine aw ?_
   refine ah ?_
   refine s_q hG ?_ ?_
   ·try simp only[ba]
    exact⟨Hu hp hq k,by rw[cb,eG];omega⟩
   refine az ?_
   refine q_e [] ?_
   exact K3 g1 hk
def rQ(B:aj):Tab:={types:= [(3,(.int .i64)),(22,(.slice .str)),(46, .str)],elems:= [(22,46)],cons:= [(64,jk),(84,FK)],hint:= [20],N:=24,base:=B}
theorem BM{B:aj}(hB:aC B):aK Tryz.prog (rQ B):=⟨⟨tc ty3 (tc gA (tc mw (ae))),aR (by kernel_rfl) (af),by simp only[rQ,ioB];omega⟩,aF (cc Tryz.func64 (ke hB) (cc Tryz.func84 (HN hB) (ay))),by kernel_rfl⟩
def rR:Con:=fun l os=>match l,os with
 | [.z .str c, .z (.slice .str) p], []=>some (GQ QK2 c/\GL QK2 p/\p.length<=1000000, [.z (.slice .str) (txP (fh (bG c) (nl p)))], [])
 |_,_=>none
theorem Iz{B:aj}(hB:aC B):Valid B Tryz.prog 65 rR:=by
 refine ab (BM hB).tab Tryz.func65 rfl rfl rfl ?_
 intro args os C rs os' hc hC
 unfold rR at hc
 split at hc
 case h_2=>cases hc
 rename_i c p
 cases hc
 refine v_h (BM hB) fun X hP hT hr hG=> ?_
 have hU:=rQ.eq_1
 unfold rQ at hT
 have hX:=ai @FK.eq_1<| @jk.eq_1
 simp only[Tryz.f65,aD,al,ioB]
 obtain⟨hc,hp,hl1⟩:=hC
 refine s_g hG ?_
 refine s_g hG ?_
 refine ak ?_
 refine s_g hG ?_
 refine au ?_
 refine br (fun(z:Nat)=>(⟨[(0, .l (.z .str c)),(1, .l (.z (.slice .str) p)),(4, .l (.val (.slice none 0 0))),(5, .l (.ownS 21)),(6, .l (.z (.int .i64) (z:Int)))], [(21, .arr .str 46 (txP (((nl p).take z).map fun x=>bG c*x)))]⟩:aa)) (fun z=>z<=p.length) (fun z=>p.length-z) 0 ?_ ?_ ?_
 ·refine q_l ?_
  exact⟨rfl,by unfold ioB;omega,rfl⟩
 ·omega
 ·rintro k g1
  try dsimp only at g1
  refine ak ?_
  refine s_g hG ?_
  refine aq ?_ ?_
  ·intro hb0
   try simp only[bt] at hb0
   have hk:k<p.length:=by have h9:(k:Int)<(p.length:Int):=hb0;omega
   refine ar ?_
   refine ah ?_
   refine ak ?_
   refine au ?_
   refine ag hG ?_ ?_
   ·try simp only[ba]
    exact Ad hc hp hl1 hk
   refine aQ ?_
   refine ah ?_
   refine ag hG ?_ ?_
   ·first|trivial|omega|(simp;done)|(simp;omega)
   show ∃ z,_
   refine q_l ?_
   exact z8 hp hk hl1
  ·intro hb0
   try simp only[bf] at hb0
   have hk: ¬k<p.length:=by have h9: ¬ (k:Int)<(p.length:Int):=hb0;omega
   refine bg ?_
   refine aE ?_
   refine ax ?_
   refine aw ?_
   refine ah ?_
   refine s_q hG ?_ ?_
   ·try simp only[ba]
    exact⟨Dn hc hp k,by rw[cb,List.length_map,List.length_take,jg];omega⟩
   refine az ?_
   refine q_e [] ?_
   exact Hv hk
def rS(B:aj):Tab:={types:= [(3,(.int .i64)),(22,(.slice .str))],elems:= [(22,46)],cons:= [(64,jk)],hint:= [13],N:=19,base:=B}
theorem BN{B:aj}(hB:aC B):aK Tryz.prog (rS B):=⟨⟨tc ty3 (tc gA (ae)),aR (by kernel_rfl) (af),by simp only[rS,ioB];omega⟩,aF (cc Tryz.func64 (ke hB) (ay)),by kernel_rfl⟩
def rT:Con:=fun l os=>match l,os with
 | [.z (.slice .str) p, .z (.int .i64) n], []=>some (GL QK p/\0<=n/\n<=1000000/\p.length<=1000000, [.z (.slice .str) (txP (iD n.toNat (nl p)))], [])
 |_,_=>none
theorem IA{B:aj}(hB:aC B):Valid B Tryz.prog 66 rT:=by
 refine ab (BN hB).tab Tryz.func66 rfl rfl rfl ?_
 intro args os C rs os' hc hC
 unfold rT at hc
 split at hc
 case h_2=>cases hc
 rename_i p n
 cases hc
 refine v_h (BN hB) fun X hP hT hr hG=> ?_
 have hU:=rS.eq_1
 unfold rS at hT
 have hX:= @jk.eq_1
 simp only[Tryz.f66,aD,al,ioB]
 obtain⟨hp,hn1,hn2,hl1⟩:=hC
 obtain⟨n,rfl⟩:=Int.eq_ofNat_of_zero_le hn1
 rw[Int.toNat_natCast]
 have hn3:n<=1000000:=by have h9:(n:Int)<=1000000:=hn2;omega
 refine s_g hG ?_
 refine s_g hG ?_
 refine ak ?_
 refine s_g hG ?_
 refine au ?_
 refine br (fun(z:Nat)=>(⟨[(0, .l (.z (.slice .str) p)),(1, .l (.z (.int .i64) (n:Int))),(4, .l (.val (.slice none 0 0))),(5, .l (.ownS 14)),(6, .l (.z (.int .i64) (z:Int)))], [(14, .arr .str 46 (List.replicate z [48]))]⟩:aa)) (fun z=>z<=n) (fun z=>n-z) 0 ?_ ?_ ?_
 ·refine q_l ?_
  exact⟨rfl,by unfold ioB;omega,rfl⟩
 ·omega
 ·rintro k g1
  try dsimp only at g1
  refine ak ?_
  refine s_g hG ?_
  refine aq ?_ ?_
  ·intro hb0
   try simp only[bt] at hb0
   refine ar ?_
   refine ah ?_
   refine ak ?_
   refine au ?_
   refine ag hG ?_ ?_
   ·try simp only[ba]
    exact ui (by rw[List.length_replicate];omega)
   refine aQ ?_
   refine ah ?_
   refine ag hG ?_ ?_
   ·first|trivial|omega|(simp;done)|(simp;omega)
   show ∃ z,_
   refine q_l ?_
   exact⟨k+1,wi (by omega) (by omega),K4 k,by omega,by omega⟩
  ·intro hb0
   try simp only[bf] at hb0
   obtain rfl:k=n:=by have h9: ¬ (k:Int)<(n:Int):=hb0;omega
   refine bg ?_
   refine aE ?_
   refine ax ?_
   refine aw ?_
   refine ah ?_
   refine s_q hG ?_ ?_
   ·try simp only[ba]
    exact⟨ui (by rw[List.length_replicate];omega),Do hp k,by rw[List.length_append,List.length_replicate];omega⟩
   refine az ?_
   refine q_e [] ?_
   exact Hx
def rU(B:aj):Tab:={types:= [(3,(.int .i64)),(22,(.slice .str)),(46, .str)],elems:= [],cons:= [(20,ym),(65,rR),(66,rT)],hint:= [],N:=24,base:=B}
theorem BO{B:aj}(hB:aC B):aK Tryz.prog (rU B):=⟨⟨tc ty3 (tc gA (tc mw (ae))),af,by simp only[rU,ioB];omega⟩,aF (cc Tryz.func20 (Iy hB) (cc Tryz.func65 (Iz hB) (cc Tryz.func66 (IA hB) (ay)))),by kernel_rfl⟩
def yn:Con:=fun l os=>match l,os with
 | [.z (.slice .str) p, .z (.slice .str) q], []=>some (K8 p q, [.z (.slice .str) (txP (eT (nl p) (nl q) p.length))], [])
 |_,_=>none
theorem IB{B:aj}(hB:aC B):Valid B Tryz.prog 22 yn:=by
 refine ab (BO hB).tab Tryz.func22 rfl rfl rfl ?_
 intro args os C rs os' hc hC
 unfold yn at hc
 split at hc
 case h_2=>cases hc
 rename_i p q
 cases hc
 refine v_h (BO hB) fun X hP hT hr hG=> ?_
 have hU:=rU.eq_1
 unfold rU at hT
 have hX:=ai @ym.eq_1<|ai @rR.eq_1<| @rT.eq_1
 simp only[Tryz.f22,aD,al,ioB]
 have hl1:=hC.2.2.1
 refine s_g hG ?_
 refine s_g hG ?_
 refine ak ?_
 refine s_g hG ?_
 refine au ?_
 refine br (fun(z:Nat)=>(⟨[(0, .l (.z (.slice .str) p)),(1, .l (.z (.slice .str) q)),(4, .l (.val (.slice none 0 0))),(5, .l (.z (.slice .str) (txP (eT (nl p) (nl q) z)))),(6, .l (.z (.int .i64) (z:Int)))], []⟩:aa)) (fun z=>z<=p.length) (fun z=>p.length-z) 0 ?_ ?_ ?_
 ·refine q_l ?_
  exact⟨rfl,rfl⟩
 ·omega
 ·rintro k g1
  try dsimp only at g1
  refine ak ?_
  refine s_g hG ?_
  refine aq ?_ ?_
  ·intro hb0
   try simp only[bt] at hb0
   have hk:k<p.length:=by have h9:(k:Int)<(p.length:Int):=hb0;omega
   refine ar ?_
   refine ah ?_
   refine ak ?_
   refine au ?_
   refine ag hG ?_ ?_
   ·try simp only[ba]
    exact⟨⟨by omega,hb0⟩,Hy hC hk⟩
   refine aQ ?_
   refine ah ?_
   refine ag hG ?_ ?_
   ·first|trivial|omega|(simp;done)|(simp;omega)
   show ∃ z,_
   refine q_l ?_
   obtain⟨w,w1,w2,w3⟩:=Dp hC hk
   exact⟨w,w2,w1,w3⟩
  ·intro hb0
   try simp only[bf] at hb0
   have hk: ¬k<p.length:=by have h9: ¬ (k:Int)<(p.length:Int):=hb0;omega
   refine bg ?_
   refine aE ?_
   refine ax ?_
   refine aw ?_
   refine ah ?_
   refine s_g hG ?_
   refine az ?_
   refine q_e [] ?_
   exact K9 g1 hk
end Go.Proofs.YtdojbabpnaifoaaGreatDoor
end
