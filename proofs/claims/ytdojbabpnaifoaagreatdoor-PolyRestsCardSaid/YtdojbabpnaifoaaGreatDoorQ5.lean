/- PolyRests: the whole card, with no condition. -/
import Derived.Test.YtdojbabpnaifoaaGreatDoorQ3
import Derived.Test.YtdojbabpnaifoaaGreatDoorQ2
import Derived.Test.YtdojbabpnaifoaaGreatDoorProg
import Derived.Test.YtdojbabpnaifoaaGreatDoorQ4
import Derived.Deep.LoopGhost
import Derived.Lib.Walk
import Derived.Lib.SliceRun
import Derived.KernelRfl
import Derived.OpenShut
import Derived.RowKit
import Derived.ChangeArms
import Derived.ChangeSame
import Derived.Deep.Slices
import Derived.ProofKit
import Derived.Deep.DeepHandedRow
import Derived.Test.YtdojbabpnaifoaaGreatDoorCards
import Derived.Test.YtdojbabpnaifoaaGreatDoorTie
import Derived.Lib.LaidTab
import Derived.Stop.LaidErr
import Derived.Lib.SmallJoins
import Derived.Deep.DeepLaidRun
import Derived.Shelf.Vars
import Derived.WalkKit
set_option linter.all false
set_option linter.unusedSimpArgs false
set_option linter.unusedVariables false
set_option maxRecDepth 100000
section
namespace Go.Proofs.YtdojbabpnaifoaaGreatDoor
open Go Go.Cm Go.Proofs
def Et(B:aj):Tab:={types:= [(2,(.int .i64)),(3,(.int .i64)),(87,(.slice (.int .u32))),(161,(.int .u32)),(164,(.int .u64))],elems:= [],cons:= [],hint:= [],N:=57,base:=B}
theorem Kn{B:aj}(hB:aC B):aH Tryz.prog (Et B):=⟨⟨tc ty2 (tc ty3 (tc hZ (tc fB (tc mE (ae))))),af,by simp only[Et,ioB];omega⟩,bL rfl,by kernel_rfl⟩
def uV:Con:=fun l os=>match l,os with
 | [.ownS 10000000, .z (.slice (.int .u32)) o, .z (.int .u64) q], [.win (.int .u32) 161 pre xs []]=>some (Lim xs/\Lim o/\xX q/\o.length+1<=xs.length/\o.length<CAP, [.z .bool (decide (valL (xs.take (o.length+1))<q*valL o))], [.win (.int .u32) 161 pre (put xs (o.length+1) (valL (xs.take (o.length+1))-q*valL o)) []])
 |_,_=>none
theorem Mh{B:aj}(hB:aC B):Valid B Tryz.prog 191 uV:=by
 refine ab (Kn hB).tab Tryz.func191 rfl rfl rfl ?_
 intro args os C rs os' hc hC
 unfold uV at hc
 split at hc
 case h_2=>cases hc
 rename_i o q pre xs
 cases hc
 refine v_h (Kn hB) fun X hP hT hr hG=> ?_
 have hU:=Et.eq_1
 unfold Et at hT
 have hX:=Bool.not_true
 simp only[Tryz.f191,aD,al,ioB]
 refine s_g hG ?_
 refine s_g hG ?_
 refine ak ?_
 refine s_g hG ?_
 refine au ?_
 refine br (fun(z:Nat×Int×Int×List Int)=>(⟨[(0, .l (.ownS 10000000)),(1, .l (.z (.slice (.int .u32)) o)),(2, .l (.z (.int .u64) q)),(7, .l (.z (.int .u64) z.2.1)),(8, .l (.z (.int .i64) z.2.2.1)),(14, .l (.z (.int .i64) ((List.length o+1:Nat):Int))),(15, .l (.z (.int .i64) (z.1:Int)))], [(10000000, .win (.int .u32) 161 pre z.2.2.2 [])]⟩:aa)) (fun z=>jx xs o q z.1 z.2.1 z.2.2.1 z.2.2.2) (fun z=>List.length o+1-z.1) (0,0,0,xs) ?_ ?_ ?_
 ·refine q_l ?_
  exact⟨wi (by omega) (by have:List.length o<1000000000000:=hC.2.2.2.2;omega),rfl⟩
 ·exact Bd hC.1
 ·rintro⟨i,c,b,ys⟩ hz
  try dsimp only at hz
  have hl:=hz.2.1
  have hlen:=hC.2.2.2.1
  refine s_g hG ?_
  refine ak ?_
  refine aq ?_ ?_
  ·intro hb0
   try simp only[bt] at hb0
   refine ar ?_
   refine ah ?_
   refine ak ?_
   refine au ?_
   refine s_g hG ?_
   refine s_g hG ?_
   refine cm (fun(z:Int)=>(⟨[(0, .l (.ownS 10000000)),(1, .l (.z (.slice (.int .u32)) o)),(2, .l (.z (.int .u64) q)),(8, .l (.z (.int .i64) b)),(9, .l (.z (.int .i64) (i:Int))),(10, .l (.z (.int .u64) z)),(14, .l (.z (.int .i64) ((List.length o+1:Nat):Int))),(15, .l (.z (.int .i64) (i:Int)))], [(10000000, .win (.int .u32) 161 pre ys [])]⟩:aa)) (fun z=>z=c+q*o.getD i 0) ?_ ?_
   ·refine s_g hG ?_
    refine aq ?_ ?_
    ·intro hb1
     try simp only[bt] at hb1
     refine ag hG ?_ ?_
     ·try simp only[ba]
      exact⟨by omega,hb1⟩
     show ∃ z,_
     refine q_l ?_
     first|exact H1 i hC.2.1 hC.2.2.1 hz.2.2.2.2.1|exact tY hb1
    ·intro hb1
     try simp only[bf] at hb1
     refine ar ?_
     show ∃ z,_
     refine q_l ?_
     first|exact H1 i hC.2.1 hC.2.2.1 hz.2.2.2.2.1|exact tY hb1
   rintro n hn
   try dsimp only at hn
   have hn2:0<=n/\n<LB*LB:=by rw[hn];have:=Be i hC.2.1 hC.2.2.1 hz.2.2.2.2.1;exact⟨this.1,this.2.1⟩
   refine s_q hG ?_ ?_
   ·try simp only[ba]
    decide
   refine s_q hG ?_ ?_
   ·try simp only[ba]
    exact⟨⟨by omega,by omega⟩,by omega,by decide⟩
   refine s_g hG ?_
   refine cm (fun(z:Int×Int)=>(⟨[(0, .l (.ownS 10000000)),(1, .l (.z (.slice (.int .u32)) o)),(2, .l (.z (.int .u64) q)),(7, .l (.z (.int .u64) (n/LB))),(8, .l (.z (.int .i64) z.2)),(9, .l (.z (.int .i64) (i:Int))),(11, .l (.z (.int .i64) z.1)),(14, .l (.z (.int .i64) ((List.length o+1:Nat):Int))),(15, .l (.z (.int .i64) (i:Int)))], [(10000000, .win (.int .u32) 161 pre ys [])]⟩:aa)) (fun z=>(0<=z.1/\z.1<LB)/\(0<=z.2/\z.2<=1)/\z.1-LB*z.2=ys.getD i 0-n%LB-b) ?_ ?_
   ·refine s_g hG ?_
    refine aq ?_ ?_
    ·intro hb2
     try simp only[bt] at hb2
     refine ag hG ?_ ?_
     ·first|trivial|omega|(simp;done)|(simp;omega)
     show ∃ z,_
     refine q_l ?_
     first|exact(by simpa only[and_assoc] using(mB hz.2.2.1 hn2 hz.2.2.2.2.2.2.1 rfl).1 hb2)|exact(by simpa only[and_assoc] using(mB hz.2.2.1 hn2 hz.2.2.2.2.2.2.1 rfl).2 hb2)
    ·intro hb2
     try simp only[bf] at hb2
     refine ar ?_
     show ∃ z,_
     refine q_l ?_
     first|exact(by simpa only[and_assoc] using(mB hz.2.2.1 hn2 hz.2.2.2.2.2.2.1 rfl).1 hb2)|exact(by simpa only[and_assoc] using(mB hz.2.2.1 hn2 hz.2.2.2.2.2.2.1 rfl).2 hb2)
   rintro⟨v,b2⟩ hv
   try dsimp only at hv
   refine ag hG ?_ ?_
   ·try simp only[ba]
    exact⟨⟨by omega,by omega⟩,by omega⟩
   refine aP ?_
   refine ah ?_
   refine ag hG ?_ ?_
   ·first|trivial|omega|(simp;done)|(simp;omega)
   show ∃ z,_
   refine q_l ?_
   exact Fj hC.2.1 hC.2.2.1 hC.2.2.2.1 hC.2.2.2.2 hz hb0 hn hv
  ·intro hb0
   try simp only[bf] at hb0
   refine bg ?_
   refine aE ?_
   refine ax ?_
   refine aw ?_
   refine ah ?_
   refine s_g hG ?_
   refine az ?_
   refine q_e [] ?_
   exact⟨(x5 hC.2.2.2.1 hz (by omega)).2,trivial,(x5 hC.2.2.2.1 hz (by omega)).1⟩
def Eu(B:aj):Tab:={types:= [(3,(.int .i64)),(87,(.slice (.int .u32))),(161,(.int .u32))],elems:= [],cons:= [],hint:= [],N:=37,base:=B}
theorem Ko{B:aj}(hB:aC B):aH Tryz.prog (Eu B):=⟨⟨tc ty3 (tc hZ (tc fB (ae))),af,by simp only[Eu,ioB];omega⟩,bL rfl,by kernel_rfl⟩
def uW:Con:=fun l os=>match l,os with
 | [.ownS 10000000, .z (.slice (.int .u32)) o], [.win (.int .u32) 161 pre xs []]=>some (Lim xs/\Lim o/\o.length+1<=xs.length/\o.length<CAP, [], [.win (.int .u32) 161 pre (put xs (o.length+1) (valL (xs.take (o.length+1))+valL o)) []])
 |_,_=>none
theorem Mi{B:aj}(hB:aC B):Valid B Tryz.prog 192 uW:=by
 refine ab (Ko hB).tab Tryz.func192 rfl rfl rfl ?_
 intro args os C rs os' hc hC
 unfold uW at hc
 split at hc
 case h_2=>cases hc
 rename_i o pre xs
 cases hc
 refine v_h (Ko hB) fun X hP hT hr hG=> ?_
 have hU:=Eu.eq_1
 unfold Eu at hT
 have hX:=Bool.not_true
 simp only[Tryz.f192,aD,al,ioB]
 refine s_g hG ?_
 refine s_g hG ?_
 refine au ?_
 refine br (fun(z:Nat×Int×List Int)=>(⟨[(0, .l (.ownS 10000000)),(1, .l (.z (.slice (.int .u32)) o)),(4, .l (.z (.int .u32) z.2.1)),(9, .l (.z (.int .i64) ((List.length o+1:Nat):Int))),(10, .l (.z (.int .i64) (z.1:Int)))], [(10000000, .win (.int .u32) 161 pre z.2.2 [])]⟩:aa)) (fun z=>jy xs o z.1 z.2.1 z.2.2) (fun z=>List.length o+1-z.1) (0,0,xs) ?_ ?_ ?_
 ·refine q_l ?_
  exact⟨wi (by omega) (by have:List.length o<1000000000000:=hC.2.2.2;omega),rfl⟩
 ·exact Bg hC.1
 ·rintro⟨i,c,ys⟩ hz
  try dsimp only at hz
  have hl:=hz.2.1
  have hlen:=hC.2.2.1
  refine s_g hG ?_
  refine ak ?_
  refine aq ?_ ?_
  ·intro hb0
   try simp only[bt] at hb0
   refine ar ?_
   refine ah ?_
   refine ak ?_
   refine au ?_
   refine s_g hG ?_
   refine s_q hG ?_ ?_
   ·try simp only[ba]
    exact⟨⟨by omega,by omega⟩,by omega⟩
   refine cm (fun(z:Int)=>(⟨[(0, .l (.ownS 10000000)),(1, .l (.z (.slice (.int .u32)) o)),(5, .l (.z (.int .i64) (i:Int))),(6, .l (.z (.int .u32) z)),(9, .l (.z (.int .i64) ((List.length o+1:Nat):Int))),(10, .l (.z (.int .i64) (i:Int)))], [(10000000, .win (.int .u32) 161 pre ys [])]⟩:aa)) (fun z=>z=ys.getD i 0+c+o.getD i 0) ?_ ?_
   ·refine s_g hG ?_
    refine aq ?_ ?_
    ·intro hb1
     try simp only[bt] at hb1
     refine ag hG ?_ ?_
     ·try simp only[ba]
      exact⟨by omega,hb1⟩
     show ∃ z,_
     refine q_l ?_
     first|exact(vQ i hz.2.2.1 hC.2.1 hz.2.2.2.2.1).2 hb1|exact(vQ i hz.2.2.1 hC.2.1 hz.2.2.2.2.1).1
    ·intro hb1
     try simp only[bf] at hb1
     refine ar ?_
     show ∃ z,_
     refine q_l ?_
     first|exact(vQ i hz.2.2.1 hC.2.1 hz.2.2.2.2.1).2 hb1|exact(vQ i hz.2.2.1 hC.2.1 hz.2.2.2.2.1).1
   rintro n hn
   try dsimp only at hn
   refine ag hG ?_ ?_
   ·try simp only[ba]
    exact⟨by decide,by decide,⟨by omega,by omega⟩,by omega⟩
   refine aP ?_
   refine ah ?_
   refine ag hG ?_ ?_
   ·first|trivial|omega|(simp;done)|(simp;omega)
   show ∃ z,_
   refine q_l ?_
   exact Fk hC.2.1 hC.2.2.1 hC.2.2.2 hz hb0 hn
  ·intro hb0
   try simp only[bf] at hb0
   refine bg ?_
   refine aE ?_
   refine ax ?_
   refine aw ?_
   refine q_e [] ?_
   exact⟨trivial,H0 hC.2.2.1 hz (by omega)⟩
def uX(B:aj):Tab:={types:= [(3,(.int .i64)),(4, .bool),(87,(.slice (.int .u32))),(89,(.st (.pair .bool (.slice (.int .u32))))),(161,(.int .u32)),(164,(.int .u64))],elems:= [(87,161)],cons:= [(150,dQ),(152,eI),(189,nM),(190,kY),(191,uV),(192,uW)],hint:= [52,144,152],N:=172,io:= [(191, [0]),(192, [0])],base:=B}
theorem Kq{B:aj}(hB:aC B):aH Tryz.prog (uX B):=⟨⟨tc ty3 (tc ty4 (tc hZ (tc gu (tc fB (tc mE (ae)))))),aS (by kernel_rfl) (af),by simp only[uX,ioB];omega⟩,aF (cc Tryz.func150 (jH hB) (cc Tryz.func152 (wG hB) (cc Tryz.func189 (Mf hB) (cc Tryz.func190 (Mg hB) (cc Tryz.func191 (Mh hB) (cc Tryz.func192 (Mi hB) (ay))))))),by kernel_rfl⟩
def ji:Con:=fun l os=>match l,os with
 | [.z (.slice (.int .u32)) m, .z (.slice (.int .u32)) o], []=>some (Cano m/\Cano o/\o≠ []/\m.length+o.length+1<CAP, [.z (.slice (.int .u32)) (im m o), .z (.slice (.int .u32)) (dF m o)], [])
 |_,_=>none
set_option maxHeartbeats 1000000 in
theorem Ev{B:aj}(hB:aC B):Valid B Tryz.prog 177 ji:=by
 refine ab (Kq hB).tab Tryz.func177 rfl rfl rfl ?_
 intro args os C rs os' hc hC
 unfold ji at hc
 split at hc
 case h_2=>cases hc
 rename_i m o
 cases hc
 refine v_h (Kq hB) fun X hP hT hr hG=> ?_
 have hU:=uX.eq_1
 unfold uX at hT
 have hX:=ai @eI.eq_1<|ai @uW.eq_1<|ai @uV.eq_1<|ai @kY.eq_1<|ai @nM.eq_1<|ai @dQ.eq_1<|ai @bT.eq_def<| @b9.eq_def
 simp only[Tryz.f177,aD,al,ioB]
 refine ak ?_
 show J X _ _ _
 refine ag hG ?_ ?_
 ·first|trivial|omega|(simp;done)|(simp;omega)
 refine ah ?_
 refine ak ?_
 refine ak ?_
 show J X _ _ _
 refine ag hG ?_ ?_
 ·try simp only[ba]
  exact⟨hC.1,hC.2.1,Nat.lt_of_le_of_lt (Nat.le_succ _) hC.2.2.2⟩
 refine ah ?_
 refine aq ?_ ?_
 ·intro hb0
  try simp only[bt] at hb0
  refine ak ?_
  show J X _ _ _
  refine ag hG ?_ ?_
  ·first|trivial|omega|(simp;done)|(simp;omega)
  refine ah ?_
  refine az ?_
  refine aA ?_
  refine q_e [62] ?_
  exact H8 hb0
 ·intro hb0
  try simp only[bf] at hb0
  refine ar ?_
  refine ah ?_
  refine ak ?_
  refine ak ?_
  show J X _ _ _
  refine ag hG ?_ ?_
  ·first|trivial|omega|(simp;done)|(simp;omega)
  refine ah ?_
  refine aq ?_ ?_
  ·intro hb1
   try simp only[bt] at hb1
   refine ak ?_
   show J X _ _ _
   refine ag hG ?_ ?_
   ·try simp only[ba]
    exact⟨⟨by omega,by omega⟩,hC.1.1,(div_one hC.2.1 hb0 hb1).1,by have:=hC.2.2.2;omega⟩
   refine ah ?_
   refine ak ?_
   show J X _ _ _
   refine ag hG ?_ ?_
   ·first|trivial|omega|(simp;done)|(simp;omega)
   refine ah ?_
   refine az ?_
   refine aA ?_
   refine q_e [62] ?_
   exact(div_one hC.2.1 hb0 hb1).2
  ·intro hb1
   simp only[beq_eq_false_iff_ne,ne_eq] at hb1
   obtain⟨p,hp⟩:∃ p,List.length o=p+2:=ox hC.2.2.1 hb1
   obtain⟨D,f⟩:∃ D:List Int,gq m o D p:=⟨_,gq.mk' hC.1 hC.2.1 hp (H9 hb0) hC.2.2.2⟩
   have hDl:=f.hDl
   have hcc:=f.hc
   have hlm:=f.hlm
   refine ar ?_
   refine ah ?_
   refine cm (fun(z:Int)=>(⟨[(0, .l (.z (.slice (.int .u32)) m)),(1, .l (.z (.slice (.int .u32)) o)),(8, .l (.z (.int .u32) z))], []⟩:aa)) (fun z=>z=aL o) ?_ ?_
   ·show J X _ _ _
    refine ag hG ?_ ?_
    ·try simp only[ba]
     have h:=rQ f.ho f.hp (by omega)
     exact⟨h.1,h.2.1⟩
    show ∃ z,_
    refine q_l ?_
    exact(rQ f.ho f.hp (by omega)).2.2
   rintro d hd
   try dsimp only at hd
   subst hd
   refine ak ?_
   show J X _ _ _
   refine gp hG ?_ ?_
   ·try simp only[ba]
    exact Fq f
   refine ah ?_
   refine ak ?_
   show J X _ _ _
   refine ag hG ?_ ?_
   ·first|trivial|omega|(simp;done)|(simp;omega)
   refine ah ?_
   refine ak ?_
   show J X _ _ _
   refine ag hG ?_ ?_
   ·try simp only[ba]
    exact Fs f
   refine ah ?_
   refine ak ?_
   refine ak ?_
   show J X _ _ _
   refine ag hG ?_ ?_
   ·first|trivial|omega|(simp;done)|(simp;omega)
   refine ah ?_
   refine au ?_
   refine br (fun(z:Nat×List Int×List Int)=>(⟨[(8, .l (.z (.int .u32) (aL o))),(9, .l (.ownS 1392)),(10, .l (.z (.slice (.int .u32)) D)),(11, .l (.z (.int .i64) (List.length o:Int))),(12, .l (.ownS 62)),(13, .l (.z (.int .i64) ((z.1:Int)-1)))], [(1392, .arr (.int .u32) 161 z.2.1),(62, .arr (.int .u32) 161 z.2.2)]⟩:aa)) (fun z=>jA (valL m*aL o) (valL D) (List.length m) (p+2) z.1 z.2.1 z.2.2) (fun z=>z.1) (List.length m+1-List.length o,padL (valL m*aL o).toNat (List.length m+1),List.replicate (List.length m+1-List.length o) 0) ?_ ?_ ?_
   ·refine q_l ?_
    exact K3 f
   ·exact Bi f
   ·rintro⟨k,T,Q⟩ hz
    try dsimp only at hz
    have hz1:=hz.1
    have hz3:=hz.2.2.1
    have hz5:=hz.2.2.2.2.1
    refine ak ?_
    refine ak ?_
    show J X _ _ _
    refine ag hG ?_ ?_
    ·first|trivial|omega|(simp;done)|(simp;omega)
    refine ah ?_
    refine aq ?_ ?_
    ·intro hb2
     try simp only[decide_eq_true_eq] at hb2
     obtain⟨j,rfl⟩:∃ j,k=j+1:=⟨k-1,by omega⟩
     have ej:(((j+1:Nat)):Int)-1=(j:Int):=by omega
     rw[ej]
     have hw17:(j:Int).toNat<List.length T:=by omega
     have hw19:∀ v:Int,(j:Int).toNat<(List.take (j:Int).toNat T++put (List.drop (j:Int).toNat T) (List.length D+1) v).length:=fun v=>by rw[CP _ (by rw[hDl];omega)];exact hw17
     have ej0:IntKind.i64.wrap ((j:Int)+(List.length o:Int))=((j+(p+2):Nat):Int):=by rw[wi (by omega) (by omega)];omega
     have ej1:IntKind.i64.wrap (((j+(p+2):Nat):Int)-1)=((j+(p+1):Nat):Int):=by rw[wi (by omega) (by omega)];omega
     have ej2:IntKind.i64.wrap (((j+(p+2):Nat):Int)-2)=((j+p:Nat):Int):=by rw[wi (by omega) (by omega)];omega
     have g:=x6 (j:=j) (p:=p) hz.2.1 f.hL f.hDl f.hVp (by omega) hz.2.2.2.2.2.2
     have hD1:=(f.hL.getD (p+1)).2
     have hTj:j+(p+3)<=List.length T:=by omega
     refine ar ?_
     refine ah ?_
     refine ak ?_
     refine au ?_
     refine cm (fun(z:Int)=>(⟨[(8, .l (.z (.int .u32) (aL o))),(9, .l (.ownS 1392)),(10, .l (.z (.slice (.int .u32)) D)),(11, .l (.z (.int .i64) (List.length o:Int))),(12, .l (.ownS 62)),(13, .l (.z (.int .i64) (j:Int))),(14, .l (.z (.int .u64) z))], [(1392, .arr (.int .u32) 161 T),(62, .arr (.int .u32) 161 Q)]⟩:aa)) (fun z=>z=T.getD (j+(p+2)) 0*LB+T.getD (j+(p+1)) 0/\z<LB*LB) ?_ ?_
     ·show J X _ _ _
      refine gp hG ?_ ?_
      ·try simp only[ba]
       simp only[ej0,ej1,Int.toNat_natCast]
       exact⟨⟨by omega,by omega⟩,by omega,⟨by omega,by omega⟩,by omega⟩
      show ∃ z,_
      refine q_l ?_
      simp only[f.en1,f.en2,ej0,ej1,ej2,Int.toNat_natCast,fu]
      have:=H4 (hz.2.1.getD (j+(p+2))) (hz.2.1.getD (j+(p+1)))
      rw[this.1]
      exact⟨rfl,this.2.1⟩
     rintro top ht
     try dsimp only at ht
     have g2:=g
     rw[<- ht.1] at g2
     have ht0:=g2.htop
     refine cm (fun(z:Int)=>(⟨[(8, .l (.z (.int .u32) (aL o))),(9, .l (.ownS 1392)),(10, .l (.z (.slice (.int .u32)) D)),(11, .l (.z (.int .i64) (List.length o:Int))),(12, .l (.ownS 62)),(13, .l (.z (.int .i64) (j:Int))),(14, .l (.z (.int .u64) top)),(15, .l (.z (.int .u64) z))], [(1392, .arr (.int .u32) 161 T),(62, .arr (.int .u32) 161 Q)]⟩:aa)) (fun z=>z=min (top/D.getD (p+1) 0) 999999999) ?_ ?_
     ·show J X _ _ _
      refine ag hG ?_ ?_
      ·try simp only[ba]
       simp only[f.en1,f.en2,ej0,ej1,ej2,Int.toNat_natCast,fu]
       exact⟨⟨by omega,by omega⟩,(x7 ht0 ht.2 g.hD1 hD1).2⟩
      show ∃ z,_
      refine q_l ?_
      simp only[f.en1,f.en2,ej0,ej1,ej2,Int.toNat_natCast,fu]
      rw[(x7 ht0 ht.2 g.hD1 hD1).1]
     rintro gs hg
     try dsimp only at hg
     refine ak ?_
     refine au ?_
     refine br (fun(z:Int)=>(⟨[(8, .l (.z (.int .u32) (aL o))),(9, .l (.ownS 1392)),(10, .l (.z (.slice (.int .u32)) D)),(11, .l (.z (.int .i64) (List.length o:Int))),(12, .l (.ownS 62)),(13, .l (.z (.int .i64) (j:Int))),(14, .l (.z (.int .u64) top)),(15, .l (.z (.int .u64) z))], [(1392, .arr (.int .u32) 161 T),(62, .arr (.int .u32) 161 Q)]⟩:aa)) (fun z=>Fp (valL ((T.drop j).take (p+3))) (valL D) top (D.getD (p+1) 0) z) (fun z=>z.toNat) gs ?_ ?_ ?_
     ·simp only[ml0,ml1,Nat.reduceLT,Nat.reduceEqDiff,Nat.reduceAdd,Nat.reduceMul,Nat.reduceSub,Nat.reduceLeDiff,Nat.reduceBEq,Nat.reduceBNe,reduceIte,reduceDIte,reduceCtorEq]
     ·exact K1 g2 hg
     ·rintro q hq
      try dsimp only at hq
      refine ak ?_
      refine ak ?_
      show J X _ _ _
      refine gp hG ?_ ?_
      ·try simp only[ba]
       simp only[f.en1,f.en2,ej0,ej1,ej2,Int.toNat_natCast,fu]
       exact⟨⟨by omega,by omega⟩,⟨by omega,by omega⟩,⟨by omega,by omega⟩,by omega,fun h=>h,fun h=>⟨h,by omega,by omega⟩,fun h=>h⟩
      refine ah ?_
      refine aq ?_ ?_
      ·intro hb3
       try simp only[bt] at hb3
       refine ar ?_
       refine ah ?_
       refine au ?_
       show J X _ _ _
       refine ag hG ?_ ?_
       ·first|trivial|omega|(simp;done)|(simp;omega)
       refine aP ?_
       show ∃ z,_
       refine q_l ?_
       simp only[f.en1,f.en2,ej0,ej1,ej2,Int.toNat_natCast,fu] at hb3
       exact MJ g2 ht.2 hD1 hq hb3
      ·intro hb3
       try simp only[bf] at hb3
       refine bg ?_
       refine aE ?_
       refine ax ?_
       refine aw ?_
       refine ah ?_
       refine cm (fun(z:Int×List Int)=>(⟨[(8, .l (.z (.int .u32) (aL o))),(9, .l (.ownS 1392)),(10, .l (.z (.slice (.int .u32)) D)),(11, .l (.z (.int .i64) (List.length o:Int))),(12, .l (.ownS 62)),(13, .l (.z (.int .i64) (j:Int))),(15, .l (.z (.int .u64) z.1))], [(1392, .arr (.int .u32) 161 z.2),(62, .arr (.int .u32) 161 Q)]⟩:aa)) (fun z=>z.1=valL ((T.drop j).take (p+3))/valL D/\z.2=T.take j++put (T.drop j) (p+3) (valL ((T.drop j).take (p+3))-z.1*valL D)) ?_ ?_
       ·refine ak ?_
        show J X _ _ _
        refine cC hG (by simp only[hw17,hT,uX,bT.eq_def,b9.eq_def,eI,uW,uV,kY,nM,dQ,mx0,mx1,mx2,mx3,mx4,mx5,mx6,aU,bm,bF,aY,bl,Ty.fieldTy,Ty.fieldOf,Nat.reduceLT,Nat.reduceEqDiff,Nat.reduceAdd,Nat.reduceMul,Nat.reduceSub,Nat.reduceLeDiff,Nat.reduceBEq,Nat.reduceBNe,reduceIte,reduceDIte,reduceCtorEq];rfl) ?_ ?_
        ·try simp only[ba]
         simp only[Int.toNat_natCast]
         exact⟨⟨by omega,by omega⟩,⟨hz.2.1.drop j,f.hL,⟨hq.2.2.2,hq.2.1⟩,by rw[hDl,List.length_drop];omega,by rw[hDl];unfold CAP;omega⟩,by rw[List.length_take];omega⟩
        refine ah ?_
        refine aq ?_ ?_
        ·intro hb4
         try simp only[bt] at hb4
         refine ak ?_
         show J X _ _ _
         refine ag hG ?_ ?_
         ·first|trivial|omega|(simp;done)|(simp;omega)
         refine ah ?_
         show J X _ _ _
         refine cC hG (by simp only[hw17,hw19,hT,uX,bT.eq_def,b9.eq_def,eI,uW,uV,kY,nM,dQ,mx0,mx1,mx2,mx3,mx4,mx5,mx6,aU,bm,bF,aY,bl,Ty.fieldTy,Ty.fieldOf,Nat.reduceLT,Nat.reduceEqDiff,Nat.reduceAdd,Nat.reduceMul,Nat.reduceSub,Nat.reduceLeDiff,Nat.reduceBEq,Nat.reduceBNe,reduceIte,reduceDIte,reduceCtorEq];rfl) ?_ ?_
         ·try simp only[ba]
          simp only[Int.toNat_natCast,f.hDl3]
          rw[(rR _ hTj).1,(rR _ hTj).2,CP _ hTj]
          exact⟨⟨by omega,by omega⟩,⟨CN (hz.2.1.drop j) _ _,f.hL,by rw[vP _ (by rw[List.length_drop];omega),List.length_drop];omega,by rw[hDl];unfold CAP;omega⟩,by rw[List.length_take];omega⟩
         show ∃ z,_
         refine q_l ?_
         simp only[Int.toNat_natCast,f.hDl3] at hb4 ⊢
         simp only[f.en1,f.en2,ej0,ej1,ej2,Int.toNat_natCast,fu] at hb3
         have hst:=H6 g2 ht.2 hD1 hq hb3
         first|(have hq1:=hst.1 hb4;have hqn:=g.qnn;have hql:=g.qlt;have hB:LB=1000000000:=rfl;rw[w64 (x:=q-1) (by omega) (by omega),uc hTj];exact⟨hq1,rfl⟩)|exact⟨hst.2 hb4,trivial⟩|exact⟨hst.2 hb4,rfl⟩
        ·intro hb4
         try simp only[bf] at hb4
         refine ar ?_
         show ∃ z,_
         refine q_l ?_
         simp only[Int.toNat_natCast,f.hDl3] at hb4 ⊢
         simp only[f.en1,f.en2,ej0,ej1,ej2,Int.toNat_natCast,fu] at hb3
         have hst:=H6 g2 ht.2 hD1 hq hb3
         first|(have hq1:=hst.1 hb4;have hqn:=g.qnn;have hql:=g.qlt;have hB:LB=1000000000:=rfl;rw[w64 (x:=q-1) (by omega) (by omega),uc hTj];exact⟨hq1,rfl⟩)|exact⟨hst.2 hb4,trivial⟩|exact⟨hst.2 hb4,rfl⟩
       rintro⟨q2,Tn⟩ hq2
       try dsimp only at hq2
       show J X _ _ _
       refine ag hG ?_ ?_
       ·try simp only[ba]
        exact⟨⟨by omega,by omega⟩,by omega⟩
       refine aP ?_
       refine ah ?_
       show J X _ _ _
       refine ag hG ?_ ?_
       ·first|trivial|omega|(simp;done)|(simp;omega)
       show ∃ z,_
       refine q_l ?_
       rw[wi (x:=(j:Int)-1) (by omega) (by omega),hq2.2,Int.toNat_natCast,w32 (by rw[hq2.1];exact g.qnn) (by rw[hq2.1];have:=g.qlt;have hB:LB=1000000000:=rfl;omega)]
       exact⟨j,rfl,Fm f.hL f.hDl f.hVp f.hlm hz hq2.1,by omega⟩
    ·intro hb2
     try simp only[bf] at hb2
     refine bg ?_
     refine aE ?_
     refine ax ?_
     refine aw ?_
     refine ah ?_
     refine ak ?_
     show J X _ _ _
     refine ag hG ?_ ?_
     ·try simp only[ba]
      exact Bj f hz (by omega)
     refine ah ?_
     refine ak ?_
     show J X _ _ _
     refine ag hG ?_ ?_
     ·first|trivial|omega|(simp;done)|(simp;omega)
     refine ah ?_
     refine az ?_
     refine q_e [62] ?_
     obtain rfl:k=0:=by omega
     exact K2 f hz
def Ew(B:aj):Tab:={types:= [(3,(.int .i64)),(4, .bool),(87,(.slice (.int .u32))),(89,(.st (.pair .bool (.slice (.int .u32)))))],elems:= [],cons:= [(110,y4),(133,iS),(150,dQ),(154,oJ),(177,ji),(179,L7)],hint:= [],N:=47,base:=B}
theorem Kr{B:aj}(hB:aC B):aH Tryz.prog (Ew B):=⟨⟨tc ty3 (tc ty4 (tc hZ (tc gu (ae)))),af,by simp only[Ew,ioB];omega⟩,aF (cc Tryz.func110 (wI hB) (cc Tryz.func133 (o8 hB) (cc Tryz.func150 (jH hB) (cc Tryz.func154 (wF hB) (cc Tryz.func177 (Ev hB) (cc Tryz.func179 (L8 hB) (ay))))))),by kernel_rfl⟩
def Ex:Con:=fun l os=>match l,os with
 | [.z (.st (.pair .bool (.slice (.int .u32)))) x, .z (.st (.pair .bool (.slice (.int .u32)))) y], []=>some (nq x y, [.z (.st (.pair .bool (.slice (.int .u32)))) (enc (bM (dec x) (dec y))), .z (.st (.pair .bool (.slice (.int .u32)))) (enc (iQ (dec x) (dec y)))], [])
 |_,_=>none
theorem Mj{B:aj}(hB:aC B):Valid B Tryz.prog 149 Ex:=by
 refine ab (Kr hB).tab Tryz.func149 rfl rfl rfl ?_
 intro args os C rs os' hc hC
 unfold Ex at hc
 split at hc
 case h_2=>cases hc
 rename_i x y
 cases hc
 refine v_h (Kr hB) fun X hP hT hr hG=> ?_
 have hU:=Ew.eq_1
 unfold Ew at hT
 have hX:=ai @y4.eq_1<|ai @ji.eq_1<|ai @oJ.eq_1<|ai @iS.eq_1<|ai @L7.eq_1<| @dQ.eq_1
 simp only[Tryz.f149,aD,al,ioB]
 refine s_g hG ?_
 refine s_q hG ?_ ?_
 ·try simp only[ba]
  exact hC.side1
 refine s_d hG ?_ ?_
 ·try simp only[ba]
  exact hC.side2
 refine ak ?_
 refine s_q hG ?_ ?_
 ·try simp only[ba]
  exact⟨enc_ok _,fun h=>h⟩
 refine aq ?_ ?_
 ·intro hb0
  try simp only[bt] at hb0
  refine gp hG ?_ ?_
  ·try simp only[ba]
   exact hC.side4
  refine ah ?_
  refine s_d hG ?_ ?_
  ·first|trivial|omega|(simp;done)|(simp;omega)
  refine az ?_
  refine q_e [] ?_
  exact hC.fin1 hb0
 ·intro hb0
  try simp only[bf] at hb0
  refine ar ?_
  refine ah ?_
  refine s_d hG ?_ ?_
  ·first|trivial|omega|(simp;done)|(simp;omega)
  refine az ?_
  refine q_e [] ?_
  exact hC.fin2 hb0
def sZ(B:aj):Tab:={types:= [(87,(.slice (.int .u32))),(161,(.int .u32)),(164,(.int .u64))],elems:= [],cons:= [(193,uR)],hint:= [],N:=16,base:=B}
theorem Ks{B:aj}(hB:aC B):aH Tryz.prog (sZ B):=⟨⟨tc hZ (tc fB (tc mE (ae))),af,by simp only[sZ,ioB];omega⟩,aF (cc Tryz.func193 (D6 hB) (ay)),by kernel_rfl⟩
def wV:Con:=fun l os=>match l,os with
 | [.z (.slice (.int .u32)) m], []=>some (Lim m/\m.length<=2, [.z (.int .u64) (valL m)], [])
 |_,_=>none
theorem Mk{B:aj}(hB:aC B):Valid B Tryz.prog 178 wV:=by
 refine ab (Ks hB).tab Tryz.func178 rfl rfl rfl ?_
 intro args os C rs os' hc hC
 unfold wV at hc
 split at hc
 case h_2=>cases hc
 rename_i m
 cases hc
 refine v_h (Ks hB) fun X hP hT hr hG=> ?_
 have hU:=sZ.eq_1
 unfold sZ at hT
 have hX:= @uR.eq_1
 simp only[Tryz.f178,aD,al,ioB]
 refine s_g hG ?_
 refine s_g hG ?_
 refine ak ?_
 refine s_g hG ?_
 refine au ?_
 refine CC hr (gf:=208) (caps:= [.z (.ptr (.slice (.int .u32))) m]) (items:=cO m) (by simp only[hT,sZ,mx0,mx1,mx2,mx3,mx4,mx5,mx6,aU,bm,bF,aY,bl,Ty.fieldTy,Ty.fieldOf,Nat.reduceLT,Nat.reduceEqDiff,Nat.reduceAdd,Nat.reduceMul,Nat.reduceSub,Nat.reduceLeDiff,Nat.reduceBEq,Nat.reduceBNe,reduceIte,reduceDIte,reduceCtorEq];try rfl) (by rfl) (by rw[hP];exact yb m) (by rfl) [3] (by rfl) (by simp only[hT,sZ];try rfl) (fun(k:Nat) (z:Int)=>(⟨[(3, .l (.ownP 3 0))], [(3, .box 164 [.z (.int .u64) z])]⟩:aa)) (fun(k:Nat) (z:Int)=>z=valL (List.drop (List.length m-k) m)) 0 ?_ ?_ ?_ ?_ ?_
 ·simp only[ml0,ml1,Nat.reduceLT,Nat.reduceEqDiff,Nat.reduceAdd,Nat.reduceMul,Nat.reduceSub,Nat.reduceLeDiff,Nat.reduceBEq,Nat.reduceBNe,reduceIte,reduceDIte,reduceCtorEq]
 ·rw[HT];rfl
 ·intro k z;rfl
 ·intro k hk
  rintro z hz
  try dsimp only at hz
  have hk:k<List.length m:=by simpa [cO] using hk
  refine⟨_,by simp only[hT,sZ,cO,rX,mx0,mx1,mx2,mx3,mx4,mx5,mx6,aU,bm,bF,aY,bl,Ty.fieldTy,Ty.fieldOf,Nat.reduceLT,Nat.reduceEqDiff,Nat.reduceAdd,Nat.reduceMul,Nat.reduceSub,Nat.reduceLeDiff,Nat.reduceBEq,Nat.reduceBNe,reduceIte,reduceDIte,reduceCtorEq,List.getElem_map,List.getElem_range];rfl,?_⟩
  intro X' hP' hT'
  have hG':aH X'.P X'.T:=by rw[hP',hT'];exact hG.keep _
  rw[hT] at hT'
  refine au ?_
  refine nk hG' ?_ ?_
  ·first|trivial|omega|(simp;done)|(simp;omega)
  refine aP ?_
  show ∃ z,_
  simp only[ml0,ml1,Nat.reduceLT,Nat.reduceEqDiff,Nat.reduceAdd,Nat.reduceMul,Nat.reduceSub,Nat.reduceLeDiff,Nat.reduceBEq,Nat.reduceBNe,reduceIte,reduceDIte,reduceCtorEq]
  exact xU hC.1 hC.2 hk hz
 ·rintro z hz
  try dsimp only at hz
  rw[show List.length (cO m)=List.length m by simp[cO],Nat.sub_self,List.drop_zero] at hz
  refine aP ?_
  refine ah ?_
  refine s_g hG ?_
  refine az ?_
  refine q_e [] ?_
  exact hz
def Ey(B:aj):Tab:={types:= [(3,(.int .i64)),(4, .bool),(87,(.slice (.int .u32))),(89,(.st (.pair .bool (.slice (.int .u32))))),(161,(.int .u32)),(164,(.int .u64))],elems:= [(87,161)],cons:= [(150,dQ),(177,ji),(178,wV)],hint:= [],N:=68,base:=B}
theorem Kt{B:aj}(hB:aC B):aH Tryz.prog (Ey B):=⟨⟨tc ty3 (tc ty4 (tc hZ (tc gu (tc fB (tc mE (ae)))))),aS (by kernel_rfl) (af),by simp only[Ey,ioB];omega⟩,aF (cc Tryz.func150 (jH hB) (cc Tryz.func177 (Ev hB) (cc Tryz.func178 (Mk hB) (ay)))),by kernel_rfl⟩
def uY:Con:=fun l os=>match l,os with
 | [.z (.st (.pair .bool (.slice (.int .u32)))) x, .z (.st (.pair .bool (.slice (.int .u32)))) y], []=>some (nr x y, [.z (.st (.pair .bool (.slice (.int .u32)))) (enc (cA (dec x) (dec y)))], [])
 |_,_=>none
theorem Ez{B:aj}(hB:aC B):Valid B Tryz.prog 147 uY:=by
 refine ab (Kt hB).tab Tryz.func147 rfl rfl rfl ?_
 intro args os C rs os' hc hC
 unfold uY at hc
 split at hc
 case h_2=>cases hc
 rename_i x y
 cases hc
 refine v_h (Kt hB) fun X hP hT hr hG=> ?_
 have hU:=Ey.eq_1
 unfold Ey at hT
 have hX:=ai @ji.eq_1<|ai @wV.eq_1<| @dQ.eq_1
 simp only[Tryz.f147,aD,al,ioB]
 refine s_g hG ?_
 refine s_d hG ?_ ?_
 ·first|trivial|omega|(simp;done)|(simp;omega)
 refine ak ?_
 refine au ?_
 refine br (fun(z:List Int×List Int)=>(⟨[(4, .l (.ownP 4 0)),(5, .l (.z (.slice (.int .u32)) z.1)),(6, .l (.z (.slice (.int .u32)) z.2))], [(4, .box 89 [.z .bool false, .val (.slice none 0 0)])]⟩:aa)) (fun z=>vR x y z.1 z.2) (fun z=>(valL z.2).toNat) (x.2,y.2) ?_ ?_ ?_
 ·simp only[ml0,ml1,Nat.reduceLT,Nat.reduceEqDiff,Nat.reduceAdd,Nat.reduceMul,Nat.reduceSub,Nat.reduceLeDiff,Nat.reduceBEq,Nat.reduceBNe,reduceIte,reduceDIte,reduceCtorEq]
 ·exact vR.start hC
 ·rintro⟨u,v⟩ hz
  try dsimp only at hz
  have hcc:2*(List.length x.2+List.length y.2)+4<1000000000000:=hC.hc
  refine ak ?_
  refine s_g hG ?_
  refine aq ?_ ?_
  ·intro hb0
   try simp only[bt] at hb0
   refine ar ?_
   refine ah ?_
   refine au ?_
   refine s_q hG ?_ ?_
   ·try simp only[ba]
    exact hz.side3 hC (fS (by omega))
   refine ag hG ?_ ?_
   ·try simp only[ba]
    exact hz.side4 hC (fS (by omega))
   refine aP ?_
   show ∃ z,_
   refine q_l ?_
   exact hz.next hC (fS (by omega))
  ·intro hb0
   try simp only[bf] at hb0
   refine bg ?_
   refine aE ?_
   refine ax ?_
   refine aw ?_
   refine ah ?_
   refine ak ?_
   refine s_g hG ?_
   refine aq ?_ ?_
   ·intro hb1
    try simp only[bt] at hb1
    refine s_q hG ?_ ?_
    ·try simp only[ba]
     exact⟨hz.hu.1,by have:=hz.hul;unfold CAP;omega⟩
    refine az ?_
    refine aA ?_
    refine q_e [65] ?_
    exact hz.stop (Bk (by omega))
   ·intro hb1
    simp only[beq_eq_false_iff_ne,ne_eq] at hb1
    refine ar ?_
    refine ah ?_
    refine s_q hG ?_ ?_
    ·try simp only[ba]
     exact hz.side3 hC (fS (by omega))
    refine s_q hG ?_ ?_
    ·try simp only[ba]
     have hr:=hz.rest (fS (by omega))
     exact⟨⟨hz.hv.1,by omega⟩,hz.side4 hC (fS (by omega)),hr.1.1,by omega⟩
    refine ak ?_
    refine au ?_
    refine br (fun(z:Int×Int)=>(⟨[(4, .l (.ownP 4 0)),(11, .l (.z (.int .u64) z.1)),(12, .l (.z (.int .u64) z.2))], [(4, .box 89 [.z .bool false, .val (.slice none 0 0)])]⟩:aa)) (fun z=>vS x y z.1 z.2) (fun z=>z.2.toNat) (valL v,valL (enc (dec (false,dF u v))).2) ?_ ?_ ?_
    ·simp only[ml0,ml1,Nat.reduceLT,Nat.reduceEqDiff,Nat.reduceAdd,Nat.reduceMul,Nat.reduceSub,Nat.reduceLeDiff,Nat.reduceBEq,Nat.reduceBNe,reduceIte,reduceDIte,reduceCtorEq]
    ·exact vS.start hz hC (fS (by omega)) (by omega)
    ·rintro⟨a,b⟩ he
     try dsimp only at he
     refine ak ?_
     refine s_g hG ?_
     refine aq ?_ ?_
     ·intro hb2
      try simp only[bt] at hb2
      refine ar ?_
      refine ah ?_
      refine au ?_
      refine gp hG ?_ ?_
      ·try simp only[ba]
       omega
      refine aP ?_
      show ∃ z,_
      refine q_l ?_
      exact he.next hb2
     ·intro hb2
      try simp only[decide_eq_false_iff_not] at hb2
      have he2:=he.stop hb2
      refine bg ?_
      refine aE ?_
      refine ax ?_
      refine aw ?_
      refine ah ?_
      refine s_g hG ?_
      refine ak ?_
      refine au ?_
      refine br (fun(z:Nat×List Int)=>(⟨[(11, .l (.z (.int .u64) (z.1:Int))),(13, .l (.ownP 13 0)),(4, .l (.ownP 4 0))], [(13, .box 89 [.z .bool false, .ownS 65]),(65, .arr (.int .u32) 161 z.2),(4, .box 89 [.z .bool false, .val (.slice none 0 0)])]⟩:aa)) (fun z=>z.2++limbs z.1=limbs (cA (dec x) (dec y)).toNat/\z.1<18446744073709551616) (fun z=>z.1) ((cA (dec x) (dec y)).toNat, []) ?_ ?_ ?_
      ·refine q_l ?_
       exact⟨he2.1,by unfold ioB;omega⟩
      ·exact⟨by simp,he2.2⟩
      ·rintro⟨w,l⟩ ⟨g1,g2⟩
       try dsimp only at g1 g2
       refine ak ?_
       refine s_g hG ?_
       refine aq ?_ ?_
       ·intro hb3
        try simp only[bt] at hb3
        refine ar ?_
        refine ah ?_
        refine ak ?_
        refine au ?_
        refine ag hG ?_ ?_
        ·try simp only[ba]
         have h3:=lT he2.2
         have h4:=congrArg List.length g1
         simp only[List.length_append] at h4
         exact⟨by decide,by unfold Cm.Roomy;omega⟩
        refine aP ?_
        refine ah ?_
        refine ag hG ?_ ?_
        ·first|trivial|omega|(simp;done)|(simp;omega)
        show ∃ z,_
        refine q_l ?_
        exact ot g1 g2 hb3
       ·intro hb3
        try simp only[bf] at hb3
        refine bg ?_
        refine aE ?_
        refine ax ?_
        refine aw ?_
        refine ah ?_
        refine s_g hG ?_
        refine az ?_
        refine q_e [65] ?_
        have h0:w=0:=by omega
        subst h0
        rw[show limbs 0= [] by simp[limbs],List.append_nil] at g1
        rw[g1];exact K5 _ _
def po(B:aj):Tab:={types:= [(3,(.int .i64)),(4, .bool),(87,(.slice (.int .u32))),(89,(.st (.pair .bool (.slice (.int .u32))))),(91,(.st (.pair (.st (.pair .bool (.slice (.int .u32)))) (.st (.pair .bool (.slice (.int .u32))))))),(161,(.int .u32))],elems:= [],cons:= [(147,uY),(148,y0),(149,Ex)],hint:= [2,3,5],N:=43,base:=B}
theorem zg{B:aj}(hB:aC B):aH Tryz.prog (po B):=⟨⟨tc ty3 (tc ty4 (tc hZ (tc gu (tc ty91 (tc fB (ae)))))),af,by simp only[po,ioB];omega⟩,aF (cc Tryz.func147 (Ez hB) (cc Tryz.func148 (wE hB) (cc Tryz.func149 (Mj hB) (ay)))),by kernel_rfl⟩
def lI:Con:=fun l os=>match l,os with
 | [.z (.st (.pair .bool (.slice (.int .u32)))) n, .z (.st (.pair .bool (.slice (.int .u32)))) d], []=>some (gx n d, [.z (.st (.pair (.st (.pair .bool (.slice (.int .u32)))) (.st (.pair .bool (.slice (.int .u32)))))) (bk (Rat.divInt (dec n) (dec d)))], [])
 |_,_=>none
theorem kZ{B:aj}(hB:aC B):Valid B Tryz.prog 108 lI:=by
 refine ab (zg hB).tab Tryz.func108 rfl rfl rfl ?_
 intro args os C rs os' hc hC
 unfold lI at hc
 split at hc
 case h_2=>cases hc
 rename_i n d
 cases hc
 refine v_h (zg hB) fun X hP hT hr hG=> ?_
 have hU:=po.eq_1
 unfold po at hT
 have hX:=ai @Ex.eq_1<|ai @uY.eq_1<| @y0.eq_1
 simp only[Tryz.f108,aD,al,ioB]
 refine s_g hG ?_
 refine s_q hG ?_ ?_
 ·try simp only[ba]
  exact MR hC
 refine cm (fun(z:Int)=>(⟨[(2, .l (.ownP 2 0)),(3, .l (.ownP 3 0)),(4, .l (.ownP 4 0)),(5, .l (.ownP 5 0))], [(2, .box 89 [.z .bool n.1, .z (.slice (.int .u32)) n.2]),(3, .box 89 [.z .bool d.1, .z (.slice (.int .u32)) d.2]),(4, .box 91 [.z .bool false, .val (.slice none 0 0), .z .bool false, .val (.slice none 0 0)]),(5, .box 89 [.z .bool (enc z).1, .z (.slice (.int .u32)) (enc z).2])]⟩:aa)) (fun z=>z=dt (dec n) (dec d)) ?_ ?_
 ·refine s_g hG ?_
  refine aq ?_ ?_
  ·intro hb0
   try simp only[bt] at hb0
   refine ag hG ?_ ?_
   ·try simp only[ba]
    exact MS hC
   show ∃ z,_
   refine q_l ?_
   try simp only[pe,bP]
   first|exact⟨_,rfl,rfl,NA hC hb0⟩|exact⟨_,rfl,rfl,NB hC hb0⟩
  ·intro hb0
   try simp only[bf] at hb0
   refine ar ?_
   show ∃ z,_
   refine q_l ?_
   try simp only[pe,bP]
   first|exact⟨_,rfl,rfl,NA hC hb0⟩|exact⟨_,rfl,rfl,NB hC hb0⟩
 rintro g hg
 try dsimp only at hg
 subst hg
 have hp:=mk_pos hC
 refine ak ?_
 refine s_q hG ?_ ?_
 ·try simp only[ba]
  (repeat' (first|apply And.intro|intro _))<;>(try simp only[decide_eq_true_eq,decide_eq_false_iff_not,Bool.not_eq_true',beq_iff_eq,Int.toNat_natCast] at*)<;>first|assumption|omega|trivial|(simp_all;done)|(simp_all;omega)
 refine aq ?_ ?_
 ·intro hb1
  try simp only[bt] at hb1
  refine s_q hG ?_ ?_
  ·try simp only[ba]
   exact(Iv hC).1
  refine ag hG ?_ ?_
  ·try simp only[ba]
   exact(Iv hC).2
  refine ah ?_
  refine s_g hG ?_
  refine az ?_
  refine q_e [] ?_
  simp only[pe,bP]
  exact(lX hC.2.2.1).symm
 ·intro hb1
  try simp only[bf] at hb1
  refine ar ?_
  refine ah ?_
  refine s_g hG ?_
  refine az ?_
  refine q_e [] ?_
  exact MT hC hb1
def pw(B:aj):Tab:={types:= [(89,(.st (.pair .bool (.slice (.int .u32))))),(91,(.st (.pair (.st (.pair .bool (.slice (.int .u32)))) (.st (.pair .bool (.slice (.int .u32)))))))],elems:= [],cons:= [(108,lI),(109,y5),(110,y4)],hint:= [],N:=22,base:=B}
theorem zh{B:aj}(hB:aC B):aH Tryz.prog (pw B):=⟨⟨tc gu (tc ty91 (ae)),af,by simp only[pw,ioB];omega⟩,aF (cc Tryz.func108 (kZ hB) (cc Tryz.func109 (wJ hB) (cc Tryz.func110 (wI hB) (ay)))),by kernel_rfl⟩
def lJ:Con:=fun l os=>match l,os with
 | [.z (.st (.pair (.st (.pair .bool (.slice (.int .u32)))) (.st (.pair .bool (.slice (.int .u32)))))) x, .z (.st (.pair (.st (.pair .bool (.slice (.int .u32)))) (.st (.pair .bool (.slice (.int .u32)))))) y], []=>some (fT x y, [.z (.st (.pair (.st (.pair .bool (.slice (.int .u32)))) (.st (.pair .bool (.slice (.int .u32)))))) (bk (bA x+bA y))], [])
 |_,_=>none
theorem k8{B:aj}(hB:aC B):Valid B Tryz.prog 58 lJ:=by
 refine ab (zh hB).tab Tryz.func58 rfl rfl rfl ?_
 intro args os C rs os' hc hC
 unfold lJ at hc
 split at hc
 case h_2=>cases hc
 rename_i x y
 cases hc
 refine v_h (zh hB) fun X hP hT hr hG=> ?_
 have hU:=pw.eq_1
 unfold pw at hT
 have hX:=ai @y4.eq_1<|ai @lI.eq_1<| @y5.eq_1
 simp only[Tryz.f58,aD,al,ioB]
 refine s_g hG ?_
 refine s_d hG ?_ ?_
 ·try simp only[ba]
  exact Fx hC
 refine az ?_
 refine q_e [] ?_
 simp only[pe2]
 exact Iw hC
def px(B:aj):Tab:={types:= [(89,(.st (.pair .bool (.slice (.int .u32))))),(91,(.st (.pair (.st (.pair .bool (.slice (.int .u32)))) (.st (.pair .bool (.slice (.int .u32)))))))],elems:= [],cons:= [(148,y0)],hint:= [],N:=9,base:=B}
theorem zi{B:aj}(hB:aC B):aH Tryz.prog (px B):=⟨⟨tc gu (tc ty91 (ae)),af,by simp only[px,ioB];omega⟩,aF (cc Tryz.func148 (wE hB) (ay)),by kernel_rfl⟩
def EA:Con:=fun l os=>match l,os with
 | [.z (.st (.pair (.st (.pair .bool (.slice (.int .u32)))) (.st (.pair .bool (.slice (.int .u32)))))) x], []=>some (NOK x/\lq (bA x)<=QC, [.z (.st (.pair (.st (.pair .bool (.slice (.int .u32)))) (.st (.pair .bool (.slice (.int .u32)))))) (bk (-bA x))], [])
 |_,_=>none
theorem Gr{B:aj}(hB:aC B):Valid B Tryz.prog 111 EA:=by
 refine ab (zi hB).tab Tryz.func111 rfl rfl rfl ?_
 intro args os C rs os' hc hC
 unfold EA at hc
 split at hc
 case h_2=>cases hc
 rename_i x
 cases hc
 refine v_h (zi hB) fun X hP hT hr hG=> ?_
 have hU:=px.eq_1
 unfold px at hT
 have hX:= @y0.eq_1
 simp only[Tryz.f111,aD,al,ioB]
 refine s_g hG ?_
 refine s_d hG ?_ ?_
 ·try simp only[ba]
  exact Fy hC
 refine az ?_
 refine q_e [] ?_
 exact Ix hC.1
def py(B:aj):Tab:={types:= [(91,(.st (.pair (.st (.pair .bool (.slice (.int .u32)))) (.st (.pair .bool (.slice (.int .u32)))))))],elems:= [],cons:= [(58,lJ),(111,EA)],hint:= [],N:=9,base:=B}
theorem zj{B:aj}(hB:aC B):aH Tryz.prog (py B):=⟨⟨tc ty91 (ae),af,by simp only[py,ioB];omega⟩,aF (cc Tryz.func58 (k8 hB) (cc Tryz.func111 (Gr hB) (ay))),by kernel_rfl⟩
def fe:Con:=fun l os=>match l,os with
 | [.z (.st (.pair (.st (.pair .bool (.slice (.int .u32)))) (.st (.pair .bool (.slice (.int .u32)))))) x, .z (.st (.pair (.st (.pair .bool (.slice (.int .u32)))) (.st (.pair .bool (.slice (.int .u32)))))) y], []=>some (fT x y, [.z (.st (.pair (.st (.pair .bool (.slice (.int .u32)))) (.st (.pair .bool (.slice (.int .u32)))))) (bk (bA x-bA y))], [])
 |_,_=>none
theorem uZ{B:aj}(hB:aC B):Valid B Tryz.prog 60 fe:=by
 refine ab (zj hB).tab Tryz.func60 rfl rfl rfl ?_
 intro args os C rs os' hc hC
 unfold fe at hc
 split at hc
 case h_2=>cases hc
 rename_i x y
 cases hc
 refine v_h (zj hB) fun X hP hT hr hG=> ?_
 have hU:=py.eq_1
 unfold py at hT
 have hX:=ai @lJ.eq_1<| @EA.eq_1
 simp only[Tryz.f60,aD,al,ioB]
 refine s_g hG ?_
 refine s_d hG ?_ ?_
 ·try simp only[ba]
  exact Fz hC
 refine az ?_
 refine q_e [] ?_
 simp only[pe2]
 exact Iy x y
def pz(B:aj):Tab:={types:= [(89,(.st (.pair .bool (.slice (.int .u32))))),(91,(.st (.pair (.st (.pair .bool (.slice (.int .u32)))) (.st (.pair .bool (.slice (.int .u32)))))))],elems:= [],cons:= [(108,lI),(109,y5)],hint:= [],N:=16,base:=B}
theorem zk{B:aj}(hB:aC B):aH Tryz.prog (pz B):=⟨⟨tc gu (tc ty91 (ae)),af,by simp only[pz,ioB];omega⟩,aF (cc Tryz.func108 (kZ hB) (cc Tryz.func109 (wJ hB) (ay))),by kernel_rfl⟩
def dX:Con:=fun l os=>match l,os with
 | [.z (.st (.pair (.st (.pair .bool (.slice (.int .u32)))) (.st (.pair .bool (.slice (.int .u32)))))) x, .z (.st (.pair (.st (.pair .bool (.slice (.int .u32)))) (.st (.pair .bool (.slice (.int .u32)))))) y], []=>some (fT x y, [.z (.st (.pair (.st (.pair .bool (.slice (.int .u32)))) (.st (.pair .bool (.slice (.int .u32)))))) (bk (bA x*bA y))], [])
 |_,_=>none
theorem k9{B:aj}(hB:aC B):Valid B Tryz.prog 105 dX:=by
 refine ab (zk hB).tab Tryz.func105 rfl rfl rfl ?_
 intro args os C rs os' hc hC
 unfold dX at hc
 split at hc
 case h_2=>cases hc
 rename_i x y
 cases hc
 refine v_h (zk hB) fun X hP hT hr hG=> ?_
 have hU:=pz.eq_1
 unfold pz at hT
 have hX:=ai @lI.eq_1<| @y5.eq_1
 simp only[Tryz.f105,aD,al,ioB]
 refine s_g hG ?_
 refine s_d hG ?_ ?_
 ·try simp only[ba]
  exact FA hC
 refine az ?_
 refine q_e [] ?_
 simp only[pe2]
 exact Iz hC
def pA(B:aj):Tab:={types:= [(89,(.st (.pair .bool (.slice (.int .u32))))),(91,(.st (.pair (.st (.pair .bool (.slice (.int .u32)))) (.st (.pair .bool (.slice (.int .u32)))))))],elems:= [],cons:= [(108,lI),(109,y5)],hint:= [],N:=16,base:=B}
theorem zl{B:aj}(hB:aC B):aH Tryz.prog (pA B):=⟨⟨tc gu (tc ty91 (ae)),af,by simp only[pA,ioB];omega⟩,aF (cc Tryz.func108 (kZ hB) (cc Tryz.func109 (wJ hB) (ay))),by kernel_rfl⟩
def ff:Con:=fun l os=>match l,os with
 | [.z (.st (.pair (.st (.pair .bool (.slice (.int .u32)))) (.st (.pair .bool (.slice (.int .u32)))))) x, .z (.st (.pair (.st (.pair .bool (.slice (.int .u32)))) (.st (.pair .bool (.slice (.int .u32)))))) y], []=>some (fT x y/\bA y≠0, [.z (.st (.pair (.st (.pair .bool (.slice (.int .u32)))) (.st (.pair .bool (.slice (.int .u32)))))) (bk (bA x/bA y))], [])
 |_,_=>none
theorem u7{B:aj}(hB:aC B):Valid B Tryz.prog 119 ff:=by
 refine ab (zl hB).tab Tryz.func119 rfl rfl rfl ?_
 intro args os C rs os' hc hC
 unfold ff at hc
 split at hc
 case h_2=>cases hc
 rename_i x y
 cases hc
 refine v_h (zl hB) fun X hP hT hr hG=> ?_
 have hU:=pA.eq_1
 unfold pA at hT
 have hX:=ai @lI.eq_1<| @y5.eq_1
 simp only[Tryz.f119,aD,al,ioB]
 refine s_g hG ?_
 refine s_d hG ?_ ?_
 ·try simp only[ba]
  exact FB hC
 refine az ?_
 refine q_e [] ?_
 simp only[pe2]
 exact IA hC.1
def pB(B:aj):Tab:={types:= [(89,(.st (.pair .bool (.slice (.int .u32))))),(91,(.st (.pair (.st (.pair .bool (.slice (.int .u32)))) (.st (.pair .bool (.slice (.int .u32)))))))],elems:= [],cons:= [(154,oJ)],hint:= [],N:=6,base:=B}
theorem zm{B:aj}(hB:aC B):aH Tryz.prog (pB B):=⟨⟨tc gu (tc ty91 (ae)),af,by simp only[pB,ioB];omega⟩,aF (cc Tryz.func154 (wF hB) (ay)),by kernel_rfl⟩
def kC:Con:=fun l os=>match l,os with
 | [.z (.st (.pair (.st (.pair .bool (.slice (.int .u32)))) (.st (.pair .bool (.slice (.int .u32)))))) x], []=>some (NOK x, [.z (.int .i64) (bu (bA x).num 0)], [])
 |_,_=>none
theorem nN{B:aj}(hB:aC B):Valid B Tryz.prog 114 kC:=by
 refine ab (zm hB).tab Tryz.func114 rfl rfl rfl ?_
 intro args os C rs os' hc hC
 unfold kC at hc
 split at hc
 case h_2=>cases hc
 rename_i x
 cases hc
 refine v_h (zm hB) fun X hP hT hr hG=> ?_
 have hU:=pB.eq_1
 unfold pB at hT
 have hX:= @oJ.eq_1
 simp only[Tryz.f114,aD,al,ioB]
 refine s_g hG ?_
 refine s_q hG ?_ ?_
 ·try simp only[ba]
  exact hC.w1
 refine az ?_
 refine q_e [] ?_
 rw[hC.d1]
def pC(B:aj):Tab:={types:= [(3,(.int .i64)),(89,(.st (.pair .bool (.slice (.int .u32))))),(91,(.st (.pair (.st (.pair .bool (.slice (.int .u32)))) (.st (.pair .bool (.slice (.int .u32)))))))],elems:= [],cons:= [(108,lI),(133,iS)],hint:= [],N:=10,base:=B}
theorem zn{B:aj}(hB:aC B):aH Tryz.prog (pC B):=⟨⟨tc ty3 (tc gu (tc ty91 (ae))),af,by simp only[pC,ioB];omega⟩,aF (cc Tryz.func108 (kZ hB) (cc Tryz.func133 (o8 hB) (ay))),by kernel_rfl⟩
def Gs:Con:=fun l os=>match l,os with
 | [.z (.int .i64) n, .z (.int .i64) d], []=>some (I64 n/\I64 d/\d≠0, [.z (.st (.pair (.st (.pair .bool (.slice (.int .u32)))) (.st (.pair .bool (.slice (.int .u32)))))) (bk (Rat.divInt n d))], [])
 |_,_=>none
theorem u9{B:aj}(hB:aC B):Valid B Tryz.prog 124 Gs:=by
 refine ab (zn hB).tab Tryz.func124 rfl rfl rfl ?_
 intro args os C rs os' hc hC
 unfold Gs at hc
 split at hc
 case h_2=>cases hc
 rename_i n d
 cases hc
 refine v_h (zn hB) fun X hP hT hr hG=> ?_
 have hU:=pC.eq_1
 unfold pC at hT
 have hX:=ai @lI.eq_1<| @iS.eq_1
 simp only[Tryz.f124,aD,al,ioB]
 refine s_g hG ?_
 refine s_q hG ?_ ?_
 ·try simp only[ba]
  exact IB hC
 refine az ?_
 refine q_e [] ?_
 simp only[pe2]
 exact Le n d
def pD(B:aj):Tab:={types:= [(3,(.int .i64)),(91,(.st (.pair (.st (.pair .bool (.slice (.int .u32)))) (.st (.pair .bool (.slice (.int .u32)))))))],elems:= [],cons:= [(124,Gs)],hint:= [],N:=2,base:=B}
theorem zo{B:aj}(hB:aC B):aH Tryz.prog (pD B):=⟨⟨tc ty3 (tc ty91 (ae)),af,by simp only[pD,ioB];omega⟩,aF (cc Tryz.func124 (u9 hB) (ay)),by kernel_rfl⟩
def dY:Con:=fun l os=>match l,os with
 | [], []=>some (True, [.z (.st (.pair (.st (.pair .bool (.slice (.int .u32)))) (.st (.pair .bool (.slice (.int .u32)))))) (bk 0)], [])
 |_,_=>none
theorem ld{B:aj}(hB:aC B):Valid B Tryz.prog 113 dY:=by
 refine ab (zo hB).tab Tryz.func113 rfl rfl rfl ?_
 intro args os C rs os' hc hC
 unfold dY at hc
 split at hc
 case h_2=>cases hc
 cases hc
 refine v_h (zo hB) fun X hP hT hr hG=> ?_
 have hU:=pD.eq_1
 unfold pD at hT
 have hX:= @Gs.eq_1
 simp only[Tryz.f113,aD,al,ioB]
 refine s_g hG ?_
 refine s_q hG ?_ ?_
 ·try simp only[ba]
  exact⟨by unfold I64;omega,by unfold I64;omega,by decide⟩
 refine az ?_
 refine q_e [] ?_
 simp only[pe2]
 rw[zero_divInt]
def pE(B:aj):Tab:={types:= [(3,(.int .i64)),(87,(.slice (.int .u32))),(89,(.st (.pair .bool (.slice (.int .u32))))),(91,(.st (.pair (.st (.pair .bool (.slice (.int .u32)))) (.st (.pair .bool (.slice (.int .u32))))))),(161,(.int .u32))],elems:= [],cons:= [],hint:= [],N:=16,base:=B}
theorem zp{B:aj}(hB:aC B):aH Tryz.prog (pE B):=⟨⟨tc ty3 (tc hZ (tc gu (tc ty91 (tc fB (ae))))),af,by simp only[pE,ioB];omega⟩,bL rfl,by kernel_rfl⟩
def pF:Con:=fun l os=>match l,os with
 | [.z (.st (.pair (.st (.pair .bool (.slice (.int .u32)))) (.st (.pair .bool (.slice (.int .u32)))))) x], []=>some (NOK x, [.z .bool (decide ((bA x).den=1))], [])
 |_,_=>none
theorem Gt{B:aj}(hB:aC B):Valid B Tryz.prog 170 pF:=by
 refine ab (zp hB).tab Tryz.func170 rfl rfl rfl ?_
 intro args os C rs os' hc hC
 unfold pF at hc
 split at hc
 case h_2=>cases hc
 rename_i x
 cases hc
 refine v_h (zp hB) fun X hP hT hr hG=> ?_
 have hU:=pE.eq_1
 unfold pE at hT
 have hX:=Bool.not_true
 simp only[Tryz.f170,aD,al,ioB]
 refine s_g hG ?_
 refine s_q hG ?_ ?_
 ·try simp only[ba]
  (repeat' (first|apply And.intro|intro _))<;>(try simp only[decide_eq_true_eq,decide_eq_false_iff_not,Bool.not_eq_true',beq_iff_eq,Int.toNat_natCast] at*)<;>first|assumption|omega|trivial|(simp_all;done)|(simp_all;omega)
 refine az ?_
 refine q_e [] ?_
 exact Br hC
def pG(B:aj):Tab:={types:= [(3,(.int .i64)),(89,(.st (.pair .bool (.slice (.int .u32))))),(91,(.st (.pair (.st (.pair .bool (.slice (.int .u32)))) (.st (.pair .bool (.slice (.int .u32)))))))],elems:= [],cons:= [(169,o7)],hint:= [],N:=17,base:=B}
theorem zq{B:aj}(hB:aC B):aH Tryz.prog (pG B):=⟨⟨tc ty3 (tc gu (tc ty91 (ae))),af,by simp only[pG,ioB];omega⟩,aF (cc Tryz.func169 (Md hB) (ay)),by kernel_rfl⟩
def nO:Con:=fun l os=>match l,os with
 | [.z (.st (.pair (.st (.pair .bool (.slice (.int .u32)))) (.st (.pair .bool (.slice (.int .u32)))))) x, .z (.int .i64) k], []=>some (NOK x/\lq (bA x)<=QC, [.z .bool (decide (dZ (bA x).num<=k/\dZ ((bA x).den:Int)<=k))], [])
 |_,_=>none
theorem vc{B:aj}(hB:aC B):Valid B Tryz.prog 129 nO:=by
 refine ab (zq hB).tab Tryz.func129 rfl rfl rfl ?_
 intro args os C rs os' hc hC
 unfold nO at hc
 split at hc
 case h_2=>cases hc
 rename_i x k
 cases hc
 refine v_h (zq hB) fun X hP hT hr hG=> ?_
 have hU:=pG.eq_1
 unfold pG at hT
 have hX:= @o7.eq_1
 simp only[Tryz.f129,aD,al,ioB]
 refine s_g hG ?_
 refine s_q hG ?_ ?_
 ·try simp only[ba]
  exact⟨(jD hC).1,id,fun h=>⟨h,(jD hC).2⟩,id⟩
 refine az ?_
 refine q_e [] ?_
 exact FC k hC.1
def pH(B:aj):Tab:={types:= [(89,(.st (.pair .bool (.slice (.int .u32))))),(91,(.st (.pair (.st (.pair .bool (.slice (.int .u32)))) (.st (.pair .bool (.slice (.int .u32)))))))],elems:= [],cons:= [],hint:= [],N:=8,base:=B}
theorem zr{B:aj}(hB:aC B):aH Tryz.prog (pH B):=⟨⟨tc gu (tc ty91 (ae)),af,by simp only[pH,ioB];omega⟩,bL rfl,by kernel_rfl⟩
def pI:Con:=fun l os=>match l,os with
 | [.z (.st (.pair (.st (.pair .bool (.slice (.int .u32)))) (.st (.pair .bool (.slice (.int .u32)))))) x], []=>some (True, [.z (.st (.pair .bool (.slice (.int .u32)))) x.1, .z (.st (.pair .bool (.slice (.int .u32)))) x.2], [])
 |_,_=>none
theorem Gu{B:aj}(hB:aC B):Valid B Tryz.prog 167 pI:=by
 refine ab (zr hB).tab Tryz.func167 rfl rfl rfl ?_
 intro args os C rs os' hc hC
 unfold pI at hc
 split at hc
 case h_2=>cases hc
 rename_i x
 cases hc
 refine v_h (zr hB) fun X hP hT hr hG=> ?_
 have hU:=pH.eq_1
 unfold pH at hT
 have hX:=Bool.not_true
 simp only[Tryz.f167,aD,al,ioB]
 refine s_g hG ?_
 refine s_d hG ?_ ?_
 ·first|trivial|omega|(simp;done)|(simp;omega)
 refine az ?_
 refine q_e [] ?_
 trivial
def pJ(B:aj):Tab:={types:= [(9, .str),(89,(.st (.pair .bool (.slice (.int .u32))))),(91,(.st (.pair (.st (.pair .bool (.slice (.int .u32)))) (.st (.pair .bool (.slice (.int .u32)))))))],elems:= [],cons:= [(144,CH),(170,pF)],hint:= [],N:=16,base:=B}
theorem zt{B:aj}(hB:aC B):aH Tryz.prog (pJ B):=⟨⟨tc ty9 (tc gu (tc ty91 (ae))),af,by simp only[pJ,ioB];omega⟩,aF (cc Tryz.func144 (KY hB) (cc Tryz.func170 (Gt hB) (ay))),by kernel_rfl⟩
def wW:Con:=fun l os=>match l,os with
 | [.z (.st (.pair (.st (.pair .bool (.slice (.int .u32)))) (.st (.pair .bool (.slice (.int .u32)))))) x], []=>some (NOK x/\lq (bA x)<=QC, [.z .str (bp (bA x))], [])
 |_,_=>none
theorem Gv{B:aj}(hB:aC B):Valid B Tryz.prog 130 wW:=by
 refine ab (zt hB).tab Tryz.func130 rfl rfl rfl ?_
 intro args os C rs os' hc hC
 unfold wW at hc
 split at hc
 case h_2=>cases hc
 rename_i x
 cases hc
 refine v_h (zt hB) fun X hP hT hr hG=> ?_
 have hU:=pJ.eq_1
 unfold pJ at hT
 have hX:=ai @pF.eq_1<| @CH.eq_1
 simp only[Tryz.f130,aD,al,ioB]
 refine s_g hG ?_
 refine ak ?_
 refine s_q hG ?_ ?_
 ·try simp only[ba]
  exact hC.1
 refine aq ?_ ?_
 ·intro hb0
  try simp only[bt] at hb0
  refine s_q hG ?_ ?_
  ·try simp only[ba]
   exact ym hC
  refine az ?_
  refine aA ?_
  refine q_e [] ?_
  exact FD hC.1 hb0
 ·intro hb0
  try simp only[bf] at hb0
  refine ar ?_
  refine ah ?_
  refine s_d hG ?_ ?_
  ·try simp only[ba]
   exact yn hC
  refine az ?_
  refine q_e [] ?_
  exact FE hC.1 hb0
end Go.Proofs.YtdojbabpnaifoaaGreatDoor
end
section
namespace Go.Proofs
open Go.RowKit Go.Cm
def Gw:Con:=fun l os=>match l,os with
 | [.z .str s, .z .str t], []=>some (t= [47]/\s.length<4294967281, [.z .str (tN s), .z .str (if cb s=true then tR s else []), .z .bool (cb s)], [])
 |_,_=>none
theorem ve{B:aj}(hB:aC B):Valid B Tryz.prog 131 Gw:=by
 intro args os C rs os' hc hC O w vals ρ0 hOn hIo hO hOI hargs hown hap
 unfold Gw at hc
 split at hc
 case h_2=>cases hc
 rename_i s t
 cases hc
 obtain⟨u,v,rfl,hu,hv⟩:=xM hargs
 rw[fl hv,fl hu]
 obtain⟨rfl,h1⟩:=hC
 obtain⟨m,hm⟩:=hB.2 w hOn
 have hsz:(⟨s.toArray⟩:ByteArray).size=s.length:=by simp[ByteArray.size]
 refine(Tryz.strings_Cut ⟨s.toArray⟩ ⟨[47].toArray⟩ m w (by rw[hsz];exact h1) hm).mono fun e w' ⟨he,n,hw⟩=> ?_
 have hb:Below w.heap.size w w':=by rw[hw];exact⟨rfl,rfl,rfl,Nat.le_refl _,fun _ _=>rfl⟩
 have e1:Lib.cut (⟨s.toArray⟩:ByteArray).data.toList (⟨[47].toArray⟩:ByteArray).data.toList=(tN s,if cb s=true then tR s else [],cb s):=by simpa using FF s
 rw[e1] at he
 subst he
 exact mr (vs:= [.string ⟨(tN s).toArray⟩, .string ⟨(if cb s=true then tR s else []).toArray⟩, .bool (cb s)]) hb (fun H M=>⟨eL (ρ:=fun _=>undef),eL (ρ:=fun _=>undef),bU (ρ:=fun _=>undef),trivial⟩)
end Go.Proofs
end
section
namespace Go.Proofs.YtdojbabpnaifoaaGreatDoor
open Go Go.Cm Go.Proofs
def EB(B:aj):Tab:={types:= [(3,(.int .i64)),(5,(.int .u8)),(9, .str),(47,(.slice (.int .u8)))],elems:= [(47,5)],cons:= [(172,eJ)],hint:= [],N:=38,base:=B}
theorem Ku{B:aj}(hB:aC B):aH Tryz.prog (EB B):=⟨⟨tc ty3 (tc ty5 (tc ty9 (tc Nx (ae)))),aS (by kernel_rfl) (af),by simp only[EB,ioB];omega⟩,aF (cc Tryz.func172 (D4 hB) (ay)),by kernel_rfl⟩
def wX:Con:=fun l os=>match l,os with
 | [.z .str s], []=>some (mA s, [.z (.int .i64) (chk s)], [])
 |_,_=>none
theorem Ml{B:aj}(hB:aC B):Valid B Tryz.prog 142 wX:=by
 refine ab (Ku hB).tab Tryz.func142 rfl rfl rfl ?_
 intro args os C rs os' hc hC
 unfold wX at hc
 split at hc
 case h_2=>cases hc
 rename_i s
 cases hc
 refine v_h (Ku hB) fun X hP hT hr hG=> ?_
 have hU:=EB.eq_1
 unfold EB at hT
 have hX:= @eJ.eq_1
 simp only[Tryz.f142,aD,al,ioB]
 refine s_g hG ?_
 refine CA ?_
 refine s_g hG ?_
 refine s_g hG ?_
 refine ak ?_
 refine Cz ?_
 refine ah ?_
 refine cm (fun(z:Int)=>(⟨[(4, .l (.z (.int .i64) z))], []⟩:aa)) (fun z=>z=chk s) ?_ ?_
 ·refine au ?_
  refine s_g hG ?_
  refine aq ?_ ?_
  ·intro hb0
   try simp only[bt] at hb0
   refine ar ?_
   refine aP ?_
   show ∃ z,_
   refine q_l ?_
   first|(rw[hb0];exact kd.symm)|exact(jc hb0 ((gP _).1 hb1)).symm|exact(mz hb0 (dK hb1) (by rw[dr] at hb2;omega) (ke hb3)).symm|(rw[dr] at hb2;rw[jd hb0 (dK hb1) (by rw[List.take_of_length_le (by omega)] at g2;exact g2)];first|rw[if_pos (by omega)]|rw[if_neg (by omega)])
  ·intro hb0
   try simp only[bf] at hb0
   refine s_q hG ?_ ?_
   ·try simp only[ba]
    exact HV _
   refine aq ?_ ?_
   ·intro hb1
    try simp only[bt] at hb1
    refine ag hG ?_ ?_
    ·first|trivial|omega|(simp;done)|(simp;omega)
    refine aP ?_
    show ∃ z,_
    refine q_l ?_
    first|(rw[hb0];exact kd.symm)|exact(jc hb0 ((gP _).1 hb1)).symm|exact(mz hb0 (dK hb1) (by rw[dr] at hb2;omega) (ke hb3)).symm|(rw[dr] at hb2;rw[jd hb0 (dK hb1) (by rw[List.take_of_length_le (by omega)] at g2;exact g2)];first|rw[if_pos (by omega)]|rw[if_neg (by omega)])
   ·intro hb1
    try simp only[bf] at hb1
    refine ak ?_
    refine s_q hG ?_ ?_
    ·try simp only[ba]
     have:=fy s [45]
     have hC:s.length<70368744177664:=hC
     omega
    refine au ?_
    refine br (fun(z:Nat)=>(⟨[(0, .l (.z .str s)),(3, .l (.z .str (av s [45]))),(4, .l (.z (.int .i64) 0)),(10, .l (.z (.slice (.int .u8)) (bytesOf (av s [45])))),(11, .l (.z (.int .i64) ((bytesOf (av s [45])).length:Int))),(12, .l (.z (.int .i64) (z:Int)))], []⟩:aa)) (fun z=>z<=(av s [45]).length/\(List.take z (av s [45])).all gw=true) (fun z=>(av s [45]).length-z) 0 ?_ ?_ ?_
    ·refine q_l ?_
     rfl
    ·exact⟨Nat.zero_le _,rfl⟩
    ·rintro k ⟨g1,g2⟩
     try dsimp only at g1 g2
     have hS:(av s [45]).length<70368744177664:=Nat.lt_of_le_of_lt (fy s _) hC
     refine s_g hG ?_
     refine ak ?_
     refine aq ?_ ?_
     ·intro hb2
      try simp only[bt] at hb2
      refine ar ?_
      refine ah ?_
      refine ak ?_
      refine au ?_
      refine s_q hG ?_ ?_
      ·try simp only[ba]
       exact⟨by omega,hb2⟩
      refine s_q hG ?_ ?_
      ·try simp only[ba]
       exact⟨fun h=>h,fun h=>by rw[h];rfl⟩
      refine aq ?_ ?_
      ·intro hb3
       try simp only[bt] at hb3
       refine s_g hG ?_
       refine bg ?_
       refine iA rfl ?_
       refine aE ?_
       refine ax ?_
       refine iA rfl ?_
       refine aE ?_
       refine aw ?_
       show ∃ z,_
       refine q_l ?_
       first|(rw[hb0];exact kd.symm)|exact(jc hb0 ((gP _).1 hb1)).symm|exact(mz hb0 (dK hb1) (by rw[dr] at hb2;omega) (ke hb3)).symm|(rw[dr] at hb2;rw[jd hb0 (dK hb1) (by rw[List.take_of_length_le (by omega)] at g2;exact g2)];first|rw[if_pos (by omega)]|rw[if_neg (by omega)])
      ·intro hb3
       try simp only[bf] at hb3
       refine ar ?_
       refine aP ?_
       refine ah ?_
       refine ag hG ?_ ?_
       ·first|trivial|omega|(simp;done)|(simp;omega)
       show ∃ z,_
       refine q_l ?_
       rw[dr] at hb2
       exact⟨k+1,by rw[wi (by omega) (by omega)];simp,by omega,tl g2 (Fi hb3),by omega⟩
     ·intro hb2
      try simp only[bf] at hb2
      refine bg ?_
      refine aE ?_
      refine ax ?_
      refine aw ?_
      refine ah ?_
      refine s_g hG ?_
      refine aq ?_ ?_
      ·intro hb4
       try simp only[bt] at hb4
       refine ag hG ?_ ?_
       ·first|trivial|omega|(simp;done)|(simp;omega)
       refine aP ?_
       show ∃ z,_
       refine q_l ?_
       first|(rw[hb0];exact kd.symm)|exact(jc hb0 ((gP _).1 hb1)).symm|exact(mz hb0 (dK hb1) (by rw[dr] at hb2;omega) (ke hb3)).symm|(rw[dr] at hb2;rw[jd hb0 (dK hb1) (by rw[List.take_of_length_le (by omega)] at g2;exact g2)];first|rw[if_pos (by omega)]|rw[if_neg (by omega)])
      ·intro hb4
       try simp only[bf] at hb4
       refine ar ?_
       refine aP ?_
       show ∃ z,_
       refine q_l ?_
       first|(rw[hb0];exact kd.symm)|exact(jc hb0 ((gP _).1 hb1)).symm|exact(mz hb0 (dK hb1) (by rw[dr] at hb2;omega) (ke hb3)).symm|(rw[dr] at hb2;rw[jd hb0 (dK hb1) (by rw[List.take_of_length_le (by omega)] at g2;exact g2)];first|rw[if_pos (by omega)]|rw[if_neg (by omega)])
 rintro z hz
 try dsimp only at hz
 refine s_g hG ?_
 refine az ?_
 refine gd ?_
 refine q_e [] ?_
 exact hz
def pK(B:aj):Tab:={types:= [(3,(.int .i64)),(4, .bool),(9, .str),(87,(.slice (.int .u32))),(89,(.st (.pair .bool (.slice (.int .u32))))),(161,(.int .u32)),(164,(.int .u64))],elems:= [(87,161)],cons:= [(150,dQ),(172,eJ),(173,vM)],hint:= [],N:=44,base:=B}
theorem zu{B:aj}(hB:aC B):aH Tryz.prog (pK B):=⟨⟨tc ty3 (tc ty4 (tc ty9 (tc hZ (tc gu (tc fB (tc mE (ae))))))),aS (by kernel_rfl) (af),by simp only[pK,ioB];omega⟩,aF (cc Tryz.func150 (jH hB) (cc Tryz.func172 (D4 hB) (cc Tryz.func173 (KW hB) (ay)))),by kernel_rfl⟩
def wY:Con:=fun l os=>match l,os with
 | [.z .str s], []=>some (RF s/\s.length<CAP, [.z (.st (.pair .bool (.slice (.int .u32)))) (enc (ao s))], [])
 |_,_=>none
theorem Gx{B:aj}(hB:aC B):Valid B Tryz.prog 132 wY:=by
 refine ab (zu hB).tab Tryz.func132 rfl rfl rfl ?_
 intro args os C rs os' hc hC
 unfold wY at hc
 split at hc
 case h_2=>cases hc
 rename_i s
 cases hc
 refine v_h (zu hB) fun X hP hT hr hG=> ?_
 have hU:=pK.eq_1
 unfold pK at hT
 have hX:=ai @vM.eq_1<|ai @eJ.eq_1<| @dQ.eq_1
 simp only[Tryz.f132,aD,al,ioB]
 refine s_g hG ?_
 refine s_g hG ?_
 refine s_g hG ?_
 refine ak ?_
 refine s_g hG ?_
 refine au ?_
 refine br (fun(z:Nat×List Int)=>(⟨[(3, .l (.z .str (av s [45]))),(5, .l (.z (.int .i64) (((av s [45]).length:Int)-9*(z.1:Int)))),(4, .l (.ownP 4 0)),(2, .l (.ownP 2 0))], [(4, .box 89 [.z .bool (decide ((av s [45]).length<s.length)), .ownS 37]),(37, .arr (.int .u32) 161 z.2),(2, .box 89 [.z .bool false, .val (.slice none 0 0)])]⟩:aa)) (fun z=>ReadPhi (av s [45]) z.1 z.2) (fun z=>(av s [45]).length+9-9*z.1) (0, []) ?_ ?_ ?_
 ·refine q_l ?_
  exact⟨by show ((av s [45]).length:Int)=((av s [45]).length:Int)-9*((0:Nat):Int);omega,by congr 1;simp,by unfold ioB;omega⟩
 ·exact read_start
 ·rintro⟨r,out⟩ hz
  try dsimp only at hz
  obtain⟨d1,d2,d4⟩:=gG hC.1
  have d3:(av s [45]).length<1000000000000:=Nat.lt_of_le_of_lt (fy s _) hC.2
  have hz1:=hz.1
  have hz4:=hz.2.2.2
  refine ak ?_
  refine s_g hG ?_
  refine aq ?_ ?_
  ·intro hb0
   try simp only[bt] at hb0
   refine ar ?_
   refine ah ?_
   refine ak ?_
   refine au ?_
   refine s_q hG ?_ ?_
   ·try simp only[ba]
    obtain⟨e1,e2,e3⟩:=uh hb0 d3
    obtain⟨q1,q2,q3,q4,q5⟩:=read_next d1 hz hb0 rfl
    rw[e1,e2,e3]
    exact⟨⟨by omega,by omega,by omega⟩,q1,q2,q3⟩
   refine ag hG ?_ ?_
   ·try simp only[ba]
    unfold Cm.Roomy;omega
   refine aP ?_
   refine ah ?_
   refine ag hG ?_ ?_
   ·first|trivial|omega|(simp;done)|(simp;omega)
   show ∃ z,_
   refine q_l ?_
   obtain⟨e1,e2,e3⟩:=uh hb0 d3
   obtain⟨q1,q2,q3,q4,q5⟩:=read_next d1 hz hb0 rfl
   rw[e1,e2,e3]
   exact⟨r+1,by show ((av s [45]).length:Int)-9*(r:Int)-9=((av s [45]).length:Int)-9*((r+1:Nat):Int);omega,q4,by omega⟩
  ·intro hb0
   try simp only[bf] at hb0
   refine bg ?_
   refine aE ?_
   refine ax ?_
   refine aw ?_
   refine ah ?_
   refine s_q hG ?_ ?_
   ·try simp only[ba]
    exact⟨hz.2.1,by unfold CAP;omega⟩
   refine az ?_
   refine q_e [37] ?_
   rw[read_end hz hb0]
def pL(B:aj):Tab:={types:= [(3,(.int .i64)),(9, .str),(91,(.st (.pair (.st (.pair .bool (.slice (.int .u32)))) (.st (.pair .bool (.slice (.int .u32)))))))],elems:= [],cons:= [(131,Gw),(132,wY),(133,iS)],hint:= [],N:=23,base:=B}
theorem zv{B:aj}(hB:aC B):aH Tryz.prog (pL B):=⟨⟨tc ty3 (tc ty9 (tc ty91 (ae))),af,by simp only[pL,ioB];omega⟩,aF (cc Tryz.func131 (ve hB) (cc Tryz.func132 (Gx hB) (cc Tryz.func133 (o8 hB) (ay)))),by kernel_rfl⟩
def oL:Con:=fun l os=>match l,os with
 | [.z .str q], []=>some (fH q, [.z (.st (.pair (.st (.pair .bool (.slice (.int .u32)))) (.st (.pair .bool (.slice (.int .u32)))))) (gh q)], [])
 |_,_=>none
theorem nP{B:aj}(hB:aC B):Valid B Tryz.prog 90 oL:=by
 refine ab (zv hB).tab Tryz.func90 rfl rfl rfl ?_
 intro args os C rs os' hc hC
 unfold oL at hc
 split at hc
 case h_2=>cases hc
 rename_i q
 cases hc
 refine v_h (zv hB) fun X hP hT hr hG=> ?_
 have hU:=pL.eq_1
 unfold pL at hT
 have hX:=ai @Gw.eq_1<|ai @wY.eq_1<| @iS.eq_1
 simp only[Tryz.f90,aD,al,ioB]
 refine s_g hG ?_
 refine s_q hG ?_ ?_
 ·try simp only[ba]
  exact(nw hC).1
 refine ak ?_
 refine s_g hG ?_
 refine aq ?_ ?_
 ·intro hb0
  try simp only[bt] at hb0
  refine s_q hG ?_ ?_
  ·try simp only[ba]
   exact⟨(nw hC).2.1,by unfold I64;omega⟩
  refine az ?_
  refine aA ?_
  refine q_e [] ?_
  exact IE hb0
 ·intro hb0
  try simp only[bf] at hb0
  refine ar ?_
  refine ah ?_
  refine s_q hG ?_ ?_
  ·try simp only[ba]
   rw[kk hb0]
   exact(nw hC).2
  refine az ?_
  refine q_e [] ?_
  rw[kk hb0];rfl
def pM(B:aj):Tab:={types:= [(3,(.int .i64)),(9, .str),(31,(.int .i64)),(46, .str),(89,(.st (.pair .bool (.slice (.int .u32))))),(91,(.st (.pair (.st (.pair .bool (.slice (.int .u32)))) (.st (.pair .bool (.slice (.int .u32))))))),(151,(.st (.pair (.st (.pair (.st (.pair .bool (.slice (.int .u32)))) (.st (.pair .bool (.slice (.int .u32)))))) (.int .i64))))],elems:= [],cons:= [(90,oL),(129,nO),(131,Gw),(133,iS),(142,wX),(147,uY),(167,pI),(168,Mb)],hint:= [],N:=61,base:=B}
theorem zw{B:aj}(hB:aC B):aH Tryz.prog (pM B):=⟨⟨tc ty3 (tc ty9 (tc ll (tc mD (tc gu (tc ty91 (tc Mq (ae))))))),af,by simp only[pM,ioB];omega⟩,aF (cc Tryz.func90 (nP hB) (cc Tryz.func129 (vc hB) (cc Tryz.func131 (ve hB) (cc Tryz.func133 (o8 hB) (cc Tryz.func142 (Ml hB) (cc Tryz.func147 (Ez hB) (cc Tryz.func167 (Gu hB) (cc Tryz.func168 (Mc hB) (ay))))))))),by kernel_rfl⟩
def wZ:Con:=fun l os=>match l,os with
 | [.z .str q], []=>some (q.length<=QL, [.z (.st (.pair (.st (.pair (.st (.pair .bool (.slice (.int .u32)))) (.st (.pair .bool (.slice (.int .u32)))))) (.int .i64))) (kj q)], [])
 |_,_=>none
theorem Gy{B:aj}(hB:aC B):Valid B Tryz.prog 128 wZ:=by
 refine ab (zw hB).tab Tryz.func128 rfl rfl rfl ?_
 intro args os C rs os' hc hC
 unfold wZ at hc
 split at hc
 case h_2=>cases hc
 rename_i q
 cases hc
 refine v_h (zw hB) fun X hP hT hr hG=> ?_
 have hU:=pM.eq_1
 unfold pM at hT
 have hX:=ai @wX.eq_1<|ai @Mb.eq_1<|ai @Gw.eq_1<|ai @oL.eq_1<|ai @uY.eq_1<|ai @nO.eq_1<|ai @pI.eq_1<| @iS.eq_1
 simp only[Tryz.f128,aD,al,ioB]
 refine s_g hG ?_
 refine s_q hG ?_ ?_
 ·try simp only[ba]
  have h9:q.length<=1000000000:=hC
  omega
 refine cm (fun(z:Unit)=>(⟨[(0, .l (.z .str q)),(2, .l (.ownP 2 0)),(3, .l (.z .str (tN q))),(4, .l (.z .str (tD q))),(5, .l (.z .bool (cb q)))], [(2, .box 151 [.z .bool false, .val (.slice none 0 0), .z .bool false, .val (.slice none 0 0), .z (.int .i64) 0])]⟩:aa)) (fun z=>True) ?_ ?_
 ·refine s_g hG ?_
  refine aq ?_ ?_
  ·intro hb0
   try simp only[bt] at hb0
   refine ag hG ?_ ?_
   ·first|trivial|omega|(simp;done)|(simp;omega)
   show ∃ z,_
   refine q_l ?_
   first|exact vX hb0|exact kk hb0
  ·intro hb0
   try simp only[bf] at hb0
   refine ar ?_
   show ∃ z,_
   refine q_l ?_
   first|exact vX hb0|exact kk hb0
 rintro⟨⟩-
 have hS:=IF hC
 refine ak ?_
 refine s_q hG ?_ ?_
 ·try simp only[ba]
  exact⟨hS.1,fun h=>⟨h,hS.2⟩,fun h=>h,fun h=>by rw[h];rfl⟩
 refine aq ?_ ?_
 ·intro hb1
  try simp only[bt] at hb1
  refine s_g hG ?_
  refine az ?_
  refine aA ?_
  refine q_e [] ?_
  exact Lh hb1
 ·intro hb1
  try simp only[bf] at hb1
  have hF:=Lg hC hb1
  refine ar ?_
  refine ah ?_
  refine s_q hG ?_ ?_
  ·try simp only[ba]
   exact hF
  refine s_g hG ?_
  refine s_q hG ?_ ?_
  ·try simp only[ba]
   unfold I64;omega
  refine ak ?_
  refine au ?_
  refine s_d hG ?_ ?_
  ·try simp only[ba]
   simp only[pe,gh,bP]
   exact⟨fun h=>⟨h,enc_ok _,enc_ok _,NC hF⟩,fun h=>h,fun h=>h,fun h=>⟨h,MV hF⟩,fun h=>⟨h,enc_ok _,enc_ok _,NF hF⟩,fun h=>h,fun h=>⟨h,fun h2=>by rw[h,h2];rfl⟩,fun h=>h⟩
  refine aq ?_ ?_
  ·intro hb2
   try simp only[bt] at hb2
   simp only[pe,gh,bP] at hb2
   refine s_g hG ?_
   refine az ?_
   refine bC ?_
   refine aA ?_
   refine q_e [] ?_
   exact Li hF hb2
  ·intro hb2
   try simp only[bf] at hb2
   simp only[pe,gh,bP] at hb2
   have hR:=NG hF hb2
   refine s_q hG ?_ ?_
   ·try simp only[ba]
    exact Lj hR
   refine aq ?_ ?_
   ·intro hb3
    try simp only[bt] at hb3
    refine s_g hG ?_
    refine az ?_
    refine bC ?_
    refine aA ?_
    refine q_e [] ?_
    exact MX hR hb3
   ·intro hb3
    try simp only[bf] at hb3
    refine ar ?_
    refine aP ?_
    refine ah ?_
    refine s_g hG ?_
    refine az ?_
    refine q_e [] ?_
    exact NH hR hb3
def pN(B:aj):Tab:={types:= [(46, .str),(151,(.st (.pair (.st (.pair (.st (.pair .bool (.slice (.int .u32)))) (.st (.pair .bool (.slice (.int .u32)))))) (.int .i64))))],elems:= [],cons:= [(128,wZ)],hint:= [],N:=6,base:=B}
theorem zx{B:aj}(hB:aC B):aH Tryz.prog (pN B):=⟨⟨tc mD (tc Mq (ae)),af,by simp only[pN,ioB];omega⟩,aF (cc Tryz.func128 (Gy hB) (ay)),by kernel_rfl⟩
def lf:Con:=fun l os=>match l,os with
 | [.z .str q], []=>some (q.length<=QL, [.z (.int .i64) (df q)], [])
 |_,_=>none
theorem vf{B:aj}(hB:aC B):Valid B Tryz.prog 87 lf:=by
 refine ab (zx hB).tab Tryz.func87 rfl rfl rfl ?_
 intro args os C rs os' hc hC
 unfold lf at hc
 split at hc
 case h_2=>cases hc
 rename_i q
 cases hc
 refine v_h (zx hB) fun X hP hT hr hG=> ?_
 have hU:=pN.eq_1
 unfold pN at hT
 have hX:= @wZ.eq_1
 simp only[Tryz.f87,aD,al,ioB]
 refine s_g hG ?_
 refine s_q hG ?_ ?_
 ·try simp only[ba]
  exact hC
 refine az ?_
 refine q_e [] ?_
 exact FG q
def pO(B:aj):Tab:={types:= [(3,(.int .i64)),(22,(.slice .str)),(46, .str),(78,(.slice (.st (.pair (.st (.pair .bool (.slice (.int .u32)))) (.st (.pair .bool (.slice (.int .u32))))))))],elems:= [(78,91)],cons:= [(90,oL)],hint:= [18],N:=22,base:=B}
theorem zy{B:aj}(hB:aC B):aH Tryz.prog (pO B):=⟨⟨tc ty3 (tc gr (tc mD (tc K7 (ae)))),aS (by kernel_rfl) (af),by simp only[pO,ioB];omega⟩,aF (cc Tryz.func90 (nP hB) (ay)),by kernel_rfl⟩
def EC:Con:=fun l os=>match l,os with
 | [.z (.slice .str) l], []=>some (l.length<QL/\∀ q∈l,fH q, [.own (.st (.pair (.st (.pair .bool (.slice (.int .u32)))) (.st (.pair .bool (.slice (.int .u32)))))) 91 (l.map gh)], [])
 |_,_=>none
theorem Gz{B:aj}(hB:aC B):Valid B Tryz.prog 106 EC:=by
 refine ab (zy hB).tab Tryz.func106 rfl rfl rfl ?_
 intro args os C rs os' hc hC
 unfold EC at hc
 split at hc
 case h_2=>cases hc
 rename_i l
 cases hc
 refine v_h (zy hB) fun X hP hT hr hG=> ?_
 have hU:=pO.eq_1
 unfold pO at hT
 have hX:= @oL.eq_1
 simp only[Tryz.f106,aD,al,ioB]
 have hl:l.length<1000000000:=hC.1
 refine s_g hG ?_
 refine s_q hG ?_ ?_
 ·try simp only[ba]
  exact⟨by omega,by omega,sk (by omega)⟩
 refine ak ?_
 refine s_g hG ?_
 refine au ?_
 refine br (fun(z:Nat)=>(⟨[(3, .l (.ownS 8)),(9, .l (.z (.slice .str) l)),(10, .l (.z (.int .i64) (l.length:Int))),(11, .l (.z (.int .i64) (z:Int)))], [(8, .arr (.st (.pair (.st (.pair .bool (.slice (.int .u32)))) (.st (.pair .bool (.slice (.int .u32)))))) 91 ((l.take z).map gh))]⟩:aa)) (fun z=>z<=l.length) (fun z=>l.length-z) 0 ?_ ?_ ?_
 ·refine q_l ?_
  exact⟨rfl,rfl⟩
 ·omega
 ·rintro k g1
  try dsimp only at g1
  refine s_g hG ?_
  refine ak ?_
  refine aq ?_ ?_
  ·intro hb0
   try simp only[bt] at hb0
   refine ar ?_
   refine ah ?_
   refine ak ?_
   refine au ?_
   refine s_q hG ?_ ?_
   ·try simp only[ba]
    exact⟨by omega,hb0⟩
   refine ag hG ?_ ?_
   ·try simp only[ba]
    exact⟨hC.2 _ (fU (t:= .str) (by omega)),sk (by simp;omega)⟩
   refine aP ?_
   refine ah ?_
   refine ag hG ?_ ?_
   ·first|trivial|omega|(simp;done)|(simp;omega)
   show ∃ z,_
   refine q_l ?_
   exact list_round (by omega) hC.1
  ·intro hb0
   try simp only[bf] at hb0
   refine bg ?_
   refine aE ?_
   refine ax ?_
   refine aw ?_
   refine ah ?_
   refine s_g hG ?_
   refine az ?_
   refine q_e [] ?_
   exact⟨trivial,by rw[List.take_of_length_le (by omega)]⟩
def pP(B:aj):Tab:={types:= [(3,(.int .i64)),(22,(.slice .str)),(78,(.slice (.st (.pair (.st (.pair .bool (.slice (.int .u32)))) (.st (.pair .bool (.slice (.int .u32)))))))),(91,(.st (.pair (.st (.pair .bool (.slice (.int .u32)))) (.st (.pair .bool (.slice (.int .u32)))))))],elems:= [(22,46)],cons:= [(129,nO),(130,wW)],hint:= [],N:=26,base:=B}
theorem zz{B:aj}(hB:aC B):aH Tryz.prog (pP B):=⟨⟨tc ty3 (tc gr (tc K7 (tc ty91 (ae)))),aS (by kernel_rfl) (af),by simp only[pP,ioB];omega⟩,aF (cc Tryz.func129 (vc hB) (cc Tryz.func130 (Gv hB) (ay))),by kernel_rfl⟩
def nQ:Con:=fun l os=>match l,os with
 | [.z (.slice (.st (.pair (.st (.pair .bool (.slice (.int .u32)))) (.st (.pair .bool (.slice (.int .u32))))))) l], []=>some (l.length<QL/\∀ x∈l,NOK x/\lq (bA x)<=QC, [.z (.slice .str) (if du l=true then l.map fun x=>bp (bA x) else []), .z .bool (du l)], [])
 |_,_=>none
theorem vg{B:aj}(hB:aC B):Valid B Tryz.prog 88 nQ:=by
 refine ab (zz hB).tab Tryz.func88 rfl rfl rfl ?_
 intro args os C rs os' hc hC
 unfold nQ at hc
 split at hc
 case h_2=>cases hc
 rename_i l
 cases hc
 refine v_h (zz hB) fun X hP hT hr hG=> ?_
 have hU:=pP.eq_1
 unfold pP at hT
 have hX:=ai @nO.eq_1<| @wW.eq_1
 simp only[Tryz.f88,aD,al,ioB]
 have hl:l.length<1000000000:=hC.1
 refine s_g hG ?_
 refine s_q hG ?_ ?_
 ·try simp only[ba]
  exact⟨by omega,by omega,vY (by omega)⟩
 refine ak ?_
 refine s_g hG ?_
 refine au ?_
 refine br (fun(z:Nat)=>(⟨[(2, .l (.val (.slice none 0 0))),(3, .l (.z .bool false)),(4, .l (.ownS 9)),(10, .l (.z (.slice (.st (.pair (.st (.pair .bool (.slice (.int .u32)))) (.st (.pair .bool (.slice (.int .u32))))))) l)),(11, .l (.z (.int .i64) (l.length:Int))),(12, .l (.z (.int .i64) (z:Int)))], [(9, .arr .str 46 ((l.take z).map fun x=>bp (bA x)))]⟩:aa)) (fun z=>z<=l.length/\du (l.take z)=true) (fun z=>l.length-z) 0 ?_ ?_ ?_
 ·refine q_l ?_
  exact⟨rfl,rfl⟩
 ·exact⟨by omega,by simp[du]⟩
 ·rintro k ⟨g1,g2⟩
  try dsimp only at g1 g2
  refine s_g hG ?_
  refine ak ?_
  refine aq ?_ ?_
  ·intro hb0
   try simp only[bt] at hb0
   refine ar ?_
   refine ah ?_
   refine ak ?_
   refine au ?_
   refine s_q hG ?_ ?_
   ·try simp only[ba]
    exact⟨by omega,hb0⟩
   refine ak ?_
   refine s_q hG ?_ ?_
   ·try simp only[ba]
    exact hC.2 _ (fU (t:=NT) (by omega))
   refine aq ?_ ?_
   ·intro hb1
    try simp only[bt] at hb1
    refine s_g hG ?_
    refine az ?_
    refine aA ?_
    refine bC ?_
    refine aA ?_
    refine en ?_
    refine bC ?_
    refine aA ?_
    refine q_e [9] ?_
    exact FI (by omega) hb1
   ·intro hb1
    try simp only[bf] at hb1
    refine ar ?_
    refine ah ?_
    refine ag hG ?_ ?_
    ·try simp only[ba]
     exact⟨⟨(hC.2 _ (fU (t:=NT) (by omega))).1,(hC.2 _ (fU (t:=NT) (by omega))).2⟩,vY (by simp;omega)⟩
    refine aP ?_
    refine ah ?_
    refine ag hG ?_ ?_
    ·first|trivial|omega|(simp;done)|(simp;omega)
    show ∃ z,_
    refine q_l ?_
    exact yp (by omega) hC.1 g2 hb1
  ·intro hb0
   try simp only[bf] at hb0
   refine bg ?_
   refine aE ?_
   refine ax ?_
   refine aw ?_
   refine ah ?_
   refine s_g hG ?_
   refine az ?_
   refine q_e [9] ?_
   exact FJ (by omega) g2
def pQ(B:aj):Tab:={types:= [(3,(.int .i64)),(79,(.slice (.st (.pair (.st (.pair .bool (.slice (.int .u32)))) (.st (.pair .bool (.slice (.int .u32)))))))),(91,(.st (.pair (.st (.pair .bool (.slice (.int .u32)))) (.st (.pair .bool (.slice (.int .u32)))))))],elems:= [],cons:= [(114,kC)],hint:= [],N:=25,base:=B}
theorem zA{B:aj}(hB:aC B):aH Tryz.prog (pQ B):=⟨⟨tc ty3 (tc fA (tc ty91 (ae))),af,by simp only[pQ,ioB];omega⟩,aF (cc Tryz.func114 (nN hB) (ay)),by kernel_rfl⟩
def iT:Con:=fun l os=>match l,os with
 | [.z (.slice (.st (.pair (.st (.pair .bool (.slice (.int .u32)))) (.st (.pair .bool (.slice (.int .u32))))))) p], []=>some (Sz QC p/\p.length<=QL, [.z (.slice (.st (.pair (.st (.pair .bool (.slice (.int .u32)))) (.st (.pair .bool (.slice (.int .u32))))))) (aG (aR (an p)))], [])
 |_,_=>none
theorem il{B:aj}(hB:aC B):Valid B Tryz.prog 82 iT:=by
 refine ab (zA hB).tab Tryz.func82 rfl rfl rfl ?_
 intro args os C rs os' hc hC
 unfold iT at hc
 split at hc
 case h_2=>cases hc
 rename_i p
 cases hc
 refine v_h (zA hB) fun X hP hT hr hG=> ?_
 have hU:=pQ.eq_1
 unfold pQ at hT
 have hX:= @kC.eq_1
 simp only[Tryz.f82,aD,al,ioB]
 obtain⟨l0,rfl,hl0⟩:=hC.1.ex
 have hn:=hC.2
 rw[aB] at hn
 have hn:l0.length<=1000000000:=hn
 refine s_g hG ?_
 refine ak ?_
 refine au ?_
 refine br (fun(z:List Rat)=>(⟨[(0, .l (.z (.slice (.st (.pair (.st (.pair .bool (.slice (.int .u32)))) (.st (.pair .bool (.slice (.int .u32))))))) (aG z))),(2, .l (.val (.slice none 0 0)))], []⟩:aa)) (fun z=>z.length<=l0.length/\(∀ x∈z,lq x<=QC)/\aR z=aR l0) (fun z=>z.length) l0 ?_ ?_ ?_
 ·simp only[ml0,ml1,Nat.reduceLT,Nat.reduceEqDiff,Nat.reduceAdd,Nat.reduceMul,Nat.reduceSub,Nat.reduceLeDiff,Nat.reduceBEq,Nat.reduceBNe,reduceIte,reduceDIte,reduceCtorEq]
 ·exact⟨Nat.le_refl _,hl0,rfl⟩
 ·rintro l ⟨g1,g2,g3⟩
  try dsimp only at g1 g2 g3
  refine ak ?_
  refine s_q hG ?_ ?_
  ·try simp only[ba]
   have hs:=ui (l:=l) (by omega)
   exact⟨id,id,hs.2,id,hs.1,id⟩
  refine aq ?_ ?_
  ·intro hb0
   try simp only[bt] at hb0
   have ht:=IG (by omega) hb0.1 hb0.2
   obtain⟨n1,n2,n3,n4,n5⟩:=uj (by omega) g1 g2 g3 ht
   refine ar ?_
   refine ah ?_
   refine au ?_
   refine ag hG ?_ ?_
   ·try simp only[ba]
    rw[aB,cd (by omega)]
    exact⟨by omega,by omega,by omega,by omega⟩
   refine aP ?_
   show ∃ z,_
   refine q_l ?_
   exact⟨l.dropLast,n1,n2,n3,n4,n5⟩
  ·intro hb0
   try simp only[bf] at hb0
   have ht:=IH (l:=l) (by omega) hb0
   refine bg ?_
   refine aE ?_
   refine ax ?_
   refine aw ?_
   refine ah ?_
   refine s_g hG ?_
   refine az ?_
   refine q_e [] ?_
   rw[aI,<- g3,ht]
def jI(B:aj):Tab:={types:= [(3,(.int .i64)),(79,(.slice (.st (.pair (.st (.pair .bool (.slice (.int .u32)))) (.st (.pair .bool (.slice (.int .u32)))))))),(91,(.st (.pair (.st (.pair .bool (.slice (.int .u32)))) (.st (.pair .bool (.slice (.int .u32)))))))],elems:= [],cons:= [(114,kC)],hint:= [23],N:=25,free:= [10000000],base:=B}
theorem zB{B:aj}(hB:aC B):aH Tryz.prog (jI B):=⟨⟨tc ty3 (tc fA (tc ty91 (ae))),af,by simp only[jI,ioB];omega⟩,aF (cc Tryz.func114 (nN hB) (ay)),by kernel_rfl⟩
def Kv:Con:=fun l os=>match l,os with
 | [.ownS 10000000], [.arr (.st (.pair (.st (.pair .bool (.slice (.int .u32)))) (.st (.pair .bool (.slice (.int .u32)))))) 91 p]=>some (Sz QC p/\p.length<=QL, [.own (.st (.pair (.st (.pair .bool (.slice (.int .u32)))) (.st (.pair .bool (.slice (.int .u32)))))) 91 (aG (aR (an p)))], [.arr (.st (.pair (.st (.pair .bool (.slice (.int .u32)))) (.st (.pair .bool (.slice (.int .u32)))))) 91 []])
 |_,_=>none
theorem B5{B:aj}(hB:aC B):Valid B Tryz.prog 82 Kv [0]:=by
 refine og (T:=jI B) (zB hB).tab Tryz.func82 rfl rfl rfl (Lk (by simp only[jI];decide)) ?_
 intro args os C rs os' hc hC
 unfold Kv at hc
 split at hc
 case h_2=>cases hc
 rename_i p
 cases hc
 refine v_h (zB hB) fun X hP hT hr hG=> ?_
 have hU:=jI.eq_1
 unfold jI at hT
 have hX:=ai @kC.eq_1<| @b9.eq_def
 simp only[Tryz.f82,aD,al,ioB]
 obtain⟨l0,rfl,hl0⟩:=hC.1.ex
 have hn:=hC.2
 rw[aB] at hn
 have hn:l0.length<=1000000000:=hn
 refine HI 10000000 1 (by simp only[hT,jI,mx0,mx1,mx2,mx3,mx4,mx5,mx6,Nat.reduceLT,Nat.reduceEqDiff,Nat.reduceAdd,Nat.reduceMul,Nat.reduceSub,Nat.reduceLeDiff,Nat.reduceBEq,Nat.reduceBNe,reduceIte,reduceDIte,reduceCtorEq];rfl) ?_
 refine s_g hG ?_
 refine ak ?_
 refine au ?_
 refine br (fun(z:List Rat)=>(⟨[(0, .l (.ownS 1)),(2, .l (.val (.slice none 0 0)))], [(1, .arr (.st (.pair (.st (.pair .bool (.slice (.int .u32)))) (.st (.pair .bool (.slice (.int .u32)))))) 91 (aG z)),(10000000, .arr (.st (.pair (.st (.pair .bool (.slice (.int .u32)))) (.st (.pair .bool (.slice (.int .u32)))))) 91 [])]⟩:aa)) (fun z=>z.length<=l0.length/\(∀ x∈z,lq x<=QC)/\aR z=aR l0) (fun z=>z.length) l0 ?_ ?_ ?_
 ·simp only[ml0,ml1,Nat.reduceLT,Nat.reduceEqDiff,Nat.reduceAdd,Nat.reduceMul,Nat.reduceSub,Nat.reduceLeDiff,Nat.reduceBEq,Nat.reduceBNe,reduceIte,reduceDIte,reduceCtorEq]
 ·exact⟨Nat.le_refl _,hl0,rfl⟩
 ·rintro l ⟨g1,g2,g3⟩
  try dsimp only at g1 g2 g3
  refine ak ?_
  refine s_q hG ?_ ?_
  ·try simp only[ba]
   have hs:=ui (l:=l) (by omega)
   exact⟨id,id,hs.2,fun h=>⟨h,by have:=(hs.2 h).2;omega⟩,hs.1,id⟩
  refine aq ?_ ?_
  ·intro hb0
   try simp only[bt] at hb0
   have ht:=IG (by omega) hb0.1 hb0.2
   obtain⟨n1,n2,n3,n4,n5⟩:=uj (by omega) g1 g2 g3 ht
   refine ar ?_
   refine ah ?_
   refine au ?_
   refine ag hG ?_ ?_
   ·try simp only[ba]
    rw[aB,cd (by omega)]
    exact⟨by omega,by omega,by omega,by omega⟩
   refine aP ?_
   show ∃ z,_
   refine q_l ?_
   exact⟨l.dropLast,n1,n2,n3,n4,n5⟩
  ·intro hb0
   try simp only[bf] at hb0
   have ht:=IH (l:=l) (by omega) hb0
   refine bg ?_
   refine aE ?_
   refine ax ?_
   refine aw ?_
   refine ah ?_
   refine s_g hG ?_
   refine az ?_
   refine q_e [] ?_
   exact⟨⟨trivial,by rw[aI,<- g3,ht]⟩,trivial,trivial⟩
def fI:Con:=fun l os=>match l,os with
 | [.z (.slice (.st (.pair (.st (.pair .bool (.slice (.int .u32)))) (.st (.pair .bool (.slice (.int .u32))))))) p], []=>some (Sz QC p/\p.length<=QL, [.z (.slice (.st (.pair (.st (.pair .bool (.slice (.int .u32)))) (.st (.pair .bool (.slice (.int .u32))))))) (aG (aR (an p)))], [])
 | [.ownS 10000000], [.arr (.st (.pair (.st (.pair .bool (.slice (.int .u32)))) (.st (.pair .bool (.slice (.int .u32)))))) 91 p]=>some (Sz QC p/\p.length<=QL, [.own (.st (.pair (.st (.pair .bool (.slice (.int .u32)))) (.st (.pair .bool (.slice (.int .u32)))))) 91 (aG (aR (an p)))], [.arr (.st (.pair (.st (.pair .bool (.slice (.int .u32)))) (.st (.pair .bool (.slice (.int .u32)))))) 91 []])
 |_,_=>none
theorem GA{B:aj}(hB:aC B):Valid B Tryz.prog 82 fI [0]:=by
 intro args os C rs os' hc hC
 unfold fI at hc
 split at hc
 ·cases hc;exact II (il hB) _ _ _ _ _ rfl hC
 ·cases hc;exact B5 hB _ _ _ _ _ rfl hC
 ·cases hc
def pR(B:aj):Tab:={types:= [(3,(.int .i64)),(79,(.slice (.st (.pair (.st (.pair .bool (.slice (.int .u32)))) (.st (.pair .bool (.slice (.int .u32)))))))),(91,(.st (.pair (.st (.pair .bool (.slice (.int .u32)))) (.st (.pair .bool (.slice (.int .u32)))))))],elems:= [],cons:= [(113,dY)],hint:= [],N:=14,base:=B}
theorem zC{B:aj}(hB:aC B):aH Tryz.prog (pR B):=⟨⟨tc ty3 (tc fA (tc ty91 (ae))),af,by simp only[pR,ioB];omega⟩,aF (cc Tryz.func113 (ld hB) (ay)),by kernel_rfl⟩
def vh:Con:=fun l os=>match l,os with
 | [.z (.slice (.st (.pair (.st (.pair .bool (.slice (.int .u32)))) (.st (.pair .bool (.slice (.int .u32))))))) p, .z (.int .i64) i], []=>some (Sz QC p/\0<=i, [.z (.st (.pair (.st (.pair .bool (.slice (.int .u32)))) (.st (.pair .bool (.slice (.int .u32)))))) (bk (cf (an p) i.toNat))], [])
 |_,_=>none
theorem vi{B:aj}(hB:aC B):Valid B Tryz.prog 107 vh:=by
 refine ab (zC hB).tab Tryz.func107 rfl rfl rfl ?_
 intro args os C rs os' hc hC
 unfold vh at hc
 split at hc
 case h_2=>cases hc
 rename_i p i
 cases hc
 refine v_h (zC hB) fun X hP hT hr hG=> ?_
 have hU:=pR.eq_1
 unfold pR at hT
 have hX:= @dY.eq_1
 simp only[Tryz.f107,aD,al,ioB]
 obtain⟨n,rfl⟩:=Int.eq_ofNat_of_zero_le hC.2
 rw[Int.toNat_natCast]
 refine s_g hG ?_
 refine ak ?_
 refine s_g hG ?_
 refine aq ?_ ?_
 ·intro hb0
  try simp only[bt] at hb0
  refine s_q hG ?_ ?_
  ·try simp only[ba]
   exact⟨by omega,hb0⟩
  refine az ?_
  refine aA ?_
  refine q_e [] ?_
  rw[fE hC.1 (by omega)]
 ·intro hb0
  try simp only[bf] at hb0
  refine ar ?_
  refine ah ?_
  refine s_g hG ?_
  refine az ?_
  refine q_e [] ?_
  rw[IJ (by omega)]
def pS(B:aj):Tab:={types:= [(3,(.int .i64)),(79,(.slice (.st (.pair (.st (.pair .bool (.slice (.int .u32)))) (.st (.pair .bool (.slice (.int .u32)))))))),(91,(.st (.pair (.st (.pair .bool (.slice (.int .u32)))) (.st (.pair .bool (.slice (.int .u32)))))))],elems:= [(79,91)],cons:= [(58,lJ),(105,dX),(112,fb),(113,dY),(114,kC)],hint:= [19],N:=67,base:=B}
theorem zD{B:aj}(hB:aC B):aH Tryz.prog (pS B):=⟨⟨tc ty3 (tc fA (tc ty91 (ae))),aS (by kernel_rfl) (af),by simp only[pS,ioB];omega⟩,aF (cc Tryz.func58 (k8 hB) (cc Tryz.func105 (k9 hB) (cc Tryz.func112 (ur hB) (cc Tryz.func113 (ld hB) (cc Tryz.func114 (nN hB) (ay)))))),by kernel_rfl⟩
def nR:Con:=fun l os=>match l,os with
 | [.z (.slice (.st (.pair (.st (.pair .bool (.slice (.int .u32)))) (.st (.pair .bool (.slice (.int .u32))))))) p, .z (.slice (.st (.pair (.st (.pair .bool (.slice (.int .u32)))) (.st (.pair .bool (.slice (.int .u32))))))) q], []=>some (Sz QM p/\Sz QM q/\p.length<=100/\q.length<=100, [.z (.slice (.st (.pair (.st (.pair .bool (.slice (.int .u32)))) (.st (.pair .bool (.slice (.int .u32))))))) (aG (cE (an p) (an q)))], [])
 |_,_=>none
theorem vj{B:aj}(hB:aC B):Valid B Tryz.prog 61 nR:=by
 refine ab (zD hB).tab Tryz.func61 rfl rfl rfl ?_
 intro args os C rs os' hc hC
 unfold nR at hc
 split at hc
 case h_2=>cases hc
 rename_i p q
 cases hc
 refine v_h (zD hB) fun X hP hT hr hG=> ?_
 have hU:=pS.eq_1
 unfold pS at hT
 have hX:=ai @lJ.eq_1<|ai @dX.eq_1<|ai @kC.eq_1<|ai @fb.eq_1<| @dY.eq_1
 simp only[Tryz.f61,aD,al,ioB]
 obtain⟨hp,hq,hl1,hl2⟩:=hC
 refine s_g hG ?_
 refine ak ?_
 refine s_q hG ?_ ?_
 ·try simp only[ba]
  exact⟨id,id,fun h=>by rw[h];rfl⟩
 refine aq ?_ ?_
 ·intro hb0
  try simp only[bt] at hb0
  refine s_g hG ?_
  refine az ?_
  refine aA ?_
  refine q_e [] ?_
  exact FK hb0
 ·intro hb0
  try simp only[bf] at hb0
  have h0:=IP hb0
  refine ar ?_
  refine ah ?_
  refine s_q hG ?_ ?_
  ·try simp only[ba]
   rw[um hl1 hl2 h0]
   exact Lm hl1 hl2
  refine ak ?_
  refine s_g hG ?_
  refine au ?_
  refine br (fun(z:Nat)=>(⟨[(0, .l (.z (.slice (.st (.pair (.st (.pair .bool (.slice (.int .u32)))) (.st (.pair .bool (.slice (.int .u32))))))) p)),(1, .l (.z (.slice (.st (.pair (.st (.pair .bool (.slice (.int .u32)))) (.st (.pair .bool (.slice (.int .u32))))))) q)),(5, .l (.ownS 1208)),(27, .l (.z (.slice (.st (.pair (.st (.pair .bool (.slice (.int .u32)))) (.st (.pair .bool (.slice (.int .u32))))))) p)),(28, .l (.z (.int .i64) (p.length:Int))),(29, .l (.z (.int .i64) (z:Int)))], [(1208, .arr (.st (.pair (.st (.pair .bool (.slice (.int .u32)))) (.st (.pair .bool (.slice (.int .u32)))))) 91 (aG (mulN (an p) (an q) z)))]⟩:aa)) (fun z=>z<=p.length) (fun z=>p.length-z) 0 ?_ ?_ ?_
  ·refine q_l ?_
   rw[um hl1 hl2 h0,Int.toNat_natCast]
   exact⟨rfl,times_start p q⟩
  ·omega
  ·rintro i g1
   try dsimp only at g1
   refine s_g hG ?_
   refine ak ?_
   refine aq ?_ ?_
   ·intro hb1
    try simp only[bt] at hb1
    refine ar ?_
    refine ah ?_
    refine ak ?_
    refine au ?_
    refine s_q hG ?_ ?_
    ·try simp only[ba]
     exact⟨by omega,hb1⟩
    refine s_g hG ?_
    refine au ?_
    refine br (fun(z:Nat)=>(⟨[(0, .l (.z (.slice (.st (.pair (.st (.pair .bool (.slice (.int .u32)))) (.st (.pair .bool (.slice (.int .u32))))))) p)),(1, .l (.z (.slice (.st (.pair (.st (.pair .bool (.slice (.int .u32)))) (.st (.pair .bool (.slice (.int .u32))))))) q)),(5, .l (.ownS 1208)),(27, .l (.z (.slice (.st (.pair (.st (.pair .bool (.slice (.int .u32)))) (.st (.pair .bool (.slice (.int .u32))))))) p)),(28, .l (.z (.int .i64) (p.length:Int))),(29, .l (.z (.int .i64) (i:Int))),(6, .l (.z (.int .i64) (i:Int))),(7, .l (.ownP 7 0)),(34, .l (.z (.slice (.st (.pair (.st (.pair .bool (.slice (.int .u32)))) (.st (.pair .bool (.slice (.int .u32))))))) q)),(35, .l (.z (.int .i64) (q.length:Int))),(36, .l (.z (.int .i64) (z:Int)))], [(1208, .arr (.st (.pair (.st (.pair .bool (.slice (.int .u32)))) (.st (.pair .bool (.slice (.int .u32)))))) 91 (aG (cw (mulN (an p) (an q) i) i (cf (an p) i) (an q) z))),(7, .box 91 [.z .bool (bk (cf (an p) i)).1.1, .z (.slice (.int .u32)) (bk (cf (an p) i)).1.2, .z .bool (bk (cf (an p) i)).2.1, .z (.slice (.int .u32)) (bk (cf (an p) i)).2.2])]⟩:aa)) (fun z=>z<=q.length) (fun z=>q.length-z) 0 ?_ ?_ ?_
    ·refine q_l ?_
     rw[fE hp (by omega)]
     exact⟨rfl,rfl,rfl,rfl,rfl,rfl⟩
    ·omega
    ·rintro k g2
     try dsimp only at g2
     refine s_g hG ?_
     refine ak ?_
     refine aq ?_ ?_
     ·intro hb2
      try simp only[bt] at hb2
      refine ar ?_
      refine ah ?_
      refine ak ?_
      refine au ?_
      refine s_q hG ?_ ?_
      ·try simp only[ba]
       exact⟨by omega,hb2⟩
      refine s_q hG ?_ ?_
      ·try simp only[ba]
       have ek:=fE hq (i:=k) (by omega)
       simp only[pe2]
       rw[ek]
       exact⟨bV _,fun h=>⟨h,bV _⟩,id⟩
      refine aq ?_ ?_
      ·intro hb3
       try simp only[bt] at hb3
       have ek:=fE hq (i:=k) (by omega)
       obtain⟨w1,w2,w3,w4⟩:=BA hp hq hl1 hl2 h0 (i:=i) (k:=k) (by omega) (by omega)
       refine gp hG ?_ ?_
       ·try simp only[ba]
        simp only[pe2]
        rw[ek,w1,Int.toNat_natCast,aM,aM]
        exact⟨⟨by omega,by omega⟩,w2,w3,w4,⟨by omega,by omega⟩,w2⟩
       refine aP ?_
       refine ah ?_
       refine ag hG ?_ ?_
       ·first|trivial|omega|(simp;done)|(simp;omega)
       show ∃ z,_
       refine q_l ?_
       first|exact su hl2 (by omega) (sv hb3)|(simp only[pe2];rw[ek,w1,Int.toNat_natCast];simp only[aM];exact ss hp hq hl1 hl2 h0 (i:=i) (k:=k) (by omega) (by omega))
      ·intro hb3
       try simp only[bf] at hb3
       have ek:=fE hq (i:=k) (by omega)
       simp only[pe2,ek,aM] at hb3
       refine ar ?_
       refine aP ?_
       refine ah ?_
       refine ag hG ?_ ?_
       ·first|trivial|omega|(simp;done)|(simp;omega)
       show ∃ z,_
       refine q_l ?_
       first|exact su hl2 (by omega) (sv hb3)|(simp only[pe2];rw[ek,w1,Int.toNat_natCast];simp only[aM];exact ss hp hq hl1 hl2 h0 (i:=i) (k:=k) (by omega) (by omega))
     ·intro hb2
      try simp only[bf] at hb2
      refine bg ?_
      refine aE ?_
      refine ax ?_
      refine aw ?_
      refine aP ?_
      refine ah ?_
      refine ag hG ?_ ?_
      ·first|trivial|omega|(simp;done)|(simp;omega)
      show ∃ z,_
      refine q_l ?_
      exact FL hl1 (by omega) (by omega)
   ·intro hb1
    try simp only[bf] at hb1
    refine bg ?_
    refine aE ?_
    refine ax ?_
    refine aw ?_
    refine ah ?_
    refine s_g hG ?_
    refine az ?_
    refine q_e [] ?_
    exact times_fin h0 (by omega)
end Go.Proofs.YtdojbabpnaifoaaGreatDoor
end
section
namespace Go.Cm
def LV.toRow(id:Nat):LV->LV
 | .ownS i=>if i=id then .ownR id 0 else .ownS i
 |x=>x.kill id
def LV.ofRow(id j:Nat):LV->LV
 | .ownR i k=>if i=id then (if k=j then .ownS id else .junk) else .ownR i k
 |x=>x.kill id
def aa.toRow(s:aa)(id:Nat)(T':TypeId):Option aa:=
 match get? s.own id with
 |some (.arr t E xs)=>if id<ioB then some {env:=bQ (LV.toRow id) s.env,own:=upd (bo (LV.toRow id) s.own) id (.mat t T' E [some xs] [])} else none
 |_=>none
def aa.ofRow(s:aa)(id j:Nat):Option aa:=
 match get? s.own id with
 |some (.mat t _ E rows _)=>match (rows[j]?).getD none with
  |some xs=>if id<ioB then some {env:=bQ (LV.ofRow id j) s.env,own:=upd (bo (LV.ofRow id j) s.own) id (.arr t E xs)} else none
  |none=>none
 |_=>none
theorem St.toRow{X:Cx}{s s':aa}{id:Nat}{T':TypeId}(he:s.toRow id T'=some s'){ac:Act}{w:World}(h:St X s ac w):St X s' ac w:=by
 unfold aa.toRow at he
 split at he
 case h_2=>cases he
 rename_i t E xs hg
 split at he
 case isFalse=>cases he
 rename_i hid
 cases he
 obtain⟨ρ,hf⟩:=h.fits
 obtain⟨cells,hr,hrow⟩:=hf.own _ (get?_mem hg)
 have hsl:∃ a n c,ρ id= .slice a n c:=by
  obtain⟨_,⟨h1,_⟩|⟨g,cap,cur,h1,_⟩⟩:=hrow<;>exact⟨_,_,_,h1⟩
 obtain⟨a,n,c,hsl⟩:=hsl
 have hblk:∀ b,blk (ρ id)=some b↔Blk (ρ id) b:=by
  intro b
  rw[hsl]
  cases a with
  |none=>simp[blk,Blk]
  |some a=>simp[blk,Blk]
 obtain⟨ρ',q1,q2⟩:=hf.renew (w':=w) hg (f:=LV.toRow id) (val:= .tuple #[.slice none 0 0,ρ id]) (obj':= .mat t T' E [some xs] [])
  (fun H' ρ' hh hs hρ hρd x v hx=>by
   cases x with
   |ownS i=>
    simp only[LV.toRow]
    split
    ·rename_i e;subst e
     have hx:v=ρ i/\_:=hx
     exact⟨.slice none 0 0, [ρ i],a,n,c,hρd,by simp[hx.1],by rw[hx.1,hsl]⟩
    ·rename_i e
     simp only[aT,hρ i e];exact hx
   |z t x=>exact bd hh hs hρ hx
   |ownP i o=>exact bd hh hs hρ hx
   |ownE i w o=>exact bd hh hs hρ hx
   |ownW i w o=>exact bd hh hs hρ hx
   |ownM i=>exact bd hh hs hρ hx
   |ownA i o=>exact bd hh hs hρ hx
   |ownR i o=>exact bd hh hs hρ hx
   |ownB i o p q=>exact bd hh hs hρ hx
   |fn f c=>exact bd hh hs hρ hx
   |val u=>exact bd hh hs hρ hx
   |junk=>exact bd hh hs hρ hx)
  (fun _ _ _=>rfl)
  (fun b hb=>by
   obtain⟨u,hu,hb⟩:=hb
   simp only[List.mem_cons,List.not_mem_nil,or_false] at hu
   rcases hu with rfl|rfl
   ·simp[blk] at hb
   ·exact .inl ((hblk b).1 hb))
  (fun H' ρ' hh hs hρ hρd=>by
   refine⟨.slice none 0 0, [ρ id], [],hρd,⟨rfl,⟨rfl, .inl ⟨rfl,rfl⟩⟩,fun c hc=>by simp at hc,fun i j hi=>by simp at hi,?_,?_,?_⟩⟩
   ·intro v hv
    simp only[List.mem_singleton] at hv
    subst hv
    refine⟨⟨a,n,c,hsl⟩,fun b hb=>⟨by simp[blk],?_,?_⟩⟩
    ·exact((hf.own _ (get?_mem hg)).lt ((hblk b).1 hb)).1
    ·exact(hf.own _ (get?_mem hg)).cells ((hblk b).1 hb)
   ·intro j ys v hj hv
    cases j with
    |zero=>
     simp at hj hv
     subst hj;subst hv
     exact⟨cells,aV hh hs hr,hrow⟩
    |succ j=>simp at hj
   ·intro i j xs' ys u v hne hi hj
    cases i with
    |zero=>cases j with
     |zero=>exact absurd rfl hne
     |succ j=>simp at hj
    |succ i=>simp at hi)
  (fun hB _=>absurd hid (by omega))
 exact⟨h.marks,h.kept,h.size,h.below,h.others,h.small,ρ',q2⟩
theorem St.ofRow{X:Cx}{s s':aa}{id j:Nat}(he:s.ofRow id j=some s'){ac:Act}{w:World}(h:St X s ac w):St X s' ac w:=by
 unfold aa.ofRow at he
 split at he
 case h_2=>cases he
 rename_i t T' E rows idx hg
 split at he
 case h_2=>cases he
 rename_i xs hj
 split at he
 case isFalse=>cases he
 rename_i hid
 cases he
 obtain⟨ρ,hf⟩:=h.fits
 obtain⟨h0,vs,cells,hρ0,hm⟩:=hf.own _ (get?_mem hg)
 have hjr:rows[j]? =some (some xs):=by
  cases hq:rows[j]? with
  |none=>rw[hq] at hj;cases hj
  |some o=>rw[hq] at hj;simp at hj;rw[hj]
 have hjl:j<vs.length:=by rw[hm.len];exact(List.getElem?_eq_some_iff.1 hjr).1
 have hvj:vs[j]? =some vs[j]:=List.getElem?_eq_getElem hjl
 obtain⟨cs,hr,hrow⟩:=hm.row j xs _ hjr hvj
 obtain⟨⟨a,n,c,hsl⟩,_⟩:=hm.shape vs[j] (List.getElem_mem hjl)
 obtain⟨ρ',q1,q2⟩:=hf.renew (w':=w) hg (f:=LV.ofRow id j) (val:=vs[j]) (obj':= .arr t E xs)
  (fun H' ρ' hh hs hρ hρd x v hx=>by
   cases x with
   |ownR i k=>
    simp only[LV.ofRow]
    split
    ·rename_i e;subst e
     split
     ·rename_i e;subst e
      obtain⟨h1,vs1,a1,n1,c1,e1,e2,e3⟩:=hx
      rw[hρ0] at e1
      simp only[Value.tuple.injEq,Array.mk.injEq,List.cons.injEq] at e1
      obtain⟨_,rfl⟩:=e1
      rw[hvj] at e2
      cases e2
      exact⟨hρd.symm,_,_,_,e3⟩
     ·trivial
    ·rename_i e
     have:=bd (x:= .ownR i k) hh hs hρ hx
     unfold LV.kill at this
     rw[if_neg (by simp[LV.isOf];exact e)] at this
     exact this
   |z t x=>exact bd hh hs hρ hx
   |ownS i=>exact bd hh hs hρ hx
   |ownP i o=>exact bd hh hs hρ hx
   |ownE i w o=>exact bd hh hs hρ hx
   |ownW i w o=>exact bd hh hs hρ hx
   |ownM i=>exact bd hh hs hρ hx
   |ownA i o=>exact bd hh hs hρ hx
   |ownB i o p q=>exact bd hh hs hρ hx
   |fn f c=>exact bd hh hs hρ hx
   |val u=>exact bd hh hs hρ hx
   |junk=>exact bd hh hs hρ hx)
  (fun _ _ _=>rfl)
  (fun b hb=> .inl (by
   rw[hρ0]
   refine⟨vs[j],by simp,?_⟩
   rw[hsl] at hb ⊢
   cases a with
   |none=>simp[Blk] at hb
   |some a=>simpa [blk,Blk] using hb))
  (fun H' ρ' hh hs hρ hρd=>⟨cs,aV hh hs hr,by rw[hρd];exact hrow⟩)
  (fun hB _=>absurd hid (by omega))
 exact⟨h.marks,h.kept,h.size,h.below,h.others,h.small,ρ',q2⟩
theorem w6{X:Cx}{c:Code}{s s':aa}{K:Exit->aa->Prop}(id:Nat)(T':TypeId)(he:s.toRow id T'=some s')(h:J X c s' K):J X c s K:=
 fun ac w hst=>h ac w (hst.toRow he)
theorem pT{X:Cx}{c:Code}{s s':aa}{K:Exit->aa->Prop}(id j:Nat)(he:s.ofRow id j=some s')(h:J X c s' K):J X c s K:=
 fun ac w hst=>h ac w (hst.ofRow he)
end Go.Cm
end
section
namespace Go.Proofs.YtdojbabpnaifoaaGreatDoor
open Go Go.Cm Go.Proofs
def pU(B:aj):Tab:={types:= [(3,(.int .i64)),(79,(.slice (.st (.pair (.st (.pair .bool (.slice (.int .u32)))) (.st (.pair .bool (.slice (.int .u32)))))))),(91,(.st (.pair (.st (.pair .bool (.slice (.int .u32)))) (.st (.pair .bool (.slice (.int .u32)))))))],elems:= [(79,91)],cons:= [(119,ff)],hint:= [],N:=25,base:=B}
theorem zE{B:aj}(hB:aC B):aH Tryz.prog (pU B):=⟨⟨tc ty3 (tc fA (tc ty91 (ae))),aS (by kernel_rfl) (af),by simp only[pU,ioB];omega⟩,aF (cc Tryz.func119 (u7 hB) (ay)),by kernel_rfl⟩
def nS:Con:=fun l os=>match l,os with
 | [.z (.slice (.st (.pair (.st (.pair .bool (.slice (.int .u32)))) (.st (.pair .bool (.slice (.int .u32))))))) p], []=>some (nz p, [.z (.slice (.st (.pair (.st (.pair .bool (.slice (.int .u32)))) (.st (.pair .bool (.slice (.int .u32))))))) (aG (cP (an p)))], [])
 |_,_=>none
theorem vk{B:aj}(hB:aC B):Valid B Tryz.prog 120 nS:=by
 refine ab (zE hB).tab Tryz.func120 rfl rfl rfl ?_
 intro args os C rs os' hc hC
 unfold nS at hc
 split at hc
 case h_2=>cases hc
 rename_i p
 cases hc
 refine v_h (zE hB) fun X hP hT hr hG=> ?_
 have hU:=pU.eq_1
 unfold pU at hT
 have hX:= @ff.eq_1
 simp only[Tryz.f120,aD,al,ioB]
 have hl:p.length<=1000:=hC.2.1
 refine s_g hG ?_
 refine s_g hG ?_
 refine ak ?_
 refine s_g hG ?_
 refine au ?_
 refine br (fun(z:Nat)=>(⟨[(0, .l (.z (.slice (.st (.pair (.st (.pair .bool (.slice (.int .u32)))) (.st (.pair .bool (.slice (.int .u32))))))) p)),(3, .l (.ownS 22)),(6, .l (.z (.slice (.st (.pair (.st (.pair .bool (.slice (.int .u32)))) (.st (.pair .bool (.slice (.int .u32))))))) p)),(7, .l (.z (.int .i64) (p.length:Int))),(8, .l (.z (.int .i64) (z:Int)))], [(22, .arr (.st (.pair (.st (.pair .bool (.slice (.int .u32)))) (.st (.pair .bool (.slice (.int .u32)))))) 91 (aG ((an p).take z|>.map fun c=>c/aJ (an p))))]⟩:aa)) (fun z=>z<=p.length) (fun z=>p.length-z) 0 ?_ ?_ ?_
 ·refine q_l ?_
  exact⟨rfl,by unfold ioB;omega,rfl⟩
 ·omega
 ·rintro k g1
  try dsimp only at g1
  refine s_g hG ?_
  refine ak ?_
  refine aq ?_ ?_
  ·intro hb0
   try simp only[bt] at hb0
   obtain⟨m1,m2,m3,m4,m5,m6⟩:=IR hC (k:=k) (by omega)
   refine ar ?_
   refine ah ?_
   refine ak ?_
   refine au ?_
   refine s_q hG ?_ ?_
   ·try simp only[ba]
    exact⟨by omega,hb0⟩
   refine w6 22 78 (by simp only[aa.toRow,LV.toRow,ioB,mx0,mx1,mx2,mx3,mx4,mx5,mx6,Nat.reduceLT,Nat.reduceEqDiff,Nat.reduceAdd,Nat.reduceMul,Nat.reduceSub,Nat.reduceLeDiff,Nat.reduceBEq,Nat.reduceBNe,reduceIte,reduceDIte,reduceCtorEq];rfl) ?_
   refine gp hG ?_ ?_
   ·try simp only[ba]
    simp only[pe2]
    rw[m1,m2]
    exact⟨m3,⟨m4,by rw[aM];exact m5⟩,rfl,m6⟩
   refine aP ?_
   refine ah ?_
   refine pT 22 1 (by simp only[aa.ofRow,LV.ofRow,ioB,List.set_cons_zero,List.set_cons_succ,List.append_nil,List.nil_append,List.cons_append,List.getElem?_cons_zero,List.getElem?_cons_succ,Option.getD_some,mx0,mx1,mx2,mx3,mx4,mx5,mx6,Nat.reduceLT,Nat.reduceEqDiff,Nat.reduceAdd,Nat.reduceMul,Nat.reduceSub,Nat.reduceLeDiff,Nat.reduceBEq,Nat.reduceBNe,reduceIte,reduceDIte,reduceCtorEq];rfl) ?_
   refine ag hG ?_ ?_
   ·first|trivial|omega|(simp;done)|(simp;omega)
   show ∃ z,_
   refine q_l ?_
   simp only[pe2]
   rw[m1,m2]
   simp only[aM]
   exact FM hC (by omega)
  ·intro hb0
   try simp only[bf] at hb0
   refine bg ?_
   refine aE ?_
   refine ax ?_
   refine aw ?_
   refine ah ?_
   refine s_g hG ?_
   refine az ?_
   refine q_e [] ?_
   exact Ln (by omega)
def pV(B:aj):Tab:={types:= [(3,(.int .i64)),(79,(.slice (.st (.pair (.st (.pair .bool (.slice (.int .u32)))) (.st (.pair .bool (.slice (.int .u32)))))))),(91,(.st (.pair (.st (.pair .bool (.slice (.int .u32)))) (.st (.pair .bool (.slice (.int .u32)))))))],elems:= [(79,91)],cons:= [(105,dX),(124,Gs)],hint:= [],N:=24,base:=B}
theorem zF{B:aj}(hB:aC B):aH Tryz.prog (pV B):=⟨⟨tc ty3 (tc fA (tc ty91 (ae))),aS (by kernel_rfl) (af),by simp only[pV,ioB];omega⟩,aF (cc Tryz.func105 (k9 hB) (cc Tryz.func124 (u9 hB) (ay))),by kernel_rfl⟩
def jk:Con:=fun l os=>match l,os with
 | [.z (.slice (.st (.pair (.st (.pair .bool (.slice (.int .u32)))) (.st (.pair .bool (.slice (.int .u32))))))) p], []=>some (Sz QH p/\p.length<=1000, [.z (.slice (.st (.pair (.st (.pair .bool (.slice (.int .u32)))) (.st (.pair .bool (.slice (.int .u32))))))) (aG (cr (an p)))], [])
 |_,_=>none
theorem vl{B:aj}(hB:aC B):Valid B Tryz.prog 77 jk:=by
 refine ab (zF hB).tab Tryz.func77 rfl rfl rfl ?_
 intro args os C rs os' hc hC
 unfold jk at hc
 split at hc
 case h_2=>cases hc
 rename_i p
 cases hc
 refine v_h (zF hB) fun X hP hT hr hG=> ?_
 have hU:=pV.eq_1
 unfold pV at hT
 have hX:=ai @dX.eq_1<| @Gs.eq_1
 simp only[Tryz.f77,aD,al,ioB]
 have hl:p.length<=1000:=hC.2
 refine s_g hG ?_
 refine s_g hG ?_
 refine ak ?_
 refine s_g hG ?_
 refine au ?_
 refine br (fun(z:Nat)=>(⟨[(3, .l (.ownS 21)),(6, .l (.z (.slice (.st (.pair (.st (.pair .bool (.slice (.int .u32)))) (.st (.pair .bool (.slice (.int .u32))))))) p)),(7, .l (.z (.int .i64) (p.length:Int))),(8, .l (.z (.int .i64) (z:Int)))], [(21, .arr (.st (.pair (.st (.pair .bool (.slice (.int .u32)))) (.st (.pair .bool (.slice (.int .u32)))))) 91 (aG (l4 (an p) z)))]⟩:aa)) (fun z=>z<=p.length) (fun z=>p.length-z) 0 ?_ ?_ ?_
 ·refine q_l ?_
  exact⟨rfl,by unfold ioB;omega,rfl⟩
 ·omega
 ·rintro k g1
  try dsimp only at g1
  refine s_g hG ?_
  refine ak ?_
  refine aq ?_ ?_
  ·intro hb0
   try simp only[bt] at hb0
   obtain⟨m1,m2,m3,m4⟩:=IU hC.1 hl (k:=k) (by omega)
   refine ar ?_
   refine ah ?_
   refine ak ?_
   refine au ?_
   refine s_q hG ?_ ?_
   ·try simp only[ba]
    exact⟨by omega,hb0⟩
   refine s_g hG ?_
   refine aq ?_ ?_
   ·intro hb1
    try simp only[bt] at hb1
    refine w6 21 78 (by simp only[aa.toRow,LV.toRow,ioB,mx0,mx1,mx2,mx3,mx4,mx5,mx6,Nat.reduceLT,Nat.reduceEqDiff,Nat.reduceAdd,Nat.reduceMul,Nat.reduceSub,Nat.reduceLeDiff,Nat.reduceBEq,Nat.reduceBNe,reduceIte,reduceDIte,reduceCtorEq];rfl) ?_
    refine gp hG ?_ ?_
    ·try simp only[ba]
     simp only[pe2]
     rw[m2]
     exact⟨m1,m3,rfl,m4⟩
    refine aP ?_
    refine ah ?_
    first|refine pT 21 1 (by simp only[aa.ofRow,LV.ofRow,ioB,List.set_cons_zero,List.set_cons_succ,List.append_nil,List.nil_append,List.cons_append,List.getElem?_cons_zero,List.getElem?_cons_succ,Option.getD_some,mx0,mx1,mx2,mx3,mx4,mx5,mx6,Nat.reduceLT,Nat.reduceEqDiff,Nat.reduceAdd,Nat.reduceMul,Nat.reduceSub,Nat.reduceLeDiff,Nat.reduceBEq,Nat.reduceBNe,reduceIte,reduceDIte,reduceCtorEq];rfl) ?_|skip
    refine ag hG ?_ ?_
    ·first|trivial|omega|(simp;done)|(simp;omega)
    show ∃ z,_
    refine q_l ?_
    first|exact yx hl (by omega) (by omega)|(simp only[pe2];rw[m2];simp only[aM];exact uo hl (by omega) (by omega))
   ·intro hb1
    try simp only[bf] at hb1
    refine ar ?_
    refine aP ?_
    refine ah ?_
    first|refine pT 21 1 (by simp only[aa.ofRow,LV.ofRow,ioB,List.set_cons_zero,List.set_cons_succ,List.append_nil,List.nil_append,List.cons_append,List.getElem?_cons_zero,List.getElem?_cons_succ,Option.getD_some,mx0,mx1,mx2,mx3,mx4,mx5,mx6,Nat.reduceLT,Nat.reduceEqDiff,Nat.reduceAdd,Nat.reduceMul,Nat.reduceSub,Nat.reduceLeDiff,Nat.reduceBEq,Nat.reduceBNe,reduceIte,reduceDIte,reduceCtorEq];rfl) ?_|skip
    refine ag hG ?_ ?_
    ·first|trivial|omega|(simp;done)|(simp;omega)
    show ∃ z,_
    refine q_l ?_
    first|exact yx hl (by omega) (by omega)|(simp only[pe2];rw[m2];simp only[aM];exact uo hl (by omega) (by omega))
  ·intro hb0
   try simp only[bf] at hb0
   refine bg ?_
   refine aE ?_
   refine ax ?_
   refine aw ?_
   refine ah ?_
   refine s_g hG ?_
   refine az ?_
   refine q_e [] ?_
   rw[show k=(an p).length by rw[aK];omega];rfl
end Go.Proofs.YtdojbabpnaifoaaGreatDoor
end
section
namespace Go.Proofs
open Go.RowKit Go.Cm Go.Shelf
attribute [local go_sem] Oper.semAt_some
set_option maxHeartbeats 2000000 in
set_option maxRecDepth 100000 in
theorem B6(ad:Addr)(n c:Nat)(news:List Value)(w:World)(hl:news.length=n*4)(hn:n<=maxLen)(hbig:n*64<=140737488355328)
  (hc:∀ j u,news[j]? =some u->w.cell? (ad.add j)=some u) (h1:∀ u∈news,u.oneCell'=true):
  Calls Tryz.prog 118 #[.slice (some ad) n c] w fun e w'=>∃ v',e= .returned v'/\w'.ownsRow w.heap.size 91 4 v' n news/\Below w.heap.size w w':=by
 have t4:=Tryz.underlying4
 have a4:=Tryz.isAgg4
 have z4:=Tryz.sizeOf4
 have v4:=Tryz.zeroValue4
 have t22:=Tryz.underlying79
 have a22:=Tryz.isAgg79
 have z22:=Tryz.sizeOf79
 have v22:=Tryz.zeroValue79
 obtain⟨i0,hi,hz0,hz1,hz2⟩:=info_parts (show (Tryz.prog.info? 91).map (fun i=>(i.zero,i.size,i.bytes))=some (some (.agg zc4.toArray),4,64) by kernel_rfl)
 have q22:∀ (w:World) (a:Option Addr) (n c n' c':Nat),(binOp .eql 79 (.slice a n c) (.slice none n' c')).run Tryz.prog w= .ok (.bool a.isNone) w:=fun w a n c n' c'=>Lib.run_eql_slice_nil w _ _ a n c n' c' t22
 have u22:∀ w,Sem.run Tryz.prog (underlying 79) w= .ok (TypeDesc.slice 91) w:=run_underlying t22
 have z23:∀ w,(Go.sizeOf 91).run Tryz.prog w= .ok 4 w:=fun w=>by simp[Go.sizeOf,typeInfo,hi,hz1]
 have A:Aside (∀ j u,news[j]? =some u->w.cell? (ad.add j)=some u):=hc
 clear hc
 go_enter Tryz.func118,Tryz.ntmps118
 go_wp2_with (at_builtin;refine wpList_append_own _ rfl _ _ 79 rfl w.heap.size 91 i0 (.agg zc4.toArray) 4 64 t22 hi hz0 hz1 hz2 rfl (by omega) _ _ _ rfl (World.ownsRow_made w #[] 0 (Nat.le_refl _) (Nat.zero_le _) (by simp)) ad n c news rfl ?qc1 ?qc2 ?qc3 ?qc4 ?qc5 ?qc6 ?_)
 case qc1=>exact hl
 case qc2=>
  intro j u hj
  exact Lib.cell?_alloc_some _ (A.out j u hj)
 case qc3=>exact h1
 case qc4=>rw[Nat.zero_add];exact hn
 case qc5=>rw[Nat.zero_add];exact hbig
 case qc6=>simp
 intro v' w1 hown hgrow hnil
 go_wp2
 go_ret
 refine⟨v',rfl,by simpa using hown,?_⟩
 exact((Below.refl _ w).alloc (Nat.le_refl _) _).grown hgrow (by simp) (by intro k hk;simp[Value.ownBlock] at hk;omega)
set_option maxHeartbeats 1000000 in
theorem GB(n c:Nat)(w:World):Calls Tryz.prog 118 #[.slice none n c] w fun e w'=>e= .returned (.slice none 0 0)/\w'=w:=by
 have t4:=Tryz.underlying4
 have a4:=Tryz.isAgg4
 have z4:=Tryz.sizeOf4
 have v4:=Tryz.zeroValue4
 have t22:=Tryz.underlying79
 have a22:=Tryz.isAgg79
 have z22:=Tryz.sizeOf79
 have v22:=Tryz.zeroValue79
 have q22:∀ (w:World) (a:Option Addr) (n c n' c':Nat),(binOp .eql 79 (.slice a n c) (.slice none n' c')).run Tryz.prog w= .ok (.bool a.isNone) w:=fun w a n c n' c'=>Lib.run_eql_slice_nil w _ _ a n c n' c' t22
 go_enter Tryz.func118,Tryz.ntmps118
 go_wp2
 go_ret
 exact⟨rfl,rfl⟩
def cZ:Con:=fun l os=>match l,os with
 | [.z (.slice (.st (.pair (.st (.pair .bool (.slice (.int .u32)))) (.st (.pair .bool (.slice (.int .u32))))))) xs], []=>some (xs.length<=QL, [.own (.st (.pair (.st (.pair .bool (.slice (.int .u32)))) (.st (.pair .bool (.slice (.int .u32)))))) 91 xs], [])
 |_,_=>none
theorem GC{B:aj}(hB:aC B):Valid B Tryz.prog 118 cZ:=by
 intro args os C rs os' hc hC O w vals ρ0 hOn hIo hO hOI hargs hown hap
 unfold cZ at hc
 split at hc
 case h_2=>cases hc
 rename_i xs
 cases hc
 obtain⟨u,rfl,hu⟩:=oS hargs
 obtain⟨cells,hr,h⟩:=gO hu
 have hl:=bE (fun c x h=>NT.rep_length h) hr
 have hC:xs.length<=1000000000:=hC
 have hmove:∀ w':World,Below w.heap.size w w'->∀ H:Nat->Prop,(∀ b,b<w.heap.size->H b->O b)->cG (fun c x=>NT.rep H w' c x) cells xs:=
  fun w' hb H hH=>aV (fun b hlt hb=> .inl (hH b hlt hb)) (fun b _ hlt=>hb.block b (cR hlt)) hr
 rcases h with⟨rfl,h0,rfl⟩|⟨ad,c,rfl,hc⟩
 ·refine(GB 0 0 w).mono fun e w' ⟨he,hw⟩=> ?_
  subst he;subst hw
  exact we hO (Below.refl _ _) ⟨_,_,_,rfl⟩ (hmove _ (Below.refl _ _)) ⟨by simp[h0], .inl ⟨rfl,h0⟩⟩
 ·refine(B6 ad xs.length c cells w hl (by unfold maxLen;omega) (by omega) hc (eA hr)).mono fun e w' ⟨v',he,hrow,hb⟩=> ?_
  subst he
  obtain⟨h1,h2⟩:=hrow
  refine we hO hb ?_ (hmove _ hb) ⟨h1,?_⟩
  ·rcases h2 with⟨rfl,_⟩|⟨g,cap,cur,rfl,_⟩<;>exact⟨_,_,_,rfl⟩
  ·rcases h2 with h2|⟨g,cap,cur,e1,e2,e3,e4,e5,e6,e7⟩
   ·exact .inl h2
   ·exact .inr ⟨g,cap,cur,e1,e2,e3,e4,e5,by rw[e6];exact Nat.le_refl _,e7⟩
end Go.Proofs
end
section
namespace Go.Proofs.YtdojbabpnaifoaaGreatDoor
open Go Go.Cm Go.Proofs
def cX(B:aj):Tab:={types:= [(3,(.int .i64)),(79,(.slice (.st (.pair (.st (.pair .bool (.slice (.int .u32)))) (.st (.pair .bool (.slice (.int .u32)))))))),(91,(.st (.pair (.st (.pair .bool (.slice (.int .u32)))) (.st (.pair .bool (.slice (.int .u32)))))))],elems:= [(79,91)],cons:= [(60,fe),(82,fI),(105,dX),(112,fb),(113,dY),(118,cZ),(119,ff)],hint:= [],N:=78,io:= [(82, [0])],frees:= [(82, [0])],base:=B}
theorem zG{B:aj}(hB:aC B):aH Tryz.prog (cX B):=⟨⟨tc ty3 (tc fA (tc ty91 (ae))),aS (by kernel_rfl) (af),by simp only[cX,ioB];omega⟩,aF (cc Tryz.func60 (uZ hB) (cc Tryz.func82 (GA hB) (cc Tryz.func105 (k9 hB) (cc Tryz.func112 (ur hB) (cc Tryz.func113 (ld hB) (cc Tryz.func118 (GC hB) (cc Tryz.func119 (u7 hB) (ay)))))))),by kernel_rfl⟩
def oM:Con:=fun l os=>match l,os with
 | [.z (.slice (.st (.pair (.st (.pair .bool (.slice (.int .u32)))) (.st (.pair .bool (.slice (.int .u32))))))) p, .z (.slice (.st (.pair (.st (.pair .bool (.slice (.int .u32)))) (.st (.pair .bool (.slice (.int .u32))))))) q], []=>some (fa p q, [.z (.slice (.st (.pair (.st (.pair .bool (.slice (.int .u32)))) (.st (.pair .bool (.slice (.int .u32))))))) (aG (divN (an p) (an q)).1), .own (.st (.pair (.st (.pair .bool (.slice (.int .u32)))) (.st (.pair .bool (.slice (.int .u32)))))) 91 (aG (divN (an p) (an q)).2)], [])
 |_,_=>none
theorem nT{B:aj}(hB:aC B):Valid B Tryz.prog 68 oM:=by
 refine ab (zG hB).tab Tryz.func68 rfl rfl rfl ?_
 intro args os C rs os' hc hC
 unfold oM at hc
 split at hc
 case h_2=>cases hc
 rename_i p q
 cases hc
 refine v_h (zG hB) fun X hP hT hr hG=> ?_
 have hU:=cX.eq_1
 unfold cX at hT
 have hX:=ai @cZ.eq_1<|ai @ff.eq_1<|ai @dX.eq_1<|ai @fe.eq_1<|ai @fb.eq_1<|ai @fI.eq_1<|ai @dY.eq_1<|ai @bT.eq_def<| @b9.eq_def
 simp only[Tryz.f68,aD,al,ioB]
 refine ak ?_
 have hl1:=hC.l1
 have hl2:=hC.l2
 have h0:=hC.h0
 obtain⟨v1,v2,v3⟩:=M0 hC
 refine cC hG (by simp only[hT,cX,bT.eq_def,b9.eq_def,cZ,ff,dX,fe,fb,fI,dY,mx0,mx1,mx2,mx3,mx4,mx5,mx6,aU,bm,bF,aY,bl,Ty.fieldTy,Ty.fieldOf,Nat.reduceLT,Nat.reduceEqDiff,Nat.reduceAdd,Nat.reduceMul,Nat.reduceSub,Nat.reduceLeDiff,Nat.reduceBEq,Nat.reduceBNe,reduceIte,reduceDIte,reduceCtorEq];rfl) ?_ ?_
 ·first|trivial|omega|(simp;done)|(simp;omega)
 refine ah ?_
 refine ak ?_
 refine cC hG (by simp only[hT,cX,bT.eq_def,b9.eq_def,cZ,ff,dX,fe,fb,fI,dY,mx0,mx1,mx2,mx3,mx4,mx5,mx6,aU,bm,bF,aY,bl,Ty.fieldTy,Ty.fieldOf,Nat.reduceLT,Nat.reduceEqDiff,Nat.reduceAdd,Nat.reduceMul,Nat.reduceSub,Nat.reduceLeDiff,Nat.reduceBEq,Nat.reduceBNe,reduceIte,reduceDIte,reduceCtorEq];rfl) ?_ ?_
 ·try simp only[ba]
  show p.length<=1000000000
  omega
 refine ah ?_
 refine ak ?_
 refine cC hG (by simp only[hT,cX,bT.eq_def,b9.eq_def,cZ,ff,dX,fe,fb,fI,dY,mx0,mx1,mx2,mx3,mx4,mx5,mx6,aU,bm,bF,aY,bl,Ty.fieldTy,Ty.fieldOf,Nat.reduceLT,Nat.reduceEqDiff,Nat.reduceAdd,Nat.reduceMul,Nat.reduceSub,Nat.reduceLeDiff,Nat.reduceBEq,Nat.reduceBNe,reduceIte,reduceDIte,reduceCtorEq];rfl) ?_ ?_
 ·try simp only[ba]
  rw[v1]
  exact⟨v2,v3⟩
 refine ah ?_
 refine ak ?_
 refine au ?_
 refine HI 1104 1600 (by simp only[hT,cX,mx0,mx1,mx2,mx3,mx4,mx5,mx6,Nat.reduceLT,Nat.reduceEqDiff,Nat.reduceAdd,Nat.reduceMul,Nat.reduceSub,Nat.reduceLeDiff,Nat.reduceBEq,Nat.reduceBNe,reduceIte,reduceDIte,reduceCtorEq];rfl) ?_
 refine br (fun(z:Nat×List Rat×List Rat)=>(⟨[(0, .l (.z (.slice (.st (.pair (.st (.pair .bool (.slice (.int .u32)))) (.st (.pair .bool (.slice (.int .u32))))))) p)),(1, .l (.z (.slice (.st (.pair (.st (.pair .bool (.slice (.int .u32)))) (.st (.pair .bool (.slice (.int .u32))))))) q)),(6, .l (.ownS 1600)),(7, .l (.ownS 1184))], [(1600, .arr (.st (.pair (.st (.pair .bool (.slice (.int .u32)))) (.st (.pair .bool (.slice (.int .u32)))))) 91 (aG z.2.1)),(1184, .arr (.st (.pair (.st (.pair .bool (.slice (.int .u32)))) (.st (.pair .bool (.slice (.int .u32)))))) 91 (aG z.2.2))]⟩:aa)) (fun z=>DivPhi p q z.1 z.2.1 z.2.2) (fun z=>z.2.1.length) (p.length+1,an p,List.replicate (p.length+1-q.length) 0) ?_ ?_ ?_
 ·refine q_l ?_
  rw[v1,Int.toNat_natCast,hC.enc,yv]
  exact⟨rfl,rfl⟩
 ·exact div_start hC
 ·rintro⟨n,r,s⟩ hz
  try dsimp only at hz
  refine ak ?_
  refine ak ?_
  refine cC hG (by simp only[hT,cX,bT.eq_def,b9.eq_def,cZ,ff,dX,fe,fb,fI,dY,mx0,mx1,mx2,mx3,mx4,mx5,mx6,aU,bm,bF,aY,bl,Ty.fieldTy,Ty.fieldOf,Nat.reduceLT,Nat.reduceEqDiff,Nat.reduceAdd,Nat.reduceMul,Nat.reduceSub,Nat.reduceLeDiff,Nat.reduceBEq,Nat.reduceBNe,reduceIte,reduceDIte,reduceCtorEq];rfl) ?_ ?_
  ·first|trivial|omega|(simp;done)|(simp;omega)
  refine ah ?_
  refine aq ?_ ?_
  ·intro hb0
   try simp only[bt] at hb0
   have hle:q.length<=r.length:=by have h9:(q.length:Int)<=((aG r).length:Int):=hb0;rw[aB] at h9;omega
   obtain⟨w1,w2,n1,n2,n3⟩:=IX hC hz hle
   have hk:=NI hC hz hle
   refine ar ?_
   refine ah ?_
   refine au ?_
   refine ak ?_
   refine cC hG (by simp only[hT,cX,bT.eq_def,b9.eq_def,cZ,ff,dX,fe,fb,fI,dY,mx0,mx1,mx2,mx3,mx4,mx5,mx6,aU,bm,bF,aY,bl,Ty.fieldTy,Ty.fieldOf,Nat.reduceLT,Nat.reduceEqDiff,Nat.reduceAdd,Nat.reduceMul,Nat.reduceSub,Nat.reduceLeDiff,Nat.reduceBEq,Nat.reduceBNe,reduceIte,reduceDIte,reduceCtorEq];rfl) ?_ ?_
   ·first|trivial|omega|(simp;done)|(simp;omega)
   refine ah ?_
   refine ak ?_
   refine rI hG (by simp only[hT,mt0,cX,bT.eq_def,b9.eq_def,cZ,ff,dX,fe,fb,fI,dY,mx0,mx1,mx2,mx3,mx4,mx5,mx6,aU,bm,bF,aY,bl,Ty.fieldTy,Ty.fieldOf,Nat.reduceLT,Nat.reduceEqDiff,Nat.reduceAdd,Nat.reduceMul,Nat.reduceSub,Nat.reduceLeDiff,Nat.reduceBEq,Nat.reduceBNe,reduceIte,reduceDIte,reduceCtorEq];rfl) (by kernel_rfl) (by rfl) (by rfl) ?_ ?_
   ·try simp only[ba]
    simp only[w1,w2,Int.toNat_natCast,n1,n2]
    exact FO hC hz hle
   refine ah ?_
   refine ak ?_
   refine cC hG (by simp only[hT,cX,bT.eq_def,b9.eq_def,cZ,ff,dX,fe,fb,fI,dY,mx0,mx1,mx2,mx3,mx4,mx5,mx6,aU,bm,bF,aY,bl,Ty.fieldTy,Ty.fieldOf,Nat.reduceLT,Nat.reduceEqDiff,Nat.reduceAdd,Nat.reduceMul,Nat.reduceSub,Nat.reduceLeDiff,Nat.reduceBEq,Nat.reduceBNe,reduceIte,reduceDIte,reduceCtorEq];rfl) ?_ ?_
   ·try simp only[ba]
    simp only[hk,Int.toNat_natCast]
    exact⟨⟨(wa hC hz hle).1,(wa hC hz hle).2.1⟩,(wa hC hz hle).2.2⟩
   refine ah ?_
   refine ak ?_
   refine ak ?_
   refine cC hG (by simp only[hT,cX,bT.eq_def,b9.eq_def,cZ,ff,dX,fe,fb,fI,dY,mx0,mx1,mx2,mx3,mx4,mx5,mx6,aU,bm,bF,aY,bl,Ty.fieldTy,Ty.fieldOf,Nat.reduceLT,Nat.reduceEqDiff,Nat.reduceAdd,Nat.reduceMul,Nat.reduceSub,Nat.reduceLeDiff,Nat.reduceBEq,Nat.reduceBNe,reduceIte,reduceDIte,reduceCtorEq];rfl) ?_ ?_
   ·first|trivial|omega|(simp;done)|(simp;omega)
   refine ah ?_
   refine au ?_
   refine br (fun(z:Nat)=>(⟨[(0, .l (.z (.slice (.st (.pair (.st (.pair .bool (.slice (.int .u32)))) (.st (.pair .bool (.slice (.int .u32))))))) p)),(1, .l (.z (.slice (.st (.pair (.st (.pair .bool (.slice (.int .u32)))) (.st (.pair .bool (.slice (.int .u32))))))) q)),(6, .l (.ownS 1600)),(7, .l (.ownS 1184)),(8, .l (.z (.int .i64) ((r.length-q.length:Nat):Int))),(9, .l (.ownP 9 0)),(51, .l (.z (.slice (.st (.pair (.st (.pair .bool (.slice (.int .u32)))) (.st (.pair .bool (.slice (.int .u32))))))) q)),(52, .l (.z (.int .i64) (q.length:Int))),(53, .l (.z (.int .i64) (z:Int)))], [(1600, .arr (.st (.pair (.st (.pair .bool (.slice (.int .u32)))) (.st (.pair .bool (.slice (.int .u32)))))) 91 (aG (cw r (r.length-q.length) (-(aJ r/aJ (an q))) (an q) z))),(1184, .arr (.st (.pair (.st (.pair .bool (.slice (.int .u32)))) (.st (.pair .bool (.slice (.int .u32)))))) 91 (aG (s.set (r.length-q.length) (aJ r/aJ (an q))))),(9, .box 91 [.z .bool (bk (aJ r/aJ (an q))).1.1, .z (.slice (.int .u32)) (bk (aJ r/aJ (an q))).1.2, .z .bool (bk (aJ r/aJ (an q))).2.1, .z (.slice (.int .u32)) (bk (aJ r/aJ (an q))).2.2])]⟩:aa)) (fun z=>z<=q.length) (fun z=>q.length-z) 0 ?_ ?_ ?_
   ·refine q_l ?_
    simp only[hk,w1,w2,Int.toNat_natCast,pe2,n1,n2,aM,sr,cw,true_and,and_true,and_self]
    rfl
   ·omega
   ·rintro i g1
    try dsimp only at g1
    refine ak ?_
    refine cC hG (by simp only[hT,cX,bT.eq_def,b9.eq_def,cZ,ff,dX,fe,fb,fI,dY,mx0,mx1,mx2,mx3,mx4,mx5,mx6,aU,bm,bF,aY,bl,Ty.fieldTy,Ty.fieldOf,Nat.reduceLT,Nat.reduceEqDiff,Nat.reduceAdd,Nat.reduceMul,Nat.reduceSub,Nat.reduceLeDiff,Nat.reduceBEq,Nat.reduceBNe,reduceIte,reduceDIte,reduceCtorEq];rfl) ?_ ?_
    ·first|trivial|omega|(simp;done)|(simp;omega)
    refine ah ?_
    refine ak ?_
    refine aq ?_ ?_
    ·intro hb1
     try simp only[bt] at hb1
     have hi:i<q.length:=by have h9:(i:Int)<(q.length:Int):=hb1;omega
     obtain⟨u1,u2,u3,u4,u5,u6⟩:=IV hC hz hle hi
     refine ar ?_
     refine ah ?_
     refine ak ?_
     refine au ?_
     refine ak ?_
     refine cC hG (by simp only[hT,cX,bT.eq_def,b9.eq_def,cZ,ff,dX,fe,fb,fI,dY,mx0,mx1,mx2,mx3,mx4,mx5,mx6,aU,bm,bF,aY,bl,Ty.fieldTy,Ty.fieldOf,Nat.reduceLT,Nat.reduceEqDiff,Nat.reduceAdd,Nat.reduceMul,Nat.reduceSub,Nat.reduceLeDiff,Nat.reduceBEq,Nat.reduceBNe,reduceIte,reduceDIte,reduceCtorEq];rfl) ?_ ?_
     ·try simp only[ba]
      exact⟨by omega,hb1⟩
     refine ah ?_
     refine rI hG (by simp only[hT,mt0,cX,bT.eq_def,b9.eq_def,cZ,ff,dX,fe,fb,fI,dY,mx0,mx1,mx2,mx3,mx4,mx5,mx6,aU,bm,bF,aY,bl,Ty.fieldTy,Ty.fieldOf,Nat.reduceLT,Nat.reduceEqDiff,Nat.reduceAdd,Nat.reduceMul,Nat.reduceSub,Nat.reduceLeDiff,Nat.reduceBEq,Nat.reduceBNe,reduceIte,reduceDIte,reduceCtorEq];rfl) (by kernel_rfl) (by rfl) (by rfl) ?_ ?_
     ·try simp only[ba]
      simp only[pe2,u1,u3,u4,Int.toNat_natCast,aM]
      exact FP hC hz hle hi
     refine aP ?_
     refine ah ?_
     refine cC hG (by simp only[hT,cX,bT.eq_def,b9.eq_def,cZ,ff,dX,fe,fb,fI,dY,mx0,mx1,mx2,mx3,mx4,mx5,mx6,aU,bm,bF,aY,bl,Ty.fieldTy,Ty.fieldOf,Nat.reduceLT,Nat.reduceEqDiff,Nat.reduceAdd,Nat.reduceMul,Nat.reduceSub,Nat.reduceLeDiff,Nat.reduceBEq,Nat.reduceBNe,reduceIte,reduceDIte,reduceCtorEq];rfl) ?_ ?_
     ·first|trivial|omega|(simp;done)|(simp;omega)
     show ∃ z,_
     refine q_l ?_
     simp only[pe2,u1,u3,u4,Int.toNat_natCast,aM,Lp]
     exact IY (n:=n) (s:=s) hC hi
    ·intro hb1
     try simp only[bf] at hb1
     have hi:i=q.length:=by have h9: ¬ (i:Int)<(q.length:Int):=hb1;omega
     refine bg ?_
     refine aE ?_
     refine ax ?_
     refine aw ?_
     refine ah ?_
     refine cC hG (by simp only[hT,cX,bT.eq_def,b9.eq_def,cZ,ff,dX,fe,fb,fI,dY,mx0,mx1,mx2,mx3,mx4,mx5,mx6,aU,bm,bF,aY,bl,Ty.fieldTy,Ty.fieldOf,Nat.reduceLT,Nat.reduceEqDiff,Nat.reduceAdd,Nat.reduceMul,Nat.reduceSub,Nat.reduceLeDiff,Nat.reduceBEq,Nat.reduceBNe,reduceIte,reduceDIte,reduceCtorEq];rfl) ?_ ?_
     ·try simp only[ba]
      rw[C8 (p:=p) (n:=n) (s:=s) hi]
      exact IW hC hz hle
     refine aP ?_
     show ∃ z,_
     refine q_l ?_
     obtain⟨m,hm⟩:=div_next hC hz hle
     exact⟨m,aR (cp (an q) r),by rw[C8 (p:=p) (n:=n) (s:=s) hi,aI],_,rfl,hm,eV (by rw[aK];exact h0) (by rw[aK];exact hle) hC.hl⟩
  ·intro hb0
   try simp only[bf] at hb0
   have hle: ¬q.length<=r.length:=by have h9: ¬ (q.length:Int)<=((aG r).length:Int):=hb0;rw[aB] at h9;omega
   have he:=div_end hz hle
   refine bg ?_
   refine aE ?_
   refine ax ?_
   refine aw ?_
   refine ah ?_
   refine ak ?_
   refine cC hG (by simp only[hT,cX,bT.eq_def,b9.eq_def,cZ,ff,dX,fe,fb,fI,dY,mx0,mx1,mx2,mx3,mx4,mx5,mx6,aU,bm,bF,aY,bl,Ty.fieldTy,Ty.fieldOf,Nat.reduceLT,Nat.reduceEqDiff,Nat.reduceAdd,Nat.reduceMul,Nat.reduceSub,Nat.reduceLeDiff,Nat.reduceBEq,Nat.reduceBNe,reduceIte,reduceDIte,reduceCtorEq];rfl) ?_ ?_
   ·first|trivial|omega|(simp;done)|(simp;omega)
   refine ah ?_
   refine az ?_
   refine q_e [] ?_
   rw[<- he]
   exact⟨rfl,trivial,rfl⟩
def pW(B:aj):Tab:={types:= [(3,(.int .i64)),(79,(.slice (.st (.pair (.st (.pair .bool (.slice (.int .u32)))) (.st (.pair .bool (.slice (.int .u32))))))))],elems:= [],cons:= [(68,oM),(120,nS)],hint:= [13],N:=21,base:=B}
theorem zH{B:aj}(hB:aC B):aH Tryz.prog (pW B):=⟨⟨tc ty3 (tc fA (ae)),af,by simp only[pW,ioB];omega⟩,aF (cc Tryz.func68 (nT hB) (cc Tryz.func120 (vk hB) (ay))),by kernel_rfl⟩
def lg:Con:=fun l os=>match l,os with
 | [.z (.slice (.st (.pair (.st (.pair .bool (.slice (.int .u32)))) (.st (.pair .bool (.slice (.int .u32))))))) p, .z (.slice (.st (.pair (.st (.pair .bool (.slice (.int .u32)))) (.st (.pair .bool (.slice (.int .u32))))))) q], []=>some (iF p q, [.z (.slice (.st (.pair (.st (.pair .bool (.slice (.int .u32)))) (.st (.pair .bool (.slice (.int .u32))))))) (aG (cx (an p) (an q)))], [])
 |_,_=>none
theorem vm{B:aj}(hB:aC B):Valid B Tryz.prog 70 lg:=by
 refine ab (zH hB).tab Tryz.func70 rfl rfl rfl ?_
 intro args os C rs os' hc hC
 unfold lg at hc
 split at hc
 case h_2=>cases hc
 rename_i p q
 cases hc
 refine v_h (zH hB) fun X hP hT hr hG=> ?_
 have hU:=pW.eq_1
 unfold pW at hT
 have hX:=ai @nS.eq_1<| @oM.eq_1
 simp only[Tryz.f70,aD,al,ioB]
 refine s_g hG ?_
 refine ak ?_
 refine au ?_
 refine br (fun(z:Nat×List Rat×List Rat)=>(⟨[(0, .l (.z (.slice (.st (.pair (.st (.pair .bool (.slice (.int .u32)))) (.st (.pair .bool (.slice (.int .u32))))))) (aG z.2.1))),(1, .l (.z (.slice (.st (.pair (.st (.pair .bool (.slice (.int .u32)))) (.st (.pair .bool (.slice (.int .u32))))))) (aG z.2.2)))], []⟩:aa)) (fun z=>sC p q z.1 z.2.1 z.2.2) (fun z=>z.2.2.length) (q.length+1,an p,an q) ?_ ?_ ?_
 ·refine q_l ?_
  rw[wb hC.hp,wb hC.hq]
  exact⟨rfl,rfl⟩
 ·exact FQ hC
 ·rintro⟨n,a,b⟩ hz
  try dsimp only at hz
  refine ak ?_
  refine s_g hG ?_
  refine aq ?_ ?_
  ·intro hb0
   try simp only[bt] at hb0
   have hl:0<b.length:=by have h9:(0:Int)<((aG b).length:Int):=hb0;rw[aB] at h9;omega
   obtain⟨d1,d2,⟨m,d3⟩,d4⟩:=IZ hz hl
   refine ar ?_
   refine ah ?_
   refine au ?_
   refine s_q hG ?_ ?_
   ·try simp only[ba]
    exact d1
   refine ag hG ?_ ?_
   ·try simp only[ba]
    rw[aI,aI]
    exact d2
   refine aP ?_
   show ∃ z,_
   refine q_l ?_
   rw[aI,aI,aI]
   exact⟨m,b,rfl,_,rfl,d3,d4⟩
  ·intro hb0
   try simp only[bf] at hb0
   have hl: ¬0<b.length:=by have h9: ¬ (0:Int)<((aG b).length:Int):=hb0;rw[aB] at h9;omega
   obtain⟨d1,d2⟩:=Lq hz hl
   refine bg ?_
   refine aE ?_
   refine ax ?_
   refine aw ?_
   refine ah ?_
   refine s_q hG ?_ ?_
   ·try simp only[ba]
    exact d1
   refine az ?_
   refine q_e [] ?_
   rw[aI,d2]
def pX(B:aj):Tab:={types:= [(3,(.int .i64)),(79,(.slice (.st (.pair (.st (.pair .bool (.slice (.int .u32)))) (.st (.pair .bool (.slice (.int .u32))))))))],elems:= [],cons:= [(68,oM),(70,lg),(77,jk),(120,nS)],hint:= [14],N:=19,base:=B}
theorem zI{B:aj}(hB:aC B):aH Tryz.prog (pX B):=⟨⟨tc ty3 (tc fA (ae)),af,by simp only[pX,ioB];omega⟩,aF (cc Tryz.func68 (nT hB) (cc Tryz.func70 (vm hB) (cc Tryz.func77 (vl hB) (cc Tryz.func120 (vk hB) (ay))))),by kernel_rfl⟩
def pY:Con:=fun l os=>match l,os with
 | [.z (.slice (.st (.pair (.st (.pair .bool (.slice (.int .u32)))) (.st (.pair .bool (.slice (.int .u32))))))) p], []=>some (lF p, [.z (.slice (.st (.pair (.st (.pair .bool (.slice (.int .u32)))) (.st (.pair .bool (.slice (.int .u32))))))) (aG (cq (an p)))], [])
 |_,_=>none
theorem GD{B:aj}(hB:aC B):Valid B Tryz.prog 79 pY:=by
 refine ab (zI hB).tab Tryz.func79 rfl rfl rfl ?_
 intro args os C rs os' hc hC
 unfold pY at hc
 split at hc
 case h_2=>cases hc
 rename_i p
 cases hc
 refine v_h (zI hB) fun X hP hT hr hG=> ?_
 have hU:=pX.eq_1
 unfold pX at hT
 have hX:=ai @lg.eq_1<|ai @jk.eq_1<|ai @nS.eq_1<| @oM.eq_1
 simp only[Tryz.f79,aD,al,ioB]
 refine s_g hG ?_
 refine ak ?_
 refine s_g hG ?_
 refine aq ?_ ?_
 ·intro hb0
  try simp only[bt] at hb0
  refine s_g hG ?_
  refine az ?_
  refine aA ?_
  refine q_e [] ?_
  have h9:(p.length:Int)=0:=hb0
  obtain rfl:p= []:=List.eq_nil_of_length_eq_zero (by omega)
  rfl
 ·intro hb0
  try simp only[bf] at hb0
  have hne:p≠ []:=by intro e;subst e;exact hb0 rfl
  obtain⟨c1,c2,c3,c4,c5⟩:=hC hne
  refine ar ?_
  refine ah ?_
  refine s_q hG ?_ ?_
  ·try simp only[ba]
   simp only[aI]
   exact⟨⟨c1,by omega⟩,c3,c4⟩
  refine s_q hG ?_ ?_
  ·try simp only[ba]
   simp only[aI]
   exact c5
  refine az ?_
  refine q_e [] ?_
  simp only[aI,cq,if_neg (show ¬an p= [] from fun e=>hne (by have:=congrArg List.length e;rw[aK] at this;exact List.eq_nil_of_length_eq_zero this))]
end Go.Proofs.YtdojbabpnaifoaaGreatDoor
end
section
namespace Go.Cm
open Go.RowKit
def vn:Code->Option (Nat×TypeId×Nat)
 | .region _ ops false=>match ops.toList with
  | [o1,o2]=>match o1.guard,o1.dst,o1.op,o2.guard,o2.dst,o2.op with
   |none,some d, .alloc T,none,none, .store T' (.tmp d') (.tmp p)=>if T=T'/\d'=d/\p≠d then some (d,T,p) else none
   |_,_,_,_,_,_=>none
  |_=>none
 |_=>none
theorem w7{H:Nat->Prop}{w:World}{ρ:Nat->Value}{cs:List LV}{vs:List Value}(h:bz (gl H w ρ) cs vs):∀ c∈vs,c.oneCell'=true:=by
 intro c hc
 obtain⟨i,hi,rfl⟩:=List.getElem_of_mem hc
 have hl:=h.length
 obtain⟨v,h1,h2⟩:=h.get (List.getElem?_eq_getElem (show i<cs.length by omega))
 rw[List.getElem?_eq_getElem hi] at h1
 cases h1
 exact h2.2
theorem Kw{X:Cx}{r:Option Nat}{n:Nat}(c:Code){d:Nat}{T:TypeId}{p:Nat}{u:Ty}(h:vn c=some (d,T,p))(hT:cS X.P T u)(a:Act)(w:World)(hd:d<a.tmps.size)(hl:(a.eval (.tmp p)).cells.toList.length=u.w)(h1:∀ c∈(a.eval (.tmp p)).cells.toList,c.oneCell'=true):
  ∃ Wb:World,(∀ k,k<w.heap.size->Wb.heap[k]? =w.heap[k]?)/\Wb.heap[w.heap.size]? =some (.cells ((a.eval (.tmp p)).cells.toList).toArray T (0,0))/\Wb.heap.size=w.heap.size+1/\(Wb.os=w.os/\Wb.tape=w.tape/\Wb.output=w.output)/\
   ∀ {K:Act->World->Prop} {R:Exit->Act->World->Prop},K (a.put (some d) (.pointer (some ⟨w.heap.size,0,none⟩))) Wb->c.wpIn (fw r) n X.P (Exit.then K R) a w:=by
 cases c with
 |region id ops draw=>
  cases draw with
  |true=>simp[vn] at h
  |false=>
   simp only[vn] at h
   split at h
   case h_2=>cases h
   rename_i o1 o2 hops
   split at h
   case h_2=>cases h
   rename_i d0 T0 T' d' p' g1 e1 e2 g2 e3 e4
   split at h
   case isFalse=>cases h
   rename_i hc
   obtain⟨rfl,rfl,hpd⟩:=hc
   cases h
   have hz:=fL hT.leaf u.zeroCells u.zeroCells_length u.zeroCells_one
   have hrow:(w.alloc (.cells (mkV u.isAgg u.zeroCells).cells T)).heap[w.heap.size]? =some (.cells u.zeroCells.toArray T (0,0)):=by
    rw[heap_alloc_new];congr 2;apply Array.ext';simpa using hz
   have hst:=eZ (P:=X.P) hT (v:=a.eval (.tmp p)) hrow hl h1 (o:=0) (by rw[u.zeroCells_length];omega)
   have hset:=dw hrow (new:=(a.eval (.tmp p)).cells.toList) (off:=0) (by rw[hl,u.zeroCells_length];omega)
   refine⟨(w.alloc (.cells (mkV u.isAgg u.zeroCells).cells T)).setCells w.heap.size 0 (a.eval (.tmp p)).cells.toList,fun k hk=> ?_,?_,?_,?_,?_⟩
   ·rw[ca _ _ _ _ (by omega)];exact b7 w _ k hk
   ·rw[hset]
    have e0:u.zeroCells.drop (0+(a.eval (.tmp p)).cells.toList.length)= []:=List.drop_of_length_le (by rw[hl,u.zeroCells_length];omega)
    rw[e0];simp
   ·rw[lu,World.size_alloc]
   ·have hb:=Bel.setCells (M:=fun _=>True) (b:=w.heap.size) trivial (a.eval (.tmp p)).cells.toList 0 ((Bel.refl (fun _=>True) w).alloc (.cells (mkV u.isAgg u.zeroCells).cells T))
    exact⟨hb.os,hb.tape,hb.output⟩
   ·intro K R hk
    refine wpIn_region_list ?_
    rw[hops]
    have hw1:∀ t,Region.wanted o1 (yielded ops t)=true:=fun t=>by simp[Region.wanted,g1]
    have hw2:∀ t,Region.wanted o2 (yielded ops t)=true:=fun t=>by simp[Region.wanted,g2]
    simp only[wpListIn,hw1,if_true]
    refine bj (v:= .pointer (some ⟨w.heap.size,0,none⟩)) (w':=w.alloc (.cells (mkV u.isAgg u.zeroCells).cells T)) ?_ ?_
    ·unfold execOp;rw[e2];exact bx (tF hT w)
    ·rw[e1]
     simp only[hw2,if_true]
     have hdv:(a.put (some d) (.pointer (some ⟨w.heap.size,0,none⟩))).eval (.tmp d)= .pointer (some ⟨w.heap.size,0,none⟩):=by
      simp[Act.eval,Act.put,hd]
     have hpv:(a.put (some d) (.pointer (some ⟨w.heap.size,0,none⟩))).eval (.tmp p)=a.eval (.tmp p):=by
      show (a.put (some d) _).tmps.getD p undef=a.tmps.getD p undef
      exact Act.getD_put_ne hpd
     refine fO (w':=(w.alloc (.cells (mkV u.isAgg u.zeroCells).cells T)).setCells w.heap.size 0 (a.eval (.tmp p)).cells.toList) ?_ ?_
     ·unfold execOp;rw[e4]
      simp only[hdv,hpv]
      simp[hst]
     ·rw[e3];exact hk
 |_=>simp[vn] at h
theorem Fits.freshO{X:Cx}{s:aa}{a:Act}{w w':World}{d:Nat}{obj:aN}{val:Value}{ρ:Nat->Value}(hf:Fits X s a w ρ)(hdB:d<ioB)
  (hkeep:∀ k,k<w.heap.size->w'.heap[k]? =w.heap[k]?) (hval:∀ b,Blk val b->w.heap.size<=b)
  (hobj:∀ H' ρ',(∀ b,b<w.heap.size->H' b->hot X.O ρ s.own b)->bh (hot X.O ρ s.own) w w'->(∀ i,i≠d->ρ' i=ρ i)->ρ' d=val->b4 H' w' ρ' X.M (d,obj)):
  ∃ ρ',ρ' d=val/\(∀ i,i≠d->ρ' i=ρ i)/\Fits X {env:=bQ (LV.kill d) s.env,own:=(d,obj)::bo (LV.kill d) (del s.own d)} a w' ρ':=by
 have hlt:=fun p hp b hb=>((hf.own p hp).lt (b:=b) hb).2
 have hs:bh (hot X.O ρ s.own) w w':=fun b _ hb=>hkeep b (cR hb)
 have hh:∀ b,b<w.heap.size->hot X.O (lk ρ d val) ((d,obj)::bo (LV.kill d) (del s.own d)) b->hot X.O ρ s.own b:=by
  intro b hb h
  rcases h with h|⟨p,hp,hp2⟩
  ·exact .inl h
  ·rcases List.mem_cons.1 hp with rfl|hp
   ·simp only[cH] at hp2
    have:=hval b hp2;omega
   ·obtain⟨u,h1,_⟩:=bn hp
    have h2:=bJ.1 h1
    rw[dh _ _ h2.2] at hp2
    exact db h2.1 hp2
 have hρ:∀ i,i≠d->lk ρ d val i=ρ i:=fun i hi=>dh _ _ hi
 refine⟨lk ρ d val,cH _ _ _,hρ,hf.env_map (fun x v hx=>bd hh hs hρ hx) ?_ ?_ ?_⟩
 ·intro p hp
  rcases List.mem_cons.1 hp with rfl|hp
  ·exact hobj _ _ hh hs hρ (cH _ _ _)
  ·obtain⟨u,h1,h2⟩:=bn hp
   have h3:=bJ.1 h1
   have:=(hf.own _ h3.1).move (f:=LV.kill d) (ρ':=lk ρ d val) hh hs (fun x v hx=>bd hh hs hρ hx) (hρ _ h3.2) (fun b hb=>hkeep b (hlt _ h3.1 b hb))
   rw[<- h2] at this
   exact this
 ·intro p hp hB hF
  rcases List.mem_cons.1 hp with rfl|hp
  ·exact absurd hB (Nat.not_le.2 hdB)
  ·obtain⟨u,h1,_⟩:=bn hp
   have h3:=bJ.1 h1
   rw[hρ _ h3.2]
   exact hf.io _ h3.1 hB hF
 ·rw[List.pairwise_cons]
  constructor
  ·intro q hq
   obtain⟨u,h1,_⟩:=bn hq
   have h3:=bJ.1 h1
   refine⟨fun e=>h3.2 e.symm,fun b hb hq2=> ?_⟩
   rw[dh _ _ h3.2] at hq2
   simp only[cH] at hb
   have h4:=hval b hb
   have:=hlt _ h3.1 b hq2
   omega
  ·have hap:=cy (f:=LV.kill d) (fun i j=>i≠j/\∀ b,Blk (ρ i) b-> ¬Blk (ρ j) b) (cW (fun i j=>i≠j/\∀ b,Blk (ρ i) b-> ¬Blk (ρ j) b) (n:=d) hf.apart)
   refine hap.imp_of_mem fun {p q} hp hq hpq=> ?_
   obtain⟨_,h1,_⟩:=bn hp
   obtain⟨_,h2,_⟩:=bn hq
   rw[dh _ _ (bJ.1 h1).2,dh _ _ (bJ.1 h2).2]
   exact hpq
theorem GE{X:Cx}(hr:X.r=none){s:aa}{K:Exit->aa->Prop}{g:Operand}{ps:Array Tmp}{assign body:Code}{gf:FuncId}
  {items:List (List LV)} (henters:∀ args w,(callFunc gf args).run X.P w= .ok (.enter gf args) w) (hdata:∀ it∈items,it.length=ps.size/\it.all LV.isZ=true) {d pv:Nat} {TB:TypeId} {ub:Ty} (hasg:vn assign=some (d,TB,pv)) (hTb:cS X.P TB ub) (hdN:d<X.T.N) (ks:List Nat)
  (hk1:ks.all (fun t=> !ps.toList.contains t&&t !=d)=true) (hps:ps.toList.all (fun t=>decide (t<X.T.N))=true)
  {ι:Type} (f:Nat->ι->aa) (Φ:Nat->ι->Prop) (x₀:ι) (h₀:le s (f 0 x₀))
  (hseq:∀ (a:Act) (w:World) (ρ:Nat->Value),St X s a w->Fits X s a w ρ->(∀ b,hot X.O (cJ ρ s.own) (f 0 x₀).own b->b<w.heap.size)->∃ (lb:List Value) (E:Nat->Prop),a.eval g= .func (.func gf) #[] lb.toArray/\(∀ b,E b->X.M b/\(∃ o:Obj,w.heap[b]? =some o/\o.isCells=true)/\ ¬hot X.O (cJ ρ s.own) (f 0 x₀).own b/\hot X.O ρ s.own b)/\∃ enc:Nat->Array Value,
   (∀ k (hk:k<items.length),bz (aT (fun b=>hot X.O (cJ ρ s.own) (f 0 x₀).own b∨E b) w (fun _=>undef)) items[k] (enc k).toList)/\tP X.P gf lb.toArray enc items.length (xL (hot (fun _=>False) (cJ ρ s.own) (f 0 x₀).own) w.heap.size) w E) (hΦ:Φ 0 x₀) (hks:∀ k x,(f k x).env.all (fun e=>ks.contains e.1)=true)
  (hround:∀ k (hk:k<items.length) (x:ι),Φ k x->∃ s1 v cs,aZ (dO (f k x) (ps.toList.zip items[k])) (.tmp pv)=some v/\v.cells=some cs/\cs.length=ub.w/\cs.all (fun c=> !c.isOf d)=true/\s1={env:=(d, .l (.ownP d 0))::del ((dO (f k x) (ps.toList.zip items[k])).kill d).env d,own:=(d, .box TB cs)::((dO (f k x) (ps.toList.zip items[k])).kill d).own}/\
   ∀ X':Cx,X'.P=X.P->X'.T={X.T with keep:=ks}->J X' body s1 (vL f Φ ks K k))
  (hdone:∀ x,Φ items.length x->K .normal (f items.length x)):J X (.rangeFunc g ps assign body) s K:=by
 intro a w hst
 obtain⟨ρ,hf⟩:=hst.fits
 have hHlt':∀ b,hot X.O (cJ ρ s.own) (f 0 x₀).own b->b<w.heap.size:=fun b hb=>hf.hot_lt hst.others hst.below (lQ h₀ hb)
 have hseq':=hseq a w ρ hst hf hHlt'
 obtain⟨H,hH⟩:∃ H,H=hot (fun _=>False) (cJ ρ s.own) (f 0 x₀).own:=⟨_,rfl⟩
 have hHX:∀ b,H b->hot X.O (cJ ρ s.own) (f 0 x₀).own b:=fun b hb=>by rw[hH] at hb;exact hb.elim False.elim .inr
 rw[<- hH] at hseq'
 obtain⟨lb,E,hlb1,hE,enc,henc,hsq⟩:=hseq'
 have hEM:=fun b hb=>(hE b hb).1
 have hEw:=fun b hb=>(hE b hb).2.1
 have hEH:∀ b,E b-> ¬H b:=fun b hb h=>(hE b hb).2.2.1 (hHX b h)
 have hw0:X.w0.heap.size<=w.heap.size:=hst.below.size
 have hout0:ep X a w H E (f 0 x₀) w (cJ ρ s.own):=by
  have h1:Fits (XE X E) (f 0 x₀) a w (cJ ρ s.own):=Fits.leO h₀ hf (fun b _ hb=>by
   rcases hb with(hb|hb)|hb
   ·exact .inl hb
   ·exact(hE b hb).2.2.2
   ·exact lQ h₀ (.inr hb))
  exact⟨h1,hst.below,fun p hp b hb=> .inr (by rw[hH];exact db hp hb),KeepsOthers.refl _,bh.refl _ _⟩
 refine wpIn_rangeFunc ?_
 intro fn hfn
 have hround0:(fw X.r).round=none:=by rw[hr];rfl
 rw[hround0]
 obtain⟨rec,hrec⟩:∃ rec:LoopState->Option Code->Loop,rec=fun st pe=>{state:=st,pending:=pe,fn,tmps:=a.tmps,params:=ps,assign,body,defers:=w.heap.size}:=⟨_,rfl⟩
 obtain⟨W1,hW1⟩:∃ W1,(w.alloc (.deferred (some []))).alloc (.loop (rec .ready none))=W1:=⟨_,rfl⟩
 have hsz1:W1.heap.size=w.heap.size+2:=by rw[<- hW1];simp
 have hL1:W1.heap[w.heap.size+1]? =some (.loop (rec .ready none)):=by
  rw[<- hW1];have:=World.alloc_heap_new (w.alloc (.deferred (some []))) (.loop (rec .ready none));rwa [World.size_alloc] at this
 have hD1:W1.heap[w.heap.size]? =some (.deferred (some [])):=by
  rw[<- hW1];exact(Below.heap_alloc _ _ _ (by simp)).trans (World.alloc_heap_new w _)
 have hb1:Below w.heap.size w W1:=by rw[<- hW1];exact((Below.refl _ w).alloc (Nat.le_refl _) _).alloc (by simp) _
 have hout1:ep X a w H E (f 0 x₀) W1 (cJ ρ s.own):=by
  rw[<- hW1]
  exact(hout0.abide hw0 (World.grownBy_alloc _ _ none) (by simp)).abide hw0 (World.grownBy_alloc _ _ none) (by simp)
 refine⟨w.heap.size+1, [{target:= .collected w.heap.size,args:= #[]}],W1,{target:= .fn (.func gf) lb.toArray,args:= #[.func (.yield (w.heap.size+1)) #[] #[]]},W1,gf,
  #[.func (.yield (w.heap.size+1)) #[] #[]]++lb.toArray,W1,?_,?_,fun _ _=>trivial,?_,fun h=>by simp[fw,Fence.wide] at h,?_⟩
 ·rw[<- hW1,hrec];exact run_enterLoop_outer _ _ _ _ _
 ·simp only[resolve,hlb1]
  simp[go_sem]
 ·simp[invoke,go_sem,henters]
 have hfw:fw X.r=fw none:=by rw[hr]
 rw[hfw]
 have hkeptA:∀ k (act0:Act),act0.tmps=((ps.toList.zip (enc k).toList).foldl (fun(t:Array Value) (p:Nat×Value)=>t.setIfInBounds p.1 p.2) a.tmps)->∀ t∈ks,∀ pt:Value,(act0.put (some d) pt).tmps.getD t undef=a.tmps.getD t undef:=by
  intro k act0 h0 t ht pt
  have h1:=List.all_eq_true.1 hk1 t ht
  simp only[Bool.and_eq_true,Bool.not_eq_true',List.contains_eq_mem,decide_eq_false_iff_not,bne_iff_ne] at h1
  rw[Act.getD_put_ne h1.2,h0,nh]
  intro hm
  obtain⟨p,hp,rfl⟩:=List.mem_map.1 hm
  exact h1.1 (List.of_mem_zip hp).1
 have hE1: ¬E (w.heap.size+1):=fun e=>by
  obtain⟨o,ho,_⟩:=hEw _ e
  have:=(Array.getElem?_eq_some_iff.1 ho).1;omega
 have hE2: ¬E w.heap.size:=fun e=>by
  obtain⟨o,ho,_⟩:=hEw _ e
  have:=(Array.getElem?_eq_some_iff.1 ho).1;omega
 refine(hsq (w.heap.size+1)
  (fun k W=>(∃ x ρ,Φ k x/\ep X a w H E (f k x) W ρ)/\W.heap[w.heap.size+1]? =some (.loop (rec .ready none))/\W.heap[w.heap.size]? =some (.deferred (some [])))
  (fun W=>∃ c,(∃ z ρ,HF K z c/\ep X a w H E z W ρ)/\W.heap[w.heap.size+1]? =some (.loop (rec .done (some c)))/\W.heap[w.heap.size]? =some (.deferred (some [])))
  W1 hb1 ?_ ?_ ?_ ?_ ?_ ⟨⟨x₀,_,hΦ,hout1⟩,hL1,hD1⟩).mono ?_
 ·rintro k A B row ⟨⟨x,ρx,hx,ho⟩,hl,hd⟩ hg' hrow
  refine⟨⟨x,ρx,hx,ho.abide hw0 hg' (fun r e=> ?_)⟩,(grownBy_keeps hg' (fun r e=>(hrow r e).2) hl rfl).trans hl,(grownBy_keeps hg' (fun r e=>(hrow r e).2) hd rfl).trans hd⟩
  obtain⟨h1,o,h2,h3⟩:=hrow r e
  exact⟨by omega,o,h2,Obj.not_cells_of_walk h3⟩
 ·rintro _ A B row ⟨c,⟨z,ρx,hx,ho⟩,hl,hd⟩ hg' hrow
  refine⟨c,⟨z,ρx,hx,ho.abide hw0 hg' (fun r e=> ?_)⟩,(grownBy_keeps hg' (fun r e=>(hrow r e).2) hl rfl).trans hl,(grownBy_keeps hg' (fun r e=>(hrow r e).2) hd rfl).trans hd⟩
  obtain⟨h1,o,h2,h3⟩:=hrow r e
  exact⟨by omega,o,h2,Obj.not_cells_of_walk h3⟩
 ·rintro k A B ⟨⟨x,ρx,hx,ho⟩,hl,hd⟩ ht
  exact⟨⟨x,ρx,hx,ho.turn hEM hEw hEH ht⟩,(ht.same _ hE1).trans hl,(ht.same _ hE2).trans hd⟩
 ·rintro A B ⟨c,⟨z,ρx,hx,ho⟩,hl,hd⟩ ht
  exact⟨c,⟨z,ρx,hx,ho.turn hEM hEw hEH ht⟩,(ht.same _ hE1).trans hl,(ht.same _ hE2).trans hd⟩
 ·rintro k W ⟨⟨x,ρx,hx,ho⟩,hl,hd⟩ hkN
  obtain⟨s1,v,cs,hv1,hv2,hv3,hv4,hs1,hJ⟩:=hround k hkN x hx
  have hlt:w.heap.size+1<W.heap.size:=(Array.getElem?_eq_some_iff.1 hl).1
  have hen:=henc k hkN
  have hdat:=hdata _ (List.getElem_mem hkN)
  have hes:(enc k).size=ps.size:=by have:=hen.length;rw[hdat.1] at this;simpa using this.symm
  have hy:=run_yield (P:=X.P) (args:=enc k) hl (by rw[hrec];exact hes)
  rw[hrec] at hy

  obtain⟨W2,hW2⟩:∃ W2,W.putObj (w.heap.size+1) (.loop {rec .ready none with state:= .busy})=W2:=⟨_,rfl⟩
  have hl2:W2.heap[w.heap.size+1]? =some (.loop {rec .ready none with state:= .busy}):=by rw[<- hW2];exact World.putObj_heap_same hlt
  have hd2:W2.heap[w.heap.size]? =some (.deferred (some [])):=by rw[<- hW2];exact(World.putObj_heap_other (by omega)).trans hd
  have ho2:ep X a w H E (f k x) W2 ρx:=by
   rw[<- hW2]
   exact ho.abide hw0 (grownBy_putObj' _ _ _) (fun r e=>by cases e;exact⟨by omega,_,hl,rfl⟩)

  have hzip:(ps.zip (enc k)).toList=ps.toList.zip (enc k).toList:=Array.toList_zip
  have hfold:(ps.zip (enc k)).foldl (fun(t:Array Value) (p:Nat×Value)=>t.setIfInBounds p.1 p.2) a.tmps=(ps.toList.zip (enc k).toList).foldl (fun(t:Array Value) (p:Nat×Value)=>t.setIfInBounds p.1 p.2) a.tmps:=by
   rw[<- Array.foldl_toList,hzip]
  obtain⟨act0,hact0⟩:∃ act0:Act,act0={tmps:=(ps.toList.zip (enc k).toList).foldl (fun(t:Array Value) (p:Nat×Value)=>t.setIfInBounds p.1 p.2) a.tmps,defers:= []}:=⟨_,rfl⟩
  have hfitA:Fits (XE X E) (f k x) {a with defers:= []} W2 ρx:=⟨ho2.fits.env,ho2.fits.own,ho2.fits.io,ho2.fits.apart⟩
  have hHsub:∀ b,b<w.heap.size->hot (XE X E).O ρx (f k x).own b->(hot X.O (cJ ρ s.own) (f 0 x₀).own b∨E b):=by
   rintro b hb ((h1|h1)|⟨p,hp,hpb⟩)
   ·exact .inl (.inl h1)
   ·exact .inr h1
   ·rcases ho2.own p hp b hpb with h2|h2
    ·omega
    ·exact .inl (hHX b h2)
  have hvals:bz (aT (hot (XE X E).O ρx (f k x).own) W2 ρx) ((ps.toList.zip (items[k])).map Prod.snd) (enc k).toList:=by
   have e:(ps.toList.zip (items[k])).map Prod.snd=items[k]:=List.map_snd_zip (by have:=hdat.1;simp;omega)
   rw[e]
   refine hen.imp (fun y v hy h=> ?_)
   have hz:=List.all_eq_true.1 hdat.2 y hy
   refine aX hHsub (fun b hb hc=>ho2.stays b (fun e=>hb (e.imp (hHX b) id)) hc) (fun id hid=> ?_) h
   cases y<;>simp_all [LV.isZ,LV.isOf]
  have hszA:a.tmps.size=X.T.N:=hst.size
  have e1:(ps.toList.zip (items[k])).map Prod.fst=ps.toList:=List.map_fst_zip (by have:=hdat.1;simp;omega)
  obtain⟨actP,hactP,hfitP,hszP⟩:=ng (ps.toList.zip (items[k])) (enc k).toList hfitA rfl hszA (fun p hp=>by
   have:=List.all_eq_true.1 hps p.1 (List.of_mem_zip hp).1
   simpa using this) hvals
  rw[e1] at hactP
  have hP0:actP=act0:=by rw[hactP,hact0]
  rw[hP0] at hfitP hszP
  have hpv:aZ (dO (f k x) (ps.toList.zip items[k])) (.tmp pv)=some v:=hv1
  have hcells:=AV.cells_ok hv2 (bX hfitP hpv)
  obtain⟨Wb,hWb1,hWb2,hWb3,hWb4,hexec⟩:=Kw (X:=X) (r:=some (w.heap.size+1)) (n:=0) assign hasg hTb act0 W (by rw[hszP];exact hdN) (by rw[<- hcells.length];exact hv3) (w7 hcells)
  refine⟨fn,_,assign,body,hy,roundIn_of_wpIn (F:=fw none) trivial ?_⟩
  rw[hfold,<- hact0]
  refine hexec ⟨_,run_beginRound ((hWb1 _ (Array.getElem?_eq_some_iff.1 hl).1).trans hl) (by rw[hrec]),?_⟩
  have hW2s:W2.heap.size=W.heap.size:=by rw[<- hW2];simp[World.putObj]
  obtain⟨W2b,hW2b⟩:∃ W2b,Wb.putObj (w.heap.size+1) (.loop {rec .ready none with state:= .busy})=W2b:=⟨_,rfl⟩
  rw[hW2b]
  have hkb:∀ k,k<W2.heap.size->W2b.heap[k]? =W2.heap[k]? :=by
   intro k hk
   rw[<- hW2b,<- hW2]
   by_cases e:k=w.heap.size+1
   ·subst e;rw[World.putObj_heap_same (by omega),World.putObj_heap_same hlt]
   ·rw[World.putObj_heap_other e,World.putObj_heap_other e,hWb1 k (by omega)]
  have hnb:W2b.heap[W2.heap.size]? =some (.cells ((act0.eval (.tmp pv)).cells.toList).toArray TB (0,0)):=by
   rw[<- hW2b,hW2s,World.putObj_heap_other (by omega)];exact hWb2
  have hbelb:∀ M:Nat->Prop,Bel M W2 W2b:=fun M=>by
   have e1:W2b.os=W2.os:=by rw[<- hW2b,<- hW2];exact hWb4.1
   have e2:W2b.tape=W2.tape:=by rw[<- hW2b,<- hW2];exact hWb4.2.1
   have e3:W2b.output=W2.output:=by rw[<- hW2b,<- hW2];exact hWb4.2.2
   exact⟨e1,e2,e3,by rw[<- hW2b];simp only[World.putObj,Array.size_setIfInBounds];omega,fun k hk _=>hkb k hk⟩
  have hdB:d<ioB:=Nat.lt_of_lt_of_le hdN hst.small.n
  obtain⟨ρn,hρd,hρo,hfit1⟩:=Fits.freshO hfitP hdB (w':=W2b) (obj:= .box TB cs) (val:= .pointer (some ⟨W2.heap.size,0,none⟩)) hkb (fun b hb=>by simp[Blk] at hb;omega)
   (fun H' ρ' hh hs hρ hρd=>⟨W2.heap.size,(act0.eval (.tmp pv)).cells.toList,hρd, .inl (by have:=ho2.bel.size;exact this),hnb,bz.kill hh hs hρ (fun c hc=>by have:=List.all_eq_true.1 hv4 c hc;simpa using this) hcells⟩)
  have hfit1:=hfit1.put (d:=d) (by rw[hszP];exact hdN) (v:= .l (.ownP d 0)) (val:= .pointer (some ⟨W2.heap.size,0,none⟩)) ⟨W2.heap.size,hρd,rfl⟩
  have hs1':s1={env:=(d, .l (.ownP d 0))::del (bQ (LV.kill d) (dO (f k x) (ps.toList.zip items[k])).env) d,own:=(d, .box TB cs)::bo (LV.kill d) (del (dO (f k x) (ps.toList.zip items[k])).own d)}:=hs1
  rw[hW2s] at hfit1
  have hkA:∀ t∈ks,(act0.put (some d) (.pointer (some ⟨W.heap.size,0,none⟩))).tmps.getD t undef=a.tmps.getD t undef:=fun t ht=>hkeptA k act0 (by rw[hact0]) t ht _
  have hst1:St {XE X E with T:={X.T with keep:=ks},I:=fun b=>∃ p∈(f k x).own,Blk (ρx p.1) b,w0:=W2,r:=some (w.heap.size+1),tm:=fun t=>(act0.put (some d) (.pointer (some ⟨W.heap.size,0,none⟩))).tmps.getD t undef} s1 (act0.put (some d) (.pointer (some ⟨W.heap.size,0,none⟩))) W2b:=by
   refine⟨?_,fun _ _=>rfl,by rw[Act.size_put];exact hszP,hbelb _,fun b hb hm=> ?_,⟨hst.small.n,?_,fun b hb=> ?_⟩,ρn,by rw[hs1'];exact hfit1.env,fun p hp=> ?_,by rw[hs1'];exact hfit1.io,by rw[hs1'];exact hfit1.apart⟩
   ·rw[Act.defers_put,hact0];exact Marks.nil _ _
   ·rcases hb with hb|hb
    ·rcases hm with hm|⟨p,hp,hpb⟩
     ·have h1:=hst.others b hb
      have h2:b<X.w0.heap.size:=by
       by_cases h3:b<X.w0.heap.size
       ·exact h3
       ·exact absurd (.inl (by omega)) h1
      have:=ho2.bel.size
      simp only at hm;omega
     ·exact hst.others b hb ((ho2.fits.own p hp).lt hpb).1
    ·obtain⟨o,ho,_⟩:=hEw b hb
     have h2:=(Array.getElem?_eq_some_iff.1 ho).1
     rcases hm with hm|⟨p,hp,hpb⟩
     ·have:=ho2.keeps.size
      simp only at hm;omega
     ·rcases ho2.own p hp b hpb with h1|h1
      ·omega
      ·exact hEH b hb h1
   ·have h1:=hst.small.on
    refine⟨Nat.le_trans h1.1 ho2.bel.size,fun b hb=> ?_⟩
    rw[<- h1.2 b hb]
    refine ho2.bel.block b (Nat.lt_of_lt_of_le hb h1.1) ?_
    rintro(hm|hm)
    ·have:=h1.1;simp only at hb;omega
    ·have:=hst.small.io b hm;simp only at hb;omega
   ·obtain⟨p,hp,hpb⟩:=hb
    rcases ((ho2.fits.own p hp).lt hpb).1 with h1|h1
    ·exact Nat.le_trans hst.small.on.1 h1
    ·exact hst.small.io b h1
   ·have hq:∀ (l:List (Nat×LV)) (s:aa),(dO s l).own=s.own:=by
     intro l;induction l with
     |nil=>intro s;rfl
     |cons q l ih=>intro s;exact ih _
    rw[hs1'] at hp
    have hp':p∈(d,aN.box TB cs)::bo (LV.kill d) (del (dO (f k x) (ps.toList.zip items[k])).own d):=hp
    have h5:=(hfit1.own p hp').moved (H':=hot (XE X E).O ρn s1.own) (ρ':=ρn) (k:=p.1) (f:=id) (M':=Cx.M {XE X E with T:={X.T with keep:=ks},I:=fun b=>∃ p∈(f k x).own,Blk (ρx p.1) b,w0:=W2,r:=some (w.heap.size+1),tm:=fun t=>(act0.put (some d) (.pointer (some ⟨W.heap.size,0,none⟩))).tmps.getD t undef}) (fun b _ h=>by rw[hs1'] at h;exact h) (fun x v hx=>aX (fun b _ h=>by rw[hs1'] at h;exact h) (bh.refl _ _) (fun _ _=>rfl) hx) rfl (fun b hb=>by
     rcases List.mem_cons.1 hp' with rfl|hp2
     ·simp only[hρd] at hb;simp[Blk] at hb;exact .inl (by simp only;omega)
     ·obtain⟨u,g1,_⟩:=bn hp2
      have g2:=bJ.1 g1
      rw[hρo _ g2.2] at hb
      exact .inr ⟨(p.1,u),by rw[<- hq];exact g2.1,hb⟩)
    rw[aN.map_id] at h5
    exact h5
  have hw:=hJ {XE X E with T:={X.T with keep:=ks},I:=fun b=>∃ p∈(f k x).own,Blk (ρx p.1) b,w0:=W2,r:=some (w.heap.size+1),tm:=fun t=>(act0.put (some d) (.pointer (some ⟨W.heap.size,0,none⟩))).tmps.getD t undef} rfl rfl _ _ hst1
  refine CB (n:=2) (Code.wpIn_mono (fun e a3 W3 hp=> ?_) hw)
  obtain⟨s3,hK3,hst3⟩:=hp
  have fin:∀ (jump:Option Code) (z:aa),z.env.all (fun e=>ks.contains e.1)=true->le s3 z->∃ ρz,ep X a w H E z (W3.putObj (w.heap.size+1) (.loop (rec (if jump.isNone then .ready else .done) jump))) ρz/\
    (Instr.endRound (w.heap.size+1) jump).run X.P W3= .ok (.bool jump.isNone) (W3.putObj (w.heap.size+1) (.loop (rec (if jump.isNone then .ready else .done) jump)))/\
    (W3.putObj (w.heap.size+1) (.loop (rec (if jump.isNone then .ready else .done) jump))).heap[w.heap.size+1]? =some (.loop (rec (if jump.isNone then .ready else .done) jump))/\
    (W3.putObj (w.heap.size+1) (.loop (rec (if jump.isNone then .ready else .done) jump))).heap[w.heap.size]? =some (.deferred (some []))/\
    xL H w.heap.size W (W3.putObj (w.heap.size+1) (.loop (rec (if jump.isNone then .ready else .done) jump))):=by
   intro jump z hz hle
   obtain⟨ρz,h1,h2,h3⟩:=ho2.back hkA hz hle hst3
   have hl3:=h2.same _ _ hl2 rfl
   have hd3:=h2.same _ _ hd2 rfl
   have he:=run_endRound (P:=X.P) jump hl3
   rw[hrec] at he ⊢
   refine⟨ρz,h1.abide hw0 (grownBy_putObj' _ _ _) (fun r e=>by cases e;exact⟨by omega,_,hl3,rfl⟩),he,World.putObj_heap_same (Array.getElem?_eq_some_iff.1 hl3).1,(World.putObj_heap_other (by omega)).trans hd3,fun b hb hnH hc=> ?_⟩
   have e1:W2.heap[b]? =W.heap[b]? :=by rw[<- hW2];exact World.putObj_heap_other (by omega)
   rw[World.putObj_heap_other (by omega),h3 b hb hnH (by rw[e1];exact hc),e1]
  cases e with
  |normal=>
   obtain⟨y,hle,hy'⟩:=hK3
   obtain⟨ρz,h1,h2,h3,h4,h5⟩:=fin none _ (hks (k+1) y) hle
   exact⟨_,_,h2, .inl ⟨rfl,⟨⟨y,ρz,hy',h1⟩,h3,h4⟩,h5⟩⟩
  |ret=>
   obtain⟨z,hle,hz,hk3⟩:=hK3
   obtain⟨ρz,h1,h2,h3,h4,h5⟩:=fin (some .ret) _ hz hle
   exact⟨_,_,h2, .inr ⟨rfl, .ret,⟨z,ρz,hk3,h1⟩,h3,h4⟩⟩
  |exit i=>
   obtain⟨z,hle,hz,hk3⟩:=hK3
   obtain⟨ρz,h1,h2,h3,h4,h5⟩:=fin (some (.exit i)) _ hz hle
   exact⟨_,_,h2, .inr ⟨rfl, .exit i,⟨z,ρz,hk3,h1⟩,h3,h4⟩⟩
  |goto t=>exact hK3.elim
  |panic ch=>exact hK3.elim
  |outgrown=>exact hK3.elim
 ·rintro e W2 ⟨⟨v,rfl⟩,(⟨⟨x,ρx,hx,ho⟩,hl,hd⟩|⟨c,⟨z,ρz,hj,ho⟩,hl,hd⟩)⟩
  ·have he:=run_endLoop (P:=X.P) hl (by rw[hrec];simp)
   rw[hrec] at he
   refine⟨none,_,he,_,hdone x hx,(ho.abide hw0 (grownBy_putObj' _ _ _) (fun r e=>by cases e;exact⟨by omega,_,hl,rfl⟩)).st hst ((World.putObj_heap_other (by omega)).trans hd)⟩
  ·have he:=run_endLoop (P:=X.P) hl (by rw[hrec];simp)
   rw[hrec] at he
   refine⟨some c,_,he,?_⟩
   cases c with
   |ret=>exact wpIn_ret ⟨z,hj,(ho.abide hw0 (grownBy_putObj' _ _ _) (fun r e=>by cases e;exact⟨by omega,_,hl,rfl⟩)).st hst ((World.putObj_heap_other (by omega)).trans hd)⟩
   |exit i=>exact wpIn_exit ⟨z,hj,(ho.abide hw0 (grownBy_putObj' _ _ _) (fun r e=>by cases e;exact⟨by omega,_,hl,rfl⟩)).st hst ((World.putObj_heap_other (by omega)).trans hd)⟩
   |_=>exact hj.elim
theorem vo{X:Cx}(hr:X.r=none){s:aa}{K:Exit->aa->Prop}{g:Operand}{ps:Array Tmp}{assign body:Code}{gf:FuncId}{caps:List CV}
  (hg:aZ s g=some (.l (.fn gf caps))) (hcap:caps.all CV.pure=true) {items:List (List LV)} (hseq:mq X.P gf ps.size caps items) {d pv:Nat} {TB:TypeId} {ub:Ty} (hasg:vn assign=some (d,TB,pv)) (hTb:cS X.P TB ub) (hdN:d<X.T.N) (ks:List Nat)
  (hk1:ks.all (fun t=> !ps.toList.contains t&&t !=d)=true) (hps:ps.toList.all (fun t=>decide (t<X.T.N))=true)
  {ι:Type} (f:Nat->ι->aa) (Φ:Nat->ι->Prop) (x₀:ι) (h₀:le s (f 0 x₀)) (hΦ:Φ 0 x₀) (hks:∀ k x,(f k x).env.all (fun e=>ks.contains e.1)=true)
  (hround:∀ k (hk:k<items.length) (x:ι),Φ k x->∃ s1 v cs,aZ (dO (f k x) (ps.toList.zip items[k])) (.tmp pv)=some v/\v.cells=some cs/\cs.length=ub.w/\cs.all (fun c=> !c.isOf d)=true/\s1={env:=(d, .l (.ownP d 0))::del ((dO (f k x) (ps.toList.zip items[k])).kill d).env d,own:=(d, .box TB cs)::((dO (f k x) (ps.toList.zip items[k])).kill d).own}/\
   ∀ X':Cx,X'.P=X.P->X'.T={X.T with keep:=ks}->J X' body s1 (vL f Φ ks K k))
  (hdone:∀ x,Φ items.length x->K .normal (f items.length x)):J X (.rangeFunc g ps assign body) s K:=
 GE hr hseq.enters hseq.data hasg hTb hdN ks hk1 hps f Φ x₀ h₀ (fun a w ρ _ hf hlt=>by
  obtain⟨lb,hlb1,hlb2⟩:aT (hot X.O ρ s.own) w ρ (.fn gf caps) (a.eval g):=bX hf hg
  obtain⟨enc,h1,h2⟩:=hseq.seq _ w lb hlt (iy hcap (fun b hb=>lQ h₀ hb) hlb2)
  exact⟨lb,fun _=>False,hlb1,fun b hb=>hb.elim,enc,fun k hk=>(h1 k hk).imp (fun x v hx h=>aX (H:=hot X.O (cJ ρ s.own) (f 0 x₀).own) (fun b _ hb=>hb.elim id (fun e=>e.elim)) (bh.refl _ _) (fun _ _=>rfl) h),h2.kp (fun A B hk b hb hn hc=>hk b hb (fun e=>hn (e.elim False.elim .inr)) hc)⟩) hΦ hks hround hdone
end Go.Cm
end
section
namespace Go.Proofs.YtdojbabpnaifoaaGreatDoor
open Go Go.Cm Go.Proofs
def pZ(B:aj):Tab:={types:= [(79,(.slice (.st (.pair (.st (.pair .bool (.slice (.int .u32)))) (.st (.pair .bool (.slice (.int .u32))))))))],elems:= [],cons:= [],hint:= [],N:=4,base:=B}
theorem zJ{B:aj}(hB:aC B):aH Tryz.prog (pZ B):=⟨⟨tc fA (ae),af,by simp only[pZ,ioB];omega⟩,bL rfl,by kernel_rfl⟩
def nU:Con:=fun l os=>match l,os with
 | [.z (.slice (.st (.pair (.st (.pair .bool (.slice (.int .u32)))) (.st (.pair .bool (.slice (.int .u32))))))) xs], []=>some (True, [.fn 125 [.z (.ptr (.slice (.st (.pair (.st (.pair .bool (.slice (.int .u32)))) (.st (.pair .bool (.slice (.int .u32)))))))) xs]], [])
 |_,_=>none
theorem vp{B:aj}(hB:aC B):Valid B Tryz.prog 83 nU:=by
 refine ab (zJ hB).tab Tryz.func83 rfl rfl rfl ?_
 intro args os C rs os' hc hC
 unfold nU at hc
 split at hc
 case h_2=>cases hc
 rename_i xs
 cases hc
 refine v_h (zJ hB) fun X hP hT hr hG=> ?_
 have hU:=pZ.eq_1
 unfold pZ at hT
 have hX:=Bool.not_true
 simp only[Tryz.f83,aD,al,ioB]
 refine s_g hG ?_
 refine s_g hG ?_
 refine az ?_
 refine q_e [] ?_
 rfl
def gK(B:aj):Tab:={types:= [(79,(.slice (.st (.pair (.st (.pair .bool (.slice (.int .u32)))) (.st (.pair .bool (.slice (.int .u32)))))))),(91,(.st (.pair (.st (.pair .bool (.slice (.int .u32)))) (.st (.pair .bool (.slice (.int .u32)))))))],elems:= [],cons:= [(58,lJ),(83,nU),(105,dX),(113,dY)],hint:= [],N:=19,base:=B}
theorem zK{B:aj}(hB:aC B):aH Tryz.prog (gK B):=⟨⟨tc fA (tc ty91 (ae)),af,by simp only[gK,ioB];omega⟩,aF (cc Tryz.func58 (k8 hB) (cc Tryz.func83 (vp hB) (cc Tryz.func105 (k9 hB) (cc Tryz.func113 (ld hB) (ay))))),by kernel_rfl⟩
def ED:Con:=fun l os=>match l,os with
 | [.z (.slice (.st (.pair (.st (.pair .bool (.slice (.int .u32)))) (.st (.pair .bool (.slice (.int .u32))))))) p, .z (.st (.pair (.st (.pair .bool (.slice (.int .u32)))) (.st (.pair .bool (.slice (.int .u32)))))) x], []=>some (Sz QM p/\p.length<=100/\NOK x/\lq (bA x)<=QM, [.z (.st (.pair (.st (.pair .bool (.slice (.int .u32)))) (.st (.pair .bool (.slice (.int .u32)))))) (bk (aQ (an p) (bA x)))], [])
 |_,_=>none
theorem GF{B:aj}(hB:aC B):Valid B Tryz.prog 89 ED:=by
 refine ab (zK hB).tab Tryz.func89 rfl rfl rfl ?_
 intro args os C rs os' hc hC
 unfold ED at hc
 split at hc
 case h_2=>cases hc
 rename_i p x
 cases hc
 refine v_h (zK hB) fun X hP hT hr hG=> ?_
 have hU:=gK.eq_1
 unfold gK at hT
 have hX:=ai @nU.eq_1<|ai @lJ.eq_1<|ai @dX.eq_1<| @dY.eq_1
 simp only[Tryz.f89,aD,al,ioB]
 have hl:p.length<=100:=hC.2.1
 refine s_g hG ?_
 refine s_g hG ?_
 refine ak ?_
 refine s_g hG ?_
 refine au ?_
 refine vo hr (gf:=125) (caps:= [.z (.ptr (.slice (.st (.pair (.st (.pair .bool (.slice (.int .u32)))) (.st (.pair .bool (.slice (.int .u32)))))))) p]) (items:=bS p) (by simp only[hT,gK,mx0,mx1,mx2,mx3,mx4,mx5,mx6,aU,bm,bF,aY,bl,Ty.fieldTy,Ty.fieldOf,Nat.reduceLT,Nat.reduceEqDiff,Nat.reduceAdd,Nat.reduceMul,Nat.reduceSub,Nat.reduceLeDiff,Nat.reduceBEq,Nat.reduceBNe,reduceIte,reduceDIte,reduceCtorEq];try rfl) (by rfl) (by rw[hP];exact uv p) (by rfl) (ub:=(.st (.pair (.st (.pair .bool (.slice (.int .u32)))) (.st (.pair .bool (.slice (.int .u32))))))) (by rw[hP];exact ty91) (by simp only[hT,gK];omega) [3,4,5] (by rfl) (by simp only[hT,gK];try rfl) (fun(k:Nat) (z:Rat)=>(⟨[(3, .l (.z (.ptr (.st (.pair (.st (.pair .bool (.slice (.int .u32)))) (.st (.pair .bool (.slice (.int .u32))))))) x)),(4, .l (.ownP 4 0)),(5, .l (.ownP 5 0))], [(4, .box 91 [.z .bool false, .val (.slice none 0 0), .z .bool false, .val (.slice none 0 0)]),(5, .box 91 [.z .bool (bk z).1.1, .z (.slice (.int .u32)) (bk z).1.2, .z .bool (bk z).2.1, .z (.slice (.int .u32)) (bk z).2.2])]⟩:aa)) (fun(k:Nat) (z:Rat)=>z=aQ ((an p).drop (p.length-k)) (bA x)) 0 ?_ ?_ ?_ ?_ ?_
 ·simp only[ml0,ml1,Nat.reduceLT,Nat.reduceEqDiff,Nat.reduceAdd,Nat.reduceMul,Nat.reduceSub,Nat.reduceLeDiff,Nat.reduceBEq,Nat.reduceBNe,reduceIte,reduceDIte,reduceCtorEq]
 ·exact BE p (bA x)
 ·intro k z;rfl
 ·intro k hk
  rintro v hz
  try dsimp only at hz
  have hk:k<p.length:=by simpa [bS] using hk
  have hg:=yz hC.1 (yA hk)
  have hv:=FR hC hk hz
  refine⟨_,_,_,by simp only[hT,gK,bS,jg,mx0,mx1,mx2,mx3,mx4,mx5,mx6,aU,bm,bF,aY,bl,Ty.fieldTy,Ty.fieldOf,Nat.reduceLT,Nat.reduceEqDiff,Nat.reduceAdd,Nat.reduceMul,Nat.reduceSub,Nat.reduceLeDiff,Nat.reduceBEq,Nat.reduceBNe,reduceIte,reduceDIte,reduceCtorEq,List.getElem_map,List.getElem_range];rfl,by simp only[mx0,mx1,mx2,mx3,mx4,mx5,mx6,aU,bm,bF,aY,bl,Ty.fieldTy,Ty.fieldOf,Nat.reduceLT,Nat.reduceEqDiff,Nat.reduceAdd,Nat.reduceMul,Nat.reduceSub,Nat.reduceLeDiff,Nat.reduceBEq,Nat.reduceBNe,reduceIte,reduceDIte,reduceCtorEq];rfl,by rfl,by simp only[mx0,mx1,mx2,mx3,mx4,mx5,mx6,aU,bm,bF,aY,bl,Ty.fieldTy,Ty.fieldOf,Nat.reduceLT,Nat.reduceEqDiff,Nat.reduceAdd,Nat.reduceMul,Nat.reduceSub,Nat.reduceLeDiff,Nat.reduceBEq,Nat.reduceBNe,reduceIte,reduceDIte,reduceCtorEq]<;>rfl,by simp only[hT,gK,bS,jg,mx0,mx1,mx2,mx3,mx4,mx5,mx6,aU,bm,bF,aY,bl,Ty.fieldTy,Ty.fieldOf,Nat.reduceLT,Nat.reduceEqDiff,Nat.reduceAdd,Nat.reduceMul,Nat.reduceSub,Nat.reduceLeDiff,Nat.reduceBEq,Nat.reduceBNe,reduceIte,reduceDIte,reduceCtorEq,List.getElem_map,List.getElem_range];rfl,?_⟩
  intro X' hP' hT'
  have hG':aH X'.P X'.T:=by rw[hP',hT'];exact hG.keep _
  rw[hT] at hT'
  refine au ?_
  refine CD hG' ?_ ?_
  ·try simp only[ba]
   simp only[pe2,hg,aM]
   exact hv
  refine aP ?_
  show ∃ z,_
  simp only[ml0,ml1,Nat.reduceLT,Nat.reduceEqDiff,Nat.reduceAdd,Nat.reduceMul,Nat.reduceSub,Nat.reduceLeDiff,Nat.reduceBEq,Nat.reduceBNe,reduceIte,reduceDIte,reduceCtorEq]
  simp only[pe2,hg,aM]
  exact⟨_,rfl,rfl,rfl,rfl,by rw[hz,BF hk]⟩
 ·rintro v hz
  try dsimp only at hz
  rw[I2] at hz
  refine aP ?_
  refine ah ?_
  refine s_g hG ?_
  refine az ?_
  refine q_e [] ?_
  rw[hz]
def p6(B:aj):Tab:={types:= [(3,(.int .i64)),(79,(.slice (.st (.pair (.st (.pair .bool (.slice (.int .u32)))) (.st (.pair .bool (.slice (.int .u32)))))))),(91,(.st (.pair (.st (.pair .bool (.slice (.int .u32)))) (.st (.pair .bool (.slice (.int .u32)))))))],elems:= [(79,91)],cons:= [(58,lJ),(82,iT),(107,vh)],hint:= [26],N:=31,base:=B}
theorem zL{B:aj}(hB:aC B):aH Tryz.prog (p6 B):=⟨⟨tc ty3 (tc fA (tc ty91 (ae))),aS (by kernel_rfl) (af),by simp only[p6,ioB];omega⟩,aF (cc Tryz.func58 (k8 hB) (cc Tryz.func82 (il hB) (cc Tryz.func107 (vi hB) (ay)))),by kernel_rfl⟩
def Kx:Con:=fun l os=>match l,os with
 | [.z (.slice (.st (.pair (.st (.pair .bool (.slice (.int .u32)))) (.st (.pair .bool (.slice (.int .u32))))))) p, .z (.slice (.st (.pair (.st (.pair .bool (.slice (.int .u32)))) (.st (.pair .bool (.slice (.int .u32))))))) q, .val (.func (.func g) fs cs)], []=>some ((g=58/\fs.size=0/\cs.size=0)/\Sz QH p/\Sz QH q/\p.length<=1000/\q.length<=1000, [.z (.slice (.st (.pair (.st (.pair .bool (.slice (.int .u32)))) (.st (.pair .bool (.slice (.int .u32))))))) (aG (bH (· + ·) (an p) (an q)))], [])
 |_,_=>none
theorem GG{B:aj}(hB:aC B):Valid B Tryz.prog 57 Kx:=by
 refine ab (zL hB).tab Tryz.func57 rfl rfl rfl ?_
 intro args os C rs os' hc hC
 unfold Kx at hc
 split at hc
 case h_2=>cases hc
 rename_i p q g fs cs
 cases hc
 refine v_h (zL hB) fun X hP hT hr hG=> ?_
 have hU:=p6.eq_1
 unfold p6 at hT
 have hX:=ai @vh.eq_1<|ai @lJ.eq_1<| @iT.eq_1
 simp only[Tryz.f57,aD,al,ioB]
 obtain⟨⟨rfl,e1,e2⟩,hp,hq,hl1,hl2⟩:=hC
 obtain rfl:=Array.eq_empty_of_size_eq_zero e1
 obtain rfl:=Array.eq_empty_of_size_eq_zero e2
 have hl1:p.length<=1000:=hl1
 have hl2:q.length<=1000:=hl2
 refine s_g hG ?_
 refine s_g hG ?_
 refine ak ?_
 refine s_g hG ?_
 refine au ?_
 refine br (fun(z:Nat)=>(⟨[(0, .l (.z (.slice (.st (.pair (.st (.pair .bool (.slice (.int .u32)))) (.st (.pair .bool (.slice (.int .u32))))))) p)),(1, .l (.z (.slice (.st (.pair (.st (.pair .bool (.slice (.int .u32)))) (.st (.pair .bool (.slice (.int .u32))))))) q)),(2, .l (.val (.func (.func 58) #[] #[]))),(7, .l (.ownS 27)),(13, .l (.z (.int .i64) ((max p.length q.length:Nat):Int))),(14, .l (.z (.int .i64) (z:Int)))], [(27, .arr (.st (.pair (.st (.pair .bool (.slice (.int .u32)))) (.st (.pair .bool (.slice (.int .u32)))))) 91 (aG (bK (· + ·) (an p) (an q) z)))]⟩:aa)) (fun z=>z<=max p.length q.length) (fun z=>max p.length q.length-z) 0 ?_ ?_ ?_
 ·refine q_l ?_
  exact⟨C6 p q trivial,rfl,by unfold ioB;omega,rfl⟩
 ·omega
 ·rintro k g1
  try dsimp only at g1
  refine s_g hG ?_
  refine ak ?_
  refine aq ?_ ?_
  ·intro hb0
   try simp only[bt] at hb0
   refine ar ?_
   refine ah ?_
   refine ak ?_
   refine au ?_
   refine s_g hG ?_
   refine ag hG ?_ ?_
   ·try simp only[ba]
    exact uk hp hq (by omega) _
   refine aP ?_
   refine ah ?_
   refine ag hG ?_ ?_
   ·first|trivial|omega|(simp;done)|(simp;omega)
   show ∃ z,_
   refine q_l ?_
   exact sl (op:=(· + ·)) (by omega) (by omega)
  ·intro hb0
   try simp only[bf] at hb0
   refine bg ?_
   refine aE ?_
   refine ax ?_
   refine aw ?_
   refine ah ?_
   refine s_q hG ?_ ?_
   ·try simp only[ba]
    exact sn yr hp hq (by omega)
   refine az ?_
   refine q_e [] ?_
   exact yu g1 hb0
def p7(B:aj):Tab:={types:= [(3,(.int .i64)),(79,(.slice (.st (.pair (.st (.pair .bool (.slice (.int .u32)))) (.st (.pair .bool (.slice (.int .u32)))))))),(91,(.st (.pair (.st (.pair .bool (.slice (.int .u32)))) (.st (.pair .bool (.slice (.int .u32)))))))],elems:= [(79,91)],cons:= [(60,fe),(82,iT),(107,vh)],hint:= [26],N:=31,base:=B}
theorem zM{B:aj}(hB:aC B):aH Tryz.prog (p7 B):=⟨⟨tc ty3 (tc fA (tc ty91 (ae))),aS (by kernel_rfl) (af),by simp only[p7,ioB];omega⟩,aF (cc Tryz.func60 (uZ hB) (cc Tryz.func82 (il hB) (cc Tryz.func107 (vi hB) (ay)))),by kernel_rfl⟩
def Ky:Con:=fun l os=>match l,os with
 | [.z (.slice (.st (.pair (.st (.pair .bool (.slice (.int .u32)))) (.st (.pair .bool (.slice (.int .u32))))))) p, .z (.slice (.st (.pair (.st (.pair .bool (.slice (.int .u32)))) (.st (.pair .bool (.slice (.int .u32))))))) q, .val (.func (.func g) fs cs)], []=>some ((g=60/\fs.size=0/\cs.size=0)/\Sz QH p/\Sz QH q/\p.length<=1000/\q.length<=1000, [.z (.slice (.st (.pair (.st (.pair .bool (.slice (.int .u32)))) (.st (.pair .bool (.slice (.int .u32))))))) (aG (bH (· - ·) (an p) (an q)))], [])
 |_,_=>none
theorem GH{B:aj}(hB:aC B):Valid B Tryz.prog 57 Ky:=by
 refine ab (zM hB).tab Tryz.func57 rfl rfl rfl ?_
 intro args os C rs os' hc hC
 unfold Ky at hc
 split at hc
 case h_2=>cases hc
 rename_i p q g fs cs
 cases hc
 refine v_h (zM hB) fun X hP hT hr hG=> ?_
 have hU:=p7.eq_1
 unfold p7 at hT
 have hX:=ai @vh.eq_1<|ai @fe.eq_1<| @iT.eq_1
 simp only[Tryz.f57,aD,al,ioB]
 obtain⟨⟨rfl,e1,e2⟩,hp,hq,hl1,hl2⟩:=hC
 obtain rfl:=Array.eq_empty_of_size_eq_zero e1
 obtain rfl:=Array.eq_empty_of_size_eq_zero e2
 have hl1:p.length<=1000:=hl1
 have hl2:q.length<=1000:=hl2
 refine s_g hG ?_
 refine s_g hG ?_
 refine ak ?_
 refine s_g hG ?_
 refine au ?_
 refine br (fun(z:Nat)=>(⟨[(0, .l (.z (.slice (.st (.pair (.st (.pair .bool (.slice (.int .u32)))) (.st (.pair .bool (.slice (.int .u32))))))) p)),(1, .l (.z (.slice (.st (.pair (.st (.pair .bool (.slice (.int .u32)))) (.st (.pair .bool (.slice (.int .u32))))))) q)),(2, .l (.val (.func (.func 60) #[] #[]))),(7, .l (.ownS 27)),(13, .l (.z (.int .i64) ((max p.length q.length:Nat):Int))),(14, .l (.z (.int .i64) (z:Int)))], [(27, .arr (.st (.pair (.st (.pair .bool (.slice (.int .u32)))) (.st (.pair .bool (.slice (.int .u32)))))) 91 (aG (bK (· - ·) (an p) (an q) z)))]⟩:aa)) (fun z=>z<=max p.length q.length) (fun z=>max p.length q.length-z) 0 ?_ ?_ ?_
 ·refine q_l ?_
  exact⟨C6 p q trivial,rfl,by unfold ioB;omega,rfl⟩
 ·omega
 ·rintro k g1
  try dsimp only at g1
  refine s_g hG ?_
  refine ak ?_
  refine aq ?_ ?_
  ·intro hb0
   try simp only[bt] at hb0
   refine ar ?_
   refine ah ?_
   refine ak ?_
   refine au ?_
   refine s_g hG ?_
   refine ag hG ?_ ?_
   ·try simp only[ba]
    exact uk hp hq (by omega) _
   refine aP ?_
   refine ah ?_
   refine ag hG ?_ ?_
   ·first|trivial|omega|(simp;done)|(simp;omega)
   show ∃ z,_
   refine q_l ?_
   exact sl (op:=(· - ·)) (by omega) (by omega)
  ·intro hb0
   try simp only[bf] at hb0
   refine bg ?_
   refine aE ?_
   refine ax ?_
   refine aw ?_
   refine ah ?_
   refine s_q hG ?_ ?_
   ·try simp only[ba]
    exact sn yt hp hq (by omega)
   refine az ?_
   refine q_e [] ?_
   exact yu g1 hb0
def oN:Con:=fun l os=>match l,os with
 | [.z (.slice (.st (.pair (.st (.pair .bool (.slice (.int .u32)))) (.st (.pair .bool (.slice (.int .u32))))))) p, .z (.slice (.st (.pair (.st (.pair .bool (.slice (.int .u32)))) (.st (.pair .bool (.slice (.int .u32))))))) q, .val (.func (.func g) fs cs)], []=>some (((g=58∨g=60)/\fs.size=0/\cs.size=0)/\Sz QH p/\Sz QH q/\p.length<=1000/\q.length<=1000, [.z (.slice (.st (.pair (.st (.pair .bool (.slice (.int .u32)))) (.st (.pair .bool (.slice (.int .u32))))))) (aG (bH (if g=58 then (· + ·) else (· - ·)) (an p) (an q)))], [])
 |_,_=>none
theorem l9{B:aj}(hB:aC B):Valid B Tryz.prog 57 oN:=by
 intro args os C rs os' hc hC
 unfold oN at hc
 split at hc
 ·cases hc
  obtain⟨⟨rfl|rfl,e1,e2⟩,h3⟩:=hC
  ·exact GG hB _ _ _ _ _ rfl ⟨⟨rfl,e1,e2⟩,h3⟩
  ·exact GH hB _ _ _ _ _ rfl ⟨⟨rfl,e1,e2⟩,h3⟩
 ·cases hc
def p8(B:aj):Tab:={types:= [(79,(.slice (.st (.pair (.st (.pair .bool (.slice (.int .u32)))) (.st (.pair .bool (.slice (.int .u32)))))))),(84, .func),(91,(.st (.pair (.st (.pair .bool (.slice (.int .u32)))) (.st (.pair .bool (.slice (.int .u32)))))))],elems:= [(79,91)],cons:= [(57,oN),(61,nR),(82,iT)],hint:= [],N:=11,base:=B}
theorem zO{B:aj}(hB:aC B):aH Tryz.prog (p8 B):=⟨⟨tc fA (tc Np (tc ty91 (ae))),aS (by kernel_rfl) (af),by simp only[p8,ioB];omega⟩,aF (cc Tryz.func57 (l9 hB) (cc Tryz.func61 (vj hB) (cc Tryz.func82 (il hB) (ay)))),by kernel_rfl⟩
def EE:Con:=fun l os=>match l,os with
 | [.z (.st (.pair (.st (.pair .bool (.slice (.int .u32)))) (.st (.pair .bool (.slice (.int .u32)))))) c, .ownP 10000000 0, .z (.ptr (.slice (.st (.pair (.st (.pair .bool (.slice (.int .u32)))) (.st (.pair .bool (.slice (.int .u32)))))))) b], [.box 79 [.z (.slice (.st (.pair (.st (.pair .bool (.slice (.int .u32)))) (.st (.pair .bool (.slice (.int .u32))))))) s]]=>some (BG s b c, [], [.box 79 [.z (.slice (.st (.pair (.st (.pair .bool (.slice (.int .u32)))) (.st (.pair .bool (.slice (.int .u32))))))) (aG (sF (an s) (an b) (bA c)))]])
 |_,_=>none
theorem GI{B:aj}(hB:aC B):Valid B Tryz.prog 81 EE:=by
 refine ab (zO hB).tab Tryz.func81 rfl rfl rfl ?_
 intro args os C rs os' hc hC
 unfold EE at hc
 split at hc
 case h_2=>cases hc
 rename_i c b s
 cases hc
 refine v_h (zO hB) fun X hP hT hr hG=> ?_
 have hU:=p8.eq_1
 unfold p8 at hT
 have hX:=ai @nR.eq_1<|ai @iT.eq_1<| @oN.eq_1
 simp only[Tryz.f81,aD,al,ioB]
 refine s_g hG ?_
 refine gp hG ?_ ?_
 ·try simp only[ba]
  obtain⟨q1,q2,q3,q4,q5,q6⟩:=FS hC
  exact⟨q1,⟨q2.1,by unfold QL;omega⟩,Or.inl trivial,q3,q4,q5,q6⟩
 refine q_e [] ?_
 simp only[aI];rfl
def gL(B:aj):Tab:={types:= [(79,(.slice (.st (.pair (.st (.pair .bool (.slice (.int .u32)))) (.st (.pair .bool (.slice (.int .u32)))))))),(91,(.st (.pair (.st (.pair .bool (.slice (.int .u32)))) (.st (.pair .bool (.slice (.int .u32))))))),(109, .func)],elems:= [],cons:= [(81,EE),(83,nU)],hint:= [],N:=18,base:=B}
theorem zP{B:aj}(hB:aC B):aH Tryz.prog (gL B):=⟨⟨tc fA (tc ty91 (tc NX (ae))),af,by simp only[gL,ioB];omega⟩,aF (cc Tryz.func81 (GI hB) (cc Tryz.func83 (vp hB) (ay))),by kernel_rfl⟩
def mU:Con:=fun l os=>match l,os with
 | [.z (.slice (.st (.pair (.st (.pair .bool (.slice (.int .u32)))) (.st (.pair .bool (.slice (.int .u32))))))) p, .z (.slice (.st (.pair (.st (.pair .bool (.slice (.int .u32)))) (.st (.pair .bool (.slice (.int .u32))))))) b], []=>some (wg p b, [.z (.slice (.st (.pair (.st (.pair .bool (.slice (.int .u32)))) (.st (.pair .bool (.slice (.int .u32))))))) (aG (jR (an p) (an b)))], [])
 |_,_=>none
theorem GJ{B:aj}(hB:aC B):Valid B Tryz.prog 80 mU:=by
 refine ab (zP hB).tab Tryz.func80 rfl rfl rfl ?_
 intro args os C rs os' hc hC
 unfold mU at hc
 split at hc
 case h_2=>cases hc
 rename_i p b
 cases hc
 refine v_h (zP hB) fun X hP hT hr hG=> ?_
 have hU:=gL.eq_1
 unfold gL at hT
 have hX:=ai @EE.eq_1<| @nU.eq_1
 simp only[Tryz.f80,aD,al,ioB]
 refine s_g hG ?_
 refine s_g hG ?_
 refine s_g hG ?_
 refine ak ?_
 refine s_g hG ?_
 refine au ?_
 refine vo hr (gf:=125) (caps:= [.z (.ptr (.slice (.st (.pair (.st (.pair .bool (.slice (.int .u32)))) (.st (.pair .bool (.slice (.int .u32)))))))) p]) (items:=bS p) (by simp only[hT,gL,mx0,mx1,mx2,mx3,mx4,mx5,mx6,aU,bm,bF,aY,bl,Ty.fieldTy,Ty.fieldOf,Nat.reduceLT,Nat.reduceEqDiff,Nat.reduceAdd,Nat.reduceMul,Nat.reduceSub,Nat.reduceLeDiff,Nat.reduceBEq,Nat.reduceBNe,reduceIte,reduceDIte,reduceCtorEq];try rfl) (by rfl) (by rw[hP];exact uv p) (by rfl) (ub:=(.st (.pair (.st (.pair .bool (.slice (.int .u32)))) (.st (.pair .bool (.slice (.int .u32))))))) (by rw[hP];exact ty91) (by simp only[hT,gL];omega) [3,5,6] (by rfl) (by simp only[hT,gL];try rfl) (fun(k:Nat) (z:Unit)=>(⟨[(3, .l (.z (.ptr (.slice (.st (.pair (.st (.pair .bool (.slice (.int .u32)))) (.st (.pair .bool (.slice (.int .u32)))))))) b)),(5, .l (.ownP 5 0)),(6, .l (.ownP 6 0))], [(5, .box 79 [.z (.slice (.st (.pair (.st (.pair .bool (.slice (.int .u32)))) (.st (.pair .bool (.slice (.int .u32))))))) (aG (gy (an p) (an b) k))]),(6, .box 109 [.fn 81 [.p 5, .z (.ptr (.slice (.st (.pair (.st (.pair .bool (.slice (.int .u32)))) (.st (.pair .bool (.slice (.int .u32)))))))) b]])]⟩:aa)) (fun(k:Nat) (z:Unit)=>True) () ?_ ?_ ?_ ?_ ?_
 ·simp only[ml0,ml1,Nat.reduceLT,Nat.reduceEqDiff,Nat.reduceAdd,Nat.reduceMul,Nat.reduceSub,Nat.reduceLeDiff,Nat.reduceBEq,Nat.reduceBNe,reduceIte,reduceDIte,reduceCtorEq]
  simp only[fJ]
  rfl
 ·trivial
 ·intro k z;rfl
 ·intro k hk
  rintro⟨⟩-
  have hk:k<p.length:=by simpa [bS] using hk
  have hg:=yz hC.1 (yA hk)
  refine⟨_,_,_,by simp only[hT,gL,bS,jg,mx0,mx1,mx2,mx3,mx4,mx5,mx6,aU,bm,bF,aY,bl,Ty.fieldTy,Ty.fieldOf,Nat.reduceLT,Nat.reduceEqDiff,Nat.reduceAdd,Nat.reduceMul,Nat.reduceSub,Nat.reduceLeDiff,Nat.reduceBEq,Nat.reduceBNe,reduceIte,reduceDIte,reduceCtorEq,List.getElem_map,List.getElem_range];rfl,by simp only[mx0,mx1,mx2,mx3,mx4,mx5,mx6,aU,bm,bF,aY,bl,Ty.fieldTy,Ty.fieldOf,Nat.reduceLT,Nat.reduceEqDiff,Nat.reduceAdd,Nat.reduceMul,Nat.reduceSub,Nat.reduceLeDiff,Nat.reduceBEq,Nat.reduceBNe,reduceIte,reduceDIte,reduceCtorEq];rfl,by rfl,by simp only[mx0,mx1,mx2,mx3,mx4,mx5,mx6,aU,bm,bF,aY,bl,Ty.fieldTy,Ty.fieldOf,Nat.reduceLT,Nat.reduceEqDiff,Nat.reduceAdd,Nat.reduceMul,Nat.reduceSub,Nat.reduceLeDiff,Nat.reduceBEq,Nat.reduceBNe,reduceIte,reduceDIte,reduceCtorEq]<;>rfl,by simp only[hT,gL,bS,jg,mx0,mx1,mx2,mx3,mx4,mx5,mx6,aU,bm,bF,aY,bl,Ty.fieldTy,Ty.fieldOf,Nat.reduceLT,Nat.reduceEqDiff,Nat.reduceAdd,Nat.reduceMul,Nat.reduceSub,Nat.reduceLeDiff,Nat.reduceBEq,Nat.reduceBNe,reduceIte,reduceDIte,reduceCtorEq,List.getElem_map,List.getElem_range];rfl,?_⟩
  intro X' hP' hT'
  have hG':aH X'.P X'.T:=by rw[hP',hT'];exact hG.keep _
  rw[hT] at hT'
  refine au ?_
  refine nk hG' ?_ ?_
  ·try simp only[ba]
   simp only[pe2,hg]
   exact hC.2.2 k hk
  refine aP ?_
  show ∃ z,_
  simp only[ml0,ml1,Nat.reduceLT,Nat.reduceEqDiff,Nat.reduceAdd,Nat.reduceMul,Nat.reduceSub,Nat.reduceLeDiff,Nat.reduceBEq,Nat.reduceBNe,reduceIte,reduceDIte,reduceCtorEq]
  simp only[pe2,hg,aI,aM,gy,aK]
 ·rintro⟨⟩-
  rw[show (bS p).length=p.length by simp[bS]]
  refine aP ?_
  refine ah ?_
  refine s_g hG ?_
  refine az ?_
  refine q_e [] ?_
  rw[jR,aK]
def p9(B:aj):Tab:={types:= [(3,(.int .i64)),(22,(.slice .str)),(31,(.int .i64)),(46, .str)],elems:= [],cons:= [(87,lf),(106,EC)],hint:= [],N:=33,base:=B}
theorem zQ{B:aj}(hB:aC B):aH Tryz.prog (p9 B):=⟨⟨tc ty3 (tc gr (tc ll (tc mD (ae)))),af,by simp only[p9,ioB];omega⟩,aF (cc Tryz.func87 (vf hB) (cc Tryz.func106 (Gz hB) (ay))),by kernel_rfl⟩
def nV:Con:=fun l os=>match l,os with
 | [.z (.slice .str) p], []=>some (c6 p, [.z (.slice (.st (.pair (.st (.pair .bool (.slice (.int .u32)))) (.st (.pair .bool (.slice (.int .u32))))))) (aG (bc p)), .z (.int .i64) (cL p)], [])
 |_,_=>none
theorem vq{B:aj}(hB:aC B):Valid B Tryz.prog 54 nV:=by
 refine ab (zQ hB).tab Tryz.func54 rfl rfl rfl ?_
 intro args os C rs os' hc hC
 unfold nV at hc
 split at hc
 case h_2=>cases hc
 rename_i p
 cases hc
 refine v_h (zQ hB) fun X hP hT hr hG=> ?_
 have hU:=p9.eq_1
 unfold p9 at hT
 have hX:=ai @lf.eq_1<| @EC.eq_1
 simp only[Tryz.f54,aD,al,ioB]
 have hl:p.length<1000000000+1:=by have:=hC.1;unfold QL at this;omega
 refine s_g hG ?_
 refine ak ?_
 refine s_g hG ?_
 refine aq ?_ ?_
 ·intro hb0
  try simp only[bt] at hb0
  have hl41:41<p.length:=by have h9:(41:Int)<(p.length:Int):=hb0;omega
  refine s_g hG ?_
  refine az ?_
  refine aA ?_
  refine q_e [] ?_
  exact sM (BO hl41)
 ·intro hb0
  try simp only[bf] at hb0
  have hl41:p.length<=41:=by have h9: ¬ (41:Int)<(p.length:Int):=hb0;omega
  refine ar ?_
  refine ah ?_
  refine ak ?_
  refine s_g hG ?_
  refine au ?_
  refine br (fun(z:Nat)=>(⟨[(0, .l (.z (.slice .str) p)),(2, .l (.val (.slice none 0 0))),(3, .l (.z (.int .i64) 0)),(9, .l (.z (.slice .str) p)),(10, .l (.z (.int .i64) (p.length:Int))),(11, .l (.z (.int .i64) (z:Int)))], []⟩:aa)) (fun z=>z<=p.length/\(p.take z).all (fun q=>decide (df q=0))=true) (fun z=>p.length-z) 0 ?_ ?_ ?_
  ·refine q_l ?_
   rfl
  ·exact⟨by omega,rfl⟩
  ·rintro k ⟨g1,g2⟩
   try dsimp only at g1 g2
   refine s_g hG ?_
   refine ak ?_
   refine aq ?_ ?_
   ·intro hb1
    try simp only[bt] at hb1
    have hk:k<p.length:=by have h9:(k:Int)<(p.length:Int):=hb1;omega
    refine ar ?_
    refine ah ?_
    refine ak ?_
    refine au ?_
    refine s_q hG ?_ ?_
    ·try simp only[ba]
     exact⟨by omega,hb1⟩
    refine s_q hG ?_ ?_
    ·try simp only[ba]
     exact hC.2 _ (fU (t:= .str) hk)
    refine aq ?_ ?_
    ·intro hb2
     try simp only[bt] at hb2
     refine s_g hG ?_
     refine az ?_
     refine bC ?_
     refine aA ?_
     refine en ?_
     refine bC ?_
     refine aA ?_
     refine q_e [] ?_
     exact sM (FV hk hl41 hb2)
    ·intro hb2
     try simp only[bf] at hb2
     refine ar ?_
     refine aP ?_
     refine ah ?_
     refine ag hG ?_ ?_
     ·first|trivial|omega|(simp;done)|(simp;omega)
     show ∃ z,_
     refine q_l ?_
     exact⟨k+1,wi (by omega) (by omega),hk,BM hk g2 hb2,by omega⟩
   ·intro hb1
    try simp only[bf] at hb1
    have hk:k=p.length:=by have h9: ¬ (k:Int)<(p.length:Int):=hb1;omega
    subst hk
    rw[List.take_length] at g2
    refine bg ?_
    refine aE ?_
    refine ax ?_
    refine aw ?_
    refine ah ?_
    refine ak ?_
    refine s_q hG ?_ ?_
    ·try simp only[ba]
     exact BN hl41
    refine aq ?_ ?_
    ·intro hb3
     try simp only[bt] at hb3
     refine s_g hG ?_
     refine az ?_
     refine aA ?_
     refine q_e [] ?_
     exact sM (BP hl41 g2 hb3)
    ·intro hb3
     try simp only[bf] at hb3
     refine ar ?_
     refine ah ?_
     refine s_q hG ?_ ?_
     ·try simp only[ba]
      exact⟨by unfold QL;omega,(sL hC g2).1⟩
     refine az ?_
     refine q_e [] ?_
     exact Jc hC hl41 g2 hb3
def qa(B:aj):Tab:={types:= [(3,(.int .i64)),(22,(.slice .str)),(31,(.int .i64)),(44,(.slice (.slice .str))),(98,(.slice (.slice (.st (.pair (.st (.pair .bool (.slice (.int .u32)))) (.st (.pair .bool (.slice (.int .u32)))))))))],elems:= [(98,79)],cons:= [(54,nV)],hint:= [],N:=29,base:=B}
theorem zR{B:aj}(hB:aC B):aH Tryz.prog (qa B):=⟨⟨tc ty3 (tc gr (tc ll (tc tn (tc tv (ae))))),aS (by kernel_rfl) (af),by simp only[qa,ioB];omega⟩,aF (cc Tryz.func54 (vq hB) (ay)),by kernel_rfl⟩
def fg:Con:=fun l os=>match l,os with
 | [.z (.slice (.slice .str)) l], []=>some (l.length<=1000/\∀ p∈l,c6 p, [.z (.slice (.slice (.st (.pair (.st (.pair .bool (.slice (.int .u32)))) (.st (.pair .bool (.slice (.int .u32)))))))) (gz l), .z (.int .i64) (bW l)], [])
 |_,_=>none
theorem eE{B:aj}(hB:aC B):Valid B Tryz.prog 67 fg:=by
 refine ab (zR hB).tab Tryz.func67 rfl rfl rfl ?_
 intro args os C rs os' hc hC
 unfold fg at hc
 split at hc
 case h_2=>cases hc
 rename_i l
 cases hc
 refine v_h (zR hB) fun X hP hT hr hG=> ?_
 have hU:=qa.eq_1
 unfold qa at hT
 have hX:= @nV.eq_1
 simp only[Tryz.f67,aD,al,ioB]
 have hl:l.length<=1000:=hC.1
 refine s_g hG ?_
 refine CA ?_
 refine s_g hG ?_
 refine s_g hG ?_
 refine ak ?_
 refine Cz ?_
 refine ah ?_
 refine ak ?_
 refine s_g hG ?_
 refine au ?_
 refine br (fun(z:Option (Nat))=>match z with|none=>((⟨[(0, .l (.z (.slice (.slice .str)) l)),(2, .l (.val (.slice none 0 0))),(3, .l (.z (.int .i64) 0)),(4, .l (.val (.slice none 0 0))),(5, .l (.z (.int .i64) 0)),(9, .l (.z (.slice (.slice .str)) l)),(10, .l (.z (.int .i64) (l.length:Int))),(11, .l (.z (.int .i64) 0))], []⟩:aa))|some z=>((⟨[(0, .l (.z (.slice (.slice .str)) l)),(2, .l (.val (.slice none 0 0))),(3, .l (.z (.int .i64) 0)),(4, .l (.ownS 25)),(5, .l (.z (.int .i64) 0)),(9, .l (.z (.slice (.slice .str)) l)),(10, .l (.z (.int .i64) (l.length:Int))),(11, .l (.z (.int .i64) (z:Int)))], [(25, .arr (.slice (.st (.pair (.st (.pair .bool (.slice (.int .u32)))) (.st (.pair .bool (.slice (.int .u32))))))) 79 ((l.take z).map fun p=>aG (bc p)))]⟩:aa))) (fun(z:Option (Nat))=>match z with|none=>(True)|some z=>(1<=z/\z<=l.length/\(l.take z).all (fun p=>decide (cL p=0))=true)) (fun(z:Option (Nat))=>match z with|none=>(l.length+1)|some z=>(l.length-z)) none ?_ ?_ ?_
 ·simp only[ml0,ml1,Nat.reduceLT,Nat.reduceEqDiff,Nat.reduceAdd,Nat.reduceMul,Nat.reduceSub,Nat.reduceLeDiff,Nat.reduceBEq,Nat.reduceBNe,reduceIte,reduceDIte,reduceCtorEq]
 ·trivial
 ·rintro(_|k) hz_
  ·obtain⟨k,ek⟩:∃ k:Nat,k=0:=⟨0,rfl⟩
   have e0:(k:Int)=0:=by rw[ek];rfl
   refine s_g hG ?_
   refine ak ?_
   refine aq ?_ ?_
   ·intro hb0
    try simp only[bt] at hb0
    have hk:k<l.length:=by first|(have h9:(k:Int)<(l.length:Int):=hb0;omega)|(have h9:(0:Int)<(l.length:Int):=hb0;omega)
    refine ar ?_
    refine ah ?_
    refine ak ?_
    refine au ?_
    refine s_q hG ?_ ?_
    ·try simp only[ba]
     exact⟨by omega,hb0⟩
    refine s_g hG ?_
    refine ak ?_
    refine s_q hG ?_ ?_
    ·try simp only[ba]
     first|exact hC.2 _ (fU (t:= .slice .str) hk)|(subst ek;exact hC.2 _ (fU (t:= .slice .str) (k:=0) hk))
    refine s_g hG ?_
    refine aq ?_ ?_
    ·intro hb1
     try simp only[bt] at hb1
     refine s_g hG ?_
     refine bg ?_
     refine aE ?_
     refine iA rfl ?_
     refine aE ?_
     refine ax ?_
     refine aw ?_
     refine ah ?_
     refine s_g hG ?_
     refine az ?_
     refine gd ?_
     refine q_e [] ?_
     subst ek;exact FX hk hb1
    ·intro hb1
     try simp only[bf] at hb1
     refine ar ?_
     refine ah ?_
     refine ag hG ?_ ?_
     ·try simp only[ba]
      unfold Cm.Roomy;try simp only[List.length_map,List.length_take]
      omega
     refine aP ?_
     refine ah ?_
     refine ag hG ?_ ?_
     ·first|trivial|omega|(simp;done)|(simp;omega)
     refine⟨some (1),?_⟩
     simp only[ml0,ml1,Nat.reduceLT,Nat.reduceEqDiff,Nat.reduceAdd,Nat.reduceMul,Nat.reduceSub,Nat.reduceLeDiff,Nat.reduceBEq,Nat.reduceBNe,reduceIte,reduceDIte,reduceCtorEq]
     subst ek;exact⟨hb1,yH hl hk hb1⟩
   ·intro hb0
    try simp only[bf] at hb0
    have hk: ¬k<l.length:=by intro h9;first|exact hb0 (show (k:Int)<(l.length:Int) by omega)|exact hb0 (show (0:Int)<(l.length:Int) by omega)
    refine bg ?_
    refine aE ?_
    refine ax ?_
    refine aw ?_
    refine ah ?_
    refine s_g hG ?_
    refine az ?_
    refine gd ?_
    refine q_e [] ?_
    subst ek;exact FY hk
  ·obtain⟨g0,g1,g2⟩:=hz_
   try dsimp only at g0 g1 g2
   refine s_g hG ?_
   refine ak ?_
   refine aq ?_ ?_
   ·intro hb0
    try simp only[bt] at hb0
    have hk:k<l.length:=by first|(have h9:(k:Int)<(l.length:Int):=hb0;omega)|(have h9:(0:Int)<(l.length:Int):=hb0;omega)
    refine ar ?_
    refine ah ?_
    refine ak ?_
    refine au ?_
    refine s_q hG ?_ ?_
    ·try simp only[ba]
     exact⟨by omega,hb0⟩
    refine s_g hG ?_
    refine ak ?_
    refine s_q hG ?_ ?_
    ·try simp only[ba]
     first|exact hC.2 _ (fU (t:= .slice .str) hk)|(subst ek;exact hC.2 _ (fU (t:= .slice .str) (k:=0) hk))
    refine s_g hG ?_
    refine aq ?_ ?_
    ·intro hb1
     try simp only[bt] at hb1
     refine s_g hG ?_
     refine bg ?_
     refine aE ?_
     refine iA rfl ?_
     refine aE ?_
     refine ax ?_
     refine aw ?_
     refine ah ?_
     refine s_g hG ?_
     refine az ?_
     refine gd ?_
     refine q_e [] ?_
     exact yG hk g2 hb1
    ·intro hb1
     try simp only[bf] at hb1
     refine ar ?_
     refine ah ?_
     refine ag hG ?_ ?_
     ·try simp only[ba]
      unfold Cm.Roomy;try simp only[List.length_map,List.length_take]
      omega
     refine aP ?_
     refine ah ?_
     refine ag hG ?_ ?_
     ·first|trivial|omega|(simp;done)|(simp;omega)
     refine⟨some (k+1),?_⟩
     simp only[ml0,ml1,Nat.reduceLT,Nat.reduceEqDiff,Nat.reduceAdd,Nat.reduceMul,Nat.reduceSub,Nat.reduceLeDiff,Nat.reduceBEq,Nat.reduceBNe,reduceIte,reduceDIte,reduceCtorEq]
     have hr:=sN hl hk g2 hb1
     exact⟨hb1,hr⟩
   ·intro hb0
    try simp only[bf] at hb0
    have hk: ¬k<l.length:=by intro h9;first|exact hb0 (show (k:Int)<(l.length:Int) by omega)|exact hb0 (show (0:Int)<(l.length:Int) by omega)
    refine bg ?_
    refine aE ?_
    refine ax ?_
    refine aw ?_
    refine ah ?_
    refine s_g hG ?_
    refine az ?_
    refine gd ?_
    refine q_e [25] ?_
    rw[List.take_of_length_le (by omega)] at g2 ⊢
    exact Je g2
def qb(B:aj):Tab:={types:= [(3,(.int .i64)),(78,(.slice (.st (.pair (.st (.pair .bool (.slice (.int .u32)))) (.st (.pair .bool (.slice (.int .u32)))))))),(79,(.slice (.st (.pair (.st (.pair .bool (.slice (.int .u32)))) (.st (.pair .bool (.slice (.int .u32))))))))],elems:= [],cons:= [(82,iT),(88,nQ)],hint:= [],N:=19,base:=B}
theorem zS{B:aj}(hB:aC B):aH Tryz.prog (qb B):=⟨⟨tc ty3 (tc K7 (tc fA (ae))),af,by simp only[qb,ioB];omega⟩,aF (cc Tryz.func82 (il hB) (cc Tryz.func88 (vg hB) (ay))),by kernel_rfl⟩
def dR:Con:=fun l os=>match l,os with
 | [.z (.slice (.st (.pair (.st (.pair .bool (.slice (.int .u32)))) (.st (.pair .bool (.slice (.int .u32))))))) p], []=>some (Sz QC p/\p.length<=QL, [.z (.slice .str) (gA (aR (an p))), .z (.int .i64) (cg (aR (an p)))], [])
 |_,_=>none
theorem fh{B:aj}(hB:aC B):Valid B Tryz.prog 69 dR:=by
 refine ab (zS hB).tab Tryz.func69 rfl rfl rfl ?_
 intro args os C rs os' hc hC
 unfold dR at hc
 split at hc
 case h_2=>cases hc
 rename_i p
 cases hc
 refine v_h (zS hB) fun X hP hT hr hG=> ?_
 have hU:=qb.eq_1
 unfold qb at hT
 have hX:=ai @nQ.eq_1<| @iT.eq_1
 simp only[Tryz.f69,aD,al,ioB]
 refine s_g hG ?_
 refine s_q hG ?_ ?_
 ·try simp only[ba]
  exact hC
 refine ak ?_
 refine s_g hG ?_
 refine aq ?_ ?_
 ·intro hb0
  try simp only[bt] at hb0
  have hl:41<(aR (an p)).length:=by have h9:(41:Int)<((aG (aR (an p))).length:Int):=hb0;rw[aB] at h9;omega
  refine s_g hG ?_
  refine az ?_
  refine aA ?_
  refine q_e [] ?_
  exact BQ hl
 ·intro hb0
  try simp only[bf] at hb0
  have hl: ¬41<(aR (an p)).length:=by have h9: ¬ (41:Int)<((aG (aR (an p))).length:Int):=hb0;rw[aB] at h9;omega
  refine ar ?_
  refine ah ?_
  refine s_q hG ?_ ?_
  ·try simp only[ba]
   exact F0 hC hl
  refine ak ?_
  refine s_g hG ?_
  refine aq ?_ ?_
  ·intro hb1
   try simp only[bt] at hb1
   refine s_g hG ?_
   refine az ?_
   refine aA ?_
   refine q_e [] ?_
   exact FZ hl hb1
  ·intro hb1
   try simp only[bf] at hb1
   refine ar ?_
   refine ah ?_
   refine s_g hG ?_
   refine az ?_
   refine q_e [] ?_
   exact Jf hl hb1
def qc(B:aj):Tab:={types:= [(79,(.slice (.st (.pair (.st (.pair .bool (.slice (.int .u32)))) (.st (.pair .bool (.slice (.int .u32)))))))),(84, .func)],elems:= [],cons:= [(57,oN)],hint:= [],N:=8,base:=B}
theorem zT{B:aj}(hB:aC B):aH Tryz.prog (qc B):=⟨⟨tc fA (tc Np (ae)),af,by simp only[qc,ioB];omega⟩,aF (cc Tryz.func57 (l9 hB) (ay)),by kernel_rfl⟩
def EF:Con:=fun l os=>match l,os with
 | [.z (.slice (.st (.pair (.st (.pair .bool (.slice (.int .u32)))) (.st (.pair .bool (.slice (.int .u32))))))) p, .z (.slice (.st (.pair (.st (.pair .bool (.slice (.int .u32)))) (.st (.pair .bool (.slice (.int .u32))))))) q], []=>some (Sz QH p/\Sz QH q/\p.length<=1000/\q.length<=1000, [.z (.slice (.st (.pair (.st (.pair .bool (.slice (.int .u32)))) (.st (.pair .bool (.slice (.int .u32))))))) (aG (bH (· + ·) (an p) (an q)))], [])
 |_,_=>none
theorem GK{B:aj}(hB:aC B):Valid B Tryz.prog 56 EF:=by
 refine ab (zT hB).tab Tryz.func56 rfl rfl rfl ?_
 intro args os C rs os' hc hC
 unfold EF at hc
 split at hc
 case h_2=>cases hc
 rename_i p q
 cases hc
 refine v_h (zT hB) fun X hP hT hr hG=> ?_
 have hU:=qc.eq_1
 unfold qc at hT
 have hX:= @oN.eq_1
 simp only[Tryz.f56,aD,al,ioB]
 refine s_g hG ?_
 refine s_q hG ?_ ?_
 ·try simp only[ba]
  exact⟨by simp,hC⟩
 refine az ?_
 refine q_e [] ?_
 trivial
def qd(B:aj):Tab:={types:= [(79,(.slice (.st (.pair (.st (.pair .bool (.slice (.int .u32)))) (.st (.pair .bool (.slice (.int .u32)))))))),(84, .func)],elems:= [],cons:= [(57,oN)],hint:= [],N:=8,base:=B}
theorem zU{B:aj}(hB:aC B):aH Tryz.prog (qd B):=⟨⟨tc fA (tc Np (ae)),af,by simp only[qd,ioB];omega⟩,aF (cc Tryz.func57 (l9 hB) (ay)),by kernel_rfl⟩
def EG:Con:=fun l os=>match l,os with
 | [.z (.slice (.st (.pair (.st (.pair .bool (.slice (.int .u32)))) (.st (.pair .bool (.slice (.int .u32))))))) p, .z (.slice (.st (.pair (.st (.pair .bool (.slice (.int .u32)))) (.st (.pair .bool (.slice (.int .u32))))))) q], []=>some (Sz QH p/\Sz QH q/\p.length<=1000/\q.length<=1000, [.z (.slice (.st (.pair (.st (.pair .bool (.slice (.int .u32)))) (.st (.pair .bool (.slice (.int .u32))))))) (aG (bH (· - ·) (an p) (an q)))], [])
 |_,_=>none
theorem GM{B:aj}(hB:aC B):Valid B Tryz.prog 59 EG:=by
 refine ab (zU hB).tab Tryz.func59 rfl rfl rfl ?_
 intro args os C rs os' hc hC
 unfold EG at hc
 split at hc
 case h_2=>cases hc
 rename_i p q
 cases hc
 refine v_h (zU hB) fun X hP hT hr hG=> ?_
 have hU:=qd.eq_1
 unfold qd at hT
 have hX:= @oN.eq_1
 simp only[Tryz.f59,aD,al,ioB]
 refine s_g hG ?_
 refine s_q hG ?_ ?_
 ·try simp only[ba]
  exact⟨by simp,hC⟩
 refine az ?_
 refine q_e [] ?_
 trivial
def qe(B:aj):Tab:={types:= [(79,(.slice (.st (.pair (.st (.pair .bool (.slice (.int .u32)))) (.st (.pair .bool (.slice (.int .u32))))))))],elems:= [],cons:= [(77,jk)],hint:= [],N:=7,base:=B}
theorem zV{B:aj}(hB:aC B):aH Tryz.prog (qe B):=⟨⟨tc fA (ae),af,by simp only[qe,ioB];omega⟩,aF (cc Tryz.func77 (vl hB) (ay)),by kernel_rfl⟩
def EH:Con:=fun l os=>match l,os with
 | [.z (.slice (.st (.pair (.st (.pair .bool (.slice (.int .u32)))) (.st (.pair .bool (.slice (.int .u32))))))) p, .z (.slice (.st (.pair (.st (.pair .bool (.slice (.int .u32)))) (.st (.pair .bool (.slice (.int .u32))))))) q], []=>some (Sz QH p/\p.length<=1000, [.z (.slice (.st (.pair (.st (.pair .bool (.slice (.int .u32)))) (.st (.pair .bool (.slice (.int .u32))))))) (aG (cr (an p)))], [])
 |_,_=>none
theorem GN{B:aj}(hB:aC B):Valid B Tryz.prog 76 EH:=by
 refine ab (zV hB).tab Tryz.func76 rfl rfl rfl ?_
 intro args os C rs os' hc hC
 unfold EH at hc
 split at hc
 case h_2=>cases hc
 rename_i p q
 cases hc
 refine v_h (zV hB) fun X hP hT hr hG=> ?_
 have hU:=qe.eq_1
 unfold qe at hT
 have hX:= @jk.eq_1
 simp only[Tryz.f76,aD,al,ioB]
 refine s_g hG ?_
 refine s_q hG ?_ ?_
 ·try simp only[ba]
  exact hC
 refine az ?_
 refine q_e [] ?_
 trivial
def qf(B:aj):Tab:={types:= [(79,(.slice (.st (.pair (.st (.pair .bool (.slice (.int .u32)))) (.st (.pair .bool (.slice (.int .u32))))))))],elems:= [],cons:= [(79,pY)],hint:= [],N:=7,base:=B}
theorem zW{B:aj}(hB:aC B):aH Tryz.prog (qf B):=⟨⟨tc fA (ae),af,by simp only[qf,ioB];omega⟩,aF (cc Tryz.func79 (GD hB) (ay)),by kernel_rfl⟩
def EI:Con:=fun l os=>match l,os with
 | [.z (.slice (.st (.pair (.st (.pair .bool (.slice (.int .u32)))) (.st (.pair .bool (.slice (.int .u32))))))) p, .z (.slice (.st (.pair (.st (.pair .bool (.slice (.int .u32)))) (.st (.pair .bool (.slice (.int .u32))))))) q], []=>some (lF p, [.z (.slice (.st (.pair (.st (.pair .bool (.slice (.int .u32)))) (.st (.pair .bool (.slice (.int .u32))))))) (aG (cq (an p)))], [])
 |_,_=>none
theorem GO{B:aj}(hB:aC B):Valid B Tryz.prog 78 EI:=by
 refine ab (zW hB).tab Tryz.func78 rfl rfl rfl ?_
 intro args os C rs os' hc hC
 unfold EI at hc
 split at hc
 case h_2=>cases hc
 rename_i p q
 cases hc
 refine v_h (zW hB) fun X hP hT hr hG=> ?_
 have hU:=qf.eq_1
 unfold qf at hT
 have hX:= @pY.eq_1
 simp only[Tryz.f78,aD,al,ioB]
 refine s_g hG ?_
 refine s_q hG ?_ ?_
 ·try simp only[ba]
  exact hC
 refine az ?_
 refine q_e [] ?_
 trivial
def qg(B:aj):Tab:={types:= [(31,(.int .i64)),(44,(.slice (.slice .str))),(79,(.slice (.st (.pair (.st (.pair .bool (.slice (.int .u32)))) (.st (.pair .bool (.slice (.int .u32)))))))),(98,(.slice (.slice (.st (.pair (.st (.pair .bool (.slice (.int .u32)))) (.st (.pair .bool (.slice (.int .u32)))))))))],elems:= [(44,22)],cons:= [(56,EF),(67,fg),(69,dR)],hint:= [],N:=31,base:=B}
theorem zX{B:aj}(hB:aC B):aH Tryz.prog (qg B):=⟨⟨tc ll (tc tn (tc fA (tc tv (ae)))),aS (by kernel_rfl) (af),by simp only[qg,ioB];omega⟩,aF (cc Tryz.func56 (GK hB) (cc Tryz.func67 (eE hB) (cc Tryz.func69 (fh hB) (ay)))),by kernel_rfl⟩
def qh:Con:=fun l os=>match l,os with
 | [.z (.slice .str) p, .z (.slice .str) q, .val (.func (.func g) fs cs)], []=>some ((g=56/\fs.size=0/\cs.size=0)/\bN (fun p q=>Sz QH p/\Sz QH q/\p.length<=1000/\q.length<=1000) (bH (· + ·)) p q, [.z (.slice .str) (cU (bH (· + ·)) p q), .z (.int .i64) (cT (bH (· + ·)) p q)], [])
 |_,_=>none
theorem GP{B:aj}(hB:aC B):Valid B Tryz.prog 55 qh:=by
 refine ab (zX hB).tab Tryz.func55 rfl rfl rfl ?_
 intro args os C rs os' hc hC
 unfold qh at hc
 split at hc
 case h_2=>cases hc
 rename_i p q g fs cs
 cases hc
 refine v_h (zX hB) fun X hP hT hr hG=> ?_
 have hU:=qg.eq_1
 unfold qg at hT
 have hX:=ai @EF.eq_1<|ai @fg.eq_1<| @dR.eq_1
 simp only[Tryz.f55,aD,al,ioB]
 obtain⟨⟨rfl,e1,e2⟩,hp,hq,hD⟩:=hC
 obtain rfl:=Array.eq_empty_of_size_eq_zero e1
 obtain rfl:=Array.eq_empty_of_size_eq_zero e2
 refine s_g hG ?_
 refine s_q hG ?_ ?_
 ·try simp only[ba]
  exact(gk hp hq).2
 refine ak ?_
 refine s_g hG ?_
 refine aq ?_ ?_
 ·intro hb0
  try simp only[bt] at hb0
  refine s_g hG ?_
  refine az ?_
  refine aA ?_
  refine q_e [] ?_
  exact ic hb0
 ·intro hb0
  try simp only[bf] at hb0
  have n0:=iH hb0
  have n1:=iI hb0
  have nl:=gj hb0
  have hE:=hD hb0
  refine ar ?_
  refine ah ?_
  refine s_d hG ?_ ?_
  ·try simp only[ba]
   simp only[NT] at n0 n1
   simp only[n0,n1,nl,aI]
   exact⟨by decide,by decide,hE.1,hE.2.1,by rw[aB];exact hE.2.2⟩
  refine az ?_
  refine q_e [] ?_
  simp only[NT] at n0 n1
  simp only[n0,n1,aI]
  exact jF (f:=(bH (· + ·))) hb0
def qk(B:aj):Tab:={types:= [(31,(.int .i64)),(44,(.slice (.slice .str))),(79,(.slice (.st (.pair (.st (.pair .bool (.slice (.int .u32)))) (.st (.pair .bool (.slice (.int .u32)))))))),(98,(.slice (.slice (.st (.pair (.st (.pair .bool (.slice (.int .u32)))) (.st (.pair .bool (.slice (.int .u32)))))))))],elems:= [(44,22)],cons:= [(59,EG),(67,fg),(69,dR)],hint:= [],N:=31,base:=B}
theorem zY{B:aj}(hB:aC B):aH Tryz.prog (qk B):=⟨⟨tc ll (tc tn (tc fA (tc tv (ae)))),aS (by kernel_rfl) (af),by simp only[qk,ioB];omega⟩,aF (cc Tryz.func59 (GM hB) (cc Tryz.func67 (eE hB) (cc Tryz.func69 (fh hB) (ay)))),by kernel_rfl⟩
def ql:Con:=fun l os=>match l,os with
 | [.z (.slice .str) p, .z (.slice .str) q, .val (.func (.func g) fs cs)], []=>some ((g=59/\fs.size=0/\cs.size=0)/\bN (fun p q=>Sz QH p/\Sz QH q/\p.length<=1000/\q.length<=1000) (bH (· - ·)) p q, [.z (.slice .str) (cU (bH (· - ·)) p q), .z (.int .i64) (cT (bH (· - ·)) p q)], [])
 |_,_=>none
theorem GR{B:aj}(hB:aC B):Valid B Tryz.prog 55 ql:=by
 refine ab (zY hB).tab Tryz.func55 rfl rfl rfl ?_
 intro args os C rs os' hc hC
 unfold ql at hc
 split at hc
 case h_2=>cases hc
 rename_i p q g fs cs
 cases hc
 refine v_h (zY hB) fun X hP hT hr hG=> ?_
 have hU:=qk.eq_1
 unfold qk at hT
 have hX:=ai @fg.eq_1<|ai @EG.eq_1<| @dR.eq_1
 simp only[Tryz.f55,aD,al,ioB]
 obtain⟨⟨rfl,e1,e2⟩,hp,hq,hD⟩:=hC
 obtain rfl:=Array.eq_empty_of_size_eq_zero e1
 obtain rfl:=Array.eq_empty_of_size_eq_zero e2
 refine s_g hG ?_
 refine s_q hG ?_ ?_
 ·try simp only[ba]
  exact(gk hp hq).2
 refine ak ?_
 refine s_g hG ?_
 refine aq ?_ ?_
 ·intro hb0
  try simp only[bt] at hb0
  refine s_g hG ?_
  refine az ?_
  refine aA ?_
  refine q_e [] ?_
  exact ic hb0
 ·intro hb0
  try simp only[bf] at hb0
  have n0:=iH hb0
  have n1:=iI hb0
  have nl:=gj hb0
  have hE:=hD hb0
  refine ar ?_
  refine ah ?_
  refine s_d hG ?_ ?_
  ·try simp only[ba]
   simp only[NT] at n0 n1
   simp only[n0,n1,nl,aI]
   exact⟨by decide,by decide,hE.1,hE.2.1,by rw[aB];exact hE.2.2⟩
  refine az ?_
  refine q_e [] ?_
  simp only[NT] at n0 n1
  simp only[n0,n1,aI]
  exact jF (f:=(bH (· - ·))) hb0
def qm(B:aj):Tab:={types:= [(31,(.int .i64)),(44,(.slice (.slice .str))),(79,(.slice (.st (.pair (.st (.pair .bool (.slice (.int .u32)))) (.st (.pair .bool (.slice (.int .u32)))))))),(98,(.slice (.slice (.st (.pair (.st (.pair .bool (.slice (.int .u32)))) (.st (.pair .bool (.slice (.int .u32)))))))))],elems:= [(44,22)],cons:= [(61,nR),(67,fg),(69,dR)],hint:= [],N:=31,base:=B}
theorem zZ{B:aj}(hB:aC B):aH Tryz.prog (qm B):=⟨⟨tc ll (tc tn (tc fA (tc tv (ae)))),aS (by kernel_rfl) (af),by simp only[qm,ioB];omega⟩,aF (cc Tryz.func61 (vj hB) (cc Tryz.func67 (eE hB) (cc Tryz.func69 (fh hB) (ay)))),by kernel_rfl⟩
def qn:Con:=fun l os=>match l,os with
 | [.z (.slice .str) p, .z (.slice .str) q, .val (.func (.func g) fs cs)], []=>some ((g=61/\fs.size=0/\cs.size=0)/\bN (fun p q=>Sz QM p/\Sz QM q/\p.length<=100/\q.length<=100) cE p q, [.z (.slice .str) (cU cE p q), .z (.int .i64) (cT cE p q)], [])
 |_,_=>none
theorem GS{B:aj}(hB:aC B):Valid B Tryz.prog 55 qn:=by
 refine ab (zZ hB).tab Tryz.func55 rfl rfl rfl ?_
 intro args os C rs os' hc hC
 unfold qn at hc
 split at hc
 case h_2=>cases hc
 rename_i p q g fs cs
 cases hc
 refine v_h (zZ hB) fun X hP hT hr hG=> ?_
 have hU:=qm.eq_1
 unfold qm at hT
 have hX:=ai @fg.eq_1<|ai @nR.eq_1<| @dR.eq_1
 simp only[Tryz.f55,aD,al,ioB]
 obtain⟨⟨rfl,e1,e2⟩,hp,hq,hD⟩:=hC
 obtain rfl:=Array.eq_empty_of_size_eq_zero e1
 obtain rfl:=Array.eq_empty_of_size_eq_zero e2
 refine s_g hG ?_
 refine s_q hG ?_ ?_
 ·try simp only[ba]
  exact(gk hp hq).2
 refine ak ?_
 refine s_g hG ?_
 refine aq ?_ ?_
 ·intro hb0
  try simp only[bt] at hb0
  refine s_g hG ?_
  refine az ?_
  refine aA ?_
  refine q_e [] ?_
  exact ic hb0
 ·intro hb0
  try simp only[bf] at hb0
  have n0:=iH hb0
  have n1:=iI hb0
  have nl:=gj hb0
  have hE:=hD hb0
  refine ar ?_
  refine ah ?_
  refine s_d hG ?_ ?_
  ·try simp only[ba]
   simp only[NT] at n0 n1
   simp only[n0,n1,nl,aI]
   exact⟨by decide,by decide,hE.1,hE.2.1,by rw[aB];exact hE.2.2⟩
  refine az ?_
  refine q_e [] ?_
  simp only[NT] at n0 n1
  simp only[n0,n1,aI]
  exact jF (f:=cE) hb0
def qo(B:aj):Tab:={types:= [(31,(.int .i64)),(44,(.slice (.slice .str))),(79,(.slice (.st (.pair (.st (.pair .bool (.slice (.int .u32)))) (.st (.pair .bool (.slice (.int .u32)))))))),(98,(.slice (.slice (.st (.pair (.st (.pair .bool (.slice (.int .u32)))) (.st (.pair .bool (.slice (.int .u32)))))))))],elems:= [(44,22)],cons:= [(67,fg),(69,dR),(70,lg)],hint:= [],N:=31,base:=B}
theorem z6{B:aj}(hB:aC B):aH Tryz.prog (qo B):=⟨⟨tc ll (tc tn (tc fA (tc tv (ae)))),aS (by kernel_rfl) (af),by simp only[qo,ioB];omega⟩,aF (cc Tryz.func67 (eE hB) (cc Tryz.func69 (fh hB) (cc Tryz.func70 (vm hB) (ay)))),by kernel_rfl⟩
def qp:Con:=fun l os=>match l,os with
 | [.z (.slice .str) p, .z (.slice .str) q, .val (.func (.func g) fs cs)], []=>some ((g=70/\fs.size=0/\cs.size=0)/\bN (iF) cx p q, [.z (.slice .str) (cU cx p q), .z (.int .i64) (cT cx p q)], [])
 |_,_=>none
theorem GT{B:aj}(hB:aC B):Valid B Tryz.prog 55 qp:=by
 refine ab (z6 hB).tab Tryz.func55 rfl rfl rfl ?_
 intro args os C rs os' hc hC
 unfold qp at hc
 split at hc
 case h_2=>cases hc
 rename_i p q g fs cs
 cases hc
 refine v_h (z6 hB) fun X hP hT hr hG=> ?_
 have hU:=qo.eq_1
 unfold qo at hT
 have hX:=ai @fg.eq_1<|ai @lg.eq_1<| @dR.eq_1
 simp only[Tryz.f55,aD,al,ioB]
 obtain⟨⟨rfl,e1,e2⟩,hp,hq,hD⟩:=hC
 obtain rfl:=Array.eq_empty_of_size_eq_zero e1
 obtain rfl:=Array.eq_empty_of_size_eq_zero e2
 refine s_g hG ?_
 refine s_q hG ?_ ?_
 ·try simp only[ba]
  exact(gk hp hq).2
 refine ak ?_
 refine s_g hG ?_
 refine aq ?_ ?_
 ·intro hb0
  try simp only[bt] at hb0
  refine s_g hG ?_
  refine az ?_
  refine aA ?_
  refine q_e [] ?_
  exact ic hb0
 ·intro hb0
  try simp only[bf] at hb0
  have n0:=iH hb0
  have n1:=iI hb0
  have nl:=gj hb0
  have hE:=hD hb0
  refine ar ?_
  refine ah ?_
  refine s_d hG ?_ ?_
  ·try simp only[ba]
   simp only[NT] at n0 n1
   simp only[n0,n1,nl,aI]
   exact⟨by decide,by decide,hE.1,hE.2.1,by rw[aB];exact hE.2.2⟩
  refine az ?_
  refine q_e [] ?_
  simp only[NT] at n0 n1
  simp only[n0,n1,aI]
  exact jF (f:=cx) hb0
def qq(B:aj):Tab:={types:= [(31,(.int .i64)),(44,(.slice (.slice .str))),(79,(.slice (.st (.pair (.st (.pair .bool (.slice (.int .u32)))) (.st (.pair .bool (.slice (.int .u32)))))))),(98,(.slice (.slice (.st (.pair (.st (.pair .bool (.slice (.int .u32)))) (.st (.pair .bool (.slice (.int .u32)))))))))],elems:= [(44,22)],cons:= [(67,fg),(69,dR),(76,EH)],hint:= [],N:=31,base:=B}
theorem z7{B:aj}(hB:aC B):aH Tryz.prog (qq B):=⟨⟨tc ll (tc tn (tc fA (tc tv (ae)))),aS (by kernel_rfl) (af),by simp only[qq,ioB];omega⟩,aF (cc Tryz.func67 (eE hB) (cc Tryz.func69 (fh hB) (cc Tryz.func76 (GN hB) (ay)))),by kernel_rfl⟩
def qs:Con:=fun l os=>match l,os with
 | [.z (.slice .str) p, .z (.slice .str) q, .val (.func (.func g) fs cs)], []=>some ((g=76/\fs.size=0/\cs.size=0)/\bN (fun p _=>Sz QH p/\p.length<=1000) (fun a _=>cr a) p q, [.z (.slice .str) (cU (fun a _=>cr a) p q), .z (.int .i64) (cT (fun a _=>cr a) p q)], [])
 |_,_=>none
theorem GU{B:aj}(hB:aC B):Valid B Tryz.prog 55 qs:=by
 refine ab (z7 hB).tab Tryz.func55 rfl rfl rfl ?_
 intro args os C rs os' hc hC
 unfold qs at hc
 split at hc
 case h_2=>cases hc
 rename_i p q g fs cs
 cases hc
 refine v_h (z7 hB) fun X hP hT hr hG=> ?_
 have hU:=qq.eq_1
 unfold qq at hT
 have hX:=ai @fg.eq_1<|ai @EH.eq_1<| @dR.eq_1
 simp only[Tryz.f55,aD,al,ioB]
 obtain⟨⟨rfl,e1,e2⟩,hp,hq,hD⟩:=hC
 obtain rfl:=Array.eq_empty_of_size_eq_zero e1
 obtain rfl:=Array.eq_empty_of_size_eq_zero e2
 refine s_g hG ?_
 refine s_q hG ?_ ?_
 ·try simp only[ba]
  exact(gk hp hq).2
 refine ak ?_
 refine s_g hG ?_
 refine aq ?_ ?_
 ·intro hb0
  try simp only[bt] at hb0
  refine s_g hG ?_
  refine az ?_
  refine aA ?_
  refine q_e [] ?_
  exact ic hb0
 ·intro hb0
  try simp only[bf] at hb0
  have n0:=iH hb0
  have n1:=iI hb0
  have nl:=gj hb0
  have hE:=hD hb0
  refine ar ?_
  refine ah ?_
  refine s_d hG ?_ ?_
  ·try simp only[ba]
   simp only[NT] at n0 n1
   simp only[n0,n1,nl,aI]
   exact⟨by decide,by decide,hE.1,hE.2.1,by rw[aB];exact hE.2.2⟩
  refine az ?_
  refine q_e [] ?_
  simp only[NT] at n0 n1
  simp only[n0,n1,aI]
  exact jF (f:=(fun a _=>cr a)) hb0
def s5:Con:=iO [none,some (.slice .str),none] qs
theorem B7{B:aj}(hB:aC B):Valid B Tryz.prog 55 s5:=e9 _ (GU hB)
def qt(B:aj):Tab:={types:= [(31,(.int .i64)),(44,(.slice (.slice .str))),(79,(.slice (.st (.pair (.st (.pair .bool (.slice (.int .u32)))) (.st (.pair .bool (.slice (.int .u32)))))))),(98,(.slice (.slice (.st (.pair (.st (.pair .bool (.slice (.int .u32)))) (.st (.pair .bool (.slice (.int .u32)))))))))],elems:= [(44,22)],cons:= [(67,fg),(69,dR),(78,EI)],hint:= [],N:=31,base:=B}
theorem z8{B:aj}(hB:aC B):aH Tryz.prog (qt B):=⟨⟨tc ll (tc tn (tc fA (tc tv (ae)))),aS (by kernel_rfl) (af),by simp only[qt,ioB];omega⟩,aF (cc Tryz.func67 (eE hB) (cc Tryz.func69 (fh hB) (cc Tryz.func78 (GO hB) (ay)))),by kernel_rfl⟩
def qu:Con:=fun l os=>match l,os with
 | [.z (.slice .str) p, .z (.slice .str) q, .val (.func (.func g) fs cs)], []=>some ((g=78/\fs.size=0/\cs.size=0)/\bN (fun p _=>lF p) (fun a _=>cq a) p q, [.z (.slice .str) (cU (fun a _=>cq a) p q), .z (.int .i64) (cT (fun a _=>cq a) p q)], [])
 |_,_=>none
theorem GV{B:aj}(hB:aC B):Valid B Tryz.prog 55 qu:=by
 refine ab (z8 hB).tab Tryz.func55 rfl rfl rfl ?_
 intro args os C rs os' hc hC
 unfold qu at hc
 split at hc
 case h_2=>cases hc
 rename_i p q g fs cs
 cases hc
 refine v_h (z8 hB) fun X hP hT hr hG=> ?_
 have hU:=qt.eq_1
 unfold qt at hT
 have hX:=ai @fg.eq_1<|ai @EI.eq_1<| @dR.eq_1
 simp only[Tryz.f55,aD,al,ioB]
 obtain⟨⟨rfl,e1,e2⟩,hp,hq,hD⟩:=hC
 obtain rfl:=Array.eq_empty_of_size_eq_zero e1
 obtain rfl:=Array.eq_empty_of_size_eq_zero e2
 refine s_g hG ?_
 refine s_q hG ?_ ?_
 ·try simp only[ba]
  exact(gk hp hq).2
 refine ak ?_
 refine s_g hG ?_
 refine aq ?_ ?_
 ·intro hb0
  try simp only[bt] at hb0
  refine s_g hG ?_
  refine az ?_
  refine aA ?_
  refine q_e [] ?_
  exact ic hb0
 ·intro hb0
  try simp only[bf] at hb0
  have n0:=iH hb0
  have n1:=iI hb0
  have nl:=gj hb0
  have hE:=hD hb0
  refine ar ?_
  refine ah ?_
  refine s_d hG ?_ ?_
  ·try simp only[ba]
   simp only[NT] at n0 n1
   simp only[n0,n1,nl,aI]
   exact⟨by decide,by decide,hE.1,hE.2.1,by rw[aB];exact hE.2.2⟩
  refine az ?_
  refine q_e [] ?_
  simp only[NT] at n0 n1
  simp only[n0,n1,aI]
  exact jF (f:=(fun a _=>cq a)) hb0
def s6:Con:=iO [none,some (.slice .str),none] qu
theorem B8{B:aj}(hB:aC B):Valid B Tryz.prog 55 s6:=e9 _ (GV hB)
def qv(B:aj):Tab:={types:= [(31,(.int .i64)),(44,(.slice (.slice .str))),(79,(.slice (.st (.pair (.st (.pair .bool (.slice (.int .u32)))) (.st (.pair .bool (.slice (.int .u32)))))))),(98,(.slice (.slice (.st (.pair (.st (.pair .bool (.slice (.int .u32)))) (.st (.pair .bool (.slice (.int .u32)))))))))],elems:= [(44,22)],cons:= [(67,fg),(69,dR),(80,mU)],hint:= [],N:=31,base:=B}
theorem Aa{B:aj}(hB:aC B):aH Tryz.prog (qv B):=⟨⟨tc ll (tc tn (tc fA (tc tv (ae)))),aS (by kernel_rfl) (af),by simp only[qv,ioB];omega⟩,aF (cc Tryz.func67 (eE hB) (cc Tryz.func69 (fh hB) (cc Tryz.func80 (GJ hB) (ay)))),by kernel_rfl⟩
def qw:Con:=fun l os=>match l,os with
 | [.z (.slice .str) p, .z (.slice .str) q, .val (.func (.func g) fs cs)], []=>some ((g=80/\fs.size=0/\cs.size=0)/\bN (wg) jR p q, [.z (.slice .str) (cU jR p q), .z (.int .i64) (cT jR p q)], [])
 |_,_=>none
theorem GW{B:aj}(hB:aC B):Valid B Tryz.prog 55 qw:=by
 refine ab (Aa hB).tab Tryz.func55 rfl rfl rfl ?_
 intro args os C rs os' hc hC
 unfold qw at hc
 split at hc
 case h_2=>cases hc
 rename_i p q g fs cs
 cases hc
 refine v_h (Aa hB) fun X hP hT hr hG=> ?_
 have hU:=qv.eq_1
 unfold qv at hT
 have hX:=ai @fg.eq_1<|ai @mU.eq_1<| @dR.eq_1
 simp only[Tryz.f55,aD,al,ioB]
 obtain⟨⟨rfl,e1,e2⟩,hp,hq,hD⟩:=hC
 obtain rfl:=Array.eq_empty_of_size_eq_zero e1
 obtain rfl:=Array.eq_empty_of_size_eq_zero e2
 refine s_g hG ?_
 refine s_q hG ?_ ?_
 ·try simp only[ba]
  exact(gk hp hq).2
 refine ak ?_
 refine s_g hG ?_
 refine aq ?_ ?_
 ·intro hb0
  try simp only[bt] at hb0
  refine s_g hG ?_
  refine az ?_
  refine aA ?_
  refine q_e [] ?_
  exact ic hb0
 ·intro hb0
  try simp only[bf] at hb0
  have n0:=iH hb0
  have n1:=iI hb0
  have nl:=gj hb0
  have hE:=hD hb0
  refine ar ?_
  refine ah ?_
  refine s_d hG ?_ ?_
  ·try simp only[ba]
   simp only[NT] at n0 n1
   simp only[n0,n1,nl,aI]
   exact⟨by decide,by decide,hE.1,hE.2.1,by rw[aB];exact hE.2.2⟩
  refine az ?_
  refine q_e [] ?_
  simp only[NT] at n0 n1
  simp only[n0,n1,aI]
  exact jF (f:=jR) hb0
def qx(B:aj):Tab:={types:= [(22,(.slice .str))],elems:= [],cons:= [(54,nV)],hint:= [],N:=11,base:=B}
theorem Ab{B:aj}(hB:aC B):aH Tryz.prog (qx B):=⟨⟨tc gr (ae),af,by simp only[qx,ioB];omega⟩,aF (cc Tryz.func54 (vq hB) (ay)),by kernel_rfl⟩
def lh:Con:=fun l os=>match l,os with
 | [.z (.slice .str) p], []=>some (c6 p, [.z (.int .i64) (cL p)], [])
 |_,_=>none
theorem vr{B:aj}(hB:aC B):Valid B Tryz.prog 14 lh:=by
 refine ab (Ab hB).tab Tryz.func14 rfl rfl rfl ?_
 intro args os C rs os' hc hC
 unfold lh at hc
 split at hc
 case h_2=>cases hc
 rename_i p
 cases hc
 refine v_h (Ab hB) fun X hP hT hr hG=> ?_
 have hU:=qx.eq_1
 unfold qx at hT
 have hX:= @nV.eq_1
 simp only[Tryz.f14,aD,al,ioB]
 refine s_g hG ?_
 refine s_q hG ?_ ?_
 ·try simp only[ba]
  exact hC
 refine s_g hG ?_
 refine az ?_
 refine q_e [] ?_
 trivial
def qy(B:aj):Tab:={types:= [(22,(.slice .str))],elems:= [],cons:= [(55,qh)],hint:= [],N:=11,base:=B}
theorem Ac{B:aj}(hB:aC B):aH Tryz.prog (qy B):=⟨⟨tc gr (ae),af,by simp only[qy,ioB];omega⟩,aF (cc Tryz.func55 (GP hB) (ay)),by kernel_rfl⟩
def vu:Con:=fun l os=>match l,os with
 | [.z (.slice .str) p, .z (.slice .str) q], []=>some (bN (fun p q=>Sz QH p/\Sz QH q/\p.length<=1000/\q.length<=1000) (bH (· + ·)) p q, [.z (.slice .str) (cU (bH (· + ·)) p q), .z (.int .i64) (cT (bH (· + ·)) p q)], [])
 |_,_=>none
theorem vv{B:aj}(hB:aC B):Valid B Tryz.prog 15 vu:=by
 refine ab (Ac hB).tab Tryz.func15 rfl rfl rfl ?_
 intro args os C rs os' hc hC
 unfold vu at hc
 split at hc
 case h_2=>cases hc
 rename_i p q
 cases hc
 refine v_h (Ac hB) fun X hP hT hr hG=> ?_
 have hU:=qy.eq_1
 unfold qy at hT
 have hX:= @qh.eq_1
 simp only[Tryz.f15,aD,al,ioB]
 refine s_g hG ?_
 refine s_q hG ?_ ?_
 ·try simp only[ba]
  exact hC
 refine az ?_
 refine q_e [] ?_
 trivial
def qz(B:aj):Tab:={types:= [(22,(.slice .str))],elems:= [],cons:= [(55,ql)],hint:= [],N:=11,base:=B}
theorem Ad{B:aj}(hB:aC B):aH Tryz.prog (qz B):=⟨⟨tc gr (ae),af,by simp only[qz,ioB];omega⟩,aF (cc Tryz.func55 (GR hB) (ay)),by kernel_rfl⟩
def EJ:Con:=fun l os=>match l,os with
 | [.z (.slice .str) p, .z (.slice .str) q], []=>some (bN (fun p q=>Sz QH p/\Sz QH q/\p.length<=1000/\q.length<=1000) (bH (· - ·)) p q, [.z (.slice .str) (cU (bH (· - ·)) p q), .z (.int .i64) (cT (bH (· - ·)) p q)], [])
 |_,_=>none
theorem GX{B:aj}(hB:aC B):Valid B Tryz.prog 16 EJ:=by
 refine ab (Ad hB).tab Tryz.func16 rfl rfl rfl ?_
 intro args os C rs os' hc hC
 unfold EJ at hc
 split at hc
 case h_2=>cases hc
 rename_i p q
 cases hc
 refine v_h (Ad hB) fun X hP hT hr hG=> ?_
 have hU:=qz.eq_1
 unfold qz at hT
 have hX:= @ql.eq_1
 simp only[Tryz.f16,aD,al,ioB]
 refine s_g hG ?_
 refine s_q hG ?_ ?_
 ·try simp only[ba]
  exact hC
 refine az ?_
 refine q_e [] ?_
 trivial
def qA(B:aj):Tab:={types:= [(22,(.slice .str))],elems:= [],cons:= [(55,qn)],hint:= [],N:=11,base:=B}
theorem Ae{B:aj}(hB:aC B):aH Tryz.prog (qA B):=⟨⟨tc gr (ae),af,by simp only[qA,ioB];omega⟩,aF (cc Tryz.func55 (GS hB) (ay)),by kernel_rfl⟩
def vw:Con:=fun l os=>match l,os with
 | [.z (.slice .str) p, .z (.slice .str) q], []=>some (bN (fun p q=>Sz QM p/\Sz QM q/\p.length<=100/\q.length<=100) cE p q, [.z (.slice .str) (cU cE p q), .z (.int .i64) (cT cE p q)], [])
 |_,_=>none
theorem vx{B:aj}(hB:aC B):Valid B Tryz.prog 17 vw:=by
 refine ab (Ae hB).tab Tryz.func17 rfl rfl rfl ?_
 intro args os C rs os' hc hC
 unfold vw at hc
 split at hc
 case h_2=>cases hc
 rename_i p q
 cases hc
 refine v_h (Ae hB) fun X hP hT hr hG=> ?_
 have hU:=qA.eq_1
 unfold qA at hT
 have hX:= @qn.eq_1
 simp only[Tryz.f17,aD,al,ioB]
 refine s_g hG ?_
 refine s_q hG ?_ ?_
 ·try simp only[ba]
  exact hC
 refine az ?_
 refine q_e [] ?_
 trivial
def qB(B:aj):Tab:={types:= [(22,(.slice .str))],elems:= [],cons:= [(55,qp)],hint:= [],N:=11,base:=B}
theorem Af{B:aj}(hB:aC B):aH Tryz.prog (qB B):=⟨⟨tc gr (ae),af,by simp only[qB,ioB];omega⟩,aF (cc Tryz.func55 (GT hB) (ay)),by kernel_rfl⟩
def EK:Con:=fun l os=>match l,os with
 | [.z (.slice .str) p, .z (.slice .str) q], []=>some (bN (iF) cx p q, [.z (.slice .str) (cU cx p q), .z (.int .i64) (cT cx p q)], [])
 |_,_=>none
theorem GY{B:aj}(hB:aC B):Valid B Tryz.prog 24 EK:=by
 refine ab (Af hB).tab Tryz.func24 rfl rfl rfl ?_
 intro args os C rs os' hc hC
 unfold EK at hc
 split at hc
 case h_2=>cases hc
 rename_i p q
 cases hc
 refine v_h (Af hB) fun X hP hT hr hG=> ?_
 have hU:=qB.eq_1
 unfold qB at hT
 have hX:= @qp.eq_1
 simp only[Tryz.f24,aD,al,ioB]
 refine s_g hG ?_
 refine s_q hG ?_ ?_
 ·try simp only[ba]
  exact hC
 refine az ?_
 refine q_e [] ?_
 trivial
def B9:Con:=iO [some (.slice .str),some (.slice .str)] EK
theorem Ca{B:aj}(hB:aC B):Valid B Tryz.prog 24 B9:=e9 _ (GY hB)
def qC(B:aj):Tab:={types:= [(22,(.slice .str))],elems:= [],cons:= [(55,s5)],hint:= [],N:=8,base:=B}
theorem Ag{B:aj}(hB:aC B):aH Tryz.prog (qC B):=⟨⟨tc gr (ae),af,by simp only[qC,ioB];omega⟩,aF (cc Tryz.func55 (B7 hB) (ay)),by kernel_rfl⟩
def EL:Con:=fun l os=>match l,os with
 | [.z (.slice .str) p], []=>some (bN (fun p _=>Sz QH p/\p.length<=1000) (fun a _=>cr a) p [], [.z (.slice .str) (cU (fun a _=>cr a) p []), .z (.int .i64) (cT (fun a _=>cr a) p [])], [])
 |_,_=>none
theorem GZ{B:aj}(hB:aC B):Valid B Tryz.prog 29 EL:=by
 refine ab (Ag hB).tab Tryz.func29 rfl rfl rfl ?_
 intro args os C rs os' hc hC
 unfold EL at hc
 split at hc
 case h_2=>cases hc
 rename_i p
 cases hc
 refine v_h (Ag hB) fun X hP hT hr hG=> ?_
 have hU:=qC.eq_1
 unfold qC at hT
 have hX:=ai @qs.eq_1<| @s5.eq_1
 simp only[Tryz.f29,aD,al,ioB]
 refine s_g hG ?_
 refine s_q hG ?_ ?_
 ·try simp only[ba]
  exact hC
 refine az ?_
 refine q_e [] ?_
 trivial
def qD(B:aj):Tab:={types:= [(22,(.slice .str))],elems:= [],cons:= [(55,s6)],hint:= [],N:=8,base:=B}
theorem Ah{B:aj}(hB:aC B):aH Tryz.prog (qD B):=⟨⟨tc gr (ae),af,by simp only[qD,ioB];omega⟩,aF (cc Tryz.func55 (B8 hB) (ay)),by kernel_rfl⟩
def EM:Con:=fun l os=>match l,os with
 | [.z (.slice .str) p], []=>some (bN (fun p _=>lF p) (fun a _=>cq a) p [], [.z (.slice .str) (cU (fun a _=>cq a) p []), .z (.int .i64) (cT (fun a _=>cq a) p [])], [])
 |_,_=>none
theorem G0{B:aj}(hB:aC B):Valid B Tryz.prog 30 EM:=by
 refine ab (Ah hB).tab Tryz.func30 rfl rfl rfl ?_
 intro args os C rs os' hc hC
 unfold EM at hc
 split at hc
 case h_2=>cases hc
 rename_i p
 cases hc
 refine v_h (Ah hB) fun X hP hT hr hG=> ?_
 have hU:=qD.eq_1
 unfold qD at hT
 have hX:=ai @qu.eq_1<| @s6.eq_1
 simp only[Tryz.f30,aD,al,ioB]
 refine s_g hG ?_
 refine s_q hG ?_ ?_
 ·try simp only[ba]
  exact hC
 refine az ?_
 refine q_e [] ?_
 trivial
def qE(B:aj):Tab:={types:= [(3,(.int .i64)),(31,(.int .i64)),(44,(.slice (.slice .str))),(79,(.slice (.st (.pair (.st (.pair .bool (.slice (.int .u32)))) (.st (.pair .bool (.slice (.int .u32)))))))),(98,(.slice (.slice (.st (.pair (.st (.pair .bool (.slice (.int .u32)))) (.st (.pair .bool (.slice (.int .u32)))))))))],elems:= [(44,22)],cons:= [(67,fg),(68,oM),(69,dR)],hint:= [],N:=53,base:=B}
theorem Ai{B:aj}(hB:aC B):aH Tryz.prog (qE B):=⟨⟨tc ty3 (tc ll (tc tn (tc fA (tc tv (ae))))),aS (by kernel_rfl) (af),by simp only[qE,ioB];omega⟩,aF (cc Tryz.func67 (eE hB) (cc Tryz.func68 (nT hB) (cc Tryz.func69 (fh hB) (ay)))),by kernel_rfl⟩
def nW:Con:=fun l os=>match l,os with
 | [.z (.slice .str) p, .z (.slice .str) q], []=>some (l8 p q, [.z (.slice .str) (dvS p q), .z (.slice .str) (dvR p q), .z (.int .i64) (dvE p q)], [])
 |_,_=>none
theorem vy{B:aj}(hB:aC B):Valid B Tryz.prog 23 nW:=by
 refine ab (Ai hB).tab Tryz.func23 rfl rfl rfl ?_
 intro args os C rs os' hc hC
 unfold nW at hc
 split at hc
 case h_2=>cases hc
 rename_i p q
 cases hc
 refine v_h (Ai hB) fun X hP hT hr hG=> ?_
 have hU:=qE.eq_1
 unfold qE at hT
 have hX:=ai @fg.eq_1<|ai @oM.eq_1<| @dR.eq_1
 simp only[Tryz.f23,aD,al,ioB]
 refine s_g hG ?_
 refine s_q hG ?_ ?_
 ·try simp only[ba]
  exact(gk hC.sp hC.sq).2
 refine ak ?_
 refine s_g hG ?_
 refine aq ?_ ?_
 ·intro hb0
  try simp only[bt] at hb0
  refine s_g hG ?_
  refine az ?_
  refine aA ?_
  refine q_e [] ?_
  exact Jk hb0
 ·intro hb0
  try simp only[bf] at hb0
  have n0:=iH hb0
  have n1:=iI hb0
  have nl:=gj hb0
  simp only[NT] at n0 n1
  refine ar ?_
  refine ah ?_
  refine ak ?_
  refine s_q hG ?_ ?_
  ·try simp only[ba]
   rw[nl]
   decide
  refine aq ?_ ?_
  ·intro hb1
   try simp only[bt] at hb1
   simp only[n1] at hb1
   have hq:(aG (bc q)).length=0:=by have h9:((aG (bc q)).length:Int)=0:=hb1;omega
   refine s_g hG ?_
   refine az ?_
   refine aA ?_
   refine q_e [] ?_
   exact Jl hb0 hq
  ·intro hb1
   try simp only[bf] at hb1
   simp only[n1] at hb1
   have hq: ¬ (aG (bc q)).length=0:=by intro h8;exact hb1 (by show ((aG (bc q)).length:Int)=0;omega)
   have hne:=Lw hq
   obtain⟨k1,k2,k3⟩:=hC.ok hb0 hne
   refine ar ?_
   refine ah ?_
   refine s_d hG ?_ ?_
   ·try simp only[ba]
    simp only[n0,n1,nl]
    exact⟨by decide,by decide,k1⟩
   refine s_q hG ?_ ?_
   ·try simp only[ba]
    simp only[n0,n1,aI]
    exact k2
   refine ak ?_
   refine s_g hG ?_
   refine aq ?_ ?_
   ·intro hb2
    try simp only[bt] at hb2
    refine s_g hG ?_
    refine az ?_
    refine aA ?_
    refine q_e [] ?_
    simp only[n0,n1,aI] at hb2 ⊢
    exact Lx hb0 hne hb2
   ·intro hb2
    try simp only[bf] at hb2
    refine ar ?_
    refine ah ?_
    refine s_q hG ?_ ?_
    ·try simp only[ba]
     simp only[n0,n1,aI]
     exact k3
    refine ak ?_
    refine s_g hG ?_
    refine aq ?_ ?_
    ·intro hb3
     try simp only[bt] at hb3
     refine s_g hG ?_
     refine az ?_
     refine aA ?_
     refine q_e [] ?_
     simp only[n0,n1,aI] at hb2 hb3 ⊢
     exact Ly hb0 hne hb2 hb3
    ·intro hb3
     try simp only[bf] at hb3
     refine ar ?_
     refine ah ?_
     refine s_g hG ?_
     refine az ?_
     refine q_e [] ?_
     simp only[n0,n1,aI] at hb2 hb3 ⊢
     exact Lz hb0 hne hb2 hb3
def w8:Con:=iO [some (.slice .str),some (.slice .str)] nW
theorem Cb{B:aj}(hB:aC B):Valid B Tryz.prog 23 w8:=e9 _ (vy hB)
def qF(B:aj):Tab:={types:= [(3,(.int .i64)),(22,(.slice .str)),(31,(.int .i64))],elems:= [],cons:= [(14,lh),(55,qw)],hint:= [],N:=39,base:=B}
theorem Aj{B:aj}(hB:aC B):aH Tryz.prog (qF B):=⟨⟨tc ty3 (tc gr (tc ll (ae))),af,by simp only[qF,ioB];omega⟩,aF (cc Tryz.func14 (vr hB) (cc Tryz.func55 (GW hB) (ay))),by kernel_rfl⟩
def w9:Con:=fun l os=>match l,os with
 | [.z (.slice .str) p, .z (.slice .str) q], []=>some (wq p q, [.z (.slice .str) (uF p q), .z (.int .i64) (uE p q)], [])
 |_,_=>none
theorem G1{B:aj}(hB:aC B):Valid B Tryz.prog 31 w9:=by
 refine ab (Aj hB).tab Tryz.func31 rfl rfl rfl ?_
 intro args os C rs os' hc hC
 unfold w9 at hc
 split at hc
 case h_2=>cases hc
 rename_i p q
 cases hc
 refine v_h (Aj hB) fun X hP hT hr hG=> ?_
 have hU:=qF.eq_1
 unfold qF at hT
 have hX:=ai @qw.eq_1<| @lh.eq_1
 simp only[Tryz.f31,aD,al,ioB]
 refine s_g hG ?_
 refine ak ?_
 refine s_q hG ?_ ?_
 ·try simp only[ba]
  exact⟨hC.sp,fun h=>⟨h,hC.sq⟩,id,id,id,id,id,id,id,id,id⟩
 refine aq ?_ ?_
 ·intro hb0
  have hL:=of_decide_eq_true (Jn hb0)
  refine s_g hG ?_
  refine az ?_
  refine aA ?_
  refine q_e [] ?_
  exact M4 hL
 ·intro hb0
  have hL:=of_decide_eq_false (Jn hb0)
  refine ar ?_
  refine ah ?_
  refine s_q hG ?_ ?_
  ·try simp only[ba]
   exact hC.ok hL
  refine az ?_
  refine q_e [] ?_
  exact M5 hL
def xb:Con:=iO [some (.slice .str),some (.slice .str)] w9
theorem Cc{B:aj}(hB:aC B):Valid B Tryz.prog 31 xb:=e9 _ (G1 hB)
def qG(B:aj):Tab:={types:= [(22,(.slice .str)),(31,(.int .i64)),(44,(.slice (.slice .str))),(46, .str),(78,(.slice (.st (.pair (.st (.pair .bool (.slice (.int .u32)))) (.st (.pair .bool (.slice (.int .u32)))))))),(79,(.slice (.st (.pair (.st (.pair .bool (.slice (.int .u32)))) (.st (.pair .bool (.slice (.int .u32)))))))),(91,(.st (.pair (.st (.pair .bool (.slice (.int .u32)))) (.st (.pair .bool (.slice (.int .u32))))))),(98,(.slice (.slice (.st (.pair (.st (.pair .bool (.slice (.int .u32)))) (.st (.pair .bool (.slice (.int .u32)))))))))],elems:= [(44,22),(78,91)],cons:= [(67,fg),(87,lf),(88,nQ),(89,ED),(90,oL)],hint:= [],N:=41,base:=B}
theorem Ak{B:aj}(hB:aC B):aH Tryz.prog (qG B):=⟨⟨tc gr (tc ll (tc tn (tc mD (tc K7 (tc fA (tc ty91 (tc tv (ae)))))))),aS (by kernel_rfl) (aS (by kernel_rfl) (af)),by simp only[qG,ioB];omega⟩,aF (cc Tryz.func67 (eE hB) (cc Tryz.func87 (vf hB) (cc Tryz.func88 (vg hB) (cc Tryz.func89 (GF hB) (cc Tryz.func90 (nP hB) (ay)))))),by kernel_rfl⟩
def xc:Con:=fun l os=>match l,os with
 | [.z (.slice .str) p, .z .str x], []=>some (Jo p x, [.z .str (evS p x), .z (.int .i64) (evE p x)], [])
 |_,_=>none
theorem G2{B:aj}(hB:aC B):Valid B Tryz.prog 36 xc:=by
 refine ab (Ak hB).tab Tryz.func36 rfl rfl rfl ?_
 intro args os C rs os' hc hC
 unfold xc at hc
 split at hc
 case h_2=>cases hc
 rename_i p x
 cases hc
 refine v_h (Ak hB) fun X hP hT hr hG=> ?_
 have hU:=qG.eq_1
 unfold qG at hT
 have hX:=ai @fg.eq_1<|ai @lf.eq_1<|ai @ED.eq_1<|ai @oL.eq_1<| @nQ.eq_1
 simp only[Tryz.f36,aD,al,ioB]
 refine s_g hG ?_
 refine s_q hG ?_ ?_
 ·try simp only[ba]
  exact(Jq hC).2
 refine ak ?_
 refine s_g hG ?_
 refine aq ?_ ?_
 ·intro hb0
  try simp only[bt] at hb0
  refine s_g hG ?_
  refine az ?_
  refine aA ?_
  refine q_e [] ?_
  exact M7 hb0
 ·intro hb0
  try simp only[bf] at hb0
  have n0:=NL hb0
  have nl:=M6 hb0
  simp only[NT] at n0
  refine ar ?_
  refine ah ?_
  refine ak ?_
  refine s_q hG ?_ ?_
  ·try simp only[ba]
   exact hC.sx
  refine s_g hG ?_
  refine aq ?_ ?_
  ·intro hb1
   try simp only[bt] at hb1
   refine s_g hG ?_
   refine az ?_
   refine aA ?_
   refine q_e [] ?_
   exact LA hb0 hb1
  ·intro hb1
   try simp only[bf] at hb1
   have h9:df x=0:=by simpa using hb1
   obtain⟨k1,k2,k3,k4⟩:=hC.ok hb0 h9
   obtain⟨c1,c2⟩:=nC h9 hC.sx
   refine ar ?_
   refine ah ?_
   refine s_d hG ?_ ?_
   ·try simp only[ba]
    simp only[n0,nl,c2,aI,aM]
    exact Jr c1 k1 k2 k3 k4
   refine ak ?_
   refine s_g hG ?_
   refine aq ?_ ?_
   ·intro hb2
    try simp only[bt] at hb2
    refine s_g hG ?_
    refine az ?_
    refine aA ?_
    refine q_e [] ?_
    simp only[n0,c2,aI,aM,yK] at hb2
    exact M8 hb0 h9 (by simpa using hb2)
   ·intro hb2
    try simp only[bf] at hb2
    refine ar ?_
    refine ah ?_
    refine s_q hG ?_ ?_
    ·try simp only[ba]
     simp only[n0,c2,aI,aM] at hb2 ⊢
     exact F3 (by simpa using hb2) _
    refine az ?_
    refine q_e [] ?_
    simp only[n0,c2,aI,aM,yK] at hb2 ⊢
    exact LD hb0 h9 (by simpa using hb2)
def xd:Con:=iO [some (.slice .str),none] xc
theorem Cd{B:aj}(hB:aC B):Valid B Tryz.prog 36 xd:=e9 _ (G2 hB)
def qH(B:aj):Tab:={types:= [],elems:= [],cons:= [],hint:= [],N:=4,base:=B}
theorem Al{B:aj}(hB:aC B):aH Tryz.prog (qH B):=⟨⟨ae,af,by simp only[qH,ioB];omega⟩,bL rfl,by kernel_rfl⟩
def Mm:Con:=fun l os=>match l,os with
 | [.z (.slice .str) p], []=>some (True, [.z (.slice .str) p], [])
 |_,_=>none
theorem G3{B:aj}(hB:aC B):Valid B Tryz.prog 45 Mm:=by
 refine ab (Al hB).tab Tryz.func45 rfl rfl rfl ?_
 intro args os C rs os' hc hC
 unfold Mm at hc
 split at hc
 case h_2=>cases hc
 rename_i p
 cases hc
 refine v_h (Al hB) fun X hP hT hr hG=> ?_
 have hU:=qH.eq_1
 unfold qH at hT
 have hX:=Bool.not_true
 simp only[Tryz.f45,aD,al,ioB]
 refine s_g hG ?_
 refine s_g hG ?_
 refine az ?_
 refine q_e [] ?_
 trivial
def qI(B:aj):Tab:={types:= [(22,(.slice .str)),(31,(.int .i64))],elems:= [],cons:= [(28,kB)],hint:= [],N:=13,base:=B}
theorem Am{B:aj}(hB:aC B):aH Tryz.prog (qI B):=⟨⟨tc gr (tc ll (ae)),af,by simp only[qI,ioB];omega⟩,aF (cc Tryz.func28 (nL hB) (ay)),by kernel_rfl⟩
def G4:Con:=fun l os=>match l,os with
 | [.z (.slice .str) p, .z (.int .i64) e, .z (.ptr (.slice .str)) q], []=>some (p.length<=QL/\q.length<=QL, [.z .bool (decide (e=0/\p=q))], [])
 |_,_=>none
theorem vz{B:aj}(hB:aC B):Valid B Tryz.prog 94 G4:=by
 refine ab (Am hB).tab Tryz.func94 rfl rfl rfl ?_
 intro args os C rs os' hc hC
 unfold G4 at hc
 split at hc
 case h_2=>cases hc
 rename_i p e q
 cases hc
 refine v_h (Am hB) fun X hP hT hr hG=> ?_
 have hU:=qI.eq_1
 unfold qI at hT
 have hX:= @kB.eq_1
 simp only[Tryz.f94,aD,al,ioB]
 refine s_g hG ?_
 refine s_q hG ?_ ?_
 ·try simp only[ba]
  exact⟨fun h=>⟨h,hC⟩,id⟩
 refine az ?_
 refine q_e [] ?_
 exact Nn _ _ _
def qJ(B:aj):Tab:={types:= [(22,(.slice .str))],elems:= [],cons:= [],hint:= [],N:=4,base:=B}
theorem An{B:aj}(hB:aC B):aH Tryz.prog (qJ B):=⟨⟨tc gr (ae),af,by simp only[qJ,ioB];omega⟩,bL rfl,by kernel_rfl⟩
def G5:Con:=fun l os=>match l,os with
 | [.z (.slice .str) p], []=>some (True, [.fn 94 [.z (.ptr (.slice .str)) p]], [])
 |_,_=>none
theorem vA{B:aj}(hB:aC B):Valid B Tryz.prog 41 G5:=by
 refine ab (An hB).tab Tryz.func41 rfl rfl rfl ?_
 intro args os C rs os' hc hC
 unfold G5 at hc
 split at hc
 case h_2=>cases hc
 rename_i p
 cases hc
 refine v_h (An hB) fun X hP hT hr hG=> ?_
 have hU:=qJ.eq_1
 unfold qJ at hT
 have hX:=Bool.not_true
 simp only[Tryz.f41,aD,al,ioB]
 refine s_g hG ?_
 refine s_g hG ?_
 refine az ?_
 refine q_e [] ?_
 rfl
def Kz:Con:=iO [some (.slice .str)] G5
theorem Ce{B:aj}(hB:aC B):Valid B Tryz.prog 41 Kz:=e9 _ (vA hB)
def qK(B:aj):Tab:={types:= [(3,(.int .i64)),(22,(.slice .str)),(31,(.int .i64)),(46, .str)],elems:= [(22,46)],cons:= [(14,lh),(15,vu),(16,EJ),(17,vw),(23,w8),(24,B9),(28,wU),(29,EL),(30,EM),(31,xb),(36,xd),(41,Kz),(45,Mm),(94,G4)],hint:= [],N:=218,base:=B}
theorem Ao{B:aj}(hB:aC B):aH Tryz.prog (qK B):=⟨⟨tc ty3 (tc gr (tc ll (tc mD (ae)))),aS (by kernel_rfl) (af),by simp only[qK,ioB];omega⟩,aF (cc Tryz.func14 (vr hB) (cc Tryz.func15 (vv hB) (cc Tryz.func16 (GX hB) (cc Tryz.func17 (vx hB) (cc Tryz.func23 (Cb hB) (cc Tryz.func24 (Ca hB) (cc Tryz.func28 (B4 hB) (cc Tryz.func29 (GZ hB) (cc Tryz.func30 (G0 hB) (cc Tryz.func31 (Cc hB) (cc Tryz.func36 (Cd hB) (cc Tryz.func41 (Ce hB) (cc Tryz.func45 (G3 hB) (cc Tryz.func94 (vz hB) (ay))))))))))))))),by kernel_rfl⟩
def qL:Con:=fun l os=>match l,os with
 | [], []=>some (True, [.z .bool true], [])
 |_,_=>none
set_option maxHeartbeats 2000000 in
theorem G6{B:aj}(hB:aC B):Valid B Tryz.prog 11 qL:=by
 refine ab (Ao hB).tab Tryz.func11 rfl rfl rfl ?_
 intro args os C rs os' hc hC
 unfold qL at hc
 split at hc
 case h_2=>cases hc
 cases hc
 refine v_h (Ao hB) fun X hP hT hr hG=> ?_
 have hU:=qK.eq_1
 unfold qK at hT
 have hX:=ai @G5.eq_1<|ai @Kz.eq_1<|ai @G4.eq_1<|ai @Mm.eq_1<|ai @vu.eq_1<|ai @lh.eq_1<|ai @w9.eq_1<|ai @xb.eq_1<|ai @EL.eq_1<|ai @nW.eq_1<|ai @w8.eq_1<|ai @xc.eq_1<|ai @xd.eq_1<|ai @EK.eq_1<|ai @B9.eq_1<|ai @vw.eq_1<|ai @EM.eq_1<|ai @EJ.eq_1<|ai @kB.eq_1<|ai @wU.eq_1<| @List.append_eq.{0}
 simp only[Tryz.f11,aD,al,ioB]
 refine s_g hG ?_
 refine cm (fun(z:Unit)=>(⟨[(0, .l (.z .bool false)),(1, .l (.z (.slice .str) [[49], [49], [49]])),(2, .l (.z (.slice .str) [])),(3, .l (.z (.int .i64) 0))], []⟩:aa)) (fun z=>True) ?_ ?_
 ·refine ag hG ?_ ?_
  ·try simp only[ba]
   exact BU (n:=4) (K:=1) (by decide+kernel) (by decide+kernel)
  show ∃ z,_
  refine q_l ?_
  exact wp1
 rintro⟨⟩-
 refine cm (fun(z:Unit)=>(⟨[(0, .l (.z .bool false)),(1, .l (.z (.slice .str) [[49], [49], [49]])),(2, .l (.z (.slice .str) [])),(3, .l (.z (.int .i64) 0)),(4, .l (.z (.slice .str) [[48], [49,47,50]])),(5, .l (.z (.slice .str) [[49]])),(6, .l (.z (.int .i64) 0))], []⟩:aa)) (fun z=>True) ?_ ?_
 ·refine ag hG ?_ ?_
  ·try simp only[ba]
   exact BU (n:=4) (K:=1) (by decide+kernel) (by decide+kernel)
  show ∃ z,_
  refine q_l ?_
  exact wp2
 rintro⟨⟩-
 refine cm (fun(z:Unit)=>(⟨[(0, .l (.z .bool false)),(1, .l (.z (.slice .str) [[49], [49], [49]])),(2, .l (.z (.slice .str) [])),(3, .l (.z (.int .i64) 0)),(4, .l (.z (.slice .str) [[48], [49,47,50]])),(5, .l (.z (.slice .str) [[49]])),(6, .l (.z (.int .i64) 0)),(9, .l (.z (.int .i64) 2))], []⟩:aa)) (fun z=>True) ?_ ?_
 ·refine ag hG ?_ ?_
  ·try simp only[ba]
   exact BU (n:=4) (K:=1) (by decide+kernel) (by decide+kernel)
  show ∃ z,_
  refine q_l ?_
  exact wp3
 rintro⟨⟩-
 refine cm (fun(z:Unit)=>(⟨[(0, .l (.z .bool false)),(1, .l (.z (.slice .str) [[49], [49], [49]])),(2, .l (.z (.slice .str) [])),(3, .l (.z (.int .i64) 0)),(4, .l (.z (.slice .str) [[48], [49,47,50]])),(5, .l (.z (.slice .str) [[49]])),(6, .l (.z (.int .i64) 0)),(9, .l (.z (.int .i64) 2)),(10, .l (.z .str [53,47,52])),(11, .l (.z (.int .i64) 0))], []⟩:aa)) (fun z=>True) ?_ ?_
 ·refine ag hG ?_ ?_
  ·try simp only[ba]
   exact Jz (n:=4) (K:=1) (by decide+kernel) (by decide)
  show ∃ z,_
  refine q_l ?_
  exact wp4
 rintro⟨⟩-
 refine cm (fun(z:Unit)=>(⟨[(0, .l (.z .bool false)),(1, .l (.z (.slice .str) [[49], [49], [49]])),(2, .l (.z (.slice .str) [])),(3, .l (.z (.int .i64) 0)),(4, .l (.z (.slice .str) [[48], [49,47,50]])),(5, .l (.z (.slice .str) [[49]])),(6, .l (.z (.int .i64) 0)),(9, .l (.z (.int .i64) 2)),(10, .l (.z .str [53,47,52])),(11, .l (.z (.int .i64) 0)),(13, .l (.z (.int .i64) 5))], []⟩:aa)) (fun z=>True) ?_ ?_
 ·refine ag hG ?_ ?_
  ·try simp only[ba]
   exact Jz (n:=4) (K:=1) (by decide+kernel) (by decide)
  show ∃ z,_
  refine q_l ?_
  exact wp5
 rintro⟨⟩-
 refine cm (fun(z:Unit)=>(⟨[(0, .l (.z .bool false)),(14, .l (.z .bool true))], []⟩:aa)) (fun z=>True) ?_ ?_
 ·refine ag hG ?_ ?_
  ·try simp only[ba]
   exact wsq
  show ∃ z,_
  refine q_l ?_
  rfl
 rintro⟨⟩-
 refine cm (fun(z:Unit)=>(⟨[(0, .l (.z .bool false)),(14, .l (.z .bool true))], []⟩:aa)) (fun z=>True) ?_ ?_
 ·refine ag hG ?_ ?_
  ·try simp only[ba]
   simp[wp6.1,wp6.2,wp7.1,wp7.2,wp8.1,wp8.2,wp9.1,wp9.2,LU.1,LU.2,LW.1,LW.2,ok6,ok7,ok8,ok9,N8,N9,QL]
  show ∃ z,_
  refine q_l ?_
  simp[wp6.1,wp6.2,wp7.1,wp7.2,wp8.1,wp8.2,wp9.1,wp9.2,LU.1,LU.2,LW.1,LW.2]
 rintro⟨⟩-
 refine cm (fun(z:Unit)=>(⟨[(0, .l (.z .bool false)),(14, .l (.z .bool true))], []⟩:aa)) (fun z=>True) ?_ ?_
 ·refine ag hG ?_ ?_
  ·try simp only[ba]
   simp[LX.1,LX.2,LY.1,LY.2,LZ.1,LZ.2,L0.1,L0.2,Oa,Ob,Oc,Od,QL]
  show ∃ z,_
  refine q_l ?_
  simp[LX.1,LX.2,LY.1,LY.2,LZ.1,LZ.2,L0.1,L0.2]
 rintro⟨⟩-
 refine s_q hG ?_ ?_
 ·try simp only[ba]
  simp[L1.1,L1.2,NW.1,NW.2]
 refine az ?_
 refine q_e [] ?_
 simp[L1.1,L1.2]
def qM(B:aj):Tab:={types:= [(3,(.int .i64)),(22,(.slice .str)),(46, .str)],elems:= [],cons:= [],hint:= [],N:=13,base:=B}
theorem Ap{B:aj}(hB:aC B):aH Tryz.prog (qM B):=⟨⟨tc ty3 (tc gr (tc mD (ae))),af,by simp only[qM,ioB];omega⟩,bL rfl,by kernel_rfl⟩
def xe:Con:=fun l os=>match l,os with
 | [.z (.slice .str) p, .z (.int .i64) i], []=>some (GL QK p/\0<=i, [.z .str (bp (cf (nl p) i.toNat))], [])
 |_,_=>none
theorem G7{B:aj}(hB:aC B):Valid B Tryz.prog 63 xe:=by
 refine ab (Ap hB).tab Tryz.func63 rfl rfl rfl ?_
 intro args os C rs os' hc hC
 unfold xe at hc
 split at hc
 case h_2=>cases hc
 rename_i p i
 cases hc
 refine v_h (Ap hB) fun X hP hT hr hG=> ?_
 have hU:=qM.eq_1
 unfold qM at hT
 have hX:=Bool.not_true
 simp only[Tryz.f63,aD,al,ioB]
 obtain⟨hp,hi⟩:=hC
 obtain⟨n,rfl⟩:=Int.eq_ofNat_of_zero_le hi
 rw[Int.toNat_natCast]
 refine s_g hG ?_
 refine ak ?_
 refine s_g hG ?_
 refine aq ?_ ?_
 ·intro hb0
  try simp only[bt] at hb0
  refine s_q hG ?_ ?_
  ·try simp only[ba]
   exact⟨by omega,hb0⟩
  refine az ?_
  refine aA ?_
  refine q_e [] ?_
  exact mP hp (by omega)
 ·intro hb0
  try simp only[bf] at hb0
  refine ar ?_
  refine ah ?_
  refine s_g hG ?_
  refine az ?_
  refine q_e [] ?_
  exact JK (by omega)
def qN(B:aj):Tab:={types:= [(3,(.int .i64)),(22,(.slice .str)),(46, .str)],elems:= [],cons:= [],hint:= [],N:=21,base:=B}
theorem Aq{B:aj}(hB:aC B):aH Tryz.prog (qN B):=⟨⟨tc ty3 (tc gr (tc mD (ae))),af,by simp only[qN,ioB];omega⟩,bL rfl,by kernel_rfl⟩
def iU:Con:=fun l os=>match l,os with
 | [.z (.slice .str) p], []=>some (GL QK p/\p.length<=1000000000, [.z (.slice .str) (txP (aR (nl p)))], [])
 |_,_=>none
theorem jJ{B:aj}(hB:aC B):Valid B Tryz.prog 64 iU:=by
 refine ab (Aq hB).tab Tryz.func64 rfl rfl rfl ?_
 intro args os C rs os' hc hC
 unfold iU at hc
 split at hc
 case h_2=>cases hc
 rename_i p
 cases hc
 refine v_h (Aq hB) fun X hP hT hr hG=> ?_
 have hU:=qN.eq_1
 unfold qN at hT
 have hX:=Bool.not_true
 simp only[Tryz.f64,aD,al,ioB]
 obtain⟨l0,rfl,hl0⟩:=hC.1.ex
 have hn:=hC.2
 rw[bY] at hn
 rw[kr]
 refine s_g hG ?_
 refine ak ?_
 refine au ?_
 refine br (fun(z:List Rat)=>(⟨[(0, .l (.z (.slice .str) (txP z))),(2, .l (.val (.slice none 0 0)))], []⟩:aa)) (fun z=>z.length<=l0.length/\(∀ x∈z,lq x<=QK)/\aR z=aR l0) (fun z=>z.length) l0 ?_ ?_ ?_
 ·simp only[ml0,ml1,Nat.reduceLT,Nat.reduceEqDiff,Nat.reduceAdd,Nat.reduceMul,Nat.reduceSub,Nat.reduceLeDiff,Nat.reduceBEq,Nat.reduceBNe,reduceIte,reduceDIte,reduceCtorEq]
 ·exact⟨Nat.le_refl _,hl0,rfl⟩
 ·rintro l ⟨g1,g2,g3⟩
  try dsimp only at g1 g2 g3
  refine ak ?_
  refine s_q hG ?_ ?_
  ·try simp only[ba]
   exact⟨id,id,fun h=>BW (l:=l) (by omega) h,id⟩
  refine aq ?_ ?_
  ·intro hb0
   try simp only[bt] at hb0
   have ht:=LO (l:=l) (by omega) hb0.1 hb0.2
   obtain⟨n1,n2,n3,n4,n5⟩:=BX (by omega) g1 g2 g3 ht
   refine ar ?_
   refine ah ?_
   refine au ?_
   refine ag hG ?_ ?_
   ·try simp only[ba]
    rw[bY,cd (by omega)]
    omega
   refine aP ?_
   show ∃ z,_
   refine q_l ?_
   exact⟨l.dropLast,n1,n2,n3,n4,n5⟩
  ·intro hb0
   try simp only[bf] at hb0
   have ht:=LP (l:=l) (by omega) hb0
   refine bg ?_
   refine aE ?_
   refine ax ?_
   refine aw ?_
   refine ah ?_
   refine s_g hG ?_
   refine az ?_
   refine q_e [] ?_
   rw[<- g3,ht]
def qO(B:aj):Tab:={types:= [(3,(.int .i64)),(22,(.slice .str)),(46, .str)],elems:= [(22,46)],cons:= [(62,Eo),(63,xe),(64,iU)],hint:= [27],N:=31,base:=B}
theorem Ar{B:aj}(hB:aC B):aH Tryz.prog (qO B):=⟨⟨tc ty3 (tc gr (tc mD (ae))),aS (by kernel_rfl) (af),by simp only[qO,ioB];omega⟩,aF (cc Tryz.func62 (Gp hB) (cc Tryz.func63 (G7 hB) (cc Tryz.func64 (jJ hB) (ay)))),by kernel_rfl⟩
def xf:Con:=fun l os=>match l,os with
 | [.z (.slice .str) p, .z (.slice .str) q], []=>some (GL QK2 p/\GL QK2 q/\p.length<=1000000/\q.length<=1000000, [.z (.slice .str) (txP (bH (· + ·) (nl p) (nl q)))], [])
 |_,_=>none
theorem G8{B:aj}(hB:aC B):Valid B Tryz.prog 20 xf:=by
 refine ab (Ar hB).tab Tryz.func20 rfl rfl rfl ?_
 intro args os C rs os' hc hC
 unfold xf at hc
 split at hc
 case h_2=>cases hc
 rename_i p q
 cases hc
 refine v_h (Ar hB) fun X hP hT hr hG=> ?_
 have hU:=qO.eq_1
 unfold qO at hT
 have hX:=ai @Eo.eq_1<|ai @xe.eq_1<| @iU.eq_1
 simp only[Tryz.f20,aD,al,ioB]
 obtain⟨hp,hq,hl1,hl2⟩:=hC
 refine s_g hG ?_
 refine s_g hG ?_
 refine ak ?_
 refine s_g hG ?_
 refine au ?_
 refine br (fun(z:Nat)=>(⟨[(0, .l (.z (.slice .str) p)),(1, .l (.z (.slice .str) q)),(4, .l (.val (.slice none 0 0))),(5, .l (.ownS 28)),(6, .l (.z (.int .i64) (z:Int)))], [(28, .arr .str 46 (txP (bK (· + ·) (nl p) (nl q) z)))]⟩:aa)) (fun z=>z<=max p.length q.length) (fun z=>max p.length q.length-z) 0 ?_ ?_ ?_
 ·refine q_l ?_
  exact⟨rfl,by unfold ioB;omega,rfl⟩
 ·omega
 ·rintro k g1
  try dsimp only at g1
  refine ak ?_
  refine s_g hG ?_
  refine aq ?_ ?_
  ·intro hb0
   have hk:=NQ hb0
   refine ar ?_
   refine ah ?_
   refine ak ?_
   refine au ?_
   refine ag hG ?_ ?_
   ·try simp only[ba]
    exact B3 hp hq (by omega)
   refine aP ?_
   refine ah ?_
   refine ag hG ?_ ?_
   ·first|trivial|omega|(simp;done)|(simp;omega)
   show ∃ z,_
   refine q_l ?_
   exact BZ (by omega) (by omega)
  ·intro hb0
   have hk:=NR hb0
   refine bg ?_
   refine aE ?_
   refine ax ?_
   refine aw ?_
   refine ah ?_
   refine s_q hG ?_ ?_
   ·try simp only[ba]
    exact⟨Gd hp hq k,by rw[bY,et];omega⟩
   refine az ?_
   refine q_e [] ?_
   exact JL g1 hk
def qP(B:aj):Tab:={types:= [(3,(.int .i64)),(22,(.slice .str)),(46, .str)],elems:= [(22,46)],cons:= [(64,iU),(84,Ep)],hint:= [20],N:=24,base:=B}
theorem As{B:aj}(hB:aC B):aH Tryz.prog (qP B):=⟨⟨tc ty3 (tc gr (tc mD (ae))),aS (by kernel_rfl) (af),by simp only[qP,ioB];omega⟩,aF (cc Tryz.func64 (jJ hB) (cc Tryz.func84 (Gq hB) (ay))),by kernel_rfl⟩
def qQ:Con:=fun l os=>match l,os with
 | [.z .str c, .z (.slice .str) p], []=>some (GQ QK2 c/\GL QK2 p/\p.length<=1000000, [.z (.slice .str) (txP (eW (bD c) (nl p)))], [])
 |_,_=>none
theorem G9{B:aj}(hB:aC B):Valid B Tryz.prog 65 qQ:=by
 refine ab (As hB).tab Tryz.func65 rfl rfl rfl ?_
 intro args os C rs os' hc hC
 unfold qQ at hc
 split at hc
 case h_2=>cases hc
 rename_i c p
 cases hc
 refine v_h (As hB) fun X hP hT hr hG=> ?_
 have hU:=qP.eq_1
 unfold qP at hT
 have hX:=ai @Ep.eq_1<| @iU.eq_1
 simp only[Tryz.f65,aD,al,ioB]
 obtain⟨hc,hp,hl1⟩:=hC
 refine s_g hG ?_
 refine s_g hG ?_
 refine ak ?_
 refine s_g hG ?_
 refine au ?_
 refine br (fun(z:Nat)=>(⟨[(0, .l (.z .str c)),(1, .l (.z (.slice .str) p)),(4, .l (.val (.slice none 0 0))),(5, .l (.ownS 21)),(6, .l (.z (.int .i64) (z:Int)))], [(21, .arr .str 46 (txP (((nl p).take z).map fun x=>bD c*x)))]⟩:aa)) (fun z=>z<=p.length) (fun z=>p.length-z) 0 ?_ ?_ ?_
 ·refine q_l ?_
  exact⟨rfl,by unfold ioB;omega,rfl⟩
 ·omega
 ·rintro k g1
  try dsimp only at g1
  refine ak ?_
  refine s_g hG ?_
  refine aq ?_ ?_
  ·intro hb0
   try simp only[bt] at hb0
   have hk:k<p.length:=by have h9:(k:Int)<(p.length:Int):=hb0;omega
   refine ar ?_
   refine ah ?_
   refine ak ?_
   refine au ?_
   refine ag hG ?_ ?_
   ·try simp only[ba]
    exact yU hc hp hl1 hk
   refine aP ?_
   refine ah ?_
   refine ag hG ?_ ?_
   ·first|trivial|omega|(simp;done)|(simp;omega)
   show ∃ z,_
   refine q_l ?_
   exact yQ hp hk hl1
  ·intro hb0
   try simp only[bf] at hb0
   have hk: ¬k<p.length:=by have h9: ¬ (k:Int)<(p.length:Int):=hb0;omega
   refine bg ?_
   refine aE ?_
   refine ax ?_
   refine aw ?_
   refine ah ?_
   refine s_q hG ?_ ?_
   ·try simp only[ba]
    exact⟨B0 hc hp k,by rw[bY,List.length_map,List.length_take,iR];omega⟩
   refine az ?_
   refine q_e [] ?_
   exact Ge hk
def qR(B:aj):Tab:={types:= [(3,(.int .i64)),(22,(.slice .str))],elems:= [(22,46)],cons:= [(64,iU)],hint:= [13],N:=19,base:=B}
theorem At{B:aj}(hB:aC B):aH Tryz.prog (qR B):=⟨⟨tc ty3 (tc gr (ae)),aS (by kernel_rfl) (af),by simp only[qR,ioB];omega⟩,aF (cc Tryz.func64 (jJ hB) (ay)),by kernel_rfl⟩
def qS:Con:=fun l os=>match l,os with
 | [.z (.slice .str) p, .z (.int .i64) n], []=>some (GL QK p/\0<=n/\n<=1000000/\p.length<=1000000, [.z (.slice .str) (txP (ij n.toNat (nl p)))], [])
 |_,_=>none
theorem Ha{B:aj}(hB:aC B):Valid B Tryz.prog 66 qS:=by
 refine ab (At hB).tab Tryz.func66 rfl rfl rfl ?_
 intro args os C rs os' hc hC
 unfold qS at hc
 split at hc
 case h_2=>cases hc
 rename_i p n
 cases hc
 refine v_h (At hB) fun X hP hT hr hG=> ?_
 have hU:=qR.eq_1
 unfold qR at hT
 have hX:= @iU.eq_1
 simp only[Tryz.f66,aD,al,ioB]
 obtain⟨hp,hn1,hn2,hl1⟩:=hC
 obtain⟨n,rfl⟩:=Int.eq_ofNat_of_zero_le hn1
 rw[Int.toNat_natCast]
 have hn3:n<=1000000:=by have h9:(n:Int)<=1000000:=hn2;omega
 refine s_g hG ?_
 refine s_g hG ?_
 refine ak ?_
 refine s_g hG ?_
 refine au ?_
 refine br (fun(z:Nat)=>(⟨[(0, .l (.z (.slice .str) p)),(1, .l (.z (.int .i64) (n:Int))),(4, .l (.val (.slice none 0 0))),(5, .l (.ownS 14)),(6, .l (.z (.int .i64) (z:Int)))], [(14, .arr .str 46 (List.replicate z [48]))]⟩:aa)) (fun z=>z<=n) (fun z=>n-z) 0 ?_ ?_ ?_
 ·refine q_l ?_
  exact⟨rfl,by unfold ioB;omega,rfl⟩
 ·omega
 ·rintro k g1
  try dsimp only at g1
  refine ak ?_
  refine s_g hG ?_
  refine aq ?_ ?_
  ·intro hb0
   try simp only[bt] at hb0
   refine ar ?_
   refine ah ?_
   refine ak ?_
   refine au ?_
   refine ag hG ?_ ?_
   ·try simp only[ba]
    exact sU (by rw[List.length_replicate];omega)
   refine aP ?_
   refine ah ?_
   refine ag hG ?_ ?_
   ·first|trivial|omega|(simp;done)|(simp;omega)
   show ∃ z,_
   refine q_l ?_
   exact⟨k+1,wi (by omega) (by omega),JM k,by omega,by omega⟩
  ·intro hb0
   try simp only[bf] at hb0
   obtain rfl:k=n:=by have h9: ¬ (k:Int)<(n:Int):=hb0;omega
   refine bg ?_
   refine aE ?_
   refine ax ?_
   refine aw ?_
   refine ah ?_
   refine s_q hG ?_ ?_
   ·try simp only[ba]
    exact⟨sU (by rw[List.length_replicate];omega),B1 hp k,by rw[List.length_append,List.length_replicate];omega⟩
   refine az ?_
   refine q_e [] ?_
   exact Gg
def qT(B:aj):Tab:={types:= [(3,(.int .i64)),(22,(.slice .str)),(46, .str)],elems:= [],cons:= [(20,xf),(65,qQ),(66,qS)],hint:= [],N:=24,base:=B}
theorem Au{B:aj}(hB:aC B):aH Tryz.prog (qT B):=⟨⟨tc ty3 (tc gr (tc mD (ae))),af,by simp only[qT,ioB];omega⟩,aF (cc Tryz.func20 (G8 hB) (cc Tryz.func65 (G9 hB) (cc Tryz.func66 (Ha hB) (ay)))),by kernel_rfl⟩
def xg:Con:=fun l os=>match l,os with
 | [.z (.slice .str) p, .z (.slice .str) q], []=>some (JQ p q, [.z (.slice .str) (txP (eG (nl p) (nl q) p.length))], [])
 |_,_=>none
theorem Hb{B:aj}(hB:aC B):Valid B Tryz.prog 22 xg:=by
 refine ab (Au hB).tab Tryz.func22 rfl rfl rfl ?_
 intro args os C rs os' hc hC
 unfold xg at hc
 split at hc
 case h_2=>cases hc
 rename_i p q
 cases hc
 refine v_h (Au hB) fun X hP hT hr hG=> ?_
 have hU:=qT.eq_1
 unfold qT at hT
 have hX:=ai @xf.eq_1<|ai @qQ.eq_1<| @qS.eq_1
 simp only[Tryz.f22,aD,al,ioB]
 have hl1:=hC.2.2.1
 refine s_g hG ?_
 refine s_g hG ?_
 refine ak ?_
 refine s_g hG ?_
 refine au ?_
 refine br (fun(z:Nat)=>(⟨[(0, .l (.z (.slice .str) p)),(1, .l (.z (.slice .str) q)),(4, .l (.val (.slice none 0 0))),(5, .l (.z (.slice .str) (txP (eG (nl p) (nl q) z)))),(6, .l (.z (.int .i64) (z:Int)))], []⟩:aa)) (fun z=>z<=p.length) (fun z=>p.length-z) 0 ?_ ?_ ?_
 ·refine q_l ?_
  exact⟨rfl,rfl⟩
 ·omega
 ·rintro k g1
  try dsimp only at g1
  refine ak ?_
  refine s_g hG ?_
  refine aq ?_ ?_
  ·intro hb0
   try simp only[bt] at hb0
   have hk:k<p.length:=by have h9:(k:Int)<(p.length:Int):=hb0;omega
   refine ar ?_
   refine ah ?_
   refine ak ?_
   refine au ?_
   refine ag hG ?_ ?_
   ·try simp only[ba]
    exact⟨⟨by omega,hb0⟩,Gh hC hk⟩
   refine aP ?_
   refine ah ?_
   refine ag hG ?_ ?_
   ·first|trivial|omega|(simp;done)|(simp;omega)
   show ∃ z,_
   refine q_l ?_
   obtain⟨w,w1,w2,w3⟩:=B2 hC hk
   exact⟨w,w2,w1,w3⟩
  ·intro hb0
   try simp only[bf] at hb0
   have hk: ¬k<p.length:=by have h9: ¬ (k:Int)<(p.length:Int):=hb0;omega
   refine bg ?_
   refine aE ?_
   refine ax ?_
   refine aw ?_
   refine ah ?_
   refine s_g hG ?_
   refine az ?_
   refine q_e [] ?_
   exact JR g1 hk
def qU(B:aj):Tab:={types:= [(3,(.int .i64)),(5,(.int .u8)),(22,(.slice .str)),(23,(.slice (.int .i8))),(25,(.st (.pair (.slice (.int .i8)) (.pair (.int .u8) (.slice (.int .i8)))))),(71,(.int .i8))],elems:= [(22,46)],cons:= [(22,xg),(64,iU),(85,Me)],hint:= [],N:=59,base:=B}
theorem Av{B:aj}(hB:aC B):aH Tryz.prog (qU B):=⟨⟨tc ty3 (tc ty5 (tc gr (tc N5 (tc Nw (tc N6 (ae)))))),aS (by kernel_rfl) (af),by simp only[qU,ioB];omega⟩,aF (cc Tryz.func22 (Hb hB) (cc Tryz.func64 (jJ hB) (cc Tryz.func85 (Gn hB) (ay)))),by kernel_rfl⟩
def qV:Con:=fun l os=>match l,os with
 | [.z (.st (.pair (.slice (.int .i8)) (.pair (.int .u8) (.slice (.int .i8))))) d], []=>some (kt d, [.z (.slice .str) (txP (mQ d))], [])
 |_,_=>none
theorem Hc{B:aj}(hB:aC B):Valid B Tryz.prog 40 qV:=by
 refine ab (Av hB).tab Tryz.func40 rfl rfl rfl ?_
 intro args os C rs os' hc hC
 unfold qV at hc
 split at hc
 case h_2=>cases hc
 rename_i d
 cases hc
 refine v_h (Av hB) fun X hP hT hr hG=> ?_
 have hU:=qU.eq_1
 unfold qU at hT
 have hX:=ai @xg.eq_1<|ai @Me.eq_1<| @iU.eq_1
 simp only[Tryz.f40,aD,al,ioB]
 have hD:=hC
 refine s_g hG ?_
 refine s_g hG ?_
 refine ak ?_
 refine s_g hG ?_
 refine au ?_
 refine br (fun(z:Nat)=>(⟨[(1, .l (.z (.ptr (.st (.pair (.slice (.int .i8)) (.pair (.int .u8) (.slice (.int .i8)))))) d)),(2, .l (.val (.slice none 0 0))),(3, .l (.ownS 32)),(4, .l (.z (.int .i64) (z:Int)))], [(32, .arr .str 46 (txP (ik d z)))]⟩:aa)) (fun z=>z<=d.1.length/\z<=5) (fun z=>5-z) 0 ?_ ?_ ?_
 ·refine q_l ?_
  exact⟨rfl,by unfold ioB;omega,rfl⟩
 ·omega
 ·rintro k g1
  try dsimp only at g1
  refine ak ?_
  refine s_g hG ?_
  refine aq ?_ ?_
  ·intro hb0
   have hk:=Mw (n:=5) hb0
   refine ar ?_
   refine ah ?_
   refine ak ?_
   refine au ?_
   refine w6 32 44 (by simp only[aa.toRow,LV.toRow,ioB,mx0,mx1,mx2,mx3,mx4,mx5,mx6,Nat.reduceLT,Nat.reduceEqDiff,Nat.reduceAdd,Nat.reduceMul,Nat.reduceSub,Nat.reduceLeDiff,Nat.reduceBEq,Nat.reduceBNe,reduceIte,reduceDIte,reduceCtorEq];rfl) ?_
   refine gp hG ?_ ?_
   ·try simp only[ba]
    exact Gk hD hk
   refine aP ?_
   refine ah ?_
   refine pT 32 1 (by simp only[aa.ofRow,LV.ofRow,ioB,List.set_cons_zero,List.set_cons_succ,List.append_nil,List.nil_append,List.cons_append,List.getElem?_cons_zero,List.getElem?_cons_succ,Option.getD_some,mx0,mx1,mx2,mx3,mx4,mx5,mx6,Nat.reduceLT,Nat.reduceEqDiff,Nat.reduceAdd,Nat.reduceMul,Nat.reduceSub,Nat.reduceLeDiff,Nat.reduceBEq,Nat.reduceBNe,reduceIte,reduceDIte,reduceCtorEq];rfl) ?_
   refine ag hG ?_ ?_
   ·first|trivial|omega|(simp;done)|(simp;omega)
   show ∃ z,_
   refine q_l ?_
   exact Gl hD hk
  ·intro hb0
   have hk:=Mx (n:=5) hb0
   refine bg ?_
   refine aE ?_
   refine ax ?_
   refine aw ?_
   refine ah ?_
   refine s_q hG ?_ ?_
   ·try simp only[ba]
    exact⟨(Dx hD k).1,Nj (Dx hD k).2 g1⟩
   refine ak ?_
   refine s_g hG ?_
   refine au ?_
   refine br (fun(z:Nat)=>(⟨[(1, .l (.z (.ptr (.st (.pair (.slice (.int .i8)) (.pair (.int .u8) (.slice (.int .i8)))))) d)),(2, .l (.val (.slice none 0 0))),(3, .l (.z (.slice .str) (txP (lp d z)))),(5, .l (.z (.int .i64) (z:Int)))], []⟩:aa)) (fun z=>z<=d.2.2.length/\z<=4) (fun z=>4-z) 0 ?_ ?_ ?_
   ·refine q_l ?_
    exact⟨Nm hk g1,rfl⟩
   ·omega
   ·rintro k2 g2
    try dsimp only at g2
    refine ak ?_
    refine s_g hG ?_
    refine aq ?_ ?_
    ·intro hb1
     have hk2:=Mw (n:=4) hb1
     refine ar ?_
     refine ah ?_
     refine ak ?_
     refine au ?_
     refine ag hG ?_ ?_
     ·try simp only[ba]
      exact Gi hD hk2
     refine aP ?_
     refine ah ?_
     refine ag hG ?_ ?_
     ·first|trivial|omega|(simp;done)|(simp;omega)
     show ∃ z,_
     refine q_l ?_
     exact Gj hD hk2
    ·intro hb1
     have hk2:=Mx (n:=4) hb1
     refine bg ?_
     refine aE ?_
     refine ax ?_
     refine aw ?_
     refine ah ?_
     refine s_g hG ?_
     refine az ?_
     refine q_e [] ?_
     exact Nl hk2 g2
def qW(B:aj):Tab:={types:= [(3,(.int .i64)),(22,(.slice .str)),(25,(.st (.pair (.slice (.int .i8)) (.pair (.int .u8) (.slice (.int .i8)))))),(31,(.int .i64))],elems:= [],cons:= [(11,qL),(15,vu),(17,vw),(23,nW),(28,kB),(40,qV),(41,G5),(94,G4)],hint:= [],N:=105,base:=B}
theorem Aw{B:aj}(hB:aC B):aH Tryz.prog (qW B):=⟨⟨tc ty3 (tc gr (tc Nw (tc ll (ae)))),af,by simp only[qW,ioB];omega⟩,aF (cc Tryz.func11 (G6 hB) (cc Tryz.func15 (vv hB) (cc Tryz.func17 (vx hB) (cc Tryz.func23 (vy hB) (cc Tryz.func28 (nL hB) (cc Tryz.func40 (Hc hB) (cc Tryz.func41 (vA hB) (cc Tryz.func94 (vz hB) (ay))))))))),by kernel_rfl⟩
def xh:Con:=fun l os=>match l,os with
 | [.z (.st (.pair (.slice (.int .i8)) (.pair (.int .u8) (.slice (.int .i8))))) d, .z (.st (.pair (.slice (.int .i8)) (.pair (.int .u8) (.slice (.int .i8))))) f], []=>some (kt d/\kt f, [.z .bool true], [])
 |_,_=>none
theorem Hd{B:aj}(hB:aC B):Valid B Tryz.prog 6 xh:=by
 refine ab (Aw hB).tab Tryz.func6 rfl rfl rfl ?_
 intro args os C rs os' hc hC
 unfold xh at hc
 split at hc
 case h_2=>cases hc
 rename_i d f
 cases hc
 refine v_h (Aw hB) fun X hP hT hr hG=> ?_
 have hU:=qW.eq_1
 unfold qW at hT
 have hX:=ai @qV.eq_1<|ai @G5.eq_1<|ai @G4.eq_1<|ai @vu.eq_1<|ai @nW.eq_1<|ai @vw.eq_1<|ai @kB.eq_1<|ai @qL.eq_1<| @List.append_eq.{0}
 simp only[Tryz.f6,aD,al,ioB]
 obtain⟨hd,hf⟩:=hC
 have hp:=uP hd
 have hq:=uP hf
 have pp:=hp.pol (by decide) (by decide)
 have pq:=hq.pol (by decide) (by decide)
 refine s_g hG ?_
 refine ak ?_
 refine s_g hG ?_
 refine aq ?_ ?_
 ·intro hb0
  cases hb0
 ·intro hb0
  try simp only[bf] at hb0
  refine ar ?_
  refine ah ?_
  refine s_d hG ?_ ?_
  ·try simp only[ba]
   exact⟨hd,hf⟩
  refine s_q hG ?_ ?_
  ·try simp only[ba]
   exact Js hp hq
  refine ak ?_
  refine s_g hG ?_
  refine aq ?_ ?_
  ·intro hb1
   have e0:txP (mQ f)= []:=by rw[Jt.1 (beq_iff_eq.1 hb1)];rfl
   obtain⟨d0,d1,d2,d3⟩:=yL pp
   simp only[e0,d1,d2,d3]
   refine s_q hG ?_ ?_
   ·try simp only[ba]
    decide
   refine az ?_
   refine aA ?_
   refine q_e [] ?_
   decide
  ·intro hb1
   have h0:mQ f≠ []:=fun e=>(beq_eq_false_iff_ne.1 hb1) (Jt.2 e)
   obtain⟨s,r,m,ps,pr,pm,hlt,⟨d0,d1,d2,d3⟩,⟨m1,m2⟩,⟨t1,t2⟩,pt,⟨a1,a2⟩,u0,u1,u2,u3⟩:=oG hp hq h0
   simp only[d1,d2,d3]
   refine ar ?_
   refine ah ?_
   refine s_q hG ?_ ?_
   ·try simp only[ba]
    exact wo pq ps
   simp only[m1,m2]
   refine s_q hG ?_ ?_
   ·try simp only[ba]
    exact wo pp pq
   simp only[t1,t2]
   refine s_q hG ?_ ?_
   ·try simp only[ba]
    exact u0
   simp only[u1,u2,u3]
   refine s_q hG ?_ ?_
   ·try simp only[ba]
    have hl:(txP r).length<(txP (mQ f)).length:=by rw[bY,bY];exact hlt
    simp[hl,a1,a2,Dj pm pr,M9 pp]
   refine az ?_
   refine q_e [] ?_
   have hl:(txP r).length<(txP (mQ f)).length:=by rw[bY,bY];exact hlt
   simp[hl,a1,a2]
end Go.Proofs.YtdojbabpnaifoaaGreatDoor
end
section
namespace Go.Cm
open Go.RowKit Go.Deep Go.ChangeShapes Go.WideShapes
def Below(W W':World):Prop:=∀ b,b<W.heap.size->W'.heap[b]? =W.heap[b]?
theorem Below.cell{W W':World}(h:Below W W'){a:Addr}{v:Value}(hc:W.cell? a=some v):W'.cell? a=some v:=by
 rw[<- hc]
 exact World.cell?_of_block (h a.block (block_lt_of_cell hc))
def KA(P:Program)(w:Nat)(r:TypeId->Bool):Nat->List Field->Bool:=fun off fs=>match fs with
 | [f]=>f.offset==off&&P.cellsOf f.type==w&&r f.type
 |_=>false
def dS(P:Program)(w:Nat)(r:TypeId->Bool):(TypeId->Bool)×(Nat->List Field->Bool):=(r,KA P w r)
def Ty.rd(P:Program):Ty->(TypeId->Bool)×(Nat->List Field->Bool)
 | .int k=>dS P 1 fun T=>match P.underlying T with
  |some (.int k')=>decide (k'=k)
  |_=>false
 | .bool=>dS P 1 fun T=>match P.underlying T with
  |some .bool=>true
  |_=>false
 | .str=>dS P 1 fun T=>match P.underlying T with
  |some .string=>true
  |_=>false
 | .unit=>(fun _=>false,fun _ _=>false)
 | .pair a b=>(fun _=>false,fun off fs=>match fs with
  |f::r=>f.offset==off&&P.cellsOf f.type==a.w&&(a.rd P).1 f.type&&(b.rd P).2 (off+a.w) r
  | []=>false)
 | .st t=>dS P t.w fun T=>match P.underlying T with
  |some (.struct fs)=>P.cellsOf T==t.w&&(t.rd P).2 0 fs.toList
  |_=>false
 | .arr n t=>dS P (n*t.w) fun T=>match P.underlying T with
  |some (.array m E)=>m==n&&P.cellsOf E==t.w&&P.cellsOf T==n*t.w&&(t.rd P).1 E
  |_=>false
 | .slice t=>dS P 1 fun T=>match P.underlying T with
  |some (.slice E)=>P.cellsOf E==t.w&&decide (0<t.w)&&(t.rd P).1 E
  |_=>false
 | .ptr _=>(fun _=>false,fun _ _=>false)
 | .opt _=>(fun _=>false,fun _ _=>false)
 | .func=>(fun _=>false,fun _ _=>false)
def Ty.okD:(t:Ty)->t.D->Prop
 | .int k,x=>k.min<=x/\x<=k.max
 | .bool,_=>True
 | .str,x=>x.length<=maxLen
 | .unit,_=>True
 | .pair a b,x=>a.okD x.1/\b.okD x.2
 | .st t,x=>t.okD x
 | .arr n t,x=>x.length=n/\∀ y∈x,t.okD y
 | .slice t,x=>x.length<=maxLen/\∀ y∈x,t.okD y
 | .ptr t,x=>t.okD x
 | .opt t,x=>∀ y,x=some y->t.okD y
 | .func,_=>True
section
variable {H:Type} (enc:TypeId×Value->H) (P:Program) (W:World)
def kD(t:Ty)(T:TypeId)(cs:List Value)(d:DataW H)(ps:List MemPlace):Prop:=
 ∃ x:t.D,t.okD x/\t.rep (fun _=>False) W cs x/\
  ∀ (W':World) (sp:Nat->Bool),Below W W'->(∀ q∈ps,sp q.block=true)->∃ n,DataW.trod enc P W' 0 sp true n T cs=some (d,ps)
theorem mapM_at{α β:Type}{f:α->Option β}:∀ {l:List α} {xs:List β},l.mapM f=some xs->xs.length=l.length/\∀ (i:Nat) a,l[i]? =some a->f a=xs[i]?
 | [],xs,h=>by simp at h;subst h;simp
 |a::l,xs,h=>by
  simp only[List.mapM_cons,Option.bind_eq_bind,Option.bind_eq_some_iff,Option.pure_def,Option.some.injEq] at h
  obtain⟨y,hy,ys,hys,rfl⟩:=h
  obtain⟨h1,h2⟩:=mapM_at hys
  refine⟨by simp[h1],fun i b hb=> ?_⟩
  cases i with
  |zero=>simp at hb;subst hb;simpa using hy
  |succ i=>simp at hb ⊢;exact h2 i b hb
theorem mV{α β:Type}{f:α->Option β}:∀ {l:List α} {xs:List β},xs.length=l.length->(∀ (i:Nat) a,l[i]? =some a->f a=xs[i]?)->l.mapM f=some xs
 | [],xs,h,_=>by have:=List.eq_nil_of_length_eq_zero h;subst this;rfl
 |a::l, [],h,_=>by simp at h
 |a::l,x::xs,h,hf=>by
  have h0:=hf 0 a rfl
  simp at h0
  have:=mV (f:=f) (l:=l) (xs:=xs) (by simpa using h) (fun i b hb=>by have:=hf (i+1) b (by simpa using hb);simpa using this)
  simp[List.mapM_cons,h0,this]
theorem EN{α:Type}{R:List Value->α->Prop}{ok:α->Prop}{w:Nat}:∀ (n:Nat) (cs:List Value),cs.length=n*w->(∀ i,i<n->∃ x,ok x/\R ((cs.drop (i*w)).take w) x)->∃ xs:List α,xs.length=n/\(∀ x∈xs,ok x)/\cG R cs xs
 |0,cs,h,_=>⟨[],rfl,by simp,by simp[cG];exact List.eq_nil_of_length_eq_zero (by omega)⟩
 |n+1,cs,h,hx=>by
  obtain⟨x,h1,h2⟩:=hx 0 (by omega)
  simp only[Nat.zero_mul,List.drop_zero] at h2
  obtain⟨xs,g1,g2,g3⟩:=EN (R:=R) (ok:=ok) (w:=w) n (cs.drop w) (by rw[List.length_drop,h,Nat.succ_mul];omega) (fun i hi=>by
   obtain⟨y,k1,k2⟩:=hx (i+1) (by omega)
   refine⟨y,k1,?_⟩
   rw[List.drop_drop,show w+i*w=(i+1)*w by rw[Nat.succ_mul];omega]
   exact k2)
  refine⟨x::xs,by simp[g1],fun y hy=> ?_,cs.take w,cs.drop w,(List.take_append_drop _ _).symm,h2,g3⟩
  rcases List.mem_cons.1 hy with rfl|hy
  ·exact h1
  ·exact g2 y hy
theorem EO{α:Type}{R:List Value->α->Prop}{ok:α->Prop}{w:Nat}{a:Addr}:∀ (n:Nat),(∀ i,i<n->∃ c,c.length=w/\(∀ j,j<w->W.cell? (a.add (i*w+j))=c[j]?)/\∃ x,ok x/\R c x)->
  ∃ (cells:List Value) (xs:List α),cells.length=n*w/\xs.length=n/\(∀ x∈xs,ok x)/\cG R cells xs/\∀ k,k<n*w->W.cell? (a.add k)=cells[k]?
 |0,_=>⟨[], [],by simp,rfl,by simp,rfl,fun k hk=>by simp at hk⟩
 |n+1,h=>by
  obtain⟨cells,xs,h1,h2,h3,h4,h5⟩:=EO n (fun i hi=>h i (by omega))
  obtain⟨c,g1,g2,x,g3,g4⟩:=h n (by omega)
  refine⟨cells++c,xs++ [x],by rw[List.length_append,h1,g1,Nat.succ_mul],by simp[h2],fun y hy=> ?_,eX h4 (Hg g4),fun k hk=> ?_⟩
  ·rcases List.mem_append.1 hy with hy|hy
   ·exact h3 y hy
   ·simp at hy;subst hy;exact g3
  ·by_cases hlt:k<n*w
   ·rw[h5 k hlt,List.getElem?_append_left (by omega)]
   ·rw[Nat.succ_mul] at hk
    rw[List.getElem?_append_right (by omega),h1,<- g2 (k-n*w) (by omega),show n*w+(k-n*w)=k by omega]
theorem He{W:World}{b:Nat}{a:Addr}{n:Nat}{cs:List Value}(h:W.cells? b a n=some cs):cs.length=n/\∀ j,j<n->W.cell? (a.add j)=cs[j]? :=by
 unfold World.cells? at h
 split at h
 ·obtain⟨h1,h2⟩:=mapM_at h
  refine⟨by simpa using h1,fun j hj=>h2 j j (by simp[hj])⟩
 ·cases h
theorem KB{W:World}{a:Addr}{n:Nat}{cs:List Value}(h:cs.length=n)(hc:∀ j,j<n->W.cell? (a.add j)=cs[j]?):W.cells? 0 a n=some cs:=by
 unfold World.cells?
 rw[if_pos (Nat.zero_le _)]
 exact mV (by simpa using h) (fun i b hb=>by
  obtain⟨hi,e⟩:=List.getElem?_eq_some_iff.1 hb
  simp at hi e;subst e
  exact hc i hi)
theorem KC(t:Ty):(∀ T,(t.rd P).1 T=true->∀ fuel cs d ps,DataW.trod enc P W 0 (fun _=>true) true fuel T cs=some (d,ps)->kD enc P W t T cs d ps):=by
 have single:∀ (u:Ty) (w:Nat),u.w=w->(∀ T,(u.rd P).1 T=true->∀ fuel cs d ps,DataW.trod enc P W 0 (fun _=>true) true fuel T cs=some (d,ps)->kD enc P W u T cs d ps)->
   ∀ off fs,KA P w (u.rd P).1 off fs=true->∀ (fuel:Nat) (cs:List Value) (xs:List (DataW H×List MemPlace)),cs.length=off+u.w->fs.mapM (fun f=>DataW.trod enc P W 0 (fun _=>true) true fuel f.type ((cs.drop f.offset).take (P.cellsOf f.type)))=some xs->
   ∃ x:u.D,u.okD x/\u.rep (fun _=>False) W (cs.drop off) x/\∀ (W':World) (sp:Nat->Bool),Below W W'->(∀ q∈xs.flatMap (·.2),sp q.block=true)->∃ n,fs.mapM (fun f=>DataW.trod enc P W' 0 sp true n f.type ((cs.drop f.offset).take (P.cellsOf f.type)))=some xs:=by
  intro u w hw ih off fs hr fuel cs xs hl hm
  unfold KA at hr
  split at hr
  ·rename_i f
   simp only[Bool.and_eq_true,beq_iff_eq] at hr
   obtain⟨⟨h1,h2⟩,h3⟩:=hr
   rw[List.mapM_cons,Option.bind_eq_bind,Option.bind_eq_some_iff] at hm
   obtain⟨⟨d,ps⟩,hd,hm⟩:=hm
   simp at hm
   subst hm
   have hcut:(cs.drop f.offset).take (P.cellsOf f.type)=cs.drop off:=by
    rw[h1,h2];exact List.take_of_length_le (by rw[List.length_drop];omega)
   rw[hcut] at hd
   obtain⟨x,g1,g2,g3⟩:=ih _ h3 _ _ _ _ hd
   refine⟨x,g1,g2,fun W' sp hB hq=> ?_⟩
   obtain⟨n,hn⟩:=g3 W' sp hB (fun q hq'=>hq q (by simpa using hq'))
   exact⟨n,by simp[hcut,hn]⟩
  ·cases hr
 suffices key:(∀ T,(t.rd P).1 T=true->∀ fuel cs d ps,DataW.trod enc P W 0 (fun _=>true) true fuel T cs=some (d,ps)->kD enc P W t T cs d ps)/\
   ∀ off fs,(t.rd P).2 off fs=true->∀ (fuel:Nat) (cs:List Value) (xs:List (DataW H×List MemPlace)),cs.length=off+t.w->fs.mapM (fun f=>DataW.trod enc P W 0 (fun _=>true) true fuel f.type ((cs.drop f.offset).take (P.cellsOf f.type)))=some xs->
   ∃ x:t.D,t.okD x/\t.rep (fun _=>False) W (cs.drop off) x/\∀ (W':World) (sp:Nat->Bool),Below W W'->(∀ q∈xs.flatMap (·.2),sp q.block=true)->∃ n,fs.mapM (fun f=>DataW.trod enc P W' 0 sp true n f.type ((cs.drop f.offset).take (P.cellsOf f.type)))=some xs from key.1
 induction t with
 |int k=>
  have h:∀ T,((Ty.int k).rd P).1 T=true->∀ fuel cs d ps,DataW.trod enc P W 0 (fun _=>true) true fuel T cs=some (d,ps)->kD enc P W (.int k) T cs d ps:=by
   intro T hT fuel cs d ps h
   simp only[Ty.rd,dS] at hT
   split at hT
   ·rename_i k' hu
    simp only[decide_eq_true_eq] at hT
    subst hT
    obtain⟨z,rfl,he,hw⟩:=DataW.trod_int hu h
    cases he
    have h2:IntKind.min k'<=z/\z<=IntKind.max k':=by simpa [Lit.wf,IntKind.has] using hw
    exact⟨z,h2,rfl,fun W' sp _ _=>⟨1,trod_int_mk 0 hu hw⟩⟩
   ·cases hT
  exact⟨h,single (.int k) 1 rfl h⟩
 |bool=>
  have h:∀ T,(Ty.bool.rd P).1 T=true->∀ fuel cs d ps,DataW.trod enc P W 0 (fun _=>true) true fuel T cs=some (d,ps)->kD enc P W .bool T cs d ps:=by
   intro T hT fuel cs d ps h
   simp only[Ty.rd,dS] at hT
   split at hT
   ·rename_i hu
    obtain⟨z,rfl,he⟩:=DataW.trod_bool hu h
    cases he
    exact⟨z,trivial,rfl,fun W' sp _ _=>⟨1,by unfold DataW.trod;rw[hu]⟩⟩
   ·cases hT
  exact⟨h,single .bool 1 rfl h⟩
 |str=>
  have h:∀ T,(Ty.str.rd P).1 T=true->∀ fuel cs d ps,DataW.trod enc P W 0 (fun _=>true) true fuel T cs=some (d,ps)->kD enc P W .str T cs d ps:=by
   intro T hT fuel cs d ps h
   simp only[Ty.rd,dS] at hT
   split at hT
   ·rename_i hu
    obtain⟨z,rfl,he,hz⟩:=DataW.trod_string hu h
    cases he
    refine⟨z.data.toList,by simpa [Ty.okD] using hz,rfl,fun W' sp _ _=>shut_string_cell hu hz⟩
   ·cases hT
  exact⟨h,single .str 1 rfl h⟩
 |unit=>exact⟨fun T h=>by simp[Ty.rd] at h,fun off fs h=>by simp[Ty.rd] at h⟩
 |ptr t _=>exact⟨fun T h=>by simp[Ty.rd] at h,fun off fs h=>by simp[Ty.rd] at h⟩
 |opt t _=>exact⟨fun T h=>by simp[Ty.rd] at h,fun off fs h=>by simp[Ty.rd] at h⟩
 |func=>exact⟨fun T h=>by simp[Ty.rd] at h,fun off fs h=>by simp[Ty.rd] at h⟩
 |pair a b iha ihb=>
  refine⟨fun T h=>by simp[Ty.rd] at h,?_⟩
  intro off fs hr fuel cs xs hl hm
  simp only[Ty.rd] at hr
  split at hr
  ·rename_i f r
   simp only[Bool.and_eq_true,beq_iff_eq] at hr
   obtain⟨⟨⟨h1,h2⟩,h3⟩,h4⟩:=hr
   rw[List.mapM_cons,Option.bind_eq_bind,Option.bind_eq_some_iff] at hm
   obtain⟨⟨d,ps⟩,hd,hm⟩:=hm
   rw[Option.bind_eq_bind,Option.bind_eq_some_iff] at hm
   obtain⟨ys,hys,hm⟩:=hm
   simp at hm
   subst hm
   rw[h1,h2] at hd
   simp only[Ty.w] at hl
   obtain⟨x,g1,g2,g3⟩:=iha.1 _ h3 _ _ _ _ hd
   obtain⟨y,k1,k2,k3⟩:=ihb.2 _ _ h4 _ _ _ (by omega) hys
   refine⟨(x,y),⟨g1,k1⟩,⟨(cs.drop off).take a.w,cs.drop (off+a.w),?_,g2,k2⟩,fun W' sp hB hq=> ?_⟩
   ·rw[<- List.drop_drop,List.take_append_drop]
   ·obtain⟨n,hn⟩:=g3 W' sp hB (fun q hq'=>hq q (by simp[hq']))
    obtain⟨m,hm⟩:=k3 W' sp hB (fun q hq'=>hq q (by rw[List.flatMap_cons];exact List.mem_append_right _ hq'))
    refine⟨max n m,?_⟩
    rw[List.mapM_cons,h1,h2,DataW.trod_le (Nat.le_max_left n m) hn]
    have:r.mapM (fun f=>DataW.trod enc P W' 0 sp true (max n m) f.type ((cs.drop f.offset).take (P.cellsOf f.type)))=some ys:=by
     obtain⟨q1,q2⟩:=mapM_at hm
     refine mV q1 fun i f hf=> ?_
     have hi:i<ys.length:=by rw[q1];exact(List.getElem?_eq_some_iff.1 hf).1
     have:=q2 i f hf
     rw[List.getElem?_eq_getElem hi] at this ⊢
     exact DataW.trod_le (Nat.le_max_right n m) this
    simp[this]
  ·cases hr
 |st t ih=>
  have h:∀ T,((Ty.st t).rd P).1 T=true->∀ fuel cs d ps,DataW.trod enc P W 0 (fun _=>true) true fuel T cs=some (d,ps)->kD enc P W (.st t) T cs d ps:=by
   intro T hT fuel cs d ps h
   simp only[Ty.rd,dS] at hT
   split at hT
   ·rename_i fs hu
    simp only[Bool.and_eq_true,beq_iff_eq] at hT
    obtain⟨xs,n,rfl,he,hl,hxl,hx⟩:=DataW.trod_struct hu h
    cases he
    obtain⟨x,g1,g2,g3⟩:=ih.2 0 _ hT.2 n cs xs (by rw[hl,hT.1];omega) (mV (by rw[hxl];rfl) (fun i f hf=>hx i f (by simpa using hf)))
    refine⟨x,g1,(show t.rep (fun _=>False) W cs x by simpa using g2),fun W' sp hB hq=> ?_⟩
    obtain⟨m,hm⟩:=g3 W' sp hB hq
    exact⟨m+1,trod_struct_mk hu hl hm⟩
   ·cases hT
  exact⟨h,single (.st t) t.w rfl h⟩
 |arr n t ih=>
  have h:∀ T,((Ty.arr n t).rd P).1 T=true->∀ fuel cs d ps,DataW.trod enc P W 0 (fun _=>true) true fuel T cs=some (d,ps)->kD enc P W (.arr n t) T cs d ps:=by
   intro T hT fuel cs d ps h
   simp only[Ty.rd,dS] at hT
   split at hT
   ·rename_i m E hu
    simp only[Bool.and_eq_true,beq_iff_eq] at hT
    obtain⟨⟨⟨rfl,h2⟩,h3⟩,h4⟩:=hT
    obtain⟨xs,k,rfl,he,hl,hxl,hx⟩:=DataW.trod_array hu h
    cases he
    have each:∀ i,i<m->kD enc P W t E ((cs.drop (i*t.w)).take t.w) ((xs.map (·.1)).getD i .nil) ((xs.map (·.2)).getD i []):=by
     intro i hi
     have:=hx i hi
     rw[h2,List.getElem?_eq_getElem (by omega)] at this
     refine ih.1 E h4 k _ _ _ ?_
     rw[this]
     simp[List.getD_eq_getElem?_getD,List.getElem?_eq_getElem (show i<xs.length by omega)]
    obtain⟨ys,q1,q2,q3⟩:=EN (R:=fun c y=>t.rep (fun _=>False) W c y) (ok:=t.okD) m cs (by rw[hl,h3]) (fun i hi=>by obtain⟨x,e1,e2,_⟩:=each i hi;exact⟨x,e1,e2⟩)
    refine⟨ys,⟨q1,q2⟩,⟨q1,q3⟩,fun W' sp hB hq=> ?_⟩
    obtain⟨f,hf⟩:=fuel_lt (n:=m) (q:=fun i f=>DataW.trod enc P W' 0 sp true f E ((cs.drop (i*t.w)).take t.w)=xs[i]? /\i<xs.length) (fun i a b hab hi=>by
      cases hx':xs[i]? with
      |none=>exact absurd hi.2 (by rw[List.getElem?_eq_none_iff] at hx';omega)
      |some y=>rw[hx'] at hi;exact⟨DataW.trod_le hab hi.1,hi.2⟩) (fun i hi=>by
     obtain⟨_,_,_,e3⟩:=each i hi
     have hil:i<xs.length:=by omega
     obtain⟨f,hf⟩:=e3 W' sp hB (fun q hq'=>hq q (by
      rw[List.mem_flatMap]
      refine⟨xs[i],List.getElem_mem hil,?_⟩
      simpa [List.getD_eq_getElem?_getD,List.getElem?_eq_getElem hil] using hq'))
     refine⟨f,?_,hil⟩
     rw[hf,List.getElem?_eq_getElem hil]
     simp[List.getD_eq_getElem?_getD,List.getElem?_eq_getElem hil])
    refine⟨f+1,?_⟩
    have hmm:(List.range m).mapM (fun i=>DataW.trod enc P W' 0 sp true f E ((cs.drop (i*t.w)).take t.w))=some xs:=mV (by simpa using hxl) (fun i b hb=>by
     obtain⟨hi,e⟩:=List.getElem?_eq_some_iff.1 hb
     simp at hi e;subst e
     exact(hf i hi).1)
    unfold DataW.trod
    rw[hu]
    simp only[h2,hl,hmm,if_true,Option.map_some]
   ·cases hT
  exact⟨h,single (.arr n t) (n*t.w) rfl h⟩
 |slice t ih=>
  have h:∀ T,((Ty.slice t).rd P).1 T=true->∀ fuel cs d ps,DataW.trod enc P W 0 (fun _=>true) true fuel T cs=some (d,ps)->kD enc P W (.slice t) T cs d ps:=by
   intro T hT fuel cs d ps h
   simp only[Ty.rd,dS] at hT
   split at hT
   ·rename_i E hu
    simp only[Bool.and_eq_true,beq_iff_eq,decide_eq_true_eq] at hT
    obtain⟨⟨h1,h2⟩,h3⟩:=hT
    rcases open_slice hu h with⟨rfl,he⟩|⟨a,len,cap,m,k,D,Pl,rfl,hb,hl,hm,he1,he,hx⟩
    ·cases he
     exact⟨[],⟨by simp,by simp⟩, .inl ⟨rfl,rfl⟩,fun W' sp _ _=>⟨1,by unfold DataW.trod;rw[hu];rfl⟩⟩
    ·cases he
     simp only[if_true] at he1
     subst he1
     rw[h1] at hx
     have each:∀ i,i<m->∃ c,c.length=t.w/\(∀ j,j<t.w->W.cell? (a.add (i*t.w+j))=c[j]?)/\kD enc P W t E c (D i) (Pl i):=by
      intro i hi
      obtain⟨c,hc,hd⟩:=hx i hi
      obtain⟨g1,g2⟩:=He hc
      exact⟨c,g1,fun j hj=>by rw[<- g2 j hj,add_add],ih.1 E h3 k _ _ _ hd⟩
     obtain⟨cells,ys,q1,q2,q3,q4,q5⟩:=EO W (R:=fun c y=>t.rep (fun _=>False) W c y) (ok:=t.okD) (a:=a) len (fun i hi=>by
      obtain⟨c,e1,e2,x,e3,e4,_⟩:=each i (by omega)
      exact⟨c,e1,e2,x,e3,e4⟩)
     obtain⟨b,o,p⟩:=a
     have hp:0<m->p=none:=by
      intro hlen
      obtain⟨c,e1,e2,_⟩:=each 0 hlen
      have:=e2 0 h2
      rw[List.getElem?_eq_getElem (by omega)] at this
      simp only[Nat.zero_mul,Nat.add_zero] at this
      unfold World.cell? Addr.add at this
      split at this
      ·cases p with
       |none=>rfl
       |some _=>simp at this
      ·cases this
     have hne:ys≠ []->p=none:=fun h=>hp (by cases ys with
      |nil=>exact absurd rfl h
      |cons y ys=>simp at q2;omega)
     refine⟨ys,⟨by omega,q3⟩, .inr ⟨b,o,p,m,cells,by rw[q2],hne,by omega,hm,q4,fun _ h=>h,fun j hj=> ?_⟩,fun W' sp hB hq=> ?_⟩
     ·have hys:ys≠ []:=by
       intro e;subst e
       have e:cells= []:=q4
       subst e;simp at hj
      obtain rfl:=hne hys
      have:=q5 j (by omega)
      rw[<- this,addr_add]
      simp
     ·by_cases h0:m=0
      ·subst h0
       have hlen:len=0:=by omega
       subst hlen
       refine⟨1,?_⟩
       unfold DataW.trod
       rw[hu]
       simp[MemPlace.row,hm]
      ·have hs:sp b=true:=hq (.cell b o) (by
        simp only[MemPlace.row,List.mem_append,List.mem_map,List.mem_range]
        exact .inl ⟨0,by rw[h1];exact Nat.mul_pos (by omega) h2,by simp⟩)
       have:=shut_slice_whole_cells (enc:=enc) (w:=W') (base:=0) (spare:=sp) (held:=true) (a:=⟨b,o,p⟩) hu hb hl hm hs D Pl (fun i hi=>by
        obtain⟨c,e1,e2,x,e3,e4,e5⟩:=each i hi
        obtain⟨n,hn⟩:=e5 W' sp hB (fun q hq'=>hq q (by
         rw[List.mem_append];right
         rw[List.mem_flatMap];exact⟨i,by simpa using hi,hq'⟩))
        refine⟨c,n,?_,hn⟩
        rw[h1]
        refine KB e1 fun j hj=> ?_
        rw[add_add]
        have:=e2 j hj
        rw[List.getElem?_eq_getElem (by omega)] at this ⊢
        exact hB.cell this)
       exact this
   ·cases hT
  exact⟨h,single (.slice t) 1 rfl h⟩
end
end Go.Cm
end
section
namespace Go.Cm
open Go.RowKit Go.Deep Go.ChangeShapes Go.WideShapes Go.ChangeAt
def HL:List Ty->Type
 | []=>Unit
 |t::ts=>t.D×HL ts
def HL.args:(ts:List Ty)->HL ts->List LV
 | [],_=> []
 |t::ts,x=> .z t x.1::HL.args ts x.2
def HL.ok:(ts:List Ty)->HL ts->Prop
 | [],_=>True
 |t::ts,x=>t.okD x.1/\HL.ok ts x.2
theorem Nq{P:Program}{W:World}{r:Reach}{b0:Nat}{T:TypeId}{v:Value}(hv:Value.okWide P W r b0 T v):∀ {t:Ty},(t.rd P).1 T=true->ec v=t.isAgg
 | .int k,h=>by
  simp only[Ty.rd,dS] at h
  split at h
  ·rename_i hu;unfold Value.okWide at hv;rw[hu] at hv;simp only at hv;unfold Cell.okWide at hv;rw[hu] at hv
   cases v<;>simp_all [Cell.ok,ec,Ty.isAgg]
  ·cases h
 | .bool,h=>by
  simp only[Ty.rd,dS] at h
  split at h
  ·rename_i hu;unfold Value.okWide at hv;rw[hu] at hv;simp only at hv;unfold Cell.okWide at hv;rw[hu] at hv
   cases v<;>simp_all [Cell.ok,ec,Ty.isAgg]
  ·cases h
 | .str,h=>by
  simp only[Ty.rd,dS] at h
  split at h
  ·rename_i hu;unfold Value.okWide at hv;rw[hu] at hv;simp only at hv;unfold Cell.okWide at hv;rw[hu] at hv
   cases v<;>simp_all [Cell.ok,ec,Ty.isAgg]
  ·cases h
 | .slice t,h=>by
  simp only[Ty.rd,dS] at h
  split at h
  ·rename_i hu;unfold Value.okWide at hv;rw[hu] at hv;simp only at hv;unfold Cell.okWide at hv;rw[hu] at hv
   cases v<;>simp_all [Cell.ok,ec,Ty.isAgg]
  ·cases h
 | .st t,h=>by
  simp only[Ty.rd,dS] at h
  split at h
  ·rename_i hu;unfold Value.okWide at hv;rw[hu] at hv;simp only at hv
   obtain⟨cs,rfl,_⟩:=hv;rfl
  ·cases h
 | .arr n t,h=>by
  simp only[Ty.rd,dS] at h
  split at h
  ·rename_i hu;unfold Value.okWide at hv;rw[hu] at hv;simp only at hv
   obtain⟨cs,rfl,_⟩:=hv;rfl
  ·cases h
 | .unit,h=>by simp[Ty.rd] at h
 | .pair _ _,h=>by simp[Ty.rd] at h
 | .ptr _,h=>by simp[Ty.rd] at h
 | .opt _,h=>by simp[Ty.rd] at h
 | .func,h=>by simp[Ty.rd] at h
def s7(P:Program):List Ty->List TypeId->Bool
 | [], []=>true
 |t::ts,T::Ts=>(t.rd P).1 T&&s7 P ts Ts
 |_,_=>false
theorem Ax{H:Type}{enc:TypeId×Value->H}{P:Program}{W:World}{b0:Nat}:∀ (ts:List Ty) {Ts:List TypeId} {vs:List Value} {ds:List (DataW H)} {p:List MemPlace},s7 P ts Ts=true->
  (∀ (j:Nat) t v,Ts[j]? =some t->vs[j]? =some v->Value.okWide P W .any b0 t v)->DataW.TrodAll enc P W 0 (fun _=>true) true Ts vs ds p->
  ∃ x:HL ts,HL.ok ts x/\bz (aT (fun _=>False) W (fun _=>undef)) (HL.args ts x) vs/\ds.length=ts.length/\
   ∀ (W':World) (sp:Nat->Bool),Below W W'->(∀ q∈p,sp q.block=true)->DataW.TrodAll enc P W' 0 sp true Ts vs ds p
 | [], [],vs,ds,p,_,_,h=>by
  obtain⟨rfl,rfl,rfl⟩:=trodAll_nil h
  exact⟨(),trivial,trivial,rfl,fun _ _ _ _=>rfl⟩
 |t::ts,T::Ts,vs,ds,p,hr,hv,h=>by
  simp only[s7,Bool.and_eq_true] at hr
  obtain⟨v,vs',d,ds',p0,q,rfl,rfl,rfl,⟨n,h0⟩,hs⟩:=trodAll_cons h
  obtain⟨x,g1,g2,g3⟩:=KC enc P W t T hr.1 n _ _ _ h0
  obtain⟨y,k1,k2,k3,k4⟩:=Ax ts hr.2 (fun j t v h1 h2=>hv (j+1) t v (by simpa using h1) (by simpa using h2)) hs
  refine⟨(x,y),⟨g1,k1⟩,⟨⟨Nq (hv 0 T v rfl rfl) hr.1,g2⟩,k2⟩,by simp[k3],fun W' sp hB hq=> ?_⟩
  obtain⟨m,hm⟩:=g3 W' sp hB (fun q hq'=>hq q (by simp[hq']))
  exact trodAll_cons_mk ⟨m,hm⟩ (k4 W' sp hB (fun q hq'=>hq q (by simp[hq'])))
 | [],_::_,_,_,_,hr,_,_=>by simp[s7] at hr
 |_::_, [],_,_,_,hr,_,_=>by simp[s7] at hr
def lj(W:World):aj:=⟨W.heap.size,fun b=>W.heap[b]?⟩
theorem Cf(W:World):(lj W).On W:=⟨Nat.le_refl _,fun _ _=>rfl⟩
theorem Hf{P:Program}{f:FuncId}{con:Con}{W:World}{args:List LV}{vals:Array Value}(hv:Valid (lj W) P f con){C:Prop}(hc:con args []=some (C, [.z .bool true], []))(hC:C)
  (ha:bz (aT (fun _=>False) W (fun _=>undef)) args vals.toList):
  Calls P f vals W fun e W'=>e= .returned (.bool true)/\W'.os=W.os/\W'.output=W.output/\W.heap.size<=W'.heap.size/\Below W W':=by
 refine(hv args [] C _ [] hc hC (fun _=>False) W vals (fun _=>undef) (Cf W) (fun b hb=>by obtain⟨p,hp, -⟩:=hb;simp[al] at hp) (fun _ h=>h.elim) (fun _ h=>h.elim) ?_ (fun p hp=>by simp[al] at hp) List.Pairwise.nil).mono ?_
 ·refine ha.imp fun x v _ hx=>aX (fun b _ hb=> ?_) (bh.refl _ _) (fun _ _=>rfl) hx
  rcases hb with hb|⟨p,hp, -⟩
  ·exact hb
  ·simp[al] at hp
 ·rintro e W' ⟨vs,ρ1,rfl, -,hb, -,hr, -⟩
  match vs,hr with
  | [v],hr=>
   have h1:aT _ W' (fun _=>undef) (.z .bool true) v:=hr.1
   have h2:v.cells.toList= [.bool true]:=h1.2
   have h3:v= .bool true:=by
    cases v with
    |agg cs=>have:=h1.1;cases this
    |_=>simp[Value.cells] at h2<;>simp[h2]
   subst h3
   refine⟨rfl,hb.os,hb.output,hb.size,fun b hlt=>hb.block b hlt fun hm=> ?_⟩
   rcases hm with hm|⟨p,hp, -⟩
   ·omega
   ·simp[al] at hp
theorem KD{H:Type}{enc:TypeId×Value->H}{P:Program}{f:Func}{s:ChangeSpec}{apart fresh handsOn again:Bool}{W W':World}{args:Array Value}{v:Value}{ds gs:List (DataW H)}{before pa pv:List MemPlace}
  (hW:DataW.Whole enc P f.params.toList s.vars apart W args.toList ds gs before)
  (hres:∀ (b:Nat) (sp:Nat->Bool) (hd:Bool),DataW.TrodAll enc P W' b sp hd f.resultTypes.toList (v.resultList f.resultTypes.size) (s.fn H (ds++gs)).results [])
  (hargs:∀ sp:Nat->Bool,(∀ p∈before,sp p.block=true)->DataW.TrodAll enc P W' 0 sp true f.params.toList args.toList (s.fn H (ds++gs)).args pa)
  (hvars:∀ sp:Nat->Bool,(∀ p∈before,sp p.block=true)->DataW.TrodVars enc P W' sp s.vars (s.fn H (ds++gs)).vars pv)
  (hps:before=pa++pv) (hk:W.keptBut W' (· ∈before)) (hfz:∀ a:Addr,a.block<W.heap.size->W'.frozen? a=W.frozen? a)
  (hok:∀ (j:Nat) (t:TypeId) (r:Value),f.resultTypes[j]? =some t->(v.resultList f.resultTypes.size)[j]? =some r->Value.okWide P W' .any 0 t r):
  s.post enc P f apart fresh handsOn again W args v W':=by
 have hold:∀ p∈before,(fun b=>decide (b<W.heap.size)) p.block=true:=fun p hp=>by simpa using hW.lt p hp
 refine⟨ds,gs,before, [],pa,pv,hW,hres _ _ _,hargs _ hold,hvars _ hold,World.keptBut_mono (fun p hp=>⟨hp,?_⟩) hk,fun _=> ?_⟩
 ·rw[hps,List.mem_append] at hp
  exact Or.inr hp
 ·have hlt:=hW.lt
  obtain⟨_,_,_,_,_,hz,hn⟩:=hW
  refine⟨hok,_,_,([]++pa)++pv,⟨[]++pa,pv,trodAll_append (hargs _ (fun _ _=>rfl)) (hres _ _ _),hvars _ (fun _ _=>rfl),rfl,?_,?_⟩,?_⟩
  ·intro b off hp
   have hm:MemPlace.cell b off∈before:=by rw[hps];simpa using hp
   rw[hfz _ (hlt _ hm)]
   exact hz b off hm
  ·intro ha
   have:=hn ha
   rw[hps] at this
   simpa using this
  ·intro p hp _
   rw[hps]
   simpa using hp
theorem Cg{W W':World}(hB:Below W W')(a:Addr)(h:a.block<W.heap.size):W'.frozen? a=W.frozen? a:=by
 unfold World.frozen?
 rw[hB a.block h]
theorem KE{W W':World}{may:MemPlace->Prop}(hos:W'.os=W.os)(hout:W'.output=W.output)(hB:Below W W'):W.keptBut W' may:=by
 have h:=World.keptBut_refl W may
 exact⟨hos,hout,fun i hi=>by rw[hB i hi];exact h.2.2 i hi⟩
def Ay(s:ChangeSpec)(n:Nat):Prop:=s.vars= []/\∀ (H:Type) (ds:List (DataW H)),ds.length=n->s.fn H (ds++ [])={results:= [.lit (.bool true)],args:=ds}
theorem xi{H:Type}{enc:TypeId×Value->H}{P:Program}{f:FuncId}{fn:Func}{con:Con}{ts:List Ty}{tb:TypeId}{s:ChangeSpec}{W:World}{base:Nat}{args:Array Value}{ds gs:List (DataW H)}{before:List MemPlace}
  (hts:s7 P ts fn.params.toList=true) (hrt:fn.resultTypes= #[tb]) (hb:P.underlying tb=some .bool) (hs:Ay s ts.length)
  (hcon:∀ x:HL ts,HL.ok ts x->∃ C,con (HL.args ts x) []=some (C, [.z .bool true], [])/\C) (hv:Valid (lj W) P f con)
  (hval:∀ (j:Nat) t v,fn.params[j]? =some t->args[j]? =some v->Value.okWide P W .any base t v)
  (hW:DataW.Whole enc P fn.params.toList s.vars false W args.toList ds gs before):
  Calls P f args W fun e W'=>∃ v,e= .returned v/\s.post enc P fn false true false false W args v W':=by
 have hW':=hW
 obtain⟨p,q,hA,hV,rfl,hfz,hnd⟩:=hW
 rw[hs.1] at hV
 obtain⟨rfl,rfl⟩:=trodVars_none hV
 obtain⟨x,hx,ha,hl,again⟩:=Ax (b0:=base) ts hts (fun j t v h1 h2=>hval j t v (by simpa using h1) (by simpa using h2)) hA
 obtain⟨C,hC1,hC2⟩:=hcon x hx
 refine(Hf hv hC1 hC2 ha).mono fun e W' ⟨he,hos,hout,hsz,hB⟩=> ?_
 subst he
 have hspec:=hs.2 H ds hl
 refine⟨_,rfl,KD (pa:=p) (pv:= []) hW' (fun _ _ _=> ?_) (fun sp hsp=> ?_) (fun _ _=> ?_) rfl (KE hos hout hB) (Cg hB) (ok_one hrt rfl (okWide_bool_mk hb _))⟩
 ·rw[hspec,hrt];exact trodAll_cons_mk (shut_bool hb _) trodAll_mk0
 ·rw[hspec];exact again W' sp hB (fun z hz=>hsp z (by simp[hz]))
 ·rw[hspec,hs.1];rfl
end Go.Cm
end
section
namespace Go.Cm
open Go
theorem KF{k:IntKind}{x a b:Int}(h:(Ty.int k).okD x)(h1:k.min=a)(h2:k.max=b):a<=x/\x<=b:=by
 have h:k.min<=x/\x<=k.max:=h
 rw[h1,h2] at h
 exact h
theorem NY{x:Int}(h:(Ty.int .u8).okD x):0<=x/\x<256:=by
 have:=KF (a:=0) (b:=255) h (by decide) (by decide);omega
end Go.Cm
end
section
namespace Go.Proofs.YtdojbabpnaifoaaGreatDoor
open Go Go.Cm Go.Proofs Go.ChangeShapes Go.WideShapes Go.ChangeAt Go.RowKit Go.Deep Go.Joins
def xj:DataW Unit->Array Value
 | .agg l=>(l.map fun x=>match x with
  | .lit (.int k n)=>Value.int k n
  |_=>Value.bool false).toArray
 |_=> #[]
noncomputable def KG(h:Array Obj)(name:String)(cs:Array Value):Array Obj:=h.modify ((Tryz.prog.globalNamed name).getD 0) fun o=>match o with
 | .cells _ t f=> .cells cs t f
 |o=>o
noncomputable def KH:Nat:=(World.holding Tryz.prog default ⟨#[],#[], []⟩).heap.size
noncomputable def s8(os:Os):World:=
 let w0:=World.holding Tryz.prog os ⟨#[.cells #[.string {data:= #[118,97,108,117,101,32,111,117,116,32,111,102,32,114,97,110,103,101]}] 239, .cells #[.string {data:= #[105,110,118,97,108,105,100,32,115,121,110,116,97,120]}] 239],#[], []⟩
 {w0 with heap:=(KG (KG (KG (KG (KG w0.heap "strconv.ErrRange" #[.iface 237 (.pointer (some ⟨KH+0,0,none⟩))]) "strconv.ErrSyntax" #[.iface 237 (.pointer (some ⟨KH+1,0,none⟩))]) "math/bits.deBruijn32tab" (xj Rows.laid_math_bits_deBruijn32tab)) "math/bits.deBruijn64tab" (xj Rows.laid_math_bits_deBruijn64tab)) "internal/strconv.uint64pow10" (xj Rows.laid_internal_strconv_uint64pow10))}
theorem KI:(Rows.laid_internal_strconv_uint64pow10:DataW Unit)=Lib.tabData .u64 Lib.pow10Tab:=by kernel_rfl
noncomputable def s9:Nat:=(Tryz.prog.globalNamed "internal/strconv.uint64pow10").getD 0
noncomputable def EP:Nat:=((Tryz.prog.globals[s9]?).map (·.type)).getD 0
noncomputable def KJ:Nat:=match Tryz.prog.underlying EP with
 |some (.array _ e)=>e
 |_=>0
theorem My:Tryz.prog.globalNamed "internal/strconv.uint64pow10"=some s9:=by kernel_rfl
theorem NZ:(Tryz.prog.globals[s9]?).map (·.type)=some EP:=by kernel_rfl
theorem N0:Tryz.prog.underlying EP=some (.array 20 KJ):=by kernel_rfl
theorem N1:Tryz.prog.underlying KJ=some (.int .u64):=by kernel_rfl
theorem N2:Tryz.prog.cellsOf KJ=1:=by kernel_rfl
theorem N3:Tryz.prog.cellsOf EP=20:=by kernel_rfl
theorem Mn{l:List (String×DataW Unit)}{W:World}(h:laidMet Tryz.prog (("internal/strconv.uint64pow10",Rows.laid_internal_strconv_uint64pow10)::l) W):∀ w,(lj W).On w->Lib.TabIs Tryz.prog w "internal/strconv.uint64pow10" .u64 Lib.pow10Tab:=by
 intro w hw
 rw[KI] at h
 have ht:=Lib.tabIs_of_head My NZ N0 N1 N2 N3 h
 unfold Lib.TabIs World.var? at ht ⊢
 rw[My] at ht ⊢
 simp only[Option.bind_some] at ht ⊢
 by_cases hlt:s9<W.heap.size
 ·have he:w.heap[s9]? =W.heap[s9]? :=hw.2 s9 hlt
  rw[he];exact ht
 ·rw[Array.getElem?_eq_none (by omega)] at ht;cases ht
theorem Mo{W:World}(h:W.ShapedOpen Tryz.prog):Nv (lj W):=by
 obtain⟨m,hm⟩:=Go.Proofs.cell_of_shapedOpen_int (g:=0) (t:=3) (zero:= #[.int .i64 0]) (k:= .i64) h (by decide+kernel) (by kernel_rfl) rfl (by kernel_rfl) (by kernel_rfl) (by kernel_rfl)
 intro w hw
 have hlt:(0:Nat)<W.heap.size:=by
  unfold World.cell? at hm
  rcases Nat.lt_or_ge 0 W.heap.size with h0|h0
  ·exact h0
  ·rw[Array.getElem?_eq_none h0] at hm;cases hm
 have he:w.heap[0]? =W.heap[0]? :=hw.2 0 hlt
 exact⟨m,(World.cell?_of_block (a:=⟨0,0,none⟩) he).trans hm⟩
end Go.Proofs.YtdojbabpnaifoaaGreatDoor
end
section
namespace Go.Cm
open Go
theorem Mz{x:Int}(h:(Ty.int .i8).okD x): -128<=x/\x<128:=by
 have:=KF (a:= -128) (b:=127) h (by decide) (by decide);omega
theorem ER{d:DPD}(h:(Ty.st (.pair (.slice (.int .i8)) (.pair (.int .u8) (.slice (.int .i8))))).okD d):kt d:=by
 obtain⟨⟨_,h1⟩,h2,⟨_,h3⟩⟩:=h
 exact⟨fun n hn=>Mz (h1 n hn),NY h2,fun n hn=>Mz (h3 n hn)⟩
end Go.Cm
end
section
namespace Go.Proofs.YtdojbabpnaifoaaGreatDoor.polyRests
open Go Go.Cm Go.Proofs Go.ChangeShapes Go.WideShapes Go.ChangeAt Go.RowKit Go.Deep Go.Joins
theorem own:ownKnob Tryz.prog.godebug=none:=by kernel_rfl
theorem Oe:Tryz.f6.resultTypes= #[4]:=by kernel_rfl
theorem N4:Tryz.prog.underlying 4=some .bool:=by kernel_rfl
def tys:List Ty:= [(.st (.pair (.slice (.int .i8)) (.pair (.int .u8) (.slice (.int .i8))))),(.st (.pair (.slice (.int .i8)) (.pair (.int .u8) (.slice (.int .i8)))))]
theorem reads:s7 Tryz.prog tys Tryz.f6.params.toList=true:=by kernel_rfl
theorem spec:Ay Rows.polyRestsSpec tys.length:=⟨rfl,fun _ ds h=>match ds,h with| [a0,a1],_=>rfl⟩
abbrev vals:Array Value:= #[.agg #[.slice none 0 0, .int .u8 0, .slice none 0 0], .agg #[.slice none 0 0, .int .u8 0, .slice none 0 0]]
theorem met(os:Os):laidMet Tryz.prog Rows.polyRestsRow.laid ((s8 os).forCall (fun _ _=>0) ⟨#[],vals, []⟩).memory:=
 laidMet_of_run3 8 (by kernel_rfl) (by kernel_rfl) (by kernel_rfl)
theorem witness(os:Os){H:Type}(enc:TypeId×Value->H):∃ places,DataW.whole enc Tryz.prog ((s8 os).forCall (fun _ _=>0) ⟨#[],vals, []⟩).memory Tryz.f6.params.toList Rows.polyRestsSpec.vars false vals.toList 8=some ([.agg [.nil, .lit (.int .u8 0), .nil], .agg [.nil, .lit (.int .u8 0), .nil]], [],places):=
 ⟨[],by kernel_rfl⟩
theorem Of{W:World}(h:laidMetH Tryz.prog Rows.polyRestsRow.laid W)(hs:W.ShapedOpen Tryz.prog):aC (lj W):=by
 have hL:laidMet Tryz.prog Rows.polyRestsRow.laid W:=h
 exact⟨fun w hw=>Mn (laidMet.tail (laidMet.tail hL)) w hw,Mo hs⟩
theorem lifted(os:Os)(started:os.Started)(H:Type)(enc:TypeId×Value->H)(F:Stop.Interp):
  ReturnsInHanded {} Tryz.checked os 6 .any ((OpenSpec.ofChange Rows.polyRestsSpec).preRow enc Tryz.prog Tryz.f6 Rows.polyRestsRow.domain false Rows.polyRestsRow.laid) (((OpenSpec.ofChange Rows.polyRestsSpec).at F).post enc Tryz.prog Tryz.f6 false true false false):=by
 obtain⟨places,hx⟩:=witness os enc
 refine returnsInHanded_of_row (C:=Tryz.checked) (s:=OpenSpec.ofChange Rows.polyRestsSpec) own started (by kernel_rfl) Tryz.func6
  (witness_row_at (enc:=enc) (C:=Tryz.checked) false (s8 os) vals rfl (by kernel_rfl) (by kernel_rfl) (by kernel_rfl)
   (OpenSpec.preRow_of_cond 8 hx (by kernel_rfl) (fun k hk=>by cases hk) (by kernel_rfl) (met os))) ?_
 intro W base args ds gs before hval hW _ _ _ hL hSh _
 exact xi (ts:=tys) (con:=xh) reads Oe N4 spec (fun x h=>by obtain⟨x0,x1,⟨⟩⟩:=x;obtain⟨h0,h1, -⟩:=h;exact⟨_,rfl,⟨ER h0,ER h1⟩⟩) (Hd (Of hL hSh)) hval hW
theorem said:Rows.PolyRestsSaid:=
 OpenClaim.holds_of_cond 6 Tryz.f6 rfl rfl rfl rfl rfl rfl rfl ⟨rfl,rfl,rfl,rfl,rfl⟩ rfl rfl rfl rfl rfl (by kernel_rfl) Tryz.func6 (by kernel_rfl)
  (of_decide_eq_true (by kernel_rfl)) (by unfold Func.isWrapper;first|(rw[if_pos (by decide+kernel)];kernel_rfl)|(rw[if_neg (by decide+kernel)];exact⟨rfl,rfl⟩))
  (fun os started H enc _ F=>by rw[OpenClaim.pre_eq_preRow];exact lifted os started H enc F)
theorem plain(f:FuncId)(fn:Func)(hf:Tryz.pinned.checked.prog.funcNamed "croupier/croupierlaw04.PolyRests"=some f)(hfn:Tryz.pinned.checked.prog.funcs[f]? =some fn):
  true=Tryz.pinned.checked.prog.looks []/\∀ (j:Nat) t,fn.params[j]? =some t->Tryz.pinned.checked.prog.wantsStandIn t=false:=by
 obtain rfl:f=6:=Option.some.inj ((show Tryz.prog.funcNamed "croupier/croupierlaw04.PolyRests"=some 6 by kernel_rfl).symm.trans hf)|>.symm
 obtain rfl:fn=Tryz.f6:=(Option.some.inj (Tryz.func6.symm.trans hfn)).symm
 refine⟨by kernel_rfl,fun j t ht=> ?_⟩
 have hall:Tryz.f6.params.toList.all (fun t=> !Tryz.prog.wantsStandIn t)=true:=by kernel_rfl
 have:=List.all_eq_true.1 hall t (by simpa using Array.mem_of_getElem? ht)
 exact(by simpa using this:Tryz.prog.wantsStandIn t=false)
theorem card:Rows.PolyRestsCardSaid:=
 Claim7.holds_tied_plain_at .later [] _ _ _ _ said (fun _ h=>by cases h) (by kernel_rfl) (fun _ h=>by cases h) polyRests_row_tie rfl ⟨rfl,rfl⟩ (by kernel_rfl) rfl plain (by kernel_rfl)
end Go.Proofs.YtdojbabpnaifoaaGreatDoor.polyRests
end
