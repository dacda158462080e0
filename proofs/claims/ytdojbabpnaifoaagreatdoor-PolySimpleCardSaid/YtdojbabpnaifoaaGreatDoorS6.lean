/- PolySimple: the program function croupierlaw04.PolySimple returns true for all arguments, without panicking. -/
import Derived.Test.YtdojbabpnaifoaaGreatDoorS3
import Derived.Test.YtdojbabpnaifoaaGreatDoorS2
import Derived.Test.YtdojbabpnaifoaaGreatDoorProg
import Derived.Test.YtdojbabpnaifoaaGreatDoorS4
import Derived.Test.YtdojbabpnaifoaaGreatDoorS5
import Derived.OpenShut
import Derived.RowKit
import Derived.ChangeArms
import Derived.ChangeSame
import Derived.Deep.Slices
import Derived.ProofKit
import Derived.Deep.DeepHandedRow
import Derived.Test.YtdojbabpnaifoaaGreatDoorCards
import Derived.Test.YtdojbabpnaifoaaGreatDoorTie
import Derived.Lib.LaidTab
import Derived.Stop.LaidErr
import Derived.Lib.SmallJoins
import Derived.KernelRfl
import Derived.Deep.DeepLaidRun
import Derived.Shelf.Vars
import Derived.WalkKit
set_option linter.all false
set_option linter.unusedSimpArgs false
set_option linter.unusedVariables false
set_option maxRecDepth 100000
section
namespace Go.Proofs.YtdojbabpnaifoaaGreatDoor
open Go Go.Cm Go.Proofs
def sv(B:ah):Tab:={types:= [(3,(.int .i64)),(22,(.slice .str)),(31,(.int .i64)),(46, .str)],elems:= [(22,46)],cons:= [(14,mA),(15,G1),(16,G2),(17,xA),(23,y8),(24,Ew),(28,yZ),(29,xE),(30,xG),(31,za),(36,zb),(41,MZ),(45,O1),(94,Jr)],hint:= [],N:=218,base:=B}
theorem CD{B:ah}(hB:aC B):aJ Tryz.prog (sv B):=⟨⟨tc ty3 (tc gG (tc km (tc mE (ae)))),aT (by kernel_rfl) (af),by simp only[sv,ioB];omega⟩,aF (cc Tryz.func14 (xz hB) (cc Tryz.func15 (Jn hB) (cc Tryz.func16 (Jo hB) (cc Tryz.func17 (xB hB) (cc Tryz.func23 (Ey hB) (cc Tryz.func24 (Ex hB) (cc Tryz.func28 (Ep hB) (cc Tryz.func29 (xF hB) (cc Tryz.func30 (xH hB) (cc Tryz.func31 (Ez hB) (cc Tryz.func36 (EA hB) (cc Tryz.func41 (EB hB) (cc Tryz.func45 (Jq hB) (cc Tryz.func94 (xK hB) (aw))))))))))))))),by kernel_rfl⟩
def sw:Con:=fun l os=>match l,os with
 | [], []=>some (True, [.z .bool true], [])
 |_,_=>none
set_option maxHeartbeats 2000000 in
theorem Jv{B:ah}(hB:aC B):Valid B Tryz.prog 11 sw:=by
 refine ab (CD hB).tab Tryz.func11 rfl rfl rfl ?_;intro args os C rs os' hc hC;unfold sw at hc;split at hc;case h_2=>cases hc
 cases hc;refine v_h (CD hB) fun X hP hT hr hG=> ?_;have hU:=sv.eq_1;unfold sv at hT;have hX:=ai @Js.eq_1<|ai @MZ.eq_1<|ai @Jr.eq_1<|ai @O1.eq_1<|ai @G1.eq_1<|ai @mA.eq_1<|ai @y9.eq_1<|ai @za.eq_1<|ai @xE.eq_1<|ai @pA.eq_1<|ai @y8.eq_1<|ai @pB.eq_1<|ai @zb.eq_1<|ai @xC.eq_1<|ai @Ew.eq_1<|ai @xA.eq_1<|ai @xG.eq_1<|ai @G2.eq_1<|ai @o6.eq_1<|ai @yZ.eq_1<| @List.append_eq.{0};simp only[Tryz.f11,aD,an,ioB];refine s_g hG ?_;refine cB (fun(z:Unit)=>(⟨[(0, .l (.z .bool false)),(1, .l (.z (.slice .str) [[49], [49], [49]])),(2, .l (.z (.slice .str) [])),(3, .l (.z (.int .i64) 0))], []⟩:aa)) (fun z=>True) ?_ ?_
 ·refine ag hG ?_ ?_
  ·(try simp only[ba]);exact D8 (n:=4) (K:=1) (by decide+kernel) (by decide+kernel)
  show ∃ z,_;refine q_l ?_;exact wp1
 rintro⟨⟩-;refine cB (fun(z:Unit)=>(⟨[(0, .l (.z .bool false)),(1, .l (.z (.slice .str) [[49], [49], [49]])),(2, .l (.z (.slice .str) [])),(3, .l (.z (.int .i64) 0)),(4, .l (.z (.slice .str) [[48], [49,47,50]])),(5, .l (.z (.slice .str) [[49]])),(6, .l (.z (.int .i64) 0))], []⟩:aa)) (fun z=>True) ?_ ?_
 ·refine ag hG ?_ ?_
  ·(try simp only[ba]);exact D8 (n:=4) (K:=1) (by decide+kernel) (by decide+kernel)
  show ∃ z,_;refine q_l ?_;exact wp2
 rintro⟨⟩-;refine cB (fun(z:Unit)=>(⟨[(0, .l (.z .bool false)),(1, .l (.z (.slice .str) [[49], [49], [49]])),(2, .l (.z (.slice .str) [])),(3, .l (.z (.int .i64) 0)),(4, .l (.z (.slice .str) [[48], [49,47,50]])),(5, .l (.z (.slice .str) [[49]])),(6, .l (.z (.int .i64) 0)),(9, .l (.z (.int .i64) 2))], []⟩:aa)) (fun z=>True) ?_ ?_
 ·refine ag hG ?_ ?_
  ·(try simp only[ba]);exact D8 (n:=4) (K:=1) (by decide+kernel) (by decide+kernel)
  show ∃ z,_;refine q_l ?_;exact wp3
 rintro⟨⟩-;refine cB (fun(z:Unit)=>(⟨[(0, .l (.z .bool false)),(1, .l (.z (.slice .str) [[49], [49], [49]])),(2, .l (.z (.slice .str) [])),(3, .l (.z (.int .i64) 0)),(4, .l (.z (.slice .str) [[48], [49,47,50]])),(5, .l (.z (.slice .str) [[49]])),(6, .l (.z (.int .i64) 0)),(9, .l (.z (.int .i64) 2)),(10, .l (.z .str [53,47,52])),(11, .l (.z (.int .i64) 0))], []⟩:aa)) (fun z=>True) ?_ ?_
 ·refine ag hG ?_ ?_
  ·(try simp only[ba]);exact LM (n:=4) (K:=1) (by decide+kernel) (by decide)
  show ∃ z,_;refine q_l ?_;exact wp4
 rintro⟨⟩-;refine cB (fun(z:Unit)=>(⟨[(0, .l (.z .bool false)),(1, .l (.z (.slice .str) [[49], [49], [49]])),(2, .l (.z (.slice .str) [])),(3, .l (.z (.int .i64) 0)),(4, .l (.z (.slice .str) [[48], [49,47,50]])),(5, .l (.z (.slice .str) [[49]])),(6, .l (.z (.int .i64) 0)),(9, .l (.z (.int .i64) 2)),(10, .l (.z .str [53,47,52])),(11, .l (.z (.int .i64) 0)),(13, .l (.z (.int .i64) 5))], []⟩:aa)) (fun z=>True) ?_ ?_
 ·refine ag hG ?_ ?_
  ·(try simp only[ba]);exact LM (n:=4) (K:=1) (by decide+kernel) (by decide)
  show ∃ z,_;refine q_l ?_;exact wp5
 rintro⟨⟩-;refine cB (fun(z:Unit)=>(⟨[(0, .l (.z .bool false)),(14, .l (.z .bool true))], []⟩:aa)) (fun z=>True) ?_ ?_
 ·refine ag hG ?_ ?_
  ·(try simp only[ba]);exact wsq
  show ∃ z,_;refine q_l ?_;rfl
 rintro⟨⟩-;refine cB (fun(z:Unit)=>(⟨[(0, .l (.z .bool false)),(14, .l (.z .bool true))], []⟩:aa)) (fun z=>True) ?_ ?_
 ·refine ag hG ?_ ?_
  ·(try simp only[ba]);simp[wp6.1,wp6.2,wp7.1,wp7.2,wp8.1,wp8.2,wp9.1,wp9.2,Ot.1,Ot.2,Ou.1,Ou.2,ok6,ok7,ok8,ok9,Q5,Q6,QL]
  show ∃ z,_;refine q_l ?_;simp[wp6.1,wp6.2,wp7.1,wp7.2,wp8.1,wp8.2,wp9.1,wp9.2,Ot.1,Ot.2,Ou.1,Ou.2]
 rintro⟨⟩-;refine cB (fun(z:Unit)=>(⟨[(0, .l (.z .bool false)),(14, .l (.z .bool true))], []⟩:aa)) (fun z=>True) ?_ ?_
 ·refine ag hG ?_ ?_
  ·(try simp only[ba]);simp[Ov.1,Ov.2,Ow.1,Ow.2,Ox.1,Ox.2,Oy.1,Oy.2,Q7,Q8,Q9,Ra,QL]
  show ∃ z,_;refine q_l ?_;simp[Ov.1,Ov.2,Ow.1,Ow.2,Ox.1,Ox.2,Oy.1,Oy.2]
 rintro⟨⟩-;refine s_q hG ?_ ?_
 ·try simp only[ba]
  simp[Oz.1,Oz.2,QV.1,QV.2]
 refine az ?_;refine q_e [] ?_;simp[Oz.1,Oz.2]
def sA(B:ah):Tab:={types:= [(3,(.int .i64)),(22,(.slice .str)),(46, .str)],elems:= [],cons:= [],hint:= [],N:=13,base:=B}
theorem CE{B:ah}(hB:aC B):aJ Tryz.prog (sA B):=⟨⟨tc ty3 (tc gG (tc mE (ae))),af,by simp only[sA,ioB];omega⟩,bU rfl,by kernel_rfl⟩
def zc:Con:=fun l os=>match l,os with
 | [.z (.slice .str) p, .z (.int .i64) i], []=>some (GL QK p/\0<=i, [.z .str (aX (cf (nl p) i.toNat))], [])
 |_,_=>none
theorem Jw{B:ah}(hB:aC B):Valid B Tryz.prog 63 zc:=by
 refine ab (CE hB).tab Tryz.func63 rfl rfl rfl ?_;intro args os C rs os' hc hC;unfold zc at hc;split at hc;case h_2=>cases hc
 rename_i p i;cases hc;refine v_h (CE hB) fun X hP hT hr hG=> ?_;have hU:=sA.eq_1;unfold sA at hT;have hX:=Bool.not_true;simp only[Tryz.f63,aD,an,ioB];obtain⟨hp,hi⟩:=hC;obtain⟨n,rfl⟩:=Int.eq_ofNat_of_zero_le hi;rw[Int.toNat_natCast];refine s_g hG ?_;refine al ?_;refine s_g hG ?_;refine ar ?_ ?_
 ·intro hb0;try simp only[bt] at hb0
  refine s_q hG ?_ ?_
  ·(try simp only[ba]);exact⟨by omega,hb0⟩
  refine az ?_;refine aB ?_;refine q_e [] ?_;exact nU hp (by omega)
 ·intro hb0;try simp only[bf] at hb0
  refine au ?_;refine aj ?_;refine s_g hG ?_;refine az ?_;refine q_e [] ?_;exact L2 (by omega)
def sB(B:ah):Tab:={types:= [(3,(.int .i64)),(22,(.slice .str)),(46, .str)],elems:= [],cons:= [],hint:= [],N:=21,base:=B}
theorem CF{B:ah}(hB:aC B):aJ Tryz.prog (sB B):=⟨⟨tc ty3 (tc gG (tc mE (ae))),af,by simp only[sB,ioB];omega⟩,bU rfl,by kernel_rfl⟩
def jG:Con:=fun l os=>match l,os with
 | [.z (.slice .str) p], []=>some (GL QK p/\p.length<=1000000000, [.z (.slice .str) (txP (aS (nl p)))], [])
 |_,_=>none
theorem kD{B:ah}(hB:aC B):Valid B Tryz.prog 64 jG:=by
 refine ab (CF hB).tab Tryz.func64 rfl rfl rfl ?_;intro args os C rs os' hc hC;unfold jG at hc;split at hc;case h_2=>cases hc
 rename_i p;cases hc;refine v_h (CF hB) fun X hP hT hr hG=> ?_;have hU:=sB.eq_1;unfold sB at hT;have hX:=Bool.not_true;simp only[Tryz.f64,aD,an,ioB];obtain⟨l0,rfl,hl0⟩:=hC.1.ex;have hn:=hC.2;rw[cm] at hn;rw[lK];refine s_g hG ?_;refine al ?_;refine av ?_;refine bw (fun(z:List Rat)=>(⟨[(0, .l (.z (.slice .str) (txP z))),(2, .l (.val (.slice none 0 0)))], []⟩:aa)) (fun z=>z.length<=l0.length/\(∀ x∈z,lq x<=QK)/\aS z=aS l0) (fun z=>z.length) l0 ?_ ?_ ?_;·simp only[ml0,ml1,Nat.reduceLT,Nat.reduceEqDiff,Nat.reduceAdd,Nat.reduceMul,Nat.reduceSub,Nat.reduceLeDiff,Nat.reduceBEq,Nat.reduceBNe,reduceIte,reduceDIte,reduceCtorEq]
 ·exact⟨Nat.le_refl _,hl0,rfl⟩
 ·rintro l ⟨g1,g2,g3⟩;try dsimp only at g1 g2 g3
  refine al ?_;refine s_q hG ?_ ?_
  ·(try simp only[ba]);exact⟨id,id,fun h=>Ec (l:=l) (by omega) h,id⟩
  refine ar ?_ ?_
  ·intro hb0;(try simp only[bt] at hb0);have ht:=Ok (l:=l) (by omega) hb0.1 hb0.2;obtain⟨n1,n2,n3,n4,n5⟩:=Ed (by omega) g1 g2 g3 ht;refine au ?_;refine aj ?_;refine av ?_;refine ag hG ?_ ?_
   ·(try simp only[ba]);rw[cm,cp (by omega)];omega
   refine aN ?_;show ∃ z,_;refine q_l ?_;exact⟨l.dropLast,n1,n2,n3,n4,n5⟩
  ·intro hb0;(try simp only[bf] at hb0);have ht:=Ol (l:=l) (by omega) hb0;refine bj ?_;refine aG ?_;refine ay ?_;refine ax ?_;refine aj ?_;refine s_g hG ?_;refine az ?_;refine q_e [] ?_;rw[<- g3,ht]
def sC(B:ah):Tab:={types:= [(3,(.int .i64)),(22,(.slice .str)),(46, .str)],elems:= [(22,46)],cons:= [(62,GF),(63,zc),(64,jG)],hint:= [27],N:=31,base:=B}
theorem CG{B:ah}(hB:aC B):aJ Tryz.prog (sC B):=⟨⟨tc ty3 (tc gG (tc mE (ae))),aT (by kernel_rfl) (af),by simp only[sC,ioB];omega⟩,aF (cc Tryz.func62 (IP hB) (cc Tryz.func63 (Jw hB) (cc Tryz.func64 (kD hB) (aw)))),by kernel_rfl⟩
def zd:Con:=fun l os=>match l,os with
 | [.z (.slice .str) p, .z (.slice .str) q], []=>some (GL QK2 p/\GL QK2 q/\p.length<=1000000/\q.length<=1000000, [.z (.slice .str) (txP (bl (· + ·) (nl p) (nl q)))], [])
 |_,_=>none
theorem Jy{B:ah}(hB:aC B):Valid B Tryz.prog 20 zd:=by
 refine ab (CG hB).tab Tryz.func20 rfl rfl rfl ?_;intro args os C rs os' hc hC;unfold zd at hc;split at hc;case h_2=>cases hc
 rename_i p q;cases hc;refine v_h (CG hB) fun X hP hT hr hG=> ?_;have hU:=sC.eq_1;unfold sC at hT;have hX:=ai @GF.eq_1<|ai @zc.eq_1<| @jG.eq_1;simp only[Tryz.f20,aD,an,ioB];obtain⟨hp,hq,hl1,hl2⟩:=hC;refine s_g hG ?_;refine s_g hG ?_;refine al ?_;refine s_g hG ?_;refine av ?_;refine bw (fun(z:Nat)=>(⟨[(0, .l (.z (.slice .str) p)),(1, .l (.z (.slice .str) q)),(4, .l (.val (.slice none 0 0))),(5, .l (.ownS 28)),(6, .l (.z (.int .i64) (z:Int)))], [(28, .arr .str 46 (txP (bT (· + ·) (nl p) (nl q) z)))]⟩:aa)) (fun z=>z<=max p.length q.length) (fun z=>max p.length q.length-z) 0 ?_ ?_ ?_;·refine q_l ?_;exact⟨rfl,by unfold ioB;omega,rfl⟩
 ·omega
 ·rintro k g1;try dsimp only at g1
  refine al ?_;refine s_g hG ?_;refine ar ?_ ?_
  ·intro hb0;have hk:=QP hb0;refine au ?_;refine aj ?_;refine al ?_;refine av ?_;refine ag hG ?_ ?_
   ·(try simp only[ba]);exact Ei hp hq (by omega)
   (refine aN ?_;refine aj ?_;refine ag hG ?_ ?_;·first|trivial|omega|(simp;done)|(simp;omega));show ∃ z,_;refine q_l ?_;exact Ee (by omega) (by omega)
  ·intro hb0;have hk:=QQ hb0;refine bj ?_;refine aG ?_;refine ay ?_;refine ax ?_;refine aj ?_;refine s_q hG ?_ ?_
   ·(try simp only[ba]);exact⟨Iv hp hq k,by rw[cm,dP];omega⟩
   refine az ?_;refine q_e [] ?_;exact L3 g1 hk
def sD(B:ah):Tab:={types:= [(3,(.int .i64)),(22,(.slice .str)),(46, .str)],elems:= [(22,46)],cons:= [(64,jG),(84,GG)],hint:= [20],N:=24,base:=B}
theorem CH{B:ah}(hB:aC B):aJ Tryz.prog (sD B):=⟨⟨tc ty3 (tc gG (tc mE (ae))),aT (by kernel_rfl) (af),by simp only[sD,ioB];omega⟩,aF (cc Tryz.func64 (kD hB) (cc Tryz.func84 (IQ hB) (aw))),by kernel_rfl⟩
def sE:Con:=fun l os=>match l,os with
 | [.z .str c, .z (.slice .str) p], []=>some (GQ QK2 c/\GL QK2 p/\p.length<=1000000, [.z (.slice .str) (txP (fA (bL c) (nl p)))], [])
 |_,_=>none
theorem Jz{B:ah}(hB:aC B):Valid B Tryz.prog 65 sE:=by
 refine ab (CH hB).tab Tryz.func65 rfl rfl rfl ?_;intro args os C rs os' hc hC;unfold sE at hc;split at hc;case h_2=>cases hc
 rename_i c p;cases hc;refine v_h (CH hB) fun X hP hT hr hG=> ?_;have hU:=sD.eq_1;unfold sD at hT;have hX:=ai @GG.eq_1<| @jG.eq_1;simp only[Tryz.f65,aD,an,ioB];obtain⟨hc,hp,hl1⟩:=hC;refine s_g hG ?_;refine s_g hG ?_;refine al ?_;refine s_g hG ?_;refine av ?_;refine bw (fun(z:Nat)=>(⟨[(0, .l (.z .str c)),(1, .l (.z (.slice .str) p)),(4, .l (.val (.slice none 0 0))),(5, .l (.ownS 21)),(6, .l (.z (.int .i64) (z:Int)))], [(21, .arr .str 46 (txP (((nl p).take z).map fun x=>bL c*x)))]⟩:aa)) (fun z=>z<=p.length) (fun z=>p.length-z) 0 ?_ ?_ ?_;·refine q_l ?_;exact⟨rfl,by unfold ioB;omega,rfl⟩
 ·omega
 ·rintro k g1;try dsimp only at g1
  refine al ?_;refine s_g hG ?_;refine ar ?_ ?_
  ·intro hb0;(try simp only[bt] at hb0);(have hk:k<p.length:=by have h9:(k:Int)<(p.length:Int):=hb0;omega);refine au ?_;refine aj ?_;refine al ?_;refine av ?_;refine ag hG ?_ ?_
   ·(try simp only[ba]);exact A4 hc hp hl1 hk
   (refine aN ?_;refine aj ?_;refine ag hG ?_ ?_;·first|trivial|omega|(simp;done)|(simp;omega));show ∃ z,_;refine q_l ?_;exact A0 hp hk hl1
  ·intro hb0;(try simp only[bf] at hb0);(have hk: ¬k<p.length:=by have h9: ¬ (k:Int)<(p.length:Int):=hb0;omega);refine bj ?_;refine aG ?_;refine ay ?_;refine ax ?_;refine aj ?_;refine s_q hG ?_ ?_
   ·(try simp only[ba]);exact⟨Ef hc hp k,by rw[cm,List.length_map,List.length_take,jC];omega⟩
   refine az ?_;refine q_e [] ?_;exact Iw hk
def sF(B:ah):Tab:={types:= [(3,(.int .i64)),(22,(.slice .str))],elems:= [(22,46)],cons:= [(64,jG)],hint:= [13],N:=19,base:=B}
theorem CI{B:ah}(hB:aC B):aJ Tryz.prog (sF B):=⟨⟨tc ty3 (tc gG (ae)),aT (by kernel_rfl) (af),by simp only[sF,ioB];omega⟩,aF (cc Tryz.func64 (kD hB) (aw)),by kernel_rfl⟩
def sG:Con:=fun l os=>match l,os with
 | [.z (.slice .str) p, .z (.int .i64) n], []=>some (GL QK p/\0<=n/\n<=1000000/\p.length<=1000000, [.z (.slice .str) (txP (iY n.toNat (nl p)))], [])
 |_,_=>none
theorem JA{B:ah}(hB:aC B):Valid B Tryz.prog 66 sG:=by
 refine ab (CI hB).tab Tryz.func66 rfl rfl rfl ?_;intro args os C rs os' hc hC;unfold sG at hc;split at hc;case h_2=>cases hc
 rename_i p n;cases hc;refine v_h (CI hB) fun X hP hT hr hG=> ?_;have hU:=sF.eq_1;unfold sF at hT;have hX:= @jG.eq_1;simp only[Tryz.f66,aD,an,ioB];obtain⟨hp,hn1,hn2,hl1⟩:=hC;obtain⟨n,rfl⟩:=Int.eq_ofNat_of_zero_le hn1;rw[Int.toNat_natCast];have hn3:n<=1000000:=by have h9:(n:Int)<=1000000:=hn2;omega
 refine s_g hG ?_;refine s_g hG ?_;refine al ?_;refine s_g hG ?_;refine av ?_;refine bw (fun(z:Nat)=>(⟨[(0, .l (.z (.slice .str) p)),(1, .l (.z (.int .i64) (n:Int))),(4, .l (.val (.slice none 0 0))),(5, .l (.ownS 14)),(6, .l (.z (.int .i64) (z:Int)))], [(14, .arr .str 46 (List.replicate z [48]))]⟩:aa)) (fun z=>z<=n) (fun z=>n-z) 0 ?_ ?_ ?_;·refine q_l ?_;exact⟨rfl,by unfold ioB;omega,rfl⟩
 ·omega
 ·rintro k g1;try dsimp only at g1
  refine al ?_;refine s_g hG ?_;refine ar ?_ ?_
  ·intro hb0;(try simp only[bt] at hb0);refine au ?_;refine aj ?_;refine al ?_;refine av ?_;refine ag hG ?_ ?_
   ·(try simp only[ba]);exact uT (by rw[List.length_replicate];omega)
   (refine aN ?_;refine aj ?_;refine ag hG ?_ ?_;·first|trivial|omega|(simp;done)|(simp;omega));show ∃ z,_;refine q_l ?_;exact⟨k+1,wi (by omega) (by omega),L4 k,by omega,by omega⟩
  ·intro hb0;(try simp only[bf] at hb0);(obtain rfl:k=n:=by have h9: ¬ (k:Int)<(n:Int):=hb0;omega);refine bj ?_;refine aG ?_;refine ay ?_;refine ax ?_;refine aj ?_;refine s_q hG ?_ ?_
   ·(try simp only[ba]);exact⟨uT (by rw[List.length_replicate];omega),Eg hp k,by rw[List.length_append,List.length_replicate];omega⟩
   refine az ?_;refine q_e [] ?_;exact Iy
def sH(B:ah):Tab:={types:= [(3,(.int .i64)),(22,(.slice .str)),(46, .str)],elems:= [],cons:= [(20,zd),(65,sE),(66,sG)],hint:= [],N:=24,base:=B}
theorem CJ{B:ah}(hB:aC B):aJ Tryz.prog (sH B):=⟨⟨tc ty3 (tc gG (tc mE (ae))),af,by simp only[sH,ioB];omega⟩,aF (cc Tryz.func20 (Jy hB) (cc Tryz.func65 (Jz hB) (cc Tryz.func66 (JA hB) (aw)))),by kernel_rfl⟩
def ze:Con:=fun l os=>match l,os with
 | [.z (.slice .str) p, .z (.slice .str) q], []=>some (L8 p q, [.z (.slice .str) (txP (fc (nl p) (nl q) p.length))], [])
 |_,_=>none
theorem JB{B:ah}(hB:aC B):Valid B Tryz.prog 22 ze:=by
 refine ab (CJ hB).tab Tryz.func22 rfl rfl rfl ?_;intro args os C rs os' hc hC;unfold ze at hc;split at hc;case h_2=>cases hc
 rename_i p q;cases hc;refine v_h (CJ hB) fun X hP hT hr hG=> ?_;have hU:=sH.eq_1;unfold sH at hT;have hX:=ai @zd.eq_1<|ai @sE.eq_1<| @sG.eq_1;simp only[Tryz.f22,aD,an,ioB];have hl1:=hC.2.2.1;refine s_g hG ?_;refine s_g hG ?_;refine al ?_;refine s_g hG ?_;refine av ?_;refine bw (fun(z:Nat)=>(⟨[(0, .l (.z (.slice .str) p)),(1, .l (.z (.slice .str) q)),(4, .l (.val (.slice none 0 0))),(5, .l (.z (.slice .str) (txP (fc (nl p) (nl q) z)))),(6, .l (.z (.int .i64) (z:Int)))], []⟩:aa)) (fun z=>z<=p.length) (fun z=>p.length-z) 0 ?_ ?_ ?_;·refine q_l ?_;exact⟨rfl,rfl⟩
 ·omega
 ·rintro k g1;try dsimp only at g1
  refine al ?_;refine s_g hG ?_;refine ar ?_ ?_
  ·intro hb0;(try simp only[bt] at hb0);(have hk:k<p.length:=by have h9:(k:Int)<(p.length:Int):=hb0;omega);refine au ?_;refine aj ?_;refine al ?_;refine av ?_;refine ag hG ?_ ?_
   ·(try simp only[ba]);exact⟨⟨by omega,hb0⟩,Iz hC hk⟩
   (refine aN ?_;refine aj ?_;refine ag hG ?_ ?_;·first|trivial|omega|(simp;done)|(simp;omega));show ∃ z,_;refine q_l ?_;obtain⟨w,w1,w2,w3⟩:=Eh hC hk;exact⟨w,w2,w1,w3⟩
  ·intro hb0;(try simp only[bf] at hb0);(have hk: ¬k<p.length:=by have h9: ¬ (k:Int)<(p.length:Int):=hb0;omega);refine bj ?_;refine aG ?_;refine ay ?_;refine ax ?_;refine aj ?_;refine s_g hG ?_;refine az ?_;refine q_e [] ?_;exact L9 g1 hk
def sI(B:ah):Tab:={types:= [(3,(.int .i64)),(5,(.int .u8)),(22,(.slice .str)),(23,(.slice (.int .i8))),(25,(.st (.pair (.slice (.int .i8)) (.pair (.int .u8) (.slice (.int .i8)))))),(71,(.int .i8))],elems:= [(22,46)],cons:= [(22,ze),(64,jG),(85,OU)],hint:= [],N:=59,base:=B}
theorem CK{B:ah}(hB:aC B):aJ Tryz.prog (sI B):=⟨⟨tc ty3 (tc ty5 (tc gG (tc Qn (tc Qo (tc Qq (ae)))))),aT (by kernel_rfl) (af),by simp only[sI,ioB];omega⟩,aF (cc Tryz.func22 (JB hB) (cc Tryz.func64 (kD hB) (cc Tryz.func85 (IM hB) (aw)))),by kernel_rfl⟩
def sJ:Con:=fun l os=>match l,os with
 | [.z (.st (.pair (.slice (.int .i8)) (.pair (.int .u8) (.slice (.int .i8))))) d], []=>some (kx d, [.z (.slice .str) (txP (nV d))], [])
 |_,_=>none
theorem JC{B:ah}(hB:aC B):Valid B Tryz.prog 40 sJ:=by
 refine ab (CK hB).tab Tryz.func40 rfl rfl rfl ?_;intro args os C rs os' hc hC;unfold sJ at hc;split at hc;case h_2=>cases hc
 rename_i d;cases hc;refine v_h (CK hB) fun X hP hT hr hG=> ?_;have hU:=sI.eq_1;unfold sI at hT;have hX:=ai @ze.eq_1<|ai @OU.eq_1<| @jG.eq_1;simp only[Tryz.f40,aD,an,ioB];have hD:=hC;refine s_g hG ?_;refine s_g hG ?_;refine al ?_;refine s_g hG ?_;refine av ?_;refine bw (fun(z:Nat)=>(⟨[(1, .l (.z (.ptr (.st (.pair (.slice (.int .i8)) (.pair (.int .u8) (.slice (.int .i8)))))) d)),(2, .l (.val (.slice none 0 0))),(3, .l (.ownS 32)),(4, .l (.z (.int .i64) (z:Int)))], [(32, .arr .str 46 (txP (gW d z)))]⟩:aa)) (fun z=>z<=d.1.length/\z<=5) (fun z=>5-z) 0 ?_ ?_ ?_;·refine q_l ?_;exact⟨rfl,by unfold ioB;omega,rfl⟩
 ·omega
 ·rintro k g1;try dsimp only at g1
  refine al ?_;refine s_g hG ?_;refine ar ?_ ?_
  ·intro hb0;have hk:=Pe (n:=5) hb0;refine au ?_;refine aj ?_;refine al ?_;refine av ?_;refine y6 32 44 (by simp only[aa.toRow,LV.toRow,ioB,mx0,mx1,mx2,mx3,mx4,mx5,mx6,Nat.reduceLT,Nat.reduceEqDiff,Nat.reduceAdd,Nat.reduceMul,Nat.reduceSub,Nat.reduceLeDiff,Nat.reduceBEq,Nat.reduceBNe,reduceIte,reduceDIte,reduceCtorEq];rfl) ?_;refine gZ hG ?_ ?_
   ·(try simp only[ba]);exact ID hD hk
   (refine aN ?_;refine aj ?_;refine rm 32 1 (by simp only[aa.ofRow,LV.ofRow,ioB,List.set_cons_zero,List.set_cons_succ,List.append_nil,List.nil_append,List.cons_append,List.getElem?_cons_zero,List.getElem?_cons_succ,Option.getD_some,mx0,mx1,mx2,mx3,mx4,mx5,mx6,Nat.reduceLT,Nat.reduceEqDiff,Nat.reduceAdd,Nat.reduceMul,Nat.reduceSub,Nat.reduceLeDiff,Nat.reduceBEq,Nat.reduceBNe,reduceIte,reduceDIte,reduceCtorEq];rfl) ?_;refine ag hG ?_ ?_;·first|trivial|omega|(simp;done)|(simp;omega));show ∃ z,_;refine q_l ?_;exact IE hD hk
  ·intro hb0;have hk:=Pf (n:=5) hb0;refine bj ?_;refine aG ?_;refine ay ?_;refine ax ?_;refine aj ?_;refine s_q hG ?_ ?_
   ·(try simp only[ba]);exact⟨(FM hD k).1,P7 (FM hD k).2 g1⟩
   (refine al ?_;refine s_g hG ?_;refine av ?_;refine bw (fun(z:Nat)=>(⟨[(1, .l (.z (.ptr (.st (.pair (.slice (.int .i8)) (.pair (.int .u8) (.slice (.int .i8)))))) d)),(2, .l (.val (.slice none 0 0))),(3, .l (.z (.slice .str) (txP (jD d z)))),(5, .l (.z (.int .i64) (z:Int)))], []⟩:aa)) (fun z=>z<=d.2.2.length/\z<=4) (fun z=>4-z) 0 ?_ ?_ ?_;·refine q_l ?_;exact⟨Qa hk g1,rfl⟩);·omega
   ·rintro k2 g2;(try dsimp only at g2);refine al ?_;refine s_g hG ?_;refine ar ?_ ?_
    ·intro hb1;have hk2:=Pe (n:=4) hb1;refine au ?_;refine aj ?_;refine al ?_;refine av ?_;refine ag hG ?_ ?_
     ·(try simp only[ba]);exact IB hD hk2
     (refine aN ?_;refine aj ?_;refine ag hG ?_ ?_;·first|trivial|omega|(simp;done)|(simp;omega));show ∃ z,_;refine q_l ?_;exact IC hD hk2
    ·intro hb1;have hk2:=Pf (n:=4) hb1;refine bj ?_;refine aG ?_;refine ay ?_;refine ax ?_;refine aj ?_;refine s_g hG ?_;refine az ?_;refine q_e [] ?_;exact P9 hk2 g2
def sK(B:ah):Tab:={types:= [(3,(.int .i64)),(89,(.st (.pair .bool (.slice (.int .u32)))))],elems:= [],cons:= [(133,ib),(144,vT)],hint:= [],N:=6,base:=B}
theorem CL{B:ah}(hB:aC B):aJ Tryz.prog (sK B):=⟨⟨tc ty3 (tc gH (ae)),af,by simp only[sK,ioB];omega⟩,aF (cc Tryz.func133 (n9 hB) (cc Tryz.func144 (E2 hB) (aw))),by kernel_rfl⟩
def O2:Con:=fun l os=>match l,os with
 | [.z (.int .i64) n], []=>some (I64 n, [.z .str (Lib.itoa n)], [])
 |_,_=>none
theorem JD{B:ah}(hB:aC B):Valid B Tryz.prog 103 O2:=by
 refine ab (CL hB).tab Tryz.func103 rfl rfl rfl ?_;intro args os C rs os' hc hC;unfold O2 at hc;split at hc;case h_2=>cases hc
 rename_i n;cases hc;refine v_h (CL hB) fun X hP hT hr hG=> ?_;have hU:=sK.eq_1;unfold sK at hT;have hX:=ai @ib.eq_1<| @vT.eq_1;simp only[Tryz.f103,aD,an,ioB];refine s_g hG ?_;refine s_q hG ?_ ?_
 ·try simp only[ba]
  have h1:=jP hC;exact⟨hC,enc_ok n,by have h2:(enc n).2.length<=3:=h1.2.2;unfold CAP;omega⟩
 refine az ?_;refine q_e [] ?_;rw[bO]
def sL(B:ah):Tab:={types:= [(3,(.int .i64)),(9, .str),(31,(.int .i64)),(89,(.st (.pair .bool (.slice (.int .u32))))),(91,(.st (.pair (.st (.pair .bool (.slice (.int .u32)))) (.st (.pair .bool (.slice (.int .u32))))))),(168,(.arr 2 .str))],elems:= [],cons:= [(108,kP),(132,pg),(142,pf),(143,y5)],hint:= [],N:=31,base:=B}
theorem CM{B:ah}(hB:aC B):aJ Tryz.prog (sL B):=⟨⟨tc ty3 (tc ty9 (tc km (tc gH (tc ty91 (tc Qr (ae)))))),af,by simp only[sL,ioB];omega⟩,aF (cc Tryz.func108 (jZ hB) (cc Tryz.func132 (xl hB) (cc Tryz.func142 (GT hB) (cc Tryz.func143 (IZ hB) (aw))))),by kernel_rfl⟩
def zf:Con:=fun l os=>match l,os with
 | [.z .str n, .z .str d], []=>some (chk n=0/\chk d=0/\ao d≠0/\n.length<=QL/\d.length<=QL, [.z .str (lB (Rat.divInt (ao n) (ao d))), .z (.int .i64) (gS (Rat.divInt (ao n) (ao d)))], [])
 |_,_=>none
theorem JE{B:ah}(hB:aC B):Valid B Tryz.prog 102 zf:=by
 refine ab (CM hB).tab Tryz.func102 rfl rfl rfl ?_;intro args os C rs os' hc hC;unfold zf at hc;split at hc;case h_2=>cases hc
 rename_i n d;cases hc;refine v_h (CM hB) fun X hP hT hr hG=> ?_;have hU:=sL.eq_1;unfold sL at hT;have hX:=ai @pf.eq_1<|ai @kP.eq_1<|ai @pg.eq_1<| @y5.eq_1;simp only[Tryz.f102,aD,an,ioB];obtain⟨hn,hd,h0,hl1,hl2⟩:=hC;have hl1:n.length<=1000000000:=hl1;have hl2:d.length<=1000000000:=hl2;refine s_g hG ?_;refine al ?_;refine s_g hG ?_;refine av ?_;refine bw (fun(z:Nat)=>(⟨[(0, .l (.z .str n)),(1, .l (.z .str d)),(4, .l (.z .str [])),(5, .l (.z (.int .i64) 0)),(11, .l (.z (.arr 2 .str) [n,d])),(12, .l (.z (.int .i64) (z:Int)))], []⟩:aa)) (fun z=>z<=2) (fun z=>2-z) 0 ?_ ?_ ?_;·refine q_l ?_;rfl
 ·omega
 ·rintro k g1;try dsimp only at g1
  refine s_g hG ?_;refine al ?_;refine ar ?_ ?_
  ·intro hb0;(try simp only[bt] at hb0);(have hk:k<2:=by have h9:(k:Int)<2:=hb0;omega);obtain⟨mk1,mk2⟩:=OC hk hn hd hl1 hl2;refine au ?_;refine aj ?_;refine al ?_;refine av ?_;refine s_q hG ?_ ?_
   ·(try simp only[ba]);exact⟨by omega,hb0⟩
   refine s_q hG ?_ ?_
   ·(try simp only[ba]);exact mk2
   refine s_g hG ?_;refine ar ?_ ?_;·intro hb1;exact absurd (beq_iff_eq.2 mk1) (by simpa using hb1)
   ·(intro hb1;(try simp only[bf] at hb1);refine au ?_;refine aN ?_;refine aj ?_;refine ag hG ?_ ?_;·first|trivial|omega|(simp;done)|(simp;omega));show ∃ z,_;refine q_l ?_;exact⟨k+1,wi (by omega) (by omega),by omega,by omega⟩
  ·intro hb0;(try simp only[bf] at hb0);refine bj ?_;refine aG ?_;refine ay ?_;refine ax ?_;refine aj ?_;refine al ?_;refine s_g hG ?_;refine ar ?_ ?_;·intro hb2;exact absurd hb2 (by simp only[Qe h0];decide)
   ·intro hb2;(try simp only[bf] at hb2);refine au ?_;refine aj ?_;refine s_q hG ?_ ?_
    ·(try simp only[ba]);exact Mg hn hd h0 hl1 hl2
    refine az ?_;refine q_e [] ?_;simp only[bO,aL,and_self]
def sM(B:ah):Tab:={types:= [(3,(.int .i64)),(9, .str)],elems:= [],cons:= [(102,zf),(103,O2)],hint:= [],N:=13,base:=B}
theorem CN{B:ah}(hB:aC B):aJ Tryz.prog (sM B):=⟨⟨tc ty3 (tc ty9 (ae)),af,by simp only[sM,ioB];omega⟩,aF (cc Tryz.func102 (JE hB) (cc Tryz.func103 (JD hB) (aw))),by kernel_rfl⟩
def G3:Con:=fun l os=>match l,os with
 | [.z (.int .i64) n, .z (.int .i64) d], []=>some (I64 n/\I64 d/\d≠0, [.z .str (aX (Rat.divInt n d)), .z (.int .i64) 0], [])
 |_,_=>none
theorem JF{B:ah}(hB:aC B):Valid B Tryz.prog 47 G3:=by
 refine ab (CN hB).tab Tryz.func47 rfl rfl rfl ?_;intro args os C rs os' hc hC;unfold G3 at hc;split at hc;case h_2=>cases hc
 rename_i n d;cases hc;refine v_h (CN hB) fun X hP hT hr hG=> ?_;have hU:=sM.eq_1;unfold sM at hT;have hX:=ai @zf.eq_1<| @O2.eq_1;simp only[Tryz.f47,aD,an,ioB];refine s_g hG ?_;refine s_q hG ?_ ?_
 ·try simp only[ba]
  exact Mf hC
 refine az ?_;refine q_e [] ?_;exact OD hC
def sN(B:ah):Tab:={types:= [(3,(.int .i64)),(4, .bool),(22,(.slice .str)),(23,(.slice (.int .i8))),(25,(.st (.pair (.slice (.int .i8)) (.pair (.int .u8) (.slice (.int .i8)))))),(31,(.int .i64)),(46, .str),(71,(.int .i8))],elems:= [(22,46)],cons:= [(11,sw),(17,xA),(24,xC),(29,xE),(30,xG),(40,sJ),(41,Js),(42,mB),(47,G3),(48,ss),(94,Jr)],hint:= [],N:=168,base:=B}
theorem CO{B:ah}(hB:aC B):aJ Tryz.prog (sN B):=⟨⟨tc ty3 (tc ty4 (tc gG (tc Qn (tc Qo (tc km (tc mE (tc Qq (ae)))))))),aT (by kernel_rfl) (af),by simp only[sN,ioB];omega⟩,aF (cc Tryz.func11 (Jv hB) (cc Tryz.func17 (xB hB) (cc Tryz.func24 (xD hB) (cc Tryz.func29 (xF hB) (cc Tryz.func30 (xH hB) (cc Tryz.func40 (JC hB) (cc Tryz.func41 (xL hB) (cc Tryz.func42 (Ju hB) (cc Tryz.func47 (JF hB) (cc Tryz.func48 (Jt hB) (cc Tryz.func94 (xK hB) (aw)))))))))))),by kernel_rfl⟩
def vi:Con:=fun l os=>match l,os with
 | [.z (.st (.pair (.slice (.int .i8)) (.pair (.int .u8) (.slice (.int .i8))))) d, .z (.int .i8) x], []=>some (kx d/\ -128<=x/\x<128, [.z .bool true], [])
 |_,_=>none
set_option maxHeartbeats 1000000 in
theorem JG{B:ah}(hB:aC B):Valid B Tryz.prog 9 vi:=by
 refine ab (CO hB).tab Tryz.func9 rfl rfl rfl ?_;intro args os C rs os' hc hC;unfold vi at hc;split at hc;case h_2=>cases hc
 rename_i d x;cases hc;refine v_h (CO hB) fun X hP hT hr hG=> ?_;have hU:=sN.eq_1;unfold sN at hT;have hX:=ai @mB.eq_1<|ai @sJ.eq_1<|ai @Js.eq_1<|ai @Jr.eq_1<|ai @xE.eq_1<|ai @xC.eq_1<|ai @xA.eq_1<|ai @xG.eq_1<|ai @G3.eq_1<|ai @ss.eq_1<| @sw.eq_1;simp only[Tryz.f9,aD,an,ioB];revert x;intro (x:Int) hC;obtain⟨hd,hx⟩:=hC;have hx1:(-128:Int)<=x:=hx.1;have hx2:x<(128:Int):=hx.2;have hv:=Em (IG hd);have hr:=fun k (hk:k<(d.2.2.take (min d.2.2.length 4)).length)=>OH hd hk;refine s_g hG ?_;refine al ?_;refine s_g hG ?_;refine ar ?_ ?_;·intro hb0;cases hb0
 ·intro hb0;try simp only[bf] at hb0
  refine au ?_;refine aj ?_;refine s_q hG ?_ ?_
  ·(try simp only[ba]);exact hd
  generalize nV d=P at*;obtain⟨S,hS⟩:∃ S,bC P=S:=⟨_,rfl⟩;rw[hS] at hv;obtain⟨⟨a1,a2⟩,⟨b1,b2⟩,⟨c1,c2⟩⟩:=Mk hv hS;have qs:=PW hv.ps;refine s_q hG ?_ ?_
  ·(try simp only[ba]);exact hv.ok
  simp only[a1,a2];refine s_q hG ?_ ?_
  ·(try simp only[ba]);exact Fx hv.pp hv.pp
  refine al ?_;simp only[b1,b2];refine s_q hG ?_ ?_
  ·(try simp only[ba]);exact⟨hv.okq,by rw[c1];exact qs,qs⟩
  refine ar ?_ ?_;·intro hb1;simp[a2,b2,c1,c2] at hb1
  ·intro hb1;(try simp only[bf] at hb1);refine au ?_;refine aj ?_;refine al ?_;refine s_g hG ?_;refine ar ?_ ?_;·intro hb2;have h0:=LH.1 (beq_iff_eq.1 hb2);refine s_g hG ?_;refine az ?_;refine aB ?_;refine q_e [] ?_;rw[hv.nil h0];rfl
   ·intro hb2;have h0:P≠ []:=fun e=>(beq_eq_false_iff_ne.1 hb2) (LH.2 e);obtain⟨s0,s1,pds,⟨d0,d1,d3⟩,gok,one⟩:=hv.rest h0;obtain⟨v1,v2⟩:c6 (fun a _=>aZ a) (txP S) []=txP (aZ S)/\cZ (fun a _=>aZ a) (txP S) []=0:=lH (f:=fun a _=>aZ a) hv.ps mf (jW pds.trm) pds;obtain⟨z1,z2⟩:=lH (f:=bJ) hv.ps pds (r:= [1]) (by rw[one];rfl) OA;(have gn:(txP S).length≠0:=by rw[cm];exact fun e=>s0 (List.eq_nil_of_length_eq_zero e));have gi:=Me hv.ps s0;have hl1:=Md hv.ps s0 s1;refine au ?_;refine aj ?_;refine s_q hG ?_ ?_
    ·(try simp only[ba]);exact Fy hv.ps
    refine al ?_;simp only[v1,v2];refine s_q hG ?_ ?_
    ·(try simp only[ba]);simp[gn,hl1,gi,d0,d1,d3,gok,z1,z2,FO,QL]
    refine ar ?_ ?_;·intro hb3;simp[gn,hl1,d1,d3,z1,z2,FO] at hb3
    ·intro hb3;(try simp only[bf] at hb3);refine au ?_;refine aj ?_;refine al ?_;refine s_q hG ?_ ?_
     ·(try simp only[ba]);omega
     (refine av ?_;refine bw (fun(z:Nat)=>(⟨[(1, .l (.z (.int .i8) x)),(2, .l (.z (.ptr (.st (.pair (.slice (.int .i8)) (.pair (.int .u8) (.slice (.int .i8)))))) d)),(5, .l (.z (.slice .str) (txP P))),(6, .l (.z (.slice .str) (txP S))),(105, .l (.z (.slice (.int .i8)) (d.2.2.take (min d.2.2.length 4)))),(106, .l (.z (.int .i64) ((d.2.2.take (min d.2.2.length 4)).length:Int))),(107, .l (.z (.int .i64) (z:Int)))], []⟩:aa)) (fun z=>z<=(d.2.2.take (min d.2.2.length 4)).length) (fun z=>(d.2.2.take (min d.2.2.length 4)).length-z) 0 ?_ ?_ ?_;·refine q_l ?_;rw[Mj];exact⟨rfl,rfl,rfl⟩);·omega
     ·rintro k g1;(try dsimp only at g1);refine s_g hG ?_;refine al ?_;refine ar ?_ ?_
      ·intro hb4;(try simp only[bt] at hb4);(have hk:k<(d.2.2.take (min d.2.2.length 4)).length:=by have h9:(k:Int)<(((d.2.2.take (min d.2.2.length 4)).length:Nat):Int):=hb4;omega);obtain⟨i1,i2,i3⟩:=hr k hk;obtain⟨_,⟨j1,j2,j3⟩,j4⟩:=Mi hv i2;have j5:=j3.trans (eT.2 ((j4 h0).1 i3));refine au ?_;refine aj ?_;refine al ?_;refine av ?_;refine s_q hG ?_ ?_
       ·(try simp only[ba]);exact⟨by omega,hb4⟩
       refine s_q hG ?_ ?_
       ·(try simp only[ba]);rw[i1];exact⟨by decide,by unfold I64;omega,by unfold I64;omega,by decide⟩
       simp only[i1];refine s_q hG ?_ ?_
       ·(try simp only[ba]);exact j1
       simp only[j2,j5];refine s_g hG ?_;refine ar ?_ ?_;·intro hb5;simp at hb5
       ·(intro hb5;(try simp only[bf] at hb5);refine au ?_;refine aN ?_;refine aj ?_;refine ag hG ?_ ?_;·first|trivial|omega|(simp;done)|(simp;omega));show ∃ z,_;refine q_l ?_;(have h6:(d.2.2.take (min d.2.2.length 4)).length<=4:=by rw[List.length_take];omega);exact⟨k+1,wi (by omega) (by omega),hk,by omega⟩
      ·intro hb4;(try simp only[bf] at hb4);(have hk: ¬k<(d.2.2.take (min d.2.2.length 4)).length:=by have h9: ¬ (k:Int)<(((d.2.2.take (min d.2.2.length 4)).length:Nat):Int):=hb4;omega);obtain⟨⟨k1,k2,k3⟩,⟨l1,l2,l3⟩,l4⟩:=Mi hv (n:=x) (show Int.natAbs x<=128 by omega);have l5:=(eT (x:=ak P (Rat.divInt x 2))).trans ((l4 h0).trans eT.symm);refine bj ?_;refine aG ?_;refine ay ?_;refine ax ?_;refine aj ?_;have hw:IntKind.i64.wrap x=x:=wi (by omega) (by omega);refine s_q hG ?_ ?_
       ·(try simp only[ba]);rw[hw];exact⟨by unfold I64;omega,by unfold I64;omega,by decide⟩
       simp only[hw];refine s_q hG ?_ ?_
       ·(try simp only[ba]);exact k1
       refine s_q hG ?_ ?_
       ·(try simp only[ba]);exact l1
       refine s_g hG ?_;refine az ?_;refine q_e [] ?_;(have l6:(aX (ak P (Rat.divInt x 2))== [48])=(aX (ak S (Rat.divInt x 2))== [48]):=by rw[Bool.eq_iff_iff,beq_iff_eq,beq_iff_eq];exact l5);simp[k2,k3,l2,l3,l6]
end Go.Proofs.YtdojbabpnaifoaaGreatDoor
end
section
namespace Go.Cm
open Go.RowKit Go.Deep Go.ChangeShapes Go.WideShapes
def Below(W W':World):Prop:=∀ b,b<W.heap.size->W'.heap[b]? =W.heap[b]?
theorem Below.cell{W W':World}(h:Below W W'){a:Addr}{v:Value}(hc:W.cell? a=some v):W'.cell? a=some v:=by
 rw[<- hc];exact World.cell?_of_block (h a.block (block_lt_of_cell hc))
def M0(P:Program)(w:Nat)(r:TypeId->Bool):Nat->List Field->Bool:=fun off fs=>match fs with
 | [f]=>f.offset==off&&P.cellsOf f.type==w&&r f.type
 |_=>false
def eB(P:Program)(w:Nat)(r:TypeId->Bool):(TypeId->Bool)×(Nat->List Field->Bool):=(r,M0 P w r)
def Ty.rd(P:Program):Ty->(TypeId->Bool)×(Nat->List Field->Bool)
 | .int k=>eB P 1 fun T=>match P.underlying T with
  |some (.int k')=>decide (k'=k)
  |_=>false
 | .bool=>eB P 1 fun T=>match P.underlying T with
  |some .bool=>true
  |_=>false
 | .str=>eB P 1 fun T=>match P.underlying T with
  |some .string=>true
  |_=>false
 | .unit=>(fun _=>false,fun _ _=>false)
 | .pair a b=>(fun _=>false,fun off fs=>match fs with
  |f::r=>f.offset==off&&P.cellsOf f.type==a.w&&(a.rd P).1 f.type&&(b.rd P).2 (off+a.w) r
  | []=>false)
 | .st t=>eB P t.w fun T=>match P.underlying T with
  |some (.struct fs)=>P.cellsOf T==t.w&&(t.rd P).2 0 fs.toList
  |_=>false
 | .arr n t=>eB P (n*t.w) fun T=>match P.underlying T with
  |some (.array m E)=>m==n&&P.cellsOf E==t.w&&P.cellsOf T==n*t.w&&(t.rd P).1 E
  |_=>false
 | .slice t=>eB P 1 fun T=>match P.underlying T with
  |some (.slice E)=>P.cellsOf E==t.w&&decide (0<t.w)&&(t.rd P).1 E
  |_=>false
 | .ptr _=>(fun _=>false,fun _ _=>false)
 | .opt _=>(fun _=>false,fun _ _=>false)
 | .func=>(fun _=>false,fun _ _=>false)
def Ty.okD:(t:Ty)->t.D->Prop
 | .int k,x=>k.min<=x/\x<=k.max
 | .bool,_=>True
 | .str,x=>x.length<=maxLen
 | .unit,_=>True
 | .pair a b,x=>a.okD x.1/\b.okD x.2
 | .st t,x=>t.okD x
 | .arr n t,x=>x.length=n/\∀ y∈x,t.okD y
 | .slice t,x=>x.length<=maxLen/\∀ y∈x,t.okD y
 | .ptr t,x=>t.okD x
 | .opt t,x=>∀ y,x=some y->t.okD y
 | .func,_=>True
section
variable {H:Type} (enc:TypeId×Value->H) (P:Program) (W:World)
def lS(t:Ty)(T:TypeId)(cs:List Value)(d:DataW H)(ps:List MemPlace):Prop:=
 ∃ x:t.D,t.okD x/\t.rep (fun _=>False) W cs x/\
  ∀ (W':World) (sp:Nat->Bool),Below W W'->(∀ q∈ps,sp q.block=true)->∃ n,DataW.trod enc P W' 0 sp true n T cs=some (d,ps)
theorem mapM_at{α β:Type}{f:α->Option β}:∀ {l:List α} {xs:List β},l.mapM f=some xs->xs.length=l.length/\∀ (i:Nat) a,l[i]? =some a->f a=xs[i]?
 | [],xs,h=>by simp at h;subst h;simp
 |a::l,xs,h=>by
  simp only[List.mapM_cons,Option.bind_eq_bind,Option.bind_eq_some_iff,Option.pure_def,Option.some.injEq] at h;obtain⟨y,hy,ys,hys,rfl⟩:=h;obtain⟨h1,h2⟩:=mapM_at hys;refine⟨by simp[h1],fun i b hb=> ?_⟩;cases i with
  |zero=>simp at hb;subst hb;simpa using hy
  |succ i=>simp at hb ⊢;exact h2 i b hb
theorem od{α β:Type}{f:α->Option β}:∀ {l:List α} {xs:List β},xs.length=l.length->(∀ (i:Nat) a,l[i]? =some a->f a=xs[i]?)->l.mapM f=some xs
 | [],xs,h,_=>by have:=List.eq_nil_of_length_eq_zero h;subst this;rfl
 |a::l, [],h,_=>by simp at h
 |a::l,x::xs,h,hf=>by
  have h0:=hf 0 a rfl;simp at h0;have:=od (f:=f) (l:=l) (xs:=xs) (by simpa using h) (fun i b hb=>by have:=hf (i+1) b (by simpa using hb);simpa using this);simp[List.mapM_cons,h0,this]
theorem G4{α:Type}{R:List Value->α->Prop}{ok:α->Prop}{w:Nat}:∀ (n:Nat) (cs:List Value),cs.length=n*w->(∀ i,i<n->∃ x,ok x/\R ((cs.drop (i*w)).take w) x)->∃ xs:List α,xs.length=n/\(∀ x∈xs,ok x)/\cK R cs xs
 |0,cs,h,_=>⟨[],rfl,by simp,by simp[cK];exact List.eq_nil_of_length_eq_zero (by omega)⟩
 |n+1,cs,h,hx=>by
  obtain⟨x,h1,h2⟩:=hx 0 (by omega);simp only[Nat.zero_mul,List.drop_zero] at h2;obtain⟨xs,g1,g2,g3⟩:=G4 (R:=R) (ok:=ok) (w:=w) n (cs.drop w) (by rw[List.length_drop,h,Nat.succ_mul];omega) (fun i hi=>by
   obtain⟨y,k1,k2⟩:=hx (i+1) (by omega);refine⟨y,k1,?_⟩;rw[List.drop_drop,show w+i*w=(i+1)*w by rw[Nat.succ_mul];omega];exact k2)
  refine⟨x::xs,by simp[g1],fun y hy=> ?_,cs.take w,cs.drop w,(List.take_append_drop _ _).symm,h2,g3⟩;rcases List.mem_cons.1 hy with rfl|hy;·exact h1
  ·exact g2 y hy
theorem G5{α:Type}{R:List Value->α->Prop}{ok:α->Prop}{w:Nat}{a:Addr}:∀ (n:Nat),(∀ i,i<n->∃ c,c.length=w/\(∀ j,j<w->W.cell? (a.add (i*w+j))=c[j]?)/\∃ x,ok x/\R c x)->
  ∃ (cells:List Value) (xs:List α),cells.length=n*w/\xs.length=n/\(∀ x∈xs,ok x)/\cK R cells xs/\∀ k,k<n*w->W.cell? (a.add k)=cells[k]?
 |0,_=>⟨[], [],by simp,rfl,by simp,rfl,fun k hk=>by simp at hk⟩
 |n+1,h=>by
  obtain⟨cells,xs,h1,h2,h3,h4,h5⟩:=G5 n (fun i hi=>h i (by omega));obtain⟨c,g1,g2,x,g3,g4⟩:=h n (by omega);refine⟨cells++c,xs++ [x],by rw[List.length_append,h1,g1,Nat.succ_mul],by simp[h2],fun y hy=> ?_,fB h4 (JJ g4),fun k hk=> ?_⟩
  ·(rcases List.mem_append.1 hy with hy|hy;·exact h3 y hy);·simp at hy;subst hy;exact g3
  ·by_cases hlt:k<n*w
   ·rw[h5 k hlt,List.getElem?_append_left (by omega)]
   ·rw[Nat.succ_mul] at hk;rw[List.getElem?_append_right (by omega),h1,<- g2 (k-n*w) (by omega),show n*w+(k-n*w)=k by omega]
theorem JH{W:World}{b:Nat}{a:Addr}{n:Nat}{cs:List Value}(h:W.cells? b a n=some cs):cs.length=n/\∀ j,j<n->W.cell? (a.add j)=cs[j]? :=by
 unfold World.cells? at h;split at h;·obtain⟨h1,h2⟩:=mapM_at h;refine⟨by simpa using h1,fun j hj=>h2 j j (by simp[hj])⟩
 ·cases h
theorem M1{W:World}{a:Addr}{n:Nat}{cs:List Value}(h:cs.length=n)(hc:∀ j,j<n->W.cell? (a.add j)=cs[j]?):W.cells? 0 a n=some cs:=by
 unfold World.cells?;rw[if_pos (Nat.zero_le _)];exact od (by simpa using h) (fun i b hb=>by
  obtain⟨hi,e⟩:=List.getElem?_eq_some_iff.1 hb;simp at hi e;subst e;exact hc i hi)
theorem M3(t:Ty):(∀ T,(t.rd P).1 T=true->∀ fuel cs d ps,DataW.trod enc P W 0 (fun _=>true) true fuel T cs=some (d,ps)->lS enc P W t T cs d ps):=by
 have single:∀ (u:Ty) (w:Nat),u.w=w->(∀ T,(u.rd P).1 T=true->∀ fuel cs d ps,DataW.trod enc P W 0 (fun _=>true) true fuel T cs=some (d,ps)->lS enc P W u T cs d ps)->
   ∀ off fs,M0 P w (u.rd P).1 off fs=true->∀ (fuel:Nat) (cs:List Value) (xs:List (DataW H×List MemPlace)),cs.length=off+u.w->fs.mapM (fun f=>DataW.trod enc P W 0 (fun _=>true) true fuel f.type ((cs.drop f.offset).take (P.cellsOf f.type)))=some xs->
   ∃ x:u.D,u.okD x/\u.rep (fun _=>False) W (cs.drop off) x/\∀ (W':World) (sp:Nat->Bool),Below W W'->(∀ q∈xs.flatMap (·.2),sp q.block=true)->∃ n,fs.mapM (fun f=>DataW.trod enc P W' 0 sp true n f.type ((cs.drop f.offset).take (P.cellsOf f.type)))=some xs:=by
  intro u w hw ih off fs hr fuel cs xs hl hm;unfold M0 at hr;split at hr
  ·rename_i f;simp only[Bool.and_eq_true,beq_iff_eq] at hr;obtain⟨⟨h1,h2⟩,h3⟩:=hr;rw[List.mapM_cons,Option.bind_eq_bind,Option.bind_eq_some_iff] at hm;obtain⟨⟨d,ps⟩,hd,hm⟩:=hm;simp at hm;subst hm;have hcut:(cs.drop f.offset).take (P.cellsOf f.type)=cs.drop off:=by
    rw[h1,h2];exact List.take_of_length_le (by rw[List.length_drop];omega)
   rw[hcut] at hd;obtain⟨x,g1,g2,g3⟩:=ih _ h3 _ _ _ _ hd;refine⟨x,g1,g2,fun W' sp hB hq=> ?_⟩;obtain⟨n,hn⟩:=g3 W' sp hB (fun q hq'=>hq q (by simpa using hq'));exact⟨n,by simp[hcut,hn]⟩
  ·cases hr
 suffices key:(∀ T,(t.rd P).1 T=true->∀ fuel cs d ps,DataW.trod enc P W 0 (fun _=>true) true fuel T cs=some (d,ps)->lS enc P W t T cs d ps)/\
   ∀ off fs,(t.rd P).2 off fs=true->∀ (fuel:Nat) (cs:List Value) (xs:List (DataW H×List MemPlace)),cs.length=off+t.w->fs.mapM (fun f=>DataW.trod enc P W 0 (fun _=>true) true fuel f.type ((cs.drop f.offset).take (P.cellsOf f.type)))=some xs->
   ∃ x:t.D,t.okD x/\t.rep (fun _=>False) W (cs.drop off) x/\∀ (W':World) (sp:Nat->Bool),Below W W'->(∀ q∈xs.flatMap (·.2),sp q.block=true)->∃ n,fs.mapM (fun f=>DataW.trod enc P W' 0 sp true n f.type ((cs.drop f.offset).take (P.cellsOf f.type)))=some xs from key.1
 induction t with
 |int k=>
  have h:∀ T,((Ty.int k).rd P).1 T=true->∀ fuel cs d ps,DataW.trod enc P W 0 (fun _=>true) true fuel T cs=some (d,ps)->lS enc P W (.int k) T cs d ps:=by
   (intro T hT fuel cs d ps h;simp only[Ty.rd,eB] at hT;split at hT;·rename_i k' hu;simp only[decide_eq_true_eq] at hT;subst hT;obtain⟨z,rfl,he,hw⟩:=DataW.trod_int hu h;cases he;(have h2:IntKind.min k'<=z/\z<=IntKind.max k':=by simpa [Lit.wf,IntKind.has] using hw);exact⟨z,h2,rfl,fun W' sp _ _=>⟨1,trod_int_mk 0 hu hw⟩⟩);·cases hT
  exact⟨h,single (.int k) 1 rfl h⟩
 |bool=>
  have h:∀ T,(Ty.bool.rd P).1 T=true->∀ fuel cs d ps,DataW.trod enc P W 0 (fun _=>true) true fuel T cs=some (d,ps)->lS enc P W .bool T cs d ps:=by
   (intro T hT fuel cs d ps h;simp only[Ty.rd,eB] at hT;split at hT;·rename_i hu;obtain⟨z,rfl,he⟩:=DataW.trod_bool hu h;cases he;exact⟨z,trivial,rfl,fun W' sp _ _=>⟨1,by unfold DataW.trod;rw[hu]⟩⟩);·cases hT
  exact⟨h,single .bool 1 rfl h⟩
 |str=>
  have h:∀ T,(Ty.str.rd P).1 T=true->∀ fuel cs d ps,DataW.trod enc P W 0 (fun _=>true) true fuel T cs=some (d,ps)->lS enc P W .str T cs d ps:=by
   (intro T hT fuel cs d ps h;simp only[Ty.rd,eB] at hT;split at hT;·rename_i hu;obtain⟨z,rfl,he,hz⟩:=DataW.trod_string hu h;cases he;refine⟨z.data.toList,by simpa [Ty.okD] using hz,rfl,fun W' sp _ _=>shut_string_cell hu hz⟩);·cases hT
  exact⟨h,single .str 1 rfl h⟩
 |unit=>exact⟨fun T h=>by simp[Ty.rd] at h,fun off fs h=>by simp[Ty.rd] at h⟩
 |ptr t _=>exact⟨fun T h=>by simp[Ty.rd] at h,fun off fs h=>by simp[Ty.rd] at h⟩
 |opt t _=>exact⟨fun T h=>by simp[Ty.rd] at h,fun off fs h=>by simp[Ty.rd] at h⟩
 |func=>exact⟨fun T h=>by simp[Ty.rd] at h,fun off fs h=>by simp[Ty.rd] at h⟩
 |pair a b iha ihb=>
  refine⟨fun T h=>by simp[Ty.rd] at h,?_⟩;intro off fs hr fuel cs xs hl hm;simp only[Ty.rd] at hr;split at hr
  ·rename_i f r;simp only[Bool.and_eq_true,beq_iff_eq] at hr;obtain⟨⟨⟨h1,h2⟩,h3⟩,h4⟩:=hr;rw[List.mapM_cons,Option.bind_eq_bind,Option.bind_eq_some_iff] at hm;obtain⟨⟨d,ps⟩,hd,hm⟩:=hm;rw[Option.bind_eq_bind,Option.bind_eq_some_iff] at hm;obtain⟨ys,hys,hm⟩:=hm;simp at hm;subst hm;rw[h1,h2] at hd;simp only[Ty.w] at hl;obtain⟨x,g1,g2,g3⟩:=iha.1 _ h3 _ _ _ _ hd;obtain⟨y,k1,k2,k3⟩:=ihb.2 _ _ h4 _ _ _ (by omega) hys;refine⟨(x,y),⟨g1,k1⟩,⟨(cs.drop off).take a.w,cs.drop (off+a.w),?_,g2,k2⟩,fun W' sp hB hq=> ?_⟩;·rw[<- List.drop_drop,List.take_append_drop]
   ·obtain⟨n,hn⟩:=g3 W' sp hB (fun q hq'=>hq q (by simp[hq']));obtain⟨m,hm⟩:=k3 W' sp hB (fun q hq'=>hq q (by rw[List.flatMap_cons];exact List.mem_append_right _ hq'));refine⟨max n m,?_⟩;rw[List.mapM_cons,h1,h2,DataW.trod_le (Nat.le_max_left n m) hn];have:r.mapM (fun f=>DataW.trod enc P W' 0 sp true (max n m) f.type ((cs.drop f.offset).take (P.cellsOf f.type)))=some ys:=by
     obtain⟨q1,q2⟩:=mapM_at hm;refine od q1 fun i f hf=> ?_;(have hi:i<ys.length:=by rw[q1];exact(List.getElem?_eq_some_iff.1 hf).1);have:=q2 i f hf;rw[List.getElem?_eq_getElem hi] at this ⊢;exact DataW.trod_le (Nat.le_max_right n m) this
    simp[this]
  ·cases hr
 |st t ih=>
  have h:∀ T,((Ty.st t).rd P).1 T=true->∀ fuel cs d ps,DataW.trod enc P W 0 (fun _=>true) true fuel T cs=some (d,ps)->lS enc P W (.st t) T cs d ps:=by
   (intro T hT fuel cs d ps h;simp only[Ty.rd,eB] at hT;split at hT;·rename_i fs hu;simp only[Bool.and_eq_true,beq_iff_eq] at hT;obtain⟨xs,n,rfl,he,hl,hxl,hx⟩:=DataW.trod_struct hu h;cases he;obtain⟨x,g1,g2,g3⟩:=ih.2 0 _ hT.2 n cs xs (by rw[hl,hT.1];omega) (od (by rw[hxl];rfl) (fun i f hf=>hx i f (by simpa using hf)));refine⟨x,g1,(show t.rep (fun _=>False) W cs x by simpa using g2),fun W' sp hB hq=> ?_⟩;obtain⟨m,hm⟩:=g3 W' sp hB hq;exact⟨m+1,trod_struct_mk hu hl hm⟩);·cases hT
  exact⟨h,single (.st t) t.w rfl h⟩
 |arr n t ih=>
  have h:∀ T,((Ty.arr n t).rd P).1 T=true->∀ fuel cs d ps,DataW.trod enc P W 0 (fun _=>true) true fuel T cs=some (d,ps)->lS enc P W (.arr n t) T cs d ps:=by
   intro T hT fuel cs d ps h;simp only[Ty.rd,eB] at hT;split at hT
   ·rename_i m E hu;simp only[Bool.and_eq_true,beq_iff_eq] at hT;obtain⟨⟨⟨rfl,h2⟩,h3⟩,h4⟩:=hT;obtain⟨xs,k,rfl,he,hl,hxl,hx⟩:=DataW.trod_array hu h;cases he;have each:∀ i,i<m->lS enc P W t E ((cs.drop (i*t.w)).take t.w) ((xs.map (·.1)).getD i .nil) ((xs.map (·.2)).getD i []):=by
     intro i hi;have:=hx i hi;rw[h2,List.getElem?_eq_getElem (by omega)] at this;refine ih.1 E h4 k _ _ _ ?_;rw[this];simp[List.getD_eq_getElem?_getD,List.getElem?_eq_getElem (show i<xs.length by omega)]
    obtain⟨ys,q1,q2,q3⟩:=G4 (R:=fun c y=>t.rep (fun _=>False) W c y) (ok:=t.okD) m cs (by rw[hl,h3]) (fun i hi=>by obtain⟨x,e1,e2,_⟩:=each i hi;exact⟨x,e1,e2⟩);refine⟨ys,⟨q1,q2⟩,⟨q1,q3⟩,fun W' sp hB hq=> ?_⟩;obtain⟨f,hf⟩:=fuel_lt (n:=m) (q:=fun i f=>DataW.trod enc P W' 0 sp true f E ((cs.drop (i*t.w)).take t.w)=xs[i]? /\i<xs.length) (fun i a b hab hi=>by
      cases hx':xs[i]? with
      |none=>exact absurd hi.2 (by rw[List.getElem?_eq_none_iff] at hx';omega)
      |some y=>rw[hx'] at hi;exact⟨DataW.trod_le hab hi.1,hi.2⟩) (fun i hi=>by
     obtain⟨_,_,_,e3⟩:=each i hi;(have hil:i<xs.length:=by omega);obtain⟨f,hf⟩:=e3 W' sp hB (fun q hq'=>hq q (by
      rw[List.mem_flatMap];refine⟨xs[i],List.getElem_mem hil,?_⟩;simpa [List.getD_eq_getElem?_getD,List.getElem?_eq_getElem hil] using hq'))
     refine⟨f,?_,hil⟩;rw[hf,List.getElem?_eq_getElem hil];simp[List.getD_eq_getElem?_getD,List.getElem?_eq_getElem hil])
    refine⟨f+1,?_⟩;have hmm:(List.range m).mapM (fun i=>DataW.trod enc P W' 0 sp true f E ((cs.drop (i*t.w)).take t.w))=some xs:=od (by simpa using hxl) (fun i b hb=>by
     obtain⟨hi,e⟩:=List.getElem?_eq_some_iff.1 hb;simp at hi e;subst e;exact(hf i hi).1)
    unfold DataW.trod;rw[hu];simp only[h2,hl,hmm,if_true,Option.map_some]
   ·cases hT
  exact⟨h,single (.arr n t) (n*t.w) rfl h⟩
 |slice t ih=>
  have h:∀ T,((Ty.slice t).rd P).1 T=true->∀ fuel cs d ps,DataW.trod enc P W 0 (fun _=>true) true fuel T cs=some (d,ps)->lS enc P W (.slice t) T cs d ps:=by
   intro T hT fuel cs d ps h;simp only[Ty.rd,eB] at hT;split at hT
   ·(rename_i E hu;simp only[Bool.and_eq_true,beq_iff_eq,decide_eq_true_eq] at hT;obtain⟨⟨h1,h2⟩,h3⟩:=hT;rcases open_slice hu h with⟨rfl,he⟩|⟨a,len,cap,m,k,D,Pl,rfl,hb,hl,hm,he1,he,hx⟩);·cases he;exact⟨[],⟨by simp,by simp⟩, .inl ⟨rfl,rfl⟩,fun W' sp _ _=>⟨1,by unfold DataW.trod;rw[hu];rfl⟩⟩
    ·cases he;simp only[if_true] at he1;subst he1;rw[h1] at hx;have each:∀ i,i<m->∃ c,c.length=t.w/\(∀ j,j<t.w->W.cell? (a.add (i*t.w+j))=c[j]?)/\lS enc P W t E c (D i) (Pl i):=by
      intro i hi;obtain⟨c,hc,hd⟩:=hx i hi;obtain⟨g1,g2⟩:=JH hc;exact⟨c,g1,fun j hj=>by rw[<- g2 j hj,add_add],ih.1 E h3 k _ _ _ hd⟩
     obtain⟨cells,ys,q1,q2,q3,q4,q5⟩:=G5 W (R:=fun c y=>t.rep (fun _=>False) W c y) (ok:=t.okD) (a:=a) len (fun i hi=>by
      obtain⟨c,e1,e2,x,e3,e4,_⟩:=each i (by omega);exact⟨c,e1,e2,x,e3,e4⟩)
     obtain⟨b,o,p⟩:=a;have hp:0<m->p=none:=by
      intro hlen;obtain⟨c,e1,e2,_⟩:=each 0 hlen;have:=e2 0 h2;rw[List.getElem?_eq_getElem (by omega)] at this;simp only[Nat.zero_mul,Nat.add_zero] at this;unfold World.cell? Addr.add at this;split at this
      ·cases p with
       |none=>rfl
       |some _=>simp at this
      ·cases this
     have hne:ys≠ []->p=none:=fun h=>hp (by cases ys with
      |nil=>exact absurd rfl h
      |cons y ys=>simp at q2;omega)
     refine⟨ys,⟨by omega,q3⟩, .inr ⟨b,o,p,m,cells,by rw[q2],hne,by omega,hm,q4,fun _ h=>h,fun j hj=> ?_⟩,fun W' sp hB hq=> ?_⟩
     ·have hys:ys≠ []:=by
       intro e;subst e;have e:cells= []:=q4;subst e;simp at hj
      obtain rfl:=hne hys;have:=q5 j (by omega);rw[<- this,addr_add];simp
     ·by_cases h0:m=0
      ·subst h0;(have hlen:len=0:=by omega);subst hlen;refine⟨1,?_⟩;unfold DataW.trod;rw[hu];simp[MemPlace.row,hm]
      ·have hs:sp b=true:=hq (.cell b o) (by
        simp only[MemPlace.row,List.mem_append,List.mem_map,List.mem_range];exact .inl ⟨0,by rw[h1];exact Nat.mul_pos (by omega) h2,by simp⟩)
       have:=shut_slice_whole_cells (enc:=enc) (w:=W') (base:=0) (spare:=sp) (held:=true) (a:=⟨b,o,p⟩) hu hb hl hm hs D Pl (fun i hi=>by
        obtain⟨c,e1,e2,x,e3,e4,e5⟩:=each i hi;obtain⟨n,hn⟩:=e5 W' sp hB (fun q hq'=>hq q (by
         rw[List.mem_append];right;rw[List.mem_flatMap];exact⟨i,by simpa using hi,hq'⟩))
        refine⟨c,n,?_,hn⟩;rw[h1];refine M1 e1 fun j hj=> ?_;rw[add_add];have:=e2 j hj;rw[List.getElem?_eq_getElem (by omega)] at this ⊢;exact hB.cell this)
       exact this
   ·cases hT
  exact⟨h,single (.slice t) 1 rfl h⟩
end
end Go.Cm
end
section
namespace Go.Cm
open Go.RowKit Go.Deep Go.ChangeShapes Go.WideShapes Go.ChangeAt
def HL:List Ty->Type
 | []=>Unit
 |t::ts=>t.D×HL ts
def HL.args:(ts:List Ty)->HL ts->List LV
 | [],_=> []
 |t::ts,x=> .z t x.1::HL.args ts x.2
def HL.ok:(ts:List Ty)->HL ts->Prop
 | [],_=>True
 |t::ts,x=>t.okD x.1/\HL.ok ts x.2
theorem Qh{P:Program}{W:World}{r:Reach}{b0:Nat}{T:TypeId}{v:Value}(hv:Value.okWide P W r b0 T v):∀ {t:Ty},(t.rd P).1 T=true->eJ v=t.isAgg
 | .int k,h=>by
  simp only[Ty.rd,eB] at h;split at h;·rename_i hu;unfold Value.okWide at hv;rw[hu] at hv;simp only at hv;unfold Cell.okWide at hv;rw[hu] at hv;cases v<;>simp_all [Cell.ok,eJ,Ty.isAgg]
  ·cases h
 | .bool,h=>by
  simp only[Ty.rd,eB] at h;split at h;·rename_i hu;unfold Value.okWide at hv;rw[hu] at hv;simp only at hv;unfold Cell.okWide at hv;rw[hu] at hv;cases v<;>simp_all [Cell.ok,eJ,Ty.isAgg]
  ·cases h
 | .str,h=>by
  simp only[Ty.rd,eB] at h;split at h;·rename_i hu;unfold Value.okWide at hv;rw[hu] at hv;simp only at hv;unfold Cell.okWide at hv;rw[hu] at hv;cases v<;>simp_all [Cell.ok,eJ,Ty.isAgg]
  ·cases h
 | .slice t,h=>by
  simp only[Ty.rd,eB] at h;split at h;·rename_i hu;unfold Value.okWide at hv;rw[hu] at hv;simp only at hv;unfold Cell.okWide at hv;rw[hu] at hv;cases v<;>simp_all [Cell.ok,eJ,Ty.isAgg]
  ·cases h
 | .st t,h=>by
  simp only[Ty.rd,eB] at h;split at h;·rename_i hu;unfold Value.okWide at hv;rw[hu] at hv;simp only at hv;obtain⟨cs,rfl,_⟩:=hv;rfl
  ·cases h
 | .arr n t,h=>by
  simp only[Ty.rd,eB] at h;split at h;·rename_i hu;unfold Value.okWide at hv;rw[hu] at hv;simp only at hv;obtain⟨cs,rfl,_⟩:=hv;rfl
  ·cases h
 | .unit,h=>by simp[Ty.rd] at h
 | .pair _ _,h=>by simp[Ty.rd] at h
 | .ptr _,h=>by simp[Ty.rd] at h
 | .opt _,h=>by simp[Ty.rd] at h
 | .func,h=>by simp[Ty.rd] at h
def vj(P:Program):List Ty->List TypeId->Bool
 | [], []=>true
 |t::ts,T::Ts=>(t.rd P).1 T&&vj P ts Ts
 |_,_=>false
theorem CP{H:Type}{enc:TypeId×Value->H}{P:Program}{W:World}{b0:Nat}:∀ (ts:List Ty) {Ts:List TypeId} {vs:List Value} {ds:List (DataW H)} {p:List MemPlace},vj P ts Ts=true->
  (∀ (j:Nat) t v,Ts[j]? =some t->vs[j]? =some v->Value.okWide P W .any b0 t v)->DataW.TrodAll enc P W 0 (fun _=>true) true Ts vs ds p->
  ∃ x:HL ts,HL.ok ts x/\bF (aU (fun _=>False) W (fun _=>undef)) (HL.args ts x) vs/\ds.length=ts.length/\
   ∀ (W':World) (sp:Nat->Bool),Below W W'->(∀ q∈p,sp q.block=true)->DataW.TrodAll enc P W' 0 sp true Ts vs ds p
 | [], [],vs,ds,p,_,_,h=>by
  obtain⟨rfl,rfl,rfl⟩:=trodAll_nil h;exact⟨(),trivial,trivial,rfl,fun _ _ _ _=>rfl⟩
 |t::ts,T::Ts,vs,ds,p,hr,hv,h=>by
  simp only[vj,Bool.and_eq_true] at hr;obtain⟨v,vs',d,ds',p0,q,rfl,rfl,rfl,⟨n,h0⟩,hs⟩:=trodAll_cons h;obtain⟨x,g1,g2,g3⟩:=M3 enc P W t T hr.1 n _ _ _ h0;obtain⟨y,k1,k2,k3,k4⟩:=CP ts hr.2 (fun j t v h1 h2=>hv (j+1) t v (by simpa using h1) (by simpa using h2)) hs;refine⟨(x,y),⟨g1,k1⟩,⟨⟨Qh (hv 0 T v rfl rfl) hr.1,g2⟩,k2⟩,by simp[k3],fun W' sp hB hq=> ?_⟩;obtain⟨m,hm⟩:=g3 W' sp hB (fun q hq'=>hq q (by simp[hq']));exact trodAll_cons_mk ⟨m,hm⟩ (k4 W' sp hB (fun q hq'=>hq q (by simp[hq'])))
 | [],_::_,_,_,_,hr,_,_=>by simp[vj] at hr
 |_::_, [],_,_,_,hr,_,_=>by simp[vj] at hr
def mC(W:World):ah:=⟨W.heap.size,fun b=>W.heap[b]?⟩
theorem EC(W:World):(mC W).On W:=⟨Nat.le_refl _,fun _ _=>rfl⟩
theorem JI{P:Program}{f:FuncId}{con:Con}{W:World}{args:List LV}{vals:Array Value}(hv:Valid (mC W) P f con){C:Prop}(hc:con args []=some (C, [.z .bool true], []))(hC:C)
  (ha:bF (aU (fun _=>False) W (fun _=>undef)) args vals.toList):
  Calls P f vals W fun e W'=>e= .returned (.bool true)/\W'.os=W.os/\W'.output=W.output/\W.heap.size<=W'.heap.size/\Below W W':=by
 refine(hv args [] C _ [] hc hC (fun _=>False) W vals (fun _=>undef) (EC W) (fun b hb=>by obtain⟨p,hp, -⟩:=hb;simp[an] at hp) (fun _ h=>h.elim) (fun _ h=>h.elim) ?_ (fun p hp=>by simp[an] at hp) List.Pairwise.nil).mono ?_
 ·refine ha.imp fun x v _ hx=>bb (fun b _ hb=> ?_) (bo.refl _ _) (fun _ _=>rfl) hx;rcases hb with hb|⟨p,hp, -⟩;·exact hb
  ·simp[an] at hp
 ·rintro e W' ⟨vs,ρ1,rfl, -,hb, -,hr, -⟩;match vs,hr with
  | [v],hr=>
   have h1:aU _ W' (fun _=>undef) (.z .bool true) v:=hr.1;have h2:v.cells.toList= [.bool true]:=h1.2;have h3:v= .bool true:=by
    cases v with
    |agg cs=>have:=h1.1;cases this
    |_=>simp[Value.cells] at h2<;>simp[h2]
   (subst h3;refine⟨rfl,hb.os,hb.output,hb.size,fun b hlt=>hb.block b hlt fun hm=> ?_⟩;rcases hm with hm|⟨p,hp, -⟩;·omega);·simp[an] at hp
theorem M4{H:Type}{enc:TypeId×Value->H}{P:Program}{f:Func}{s:ChangeSpec}{apart fresh handsOn again:Bool}{W W':World}{args:Array Value}{v:Value}{ds gs:List (DataW H)}{before pa pv:List MemPlace}
  (hW:DataW.Whole enc P f.params.toList s.vars apart W args.toList ds gs before)
  (hres:∀ (b:Nat) (sp:Nat->Bool) (hd:Bool),DataW.TrodAll enc P W' b sp hd f.resultTypes.toList (v.resultList f.resultTypes.size) (s.fn H (ds++gs)).results [])
  (hargs:∀ sp:Nat->Bool,(∀ p∈before,sp p.block=true)->DataW.TrodAll enc P W' 0 sp true f.params.toList args.toList (s.fn H (ds++gs)).args pa)
  (hvars:∀ sp:Nat->Bool,(∀ p∈before,sp p.block=true)->DataW.TrodVars enc P W' sp s.vars (s.fn H (ds++gs)).vars pv)
  (hps:before=pa++pv) (hk:W.keptBut W' (· ∈before)) (hfz:∀ a:Addr,a.block<W.heap.size->W'.frozen? a=W.frozen? a)
  (hok:∀ (j:Nat) (t:TypeId) (r:Value),f.resultTypes[j]? =some t->(v.resultList f.resultTypes.size)[j]? =some r->Value.okWide P W' .any 0 t r):
  s.post enc P f apart fresh handsOn again W args v W':=by
 have hold:∀ p∈before,(fun b=>decide (b<W.heap.size)) p.block=true:=fun p hp=>by simpa using hW.lt p hp
 refine⟨ds,gs,before, [],pa,pv,hW,hres _ _ _,hargs _ hold,hvars _ hold,World.keptBut_mono (fun p hp=>⟨hp,?_⟩) hk,fun _=> ?_⟩;·rw[hps,List.mem_append] at hp;exact Or.inr hp
 ·have hlt:=hW.lt;obtain⟨_,_,_,_,_,hz,hn⟩:=hW;refine⟨hok,_,_,([]++pa)++pv,⟨[]++pa,pv,trodAll_append (hargs _ (fun _ _=>rfl)) (hres _ _ _),hvars _ (fun _ _=>rfl),rfl,?_,?_⟩,?_⟩;·intro b off hp;(have hm:MemPlace.cell b off∈before:=by rw[hps];simpa using hp);rw[hfz _ (hlt _ hm)];exact hz b off hm
  ·intro ha;have:=hn ha;rw[hps] at this;simpa using this
  ·intro p hp _;rw[hps];simpa using hp
theorem ED{W W':World}(hB:Below W W')(a:Addr)(h:a.block<W.heap.size):W'.frozen? a=W.frozen? a:=by
 unfold World.frozen?;rw[hB a.block h]
theorem M5{W W':World}{may:MemPlace->Prop}(hos:W'.os=W.os)(hout:W'.output=W.output)(hB:Below W W'):W.keptBut W' may:=by
 have h:=World.keptBut_refl W may;exact⟨hos,hout,fun i hi=>by rw[hB i hi];exact h.2.2 i hi⟩
def CQ(s:ChangeSpec)(n:Nat):Prop:=s.vars= []/\∀ (H:Type) (ds:List (DataW H)),ds.length=n->s.fn H (ds++ [])={results:= [.lit (.bool true)],args:=ds}
theorem zg{H:Type}{enc:TypeId×Value->H}{P:Program}{f:FuncId}{fn:Func}{con:Con}{ts:List Ty}{tb:TypeId}{s:ChangeSpec}{W:World}{base:Nat}{args:Array Value}{ds gs:List (DataW H)}{before:List MemPlace}
  (hts:vj P ts fn.params.toList=true) (hrt:fn.resultTypes= #[tb]) (hb:P.underlying tb=some .bool) (hs:CQ s ts.length)
  (hcon:∀ x:HL ts,HL.ok ts x->∃ C,con (HL.args ts x) []=some (C, [.z .bool true], [])/\C) (hv:Valid (mC W) P f con)
  (hval:∀ (j:Nat) t v,fn.params[j]? =some t->args[j]? =some v->Value.okWide P W .any base t v)
  (hW:DataW.Whole enc P fn.params.toList s.vars false W args.toList ds gs before):
  Calls P f args W fun e W'=>∃ v,e= .returned v/\s.post enc P fn false true false false W args v W':=by
 have hW':=hW;obtain⟨p,q,hA,hV,rfl,hfz,hnd⟩:=hW;rw[hs.1] at hV;obtain⟨rfl,rfl⟩:=trodVars_none hV;obtain⟨x,hx,ha,hl,again⟩:=CP (b0:=base) ts hts (fun j t v h1 h2=>hval j t v (by simpa using h1) (by simpa using h2)) hA;obtain⟨C,hC1,hC2⟩:=hcon x hx;refine(JI hv hC1 hC2 ha).mono fun e W' ⟨he,hos,hout,hsz,hB⟩=> ?_;subst he;have hspec:=hs.2 H ds hl;refine⟨_,rfl,M4 (pa:=p) (pv:= []) hW' (fun _ _ _=> ?_) (fun sp hsp=> ?_) (fun _ _=> ?_) rfl (M5 hos hout hB) (ED hB) (ok_one hrt rfl (okWide_bool_mk hb _))⟩;·rw[hspec,hrt];exact trodAll_cons_mk (shut_bool hb _) trodAll_mk0
 ·rw[hspec];exact again W' sp hB (fun z hz=>hsp z (by simp[hz]))
 ·rw[hspec,hs.1];rfl
end Go.Cm
end
section
namespace Go.Cm
open Go
theorem M6{k:IntKind}{x a b:Int}(h:(Ty.int k).okD x)(h1:k.min=a)(h2:k.max=b):a<=x/\x<=b:=by
 have h:k.min<=x/\x<=k.max:=h;rw[h1,h2] at h;exact h
theorem QY{x:Int}(h:(Ty.int .u8).okD x):0<=x/\x<256:=by
 have:=M6 (a:=0) (b:=255) h (by decide) (by decide);omega
end Go.Cm
end
section
namespace Go.Proofs.YtdojbabpnaifoaaGreatDoor
open Go Go.Cm Go.Proofs Go.ChangeShapes Go.WideShapes Go.ChangeAt Go.RowKit Go.Deep Go.Joins
def zh:DataW Unit->Array Value
 | .agg l=>(l.map fun x=>match x with
  | .lit (.int k n)=>Value.int k n
  |_=>Value.bool false).toArray
 |_=> #[]
noncomputable def M7(h:Array Obj)(name:String)(cs:Array Value):Array Obj:=h.modify ((Tryz.prog.globalNamed name).getD 0) fun o=>match o with
 | .cells _ t f=> .cells cs t f
 |o=>o
noncomputable def M8:Nat:=(World.holding Tryz.prog default ⟨#[],#[], []⟩).heap.size
noncomputable def vk(os:Os):World:=
 let w0:=World.holding Tryz.prog os ⟨#[.cells #[.string {data:= #[118,97,108,117,101,32,111,117,116,32,111,102,32,114,97,110,103,101]}] 239, .cells #[.string {data:= #[105,110,118,97,108,105,100,32,115,121,110,116,97,120]}] 239],#[], []⟩
 {w0 with heap:=(M7 (M7 (M7 (M7 (M7 w0.heap "strconv.ErrRange" #[.iface 237 (.pointer (some ⟨M8+0,0,none⟩))]) "strconv.ErrSyntax" #[.iface 237 (.pointer (some ⟨M8+1,0,none⟩))]) "math/bits.deBruijn32tab" (zh Rows.laid_math_bits_deBruijn32tab)) "math/bits.deBruijn64tab" (zh Rows.laid_math_bits_deBruijn64tab)) "internal/strconv.uint64pow10" (zh Rows.laid_internal_strconv_uint64pow10))}
theorem M9:(Rows.laid_internal_strconv_uint64pow10:DataW Unit)=Lib.tabData .u64 Lib.pow10Tab:=by kernel_rfl
noncomputable def vl:Nat:=(Tryz.prog.globalNamed "internal/strconv.uint64pow10").getD 0
noncomputable def G6:Nat:=((Tryz.prog.globals[vl]?).map (·.type)).getD 0
noncomputable def Na:Nat:=match Tryz.prog.underlying G6 with
 |some (.array _ e)=>e
 |_=>0
theorem Pi:Tryz.prog.globalNamed "internal/strconv.uint64pow10"=some vl:=by kernel_rfl
theorem QZ:(Tryz.prog.globals[vl]?).map (·.type)=some G6:=by kernel_rfl
theorem Q0:Tryz.prog.underlying G6=some (.array 20 Na):=by kernel_rfl
theorem Q1:Tryz.prog.underlying Na=some (.int .u64):=by kernel_rfl
theorem Q2:Tryz.prog.cellsOf Na=1:=by kernel_rfl
theorem Q3:Tryz.prog.cellsOf G6=20:=by kernel_rfl
theorem O3{l:List (String×DataW Unit)}{W:World}(h:laidMet Tryz.prog (("internal/strconv.uint64pow10",Rows.laid_internal_strconv_uint64pow10)::l) W):∀ w,(mC W).On w->Lib.TabIs Tryz.prog w "internal/strconv.uint64pow10" .u64 Lib.pow10Tab:=by
 intro w hw;rw[M9] at h;have ht:=Lib.tabIs_of_head Pi QZ Q0 Q1 Q2 Q3 h;unfold Lib.TabIs World.var? at ht ⊢;rw[Pi] at ht ⊢;simp only[Option.bind_some] at ht ⊢;by_cases hlt:vl<W.heap.size;·have he:w.heap[vl]? =W.heap[vl]? :=hw.2 vl hlt;rw[he];exact ht
 ·rw[Array.getElem?_eq_none (by omega)] at ht;cases ht
theorem O4{W:World}(h:W.ShapedOpen Tryz.prog):Qm (mC W):=by
 obtain⟨m,hm⟩:=Go.Proofs.cell_of_shapedOpen_int (g:=0) (t:=3) (zero:= #[.int .i64 0]) (k:= .i64) h (by decide+kernel) (by kernel_rfl) rfl (by kernel_rfl) (by kernel_rfl) (by kernel_rfl);intro w hw;have hlt:(0:Nat)<W.heap.size:=by
  unfold World.cell? at hm;rcases Nat.lt_or_ge 0 W.heap.size with h0|h0;·exact h0
  ·rw[Array.getElem?_eq_none h0] at hm;cases hm
 have he:w.heap[0]? =W.heap[0]? :=hw.2 0 hlt;exact⟨m,(World.cell?_of_block (a:=⟨0,0,none⟩) he).trans hm⟩
end Go.Proofs.YtdojbabpnaifoaaGreatDoor
end
section
namespace Go.Cm
open Go
theorem Nb{x:Int}(h:(Ty.int .i8).okD x): -128<=x/\x<128:=by
 have:=M6 (a:= -128) (b:=127) h (by decide) (by decide);omega
theorem O5{d:DPD}(h:(Ty.st (.pair (.slice (.int .i8)) (.pair (.int .u8) (.slice (.int .i8))))).okD d):kx d:=by
 obtain⟨⟨_,h1⟩,h2,⟨_,h3⟩⟩:=h;exact⟨fun n hn=>Nb (h1 n hn),QY h2,fun n hn=>Nb (h3 n hn)⟩
end Go.Cm
end
section
namespace Go.Proofs.YtdojbabpnaifoaaGreatDoor.polySimple
open Go Go.Cm Go.Proofs Go.ChangeShapes Go.WideShapes Go.ChangeAt Go.RowKit Go.Deep Go.Joins
theorem own:ownKnob Tryz.prog.godebug=none:=by kernel_rfl
theorem Rb:Tryz.f9.resultTypes= #[4]:=by kernel_rfl
theorem Q4:Tryz.prog.underlying 4=some .bool:=by kernel_rfl
def tys:List Ty:= [(.st (.pair (.slice (.int .i8)) (.pair (.int .u8) (.slice (.int .i8))))),(.int .i8)]
theorem reads:vj Tryz.prog tys Tryz.f9.params.toList=true:=by kernel_rfl
theorem spec:CQ Rows.polySimpleSpec tys.length:=⟨rfl,fun _ ds h=>match ds,h with| [a0,a1],_=>rfl⟩
abbrev vals:Array Value:= #[.agg #[.slice none 0 0, .int .u8 0, .slice none 0 0], .int .i8 0]
theorem met(os:Os):laidMet Tryz.prog Rows.polySimpleRow.laid ((vk os).forCall (fun _ _=>0) ⟨#[],vals, []⟩).memory:=
 laidMet_of_run3 8 (by kernel_rfl) (by kernel_rfl) (by kernel_rfl)
theorem witness(os:Os){H:Type}(enc:TypeId×Value->H):∃ places,DataW.whole enc Tryz.prog ((vk os).forCall (fun _ _=>0) ⟨#[],vals, []⟩).memory Tryz.f9.params.toList Rows.polySimpleSpec.vars false vals.toList 8=some ([.agg [.nil, .lit (.int .u8 0), .nil], .lit (.int .i8 0)], [],places):=
 ⟨[],by kernel_rfl⟩
theorem Rc{W:World}(h:laidMetH Tryz.prog Rows.polySimpleRow.laid W)(hs:W.ShapedOpen Tryz.prog):aC (mC W):=by
 have hL:laidMet Tryz.prog Rows.polySimpleRow.laid W:=h;exact⟨fun w hw=>O3 (laidMet.tail (laidMet.tail hL)) w hw,O4 hs⟩
theorem lifted(os:Os)(started:os.Started)(H:Type)(enc:TypeId×Value->H)(F:Stop.Interp):
  ReturnsInHanded {} Tryz.checked os 9 .any ((OpenSpec.ofChange Rows.polySimpleSpec).preRow enc Tryz.prog Tryz.f9 Rows.polySimpleRow.domain false Rows.polySimpleRow.laid) (((OpenSpec.ofChange Rows.polySimpleSpec).at F).post enc Tryz.prog Tryz.f9 false true false false):=by
 obtain⟨places,hx⟩:=witness os enc;refine returnsInHanded_of_row (C:=Tryz.checked) (s:=OpenSpec.ofChange Rows.polySimpleSpec) own started (by kernel_rfl) Tryz.func9
  (witness_row_at (enc:=enc) (C:=Tryz.checked) false (vk os) vals rfl (by kernel_rfl) (by kernel_rfl) (by kernel_rfl)
   (OpenSpec.preRow_of_cond 8 hx (by kernel_rfl) (fun k hk=>by cases hk) (by kernel_rfl) (met os))) ?_
 intro W base args ds gs before hval hW _ _ _ hL hSh _;exact zg (ts:=tys) (con:=vi) reads Rb Q4 spec (fun x h=>by obtain⟨x0,x1,⟨⟩⟩:=x;obtain⟨h0,h1, -⟩:=h;exact⟨_,rfl,⟨O5 h0,Nb h1⟩⟩) (JG (Rc hL hSh)) hval hW
theorem said:Rows.PolySimpleSaid:=
 OpenClaim.holds_of_cond 9 Tryz.f9 rfl rfl rfl rfl rfl rfl rfl ⟨rfl,rfl,rfl,rfl,rfl⟩ rfl rfl rfl rfl rfl (by kernel_rfl) Tryz.func9 (by kernel_rfl)
  (of_decide_eq_true (by kernel_rfl)) (by unfold Func.isWrapper;first|(rw[if_pos (by decide+kernel)];kernel_rfl)|(rw[if_neg (by decide+kernel)];exact⟨rfl,rfl⟩))
  (fun os started H enc _ F=>by rw[OpenClaim.pre_eq_preRow];exact lifted os started H enc F)
theorem plain(f:FuncId)(fn:Func)(hf:Tryz.pinned.checked.prog.funcNamed "croupier/croupierlaw04.PolySimple"=some f)(hfn:Tryz.pinned.checked.prog.funcs[f]? =some fn):
  true=Tryz.pinned.checked.prog.looks []/\∀ (j:Nat) t,fn.params[j]? =some t->Tryz.pinned.checked.prog.wantsStandIn t=false:=by
 obtain rfl:f=9:=Option.some.inj ((show Tryz.prog.funcNamed "croupier/croupierlaw04.PolySimple"=some 9 by kernel_rfl).symm.trans hf)|>.symm;obtain rfl:fn=Tryz.f9:=(Option.some.inj (Tryz.func9.symm.trans hfn)).symm;refine⟨by kernel_rfl,fun j t ht=> ?_⟩;have hall:Tryz.f9.params.toList.all (fun t=> !Tryz.prog.wantsStandIn t)=true:=by kernel_rfl
 have:=List.all_eq_true.1 hall t (by simpa using Array.mem_of_getElem? ht);exact(by simpa using this:Tryz.prog.wantsStandIn t=false)
theorem card:Rows.PolySimpleCardSaid:=
 Claim7.holds_tied_plain_at .later [] _ _ _ _ said (fun _ h=>by cases h) (by kernel_rfl) (fun _ h=>by cases h) polySimple_row_tie rfl ⟨rfl,rfl⟩ (by kernel_rfl) rfl plain (by kernel_rfl)
end Go.Proofs.YtdojbabpnaifoaaGreatDoor.polySimple
end