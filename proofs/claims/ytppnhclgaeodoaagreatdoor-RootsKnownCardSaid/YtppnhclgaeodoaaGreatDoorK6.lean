/- Chapter 5: RootsKnown. -/
import Derived.Test.YtppnhclgaeodoaaGreatDoorK3
import Derived.Test.YtppnhclgaeodoaaGreatDoorK4
import Derived.Test.YtppnhclgaeodoaaGreatDoorProg
import Derived.Test.YtppnhclgaeodoaaGreatDoorK5
import Derived.WalkKit
set_option linter.all false
set_option linter.unusedSimpArgs false
set_option linter.unusedVariables false
set_option maxRecDepth 100000
open Bool renaming true_and→Pb,and_self→Tb
open List renaming drop_zero→Oy,take_length→OD,getElem_mem→OE,cons_append→OS,nil_append→OY,length_map→O2,append_nil→Pr,getElem_range→P4,getElem_map→Qa
open Nat renaming reduceEqDiff→AS,reduceLeDiff→AT,reduceAdd→IT,reduceSub→No,reduceMul→N3,reduceBEq→N4,reduceBNe→N5,reduceLT→N8,le_trans→Og,le_of_ble_eq_true→OZ,zero_le→PM
open Option renaming getD_some→OV
open Option.some renaming inj→SJ
section
namespace Go.Proofs.YtppnhclgaeodoaaGreatDoor
open Go Go.Cm Go.Proofs Tryz
def Dy(B:av):Tab:=mT B [(27,(.slice .str))] [] [(144,A9)] [] 11
def xd:Con:=c1 (.slice .str) (fun p=>cQ p) (fun p=>[.z (.int .i64) (dx p)])
theorem Fw{B:av}(hB:bc B):Valid B prog 85 xd:=by
 refine v1 (mg (T:=Dy B) (tc pX ah) aj (aM (cc func144 (Fj hB) aF))) func85 ?_;intro p hC X hP hT hr hG;have hX:=ai Dy.eq_1<|ai cx<|A9.eq_1;simp only[f85,aD,af,ioB];refine sg ?_;refine sq ?_ ?_;·exact hC
 refine sg ?_;refine aK (qe [] ?_);trivial
def Dz(B:av):Tab:=mT B [(3,(.int .i64)),(23,(.int .i64)),(26,.str),(27,(.slice .str))] [] [(79,nW),(85,xd),(86,zi)] [] 32
def mM:Con:=c2 (.slice .str) (.slice .str) (fun p l=>cQ p/\cQ l/\l.length<=1000) (fun p l=>[.z tyP (rdP p l),.z tyP (rdL p l),.z (.int .i64) (rdE p l)])
theorem o4{B:av}(hB:bc B):Valid B prog 39 mM:=by
 refine v2 (mg (T:=Dz B) (tc ty3 (tc sl (tc wG (tc pX ah)))) aj (aM (cc func79 (vG hB) (cc func85 (Fw hB) (cc func86 (vH hB) aF))))) func39 ?_;intro p l hC X hP hT hr hG;have hX:=ai Dz.eq_1<|ai cx<|ai nW.eq_1<|ai zi.eq_1<|xd.eq_1;simp only[f39,aD,af,ioB];refine sg ?_;refine al (sq ?_ ?_);·exact hC.1
 refine sg ?_;refine qc ?_ ?_;·intro hb0;refine sg ?_;refine aK (aO (qe [] ?_));exact NN hb0
 ·intro hb0;refine aC (ag (al (sg ?_)));refine au (bM (fun(z:Nat)=>(⟨[(0,.l (.z (.slice .str) p)),(16,.l (.z (.slice .str) l)),(1,.l (.z (.slice .str) l)),(17,.l (.z (.int .i64) (l.length:Int))),(18,.l (.z (.int .i64) (z:Int)))],[]⟩:aa)) (fun z=>z<=l.length/\(l.take z).all (fun q=>decide (cM q=0))=true) (fun z=>l.length-z) 0 ?_ ?_ ?_);·refine q_l ?_;rfl
  ·exact⟨PM _,rfl⟩
  ·rintro k ⟨g1,g2⟩;(try dsimp only at g1 g2);refine sg ?_;refine al (qc ?_ ?_)
   ·(intro hb1;(have hk:k<l.length:=by have h9:(k:Int)<(l.length:Int):=hb1;omega);refine aC (ag (al (au (sq ?_ ?_))));·exact⟨by omega,by omega⟩);refine sq ?_ ?_;·rw[gS (t:= .str) hk];exact hC.2.1.2 _ (OE hk)
    (refine sg ?_;refine qc ?_ ?_;·intro hb2;refine sg ?_;refine aK (bn (aO (gJ (bn (aO (qe [] ?_))))));exact NP hb0 hk g2 hb2);·intro hb2;refine aC (aR (ag (rg ?_)));refine qm ?_;exact HW hC.2.2 hk g2 hb2
   ·(intro hb1;(have hk:k=l.length:=by have h9:¬(k:Int)<(l.length:Int):=hb1;omega);rw[hk,OD] at g2;refine bN (aQ (aI (aH (ag (sq ?_ ?_)))));·exact HV hC.1 hC.2.1 hC.2.2 hb0 g2);refine aK (qe [] ?_);exact L0 hC.1 hC.2.1 hb0 g2
def DA:Con:=mo [none,some (.slice .str)] mM
theorem Bg{B:av}(hB:bc B):Valid B prog 39 DA:=jC _ (o4 hB)
def DB(B:av):Tab:=mT B [(3,(.int .i64)),(23,(.int .i64)),(27,(.slice .str)),(73,tyP),(74,tyP),(82,tyN)] [(27,26)] [(39,mM),(40,ly),(41,nZ)] [] 44
def kn:Con:=c3 (.slice .str) .str .str (fun p a b=>gW p a b) (fun p a b=>[.z (.int .i64) (ctN p a b),.z (.int .i64) (ctE p a b)])
theorem o5{B:av}(hB:bc B):Valid B prog 11 kn:=by
 refine v3 (mg (T:=DB B) (tc ty3 (tc sl (tc pX (tc Lx (tc jq (tc ty82 ah)))))) (bo (by kernel_rfl) aj) (aM (cc func39 (o4 hB) (cc func40 (jM hB) (cc func41 (vM hB) aF))))) func11 ?_;intro p a b hC X hP hT hr hG;have hX:=ai DB.eq_1<|ai cx<|ai ly.eq_1<|ai mM.eq_1<|nZ.eq_1;simp only[f11,aD,af,ioB];refine sg ?_;refine sq ?_ ?_;·exact⟨hC.sp,vv hC.sa hC.sb⟩
 refine al (sg ?_);refine qc ?_ ?_;·intro hb0;refine sg ?_;refine aK (aO (qe [] ?_));exact Nn hb0
 ·intro hb0;obtain⟨r1,r2,-⟩:=mG hb0;have hX:=ai @ar<|ai @aA<|ai r1<|ai r2<|ai KV<|ai KW hX;have hq:=HZ hC.sa hC.sb hb0;refine aC (ag (al (sd ?_ ?_)));·exact⟨fun h=>⟨h,by decide,by decide⟩,id,fun h=>⟨h,by decide,by decide⟩,id,fun h=>⟨h,hq⟩,id,fun h=>by rw[h];rfl⟩
  refine qc ?_ ?_;·intro hb1;refine sg ?_;refine aK (aO (qe [] ?_));exact L1 hb0 hb1
  ·(intro hb1;obtain⟨e1,e2⟩:=Np hb0 hb1;refine aC (ag (sd ?_ ?_));·exact⟨⟨by decide,by decide⟩,⟨by decide,by decide⟩,hC.ok e1⟩);refine aK (qe [] ?_);exact⟨e2.symm,e1.symm⟩
def zo:Con:=mo [some (.slice .str),none,none] kn
theorem Bh{B:av}(hB:bc B):Valid B prog 11 zo:=jC _ (o5 hB)
def DC(B:av):Tab:=mT B [(3,(.int .i64)),(23,(.int .i64)),(27,(.slice .str)),(73,tyP),(74,tyP),(82,tyN)] [(27,26)] [(39,mM),(40,ly),(42,Bf)] [] 41
def mN:Con:=c3 (.slice .str) .str .str (fun p a b=>e8 p a b) (fun p a b=>[.z (.int .i64) (sgN p a b),.z (.int .i64) (sgE p a b)])
theorem o6{B:av}(hB:bc B):Valid B prog 12 mN:=by
 refine v3 (mg (T:=DC B) (tc ty3 (tc sl (tc pX (tc Lx (tc jq (tc ty82 ah)))))) (bo (by kernel_rfl) aj) (aM (cc func39 (o4 hB) (cc func40 (jM hB) (cc func42 (Fv hB) aF))))) func12 ?_;intro p a b hC X hP hT hr hG;have hX:=ai DC.eq_1<|ai cx<|ai ly.eq_1<|ai mM.eq_1<|Bf.eq_1;simp only[f12,aD,af,ioB];refine sg ?_;refine sq ?_ ?_;·exact⟨hC.sp,vv hC.sa hC.sb⟩
 refine al (au (sg ?_));refine qc ?_ ?_;·intro hb0;refine sg ?_;refine aK (bn (aO (qe [] ?_)));exact Nq hb0
 ·intro hb0;obtain⟨r1,r2,-⟩:=mG hb0;have hX:=ai @ar<|ai @aA<|ai r1<|ai r2<|ai KV<|ai KW hX;have hq:=HZ hC.sa hC.sb hb0;refine sd ?_ ?_;·exact⟨⟨by decide,by decide⟩,⟨by decide,by decide⟩,hq⟩
  refine qc ?_ ?_;·intro hb1;refine sg ?_;refine aK (bn (aO (qe [] ?_)));exact L2 hb0 hb1
  ·(intro hb1;obtain⟨e1,e2⟩:=Nr hb0 hb1;refine aC (aR (ag (sd ?_ ?_)));·exact⟨⟨by decide,by decide⟩,⟨by decide,by decide⟩,hC.ok e1⟩);refine aK (qe [] ?_);exact⟨e2.symm,e1.symm⟩
def DD(B:av):Tab:=mT B [(3,(.int .i64)),(74,tyP),(82,tyN)] [] [(40,ly),(70,jK),(90,gy),(95,ti),(99,mc),(128,eQ),(154,mL)] [] 38
def Bi:Con:=c1 tyP (fun p=>pR p) (fun p=>[.z tyN (aG (pw (cL (ab p))))])
theorem Fx{B:av}(hB:bc B):Valid B prog 98 Bi:=by
 refine v1 (mg (T:=DD B) (tc ty3 (tc jq (tc ty82 ah))) aj (aM (cc func40 (jM hB) (cc func70 (iw hB) (cc func90 (ix hB) (cc func95 (oY hB) (cc func99 (lV hB) (cc func128 (lX hB) (cc func154 (oX hB) aF))))))))) func98 ?_;intro p hC X hP hT hr hG;have hX:=ai DD.eq_1<|ai cx<|ai mL.eq_1<|ai jK.eq_1<|ai ly.eq_1<|ai mc.eq_1<|ai gy.eq_1<|ai ti.eq_1<|eQ.eq_1;simp only[f98,aD,af,ioB];have hX:=ai @ar<|ai @pe2<|ai yN hX;refine sg ?_;refine sg ?_;refine al (sq ?_ ?_);·exact hC.mon
 refine au (bM (fun(z:Nat)=>(⟨[(2,.l (.ownP 2 0)),(3,.l (.ownP 3 0)),(9,.l (.z tyP (aw (bk (ab p))))),(10,.l (.z (.int .i64) ((bk (ab p)).length:Int))),(11,.l (.z (.int .i64) (z:Int)))],[(2,.box 82 [.z .bool false,.val (.slice none 0 0),.z .bool false,.val (.slice none 0 0)]),(3,.box 82 [.z .bool (aG (((bk (ab p)).take z).foldl fG 0)).1.1,.z (.slice (.int .u32)) (aG (((bk (ab p)).take z).foldl fG 0)).1.2,.z .bool (aG (((bk (ab p)).take z).foldl fG 0)).2.1,.z (.slice (.int .u32)) (aG (((bk (ab p)).take z).foldl fG 0)).2.2])]⟩:aa)) (fun z=>z<=(bk (ab p)).length) (fun z=>(bk (ab p)).length-z) 0 ?_ ?_ ?_);·refine q_l ?_;rw[aq];exact⟨rfl,rfl,rfl,rfl,rfl,rfl⟩
 ·exact PM _
 ·rintro k g1;try dsimp only at g1
  refine sg ?_;refine al (qc ?_ ?_)
  ·(intro hb0;(have hk:k<(bk (ab p)).length:=by have h9:(k:Int)<((bk (ab p)).length:Int):=hb0;omega);have hX:=ai (lM hk) hX;have hlq:=hC.sz _ (OE hk);refine aC (ag (al (au (sq ?_ ?_))));·rw[aq];exact⟨by omega,by omega⟩);refine fz (fun(z:Rat)=>(⟨[(2,.l (.ownP 2 0)),(3,.l (.ownP 3 0)),(9,.l (.z tyP (aw (bk (ab p))))),(10,.l (.z (.int .i64) ((bk (ab p)).length:Int))),(11,.l (.z (.int .i64) (k:Int))),(5,.l (.ownP 5 0))],[(2,.box 82 [.z .bool false,.val (.slice none 0 0),.z .bool false,.val (.slice none 0 0)]),(3,.box 82 [.z .bool (aG (((bk (ab p)).take k).foldl fG 0)).1.1,.z (.slice (.int .u32)) (aG (((bk (ab p)).take k).foldl fG 0)).1.2,.z .bool (aG (((bk (ab p)).take k).foldl fG 0)).2.1,.z (.slice (.int .u32)) (aG (((bk (ab p)).take k).foldl fG 0)).2.2]),(5,.box 82 [.z .bool (aG z).1.1,.z (.slice (.int .u32)) (aG z).1.2,.z .bool (aG z).2.1,.z (.slice (.int .u32)) (aG z).2.2])]⟩:aa)) (fun z=>z=tO (bk (ab p))[k]) ?_ ?_
   ·(refine sq ?_ ?_;·exact aX _);refine qc ?_ ?_
    ·(intro hb1;refine rq ?_ ?_;·exact⟨aX _,Og hlq (by unfold QA QC;omega)⟩);refine qm ?_;first
      |exact⟨_,rfl,rfl,rfl,rfl,by unfold tO;rw[if_pos hb1]⟩
      |exact⟨_,rfl,rfl,rfl,rfl,by unfold tO;rw[if_neg hb1]⟩
    ·intro hb1;refine aC (qm ?_);first
      |exact⟨_,rfl,rfl,rfl,rfl,by unfold tO;rw[if_pos hb1]⟩
      |exact⟨_,rfl,rfl,rfl,rfl,by unfold tO;rw[if_neg hb1]⟩
   (rintro c hc;(try dsimp only at hc);have hs:=AR hk hc;(have hcq:lq c<=QA+10:=by rw[hc,HQ];have:=hC.sz _ (OE hk);omega);refine sq ?_ ?_;·exact mF hcq (by have:=Cf hC k;omega));refine qc ?_ ?_;·intro hb2;refine rg ?_;refine aR (ag (rg ?_));refine qm ?_;(first|rw[if_pos hb2] at hs|rw[if_neg hb2] at hs);have hle:=sR hC;exact⟨k+1,by rw[wo];rfl,by rw[hs],by rw[hs],by rw[hs],by rw[hs],by omega,by omega⟩
   ·intro hb2;refine aC (aR (ag (rg ?_)));refine qm ?_;(first|rw[if_pos hb2] at hs|rw[if_neg hb2] at hs);have hle:=sR hC;exact⟨k+1,by rw[wo];rfl,by rw[hs],by rw[hs],by rw[hs],by rw[hs],by omega,by omega⟩
  ·(intro hb0;(have hk:k=(bk (ab p)).length:=by have h9:¬(k:Int)<((bk (ab p)).length:Int):=hb0;omega);refine bN (aQ (aI (aH (ag (sg ?_)))));refine al (sd ?_ ?_);·exact mF (by have:=Cf hC k;omega) (by have:=qu;unfold QA;omega));refine au (bM (fun(z:Nat)=>(⟨[(2,.l (.ownP 2 0)),(3,.l (.ownP 3 0)),(6,.l (.ownP 6 0))],[(2,.box 82 [.z .bool false,.val (.slice none 0 0),.z .bool false,.val (.slice none 0 0)]),(3,.box 82 [.z .bool (aG (cX (ab p)+1)).1.1,.z (.slice (.int .u32)) (aG (cX (ab p)+1)).1.2,.z .bool (aG (cX (ab p)+1)).2.1,.z (.slice (.int .u32)) (aG (cX (ab p)+1)).2.2]),(6,.box 82 [.z .bool (aG (pw z)).1.1,.z (.slice (.int .u32)) (aG (pw z)).1.2,.z .bool (aG (pw z)).2.1,.z (.slice (.int .u32)) (aG (pw z)).2.2])]⟩:aa)) (fun z=>z<=cL (ab p)) (fun z=>cL (ab p)-z) 0 ?_ ?_ ?_);·refine q_l ?_;subst hk;rw[OD,qq];exact⟨rfl,rfl,rfl,rfl,rfl,rfl,rfl,rfl⟩
   ·exact PM _
   ·(rintro j g2;(try dsimp only at g2);refine al (sq ?_ ?_);·exact mF (by have:=HR hC g2;omega) (LX hC));refine qc ?_ ?_
    ·(intro hb3;refine aC (ag (au (rq ?_ ?_)));·exact mF (by have:=HR hC g2;omega) (by have:=HR hC g2;omega));refine aR (qm ?_);have hj:=(nN _ j).1 (jd.1 hb3);rw[qs];exact⟨j+1,rfl,rfl,rfl,rfl,hj,by omega⟩
    ·intro hb3;refine bN (aQ (aI (aH (ag (sg ?_)))));refine aK (qe [] ?_);have hj:¬j<cL (ab p):=fun h=>hb3 (jd.2 ((nN _ j).2 h));rw[show j=cL (ab p) by omega]
def DE(B:av):Tab:=mT B [(3,(.int .i64)),(74,tyP)] [] [] [] 6
def xe:Con:=c2 tyP (.int .i64) (fun p n=>True) (fun p n=>[.fn 94 [.z (.ptr tyP) p,.z (.ptr (.int .i64)) n]])
theorem Fy{B:av}(hB:bc B):Valid B prog 43 xe:=by
 refine v2 (mg (T:=DE B) (tc ty3 (tc jq ah)) aj (cZ rfl)) func43 ?_;intro p n hC X hP hT hr hG;have hX:=ai DE.eq_1<|cx;simp only[f43,aD,af,ioB];refine sg ?_;refine sg ?_;refine aK (qe [] ?_);rfl
def qB(B:av):Tab:={types:=[(3,(.int .i64)),(80,tyW),(82,tyN),(130,(.ptr (.st (.st (.slice tyP))))),(134,.func),(136,.func)],elems:=[],cons:=[(40,ly),(70,jK),(77,fa),(89,jf),(92,ee),(93,oW),(97,Bc)],hint:=[],N:=51,base:=B}
theorem IW{B:av}(hB:bc B):aV prog (qB B):=mg (T:=qB B) (tc ty3 (tc fZ (tc ty82 (tc sn (tc KI (tc KJ ah)))))) aj (aM (cc func40 (jM hB) (cc func70 (iw hB) (cc func77 (oV hB) (cc func89 (oZ hB) (cc func92 (jL hB) (cc func93 (iy hB) (cc func97 (Fp hB) aF))))))))
def dY(l:Nat):Value:= .func (.yield l) #[] #[]
def dP(b:Nat):Value:= .pointer (some ⟨b,0,none⟩)
def dC(bY bD:Nat)(vW vC:Value):List Value:=[vW,dP bY,vC,dP bD]
def dF(bY bD:Nat)(vW vC:Value):Value:= .func (.func 96) #[] (dC bY bD vW vC).toArray
def Kz(B:av)(l bY bD:Nat)(vW vC:Value):Tab:={qB B with pins:=[(bY,(dY l,134)),(bD,(dF bY bD vW vC,136))]}
theorem NG{B:av}(hB:bc B)(l bY bD:Nat)(vW vC:Value):aV prog (Kz B l bY bD vW vC):=by
 have h:=IW hB;exact⟨⟨h.tab.types,h.tab.elems,h.tab.small,h.tab.globs⟩,⟨h.cons.cons,h.cons.body⟩,h.mixed⟩
structure xf (l bY bD:Nat) (vW vC:Value) (c:List (List Rat)) (w:Rat) (D:Nat->Prop) (W:World):Prop where
 y:tT bY (dY l) 134 D W
 d:tT bD (dF bY bD vW vC) 136 D W
 w:aJ D W (fun _=>undef) (.z (.ptr tyN) (aG w)) vW
 c:aJ D W (fun _=>undef) (.z (.ptr (.ptr (.st (.st (.slice tyP))))) (iS c)) vC
def dR(k m:Nat)(g:Option Nat)(v:Value):Prop:=(v= .bool true/\g=some (k+m))∨(v= .bool false/\g=none)
set_option maxHeartbeats 4000000 in
theorem KA{B:av}(hB:bc B)(t:bS)(ht:t.OK)(hP:t.P=prog)(hBt:t.B=B){c:List (List Rat)}{w:Rat}{M:Nat}(hc:iN c w M)(bY bD:Nat)(hne:bY≠bD)(vW vC:Value)(d:Nat):
  ∀(A:Int) (k:Nat) (suf:List (List LV)),A.natAbs<=2^M->(A+2^d).natAbs<=2^M->t.items.drop k=(dc c w d A).map lg++suf->
   Cq (t.more (xf t.l bY bD vW vC c w)) 96 (some k) [.z tyN (aG ((A:Rat)*w)),.z tyN (aG (((A+2^d:Int):Rat)*w)),.z (.int .i64) (rts c w A (A+2^d))] (dC bY bD vW vC) (dR k (dc c w d A).length):=by
 have hF:∀g D A D' B,t.J g D A->xf t.l bY bD vW vC c w D A->b5 D A D' B->xf t.l bY bD vW vC c w D' B:=
  fun g D A D' B _ h hA=>⟨h.y.after hA,h.d.after hA,lT h.w hA,lT h.c hA⟩
 obtain⟨u,hu⟩:∃u,u=t.more (xf t.l bY bD vW vC c w):=⟨_,rfl⟩;have hok:u.OK:=by rw[hu];exact bS.more_ok ht hF
 have hui:u.items=t.items:=by rw[hu];rfl
 have hul:u.l=t.l:=by rw[hu];rfl
 have huP:u.P=prog:=by rw[hu];exact hP
 obtain⟨T,hT⟩:∃T,T=Kz B t.l bY bD vW vC:=⟨_,rfl⟩;have hG:aV u.P T:=by rw[huP,hT];exact NG hB _ _ _ _ _
 have hbase:T.base=u.B:=by rw[hT,hu];exact hBt.symm
 have hX:=ai Kz.eq_1<|ai dP.eq_1<|ai qB.eq_1<|ai cx<|ai @fa.eq_1<|ai @ly.eq_1<|ai @ee.eq_1<|ai @Bc.eq_1<|ai @jK.eq_1<|ai @oW.eq_1<|ai @jf.eq_1<|ai @ar<|ai @pe2<|ai (eq_false hne)<|ai @nK<|ai @yO<|ai @List.take_succ_cons.{0}<|ai @List.take_zero.{0}<|ai @List.drop_succ_cons.{0}<|ai @Oy.{0}<| @aa.openG.eq_1;have entry:∀{A C:Int} {r:Int} {k m:Nat},YJ u T ((f96.body).getD .skip) (some k) {env:=aD 0 ([.z tyN (aG ((A:Rat)*w)),.z tyN (aG ((C:Rat)*w)),.z (.int .i64) r]++ [.z (.ptr tyN) (aG w),.val (dP bY),.z (.ptr (.ptr (.st (.st (.slice tyP))))) (iS c),.val (dP bD)]),own:=[]} (Is T f96 fun g rs=>(rs=[.z .bool true]/\g=some (k+m))∨(rs=[.z .bool false]/\g=none))->
   Cq u 96 (some k) [.z tyN (aG ((A:Rat)*w)),.z tyN (aG ((C:Rat)*w)),.z (.int .i64) r] (dC bY bD vW vC) (dR k m):=by
  intro A C r k m h D W vals hJ hargs;have hJ2:t.J (some k) D W/\xf t.l bY bD vW vC c w D W:=by rw[hu] at hJ;exact hJ
  have hcap:aY (aJ D W (fun _=>undef)) [.z (.ptr tyN) (aG w),.val (dP bY),.z (.ptr (.ptr (.st (.st (.slice tyP))))) (iS c),.val (dP bD)] (dC bY bD vW vC):=⟨hJ2.2.w,rfl,hJ2.2.c,rfl,trivial⟩;refine(sY (t:=u) (T:=T) (g:=some k) (args:=[.z tyN (aG ((A:Rat)*w)),.z tyN (aG ((C:Rat)*w)),.z (.int .i64) r]++ [.z (.ptr tyN) (aG w),.val (dP bY),.z (.ptr (.ptr (.st (.st (.slice tyP))))) (iS c),.val (dP bD)]) (vals:=vals++dC bY bD vW vC)
   (R:=fun g rs=>(rs=[.z .bool true]/\g=some (k+m))∨(rs=[.z .bool false]/\g=none)) (R':=dR k m) hG.tab hok hbase (by rw[huP];exact func96) rfl (by rw[hT];rfl) (by rw[hT];rfl) (by rw[hT];exact OZ rfl) hJ (hargs.append hcap)
   (fun b v ty hp=>?_) rfl (fun g' rs H M w vs h1 h2=>?_) h)
  ·rw[hT] at hp;simp only[Kz,get?] at hp;split at hp;·rename_i e;subst e;cases hp;exact⟨hJ2.2.y.lt,hJ2.2.y.free,hJ2.2.y.at_⟩
   ·(split at hp;·rename_i e;subst e;cases hp;exact⟨hJ2.2.d.lt,hJ2.2.d.free,hJ2.2.d.at_⟩);·cases hp
  ·rcases h1 with⟨rfl,h1⟩|⟨rfl,h1⟩
   ·match vs,h2 with
    | [v],h2=>exact .inl ⟨cO (ρ:=fun _=>undef) h2.1,h1⟩
   ·match vs,h2 with
    | [v],h2=>exact .inr ⟨cO (ρ:=fun _=>undef) h2.1,h1⟩
 rw[<- hu];simp only[f96,OV] at entry;induction d with
 |zero=>
  intro A k suf hA hA2 hd;have hX:=ai (EY hc.wpos A) hX;refine entry ?_;simp only[aD,OS,OY];refine yg trivial ?_;refine lk ?_;refine yg trivial ?_;refine ycd ?_ ?_;·intro hr;refine yg trivial ?_;refine sW ?_;refine ki ?_;exact⟨.inr rfl,[.z .bool true],.inl ⟨rfl,by rw[yP (by simpa using hr)];rfl⟩,⟨rfl,trivial⟩⟩
  intro hr;have hr0:rts c w A (A+2^0)≠0:=by simpa using hr
  rw[J6 hr0] at hd ⊢;refine oQ ?_;refine mI ?_;refine lk ?_;refine yd ?_ ?_;·exact⟨hc.two hA2 hA,hc.sub hA2 hA⟩
  refine ycd ?_ ?_
  ·(intro hz;refine ydE 6 ?_ ?_;·exact⟨hc.div hA,aX _,hc.flr hA⟩);refine kg (K1:=fun g' s'=>∃b:Bool,g'=(if b=true then some (k+1) else none)/\s'=aa.put _ 27 (.l (.z .bool b))) (y0 hok (x:= .tmp 21) (d:=27) rfl rfl rfl (by rw[hT];rfl) rfl (by rw[hul];rfl) rfl (it:=lg (A,rts c w A (A+2^0))) (by rw[hui];exact Iv hd) rfl rfl ⟨true,rfl,rfl⟩ ⟨false,rfl,rfl⟩) ?_;rintro g' s' ⟨b,rfl,rfl⟩;refine yla trivial ?_;refine sW ?_;refine ki ?_;cases b with
   |true=>exact⟨.inr rfl,[.z .bool true],.inl ⟨rfl,rfl⟩,⟨rfl,trivial⟩⟩
   |false=>exact⟨.inr rfl,[.z .bool false],.inr ⟨rfl,rfl⟩,⟨rfl,trivial⟩⟩
  ·intro hz;exact absurd (jd.2 ((Cg hc.wpos A 0).2 rfl)) (by simpa using hz)
 |succ d ih=>
  intro A k suf hA hA2 hd;have hM:=lh hA hA2;have hsub:IntKind.i64.wrap (rts c w A (A+2^(d+1))-rts c w A (A+2^d))=rts c w (A+2^d) (A+2^(d+1)):=by
   rw[J5];have:=vq hc.len w (A+2^d) (A+2^(d+1));exact wo
  have hX:=ai (J4 (w:=w) A d)<|ai hsub hX;refine entry ?_;simp only[aD,OS,OY];refine yg trivial ?_;refine lk ?_;refine yg trivial ?_;refine ycd ?_ ?_;·intro hr;refine yg trivial ?_;refine sW ?_;refine ki ?_;exact⟨.inr rfl,[.z .bool true],.inl ⟨rfl,by rw[yP (by simpa using hr)];rfl⟩,⟨rfl,trivial⟩⟩
  intro hr;have hr0:rts c w A (A+2^(d+1))≠0:=by simpa using hr
  rw[HT hr0] at hd ⊢;rw[List.map_append,List.append_assoc] at hd;have hd2:=E7 hd;rw[O2] at hd2;have ih2:=ih (A+2^d) _ suf hM (by rw[sS];exact hA2) hd2;rw[sS] at ih2;refine oQ ?_;refine mI ?_;refine lk ?_;refine yd ?_ ?_;·exact⟨hc.two hA2 hA,hc.sub hA2 hA⟩
  refine ycd ?_ ?_;·intro hz;exact absurd ((Cg hc.wpos A (d+1)).1 (jd.1 (by simpa using hz))) (by simp)
  intro hz;refine oQ ?_;refine mI ?_;refine lk (Kg hok fun X hXP hXT _=>?_);have hGX:aV X.P X.T:=by rw[hXP,hXT];exact hG
  have hT2:=hT;have hT:=hXT.trans hT;refine aU hGX ?_ ?_;·exact⟨hc.two hA hA2,⟨by unfold I64;omega,by unfold I64;omega,by decide⟩,hc.add hA hA2⟩
  refine⟨_,y4 11 tyN (by rfl) (by rfl) (by simp only[aa.thawQ,LV.thawQ,CV.thawQ,mr0,mr1,mr2,mT,isNilP,N8,AS,IT,N3,No,AT,N4,N5,reduceIte,reduceDIte,reduceCtorEq];rfl),mI ?_,by rfl⟩;have hT:=hT2;refine yg ?_ ?_;·exact⟨hc.val hA,hc.val hM⟩
  refine ye ?_;refine yln 4 trivial ?_;have hdR:∀{k m:Nat} (g':Option Nat) (v:Value),dR k m g' v->∃b:Bool,v= .bool b:=fun g' v h=>h.elim (fun h=>⟨true,h.1⟩) (fun h=>⟨false,h.1⟩);refine kg (sZ hok (x:= .tmp 37) (d:=41) (fn:=f96) (caps:=dC bY bD vW vC) (args:=[.z tyN (aG ((A:Rat)*w)),.z tyN (aG (((A+2^d:Int):Rat)*w)),.z (.int .i64) (rts c w A (A+2^d))]) (ih A k _ hA hM hd) hdR rfl (by rw[huP];exact func96) (by rw[hT];rfl) (by kernel_rfl)) ?_;rintro g' s' ⟨b,h,rfl⟩;rcases h with⟨hb,rfl⟩|⟨hb,rfl⟩
  ·cases hb;refine yln 7 trivial ?_;refine Ct ?_;simp only[aa.openG,List.map_cons,List.map_nil,AV.openG];refine kg (sZ hok (x:= .tmp 43) (d:=49) (fn:=f96) (caps:=dC bY bD vW vC) (args:=[.z tyN (aG (((A+2^d:Int):Rat)*w)),.z tyN (aG (((A+2^(d+1):Int):Rat)*w)),.z (.int .i64) (rts c w (A+2^d) (A+2^(d+1)))]) ih2 hdR rfl (by rw[huP];exact func96) (by rw[hT];rfl) (by kernel_rfl)) ?_;rintro g' s' ⟨b,h,rfl⟩;rcases h with⟨hb,rfl⟩|⟨hb,rfl⟩
   ·cases hb;refine yla trivial ?_;refine sW ?_;exact⟨.inr rfl,[.z .bool true],.inl ⟨rfl,by rw[List.length_append,Nat.add_assoc]⟩,⟨rfl,trivial⟩⟩
   ·cases hb;refine yla trivial ?_;refine sW ?_;exact⟨.inr rfl,[.z .bool false],.inr ⟨rfl,rfl⟩,⟨rfl,trivial⟩⟩
  ·cases hb;refine yln 7 trivial ?_;refine kg (K1:=fun g' s'=>g'=none/\s'=aa.put _ 49 (.g false (.z .bool true))) (Cp (d:=49) rfl (by rw[hT];rfl) rfl (.z .bool true) ⟨rfl,rfl⟩) ?_;rintro g' s' ⟨rfl,rfl⟩;refine yla trivial ?_;refine sW ?_;exact⟨.inr rfl,[.z .bool false],.inr ⟨rfl,rfl⟩,⟨rfl,trivial⟩⟩
def ko(B:av):Tab:={types:=[(3,(.int .i64)),(74,tyP),(82,tyN),(130,(.ptr (.st (.st (.slice tyP))))),(134,.func),(136,.func)],elems:=[],cons:=[(88,tj),(89,jf),(92,ee),(93,oW),(95,ti),(98,Bi),(99,mc)],hint:=[3],N:=31,base:=B}
theorem zp{B:av}(hB:bc B):aV prog (ko B):=mg (T:=ko B) (tc ty3 (tc jq (tc ty82 (tc sn (tc KI (tc KJ ah)))))) aj (aM (cc func88 (vL hB) (cc func89 (oZ hB) (cc func92 (jL hB) (cc func93 (iy hB) (cc func95 (oY hB) (cc func98 (Fx hB) (cc func99 (lV hB) aF))))))))
def KB(B:av)(l bY bD:Nat)(vW vC:Value):Tab:={ko B with pins:=[(bY,(dY l,134)),(bD,(dF bY bD vW vC,136))]}
theorem NH{B:av}(hB:bc B)(l bY bD:Nat)(vW vC:Value):aV prog (KB B l bY bD vW vC):=by
 have h:=zp hB;exact⟨⟨h.tab.types,h.tab.elems,h.tab.small,h.tab.globs⟩,⟨h.cons.cons,h.cons.body⟩,h.mixed⟩
set_option maxHeartbeats 4000000 in
theorem KC{B:av}(hB:bc B)(p:List ND)(n:Int)(h:nO p n):lS B prog 94 2 [.z (.ptr tyP) p,.z (.ptr (.int .i64)) n] (di (ab p) n.toNat):=by
 refine⟨enters_of func94 (by kernel_rfl) rfl,fun it hit=>?_,fun t ht hP hBt hi D W lb hJ hcap=>?_⟩;·obtain⟨s,_,rfl⟩:=List.mem_map.1 hit;exact⟨rfl,rfl⟩
 obtain⟨T,hT0⟩:∃T,T=ko B:=⟨_,rfl⟩;have hG0:aV t.P T:=by rw[hP,hT0];exact zp hB
 have hbase:T.base=t.B:=by rw[hT0,hBt];rfl
 obtain⟨K,hK⟩:∃K,K=cL (ab p):=⟨_,rfl⟩;obtain⟨l,hl⟩:∃l:Nat,n=(l:Int):=⟨n.toNat,by have:=h.n0;omega⟩;have hl2:n.toNat=l:=by omega
 have hn1:=h.n1;have hcapL:aY (aJ D W (fun _=>undef)) [.z (.ptr tyP) p,.z (.ptr (.int .i64)) n] lb:=by
  match lb,hcap with
  | [u,v],hc=>exact⟨hc.1,hc.2.1,trivial⟩
 rw[show (#[Value.func (.yield t.l) #[] #[]]++lb.toArray)=(Value.func (.yield t.l) #[] #[]::lb).toArray by simp,<- hP];refine(sY (t:=t) (T:=T) (g:=some 0) (args:= .val (.func (.yield t.l) #[] #[]):: [.z (.ptr tyP) p,.z (.ptr (.int .i64)) n]) (vals:= .func (.yield t.l) #[] #[]::lb)
  (R:=fun g rs=>rs=[]/\(g=some (di (ab p) n.toNat).length∨g=none)) (R':=fun g v=>g=some (di (ab p) n.toNat).length∨g=none) hG0.tab ht hbase (by rw[hP];exact func94) rfl (by rw[hT0];rfl) (by rw[hT0];rfl) (by rw[hT0];exact OZ rfl) hJ ⟨rfl,hcapL⟩
  (fun b v ty hp=>by rw[hT0] at hp;cases hp) rfl (fun g' rs H M w vs h1 h2=>h1.2) ?_).mono ?_
 ·intro D a w hJ hS;obtain⟨ho,hb,ρ0,tm,hst⟩:=hS;obtain⟨X,hXd⟩:∃X,X=t.cx T D w ρ0 tm:=⟨_,rfl⟩;have hT:X.T=ko B:=by rw[hXd];exact hT0
  have hG:aV X.P X.T:=by rw[hXd];exact hG0
  have hr:X.r=none:=by rw[hXd]
  have hX:=ai ko.eq_1<|ai cx<|ai @tj.eq_1<|ai @ti.eq_1<|ai @oW.eq_1<|ai @ee.eq_1<|ai @Bi.eq_1<|ai @mc.eq_1<|ai @jf.eq_1<|ai @ar<|ai @pe2<| @nK;have main:PJ X ((f94.body).getD .skip) {env:=aD 0 (.val (.func (.yield t.l) #[] #[]):: [.z (.ptr tyP) p,.z (.ptr (.int .i64)) n]),own:=[]} (fun e a' w'=>∃g' s' D',Is T f94 (fun g rs=>rs=[]/\(g=some (di (ab p) n.toNat).length∨g=none)) e g' s'/\t.J g' D' w'/\t.S T D' s' a' w'/\b5 D w D' w'):=by
   (simp only[f94,OV,aD];refine mK (aU hG ?_ (AY ?_));·exact trivial);(refine mK (aU hG ?_ (AY ?_));·exact h.st);(refine mK (aU hG ?_ (AY ?_));·exact trivial);refine mK ?_;refine sg ?_;refine au (bM (fun(k:Nat)=>(⟨[(3,.l (.ownP 3 0)),(4,.l (.ownP 4 0)),(5,.l (.ownP 5 0)),(1,.l (.z (.ptr tyP) p)),(11,.l (.z (.int .i64) n)),(12,.l (.z (.int .i64) (k:Int)))],[(3,.box 134 [.val (.func (.yield t.l) #[] #[])]),(4,.box 130 [.z (.ptr (.st (.st (.slice tyP)))) (iS (cR (ab p)))]),(5,.box 82 [.z .bool (aG (wdN k)).1.1,.z (.slice (.int .u32)) (aG (wdN k)).1.2,.z .bool (aG (wdN k)).2.1,.z (.slice (.int .u32)) (aG (wdN k)).2.2])]⟩:aa)) (fun k=>k<=l) (fun k=>l-k) 0 ?_ ?_ ?_);·refine q_l ?_;exact⟨rfl,rfl,rfl,rfl,rfl⟩
   ·exact PM _
   ·rintro k g1;(try dsimp only at g1);refine sg ?_;refine al (qc ?_ ?_)
    ·(intro hb0;(have hk:k<l:=by have h9:(k:Int)<n:=hb0;omega);refine aC (ag (al (au (rd ?_ ?_))));·exact J7 (by omega));refine aR (ag (rg ?_));refine qm ?_;exact⟨k+1,by rw[wo];rfl,rfl,rfl,rfl,rfl,by omega,by omega⟩
    ·(intro hb0;(have hk:k=l:=by have h9:¬(k:Int)<n:=hb0;omega);subst hk;refine bN (aQ (aI (aH (AY ?_))));refine mK (aU hG ?_ (AY ?_));·exact trivial);(refine mK (aU hG ?_ (AY ?_));·exact trivial);(refine mK (aU hG ?_ (AY ?_));·exact h.bd);refine s6 5 tyN (by rfl) (by rfl) (by simp only[aa.thawQ,LV.thawQ,CV.thawQ,mr0,mr1,mr2,mT,isNilP,N8,AS,IT,N3,No,AT,N4,N5,reduceIte,reduceDIte,reduceCtorEq];rfl) ?_;refine s6 4 (.ptr (.st (.st (.slice tyP)))) (by rfl) (by rfl) (by simp only[aa.thawQ,LV.thawQ,CV.thawQ,mr0,mr1,mr2,mT,isNilP,N8,AS,IT,N3,No,AT,N4,N5,reduceIte,reduceDIte,reduceCtorEq];rfl) ?_;refine s6 7 tyN (by rfl) (by rfl) (by simp only[aa.thawQ,LV.thawQ,CV.thawQ,mr0,mr1,mr2,mT,isNilP,N8,AS,IT,N3,No,AT,N4,N5,reduceIte,reduceDIte,reduceCtorEq];rfl) ?_;intro a1 w1 hst1;rw[hXd] at hst1 ⊢;obtain⟨b,c,v1,v2,hne,hy,hd,hw1,hc1,hS⟩:=Kh (i:=3) (j:=6) hbase hst1 (by rfl) (by rfl) (by decide);obtain⟨u,hu⟩:∃u,u=t.more (xf t.l b c v1 v2 (cR (ab p)) (wdN k)):=⟨_,rfl⟩;have hF:∀g D A D' B,t.J g D A->xf t.l b c v1 v2 (cR (ab p)) (wdN k) D A->b5 D A D' B->xf t.l b c v1 v2 (cR (ab p)) (wdN k) D' B:=
      fun g D A D' B _ h hA=>⟨h.y.after hA,h.d.after hA,lT h.w hA,lT h.c hA⟩
     (have hok:u.OK:=by rw[hu];exact bS.more_ok ht hF);obtain⟨U,hU⟩:∃U,U=KB B t.l b c v1 v2:=⟨_,rfl⟩;(have hGU:aV u.P U:=by rw[hU,hu];show aV t.P _;rw[hP];exact NH hB _ _ _ _ _);have hS1:=hS U (by rw[hU,hT0];rfl) (by rw[hU,hT0];rfl) (by rw[hU,hT0];rfl) (fun b' v ty hp=>by
      rw[hU] at hp;simp only[KB,get?] at hp;split at hp;·rename_i e;subst e;cases hp;exact hy
      ·(split at hp;·rename_i e;subst e;cases hp;exact hd);·cases hp)
     have hg:lj w w1:=⟨hst1.below.os,hst1.below.tape,hst1.below.output,hst1.below.size,fun b hb hn=>hst1.below.block b hb (fun e=>e.elim hn fun x=>x)⟩;(have hJ1:u.J (some 0) D w1:=by rw[hu];exact⟨ht.grow _ _ _ _ hJ hg,⟨hy,hd,hw1,hc1⟩⟩);have hSu:=bS.S.more (F:=xf t.l b c v1 v2 (cR (ab p)) (wdN k)) hS1;rw[<- hu] at hSu;(have hPu:u.P=t.P:=by rw[hu];rfl);have huP:u.P=prog:=hPu.trans hP;obtain⟨A,hA⟩:∃A:Int,A= -(2^(K+k):Int):=⟨_,rfl⟩;(have hcel:iN (cR (ab p)) (wdN k) (K+k):=by have:=h.cel;rw[hl2,<- hK] at this;exact this);obtain⟨hA1,hA2⟩:=Ch K k;rw[<- hA] at hA1 hA2;have tp:=J8 K k;have tn:=J9 K k;rw[<- hA] at tp tn;have hdiv:=KA hB t ht hP hBt hcel b c hne v1 v2 (K+k+1) A 0 [] hA1 hA2 (by rw[hi,Oy,Pr];unfold di jt;rw[hl2,<- hK,<- hA]);rw[<- hu] at hdiv;(have hlen:(di (ab p) n.toNat).length=0+(dc (cR (ab p)) (wdN k) (K+k+1) A).length:=by unfold di jt;rw[O2,hl2,<- hK,<- hA,Nat.zero_add]);rw[hlen];clear hlen;generalize (dc (cR (ab p)) (wdN k) (K+k+1) A).length=m at hdiv ⊢;obtain⟨Q,hQ⟩:∃Q,Q=A+2^(K+k+1):=⟨_,rfl⟩;rw[<- hQ] at hdiv hA2 tp tn;show Code.wpIn (fw none) 2 t.P _ _ a1 w1;rw[<- hPu];refine Code.wpIn_mono (fun e a' w' h2=>?_) ((?_:YJ u U (.region 10 _ true) (some 0) _ (fun e g _=>e= .normal/\(g=some (0+m)∨g=none))) D a1 w1 hJ1 hSu);·obtain⟨g',s',D',⟨rfl,hg'⟩,k1,k2,k3⟩:=h2;rw[hu] at k1 k2;exact⟨g',s',D',⟨.inl rfl,[],⟨rfl,hg'⟩,trivial⟩,k1.1,bS.S.table k2 (by rw[hU,hT0];rfl) (by rw[hU,hT0];rfl) (by rw[hU,hT0];rfl) (by rw[hT0];rfl),(b5.grows hg).trans k3⟩
     ·(refine NY (s':=⟨[(6,.l (.val (dP c))),(7,.l (.z (.ptr tyN) (aG ((Q:Rat)*wdN k)))),(4,.l (.z (.ptr (.ptr (.st (.st (.slice tyP))))) (iS (cR (ab p)))))],[]⟩) ?_ rfl ?_;·rw[<- tp,hK];simp only[aa.pinB,bH,AV.map,LV.pinB];refine q_l ?_;rfl);(have hT:=hU;have hX:=ai KB.eq_1<|ai dP.eq_1<|ai ko.eq_1<|ai cx<|ai @mc.eq_1<|ai @jf.eq_1<|ai @ar<|ai @pe2<|ai (eq_false hne)<|ai @nK<|ai @yO<|tn;refine ydR 9 ?_ ?_;·have h1:=hcel.val hA1;have h2:=hcel.val hA2;have h3:lq ((Q:Rat)*wdN k)<=QC:=Og (hcel.pt _ hA2) (by unfold QA QC;omega);exact⟨⟨aX _,h3⟩,⟨aX _,h3⟩,h1,h2⟩);have hdR:∀{k m:Nat} (g':Option Nat) (v:Value),dR k m g' v->∃b:Bool,v= .bool b:=fun g' v h=>h.elim (fun h=>⟨true,h.1⟩) (fun h=>⟨false,h.1⟩);refine kg (sZ hok (x:= .tmp 21) (d:=30) (fn:=f96) (caps:=dC b c v1 v2) (args:=[.z tyN (aG ((A:Rat)*wdN k)),.z tyN (aG ((Q:Rat)*wdN k)),.z (.int .i64) (rts (cR (ab p)) (wdN k) A Q)]) hdiv hdR rfl (by rw[huP];exact func96) (by rw[hU];rfl) (by kernel_rfl)) ?_;rintro g' s' ⟨bb,h,rfl⟩;exact AX ⟨rfl,h.elim (fun h=> .inl h.2) (fun h=> .inr h.2)⟩
  have h2:=main a w (by rw[hXd];exact hst);rw[hXd] at h2;exact h2
 ·rintro e w' ⟨v,g',D',rfl,h1,h2,h3⟩;exact⟨v,g',D',rfl,h2,h1⟩
def gF(B:av):Tab:={types:=[(3,(.int .i64)),(23,(.int .i64)),(27,(.slice .str)),(28,(.slice (.st (.pair .str (.int .i64))))),(33,(.st (.pair .str (.int .i64)))),(74,tyP),(80,tyW)],elems:=[(28,33)],cons:=[(39,DA),(43,xe),(44,nT),(45,BG)],hint:=[],N:=48,base:=B}
theorem zq{B:av}(hB:bc B):aV prog (gF B):=mg (T:=gF B) (tc ty3 (tc sl (tc pX (tc JF (tc JG (tc jq (tc fZ ah))))))) (bo (by kernel_rfl) aj) (aM (cc func39 (Bg hB) (cc func43 (Fy hB) (cc func44 (CR hB) (cc func45 (Jc hB) aF)))))
def jg:Con:=c2 (.slice .str) (.int .i64) (fun p n=>fX p n) (fun p n=>[.z (.slice (.st (.pair .str (.int .i64)))) (clR p n),.z (.int .i64) (clE p n)])
theorem o7{B:av}(hB:bc B):Valid B prog 13 jg:=by
 refine bh (zq hB).tab func13 rfl rfl rfl ?_;intro args os C rs os' hc hC;obtain⟨p,n,rfl,rfl,rfl,rfl,rfl⟩:=mC hc;refine v_h (zq hB) fun X hP hT hr hG=>?_;have hU:=gF.eq_1;unfold gF at hT;have hX:=ai @cx<|ai @xe.eq_1<|ai @nT.eq_1<|ai @mM.eq_1<| @BG.eq_1;simp only[f13,aD,af,ioB];refine s_g hG ?_;refine s_q hG ?_ ?_
 ·try simp only[ba]
  exact E0 hC.sp
 refine al (s_g hG ?_);refine bw ?_ ?_
 ·intro hb0;try simp only[bt] at hb0
  refine s_g hG ?_;refine aK (aO (q_e [] ?_));exact L3 hb0
 ·intro hb0;try simp only[bf] at hb0
  refine aC (ag (al (s_g hG ?_)));refine bw ?_ ?_;·intro hb1;(try simp only[bt] at hb1);refine s_g hG ?_;refine aK (aO (q_e [] ?_));exact L4 hb0 (L7 hb1)
  ·(intro hb1;(try simp only[bf] at hb1);obtain⟨c1,c2,c3⟩:=Ns hb1;obtain⟨hcel,hlen⟩:=hC.ok hb0 c1 (by omega) (by omega);refine aC (ag (s_g hG ?_));refine al (s_g hG ?_);refine au (Fb hr (gf:=94) (caps:=[.z (.ptr tyP) (rdP p []),.z (.ptr (.int .i64)) n]) (items:=di (ab (rdP p [])) n.toNat) (by simp only[hT,gF,mx0,mx1,mx2,mx3,mx4,mx5,mx6,mT,effOp,endCall,callOp,appendOp,sliceLV,Ty.fieldTy,Ty.fieldOf,N8,AS,IT,N3,No,AT,N4,N5,reduceIte,reduceDIte,reduceCtorEq];try rfl) (by rfl) (by rw[hP,hT];exact KC hB _ n hcel) (by rfl) (ub:=tyW) (by rw[hP];exact fZ) (by simp only[hT,gF];omega) [4,5,9] (by rfl) (by simp only[hT,gF];try rfl) (fun(k:Nat) (z:Unit)=>(⟨[(4,.l (.ownP 4 0)),(5,.l (.ownP 5 0)),(9,.l (.ownP 9 0))],[(4,.box 28 [.val (.slice none 0 0)]),(5,.box 23 [.z (.int .i64) 0]),(9,.box 28 [.ownS 46]),(46,.arr (.st (.pair .str (.int .i64))) 33 (((clL p n).take k).map nP))]⟩:aa)) (fun(k:Nat) (z:Unit)=>((clL p n).take k).any tP=false) () ?_ ?_ ?_ ?_ ?_);·simp only[ml0,ml1,N8,AS,IT,N3,No,AT,N4,N5,reduceIte,reduceDIte,reduceCtorEq];exact OZ rfl);·rfl
   ·intro k z;rfl
   ·intro k hk;rintro⟨⟩ g1;(try dsimp only at g1);(have hk2:k<(jt (ab (rdP p [])) n.toNat).length:=by simpa [di] using hk);have hen:=EZ hcel hk2;refine⟨_,_,_,by simp only[hT,gF,di,lg,mx0,mx1,mx2,mx3,mx4,mx5,mx6,mT,effOp,endCall,callOp,appendOp,sliceLV,Ty.fieldTy,Ty.fieldOf,N8,AS,IT,N3,No,AT,N4,N5,reduceIte,reduceDIte,reduceCtorEq,Qa,P4];rfl,by simp only[mx0,mx1,mx2,mx3,mx4,mx5,mx6,mT,effOp,endCall,callOp,appendOp,sliceLV,Ty.fieldTy,Ty.fieldOf,N8,AS,IT,N3,No,AT,N4,N5,reduceIte,reduceDIte,reduceCtorEq];rfl,by rfl,by simp only[mx0,mx1,mx2,mx3,mx4,mx5,mx6,mT,effOp,endCall,callOp,appendOp,sliceLV,Ty.fieldTy,Ty.fieldOf,N8,AS,IT,N3,No,AT,N4,N5,reduceIte,reduceDIte,reduceCtorEq]<;>rfl,by simp only[hT,gF,di,lg,mx0,mx1,mx2,mx3,mx4,mx5,mx6,mT,effOp,endCall,callOp,appendOp,sliceLV,Ty.fieldTy,Ty.fieldOf,N8,AS,IT,N3,No,AT,N4,N5,reduceIte,reduceDIte,reduceCtorEq,Qa,P4];rfl,?_⟩;intro X' hP' hT';(have hG':aV X'.P X'.T:=by rw[hP',hT'];exact hG.keep _);rw[hT] at hT';refine au (al (al (fB hG' ?_ ?_)))
    ·(try simp only[ba]);exact hen
    refine ag (bw ?_ ?_)
    ·(intro hb2;(try simp only[bt] at hb2);refine al (fB hG' ?_ ?_);·exact tt);(refine ag (aK (aO (bn (⟨(⟨[(4,.l (.ownP 4 0)),(5,.l (.ownP 5 0))],[(4,.box 28 [.val (.slice none 0 0)]),(5,.box 23 [.z (.int .i64) 6])]⟩:aa),?_,rfl,?_⟩))));·simp only[ml0,ml1,N8,AS,IT,N3,No,AT,N4,N5,reduceIte,reduceDIte,reduceCtorEq]);refine bn (aO (q_e [] ?_));exact L5 hb0 c1 c2 c3 hk2 (by rw[bG] at hb2;exact hb2)
    ·intro hb2;(try simp only[bf] at hb2);refine aC (ag (wW 46 28 (by simp only[aa.toRow,LV.toRow,ioB,mx0,mx1,mx2,mx3,mx4,mx5,mx6,N8,AS,IT,N3,No,AT,N4,N5,reduceIte,reduceDIte,reduceCtorEq];rfl) ?_));refine Iw 46 1 ?_;refine wa hG' ?_ ?_
     ·(try simp only[ba]);exact⟨hen,rfl,Ka hlen k⟩
     refine⟨_,by simp only[aa.ofRow,LV.ofRow,ioB,List.set_cons_zero,List.set_cons_succ,Pr,OY,OS,List.getElem?_cons_zero,List.getElem?_cons_succ,OV,mx0,mx1,mx2,mx3,mx4,mx5,mx6,N8,AS,IT,N3,No,AT,N4,N5,reduceIte,reduceDIte,reduceCtorEq];rfl,?_⟩;refine aR ?_;show ∃z,_;simp only[ml0,ml1,N8,AS,IT,N3,No,AT,N4,N5,reduceIte,reduceDIte,reduceCtorEq];exact H1 hk2 g1 hb2
   ·rintro⟨⟩ g1;(try dsimp only at g1);(have hl:(di (ab (rdP p [])) n.toNat).length=(clL p n).length:=by simp[di,clL]);rw[hl] at g1;refine aR (ag (rr [46] (by simp only[hT,gF,mr0,mr1,mr2,mT,isNilP,N8,AS,IT,N3,No,AT,N4,N5,reduceIte,reduceDIte,reduceCtorEq];rfl) ?_));refine s_g hG ?_;refine aK (q_e [] ?_);rw[hl];exact L6 hb0 c1 c2 c3 g1
def zr:Con:=mo [some (.slice .str),none] jg
theorem Bj{B:av}(hB:bc B):Valid B prog 13 zr:=jC _ (o7 hB)
def xg(B:av):Tab:=mT B [(3,(.int .i64)),(23,(.int .i64)),(27,(.slice .str)),(28,(.slice (.st (.pair .str (.int .i64))))),(33,(.st (.pair .str (.int .i64))))] [] [(13,jg)] [] 40
def qC:Con:=c3 (.slice .str) (.int .i64) (.slice (.st (.pair .str (.int .i64)))) (fun p n w=>fX p n) (fun p n w=>[.z .bool (decide (clE p n=0/\clR p n=w))])
theorem Fz{B:av}(hB:bc B):Valid B prog 14 qC:=by
 refine v3 (mg (T:=xg B) (tc ty3 (tc sl (tc pX (tc JF (tc JG ah))))) aj (aM (cc func13 (o7 hB) aF))) func14 ?_;intro p n w hC X hP hT hr hG;have hX:=ai xg.eq_1<|ai cx<|jg.eq_1;simp only[f14,aD,af,ioB];refine sg ?_;refine sq ?_ ?_;·exact hC
 refine al (sg ?_);refine qc ?_ ?_;·intro hb0;refine sg ?_;refine aK (aO (qe [] ?_));exact NQ hb0
 ·intro hb0;have h0:=NR hb0;have hlen:=Md hC;refine aC (ag (al (sg ?_)));refine au (bM (fun(z:Nat)=>(⟨[(2,.l (.z (.slice (.st (.pair .str (.int .i64)))) w)),(7,.l (.z (.slice (.st (.pair .str (.int .i64)))) (clR p n))),(26,.l (.z (.int .i64) ((clR p n).length:Int))),(27,.l (.z (.int .i64) (z:Int)))],[]⟩:aa)) (fun z=>z<=w.length/\(clR p n).take z=w.take z) (fun z=>w.length-z) 0 ?_ ?_ ?_);·refine q_l ?_;rfl
  ·exact⟨PM _,rfl⟩
  ·rintro k ⟨g1,g2⟩;(try dsimp only at g1 g2);refine sg ?_;refine al (qc ?_ ?_)
   ·(intro hb1;(have hk:k<(clR p n).length:=by omega);refine aC (ag (al (au (sg ?_))));refine al ?_;have hX:=ai xg.eq_1<|ai cx<| @jg.eq_1;refine NC 8 (by rw[hP];exact NF (ty:=33) (by kernel_rfl)) ?_ ?_;·exact⟨⟨by omega,hb1⟩,by omega,by omega⟩);refine ag (qc ?_ ?_);·intro hb2;refine sg ?_;refine aK (bn (aO (gJ (bn (aO (qe [] ?_))))));exact Nt h0 hk hb2
    ·intro hb2;refine aC (aR (ag (rg ?_)));refine qm ?_;obtain⟨e1,e2⟩:=Kd h0 hk g2 hb2;exact⟨k+1,wo,e1,e2,by omega⟩
   ·intro hb1;refine bN (aQ (aI (aH (ag (sg ?_)))));refine aK (qe [] ?_);exact Mc h0 g1 hb1 g2
def tz:Con:=mo [none,none,some (.slice (.st (.pair .str (.int .i64))))] qC
theorem tA{B:av}(hB:bc B):Valid B prog 14 tz:=jC _ (Fz hB)
def DF(B:av):Tab:=mT B [(3,(.int .i64)),(23,(.int .i64)),(26,.str),(27,(.slice .str))] [] [(12,mN)] [] 25
def qD:Con:=c4 (.slice .str) .str .str (.int .i64) (fun p a b n=>e8 p a b) (fun p a b n=>[.z .bool (decide (sgN p a b=n/\sgE p a b=0))])
theorem FA{B:av}(hB:bc B):Valid B prog 15 qD:=by
 refine v4 (mg (T:=DF B) (tc ty3 (tc sl (tc wG (tc pX ah)))) aj (aM (cc func12 (o6 hB) aF))) func15 ?_;intro p a b n hC X hP hT hr hG;have hX:=ai DF.eq_1<|ai cx<|mN.eq_1;simp only[f15,aD,af,ioB];refine sg ?_;refine sq ?_ ?_;·exact hC
 refine sg ?_;refine aK (qe [] ?_);exact KY _ _ _
def tB:Con:=mo [some (.slice .str),none,none,none] qD
theorem tC{B:av}(hB:bc B):Valid B prog 15 tB:=jC _ (FA hB)
def DG(B:av):Tab:=mT B [(3,(.int .i64)),(23,(.int .i64)),(26,.str),(27,(.slice .str))] [] [(11,kn)] [] 25
def n9:Con:=c4 (.slice .str) .str .str (.int .i64) (fun p a b n=>gW p a b) (fun p a b n=>[.z .bool (decide (ctN p a b=n/\ctE p a b=0))])
theorem vN{B:av}(hB:bc B):Valid B prog 16 n9:=by
 refine v4 (mg (T:=DG B) (tc ty3 (tc sl (tc wG (tc pX ah)))) aj (aM (cc func11 (o5 hB) aF))) func16 ?_;intro p a b n hC X hP hT hr hG;have hX:=ai DG.eq_1<|ai cx<|kn.eq_1;simp only[f16,aD,af,ioB];refine sg ?_;refine sq ?_ ?_;·exact hC
 refine sg ?_;refine aK (qe [] ?_);exact KY _ _ _
def DH(B:av):Tab:=mT B [(3,(.int .i64)),(23,(.int .i64)),(26,.str),(27,(.slice .str)),(28,(.slice (.st (.pair .str (.int .i64))))),(33,(.st (.pair .str (.int .i64))))] [(27,26),(28,33)] [(11,zo),(12,mN),(13,jg),(14,tz),(15,tB),(16,n9)] [] 117
def xh:Con:=c0 (True) ([.z .bool true])
set_option maxHeartbeats 2000000 in
theorem FB{B:av}(hB:bc B):Valid B prog 10 xh:=by
 refine v0 (mg (T:=DH B) (tc ty3 (tc sl (tc wG (tc pX (tc JF (tc JG ah)))))) (bo (by kernel_rfl) (bo (by kernel_rfl) aj)) (aM (cc func11 (Bh hB) (cc func12 (o6 hB) (cc func13 (o7 hB) (cc func14 (tA hB) (cc func15 (tC hB) (cc func16 (vN hB) aF)))))))) func10 ?_;intro hC X hP hT hr hG;have hX:=ai DH.eq_1<|ai cx<|ai qC.eq_1<|ai jg.eq_1<|ai kn.eq_1<|ai n9.eq_1<|ai mN.eq_1<|ai qD.eq_1<| @List.append_eq.{0};simp only[f10,aD,af,ioB];have hX:=ai Mh.2.1<|ai Mh.2.2<|ai Mi.2.1<|ai Mi.2.2<|ai Mj.2.1<|ai Mj.2.2<|ai Nw.2<|ai Nx.2<|ai Ny.2<|ai Nz.2<|ai NA.2<|ai Mk.2<|ai Ml.2<|ai Mm.2<|ai Mn.2<|ai Mo.2<|ai Mp.2<|ai Mq.2<|ai H6.2<|ai H7.2<|ai H8.2<|ai H9.2<|ai Ia.2 hX;refine sg ?_;refine sg ?_;refine sq ?_ ?_;·exact Mh.1
 refine sq ?_ ?_;·exact Mi.1
 refine sq ?_ ?_;·exact Mj.1
 refine sq ?_ ?_;·exact⟨Nw.1,Nx.1,Ny.1,Nz.1,NA.1⟩
 refine s_f [58,59,60,61,62,63,64,65,66,67,68,69,70,71,72,73,74,75,76,77,78,79,80,81,82,83,84] hG ?_ ?_
 ·try simp only[ba]
  simp only[Mk.2,Ml.2,Mm.2,Mn.2,Tb,Pb]
  (repeat' first|apply And.intro|intro _)<;>first|exact Mk.1|exact Ml.1|exact Mm.1|exact Mn.1|exact True.intro|rfl
 refine sq ?_ ?_
 ·simp only[Mo.2,Mp.2,Mq.2,H6.2,H7.2,H8.2,H9.2,Ia.2,Tb,Pb]
  (repeat' first|apply And.intro|intro _)<;>first|exact Mo.1|exact Mp.1|exact Mq.1|exact H6.1|exact H7.1|exact H8.1|exact H9.1|exact Ia.1|exact True.intro|rfl
 refine aK (qe [] ?_);trivial
def DI(B:av):Tab:=mT B [(3,(.int .i64)),(23,(.int .i64)),(26,.str),(27,(.slice .str)),(28,(.slice (.st (.pair .str (.int .i64))))),(33,(.st (.pair .str (.int .i64))))] [(27,26),(28,33)] [(10,xh),(11,kn),(12,mN),(13,zr),(14,tz),(15,tB),(16,n9)] [] 169
def DJ:Con:=c0 (True) ([.z .bool true])
set_option maxHeartbeats 2000000 in
theorem FC{B:av}(hB:bc B):Valid B prog 3 DJ:=by
 refine v0 (mg (T:=DI B) (tc ty3 (tc sl (tc wG (tc pX (tc JF (tc JG ah)))))) (bo (by kernel_rfl) (bo (by kernel_rfl) aj)) (aM (cc func10 (FB hB) (cc func11 (o5 hB) (cc func12 (o6 hB) (cc func13 (Bj hB) (cc func14 (tA hB) (cc func15 (tC hB) (cc func16 (vN hB) aF))))))))) func3 ?_;intro hC X hP hT hr hG;have hX:=ai DI.eq_1<|ai cx<|ai qC.eq_1<|ai jg.eq_1<|ai kn.eq_1<|ai n9.eq_1<|ai mN.eq_1<|ai qD.eq_1<|ai xh.eq_1<| @List.append_eq.{0};simp only[f3,aD,af,ioB];have hX:=ai Mr.2.1<|ai Mr.2.2<|ai Ms.2.1<|ai Ms.2.2<|ai Mt.2.1<|ai Mt.2.2<|ai Mu.2.1<|ai Mu.2.2<|ai Mv.2.1<|ai Mv.2.2<|ai Mw.2.1<|ai Mw.2.2<|ai Mx.2.1<|ai Mx.2.2<|ai My.2<|ai Mz.2<|ai Ib.2<|ai Ic.2<|ai Ie.2<|ai Ig.2<|ai Ih.2<|ai Ii.2<|ai Ij.2<|ai Ik.2<|ai Il.2<|ai Im.2<|ai Io.2<|ai Ip.2<|ai Iq.2<|ai Ir.2 hX;refine sg ?_;refine al (sg ?_);refine qc ?_ ?_;·intro hb0;cases hb0
 ·intro hb0;refine aC (ag (sq ?_ ?_));·exact Mr.1
  refine sq ?_ ?_;·exact Ms.1
  refine sq ?_ ?_;·exact Mt.1
  refine sq ?_ ?_;·exact Mu.1
  refine sq ?_ ?_;·exact Mv.1
  refine sq ?_ ?_;·exact Mw.1
  refine sq ?_ ?_;·exact Mx.1
  refine sg ?_;refine sg ?_;refine s_f [84,85,86,87,88,89,90,91,92,93,94,95,96,97,98,99,100,101,102,103,104,105,106,107,108,109,110,111,112,113,114,115,116,117,118,119,120,121] hG ?_ ?_
  ·(try simp only[ba]);simp only[My.2,Mz.2,Ib.2,Ic.2,Ie.2,Ig.2,Tb,Pb]
   (repeat' first|apply And.intro|intro _)<;>first|exact My.1|exact Mz.1|exact Ib.1|exact Ic.1|exact Ie.1|exact Ig.1|exact True.intro|rfl
  refine sq ?_ ?_
  ·simp only[Ih.2,Ii.2,Ij.2,Ik.2,Il.2,Im.2,Io.2,Ip.2,Iq.2,Ir.2,Tb,Pb]
   (repeat' first|apply And.intro|intro _)<;>first|exact Ih.1|exact Ii.1|exact Ij.1|exact Ik.1|exact Il.1|exact Im.1|exact Io.1|exact Ip.1|exact Iq.1|exact Ir.1|exact True.intro|rfl
  refine sg ?_;refine aK (qe [] ?_);trivial
end Go.Proofs.YtppnhclgaeodoaaGreatDoor
end
section
namespace Go.Proofs.YtppnhclgaeodoaaGreatDoor.rootsKnown
open Go Go.Cm Go.Proofs Go.ChangeShapes Go.WideShapes Go.ChangeAt Go.RowKit Go.Deep Go.Joins
theorem own:ownKnob Tryz.prog.godebug=none:=by kernel_rfl
theorem N0:Tryz.f3.resultTypes= #[4]:=by kernel_rfl
theorem NI:Tryz.prog.underlying 4=some .bool:=by kernel_rfl
def tys:List Ty:=[]
theorem reads:rp Tryz.prog tys Tryz.f3.params.toList=true:=by kernel_rfl
theorem spec:xG Rows.rootsKnownSpec tys.length:=⟨rfl,fun _ ds h=>match ds,h with| [],_=>rfl⟩
abbrev vals:Array Value:= #[]
theorem met(os:Os):laidMet Tryz.prog Rows.rootsKnownRow.laid ((rJ os).forCall (fun _ _=>0) ⟨#[],vals,[]⟩).memory:=
 laidMet_of_run3 8 (by kernel_rfl) (by kernel_rfl) (by kernel_rfl)
theorem witness(os:Os){H:Type}(enc:TypeId×Value->H):∃places,DataW.whole enc Tryz.prog ((rJ os).forCall (fun _ _=>0) ⟨#[],vals,[]⟩).memory Tryz.f3.params.toList Rows.rootsKnownSpec.vars false vals.toList 8=some ([],[],places):=
 ⟨[],by kernel_rfl⟩
theorem N1{W:World}(h:laidMetH Tryz.prog Rows.rootsKnownRow.laid W)(hs:W.ShapedOpen Tryz.prog):bc (ic W):=by
 have hL:laidMet Tryz.prog Rows.rootsKnownRow.laid W:=h;exact⟨fun w hw=>Jl (laidMet.tail (laidMet.tail hL)) w hw,Jo hs,GF (laidMet.tail (laidMet.tail (laidMet.tail (laidMet.tail (laidMet.tail (laidMet.tail hL)))))) (laidMet.tail (laidMet.tail (laidMet.tail (laidMet.tail (laidMet.tail hL)))))⟩
theorem lifted(os:Os)(started:os.Started)(H:Type)(enc:TypeId×Value->H)(F:Stop.Interp):
  ReturnsInHanded {} Tryz.checked os 3 .any ((OpenSpec.ofChange Rows.rootsKnownSpec).preRow enc Tryz.prog Tryz.f3 Rows.rootsKnownRow.domain false Rows.rootsKnownRow.laid) (((OpenSpec.ofChange Rows.rootsKnownSpec).at F).post enc Tryz.prog Tryz.f3 false true false false):=by
 obtain⟨places,hx⟩:=witness os enc;refine returnsInHanded_of_row (C:=Tryz.checked) (s:=OpenSpec.ofChange Rows.rootsKnownSpec) own started (by kernel_rfl) Tryz.func3
  (witness_row_at (enc:=enc) (C:=Tryz.checked) false (rJ os) vals rfl (by kernel_rfl) (by kernel_rfl) (by kernel_rfl)
   (OpenSpec.preRow_of_cond 8 hx (by kernel_rfl) (fun k hk=>by cases hk) (by kernel_rfl) (met os))) ?_
 intro W base args ds gs before hval hW _ _ _ hL hSh _;exact v8 (ts:=tys) (con:=DJ) reads N0 NI spec (fun x h=>by obtain⟨⟨⟩⟩:=x;obtain⟨-⟩:=h;exact⟨_,rfl,trivial⟩) (FC (N1 hL hSh)) hval hW
theorem said:Rows.RootsKnownSaid:=
 OpenClaim.holds_of_cond 3 Tryz.f3 rfl rfl rfl rfl rfl rfl rfl ⟨rfl,rfl,rfl,rfl,rfl⟩ rfl rfl rfl rfl rfl (by kernel_rfl) Tryz.func3 (by kernel_rfl)
  (of_decide_eq_true (by kernel_rfl)) (by unfold Func.isWrapper;first|(rw[if_pos (by decide+kernel)];kernel_rfl)|(rw[if_neg (by decide+kernel)];exact⟨rfl,rfl⟩))
  (fun os started H enc _ F=>by rw[OpenClaim.pre_eq_preRow];exact lifted os started H enc F)
theorem plain(f:FuncId)(fn:Func)(hf:Tryz.pinned.checked.prog.funcNamed "croupier/croupierlaw05.RootsKnown"=some f)(hfn:Tryz.pinned.checked.prog.funcs[f]? =some fn):
  true=Tryz.pinned.checked.prog.looks []/\∀(j:Nat) t,fn.params[j]? =some t->Tryz.pinned.checked.prog.wantsStandIn t=false:=by
 obtain rfl:f=3:=SJ ((show Tryz.prog.funcNamed "croupier/croupierlaw05.RootsKnown"=some 3 by kernel_rfl).symm.trans hf)|>.symm;obtain rfl:fn=Tryz.f3:=(SJ (Tryz.func3.symm.trans hfn)).symm;refine⟨by kernel_rfl,fun j t ht=>?_⟩;have hall:Tryz.f3.params.toList.all (fun t=> !Tryz.prog.wantsStandIn t)=true:=by kernel_rfl
 have:=List.all_eq_true.1 hall t (by simpa using Array.mem_of_getElem? ht);exact(by simpa using this:Tryz.prog.wantsStandIn t=false)
theorem card:Rows.RootsKnownCardSaid:=
 Claim7.holds_tied_plain_at .later [] _ _ _ _ said (fun _ h=>by cases h) (by kernel_rfl) (fun _ h=>by cases h) rootsKnown_row_tie rfl ⟨rfl,rfl⟩ (by kernel_rfl) rfl plain (by kernel_rfl)
end Go.Proofs.YtppnhclgaeodoaaGreatDoor.rootsKnown
end