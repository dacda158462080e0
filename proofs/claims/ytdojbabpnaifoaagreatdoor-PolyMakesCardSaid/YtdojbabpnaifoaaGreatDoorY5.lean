/- Merged by a program out of several texts. -/
import Derived.Test.YtdojbabpnaifoaaGreatDoorY4
import Derived.Test.YtdojbabpnaifoaaGreatDoorY2
import Derived.Test.YtdojbabpnaifoaaGreatDoorProg
import Derived.Test.YtdojbabpnaifoaaGreatDoorY3
import Derived.Deep.LoopGhost
import Derived.Lib.Walk
import Derived.Lib.SliceRun
import Derived.KernelRfl
set_option linter.all false
set_option linter.unusedSimpArgs false
set_option linter.unusedVariables false
set_option maxRecDepth 100000
section
namespace Go.Cm
open Go.Proofs
def WhR(p:List (List UInt8)):Prop:=txP (nl p)=p/\p.length<=20/\Trm (nl p)/\Den RK (nl p)
def Sa(p:List (List UInt8)):Prop:=txP (nl p)=p/\p.length<=20/\Trm (nl p)/\∀x∈nl p,lq x<=RK
structure Ox (l m:List Rat):Prop where
 la:l.length<=20
 lb:m.length<=20
 ta:Trm l
 tb:Trm m
 b0:m≠[]
 sz:∃k,Zb k l/\Zb k m/\k+(l.length+1-m.length)*(k+1)<=RK
def Oy(p q:List (List UInt8)):Prop:=txP (nl p)=p/\txP (nl q)=q/\Ox (nl p) (nl q)
structure mO (m T:List Rat) (c:Nat) (l:List Rat):Prop where
 ta:Trm l
 la:l.length<=20
 sz:∃b,Zb b l/\b+(l.length+1-m.length)*(c+1)<=RK
 go:fJ l m=T
theorem mO.next{m T l:List Rat}{c:Nat}(h:mO m T c l)(hm:m≠[])(zm:Zb c m)(hl:m.length<=l.length):mO m T c (iQ m l)/\(iQ m l).length<l.length/\Zb RK (aM (eb m l (l.length-1))):=by
 have hp:=List.length_pos_iff.2 hm;have hlen:=kT (m:=m) (l:=l) (by omega);obtain⟨b,b1,b2⟩:=h.sz;have h3:(l.length+1-m.length)*(c+1)=(l.length-m.length)*(c+1)+(c+1):=by
  rw[show l.length+1-m.length=(l.length-m.length)+1 by omega,Nat.succ_mul]
 have h2:((iQ m l).length+1-m.length)*(c+1)<=(l.length-m.length)*(c+1):=Nat.mul_le_mul_right _ (by omega);refine⟨⟨xj _ _,by have:=h.la;omega,⟨b+c+1,Gh b1 zm,by omega⟩,by rw[oF hp hl,h.go]⟩,hlen,(Gf (yM b1 zm _)).mono (by omega)⟩
theorem D9{l m:List Rat}(h:Ox l m):∃c,Zb c m/\c<=RK/\mO m (fJ l m) c l:=by
 obtain⟨k,k1,k2,k3⟩:=h.sz;exact⟨k,k2,by omega,h.ta,h.la,⟨k,k1,k3⟩,rfl⟩
theorem Sb{p q:List (List UInt8)}(h:Oy p q):∃l m,p=txP l/\q=txP m/\Ox l m:=⟨nl p,nl q,h.1.symm,h.2.1.symm,h.2.2⟩
theorem T4{b:List Rat}(h:(0:Int)<(((txP b).length:Nat):Int)):b≠[]:=by
 rintro rfl;simp[txP] at h
theorem T5{b:List Rat}(h:¬(0:Int)<(((txP b).length:Nat):Int)):b=[]:=by
 rw[aR] at h;exact List.eq_nil_of_length_eq_zero (by omega)
theorem Oz{m y:List Rat}(h:(((txP m).length:Nat):Int)<=(((txP y).length:Nat):Int)):m.length<=y.length:=by
 rw[aR,aR] at h;omega
theorem OA{m y:List Rat}(h:¬(((txP m).length:Nat):Int)<=(((txP y).length:Nat):Int)):¬m.length<=y.length:=by
 rw[aR,aR] at h;omega
structure U4 (b c:Nat) (l m:List Rat):Prop where
 la:l.length<=20
 lb:m.length<=20
 ta:Trm l
 tb:Trm m
 b0:m≠[]
 da:Den b l
 db:Den c m
 sz:b+(l.length+1-m.length)*(c+1)<=100000
def OB(p q:List (List UInt8)):Prop:=txP (nl p)=p/\txP (nl q)=q/\∃b c,U4 b c (nl p) (nl q)
theorem Sc{p q:List (List UInt8)}(h:OB p q):∃l m c,p=txP l/\q=txP m/\oG m c (gQ l m) l []/\Den c m/\Trm m/\m≠[]/\m.length<=20:=by
 obtain⟨h1,h2,b,c,h3⟩:=h;exact⟨nl p,nl q,c,h1.symm,h2.symm,DZ h3.ta h3.la h3.da h3.sz h3.b0,h3.db,h3.tb,h3.b0,h3.lb⟩
theorem Ki{l g:List Rat}(tl:Trm l)(tg:Trm g)(l0:l≠[])(h:Dv g l):∃s,Trm s/\s≠[]/\cB g s=l/\(divN l g).1=s:=by
 obtain⟨s,ts,hs⟩:=DX tg tl h;have g0:g≠[]:=by rintro rfl;rw[cZ] at hs;exact l0 hs.symm
 have s0:s≠[]:=by rintro rfl;rw[ew] at hs;exact l0 hs.symm
 have hg:=List.length_pos_iff.2 g0;have hp:=List.length_pos_iff.2 s0;obtain⟨u1,_⟩:=rJ (p:=l) (q:=g) (s:=s) (r:=[]) g0 tl tg ts kh hg fun x=>by
  rw[<- hs,eO,cH];grind
 refine⟨s,ts,s0,hs,D8 u1 ?_⟩;have:=dI g0 s0;rw[hs] at this;rw[kO];omega
structure Vq (l:List Rat):Prop where
 der:Sml 9 10 (bl l)
 g0:cd l (bl l)≠[]
 gd:gO l (bl l)=cd l (bl l)
 div:U4 9 17 l (gO l (bl l))
 eq:nX l=bO l
 trm:Trm (bO l)
 q1:Trm (gQ l (gO l (bl l))).1
 q2:(gQ l (gO l (bl l))).1.length<=20
 q3:∀x∈(gQ l (gO l (bl l))).1,lq x<=100000
theorem Gn{l:List Rat}(h:Sml 9 9 l)(l0:l≠[]):Vq l:=by
 have hd:Sml 9 10 (bl l):=by
  have:=h.der (by decide);exact⟨Nat.le_trans this.len (by decide),this.trm,this.den⟩
 have eg:gO l (bl l)=cd l (bl l):=RY ⟨h.len,h.trm,h.den.mono (by decide)⟩ hd;have g0:cd l (bl l)≠[]:=sk (.inl l0);have tg:=uN h.trm hd.trm;have dv:=((Gd h.trm hd.trm _).1 (Dv.refl (cd l (bl l)))).1;obtain⟨s,ts,s0,hs,hq⟩:=Ki h.trm tg l0 dv;have g1:=Bp h.trm hd.trm g0;have dg:=Bk (b:=9) ⟨Nat.le_trans h.len (by decide),h.trm,h.den⟩ l0 hs tg g1;have gl:=Be l (bl l);have hl1:=h.len;have hl2:=hd.len;have hgp:=List.length_pos_iff.2 g0;have hb:9+(l.length+1-(cd l (bl l)).length)*(17+1)<=100000:=by
  have:(l.length+1-(cd l (bl l)).length)*(17+1)<=10*(17+1):=Nat.mul_le_mul_right _ (by omega);omega
 obtain⟨e1,e2⟩:=RZ h.trm g0 tg;have e3:(gQ l (cd l (bl l))).1=s:=by rw[<- e1,hq];exact nt ts
 have hsl:s.length<=9:=by
  have:=dI g0 s0;rw[hs] at this;omega
 obtain⟨s1,_⟩:=pz (K:=100000) h.den dg g0 tg hb (by decide);rw[hq] at s1;refine⟨hd,g0,eg,by rw[eg];exact⟨by omega,by omega,h.trm,tg,g0,h.den,dg,hb⟩,?_,?_,by rw[eg,e3];exact ts,by rw[eg,e3];omega,by rw[eg,e3];exact s1⟩;·unfold nX bO;rw[if_neg l0,if_neg l0,eg,e3,hq,yN ts]
 ·unfold bO;rw[if_neg l0,hq];exact ea ts
theorem U5{p:List (List UInt8)}(h:WhR p):∃l,p=txP l/\l.length<=20/\Trm l/\Den RK l:=⟨nl p,h.1.symm,by rw[dN];exact h.2.1,h.2.2⟩
theorem OC(l:List Rat): [49]=Lib.itoa ((ez l 0:Nat):Int)/\ [48]=Lib.itoa ((fk l 0:Nat):Int)/\(0:Int)=((0:Nat):Int):=⟨by show _=Lib.itoa ((1:Nat):Int);decide+kernel,by show _=Lib.itoa ((0:Nat):Int);decide+kernel,rfl⟩
theorem fC{v:Int}{n:Nat}(h:lw v<=1000000)(hn:10000000<=n):RS n (Lib.itoa v):=(uL h).mono' (by omega)
theorem BD{l:List Rat}{k:Nat}(hk:k<l.length):tN (nth .str (txP l) (k:Int))=Lib.itoa (cf l k).num/\tD (nth .str (txP l) (k:Int))=Lib.itoa ((cf l k).den:Int):=by
 rw[oy hk];obtain⟨h1,h2,_⟩:=dJ (cf l k);exact⟨h1,h2⟩
theorem BE{l:List Rat}(hd:Den RK l)(k:Nat):lw (ez l k:Int)<=1000000/\lw (fk l k:Int)<=1000000/\lw (cf l k).num<=1000000/\lw ((cf l k).den:Int)<=1000000:=by
 have e:RK=450000:=rfl;have h1:=RU hd k;have h2:=Ge hd.lq k;have h3:=gg hd.lq hd.pos k;have h4:=dW (cf l k);have h5:=dX (cf l k);omega
theorem U6{l:List Rat}(hd:Den RK l)(k:Nat):lw (ca (ez l k:Int) ((cf l k).den:Int))<=1000000/\ca (ez l k:Int) ((cf l k).den:Int)≠0:=by
 have hne:((cf l k).den:Int)≠0:=by have:=(cf l k).den_nz;omega
 exact⟨Nat.le_trans (gH (po hne)) (BE hd k).2.2.2,by have:=ue (n:=(ez l k:Int)) hne;omega⟩
theorem OD{l:List Rat}(hd:Den RK l){k:Nat}(hk:k<l.length):(0<=(k:Int)/\(k:Int)<((List.length (txP l):Nat):Int))/\(nth Ty.str (txP l) (k:Int)).length<=QL:=by
 rw[aR,oy hk];have h3:=iw (gg hd.lq hd.pos k);have e:RK=450000:=rfl;exact⟨by omega,by unfold QL;omega⟩
theorem OE{l:List Rat}(hd:Den RK l){k:Nat}(hk:k<l.length):(RS 1000000000 (Lib.itoa (ez l k:Int))/\RS 1000000000 (tD (nth Ty.str (txP l) (k:Int))))/\RS 1000000000 (tD (nth Ty.str (txP l) (k:Int)))/\
  RS 1000000000 (Lib.itoa (ca (ah (Lib.itoa (ez l k:Int))) (ah (tD (nth Ty.str (txP l) (k:Int))))))/\ah (Lib.itoa (ca (ah (Lib.itoa (ez l k:Int))) (ah (tD (nth Ty.str (txP l) (k:Int))))))≠0:=by
 obtain⟨h1,h2,h3,h4⟩:=BE hd k;obtain⟨g1,g2⟩:=U6 hd k;rw[(BD hk).2,(aF _).2,(aF _).2,(aF _).2];exact⟨⟨fC h1 (by decide),fC h4 (by decide)⟩,fC h4 (by decide),fC g1 (by decide),g2⟩
theorem OG{l:List Rat}(hd:Den RK l){k:Nat}(hk:k<l.length):RS 20000000000 (Lib.itoa (ez l k:Int))/\RS 20000000000 (Lib.itoa (bN (ah (tD (nth Ty.str (txP l) (k:Int)))) (ah (Lib.itoa (ca (ah (Lib.itoa (ez l k:Int))) (ah (tD (nth Ty.str (txP l) (k:Int))))))))):=by
 obtain⟨h1,h2,h3,h4⟩:=BE hd k;obtain⟨g1,g2⟩:=U6 hd k;rw[(BD hk).2,(aF _).2,(aF _).2,(aF _).2];exact⟨fC h1 (by decide),fC (Nat.le_trans (gH (nr g2).1) h4) (by decide)⟩
theorem OH{l:List Rat}(hd:Den RK l){k:Nat}(hk:k<l.length):RS 1000000000 (Lib.itoa (fk l k:Int))/\RS 1000000000 (tN (nth Ty.str (txP l) (k:Int))):=by
 obtain⟨h1,h2,h3,h4⟩:=BE hd k;rw[(BD hk).1];exact⟨fC h2 (by decide),fC h3 (by decide)⟩
theorem Kj{l:List Rat}{k:Nat}(hl:l.length<=20)(hk:k<l.length):∃z:Nat,Lib.itoa (ah (Lib.itoa (ez l k:Int))*ah (Lib.itoa (bN (ah (tD (nth Ty.str (txP l) (k:Int)))) (ah (Lib.itoa (ca (ah (Lib.itoa (ez l k:Int))) (ah (tD (nth Ty.str (txP l) (k:Int))))))))))=Lib.itoa (ez l z:Int)/\
  Lib.itoa (ca (ah (Lib.itoa (fk l k:Int))) (ah (tN (nth Ty.str (txP l) (k:Int)))))=Lib.itoa (fk l z:Int)/\IntKind.i64.wrap ((k:Int)+1)=(z:Int)/\z<=l.length/\l.length-z<l.length-k:=by
 refine⟨k+1,?_,?_,wo,hk,by omega⟩;·rw[(BD hk).2,(aF _).2,(aF _).2,(aF _).2,(aF _).2,Ka]
 ·rw[(BD hk).1,(aF _).2,(aF _).2,Kb]
theorem T6{l:List Rat}{k:Nat}(g:k<=l.length)(hk:¬k<l.length):Lib.itoa (ez l k:Int)=Lib.itoa (ez l l.length:Int)/\Lib.itoa (fk l k:Int)=Lib.itoa (fk l l.length:Int)/\(0:Int)=((0:Nat):Int)/\64<ioB/\txP []=[]:=by
 rw[show k=l.length by omega];exact⟨rfl,rfl,rfl,by unfold ioB;omega,rfl⟩
theorem OI{l:List Rat}:Rat.divInt (ah (Lib.itoa (ez l l.length:Int))) (ah (Lib.itoa (fk l l.length:Int)))=fB l:=by
 rw[(aF _).2,(aF _).2];rfl
theorem Kk{l:List Rat}(ht:Trm l)(hd:Den RK l){j:Nat}(hj:j<l.length):(0<=(j:Int)/\(j:Int)<((List.length (txP l):Nat):Int))/\MkR (Lib.itoa (ez l l.length:Int)) (Lib.itoa (fk l l.length:Int))/\
  (GQ QK (nth Ty.str (txP l) (j:Int))/\GQ QK (aG (Rat.divInt (ah (Lib.itoa (ez l l.length:Int))) (ah (Lib.itoa (fk l l.length:Int))))))/\
  (aG (aU (nth Ty.str (txP l) (j:Int))*aU (aG (Rat.divInt (ah (Lib.itoa (ez l l.length:Int))) (ah (Lib.itoa (fk l l.length:Int))))))).length<=QL:=by
 have l0:l≠[]:=by rintro rfl;simp at hj
 have hc:=uT ht l0;obtain⟨h1,h2,_,_⟩:=BE hd l.length;have h3:=gg hd.lq hd.pos j;have e:RK=450000:=rfl;have e2:QK=10000000:=rfl;have e3:QL=1000000000:=rfl;have h4:lq (fB l)<=1000000:=by
  have:=kx (ez l l.length:Int) (fk l l.length:Int) (by omega);unfold fB;omega
 have h5:=lD (cf l j) (fB l);have h6:=iw (x:=cf l j*fB l) (k:=2000000) (by omega);rw[OI,oy hj,bz,bz,aR];exact⟨by omega,⟨fC h1 (by decide),fC h2 (by decide),by rw[(aF _).2];omega⟩,⟨cG (by omega),cG (by omega)⟩,by omega⟩
theorem Kl{l:List Rat}(hl:l.length<=20)(ht:Trm l)(hd:Den RK l){j:Nat}(hj:j<l.length):∃z:Nat,IntKind.i64.wrap ((j:Int)+1)=(z:Int)/\txP (List.take j (cb l))++ [tN (aG (aU (nth Ty.str (txP l) (j:Int))*aU (aG (Rat.divInt (ah (Lib.itoa (ez l l.length:Int))) (ah (Lib.itoa (fk l l.length:Int)))))))]=txP (List.take z (cb l))/\z<=l.length/\l.length-z<l.length-j:=by
 refine⟨j+1,wo,?_,hj,by omega⟩;have hz:=sl hd ht;have hjw:j<(cb l).length:=by rw[fy];exact hj
 rw[OI,oy hj,bz,bz,List.take_succ_eq_append_getElem hjw,kR,(dJ _).1];have e:(cb l)[j]=cf l j*fB l:=by
  have:=iO (fB l) l j;rw[<- this];show _=cf (cb l) j;unfold cf;rw[List.getD_eq_getElem?_getD,List.getElem?_eq_getElem hjw];rfl
 rw[<- e];have h1:=hz.one _ (List.getElem_mem hjw);congr 2;unfold aG;rw[if_pos h1]
theorem T7{l:List Rat}{j:Nat}(hj:¬j<l.length):txP (List.take j (cb l))=txP (cb l):=by
 rw[List.take_of_length_le (by rw[fy];omega)]
theorem Ea{l:List Rat}(hl:l.length<=20)(j:Nat):Cm.Roomy 1 ((txP (List.take j (cb l))).length+1):=kA (by rw[aR,List.length_take,fy];omega)
theorem T8{p:List (List UInt8)}(h:Sa p):∃l,p=txP l/\l.length<=20/\Trm l/\∀x∈l,lq x<=RK:=⟨nl p,h.1.symm,by rw[dN];exact h.2.1,h.2.2⟩
theorem one_num:aU [49]=1:=by decide+kernel
theorem T9:GQ QK [49]:=by
 have h:aG 1=[49]:=by decide+kernel
 rw[<- h];exact cG (by unfold lq QK;show max (lw 1) (lw 1)<=_;rw[kv];decide)
theorem Km{l:List Rat}(hl:l.length<=20)(ht:Trm l)(hK:∀x∈l,lq x<=RK)(h0:l≠[]):(0<=IntKind.i64.wrap (((List.length (txP l):Nat):Int)-1)/\IntKind.i64.wrap (((List.length (txP l):Nat):Int)-1)<((List.length (txP l):Nat):Int))/\
  (GQ QK [49]/\GQ QK (nth Ty.str (txP l) (IntKind.i64.wrap (((List.length (txP l):Nat):Int)-1)))/\aU (nth Ty.str (txP l) (IntKind.i64.wrap (((List.length (txP l):Nat):Int)-1)))≠0)/\
  GQ QK2 (aG (aU [49]/aU (nth Ty.str (txP l) (IntKind.i64.wrap (((List.length (txP l):Nat):Int)-1)))))/\GL QK2 (txP l)/\(txP l).length<=1000000:=by
 have hp:=List.length_pos_iff.2 h0;have e:RK=450000:=rfl;have e2:QK=10000000:=rfl;have e3:QK2=4000000:=rfl;have h1:lq (aB l)<=RK:=by rw[bD hp];exact gg hK (by omega) _
 have h2:=ov 1 (aB l);have h3:lq (1:Rat)=1:=by unfold lq;show max (lw 1) (lw 1)=1;rw[kv];decide
 rw[aR,kk hp (by omega),bz,one_num,bU (by omega)];exact⟨by omega,⟨T9,cG (by omega),ht h0⟩,cG (by omega),fI fun x hx=>by have:=hK x hx;omega,by omega⟩
theorem OJ{l:List Rat}(hl:l.length<=20)(h0:l≠[]):txP (b6 (aU (aG (aU [49]/aU (nth Ty.str (txP l) (IntKind.i64.wrap (((List.length (txP l):Nat):Int)-1)))))) l)=txP (pK l):=by
 rw[aR,kk (List.length_pos_iff.2 h0) (by omega),bz,bz,one_num];unfold pK;rw[if_neg h0]
theorem Kn{p:List (List UInt8)}(hl:p.length<=1000){k:Nat}(hk:k<p.length):(0<=(k:Int)/\(k:Int)<((List.length p:Nat):Int))/\Cm.Roomy 1 ((List.take k p).length+1):=⟨by omega,kA (by rw[List.length_take];omega)⟩
theorem Eb{p:List (List UInt8)}(hl:p.length<=1000){k:Nat}(hk:k<p.length):∃z:Nat,IntKind.i64.wrap ((k:Int)+1)=(z:Int)/\List.take k p++ [nth Ty.str p (k:Int)]=List.take z p/\z<=p.length/\p.length-z<p.length-k:=by
 refine⟨k+1,wo,?_,hk,by omega⟩;rw[eu (t:= .str) hk,List.take_succ_eq_append_getElem hk]
theorem yR{y m:List Rat}(hly:y.length<=20)(hl:m.length<=y.length)(hm:0<m.length):IntKind.i64.wrap (((List.length (txP y):Nat):Int)-1)=((y.length-1:Nat):Int):=by
 rw[aR,bU (by omega)];omega
theorem Vr{y m:List Rat}{j:Nat}(hly:y.length<=20)(hl:m.length<=y.length)(hm:0<m.length)(h:(j:Int)<IntKind.i64.wrap (((List.length (txP y):Nat):Int)-1)):j<y.length-1:=by
 rw[yR hly hl hm] at h;omega
theorem Vs{y m:List Rat}{j:Nat}(hly:y.length<=20)(hl:m.length<=y.length)(hm:0<m.length)(h:¬(j:Int)<IntKind.i64.wrap (((List.length (txP y):Nat):Int)-1)):¬j<y.length-1:=by
 rw[yR hly hl hm] at h;omega
theorem iY{b:Nat}{l:List Rat}(h:Zb b l){k:Nat}(hk:k<l.length):∃n:Int,lw n<=b/\cf l k=(n:Rat)/\nth Ty.str (txP l) (k:Int)=Lib.itoa n:=by
 obtain⟨n,h1,h2⟩:=h k;exact⟨n,h1,h2,by rw[oy hk,h2,ix]⟩
theorem mO.z{m T l:List Rat}{c:Nat}(h:mO m T c l):Zb RK l:=by
 obtain⟨b,b1,b2⟩:=h.sz;exact b1.mono (by omega)
theorem BF{y m:List Rat}(hly:y.length<=20)(hl:m.length<=y.length):IntKind.i64.wrap (((List.length (txP y):Nat):Int)-((List.length (txP m):Nat):Int))=((y.length-m.length:Nat):Int)/\(0:Int)=((0:Nat):Int)/\59<ioB/\txP (eb m y 0)=[]:=by
 rw[aR,aR,wo];exact⟨by omega,rfl,by unfold ioB;omega,rfl⟩
theorem BG{k n:Nat}(h:k<=20)(hn:n<=k):IntKind.i64.wrap ((k:Int)-(n:Int))=((k-n:Nat):Int):=by
 rw[wo];omega
theorem jw{l:List Rat}(h:0<l.length)(hl:l.length<=20):IntKind.i64.wrap (((List.length (txP l):Nat):Int)-1)=((l.length-1:Nat):Int):=yR hl (m:=l) (Nat.le_refl _) h
theorem OK{y m:List Rat}{j:Nat}(zy:Zb RK y)(zm:Zb RK m)(hly:y.length<=20)(hl:m.length<=y.length)(hm:0<m.length)(hj:j<y.length-1):(0<=(j:Int)/\(j:Int)<((List.length (txP y):Nat):Int))/\
  (0<=IntKind.i64.wrap (((List.length (txP m):Nat):Int)-1)/\IntKind.i64.wrap (((List.length (txP m):Nat):Int)-1)<((List.length (txP m):Nat):Int))/\
  RS 20000000000 (nth Ty.str (txP y) (j:Int))/\RS 20000000000 (nth Ty.str (txP m) (IntKind.i64.wrap (((List.length (txP m):Nat):Int)-1))):=by
 rw[jw hm (by omega),aR,aR];obtain⟨a,a1,_,a3⟩:=iY zy (k:=j) (by omega);obtain⟨b,b1,_,b3⟩:=iY zm (k:=m.length-1) (by omega);have e:RK=450000:=rfl;rw[a3,b3];exact⟨by omega,by omega,fC (by omega) (by decide),fC (by omega) (by decide)⟩
theorem OL{y m:List Rat}{j:Nat}(zy:Zb RK y)(zm:Zb RK m)(hly:y.length<=20)(hl:m.length<=y.length)(hm:0<m.length)(hj:j<y.length-1)(hk:y.length-m.length<=j):(0<=IntKind.i64.wrap (((List.length (txP y):Nat):Int)-1)/\IntKind.i64.wrap (((List.length (txP y):Nat):Int)-1)<((List.length (txP y):Nat):Int))/\
  (0<=IntKind.i64.wrap ((j:Int)-((y.length-m.length:Nat):Int))/\IntKind.i64.wrap ((j:Int)-((y.length-m.length:Nat):Int))<((List.length (txP m):Nat):Int))/\
  (RS 20000000000 (nth Ty.str (txP y) (IntKind.i64.wrap (((List.length (txP y):Nat):Int)-1)))/\RS 20000000000 (nth Ty.str (txP m) (IntKind.i64.wrap ((j:Int)-((y.length-m.length:Nat):Int)))))/\
  RS 10000000000 (Lib.itoa (ah (nth Ty.str (txP y) (j:Int))*ah (nth Ty.str (txP m) (IntKind.i64.wrap (((List.length (txP m):Nat):Int)-1)))))/\
  RS 10000000000 (Lib.itoa (ah (nth Ty.str (txP y) (IntKind.i64.wrap (((List.length (txP y):Nat):Int)-1)))*ah (nth Ty.str (txP m) (IntKind.i64.wrap ((j:Int)-((y.length-m.length:Nat):Int)))))):=by
 rw[jw hm (by omega),jw (l:=y) (by omega) hly,BG (by omega) hk,aR,aR];obtain⟨a,a1,_,a3⟩:=iY zy (k:=j) (by omega);obtain⟨b,b1,_,b3⟩:=iY zm (k:=m.length-1) (by omega);obtain⟨c,c1,_,c3⟩:=iY zy (k:=y.length-1) (by omega);obtain⟨d,d1,_,d3⟩:=iY zm (k:=j-(y.length-m.length)) (by omega);have e:RK=450000:=rfl;have h1:=bV a b;have h2:=bV c d;rw[a3,b3,c3,d3,(aF _).2,(aF _).2,(aF _).2,(aF _).2];exact⟨by omega,by omega,⟨fC (by omega) (by decide),fC (by omega) (by decide)⟩,fC (by omega) (by decide),fC (by omega) (by decide)⟩
theorem Gp{y m:List Rat}{j:Nat}(zy:Zb RK y)(zm:Zb RK m)(hly:y.length<=20)(hl:m.length<=y.length)(hm:0<m.length)(hj:j<y.length-1)(hk:y.length-m.length<=j):
  Lib.itoa (ah (Lib.itoa (ah (nth Ty.str (txP y) (j:Int))*ah (nth Ty.str (txP m) (IntKind.i64.wrap (((List.length (txP m):Nat):Int)-1)))))-ah (Lib.itoa (ah (nth Ty.str (txP y) (IntKind.i64.wrap (((List.length (txP y):Nat):Int)-1)))*ah (nth Ty.str (txP m) (IntKind.i64.wrap ((j:Int)-((y.length-m.length:Nat):Int)))))))=aG (mM m y j):=by
 rw[jw hm (by omega),jw (l:=y) (by omega) hly,BG (by omega) hk];obtain⟨a,_,a2,a3⟩:=iY zy (k:=j) (by omega);obtain⟨b,_,b2,b3⟩:=iY zm (k:=m.length-1) (by omega);obtain⟨c,_,c2,c3⟩:=iY zy (k:=y.length-1) (by omega);obtain⟨d,_,d2,d3⟩:=iY zm (k:=j-(y.length-m.length)) (by omega);rw[a3,b3,c3,d3,(aF _).2,(aF _).2,(aF _).2,(aF _).2,(aF _).2,(aF _).2];unfold mM;rw[if_pos hk,a2,d2,bD hm,bD (l:=y) (by omega),b2,c2,<- ix,Rat.intCast_sub,Rat.intCast_mul,Rat.intCast_mul]
theorem Gq{y m:List Rat}{j:Nat}(zy:Zb RK y)(zm:Zb RK m)(hly:y.length<=20)(hl:m.length<=y.length)(hm:0<m.length)(hj:j<y.length-1)(hk:¬y.length-m.length<=j):
  Lib.itoa (ah (nth Ty.str (txP y) (j:Int))*ah (nth Ty.str (txP m) (IntKind.i64.wrap (((List.length (txP m):Nat):Int)-1))))=aG (mM m y j):=by
 rw[jw hm (by omega)];obtain⟨a,_,a2,a3⟩:=iY zy (k:=j) (by omega);obtain⟨b,_,b2,b3⟩:=iY zm (k:=m.length-1) (by omega);rw[a3,b3,(aF _).2,(aF _).2];unfold mM;rw[if_neg hk,a2,bD hm,b2,<- ix,Rat.intCast_mul]
theorem OM{y m:List Rat}{j:Nat}(hly:y.length<=20)(hj:j<y.length-1):∃z:Nat,IntKind.i64.wrap ((j:Int)+1)=(z:Int)/\txP (eb m y j)++ [aG (mM m y j)]=txP (eb m y z)/\z<=y.length-1/\y.length-1-z<y.length-1-j:=by
 refine⟨j+1,wo,?_,hj,by omega⟩;rw[DY,kR]
theorem Ko{y m T:List Rat}{c j:Nat}(g1:mO m T c y)(zm:Zb c m)(n3:Zb RK (aM (eb m y (y.length-1))))(hl:m.length<=y.length)(hm:0<m.length)(g2:j<=y.length-1)(hj:¬j<y.length-1):(GL QK (txP (eb m y j))/\(txP (eb m y j)).length<=1000000000)/\WhR (txP (aM (nl (txP (eb m y j))))):=by
 have e:RK=450000:=rfl;have e2:QK=10000000:=rfl;have hly:=g1.la;obtain rfl:j=y.length-1:=by omega
 obtain⟨b,b1,b2⟩:=g1.sz;have h1:=yM b1 zm (y.length-1);have h2:c+1<=(y.length+1-m.length)*(c+1):=Nat.le_mul_of_pos_left _ (by omega);have h3:=nz m y (y.length-1);have h4:=cN (eb m y (y.length-1));refine⟨⟨fI fun x hx=>?_,by rw[aR];omega⟩,?_⟩;·have:=h1.lq (by omega) x hx;omega
 ·rw[bJ];exact⟨by rw[bJ],by rw[aR];omega,by rw[bJ];exact cL _,by rw[bJ];exact n3.den (by decide)⟩
theorem Ua{y m T:List Rat}{c j:Nat}(n1:mO m T c (iQ m y))(n2:(iQ m y).length<y.length)(g2:j<=y.length-1)(hj:¬j<y.length-1):∃z,txP (cb (nl (txP (aM (nl (txP (eb m y j)))))))=txP z/\mO m T c z/\z.length<y.length:=by
 obtain rfl:j=y.length-1:=by omega
 exact⟨iQ m y,by rw[bJ,bJ];rfl,n1,n2⟩
theorem Ub{y m T:List Rat}{c:Nat}(g1:mO m T c y)(hl:¬m.length<=y.length):txP y=txP T:=by
 rw[<- g1.go,qU hl]
theorem SP{p:List (List UInt8)}(h:GR 10 p):WhR p:=⟨h.1,by have:=h.len;omega,h.2.trm,h.2.den.mono (by decide)⟩
theorem Kq{a b:List Rat}(g:jP a b)(hb:b≠[]):Oy (txP a) (txP b):=by
 obtain⟨_,_,_,h4⟩:=g.next hb;exact⟨by rw[bJ],by rw[bJ],by rw[bJ,bJ];exact⟨g.la,g.lb,g.ta,g.tb,hb,h4⟩⟩
theorem ON{a b:List Rat}(g:jP a b):(txP a).length<=1000/\Sa (txP a):=by
 have:=g.la;exact⟨by rw[aR];omega,by rw[bJ],by rw[aR];omega,by rw[bJ];exact g.ta,by rw[bJ];exact g.zk.1.lq (by decide)⟩
theorem OO{a b p q:List Rat}(hb:b=[])(g:nL a b=nL (cb p) (cb q)):txP (pK (nl (txP a)))=txP (gO p q):=by
 subst hb;rw[bJ];unfold gO;rw[<- g];rfl
theorem Ec{y m:List Rat}(hy:y.length<=20)(hlm:m.length<=20)(hl:m.length<=y.length)(hm:m≠[])(tm:Trm m)(s1:∀x∈y,lq x<=100000)(s2:∀x∈m,lq x<=100000):(0<=IntKind.i64.wrap (((List.length (txP y):Nat):Int)-1)/\IntKind.i64.wrap (((List.length (txP y):Nat):Int)-1)<((List.length (txP y):Nat):Int))/\
  (0<=IntKind.i64.wrap (((List.length (txP m):Nat):Int)-1)/\IntKind.i64.wrap (((List.length (txP m):Nat):Int)-1)<((List.length (txP m):Nat):Int))/\
  GQ QK (nth Ty.str (txP y) (IntKind.i64.wrap (((List.length (txP y):Nat):Int)-1)))/\GQ QK (nth Ty.str (txP m) (IntKind.i64.wrap (((List.length (txP m):Nat):Int)-1)))/\aU (nth Ty.str (txP m) (IntKind.i64.wrap (((List.length (txP m):Nat):Int)-1)))≠0:=by
 have hp:=List.length_pos_iff.2 hm;have e2:QK=10000000:=rfl;have h1:lq (aB y)<=100000:=by rw[bD (by omega)];exact gg s1 (by omega) _
 have h2:lq (aB m)<=100000:=by rw[bD hp];exact gg s2 (by omega) _
 rw[aR,aR,kk (by omega) (by omega),kk hp (by omega),bz,bU (by omega),bU (by omega)];exact⟨by omega,by omega,cG (by omega),cG (by omega),tm hm⟩
theorem OP{y m:List Rat}(hy:y.length<=20)(hlm:m.length<=20)(hl:m.length<=y.length)(hm:m≠[]):aG (aU (nth Ty.str (txP y) (IntKind.i64.wrap (((List.length (txP y):Nat):Int)-1)))/aU (nth Ty.str (txP m) (IntKind.i64.wrap (((List.length (txP m):Nat):Int)-1))))=aG (aB y/aB m)/\
  IntKind.i64.wrap (((List.length (txP y):Nat):Int)-((List.length (txP m):Nat):Int))=((y.length-m.length:Nat):Int):=by
 have hp:=List.length_pos_iff.2 hm;refine⟨?_,(BF hy hl).1⟩;rw[aR,aR,kk (by omega) (by omega),kk hp (by omega),bz,bz]
theorem yS(x:Rat):nl [aG x]=[x]:=by show [aU (aG x)]=_;rw[bz]
theorem Ed{q p s:List Rat}{c:Nat}{P:List Rat×List Rat}(g:oG q c P p s)(dq:Den c q)(hl:q.length<=p.length):(GL QK [aG (aB p/aB q)]/\0<=((p.length-q.length:Nat):Int)/\((p.length-q.length:Nat):Int)<=1000000)/\
  GL QK2 (txP s)/\GL QK2 (txP (dt ((p.length-q.length:Nat):Int).toNat (nl [aG (aB p/aB q)])))/\(txP s).length<=1000000/\(txP (dt ((p.length-q.length:Nat):Int).toNat (nl [aG (aB p/aB q)]))).length<=1000000:=by
 obtain⟨s1,s2,s3,s4⟩:=g.sizes dq hl;have e2:QK=10000000:=rfl;have e3:QK2=4000000:=rfl;have h1:=g.lp;have h2:=g.ls;have h3:=kS (p.length-q.length) [aB p/aB q];rw[List.length_singleton] at h3;rw[yS,Int.toNat_natCast,aR,aR];refine⟨⟨fun x hx=>?_,by omega,by omega⟩,fI fun x hx=>by have:=s4 x hx;omega,fI fun x hx=>?_,by omega,by omega⟩;·rw[List.mem_singleton.1 hx];exact cG (by omega)
 ·have:=mL (K:=100000) (by omega) (fun y hy=>by rw[List.mem_singleton.1 hy];exact s3) x hx;omega
theorem Ee{q p s:List Rat}{c:Nat}{P:List Rat×List Rat}(g:oG q c P p s)(dq:Den c q)(hl:q.length<=p.length):(GQ QK2 (aG (aB p/aB q))/\GL QK2 (txP q)/\(txP q).length<=1000000)/\
  (GL QK (txP (b6 (aU (aG (aB p/aB q))) (nl (txP q))))/\0<=((p.length-q.length:Nat):Int)/\((p.length-q.length:Nat):Int)<=1000000/\(txP (b6 (aU (aG (aB p/aB q))) (nl (txP q)))).length<=1000000)/\
  GL QK2 (txP p)/\GL 1000000 (txP (dt ((p.length-q.length:Nat):Int).toNat (nl (txP (b6 (aU (aG (aB p/aB q))) (nl (txP q)))))))/\(txP p).length<=1000000/\
  (txP (dt ((p.length-q.length:Nat):Int).toNat (nl (txP (b6 (aU (aG (aB p/aB q))) (nl (txP q))))))).length<=1000000:=by
 obtain⟨s1,s2,s3,s4⟩:=g.sizes dq hl;have e2:QK=10000000:=rfl;have e3:QK2=4000000:=rfl;have h1:=g.lp;have h2:=g.ls;have h3:=kS (p.length-q.length) (b6 (aB p/aB q) q);have h4:=nv (aB p/aB q) q;have h5:=pC s3 s2;have h6:=mL (k:=p.length-q.length) (by omega) h5;simp only[bJ,bz,Int.toNat_natCast,aR];exact⟨⟨cG (by omega),fI fun x hx=>by have:=s2 x hx;omega,by omega⟩,⟨fI fun x hx=>by have:=h5 x hx;omega,by omega,by omega,by omega⟩,fI fun x hx=>by have:=s1 x hx;omega,fI fun x hx=>by have:=h6 x hx;omega,by omega,by omega⟩
theorem OQ{q p s:List Rat}{c:Nat}{P:List Rat×List Rat}(n1:oG q c P (kU q p) (uY q p s))(n2:(kU q p).length<p.length):∃a,txP (br (fun x1 x2=>x1-x2) (nl (txP p)) (nl (txP (dt ((p.length-q.length:Nat):Int).toNat (nl (txP (b6 (aU (aG (aB p/aB q))) (nl (txP q)))))))))=txP a/\
  ∃x,txP (br (fun x1 x2=>x1+x2) (nl (txP s)) (nl (txP (dt ((p.length-q.length:Nat):Int).toNat (nl [aG (aB p/aB q)])))))=txP x/\oG q c P a x/\a.length<p.length:=by
 simp only[bJ,yS,bz,Int.toNat_natCast];exact⟨kU q p,rfl,uY q p s,rfl,n1,n2⟩
theorem Kr{q p s:List Rat}{c:Nat}{P:List Rat×List Rat}(g:oG q c P p s)(hl:¬q.length<=p.length):txP s=txP P.1/\txP p=txP P.2:=by
 rw[g.fin hl];exact⟨rfl,rfl⟩
theorem Ef{p:List (List UInt8)}:(1:Int)=((1:Nat):Int)/\21<ioB/\txP (ir (nl p) 1)=[]:=⟨rfl,by unfold ioB;omega,rfl⟩
theorem OR(l:List Rat)(k:Nat):(ir l k).length=k-1:=by simp[ir]
theorem Uc{k:Nat}(hk:k<=100):lq (Rat.divInt (k:Int) 1)<=3:=Nc (by unfold I64;omega)
theorem Ks{p:List (List UInt8)}{k:Nat}(hp:GL 10000 p)(hl:p.length<=100)(hk:k<p.length):(I64 (k:Int)/\I64 1/\(1:Int)≠0)/\(0<=(k:Int)/\(k:Int)<((List.length p:Nat):Int))/\(GQ QK (aG (Rat.divInt (k:Int) 1))/\GQ QK (nth Ty.str p (k:Int)))/\
  live [some (txP (ir (nl p) k))] 0=true/\Cm.Roomy 1 ((rowOf [some (txP (ir (nl p) k))] 0).length+1):=by
 have e2:QK=10000000:=rfl;have h1:=Uc (k:=k) (by omega);have h2:=pB hp (by omega) k;rw[gN hp hk];refine⟨⟨by unfold I64;omega,by unfold I64;omega,by decide⟩,by omega,⟨cG (by omega),cG (by omega)⟩,rfl,kA ?_⟩;show (txP (ir (nl p) k)).length+1<=_;rw[aR,OR];omega
theorem Eg{p:List (List UInt8)}{k:Nat}(hp:GL 10000 p)(hl:p.length<=100)(h1:1<=k)(hk:k<p.length):∃z:Nat,IntKind.i64.wrap ((k:Int)+1)=(z:Int)/\rowOf [some (txP (ir (nl p) k))] 0++ [aG (aU (aG (Rat.divInt (k:Int) 1))*aU (nth Ty.str p (k:Int)))]=txP (ir (nl p) z)/\1<=z/\z<=max (List.length p) 1/\List.length p-z<List.length p-k:=by
 refine⟨k+1,wo,?_,by omega,by omega,by omega⟩;obtain⟨j,rfl⟩:∃j,k=j+1:=⟨k-1,by omega⟩;show txP (ir (nl p) (j+1))++_=_;rw[gN hp hk,bz,bz,wL,kR,Rat.mul_comm]
theorem OS{p:List (List UInt8)}{k:Nat}(h1:1<=k)(h2:k<=max p.length 1)(hk:¬k<p.length):txP (ir (nl p) k)=txP (bl (nl p)):=by
 unfold bl;rw[dN];by_cases h:p.length=0
 ·have:k=1:=by omega
  subst this;rw[h];rfl
 ·rw[show k=p.length by omega]
theorem Kt{p:List (List UInt8)}(h:GR 9 p)(h0:p≠[]):(GL 10000 p/\List.length p<=100)/\(GR 10 p/\GR 10 (txP (bl (nl p))))/\OB p (txP (gO (nl p) (nl (txP (bl (nl p)))))):=by
 have l0:nl p≠[]:=fun e=>h0 (by rw[<- h.1,e];rfl);have hs:=Gn h.2 l0;have hl:=h.len;rw[bJ];exact⟨⟨h.gl (by decide),by omega⟩,⟨h.mono (by decide),U3 hs.der⟩,h.1,by rw[bJ],9,17,by rw[bJ];exact hs.div⟩
theorem OT{p:List (List UInt8)}(h:GR 9 p)(h0:p≠[]):Sa (txP (gQ (nl p) (nl (txP (gO (nl p) (nl (txP (bl (nl p)))))))).fst):=by
 have l0:nl p≠[]:=fun e=>h0 (by rw[<- h.1,e];rfl);have hs:=Gn h.2 l0;rw[bJ,bJ];exact⟨by rw[bJ],by rw[aR];exact hs.q2,by rw[bJ];exact hs.q1,by rw[bJ];exact fun x hx=>Nat.le_trans (hs.q3 x hx) (by decide)⟩
theorem OU{p:List (List UInt8)}(h:GR 9 p)(h0:p≠[]):txP (pK (nl (txP (gQ (nl p) (nl (txP (gO (nl p) (nl (txP (bl (nl p)))))))).fst)))=txP (nX (nl p)):=by
 have l0:nl p≠[]:=fun e=>h0 (by rw[<- h.1,e];rfl);rw[bJ,bJ,bJ];unfold nX;rw[if_neg l0]
theorem Eh{p q:List (List UInt8)}(hl:p.length<=9):(if gm (Value.slice none 0 0)=true then some [] else none)=some (txP (cV (nl p) (nl q) (List.length p-List.length p)))/\IntKind.i64.wrap (((List.length p:Nat):Int)-1)=((List.length p:Nat):Int)-1:=by
 refine⟨?_,wo⟩;rw[Nat.sub_self];rfl
theorem Ku{p q:List (List UInt8)}{k:Nat}(hp:GR 9 p)(hq:GR 9 q)(hk:k+1<=p.length):JZ (txP (cV (nl p) (nl q) (List.length p-(k+1)))) q/\(0<=((k+1:Nat):Int)-1/\((k+1:Nat):Int)-1<((List.length p:Nat):Int))/\GL QK [nth Ty.str p (((k+1:Nat):Int)-1)]/\
  GL QK2 (txP (eH (nl (txP (cV (nl p) (nl q) (List.length p-(k+1))))) (nl q) (txP (cV (nl p) (nl q) (List.length p-(k+1)))).length))/\GL QK2 (txP (aM (nl [nth Ty.str p (((k+1:Nat):Int)-1)])))/\
  (txP (eH (nl (txP (cV (nl p) (nl q) (List.length p-(k+1))))) (nl q) (txP (cV (nl p) (nl q) (List.length p-(k+1)))).length)).length<=1000000/\(txP (aM (nl [nth Ty.str p (((k+1:Nat):Int)-1)]))).length<=1000000:=by
 have e2:QK=10000000:=rfl;have e3:QK2=4000000:=rfl;have hl:=hp.len;have hl2:=hq.len;have gp:=hp.gl (K:=9) (Nat.le_refl _);obtain⟨c1,c2⟩:=pE hp.2 hq.2 (by decide) (List.length p-(k+1)) (by omega);generalize cV (nl p) (nl q) (List.length p-(k+1))=s at*;have hd:1+(List.length p-(k+1))*(9+9+2)<=181:=by
  have:(List.length p-(k+1))*(9+9+2)<=9*(9+9+2):=Nat.mul_le_mul_right _ (by omega);omega
 have hs:s.length<=82:=by omega
 have hsq:∀x∈s,lq x<=181:=fun x hx=>Nat.le_trans (c1.lq x hx) hd;have hqq:∀x∈nl q,lq x<=181:=fun x hx=>Nat.le_trans (hq.2.den.lq x hx) (by decide);have m1:=yH (by decide) hsq hqq s.length;have m2:=uM s (nl q) s.length;have hk1:((k+1:Nat):Int)-1=(k:Int):=by omega
 have h3:=pB gp (by decide) k;rw[dN] at m2;rw[hk1,gN gp (by omega),bJ,yS,aR,aR,aR];have h4:=cN [cf (nl p) k];rw[List.length_singleton] at h4;have h5:s.length*(2*181+1)<=82*(2*181+1):=Nat.mul_le_mul_right _ hs;refine⟨⟨fI fun x hx=>Nat.le_trans (hsq x hx) (by decide),hq.gl (by decide),by rw[aR];omega,by omega⟩,by omega,fun x hx=>?_,fI fun x hx=>by have:=m1 x hx;omega,fI fun x hx=>?_,by omega,by omega⟩;·rw[List.mem_singleton.1 hx];exact cG (by omega)
 ·have:=List.mem_singleton.1 (iv x hx);rw[this];omega
theorem Ei{p q:List (List UInt8)}{k:Nat}(hp:GR 9 p)(hq:GR 9 q)(hk:k+1<=p.length):∃z:Nat,txP (br (fun x1 x2=>x1+x2) (nl (txP (eH (nl (txP (cV (nl p) (nl q) (List.length p-(k+1))))) (nl q) (txP (cV (nl p) (nl q) (List.length p-(k+1)))).length))) (nl (txP (aM (nl [nth Ty.str p (((k+1:Nat):Int)-1)])))))=txP (cV (nl p) (nl q) (List.length p-z))/\
  IntKind.i64.wrap (((k+1:Nat):Int)-1-1)=(z:Int)-1/\z<=List.length p/\z<k+1:=by
 have hl:=hp.len;have gp:=hp.gl (K:=9) (Nat.le_refl _);have hk1:((k+1:Nat):Int)-1=(k:Int):=by omega
 refine⟨k,?_,by rw[wo];omega,by omega,by omega⟩;rw[hk1,gN gp (by omega),bJ,bJ,yS,bJ,aR,F2 (xb _ _ _) hq.2.trm];rw[show List.length p-k=(List.length p-(k+1))+1 by omega];have e:cV (nl p) (nl q) (List.length p-(k+1)+1)=kN (cV (nl p) (nl q) (List.length p-(k+1))) (nl q) (cf (nl p) ((nl p).length-1-(List.length p-(k+1)))):=rfl;rw[e,dN,show List.length p-1-(List.length p-(k+1))=k by omega];rfl
theorem OV{p q:List (List UInt8)}:txP (cV (nl p) (nl q) (List.length p-0))=txP (fH (nl p) (nl q)):=by
 rw[Nat.sub_zero];unfold fH;rw[dN]
theorem Ej{p:List (List UInt8)}{x:List UInt8}(hl:p.length<=100): [48]=aG (au (List.drop (List.length p) (nl p)) (aU x))/\IntKind.i64.wrap (((List.length p:Nat):Int)-1)=((List.length p:Nat):Int)-1:=by
 refine⟨?_,wo⟩;rw[List.drop_of_length_le (by rw[dN];exact Nat.le_refl _),cH,nu]
theorem Kv{p:List (List UInt8)}{x:List UInt8}{k:Nat}(hp:GL 1000 p)(hl:p.length<=100)(hx:GQ 1000 x)(hk:k+1<=p.length):(GQ QK (aG (au (List.drop (k+1) (nl p)) (aU x)))/\GQ QK x)/\(0<=((k+1:Nat):Int)-1/\((k+1:Nat):Int)-1<((List.length p:Nat):Int))/\
  GQ QK (aG (aU (aG (au (List.drop (k+1) (nl p)) (aU x)))*aU x))/\GQ QK (nth Ty.str p (((k+1:Nat):Int)-1)):=by
 have e2:QK=10000000:=rfl;have hk1:((k+1:Nat):Int)-1=(k:Int):=by omega
 have h1:=px (l:=List.drop (k+1) (nl p)) (x:=aU x) (K:=1000) (fun c hc=>hp.lq c (List.mem_of_mem_drop hc)) hx.2;have h2:(List.drop (k+1) (nl p)).length*(2*1000+1)<=100*(2*1000+1):=Nat.mul_le_mul_right _ (by rw[List.length_drop,dN];omega);have h3:=lD (au (List.drop (k+1) (nl p)) (aU x)) (aU x);have h4:=pB hp (by decide) k;have h5:=hx.2;rw[hk1,gN hp (by omega),bz];exact⟨⟨cG (by omega),hx.1,by omega⟩,by omega,cG (by omega),cG (by omega)⟩
theorem Ek{p:List (List UInt8)}{x:List UInt8}{k:Nat}(hp:GL 1000 p)(hl:p.length<=100)(hk:k+1<=p.length):∃z:Nat,aG (aU (aG (aU (aG (au (List.drop (k+1) (nl p)) (aU x)))*aU x))+aU (nth Ty.str p (((k+1:Nat):Int)-1)))=aG (au (List.drop z (nl p)) (aU x))/\IntKind.i64.wrap (((k+1:Nat):Int)-1-1)=(z:Int)-1/\z<=List.length p/\z<k+1:=by
 have hk1:((k+1:Nat):Int)-1=(k:Int):=by omega
 refine⟨k,?_,by rw[wo];omega,by omega,by omega⟩;rw[hk1,gN hp (by omega),bz,bz,bz,Bz (l:=nl p) (k:=k) (by rw[dN];omega)]
theorem BH:Part []:=mN []
theorem Gr{f:List Rat->List Rat->List Rat}{a:List (List UInt8)}(h:¬bG a=0):cF f a []=[]/\cM f a []=40:=Gk fun e=>h e.1
structure Sd (a:List (List UInt8)):Prop where
 ga:GR 9 a
 gl:GL 10000 a
 le:List.length a<=100
 fd:FL (txP (bl (nl a)))
 fs:FL (txP (nX (nl a)))
 td:jQ (cF (fun x _=>bl x) a []) (cM (fun x _=>bl x) a []) (txP (bl (nl a)))=true
 ts:jQ (cF (fun x _=>bO x) a []) (cM (fun x _=>bO x) a []) (txP (nX (nl a)))=true
theorem mk_one{a:List (List UInt8)}(ha:Part a)(h:bG a=0):Sd a:=by
 have ga:=ha.gr h;have hl:=ga.len;obtain⟨t1,p1,s1⟩:=ha.sml h;generalize bj a=l at*;subst t1;have en:=bJ l;have hd:Sml 8 10 (bl l):=s1.der (by decide);have hd1:=hd.len;have pn:Pol []:=yG;have td:∀{f:List Rat->List Rat->List Rat} {r:List Rat},aM (f l [])=r->r.length<=41->jQ (cF f (txP l) []) (cM f (txP l) []) (txP r)=true:=fun hr hn=>xp p1 pn hr hn;rw[aR] at hl;refine⟨ga,ga.gl (by decide),by rw[aR];omega,by rw[bJ];exact Gj (K:=10) (by omega) hd.den.lq (by decide),?_,by rw[bJ];exact td (nt hd.trm) (by omega),?_⟩;all_goals by_cases l0:l=[]
 ·subst l0;rw[bJ];exact Gj (l:=[]) (K:=1) (by simp) (by simp) (by decide)
 ·have hs:=Gn s1 l0;have h1:=oC l;have h2:=hs.q3;have h3:=hs.q2;have:nX l=cy (gQ l (gO l (bl l))).1:=by unfold nX;rw[if_neg l0,yN hs.q1]
  rw[bJ,this];refine Gj (K:=300000) (by rw[bY];omega) (fun x hx=>?_) (by decide);obtain⟨y,hy,rfl⟩:=List.mem_map.1 hx;have hp:0<(gQ l (gO l (bl l))).1.length:=List.length_pos_of_mem hy;have h4:lq (aB (gQ l (gO l (bl l))).1)<=100000:=by rw[bD hp];exact gg h2 (by decide) _
  have h5:=ov y (aB (gQ l (gO l (bl l))).1);have h6:=h2 y hy;omega
 ·subst l0;rw[bJ];exact td rfl (by simp[nX])
 ·have hs:=Gn s1 l0;rw[bJ,hs.eq];have h1:=oC l;have h2:=s1.len;exact td (nt hs.trm) (by omega)
theorem OW{a:List (List UInt8)}(ha:Part a):bR (fun p _=>Sz QH p/\p.length<=1000) (fun x _=>bl x) a []:=by
 by_cases h:bG a=0
 ·obtain⟨t1,p1,s1⟩:=ha.sml h;have:=F5 p1;rwa [t1] at this
 ·exact yQ ha BH fun e=>h e.1
theorem OX{a:List (List UInt8)}(ha:Part a):bR (fun p _=>mE p) (fun x _=>bO x) a []:=by
 by_cases h:bG a=0
 ·obtain⟨t1,p1,s1⟩:=ha.sml h;have:=F6 s1 (by decide) (by decide) (by decide);rwa [t1] at this
 ·exact yQ ha BH fun e=>h e.1
theorem Kw{a b:List (List UInt8)}(ha:Part a)(hb:Part b):sj a b:=by
 refine⟨ha.short,hb.short,fun _=>?_⟩;by_cases h:bG a=0/\bG b=0;·obtain⟨t1,p1,s1⟩:=ha.sml h.1;obtain⟨t2,p2,s2⟩:=hb.sml h.2;have:=Bf s1 s2 p1 p2 (by decide) (by decide) (by decide) (by decide) (by decide);rwa [t1,t2] at this
 ·exact yQ ha hb h
theorem OY{a b:List (List UInt8)}(h:¬(bG a=0/\bG b=0)):i7 a b=[]/\kQ a b=40:=by
 have hl:¬jL a b:=fun hl=>h ⟨hl.1,hl.2.1⟩;obtain⟨h1,h2⟩:=Gk (f:=fH) h;unfold i7 kQ;rw[if_neg hl,if_neg hl];exact⟨h1,h2⟩
def lgB(a b:List (List UInt8)):Bool:=decide ((0:Int)<((List.length a:Nat):Int))&&decide ((0:Int)<((List.length b:Nat):Int))&&decide ((40:Int)<IntKind.i64.wrap (IntKind.i64.wrap (((List.length a:Nat):Int)-1)*IntKind.i64.wrap (((List.length b:Nat):Int)-1)))
theorem Ud{a b:List (List UInt8)}(h:bG a=0/\bG b=0):lgB a b=true↔jL a b:=by
 unfold lgB jL;simp only[Bool.and_eq_true,decide_eq_true_eq];constructor
 ·rintro⟨⟨h1,h2⟩,h3⟩;have k1:0<a.length:=by omega
  have k2:0<b.length:=by omega
  rw[qP h.1 h.2 k1 k2] at h3;exact⟨h.1,h.2,k1,k2,by omega⟩
 ·rintro⟨_,_,k1,k2,k3⟩;rw[qP h.1 h.2 k1 k2];exact⟨⟨by omega,by omega⟩,by omega⟩
structure Se (a b:List (List UInt8)):Prop where
 ga:GR 9 a
 gb:GR 9 b
 fc:FL (txP (fH (nl a) (nl b)))
 ll:(i7 a b).length<=QL
 long:lgB a b=true->i7 a b=[]/\kQ a b=3
 tc:lgB a b=false->jQ (i7 a b) (kQ a b) (txP (fH (nl a) (nl b)))=true
theorem Kx(a b:List (List UInt8)):(i7 a b).length<=QL:=by
 unfold i7;split;·simp
 ·exact xq _ _ _
theorem Ue{a b:List (List UInt8)}(ha:Part a)(hb:Part b)(h:bG a=0/\bG b=0):Se a b:=by
 have ga:=ha.gr h.1;have gb:=hb.gr h.2;obtain⟨t1,p1,s1⟩:=ha.sml h.1;obtain⟨t2,p2,s2⟩:=hb.sml h.2;have lg:=Ud h;generalize bj a=l at*;generalize bj b=m at*;subst t1;subst t2;have hl:=s1.len;have hm:=s2.len;obtain⟨c1,c2⟩:=pE s1 s2 (by decide) l.length (by omega);have h1:l.length*(9+9+2)<=9*(9+9+2):=Nat.mul_le_mul_right _ (by omega);have h2:l.length*9<=9*9:=Nat.mul_le_mul_right _ (by omega);refine⟨ga,gb,?_,Kx _ _,fun e=>?_,fun e=>?_⟩;·rw[bJ,bJ];exact Gj (K:=1000) (by unfold fH;omega) (fun x hx=>Nat.le_trans (c1.lq x hx) (by omega)) (by decide)
 ·have hc:=lg.1 e;unfold i7 kQ;rw[if_pos hc,if_pos hc];exact⟨rfl,rfl⟩
 ·have hc:¬jL (txP l) (txP m):=fun hc=>by rw[lg.2 hc] at e;exact absurd e (by decide)
  rw[bJ,bJ];unfold i7 kQ;rw[if_neg hc,if_neg hc];exact xp p1 p2 (nt (xb _ _ _)) (Oj fun hx=>hc ((Ok p1 p2).2 hx))
structure Ky (n:List UInt8):Prop where
 len:n.length<=1000
 ok:ck n=0->GQ 3 n
theorem OZ(x:List UInt8):Ky (x.take 20):=by
 have hl:(x.take 20).length<=20:=by rw[List.length_take];omega
 refine⟨by omega,fun h=>?_⟩;generalize x.take 20=q at*;obtain⟨h1,_⟩:=qM h (by unfold QL;omega);refine⟨h1,?_⟩;obtain⟨p1,p2,_⟩:=dJ (aU q);rw[h1] at p1 p2;have hN:=mA q;have hD:=mB q;rw[p1] at hN;rw[p2] at hD;have key:∀n:Int,(Lib.itoa n).length<=27->lw n<=3:=by
  intro n hn;have h1:=Di (aF n).1;rw[(aF n).2] at h1;refine jG ?_;have h2:(10:Nat)^(Lib.itoa n).length<=10^27:=Nat.pow_le_pow_right (by omega) hn;show _<(1000000000:Int)^3;omega
 exact Nat.max_le.2 ⟨key _ (by omega),key _ (by omega)⟩
theorem Kz(y:DQD):Ky (aG (iX y)):=⟨by have:=iw (xh y);omega,fun _=>cG (xh y)⟩
theorem Uf(x:List UInt8)(y:DQD){j:Nat}(hj:j<2):Ky (nth .str [x.take 20,aG (iX y)] (j:Int)):=by
 have:j=0∨j=1:=by omega
 rcases this with rfl|rfl;·exact OZ x
 ·exact Kz y
theorem Ug{q:List UInt8}:List.take (Int.toNat (min ((q.length:Nat):Int) 20)) q=List.take 20 q:=by
 by_cases h:q.length<=20
 ·rw[List.take_of_length_le (by omega),List.take_of_length_le h]
 ·congr 1;omega
theorem qY{a:List (List UInt8)}:bT [a]=bG a:=by
 unfold bT;by_cases h:bG a=0;·rw[if_pos h,h];rfl
 ·rw[if_neg h]
theorem Sf{a:List (List UInt8)}{n:List UInt8}(ha:Part a)(hn:Ky n):F0 a n:=by
 refine⟨ha.short,by have:=hn.len;unfold QL;omega,fun h1 h2=>?_⟩;rw[qY] at h1;obtain⟨t1,p1,s1⟩:=ha.sml h1;have hq:=(hn.ok h2).2;have hl:=s1.len;have e:=px (l:=bj a) (x:=aU n) (K:=9) s1.den.lq (by omega);have h3:(bj a).length*(2*9+1)<=9*(2*9+1):=Nat.mul_le_mul_right _ hl;exact⟨s1.den.sz (by decide),by omega,by unfold QM;omega,by unfold QC;omega⟩
def noE(a:List (List UInt8))(n:List UInt8):Int:=if bG a=0 then ck n else 40
theorem U7{a:List (List UInt8)}{n:List UInt8}(h:¬noE a n=0):evS a n=[]/\evE a n=noE a n:=by
 have e:evE a n=noE a n:=by
  unfold evE;unfold noE at h ⊢;rw[qY];by_cases h1:bG a=0;·rw[if_pos h1] at h ⊢;rw[if_pos h1,if_neg h]
  ·rw[if_neg h1,if_neg h1];exact(pM a).resolve_left h1
 refine⟨?_,e⟩;unfold evS;rw[if_neg (by rw[e];exact h)]
structure U8 (a:List (List UInt8)) (n:List UInt8):Prop where
 ga:GL 1000 a
 la:a.length<=100
 gn:GQ 1000 n
 fw:eG (aG (au (nl a) (aU n)))
 yes:iy (aG (au (nl a) (aU n)))=true->evS a n=aG (au (nl a) (aU n))/\evE a n=0
 not:iy (aG (au (nl a) (aU n)))=false->evS a n=[]/\evE a n=6
theorem Uh{a:List (List UInt8)}{n:List UInt8}(ha:Part a)(hn:Ky n)(h:noE a n=0):U8 a n:=by
 have h1:bG a=0:=by
  rcases pM a with h2|h2;·exact h2
  ·unfold noE at h;rw[if_neg (by rw[h2];decide)] at h;exact absurd h (by decide)
 have h2:ck n=0:=by unfold noE at h;rwa [if_pos h1] at h
 have ga:=ha.gr h1;obtain⟨t1,p1,s1⟩:=ha.sml h1;have hq:=hn.ok h2;have hl:=s1.len;have e:=px (l:=bj a) (x:=aU n) (K:=9) s1.den.lq (by have:=hq.2;omega);have h3:(bj a).length*(2*9+1)<=9*(2*9+1):=Nat.mul_le_mul_right _ hl;have en:nl a=bj a:=by rw[<- t1,bJ,t1]
 have hlen:=ga.len;have hE:evE a n=l4 (au (nl a) (aU n)):=by
  unfold evE;rw[qY,if_pos h1,if_pos h2,en]
 refine⟨ga.gl (by decide),by omega,⟨hq.1,Nat.le_trans hq.2 (by decide)⟩,Gi (K:=1000) (by rw[en];omega) (by decide),fun hf=>?_,fun hf=>?_⟩
 ·rw[yP] at hf;have k:evE a n=0:=by rw[hE];unfold l4;rw[if_pos hf]
  exact⟨by unfold evS;rw[if_pos k,en],k⟩
 ·rw[yP] at hf;have k:evE a n=6:=by rw[hE];unfold l4;rw[if_neg (by rw[hf];decide)]
  exact⟨by unfold evS;rw[if_neg (by rw[k];decide)],k⟩
end Go.Cm
end
section
namespace Go.Proofs.YtdojbabpnaifoaaGreatDoor
open Go Go.Cm Go.Proofs Tryz
theorem Ui:cO prog 84 .func:=E2 (hd:=⟨_,_,_,underlying84⟩)
theorem U9:cO prog 109 .func:=E2 (hd:=⟨_,_,_,underlying109⟩)
def O0(B:aq):Tab:=mT B [(3,(.int .i64)),(181,(.slice (.int .i64)))] [] [] [] 21
def pN:Con:=c1 (.slice (.int .i64)) (fun d=>D.Lim d/\d.length<CAP) (fun d=>[.z (.slice (.int .i64)) (D.limbs (D.valL d).toNat)])
theorem pO{B:aq}(hB:aN B):Valid B prog 183 pN:=by
 refine v1 (mg (T:=O0 B) (tc ty3 (tc kd ab)) ae (bI rfl)) func183 ?_;intro d hC X hP hT hr hG;have hX:=ai O0.eq_1<|cx;simp only[f183,az,aj,ioB];refine sg ?_;refine ag (al (aY (fun(z:List Int)=>(⟨[(0,.l (.z (.slice (.int .i64)) z))],[]⟩:aa)) (fun z=>D.Lim z/\D.valL z=D.valL d/\z.length<=d.length) (fun z=>z.length) d ?_ ?_ ?_));·simp only[ml0,ml1,Nat.reduceLT,Nat.reduceEqDiff,Nat.reduceAdd,Nat.reduceMul,Nat.reduceSub,Nat.reduceLeDiff,Nat.reduceBEq,Nat.reduceBNe,reduceIte,reduceDIte,reduceCtorEq]
 ·exact⟨hC.1,rfl,Nat.le_refl _⟩
 ·rintro z ⟨g1,g2,g3⟩;try dsimp only at g1 g2 g3
  have h4:z.length<1000000000000:=Nat.lt_of_le_of_lt g3 hC.2;refine ag (sq ?_ ?_);·exact⟨id,id,fun h=>⟨h,by simp only[decide_eq_true_eq] at h;rw[wo];omega⟩,id⟩
  refine qc ?_ ?_
  ·(intro hb0;refine ak (af (al (rq ?_ ?_)));·rw[wo];omega);refine aD (qm ?_);exact D.whole_round g1 g2 g3 hb0.1 h4 hb0.2
  ·intro hb0;refine aT (aA (ao (an (af (sg ?_)))));refine av (qe [] ?_);refine D.cut_fin g1 g2 fun hz h0=>?_;have:=hb0 (by simp;omega);rw[wo,D.last_eq hz] at this;exact this h0
def O1(B:aq):Tab:=mT B [(3,(.int .i64)),(181,(.slice (.int .i64)))] [] [] [] 41
def iz:Con:=c2 (.slice (.int .i64)) (.slice (.int .i64)) (fun m o=>D.Cano m/\D.Cano o/\m.length<CAP/\o.length<CAP) (fun m o=>[.z (.int .i64) (bg (D.valL m) (D.valL o))])
theorem u7{B:aq}(hB:aN B):Valid B prog 160 iz:=by
 refine v2 (mg (T:=O1 B) (tc ty3 (tc kd ab)) ae (bI rfl)) func160 ?_;intro m o hC X hP hT hr hG;have hX:=ai O1.eq_1<|cx;simp only[f160,az,aj,ioB];refine sg ?_;refine ag (sg ?_);refine aS ?_ ?_
 ·intro hb0;try simp only[bt] at hb0
  refine ag (sg ?_);refine qc ?_ ?_;·intro hb1;refine sg ?_;refine av (aw (aw (qe [] ?_)));unfold bg;rw[if_pos (D.cmp_len hC.1 hC.2.1 (by omega))]
  ·intro hb1;refine ak (af (sg ?_));refine av (aw (qe [] ?_));have:=D.cmp_len hC.2.1 hC.1 (by omega);unfold bg;rw[if_neg (by omega),if_pos this]
 ·intro hb0;simp only[bne_eq_false_iff_eq] at hb0;obtain⟨c1,c2,c3,c4⟩:=hC;have c3:List.length m<1000000000000:=c3;have hl:List.length m=List.length o:=by omega
  refine ak (af (ag (sg ?_)));refine al (aY (fun(z:Nat)=>(⟨[(0,.l (.z (.slice (.int .i64)) m)),(1,.l (.z (.slice (.int .i64)) o)),(5,.l (.z (.int .i64) ((z:Int)-1)))],[]⟩:aa)) (fun z=>z<=List.length m/\List.drop z m=List.drop z o) (fun z=>z) (List.length m) ?_ ?_ ?_);·refine q_l ?_;exact wo
  ·exact⟨Nat.le_refl _,by rw[List.drop_length,List.drop_of_length_le (by omega)]⟩
  ·rintro k ⟨g1,g2⟩;(try dsimp only at g1 g2);refine ag (sg ?_);refine qc ?_ ?_
   ·(intro hb2;refine ak (af (ag (al (sd ?_ ?_))));·exact⟨⟨by omega,by omega⟩,by omega,by omega⟩);refine qc ?_ ?_
    ·(intro hb3;refine ag (sd ?_ ?_);·exact⟨⟨by omega,by omega⟩,by omega,by omega⟩);refine qc ?_ ?_;·intro hb4;refine sg ?_;refine av (aw (bk (aw (dc (bk (aw (qe [] ?_)))))));obtain⟨j,rfl⟩:∃j,k=j+1:=⟨k-1,by omega⟩;(have hk:((j+1:Nat):Int)-1=(j:Int):=by omega);rw[hk] at hb4;exact(D.cmp_less c1 c2 hl (by omega) g2 hb4).symm
     ·intro hb4;refine ak (af (sg ?_));refine av (bk (aw (dc (bk (aw (qe [] ?_))))));obtain⟨j,rfl⟩:∃j,k=j+1:=⟨k-1,by omega⟩;(have hk:((j+1:Nat):Int)-1=(j:Int):=by omega);rw[hk] at hb3 hb4;have hb5:List.getD o j 0<List.getD m j 0:=D.gt_of hb4 hb3;exact(D.cmp_more c1 c2 hl (by omega) g2 hb5).symm
    ·intro hb3;refine ak (aD (af (rg ?_)));refine qm ?_;obtain⟨j,rfl⟩:∃j,k=j+1:=⟨k-1,by omega⟩;(have hk:((j+1:Nat):Int)-1=(j:Int):=by omega);rw[hk] at hb3 ⊢;exact⟨j,wo,by omega,D.drop_step hl (by omega) g2 hb3,by omega⟩
   ·intro hb2;refine aT (aA (ao (an (af (sg ?_)))));refine av (qe [] ?_);(have:k=0:=by omega);subst this;simp only[List.drop_zero] at g2;rw[g2];simp[bg]
def O2(B:aq):Tab:=mT B [(3,(.int .i64)),(181,(.slice (.int .i64)))] [(181,3)] [] [] 54
def El:Con:=c2 (.slice (.int .i64)) (.slice (.int .i64)) (fun m o=>D.Cano m/\D.Cano o/\m.length<CAP/\o.length<CAP) (fun m o=>[.z (.slice (.int .i64)) (D.limbs (D.valL m+D.valL o).toNat)])
theorem O3{B:aq}(hB:aN B):Valid B prog 159 El:=by
 refine v2 (mg (T:=O2 B) (tc ty3 (tc kd ab)) (aK (by kernel_rfl) ae) (bI rfl)) func159 ?_;intro m o hC X hP hT hr hG;have hX:=ai O2.eq_1<|cx;simp only[f159,az,aj,ioB];refine sg ?_;refine sg ?_;refine sg ?_;refine ag (sg ?_);refine al (aY (fun(z:Nat×Int×List Int)=>(⟨[(0,.l (.z (.slice (.int .i64)) m)),(1,.l (.z (.slice (.int .i64)) o)),(5,.l (.ownS 50)),(6,.l (.z (.int .i64) z.2.1)),(7,.l (.z (.int .i64) (z.1:Int)))],[(50,.arr (.int .i64) 3 z.2.2)]⟩:aa)) (fun z=>D.PlusPhi m o z.1 z.2.1 z.2.2) (fun z=>2*(max (List.length m) (List.length o)-z.1)+z.2.1.toNat) (0,0,[]) ?_ ?_ ?_);·refine q_l ?_;exact⟨rfl,by unfold ioB;omega⟩
 ·exact D.plus_start
 ·rintro⟨k,c,out⟩ hz;try dsimp only at hz
  obtain⟨c1,c2,c3,c4⟩:=hC;have c3:List.length m<1000000000000:=c3;have c4:List.length o<1000000000000:=c4;have hw:=D.plus_n c1.1 c2.1 hz;have hk:=hz.hk;refine ag (sq ?_ ?_)
  ·(repeat' (first|apply And.intro|intro _))<;>(try simp only[decide_eq_true_eq,decide_eq_false_iff_not,Bool.not_eq_true',beq_iff_eq,Int.toNat_natCast] at*)<;>first|assumption|omega|trivial|(simp_all;done)|(simp_all;omega)
  refine aS ?_ ?_
  ·intro hb0;simp only[Bool.or_eq_true,decide_eq_true_eq] at hb0;(have hkk:k<List.length m∨k<List.length o∨(0:Int)<c:=by omega);have hks:=hz.hs;have hkM:k<=max (List.length m) (List.length o):=D.plus_k hz (by omega);(have hb0:(k<List.length m∨k<List.length o)∨(0:Int)<c:=by omega);refine ak (af (ag (al (sg ?_))));refine cm (fun(z:Int)=>(⟨[(0,.l (.z (.slice (.int .i64)) m)),(1,.l (.z (.slice (.int .i64)) o)),(5,.l (.ownS 50)),(6,.l (.z (.int .i64) c)),(7,.l (.z (.int .i64) (k:Int))),(8,.l (.z (.int .i64) z))],[(50,.arr (.int .i64) 3 out)]⟩:aa)) (fun z=>z=c+m.getD k 0) ?_ ?_
   ·refine sg ?_;refine qc ?_ ?_
    ·(intro hb1;refine rq ?_ ?_;·exact⟨by omega,by omega⟩);refine qm ?_;first|exact hw.1|(rw[D.getD_none (by omega)];exact(Int.add_zero _).symm)
    ·intro hb1;refine ak (qm ?_);first|exact hw.1|(rw[D.getD_none (by omega)];exact(Int.add_zero _).symm)
   rintro n1 hn1;(try dsimp only at hn1);refine cm (fun(z:Int)=>(⟨[(0,.l (.z (.slice (.int .i64)) m)),(1,.l (.z (.slice (.int .i64)) o)),(5,.l (.ownS 50)),(6,.l (.z (.int .i64) c)),(7,.l (.z (.int .i64) (k:Int))),(8,.l (.z (.int .i64) z))],[(50,.arr (.int .i64) 3 out)]⟩:aa)) (fun z=>z=c+m.getD k 0+o.getD k 0) ?_ ?_
   ·refine sg ?_;refine qc ?_ ?_
    ·(intro hb2;refine rq ?_ ?_;·exact⟨by omega,by omega⟩);refine qm ?_;subst hn1;first|exact hw.2.1|(rw[D.getD_none (l:=o) (by omega)];exact(Int.add_zero _).symm)
    ·intro hb2;refine ak (qm ?_);subst hn1;first|exact hw.2.1|(rw[D.getD_none (l:=o) (by omega)];exact(Int.add_zero _).symm)
   (rintro n hn;(try dsimp only at hn);refine sq ?_ ?_;·exact⟨by decide,by unfold Cm.Roomy;omega⟩);(refine rq ?_ ?_;·decide);refine aD (af (rg ?_));refine qm ?_;obtain⟨q1,q2⟩:=D.plus_next c1.1 c2.1 hz hb0 hn;exact⟨k+1,by rw[wo];simp,q1,q2⟩
  ·intro hb0;simp only[Bool.or_eq_false_iff,decide_eq_false_iff_not] at hb0;refine aT (aA (ao (an (af (sg ?_)))));refine av (qe [50] ?_);exact D.plus_fin c1 c2 hz (by omega)
def O4(B:aq):Tab:=mT B [(3,(.int .i64)),(181,(.slice (.int .i64)))] [(181,3)] [(183,pN)] [] 41
def pP:Con:=c2 (.slice (.int .i64)) (.slice (.int .i64)) (fun m o=>D.Cano m/\D.Cano o/\D.valL o<=D.valL m/\m.length<CAP) (fun m o=>[.z (.slice (.int .i64)) (D.limbs (D.valL m-D.valL o).toNat)])
theorem BI{B:aq}(hB:aN B):Valid B prog 161 pP:=by
 refine v2 (mg (T:=O4 B) (tc ty3 (tc kd ab)) (aK (by kernel_rfl) ae) (aC (cc func183 (pO hB) ax))) func161 ?_;intro m o hC X hP hT hr hG;have hX:=ai O4.eq_1<|ai cx<|pN.eq_1;simp only[f161,az,aj,ioB];refine sg ?_;refine sg ?_;refine sg ?_;refine ag (sg ?_);refine al (aY (fun(z:Nat×Int×List Int)=>(⟨[(0,.l (.z (.slice (.int .i64)) m)),(1,.l (.z (.slice (.int .i64)) o)),(5,.l (.ownS 38)),(6,.l (.z (.int .i64) z.2.1)),(7,.l (.z (.int .i64) (z.1:Int)))],[(38,.arr (.int .i64) 3 z.2.2)]⟩:aa)) (fun z=>D.MinusPhi m o z.1 z.2.1 z.2.2) (fun z=>List.length m-z.1) (0,0,[]) ?_ ?_ ?_);·refine q_l ?_;exact⟨rfl,by unfold ioB;omega⟩
 ·exact D.minus_start
 ·rintro⟨k,b,out⟩ hz;try dsimp only at hz
  obtain⟨c1,c2,c3,c4⟩:=hC;have c4:List.length m<1000000000000:=c4;have hw:=D.minus_w c1.1 c2.1 hz;have hkm:=hz.hkm;have hk:=hz.hk;refine ag (sg ?_);refine qc ?_ ?_
  ·(intro hb0;refine ak (af (ag (al (sq ?_ ?_))));·exact⟨by omega,by omega⟩);refine cm (fun(z:Int)=>(⟨[(0,.l (.z (.slice (.int .i64)) m)),(1,.l (.z (.slice (.int .i64)) o)),(5,.l (.ownS 38)),(6,.l (.z (.int .i64) b)),(7,.l (.z (.int .i64) (k:Int))),(8,.l (.z (.int .i64) z))],[(38,.arr (.int .i64) 3 out)]⟩:aa)) (fun z=>z=m.getD k 0-b-o.getD k 0) ?_ ?_
   ·refine sg ?_;refine qc ?_ ?_
    ·(intro hb1;refine rq ?_ ?_;·exact⟨by omega,by omega⟩);refine qm ?_;first|(rw[D.nth64,hw.1];exact hw.2.1)|(rw[D.nth64,hw.1,D.getD_none (l:=o) (by omega)];exact(Int.sub_zero _).symm)
    ·intro hb1;refine ak (qm ?_);first|(rw[D.nth64,hw.1];exact hw.2.1)|(rw[D.nth64,hw.1,D.getD_none (l:=o) (by omega)];exact(Int.sub_zero _).symm)
   rintro n hn;(try dsimp only at hn);refine sg ?_;refine cm (fun(z:Unit)=>(⟨[(0,.l (.z (.slice (.int .i64)) m)),(1,.l (.z (.slice (.int .i64)) o)),(5,.l (.ownS 38)),(6,.l (.z (.int .i64) (D.borrowed n))),(7,.l (.z (.int .i64) (k:Int))),(8,.l (.z (.int .i64) (n+10000*D.borrowed n)))],[(38,.arr (.int .i64) 3 out)]⟩:aa)) (fun z=>True) ?_ ?_
   ·(refine sg ?_;refine qc ?_ ?_;·intro hb2;refine sg ?_;refine rg ?_;refine qm ?_;first|exact D.borrow_t hb2 (by rw[hn];exact hw.2.2)|exact D.borrow_f hb2);·intro hb2;refine ak (qm ?_);first|exact D.borrow_t hb2 (by rw[hn];exact hw.2.2)|exact D.borrow_f hb2
   (rintro⟨⟩ hu;(try dsimp only at hu);refine rq ?_ ?_;·unfold Cm.Roomy;omega);refine aD (af (rg ?_));refine qm ?_;exact⟨k+1,by rw[wo];simp,D.minus_next c1.1 c2.1 hz (by omega) hn,by omega⟩
  ·(intro hb0;refine aT (aA (ao (an (af (sq ?_ ?_)))));·exact⟨hz.hl,by unfold CAP;omega⟩);refine av (qe [] ?_);rw[(D.minus_fin c1 c2 c3 hz (by omega)).1]
def O5(B:aq):Tab:=mT B [(3,(.int .i64)),(181,(.slice (.int .i64)))] [(181,3)] [(183,pN)] [] 66
def pQ:Con:=c2 (.slice (.int .i64)) (.slice (.int .i64)) (fun x y=>D.Lim x/\D.Wid y/\x.length+y.length<CAP) (fun x y=>[.z (.slice (.int .i64)) (D.limbs (D.valL x*D.valL y).toNat)])
theorem BJ{B:aq}(hB:aN B):Valid B prog 164 pQ:=by
 refine v2 (mg (T:=O5 B) (tc ty3 (tc kd ab)) (aK (by kernel_rfl) ae) (aC (cc func183 (pO hB) ax))) func164 ?_;intro x y hC X hP hT hr hG;have hX:=ai O5.eq_1<|ai cx<|pN.eq_1;simp only[f164,az,aj,ioB];refine sg ?_;refine sq ?_ ?_;·rw[D.len_wrap hC.2.2];have c3:List.length x+List.length y<1000000000000:=hC.2.2;exact⟨by omega,by omega,by unfold Cm.Roomy;omega⟩
 refine ag (sg ?_);refine al (aY (fun(z:Nat×List Int)=>(⟨[(0,.l (.z (.slice (.int .i64)) x)),(1,.l (.z (.slice (.int .i64)) y)),(5,.l (.ownS 15)),(6,.l (.z (.int .i64) (z.1:Int)))],[(15,.arr (.int .i64) 3 z.2)]⟩:aa)) (fun z=>D.TimesPhi x y z.1 z.2) (fun z=>List.length x-z.1) (0,List.replicate (List.length x+List.length y) 0) ?_ ?_ ?_);·refine q_l ?_;exact⟨rfl,by rw[D.len_wrap hC.2.2,Int.toNat_natCast]⟩
 ·exact D.times_start
 ·rintro⟨i,out⟩ hz;try dsimp only at hz
  obtain⟨c1,c2,c3⟩:=hC;have c3:List.length x+List.length y<1000000000000:=c3;have hix:=hz.h1;have hil:=hz.h2;refine ag (sg ?_);refine qc ?_ ?_
  ·(intro hb0;refine ak (af (ag (al (sg ?_))));refine sg ?_;refine al (aY (fun(z:Nat×Int×List Int)=>(⟨[(0,.l (.z (.slice (.int .i64)) x)),(1,.l (.z (.slice (.int .i64)) y)),(5,.l (.ownS 15)),(6,.l (.z (.int .i64) (i:Int))),(7,.l (.z (.int .i64) z.2.1)),(8,.l (.z (.int .i64) (z.1:Int)))],[(15,.arr (.int .i64) 3 z.2.2)]⟩:aa)) (fun z=>D.RowPhi x y i z.1 z.2.1 z.2.2) (fun z=>List.length y+1-z.1) (0,0,out) ?_ ?_ ?_);·refine q_l ?_;rfl);·exact D.row_start hz
   ·rintro⟨k,c,out2⟩ hk;(try dsimp only at hk);have hrb:=D.row_bound (c1.getD i) (c2.getD k) (hk.h3.getD (i+k)) hk.h4;have hk1:=hk.h1;have hk2:=hk.h2;(have hik:IntKind.i64.wrap ((i:Int)+(k:Int))=((i+k:Nat):Int):=by rw[wo];omega);refine ag (sq ?_ ?_)
    ·(repeat' (first|apply And.intro|intro _))<;>(try simp only[decide_eq_true_eq,decide_eq_false_iff_not,Bool.not_eq_true',beq_iff_eq,Int.toNat_natCast] at*)<;>first|assumption|omega|trivial|(simp_all;done)|(simp_all;omega)
    refine aS ?_ ?_
    ·intro hb1;simp only[Bool.or_eq_true,decide_eq_true_eq] at hb1;(have hb1:k<List.length y∨0<c:=by omega);have hin:=(D.row_next c1 c2 (by omega) hk hb1 rfl).1;refine ak (af (ag (al (cm (fun(z:Unit)=>(⟨[(0,.l (.z (.slice (.int .i64)) x)),(1,.l (.z (.slice (.int .i64)) y)),(5,.l (.ownS 15)),(6,.l (.z (.int .i64) (i:Int))),(7,.l (.z (.int .i64) c)),(8,.l (.z (.int .i64) (k:Int))),(9,.l (.z (.int .i64) (out2.getD (i+k) 0+c)))],[(15,.arr (.int .i64) 3 out2)]⟩:aa)) (fun z=>True) ?_ ?_))))
     ·(refine rq ?_ ?_;·rw[hik];omega);refine qm ?_;rw[hik,Int.toNat_natCast];exact hrb.1
     rintro⟨⟩ hu;(try dsimp only at hu);refine cm (fun(z:Int)=>(⟨[(0,.l (.z (.slice (.int .i64)) x)),(1,.l (.z (.slice (.int .i64)) y)),(5,.l (.ownS 15)),(6,.l (.z (.int .i64) (i:Int))),(7,.l (.z (.int .i64) c)),(8,.l (.z (.int .i64) (k:Int))),(9,.l (.z (.int .i64) z))],[(15,.arr (.int .i64) 3 out2)]⟩:aa)) (fun z=>z=out2.getD (i+k) 0+c+x.getD i 0*y.getD k 0) ?_ ?_
     ·refine sg ?_;refine qc ?_ ?_
      ·(intro hb2;refine rd ?_ ?_;·exact⟨⟨by omega,by omega⟩,by omega,by omega⟩);refine qm ?_;first|(rw[D.nth64,D.nth64,hrb.2.1];exact hrb.2.2.1)|(rw[D.getD_none (l:=y) (by omega),Int.mul_zero];exact(Int.add_zero _).symm)
      ·intro hb2;refine ak (qm ?_);first|(rw[D.nth64,D.nth64,hrb.2.1];exact hrb.2.2.1)|(rw[D.getD_none (l:=y) (by omega),Int.mul_zero];exact(Int.add_zero _).symm)
     (rintro n hn;(try dsimp only at hn);refine sq ?_ ?_;·rw[hik];exact⟨by decide,by omega⟩);(refine rq ?_ ?_;·decide);refine aD (af (rg ?_));refine qm ?_;obtain⟨q1,q2⟩:=D.row_next c1 c2 (by omega) hk hb1 hn;rw[hik,Int.toNat_natCast];exact⟨k+1,by rw[wo];simp,q2,by omega⟩
    ·intro hb1;simp only[Bool.or_eq_false_iff,decide_eq_false_iff_not] at hb1;refine aT (aA (ao (an (aD (af (rg ?_))))));refine qm ?_;exact⟨i+1,by rw[wo];simp,D.row_end (by omega) hk (by omega),by omega⟩
  ·(intro hb0;refine aT (aA (ao (an (af (sq ?_ ?_)))));·exact⟨hz.h3,by unfold CAP;omega⟩);refine av (qe [] ?_);rw[D.times_fin hz (by omega)]
def O6(B:aq):Tab:=mT B [(5,(.int .u8)),(9,.str)] [] [] [] 6
def c8:Con:=c1 .str (fun s=>RF s) (fun s=>[.z .bool (decide (ah s<0))])
theorem kV{B:aq}(hB:aN B):Valid B prog 157 c8:=by
 refine v1 (mg (T:=O6 B) (tc ty5 (tc ty9 ab)) ae (bI rfl)) func157 ?_;intro s hC X hP hT hr hG;have hX:=ai O6.eq_1<|cx;simp only[f157,az,aj,ioB];refine sg ?_;refine sq ?_ ?_;·exact⟨by omega,mv hC⟩
 refine av (qe [] ?_);exact Df hC
def O7(B:aq):Tab:=mT B [(3,(.int .i64)),(5,(.int .u8)),(9,.str)] [] [] [] 11
def u9:Con:=c1 .str (fun s=>RF s/\s.length<CAP) (fun s=>[.z (.int .i64) (cr (ah s))])
theorem O8{B:aq}(hB:aN B):Valid B prog 93 u9:=by
 refine v1 (mg (T:=O7 B) (tc ty3 (tc ty5 (tc ty9 ab))) ae (bI rfl)) func93 ?_;intro s hC X hP hT hr hG;have hX:=ai O7.eq_1<|cx;simp only[f93,az,aj,ioB];refine sg ?_;refine ag (sq ?_ ?_);·exact⟨by omega,mv hC.1⟩
 refine qc ?_ ?_;·intro hb0;refine sg ?_;refine av (aw (qe [] ?_));obtain⟨t1,t2⟩:=tT hC.1 hb0;have hc:List.length s<1000000000000:=hC.2;rw[qA hC.1,wo];show (List.length s:Int)-1=((ar s [45]).length:Int);omega
 ·intro hb0;refine ak (af (sg ?_));refine av (qe [] ?_);rw[qA hC.1,<- tU hC.1 hb0]
def O9(B:aq):Tab:=mT B [(3,(.int .i64)),(5,(.int .u8)),(9,.str),(181,(.slice (.int .i64)))] [(181,3)] [(183,pN)] [] 40
def iA:Con:=c1 .str (fun s=>RF s/\s.length<CAP) (fun s=>[.z (.slice (.int .i64)) (D.limbs (ah s).natAbs)])
theorem kW{B:aq}(hB:aN B):Valid B prog 156 iA:=by
 refine v1 (mg (T:=O9 B) (tc ty3 (tc ty5 (tc ty9 (tc kd ab)))) (aK (by kernel_rfl) ae) (aC (cc func183 (pO hB) ax))) func156 ?_;intro s hC X hP hT hr hG;have hX:=ai O9.eq_1<|ai cx<|pN.eq_1;simp only[f156,az,aj,ioB];refine sg ?_;refine cm (fun(z:Unit)=>(⟨[(0,.l (.z .str (ar s [45])))],[]⟩:aa)) (fun z=>True) ?_ ?_
 ·refine sq ?_ ?_;·exact⟨by omega,mv hC.1⟩
  refine qc ?_ ?_
  ·(intro hb0;refine rq ?_ ?_;·have:=mv hC.1;omega);refine qm ?_;first|exact(tT hC.1 hb0).1|exact tU hC.1 hb0
  ·intro hb0;refine ak (qm ?_);first|exact(tT hC.1 hb0).1|exact tU hC.1 hb0
 rintro⟨⟩ hu;try dsimp only at hu
 obtain⟨d1,d2,d3⟩:=jg hC.1;have hl:=fF s [45];have hc:List.length s<1000000000000:=hC.2;refine sg ?_;refine ag (sg ?_);refine al (aY (fun(z:Nat×List Int)=>(⟨[(0,.l (.z .str (ar s [45]))),(3,.l (.ownS 37)),(4,.l (.z (.int .i64) (((ar s [45]).length:Int)-4*(z.1:Int))))],[(37,.arr (.int .i64) 3 z.2)]⟩:aa)) (fun z=>D.ReadPhi (ar s [45]) z.1 z.2) (fun z=>(ar s [45]).length+4-4*z.1) (0,[]) ?_ ?_ ?_);·refine q_l ?_;exact⟨by show ((ar s [45]).length:Int)=((ar s [45]).length:Int)-4*((0:Nat):Int);omega,by unfold ioB;omega⟩
 ·exact D.read_start
 ·rintro⟨r,out⟩ hz;try dsimp only at hz
  have hz1:=hz.1;have hz4:=hz.2.2.2;refine ag (sg ?_);refine qc ?_ ?_
  ·(intro hb1;refine ak (af (ag (al (sg ?_))));refine ag (sg ?_);refine al (aY (fun(z:Nat)=>(⟨[(0,.l (.z .str (ar s [45]))),(3,.l (.ownS 37)),(4,.l (.z (.int .i64) (((ar s [45]).length:Int)-4*(r:Int)))),(5,.l (.z (.int .i64) (D.part (ar s [45]) ((ar s [45]).length-4*(r+1)) z))),(6,.l (.z (.int .i64) (z:Int)))],[(37,.arr (.int .i64) 3 out)]⟩:aa)) (fun z=>(ar s [45]).length-4*(r+1)<=z/\z<=(ar s [45]).length-4*r) (fun z=>(ar s [45]).length-z) ((ar s [45]).length-4*(r+1)) ?_ ?_ ?_);·refine q_l ?_;exact D.read_le0 (by omega) (by omega));·omega
   ·rintro i hi;(try dsimp only at hi);refine ag (sg ?_);refine qc ?_ ?_
    ·(intro hb2;refine ak (af (ag (al (rq ?_ ?_))));·exact⟨by omega,by omega⟩);refine aD (af (rg ?_));refine qm ?_;rw[Int.toNat_natCast];exact⟨i+1,D.part_next d1 (by omega) (by omega) (by omega),by rw[wo];simp,by omega,by omega,by omega⟩
    ·(intro hb2;refine aT (aA (ao (an (af (rq ?_ ?_)))));·unfold Cm.Roomy;omega);refine aD (af (rg ?_));refine qm ?_;(have hie:i=(ar s [45]).length-4*r:=by omega);subst hie;exact⟨r+1,by rw[wo];show ((ar s [45]).length:Int)-4*(r:Int)-4=((ar s [45]).length:Int)-4*((r+1:Nat):Int);omega,D.read_next d1 hz (by omega),by omega⟩
  ·(intro hb1;refine aT (aA (ao (an (af (sq ?_ ?_)))));·exact⟨hz.2.1,by unfold CAP;omega⟩);refine av (qe [] ?_);exact D.valL_limbs hz (by omega)
def Pa(B:aq):Tab:=mT B [(3,(.int .i64)),(5,(.int .u8)),(9,.str),(47,(.slice (.int .u8))),(181,(.slice (.int .i64)))] [(47,5)] [] [] 49
def gR:Con:=c2 .bool (.slice (.int .i64)) (fun neg d=>D.Cano d/\4*d.length<CAP) (fun neg d=>[.z .str (Lib.itoa (if neg=true then-D.valL d else D.valL d))])
theorem mP{B:aq}(hB:aN B):Valid B prog 158 gR:=by
 refine v2 (mg (T:=Pa B) (tc ty3 (tc ty5 (tc ty9 (tc Tl (tc kd ab))))) (aK (by kernel_rfl) ae) (bI rfl)) func158 ?_;intro neg d hC X hP hT hr hG;have hX:=ai Pa.eq_1<|cx;simp only[f158,az,aj,ioB];refine sg ?_;refine ag (sg ?_);refine aS ?_ ?_
 ·intro hb0;try simp only[bt] at hb0
  refine sg ?_;refine av (aw (qe [] ?_));exact D.write_nil hb0
 ·intro hb0;simp only[beq_eq_false_iff_ne,ne_eq] at hb0;have hne:d≠[]:=by intro e;subst e;exact hb0 rfl
  obtain⟨c1,c2⟩:=hC;have c2:4*List.length d<1000000000000:=c2;have hbg:4000000000001<=maxLen:=by decide
  refine ak (af (sg ?_));refine ag (sg ?_);refine al (aY (fun(z:Nat×List Int)=>(⟨[(0,.l (.z .bool neg)),(1,.l (.z (.slice (.int .i64)) d)),(5,.l (.ownS 42)),(6,.l (.z (.int .i64) ((z.1:Int)-1)))],[(42,.arr (.int .u8) 5 z.2)]⟩:aa)) (fun z=>z.1<=List.length d/\z.2=(D.dd (D.valL (List.drop z.1 d)).toNat).map fun b=>(b.toNat:Int)) (fun z=>z.1) (List.length d,[]) ?_ ?_ ?_);·refine q_l ?_;exact⟨wo,by unfold ioB;omega⟩
  ·exact D.write_phi0 d
  ·rintro⟨k,out⟩ hz;(try dsimp only at hz);have hz1:=hz.1;refine ag (sg ?_);refine aS ?_ ?_
   ·(intro hb1;(try simp only[decide_eq_true_eq] at hb1);obtain⟨i,rfl⟩:∃i,k=i+1:=⟨k-1,by omega⟩;(have ei:((i+1:Nat):Int)-1=(i:Int):=by omega);rw[ei];refine ak (af (ag (al (sg ?_))));refine al (aY (fun(z:Nat×List Int)=>(⟨[(0,.l (.z .bool neg)),(1,.l (.z (.slice (.int .i64)) d)),(5,.l (.ownS 42)),(6,.l (.z (.int .i64) (i:Int))),(7,.l (.z (.int .i64) (D.unit z.1)))],[(42,.arr (.int .u8) 5 z.2)]⟩:aa)) (fun z=>D.WritePhi d i z.1 z.2) (fun z=>4-z.1) (0,out) ?_ ?_ ?_);·refine q_l ?_;decide);·exact D.write_start c1.1 hz.2
    ·rintro⟨j,out2⟩ hj;(try dsimp only at hj);refine ag (sg ?_);refine aS ?_ ?_
     ·intro hb2;(try simp only[decide_eq_true_eq] at hb2);have hj4:=D.unit_pos hb2;refine ak (af (ag (al (cm (fun(z:Unit)=>(⟨[(0,.l (.z .bool neg)),(1,.l (.z (.slice (.int .i64)) d)),(5,.l (.ownS 42)),(6,.l (.z (.int .i64) (i:Int))),(7,.l (.z (.int .i64) (D.unit j))),(8,.l (.z (.int .u8) ((48+D.decimal (d.getD i 0) j:Nat):Int)))],[(42,.arr (.int .u8) 5 out2)]⟩:aa)) (fun z=>True) ?_ ?_))))
      ·(refine rq ?_ ?_;·exact⟨⟨by omega,by omega⟩,fun h=>by rw[h] at hb2;exact absurd hb2 (by decide),by decide⟩);refine qm ?_;exact D.decimal_code (c1.1.getD i) hj4
      (rintro⟨⟩ hu;(try dsimp only at hu);refine sq ?_ ?_;·simp[get?,del]);refine aS ?_ ?_
      ·(intro hb3;have hwl:=D.write_len c1.1 hj (by omega);refine rq ?_ ?_;·unfold Cm.Roomy;omega);refine aD (af (rg ?_));refine qm ?_;exact⟨j+1,(D.unit_next hj4).1,by first|exact D.write_take c1.1 hj hj4 (D.cond_t hb3)|exact D.write_leave c1.1 hj hj4 (D.cond_f hb3),by omega⟩
      ·intro hb3;refine ak (aD (af (rg ?_)));refine qm ?_;exact⟨j+1,(D.unit_next hj4).1,by first|exact D.write_take c1.1 hj hj4 (D.cond_t hb3)|exact D.write_leave c1.1 hj hj4 (D.cond_f hb3),by omega⟩
     ·intro hb2;(try simp only[bf] at hb2);refine aT (aA (ao (an (aD (af (rg ?_))))));refine qm ?_;(obtain rfl:j=4:=by have:=D.unit_end hb2;have:=hj.hj;omega);exact⟨i,wo,by omega,D.write_round c1.1 (by omega) hj,by omega⟩
   ·intro hb1;simp only[decide_eq_false_iff_not] at hb1;(obtain rfl:k=0:=by omega);have hz2:=hz.2;rw[List.drop_zero] at hz2;have hdl:=D.dd_len c1.1;subst hz2;refine aT (aA (ao (an (af (ag (sg ?_))))));refine aS ?_ ?_
    ·(intro hb4;refine sq ?_ ?_;·rw[D.str_of_map];omega);refine av (aw (qe [] ?_));rw[D.str_of_map,if_pos hb4];exact D.write_minus c1 hne
    ·intro hb4;refine ak (af (sg ?_));refine av (qe [] ?_);rw[D.str_of_map,if_neg (by rw[hb4];decide)];exact D.write_text c1 hne
end Go.Proofs.YtdojbabpnaifoaaGreatDoor
end
section
namespace Go.Proofs
open Go.RowKit Go.Cm
def Gs:Con:=fun l os=>match l,os with
 | [.z .str s],[]=>some (chk s=0/\s.length<=9,[.z (.int .i64) (ah s),.val .nilIface],[])
 |_,_=>none
theorem vc:∀(l:List UInt8) (a:Nat),dD l->Lib.decFrom a l=some (l.foldl (fun n c=>n*10+(c.toNat-48)) a)
 | [],_,_=>rfl
 |c::l,a,hd=>by
  have h1:=hd c (by simp);rw[Lib.decFrom,Lib.digitVal,if_pos h1,List.foldl_cons];exact vc l _ (fun x hx=>hd x (by simp[hx]))
theorem Pb{s:List UInt8}(h:chk s=0):Lib.atoi s=some (ah s):=by
 obtain⟨d1,d2,d3,d4⟩:=CY h;cases s with
 |nil=>exact absurd h (by decide)
 |cons b r=>
  unfold Lib.atoi;dsimp only;by_cases hb:b=45;·subst hb;obtain⟨p1,p2⟩:=mu r;rw[p2] at d1 d2;(have hne:r.isEmpty=false:=by cases r<;>simp at d2 ⊢);simp only[beq_self_eq_true,if_true,Lib.decNat,hne,Bool.false_eq_true,if_false,vc r 0 d1,Option.map_some];unfold ah;rw[p1,p2];rfl
  ·have ht:ar (b::r) [45]=b::r:=by
    unfold ar dz;rw[if_neg];intro e;simp at e;exact hb e
   rw[ht] at d1;obtain⟨p1,p2⟩:=oq d1;have h43:b≠43:=by
    intro e;subst e;have:=d1 43 (by simp);exact absurd this (by decide)
   rw[if_neg (by simpa using hb),if_neg (by simpa using h43),Lib.decNat,if_neg (by simp),vc _ 0 d1,Option.map_some];unfold ah;rw[p1,p2];rfl
theorem Pc{B:aq}(hB:aN B):Valid B Tryz.prog 182 Gs:=by
 intro args os C rs os' hc hC O w vals ρ0 hOn hIo hO hOI hargs hown hap;unfold Gs at hc;split at hc;case h_2=>cases hc
 rename_i s;cases hc;obtain⟨u,rfl,hu⟩:=rU hargs;rw[gw hu];obtain⟨h0,h1⟩:=hC;have hsz:(⟨s.toArray⟩:ByteArray).size=s.length:=by simp[ByteArray.size]
 refine(Tryz.strconv_Atoi ⟨s.toArray⟩ (ah s) (by rw[hsz];omega) (by simpa using Pb h0) w).mono fun e w' ⟨he,t,hw⟩=>?_;have hb:Below w.heap.size w w':=by
  rw[hw];exact⟨rfl,rfl,rfl,by rw[Lib.bytesWorld_size];omega,fun k hk=>Lib.bytesWorld_at_old w _ _ k hk⟩
 subst he;exact o4 (vs:=[.int .i64 (ah s),.nilIface]) hb (fun H M=>⟨bW (ρ:=fun _=>undef),rfl,trivial⟩)
end Go.Proofs
end
section
namespace Go.Proofs.YtdojbabpnaifoaaGreatDoor
open Go Go.Cm Go.Proofs Tryz
def Gt(B:aq):Tab:={types:=[(3,(.int .i64)),(87,(.slice (.int .u32))),(161,(.int .u32))],elems:=[(87,161)],cons:=[],hint:=[],N:=56,base:=B}
theorem Pd{B:aq}(hB:aN B):bx prog (Gt B):=⟨⟨tc ty3 (tc jF (tc gG ab)),aK (by kernel_rfl) ae,by simp only[Gt,ioB];omega⟩,bI rfl,by kernel_rfl⟩
def Gu:Con:=fun l os=>match l,os with
 | [.z (.slice (.int .u32)) m,.z (.slice (.int .u32)) o],[]=>some (Cano m/\Cano o/\m.length+o.length<CAP,[.z (.slice (.int .u32)) (limbs (valL m+valL o).toNat)],[])
 |_,_=>none
theorem Sg{B:aq}(hB:aN B):Valid B prog 151 Gu:=by
 refine aW (Pd hB).tab func151 rfl rfl rfl ?_;intro args os C rs os' hc hC;unfold Gu at hc;split at hc;case h_2=>cases hc
 rename_i m o;cases hc;refine v_h (Pd hB) fun X hP hT hr hG=>?_;have hU:=Gt.eq_1;unfold Gt at hT;have hX:=Bool.not_true;simp only[f151,az,aj,ioB];refine s_g hG ?_;refine cm (fun(z:List Int×List Int)=>(⟨[(0,.l (.z (.slice (.int .u32)) z.1)),(1,.l (.z (.slice (.int .u32)) z.2))],[]⟩:aa)) (fun z=>Cano z.1/\Cano z.2/\z.2.length<=z.1.length/\z.1.length<CAP/\valL z.1+valL z.2=valL m+valL o) ?_ ?_
 ·refine s_g hG ?_;refine aS ?_ ?_
  ·(intro hb0;(try simp only[bt] at hb0);refine bd hG ?_ ?_;·exact tt);refine qm ?_;obtain⟨c1,c2,c3⟩:=hC;first|exact⟨c2,c1,by omega,by omega,Int.add_comm _ _⟩|exact⟨c1,c2,by omega,by omega⟩
  ·intro hb0;(try simp only[bf] at hb0);refine ak (qm ?_);obtain⟨c1,c2,c3⟩:=hC;first|exact⟨c2,c1,by omega,by omega,Int.add_comm _ _⟩|exact⟨c1,c2,by omega,by omega⟩
 rintro⟨m,o⟩ ⟨h1,h2,h3,h4,h5⟩;try dsimp only at h1 h2 h3 h4 h5
 have h4:m.length<1000000000000:=h4;refine s_q hG ?_ ?_
 ·try simp only[ba]
  rw[wo];exact⟨by omega,by omega,by unfold Cm.Roomy;omega⟩
 refine s_g hG ?_;refine ag (s_g hG ?_);refine al (aY (fun(z:Nat×Int×List Int)=>(⟨[(0,.l (.z (.slice (.int .u32)) m)),(1,.l (.z (.slice (.int .u32)) o)),(5,.l (.ownS 20)),(6,.l (.z (.int .u32) z.2.1)),(21,.l (.z (.slice (.int .u32)) m)),(22,.l (.z (.int .i64) (m.length:Int))),(23,.l (.z (.int .i64) (z.1:Int)))],[(20,.arr (.int .u32) 161 z.2.2)]⟩:aa)) (fun z=>z.1<=m.length/\z.2.2.length=z.1/\Lim z.2.2/\0<=z.2.1/\z.2.1<=1/\valL z.2.2+LB^z.1*z.2.1=valL (m.take z.1)+valL (o.take z.1)) (fun z=>m.length-z.1) (0,0,[]) ?_ ?_ ?_);·refine q_l ?_;exact⟨rfl,rfl⟩
 ·simp[Lim,valL]
 ·rintro⟨k,c,out⟩ ⟨g1,g2,g3,g4,g5,g6⟩;try dsimp only at g1 g2 g3 g4 g5 g6
  refine s_g hG ?_;refine ag (aS ?_ ?_)
  ·intro hb1;(try simp only[bt] at hb1);refine ak (af (ag (al (s_q hG ?_ ?_))))
   ·(try simp only[ba]);exact⟨by omega,hb1⟩
   refine s_g hG ?_;refine cm (fun(z:Int)=>(⟨[(0,.l (.z (.slice (.int .u32)) m)),(1,.l (.z (.slice (.int .u32)) o)),(5,.l (.ownS 20)),(9,.l (.z (.int .u32) z)),(21,.l (.z (.slice (.int .u32)) m)),(22,.l (.z (.int .i64) (m.length:Int))),(23,.l (.z (.int .i64) (k:Int)))],[(20,.arr (.int .u32) 161 out)]⟩:aa)) (fun z=>z=m.getD k 0+c+o.getD k 0) ?_ ?_
   ·refine s_g hG ?_;refine aS ?_ ?_
    ·intro hb2;(try simp only[bt] at hb2);refine bd hG ?_ ?_
     ·(try simp only[ba]);exact⟨by omega,hb2⟩
     refine qm ?_;have hw:=wh (h1.1.getD k) (h2.1.getD k) ⟨g4,g5⟩;first|exact hw.2|(rw[gB,hw.1,List.getD_eq_getElem?_getD (l:=o),List.getElem?_eq_none (by omega)];simp)
    ·intro hb2;(try simp only[bf] at hb2);refine ak (qm ?_);have hw:=wh (h1.1.getD k) (h2.1.getD k) ⟨g4,g5⟩;first|exact hw.2|(rw[gB,hw.1,List.getD_eq_getElem?_getD (l:=o),List.getElem?_eq_none (by omega)];simp)
   rintro n hn;(try dsimp only at hn);refine s_g hG ?_;refine bd hG ?_ ?_
   ·(try simp only[ba]);exact⟨by omega,by unfold Cm.Roomy;omega⟩
   (refine aD (af (bd hG ?_ ?_));·exact tt);refine qm ?_;obtain⟨q1,q2,q3,q4⟩:=CX h1.1 h2.1 g2 g3 g4 g5 g6 hn;exact⟨k+1,by rw[wo];simp,by omega,by simp[g2],q1,q2,q3,q4,by omega⟩
  ·intro hb1;(try simp only[bf] at hb1);refine aT (aA (ao (an (af (cm (fun(z:List Int)=>(⟨[(5,.l (.ownS 20))],[(20,.arr (.int .u32) 161 z)]⟩:aa)) (fun z=>z=limbs (valL m+valL o).toNat) ?_ ?_)))))
   ·refine s_g hG ?_;refine aS ?_ ?_
    ·intro hb3;(try simp only[bt] at hb3);refine bd hG ?_ ?_
     ·(try simp only[ba]);unfold Cm.Roomy;omega
     refine qm ?_;have he:=zW (out:=out) (c:=c) h1 h2 h3 (by omega) g3 g4 g5 (by rw[show k=m.length by omega,List.take_length,List.take_of_length_le h3] at g6;exact g6);first|exact he.1 hb3|exact he.2 hb3
    ·intro hb3;(try simp only[bf] at hb3);refine ak (qm ?_);have he:=zW (out:=out) (c:=c) h1 h2 h3 (by omega) g3 g4 g5 (by rw[show k=m.length by omega,List.take_length,List.take_of_length_le h3] at g6;exact g6);first|exact he.1 hb3|exact he.2 hb3
   rintro out2 hout;(try dsimp only at hout);refine s_g hG ?_;refine av (q_e [] ?_);rw[hout,h5]
def Gv(B:aq):Tab:={types:=[(3,(.int .i64))],elems:=[],cons:=[],hint:=[],N:=6,base:=B}
theorem Pe{B:aq}(hB:aN B):bx prog (Gv B):=⟨⟨tc ty3 ab,ae,by simp only[Gv,ioB];omega⟩,bI rfl,by kernel_rfl⟩
def Gw:Con:=fun l os=>match l,os with
 | [.z (.int .i64) a],[]=>some (True,[.z .bool false],[])
 |_,_=>none
theorem Sh{B:aq}(hB:aN B):Valid B prog 194 Gw:=by
 refine aW (Pe hB).tab func194 rfl rfl rfl ?_;intro args os C rs os' hc hC;unfold Gw at hc;split at hc;case h_2=>cases hc
 rename_i a;cases hc;refine v_h (Pe hB) fun X hP hT hr hG=>?_;have hU:=Gv.eq_1;unfold Gv at hT;have hX:=Bool.not_true;simp only[f194,az,aj,ioB];refine s_g hG ?_;refine s_g hG ?_;refine av (q_e [] ?_);trivial
def Gx(B:aq):Tab:={types:=[(161,(.int .u32))],elems:=[],cons:=[],hint:=[],N:=6,base:=B}
theorem Pf{B:aq}(hB:aN B):bx prog (Gx B):=⟨⟨tc gG ab,ae,by simp only[Gx,ioB];omega⟩,bI rfl,by kernel_rfl⟩
def Gy:Con:=fun l os=>match l,os with
 | [.z (.int .u32) a],[]=>some (True,[.z .bool false],[])
 |_,_=>none
theorem Si{B:aq}(hB:aN B):Valid B prog 195 Gy:=by
 refine aW (Pf hB).tab func195 rfl rfl rfl ?_;intro args os C rs os' hc hC;unfold Gy at hc;split at hc;case h_2=>cases hc
 rename_i a;cases hc;refine v_h (Pf hB) fun X hP hT hr hG=>?_;have hU:=Gx.eq_1;unfold Gx at hT;have hX:=Bool.not_true;simp only[f195,az,aj,ioB];refine s_g hG ?_;refine s_g hG ?_;refine av (q_e [] ?_);trivial
def Gz(B:aq):Tab:={types:=[(3,(.int .i64))],elems:=[],cons:=[(194,Gw)],hint:=[],N:=20,base:=B}
theorem Pg{B:aq}(hB:aN B):bx prog (Gz B):=⟨⟨tc ty3 ab,ae,by simp only[Gz,ioB];omega⟩,aC (cc func194 (Sh hB) ax),by kernel_rfl⟩
def xr:Con:=fun l os=>match l,os with
 | [.z (.int .i64) a,.z (.int .i64) b],[]=>some (True,[.z (.int .i64) (bg a b)],[])
 |_,_=>none
theorem GA{B:aq}(hB:aN B):Valid B prog 180 xr:=by
 refine aW (Pg hB).tab func180 rfl rfl rfl ?_;intro args os C rs os' hc hC;unfold xr at hc;split at hc;case h_2=>cases hc
 rename_i a b;cases hc;refine v_h (Pg hB) fun X hP hT hr hG=>?_;have hU:=Gz.eq_1;unfold Gz at hT;have hX:=ai @cx<| @Gw.eq_1;simp only[f180,az,aj,ioB];refine s_g hG ?_;refine s_g hG ?_;refine s_g hG ?_;refine ag (s_g hG ?_);refine aS ?_ ?_;·intro hb0;cases hb0
 ·intro hb0;try simp only[bf] at hb0
  refine ak (af (ag (s_g hG ?_)));refine aS ?_ ?_;·intro hb1;cases hb1
  ·intro hb1;(try simp only[bf] at hb1);refine ak (af (ag (s_g hG ?_)));refine aS ?_ ?_;·intro hb2;(try simp only[bt] at hb2);refine s_g hG ?_;refine av (aw (q_e [] ?_));rw[bg,if_pos hb2]
   ·(intro hb2;(try simp only[bf] at hb2);refine ak (af (ag (s_g hG ?_)));refine aS ?_ ?_;·intro hb3;(try simp only[bt] at hb3);refine s_g hG ?_;refine av (aw (q_e [] ?_));rw[bg,if_neg (by omega),if_pos hb3]);·intro hb3;(try simp only[bf] at hb3);refine ak (af (s_g hG ?_));refine av (q_e [] ?_);rw[bg,if_neg hb2,if_neg hb3]
def GB(B:aq):Tab:={types:=[(161,(.int .u32))],elems:=[],cons:=[(195,Gy)],hint:=[],N:=20,base:=B}
theorem Ph{B:aq}(hB:aN B):bx prog (GB B):=⟨⟨tc gG ab,ae,by simp only[GB,ioB];omega⟩,aC (cc func195 (Si hB) ax),by kernel_rfl⟩
def GC:Con:=fun l os=>match l,os with
 | [.z (.int .u32) a,.z (.int .u32) b],[]=>some (True,[.z (.int .i64) (bg a b)],[])
 |_,_=>none
theorem Sj{B:aq}(hB:aN B):Valid B prog 181 GC:=by
 refine aW (Ph hB).tab func181 rfl rfl rfl ?_;intro args os C rs os' hc hC;unfold GC at hc;split at hc;case h_2=>cases hc
 rename_i a b;cases hc;refine v_h (Ph hB) fun X hP hT hr hG=>?_;have hU:=GB.eq_1;unfold GB at hT;have hX:=ai @cx<| @Gy.eq_1;simp only[f181,az,aj,ioB];refine s_g hG ?_;refine s_g hG ?_;refine s_g hG ?_;refine ag (s_g hG ?_);refine aS ?_ ?_;·intro hb0;cases hb0
 ·intro hb0;try simp only[bf] at hb0
  refine ak (af (ag (s_g hG ?_)));refine aS ?_ ?_;·intro hb1;cases hb1
  ·intro hb1;(try simp only[bf] at hb1);refine ak (af (ag (s_g hG ?_)));refine aS ?_ ?_;·intro hb2;(try simp only[bt] at hb2);refine s_g hG ?_;refine av (aw (q_e [] ?_));rw[bg,if_pos hb2]
   ·(intro hb2;(try simp only[bf] at hb2);refine ak (af (ag (s_g hG ?_)));refine aS ?_ ?_;·intro hb3;(try simp only[bt] at hb3);refine s_g hG ?_;refine av (aw (q_e [] ?_));rw[bg,if_neg (by omega),if_pos hb3]);·intro hb3;(try simp only[bf] at hb3);refine ak (af (s_g hG ?_));refine av (q_e [] ?_);rw[bg,if_neg hb2,if_neg hb3]
def GD(B:aq):Tab:={types:=[(3,(.int .i64)),(87,(.slice (.int .u32))),(89,tyW),(161,(.int .u32))],elems:=[],cons:=[],hint:=[],N:=30,base:=B}
theorem Pi{B:aq}(hB:aN B):bx prog (GD B):=⟨⟨tc ty3 (tc jF (tc iV (tc gG ab))),ae,by simp only[GD,ioB];omega⟩,bI rfl,by kernel_rfl⟩
def eP:Con:=fun l os=>match l,os with
 | [.z .bool s,.z (.slice (.int .u32)) m],[]=>some (Lim m/\m.length<CAP,[.z tyW (enc (dec (s,m)))],[])
 |_,_=>none
theorem lN{B:aq}(hB:aN B):Valid B prog 150 eP:=by
 refine aW (Pi hB).tab func150 rfl rfl rfl ?_;intro args os C rs os' hc hC;unfold eP at hc;split at hc;case h_2=>cases hc
 rename_i s m;cases hc;refine v_h (Pi hB) fun X hP hT hr hG=>?_;have hU:=GD.eq_1;unfold GD at hT;have hX:=Bool.not_true;simp only[f150,az,aj,ioB];refine s_g hG ?_;refine ag (al (aY (fun(z:List Int)=>(⟨[(0,.l (.z .bool s)),(1,.l (.z (.slice (.int .u32)) z)),(4,.l (.ownP 4 0))],[(4,.box 89 [.z .bool false,.val (.slice none 0 0)])]⟩:aa)) (fun z=>Lim z/\valL z=valL m/\z.length<=m.length) (fun z=>z.length) m ?_ ?_ ?_));·simp only[ml0,ml1,Nat.reduceLT,Nat.reduceEqDiff,Nat.reduceAdd,Nat.reduceMul,Nat.reduceSub,Nat.reduceLeDiff,Nat.reduceBEq,Nat.reduceBNe,reduceIte,reduceDIte,reduceCtorEq]
 ·exact⟨hC.1,rfl,Nat.le_refl _⟩
 ·rintro z ⟨g1,g2,g3⟩;try dsimp only at g1 g2 g3
  have h4:z.length<1000000000000:=Nat.lt_of_le_of_lt g3 hC.2;refine ag (s_q hG ?_ ?_)
  ·(try simp only[ba]);exact⟨id,id,fun h=>⟨h,by simp only[decide_eq_true_eq] at h;rw[wo];omega⟩,id⟩
  refine aS ?_ ?_
  ·intro hb0;(try simp only[bt] at hb0);refine ak (af (al (bd hG ?_ ?_)))
   ·(try simp only[ba]);rw[wo];omega
   refine aD (qm ?_);exact whole_round g1 g2 g3 hb0.1 h4 hb0.2
  ·intro hb0;(try simp only[bf] at hb0);refine aT (aA (ao (an (af (s_q hG ?_ ?_)))))
   ·(try simp only[ba]);exact id
   refine av (q_e [] ?_);refine IL g1 g2 fun hz h0=>?_;have:=hb0 (by simp;omega);rw[wo,last_eq hz] at this;exact this h0
def GE(B:aq):Tab:={types:=[(4,.bool),(87,(.slice (.int .u32))),(89,tyW)],elems:=[],cons:=[(150,eP)],hint:=[],N:=9,base:=B}
theorem Pj{B:aq}(hB:aN B):bx prog (GE B):=⟨⟨tc ty4 (tc jF (tc iV ab)),ae,by simp only[GE,ioB];omega⟩,aC (cc func150 (lN hB) ax),by kernel_rfl⟩
def BK:Con:=fun l os=>match l,os with
 | [.z (.st (.pair .bool (.slice (.int .u32)))) x],[]=>some (Lim x.2/\x.2.length<CAP,[.z tyW (enc (-dec x))],[])
 |_,_=>none
theorem yT{B:aq}(hB:aN B):Valid B prog 148 BK:=by
 refine aW (Pj hB).tab func148 rfl rfl rfl ?_;intro args os C rs os' hc hC;unfold BK at hc;split at hc;case h_2=>cases hc
 rename_i x;cases hc;refine v_h (Pj hB) fun X hP hT hr hG=>?_;have hU:=GE.eq_1;unfold GE at hT;have hX:=ai @cx<| @eP.eq_1;simp only[f148,az,aj,ioB];refine s_g hG ?_;refine s_q hG ?_ ?_
 ·try simp only[ba]
  exact hC
 refine av (q_e [] ?_);rw[Ff]
def GF(B:aq):Tab:={types:=[(3,(.int .i64)),(4,.bool),(87,(.slice (.int .u32))),(89,tyW)],elems:=[],cons:=[],hint:=[],N:=11,base:=B}
theorem Pk{B:aq}(hB:aN B):bx prog (GF B):=⟨⟨tc ty3 (tc ty4 (tc jF (tc iV ab))),ae,by simp only[GF,ioB];omega⟩,bI rfl,by kernel_rfl⟩
def rO:Con:=fun l os=>match l,os with
 | [.z (.st (.pair .bool (.slice (.int .u32)))) x],[]=>some (WOK x,[.z (.int .i64) (bg (dec x) 0)],[])
 |_,_=>none
theorem yU{B:aq}(hB:aN B):Valid B prog 154 rO:=by
 refine aW (Pk hB).tab func154 rfl rfl rfl ?_;intro args os C rs os' hc hC;unfold rO at hc;split at hc;case h_2=>cases hc
 rename_i x;cases hc;refine v_h (Pk hB) fun X hP hT hr hG=>?_;have hU:=GF.eq_1;unfold GF at hT;have hX:=Bool.not_true;simp only[f154,az,aj,ioB];refine s_g hG ?_;refine ag (al (s_g hG ?_));refine aS ?_ ?_
 ·intro hb0;try simp only[bt] at hb0
  refine s_g hG ?_;refine av (bk (aw (q_e [] ?_)));rw[bg,if_neg (by have:=(gC hC).1.1 hb0;omega),if_neg (by have:=(gC hC).1.1 hb0;omega)]
 ·intro hb0;try simp only[bf] at hb0
  refine s_g hG ?_;refine aS ?_ ?_;·intro hb1;(try simp only[bt] at hb1);refine s_g hG ?_;refine av (bk (aw (q_e [] ?_)));rw[bg,if_pos (((gC hC).2 hb0).1 hb1)]
  ·intro hb1;(try simp only[bf] at hb1);refine ak (aD (af (s_g hG ?_)));refine av (q_e [] ?_);have:=((gC hC).2 hb0).2 hb1;rw[bg,if_neg (by omega),if_pos this]
def GG(B:aq):Tab:={types:=[(3,(.int .i64)),(87,(.slice (.int .u32))),(161,(.int .u32))],elems:=[],cons:=[(180,xr),(181,GC)],hint:=[],N:=35,base:=B}
theorem Pm{B:aq}(hB:aN B):bx prog (GG B):=⟨⟨tc ty3 (tc jF (tc gG ab)),ae,by simp only[GG,ioB];omega⟩,aC (cc func180 (GA hB) (cc func181 (Sj hB) ax)),by kernel_rfl⟩
def fK:Con:=fun l os=>match l,os with
 | [.z (.slice (.int .u32)) m,.z (.slice (.int .u32)) o],[]=>some (Cano m/\Cano o/\m.length+o.length<CAP,[.z (.int .i64) (bg (valL m) (valL o))],[])
 |_,_=>none
theorem yV{B:aq}(hB:aN B):Valid B prog 152 fK:=by
 refine aW (Pm hB).tab func152 rfl rfl rfl ?_;intro args os C rs os' hc hC;unfold fK at hc;split at hc;case h_2=>cases hc
 rename_i m o;cases hc;refine v_h (Pm hB) fun X hP hT hr hG=>?_;have hU:=GG.eq_1;unfold GG at hT;have hX:=ai @cx<|ai @xr.eq_1<| @GC.eq_1;simp only[f152,az,aj,ioB];refine s_g hG ?_;refine ag (s_g hG ?_);refine s_g hG ?_;refine aS ?_ ?_
 ·intro hb0;try simp only[bt] at hb0
  refine s_g hG ?_;refine av (aw (q_e [] ?_));exact cmp_lens hC.1 hC.2.1 hb0
 ·intro hb0;try simp only[decide_eq_true_eq,decide_eq_false_iff_not,bne_eq_false_iff_eq] at hb0
  obtain⟨c1,c2,c3⟩:=hC;have c3:List.length m+List.length o<1000000000000:=c3;have hl:List.length m=List.length o:=by have:=o5.1 hb0;omega
  refine ak (af (ag (s_g hG ?_)));refine al (aY (fun(z:Nat)=>(⟨[(0,.l (.z (.slice (.int .u32)) m)),(1,.l (.z (.slice (.int .u32)) o)),(6,.l (.z (.int .i64) ((z:Int)-1)))],[]⟩:aa)) (fun z=>z<=List.length m/\List.drop z m=List.drop z o) (fun z=>z) (List.length m) ?_ ?_ ?_);·refine q_l ?_;exact wo
  ·exact⟨Nat.le_refl _,by rw[List.drop_length,List.drop_of_length_le (by omega)]⟩
  ·rintro k ⟨g1,g2⟩;(try dsimp only at g1 g2);refine ag (s_g hG ?_);refine aS ?_ ?_
   ·intro hb1;(try simp only[bt] at hb1);refine ak (af (ag (al (s_d hG ?_ ?_))))
    ·(try simp only[ba]);omega
    refine s_g hG ?_;refine aS ?_ ?_;·intro hb2;(try simp only[bt] at hb2);refine s_g hG ?_;refine av (bk (aw (dc (bk (aw (q_e [] ?_))))));obtain⟨j,rfl⟩:∃j,k=j+1:=⟨k-1,by omega⟩;(have hk:((j+1:Nat):Int)-1=(j:Int):=by omega);rw[hk] at hb2 ⊢;exact cmp_place (k:=j) c1 c2 hl (by omega) g2 hb2
    ·(intro hb2;(try simp only[bf] at hb2);refine ak (aD (af (bd hG ?_ ?_)));·exact tt);refine qm ?_;(have hk:(k:Int)-1=((k-1:Nat):Int):=by omega);refine⟨k-1,by rw[hk,wo],by omega,?_,by omega⟩;refine drop_step (k:=k-1) hl (by omega) (by rw[show k-1+1=k by omega];exact g2) ?_;rw[hk] at hb2;exact o5.1 hb2
   ·intro hb1;(try simp only[bf] at hb1);refine aT (aA (ao (an (af (s_g hG ?_)))));refine av (q_e [] ?_);(have:k=0:=by omega);subst this;simp only[List.drop_zero] at g2;rw[g2];simp[bg]
def GH(B:aq):Tab:={types:=[(2,(.int .i64)),(3,(.int .i64)),(87,(.slice (.int .u32))),(161,(.int .u32))],elems:=[(87,161)],cons:=[],hint:=[],N:=46,base:=B}
theorem Pn{B:aq}(hB:aN B):bx prog (GH B):=⟨⟨tc ty2 (tc ty3 (tc jF (tc gG ab))),aK (by kernel_rfl) ae,by simp only[GH,ioB];omega⟩,bI rfl,by kernel_rfl⟩
def yW:Con:=fun l os=>match l,os with
 | [.z (.slice (.int .u32)) m,.z (.slice (.int .u32)) o],[]=>some (Cano m/\Cano o/\valL o<=valL m/\m.length<CAP,[.z (.slice (.int .u32)) (padL (valL m-valL o).toNat m.length)],[])
 |_,_=>none
theorem Sk{B:aq}(hB:aN B):Valid B prog 153 yW:=by
 refine aW (Pn hB).tab func153 rfl rfl rfl ?_;intro args os C rs os' hc hC;unfold yW at hc;split at hc;case h_2=>cases hc
 rename_i m o;cases hc;refine v_h (Pn hB) fun X hP hT hr hG=>?_;have hU:=GH.eq_1;unfold GH at hT;have hX:=Bool.not_true;simp only[f153,az,aj,ioB];refine s_g hG ?_;refine s_q hG ?_ ?_
 ·try simp only[ba]
  exact⟨by omega,by omega,by have:List.length m<1000000000000:=hC.2.2.2;unfold Cm.Roomy;omega⟩
 refine s_g hG ?_;refine ag (s_g hG ?_);refine al (aY (fun(z:Nat×Int×List Int)=>(⟨[(1,.l (.z (.slice (.int .u32)) o)),(5,.l (.ownS 12)),(6,.l (.z (.int .i64) z.2.1)),(13,.l (.z (.slice (.int .u32)) m)),(14,.l (.z (.int .i64) (List.length m:Int))),(15,.l (.z (.int .i64) (z.1:Int)))],[(12,.arr (.int .u32) 161 z.2.2)]⟩:aa)) (fun z=>z.1<=List.length m/\z.2.2.length=z.1/\Lim z.2.2/\0<=z.2.1/\z.2.1<=1/\valL z.2.2+valL (List.take z.1 o)=valL (List.take z.1 m)+LB^z.1*z.2.1) (fun z=>List.length m-z.1) (0,0,[]) ?_ ?_ ?_);·refine q_l ?_;exact⟨rfl,rfl⟩
 ·simp[Lim,valL]
 ·rintro⟨k,b,out⟩ ⟨g1,g2,g3,g4,g5,g6⟩;try dsimp only at g1 g2 g3 g4 g5 g6
  obtain⟨c1,c2,c3,c4⟩:=hC;have c4:List.length m<1000000000000:=c4;have hx:=c1.1.getD k;have hy:=c2.1.getD k;have hB:LB=1000000000:=rfl;refine s_g hG ?_;refine ag (aS ?_ ?_)
  ·intro hb0;(try simp only[bt] at hb0);refine ak (af (ag (al (s_q hG ?_ ?_))))
   ·(try simp only[ba]);exact⟨by omega,by omega⟩
   refine s_g hG ?_;refine cm (fun(z:Int)=>(⟨[(1,.l (.z (.slice (.int .u32)) o)),(5,.l (.ownS 12)),(9,.l (.z (.int .i64) z)),(13,.l (.z (.slice (.int .u32)) m)),(14,.l (.z (.int .i64) (List.length m:Int))),(15,.l (.z (.int .i64) (k:Int)))],[(12,.arr (.int .u32) 161 out)]⟩:aa)) (fun z=>z=List.getD m k 0-b-List.getD o k 0) ?_ ?_
   ·refine s_g hG ?_;refine aS ?_ ?_
    ·intro hb1;(try simp only[bt] at hb1);refine bd hG ?_ ?_
     ·(try simp only[ba]);exact⟨by omega,by omega⟩
     refine qm ?_;rw[gB,wi (x:=List.getD m k 0) (by omega) (by omega),wi (x:=List.getD m k 0-b) (by omega) (by omega)];first|(rw[gB,wi (x:=List.getD o k 0) (by omega) (by omega)];exact wo)|(rw[List.getD_eq_getElem?_getD (l:=o),List.getElem?_eq_none (by omega)];simp)
    ·intro hb1;(try simp only[bf] at hb1);refine ak (qm ?_);rw[gB,wi (x:=List.getD m k 0) (by omega) (by omega),wi (x:=List.getD m k 0-b) (by omega) (by omega)];first|(rw[gB,wi (x:=List.getD o k 0) (by omega) (by omega)];exact wo)|(rw[List.getD_eq_getElem?_getD (l:=o),List.getElem?_eq_none (by omega)];simp)
   rintro n hn;(try dsimp only at hn);refine s_g hG ?_;refine cm (fun(z:Int×Int)=>(⟨[(1,.l (.z (.slice (.int .u32)) o)),(5,.l (.ownS 12)),(6,.l (.z (.int .i64) z.2)),(9,.l (.z (.int .i64) z.1)),(13,.l (.z (.slice (.int .u32)) m)),(14,.l (.z (.int .i64) (List.length m:Int))),(15,.l (.z (.int .i64) (k:Int)))],[(12,.arr (.int .u32) 161 out)]⟩:aa)) (fun z=>0<=z.1/\z.1<LB/\0<=z.2/\z.2<=1/\z.1-LB*z.2=n) ?_ ?_
   ·refine s_g hG ?_;refine aS ?_ ?_
    ·(intro hb2;(try simp only[bt] at hb2);refine bd hG ?_ ?_;·exact tt);refine qm ?_;first|(rw[wo];exact⟨by omega,by omega,by omega,by omega,by omega⟩)|exact⟨by omega,by omega,by omega,by omega,by omega⟩
    ·intro hb2;(try simp only[bf] at hb2);refine ak (qm ?_);first|(rw[wo];exact⟨by omega,by omega,by omega,by omega,by omega⟩)|exact⟨by omega,by omega,by omega,by omega,by omega⟩
   rintro⟨n2,b2⟩ hn2;(try dsimp only at hn2);refine bd hG ?_ ?_
   ·(try simp only[ba]);unfold Cm.Roomy;omega
   (refine aD (af (bd hG ?_ ?_));·exact tt);refine qm ?_;obtain⟨hn1,hn2,hn3,hn4,hn5⟩:=hn2;rw[w32 hn1 (by omega)];obtain⟨q1,q2⟩:=minus_round (b:=b) g2 g3 g6 hn1 hn2 (b':=b2) (by omega);exact⟨k+1,by rw[wo];simp,by omega,by simp[g2],q1,hn3,hn4,q2,by omega⟩
  ·intro hb0;(try simp only[bf] at hb0);refine aT (aA (ao (an (af (s_g hG ?_)))));refine av (q_e [] ?_);(have hk:k=List.length m:=by omega);subst hk;exact minus_end c1 c2 c3 g2 g3 g4 (by rw[List.take_length] at g6;exact g6)
def GI(B:aq):Tab:={types:=[(3,(.int .i64)),(4,.bool),(87,(.slice (.int .u32))),(89,tyW)],elems:=[],cons:=[(150,eP),(151,Gu),(152,fK),(153,yW)],hint:=[],N:=42,base:=B}
theorem Po{B:aq}(hB:aN B):bx prog (GI B):=⟨⟨tc ty3 (tc ty4 (tc jF (tc iV ab))),ae,by simp only[GI,ioB];omega⟩,aC (cc func150 (lN hB) (cc func151 (Sg hB) (cc func152 (yV hB) (cc func153 (Sk hB) ax)))),by kernel_rfl⟩
def BL:Con:=fun l os=>match l,os with
 | [.z (.st (.pair .bool (.slice (.int .u32)))) x,.z (.st (.pair .bool (.slice (.int .u32)))) y],[]=>some (WOK x/\WOK y/\x.2.length+y.2.length<CAP,[.z tyW (enc (dec x+dec y))],[])
 |_,_=>none
theorem yX{B:aq}(hB:aN B):Valid B prog 110 BL:=by
 refine aW (Po hB).tab func110 rfl rfl rfl ?_;intro args os C rs os' hc hC;unfold BL at hc;split at hc;case h_2=>cases hc
 rename_i x y;cases hc;refine v_h (Po hB) fun X hP hT hr hG=>?_;have hU:=GI.eq_1;unfold GI at hT;have hX:=ai @cx<|ai @fK.eq_1<|ai @yW.eq_1<|ai @Gu.eq_1<| @eP.eq_1;simp only[f110,az,aj,ioB];refine s_g hG ?_;refine ag (al (s_g hG ?_));refine aS ?_ ?_
 ·intro hb0;try simp only[bt] at hb0
  refine s_d hG ?_ ?_
  ·(try simp only[ba]);obtain⟨c1,c2,c3⟩:=hC;exact⟨⟨c1.1,c2.1,c3⟩,(limbs_can _).1,Nat.lt_of_le_of_lt (plus_len c1.1 c2.1) c3⟩
  refine av (bk (aw (q_e [] ?_)));exact add_same hC.1 hC.2.1 hb0
 ·intro hb0;try simp only[bf] at hb0
  refine s_q hG ?_ ?_
  ·(try simp only[ba]);obtain⟨c1,c2,c3⟩:=hC;exact⟨c1.1,c2.1,c3⟩
  refine aS ?_ ?_
  ·intro hb1;(try simp only[bt] at hb1);refine s_d hG ?_ ?_
   ·(try simp only[ba]);obtain⟨c1,c2,c3⟩:=hC;rw[o6] at hb1;exact⟨⟨c2.1,c1.1,by omega,by omega⟩,padL_lim _ _,by rw[padL_len];omega⟩
   refine av (bk (aw (q_e [] ?_)));rw[o6] at hb1;rw[zX (fun e=>hb0 e.symm) (minus_val hC.2.1.1 hC.1.1 (by omega)),Int.add_comm]
  ·intro hb1;(try simp only[bf] at hb1);refine ak (aD (af (s_d hG ?_ ?_)))
   ·(try simp only[ba]);obtain⟨c1,c2,c3⟩:=hC;rw[o6] at hb1;exact⟨⟨c1.1,c2.1,by omega,by omega⟩,padL_lim _ _,by rw[padL_len];omega⟩
   refine av (q_e [] ?_);rw[o6] at hb1;exact zX hb0 (minus_val hC.1.1 hC.2.1.1 (by omega))
def GJ(B:aq):Tab:={types:=[(89,tyW)],elems:=[],cons:=[(110,BL),(148,BK)],hint:=[],N:=9,base:=B}
theorem Pp{B:aq}(hB:aN B):bx prog (GJ B):=⟨⟨tc iV ab,ae,by simp only[GJ,ioB];omega⟩,aC (cc func110 (yX hB) (cc func148 (yT hB) ax)),by kernel_rfl⟩
def Sl:Con:=fun l os=>match l,os with
 | [.z (.st (.pair .bool (.slice (.int .u32)))) x,.z (.st (.pair .bool (.slice (.int .u32)))) y],[]=>some (WOK x/\WOK y/\x.2.length+y.2.length<CAP,[.z tyW (enc (dec x-dec y))],[])
 |_,_=>none
theorem Sn{B:aq}(hB:aN B):Valid B prog 179 Sl:=by
 refine aW (Pp hB).tab func179 rfl rfl rfl ?_;intro args os C rs os' hc hC;unfold Sl at hc;split at hc;case h_2=>cases hc
 rename_i x y;cases hc;refine v_h (Pp hB) fun X hP hT hr hG=>?_;have hU:=GJ.eq_1;unfold GJ at hT;have hX:=ai @cx<|ai @BL.eq_1<| @BK.eq_1;simp only[f179,az,aj,ioB];refine s_g hG ?_;refine s_d hG ?_ ?_
 ·try simp only[ba]
  obtain⟨c1,c2,c3⟩:=hC;exact⟨⟨c2.1.1,by omega⟩,c1,enc_ok _,by rw[Qp c2];exact c3⟩
 refine av (q_e [] ?_);rw[bX];rfl
def GK(B:aq):Tab:={types:=[(3,(.int .i64)),(4,.bool),(87,(.slice (.int .u32))),(89,tyW),(161,(.int .u32)),(164,(.int .u64))],elems:=[(87,161)],cons:=[(150,eP)],hint:=[],N:=79,base:=B}
theorem Pq{B:aq}(hB:aN B):bx prog (GK B):=⟨⟨tc ty3 (tc ty4 (tc jF (tc iV (tc gG (tc ph ab))))),aK (by kernel_rfl) ae,by simp only[GK,ioB];omega⟩,aC (cc func150 (lN hB) ax),by kernel_rfl⟩
def BM:Con:=fun l os=>match l,os with
 | [.z (.st (.pair .bool (.slice (.int .u32)))) x,.z (.st (.pair .bool (.slice (.int .u32)))) y],[]=>some (WOK x/\WOK y/\x.2.length+y.2.length<CAP,[.z tyW (enc (dec x*dec y))],[])
 |_,_=>none
theorem yY{B:aq}(hB:aN B):Valid B prog 109 BM:=by
 refine aW (Pq hB).tab func109 rfl rfl rfl ?_;intro args os C rs os' hc hC;unfold BM at hc;split at hc;case h_2=>cases hc
 rename_i x y;cases hc;refine v_h (Pq hB) fun X hP hT hr hG=>?_;have hU:=GK.eq_1;unfold GK at hT;have hX:=ai @cx<| @eP.eq_1;simp only[f109,az,aj,ioB];refine s_g hG ?_;refine s_q hG ?_ ?_
 ·try simp only[ba]
  have c3:List.length x.2+List.length y.2<1000000000000:=hC.2.2;rw[wo];exact⟨by omega,by omega,by unfold Cm.Roomy;omega⟩
 refine ag (s_g hG ?_);refine al (aY (fun(z:Nat×List Int)=>(⟨[(2,.l (.z (.ptr tyW) x)),(3,.l (.z (.ptr tyW) y)),(4,.l (.ownP 4 0)),(5,.l (.ownS 19)),(21,.l (.z (.slice (.int .u32)) x.2)),(22,.l (.z (.int .i64) (List.length x.2:Int))),(23,.l (.z (.int .i64) (z.1:Int)))],[(19,.arr (.int .u32) 161 z.2),(4,.box 89 [.z .bool false,.val (.slice none 0 0)])]⟩:aa)) (fun z=>z.1<=List.length x.2/\z.2.length=List.length x.2+List.length y.2/\Lim z.2/\valL z.2=valL (List.take z.1 x.2)*valL y.2/\∀j,z.1+List.length y.2<=j->z.2.getD j 0=0) (fun z=>List.length x.2-z.1) (0,List.replicate (List.length x.2+List.length y.2) 0) ?_ ?_ ?_);·refine q_l ?_;have c3:List.length x.2+List.length y.2<1000000000000:=hC.2.2;rw[wo];exact⟨rfl,by congr 1⟩
 ·obtain⟨r1,r2,r3⟩:=replicate_zero (List.length x.2+List.length y.2);exact⟨by simp,by simp,r1,by simp[r2,valL],fun j _=>r3 j⟩
 ·rintro⟨i,out⟩ ⟨g1,g2,g3,g4,g5⟩;try dsimp only at g1 g2 g3 g4 g5
  obtain⟨c1,c2,c3⟩:=hC;have c3:List.length x.2+List.length y.2<1000000000000:=c3;have hB:LB=1000000000:=rfl;refine s_g hG ?_;refine ag (aS ?_ ?_)
  ·intro hb0;(try simp only[bt] at hb0);refine ak (af (ag (al (s_q hG ?_ ?_))))
   ·(try simp only[ba]);omega
   (refine s_g hG ?_;refine ag (s_g hG ?_);refine al (aY (fun(z:Nat×Int×List Int)=>(⟨[(2,.l (.z (.ptr tyW) x)),(3,.l (.z (.ptr tyW) y)),(4,.l (.ownP 4 0)),(5,.l (.ownS 19)),(6,.l (.z (.int .i64) (i:Int))),(7,.l (.z (.int .u32) (List.getD x.2 i 0))),(8,.l (.z (.int .u64) z.2.1)),(21,.l (.z (.slice (.int .u32)) x.2)),(22,.l (.z (.int .i64) (List.length x.2:Int))),(23,.l (.z (.int .i64) (i:Int))),(29,.l (.z (.slice (.int .u32)) y.2)),(30,.l (.z (.int .i64) (List.length y.2:Int))),(31,.l (.z (.int .i64) (z.1:Int)))],[(19,.arr (.int .u32) 161 z.2.2),(4,.box 89 [.z .bool false,.val (.slice none 0 0)])]⟩:aa)) (fun z=>z.1<=List.length y.2/\z.2.2.length=List.length x.2+List.length y.2/\Lim z.2.2/\0<=z.2.1/\z.2.1<LB/\valL z.2.2+LB^(i+z.1)*z.2.1=valL (List.take i x.2)*valL y.2+LB^i*(List.getD x.2 i 0*valL (List.take z.1 y.2))/\∀j,i+List.length y.2<=j->z.2.2.getD j 0=0) (fun z=>List.length y.2-z.1) (0,0,out) ?_ ?_ ?_);·refine q_l ?_;exact⟨rfl,rfl⟩);·exact⟨by simp,g2,g3,by simp,by simp;decide,by simp[valL,g4],g5⟩
   ·rintro⟨k,c,out2⟩ ⟨k1,k2,k3,k4,k5,k6,k7⟩;(try dsimp only at k1 k2 k3 k4 k5 k6 k7);(have e1:IntKind.i64.wrap ((i:Int)+(k:Int))=((i+k:Nat):Int):=by rw[wo];omega);refine s_g hG ?_;refine ag (aS ?_ ?_)
    ·intro hb1;(try simp only[bt] at hb1);refine ak (af (ag (al (s_q hG ?_ ?_))))
     ·(try simp only[ba]);omega
     refine cm (fun(z:Int)=>(⟨[(2,.l (.z (.ptr tyW) x)),(3,.l (.z (.ptr tyW) y)),(4,.l (.ownP 4 0)),(5,.l (.ownS 19)),(6,.l (.z (.int .i64) (i:Int))),(7,.l (.z (.int .u32) (List.getD x.2 i 0))),(9,.l (.z (.int .i64) (k:Int))),(11,.l (.z (.int .u64) z)),(21,.l (.z (.slice (.int .u32)) x.2)),(22,.l (.z (.int .i64) (List.length x.2:Int))),(23,.l (.z (.int .i64) (i:Int))),(29,.l (.z (.slice (.int .u32)) y.2)),(30,.l (.z (.int .i64) (List.length y.2:Int))),(31,.l (.z (.int .i64) (k:Int)))],[(19,.arr (.int .u32) 161 out2),(4,.box 89 [.z .bool false,.val (.slice none 0 0)])]⟩:aa)) (fun z=>z=List.getD x.2 i 0*List.getD y.2 k 0+out2.getD (i+k) 0+c) ?_ ?_
     ·refine bd hG ?_ ?_
      ·(try simp only[ba]);rw[e1];omega
      refine qm ?_;rw[e1];exact Us (c1.1.1.getD i) (c2.1.1.getD k) (k3.getD (i+k)) ⟨k4,k5⟩
     rintro n hn;(try dsimp only at hn);refine bd hG ?_ ?_
     ·(try simp only[ba]);rw[e1];omega
     (refine aD (af (bd hG ?_ ?_));·exact tt);refine qm ?_;obtain⟨m0,m1,m2,m3,m4,m5,m6,m7⟩:=mul_step c1.1.1 c2.1.1 k2 k3 k4 k5 (by omega) (by omega) k6 k7 hn;obtain⟨t1,t2,t3⟩:=qs m0 m1;rw[e1,t2,t3,Int.toNat_natCast];exact⟨k+1,by rw[wo];simp,by omega,m2,m3,m4,m5,m6,m7,by omega⟩
    ·intro hb1;(try simp only[bf] at hb1);refine aT (aA (ao (an (af (bd hG ?_ ?_)))))
     ·(try simp only[ba]);rw[wo];omega
     (refine aD (af (bd hG ?_ ?_));·exact tt);refine qm ?_;(have e1:IntKind.i64.wrap ((i:Int)+(List.length y.2:Int))=((i+List.length y.2:Nat):Int):=by rw[wo];omega);(have hk:k=List.length y.2:=by omega);subst hk;rw[List.take_length] at k6;obtain⟨f1,f2,f3,f4⟩:=mul_row k2 k3 k4 k5 (by omega) rfl k6 k7;rw[e1,w32 k4 (by omega),Int.toNat_natCast];exact⟨i+1,by rw[wo];simp,by omega,f1,f2,f3,f4,by omega⟩
  ·intro hb0;(try simp only[bf] at hb0);refine aT (aA (ao (an (af (s_q hG ?_ ?_)))))
   ·(try simp only[ba]);exact⟨g3,by unfold CAP;omega⟩
   refine av (q_e [] ?_);(have hi:i=List.length x.2:=by omega);subst hi;rw[List.take_length] at g4;rw[<- Qq g4]
def SQ(B:aq):Tab:=mT B [(3,(.int .i64)),(9,.str)] [] [] [] 18
def yZ:Con:=c2 .str .str (fun s p=>True) (fun s p=>[.z .bool (dz s p)])
theorem So{B:aq}(hB:aN B):Valid B prog 139 yZ:=by
 refine v2 (mg (T:=SQ B) (tc ty3 (tc ty9 ab)) ae (bI rfl)) func139 ?_;intro s p hC X hP hT hr hG;have hX:=ai SQ.eq_1<|cx;simp only[f139,az,aj,ioB];refine sg ?_;refine sq ?_ ?_
 ·(repeat' (first|apply And.intro|intro _))<;>(try simp only[decide_eq_true_eq,decide_eq_false_iff_not,Bool.not_eq_true',beq_iff_eq,Int.toNat_natCast] at*)<;>first|assumption|omega|trivial|(simp_all;done)|(simp_all;omega)
 refine av (qe [] ?_);exact IP s p
def SR(B:aq):Tab:=mT B [(9,.str)] [] [(139,yZ)] [] 13
def iR:Con:=c2 .str .str (fun s p=>True) (fun s p=>[.z .str (ar s p)])
theorem Sp{B:aq}(hB:aN B):Valid B prog 186 iR:=by
 refine v2 (mg (T:=SR B) (tc ty9 ab) ae (aC (cc func139 (So hB) ax))) func186 ?_;intro s p hC X hP hT hr hG;have hX:=ai SR.eq_1<|ai cx<|yZ.eq_1;simp only[f186,az,aj,ioB];refine sg ?_;refine ag (sg ?_);refine qc ?_ ?_
 ·intro hb0;refine sq ?_ ?_;·have h:=hb0;unfold dz at h;simp only[Bool.and_eq_true,decide_eq_true_eq] at h;exact⟨by omega,by omega,by omega⟩
  refine av (aw (qe [] ?_));simp[ar,hb0]
 ·intro hb0;refine ak (af (sg ?_));refine av (qe [] ?_);simp[ar,hb0]
def SS(B:aq):Tab:=mT B [(9,.str)] [] [(186,iR)] [] 8
theorem GM{B:aq}(hB:aN B):Valid B prog 172 iR:=by
 refine v2 (mg (T:=SS B) (tc ty9 ab) ae (aC (cc func186 (Sp hB) ax))) func172 ?_;intro s p hC X hP hT hr hG;have hX:=ai SS.eq_1<|ai cx<|iR.eq_1;simp only[f172,az,aj,ioB];refine sg ?_;refine sg ?_;refine av (qe [] ?_);trivial
def SU(B:aq):Tab:=mT B [(87,(.slice (.int .u32)))] [] [] [] 4
def BN:Con:=c1 (.slice (.int .u32)) (fun xs=>True) (fun xs=>[.fn 208 [.z (.ptr (.slice (.int .u32))) xs]])
theorem GN{B:aq}(hB:aN B):Valid B prog 193 BN:=by
 refine v1 (mg (T:=SU B) (tc jF ab) ae (bI rfl)) func193 ?_;intro xs hC X hP hT hr hG;have hX:=ai SU.eq_1<|cx;simp only[f193,az,aj,ioB];refine sg ?_;refine sg ?_;refine av (qe [] ?_);rfl
def SV(B:aq):Tab:=mT B [(3,(.int .i64)),(4,.bool),(87,(.slice (.int .u32))),(89,tyW)] [] [(152,fK),(154,rO),(180,xr)] [] 32
def Uj:Con:=c2 tyW tyW (fun x y=>WOK x/\WOK y/\x.2.length+y.2.length<CAP) (fun x y=>[.z (.int .i64) (bg (dec x) (dec y))])
theorem Sq{B:aq}(hB:aN B):Valid B prog 168 Uj:=by
 refine v2 (mg (T:=SV B) (tc ty3 (tc ty4 (tc jF (tc iV ab)))) ae (aC (cc func152 (yV hB) (cc func154 (yU hB) (cc func180 (GA hB) ax))))) func168 ?_;intro x y hC X hP hT hr hG;have hX:=ai SV.eq_1<|ai cx<|ai xr.eq_1<|ai fK.eq_1<|rO.eq_1;simp only[f168,az,aj,ioB];refine sg ?_;refine ag (sd ?_ ?_);·exact⟨hC.1,hC.2.1⟩
 refine sq ?_ ?_
 ·(repeat' (first|apply And.intro|intro _))<;>(try simp only[decide_eq_true_eq,decide_eq_false_iff_not,Bool.not_eq_true',beq_iff_eq,Int.toNat_natCast] at*)<;>first|assumption|omega|trivial|(simp_all;done)|(simp_all;omega)
 refine qc ?_ ?_;·intro hb0;refine sg ?_;refine av (aw (qe [] ?_));exact IR hC.1 hb0
 ·intro hb0;refine ak (af (ag (sg ?_)));refine qc ?_ ?_
  ·(intro hb1;refine sq ?_ ?_;·exact⟨hC.2.1.1,hC.1.1,by omega⟩);refine av (aw (qe [] ?_));exact(tK hC.1 hC.2.1 hb0).1 hb1
  ·(intro hb1;refine ak (af (sq ?_ ?_));·exact⟨hC.1.1,hC.2.1.1,by omega⟩);refine av (qe [] ?_);exact(tK hC.1 hC.2.1 hb0).2 hb1
def SW(B:aq):Tab:=mT B [(3,(.int .i64)),(9,.str),(87,(.slice (.int .u32))),(89,tyW),(161,(.int .u32))] [] [(166,wk)] [] 22
def y0:Con:=c1 tyW (fun x=>WOK x/\x.2.length<CAP) (fun x=>[.z (.int .i64) (cr (dec x))])
theorem Sr{B:aq}(hB:aN B):Valid B prog 169 y0:=by
 refine v1 (mg (T:=SW B) (tc ty3 (tc ty9 (tc jF (tc iV (tc gG ab))))) ae (aC (cc func166 (Fg hB) ax))) func169 ?_;intro x hC X hP hT hr hG;have hX:=ai SW.eq_1<|ai cx<|wk.eq_1;simp only[f169,az,aj,ioB];refine sg ?_;refine sg ?_;refine ag (sg ?_);refine qc ?_ ?_;·intro hb0;refine sg ?_;refine av (aw (qe [] ?_));rw[(gC hC.1).1.1 hb0,wq]
 ·intro hb0;refine ak (af (sq ?_ ?_));·obtain⟨d1,d2,d3,d4⟩:=z8 hC.1 hC.2 hb0;have d5:=z7 hC.1.1.1 (by omega);have hB:LB=1000000000:=rfl;rw[d2,d3];exact⟨d1,by unfold I64;omega⟩
  refine av (qe [] ?_);obtain⟨d1,d2,d3,d4⟩:=z8 hC.1 hC.2 hb0;rw[d2,d3];exact d4
def SX(B:aq):Tab:=mT B [(3,(.int .i64)),(87,(.slice (.int .u32))),(89,tyW),(161,(.int .u32)),(164,(.int .u64))] [(87,161)] [] [] 27
def lO:Con:=c1 (.int .i64) (fun n=>I64 n) (fun n=>[.z tyW (enc n)])
theorem sn{B:aq}(hB:aN B):Valid B prog 133 lO:=by
 refine v1 (mg (T:=SX B) (tc ty3 (tc jF (tc iV (tc gG (tc ph ab))))) (aK (by kernel_rfl) ae) (bI rfl)) func133 ?_;intro n hC X hP hT hr hG;have hX:=ai SX.eq_1<|cx;simp only[f133,az,aj,ioB];refine sg ?_;refine sg ?_;refine sg ?_;refine cm (fun(z:Int)=>(⟨[(4,.l (.z (.int .u64) z)),(3,.l (.ownP 3 0)),(2,.l (.ownP 2 0))],[(3,.box 89 [.z .bool (decide (n<0)),.val (.slice none 0 0)]),(2,.box 89 [.z .bool false,.val (.slice none 0 0)])]⟩:aa)) (fun z=>z=n.natAbs) ?_ ?_
 ·refine sg ?_;refine qc ?_ ?_;·intro hb0;refine rg ?_;refine qm ?_;first|exact(nm hC).1 hb0|exact(nm hC).2 hb0
  ·intro hb0;refine ak (qm ?_);first|exact(nm hC).1 hb0|exact(nm hC).2 hb0
 rintro z hz;try dsimp only at hz
 refine ag (al (aY (fun(z:Nat×List Int)=>(⟨[(4,.l (.z (.int .u64) (z.1:Int))),(3,.l (.ownP 3 0)),(2,.l (.ownP 2 0))],[(3,.box 89 [.z .bool (decide (n<0)),.ownS 24]),(24,.arr (.int .u32) 161 z.2),(2,.box 89 [.z .bool false,.val (.slice none 0 0)])]⟩:aa)) (fun z=>z.2++limbs z.1=limbs n.natAbs/\z.1<18446744073709551616) (fun z=>z.1) (n.natAbs,[]) ?_ ?_ ?_));·refine q_l ?_;exact⟨hz,by unfold ioB;omega⟩
 ·exact⟨by simp,by have hC:I64 n:=hC;unfold I64 at hC;omega⟩
 ·rintro⟨u,m⟩ ⟨g1,g2⟩;try dsimp only at g1 g2
  refine ag (sg ?_);refine qc ?_ ?_
  ·(intro hb1;refine ak (af (ag (al (rq ?_ ?_))));·have h3:=oo (n:=n.natAbs) (by have hC:I64 n:=hC;unfold I64 at hC;omega);have h4:=congrArg List.length g1;simp only[List.length_append] at h4;exact⟨by omega,by unfold Cm.Roomy;omega⟩);refine aD (af (rg ?_));refine qm ?_;exact ry g1 g2 hb1
  ·intro hb1;refine aT (aA (ao (an (af (sg ?_)))));refine av (qe [24] ?_);(have h0:u=0:=by omega);subst h0;rw[show limbs 0=[] by simp[limbs],List.append_nil] at g1;rw[g1];rfl
def Pr(B:aq):Tab:=mT B [(3,(.int .i64)),(5,(.int .u8)),(9,.str)] [] [] [] 42
def y4:Con:=c1 .str (fun s=>s.length<CAP) (fun s=>[.z .bool (decide (chk s≠5))])
theorem Ps{B:aq}(hB:aN B):Valid B prog 135 y4:=by
 refine v1 (mg (T:=Pr B) (tc ty3 (tc ty5 (tc ty9 ab))) ae (bI rfl)) func135 ?_;intro s hC X hP hT hr hG;have hX:=ai Pr.eq_1<|cx;simp only[f135,az,aj,ioB];refine sg ?_;refine ag (sg ?_);refine aS ?_ ?_;·intro hb0;simp only[beq_iff_eq] at hb0;refine sg ?_;refine av (aw (qe [] ?_));exact MC hb0
 ·intro hb0;simp only[beq_eq_false_iff_ne,ne_eq] at hb0;refine ak (af (sg ?_));refine cm (fun(z:Unit)=>(⟨[(0,.l (.z .str s)),(3,.l (.z .str (ar s [45])))],[]⟩:aa)) (fun z=>True) ?_ ?_
  ·refine sq ?_ ?_
   ·(repeat' (first|apply And.intro|intro _))<;>(try simp only[decide_eq_true_eq,decide_eq_false_iff_not,Bool.not_eq_true',beq_iff_eq,Int.toNat_natCast] at*)<;>first|assumption|omega|trivial|(simp_all;done)|(simp_all;omega)
   refine qc ?_ ?_
   ·(intro hb1;refine rq ?_ ?_;·have h9:(0:Int)<(List.length s:Int):=hb1.1;exact⟨by omega,by omega,Int.le_refl _⟩);refine qm ?_;first|exact wC hb1|exact wD hb1
   ·intro hb1;refine ak (qm ?_);first|exact wC hb1|exact wD hb1
  rintro⟨⟩ hu;try dsimp only at hu
  have hl:=fF s [45];have hc:List.length s<1000000000000:=hC;refine ag (sq ?_ ?_);·exact QI _
  refine aS ?_ ?_;·intro hb2;refine sg ?_;refine av (aw (qe [] ?_));exact Av hb0 hb2
  ·(intro hb2;have hmid:=Jb hb2;refine ak (af (ag (sg ?_)));refine al (aY (fun(z:Nat)=>(⟨[(0,.l (.z .str s)),(3,.l (.z .str (ar s [45]))),(4,.l (.z (.int .i64) (z:Int)))],[]⟩:aa)) (fun z=>z<=(ar s [45]).length/\(List.take z (ar s [45])).all fZ=true) (fun z=>(ar s [45]).length-z) 0 ?_ ?_ ?_);·refine q_l ?_;rfl);·exact⟨Nat.zero_le _,rfl⟩
   ·rintro k ⟨g1,g2⟩;(try dsimp only at g1 g2);refine ag (sg ?_);refine qc ?_ ?_
    ·(intro hb3;refine ak (af (ag (al (sq ?_ ?_))));·exact⟨⟨by omega,hb3⟩,fun h=>⟨h,by omega,hb3⟩,fun h=>h,fun h=>by rw[h];rfl⟩);refine aS ?_ ?_;·intro hb4;refine sg ?_;refine av (bk (aw (dc (bk (aw (qe [] ?_))))));exact Jc hb0 hmid hb3 hb4
     ·intro hb4;refine ak (aD (af (rg ?_)));refine qm ?_;exact⟨k+1,by rw[wo];simp,by omega,Dg hb3 hb4 g2,by omega⟩
    ·intro hb3;refine aT (aA (ao (an (af (sg ?_)))));refine av (qe [] ?_);exact Jd hb0 hmid hb3 g2
def Pt(B:aq):Tab:=mT B [(4,.bool),(9,.str),(181,(.slice (.int .i64)))] [] [(156,iA),(157,c8),(158,gR)] [] 9
def BO:Con:=c1 .str (fun s=>RF s/\4*s.length<CAP) (fun s=>[.z .str (Lib.itoa (-ah s))])
theorem BP{B:aq}(hB:aN B):Valid B prog 163 BO:=by
 refine v1 (mg (T:=Pt B) (tc ty4 (tc ty9 (tc kd ab))) ae (aC (cc func156 (kW hB) (cc func157 (kV hB) (cc func158 (mP hB) ax))))) func163 ?_;intro s hC X hP hT hr hG;have hX:=ai Pt.eq_1<|ai cx<|ai c8.eq_1<|ai iA.eq_1<|gR.eq_1;simp only[f163,az,aj,ioB];refine sg ?_;refine sq ?_ ?_;·have h1:=kL hC.1;have h2:=hC.2;exact⟨hC.1,⟨hC.1,by omega⟩,D.limbs_can _,by omega⟩
 refine av (qe [] ?_);exact QJ _
def Pu(B:aq):Tab:=mT B [(9,.str)] [] [(157,c8)] [] 7
def ve:Con:=c1 .str (fun s=>RF s) (fun s=>[.z (.int .i64) (bg (ah s) 0)])
theorem BQ{B:aq}(hB:aN B):Valid B prog 162 ve:=by
 refine v1 (mg (T:=Pu B) (tc ty9 ab) ae (aC (cc func157 (kV hB) ax))) func162 ?_;intro s hC X hP hT hr hG;have hX:=ai Pu.eq_1<|ai cx<|c8.eq_1;simp only[f162,az,aj,ioB];refine sg ?_;refine ag (sg ?_);refine qc ?_ ?_;·intro hb0;refine sg ?_;refine av (aw (qe [] ?_));exact(tV hC).1 hb0
 ·intro hb0;refine ak (af (ag (sq ?_ ?_)));·exact hC
  refine qc ?_ ?_;·intro hb1;refine sg ?_;refine av (aw (qe [] ?_));exact(tV hC).2.1 hb0 hb1
  ·intro hb1;refine ak (af (sg ?_));refine av (qe [] ?_);exact(tV hC).2.2 hb0 hb1
def Pv(B:aq):Tab:=mT B [(3,(.int .i64)),(9,.str),(181,(.slice (.int .i64)))] [] [(156,iA),(157,c8),(160,iz),(162,ve)] [] 27
def Pw:Con:=c2 .str .str (fun a b=>(RF a/\a.length<CAP)/\RF b/\b.length<CAP) (fun a b=>[.z (.int .i64) (bg (ah a) (ah b))])
theorem Px{B:aq}(hB:aN B):Valid B prog 136 Pw:=by
 refine v2 (mg (T:=Pv B) (tc ty3 (tc ty9 (tc kd ab))) ae (aC (cc func156 (kW hB) (cc func157 (kV hB) (cc func160 (u7 hB) (cc func162 (BQ hB) ax)))))) func136 ?_;intro a b hC X hP hT hr hG;have hX:=ai Pv.eq_1<|ai cx<|ai iz.eq_1<|ai c8.eq_1<|ai iA.eq_1<|ve.eq_1;simp only[f136,az,aj,ioB];refine sg ?_;refine ag (sq ?_ ?_);·exact⟨hC.1.1,hC.2.1⟩
 refine qc ?_ ?_
 ·intro hb0;refine ag (sq ?_ ?_);·exact⟨hC.1.1,hC.2.1⟩
  refine qc ?_ ?_;·intro hb1;refine sg ?_;refine av (aw (aw (qe [] ?_)));exact(Ax hb0).1 hb1
  ·intro hb1;refine ak (af (sg ?_));refine av (aw (qe [] ?_));exact(Ax hb0).2 hb1
 ·intro hb0;refine ak (af (ag (sq ?_ ?_)));·exact hC.1.1
  refine qc ?_ ?_
  ·(intro hb2;refine sq ?_ ?_;·have h1:=kL hC.1.1;have h2:=kL hC.2.1;have h3:=hC.1.2;have h4:=hC.2.2;exact⟨hC.2,hC.1,D.limbs_can _,D.limbs_can _,by omega,by omega⟩);refine av (aw (qe [] ?_));exact(FD hb0).1 hb2
  ·(intro hb2;refine ak (af (sq ?_ ?_));·have h1:=kL hC.1.1;have h2:=kL hC.2.1;have h3:=hC.1.2;have h4:=hC.2.2;exact⟨hC.1,hC.2,D.limbs_can _,D.limbs_can _,by omega,by omega⟩);refine av (qe [] ?_);exact(FD hb0).2 hb2
def Py(B:aq):Tab:=mT B [(3,(.int .i64)),(9,.str)] [] [(182,Gs)] [] 31
def gS:Con:=c2 .str .str (fun a b=>RF a/\RF b/\a.length<CAP/\b.length<CAP) (fun a b=>[.z (.int .i64) (if a.length<=9/\b.length<=9 then ah a else 0),.z (.int .i64) (if a.length<=9/\b.length<=9 then ah b else 0),.z .bool (decide (a.length<=9/\b.length<=9))])
theorem pR{B:aq}(hB:aN B):Valid B prog 155 gS:=by
 refine v2 (mg (T:=Py B) (tc ty3 (tc ty9 ab)) ae (aC (cc func182 (Pc hB) ax))) func155 ?_;intro a b hC X hP hT hr hG;have hX:=ai Py.eq_1<|ai cx<|Gs.eq_1;simp only[f155,az,aj,ioB];refine sg ?_;refine ag (sq ?_ ?_)
 ·(repeat' (first|apply And.intro|intro _))<;>(try simp only[decide_eq_true_eq,decide_eq_false_iff_not,Bool.not_eq_true',beq_iff_eq,Int.toNat_natCast] at*)<;>first|assumption|omega|trivial|(simp_all;done)|(simp_all;omega)
 refine aS ?_ ?_
 ·intro hb0;simp only[Bool.or_eq_true,decide_eq_true_eq] at hb0;have hl:¬(List.length a<=9/\List.length b<=9):=by omega
  refine sg ?_;refine av (aw (qe [] ?_));rw[if_neg hl,if_neg hl,decide_eq_false hl];exact⟨rfl,rfl,rfl⟩
 ·intro hb0;simp only[Bool.or_eq_false_iff,decide_eq_false_iff_not] at hb0;have hl:List.length a<=9/\List.length b<=9:=by omega
  refine ak (af (sq ?_ ?_));·exact⟨Ay hC.1 hl.1,hl.1⟩
  refine sq ?_ ?_;·exact⟨Ay hC.2.1 hl.2,hl.2⟩
  refine sg ?_;refine av (qe [] ?_);rw[if_pos hl,if_pos hl,decide_eq_true hl];exact⟨rfl,rfl,rfl⟩
def Pz(B:aq):Tab:=mT B [(3,(.int .i64))] [] [(166,wk)] [] 5
def vf:Con:=c1 (.int .i64) (fun n=>I64 n) (fun n=>[.z .str (Lib.itoa n)])
theorem mQ{B:aq}(hB:aN B):Valid B prog 126 vf:=by
 refine v1 (mg (T:=Pz B) (tc ty3 ab) ae (aC (cc func166 (Fg hB) ax))) func126 ?_;intro n hC X hP hT hr hG;have hX:=ai Pz.eq_1<|ai cx<|wk.eq_1;simp only[f126,az,aj,ioB];refine sg ?_;refine sq ?_ ?_;·exact hC
 refine av (qe [] ?_);trivial
def Em(B:aq):Tab:=mT B [(3,(.int .i64)),(181,(.slice (.int .i64)))] [(181,3)] [(160,iz),(161,pP),(164,pQ),(183,pN)] [23,31,50] 125
def mR:Con:=c2 (.slice (.int .i64)) (.slice (.int .i64)) (fun a b=>D.Cano a/\D.Cano b/\b≠[]/\a.length+b.length+2<CAP) (fun a b=>[.z (.slice (.int .i64)) (D.limbs (D.valL a/D.valL b).toNat),.z (.slice (.int .i64)) (D.limbs (D.valL a%D.valL b).toNat)])
set_option maxHeartbeats 1000000 in
theorem BR{B:aq}(hB:aN B):Valid B prog 165 mR:=by
 refine v2 (mg (T:=Em B) (tc ty3 (tc kd ab)) (aK (by kernel_rfl) ae) (aC (cc func160 (u7 hB) (cc func161 (BI hB) (cc func164 (BJ hB) (cc func183 (pO hB) ax)))))) func165 ?_;intro a b hC X hP hT hr hG;have hX:=ai Em.eq_1<|ai cx<|ai iz.eq_1<|ai pN.eq_1<|ai pP.eq_1<|pQ.eq_1;simp only[f165,az,aj,ioB];refine sg ?_;refine cm (fun(z:Nat)=>(⟨[(0,.l (.z (.slice (.int .i64)) a)),(1,.l (.z (.slice (.int .i64)) b)),(6,.l (.z (.int .i64) (z:Int)))],[]⟩:aa)) (fun z=>b.length=z+1) ?_ ?_;·refine rg ?_;refine qm ?_;exact D.len_pred hC.2.2.1 hC.2.2.2
 rintro n hn;try dsimp only at hn
 obtain⟨c1,c2,c3,c4⟩:=hC;have c4:List.length a+List.length b+2<1000000000000:=c4;have hp:=(D.valL_pos c2).2 c3;have hwn:IntKind.i64.wrap ((n:Int)-1)=(n:Int)-1:=wo;refine ag (sg ?_);refine aS ?_ ?_
 ·intro hb0;try simp only[decide_eq_true_eq] at hb0
  refine sq ?_ ?_;·unfold Cm.Roomy;omega
  refine av (aw (qe [23] ?_));exact D.div_small c1 c2 c3 hn (by omega)
 ·intro hb0;simp only[decide_eq_false_iff_not] at hb0;have hwl:IntKind.i64.wrap ((List.length a:Int)-(n:Int))=((List.length a-n:Nat):Int):=by rw[wo];omega
  refine ak (af (sq ?_ ?_));·rw[hwl];exact⟨by omega,by omega,by unfold Cm.Roomy;omega⟩
  refine sq ?_ ?_;·rw[hwl,Int.toNat_natCast,Int.toNat_natCast,List.take_length,List.length_drop];exact⟨⟨by omega,by omega,Int.le_refl _⟩,by unfold Cm.Roomy;omega⟩
  refine ag (sg ?_);refine al (L4 [31] (by simp only[hT,Em,mr0,mr1,mr2,mT,isNilP,Nat.reduceLT,Nat.reduceEqDiff,Nat.reduceAdd,Nat.reduceMul,Nat.reduceSub,Nat.reduceLeDiff,Nat.reduceBEq,Nat.reduceBNe,reduceIte,reduceDIte,reduceCtorEq];rfl) ?_);refine aY (fun(z:Nat×List Int×List Int)=>(⟨[(0,.l (.z (.slice (.int .i64)) a)),(1,.l (.z (.slice (.int .i64)) b)),(6,.l (.z (.int .i64) (n:Int))),(7,.l (.ownS 30)),(8,.l (.z (.slice (.int .i64)) z.2.2)),(9,.l (.z (.int .i64) ((z.1:Int)-1)))],[(30,.arr (.int .i64) 3 z.2.1)]⟩:aa)) (fun z=>D.DivPhi a b z.1 z.2.1 z.2.2) (fun z=>z.1) (List.length a-n,List.replicate (List.length a-n) 0,List.drop (List.length a-n) a) ?_ ?_ ?_;·refine q_l ?_;rw[hwl,Int.toNat_natCast,Int.toNat_natCast,List.take_length,List.length_replicate];exact⟨rfl,wo,rfl⟩
  ·exact D.div_start c1 c2 c3 hn (by omega)
  ·rintro⟨k,q,rest⟩ hz;(try dsimp only at hz);have hz1:=hz.hk;have hz2:=hz.hq;refine ag (sg ?_);refine aS ?_ ?_
   ·intro hb1;(try simp only[decide_eq_true_eq] at hb1);obtain⟨i,rfl⟩:∃i,k=i+1:=⟨k-1,by omega⟩;(have ei:((i+1:Nat):Int)-1=(i:Int):=by omega);rw[ei];have hrsl:=D.rest_len c2 c3 hz.hr;refine ak (af (ag (al (cm (fun(z:Unit)=>(⟨[(0,.l (.z (.slice (.int .i64)) a)),(1,.l (.z (.slice (.int .i64)) b)),(6,.l (.z (.int .i64) (n:Int))),(7,.l (.ownS 30)),(8,.l (.z (.slice (.int .i64)) (D.limbs (D.R1 a b i).toNat))),(9,.l (.z (.int .i64) (i:Int)))],[(30,.arr (.int .i64) 3 q)]⟩:aa)) (fun z=>True) ?_ ?_))))
    ·(refine rq ?_ ?_;·exact⟨⟨by omega,by omega⟩,by unfold Cm.Roomy;omega,(D.cons_limbs c1.1 hp hz.hr).1,by unfold CAP;omega⟩);refine qm ?_;rw[D.nth64,(D.cons_limbs c1.1 hp hz.hr).2]
    (rintro⟨⟩ hu;(try dsimp only at hu);have hrl:=D.r1_len (i:=i) c1.1 c2 c3 hn;have hrf:=D.r1_facts (i:=i) c1.1 hp;have hrc:=D.limbs_can (D.R1 a b i).toNat;have hdn:=D.div_next (d:=(D.R1 a b i/D.valL b)) c1.1 c2 c3 hz rfl;refine sg ?_;refine ag (sg ?_);refine al (aY (fun(z:Nat×Int×Int)=>(⟨[(0,.l (.z (.slice (.int .i64)) a)),(1,.l (.z (.slice (.int .i64)) b)),(6,.l (.z (.int .i64) (n:Int))),(7,.l (.ownS 30)),(8,.l (.z (.slice (.int .i64)) (D.limbs (D.R1 a b i).toNat))),(9,.l (.z (.int .i64) (i:Int))),(10,.l (.z (.int .i64) z.2.1)),(11,.l (.z (.int .i64) z.2.2)),(12,.l (.z (.int .i64) ((z.1:Int)-1)))],[(30,.arr (.int .i64) 3 q)]⟩:aa)) (fun z=>D.TopPhi (D.limbs (D.R1 a b i).toNat) b n z.1 z.2.1 z.2.2) (fun z=>z.1) (n+2,0,0) ?_ ?_ ?_);·refine q_l ?_;rw[wo];show (n:Int)+1=((n+2:Nat):Int)-1;omega);·exact D.top_start hrl hn
    ·rintro⟨j,top,first⟩ hj;(try dsimp only at hj);have hj1:=hj.hj;refine ag (sg ?_);refine aS ?_ ?_
     ·intro hb2;simp only[decide_eq_true_eq] at hb2;rw[hwn] at hb2;obtain⟨j,rfl⟩:∃j2,j=j2+1:=⟨j-1,by omega⟩;(have ej:((j+1:Nat):Int)-1=(j:Int):=by omega);rw[ej];have htv:=D.top_vals hrc.1 hrl c2.1 hn hj (by omega);refine ak (af (ag (al (sg ?_))));refine cm (fun(z:Unit)=>(⟨[(0,.l (.z (.slice (.int .i64)) a)),(1,.l (.z (.slice (.int .i64)) b)),(6,.l (.z (.int .i64) (n:Int))),(7,.l (.ownS 30)),(8,.l (.z (.slice (.int .i64)) (D.limbs (D.R1 a b i).toNat))),(9,.l (.z (.int .i64) (i:Int))),(10,.l (.z (.int .i64) top)),(11,.l (.z (.int .i64) (D.valL (List.drop j (D.limbs (D.R1 a b i).toNat))))),(12,.l (.z (.int .i64) (j:Int)))],[(30,.arr (.int .i64) 3 q)]⟩:aa)) (fun z=>True) ?_ ?_
      ·refine sg ?_;refine qc ?_ ?_
       ·(intro hb3;refine rq ?_ ?_;·exact⟨by omega,hb3⟩);refine qm ?_;first|(rw[D.nth64,htv.1,htv.2.1];exact htv.2.2.2.2.1)|(rw[htv.1];have h9:=htv.2.2.2.2.1;rw[D.getD_none (by omega),Int.add_zero] at h9;exact h9)
       ·intro hb3;refine ak (qm ?_);first|(rw[D.nth64,htv.1,htv.2.1];exact htv.2.2.2.2.1)|(rw[htv.1];have h9:=htv.2.2.2.2.1;rw[D.getD_none (by omega),Int.add_zero] at h9;exact h9)
      rintro⟨⟩ hu2;(try dsimp only at hu2);refine sg ?_;refine qc ?_ ?_
      ·(intro hb4;refine rq ?_ ?_;·exact⟨by omega,by omega⟩);refine aD (af (rg ?_));refine qm ?_;first|exact⟨j,wo,⟨by omega,by rw[D.nth64,htv.2.2.1,htv.2.2.2.1];exact htv.2.2.2.2.2.1 (by omega),rfl⟩,by omega⟩|exact⟨j,wo,⟨by omega,htv.2.2.2.2.2.2 (by omega),rfl⟩,by omega⟩
      ·intro hb4;refine ak (aD (af (rg ?_)));refine qm ?_;first|exact⟨j,wo,⟨by omega,by rw[D.nth64,htv.2.2.1,htv.2.2.2.1];exact htv.2.2.2.2.2.1 (by omega),rfl⟩,by omega⟩|exact⟨j,wo,⟨by omega,htv.2.2.2.2.2.2 (by omega),rfl⟩,by omega⟩
     ·intro hb2;simp only[decide_eq_false_iff_not] at hb2;rw[hwn] at hb2;(obtain rfl:j=n-1:=by omega);obtain⟨hs1,hs2,hs3,hs4,hs5⟩:=D.half_start c1.1 c2 c3 hn hj.ht hj.hf;have hqf:=D.quo_facts hs1 hs2 hs3 hs4;refine aT (aA (ao (an (af (cm (fun(z:Unit)=>(⟨[(0,.l (.z (.slice (.int .i64)) a)),(1,.l (.z (.slice (.int .i64)) b)),(6,.l (.z (.int .i64) (n:Int))),(7,.l (.ownS 30)),(8,.l (.z (.slice (.int .i64)) (D.limbs (D.R1 a b i).toNat))),(9,.l (.z (.int .i64) (i:Int))),(13,.l (.z (.int .i64) (first/(top+1)))),(14,.l (.z (.int .i64) (first/top)))],[(30,.arr (.int .i64) 3 q)]⟩:aa)) (fun z=>True) ?_ ?_)))))
      ·(refine rd ?_ ?_;·rw[hqf.1];exact⟨hqf.2.1,hqf.2.2.1⟩);refine qm ?_;rw[hqf.1];exact⟨hqf.2.2.2.1,hqf.2.2.2.2⟩
      (rintro⟨⟩ hu3;(try dsimp only at hu3);refine ag (al (aY (fun(z:Int×Int)=>(⟨[(0,.l (.z (.slice (.int .i64)) a)),(1,.l (.z (.slice (.int .i64)) b)),(6,.l (.z (.int .i64) (n:Int))),(7,.l (.ownS 30)),(8,.l (.z (.slice (.int .i64)) (D.limbs (D.R1 a b i).toNat))),(9,.l (.z (.int .i64) (i:Int))),(13,.l (.z (.int .i64) z.1)),(14,.l (.z (.int .i64) z.2))],[(30,.arr (.int .i64) 3 q)]⟩:aa)) (fun z=>D.HalfPhi (D.R1 a b i/D.valL b) z.1 z.2) (fun z=>(z.2-z.1).toNat) (first/(top+1),first/top) ?_ ?_ ?_));·simp only[ml0,ml1,Nat.reduceLT,Nat.reduceEqDiff,Nat.reduceAdd,Nat.reduceMul,Nat.reduceSub,Nat.reduceLeDiff,Nat.reduceBEq,Nat.reduceBNe,reduceIte,reduceDIte,reduceCtorEq]);·exact hs5
      ·rintro⟨low,high⟩ hh;(try dsimp only at hh);refine ag (sg ?_);refine aS ?_ ?_
       ·intro hb5;(try simp only[decide_eq_true_eq] at hb5);have hhm:=D.half_mid hh hb5;refine ak (af (al (cm (fun(z:Int)=>(⟨[(0,.l (.z (.slice (.int .i64)) a)),(1,.l (.z (.slice (.int .i64)) b)),(6,.l (.z (.int .i64) (n:Int))),(7,.l (.ownS 30)),(8,.l (.z (.slice (.int .i64)) (D.limbs (D.R1 a b i).toNat))),(9,.l (.z (.int .i64) (i:Int))),(13,.l (.z (.int .i64) low)),(14,.l (.z (.int .i64) high)),(15,.l (.z (.int .i64) z))],[(30,.arr (.int .i64) 3 q)]⟩:aa)) (fun z=>z=(low+high+1)/2) ?_ ?_)))
        ·(refine rq ?_ ?_;·decide);refine qm ?_;exact hhm.1
        (rintro mid hmid;(try dsimp only at hmid);(have hmm:low<mid/\mid<=high:=by rw[hmid];exact⟨hhm.2.1,hhm.2.2.1⟩);have hm0:0<=mid:=Int.le_trans hh.h0 (Int.le_of_lt hmm.1);have hmB:mid<=D.LB:=Int.le_trans hmm.2 hh.h3;have hht:=D.half_test (v:=D.R1 a b i) (mid:=mid) c2.1 hp hrf.1 hm0;have hol:=D.one_len c2.1 hm0 hmB;refine sq ?_ ?_;·exact⟨⟨c2.1,D.wid_one hm0 hmB,by unfold CAP;omega⟩,D.limbs_can _,hrc,by unfold CAP;omega,by unfold CAP;omega⟩);refine qc ?_ ?_;·intro hb6;refine rg ?_;refine aD (qm ?_);first|exact D.half_up hh hmm (hht.1 hb6)|(rw[show IntKind.i64.wrap (mid-1)=mid-1 by rw[hmid];exact hhm.2.2.2];exact D.half_down hh hmm (fun h=>hb6 (hht.2 h)))
        ·intro hb6;refine rg ?_;refine aD (qm ?_);first|exact D.half_up hh hmm (hht.1 hb6)|(rw[show IntKind.i64.wrap (mid-1)=mid-1 by rw[hmid];exact hhm.2.2.2];exact D.half_down hh hmm (fun h=>hb6 (hht.2 h)))
       ·(intro hb5;simp only[decide_eq_false_iff_not] at hb5;have hle:=D.half_end hh hb5;subst hle;have hol:=D.one_len c2.1 hdn.1 (Int.le_of_lt hdn.2.1);have hrm:=D.rest_minus (i:=i) c1.1 c2 c3;refine aT (aA (ao (an (af (sq ?_ ?_)))));·exact⟨⟨by omega,by omega⟩,by omega⟩);refine sg ?_;refine qc ?_ ?_
        ·(intro hb7;refine rq ?_ ?_;·exact⟨⟨c2.1,D.wid_one hdn.1 (Int.le_of_lt hdn.2.1),by unfold CAP;omega⟩,hrc,D.limbs_can _,hrm.1,by unfold CAP;omega⟩);refine aD (af (rg ?_));refine qm ?_;have hdx:=hdn.2.2;first|(rw[<- hrm.2] at hdx;exact⟨i,wo,by rw[Int.toNat_natCast];exact hdx,by omega⟩)|(rw[<- D.rest_zero c1.1 c2 c3 hb7] at hdx;exact⟨i,wo,by rw[Int.toNat_natCast];exact hdx,by omega⟩)
        ·intro hb7;refine ak (aD (af (rg ?_)));refine qm ?_;have hdx:=hdn.2.2;first|(rw[<- hrm.2] at hdx;exact⟨i,wo,by rw[Int.toNat_natCast];exact hdx,by omega⟩)|(rw[<- D.rest_zero c1.1 c2 c3 hb7] at hdx;exact⟨i,wo,by rw[Int.toNat_natCast];exact hdx,by omega⟩)
   ·(intro hb1;simp only[decide_eq_false_iff_not] at hb1;(obtain rfl:k=0:=by omega);have hde:=D.div_end hz;refine aT (aA (ao (an (af (sq ?_ ?_)))));·exact⟨hz.hl,by unfold CAP;omega⟩);refine av (qe [23] ?_);exact hde
def PA(B:aq):Tab:=mT B [(3,(.int .i64)),(4,.bool),(9,.str),(181,(.slice (.int .i64)))] [] [(126,vf),(155,gS),(156,iA),(157,c8),(158,gR),(159,El),(160,iz),(161,pP)] [] 53
def BS:Con:=c2 .str .str (fun a b=>RS 20000000000 a/\RS 20000000000 b) (fun a b=>[.z .str (Lib.itoa (ah a+ah b))])
theorem BU{B:aq}(hB:aN B):Valid B prog 115 BS:=by
 refine v2 (mg (T:=PA B) (tc ty3 (tc ty4 (tc ty9 (tc kd ab)))) ae (aC (cc func126 (mQ hB) (cc func155 (pR hB) (cc func156 (kW hB) (cc func157 (kV hB) (cc func158 (mP hB) (cc func159 (O3 hB) (cc func160 (u7 hB) (cc func161 (BI hB) ax)))))))))) func115 ?_;intro a b hC X hP hT hr hG;have hX:=ai PA.eq_1<|ai cx<|ai iz.eq_1<|ai gS.eq_1<|ai pP.eq_1<|ai c8.eq_1<|ai vf.eq_1<|ai El.eq_1<|ai iA.eq_1<|gR.eq_1;simp only[f115,az,aj,ioB];refine sg ?_;refine ag (sq ?_ ?_);·exact⟨hC.1.1,hC.2.1,(hC.1.cap (by omega)).2,(hC.2.cap (by omega)).2⟩
 refine sg ?_;refine aS ?_ ?_
 ·intro hb0;simp only[decide_eq_true_eq] at hb0;have hsm:=tX hC.1.1 hC.2.1 hb0;rw[if_pos hb0,if_pos hb0];refine sq ?_ ?_;·rw[hsm.1];exact hsm.2.1
  refine av (aw (qe [] ?_));rw[hsm.1]
 ·intro hb0;have ha:=hC.1.cap (by omega);have hb:=hC.2.cap (by omega);have la:=eF hC.1;have lb:=eF hC.2;have hle:=FE hC.1 hC.2;have hcap:CAP=1000000000000:=rfl;refine ak (af (sq ?_ ?_));·exact⟨ha,hb⟩
  refine ag (sq ?_ ?_);·exact⟨ha.1,hb.1⟩
  refine qc ?_ ?_
  ·(intro hb1;refine sq ?_ ?_;·exact⟨ha.1,⟨la.1,lb.1,by omega,by omega⟩,D.limbs_can _,hle.1⟩);refine av (aw (qe [] ?_));exact Je hb1
  ·(intro hb1;refine ak (af (ag (sq ?_ ?_)));·exact⟨la.1,lb.1,by omega,by omega⟩);refine qc ?_ ?_
   ·(intro hb2;refine sq ?_ ?_;·have hge:=FF hb1 hb2;exact⟨ha.1,⟨la.1,lb.1,hge.1,by omega⟩,D.limbs_can _,hle.2.1⟩);refine av (aw (qe [] ?_));exact(FF hb1 hb2).2
   ·(intro hb2;refine ak (af (sq ?_ ?_));·have hlt:=FG hb1 hb2;exact⟨hb.1,⟨lb.1,la.1,hlt.1,by omega⟩,D.limbs_can _,hle.2.2.1⟩);refine av (qe [] ?_);exact(FG hb1 hb2).2
def PB(B:aq):Tab:=mT B [(9,.str)] [] [(115,BS),(163,BO)] [] 9
def BV:Con:=c2 .str .str (fun a b=>RS 10000000000 a/\RS 10000000000 b) (fun a b=>[.z .str (Lib.itoa (ah a-ah b))])
theorem BW{B:aq}(hB:aN B):Valid B prog 123 BV:=by
 refine v2 (mg (T:=PB B) (tc ty9 ab) ae (aC (cc func115 (BU hB) (cc func163 (BP hB) ax)))) func123 ?_;intro a b hC X hP hT hr hG;have hX:=ai PB.eq_1<|ai cx<|ai BS.eq_1<|BO.eq_1;simp only[f123,az,aj,ioB];refine sg ?_;refine sq ?_ ?_;·have h2:=hC.2.2;exact⟨⟨hC.2.1,by have hcap:CAP=1000000000000:=rfl;omega⟩,hC.1.up (by omega),(Tp hC.2).1.up (by omega)⟩
 refine av (qe [] ?_);exact QN
def PC(B:aq):Tab:=mT B [(3,(.int .i64)),(4,.bool),(9,.str),(181,(.slice (.int .i64)))] [] [(126,vf),(155,gS),(156,iA),(157,c8),(158,gR),(164,pQ)] [] 31
def mS:Con:=c2 .str .str (fun a b=>RS 20000000000 a/\RS 20000000000 b) (fun a b=>[.z .str (Lib.itoa (ah a*ah b))])
theorem mU{B:aq}(hB:aN B):Valid B prog 117 mS:=by
 refine v2 (mg (T:=PC B) (tc ty3 (tc ty4 (tc ty9 (tc kd ab)))) ae (aC (cc func126 (mQ hB) (cc func155 (pR hB) (cc func156 (kW hB) (cc func157 (kV hB) (cc func158 (mP hB) (cc func164 (BJ hB) ax)))))))) func117 ?_;intro a b hC X hP hT hr hG;have hX:=ai PC.eq_1<|ai cx<|ai gS.eq_1<|ai c8.eq_1<|ai vf.eq_1<|ai iA.eq_1<|ai pQ.eq_1<|gR.eq_1;simp only[f117,az,aj,ioB];refine sg ?_;refine ag (sq ?_ ?_);·exact⟨hC.1.1,hC.2.1,(hC.1.cap (by omega)).2,(hC.2.cap (by omega)).2⟩
 refine sg ?_;refine aS ?_ ?_
 ·intro hb0;simp only[decide_eq_true_eq] at hb0;have hsm:=tX hC.1.1 hC.2.1 hb0;rw[if_pos hb0,if_pos hb0];refine sq ?_ ?_;·rw[hsm.2.2.1];exact hsm.2.2.2
  refine av (aw (qe [] ?_));rw[hsm.2.2.1]
 ·intro hb0;have ha:=hC.1.cap (by omega);have hb:=hC.2.cap (by omega);have la:=eF hC.1;have lb:=eF hC.2;have hle:=FE hC.1 hC.2;have hcap:CAP=1000000000000:=rfl;refine ak (af (sq ?_ ?_));·exact⟨ha.1,hb.1,ha,hb,⟨la.1.1,lb.1.1.wid,by omega⟩,D.limbs_can _,hle.2.2.2⟩
  refine av (qe [] ?_);exact QO
def PD(B:aq):Tab:=mT B [(3,(.int .i64)),(4,.bool),(9,.str),(181,(.slice (.int .i64)))] [] [(117,mS),(123,BV),(126,vf),(155,gS),(156,iA),(157,c8),(158,gR),(165,mR)] [] 78
def BX:Con:=c2 .str .str (fun a b=>RS 1000000000 a/\RS 1000000000 b/\ah b≠0) (fun a b=>[.z .str (Lib.itoa (bN (ah a) (ah b))),.z .str (Lib.itoa (ku (ah a) (ah b)))])
theorem BZ{B:aq}(hB:aN B):Valid B prog 121 BX:=by
 refine v2 (mg (T:=PD B) (tc ty3 (tc ty4 (tc ty9 (tc kd ab)))) ae (aC (cc func117 (mU hB) (cc func123 (BW hB) (cc func126 (mQ hB) (cc func155 (pR hB) (cc func156 (kW hB) (cc func157 (kV hB) (cc func158 (mP hB) (cc func165 (BR hB) ax)))))))))) func121 ?_;intro a b hC X hP hT hr hG;have hX:=ai PD.eq_1<|ai cx<|ai mR.eq_1<|ai gS.eq_1<|ai mS.eq_1<|ai c8.eq_1<|ai vf.eq_1<|ai iA.eq_1<|ai BV.eq_1<|gR.eq_1;simp only[f121,az,aj,ioB];refine sg ?_;refine ag (sq ?_ ?_);·exact⟨hC.1.1,hC.2.1.1,(hC.1.cap (by omega)).2,(hC.2.1.cap (by omega)).2⟩
 refine sg ?_;refine aS ?_ ?_
 ·intro hb0;simp only[decide_eq_true_eq] at hb0;rw[if_pos hb0,if_pos hb0];have hsm:=Dk hC.1.1 hC.2.1.1 hb0 hC.2.2;refine sq ?_ ?_;·exact hC.2.2
  refine cm (fun(z:Unit)=>(⟨[(0,.l (.z .str a)),(1,.l (.z .str b)),(6,.l (.z (.int .i64) (ah a))),(7,.l (.z (.int .i64) (ah b))),(9,.l (.z (.int .i64) (bN (ah a) (ah b))))],[]⟩:aa)) (fun z=>True) ?_ ?_
  ·(refine sq ?_ ?_;·exact⟨hC.2.2,fun h=>h⟩);refine qc ?_ ?_;·intro hb1;refine rg ?_;refine qm ?_;first|exact hsm.1 hb1|exact hsm.2.1 hb1
   ·intro hb1;refine ak (qm ?_);first|exact hsm.1 hb1|exact hsm.2.1 hb1
  rintro⟨⟩ hu;try dsimp only at hu
  refine sq ?_ ?_;·rw[hsm.2.2.2.1];exact⟨hsm.2.2.1,hsm.2.2.2.2⟩
  refine av (aw (qe [] ?_));rw[hsm.2.2.2.1]
 ·intro hb0;obtain⟨c1,c2,c3⟩:=hC;have ha:=c1.cap (by omega);have hb:=c2.cap (by omega);have la:=eF c1;have lb:=eF c2;have hln:=MI (ah a) (ah b);have hrq:=UE (b:=b) c1 c3;have hrm:=UF c1 c2 c3;have hcap:CAP=1000000000000:=rfl;have hqf:=tY (x:=ah a) c3;refine ak (af (sq ?_ ?_));·exact⟨ha,hb,la.1,lb.1,D.ne_limbs c3,by omega⟩
  refine sq ?_ ?_;·exact⟨ha.1,hb.1,D.limbs_can _,by omega⟩
  refine cm (fun(z:Unit)=>(⟨[(0,.l (.z .str a)),(1,.l (.z .str b)),(12,.l (.z .str (Lib.itoa (bN (ah a) (ah b)))))],[]⟩:aa)) (fun z=>True) ?_ ?_
  ·(refine sq ?_ ?_;·exact⟨fun h=>⟨h,c1.1⟩,fun h=>⟨h,c2.1⟩,fun h=>h⟩);refine qc ?_ ?_
   ·(intro hb2;refine rq ?_ ?_;·exact⟨hrq.1.up (by omega),Dj.1.up (by omega)⟩);refine qm ?_;rw[wE] at hb2;first|(rw[<- hqf.2.1 hb2,Dj.2,(aF _).2];rfl)|(rw[<- hqf.2.2 hb2];rfl)
   ·intro hb2;refine ak (qm ?_);rw[wE] at hb2;first|(rw[<- hqf.2.1 hb2,Dj.2,(aF _).2];rfl)|(rw[<- hqf.2.2 hb2];rfl)
  rintro⟨⟩ hu2;try dsimp only at hu2
  refine sq ?_ ?_;·rw[(aF _).2];exact⟨⟨hrq.2.up (by omega),c2.up (by omega)⟩,c1.up (by omega),hrm.up (by omega)⟩
  refine av (qe [] ?_);rw[(aF _).2,(aF _).2,Int.mul_comm];rfl
def PE(B:aq):Tab:=mT B [(3,(.int .i64)),(4,.bool),(9,.str),(181,(.slice (.int .i64)))] [] [(126,vf),(155,gS),(156,iA),(158,gR),(165,mR)] [] 50
def vg:Con:=c2 .str .str (fun a b=>RS 1000000000 a/\RS 1000000000 b) (fun a b=>[.z .str (Lib.itoa (ca (ah a) (ah b)))])
theorem vh{B:aq}(hB:aN B):Valid B prog 122 vg:=by
 refine v2 (mg (T:=PE B) (tc ty3 (tc ty4 (tc ty9 (tc kd ab)))) ae (aC (cc func126 (mQ hB) (cc func155 (pR hB) (cc func156 (kW hB) (cc func158 (mP hB) (cc func165 (BR hB) ax))))))) func122 ?_;intro a b hC X hP hT hr hG;have hX:=ai PE.eq_1<|ai cx<|ai mR.eq_1<|ai gS.eq_1<|ai vf.eq_1<|ai iA.eq_1<|gR.eq_1;simp only[f122,az,aj,ioB];refine sg ?_;refine ag (sq ?_ ?_);·exact⟨hC.1.1,hC.2.1,(hC.1.cap (by omega)).2,(hC.2.cap (by omega)).2⟩
 refine sg ?_;refine aS ?_ ?_
 ·intro hb0;simp only[decide_eq_true_eq] at hb0;rw[if_pos hb0,if_pos hb0];have ha:=jv hC.1.1 hb0.1;have hb:=jv hC.2.1 hb0.2;refine ag (al (aY (fun(z:Int×Int)=>(⟨[(0,.l (.z .str a)),(1,.l (.z .str b)),(5,.l (.z (.int .i64) z.1)),(6,.l (.z (.int .i64) z.2))],[]⟩:aa)) (fun z=>wF (ca (ah a) (ah b)) z.1 z.2) (fun z=>z.2.natAbs) (ah a,ah b) ?_ ?_ ?_));·simp only[ml0,ml1,Nat.reduceLT,Nat.reduceEqDiff,Nat.reduceAdd,Nat.reduceMul,Nat.reduceSub,Nat.reduceLeDiff,Nat.reduceBEq,Nat.reduceBNe,reduceIte,reduceDIte,reduceCtorEq]
  ·exact MK ha hb
  ·rintro⟨x,y⟩ hz;(try dsimp only at hz);refine ag (sg ?_);refine qc ?_ ?_
   ·(intro hb1;refine ak (af (al (sq ?_ ?_)));·exact hb1);refine sg ?_;refine rg ?_;refine aD (qm ?_);exact QP hz hb1
   ·(intro hb1;refine aT (aA (ao (an (af (sq ?_ ?_)))));·subst hb1;exact(MM hz).1);refine av (aw (qe [] ?_));subst hb1;rw[(MM hz).2]
 ·intro hb0;obtain⟨c1,c2⟩:=hC;have ha:=c1.cap (by omega);have hb:=c2.cap (by omega);have la:=eF c1;have lb:=eF c2;have hcap:CAP=1000000000000:=rfl;refine ak (af (sq ?_ ?_));·exact⟨ha,hb⟩
  refine ag (al (aY (fun(z:List Int×List Int)=>(⟨[(9,.l (.z (.slice (.int .i64)) z.1)),(10,.l (.z (.slice (.int .i64)) z.2))],[]⟩:aa)) (fun z=>AC (ca (ah a) (ah b)) z.1 z.2) (fun z=>(D.valL z.2).natAbs) (D.limbs (ah a).natAbs,D.limbs (ah b).natAbs) ?_ ?_ ?_));·simp only[ml0,ml1,Nat.reduceLT,Nat.reduceEqDiff,Nat.reduceAdd,Nat.reduceMul,Nat.reduceSub,Nat.reduceLeDiff,Nat.reduceBEq,Nat.reduceBNe,reduceIte,reduceDIte,reduceCtorEq]
  ·exact ML c1 c2
  ·rintro⟨x,y⟩ hz;(try dsimp only at hz);refine ag (sg ?_);refine qc ?_ ?_
   ·(intro hb2;refine ak (af (al (sq ?_ ?_)));·have lx:=hz.lx;have ly:=hz.ly;exact⟨hz.hx,hz.hy,(by rintro rfl;simp at hb2),by omega⟩);refine sg ?_;refine rg ?_;refine aD (qm ?_);exact QQ hz hb2
   ·(intro hb2;refine aT (aA (ao (an (af (sq ?_ ?_)))));·have lx:=hz.lx;exact⟨hz.hx,by omega⟩);refine av (qe [] ?_);rw[Tt hz hb2]
def GO(B:aq):Tab:=mT B [(3,(.int .i64)),(5,(.int .u8)),(9,.str)] [] [] [] 24
def B0:Con:=c1 .str (fun s=>s.length<=QL) (fun s=>[.z .str (tN s),.z .str (tD s),.z .bool (bK s)])
theorem xt{B:aq}(hB:aN B):Valid B prog 134 B0:=by
 refine v1 (mg (T:=GO B) (tc ty3 (tc ty5 (tc ty9 ab))) ae (bI rfl)) func134 ?_;intro s hC X hP hT hr hG;have hX:=ai GO.eq_1<|cx;simp only[f134,az,aj,ioB];have hl:s.length<=1000000000:=hC;refine sg ?_;refine ag (sg ?_);refine al (aY (fun(z:Nat)=>(⟨[(0,.l (.z .str s)),(2,.l (.z .str [])),(3,.l (.z .str [])),(4,.l (.z .bool false)),(5,.l (.z (.int .i64) (z:Int)))],[]⟩:aa)) (fun z=>z<=s.length/\(s.take z).all (· !=47)=true) (fun z=>s.length-z) 0 ?_ ?_ ?_);·refine q_l ?_;rfl
 ·exact⟨by omega,by simp⟩
 ·rintro k ⟨g1,g2⟩;try dsimp only at g1 g2
  refine ag (sg ?_);refine qc ?_ ?_
  ·intro hb0;(have hk:k<s.length:=by have h9:(k:Int)<(s.length:Int):=hb0;omega);refine ak (af (ag (al (sg ?_))));refine qc ?_ ?_
   ·(intro hb1;refine sd ?_ ?_;·exact JT hl hk);refine av (bk (aw (dc (bk (aw (qe [] ?_))))));exact A5 hl hk g2 (FZ.1 hb1)
   ·intro hb1;refine ak (aD (af (rg ?_)));refine qm ?_;exact⟨k+1,wo,hk,JJ hk g2 (fun e=>hb1 (FZ.2 e)),by omega⟩
  ·intro hb0;(have hk:¬k<s.length:=by have h9:¬(k:Int)<(s.length:Int):=hb0;omega);refine aT (aA (ao (an (af (sg ?_)))));refine av (qe [] ?_);exact NB hk g2
def GP(B:aq):Tab:=mT B [(3,(.int .i64)),(9,.str)] [] [(122,vg),(134,B0),(135,y4),(136,Pw)] [] 33
def y5:Con:=c1 .str (fun q=>q.length<=QL) (fun q=>[.z .bool (decide (ck q≠5))])
theorem KA{B:aq}(hB:aN B):Valid B prog 91 y5:=by
 refine v1 (mg (T:=GP B) (tc ty3 (tc ty9 ab)) ae (aC (cc func122 (vh hB) (cc func134 (xt hB) (cc func135 (Ps hB) (cc func136 (Px hB) ax)))))) func91 ?_;intro q hC X hP hT hr hG;have hX:=ai GP.eq_1<|ai cx<|ai B0.eq_1<|ai Pw.eq_1<|ai vg.eq_1<|y4.eq_1;simp only[f91,az,aj,ioB];refine sg ?_;refine sq ?_ ?_;·exact hC
 refine ag (sq ?_ ?_);·exact A6 hC
 refine aS ?_ ?_;·intro hb0;have hF:=NN hb0;refine sg ?_;refine av (aw (qe [] ?_));exact DJ hF
 ·intro hb0;have hF:=NO hb0;refine ak (af (sq ?_ ?_));·exact A7 hC hF
  refine av (qe [] ?_);exact JL hF
def GS(B:aq):Tab:=mT B [(9,.str)] [] [(134,B0)] [] 15
def gT:Con:=c1 .str (fun q=>q.length<=QL) (fun q=>[.z .str (tN q),.z .str (tD q)])
theorem kX{B:aq}(hB:aN B):Valid B prog 92 gT:=by
 refine v1 (mg (T:=GS B) (tc ty9 ab) ae (aC (cc func134 (xt hB) ax))) func92 ?_;intro q hC X hP hT hr hG;have hX:=ai GS.eq_1<|ai cx<|B0.eq_1;simp only[f92,az,aj,ioB];refine sg ?_;refine sq ?_ ?_;·exact hC
 refine sg ?_;refine av (qe [] ?_);trivial
def GT(B:aq):Tab:=mT B [(3,(.int .i64)),(9,.str),(46,.str)] [] [(92,gT),(93,u9)] [] 22
def lP:Con:=c2 .str (.int .i64) (fun q k=>eG q) (fun q k=>[.z .bool (decide (cr (ah (tN q))<=k/\cr (ah (tD q))<=k))])
theorem nA{B:aq}(hB:aN B):Valid B prog 39 lP:=by
 refine v2 (mg (T:=GT B) (tc ty3 (tc ty9 (tc gj ab))) ae (aC (cc func92 (kX hB) (cc func93 (O8 hB) ax)))) func39 ?_;intro q k hC X hP hT hr hG;have hX:=ai GT.eq_1<|ai cx<|ai gT.eq_1<|u9.eq_1;simp only[f39,az,aj,ioB];refine sg ?_;refine sq ?_ ?_;·exact hC.2.2
 refine sq ?_ ?_;·exact DK hC
 refine av (qe [] ?_);exact(Bool.decide_and _ _).symm
def GU(B:aq):Tab:=mT B [(3,(.int .i64)),(46,.str)] [] [(39,lP),(91,y5)] [] 9
def pS:Con:=c1 .str (fun q=>q.length<=QL) (fun q=>[.z (.int .i64) (ck q)])
theorem xu{B:aq}(hB:aN B):Valid B prog 37 pS:=by
 refine v1 (mg (T:=GU B) (tc ty3 (tc gj ab)) ae (aC (cc func39 (nA hB) (cc func91 (KA hB) ax)))) func37 ?_;intro q hC X hP hT hr hG;have hX:=ai GU.eq_1<|ai cx<|ai lP.eq_1<|y5.eq_1;simp only[f37,az,aj,ioB];refine sg ?_;refine ag (sq ?_ ?_);·exact hC
 refine qc ?_ ?_;·intro hb0;refine sg ?_;refine av (aw (qe [] ?_));exact Rb hb0
 ·intro hb0;refine ak (af (ag (sq ?_ ?_)));·exact DL hb0 hC
  refine qc ?_ ?_;·intro hb1;refine sg ?_;refine av (aw (qe [] ?_));exact Rc hb0 hC hb1
  ·intro hb1;refine ak (af (sg ?_));refine av (qe [] ?_);exact Rd hb0 hC hb1
def GV(B:aq):Tab:=mT B [(3,(.int .i64)),(9,.str)] [] [(121,BX),(122,vg),(162,ve),(163,BO)] [] 33
def iB:Con:=c2 .str .str (fun n d=>MkR n d) (fun n d=>[.z .str (aG (Rat.divInt (ah n) (ah d)))])
theorem jx{B:aq}(hB:aN B):Valid B prog 116 iB:=by
 refine v2 (mg (T:=GV B) (tc ty3 (tc ty9 ab)) ae (aC (cc func121 (BZ hB) (cc func122 (vh hB) (cc func162 (BQ hB) (cc func163 (BP hB) ax)))))) func116 ?_;intro n d hC X hP hT hr hG;have hX:=ai GV.eq_1<|ai cx<|ai BX.eq_1<|ai vg.eq_1<|ai BO.eq_1<|ve.eq_1;simp only[f116,az,aj,ioB];refine sg ?_;refine sq ?_ ?_;·exact qO hC
 refine cm (fun(z:Unit)=>(⟨[(0,.l (.z .str n)),(1,.l (.z .str d)),(4,.l (.z .str [])),(5,.l (.z .str (Lib.itoa (dY (ah n) (ah d)))))],[]⟩:aa)) (fun z=>True) ?_ ?_
 ·refine sq ?_ ?_;·exact hC.2.1.1
  refine qc ?_ ?_
  ·(intro hb0;refine rq ?_ ?_;·exact JM hC);refine qm ?_;first|exact FW (si.1 hb0)|exact FX (fun e=>hb0 (si.2 e))
  ·intro hb0;refine ak (qm ?_);first|exact FW (si.1 hb0)|exact FX (fun e=>hb0 (si.2 e))
 rintro⟨⟩-;refine sq ?_ ?_;·exact wZ hC
 refine sq ?_ ?_;·exact JN hC
 refine ag (sg ?_);refine qc ?_ ?_;·intro hb1;refine sg ?_;refine av (aw (qe [] ?_));exact Rf hC hb1
 ·intro hb1;refine ak (af (sq ?_ ?_));·exact JO hC
  refine av (qe [] ?_);exact Rg hC hb1
def GW(B:aq):Tab:=mT B [(3,(.int .i64)),(9,.str)] [] [(116,iB),(126,vf)] [] 10
def PF:Con:=c2 (.int .i64) (.int .i64) (fun n d=>I64 n/\I64 d/\d≠0) (fun n d=>[.z .str (aG (Rat.divInt n d))])
theorem xv{B:aq}(hB:aN B):Valid B prog 85 PF:=by
 refine v2 (mg (T:=GW B) (tc ty3 (tc ty9 ab)) ae (aC (cc func116 (jx hB) (cc func126 (mQ hB) ax)))) func85 ?_;intro n d hC X hP hT hr hG;have hX:=ai GW.eq_1<|ai cx<|ai iB.eq_1<|vf.eq_1;simp only[f85,az,aj,ioB];refine sg ?_;refine sq ?_ ?_;·exact NC hC
 refine av (qe [] ?_);exact Rh
def GX(B:aq):Tab:=mT B [(9,.str),(46,.str)] [] [(92,gT),(115,BS),(116,iB),(117,mS)] [] 39
def B1:Con:=c2 .str .str (fun a b=>GQ QK a/\GQ QK b) (fun a b=>[.z .str (aG (aU a+aU b))])
theorem xw{B:aq}(hB:aN B):Valid B prog 62 B1:=by
 refine v2 (mg (T:=GX B) (tc ty9 (tc gj ab)) ae (aC (cc func92 (kX hB) (cc func115 (BU hB) (cc func116 (jx hB) (cc func117 (mU hB) ax)))))) func62 ?_;intro a b hC X hP hT hr hG;have hX:=ai GX.eq_1<|ai cx<|ai iB.eq_1<|ai gT.eq_1<|ai BS.eq_1<|mS.eq_1;simp only[f62,az,aj,ioB];refine sg ?_;refine sq ?_ ?_;·exact A8 hC.1
 refine sq ?_ ?_;·exact A8 hC.2
 refine ag (sg ?_);refine qc ?_ ?_
 ·intro hb0;refine sq ?_ ?_;·exact⟨(gM hC.1).1,(gM hC.2).1⟩
  refine av (aw (qe [] ?_));exact NF hC.1 hC.2 hb0
 ·intro hb0;refine ak (af (sq ?_ ?_));·exact JP hC.1 hC.2
  refine av (qe [] ?_);exact NH hC.1 hC.2
def GY(B:aq):Tab:=mT B [(9,.str),(46,.str)] [] [(92,gT),(116,iB),(117,mS)] [] 35
def mV:Con:=c2 .str .str (fun a b=>GQ QK a/\GQ QK b) (fun a b=>[.z .str (aG (aU a*aU b))])
theorem kY{B:aq}(hB:aN B):Valid B prog 84 mV:=by
 refine v2 (mg (T:=GY B) (tc ty9 (tc gj ab)) ae (aC (cc func92 (kX hB) (cc func116 (jx hB) (cc func117 (mU hB) ax))))) func84 ?_;intro a b hC X hP hT hr hG;have hX:=ai GY.eq_1<|ai cx<|ai iB.eq_1<|ai gT.eq_1<|mS.eq_1;simp only[f84,az,aj,ioB];refine sg ?_;refine sq ?_ ?_;·exact A8 hC.1
 refine sq ?_ ?_;·exact A8 hC.2
 refine ag (sg ?_);refine qc ?_ ?_
 ·intro hb0;refine sq ?_ ?_;·exact⟨(gM hC.1).1,(gM hC.2).1⟩
  refine av (aw (qe [] ?_));exact NG hC.1 hC.2 hb0
 ·intro hb0;refine ak (af (sq ?_ ?_));·exact JQ hC.1 hC.2
  refine av (qe [] ?_);exact NI hC.1 hC.2
def GZ(B:aq):Tab:=mT B [(9,.str),(46,.str)] [] [(84,mV),(92,gT),(116,iB)] [] 17
def B2:Con:=c2 .str .str (fun a b=>GQ QK a/\GQ QK b/\aU b≠0) (fun a b=>[.z .str (aG (aU a/aU b))])
theorem xx{B:aq}(hB:aN B):Valid B prog 75 B2:=by
 refine v2 (mg (T:=GZ B) (tc ty9 (tc gj ab)) ae (aC (cc func84 (kY hB) (cc func92 (kX hB) (cc func116 (jx hB) ax))))) func75 ?_;intro a b hC X hP hT hr hG;have hX:=ai GZ.eq_1<|ai cx<|ai iB.eq_1<|ai mV.eq_1<|gT.eq_1;simp only[f75,az,aj,ioB];refine sg ?_;refine sq ?_ ?_;·exact A8 hC.2.1
 refine sq ?_ ?_;·exact JR hC.1 hC.2.1 hC.2.2
 refine av (qe [] ?_);exact NJ hC.2.1
def G0(B:aq):Tab:=mT B [(3,(.int .i64)),(22,(.slice .str)),(46,.str)] [] [] [] 26
def oJ:Con:=c2 (.slice .str) (.slice .str) (fun p q=>p.length<=QL/\q.length<=QL) (fun p q=>[.z .bool (decide (p=q))])
theorem qZ{B:aq}(hB:aN B):Valid B prog 28 oJ:=by
 refine v2 (mg (T:=G0 B) (tc ty3 (tc dM (tc gj ab))) ae (bI rfl)) func28 ?_;intro p q hC X hP hT hr hG;have hX:=ai G0.eq_1<|cx;simp only[f28,az,aj,ioB];have hl:p.length<=1000000000:=hC.1;refine sg ?_;refine ag (sg ?_);refine qc ?_ ?_;·intro hb0;refine sg ?_;refine av (aw (qe [] ?_));exact NK hb0
 ·intro hb0;have he:p.length=q.length:=by have h9:(p.length:Int)=(q.length:Int):=hb0;omega
  refine ak (af (ag (sg ?_)));refine al (aY (fun(z:Nat)=>(⟨[(0,.l (.z (.slice .str) p)),(1,.l (.z (.slice .str) q)),(4,.l (.z .bool false)),(5,.l (.z (.int .i64) (z:Int)))],[]⟩:aa)) (fun z=>z<=p.length/\p.take z=q.take z) (fun z=>p.length-z) 0 ?_ ?_ ?_);·refine q_l ?_;rfl
  ·exact⟨by omega,rfl⟩
  ·rintro k ⟨g1,g2⟩;(try dsimp only at g1 g2);refine ag (sg ?_);refine qc ?_ ?_
   ·(intro hb1;(have hk:k<p.length:=by have h9:(k:Int)<(p.length:Int):=hb1;omega);refine ak (af (ag (al (sd ?_ ?_))));·rw[<- he];exact⟨⟨by omega,hb1⟩,by omega,hb1⟩);(refine qc ?_ ?_;·intro hb2;refine sg ?_;refine av (bk (aw (dc (bk (aw (qe [] ?_))))));exact NL hb2);·intro hb2;refine ak (aD (af (rg ?_)));refine qm ?_;exact⟨k+1,wo,hk,JS he hk g2 hb2,by omega⟩
   ·intro hb1;(have hk:¬k<p.length:=by have h9:¬(k:Int)<(p.length:Int):=hb1;omega);refine aT (aA (ao (an (af (sg ?_)))));refine av (qe [] ?_);exact NM he hk g2
def y6:Con:=kr [some (.slice .str),some (.slice .str)] oJ
theorem En{B:aq}(hB:aN B):Valid B prog 28 y6:=fY _ (qZ hB)
def vi(B:aq):Tab:={types:=[(87,(.slice (.int .u32))),(161,(.int .u32)),(164,(.int .u64))],elems:=[(87,161)],cons:=[(193,BN)],hint:=[],N:=38,base:=B}
theorem PG{B:aq}(hB:aN B):bx prog (vi B):=⟨⟨tc jF (tc gG (tc ph ab)),aK (by kernel_rfl) ae,by simp only[vi,ioB];omega⟩,aC (cc func193 (GN hB) ax),by kernel_rfl⟩
def vj:Con:=c2 (.slice (.int .u32)) (.int .u32) (fun m b=>Lim m/\Ac b/\m.length<CAP) (fun m b=>[.z (.slice (.int .u32)) (padL (valL m/b).toNat m.length),.z (.int .u32) (valL m%b)])
theorem Ss{B:aq}(hB:aN B):Valid B prog 189 vj:=by
 refine aW (PG hB).tab func189 rfl rfl rfl ?_;intro args os C rs os' hc hC;obtain⟨m,b,rfl,rfl,rfl,rfl,rfl⟩:=qz hc;refine v_h (PG hB) fun X hP hT hr hG=>?_;have hU:=vi.eq_1;unfold vi at hT;have hX:=ai @cx<| @BN.eq_1;simp only[f189,az,aj,ioB];refine s_g hG ?_;refine s_q hG ?_ ?_
 ·try simp only[ba]
  exact⟨by omega,by omega,by have:=hC.2.2;unfold CAP at this;unfold Cm.Roomy;omega⟩
 refine s_g hG ?_;refine ag (s_g hG ?_);refine al (Fb hr (gf:=208) (caps:=[.z (.ptr (.slice (.int .u32))) m]) (items:=dj m) (by simp only[hT,vi,mx0,mx1,mx2,mx3,mx4,mx5,mx6,mT,effOp,endCall,callOp,appendOp,sliceLV,Ty.fieldTy,Ty.fieldOf,Nat.reduceLT,Nat.reduceEqDiff,Nat.reduceAdd,Nat.reduceMul,Nat.reduceSub,Nat.reduceLeDiff,Nat.reduceBEq,Nat.reduceBNe,reduceIte,reduceDIte,reduceCtorEq];try rfl) (by rfl) (by rw[hP];exact At m) (by rfl) [3,6,7] (by rfl) (by simp only[hT,vi];try rfl) (fun(k:Nat) (z:Int×List Int)=>(⟨[(3,.l (.z (.ptr (.int .u32)) b)),(6,.l (.ownP 6 0)),(7,.l (.ownP 7 0))],[(6,.box 87 [.ownS 13]),(7,.box 164 [.z (.int .u64) z.1]),(13,.arr (.int .u32) 161 z.2)]⟩:aa)) (fun(k:Nat) (z:Int×List Int)=>mm m b k z.1 z.2) (0,List.replicate (List.length m) 0) ?_ ?_ ?_ ?_ ?_);·simp only[ml0,ml1,Nat.reduceLT,Nat.reduceEqDiff,Nat.reduceAdd,Nat.reduceMul,Nat.reduceSub,Nat.reduceLeDiff,Nat.reduceBEq,Nat.reduceBNe,reduceIte,reduceDIte,reduceCtorEq];simp
 ·exact Ae hC.2.1
 ·intro k z;rfl
 ·intro k hk;rintro⟨r,out⟩ hz;try dsimp only at hz
  have hk:k<List.length m:=by simpa [dj] using hk
  refine⟨_,by simp only[hT,vi,dj,tS,mx0,mx1,mx2,mx3,mx4,mx5,mx6,mT,effOp,endCall,callOp,appendOp,sliceLV,Ty.fieldTy,Ty.fieldOf,Nat.reduceLT,Nat.reduceEqDiff,Nat.reduceAdd,Nat.reduceMul,Nat.reduceSub,Nat.reduceLeDiff,Nat.reduceBEq,Nat.reduceBNe,reduceIte,reduceDIte,reduceCtorEq,List.getElem_map,List.getElem_range];rfl,?_⟩;intro X' hP' hT';have hG':bx X'.P X'.T:=by rw[hP',hT'];exact hG.keep _
  rw[hT] at hT';refine al (ag (qq hG' ?_ ?_));·exact tt
  refine af (Fc hG' ?_ ?_)
  ·(try simp only[ba]);have hl:=hz.1;exact⟨Fl hC.2.1,Fl hC.2.1,by omega,by omega⟩
  refine aD ?_;show ∃z,_;simp only[ml0,ml1,Nat.reduceLT,Nat.reduceEqDiff,Nat.reduceAdd,Nat.reduceMul,Nat.reduceSub,Nat.reduceLeDiff,Nat.reduceBEq,Nat.reduceBNe,reduceIte,reduceDIte,reduceCtorEq];exact C3 hC.1 hC.2.1 hk hz
 ·rintro⟨r,out⟩ hz;try dsimp only at hz
  rw[show List.length (dj m)=List.length m by simp[dj]] at hz;refine aD (af (s_d hG ?_ ?_));·exact tt
  refine av (q_e [13] ?_);exact IX hC.1 hC.2.1 hz
def SY(B:aq):Tab:=mT B [(3,(.int .i64)),(87,(.slice (.int .u32))),(161,(.int .u32)),(164,(.int .u64))] [(87,161)] [] [] 41
def pT:Con:=c2 (.slice (.int .u32)) (.int .u32) (fun m b=>Lim m/\Ad b/\m.length<CAP) (fun m b=>[.own (.int .u32) 161 (padL (valL m*b).toNat (m.length+1))])
theorem Su{B:aq}(hB:aN B):Valid B prog 190 pT:=by
 refine v2 (mg (T:=SY B) (tc ty3 (tc jF (tc gG (tc ph ab)))) (aK (by kernel_rfl) ae) (bI rfl)) func190 ?_;intro m b hC X hP hT hr hG;have hX:=ai SY.eq_1<|cx;simp only[f190,az,aj,ioB];refine sg ?_;refine sq ?_ ?_;·have h1:List.length m<1000000000000:=hC.2.2;rw[wo];exact⟨by omega,by omega,by unfold Cm.Roomy;omega⟩
 refine sg ?_;refine ag (sg ?_);refine al (aY (fun(z:Nat×Int×List Int)=>(⟨[(1,.l (.z (.int .u32) b)),(5,.l (.ownS 13)),(6,.l (.z (.int .u64) z.2.1)),(14,.l (.z (.slice (.int .u32)) m)),(15,.l (.z (.int .i64) (List.length m:Int))),(16,.l (.z (.int .i64) (z.1:Int)))],[(13,.arr (.int .u32) 161 z.2.2)]⟩:aa)) (fun z=>kJ m b z.1 z.2.1 z.2.2) (fun z=>List.length m-z.1) (0,0,[]) ?_ ?_ ?_);·refine q_l ?_;exact⟨rfl,rfl⟩
 ·exact ym
 ·rintro⟨k,c,out⟩ hz;try dsimp only at hz
  refine sg ?_;refine ag (qc ?_ ?_)
  ·(intro hb0;refine ak (af (ag (al (sq ?_ ?_))));·exact⟨by omega,hb0⟩);refine sg ?_;refine rq ?_ ?_;·have h1:List.length m<1000000000000:=hC.2.2;have h2:=hz.2.1;exact⟨by decide,by unfold Cm.Roomy;omega,by decide⟩
   refine aD (af (rg ?_));refine qm ?_;exact Af hC.1 hC.2.2 hC.2.1 hb0 hz
  ·(intro hb0;refine aT (aA (ao (an (af (sq ?_ ?_)))));·have h1:List.length m<1000000000000:=hC.2.2;have h2:=hz.2.1;have h3:=hz.1;unfold Cm.Roomy;omega);refine av (qe [] ?_);exact⟨trivial,C4 hC.1 hC.2.1 hb0 hz⟩
def G1(B:aq):Tab:={types:=[(2,(.int .i64)),(3,(.int .i64)),(87,(.slice (.int .u32))),(161,(.int .u32)),(164,(.int .u64))],elems:=[],cons:=[],hint:=[],N:=57,base:=B}
theorem PH{B:aq}(hB:aN B):bx prog (G1 B):=⟨⟨tc ty2 (tc ty3 (tc jF (tc gG (tc ph ab)))),ae,by simp only[G1,ioB];omega⟩,bI rfl,by kernel_rfl⟩
def xy:Con:=fun l os=>match l,os with
 | [.ownS 10000000,.z (.slice (.int .u32)) o,.z (.int .u64) q],[.win (.int .u32) 161 pre xs []]=>some (Lim xs/\Lim o/\Ad q/\o.length+1<=xs.length/\o.length<CAP,[.z .bool (decide (valL (xs.take (o.length+1))<q*valL o))],[.win (.int .u32) 161 pre (put xs (o.length+1) (valL (xs.take (o.length+1))-q*valL o)) []])
 |_,_=>none
theorem Sv{B:aq}(hB:aN B):Valid B prog 191 xy:=by
 refine aW (PH hB).tab func191 rfl rfl rfl ?_;intro args os C rs os' hc hC;unfold xy at hc;split at hc;case h_2=>cases hc
 rename_i o q pre xs;cases hc;refine v_h (PH hB) fun X hP hT hr hG=>?_;have hU:=G1.eq_1;unfold G1 at hT;have hX:=Bool.not_true;simp only[f191,az,aj,ioB];refine s_g hG ?_;refine s_g hG ?_;refine ag (s_g hG ?_);refine al (aY (fun(z:Nat×Int×Int×List Int)=>(⟨[(0,.l (.ownS 10000000)),(1,.l (.z (.slice (.int .u32)) o)),(2,.l (.z (.int .u64) q)),(7,.l (.z (.int .u64) z.2.1)),(8,.l (.z (.int .i64) z.2.2.1)),(14,.l (.z (.int .i64) ((List.length o+1:Nat):Int))),(15,.l (.z (.int .i64) (z.1:Int)))],[(10000000,.win (.int .u32) 161 pre z.2.2.2 [])]⟩:aa)) (fun z=>lk xs o q z.1 z.2.1 z.2.2.1 z.2.2.2) (fun z=>List.length o+1-z.1) (0,0,0,xs) ?_ ?_ ?_);·refine q_l ?_;exact⟨wi (by omega) (by have:List.length o<1000000000000:=hC.2.2.2.2;omega),rfl⟩
 ·exact C6 hC.1
 ·rintro⟨i,c,b,ys⟩ hz;try dsimp only at hz
  have hl:=hz.2.1;have hlen:=hC.2.2.2.1;refine s_g hG ?_;refine ag (aS ?_ ?_)
  ·intro hb0;(try simp only[bt] at hb0);refine ak (af (ag (al (s_g hG ?_))));refine s_g hG ?_;refine cm (fun(z:Int)=>(⟨[(0,.l (.ownS 10000000)),(1,.l (.z (.slice (.int .u32)) o)),(2,.l (.z (.int .u64) q)),(8,.l (.z (.int .i64) b)),(9,.l (.z (.int .i64) (i:Int))),(10,.l (.z (.int .u64) z)),(14,.l (.z (.int .i64) ((List.length o+1:Nat):Int))),(15,.l (.z (.int .i64) (i:Int)))],[(10000000,.win (.int .u32) 161 pre ys [])]⟩:aa)) (fun z=>z=c+q*o.getD i 0) ?_ ?_
   ·refine s_g hG ?_;refine aS ?_ ?_
    ·intro hb1;(try simp only[bt] at hb1);refine bd hG ?_ ?_
     ·(try simp only[ba]);exact⟨by omega,hb1⟩
     refine qm ?_;first|exact Mk i hC.2.1 hC.2.2.1 hz.2.2.2.2.1|exact wv hb1
    ·intro hb1;(try simp only[bf] at hb1);refine ak (qm ?_);first|exact Mk i hC.2.1 hC.2.2.1 hz.2.2.2.2.1|exact wv hb1
   rintro n hn;(try dsimp only at hn);(have hn2:0<=n/\n<LB*LB:=by rw[hn];have:=C7 i hC.2.1 hC.2.2.1 hz.2.2.2.2.1;exact⟨this.1,this.2.1⟩);refine s_q hG ?_ ?_
   ·(try simp only[ba]);decide
   refine s_q hG ?_ ?_
   ·(try simp only[ba]);exact⟨⟨by omega,by omega⟩,by omega,by decide⟩
   refine s_g hG ?_;refine cm (fun(z:Int×Int)=>(⟨[(0,.l (.ownS 10000000)),(1,.l (.z (.slice (.int .u32)) o)),(2,.l (.z (.int .u64) q)),(7,.l (.z (.int .u64) (n/LB))),(8,.l (.z (.int .i64) z.2)),(9,.l (.z (.int .i64) (i:Int))),(11,.l (.z (.int .i64) z.1)),(14,.l (.z (.int .i64) ((List.length o+1:Nat):Int))),(15,.l (.z (.int .i64) (i:Int)))],[(10000000,.win (.int .u32) 161 pre ys [])]⟩:aa)) (fun z=>(0<=z.1/\z.1<LB)/\(0<=z.2/\z.2<=1)/\z.1-LB*z.2=ys.getD i 0-n%LB-b) ?_ ?_
   ·refine s_g hG ?_;refine aS ?_ ?_
    ·(intro hb2;(try simp only[bt] at hb2);refine bd hG ?_ ?_;·exact tt);refine qm ?_;first|exact(by simpa only[and_assoc] using(o9 hz.2.2.1 hn2 hz.2.2.2.2.2.2.1 rfl).1 hb2)|exact(by simpa only[and_assoc] using(o9 hz.2.2.1 hn2 hz.2.2.2.2.2.2.1 rfl).2 hb2)
    ·intro hb2;(try simp only[bf] at hb2);refine ak (qm ?_);first|exact(by simpa only[and_assoc] using(o9 hz.2.2.1 hn2 hz.2.2.2.2.2.2.1 rfl).1 hb2)|exact(by simpa only[and_assoc] using(o9 hz.2.2.1 hn2 hz.2.2.2.2.2.2.1 rfl).2 hb2)
   rintro⟨v,b2⟩ hv;(try dsimp only at hv);refine bd hG ?_ ?_
   ·(try simp only[ba]);exact⟨⟨by omega,by omega⟩,by omega⟩
   (refine aD (af (bd hG ?_ ?_));·exact tt);refine qm ?_;exact IZ hC.2.1 hC.2.2.1 hC.2.2.2.1 hC.2.2.2.2 hz hb0 hn hv
  ·intro hb0;(try simp only[bf] at hb0);refine aT (aA (ao (an (af (s_g hG ?_)))));refine av (q_e [] ?_);exact⟨(Ai hC.2.2.2.1 hz (by omega)).2,trivial,(Ai hC.2.2.2.1 hz (by omega)).1⟩
def G2(B:aq):Tab:={types:=[(3,(.int .i64)),(87,(.slice (.int .u32))),(161,(.int .u32))],elems:=[],cons:=[],hint:=[],N:=37,base:=B}
theorem PI{B:aq}(hB:aN B):bx prog (G2 B):=⟨⟨tc ty3 (tc jF (tc gG ab)),ae,by simp only[G2,ioB];omega⟩,bI rfl,by kernel_rfl⟩
def xz:Con:=fun l os=>match l,os with
 | [.ownS 10000000,.z (.slice (.int .u32)) o],[.win (.int .u32) 161 pre xs []]=>some (Lim xs/\Lim o/\o.length+1<=xs.length/\o.length<CAP,[],[.win (.int .u32) 161 pre (put xs (o.length+1) (valL (xs.take (o.length+1))+valL o)) []])
 |_,_=>none
theorem Sw{B:aq}(hB:aN B):Valid B prog 192 xz:=by
 refine aW (PI hB).tab func192 rfl rfl rfl ?_;intro args os C rs os' hc hC;unfold xz at hc;split at hc;case h_2=>cases hc
 rename_i o pre xs;cases hc;refine v_h (PI hB) fun X hP hT hr hG=>?_;have hU:=G2.eq_1;unfold G2 at hT;have hX:=Bool.not_true;simp only[f192,az,aj,ioB];refine s_g hG ?_;refine s_g hG ?_;refine al (aY (fun(z:Nat×Int×List Int)=>(⟨[(0,.l (.ownS 10000000)),(1,.l (.z (.slice (.int .u32)) o)),(4,.l (.z (.int .u32) z.2.1)),(9,.l (.z (.int .i64) ((List.length o+1:Nat):Int))),(10,.l (.z (.int .i64) (z.1:Int)))],[(10000000,.win (.int .u32) 161 pre z.2.2 [])]⟩:aa)) (fun z=>lu xs o z.1 z.2.1 z.2.2) (fun z=>List.length o+1-z.1) (0,0,xs) ?_ ?_ ?_);·refine q_l ?_;exact⟨wi (by omega) (by have:List.length o<1000000000000:=hC.2.2.2;omega),rfl⟩
 ·exact C9 hC.1
 ·rintro⟨i,c,ys⟩ hz;try dsimp only at hz
  have hl:=hz.2.1;have hlen:=hC.2.2.1;refine s_g hG ?_;refine ag (aS ?_ ?_)
  ·intro hb0;(try simp only[bt] at hb0);refine ak (af (ag (al (s_g hG ?_))));refine s_q hG ?_ ?_
   ·(try simp only[ba]);exact⟨⟨by omega,by omega⟩,by omega⟩
   refine cm (fun(z:Int)=>(⟨[(0,.l (.ownS 10000000)),(1,.l (.z (.slice (.int .u32)) o)),(5,.l (.z (.int .i64) (i:Int))),(6,.l (.z (.int .u32) z)),(9,.l (.z (.int .i64) ((List.length o+1:Nat):Int))),(10,.l (.z (.int .i64) (i:Int)))],[(10000000,.win (.int .u32) 161 pre ys [])]⟩:aa)) (fun z=>z=ys.getD i 0+c+o.getD i 0) ?_ ?_
   ·refine s_g hG ?_;refine aS ?_ ?_
    ·intro hb1;(try simp only[bt] at hb1);refine bd hG ?_ ?_
     ·(try simp only[ba]);exact⟨by omega,hb1⟩
     refine qm ?_;first|exact(yo i hz.2.2.1 hC.2.1 hz.2.2.2.2.1).2 hb1|exact(yo i hz.2.2.1 hC.2.1 hz.2.2.2.2.1).1
    ·intro hb1;(try simp only[bf] at hb1);refine ak (qm ?_);first|exact(yo i hz.2.2.1 hC.2.1 hz.2.2.2.2.1).2 hb1|exact(yo i hz.2.2.1 hC.2.1 hz.2.2.2.2.1).1
   rintro n hn;(try dsimp only at hn);refine bd hG ?_ ?_
   ·(try simp only[ba]);exact⟨by decide,by decide,⟨by omega,by omega⟩,by omega⟩
   (refine aD (af (bd hG ?_ ?_));·exact tt);refine qm ?_;exact I0 hC.2.1 hC.2.2.1 hC.2.2.2 hz hb0 hn
  ·intro hb0;(try simp only[bf] at hb0);refine aT (aA (ao (an (q_e [] ?_))));exact⟨trivial,Mj hC.2.2.1 hz (by omega)⟩
def xA(B:aq):Tab:={types:=[(3,(.int .i64)),(4,.bool),(87,(.slice (.int .u32))),(89,tyW),(161,(.int .u32)),(164,(.int .u64))],elems:=[(87,161)],cons:=[(150,eP),(152,fK),(189,vj),(190,pT),(191,xy),(192,xz)],hint:=[52,144,152],N:=172,io:=[(191,[0]),(192,[0])],base:=B}
theorem PJ{B:aq}(hB:aN B):bx prog (xA B):=⟨⟨tc ty3 (tc ty4 (tc jF (tc iV (tc gG (tc ph ab))))),aK (by kernel_rfl) ae,by simp only[xA,ioB];omega⟩,aC (cc func150 (lN hB) (cc func152 (yV hB) (cc func189 (Ss hB) (cc func190 (Su hB) (cc func191 (Sv hB) (cc func192 (Sw hB) ax)))))),by kernel_rfl⟩
def mW:Con:=c2 (.slice (.int .u32)) (.slice (.int .u32)) (fun m o=>Cano m/\Cano o/\o≠[]/\m.length+o.length+1<CAP) (fun m o=>[.z (.slice (.int .u32)) (jS m o),.z (.slice (.int .u32)) (eE m o)])
set_option maxHeartbeats 1000000 in
theorem G3{B:aq}(hB:aN B):Valid B prog 177 mW:=by
 refine aW (PJ hB).tab func177 rfl rfl rfl ?_;intro args os C rs os' hc hC;obtain⟨m,o,rfl,rfl,rfl,rfl,rfl⟩:=qz hc;refine v_h (PJ hB) fun X hP hT hr hG=>?_;have hU:=xA.eq_1;unfold xA at hT;have hX:=ai @cx<|ai @fK.eq_1<|ai @xz.eq_1<|ai @xy.eq_1<|ai @pT.eq_1<|ai @vj.eq_1<|ai @eP.eq_1<|ai @b7.eq_def<| @cu.eq_def;simp only[f177,az,aj,ioB];refine ag ?_;show J X _ _ _;refine bd hG ?_ ?_;·exact tt
 refine af (ag (ag ?_));show J X _ _ _;refine bd hG ?_ ?_
 ·try simp only[ba]
  exact⟨hC.1,hC.2.1,Nat.lt_of_le_of_lt (Nat.le_succ _) hC.2.2.2⟩
 refine af (aS ?_ ?_)
 ·intro hb0;try simp only[bt] at hb0
  refine ag ?_;show J X _ _ _;refine bd hG ?_ ?_;·exact tt
  refine af (av (aw (q_e [62] ?_)));exact Mr hb0
 ·intro hb0;try simp only[bf] at hb0
  refine ak (af (ag (ag ?_)));show J X _ _ _;refine bd hG ?_ ?_;·exact tt
  refine af (aS ?_ ?_)
  ·intro hb1;(try simp only[bt] at hb1);refine ag ?_;show J X _ _ _;refine bd hG ?_ ?_
   ·(try simp only[ba]);exact⟨⟨by omega,by omega⟩,hC.1.1,(div_one hC.2.1 hb0 hb1).1,by have:=hC.2.2.2;omega⟩
   (refine af (ag ?_);show J X _ _ _;refine bd hG ?_ ?_;·exact tt);refine af (av (aw (q_e [62] ?_)));exact(div_one hC.2.1 hb0 hb1).2
  ·intro hb1;simp only[beq_eq_false_iff_ne,ne_eq] at hb1;obtain⟨p,hp⟩:∃p,List.length o=p+2:=rC hC.2.2.1 hb1;obtain⟨D,f⟩:∃D:List Int,iU m o D p:=⟨_,iU.mk' hC.1 hC.2.1 hp (Ms hb0) hC.2.2.2⟩;have hDl:=f.hDl;have hcc:=f.hc;have hlm:=f.hlm;refine ak (af (cm (fun(z:Int)=>(⟨[(0,.l (.z (.slice (.int .u32)) m)),(1,.l (.z (.slice (.int .u32)) o)),(8,.l (.z (.int .u32) z))],[]⟩:aa)) (fun z=>z=aO o) ?_ ?_))
   ·show J X _ _ _;refine bd hG ?_ ?_
    ·(try simp only[ba]);have h:=tM f.ho f.hp (by omega);exact⟨h.1,h.2.1⟩
    refine qm ?_;exact(tM f.ho f.hp (by omega)).2.2
   rintro d hd;(try dsimp only at hd);subst hd;refine ag ?_;show J X _ _ _;refine yj hG ?_ ?_
   ·(try simp only[ba]);exact I5 f
   (refine af (ag ?_);show J X _ _ _;refine bd hG ?_ ?_;·exact tt);refine af (ag ?_);show J X _ _ _;refine bd hG ?_ ?_
   ·(try simp only[ba]);exact I6 f
   (refine af (ag (ag ?_));show J X _ _ _;refine bd hG ?_ ?_;·exact tt);refine af (al (aY (fun(z:Nat×List Int×List Int)=>(⟨[(8,.l (.z (.int .u32) (aO o))),(9,.l (.ownS 1392)),(10,.l (.z (.slice (.int .u32)) D)),(11,.l (.z (.int .i64) (List.length o:Int))),(12,.l (.ownS 62)),(13,.l (.z (.int .i64) ((z.1:Int)-1)))],[(1392,.arr (.int .u32) 161 z.2.1),(62,.arr (.int .u32) 161 z.2.2)]⟩:aa)) (fun z=>lA (valL m*aO o) (valL D) (List.length m) (p+2) z.1 z.2.1 z.2.2) (fun z=>z.1) (List.length m+1-List.length o,padL (valL m*aO o).toNat (List.length m+1),List.replicate (List.length m+1-List.length o) 0) ?_ ?_ ?_));·refine q_l ?_;exact Qz f
   ·exact Db f
   ·(rintro⟨k,T,Q⟩ hz;(try dsimp only at hz);have hz1:=hz.1;have hz3:=hz.2.2.1;have hz5:=hz.2.2.2.2.1;refine ag (ag ?_);show J X _ _ _;refine bd hG ?_ ?_;·exact tt);refine af (aS ?_ ?_)
    ·intro hb2;(try simp only[decide_eq_true_eq] at hb2);obtain⟨j,rfl⟩:∃j,k=j+1:=⟨k-1,by omega⟩;(have ej:(((j+1:Nat)):Int)-1=(j:Int):=by omega);rw[ej];(have hw17:(j:Int).toNat<List.length T:=by omega);(have hw19:∀v:Int,(j:Int).toNat<(List.take (j:Int).toNat T++put (List.drop (j:Int).toNat T) (List.length D+1) v).length:=fun v=>by rw[Fq _ (by rw[hDl];omega)];exact hw17);(have ej0:IntKind.i64.wrap ((j:Int)+(List.length o:Int))=((j+(p+2):Nat):Int):=by rw[wo];omega);(have ej1:IntKind.i64.wrap (((j+(p+2):Nat):Int)-1)=((j+(p+1):Nat):Int):=by rw[wo];omega);(have ej2:IntKind.i64.wrap (((j+(p+2):Nat):Int)-2)=((j+p:Nat):Int):=by rw[wo];omega);have g:=Aj (j:=j) (p:=p) hz.2.1 f.hL f.hDl f.hVp (by omega) hz.2.2.2.2.2.2;have hD1:=(f.hL.getD (p+1)).2;(have hTj:j+(p+3)<=List.length T:=by omega);refine ak (af (ag (al (cm (fun(z:Int)=>(⟨[(8,.l (.z (.int .u32) (aO o))),(9,.l (.ownS 1392)),(10,.l (.z (.slice (.int .u32)) D)),(11,.l (.z (.int .i64) (List.length o:Int))),(12,.l (.ownS 62)),(13,.l (.z (.int .i64) (j:Int))),(14,.l (.z (.int .u64) z))],[(1392,.arr (.int .u32) 161 T),(62,.arr (.int .u32) 161 Q)]⟩:aa)) (fun z=>z=T.getD (j+(p+2)) 0*LB+T.getD (j+(p+1)) 0/\z<LB*LB) ?_ ?_))))
     ·show J X _ _ _;refine yj hG ?_ ?_
      ·(try simp only[ba]);simp only[ej0,ej1,Int.toNat_natCast];exact⟨⟨by omega,by omega⟩,by omega,⟨by omega,by omega⟩,by omega⟩
      refine qm ?_;simp only[f.en1,f.en2,ej0,ej1,ej2,Int.toNat_natCast,gB];have:=Mn (hz.2.1.getD (j+(p+2))) (hz.2.1.getD (j+(p+1)));rw[this.1];exact⟨rfl,this.2.1⟩
     rintro top ht;(try dsimp only at ht);have g2:=g;rw[<- ht.1] at g2;have ht0:=g2.htop;refine cm (fun(z:Int)=>(⟨[(8,.l (.z (.int .u32) (aO o))),(9,.l (.ownS 1392)),(10,.l (.z (.slice (.int .u32)) D)),(11,.l (.z (.int .i64) (List.length o:Int))),(12,.l (.ownS 62)),(13,.l (.z (.int .i64) (j:Int))),(14,.l (.z (.int .u64) top)),(15,.l (.z (.int .u64) z))],[(1392,.arr (.int .u32) 161 T),(62,.arr (.int .u32) 161 Q)]⟩:aa)) (fun z=>z=min (top/D.getD (p+1) 0) 999999999) ?_ ?_
     ·show J X _ _ _;refine bd hG ?_ ?_
      ·(try simp only[ba]);simp only[f.en1,f.en2,ej0,ej1,ej2,Int.toNat_natCast,gB];exact⟨⟨by omega,by omega⟩,(Ak ht0 ht.2 g.hD1 hD1).2⟩
      refine qm ?_;simp only[f.en1,f.en2,ej0,ej1,ej2,Int.toNat_natCast,gB];rw[(Ak ht0 ht.2 g.hD1 hD1).1]
     (rintro gs hg;(try dsimp only at hg);refine ag (al (aY (fun(z:Int)=>(⟨[(8,.l (.z (.int .u32) (aO o))),(9,.l (.ownS 1392)),(10,.l (.z (.slice (.int .u32)) D)),(11,.l (.z (.int .i64) (List.length o:Int))),(12,.l (.ownS 62)),(13,.l (.z (.int .i64) (j:Int))),(14,.l (.z (.int .u64) top)),(15,.l (.z (.int .u64) z))],[(1392,.arr (.int .u32) 161 T),(62,.arr (.int .u32) 161 Q)]⟩:aa)) (fun z=>I4 (valL ((T.drop j).take (p+3))) (valL D) top (D.getD (p+1) 0) z) (fun z=>z.toNat) gs ?_ ?_ ?_));·simp only[ml0,ml1,Nat.reduceLT,Nat.reduceEqDiff,Nat.reduceAdd,Nat.reduceMul,Nat.reduceSub,Nat.reduceLeDiff,Nat.reduceBEq,Nat.reduceBNe,reduceIte,reduceDIte,reduceCtorEq]);·exact Qx g2 hg
     ·rintro q hq;(try dsimp only at hq);refine ag (ag ?_);show J X _ _ _;refine yj hG ?_ ?_
      ·(try simp only[ba]);simp only[f.en1,f.en2,ej0,ej1,ej2,Int.toNat_natCast,gB];exact⟨⟨by omega,by omega⟩,⟨by omega,by omega⟩,⟨by omega,by omega⟩,by omega,fun h=>h,fun h=>⟨h,by omega,by omega⟩,fun h=>h⟩
      refine af (aS ?_ ?_)
      ·(intro hb3;(try simp only[bt] at hb3);refine ak (af (al ?_));show J X _ _ _;refine bd hG ?_ ?_;·exact tt);refine aD (qm ?_);simp only[f.en1,f.en2,ej0,ej1,ej2,Int.toNat_natCast,gB] at hb3;exact Tc g2 ht.2 hD1 hq hb3
      ·intro hb3;(try simp only[bf] at hb3);refine aT (aA (ao (an (af (cm (fun(z:Int×List Int)=>(⟨[(8,.l (.z (.int .u32) (aO o))),(9,.l (.ownS 1392)),(10,.l (.z (.slice (.int .u32)) D)),(11,.l (.z (.int .i64) (List.length o:Int))),(12,.l (.ownS 62)),(13,.l (.z (.int .i64) (j:Int))),(15,.l (.z (.int .u64) z.1))],[(1392,.arr (.int .u32) 161 z.2),(62,.arr (.int .u32) 161 Q)]⟩:aa)) (fun z=>z.1=valL ((T.drop j).take (p+3))/valL D/\z.2=T.take j++put (T.drop j) (p+3) (valL ((T.drop j).take (p+3))-z.1*valL D)) ?_ ?_)))))
       ·refine ag ?_;show J X _ _ _;refine cp hG (by simp only[hw17,hT,xA,b7.eq_def,cu.eq_def,fK,xz,xy,pT,vj,eP,cx,mx0,mx1,mx2,mx3,mx4,mx5,mx6,mT,effOp,endCall,callOp,appendOp,sliceLV,Ty.fieldTy,Ty.fieldOf,Nat.reduceLT,Nat.reduceEqDiff,Nat.reduceAdd,Nat.reduceMul,Nat.reduceSub,Nat.reduceLeDiff,Nat.reduceBEq,Nat.reduceBNe,reduceIte,reduceDIte,reduceCtorEq];rfl) ?_ ?_
        ·(try simp only[ba]);simp only[Int.toNat_natCast];exact⟨⟨by omega,by omega⟩,⟨hz.2.1.drop j,f.hL,⟨hq.2.2.2,hq.2.1⟩,by rw[hDl,List.length_drop];omega,by rw[hDl];unfold CAP;omega⟩,by rw[List.length_take];omega⟩
        refine af (aS ?_ ?_)
        ·(intro hb4;(try simp only[bt] at hb4);refine ag ?_;show J X _ _ _;refine bd hG ?_ ?_;·exact tt);refine af ?_;show J X _ _ _;refine cp hG (by simp only[hw17,hw19,hT,xA,b7.eq_def,cu.eq_def,fK,xz,xy,pT,vj,eP,cx,mx0,mx1,mx2,mx3,mx4,mx5,mx6,mT,effOp,endCall,callOp,appendOp,sliceLV,Ty.fieldTy,Ty.fieldOf,Nat.reduceLT,Nat.reduceEqDiff,Nat.reduceAdd,Nat.reduceMul,Nat.reduceSub,Nat.reduceLeDiff,Nat.reduceBEq,Nat.reduceBNe,reduceIte,reduceDIte,reduceCtorEq];rfl) ?_ ?_
         ·(try simp only[ba]);simp only[Int.toNat_natCast,f.hDl3];rw[(tO _ hTj).1,(tO _ hTj).2,Fq _ hTj];exact⟨⟨by omega,by omega⟩,⟨Fo (hz.2.1.drop j) _ _,f.hL,by rw[yn _ (by rw[List.length_drop];omega),List.length_drop];omega,by rw[hDl];unfold CAP;omega⟩,by rw[List.length_take];omega⟩
         refine qm ?_;simp only[Int.toNat_natCast,f.hDl3] at hb4 ⊢;simp only[f.en1,f.en2,ej0,ej1,ej2,Int.toNat_natCast,gB] at hb3;have hst:=Mp g2 ht.2 hD1 hq hb3;first|(have hq1:=hst.1 hb4;have hqn:=g.qnn;have hql:=g.qlt;have hB:LB=1000000000:=rfl;rw[w64 (x:=q-1) (by omega) (by omega),wz hTj];exact⟨hq1,rfl⟩)|exact⟨hst.2 hb4,trivial⟩|exact⟨hst.2 hb4,rfl⟩
        ·intro hb4;(try simp only[bf] at hb4);refine ak (qm ?_);simp only[Int.toNat_natCast,f.hDl3] at hb4 ⊢;simp only[f.en1,f.en2,ej0,ej1,ej2,Int.toNat_natCast,gB] at hb3;have hst:=Mp g2 ht.2 hD1 hq hb3;first|(have hq1:=hst.1 hb4;have hqn:=g.qnn;have hql:=g.qlt;have hB:LB=1000000000:=rfl;rw[w64 (x:=q-1) (by omega) (by omega),wz hTj];exact⟨hq1,rfl⟩)|exact⟨hst.2 hb4,trivial⟩|exact⟨hst.2 hb4,rfl⟩
       rintro⟨q2,Tn⟩ hq2;(try dsimp only at hq2);show J X _ _ _;refine bd hG ?_ ?_
       ·(try simp only[ba]);exact⟨⟨by omega,by omega⟩,by omega⟩
       (refine aD (af ?_);show J X _ _ _;refine bd hG ?_ ?_;·exact tt);refine qm ?_;rw[wi (x:=(j:Int)-1) (by omega) (by omega),hq2.2,Int.toNat_natCast,w32 (by rw[hq2.1];exact g.qnn) (by rw[hq2.1];have:=g.qlt;have hB:LB=1000000000:=rfl;omega)];exact⟨j,rfl,I2 f.hL f.hDl f.hVp f.hlm hz hq2.1,by omega⟩
    ·intro hb2;(try simp only[bf] at hb2);refine aT (aA (ao (an (af (ag ?_)))));show J X _ _ _;refine bd hG ?_ ?_
     ·(try simp only[ba]);exact Dc f hz (by omega)
     (refine af (ag ?_);show J X _ _ _;refine bd hG ?_ ?_;·exact tt);refine af (av (q_e [62] ?_));(obtain rfl:k=0:=by omega);exact Qy f hz
def SZ(B:aq):Tab:=mT B [(3,(.int .i64)),(4,.bool),(87,(.slice (.int .u32))),(89,tyW)] [] [(110,BL),(133,lO),(150,eP),(154,rO),(177,mW),(179,Sl)] [] 47
def PK:Con:=c2 tyW tyW (fun x y=>qv x y) (fun x y=>[.z tyW (enc (bN (dec x) (dec y))),.z tyW (enc (ku (dec x) (dec y)))])
theorem Sx{B:aq}(hB:aN B):Valid B prog 149 PK:=by
 refine v2 (mg (T:=SZ B) (tc ty3 (tc ty4 (tc jF (tc iV ab)))) ae (aC (cc func110 (yX hB) (cc func133 (sn hB) (cc func150 (lN hB) (cc func154 (yU hB) (cc func177 (G3 hB) (cc func179 (Sn hB) ax)))))))) func149 ?_;intro x y hC X hP hT hr hG;have hX:=ai SZ.eq_1<|ai cx<|ai BL.eq_1<|ai mW.eq_1<|ai rO.eq_1<|ai lO.eq_1<|ai Sl.eq_1<|eP.eq_1;simp only[f149,az,aj,ioB];refine sg ?_;refine sq ?_ ?_;·exact hC.side1
 refine sd ?_ ?_;·exact hC.side2
 refine ag (sq ?_ ?_);·exact⟨enc_ok _,fun h=>h⟩
 refine qc ?_ ?_
 ·intro hb0;refine rd ?_ ?_;·exact hC.side4
  refine af (sd ?_ ?_);·exact tt
  refine av (qe [] ?_);exact hC.fin1 hb0
 ·intro hb0;refine ak (af (sd ?_ ?_));·exact tt
  refine av (qe [] ?_);exact hC.fin2 hb0
def vk(B:aq):Tab:={types:=[(87,(.slice (.int .u32))),(161,(.int .u32)),(164,(.int .u64))],elems:=[],cons:=[(193,BN)],hint:=[],N:=16,base:=B}
theorem PL{B:aq}(hB:aN B):bx prog (vk B):=⟨⟨tc jF (tc gG (tc ph ab)),ae,by simp only[vk,ioB];omega⟩,aC (cc func193 (GN hB) ax),by kernel_rfl⟩
def Eo:Con:=c1 (.slice (.int .u32)) (fun m=>Lim m/\m.length<=2) (fun m=>[.z (.int .u64) (valL m)])
theorem Sy{B:aq}(hB:aN B):Valid B prog 178 Eo:=by
 refine aW (PL hB).tab func178 rfl rfl rfl ?_;intro args os C rs os' hc hC;obtain⟨m,rfl,rfl,rfl,rfl,rfl⟩:=My hc;refine v_h (PL hB) fun X hP hT hr hG=>?_;have hU:=vk.eq_1;unfold vk at hT;have hX:=ai @cx<| @BN.eq_1;simp only[f178,az,aj,ioB];refine s_g hG ?_;refine s_g hG ?_;refine ag (s_g hG ?_);refine al (Fb hr (gf:=208) (caps:=[.z (.ptr (.slice (.int .u32))) m]) (items:=dj m) (by simp only[hT,vk,mx0,mx1,mx2,mx3,mx4,mx5,mx6,mT,effOp,endCall,callOp,appendOp,sliceLV,Ty.fieldTy,Ty.fieldOf,Nat.reduceLT,Nat.reduceEqDiff,Nat.reduceAdd,Nat.reduceMul,Nat.reduceSub,Nat.reduceLeDiff,Nat.reduceBEq,Nat.reduceBNe,reduceIte,reduceDIte,reduceCtorEq];try rfl) (by rfl) (by rw[hP];exact At m) (by rfl) [3] (by rfl) (by simp only[hT,vk];try rfl) (fun(k:Nat) (z:Int)=>(⟨[(3,.l (.ownP 3 0))],[(3,.box 164 [.z (.int .u64) z])]⟩:aa)) (fun(k:Nat) (z:Int)=>z=valL (List.drop (List.length m-k) m)) 0 ?_ ?_ ?_ ?_ ?_);·simp only[ml0,ml1,Nat.reduceLT,Nat.reduceEqDiff,Nat.reduceAdd,Nat.reduceMul,Nat.reduceSub,Nat.reduceLeDiff,Nat.reduceBEq,Nat.reduceBNe,reduceIte,reduceDIte,reduceCtorEq]
 ·rw[Me];rfl
 ·intro k z;rfl
 ·intro k hk;rintro z hz;try dsimp only at hz
  have hk:k<List.length m:=by simpa [dj] using hk
  refine⟨_,by simp only[hT,vk,dj,tS,mx0,mx1,mx2,mx3,mx4,mx5,mx6,mT,effOp,endCall,callOp,appendOp,sliceLV,Ty.fieldTy,Ty.fieldOf,Nat.reduceLT,Nat.reduceEqDiff,Nat.reduceAdd,Nat.reduceMul,Nat.reduceSub,Nat.reduceLeDiff,Nat.reduceBEq,Nat.reduceBNe,reduceIte,reduceDIte,reduceCtorEq,List.getElem_map,List.getElem_range];rfl,?_⟩;intro X' hP' hT';have hG':bx X'.P X'.T:=by rw[hP',hT'];exact hG.keep _
  rw[hT] at hT';refine al (qq hG' ?_ ?_);·exact tt
  refine aD ?_;show ∃z,_;simp only[ml0,ml1,Nat.reduceLT,Nat.reduceEqDiff,Nat.reduceAdd,Nat.reduceMul,Nat.reduceSub,Nat.reduceLeDiff,Nat.reduceBEq,Nat.reduceBNe,reduceIte,reduceDIte,reduceCtorEq];exact Aa hC.1 hC.2 hk hz
 ·rintro z hz;try dsimp only at hz
  rw[show List.length (dj m)=List.length m by simp[dj],Nat.sub_self,List.drop_zero] at hz;refine aD (af (s_g hG ?_));refine av (q_e [] ?_);exact hz
def S0(B:aq):Tab:=mT B [(3,(.int .i64)),(4,.bool),(87,(.slice (.int .u32))),(89,tyW),(161,(.int .u32)),(164,(.int .u64))] [(87,161)] [(150,eP),(177,mW),(178,Eo)] [] 68
def B3:Con:=c2 tyW tyW (fun x y=>qw x y) (fun x y=>[.z tyW (enc (ca (dec x) (dec y)))])
theorem G4{B:aq}(hB:aN B):Valid B prog 147 B3:=by
 refine v2 (mg (T:=S0 B) (tc ty3 (tc ty4 (tc jF (tc iV (tc gG (tc ph ab)))))) (aK (by kernel_rfl) ae) (aC (cc func150 (lN hB) (cc func177 (G3 hB) (cc func178 (Sy hB) ax))))) func147 ?_;intro x y hC X hP hT hr hG;have hX:=ai S0.eq_1<|ai cx<|ai mW.eq_1<|ai Eo.eq_1<|eP.eq_1;simp only[f147,az,aj,ioB];refine sg ?_;refine sd ?_ ?_;·exact tt
 refine ag (al (aY (fun(z:List Int×List Int)=>(⟨[(4,.l (.ownP 4 0)),(5,.l (.z (.slice (.int .u32)) z.1)),(6,.l (.z (.slice (.int .u32)) z.2))],[(4,.box 89 [.z .bool false,.val (.slice none 0 0)])]⟩:aa)) (fun z=>yp x y z.1 z.2) (fun z=>(valL z.2).toNat) (x.2,y.2) ?_ ?_ ?_));·simp only[ml0,ml1,Nat.reduceLT,Nat.reduceEqDiff,Nat.reduceAdd,Nat.reduceMul,Nat.reduceSub,Nat.reduceLeDiff,Nat.reduceBEq,Nat.reduceBNe,reduceIte,reduceDIte,reduceCtorEq]
 ·exact yp.start hC
 ·rintro⟨u,v⟩ hz;try dsimp only at hz
  have hcc:2*(List.length x.2+List.length y.2)+4<1000000000000:=hC.hc;refine ag (sg ?_);refine qc ?_ ?_
  ·(intro hb0;refine ak (af (al (sq ?_ ?_)));·exact hz.side3 hC (im (by omega)));(refine rq ?_ ?_;·exact hz.side4 hC (im (by omega)));refine aD (qm ?_);exact hz.next hC (im (by omega))
  ·intro hb0;refine aT (aA (ao (an (af (ag (sg ?_))))));refine aS ?_ ?_
   ·(intro hb1;(try simp only[bt] at hb1);refine sq ?_ ?_;·exact⟨hz.hu.1,by have:=hz.hul;unfold CAP;omega⟩);refine av (aw (qe [65] ?_));exact hz.stop (Dd (by omega))
   ·(intro hb1;simp only[beq_eq_false_iff_ne,ne_eq] at hb1;refine ak (af (sq ?_ ?_));·exact hz.side3 hC (im (by omega)));refine sq ?_ ?_;·have hr:=hz.rest (im (by omega));exact⟨⟨hz.hv.1,by omega⟩,hz.side4 hC (im (by omega)),hr.1.1,by omega⟩
    (refine ag (al (aY (fun(z:Int×Int)=>(⟨[(4,.l (.ownP 4 0)),(11,.l (.z (.int .u64) z.1)),(12,.l (.z (.int .u64) z.2))],[(4,.box 89 [.z .bool false,.val (.slice none 0 0)])]⟩:aa)) (fun z=>yq x y z.1 z.2) (fun z=>z.2.toNat) (valL v,valL (enc (dec (false,eE u v))).2) ?_ ?_ ?_));·simp only[ml0,ml1,Nat.reduceLT,Nat.reduceEqDiff,Nat.reduceAdd,Nat.reduceMul,Nat.reduceSub,Nat.reduceLeDiff,Nat.reduceBEq,Nat.reduceBNe,reduceIte,reduceDIte,reduceCtorEq]);·exact yq.start hz hC (im (by omega)) (by omega)
    ·rintro⟨a,b⟩ he;(try dsimp only at he);refine ag (sg ?_);refine aS ?_ ?_
     ·(intro hb2;(try simp only[bt] at hb2);refine ak (af (al (rd ?_ ?_)));·omega);refine aD (qm ?_);exact he.next hb2
     ·(intro hb2;(try simp only[decide_eq_false_iff_not] at hb2);have he2:=he.stop hb2;refine aT (aA (ao (an (af (sg ?_)))));refine ag (al (aY (fun(z:Nat×List Int)=>(⟨[(11,.l (.z (.int .u64) (z.1:Int))),(13,.l (.ownP 13 0)),(4,.l (.ownP 4 0))],[(13,.box 89 [.z .bool false,.ownS 65]),(65,.arr (.int .u32) 161 z.2),(4,.box 89 [.z .bool false,.val (.slice none 0 0)])]⟩:aa)) (fun z=>z.2++limbs z.1=limbs (ca (dec x) (dec y)).toNat/\z.1<18446744073709551616) (fun z=>z.1) ((ca (dec x) (dec y)).toNat,[]) ?_ ?_ ?_));·refine q_l ?_;exact⟨he2.1,by unfold ioB;omega⟩);·exact⟨by simp,he2.2⟩
      ·rintro⟨w,l⟩ ⟨g1,g2⟩;(try dsimp only at g1 g2);refine ag (sg ?_);refine qc ?_ ?_
       ·(intro hb3;refine ak (af (ag (al (rq ?_ ?_))));·have h3:=oo he2.2;have h4:=congrArg List.length g1;simp only[List.length_append] at h4;exact⟨by decide,by unfold Cm.Roomy;omega⟩);refine aD (af (rg ?_));refine qm ?_;exact ry g1 g2 hb3
       ·intro hb3;refine aT (aA (ao (an (af (sg ?_)))));refine av (qe [65] ?_);(have h0:w=0:=by omega);subst h0;rw[show limbs 0=[] by simp[limbs],List.append_nil] at g1;rw[g1];exact QB _ _
def G5(B:aq):Tab:=mT B [(3,(.int .i64)),(4,.bool),(87,(.slice (.int .u32))),(89,tyW),(91,tyN),(161,(.int .u32))] [] [(147,B3),(148,BK),(149,PK)] [2,3,5] 43
def pU:Con:=c2 tyW tyW (fun n d=>iZ n d) (fun n d=>[.z tyN (bp (Rat.divInt (dec n) (dec d)))])
theorem nB{B:aq}(hB:aN B):Valid B prog 108 pU:=by
 refine v2 (mg (T:=G5 B) (tc ty3 (tc ty4 (tc jF (tc iV (tc ty91 (tc gG ab)))))) ae (aC (cc func147 (G4 hB) (cc func148 (yT hB) (cc func149 (Sx hB) ax))))) func108 ?_;intro n d hC X hP hT hr hG;have hX:=ai G5.eq_1<|ai cx<|ai PK.eq_1<|ai B3.eq_1<|BK.eq_1;simp only[f108,az,aj,ioB];refine sg ?_;refine sq ?_ ?_;·exact Tv hC
 refine cm (fun(z:Int)=>(⟨[(2,.l (.ownP 2 0)),(3,.l (.ownP 3 0)),(4,.l (.ownP 4 0)),(5,.l (.ownP 5 0))],[(2,.box 89 [.z .bool n.1,.z (.slice (.int .u32)) n.2]),(3,.box 89 [.z .bool d.1,.z (.slice (.int .u32)) d.2]),(4,.box 91 [.z .bool false,.val (.slice none 0 0),.z .bool false,.val (.slice none 0 0)]),(5,.box 89 [.z .bool (enc z).1,.z (.slice (.int .u32)) (enc z).2])]⟩:aa)) (fun z=>z=dY (dec n) (dec d)) ?_ ?_
 ·refine sg ?_;refine qc ?_ ?_
  ·(intro hb0;refine rq ?_ ?_;·exact Tw hC);refine qm ?_;(try simp only[pe,bX]);first|exact⟨_,rfl,rfl,UG hC hb0⟩|exact⟨_,rfl,rfl,UH hC hb0⟩
  ·intro hb0;refine ak (qm ?_);(try simp only[pe,bX]);first|exact⟨_,rfl,rfl,UG hC hb0⟩|exact⟨_,rfl,rfl,UH hC hb0⟩
 rintro g hg;try dsimp only at hg
 subst hg;have hp:=mk_pos hC;refine ag (sq ?_ ?_)
 ·(repeat' (first|apply And.intro|intro _))<;>(try simp only[decide_eq_true_eq,decide_eq_false_iff_not,Bool.not_eq_true',beq_iff_eq,Int.toNat_natCast] at*)<;>first|assumption|omega|trivial|(simp_all;done)|(simp_all;omega)
 refine qc ?_ ?_
 ·intro hb1;refine sq ?_ ?_;·exact(MQ hC).1
  refine rq ?_ ?_;·exact(MQ hC).2
  refine af (sg ?_);refine av (qe [] ?_);simp only[pe,bX];exact(ow hC.2.2.1).symm
 ·intro hb1;refine ak (af (sg ?_));refine av (qe [] ?_);exact Tx hC hb1
def G6(B:aq):Tab:=mT B [(89,tyW),(91,tyN)] [] [(108,pU),(109,BM),(110,BL)] [] 22
def pV:Con:=c2 tyN tyN (fun x y=>iq x y) (fun x y=>[.z tyN (bp (bH x+bH y))])
theorem nC{B:aq}(hB:aN B):Valid B prog 58 pV:=by
 refine v2 (mg (T:=G6 B) (tc iV (tc ty91 ab)) ae (aC (cc func108 (nB hB) (cc func109 (yY hB) (cc func110 (yX hB) ax))))) func58 ?_;intro x y hC X hP hT hr hG;have hX:=ai G6.eq_1<|ai cx<|ai BL.eq_1<|ai pU.eq_1<|BM.eq_1;simp only[f58,az,aj,ioB];refine sg ?_;refine sd ?_ ?_;·exact Jg hC
 refine av (qe [] ?_);simp only[pe2];exact MR hC
def G7(B:aq):Tab:=mT B [(89,tyW),(91,tyN)] [] [(148,BK)] [] 9
def PM:Con:=c1 tyN (fun x=>NOK x/\lq (bH x)<=QC) (fun x=>[.z tyN (bp (-bH x))])
theorem KB{B:aq}(hB:aN B):Valid B prog 111 PM:=by
 refine v1 (mg (T:=G7 B) (tc iV (tc ty91 ab)) ae (aC (cc func148 (yT hB) ax))) func111 ?_;intro x hC X hP hT hr hG;have hX:=ai G7.eq_1<|ai cx<|BK.eq_1;simp only[f111,az,aj,ioB];refine sg ?_;refine sd ?_ ?_;·exact Jh hC
 refine av (qe [] ?_);exact MS hC.1
def G8(B:aq):Tab:=mT B [(91,tyN)] [] [(58,pV),(111,PM)] [] 9
def gU:Con:=c2 tyN tyN (fun x y=>iq x y) (fun x y=>[.z tyN (bp (bH x-bH y))])
theorem xB{B:aq}(hB:aN B):Valid B prog 60 gU:=by
 refine v2 (mg (T:=G8 B) (tc ty91 ab) ae (aC (cc func58 (nC hB) (cc func111 (KB hB) ax)))) func60 ?_;intro x y hC X hP hT hr hG;have hX:=ai G8.eq_1<|ai cx<|ai pV.eq_1<|PM.eq_1;simp only[f60,az,aj,ioB];refine sg ?_;refine sd ?_ ?_;·exact Ji hC
 refine av (qe [] ?_);simp only[pe2];exact MT x y
def G9(B:aq):Tab:=mT B [(89,tyW),(91,tyN)] [] [(108,pU),(109,BM)] [] 16
def fl:Con:=c2 tyN tyN (fun x y=>iq x y) (fun x y=>[.z tyN (bp (bH x*bH y))])
theorem nD{B:aq}(hB:aN B):Valid B prog 105 fl:=by
 refine v2 (mg (T:=G9 B) (tc iV (tc ty91 ab)) ae (aC (cc func108 (nB hB) (cc func109 (yY hB) ax)))) func105 ?_;intro x y hC X hP hT hr hG;have hX:=ai G9.eq_1<|ai cx<|ai pU.eq_1<|BM.eq_1;simp only[f105,az,aj,ioB];refine sg ?_;refine sd ?_ ?_;·exact Jj hC
 refine av (qe [] ?_);simp only[pe2];exact MU hC
def Ha(B:aq):Tab:=mT B [(89,tyW),(91,tyN)] [] [(108,pU),(109,BM)] [] 16
def gV:Con:=c2 tyN tyN (fun x y=>iq x y/\bH y≠0) (fun x y=>[.z tyN (bp (bH x/bH y))])
theorem xC{B:aq}(hB:aN B):Valid B prog 119 gV:=by
 refine v2 (mg (T:=Ha B) (tc iV (tc ty91 ab)) ae (aC (cc func108 (nB hB) (cc func109 (yY hB) ax)))) func119 ?_;intro x y hC X hP hT hr hG;have hX:=ai Ha.eq_1<|ai cx<|ai pU.eq_1<|BM.eq_1;simp only[f119,az,aj,ioB];refine sg ?_;refine sd ?_ ?_;·exact Jk hC
 refine av (qe [] ?_);simp only[pe2];exact MV hC.1
def Hb(B:aq):Tab:=mT B [(89,tyW),(91,tyN)] [] [(154,rO)] [] 6
def oK:Con:=c1 tyN (fun x=>NOK x) (fun x=>[.z (.int .i64) (bg (bH x).num 0)])
theorem q8{B:aq}(hB:aN B):Valid B prog 114 oK:=by
 refine v1 (mg (T:=Hb B) (tc iV (tc ty91 ab)) ae (aC (cc func154 (yU hB) ax))) func114 ?_;intro x hC X hP hT hr hG;have hX:=ai Hb.eq_1<|ai cx<|rO.eq_1;simp only[f114,az,aj,ioB];refine sg ?_;refine sq ?_ ?_;·exact hC.w1
 refine av (qe [] ?_);rw[hC.d1]
def Hc(B:aq):Tab:=mT B [(3,(.int .i64)),(89,tyW),(91,tyN)] [] [(108,pU),(133,lO)] [] 10
def PN:Con:=c2 (.int .i64) (.int .i64) (fun n d=>I64 n/\I64 d/\d≠0) (fun n d=>[.z tyN (bp (Rat.divInt n d))])
theorem xD{B:aq}(hB:aN B):Valid B prog 124 PN:=by
 refine v2 (mg (T:=Hc B) (tc ty3 (tc iV (tc ty91 ab))) ae (aC (cc func108 (nB hB) (cc func133 (sn hB) ax)))) func124 ?_;intro n d hC X hP hT hr hG;have hX:=ai Hc.eq_1<|ai cx<|ai pU.eq_1<|lO.eq_1;simp only[f124,az,aj,ioB];refine sg ?_;refine sq ?_ ?_;·exact MW hC
 refine av (qe [] ?_);simp only[pe2];exact QR n d
def Hd(B:aq):Tab:=mT B [(3,(.int .i64)),(91,tyN)] [] [(124,PN)] [] 2
def fm:Con:=c0 (True) ([.z tyN (bp 0)])
theorem nE{B:aq}(hB:aN B):Valid B prog 113 fm:=by
 refine v0 (mg (T:=Hd B) (tc ty3 (tc ty91 ab)) ae (aC (cc func124 (xD hB) ax))) func113 ?_;intro hC X hP hT hr hG;have hX:=ai Hd.eq_1<|ai cx<|PN.eq_1;simp only[f113,az,aj,ioB];refine sg ?_;refine sq ?_ ?_;·exact⟨by unfold I64;omega,by unfold I64;omega,by decide⟩
 refine av (qe [] ?_);simp only[pe2];rw[zero_divInt]
def He(B:aq):Tab:=mT B [(3,(.int .i64)),(87,(.slice (.int .u32))),(89,tyW),(91,tyN),(161,(.int .u32))] [] [] [] 16
def y7:Con:=c1 tyN (fun x=>NOK x) (fun x=>[.z .bool (decide ((bH x).den=1))])
theorem KC{B:aq}(hB:aN B):Valid B prog 170 y7:=by
 refine v1 (mg (T:=He B) (tc ty3 (tc jF (tc iV (tc ty91 (tc gG ab))))) ae (bI rfl)) func170 ?_;intro x hC X hP hT hr hG;have hX:=ai He.eq_1<|cx;simp only[f170,az,aj,ioB];refine sg ?_;refine sq ?_ ?_
 ·(repeat' (first|apply And.intro|intro _))<;>(try simp only[decide_eq_true_eq,decide_eq_false_iff_not,Bool.not_eq_true',beq_iff_eq,Int.toNat_natCast] at*)<;>first|assumption|omega|trivial|(simp_all;done)|(simp_all;omega)
 refine av (qe [] ?_);exact Dn hC
def Hf(B:aq):Tab:=mT B [(3,(.int .i64)),(89,tyW),(91,tyN)] [] [(169,y0)] [] 17
def vl:Con:=c2 tyN (.int .i64) (fun x k=>NOK x/\lq (bH x)<=QC) (fun x k=>[.z .bool (decide (cr (bH x).num<=k/\cr ((bH x).den:Int)<=k))])
theorem xE{B:aq}(hB:aN B):Valid B prog 129 vl:=by
 refine v2 (mg (T:=Hf B) (tc ty3 (tc iV (tc ty91 ab))) ae (aC (cc func169 (Sr hB) ax))) func129 ?_;intro x k hC X hP hT hr hG;have hX:=ai Hf.eq_1<|ai cx<|y0.eq_1;simp only[f129,az,aj,ioB];refine sg ?_;refine sq ?_ ?_;·exact⟨(lE hC).1,id,fun h=>⟨h,(lE hC).2⟩,id⟩
 refine av (qe [] ?_);exact Jl k hC.1
def Hg(B:aq):Tab:=mT B [(89,tyW),(91,tyN)] [] [] [] 8
def y8:Con:=c1 tyN (fun x=>True) (fun x=>[.z tyW x.1,.z tyW x.2])
theorem KD{B:aq}(hB:aN B):Valid B prog 167 y8:=by
 refine v1 (mg (T:=Hg B) (tc iV (tc ty91 ab)) ae (bI rfl)) func167 ?_;intro x hC X hP hT hr hG;have hX:=ai Hg.eq_1<|cx;simp only[f167,az,aj,ioB];refine sg ?_;refine sd ?_ ?_;·exact tt
 refine av (qe [] ?_);trivial
def Hh(B:aq):Tab:=mT B [(9,.str),(89,tyW),(91,tyN)] [] [(144,Fh),(170,y7)] [] 16
def Ep:Con:=c1 tyN (fun x=>NOK x/\lq (bH x)<=QC) (fun x=>[.z .str (aG (bH x))])
theorem KE{B:aq}(hB:aN B):Valid B prog 130 Ep:=by
 refine v1 (mg (T:=Hh B) (tc ty9 (tc iV (tc ty91 ab))) ae (aC (cc func144 (Qu hB) (cc func170 (KC hB) ax)))) func130 ?_;intro x hC X hP hT hr hG;have hX:=ai Hh.eq_1<|ai cx<|ai y7.eq_1<|Fh.eq_1;simp only[f130,az,aj,ioB];refine sg ?_;refine ag (sq ?_ ?_);·exact hC.1
 refine qc ?_ ?_
 ·intro hb0;refine sq ?_ ?_;·exact AE hC
  refine av (aw (qe [] ?_));exact Jm hC.1 hb0
 ·intro hb0;refine ak (af (sd ?_ ?_));·exact AF hC
  refine av (qe [] ?_);exact Jn hC.1 hb0
end Go.Proofs.YtdojbabpnaifoaaGreatDoor
end
section
namespace Go.Proofs
open Go.RowKit Go.Cm
def KF:Con:=fun l os=>match l,os with
 | [.z .str s,.z .str t],[]=>some (t=[47]/\s.length<4294967281,[.z .str (tN s),.z .str (if bK s=true then tR s else []),.z .bool (bK s)],[])
 |_,_=>none
theorem xF{B:aq}(hB:aN B):Valid B Tryz.prog 131 KF:=by
 intro args os C rs os' hc hC O w vals ρ0 hOn hIo hO hOI hargs hown hap;unfold KF at hc;split at hc;case h_2=>cases hc
 rename_i s t;cases hc;obtain⟨u,v,rfl,hu,hv⟩:=zV hargs;rw[gw hv,gw hu];obtain⟨rfl,h1⟩:=hC;obtain⟨m,hm⟩:=hB.2 w hOn;have hsz:(⟨s.toArray⟩:ByteArray).size=s.length:=by simp[ByteArray.size]
 refine(Tryz.strings_Cut ⟨s.toArray⟩ ⟨[47].toArray⟩ m w (by rw[hsz];exact h1) hm).mono fun e w' ⟨he,n,hw⟩=>?_;have hb:Below w.heap.size w w':=by rw[hw];exact⟨rfl,rfl,rfl,Nat.le_refl _,fun _ _=>rfl⟩
 have e1:Lib.cut (⟨s.toArray⟩:ByteArray).data.toList (⟨[47].toArray⟩:ByteArray).data.toList=(tN s,if bK s=true then tR s else [],bK s):=by simpa using Jo s
 rw[e1] at he;subst he;exact o4 (vs:=[.string ⟨(tN s).toArray⟩,.string ⟨(if bK s=true then tR s else []).toArray⟩,.bool (bK s)]) hb (fun H M=>⟨fL (ρ:=fun _=>undef),fL (ρ:=fun _=>undef),b8 (ρ:=fun _=>undef),trivial⟩)
end Go.Proofs
end
section
namespace Go.Proofs.YtdojbabpnaifoaaGreatDoor
open Go Go.Cm Go.Proofs Tryz
def S1(B:aq):Tab:=mT B [(3,(.int .i64)),(5,(.int .u8)),(9,.str),(47,(.slice (.int .u8)))] [(47,5)] [(172,iR)] [] 38
def Er:Con:=c1 .str (fun s=>o8 s) (fun s=>[.z (.int .i64) (chk s)])
theorem SA{B:aq}(hB:aN B):Valid B prog 142 Er:=by
 refine v1 (mg (T:=S1 B) (tc ty3 (tc ty5 (tc ty9 (tc Tl ab)))) (aK (by kernel_rfl) ae) (aC (cc func172 (GM hB) ax))) func142 ?_;intro s hC X hP hT hr hG;have hX:=ai S1.eq_1<|ai cx<|iR.eq_1;simp only[f142,az,aj,ioB];refine sg ?_;refine E9 (sg ?_);refine sg ?_;refine ag (E8 (af (cm (fun(z:Int)=>(⟨[(4,.l (.z (.int .i64) z))],[]⟩:aa)) (fun z=>z=chk s) ?_ ?_)))
 ·refine al (sg ?_);refine qc ?_ ?_;·intro hb0;refine ak (aD (qm ?_));first|(rw[hb0];exact mn.symm)|exact(jq hb0 ((js _).1 hb1)).symm|exact(np hb0 (eL hb1) (by rw[dU] at hb2;omega) (mo hb3)).symm|(rw[dU] at hb2;rw[jD hb0 (eL hb1) (by rw[List.take_of_length_le (by omega)] at g2;exact g2)];first|rw[if_pos (by omega)]|rw[if_neg (by omega)])
  ·(intro hb0;refine sq ?_ ?_;·exact Mf _);refine qc ?_ ?_;·intro hb1;refine rg ?_;refine aD (qm ?_);first|(rw[hb0];exact mn.symm)|exact(jq hb0 ((js _).1 hb1)).symm|exact(np hb0 (eL hb1) (by rw[dU] at hb2;omega) (mo hb3)).symm|(rw[dU] at hb2;rw[jD hb0 (eL hb1) (by rw[List.take_of_length_le (by omega)] at g2;exact g2)];first|rw[if_pos (by omega)]|rw[if_neg (by omega)])
   ·(intro hb1;refine ag (sq ?_ ?_);·have:=fF s [45];have hC:s.length<70368744177664:=hC;omega);(refine al (aY (fun(z:Nat)=>(⟨[(0,.l (.z .str s)),(3,.l (.z .str (ar s [45]))),(4,.l (.z (.int .i64) 0)),(10,.l (.z (.slice (.int .u8)) (bytesOf (ar s [45])))),(11,.l (.z (.int .i64) ((bytesOf (ar s [45])).length:Int))),(12,.l (.z (.int .i64) (z:Int)))],[]⟩:aa)) (fun z=>z<=(ar s [45]).length/\(List.take z (ar s [45])).all fZ=true) (fun z=>(ar s [45]).length-z) 0 ?_ ?_ ?_);·refine q_l ?_;rfl);·exact⟨Nat.zero_le _,rfl⟩
    ·rintro k ⟨g1,g2⟩;(try dsimp only at g1 g2);have hS:(ar s [45]).length<70368744177664:=Nat.lt_of_le_of_lt (fF s _) hC;refine sg ?_;refine ag (qc ?_ ?_)
     ·(intro hb2;refine ak (af (ag (al (sq ?_ ?_))));·exact⟨by omega,hb2⟩);(refine sq ?_ ?_;·exact⟨fun h=>h,fun h=>by rw[h];rfl⟩);refine qc ?_ ?_;·intro hb3;refine sg ?_;refine aT (ka rfl ?_);refine aA (ao (ka rfl ?_));refine aA (an (qm ?_));first|(rw[hb0];exact mn.symm)|exact(jq hb0 ((js _).1 hb1)).symm|exact(np hb0 (eL hb1) (by rw[dU] at hb2;omega) (mo hb3)).symm|(rw[dU] at hb2;rw[jD hb0 (eL hb1) (by rw[List.take_of_length_le (by omega)] at g2;exact g2)];first|rw[if_pos (by omega)]|rw[if_neg (by omega)])
      ·intro hb3;refine ak (aD (af (rg ?_)));refine qm ?_;rw[dU] at hb2;exact⟨k+1,by rw[wo];simp,by omega,nR g2 (IY hb3),by omega⟩
     ·(intro hb2;refine aT (aA (ao (an (af (sg ?_)))));refine qc ?_ ?_;·intro hb4;refine rg ?_;refine aD (qm ?_);first|(rw[hb0];exact mn.symm)|exact(jq hb0 ((js _).1 hb1)).symm|exact(np hb0 (eL hb1) (by rw[dU] at hb2;omega) (mo hb3)).symm|(rw[dU] at hb2;rw[jD hb0 (eL hb1) (by rw[List.take_of_length_le (by omega)] at g2;exact g2)];first|rw[if_pos (by omega)]|rw[if_neg (by omega)]));·intro hb4;refine ak (aD (qm ?_));first|(rw[hb0];exact mn.symm)|exact(jq hb0 ((js _).1 hb1)).symm|exact(np hb0 (eL hb1) (by rw[dU] at hb2;omega) (mo hb3)).symm|(rw[dU] at hb2;rw[jD hb0 (eL hb1) (by rw[List.take_of_length_le (by omega)] at g2;exact g2)];first|rw[if_pos (by omega)]|rw[if_neg (by omega)])
 rintro z hz;try dsimp only at hz
 refine sg ?_;refine av (iH (qe [] ?_));exact hz
def Hi(B:aq):Tab:=mT B [(3,(.int .i64)),(4,.bool),(9,.str),(87,(.slice (.int .u32))),(89,tyW),(161,(.int .u32)),(164,(.int .u64))] [(87,161)] [(150,eP),(172,iR),(173,yk)] [] 44
def Et:Con:=c1 .str (fun s=>RF s/\s.length<CAP) (fun s=>[.z tyW (enc (ah s))])
theorem KG{B:aq}(hB:aN B):Valid B prog 132 Et:=by
 refine v1 (mg (T:=Hi B) (tc ty3 (tc ty4 (tc ty9 (tc jF (tc iV (tc gG (tc ph ab))))))) (aK (by kernel_rfl) ae) (aC (cc func150 (lN hB) (cc func172 (GM hB) (cc func173 (Qs hB) ax))))) func132 ?_;intro s hC X hP hT hr hG;have hX:=ai Hi.eq_1<|ai cx<|ai yk.eq_1<|ai iR.eq_1<|eP.eq_1;simp only[f132,az,aj,ioB];refine sg ?_;refine sg ?_;refine sg ?_;refine ag (sg ?_);refine al (aY (fun(z:Nat×List Int)=>(⟨[(3,.l (.z .str (ar s [45]))),(5,.l (.z (.int .i64) (((ar s [45]).length:Int)-9*(z.1:Int)))),(4,.l (.ownP 4 0)),(2,.l (.ownP 2 0))],[(4,.box 89 [.z .bool (decide ((ar s [45]).length<s.length)),.ownS 37]),(37,.arr (.int .u32) 161 z.2),(2,.box 89 [.z .bool false,.val (.slice none 0 0)])]⟩:aa)) (fun z=>ReadPhi (ar s [45]) z.1 z.2) (fun z=>(ar s [45]).length+9-9*z.1) (0,[]) ?_ ?_ ?_);·refine q_l ?_;exact⟨by show ((ar s [45]).length:Int)=((ar s [45]).length:Int)-9*((0:Nat):Int);omega,by congr 1;simp,by unfold ioB;omega⟩
 ·exact read_start
 ·rintro⟨r,out⟩ hz;try dsimp only at hz
  obtain⟨d1,d2,d4⟩:=jg hC.1;have d3:(ar s [45]).length<1000000000000:=Nat.lt_of_le_of_lt (fF s _) hC.2;have hz1:=hz.1;have hz4:=hz.2.2.2;refine ag (sg ?_);refine qc ?_ ?_
  ·intro hb0;refine ak (af (ag (al (sq ?_ ?_))));·obtain⟨e1,e2,e3⟩:=wG hb0 d3;obtain⟨q1,q2,q3,q4,q5⟩:=read_next d1 hz hb0 rfl;rw[e1,e2,e3];exact⟨⟨by omega,by omega,by omega⟩,q1,q2,q3⟩
   (refine rq ?_ ?_;·unfold Cm.Roomy;omega);refine aD (af (rg ?_));refine qm ?_;obtain⟨e1,e2,e3⟩:=wG hb0 d3;obtain⟨q1,q2,q3,q4,q5⟩:=read_next d1 hz hb0 rfl;rw[e1,e2,e3];exact⟨r+1,by show ((ar s [45]).length:Int)-9*(r:Int)-9=((ar s [45]).length:Int)-9*((r+1:Nat):Int);omega,q4,by omega⟩
  ·(intro hb0;refine aT (aA (ao (an (af (sq ?_ ?_)))));·exact⟨hz.2.1,by unfold CAP;omega⟩);refine av (qe [37] ?_);rw[read_end hz hb0]
def Hj(B:aq):Tab:=mT B [(3,(.int .i64)),(9,.str),(91,tyN)] [] [(131,KF),(132,Et),(133,lO)] [] 23
def vm:Con:=c1 .str (fun q=>eG q) (fun q=>[.z tyN (iK q)])
theorem q9{B:aq}(hB:aN B):Valid B prog 90 vm:=by
 refine v1 (mg (T:=Hj B) (tc ty3 (tc ty9 (tc ty91 ab))) ae (aC (cc func131 (xF hB) (cc func132 (KG hB) (cc func133 (sn hB) ax))))) func90 ?_;intro q hC X hP hT hr hG;have hX:=ai Hj.eq_1<|ai cx<|ai KF.eq_1<|ai Et.eq_1<|lO.eq_1;simp only[f90,az,aj,ioB];refine sg ?_;refine sq ?_ ?_;·exact(qD hC).1
 refine ag (sg ?_);refine qc ?_ ?_
 ·intro hb0;refine sq ?_ ?_;·exact⟨(qD hC).2.1,by unfold I64;omega⟩
  refine av (aw (qe [] ?_));exact MZ hb0
 ·intro hb0;refine ak (af (sq ?_ ?_));·rw[mD hb0];exact(qD hC).2
  refine av (qe [] ?_);rw[mD hb0];rfl
def Hk(B:aq):Tab:=mT B [(3,(.int .i64)),(9,.str),(31,(.int .i64)),(46,.str),(89,tyW),(91,tyN),(151,(.st (.pair tyN (.int .i64))))] [] [(90,vm),(129,vl),(131,KF),(133,lO),(142,Er),(147,B3),(167,y8),(168,Uj)] [] 61
def Eu:Con:=c1 .str (fun q=>q.length<=QL) (fun q=>[.z (.st (.pair tyN (.int .i64))) (mC q)])
theorem KH{B:aq}(hB:aN B):Valid B prog 128 Eu:=by
 refine v1 (mg (T:=Hk B) (tc ty3 (tc ty9 (tc kK (tc gj (tc iV (tc ty91 (tc SF ab))))))) ae (aC (cc func90 (q9 hB) (cc func129 (xE hB) (cc func131 (xF hB) (cc func133 (sn hB) (cc func142 (SA hB) (cc func147 (G4 hB) (cc func167 (KD hB) (cc func168 (Sq hB) ax)))))))))) func128 ?_;intro q hC X hP hT hr hG;have hX:=ai Hk.eq_1<|ai cx<|ai Er.eq_1<|ai Uj.eq_1<|ai KF.eq_1<|ai vm.eq_1<|ai B3.eq_1<|ai vl.eq_1<|ai y8.eq_1<|lO.eq_1;simp only[f128,az,aj,ioB];refine sg ?_;refine sq ?_ ?_;·have h9:q.length<=1000000000:=hC;omega
 refine cm (fun(z:Unit)=>(⟨[(0,.l (.z .str q)),(2,.l (.ownP 2 0)),(3,.l (.z .str (tN q))),(4,.l (.z .str (tD q))),(5,.l (.z .bool (bK q)))],[(2,.box 151 [.z .bool false,.val (.slice none 0 0),.z .bool false,.val (.slice none 0 0),.z (.int .i64) 0])]⟩:aa)) (fun z=>True) ?_ ?_
 ·refine sg ?_;refine qc ?_ ?_;·intro hb0;refine rg ?_;refine qm ?_;first|exact yu hb0|exact mD hb0
  ·intro hb0;refine ak (qm ?_);first|exact yu hb0|exact mD hb0
 rintro⟨⟩-;have hS:=M0 hC;refine ag (sq ?_ ?_);·exact⟨hS.1,fun h=>⟨h,hS.2⟩,fun h=>h,fun h=>by rw[h];rfl⟩
 refine qc ?_ ?_;·intro hb1;refine sg ?_;refine av (aw (qe [] ?_));exact QU hb1
 ·intro hb1;have hF:=QT hC hb1;refine ak (af (sq ?_ ?_));·exact hF
  refine sg ?_;refine sq ?_ ?_;·unfold I64;omega
  refine ag (al (sd ?_ ?_));·simp only[pe,iK,bX];exact⟨fun h=>⟨h,enc_ok _,enc_ok _,UI hF⟩,fun h=>h,fun h=>h,fun h=>⟨h,TA hF⟩,fun h=>⟨h,enc_ok _,enc_ok _,UJ hF⟩,fun h=>h,fun h=>⟨h,fun h2=>by rw[h,h2];rfl⟩,fun h=>h⟩
  refine qc ?_ ?_;·intro hb2;simp only[pe,iK,bX] at hb2;refine sg ?_;refine av (bk (aw (qe [] ?_)));exact QV hF hb2
  ·(intro hb2;simp only[pe,iK,bX] at hb2;have hR:=UK hF hb2;refine sq ?_ ?_;·exact QW hR);refine qc ?_ ?_;·intro hb3;refine sg ?_;refine av (bk (aw (qe [] ?_)));exact TD hR hb3
   ·intro hb3;refine ak (aD (af (sg ?_)));refine av (qe [] ?_);exact UL hR hb3
def Hl(B:aq):Tab:=mT B [(46,.str),(151,(.st (.pair tyN (.int .i64))))] [] [(128,Eu)] [] 6
def pW:Con:=c1 .str (fun q=>q.length<=QL) (fun q=>[.z (.int .i64) (ck q)])
theorem xG{B:aq}(hB:aN B):Valid B prog 87 pW:=by
 refine v1 (mg (T:=Hl B) (tc gj (tc SF ab)) ae (aC (cc func128 (KH hB) ax))) func87 ?_;intro q hC X hP hT hr hG;have hX:=ai Hl.eq_1<|ai cx<|Eu.eq_1;simp only[f87,az,aj,ioB];refine sg ?_;refine sq ?_ ?_;·exact hC
 refine av (qe [] ?_);exact Jp q
def Hm(B:aq):Tab:=mT B [(3,(.int .i64)),(22,(.slice .str)),(46,.str),(78,tyP)] [(78,91)] [(90,vm)] [18] 22
def PO:Con:=c1 (.slice .str) (fun l=>l.length<QL/\∀q∈l,eG q) (fun l=>[.own tyN 91 (l.map iK)])
theorem KI{B:aq}(hB:aN B):Valid B prog 106 PO:=by
 refine v1 (mg (T:=Hm B) (tc ty3 (tc dM (tc gj (tc QF ab)))) (aK (by kernel_rfl) ae) (aC (cc func90 (q9 hB) ax))) func106 ?_;intro l hC X hP hT hr hG;have hX:=ai Hm.eq_1<|ai cx<|vm.eq_1;simp only[f106,az,aj,ioB];have hl:l.length<1000000000:=hC.1;refine sg ?_;refine sq ?_ ?_;·exact⟨by omega,by omega,ui (by omega)⟩
 refine ag (sg ?_);refine al (aY (fun(z:Nat)=>(⟨[(3,.l (.ownS 8)),(9,.l (.z (.slice .str) l)),(10,.l (.z (.int .i64) (l.length:Int))),(11,.l (.z (.int .i64) (z:Int)))],[(8,.arr tyN 91 ((l.take z).map iK))]⟩:aa)) (fun z=>z<=l.length) (fun z=>l.length-z) 0 ?_ ?_ ?_);·refine q_l ?_;exact⟨rfl,rfl⟩
 ·omega
 ·rintro k g1;try dsimp only at g1
  refine sg ?_;refine ag (qc ?_ ?_)
  ·(intro hb0;refine ak (af (ag (al (sq ?_ ?_))));·exact⟨by omega,hb0⟩);(refine rq ?_ ?_;·exact⟨hC.2 _ (eN (t:= .str) (by omega)),ui (by simp;omega)⟩);refine aD (af (rg ?_));refine qm ?_;exact list_round (by omega) hC.1
  ·intro hb0;refine aT (aA (ao (an (af (sg ?_)))));refine av (qe [] ?_);exact⟨trivial,by rw[List.take_of_length_le (by omega)]⟩
def Hn(B:aq):Tab:=mT B [(3,(.int .i64)),(22,(.slice .str)),(78,tyP),(91,tyN)] [(22,46)] [(129,vl),(130,Ep)] [] 26
def vn:Con:=c1 tyP (fun l=>l.length<QL/\∀x∈l,NOK x/\lq (bH x)<=QC) (fun l=>[.z (.slice .str) (if ec l=true then l.map fun x=>aG (bH x) else []),.z .bool (ec l)])
theorem xH{B:aq}(hB:aN B):Valid B prog 88 vn:=by
 refine v1 (mg (T:=Hn B) (tc ty3 (tc dM (tc QF (tc ty91 ab)))) (aK (by kernel_rfl) ae) (aC (cc func129 (xE hB) (cc func130 (KE hB) ax)))) func88 ?_;intro l hC X hP hT hr hG;have hX:=ai Hn.eq_1<|ai cx<|ai vl.eq_1<|Ep.eq_1;simp only[f88,az,aj,ioB];have hl:l.length<1000000000:=hC.1;refine sg ?_;refine sq ?_ ?_;·exact⟨by omega,by omega,yv (by omega)⟩
 refine ag (sg ?_);refine al (aY (fun(z:Nat)=>(⟨[(2,.l (.val (.slice none 0 0))),(3,.l (.z .bool false)),(4,.l (.ownS 9)),(10,.l (.z tyP l)),(11,.l (.z (.int .i64) (l.length:Int))),(12,.l (.z (.int .i64) (z:Int)))],[(9,.arr .str 46 ((l.take z).map fun x=>aG (bH x)))]⟩:aa)) (fun z=>z<=l.length/\ec (l.take z)=true) (fun z=>l.length-z) 0 ?_ ?_ ?_);·refine q_l ?_;exact⟨rfl,rfl⟩
 ·exact⟨by omega,by simp[ec]⟩
 ·rintro k ⟨g1,g2⟩;try dsimp only at g1 g2
  refine sg ?_;refine ag (qc ?_ ?_)
  ·(intro hb0;refine ak (af (ag (al (sq ?_ ?_))));·exact⟨by omega,hb0⟩);(refine ag (sq ?_ ?_);·exact hC.2 _ (eN (t:=NT) (by omega)));refine qc ?_ ?_;·intro hb1;refine sg ?_;refine av (aw (bk (aw (dc (bk (aw (qe [9] ?_)))))));exact Jr (by omega) hb1
   ·(intro hb1;refine ak (af (rq ?_ ?_));·exact⟨⟨(hC.2 _ (eN (t:=NT) (by omega))).1,(hC.2 _ (eN (t:=NT) (by omega))).2⟩,yv (by simp;omega)⟩);refine aD (af (rg ?_));refine qm ?_;exact AH (by omega) hC.1 g2 hb1
  ·intro hb0;refine aT (aA (ao (an (af (sg ?_)))));refine av (qe [9] ?_);exact Js (by omega) g2
def Ho(B:aq):Tab:=mT B [(3,(.int .i64)),(79,tyP),(91,tyN)] [] [(114,oK)] [] 25
def lQ:Con:=c1 tyP (fun p=>Sz QC p/\p.length<=QL) (fun p=>[.z tyP (aH (aM (ay p)))])
theorem jR{B:aq}(hB:aN B):Valid B prog 82 lQ:=by
 refine v1 (mg (T:=Ho B) (tc ty3 (tc gF (tc ty91 ab))) ae (aC (cc func114 (q8 hB) ax))) func82 ?_;intro p hC X hP hT hr hG;have hX:=ai Ho.eq_1<|ai cx<|oK.eq_1;simp only[f82,az,aj,ioB];obtain⟨l0,rfl,hl0⟩:=hC.1.ex;have hn:=hC.2;rw[aE] at hn;have hn:l0.length<=1000000000:=hn;refine sg ?_;refine ag (al (aY (fun(z:List Rat)=>(⟨[(0,.l (.z tyP (aH z))),(2,.l (.val (.slice none 0 0)))],[]⟩:aa)) (fun z=>z.length<=l0.length/\(∀x∈z,lq x<=QC)/\aM z=aM l0) (fun z=>z.length) l0 ?_ ?_ ?_));·simp only[ml0,ml1,Nat.reduceLT,Nat.reduceEqDiff,Nat.reduceAdd,Nat.reduceMul,Nat.reduceSub,Nat.reduceLeDiff,Nat.reduceBEq,Nat.reduceBNe,reduceIte,reduceDIte,reduceCtorEq]
 ·exact⟨Nat.le_refl _,hl0,rfl⟩
 ·rintro l ⟨g1,g2,g3⟩;try dsimp only at g1 g2 g3
  refine ag (sq ?_ ?_);·have hs:=wH (l:=l) (by omega);exact⟨id,id,hs.2,id,hs.1,id⟩
  refine qc ?_ ?_
  ·(intro hb0;have ht:=M1 (by omega) hb0.1 hb0.2;obtain⟨n1,n2,n3,n4,n5⟩:=wI (by omega) g1 g2 g3 ht;refine ak (af (al (rq ?_ ?_)));·rw[aE,bU (by omega)];exact⟨by omega,by omega,by omega,by omega⟩);refine aD (qm ?_);exact⟨l.dropLast,n1,n2,n3,n4,n5⟩
  ·intro hb0;have ht:=M3 (l:=l) (by omega) hb0;refine aT (aA (ao (an (af (sg ?_)))));refine av (qe [] ?_);rw[aI,<- g3,ht]
def lR(B:aq):Tab:={types:=[(3,(.int .i64)),(79,tyP),(91,tyN)],elems:=[],cons:=[(114,oK)],hint:=[23],N:=25,free:=[10000000],base:=B}
theorem B4{B:aq}(hB:aN B):bx prog (lR B):=⟨⟨tc ty3 (tc gF (tc ty91 ab)),ae,by simp only[lR,ioB];omega⟩,aC (cc func114 (q8 hB) ax),by kernel_rfl⟩
def PP:Con:=fun l os=>match l,os with
 | [.ownS 10000000],[.arr (.st (.pair (.st (.pair .bool (.slice (.int .u32)))) (.st (.pair .bool (.slice (.int .u32)))))) 91 p]=>some (Sz QC p/\p.length<=QL,[.own tyN 91 (aH (aM (ay p)))],[.arr tyN 91 []])
 |_,_=>none
theorem Ev{B:aq}(hB:aN B):Valid B prog 82 PP [0]:=by
 refine rm (T:=lR B) (B4 hB).tab func82 rfl rfl rfl (QX (by simp only[lR];decide)) ?_;intro args os C rs os' hc hC;unfold PP at hc;split at hc;case h_2=>cases hc
 rename_i p;cases hc;refine v_h (B4 hB) fun X hP hT hr hG=>?_;have hU:=lR.eq_1;unfold lR at hT;have hX:=ai @cx<|ai @oK.eq_1<| @cu.eq_def;simp only[f82,az,aj,ioB];obtain⟨l0,rfl,hl0⟩:=hC.1.ex;have hn:=hC.2;rw[aE] at hn;have hn:l0.length<=1000000000:=hn;refine L5 10000000 1 (by simp only[hT,lR,mx0,mx1,mx2,mx3,mx4,mx5,mx6,Nat.reduceLT,Nat.reduceEqDiff,Nat.reduceAdd,Nat.reduceMul,Nat.reduceSub,Nat.reduceLeDiff,Nat.reduceBEq,Nat.reduceBNe,reduceIte,reduceDIte,reduceCtorEq];rfl) ?_;refine s_g hG ?_;refine ag (al (aY (fun(z:List Rat)=>(⟨[(0,.l (.ownS 1)),(2,.l (.val (.slice none 0 0)))],[(1,.arr tyN 91 (aH z)),(10000000,.arr tyN 91 [])]⟩:aa)) (fun z=>z.length<=l0.length/\(∀x∈z,lq x<=QC)/\aM z=aM l0) (fun z=>z.length) l0 ?_ ?_ ?_));·simp only[ml0,ml1,Nat.reduceLT,Nat.reduceEqDiff,Nat.reduceAdd,Nat.reduceMul,Nat.reduceSub,Nat.reduceLeDiff,Nat.reduceBEq,Nat.reduceBNe,reduceIte,reduceDIte,reduceCtorEq]
 ·exact⟨Nat.le_refl _,hl0,rfl⟩
 ·rintro l ⟨g1,g2,g3⟩;try dsimp only at g1 g2 g3
  refine ag (s_q hG ?_ ?_)
  ·(try simp only[ba]);have hs:=wH (l:=l) (by omega);exact⟨id,id,hs.2,fun h=>⟨h,by have:=(hs.2 h).2;omega⟩,hs.1,id⟩
  refine aS ?_ ?_
  ·intro hb0;(try simp only[bt] at hb0);have ht:=M1 (by omega) hb0.1 hb0.2;obtain⟨n1,n2,n3,n4,n5⟩:=wI (by omega) g1 g2 g3 ht;refine ak (af (al (bd hG ?_ ?_)))
   ·(try simp only[ba]);rw[aE,bU (by omega)];exact⟨by omega,by omega,by omega,by omega⟩
   refine aD (qm ?_);exact⟨l.dropLast,n1,n2,n3,n4,n5⟩
  ·intro hb0;(try simp only[bf] at hb0);have ht:=M3 (l:=l) (by omega) hb0;refine aT (aA (ao (an (af (s_g hG ?_)))));refine av (q_e [] ?_);exact⟨⟨trivial,by rw[aI,<- g3,ht]⟩,trivial,trivial⟩
def gZ:Con:=fun l os=>match l,os with
 | [.z (.slice (.st (.pair (.st (.pair .bool (.slice (.int .u32)))) (.st (.pair .bool (.slice (.int .u32))))))) p],[]=>some (Sz QC p/\p.length<=QL,[.z tyP (aH (aM (ay p)))],[])
 | [.ownS 10000000],[.arr (.st (.pair (.st (.pair .bool (.slice (.int .u32)))) (.st (.pair .bool (.slice (.int .u32)))))) 91 p]=>some (Sz QC p/\p.length<=QL,[.own tyN 91 (aH (aM (ay p)))],[.arr tyN 91 []])
 |_,_=>none
theorem KJ{B:aq}(hB:aN B):Valid B prog 82 gZ [0]:=by
 intro args os C rs os' hc hC;unfold gZ at hc;split at hc;·cases hc;exact M4 (jR hB) _ _ _ _ _ rfl hC
 ·cases hc;exact Ev hB _ _ _ _ _ rfl hC
 ·cases hc
def Hp(B:aq):Tab:=mT B [(3,(.int .i64)),(79,tyP),(91,tyN)] [] [(113,fm)] [] 14
def B5:Con:=c2 tyP (.int .i64) (fun p i=>Sz QC p/\0<=i) (fun p i=>[.z tyN (bp (cf (ay p) i.toNat))])
theorem xI{B:aq}(hB:aN B):Valid B prog 107 B5:=by
 refine v2 (mg (T:=Hp B) (tc ty3 (tc gF (tc ty91 ab))) ae (aC (cc func113 (nE hB) ax))) func107 ?_;intro p i hC X hP hT hr hG;have hX:=ai Hp.eq_1<|ai cx<|fm.eq_1;simp only[f107,az,aj,ioB];obtain⟨n,rfl⟩:=Int.eq_ofNat_of_zero_le hC.2;rw[Int.toNat_natCast];refine sg ?_;refine ag (sg ?_);refine qc ?_ ?_
 ·intro hb0;refine sq ?_ ?_;·exact⟨by omega,hb0⟩
  refine av (aw (qe [] ?_));rw[gK hC.1 (by omega)]
 ·intro hb0;refine ak (af (sg ?_));refine av (qe [] ?_);rw[M5 (by omega)]
def Hq(B:aq):Tab:=mT B [(3,(.int .i64)),(79,tyP),(91,tyN)] [(79,91)] [(58,pV),(105,fl),(112,gh),(113,fm),(114,oK)] [19] 67
def vo:Con:=c2 tyP tyP (fun p q=>Sz QM p/\Sz QM q/\p.length<=100/\q.length<=100) (fun p q=>[.z tyP (aH (cB (ay p) (ay q)))])
theorem xJ{B:aq}(hB:aN B):Valid B prog 61 vo:=by
 refine v2 (mg (T:=Hq B) (tc ty3 (tc gF (tc ty91 ab))) (aK (by kernel_rfl) ae) (aC (cc func58 (nC hB) (cc func105 (nD hB) (cc func112 (wO hB) (cc func113 (nE hB) (cc func114 (q8 hB) ax))))))) func61 ?_;intro p q hC X hP hT hr hG;have hX:=ai Hq.eq_1<|ai cx<|ai pV.eq_1<|ai fl.eq_1<|ai oK.eq_1<|ai gh.eq_1<|fm.eq_1;simp only[f61,az,aj,ioB];obtain⟨hp,hq,hl1,hl2⟩:=hC;refine sg ?_;refine ag (sq ?_ ?_);·exact⟨id,id,fun h=>by rw[h];rfl⟩
 refine qc ?_ ?_;·intro hb0;refine sg ?_;refine av (aw (qe [] ?_));exact Jt hb0
 ·intro hb0;have h0:=M9 hb0;refine ak (af (sq ?_ ?_));·rw[wK hl1 hl2 h0];exact QZ hl1 hl2
  refine ag (sg ?_);refine al (aY (fun(z:Nat)=>(⟨[(0,.l (.z tyP p)),(1,.l (.z tyP q)),(5,.l (.ownS 1208)),(27,.l (.z tyP p)),(28,.l (.z (.int .i64) (p.length:Int))),(29,.l (.z (.int .i64) (z:Int)))],[(1208,.arr tyN 91 (aH (mulN (ay p) (ay q) z)))]⟩:aa)) (fun z=>z<=p.length) (fun z=>p.length-z) 0 ?_ ?_ ?_);·refine q_l ?_;rw[wK hl1 hl2 h0,Int.toNat_natCast];exact⟨rfl,times_start p q⟩
  ·omega
  ·rintro i g1;(try dsimp only at g1);refine sg ?_;refine ag (qc ?_ ?_)
   ·(intro hb1;refine ak (af (ag (al (sq ?_ ?_))));·exact⟨by omega,hb1⟩);refine sg ?_;refine al (aY (fun(z:Nat)=>(⟨[(0,.l (.z tyP p)),(1,.l (.z tyP q)),(5,.l (.ownS 1208)),(27,.l (.z tyP p)),(28,.l (.z (.int .i64) (p.length:Int))),(29,.l (.z (.int .i64) (i:Int))),(6,.l (.z (.int .i64) (i:Int))),(7,.l (.ownP 7 0)),(34,.l (.z tyP q)),(35,.l (.z (.int .i64) (q.length:Int))),(36,.l (.z (.int .i64) (z:Int)))],[(1208,.arr tyN 91 (aH (cK (mulN (ay p) (ay q) i) i (cf (ay p) i) (ay q) z))),(7,.box 91 [.z .bool (bp (cf (ay p) i)).1.1,.z (.slice (.int .u32)) (bp (cf (ay p) i)).1.2,.z .bool (bp (cf (ay p) i)).2.1,.z (.slice (.int .u32)) (bp (cf (ay p) i)).2.2])]⟩:aa)) (fun z=>z<=q.length) (fun z=>q.length-z) 0 ?_ ?_ ?_);·refine q_l ?_;rw[gK hp (by omega)];exact⟨rfl,rfl,rfl,rfl,rfl,rfl⟩
    ·omega
    ·rintro k g2;(try dsimp only at g2);refine sg ?_;refine ag (qc ?_ ?_)
     ·(intro hb2;refine ak (af (ag (al (sq ?_ ?_))));·exact⟨by omega,hb2⟩);refine sq ?_ ?_;·have ek:=gK hq (i:=k) (by omega);simp only[pe2];rw[ek];exact⟨b9 _,fun h=>⟨h,b9 _⟩,id⟩
      refine qc ?_ ?_
      ·(intro hb3;have ek:=gK hq (i:=k) (by omega);obtain⟨w1,w2,w3,w4⟩:=Ds hp hq hl1 hl2 h0 (i:=i) (k:=k) (by omega) (by omega);refine rd ?_ ?_;·simp only[pe2];rw[ek,w1,Int.toNat_natCast,aP,aP];exact⟨⟨by omega,by omega⟩,w2,w3,w4,⟨by omega,by omega⟩,w2⟩);refine aD (af (rg ?_));refine qm ?_;first|exact ur hl2 (by omega) (uu hb3)|(simp only[pe2];rw[ek,w1,Int.toNat_natCast];simp only[aP];exact uq hp hq hl1 hl2 h0 (i:=i) (k:=k) (by omega) (by omega))
      ·intro hb3;have ek:=gK hq (i:=k) (by omega);simp only[pe2,ek,aP] at hb3;refine ak (aD (af (rg ?_)));refine qm ?_;first|exact ur hl2 (by omega) (uu hb3)|(simp only[pe2];rw[ek,w1,Int.toNat_natCast];simp only[aP];exact uq hp hq hl1 hl2 h0 (i:=i) (k:=k) (by omega) (by omega))
     ·intro hb2;refine aT (aA (ao (an (aD (af (rg ?_))))));refine qm ?_;exact Ju hl1 (by omega) (by omega)
   ·intro hb1;refine aT (aA (ao (an (af (sg ?_)))));refine av (qe [] ?_);exact times_fin h0 (by omega)
end Go.Proofs.YtdojbabpnaifoaaGreatDoor
end
section
namespace Go.Cm
def LV.toRow(id:Nat):LV->LV
 | .ownS i=>if i=id then .ownR id 0 else .ownS i
 |x=>x.kill id
def LV.ofRow(id j:Nat):LV->LV
 | .ownR i k=>if i=id then (if k=j then .ownS id else .junk) else .ownR i k
 |x=>x.kill id
def aa.toRow(s:aa)(id:Nat)(T':TypeId):Option aa:=
 match get? s.own id with
 |some (.arr t E xs)=>if id<ioB then some {env:=bZ (LV.toRow id) s.env,own:=upd (bu (LV.toRow id) s.own) id (.mat t T' E [some xs] [])} else none
 |_=>none
def aa.ofRow(s:aa)(id j:Nat):Option aa:=
 match get? s.own id with
 |some (.mat t _ E rows _)=>match (rows[j]?).getD none with
  |some xs=>if id<ioB then some {env:=bZ (LV.ofRow id j) s.env,own:=upd (bu (LV.ofRow id j) s.own) id (.arr t E xs)} else none
  |none=>none
 |_=>none
theorem St.toRow{X:Cx}{s s':aa}{id:Nat}{T':TypeId}(he:s.toRow id T'=some s'){ac:Act}{w:World}(h:St X s ac w):St X s' ac w:=by
 unfold aa.toRow at he;split at he;case h_2=>cases he
 rename_i t E xs hg;split at he;case isFalse=>cases he
 rename_i hid;cases he;obtain⟨ρ,hf⟩:=h.fits;obtain⟨cells,hr,hrow⟩:=hf.own _ (get?_mem hg);have hsl:∃a n c,ρ id= .slice a n c:=by
  obtain⟨_,⟨h1,_⟩|⟨g,cap,cur,h1,_⟩⟩:=hrow<;>exact⟨_,_,_,h1⟩
 obtain⟨a,n,c,hsl⟩:=hsl;have hblk:∀b,blk (ρ id)=some b↔Blk (ρ id) b:=by
  intro b;rw[hsl];cases a with
  |none=>simp[blk,Blk]
  |some a=>simp[blk,Blk]
 obtain⟨ρ',q1,q2⟩:=hf.renew (w':=w) hg (f:=LV.toRow id) (val:= .tuple #[.slice none 0 0,ρ id]) (obj':= .mat t T' E [some xs] [])
  (fun H' ρ' hh hs hρ hρd x v hx=>by
   cases x with
   |ownS i=>
    (simp only[LV.toRow];split;·rename_i e;subst e;have hx:v=ρ i/\_:=hx;exact⟨.slice none 0 0,[ρ i],a,n,c,hρd,by simp[hx.1],by rw[hx.1,hsl]⟩);·rename_i e;simp only[aV,hρ i e];exact hx
   |z t x=>exact bm hh hs hρ hx
   |ownP i o=>exact bm hh hs hρ hx
   |ownE i w o=>exact bm hh hs hρ hx
   |ownW i w o=>exact bm hh hs hρ hx
   |ownM i=>exact bm hh hs hρ hx
   |ownA i o=>exact bm hh hs hρ hx
   |ownR i o=>exact bm hh hs hρ hx
   |ownB i o p q=>exact bm hh hs hρ hx
   |fn f c=>exact bm hh hs hρ hx
   |val u=>exact bm hh hs hρ hx
   |junk=>exact bm hh hs hρ hx)
  (fun _ _ _=>rfl)
  (fun b hb=>by
   (obtain⟨u,hu,hb⟩:=hb;simp only[List.mem_cons,List.not_mem_nil,or_false] at hu;rcases hu with rfl|rfl;·simp[blk] at hb);·exact .inl ((hblk b).1 hb))
  (fun H' ρ' hh hs hρ hρd=>by
   refine⟨.slice none 0 0,[ρ id],[],hρd,⟨rfl,⟨rfl,.inl ⟨rfl,rfl⟩⟩,fun c hc=>by simp at hc,fun i j hi=>by simp at hi,?_,?_,?_⟩⟩
   ·(intro v hv;simp only[List.mem_singleton] at hv;subst hv;refine⟨⟨a,n,c,hsl⟩,fun b hb=>⟨by simp[blk],?_,?_⟩⟩;·exact((hf.own _ (get?_mem hg)).lt ((hblk b).1 hb)).1);·exact(hf.own _ (get?_mem hg)).cells ((hblk b).1 hb)
   ·intro j ys v hj hv;cases j with
    |zero=>
     simp at hj hv;subst hj;subst hv;exact⟨cells,aX hh hs hr,hrow⟩
    |succ j=>simp at hj
   ·intro i j xs' ys u v hne hi hj;cases i with
    |zero=>cases j with
     |zero=>exact absurd rfl hne
     |succ j=>simp at hj
    |succ i=>simp at hi)
  (fun hB _=>absurd hid (by omega))
 exact⟨h.marks,h.kept,h.size,h.below,h.others,h.small,ρ',q2⟩
theorem St.ofRow{X:Cx}{s s':aa}{id j:Nat}(he:s.ofRow id j=some s'){ac:Act}{w:World}(h:St X s ac w):St X s' ac w:=by
 unfold aa.ofRow at he;split at he;case h_2=>cases he
 rename_i t T' E rows idx hg;split at he;case h_2=>cases he
 rename_i xs hj;split at he;case isFalse=>cases he
 rename_i hid;cases he;obtain⟨ρ,hf⟩:=h.fits;obtain⟨h0,vs,cells,hρ0,hm⟩:=hf.own _ (get?_mem hg);have hjr:rows[j]? =some (some xs):=by
  cases hq:rows[j]? with
  |none=>rw[hq] at hj;cases hj
  |some o=>rw[hq] at hj;simp at hj;rw[hj]
 have hjl:j<vs.length:=by rw[hm.len];exact(List.getElem?_eq_some_iff.1 hjr).1
 have hvj:vs[j]? =some vs[j]:=List.getElem?_eq_getElem hjl;obtain⟨cs,hr,hrow⟩:=hm.row j xs _ hjr hvj;obtain⟨⟨a,n,c,hsl⟩,_⟩:=hm.shape vs[j] (List.getElem_mem hjl);obtain⟨ρ',q1,q2⟩:=hf.renew (w':=w) hg (f:=LV.ofRow id j) (val:=vs[j]) (obj':= .arr t E xs)
  (fun H' ρ' hh hs hρ hρd x v hx=>by
   cases x with
   |ownR i k=>
    simp only[LV.ofRow];split
    ·(rename_i e;subst e;split;·rename_i e;subst e;obtain⟨h1,vs1,a1,n1,c1,e1,e2,e3⟩:=hx;rw[hρ0] at e1;simp only[Value.tuple.injEq,Array.mk.injEq,List.cons.injEq] at e1;obtain⟨_,rfl⟩:=e1;rw[hvj] at e2;cases e2;exact⟨hρd.symm,_,_,_,e3⟩);·trivial
    ·rename_i e;have:=bm (x:= .ownR i k) hh hs hρ hx;unfold LV.kill at this;rw[if_neg (by simp[LV.isOf];exact e)] at this;exact this
   |z t x=>exact bm hh hs hρ hx
   |ownS i=>exact bm hh hs hρ hx
   |ownP i o=>exact bm hh hs hρ hx
   |ownE i w o=>exact bm hh hs hρ hx
   |ownW i w o=>exact bm hh hs hρ hx
   |ownM i=>exact bm hh hs hρ hx
   |ownA i o=>exact bm hh hs hρ hx
   |ownB i o p q=>exact bm hh hs hρ hx
   |fn f c=>exact bm hh hs hρ hx
   |val u=>exact bm hh hs hρ hx
   |junk=>exact bm hh hs hρ hx)
  (fun _ _ _=>rfl)
  (fun b hb=> .inl (by
   rw[hρ0];refine⟨vs[j],by simp,?_⟩;rw[hsl] at hb ⊢;cases a with
   |none=>simp[Blk] at hb
   |some a=>simpa [blk,Blk] using hb))
  (fun H' ρ' hh hs hρ hρd=>⟨cs,aX hh hs hr,by rw[hρd];exact hrow⟩)
  (fun hB _=>absurd hid (by omega))
 exact⟨h.marks,h.kept,h.size,h.below,h.others,h.small,ρ',q2⟩
theorem so{X:Cx}{c:Code}{s s':aa}{K:Exit->aa->Prop}(id:Nat)(T':TypeId)(he:s.toRow id T'=some s')(h:J X c s' K):J X c s K:=
 fun ac w hst=>h ac w (hst.toRow he)
theorem pX{X:Cx}{c:Code}{s s':aa}{K:Exit->aa->Prop}(id j:Nat)(he:s.ofRow id j=some s')(h:J X c s' K):J X c s K:=
 fun ac w hst=>h ac w (hst.ofRow he)
end Go.Cm
end
section
namespace Go.Proofs.YtdojbabpnaifoaaGreatDoor
open Go Go.Cm Go.Proofs Tryz
def Hr(B:aq):Tab:=mT B [(3,(.int .i64)),(79,tyP),(91,tyN)] [(79,91)] [(119,gV)] [] 25
def vp:Con:=c1 tyP (fun p=>qG p) (fun p=>[.z tyP (aH (cy (ay p)))])
theorem xK{B:aq}(hB:aN B):Valid B prog 120 vp:=by
 refine v1 (mg (T:=Hr B) (tc ty3 (tc gF (tc ty91 ab))) (aK (by kernel_rfl) ae) (aC (cc func119 (xC hB) ax))) func120 ?_;intro p hC X hP hT hr hG;have hX:=ai Hr.eq_1<|ai cx<|gV.eq_1;simp only[f120,az,aj,ioB];have hl:p.length<=1000:=hC.2.1;refine sg ?_;refine sg ?_;refine ag (sg ?_);refine al (aY (fun(z:Nat)=>(⟨[(0,.l (.z tyP p)),(3,.l (.ownS 22)),(6,.l (.z tyP p)),(7,.l (.z (.int .i64) (p.length:Int))),(8,.l (.z (.int .i64) (z:Int)))],[(22,.arr tyN 91 (aH ((ay p).take z|>.map fun c=>c/aB (ay p))))]⟩:aa)) (fun z=>z<=p.length) (fun z=>p.length-z) 0 ?_ ?_ ?_);·refine q_l ?_;exact⟨rfl,by unfold ioB;omega,rfl⟩
 ·omega
 ·rintro k g1;try dsimp only at g1
  refine sg ?_;refine ag (qc ?_ ?_)
  ·(intro hb0;obtain⟨m1,m2,m3,m4,m5,m6⟩:=Nb hC (k:=k) (by omega);refine ak (af (ag (al (sq ?_ ?_))));·exact⟨by omega,hb0⟩);refine so 22 78 (by simp only[aa.toRow,LV.toRow,ioB,mx0,mx1,mx2,mx3,mx4,mx5,mx6,Nat.reduceLT,Nat.reduceEqDiff,Nat.reduceAdd,Nat.reduceMul,Nat.reduceSub,Nat.reduceLeDiff,Nat.reduceBEq,Nat.reduceBNe,reduceIte,reduceDIte,reduceCtorEq];rfl) ?_;refine rd ?_ ?_;·simp only[pe2];rw[m1,m2];exact⟨m3,⟨m4,by rw[aP];exact m5⟩,rfl,m6⟩
   refine aD (af (pX 22 1 (by simp only[aa.ofRow,LV.ofRow,ioB,List.set_cons_zero,List.set_cons_succ,List.append_nil,List.nil_append,List.cons_append,List.getElem?_cons_zero,List.getElem?_cons_succ,Option.getD_some,mx0,mx1,mx2,mx3,mx4,mx5,mx6,Nat.reduceLT,Nat.reduceEqDiff,Nat.reduceAdd,Nat.reduceMul,Nat.reduceSub,Nat.reduceLeDiff,Nat.reduceBEq,Nat.reduceBNe,reduceIte,reduceDIte,reduceCtorEq];rfl) ?_));refine rg ?_;refine qm ?_;simp only[pe2];rw[m1,m2];simp only[aP];exact Jv hC (by omega)
  ·intro hb0;refine aT (aA (ao (an (af (sg ?_)))));refine av (qe [] ?_);exact Q0 (by omega)
def Hs(B:aq):Tab:=mT B [(3,(.int .i64)),(79,tyP),(91,tyN)] [(79,91)] [(105,fl),(124,PN)] [] 24
def mX:Con:=c1 tyP (fun p=>Sz QH p/\p.length<=1000) (fun p=>[.z tyP (aH (bl (ay p)))])
theorem xL{B:aq}(hB:aN B):Valid B prog 77 mX:=by
 refine v1 (mg (T:=Hs B) (tc ty3 (tc gF (tc ty91 ab))) (aK (by kernel_rfl) ae) (aC (cc func105 (nD hB) (cc func124 (xD hB) ax)))) func77 ?_;intro p hC X hP hT hr hG;have hX:=ai Hs.eq_1<|ai cx<|ai fl.eq_1<|PN.eq_1;simp only[f77,az,aj,ioB];have hl:p.length<=1000:=hC.2;refine sg ?_;refine sg ?_;refine ag (sg ?_);refine al (aY (fun(z:Nat)=>(⟨[(3,.l (.ownS 21)),(6,.l (.z tyP p)),(7,.l (.z (.int .i64) (p.length:Int))),(8,.l (.z (.int .i64) (z:Int)))],[(21,.arr tyN 91 (aH (ir (ay p) z)))]⟩:aa)) (fun z=>z<=p.length) (fun z=>p.length-z) 0 ?_ ?_ ?_);·refine q_l ?_;exact⟨rfl,by unfold ioB;omega,rfl⟩
 ·omega
 ·rintro k g1;try dsimp only at g1
  refine sg ?_;refine ag (qc ?_ ?_)
  ·(intro hb0;obtain⟨m1,m2,m3,m4⟩:=Nd hC.1 hl (k:=k) (by omega);refine ak (af (ag (al (sq ?_ ?_))));·exact⟨by omega,hb0⟩);refine sg ?_;refine qc ?_ ?_
   ·(intro hb1;refine so 21 78 (by simp only[aa.toRow,LV.toRow,ioB,mx0,mx1,mx2,mx3,mx4,mx5,mx6,Nat.reduceLT,Nat.reduceEqDiff,Nat.reduceAdd,Nat.reduceMul,Nat.reduceSub,Nat.reduceLeDiff,Nat.reduceBEq,Nat.reduceBNe,reduceIte,reduceDIte,reduceCtorEq];rfl) ?_;refine rd ?_ ?_;·simp only[pe2];rw[m2];exact⟨m1,m3,rfl,m4⟩);refine aD (af ?_);(first|refine pX 21 1 (by simp only[aa.ofRow,LV.ofRow,ioB,List.set_cons_zero,List.set_cons_succ,List.append_nil,List.nil_append,List.cons_append,List.getElem?_cons_zero,List.getElem?_cons_succ,Option.getD_some,mx0,mx1,mx2,mx3,mx4,mx5,mx6,Nat.reduceLT,Nat.reduceEqDiff,Nat.reduceAdd,Nat.reduceMul,Nat.reduceSub,Nat.reduceLeDiff,Nat.reduceBEq,Nat.reduceBNe,reduceIte,reduceDIte,reduceCtorEq];rfl) ?_|skip);refine rg ?_;refine qm ?_;first|exact AP hl (by omega) (by omega)|(simp only[pe2];rw[m2];simp only[aP];exact wM hl (by omega) (by omega))
   ·intro hb1;refine ak (aD (af ?_));(first|refine pX 21 1 (by simp only[aa.ofRow,LV.ofRow,ioB,List.set_cons_zero,List.set_cons_succ,List.append_nil,List.nil_append,List.cons_append,List.getElem?_cons_zero,List.getElem?_cons_succ,Option.getD_some,mx0,mx1,mx2,mx3,mx4,mx5,mx6,Nat.reduceLT,Nat.reduceEqDiff,Nat.reduceAdd,Nat.reduceMul,Nat.reduceSub,Nat.reduceLeDiff,Nat.reduceBEq,Nat.reduceBNe,reduceIte,reduceDIte,reduceCtorEq];rfl) ?_|skip);refine rg ?_;refine qm ?_;first|exact AP hl (by omega) (by omega)|(simp only[pe2];rw[m2];simp only[aP];exact wM hl (by omega) (by omega))
  ·intro hb0;refine aT (aA (ao (an (af (sg ?_)))));refine av (qe [] ?_);rw[show k=(ay p).length by rw[aL];omega];rfl
end Go.Proofs.YtdojbabpnaifoaaGreatDoor
end
section
namespace Go.Proofs
open Go.RowKit Go.Cm Go.Shelf
attribute [local go_sem] Oper.semAt_some
set_option maxHeartbeats 2000000 in
set_option maxRecDepth 100000 in
theorem Ew(ad:Addr)(n c:Nat)(news:List Value)(w:World)(hl:news.length=n*4)(hn:n<=maxLen)(hbig:n*64<=140737488355328)
  (hc:∀j u,news[j]? =some u->w.cell? (ad.add j)=some u) (h1:∀u∈news,u.oneCell'=true):
  Calls Tryz.prog 118 #[.slice (some ad) n c] w fun e w'=>∃v',e= .returned v'/\w'.ownsRow w.heap.size 91 4 v' n news/\Below w.heap.size w w':=by
 have t4:=Tryz.underlying4;have a4:=Tryz.isAgg4;have z4:=Tryz.sizeOf4;have v4:=Tryz.zeroValue4;have t22:=Tryz.underlying79;have a22:=Tryz.isAgg79;have z22:=Tryz.sizeOf79;have v22:=Tryz.zeroValue79;obtain⟨i0,hi,hz0,hz1,hz2⟩:=info_parts (show (Tryz.prog.info? 91).map (fun i=>(i.zero,i.size,i.bytes))=some (some (.agg zc4.toArray),4,64) by kernel_rfl);have q22:∀(w:World) (a:Option Addr) (n c n' c':Nat),(binOp .eql 79 (.slice a n c) (.slice none n' c')).run Tryz.prog w= .ok (.bool a.isNone) w:=fun w a n c n' c'=>Lib.run_eql_slice_nil w _ _ a n c n' c' t22;have u22:∀w,Sem.run Tryz.prog (underlying 79) w= .ok (TypeDesc.slice 91) w:=run_underlying t22;have z23:∀w,(Go.sizeOf 91).run Tryz.prog w= .ok 4 w:=fun w=>by simp[Go.sizeOf,typeInfo,hi,hz1]
 have A:Aside (∀j u,news[j]? =some u->w.cell? (ad.add j)=some u):=hc;clear hc
 go_enter Tryz.func118,Tryz.ntmps118
 go_wp2_with (at_builtin;refine wpList_append_own _ rfl _ _ 79 rfl w.heap.size 91 i0 (.agg zc4.toArray) 4 64 t22 hi hz0 hz1 hz2 rfl (by omega) _ _ _ rfl (World.ownsRow_made w #[] 0 (Nat.le_refl _) (Nat.zero_le _) (by simp)) ad n c news rfl ?qc1 ?qc2 ?qc3 ?qc4 ?qc5 ?qc6 ?_)
 case qc1=>exact hl
 case qc2=>
  intro j u hj;exact Lib.cell?_alloc_some _ (A.out j u hj)
 case qc3=>exact h1
 case qc4=>rw[Nat.zero_add];exact hn
 case qc5=>rw[Nat.zero_add];exact hbig
 case qc6=>simp
 intro v' w1 hown hgrow hnil
 go_wp2
 go_ret
 refine⟨v',rfl,by simpa using hown,?_⟩;exact((Below.refl _ w).alloc (Nat.le_refl _) _).grown hgrow (by simp) (by intro k hk;simp[Value.ownBlock] at hk;omega)
set_option maxHeartbeats 1000000 in
theorem KK(n c:Nat)(w:World):Calls Tryz.prog 118 #[.slice none n c] w fun e w'=>e= .returned (.slice none 0 0)/\w'=w:=by
 have t4:=Tryz.underlying4;have a4:=Tryz.isAgg4;have z4:=Tryz.sizeOf4;have v4:=Tryz.zeroValue4;have t22:=Tryz.underlying79;have a22:=Tryz.isAgg79;have z22:=Tryz.sizeOf79;have v22:=Tryz.zeroValue79;have q22:∀(w:World) (a:Option Addr) (n c n' c':Nat),(binOp .eql 79 (.slice a n c) (.slice none n' c')).run Tryz.prog w= .ok (.bool a.isNone) w:=fun w a n c n' c'=>Lib.run_eql_slice_nil w _ _ a n c n' c' t22
 go_enter Tryz.func118,Tryz.ntmps118
 go_wp2
 go_ret
 exact⟨rfl,rfl⟩
def dA:Con:=fun l os=>match l,os with
 | [.z (.slice (.st (.pair (.st (.pair .bool (.slice (.int .u32)))) (.st (.pair .bool (.slice (.int .u32))))))) xs],[]=>some (xs.length<=QL,[.own tyN 91 xs],[])
 |_,_=>none
theorem KL{B:aq}(hB:aN B):Valid B Tryz.prog 118 dA:=by
 intro args os C rs os' hc hC O w vals ρ0 hOn hIo hO hOI hargs hown hap;unfold dA at hc;split at hc;case h_2=>cases hc
 rename_i xs;cases hc;obtain⟨u,rfl,hu⟩:=rU hargs;obtain⟨cells,hr,h⟩:=jo hu;have hl:=bL (fun c x h=>NT.rep_length h) hr;have hC:xs.length<=1000000000:=hC;have hmove:∀w':World,Below w.heap.size w w'->∀H:Nat->Prop,(∀b,b<w.heap.size->H b->O b)->cR (fun c x=>NT.rep H w' c x) cells xs:=
  fun w' hb H hH=>aX (fun b hlt hb=> .inl (hH b hlt hb)) (fun b _ hlt=>hb.block b (dk hlt)) hr
 rcases h with⟨rfl,h0,rfl⟩|⟨ad,c,rfl,hc⟩;·refine(KK 0 0 w).mono fun e w' ⟨he,hw⟩=>?_;subst he;subst hw;exact yC hO (Below.refl _ _) ⟨_,_,_,rfl⟩ (hmove _ (Below.refl _ _)) ⟨by simp[h0],.inl ⟨rfl,h0⟩⟩
 ·refine(Ew ad xs.length c cells w hl (by unfold maxLen;omega) (by omega) hc (fq hr)).mono fun e w' ⟨v',he,hrow,hb⟩=>?_;subst he;obtain⟨h1,h2⟩:=hrow;refine yC hO hb ?_ (hmove _ hb) ⟨h1,?_⟩;·rcases h2 with⟨rfl,_⟩|⟨g,cap,cur,rfl,_⟩<;>exact⟨_,_,_,rfl⟩
  ·(rcases h2 with h2|⟨g,cap,cur,e1,e2,e3,e4,e5,e6,e7⟩;·exact .inl h2);·exact .inr ⟨g,cap,cur,e1,e2,e3,e4,e5,by rw[e6];exact Nat.le_refl _,e7⟩
end Go.Proofs
end
section
namespace Go.Proofs.YtdojbabpnaifoaaGreatDoor
open Go Go.Cm Go.Proofs Tryz
def du(B:aq):Tab:={types:=[(3,(.int .i64)),(79,tyP),(91,tyN)],elems:=[(79,91)],cons:=[(60,gU),(82,gZ),(105,fl),(112,gh),(113,fm),(118,dA),(119,gV)],hint:=[],N:=78,io:=[(82,[0])],frees:=[(82,[0])],base:=B}
theorem B6{B:aq}(hB:aN B):bx prog (du B):=⟨⟨tc ty3 (tc gF (tc ty91 ab)),aK (by kernel_rfl) ae,by simp only[du,ioB];omega⟩,aC (cc func60 (xB hB) (cc func82 (KJ hB) (cc func105 (nD hB) (cc func112 (wO hB) (cc func113 (nE hB) (cc func118 (KL hB) (cc func119 (xC hB) ax))))))),by kernel_rfl⟩
def vq:Con:=c2 tyP tyP (fun p q=>gL p q) (fun p q=>[.z tyP (aH (divN (ay p) (ay q)).1),.own tyN 91 (aH (divN (ay p) (ay q)).2)])
theorem ra{B:aq}(hB:aN B):Valid B prog 68 vq:=by
 refine aW (B6 hB).tab func68 rfl rfl rfl ?_;intro args os C rs os' hc hC;obtain⟨p,q,rfl,rfl,rfl,rfl,rfl⟩:=qz hc;refine v_h (B6 hB) fun X hP hT hr hG=>?_;have hU:=du.eq_1;unfold du at hT;have hX:=ai @cx<|ai @dA.eq_1<|ai @gV.eq_1<|ai @fl.eq_1<|ai @gU.eq_1<|ai @gh.eq_1<|ai @gZ.eq_1<|ai @fm.eq_1<|ai @b7.eq_def<| @cu.eq_def;simp only[f68,az,aj,ioB];refine ag ?_;have hl1:=hC.l1;have hl2:=hC.l2;have h0:=hC.h0;obtain⟨v1,v2,v3⟩:=TF hC;refine cp hG (by simp only[hT,du,b7.eq_def,cu.eq_def,dA,gV,fl,gU,gh,gZ,fm,cx,mx0,mx1,mx2,mx3,mx4,mx5,mx6,mT,effOp,endCall,callOp,appendOp,sliceLV,Ty.fieldTy,Ty.fieldOf,Nat.reduceLT,Nat.reduceEqDiff,Nat.reduceAdd,Nat.reduceMul,Nat.reduceSub,Nat.reduceLeDiff,Nat.reduceBEq,Nat.reduceBNe,reduceIte,reduceDIte,reduceCtorEq];rfl) ?_ ?_;·exact tt
 refine af (ag (cp hG (by simp only[hT,du,b7.eq_def,cu.eq_def,dA,gV,fl,gU,gh,gZ,fm,cx,mx0,mx1,mx2,mx3,mx4,mx5,mx6,mT,effOp,endCall,callOp,appendOp,sliceLV,Ty.fieldTy,Ty.fieldOf,Nat.reduceLT,Nat.reduceEqDiff,Nat.reduceAdd,Nat.reduceMul,Nat.reduceSub,Nat.reduceLeDiff,Nat.reduceBEq,Nat.reduceBNe,reduceIte,reduceDIte,reduceCtorEq];rfl) ?_ ?_))
 ·try simp only[ba]
  show p.length<=1000000000;omega
 refine af (ag (cp hG (by simp only[hT,du,b7.eq_def,cu.eq_def,dA,gV,fl,gU,gh,gZ,fm,cx,mx0,mx1,mx2,mx3,mx4,mx5,mx6,mT,effOp,endCall,callOp,appendOp,sliceLV,Ty.fieldTy,Ty.fieldOf,Nat.reduceLT,Nat.reduceEqDiff,Nat.reduceAdd,Nat.reduceMul,Nat.reduceSub,Nat.reduceLeDiff,Nat.reduceBEq,Nat.reduceBNe,reduceIte,reduceDIte,reduceCtorEq];rfl) ?_ ?_))
 ·try simp only[ba]
  rw[v1];exact⟨v2,v3⟩
 refine af (ag (al (L5 1104 1600 (by simp only[hT,du,mx0,mx1,mx2,mx3,mx4,mx5,mx6,Nat.reduceLT,Nat.reduceEqDiff,Nat.reduceAdd,Nat.reduceMul,Nat.reduceSub,Nat.reduceLeDiff,Nat.reduceBEq,Nat.reduceBNe,reduceIte,reduceDIte,reduceCtorEq];rfl) ?_)));refine aY (fun(z:Nat×List Rat×List Rat)=>(⟨[(0,.l (.z tyP p)),(1,.l (.z tyP q)),(6,.l (.ownS 1600)),(7,.l (.ownS 1184))],[(1600,.arr tyN 91 (aH z.2.1)),(1184,.arr tyN 91 (aH z.2.2))]⟩:aa)) (fun z=>DivPhi p q z.1 z.2.1 z.2.2) (fun z=>z.2.1.length) (p.length+1,ay p,List.replicate (p.length+1-q.length) 0) ?_ ?_ ?_;·refine q_l ?_;rw[v1,Int.toNat_natCast,hC.enc,AN];exact⟨rfl,rfl⟩
 ·exact div_start hC
 ·rintro⟨n,r,s⟩ hz;try dsimp only at hz
  refine ag (ag (cp hG (by simp only[hT,du,b7.eq_def,cu.eq_def,dA,gV,fl,gU,gh,gZ,fm,cx,mx0,mx1,mx2,mx3,mx4,mx5,mx6,mT,effOp,endCall,callOp,appendOp,sliceLV,Ty.fieldTy,Ty.fieldOf,Nat.reduceLT,Nat.reduceEqDiff,Nat.reduceAdd,Nat.reduceMul,Nat.reduceSub,Nat.reduceLeDiff,Nat.reduceBEq,Nat.reduceBNe,reduceIte,reduceDIte,reduceCtorEq];rfl) ?_ ?_));·exact tt
  refine af (aS ?_ ?_)
  ·(intro hb0;(try simp only[bt] at hb0);(have hle:q.length<=r.length:=by have h9:(q.length:Int)<=((aH r).length:Int):=hb0;rw[aE] at h9;omega);obtain⟨w1,w2,n1,n2,n3⟩:=Nh hC hz hle;have hk:=UM hC hz hle;refine ak (af (al (ag (cp hG (by simp only[hT,du,b7.eq_def,cu.eq_def,dA,gV,fl,gU,gh,gZ,fm,cx,mx0,mx1,mx2,mx3,mx4,mx5,mx6,mT,effOp,endCall,callOp,appendOp,sliceLV,Ty.fieldTy,Ty.fieldOf,Nat.reduceLT,Nat.reduceEqDiff,Nat.reduceAdd,Nat.reduceMul,Nat.reduceSub,Nat.reduceLeDiff,Nat.reduceBEq,Nat.reduceBNe,reduceIte,reduceDIte,reduceCtorEq];rfl) ?_ ?_))));·exact tt);refine af (ag (om hG (by simp only[hT,mt0,du,b7.eq_def,cu.eq_def,dA,gV,fl,gU,gh,gZ,fm,cx,mx0,mx1,mx2,mx3,mx4,mx5,mx6,mT,effOp,endCall,callOp,appendOp,sliceLV,Ty.fieldTy,Ty.fieldOf,Nat.reduceLT,Nat.reduceEqDiff,Nat.reduceAdd,Nat.reduceMul,Nat.reduceSub,Nat.reduceLeDiff,Nat.reduceBEq,Nat.reduceBNe,reduceIte,reduceDIte,reduceCtorEq];rfl) (by kernel_rfl) (by rfl) (by rfl) ?_ ?_))
   ·(try simp only[ba]);simp only[w1,w2,Int.toNat_natCast,n1,n2];exact Jw hC hz hle
   refine af (ag (cp hG (by simp only[hT,du,b7.eq_def,cu.eq_def,dA,gV,fl,gU,gh,gZ,fm,cx,mx0,mx1,mx2,mx3,mx4,mx5,mx6,mT,effOp,endCall,callOp,appendOp,sliceLV,Ty.fieldTy,Ty.fieldOf,Nat.reduceLT,Nat.reduceEqDiff,Nat.reduceAdd,Nat.reduceMul,Nat.reduceSub,Nat.reduceLeDiff,Nat.reduceBEq,Nat.reduceBNe,reduceIte,reduceDIte,reduceCtorEq];rfl) ?_ ?_))
   ·(try simp only[ba]);simp only[hk,Int.toNat_natCast];exact⟨⟨(yz hC hz hle).1,(yz hC hz hle).2.1⟩,(yz hC hz hle).2.2⟩
   (refine af (ag (ag (cp hG (by simp only[hT,du,b7.eq_def,cu.eq_def,dA,gV,fl,gU,gh,gZ,fm,cx,mx0,mx1,mx2,mx3,mx4,mx5,mx6,mT,effOp,endCall,callOp,appendOp,sliceLV,Ty.fieldTy,Ty.fieldOf,Nat.reduceLT,Nat.reduceEqDiff,Nat.reduceAdd,Nat.reduceMul,Nat.reduceSub,Nat.reduceLeDiff,Nat.reduceBEq,Nat.reduceBNe,reduceIte,reduceDIte,reduceCtorEq];rfl) ?_ ?_)));·exact tt);refine af (al (aY (fun(z:Nat)=>(⟨[(0,.l (.z tyP p)),(1,.l (.z tyP q)),(6,.l (.ownS 1600)),(7,.l (.ownS 1184)),(8,.l (.z (.int .i64) ((r.length-q.length:Nat):Int))),(9,.l (.ownP 9 0)),(51,.l (.z tyP q)),(52,.l (.z (.int .i64) (q.length:Int))),(53,.l (.z (.int .i64) (z:Int)))],[(1600,.arr tyN 91 (aH (cK r (r.length-q.length) (-(aB r/aB (ay q))) (ay q) z))),(1184,.arr tyN 91 (aH (s.set (r.length-q.length) (aB r/aB (ay q))))),(9,.box 91 [.z .bool (bp (aB r/aB (ay q))).1.1,.z (.slice (.int .u32)) (bp (aB r/aB (ay q))).1.2,.z .bool (bp (aB r/aB (ay q))).2.1,.z (.slice (.int .u32)) (bp (aB r/aB (ay q))).2.2])]⟩:aa)) (fun z=>z<=q.length) (fun z=>q.length-z) 0 ?_ ?_ ?_));·refine q_l ?_;simp only[hk,w1,w2,Int.toNat_natCast,pe2,n1,n2,aP,uo,cK,true_and,and_true,and_self];rfl
   ·omega
   ·(rintro i g1;(try dsimp only at g1);refine ag (cp hG (by simp only[hT,du,b7.eq_def,cu.eq_def,dA,gV,fl,gU,gh,gZ,fm,cx,mx0,mx1,mx2,mx3,mx4,mx5,mx6,mT,effOp,endCall,callOp,appendOp,sliceLV,Ty.fieldTy,Ty.fieldOf,Nat.reduceLT,Nat.reduceEqDiff,Nat.reduceAdd,Nat.reduceMul,Nat.reduceSub,Nat.reduceLeDiff,Nat.reduceBEq,Nat.reduceBNe,reduceIte,reduceDIte,reduceCtorEq];rfl) ?_ ?_);·exact tt);refine af (ag (aS ?_ ?_))
    ·intro hb1;(try simp only[bt] at hb1);(have hi:i<q.length:=by have h9:(i:Int)<(q.length:Int):=hb1;omega);obtain⟨u1,u2,u3,u4,u5,u6⟩:=Nf hC hz hle hi;refine ak (af (ag (al (ag (cp hG (by simp only[hT,du,b7.eq_def,cu.eq_def,dA,gV,fl,gU,gh,gZ,fm,cx,mx0,mx1,mx2,mx3,mx4,mx5,mx6,mT,effOp,endCall,callOp,appendOp,sliceLV,Ty.fieldTy,Ty.fieldOf,Nat.reduceLT,Nat.reduceEqDiff,Nat.reduceAdd,Nat.reduceMul,Nat.reduceSub,Nat.reduceLeDiff,Nat.reduceBEq,Nat.reduceBNe,reduceIte,reduceDIte,reduceCtorEq];rfl) ?_ ?_)))))
     ·(try simp only[ba]);exact⟨by omega,hb1⟩
     refine af (om hG (by simp only[hT,mt0,du,b7.eq_def,cu.eq_def,dA,gV,fl,gU,gh,gZ,fm,cx,mx0,mx1,mx2,mx3,mx4,mx5,mx6,mT,effOp,endCall,callOp,appendOp,sliceLV,Ty.fieldTy,Ty.fieldOf,Nat.reduceLT,Nat.reduceEqDiff,Nat.reduceAdd,Nat.reduceMul,Nat.reduceSub,Nat.reduceLeDiff,Nat.reduceBEq,Nat.reduceBNe,reduceIte,reduceDIte,reduceCtorEq];rfl) (by kernel_rfl) (by rfl) (by rfl) ?_ ?_)
     ·(try simp only[ba]);simp only[pe2,u1,u3,u4,Int.toNat_natCast,aP];exact Jy hC hz hle hi
     (refine aD (af (cp hG (by simp only[hT,du,b7.eq_def,cu.eq_def,dA,gV,fl,gU,gh,gZ,fm,cx,mx0,mx1,mx2,mx3,mx4,mx5,mx6,mT,effOp,endCall,callOp,appendOp,sliceLV,Ty.fieldTy,Ty.fieldOf,Nat.reduceLT,Nat.reduceEqDiff,Nat.reduceAdd,Nat.reduceMul,Nat.reduceSub,Nat.reduceLeDiff,Nat.reduceBEq,Nat.reduceBNe,reduceIte,reduceDIte,reduceCtorEq];rfl) ?_ ?_));·exact tt);refine qm ?_;simp only[pe2,u1,u3,u4,Int.toNat_natCast,aP,Q2];exact Ni (n:=n) (s:=s) hC hi
    ·intro hb1;(try simp only[bf] at hb1);(have hi:i=q.length:=by have h9:¬(i:Int)<(q.length:Int):=hb1;omega);refine aT (aA (ao (an (af (cp hG (by simp only[hT,du,b7.eq_def,cu.eq_def,dA,gV,fl,gU,gh,gZ,fm,cx,mx0,mx1,mx2,mx3,mx4,mx5,mx6,mT,effOp,endCall,callOp,appendOp,sliceLV,Ty.fieldTy,Ty.fieldOf,Nat.reduceLT,Nat.reduceEqDiff,Nat.reduceAdd,Nat.reduceMul,Nat.reduceSub,Nat.reduceLeDiff,Nat.reduceBEq,Nat.reduceBNe,reduceIte,reduceDIte,reduceCtorEq];rfl) ?_ ?_)))))
     ·(try simp only[ba]);rw[FK (p:=p) (n:=n) (s:=s) hi];exact Ng hC hz hle
     refine aD (qm ?_);obtain⟨m,hm⟩:=div_next hC hz hle;exact⟨m,aM (cA (ay q) r),by rw[FK (p:=p) (n:=n) (s:=s) hi,aI],_,rfl,hm,fh (by rw[aL];exact h0) (by rw[aL];exact hle) hC.hl⟩
  ·(intro hb0;(try simp only[bf] at hb0);(have hle:¬q.length<=r.length:=by have h9:¬(q.length:Int)<=((aH r).length:Int):=hb0;rw[aE] at h9;omega);have he:=div_end hz hle;refine aT (aA (ao (an (af (ag (cp hG (by simp only[hT,du,b7.eq_def,cu.eq_def,dA,gV,fl,gU,gh,gZ,fm,cx,mx0,mx1,mx2,mx3,mx4,mx5,mx6,mT,effOp,endCall,callOp,appendOp,sliceLV,Ty.fieldTy,Ty.fieldOf,Nat.reduceLT,Nat.reduceEqDiff,Nat.reduceAdd,Nat.reduceMul,Nat.reduceSub,Nat.reduceLeDiff,Nat.reduceBEq,Nat.reduceBNe,reduceIte,reduceDIte,reduceCtorEq];rfl) ?_ ?_))))));·exact tt);refine af (av (q_e [] ?_));rw[<- he];exact⟨rfl,trivial,rfl⟩
def Ht(B:aq):Tab:=mT B [(3,(.int .i64)),(79,tyP)] [] [(68,vq),(120,vp)] [13] 21
def pY:Con:=c2 tyP tyP (fun p q=>kg p q) (fun p q=>[.z tyP (aH (cd (ay p) (ay q)))])
theorem xM{B:aq}(hB:aN B):Valid B prog 70 pY:=by
 refine v2 (mg (T:=Ht B) (tc ty3 (tc gF ab)) ae (aC (cc func68 (ra hB) (cc func120 (xK hB) ax)))) func70 ?_;intro p q hC X hP hT hr hG;have hX:=ai Ht.eq_1<|ai cx<|ai vp.eq_1<|vq.eq_1;simp only[f70,az,aj,ioB];refine sg ?_;refine ag (al (aY (fun(z:Nat×List Rat×List Rat)=>(⟨[(0,.l (.z tyP (aH z.2.1))),(1,.l (.z tyP (aH z.2.2)))],[]⟩:aa)) (fun z=>uy p q z.1 z.2.1 z.2.2) (fun z=>z.2.2.length) (q.length+1,ay p,ay q) ?_ ?_ ?_));·refine q_l ?_;rw[yA hC.hp,yA hC.hq];exact⟨rfl,rfl⟩
 ·exact Jz hC
 ·rintro⟨n,a,b⟩ hz;try dsimp only at hz
  refine ag (sg ?_);refine qc ?_ ?_
  ·(intro hb0;(have hl:0<b.length:=by have h9:(0:Int)<((aH b).length:Int):=hb0;rw[aE] at h9;omega);obtain⟨d1,d2,⟨m,d3⟩,d4⟩:=Nj hz hl;refine ak (af (al (sq ?_ ?_)));·exact d1);refine rq ?_ ?_;·rw[aI,aI];exact d2
   refine aD (qm ?_);rw[aI,aI,aI];exact⟨m,b,rfl,_,rfl,d3,d4⟩
  ·(intro hb0;(have hl:¬0<b.length:=by have h9:¬(0:Int)<((aH b).length:Int):=hb0;rw[aE] at h9;omega);obtain⟨d1,d2⟩:=Q3 hz hl;refine aT (aA (ao (an (af (sq ?_ ?_)))));·exact d1);refine av (qe [] ?_);rw[aI,d2]
def Hu(B:aq):Tab:=mT B [(3,(.int .i64)),(79,tyP)] [] [(68,vq),(70,pY),(77,mX),(120,vp)] [14] 19
def y9:Con:=c1 tyP (fun p=>mE p) (fun p=>[.z tyP (aH (bO (ay p)))])
theorem KM{B:aq}(hB:aN B):Valid B prog 79 y9:=by
 refine v1 (mg (T:=Hu B) (tc ty3 (tc gF ab)) ae (aC (cc func68 (ra hB) (cc func70 (xM hB) (cc func77 (xL hB) (cc func120 (xK hB) ax)))))) func79 ?_;intro p hC X hP hT hr hG;have hX:=ai Hu.eq_1<|ai cx<|ai pY.eq_1<|ai mX.eq_1<|ai vp.eq_1<|vq.eq_1;simp only[f79,az,aj,ioB];refine sg ?_;refine ag (sg ?_);refine qc ?_ ?_;·intro hb0;refine sg ?_;refine av (aw (qe [] ?_));have h9:(p.length:Int)=0:=hb0;obtain rfl:p=[]:=List.eq_nil_of_length_eq_zero (by omega);rfl
 ·intro hb0;have hne:p≠[]:=by intro e;subst e;exact hb0 rfl
  obtain⟨c1,c2,c3,c4,c5⟩:=hC hne;refine ak (af (sq ?_ ?_));·simp only[aI];exact⟨⟨c1,by omega⟩,c3,c4⟩
  refine sq ?_ ?_;·simp only[aI];exact c5
  refine av (qe [] ?_);simp only[aI,bO,if_neg (show ¬ay p=[] from fun e=>hne (by have:=congrArg List.length e;rw[aL] at this;exact List.eq_nil_of_length_eq_zero this))]
end Go.Proofs.YtdojbabpnaifoaaGreatDoor
end