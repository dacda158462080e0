/- Merged by a program out of several texts. -/
import Derived.Test.YtdojbabpnaifoaaGreatDoorQ3
import Derived.Lib.IndexMore
import Derived.Laws.CopyOwn
import Derived.Deep.RegionLaw
import Derived.Shelf.Strings.Builder2
import Derived.Shelf.Small.Wraps
import Derived.Shelf.Strings.BuilderK
import Derived.Shelf.Strings.Builder2Cap
import Derived.Shelf.Strconv.Atoi
import Derived.Shelf.Strconv.Itoa3
import Derived.Shelf.Strconv.AtoiErrFast
import Derived.Shelf.Strconv.ParseIntEmpty
import Derived.Shelf.Strconv.AtoiFail
import Derived.Shelf.Strconv.Clone
import Derived.Shelf.Strconv.SyntaxError
import Derived.Shelf.Strconv.Lower
import Derived.Shelf.Strconv.ParseUint10
import Derived.Shelf.Strconv.ParseUint10Empty
import Derived.Shelf.Strconv.RangeError
import Derived.Shelf.Strconv.ParseUintEmpty
import Derived.Shelf.Strconv.ParseUint10b64
import Derived.Shelf.Strconv.ParseUint10b32
import Derived.Shelf.Strconv.ParseUint10b16
import Derived.Shelf.Strconv.ParseUint10b8
import Derived.Shelf.Strings.Search1
import Derived.Shelf.Strings.Search2
import Derived.Shelf.Strings.Cut
import Derived.Shelf.Strings.Shaped
import Derived.Shelf.Bits.Mul64
import Derived.Shelf.Strings.Repeat
import Derived.Test.YtdojbabpnaifoaaGreatDoorProg
import Derived.WalkKit
import Derived.BigQuiet
import Derived.Test.YtdojbabpnaifoaaGreatDoorQ2
import Derived.Shelf.Abstract
import Derived.RangeFuncBox
import Derived.OwnWalkIn
import Derived.TacticsInMore
import Derived.LoopNIn
import Derived.LoopIn
set_option linter.all false
set_option linter.unusedSimpArgs false
set_option linter.unusedVariables false
set_option maxRecDepth 100000
section
namespace Go.Cm
open Go.Proofs
theorem fh (n:Int):(Lib.itoa n).length≤9*lw n+2:=by
 have h1:=nJ n
 rw [J1] at h1
 have h2:=uW (a:=n.natAbs) (k:=9*lw n) (by omega)
 have h3:(Lib.itoa n).length≤(Lib.decDigits n.natAbs).length+1:=by
  unfold Lib.itoa
  split
  ·have:(-n).toNat=n.natAbs:=by omega
   simp [this]
  ·have:n.toNat=n.natAbs:=by omega
   simp [this]
 omega
theorem xt {x:ND} (h:NOK x∧lq (bu x)≤QC):WOK x.1∧List.length x.1.2<CAP:=(jb h).1
theorem xu {x:ND} (h:NOK x∧lq (bu x)≤QC):(WOK x.1∧List.length x.1.2<CAP)∧(Lib.itoa (dec x.1)).length+1≤maxLen∧(WOK x.2∧List.length x.2.2<CAP)∧(Lib.itoa (dec x.1)++ [47]).length+(Lib.itoa (dec x.2)).length≤maxLen:=by
 obtain ⟨h1,h2⟩:=jb h
 have e1:=fh (dec x.1)
 have e2:=fh (dec x.2)
 have e3:=h.1.l1
 have e4:=h.1.l2
 have e5:=h.2
 rw [h1.1.lw] at e3
 rw [h2.1.lw] at e4
 have e6:QC=100000000000:=rfl
 have e7:maxLen=9223372036854775807:=rfl
 refine ⟨h1,by omega,h2,?_⟩
 simp only [List.length_append,List.length_cons,List.length_nil]
 omega
theorem EL {x:ND} (h:NOK x) (hb:(bu x).den=1):Lib.itoa (dec x.1)=bl (bu x):=by
 unfold bl;rw [if_pos hb,h.d1]
theorem EM {x:ND} (h:NOK x) (hb: ¬ (bu x).den=1):Lib.itoa (dec x.1)++ [47]++Lib.itoa (dec x.2)=bl (bu x):=by
 unfold bl;rw [if_neg hb,h.d1,h.d2]
def tN (q:List UInt8):List UInt8:=q.takeWhile (· !=47)
def b6 (q:List UInt8):Bool:=q.any (· ==47)
def tR (q:List UInt8):List UInt8:=q.drop ((tN q).length+1)
def tD (q:List UInt8):List UInt8:=if b6 q=true then tR q else [49]
theorem nK:∀ q:List UInt8,Lib.index q [47]=if b6 q=true then ((tN q).length:Int) else-1
 | []=>by simp [Lib.index,b6]
 |b::l=>by
  have ih:=nK l
  unfold Lib.index
  by_cases hb:b=47
  ·subst hb
   simp [b6,tN]
  ·have h1: [47].isPrefixOf (b::l)=false:=by simp [List.isPrefixOf,Ne.symm hb]
   have h2:b6 (b::l)=b6 l:=by simp [b6,hb]
   have h3:(tN (b::l)).length=(tN l).length+1:=by simp [tN,hb]
   rw [h1,ih,h2,h3]
   cases hs:b6 l
   ·simp
   ·simp only [if_true,Bool.false_eq_true,if_false]
    rw [if_neg (by intro e;have:=beq_iff_eq.1 e;omega)]
    omega
theorem rq {q:List UInt8} (h:b6 q=false):tN q=q:=by
 unfold tN
 induction q with
 |nil=>rfl
 |cons c l ih=>
  simp only [b6,List.any_cons,Bool.or_eq_false_iff,beq_eq_false_iff_ne] at h
  rw [List.takeWhile_cons,if_pos (by simp [h.1]),ih h.2]
theorem EN (q:List UInt8):Lib.cut q [47]=(tN q,if b6 q=true then tR q else [],b6 q):=by
 unfold Lib.cut
 rw [nK]
 cases hs:b6 q
 ·rw [rq hs];simp
 ·simp only [if_true]
  rw [if_pos (by omega),Int.toNat_natCast]
  have:q.take (tN q).length=tN q:=by
   unfold tN
   exact (List.prefix_iff_eq_take.1 (List.takeWhile_prefix _)).symm
  rw [this];rfl
theorem AB (q:List UInt8):(tN q).length≤q.length:=(List.takeWhile_prefix _).length_le
theorem LW (q:List UInt8):(tR q).length≤q.length:=by unfold tR;simp
theorem AC (q:List UInt8):(tD q).length≤q.length+1:=by
 unfold tD
 split
 ·have:=LW q;omega
 ·simp
def QL:Nat:=1000000000
def fp (q:List UInt8):Prop:=RF (tN q)∧RF (tD q)∧q.length≤QL
def fP (q:List UInt8):ND:=(enc (an (tN q)),enc (an (tD q)))
def c6 (q:List UInt8):Int:=
 if chk (tN q)=5∨chk (tD q)=5 then 5
 else if b6 q=true∧(an (tD q)≤1∨cq (an (tN q)) (an (tD q))≠1) then 5
 else if 2000<dP (an (tN q))∨2000<dP (an (tD q)) then 6 else 0
def bw (q:List UInt8):Rat:=Rat.divInt (an (tN q)) (an (tD q))
def RQ (q:List UInt8):Prop:=c6 q≠5∧q.length≤QL
theorem RQ.form {q:List UInt8} (h:RQ q):fp q:=by
 have h1:=h.1
 unfold c6 at h1
 split at h1
 ·exact absurd rfl h1
 ·rename_i h2
  exact ⟨fun e=>h2 (.inl e),fun e=>h2 (.inr e),h.2⟩
theorem l8:an [49]=1:=by decide
theorem RQ.red {q:List UInt8} (h:RQ q):0<an (tD q)∧cq (an (tN q)) (an (tD q))=1:=by
 have h1:=h.1
 unfold c6 at h1
 split at h1
 ·exact absurd rfl h1
 ·split at h1
  ·exact absurd rfl h1
  ·rename_i h2 h3
   cases hs:b6 q
   ·have:tD q= [49]:=by unfold tD;rw [hs];rfl
    rw [this,l8]
    exact ⟨by decide,by unfold cq;simp⟩
   ·rw [hs] at h3
    have h4: ¬an (tD q)≤1:=fun e=>h3 ⟨rfl, .inl e⟩
    have h5:cq (an (tN q)) (an (tD q))=1:=Decidable.not_not.1 fun e=>h3 ⟨rfl, .inr e⟩
    exact ⟨by omega,h5⟩
theorem RQ.raw {q:List UInt8} (h:RQ q):fP q=bg (bw q):=by
 obtain ⟨h1,h2⟩:=h.red
 unfold fP bw
 have hd:an (tD q)≠0:=by omega
 rw [xr hd]
 unfold df
 rw [if_neg (by omega),h2]
theorem RQ.parts {q:List UInt8} (h:RQ q):(bw q).num=an (tN q)∧((bw q).den:Int)=an (tD q):=by
 have h1:=h.raw
 unfold fP bg at h1
 have h2:=congrArg (fun x:ND=>dec x.1) h1
 have h3:=congrArg (fun x:ND=>dec x.2) h1
 simp only [bK] at h2 h3
 exact ⟨h2.symm,h3.symm⟩
theorem AD {s:List UInt8} (h:RF s):lw (an s)≤s.length:=by
 obtain ⟨h1,_,_⟩:=gi h
 refine kO ?_
 rw [gu]
 have h2:=fO h1
 have h3:(10:Nat)^(ar s [45]).length≤10^s.length:=Nat.pow_le_pow_right (by omega) (ff s _)
 have h4:(10:Nat)^s.length≤1000000000^s.length:=Nat.pow_le_pow_left (by omega) _
 have h5:(LB^s.length:Int)=((1000000000^s.length:Nat):Int):=by rw [Int.natCast_pow];rfl
 rw [h5]
 omega
theorem fp.lens {q:List UInt8} (h:fp q):lw (an (tN q))≤QL∧lw (an (tD q))≤QL+1:=by
 have h1:=AD h.1
 have h2:=AD h.2.1
 have h3:=AB q
 have h4:=AC q
 have h5:=h.2.2
 omega
def jP (q:List UInt8):ND×Int:=if c6 q=0 then (bg (bw q),0) else (((false, []),(false, [])),c6 q)
theorem Kh {a:Int}:bo a 1≤0↔a≤1:=by
 unfold bo
 split
 ·constructor<;>omega
 ·split
  ·constructor<;>omega
  ·constructor<;>omega
theorem HP {a b:Int}:bo a b≠0↔a≠b:=by
 unfold bo
 split
 ·constructor<;>omega
 ·split
  ·constructor<;>omega
  ·constructor<;>omega
theorem s8 {D:List UInt8} {r:Nat} (hr:0<(D.length:Int)-9*(r:Int)) (hl:D.length<1000000000000):
  IntKind.i64.wrap ((D.length:Int)-9*(r:Int)-9)=(D.length:Int)-9*(r:Int)-9∧Int.toNat (max 0 ((D.length:Int)-9*(r:Int)-9))=D.length-9*(r+1)∧Int.toNat ((D.length:Int)-9*(r:Int))=D.length-9*r:=
 ⟨wi (by omega) (by omega),by omega,by omega⟩
theorem jQ {q:List UInt8} (h:b6 q=true):(if b6 q=true then tR q else [])=tD q:=by unfold tD;rw [if_pos h,if_pos h]
theorem uZ {q:List UInt8} (h:b6 q=false): [49]=tD q:=by unfold tD;rw [if_neg (by rw [h];decide)]
theorem mN {q:List UInt8} (h:fp q):q.length<4294967281∧(RF (tN q)∧(tN q).length<CAP)∧(RF (tD q)∧(tD q).length<CAP):=by
 obtain ⟨h1,h2,h3⟩:=h
 have h4:=AB q
 have h5:=AC q
 have e1:QL=1000000000:=rfl
 have e2:CAP=1000000000000:=rfl
 exact ⟨by omega,⟨h1,by omega⟩,h2,by omega⟩
theorem HQ {q:List UInt8} (h:b6 q=false):(((enc (an (tN q))).1,(enc (an (tN q))).2),(enc 1).1,(enc 1).2)=fP q:=by
 unfold fP
 rw [← uZ h,l8]
theorem HR {q:List UInt8} (h:q.length≤QL):lY (tN q)∧lY (tD q):=by
 have h4:=AB q
 have h5:=AC q
 have e1:QL=1000000000:=rfl
 unfold lY
 exact ⟨by omega,by omega⟩
theorem lone:(enc 1).2.length=1:=rl
theorem ME {q:List UInt8} (h:fp q):List.length (enc (an (tD q))).2+List.length (enc 1).2<CAP:=by
 have:=h.lens
 have e1:QL=1000000000:=rfl
 have e2:CAP=1000000000000:=rfl
 rw [lwl,lone];omega
theorem LX {q:List UInt8} (h:fp q):mI (enc (an (tN q))) (enc (an (tD q))):=by
 have:=h.lens
 have e1:QL=1000000000:=rfl
 refine ⟨enc_ok _,enc_ok _,?_⟩
 rw [lwl,lwl];unfold CAP;omega
theorem MF {q:List UInt8} (h:fp q):List.length (enc (cq (an (tN q)) (an (tD q)))).2+List.length (enc 1).2<CAP:=by
 have h1:=h.lens
 have e1:QL=1000000000:=rfl
 have e2:CAP=1000000000000:=rfl
 rw [lwl,lone]
 have h2:lw (cq (an (tN q)) (an (tD q)))≤lw (an (tN q))+lw (an (tD q)):=by
  by_cases hd:an (tD q)=0
  ·have:cq (an (tN q)) (an (tD q))=((an (tN q)).natAbs:Int):=by unfold cq;rw [hd];simp
   rw [this]
   have:=ko (a:=((an (tN q)).natAbs:Int)) (b:=an (tN q)) (by simp)
   omega
  ·have:=ko (og (n:=an (tN q)) hd)
   omega
 omega
theorem Ki {q:List UInt8} (h:q.length≤QL) (hb:(chk (tN q)==5||chk (tD q)==5)=false):fp q:=by
 simp only [Bool.or_eq_false_iff,beq_eq_false_iff_ne] at hb
 exact ⟨hb.1,hb.2,h⟩
theorem Kj {q:List UInt8} (hb:(chk (tN q)==5||chk (tD q)==5)=true):((((false, []),false, []),5):ND×Int)=jP q:=by
 simp only [Bool.or_eq_true,beq_iff_eq] at hb
 have:c6 q=5:=by unfold c6;rw [if_pos hb]
 unfold jP;rw [this];rfl
theorem fp.not {q:List UInt8} (h:fp q): ¬ (chk (tN q)=5∨chk (tD q)=5):=fun e=>e.elim h.1 h.2.1
theorem Cb (q:List UInt8):(decide (bo (an (tD q)) 1≤0)||bo (cq (an (tN q)) (an (tD q))) 1 !=0)=true↔(an (tD q)≤1∨cq (an (tN q)) (an (tD q))≠1):=by
 rw [Bool.or_eq_true,decide_eq_true_eq,bne_iff_ne,Kh,HP]
theorem Kk {q:List UInt8} (h:fp q) (hb:b6 q=true∧(decide (bo (an (tD q)) 1≤0)||bo (cq (an (tN q)) (an (tD q))) 1 !=0)=true):((((false, []),false, []),5):ND×Int)=jP q:=by
 rw [Cb] at hb
 have:c6 q=5:=by unfold c6;rw [if_neg h.not,if_pos hb]
 unfold jP;rw [this];rfl
theorem MG {q:List UInt8} (h:fp q) (hb:b6 q=true→(decide (bo (an (tD q)) 1≤0)||bo (cq (an (tN q)) (an (tD q))) 1 !=0)=false):RQ q:=by
 refine ⟨?_,h.2.2⟩
 unfold c6
 rw [if_neg h.not,if_neg (fun e=>by have:=hb e.1;rw [(Cb q).2 e.2] at this;cases this)]
 split<;>decide
theorem LY {q:List UInt8} (h:RQ q):lq (bw q)≤QC:=by
 have h1:=h.form.lens
 have h2:=h.parts
 unfold lq
 rw [h2.1,h2.2]
 have e1:QL=1000000000:=rfl
 have e2:QC=100000000000:=rfl
 omega
theorem AE {q:List UInt8} (h:RQ q):bu (fP q)=bw q:=by rw [h.raw,aK]
theorem Kl {q:List UInt8} (h:RQ q):NOK (fP q)∧lq (bu (fP q))≤QC:=by
 rw [AE h,h.raw]
 exact ⟨bQ _,LY h⟩
theorem RQ.chk {q:List UInt8} (h:RQ q):c6 q=if 2000<dP (an (tN q))∨2000<dP (an (tD q)) then 6 else 0:=by
 have h1:=h.1
 revert h1
 unfold c6
 split
 ·intro h1;exact absurd rfl h1
 ·split
  ·intro h1;exact absurd rfl h1
  ·intro _;rfl
theorem MH {q:List UInt8} (h:RQ q) (hb:dP (bu (fP q)).num≤2000∧dP ((bu (fP q)).den:Int)≤2000):(fP q,(0:Int))=jP q:=by
 rw [AE h,h.parts.1,h.parts.2] at hb
 have:c6 q=0:=by rw [h.chk,if_neg (by omega)]
 unfold jP;rw [if_pos this,h.raw]
theorem LZ {q:List UInt8} (h:RQ q) (hb: ¬ (dP (bu (fP q)).num≤2000∧dP ((bu (fP q)).den:Int)≤2000)):((((false, []),false, []),6):ND×Int)=jP q:=by
 rw [AE h,h.parts.1,h.parts.2] at hb
 have:c6 q=6:=by rw [h.chk,if_pos (by omega)]
 unfold jP;rw [this];rfl
theorem EO (q:List UInt8):(jP q).2=c6 q:=by
 unfold jP
 split
 ·rename_i h;exact h.symm
 ·rfl
def fQ (q:Rat):Bool:=decide (dP q.num≤2000∧dP (q.den:Int)≤2000)
def rr (q:Rat):Int:=if fQ q=true then 0 else 6
def dh (l:List ND):Bool:=l.all fun x=>fQ (bu x)
theorem fi {t:Ty} {l:List t.D} {k:Nat} (h:k<l.length):nth t l (k:Int)=l[k]:=by
 unfold nth;simp [h]
theorem fF {t:Ty} {l:List t.D} {k:Nat} (h:k<l.length):nth t l (k:Int)∈l:=by rw [fi h];exact List.getElem_mem h
theorem xv {t:Ty} {β:Type} (f:t.D→β) {l:List t.D} {k:Nat} (h:k<l.length):(l.take k).map f++ [f (nth t l (k:Int))]=(l.take (k+1)).map f:=by
 rw [fi h,List.take_succ_eq_append_getElem h,List.map_append];rfl
theorem rt {n:Nat} (h:n≤1000000001):Cm.Roomy 4 n:=by unfold Cm.Roomy;omega
theorem u7 {n:Nat} (h:n≤1000000001):Cm.Roomy 1 n:=by unfold Cm.Roomy;omega
theorem list_round {l:List (List UInt8)} {k:Nat} (h:k<l.length) (hl:l.length<QL):∃ z:Nat,IntKind.i64.wrap ((k:Int)+1)=(z:Int)∧List.map fP (l.take k)++ [fP (nth .str l (k:Int))]=List.map fP (l.take z)∧z≤l.length∧l.length-z<l.length-k:=by
 have e1:QL=1000000000:=rfl
 exact ⟨k+1,by rw [wi (by omega) (by omega)];omega,xv (t:= .str) fP h,by omega,by omega⟩
theorem EP {l:List ND} {k:Nat} (h:k<l.length) (hk:dh (l.take k)=true):dh (l.take (k+1))=fQ (bu (nth NT l (k:Int))):=by
 rw [List.take_succ_eq_append_getElem h]
 unfold dh at hk ⊢
 rw [List.all_append,hk,fi (t:=NT) h]
 simp
theorem xw {l:List ND} {k:Nat} (h:k<l.length) (hl:l.length<QL) (hk:dh (l.take k)=true) (hb:dP (bu (nth NT l (k:Int))).num≤2000∧dP ((bu (nth NT l (k:Int))).den:Int)≤2000):
  ∃ z:Nat,IntKind.i64.wrap ((k:Int)+1)=(z:Int)∧List.map (fun x=>bl (bu x)) (l.take k)++ [bl (bu (nth NT l (k:Int)))]=List.map (fun x=>bl (bu x)) (l.take z)∧z≤l.length∧dh (l.take z)=true∧l.length-z<l.length-k:=by
 have e1:QL=1000000000:=rfl
 exact ⟨k+1,by rw [wi (by omega) (by omega)];omega,xv (t:=NT) (fun x=>bl (bu x)) h,by omega,by rw [EP h hk];exact decide_eq_true hb,by omega⟩
theorem EQ {l:List ND} {k:Nat} (h:k<l.length) (hb: ¬ (dP (bu (nth NT l (k:Int))).num≤2000∧dP ((bu (nth NT l (k:Int))).den:Int)≤2000)):
  ([]=if dh l=true then List.map (fun x=>bl (bu x)) l else [])∧false=dh l:=by
 have:dh l=false:=by
  unfold dh
  rw [List.all_eq_false]
  exact ⟨_,fF (t:=NT) h,by unfold fQ;simpa using hb⟩
 rw [this];exact ⟨rfl,rfl⟩
theorem ER {l:List ND} {k:Nat} (h: ¬k<l.length) (hk:dh (l.take k)=true):
  (List.map (fun x=>bl (bu x)) (l.take k)=if dh l=true then List.map (fun x=>bl (bu x)) l else [])∧true=dh l:=by
 rw [List.take_of_length_le (by omega)] at hk ⊢
 rw [hk];exact ⟨rfl,rfl⟩
end Go.Cm
end
section
namespace Go.Cm
open Go.Proofs
def aE (l:List Rat):List ND:=l.map bg
def am (p:List ND):List Rat:=p.map bu
def Sz (k:Nat) (p:List ND):Prop:=∀ x∈p,NOK x∧lq (bu x)≤k
theorem aG (l:List Rat):am (aE l)=l:=by
 simp only [am,aE,List.map_map]
 conv=>rhs;rw [← List.map_id l]
 exact List.map_congr_left fun x _=>aK x
theorem Sz.enc {k:Nat} {p:List ND} (h:Sz k p):aE (am p)=p:=by
 simp only [am,aE,List.map_map]
 conv=>rhs;rw [← List.map_id p]
 exact List.map_congr_left fun x hx=>(h x hx).1
theorem Sz.ex {k:Nat} {p:List ND} (h:Sz k p):∃ l,p=aE l∧∀ x∈l,lq x≤k:=by
 refine ⟨am p,h.enc.symm,fun x hx=> ?_⟩
 obtain ⟨y,hy,rfl⟩:=List.mem_map.1 hx
 exact (h y hy).2
theorem eG {k:Nat} {l:List Rat} (h:∀ x∈l,lq x≤k):Sz k (aE l):=by
 intro x hx
 obtain ⟨y,hy,rfl⟩:=List.mem_map.1 hx
 exact ⟨bQ y,by rw [aK];exact h y hy⟩
theorem Sz.mono {k m:Nat} {p:List ND} (h:Sz k p) (hm:k≤m):Sz m p:=fun x hx=>⟨(h x hx).1,Nat.le_trans (h x hx).2 hm⟩
theorem az (l:List Rat):(aE l).length=l.length:=by simp [aE]
theorem aI (p:List ND):(am p).length=p.length:=by simp [am]
def aP:List Rat→List Rat
 | []=> []
 |x::l=>match aP l with
  | []=>if x=0 then [] else [x]
  |y::m=>x::y::m
theorem nY (l:List Rat):aP (l++ [0])=aP l:=by
 induction l with
 |nil=>simp [aP]
 |cons x l ih=>simp only [List.cons_append,aP,ih]
theorem AF {l:List Rat} {x:Rat} (h:x≠0):aP (l++ [x])=l++ [x]:=by
 induction l with
 |nil=>simp [aP,h]
 |cons y l ih=>
  simp only [List.cons_append,aP,ih]
  cases hl:l++ [x] with
  |nil=>simp at hl
  |cons z m=>rfl
theorem ll {l:List Rat} (h:l≠ []) (h0:l.getLastD 0≠0):aP l=l:=by
 obtain ⟨m,x,rfl⟩:∃ m x,l=m++ [x]:=⟨l.dropLast,l.getLast h,(List.dropLast_concat_getLast h).symm⟩
 refine AF ?_
 simpa using h0
theorem lp {l:List Rat} (h:l≠ []) (h0:l.getLastD 0=0):aP l=aP l.dropLast:=by
 obtain ⟨m,x,rfl⟩:∃ m x,l=m++ [x]:=⟨l.dropLast,l.getLast h,(List.dropLast_concat_getLast h).symm⟩
 have:x=0:=by simpa using h0
 subst this
 rw [nY,List.dropLast_concat]
theorem sign_zero (q:Rat):bo q.num 0=0↔q=0:=by
 have:bo q.num 0=0↔q.num=0:=by
  have:=HP (a:=q.num) (b:=0)
  constructor
  ·intro h;exact Decidable.not_not.1 fun e=>(this.2 e) h
  ·intro h;exact Decidable.not_not.1 fun e=>(this.1 e) h
 rw [this,Rat.num_eq_zero]
theorem oh {l:List Rat} {k:Nat} (h:k<l.length):nth NT (aE l) (k:Int)=bg l[k]:=by
 rw [fi (t:=NT) (by rw [az];exact h)]
 simp [aE]
theorem xx {l:List Rat} (h:0<l.length):bu (nth NT (aE l) ((l.length:Int)-1))=l.getLastD 0:=by
 have e:(l.length:Int)-1=((l.length-1:Nat):Int):=by omega
 rw [e,oh (by omega),aK]
 rw [List.getLastD_eq_getLast?,List.getLast?_eq_getElem?,List.getElem?_eq_getElem (by omega)]
 rfl
theorem AG {l:List Rat}:(aE l).take (l.length-1)=aE l.dropLast:=by
 simp only [aE,← List.map_take,List.dropLast_eq_take]
theorem b7 {n:Nat} (h:n≤1000000000):IntKind.i64.wrap ((n:Int)-1)=(n:Int)-1:=wi (by omega) (by omega)
theorem s9 {l:List Rat} (hl:l.length≤1000000000):(decide ((0:Int)<((aE l).length:Int))=true→decide ((0:Int)<((aE l).length:Int))=true∧NOK (nth NT (aE l) (IntKind.i64.wrap (((aE l).length:Int)-1))))∧
  (decide ((0:Int)<((aE l).length:Int))=true→decide ((0:Int)<((aE l).length:Int))=true∧0≤IntKind.i64.wrap (((aE l).length:Int)-1)∧IntKind.i64.wrap (((aE l).length:Int)-1)<((aE l).length:Int)):=by
 rw [az,b7 hl]
 constructor
 ·intro h
  have h1:=of_decide_eq_true h
  have e:(l.length:Int)-1=((l.length-1:Nat):Int):=by omega
  exact ⟨h,by rw [e,oh (by omega)];exact bQ _⟩
 ·intro h
  have h1:=of_decide_eq_true h
  exact ⟨h,by omega,by omega⟩
theorem HS {l:List Rat} (hl:l.length≤1000000000) (hb:(0:Int)<((aE l).length:Int)) (hc:bo (bu (nth NT (aE l) (IntKind.i64.wrap (((aE l).length:Int)-1)))).num 0=0):0<l.length∧l.getLastD 0=0:=by
 rw [az] at hb hc
 rw [b7 hl,xx (by omega),sign_zero] at hc
 exact ⟨by omega,hc⟩
theorem HT {l:List Rat} (hl:l.length≤1000000000) (hb:(0:Int)<((aE l).length:Int)→ ¬bo (bu (nth NT (aE l) (IntKind.i64.wrap (((aE l).length:Int)-1)))).num 0=0):aP l=l:=by
 rw [az] at hb
 by_cases h:l= []
 ·subst h;rfl
 ·have h1:=List.length_pos_iff.2 h
  have h2:=hb (by omega)
  rw [b7 hl,xx (by omega),sign_zero] at h2
  exact ll h h2
theorem td {l l0:List Rat} (hl:l.length≤1000000000) (g1:l.length≤l0.length) (g2:∀ x∈l,lq x≤QC) (g3:aP l=aP l0) (h:0<l.length∧l.getLastD 0=0):
  List.take (IntKind.i64.wrap (((aE l).length:Int)-1)).toNat (aE l)=aE l.dropLast∧l.dropLast.length≤l0.length∧(∀ x∈l.dropLast,lq x≤QC)∧aP l.dropLast=aP l0∧l.dropLast.length<l.length:=by
 rw [az,b7 hl,show ((l.length:Int)-1).toNat=l.length-1 by omega]
 refine ⟨AG,by rw [List.length_dropLast];omega,fun x hx=>g2 x (List.dropLast_subset _ hx),?_,by rw [List.length_dropLast];omega⟩
 rw [← g3,lp (List.length_pos_iff.1 h.1) h.2]
theorem Km {free fr:List Nat} (h:(free.all fun k=>fr.contains (k-ioB))=true):∀ k,ioB≤k→free.contains k=true→fr.contains (k-ioB)=true:=fun k _ hk=>
 List.all_eq_true.1 h k (by simpa using hk)
theorem HU {B:aj} {P:Program} {f:FuncId} {c:Con} {fr:List Nat} (h:Valid B P f c):Valid B P f c fr:=by
 intro args os C rs os' hc hC O w vals ρ0 hOn hIo hO hOI hargs hown hap
 refine (h args os C rs os' hc hC O w vals ρ0 hOn hIo hO hOI hargs hown hap).mono ?_
 rintro e w' ⟨vs,ρ1,h1,h2,h3,h4,h5⟩
 exact ⟨vs,ρ1,h1,h2,h3,fun k _=>h4 k (fun e=>by simp at e),h5⟩
def QH:Nat:=40000000000
def cf (l:List Rat) (i:Nat):Rat:=l.getD i 0
theorem fj {p:List ND} {k:Nat} {i:Nat} (h:Sz k p) (hi:i<p.length):nth NT p (i:Int)=bg (cf (am p) i):=by
 obtain ⟨l,rfl,hl⟩:=h.ex
 rw [az] at hi
 rw [oh hi,aG]
 unfold cf
 rw [List.getD_eq_getElem?_getD,List.getElem?_eq_getElem hi];rfl
theorem HV {p:List ND} {i:Nat} (hi: ¬i<p.length):cf (am p) i=0:=by
 unfold cf
 rw [List.getD_eq_getElem?_getD,List.getElem?_eq_none (by rw [aI];omega)];rfl
theorem g9:lq 0≤1:=by
 unfold lq
 rw [show (0:Rat).num=0 from rfl,show (0:Rat).den=1 from rfl,gj]
 show max 0 (lw 1)≤1
 rw [rl];decide
theorem Sz.cf {p:List ND} {k:Nat} (h:Sz k p) (hk:1≤k) (i:Nat):lq (cf (am p) i)≤k:=by
 by_cases hi:i<p.length
 ·have h1:=fj h hi
  have h2:=(h _ (fF (t:=NT) hi)).2
  rw [h1,aK] at h2;exact h2
 ·rw [HV hi];exact Nat.le_trans g9 hk
def bF (op:Rat→Rat→Rat) (l m:List Rat) (n:Nat):List Rat:=(List.range n).map fun i=>op (cf l i) (cf m i)
def bC (op:Rat→Rat→Rat) (l m:List Rat):List Rat:=aP (bF op l m (max l.length m.length))
theorem l9 (op:Rat→Rat→Rat) (l m:List Rat) (k:Nat):bF op l m (k+1)=bF op l m k++ [op (cf l k) (cf m k)]:=by
 unfold bF;rw [List.range_succ,List.map_append];rfl
theorem mO (l:List Rat) (x:Rat):aE (l++ [x])=aE l++ [bg x]:=by simp [aE]
theorem d7 (op:Rat→Rat→Rat) (l m:List Rat) (k:Nat):(bF op l m k).length=k:=by simp [bF]
def Kn (op:Rat→Rat→Rat):Prop:=∀ x y,lq (op x y)≤lq x+lq y+1
theorem xy:Kn (· + ·):=mM
theorem xz:Kn (· - ·):=LR
theorem u9 {op:Rat→Rat→Rat} (ht:Kn op) {p q:List ND} (hp:Sz QH p) (hq:Sz QH q) (n:Nat):Sz QC (aE (bF op (am p) (am q) n)):=by
 refine eG fun x hx=> ?_
 obtain ⟨i,_,rfl⟩:=List.mem_map.1 hx
 have h1:=ht (cf (am p) i) (cf (am q) i)
 have h2:=hp.cf (by unfold QH;omega) i
 have h3:=hq.cf (by unfold QH;omega) i
 unfold QH at h2 h3
 unfold QC;omega
theorem HW {p q:List ND} (hp:Sz QH p) (hq:Sz QH q) (i:Nat):fE (bg (cf (am p) i)) (bg (cf (am q) i)):=by
 refine ⟨bQ _,bQ _,?_⟩
 rw [aK,aK]
 have h2:=hp.cf (by unfold QH;omega) i
 have h3:=hq.cf (by unfold QH;omega) i
 unfold QH at h2 h3
 unfold QC;omega
theorem Lq:QH≤QC:=by unfold QH QC;omega
theorem Cc (p q:List ND) (hl:True):max ((p.length:Nat):Int) (q.length:Int)=((max p.length q.length:Nat):Int):=by omega
theorem te {p q:List ND} (hp:Sz QH p) (hq:Sz QH q) {k:Nat} (hk:k≤1000) (op:Rat→Rat→Rat):(Sz QC p∧(0:Int)≤(k:Int))∧(Sz QC q∧(0:Int)≤(k:Int))∧fE (bg (cf (am p) (k:Int).toNat)) (bg (cf (am q) (k:Int).toNat))∧Cm.Roomy 4 ((aE (bF op (am p) (am q) k)).length+1):=by
 rw [Int.toNat_natCast]
 exact ⟨⟨hp.mono Lq,by omega⟩,⟨hq.mono Lq,by omega⟩,HW hp hq k,rt (by rw [az,d7];omega)⟩
theorem ru {op:Rat→Rat→Rat} {p q:List ND} {k n:Nat} (h:k<n) (hn:n≤1000):∃ z:Nat,IntKind.i64.wrap ((k:Int)+1)=(z:Int)∧aE (bF op (am p) (am q) k)++ [bg (op (bu (bg (cf (am p) (k:Int).toNat))) (bu (bg (cf (am q) (k:Int).toNat))))]=aE (bF op (am p) (am q) z)∧z≤n∧n-z<n-k:=by
 refine ⟨k+1,by rw [wi (by omega) (by omega)];omega,?_,by omega,by omega⟩
 rw [Int.toNat_natCast,aK,aK,l9,mO]
theorem rx {op:Rat→Rat→Rat} (ht:Kn op) {p q:List ND} (hp:Sz QH p) (hq:Sz QH q) {k:Nat} (hk:k≤1000):Sz QC (aE (bF op (am p) (am q) k))∧(aE (bF op (am p) (am q) k)).length≤QL:=
 ⟨u9 ht hp hq k,by rw [az,d7];unfold QL;omega⟩
theorem xA {op:Rat→Rat→Rat} {p q:List ND} {k:Nat} (h1:k≤max p.length q.length) (h: ¬ (k:Int)<((max p.length q.length:Nat):Int)):aE (aP (am (aE (bF op (am p) (am q) k))))=aE (bC op (am p) (am q)):=by
 have e:k=max p.length q.length:=by omega
 unfold bC
 rw [aG,aI,aI,← e]
def QM:Nat:=400000000
def cl (out:List Rat) (i:Nat) (a:Rat) (q:List Rat):Nat→List Rat
 |0=>out
 |k+1=>(cl out i a q k).set (i+k) (cf (cl out i a q k) (i+k)+a*cf q k)
def mulN (p q:List Rat):Nat→List Rat
 |0=>List.replicate (p.length+q.length-1) 0
 |i+1=>cl (mulN p q i) i (cf p i) q q.length
def cw (p q:List Rat):List Rat:=if p= []∨q= [] then [] else mulN p q p.length
theorem gE (out:List Rat) (i:Nat) (a:Rat) (q:List Rat) (k:Nat):(cl out i a q k).length=out.length:=by
 induction k with
 |zero=>rfl
 |succ k ih=>rw [cl,List.length_set,ih]
theorem dy (p q:List Rat) (i:Nat):(mulN p q i).length=p.length+q.length-1:=by
 induction i with
 |zero=>simp [mulN]
 |succ i ih=>rw [mulN,gE,ih]
theorem HY (l:List Rat) (i j:Nat) (x:Rat):cf (l.set i x) j=if i=j∧i<l.length then x else cf l j:=by
 unfold cf
 simp only [List.getD_eq_getElem?_getD,List.getElem?_set]
 by_cases h:i=j
 ·subst h
  by_cases h2:i<l.length
  ·simp [h2]
  ·simp [h2,List.getElem?_eq_none (by omega:l.length≤i)]
 ·simp [h]
theorem ry {l:List Rat} {i:Nat} (h:i<l.length):cf l i∈l:=by
 unfold cf
 rw [List.getD_eq_getElem?_getD,List.getElem?_eq_getElem h]
 exact List.getElem_mem h
theorem jp {l:List Rat} {k:Nat} (h:∀ x∈l,lq x≤k) (hk:1≤k) (i:Nat):lq (cf l i)≤k:=by
 by_cases hi:i<l.length
 ·exact h _ (ry hi)
 ·unfold cf
  rw [List.getD_eq_getElem?_getD,List.getElem?_eq_none (by omega)]
  exact Nat.le_trans g9 hk
theorem L0 {l:List Rat} {k:Nat} (h:∀ i,i<l.length→lq (cf l i)≤k):∀ x∈l,lq x≤k:=by
 intro x hx
 obtain ⟨i,hi,rfl⟩:=List.getElem_of_mem hx
 have:=h i hi
 unfold cf at this
 rw [List.getD_eq_getElem?_getD,List.getElem?_eq_getElem hi] at this
 exact this
theorem jc (out:List Rat) (i:Nat) (a:Rat) (q:List Rat) (k n:Nat) (hl:i+k≤out.length):cf (cl out i a q k) n=if i≤n∧n<i+k then cf out n+a*cf q (n-i) else cf out n:=by
 induction k with
 |zero=>simp [cl];intro h1 h2;omega
 |succ k ih=>
  have ih:=ih (by omega)
  rw [cl,HY,gE]
  by_cases h:i+k=n
  ·rw [if_pos ⟨h,by omega⟩]
   have e:cf (cl out i a q k) (i+k)=cf out (i+k):=by
    have h2:∀ n,n=i+k→cf (cl out i a q k) n=cf out n:=by
     intro n hn
     have:=ih
     clear this
     rw [show cf (cl out i a q k) n=cf (cl out i a q k) n from rfl]
     subst hn
     subst h
     rw [ih,if_neg (by omega)]
    exact h2 _ rfl
   rw [e,h,if_pos (by omega),show n-i=k by omega]
  ·rw [if_neg (by omega),ih]
   by_cases h2:i≤n∧n<i+k
   ·rw [if_pos h2,if_pos (by omega)]
   ·rw [if_neg h2,if_neg (by omega)]
theorem vc {out:List Rat} {i:Nat} {a:Rat} {q:List Rat} {k m K:Nat} (hl:i+k≤out.length) (h:∀ x∈out,lq x≤m) (hm:1≤m) (ha:lq a≤K) (hq:∀ n,lq (cf q n)≤K):∀ x∈cl out i a q k,lq x≤m+(2*K+1):=by
 refine L0 fun n hn=> ?_
 rw [jc _ _ _ _ _ _ hl]
 have h1:=jp h hm n
 split
 ·have h2:=mM (cf out n) (a*cf q (n-i))
  have h3:=lj a (cf q (n-i))
  have h4:=hq (n-i)
  omega
 ·omega
theorem HZ {p q:List Rat} {K:Nat} (hp:∀ n,lq (cf p n)≤K) (hq:∀ n,lq (cf q n)≤K):∀ i,i≤p.length→∀ x∈mulN p q i,lq x≤1+i*(2*K+1):=by
 intro i
 induction i with
 |zero=>
  intro _ x hx
  rw [mulN] at hx
  rw [(List.mem_replicate.1 hx).2];exact Nat.le_trans g9 (by omega)
 |succ i ih=>
  intro hi x hx
  rw [mulN] at hx
  by_cases hq0:q= []
  ·subst hq0
   have:=ih (by omega) x hx
   rw [Nat.succ_mul];omega
  ·have hql:=List.length_pos_iff.2 hq0
   have:=vc (by rw [dy];omega) (ih (by omega)) (by omega) (hp i) hq x hx
   rw [Nat.succ_mul];omega
end Go.Cm
end
section
namespace Go.Cm
open Go.Proofs
theorem xB (n:Nat) (x:Rat):aE (List.replicate n x)=List.replicate n (bg x):=by simp [aE]
theorem rz (l:List Rat) (i:Nat) (x:Rat):(aE l).set i (bg x)=aE (l.set i x):=by simp [aE,List.map_set]
theorem H0 {p q:List ND} (h:(((p.length:Int)==0)||((q.length:Int)==0))=false):0<p.length∧0<q.length:=by
 simp only [Bool.or_eq_false_iff,beq_eq_false_iff_ne] at h
 omega
theorem ES {p q:List ND} (h:(((p.length:Int)==0)||((q.length:Int)==0))=true): []=aE (cw (am p) (am q)):=by
 simp only [Bool.or_eq_true,beq_iff_eq] at h
 unfold cw
 rw [if_pos (h.imp (fun h=>List.eq_nil_of_length_eq_zero (by rw [aI];omega)) (fun h=>List.eq_nil_of_length_eq_zero (by rw [aI];omega)))]
 rfl
theorem tf {p q:List ND} (hl1:p.length≤100) (hl2:q.length≤100) (h:0<p.length∧0<q.length):IntKind.i64.wrap (IntKind.i64.wrap ((p.length:Int)+(q.length:Int))-1)=((p.length+q.length-1:Nat):Int):=by
 rw [wi (x:=(p.length:Int)+(q.length:Int)) (by omega) (by omega),wi (by omega) (by omega)];omega
theorem times_start (p q:List ND):List.replicate (p.length+q.length-1) (bg 0)=aE (mulN (am p) (am q) 0):=by
 rw [mulN,xB,aI,aI]
theorem mP {p q:List ND} (hp:Sz QM p) (hq:Sz QM q) (hl:p.length≤100) (h0:0<p.length∧0<q.length) {i k:Nat} (hi:i<p.length) (hk:k≤q.length):∀ x∈cl (mulN (am p) (am q) i) i (cf (am p) i) (am q) k,lq x≤81000000000:=by
 intro x hx
 have e:QM=400000000:=rfl
 have h1:=HZ (p:=am p) (q:=am q) (K:=QM) (fun n=>hp.cf (by omega) n) (fun n=>hq.cf (by omega) n) i (by rw [aI];omega)
 have h2:=vc (q:=am q) (k:=k) (by rw [dy,aI,aI];omega) h1 (by omega) (hp.cf (by omega) i) (fun n=>hq.cf (by omega) n) x hx
 have h3:i*(2*QM+1)≤99*(2*QM+1):=Nat.mul_le_mul_right _ (by omega)
 omega
theorem AH {p q:List ND} (hp:Sz QM p) (hq:Sz QM q) (hl:p.length≤100) (hl2:q.length≤100) (h0:0<p.length∧0<q.length) {i k:Nat} (hi:i<p.length) (hk:k<q.length):
  IntKind.i64.wrap ((i:Int)+(k:Int))=((i+k:Nat):Int)∧i+k<(aE (cl (mulN (am p) (am q) i) i (cf (am p) i) (am q) k)).length∧fE (bg (cf (am p) i)) (bg (cf (am q) k))∧
  fE (nth NT (aE (cl (mulN (am p) (am q) i) i (cf (am p) i) (am q) k)) ((i+k:Nat):Int)) (bg (cf (am p) i*cf (am q) k)):=by
 have hlen:(cl (mulN (am p) (am q) i) i (cf (am p) i) (am q) k).length=p.length+q.length-1:=by rw [gE,dy,aI,aI]
 have e:QM=400000000:=rfl
 have e2:QC=100000000000:=rfl
 have ha:=hp.cf (by omega) i
 have hb:=hq.cf (by omega) k
 have hm:=lj (cf (am p) i) (cf (am q) k)
 have hx:=mP hp hq hl h0 hi (Nat.le_of_lt hk) _ (ry (by rw [hlen];omega:i+k<(cl (mulN (am p) (am q) i) i (cf (am p) i) (am q) k).length))
 refine ⟨by rw [wi (by omega) (by omega)];omega,by rw [az,hlen];omega,⟨bQ _,bQ _,by rw [aK,aK];omega⟩,?_⟩
 have hn:nth NT (aE (cl (mulN (am p) (am q) i) i (cf (am p) i) (am q) k)) ((i+k:Nat):Int)=bg (cf (cl (mulN (am p) (am q) i) i (cf (am p) i) (am q) k) (i+k)):=by
  have:=fj (p:=aE (cl (mulN (am p) (am q) i) i (cf (am p) i) (am q) k)) (i:=i+k) (eG (mP hp hq hl h0 hi (Nat.le_of_lt hk))) (by rw [az,hlen];omega)
  rw [aG] at this;exact this
 rw [hn]
 exact ⟨bQ _,bQ _,by rw [aK,aK];omega⟩
theorem rA {p q:List ND} (hp:Sz QM p) (hq:Sz QM q) (hl:p.length≤100) (hl2:q.length≤100) (h0:0<p.length∧0<q.length) {i k:Nat} (hi:i<p.length) (hk:k<q.length):
  ∃ z:Nat,IntKind.i64.wrap ((k:Int)+1)=(z:Int)∧
   (aE (cl (mulN (am p) (am q) i) i (cf (am p) i) (am q) k)).set (i+k) (bg (bu (nth NT (aE (cl (mulN (am p) (am q) i) i (cf (am p) i) (am q) k)) ((i+k:Nat):Int))+cf (am p) i*cf (am q) k))=aE (cl (mulN (am p) (am q) i) i (cf (am p) i) (am q) z)∧z≤q.length∧q.length-z<q.length-k:=by
 have hlen:(cl (mulN (am p) (am q) i) i (cf (am p) i) (am q) k).length=p.length+q.length-1:=by rw [gE,dy,aI,aI]
 have hn:nth NT (aE (cl (mulN (am p) (am q) i) i (cf (am p) i) (am q) k)) ((i+k:Nat):Int)=bg (cf (cl (mulN (am p) (am q) i) i (cf (am p) i) (am q) k) (i+k)):=by
  have:=fj (p:=aE (cl (mulN (am p) (am q) i) i (cf (am p) i) (am q) k)) (i:=i+k) (eG (mP hp hq hl h0 hi (Nat.le_of_lt hk))) (by rw [az,hlen];omega)
  rw [aG] at this;exact this
 refine ⟨k+1,by rw [wi (by omega) (by omega)];omega,?_,by omega,by omega⟩
 rw [hn,aK,rz,cl]
theorem H1 (l:List Rat) (i:Nat):l.set i (cf l i)=l:=by
 apply List.ext_getElem?
 intro j
 rw [List.getElem?_set]
 by_cases h:i=j
 ·subst h
  rw [if_pos rfl]
  unfold cf
  by_cases h2:i<l.length
  ·rw [if_pos h2,List.getD_eq_getElem?_getD,List.getElem?_eq_getElem h2];rfl
  ·rw [if_neg h2,List.getElem?_eq_none (by omega)]
 ·rw [if_neg h]
theorem rB {p q:List ND} (hl2:q.length≤100) {i k:Nat} (hk:k<q.length) (hz:cf (am p) i*cf (am q) k=0):
  ∃ z:Nat,IntKind.i64.wrap ((k:Int)+1)=(z:Int)∧aE (cl (mulN (am p) (am q) i) i (cf (am p) i) (am q) k)=aE (cl (mulN (am p) (am q) i) i (cf (am p) i) (am q) z)∧z≤q.length∧q.length-z<q.length-k:=by
 refine ⟨k+1,by rw [wi (by omega) (by omega)];omega,?_,by omega,by omega⟩
 rw [cl,hz,Rat.add_zero,H1]
theorem rC {a b:Rat} (h:(bo a.num 0 !=0)=true→bo b.num 0=0):a*b=0:=by
 by_cases ha:a=0
 ·rw [ha,Rat.zero_mul]
 ·have h1:bo a.num 0≠0:=fun e=>ha ((sign_zero a).1 e)
  have:=h (by rw [bne_iff_ne];exact h1)
  rw [(sign_zero b).1 this,Rat.mul_zero]
theorem ET {p q:List ND} (hl:p.length≤100) {i k:Nat} (hi:i<p.length) (hk:k=q.length):∃ z:Nat,IntKind.i64.wrap ((i:Int)+1)=(z:Int)∧aE (cl (mulN (am p) (am q) i) i (cf (am p) i) (am q) k)=aE (mulN (am p) (am q) z)∧z≤p.length∧p.length-z<p.length-i:=by
 refine ⟨i+1,by rw [wi (by omega) (by omega)];omega,?_,by omega,by omega⟩
 rw [mulN,aI,hk]
theorem times_fin {p q:List ND} (h0:0<p.length∧0<q.length) {i:Nat} (hi:i=p.length):aE (mulN (am p) (am q) i)=aE (cw (am p) (am q)):=by
 unfold cw
 rw [if_neg,aI,hi]
 rintro (h|h)
 ·have:=congrArg List.length h;rw [aI,List.length_nil] at this;omega
 ·have:=congrArg List.length h;rw [aI,List.length_nil] at this;omega
theorem Ko {p q:List ND} (hl1:p.length≤100) (hl2:q.length≤100):(0:Int)≤((p.length+q.length-1:Nat):Int)∧((p.length+q.length-1:Nat):Int)≤1000:=by omega
end Go.Cm
end
section
namespace Go.Cm
open Go.Proofs
def aH (l:List Rat):Rat:=l.getLastD 0
def cH (l:List Rat):List Rat:=l.map fun c=>c/aH l
theorem bZ {l:List Rat} (h:0<l.length):aH l=cf l (l.length-1):=by
 unfold aH cf
 rw [List.getLastD_eq_getLast?,List.getLast?_eq_getElem?,List.getD_eq_getElem?_getD]
theorem xC {p:List ND} {k:Nat} (h:Sz k p) (hp:0<p.length) (hl:p.length≤1000000000):nth NT p (IntKind.i64.wrap ((p.length:Int)-1))=bg (aH (am p)):=by
 rw [b7 hl,show (p.length:Int)-1=((p.length-1:Nat):Int) by omega,fj h (by omega),bZ (by rw [aI];omega),aI]
theorem ol {p:List ND} {k:Nat} (h:Sz k p) (hk:1≤k) (hp:0<p.length):lq (aH (am p))≤k:=by
 rw [bZ (by rw [aI];omega)];exact h.cf hk _
def mQ (p:List ND):Prop:=Sz QH p∧p.length≤1000∧(p≠ []→aH (am p)≠0)
theorem H2 {p:List ND} (h:mQ p) {k:Nat} (hk:k<p.length):nth NT p (k:Int)=bg (cf (am p) k)∧nth NT p (IntKind.i64.wrap ((p.length:Int)-1))=bg (aH (am p))∧(0≤IntKind.i64.wrap ((p.length:Int)-1)∧IntKind.i64.wrap ((p.length:Int)-1)<(p.length:Int))∧
  fE (bg (cf (am p) k)) (bg (aH (am p)))∧aH (am p)≠0∧Cm.Roomy 4 ((aE ((am p).take k|>.map fun c=>c/aH (am p))).length+1):=by
 obtain ⟨h1,h2,h3⟩:=h
 have e:QH=40000000000:=rfl
 have e2:QC=100000000000:=rfl
 have h4:=h1.cf (by omega) k
 have h5:=ol h1 (by omega) (by omega)
 refine ⟨fj h1 hk,xC h1 (by omega) (by omega),by rw [b7 (by omega)];omega,⟨bQ _,bQ _,by rw [aK,aK];omega⟩,h3 (by intro e;rw [e] at hk;simp at hk),?_⟩
 refine rt ?_
 rw [az,List.length_map,List.length_take,aI];omega
theorem EU {p:List ND} (h:mQ p) {k:Nat} (hk:k<p.length):∃ z:Nat,IntKind.i64.wrap ((k:Int)+1)=(z:Int)∧aE ((am p).take k|>.map fun c=>c/aH (am p))++ [bg (cf (am p) k/aH (am p))]=aE ((am p).take z|>.map fun c=>c/aH (am p))∧z≤p.length∧p.length-z<p.length-k:=by
 have hl:=h.2.1
 refine ⟨k+1,by rw [wi (by omega) (by omega)];omega,?_,by omega,by omega⟩
 rw [← mO,List.take_succ_eq_append_getElem (by rw [aI];exact hk),List.map_append]
 congr 2
 unfold cf
 rw [List.getD_eq_getElem?_getD,List.getElem?_eq_getElem (by rw [aI];exact hk)];rfl
theorem Kq {p:List ND} {k:Nat} (hk:k=p.length):aE ((am p).take k|>.map fun c=>c/aH (am p))=aE (cH (am p)):=by
 rw [List.take_of_length_le (by rw [aI];omega)];rfl
def lu (l:List Rat) (n:Nat):List Rat:=(List.range (n-1)).map fun i=>cf l (i+1)*Rat.divInt ((i+1:Nat):Int) 1
def ci (l:List Rat):List Rat:=lu l l.length
theorem EV (l:List Rat) (k:Nat):lu l (k+1+1)=lu l (k+1)++ [cf l (k+1)*Rat.divInt ((k+1:Nat):Int) 1]:=by
 unfold lu
 rw [show k+1+1-1=k+1 by omega,show k+1-1=k by omega,List.range_succ,List.map_append];rfl
theorem L1 {n:Int} (h:I64 n):lq (Rat.divInt n 1)≤3:=by
 have:=mL n 1 (by decide)
 have h2:=Ay h
 rw [rl] at this
 omega
theorem H3 {p:List ND} (h1:Sz QH p) (hl:p.length≤1000) {k:Nat} (hk:k<p.length):(I64 (k:Int)∧I64 1∧(1:Int)≠0)∧nth NT p (k:Int)=bg (cf (am p) k)∧fE (bg (cf (am p) k)) (bg (Rat.divInt (k:Int) 1))∧Cm.Roomy 4 ((aE (lu (am p) k)).length+1):=by
 have hi:I64 (k:Int):=by unfold I64;omega
 have e:QH=40000000000:=rfl
 have e2:QC=100000000000:=rfl
 have h4:=h1.cf (by omega) k
 have h5:=L1 hi
 refine ⟨⟨hi,by unfold I64;omega,by decide⟩,fj h1 hk,⟨bQ _,bQ _,by rw [aK,aK];omega⟩,rt ?_⟩
 rw [az];simp [lu];omega
theorem th {p:List ND} (hl:p.length≤1000) {k:Nat} (hk:k<p.length) (h0:0<k):∃ z:Nat,IntKind.i64.wrap ((k:Int)+1)=(z:Int)∧aE (lu (am p) k)++ [bg (cf (am p) k*Rat.divInt (k:Int) 1)]=aE (lu (am p) z)∧z≤p.length∧p.length-z<p.length-k:=by
 refine ⟨k+1,by rw [wi (by omega) (by omega)];omega,?_,by omega,by omega⟩
 obtain ⟨j,rfl⟩:∃ j,k=j+1:=⟨k-1,by omega⟩
 rw [EV,mO]
theorem xD {p:List ND} (hl:p.length≤1000) {k:Nat} (hk:k<p.length) (h0:k=0):∃ z:Nat,IntKind.i64.wrap ((k:Int)+1)=(z:Int)∧aE (lu (am p) k)=aE (lu (am p) z)∧z≤p.length∧p.length-z<p.length-k:=by
 subst h0
 exact ⟨1,by rw [wi (by omega) (by omega)];omega,rfl,by omega,by omega⟩
def aO (l:List Rat) (x:Rat):Rat:=l.foldr (fun c v=>v*x+c) 0
theorem Cd {l:List Rat} {x:Rat} {K:Nat} (hl:∀ c∈l,lq c≤K) (hx:lq x≤K):lq (aO l x)≤1+l.length*(2*K+1):=by
 induction l with
 |nil=>exact Nat.le_trans g9 (by omega)
 |cons c l ih=>
  have h1:=ih (fun d hd=>hl d (List.mem_cons_of_mem _ hd))
  have h2:=hl c (List.mem_cons_self ..)
  have e:aO (c::l) x=aO l x*x+c:=rfl
  have h3:=mM (aO l x*x) c
  have h4:=lj (aO l x) x
  rw [e,List.length_cons,Nat.succ_mul]
  omega
def QD:Nat:=10000000000
def ce (q r:List Rat):List Rat:=cl r (r.length-q.length) (-(aH r/aH q)) q q.length
def em (q:List Rat):Nat→List Rat→List Rat→List Rat×List Rat
 |0,r,s=>(s,r)
 |n+1,r,s=>if q.length≤r.length then em q n (aP (ce q r)) (s.set (r.length-q.length) (aH r/aH q)) else (s,r)
def divN (p q:List Rat):List Rat×List Rat:=em q (p.length+1) p (List.replicate (p.length+1-q.length) 0)
def rD (q:List Rat):Nat→List Rat→Prop
 |0,_=>True
 |n+1,r=>(∀ x∈r,lq x≤QD)∧(q.length≤r.length→rD q n (aP (ce q r)))
structure eO (p q:List ND):Prop where
 hp:∀ x∈p,NOK x
 hq:Sz QD q
 l1:p.length≤900
 l2:q.length≤900
 h0:0<q.length
 hl:aH (am q)≠0
 safe:rD (am q) (p.length+1) (am p)
end Go.Cm
end
section
namespace Go.Cm
open Go.Proofs
theorem dD (l:List Rat):(aP l).length≤l.length:=by
 induction l with
 |nil=>simp [aP]
 |cons x l ih=>
  simp only [aP]
  split
  ·split<;>simp
  ·rename_i y m h
   rw [h] at ih
   simp only [List.length_cons] at ih ⊢
   omega
theorem nL {l:List Rat} (h:0<l.length) (h0:aH l=0):(aP l).length<l.length:=by
 rw [lp (List.length_pos_iff.1 h) h0]
 have:=dD l.dropLast
 rw [List.length_dropLast] at this
 omega
theorem d8 (q r:List Rat):(ce q r).length=r.length:=gE _ _ _ _ _
theorem ve {q r:List Rat} (hq:0<q.length) (h:q.length≤r.length) (h0:aH q≠0):aH (ce q r)=0:=by
 rw [bZ (by rw [d8];omega),d8]
 unfold ce
 rw [jc _ _ _ _ _ _ (by omega),if_pos (by omega),show r.length-1-(r.length-q.length)=q.length-1 by omega,← bZ hq,← bZ (by omega)]
 grind
theorem eH {q r:List Rat} (hq:0<q.length) (h:q.length≤r.length) (h0:aH q≠0):(aP (ce q r)).length<r.length:=by
 have:=nL (l:=ce q r) (by rw [d8];omega) (ve hq h h0)
 rwa [d8] at this
structure DivPhi (p q:List ND) (n:Nat) (r s:List Rat):Prop where
 eq:em (am q) n r s=divN (am p) (am q)
 fuel:r.length<n
 safe:rD (am q) n r
 lr:r.length≤p.length
 ls:s.length=p.length+1-q.length
theorem div_start {p q:List ND} (h:eO p q):DivPhi p q (p.length+1) (am p) (List.replicate (p.length+1-q.length) 0):=by
 refine ⟨?_,by rw [aI];omega,h.safe,by rw [aI];exact Nat.le_refl _,by simp⟩
 unfold divN
 rw [aI,aI]
theorem eO.enc {p q:List ND} (h:eO p q):aE (am p)=p:=by
 simp only [am,aE,List.map_map]
 conv=>rhs;rw [← List.map_id p]
 exact List.map_congr_left fun x hx=>h.hp x hx
theorem DivPhi.bound {p q:List ND} {n:Nat} {r s:List Rat} (h:DivPhi p q n r s):∀ x∈r,lq x≤QD:=by
 have h1:=h.safe
 have h2:=h.fuel
 match n,h1 with
 |n+1,h1=>exact h1.1
theorem div_next {p q:List ND} {n:Nat} {r s:List Rat} (ho:eO p q) (h:DivPhi p q n r s) (hl:q.length≤r.length):
  ∃ m,DivPhi p q m (aP (ce (am q) r)) (s.set (r.length-q.length) (aH r/aH (am q))):=by
 have h2:=h.fuel
 have h1:=h.safe
 have he:=h.eq
 have hs:=eH (q:=am q) (r:=r) (by rw [aI];exact ho.h0) (by rw [aI];exact hl) ho.hl
 match n,h1,he,h2 with
 |n+1,h1,he,h2=>
  rw [em,if_pos (by rw [aI];exact hl),aI] at he
  exact ⟨n,he,by omega,h1.2 (by rw [aI];exact hl),by have:=h.lr;omega,by rw [List.length_set];exact h.ls⟩
theorem div_end {p q:List ND} {n:Nat} {r s:List Rat} (h:DivPhi p q n r s) (hl: ¬q.length≤r.length):(s,r)=divN (am p) (am q):=by
 have h2:=h.fuel
 have he:=h.eq
 match n,he,h2 with
 |n+1,he,h2=>
  rw [em,if_neg (by rw [aI];exact hl)] at he
  exact he
theorem AJ {l:List Rat} {k:Nat} (hk:k<l.length):nth NT (aE l) (k:Int)=bg (cf l k):=by
 rw [oh hk]
 unfold cf
 rw [List.getD_eq_getElem?_getD,List.getElem?_eq_getElem hk];rfl
theorem Kr {l:List Rat} (h:0<l.length) (hl:l.length≤1000000000):nth NT (aE l) (IntKind.i64.wrap (((aE l).length:Int)-1))=bg (aH l):=by
 rw [az,b7 hl,show (l.length:Int)-1=((l.length-1:Nat):Int) by omega,AJ (by omega),← bZ h]
theorem MI {p q:List ND} {n:Nat} {r s:List Rat} (ho:eO p q) (h:DivPhi p q n r s) (hl:q.length≤r.length):IntKind.i64.wrap (((aE r).length:Int)-(q.length:Int))=((r.length-q.length:Nat):Int):=by
 have h1:=h.lr;have h2:=ho.l1
 rw [az,wi (by omega) (by omega)];omega
theorem MJ {p q:List ND} {n:Nat} {r s:List Rat} (ho:eO p q) (h:DivPhi p q n r s) (hl:q.length≤r.length):
  (0≤IntKind.i64.wrap (((aE r).length:Int)-1)∧IntKind.i64.wrap (((aE r).length:Int)-1)<((aE r).length:Int))∧(IntKind.i64.wrap (((aE r).length:Int)-1)).toNat<(aE r).length∧
  (0≤IntKind.i64.wrap ((q.length:Int)-1)∧IntKind.i64.wrap ((q.length:Int)-1)<(q.length:Int))∧nth NT (aE r) (IntKind.i64.wrap (((aE r).length:Int)-1))=bg (aH r)∧nth NT q (IntKind.i64.wrap ((q.length:Int)-1))=bg (aH (am q))∧
  fE (bg (aH r)) (bg (aH (am q))):=by
 have h1:=h.lr;have h2:=ho.l1;have h3:=ho.h0;have h4:=ho.l2
 have e:QD=10000000000:=rfl
 have e2:QC=100000000000:=rfl
 have hb:=jp h.bound (by omega) (r.length-1)
 rw [← bZ (by omega)] at hb
 have hc:=ol ho.hq (by omega) h3
 have hw:IntKind.i64.wrap (((aE r).length:Int)-1)=(r.length:Int)-1:=by rw [az,b7 (by omega)]
 refine ⟨by rw [hw,az];omega,by rw [hw,az];omega,by rw [b7 (by omega)];omega,Kr (by omega) (by omega),xC ho.hq h3 (by omega),bQ _,bQ _,?_⟩
 rw [aK,aK];omega
theorem H4 {p q:List ND} {n:Nat} {r s:List Rat} (ho:eO p q) (h:DivPhi p q n r s) (hl:q.length≤r.length) {i:Nat} (hi:i<q.length):
  IntKind.i64.wrap (((r.length-q.length:Nat):Int)+(i:Int))=((r.length-q.length+i:Nat):Int)∧r.length-q.length+i<(aE (cl r (r.length-q.length) (-(aH r/aH (am q))) (am q) i)).length∧nth NT q (i:Int)=bg (cf (am q) i)∧
  nth NT (aE (cl r (r.length-q.length) (-(aH r/aH (am q))) (am q) i)) ((r.length-q.length+i:Nat):Int)=bg (cf (cl r (r.length-q.length) (-(aH r/aH (am q))) (am q) i) (r.length-q.length+i))∧
  fE (bg (aH r/aH (am q))) (bg (cf (am q) i))∧fE (bg (cf (cl r (r.length-q.length) (-(aH r/aH (am q))) (am q) i) (r.length-q.length+i))) (bg (aH r/aH (am q)*cf (am q) i)):=by
 have h1:=h.lr;have h2:=ho.l1;have h3:=ho.h0;have h4:=ho.l2
 have e:QD=10000000000:=rfl
 have e2:QC=100000000000:=rfl
 have hb:=jp h.bound (by omega) (r.length-1)
 rw [← bZ (by omega)] at hb
 have hc:=ol ho.hq (by omega) h3
 have hd:=uY (aH r) (aH (am q))
 have hqi:=ho.hq.cf (by omega) i
 have hm:=lj (aH r/aH (am q)) (cf (am q) i)
 have hrow:=vc (out:=r) (i:=r.length-q.length) (a:= -(aH r/aH (am q))) (q:=am q) (k:=i) (m:=QD) (K:=2*QD) (by omega) h.bound (by omega) (by rw [uX];omega) (fun n=>Nat.le_trans (ho.hq.cf (by omega) n) (by omega))
 have hlen:(cl r (r.length-q.length) (-(aH r/aH (am q))) (am q) i).length=r.length:=gE _ _ _ _ _
 have hcur:lq (cf (cl r (r.length-q.length) (-(aH r/aH (am q))) (am q) i) (r.length-q.length+i))≤QD:=by
  rw [jc _ _ _ _ _ _ (by omega),if_neg (by omega)]
  exact jp h.bound (by omega) _
 refine ⟨by rw [wi (by omega) (by omega)];omega,by rw [az,hlen];omega,fj ho.hq hi,AJ (by rw [hlen];omega),⟨bQ _,bQ _,by rw [aK,aK];omega⟩,bQ _,bQ _,by rw [aK,aK];omega⟩
theorem Ks (r:List Rat) (k:Nat) (c:Rat) (q:List Rat) (i:Nat):(aE (cl r k (-c) q i)).set (k+i) (bg (cf (cl r k (-c) q i) (k+i)-c*cf q i))=aE (cl r k (-c) q (i+1)):=by
 rw [rz,cl,Rat.sub_eq_add_neg,Rat.neg_mul]
theorem H5 {p q:List ND} {n:Nat} {r s:List Rat} (ho:eO p q) (h:DivPhi p q n r s) (hl:q.length≤r.length):Sz QC (aE (ce (am q) r))∧(aE (ce (am q) r)).length≤QL:=by
 have h1:=h.lr;have h2:=ho.l1;have h3:=ho.h0;have h4:=ho.l2
 have e:QD=10000000000:=rfl
 have e2:QC=100000000000:=rfl
 have hb:=jp h.bound (by omega) (r.length-1)
 rw [← bZ (by omega)] at hb
 have hc:=ol ho.hq (by omega) h3
 have hd:=uY (aH r) (aH (am q))
 refine ⟨eG fun x hx=> ?_,by rw [az,d8];unfold QL;omega⟩
 have hrow:=vc (out:=r) (i:=r.length-(am q).length) (a:= -(aH r/aH (am q))) (q:=am q) (k:=(am q).length) (m:=QD) (K:=2*QD) (by rw [aI];omega) h.bound (by omega) (by rw [uX];omega) (fun n=>Nat.le_trans (ho.hq.cf (by omega) n) (by omega)) x hx
 omega
theorem H6 {p q:List ND} {n:Nat} {r s:List Rat} (ho:eO p q) (h:DivPhi p q n r s) (hl:q.length≤r.length):
  IntKind.i64.wrap (((aE r).length:Int)-1)=((r.length-1:Nat):Int)∧IntKind.i64.wrap ((q.length:Int)-1)=((q.length-1:Nat):Int)∧nth NT (aE r) ((r.length-1:Nat):Int)=bg (aH r)∧nth NT q ((q.length-1:Nat):Int)=bg (aH (am q))∧fE (bg (aH r)) (bg (aH (am q))):=by
 have h1:=h.lr;have h2:=ho.l1;have h3:=ho.h0;have h4:=ho.l2
 obtain ⟨_,_,_,_,_,h5⟩:=MJ ho h hl
 refine ⟨by rw [az,b7 (by omega)];omega,by rw [b7 (by omega)];omega,?_,?_,h5⟩
 ·rw [AJ (by omega),← bZ (by omega)]
 ·rw [fj ho.hq (by omega),bZ (by rw [aI];omega),aI]
theorem L2 {p q:List ND} (ho:eO p q):max 0 (IntKind.i64.wrap (IntKind.i64.wrap ((p.length:Int)-(q.length:Int))+1))=((p.length+1-q.length:Nat):Int)∧(0:Int)≤((p.length+1-q.length:Nat):Int)∧((p.length+1-q.length:Nat):Int)≤1000:=by
 have h2:=ho.l1;have h4:=ho.l2
 rw [wi (x:=(p.length:Int)-(q.length:Int)) (by omega) (by omega),wi (by omega) (by omega)]
 omega
theorem vf {p q:List ND} {n:Nat} {r s:List Rat} (ho:eO p q) (h:DivPhi p q n r s) (hl:q.length≤r.length):(0:Int)≤((r.length-q.length:Nat):Int)∧((r.length-q.length:Nat):Int)<((aE s).length:Int)∧r.length-q.length<(aE s).length:=by
 have h1:=h.lr;have h2:=h.ls
 rw [az,h2];omega
theorem EW {p q:List ND} {n:Nat} {r s:List Rat} (ho:eO p q) (h:DivPhi p q n r s) (hl:q.length≤r.length):((0:Int)≤((r.length-1:Nat):Int)∧((r.length-1:Nat):Int)<((aE r).length:Int))∧r.length-1<(aE r).length∧((0:Int)≤((q.length-1:Nat):Int)∧((q.length-1:Nat):Int)<(q.length:Int))∧fE (bg (aH r)) (bg (aH (am q)))∧bu (bg (aH (am q)))≠0:=by
 have h3:=ho.h0
 obtain ⟨_,_,_,_,h5⟩:=H6 ho h hl
 rw [az,aK]
 exact ⟨by omega,by omega,by omega,h5,ho.hl⟩
theorem EX {p q:List ND} {n:Nat} {r s:List Rat} (ho:eO p q) (h:DivPhi p q n r s) (hl:q.length≤r.length) {i:Nat} (hi:i<q.length):((0:Int)≤((r.length-q.length+i:Nat):Int)∧((r.length-q.length+i:Nat):Int)<((aE (cl r (r.length-q.length) (-(aH r/aH (am q))) (am q) i)).length:Int))∧r.length-q.length+i<(aE (cl r (r.length-q.length) (-(aH r/aH (am q))) (am q) i)).length∧
  fE (bg (aH r/aH (am q))) (bg (cf (am q) i))∧fE (bg (cf (cl r (r.length-q.length) (-(aH r/aH (am q))) (am q) i) (r.length-q.length+i))) (bg (aH r/aH (am q)*cf (am q) i))∧((0:Int)≤((r.length-q.length+i:Nat):Int)∧((r.length-q.length+i:Nat):Int)<((aE (cl r (r.length-q.length) (-(aH r/aH (am q))) (am q) i)).length:Int))∧r.length-q.length+i<(aE (cl r (r.length-q.length) (-(aH r/aH (am q))) (am q) i)).length:=by
 obtain ⟨_,h2,_,_,h5,h6⟩:=H4 ho h hl hi
 exact ⟨⟨by omega,by omega⟩,h2,h5,h6,⟨by omega,by omega⟩,h2⟩
theorem H7 {p q:List ND} {n:Nat} {r s:List Rat} (ho:eO p q) {i:Nat} (hi:i<q.length):∃ z:Nat,IntKind.i64.wrap ((i:Int)+1)=(z:Int)∧aE (cl r (r.length-q.length) (-(aH r/aH (am q))) (am q) (i+1))=aE (cl r (r.length-q.length) (-(aH r/aH (am q))) (am q) z)∧z≤q.length∧q.length-z<q.length-i:=by
 have h4:=ho.l2
 exact ⟨i+1,by rw [wi (by omega) (by omega)];omega,rfl,by omega,by omega⟩
theorem Ce {p q:List ND} {n:Nat} {r s:List Rat} {i:Nat} (hi:i=q.length):cl r (r.length-q.length) (-(aH r/aH (am q))) (am q) i=ce (am q) r:=by
 unfold ce;rw [aI,hi]
end Go.Cm
end
section
namespace Go.Cm
open Go.Proofs
def dM:Nat→List Rat→List Rat→List Rat
 |0,p,_=>cH p
 |n+1,p,q=>if q= [] then cH p else dM n q (cH (divN p q).2)
def cm (p q:List Rat):List Rat:=dM (q.length+1) p q
def Trm (l:List Rat):Prop:=l≠ []→aH l≠0
def rE:Nat→List Rat→List Rat→Prop
 |0,_,_=>True
 |n+1,p,q=>if q= [] then ∀ x∈p,lq x≤QH else rD q (p.length+1) p∧(∀ x∈q,lq x≤QD)∧(∀ x∈(divN p q).2,lq x≤QH)∧rE n q (cH (divN p q).2)
theorem gF:∀ l:List Rat,Trm (aP l)
 | []=>fun h=>absurd rfl h
 |x::l=>by
  intro h
  have ih:=gF l
  simp only [aP] at h ⊢
  split
  ·rename_i hl
   rw [hl] at h
   split
   ·rename_i hx;simp only [hx,if_true,ne_eq,not_true] at h
   ·rename_i hx;simpa [aH] using hx
  ·rename_i y m hl
   rw [hl] at ih
   have:=ih (by simp)
   simpa [aH] using this
theorem rF (q:List Rat):∀ (n:Nat) (r s:List Rat),Trm r→Trm (em q n r s).2
 |0,r,s,h=>h
 |n+1,r,s,h=>by
  rw [em]
  split
  ·exact rF q n _ _ (gF _)
  ·exact h
theorem fG {p q:List Rat} (h:Trm p):Trm (divN p q).2:=rF _ _ _ _ h
theorem nM {q:List Rat} (hq:0<q.length) (h0:aH q≠0):∀ (n:Nat) (r s:List Rat),r.length<n→(em q n r s).2.length<q.length
 |0,r,s,h=>absurd h (by omega)
 |n+1,r,s,h=>by
  rw [em]
  split
  ·rename_i hl
   have:=eH hq hl h0
   exact nM hq h0 n _ _ (by omega)
  ·rename_i hl;simp only;omega
theorem d9 {p q:List Rat} (hq:0<q.length) (h0:aH q≠0):(divN p q).2.length<q.length:=nM hq h0 _ _ _ (Nat.lt_succ_self _)
theorem bX (l:List Rat):(cH l).length=l.length:=by simp [cH]
theorem AK {l:List Rat} (h:0<l.length):aH (cH l)=aH l/aH l:=by
 rw [bZ (by rw [bX];exact h),bX]
 conv=>rhs;arg 1;rw [bZ h]
 unfold cH cf
 simp only [List.getD_eq_getElem?_getD,List.getElem?_map]
 rw [List.getElem?_eq_getElem (by omega)]
 rfl
theorem gw {l:List Rat} (h:Trm l):Trm (cH l):=by
 intro hne
 have hl:0<l.length:=by rw [← bX];exact List.length_pos_iff.2 hne
 have h1:=h (List.length_pos_iff.1 hl)
 rw [AK hl]
 grind
structure hZ (p q:List ND):Prop where
 hp:∀ x∈p,NOK x
 hq:∀ x∈q,NOK x
 l1:p.length≤900
 l2:q.length≤900
 tp:Trm (am p)
 tq:Trm (am q)
 safe:rE (q.length+1) (am p) (am q)
structure rG (p q:List ND) (n:Nat) (a b:List Rat):Prop where
 eq:dM n a b=cm (am p) (am q)
 fuel:b.length<n
 safe:rE n a b
 ta:Trm a
 tb:Trm b
 la:a.length≤900
 lb:b.length≤900
theorem vg {p:List ND} (h:∀ x∈p,NOK x):aE (am p)=p:=by
 simp only [am,aE,List.map_map]
 conv=>rhs;rw [← List.map_id p]
 exact List.map_congr_left fun x hx=>h x hx
theorem EY {p q:List ND} (h:hZ p q):rG p q (q.length+1) (am p) (am q):=by
 refine ⟨?_,by rw [aI];omega,h.safe,h.tp,h.tq,by rw [aI];exact h.l1,by rw [aI];exact h.l2⟩
 unfold cm
 rw [aI]
theorem gk (l:List Rat):∀ x∈aE l,NOK x:=by
 intro x hx
 obtain ⟨y,_,rfl⟩:=List.mem_map.1 hx
 exact bQ y
theorem H8 {p q:List ND} {n:Nat} {a b:List Rat} (h:rG p q n a b) (hb:0<b.length):
  eO (aE a) (aE b)∧mQ (aE (divN a b).2)∧(∃ m,rG p q m b (cH (divN a b).2))∧(cH (divN a b).2).length<b.length:=by
 have hbn:=List.length_pos_iff.1 hb
 have h1:=h.safe;have h2:=h.eq;have h3:=h.fuel
 have hl:=h.tb hbn
 have hs:=d9 (p:=a) hb hl
 match n,h1,h2,h3 with
 |n+1,h1,h2,h3=>
  rw [rE,if_neg hbn] at h1
  rw [dM,if_neg hbn] at h2
  obtain ⟨s1,s2,s3,s4⟩:=h1
  have hlb:=h.lb
  refine ⟨⟨gk _,eG s2,by rw [az];exact h.la,by rw [az];exact h.lb,by rw [az];exact hb,by rw [aG];exact hl,by rw [aG,aG,az];exact s1⟩,
   ⟨eG s3,by rw [az];omega,fun hne=> ?_⟩,⟨n,h2,by rw [bX];omega,s4,h.tb,gw (fG h.ta),h.lb,by rw [bX];omega⟩,by rw [bX];exact hs⟩
  rw [aG]
  exact fG h.ta (fun e=>hne (by rw [e];rfl))
theorem Kt {p q:List ND} {n:Nat} {a b:List Rat} (h:rG p q n a b) (hb: ¬0<b.length):mQ (aE a)∧cH a=cm (am p) (am q):=by
 have hbn:b= []:=List.eq_nil_of_length_eq_zero (by omega)
 have h1:=h.safe;have h2:=h.eq;have h3:=h.fuel
 match n,h1,h2,h3 with
 |n+1,h1,h2,h3=>
  rw [rE,if_pos hbn] at h1
  rw [dM,if_pos hbn] at h2
  have hla:=h.la
  refine ⟨⟨eG h1,by rw [az];omega,fun hne=> ?_⟩,h2⟩
  rw [aG]
  exact h.ta (fun e=>hne (by rw [e];rfl))
def cg (l:List Rat):List Rat:=if l= [] then [] else cH (divN l (cm l (ci l))).1
def kP (p:List ND):Prop:=p≠ []→Sz QH p∧p.length≤900∧hZ p (aE (ci (am p)))∧eO p (aE (cm (am p) (ci (am p))))∧mQ (aE (divN (am p) (cm (am p) (ci (am p)))).1)
end Go.Cm
end
section
namespace Go.Cm
open Go Go.RowKit
theorem sr {P:Program} (w:World) (dT sT ty elem:TypeId) (g o dLen dCap:Nat) (a:Addr) (sLen sCap:Nat) (cur:Array Value) (t:TypeId) (cs:List Value) (size n:Nat)
  (hu:P.underlying dT=some (.slice elem)) (hs:(P.info? elem).map (·.size)=some size)
  (hg:w.heap[g]? =some (.cells cur t (0,0))) (hn:n=Nat.min sLen dLen) (hl0:cs.length=n*size)
  (hsrc:∀ j v,cs[j]? =some v→w.cell? (a.add j)=some v) (hfit:o+cs.length≤cur.size) (h1:∀ v∈cs,v.oneCell'=true):
  (Builtin.copy_ #[dT,sT] ty #[.slice (some ⟨g,o,none⟩) dLen dCap, .slice (some a) sLen sCap]).run P w=
   .ok (goInt n) (w.setRow g (cur.toList.take o++cs++cur.toList.drop (o+cs.length)).toArray):=by
 have hl:=run_loadCells_list (P:=P) w a cs hsrc
 rw [hl0] at hl
 have hst:=run_storeCells_at P g o t cs 0 cur w hg (by simpa using hfit) h1
 cases hq:P.info? elem with
 |none=>simp [hq] at hs
 |some i=>
  have hi:i.size=size:=by simpa [hq] using hs
  simp [Builtin.copy_,run_underlying hu,Builtin.lenOf,Builtin.firstCells,sizeOf,typeInfo,hq,hi,← hn,hl,hst]
theorem rH {P:Program} (w:World) (dT sT ty elem:TypeId) (d a:Option Addr) (dLen dCap sLen sCap:Nat) (size:Nat) (hu:P.underlying dT=some (.slice elem)) (hs:(P.info? elem).map (·.size)=some size) (hn:Nat.min sLen dLen=0):
  (Builtin.copy_ #[dT,sT] ty #[.slice d dLen dCap, .slice a sLen sCap]).run P w= .ok (goInt 0) w:=by
 cases hq:P.info? elem with
 |none=>simp [hq] at hs
 |some i=>
  have hl:∀ (x:Addr),(loadCells x 0).run P w= .ok #[] w:=fun x=>by simpa using run_loadCells_list (P:=P) w x [] (by simp)
  cases d<;>cases a<;>simp [Builtin.copy_,run_underlying hu,Builtin.lenOf,Builtin.firstCells,sizeOf,typeInfo,hq,hn,storeCells,hl]
theorem ti {P:Program} {w:World} (dT sT ty elem:TypeId) (size:Nat) (hu:P.underlying dT=some (.slice elem)) (hsz:(P.info? elem).map (·.size)=some size)
  (dp sp:Option Addr) (dLen dCap sLen sCap n:Nat) (g off:Nat) (cur:List Value) (t:TypeId) (hg:w.heap[g]? =some (.cells cur.toArray t (0,0))) (cs:List Value) (hn:n=Nat.min sLen dLen) (hl:cs.length=n*size)
  (hpos:0<n→dp=some ⟨g,off,none⟩∧∃ ad,sp=some ad∧∀ j v,cs[j]? =some v→w.cell? (ad.add j)=some v)
  (hfit:off+cs.length≤cur.length) (h1:∀ v∈cs,v.oneCell'=true) (B:Nat) (w0:World) (hb:Below B w0 w) (hBg:B≤g):
  ∃ w',(Builtin.copy_ #[dT,sT] ty #[.slice dp dLen dCap, .slice sp sLen sCap]).run P w= .ok (goInt n) w'∧w'.heap[g]? =some (.cells (splice cur off cs).toArray t (0,0))∧Below B w0 w':=by
 by_cases h0:n=0
 ·subst h0
  obtain rfl:cs= []:=List.eq_nil_of_length_eq_zero (by simpa using hl)
  exact ⟨w,rH w dT sT ty elem dp sp dLen dCap sLen sCap size hu hsz hn.symm,by simpa [splice] using hg,hb⟩
 ·obtain ⟨rfl,ad,rfl,hsrc⟩:=hpos (by omega)
  refine ⟨_,sr w dT sT ty elem g off dLen dCap ad sLen sCap cur.toArray t cs size n hu hsz hg hn hl hsrc (by simpa using hfit) h1,?_,below_setRow hb hBg _⟩
  simpa [splice] using setRow_heap w g _ _ t _ hg
theorem vh {P:Program} {w:World} {ops:Array Oper} {rest:List Oper} {o:Oper} {a:Act} {Q:Exit→Act→World→Prop} (hgd:o.guard=none) (d s:Operand) (dT sT:TypeId)
  (ho:o.op= .call {callee:= .builtin .copy,args:= #[d,s],argTypes:= #[dT,sT]}) (elem:TypeId) (size:Nat) (hu:P.underlying dT=some (.slice elem)) (hsz:(P.info? elem).map (·.size)=some size)
  (dp sp:Option Addr) (dLen dCap sLen sCap n:Nat) (hd:a.eval d= .slice dp dLen dCap) (hs:a.eval s= .slice sp sLen sCap)
  (g off:Nat) (cur:List Value) (t:TypeId) (hg:w.heap[g]? =some (.cells cur.toArray t (0,0))) (cs:List Value) (hn:n=Nat.min sLen dLen) (hl:cs.length=n*size)
  (hpos:0<n→dp=some ⟨g,off,none⟩∧∃ ad,sp=some ad∧∀ j v,cs[j]? =some v→w.cell? (ad.add j)=some v)
  (hfit:off+cs.length≤cur.length) (h1:∀ v∈cs,v.oneCell'=true) (B:Nat) (w0:World) (hb:Below B w0 w) (hBg:B≤g)
  (h:∀ w',Hid (w'.heap[g]? =some (.cells (splice cur off cs).toArray t (0,0)))→Below B w0 w'→wpList P ops Q rest (a.put o.dst (goInt n)) w'):
  wpList P ops Q (o::rest) a w:=by
 refine wpList_plain hgd fun K hK=> ?_
 obtain ⟨w',hrun,hg',hb'⟩:=ti dT sT o.type elem size hu hsz dp sp dLen dCap sLen sCap n g off cur t hg cs hn hl hpos hfit h1 B w0 hb hBg
 unfold Oper.wp
 simp [execOp,ho,resolve,invoke,builtin,hd,hs,hrun,Result.andThen]
 exact hK _ _ (h w' hg' hb')
theorem AL {P:Program} {ops:Array Oper} {o:Oper} {a:Act} {w:World} {K:Act→World→Prop} {Q:Exit→Act→World→Prop} {E:Prop} (hgd:o.guard=none) (d s:Operand) (dT sT:TypeId)
  (ho:o.op= .call {callee:= .builtin .copy,args:= #[d,s],argTypes:= #[dT,sT]}) (elem:TypeId) (size:Nat) (hu:P.underlying dT=some (.slice elem)) (hsz:(P.info? elem).map (·.size)=some size)
  (dp sp:Option Addr) (dLen dCap sLen sCap n:Nat) (hd:a.eval d= .slice dp dLen dCap) (hs:a.eval s= .slice sp sLen sCap)
  (g off:Nat) (cur:List Value) (t:TypeId) (hg:w.heap[g]? =some (.cells cur.toArray t (0,0))) (cs:List Value) (hn:n=Nat.min sLen dLen) (hl:cs.length=n*size)
  (hpos:0<n→dp=some ⟨g,off,none⟩∧∃ ad,sp=some ad∧∀ j v,cs[j]? =some v→w.cell? (ad.add j)=some v)
  (hfit:off+cs.length≤cur.length) (h1:∀ v∈cs,v.oneCell'=true) (B:Nat) (w0:World) (hb:RowKit.Below B w0 w) (hBg:B≤g)
  (h:∀ w',RowKit.Hid (w'.heap[g]? =some (.cells (splice cur off cs).toArray t (0,0)))→RowKit.Below B w0 w'→K (a.put o.dst (goInt n)) w'):
  if Region.wanted o (yielded ops a.tmps)=true then Oper.wp P o a w K Q else E:=by
 have hw:Region.wanted o (yielded ops a.tmps)=true:=by simp [Region.wanted,hgd]
 rw [if_pos hw]
 obtain ⟨w',hrun,hg',hb'⟩:=ti dT sT o.type elem size hu hsz dp sp dLen dCap sLen sCap n g off cur t hg cs hn hl hpos hfit h1 B w0 hb hBg
 unfold Oper.wp
 simp [execOp,ho,resolve,invoke,builtin,hd,hs,hrun,Result.andThen]
 exact h w' hg' hb'
def cx (n:Nat) (l:List Value):List Value:=(List.replicate n l).flatten
theorem ea (n:Nat) (l:List Value):(cx n l).length=n*l.length:=by simp [cx]
theorem rI (m n:Nat) (l:List Value):cx (m+n) l=cx m l++cx n l:=by simp only [cx,← List.flatten_append,List.replicate_append_replicate]
theorem xE {n:Nat} {l:List Value} {v:Value} (h:v∈cx n l):v∈l:=by
 obtain ⟨x,hx,hv⟩:=List.mem_flatten.1 h
 rw [(List.mem_replicate.1 hx).2] at hv;exact hv
theorem nN {A B:List Value} (hAB:A.length=B.length) {n k m:Nat} (hm:m≤n-k):splice (cx k A++cx (n-k) B) (k*A.length) (cx m A)=cx (k+m) A++cx (n-(k+m)) B:=by
 have hl:(cx k A).length=k*A.length:=ea _ _
 have e1:(cx k A++cx (n-k) B).take (k*A.length)=cx k A:=by rw [← hl,List.take_left]
 have e2:(cx k A++cx (n-k) B).drop (k*A.length+(cx m A).length)=cx (n-(k+m)) B:=by
  rw [← List.drop_drop,← hl,List.drop_left,ea,show n-k=m+(n-(k+m)) by omega,rI,hAB,← ea m B,List.drop_left]
 simp only [splice,e1,e2]
 rw [← List.append_assoc,← rI]
end Go.Cm
end
section
namespace Go.Proofs
open Go.Shelf
def Tryz.laysB172_ren:Go.Shelf.Ren:=⟨fun|172=>182|244=>196|245=>188|247=>209|279=>204|280=>205|281=>206|282=>207|287=>187|316=>216|171=>166|205=>217|321=>202|322=>203|243=>184|246=>197|283=>210|284=>211|285=>212|286=>213|129=>219|317=>218|318=>220|319=>221|320=>222|337=>223|338=>224|n=>n,fun|9=>9|3=>3|75=>131|76=>132|4=>4|5=>5|167=>216|37=>47|0=>0|85=>222|2=>2|168=>218|53=>164|175=>191|46=>122|210=>231|127=>167|145=>239|143=>237|21=>21|171=>224|173=>227|212=>234|51=>161|20=>20|213=>235|232=>241|233=>242|80=>135|n=>n,fun|15=>1|16=>2|17=>3|18=>4|19=>5|n=>n⟩
theorem Tryz.laysB172:Go.Proofs.Lays.n172 Tryz.prog Tryz.laysB172_ren:={
 mixed:=by kernel_rfl
 f129:=Tryz.func219.trans (congrArg some (by kernel_rfl))
 f171:=Tryz.func166.trans (congrArg some (by kernel_rfl))
 f172:=Tryz.func182.trans (congrArg some (by kernel_rfl))
 f205:=Tryz.func217.trans (congrArg some (by kernel_rfl))
 f243:=Tryz.func184.trans (congrArg some (by kernel_rfl))
 f244:=Tryz.func196.trans (congrArg some (by kernel_rfl))
 f245:=Tryz.func188.trans (congrArg some (by kernel_rfl))
 f246:=Tryz.func197.trans (congrArg some (by kernel_rfl))
 f247:=Tryz.func209.trans (congrArg some (by kernel_rfl))
 f279:=Tryz.func204.trans (congrArg some (by kernel_rfl))
 f280:=Tryz.func205.trans (congrArg some (by kernel_rfl))
 f281:=Tryz.func206.trans (congrArg some (by kernel_rfl))
 f282:=Tryz.func207.trans (congrArg some (by kernel_rfl))
 f283:=Tryz.func210.trans (congrArg some (by kernel_rfl))
 f284:=Tryz.func211.trans (congrArg some (by kernel_rfl))
 f285:=Tryz.func212.trans (congrArg some (by kernel_rfl))
 f286:=Tryz.func213.trans (congrArg some (by kernel_rfl))
 f287:=Tryz.func187.trans (congrArg some (by kernel_rfl))
 f316:=Tryz.func216.trans (congrArg some (by kernel_rfl))
 f317:=Tryz.func218.trans (congrArg some (by kernel_rfl))
 f318:=Tryz.func220.trans (congrArg some (by kernel_rfl))
 f319:=Tryz.func221.trans (congrArg some (by kernel_rfl))
 f320:=Tryz.func222.trans (congrArg some (by kernel_rfl))
 f321:=Tryz.func202.trans (congrArg some (by kernel_rfl))
 f322:=Tryz.func203.trans (congrArg some (by kernel_rfl))
 f337:=Tryz.func223.trans (congrArg some (by kernel_rfl))
 f338:=Tryz.func224.trans (congrArg some (by kernel_rfl))
 t0:=Tryz.underlying0
 a0:=Tryz.isAgg0
 z0:=Tryz.sizeOf0
 v0:=Tryz.zeroValue0
 t2:=Tryz.underlying2
 a2:=Tryz.isAgg2
 z2:=Tryz.sizeOf2
 v2:=Tryz.zeroValue2
 t3:=Tryz.underlying3
 a3:=Tryz.isAgg3
 z3:=Tryz.sizeOf3
 v3:=Tryz.zeroValue3
 t4:=Tryz.underlying4
 a4:=Tryz.isAgg4
 z4:=Tryz.sizeOf4
 v4:=Tryz.zeroValue4
 t5:=Tryz.underlying5
 a5:=Tryz.isAgg5
 z5:=Tryz.sizeOf5
 v5:=Tryz.zeroValue5
 t9:=Tryz.underlying9
 a9:=Tryz.isAgg9
 z9:=Tryz.sizeOf9
 v9:=Tryz.zeroValue9
 t20:=Tryz.underlying20
 a20:=Tryz.isAgg20
 z20:=Tryz.sizeOf20
 v20:=Tryz.zeroValue20
 t21:=Tryz.underlying21
 a21:=Tryz.isAgg21
 z21:=Tryz.sizeOf21
 v21:=Tryz.zeroValue21
 t37:=Tryz.underlying47
 a37:=Tryz.isAgg47
 z37:=Tryz.sizeOf47
 v37:=Tryz.zeroValue47
 t46:=Tryz.underlying122
 a46:=Tryz.isAgg122
 z46:=Tryz.sizeOf122
 v46:=Tryz.zeroValue122
 t51:=Tryz.underlying161
 a51:=Tryz.isAgg161
 z51:=Tryz.sizeOf161
 v51:=Tryz.zeroValue161
 t53:=Tryz.underlying164
 a53:=Tryz.isAgg164
 z53:=Tryz.sizeOf164
 v53:=Tryz.zeroValue164
 t75:=Tryz.underlying131
 a75:=Tryz.isAgg131
 z75:=Tryz.sizeOf131
 v75:=Tryz.zeroValue131
 t76:=Tryz.underlying132
 a76:=Tryz.isAgg132
 z76:=Tryz.sizeOf132
 v76:=Tryz.zeroValue132
 t85:=Tryz.underlying222
 a85:=Tryz.isAgg222
 z85:=Tryz.sizeOf222
 v85:=Tryz.zeroValue222
 t127:=Tryz.underlying167
 a127:=Tryz.isAgg167
 z127:=Tryz.sizeOf167
 v127:=Tryz.zeroValue167
 t143:=Tryz.underlying237
 a143:=Tryz.isAgg237
 z143:=Tryz.sizeOf237
 v143:=Tryz.zeroValue237
 t145:=Tryz.underlying239
 a145:=Tryz.isAgg239
 z145:=Tryz.sizeOf239
 v145:=Tryz.zeroValue239
 t167:=Tryz.underlying216
 a167:=Tryz.isAgg216
 z167:=Tryz.sizeOf216
 v167:=Tryz.zeroValue216
 t168:=Tryz.underlying218
 a168:=Tryz.isAgg218
 z168:=Tryz.sizeOf218
 v168:=Tryz.zeroValue218
 t171:=Tryz.underlying224
 a171:=Tryz.isAgg224
 z171:=Tryz.sizeOf224
 v171:=Tryz.zeroValue224
 t173:=Tryz.underlying227
 a173:=Tryz.isAgg227
 z173:=Tryz.sizeOf227
 v173:=Tryz.zeroValue227
 t175:=Tryz.underlying191
 a175:=Tryz.isAgg191
 z175:=Tryz.sizeOf191
 v175:=Tryz.zeroValue191
 t210:=Tryz.underlying231
 a210:=Tryz.isAgg231
 z210:=Tryz.sizeOf231
 v210:=Tryz.zeroValue231
 t212:=Tryz.underlying234
 a212:=Tryz.isAgg234
 z212:=Tryz.sizeOf234
 v212:=Tryz.zeroValue234
 t213:=Tryz.underlying235
 a213:=Tryz.isAgg235
 z213:=Tryz.sizeOf235
 t232:=Tryz.underlying241
 a232:=Tryz.isAgg241
 z232:=Tryz.sizeOf241
 v232:=Tryz.zeroValue241
 t233:=Tryz.underlying242
 a233:=Tryz.isAgg242
 z233:=Tryz.sizeOf242
 v233:=Tryz.zeroValue242
 g15:=by kernel_rfl
 g16:=by kernel_rfl
 g17:=by kernel_rfl
 g18:=by kernel_rfl
 g19:=by kernel_rfl}
open Go.RowKit in
theorem Tryz.strconv_Atoi (s:ByteArray) (n:Int) (hl:s.size≤18) (h:Lib.atoi s.data.toList=some n) (w:World):
  Calls Tryz.prog 182 #[.string s] w fun e w'=>e= .returned (.tuple #[.int .i64 n, .nilIface])∧∃ t,w'=Lib.bytesWorld w 5 t:=Any.strconv_Atoi Tryz.laysB172 s n hl h w
def Tryz.laysB145_ren:Go.Shelf.Ren:=⟨fun|145=>131|220=>171|219=>185|217=>198|225=>199|224=>200|267=>201|266=>214|314=>215|n=>n,fun|9=>9|4=>4|59=>154|3=>3|5=>5|46=>122|146=>162|51=>161|n=>n,fun|1=>0|n=>n⟩
theorem Tryz.laysB145:Go.Proofs.Lays.n145 Tryz.prog Tryz.laysB145_ren:={
 mixed:=by kernel_rfl
 f145:=Tryz.func131.trans (congrArg some (by kernel_rfl))
 f217:=Tryz.func198.trans (congrArg some (by kernel_rfl))
 f219:=Tryz.func185.trans (congrArg some (by kernel_rfl))
 f220:=Tryz.func171.trans (congrArg some (by kernel_rfl))
 f224:=Tryz.func200.trans (congrArg some (by kernel_rfl))
 f225:=Tryz.func199.trans (congrArg some (by kernel_rfl))
 f266:=Tryz.func214.trans (congrArg some (by kernel_rfl))
 f267:=Tryz.func201.trans (congrArg some (by kernel_rfl))
 f314:=Tryz.func215.trans (congrArg some (by kernel_rfl))
 t3:=Tryz.underlying3
 a3:=Tryz.isAgg3
 z3:=Tryz.sizeOf3
 v3:=Tryz.zeroValue3
 t4:=Tryz.underlying4
 a4:=Tryz.isAgg4
 z4:=Tryz.sizeOf4
 v4:=Tryz.zeroValue4
 t5:=Tryz.underlying5
 a5:=Tryz.isAgg5
 z5:=Tryz.sizeOf5
 v5:=Tryz.zeroValue5
 t9:=Tryz.underlying9
 a9:=Tryz.isAgg9
 z9:=Tryz.sizeOf9
 v9:=Tryz.zeroValue9
 t46:=Tryz.underlying122
 a46:=Tryz.isAgg122
 z46:=Tryz.sizeOf122
 v46:=Tryz.zeroValue122
 t51:=Tryz.underlying161
 a51:=Tryz.isAgg161
 z51:=Tryz.sizeOf161
 v51:=Tryz.zeroValue161
 t59:=Tryz.underlying154
 a59:=Tryz.isAgg154
 z59:=Tryz.sizeOf154
 v59:=Tryz.zeroValue154
 t146:=Tryz.underlying162
 a146:=Tryz.isAgg162
 z146:=Tryz.sizeOf162
 v146:=Tryz.zeroValue162
 g1:=by kernel_rfl}
open Go.RowKit Go.Lib in
theorem Tryz.strings_Cut (s sep:ByteArray) (m:Int) (w:World) (hs:s.size<4294967281) (hm:w.cell? ⟨0,0,none⟩=some (.int .i64 m)):
  Calls Tryz.prog 131 #[.string s, .string sep] w fun e w'=>e= .returned (.tuple #[.string ⟨(Lib.cut s.data.toList sep.data.toList).1.toArray⟩, .string ⟨(Lib.cut s.data.toList sep.data.toList).2.1.toArray⟩, .bool (Lib.cut s.data.toList sep.data.toList).2.2])∧∃ n,w'=w.drewN n:=Any.strings_Cut Tryz.laysB145 s sep m w hs hm
open Go.RowKit Go.Lib in
open Go.RowKit Go.Lib in
def Tryz.laysB212_ren:Go.Shelf.Ren:=⟨fun|212=>95|263=>137|264=>138|n=>n,fun|46=>122|51=>161|146=>162|53=>164|148=>165|n=>n,fun|n=>n⟩
theorem Tryz.laysB212:Go.Proofs.Lays.n212 Tryz.prog Tryz.laysB212_ren:={
 mixed:=by kernel_rfl
 f212:=Tryz.func95.trans (congrArg some (by kernel_rfl))
 f263:=Tryz.func137.trans (congrArg some (by kernel_rfl))
 f264:=Tryz.func138.trans (congrArg some (by kernel_rfl))
 t46:=Tryz.underlying122
 a46:=Tryz.isAgg122
 z46:=Tryz.sizeOf122
 v46:=Tryz.zeroValue122
 t51:=Tryz.underlying161
 a51:=Tryz.isAgg161
 z51:=Tryz.sizeOf161
 v51:=Tryz.zeroValue161
 t53:=Tryz.underlying164
 a53:=Tryz.isAgg164
 z53:=Tryz.sizeOf164
 v53:=Tryz.zeroValue164
 t146:=Tryz.underlying162
 a146:=Tryz.isAgg162
 z146:=Tryz.sizeOf162
 v146:=Tryz.zeroValue162
 t148:=Tryz.underlying165
 a148:=Tryz.isAgg165
 z148:=Tryz.sizeOf165
 v148:=Tryz.zeroValue165}
open Go.RowKit Go.Lib in
theorem Tryz.bits_Mul (x y:Nat) (hx:x<18446744073709551616) (hy:y<18446744073709551616) (w:World):
  Calls Tryz.prog 95 #[.int .u64 x, .int .u64 y] w fun e w'=>e= .returned (.tuple #[.int .u64 ((x*y/18446744073709551616:Nat):Int), .int .u64 ((x*y%18446744073709551616:Nat):Int)])∧w'=w:=Any.bits_Mul Tryz.laysB212 x y hx hy w
end Go.Proofs
end
section
namespace Go.Proofs
open Go.RowKit Go.Cm Go.Shelf
attribute [local go_sem] Oper.semAt_some
def zc4:List Value:= [.bool false, .slice none 0 0, .bool false, .slice none 0 0]
theorem MK (n:Nat):madeCells (Value.agg zc4.toArray).cells (n*4)=(cx n zc4).toArray:=
 ge (t:=NT) (by decide) (by decide) n
theorem w64 {n:Nat} (h:n≤1000):IntKind.u64.wrap (n:Int)=(n:Int):=by
 have h1:(n:Int)≤1000:=by omega
 unfold IntKind.wrap
 have e:IntKind.u64.signed=false:=rfl
 rw [e]
 simp only [Bool.false_and,Bool.false_eq_true,if_false]
 exact Int.emod_eq_of_lt (by omega) (Int.lt_of_le_of_lt h1 (by decide))
set_option maxRecDepth 100000 in
set_option maxHeartbeats 1000000 in
theorem H9 (xs:List Value) (h4:xs.length=4) (h1:∀ u∈xs,u.oneCell'=true) (n:Nat) (hn:n≤1000) (b o c:Nat) (w:World) (hc:∀ j v,xs[j]? =some v→w.cell? ⟨b,o+j,none⟩=some v):
  Calls Tryz.prog 112 #[.slice (some ⟨b,o,none⟩) 1 c, .int .i64 n] w fun e w'=>e= .returned (.slice (some ⟨w.heap.size,0,none⟩) n n)∧w'.heap[w.heap.size]? =some (.cells (cx n xs).toArray 91 (0,0))∧Below w.heap.size w w':=by
 have t36:=Tryz.underlying79
 have a36:=Tryz.isAgg79
 have z36:=Tryz.sizeOf79
 have v36:=Tryz.zeroValue79
 have t3:=Tryz.underlying3
 have a3:=Tryz.isAgg3
 have z3:=Tryz.sizeOf3
 have v3:=Tryz.zeroValue3
 have t84:=Tryz.underlying122
 have a84:=Tryz.isAgg122
 have z84:=Tryz.sizeOf122
 have v84:=Tryz.zeroValue122
 have hmul:=fun w=>Tryz.bits_Mul 1 n (by omega) (by omega) w
 have e1:1*n/18446744073709551616=0:=by omega
 have e2:1*n%18446744073709551616=n:=by omega
 rw [e1,e2] at hmul
 have e64:∀ args w,(callFunc 95 args).run Tryz.prog w= .ok (.enter 95 args) w:=enters_of Tryz.func95 (by kernel_rfl) rfl
 have w1:IntKind.u64.wrap (n:Int)=(n:Int):=w64 hn
 have w2:IntKind.i64.wrap (n:Int)=(n:Int):=wi (by omega) (by omega)
 have c1: ¬ (n:Int)<0:=by omega
 have c2: ¬ (9223372036854775807:Int)<(n:Int):=by omega
 obtain ⟨i0,hi,hz0,hz1,hz2⟩:=info_parts (show (Tryz.prog.info? 91).map (fun i=>(i.zero,i.size,i.bytes))=some (some (.agg zc4.toArray),4,64) by kernel_rfl)
 have hs3:(Tryz.prog.info? 91).map (·.size)=some 4:=by rw [hi];simp [hz1]
 have hmk:=run_make (P:=Tryz.prog) w 79 91 i0 (.agg zc4.toArray) t36 hi hz0 .i64 .i64 (n:Int) (n:Int) (by omega) (Int.le_refl _) (by rw [hz2];omega) (by omega)
 have hmc:madeCells (Value.agg zc4.toArray).cells ((n:Int).toNat*i0.size)=(cx n zc4).toArray:=by
  rw [hz1,Int.toNat_natCast];exact MK n
 rw [hmc,Int.toNat_natCast] at hmk
 have hg:(w.alloc (.cells (cx n zc4).toArray 91)).heap[w.heap.size]? =some (.cells (cx n zc4).toArray 91 (0,0)):=by rw [World.alloc_heap_new]
 have hb1:Below w.heap.size w (w.alloc (.cells (cx n zc4).toArray 91)):=(Below.refl _ _).alloc (Nat.le_refl _) _
 obtain ⟨m0,hm0⟩:∃ m0,m0=min 1 n:=⟨_,rfl⟩
 have hm01:m0≤1∧m0≤n∧(m0=0→n=0):=by omega
 have hrl:(cx n zc4).length=n*4:=ea n zc4
 have hml:(cx m0 xs).length=m0*4:=by rw [ea,h4]
 have hsrc:∀ j u,(cx m0 xs)[j]? =some u→(w.alloc (.cells (cx n zc4).toArray 91)).cell? (Addr.add ⟨b,o,none⟩ j)=some u:=by
  intro j u hj
  have hj1:=(List.getElem?_eq_some_iff.1 hj).1
  have hm1:m0=1:=by omega
  rw [hm1,show cx 1 xs=xs by simp [cx]] at hj
  have hcj:=hc j u hj
  obtain ⟨o1,ho1,_⟩:=cells_of_cell hcj
  rw [Addr.add_mid]
  exact (World.cell?_alloc_lt (a:=⟨b,o+j,none⟩) _ _ (Array.getElem?_eq_some_iff.1 ho1).1).trans hcj
 go_enter Tryz.func112,Tryz.ntmps112
 go_wp2_with (first|(go_at_fn 95;refine (hmul _).mono ?_;rintro e w' ⟨rfl,hw'⟩;rw [hw'])|refine vh rfl (.tmp 31) (.tmp 32) 79 79 rfl 91 4 t36 hs3 (some ⟨w.heap.size,0,none⟩) (some ⟨b,o,none⟩) n n 1 c m0 rfl rfl w.heap.size 0 (cx n zc4) 91 hg (cx m0 xs) (by exact hm0) hml (fun _=>⟨rfl,_,rfl,hsrc⟩) (by rw [hml,hrl];omega) (fun u hu=>h1 u (xE hu)) w.heap.size w hb1 (Nat.le_refl _) ?_;intro w4 hg4 hb4)
 go_loopw [8] (fun s wr=>∃ k:Nat,s= .int .i64 k∧(k=0→n=0)∧k≤n∧wr.heap[w.heap.size]? =some (.cells (cx k xs++cx (n-k) zc4).toArray 91 (0,0))∧Below w.heap.size w wr)
  (fun s _=>n-(intOf s).toNat)
 case atStart=>exact ⟨m0,by first|rfl|rw [hm0],hm01.2.2,hm01.2.1,by
  have e:splice (cx 0 xs++cx (n-0) zc4) (0*xs.length) (cx m0 xs)=_:=nN (by rw [h4];rfl) (by omega)
  simp only [show cx 0 xs= [] by simp [cx],List.nil_append,Nat.sub_zero,Nat.zero_mul,Nat.zero_add] at e
  rw [← e];exact hg4.out,hb4⟩
 case round=>
  obtain ⟨k,rfl,hk1,hkn,hgk,hbk⟩:=hrel
  by_cases hlt:k<n
  ·have d1:(k:Int)<(n:Int):=by omega
   obtain ⟨m,hm⟩:∃ m,m=Nat.min k (n-k):=⟨_,rfl⟩
   have hm2:m≤k∧m≤n-k∧(m=k∨m=n-k):=by rw [hm];show min k (n-k)≤k∧min k (n-k)≤n-k∧(min k (n-k)=k∨min k (n-k)=n-k);omega
   have hkl:(cx k xs).length=k*4:=by rw [ea,h4]
   have hzl:(cx (n-k) zc4).length=(n-k)*4:=ea _ _
   have hmm:(cx m xs).length=m*4:=by rw [ea,h4]
   have hcp:∀ j u,(cx m xs)[j]? =some u→wr.cell? (Addr.add ⟨w.heap.size,0,none⟩ j)=some u:=by
    intro j u hj
    have hj1:=(List.getElem?_eq_some_iff.1 hj).1
    have hpre:(cx k xs)[j]? =some u:=by
     rw [show k=m+(k-m) by omega,rI,List.getElem?_append_left hj1];exact hj
    rw [Addr.add_mid,Nat.zero_add]
    have hjk:j<(cx k xs).length:=by omega
    simp only [World.cell?,hgk]
    simp [List.getElem?_append_left hjk,hpre]
   have hfit:k*4+(cx m xs).length≤(cx k xs++cx (n-k) zc4).length:=by rw [List.length_append,hkl,hzl,hmm];omega
   have hnk: ¬n=k:=by omega
   go_wp2
   go_region_law (refine AL rfl (.tmp 41) (.tmp 44) 79 79 rfl 91 4 t36 hs3 (some ⟨w.heap.size,k*4,none⟩) (some ⟨w.heap.size,0,none⟩) (n-k) (n-k) k n m (by simp [Act.eval,Act.put]) (by simp [Act.eval,Act.put]) w.heap.size (k*4) _ 91 hgk (cx m xs) hm hmm (fun _=>⟨rfl,_,rfl,hcp⟩) hfit (fun u hu=>h1 u (xE hu)) w.heap.size w (show Below w.heap.size w wr.drew from ⟨hbk.os,hbk.tape,hbk.output,hbk.size,hbk.block⟩) (Nat.le_refl _) ?_;intro w5 hg5 hb5)
   have hw3:IntKind.i64.wrap ((k:Int)+((k.min (n-k):Nat):Int))=((k+m:Nat):Int):=by rw [← hm,wi (by omega) (by omega)];omega
   rw [hw3]
   simp only [Act.put,List.setIfInBounds_toArray,List.set_cons_succ,List.set_cons_zero,List.getElem_toArray,List.getElem_cons_succ,List.getElem_cons_zero]
   go_roundw
   case rel=>
    refine ⟨_,_,_,_,_,_,_,_,_,_,_,_,_,_,⟨k+m,rfl,by omega,by omega,?_,hb5⟩,rfl⟩
    have e:splice (cx k xs++cx (n-k) zc4) (k*xs.length) (cx m xs)=_:=nN (by rw [h4];rfl) hm2.2.1
    rw [h4] at e
    rw [← e];exact hg5.out
   case measure=>simp [intOf];omega
  ·have hkk:k=n:=by omega
   subst hkk
   have d1: ¬ (k:Int)<(k:Int):=by omega
   go_wp2
   go_ret
   exact ⟨rfl,by simpa [cx] using hgk,hbk⟩
theorem vi {w w':World} {O:Nat→Prop} {ρ0:Nat→Value} {fr:List Nat} {t:Ty} {T:TypeId} {xs:List t.D} {v:Value} {cells:List Value} (hO:∀ b,O b→b<w.heap.size) (hb:Below w.heap.size w w') (hs:∃ a n c,v= .slice a n c) (hr:∀ H:Nat→Prop,(∀ b,b<w.heap.size→H b→O b)→cy (fun c x=>t.rep H w' c x) cells xs) (hrow:Cm.rowAt (fun b=>w.heap.size≤b) w' T t.w v xs.length cells):
  ∃ (vs':List Value) (ρ1:Nat→Value),Ending.returned v= .returned (uF vs')∧([]:List aL).length=([]:List aL).length∧Bel (fun b=>w.heap.size≤b∨bm ρ0 [] b) w w'∧
   (∀ k,¬ (ioB≤k∧k<ioB+([]:List aL).length∧fr.contains (k-ioB)=true)→ρ1 k=ρ0 k)∧
   br (jt (cA (hot O ρ1 (al ioB [])) [RV.own t T xs] vs') w' (fun b=>w.heap.size≤b∨bm ρ0 [] b)) [RV.own t T xs] vs'∧eE [RV.own t T xs] vs'∧
   (∀ p∈al ioB ([]:List aL),bV (cA (hot O ρ1 (al ioB [])) [RV.own t T xs] vs') w' ρ1 (fun b=>w.heap.size≤b∨bm ρ0 [] b) p)∧
   lK ρ1 (al ioB [])∧∀ b,bm ρ1 [] b→ ¬cA (fun _=>False) [RV.own t T xs] vs' b:=by
 have hnew:∀ b,Blk v b→w.heap.size≤b:=by
  intro b hbl
  obtain ⟨_,⟨rfl,_⟩|⟨g,cap,cur,rfl,hg,_⟩⟩:=hrow
  ·simp [Blk] at hbl
  ·simp [Blk] at hbl;exact hbl▸hg
 refine ⟨[v],ρ0,rfl,rfl,⟨hb.os,hb.tape,hb.output,hb.size,fun k hk _=>hb.block k hk⟩,fun _ _=>rfl,⟨⟨hs,cells,hr _ ?_,?_⟩,trivial⟩,⟨fun _ b _ h=>h,trivial⟩,fun p hp=>by simp [al] at hp,List.Pairwise.nil,fun b hb=>by simp [bm,al] at hb⟩
 ·rintro b hlt (⟨_,h⟩|(h|⟨p,hp,_⟩))
  ·have:=hnew b h;omega
  ·exact h
  ·simp [al] at hp
 ·obtain ⟨h1,h2⟩:=hrow
  refine ⟨h1,h2.imp_right ?_⟩
  rintro ⟨g,cap,cur,e1,e2,e3⟩
  exact ⟨g,cap,cur,e1, .inl e2,e3⟩
def eP:Con:=fun l os=>match l,os with
 | [.z (.slice (.st (.pair (.st (.pair .bool (.slice (.int .u32)))) (.st (.pair .bool (.slice (.int .u32))))))) [x], .z (.int .i64) n], []=>some (0≤n∧n≤1000, [.own (.st (.pair (.st (.pair .bool (.slice (.int .u32)))) (.st (.pair .bool (.slice (.int .u32)))))) 91 (List.replicate n.toNat x)], [])
 |_,_=>none
theorem Ku {n:Int} (h:0≤n∧n≤1000):∃ m:Nat,n=m∧m≤1000:=⟨n.toNat,by omega,by omega⟩
theorem tj {B:aj} (hB:aA B):Valid B Tryz.prog 112 eP:=by
 intro args os C rs os' hc hC O w vals ρ0 hOn hIo hO hOI hargs hown hap
 unfold eP at hc
 split at hc
 case h_2=>cases hc
 rename_i x n
 cases hc
 obtain ⟨u,z,rfl,hu,hz⟩:=wR hargs
 rw [bp hz]
 obtain ⟨m,rfl,h2⟩:=Ku hC
 obtain ⟨cells,hr,h⟩:=gq hu
 have hl:=bx (fun c x h=>NT.rep_length h) hr
 rcases h with ⟨_,h0,_⟩|⟨ad,c,rfl,hc⟩
 ·simp at h0
 have h4:cells.length=4:=hl
 obtain ⟨c0,d0,rfl,hr0,hd0⟩:=hr
 obtain rfl:d0= []:=hd0
 rw [List.append_nil] at h4 hc
 obtain ⟨b,o,sp⟩:=ad
 have hcell:w.cell? ⟨b,o,sp⟩=some (c0[0]'(by omega)):=by
  have:=hc 0 (c0[0]'(by omega)) (by simp)
  simpa [Addr.add] using this
 obtain rfl:sp=none:=by
  cases sp with
  |none=>rfl
  |some _=>simp only [World.cell?] at hcell;split at hcell<;>simp at hcell
 refine (H9 c0 h4 (Ty.rep_oneCell NT hr0) m h2 b o c w (fun j v hj=>by have:=hc j v hj;rwa [Addr.add_mid] at this)).mono fun e w' ⟨he,hw,hb⟩=> ?_
 subst he
 rw [Int.toNat_natCast]
 refine vi hO hb ⟨_,_,_,rfl⟩ (cells:=cx m c0) (fun H hH=>dQ ?_ m) ?_
 ·exact Ty.rep_move (t:=NT) (fun b hlt hb=> .inl (hH b hlt hb)) (fun b _ hlt=>hb.block b (cJ hlt)) hr0
 ·rw [List.length_replicate]
  refine ⟨by rw [ea,h4];rfl, .inr ⟨_,m,_,rfl,Nat.le_refl _,hw,Nat.le_refl _,by unfold maxLen;omega,?_,?_⟩⟩
  ·simp [ea,h4];exact Nat.le_refl _
  ·rw [List.toList_toArray];exact List.take_of_length_le (by rw [ea,h4];exact Nat.le_refl _)
end Go.Proofs
end
section
namespace Go.Proofs.YtdojbabpnaifoaaGreatDoor
open Go Go.Cm Go.Proofs
theorem ty2:cK Tryz.prog 2 (.int .i64):=lc (by kernel_rfl) (by kernel_rfl)
theorem ty3:cK Tryz.prog 3 (.int .i64):=lc (by kernel_rfl) (by kernel_rfl)
theorem ty4:cK Tryz.prog 4 .bool:=JR (by kernel_rfl) (by kernel_rfl)
theorem ty5:cK Tryz.prog 5 (.int .u8):=lc (by kernel_rfl) (by kernel_rfl)
theorem ty9:cK Tryz.prog 9 .str:=Gy (by kernel_rfl) (by kernel_rfl)
theorem fY:cK Tryz.prog 22 (.slice .str):=e8 (E:=46) (by kernel_rfl) (by kernel_rfl) (by kernel_rfl) (by kernel_rfl) (.inr rfl)
theorem M0:cK Tryz.prog 23 (.slice (.int .i8)):=e8 (E:=71) (by kernel_rfl) (by kernel_rfl) (by kernel_rfl) (by kernel_rfl) (.inr rfl)
theorem ML:cK Tryz.prog 25 (.st (.pair (.slice (.int .i8)) (.pair (.int .u8) (.slice (.int .i8))))):=BA (by kernel_rfl) (by kernel_rfl)
theorem kH:cK Tryz.prog 31 (.int .i64):=lc (by kernel_rfl) (by kernel_rfl)
theorem ss:cK Tryz.prog 44 (.slice (.slice .str)):=e8 (E:=22) (by kernel_rfl) (by kernel_rfl) (by kernel_rfl) (by kernel_rfl) (.inr rfl)
theorem ma:cK Tryz.prog 46 .str:=Gy (by kernel_rfl) (by kernel_rfl)
theorem MM:cK Tryz.prog 47 (.slice (.int .u8)):=e8 (E:=5) (by kernel_rfl) (by kernel_rfl) (by kernel_rfl) (by kernel_rfl) (.inr rfl)
theorem M1:cK Tryz.prog 71 (.int .i8):=lc (by kernel_rfl) (by kernel_rfl)
theorem Kv:cK Tryz.prog 78 (.slice (.st (.pair (.st (.pair .bool (.slice (.int .u32)))) (.st (.pair .bool (.slice (.int .u32))))))):=e8 (E:=91) (by kernel_rfl) (by kernel_rfl) (by kernel_rfl) (by kernel_rfl) (.inl rfl)
theorem fk:cK Tryz.prog 79 (.slice (.st (.pair (.st (.pair .bool (.slice (.int .u32)))) (.st (.pair .bool (.slice (.int .u32))))))):=e8 (E:=91) (by kernel_rfl) (by kernel_rfl) (by kernel_rfl) (by kernel_rfl) (.inl rfl)
theorem gG:cK Tryz.prog 87 (.slice (.int .u32)):=e8 (E:=161) (by kernel_rfl) (by kernel_rfl) (by kernel_rfl) (by kernel_rfl) (.inr rfl)
theorem fZ:cK Tryz.prog 89 (.st (.pair .bool (.slice (.int .u32)))):=BA (by kernel_rfl) (by kernel_rfl)
theorem ty91:cK Tryz.prog 91 (.st (.pair (.st (.pair .bool (.slice (.int .u32)))) (.st (.pair .bool (.slice (.int .u32)))))):=BA (by kernel_rfl) (by kernel_rfl)
theorem su:cK Tryz.prog 98 (.slice (.slice (.st (.pair (.st (.pair .bool (.slice (.int .u32)))) (.st (.pair .bool (.slice (.int .u32)))))))):=e8 (E:=79) (by kernel_rfl) (by kernel_rfl) (by kernel_rfl) (by kernel_rfl) (.inr rfl)
theorem Lr:cK Tryz.prog 151 (.st (.pair (.st (.pair (.st (.pair .bool (.slice (.int .u32)))) (.st (.pair .bool (.slice (.int .u32)))))) (.int .i64))):=BA (by kernel_rfl) (by kernel_rfl)
theorem fl:cK Tryz.prog 161 (.int .u32):=lc (by kernel_rfl) (by kernel_rfl)
theorem mb:cK Tryz.prog 164 (.int .u64):=lc (by kernel_rfl) (by kernel_rfl)
theorem iI:cK Tryz.prog 181 (.slice (.int .i64)):=e8 (E:=3) (by kernel_rfl) (by kernel_rfl) (by kernel_rfl) (by kernel_rfl) (.inr rfl)
end Go.Proofs.YtdojbabpnaifoaaGreatDoor
end
section
namespace Go.Proofs
open Go.RowKit Go.Cm Go.Shelf
attribute [local go_sem] Oper.semAt_some
def zN:ND:=((false, []),(false, []))
def iJ (xs:List ND) (k:Nat):List LV:= [.z (.int .i64) ((xs.length:Int)-1-k), .z NT (xs.getD (xs.length-1-k) zN)]
def bN (xs:List ND):List (List LV):=(List.range xs.length).map (iJ xs)
set_option maxRecDepth 100000 in
set_option maxHeartbeats 2000000 in
theorem Ia (F:Fence) (h7:F.fn 125) (hro:F.round=none) (l Bs oB b off len cap:Nat) (cs:Nat→List Value) (h4:∀ j,j<len→(cs j).length=4) (hbig:len≤maxLen) (J:Nat→World→Prop) (Jx:World→Prop) (Kp:World→World→Prop)
  (W:World) (hBs:W.cell? ⟨Bs,oB,none⟩=some (.slice (some ⟨b,off,none⟩) len cap)) (hc:∀ j,j<len→∀ i,i<4→W.cell? ⟨b,off+j*4+i,none⟩=(cs j)[i]?)
  (hKp:∀ A B,Kp A B→(∃ o:Obj,A.heap[Bs]? =some o∧o.isCells=true)→((0<len)→∃ o:Obj,A.heap[b]? =some o∧o.isCells=true)→B.heap[Bs]? =A.heap[Bs]? ∧(0<len→B.heap[b]? =A.heap[b]?))
  (hY:∀ k W1,J k W1→k<len→YieldAt F 0 Tryz.prog l #[.int .i64 ((len:Int)-1-k), .agg (cs (len-1-k)).toArray] W1 fun e W'=>(e= .returned (.bool true)∧J (k+1) W'∧Kp W1 W')∨(e= .returned (.bool false)∧Jx W'))
  (h0:J 0 W):
  CallsIn F 1 Tryz.prog 125 #[.func (.yield l) #[] #[], .pointer (some ⟨Bs,oB,none⟩)] W fun e W'=>(∃ v,e= .returned v)∧(J len W'∨Jx W'):=by
 unfold maxLen at hbig
 refine callsIn_of_wp Tryz.func125 rfl h7 ?_ hro
 simp only [Tryz.ntmps125,List.size_toArray,List.length_cons,List.length_nil,Nat.reduceAdd,Nat.reduceSub,Array.replicate_succ,Array.replicate_zero,List.push_toArray,List.append_toArray,List.nil_append,List.cons_append]
 gi_wp2
 gi_loopw [3] (fun i wr=>∃ k:Nat,k≤len∧i= .int .i64 ((len:Int)-1-k)∧J k wr∧wr.heap[Bs]? =W.heap[Bs]? ∧(0<len→wr.heap[b]? =W.heap[b]?))
  (fun i _=>(intOf i+1).toNat)
 case atStart=>exact ⟨0,Nat.zero_le _,by simp,h0,rfl,fun _=>rfl⟩
 case round=>
  obtain ⟨k,hk,rfl,hJs,hn1,hn2⟩:=hrel
  have hB1:wr.cell? ⟨Bs,oB,none⟩=some (.slice (some ⟨b,off,none⟩) len cap):=(World.cell?_of_block (a:=⟨Bs,oB,none⟩) hn1).trans hBs
  by_cases hlt:k<len
  ·have hge:0≤(len:Int)-1-k:=by omega
   have htn:((len:Int)-1-k).toNat=len-1-k:=by omega
   have hup:(len:Int)-1-k<len:=by omega
   have hci:∀ i,i<4→wr.cell? ⟨b,off+(len-1-k)*4+i,none⟩=(cs (len-1-k))[i]? :=fun i hi=>(World.cell?_of_block (a:=⟨b,off+(len-1-k)*4+i,none⟩) (hn2 (by omega))).trans (hc _ (by omega) i hi)
   have hlk:=h4 (len-1-k) (by omega)
   obtain ⟨x0,x1,x2,x3,hx⟩:∃ x0 x1 x2 x3,cs (len-1-k)= [x0,x1,x2,x3]:=by
    match h:cs (len-1-k),hlk with
    | [x0,x1,x2,x3],_=>exact ⟨_,_,_,_,rfl⟩
   have hc0:wr.cell? ⟨b,off+(len-1-k)*4+0,none⟩=some x0:=(hci 0 (by omega)).trans (by rw [hx];rfl)
   have hcx:=hc0
   have hload:=cZ (P:=Tryz.prog) (Go.Proofs.YtdojbabpnaifoaaGreatDoor.ty91) (w:=wr) (b:=b) (o:=off+(len-1-k)*4) (cells:=cs (len-1-k)) (by rw [hlk];rfl) (fun j hj=>hci j (by omega))
   have hcB:∃ o:Obj,wr.heap[Bs]? =some o∧o.isCells=true:=cells_of_cell hB1
   have hcb:∃ o:Obj,wr.heap[b]? =some o∧o.isCells=true:=cells_of_cell hcx
   have hYk:=hY k wr hJs hlt
   rw [hx] at hYk hload
   obtain ⟨fn,tmps,assign,body,hy,hR⟩:=hYk
   gi_wp2
   refine hR.mono ?_
   rintro e W3 (⟨rfl,hJ3,hk3⟩|⟨rfl,hJx3⟩)
   ·obtain ⟨e1,e2⟩:=hKp _ _ hk3 hcB (fun _=>hcb)
    gi_wp2
    go_roundw
    case rel=>exact ⟨k+1,by omega,by congr 1;omega,hJ3,e1.trans hn1,fun h=>(e2 h).trans (hn2 h)⟩
    case measure=>simp [intOf];omega
   ·gi_wp2
    refine bodyPost_ret (results_none rfl _ _ _) rfl ?_
    exact ⟨⟨_,rfl⟩, .inr hJx3⟩
  ·have hk2:k=len:=by omega
   have hng: ¬0≤(len:Int)-1-k:=by omega
   rw [hk2] at hJs
   clear hk2
   gi_wp2
   go_end0
   exact ⟨⟨_,rfl⟩, .inl hJs⟩
set_option maxRecDepth 100000 in
set_option maxHeartbeats 2000000 in
theorem tk (F:Fence) (h7:F.fn 125) (hro:F.round=none) (l Bs oB:Nat) (J:World→Prop) (W:World) (a:Option Addr) (cap:Nat) (hBs:W.cell? ⟨Bs,oB,none⟩=some (.slice a 0 cap)) (h0:J W):
  CallsIn F 1 Tryz.prog 125 #[.func (.yield l) #[] #[], .pointer (some ⟨Bs,oB,none⟩)] W fun e W'=>(∃ v,e= .returned v)∧J W':=by
 refine callsIn_of_wp Tryz.func125 rfl h7 ?_ hro
 simp only [Tryz.ntmps125,List.size_toArray,List.length_cons,List.length_nil,Nat.reduceAdd,Nat.reduceSub,Array.replicate_succ,Array.replicate_zero,List.push_toArray,List.append_toArray,List.nil_append,List.cons_append]
 gi_wp2
 gi_loopw [3] (fun i wr=>i= .int .i64 (-1)∧wr=W) (fun i _=>(intOf i+1).toNat)
 case atStart=>exact ⟨rfl,rfl⟩
 case round=>
  obtain ⟨rfl,rfl⟩:=hrel
  gi_wp2
  go_end0
  exact ⟨⟨_,rfl⟩,h0⟩
theorem jR {H:Nat→Prop} {w:World} {b o:Nat} {c:Value} (h:c8 H w b o [c]):w.cell? ⟨b,o,none⟩=some c∧b<w.heap.size∧ ¬H b:=
 ⟨by have:=h.2 0 (by simp);simpa using this,h.lt (by simp),h.1 (by simp)⟩
theorem tl (xs:List ND):lR Tryz.prog 125 2 [.z (.ptr (.slice NT)) xs] (bN xs):=by
 refine ⟨enters_of Tryz.func125 (by kernel_rfl) rfl,?_,?_⟩
 ·intro it hit
  obtain ⟨k,_,rfl⟩:=List.mem_map.1 hit
  exact ⟨rfl,rfl⟩
 ·intro H w lb hH hcap
  obtain ⟨v,rfl⟩:∃ v,lb= [v]:=by
   match lb,hcap with
   | [v],_=>exact ⟨v,rfl⟩
   |_::_::_,h=>exact h.2.elim
  obtain ⟨hag,bB,oB,cells,hv,hsl,hlies⟩:=hcap.1
  have hv2:v= .pointer (some ⟨bB,oB,none⟩):=by
   have hone:=ca (v:=v) (by cases v<;>first|rfl|(simp [Ty.isAgg] at hag))
   rw [hone] at hv;simpa using hv
  subst hv2
  have hlen:(bN xs).length=xs.length:=by simp [bN]
  rcases hsl with ⟨rfl,rfl⟩|⟨b,o,p,cap,cs,rfl,hp,h1,h2,h3,h4⟩
  ·refine ⟨fun k=> #[],fun k hk=>by simp [bN] at hk,?_⟩
   intro l J Jx W hb _ _ _ _ hY h0
   obtain ⟨c1,c2,c3⟩:=jR hlies
   exact (tk (fw none) trivial rfl l bB oB (J 0) W none 0 ((hb.cell (p:=⟨bB,oB,none⟩) c2).trans c1) h0).mono (fun e W' h=>⟨h.1, .inl h.2⟩)
  ·have hcl:cs.length=xs.length*4:=bx (fun c x h=>NT.rep_length h) h3
   have hone:∀ j,j<xs.length→((cs.drop (j*4)).take 4).length=4:=by
    intro j hj
    rw [List.length_take,List.length_drop,hcl];omega
   refine ⟨fun k=> #[.int .i64 ((xs.length:Int)-1-k), .agg ((cs.drop ((xs.length-1-k)*4)).take 4).toArray],fun k hk=> ?_,?_⟩
   ·rw [hlen] at hk
    have hg:=eV (fun c x h=>NT.rep_length h) h3 (xs.length-1-k) (by omega)
    simp only [bN,List.getElem_map,List.getElem_range]
    refine ⟨bJ (ρ:=fun _=>undef),?_,trivial⟩
    have hx:xs.getD (xs.length-1-k) zN=xs[xs.length-1-k]'(by omega):=by
     rw [List.getD_eq_getElem?_getD,List.getElem?_eq_getElem (by omega)];rfl
    rw [hx]
    exact fK (t:=NT) hg (fun h=>by cases h) (fun h=>by cases h)
   ·intro l J Jx W hb _ _ _ _ hY h0
    rw [hlen] at hY ⊢
    obtain ⟨c1,c2,c3⟩:=jR hlies
    by_cases hnil:xs= []
    ·subst hnil
     exact (tk (fw none) trivial rfl l bB oB (J 0) W (some ⟨b,o,p⟩) cap ((hb.cell (p:=⟨bB,oB,none⟩) c2).trans c1) h0).mono (fun e W' h=>⟨h.1, .inl h.2⟩)
    obtain rfl:=hp hnil
    have hne:0<xs.length→cs≠ []:=fun h e=>by rw [e] at hcl;simp at hcl;omega
    refine Ia (fw none) trivial rfl l bB oB b o xs.length cap (fun j=>(cs.drop (j*4)).take 4) hone (Nat.le_trans h1 h2) J Jx (wO H w.heap.size) W ((hb.cell (p:=⟨bB,oB,none⟩) c2).trans c1) (fun j hj i hi=> ?_) (fun A B hk hA1 hA2=>⟨hk bB c2 c3 hA1,fun h=>hk b (h4.lt (hne h)) (h4.1 (hne h)) (hA2 h)⟩) hY h0
    have hj':j*4+i<cs.length:=by rw [hcl];omega
    rw [Nat.add_assoc,hb.cell (p:=⟨b,o+(j*4+i),none⟩) (h4.lt (hne (by omega))),h4.2 (j*4+i) hj']
    rw [List.getElem?_take,if_pos hi,List.getElem?_drop]
end Go.Proofs
end
section
namespace Go.Cm
open Go.Proofs
theorem xF {p:List ND} {k i:Nat} (h:Sz k p) (hi:i<p.length):p.getD i zN=bg (cf (am p) i):=by
 rw [← fj h hi,fi (t:=NT) hi,List.getD_eq_getElem?_getD,List.getElem?_eq_getElem hi];rfl
theorem xG {p:List ND} {k:Nat} (hk:k<p.length):p.length-1-k<p.length:=by omega
theorem AM (p:List ND) (x:Rat):0=aO (List.drop (p.length-0) (am p)) x:=by
 rw [Nat.sub_zero,List.drop_of_length_le (by rw [aI];exact Nat.le_refl _)];rfl
theorem AN {p:List ND} {x:Rat} {k:Nat} (hk:k<p.length):aO (List.drop (p.length-(k+1)) (am p)) x=aO (List.drop (p.length-k) (am p)) x*x+cf (am p) (p.length-1-k):=by
 rw [List.drop_eq_getElem_cons (by rw [aI];omega),show p.length-(k+1)+1=p.length-k by omega]
 have e:(am p)[p.length-(k+1)]'(by rw [aI];omega)=cf (am p) (p.length-1-k):=by
  unfold cf
  rw [List.getD_eq_getElem?_getD,show p.length-1-k=p.length-(k+1) by omega,List.getElem?_eq_getElem (by rw [aI];omega)];rfl
 rw [e];rfl
theorem EZ {p:List ND} {x:ND} {k:Nat} (hC:Sz QM p∧p.length≤100∧NOK x∧lq (bu x)≤QM) (hk:k<p.length) {v:Rat} (hz:v=aO (List.drop (p.length-k) (am p)) (bu x)):fE (bg v) x∧fE (bg (v*bu x)) (bg (cf (am p) (p.length-1-k))):=by
 obtain ⟨h1,h2,h3,h4⟩:=hC
 have e:QM=400000000:=rfl
 have e2:QC=100000000000:=rfl
 have hl:=Cd (l:=List.drop (p.length-k) (am p)) (x:=bu x) (K:=QM) (fun c hc=>by
  have hc':=List.mem_of_mem_drop hc
  obtain ⟨y,hy,rfl⟩:=List.mem_map.1 hc'
  exact (h1 y hy).2) h4
 rw [← hz,List.length_drop,aI] at hl
 have hm:=lj v (bu x)
 have hc:=h1.cf (by omega) (p.length-1-k)
 have h5:(p.length-(p.length-k))*(2*QM+1)≤100*(2*QM+1):=Nat.mul_le_mul_right _ (by omega)
 exact ⟨⟨bQ _,h3,by rw [aK];omega⟩,bQ _,bQ _,by rw [aK,aK];omega⟩
theorem Ib (p:List ND) (x:Rat):aO (List.drop (p.length-(bN p).length) (am p)) x=aO (am p) x:=by
 rw [show (bN p).length=p.length by simp [bN],Nat.sub_self,List.drop_zero]
def rJ (s b:List Rat) (c:Rat):List Rat:=bC (· + ·) (cw s b) (aP [c])
def f9 (p b:List Rat):Nat→List Rat
 |0=> []
 |k+1=>rJ (f9 p b k) b (cf p (p.length-1-k))
def jq (p b:List Rat):List Rat:=f9 p b p.length
def AO (s b:List ND) (c:ND):Prop:=Sz QM s∧Sz QM b∧s.length≤100∧b.length≤100∧NOK c∧lq (bu c)≤QM∧Sz QH (aE (cw (am s) (am b)))
def vj (p b:List ND):Prop:=Sz QM p∧p.length≤100∧∀ k,k<p.length→AO (aE (f9 (am p) (am b) k)) b (bg (cf (am p) (p.length-1-k)))
theorem rK (p q:List Rat):(cw p q).length≤p.length+q.length:=by
 unfold cw
 split
 ·simp
 ·rw [dy];omega
theorem E0 {s b:List ND} {c:ND} (h:AO s b c):(Sz QM s∧Sz QM b∧s.length≤100∧b.length≤100)∧(Sz QC [c]∧ [c].length≤QL)∧Sz QH (aE (cw (am s) (am b)))∧Sz QH (aE (aP (am [c])))∧(aE (cw (am s) (am b))).length≤1000∧(aE (aP (am [c]))).length≤1000:=by
 obtain ⟨h1,h2,h3,h4,h5,h6,h7⟩:=h
 have e:QM=400000000:=rfl
 have e2:QC=100000000000:=rfl
 have e3:QH=40000000000:=rfl
 refine ⟨⟨h1,h2,h3,h4⟩,⟨fun x hx=> ?_,by simp [QL]⟩,h7,eG fun x hx=> ?_,?_,?_⟩
 ·simp only [List.mem_singleton] at hx
  subst hx;exact ⟨h5,by omega⟩
 ·have:x=bu c:=by
   simp only [am,List.map_cons,List.map_nil,aP] at hx
   split at hx
   ·simp at hx
   ·simpa using hx
  rw [this];omega
 ·rw [az]
  have:=rK (am s) (am b)
  rw [aI,aI] at this;omega
 ·rw [az]
  have:=dD (am [c])
  rw [aI] at this
  simp only [List.length_cons,List.length_nil] at this;omega
end Go.Cm
end
section
namespace Go.Cm
open Go.Proofs
theorem Ic (x:Rat) (i k:Nat):x^(i+k)=x^i*x^k:=by
 induction k with
 |zero=>rw [Nat.add_zero,Rat.pow_zero,Rat.mul_one]
 |succ k ih=>rw [← Nat.add_assoc,Rat.pow_succ,Rat.pow_succ,ih,Rat.mul_assoc]
theorem fH (x:Rat):aO [] x=0:=rfl
theorem gl (c:Rat) (l:List Rat) (x:Rat):aO (c::l) x=aO l x*x+c:=rfl
theorem vk (c x:Rat):aO [c] x=c:=by rw [gl,fH];grind
theorem mR (l m:List Rat) (x:Rat):aO (l++m) x=aO l x+x^l.length*aO m x:=by
 induction l with
 |nil=>simp only [List.nil_append,fH,List.length_nil];grind
 |cons c l ih=>simp only [List.cons_append,gl,ih,List.length_cons];grind
theorem AP (n:Nat) (x:Rat):aO (List.replicate n 0) x=0:=by
 induction n with
 |zero=>rfl
 |succ n ih=>rw [List.replicate_succ,gl,ih];grind
theorem ia (l:List Rat) (x:Rat):aO (aP l) x=aO l x:=by
 induction l with
 |nil=>rfl
 |cons c l ih=>
  rw [gl,← ih]
  simp only [aP]
  split
  ·rename_i h
   rw [h]
   split
   ·rename_i h0;rw [h0,fH];grind
   ·rw [vk,fH];grind
  ·rename_i y m h
   rw [h,gl]
theorem Id (l:List Rat) (j:Nat) (y x:Rat) (h:j<l.length):aO (l.set j y) x=aO l x+(y-cf l j)*x^j:=by
 induction l generalizing j with
 |nil=>simp at h
 |cons c l ih=>
  cases j with
  |zero=>simp only [List.set_cons_zero,gl,cf,List.getD_cons_zero];grind
  |succ j=>
   simp only [List.set_cons_succ,gl]
   rw [ih j (by simpa using h)]
   have:cf (c::l) (j+1)=cf l j:=by simp [cf]
   rw [this]
   grind
theorem om (l:List Rat) (k:Nat) (x:Rat) (h:k<l.length):aO (l.take (k+1)) x=aO (l.take k) x+cf l k*x^k:=by
 rw [List.take_succ_eq_append_getElem h,mR,vk,List.length_take,Nat.min_eq_left (by omega)]
 unfold cf
 rw [List.getD_eq_getElem?_getD,List.getElem?_eq_getElem h]
 simp only [Option.getD_some]
 grind
theorem Ie (out:List Rat) (i:Nat) (a:Rat) (q:List Rat) (x:Rat):∀ k,k≤q.length→i+k≤out.length→aO (cl out i a q k) x=aO out x+a*x^i*aO (q.take k) x
 |0,_,_=>by simp only [cl,List.take_zero,fH];grind
 |k+1,hk,h=>by
  rw [cl,Id _ _ _ _ (by rw [gE];omega),Ie out i a q x k (by omega) (by omega),om q k x (by omega)]
  have:x^(i+k)=x^i*x^k:=Ic _ _ _
  rw [this]
  grind
theorem rL (out:List Rat) (i:Nat) (a:Rat) (q:List Rat) (x:Rat) (h:i+q.length≤out.length):aO (cl out i a q q.length) x=aO out x+a*x^i*aO q x:=by
 rw [Ie _ _ _ _ _ _ (Nat.le_refl _) h,List.take_length]
theorem Cf (p q:List Rat) (x:Rat) (hq:0<q.length):∀ i,i≤p.length→aO (mulN p q i) x=aO (p.take i) x*aO q x
 |0,_=>by rw [mulN,AP,List.take_zero,fH];grind
 |i+1,h=>by
  rw [mulN,rL _ _ _ _ _ (by rw [dy];omega),Cf p q x hq i (by omega),om p i x (by omega)]
  grind
theorem mS (p q:List Rat) (x:Rat):aO (cw p q) x=aO p x*aO q x:=by
 unfold cw
 split
 ·rename_i h
  rcases h with h|h<;>(subst h;simp only [fH];grind)
 ·rename_i h
  have hq:0<q.length:=List.length_pos_iff.2 fun e=>h (.inr e)
  rw [Cf p q x hq _ (Nat.le_refl _),List.take_length]
theorem jS (f:Nat→Rat) (x:Rat):∀ n,aO ((List.range (n+1)).map f) x=aO ((List.range n).map f) x+f n*x^n:=by
 intro n
 rw [List.range_succ,List.map_append,mR]
 simp only [List.map_cons,List.map_nil,vk,List.length_map,List.length_range]
 grind
theorem cT {l:List Rat} {i:Nat} (h:l.length≤i):cf l i=0:=by
 unfold cf
 rw [List.getD_eq_getElem?_getD,List.getElem?_eq_none h];rfl
theorem mc (l:List Rat) (x:Rat):∀ n,l.length≤n→aO ((List.range n).map (cf l)) x=aO l x:=by
 have h0:∀ n,n≤l.length→aO ((List.range n).map (cf l)) x=aO (l.take n) x:=by
  intro n
  induction n with
  |zero=>intro _;rfl
  |succ n ih=>intro h;rw [jS,ih (by omega),om l n x (by omega)]
 intro n
 induction n with
 |zero=>intro h;rw [h0 0 (by omega),show l= [] from List.eq_nil_of_length_eq_zero (by omega)];rfl
 |succ n ih=>
  intro h
  by_cases h2:l.length≤n
  ·rw [jS,ih h2,cT h2];grind
  ·rw [h0 _ (by omega),List.take_of_length_le (by omega)]
theorem tn (l m:List Rat) (x:Rat):∀ n,aO (bF (· + ·) l m n) x=aO ((List.range n).map (cf l)) x+aO ((List.range n).map (cf m)) x
 |0=>by simp only [bF,List.range_zero,List.map_nil,fH];grind
 |n+1=>by
  have:=tn l m x n
  unfold bF at this ⊢
  rw [jS,jS,jS,this]
  grind
theorem tv (l m:List Rat) (x:Rat):∀ n,aO (bF (· - ·) l m n) x=aO ((List.range n).map (cf l)) x-aO ((List.range n).map (cf m)) x
 |0=>by simp only [bF,List.range_zero,List.map_nil,fH];grind
 |n+1=>by
  have:=tv l m x n
  unfold bF at this ⊢
  rw [jS,jS,jS,this]
  grind
theorem AQ (l m:List Rat) (x:Rat):aO (bC (· + ·) l m) x=aO l x+aO m x:=by
 rw [bC,ia,tn,mc _ _ _ (by omega),mc _ _ _ (by omega)]
theorem rM (l m:List Rat) (x:Rat):aO (bC (· - ·) l m) x=aO l x-aO m x:=by
 rw [bC,ia,tv,mc _ _ _ (by omega),mc _ _ _ (by omega)]
theorem Ig:∀ {l:List Rat},l≠ []→aH l≠0→∃ d X:Rat,0<d∧1≤X∧∀ x,X≤x→d≤(aO l x).abs
 | [],h,_=>absurd rfl h
 | [c],_,h=>by
  refine ⟨c.abs,1,?_,by grind,fun x _=>by rw [vk];grind⟩
  have:aH [c]=c:=rfl
  rw [this] at h
  unfold Rat.abs
  split<;>grind
 |c::a::l,_,h=>by
  obtain ⟨d,X,h1,h2,h3⟩:=Ig (l:=a::l) (by simp) (by simpa [aH] using h)
  refine ⟨d,max X ((d+c.abs)/d),h1,by grind,fun x hx=> ?_⟩
  have h4:=h3 x (by grind)
  have h5:(d+c.abs)/d≤x:=by grind
  have h6:d+c.abs≤x*d:=by
   have:=Rat.mul_le_mul_of_nonneg_right h5 (Rat.le_of_lt h1)
   rwa [Rat.div_mul_cancel (by grind)] at this
  have h7:1≤x:=by grind
  have h8:x*d≤x*(aO (a::l) x).abs:=Rat.mul_le_mul_of_nonneg_left h4 (by grind)
  rw [gl]
  generalize aO (a::l) x=v at*
  have h9:(v*x).abs=x*v.abs:=by
   by_cases hv:0≤v
   ·rw [Rat.abs_of_nonneg hv,Rat.abs_of_nonneg (Rat.mul_nonneg hv (by grind))];grind
   ·have h11:0≤ -v*x:=Rat.mul_nonneg (by grind) (by grind)
    rw [Rat.abs_of_nonpos (by grind),Rat.abs_of_nonpos (by grind)];grind
  have h10:(v*x).abs≤(v*x+c).abs+c.abs:=by
   unfold Rat.abs
   split<;>split<;>split<;>grind
  grind
end Go.Cm
end
section
namespace Go.Cm
open Go.Proofs
theorem Kw {l:List Rat} (h:Trm l) (h0:∀ x,aO l x=0):l= []:=by
 by_cases hn:l= []
 ·exact hn
 ·obtain ⟨d,X,h1,h2,h3⟩:=Ig hn (h hn)
  have:=h3 X (by grind)
  rw [h0 X] at this
  rw [Rat.abs_zero] at this
  grind
theorem lz (op:Rat→Rat→Rat) (l m:List Rat) (n i:Nat) (h:i<n):cf (bF op l m n) i=op (cf l i) (cf m i):=by
 unfold bF
 conv=>lhs;unfold cf
 rw [List.getD_eq_getElem?_getD,List.getElem?_map,List.getElem?_range h];rfl
theorem Cg (l:List Rat) (i:Nat):cf (aP l) i=cf l i:=by
 induction l generalizing i with
 |nil=>rfl
 |cons c l ih=>
  simp only [aP]
  split
  ·rename_i h
   rw [h] at ih
   have h0:∀ j,cf l j=0:=fun j=>by rw [← ih j];simp [cf]
   split
   ·rename_i hc
    cases i with
    |zero=>simp [cf,hc]
    |succ i=>have:=h0 i;simp only [cf,List.getD_cons_succ] at this ⊢;rw [this];simp
   ·cases i with
    |zero=>simp [cf]
    |succ i=>have:=h0 i;simp only [cf,List.getD_cons_succ] at this ⊢;rw [this];simp
  ·rename_i y m h
   rw [h] at ih
   cases i with
   |zero=>simp [cf]
   |succ i=>have:=ih i;simp only [cf,List.getD_cons_succ] at this ⊢;exact this
theorem L3 {l m:List Rat} (hl:Trm l) (hm:Trm m) (h:∀ i,cf l i=cf m i):l=m:=by
 have hlen:∀ {l m:List Rat},Trm l→(∀ i,cf l i=cf m i)→l.length≤m.length:=by
  intro l m hl h
  by_cases hn:l= []
  ·subst hn;simp
  ·have hp:=List.length_pos_iff.2 hn
   have h1:=hl hn
   rw [bZ hp,h] at h1
   have: ¬m.length≤l.length-1:=fun e=>h1 (cT e)
   omega
 have e:l.length=m.length:=Nat.le_antisymm (hlen hl h) (hlen hm fun i=>(h i).symm)
 apply List.ext_getElem e
 intro i h1 h2
 have:=h i
 unfold cf at this
 rw [List.getD_eq_getElem?_getD,List.getD_eq_getElem?_getD,List.getElem?_eq_getElem h1,List.getElem?_eq_getElem h2] at this
 exact this
theorem lA {l m:List Rat} (hl:Trm l) (hm:Trm m) (h:∀ x,aO l x=aO m x):l=m:=by
 have h0:bC (· - ·) l m= []:=Kw (gF _) fun x=>by rw [rM,h];grind
 refine L3 hl hm fun i=> ?_
 by_cases hi:i<max l.length m.length
 ·have h1:=Cg (bF (· - ·) l m (max l.length m.length)) i
  rw [show aP (bF (· - ·) l m (max l.length m.length))= [] from h0,lz _ _ _ _ _ hi] at h1
  have:cf [] i=0:=by simp [cf]
  rw [this] at h1
  grind
 ·rw [cT (by omega),cT (by omega)]
theorem Ch:Trm []:=fun h=>absurd rfl h
theorem kq {l:List Rat} (h:Trm l):aP l=l:=by
 by_cases hn:l= []
 ·subst hn;rfl
 ·exact ll hn (h hn)
theorem eg (op:Rat→Rat→Rat) (l m:List Rat):Trm (bC op l m):=gF _
theorem eQ (op:Rat→Rat→Rat) (l m:List Rat):(bC op l m).length≤max l.length m.length:=by
 have:=dD (bF op l m (max l.length m.length))
 rw [d7] at this
 exact this
theorem tw (p q:List Rat) (hq:0<q.length):∀ i,i≤p.length→∀ n,i+q.length≤n+1→cf (mulN p q i) n=0
 |0,_,n,_=>by
  rw [mulN]
  unfold cf
  rw [List.getD_eq_getElem?_getD]
  by_cases h:n<p.length+q.length-1
  ·rw [List.getElem?_replicate,if_pos h];rfl
  ·rw [List.getElem?_eq_none (by simp;omega)];rfl
 |i+1,h,n,hn=>by
  rw [mulN,jc _ _ _ _ _ _ (by rw [dy];omega),if_neg (by omega)]
  exact tw p q hq i (by omega) n (by omega)
theorem Ih {p q:List Rat} (hp:0<p.length) (hq:0<q.length):aH (mulN p q p.length)=aH p*aH q:=by
 obtain ⟨n,hn⟩:∃ n,p.length=n+1:=⟨p.length-1,by omega⟩
 rw [bZ (by rw [dy];omega),dy,hn,mulN,jc _ _ _ _ _ _ (by rw [dy];omega),if_pos (by omega),tw p q hq n (by omega) _ (by omega:n+q.length≤(n+1+q.length-1-1)+1)]
 rw [bZ hp,bZ hq,hn]
 have e1:n+1+q.length-1-1-n=q.length-1:=by omega
 have e2:n+1-1=n:=by omega
 rw [e1,e2]
 grind
theorem vl {p q:List Rat} (hp:p≠ []) (hq:q≠ []):cw p q=mulN p q p.length:=by
 unfold cw;rw [if_neg];rintro (h|h)
 ·exact hp h
 ·exact hq h
theorem jT {p q:List Rat} (hp:p≠ []) (hq:q≠ []):(cw p q).length=p.length+q.length-1:=by
 rw [vl hp hq,dy]
theorem fI (q:List Rat):cw [] q= []:=by unfold cw;rw [if_pos (.inl rfl)]
theorem lB (p:List Rat):cw p []= []:=by unfold cw;rw [if_pos (.inr rfl)]
theorem E1 {p q:List Rat} (hp:p≠ []) (hq:q≠ []):aH (cw p q)=aH p*aH q:=by
 rw [vl hp hq,Ih (List.length_pos_iff.2 hp) (List.length_pos_iff.2 hq)]
theorem md {p q:List Rat} (hp:Trm p) (hq:Trm q):Trm (cw p q):=by
 intro h
 by_cases h1:p= []
 ·subst h1;exact absurd (fI q) h
 by_cases h2:q= []
 ·subst h2;exact absurd (lB p) h
 rw [E1 h1 h2]
 have:=hp h1;have:=hq h2
 grind
theorem AR {q r:List Rat} (h:q.length≤r.length) (x:Rat):aO (aP (ce q r)) x=aO r x-(aH r/aH q)*x^(r.length-q.length)*aO q x:=by
 rw [ia,ce,rL _ _ _ _ _ (by omega)]
 grind
theorem xH {q:List Rat} (hq:0<q.length) (h0:aH q≠0) (x:Rat):∀ (n:Nat) (r s:List Rat),r.length<n→(∀ i,i+q.length≤r.length→cf s i=0)→r.length+1-q.length≤s.length→
  aO (em q n r s).1 x*aO q x+aO (em q n r s).2 x=aO s x*aO q x+aO r x
 |0,r,s,h,_,_=>absurd h (by omega)
 |n+1,r,s,h,hz,hs=>by
  rw [em]
  split
  ·rename_i hl
   have h1:=eH hq hl h0
   rw [xH hq h0 x n _ _ (by omega) (fun i hi=>by rw [HY,if_neg (by omega)];exact hz i (by omega)) (by rw [List.length_set];omega)]
   rw [AR hl,Id _ _ _ _ (by omega),hz _ (by omega)]
   grind
  ·rfl
theorem vm {p q:List Rat} (hq:q≠ []) (h0:Trm q) (x:Rat):aO (divN p q).1 x*aO q x+aO (divN p q).2 x=aO p x:=by
 unfold divN
 rw [xH (List.length_pos_iff.2 hq) (h0 hq) x _ _ _ (Nat.lt_succ_self _) (fun i _=> ?_) (by simp),AP]
 ·grind
 ·unfold cf
  rw [List.getD_eq_getElem?_getD,List.getElem?_replicate]
  split<;>rfl
theorem AU {q s t r u:List Rat} (hq:q≠ []) (tq:Trm q) (ts:Trm s) (tt:Trm t) (tr:Trm r) (tu:Trm u) (hr:r.length<q.length) (hu:u.length<q.length)
  (h:∀ x,aO s x*aO q x+aO r x=aO t x*aO q x+aO u x):s=t∧r=u:=by
 have h1:cw (bC (· - ·) s t) q=bC (· - ·) u r:=lA (md (eg _ _ _) tq) (eg _ _ _) fun x=>by
  rw [mS,rM,rM];have:=h x;grind
 have h2:bC (· - ·) s t= []:=by
  by_cases hd:bC (· - ·) s t= []
  ·exact hd
  ·have:=jT hd hq
   rw [h1] at this
   have h3:=eQ (· - ·) u r
   have h4:=List.length_pos_iff.2 hd
   omega
 have h3:s=t:=lA ts tt fun x=>by have:=rM s t x;rw [h2,fH] at this;grind
 refine ⟨h3,lA tr tu fun x=> ?_⟩
 have:=h x
 rw [h3] at this
 grind
theorem xI {p q s r:List Rat} (hq:q≠ []) (tp:Trm p) (tq:Trm q) (ts:Trm s) (tr:Trm r) (hr:r.length<q.length) (h:∀ x,aO s x*aO q x+aO r x=aO p x):
  aP (divN p q).1=s∧(divN p q).2=r:=
 AU hq tq (gF _) ts (fG tp) tr (d9 (List.length_pos_iff.2 hq) (tq hq)) hr fun x=>by rw [ia,vm hq tq,h]
end Go.Cm
end
section
namespace Go.Cm
open Go.Proofs
def Den (b:Nat) (l:List Rat):Prop:=∃ D:Int,D≠0∧lw D≤b∧∀ i,∃ n:Int,lw n≤b∧cf l i=Rat.divInt n D
theorem Den.mono {b c:Nat} {l:List Rat} (h:Den b l) (hc:b≤c):Den c l:=by
 obtain ⟨D,h1,h2,h3⟩:=h
 exact ⟨D,h1,by omega,fun i=>by obtain ⟨n,a,e⟩:=h3 i;exact ⟨n,by omega,e⟩⟩
theorem Den.lq {b:Nat} {l:List Rat} (h:Den b l):∀ x∈l,lq x≤b:=by
 obtain ⟨D,h1,h2,h3⟩:=h
 intro x hx
 obtain ⟨i,hi,rfl⟩:=List.getElem_of_mem hx
 obtain ⟨n,a,e⟩:=h3 i
 unfold cf at e
 rw [List.getD_eq_getElem?_getD,List.getElem?_eq_getElem hi] at e
 simp only [Option.getD_some] at e
 rw [e]
 have:=mL n D h1
 omega
theorem Den.sz {b k:Nat} {l:List Rat} (h:Den b l) (hk:b≤k):Sz k (aE l):=eG fun x hx=>Nat.le_trans (h.lq x hx) hk
theorem E2 {b:Nat} {l m:List Rat} (h:Den b l) (he:∀ i,cf m i=cf l i):Den b m:=by
 obtain ⟨D,h1,h2,h3⟩:=h
 exact ⟨D,h1,h2,fun i=>by rw [he];exact h3 i⟩
theorem jU {b:Nat} {l:List Rat} (h:Den b l):Den b (aP l):=E2 h fun i=>Cg l i
theorem oo {b:Nat} (hb:1≤b):Den b []:=⟨1,by decide,by rw [rl];exact hb,fun i=>⟨0,by rw [gj];omega,by rw [Rat.zero_divInt];simp [cf]⟩⟩
theorem Den.pos {b:Nat} {l:List Rat} (h:Den b l):1≤b:=by
 obtain ⟨D,h1,h2,_⟩:=h
 have:lw D≠0:=fun e=>by have:=nJ D;rw [e] at this;simp at this;omega
 omega
theorem tz {n D:Int} (hD:D≠0) (h:Rat.divInt n D≠0):n≠0:=fun e=>h (by rw [e,Rat.zero_divInt])
theorem Ii (a b:Int):lw (a-b)≤max (lw a) (lw b)+1:=by
 have:=rm a (-b)
 rw [HC] at this
 exact this
theorem rN {b c:Nat} {q r:List Rat} (hr:Den b r) (hq:Den c q) (hl:q.length≤r.length) (h0:aH q≠0) (hp:0<q.length):Den (b+c+1) (aP (ce q r)):=by
 refine jU ?_
 obtain ⟨D,d1,d2,d3⟩:=hr
 obtain ⟨E,e1,e2,e3⟩:=hq
 obtain ⟨R,r1,r2⟩:=d3 (r.length-1)
 obtain ⟨Q,q1,q2⟩:=e3 (q.length-1)
 rw [← bZ (by omega)] at r2
 rw [← bZ hp] at q2
 have hQ:Q≠0:=tz e1 (by rw [← q2];exact h0)
 have hDQ:D*Q≠0:=Int.mul_ne_zero d1 hQ
 refine ⟨D*Q,hDQ,by have:=bW D Q;omega,fun i=> ?_⟩
 unfold ce
 rw [jc _ _ _ _ _ _ (by omega)]
 obtain ⟨n,n1,n2⟩:=d3 i
 split
 ·obtain ⟨m,m1,m2⟩:=e3 (i-(r.length-q.length))
  refine ⟨n*Q-R*m,?_,?_⟩
  ·have:=bW n Q;have:=bW R m;have:=Ii (n*Q) (R*m);omega
  ·rw [n2,m2,r2,q2]
   simp only [Rat.divInt_eq_div,Rat.intCast_mul,Rat.intCast_sub]
   have f1:(D:Rat)≠0:=by simpa using d1
   have f2:(E:Rat)≠0:=by simpa using e1
   have f3:(Q:Rat)≠0:=by simpa using hQ
   generalize (D:Rat)=D' at*;generalize (E:Rat)=E' at*;generalize (Q:Rat)=Q' at*
   grind
 ·refine ⟨n*Q,by have:=bW n Q;omega,?_⟩
  rw [n2,Rat.divInt_mul_right hQ]
theorem tA {b:Nat} {l:List Rat} (h:Den b l) (ht:Trm l):Den b (cH l):=by
 by_cases hn:l= []
 ·subst hn;exact h
 have hp:=List.length_pos_iff.2 hn
 obtain ⟨D,d1,d2,d3⟩:=h
 obtain ⟨R,r1,r2⟩:=d3 (l.length-1)
 rw [← bZ hp] at r2
 have hR:R≠0:=tz d1 (by rw [← r2];exact ht hn)
 refine ⟨R,hR,r1,fun i=> ?_⟩
 obtain ⟨n,n1,n2⟩:=d3 i
 refine ⟨n,n1,?_⟩
 have:cf (cH l) i=cf l i/aH l:=by
  unfold cH cf
  simp only [List.getD_eq_getElem?_getD,List.getElem?_map]
  cases l[i]? with
  |none=>simp;grind
  |some x=>rfl
 rw [this,n2,r2]
 simp only [Rat.divInt_eq_div]
 have f1:(D:Rat)≠0:=by simpa using d1
 have f3:(R:Rat)≠0:=by simpa using hR
 generalize (D:Rat)=D' at*;generalize (R:Rat)=R' at*
 grind
theorem xJ {c:Nat} {q:List Rat} (hq:Den c q) (hp:0<q.length) (h0:aH q≠0):∀ (n:Nat) (r s:List Rat) (b:Nat),Den b r→Den (b+(r.length+1-q.length)*(c+1)) (em q n r s).2
 |0,r,s,b,h=>h.mono (by omega)
 |n+1,r,s,b,h=>by
  rw [em]
  split
  ·rename_i hl
   have h1:=eH hp hl h0
   refine (xJ hq hp h0 n _ _ _ (rN h hq hl h0 hp)).mono ?_
   have h2:(aP (ce q r)).length+1-q.length+1≤r.length+1-q.length:=by omega
   have h3:=Nat.mul_le_mul_right (c+1) h2
   rw [Nat.add_mul] at h3
   omega
  ·exact h.mono (by omega)
theorem vn {c:Nat} {q:List Rat} (hq:Den c q) (hp:0<q.length) (h0:aH q≠0):∀ (n:Nat) (r:List Rat) (b:Nat),Den b r→b+(r.length+1-q.length)*(c+1)≤QD→rD q n r
 |0,r,b,h,hb=>trivial
 |n+1,r,b,h,hb=>by
  refine ⟨fun x hx=>by have:=h.lq x hx;omega,fun hl=> ?_⟩
  have h1:=eH hp hl h0
  refine vn hq hp h0 n _ _ (rN h hq hl h0 hp) ?_
  have h2:(aP (ce q r)).length+1-q.length+1≤r.length+1-q.length:=by omega
  have h3:=Nat.mul_le_mul_right (c+1) h2
  rw [Nat.add_mul] at h3
  omega
theorem Ij {c K:Nat} {q:List Rat} (hq:Den c q) (hp:0<q.length) (h0:aH q≠0):∀ (n:Nat) (r s:List Rat) (b:Nat),Den b r→(∀ x∈s,lq x≤K)→b+(r.length+1-q.length)*(c+1)≤K→∀ x∈(em q n r s).1,lq x≤K
 |0,r,s,b,h,hs,hb=>hs
 |n+1,r,s,b,h,hs,hb=>by
  rw [em]
  split
  ·rename_i hl
   have h1:=eH hp hl h0
   have h2:(aP (ce q r)).length+1-q.length+1≤r.length+1-q.length:=by omega
   have h3:=Nat.mul_le_mul_right (c+1) h2
   rw [Nat.add_mul] at h3
   refine Ij hq hp h0 n _ _ _ (rN h hq hl h0 hp) ?_ (by omega)
   intro x hx
   rcases List.mem_or_eq_of_mem_set hx with hx|rfl
   ·exact hs x hx
   ·have h4:=uY (aH r) (aH q)
    have h5:=h.lq (aH r) (by rw [bZ (by omega)];exact ry (by omega))
    have h6:=hq.lq (aH q) (by rw [bZ hp];exact ry (by omega))
    omega
  ·exact hs
theorem AW {p q:List ND} {b c:Nat} (hp:∀ x∈p,NOK x) (hq:∀ x∈q,NOK x) (dp:Den b (am p)) (dq:Den c (am q)) (l1:p.length≤900) (l2:q.length≤900) (hn:0<q.length) (tq:Trm (am q))
  (hb:b+(p.length+1-q.length)*(c+1)≤QD) (hc:c≤QD):eO p q:=by
 have hQ:QD≤QC:=by unfold QD QC;omega
 have hne:am q≠ []:=fun e=>by have:=congrArg List.length e;rw [aI,List.length_nil] at this;omega
 have hln:0<(am q).length:=by rw [aI];exact hn
 refine ⟨hp,?_,l1,l2,hn,tq hne,vn dq hln (tq hne) _ _ _ dp (by rw [aI,aI];exact hb)⟩
 have:=dq.sz hc
 rwa [vg hq] at this
theorem me {p q:List Rat} {b c K:Nat} (dp:Den b p) (dq:Den c q) (hn:q≠ []) (tq:Trm q) (hb:b+(p.length+1-q.length)*(c+1)≤K) (hK:1≤K):(∀ x∈(divN p q).1,lq x≤K)∧Den K (divN p q).2:=by
 unfold divN
 refine ⟨Ij dq (List.length_pos_iff.2 hn) (tq hn) _ _ _ _ dp (fun x hx=> ?_) hb,(xJ dq (List.length_pos_iff.2 hn) (tq hn) _ _ _ _ dp).mono hb⟩
 rw [(List.mem_replicate.1 hx).2];exact Nat.le_trans g9 hK
theorem rO (q:List Rat):∀ (n:Nat) (r s:List Rat),(em q n r s).1.length=s.length
 |0,_,_=>rfl
 |n+1,r,s=>by
  rw [em]
  split
  ·rw [rO q n,List.length_set]
  ·rfl
theorem gx (p q:List Rat):(divN p q).1.length=p.length+1-q.length:=by
 unfold divN;rw [rO];simp
theorem tB:∀ t:Nat,t+3≤3^(t+1)
 |0=>by decide
 |t+1=>by have:=tB t;rw [Nat.pow_succ];omega
theorem xK:∀ (n:Nat) (p q:List Rat) (b:Nat),Den b p→Den b q→Trm p→Trm q→q.length<n→(b+1)*(p.length+1-q.length+1)*3^q.length≤QD→rE n p q∧Den ((b+1)*(p.length+1-q.length+1)*3^q.length) (dM n p q)
 |0,p,q,b,_,_,_,_,h,_=>absurd h (by omega)
 |n+1,p,q,b,dp,dq,tp,tq,hn,hb=>by
  have hpow:0<3^q.length:=Nat.pow_pos (by decide)
  have hb1:(b+1)*(p.length+1-q.length+1)≤QD:=Nat.le_trans (Nat.le_mul_of_pos_right _ hpow) hb
  have hb2:b+(p.length+1-q.length)*(b+1)+1=(b+1)*(p.length+1-q.length+1):=by
   have e:=Nat.mul_add (b+1) (p.length+1-q.length) 1
   rw [Nat.mul_one,Nat.mul_comm (b+1) (p.length+1-q.length)] at e
   omega
  have hb3:b≤QD:=by
   have:0≤(p.length+1-q.length)*(b+1):=Nat.zero_le _
   omega
  have hqh:QD≤QH:=by unfold QD QH;omega
  rw [rE,dM]
  by_cases hq:q= []
  ·rw [if_pos hq,if_pos hq]
   exact ⟨fun x hx=>by have:=dp.lq x hx;omega,(tA dp tp).mono (Nat.le_trans (by omega:b≤(b+1)*(p.length+1-q.length+1)) (Nat.le_mul_of_pos_right _ hpow))⟩
  ·rw [if_neg hq,if_neg hq]
   have hl:=List.length_pos_iff.2 hq
   have hs:=d9 (p:=p) hl (tq hq)
   obtain ⟨k1,k2⟩:=me (K:=b+(p.length+1-q.length)*(b+1)) dp dq hq tq (Nat.le_refl _) (by have:=dp.pos;omega)
   have tr:=fG (q:=q) tp
   have hm:=tA k2 tr
   have hphi:(b+(p.length+1-q.length)*(b+1)+1)*(q.length+1-(cH (divN p q).2).length+1)*3^(cH (divN p q).2).length≤(b+1)*(p.length+1-q.length+1)*3^q.length:=by
    rw [hb2,bX]
    rw [Nat.mul_assoc]
    refine Nat.mul_le_mul_left _ ?_
    obtain ⟨t,ht⟩:∃ t,q.length=(divN p q).2.length+(t+1):=⟨q.length-(divN p q).2.length-1,by omega⟩
    rw [ht,Nat.pow_add,Nat.mul_comm]
    refine Nat.mul_le_mul_left _ ?_
    have:=tB t
    omega
   obtain ⟨g1,g2⟩:=xK n q (cH (divN p q).2) _ (dq.mono (by omega)) hm tq (gw tr) (by rw [bX];omega) (Nat.le_trans hphi hb)
   exact ⟨⟨vn dq hl (tq hq) _ _ _ dp (by omega),fun x hx=>by have:=dq.lq x hx;omega,fun x hx=>by have:=k2.lq x hx;omega,g1⟩,g2.mono hphi⟩
theorem L4 {p q:List ND} {b:Nat} (hp:∀ x∈p,NOK x) (hq:∀ x∈q,NOK x) (dp:Den b (am p)) (dq:Den b (am q)) (l1:p.length≤900) (l2:q.length≤900) (tp:Trm (am p)) (tq:Trm (am q))
  (hb:(b+1)*(p.length+1-q.length+1)*3^q.length≤QD):hZ p q∧Den ((b+1)*(p.length+1-q.length+1)*3^q.length) (cm (am p) (am q)):=by
 obtain ⟨h1,h2⟩:=xK (q.length+1) (am p) (am q) b dp dq tp tq (by rw [aI];omega) (by rw [aI,aI];exact hb)
 refine ⟨⟨hp,hq,l1,l2,tp,tq,h1⟩,?_⟩
 rw [aI,aI] at h2
 unfold cm;rw [aI];exact h2
theorem den_add {b c:Nat} {l m:List Rat} (hl:Den b l) (hm:Den c m):Den (b+c+1) (bC (· + ·) l m):=by
 refine jU ?_
 obtain ⟨D,d1,d2,d3⟩:=hl
 obtain ⟨E,e1,e2,e3⟩:=hm
 refine ⟨D*E,Int.mul_ne_zero d1 e1,by have:=bW D E;omega,fun i=> ?_⟩
 by_cases hi:i<max l.length m.length
 ·rw [lz _ _ _ _ _ hi]
  obtain ⟨n,n1,n2⟩:=d3 i
  obtain ⟨k,k1,k2⟩:=e3 i
  refine ⟨n*E+k*D,by have:=bW n E;have:=bW k D;have:=rm (n*E) (k*D);omega,?_⟩
  rw [n2,k2,Rat.divInt_add_divInt _ _ d1 e1]
 ·refine ⟨0,by rw [gj];omega,?_⟩
  rw [cT (by rw [d7];omega),Rat.zero_divInt]
theorem Kx {b c:Nat} {l m:List Rat} (hl:Den b l) (hm:Den c m):Den (b+c+1) (bC (· - ·) l m):=by
 refine jU ?_
 obtain ⟨D,d1,d2,d3⟩:=hl
 obtain ⟨E,e1,e2,e3⟩:=hm
 refine ⟨D*E,Int.mul_ne_zero d1 e1,by have:=bW D E;omega,fun i=> ?_⟩
 by_cases hi:i<max l.length m.length
 ·rw [lz _ _ _ _ _ hi]
  obtain ⟨n,n1,n2⟩:=d3 i
  obtain ⟨k,k1,k2⟩:=e3 i
  refine ⟨n*E-k*D,by have:=bW n E;have:=bW k D;have:=Ii (n*E) (k*D);omega,?_⟩
  rw [n2,k2,Rat.divInt_sub_divInt _ _ d1 e1]
 ·refine ⟨0,by rw [gj];omega,?_⟩
  rw [cT (by rw [d7];omega),Rat.zero_divInt]
end Go.Cm
end
section
namespace Go.Cm
open Go.Proofs
theorem Ik {a:Int} {b:Nat} (h:lw a≤b):(a.natAbs:Int)≤LB^b:=by
 have:=q9 a h
 omega
theorem xL {b c:Nat} {p q:List Rat} {D E:Int} (d1:D≠0) (e1:E≠0) (hp:∀ i,∃ n:Int,lw n≤b∧cf p i=Rat.divInt n D) (hq:∀ i,∃ n:Int,lw n≤c∧cf q i=Rat.divInt n E) (hl:0<q.length):
  ∀ i,i≤p.length→∀ n,∃ N:Int,(N.natAbs:Int)≤i*(LB^b*LB^c)∧cf (mulN p q i) n=Rat.divInt N (D*E)
 |0,_,n=>⟨0,by simp,by
   rw [Rat.zero_divInt]
   by_cases h:n<(mulN p q 0).length
   ·unfold mulN cf
    rw [List.getD_eq_getElem?_getD,List.getElem?_replicate]
    split<;>rfl
   ·exact cT (by omega)⟩
 |i+1,h,n=>by
  obtain ⟨N,h1,h2⟩:=xL d1 e1 hp hq hl i (by omega) n
  rw [mulN,jc _ _ _ _ _ _ (by rw [dy];omega)]
  have hpos:(0:Int)≤LB^b*LB^c:=Int.mul_nonneg (Int.le_of_lt (lbpos _)) (Int.le_of_lt (lbpos _))
  have e:((i+1:Nat):Int)*(LB^b*LB^c)=(i:Int)*(LB^b*LB^c)+LB^b*LB^c:=by rw [Int.natCast_add,Int.add_mul];simp
  rw [e]
  split
  ·obtain ⟨x,x1,x2⟩:=hp i
   obtain ⟨y,y1,y2⟩:=hq (n-i)
   refine ⟨N+x*y,?_,?_⟩
   ·have h3:=Ik x1
    have h4:=Ik y1
    have h5:(x.natAbs:Int)*(y.natAbs:Int)≤LB^b*LB^c:=by
     have h6:(x.natAbs:Int)*(y.natAbs:Int)≤LB^b*(y.natAbs:Int):=Int.mul_le_mul_of_nonneg_right h3 (by omega)
     have h7:LB^b*(y.natAbs:Int)≤LB^b*LB^c:=Int.mul_le_mul_of_nonneg_left h4 (Int.le_of_lt (lbpos _))
     omega
    have h8:(N+x*y).natAbs≤N.natAbs+(x*y).natAbs:=Int.natAbs_add_le _ _
    rw [Int.natAbs_mul] at h8
    have h9:((N+x*y).natAbs:Int)≤(N.natAbs:Int)+(x.natAbs:Int)*(y.natAbs:Int):=by
     rw [← Int.natCast_mul];omega
    omega
   ·rw [h2,x2,y2,Rat.divInt_mul_divInt,Rat.divInt_add_divInt _ _ (Int.mul_ne_zero d1 e1) (Int.mul_ne_zero d1 e1),← Int.add_mul,Rat.divInt_mul_right (Int.mul_ne_zero d1 e1)]
  ·exact ⟨N,by omega,h2⟩
theorem den_mul {b c:Nat} {p q:List Rat} (hp:Den b p) (hq:Den c q) (hl:p.length<1000000000):Den (b+c+1) (cw p q):=by
 have hb:=hp.pos
 by_cases h1:p= []
 ·subst h1;rw [fI];exact oo (by omega)
 by_cases h2:q= []
 ·subst h2;rw [lB];exact oo (by omega)
 rw [vl h1 h2]
 obtain ⟨D,d1,d2,d3⟩:=hp
 obtain ⟨E,e1,e2,e3⟩:=hq
 refine ⟨D*E,Int.mul_ne_zero d1 e1,by have:=bW D E;omega,fun n=> ?_⟩
 obtain ⟨N,k1,k2⟩:=xL d1 e1 d3 e3 (List.length_pos_iff.2 h2) _ (Nat.le_refl _) n
 refine ⟨N,kO ?_,k2⟩
 have k3:(0:Int)<LB^b*LB^c:=Int.mul_pos (lbpos _) (lbpos _)
 have k4:(p.length:Int)*(LB^b*LB^c)<LB*(LB^b*LB^c):=Int.mul_lt_mul_of_pos_right (by show (p.length:Int)<1000000000;omega) k3
 have k5:(LB:Int)^(b+c+1)=LB*(LB^b*LB^c):=by rw [Int.pow_succ,Int.pow_add,Int.mul_comm]
 omega
theorem Ci {b:Nat} {l:List Rat} (h:Den b l):(l.length<1000000000)→Den (b+1) (ci l):=by
 intro hl
 obtain ⟨D,d1,d2,d3⟩:=h
 refine ⟨D,d1,by omega,fun i=> ?_⟩
 by_cases hi:i<l.length-1
 ·obtain ⟨n,n1,n2⟩:=d3 (i+1)
  have:cf (ci l) i=cf l (i+1)*Rat.divInt ((i+1:Nat):Int) 1:=by
   unfold ci lu
   conv=>lhs;unfold cf
   rw [List.getD_eq_getElem?_getD,List.getElem?_map,List.getElem?_range hi];rfl
  refine ⟨n*((i+1:Nat):Int),?_,?_⟩
  ·have h1:lw (((i+1:Nat):Int))≤1:=kO (by show _<(1000000000:Int)^1;omega)
   have:=bW n ((i+1:Nat):Int)
   omega
  ·rw [this,n2,Rat.divInt_mul_divInt,Int.mul_one]
 ·refine ⟨0,by rw [gj];omega,?_⟩
  rw [Rat.zero_divInt,cT]
  unfold ci lu
  simp;omega
end Go.Cm
end
section
namespace Go.Cm
open Go.Proofs
def cD (p:List (List UInt8)):Int:=
 if 41<p.length then 40 else if p.all (fun q=>decide (c6 q=0))=false then 40
 else if p≠ []∧p.getLastD []= [48] then 40 else 0
def aZ (p:List (List UInt8)):List Rat:=if cD p=0 then p.map bw else []
def cS (p:List (List UInt8)):Prop:=p.length≤QL∧∀ q∈p,q.length≤QL
theorem mT {q:List UInt8} (h:c6 q=0) (hl:q.length≤QL):fp q∧fP q=bg (bw q):=by
 have:RQ q:=⟨by rw [h];decide,hl⟩
 exact ⟨this.form,this.raw⟩
theorem AX {p:List (List UInt8)} {k:Nat} (hk:k<p.length) (h:(p.take k).all (fun q=>decide (c6 q=0))=true) (hb:c6 (nth .str p (k:Int))=0):(p.take (k+1)).all (fun q=>decide (c6 q=0))=true:=by
 have e:nth .str p (k:Int)=p[k]:=fi (t:= .str) hk
 rw [List.take_succ_eq_append_getElem hk,List.all_append,h]
 rw [e] at hb
 simp [hb]
theorem E3 {p:List (List UInt8)} {k:Nat} (hk:k<p.length) (h41:p.length≤41) (hb: ¬c6 (nth .str p (k:Int))=0):cD p=40:=by
 have e:nth .str p (k:Int)=p[k]:=fi (t:= .str) hk
 rw [e] at hb
 unfold cD
 rw [if_neg (by omega),if_pos]
 rw [List.all_eq_false]
 exact ⟨p[k],List.getElem_mem hk,by simpa using hb⟩
theorem rP {p:List (List UInt8)} (hs:cS p) (h:p.all (fun q=>decide (c6 q=0))=true):(∀ q∈p,fp q)∧p.map fP=aE (p.map bw):=by
 rw [List.all_eq_true] at h
 refine ⟨fun q hq=>(mT (by simpa using h q hq) (hs.2 q hq)).1,?_⟩
 unfold aE
 rw [List.map_map]
 exact List.map_congr_left fun q hq=>(mT (by simpa using h q hq) (hs.2 q hq)).2
theorem AY {p:List (List UInt8)} (hl:p.length≤41):(decide ((0:Int)<(p.length:Int))=true→decide ((0:Int)<(p.length:Int))=true)∧(decide ((0:Int)<(p.length:Int))=true→decide ((0:Int)<(p.length:Int))=true)∧(decide ((0:Int)<(p.length:Int))=true→decide ((0:Int)<(p.length:Int))=true∧0≤IntKind.i64.wrap ((p.length:Int)-1)∧IntKind.i64.wrap ((p.length:Int)-1)<(p.length:Int))∧(decide ((0:Int)<(p.length:Int))=true→decide ((0:Int)<(p.length:Int))=true):=by
 refine ⟨id,id,fun h=> ?_,id⟩
 have h2:=of_decide_eq_true h
 rw [b7 (by omega)]
 exact ⟨h,by omega,by omega⟩
theorem rQ {p:List (List UInt8)} (h:cD p=40): []=aE (aZ p)∧40=cD p:=by
 refine ⟨?_,h.symm⟩
 unfold aZ;rw [if_neg (by rw [h];decide)];rfl
theorem AZ {p:List (List UInt8)} (h:41<p.length):cD p=40:=by unfold cD;rw [if_pos h]
theorem nO {p:List (List UInt8)} (hl:p.length≤41) (h:0<p.length):nth .str p (IntKind.i64.wrap ((p.length:Int)-1))=p.getLastD []:=by
 rw [b7 (by omega),show (p.length:Int)-1=((p.length-1:Nat):Int) by omega,fi (t:= .str) (by omega)]
 rw [List.getLastD_eq_getLast?,List.getLast?_eq_getElem?,List.getElem?_eq_getElem (by omega)];rfl
theorem A0 {p:List (List UInt8)} (hl:p.length≤41) (ha:p.all (fun q=>decide (c6 q=0))=true) (h:0<(p.length:Int)∧nth .str p (IntKind.i64.wrap ((p.length:Int)-1))= [48]):cD p=40:=by
 rw [nO hl (by omega)] at h
 unfold cD
 rw [if_neg (by omega),if_neg (by rw [ha];decide),if_pos]
 refine ⟨fun e=> ?_,h.2⟩
 rw [e] at h;exact absurd h.1 (by decide)
theorem Il {p:List (List UInt8)} (hs:cS p) (hl:p.length≤41) (ha:p.all (fun q=>decide (c6 q=0))=true) (h:0<(p.length:Int)→ ¬nth .str p (IntKind.i64.wrap ((p.length:Int)-1))= [48]):p.map fP=aE (aZ p)∧0=cD p:=by
 have hc:cD p=0:=by
  unfold cD
  rw [if_neg (by omega),if_neg (by rw [ha];decide),if_neg]
  intro h2
  have h3:0<p.length:=by cases p with|nil=>exact absurd rfl h2.1|cons=>simp
  exact h (by omega) (by rw [nO hl h3];exact h2.2)
 refine ⟨?_,hc.symm⟩
 unfold aZ;rw [if_pos hc]
 exact (rP hs ha).2
end Go.Cm
namespace Go.Cm
open Go.Proofs
def bR:List (List (List UInt8))→Int
 | []=>0
 |p::l=>if cD p=0 then bR l else cD p
def ga (l:List (List (List UInt8))):List (List ND):=if bR l=0 then l.map fun p=>aE (aZ p) else []
theorem Im {l:List (List (List UInt8))} (h:∀ p∈l,cD p=0):bR l=0:=by
 induction l with
 |nil=>rfl
 |cons a l ih=>
  unfold bR
  rw [if_pos (h a (by simp))]
  exact ih fun p hp=>h p (by simp [hp])
theorem E4 {l:List (List (List UInt8))} {k:Nat} (hk:k<l.length) (h:(l.take k).all (fun p=>decide (cD p=0))=true) (hb: ¬cD l[k]=0):bR l=cD l[k]:=by
 induction l generalizing k with
 |nil=>simp at hk
 |cons a l ih=>
  unfold bR
  cases k with
  |zero=>exact if_neg hb
  |succ k=>
   simp only [List.take_succ_cons,List.all_cons,Bool.and_eq_true,decide_eq_true_eq] at h
   rw [if_pos h.1]
   exact ih (by simpa using hk) h.2 (by simpa using hb)
end Go.Cm
namespace Go.Cm
open Go.Proofs
theorem rR {l:List (List (List UInt8))} {k:Nat} (hl:l.length≤1000) (hk:k<l.length) (g:(l.take k).all (fun p=>decide (cD p=0))=true) (hb:cD (nth (.slice .str) l (k:Int))=0):
  IntKind.i64.wrap ((k:Int)+1)=((k+1:Nat):Int)∧(l.take k).map (fun p=>aE (aZ p))++ [aE (aZ (nth (.slice .str) l (k:Int)))]=(l.take (k+1)).map (fun p=>aE (aZ p))∧k+1≤l.length∧(l.take (k+1)).all (fun p=>decide (cD p=0))=true∧l.length-(k+1)<l.length-k:=by
 have e:nth (.slice .str) l (k:Int)=l[k]:=fi (t:= .slice .str) hk
 rw [e] at hb ⊢
 refine ⟨wi (by omega) (by omega),?_,hk,?_,by omega⟩
 ·rw [List.take_succ_eq_append_getElem hk,List.map_append];rfl
 ·rw [List.take_succ_eq_append_getElem hk,List.all_append,g]
  simp [hb]
theorem xM {l:List (List (List UInt8))} {k:Nat} (hk:k<l.length) (g:(l.take k).all (fun p=>decide (cD p=0))=true) (hb: ¬cD (nth (.slice .str) l (k:Int))=0): []=ga l∧cD (nth (.slice .str) l (k:Int))=bR l:=by
 have e:nth (.slice .str) l (k:Int)=l[k]:=fi (t:= .slice .str) hk
 rw [e] at hb ⊢
 have h:=E4 hk g hb
 refine ⟨?_,h.symm⟩
 unfold ga;rw [if_neg (by rw [h];exact hb)]
theorem Io {l:List (List (List UInt8))} (g:l.all (fun p=>decide (cD p=0))=true):l.map (fun p=>aE (aZ p))=ga l∧0=bR l:=by
 have h:bR l=0:=Im fun p hp=>by
  rw [List.all_eq_true] at g
  simpa using g p hp
 refine ⟨?_,h.symm⟩
 unfold ga;rw [if_pos h]
end Go.Cm
namespace Go.Cm
open Go.Proofs
theorem xN {l:List (List (List UInt8))} (hl:l.length≤1000) (hk:0<l.length) (hb:cD (nth (.slice .str) l 0)=0):
  IntKind.i64.wrap (0+1)=((1:Nat):Int)∧ [aE (aZ (nth (.slice .str) l 0))]=(l.take 1).map (fun p=>aE (aZ p))∧1≤l.length∧(l.take 1).all (fun p=>decide (cD p=0))=true∧l.length-1<l.length+1:=by
 have h:=rR (k:=0) hl hk rfl hb
 exact ⟨h.1,h.2.1,hk,h.2.2.2.1,by omega⟩
theorem E5 {l:List (List (List UInt8))} (hk:0<l.length) (hb: ¬cD (nth (.slice .str) l 0)=0): []=ga l∧cD (nth (.slice .str) l 0)=bR l:=xM (k:=0) hk rfl hb
theorem E6 {l:List (List (List UInt8))} (h: ¬0<l.length): []=ga l∧0=bR l:=by
 cases l with
 |nil=>exact ⟨rfl,rfl⟩
 |cons=>simp at h
end Go.Cm
namespace Go.Cm
open Go.Proofs
def b8 (l:List Rat):Int:=if 41<l.length then 3 else if dh (aE l)=true then 0 else 6
def gb (l:List Rat):List (List UInt8):=if b8 l=0 then l.map bl else []
theorem A1 {l:List Rat} (h:41<l.length): []=gb l∧3=b8 l:=by
 have e:b8 l=3:=by unfold b8;rw [if_pos h]
 exact ⟨by unfold gb;rw [if_neg (by rw [e];decide)],e.symm⟩
theorem E7 {l:List Rat} (h: ¬41<l.length) (hf:dh (aE l)=false): []=gb l∧6=b8 l:=by
 have e:b8 l=6:=by unfold b8;rw [if_neg h,if_neg (by rw [hf];decide)]
 exact ⟨by unfold gb;rw [if_neg (by rw [e];decide)],e.symm⟩
theorem Ip {l:List Rat} (h: ¬41<l.length) (hf:dh (aE l)=true):(if dh (aE l)=true then (aE l).map fun x=>bl (bu x) else [])=gb l∧0=b8 l:=by
 have e:b8 l=0:=by unfold b8;rw [if_neg h,if_pos hf]
 refine ⟨?_,e.symm⟩
 unfold gb;rw [if_pos e,if_pos hf,aE,List.map_map]
 exact List.map_congr_left fun x _=>by simp only [Function.comp,aK]
end Go.Cm
namespace Go.Cm
open Go.Proofs
theorem fJ {l:List Rat}:∀ x∈aP l,x∈l:=by
 induction l with
 |nil=>intro x hx;exact hx
 |cons a l ih=>
  intro x hx
  unfold aP at hx
  split at hx
  ·split at hx
   ·simp at hx
   ·simp at hx;simp [hx]
  ·rename_i h
   rcases List.mem_cons.1 hx with h2|h2
   ·simp [h2]
   ·exact List.mem_cons_of_mem _ (ih x (by rw [h];exact h2))
theorem E8 {p:List ND} (h:Sz QC p∧p.length≤QL) (hl: ¬41<(aP (am p)).length):(aE (aP (am p))).length<QL∧∀ x∈aE (aP (am p)),NOK x∧lq (bu x)≤QC:=by
 refine ⟨by rw [az];unfold QL;omega,?_⟩
 refine eG (k:=QC) fun x hx=> ?_
 obtain ⟨y,hy,rfl⟩:=List.mem_map.1 (fJ x hx)
 exact (h.1 y hy).2
end Go.Cm
end
section
namespace Go.Cm
open Go.Proofs
def cL (f:List Rat→List Rat→List Rat) (p q:List (List UInt8)):Int:=if bR [p,q]=0 then b8 (aP (f (aZ p) (aZ q))) else bR [p,q]
def cM (f:List Rat→List Rat→List Rat) (p q:List (List UInt8)):List (List UInt8):=if bR [p,q]=0 then gb (aP (f (aZ p) (aZ q))) else []
def bI (D:List ND→List ND→Prop) (f:List Rat→List Rat→List Rat) (p q:List (List UInt8)):Prop:=
 cS p∧cS q∧(bR [p,q]=0→D (aE (aZ p)) (aE (aZ q))∧Sz QC (aE (f (aZ p) (aZ q)))∧(f (aZ p) (aZ q)).length≤QL)
theorem mU {p q:List (List UInt8)} (h:bR [p,q]=0):ga [p,q]= [aE (aZ p),aE (aZ q)]:=by
 unfold ga;rw [if_pos h];rfl
theorem gH {f:List Rat→List Rat→List Rat} {p q:List (List UInt8)} (h: ¬bR [p,q]=0): []=cM f p q∧bR [p,q]=cL f p q:=by
 unfold cM cL;rw [if_neg h,if_neg h];exact ⟨rfl,rfl⟩
theorem jd {f:List Rat→List Rat→List Rat} {p q:List (List UInt8)} (h:bR [p,q]=0):gb (aP (f (aZ p) (aZ q)))=cM f p q∧b8 (aP (f (aZ p) (aZ q)))=cL f p q:=by
 unfold cM cL;rw [if_pos h,if_pos h];exact ⟨rfl,rfl⟩
end Go.Cm
namespace Go.Cm
open Go.Proofs
theorem ib {p q:List (List UInt8)} (h:bR [p,q]=0):nth (.slice NT) (ga [p,q]) 0=aE (aZ p):=by rw [mU h];rfl
theorem ic {p q:List (List UInt8)} (h:bR [p,q]=0):nth (.slice NT) (ga [p,q]) 1=aE (aZ q):=by rw [mU h];rfl
theorem fR {p q:List (List UInt8)} (h:bR [p,q]=0):(ga [p,q]).length=2:=by rw [mU h];rfl
end Go.Cm
namespace Go.Cm
open Go.Proofs
theorem fS {p q:List (List UInt8)} (hp:cS p) (hq:cS q): [p,q].length≤1000∧∀ x∈ [p,q],cS x:=by
 refine ⟨by simp,fun x hx=> ?_⟩
 simp only [List.mem_cons,List.not_mem_nil,or_false] at hx
 rcases hx with rfl|rfl
 ·exact hp
 ·exact hq
end Go.Cm
end
section
namespace Go.Cm
open Go.Proofs
theorem xO (n:Int):∀ c∈Lib.itoa n,c≠47:=by
 obtain ⟨d1,_,_,_⟩:=i7 n.natAbs
 intro c hc
 unfold Lib.itoa at hc
 split at hc
 ·rcases List.mem_cons.1 hc with h|h
  ·rw [h];decide
  ·have:=d1 c h
   intro hc
   rw [hc] at this
   revert this;decide
 ·have e:n.toNat=n.natAbs:=by omega
  rw [e] at hc
  have:=d1 c hc
  intro hc
  rw [hc] at this
  revert this;decide
theorem Iq {a b:List UInt8} (h:∀ c∈a,c≠47):tN (a++47::b)=a∧b6 (a++47::b)=true:=by
 constructor
 ·unfold tN
  induction a with
  |nil=>simp
  |cons c l ih=>
   have:=h c (by simp)
   rw [List.cons_append,List.takeWhile_cons,if_pos (by simpa using this),ih fun d hd=>h d (by simp [hd])]
 ·unfold b6;simp
theorem rS {a:List UInt8} (h:∀ c∈a,c≠47):b6 a=false:=by
 unfold b6
 rw [List.any_eq_false]
 intro c hc
 simpa using h c hc
theorem jV (x:Rat):tN (bl x)=Lib.itoa x.num∧tD (bl x)=Lib.itoa (x.den:Int)∧b6 (bl x)= !decide (x.den=1):=by
 unfold bl
 by_cases h:x.den=1
 ·rw [if_pos h]
  have hs:=rS (xO x.num)
  refine ⟨rq hs,?_,by rw [hs,h];rfl⟩
  unfold tD;rw [hs,h,if_neg (by decide)]
  have h0: [49]=Lib.itoa ((1:Nat):Int):=by decide+kernel
  exact h0
 ·rw [if_neg h,List.append_assoc]
  obtain ⟨h1,h2⟩:=Iq (b:=Lib.itoa (x.den:Int)) (xO x.num)
  rw [show [47]++Lib.itoa (x.den:Int)=47::Lib.itoa (x.den:Int) from rfl]
  refine ⟨h1,?_,by rw [h2];simp [h]⟩
  unfold tD
  rw [if_pos h2]
  unfold tR
  rw [h1,List.drop_append,List.drop_of_length_le (by omega)]
  simp
theorem dE (x:Rat):bw (bl x)=x:=by
 obtain ⟨h1,h2,_⟩:=jV x
 unfold bw
 rw [h1,h2,(aY _).2,(aY _).2]
 exact Rat.num_divInt_den x
theorem E9 (x:Rat):c6 (bl x)=rr x:=by
 obtain ⟨h1,h2,h3⟩:=jV x
 unfold c6
 rw [h1,h2,(aY _).2,(aY _).2,if_neg,if_neg]
 ·unfold rr fQ
  by_cases h:dP x.num≤2000∧dP (x.den:Int)≤2000
  ·rw [if_neg (by omega),if_pos (decide_eq_true h)]
  ·rw [if_pos (by omega),if_neg (by simpa using h)]
 ·rintro ⟨hs,h⟩
  have hg:cq x.num (x.den:Int)=1:=by
   rw [← jN,Int.gcd_comm]
   have:=x.reduced
   unfold Nat.Coprime at this
   unfold Int.gcd
   rw [Int.natAbs_natCast,this];rfl
  rw [h3] at hs
  have h4: ¬x.den=1:=by simpa using hs
  have:=x.den_pos
  rcases h with h|h
  ·omega
  ·exact h hg
 ·rintro (h|h)
  ·exact (aY x.num).1 h
  ·exact (aY (x.den:Int)).1 h
theorem A2 {x:Rat}:rr x=0↔fQ x=true:=by
 unfold rr
 split
 ·rename_i h;simp [h]
 ·rename_i h;simp [h]
theorem tC {q:List UInt8} (h:c6 q=0) (hl:q.length≤QL):bl (bw q)=q∧fQ (bw q)=true:=by
 have hr:RQ q:=⟨by rw [h];decide,hl⟩
 obtain ⟨p1,p2⟩:=hr.parts
 obtain ⟨f1,f2,_⟩:=hr.form
 have hc:=hr.chk
 rw [h] at hc
 constructor
 ·unfold bl
  cases hs:b6 q
  ·have e:tD q= [49]:=by unfold tD;rw [hs];rfl
   rw [e,l8] at p2
   rw [if_pos (by omega),p1,rq hs]
   rw [rq hs] at f1
   exact iH f1
  ·have h5: ¬an (tD q)≤1:=by
    intro hle
    unfold c6 at h
    split at h
    ·exact absurd h (by decide)
    ·rw [if_pos ⟨hs, .inl hle⟩] at h;exact absurd h (by decide)
   rw [if_neg (by omega),p1,p2,iH f1,iH f2]
   have h6:=jQ hs
   rw [if_pos hs] at h6
   rw [← h6]
   have hcut:∀ q:List UInt8,b6 q=true→tN q++ [47]++tR q=q:=by
    intro q hq
    induction q with
    |nil=>simp [b6] at hq
    |cons c l ih=>
     by_cases hc:c=47
     ·subst hc;simp [tN,tR]
     ·have h2:b6 l=true:=by simpa [b6,hc] using hq
      have h3:tN (c::l)=c::tN l:=by simp [tN,hc]
      have h4:tR (c::l)=tR l:=by unfold tR;rw [h3];simp
      rw [h3,h4]
      have:=ih h2
      simpa using this
   exact hcut q hs
 ·unfold fQ
  rw [decide_eq_true_eq,p1,p2]
  split at hc
  ·exact absurd hc (by decide)
  ·omega
theorem gI {x:Rat}:bl x= [48]↔x=0:=by
 have h0:bl 0= [48]:=by decide+kernel
 constructor
 ·intro h
  have:=dE x
  rw [h,← h0,dE] at this
  exact this.symm
 ·rintro rfl;exact h0
def txP (l:List Rat):List (List UInt8):=l.map bl
def js (l:List Rat):Bool:=l.all fQ
theorem mV (l:List Rat):dh (aE l)=js l:=by
 unfold dh js aE
 rw [List.all_map]
 congr 1
 funext x
 simp [aK]
theorem bT (l:List Rat):(txP l).length=l.length:=by simp [txP]
theorem Cj (l:List Rat):(txP l).map bw=l:=by
 unfold txP
 rw [List.map_map]
 conv=>rhs;rw [← List.map_id l]
 exact List.map_congr_left fun x _=>dE x
theorem xP {l:List Rat} (h:l≠ []):(txP l).getLastD []=bl (aH l):=by
 unfold txP aH
 rw [List.getLastD_eq_getLast?,List.getLastD_eq_getLast?,List.getLast?_map,List.getLast?_eq_some_getLast h];rfl
theorem Ck (l:List Rat):(txP l).all (fun q=>decide (c6 q=0))=js l:=by
 unfold txP js
 rw [List.all_map]
 congr 1
 funext x
 simp only [Function.comp,E9]
 rw [Bool.eq_iff_iff,decide_eq_true_iff,A2]
theorem Cl {l:List Rat} (hl:l.length≤41) (ht:Trm l) (hf:js l=true):cD (txP l)=0∧aZ (txP l)=l:=by
 have hc:cD (txP l)=0:=by
  unfold cD
  rw [if_neg (by rw [bT];omega),if_neg (by rw [Ck,hf];decide),if_neg]
  rintro ⟨h1,h2⟩
  have hn:l≠ []:=fun e=>h1 (by rw [e];rfl)
  rw [xP hn,gI] at h2
  exact ht hn h2
 refine ⟨hc,?_⟩
 unfold aZ
 rw [if_pos hc,Cj]
theorem Ky {p:List (List UInt8)} (hs:cS p) (h:cD p=0):txP (aZ p)=p∧(aZ p).length≤41∧Trm (aZ p)∧js (aZ p)=true:=by
 unfold cD at h
 split at h
 ·exact absurd h (by decide)
 rename_i h1
 split at h
 ·exact absurd h (by decide)
 rename_i h2
 split at h
 ·exact absurd h (by decide)
 rename_i h3
 have h2:p.all (fun q=>decide (c6 q=0))=true:=by simpa using h2
 have hn:aZ p=p.map bw:=by
  unfold aZ
  rw [if_pos]
  unfold cD
  rw [if_neg h1,if_neg (by rw [h2];decide),if_neg h3]
 have ht:txP (p.map bw)=p:=by
  unfold txP
  rw [List.map_map]
  conv=>rhs;rw [← List.map_id p]
  rw [List.all_eq_true] at h2
  exact List.map_congr_left fun q hq=>(tC (by simpa using h2 q hq) (hs.2 q hq)).1
 rw [hn]
 refine ⟨ht,by rw [List.length_map];omega,fun hne hl=>h3 ⟨fun e=>hne (by rw [e];rfl),?_⟩,?_⟩
 ·rw [← ht,xP hne,gI];exact hl
 ·rw [← Ck,ht,h2]
theorem Cn {n:Int} {k:Nat} (h:lw n≤k) (hk:9*k+1≤2000):dP n≤2000:=by
 have h1:=Ik h
 rw [J1] at h1
 have h0:=nJ n
 rw [dC]
 have h2:n.natAbs<10^(9*k):=by
  have:=q9 n h
  rw [J1] at this
  omega
 have:=uW h2
 omega
theorem Co {x:Rat} (h:lq x≤222):fQ x=true:=by
 have:=dH x;have:=dn x
 exact decide_eq_true ⟨Cn (k:=222) (by omega) (by omega),Cn (k:=222) (by omega) (by omega)⟩
theorem Ir {l:List Rat} {b:Nat} (h:Den b l) (hb:b≤222):js l=true:=by
 unfold js
 rw [List.all_eq_true]
 exact fun x hx=>Co (Nat.le_trans (h.lq x hx) hb)
theorem Is {l:List Rat} (h:∀ x∈l,lq x≤222):js l=true:=by
 unfold js
 rw [List.all_eq_true]
 exact fun x hx=>Co (h x hx)
end Go.Cm
end
section
namespace Go.Cm
open Go.Proofs
structure Pol (l:List Rat):Prop where
 len:l.length≤41
 trm:Trm l
 fit:js l=true
theorem Pol.chk {l:List Rat} (h:Pol l):cD (txP l)=0:=(Cl h.len h.trm h.fit).1
theorem Pol.num {l:List Rat} (h:Pol l):aZ (txP l)=l:=(Cl h.len h.trm h.fit).2
theorem tE {x:Rat} {k:Nat} (h:lq x≤k):(bl x).length≤18*k+5:=by
 have h1:=fh x.num
 have h2:=fh (x.den:Int)
 have:=dH x;have:=dn x
 unfold bl
 split
 ·omega
 ·simp only [List.length_append,List.length_cons,List.length_nil];omega
theorem Cp {x:Rat} (h:fQ x=true):lq x≤2000:=by
 unfold fQ at h
 rw [decide_eq_true_eq,dC,dC] at h
 have key:∀ n:Int,((Lib.decDigits n.natAbs).length:Int)≤2000→lw n≤2000:=by
  intro n hn
  refine kO ?_
  obtain ⟨d1,d2,_,_⟩:=i7 n.natAbs
  have h2:=fO d1
  rw [d2] at h2
  have h3:(10:Nat)^(Lib.decDigits n.natAbs).length≤10^2000:=Nat.pow_le_pow_right (by omega) (by omega)
  have h4:(10:Nat)^2000≤1000000000^2000:=Nat.pow_le_pow_left (by omega) _
  have h5:(LB^2000:Int)=((1000000000^2000:Nat):Int):=by rw [Int.natCast_pow];rfl
  rw [h5]
  exact_mod_cast Nat.lt_of_lt_of_le h2 (Nat.le_trans h3 h4)
 exact Nat.max_le.2 ⟨key _ h.1,key _ h.2⟩
theorem Pol.lq {l:List Rat} (h:Pol l):∀ x∈l,lq x≤2000:=by
 have:=h.fit
 unfold js at this
 rw [List.all_eq_true] at this
 exact fun x hx=>Cp (this x hx)
theorem Pol.short {l:List Rat} (h:Pol l):cS (txP l):=by
 have e:QL=1000000000:=rfl
 refine ⟨by rw [bT];have:=h.len;omega,fun q hq=> ?_⟩
 obtain ⟨x,hx,rfl⟩:=List.mem_map.1 hq
 have:=tE (h.lq x hx)
 omega
theorem je:Pol []:=⟨by simp,Ch,rfl⟩
theorem kr {l m:List Rat} (hl:Pol l) (hm:Pol m):bR [txP l,txP m]=0:=by
 simp only [bR,hl.chk,hm.chk,if_true]
theorem rT {f:List Rat→List Rat→List Rat} {l m:List Rat} (hl:Pol l) (hm:Pol m) {r:List Rat} (hr:aP (f l m)=r) (hp:Pol r):cM f (txP l) (txP m)=txP r∧cL f (txP l) (txP m)=0:=by
 have he:b8 r=0:=by
  unfold b8
  rw [if_neg (by have:=hp.len;omega),if_pos (by rw [mV];exact hp.fit)]
 unfold cM cL
 rw [if_pos (kr hl hm),if_pos (kr hl hm),hl.num,hm.num,hr]
 unfold gb
 rw [if_pos he]
 exact ⟨rfl,he⟩
theorem gJ {D:List ND→List ND→Prop} {f:List Rat→List Rat→List Rat} {l m:List Rat} (hl:Pol l) (hm:Pol m) (hD:D (aE l) (aE m)) (hs:∀ x∈f l m,Cm.lq x≤QC) (hn:(f l m).length≤QL):bI D f (txP l) (txP m):=by
 refine ⟨hl.short,hm.short,fun _=> ?_⟩
 rw [hl.num,hm.num]
 exact ⟨hD,eG hs,hn⟩
theorem Pol.enc_ok {l:List Rat} {k:Nat} (h:Pol l) (hk:2000≤k):Sz k (aE l):=eG fun x hx=>Nat.le_trans (h.lq x hx) hk
theorem Cq {l m:List Rat} (hl:Pol l) (hm:Pol m):bI (fun p q=>Sz QH p∧Sz QH q∧p.length≤1000∧q.length≤1000) (bC (· + ·)) (txP l) (txP m):=by
 have e1:QH=40000000000:=rfl
 have e2:QL=1000000000:=rfl
 have h1:=hl.len;have h2:=hm.len
 have hs1:=hl.enc_ok (k:=QH) (by omega)
 have hs2:=hm.enc_ok (k:=QH) (by omega)
 refine gJ hl hm ⟨hs1,hs2,by rw [az];omega,by rw [az];omega⟩ ?_ (by have:=eQ (· + ·) l m;omega)
 intro x hx
 have h3:=u9 xy hs1 hs2 (max l.length m.length)
 rw [aG,aG] at h3
 have h4:=fJ x hx
 have h5:=(h3 (bg x) (List.mem_map.2 ⟨x,h4,rfl⟩)).2
 rwa [aK] at h5
theorem Kz {l m:List Rat} (hl:Pol l) (hm:Pol m):bI (fun p q=>Sz QH p∧Sz QH q∧p.length≤1000∧q.length≤1000) (bC (· - ·)) (txP l) (txP m):=by
 have e1:QH=40000000000:=rfl
 have e2:QL=1000000000:=rfl
 have h1:=hl.len;have h2:=hm.len
 have hs1:=hl.enc_ok (k:=QH) (by omega)
 have hs2:=hm.enc_ok (k:=QH) (by omega)
 refine gJ hl hm ⟨hs1,hs2,by rw [az];omega,by rw [az];omega⟩ ?_ (by have:=eQ (· - ·) l m;omega)
 intro x hx
 have h3:=u9 xz hs1 hs2 (max l.length m.length)
 rw [aG,aG] at h3
 have h4:=fJ x hx
 have h5:=(h3 (bg x) (List.mem_map.2 ⟨x,h4,rfl⟩)).2
 rwa [aK] at h5
theorem vo {l m:List Rat} (hl:Pol l) (hm:Pol m):bI (fun p q=>Sz QM p∧Sz QM q∧p.length≤100∧q.length≤100) cw (txP l) (txP m):=by
 have e1:QM=400000000:=rfl
 have e2:QL=1000000000:=rfl
 have e3:QC=100000000000:=rfl
 have h1:=hl.len;have h2:=hm.len
 refine gJ hl hm ⟨hl.enc_ok (by omega),hm.enc_ok (by omega),by rw [az];omega,by rw [az];omega⟩ ?_ (by have:=rK l m;omega)
 intro x hx
 unfold cw at hx
 split at hx
 ·simp at hx
 ·have h3:=HZ (K:=2000) (fun n=>jp hl.lq (by omega) n) (fun n=>jp hm.lq (by omega) n) l.length (Nat.le_refl _) x hx
  have h4:l.length*(2*2000+1)≤41*(2*2000+1):=Nat.mul_le_mul_right _ h1
  omega
end Go.Cm
end
section
namespace Go.Cm
open Go.Proofs
theorem A3 {s:List UInt8} {i:Nat} (hi:i<s.length) (h:(s.take i).all (· !=47)=true) (hb:s.getD i 0=47):s.take i=tN s∧s.drop (i+1)=tD s∧true=b6 s:=by
 have e:s=s.take i++47::s.drop (i+1):=by
  rw [← hb,List.getD_eq_getElem?_getD,List.getElem?_eq_getElem hi]
  simp only [Option.getD_some]
  rw [← List.drop_eq_getElem_cons hi,List.take_append_drop]
 have hc:∀ c∈s.take i,c≠47:=by
  rw [List.all_eq_true] at h
  intro c hc
  simpa using h c hc
 have k:=Iq (b:=s.drop (i+1)) hc
 rw [← e] at k
 refine ⟨k.1.symm,?_,k.2.symm⟩
 unfold tD tR
 rw [if_pos k.2,k.1,List.length_take,Nat.min_eq_left (by omega)]
theorem Fa {s:List UInt8} {i:Nat} (hi:i<s.length) (h:(s.take i).all (· !=47)=true) (hb: ¬s.getD i 0=47):(s.take (i+1)).all (· !=47)=true:=by
 rw [List.take_succ_eq_append_getElem hi,List.all_append,h]
 rw [List.getD_eq_getElem?_getD,List.getElem?_eq_getElem hi] at hb
 simpa using hb
theorem It {s:List UInt8} {i:Nat} (hi: ¬i<s.length) (h:(s.take i).all (· !=47)=true):s=tN s∧ [49]=tD s∧false=b6 s:=by
 rw [List.take_of_length_le (by omega)] at h
 have hs:b6 s=false:=rS fun c hc=>by
  rw [List.all_eq_true] at h
  simpa using h c hc
 exact ⟨(rq hs).symm,by unfold tD;rw [hs];rfl,hs.symm⟩
def QK:Nat:=10000000
def GQ (K:Nat) (a:List UInt8):Prop:=bl (bw a)=a∧lq (bw a)≤K
theorem GQ.parts {K:Nat} {a:List UInt8} (h:GQ K a):tN a=Lib.itoa (bw a).num∧tD a=Lib.itoa ((bw a).den:Int):=by
 have:=jV (bw a)
 rw [h.1] at this
 exact ⟨this.1,this.2.1⟩
theorem GQ.nums {K:Nat} {a:List UInt8} (h:GQ K a):an (tN a)=(bw a).num∧an (tD a)=((bw a).den:Int):=by
 rw [h.parts.1,h.parts.2]
 exact ⟨(aY _).2,(aY _).2⟩
theorem GQ.rs {K:Nat} {a:List UInt8} (h:GQ K a):RS (9*K+2) (tN a)∧RS (9*K+2) (tD a):=by
 rw [h.parts.1,h.parts.2]
 have h1:=fh (bw a).num
 have h2:=fh ((bw a).den:Int)
 have h3:=dH (bw a)
 have h4:=dn (bw a)
 have h5:=h.2
 exact ⟨⟨(aY _).1,by omega⟩,(aY _).1,by omega⟩
theorem GQ.len {K:Nat} {a:List UInt8} (h:GQ K a):a.length≤18*K+5:=by
 rw [← h.1];exact tE h.2
theorem RS.mono' {n m:Nat} {s:List UInt8} (h:RS n s) (hm:n≤m):RS m s:=⟨h.1,Nat.le_trans h.2 hm⟩
theorem kt {x:Rat} {K:Nat} (h:lq x≤K):GQ K (bl x):=⟨by rw [dE],by rw [dE];exact h⟩
theorem xQ {v:Int}:Lib.itoa v= [49]↔v=1:=by
 have h1:Lib.itoa 1= [49]:=by decide+kernel
 constructor
 ·intro h
  have:=(aY v).2
  rw [h,← h1,(aY 1).2] at this
  exact this.symm
 ·rintro rfl;exact h1
theorem mW {n d:Int} (hd:d≠0):(Rat.divInt n d).num=bH n (df n d)∧(((Rat.divInt n d).den:Nat):Int)=bH d (df n d):=by
 have h:=lk (n:=n) hd
 unfold bg at h
 have h1:=congrArg (fun x:ND=>dec x.1) h
 have h2:=congrArg (fun x:ND=>dec x.2) h
 simp only [bK] at h1 h2
 exact ⟨h1,h2⟩
theorem xR {s:List UInt8} {k:Nat} (hl:s.length≤1000000000) (hi:k<s.length) (h:(s.take k).all (· !=47)=true) (hb:s.getD k 0=47):
  List.drop (Int.toNat 0) (List.take ((k:Int)).toNat s)=tN s∧List.drop (IntKind.i64.wrap ((k:Int)+1)).toNat (List.take (((s.length:Nat):Int)).toNat s)=tD s∧true=b6 s:=by
 have h1:=A3 hi h hb
 rw [wi (by omega) (by omega),Int.toNat_natCast,Int.toNat_natCast,show ((k:Int)+1).toNat=k+1 by omega,List.take_length]
 exact h1
def MkR (n d:List UInt8):Prop:=RS 200000000 n∧RS 200000000 d∧an d≠0
theorem Ls {n:Nat} {s:List UInt8} (h:RS n s):lw (an s)≤n:=Nat.le_trans (AD h.1) h.2
theorem KA {n:Nat} {s:List UInt8} (h:RS n s):(an s).natAbs<10^n:=kn h
theorem nP {v w:Int} {n:Nat} (h:w.natAbs<10^n) (hv:v.natAbs≤w.natAbs):RS (n+2) (Lib.itoa v):=(l7 (k:=n) (by omega) (Nat.le_refl _)).1
theorem Lt {n d:List UInt8} (h:MkR n d):RS 200000002 (Lib.itoa (cq (an n) (an d)))∧RS 200000002 (Lib.itoa (df (an n) (an d))):=by
 have h1:=KA h.2.1
 exact ⟨nP h1 (og h.2.2),nP h1 (jO h.2.2).1⟩
theorem mX {n d:List UInt8} (h:MkR n d):RS 1000000000 n∧RS 1000000000 d:=⟨h.1.mono' (by omega),h.2.1.mono' (by omega)⟩
theorem Fb {n d:List UInt8} (h:MkR n d):RF (Lib.itoa (cq (an n) (an d)))∧4*(Lib.itoa (cq (an n) (an d))).length<CAP:=by
 have:=(Lt h).1
 have h2:=this.2
 exact ⟨this.1,by unfold CAP;omega⟩
theorem Cr {n d:List UInt8} (h:an d<0):Lib.itoa (-an (Lib.itoa (cq (an n) (an d))))=Lib.itoa (df (an n) (an d)):=by
 rw [(aY _).2];unfold df;rw [if_pos h]
theorem Ct {n d:List UInt8} (h: ¬an d<0):Lib.itoa (cq (an n) (an d))=Lib.itoa (df (an n) (an d)):=by
 unfold df;rw [if_neg h]
theorem oq {a b:Int}:bo a b<0↔a<b:=by
 unfold bo
 split
 ·constructor<;>omega
 ·split
  ·constructor<;>omega
  ·constructor<;>omega
theorem tF {n d:List UInt8} (h:MkR n d):RS 1000000000 n∧RS 1000000000 (Lib.itoa (df (an n) (an d)))∧an (Lib.itoa (df (an n) (an d)))≠0:=by
 rw [(aY _).2]
 exact ⟨(mX h).1,(Lt h).2.mono' (by omega),(jO h.2.2).2⟩
theorem Fc {n d:List UInt8} (h:MkR n d):RS 1000000000 d∧RS 1000000000 (Lib.itoa (df (an n) (an d)))∧an (Lib.itoa (df (an n) (an d)))≠0:=⟨(mX h).2,(tF h).2⟩
theorem KB {n d:List UInt8} (h:MkR n d) (hb:Lib.itoa (bH (an d) (an (Lib.itoa (df (an n) (an d)))))= [49]):Lib.itoa (bH (an n) (an (Lib.itoa (df (an n) (an d)))))=bl (Rat.divInt (an n) (an d)):=by
 rw [(aY _).2] at hb ⊢
 obtain ⟨h1,h2⟩:=mW (n:=an n) h.2.2
 rw [← h2,xQ] at hb
 unfold bl
 rw [if_pos (by omega),h1]
theorem KC {n d:List UInt8} (h:MkR n d) (hb: ¬Lib.itoa (bH (an d) (an (Lib.itoa (df (an n) (an d)))))= [49]):Lib.itoa (bH (an n) (an (Lib.itoa (df (an n) (an d)))))++ [47]++Lib.itoa (bH (an d) (an (Lib.itoa (df (an n) (an d)))))=bl (Rat.divInt (an n) (an d)):=by
 rw [(aY _).2] at hb ⊢
 obtain ⟨h1,h2⟩:=mW (n:=an n) h.2.2
 rw [← h2,xQ] at hb
 unfold bl
 rw [if_neg (by omega),h1,h2]
theorem Fd {n d:List UInt8} (h:MkR n d):(Lib.itoa (bH (an n) (an (Lib.itoa (df (an n) (an d)))))).length+1≤maxLen∧
  (Lib.itoa (bH (an n) (an (Lib.itoa (df (an n) (an d)))))++ [47]).length+(Lib.itoa (bH (an d) (an (Lib.itoa (df (an n) (an d)))))).length≤maxLen:=by
 rw [(aY _).2]
 obtain ⟨h1,h2⟩:=mW (n:=an n) h.2.2
 have h3:=mL (an n) (an d) h.2.2
 have h4:=Ls h.1
 have h5:=Ls h.2.1
 have h6:=fh (Rat.divInt (an n) (an d)).num
 have h7:=fh (((Rat.divInt (an n) (an d)).den:Nat):Int)
 have h8:=dH (Rat.divInt (an n) (an d))
 have h9:=dn (Rat.divInt (an n) (an d))
 rw [h1] at h6
 rw [h2] at h7
 rw [h1] at h8
 rw [h2] at h9
 have e7:maxLen=9223372036854775807:=rfl
 simp only [List.length_append,List.length_cons,List.length_nil]
 omega
theorem Iu {n d:Int} (h:I64 n∧I64 d∧d≠0):I64 n∧I64 d∧RS 200000000 (Lib.itoa n)∧RS 200000000 (Lib.itoa d)∧an (Lib.itoa d)≠0:=by
 have h1:=fh n;have h2:=fh d
 have h3:=Ay h.1;have h4:=Ay h.2.1
 rw [(aY d).2]
 exact ⟨h.1,h.2.1,⟨(aY n).1,by omega⟩,⟨(aY d).1,by omega⟩,h.2.2⟩
theorem KD {n d:Int}:bl (Rat.divInt (an (Lib.itoa n)) (an (Lib.itoa d)))=bl (Rat.divInt n d):=by
 rw [(aY n).2,(aY d).2]
theorem Cu {a:List UInt8} (h:GQ QK a):a.length≤QL:=by
 have:=h.len
 have e:QK=10000000:=rfl
 have e2:QL=1000000000:=rfl
 omega
theorem Lu {a:List UInt8} (h:GQ QK a):RS 200000000 (tN a)∧RS 200000000 (tD a):=by
 have e:QK=10000000:=rfl
 exact ⟨h.rs.1.mono' (by omega),h.rs.2.mono' (by omega)⟩
theorem fm {a:List UInt8} (h:GQ QK a):RS 20000000000 (tN a)∧RS 20000000000 (tD a):=⟨(Lu h).1.mono' (by omega),(Lu h).2.mono' (by omega)⟩
theorem xS {a b:List UInt8} (ha:GQ QK a) (hb:GQ QK b) (h1:tD a= [49]) (h2:tD b= [49]):(bw a).den=1∧(bw b).den=1:=by
 have k1:=ha.nums.2
 have k2:=hb.nums.2
 rw [h1,l8] at k1
 rw [h2,l8] at k2
 omega
theorem mf {x:Rat} (h:x.den=1):x=(x.num:Rat):=by
 have:=Rat.num_divInt_den x
 rw [h,Rat.divInt_eq_div] at this
 rw [show (((1:Nat):Int):Rat)=1 from rfl] at this
 grind
theorem rU (n:Int):bl (n:Rat)=Lib.itoa n:=by unfold bl;rw [if_pos (Rat.den_intCast n),Rat.num_intCast]
theorem Iv {a b:List UInt8} (ha:GQ QK a) (hb:GQ QK b) (h:tD a= [49]∧tD b= [49]):Lib.itoa (an (tN a)+an (tN b))=bl (bw a+bw b):=by
 obtain ⟨k1,k2⟩:=xS ha hb h.1 h.2
 rw [ha.nums.1,hb.nums.1,mf k1,mf k2,← Rat.intCast_add,rU,Rat.num_intCast,Rat.num_intCast]
theorem Iw {a b:List UInt8} (ha:GQ QK a) (hb:GQ QK b) (h:tD a= [49]∧tD b= [49]):Lib.itoa (an (tN a)*an (tN b))=bl (bw a*bw b):=by
 obtain ⟨k1,k2⟩:=xS ha hb h.1 h.2
 rw [ha.nums.1,hb.nums.1,mf k1,mf k2,← Rat.intCast_mul,rU,Rat.num_intCast,Rat.num_intCast]
theorem tG {v:Int} {k:Nat} (h:lw v≤k):RS (9*k+2) (Lib.itoa v):=⟨(aY v).1,by have:=fh v;omega⟩
theorem Cv {a:List UInt8} (h:GQ QK a):lw (bw a).num≤QK∧lw ((bw a).den:Int)≤QK:=by
 have:=dH (bw a);have:=dn (bw a);have:=h.2
 omega
theorem Fe {a b:List UInt8} (ha:GQ QK a) (hb:GQ QK b):(RS 20000000000 (tN a)∧RS 20000000000 (tD b))∧
  (RS 20000000000 (tN b)∧RS 20000000000 (tD a))∧
   (RS 20000000000 (Lib.itoa (an (tN a)*an (tD b)))∧RS 20000000000 (Lib.itoa (an (tN b)*an (tD a))))∧
    (RS 20000000000 (tD a)∧RS 20000000000 (tD b))∧
     RS 200000000 (Lib.itoa (an (Lib.itoa (an (tN a)*an (tD b)))+an (Lib.itoa (an (tN b)*an (tD a)))))∧
      RS 200000000 (Lib.itoa (an (tD a)*an (tD b)))∧an (Lib.itoa (an (tD a)*an (tD b)))≠0:=by
 have e:QK=10000000:=rfl
 simp only [(aY _).2]
 have k1:=Cv ha;have k2:=Cv hb
 rw [ha.nums.1,ha.nums.2,hb.nums.1,hb.nums.2]
 have m1:=bW (bw a).num (bw b).den
 have m2:=bW (bw b).num (bw a).den
 have m3:=bW ((bw a).den:Int) (bw b).den
 have m4:=rm ((bw a).num*(bw b).den) ((bw b).num*(bw a).den)
 exact ⟨⟨(fm ha).1,(fm hb).2⟩,⟨(fm hb).1,(fm ha).2⟩,⟨(tG (k:=20000000) (by omega)).mono' (by omega),(tG (k:=20000000) (by omega)).mono' (by omega)⟩,⟨(fm ha).2,(fm hb).2⟩,
  (tG (k:=20000001) (by omega)).mono' (by omega),(tG (k:=20000001) (by omega)).mono' (by omega),Int.mul_ne_zero (ep _) (ep _)⟩
theorem Ix {a b:List UInt8} (ha:GQ QK a) (hb:GQ QK b):bl (Rat.divInt (an (Lib.itoa (an (Lib.itoa (an (tN a)*an (tD b)))+an (Lib.itoa (an (tN b)*an (tD a)))))) (an (Lib.itoa (an (tD a)*an (tD b)))))=bl (bw a+bw b):=by
 simp only [(aY _).2]
 rw [ha.nums.1,ha.nums.2,hb.nums.1,hb.nums.2,← lg]
theorem Ff {a b:List UInt8} (ha:GQ QK a) (hb:GQ QK b):(RS 20000000000 (tN a)∧RS 20000000000 (tN b))∧
  (RS 20000000000 (tD a)∧RS 20000000000 (tD b))∧
   RS 200000000 (Lib.itoa (an (tN a)*an (tN b)))∧
    RS 200000000 (Lib.itoa (an (tD a)*an (tD b)))∧an (Lib.itoa (an (tD a)*an (tD b)))≠0:=by
 have e:QK=10000000:=rfl
 simp only [(aY _).2]
 have k1:=Cv ha;have k2:=Cv hb
 rw [ha.nums.1,ha.nums.2,hb.nums.1,hb.nums.2]
 have m1:=bW (bw a).num (bw b).num
 have m3:=bW ((bw a).den:Int) (bw b).den
 exact ⟨⟨(fm ha).1,(fm hb).1⟩,⟨(fm ha).2,(fm hb).2⟩,(tG (k:=20000001) (by omega)).mono' (by omega),(tG (k:=20000001) (by omega)).mono' (by omega),Int.mul_ne_zero (ep _) (ep _)⟩
theorem Iy {a b:List UInt8} (ha:GQ QK a) (hb:GQ QK b):bl (Rat.divInt (an (Lib.itoa (an (tN a)*an (tN b)))) (an (Lib.itoa (an (tD a)*an (tD b)))))=bl (bw a*bw b):=by
 simp only [(aY _).2]
 rw [ha.nums.1,ha.nums.2,hb.nums.1,hb.nums.2,← lh]
theorem Iz {p q:List (List UInt8)} (h: ¬ (p.length:Int)=(q.length:Int)):false=decide (p=q):=by
 symm
 rw [decide_eq_false_iff_not]
 rintro rfl
 exact h rfl
theorem Fg {p q:List (List UInt8)} {k:Nat} (he:p.length=q.length) (hk:k<p.length) (h:p.take k=q.take k) (hb:nth .str p (k:Int)=nth .str q (k:Int)):p.take (k+1)=q.take (k+1):=by
 rw [fi (t:= .str) hk,fi (t:= .str) (by omega:k<q.length)] at hb
 rw [List.take_succ_eq_append_getElem hk,List.take_succ_eq_append_getElem (by omega:k<q.length),h,hb]
theorem IA {p q:List (List UInt8)} {k:Nat} (hb: ¬nth .str p (k:Int)=nth .str q (k:Int)):false=decide (p=q):=by
 symm
 rw [decide_eq_false_iff_not]
 rintro rfl
 exact hb rfl
theorem IB {p q:List (List UInt8)} {k:Nat} (he:p.length=q.length) (hk: ¬k<p.length) (h:p.take k=q.take k):true=decide (p=q):=by
 symm
 rw [decide_eq_true_iff]
 rwa [List.take_of_length_le (by omega),List.take_of_length_le (by omega)] at h
theorem Cw {s:List UInt8} {k:Nat}:(((s.getD (k:Int).toNat 0).toNat:Nat):Int)=47↔s.getD k 0=47:=by
 rw [Int.toNat_natCast]
 constructor
 ·intro h
  exact UInt8.toNat_inj.1 (by show _=47;omega)
 ·intro h;rw [h];rfl
theorem Fh {s:List UInt8} {k:Nat} (hl:s.length≤1000000000) (hk:k<s.length):((0:Int)≤0∧(0:Int)≤(k:Int)∧(k:Int)≤((s.length:Nat):Int))∧
  (0:Int)≤IntKind.i64.wrap ((k:Int)+1)∧IntKind.i64.wrap ((k:Int)+1)≤((s.length:Nat):Int)∧((s.length:Nat):Int)≤((s.length:Nat):Int):=by
 rw [wi (by omega) (by omega)];omega
end Go.Cm
end
section
namespace Go.Cm
open Go.Proofs
def dvE (p q:List (List UInt8)):Int:=
 if bR [p,q]=0 then
  if aZ q= [] then 2
  else if b8 (aP (divN (aZ p) (aZ q)).1)=0 then b8 (aP (divN (aZ p) (aZ q)).2) else b8 (aP (divN (aZ p) (aZ q)).1)
 else bR [p,q]
def dvS (p q:List (List UInt8)):List (List UInt8):=if dvE p q=0 then gb (aP (divN (aZ p) (aZ q)).1) else []
def dvR (p q:List (List UInt8)):List (List UInt8):=if dvE p q=0 then gb (aP (divN (aZ p) (aZ q)).2) else []
structure lC (p q:List (List UInt8)):Prop where
 sp:cS p
 sq:cS q
 ok:bR [p,q]=0→aZ q≠ []→eO (aE (aZ p)) (aE (aZ q))∧(Sz QC (aE (divN (aZ p) (aZ q)).1)∧(aE (divN (aZ p) (aZ q)).1).length≤QL)∧(Sz QC (aE (divN (aZ p) (aZ q)).2)∧(aE (divN (aZ p) (aZ q)).2).length≤QL)
theorem IC {p q:List (List UInt8)} (h: ¬bR [p,q]=0): []=dvS p q∧ []=dvR p q∧bR [p,q]=dvE p q:=by
 have e:dvE p q=bR [p,q]:=if_neg h
 refine ⟨?_,?_,e.symm⟩
 ·unfold dvS;rw [if_neg (by rw [e];exact h)]
 ·unfold dvR;rw [if_neg (by rw [e];exact h)]
theorem ID {p q:List (List UInt8)} (h:bR [p,q]=0) (h2:(aE (aZ q)).length=0): []=dvS p q∧ []=dvR p q∧2=dvE p q:=by
 have hq:aZ q= []:=by rw [az] at h2;exact List.eq_nil_of_length_eq_zero h2
 have e:dvE p q=2:=by unfold dvE;rw [if_pos h,if_pos hq]
 refine ⟨?_,?_,e.symm⟩
 ·unfold dvS;rw [if_neg (by rw [e];decide)]
 ·unfold dvR;rw [if_neg (by rw [e];decide)]
theorem KE {q:List (List UInt8)} (h2: ¬ (aE (aZ q)).length=0):aZ q≠ []:=by
 intro h;rw [h] at h2;exact h2 rfl
theorem KF {p q:List (List UInt8)} (h:bR [p,q]=0) (h2:aZ q≠ []) (h3: ¬b8 (aP (divN (aZ p) (aZ q)).1)=0): []=dvS p q∧ []=dvR p q∧b8 (aP (divN (aZ p) (aZ q)).1)=dvE p q:=by
 have e:dvE p q=b8 (aP (divN (aZ p) (aZ q)).1):=by unfold dvE;rw [if_pos h,if_neg h2,if_neg h3]
 refine ⟨?_,?_,e.symm⟩
 ·unfold dvS;rw [if_neg (by rw [e];exact h3)]
 ·unfold dvR;rw [if_neg (by rw [e];exact h3)]
theorem IE {p q:List (List UInt8)} (h:bR [p,q]=0) (h2:aZ q≠ []) (h3:b8 (aP (divN (aZ p) (aZ q)).1)=0):dvE p q=b8 (aP (divN (aZ p) (aZ q)).2):=by
 unfold dvE;rw [if_pos h,if_neg h2,if_pos h3]
theorem KG {p q:List (List UInt8)} (h:bR [p,q]=0) (h2:aZ q≠ []) (h3:b8 (aP (divN (aZ p) (aZ q)).1)=0) (h4: ¬b8 (aP (divN (aZ p) (aZ q)).2)=0): []=dvS p q∧ []=dvR p q∧b8 (aP (divN (aZ p) (aZ q)).2)=dvE p q:=by
 have e:=IE h h2 h3
 refine ⟨?_,?_,e.symm⟩
 ·unfold dvS;rw [if_neg (by rw [e];exact h4)]
 ·unfold dvR;rw [if_neg (by rw [e];exact h4)]
theorem KH {p q:List (List UInt8)} (h:bR [p,q]=0) (h2:aZ q≠ []) (h3:b8 (aP (divN (aZ p) (aZ q)).1)=0) (h4:b8 (aP (divN (aZ p) (aZ q)).2)=0):
  gb (aP (divN (aZ p) (aZ q)).1)=dvS p q∧gb (aP (divN (aZ p) (aZ q)).2)=dvR p q∧0=dvE p q:=by
 have e:=IE h h2 h3
 rw [h4] at e
 refine ⟨?_,?_,e.symm⟩
 ·unfold dvS;rw [if_pos e]
 ·unfold dvR;rw [if_pos e]
def mg (p q:List (List UInt8)):Prop:=cD p=0∧cD q=0∧0<p.length∧0<q.length∧40<(p.length-1)*(q.length-1)
instance (p q:List (List UInt8)):Decidable (mg p q):=by unfold mg;infer_instance
def tH (p q:List (List UInt8)):Int:=if mg p q then 3 else cL jq p q
def tI (p q:List (List UInt8)):List (List UInt8):=if mg p q then [] else cM jq p q
structure vp (p q:List (List UInt8)):Prop where
 sp:cS p
 sq:cS q
 ok: ¬mg p q→bI vj jq p q
theorem Fi {p q:List (List UInt8)} (hp:cD p=0) (hq:cD q=0) (h1:0<p.length) (h2:0<q.length):IntKind.i64.wrap (IntKind.i64.wrap ((p.length:Int)-1)*IntKind.i64.wrap ((q.length:Int)-1))=(((p.length-1)*(q.length-1):Nat):Int):=by
 have k1:p.length≤41:=by
  unfold cD at hp;split at hp
  ·exact absurd hp (by decide)
  ·omega
 have k2:q.length≤41:=by
  unfold cD at hq;split at hq
  ·exact absurd hq (by decide)
  ·omega
 rw [b7 (by omega),b7 (by omega)]
 have e1:(p.length:Int)-1=((p.length-1:Nat):Int):=by omega
 have e2:(q.length:Int)-1=((q.length-1:Nat):Int):=by omega
 rw [e1,e2,← Int.natCast_mul]
 have h3:(p.length-1)*(q.length-1)≤40*40:=Nat.mul_le_mul (by omega) (by omega)
 generalize (p.length-1)*(q.length-1)=n at*
 exact wi (by omega) (by omega)
theorem IF {p q:List (List UInt8)} {b:Bool} (h:(cD p==0&&cD q==0&&decide ((0:Int)<(p.length:Int))&&decide ((0:Int)<(q.length:Int))&&decide ((40:Int)<IntKind.i64.wrap (IntKind.i64.wrap ((p.length:Int)-1)*IntKind.i64.wrap ((q.length:Int)-1))))=b):decide (mg p q)=b:=by
 rw [← h]
 clear h
 unfold mg
 by_cases h1:cD p=0
 ·by_cases h2:cD q=0
  ·by_cases h3:0<p.length
   ·by_cases h4:0<q.length
    ·rw [Fi h1 h2 h3 h4,Bool.eq_iff_iff]
     simp only [h1,h2,h3,h4,true_and,decide_eq_true_eq,Bool.and_eq_true,beq_self_eq_true]
     generalize (p.length-1)*(q.length-1)=n
     omega
    ·have: ¬ (0:Int)<(q.length:Int):=by omega
     simp [h4]
   ·have: ¬ (0:Int)<(p.length:Int):=by omega
    simp [h3]
  ·simp [h2]
 ·simp [h1]
theorem L5 {p q:List (List UInt8)} (h:mg p q): []=tI p q∧3=tH p q:=by
 unfold tI tH;rw [if_pos h,if_pos h];exact ⟨rfl,rfl⟩
theorem L6 {p q:List (List UInt8)} (h: ¬mg p q):cM jq p q=tI p q∧cL jq p q=tH p q:=by
 unfold tI tH;rw [if_neg h,if_neg h];exact ⟨rfl,rfl⟩
def evE (p:List (List UInt8)) (x:List UInt8):Int:=if bR [p]=0 then if c6 x=0 then rr (aO (aZ p) (bw x)) else c6 x else bR [p]
def evS (p:List (List UInt8)) (x:List UInt8):List UInt8:=if evE p x=0 then bl (aO (aZ p) (bw x)) else []
structure IG (p:List (List UInt8)) (x:List UInt8):Prop where
 sp:cS p
 sx:x.length≤QL
 ok:bR [p]=0→c6 x=0→Sz QM (aE (aZ p))∧(aZ p).length≤100∧lq (bw x)≤QM∧lq (aO (aZ p) (bw x))≤QC
theorem IH {p:List (List UInt8)} (h:bR [p]=0):ga [p]= [aE (aZ p)]:=by
 unfold ga;rw [if_pos h];rfl
theorem MN {p:List (List UInt8)} (h:bR [p]=0):nth (.slice NT) (ga [p]) 0=aE (aZ p):=by rw [IH h];rfl
theorem L7 {p:List (List UInt8)} (h:bR [p]=0):(ga [p]).length=1:=by rw [IH h];rfl
theorem II {p:List (List UInt8)} {x:List UInt8} (h:IG p x): [p].length≤1000∧∀ y∈ [p],cS y:=
 ⟨by simp,fun y hy=>by rw [List.mem_singleton] at hy;subst hy;exact h.sp⟩
theorem L8 {p:List (List UInt8)} {x:List UInt8} (h: ¬bR [p]=0): []=evS p x∧bR [p]=evE p x:=by
 have e:evE p x=bR [p]:=if_neg h
 exact ⟨by unfold evS;rw [if_neg (by rw [e];exact h)],e.symm⟩
theorem KI {p:List (List UInt8)} {x:List UInt8} (h:bR [p]=0) (h2: ¬c6 x=0): []=evS p x∧c6 x=evE p x:=by
 have e:evE p x=c6 x:=by unfold evE;rw [if_pos h,if_neg h2]
 exact ⟨by unfold evS;rw [if_neg (by rw [e];exact h2)],e.symm⟩
theorem L9 {p:List (List UInt8)} {x:List UInt8} (h:bR [p]=0) (h2:c6 x=0) (h3:fQ (aO (aZ p) (bw x))=false): []=evS p x∧6=evE p x:=by
 have e:evE p x=6:=by unfold evE;rw [if_pos h,if_pos h2];unfold rr;rw [h3];rfl
 exact ⟨by unfold evS;rw [if_neg (by rw [e];decide)],e.symm⟩
theorem KJ {p:List (List UInt8)} {x:List UInt8} (h:bR [p]=0) (h2:c6 x=0) (h3:fQ (aO (aZ p) (bw x))=true):bl (aO (aZ p) (bw x))=evS p x∧0=evE p x:=by
 have e:evE p x=0:=by unfold evE;rw [if_pos h,if_pos h2];unfold rr;rw [h3];rfl
 exact ⟨by unfold evS;rw [if_pos e],e.symm⟩
theorem IJ {p:List Rat} {x:Rat} {y:List UInt8} (c1:fp y) (k1:Sz QM (aE p)) (k2:p.length≤100) (k3:lq x≤QM) (k4:lq (aO p x)≤QC):
  ((0:Int)≤0∧(0:Int)<((1:Nat):Int))∧fp y∧(Sz QM (aE p)∧(aE p).length≤100∧NOK (bg x)∧lq x≤QM)∧1<QL∧∀ z:ND,z∈ [bg (aO p x)]→NOK z∧lq (bu z)≤QC:=by
 refine ⟨by decide,c1,⟨k1,by rw [az];exact k2,bQ _,k3⟩,by unfold QL;decide,fun z hz=> ?_⟩
 rw [List.mem_singleton] at hz
 subst hz
 rw [aK]
 exact ⟨bQ _,k4⟩
theorem Fj {x:Rat} (h:dh [bg x]=true) (y:List UInt8):(0:Int)≤0∧(0:Int)<((if dh [bg x]=true then [y] else []).length:Int):=by
 rw [if_pos h];simp
theorem KK {p:List (List UInt8)} {x:List UInt8} (h:bR [p]=0) (h2:c6 x=0) (h3:fQ (aO (aZ p) (bw x))=true):nth Ty.str (if fQ (aO (aZ p) (bw x))=true then [bl (aO (aZ p) (bw x))] else []) 0=evS p x∧0=evE p x:=by
 rw [if_pos h3];exact KJ h h2 h3
theorem xT (q:Rat):dh [bg q]=fQ q:=by unfold dh;simp [aK]
end Go.Cm
end
section
namespace Go.Cm
open Go.Proofs
structure Sml (n b:Nat) (l:List Rat):Prop where
 len:l.length≤n
 trm:Trm l
 den:Den b l
theorem Sml.pol {n b:Nat} {l:List Rat} (h:Sml n b l) (hn:n≤41) (hb:b≤222):Pol l:=⟨Nat.le_trans h.len hn,h.trm,Ir h.den hb⟩
theorem Sml.mul {n m k b c:Nat} {l l2:List Rat} (h:Sml n b l) (h2:Sml m c l2) (hn:n<1000) (hk:n+m≤k+1) (hm:1≤m) (hn1:1≤n):Sml k (b+c+1) (cw l l2):=by
 refine ⟨?_,md h.trm h2.trm,den_mul h.den h2.den (by have:=h.len;omega)⟩
 by_cases h3:l= []
 ·rw [h3,fI];simp
 by_cases h4:l2= []
 ·rw [h4,lB];simp
 rw [jT h3 h4]
 have:=h.len;have:=h2.len
 omega
theorem Sml.add {n m b c:Nat} {l l2:List Rat} (h:Sml n b l) (h2:Sml m c l2):Sml (max n m) (b+c+1) (bC (· + ·) l l2):=
 ⟨by have:=eQ (· + ·) l l2;have:=h.len;have:=h2.len;omega,eg _ _ _,den_add h.den h2.den⟩
theorem Sml.sub {n m b c:Nat} {l l2:List Rat} (h:Sml n b l) (h2:Sml m c l2):Sml (max n m) (b+c+1) (bC (· - ·) l l2):=
 ⟨by have:=eQ (· - ·) l l2;have:=h.len;have:=h2.len;omega,eg _ _ _,Kx h.den h2.den⟩
theorem Cy {n b m c:Nat} {p q:List Rat} (hp:Sml n b p) (hq:Sml m c q) (hn:n≤41) (hm:m≤41) (hb:b≤200) (hc:c≤200) (h0:q≠ []) {s r:List Rat} (ps:Pol s) (pr:Pol r) (hl:r.length<q.length)
  (h:∀ x,aO s x*aO q x+aO r x=aO p x):lC (txP p) (txP q)∧dvE (txP p) (txP q)=0∧dvS (txP p) (txP q)=txP s∧dvR (txP p) (txP q)=txP r:=by
 have e1:QD=10000000000:=rfl
 have e2:QC=100000000000:=rfl
 have e3:QL=1000000000:=rfl
 have pp:=hp.pol hn (by omega)
 have pq:=hq.pol hm (by omega)
 have hlp:=hp.len
 have hlq:=hq.len
 have hbd:b+(p.length+1-q.length)*(c+1)≤10000:=by
  have:(p.length+1-q.length)*(c+1)≤42*201:=Nat.mul_le_mul (by omega) (by omega)
  omega
 obtain ⟨u1,u2⟩:=xI h0 hp.trm hq.trm ps.trm pr.trm hl h
 obtain ⟨k1,k2⟩:=me (K:=10000) hp.den hq.den h0 hq.trm hbd (by omega)
 have hok:eO (aE p) (aE q):=AW (b:=b) (c:=c) (gk _) (gk _) (by rw [aG];exact hp.den) (by rw [aG];exact hq.den) (by rw [az];omega) (by rw [az];omega)
  (by rw [az];exact List.length_pos_iff.2 h0) (by rw [aG];exact hq.trm) (by rw [az,az];omega) (by omega)
 have t1:b8 s=0:=by unfold b8;rw [if_neg (by have:=ps.len;omega),if_pos (by rw [mV];exact ps.fit)]
 have t2:b8 r=0:=by unfold b8;rw [if_neg (by have:=pr.len;omega),if_pos (by rw [mV];exact pr.fit)]
 have hrt:aP (divN p q).2=r:=by rw [u2,kq pr.trm]
 have hc2:=kr pp pq
 have hE:dvE (txP p) (txP q)=0:=by
  unfold dvE
  rw [if_pos hc2,pp.num,pq.num,if_neg h0,u1,hrt,if_pos t1,t2]
 refine ⟨⟨pp.short,pq.short,fun _ _=> ?_⟩,hE,?_,?_⟩
 ·rw [pp.num,pq.num]
  refine ⟨hok,⟨eG fun x hx=> ?_,?_⟩,k2.sz (by omega),?_⟩
  ·have:=k1 x hx;omega
  ·rw [az,gx];omega
  ·rw [az,u2];have:=pr.len;omega
 ·unfold dvS
  rw [if_pos hE,pp.num,pq.num,u1];unfold gb;rw [if_pos t1];rfl
 ·unfold dvR
  rw [if_pos hE,pp.num,pq.num,hrt];unfold gb;rw [if_pos t2];rfl
theorem Sml.div {n b m c k:Nat} {p q:List Rat} (hp:Sml n b p) (hq:Sml m c q) (h0:q≠ []) (hk:b+(n+1)*(c+1)≤k):(∀ x∈(divN p q).1,lq x≤k)∧Sml m k (divN p q).2∧(divN p q).2.length<q.length:=by
 have hlp:=hp.len
 have hbd:b+(p.length+1-q.length)*(c+1)≤k:=by
  have:(p.length+1-q.length)*(c+1)≤(n+1)*(c+1):=Nat.mul_le_mul (by omega) (Nat.le_refl _)
  omega
 obtain ⟨k1,k2⟩:=me (K:=k) hp.den hq.den h0 hq.trm hbd (by have:=hp.den.pos;omega)
 have hs:=d9 (p:=p) (List.length_pos_iff.2 h0) (hq.trm h0)
 exact ⟨k1,⟨by have:=hq.len;omega,fG hp.trm,k2⟩,hs⟩
theorem xU {p:List Rat} (hp:Pol p):lC (txP p) []∧dvE (txP p) []=2∧dvS (txP p) []= []∧dvR (txP p) []= []:=by
 have hc:=kr hp je
 have e:dvE (txP p) (txP [])=2:=by unfold dvE;rw [if_pos hc,je.num,if_pos rfl]
 refine ⟨⟨hp.short,je.short,fun _ h=>absurd je.num h⟩,e,?_,?_⟩
 ·show dvS (txP p) (txP [])= []
  unfold dvS;rw [if_neg (by rw [e];decide)]
 ·show dvR (txP p) (txP [])= []
  unfold dvR;rw [if_neg (by rw [e];decide)]
theorem nQ {p q:List Rat} (hp:Sml 9 9 p) (hq:Sml 9 9 q) (h0:q≠ []):∃ s r m,Pol s∧Pol r∧Pol m∧r.length<q.length∧
  (lC (txP p) (txP q)∧dvE (txP p) (txP q)=0∧dvS (txP p) (txP q)=txP s∧dvR (txP p) (txP q)=txP r)∧
  (cM cw (txP q) (txP s)=txP m∧cL cw (txP q) (txP s)=0)∧(cM cw (txP p) (txP q)=txP (cw p q)∧cL cw (txP p) (txP q)=0)∧Pol (cw p q)∧
  (cM (bC (· + ·)) (txP m) (txP r)=txP p∧cL (bC (· + ·)) (txP m) (txP r)=0)∧
  (lC (txP (cw p q)) (txP q)∧dvE (txP (cw p q)) (txP q)=0∧dvS (txP (cw p q)) (txP q)=txP p∧dvR (txP (cw p q)) (txP q)= []):=by
 obtain ⟨k1,k2,k3⟩:=Sml.div hp hq h0 (k:=109) (by decide)
 have pp:=hp.pol (by decide) (by decide)
 have pq:=hq.pol (by decide) (by decide)
 have hlp:=hp.len
 have ps:Pol (aP (divN p q).1):=⟨by have:=dD (divN p q).1;rw [gx] at this;omega,gF _,Is fun x hx=>by have:=k1 x (fJ x hx);omega⟩
 have pr:Pol (divN p q).2:=k2.pol (by decide) (by decide)
 have hev:∀ x,aO (aP (divN p q).1) x*aO q x+aO (divN p q).2 x=aO p x:=fun x=>by rw [ia];exact vm h0 hq.trm x
 have hm:cw q (aP (divN p q).1)=bC (· - ·) p (divN p q).2:=lA (md hq.trm ps.trm) (eg _ _ _) fun x=>by
  rw [mS,rM];have:=hev x;grind
 have pm:Pol (cw q (aP (divN p q).1)):=by rw [hm];exact (hp.sub k2).pol (by decide) (by decide)
 have st:Sml 17 19 (cw p q):=hp.mul hq (by decide) (by decide) (by decide) (by decide)
 have pt:=st.pol (by decide) (by decide)
 refine ⟨_,_,_,ps,pr,pm,k3,Cy hp hq (by decide) (by decide) (by decide) (by decide) h0 ps pr k3 hev,rT pq ps (kq pm.trm) pm,rT pp pq (kq pt.trm) pt,pt,rT pm pr ?_ pp,
  Cy st hq (by decide) (by decide) (by decide) (by decide) h0 pp je (by simpa using List.length_pos_iff.2 h0) fun x=>by rw [mS,fH];grind⟩
 rw [kq (eg _ _ _)]
 exact lA (eg _ _ _) hp.trm fun x=>by rw [AQ,mS];have:=hev x;grind
theorem IK {p q:List Rat} (hp:Sml 9 9 p) (hq:Sml 9 9 q):lC (txP p) (txP q):=by
 by_cases h:q= []
 ·subst h;exact (xU (hp.pol (by decide) (by decide))).1
 ·obtain ⟨s,r,m,_,_,_,_,h2,_⟩:=nQ hp hq h
  exact h2.1
theorem IL {q:List Rat}:(((txP q).length:Nat):Int)=0↔q= []:=by
 rw [bT]
 constructor
 ·intro h;exact List.eq_nil_of_length_eq_zero (by omega)
 ·intro h;rw [h];rfl
theorem Ma {l:List Rat} (h:Pol l):(txP l).length≤QL:=by
 rw [bT];have:=h.len;unfold QL;omega
end Go.Cm
end
section
namespace Go.Cm
open Go.Proofs
def nl (p:List (List UInt8)):List Rat:=p.map bw
def GL (K:Nat) (p:List (List UInt8)):Prop:=∀ q∈p,GQ K q
theorem GL.tx {K:Nat} {p:List (List UInt8)} (h:GL K p):txP (nl p)=p:=by
 unfold txP nl
 rw [List.map_map]
 conv=>rhs;rw [← List.map_id p]
 exact List.map_congr_left fun q hq=>(h q hq).1
theorem GL.lq {K:Nat} {p:List (List UInt8)} (h:GL K p):∀ x∈nl p,lq x≤K:=by
 intro x hx
 obtain ⟨q,hq,rfl⟩:=List.mem_map.1 hx
 exact (h q hq).2
theorem nR {K:Nat} {l:List Rat} (h:∀ x∈l,lq x≤K):GL K (txP l):=by
 intro q hq
 obtain ⟨x,hx,rfl⟩:=List.mem_map.1 hq
 exact kt (h x hx)
theorem jW (l:List Rat):nl (txP l)=l:=Cj l
theorem iq (p:List (List UInt8)):(nl p).length=p.length:=by simp [nl]
theorem GL.mono {K m:Nat} {p:List (List UInt8)} (h:GL K p) (hm:K≤m):GL m p:=fun q hq=>⟨(h q hq).1,Nat.le_trans (h q hq).2 hm⟩
theorem GL.ex {K:Nat} {p:List (List UInt8)} (h:GL K p):∃ l,p=txP l∧∀ x∈l,Cm.lq x≤K:=⟨nl p,h.tx.symm,h.lq⟩
theorem IM {l:List Rat} {k:Nat} (h:k<l.length):nth .str (txP l) (k:Int)=bl (cf l k):=by
 rw [fi (t:= .str) (by rw [bT];exact h)]
 unfold txP cf
 rw [List.getElem_map,List.getD_eq_getElem?_getD,List.getElem?_eq_getElem h];rfl
theorem mY:bl 0= [48]:=gI.2 rfl
theorem mh {p:List (List UInt8)} {K:Nat} (h:GL K p) {k:Nat} (hk:k<p.length):nth .str p (k:Int)=bl (cf (nl p) k):=by
 have:=IM (l:=nl p) (k:=k) (by rw [iq];exact hk)
 rwa [h.tx] at this
theorem IO {p:List (List UInt8)} {k:Nat} (hk: ¬k<p.length): [48]=bl (cf (nl p) k):=by
 rw [cT (by rw [iq];omega),mY]
theorem Cz {l:List Rat} (h:0<l.length) (hl:l.length≤1000000000):nth .str (txP l) (IntKind.i64.wrap ((l.length:Int)-1))=bl (aH l):=by
 rw [b7 hl,show (l.length:Int)-1=((l.length-1:Nat):Int) by omega,IM (by omega),bZ h]
theorem KL {l:List Rat} (hl:l.length≤1000000000) (hb:(0:Int)<((txP l).length:Int)) (hc:nth .str (txP l) (IntKind.i64.wrap (((txP l).length:Int)-1))= [48]):0<l.length∧aH l=0:=by
 rw [bT] at hb hc
 rw [Cz (by omega) hl,gI] at hc
 exact ⟨by omega,hc⟩
theorem KM {l:List Rat} (hl:l.length≤1000000000) (hb:(0:Int)<((txP l).length:Int)→ ¬nth .str (txP l) (IntKind.i64.wrap (((txP l).length:Int)-1))= [48]):aP l=l:=by
 rw [bT] at hb
 by_cases h:l= []
 ·subst h;rfl
 ·have h1:=List.length_pos_iff.2 h
  have h2:=hb (by omega)
  rw [Cz h1 hl,gI] at h2
  exact ll h h2
theorem A4 {l:List Rat} (hl:l.length≤1000000000) (h:decide ((0:Int)<((txP l).length:Int))=true):decide ((0:Int)<((txP l).length:Int))=true∧0≤IntKind.i64.wrap (((txP l).length:Int)-1)∧IntKind.i64.wrap (((txP l).length:Int)-1)<((txP l).length:Int):=by
 have h1:=of_decide_eq_true h
 refine ⟨h,?_⟩
 rw [bT] at h1 ⊢
 rw [b7 hl];omega
theorem A5 {l l0:List Rat} {K:Nat} (hl:l.length≤1000000000) (g1:l.length≤l0.length) (g2:∀ x∈l,lq x≤K) (g3:aP l=aP l0) (h:0<l.length∧aH l=0):
  List.take (IntKind.i64.wrap (((txP l).length:Int)-1)).toNat (txP l)=txP l.dropLast∧l.dropLast.length≤l0.length∧(∀ x∈l.dropLast,lq x≤K)∧aP l.dropLast=aP l0∧l.dropLast.length<l.length:=by
 rw [bT,b7 hl,show ((l.length:Int)-1).toNat=l.length-1 by omega]
 refine ⟨?_,by rw [List.length_dropLast];omega,fun x hx=>g2 x (List.dropLast_subset _ hx),?_,by rw [List.length_dropLast];omega⟩
 ·unfold txP;rw [← List.map_take,List.dropLast_eq_take]
 ·rw [← g3,lp (List.length_pos_iff.1 h.1) h.2]
def QK2:Nat:=4000000
theorem rV (l:List Rat) (x:Rat):txP (l++ [x])=txP l++ [bl x]:=by simp [txP]
theorem tJ {K:Nat} {p:List (List UInt8)} (h:GL K p) (hK:1≤K) (i:Nat):lq (cf (nl p) i)≤K:=jp h.lq hK i
theorem mZ {p q:List (List UInt8)} (hp:GL QK2 p) (hq:GL QK2 q) (k:Nat):(GL QK p∧(0:Int)≤(k:Int))∧(GL QK q∧(0:Int)≤(k:Int))∧GQ QK (bl (cf (nl p) (k:Int).toNat))∧GQ QK (bl (cf (nl q) (k:Int).toNat)):=by
 have e:QK=10000000:=rfl
 have e2:QK2=4000000:=rfl
 rw [Int.toNat_natCast]
 have h1:=tJ hp (by omega) k
 have h2:=tJ hq (by omega) k
 exact ⟨⟨hp.mono (by omega),by omega⟩,⟨hq.mono (by omega),by omega⟩,kt (by omega),kt (by omega)⟩
theorem A6 {p q:List (List UInt8)} {k n:Nat} (h:k<n) (hn:n≤1000000):∃ z:Nat,IntKind.i64.wrap ((k:Int)+1)=(z:Int)∧txP (bF (· + ·) (nl p) (nl q) k)++ [bl (bw (bl (cf (nl p) (k:Int).toNat))+bw (bl (cf (nl q) (k:Int).toNat)))]=txP (bF (· + ·) (nl p) (nl q) z)∧z≤n∧n-z<n-k:=by
 refine ⟨k+1,by rw [wi (by omega) (by omega)];omega,?_,by omega,by omega⟩
 rw [Int.toNat_natCast,dE,dE,l9,rV]
theorem Fk {p q:List (List UInt8)} (hp:GL QK2 p) (hq:GL QK2 q) (k:Nat):GL QK (txP (bF (· + ·) (nl p) (nl q) k)):=by
 refine nR fun x hx=> ?_
 obtain ⟨i,_,rfl⟩:=List.mem_map.1 hx
 have e:QK=10000000:=rfl
 have e2:QK2=4000000:=rfl
 have h1:=tJ hp (by omega) i
 have h2:=tJ hq (by omega) i
 have:=mM (cf (nl p) i) (cf (nl q) i)
 show lq (cf (nl p) i+cf (nl q) i)≤_
 omega
theorem IP {p q:List (List UInt8)} {k:Nat} (h1:k≤max p.length q.length) (h: ¬k<max p.length q.length):txP (aP (nl (txP (bF (· + ·) (nl p) (nl q) k))))=txP (bC (· + ·) (nl p) (nl q)):=by
 have e:k=max p.length q.length:=by omega
 unfold bC
 rw [jW,iq,iq,← e]
def eI (c:Rat) (l:List Rat):List Rat:=aP (l.map fun x=>c*x)
def gK (k:Nat) (l:List Rat):List Rat:=aP (List.replicate k 0++l)
theorem xV {c:List UInt8} {p:List (List UInt8)} {K:Nat} (hp:GL K p) {k:Nat} (h:k<p.length) (hn:p.length≤1000000):∃ z:Nat,IntKind.i64.wrap ((k:Int)+1)=(z:Int)∧txP (((nl p).take k).map fun x=>bw c*x)++ [bl (bw c*bw (nth .str p (k:Int)))]=txP (((nl p).take z).map fun x=>bw c*x)∧z≤p.length∧p.length-z<p.length-k:=by
 refine ⟨k+1,by rw [wi (by omega) (by omega)];omega,?_,by omega,by omega⟩
 rw [mh hp h,dE,List.take_succ_eq_append_getElem (by rw [iq];exact h),List.map_append,← rV]
 congr 2
 unfold cf
 rw [List.getD_eq_getElem?_getD,List.getElem?_eq_getElem (by rw [iq];exact h)];rfl
theorem A7 {c:List UInt8} {p:List (List UInt8)} (hc:GQ QK2 c) (hp:GL QK2 p) (k:Nat):GL QK (txP (((nl p).take k).map fun x=>bw c*x)):=by
 refine nR fun x hx=> ?_
 obtain ⟨y,hy,rfl⟩:=List.mem_map.1 hx
 have e:QK=10000000:=rfl
 have e2:QK2=4000000:=rfl
 have:=lj (bw c) y
 have:=hc.2
 have:=hp.lq y (List.mem_of_mem_take hy)
 omega
theorem Fl {c:List UInt8} {p:List (List UInt8)} {k:Nat} (h: ¬k<p.length):txP (aP (nl (txP (((nl p).take k).map fun x=>bw c*x))))=txP (eI (bw c) (nl p)):=by
 rw [jW,List.take_of_length_le (by rw [iq];omega)];rfl
theorem IQ (k:Nat):List.replicate k [48]++ [[48]]=List.replicate (k+1) ([48]:List UInt8):=(List.replicate_succ' ..).symm
theorem KN (k:Nat):txP (List.replicate k 0)=List.replicate k [48]:=by unfold txP;rw [List.map_replicate,mY]
theorem A8 {p:List (List UInt8)} (hp:GL QK p) (k:Nat):GL QK (List.replicate k [48]++p):=by
 intro q hq
 rcases List.mem_append.1 hq with h|h
 ·rw [(List.mem_replicate.1 h).2,← mY]
  exact kt (Nat.le_trans g9 (by unfold QK;decide))
 ·exact hp q h
theorem Fm (p q:List (List UInt8)):nl (p++q)=nl p++nl q:=by simp [nl]
theorem Mb (k:Nat):nl (List.replicate k [48])=List.replicate k 0:=by rw [← KN,jW]
theorem Fn {p:List (List UInt8)} {k:Nat}:txP (aP (nl (List.replicate k [48]++p)))=txP (gK k (nl p)):=by
 rw [Fm,Mb];rfl
def en (l m:List Rat):Nat→List Rat
 |0=> []
 |i+1=>bC (· + ·) (en l m i) (gK i (eI (cf l i) m))
theorem IR (c:Rat) (l:List Rat) (x:Rat):aO (eI c l) x=c*aO l x:=by
 unfold eI
 rw [ia]
 induction l with
 |nil=>simp only [List.map_nil,fH];grind
 |cons a l ih=>simp only [List.map_cons,gl,ih];grind
theorem IU (k:Nat) (l:List Rat) (x:Rat):aO (gK k l) x=x^k*aO l x:=by
 unfold gK
 rw [ia,mR,AP,List.length_replicate];grind
theorem CA (l m:List Rat) (x:Rat):∀ i,i≤l.length→aO (en l m i) x=aO (l.take i) x*aO m x
 |0,_=>by simp only [en,List.take_zero,fH];grind
 |i+1,h=>by
  rw [en,AQ,IU,IR,CA l m x i (by omega),om l i x (by omega)]
  grind
theorem IV (l m:List Rat):∀ i,Trm (en l m i)
 |0=>Ch
 |i+1=>eg _ _ _
theorem KO {l m:List Rat} (hl:Trm l) (hm:Trm m):en l m l.length=cw l m:=
 lA (IV _ _ _) (md hl hm) fun x=>by rw [CA l m x _ (Nat.le_refl _),List.take_length,mS]
theorem xW {c:Rat} {l:List Rat} {K:Nat} (hc:lq c≤K) (hl:∀ x∈l,lq x≤K):∀ x∈eI c l,lq x≤2*K:=by
 intro x hx
 obtain ⟨y,hy,rfl⟩:=List.mem_map.1 (fJ x hx)
 have:=lj c y
 have:=hl y hy
 omega
theorem xX {k:Nat} {l:List Rat} {K:Nat} (hK:1≤K) (hl:∀ x∈l,lq x≤K):∀ x∈gK k l,lq x≤K:=by
 intro x hx
 rcases List.mem_append.1 (fJ x hx) with h|h
 ·rw [(List.mem_replicate.1 h).2];exact Nat.le_trans g9 hK
 ·exact hl x h
theorem Mc {l m:List Rat} {K M:Nat} (hK:1≤K) (hM:1≤M) (hl:∀ x∈l,lq x≤K) (hm:∀ x∈m,lq x≤M):∀ x∈bC (· + ·) l m,lq x≤K+M+1:=by
 intro x hx
 obtain ⟨i,_,rfl⟩:=List.mem_map.1 (fJ x hx)
 have h1:=jp hl hK i
 have h2:=jp hm hM i
 have:=mM (cf l i) (cf m i)
 show lq (cf l i+cf m i)≤_
 omega
theorem CB {l m:List Rat} {K:Nat} (hK:1≤K) (hl:∀ x∈l,lq x≤K) (hm:∀ x∈m,lq x≤K):∀ i,∀ x∈en l m i,lq x≤1+i*(2*K+1)
 |0=>by intro x hx;simp [en] at hx
 |i+1=>by
  intro x hx
  have h1:=Mc (by omega) (by omega:1≤2*K) (CB hK hl hm i) (xX (k:=i) (by omega) (xW (jp hl hK i) hm)) x hx
  rw [Nat.add_mul]
  omega
theorem tK (c:Rat) (l:List Rat):(eI c l).length≤l.length:=by
 have:=dD (l.map fun x=>c*x)
 rwa [List.length_map] at this
theorem tL (k:Nat) (l:List Rat):(gK k l).length≤k+l.length:=by
 have:=dD (List.replicate k 0++l)
 rw [List.length_append,List.length_replicate] at this
 exact this
theorem xY (l m:List Rat):∀ i,(en l m i).length≤i+m.length
 |0=>by simp [en]
 |i+1=>by
  have h1:=xY l m i
  have h2:=eQ (· + ·) (en l m i) (gK i (eI (cf l i) m))
  have h3:=tL i (eI (cf l i) m)
  have h4:=tK (cf l i) m
  rw [en];omega
def IW (p q:List (List UInt8)):Prop:=GL 10000 p∧GL 10000 q∧p.length≤100∧q.length≤100
theorem Fo {p q:List (List UInt8)} (h:IW p q) {k:Nat} (hk:k<p.length):(GQ QK2 (nth .str p (k:Int))∧GL QK2 q∧q.length≤1000000)∧(GL QK (txP (eI (bw (nth .str p (k:Int))) (nl q)))∧(0:Int)≤(k:Int)∧(k:Int)≤1000000∧(txP (eI (bw (nth .str p (k:Int))) (nl q))).length≤1000000)∧
  GL QK2 (txP (en (nl p) (nl q) k))∧GL QK2 (txP (gK (k:Int).toNat (nl (txP (eI (bw (nth .str p (k:Int))) (nl q))))))∧(txP (en (nl p) (nl q) k)).length≤1000000∧(txP (gK (k:Int).toNat (nl (txP (eI (bw (nth .str p (k:Int))) (nl q)))))).length≤1000000:=by
 obtain ⟨hp,hq,hl,hl2⟩:=h
 have e:QK=10000000:=rfl
 have e2:QK2=4000000:=rfl
 rw [mh hp hk,dE,jW,Int.toNat_natCast]
 have h1:=tJ hp (by omega) k
 have s1:=xW h1 hq.lq
 have s2:=xX (k:=k) (by omega) s1
 have s3:=CB (by omega) hp.lq hq.lq k
 have l1:=tK (cf (nl p) k) (nl q)
 have l2:=tL k (eI (cf (nl p) k) (nl q))
 have l3:=xY (nl p) (nl q) k
 rw [iq] at l1 l3
 refine ⟨⟨kt (by omega),hq.mono (by omega),by omega⟩,⟨nR fun x hx=>by have:=s1 x hx;omega,by omega,by omega,by rw [bT];omega⟩,nR fun x hx=> ?_,nR fun x hx=>by have:=s2 x hx;omega,by rw [bT];omega,by rw [bT];omega⟩
 have:=s3 x hx
 have h9:k*(2*10000+1)≤100*(2*10000+1):=Nat.mul_le_mul_right _ (by omega)
 omega
theorem A9 {p q:List (List UInt8)} (h:IW p q) {k:Nat} (hk:k<p.length):∃ z:Nat,IntKind.i64.wrap ((k:Int)+1)=(z:Int)∧txP (bC (· + ·) (nl (txP (en (nl p) (nl q) k))) (nl (txP (gK (k:Int).toNat (nl (txP (eI (bw (nth .str p (k:Int))) (nl q))))))))=txP (en (nl p) (nl q) z)∧z≤p.length∧p.length-z<p.length-k:=by
 have hl:=h.2.2.1
 refine ⟨k+1,by rw [wi (by omega) (by omega)];omega,?_,by omega,by omega⟩
 rw [mh h.1 hk,dE,jW,jW,jW,Int.toNat_natCast];rfl
theorem IX {p q:List (List UInt8)} {k:Nat} (h1:k≤p.length) (h: ¬k<p.length):txP (en (nl p) (nl q) k)=txP (en (nl p) (nl q) p.length):=by
 rw [show k=p.length by omega]
theorem MO {k a b:Nat} (h:(decide ((k:Int)<(a:Int))||decide ((k:Int)<(b:Int)))=true):k<max a b:=by
 rw [Bool.or_eq_true,decide_eq_true_iff,decide_eq_true_iff] at h;omega
theorem MP {k a b:Nat} (h:(decide ((k:Int)<(a:Int))||decide ((k:Int)<(b:Int)))=false): ¬k<max a b:=by
 rw [Bool.or_eq_false_iff,decide_eq_false_iff_not,decide_eq_false_iff_not] at h;omega
theorem rW {n:Nat} (h:n≤3000000):Cm.Roomy 1 n:=u7 (by omega)
theorem Ba {p q:List (List UInt8)} (hp:GL QK2 p) (hq:GL QK2 q) {k:Nat} (hk:k≤1000000):(GL QK p∧(0:Int)≤(k:Int))∧(GL QK q∧(0:Int)≤(k:Int))∧(GQ QK (bl (cf (nl p) (k:Int).toNat))∧GQ QK (bl (cf (nl q) (k:Int).toNat)))∧Cm.Roomy 1 ((txP (bF (· + ·) (nl p) (nl q) k)).length+1):=
 ⟨(mZ hp hq k).1,(mZ hp hq k).2.1,(mZ hp hq k).2.2,rW (by rw [bT,d7];omega)⟩
theorem xZ {c:List UInt8} {p:List (List UInt8)} (hc:GQ QK2 c) (hp:GL QK2 p) (hl:p.length≤1000000) {k:Nat} (hk:k<p.length):((0:Int)≤(k:Int)∧(k:Int)<((p.length:Nat):Int))∧(GQ QK c∧GQ QK (nth .str p (k:Int)))∧Cm.Roomy 1 ((txP (List.map (fun x=>bw c*x) (List.take k (nl p)))).length+1):=by
 have e:QK=10000000:=rfl
 have e2:QK2=4000000:=rfl
 have h1:=tJ hp (by omega) k
 refine ⟨by omega,⟨⟨hc.1,by have:=hc.2;omega⟩,by rw [mh hp hk];exact kt (by omega)⟩,rW ?_⟩
 rw [bT,List.length_map,List.length_take,iq];omega
end Go.Cm
end
section
namespace Go.Cm
open Go.Proofs
abbrev DPD:=List Int×Int×List Int
def jX (d:DPD):Prop:=(∀ n∈d.1, -128≤n∧n<128)∧(0≤d.2.1∧d.2.1<256)∧∀ n∈d.2.2, -128≤n∧n<128
def Md (d:DPD) (n:Int):Rat:=Rat.divInt (n.tmod 10) (1+d.2.1.tmod 4)
def gL (d:DPD) (k:Nat):List Rat:=(d.1.take k).map (Md d)
def kQ (r:Int):List Rat:= [Rat.divInt (-r.tmod 8) 2,1]
def kI (d:DPD):Nat→List Rat
 |0=>aP (gL d 5)
 |i+1=>cw (kI d i) (kQ (d.2.2.getD i 0))
def mi (d:DPD):List Rat:=kI d (min d.2.2.length 4)
theorem ie (n:Int) (m:Int) (hm:0<m): -m<n.tmod m∧n.tmod m<m:=by
 have h1:=Int.tmod_lt_of_pos n hm
 have h2:=Int.tmod_lt_of_pos (-n) hm
 rw [Int.neg_tmod] at h2
 omega
theorem jY {n:Int} (h:n.natAbs<1000000000):lw n≤1:=kO (by show _<(1000000000:Int)^1;omega)
theorem CC {d:DPD} (h:jX d) (l:List Int):Den 1 (l.map (Md d)):=by
 obtain ⟨_,⟨h1,h2⟩,_⟩:=h
 have hD:=ie d.2.1 4 (by decide)
 have h0:0≤d.2.1.tmod 4:=Int.tmod_nonneg _ h1
 refine ⟨1+d.2.1.tmod 4,by omega,jY (by omega),fun i=> ?_⟩
 by_cases hi:i<l.length
 ·refine ⟨l[i].tmod 10,jY (by have:=ie l[i] 10 (by decide);omega),?_⟩
  unfold cf
  rw [List.getD_eq_getElem?_getD,List.getElem?_map,List.getElem?_eq_getElem hi];rfl
 ·exact ⟨0,by rw [gj];omega,by rw [cT (by rw [List.length_map];omega),Rat.zero_divInt]⟩
theorem tM (r:Int):Trm (kQ r):=fun _=>by unfold kQ aH;show (1:Rat)≠0;decide
theorem x4 (r:Int):Den 1 (kQ r):=by
 have h:=ie r 8 (by decide)
 refine ⟨2,by decide,jY (by decide),fun i=> ?_⟩
 match i with
 |0=>exact ⟨-r.tmod 8,jY (by omega),rfl⟩
 |1=>exact ⟨2,jY (by decide),by show (1:Rat)=_;decide+kernel⟩
 |i+2=>exact ⟨0,by rw [gj];omega,by rw [cT (by unfold kQ;simp),Rat.zero_divInt]⟩
theorem mj {d:DPD} (h:jX d):∀ i,i≤4→Sml (5+i) (1+2*i) (kI d i)
 |0,_=>⟨by
   have:=dD (gL d 5)
   unfold kI
   have h2:(gL d 5).length≤5:=by unfold gL;rw [List.length_map,List.length_take];omega
   omega,gF _,jU (CC h _)⟩
 |i+1,hi=>by
  have ih:=mj h i (by omega)
  have:=ih.mul (l2:=kQ (d.2.2.getD i 0)) (m:=2) (c:=1) (k:=5+(i+1)) ⟨by unfold kQ;simp,tM _,x4 _⟩ (by omega) (by omega) (by omega) (by omega)
  exact ⟨this.len,this.trm,this.den.mono (by omega)⟩
theorem tO {d:DPD} (h:jX d):Sml 9 9 (mi d):=by
 have:=mj h (min d.2.2.length 4) (by omega)
 exact ⟨by have:=this.len;unfold mi;omega,this.trm,this.den.mono (by omega)⟩
abbrev I8:Ty:= .int .i8
theorem IY {l:List Int} {k:Nat} (hk:k<l.length):nth I8 l (k:Int)=l[k]:=fi (t:=I8) hk
theorem Me {d:DPD} {k:Nat} (hk:k<d.1.length):txP (gL d k)++ [bl (Md d (nth I8 d.1 (k:Int)))]=txP (gL d (k+1)):=by
 rw [← rV]
 unfold gL
 rw [IY hk,List.take_succ_eq_append_getElem hk,List.map_append];rfl
theorem IZ {d:DPD} {k:Nat} (h: ¬ (k<d.1.length∧k<5)) (hk:k≤d.1.length∧k≤5):gL d k=gL d 5:=by
 unfold gL
 by_cases h5:k=5
 ·rw [h5]
 ·rw [List.take_of_length_le (by omega),List.take_of_length_le (by omega)]
theorem CD {d:DPD} (h:jX d) (k:Nat):GL QK (txP (gL d k))∧(txP (gL d k)).length≤k:=by
 refine ⟨nR fun x hx=>Nat.le_trans ((CC h (d.1.take k)).lq x hx) (by unfold QK;decide),?_⟩
 rw [bT];unfold gL;rw [List.length_map,List.length_take];omega
theorem Mf {d:DPD} {k:Nat} (h:(txP (gL d k)).length≤k) (hk:k≤d.1.length∧k≤5):(txP (gL d k)).length≤1000000000:=by omega
theorem x5 (r:Int):txP (kQ r)= [bl (Rat.divInt (-r.tmod 8) 2), [49]]:=by
 have h1:bl 1= [49]:=by decide+kernel
 unfold kQ txP
 simp [h1]
theorem KP {d:DPD} (h:jX d) {i:Nat} (hi:i≤4) (r:Int):IW (txP (kI d i)) [bl (Rat.divInt (-r.tmod 8) 2), [49]]:=by
 have hs:=mj h i hi
 rw [← x5]
 refine ⟨nR fun x hx=>Nat.le_trans (hs.den.lq x hx) (by omega),nR fun x hx=>Nat.le_trans ((x4 r).lq x hx) (by omega),by rw [bT];have:=hs.len;omega,by rw [bT];unfold kQ;simp⟩
theorem Mg {d:DPD} (h:jX d) {i:Nat} (hi:i<d.2.2.length) (hi4:i<4):txP (en (nl (txP (kI d i))) (nl [bl (Rat.divInt (-(nth I8 d.2.2 (i:Int)).tmod 8) 2), [49]]) (txP (kI d i)).length)=txP (kI d (i+1)):=by
 rw [← x5,jW,jW,bT,KO (mj h i (by omega)).trm (tM _),kI,IY hi]
 congr 3
 rw [List.getD_eq_getElem?_getD,List.getElem?_eq_getElem hi];rfl
theorem Mh {d:DPD} {i:Nat} (h: ¬ (i<d.2.2.length∧i<4)) (hk:i≤d.2.2.length∧i≤4):txP (kI d i)=txP (mi d):=by
 unfold mi
 rw [show min d.2.2.length 4=i by omega]
theorem Lv {k a n:Nat} (h:(decide ((k:Int)<(a:Int))&&decide ((k:Int)<(n:Int)))=true):k<a∧k<n:=by
 rw [Bool.and_eq_true,decide_eq_true_iff,decide_eq_true_iff] at h;omega
theorem Lw {k a n:Nat} (h:(decide ((k:Int)<(a:Int))&&decide ((k:Int)<(n:Int)))=false): ¬ (k<a∧k<n):=by
 rw [Bool.and_eq_false_iff,decide_eq_false_iff_not,decide_eq_false_iff_not] at h;omega
theorem MQ {d:DPD} (h:jX d) {k:Nat} (hk:k<d.2.2.length):IntKind.i64.wrap (0-(IntKind.i64.wrap (nth I8 d.2.2 (k:Int))).tmod 8)= -(nth I8 d.2.2 (k:Int)).tmod 8:=by
 have h1:=h.2.2 (nth I8 d.2.2 (k:Int)) (fF (t:=I8) hk)
 rw [wi (x:=nth I8 d.2.2 (k:Int)) (by omega) (by omega)]
 have h2:=ie (nth I8 d.2.2 (k:Int)) 8 (by decide)
 rw [wi (by omega) (by omega)];omega
theorem MR {d:DPD} (h:jX d) {k:Nat} (hk:k<d.1.length):IntKind.i64.wrap (nth I8 d.1 (k:Int))=nth I8 d.1 (k:Int):=by
 have h1:=h.1 (nth I8 d.1 (k:Int)) (fF (t:=I8) hk)
 exact wi (by omega) (by omega)
theorem Fp {d:DPD} (h:jX d) {k:Nat} (hk:k<d.2.2.length∧k<4):((0:Int)≤(k:Int)∧(k:Int)<((d.2.2.length:Nat):Int))∧(8:Int)≠0∧
  (I64 (IntKind.i64.wrap (0-(IntKind.i64.wrap (nth I8 d.2.2 (k:Int))).tmod 8))∧I64 2∧(2:Int)≠0)∧
   IW (txP (kI d k)) [bl (Rat.divInt (IntKind.i64.wrap (0-(IntKind.i64.wrap (nth I8 d.2.2 (k:Int))).tmod 8)) 2), [49]]:=by
 rw [MQ h hk.1]
 have h2:=ie (nth I8 d.2.2 (k:Int)) 8 (by decide)
 exact ⟨by omega,by decide,⟨by unfold I64;omega,by unfold I64;omega,by decide⟩,KP h (by omega) _⟩
theorem Fq {d:DPD} (h:jX d) {k:Nat} (hk:k<d.2.2.length∧k<4):∃ z:Nat,txP (en (nl (txP (kI d k))) (nl [bl (Rat.divInt (IntKind.i64.wrap (0-(IntKind.i64.wrap (nth I8 d.2.2 (k:Int))).tmod 8)) 2), [49]]) (txP (kI d k)).length)=txP (kI d z)∧
   IntKind.i64.wrap ((k:Int)+1)=(z:Int)∧z≤d.2.2.length∧z≤4∧4-z<4-k:=by
 rw [MQ h hk.1]
 exact ⟨k+1,Mg h hk.1 hk.2,wi (by omega) (by omega),by omega,by omega,by omega⟩
theorem Mi {d:DPD} {k:Nat} (h: ¬ (k<d.1.length∧k<5)) (hk:k≤d.1.length∧k≤5):txP (aP (nl (txP (gL d k))))=txP (kI d 0):=by
 rw [jW,IZ h hk];rfl
theorem MS {d:DPD} (h:jX d):IntKind.i64.wrap (1+IntKind.i64.wrap (Int.tmod d.2.1 4))=1+d.2.1.tmod 4:=by
 have hD:=ie d.2.1 4 (by decide)
 have h0:0≤d.2.1.tmod 4:=Int.tmod_nonneg _ h.2.1.1
 rw [wi (x:=d.2.1.tmod 4) (by omega) (by omega),wi (by omega) (by omega)]
theorem Fr {d:DPD} (h:jX d) {k:Nat} (hk:k<d.1.length∧k<5):((0:Int)≤(k:Int)∧(k:Int)<((d.1.length:Nat):Int))∧(10:Int)≠0∧(4:Int)≠0∧
    (I64 ((IntKind.i64.wrap (nth I8 d.1 (k:Int))).tmod 10)∧
      I64 (IntKind.i64.wrap (1+IntKind.i64.wrap (Int.tmod d.2.1 4)))∧
       IntKind.i64.wrap (1+IntKind.i64.wrap (Int.tmod d.2.1 4))≠0)∧
     live [some (txP (gL d k))] 0=true∧Cm.Roomy 1 ((rowOf [some (txP (gL d k))] 0).length+1):=by
 rw [MS h,MR h hk.1]
 have hD:=ie d.2.1 4 (by decide)
 have h0:0≤d.2.1.tmod 4:=Int.tmod_nonneg _ h.2.1.1
 have hn:=ie (nth I8 d.1 (k:Int)) 10 (by decide)
 refine ⟨by omega,by decide,by decide,⟨by unfold I64;omega,by unfold I64;omega,by omega⟩,rfl,rW ?_⟩
 show (txP (gL d k)).length+1≤_
 rw [bT];unfold gL;rw [List.length_map,List.length_take];omega
theorem Fs {d:DPD} (h:jX d) {k:Nat} (hk:k<d.1.length∧k<5):∃ z:Nat,IntKind.i64.wrap ((k:Int)+1)=(z:Int)∧
   rowOf [some (txP (gL d k))] 0++ [bl (Rat.divInt ((IntKind.i64.wrap (nth I8 d.1 (k:Int))).tmod 10) (IntKind.i64.wrap (1+IntKind.i64.wrap (Int.tmod d.2.1 4))))]=txP (gL d z)∧
    z≤d.1.length∧z≤5∧5-z<5-k:=by
 rw [MS h,MR h hk.1]
 exact ⟨k+1,wi (by omega) (by omega),Me hk.1,by omega,by omega,by omega⟩
end Go.Cm
end
section
namespace Go.Cm
open Go
theorem Lx {x:Int} (h:(Ty.int .i8).okD x): -128≤x∧x<128:=by
 have:=Hi (a:= -128) (b:=127) h (by decide) (by decide);omega
theorem CE {d:DPD} (h:(Ty.st (.pair (.slice (.int .i8)) (.pair (.int .u8) (.slice (.int .i8))))).okD d):jX d:=by
 obtain ⟨⟨_,h1⟩,h2,⟨_,h3⟩⟩:=h
 exact ⟨fun n hn=>Lx (h1 n hn),Mu h2,fun n hn=>Lx (h3 n hn)⟩
end Go.Cm
end
section
namespace Go.Proofs
open Go.RowKit Go.Cm Go.Shelf
attribute [local go_sem] Oper.semAt_some
def rX (xs:List Int) (k:Nat):List LV:= [.z (.int .i64) ((xs.length:Int)-1-k), .z (.int .u32) (xs.getD (xs.length-1-k) 0)]
def cG (xs:List Int):List (List LV):=(List.range xs.length).map (rX xs)
set_option maxRecDepth 100000 in
set_option maxHeartbeats 2000000 in
theorem KQ (F:Fence) (h7:F.fn 208) (hro:F.round=none) (l Bs oB b off len cap:Nat) (xs:List Int) (hlen:xs.length=len) (hbig:len≤maxLen) (J:Nat→World→Prop) (Jx:World→Prop) (Kp:World→World→Prop)
  (W:World) (hBs:W.cell? ⟨Bs,oB,none⟩=some (.slice (some ⟨b,off,none⟩) len cap)) (hc:∀ j,j<len→W.cell? ⟨b,off+j,none⟩=some (.int .u32 (xs.getD j 0)))
  (hKp:∀ A B,Kp A B→(∃ o:Obj,A.heap[Bs]? =some o∧o.isCells=true)→((0<len)→∃ o:Obj,A.heap[b]? =some o∧o.isCells=true)→B.heap[Bs]? =A.heap[Bs]? ∧(0<len→B.heap[b]? =A.heap[b]?))
  (hY:∀ k W1,J k W1→k<len→YieldAt F 0 Tryz.prog l #[.int .i64 ((len:Int)-1-k), .int .u32 (xs.getD (len-1-k) 0)] W1 fun e W'=>(e= .returned (.bool true)∧J (k+1) W'∧Kp W1 W')∨(e= .returned (.bool false)∧Jx W'))
  (h0:J 0 W):
  CallsIn F 1 Tryz.prog 208 #[.func (.yield l) #[] #[], .pointer (some ⟨Bs,oB,none⟩)] W fun e W'=>(∃ v,e= .returned v)∧(J len W'∨Jx W'):=by
 unfold maxLen at hbig
 refine callsIn_of_wp Tryz.func208 rfl h7 ?_ hro
 simp only [Tryz.ntmps208,List.size_toArray,List.length_cons,List.length_nil,Nat.reduceAdd,Nat.reduceSub,Array.replicate_succ,Array.replicate_zero,List.push_toArray,List.append_toArray,List.nil_append,List.cons_append]
 gi_wp2
 gi_loopw [3] (fun i wr=>∃ k:Nat,k≤len∧i= .int .i64 ((len:Int)-1-k)∧J k wr∧wr.heap[Bs]? =W.heap[Bs]? ∧(0<len→wr.heap[b]? =W.heap[b]?))
  (fun i _=>(intOf i+1).toNat)
 case atStart=>exact ⟨0,Nat.zero_le _,by simp,h0,rfl,fun _=>rfl⟩
 case round=>
  obtain ⟨k,hk,rfl,hJs,hn1,hn2⟩:=hrel
  have hB1:wr.cell? ⟨Bs,oB,none⟩=some (.slice (some ⟨b,off,none⟩) len cap):=(World.cell?_of_block (a:=⟨Bs,oB,none⟩) hn1).trans hBs
  by_cases hlt:k<len
  ·have hge:0≤(len:Int)-1-k:=by omega
   have htn:((len:Int)-1-k).toNat=len-1-k:=by omega
   have hup:(len:Int)-1-k<len:=by omega
   have hcx:wr.cell? ⟨b,off+(len-1-k),none⟩=some (.int .u32 (xs.getD (len-1-k) 0)):=(World.cell?_of_block (a:=⟨b,off+(len-1-k),none⟩) (hn2 (by omega))).trans (hc _ (by omega))
   have hcB:∃ o:Obj,wr.heap[Bs]? =some o∧o.isCells=true:=cells_of_cell hB1
   have hcb:∃ o:Obj,wr.heap[b]? =some o∧o.isCells=true:=cells_of_cell hcx
   obtain ⟨fn,tmps,assign,body,hy,hR⟩:=hY k wr hJs hlt
   generalize xs.getD (len-1-k) 0=x at*
   gi_wp2
   refine hR.mono ?_
   rintro e W3 (⟨rfl,hJ3,hk3⟩|⟨rfl,hJx3⟩)
   ·obtain ⟨e1,e2⟩:=hKp _ _ hk3 hcB (fun _=>hcb)
    gi_wp2
    go_roundw
    case rel=>exact ⟨k+1,by omega,by congr 1;omega,hJ3,e1.trans hn1,fun h=>(e2 h).trans (hn2 h)⟩
    case measure=>simp [intOf];omega
   ·gi_wp2
    refine bodyPost_ret (results_none rfl _ _ _) rfl ?_
    exact ⟨⟨_,rfl⟩, .inr hJx3⟩
  ·have hk2:k=len:=by omega
   have hng: ¬0≤(len:Int)-1-k:=by omega
   rw [hk2] at hJs
   clear hk2
   gi_wp2
   go_end0
   exact ⟨⟨_,rfl⟩, .inl hJs⟩
set_option maxRecDepth 100000 in
set_option maxHeartbeats 2000000 in
theorem x6 (F:Fence) (h7:F.fn 208) (hro:F.round=none) (l Bs oB:Nat) (J:World→Prop) (W:World) (a:Option Addr) (cap:Nat) (hBs:W.cell? ⟨Bs,oB,none⟩=some (.slice a 0 cap)) (h0:J W):
  CallsIn F 1 Tryz.prog 208 #[.func (.yield l) #[] #[], .pointer (some ⟨Bs,oB,none⟩)] W fun e W'=>(∃ v,e= .returned v)∧J W':=by
 refine callsIn_of_wp Tryz.func208 rfl h7 ?_ hro
 simp only [Tryz.ntmps208,List.size_toArray,List.length_cons,List.length_nil,Nat.reduceAdd,Nat.reduceSub,Array.replicate_succ,Array.replicate_zero,List.push_toArray,List.append_toArray,List.nil_append,List.cons_append]
 gi_wp2
 gi_loopw [3] (fun i wr=>i= .int .i64 (-1)∧wr=W) (fun i _=>(intOf i+1).toNat)
 case atStart=>exact ⟨rfl,rfl⟩
 case round=>
  obtain ⟨rfl,rfl⟩:=hrel
  gi_wp2
  go_end0
  exact ⟨⟨_,rfl⟩,h0⟩
theorem kR {H:Nat→Prop} {w:World} {b o:Nat} {c:Value} (h:c8 H w b o [c]):w.cell? ⟨b,o,none⟩=some c∧b<w.heap.size∧ ¬H b:=
 ⟨by have:=h.2 0 (by simp);simpa using this,h.lt (by simp),h.1 (by simp)⟩
theorem x7 (xs:List Int):lR Tryz.prog 208 2 [.z (.ptr (.slice (.int .u32))) xs] (cG xs):=by
 refine ⟨enters_of Tryz.func208 (by kernel_rfl) rfl,?_,?_⟩
 ·intro it hit
  obtain ⟨k,_,rfl⟩:=List.mem_map.1 hit
  exact ⟨rfl,rfl⟩
 ·intro H w lb hH hcap
  obtain ⟨v,rfl⟩:∃ v,lb= [v]:=by
   match lb,hcap with
   | [v],_=>exact ⟨v,rfl⟩
   |_::_::_,h=>exact h.2.elim
  obtain ⟨hag,bB,oB,cells,hv,hsl,hlies⟩:=hcap.1
  have hv2:v= .pointer (some ⟨bB,oB,none⟩):=by
   have hone:=ca (v:=v) (by cases v<;>first|rfl|(simp [Ty.isAgg] at hag))
   rw [hone] at hv;simpa using hv
  subst hv2
  refine ⟨fun k=> #[.int .i64 ((xs.length:Int)-1-k), .int .u32 (xs.getD (xs.length-1-k) 0)],fun k hk=> ?_,?_⟩
  ·simp only [cG,List.getElem_map,List.getElem_range]
   exact ⟨bJ (ρ:=fun _=>undef),bJ (ρ:=fun _=>undef),trivial⟩
  ·intro l J Jx W hb _ _ _ _ hY h0
   have hlen:(cG xs).length=xs.length:=by simp [cG]
   rw [hlen] at hY ⊢
   rcases hsl with ⟨rfl,rfl⟩|⟨b,o,p,cap,cs,rfl,hp,h1,h2,h3,h4⟩
   ·obtain ⟨c1,c2,c3⟩:=kR hlies
    exact (x6 (fw none) trivial rfl l bB oB (J 0) W none 0 ((hb.cell (p:=⟨bB,oB,none⟩) c2).trans c1) h0).mono (fun e W' h=>⟨h.1, .inl h.2⟩)
   ·obtain ⟨c1,c2,c3⟩:=kR hlies
    by_cases hnil:xs= []
    ·subst hnil
     exact (x6 (fw none) trivial rfl l bB oB (J 0) W (some ⟨b,o,p⟩) cap ((hb.cell (p:=⟨bB,oB,none⟩) c2).trans c1) h0).mono (fun e W' h=>⟨h.1, .inl h.2⟩)
    obtain rfl:=hp hnil
    have hcs:=lI h3
    have hne:0<xs.length→cs≠ []:=fun h e=>by rw [hcs] at e;simp at e;subst e;simp at h
    refine KQ (fw none) trivial rfl l bB oB b o xs.length cap xs rfl (Nat.le_trans h1 h2) J Jx (wO H w.heap.size) W ((hb.cell (p:=⟨bB,oB,none⟩) c2).trans c1) (fun j hj=> ?_) (fun A B hk hA1 hA2=>⟨hk bB c2 c3 hA1,fun h=>hk b (h4.lt (hne h)) (h4.1 (hne h)) (hA2 h)⟩) hY h0
    have hj':j<cs.length:=by rw [hcs];simpa using hj
    rw [hb.cell (p:=⟨b,o+j,none⟩) (h4.lt (hne (by omega))),h4.2 j hj',hcs,List.getElem?_map,List.getElem?_eq_getElem hj]
    simp [List.getD_eq_getElem?_getD,List.getElem?_eq_getElem hj]
end Go.Proofs
end
section
namespace Go.Cm
open Go.Proofs
theorem vq {K:Nat} (hK:1≤K):∀ l:List Rat,(∀ x∈l,lq x≤K)→Den (l.length*K+1) l
 | [],_=>oo (by omega)
 |a::l,h=>by
  obtain ⟨D,d1,d2,d3⟩:=vq hK l fun x hx=>h x (List.mem_cons_of_mem _ hx)
  have ha:=h a (List.mem_cons_self ..)
  have h1:=dH a;have h2:=dn a
  have e:(a::l).length*K+1=l.length*K+1+K:=by rw [List.length_cons,Nat.add_mul];omega
  refine ⟨D*a.den,Int.mul_ne_zero d1 (ep a),by rw [e];have:=bW D a.den;omega,fun i=> ?_⟩
  cases i with
  |zero=>
   refine ⟨a.num*D,by rw [e];have:=bW a.num D;omega,?_⟩
   have e1:cf (a::l) 0=a:=by simp [cf]
   rw [e1,Int.mul_comm D,Rat.divInt_mul_right d1]
   exact (Rat.num_divInt_den a).symm
  |succ i=>
   obtain ⟨n,n1,n2⟩:=d3 i
   refine ⟨n*a.den,by rw [e];have:=bW n a.den;omega,?_⟩
   have e1:cf (a::l) (i+1)=cf l i:=by simp [cf]
   rw [e1,n2,Rat.divInt_mul_right (ep a)]
theorem Mj {l:List Rat} {n K:Nat} (hn:l.length≤n) (ht:Trm l) (hK:1≤K) (h:∀ x∈l,lq x≤K):Sml n (n*K+1) l:=
 ⟨hn,ht,(vq hK l h).mono (by have:=Nat.mul_le_mul_right K hn;omega)⟩
theorem CF {n b m c:Nat} {l q:List Rat} (hl:Sml n b l) (hq:Sml m c q) (pl:Pol l) (pq:Pol q) (hb:(max b c+1)*(n+2)*3^m≤QD):bI hZ cm (txP l) (txP q)∧hZ (aE l) (aE q)∧Den ((max b c+1)*(n+2)*3^m) (cm l q):=by
 have e1:QD=10000000000:=rfl
 have e2:QC=100000000000:=rfl
 have e3:QL=1000000000:=rfl
 have hll:=hl.len;have hlq:=hq.len
 have pl1:=pl.len;have pq1:=pq.len
 have hbd:(max b c+1)*(l.length+1-q.length+1)*3^q.length≤QD:=by
  refine Nat.le_trans (Nat.mul_le_mul (Nat.mul_le_mul (Nat.le_refl _) (by omega:_≤n+2)) (Nat.pow_le_pow_right (by omega) hlq)) hb
 obtain ⟨g1,g2⟩:=L4 (p:=aE l) (q:=aE q) (b:=max b c) (gk _) (gk _) (by rw [aG];exact hl.den.mono (by omega)) (by rw [aG];exact hq.den.mono (by omega)) (by rw [az];omega) (by rw [az];omega) (by rw [aG];exact hl.trm) (by rw [aG];exact hq.trm) (by rw [az,az];exact hbd)
 rw [aG,aG,az,az] at g2
 have g2:=g2.mono (Nat.le_refl _)
 refine ⟨gJ pl pq g1 (fun x hx=>by have:=g2.lq x hx;omega) ?_,g1,g2.mono (Nat.mul_le_mul (Nat.mul_le_mul (Nat.le_refl _) (by omega:_≤n+2)) (Nat.pow_le_pow_right (by omega) hlq))⟩
 have key:∀ (k:Nat) (a b:List Rat),a.length≤900→b.length≤900→Trm b→(dM k a b).length≤900:=by
  intro k
  induction k with
  |zero=>intro a b ha _ _;rw [dM,bX];exact ha
  |succ k ih=>
   intro a b ha hb tb
   rw [dM]
   split
   ·rw [bX];exact ha
   ·rename_i hne
    by_cases hta:Trm a
    ·have:=d9 (p:=a) (List.length_pos_iff.2 hne) (tb hne)
     exact ih _ _ hb (by rw [bX];omega) (gw (fG hta))
    ·have h3:=d9 (p:=a) (List.length_pos_iff.2 hne) (tb hne)

     have:∀ (k:Nat) (a b:List Rat),a.length≤900→b.length≤900→(dM k a b).length≤900:=by
      intro k
      induction k with
      |zero=>intro a b ha _;rw [dM,bX];exact ha
      |succ k ih2=>
       intro a b ha hb
       rw [dM]
       split
       ·rw [bX];exact ha
       ·refine ih2 _ _ hb ?_
        rw [bX]
        have hlen:∀ (q:List Rat) (n:Nat) (r s:List Rat),(em q n r s).2.length≤r.length:=by
         intro q n
         induction n with
         |zero=>intro r s;exact Nat.le_refl _
         |succ n ih3=>
          intro r s
          rw [em]
          split
          ·have h5:=ih3 (aP (ce q r)) (s.set (r.length-q.length) (aH r/aH q))
           have h6:=dD (ce q r)
           rw [d8] at h6
           omega
          ·exact Nat.le_refl _
        have:=hlen b (a.length+1) a (List.replicate (a.length+1-b.length) 0)
        unfold divN;omega
     exact this _ _ _ hb (by rw [bX];omega)
 have:=key (q.length+1) l q (by omega) (by omega) hq.trm
 unfold cm;omega
theorem ku (l:List Rat):(ci l).length=l.length-1:=by unfold ci lu;simp
theorem Mk {l:List Rat} {i:Nat} (h:i<l.length-1):cf (ci l) i=cf l (i+1)*((i+1:Nat):Rat):=by
 unfold ci lu
 conv=>lhs;unfold cf
 rw [List.getD_eq_getElem?_getD,List.getElem?_map,List.getElem?_range h]
 show cf l (i+1)*Rat.divInt ((i+1:Nat):Int) 1=_
 rw [Rat.divInt_eq_div,Rat.intCast_natCast]
 rw [show ((1:Int):Rat)=1 from rfl]
 grind
theorem CG {l:List Rat} (h:Trm l):Trm (ci l):=by
 intro hn
 have h1:=List.length_pos_iff.2 hn
 rw [ku] at h1
 have h2:l≠ []:=fun e=>by rw [e] at h1;simp at h1
 have h3:=h h2
 rw [bZ (by omega)] at h3
 rw [bZ (by rw [ku];omega),ku,Mk (by omega),show l.length-1-1+1=l.length-1 by omega]
 have h4:((l.length-1:Nat):Rat)≠0:=by
  intro e
  have:(l.length-1:Nat)=0:=by exact_mod_cast e
  omega
 intro e
 rcases Rat.mul_eq_zero.1 e with e|e
 ·exact h3 e
 ·exact h4 e
theorem Sml.der {n b:Nat} {l:List Rat} (h:Sml n b l) (hn:n<1000000000):Sml (n-1) (b+1) (ci l):=
 ⟨by rw [ku];have:=h.len;omega,CG h.trm,Ci h.den (by have:=h.len;omega)⟩
theorem KR {l:List Rat} (hl:Pol l):bI (fun p _=>Sz QH p∧p.length≤1000) (fun a _=>ci a) (txP l) []:=by
 have e1:QH=40000000000:=rfl
 have e2:QL=1000000000:=rfl
 have e3:QC=100000000000:=rfl
 have hln:=hl.len
 refine gJ (m:= []) hl je ⟨hl.enc_ok (by omega),by rw [az];omega⟩ ?_ (by show (ci l).length≤_;rw [ku];omega)
 intro x hx
 have hd:=Ci (vq (K:=2000) (by omega) l hl.lq) (by omega)
 have:=hd.lq x hx
 have h4:l.length*2000≤41*2000:=Nat.mul_le_mul_right _ hln
 omega
end Go.Cm
end
section
namespace Go.Cm
open Go.Proofs
theorem tP:∀ (n:Nat) (p q:List Rat),Trm p→Trm q→Trm (dM n p q)
 |0,p,q,tp,tq=>by rw [dM];exact gw tp
 |n+1,p,q,tp,tq=>by
  rw [dM]
  split
  ·exact gw tp
  ·exact tP n _ _ tq (gw (fG tp))
theorem I0 {p q:List Rat} (tp:Trm p) (tq:Trm q):Trm (cm p q):=tP _ _ _ tp tq
theorem rY (q:List Rat):∀ (n:Nat) (r s:List Rat),(em q n r s).2.length≤r.length
 |0,r,s=>Nat.le_refl _
 |n+1,r,s=>by
  rw [em]
  split
  ·have h5:=rY q n (aP (ce q r)) (s.set (r.length-q.length) (aH r/aH q))
   have h6:=dD (ce q r)
   rw [d8] at h6
   omega
  ·exact Nat.le_refl _
theorem tQ:∀ (n:Nat) (p q:List Rat),(dM n p q).length≤max p.length q.length
 |0,p,q=>by rw [dM,bX];omega
 |n+1,p,q=>by
  rw [dM]
  split
  ·rw [bX];omega
  ·have h1:=tQ n q (cH (divN p q).2)
   have h2:=rY q (p.length+1) p (List.replicate (p.length+1-q.length) 0)
   rw [bX] at h1
   unfold divN at h1 ⊢
   omega
theorem I1 (p q:List Rat):(cm p q).length≤max p.length q.length:=tQ _ _ _
theorem m8 {l:List Rat}:cH l= []↔l= []:=by
 unfold cH;simp
theorem tS:∀ (n:Nat) (p q:List Rat),q.length<n→(p≠ []∨q≠ [])→dM n p q≠ []
 |0,p,q,h,_=>absurd h (by omega)
 |n+1,p,q,h,hne=>by
  rw [dM]
  split
  ·rename_i hq
   intro e
   rw [m8] at e
   rcases hne with h1|h1
   ·exact h1 e
   ·exact h1 hq
  ·rename_i hq
   by_cases ht:(cH (divN p q).2).length<n
   ·exact tS n _ _ ht (.inl hq)
   ·
    have key:∀ (k:Nat) (a b:List Rat),a≠ []→dM k a b≠ []:=by
     intro k
     induction k with
     |zero=>intro a b ha e;rw [dM,m8] at e;exact ha e
     |succ k ih=>
      intro a b ha
      rw [dM]
      split
      ·intro e;rw [m8] at e;exact ha e
      ·rename_i hb;exact ih _ _ hb
    exact key n _ _ hq
theorem CH {p q:List Rat} (h:p≠ []∨q≠ []):cm p q≠ []:=tS _ _ _ (Nat.lt_succ_self _) h
theorem Ml {n b c:Nat} {l:List Rat} (hl:Sml n b l) (pl:Pol l) (hg:hZ (aE l) (aE (ci l))) (dg:Den c (cm l (ci l))) (hK:b+(n+1)*(c+1)≤QD):kP (aE l)∧(∀ x∈(divN l (cm l (ci l))).1,lq x≤QD):=by
 have e1:QD=10000000000:=rfl
 have e2:QH=40000000000:=rfl
 have hll:=hl.len
 have pl1:=pl.len
 have hcK:c≤QD:=by
  have:1*(c+1)≤(n+1)*(c+1):=Nat.mul_le_mul_right _ (by omega)
  omega
 have hgl:=I1 l (ci l)
 rw [ku] at hgl
 have tg:=I0 hl.trm (CG hl.trm)
 have hq1:l≠ []→∀ x∈(divN l (cm l (ci l))).1,lq x≤QD:=by
  intro h
  have hbd:b+(l.length+1-(cm l (ci l)).length)*(c+1)≤QD:=by
   have:(l.length+1-(cm l (ci l)).length)*(c+1)≤(n+1)*(c+1):=Nat.mul_le_mul_right _ (by omega)
   omega
  exact (me hl.den dg (CH (.inl h)) tg hbd (by omega)).1
 refine ⟨fun hne=> ?_,?_⟩
 ·have h:l≠ []:=fun e=>hne (by rw [e];rfl)
  rw [aG,az]
  have hgn:=CH (q:=ci l) (.inl h)
  have hbd:b+(l.length+1-(cm l (ci l)).length)*(c+1)≤QD:=by
   have:(l.length+1-(cm l (ci l)).length)*(c+1)≤(n+1)*(c+1):=Nat.mul_le_mul_right _ (by omega)
   omega
  refine ⟨pl.enc_ok (by omega),by omega,hg,AW (b:=b) (c:=c) (gk _) (gk _) (by rw [aG];exact hl.den) (by rw [aG];exact dg) (by rw [az];omega) (by rw [az];omega) (by rw [az];exact List.length_pos_iff.2 hgn) (by rw [aG];exact tg) (by rw [az,az];exact hbd) hcK,?_⟩
  refine ⟨eG fun x hx=>by have:=hq1 h x hx;omega,by rw [az,gx];omega,fun hq=> ?_⟩
  rw [aG]

  have hlen:=gx l (cm l (ci l))
  have hsn:(divN l (cm l (ci l))).1≠ []:=fun e=>hq (by rw [e];rfl)
  have hgp:=List.length_pos_iff.2 hgn
  have hlong:(cm l (ci l)).length≤l.length:=by omega
  intro h0
  have hev:∀ x,aO (aP (divN l (cm l (ci l))).1) x*aO (cm l (ci l)) x+aO (divN l (cm l (ci l))).2 x=aO l x:=fun x=>by rw [ia];exact vm hgn tg x
  have hmul:bC (· + ·) (cw (aP (divN l (cm l (ci l))).1) (cm l (ci l))) (divN l (cm l (ci l))).2=l:=lA (eg _ _ _) hl.trm fun x=>by rw [AQ,mS];exact hev x
  have hs:=d9 (p:=l) hgp (tg hgn)
  have h1:=eQ (· + ·) (cw (aP (divN l (cm l (ci l))).1) (cm l (ci l))) (divN l (cm l (ci l))).2
  rw [hmul] at h1
  have h2:=nL (l:=(divN l (cm l (ci l))).1) (List.length_pos_iff.2 hsn) h0
  by_cases hz:aP (divN l (cm l (ci l))).1= []
  ·rw [hz,fI] at h1
   simp only [List.length_nil] at h1
   omega
  ·rw [jT hz hgn] at h1
   omega
 ·intro x hx
  by_cases h:l= []
  ·subst h
   have e0:(divN [] (cm [] (ci []))).1= [0]:=by decide+kernel
   rw [e0,List.mem_singleton] at hx
   rw [hx]
   exact Nat.le_trans g9 (by omega)
  ·exact hq1 h x hx
theorem Ft {l:List Rat} (h:∀ x∈(divN l (cm l (ci l))).1,lq x≤QD):∀ x∈cg l,lq x≤2*QD:=by
 intro x hx
 unfold cg at hx
 split at hx
 ·simp at hx
 ·obtain ⟨y,hy,rfl⟩:=List.mem_map.1 hx
  have h1:=h y hy
  have h2:=uY y (aH (divN l (cm l (ci l))).1)
  have hp:0<(divN l (cm l (ci l))).1.length:=List.length_pos_of_mem hy
  have h3:=h (aH (divN l (cm l (ci l))).1) (by rw [bZ hp];exact ry (by omega))
  omega
theorem Bb (l:List Rat):(cg l).length≤l.length+1:=by
 unfold cg
 split
 ·simp
 ·rw [bX,gx];omega
theorem KS {n b c:Nat} {l:List Rat} (hl:Sml n b l) (pl:Pol l) (hg:hZ (aE l) (aE (ci l))) (dg:Den c (cm l (ci l))) (hK:b+(n+1)*(c+1)≤QD):bI (fun p _=>kP p) (fun a _=>cg a) (txP l) []:=by
 have e1:QD=10000000000:=rfl
 have e2:QC=100000000000:=rfl
 have e3:QL=1000000000:=rfl
 obtain ⟨h1,h2⟩:=Ml hl pl hg dg hK
 refine gJ (m:= []) pl je h1 (fun x hx=> ?_) ?_
 ·have:=Ft h2 x hx;omega
 ·show (cg l).length≤_
  have:=Bb l;have:=pl.len;omega
theorem KT {b:Nat} {l:List Rat} (h:Den b l) (i:Nat):Den b (aP [cf l i]):=by
 refine jU ?_
 obtain ⟨D,d1,d2,d3⟩:=h
 refine ⟨D,d1,d2,fun j=> ?_⟩
 cases j with
 |zero=>obtain ⟨n,n1,n2⟩:=d3 i;exact ⟨n,n1,by rw [← n2];simp [cf]⟩
 |succ j=>exact ⟨0,by rw [gj];omega,by rw [Rat.zero_divInt,cT (by simp)]⟩
theorem x8 {n b m c:Nat} {p q:List Rat} (hp:Sml n b p) (hq:Sml m c q) (hnm:n*m≤1000):∀ k,k≤n→Den (1+k*(b+c+2)) (f9 p q k)∧(f9 p q k).length≤1+k*m
 |0,_=>⟨oo (by omega),by simp [f9]⟩
 |k+1,hk=>by
  obtain ⟨h1,h2⟩:=x8 hp hq hnm k (by omega)
  have hkm:k*m≤n*m:=Nat.mul_le_mul_right _ (by omega)
  have hl:(f9 p q k).length<1000000000:=by omega
  rw [f9,rJ,Nat.add_mul,Nat.add_mul]
  refine ⟨(den_add (den_mul h1 hq.den hl) (KT hp.den _)).mono (by omega),?_⟩
  have h3:=eQ (· + ·) (cw (f9 p q k) q) (aP [cf p (p.length-1-k)])
  have h4:=rK (f9 p q k) q
  have h5:=dD [cf p (p.length-1-k)]
  simp only [List.length_cons,List.length_nil] at h5
  have h6:=hq.len
  by_cases hz:f9 p q k= []
  ·rw [hz,fI] at h3
   simp only [List.length_nil] at h3
   rw [hz,fI]
   omega
  ·omega
theorem I2 {n b m c:Nat} {p q:List Rat} (hp:Sml n b p) (hq:Sml m c q) (pp:Pol p) (pq:Pol q) (hnm:n*m≤98) (hb:b≤100000) (hc:c≤100000) (hn:n≤98) (hm:m≤98):bI vj jq (txP p) (txP q):=by
 have e1:QM=400000000:=rfl
 have e2:QC=100000000000:=rfl
 have e3:QL=1000000000:=rfl
 have e4:QH=40000000000:=rfl
 have hlp:=hp.len;have hlq:=hq.len
 have key:∀ k,k≤n→Den 19700000 (f9 p q k)∧(f9 p q k).length≤99:=by
  intro k hk
  obtain ⟨h1,h2⟩:=x8 hp hq (by omega) k hk
  have h3:k*(b+c+2)≤98*200002:=Nat.mul_le_mul (by omega) (by omega)
  have h4:k*m≤n*m:=Nat.mul_le_mul_right _ hk
  exact ⟨h1.mono (by omega),by omega⟩
 refine gJ pp pq ⟨pp.enc_ok (by omega),by rw [az];omega,fun k hk=> ?_⟩ ?_ ?_
 ·rw [az] at hk ⊢
  rw [aG,aG]
  obtain ⟨h1,h2⟩:=key k (by omega)
  have h5:=den_mul h1 hq.den (by omega)
  refine ⟨h1.sz (by omega),pq.enc_ok (by omega),by rw [az];omega,by rw [az];omega,bQ _,?_,?_⟩
  ·rw [aK];exact Nat.le_trans (jp pp.lq (by omega) _) (by omega)
  ·rw [aG,aG];exact h5.sz (by omega)
 ·intro x hx
  have:=(key p.length (by omega)).1.lq x hx
  omega
 ·have:=(key p.length (by omega)).2
  show (f9 p q p.length).length≤_
  omega
def smB (n K:Nat) (p:List (List UInt8)):Bool:=decide (cD p=0)&&decide (p.length≤n)&&p.all (fun q=>decide (q.length≤10000))&&(aZ p).all fun x=>decide (lq x≤K)
theorem cC {n K:Nat} {p:List (List UInt8)} (h:smB n K p=true) (hn:n≤41) (hK:1≤K):Pol (aZ p)∧txP (aZ p)=p∧Sml n (n*K+1) (aZ p):=by
 unfold smB at h
 simp only [Bool.and_eq_true,decide_eq_true_iff,List.all_eq_true] at h
 obtain ⟨⟨⟨h1,h2⟩,h3⟩,h4⟩:=h
 have hs:cS p:=⟨by unfold QL;omega,fun q hq=>by have:=h3 q hq;unfold QL;omega⟩
 obtain ⟨t1,t2,t3,t4⟩:=Ky hs h1
 have hl:(aZ p).length=p.length:=by rw [← t1,bT,t1]
 exact ⟨⟨t2,t3,t4⟩,t1,Mj (by omega) t3 hK h4⟩
theorem MT {n K:Nat} {p q:List (List UInt8)} (hp:smB n K p=true) (hq:smB n K q=true) (hn:n≤41:=by decide) (hK:1≤K:=by decide):bI (fun p q=>Sz QH p∧Sz QH q∧p.length≤1000∧q.length≤1000) (bC (· + ·)) p q:=by
 have h:=Cq (cC hp hn hK).1 (cC hq hn hK).1
 rwa [(cC hp hn hK).2.1,(cC hq hn hK).2.1] at h
theorem MU {n K:Nat} {p q:List (List UInt8)} (hp:smB n K p=true) (hq:smB n K q=true) (hn:n≤41:=by decide) (hK:1≤K:=by decide):bI (fun p q=>Sz QH p∧Sz QH q∧p.length≤1000∧q.length≤1000) (bC (· - ·)) p q:=by
 have h:=Kz (cC hp hn hK).1 (cC hq hn hK).1
 rwa [(cC hp hn hK).2.1,(cC hq hn hK).2.1] at h
theorem MV {n K:Nat} {p q:List (List UInt8)} (hp:smB n K p=true) (hq:smB n K q=true) (hn:n≤41:=by decide) (hK:1≤K:=by decide):bI (fun p q=>Sz QM p∧Sz QM q∧p.length≤100∧q.length≤100) cw p q:=by
 have h:=vo (cC hp hn hK).1 (cC hq hn hK).1
 rwa [(cC hp hn hK).2.1,(cC hq hn hK).2.1] at h
theorem I3 {n K:Nat} {p q:List (List UInt8)} (hp:smB n K p=true) (hq:smB n K q=true) (hb:(max (n*K+1) (n*K+1)+1)*(n+2)*3^n≤QD:=by decide) (hn:n≤41:=by decide) (hK:1≤K:=by decide):bI hZ cm p q:=by
 have h:=(CF (cC hp hn hK).2.2 (cC hq hn hK).2.2 (cC hp hn hK).1 (cC hq hn hK).1 hb).1
 rwa [(cC hp hn hK).2.1,(cC hq hn hK).2.1] at h
theorem MW {n K:Nat} {p:List (List UInt8)} (hp:smB n K p=true) (hn:n≤41:=by decide) (hK:1≤K:=by decide):bI (fun p _=>Sz QH p∧p.length≤1000) (fun a _=>ci a) p []:=by
 have h:=KR (cC hp hn hK).1
 rwa [(cC hp hn hK).2.1] at h
theorem KU {l:List Rat} {n b:Nat} (h:Sml n b l) (hn:n≤41) (hb:b≤220):Pol (ci l):=(h.der (by omega)).pol (by omega) (by omega)
theorem KV {n b:Nat} {l:List Rat} (hl:Sml n b l) (hn:n≤41) (hb:b≤220) (hK:b+(n+1)*((b+2)*(n+2)*3^(n-1)+1)≤QD):bI (fun p _=>kP p) (fun a _=>cg a) (txP l) []:=by
 have pl:=hl.pol hn (by omega)
 have pd:=KU hl hn hb
 have e:max b (b+1)+1=b+2:=by omega
 have hle:(b+2)*(n+2)*3^(n-1)≤QD:=by
  have:1*((b+2)*(n+2)*3^(n-1)+1)≤(n+1)*((b+2)*(n+2)*3^(n-1)+1):=Nat.mul_le_mul_right _ (by omega)
  omega
 obtain ⟨_,g1,g2⟩:=CF hl (hl.der (by omega)) pl pd (by rw [e];exact hle)
 rw [e] at g2
 exact KS hl pl g1 g2 hK
theorem Ly {n K:Nat} {p:List (List UInt8)} (hp:smB n K p=true) (hb:n*K+1≤220:=by decide) (hq:(n*K+1)+(n+1)*((n*K+1+2)*(n+2)*3^(n-1)+1)≤QD:=by decide) (hn:n≤41:=by decide) (hK:1≤K:=by decide):bI (fun p _=>kP p) (fun a _=>cg a) p []:=by
 have h:=KV (cC hp hn hK).2.2 hn hb hq
 rwa [(cC hp hn hK).2.1] at h
theorem Mm {n m K:Nat} {p q:List (List UInt8)} (hp:smB n K p=true) (hq:smB m K q=true) (hnm:n*m≤98:=by decide) (hb:n*K+1≤100000:=by decide) (hc:m*K+1≤100000:=by decide) (hn:n≤41:=by decide) (hm:m≤41:=by decide) (hK:1≤K:=by decide):vp p q:=by
 have h1:=cC hp hn hK
 have h2:=cC hq hm hK
 have h:=I2 h1.2.2 h2.2.2 h1.1 h2.1 hnm hb hc (by omega) (by omega)
 rw [h1.2.1,h2.2.1] at h
 have s1:=h1.1.short;have s2:=h2.1.short
 rw [h1.2.1] at s1
 rw [h2.2.1] at s2
 exact ⟨s1,s2,fun _=>h⟩
theorem Bc {n K:Nat} {p q:List (List UInt8)} (hp:smB n K p=true) (hq:smB n K q=true) (hn:n≤41:=by decide) (hK:1≤K:=by decide) (hb:K≤2000:=by decide):lC p q:=by
 have e1:QD=10000000000:=rfl
 have e2:QC=100000000000:=rfl
 have e3:QL=1000000000:=rfl
 obtain ⟨p1,p2,p3⟩:=cC hp hn hK
 obtain ⟨q1,q2,q3⟩:=cC hq hn hK
 have s1:=p1.short;have s2:=q1.short
 rw [p2] at s1
 rw [q2] at s2
 refine ⟨s1,s2,fun _ h0=> ?_⟩
 have hlp:=p3.len;have hlq:=q3.len
 have hnK:n*K≤41*2000:=Nat.mul_le_mul hn hb
 have hbd:n*K+1+((aZ p).length+1-(aZ q).length)*(n*K+1+1)≤4000000:=by
  have:((aZ p).length+1-(aZ q).length)*(n*K+1+1)≤42*82002:=Nat.mul_le_mul (by omega) (by omega)
  omega
 obtain ⟨k1,k2⟩:=me (K:=4000000) p3.den q3.den h0 q3.trm hbd (by omega)
 have hs:=d9 (p:=aZ p) (List.length_pos_iff.2 h0) (q3.trm h0)
 refine ⟨AW (b:=n*K+1) (c:=n*K+1) (gk _) (gk _) (by rw [aG];exact p3.den) (by rw [aG];exact q3.den) (by rw [az];omega) (by rw [az];omega) (by rw [az];exact List.length_pos_iff.2 h0) (by rw [aG];exact q3.trm) (by rw [az,az];omega) (by omega),⟨eG fun x hx=>by have:=k1 x hx;omega,by rw [az,gx];omega⟩,k2.sz (by omega),by rw [az];omega⟩
theorem I4 {n K:Nat} {p:List (List UInt8)} {x:List UInt8} (hp:smB n K p=true) (hx:x.length≤3000) (hn:n≤41:=by decide) (hK:1≤K:=by decide):IG p x:=by
 have e1:QM=400000000:=rfl
 have e2:QL=1000000000:=rfl
 have e3:QC=100000000000:=rfl
 obtain ⟨p1,p2,p3⟩:=cC hp hn hK
 have s1:=p1.short
 rw [p2] at s1
 refine ⟨s1,by omega,fun h1 h2=> ?_⟩
 have hxl:lq (bw x)≤2000:=Cp (tC h2 (by omega)).2
 have h3:=Cd p1.lq hxl
 have h4:(aZ p).length*(2*2000+1)≤41*(2*2000+1):=Nat.mul_le_mul_right _ p1.len
 exact ⟨p1.enc_ok (by omega),by have:=p1.len;omega,by omega,by omega⟩
end Go.Cm
end
section
namespace Go.Cm
open Go.Proofs
theorem M2 (a b:Int):(a==b)=decide (a=b):=by rw [Bool.eq_iff_iff,beq_iff_eq,decide_eq_true_iff]
theorem Mn (e:Int) (p q:List (List UInt8)):(e==0&&decide (p=q))=decide (e=0∧p=q):=by rw [M2];exact (Bool.decide_and _ _).symm
def L (l:List (List UInt8)):List (List UInt8):=l
theorem wp1:dvS [[45,49], [48], [48], [49]] [[45,49], [49]]= [[49], [49], [49]]∧dvR [[45,49], [48], [48], [49]] [[45,49], [49]]= []∧dvE [[45,49], [48], [48], [49]] [[45,49], [49]]=0:=by decide+kernel
theorem wp2:dvS [[49], [48], [49]] [[48], [50]]= [[48], [49,47,50]]∧dvR [[49], [48], [49]] [[48], [50]]= [[49]]∧dvE [[49], [48], [49]] [[48], [50]]=0:=by decide+kernel
theorem wp3:dvE [[49]] []=2:=by decide+kernel
theorem wp4:evS [[49], [48], [49]] [49,47,50]= [53,47,52]∧evE [[49], [48], [49]] [49,47,50]=0:=by decide+kernel
theorem wp5:evE [[49]] [50,47,50]=5:=by decide+kernel
theorem wp6:cM cw [[49], [49]] [[45,49], [49]]= [[45,49], [48], [49]]∧cL cw [[49], [49]] [[45,49], [49]]=0:=by decide+kernel
theorem wp7:cM (bC (· + ·)) [[49], [50]] [[49], [45,50]]= [[50]]∧cL (bC (· + ·)) [[49], [50]] [[49], [45,50]]=0:=by decide+kernel
theorem wp8:cM (bC (· - ·)) [[49], [50]] [[49], [50]]= []∧cL (bC (· - ·)) [[49], [50]] [[49], [50]]=0:=by decide+kernel
theorem wp9:cM cm [[45,49], [48], [49]] [[49], [50], [49]]= [[49], [49]]∧cL cm [[45,49], [48], [49]] [[49], [50], [49]]=0:=by decide+kernel
theorem KW:cM cm [[50]] []= [[49]]∧cL cm [[50]] []=0:=by decide+kernel
theorem KX:cM cm [] []= []∧cL cm [] []=0:=by decide+kernel
theorem KY:tI [[49], [48], [49]] [[49], [49]]= [[50], [50], [49]]∧tH [[49], [48], [49]] [[49], [49]]=0:=by decide+kernel
theorem KZ:cM (fun a _=>ci a) [[53], [51], [48], [50]] []= [[51], [48], [54]]∧cL (fun a _=>ci a) [[53], [51], [48], [50]] []=0:=by decide+kernel
theorem K0:cM (fun a _=>cg a) [[50], [45,51], [48], [49]] []= [[45,50], [49], [49]]∧cL (fun a _=>cg a) [[50], [45,51], [48], [49]] []=0:=by decide+kernel
theorem K1:cM (fun a _=>cg a) [[55]] []= [[49]]∧cL (fun a _=>cg a) [[55]] []=0:=by decide+kernel
theorem K2:cD [[49], [48]]=40∧cD [[49,47,48]]=40:=by decide+kernel
theorem wsq:3≤QL∧((((0:Nat):Int)==0)=true→(((0:Nat):Int)==0)=true)∧((((0:Nat):Int)==0)=true→(((0:Nat):Int)==0)=true∧2≤QL)∧((((0:Nat):Int)==0)=true→(((0:Nat):Int)==0)=true)∧
  ((((0:Nat):Int)==0)=true→(((0:Nat):Int)==0)=true)∧((((0:Nat):Int)==0)=true→(((0:Nat):Int)==0)=true∧1≤QL)∧((((0:Nat):Int)==0)=true→(((0:Nat):Int)==0)=true):=by
 unfold QL;decide
theorem ok6:bI (fun p q=>Sz QM p∧Sz QM q∧p.length≤100∧q.length≤100) cw [[49], [49]] [[45,49], [49]]:=MV (n:=4) (K:=1) (by decide+kernel) (by decide+kernel)
theorem ok7:bI (fun p q=>Sz QH p∧Sz QH q∧p.length≤1000∧q.length≤1000) (bC (· + ·)) [[49], [50]] [[49], [45,50]]:=MT (n:=4) (K:=1) (by decide+kernel) (by decide+kernel)
theorem ok8:bI (fun p q=>Sz QH p∧Sz QH q∧p.length≤1000∧q.length≤1000) (bC (· - ·)) [[49], [50]] [[49], [50]]:=MU (n:=4) (K:=1) (by decide+kernel) (by decide+kernel)
theorem ok9:bI hZ cm [[45,49], [48], [49]] [[49], [50], [49]]:=I3 (n:=4) (K:=1) (by decide+kernel) (by decide+kernel)
theorem M3:bI hZ cm [[50]] []:=I3 (n:=4) (K:=1) (by decide+kernel) (by decide+kernel)
theorem M4:bI hZ cm [] []:=I3 (n:=4) (K:=1) (by decide+kernel) (by decide+kernel)
theorem M5:vp [[49], [48], [49]] [[49], [49]]:=Mm (n:=4) (m:=4) (K:=1) (by decide+kernel) (by decide+kernel)
theorem M6:bI (fun p _=>Sz QH p∧p.length≤1000) (fun a _=>ci a) [[53], [51], [48], [50]] []:=MW (n:=4) (K:=1) (by decide+kernel)
theorem M7:bI (fun p _=>kP p) (fun a _=>cg a) [[50], [45,51], [48], [49]] []:=Ly (n:=4) (K:=1) (by decide+kernel)
theorem M8:bI (fun p _=>kP p) (fun a _=>cg a) [[55]] []:=Ly (n:=4) (K:=1) (by decide+kernel)
theorem MX:cS [[49], [48]]∧cS [[49,47,48]]:=by unfold cS QL;decide
end Go.Cm
end
section
namespace Go.Proofs.YtdojbabpnaifoaaGreatDoor
open Go Go.Cm Go.Proofs
theorem Mo:cK Tryz.prog 84 .func:=Bx (by kernel_rfl) ⟨_,_,_,Tryz.underlying84⟩
theorem MY:cK Tryz.prog 109 .func:=Bx (by kernel_rfl) ⟨_,_,_,Tryz.underlying109⟩
end Go.Proofs.YtdojbabpnaifoaaGreatDoor
end
section
namespace Go.Proofs.YtdojbabpnaifoaaGreatDoor
open Go Go.Cm Go.Proofs
def vr (B:aj):Tab:={types:= [(3,(.int .i64)),(181,(.slice (.int .i64)))],elems:= [],cons:= [],hint:= [],N:=21,base:=B}
theorem CI {B:aj} (hB:aA B):aF Tryz.prog (vr B):=⟨⟨tc ty3 (tc iI (ae)),af,by simp only [vr,ioB];omega⟩,bG rfl,by kernel_rfl⟩
def kS:Con:=fun l os=>match l,os with
 | [.z (.slice (.int .i64)) d], []=>some (D.Lim d∧d.length<CAP, [.z (.slice (.int .i64)) (D.limbs (D.valL d).toNat)], [])
 |_,_=>none
theorem ml {B:aj} (hB:aA B):Valid B Tryz.prog 183 kS:=by
 refine ab (CI hB).tab Tryz.func183 rfl rfl rfl ?_
 intro args os C rs os' hc hC
 unfold kS at hc
 split at hc
 case h_2=>cases hc
 rename_i d
 cases hc
 refine v_h (CI hB) fun X hP hT hr hG=> ?_
 have hU:=vr.eq_1
 unfold vr at hT
 have hX:=Bool.not_true
 simp only [Tryz.f183,aB,al,ioB]
 refine s_g hG ?_
 refine ak ?_
 refine aq ?_
 refine bn (fun (z:List Int)=>(⟨[(0, .l (.z (.slice (.int .i64)) z))], []⟩:aa)) (fun z=>D.Lim z∧D.valL z=D.valL d∧z.length≤d.length) (fun z=>z.length) d ?_ ?_ ?_
 ·simp only [ml0,ml1,Nat.reduceLT,Nat.reduceEqDiff,Nat.reduceAdd,Nat.reduceMul,Nat.reduceSub,Nat.reduceLeDiff,Nat.reduceBEq,Nat.reduceBNe,reduceIte,reduceDIte,reduceCtorEq]
 ·exact ⟨hC.1,rfl,Nat.le_refl _⟩
 ·rintro z ⟨g1,g2,g3⟩
  try dsimp only at g1 g2 g3
  have h4:z.length<1000000000000:=Nat.lt_of_le_of_lt g3 hC.2
  refine ak ?_
  refine s_q hG ?_ ?_
  ·try simp only [ba]
   exact ⟨id,id,fun h=>⟨h,by simp only [decide_eq_true_eq] at h;rw [wi (by omega) (by omega)];omega⟩,id⟩
  refine ao ?_ ?_
  ·intro hb0
   try simp only [bt] at hb0
   refine ap ?_
   refine ah ?_
   refine aq ?_
   refine ag hG ?_ ?_
   ·try simp only [ba]
    rw [wi (by omega) (by omega)];omega
   refine aN ?_
   show ∃ z,_
   refine q_l ?_
   exact D.whole_round g1 g2 g3 hb0.1 h4 hb0.2
  ·intro hb0
   try simp only [bf] at hb0
   refine bc ?_
   refine aC ?_
   refine av ?_
   refine au ?_
   refine ah ?_
   refine s_g hG ?_
   refine ax ?_
   refine q_e [] ?_
   refine D.cut_fin g1 g2 fun hz h0=> ?_
   have:=hb0 (by simp;omega)
   rw [wi (by omega) (by omega),D.last_eq hz] at this
   exact this h0
def vu (B:aj):Tab:={types:= [(3,(.int .i64)),(181,(.slice (.int .i64)))],elems:= [],cons:= [],hint:= [],N:=41,base:=B}
theorem CJ {B:aj} (hB:aA B):aF Tryz.prog (vu B):=⟨⟨tc ty3 (tc iI (ae)),af,by simp only [vu,ioB];omega⟩,bG rfl,by kernel_rfl⟩
def gy:Con:=fun l os=>match l,os with
 | [.z (.slice (.int .i64)) m, .z (.slice (.int .i64)) o], []=>some (D.Cano m∧D.Cano o∧m.length<CAP∧o.length<CAP, [.z (.int .i64) (bo (D.valL m) (D.valL o))], [])
 |_,_=>none
theorem x9 {B:aj} (hB:aA B):Valid B Tryz.prog 160 gy:=by
 refine ab (CJ hB).tab Tryz.func160 rfl rfl rfl ?_
 intro args os C rs os' hc hC
 unfold gy at hc
 split at hc
 case h_2=>cases hc
 rename_i m o
 cases hc
 refine v_h (CJ hB) fun X hP hT hr hG=> ?_
 have hU:=vu.eq_1
 unfold vu at hT
 have hX:=Bool.not_true
 simp only [Tryz.f160,aB,al,ioB]
 refine s_g hG ?_
 refine ak ?_
 refine s_g hG ?_
 refine ao ?_ ?_
 ·intro hb0
  try simp only [bt] at hb0
  refine ak ?_
  refine s_g hG ?_
  refine ao ?_ ?_
  ·intro hb1
   try simp only [bt] at hb1
   refine s_g hG ?_
   refine ax ?_
   refine ay ?_
   refine ay ?_
   refine q_e [] ?_
   unfold bo
   rw [if_pos (D.cmp_len hC.1 hC.2.1 (by omega))]
  ·intro hb1
   try simp only [bf] at hb1
   refine ap ?_
   refine ah ?_
   refine s_g hG ?_
   refine ax ?_
   refine ay ?_
   refine q_e [] ?_
   have:=D.cmp_len hC.2.1 hC.1 (by omega)
   unfold bo
   rw [if_neg (by omega),if_pos this]
 ·intro hb0
  simp only [bne_eq_false_iff_eq] at hb0
  obtain ⟨c1,c2,c3,c4⟩:=hC
  have c3:List.length m<1000000000000:=c3
  have hl:List.length m=List.length o:=by omega
  refine ap ?_
  refine ah ?_
  refine ak ?_
  refine s_g hG ?_
  refine aq ?_
  refine bn (fun (z:Nat)=>(⟨[(0, .l (.z (.slice (.int .i64)) m)),(1, .l (.z (.slice (.int .i64)) o)),(5, .l (.z (.int .i64) ((z:Int)-1)))], []⟩:aa)) (fun z=>z≤List.length m∧List.drop z m=List.drop z o) (fun z=>z) (List.length m) ?_ ?_ ?_
  ·refine q_l ?_
   exact wi (by omega) (by omega)
  ·exact ⟨Nat.le_refl _,by rw [List.drop_length,List.drop_of_length_le (by omega)]⟩
  ·rintro k ⟨g1,g2⟩
   try dsimp only at g1 g2
   refine ak ?_
   refine s_g hG ?_
   refine ao ?_ ?_
   ·intro hb2
    try simp only [bt] at hb2
    refine ap ?_
    refine ah ?_
    refine ak ?_
    refine aq ?_
    refine s_d hG ?_ ?_
    ·try simp only [ba]
     exact ⟨⟨by omega,by omega⟩,by omega,by omega⟩
    refine ao ?_ ?_
    ·intro hb3
     try simp only [bt] at hb3
     refine ak ?_
     refine s_d hG ?_ ?_
     ·try simp only [ba]
      exact ⟨⟨by omega,by omega⟩,by omega,by omega⟩
     refine ao ?_ ?_
     ·intro hb4
      try simp only [bt] at hb4
      refine s_g hG ?_
      refine ax ?_
      refine ay ?_
      refine bv ?_
      refine ay ?_
      refine dY ?_
      refine bv ?_
      refine ay ?_
      refine q_e [] ?_
      obtain ⟨j,rfl⟩:∃ j,k=j+1:=⟨k-1,by omega⟩
      have hk:((j+1:Nat):Int)-1=(j:Int):=by omega
      rw [hk] at hb4
      exact (D.cmp_less c1 c2 hl (by omega) g2 hb4).symm
     ·intro hb4
      try simp only [bf] at hb4
      refine ap ?_
      refine ah ?_
      refine s_g hG ?_
      refine ax ?_
      refine bv ?_
      refine ay ?_
      refine dY ?_
      refine bv ?_
      refine ay ?_
      refine q_e [] ?_
      obtain ⟨j,rfl⟩:∃ j,k=j+1:=⟨k-1,by omega⟩
      have hk:((j+1:Nat):Int)-1=(j:Int):=by omega
      rw [hk] at hb3 hb4
      have hb5:List.getD o j 0<List.getD m j 0:=D.gt_of hb4 hb3
      exact (D.cmp_more c1 c2 hl (by omega) g2 hb5).symm
    ·intro hb3
     try simp only [bf] at hb3
     refine ap ?_
     refine aN ?_
     refine ah ?_
     refine ag hG ?_ ?_
     ·first|trivial|omega|(simp;done)|(simp;omega)
     show ∃ z,_
     refine q_l ?_
     obtain ⟨j,rfl⟩:∃ j,k=j+1:=⟨k-1,by omega⟩
     have hk:((j+1:Nat):Int)-1=(j:Int):=by omega
     rw [hk] at hb3 ⊢
     exact ⟨j,wi (by omega) (by omega),by omega,D.drop_step hl (by omega) g2 hb3,by omega⟩
   ·intro hb2
    try simp only [bf] at hb2
    refine bc ?_
    refine aC ?_
    refine av ?_
    refine au ?_
    refine ah ?_
    refine s_g hG ?_
    refine ax ?_
    refine q_e [] ?_
    have:k=0:=by omega
    subst this
    simp only [List.drop_zero] at g2
    rw [g2];simp [bo]
end Go.Proofs.YtdojbabpnaifoaaGreatDoor
end
section
namespace Go.Proofs.YtdojbabpnaifoaaGreatDoor
open Go Go.Cm Go.Proofs
def vv (B:aj):Tab:={types:= [(3,(.int .i64)),(181,(.slice (.int .i64)))],elems:= [(181,3)],cons:= [],hint:= [],N:=54,base:=B}
theorem CK {B:aj} (hB:aA B):aF Tryz.prog (vv B):=⟨⟨tc ty3 (tc iI (ae)),aQ (by kernel_rfl) (af),by simp only [vv,ioB];omega⟩,bG rfl,by kernel_rfl⟩
def vw:Con:=fun l os=>match l,os with
 | [.z (.slice (.int .i64)) m, .z (.slice (.int .i64)) o], []=>some (D.Cano m∧D.Cano o∧m.length<CAP∧o.length<CAP, [.z (.slice (.int .i64)) (D.limbs (D.valL m+D.valL o).toNat)], [])
 |_,_=>none
theorem I5 {B:aj} (hB:aA B):Valid B Tryz.prog 159 vw:=by
 refine ab (CK hB).tab Tryz.func159 rfl rfl rfl ?_
 intro args os C rs os' hc hC
 unfold vw at hc
 split at hc
 case h_2=>cases hc
 rename_i m o
 cases hc
 refine v_h (CK hB) fun X hP hT hr hG=> ?_
 have hU:=vv.eq_1
 unfold vv at hT
 have hX:=Bool.not_true
 simp only [Tryz.f159,aB,al,ioB]
 refine s_g hG ?_
 refine s_g hG ?_
 refine s_g hG ?_
 refine ak ?_
 refine s_g hG ?_
 refine aq ?_
 refine bn (fun (z:Nat×Int×List Int)=>(⟨[(0, .l (.z (.slice (.int .i64)) m)),(1, .l (.z (.slice (.int .i64)) o)),(5, .l (.ownS 50)),(6, .l (.z (.int .i64) z.2.1)),(7, .l (.z (.int .i64) (z.1:Int)))], [(50, .arr (.int .i64) 3 z.2.2)]⟩:aa)) (fun z=>D.PlusPhi m o z.1 z.2.1 z.2.2) (fun z=>2*(max (List.length m) (List.length o)-z.1)+z.2.1.toNat) (0,0, []) ?_ ?_ ?_
 ·refine q_l ?_
  exact ⟨rfl,by unfold ioB;omega⟩
 ·exact D.plus_start
 ·rintro ⟨k,c,out⟩ hz
  try dsimp only at hz
  obtain ⟨c1,c2,c3,c4⟩:=hC
  have c3:List.length m<1000000000000:=c3
  have c4:List.length o<1000000000000:=c4
  have hw:=D.plus_n c1.1 c2.1 hz
  have hk:=hz.hk
  refine ak ?_
  refine s_q hG ?_ ?_
  ·try simp only [ba]
   (repeat' (first|apply And.intro|intro _))<;>(try simp only [decide_eq_true_eq,decide_eq_false_iff_not,Bool.not_eq_true',beq_iff_eq,Int.toNat_natCast] at*)<;>first|assumption|omega|trivial|(simp_all;done)|(simp_all;omega)
  refine ao ?_ ?_
  ·intro hb0
   simp only [Bool.or_eq_true,decide_eq_true_eq] at hb0
   have hkk:k<List.length m∨k<List.length o∨(0:Int)<c:=by omega
   have hks:=hz.hs
   have hkM:k≤max (List.length m) (List.length o):=D.plus_k hz (by omega)
   have hb0:(k<List.length m∨k<List.length o)∨(0:Int)<c:=by omega
   refine ap ?_
   refine ah ?_
   refine ak ?_
   refine aq ?_
   refine s_g hG ?_
   refine cd (fun (z:Int)=>(⟨[(0, .l (.z (.slice (.int .i64)) m)),(1, .l (.z (.slice (.int .i64)) o)),(5, .l (.ownS 50)),(6, .l (.z (.int .i64) c)),(7, .l (.z (.int .i64) (k:Int))),(8, .l (.z (.int .i64) z))], [(50, .arr (.int .i64) 3 out)]⟩:aa)) (fun z=>z=c+m.getD k 0) ?_ ?_
   ·refine s_g hG ?_
    refine ao ?_ ?_
    ·intro hb1
     try simp only [bt] at hb1
     refine ag hG ?_ ?_
     ·try simp only [ba]
      exact ⟨by omega,by omega⟩
     show ∃ z,_
     refine q_l ?_
     first|exact hw.1|(rw [D.getD_none (by omega)];exact (Int.add_zero _).symm)
    ·intro hb1
     try simp only [bf] at hb1
     refine ap ?_
     show ∃ z,_
     refine q_l ?_
     first|exact hw.1|(rw [D.getD_none (by omega)];exact (Int.add_zero _).symm)
   rintro n1 hn1
   try dsimp only at hn1
   refine cd (fun (z:Int)=>(⟨[(0, .l (.z (.slice (.int .i64)) m)),(1, .l (.z (.slice (.int .i64)) o)),(5, .l (.ownS 50)),(6, .l (.z (.int .i64) c)),(7, .l (.z (.int .i64) (k:Int))),(8, .l (.z (.int .i64) z))], [(50, .arr (.int .i64) 3 out)]⟩:aa)) (fun z=>z=c+m.getD k 0+o.getD k 0) ?_ ?_
   ·refine s_g hG ?_
    refine ao ?_ ?_
    ·intro hb2
     try simp only [bt] at hb2
     refine ag hG ?_ ?_
     ·try simp only [ba]
      exact ⟨by omega,by omega⟩
     show ∃ z,_
     refine q_l ?_
     subst hn1
     first|exact hw.2.1|(rw [D.getD_none (l:=o) (by omega)];exact (Int.add_zero _).symm)
    ·intro hb2
     try simp only [bf] at hb2
     refine ap ?_
     show ∃ z,_
     refine q_l ?_
     subst hn1
     first|exact hw.2.1|(rw [D.getD_none (l:=o) (by omega)];exact (Int.add_zero _).symm)
   rintro n hn
   try dsimp only at hn
   refine s_q hG ?_ ?_
   ·try simp only [ba]
    exact ⟨by decide,by unfold Cm.Roomy;omega⟩
   refine ag hG ?_ ?_
   ·try simp only [ba]
    decide
   refine aN ?_
   refine ah ?_
   refine ag hG ?_ ?_
   ·first|trivial|omega|(simp;done)|(simp;omega)
   show ∃ z,_
   refine q_l ?_
   obtain ⟨q1,q2⟩:=D.plus_next c1.1 c2.1 hz hb0 hn
   exact ⟨k+1,by rw [wi (by omega) (by omega)];simp,q1,q2⟩
  ·intro hb0
   simp only [Bool.or_eq_false_iff,decide_eq_false_iff_not] at hb0
   refine bc ?_
   refine aC ?_
   refine av ?_
   refine au ?_
   refine ah ?_
   refine s_g hG ?_
   refine ax ?_
   refine q_e [50] ?_
   exact D.plus_fin c1 c2 hz (by omega)
def vx (B:aj):Tab:={types:= [(3,(.int .i64)),(181,(.slice (.int .i64)))],elems:= [(181,3)],cons:= [(183,kS)],hint:= [],N:=41,base:=B}
theorem CL {B:aj} (hB:aA B):aF Tryz.prog (vx B):=⟨⟨tc ty3 (tc iI (ae)),aQ (by kernel_rfl) (af),by simp only [vx,ioB];omega⟩,aD (cc Tryz.func183 (ml hB) (aw)),by kernel_rfl⟩
def kv:Con:=fun l os=>match l,os with
 | [.z (.slice (.int .i64)) m, .z (.slice (.int .i64)) o], []=>some (D.Cano m∧D.Cano o∧D.valL o≤D.valL m∧m.length<CAP, [.z (.slice (.int .i64)) (D.limbs (D.valL m-D.valL o).toNat)], [])
 |_,_=>none
theorem ya {B:aj} (hB:aA B):Valid B Tryz.prog 161 kv:=by
 refine ab (CL hB).tab Tryz.func161 rfl rfl rfl ?_
 intro args os C rs os' hc hC
 unfold kv at hc
 split at hc
 case h_2=>cases hc
 rename_i m o
 cases hc
 refine v_h (CL hB) fun X hP hT hr hG=> ?_
 have hU:=vx.eq_1
 unfold vx at hT
 have hX:= @kS.eq_1
 simp only [Tryz.f161,aB,al,ioB]
 refine s_g hG ?_
 refine s_g hG ?_
 refine s_g hG ?_
 refine ak ?_
 refine s_g hG ?_
 refine aq ?_
 refine bn (fun (z:Nat×Int×List Int)=>(⟨[(0, .l (.z (.slice (.int .i64)) m)),(1, .l (.z (.slice (.int .i64)) o)),(5, .l (.ownS 38)),(6, .l (.z (.int .i64) z.2.1)),(7, .l (.z (.int .i64) (z.1:Int)))], [(38, .arr (.int .i64) 3 z.2.2)]⟩:aa)) (fun z=>D.MinusPhi m o z.1 z.2.1 z.2.2) (fun z=>List.length m-z.1) (0,0, []) ?_ ?_ ?_
 ·refine q_l ?_
  exact ⟨rfl,by unfold ioB;omega⟩
 ·exact D.minus_start
 ·rintro ⟨k,b,out⟩ hz
  try dsimp only at hz
  obtain ⟨c1,c2,c3,c4⟩:=hC
  have c4:List.length m<1000000000000:=c4
  have hw:=D.minus_w c1.1 c2.1 hz
  have hkm:=hz.hkm
  have hk:=hz.hk
  refine ak ?_
  refine s_g hG ?_
  refine ao ?_ ?_
  ·intro hb0
   try simp only [bt] at hb0
   refine ap ?_
   refine ah ?_
   refine ak ?_
   refine aq ?_
   refine s_q hG ?_ ?_
   ·try simp only [ba]
    exact ⟨by omega,by omega⟩
   refine cd (fun (z:Int)=>(⟨[(0, .l (.z (.slice (.int .i64)) m)),(1, .l (.z (.slice (.int .i64)) o)),(5, .l (.ownS 38)),(6, .l (.z (.int .i64) b)),(7, .l (.z (.int .i64) (k:Int))),(8, .l (.z (.int .i64) z))], [(38, .arr (.int .i64) 3 out)]⟩:aa)) (fun z=>z=m.getD k 0-b-o.getD k 0) ?_ ?_
   ·refine s_g hG ?_
    refine ao ?_ ?_
    ·intro hb1
     try simp only [bt] at hb1
     refine ag hG ?_ ?_
     ·try simp only [ba]
      exact ⟨by omega,by omega⟩
     show ∃ z,_
     refine q_l ?_
     first|(rw [D.nth64,hw.1];exact hw.2.1)|(rw [D.nth64,hw.1,D.getD_none (l:=o) (by omega)];exact (Int.sub_zero _).symm)
    ·intro hb1
     try simp only [bf] at hb1
     refine ap ?_
     show ∃ z,_
     refine q_l ?_
     first|(rw [D.nth64,hw.1];exact hw.2.1)|(rw [D.nth64,hw.1,D.getD_none (l:=o) (by omega)];exact (Int.sub_zero _).symm)
   rintro n hn
   try dsimp only at hn
   refine s_g hG ?_
   refine cd (fun (z:Unit)=>(⟨[(0, .l (.z (.slice (.int .i64)) m)),(1, .l (.z (.slice (.int .i64)) o)),(5, .l (.ownS 38)),(6, .l (.z (.int .i64) (D.borrowed n))),(7, .l (.z (.int .i64) (k:Int))),(8, .l (.z (.int .i64) (n+10000*D.borrowed n)))], [(38, .arr (.int .i64) 3 out)]⟩:aa)) (fun z=>True) ?_ ?_
   ·refine s_g hG ?_
    refine ao ?_ ?_
    ·intro hb2
     try simp only [bt] at hb2
     refine s_g hG ?_
     refine ag hG ?_ ?_
     ·first|trivial|omega|(simp;done)|(simp;omega)
     show ∃ z,_
     refine q_l ?_
     first|exact D.borrow_t hb2 (by rw [hn];exact hw.2.2)|exact D.borrow_f hb2
    ·intro hb2
     try simp only [bf] at hb2
     refine ap ?_
     show ∃ z,_
     refine q_l ?_
     first|exact D.borrow_t hb2 (by rw [hn];exact hw.2.2)|exact D.borrow_f hb2
   rintro ⟨⟩ hu
   try dsimp only at hu
   refine ag hG ?_ ?_
   ·try simp only [ba]
    unfold Cm.Roomy;omega
   refine aN ?_
   refine ah ?_
   refine ag hG ?_ ?_
   ·first|trivial|omega|(simp;done)|(simp;omega)
   show ∃ z,_
   refine q_l ?_
   exact ⟨k+1,by rw [wi (by omega) (by omega)];simp,D.minus_next c1.1 c2.1 hz (by omega) hn,by omega⟩
  ·intro hb0
   try simp only [bf] at hb0
   refine bc ?_
   refine aC ?_
   refine av ?_
   refine au ?_
   refine ah ?_
   refine s_q hG ?_ ?_
   ·try simp only [ba]
    exact ⟨hz.hl,by unfold CAP;omega⟩
   refine ax ?_
   refine q_e [] ?_
   rw [(D.minus_fin c1 c2 c3 hz (by omega)).1]
def vy (B:aj):Tab:={types:= [(3,(.int .i64)),(181,(.slice (.int .i64)))],elems:= [(181,3)],cons:= [(183,kS)],hint:= [],N:=66,base:=B}
theorem CM {B:aj} (hB:aA B):aF Tryz.prog (vy B):=⟨⟨tc ty3 (tc iI (ae)),aQ (by kernel_rfl) (af),by simp only [vy,ioB];omega⟩,aD (cc Tryz.func183 (ml hB) (aw)),by kernel_rfl⟩
def kw:Con:=fun l os=>match l,os with
 | [.z (.slice (.int .i64)) x, .z (.slice (.int .i64)) y], []=>some (D.Lim x∧D.Wid y∧x.length+y.length<CAP, [.z (.slice (.int .i64)) (D.limbs (D.valL x*D.valL y).toNat)], [])
 |_,_=>none
theorem yb {B:aj} (hB:aA B):Valid B Tryz.prog 164 kw:=by
 refine ab (CM hB).tab Tryz.func164 rfl rfl rfl ?_
 intro args os C rs os' hc hC
 unfold kw at hc
 split at hc
 case h_2=>cases hc
 rename_i x y
 cases hc
 refine v_h (CM hB) fun X hP hT hr hG=> ?_
 have hU:=vy.eq_1
 unfold vy at hT
 have hX:= @kS.eq_1
 simp only [Tryz.f164,aB,al,ioB]
 refine s_g hG ?_
 refine s_q hG ?_ ?_
 ·try simp only [ba]
  rw [D.len_wrap hC.2.2]
  have c3:List.length x+List.length y<1000000000000:=hC.2.2
  exact ⟨by omega,by omega,by unfold Cm.Roomy;omega⟩
 refine ak ?_
 refine s_g hG ?_
 refine aq ?_
 refine bn (fun (z:Nat×List Int)=>(⟨[(0, .l (.z (.slice (.int .i64)) x)),(1, .l (.z (.slice (.int .i64)) y)),(5, .l (.ownS 15)),(6, .l (.z (.int .i64) (z.1:Int)))], [(15, .arr (.int .i64) 3 z.2)]⟩:aa)) (fun z=>D.TimesPhi x y z.1 z.2) (fun z=>List.length x-z.1) (0,List.replicate (List.length x+List.length y) 0) ?_ ?_ ?_
 ·refine q_l ?_
  exact ⟨rfl,by rw [D.len_wrap hC.2.2,Int.toNat_natCast]⟩
 ·exact D.times_start
 ·rintro ⟨i,out⟩ hz
  try dsimp only at hz
  obtain ⟨c1,c2,c3⟩:=hC
  have c3:List.length x+List.length y<1000000000000:=c3
  have hix:=hz.h1
  have hil:=hz.h2
  refine ak ?_
  refine s_g hG ?_
  refine ao ?_ ?_
  ·intro hb0
   try simp only [bt] at hb0
   refine ap ?_
   refine ah ?_
   refine ak ?_
   refine aq ?_
   refine s_g hG ?_
   refine s_g hG ?_
   refine aq ?_
   refine bn (fun (z:Nat×Int×List Int)=>(⟨[(0, .l (.z (.slice (.int .i64)) x)),(1, .l (.z (.slice (.int .i64)) y)),(5, .l (.ownS 15)),(6, .l (.z (.int .i64) (i:Int))),(7, .l (.z (.int .i64) z.2.1)),(8, .l (.z (.int .i64) (z.1:Int)))], [(15, .arr (.int .i64) 3 z.2.2)]⟩:aa)) (fun z=>D.RowPhi x y i z.1 z.2.1 z.2.2) (fun z=>List.length y+1-z.1) (0,0,out) ?_ ?_ ?_
   ·refine q_l ?_
    rfl
   ·exact D.row_start hz
   ·rintro ⟨k,c,out2⟩ hk
    try dsimp only at hk
    have hrb:=D.row_bound (c1.getD i) (c2.getD k) (hk.h3.getD (i+k)) hk.h4
    have hk1:=hk.h1
    have hk2:=hk.h2
    have hik:IntKind.i64.wrap ((i:Int)+(k:Int))=((i+k:Nat):Int):=by rw [wi (by omega) (by omega)];omega
    refine ak ?_
    refine s_q hG ?_ ?_
    ·try simp only [ba]
     (repeat' (first|apply And.intro|intro _))<;>(try simp only [decide_eq_true_eq,decide_eq_false_iff_not,Bool.not_eq_true',beq_iff_eq,Int.toNat_natCast] at*)<;>first|assumption|omega|trivial|(simp_all;done)|(simp_all;omega)
    refine ao ?_ ?_
    ·intro hb1
     simp only [Bool.or_eq_true,decide_eq_true_eq] at hb1
     have hb1:k<List.length y∨0<c:=by omega
     have hin:=(D.row_next c1 c2 (by omega) hk hb1 rfl).1
     refine ap ?_
     refine ah ?_
     refine ak ?_
     refine aq ?_
     refine cd (fun (z:Unit)=>(⟨[(0, .l (.z (.slice (.int .i64)) x)),(1, .l (.z (.slice (.int .i64)) y)),(5, .l (.ownS 15)),(6, .l (.z (.int .i64) (i:Int))),(7, .l (.z (.int .i64) c)),(8, .l (.z (.int .i64) (k:Int))),(9, .l (.z (.int .i64) (out2.getD (i+k) 0+c)))], [(15, .arr (.int .i64) 3 out2)]⟩:aa)) (fun z=>True) ?_ ?_
     ·refine ag hG ?_ ?_
      ·try simp only [ba]
       rw [hik];omega
      show ∃ z,_
      refine q_l ?_
      rw [hik,Int.toNat_natCast]
      exact hrb.1
     rintro ⟨⟩ hu
     try dsimp only at hu
     refine cd (fun (z:Int)=>(⟨[(0, .l (.z (.slice (.int .i64)) x)),(1, .l (.z (.slice (.int .i64)) y)),(5, .l (.ownS 15)),(6, .l (.z (.int .i64) (i:Int))),(7, .l (.z (.int .i64) c)),(8, .l (.z (.int .i64) (k:Int))),(9, .l (.z (.int .i64) z))], [(15, .arr (.int .i64) 3 out2)]⟩:aa)) (fun z=>z=out2.getD (i+k) 0+c+x.getD i 0*y.getD k 0) ?_ ?_
     ·refine s_g hG ?_
      refine ao ?_ ?_
      ·intro hb2
       try simp only [bt] at hb2
       refine fW hG ?_ ?_
       ·try simp only [ba]
        exact ⟨⟨by omega,by omega⟩,by omega,by omega⟩
       show ∃ z,_
       refine q_l ?_
       first|(rw [D.nth64,D.nth64,hrb.2.1];exact hrb.2.2.1)|(rw [D.getD_none (l:=y) (by omega),Int.mul_zero];exact (Int.add_zero _).symm)
      ·intro hb2
       try simp only [bf] at hb2
       refine ap ?_
       show ∃ z,_
       refine q_l ?_
       first|(rw [D.nth64,D.nth64,hrb.2.1];exact hrb.2.2.1)|(rw [D.getD_none (l:=y) (by omega),Int.mul_zero];exact (Int.add_zero _).symm)
     rintro n hn
     try dsimp only at hn
     refine s_q hG ?_ ?_
     ·try simp only [ba]
      rw [hik];exact ⟨by decide,by omega⟩
     refine ag hG ?_ ?_
     ·try simp only [ba]
      decide
     refine aN ?_
     refine ah ?_
     refine ag hG ?_ ?_
     ·first|trivial|omega|(simp;done)|(simp;omega)
     show ∃ z,_
     refine q_l ?_
     obtain ⟨q1,q2⟩:=D.row_next c1 c2 (by omega) hk hb1 hn
     rw [hik,Int.toNat_natCast]
     exact ⟨k+1,by rw [wi (by omega) (by omega)];simp,q2,by omega⟩
    ·intro hb1
     simp only [Bool.or_eq_false_iff,decide_eq_false_iff_not] at hb1
     refine bc ?_
     refine aC ?_
     refine av ?_
     refine au ?_
     refine aN ?_
     refine ah ?_
     refine ag hG ?_ ?_
     ·first|trivial|omega|(simp;done)|(simp;omega)
     show ∃ z,_
     refine q_l ?_
     exact ⟨i+1,by rw [wi (by omega) (by omega)];simp,D.row_end (by omega) hk (by omega),by omega⟩
  ·intro hb0
   try simp only [bf] at hb0
   refine bc ?_
   refine aC ?_
   refine av ?_
   refine au ?_
   refine ah ?_
   refine s_q hG ?_ ?_
   ·try simp only [ba]
    exact ⟨hz.h3,by unfold CAP;omega⟩
   refine ax ?_
   refine q_e [] ?_
   rw [D.times_fin hz (by omega)]
end Go.Proofs.YtdojbabpnaifoaaGreatDoor
end
section
namespace Go.Proofs.YtdojbabpnaifoaaGreatDoor
open Go Go.Cm Go.Proofs
def vz (B:aj):Tab:={types:= [(5,(.int .u8)),(9, .str)],elems:= [],cons:= [],hint:= [],N:=6,base:=B}
theorem CN {B:aj} (hB:aA B):aF Tryz.prog (vz B):=⟨⟨tc ty5 (tc ty9 (ae)),af,by simp only [vz,ioB];omega⟩,bG rfl,by kernel_rfl⟩
def cI:Con:=fun l os=>match l,os with
 | [.z .str s], []=>some (RF s, [.z .bool (decide (an s<0))], [])
 |_,_=>none
theorem jZ {B:aj} (hB:aA B):Valid B Tryz.prog 157 cI:=by
 refine ab (CN hB).tab Tryz.func157 rfl rfl rfl ?_
 intro args os C rs os' hc hC
 unfold cI at hc
 split at hc
 case h_2=>cases hc
 rename_i s
 cases hc
 refine v_h (CN hB) fun X hP hT hr hG=> ?_
 have hU:=vz.eq_1
 unfold vz at hT
 have hX:=Bool.not_true
 simp only [Tryz.f157,aB,al,ioB]
 refine s_g hG ?_
 refine s_q hG ?_ ?_
 ·try simp only [ba]
  exact ⟨by omega,l5 hC⟩
 refine ax ?_
 refine q_e [] ?_
 exact Av hC
def vA (B:aj):Tab:={types:= [(3,(.int .i64)),(5,(.int .u8)),(9, .str),(181,(.slice (.int .i64)))],elems:= [(181,3)],cons:= [(183,kS)],hint:= [],N:=40,base:=B}
theorem CO {B:aj} (hB:aA B):aF Tryz.prog (vA B):=⟨⟨tc ty3 (tc ty5 (tc ty9 (tc iI (ae)))),aQ (by kernel_rfl) (af),by simp only [vA,ioB];omega⟩,aD (cc Tryz.func183 (ml hB) (aw)),by kernel_rfl⟩
def f5:Con:=fun l os=>match l,os with
 | [.z .str s], []=>some (RF s∧s.length<CAP, [.z (.slice (.int .i64)) (D.limbs (an s).natAbs)], [])
 |_,_=>none
theorem j0 {B:aj} (hB:aA B):Valid B Tryz.prog 156 f5:=by
 refine ab (CO hB).tab Tryz.func156 rfl rfl rfl ?_
 intro args os C rs os' hc hC
 unfold f5 at hc
 split at hc
 case h_2=>cases hc
 rename_i s
 cases hc
 refine v_h (CO hB) fun X hP hT hr hG=> ?_
 have hU:=vA.eq_1
 unfold vA at hT
 have hX:= @kS.eq_1
 simp only [Tryz.f156,aB,al,ioB]
 refine s_g hG ?_
 refine cd (fun (z:Unit)=>(⟨[(0, .l (.z .str (ar s [45])))], []⟩:aa)) (fun z=>True) ?_ ?_
 ·refine s_q hG ?_ ?_
  ·try simp only [ba]
   exact ⟨by omega,l5 hC.1⟩
  refine ao ?_ ?_
  ·intro hb0
   try simp only [bt] at hb0
   refine ag hG ?_ ?_
   ·try simp only [ba]
    have:=l5 hC.1
    omega
   show ∃ z,_
   refine q_l ?_
   first|exact (xi hC.1 hb0).1|exact xj hC.1 hb0
  ·intro hb0
   try simp only [bf] at hb0
   refine ap ?_
   show ∃ z,_
   refine q_l ?_
   first|exact (xi hC.1 hb0).1|exact xj hC.1 hb0
 rintro ⟨⟩ hu
 try dsimp only at hu
 obtain ⟨d1,d2,d3⟩:=gi hC.1
 have hl:=ff s [45]
 have hc:List.length s<1000000000000:=hC.2
 refine s_g hG ?_
 refine ak ?_
 refine s_g hG ?_
 refine aq ?_
 refine bn (fun (z:Nat×List Int)=>(⟨[(0, .l (.z .str (ar s [45]))),(3, .l (.ownS 37)),(4, .l (.z (.int .i64) (((ar s [45]).length:Int)-4*(z.1:Int))))], [(37, .arr (.int .i64) 3 z.2)]⟩:aa)) (fun z=>D.ReadPhi (ar s [45]) z.1 z.2) (fun z=>(ar s [45]).length+4-4*z.1) (0, []) ?_ ?_ ?_
 ·refine q_l ?_
  exact ⟨by show ((ar s [45]).length:Int)=((ar s [45]).length:Int)-4*((0:Nat):Int);omega,by unfold ioB;omega⟩
 ·exact D.read_start
 ·rintro ⟨r,out⟩ hz
  try dsimp only at hz
  have hz1:=hz.1
  have hz4:=hz.2.2.2
  refine ak ?_
  refine s_g hG ?_
  refine ao ?_ ?_
  ·intro hb1
   try simp only [bt] at hb1
   refine ap ?_
   refine ah ?_
   refine ak ?_
   refine aq ?_
   refine s_g hG ?_
   refine ak ?_
   refine s_g hG ?_
   refine aq ?_
   refine bn (fun (z:Nat)=>(⟨[(0, .l (.z .str (ar s [45]))),(3, .l (.ownS 37)),(4, .l (.z (.int .i64) (((ar s [45]).length:Int)-4*(r:Int)))),(5, .l (.z (.int .i64) (D.part (ar s [45]) ((ar s [45]).length-4*(r+1)) z))),(6, .l (.z (.int .i64) (z:Int)))], [(37, .arr (.int .i64) 3 out)]⟩:aa)) (fun z=>(ar s [45]).length-4*(r+1)≤z∧z≤(ar s [45]).length-4*r) (fun z=>(ar s [45]).length-z) ((ar s [45]).length-4*(r+1)) ?_ ?_ ?_
   ·refine q_l ?_
    exact D.read_le0 (by omega) (by omega)
   ·omega
   ·rintro i hi
    try dsimp only at hi
    refine ak ?_
    refine s_g hG ?_
    refine ao ?_ ?_
    ·intro hb2
     try simp only [bt] at hb2
     refine ap ?_
     refine ah ?_
     refine ak ?_
     refine aq ?_
     refine ag hG ?_ ?_
     ·try simp only [ba]
      exact ⟨by omega,by omega⟩
     refine aN ?_
     refine ah ?_
     refine ag hG ?_ ?_
     ·first|trivial|omega|(simp;done)|(simp;omega)
     show ∃ z,_
     refine q_l ?_
     rw [Int.toNat_natCast]
     exact ⟨i+1,D.part_next d1 (by omega) (by omega) (by omega),by rw [wi (by omega) (by omega)];simp,by omega,by omega,by omega⟩
    ·intro hb2
     try simp only [bf] at hb2
     refine bc ?_
     refine aC ?_
     refine av ?_
     refine au ?_
     refine ah ?_
     refine ag hG ?_ ?_
     ·try simp only [ba]
      unfold Cm.Roomy;omega
     refine aN ?_
     refine ah ?_
     refine ag hG ?_ ?_
     ·first|trivial|omega|(simp;done)|(simp;omega)
     show ∃ z,_
     refine q_l ?_
     have hie:i=(ar s [45]).length-4*r:=by omega
     subst hie
     exact ⟨r+1,by rw [wi (by omega) (by omega)];show ((ar s [45]).length:Int)-4*(r:Int)-4=((ar s [45]).length:Int)-4*((r+1:Nat):Int);omega,D.read_next d1 hz (by omega),by omega⟩
  ·intro hb1
   try simp only [bf] at hb1
   refine bc ?_
   refine aC ?_
   refine av ?_
   refine au ?_
   refine ah ?_
   refine s_q hG ?_ ?_
   ·try simp only [ba]
    exact ⟨hz.2.1,by unfold CAP;omega⟩
   refine ax ?_
   refine q_e [] ?_
   exact D.valL_limbs hz (by omega)
end Go.Proofs.YtdojbabpnaifoaaGreatDoor
end
section
namespace Go.Proofs.YtdojbabpnaifoaaGreatDoor
open Go Go.Cm Go.Proofs
def vB (B:aj):Tab:={types:= [(3,(.int .i64)),(5,(.int .u8)),(9, .str),(47,(.slice (.int .u8))),(181,(.slice (.int .i64)))],elems:= [(47,5)],cons:= [],hint:= [],N:=49,base:=B}
theorem CP {B:aj} (hB:aA B):aF Tryz.prog (vB B):=⟨⟨tc ty3 (tc ty5 (tc ty9 (tc MM (tc iI (ae))))),aQ (by kernel_rfl) (af),by simp only [vB,ioB];omega⟩,bG rfl,by kernel_rfl⟩
def eA:Con:=fun l os=>match l,os with
 | [.z .bool neg, .z (.slice (.int .i64)) d], []=>some (D.Cano d∧4*d.length<CAP, [.z .str (Lib.itoa (if neg=true then-D.valL d else D.valL d))], [])
 |_,_=>none
theorem j6 {B:aj} (hB:aA B):Valid B Tryz.prog 158 eA:=by
 refine ab (CP hB).tab Tryz.func158 rfl rfl rfl ?_
 intro args os C rs os' hc hC
 unfold eA at hc
 split at hc
 case h_2=>cases hc
 rename_i neg d
 cases hc
 refine v_h (CP hB) fun X hP hT hr hG=> ?_
 have hU:=vB.eq_1
 unfold vB at hT
 have hX:=Bool.not_true
 simp only [Tryz.f158,aB,al,ioB]
 refine s_g hG ?_
 refine ak ?_
 refine s_g hG ?_
 refine ao ?_ ?_
 ·intro hb0
  try simp only [bt] at hb0
  refine s_g hG ?_
  refine ax ?_
  refine ay ?_
  refine q_e [] ?_
  exact D.write_nil hb0
 ·intro hb0
  simp only [beq_eq_false_iff_ne,ne_eq] at hb0
  have hne:d≠ []:=by intro e;subst e;exact hb0 rfl
  obtain ⟨c1,c2⟩:=hC
  have c2:4*List.length d<1000000000000:=c2
  have hbg:4000000000001≤maxLen:=by decide
  refine ap ?_
  refine ah ?_
  refine s_g hG ?_
  refine ak ?_
  refine s_g hG ?_
  refine aq ?_
  refine bn (fun (z:Nat×List Int)=>(⟨[(0, .l (.z .bool neg)),(1, .l (.z (.slice (.int .i64)) d)),(5, .l (.ownS 42)),(6, .l (.z (.int .i64) ((z.1:Int)-1)))], [(42, .arr (.int .u8) 5 z.2)]⟩:aa)) (fun z=>z.1≤List.length d∧z.2=(D.dd (D.valL (List.drop z.1 d)).toNat).map fun b=>(b.toNat:Int)) (fun z=>z.1) (List.length d, []) ?_ ?_ ?_
  ·refine q_l ?_
   exact ⟨wi (by omega) (by omega),by unfold ioB;omega⟩
  ·exact D.write_phi0 d
  ·rintro ⟨k,out⟩ hz
   try dsimp only at hz
   have hz1:=hz.1
   refine ak ?_
   refine s_g hG ?_
   refine ao ?_ ?_
   ·intro hb1
    try simp only [decide_eq_true_eq] at hb1
    obtain ⟨i,rfl⟩:∃ i,k=i+1:=⟨k-1,by omega⟩
    have ei:((i+1:Nat):Int)-1=(i:Int):=by omega
    rw [ei]
    refine ap ?_
    refine ah ?_
    refine ak ?_
    refine aq ?_
    refine s_g hG ?_
    refine aq ?_
    refine bn (fun (z:Nat×List Int)=>(⟨[(0, .l (.z .bool neg)),(1, .l (.z (.slice (.int .i64)) d)),(5, .l (.ownS 42)),(6, .l (.z (.int .i64) (i:Int))),(7, .l (.z (.int .i64) (D.unit z.1)))], [(42, .arr (.int .u8) 5 z.2)]⟩:aa)) (fun z=>D.WritePhi d i z.1 z.2) (fun z=>4-z.1) (0,out) ?_ ?_ ?_
    ·refine q_l ?_
     decide
    ·exact D.write_start c1.1 hz.2
    ·rintro ⟨j,out2⟩ hj
     try dsimp only at hj
     refine ak ?_
     refine s_g hG ?_
     refine ao ?_ ?_
     ·intro hb2
      try simp only [decide_eq_true_eq] at hb2
      have hj4:=D.unit_pos hb2
      refine ap ?_
      refine ah ?_
      refine ak ?_
      refine aq ?_
      refine cd (fun (z:Unit)=>(⟨[(0, .l (.z .bool neg)),(1, .l (.z (.slice (.int .i64)) d)),(5, .l (.ownS 42)),(6, .l (.z (.int .i64) (i:Int))),(7, .l (.z (.int .i64) (D.unit j))),(8, .l (.z (.int .u8) ((48+D.decimal (d.getD i 0) j:Nat):Int)))], [(42, .arr (.int .u8) 5 out2)]⟩:aa)) (fun z=>True) ?_ ?_
      ·refine ag hG ?_ ?_
       ·try simp only [ba]
        exact ⟨⟨by omega,by omega⟩,fun h=>by rw [h] at hb2;exact absurd hb2 (by decide),by decide⟩
       show ∃ z,_
       refine q_l ?_
       exact D.decimal_code (c1.1.getD i) hj4
      rintro ⟨⟩ hu
      try dsimp only at hu
      refine s_q hG ?_ ?_
      ·try simp only [ba]
       simp [get?,del]
      refine ao ?_ ?_
      ·intro hb3
       have hwl:=D.write_len c1.1 hj (by omega)
       refine ag hG ?_ ?_
       ·try simp only [ba]
        unfold Cm.Roomy;omega
       refine aN ?_
       refine ah ?_
       refine ag hG ?_ ?_
       ·first|trivial|omega|(simp;done)|(simp;omega)
       show ∃ z,_
       refine q_l ?_
       exact ⟨j+1,(D.unit_next hj4).1,by first|exact D.write_take c1.1 hj hj4 (D.cond_t hb3)|exact D.write_leave c1.1 hj hj4 (D.cond_f hb3),by omega⟩
      ·intro hb3
       refine ap ?_
       refine aN ?_
       refine ah ?_
       refine ag hG ?_ ?_
       ·first|trivial|omega|(simp;done)|(simp;omega)
       show ∃ z,_
       refine q_l ?_
       exact ⟨j+1,(D.unit_next hj4).1,by first|exact D.write_take c1.1 hj hj4 (D.cond_t hb3)|exact D.write_leave c1.1 hj hj4 (D.cond_f hb3),by omega⟩
     ·intro hb2
      try simp only [bf] at hb2
      refine bc ?_
      refine aC ?_
      refine av ?_
      refine au ?_
      refine aN ?_
      refine ah ?_
      refine ag hG ?_ ?_
      ·first|trivial|omega|(simp;done)|(simp;omega)
      show ∃ z,_
      refine q_l ?_
      obtain rfl:j=4:=by have:=D.unit_end hb2;have:=hj.hj;omega
      exact ⟨i,wi (by omega) (by omega),by omega,D.write_round c1.1 (by omega) hj,by omega⟩
   ·intro hb1
    simp only [decide_eq_false_iff_not] at hb1
    obtain rfl:k=0:=by omega
    have hz2:=hz.2
    rw [List.drop_zero] at hz2
    have hdl:=D.dd_len c1.1
    subst hz2
    refine bc ?_
    refine aC ?_
    refine av ?_
    refine au ?_
    refine ah ?_
    refine ak ?_
    refine s_g hG ?_
    refine ao ?_ ?_
    ·intro hb4
     refine s_q hG ?_ ?_
     ·try simp only [ba]
      rw [D.str_of_map]
      omega
     refine ax ?_
     refine ay ?_
     refine q_e [] ?_
     rw [D.str_of_map,if_pos hb4]
     exact D.write_minus c1 hne
    ·intro hb4
     refine ap ?_
     refine ah ?_
     refine s_g hG ?_
     refine ax ?_
     refine q_e [] ?_
     rw [D.str_of_map,if_neg (by rw [hb4];decide)]
     exact D.write_text c1 hne
end Go.Proofs.YtdojbabpnaifoaaGreatDoor
end
section
namespace Go.Proofs
open Go.RowKit Go.Cm
def CQ:Con:=fun l os=>match l,os with
 | [.z .str s], []=>some (chk s=0∧s.length≤9, [.z (.int .i64) (an s), .val .nilIface], [])
 |_,_=>none
theorem rZ:∀ (l:List UInt8) (a:Nat),dc l→Lib.decFrom a l=some (l.foldl (fun n c=>n*10+(c.toNat-48)) a)
 | [],_,_=>rfl
 |c::l,a,hd=>by
  have h1:=hd c (by simp)
  rw [Lib.decFrom,Lib.digitVal,if_pos h1,List.foldl_cons]
  exact rZ l _ (fun x hx=>hd x (by simp [hx]))
theorem I6 {s:List UInt8} (h:chk s=0):Lib.atoi s=some (an s):=by
 obtain ⟨d1,d2,d3,d4⟩:=Ah h
 cases s with
 |nil=>exact absurd h (by decide)
 |cons b r=>
  unfold Lib.atoi
  dsimp only
  by_cases hb:b=45
  ·subst hb
   obtain ⟨p1,p2⟩:=nI r
   rw [p2] at d1 d2
   have hne:r.isEmpty=false:=by cases r<;>simp at d2 ⊢
   simp only [beq_self_eq_true,if_true,Lib.decNat,hne,Bool.false_eq_true,if_false,rZ r 0 d1,Option.map_some]
   unfold an
   rw [p1,p2]
   rfl
  ·have ht:ar (b::r) [45]=b::r:=by
    unfold ar cQ
    rw [if_neg]
    intro e
    simp at e
    exact hb e
   rw [ht] at d1
   obtain ⟨p1,p2⟩:=rb d1
   have h43:b≠43:=by
    intro e;subst e
    have:=d1 43 (by simp)
    exact absurd this (by decide)
   rw [if_neg (by simpa using hb),if_neg (by simpa using h43),Lib.decNat,if_neg (by simp),rZ _ 0 d1,Option.map_some]
   unfold an
   rw [p1,p2]
   rfl
theorem I7 {B:aj} (hB:aA B):Valid B Tryz.prog 182 CQ:=by
 intro args os C rs os' hc hC O w vals ρ0 hOn hIo hO hOI hargs hown hap
 unfold CQ at hc
 split at hc
 case h_2=>cases hc
 rename_i s
 cases hc
 obtain ⟨u,rfl,hu⟩:=oa hargs
 rw [eY hu]
 obtain ⟨h0,h1⟩:=hC
 have hsz:(⟨s.toArray⟩:ByteArray).size=s.length:=by simp [ByteArray.size]
 refine (Tryz.strconv_Atoi ⟨s.toArray⟩ (an s) (by rw [hsz];omega) (by simpa using I6 h0) w).mono fun e w' ⟨he,t,hw⟩=> ?_
 have hb:Below w.heap.size w w':=by
  rw [hw];exact ⟨rfl,rfl,rfl,by rw [Lib.bytesWorld_size];omega,fun k hk=>Lib.bytesWorld_at_old w _ _ k hk⟩
 subst he;exact lT (vs:= [.int .i64 (an s), .nilIface]) hb (fun H M=>⟨bJ (ρ:=fun _=>undef),rfl,trivial⟩)
end Go.Proofs
end
section
namespace Go.Proofs.YtdojbabpnaifoaaGreatDoor
open Go Go.Cm Go.Proofs
def CR (B:aj):Tab:={types:= [(3,(.int .i64)),(87,(.slice (.int .u32))),(161,(.int .u32))],elems:= [(87,161)],cons:= [],hint:= [],N:=56,base:=B}
theorem I9 {B:aj} (hB:aA B):aF Tryz.prog (CR B):=⟨⟨tc ty3 (tc gG (tc fl (ae))),aQ (by kernel_rfl) (af),by simp only [CR,ioB];omega⟩,bG rfl,by kernel_rfl⟩
def CS:Con:=fun l os=>match l,os with
 | [.z (.slice (.int .u32)) m, .z (.slice (.int .u32)) o], []=>some (Cano m∧Cano o∧m.length+o.length<CAP, [.z (.slice (.int .u32)) (limbs (valL m+valL o).toNat)], [])
 |_,_=>none
theorem K3 {B:aj} (hB:aA B):Valid B Tryz.prog 151 CS:=by
 refine ab (I9 hB).tab Tryz.func151 rfl rfl rfl ?_
 intro args os C rs os' hc hC
 unfold CS at hc
 split at hc
 case h_2=>cases hc
 rename_i m o
 cases hc
 refine v_h (I9 hB) fun X hP hT hr hG=> ?_
 have hU:=CR.eq_1
 unfold CR at hT
 have hX:=Bool.not_true
 simp only [Tryz.f151,aB,al,ioB]
 refine s_g hG ?_
 refine cd (fun (z:List Int×List Int)=>(⟨[(0, .l (.z (.slice (.int .u32)) z.1)),(1, .l (.z (.slice (.int .u32)) z.2))], []⟩:aa)) (fun z=>Cano z.1∧Cano z.2∧z.2.length≤z.1.length∧z.1.length<CAP∧valL z.1+valL z.2=valL m+valL o) ?_ ?_
 ·refine s_g hG ?_
  refine ao ?_ ?_
  ·intro hb0
   try simp only [bt] at hb0
   refine ag hG ?_ ?_
   ·first|trivial|omega|(simp;done)|(simp;omega)
   show ∃ z,_
   refine q_l ?_
   obtain ⟨c1,c2,c3⟩:=hC
   first|exact ⟨c2,c1,by omega,by omega,Int.add_comm _ _⟩|exact ⟨c1,c2,by omega,by omega⟩
  ·intro hb0
   try simp only [bf] at hb0
   refine ap ?_
   show ∃ z,_
   refine q_l ?_
   obtain ⟨c1,c2,c3⟩:=hC
   first|exact ⟨c2,c1,by omega,by omega,Int.add_comm _ _⟩|exact ⟨c1,c2,by omega,by omega⟩
 rintro ⟨m,o⟩ ⟨h1,h2,h3,h4,h5⟩
 try dsimp only at h1 h2 h3 h4 h5
 have h4:m.length<1000000000000:=h4
 refine s_q hG ?_ ?_
 ·try simp only [ba]
  rw [wi (by omega) (by omega)]
  exact ⟨by omega,by omega,by unfold Cm.Roomy;omega⟩
 refine s_g hG ?_
 refine ak ?_
 refine s_g hG ?_
 refine aq ?_
 refine bn (fun (z:Nat×Int×List Int)=>(⟨[(0, .l (.z (.slice (.int .u32)) m)),(1, .l (.z (.slice (.int .u32)) o)),(5, .l (.ownS 20)),(6, .l (.z (.int .u32) z.2.1)),(21, .l (.z (.slice (.int .u32)) m)),(22, .l (.z (.int .i64) (m.length:Int))),(23, .l (.z (.int .i64) (z.1:Int)))], [(20, .arr (.int .u32) 161 z.2.2)]⟩:aa)) (fun z=>z.1≤m.length∧z.2.2.length=z.1∧Lim z.2.2∧0≤z.2.1∧z.2.1≤1∧valL z.2.2+LB^z.1*z.2.1=valL (m.take z.1)+valL (o.take z.1)) (fun z=>m.length-z.1) (0,0, []) ?_ ?_ ?_
 ·refine q_l ?_
  exact ⟨rfl,rfl⟩
 ·simp [Lim,valL]
 ·rintro ⟨k,c,out⟩ ⟨g1,g2,g3,g4,g5,g6⟩
  try dsimp only at g1 g2 g3 g4 g5 g6
  refine s_g hG ?_
  refine ak ?_
  refine ao ?_ ?_
  ·intro hb1
   try simp only [bt] at hb1
   refine ap ?_
   refine ah ?_
   refine ak ?_
   refine aq ?_
   refine s_q hG ?_ ?_
   ·try simp only [ba]
    exact ⟨by omega,hb1⟩
   refine s_g hG ?_
   refine cd (fun (z:Int)=>(⟨[(0, .l (.z (.slice (.int .u32)) m)),(1, .l (.z (.slice (.int .u32)) o)),(5, .l (.ownS 20)),(9, .l (.z (.int .u32) z)),(21, .l (.z (.slice (.int .u32)) m)),(22, .l (.z (.int .i64) (m.length:Int))),(23, .l (.z (.int .i64) (k:Int)))], [(20, .arr (.int .u32) 161 out)]⟩:aa)) (fun z=>z=m.getD k 0+c+o.getD k 0) ?_ ?_
   ·refine s_g hG ?_
    refine ao ?_ ?_
    ·intro hb2
     try simp only [bt] at hb2
     refine ag hG ?_ ?_
     ·try simp only [ba]
      exact ⟨by omega,hb2⟩
     show ∃ z,_
     refine q_l ?_
     have hw:=sN (h1.1.getD k) (h2.1.getD k) ⟨g4,g5⟩
     first|exact hw.2|(rw [fc,hw.1,List.getD_eq_getElem?_getD (l:=o),List.getElem?_eq_none (by omega)];simp)
    ·intro hb2
     try simp only [bf] at hb2
     refine ap ?_
     show ∃ z,_
     refine q_l ?_
     have hw:=sN (h1.1.getD k) (h2.1.getD k) ⟨g4,g5⟩
     first|exact hw.2|(rw [fc,hw.1,List.getD_eq_getElem?_getD (l:=o),List.getElem?_eq_none (by omega)];simp)
   rintro n hn
   try dsimp only at hn
   refine s_g hG ?_
   refine ag hG ?_ ?_
   ·try simp only [ba]
    exact ⟨by omega,by unfold Cm.Roomy;omega⟩
   refine aN ?_
   refine ah ?_
   refine ag hG ?_ ?_
   ·first|trivial|omega|(simp;done)|(simp;omega)
   show ∃ z,_
   refine q_l ?_
   obtain ⟨q1,q2,q3,q4⟩:=Ag h1.1 h2.1 g2 g3 g4 g5 g6 hn
   exact ⟨k+1,by rw [wi (by omega) (by omega)];simp,by omega,by simp [g2],q1,q2,q3,q4,by omega⟩
  ·intro hb1
   try simp only [bf] at hb1
   refine bc ?_
   refine aC ?_
   refine av ?_
   refine au ?_
   refine ah ?_
   refine cd (fun (z:List Int)=>(⟨[(5, .l (.ownS 20))], [(20, .arr (.int .u32) 161 z)]⟩:aa)) (fun z=>z=limbs (valL m+valL o).toNat) ?_ ?_
   ·refine s_g hG ?_
    refine ao ?_ ?_
    ·intro hb3
     try simp only [bt] at hb3
     refine ag hG ?_ ?_
     ·try simp only [ba]
      unfold Cm.Roomy;omega
     show ∃ z,_
     refine q_l ?_
     have he:=wS (out:=out) (c:=c) h1 h2 h3 (by omega) g3 g4 g5 (by rw [show k=m.length by omega,List.take_length,List.take_of_length_le h3] at g6;exact g6)
     first|exact he.1 hb3|exact he.2 hb3
    ·intro hb3
     try simp only [bf] at hb3
     refine ap ?_
     show ∃ z,_
     refine q_l ?_
     have he:=wS (out:=out) (c:=c) h1 h2 h3 (by omega) g3 g4 g5 (by rw [show k=m.length by omega,List.take_length,List.take_of_length_le h3] at g6;exact g6)
     first|exact he.1 hb3|exact he.2 hb3
   rintro out2 hout
   try dsimp only at hout
   refine s_g hG ?_
   refine ax ?_
   refine q_e [] ?_
   rw [hout,h5]
def CT (B:aj):Tab:={types:= [(3,(.int .i64))],elems:= [],cons:= [],hint:= [],N:=6,base:=B}
theorem Ja {B:aj} (hB:aA B):aF Tryz.prog (CT B):=⟨⟨tc ty3 (ae),af,by simp only [CT,ioB];omega⟩,bG rfl,by kernel_rfl⟩
def CU:Con:=fun l os=>match l,os with
 | [.z (.int .i64) a], []=>some (True, [.z .bool false], [])
 |_,_=>none
theorem K4 {B:aj} (hB:aA B):Valid B Tryz.prog 194 CU:=by
 refine ab (Ja hB).tab Tryz.func194 rfl rfl rfl ?_
 intro args os C rs os' hc hC
 unfold CU at hc
 split at hc
 case h_2=>cases hc
 rename_i a
 cases hc
 refine v_h (Ja hB) fun X hP hT hr hG=> ?_
 have hU:=CT.eq_1
 unfold CT at hT
 have hX:=Bool.not_true
 simp only [Tryz.f194,aB,al,ioB]
 refine s_g hG ?_
 refine s_g hG ?_
 refine ax ?_
 refine q_e [] ?_
 trivial
def CW (B:aj):Tab:={types:= [(161,(.int .u32))],elems:= [],cons:= [],hint:= [],N:=6,base:=B}
theorem Jb {B:aj} (hB:aA B):aF Tryz.prog (CW B):=⟨⟨tc fl (ae),af,by simp only [CW,ioB];omega⟩,bG rfl,by kernel_rfl⟩
def CX:Con:=fun l os=>match l,os with
 | [.z (.int .u32) a], []=>some (True, [.z .bool false], [])
 |_,_=>none
theorem K5 {B:aj} (hB:aA B):Valid B Tryz.prog 195 CX:=by
 refine ab (Jb hB).tab Tryz.func195 rfl rfl rfl ?_
 intro args os C rs os' hc hC
 unfold CX at hc
 split at hc
 case h_2=>cases hc
 rename_i a
 cases hc
 refine v_h (Jb hB) fun X hP hT hr hG=> ?_
 have hU:=CW.eq_1
 unfold CW at hT
 have hX:=Bool.not_true
 simp only [Tryz.f195,aB,al,ioB]
 refine s_g hG ?_
 refine s_g hG ?_
 refine ax ?_
 refine q_e [] ?_
 trivial
def CY (B:aj):Tab:={types:= [(3,(.int .i64))],elems:= [],cons:= [(194,CU)],hint:= [],N:=20,base:=B}
theorem Jc {B:aj} (hB:aA B):aF Tryz.prog (CY B):=⟨⟨tc ty3 (ae),af,by simp only [CY,ioB];omega⟩,aD (cc Tryz.func194 (K4 hB) (aw)),by kernel_rfl⟩
def tT:Con:=fun l os=>match l,os with
 | [.z (.int .i64) a, .z (.int .i64) b], []=>some (True, [.z (.int .i64) (bo a b)], [])
 |_,_=>none
theorem CZ {B:aj} (hB:aA B):Valid B Tryz.prog 180 tT:=by
 refine ab (Jc hB).tab Tryz.func180 rfl rfl rfl ?_
 intro args os C rs os' hc hC
 unfold tT at hc
 split at hc
 case h_2=>cases hc
 rename_i a b
 cases hc
 refine v_h (Jc hB) fun X hP hT hr hG=> ?_
 have hU:=CY.eq_1
 unfold CY at hT
 have hX:= @CU.eq_1
 simp only [Tryz.f180,aB,al,ioB]
 refine s_g hG ?_
 refine s_g hG ?_
 refine s_g hG ?_
 refine ak ?_
 refine s_g hG ?_
 refine ao ?_ ?_
 ·intro hb0
  cases hb0
 ·intro hb0
  try simp only [bf] at hb0
  refine ap ?_
  refine ah ?_
  refine ak ?_
  refine s_g hG ?_
  refine ao ?_ ?_
  ·intro hb1
   cases hb1
  ·intro hb1
   try simp only [bf] at hb1
   refine ap ?_
   refine ah ?_
   refine ak ?_
   refine s_g hG ?_
   refine ao ?_ ?_
   ·intro hb2
    try simp only [bt] at hb2
    refine s_g hG ?_
    refine ax ?_
    refine ay ?_
    refine q_e [] ?_
    rw [bo,if_pos hb2]
   ·intro hb2
    try simp only [bf] at hb2
    refine ap ?_
    refine ah ?_
    refine ak ?_
    refine s_g hG ?_
    refine ao ?_ ?_
    ·intro hb3
     try simp only [bt] at hb3
     refine s_g hG ?_
     refine ax ?_
     refine ay ?_
     refine q_e [] ?_
     rw [bo,if_neg (by omega),if_pos hb3]
    ·intro hb3
     try simp only [bf] at hb3
     refine ap ?_
     refine ah ?_
     refine s_g hG ?_
     refine ax ?_
     refine q_e [] ?_
     rw [bo,if_neg hb2,if_neg hb3]
def C3 (B:aj):Tab:={types:= [(161,(.int .u32))],elems:= [],cons:= [(195,CX)],hint:= [],N:=20,base:=B}
theorem Jd {B:aj} (hB:aA B):aF Tryz.prog (C3 B):=⟨⟨tc fl (ae),af,by simp only [C3,ioB];omega⟩,aD (cc Tryz.func195 (K5 hB) (aw)),by kernel_rfl⟩
def C4:Con:=fun l os=>match l,os with
 | [.z (.int .u32) a, .z (.int .u32) b], []=>some (True, [.z (.int .i64) (bo a b)], [])
 |_,_=>none
theorem K6 {B:aj} (hB:aA B):Valid B Tryz.prog 181 C4:=by
 refine ab (Jd hB).tab Tryz.func181 rfl rfl rfl ?_
 intro args os C rs os' hc hC
 unfold C4 at hc
 split at hc
 case h_2=>cases hc
 rename_i a b
 cases hc
 refine v_h (Jd hB) fun X hP hT hr hG=> ?_
 have hU:=C3.eq_1
 unfold C3 at hT
 have hX:= @CX.eq_1
 simp only [Tryz.f181,aB,al,ioB]
 refine s_g hG ?_
 refine s_g hG ?_
 refine s_g hG ?_
 refine ak ?_
 refine s_g hG ?_
 refine ao ?_ ?_
 ·intro hb0
  cases hb0
 ·intro hb0
  try simp only [bf] at hb0
  refine ap ?_
  refine ah ?_
  refine ak ?_
  refine s_g hG ?_
  refine ao ?_ ?_
  ·intro hb1
   cases hb1
  ·intro hb1
   try simp only [bf] at hb1
   refine ap ?_
   refine ah ?_
   refine ak ?_
   refine s_g hG ?_
   refine ao ?_ ?_
   ·intro hb2
    try simp only [bt] at hb2
    refine s_g hG ?_
    refine ax ?_
    refine ay ?_
    refine q_e [] ?_
    rw [bo,if_pos hb2]
   ·intro hb2
    try simp only [bf] at hb2
    refine ap ?_
    refine ah ?_
    refine ak ?_
    refine s_g hG ?_
    refine ao ?_ ?_
    ·intro hb3
     try simp only [bt] at hb3
     refine s_g hG ?_
     refine ax ?_
     refine ay ?_
     refine q_e [] ?_
     rw [bo,if_neg (by omega),if_pos hb3]
    ·intro hb3
     try simp only [bf] at hb3
     refine ap ?_
     refine ah ?_
     refine s_g hG ?_
     refine ax ?_
     refine q_e [] ?_
     rw [bo,if_neg hb2,if_neg hb3]
def C5 (B:aj):Tab:={types:= [(3,(.int .i64)),(87,(.slice (.int .u32))),(89,(.st (.pair .bool (.slice (.int .u32))))),(161,(.int .u32))],elems:= [],cons:= [],hint:= [],N:=30,base:=B}
theorem Je {B:aj} (hB:aA B):aF Tryz.prog (C5 B):=⟨⟨tc ty3 (tc gG (tc fZ (tc fl (ae)))),af,by simp only [C5,ioB];omega⟩,bG rfl,by kernel_rfl⟩
def dI:Con:=fun l os=>match l,os with
 | [.z .bool s, .z (.slice (.int .u32)) m], []=>some (Lim m∧m.length<CAP, [.z (.st (.pair .bool (.slice (.int .u32)))) (enc (dec (s,m)))], [])
 |_,_=>none
theorem jf {B:aj} (hB:aA B):Valid B Tryz.prog 150 dI:=by
 refine ab (Je hB).tab Tryz.func150 rfl rfl rfl ?_
 intro args os C rs os' hc hC
 unfold dI at hc
 split at hc
 case h_2=>cases hc
 rename_i s m
 cases hc
 refine v_h (Je hB) fun X hP hT hr hG=> ?_
 have hU:=C5.eq_1
 unfold C5 at hT
 have hX:=Bool.not_true
 simp only [Tryz.f150,aB,al,ioB]
 refine s_g hG ?_
 refine ak ?_
 refine aq ?_
 refine bn (fun (z:List Int)=>(⟨[(0, .l (.z .bool s)),(1, .l (.z (.slice (.int .u32)) z)),(4, .l (.ownP 4 0))], [(4, .box 89 [.z .bool false, .val (.slice none 0 0)])]⟩:aa)) (fun z=>Lim z∧valL z=valL m∧z.length≤m.length) (fun z=>z.length) m ?_ ?_ ?_
 ·simp only [ml0,ml1,Nat.reduceLT,Nat.reduceEqDiff,Nat.reduceAdd,Nat.reduceMul,Nat.reduceSub,Nat.reduceLeDiff,Nat.reduceBEq,Nat.reduceBNe,reduceIte,reduceDIte,reduceCtorEq]
 ·exact ⟨hC.1,rfl,Nat.le_refl _⟩
 ·rintro z ⟨g1,g2,g3⟩
  try dsimp only at g1 g2 g3
  have h4:z.length<1000000000000:=Nat.lt_of_le_of_lt g3 hC.2
  refine ak ?_
  refine s_q hG ?_ ?_
  ·try simp only [ba]
   exact ⟨id,id,fun h=>⟨h,by simp only [decide_eq_true_eq] at h;rw [wi (by omega) (by omega)];omega⟩,id⟩
  refine ao ?_ ?_
  ·intro hb0
   try simp only [bt] at hb0
   refine ap ?_
   refine ah ?_
   refine aq ?_
   refine ag hG ?_ ?_
   ·try simp only [ba]
    rw [wi (by omega) (by omega)];omega
   refine aN ?_
   show ∃ z,_
   refine q_l ?_
   exact whole_round g1 g2 g3 hb0.1 h4 hb0.2
  ·intro hb0
   try simp only [bf] at hb0
   refine bc ?_
   refine aC ?_
   refine av ?_
   refine au ?_
   refine ah ?_
   refine s_q hG ?_ ?_
   ·try simp only [ba]
    exact id
   refine ax ?_
   refine q_e [] ?_
   refine Eh g1 g2 fun hz h0=> ?_
   have:=hb0 (by simp;omega)
   rw [wi (by omega) (by omega),last_eq hz] at this
   exact this h0
def C6 (B:aj):Tab:={types:= [(4, .bool),(87,(.slice (.int .u32))),(89,(.st (.pair .bool (.slice (.int .u32)))))],elems:= [],cons:= [(150,dI)],hint:= [],N:=9,base:=B}
theorem Jf {B:aj} (hB:aA B):aF Tryz.prog (C6 B):=⟨⟨tc ty4 (tc gG (tc fZ (ae))),af,by simp only [C6,ioB];omega⟩,aD (cc Tryz.func150 (jf hB) (aw)),by kernel_rfl⟩
def yc:Con:=fun l os=>match l,os with
 | [.z (.st (.pair .bool (.slice (.int .u32)))) x], []=>some (Lim x.2∧x.2.length<CAP, [.z (.st (.pair .bool (.slice (.int .u32)))) (enc (-dec x))], [])
 |_,_=>none
theorem vC {B:aj} (hB:aA B):Valid B Tryz.prog 148 yc:=by
 refine ab (Jf hB).tab Tryz.func148 rfl rfl rfl ?_
 intro args os C rs os' hc hC
 unfold yc at hc
 split at hc
 case h_2=>cases hc
 rename_i x
 cases hc
 refine v_h (Jf hB) fun X hP hT hr hG=> ?_
 have hU:=C6.eq_1
 unfold C6 at hT
 have hX:= @dI.eq_1
 simp only [Tryz.f148,aB,al,ioB]
 refine s_g hG ?_
 refine s_q hG ?_ ?_
 ·try simp only [ba]
  exact hC
 refine ax ?_
 refine q_e [] ?_
 rw [BN]
def C7 (B:aj):Tab:={types:= [(3,(.int .i64)),(4, .bool),(87,(.slice (.int .u32))),(89,(.st (.pair .bool (.slice (.int .u32)))))],elems:= [],cons:= [],hint:= [],N:=11,base:=B}
theorem Jg {B:aj} (hB:aA B):aF Tryz.prog (C7 B):=⟨⟨tc ty3 (tc ty4 (tc gG (tc fZ (ae)))),af,by simp only [C7,ioB];omega⟩,bG rfl,by kernel_rfl⟩
def nS:Con:=fun l os=>match l,os with
 | [.z (.st (.pair .bool (.slice (.int .u32)))) x], []=>some (WOK x, [.z (.int .i64) (bo (dec x) 0)], [])
 |_,_=>none
theorem vD {B:aj} (hB:aA B):Valid B Tryz.prog 154 nS:=by
 refine ab (Jg hB).tab Tryz.func154 rfl rfl rfl ?_
 intro args os C rs os' hc hC
 unfold nS at hc
 split at hc
 case h_2=>cases hc
 rename_i x
 cases hc
 refine v_h (Jg hB) fun X hP hT hr hG=> ?_
 have hU:=C7.eq_1
 unfold C7 at hT
 have hX:=Bool.not_true
 simp only [Tryz.f154,aB,al,ioB]
 refine s_g hG ?_
 refine ak ?_
 refine aq ?_
 refine s_g hG ?_
 refine ao ?_ ?_
 ·intro hb0
  try simp only [bt] at hb0
  refine s_g hG ?_
  refine ax ?_
  refine bv ?_
  refine ay ?_
  refine q_e [] ?_
  rw [bo,if_neg (by have:=(fd hC).1.1 hb0;omega),if_neg (by have:=(fd hC).1.1 hb0;omega)]
 ·intro hb0
  try simp only [bf] at hb0
  refine s_g hG ?_
  refine ao ?_ ?_
  ·intro hb1
   try simp only [bt] at hb1
   refine s_g hG ?_
   refine ax ?_
   refine bv ?_
   refine ay ?_
   refine q_e [] ?_
   rw [bo,if_pos (((fd hC).2 hb0).1 hb1)]
  ·intro hb1
   try simp only [bf] at hb1
   refine ap ?_
   refine aN ?_
   refine ah ?_
   refine s_g hG ?_
   refine ax ?_
   refine q_e [] ?_
   have:=((fd hC).2 hb0).2 hb1
   rw [bo,if_neg (by omega),if_pos this]
def C8 (B:aj):Tab:={types:= [(3,(.int .i64)),(87,(.slice (.int .u32))),(161,(.int .u32))],elems:= [],cons:= [(180,tT),(181,C4)],hint:= [],N:=35,base:=B}
theorem Jh {B:aj} (hB:aA B):aF Tryz.prog (C8 B):=⟨⟨tc ty3 (tc gG (tc fl (ae))),af,by simp only [C8,ioB];omega⟩,aD (cc Tryz.func180 (CZ hB) (cc Tryz.func181 (K6 hB) (aw))),by kernel_rfl⟩
def es:Con:=fun l os=>match l,os with
 | [.z (.slice (.int .u32)) m, .z (.slice (.int .u32)) o], []=>some (Cano m∧Cano o∧m.length+o.length<CAP, [.z (.int .i64) (bo (valL m) (valL o))], [])
 |_,_=>none
theorem vE {B:aj} (hB:aA B):Valid B Tryz.prog 152 es:=by
 refine ab (Jh hB).tab Tryz.func152 rfl rfl rfl ?_
 intro args os C rs os' hc hC
 unfold es at hc
 split at hc
 case h_2=>cases hc
 rename_i m o
 cases hc
 refine v_h (Jh hB) fun X hP hT hr hG=> ?_
 have hU:=C8.eq_1
 unfold C8 at hT
 have hX:=ai @tT.eq_1<| @C4.eq_1
 simp only [Tryz.f152,aB,al,ioB]
 refine s_g hG ?_
 refine ak ?_
 refine s_g hG ?_
 refine s_g hG ?_
 refine ao ?_ ?_
 ·intro hb0
  try simp only [bt] at hb0
  refine s_g hG ?_
  refine ax ?_
  refine ay ?_
  refine q_e [] ?_
  exact cmp_lens hC.1 hC.2.1 hb0
 ·intro hb0
  try simp only [decide_eq_true_eq,decide_eq_false_iff_not,bne_eq_false_iff_eq] at hb0
  obtain ⟨c1,c2,c3⟩:=hC
  have c3:List.length m+List.length o<1000000000000:=c3
  have hl:List.length m=List.length o:=by have:=lU.1 hb0;omega
  refine ap ?_
  refine ah ?_
  refine ak ?_
  refine s_g hG ?_
  refine aq ?_
  refine bn (fun (z:Nat)=>(⟨[(0, .l (.z (.slice (.int .u32)) m)),(1, .l (.z (.slice (.int .u32)) o)),(6, .l (.z (.int .i64) ((z:Int)-1)))], []⟩:aa)) (fun z=>z≤List.length m∧List.drop z m=List.drop z o) (fun z=>z) (List.length m) ?_ ?_ ?_
  ·refine q_l ?_
   exact wi (by omega) (by omega)
  ·exact ⟨Nat.le_refl _,by rw [List.drop_length,List.drop_of_length_le (by omega)]⟩
  ·rintro k ⟨g1,g2⟩
   try dsimp only at g1 g2
   refine ak ?_
   refine s_g hG ?_
   refine ao ?_ ?_
   ·intro hb1
    try simp only [bt] at hb1
    refine ap ?_
    refine ah ?_
    refine ak ?_
    refine aq ?_
    refine s_d hG ?_ ?_
    ·try simp only [ba]
     omega
    refine s_g hG ?_
    refine ao ?_ ?_
    ·intro hb2
     try simp only [bt] at hb2
     refine s_g hG ?_
     refine ax ?_
     refine bv ?_
     refine ay ?_
     refine dY ?_
     refine bv ?_
     refine ay ?_
     refine q_e [] ?_
     obtain ⟨j,rfl⟩:∃ j,k=j+1:=⟨k-1,by omega⟩
     have hk:((j+1:Nat):Int)-1=(j:Int):=by omega
     rw [hk] at hb2 ⊢
     exact cmp_place (k:=j) c1 c2 hl (by omega) g2 hb2
    ·intro hb2
     try simp only [bf] at hb2
     refine ap ?_
     refine aN ?_
     refine ah ?_
     refine ag hG ?_ ?_
     ·first|trivial|omega|(simp;done)|(simp;omega)
     show ∃ z,_
     refine q_l ?_
     have hk:(k:Int)-1=((k-1:Nat):Int):=by omega
     refine ⟨k-1,by rw [hk,wi (by omega) (by omega)],by omega,?_,by omega⟩
     refine drop_step (k:=k-1) hl (by omega) (by rw [show k-1+1=k by omega];exact g2) ?_
     rw [hk] at hb2
     exact lU.1 hb2
   ·intro hb1
    try simp only [bf] at hb1
    refine bc ?_
    refine aC ?_
    refine av ?_
    refine au ?_
    refine ah ?_
    refine s_g hG ?_
    refine ax ?_
    refine q_e [] ?_
    have:k=0:=by omega
    subst this
    simp only [List.drop_zero] at g2
    rw [g2];simp [bo]
def C9 (B:aj):Tab:={types:= [(2,(.int .i64)),(3,(.int .i64)),(87,(.slice (.int .u32))),(161,(.int .u32))],elems:= [(87,161)],cons:= [],hint:= [],N:=46,base:=B}
theorem Ji {B:aj} (hB:aA B):aF Tryz.prog (C9 B):=⟨⟨tc ty2 (tc ty3 (tc gG (tc fl (ae)))),aQ (by kernel_rfl) (af),by simp only [C9,ioB];omega⟩,bG rfl,by kernel_rfl⟩
def vF:Con:=fun l os=>match l,os with
 | [.z (.slice (.int .u32)) m, .z (.slice (.int .u32)) o], []=>some (Cano m∧Cano o∧valL o≤valL m∧m.length<CAP, [.z (.slice (.int .u32)) (padL (valL m-valL o).toNat m.length)], [])
 |_,_=>none
theorem K7 {B:aj} (hB:aA B):Valid B Tryz.prog 153 vF:=by
 refine ab (Ji hB).tab Tryz.func153 rfl rfl rfl ?_
 intro args os C rs os' hc hC
 unfold vF at hc
 split at hc
 case h_2=>cases hc
 rename_i m o
 cases hc
 refine v_h (Ji hB) fun X hP hT hr hG=> ?_
 have hU:=C9.eq_1
 unfold C9 at hT
 have hX:=Bool.not_true
 simp only [Tryz.f153,aB,al,ioB]
 refine s_g hG ?_
 refine s_q hG ?_ ?_
 ·try simp only [ba]
  exact ⟨by omega,by omega,by have:List.length m<1000000000000:=hC.2.2.2;unfold Cm.Roomy;omega⟩
 refine s_g hG ?_
 refine ak ?_
 refine s_g hG ?_
 refine aq ?_
 refine bn (fun (z:Nat×Int×List Int)=>(⟨[(1, .l (.z (.slice (.int .u32)) o)),(5, .l (.ownS 12)),(6, .l (.z (.int .i64) z.2.1)),(13, .l (.z (.slice (.int .u32)) m)),(14, .l (.z (.int .i64) (List.length m:Int))),(15, .l (.z (.int .i64) (z.1:Int)))], [(12, .arr (.int .u32) 161 z.2.2)]⟩:aa)) (fun z=>z.1≤List.length m∧z.2.2.length=z.1∧Lim z.2.2∧0≤z.2.1∧z.2.1≤1∧valL z.2.2+valL (List.take z.1 o)=valL (List.take z.1 m)+LB^z.1*z.2.1) (fun z=>List.length m-z.1) (0,0, []) ?_ ?_ ?_
 ·refine q_l ?_
  exact ⟨rfl,rfl⟩
 ·simp [Lim,valL]
 ·rintro ⟨k,b,out⟩ ⟨g1,g2,g3,g4,g5,g6⟩
  try dsimp only at g1 g2 g3 g4 g5 g6
  obtain ⟨c1,c2,c3,c4⟩:=hC
  have c4:List.length m<1000000000000:=c4
  have hx:=c1.1.getD k
  have hy:=c2.1.getD k
  have hB:LB=1000000000:=rfl
  refine s_g hG ?_
  refine ak ?_
  refine ao ?_ ?_
  ·intro hb0
   try simp only [bt] at hb0
   refine ap ?_
   refine ah ?_
   refine ak ?_
   refine aq ?_
   refine s_q hG ?_ ?_
   ·try simp only [ba]
    exact ⟨by omega,by omega⟩
   refine s_g hG ?_
   refine cd (fun (z:Int)=>(⟨[(1, .l (.z (.slice (.int .u32)) o)),(5, .l (.ownS 12)),(9, .l (.z (.int .i64) z)),(13, .l (.z (.slice (.int .u32)) m)),(14, .l (.z (.int .i64) (List.length m:Int))),(15, .l (.z (.int .i64) (k:Int)))], [(12, .arr (.int .u32) 161 out)]⟩:aa)) (fun z=>z=List.getD m k 0-b-List.getD o k 0) ?_ ?_
   ·refine s_g hG ?_
    refine ao ?_ ?_
    ·intro hb1
     try simp only [bt] at hb1
     refine ag hG ?_ ?_
     ·try simp only [ba]
      exact ⟨by omega,by omega⟩
     show ∃ z,_
     refine q_l ?_
     rw [fc,wi (x:=List.getD m k 0) (by omega) (by omega),wi (x:=List.getD m k 0-b) (by omega) (by omega)]
     first|(rw [fc,wi (x:=List.getD o k 0) (by omega) (by omega)];exact wi (by omega) (by omega))|(rw [List.getD_eq_getElem?_getD (l:=o),List.getElem?_eq_none (by omega)];simp)
    ·intro hb1
     try simp only [bf] at hb1
     refine ap ?_
     show ∃ z,_
     refine q_l ?_
     rw [fc,wi (x:=List.getD m k 0) (by omega) (by omega),wi (x:=List.getD m k 0-b) (by omega) (by omega)]
     first|(rw [fc,wi (x:=List.getD o k 0) (by omega) (by omega)];exact wi (by omega) (by omega))|(rw [List.getD_eq_getElem?_getD (l:=o),List.getElem?_eq_none (by omega)];simp)
   rintro n hn
   try dsimp only at hn
   refine s_g hG ?_
   refine cd (fun (z:Int×Int)=>(⟨[(1, .l (.z (.slice (.int .u32)) o)),(5, .l (.ownS 12)),(6, .l (.z (.int .i64) z.2)),(9, .l (.z (.int .i64) z.1)),(13, .l (.z (.slice (.int .u32)) m)),(14, .l (.z (.int .i64) (List.length m:Int))),(15, .l (.z (.int .i64) (k:Int)))], [(12, .arr (.int .u32) 161 out)]⟩:aa)) (fun z=>0≤z.1∧z.1<LB∧0≤z.2∧z.2≤1∧z.1-LB*z.2=n) ?_ ?_
   ·refine s_g hG ?_
    refine ao ?_ ?_
    ·intro hb2
     try simp only [bt] at hb2
     refine ag hG ?_ ?_
     ·first|trivial|omega|(simp;done)|(simp;omega)
     show ∃ z,_
     refine q_l ?_
     first|(rw [wi (by omega) (by omega)];exact ⟨by omega,by omega,by omega,by omega,by omega⟩)|exact ⟨by omega,by omega,by omega,by omega,by omega⟩
    ·intro hb2
     try simp only [bf] at hb2
     refine ap ?_
     show ∃ z,_
     refine q_l ?_
     first|(rw [wi (by omega) (by omega)];exact ⟨by omega,by omega,by omega,by omega,by omega⟩)|exact ⟨by omega,by omega,by omega,by omega,by omega⟩
   rintro ⟨n2,b2⟩ hn2
   try dsimp only at hn2
   refine ag hG ?_ ?_
   ·try simp only [ba]
    unfold Cm.Roomy;omega
   refine aN ?_
   refine ah ?_
   refine ag hG ?_ ?_
   ·first|trivial|omega|(simp;done)|(simp;omega)
   show ∃ z,_
   refine q_l ?_
   obtain ⟨hn1,hn2,hn3,hn4,hn5⟩:=hn2
   rw [w32 hn1 (by omega)]
   obtain ⟨q1,q2⟩:=minus_round (b:=b) g2 g3 g6 hn1 hn2 (b':=b2) (by omega)
   exact ⟨k+1,by rw [wi (by omega) (by omega)];simp,by omega,by simp [g2],q1,hn3,hn4,q2,by omega⟩
  ·intro hb0
   try simp only [bf] at hb0
   refine bc ?_
   refine aC ?_
   refine av ?_
   refine au ?_
   refine ah ?_
   refine s_g hG ?_
   refine ax ?_
   refine q_e [] ?_
   have hk:k=List.length m:=by omega
   subst hk
   exact minus_end c1 c2 c3 g2 g3 g4 (by rw [List.take_length] at g6;exact g6)
def Da (B:aj):Tab:={types:= [(3,(.int .i64)),(4, .bool),(87,(.slice (.int .u32))),(89,(.st (.pair .bool (.slice (.int .u32)))))],elems:= [],cons:= [(150,dI),(151,CS),(152,es),(153,vF)],hint:= [],N:=42,base:=B}
theorem Jj {B:aj} (hB:aA B):aF Tryz.prog (Da B):=⟨⟨tc ty3 (tc ty4 (tc gG (tc fZ (ae)))),af,by simp only [Da,ioB];omega⟩,aD (cc Tryz.func150 (jf hB) (cc Tryz.func151 (K3 hB) (cc Tryz.func152 (vE hB) (cc Tryz.func153 (K7 hB) (aw))))),by kernel_rfl⟩
def yd:Con:=fun l os=>match l,os with
 | [.z (.st (.pair .bool (.slice (.int .u32)))) x, .z (.st (.pair .bool (.slice (.int .u32)))) y], []=>some (WOK x∧WOK y∧x.2.length+y.2.length<CAP, [.z (.st (.pair .bool (.slice (.int .u32)))) (enc (dec x+dec y))], [])
 |_,_=>none
theorem vG {B:aj} (hB:aA B):Valid B Tryz.prog 110 yd:=by
 refine ab (Jj hB).tab Tryz.func110 rfl rfl rfl ?_
 intro args os C rs os' hc hC
 unfold yd at hc
 split at hc
 case h_2=>cases hc
 rename_i x y
 cases hc
 refine v_h (Jj hB) fun X hP hT hr hG=> ?_
 have hU:=Da.eq_1
 unfold Da at hT
 have hX:=ai @es.eq_1<|ai @vF.eq_1<|ai @CS.eq_1<| @dI.eq_1
 simp only [Tryz.f110,aB,al,ioB]
 refine s_g hG ?_
 refine ak ?_
 refine aq ?_
 refine s_g hG ?_
 refine ao ?_ ?_
 ·intro hb0
  try simp only [bt] at hb0
  refine s_d hG ?_ ?_
  ·try simp only [ba]
   obtain ⟨c1,c2,c3⟩:=hC
   exact ⟨⟨c1.1,c2.1,c3⟩,(limbs_can _).1,Nat.lt_of_le_of_lt (plus_len c1.1 c2.1) c3⟩
  refine ax ?_
  refine bv ?_
  refine ay ?_
  refine q_e [] ?_
  exact add_same hC.1 hC.2.1 hb0
 ·intro hb0
  try simp only [bf] at hb0
  refine s_q hG ?_ ?_
  ·try simp only [ba]
   obtain ⟨c1,c2,c3⟩:=hC
   exact ⟨c1.1,c2.1,c3⟩
  refine ao ?_ ?_
  ·intro hb1
   try simp only [bt] at hb1
   refine s_d hG ?_ ?_
   ·try simp only [ba]
    obtain ⟨c1,c2,c3⟩:=hC
    rw [lV] at hb1
    exact ⟨⟨c2.1,c1.1,by omega,by omega⟩,padL_lim _ _,by rw [padL_len];omega⟩
   refine ax ?_
   refine bv ?_
   refine ay ?_
   refine q_e [] ?_
   rw [lV] at hb1
   rw [wT (fun e=>hb0 e.symm) (minus_val hC.2.1.1 hC.1.1 (by omega)),Int.add_comm]
  ·intro hb1
   try simp only [bf] at hb1
   refine ap ?_
   refine aN ?_
   refine ah ?_
   refine s_d hG ?_ ?_
   ·try simp only [ba]
    obtain ⟨c1,c2,c3⟩:=hC
    rw [lV] at hb1
    exact ⟨⟨c1.1,c2.1,by omega,by omega⟩,padL_lim _ _,by rw [padL_len];omega⟩
   refine ax ?_
   refine q_e [] ?_
   rw [lV] at hb1
   exact wT hb0 (minus_val hC.1.1 hC.2.1.1 (by omega))
def Db (B:aj):Tab:={types:= [(89,(.st (.pair .bool (.slice (.int .u32)))))],elems:= [],cons:= [(110,yd),(148,yc)],hint:= [],N:=9,base:=B}
theorem Jk {B:aj} (hB:aA B):aF Tryz.prog (Db B):=⟨⟨tc fZ (ae),af,by simp only [Db,ioB];omega⟩,aD (cc Tryz.func110 (vG hB) (cc Tryz.func148 (vC hB) (aw))),by kernel_rfl⟩
def K8:Con:=fun l os=>match l,os with
 | [.z (.st (.pair .bool (.slice (.int .u32)))) x, .z (.st (.pair .bool (.slice (.int .u32)))) y], []=>some (WOK x∧WOK y∧x.2.length+y.2.length<CAP, [.z (.st (.pair .bool (.slice (.int .u32)))) (enc (dec x-dec y))], [])
 |_,_=>none
theorem K9 {B:aj} (hB:aA B):Valid B Tryz.prog 179 K8:=by
 refine ab (Jk hB).tab Tryz.func179 rfl rfl rfl ?_
 intro args os C rs os' hc hC
 unfold K8 at hc
 split at hc
 case h_2=>cases hc
 rename_i x y
 cases hc
 refine v_h (Jk hB) fun X hP hT hr hG=> ?_
 have hU:=Db.eq_1
 unfold Db at hT
 have hX:=ai @yd.eq_1<| @yc.eq_1
 simp only [Tryz.f179,aB,al,ioB]
 refine s_g hG ?_
 refine s_d hG ?_ ?_
 ·try simp only [ba]
  obtain ⟨c1,c2,c3⟩:=hC
  exact ⟨⟨c2.1.1,by omega⟩,c1,enc_ok _,by rw [JV c2];exact c3⟩
 refine ax ?_
 refine q_e [] ?_
 rw [bK];rfl
def Dc (B:aj):Tab:={types:= [(3,(.int .i64)),(4, .bool),(87,(.slice (.int .u32))),(89,(.st (.pair .bool (.slice (.int .u32))))),(161,(.int .u32)),(164,(.int .u64))],elems:= [(87,161)],cons:= [(150,dI)],hint:= [],N:=79,base:=B}
theorem Jl {B:aj} (hB:aA B):aF Tryz.prog (Dc B):=⟨⟨tc ty3 (tc ty4 (tc gG (tc fZ (tc fl (tc mb (ae)))))),aQ (by kernel_rfl) (af),by simp only [Dc,ioB];omega⟩,aD (cc Tryz.func150 (jf hB) (aw)),by kernel_rfl⟩
def ye:Con:=fun l os=>match l,os with
 | [.z (.st (.pair .bool (.slice (.int .u32)))) x, .z (.st (.pair .bool (.slice (.int .u32)))) y], []=>some (WOK x∧WOK y∧x.2.length+y.2.length<CAP, [.z (.st (.pair .bool (.slice (.int .u32)))) (enc (dec x*dec y))], [])
 |_,_=>none
theorem vH {B:aj} (hB:aA B):Valid B Tryz.prog 109 ye:=by
 refine ab (Jl hB).tab Tryz.func109 rfl rfl rfl ?_
 intro args os C rs os' hc hC
 unfold ye at hc
 split at hc
 case h_2=>cases hc
 rename_i x y
 cases hc
 refine v_h (Jl hB) fun X hP hT hr hG=> ?_
 have hU:=Dc.eq_1
 unfold Dc at hT
 have hX:= @dI.eq_1
 simp only [Tryz.f109,aB,al,ioB]
 refine s_g hG ?_
 refine s_q hG ?_ ?_
 ·try simp only [ba]
  have c3:List.length x.2+List.length y.2<1000000000000:=hC.2.2
  rw [wi (by omega) (by omega)]
  exact ⟨by omega,by omega,by unfold Cm.Roomy;omega⟩
 refine ak ?_
 refine s_g hG ?_
 refine aq ?_
 refine bn (fun (z:Nat×List Int)=>(⟨[(2, .l (.z (.ptr (.st (.pair .bool (.slice (.int .u32))))) x)),(3, .l (.z (.ptr (.st (.pair .bool (.slice (.int .u32))))) y)),(4, .l (.ownP 4 0)),(5, .l (.ownS 19)),(21, .l (.z (.slice (.int .u32)) x.2)),(22, .l (.z (.int .i64) (List.length x.2:Int))),(23, .l (.z (.int .i64) (z.1:Int)))], [(19, .arr (.int .u32) 161 z.2),(4, .box 89 [.z .bool false, .val (.slice none 0 0)])]⟩:aa)) (fun z=>z.1≤List.length x.2∧z.2.length=List.length x.2+List.length y.2∧Lim z.2∧valL z.2=valL (List.take z.1 x.2)*valL y.2∧∀ j,z.1+List.length y.2≤j→z.2.getD j 0=0) (fun z=>List.length x.2-z.1) (0,List.replicate (List.length x.2+List.length y.2) 0) ?_ ?_ ?_
 ·refine q_l ?_
  have c3:List.length x.2+List.length y.2<1000000000000:=hC.2.2
  rw [wi (by omega) (by omega)]
  exact ⟨rfl,by congr 1⟩
 ·obtain ⟨r1,r2,r3⟩:=replicate_zero (List.length x.2+List.length y.2)
  exact ⟨by simp,by simp,r1,by simp [r2,valL],fun j _=>r3 j⟩
 ·rintro ⟨i,out⟩ ⟨g1,g2,g3,g4,g5⟩
  try dsimp only at g1 g2 g3 g4 g5
  obtain ⟨c1,c2,c3⟩:=hC
  have c3:List.length x.2+List.length y.2<1000000000000:=c3
  have hB:LB=1000000000:=rfl
  refine s_g hG ?_
  refine ak ?_
  refine ao ?_ ?_
  ·intro hb0
   try simp only [bt] at hb0
   refine ap ?_
   refine ah ?_
   refine ak ?_
   refine aq ?_
   refine s_q hG ?_ ?_
   ·try simp only [ba]
    omega
   refine s_g hG ?_
   refine ak ?_
   refine s_g hG ?_
   refine aq ?_
   refine bn (fun (z:Nat×Int×List Int)=>(⟨[(2, .l (.z (.ptr (.st (.pair .bool (.slice (.int .u32))))) x)),(3, .l (.z (.ptr (.st (.pair .bool (.slice (.int .u32))))) y)),(4, .l (.ownP 4 0)),(5, .l (.ownS 19)),(6, .l (.z (.int .i64) (i:Int))),(7, .l (.z (.int .u32) (List.getD x.2 i 0))),(8, .l (.z (.int .u64) z.2.1)),(21, .l (.z (.slice (.int .u32)) x.2)),(22, .l (.z (.int .i64) (List.length x.2:Int))),(23, .l (.z (.int .i64) (i:Int))),(29, .l (.z (.slice (.int .u32)) y.2)),(30, .l (.z (.int .i64) (List.length y.2:Int))),(31, .l (.z (.int .i64) (z.1:Int)))], [(19, .arr (.int .u32) 161 z.2.2),(4, .box 89 [.z .bool false, .val (.slice none 0 0)])]⟩:aa)) (fun z=>z.1≤List.length y.2∧z.2.2.length=List.length x.2+List.length y.2∧Lim z.2.2∧0≤z.2.1∧z.2.1<LB∧valL z.2.2+LB^(i+z.1)*z.2.1=valL (List.take i x.2)*valL y.2+LB^i*(List.getD x.2 i 0*valL (List.take z.1 y.2))∧∀ j,i+List.length y.2≤j→z.2.2.getD j 0=0) (fun z=>List.length y.2-z.1) (0,0,out) ?_ ?_ ?_
   ·refine q_l ?_
    exact ⟨rfl,rfl⟩
   ·exact ⟨by simp,g2,g3,by simp,by simp;decide,by simp [valL,g4],g5⟩
   ·rintro ⟨k,c,out2⟩ ⟨k1,k2,k3,k4,k5,k6,k7⟩
    try dsimp only at k1 k2 k3 k4 k5 k6 k7
    have e1:IntKind.i64.wrap ((i:Int)+(k:Int))=((i+k:Nat):Int):=by rw [wi (by omega) (by omega)];omega
    refine s_g hG ?_
    refine ak ?_
    refine ao ?_ ?_
    ·intro hb1
     try simp only [bt] at hb1
     refine ap ?_
     refine ah ?_
     refine ak ?_
     refine aq ?_
     refine s_q hG ?_ ?_
     ·try simp only [ba]
      omega
     refine cd (fun (z:Int)=>(⟨[(2, .l (.z (.ptr (.st (.pair .bool (.slice (.int .u32))))) x)),(3, .l (.z (.ptr (.st (.pair .bool (.slice (.int .u32))))) y)),(4, .l (.ownP 4 0)),(5, .l (.ownS 19)),(6, .l (.z (.int .i64) (i:Int))),(7, .l (.z (.int .u32) (List.getD x.2 i 0))),(9, .l (.z (.int .i64) (k:Int))),(11, .l (.z (.int .u64) z)),(21, .l (.z (.slice (.int .u32)) x.2)),(22, .l (.z (.int .i64) (List.length x.2:Int))),(23, .l (.z (.int .i64) (i:Int))),(29, .l (.z (.slice (.int .u32)) y.2)),(30, .l (.z (.int .i64) (List.length y.2:Int))),(31, .l (.z (.int .i64) (k:Int)))], [(19, .arr (.int .u32) 161 out2),(4, .box 89 [.z .bool false, .val (.slice none 0 0)])]⟩:aa)) (fun z=>z=List.getD x.2 i 0*List.getD y.2 k 0+out2.getD (i+k) 0+c) ?_ ?_
     ·refine ag hG ?_ ?_
      ·try simp only [ba]
       rw [e1];omega
      show ∃ z,_
      refine q_l ?_
      rw [e1]
      exact Ms (c1.1.1.getD i) (c2.1.1.getD k) (k3.getD (i+k)) ⟨k4,k5⟩
     rintro n hn
     try dsimp only at hn
     refine ag hG ?_ ?_
     ·try simp only [ba]
      rw [e1];omega
     refine aN ?_
     refine ah ?_
     refine ag hG ?_ ?_
     ·first|trivial|omega|(simp;done)|(simp;omega)
     show ∃ z,_
     refine q_l ?_
     obtain ⟨m0,m1,m2,m3,m4,m5,m6,m7⟩:=mul_step c1.1.1 c2.1.1 k2 k3 k4 k5 (by omega) (by omega) k6 k7 hn
     obtain ⟨t1,t2,t3⟩:=mE m0 m1
     rw [e1,t2,t3,Int.toNat_natCast]
     exact ⟨k+1,by rw [wi (by omega) (by omega)];simp,by omega,m2,m3,m4,m5,m6,m7,by omega⟩
    ·intro hb1
     try simp only [bf] at hb1
     refine bc ?_
     refine aC ?_
     refine av ?_
     refine au ?_
     refine ah ?_
     refine ag hG ?_ ?_
     ·try simp only [ba]
      rw [wi (by omega) (by omega)];omega
     refine aN ?_
     refine ah ?_
     refine ag hG ?_ ?_
     ·first|trivial|omega|(simp;done)|(simp;omega)
     show ∃ z,_
     refine q_l ?_
     have e1:IntKind.i64.wrap ((i:Int)+(List.length y.2:Int))=((i+List.length y.2:Nat):Int):=by rw [wi (by omega) (by omega)];omega
     have hk:k=List.length y.2:=by omega
     subst hk
     rw [List.take_length] at k6
     obtain ⟨f1,f2,f3,f4⟩:=mul_row k2 k3 k4 k5 (by omega) rfl k6 k7
     rw [e1,w32 k4 (by omega),Int.toNat_natCast]
     exact ⟨i+1,by rw [wi (by omega) (by omega)];simp,by omega,f1,f2,f3,f4,by omega⟩
  ·intro hb0
   try simp only [bf] at hb0
   refine bc ?_
   refine aC ?_
   refine av ?_
   refine au ?_
   refine ah ?_
   refine s_q hG ?_ ?_
   ·try simp only [ba]
    exact ⟨g3,by unfold CAP;omega⟩
   refine ax ?_
   refine q_e [] ?_
   have hi:i=List.length x.2:=by omega
   subst hi
   rw [List.take_length] at g4
   rw [← JW g4]
end Go.Proofs.YtdojbabpnaifoaaGreatDoor
end
section
namespace Go.Proofs.YtdojbabpnaifoaaGreatDoor
open Go Go.Cm Go.Proofs
def Dd (B:aj):Tab:={types:= [(3,(.int .i64)),(9, .str)],elems:= [],cons:= [],hint:= [],N:=18,base:=B}
theorem Jm {B:aj} (hB:aA B):aF Tryz.prog (Dd B):=⟨⟨tc ty3 (tc ty9 (ae)),af,by simp only [Dd,ioB];omega⟩,bG rfl,by kernel_rfl⟩
def ot:Con:=fun l os=>match l,os with
 | [.z .str s, .z .str p], []=>some (True, [.z .bool (cQ s p)], [])
 |_,_=>none
theorem La {B:aj} (hB:aA B):Valid B Tryz.prog 139 ot:=by
 refine ab (Jm hB).tab Tryz.func139 rfl rfl rfl ?_
 intro args os C rs os' hc hC
 unfold ot at hc
 split at hc
 case h_2=>cases hc
 rename_i s p
 cases hc
 refine v_h (Jm hB) fun X hP hT hr hG=> ?_
 have hU:=Dd.eq_1
 unfold Dd at hT
 have hX:=Bool.not_true
 simp only [Tryz.f139,aB,al,ioB]
 refine s_g hG ?_
 refine s_q hG ?_ ?_
 ·try simp only [ba]
  (repeat' (first|apply And.intro|intro _))<;>(try simp only [decide_eq_true_eq,decide_eq_false_iff_not,Bool.not_eq_true',beq_iff_eq,Int.toNat_natCast] at*)<;>first|assumption|omega|trivial|(simp_all;done)|(simp_all;omega)
 refine ax ?_
 refine q_e [] ?_
 exact Ej s p
def De (B:aj):Tab:={types:= [(9, .str)],elems:= [],cons:= [(139,ot)],hint:= [],N:=13,base:=B}
theorem Jn {B:aj} (hB:aA B):aF Tryz.prog (De B):=⟨⟨tc ty9 (ae),af,by simp only [De,ioB];omega⟩,aD (cc Tryz.func139 (La hB) (aw)),by kernel_rfl⟩
def et:Con:=fun l os=>match l,os with
 | [.z .str s, .z .str p], []=>some (True, [.z .str (ar s p)], [])
 |_,_=>none
theorem Lb {B:aj} (hB:aA B):Valid B Tryz.prog 186 et:=by
 refine ab (Jn hB).tab Tryz.func186 rfl rfl rfl ?_
 intro args os C rs os' hc hC
 unfold et at hc
 split at hc
 case h_2=>cases hc
 rename_i s p
 cases hc
 refine v_h (Jn hB) fun X hP hT hr hG=> ?_
 have hU:=De.eq_1
 unfold De at hT
 have hX:= @ot.eq_1
 simp only [Tryz.f186,aB,al,ioB]
 refine s_g hG ?_
 refine ak ?_
 refine s_g hG ?_
 refine ao ?_ ?_
 ·intro hb0
  try simp only [bt] at hb0
  refine s_q hG ?_ ?_
  ·try simp only [ba]
   have h:=hb0
   unfold cQ at h
   simp only [Bool.and_eq_true,decide_eq_true_eq] at h
   exact ⟨by omega,by omega,by omega⟩
  refine ax ?_
  refine ay ?_
  refine q_e [] ?_
  simp [ar,hb0]
 ·intro hb0
  try simp only [bf] at hb0
  refine ap ?_
  refine ah ?_
  refine s_g hG ?_
  refine ax ?_
  refine q_e [] ?_
  simp [ar,hb0]
def Df (B:aj):Tab:={types:= [(9, .str)],elems:= [],cons:= [(186,et)],hint:= [],N:=8,base:=B}
theorem Jo {B:aj} (hB:aA B):aF Tryz.prog (Df B):=⟨⟨tc ty9 (ae),af,by simp only [Df,ioB];omega⟩,aD (cc Tryz.func186 (Lb hB) (aw)),by kernel_rfl⟩
theorem Dg {B:aj} (hB:aA B):Valid B Tryz.prog 172 et:=by
 refine ab (Jo hB).tab Tryz.func172 rfl rfl rfl ?_
 intro args os C rs os' hc hC
 unfold et at hc
 split at hc
 case h_2=>cases hc
 rename_i s p
 cases hc
 refine v_h (Jo hB) fun X hP hT hr hG=> ?_
 have hU:=Df.eq_1
 unfold Df at hT
 have hX:= @et.eq_1
 simp only [Tryz.f172,aB,al,ioB]
 refine s_g hG ?_
 refine s_g hG ?_
 refine ax ?_
 refine q_e [] ?_
 trivial
def Dh (B:aj):Tab:={types:= [(87,(.slice (.int .u32)))],elems:= [],cons:= [],hint:= [],N:=4,base:=B}
theorem Jp {B:aj} (hB:aA B):aF Tryz.prog (Dh B):=⟨⟨tc gG (ae),af,by simp only [Dh,ioB];omega⟩,bG rfl,by kernel_rfl⟩
def tU:Con:=fun l os=>match l,os with
 | [.z (.slice (.int .u32)) xs], []=>some (True, [.fn 208 [.z (.ptr (.slice (.int .u32))) xs]], [])
 |_,_=>none
theorem Di {B:aj} (hB:aA B):Valid B Tryz.prog 193 tU:=by
 refine ab (Jp hB).tab Tryz.func193 rfl rfl rfl ?_
 intro args os C rs os' hc hC
 unfold tU at hc
 split at hc
 case h_2=>cases hc
 rename_i xs
 cases hc
 refine v_h (Jp hB) fun X hP hT hr hG=> ?_
 have hU:=Dh.eq_1
 unfold Dh at hT
 have hX:=Bool.not_true
 simp only [Tryz.f193,aB,al,ioB]
 refine s_g hG ?_
 refine s_g hG ?_
 refine ax ?_
 refine q_e [] ?_
 rfl
def Dj (B:aj):Tab:={types:= [(3,(.int .i64)),(4, .bool),(87,(.slice (.int .u32))),(89,(.st (.pair .bool (.slice (.int .u32)))))],elems:= [],cons:= [(152,es),(154,nS),(180,tT)],hint:= [],N:=32,base:=B}
theorem Jq {B:aj} (hB:aA B):aF Tryz.prog (Dj B):=⟨⟨tc ty3 (tc ty4 (tc gG (tc fZ (ae)))),af,by simp only [Dj,ioB];omega⟩,aD (cc Tryz.func152 (vE hB) (cc Tryz.func154 (vD hB) (cc Tryz.func180 (CZ hB) (aw)))),by kernel_rfl⟩
def Lc:Con:=fun l os=>match l,os with
 | [.z (.st (.pair .bool (.slice (.int .u32)))) x, .z (.st (.pair .bool (.slice (.int .u32)))) y], []=>some (WOK x∧WOK y∧x.2.length+y.2.length<CAP, [.z (.int .i64) (bo (dec x) (dec y))], [])
 |_,_=>none
theorem Ld {B:aj} (hB:aA B):Valid B Tryz.prog 168 Lc:=by
 refine ab (Jq hB).tab Tryz.func168 rfl rfl rfl ?_
 intro args os C rs os' hc hC
 unfold Lc at hc
 split at hc
 case h_2=>cases hc
 rename_i x y
 cases hc
 refine v_h (Jq hB) fun X hP hT hr hG=> ?_
 have hU:=Dj.eq_1
 unfold Dj at hT
 have hX:=ai @tT.eq_1<|ai @es.eq_1<| @nS.eq_1
 simp only [Tryz.f168,aB,al,ioB]
 refine s_g hG ?_
 refine ak ?_
 refine s_d hG ?_ ?_
 ·try simp only [ba]
  exact ⟨hC.1,hC.2.1⟩
 refine s_q hG ?_ ?_
 ·try simp only [ba]
  (repeat' (first|apply And.intro|intro _))<;>(try simp only [decide_eq_true_eq,decide_eq_false_iff_not,Bool.not_eq_true',beq_iff_eq,Int.toNat_natCast] at*)<;>first|assumption|omega|trivial|(simp_all;done)|(simp_all;omega)
 refine ao ?_ ?_
 ·intro hb0
  try simp only [bt] at hb0
  refine s_g hG ?_
  refine ax ?_
  refine ay ?_
  refine q_e [] ?_
  exact El hC.1 hb0
 ·intro hb0
  try simp only [bf] at hb0
  refine ap ?_
  refine ah ?_
  refine ak ?_
  refine s_g hG ?_
  refine ao ?_ ?_
  ·intro hb1
   try simp only [bt] at hb1
   refine s_q hG ?_ ?_
   ·try simp only [ba]
    exact ⟨hC.2.1.1,hC.1.1,by omega⟩
   refine ax ?_
   refine ay ?_
   refine q_e [] ?_
   exact (qX hC.1 hC.2.1 hb0).1 hb1
  ·intro hb1
   try simp only [bf] at hb1
   refine ap ?_
   refine ah ?_
   refine s_q hG ?_ ?_
   ·try simp only [ba]
    exact ⟨hC.1.1,hC.2.1.1,by omega⟩
   refine ax ?_
   refine q_e [] ?_
   exact (qX hC.1 hC.2.1 hb0).2 hb1
end Go.Proofs.YtdojbabpnaifoaaGreatDoor
end
